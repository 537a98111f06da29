import Derived.Test.YtoaoejaodhedaaaGreatT24
import Derived.Test.YtoaoejaodhedaaaGreatT26
namespace Go.Proofs.YtoaoejaodhedaaaGreat
open Go.RowKit
open Value renaming slice→V,int→U
open Option renaming none→J,some→N
open IntKind renaming i64→Z
open Obj renaming cells→Y
open Ending renaming returned→K
set_option maxHeartbeats 12800000
set_option maxRecDepth 100000
variable {P b c5 cap dc g k oc p:Nat} {A B:Obj} {a1 a2 a5 da oa:Option Addr} {W W' W0 w w4 w5 wr:World}
def ChS (g p:Nat) (A B:Obj) (W:World):Prop:=W.heap[g]?=N A∧W.heap[p]?=N B
theorem ChS.alloc (h:ChS g p A B W) (X:Obj):ChS g p A B (W.alloc X):=⟨hpKeep h.1 (bal' _ _),hpKeep h.2 (bal' _ _)⟩
theorem ChS.keeps {F:Nat→Prop} (h:ChS g p A B W) (a:Keeps F W W') (d:¬F g) (c:¬F p):ChS g p A B W':=⟨hpKeeps h.1 a d,hpKeeps h.2 a c⟩
theorem ChS.KQ (h:ChS g p A B W) (a:g≠b∧p≠b) (v0 v1 v2 c:Value):ChS g p A B ((((W.setCell ⟨b,0,J⟩ v0).setCell ⟨b,1,J⟩ v1).setCell ⟨b,2,J⟩ v2).setCell ⟨b,3,J⟩ c):=
 h.keeps (F:=(· =b)) (kset' (kset' (kset' (kset' (Keeps.refl _ _) _ _) _ _) _ _) _ _) a.1 a.2
def Lk.aP (s:Lk):Prop:=s.ph=2∨s.ph=3∨s.ph=4
def sX (w:World) (g:Nat) (s':Lk) (e:Int) (r:Ending) (w':World):Prop:=r=K (U Z e)∧LkAt w' g s'∧Keeps (· =g) w w'
theorem tE (g:Nat) (s:Lk) (t:Int) (v:UInt8) (fl:Int) (w:World) (c:LkAt w g s) (j:s.aP) (i:¬(0≤t∧t≤s.til)):
  Calls Tryz.prog 62 #[.pointer (N ⟨g,0,J⟩),.agg #[U Z t,U .u8 (v.toNat:Int),U Z fl]] w (sX w g s 3):=by
 have m:Hid ((decide (0≤t)&&decide (t≤s.til))=false):=by
  show _=_;rw[Bool.and_eq_false_iff];by_cases h:0≤t
  ·exact .inr (decide_eq_false (fun y=>i ⟨h,y⟩))
  ·exact .inl (decide_eq_false h)
 clear i;obtain⟨W0,n,e,a⟩:=eY w (Y #[U Z t,U .u8 (v.toNat:Int),U Z fl] 132);have l0:=c.ah e;have F:=c.lt;have u:w.heap.size<W0.heap.size:=hpLt a;have D:g<W0.heap.size:=l0.lt;have o:=hid (bO g s W0 l0 j);have G:=cF a 0 rfl;have q:∀W,Below W0.heap.size W0 W→W.cell? ⟨g,15,J⟩=N (U Z s.til):=fun W h=>(l0.ah h).cell 15;have l:Below W0.heap.size W0 W0.drew:=(Below.refl _ _).drew;have x:=hid (fun W=>bh t 0 s.til W false m);have z:=hid l0;have C:=hid a;have f:=hid e;have d:=hid n;clear n l0 a e c j m
 go_enter Tryz.func62,Tryz.ntmps62;go_wp2_with fail;rw[d.out];refine o.out.mono ?_;rintro r w1 ⟨rfl,rfl⟩;go_wp2_with fail;go_region_held3 (fun W=>Below W0.heap.size W0 W) ((with_reducible (first|exact l|assumption))) ((go_at_call 104;(with_reducible refine(x.out _).mono ?_);rintro r E ⟨rfl,rfl⟩));go_wp2;go_ret;exact⟨rfl,(z.out.ah (by assumption)),Keeps.af (bt f.out l (Nat.le_refl _))⟩
theorem uc (g:Nat) (s:Lk) (t:Int) (v:UInt8) (fl:Int) (w:World) (e:LkAt w g s) (n:s.aP) (c:0≤t∧t≤s.til) (m:t<s.la):
  Calls Tryz.prog 62 #[.pointer (N ⟨g,0,J⟩),.agg #[U Z t,U .u8 (v.toNat:Int),U Z fl]] w (sX w g s 7):=by
 have o:Hid ((decide (0≤t)&&decide (t≤s.til))=true):=by
  show _=_;rw[decide_eq_true c.1,decide_eq_true c.2];rfl
 have d1:decide (t<s.la)=true:=decide_eq_true m;clear c m;obtain⟨W0,q,i,a⟩:=eY w (Y #[U Z t,U .u8 (v.toNat:Int),U Z fl] 132);have l0:=e.ah i;have G:=e.lt;have z:w.heap.size<W0.heap.size:=hpLt a;have E:g<W0.heap.size:=l0.lt;have y:=hid (bO g s W0 l0 n);have x:=cF a 0 rfl;have d:∀W,Below W0.heap.size W0 W→W.cell? ⟨g,15,J⟩=N (U Z s.til):=fun W h=>(l0.ah h).cell 15;have j:Below W0.heap.size W0 W0.drew:=(Below.refl _ _).drew;have C:=hid (fun W=>bh t 0 s.til W true o);have u:=hid l0;have D:=hid a;have l:=hid i;have f:=hid q;clear q l0 a i e n o
 go_enter Tryz.func62,Tryz.ntmps62;go_wp2_with fail;rw[f.out];refine y.out.mono ?_;rintro r w1 ⟨rfl,rfl⟩;go_wp2_with fail;go_region_held3 (fun W=>Below W0.heap.size W0 W) ((with_reducible (first|exact j|assumption))) ((go_at_call 104;(with_reducible refine(C.out _).mono ?_);rintro r F ⟨rfl,rfl⟩));have f0:=x _ (Below.refl _ _);have f16:W0.cell? ⟨g,16,J⟩=N (U Z s.la):=u.out.cell 16;clear x d;go_wp2_with fail;go_quiet (fail);go_wp2;go_ret;exact⟨rfl,u.out.ah (below_drewN j _),Keeps.af (bt l.out (below_drewN j _) (Nat.le_refl _))⟩
theorem vy (g:Nat) (s:Lk) (t:Int) (v:UInt8) (fl:Int) (w:World) (n:LkAt w g s) (f:0≤t∧t≤s.til) (Q:s.la≤t) (j:s.ph=4∨(s.ph=2∧t≤s.en)):
  Calls Tryz.prog 62 #[.pointer (N ⟨g,0,J⟩),.agg #[U Z t,U .u8 (v.toNat:Int),U Z fl]] w (sX w g {s with la:=t} 0):=by
 have E:Hid ((decide (0≤t)&&decide (t≤s.til))=true):=by
  show _=_;rw[decide_eq_true f.1,decide_eq_true f.2];rfl
 have d1:decide (t<s.la)=false:=decide_eq_false (by omega);have z:s.aP:=j.elim (fun h=>.inr (.inr h)) (fun h=>.inl h.1);clear f Q;obtain⟨W0,K,l,e⟩:=eY w (Y #[U Z t,U .u8 (v.toNat:Int),U Z fl] 132);have l0:=n.ah l;have J1:=n.lt;have T:w.heap.size<W0.heap.size:=hpLt e;have Ub:g<W0.heap.size:=l0.lt;have M:=hid (bO g s W0 l0 z);have L:=cF e 0 rfl;have m:∀W,Below W0.heap.size W0 W→W.cell? ⟨g,15,J⟩=N (U Z s.til):=fun W h=>(l0.ah h).cell 15;have X:Below W0.heap.size W0 W0.drew:=(Below.refl _ _).drew;have O:=hid (fun W=>bh t 0 s.til W true E);have x:=hid l0;have R:=hid e;have q:=hid l;have i:=hid K;clear K l0 e l n z E
 have y:=hid j;clear j;go_enter Tryz.func62,Tryz.ntmps62;go_wp2_with fail;rw[i.out];refine M.out.mono ?_;rintro r w1 ⟨rfl,rfl⟩;go_wp2_with fail;go_region_held3 (fun W=>Below W0.heap.size W0 W) ((with_reducible (first|exact X|assumption))) ((go_at_call 104;(with_reducible refine(O.out _).mono ?_);rintro r wi ⟨rfl,rfl⟩));have f0:=L _ (Below.refl _ _);have f16:W0.cell? ⟨g,16,J⟩=N (U Z s.la):=x.out.cell 16;have V:W0.frozen? ⟨g,16,J⟩=false:=x.out.free 16;clear L m;go_wp2_with fail;go_quiet (fail);go_upto_region 10 with(fail)
 obtain⟨a,c⟩:∃W,W=(W0.drewN (1+nq)).setCell ⟨g,16,J⟩ (U Z t):=⟨_,rfl⟩;rw[←c];have o:LkAt a g {s with la:=t}:=(by rw[c];exact hpSetE (x.out.ah (below_drewN (Below.refl _ _) _)) rfl);have u:a.heap[w.heap.size]?=N (Y #[U Z t,U .u8 (v.toNat:Int),U Z fl] 132):=(by rw[c];exact(hpOther (by omega)).trans (hpKeep R.out (below_drewN (Below.refl _ _) _)));have F:Keeps (· =g) w a:=(by rw[c];exact kset' (Keeps.af (bt q.out (below_drewN (Below.refl _ _) _) (Nat.le_refl _))) _ _);have g0:=cG u 0 rfl;have S:a.cell? ⟨g,14,J⟩=N (U Z s.en):=o.cell 14;have d:=hid o;have P2:=hid u;have C:=hid F;clear c o u F f0 f16 V d1;rcases y.out with G|⟨D,I⟩
 ·have c5:a.cell? ⟨g,5,J⟩=N (U Z 4):=by rw[d.out.cell 5];simp [Lk.cells,G]
  clear G y;go_quiet (fail);go_wp2;go_ret;exact⟨rfl,d.out.ah (below_drewN (Below.refl _ _) _),C.out.trans (Keeps.af (below_drewN (Below.refl _ _) _)) (fun _ _ h=>h)⟩
 ·have c5:a.cell? ⟨g,5,J⟩=N (U Z 2):=by rw[d.out.cell 5];simp [Lk.cells,D]
  have d2:decide (t≤s.en)=true:=decide_eq_true I;clear D I y;go_quiet (fail);go_wp2;go_ret;exact⟨rfl,d.out.ah (below_drewN (Below.refl _ _) _),C.out.trans (Keeps.af (below_drewN (Below.refl _ _) _)) (fun _ _ h=>h)⟩
structure vC (W:World) (g rg:Nat) (s:Lk) (x:Rx) (a:Option Addr) (c:Nat):Prop where
 rx:s.rx=.pointer (N ⟨rg,0,J⟩)
 at_:RxAt W rg x a x.bs.length c
 own:W.ownsRow (rg+1) 5 1 (V a x.bs.length c) x.bs.length (u8s x.bs)
 low:g<rg
 Mg:0≤x.la
 RI:x.la≤s.la
 Qq:x.id≤0
 I2:0≤x.ch
 Nk:x.ch≤40000
 MK:0≤x.t35
 RW:x.t35≤40000
theorem Rx.Ix (x:Rx) (t:Int) (v:UInt8) (fl:Int):(x.char t v fl).act=true:=rfl
theorem Rx.mj (x:Rx) (t:Int) (v:UInt8) (fl:Int):(x.char t v fl).la=t:=rfl
theorem Rx.gK (x:Rx) (t:Int) (v:UInt8) (fl:Int):(x.char t v fl).t35=x.t35:=by unfold Rx.char;split<;>rfl
theorem Rx.jG (x:Rx) (t:Int) (v:UInt8) (fl:Int):(x.char t v fl).ch=x.ch:=by unfold Rx.char;split<;>rfl
theorem Rx.Ez (x:Rx) (t:Int) (v:UInt8) (fl:Int):(x.char t v fl).t15=x.t15:=by unfold Rx.char;split<;>rfl
theorem Rx.KG (x:Rx) (t:Int) (v:UInt8) (fl:Int):(x.char t v fl).id=x.id:=by unfold Rx.char;split<;>rfl
theorem newApart {Q:Nat} {o:Prop} (h:o∨Q≤k) (a:o→k<P) (c:P<Q) (e:k=P):False:=by
 rcases h with h|h
 ·have:=a h;omega
 ·omega
theorem notRx {rg:Nat} {v:Value} (d:g<rg) (c:rg<P) (a:∀k,v.ownBlock=N k→rg+1≤k∧k<P) (k:Nat) (h:k=g∨k=P):¬(k=rg∨v.ownBlock=N k):=by
 rintro (e|e)
 ·rcases h with h|h<;>omega
 ·have:=a k e
  rcases h with h|h<;>omega
def Lk.heard (s:Lk) (x:Rx) (t:Int):Lk:={s with la:=t,ph:=3,til:=t+x.t35+x.ch}
def Kk (w:World) (g rg:Nat) (s:Lk) (x y:Rx) (a:Option Addr) (c:Nat) (t:Int) (r:Ending) (w':World):Prop:=
 ∃a' c',r=K (U Z 0)∧LkAt w' g (s.heard x t)∧RxAt w' rg y a' y.bs.length c'∧w'.ownsRow (rg+1) 5 1 (V a' y.bs.length c') y.bs.length (u8s y.bs)∧
  (∀k,(Value.slice a' y.bs.length c').ownBlock=N k→(Value.slice a x.bs.length c).ownBlock=N k∨w.heap.size≤k)∧Keeps (fun j=>j=g∨j=rg∨(Value.slice a x.bs.length c).ownBlock=N j) w w'
theorem MN {p:Prop} (h:p:=by
 go_quiet (fail)
 go_upto_region 13 with(fail)
 obtain⟨W3,hW3⟩:∃W,W=(W2.drewN nq).setCell ⟨g,5,none⟩ (.int .i64 3):=⟨_,rfl⟩;rw[←hW3];have l3:LkAt W3 g {s with la:=t,ph:=3}:=(by rw[hW3];exact hpSetE (L2.out.ah (below_drewN (Below.refl _ _) _)) rfl);have p3:W3.heap[w.heap.size]?=some (.cells #[.int .i64 t,.int .u8 (v.toNat:Int),.int .i64 fl] 132):=(by rw[hW3];exact(hpOther (by omega)).trans (hpKeep P2.out (below_drewN (Below.refl _ _) _)));have k23:Keeps (· =g) W2 W3:=(by rw[hW3];exact kset' (Keeps.af (below_drewN (Below.refl _ _) _)) _ _);have hx3:RxAt W3 rg x a x.bs.length c:=HX2.out.1.keeps k23 (fun e=>by have:=HX.out.low;have e':rg=g:=e;omega);have ho3:=own_keeps HX2.out.2 k23 (fun k hk e=>by have h1:=(HX2.out.2.lt k hk).1;have:=HX.out.low;have e':k=g:=e;omega);have K3:=hid (K2.out.trans k23 (fun _ _ h=>h));obtain⟨A,hA⟩:∃A,A=Obj.cells (Lk.cells {s with la:=t,ph:=3}) 177 (0,0):=⟨_,rfl⟩;obtain⟨B,hB⟩:∃B,B=Obj.cells #[.int .i64 t,.int .u8 (v.toNat:Int),.int .i64 fl] 132:=⟨_,rfl⟩;have kS:ChS g w.heap.size A B W3:=⟨hA▸l3,hB▸p3⟩;have kD:ChS g w.heap.size A B W3.drew:=kS;have kA:∀X,ChS g w.heap.size A B (W3.alloc X).drew:=(fun X=>kS.alloc X);have c17:∀W,ChS g w.heap.size A B W→W.cell? ⟨g,17,none⟩=some (.pointer (some ⟨rg,0,none⟩)):=(fun W h=>by have h1:=h.1;rw[hA] at h1;rw[hpCell h1 17];simp [Lk.cells,HX.out.rx]);have e0:∀W,ChS g w.heap.size A B W→W.cell? ⟨w.heap.size,0,none⟩=some (.int .i64 t):=(fun W h=>by have h1:=h.2;rw[hB] at h1;exact hpCell h1 0);have e1:∀W,ChS g w.heap.size A B W→W.cell? ⟨w.heap.size,1,none⟩=some (.int .u8 (v.toNat:Int)):=(fun W h=>by have h1:=h.2;rw[hB] at h1;exact hpCell h1 1);have e2:∀W,ChS g w.heap.size A B W→W.cell? ⟨w.heap.size,2,none⟩=some (.int .i64 fl):=(fun W h=>by have h1:=h.2;rw[hB] at h1;exact hpCell h1 2);have HA:=hid hA;have HB:=hid hB;clear hA hB kS;have hg3:g<W3.heap.size:=l3.lt;have hp3:w.heap.size<W3.heap.size:=hpLt p3;have L3:=hid l3;have P3:=hid p3;have HX3:=hid hx3;have HO3:=hid ho3;clear hW3 l3 p3 k23 hx3 ho3 c5 z5 g0 c14
 have HCA:Hid (∀W,Below W3.heap.size W3 W→Calls Tryz.prog 105 #[.pointer (some ⟨rg,0,none⟩),.agg #[.int .i64 t,.int .u8 (v.toNat:Int),.int .i64 fl]] W (RxCharred W rg (rg+1) x (x.char t v fl) a c false)):=(fun W hW=>rxchar_ok rg (rg+1) x a c t v fl W (HX3.out.ah hW) (own_keeps (F:=fun _=>False) HO3.out (Keeps.af hW) (fun _ _ f=>f)) (by omega) (by have:=HX3.out.lt;have:=hW.size;omega) HX.out.Mg (by have:=HX.out.RI;have:=HO.out;omega) (by have:=HX.out.Qq;omega) hm HX.out.I2 HX.out.Nk false he);have HC1:=hid (HCA.out W3.drew (Below.refl _ _).drew);have HC2:Hid (Calls Tryz.prog 105 #[.pointer (some ⟨rg,0,none⟩),.agg #[.int .i64 t,.int .u8 (v.toNat:Int),.int .i64 fl]] (W3.alloc (.cells #[.slice none 0 0,.int .i64 0,.int .i64 0,.int .i64 0] 179)).drew (RxCharred (W3.alloc (.cells #[.slice none 0 0,.int .i64 0,.int .i64 0,.int .i64 0] 179)).drew rg (rg+1) x (x.char t v fl) a c false)):=HCA.out (W3.alloc (.cells #[.slice none 0 0,.int .i64 0,.int .i64 0,.int .i64 0] 179)).drew (bal' W3 _).drew;have HNB:Hid (∀w4,Keeps (fun j=>j=rg∨(Value.slice a x.bs.length c).ownBlock=some j) (W3.alloc (.cells #[.slice none 0 0,.int .i64 0,.int .i64 0,.int .i64 0] 179)).drew w4→w4.heap[W3.heap.size]?=some (.cells #[.slice none 0 0,.int .i64 0,.int .i64 0,.int .i64 0] 179)):=(fun w4 h=>hpKeeps (hpKeep (hpNew W3 (.cells #[.slice none 0 0,.int .i64 0,.int .i64 0,.int .i64 0] 179)) (Below.refl _ _).drew) h (fun e=>e.elim (fun e=>absurd HX3.out.lt (by omega)) (fun e=>absurd (HO3.out.lt _ e).2 (by omega))));have hr3:rg<W3.heap.size:=HX3.out.lt;have HNG:Hid (∀k,(k=g∨k=w.heap.size)→¬(k=rg∨(Value.slice a x.bs.length c).ownBlock=some k)):=notRx HX.out.low HX.out.at_.lt (fun k hk=>HX.out.own.lt k hk)
 have hNE:g≠W3.heap.size∧w.heap.size≠W3.heap.size:=⟨by omega,by omega⟩
 have HS1:Hid (∀w4,Keeps (fun j=>j=rg∨(Value.slice a x.bs.length c).ownBlock=some j) W3.drew w4→ChS g w.heap.size A B w4):=fun w4 h=>kD.keeps h (fun e=>HNG.out g (.inl rfl) e) (fun e=>HNG.out _ (.inr rfl) e)
 have HS2:Hid (∀w4,Keeps (fun j=>j=rg∨(Value.slice a x.bs.length c).ownBlock=some j) (W3.alloc (.cells #[.slice none 0 0,.int .i64 0,.int .i64 0,.int .i64 0] 179)).drew w4→ChS g w.heap.size A B w4):=fun w4 h=>(kA _).keeps h (fun e=>HNG.out g (.inl rfl) e) (fun e=>HNG.out _ (.inr rfl) e)
 go_region_held3 (fun W=>ChS g w.heap.size A B W) ((with_reducible (first|exact kD|exact kA _|exact hS4|exact ChS.alloc hS4 _|exact ChS.KQ hS4 hNE _ _ _ _))) (first|(go_at_call 105;(with_reducible refine HC1.out.mono ?_);rintro r w4 ⟨a',c',a2,n2,c2,z1,z2,z3,rfl,hx4,ho4,hn4,hk4⟩;have hS4:=HS1.out _ hk4)|(go_at_call 105;(with_reducible refine HC2.out.mono ?_);rintro r w4 ⟨a',c',a2,n2,c2,z1,z2,z3,rfl,hx4,ho4,hn4,hk4⟩;have hS4:=HS2.out _ hk4;have p5:=HNB.out _ hk4;have y0:=hpCell p5 0;have y1:=hpCell p5 1;have y2:=hpCell p5 2;have y3:=hpCell p5 3;have v0:=hpFree p5 0;have v1:=hpFree p5 1;have v2:=hpFree p5 2;have v3:=hpFree p5 3))
 all_goals
  first
   |(obtain⟨W5,hW5⟩:∃W,W=w4.alloc (.cells #[.slice a2 n2 c2,.int .i64 z1,.int .i64 z2,.int .i64 z3] 179):=⟨_,rfl⟩;rw[←hW5];have k5:Keeps (· =W3.heap.size) w4 W5:=(by rw[hW5];exact Keeps.af (bal' _ _));have ho5:World.ownsRow W5 (rg+1) 5 1 (.slice a' (x.char t v fl).bs.length c') (x.char t v fl).bs.length (u8s (x.char t v fl).bs):=(by rw[hW5];exact ho4.alloc _);clear hW5)
   |(obtain⟨W5,hW5⟩:∃W,W=(((w4.setCell ⟨W3.heap.size,0,none⟩ (.slice a2 n2 c2)).setCell ⟨W3.heap.size,1,none⟩ (.int .i64 z1)).setCell ⟨W3.heap.size,2,none⟩ (.int .i64 z2)).setCell ⟨W3.heap.size,3,none⟩ (.int .i64 z3):=⟨_,rfl⟩;rw[←hW5];have k5:Keeps (· =W3.heap.size) w4 W5:=(by rw[hW5];exact kset' (kset' (kset' (kset' (Keeps.refl _ _) _ _) _ _) _ _) _ _);have ho5:=own_keeps ho4 k5 (fun k hk e=>newApart (P:=W3.heap.size) (hn4 k hk) (fun h=>(HO3.out.lt k h).2) (by simp) e);clear hW5 p5 y0 y1 y2 y3 v0 v1 v2 v3)
  have hS5:=hS4.keeps k5 hNE.1 hNE.2
  have l5:LkAt W5 g {s with la:=t,ph:=3}:=by have h1:=hS5.1;rw[HA.out] at h1;exact h1
  have hz4:W3.heap.size≤w4.heap.size:=by have:=hk4.size;simp at this;omega
  have hx5:=hx4.keeps k5 (fun e=>by have e':rg=W3.heap.size:=e;omega)
  have HN5:Hid (∀k,(Value.slice a' (x.char t v fl).bs.length c').ownBlock=some k→(Value.slice a x.bs.length c).ownBlock=some k∨w.heap.size≤k):=fun k hk=>(hn4 k hk).imp id (fun h=>by simp at h;omega)
  have HK5:Hid (Keeps (fun j=>j=g∨j=rg∨(Value.slice a x.bs.length c).ownBlock=some j) w W5):=by
   refine((K3.out.mono (fun k _ e=>.inl e)).trans ?_ (fun k _ h=>h)).trans (k5.mono (fun k _ e=>e)) (fun k hk e=>by have e':k=W3.heap.size:=e;omega)
   first
    |exact((Keeps.af (Below.refl _ _).drew).trans hk4 (fun k _ h=>h)).mono (fun k _ e=>.inr e)
    |exact((Keeps.af (bal' _ _).drew).trans hk4 (fun k _ h=>h)).mono (fun k _ e=>.inr e)
  have hr5:=rxdead_yes rg _ a' _ c' W5 hx5 (Rx.Ix x t v fl) (by rw[Rx.mj];exact ht0) (by rw[Rx.mj];exact hm) (by rw[Rx.gK];exact HX.out.MK) (by rw[Rx.gK];exact HX.out.RW) (by rw[Rx.jG];exact HX.out.I2) (by rw[Rx.jG];exact HX.out.Nk)
  rw[Rx.mj,Rx.gK,Rx.jG] at hr5
  have HR5:=hid hr5
  have c17':W5.cell? ⟨g,17,none⟩=some (.pointer (some ⟨rg,0,none⟩)):=c17 _ hS5
  have HX5:=hid hx5
  have HO5:=hid ho5
  have L5:=hid l5
  clear hS5 hS4 k5 ho4 hx4 hn4 hk4 hr5 hx5 ho5 l5 c17 e0 e1 e2 kD kA HCA HC1 HC2 HNB HS1 HS2
  go_wp2_with fail
  refine HR5.out.mono ?_
  rintro r w6 ⟨rfl,hb6⟩
  have l6:=L5.out.ah hb6
  have c15:w6.cell? ⟨g,15,none⟩=some (.int .i64 s.til):=l6.cell 15
  have f15:w6.frozen? ⟨g,15,none⟩=false:=l6.free 15
  have hx6:=HX5.out.ah hb6
  have ho6:=own_keeps (F:=fun _=>False) HO5.out (Keeps.af hb6) (fun _ _ f=>f)
  have L6:=hid l6
  have HX6:=hid hx6
  have HO6:=hid ho6
  have HK6:=hid (HK5.out.trans (Keeps.af hb6) (fun _ _ h=>h))
  clear l6 hx6 ho6 hb6
  go_wp2
  go_ret
  exact⟨a',c',rfl,hpSetE L6.out rfl,HX6.out.keeps (kset' (Keeps.refl (· =g) _) _ _) (fun e=>by have:=HX.out.low;have e':rg=g:=e;omega),own_keeps HO6.out (kset' (Keeps.refl (· =g) _) _ _) (fun k hk e=>by have h1:=(HO6.out.lt k hk).1;have:=HX.out.low;have e':k=g:=e;omega),HN5.out,HK6.out.trans (kset' (Keeps.refl (· =g) _) _ _) (fun k _ h=>.inl h)⟩):p:=h
theorem vz (g rg:Nat) (s:Lk) (x:Rx) (a:Option Addr) (c:Nat) (t:Int) (v:UInt8) (fl:Int) (w:World) (q:LkAt w g s) (hx:vC w g rg s x a c) (i:0≤t∧t≤s.til) (E:s.la≤t) (n:s.ph=3∨(s.ph=2∧s.en<t)) (hm:t≤1152921504606846976) (he:x.ends t=false):
  Calls Tryz.prog 62 #[.pointer (N ⟨g,0,J⟩),.agg #[U Z t,U .u8 (v.toNat:Int),U Z fl]] w (Kk w g rg s x (x.char t v fl) a c t):=by
 have K:Hid ((decide (0≤t)&&decide (t≤s.til))=true):=by
  show _=_;rw[decide_eq_true i.1,decide_eq_true i.2];rfl
 have d1:decide (t<s.la)=false:=decide_eq_false (by omega);have G:s.aP:=n.elim (fun h=>.inr (.inl h)) (fun h=>.inl h.1);have ht0:=i.1;clear i;obtain⟨W0,O,o,l⟩:=eY w (Y #[U Z t,U .u8 (v.toNat:Int),U Z fl] 132);have l0:=q.ah o;have J1:=q.lt;have T:w.heap.size<W0.heap.size:=hpLt l;have Ub:g<W0.heap.size:=l0.lt;have Q:=hid (bO g s W0 l0 G);have e0:=cF l 0 rfl;have c15:∀W,Below W0.heap.size W0 W→W.cell? ⟨g,15,J⟩=N (U Z s.til):=fun W h=>(l0.ah h).cell 15;have kD:Below W0.heap.size W0 W0.drew:=(Below.refl _ _).drew;have R:=hid (fun W=>bh t 0 s.til W true K);have z:=hid l0;have S:=hid l;have C:=hid o;have m:=hid O;clear O l0 l o q G K
 have D:=hid n;have HX:=hid hx;have HO:=hid E;clear n E;go_enter Tryz.func62,Tryz.ntmps62;go_wp2_with fail;rw[m.out];refine Q.out.mono ?_;rintro r w1 ⟨rfl,rfl⟩;go_wp2_with fail;go_region_held3 (fun W=>Below W0.heap.size W0 W) ((with_reducible (first|exact kD|assumption))) ((go_at_call 104;(with_reducible refine(R.out _).mono ?_);rintro r wi ⟨rfl,rfl⟩));have f0:=e0 _ (Below.refl _ _);have f16:W0.cell? ⟨g,16,J⟩=N (U Z s.la):=z.out.cell 16;have UY:W0.frozen? ⟨g,16,J⟩=false:=z.out.free 16;clear e0 c15;go_wp2_with fail;go_quiet (fail);go_upto_region 10 with(fail)
 obtain⟨W2,d⟩:∃W,W=(W0.drewN (1+nq)).setCell ⟨g,16,J⟩ (U Z t):=⟨_,rfl⟩;rw[←d];have u:LkAt W2 g {s with la:=t}:=(by rw[d];exact hpSetE (z.out.ah (below_drewN (Below.refl _ _) _)) rfl);have y:W2.heap[w.heap.size]?=N (Y #[U Z t,U .u8 (v.toNat:Int),U Z fl] 132):=(by rw[d];exact(hpOther (by omega)).trans (hpKeep S.out (below_drewN (Below.refl _ _) _)));have L:Keeps (· =g) w W2:=(by rw[d];exact kset' (Keeps.af (bt C.out (below_drewN (Below.refl _ _) _) (Nat.le_refl _))) _ _);have g0:=cG y 0 rfl;have c14:W2.cell? ⟨g,14,J⟩=N (U Z s.en):=u.cell 14;have L2:=hid u;have P2:=hid y;have K2:=hid L;clear d u y L f0 f16 UY d1;have HX2:Hid (RxAt W2 rg x a x.bs.length c∧W2.ownsRow (rg+1) 5 1 (V a x.bs.length c) x.bs.length (u8s x.bs)):=⟨HX.out.at_.keeps K2.out (fun e=>by have:=HX.out.low;have e':rg=g:=e;omega),own_keeps HX.out.own K2.out (fun k hk e=>by have h1:=(HX.out.own.lt k hk).1;have:=HX.out.low;have e':k=g:=e;omega)⟩
 rcases D.out with M|⟨I,h3⟩
 ·have c5:W2.cell? ⟨g,5,J⟩=N (U Z 3):=by rw[L2.out.cell 5];simp [Lk.cells,M]
  have z5:W2.frozen? ⟨g,5,J⟩=false:=L2.out.free 5;clear M D;exact MN
 ·have c5:W2.cell? ⟨g,5,J⟩=N (U Z 2):=by rw[L2.out.cell 5];simp [Lk.cells,I]
  have z5:W2.frozen? ⟨g,5,J⟩=false:=L2.out.free 5;have d2:decide (t≤s.en)=false:=decide_eq_false (by omega);clear I h3 D;exact MN
def Tf (w:World) (g rg:Nat) (s:Lk) (x:Rx) (a:Option Addr) (c:Nat) (l:List Int) (t:Int) (r:Ending) (w':World):Prop:=
 ∃(sa:Option Addr) (sc:Nat),r=K (U Z 0)∧LkAt w' g (Lk.cL {s with la:=t,ph:=3,til:=t} sa sc)∧SeenAt w' g (Lk.cL {s with la:=t,ph:=3,til:=t} sa sc) (l++[4])∧cZ w (.slice s.sa s.sn s.sc) (V sa (s.sn+1) sc)∧
  Keeps (fun j=>j=g∨j=rg∨(Value.slice a x.bs.length c).ownBlock=N j∨(Value.slice s.sa s.sn s.sc).ownBlock=N j) w w'
theorem Ni {p:Prop} (h:p:=by
 go_quiet (fail)
 go_upto_region 13 with(fail)
 obtain⟨W3,hW3⟩:∃W,W=(W2.drewN nq).setCell ⟨g,5,none⟩ (.int .i64 3):=⟨_,rfl⟩;rw[←hW3];have l3:LkAt W3 g {s with la:=t,ph:=3}:=(by rw[hW3];exact hpSetE (L2.out.ah (below_drewN (Below.refl _ _) _)) rfl);have p3:W3.heap[w.heap.size]?=some (.cells #[.int .i64 t,.int .u8 (v.toNat:Int),.int .i64 fl] 132):=(by rw[hW3];exact(hpOther (by omega)).trans (hpKeep P2.out (below_drewN (Below.refl _ _) _)));have k23:Keeps (· =g) W2 W3:=(by rw[hW3];exact kset' (Keeps.af (below_drewN (Below.refl _ _) _)) _ _);have hx3:RxAt W3 rg x a x.bs.length c:=HX2.out.1.keeps k23 (fun e=>by have:=HX.out.low;have e':rg=g:=e;omega);have ho3:=own_keeps HX2.out.2 k23 (fun k hk e=>by have h1:=(HX2.out.2.lt k hk).1;have:=HX.out.low;have e':k=g:=e;omega);have K3:=hid (K2.out.trans k23 (fun _ _ h=>h));obtain⟨A,hA⟩:∃A,A=Obj.cells (Lk.cells {s with la:=t,ph:=3}) 177 (0,0):=⟨_,rfl⟩;obtain⟨B,hB⟩:∃B,B=Obj.cells #[.int .i64 t,.int .u8 (v.toNat:Int),.int .i64 fl] 132:=⟨_,rfl⟩;have kS:ChS g w.heap.size A B W3:=⟨hA▸l3,hB▸p3⟩;have kD:ChS g w.heap.size A B W3.drew:=kS;have kA:∀X,ChS g w.heap.size A B (W3.alloc X).drew:=(fun X=>kS.alloc X);have c17:∀W,ChS g w.heap.size A B W→W.cell? ⟨g,17,none⟩=some (.pointer (some ⟨rg,0,none⟩)):=(fun W h=>by have h1:=h.1;rw[hA] at h1;rw[hpCell h1 17];simp [Lk.cells,HX.out.rx]);have e0:∀W,ChS g w.heap.size A B W→W.cell? ⟨w.heap.size,0,none⟩=some (.int .i64 t):=(fun W h=>by have h1:=h.2;rw[hB] at h1;exact hpCell h1 0);have e1:∀W,ChS g w.heap.size A B W→W.cell? ⟨w.heap.size,1,none⟩=some (.int .u8 (v.toNat:Int)):=(fun W h=>by have h1:=h.2;rw[hB] at h1;exact hpCell h1 1);have e2:∀W,ChS g w.heap.size A B W→W.cell? ⟨w.heap.size,2,none⟩=some (.int .i64 fl):=(fun W h=>by have h1:=h.2;rw[hB] at h1;exact hpCell h1 2);have HA:=hid hA;have HB:=hid hB;clear hA hB kS;have hg3:g<W3.heap.size:=l3.lt;have hp3:w.heap.size<W3.heap.size:=hpLt p3;have L3:=hid l3;have P3:=hid p3;have HX3:=hid hx3;have HO3:=hid ho3;clear hW3 l3 p3 k23 hx3 ho3 c5 z5 g0 c14
 have HCA:Hid (∀W,Below W3.heap.size W3 W→Calls Tryz.prog 105 #[.pointer (some ⟨rg,0,none⟩),.agg #[.int .i64 t,.int .u8 (v.toNat:Int),.int .i64 fl]] W (RxCharred W rg (rg+1) x (x.char t v fl) a c true)):=(fun W hW=>rxchar_ok rg (rg+1) x a c t v fl W (HX3.out.ah hW) (own_keeps (F:=fun _=>False) HO3.out (Keeps.af hW) (fun _ _ f=>f)) (by omega) (by have:=HX3.out.lt;have:=hW.size;omega) HX.out.Mg (by have:=HX.out.RI;have:=HO.out;omega) (by have:=HX.out.Qq;omega) hm HX.out.I2 HX.out.Nk true he);have HC1:=hid (HCA.out W3.drew (Below.refl _ _).drew);have HC2:Hid (Calls Tryz.prog 105 #[.pointer (some ⟨rg,0,none⟩),.agg #[.int .i64 t,.int .u8 (v.toNat:Int),.int .i64 fl]] (W3.alloc (.cells #[.slice none 0 0,.int .i64 0,.int .i64 0,.int .i64 0] 179)).drew (RxCharred (W3.alloc (.cells #[.slice none 0 0,.int .i64 0,.int .i64 0,.int .i64 0] 179)).drew rg (rg+1) x (x.char t v fl) a c true)):=HCA.out (W3.alloc (.cells #[.slice none 0 0,.int .i64 0,.int .i64 0,.int .i64 0] 179)).drew (bal' W3 _).drew;have HNB:Hid (∀w4,Keeps (fun j=>j=rg∨(Value.slice a x.bs.length c).ownBlock=some j) (W3.alloc (.cells #[.slice none 0 0,.int .i64 0,.int .i64 0,.int .i64 0] 179)).drew w4→w4.heap[W3.heap.size]?=some (.cells #[.slice none 0 0,.int .i64 0,.int .i64 0,.int .i64 0] 179)):=(fun w4 h=>hpKeeps (hpKeep (hpNew W3 (.cells #[.slice none 0 0,.int .i64 0,.int .i64 0,.int .i64 0] 179)) (Below.refl _ _).drew) h (fun e=>e.elim (fun e=>absurd HX3.out.lt (by omega)) (fun e=>absurd (HO3.out.lt _ e).2 (by omega))));have hr3:rg<W3.heap.size:=HX3.out.lt;have HNG:Hid (∀k,(k=g∨k=w.heap.size)→¬(k=rg∨(Value.slice a x.bs.length c).ownBlock=some k)):=notRx HX.out.low HX.out.at_.lt (fun k hk=>HX.out.own.lt k hk)
 have hNE:g≠W3.heap.size∧w.heap.size≠W3.heap.size:=⟨by omega,by omega⟩
 have HS1:Hid (∀w4,Keeps (fun j=>j=rg∨(Value.slice a x.bs.length c).ownBlock=some j) W3.drew w4→ChS g w.heap.size A B w4):=fun w4 h=>kD.keeps h (fun e=>HNG.out g (.inl rfl) e) (fun e=>HNG.out _ (.inr rfl) e)
 have HS2:Hid (∀w4,Keeps (fun j=>j=rg∨(Value.slice a x.bs.length c).ownBlock=some j) (W3.alloc (.cells #[.slice none 0 0,.int .i64 0,.int .i64 0,.int .i64 0] 179)).drew w4→ChS g w.heap.size A B w4):=fun w4 h=>(kA _).keeps h (fun e=>HNG.out g (.inl rfl) e) (fun e=>HNG.out _ (.inr rfl) e)
 go_region_held3 (fun W=>ChS g w.heap.size A B W) ((with_reducible (first|exact kD|exact kA _|exact hS4|exact ChS.alloc hS4 _|exact ChS.KQ hS4 hNE _ _ _ _))) (first|(go_at_call 105;(with_reducible refine HC1.out.mono ?_);rintro r w4 ⟨a',c',a2,n2,c2,z1,z2,z3,rfl,hx4,ho4,hn4,hk4⟩;have hS4:=HS1.out _ hk4)|(go_at_call 105;(with_reducible refine HC2.out.mono ?_);rintro r w4 ⟨a',c',a2,n2,c2,z1,z2,z3,rfl,hx4,ho4,hn4,hk4⟩;have hS4:=HS2.out _ hk4;have p5:=HNB.out _ hk4;have y0:=hpCell p5 0;have y1:=hpCell p5 1;have y2:=hpCell p5 2;have y3:=hpCell p5 3;have v0:=hpFree p5 0;have v1:=hpFree p5 1;have v2:=hpFree p5 2;have v3:=hpFree p5 3))
 all_goals
  first
   |(obtain⟨W5,hW5⟩:∃W,W=w4.alloc (.cells #[.slice a2 n2 c2,.int .i64 z1,.int .i64 z2,.int .i64 z3] 179):=⟨_,rfl⟩;rw[←hW5];have k5:Keeps (· =W3.heap.size) w4 W5:=(by rw[hW5];exact Keeps.af (bal' _ _));have ho5:World.ownsRow W5 (rg+1) 5 1 (.slice a' (x.char t v fl).bs.length c') (x.char t v fl).bs.length (u8s (x.char t v fl).bs):=(by rw[hW5];exact ho4.alloc _);clear hW5)
   |(obtain⟨W5,hW5⟩:∃W,W=(((w4.setCell ⟨W3.heap.size,0,none⟩ (.slice a2 n2 c2)).setCell ⟨W3.heap.size,1,none⟩ (.int .i64 z1)).setCell ⟨W3.heap.size,2,none⟩ (.int .i64 z2)).setCell ⟨W3.heap.size,3,none⟩ (.int .i64 z3):=⟨_,rfl⟩;rw[←hW5];have k5:Keeps (· =W3.heap.size) w4 W5:=(by rw[hW5];exact kset' (kset' (kset' (kset' (Keeps.refl _ _) _ _) _ _) _ _) _ _);have ho5:=own_keeps ho4 k5 (fun k hk e=>newApart (P:=W3.heap.size) (hn4 k hk) (fun h=>(HO3.out.lt k h).2) (by simp) e);clear hW5 p5 y0 y1 y2 y3 v0 v1 v2 v3)
  have hS5:=hS4.keeps k5 hNE.1 hNE.2
  have l5:LkAt W5 g {s with la:=t,ph:=3}:=by have h1:=hS5.1;rw[HA.out] at h1;exact h1
  have hz4:W3.heap.size≤w4.heap.size:=by have:=hk4.size;simp at this;omega
  have hx5:=hx4.keeps k5 (fun e=>by have e':rg=W3.heap.size:=e;omega)
  have HN5:Hid (∀k,(Value.slice a' (x.char t v fl).bs.length c').ownBlock=some k→(Value.slice a x.bs.length c).ownBlock=some k∨w.heap.size≤k):=fun k hk=>(hn4 k hk).imp id (fun h=>by simp at h;omega)
  have HK5:Hid (Keeps (fun j=>j=g∨j=rg∨(Value.slice a x.bs.length c).ownBlock=some j) w W5):=by
   refine((K3.out.mono (fun k _ e=>.inl e)).trans ?_ (fun k _ h=>h)).trans (k5.mono (fun k _ e=>e)) (fun k hk e=>by have e':k=W3.heap.size:=e;omega)
   first
    |exact((Keeps.af (Below.refl _ _).drew).trans hk4 (fun k _ h=>h)).mono (fun k _ e=>.inr e)
    |exact((Keeps.af (bal' _ _).drew).trans hk4 (fun k _ h=>h)).mono (fun k _ e=>.inr e)
  have l7:LkAt (W5.setCell ⟨g,15,none⟩ (.int .i64 t)) g {s with la:=t,ph:=3,til:=t}:=hpSetE l5 rfl
  have k57:Keeps (· =g) W5 (W5.setCell ⟨g,15,none⟩ (.int .i64 t)):=kset' (Keeps.refl _ _) _ _
  have K7:=hid (HK5.out.trans k57 (fun k _ h=>.inl h))
  have s7:SeenAt (W5.setCell ⟨g,15,none⟩ (.int .i64 t)) g {s with la:=t,ph:=3,til:=t} l:=⟨own_keeps HSE.out.own K7.out (fun k hk e=>by
   have h1:=(HSE.out.own.lt k hk).1
   have h2:=hsr k hk
   rcases e with e|e|e
   ·omega
   ·omega
   ·have:=(HX.out.own.lt k e).1;omega),HSE.out.len⟩
  have HJ:=hid (judged_bad g _ l 4 _ l7 s7 (by decide) (by decide) hn he1 he2 hd1 hd2)
  have c15:W5.cell? ⟨g,15,none⟩=some (.int .i64 s.til):=l5.cell 15
  have f15:W5.frozen? ⟨g,15,none⟩=false:=l5.free 15
  have q0:W5.cell? ⟨w.heap.size,0,none⟩=some (.int .i64 t):=e0 _ hS5
  clear hS5 hS4 k5 ho4 hx4 hn4 hk4 hx5 ho5 l5 c17 e0 e1 e2 kD kA HCA HC1 HC2 HNB HS1 HS2 l7 s7 k57
  go_wp2_with fail
  refine HJ.out.mono ?_
  rintro r w8 ⟨sa,sc,rfl,l8,s8,n8,k8⟩
  go_wp2
  go_ret
  refine⟨sa,sc,rfl,l8,s8,?_,?_⟩
  ·exact n8.imp id (fun ⟨j,h,hj⟩=>⟨j,h,Nat.le_trans K7.out.size hj⟩)
  ·refine (K7.out.mono (fun k _ e=>?_)).trans (k8.mono (fun k _ e=>?_)) (fun k _ h=>h)
   ·rcases e with e|e|e
    ·exact .inl e
    ·exact .inr (.inl e)
    ·exact .inr (.inr (.inl e))
   ·rcases e with e|e
    ·exact .inl e
    ·exact .inr (.inr (.inr e))):p:=h
theorem Af (g rg:Nat) (s:Lk) (x:Rx) (a:Option Addr) (c:Nat) (l:List Int) (t:Int) (v:UInt8) (fl:Int) (w:World) (E:LkAt w g s) (hx:vC w g rg s x a c) (hs:SeenAt w g s l) (hsr:∀k,(Value.slice s.sa s.sn s.sc).ownBlock=N k→k<rg) (hn:s.sn≤1000) (he1:0≤s.en) (he2:s.en≤1152921504606846976) (hd1:0≤s.dr) (hd2:s.dr≤100000000) (i:0≤t∧t≤s.til) (G:s.la≤t) (o:s.ph=3∨(s.ph=2∧s.en<t)) (hm:t≤1152921504606846976) (he:x.ends t=true):
  Calls Tryz.prog 62 #[.pointer (N ⟨g,0,J⟩),.agg #[U Z t,U .u8 (v.toNat:Int),U Z fl]] w (Tf w g rg s x a c l t):=by
 have K:Hid ((decide (0≤t)&&decide (t≤s.til))=true):=by
  show _=_;rw[decide_eq_true i.1,decide_eq_true i.2];rfl
 have d1:decide (t<s.la)=false:=decide_eq_false (by omega);have O:s.aP:=o.elim (fun h=>.inr (.inl h)) (fun h=>.inl h.1);have T:=i.1;clear i;obtain⟨W0,M,D,m⟩:=eY w (Y #[U Z t,U .u8 (v.toNat:Int),U Z fl] 132);have l0:=E.ah D;have J1:=E.lt;have ab:w.heap.size<W0.heap.size:=hpLt m;have Ub:g<W0.heap.size:=l0.lt;have Q:=hid (bO g s W0 l0 O);have e0:=cF m 0 rfl;have c15:∀W,Below W0.heap.size W0 W→W.cell? ⟨g,15,J⟩=N (U Z s.til):=fun W h=>(l0.ah h).cell 15;have kD:Below W0.heap.size W0 W0.drew:=(Below.refl _ _).drew;have Ey:=hid (fun W=>bh t 0 s.til W true K);have y:=hid l0;have R:=hid m;have z:=hid D;have n:=hid M;clear M l0 m D E O K
 have C:=hid o;have HX:=hid hx;have HO:=hid G;have HSE:=hid hs;clear hs;clear o G;go_enter Tryz.func62,Tryz.ntmps62;go_wp2_with fail;rw[n.out];refine Q.out.mono ?_;rintro r w1 ⟨rfl,rfl⟩;go_wp2_with fail;go_region_held3 (fun W=>Below W0.heap.size W0 W) ((with_reducible (first|exact kD|assumption))) ((go_at_call 104;(with_reducible refine(Ey.out _).mono ?_);rintro r wi ⟨rfl,rfl⟩));have f0:=e0 _ (Below.refl _ _);have f16:W0.cell? ⟨g,16,J⟩=N (U Z s.la):=y.out.cell 16;have UY:W0.frozen? ⟨g,16,J⟩=false:=y.out.free 16;clear e0 c15;go_wp2_with fail;go_quiet (fail);go_upto_region 10 with(fail)
 obtain⟨W2,d⟩:∃W,W=(W0.drewN (1+nq)).setCell ⟨g,16,J⟩ (U Z t):=⟨_,rfl⟩;rw[←d];have q:LkAt W2 g {s with la:=t}:=(by rw[d];exact hpSetE (y.out.ah (below_drewN (Below.refl _ _) _)) rfl);have u:W2.heap[w.heap.size]?=N (Y #[U Z t,U .u8 (v.toNat:Int),U Z fl] 132):=(by rw[d];exact(hpOther (by omega)).trans (hpKeep R.out (below_drewN (Below.refl _ _) _)));have L:Keeps (· =g) w W2:=(by rw[d];exact kset' (Keeps.af (bt z.out (below_drewN (Below.refl _ _) _) (Nat.le_refl _))) _ _);have g0:=cG u 0 rfl;have c14:W2.cell? ⟨g,14,J⟩=N (U Z s.en):=q.cell 14;have L2:=hid q;have P2:=hid u;have K2:=hid L;clear d q u L f0 f16 UY d1;have HX2:Hid (RxAt W2 rg x a x.bs.length c∧W2.ownsRow (rg+1) 5 1 (V a x.bs.length c) x.bs.length (u8s x.bs)):=⟨HX.out.at_.keeps K2.out (fun e=>by have:=HX.out.low;have e':rg=g:=e;omega),own_keeps HX.out.own K2.out (fun k hk e=>by have h1:=(HX.out.own.lt k hk).1;have:=HX.out.low;have e':k=g:=e;omega)⟩
 rcases C.out with I|⟨h2,S⟩
 ·have c5:W2.cell? ⟨g,5,J⟩=N (U Z 3):=by rw[L2.out.cell 5];simp [Lk.cells,I]
  have z5:W2.frozen? ⟨g,5,J⟩=false:=L2.out.free 5;clear I C;exact Ni
 ·have c5:W2.cell? ⟨g,5,J⟩=N (U Z 2):=by rw[L2.out.cell 5];simp [Lk.cells,h2]
  have z5:W2.frozen? ⟨g,5,J⟩=false:=L2.out.free 5;have d2:decide (t≤s.en)=false:=decide_eq_false (by omega);clear h2 S C;exact Ni
theorem vS (g:Nat) (s:Lk) (l:List Int) (v E ev:Int) (da:Option Addr) (dn dc:Nat) (R lv:Int) (mv:Bool) (nv:Int) (oa:Option Addr) (on oc:Nat) (w:World) (T:LkAt w g s) (hs:SeenAt w g s l) (kz:(v==1)=false) (xl:(v==2)=false) (hn:s.sn≤1000) (ak:0≤s.en) (av:s.en≤1152921504606846976) (ao:0≤s.dr) (ad:s.dr≤100000000):
  Calls Tryz.prog 106 #[.pointer (N ⟨g,0,J⟩),.agg #[U Z v,U Z E,U Z ev,V da dn dc,U Z R,U Z lv,.bool mv,U Z nv,V oa on oc]] w (o0 w g s l v):=by
 obtain⟨i5,hi,ab,S,O⟩:=info_parts NX;have hg:=T.lt;obtain⟨W0,o⟩:∃W,w.alloc (Y #[U Z v,U Z E,U Z ev,V da dn dc,U Z R,U Z lv,.bool mv,U Z nv,V oa on oc] 55)=W:=⟨_,rfl⟩
 have g0:W0.heap[w.heap.size]?=N (Y #[U Z v,U Z E,U Z ev,V da dn dc,U Z R,U Z lv,.bool mv,U Z nv,V oa on oc] 55):=by rw[←o];exact hpNew w _
 have cy:Below w.heap.size w W0:=by rw[←o];exact bal' w _
 have GS:W0.heap.size=w.heap.size+1:=by rw[←o];simp
 have PF:W0.ownsRow (g+1) 3 1 (.slice s.sa s.sn s.sc) s.sn (dQ l):=by rw[←o];exact hs.own.alloc _
 have l0:=T.ah cy;have z:=hid l0;have HS:=hid hs;have C:=hid o;have x0:=cG g0 0 rfl;have Ed:=cG l0 19 rfl;have aX:g+1≤W0.heap.size:=by omega
 have Q:=hid GS;clear T hs o GS;go_enter Tryz.func106,Tryz.ntmps106;go_upto_region 1 with(fail)
 rw[C.out];go_wp2;have Tn:=hid PF;have Om:∀X,(W0.alloc X).cell? ⟨g,19,J⟩=N (.slice s.sa s.sn s.sc):=fun X=>(z.out.ah (bal' _ X)).cell 19
 have U2:Hid ((W0.alloc (Y #[U Z v] 3)).cell? ⟨g,19,J⟩=N (.slice s.sa s.sn s.sc)):=(z.out.ah (bal' _ _)).cell 19;have D:Hid (N g≠(Value.slice s.sa s.sn s.sc).ownBlock):=fun h=>HS.out.apart h.symm
 have Vm:Hid (∀c,(W0.alloc (Y #[U Z v] 3)).drew.grownBy c (Value.slice s.sa s.sn s.sc).ownBlock→c.frozen? ⟨g,19,J⟩=false):=fun c h=>by
  have hb:c.heap[g]?=(W0.alloc (Y #[U Z v] 3)).heap[g]?:=h.block g (by show g<(W0.alloc _).heap.size;simp;omega) D.out;exact hpFree (hb.trans (z.out.ah (bal' _ _))) 19
 go_region_law (refine step_appN rfl (.tmp 23) (.tmp 26) 58 rfl (g+1) 3 i5 (U Z 0) 1 8 Tryz.underlying58 hi ab S O rfl (by decide) (.slice s.sa s.sn s.sc) s.sn (dQ l) rfl (Tn.out.alloc _) ⟨W0.heap.size,0,J⟩ 1 1 [U Z v] rfl rfl (dP W0 [U Z v] _) (by intro u hu;simp at hu;subst hu;rfl) (by unfold maxLen;omega) (by omega) (by simp;omega) ?_;intro v' c a t fW;obtain⟨n,m,rfl⟩:=own_slice a;have Tu:c.cell? ⟨g,19,J⟩=N (.slice s.sa s.sn s.sc):=t.cell (U2.out) D.out;have L:=Vm.out c t)
 all_goals
  have q:c.heap[g]?=N (Y s.cells 177):=(t.block g (by show g<(W0.alloc _).heap.size;simp;omega) D.out).trans (z.out.ah (bal' _ _).drew);have d:LkAt (c.setCell ⟨g,19,J⟩ (V n (s.sn+1) m)) g {s with sa:=n,sn:=s.sn+1,sc:=m}:=hpSetE q rfl;obtain⟨f,i⟩:∃W,W=c.setCell ⟨g,19,J⟩ (V n (s.sn+1) m):=⟨_,rfl⟩
  rw[←i] at d ⊢;have K8:=hid d;have C4:=hid i;have I:f.cell? ⟨g,15,J⟩=N (U Z s.til):=d.cell 15;have G:f.cell? ⟨g,14,J⟩=N (U Z s.en):=d.cell 14;have c4:f.cell? ⟨g,4,J⟩=N (U Z s.dr):=d.cell 4;have c5:f.cell? ⟨g,5,J⟩=N (U Z s.ph):=d.cell 5;have f15:=d.free 15;have f5:=d.free 5;have s1:IntKind.i64.wrap (s.en+s.dr)=s.en+s.dr:=IntWalk.i64_in _ (by omega);obtain⟨M,hM⟩:∃M,(if s.til<s.en+s.dr then s.en+s.dr else s.til)=M:=⟨_,rfl⟩
  have HM:=hid hM;clear q Tu L x0 Ed Om i d U2;go_wp2;go_region
  all_goals
   go_wp2;go_end0;have hm:=HM.out;subst hm;have k1:Keeps (fun j=>j=g∨(Value.slice s.sa s.sn s.sc).ownBlock=N j) w f:=by
    refine(Keeps.af (bt cy (bal' W0 (Y #[U Z v] 3)).drew (Nat.le_refl _))).trans ?_ (fun _ _ h=>h);rw[C4.out];exact(Keeps.bJ (F:=fun j=>j=g∨(Value.slice s.sa s.sn s.sc).ownBlock=N j) t (fun k y=>.inr y)).set ⟨g,19,J⟩ _ (.inl rfl)
   have o1:f.ownsRow (g+1) 3 1 (V n (s.sn+1) m) (s.sn+1) (dQ (l++[v])):=by
    rw[C4.out];have:dQ (l++[v])=dQ l++[U Z v]:=by simp [dQ]
    rw[this];exact own_keeps a (J4 (p:=g)) (fun k y e=>by
     have h1:=(a.lt k y).1
     have h2:k=g:=e
     omega)
   have n1:cZ w (.slice s.sa s.sn s.sc) (V n (s.sn+1) m):=by
    rcases fW with h|⟨j,h,hj⟩
    ·exact .inl h
    ·refine .inr ⟨j,h,?_⟩
     have Lc:(W0.alloc (Y #[U Z v] 3)).heap.size≤j:=hj;simp at Lc;have:=Q.out;omega
   have LM:=hid n1;have K:=hid o1;have x:=hid k1;clear I G c4 c5 f15 f5 s1 hM a t fW o1 k1 n1 Tn Vm;refine⟨n,m,rfl,?_,⟨?_,?_⟩,LM.out,?_⟩
   ·unfold LkAt
    first
     |exact sZ (hpSetE (hpSetE K8.out rfl) rfl)
     |exact hpSetE (hpSetE K8.out rfl) rfl
   ·have r:∀k,(Value.slice n (s.sn+1) m).ownBlock=N k→¬(fun j=>j=g) k:=fun k y e=>by
     have h1:=(K.out.lt k y).1;have h2:k=g:=e;omega
    first
     |exact own_keeps K.out (sr (kset' (kset' (Keeps.refl _ _) _ _) _ _)) r
     |exact own_keeps K.out (kset' (kset' (Keeps.refl _ _) _ _) _ _) r
   ·show (l++[v]).length=s.sn+1
    rw[List.length_append,HS.out.len];rfl
   ·first
     |exact x.out.trans (sr (kset' (kset' (Keeps.refl (· =g) f) _ _) _ _)) (fun _ _ h=>.inl h)
     |exact x.out.trans (kset' (kset' (Keeps.refl (· =g) f) _ _) _ _) (fun _ _ h=>.inl h)
def Lk.gN (s:Lk) (O:Oc) (da:Option Addr) (dc:Nat) (oa:Option Addr) (oc:Nat):Lk:={s with ph:=5,o:=O,da:=da,dn:=O.ae.data.length,dc:=dc,oa:=oa,on:=O.ae.ag.length,oc:=oc}
theorem zk {s:Lk} {O:Oc} (h:LkAt w g s):
  LkAt (((((((((((w).setCell ⟨g,20,J⟩ (U Z O.verdict)).setCell ⟨g,21,J⟩ (U Z O.ae.fn)).setCell ⟨g,22,J⟩ (U Z O.ae.ar)).setCell ⟨g,23,J⟩ (V da O.ae.data.length dc)).setCell ⟨g,24,J⟩ (U Z O.ae.code)).setCell ⟨g,25,J⟩ (U Z O.ae.level)).setCell ⟨g,26,J⟩ (.bool O.ae.more)).setCell ⟨g,27,J⟩ (U Z O.ae.next)).setCell ⟨g,28,J⟩ (V oa O.ae.ag.length oc)).setCell ⟨g,5,J⟩ (U Z 5)) g (s.gN O da dc oa oc)∧Keeps (· =g) w (((((((((((w).setCell ⟨g,20,J⟩ (U Z O.verdict)).setCell ⟨g,21,J⟩ (U Z O.ae.fn)).setCell ⟨g,22,J⟩ (U Z O.ae.ar)).setCell ⟨g,23,J⟩ (V da O.ae.data.length dc)).setCell ⟨g,24,J⟩ (U Z O.ae.code)).setCell ⟨g,25,J⟩ (U Z O.ae.level)).setCell ⟨g,26,J⟩ (.bool O.ae.more)).setCell ⟨g,27,J⟩ (U Z O.ae.next)).setCell ⟨g,28,J⟩ (V oa O.ae.ag.length oc)).setCell ⟨g,5,J⟩ (U Z 5)):=by
 refine⟨?_,kset' (kset' (kset' (kset' (kset' (kset' (kset' (kset' (kset' (kset' (Keeps.refl (· =g) w) 20 (U Z O.verdict)) 21 (U Z O.ae.fn)) 22 (U Z O.ae.ar)) 23 (V da O.ae.data.length dc)) 24 (U Z O.ae.code)) 25 (U Z O.ae.level)) 26 (.bool O.ae.more)) 27 (U Z O.ae.next)) 28 (V oa O.ae.ag.length oc)) 5 (U Z 5)⟩
 ·unfold LkAt
  show _=N (Obj.cells #[U Z s.b,U Z s.p,U Z s.re,U Z s.ti,U Z s.dr,U Z 5,U Z s.un,U Z s.q.fn,U Z s.q.addr,U Z s.q.aF,U Z s.q.code,U Z s.q.obj,.slice s.fa s.fn s.fc,U Z s.now,U Z s.en,U Z s.til,U Z s.la,s.rx,U Z s.bg,.slice s.sa s.sn s.sc,U Z O.verdict,U Z O.ae.fn,U Z O.ae.ar,V da O.ae.data.length dc,U Z O.ae.code,U Z O.ae.level,.bool O.ae.more,U Z O.ae.next,V oa O.ae.ag.length oc] 177);refine hpSetE (c:=#[U Z s.b,U Z s.p,U Z s.re,U Z s.ti,U Z s.dr,U Z s.ph,U Z s.un,U Z s.q.fn,U Z s.q.addr,U Z s.q.aF,U Z s.q.code,U Z s.q.obj,.slice s.fa s.fn s.fc,U Z s.now,U Z s.en,U Z s.til,U Z s.la,s.rx,U Z s.bg,.slice s.sa s.sn s.sc,U Z O.verdict,U Z O.ae.fn,U Z O.ae.ar,V da O.ae.data.length dc,U Z O.ae.code,U Z O.ae.level,.bool O.ae.more,U Z O.ae.next,V oa O.ae.ag.length oc]) ?_ rfl;refine hpSetE (c:=#[U Z s.b,U Z s.p,U Z s.re,U Z s.ti,U Z s.dr,U Z s.ph,U Z s.un,U Z s.q.fn,U Z s.q.addr,U Z s.q.aF,U Z s.q.code,U Z s.q.obj,.slice s.fa s.fn s.fc,U Z s.now,U Z s.en,U Z s.til,U Z s.la,s.rx,U Z s.bg,.slice s.sa s.sn s.sc,U Z O.verdict,U Z O.ae.fn,U Z O.ae.ar,V da O.ae.data.length dc,U Z O.ae.code,U Z O.ae.level,.bool O.ae.more,U Z O.ae.next,.slice s.oa s.on s.oc]) ?_ rfl;refine hpSetE (c:=#[U Z s.b,U Z s.p,U Z s.re,U Z s.ti,U Z s.dr,U Z s.ph,U Z s.un,U Z s.q.fn,U Z s.q.addr,U Z s.q.aF,U Z s.q.code,U Z s.q.obj,.slice s.fa s.fn s.fc,U Z s.now,U Z s.en,U Z s.til,U Z s.la,s.rx,U Z s.bg,.slice s.sa s.sn s.sc,U Z O.verdict,U Z O.ae.fn,U Z O.ae.ar,V da O.ae.data.length dc,U Z O.ae.code,U Z O.ae.level,.bool O.ae.more,U Z s.o.ae.next,.slice s.oa s.on s.oc]) ?_ rfl;refine hpSetE (c:=#[U Z s.b,U Z s.p,U Z s.re,U Z s.ti,U Z s.dr,U Z s.ph,U Z s.un,U Z s.q.fn,U Z s.q.addr,U Z s.q.aF,U Z s.q.code,U Z s.q.obj,.slice s.fa s.fn s.fc,U Z s.now,U Z s.en,U Z s.til,U Z s.la,s.rx,U Z s.bg,.slice s.sa s.sn s.sc,U Z O.verdict,U Z O.ae.fn,U Z O.ae.ar,V da O.ae.data.length dc,U Z O.ae.code,U Z O.ae.level,.bool s.o.ae.more,U Z s.o.ae.next,.slice s.oa s.on s.oc]) ?_ rfl;refine hpSetE (c:=#[U Z s.b,U Z s.p,U Z s.re,U Z s.ti,U Z s.dr,U Z s.ph,U Z s.un,U Z s.q.fn,U Z s.q.addr,U Z s.q.aF,U Z s.q.code,U Z s.q.obj,.slice s.fa s.fn s.fc,U Z s.now,U Z s.en,U Z s.til,U Z s.la,s.rx,U Z s.bg,.slice s.sa s.sn s.sc,U Z O.verdict,U Z O.ae.fn,U Z O.ae.ar,V da O.ae.data.length dc,U Z O.ae.code,U Z s.o.ae.level,.bool s.o.ae.more,U Z s.o.ae.next,.slice s.oa s.on s.oc]) ?_ rfl;refine hpSetE (c:=#[U Z s.b,U Z s.p,U Z s.re,U Z s.ti,U Z s.dr,U Z s.ph,U Z s.un,U Z s.q.fn,U Z s.q.addr,U Z s.q.aF,U Z s.q.code,U Z s.q.obj,.slice s.fa s.fn s.fc,U Z s.now,U Z s.en,U Z s.til,U Z s.la,s.rx,U Z s.bg,.slice s.sa s.sn s.sc,U Z O.verdict,U Z O.ae.fn,U Z O.ae.ar,V da O.ae.data.length dc,U Z s.o.ae.code,U Z s.o.ae.level,.bool s.o.ae.more,U Z s.o.ae.next,.slice s.oa s.on s.oc]) ?_ rfl;refine hpSetE (c:=#[U Z s.b,U Z s.p,U Z s.re,U Z s.ti,U Z s.dr,U Z s.ph,U Z s.un,U Z s.q.fn,U Z s.q.addr,U Z s.q.aF,U Z s.q.code,U Z s.q.obj,.slice s.fa s.fn s.fc,U Z s.now,U Z s.en,U Z s.til,U Z s.la,s.rx,U Z s.bg,.slice s.sa s.sn s.sc,U Z O.verdict,U Z O.ae.fn,U Z O.ae.ar,.slice s.da s.dn s.dc,U Z s.o.ae.code,U Z s.o.ae.level,.bool s.o.ae.more,U Z s.o.ae.next,.slice s.oa s.on s.oc]) ?_ rfl;refine hpSetE (c:=#[U Z s.b,U Z s.p,U Z s.re,U Z s.ti,U Z s.dr,U Z s.ph,U Z s.un,U Z s.q.fn,U Z s.q.addr,U Z s.q.aF,U Z s.q.code,U Z s.q.obj,.slice s.fa s.fn s.fc,U Z s.now,U Z s.en,U Z s.til,U Z s.la,s.rx,U Z s.bg,.slice s.sa s.sn s.sc,U Z O.verdict,U Z O.ae.fn,U Z s.o.ae.ar,.slice s.da s.dn s.dc,U Z s.o.ae.code,U Z s.o.ae.level,.bool s.o.ae.more,U Z s.o.ae.next,.slice s.oa s.on s.oc]) ?_ rfl;refine hpSetE (c:=#[U Z s.b,U Z s.p,U Z s.re,U Z s.ti,U Z s.dr,U Z s.ph,U Z s.un,U Z s.q.fn,U Z s.q.addr,U Z s.q.aF,U Z s.q.code,U Z s.q.obj,.slice s.fa s.fn s.fc,U Z s.now,U Z s.en,U Z s.til,U Z s.la,s.rx,U Z s.bg,.slice s.sa s.sn s.sc,U Z O.verdict,U Z s.o.ae.fn,U Z s.o.ae.ar,.slice s.da s.dn s.dc,U Z s.o.ae.code,U Z s.o.ae.level,.bool s.o.ae.more,U Z s.o.ae.next,.slice s.oa s.on s.oc]) ?_ rfl;refine hpSetE (c:=#[U Z s.b,U Z s.p,U Z s.re,U Z s.ti,U Z s.dr,U Z s.ph,U Z s.un,U Z s.q.fn,U Z s.q.addr,U Z s.q.aF,U Z s.q.code,U Z s.q.obj,.slice s.fa s.fn s.fc,U Z s.now,U Z s.en,U Z s.til,U Z s.la,s.rx,U Z s.bg,.slice s.sa s.sn s.sc,U Z s.o.verdict,U Z s.o.ae.fn,U Z s.o.ae.ar,.slice s.da s.dn s.dc,U Z s.o.ae.code,U Z s.o.ae.level,.bool s.o.ae.more,U Z s.o.ae.next,.slice s.oa s.on s.oc]) ?_ rfl;exact h
def Eo (w:World) (g:Nat) (s':Lk) (r:Ending) (w':World):Prop:=r=K (.tuple #[])∧LkAt w' g s'∧Keeps (· =g) w w'
theorem xG (g:Nat) (s:Lk) (O:Oc) (da:Option Addr) (dc:Nat) (oa:Option Addr) (oc:Nat) (w:World) (a:LkAt w g s) (d:O.verdict=1∨O.verdict=2):
  Calls Tryz.prog 106 #[.pointer (N ⟨g,0,J⟩),.agg #[U Z O.verdict,U Z O.ae.fn,U Z O.ae.ar,V da O.ae.data.length dc,U Z O.ae.code,U Z O.ae.level,.bool O.ae.more,U Z O.ae.next,V oa O.ae.ag.length oc]] w (Eo w g (s.gN O da dc oa oc)):=by
 have q:=a.lt;have c5:=cG a 5 rfl;have f5:=hpFree a 5;have n:=cG a 20 rfl;have f20:=hpFree a 20;have r:=cG a 21 rfl;have f21:=hpFree a 21;have u:=cG a 22 rfl;have f22:=hpFree a 22;have t:=cG a 23 rfl;have f23:=hpFree a 23;have j:=cG a 24 rfl;have f24:=hpFree a 24;have m:=cG a 25 rfl;have f25:=hpFree a 25;have l:=cG a 26 rfl;have f26:=hpFree a 26;have o:=cG a 27 rfl;have f27:=hpFree a 27;have i:=cG a 28 rfl;have f28:=hpFree a 28;have f:=hid a;have e:(O.verdict==1)=true∨((O.verdict==1)=false∧(O.verdict==2)=true):=by
  rcases d with h|h<;>rw[h]<;>decide
 clear a d;rcases e with d1|⟨d1,d2⟩
 all_goals
  go_enter Tryz.func106,Tryz.ntmps106;go_wp2;go_end0;have c:=zk (O:=O) (da:=da) (oa:=oa) (dc:=dc) (oc:=oc) f.out;exact⟨rfl,c.1.ah (bal' _ _),c.2.trans (Keeps.af (bal' _ _)) (fun _ _ h=>h)⟩
def iR (g p:Nat) (s:Lk) (B:Obj) (W:World):Prop:=(∀i,6≤i→i≤11→W.cell? ⟨g,i,J⟩=s.cells[i]?)∧W.heap[p]?=N B
theorem iR.of {s s':Lk} (h:LkAt W g s') (d:s'.un=s.un) (a:s'.q=s.q) (c:W.heap[p]?=N B):iR g p s B W:=by
 refine⟨fun i e f=>?_,c⟩;rw[h.cell i];rcases (show i=6∨i=7∨i=8∨i=9∨i=10∨i=11 by omega) with rfl|rfl|rfl|rfl|rfl|rfl<;>simp [Lk.cells,d,a]
def Ip (w:World) (g rg:Nat) (s:Lk) (l:List Int) (v:Int) (r:Ending) (w':World):Prop:=
 ∃(sa:Option Addr) (sc:Nat),r=K (U Z 0)∧LkAt w' g (Lk.cL {s with now:=s.til} sa sc)∧SeenAt w' g (Lk.cL {s with now:=s.til} sa sc) (l++[v])∧cZ w (.slice s.sa s.sn s.sc) (V sa (s.sn+1) sc)∧
  Keeps (fun j=>j=g∨j=rg∨(Value.slice s.sa s.sn s.sc).ownBlock=N j) w w'
def Dd (w:World) (g rg:Nat) (s:Lk) (O:Oc) (r:Ending) (w':World):Prop:=
 ∃(da:Option Addr) (dc:Nat) (oa:Option Addr) (oc:Nat),r=K (U Z 0)∧LkAt w' g (Lk.gN {s with now:=s.til} O da dc oa oc)∧(∀W,ay w.heap.size w' W→dG W O.ae da dc oa oc)∧Keeps (fun j=>j=g∨j=rg) w w'
theorem vN (g rg:Nat) (s:Lk) (x:Rx) (a:Option Addr) (c:Nat) (l:List Int) (O:Oc) (w:World) (C:LkAt w g s) (L:vC w g rg s x a c) (dV:s.ph=3) (jq:x.act=true) (DT:x.la+x.t35+x.ch≤s.til) (QF:s.til≤1152921504606846976) (hs:SeenAt w g s l) (a3:∀k,(Value.slice s.sa s.sn s.sc).ownBlock=N k→k<rg) (hO:Hid (aT aw s.un s.q x.fl x.bs=O)) (kz:(O.verdict==1)=false) (xl:(O.verdict==2)=false) (hn:s.sn≤1000) (a7:0≤s.en) (ba:s.en≤1152921504606846976) (a8:0≤s.dr) (a6:s.dr≤100000000):
  Calls Tryz.prog 63 #[.pointer (N ⟨g,0,J⟩)] w (Ip w g rg s l O.verdict):=by
 have J1:=C.lt;have bx:=L.at_.lt;have m8:=hid (bO g s w C (.inr (.inl dV)));have c5:w.cell? ⟨g,5,J⟩=N (U Z 3):=by rw[C.cell 5];simp [Lk.cells,dV]
 have HL:=hid C;have u:=hid L;have z:=hid hs;have HT:=hid DT;have QW:=hid jq;have gp:=L.Mg;have bA:=L.MK;have iT:=L.I2;obtain⟨A,K⟩:∃A,A=Obj.cells (Lk.cells s) 177 (0,0):=⟨_,rfl⟩
 have kS:ChS g g A A w:=⟨K▸C,K▸C⟩
 have M:ChS g g A A w.drew:=kS;have kA:∀X,ChS g g A A (w.alloc X).drew:=fun X=>kS.alloc X
 have c17:∀W,ChS g g A A W→W.cell? ⟨g,17,J⟩=N (.pointer (N ⟨rg,0,J⟩)):=fun W h=>by have d:=h.1;rw[K] at d;rw[hpCell d 17];simp [Lk.cells,u.out.rx]
 have av:∀W,ChS g g A A W→W.cell? ⟨g,15,J⟩=N (U Z s.til):=fun W h=>by have d:=h.1;rw[K] at d;rw[hpCell d 15];simp [Lk.cells]
 have D:Hid (∀W,Below w.heap.size w W→Calls Tryz.prog 108 #[.pointer (N ⟨rg,0,J⟩),U Z s.til] W (tZ W rg x a x.bs.length c s.til)):=fun W hW=>sm rg x a _ c s.til W (u.out.at_.ah hW) QW.out u.out.Mg (by have:=HT.out;omega) u.out.MK u.out.RW u.out.I2 u.out.Nk (by have:=u.out.Qq;have:=HT.out;omega) HT.out QF
 have ak:=hid (D.out w.drew (Below.refl _ _).drew);have ad:=hid (D.out (w.alloc (Y #[V none 0 0,U Z 0,U Z 0,U Z 0] 179)).drew (bal' w _).drew);have db:g≠rg:=by have:=u.out.low;omega
 have R:Hid (∀w4,Keeps (· =rg) (w.alloc (Y #[V none 0 0,U Z 0,U Z 0,U Z 0] 179)).drew w4→w4.heap[w.heap.size]?=N (Y #[V none 0 0,U Z 0,U Z 0,U Z 0] 179)):=fun w4 h=>hpKeeps (hpKeep (hpNew w (Y #[V none 0 0,U Z 0,U Z 0,U Z 0] 179)) (Below.refl _ _).drew) h (fun e=>by have e':w.heap.size=rg:=e;omega)
 have ao:Hid (∀w4,Keeps (· =rg) w.drew w4→ChS g g A A w4):=fun w4 h=>M.keeps h db db
 have Q:Hid (∀w4,Keeps (· =rg) (w.alloc (Y #[V none 0 0,U Z 0,U Z 0,U Z 0] 179)).drew w4→ChS g g A A w4):=fun w4 h=>(kA _).keeps h db db
 have aY:g≠w.heap.size∧g≠w.heap.size:=⟨by omega,by omega⟩
 have HA:=hid K;clear C L hs dV DT jq K kS D;go_enter Tryz.func63,Tryz.ntmps63;go_wp2_with (first|(go_at_call 103;(with_reducible refine m8.out.mono ?_);rintro r w1 ⟨rfl,rfl⟩)|fail);go_region_held3 (fun W=>ChS g g A A W) ((with_reducible (first|exact M|exact kA _|exact q|exact ChS.alloc q _|exact ChS.KQ q aY _ _ _ _))) (first|(go_at_call 108;(with_reducible refine ak.out.mono ?_);rintro r w4 ⟨rfl,ab,n⟩;have q:=ao.out _ n)|(go_at_call 108;(with_reducible refine ad.out.mono ?_);rintro r w4 ⟨rfl,ab,n⟩;have q:=Q.out _ n;have y:=R.out _ n;have y0:=hpCell y 0;have y1:=hpCell y 1;have y2:=hpCell y 2;have y3:=hpCell y 3;have v0:=hpFree y 0;have v1:=hpFree y 1;have v2:=hpFree y 2;have v3:=hpFree y 3))
 all_goals
  first
   |(obtain⟨t,m⟩:∃W,W=w4.alloc (Obj.cells #[V a x.bs.length c,U Z x.f1,U Z x.f2,U Z x.fl] 179):=⟨_,rfl⟩;rw[←m];obtain⟨P,v⟩:∃P,P=w4.heap.size:=⟨_,rfl⟩;rw[←v];have q5:t.heap[P]?=N (Obj.cells #[V a x.bs.length c,U Z x.f1,U Z x.f2,U Z x.fl] 179):=(by rw[m,v];exact hpNew _ _);have k5:Keeps (· =P) w4 t:=(by rw[m];exact Keeps.af (bal' _ _));have YG:w.heap.size≤P:=(by have d:=n.size;rw[v];exact d);have Pw:Below w.heap.size w w.drew:=(Below.refl _ _).drew;clear m v)
   |(obtain⟨t,m⟩:∃W,W=(((w4.setCell ⟨w.heap.size,0,J⟩ (V a x.bs.length c)).setCell ⟨w.heap.size,1,J⟩ (U Z x.f1)).setCell ⟨w.heap.size,2,J⟩ (U Z x.f2)).setCell ⟨w.heap.size,3,J⟩ (U Z x.fl):=⟨_,rfl⟩;rw[←m];obtain⟨P,v⟩:∃P,P=w.heap.size:=⟨_,rfl⟩;rw[←v];have q5:t.heap[P]?=N (Obj.cells #[V a x.bs.length c,U Z x.f1,U Z x.f2,U Z x.fl] 179):=(by rw[m,v];exact hpSet (hpSet (hpSet (hpSet y 0 _) 1 _) 2 _) 3 _);have k5:Keeps (· =P) w4 t:=(by rw[m,v];exact kset' (kset' (kset' (kset' (Keeps.refl _ _) _ _) _ _) _ _) _ _);have YG:w.heap.size≤P:=(by rw[v];exact Nat.le_refl _);have Pw:Below w.heap.size w (w.alloc (Y #[V none 0 0,U Z 0,U Z 0,U Z 0] 179)).drew:=(bal' w _).drew;clear m v y y0 y1 y2 y3 v0 v1 v2 v3)
  have D6:P≠g:=by omega
  have bC:P≠rg:=by omega
  have T:=q.keeps k5 (fun e=>D6 (id (show g=P from e)).symm) (fun e=>D6 (id (show g=P from e)).symm);have l5:LkAt t g s:=by have d:=T.1;rw[HA.out] at d;exact d
  have bc:Hid (Keeps (· =rg) w t):=(((Keeps.af Pw).trans n (fun _ _ h=>h)).trans (k5.mono (fun _ _ h=>h)) (fun k I e=>by have e':k=P:=e;omega))
  have Sr:t.cell? ⟨g,15,J⟩=N (U Z s.til):=l5.cell 15;have ZD:t.cell? ⟨g,13,J⟩=N (U Z s.now):=l5.cell 13;have YX:t.frozen? ⟨g,13,J⟩=false:=l5.free 13;have l6:LkAt (t.setCell ⟨g,13,J⟩ (U Z s.til)) g {s with now:=s.til}:=hpSetE l5 rfl;have q6:(t.setCell ⟨g,13,J⟩ (U Z s.til)).heap[P]?=N (Obj.cells #[V a x.bs.length c,U Z x.f1,U Z x.f2,U Z x.fl] 179):=(hpOther D6).trans q5;clear l5 T q k5 n ab c17 av M kA ak ad R ao Q q5 Pw;go_upto_region 11 with(fail)
  obtain⟨o,mF⟩:∃W,W=t.setCell ⟨g,13,J⟩ (U Z s.til):=⟨_,rfl⟩
  rw[←mF] at l6 q6 ⊢;have E:Hid (Keeps (fun j=>j=g∨j=rg) w o):=by
   show Keeps _ _ _;rw[mF];exact(bc.out.mono (fun k _ e=>.inr e)).set ⟨g,13,J⟩ _ (.inl rfl)
  clear Sr ZD YX mF;obtain⟨B,G⟩:∃B,B=Obj.cells #[V a x.bs.length c,U Z x.f1,U Z x.f2,U Z x.fl] 179:=⟨_,rfl⟩
  have M:iR g P s B o.drew:=iR.of (s':={s with now:=s.til}) l6 rfl rfl (G▸q6);have e6:∀W,iR g P s B W→W.cell? ⟨g,6,J⟩=N (U Z s.un):=fun W h=>h.1 6 (by decide) (by decide)
  have e7:∀W,iR g P s B W→W.cell? ⟨g,7,J⟩=N (U Z s.q.fn):=fun W h=>h.1 7 (by decide) (by decide)
  have e8:∀W,iR g P s B W→W.cell? ⟨g,8,J⟩=N (U Z s.q.addr):=fun W h=>h.1 8 (by decide) (by decide)
  have e9:∀W,iR g P s B W→W.cell? ⟨g,9,J⟩=N (U Z s.q.aF):=fun W h=>h.1 9 (by decide) (by decide)
  have a4:∀W,iR g P s B W→W.cell? ⟨g,10,J⟩=N (U Z s.q.code):=fun W h=>h.1 10 (by decide) (by decide)
  have bm:∀W,iR g P s B W→W.cell? ⟨g,11,J⟩=N (U Z s.q.obj):=fun W h=>h.1 11 (by decide) (by decide)
  have f0:∀W,iR g P s B W→W.cell? ⟨P,0,J⟩=N (V a x.bs.length c):=fun W h=>by have d:=h.2;rw[G] at d;exact hpCell d 0
  have f1:∀W,iR g P s B W→W.cell? ⟨P,1,J⟩=N (U Z x.f1):=fun W h=>by have d:=h.2;rw[G] at d;exact hpCell d 1
  have f2:∀W,iR g P s B W→W.cell? ⟨P,2,J⟩=N (U Z x.f2):=fun W h=>by have d:=h.2;rw[G] at d;exact hpCell d 2
  have f3:∀W,iR g P s B W→W.cell? ⟨P,3,J⟩=N (U Z x.fl):=fun W h=>by have d:=h.2;rw[G] at d;exact hpCell d 3
  have fF:Bs o.drew (V a x.bs.length c) x.bs:=(Bs.own (own_keeps u.out.own E.out (fun k I e=>by have d:=(u.out.own.lt k I).1;have:=u.out.low;rcases e with e|e<;>omega))).ah (Below.refl _ _).drew;have P8:=pF s.un s.q.fn s.q.addr s.q.aF s.q.code s.q.obj a _ c x.f1 x.f2 x.fl x.bs o.drew fF;rw[hO.out] at P8;have HJ:=hid P8;have Q6:Hid (o.heap[P]?=N B):=G▸q6;have L6:=hid l6;have Li:Hid (∀i,Below o.drew.heap.size o.drew i→iR g P s B i):=fun i h=>iR.of (s':={s with now:=s.til}) (L6.out.ah (bt (Below.refl _ _).drew h (Nat.le_refl _))) rfl rfl (hpKeep Q6.out (bt (Below.refl _ _).drew h (Nat.le_refl _)))
  clear G fF P8 l6 q6;have a9:(Value.slice s.sa s.sn s.sc).ownBlock≠some P:=fun h=>by have:=(z.out.own.lt P h).2;omega
  have VW:Hid (∀i,Below o.drew.heap.size o.drew i→SeenAt i g {s with now:=s.til} l):=fun i h=>⟨own_keeps (own_keeps z.out.own E.out (fun k I e=>by have d:=(z.out.own.lt k I).1;have h2:=a3 k I;rcases e with e|e<;>omega)) (Keeps.af (F:=fun _=>False) (bt (Below.refl _ _).drew h (Nat.le_refl _))) (fun _ _ f=>f),z.out.len⟩
  have X0:Hid (∀i da dc oa oc,Below o.drew.heap.size o.drew i→Calls Tryz.prog 106 #[.pointer (N ⟨g,0,J⟩),.agg #[U Z O.verdict,U Z O.ae.fn,U Z O.ae.ar,V da O.ae.data.length dc,U Z O.ae.code,U Z O.ae.level,.bool O.ae.more,U Z O.ae.next,V oa O.ae.ag.length oc]] i (o0 i g {s with now:=s.til} l O.verdict)):=fun i da dc oa oc h=>vS g _ l O.verdict _ _ da _ dc _ _ _ _ oa _ oc i (L6.out.ah (bt (Below.refl _ _).drew h (Nat.le_refl _))) (VW.out i h) kz xl hn a7 ba a8 a6
  have YS:Hid (∀i S sa sc,Below o.drew.heap.size o.drew i→LkAt S g (Lk.cL {s with now:=s.til} sa sc)→Keeps (fun j=>j=g∨(Value.slice s.sa s.sn s.sc).ownBlock=N j) i S→iR g P s B S):=fun i S sa sc h C I=>iR.of C rfl rfl (hpKeeps (Li.out i h).2 I (fun e=>e.elim D6 a9))
  go_region_held3 (fun W=>iR g P s B W) ((with_reducible (first|exact M|exact aX|exact LB))) (first|(go_at_call 109;(with_reducible refine HJ.out.mono ?_);rintro r i ⟨da,dc,oa,oc,rfl,bn,kK⟩;have aX:=Li.out _ kK)|(go_at_call 106;(with_reducible refine(X0.out _ _ _ _ _ kK).mono ?_);rintro r S ⟨sa,sc,rfl,l8,s8,n8,k8⟩;have LB:=YS.out _ _ _ _ kK l8 k8))
  all_goals
   have Jd:Hid (Keeps (fun j=>j=g∨j=rg) w i):=E.out.trans (Keeps.af (bt (Below.refl _ _).drew kK (Nat.le_refl _))) (fun _ _ h=>h);clear e6 e7 e8 e9 a4 bm f0 f1 f2 f3 M;go_wp2;go_ret;refine⟨sa,sc,rfl,l8,s8,n8.imp id (fun ⟨j,h,hj⟩=>⟨j,h,Nat.le_trans Jd.out.size hj⟩),(Jd.out.mono (fun k _ e=>e.elim .inl (fun e=>.inr (.inl e)))).trans (k8.mono (fun k _ e=>e.elim .inl (fun e=>.inr (.inr e)))) (fun _ _ h=>h)⟩
theorem uJ (g rg:Nat) (s:Lk) (x:Rx) (a:Option Addr) (c:Nat) (O:Oc) (w:World) (v:LkAt w g s) (F:vC w g rg s x a c) (dV:s.ph=3) (jq:x.act=true) (DT:x.la+x.t35+x.ch≤s.til) (QF:s.til≤1152921504606846976) (hO:Hid (aT aw s.un s.q x.fl x.bs=O)) (hv:O.verdict=1∨O.verdict=2):
  Calls Tryz.prog 63 #[.pointer (N ⟨g,0,J⟩)] w (Dd w g rg s O):=by
 have J1:=v.lt;have a6:=F.at_.lt;have m8:=hid (bO g s w v (.inr (.inl dV)));have c5:w.cell? ⟨g,5,J⟩=N (U Z 3):=by rw[v.cell 5];simp [Lk.cells,dV]
 have HL:=hid v;have q:=hid F;have HT:=hid DT;replace hv:=hid hv;have QW:=hid jq;have gp:=F.Mg;have a7:=F.MK;have iT:=F.I2;obtain⟨A,E⟩:∃A,A=Obj.cells (Lk.cells s) 177 (0,0):=⟨_,rfl⟩
 have kS:ChS g g A A w:=⟨E▸v,E▸v⟩
 have D:ChS g g A A w.drew:=kS;have kA:∀X,ChS g g A A (w.alloc X).drew:=fun X=>kS.alloc X
 have c17:∀W,ChS g g A A W→W.cell? ⟨g,17,J⟩=N (.pointer (N ⟨rg,0,J⟩)):=fun W h=>by have d:=h.1;rw[E] at d;rw[hpCell d 17];simp [Lk.cells,q.out.rx]
 have ak:∀W,ChS g g A A W→W.cell? ⟨g,15,J⟩=N (U Z s.til):=fun W h=>by have d:=h.1;rw[E] at d;rw[hpCell d 15];simp [Lk.cells]
 have y:Hid (∀W,Below w.heap.size w W→Calls Tryz.prog 108 #[.pointer (N ⟨rg,0,J⟩),U Z s.til] W (tZ W rg x a x.bs.length c s.til)):=fun W hW=>sm rg x a _ c s.til W (q.out.at_.ah hW) QW.out q.out.Mg (by have:=HT.out;omega) q.out.MK q.out.RW q.out.I2 q.out.Nk (by have:=q.out.Qq;have:=HT.out;omega) HT.out QF
 have R:=hid (y.out w.drew (Below.refl _ _).drew);have Q:=hid (y.out (w.alloc (Y #[V none 0 0,U Z 0,U Z 0,U Z 0] 179)).drew (bal' w _).drew);have db:g≠rg:=by have:=q.out.low;omega
 have K:Hid (∀w4,Keeps (· =rg) (w.alloc (Y #[V none 0 0,U Z 0,U Z 0,U Z 0] 179)).drew w4→w4.heap[w.heap.size]?=N (Y #[V none 0 0,U Z 0,U Z 0,U Z 0] 179)):=fun w4 h=>hpKeeps (hpKeep (hpNew w (Y #[V none 0 0,U Z 0,U Z 0,U Z 0] 179)) (Below.refl _ _).drew) h (fun e=>by have e':w.heap.size=rg:=e;omega)
 have ab:Hid (∀w4,Keeps (· =rg) w.drew w4→ChS g g A A w4):=fun w4 h=>D.keeps h db db
 have G:Hid (∀w4,Keeps (· =rg) (w.alloc (Y #[V none 0 0,U Z 0,U Z 0,U Z 0] 179)).drew w4→ChS g g A A w4):=fun w4 h=>(kA _).keeps h db db
 have aX:g≠w.heap.size∧g≠w.heap.size:=⟨by omega,by omega⟩
 have HA:=hid E;clear v F dV DT jq E kS y;go_enter Tryz.func63,Tryz.ntmps63;go_wp2_with (first|(go_at_call 103;(with_reducible refine m8.out.mono ?_);rintro r w1 ⟨rfl,rfl⟩)|fail);go_region_held3 (fun W=>ChS g g A A W) ((with_reducible (first|exact D|exact kA _|exact n|exact ChS.alloc n _|exact ChS.KQ n aX _ _ _ _))) (first|(go_at_call 108;(with_reducible refine R.out.mono ?_);rintro r w4 ⟨rfl,M,l⟩;have n:=ab.out _ l)|(go_at_call 108;(with_reducible refine Q.out.mono ?_);rintro r w4 ⟨rfl,M,l⟩;have n:=G.out _ l;have t:=K.out _ l;have y0:=hpCell t 0;have y1:=hpCell t 1;have y2:=hpCell t 2;have y3:=hpCell t 3;have v0:=hpFree t 0;have v1:=hpFree t 1;have v2:=hpFree t 2;have v3:=hpFree t 3))
 all_goals
  first
   |(obtain⟨o,f⟩:∃W,W=w4.alloc (Obj.cells #[V a x.bs.length c,U Z x.f1,U Z x.f2,U Z x.fl] 179):=⟨_,rfl⟩;rw[←f];obtain⟨P,u⟩:∃P,P=w4.heap.size:=⟨_,rfl⟩;rw[←u];have q5:o.heap[P]?=N (Obj.cells #[V a x.bs.length c,U Z x.f1,U Z x.f2,U Z x.fl] 179):=(by rw[f,u];exact hpNew _ _);have k5:Keeps (· =P) w4 o:=(by rw[f];exact Keeps.af (bal' _ _));have YG:w.heap.size≤P:=(by have d:=l.size;rw[u];exact d);have Pw:Below w.heap.size w w.drew:=(Below.refl _ _).drew;clear f u)
   |(obtain⟨o,f⟩:∃W,W=(((w4.setCell ⟨w.heap.size,0,J⟩ (V a x.bs.length c)).setCell ⟨w.heap.size,1,J⟩ (U Z x.f1)).setCell ⟨w.heap.size,2,J⟩ (U Z x.f2)).setCell ⟨w.heap.size,3,J⟩ (U Z x.fl):=⟨_,rfl⟩;rw[←f];obtain⟨P,u⟩:∃P,P=w.heap.size:=⟨_,rfl⟩;rw[←u];have q5:o.heap[P]?=N (Obj.cells #[V a x.bs.length c,U Z x.f1,U Z x.f2,U Z x.fl] 179):=(by rw[f,u];exact hpSet (hpSet (hpSet (hpSet t 0 _) 1 _) 2 _) 3 _);have k5:Keeps (· =P) w4 o:=(by rw[f,u];exact kset' (kset' (kset' (kset' (Keeps.refl _ _) _ _) _ _) _ _) _ _);have YG:w.heap.size≤P:=(by rw[u];exact Nat.le_refl _);have Pw:Below w.heap.size w (w.alloc (Y #[V none 0 0,U Z 0,U Z 0,U Z 0] 179)).drew:=(bal' w _).drew;clear f u t y0 y1 y2 y3 v0 v1 v2 v3)
  have D6:P≠g:=by omega
  have a8:P≠rg:=by omega
  have S:=n.keeps k5 (fun e=>D6 (id (show g=P from e)).symm) (fun e=>D6 (id (show g=P from e)).symm);have T:LkAt o g s:=by have d:=S.1;rw[HA.out] at d;exact d
  have av:Hid (Keeps (· =rg) w o):=(((Keeps.af Pw).trans l (fun _ _ h=>h)).trans (k5.mono (fun _ _ h=>h)) (fun k hk e=>by have e':k=P:=e;omega))
  have Sr:o.cell? ⟨g,15,J⟩=N (U Z s.til):=T.cell 15;have ZD:o.cell? ⟨g,13,J⟩=N (U Z s.now):=T.cell 13;have YX:o.frozen? ⟨g,13,J⟩=false:=T.free 13;have l6:LkAt (o.setCell ⟨g,13,J⟩ (U Z s.til)) g {s with now:=s.til}:=hpSetE T rfl;have q6:(o.setCell ⟨g,13,J⟩ (U Z s.til)).heap[P]?=N (Obj.cells #[V a x.bs.length c,U Z x.f1,U Z x.f2,U Z x.fl] 179):=(hpOther D6).trans q5;clear T S n k5 l M c17 ak D kA R Q K ab G q5 Pw;go_upto_region 11 with(fail)
  obtain⟨m,mF⟩:∃W,W=o.setCell ⟨g,13,J⟩ (U Z s.til):=⟨_,rfl⟩
  rw[←mF] at l6 q6 ⊢;have z:Hid (Keeps (fun j=>j=g∨j=rg) w m):=by
   show Keeps _ _ _;rw[mF];exact(av.out.mono (fun k _ e=>.inr e)).set ⟨g,13,J⟩ _ (.inl rfl)
  clear Sr ZD YX mF;obtain⟨B,C⟩:∃B,B=Obj.cells #[V a x.bs.length c,U Z x.f1,U Z x.f2,U Z x.fl] 179:=⟨_,rfl⟩
  have D:iR g P s B m.drew:=iR.of (s':={s with now:=s.til}) l6 rfl rfl (C▸q6);have e6:∀W,iR g P s B W→W.cell? ⟨g,6,J⟩=N (U Z s.un):=fun W h=>h.1 6 (by decide) (by decide)
  have e7:∀W,iR g P s B W→W.cell? ⟨g,7,J⟩=N (U Z s.q.fn):=fun W h=>h.1 7 (by decide) (by decide)
  have e8:∀W,iR g P s B W→W.cell? ⟨g,8,J⟩=N (U Z s.q.addr):=fun W h=>h.1 8 (by decide) (by decide)
  have e9:∀W,iR g P s B W→W.cell? ⟨g,9,J⟩=N (U Z s.q.aF):=fun W h=>h.1 9 (by decide) (by decide)
  have ad:∀W,iR g P s B W→W.cell? ⟨g,10,J⟩=N (U Z s.q.code):=fun W h=>h.1 10 (by decide) (by decide)
  have a3:∀W,iR g P s B W→W.cell? ⟨g,11,J⟩=N (U Z s.q.obj):=fun W h=>h.1 11 (by decide) (by decide)
  have f0:∀W,iR g P s B W→W.cell? ⟨P,0,J⟩=N (V a x.bs.length c):=fun W h=>by have d:=h.2;rw[C] at d;exact hpCell d 0
  have f1:∀W,iR g P s B W→W.cell? ⟨P,1,J⟩=N (U Z x.f1):=fun W h=>by have d:=h.2;rw[C] at d;exact hpCell d 1
  have f2:∀W,iR g P s B W→W.cell? ⟨P,2,J⟩=N (U Z x.f2):=fun W h=>by have d:=h.2;rw[C] at d;exact hpCell d 2
  have f3:∀W,iR g P s B W→W.cell? ⟨P,3,J⟩=N (U Z x.fl):=fun W h=>by have d:=h.2;rw[C] at d;exact hpCell d 3
  have fF:Bs m.drew (V a x.bs.length c) x.bs:=(Bs.own (own_keeps q.out.own z.out (fun k hk e=>by have d:=(q.out.own.lt k hk).1;have:=q.out.low;rcases e with e|e<;>omega))).ah (Below.refl _ _).drew;have P8:=pF s.un s.q.fn s.q.addr s.q.aF s.q.code s.q.obj a _ c x.f1 x.f2 x.fl x.bs m.drew fF;rw[hO.out] at P8;have HJ:=hid P8;have Q6:Hid (m.heap[P]?=N B):=C▸q6;have L6:=hid l6;have Li:Hid (∀i,Below m.drew.heap.size m.drew i→iR g P s B i):=fun i h=>iR.of (s':={s with now:=s.til}) (L6.out.ah (bt (Below.refl _ _).drew h (Nat.le_refl _))) rfl rfl (hpKeep Q6.out (bt (Below.refl _ _).drew h (Nat.le_refl _)))
  clear C fF P8 l6 q6;have X0:Hid (∀i da dc oa oc,Below m.drew.heap.size m.drew i→Calls Tryz.prog 106 #[.pointer (N ⟨g,0,J⟩),.agg #[U Z O.verdict,U Z O.ae.fn,U Z O.ae.ar,V da O.ae.data.length dc,U Z O.ae.code,U Z O.ae.level,.bool O.ae.more,U Z O.ae.next,V oa O.ae.ag.length oc]] i (Eo i g (Lk.gN {s with now:=s.til} O da dc oa oc))):=fun i da dc oa oc h=>xG g _ O da dc oa oc i (L6.out.ah (bt (Below.refl _ _).drew h (Nat.le_refl _))) hv.out
  have YS:Hid (∀i L da dc oa oc,Below m.drew.heap.size m.drew i→LkAt L g (Lk.gN {s with now:=s.til} O da dc oa oc)→Keeps (· =g) i L→iR g P s B L):=fun i L da dc oa oc h v hk=>iR.of v rfl rfl (hpKeeps (Li.out i h).2 hk D6)
  go_region_held3 (fun W=>iR g P s B W) ((with_reducible (first|exact D|exact ao|exact LB))) (first|(go_at_call 109;(with_reducible refine HJ.out.mono ?_);rintro r i ⟨da,dc,oa,oc,rfl,I,kK⟩;have ao:=Li.out _ kK;have KP:=hid I;clear I)|(go_at_call 106;(with_reducible refine(X0.out _ _ _ _ _ kK).mono ?_);rintro r L ⟨rfl,l8,k8⟩;have LB:=YS.out _ _ _ _ _ _ kK l8 k8))
  all_goals
   have Jd:Hid (Keeps (fun j=>j=g∨j=rg) w i):=z.out.trans (Keeps.af (bt (Below.refl _ _).drew kK (Nat.le_refl _))) (fun _ _ h=>h);have a4:g<m.heap.size:=L6.out.lt;have aY:w.heap.size≤m.heap.size:=z.out.size;clear e6 e7 e8 e9 ad a3 f0 f1 f2 f3 D;go_wp2;go_ret;refine⟨da,dc,oa,oc,rfl,l8,fun W hW=>KP.out W (ay.trans (ay.dg k8 (fun k e=>by have e':k=g:=e;show k<m.heap.size;omega)) (hW.mono aY)),Jd.out.trans (k8.mono (fun k _ e=>.inl e)) (fun _ _ h=>h)⟩
structure Oc.small (O:Oc):Prop where
 data:O.ae.data.length≤1000
 ag:O.ae.ag.length≤1000
 lH:∀(i:Nat) (x:Ob),O.ae.ag[i]?=N x→x.val.length≤1000
def U4 (w:World) (v2:Value):Nat→Prop:=fun k=>v2.ownBlock=N k∨k=w.heap.size∨k=w.heap.size+1
def gS (k:Nat) (w wr:World) (A B:Obj) (v2:Value) (ag:List Ob) (a1:Option Addr) (c1:Nat) (data:List UInt8):Prop:=
 wr.heap[w.heap.size]?=N A∧wr.heap[w.heap.size+1]?=N B∧
  (∃cs,wr.ownsRow (w.heap.size+2) 165 2 v2 ag.length cs∧j0 (U4 w v2) wr cs ag∧∀i x,i<k→ag[i]?=N x→∃a c,cs[i*2+1]?=N (V a x.val.length c)∧∀ad,a=N ad→w.heap.size≤ad.block)∧Bs wr (V a1 data.length c1) data∧(∀ad,a1=N ad→w.heap.size≤ad.block)∧(data≠[]→∀ad,a1=N ad→¬U4 w v2 ad.block)∧Below w.heap.size w wr
theorem gS.start {O:Oc} {c1 c2:Nat} {cs:List Value} (r:W0.heap[w.heap.size]?=N (Y #[U Z O.verdict,U Z O.ae.fn,U Z O.ae.ar,V da O.ae.data.length dc,U Z O.ae.code,U Z O.ae.level,.bool O.ae.more,U Z O.ae.next,V oa O.ae.ag.length oc] 55)) (t:W0.heap[w.heap.size+1]?=N B) (y:W0.heap.size=w.heap.size+2) (v:Below w.heap.size w W0) (m:Below W0.heap.size W0 W)
  (j:W.ownsRow W0.heap.size 5 1 (V a1 O.ae.data.length c1) O.ae.data.length (u8s O.ae.data)) (o2:W.ownsRow W0.heap.size 165 2 (V a2 O.ae.ag.length c2) O.ae.ag.length cs) (l:mI w cs O.ae.ag)
  (q:∀k,(Value.slice a1 O.ae.data.length c1).ownBlock=N k→(Value.slice a2 O.ae.ag.length c2).ownBlock≠some k):
  gS 0 w ((W.setCell ⟨w.heap.size,3,J⟩ (V a1 O.ae.data.length c1)).setCell ⟨w.heap.size,8,J⟩ (V a2 O.ae.ag.length c2)) (Y #[U Z O.verdict,U Z O.ae.fn,U Z O.ae.ar,V a1 O.ae.data.length c1,U Z O.ae.code,U Z O.ae.level,.bool O.ae.more,U Z O.ae.next,V a2 O.ae.ag.length c2] 55) B (V a2 O.ae.ag.length c2) O.ae.ag a1 c1 O.ae.data:=by
 have d:Keeps (· =w.heap.size) W ((W.setCell ⟨w.heap.size,3,J⟩ (V a1 O.ae.data.length c1)).setCell ⟨w.heap.size,8,J⟩ (V a2 O.ae.ag.length c2)):=kset' (kset' (Keeps.refl _ _) _ _) _ _;have n:=bt v m (Nat.le_refl _);refine⟨hpSetE (hpSetE (hpKeep r m) rfl) rfl,hpKeeps (hpKeep t m) d (fun e=>by have o:w.heap.size+1=w.heap.size:=e;omega),⟨cs,own_keeps (own_lower o2 (by omega)) d (fun k f e=>by have h:=(o2.lt k f).1;have o:k=w.heap.size:=e;omega),?_,fun i x h=>absurd h (Nat.not_lt_zero _)⟩,?_,fun a c=>by have h:=(j.lt a.block (by rw[c];rfl)).1;omega,?_,n.trans (d.below n.size (fun k d e=>by omega))⟩
 ·have u:j0 (U4 w (V a2 O.ae.ag.length c2)) W cs O.ae.ag:=j0.of l n (fun k f hF=>by
   rcases hF with h|h|h
   ·have:=(o2.lt k h).1;omega
   ·omega
   ·omega)
  exact u.keeps d (fun k f=>.inr (.inl f))
 ·exact (Bs.own j).tX d (fun s a c e=>by have h:=(j.lt a.block (by rw[c];rfl)).1;have o:a.block=w.heap.size:=e;omega)
 ·intro s a c hF
  have h:=(j.lt a.block (by rw[c];rfl)).1;rcases hF with e|e|e
  ·exact q a.block (by rw[c];rfl) e
  ·omega
  ·omega
theorem gS.step {ag:List Ob} {c1:Nat} {data:List UInt8} (h:gS k w wr A B (V (N ⟨g,0,J⟩) ag.length cap) ag a1 c1 data)
  (m:Below wr.heap.size wr w5) {x:Ob} (s:ag[k]?=N x) {E:TypeId} (d:w5.ownsRow wr.heap.size E 1 (V a5 x.val.length c5) x.val.length (u8s x.val)):
  gS (k+1) w (w5.setCell ⟨g,k*2+1,J⟩ (V a5 x.val.length c5)) A B (V (N ⟨g,0,J⟩) ag.length cap) ag a1 c1 data:=by
 obtain⟨v,u,⟨cs,j,t,Z⟩,T,U,C,o⟩:=h;have hg:=j.lt g rfl;have Y:=o.size;have X:=hpLt v;have G:=hpLt u;have q:Keeps (fun k=>k=g) w5 (w5.setCell ⟨g,k*2+1,J⟩ (V a5 x.val.length c5)):=(Keeps.refl _ _).set _ _ rfl;have z:∀k,k=g→U4 w (V (N ⟨g,0,J⟩) ag.length cap) k:=fun k q=>.inl (by rw[q];rfl)
 have M:=own_keeps j (Keeps.af (F:=fun _=>False) m) (fun _ _ f=>f);have L:=t.keeps (Keeps.af (F:=fun _=>False) m) (fun _ f=>f.elim);have S:x.val≠[]→∀l,a5=N l→¬U4 w (V (N ⟨g,0,J⟩) ag.length cap) l.block:=fun _ l n hF=>by
  have K:=(d.lt l.block (by rw[n];rfl)).1;rcases hF with e|e|e
  ·simp [Value.ownBlock] at e;omega
  ·omega
  ·omega
 refine⟨by rw[rN (by omega),m.block _ X];exact v,by rw[rN (by omega),m.block _ G];exact u,⟨cs.set (k*2+1) (V a5 x.val.length c5),(M.stored _ _).1,?_,?_⟩,?_,U,C,?_⟩
 ·exact (L.set s (Bs.own d) S).keeps q z
 ·intro i y hi r
  have hlen:=t.1;have Q:=(List.getElem?_eq_some_iff.1 s).1;by_cases D:i=k
  ·subst D
   rw[s] at r;cases r;exact⟨a5,c5,List.getElem?_set_self (by omega),fun l n=>by have K:=(d.lt l.block (by rw[n];rfl)).1;omega⟩
  ·obtain ⟨a,c,I,R⟩:=Z i y (by omega) r
   exact⟨a,c,by rw[List.getElem?_set_ne (by omega)];exact I,R⟩
 ·exact (T.ah m).tX q (fun O l n e=>C O l n (z _ e))
 ·exact (bt o m (Nat.le_refl _)).setCell (p:=⟨g,k*2+1,J⟩) (by show w.heap.size≤g;omega) _
theorem gS.ends {O:Oc} {c1 c2:Nat} (F:O.ae.ag.length≤k) (h:gS k w wr A B (V a2 O.ae.ag.length c2) O.ae.ag a1 c1 O.ae.data) (q:dG w O.ae da dc oa oc) (d:Keeps (· =w.heap.size+1) wr w4):
  nz w O (K (.agg #[U Z O.verdict,U Z O.ae.fn,U Z O.ae.ar,V a1 O.ae.data.length c1,U Z O.ae.code,U Z O.ae.level,.bool O.ae.more,U Z O.ae.next,V a2 O.ae.ag.length c2])) w4:=by
 obtain⟨_,_,⟨N,f,z,L⟩,G,I,M,l⟩:=h;have u:=G.tX d (fun D E t e=>M D E t (.inr (.inr e)));have m:=own_keeps f d (fun k C e=>by have:=(f.lt k C).1;have S:k=w.heap.size+1:=e;omega);have j:=(z.keeps d (fun k e=>.inr (.inr e))).cs;refine⟨a1,c1,a2,c2,rfl,fun W n=>⟨u.kj I n,?_,q.hi,q.lo⟩,l.trans (d.below l.size (fun k F e=>by omega))⟩;refine cY.iq (di (own_lower (base':=w.heap.size) m (by omega)) (Nat.le_refl _) n) ⟨j.1,fun i x o=>?_⟩ rfl;obtain⟨v,a,c,r,J⟩:=j.2 i x o;obtain⟨R,Q,s,y⟩:=L i x (by have:=(List.getElem?_eq_some_iff.1 o).1;omega) o;rw[r] at s;cases s;exact⟨v,a,c,r,J.kj y n⟩
theorem yP (O:Oc) (da oa:Option Addr) (dc oc:Nat) (w:World) (hr:dG w O.ae da dc oa oc) (hs:O.small):
  Calls Tryz.prog 111 #[.agg #[U Z O.verdict,U Z O.ae.fn,U Z O.ae.ar,V da O.ae.data.length dc,U Z O.ae.code,U Z O.ae.level,.bool O.ae.more,U Z O.ae.next,V oa O.ae.ag.length oc]] w (nz w O):=by
 obtain⟨W0,z⟩:∃W,W=(w.alloc (Y #[U Z O.verdict,U Z O.ae.fn,U Z O.ae.ar,V da O.ae.data.length dc,U Z O.ae.code,U Z O.ae.level,.bool O.ae.more,U Z O.ae.next,V oa O.ae.ag.length oc] 55)).alloc (Y #[U Z 0,U Z 0,U Z 0,V none 0 0,U Z 0,U Z 0,.bool false,U Z 0,V none 0 0] 55):=⟨_,rfl⟩
 have cy:Below w.heap.size w W0:=by rw[z];exact bta (bal' w _) (Nat.le_refl _) _
 have Q:W0.heap.size=w.heap.size+2:=by rw[z];simp
 have pA:W0.heap[w.heap.size]?=N (Y #[U Z O.verdict,U Z O.ae.fn,U Z O.ae.ar,V da O.ae.data.length dc,U Z O.ae.code,U Z O.ae.level,.bool O.ae.more,U Z O.ae.next,V oa O.ae.ag.length oc] 55):=by rw[z];exact hpKeep (hpNew w _) (bal' _ _)
 have pB:W0.heap[w.heap.size+1]?=N (Y #[U Z 0,U Z 0,U Z 0,V none 0 0,U Z 0,U Z 0,.bool false,U Z 0,V none 0 0] 55):=by
  rw[z];have:=hpNew (w.alloc (Y #[U Z O.verdict,U Z O.ae.fn,U Z O.ae.ar,V da O.ae.data.length dc,U Z O.ae.code,U Z O.ae.level,.bool O.ae.more,U Z O.ae.next,V oa O.ae.ag.length oc] 55)) (Y #[U Z 0,U Z 0,U Z 0,V none 0 0,U Z 0,U Z 0,.bool false,U Z 0,V none 0 0] 55);simpa using this
 have X:=hid hs;have HR:=hid hr;have j:=hid pA;have Lp:=hid pB;have s:=hid cy;have yt:=hid Q;have c3:=cF j.out 3 rfl;have c8:=cF j.out 8 rfl;have y:Below W0.heap.size W0 W0.drew:=(Below.refl _ _).drew;have I:Hid (∀W,Below W0.heap.size W0 W→Calls Tryz.prog 80 #[V da O.ae.data.length dc] W fun r o=>∃a c,r=K (V a O.ae.data.length c)∧o.ownsRow W.heap.size 5 1 (V a O.ae.data.length c) O.ae.data.length (u8s O.ae.data)∧Below W.heap.size W o):=fun W D=>by
  refine(bY _ O.ae.data W ((HR.out.1.ah s.out).ah D) (by have:=X.out.data;omega)).mono ?_;rintro r o ⟨T,rfl,d,hb⟩;obtain⟨a,c,rfl⟩:=own_slice d;exact⟨a,c,rfl,d,hb⟩
 have E:Hid (∀W,Below W0.heap.size W0 W→Calls Tryz.prog 118 #[V oa O.ae.ag.length oc] W fun r o=>∃a c cs,r=K (V a O.ae.ag.length c)∧o.ownsRow W.heap.size 165 2 (V a O.ae.ag.length c) O.ae.ag.length cs∧mI w cs O.ae.ag∧Below W.heap.size W o):=fun W D=>by
  refine(qL _ O.ae.ag w W HR.out.2 (bt s.out D (Nat.le_refl _)) (by have:=X.out.ag;omega)).mono ?_;rintro r o ⟨T,cs,rfl,d,ad,hb⟩;obtain⟨a,c,rfl⟩:=own_slice d;exact⟨a,c,cs,rfl,d,ad,hb⟩
 have ab:=hid z;clear z hr hs pA pB cy Q;go_enter Tryz.func111,Tryz.ntmps111;go_upto_region 2 with(fail)
 rw[←ab.out];go_cut [3] from 6 to 22 (fun s3 wc=>s3=.pointer (N ⟨w.heap.size,1,J⟩)∧∃a1 c1 a2 c2,Hid (gS 0 w wc (Y #[U Z O.verdict,U Z O.ae.fn,U Z O.ae.ar,V a1 O.ae.data.length c1,U Z O.ae.code,U Z O.ae.level,.bool O.ae.more,U Z O.ae.next,V a2 O.ae.ag.length c2] 55) (Y #[U Z 0,U Z 0,U Z 0,V none 0 0,U Z 0,U Z 0,.bool false,U Z 0,V none 0 0] 55) (V a2 O.ae.ag.length c2) O.ae.ag a1 c1 O.ae.data))
 case first=>
  go_region_with (first|(go_at_call 80;(with_reducible refine(I.out _ y).mono ?_);rintro r w1 ⟨a1,c1,rfl,C,u⟩;have t:=bt y u (Nat.le_refl _))|(go_at_call 80;(with_reducible refine(I.out _ e).mono ?_);rintro r w1 ⟨a1,c1,rfl,C,u⟩;have t:=bt e u (Nat.le_refl _);have z3:=hpCell (hpKeep j.out t) 3;have z8:=hpCell (hpKeep j.out t) 8;have y3:=hpFree (hpKeep j.out t) 3;have y8:=hpFree (hpKeep j.out t) 8)|(go_at_call 118;(with_reducible refine(E.out _ y).mono ?_);rintro r w2 ⟨a2,c2,av,rfl,G,Rz,q⟩;have e:=bt y q (Nat.le_refl _))|(go_at_call 118;(with_reducible refine(E.out _ t).mono ?_);rintro r w2 ⟨a2,c2,av,rfl,G,Rz,q⟩;have e:=bt t q (Nat.le_refl _);have z3:=hpCell (hpKeep j.out e) 3;have z8:=hpCell (hpKeep j.out e) 8;have y3:=hpFree (hpKeep j.out e) 3;have y8:=hpFree (hpKeep j.out e) 8))
  all_goals
   first
    |(have i:=hid (gS.start j.out Lp.out yt.out s.out e (own_lower (own_keeps (F:=fun _=>False) C (Keeps.af q) (fun _ _ f=>f)) y.size) (own_lower G t.size) Rz (fun k h1 h2=>by have S:=(C.lt k h1).2;have L:=(G.lt k h2).1;omega)))
    |(have i:=hid (gS.start j.out Lp.out yt.out s.out t (own_lower C e.size) (own_lower (own_keeps (F:=fun _=>False) G (Keeps.af u) (fun _ _ f=>f)) y.size) Rz (fun k h1 h2=>by have S:=(C.lt k h1).1;have L:=(G.lt k h2).2;omega)))
   clear c3 c8 y;go_wp2_with fail;go_meet
   case rel=>exact⟨rfl,_,_,_,_,i.out⟩
 case rest=>
  obtain⟨rfl,a1,c1,a2,c2,i⟩:=hcut;have XH:wc.cell? ⟨w.heap.size,8,J⟩=N (V a2 O.ae.ag.length c2):=hpCell i.out.1 8;obtain⟨n,hN⟩:=gE O.ae.ag.length;have R:=hid hN;have xp:n≤1000:=by have:=X.out.ag;omega
  rw[hN] at XH;clear c3 c8 y hN;go_wp2_with fail;clear XH;go_loopw [27] (fun idx wr=>∃k:Nat,k≤n∧idx=U Z k∧Hid (gS k w wr (Y #[U Z O.verdict,U Z O.ae.fn,U Z O.ae.ar,V a1 O.ae.data.length c1,U Z O.ae.code,U Z O.ae.level,.bool O.ae.more,U Z O.ae.next,V a2 O.ae.ag.length c2] 55) (Y #[U Z 0,U Z 0,U Z 0,V none 0 0,U Z 0,U Z 0,.bool false,U Z 0,V none 0 0] 55) (V a2 O.ae.ag.length c2) O.ae.ag a1 c1 O.ae.data)) (fun idx _=>n- (intOf idx).toNat)
  case atStart=>exact⟨0,Nat.zero_le _,rfl,i.out⟩
  case round=>
   obtain⟨k,hk,rfl,hrel⟩:=hrel;by_cases aX:k<n
   ·obtain ⟨x,eR⟩:=get_some (l:=O.ae.ag) rfl (by rw[R.out];exact aX)
    obtain⟨M,gB,⟨Fk,d,zh,mH⟩,fF,VJ,RU,ao⟩:=hrel.out;obtain⟨g,cap,hv,hg,dM,cj⟩:=cK d (by rw[R.out];omega);simp only[Value.slice.injEq,true_and] at hv;obtain⟨rfl,rfl⟩:=hv;obtain⟨_,xa,xc,tI,gy,_⟩:=zh.2 k x eR;have S:wr.cell? ⟨w.heap.size,8,J⟩=N (V (N ⟨g,0,J⟩) n c2):=by rw[←R.out];exact aM M 8
    have L:wr.cell? ⟨g,k*2+1,J⟩=N (V xa x.val.length xc):=by rw[d.cellAt _ (by rw[R.out];omega)];exact tI
    have e3:wr.frozen? ⟨g,k*2+1,J⟩=false:=d.frozenAt _;have BA:=(d.lt g rfl).2;have aY:=X.out.lH k x eR;have m7:Hid (∀W,Below wr.heap.size wr W→Calls Tryz.prog 80 #[V xa x.val.length xc] W fun r o=>∃T,r=K T∧o.ownsRow W.heap.size 5 1 T x.val.length (u8s x.val)∧Below W.heap.size W o):=fun W D=>bY _ x.val W (gy.ah D) (by omega)
    have HX:=hid eR;clear M gB d zh mH fF VJ RU ao eR tI gy i;have a3:(k:Int)<(n:Int):=by omega
    have uU:(0:Int)≤(k:Int):=Int.natCast_nonneg _;go_wp2_with fail;go_region_with (go_at_call 80;refine(m7.out _ (Below.refl _ _).drew).mono ?_;rintro r w5 ⟨v5,rfl,m,fU⟩;obtain⟨a5,c5,rfl⟩:=own_slice m;have Xs:w5.frozen? ⟨g,k*2+1,J⟩=false:=(by rw[fU.frozen (p:=⟨g,k*2+1,J⟩) BA];exact e3);have YP:w5.cell? ⟨w.heap.size,8,J⟩=N (V (N ⟨g,0,J⟩) n c2):=cell_keep (w1:=wr.drew) fU S;have a4:w5.cell? ⟨g,k*2+1,J⟩=N (V xa x.val.length xc):=cell_keep (w1:=wr.drew) fU L)
    all_goals
     have HN:Hid (gS (k+1) w (w5.setCell ⟨g,k*2+1,J⟩ (V a5 x.val.length c5)) (Y #[U Z O.verdict,U Z O.ae.fn,U Z O.ae.ar,V a1 O.ae.data.length c1,U Z O.ae.code,U Z O.ae.level,.bool O.ae.more,U Z O.ae.next,V (N ⟨g,0,J⟩) O.ae.ag.length c2] 55) (Y #[U Z 0,U Z 0,U Z 0,V none 0 0,U Z 0,U Z 0,.bool false,U Z 0,V none 0 0] 55) (V (N ⟨g,0,J⟩) O.ae.ag.length c2) O.ae.ag a1 c1 O.ae.data):=hrel.out.step (w5:=w5) (show Below wr.heap.size wr w5 from (Below.refl _ _).drew.trans fU) HX.out m;go_wp2;go_roundw
     case rel=>exact⟨k+1,by omega,by go_num,HN.out⟩
     case measure=>simp [intOf];omega
   ·obtain ⟨M,gB,_⟩:=hrel.out
    have ff:=hpLt gB;obtain⟨e0,S,L,e3,e4,e5,e6,e7,e8⟩:=I8 M
    clear i M;go_wp2_with (refine wpList_storeW rfl 55 (.tmp 2) (.tmp 47) rfl (w.heap.size+1) 0 _ _ (#[U Z O.verdict,U Z O.ae.fn,U Z O.ae.ar,V a1 O.ae.data.length c1,U Z O.ae.code,U Z O.ae.level,.bool O.ae.more,U Z O.ae.next,V a2 O.ae.ag.length c2]) rfl rfl gB (by simp) (by kernel_rfl) (by rfl) ?_;intro w4 g4 ak a6);clear e0 S L e3 e4 e5 e6 e7 e8;obtain⟨q0,q1,q2,q3,q4,q5,q6,q7,q8⟩:=I8 g4
    refine bodyPost_ret (v:=.agg #[U Z O.verdict,U Z O.ae.fn,U Z O.ae.ar,V a1 O.ae.data.length c1,U Z O.ae.code,U Z O.ae.level,.bool O.ae.more,U Z O.ae.next,V a2 O.ae.ag.length c2]) (by simp [results,Tryz.results111,go_sem,q0,q1,q2,q3,q4,q5,q6,q7,q8]) rfl ?_;have Xq:n≤k:=by omega
    exact gS.ends (by rw[R.out];exact Xq) hrel.out HR.out ak
theorem xV (iM:List UInt8→Bool) (u:Int) (q:Rq) (fl:Int) (b:List UInt8):(aT iM u q fl b).small:=by
 have a:∀v,Oc.small ⟨v,Rp.zero⟩:=fun v=>⟨Nat.zero_le _,Nat.zero_le _,fun i x h=>by simp [Rp.zero] at h⟩
 unfold aT;split
 ·split
  ·unfold eN
   split
   ·rename_i r f
    obtain⟨c,e,d⟩:=wR (GP f)
    repeat' split
    ·exact a _
    ·exact ⟨c,e,d⟩
    ·exact ⟨c,e,d⟩
   ·exact a _
  ·exact a _
 ·exact a _
theorem q9 (iM:List UInt8→Bool) (u:Int) (q:Rq) (fl:Int) (b:List UInt8):(aT iM u q fl b).verdict=1∨(aT iM u q fl b).verdict=2∨(aT iM u q fl b).verdict=4∨(aT iM u q fl b).verdict=5:=by
 unfold aT;split
 ·split
  ·unfold eN
   split
   ·repeat' split
    all_goals simp
   ·simp
  ·simp
 ·simp
structure BF (w:World) (s:Lk):Prop where
 rp:dG w s.o.ae s.da s.dc s.oa s.oc
 dn:s.dn=s.o.ae.data.length
 on:s.on=s.o.ae.ag.length
 small:s.o.small
def Mc (w:World) (o:Oc) (r:Ending) (w':World):Prop:=∃(da:Option Addr) (dc:Nat) (oa:Option Addr) (oc:Nat),r=K (.tuple #[.agg #[U Z o.verdict,U Z o.ae.fn,U Z o.ae.ar,V da o.ae.data.length dc,U Z o.ae.code,U Z o.ae.level,.bool o.ae.more,U Z o.ae.next,V oa o.ae.ag.length oc],.bool true])∧(∀W,ay w.heap.size w' W→dG W o.ae da dc oa oc)∧Below w.heap.size w w'
theorem tW (g:Nat) (s:Lk) (w:World) (q:LkAt w g s) (z:s.ph=5) (d:BF w s):
  Calls Tryz.prog 65 #[.pointer (N ⟨g,0,J⟩)] w (Mc w s.o):=by
 have hg:=q.lt;obtain⟨a,x,c,y⟩:=eY w (Y #[U Z 0,U Z 0,U Z 0,V none 0 0,U Z 0,U Z 0,.bool false,U Z 0,V none 0 0] 55);have l1:=q.ah c;have c5:a.cell? ⟨g,5,J⟩=N (U Z 5):=by rw[l1.cell 5];simp [Lk.cells,z]
 have R:a.cell? ⟨g,20,J⟩=N (U Z s.o.verdict):=l1.cell 20;have Ju:a.cell? ⟨g,21,J⟩=N (U Z s.o.ae.fn):=l1.cell 21;have Je:a.cell? ⟨g,22,J⟩=N (U Z s.o.ae.ar):=l1.cell 22;have LK:a.cell? ⟨g,23,J⟩=N (.slice s.da s.o.ae.data.length s.dc):=by rw[l1.cell 23];simp [Lk.cells,d.dn]
 have G:a.cell? ⟨g,24,J⟩=N (U Z s.o.ae.code):=l1.cell 24;have O:a.cell? ⟨g,25,J⟩=N (U Z s.o.ae.level):=l1.cell 25;have L:a.cell? ⟨g,26,J⟩=N (.bool s.o.ae.more):=l1.cell 26;have T:a.cell? ⟨g,27,J⟩=N (U Z s.o.ae.next):=l1.cell 27;have F:a.cell? ⟨g,28,J⟩=N (.slice s.oa s.o.ae.ag.length s.oc):=by rw[l1.cell 28];simp [Lk.cells,d.on]
 have I:=hid (yP s.o s.da s.oa s.dc s.oc a (d.rp.ah c) d.small);have m:=hid x;have i:=hid c;have C:=hid y;clear q x c y l1 d z;go_enter Tryz.func65,Tryz.ntmps65;go_upto_region 1 with(fail)
 rw[m.out];go_wp2_with fail;refine I.out.mono ?_;rintro r w2 ⟨t,o,n,u,rfl,d,f⟩;have D:=hpKeep C.out f;have M:=hid d;have l:=bt i.out f (Nat.le_refl _);clear c5 R Ju Je LK G O L T F d;go_wp2_with (refine wpList_storeW rfl 55 (.tmp 2) (.tmp 18) rfl w.heap.size 0 _ _ (#[U Z s.o.verdict,U Z s.o.ae.fn,U Z s.o.ae.ar,V t s.o.ae.data.length o,U Z s.o.ae.code,U Z s.o.ae.level,.bool s.o.ae.more,U Z s.o.ae.next,V n s.o.ae.ag.length u]) rfl rfl D (by simp) (by kernel_rfl) (by rfl) ?_;intro w4 g4 j ab);obtain⟨q0,E,K,X,q4,Q,q6,q7,q8⟩:=I8 g4
 refine bodyPost_ret (v:=.tuple #[.agg #[U Z s.o.verdict,U Z s.o.ae.fn,U Z s.o.ae.ar,V t s.o.ae.data.length o,U Z s.o.ae.code,U Z s.o.ae.level,.bool s.o.ae.more,U Z s.o.ae.next,V n s.o.ae.ag.length u],.bool true]) (by simp [results,Tryz.results65,go_sem,q0,E,K,X,q4,Q,q6,q7,q8]) rfl ?_;refine⟨t,o,n,u,rfl,fun W S=>M.out W (ay.trans (ay.dg j (fun k e=>by have e':k=w.heap.size:=e;have:=hpLt C.out;omega)) (S.mono i.out.size)),l.trans (j.below l.size (fun k hk e=>by omega))⟩
theorem ko (g:Nat) (s:Lk) (w:World) (a:LkAt w g s) (c:s.aP):
  Calls Tryz.prog 61 #[.pointer (N ⟨g,0,J⟩)] w fun r e=>r=K (.agg #[U Z 2,U Z s.til,V none 0 0])∧Below w.heap.size w e:=by
 have f:=a.lt;have d:w.cell? ⟨g,15,J⟩=N (U Z s.til):=a.cell 15;have c5:w.cell? ⟨g,5,J⟩=N (U Z 2)∨w.cell? ⟨g,5,J⟩=N (U Z 3)∨w.cell? ⟨g,5,J⟩=N (U Z 4):=by
  rw[a.cell 5];rcases c with h|h|h
  ·left;simp [Lk.cells,h]
  ·right;left;simp [Lk.cells,h]
  ·right;right;simp [Lk.cells,h]
 clear a c;rcases c5 with c5|c5|c5
 all_goals
  go_enter Tryz.func61,Tryz.ntmps61;go_wp2;refine bodyPost_ret (v:=.agg #[U Z 2,U Z s.til,V none 0 0]) (by simp [results,Tryz.results61,go_sem]) rfl ?_;exact⟨rfl,bal' w _⟩
theorem v9 (g:Nat) (s:Lk) (w:World) (a:LkAt w g s) (c:s.ph=5):
  Calls Tryz.prog 61 #[.pointer (N ⟨g,0,J⟩)] w fun r d=>r=K (.agg #[U Z 3,U Z 0,V none 0 0])∧Below w.heap.size w d:=by
 have e:=a.lt;have c5:w.cell? ⟨g,5,J⟩=N (U Z 5):=by rw[a.cell 5];simp [Lk.cells,c]
 clear a c;go_enter Tryz.func61,Tryz.ntmps61;go_wp2;refine bodyPost_ret (v:=.agg #[U Z 3,U Z 0,V none 0 0]) (by simp [results,Tryz.results61,go_sem]) rfl ?_;exact⟨rfl,bal' w _⟩
theorem xH (g:Nat) (s:Lk) (w:World) (a:LkAt w g s) (c:s.ph=0):
  Calls Tryz.prog 61 #[.pointer (N ⟨g,0,J⟩)] w fun r d=>r=K (.agg #[U Z 0,U Z 0,V none 0 0])∧Below w.heap.size w d:=by
 have e:=a.lt;have c5:w.cell? ⟨g,5,J⟩=N (U Z 0):=by rw[a.cell 5];simp [Lk.cells,c]
 clear a c;go_enter Tryz.func61,Tryz.ntmps61;go_wp2;refine bodyPost_ret (v:=.agg #[U Z 0,U Z 0,V none 0 0]) (by simp [results,Tryz.results61,go_sem]) rfl ?_;exact⟨rfl,bal' w _⟩
theorem wP (g:Nat) (s:Lk) (w:World) (a:LkAt w g s) (c:¬s.ph=5):
  Calls Tryz.prog 65 #[.pointer (N ⟨g,0,J⟩)] w fun r e=>r=K (.tuple #[.agg #[U Z 0,U Z 0,U Z 0,V none 0 0,U Z 0,U Z 0,.bool false,U Z 0,V none 0 0],.bool false])∧Below w.heap.size w e:=by
 have f:=a.lt;have c5:w.cell? ⟨g,5,J⟩=N (U Z s.ph):=a.cell 5;have d:(s.ph !=5)=true:=by rw[bne_iff_ne];exact c
 clear a c;go_enter Tryz.func65,Tryz.ntmps65;go_wp2;refine bodyPost_ret (v:=.tuple #[.agg #[U Z 0,U Z 0,U Z 0,V none 0 0,U Z 0,U Z 0,.bool false,U Z 0,V none 0 0],.bool false]) (by simp [results,Tryz.results65,go_sem]) rfl ?_;exact⟨rfl,bal' w _⟩
theorem Lm (g:Nat) (s:Lk) (w:World) (a:LkAt w g s):
  Calls Tryz.prog 64 #[.pointer (N ⟨g,0,J⟩)] w fun r c=>r=K (U Z s.now)∧w=c:=by
 have d:w.cell? ⟨g,13,J⟩=N (U Z s.now):=a.cell 13;clear a;go_enter Tryz.func64,Tryz.ntmps64;go_wp2;go_ret;exact⟨rfl,rfl⟩
structure Lk.pL (s s':Lk):Prop where
 b:s'.b=s.b
 p:s'.p=s.p
 re:s'.re=s.re
 ti:s'.ti=s.ti
 dr:s'.dr=s.dr
 fa:s'.fa=s.fa
 fn:s'.fn=s.fn
 fc:s'.fc=s.fc
 un:s'.un=s.un
 q:s'.q=s.q
theorem Lk.pL.refl (s:Lk):s.pL s:=⟨rfl,rfl,rfl,rfl,rfl,rfl,rfl,rfl,rfl,rfl⟩
theorem dG.QB (w:World) (s:Lk) (v:Int):BF w (s.mQ v):=⟨dG.zero w,rfl,rfl,⟨Nat.zero_le _,Nat.zero_le _,fun i x h=>by simp [Lk.mQ,Rp.zero] at h⟩⟩
