import Derived.Test.YtoaoejaodhedaaaGreatQ27
import Derived.Test.YtoaoejaodhedaaaGreatQ30
namespace Go.Proofs.YtoaoejaodhedaaaGreat
open Go.RowKit
set_option maxHeartbeats 12800000
set_option maxRecDepth 100000
def ChS (g p:Nat) (A B:Obj) (W:World):Prop:=W.heap[g]?=some A∧W.heap[p]?=some B
theorem ChS.alloc {g p:Nat} {A B:Obj} {W:World} (h:ChS g p A B W) (X:Obj):ChS g p A B (W.alloc X):=⟨bB h.1 (bH _ _),bB h.2 (bH _ _)⟩
theorem ChS.keeps {g p:Nat} {A B:Obj} {W W':World} {F:Nat→Prop} (h:ChS g p A B W) (hk:Keeps F W W') (h1:¬F g) (h2:¬F p):ChS g p A B W':=⟨bG h.1 hk h1,bG h.2 hk h2⟩
theorem ChS.set4 {g p:Nat} {A B:Obj} {W:World} (h:ChS g p A B W) {b:Nat} (hb:g≠b∧p≠b) (v0 v1 v2 v3:Value):ChS g p A B ((((W.setCell ⟨b,0,none⟩ v0).setCell ⟨b,1,none⟩ v1).setCell ⟨b,2,none⟩ v2).setCell ⟨b,3,none⟩ v3):=
 h.keeps (F:=(· =b)) (bL (bL (bL (bL (Keeps.refl _ _) _ _) _ _) _ _) _ _) hb.1 hb.2
def Lk.hears (s:Lk):Prop:=s.ph=2∨s.ph=3∨s.ph=4
def LkNoted (w:World) (g:Nat) (s':Lk) (e:Int) (r:Ending) (w':World):Prop:=r=.returned (.int .i64 e)∧LkAt w' g s'∧Keeps (· =g) w w'
theorem lkchar_range (g:Nat) (s:Lk) (t:Int) (v:UInt8) (fl:Int) (w:World) (hl:LkAt w g s) (hh:s.hears) (hr:¬(0≤t∧t≤s.til)):
  Calls Tryz.prog 62 #[.pointer (some ⟨g,0,none⟩),.agg #[.int .i64 t,.int .u8 (v.toNat:Int),.int .i64 fl]] w (LkNoted w g s 3):=by
 have hV:Hid ((decide (0≤t)&&decide (t≤s.til))=false):=by
  show _=_;rw[Bool.and_eq_false_iff];by_cases h:0≤t
  ·exact .inr (decide_eq_false (fun h2=>hr ⟨h,h2⟩))
  ·exact .inl (decide_eq_false h)
 clear hr;obtain⟨W0,hW0,hb0,p0⟩:=alQ w (.cells #[.int .i64 t,.int .u8 (v.toNat:Int),.int .i64 fl] 132);have l0:=hl.keep hb0;have hgw:=hl.lt;have hz0:w.heap.size<W0.heap.size:=cI p0;have hg0:g<W0.heap.size:=l0.lt;have HLI:=bC (listens_yes g s W0 l0 hh);have e0:=cF p0 0 rfl;have c15:∀W,Below W0.heap.size W0 W→W.cell? ⟨g,15,none⟩=some (.int .i64 s.til):=fun W h=>(l0.keep h).cell 15;have kD:Below W0.heap.size W0 W0.drew:=(Below.refl _ _).drew;have HWI:=bC (fun W=>bY t 0 s.til W false hV);have HL0:=bC l0;have HP0:=bC p0;have HB0:=bC hb0;have HW0:=bC hW0;clear hW0 l0 p0 hb0 hl hh hV
 go_enter Tryz.func62,Tryz.ntmps62;go_wp2_with fail;rw[HW0.out];refine HLI.out.mono ?_;rintro r w1 ⟨rfl,rfl⟩;go_wp2_with fail;go_region_held3 (fun W=>Below W0.heap.size W0 W) ((with_reducible (first|exact kD|assumption))) ((go_at_call 104;(with_reducible refine(HWI.out _).mono ?_);rintro r wi ⟨rfl,rfl⟩));go_wp2;go_ret;exact⟨rfl,(HL0.out.keep (by assumption)),Keeps.of_below (bU HB0.out kD)⟩
theorem lkchar_order (g:Nat) (s:Lk) (t:Int) (v:UInt8) (fl:Int) (w:World) (hl:LkAt w g s) (hh:s.hears) (hr:0≤t∧t≤s.til) (ho:t<s.la):
  Calls Tryz.prog 62 #[.pointer (some ⟨g,0,none⟩),.agg #[.int .i64 t,.int .u8 (v.toNat:Int),.int .i64 fl]] w (LkNoted w g s 7):=by
 have hV:Hid ((decide (0≤t)&&decide (t≤s.til))=true):=by
  show _=_;rw[decide_eq_true hr.1,decide_eq_true hr.2];rfl
 have d1:decide (t<s.la)=true:=decide_eq_true ho;clear hr ho;obtain⟨W0,hW0,hb0,p0⟩:=alQ w (.cells #[.int .i64 t,.int .u8 (v.toNat:Int),.int .i64 fl] 132);have l0:=hl.keep hb0;have hgw:=hl.lt;have hz0:w.heap.size<W0.heap.size:=cI p0;have hg0:g<W0.heap.size:=l0.lt;have HLI:=bC (listens_yes g s W0 l0 hh);have e0:=cF p0 0 rfl;have c15:∀W,Below W0.heap.size W0 W→W.cell? ⟨g,15,none⟩=some (.int .i64 s.til):=fun W h=>(l0.keep h).cell 15;have kD:Below W0.heap.size W0 W0.drew:=(Below.refl _ _).drew;have HWI:=bC (fun W=>bY t 0 s.til W true hV);have HL0:=bC l0;have HP0:=bC p0;have HB0:=bC hb0;have HW0:=bC hW0;clear hW0 l0 p0 hb0 hl hh hV
 go_enter Tryz.func62,Tryz.ntmps62;go_wp2_with fail;rw[HW0.out];refine HLI.out.mono ?_;rintro r w1 ⟨rfl,rfl⟩;go_wp2_with fail;go_region_held3 (fun W=>Below W0.heap.size W0 W) ((with_reducible (first|exact kD|assumption))) ((go_at_call 104;(with_reducible refine(HWI.out _).mono ?_);rintro r wi ⟨rfl,rfl⟩));have f0:=e0 _ (Below.refl _ _);have f16:W0.cell? ⟨g,16,none⟩=some (.int .i64 s.la):=HL0.out.cell 16;clear e0 c15;go_wp2_with fail;go_quiet (fail);go_wp2;go_ret;exact⟨rfl,HL0.out.keep (below_drewN kD _),Keeps.of_below (bU HB0.out (below_drewN kD _))⟩
theorem lkchar_drop (g:Nat) (s:Lk) (t:Int) (v:UInt8) (fl:Int) (w:World) (hl:LkAt w g s) (hr:0≤t∧t≤s.til) (ho:s.la≤t) (hd:s.ph=4∨(s.ph=2∧t≤s.en)):
  Calls Tryz.prog 62 #[.pointer (some ⟨g,0,none⟩),.agg #[.int .i64 t,.int .u8 (v.toNat:Int),.int .i64 fl]] w (LkNoted w g {s with la:=t} 0):=by
 have hV:Hid ((decide (0≤t)&&decide (t≤s.til))=true):=by
  show _=_;rw[decide_eq_true hr.1,decide_eq_true hr.2];rfl
 have d1:decide (t<s.la)=false:=decide_eq_false (by omega);have hh:s.hears:=hd.elim (fun h=>.inr (.inr h)) (fun h=>.inl h.1);clear hr ho;obtain⟨W0,hW0,hb0,p0⟩:=alQ w (.cells #[.int .i64 t,.int .u8 (v.toNat:Int),.int .i64 fl] 132);have l0:=hl.keep hb0;have hgw:=hl.lt;have hz0:w.heap.size<W0.heap.size:=cI p0;have hg0:g<W0.heap.size:=l0.lt;have HLI:=bC (listens_yes g s W0 l0 hh);have e0:=cF p0 0 rfl;have c15:∀W,Below W0.heap.size W0 W→W.cell? ⟨g,15,none⟩=some (.int .i64 s.til):=fun W h=>(l0.keep h).cell 15;have kD:Below W0.heap.size W0 W0.drew:=(Below.refl _ _).drew;have HWI:=bC (fun W=>bY t 0 s.til W true hV);have HL0:=bC l0;have HP0:=bC p0;have HB0:=bC hb0;have HW0:=bC hW0;clear hW0 l0 p0 hb0 hl hh hV
 have HD:=bC hd;clear hd;go_enter Tryz.func62,Tryz.ntmps62;go_wp2_with fail;rw[HW0.out];refine HLI.out.mono ?_;rintro r w1 ⟨rfl,rfl⟩;go_wp2_with fail;go_region_held3 (fun W=>Below W0.heap.size W0 W) ((with_reducible (first|exact kD|assumption))) ((go_at_call 104;(with_reducible refine(HWI.out _).mono ?_);rintro r wi ⟨rfl,rfl⟩));have f0:=e0 _ (Below.refl _ _);have f16:W0.cell? ⟨g,16,none⟩=some (.int .i64 s.la):=HL0.out.cell 16;have z16:W0.frozen? ⟨g,16,none⟩=false:=HL0.out.free 16;clear e0 c15;go_wp2_with fail;go_quiet (fail);go_upto_region 10 with(fail)
 obtain⟨W2,hW2⟩:∃W,W=(W0.drewN (1+nq)).setCell ⟨g,16,none⟩ (.int .i64 t):=⟨_,rfl⟩;rw[←hW2];have l2:LkAt W2 g {s with la:=t}:=(by rw[hW2];exact bS (HL0.out.keep (below_drewN (Below.refl _ _) _)) rfl);have p2:W2.heap[w.heap.size]?=some (.cells #[.int .i64 t,.int .u8 (v.toNat:Int),.int .i64 fl] 132):=(by rw[hW2];exact(cH (by omega)).trans (bB HP0.out (below_drewN (Below.refl _ _) _)));have k2:Keeps (· =g) w W2:=(by rw[hW2];exact bL (Keeps.of_below (bU HB0.out (below_drewN (Below.refl _ _) _))) _ _);have g0:=cG p2 0 rfl;have c14:W2.cell? ⟨g,14,none⟩=some (.int .i64 s.en):=l2.cell 14;have L2:=bC l2;have P2:=bC p2;have K2:=bC k2;clear hW2 l2 p2 k2 f0 f16 z16 d1;rcases HD.out with h4|⟨h2,h3⟩
 ·have c5:W2.cell? ⟨g,5,none⟩=some (.int .i64 4):=by rw[L2.out.cell 5];simp [Lk.cells,h4]
  clear h4 HD;go_quiet (fail);go_wp2;go_ret;exact⟨rfl,L2.out.keep (below_drewN (Below.refl _ _) _),K2.out.trans (Keeps.of_below (below_drewN (Below.refl _ _) _)) (fun _ _ h=>h)⟩
 ·have c5:W2.cell? ⟨g,5,none⟩=some (.int .i64 2):=by rw[L2.out.cell 5];simp [Lk.cells,h2]
  have d2:decide (t≤s.en)=true:=decide_eq_true h3;clear h2 h3 HD;go_quiet (fail);go_wp2;go_ret;exact⟨rfl,L2.out.keep (below_drewN (Below.refl _ _) _),K2.out.trans (Keeps.of_below (below_drewN (Below.refl _ _) _)) (fun _ _ h=>h)⟩
structure RxIn (W:World) (g rg:Nat) (s:Lk) (x:Rx) (a:Option Addr) (c:Nat):Prop where
 rx:s.rx=.pointer (some ⟨rg,0,none⟩)
 at_:RxAt W rg x a x.bs.length c
 own:W.ownsRow (rg+1) 5 1 (.slice a x.bs.length c) x.bs.length (u8s x.bs)
 low:g<rg
 la0:0≤x.la
 la1:x.la≤s.la
 idz:x.id≤0
 ch0:0≤x.ch
 ch1:x.ch≤40000
 tq0:0≤x.t35
 tq1:x.t35≤40000
theorem Rx.char_act (x:Rx) (t:Int) (v:UInt8) (fl:Int):(x.char t v fl).act=true:=rfl
theorem Rx.char_la (x:Rx) (t:Int) (v:UInt8) (fl:Int):(x.char t v fl).la=t:=rfl
theorem Rx.char_t35 (x:Rx) (t:Int) (v:UInt8) (fl:Int):(x.char t v fl).t35=x.t35:=by unfold Rx.char;split<;>rfl
theorem Rx.char_ch (x:Rx) (t:Int) (v:UInt8) (fl:Int):(x.char t v fl).ch=x.ch:=by unfold Rx.char;split<;>rfl
theorem Rx.char_t15 (x:Rx) (t:Int) (v:UInt8) (fl:Int):(x.char t v fl).t15=x.t15:=by unfold Rx.char;split<;>rfl
theorem Rx.char_id (x:Rx) (t:Int) (v:UInt8) (fl:Int):(x.char t v fl).id=x.id:=by unfold Rx.char;split<;>rfl
theorem newApart {k P Q:Nat} {o:Prop} (h:o∨Q≤k) (ho:o→k<P) (hQ:P<Q) (e:k=P):False:=by
 rcases h with h|h
 ·have:=ho h;omega
 ·omega
theorem notRx {g rg P:Nat} {v:Value} (h0:g<rg) (h1:rg<P) (h2:∀k,v.ownBlock=some k→rg+1≤k∧k<P) (k:Nat) (h:k=g∨k=P):¬(k=rg∨v.ownBlock=some k):=by
 rintro (e|e)
 ·rcases h with h|h<;>omega
 ·have:=h2 k e
  rcases h with h|h<;>omega
def Lk.heard (s:Lk) (x:Rx) (t:Int):Lk:={s with la:=t,ph:=3,til:=t+x.t35+x.ch}
def LkHeard (w:World) (g rg:Nat) (s:Lk) (x y:Rx) (a:Option Addr) (c:Nat) (t:Int) (r:Ending) (w':World):Prop:=
 ∃a' c',r=.returned (.int .i64 0)∧LkAt w' g (s.heard x t)∧RxAt w' rg y a' y.bs.length c'∧w'.ownsRow (rg+1) 5 1 (.slice a' y.bs.length c') y.bs.length (u8s y.bs)∧
  (∀k,(Value.slice a' y.bs.length c').ownBlock=some k→(Value.slice a x.bs.length c).ownBlock=some k∨w.heap.size≤k)∧Keeps (fun j=>j=g∨j=rg∨(Value.slice a x.bs.length c).ownBlock=some j) w w'
theorem z30_2 {p:Prop} (h:p:=by
 go_quiet (fail)
 go_upto_region 13 with(fail)
 obtain⟨W3,hW3⟩:∃W,W=(W2.drewN nq).setCell ⟨g,5,none⟩ (.int .i64 3):=⟨_,rfl⟩;rw[←hW3];have l3:LkAt W3 g {s with la:=t,ph:=3}:=(by rw[hW3];exact bS (L2.out.keep (below_drewN (Below.refl _ _) _)) rfl);have p3:W3.heap[w.heap.size]?=some (.cells #[.int .i64 t,.int .u8 (v.toNat:Int),.int .i64 fl] 132):=(by rw[hW3];exact(cH (by omega)).trans (bB P2.out (below_drewN (Below.refl _ _) _)));have k23:Keeps (· =g) W2 W3:=(by rw[hW3];exact bL (Keeps.of_below (below_drewN (Below.refl _ _) _)) _ _);have hx3:RxAt W3 rg x a x.bs.length c:=HX2.out.1.keeps k23 (fun e=>by have:=HX.out.low;have e':rg=g:=e;omega);have ho3:=bF HX2.out.2 k23 (fun k hk e=>by have h1:=(HX2.out.2.lt k hk).1;have:=HX.out.low;have e':k=g:=e;omega);have K3:=bC (K2.out.trans k23 (fun _ _ h=>h));obtain⟨A,hA⟩:∃A,A=Obj.cells (Lk.cells {s with la:=t,ph:=3}) 177 (0,0):=⟨_,rfl⟩;obtain⟨B,hB⟩:∃B,B=Obj.cells #[.int .i64 t,.int .u8 (v.toNat:Int),.int .i64 fl] 132:=⟨_,rfl⟩;have kS:ChS g w.heap.size A B W3:=⟨hA▸l3,hB▸p3⟩;have kD:ChS g w.heap.size A B W3.drew:=kS;have kA:∀X,ChS g w.heap.size A B (W3.alloc X).drew:=(fun X=>kS.alloc X);have c17:∀W,ChS g w.heap.size A B W→W.cell? ⟨g,17,none⟩=some (.pointer (some ⟨rg,0,none⟩)):=(fun W h=>by have h1:=h.1;rw[hA] at h1;rw[bA h1 17];simp [Lk.cells,HX.out.rx]);have e0:∀W,ChS g w.heap.size A B W→W.cell? ⟨w.heap.size,0,none⟩=some (.int .i64 t):=(fun W h=>by have h1:=h.2;rw[hB] at h1;exact bA h1 0);have e1:∀W,ChS g w.heap.size A B W→W.cell? ⟨w.heap.size,1,none⟩=some (.int .u8 (v.toNat:Int)):=(fun W h=>by have h1:=h.2;rw[hB] at h1;exact bA h1 1);have e2:∀W,ChS g w.heap.size A B W→W.cell? ⟨w.heap.size,2,none⟩=some (.int .i64 fl):=(fun W h=>by have h1:=h.2;rw[hB] at h1;exact bA h1 2);have HA:=bC hA;have HB:=bC hB;clear hA hB kS;have hg3:g<W3.heap.size:=l3.lt;have hp3:w.heap.size<W3.heap.size:=cI p3;have L3:=bC l3;have P3:=bC p3;have HX3:=bC hx3;have HO3:=bC ho3;clear hW3 l3 p3 k23 hx3 ho3 c5 z5 g0 c14
 have HCA:Hid (∀W,Below W3.heap.size W3 W→Calls Tryz.prog 105 #[.pointer (some ⟨rg,0,none⟩),.agg #[.int .i64 t,.int .u8 (v.toNat:Int),.int .i64 fl]] W (RxCharred W rg (rg+1) x (x.char t v fl) a c false)):=(fun W hW=>rxchar_ok rg (rg+1) x a c t v fl W (HX3.out.keep hW) (bF (F:=fun _=>False) HO3.out (Keeps.of_below hW) (fun _ _ f=>f)) (by omega) (by have:=HX3.out.lt;have:=hW.size;omega) HX.out.la0 (by have:=HX.out.la1;have:=HO.out;omega) (by have:=HX.out.idz;omega) hm HX.out.ch0 HX.out.ch1 false he);have HC1:=bC (HCA.out W3.drew (Below.refl _ _).drew);have HC2:Hid (Calls Tryz.prog 105 #[.pointer (some ⟨rg,0,none⟩),.agg #[.int .i64 t,.int .u8 (v.toNat:Int),.int .i64 fl]] (W3.alloc (.cells #[.slice none 0 0,.int .i64 0,.int .i64 0,.int .i64 0] 179)).drew (RxCharred (W3.alloc (.cells #[.slice none 0 0,.int .i64 0,.int .i64 0,.int .i64 0] 179)).drew rg (rg+1) x (x.char t v fl) a c false)):=HCA.out (W3.alloc (.cells #[.slice none 0 0,.int .i64 0,.int .i64 0,.int .i64 0] 179)).drew (bH W3 _).drew;have HNB:Hid (∀w4,Keeps (fun j=>j=rg∨(Value.slice a x.bs.length c).ownBlock=some j) (W3.alloc (.cells #[.slice none 0 0,.int .i64 0,.int .i64 0,.int .i64 0] 179)).drew w4→w4.heap[W3.heap.size]?=some (.cells #[.slice none 0 0,.int .i64 0,.int .i64 0,.int .i64 0] 179)):=(fun w4 h=>bG (bB (bI W3 (.cells #[.slice none 0 0,.int .i64 0,.int .i64 0,.int .i64 0] 179)) (Below.refl _ _).drew) h (fun e=>e.elim (fun e=>absurd HX3.out.lt (by omega)) (fun e=>absurd (HO3.out.lt _ e).2 (by omega))));have hr3:rg<W3.heap.size:=HX3.out.lt;have HNG:Hid (∀k,(k=g∨k=w.heap.size)→¬(k=rg∨(Value.slice a x.bs.length c).ownBlock=some k)):=notRx HX.out.low HX.out.at_.lt (fun k hk=>HX.out.own.lt k hk)
 have hNE:g≠W3.heap.size∧w.heap.size≠W3.heap.size:=⟨by omega,by omega⟩
 have HS1:Hid (∀w4,Keeps (fun j=>j=rg∨(Value.slice a x.bs.length c).ownBlock=some j) W3.drew w4→ChS g w.heap.size A B w4):=fun w4 h=>kD.keeps h (fun e=>HNG.out g (.inl rfl) e) (fun e=>HNG.out _ (.inr rfl) e)
 have HS2:Hid (∀w4,Keeps (fun j=>j=rg∨(Value.slice a x.bs.length c).ownBlock=some j) (W3.alloc (.cells #[.slice none 0 0,.int .i64 0,.int .i64 0,.int .i64 0] 179)).drew w4→ChS g w.heap.size A B w4):=fun w4 h=>(kA _).keeps h (fun e=>HNG.out g (.inl rfl) e) (fun e=>HNG.out _ (.inr rfl) e)
 go_region_held3 (fun W=>ChS g w.heap.size A B W) ((with_reducible (first|exact kD|exact kA _|exact hS4|exact ChS.alloc hS4 _|exact ChS.set4 hS4 hNE _ _ _ _))) (first|(go_at_call 105;(with_reducible refine HC1.out.mono ?_);rintro r w4 ⟨a',c',a2,n2,c2,z1,z2,z3,rfl,hx4,ho4,hn4,hk4⟩;have hS4:=HS1.out _ hk4)|(go_at_call 105;(with_reducible refine HC2.out.mono ?_);rintro r w4 ⟨a',c',a2,n2,c2,z1,z2,z3,rfl,hx4,ho4,hn4,hk4⟩;have hS4:=HS2.out _ hk4;have p5:=HNB.out _ hk4;have y0:=bA p5 0;have y1:=bA p5 1;have y2:=bA p5 2;have y3:=bA p5 3;have v0:=bJ p5 0;have v1:=bJ p5 1;have v2:=bJ p5 2;have v3:=bJ p5 3))
 all_goals
  first
   |(obtain⟨W5,hW5⟩:∃W,W=w4.alloc (.cells #[.slice a2 n2 c2,.int .i64 z1,.int .i64 z2,.int .i64 z3] 179):=⟨_,rfl⟩;rw[←hW5];have k5:Keeps (· =W3.heap.size) w4 W5:=(by rw[hW5];exact Keeps.of_below (bH _ _));have ho5:World.ownsRow W5 (rg+1) 5 1 (.slice a' (x.char t v fl).bs.length c') (x.char t v fl).bs.length (u8s (x.char t v fl).bs):=(by rw[hW5];exact ho4.alloc _);clear hW5)
   |(obtain⟨W5,hW5⟩:∃W,W=(((w4.setCell ⟨W3.heap.size,0,none⟩ (.slice a2 n2 c2)).setCell ⟨W3.heap.size,1,none⟩ (.int .i64 z1)).setCell ⟨W3.heap.size,2,none⟩ (.int .i64 z2)).setCell ⟨W3.heap.size,3,none⟩ (.int .i64 z3):=⟨_,rfl⟩;rw[←hW5];have k5:Keeps (· =W3.heap.size) w4 W5:=(by rw[hW5];exact bL (bL (bL (bL (Keeps.refl _ _) _ _) _ _) _ _) _ _);have ho5:=bF ho4 k5 (fun k hk e=>newApart (P:=W3.heap.size) (hn4 k hk) (fun h=>(HO3.out.lt k h).2) (by simp) e);clear hW5 p5 y0 y1 y2 y3 v0 v1 v2 v3)
  have hS5:=hS4.keeps k5 hNE.1 hNE.2
  have l5:LkAt W5 g {s with la:=t,ph:=3}:=by have h1:=hS5.1;rw[HA.out] at h1;exact h1
  have hz4:W3.heap.size≤w4.heap.size:=by have:=hk4.size;simp at this;omega
  have hx5:=hx4.keeps k5 (fun e=>by have e':rg=W3.heap.size:=e;omega)
  have HN5:Hid (∀k,(Value.slice a' (x.char t v fl).bs.length c').ownBlock=some k→(Value.slice a x.bs.length c).ownBlock=some k∨w.heap.size≤k):=fun k hk=>(hn4 k hk).imp id (fun h=>by simp at h;omega)
  have HK5:Hid (Keeps (fun j=>j=g∨j=rg∨(Value.slice a x.bs.length c).ownBlock=some j) w W5):=by
   refine((K3.out.mono (fun k _ e=>.inl e)).trans ?_ (fun k _ h=>h)).trans (k5.mono (fun k _ e=>e)) (fun k hk e=>by have e':k=W3.heap.size:=e;omega)
   first
    |exact((Keeps.of_below (Below.refl _ _).drew).trans hk4 (fun k _ h=>h)).mono (fun k _ e=>.inr e)
    |exact((Keeps.of_below (bH _ _).drew).trans hk4 (fun k _ h=>h)).mono (fun k _ e=>.inr e)
  have hr5:=rxdead_yes rg _ a' _ c' W5 hx5 (Rx.char_act x t v fl) (by rw[Rx.char_la];exact ht0) (by rw[Rx.char_la];exact hm) (by rw[Rx.char_t35];exact HX.out.tq0) (by rw[Rx.char_t35];exact HX.out.tq1) (by rw[Rx.char_ch];exact HX.out.ch0) (by rw[Rx.char_ch];exact HX.out.ch1)
  rw[Rx.char_la,Rx.char_t35,Rx.char_ch] at hr5
  have HR5:=bC hr5
  have c17':W5.cell? ⟨g,17,none⟩=some (.pointer (some ⟨rg,0,none⟩)):=c17 _ hS5
  have HX5:=bC hx5
  have HO5:=bC ho5
  have L5:=bC l5
  clear hS5 hS4 k5 ho4 hx4 hn4 hk4 hr5 hx5 ho5 l5 c17 e0 e1 e2 kD kA HCA HC1 HC2 HNB HS1 HS2
  go_wp2_with fail
  refine HR5.out.mono ?_
  rintro r w6 ⟨rfl,hb6⟩
  have l6:=L5.out.keep hb6
  have c15:w6.cell? ⟨g,15,none⟩=some (.int .i64 s.til):=l6.cell 15
  have f15:w6.frozen? ⟨g,15,none⟩=false:=l6.free 15
  have hx6:=HX5.out.keep hb6
  have ho6:=bF (F:=fun _=>False) HO5.out (Keeps.of_below hb6) (fun _ _ f=>f)
  have L6:=bC l6
  have HX6:=bC hx6
  have HO6:=bC ho6
  have HK6:=bC (HK5.out.trans (Keeps.of_below hb6) (fun _ _ h=>h))
  clear l6 hx6 ho6 hb6
  go_wp2
  go_ret
  exact⟨a',c',rfl,bS L6.out rfl,HX6.out.keeps (bL (Keeps.refl (· =g) _) _ _) (fun e=>by have:=HX.out.low;have e':rg=g:=e;omega),bF HO6.out (bL (Keeps.refl (· =g) _) _ _) (fun k hk e=>by have h1:=(HO6.out.lt k hk).1;have:=HX.out.low;have e':k=g:=e;omega),HN5.out,HK6.out.trans (bL (Keeps.refl (· =g) _) _ _) (fun k _ h=>.inl h)⟩):p:=h
theorem lkchar_hear (g rg:Nat) (s:Lk) (x:Rx) (a:Option Addr) (c:Nat) (t:Int) (v:UInt8) (fl:Int) (w:World) (hl:LkAt w g s) (hx:RxIn w g rg s x a c) (hr:0≤t∧t≤s.til) (ho:s.la≤t) (hd:s.ph=3∨(s.ph=2∧s.en<t)) (hm:t≤1152921504606846976) (he:x.ends t=false):
  Calls Tryz.prog 62 #[.pointer (some ⟨g,0,none⟩),.agg #[.int .i64 t,.int .u8 (v.toNat:Int),.int .i64 fl]] w (LkHeard w g rg s x (x.char t v fl) a c t):=by
 have hV:Hid ((decide (0≤t)&&decide (t≤s.til))=true):=by
  show _=_;rw[decide_eq_true hr.1,decide_eq_true hr.2];rfl
 have d1:decide (t<s.la)=false:=decide_eq_false (by omega);have hh:s.hears:=hd.elim (fun h=>.inr (.inl h)) (fun h=>.inl h.1);have ht0:=hr.1;clear hr;obtain⟨W0,hW0,hb0,p0⟩:=alQ w (.cells #[.int .i64 t,.int .u8 (v.toNat:Int),.int .i64 fl] 132);have l0:=hl.keep hb0;have hgw:=hl.lt;have hz0:w.heap.size<W0.heap.size:=cI p0;have hg0:g<W0.heap.size:=l0.lt;have HLI:=bC (listens_yes g s W0 l0 hh);have e0:=cF p0 0 rfl;have c15:∀W,Below W0.heap.size W0 W→W.cell? ⟨g,15,none⟩=some (.int .i64 s.til):=fun W h=>(l0.keep h).cell 15;have kD:Below W0.heap.size W0 W0.drew:=(Below.refl _ _).drew;have HWI:=bC (fun W=>bY t 0 s.til W true hV);have HL0:=bC l0;have HP0:=bC p0;have HB0:=bC hb0;have HW0:=bC hW0;clear hW0 l0 p0 hb0 hl hh hV
 have HD:=bC hd;have HX:=bC hx;have HO:=bC ho;clear hd ho;go_enter Tryz.func62,Tryz.ntmps62;go_wp2_with fail;rw[HW0.out];refine HLI.out.mono ?_;rintro r w1 ⟨rfl,rfl⟩;go_wp2_with fail;go_region_held3 (fun W=>Below W0.heap.size W0 W) ((with_reducible (first|exact kD|assumption))) ((go_at_call 104;(with_reducible refine(HWI.out _).mono ?_);rintro r wi ⟨rfl,rfl⟩));have f0:=e0 _ (Below.refl _ _);have f16:W0.cell? ⟨g,16,none⟩=some (.int .i64 s.la):=HL0.out.cell 16;have z16:W0.frozen? ⟨g,16,none⟩=false:=HL0.out.free 16;clear e0 c15;go_wp2_with fail;go_quiet (fail);go_upto_region 10 with(fail)
 obtain⟨W2,hW2⟩:∃W,W=(W0.drewN (1+nq)).setCell ⟨g,16,none⟩ (.int .i64 t):=⟨_,rfl⟩;rw[←hW2];have l2:LkAt W2 g {s with la:=t}:=(by rw[hW2];exact bS (HL0.out.keep (below_drewN (Below.refl _ _) _)) rfl);have p2:W2.heap[w.heap.size]?=some (.cells #[.int .i64 t,.int .u8 (v.toNat:Int),.int .i64 fl] 132):=(by rw[hW2];exact(cH (by omega)).trans (bB HP0.out (below_drewN (Below.refl _ _) _)));have k2:Keeps (· =g) w W2:=(by rw[hW2];exact bL (Keeps.of_below (bU HB0.out (below_drewN (Below.refl _ _) _))) _ _);have g0:=cG p2 0 rfl;have c14:W2.cell? ⟨g,14,none⟩=some (.int .i64 s.en):=l2.cell 14;have L2:=bC l2;have P2:=bC p2;have K2:=bC k2;clear hW2 l2 p2 k2 f0 f16 z16 d1;have HX2:Hid (RxAt W2 rg x a x.bs.length c∧W2.ownsRow (rg+1) 5 1 (.slice a x.bs.length c) x.bs.length (u8s x.bs)):=⟨HX.out.at_.keeps K2.out (fun e=>by have:=HX.out.low;have e':rg=g:=e;omega),bF HX.out.own K2.out (fun k hk e=>by have h1:=(HX.out.own.lt k hk).1;have:=HX.out.low;have e':k=g:=e;omega)⟩
 rcases HD.out with h4|⟨h2,h3⟩
 ·have c5:W2.cell? ⟨g,5,none⟩=some (.int .i64 3):=by rw[L2.out.cell 5];simp [Lk.cells,h4]
  have z5:W2.frozen? ⟨g,5,none⟩=false:=L2.out.free 5;clear h4 HD;exact z30_2
 ·have c5:W2.cell? ⟨g,5,none⟩=some (.int .i64 2):=by rw[L2.out.cell 5];simp [Lk.cells,h2]
  have z5:W2.frozen? ⟨g,5,none⟩=false:=L2.out.free 5;have d2:decide (t≤s.en)=false:=decide_eq_false (by omega);clear h2 h3 HD;exact z30_2
def LkCut (w:World) (g rg:Nat) (s:Lk) (x:Rx) (a:Option Addr) (c:Nat) (l:List Int) (t:Int) (r:Ending) (w':World):Prop:=
 ∃(sa:Option Addr) (sc:Nat),r=.returned (.int .i64 0)∧LkAt w' g (Lk.drains {s with la:=t,ph:=3,til:=t} sa sc)∧SeenAt w' g (Lk.drains {s with la:=t,ph:=3,til:=t} sa sc) (l++[4])∧NewOr w (.slice s.sa s.sn s.sc) (.slice sa (s.sn+1) sc)∧
  Keeps (fun j=>j=g∨j=rg∨(Value.slice a x.bs.length c).ownBlock=some j∨(Value.slice s.sa s.sn s.sc).ownBlock=some j) w w'
theorem z30_1 {p:Prop} (h:p:=by
 go_quiet (fail)
 go_upto_region 13 with(fail)
 obtain⟨W3,hW3⟩:∃W,W=(W2.drewN nq).setCell ⟨g,5,none⟩ (.int .i64 3):=⟨_,rfl⟩;rw[←hW3];have l3:LkAt W3 g {s with la:=t,ph:=3}:=(by rw[hW3];exact bS (L2.out.keep (below_drewN (Below.refl _ _) _)) rfl);have p3:W3.heap[w.heap.size]?=some (.cells #[.int .i64 t,.int .u8 (v.toNat:Int),.int .i64 fl] 132):=(by rw[hW3];exact(cH (by omega)).trans (bB P2.out (below_drewN (Below.refl _ _) _)));have k23:Keeps (· =g) W2 W3:=(by rw[hW3];exact bL (Keeps.of_below (below_drewN (Below.refl _ _) _)) _ _);have hx3:RxAt W3 rg x a x.bs.length c:=HX2.out.1.keeps k23 (fun e=>by have:=HX.out.low;have e':rg=g:=e;omega);have ho3:=bF HX2.out.2 k23 (fun k hk e=>by have h1:=(HX2.out.2.lt k hk).1;have:=HX.out.low;have e':k=g:=e;omega);have K3:=bC (K2.out.trans k23 (fun _ _ h=>h));obtain⟨A,hA⟩:∃A,A=Obj.cells (Lk.cells {s with la:=t,ph:=3}) 177 (0,0):=⟨_,rfl⟩;obtain⟨B,hB⟩:∃B,B=Obj.cells #[.int .i64 t,.int .u8 (v.toNat:Int),.int .i64 fl] 132:=⟨_,rfl⟩;have kS:ChS g w.heap.size A B W3:=⟨hA▸l3,hB▸p3⟩;have kD:ChS g w.heap.size A B W3.drew:=kS;have kA:∀X,ChS g w.heap.size A B (W3.alloc X).drew:=(fun X=>kS.alloc X);have c17:∀W,ChS g w.heap.size A B W→W.cell? ⟨g,17,none⟩=some (.pointer (some ⟨rg,0,none⟩)):=(fun W h=>by have h1:=h.1;rw[hA] at h1;rw[bA h1 17];simp [Lk.cells,HX.out.rx]);have e0:∀W,ChS g w.heap.size A B W→W.cell? ⟨w.heap.size,0,none⟩=some (.int .i64 t):=(fun W h=>by have h1:=h.2;rw[hB] at h1;exact bA h1 0);have e1:∀W,ChS g w.heap.size A B W→W.cell? ⟨w.heap.size,1,none⟩=some (.int .u8 (v.toNat:Int)):=(fun W h=>by have h1:=h.2;rw[hB] at h1;exact bA h1 1);have e2:∀W,ChS g w.heap.size A B W→W.cell? ⟨w.heap.size,2,none⟩=some (.int .i64 fl):=(fun W h=>by have h1:=h.2;rw[hB] at h1;exact bA h1 2);have HA:=bC hA;have HB:=bC hB;clear hA hB kS;have hg3:g<W3.heap.size:=l3.lt;have hp3:w.heap.size<W3.heap.size:=cI p3;have L3:=bC l3;have P3:=bC p3;have HX3:=bC hx3;have HO3:=bC ho3;clear hW3 l3 p3 k23 hx3 ho3 c5 z5 g0 c14
 have HCA:Hid (∀W,Below W3.heap.size W3 W→Calls Tryz.prog 105 #[.pointer (some ⟨rg,0,none⟩),.agg #[.int .i64 t,.int .u8 (v.toNat:Int),.int .i64 fl]] W (RxCharred W rg (rg+1) x (x.char t v fl) a c true)):=(fun W hW=>rxchar_ok rg (rg+1) x a c t v fl W (HX3.out.keep hW) (bF (F:=fun _=>False) HO3.out (Keeps.of_below hW) (fun _ _ f=>f)) (by omega) (by have:=HX3.out.lt;have:=hW.size;omega) HX.out.la0 (by have:=HX.out.la1;have:=HO.out;omega) (by have:=HX.out.idz;omega) hm HX.out.ch0 HX.out.ch1 true he);have HC1:=bC (HCA.out W3.drew (Below.refl _ _).drew);have HC2:Hid (Calls Tryz.prog 105 #[.pointer (some ⟨rg,0,none⟩),.agg #[.int .i64 t,.int .u8 (v.toNat:Int),.int .i64 fl]] (W3.alloc (.cells #[.slice none 0 0,.int .i64 0,.int .i64 0,.int .i64 0] 179)).drew (RxCharred (W3.alloc (.cells #[.slice none 0 0,.int .i64 0,.int .i64 0,.int .i64 0] 179)).drew rg (rg+1) x (x.char t v fl) a c true)):=HCA.out (W3.alloc (.cells #[.slice none 0 0,.int .i64 0,.int .i64 0,.int .i64 0] 179)).drew (bH W3 _).drew;have HNB:Hid (∀w4,Keeps (fun j=>j=rg∨(Value.slice a x.bs.length c).ownBlock=some j) (W3.alloc (.cells #[.slice none 0 0,.int .i64 0,.int .i64 0,.int .i64 0] 179)).drew w4→w4.heap[W3.heap.size]?=some (.cells #[.slice none 0 0,.int .i64 0,.int .i64 0,.int .i64 0] 179)):=(fun w4 h=>bG (bB (bI W3 (.cells #[.slice none 0 0,.int .i64 0,.int .i64 0,.int .i64 0] 179)) (Below.refl _ _).drew) h (fun e=>e.elim (fun e=>absurd HX3.out.lt (by omega)) (fun e=>absurd (HO3.out.lt _ e).2 (by omega))));have hr3:rg<W3.heap.size:=HX3.out.lt;have HNG:Hid (∀k,(k=g∨k=w.heap.size)→¬(k=rg∨(Value.slice a x.bs.length c).ownBlock=some k)):=notRx HX.out.low HX.out.at_.lt (fun k hk=>HX.out.own.lt k hk)
 have hNE:g≠W3.heap.size∧w.heap.size≠W3.heap.size:=⟨by omega,by omega⟩
 have HS1:Hid (∀w4,Keeps (fun j=>j=rg∨(Value.slice a x.bs.length c).ownBlock=some j) W3.drew w4→ChS g w.heap.size A B w4):=fun w4 h=>kD.keeps h (fun e=>HNG.out g (.inl rfl) e) (fun e=>HNG.out _ (.inr rfl) e)
 have HS2:Hid (∀w4,Keeps (fun j=>j=rg∨(Value.slice a x.bs.length c).ownBlock=some j) (W3.alloc (.cells #[.slice none 0 0,.int .i64 0,.int .i64 0,.int .i64 0] 179)).drew w4→ChS g w.heap.size A B w4):=fun w4 h=>(kA _).keeps h (fun e=>HNG.out g (.inl rfl) e) (fun e=>HNG.out _ (.inr rfl) e)
 go_region_held3 (fun W=>ChS g w.heap.size A B W) ((with_reducible (first|exact kD|exact kA _|exact hS4|exact ChS.alloc hS4 _|exact ChS.set4 hS4 hNE _ _ _ _))) (first|(go_at_call 105;(with_reducible refine HC1.out.mono ?_);rintro r w4 ⟨a',c',a2,n2,c2,z1,z2,z3,rfl,hx4,ho4,hn4,hk4⟩;have hS4:=HS1.out _ hk4)|(go_at_call 105;(with_reducible refine HC2.out.mono ?_);rintro r w4 ⟨a',c',a2,n2,c2,z1,z2,z3,rfl,hx4,ho4,hn4,hk4⟩;have hS4:=HS2.out _ hk4;have p5:=HNB.out _ hk4;have y0:=bA p5 0;have y1:=bA p5 1;have y2:=bA p5 2;have y3:=bA p5 3;have v0:=bJ p5 0;have v1:=bJ p5 1;have v2:=bJ p5 2;have v3:=bJ p5 3))
 all_goals
  first
   |(obtain⟨W5,hW5⟩:∃W,W=w4.alloc (.cells #[.slice a2 n2 c2,.int .i64 z1,.int .i64 z2,.int .i64 z3] 179):=⟨_,rfl⟩;rw[←hW5];have k5:Keeps (· =W3.heap.size) w4 W5:=(by rw[hW5];exact Keeps.of_below (bH _ _));have ho5:World.ownsRow W5 (rg+1) 5 1 (.slice a' (x.char t v fl).bs.length c') (x.char t v fl).bs.length (u8s (x.char t v fl).bs):=(by rw[hW5];exact ho4.alloc _);clear hW5)
   |(obtain⟨W5,hW5⟩:∃W,W=(((w4.setCell ⟨W3.heap.size,0,none⟩ (.slice a2 n2 c2)).setCell ⟨W3.heap.size,1,none⟩ (.int .i64 z1)).setCell ⟨W3.heap.size,2,none⟩ (.int .i64 z2)).setCell ⟨W3.heap.size,3,none⟩ (.int .i64 z3):=⟨_,rfl⟩;rw[←hW5];have k5:Keeps (· =W3.heap.size) w4 W5:=(by rw[hW5];exact bL (bL (bL (bL (Keeps.refl _ _) _ _) _ _) _ _) _ _);have ho5:=bF ho4 k5 (fun k hk e=>newApart (P:=W3.heap.size) (hn4 k hk) (fun h=>(HO3.out.lt k h).2) (by simp) e);clear hW5 p5 y0 y1 y2 y3 v0 v1 v2 v3)
  have hS5:=hS4.keeps k5 hNE.1 hNE.2
  have l5:LkAt W5 g {s with la:=t,ph:=3}:=by have h1:=hS5.1;rw[HA.out] at h1;exact h1
  have hz4:W3.heap.size≤w4.heap.size:=by have:=hk4.size;simp at this;omega
  have hx5:=hx4.keeps k5 (fun e=>by have e':rg=W3.heap.size:=e;omega)
  have HN5:Hid (∀k,(Value.slice a' (x.char t v fl).bs.length c').ownBlock=some k→(Value.slice a x.bs.length c).ownBlock=some k∨w.heap.size≤k):=fun k hk=>(hn4 k hk).imp id (fun h=>by simp at h;omega)
  have HK5:Hid (Keeps (fun j=>j=g∨j=rg∨(Value.slice a x.bs.length c).ownBlock=some j) w W5):=by
   refine((K3.out.mono (fun k _ e=>.inl e)).trans ?_ (fun k _ h=>h)).trans (k5.mono (fun k _ e=>e)) (fun k hk e=>by have e':k=W3.heap.size:=e;omega)
   first
    |exact((Keeps.of_below (Below.refl _ _).drew).trans hk4 (fun k _ h=>h)).mono (fun k _ e=>.inr e)
    |exact((Keeps.of_below (bH _ _).drew).trans hk4 (fun k _ h=>h)).mono (fun k _ e=>.inr e)
  have l7:LkAt (W5.setCell ⟨g,15,none⟩ (.int .i64 t)) g {s with la:=t,ph:=3,til:=t}:=bS l5 rfl
  have k57:Keeps (· =g) W5 (W5.setCell ⟨g,15,none⟩ (.int .i64 t)):=bL (Keeps.refl _ _) _ _
  have K7:=bC (HK5.out.trans k57 (fun k _ h=>.inl h))
  have s7:SeenAt (W5.setCell ⟨g,15,none⟩ (.int .i64 t)) g {s with la:=t,ph:=3,til:=t} l:=⟨bF HSE.out.own K7.out (fun k hk e=>by
   have h1:=(HSE.out.own.lt k hk).1
   have h2:=hsr k hk
   rcases e with e|e|e
   ·omega
   ·omega
   ·have:=(HX.out.own.lt k e).1;omega),HSE.out.len⟩
  have HJ:=bC (judged_bad g _ l 4 _ l7 s7 (by decide) (by decide) hn he1 he2 hd1 hd2)
  have c15:W5.cell? ⟨g,15,none⟩=some (.int .i64 s.til):=l5.cell 15
  have f15:W5.frozen? ⟨g,15,none⟩=false:=l5.free 15
  have q0:W5.cell? ⟨w.heap.size,0,none⟩=some (.int .i64 t):=e0 _ hS5
  clear hS5 hS4 k5 ho4 hx4 hn4 hk4 hx5 ho5 l5 c17 e0 e1 e2 kD kA HCA HC1 HC2 HNB HS1 HS2 l7 s7 k57
  go_wp2_with fail
  refine HJ.out.mono ?_
  rintro r w8 ⟨sa,sc,rfl,l8,s8,n8,k8⟩
  go_wp2
  go_ret
  refine⟨sa,sc,rfl,l8,s8,?_,?_⟩
  ·exact n8.imp id (fun ⟨j,h,hj⟩=>⟨j,h,Nat.le_trans K7.out.size hj⟩)
  ·refine (K7.out.mono (fun k _ e=>?_)).trans (k8.mono (fun k _ e=>?_)) (fun k _ h=>h)
   ·rcases e with e|e|e
    ·exact .inl e
    ·exact .inr (.inl e)
    ·exact .inr (.inr (.inl e))
   ·rcases e with e|e
    ·exact .inl e
    ·exact .inr (.inr (.inr e))):p:=h
theorem lkchar_end (g rg:Nat) (s:Lk) (x:Rx) (a:Option Addr) (c:Nat) (l:List Int) (t:Int) (v:UInt8) (fl:Int) (w:World) (hl:LkAt w g s) (hx:RxIn w g rg s x a c) (hs:SeenAt w g s l) (hsr:∀k,(Value.slice s.sa s.sn s.sc).ownBlock=some k→k<rg) (hn:s.sn≤1000) (he1:0≤s.en) (he2:s.en≤1152921504606846976) (hd1:0≤s.dr) (hd2:s.dr≤100000000) (hr:0≤t∧t≤s.til) (ho:s.la≤t) (hd:s.ph=3∨(s.ph=2∧s.en<t)) (hm:t≤1152921504606846976) (he:x.ends t=true):
  Calls Tryz.prog 62 #[.pointer (some ⟨g,0,none⟩),.agg #[.int .i64 t,.int .u8 (v.toNat:Int),.int .i64 fl]] w (LkCut w g rg s x a c l t):=by
 have hV:Hid ((decide (0≤t)&&decide (t≤s.til))=true):=by
  show _=_;rw[decide_eq_true hr.1,decide_eq_true hr.2];rfl
 have d1:decide (t<s.la)=false:=decide_eq_false (by omega);have hh:s.hears:=hd.elim (fun h=>.inr (.inl h)) (fun h=>.inl h.1);have ht0:=hr.1;clear hr;obtain⟨W0,hW0,hb0,p0⟩:=alQ w (.cells #[.int .i64 t,.int .u8 (v.toNat:Int),.int .i64 fl] 132);have l0:=hl.keep hb0;have hgw:=hl.lt;have hz0:w.heap.size<W0.heap.size:=cI p0;have hg0:g<W0.heap.size:=l0.lt;have HLI:=bC (listens_yes g s W0 l0 hh);have e0:=cF p0 0 rfl;have c15:∀W,Below W0.heap.size W0 W→W.cell? ⟨g,15,none⟩=some (.int .i64 s.til):=fun W h=>(l0.keep h).cell 15;have kD:Below W0.heap.size W0 W0.drew:=(Below.refl _ _).drew;have HWI:=bC (fun W=>bY t 0 s.til W true hV);have HL0:=bC l0;have HP0:=bC p0;have HB0:=bC hb0;have HW0:=bC hW0;clear hW0 l0 p0 hb0 hl hh hV
 have HD:=bC hd;have HX:=bC hx;have HO:=bC ho;have HSE:=bC hs;clear hs;clear hd ho;go_enter Tryz.func62,Tryz.ntmps62;go_wp2_with fail;rw[HW0.out];refine HLI.out.mono ?_;rintro r w1 ⟨rfl,rfl⟩;go_wp2_with fail;go_region_held3 (fun W=>Below W0.heap.size W0 W) ((with_reducible (first|exact kD|assumption))) ((go_at_call 104;(with_reducible refine(HWI.out _).mono ?_);rintro r wi ⟨rfl,rfl⟩));have f0:=e0 _ (Below.refl _ _);have f16:W0.cell? ⟨g,16,none⟩=some (.int .i64 s.la):=HL0.out.cell 16;have z16:W0.frozen? ⟨g,16,none⟩=false:=HL0.out.free 16;clear e0 c15;go_wp2_with fail;go_quiet (fail);go_upto_region 10 with(fail)
 obtain⟨W2,hW2⟩:∃W,W=(W0.drewN (1+nq)).setCell ⟨g,16,none⟩ (.int .i64 t):=⟨_,rfl⟩;rw[←hW2];have l2:LkAt W2 g {s with la:=t}:=(by rw[hW2];exact bS (HL0.out.keep (below_drewN (Below.refl _ _) _)) rfl);have p2:W2.heap[w.heap.size]?=some (.cells #[.int .i64 t,.int .u8 (v.toNat:Int),.int .i64 fl] 132):=(by rw[hW2];exact(cH (by omega)).trans (bB HP0.out (below_drewN (Below.refl _ _) _)));have k2:Keeps (· =g) w W2:=(by rw[hW2];exact bL (Keeps.of_below (bU HB0.out (below_drewN (Below.refl _ _) _))) _ _);have g0:=cG p2 0 rfl;have c14:W2.cell? ⟨g,14,none⟩=some (.int .i64 s.en):=l2.cell 14;have L2:=bC l2;have P2:=bC p2;have K2:=bC k2;clear hW2 l2 p2 k2 f0 f16 z16 d1;have HX2:Hid (RxAt W2 rg x a x.bs.length c∧W2.ownsRow (rg+1) 5 1 (.slice a x.bs.length c) x.bs.length (u8s x.bs)):=⟨HX.out.at_.keeps K2.out (fun e=>by have:=HX.out.low;have e':rg=g:=e;omega),bF HX.out.own K2.out (fun k hk e=>by have h1:=(HX.out.own.lt k hk).1;have:=HX.out.low;have e':k=g:=e;omega)⟩
 rcases HD.out with h4|⟨h2,h3⟩
 ·have c5:W2.cell? ⟨g,5,none⟩=some (.int .i64 3):=by rw[L2.out.cell 5];simp [Lk.cells,h4]
  have z5:W2.frozen? ⟨g,5,none⟩=false:=L2.out.free 5;clear h4 HD;exact z30_1
 ·have c5:W2.cell? ⟨g,5,none⟩=some (.int .i64 2):=by rw[L2.out.cell 5];simp [Lk.cells,h2]
  have z5:W2.frozen? ⟨g,5,none⟩=false:=L2.out.free 5;have d2:decide (t≤s.en)=false:=decide_eq_false (by omega);clear h2 h3 HD;exact z30_1
theorem judged_badG (g:Nat) (s:Lk) (l:List Int) (v fv ev:Int) (da:Option Addr) (dn dc:Nat) (cv lv:Int) (mv:Bool) (nv:Int) (oa:Option Addr) (on oc:Nat) (w:World) (hl:LkAt w g s) (hs:SeenAt w g s l) (hv1:(v==1)=false) (hv2:(v==2)=false) (hn:s.sn≤1000) (he1:0≤s.en) (he2:s.en≤1152921504606846976) (hd1:0≤s.dr) (hd2:s.dr≤100000000):
  Calls Tryz.prog 106 #[.pointer (some ⟨g,0,none⟩),.agg #[.int .i64 v,.int .i64 fv,.int .i64 ev,.slice da dn dc,.int .i64 cv,.int .i64 lv,.bool mv,.int .i64 nv,.slice oa on oc]] w (LkDrains w g s l v):=by
 obtain⟨i5,hi,hz0,hz1,hz2⟩:=info_parts infoI;have hg:=hl.lt;obtain⟨W0,hW0⟩:∃W,w.alloc (.cells #[.int .i64 v,.int .i64 fv,.int .i64 ev,.slice da dn dc,.int .i64 cv,.int .i64 lv,.bool mv,.int .i64 nv,.slice oa on oc] 55)=W:=⟨_,rfl⟩
 have g0:W0.heap[w.heap.size]?=some (.cells #[.int .i64 v,.int .i64 fv,.int .i64 ev,.slice da dn dc,.int .i64 cv,.int .i64 lv,.bool mv,.int .i64 nv,.slice oa on oc] 55):=by rw[←hW0];exact bI w _
 have hb0:Below w.heap.size w W0:=by rw[←hW0];exact bH w _
 have hsz0:W0.heap.size=w.heap.size+1:=by rw[←hW0];simp
 have own0:W0.ownsRow (g+1) 3 1 (.slice s.sa s.sn s.sc) s.sn (intsV l):=by rw[←hW0];exact hs.own.alloc _
 have l0:=hl.keep hb0;have HL0:=bC l0;have HS:=bC hs;have HW0:=bC hW0;have x0:=cG g0 0 rfl;have c19:W0.cell? ⟨g,19,none⟩=some (.slice s.sa s.sn s.sc):=bA l0 19;have hgb:g+1≤W0.heap.size:=by omega
 have HSZ:=bC hsz0;clear hl hs hW0 hsz0;go_enter Tryz.func106,Tryz.ntmps106;go_upto_region 1 with(fail)
 rw[HW0.out];go_wp2;have OWN:=bC own0;have cA19:∀X,(W0.alloc X).cell? ⟨g,19,none⟩=some (.slice s.sa s.sn s.sc):=fun X=>(HL0.out.keep (bH _ X)).cell 19
 have W19:Hid ((W0.alloc (.cells #[.int .i64 v] 3)).cell? ⟨g,19,none⟩=some (.slice s.sa s.sn s.sc)):=(HL0.out.keep (bH _ _)).cell 19;have HAP:Hid (some g≠(Value.slice s.sa s.sn s.sc).ownBlock):=fun h=>HS.out.apart h.symm
 have HFZ:Hid (∀w2,(W0.alloc (.cells #[.int .i64 v] 3)).drew.grownBy w2 (Value.slice s.sa s.sn s.sc).ownBlock→w2.frozen? ⟨g,19,none⟩=false):=fun w2 h=>by
  have hb:w2.heap[g]?=(W0.alloc (.cells #[.int .i64 v] 3)).heap[g]?:=h.block g (by show g<(W0.alloc _).heap.size;simp;omega) HAP.out;exact bJ (hb.trans (HL0.out.keep (bH _ _))) 19
 go_region_law (refine step_appN rfl (.tmp 23) (.tmp 26) 58 rfl (g+1) 3 i5 (.int .i64 0) 1 8 Tryz.underlying58 hi hz0 hz1 hz2 rfl (by decide) (.slice s.sa s.sn s.sc) s.sn (intsV l) rfl (OWN.out.alloc _) ⟨W0.heap.size,0,none⟩ 1 1 [.int .i64 v] rfl rfl (newsNew W0 [.int .i64 v] _) (by intro u hu;simp at hu;subst hu;rfl) (by unfold maxLen;omega) (by omega) (by simp;omega) ?_;intro v' w2 hown hgr hnew;obtain⟨sa',sc',rfl⟩:=bN hown;have y19:w2.cell? ⟨g,19,none⟩=some (.slice s.sa s.sn s.sc):=hgr.cell (W19.out) HAP.out;have z19:=HFZ.out w2 hgr)
 all_goals
  have hb2:w2.heap[g]?=some (.cells s.cells 177):=(hgr.block g (by show g<(W0.alloc _).heap.size;simp;omega) HAP.out).trans (HL0.out.keep (bH _ _).drew);have l3:LkAt (w2.setCell ⟨g,19,none⟩ (.slice sa' (s.sn+1) sc')) g {s with sa:=sa',sn:=s.sn+1,sc:=sc'}:=bS hb2 rfl;obtain⟨W3,hW3⟩:∃W,W=w2.setCell ⟨g,19,none⟩ (.slice sa' (s.sn+1) sc'):=⟨_,rfl⟩
  rw[←hW3] at l3 ⊢;have HL3:=bC l3;have HW3:=bC hW3;have c15:W3.cell? ⟨g,15,none⟩=some (.int .i64 s.til):=l3.cell 15;have c14:W3.cell? ⟨g,14,none⟩=some (.int .i64 s.en):=l3.cell 14;have c4:W3.cell? ⟨g,4,none⟩=some (.int .i64 s.dr):=l3.cell 4;have c5:W3.cell? ⟨g,5,none⟩=some (.int .i64 s.ph):=l3.cell 5;have f15:=l3.free 15;have f5:=l3.free 5;have s1:IntKind.i64.wrap (s.en+s.dr)=s.en+s.dr:=IntWalk.i64_in _ (by omega);obtain⟨M,hM⟩:∃M,(if s.til<s.en+s.dr then s.en+s.dr else s.til)=M:=⟨_,rfl⟩
  have HM:=bC hM;clear hb2 y19 z19 x0 c19 cA19 hW3 l3 W19;go_wp2;go_region
  all_goals
   go_wp2;go_end0;have hm:=HM.out;subst hm;have k1:Keeps (fun j=>j=g∨(Value.slice s.sa s.sn s.sc).ownBlock=some j) w W3:=by
    refine(Keeps.of_below (bU hb0 (bH W0 (.cells #[.int .i64 v] 3)).drew)).trans ?_ (fun _ _ h=>h);rw[HW3.out];exact(Keeps.of_grown (F:=fun j=>j=g∨(Value.slice s.sa s.sn s.sc).ownBlock=some j) hgr (fun k hk=>.inr hk)).set ⟨g,19,none⟩ _ (.inl rfl)
   have o1:W3.ownsRow (g+1) 3 1 (.slice sa' (s.sn+1) sc') (s.sn+1) (intsV (l++[v])):=by
    rw[HW3.out];have:intsV (l++[v])=intsV l++[.int .i64 v]:=by simp [intsV]
    rw[this];exact bF hown (setK (p:=g)) (fun k hk e=>by
     have h1:=(hown.lt k hk).1
     have h2:k=g:=e
     omega)
   have n1:NewOr w (.slice s.sa s.sn s.sc) (.slice sa' (s.sn+1) sc'):=by
    rcases hnew with h|⟨j,h,hj⟩
    ·exact .inl h
    ·refine .inr ⟨j,h,?_⟩
     have hj':(W0.alloc (.cells #[.int .i64 v] 3)).heap.size≤j:=hj;simp at hj';have:=HSZ.out;omega
   have HN1:=bC n1;have HO1:=bC o1;have HK1:=bC k1;clear c15 c14 c4 c5 f15 f5 s1 hM hown hgr hnew o1 k1 n1 OWN HFZ;refine⟨sa',sc',rfl,?_,⟨?_,?_⟩,HN1.out,?_⟩
   ·unfold LkAt
    first
     |exact hpDrewE (bS (bS HL3.out rfl) rfl)
     |exact bS (bS HL3.out rfl) rfl
   ·have hk2:∀k,(Value.slice sa' (s.sn+1) sc').ownBlock=some k→¬(fun j=>j=g) k:=fun k hk e=>by
     have h1:=(HO1.out.lt k hk).1;have h2:k=g:=e;omega
    first
     |exact bF HO1.out (kdrew (bL (bL (Keeps.refl _ _) _ _) _ _)) hk2
     |exact bF HO1.out (bL (bL (Keeps.refl _ _) _ _) _ _) hk2
   ·show (l++[v]).length=s.sn+1
    rw[List.length_append,HS.out.len];rfl
   ·first
     |exact HK1.out.trans (kdrew (bL (bL (Keeps.refl (· =g) W3) _ _) _ _)) (fun _ _ h=>.inl h)
     |exact HK1.out.trans (bL (bL (Keeps.refl (· =g) W3) _ _) _ _) (fun _ _ h=>.inl h)
def Lk.doneWith (s:Lk) (O:Oc) (da:Option Addr) (dc:Nat) (oa:Option Addr) (oc:Nat):Lk:={s with ph:=5,o:=O,da:=da,dn:=O.reply.data.length,dc:=dc,oa:=oa,on:=O.reply.objs.length,oc:=oc}
theorem good_chain {w:World} {g:Nat} {s:Lk} {O:Oc} {da oa:Option Addr} {dc oc:Nat} (h:LkAt w g s):
  LkAt (((((((((((w).setCell ⟨g,20,none⟩ (.int .i64 O.verdict)).setCell ⟨g,21,none⟩ (.int .i64 O.reply.fn)).setCell ⟨g,22,none⟩ (.int .i64 O.reply.exc)).setCell ⟨g,23,none⟩ (.slice da O.reply.data.length dc)).setCell ⟨g,24,none⟩ (.int .i64 O.reply.code)).setCell ⟨g,25,none⟩ (.int .i64 O.reply.level)).setCell ⟨g,26,none⟩ (.bool O.reply.more)).setCell ⟨g,27,none⟩ (.int .i64 O.reply.next)).setCell ⟨g,28,none⟩ (.slice oa O.reply.objs.length oc)).setCell ⟨g,5,none⟩ (.int .i64 5)) g (s.doneWith O da dc oa oc)∧Keeps (· =g) w (((((((((((w).setCell ⟨g,20,none⟩ (.int .i64 O.verdict)).setCell ⟨g,21,none⟩ (.int .i64 O.reply.fn)).setCell ⟨g,22,none⟩ (.int .i64 O.reply.exc)).setCell ⟨g,23,none⟩ (.slice da O.reply.data.length dc)).setCell ⟨g,24,none⟩ (.int .i64 O.reply.code)).setCell ⟨g,25,none⟩ (.int .i64 O.reply.level)).setCell ⟨g,26,none⟩ (.bool O.reply.more)).setCell ⟨g,27,none⟩ (.int .i64 O.reply.next)).setCell ⟨g,28,none⟩ (.slice oa O.reply.objs.length oc)).setCell ⟨g,5,none⟩ (.int .i64 5)):=by
 refine⟨?_,bL (bL (bL (bL (bL (bL (bL (bL (bL (bL (Keeps.refl (· =g) w) 20 (.int .i64 O.verdict)) 21 (.int .i64 O.reply.fn)) 22 (.int .i64 O.reply.exc)) 23 (.slice da O.reply.data.length dc)) 24 (.int .i64 O.reply.code)) 25 (.int .i64 O.reply.level)) 26 (.bool O.reply.more)) 27 (.int .i64 O.reply.next)) 28 (.slice oa O.reply.objs.length oc)) 5 (.int .i64 5)⟩
 ·unfold LkAt
  show _=some (Obj.cells #[.int .i64 s.b,.int .i64 s.p,.int .i64 s.re,.int .i64 s.ti,.int .i64 s.dr,.int .i64 5,.int .i64 s.un,.int .i64 s.q.fn,.int .i64 s.q.addr,.int .i64 s.q.qty,.int .i64 s.q.code,.int .i64 s.q.obj,.slice s.fa s.fn s.fc,.int .i64 s.now,.int .i64 s.en,.int .i64 s.til,.int .i64 s.la,s.rx,.int .i64 s.cnt,.slice s.sa s.sn s.sc,.int .i64 O.verdict,.int .i64 O.reply.fn,.int .i64 O.reply.exc,.slice da O.reply.data.length dc,.int .i64 O.reply.code,.int .i64 O.reply.level,.bool O.reply.more,.int .i64 O.reply.next,.slice oa O.reply.objs.length oc] 177);refine bS (c:=#[.int .i64 s.b,.int .i64 s.p,.int .i64 s.re,.int .i64 s.ti,.int .i64 s.dr,.int .i64 s.ph,.int .i64 s.un,.int .i64 s.q.fn,.int .i64 s.q.addr,.int .i64 s.q.qty,.int .i64 s.q.code,.int .i64 s.q.obj,.slice s.fa s.fn s.fc,.int .i64 s.now,.int .i64 s.en,.int .i64 s.til,.int .i64 s.la,s.rx,.int .i64 s.cnt,.slice s.sa s.sn s.sc,.int .i64 O.verdict,.int .i64 O.reply.fn,.int .i64 O.reply.exc,.slice da O.reply.data.length dc,.int .i64 O.reply.code,.int .i64 O.reply.level,.bool O.reply.more,.int .i64 O.reply.next,.slice oa O.reply.objs.length oc]) ?_ rfl;refine bS (c:=#[.int .i64 s.b,.int .i64 s.p,.int .i64 s.re,.int .i64 s.ti,.int .i64 s.dr,.int .i64 s.ph,.int .i64 s.un,.int .i64 s.q.fn,.int .i64 s.q.addr,.int .i64 s.q.qty,.int .i64 s.q.code,.int .i64 s.q.obj,.slice s.fa s.fn s.fc,.int .i64 s.now,.int .i64 s.en,.int .i64 s.til,.int .i64 s.la,s.rx,.int .i64 s.cnt,.slice s.sa s.sn s.sc,.int .i64 O.verdict,.int .i64 O.reply.fn,.int .i64 O.reply.exc,.slice da O.reply.data.length dc,.int .i64 O.reply.code,.int .i64 O.reply.level,.bool O.reply.more,.int .i64 O.reply.next,.slice s.oa s.on s.oc]) ?_ rfl;refine bS (c:=#[.int .i64 s.b,.int .i64 s.p,.int .i64 s.re,.int .i64 s.ti,.int .i64 s.dr,.int .i64 s.ph,.int .i64 s.un,.int .i64 s.q.fn,.int .i64 s.q.addr,.int .i64 s.q.qty,.int .i64 s.q.code,.int .i64 s.q.obj,.slice s.fa s.fn s.fc,.int .i64 s.now,.int .i64 s.en,.int .i64 s.til,.int .i64 s.la,s.rx,.int .i64 s.cnt,.slice s.sa s.sn s.sc,.int .i64 O.verdict,.int .i64 O.reply.fn,.int .i64 O.reply.exc,.slice da O.reply.data.length dc,.int .i64 O.reply.code,.int .i64 O.reply.level,.bool O.reply.more,.int .i64 s.o.reply.next,.slice s.oa s.on s.oc]) ?_ rfl;refine bS (c:=#[.int .i64 s.b,.int .i64 s.p,.int .i64 s.re,.int .i64 s.ti,.int .i64 s.dr,.int .i64 s.ph,.int .i64 s.un,.int .i64 s.q.fn,.int .i64 s.q.addr,.int .i64 s.q.qty,.int .i64 s.q.code,.int .i64 s.q.obj,.slice s.fa s.fn s.fc,.int .i64 s.now,.int .i64 s.en,.int .i64 s.til,.int .i64 s.la,s.rx,.int .i64 s.cnt,.slice s.sa s.sn s.sc,.int .i64 O.verdict,.int .i64 O.reply.fn,.int .i64 O.reply.exc,.slice da O.reply.data.length dc,.int .i64 O.reply.code,.int .i64 O.reply.level,.bool s.o.reply.more,.int .i64 s.o.reply.next,.slice s.oa s.on s.oc]) ?_ rfl;refine bS (c:=#[.int .i64 s.b,.int .i64 s.p,.int .i64 s.re,.int .i64 s.ti,.int .i64 s.dr,.int .i64 s.ph,.int .i64 s.un,.int .i64 s.q.fn,.int .i64 s.q.addr,.int .i64 s.q.qty,.int .i64 s.q.code,.int .i64 s.q.obj,.slice s.fa s.fn s.fc,.int .i64 s.now,.int .i64 s.en,.int .i64 s.til,.int .i64 s.la,s.rx,.int .i64 s.cnt,.slice s.sa s.sn s.sc,.int .i64 O.verdict,.int .i64 O.reply.fn,.int .i64 O.reply.exc,.slice da O.reply.data.length dc,.int .i64 O.reply.code,.int .i64 s.o.reply.level,.bool s.o.reply.more,.int .i64 s.o.reply.next,.slice s.oa s.on s.oc]) ?_ rfl;refine bS (c:=#[.int .i64 s.b,.int .i64 s.p,.int .i64 s.re,.int .i64 s.ti,.int .i64 s.dr,.int .i64 s.ph,.int .i64 s.un,.int .i64 s.q.fn,.int .i64 s.q.addr,.int .i64 s.q.qty,.int .i64 s.q.code,.int .i64 s.q.obj,.slice s.fa s.fn s.fc,.int .i64 s.now,.int .i64 s.en,.int .i64 s.til,.int .i64 s.la,s.rx,.int .i64 s.cnt,.slice s.sa s.sn s.sc,.int .i64 O.verdict,.int .i64 O.reply.fn,.int .i64 O.reply.exc,.slice da O.reply.data.length dc,.int .i64 s.o.reply.code,.int .i64 s.o.reply.level,.bool s.o.reply.more,.int .i64 s.o.reply.next,.slice s.oa s.on s.oc]) ?_ rfl;refine bS (c:=#[.int .i64 s.b,.int .i64 s.p,.int .i64 s.re,.int .i64 s.ti,.int .i64 s.dr,.int .i64 s.ph,.int .i64 s.un,.int .i64 s.q.fn,.int .i64 s.q.addr,.int .i64 s.q.qty,.int .i64 s.q.code,.int .i64 s.q.obj,.slice s.fa s.fn s.fc,.int .i64 s.now,.int .i64 s.en,.int .i64 s.til,.int .i64 s.la,s.rx,.int .i64 s.cnt,.slice s.sa s.sn s.sc,.int .i64 O.verdict,.int .i64 O.reply.fn,.int .i64 O.reply.exc,.slice s.da s.dn s.dc,.int .i64 s.o.reply.code,.int .i64 s.o.reply.level,.bool s.o.reply.more,.int .i64 s.o.reply.next,.slice s.oa s.on s.oc]) ?_ rfl;refine bS (c:=#[.int .i64 s.b,.int .i64 s.p,.int .i64 s.re,.int .i64 s.ti,.int .i64 s.dr,.int .i64 s.ph,.int .i64 s.un,.int .i64 s.q.fn,.int .i64 s.q.addr,.int .i64 s.q.qty,.int .i64 s.q.code,.int .i64 s.q.obj,.slice s.fa s.fn s.fc,.int .i64 s.now,.int .i64 s.en,.int .i64 s.til,.int .i64 s.la,s.rx,.int .i64 s.cnt,.slice s.sa s.sn s.sc,.int .i64 O.verdict,.int .i64 O.reply.fn,.int .i64 s.o.reply.exc,.slice s.da s.dn s.dc,.int .i64 s.o.reply.code,.int .i64 s.o.reply.level,.bool s.o.reply.more,.int .i64 s.o.reply.next,.slice s.oa s.on s.oc]) ?_ rfl;refine bS (c:=#[.int .i64 s.b,.int .i64 s.p,.int .i64 s.re,.int .i64 s.ti,.int .i64 s.dr,.int .i64 s.ph,.int .i64 s.un,.int .i64 s.q.fn,.int .i64 s.q.addr,.int .i64 s.q.qty,.int .i64 s.q.code,.int .i64 s.q.obj,.slice s.fa s.fn s.fc,.int .i64 s.now,.int .i64 s.en,.int .i64 s.til,.int .i64 s.la,s.rx,.int .i64 s.cnt,.slice s.sa s.sn s.sc,.int .i64 O.verdict,.int .i64 s.o.reply.fn,.int .i64 s.o.reply.exc,.slice s.da s.dn s.dc,.int .i64 s.o.reply.code,.int .i64 s.o.reply.level,.bool s.o.reply.more,.int .i64 s.o.reply.next,.slice s.oa s.on s.oc]) ?_ rfl;refine bS (c:=#[.int .i64 s.b,.int .i64 s.p,.int .i64 s.re,.int .i64 s.ti,.int .i64 s.dr,.int .i64 s.ph,.int .i64 s.un,.int .i64 s.q.fn,.int .i64 s.q.addr,.int .i64 s.q.qty,.int .i64 s.q.code,.int .i64 s.q.obj,.slice s.fa s.fn s.fc,.int .i64 s.now,.int .i64 s.en,.int .i64 s.til,.int .i64 s.la,s.rx,.int .i64 s.cnt,.slice s.sa s.sn s.sc,.int .i64 s.o.verdict,.int .i64 s.o.reply.fn,.int .i64 s.o.reply.exc,.slice s.da s.dn s.dc,.int .i64 s.o.reply.code,.int .i64 s.o.reply.level,.bool s.o.reply.more,.int .i64 s.o.reply.next,.slice s.oa s.on s.oc]) ?_ rfl;exact h
def LkGood (w:World) (g:Nat) (s':Lk) (r:Ending) (w':World):Prop:=r=.returned (.tuple #[])∧LkAt w' g s'∧Keeps (· =g) w w'
theorem judged_good (g:Nat) (s:Lk) (O:Oc) (da:Option Addr) (dc:Nat) (oa:Option Addr) (oc:Nat) (w:World) (hl:LkAt w g s) (hv:O.verdict=1∨O.verdict=2):
  Calls Tryz.prog 106 #[.pointer (some ⟨g,0,none⟩),.agg #[.int .i64 O.verdict,.int .i64 O.reply.fn,.int .i64 O.reply.exc,.slice da O.reply.data.length dc,.int .i64 O.reply.code,.int .i64 O.reply.level,.bool O.reply.more,.int .i64 O.reply.next,.slice oa O.reply.objs.length oc]] w (LkGood w g (s.doneWith O da dc oa oc)):=by
 have hg:=hl.lt;have c5:w.cell? ⟨g,5,none⟩=some (.int .i64 s.ph):=bA hl 5;have f5:w.frozen? ⟨g,5,none⟩=false:=bJ hl 5;have c20:w.cell? ⟨g,20,none⟩=some (.int .i64 s.o.verdict):=bA hl 20;have f20:w.frozen? ⟨g,20,none⟩=false:=bJ hl 20;have c21:w.cell? ⟨g,21,none⟩=some (.int .i64 s.o.reply.fn):=bA hl 21;have f21:w.frozen? ⟨g,21,none⟩=false:=bJ hl 21;have c22:w.cell? ⟨g,22,none⟩=some (.int .i64 s.o.reply.exc):=bA hl 22;have f22:w.frozen? ⟨g,22,none⟩=false:=bJ hl 22;have c23:w.cell? ⟨g,23,none⟩=some (.slice s.da s.dn s.dc):=bA hl 23;have f23:w.frozen? ⟨g,23,none⟩=false:=bJ hl 23;have c24:w.cell? ⟨g,24,none⟩=some (.int .i64 s.o.reply.code):=bA hl 24;have f24:w.frozen? ⟨g,24,none⟩=false:=bJ hl 24;have c25:w.cell? ⟨g,25,none⟩=some (.int .i64 s.o.reply.level):=bA hl 25;have f25:w.frozen? ⟨g,25,none⟩=false:=bJ hl 25;have c26:w.cell? ⟨g,26,none⟩=some (.bool s.o.reply.more):=bA hl 26;have f26:w.frozen? ⟨g,26,none⟩=false:=bJ hl 26;have c27:w.cell? ⟨g,27,none⟩=some (.int .i64 s.o.reply.next):=bA hl 27;have f27:w.frozen? ⟨g,27,none⟩=false:=bJ hl 27;have c28:w.cell? ⟨g,28,none⟩=some (.slice s.oa s.on s.oc):=bA hl 28;have f28:w.frozen? ⟨g,28,none⟩=false:=bJ hl 28;have HL:=bC hl;have hk:(O.verdict==1)=true∨((O.verdict==1)=false∧(O.verdict==2)=true):=by
  rcases hv with h|h<;>rw[h]<;>decide
 clear hl hv;rcases hk with d1|⟨d1,d2⟩
 all_goals
  go_enter Tryz.func106,Tryz.ntmps106;go_wp2;go_end0;have hc:=good_chain (O:=O) (da:=da) (oa:=oa) (dc:=dc) (oc:=oc) HL.out;exact⟨rfl,hc.1.keep (bH _ _),hc.2.trans (Keeps.of_below (bH _ _)) (fun _ _ h=>h)⟩
def JdS (g p:Nat) (s:Lk) (B:Obj) (W:World):Prop:=(∀i,6≤i→i≤11→W.cell? ⟨g,i,none⟩=s.cells[i]?)∧W.heap[p]?=some B
theorem JdS.of {g p:Nat} {s s':Lk} {B:Obj} {W:World} (h:LkAt W g s') (e1:s'.un=s.un) (e2:s'.q=s.q) (hp:W.heap[p]?=some B):JdS g p s B W:=by
 refine⟨fun i h1 h2=>?_,hp⟩;rw[h.cell i];rcases (show i=6∨i=7∨i=8∨i=9∨i=10∨i=11 by omega) with rfl|rfl|rfl|rfl|rfl|rfl<;>simp [Lk.cells,e1,e2]
def LkSilBad (w:World) (g rg:Nat) (s:Lk) (l:List Int) (v:Int) (r:Ending) (w':World):Prop:=
 ∃(sa:Option Addr) (sc:Nat),r=.returned (.int .i64 0)∧LkAt w' g (Lk.drains {s with now:=s.til} sa sc)∧SeenAt w' g (Lk.drains {s with now:=s.til} sa sc) (l++[v])∧NewOr w (.slice s.sa s.sn s.sc) (.slice sa (s.sn+1) sc)∧
  Keeps (fun j=>j=g∨j=rg∨(Value.slice s.sa s.sn s.sc).ownBlock=some j) w w'
def LkSilGood (w:World) (g rg:Nat) (s:Lk) (O:Oc) (r:Ending) (w':World):Prop:=
 ∃(da:Option Addr) (dc:Nat) (oa:Option Addr) (oc:Nat),r=.returned (.int .i64 0)∧LkAt w' g (Lk.doneWith {s with now:=s.til} O da dc oa oc)∧(∀W,Agree w.heap.size w' W→RpIs W O.reply da dc oa oc)∧Keeps (fun j=>j=g∨j=rg) w w'
theorem silence_bad (g rg:Nat) (s:Lk) (x:Rx) (a:Option Addr) (c:Nat) (l:List Int) (O:Oc) (w:World) (hl:LkAt w g s) (hx:RxIn w g rg s x a c) (hph:s.ph=3) (hact:x.act=true) (htil:x.la+x.t35+x.ch≤s.til) (hmax:s.til≤1152921504606846976) (hs:SeenAt w g s l) (hsr:∀k,(Value.slice s.sa s.sn s.sc).ownBlock=some k→k<rg) (hO:Hid (judgeB crcChk s.un s.q x.fl x.bs=O)) (hv1:(O.verdict==1)=false) (hv2:(O.verdict==2)=false) (hn:s.sn≤1000) (he1:0≤s.en) (he2:s.en≤1152921504606846976) (hd1:0≤s.dr) (hd2:s.dr≤100000000):
  Calls Tryz.prog 63 #[.pointer (some ⟨g,0,none⟩)] w (LkSilBad w g rg s l O.verdict):=by
 have hgw:=hl.lt;have hrw:=hx.at_.lt;have HLI:=bC (listens_yes g s w hl (.inr (.inl hph)));have c5:w.cell? ⟨g,5,none⟩=some (.int .i64 3):=by rw[hl.cell 5];simp [Lk.cells,hph]
 have HL:=bC hl;have HX:=bC hx;have HSE:=bC hs;have HT:=bC htil;have HACT:=bC hact;have hl0:=hx.la0;have ht0:=hx.tq0;have hc0:=hx.ch0;obtain⟨A,hA⟩:∃A,A=Obj.cells (Lk.cells s) 177 (0,0):=⟨_,rfl⟩
 have kS:ChS g g A A w:=⟨hA▸hl,hA▸hl⟩
 have kD:ChS g g A A w.drew:=kS;have kA:∀X,ChS g g A A (w.alloc X).drew:=fun X=>kS.alloc X
 have c17:∀W,ChS g g A A W→W.cell? ⟨g,17,none⟩=some (.pointer (some ⟨rg,0,none⟩)):=fun W h=>by have h1:=h.1;rw[hA] at h1;rw[bA h1 17];simp [Lk.cells,HX.out.rx]
 have c15:∀W,ChS g g A A W→W.cell? ⟨g,15,none⟩=some (.int .i64 s.til):=fun W h=>by have h1:=h.1;rw[hA] at h1;rw[bA h1 15];simp [Lk.cells]
 have HCA:Hid (∀W,Below w.heap.size w W→Calls Tryz.prog 108 #[.pointer (some ⟨rg,0,none⟩),.int .i64 s.til] W (RxIdled W rg x a x.bs.length c s.til)):=fun W hW=>rxidle_ok rg x a _ c s.til W (HX.out.at_.keep hW) HACT.out HX.out.la0 (by have:=HT.out;omega) HX.out.tq0 HX.out.tq1 HX.out.ch0 HX.out.ch1 (by have:=HX.out.idz;have:=HT.out;omega) HT.out hmax
 have HC1:=bC (HCA.out w.drew (Below.refl _ _).drew);have HC2:=bC (HCA.out (w.alloc (.cells #[.slice none 0 0,.int .i64 0,.int .i64 0,.int .i64 0] 179)).drew (bH w _).drew);have hne:g≠rg:=by have:=HX.out.low;omega
 have HNB:Hid (∀w4,Keeps (· =rg) (w.alloc (.cells #[.slice none 0 0,.int .i64 0,.int .i64 0,.int .i64 0] 179)).drew w4→w4.heap[w.heap.size]?=some (.cells #[.slice none 0 0,.int .i64 0,.int .i64 0,.int .i64 0] 179)):=fun w4 h=>bG (bB (bI w (.cells #[.slice none 0 0,.int .i64 0,.int .i64 0,.int .i64 0] 179)) (Below.refl _ _).drew) h (fun e=>by have e':w.heap.size=rg:=e;omega)
 have HS1:Hid (∀w4,Keeps (· =rg) w.drew w4→ChS g g A A w4):=fun w4 h=>kD.keeps h hne hne
 have HS2:Hid (∀w4,Keeps (· =rg) (w.alloc (.cells #[.slice none 0 0,.int .i64 0,.int .i64 0,.int .i64 0] 179)).drew w4→ChS g g A A w4):=fun w4 h=>(kA _).keeps h hne hne
 have hNE:g≠w.heap.size∧g≠w.heap.size:=⟨by omega,by omega⟩
 have HA:=bC hA;clear hl hx hs hph htil hact hA kS HCA;go_enter Tryz.func63,Tryz.ntmps63;go_wp2_with (first|(go_at_call 103;(with_reducible refine HLI.out.mono ?_);rintro r w1 ⟨rfl,rfl⟩)|fail);go_region_held3 (fun W=>ChS g g A A W) ((with_reducible (first|exact kD|exact kA _|exact hS4|exact ChS.alloc hS4 _|exact ChS.set4 hS4 hNE _ _ _ _))) (first|(go_at_call 108;(with_reducible refine HC1.out.mono ?_);rintro r w4 ⟨rfl,hx4,hk4⟩;have hS4:=HS1.out _ hk4)|(go_at_call 108;(with_reducible refine HC2.out.mono ?_);rintro r w4 ⟨rfl,hx4,hk4⟩;have hS4:=HS2.out _ hk4;have p5:=HNB.out _ hk4;have y0:=bA p5 0;have y1:=bA p5 1;have y2:=bA p5 2;have y3:=bA p5 3;have v0:=bJ p5 0;have v1:=bJ p5 1;have v2:=bJ p5 2;have v3:=bJ p5 3))
 all_goals
  first
   |(obtain⟨W5,hW5⟩:∃W,W=w4.alloc (Obj.cells #[.slice a x.bs.length c,.int .i64 x.f1,.int .i64 x.f2,.int .i64 x.fl] 179):=⟨_,rfl⟩;rw[←hW5];obtain⟨P,hP⟩:∃P,P=w4.heap.size:=⟨_,rfl⟩;rw[←hP];have q5:W5.heap[P]?=some (Obj.cells #[.slice a x.bs.length c,.int .i64 x.f1,.int .i64 x.f2,.int .i64 x.fl] 179):=(by rw[hW5,hP];exact bI _ _);have k5:Keeps (· =P) w4 W5:=(by rw[hW5];exact Keeps.of_below (bH _ _));have hPw:w.heap.size≤P:=(by have h1:=hk4.size;rw[hP];exact h1);have hwk:Below w.heap.size w w.drew:=(Below.refl _ _).drew;clear hW5 hP)
   |(obtain⟨W5,hW5⟩:∃W,W=(((w4.setCell ⟨w.heap.size,0,none⟩ (.slice a x.bs.length c)).setCell ⟨w.heap.size,1,none⟩ (.int .i64 x.f1)).setCell ⟨w.heap.size,2,none⟩ (.int .i64 x.f2)).setCell ⟨w.heap.size,3,none⟩ (.int .i64 x.fl):=⟨_,rfl⟩;rw[←hW5];obtain⟨P,hP⟩:∃P,P=w.heap.size:=⟨_,rfl⟩;rw[←hP];have q5:W5.heap[P]?=some (Obj.cells #[.slice a x.bs.length c,.int .i64 x.f1,.int .i64 x.f2,.int .i64 x.fl] 179):=(by rw[hW5,hP];exact bX (bX (bX (bX p5 0 _) 1 _) 2 _) 3 _);have k5:Keeps (· =P) w4 W5:=(by rw[hW5,hP];exact bL (bL (bL (bL (Keeps.refl _ _) _ _) _ _) _ _) _ _);have hPw:w.heap.size≤P:=(by rw[hP];exact Nat.le_refl _);have hwk:Below w.heap.size w (w.alloc (.cells #[.slice none 0 0,.int .i64 0,.int .i64 0,.int .i64 0] 179)).drew:=(bH w _).drew;clear hW5 hP p5 y0 y1 y2 y3 v0 v1 v2 v3)
  have hPg:P≠g:=by omega
  have hPr:P≠rg:=by omega
  have hS5:=hS4.keeps k5 (fun e=>hPg (id (show g=P from e)).symm) (fun e=>hPg (id (show g=P from e)).symm);have l5:LkAt W5 g s:=by have h1:=hS5.1;rw[HA.out] at h1;exact h1
  have HK5:Hid (Keeps (· =rg) w W5):=(((Keeps.of_below hwk).trans hk4 (fun _ _ h=>h)).trans (k5.mono (fun _ _ h=>h)) (fun k hk e=>by have e':k=P:=e;omega))
  have z15:W5.cell? ⟨g,15,none⟩=some (.int .i64 s.til):=l5.cell 15;have z13:W5.cell? ⟨g,13,none⟩=some (.int .i64 s.now):=l5.cell 13;have y13:W5.frozen? ⟨g,13,none⟩=false:=l5.free 13;have l6:LkAt (W5.setCell ⟨g,13,none⟩ (.int .i64 s.til)) g {s with now:=s.til}:=bS l5 rfl;have q6:(W5.setCell ⟨g,13,none⟩ (.int .i64 s.til)).heap[P]?=some (Obj.cells #[.slice a x.bs.length c,.int .i64 x.f1,.int .i64 x.f2,.int .i64 x.fl] 179):=(cH hPg).trans q5;clear l5 hS5 hS4 k5 hk4 hx4 c17 c15 kD kA HC1 HC2 HNB HS1 HS2 q5 hwk;go_upto_region 11 with(fail)
  obtain⟨W6,hW6⟩:∃W,W=W5.setCell ⟨g,13,none⟩ (.int .i64 s.til):=⟨_,rfl⟩
  rw[←hW6] at l6 q6 ⊢;have HK6:Hid (Keeps (fun j=>j=g∨j=rg) w W6):=by
   show Keeps _ _ _;rw[hW6];exact(HK5.out.mono (fun k _ e=>.inr e)).set ⟨g,13,none⟩ _ (.inl rfl)
  clear z15 z13 y13 hW6;obtain⟨B,hB⟩:∃B,B=Obj.cells #[.slice a x.bs.length c,.int .i64 x.f1,.int .i64 x.f2,.int .i64 x.fl] 179:=⟨_,rfl⟩
  have kD:JdS g P s B W6.drew:=JdS.of (s':={s with now:=s.til}) l6 rfl rfl (hB▸q6);have e6:∀W,JdS g P s B W→W.cell? ⟨g,6,none⟩=some (.int .i64 s.un):=fun W h=>h.1 6 (by decide) (by decide)
  have e7:∀W,JdS g P s B W→W.cell? ⟨g,7,none⟩=some (.int .i64 s.q.fn):=fun W h=>h.1 7 (by decide) (by decide)
  have e8:∀W,JdS g P s B W→W.cell? ⟨g,8,none⟩=some (.int .i64 s.q.addr):=fun W h=>h.1 8 (by decide) (by decide)
  have e9:∀W,JdS g P s B W→W.cell? ⟨g,9,none⟩=some (.int .i64 s.q.qty):=fun W h=>h.1 9 (by decide) (by decide)
  have e10:∀W,JdS g P s B W→W.cell? ⟨g,10,none⟩=some (.int .i64 s.q.code):=fun W h=>h.1 10 (by decide) (by decide)
  have e11:∀W,JdS g P s B W→W.cell? ⟨g,11,none⟩=some (.int .i64 s.q.obj):=fun W h=>h.1 11 (by decide) (by decide)
  have f0:∀W,JdS g P s B W→W.cell? ⟨P,0,none⟩=some (.slice a x.bs.length c):=fun W h=>by have h1:=h.2;rw[hB] at h1;exact bA h1 0
  have f1:∀W,JdS g P s B W→W.cell? ⟨P,1,none⟩=some (.int .i64 x.f1):=fun W h=>by have h1:=h.2;rw[hB] at h1;exact bA h1 1
  have f2:∀W,JdS g P s B W→W.cell? ⟨P,2,none⟩=some (.int .i64 x.f2):=fun W h=>by have h1:=h.2;rw[hB] at h1;exact bA h1 2
  have f3:∀W,JdS g P s B W→W.cell? ⟨P,3,none⟩=some (.int .i64 x.fl):=fun W h=>by have h1:=h.2;rw[hB] at h1;exact bA h1 3
  have hbs:Bs W6.drew (.slice a x.bs.length c) x.bs:=(Bs.own (bF HX.out.own HK6.out (fun k hk e=>by have h1:=(HX.out.own.lt k hk).1;have:=HX.out.low;rcases e with e|e<;>omega))).keep (Below.refl _ _).drew;have hjd:=pjudge_any s.un s.q.fn s.q.addr s.q.qty s.q.code s.q.obj a _ c x.f1 x.f2 x.fl x.bs W6.drew hbs;rw[hO.out] at hjd;have HJ:=bC hjd;have Q6:Hid (W6.heap[P]?=some B):=hB▸q6;have L6:=bC l6;have HS7:Hid (∀w7,Below W6.drew.heap.size W6.drew w7→JdS g P s B w7):=fun w7 h=>JdS.of (s':={s with now:=s.til}) (L6.out.keep (bU (Below.refl _ _).drew h)) rfl rfl (bB Q6.out (bU (Below.refl _ _).drew h))
  clear hB hbs hjd l6 q6;have hPs:(Value.slice s.sa s.sn s.sc).ownBlock≠some P:=fun h=>by have:=(HSE.out.own.lt P h).2;omega
  have HSO:Hid (∀w7,Below W6.drew.heap.size W6.drew w7→SeenAt w7 g {s with now:=s.til} l):=fun w7 h=>⟨bF (bF HSE.out.own HK6.out (fun k hk e=>by have h1:=(HSE.out.own.lt k hk).1;have h2:=hsr k hk;rcases e with e|e<;>omega)) (Keeps.of_below (F:=fun _=>False) (bU (Below.refl _ _).drew h)) (fun _ _ f=>f),HSE.out.len⟩
  have HJD:Hid (∀w7 da dc oa oc,Below W6.drew.heap.size W6.drew w7→Calls Tryz.prog 106 #[.pointer (some ⟨g,0,none⟩),.agg #[.int .i64 O.verdict,.int .i64 O.reply.fn,.int .i64 O.reply.exc,.slice da O.reply.data.length dc,.int .i64 O.reply.code,.int .i64 O.reply.level,.bool O.reply.more,.int .i64 O.reply.next,.slice oa O.reply.objs.length oc]] w7 (LkDrains w7 g {s with now:=s.til} l O.verdict)):=fun w7 da dc oa oc h=>judged_badG g _ l O.verdict _ _ da _ dc _ _ _ _ oa _ oc w7 (L6.out.keep (bU (Below.refl _ _).drew h)) (HSO.out w7 h) hv1 hv2 hn he1 he2 hd1 hd2
  have HS8:Hid (∀w7 w8 sa sc,Below W6.drew.heap.size W6.drew w7→LkAt w8 g (Lk.drains {s with now:=s.til} sa sc)→Keeps (fun j=>j=g∨(Value.slice s.sa s.sn s.sc).ownBlock=some j) w7 w8→JdS g P s B w8):=fun w7 w8 sa sc h hl hk=>JdS.of hl rfl rfl (bG (HS7.out w7 h).2 hk (fun e=>e.elim hPg hPs))
  go_region_held3 (fun W=>JdS g P s B W) ((with_reducible (first|exact kD|exact hS7|exact hS8))) (first|(go_at_call 109;(with_reducible refine HJ.out.mono ?_);rintro r w7 ⟨da,dc,oa,oc,rfl,ho7,hb7⟩;have hS7:=HS7.out _ hb7)|(go_at_call 106;(with_reducible refine(HJD.out _ _ _ _ _ hb7).mono ?_);rintro r w8 ⟨sa,sc,rfl,l8,s8,n8,k8⟩;have hS8:=HS8.out _ _ _ _ hb7 l8 k8))
  all_goals
   have HK7:Hid (Keeps (fun j=>j=g∨j=rg) w w7):=HK6.out.trans (Keeps.of_below (bU (Below.refl _ _).drew hb7)) (fun _ _ h=>h);clear e6 e7 e8 e9 e10 e11 f0 f1 f2 f3 kD;go_wp2;go_ret;refine⟨sa,sc,rfl,l8,s8,n8.imp id (fun ⟨j,h,hj⟩=>⟨j,h,Nat.le_trans HK7.out.size hj⟩),(HK7.out.mono (fun k _ e=>e.elim .inl (fun e=>.inr (.inl e)))).trans (k8.mono (fun k _ e=>e.elim .inl (fun e=>.inr (.inr e)))) (fun _ _ h=>h)⟩
theorem silence_good (g rg:Nat) (s:Lk) (x:Rx) (a:Option Addr) (c:Nat) (O:Oc) (w:World) (hl:LkAt w g s) (hx:RxIn w g rg s x a c) (hph:s.ph=3) (hact:x.act=true) (htil:x.la+x.t35+x.ch≤s.til) (hmax:s.til≤1152921504606846976) (hO:Hid (judgeB crcChk s.un s.q x.fl x.bs=O)) (hv:O.verdict=1∨O.verdict=2):
  Calls Tryz.prog 63 #[.pointer (some ⟨g,0,none⟩)] w (LkSilGood w g rg s O):=by
 have hgw:=hl.lt;have hrw:=hx.at_.lt;have HLI:=bC (listens_yes g s w hl (.inr (.inl hph)));have c5:w.cell? ⟨g,5,none⟩=some (.int .i64 3):=by rw[hl.cell 5];simp [Lk.cells,hph]
 have HL:=bC hl;have HX:=bC hx;have HT:=bC htil;replace hv:=bC hv;have HACT:=bC hact;have hl0:=hx.la0;have ht0:=hx.tq0;have hc0:=hx.ch0;obtain⟨A,hA⟩:∃A,A=Obj.cells (Lk.cells s) 177 (0,0):=⟨_,rfl⟩
 have kS:ChS g g A A w:=⟨hA▸hl,hA▸hl⟩
 have kD:ChS g g A A w.drew:=kS;have kA:∀X,ChS g g A A (w.alloc X).drew:=fun X=>kS.alloc X
 have c17:∀W,ChS g g A A W→W.cell? ⟨g,17,none⟩=some (.pointer (some ⟨rg,0,none⟩)):=fun W h=>by have h1:=h.1;rw[hA] at h1;rw[bA h1 17];simp [Lk.cells,HX.out.rx]
 have c15:∀W,ChS g g A A W→W.cell? ⟨g,15,none⟩=some (.int .i64 s.til):=fun W h=>by have h1:=h.1;rw[hA] at h1;rw[bA h1 15];simp [Lk.cells]
 have HCA:Hid (∀W,Below w.heap.size w W→Calls Tryz.prog 108 #[.pointer (some ⟨rg,0,none⟩),.int .i64 s.til] W (RxIdled W rg x a x.bs.length c s.til)):=fun W hW=>rxidle_ok rg x a _ c s.til W (HX.out.at_.keep hW) HACT.out HX.out.la0 (by have:=HT.out;omega) HX.out.tq0 HX.out.tq1 HX.out.ch0 HX.out.ch1 (by have:=HX.out.idz;have:=HT.out;omega) HT.out hmax
 have HC1:=bC (HCA.out w.drew (Below.refl _ _).drew);have HC2:=bC (HCA.out (w.alloc (.cells #[.slice none 0 0,.int .i64 0,.int .i64 0,.int .i64 0] 179)).drew (bH w _).drew);have hne:g≠rg:=by have:=HX.out.low;omega
 have HNB:Hid (∀w4,Keeps (· =rg) (w.alloc (.cells #[.slice none 0 0,.int .i64 0,.int .i64 0,.int .i64 0] 179)).drew w4→w4.heap[w.heap.size]?=some (.cells #[.slice none 0 0,.int .i64 0,.int .i64 0,.int .i64 0] 179)):=fun w4 h=>bG (bB (bI w (.cells #[.slice none 0 0,.int .i64 0,.int .i64 0,.int .i64 0] 179)) (Below.refl _ _).drew) h (fun e=>by have e':w.heap.size=rg:=e;omega)
 have HS1:Hid (∀w4,Keeps (· =rg) w.drew w4→ChS g g A A w4):=fun w4 h=>kD.keeps h hne hne
 have HS2:Hid (∀w4,Keeps (· =rg) (w.alloc (.cells #[.slice none 0 0,.int .i64 0,.int .i64 0,.int .i64 0] 179)).drew w4→ChS g g A A w4):=fun w4 h=>(kA _).keeps h hne hne
 have hNE:g≠w.heap.size∧g≠w.heap.size:=⟨by omega,by omega⟩
 have HA:=bC hA;clear hl hx hph htil hact hA kS HCA;go_enter Tryz.func63,Tryz.ntmps63;go_wp2_with (first|(go_at_call 103;(with_reducible refine HLI.out.mono ?_);rintro r w1 ⟨rfl,rfl⟩)|fail);go_region_held3 (fun W=>ChS g g A A W) ((with_reducible (first|exact kD|exact kA _|exact hS4|exact ChS.alloc hS4 _|exact ChS.set4 hS4 hNE _ _ _ _))) (first|(go_at_call 108;(with_reducible refine HC1.out.mono ?_);rintro r w4 ⟨rfl,hx4,hk4⟩;have hS4:=HS1.out _ hk4)|(go_at_call 108;(with_reducible refine HC2.out.mono ?_);rintro r w4 ⟨rfl,hx4,hk4⟩;have hS4:=HS2.out _ hk4;have p5:=HNB.out _ hk4;have y0:=bA p5 0;have y1:=bA p5 1;have y2:=bA p5 2;have y3:=bA p5 3;have v0:=bJ p5 0;have v1:=bJ p5 1;have v2:=bJ p5 2;have v3:=bJ p5 3))
 all_goals
  first
   |(obtain⟨W5,hW5⟩:∃W,W=w4.alloc (Obj.cells #[.slice a x.bs.length c,.int .i64 x.f1,.int .i64 x.f2,.int .i64 x.fl] 179):=⟨_,rfl⟩;rw[←hW5];obtain⟨P,hP⟩:∃P,P=w4.heap.size:=⟨_,rfl⟩;rw[←hP];have q5:W5.heap[P]?=some (Obj.cells #[.slice a x.bs.length c,.int .i64 x.f1,.int .i64 x.f2,.int .i64 x.fl] 179):=(by rw[hW5,hP];exact bI _ _);have k5:Keeps (· =P) w4 W5:=(by rw[hW5];exact Keeps.of_below (bH _ _));have hPw:w.heap.size≤P:=(by have h1:=hk4.size;rw[hP];exact h1);have hwk:Below w.heap.size w w.drew:=(Below.refl _ _).drew;clear hW5 hP)
   |(obtain⟨W5,hW5⟩:∃W,W=(((w4.setCell ⟨w.heap.size,0,none⟩ (.slice a x.bs.length c)).setCell ⟨w.heap.size,1,none⟩ (.int .i64 x.f1)).setCell ⟨w.heap.size,2,none⟩ (.int .i64 x.f2)).setCell ⟨w.heap.size,3,none⟩ (.int .i64 x.fl):=⟨_,rfl⟩;rw[←hW5];obtain⟨P,hP⟩:∃P,P=w.heap.size:=⟨_,rfl⟩;rw[←hP];have q5:W5.heap[P]?=some (Obj.cells #[.slice a x.bs.length c,.int .i64 x.f1,.int .i64 x.f2,.int .i64 x.fl] 179):=(by rw[hW5,hP];exact bX (bX (bX (bX p5 0 _) 1 _) 2 _) 3 _);have k5:Keeps (· =P) w4 W5:=(by rw[hW5,hP];exact bL (bL (bL (bL (Keeps.refl _ _) _ _) _ _) _ _) _ _);have hPw:w.heap.size≤P:=(by rw[hP];exact Nat.le_refl _);have hwk:Below w.heap.size w (w.alloc (.cells #[.slice none 0 0,.int .i64 0,.int .i64 0,.int .i64 0] 179)).drew:=(bH w _).drew;clear hW5 hP p5 y0 y1 y2 y3 v0 v1 v2 v3)
  have hPg:P≠g:=by omega
  have hPr:P≠rg:=by omega
  have hS5:=hS4.keeps k5 (fun e=>hPg (id (show g=P from e)).symm) (fun e=>hPg (id (show g=P from e)).symm);have l5:LkAt W5 g s:=by have h1:=hS5.1;rw[HA.out] at h1;exact h1
  have HK5:Hid (Keeps (· =rg) w W5):=(((Keeps.of_below hwk).trans hk4 (fun _ _ h=>h)).trans (k5.mono (fun _ _ h=>h)) (fun k hk e=>by have e':k=P:=e;omega))
  have z15:W5.cell? ⟨g,15,none⟩=some (.int .i64 s.til):=l5.cell 15;have z13:W5.cell? ⟨g,13,none⟩=some (.int .i64 s.now):=l5.cell 13;have y13:W5.frozen? ⟨g,13,none⟩=false:=l5.free 13;have l6:LkAt (W5.setCell ⟨g,13,none⟩ (.int .i64 s.til)) g {s with now:=s.til}:=bS l5 rfl;have q6:(W5.setCell ⟨g,13,none⟩ (.int .i64 s.til)).heap[P]?=some (Obj.cells #[.slice a x.bs.length c,.int .i64 x.f1,.int .i64 x.f2,.int .i64 x.fl] 179):=(cH hPg).trans q5;clear l5 hS5 hS4 k5 hk4 hx4 c17 c15 kD kA HC1 HC2 HNB HS1 HS2 q5 hwk;go_upto_region 11 with(fail)
  obtain⟨W6,hW6⟩:∃W,W=W5.setCell ⟨g,13,none⟩ (.int .i64 s.til):=⟨_,rfl⟩
  rw[←hW6] at l6 q6 ⊢;have HK6:Hid (Keeps (fun j=>j=g∨j=rg) w W6):=by
   show Keeps _ _ _;rw[hW6];exact(HK5.out.mono (fun k _ e=>.inr e)).set ⟨g,13,none⟩ _ (.inl rfl)
  clear z15 z13 y13 hW6;obtain⟨B,hB⟩:∃B,B=Obj.cells #[.slice a x.bs.length c,.int .i64 x.f1,.int .i64 x.f2,.int .i64 x.fl] 179:=⟨_,rfl⟩
  have kD:JdS g P s B W6.drew:=JdS.of (s':={s with now:=s.til}) l6 rfl rfl (hB▸q6);have e6:∀W,JdS g P s B W→W.cell? ⟨g,6,none⟩=some (.int .i64 s.un):=fun W h=>h.1 6 (by decide) (by decide)
  have e7:∀W,JdS g P s B W→W.cell? ⟨g,7,none⟩=some (.int .i64 s.q.fn):=fun W h=>h.1 7 (by decide) (by decide)
  have e8:∀W,JdS g P s B W→W.cell? ⟨g,8,none⟩=some (.int .i64 s.q.addr):=fun W h=>h.1 8 (by decide) (by decide)
  have e9:∀W,JdS g P s B W→W.cell? ⟨g,9,none⟩=some (.int .i64 s.q.qty):=fun W h=>h.1 9 (by decide) (by decide)
  have e10:∀W,JdS g P s B W→W.cell? ⟨g,10,none⟩=some (.int .i64 s.q.code):=fun W h=>h.1 10 (by decide) (by decide)
  have e11:∀W,JdS g P s B W→W.cell? ⟨g,11,none⟩=some (.int .i64 s.q.obj):=fun W h=>h.1 11 (by decide) (by decide)
  have f0:∀W,JdS g P s B W→W.cell? ⟨P,0,none⟩=some (.slice a x.bs.length c):=fun W h=>by have h1:=h.2;rw[hB] at h1;exact bA h1 0
  have f1:∀W,JdS g P s B W→W.cell? ⟨P,1,none⟩=some (.int .i64 x.f1):=fun W h=>by have h1:=h.2;rw[hB] at h1;exact bA h1 1
  have f2:∀W,JdS g P s B W→W.cell? ⟨P,2,none⟩=some (.int .i64 x.f2):=fun W h=>by have h1:=h.2;rw[hB] at h1;exact bA h1 2
  have f3:∀W,JdS g P s B W→W.cell? ⟨P,3,none⟩=some (.int .i64 x.fl):=fun W h=>by have h1:=h.2;rw[hB] at h1;exact bA h1 3
  have hbs:Bs W6.drew (.slice a x.bs.length c) x.bs:=(Bs.own (bF HX.out.own HK6.out (fun k hk e=>by have h1:=(HX.out.own.lt k hk).1;have:=HX.out.low;rcases e with e|e<;>omega))).keep (Below.refl _ _).drew;have hjd:=pjudge_any s.un s.q.fn s.q.addr s.q.qty s.q.code s.q.obj a _ c x.f1 x.f2 x.fl x.bs W6.drew hbs;rw[hO.out] at hjd;have HJ:=bC hjd;have Q6:Hid (W6.heap[P]?=some B):=hB▸q6;have L6:=bC l6;have HS7:Hid (∀w7,Below W6.drew.heap.size W6.drew w7→JdS g P s B w7):=fun w7 h=>JdS.of (s':={s with now:=s.til}) (L6.out.keep (bU (Below.refl _ _).drew h)) rfl rfl (bB Q6.out (bU (Below.refl _ _).drew h))
  clear hB hbs hjd l6 q6;have HJD:Hid (∀w7 da dc oa oc,Below W6.drew.heap.size W6.drew w7→Calls Tryz.prog 106 #[.pointer (some ⟨g,0,none⟩),.agg #[.int .i64 O.verdict,.int .i64 O.reply.fn,.int .i64 O.reply.exc,.slice da O.reply.data.length dc,.int .i64 O.reply.code,.int .i64 O.reply.level,.bool O.reply.more,.int .i64 O.reply.next,.slice oa O.reply.objs.length oc]] w7 (LkGood w7 g (Lk.doneWith {s with now:=s.til} O da dc oa oc))):=fun w7 da dc oa oc h=>judged_good g _ O da dc oa oc w7 (L6.out.keep (bU (Below.refl _ _).drew h)) hv.out
  have HS8:Hid (∀w7 w8 da dc oa oc,Below W6.drew.heap.size W6.drew w7→LkAt w8 g (Lk.doneWith {s with now:=s.til} O da dc oa oc)→Keeps (· =g) w7 w8→JdS g P s B w8):=fun w7 w8 da dc oa oc h hl hk=>JdS.of hl rfl rfl (bG (HS7.out w7 h).2 hk hPg)
  go_region_held3 (fun W=>JdS g P s B W) ((with_reducible (first|exact kD|exact hS7|exact hS8))) (first|(go_at_call 109;(with_reducible refine HJ.out.mono ?_);rintro r w7 ⟨da,dc,oa,oc,rfl,ho7,hb7⟩;have hS7:=HS7.out _ hb7;have HO7:=bC ho7;clear ho7)|(go_at_call 106;(with_reducible refine(HJD.out _ _ _ _ _ hb7).mono ?_);rintro r w8 ⟨rfl,l8,k8⟩;have hS8:=HS8.out _ _ _ _ _ _ hb7 l8 k8))
  all_goals
   have HK7:Hid (Keeps (fun j=>j=g∨j=rg) w w7):=HK6.out.trans (Keeps.of_below (bU (Below.refl _ _).drew hb7)) (fun _ _ h=>h);have hg6:g<W6.heap.size:=L6.out.lt;have hw6:w.heap.size≤W6.heap.size:=HK6.out.size;clear e6 e7 e8 e9 e10 e11 f0 f1 f2 f3 kD;go_wp2;go_ret;refine⟨da,dc,oa,oc,rfl,l8,fun W hW=>HO7.out W (Agree.trans (Agree.of_keeps k8 (fun k e=>by have e':k=g:=e;show k<W6.heap.size;omega)) (hW.mono hw6)),HK7.out.trans (k8.mono (fun k _ e=>.inl e)) (fun _ _ h=>h)⟩
structure Oc.small (O:Oc):Prop where
 data:O.reply.data.length≤1000
 objs:O.reply.objs.length≤1000
 vals:∀(i:Nat) (x:Ob),O.reply.objs[i]?=some x→x.val.length≤1000
def CpF (w:World) (v2:Value):Nat→Prop:=fun k=>v2.ownBlock=some k∨k=w.heap.size∨k=w.heap.size+1
def CpRel (k:Nat) (w wr:World) (A B:Obj) (v2:Value) (objs:List Ob) (a1:Option Addr) (c1:Nat) (data:List UInt8):Prop:=
 wr.heap[w.heap.size]?=some A∧wr.heap[w.heap.size+1]?=some B∧
  (∃cs,wr.ownsRow (w.heap.size+2) 165 2 v2 objs.length cs∧ObCg (CpF w v2) wr cs objs∧∀i x,i<k→objs[i]?=some x→∃a c,cs[i*2+1]?=some (.slice a x.val.length c)∧∀ad,a=some ad→w.heap.size≤ad.block)∧Bs wr (.slice a1 data.length c1) data∧(∀ad,a1=some ad→w.heap.size≤ad.block)∧(data≠[]→∀ad,a1=some ad→¬CpF w v2 ad.block)∧Below w.heap.size w wr
theorem CpRel.start {w W0 W:World} {O:Oc} {da oa a1 a2:Option Addr} {dc oc c1 c2:Nat} {B:Obj} {cs:List Value} (pA:W0.heap[w.heap.size]?=some (.cells #[.int .i64 O.verdict,.int .i64 O.reply.fn,.int .i64 O.reply.exc,.slice da O.reply.data.length dc,.int .i64 O.reply.code,.int .i64 O.reply.level,.bool O.reply.more,.int .i64 O.reply.next,.slice oa O.reply.objs.length oc] 55)) (pB:W0.heap[w.heap.size+1]?=some B) (hz:W0.heap.size=w.heap.size+2) (hb0:Below w.heap.size w W0) (hB:Below W0.heap.size W0 W)
  (o1:W.ownsRow W0.heap.size 5 1 (.slice a1 O.reply.data.length c1) O.reply.data.length (u8s O.reply.data)) (o2:W.ownsRow W0.heap.size 165 2 (.slice a2 O.reply.objs.length c2) O.reply.objs.length cs) (hcs:ObCs w cs O.reply.objs)
  (hne:∀k,(Value.slice a1 O.reply.data.length c1).ownBlock=some k→(Value.slice a2 O.reply.objs.length c2).ownBlock≠some k):
  CpRel 0 w ((W.setCell ⟨w.heap.size,3,none⟩ (.slice a1 O.reply.data.length c1)).setCell ⟨w.heap.size,8,none⟩ (.slice a2 O.reply.objs.length c2)) (.cells #[.int .i64 O.verdict,.int .i64 O.reply.fn,.int .i64 O.reply.exc,.slice a1 O.reply.data.length c1,.int .i64 O.reply.code,.int .i64 O.reply.level,.bool O.reply.more,.int .i64 O.reply.next,.slice a2 O.reply.objs.length c2] 55) B (.slice a2 O.reply.objs.length c2) O.reply.objs a1 c1 O.reply.data:=by
 have hk:Keeps (· =w.heap.size) W ((W.setCell ⟨w.heap.size,3,none⟩ (.slice a1 O.reply.data.length c1)).setCell ⟨w.heap.size,8,none⟩ (.slice a2 O.reply.objs.length c2)):=bL (bL (Keeps.refl _ _) _ _) _ _;have h1:=bU hb0 hB;refine⟨bS (bS (bB pA hB) rfl) rfl,bG (bB pB hB) hk (fun e=>by have e':w.heap.size+1=w.heap.size:=e;omega),⟨cs,bF (bQ o2 (by omega)) hk (fun k hk' e=>by have h:=(o2.lt k hk').1;have e':k=w.heap.size:=e;omega),?_,fun i x h=>absurd h (Nat.not_lt_zero _)⟩,?_,fun ad had=>by have h:=(o1.lt ad.block (by rw[had];rfl)).1;omega,?_,h1.trans (hk.below h1.size (fun k hk e=>by omega))⟩
 ·have h2:ObCg (CpF w (.slice a2 O.reply.objs.length c2)) W cs O.reply.objs:=ObCg.of hcs h1 (fun k hk' hF=>by
   rcases hF with h|h|h
   ·have:=(o2.lt k h).1;omega
   ·omega
   ·omega)
  exact h2.keeps hk (fun k hk'=>.inr (.inl hk'))
 ·exact (Bs.own o1).keepsN hk (fun hl ad had e=>by have h:=(o1.lt ad.block (by rw[had];rfl)).1;have e':ad.block=w.heap.size:=e;omega)
 ·intro hl ad had hF
  have h:=(o1.lt ad.block (by rw[had];rfl)).1;rcases hF with e|e|e
  ·exact hne ad.block (by rw[had];rfl) e
  ·omega
  ·omega
theorem CpRel.step {w wr w5:World} {A B:Obj} {g cap:Nat} {objs:List Ob} {a1:Option Addr} {c1:Nat} {data:List UInt8} {k:Nat} (h:CpRel k w wr A B (.slice (some ⟨g,0,none⟩) objs.length cap) objs a1 c1 data)
  (hb:Below wr.heap.size wr w5) {x:Ob} (hx:objs[k]?=some x) {E:TypeId} {a5:Option Addr} {c5:Nat} (hown5:w5.ownsRow wr.heap.size E 1 (.slice a5 x.val.length c5) x.val.length (u8s x.val)):
  CpRel (k+1) w (w5.setCell ⟨g,k*2+1,none⟩ (.slice a5 x.val.length c5)) A B (.slice (some ⟨g,0,none⟩) objs.length cap) objs a1 c1 data:=by
 obtain⟨gA,gB,⟨cs,hown,hcg,hfr⟩,hbs,hda,hbf,hbw⟩:=h;have hg:=hown.lt g rfl;have hszw:=hbw.size;have lA:=cI gA;have lB:=cI gB;have hk:Keeps (fun k=>k=g) w5 (w5.setCell ⟨g,k*2+1,none⟩ (.slice a5 x.val.length c5)):=(Keeps.refl _ _).set _ _ rfl;have hkF:∀k,k=g→CpF w (.slice (some ⟨g,0,none⟩) objs.length cap) k:=fun k hk=>.inl (by rw[hk];rfl)
 have hown':=bF hown (Keeps.of_below (F:=fun _=>False) hb) (fun _ _ f=>f);have hcg':=hcg.keeps (Keeps.of_below (F:=fun _=>False) hb) (fun _ f=>f.elim);have hF5:x.val≠[]→∀ad,a5=some ad→¬CpF w (.slice (some ⟨g,0,none⟩) objs.length cap) ad.block:=fun _ ad had hF=>by
  have h5:=(hown5.lt ad.block (by rw[had];rfl)).1;rcases hF with e|e|e
  ·simp [Value.ownBlock] at e;omega
  ·omega
  ·omega
 refine⟨by rw[heap_setO (by omega),hb.block _ lA];exact gA,by rw[heap_setO (by omega),hb.block _ lB];exact gB,⟨cs.set (k*2+1) (.slice a5 x.val.length c5),(hown'.stored _ _).1,?_,?_⟩,?_,hda,hbf,?_⟩
 ·exact (hcg'.set hx (Bs.own hown5) hF5).keeps hk hkF
 ·intro i y hi hy
  have hlen:=hcg.1;have hkl:=(List.getElem?_eq_some_iff.1 hx).1;by_cases hik:i=k
  ·subst hik
   rw[hx] at hy;cases hy;exact⟨a5,c5,List.getElem?_set_self (by omega),fun ad had=>by have h5:=(hown5.lt ad.block (by rw[had];rfl)).1;omega⟩
  ·obtain ⟨a,c,h1,h2⟩:=hfr i y (by omega) hy
   exact⟨a,c,by rw[List.getElem?_set_ne (by omega)];exact h1,h2⟩
 ·exact (hbs.keep hb).keepsN hk (fun hl ad had e=>hbf hl ad had (hkF _ e))
 ·exact (bU hbw hb).setCell (p:=⟨g,k*2+1,none⟩) (by show w.heap.size≤g;omega) _
theorem CpRel.ends {k:Nat} {w wr w4:World} {O:Oc} {A B:Obj} {da oa a1 a2:Option Addr} {dc oc c1 c2:Nat} (hk:O.reply.objs.length≤k) (h:CpRel k w wr A B (.slice a2 O.reply.objs.length c2) O.reply.objs a1 c1 O.reply.data) (hr:RpIs w O.reply da dc oa oc) (hk4:Keeps (· =w.heap.size+1) wr w4):
  OcOne w O (.returned (.agg #[.int .i64 O.verdict,.int .i64 O.reply.fn,.int .i64 O.reply.exc,.slice a1 O.reply.data.length c1,.int .i64 O.reply.code,.int .i64 O.reply.level,.bool O.reply.more,.int .i64 O.reply.next,.slice a2 O.reply.objs.length c2])) w4:=by
 obtain⟨_,_,⟨cs',hown,hcg,hfr⟩,hbs,hda,hbf,hbw⟩:=h;have hd4:=hbs.keepsN hk4 (fun hl ad had e=>hbf hl ad had (.inr (.inr e)));have ho4:=bF hown hk4 (fun k hk' e=>by have:=(hown.lt k hk').1;have e':k=w.heap.size+1:=e;omega);have hc4:=(hcg.keeps hk4 (fun k e=>.inr (.inr e))).cs;refine⟨a1,c1,a2,c2,rfl,fun W hW=>⟨hd4.agree hda hW,?_,hr.hi,hr.lo⟩,hbw.trans (hk4.below hbw.size (fun k hk e=>by omega))⟩;refine Obs.of_own (own_agree (bQ (base':=w.heap.size) ho4 (by omega)) (Nat.le_refl _) hW) ⟨hc4.1,fun i x hx=>?_⟩ rfl;obtain⟨h1,a,c,h2,h3⟩:=hc4.2 i x hx;obtain⟨a',c',h4,h5⟩:=hfr i x (by have:=(List.getElem?_eq_some_iff.1 hx).1;omega) hx;rw[h2] at h4;cases h4;exact⟨h1,a,c,h2,h3.agree h5 hW⟩
theorem copied_any (O:Oc) (da oa:Option Addr) (dc oc:Nat) (w:World) (hr:RpIs w O.reply da dc oa oc) (hs:O.small):
  Calls Tryz.prog 111 #[.agg #[.int .i64 O.verdict,.int .i64 O.reply.fn,.int .i64 O.reply.exc,.slice da O.reply.data.length dc,.int .i64 O.reply.code,.int .i64 O.reply.level,.bool O.reply.more,.int .i64 O.reply.next,.slice oa O.reply.objs.length oc]] w (OcOne w O):=by
 obtain⟨W0,hW0⟩:∃W,W=(w.alloc (.cells #[.int .i64 O.verdict,.int .i64 O.reply.fn,.int .i64 O.reply.exc,.slice da O.reply.data.length dc,.int .i64 O.reply.code,.int .i64 O.reply.level,.bool O.reply.more,.int .i64 O.reply.next,.slice oa O.reply.objs.length oc] 55)).alloc (.cells #[.int .i64 0,.int .i64 0,.int .i64 0,.slice none 0 0,.int .i64 0,.int .i64 0,.bool false,.int .i64 0,.slice none 0 0] 55):=⟨_,rfl⟩
 have hb0:Below w.heap.size w W0:=by rw[hW0];exact cJ (bH w _) (Nat.le_refl _) _
 have hz0:W0.heap.size=w.heap.size+2:=by rw[hW0];simp
 have pA:W0.heap[w.heap.size]?=some (.cells #[.int .i64 O.verdict,.int .i64 O.reply.fn,.int .i64 O.reply.exc,.slice da O.reply.data.length dc,.int .i64 O.reply.code,.int .i64 O.reply.level,.bool O.reply.more,.int .i64 O.reply.next,.slice oa O.reply.objs.length oc] 55):=by rw[hW0];exact bB (bI w _) (bH _ _)
 have pB:W0.heap[w.heap.size+1]?=some (.cells #[.int .i64 0,.int .i64 0,.int .i64 0,.slice none 0 0,.int .i64 0,.int .i64 0,.bool false,.int .i64 0,.slice none 0 0] 55):=by
  rw[hW0];have:=bI (w.alloc (.cells #[.int .i64 O.verdict,.int .i64 O.reply.fn,.int .i64 O.reply.exc,.slice da O.reply.data.length dc,.int .i64 O.reply.code,.int .i64 O.reply.level,.bool O.reply.more,.int .i64 O.reply.next,.slice oa O.reply.objs.length oc] 55)) (.cells #[.int .i64 0,.int .i64 0,.int .i64 0,.slice none 0 0,.int .i64 0,.int .i64 0,.bool false,.int .i64 0,.slice none 0 0] 55);simpa using this
 have HS:=bC hs;have HR:=bC hr;have HPA:=bC pA;have HPB:=bC pB;have HB0:=bC hb0;have HZ0:=bC hz0;have c3:=cF HPA.out 3 rfl;have c8:=cF HPA.out 8 rfl;have kD:Below W0.heap.size W0 W0.drew:=(Below.refl _ _).drew;have HC1:Hid (∀W,Below W0.heap.size W0 W→Calls Tryz.prog 80 #[.slice da O.reply.data.length dc] W fun r w'=>∃a c,r=.returned (.slice a O.reply.data.length c)∧w'.ownsRow W.heap.size 5 1 (.slice a O.reply.data.length c) O.reply.data.length (u8s O.reply.data)∧Below W.heap.size W w'):=fun W hW=>by
  refine(cL _ O.reply.data W ((HR.out.1.keep HB0.out).keep hW) (by have:=HS.out.data;omega)).mono ?_;rintro r w' ⟨v',rfl,hown,hb⟩;obtain⟨a,c,rfl⟩:=bN hown;exact⟨a,c,rfl,hown,hb⟩
 have HC2:Hid (∀W,Below W0.heap.size W0 W→Calls Tryz.prog 118 #[.slice oa O.reply.objs.length oc] W fun r w'=>∃a c cs,r=.returned (.slice a O.reply.objs.length c)∧w'.ownsRow W.heap.size 165 2 (.slice a O.reply.objs.length c) O.reply.objs.length cs∧ObCs w cs O.reply.objs∧Below W.heap.size W w'):=fun W hW=>by
  refine(cloneO_any _ O.reply.objs w W HR.out.2 (bU HB0.out hW) (by have:=HS.out.objs;omega)).mono ?_;rintro r w' ⟨v',cs,rfl,hown,hcs,hb⟩;obtain⟨a,c,rfl⟩:=bN hown;exact⟨a,c,cs,rfl,hown,hcs,hb⟩
 have HW0:=bC hW0;clear hW0 hr hs pA pB hb0 hz0;go_enter Tryz.func111,Tryz.ntmps111;go_upto_region 2 with(fail)
 rw[←HW0.out];go_cut [3] from 6 to 22 (fun s3 wc=>s3=.pointer (some ⟨w.heap.size,1,none⟩)∧∃a1 c1 a2 c2,Hid (CpRel 0 w wc (.cells #[.int .i64 O.verdict,.int .i64 O.reply.fn,.int .i64 O.reply.exc,.slice a1 O.reply.data.length c1,.int .i64 O.reply.code,.int .i64 O.reply.level,.bool O.reply.more,.int .i64 O.reply.next,.slice a2 O.reply.objs.length c2] 55) (.cells #[.int .i64 0,.int .i64 0,.int .i64 0,.slice none 0 0,.int .i64 0,.int .i64 0,.bool false,.int .i64 0,.slice none 0 0] 55) (.slice a2 O.reply.objs.length c2) O.reply.objs a1 c1 O.reply.data))
 case first=>
  go_region_with (first|(go_at_call 80;(with_reducible refine(HC1.out _ kD).mono ?_);rintro r w1 ⟨a1,c1,rfl,hown1,hb1⟩;have hB1:=bU kD hb1)|(go_at_call 80;(with_reducible refine(HC1.out _ hB2).mono ?_);rintro r w1 ⟨a1,c1,rfl,hown1,hb1⟩;have hB1:=bU hB2 hb1;have z3:=bA (bB HPA.out hB1) 3;have z8:=bA (bB HPA.out hB1) 8;have y3:=bJ (bB HPA.out hB1) 3;have y8:=bJ (bB HPA.out hB1) 8)|(go_at_call 118;(with_reducible refine(HC2.out _ kD).mono ?_);rintro r w2 ⟨a2,c2,cs2,rfl,hown2,hcs2,hb2⟩;have hB2:=bU kD hb2)|(go_at_call 118;(with_reducible refine(HC2.out _ hB1).mono ?_);rintro r w2 ⟨a2,c2,cs2,rfl,hown2,hcs2,hb2⟩;have hB2:=bU hB1 hb2;have z3:=bA (bB HPA.out hB2) 3;have z8:=bA (bB HPA.out hB2) 8;have y3:=bJ (bB HPA.out hB2) 3;have y8:=bJ (bB HPA.out hB2) 8))
  all_goals
   first
    |(have HRL:=bC (CpRel.start HPA.out HPB.out HZ0.out HB0.out hB2 (bQ (bF (F:=fun _=>False) hown1 (Keeps.of_below hb2) (fun _ _ f=>f)) kD.size) (bQ hown2 hB1.size) hcs2 (fun k h1 h2=>by have e1:=(hown1.lt k h1).2;have e2:=(hown2.lt k h2).1;omega)))
    |(have HRL:=bC (CpRel.start HPA.out HPB.out HZ0.out HB0.out hB1 (bQ hown1 hB2.size) (bQ (bF (F:=fun _=>False) hown2 (Keeps.of_below hb1) (fun _ _ f=>f)) kD.size) hcs2 (fun k h1 h2=>by have e1:=(hown1.lt k h1).1;have e2:=(hown2.lt k h2).2;omega)))
   clear c3 c8 kD;go_wp2_with fail;go_meet
   case rel=>exact⟨rfl,_,_,_,_,HRL.out⟩
 case rest=>
  obtain⟨rfl,a1,c1,a2,c2,HRL⟩:=hcut;have c8':wc.cell? ⟨w.heap.size,8,none⟩=some (.slice a2 O.reply.objs.length c2):=bA HRL.out.1 8;obtain⟨n,hN⟩:=gE O.reply.objs.length;have HNN:=bC hN;have h63:n≤1000:=by have:=HS.out.objs;omega
  rw[hN] at c8';clear c3 c8 kD hN;go_wp2_with fail;clear c8';go_loopw [27] (fun idx wr=>∃k:Nat,k≤n∧idx=.int .i64 k∧Hid (CpRel k w wr (.cells #[.int .i64 O.verdict,.int .i64 O.reply.fn,.int .i64 O.reply.exc,.slice a1 O.reply.data.length c1,.int .i64 O.reply.code,.int .i64 O.reply.level,.bool O.reply.more,.int .i64 O.reply.next,.slice a2 O.reply.objs.length c2] 55) (.cells #[.int .i64 0,.int .i64 0,.int .i64 0,.slice none 0 0,.int .i64 0,.int .i64 0,.bool false,.int .i64 0,.slice none 0 0] 55) (.slice a2 O.reply.objs.length c2) O.reply.objs a1 c1 O.reply.data)) (fun idx _=>n- (intOf idx).toNat)
  case atStart=>exact⟨0,Nat.zero_le _,rfl,HRL.out⟩
  case round=>
   obtain⟨k,hk,rfl,hrel⟩:=hrel;by_cases hlt:k<n
   ·obtain ⟨x,hgx⟩:=get_some (l:=O.reply.objs) rfl (by rw[HNN.out];exact hlt)
    obtain⟨gA,gB,⟨cs',hown,hcg,hfr⟩,hbs,hda,hbf,hbw⟩:=hrel.out;obtain⟨g,cap,hv,hg,hnc,hcm⟩:=own_shapeR hown (by rw[HNN.out];omega);simp only[Value.slice.injEq,true_and] at hv;obtain⟨rfl,rfl⟩:=hv;obtain⟨_,xa,xc,hx2,hxb,_⟩:=hcg.2 k x hgx;have e1:wr.cell? ⟨w.heap.size,8,none⟩=some (.slice (some ⟨g,0,none⟩) n c2):=by rw[←HNN.out];exact bW gA 8
    have e2:wr.cell? ⟨g,k*2+1,none⟩=some (.slice xa x.val.length xc):=by rw[hown.cellAt _ (by rw[HNN.out];omega)];exact hx2
    have e3:wr.frozen? ⟨g,k*2+1,none⟩=false:=hown.frozenAt _;have hgl:=(hown.lt g rfl).2;have hxl:=HS.out.vals k x hgx;have HCL:Hid (∀W,Below wr.heap.size wr W→Calls Tryz.prog 80 #[.slice xa x.val.length xc] W fun r w'=>∃v',r=.returned v'∧w'.ownsRow W.heap.size 5 1 v' x.val.length (u8s x.val)∧Below W.heap.size W w'):=fun W hW=>cL _ x.val W (hxb.keep hW) (by omega)
    have HX:=bC hgx;clear gA gB hown hcg hfr hbs hda hbf hbw hgx hx2 hxb HRL;have hkl:(k:Int)<(n:Int):=by omega
    have hk0:(0:Int)≤(k:Int):=Int.natCast_nonneg _;go_wp2_with fail;go_region_with (go_at_call 80;refine(HCL.out _ (Below.refl _ _).drew).mono ?_;rintro r w5 ⟨v5,rfl,hown5,hbel5⟩;obtain⟨a5,c5,rfl⟩:=bN hown5;have hf5:w5.frozen? ⟨g,k*2+1,none⟩=false:=(by rw[hbel5.frozen (p:=⟨g,k*2+1,none⟩) hgl];exact e3);have e1':w5.cell? ⟨w.heap.size,8,none⟩=some (.slice (some ⟨g,0,none⟩) n c2):=bD (w1:=wr.drew) hbel5 e1;have e2':w5.cell? ⟨g,k*2+1,none⟩=some (.slice xa x.val.length xc):=bD (w1:=wr.drew) hbel5 e2)
    all_goals
     have HN:Hid (CpRel (k+1) w (w5.setCell ⟨g,k*2+1,none⟩ (.slice a5 x.val.length c5)) (.cells #[.int .i64 O.verdict,.int .i64 O.reply.fn,.int .i64 O.reply.exc,.slice a1 O.reply.data.length c1,.int .i64 O.reply.code,.int .i64 O.reply.level,.bool O.reply.more,.int .i64 O.reply.next,.slice (some ⟨g,0,none⟩) O.reply.objs.length c2] 55) (.cells #[.int .i64 0,.int .i64 0,.int .i64 0,.slice none 0 0,.int .i64 0,.int .i64 0,.bool false,.int .i64 0,.slice none 0 0] 55) (.slice (some ⟨g,0,none⟩) O.reply.objs.length c2) O.reply.objs a1 c1 O.reply.data):=hrel.out.step (w5:=w5) (show Below wr.heap.size wr w5 from (Below.refl _ _).drew.trans hbel5) HX.out hown5;go_wp2;go_roundw
     case rel=>exact⟨k+1,by omega,by go_num,HN.out⟩
     case measure=>simp [intOf];omega
   ·obtain ⟨gA,gB,_⟩:=hrel.out
    have hsz:=cI gB;obtain⟨e0,e1,e2,e3,e4,e5,e6,e7,e8⟩:wr.cell? ⟨w.heap.size,0,none⟩=some (.int .i64 O.verdict)∧wr.cell? ⟨w.heap.size,1,none⟩=some (.int .i64 O.reply.fn)∧wr.cell? ⟨w.heap.size,2,none⟩=some (.int .i64 O.reply.exc)∧wr.cell? ⟨w.heap.size,3,none⟩=some (.slice a1 O.reply.data.length c1)∧wr.cell? ⟨w.heap.size,4,none⟩=some (.int .i64 O.reply.code)∧wr.cell? ⟨w.heap.size,5,none⟩=some (.int .i64 O.reply.level)∧wr.cell? ⟨w.heap.size,6,none⟩=some (.bool O.reply.more)∧wr.cell? ⟨w.heap.size,7,none⟩=some (.int .i64 O.reply.next)∧wr.cell? ⟨w.heap.size,8,none⟩=some (.slice a2 O.reply.objs.length c2):=⟨bA gA 0,bA gA 1,bA gA 2,bA gA 3,bA gA 4,bA gA 5,bA gA 6,bA gA 7,bA gA 8⟩
    clear HRL gA;go_wp2_with (refine bE rfl 55 (.tmp 2) (.tmp 47) rfl (w.heap.size+1) 0 _ _ (#[.int .i64 O.verdict,.int .i64 O.reply.fn,.int .i64 O.reply.exc,.slice a1 O.reply.data.length c1,.int .i64 O.reply.code,.int .i64 O.reply.level,.bool O.reply.more,.int .i64 O.reply.next,.slice a2 O.reply.objs.length c2]) rfl rfl gB (by simp) (by kernel_rfl) (by rfl) ?_;intro w4 g4 hk4 hz4);clear e0 e1 e2 e3 e4 e5 e6 e7 e8;obtain⟨q0,q1,q2,q3,q4,q5,q6,q7,q8⟩:w4.cell? ⟨(w.heap.size+1),0,none⟩=some (.int .i64 O.verdict)∧w4.cell? ⟨(w.heap.size+1),1,none⟩=some (.int .i64 O.reply.fn)∧w4.cell? ⟨(w.heap.size+1),2,none⟩=some (.int .i64 O.reply.exc)∧w4.cell? ⟨(w.heap.size+1),3,none⟩=some (.slice a1 O.reply.data.length c1)∧w4.cell? ⟨(w.heap.size+1),4,none⟩=some (.int .i64 O.reply.code)∧w4.cell? ⟨(w.heap.size+1),5,none⟩=some (.int .i64 O.reply.level)∧w4.cell? ⟨(w.heap.size+1),6,none⟩=some (.bool O.reply.more)∧w4.cell? ⟨(w.heap.size+1),7,none⟩=some (.int .i64 O.reply.next)∧w4.cell? ⟨(w.heap.size+1),8,none⟩=some (.slice a2 O.reply.objs.length c2):=⟨bA g4 0,bA g4 1,bA g4 2,bA g4 3,bA g4 4,bA g4 5,bA g4 6,bA g4 7,bA g4 8⟩
    refine bodyPost_ret (v:=.agg #[.int .i64 O.verdict,.int .i64 O.reply.fn,.int .i64 O.reply.exc,.slice a1 O.reply.data.length c1,.int .i64 O.reply.code,.int .i64 O.reply.level,.bool O.reply.more,.int .i64 O.reply.next,.slice a2 O.reply.objs.length c2]) (by simp [results,Tryz.results111,go_sem,q0,q1,q2,q3,q4,q5,q6,q7,q8]) rfl ?_;have hnk:n≤k:=by omega
    exact CpRel.ends (by rw[HNN.out];exact hnk) hrel.out HR.out hk4
theorem judge_small (chk:List UInt8→Bool) (u:Int) (q:Rq) (fl:Int) (b:List UInt8):(judgeB chk u q fl b).small:=by
 have hz:∀v,Oc.small ⟨v,Rp.zero⟩:=fun v=>⟨Nat.zero_le _,Nat.zero_le _,fun i x h=>by simp [Rp.zero] at h⟩
 unfold judgeB;split
 ·split
  ·unfold judgeR
   split
   ·rename_i r hr
    obtain⟨h1,h2,h3⟩:=rp_ok_sizes (readB_ok hr)
    repeat' split
    ·exact hz _
    ·exact ⟨h1,h2,h3⟩
    ·exact ⟨h1,h2,h3⟩
   ·exact hz _
  ·exact hz _
 ·exact hz _
theorem judge_verdict (chk:List UInt8→Bool) (u:Int) (q:Rq) (fl:Int) (b:List UInt8):(judgeB chk u q fl b).verdict=1∨(judgeB chk u q fl b).verdict=2∨(judgeB chk u q fl b).verdict=4∨(judgeB chk u q fl b).verdict=5:=by
 unfold judgeB;split
 ·split
  ·unfold judgeR
   split
   ·repeat' split
    all_goals simp
   ·simp
  ·simp
 ·simp
structure OutIs (w:World) (s:Lk):Prop where
 rp:RpIs w s.o.reply s.da s.dc s.oa s.oc
 dn:s.dn=s.o.reply.data.length
 on:s.on=s.o.reply.objs.length
 small:s.o.small
def OutPost (w:World) (o:Oc) (r:Ending) (w':World):Prop:=∃(da:Option Addr) (dc:Nat) (oa:Option Addr) (oc:Nat),r=.returned (.tuple #[.agg #[.int .i64 o.verdict,.int .i64 o.reply.fn,.int .i64 o.reply.exc,.slice da o.reply.data.length dc,.int .i64 o.reply.code,.int .i64 o.reply.level,.bool o.reply.more,.int .i64 o.reply.next,.slice oa o.reply.objs.length oc],.bool true])∧(∀W,Agree w.heap.size w' W→RpIs W o.reply da dc oa oc)∧Below w.heap.size w w'
theorem outcome_done (g:Nat) (s:Lk) (w:World) (hl:LkAt w g s) (hph:s.ph=5) (ho:OutIs w s):
  Calls Tryz.prog 65 #[.pointer (some ⟨g,0,none⟩)] w (OutPost w s.o):=by
 have hg:=hl.lt;obtain⟨W1,hW1,hb1,g1⟩:=alQ w (.cells #[.int .i64 0,.int .i64 0,.int .i64 0,.slice none 0 0,.int .i64 0,.int .i64 0,.bool false,.int .i64 0,.slice none 0 0] 55);have l1:=hl.keep hb1;have c5:W1.cell? ⟨g,5,none⟩=some (.int .i64 5):=by rw[l1.cell 5];simp [Lk.cells,hph]
 have c20:W1.cell? ⟨g,20,none⟩=some (.int .i64 s.o.verdict):=l1.cell 20;have c21:W1.cell? ⟨g,21,none⟩=some (.int .i64 s.o.reply.fn):=l1.cell 21;have c22:W1.cell? ⟨g,22,none⟩=some (.int .i64 s.o.reply.exc):=l1.cell 22;have c23:W1.cell? ⟨g,23,none⟩=some (.slice s.da s.o.reply.data.length s.dc):=by rw[l1.cell 23];simp [Lk.cells,ho.dn]
 have c24:W1.cell? ⟨g,24,none⟩=some (.int .i64 s.o.reply.code):=l1.cell 24;have c25:W1.cell? ⟨g,25,none⟩=some (.int .i64 s.o.reply.level):=l1.cell 25;have c26:W1.cell? ⟨g,26,none⟩=some (.bool s.o.reply.more):=l1.cell 26;have c27:W1.cell? ⟨g,27,none⟩=some (.int .i64 s.o.reply.next):=l1.cell 27;have c28:W1.cell? ⟨g,28,none⟩=some (.slice s.oa s.o.reply.objs.length s.oc):=by rw[l1.cell 28];simp [Lk.cells,ho.on]
 have HC:=bC (copied_any s.o s.da s.oa s.dc s.oc W1 (ho.rp.keep hb1) ho.small);have HW1:=bC hW1;have HB1:=bC hb1;have G1:=bC g1;clear hl hW1 hb1 g1 l1 ho hph;go_enter Tryz.func65,Tryz.ntmps65;go_upto_region 1 with(fail)
 rw[HW1.out];go_wp2_with fail;refine HC.out.mono ?_;rintro r w2 ⟨ya,yc,za,zc,rfl,ho,hb2⟩;have gz:=bB G1.out hb2;have HO:=bC ho;have hbw:=bU HB1.out hb2;clear c5 c20 c21 c22 c23 c24 c25 c26 c27 c28 ho;go_wp2_with (refine bE rfl 55 (.tmp 2) (.tmp 18) rfl w.heap.size 0 _ _ (#[.int .i64 s.o.verdict,.int .i64 s.o.reply.fn,.int .i64 s.o.reply.exc,.slice ya s.o.reply.data.length yc,.int .i64 s.o.reply.code,.int .i64 s.o.reply.level,.bool s.o.reply.more,.int .i64 s.o.reply.next,.slice za s.o.reply.objs.length zc]) rfl rfl gz (by simp) (by kernel_rfl) (by rfl) ?_;intro w4 g4 hk4 hz4);obtain⟨q0,q1,q2,q3,q4,q5,q6,q7,q8⟩:w4.cell? ⟨w.heap.size,0,none⟩=some (.int .i64 s.o.verdict)∧w4.cell? ⟨w.heap.size,1,none⟩=some (.int .i64 s.o.reply.fn)∧w4.cell? ⟨w.heap.size,2,none⟩=some (.int .i64 s.o.reply.exc)∧w4.cell? ⟨w.heap.size,3,none⟩=some (.slice ya s.o.reply.data.length yc)∧w4.cell? ⟨w.heap.size,4,none⟩=some (.int .i64 s.o.reply.code)∧w4.cell? ⟨w.heap.size,5,none⟩=some (.int .i64 s.o.reply.level)∧w4.cell? ⟨w.heap.size,6,none⟩=some (.bool s.o.reply.more)∧w4.cell? ⟨w.heap.size,7,none⟩=some (.int .i64 s.o.reply.next)∧w4.cell? ⟨w.heap.size,8,none⟩=some (.slice za s.o.reply.objs.length zc):=⟨bA g4 0,bA g4 1,bA g4 2,bA g4 3,bA g4 4,bA g4 5,bA g4 6,bA g4 7,bA g4 8⟩
 refine bodyPost_ret (v:=.tuple #[.agg #[.int .i64 s.o.verdict,.int .i64 s.o.reply.fn,.int .i64 s.o.reply.exc,.slice ya s.o.reply.data.length yc,.int .i64 s.o.reply.code,.int .i64 s.o.reply.level,.bool s.o.reply.more,.int .i64 s.o.reply.next,.slice za s.o.reply.objs.length zc],.bool true]) (by simp [results,Tryz.results65,go_sem,q0,q1,q2,q3,q4,q5,q6,q7,q8]) rfl ?_;refine⟨ya,yc,za,zc,rfl,fun W hW=>HO.out W (Agree.trans (Agree.of_keeps hk4 (fun k e=>by have e':k=w.heap.size:=e;have:=cI G1.out;omega)) (hW.mono HB1.out.size)),hbw.trans (hk4.below hbw.size (fun k hk e=>by omega))⟩
theorem action_listen (g:Nat) (s:Lk) (w:World) (hl:LkAt w g s) (hh:s.hears):
  Calls Tryz.prog 61 #[.pointer (some ⟨g,0,none⟩)] w fun r w'=>r=.returned (.agg #[.int .i64 2,.int .i64 s.til,.slice none 0 0])∧Below w.heap.size w w':=by
 have hg:=hl.lt;have c15:w.cell? ⟨g,15,none⟩=some (.int .i64 s.til):=hl.cell 15;have c5:w.cell? ⟨g,5,none⟩=some (.int .i64 2)∨w.cell? ⟨g,5,none⟩=some (.int .i64 3)∨w.cell? ⟨g,5,none⟩=some (.int .i64 4):=by
  rw[hl.cell 5];rcases hh with h|h|h
  ·left;simp [Lk.cells,h]
  ·right;left;simp [Lk.cells,h]
  ·right;right;simp [Lk.cells,h]
 clear hl hh;rcases c5 with c5|c5|c5
 all_goals
  go_enter Tryz.func61,Tryz.ntmps61;go_wp2;refine bodyPost_ret (v:=.agg #[.int .i64 2,.int .i64 s.til,.slice none 0 0]) (by simp [results,Tryz.results61,go_sem]) rfl ?_;exact⟨rfl,bH w _⟩
theorem action_done (g:Nat) (s:Lk) (w:World) (hl:LkAt w g s) (hph:s.ph=5):
  Calls Tryz.prog 61 #[.pointer (some ⟨g,0,none⟩)] w fun r w'=>r=.returned (.agg #[.int .i64 3,.int .i64 0,.slice none 0 0])∧Below w.heap.size w w':=by
 have hg:=hl.lt;have c5:w.cell? ⟨g,5,none⟩=some (.int .i64 5):=by rw[hl.cell 5];simp [Lk.cells,hph]
 clear hl hph;go_enter Tryz.func61,Tryz.ntmps61;go_wp2;refine bodyPost_ret (v:=.agg #[.int .i64 3,.int .i64 0,.slice none 0 0]) (by simp [results,Tryz.results61,go_sem]) rfl ?_;exact⟨rfl,bH w _⟩
theorem action_none (g:Nat) (s:Lk) (w:World) (hl:LkAt w g s) (hph:s.ph=0):
  Calls Tryz.prog 61 #[.pointer (some ⟨g,0,none⟩)] w fun r w'=>r=.returned (.agg #[.int .i64 0,.int .i64 0,.slice none 0 0])∧Below w.heap.size w w':=by
 have hg:=hl.lt;have c5:w.cell? ⟨g,5,none⟩=some (.int .i64 0):=by rw[hl.cell 5];simp [Lk.cells,hph]
 clear hl hph;go_enter Tryz.func61,Tryz.ntmps61;go_wp2;refine bodyPost_ret (v:=.agg #[.int .i64 0,.int .i64 0,.slice none 0 0]) (by simp [results,Tryz.results61,go_sem]) rfl ?_;exact⟨rfl,bH w _⟩
theorem outcome_not (g:Nat) (s:Lk) (w:World) (hl:LkAt w g s) (hph:¬s.ph=5):
  Calls Tryz.prog 65 #[.pointer (some ⟨g,0,none⟩)] w fun r w'=>r=.returned (.tuple #[.agg #[.int .i64 0,.int .i64 0,.int .i64 0,.slice none 0 0,.int .i64 0,.int .i64 0,.bool false,.int .i64 0,.slice none 0 0],.bool false])∧Below w.heap.size w w':=by
 have hg:=hl.lt;have c5:w.cell? ⟨g,5,none⟩=some (.int .i64 s.ph):=hl.cell 5;have d:(s.ph !=5)=true:=by rw[bne_iff_ne];exact hph
 clear hl hph;go_enter Tryz.func65,Tryz.ntmps65;go_wp2;refine bodyPost_ret (v:=.tuple #[.agg #[.int .i64 0,.int .i64 0,.int .i64 0,.slice none 0 0,.int .i64 0,.int .i64 0,.bool false,.int .i64 0,.slice none 0 0],.bool false]) (by simp [results,Tryz.results65,go_sem]) rfl ?_;exact⟨rfl,bH w _⟩
theorem now_any (g:Nat) (s:Lk) (w:World) (hl:LkAt w g s):
  Calls Tryz.prog 64 #[.pointer (some ⟨g,0,none⟩)] w fun r w'=>r=.returned (.int .i64 s.now)∧w=w':=by
 have c13:w.cell? ⟨g,13,none⟩=some (.int .i64 s.now):=hl.cell 13;clear hl;go_enter Tryz.func64,Tryz.ntmps64;go_wp2;go_ret;exact⟨rfl,rfl⟩
structure Lk.like (s s':Lk):Prop where
 b:s'.b=s.b
 p:s'.p=s.p
 re:s'.re=s.re
 ti:s'.ti=s.ti
 dr:s'.dr=s.dr
 fa:s'.fa=s.fa
 fn:s'.fn=s.fn
 fc:s'.fc=s.fc
 un:s'.un=s.un
 q:s'.q=s.q
theorem Lk.like.refl (s:Lk):s.like s:=⟨rfl,rfl,rfl,rfl,rfl,rfl,rfl,rfl,rfl,rfl⟩
theorem RpIs.zeroIs (w:World) (s:Lk) (v:Int):OutIs w (s.silent v):=⟨RpIs.zero w,rfl,rfl,⟨Nat.zero_le _,Nat.zero_le _,fun i x h=>by simp [Lk.silent,Rp.zero] at h⟩⟩
end Go.Proofs.YtoaoejaodhedaaaGreat
