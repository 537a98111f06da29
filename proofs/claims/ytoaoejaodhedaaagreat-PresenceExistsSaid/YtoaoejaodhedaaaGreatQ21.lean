import Derived.Test.YtoaoejaodhedaaaGreatQ20
import Derived.Deep.RegionWith
namespace Go.Proofs.YtoaoejaodhedaaaGreat
open Go.RowKit
set_option maxHeartbeats 12800000
set_option maxRecDepth 100000
theorem SlC_set (s:Sl) (rv:Nat→Value) (ov sv v:Value) {k:Nat} (hk:k<4):(SlC s rv ov sv).setIfInBounds (3+k*3+1) v=SlC s (fun j=>if j=k then v else rv j) ov sv:=by
 rcases (show k=0∨k=1∨k=2∨k=3 by omega) with rfl|rfl|rfl|rfl<;>rfl
theorem SlC_one (s:Sl) (rv:Nat→Value) (ov sv:Value) (h:∀k,k<4→(rv k).oneCell'=true) (h1:ov.oneCell'=true) (h2:sv.oneCell'=true):(SlC s rv ov sv).toList.all (·.oneCell')=true:=by
 have e0:=h 0 (by decide);have e1:=h 1 (by decide);have e2:=h 2 (by decide);have e3:=h 3 (by decide);show ([.int .i64 s.bd,.int .i64 s.pa,.int .i64 s.un,.bool (s.ts 0).sup,rv 0,.int .i64 (s.ts 0).most,.bool (s.ts 1).sup,rv 1,.int .i64 (s.ts 1).most,.bool (s.ts 2).sup,rv 2,.int .i64 (s.ts 2).most,.bool (s.ts 3).sup,rv 3,.int .i64 (s.ts 3).most,.int .i64 s.lv,ov,.bool s.hs,sv]:List Value).all (·.oneCell')=true;simp only[List.all_cons,List.all_nil,e0,e1,e2,e3,h1,h2];rfl
structure SlBd (s:Sl):Prop where
 rd:∀k,k<4→(s.ts k).rd.length≤1000000
 ob:s.objs.length≤1000000
 vl:∀(i:Nat) (x:Ob),s.objs[i]?=some x→x.val.length≤1000000
 sd:s.sd.length≤1000000
structure ClT (k:Nat) (w wr:World) (s:Sl) (rv:Nat→Value) (ov sv:Value) (Z:Array Value) (rn:Nat→Value):Prop where
 S:wr.heap[w.heap.size]?=some (.cells (SlC s rn ov sv) 68)
 R:wr.heap[w.heap.size+1]?=some (.cells Z 68)
 old:∀j,k≤j→j<4→rn j=rv j
 new:∀j,j<k→wr.ownsRow (w.heap.size+2) 24 2 (rn j) (s.ts j).rd.length (setV (s.ts j).rd)
 b:Below w.heap.size w wr
theorem ClT.step {k:Nat} {w wr w5:World} {s:Sl} {rv:Nat→Value} {ov sv:Value} {Z:Array Value} {rn:Nat→Value} (h:ClT k w wr s rv ov sv Z rn) (hk:k<4) (hb:Below wr.heap.size wr w5) {v:Value} (hz:w.heap.size+2≤wr.heap.size)
  (hv:w5.ownsRow wr.heap.size 24 2 v (s.ts k).rd.length (setV (s.ts k).rd)):ClT (k+1) w (w5.setCell ⟨w.heap.size,3+k*3+1,none⟩ v) s rv ov sv Z (fun j=>if j=k then v else rn j):=by
 have hk5:Keeps (· =w.heap.size) w5 (w5.setCell ⟨w.heap.size,3+k*3+1,none⟩ v):=(Keeps.refl _ _).set _ _ rfl;refine⟨?_,bG (bB h.R hb) hk5 (fun e=>by have e':w.heap.size+1=w.heap.size:=e;omega),fun j h1 h2=>?_,fun j hj=>?_,h.b.trans ((hb.mono h.b.size).trans (hk5.below (by have:=h.b.size;have:=hb.size;omega) (fun j hj e=>by omega)))⟩
 ·have:=bX (bB h.S hb) (3+k*3+1) v
  rw[SlC_set s rn ov sv v hk] at this;exact this
 ·rw [if_neg (by omega)]
  exact h.old j (by omega) h2
 ·by_cases e:j=k
  ·subst e
   rw[if_pos rfl];exact bF (bQ hv hz) hk5 (fun i hi e=>by have:=(hv.lt i hi).1;have e':i=w.heap.size:=e;omega)
  ·rw [if_neg e]
   have h5:=bF (h.new j (by omega)) (Keeps.of_below (F:=fun _=>False) hb) (fun _ _ e=>e);exact bF h5 hk5 (fun i hi e=>by have:=(h5.lt i hi).1;have e':i=w.heap.size:=e;omega)
def ClF (w:World) (v2:Value):Nat→Prop:=fun k=>v2.ownBlock=some k∨k=w.heap.size∨k=w.heap.size+1
structure ClO (k:Nat) (w w4 wr:World) (A B:Obj) (v2:Value) (objs:List Ob):Prop where
 A_:wr.heap[w.heap.size]?=some A
 B_:wr.heap[w.heap.size+1]?=some B
 row:∃cs,wr.ownsRow (w.heap.size+2) 165 2 v2 objs.length cs∧ObCg (ClF w v2) wr cs objs∧∀i x,i<k→objs[i]?=some x→∃a c,cs[i*2+1]?=some (.slice a x.val.length c)∧∀ad,a=some ad→w.heap.size≤ad.block
 kp:Keeps (fun j=>v2.ownBlock=some j) w4 wr
theorem ClO.step {k:Nat} {w w4 wr w5:World} {A B:Obj} {g cap:Nat} {objs:List Ob} (h:ClO k w w4 wr A B (.slice (some ⟨g,0,none⟩) objs.length cap) objs) (hw:w.heap.size+2≤wr.heap.size)
  (hb:Below wr.heap.size wr w5) {x:Ob} (hx:objs[k]?=some x) {E:TypeId} {a5:Option Addr} {c5:Nat} (hown5:w5.ownsRow wr.heap.size E 1 (.slice a5 x.val.length c5) x.val.length (u8s x.val)):
  ClO (k+1) w w4 (w5.setCell ⟨g,k*2+1,none⟩ (.slice a5 x.val.length c5)) A B (.slice (some ⟨g,0,none⟩) objs.length cap) objs:=by
 obtain⟨gA,gB,⟨cs,hown,hcg,hfr⟩,hkp⟩:=h;have hg:=hown.lt g rfl;have lA:=cI gA;have lB:=cI gB;have hk:Keeps (fun k=>k=g) w5 (w5.setCell ⟨g,k*2+1,none⟩ (.slice a5 x.val.length c5)):=(Keeps.refl _ _).set _ _ rfl;have hkF:∀k,k=g→ClF w (.slice (some ⟨g,0,none⟩) objs.length cap) k:=fun k hk=>.inl (by rw[hk];rfl)
 have hown':=bF hown (Keeps.of_below (F:=fun _=>False) hb) (fun _ _ f=>f);have hcg':=hcg.keeps (Keeps.of_below (F:=fun _=>False) hb) (fun _ f=>f.elim);have hF5:x.val≠[]→∀ad,a5=some ad→¬ClF w (.slice (some ⟨g,0,none⟩) objs.length cap) ad.block:=fun _ ad had hF=>by
  have h5:=(hown5.lt ad.block (by rw[had];rfl)).1;rcases hF with e|e|e
  ·simp [Value.ownBlock] at e;omega
  ·omega
  ·omega
 refine⟨bG (bB gA hb) hk (fun e=>by have e':w.heap.size=g:=e;omega),bG (bB gB hb) hk (fun e=>by have e':w.heap.size+1=g:=e;omega),⟨cs.set (k*2+1) (.slice a5 x.val.length c5),(hown'.stored _ _).1,?_,?_⟩,?_⟩
 ·exact (hcg'.set hx (Bs.own hown5) hF5).keeps hk hkF
 ·intro i y hi hy
  have hlen:=hcg.1;have hkl:=(List.getElem?_eq_some_iff.1 hx).1;by_cases hik:i=k
  ·subst hik
   rw[hx] at hy;cases hy;exact⟨a5,c5,List.getElem?_set_self (by omega),fun ad had=>by have h5:=(hown5.lt ad.block (by rw[had];rfl)).1;omega⟩
  ·obtain ⟨a,c,h1,h2⟩:=hfr i y (by omega) hy
   exact⟨a,c,by rw[List.getElem?_set_ne (by omega)];exact h1,h2⟩
 ·exact (hkp.trans (Keeps.of_below (F:=fun _=>False) hb) (fun _ _ e=>e.elim)).trans (hk.mono (fun j _ e=>by subst e;rfl)) (fun _ _ e=>e)
theorem ClO.ends {k:Nat} {w w4 wr w8:World} {A B:Obj} {v2:Value} {objs:List Ob} (h:ClO k w w4 wr A B v2 objs) (hk:objs.length≤k) (h8:Keeps (fun j=>j=w.heap.size∨j=w.heap.size+1) wr w8):∀W,Agree w.heap.size w8 W→Obs W v2 objs:=by
 obtain⟨_,_,⟨cs,hown,hcg,hfr⟩,_⟩:=h;intro W hW;have ho8:=bF hown h8 (fun j hj e=>by have:=(hown.lt j hj).1;rcases e with e|e<;>omega);have hc8:=(hcg.keeps h8 (fun j e=>e.elim (fun e=>.inr (.inl e)) (fun e=>.inr (.inr e)))).cs;refine Obs.of_own (own_agree (bQ (base':=w.heap.size) ho8 (by omega)) (Nat.le_refl _) hW) ⟨hc8.1,fun i x hx=>?_⟩ rfl;obtain⟨h1,a,c,h2,h3⟩:=hc8.2 i x hx;obtain⟨a',c',h4,h5⟩:=hfr i x (by have:=(List.getElem?_eq_some_iff.1 hx).1;omega) hx;rw[h2] at h4;cases h4;exact⟨h1,a,c,h2,h3.agree h5 hW⟩
def SlNew (w:World) (s:Sl) (r:Ending) (w':World):Prop:=∃rv ov sv,r=.returned (.agg (SlC s rv ov sv))∧(∀W,Agree w.heap.size w' W→SlR W s rv ov sv)∧Below w.heap.size w w'
theorem own_oneC {w:World} {base:Nat} {e:TypeId} {sz:Nat} {v:Value} {n:Nat} {xs:List Value} (h:w.ownsRow base e sz v n xs):v.oneCell'=true:=by
 obtain⟨a,c,rfl⟩:=bN h;rfl
theorem clone_sl (s:Sl) (rv:Nat→Value) (ov sv:Value) (w:World) (hR:SlR w s rv ov sv) (hs:SlBd s):Calls Tryz.prog 69 #[.agg (SlC s rv ov sv)] w (SlNew w s):=by
 obtain⟨C,hC⟩:=gE (SlC s rv ov sv);rw[hC];obtain⟨W0,hW0⟩:∃W,(w.alloc (.cells C 68)).alloc (.cells #[.int .i64 0,.int .i64 0,.int .i64 0,.bool false,.slice none 0 0,.int .i64 0,.bool false,.slice none 0 0,.int .i64 0,.bool false,.slice none 0 0,.int .i64 0,.bool false,.slice none 0 0,.int .i64 0,.int .i64 0,.slice none 0 0,.bool false,.slice none 0 0] 68)=W:=⟨_,rfl⟩
 have hb0:Below w.heap.size w W0:=by rw[←hW0];exact cJ (bH w _) (Nat.le_refl _) _
 have hz0:W0.heap.size=w.heap.size+2:=by rw[←hW0];simp
 have pA:W0.heap[w.heap.size]?=some (.cells (SlC s rv ov sv) 68):=by rw[←hW0,hC];exact bB (bI w _) (bH _ _)
 obtain⟨Z,hZ⟩:∃Z:Array Value,#[.int .i64 0,.int .i64 0,.int .i64 0,.bool false,.slice none 0 0,.int .i64 0,.bool false,.slice none 0 0,.int .i64 0,.bool false,.slice none 0 0,.int .i64 0,.bool false,.slice none 0 0,.int .i64 0,.int .i64 0,.slice none 0 0,.bool false,.slice none 0 0]=Z:=⟨_,rfl⟩
 have pB:W0.heap[w.heap.size+1]?=some (.cells Z 68):=by
  rw[←hW0,←hZ];have:=bI (w.alloc (.cells C 68)) (.cells #[.int .i64 0,.int .i64 0,.int .i64 0,.bool false,.slice none 0 0,.int .i64 0,.bool false,.slice none 0 0,.int .i64 0,.bool false,.slice none 0 0,.int .i64 0,.bool false,.slice none 0 0,.int .i64 0,.int .i64 0,.slice none 0 0,.bool false,.slice none 0 0] 68);simpa using this
 have hZs:Z.size=19:=by rw[←hZ];rfl
 have HT:Hid (ClT 0 w W0 s rv ov sv Z rv):=⟨pA,pB,fun _ _ _=>rfl,fun j h=>by omega,hb0⟩
 have HS:=bC hs;have HR:=bC hR;have HW0:=bC hW0;have HZ0:=bC hz0;have HZS:=bC hZs;clear hW0 hC hZ pA pB hb0 hz0 hZs hs hR;go_enter Tryz.func69,Tryz.ntmps69;go_upto_region 1 with(fail)
 rw[HW0.out];go_upto_region 2 with(fail)
 go_loopw [5] (fun kv wr=>∃(k:Nat) (rn:Nat→Value),k≤4∧kv=.int .i64 (k:Int)∧Hid (ClT k w wr s rv ov sv Z rn)∧Hid (w.heap.size+2≤wr.heap.size)) (fun kv _=>4- (intOf kv).toNat)
 case atStart=>exact⟨0,rv,Nat.zero_le _,rfl,HT.out,by rw[HZ0.out];exact Nat.le_refl _⟩
 case round=>
  clear HT;obtain⟨k,rn,hk,rfl,ht,hzr⟩:=hrel;have hk0:(0:Int)≤(k:Int):=Int.natCast_nonneg _;by_cases hlt:k<4
  ·have hk4:(k:Int)<4:=by omega
   have hrn:=ht.out.old k (Nat.le_refl _) hlt;have hrg:Rgs wr (rn k) (s.ts k).rd:=by rw[hrn];exact(HR.out.rg k hlt).keep ht.out.b
   have c1:wr.cell? ⟨w.heap.size,3+k*3+1,none⟩=some (rn k):=by rw[bA ht.out.S];exact SlC_rd s rn ov sv hlt
   have f1:wr.frozen? ⟨w.heap.size,3+k*3+1,none⟩=false:=bJ ht.out.S _;have hwl:w.heap.size<wr.heap.size:=cI ht.out.S;obtain⟨v,hv⟩:=gE (rn k);obtain⟨l,hl⟩:=gE ((s.ts k).rd);have hll:=HS.out.rd k hlt;rw[hv,hl] at hrg;rw[hv] at c1;rw[hl] at hll;have HCL:=bC (cloneRg_any v l wr hrg hll);have HL:=bC hl;have HLT:=bC hlt;clear hrn hrg hv hl hll hlt;go_wp2_with (go_at_call 117;(with_reducible refine HCL.out.mono ?_);rintro r w5 ⟨a5,c5,rfl,hown5,hb5⟩;have HO5:=bC hown5;have HB5:=bC hb5;have c1':w5.cell? ⟨w.heap.size,3+k*3+1,none⟩=some v:=bD hb5 c1;have f1':w5.frozen? ⟨w.heap.size,3+k*3+1,none⟩=false:=(by rw[hb5.frozen (p:=⟨w.heap.size,3+k*3+1,none⟩) hwl];exact f1);clear hown5 hb5);go_roundw
   case rel=>
    have h5:=HO5.out;rw[←HL.out] at h5;refine⟨k+1,_,by have:=HLT.out;omega,by go_num,ht.out.step HLT.out HB5.out hzr.out (by rw[←HL.out];exact h5),?_⟩;show _≤_;have:=HB5.out.size;have:=hzr.out;simp;omega
   case measure=>have:=HLT.out;simp [intOf];omega
  ·obtain rfl:k=4:=by omega
   clear hlt hk hk0;have c16:∀X,Below wr.heap.size wr X→X.cell? ⟨w.heap.size,16,none⟩=some ov:=fun X h=>bA (bB ht.out.S h) 16
   have f16:∀X,Below wr.heap.size wr X→X.frozen? ⟨w.heap.size,16,none⟩=false:=fun X h=>bJ (bB ht.out.S h) 16
   have kr:Below wr.heap.size wr wr:=Below.refl _ _;have HCO:=bC (cloneO_any ov s.objs w wr HR.out.ob ht.out.b HS.out.ob);go_upto_region 7 with(go_at_call 118;(with_reducible refine HCO.out.mono ?_);rintro r w3 ⟨v2,cs,rfl,hown3,hcs3,hb3⟩;obtain⟨a2,c2,rfl⟩:=bN hown3;have HO3:=bC hown3;have HCS:=bC hcs3;have HB3:=bC hb3;have k3:=hb3;clear hown3 hcs3 hb3)
   obtain⟨W4,hW4⟩:∃W,w3.setCell ⟨w.heap.size,16,none⟩ (.slice a2 s.objs.length c2)=W:=⟨_,rfl⟩
   have h34:Keeps (· =w.heap.size) w3 W4:=by rw[←hW4];exact(Keeps.refl _ _).set _ _ rfl
   have hz3:=hzr.out;have hbs3:=HB3.out.size;have hA4:W4.heap[w.heap.size]?=some (.cells (SlC s rn (.slice a2 s.objs.length c2) sv) 68):=by rw[←hW4];exact bX (bB ht.out.S HB3.out) 16 (.slice a2 s.objs.length c2)
   have hB4:W4.heap[w.heap.size+1]?=some (.cells Z 68):=bG (bB ht.out.R HB3.out) h34 (fun e=>by have e':w.heap.size+1=w.heap.size:=e;omega);have ho4:=bF HO3.out h34 (fun j hj e=>by have:=(HO3.out.lt j hj).1;have e':j=w.heap.size:=e;omega);have HRL:Hid (ClO 0 w W4 W4 (.cells (SlC s rn (.slice a2 s.objs.length c2) sv) 68) (.cells Z 68) (.slice a2 s.objs.length c2) s.objs):=by
    refine⟨hA4,hB4,⟨cs,bQ ho4 hz3,?_,fun i x h=>absurd h (Nat.not_lt_zero _)⟩,Keeps.refl _ _⟩;have h2:ObCg (ClF w (.slice a2 s.objs.length c2)) w3 cs s.objs:=ObCg.of HCS.out (ht.out.b.trans (HB3.out.mono ht.out.b.size)) (fun j hj hF=>by
     rcases hF with e|e|e
     ·have:=(HO3.out.lt j e).1
      omega
     ·omega
     ·omega)
    exact h2.keeps h34 (fun j e=>.inr (.inl e))
   have HTN:Hid (∀j,j<4→W4.ownsRow (w.heap.size+2) 24 2 (rn j) (s.ts j).rd.length (setV (s.ts j).rd)∧∀i,(rn j).ownBlock=some i→(Value.slice a2 s.objs.length c2).ownBlock≠some i):=fun j hj=>by
    have h3:=bF (ht.out.new j hj) (Keeps.of_below (F:=fun _=>False) HB3.out) (fun _ _ e=>e);refine⟨bF h3 h34 (fun i hi e=>by have:=(h3.lt i hi).1;have e':i=w.heap.size:=e;omega),fun i hi e=>?_⟩;have h4:=(ht.out.new j hj).lt i hi;have:=(HO3.out.lt i e).1;omega
   have HB4:Hid (Below w.heap.size w W4):=(ht.out.b.trans (HB3.out.mono ht.out.b.size)).trans (h34.below (by have:=ht.out.b.size;omega) (fun j hj e=>by omega));have HZ4:Hid (w.heap.size+2≤W4.heap.size):=by show _≤_;have:=h34.size;omega
   rw[hW4];obtain⟨n,hN⟩:=gE s.objs.length;have HNN:=bC hN;have h63:n≤1000000:=by have:=HS.out.ob;omega
   have c8':W4.cell? ⟨w.heap.size,16,none⟩=some (.slice a2 n c2):=by rw[←HNN.out];exact bA hA4 16
   clear hW4 h34 hz3 hbs3 hA4 hB4 ho4 HO3 HCS HB3 k3 c16 f16 kr HCO hN hzr ht;go_upto_region 8 with(fail)
   clear c8';go_loopw [26] (fun idx wr=>∃k:Nat,k≤n∧idx=.int .i64 k∧Hid (ClO k w W4 wr (.cells (SlC s rn (.slice a2 s.objs.length c2) sv) 68) (.cells Z 68) (.slice a2 s.objs.length c2) s.objs)∧Hid (w.heap.size+2≤wr.heap.size)) (fun idx _=>n- (intOf idx).toNat)
   case atStart=>exact⟨0,Nat.zero_le _,rfl,HRL.out,HZ4.out⟩
   case round=>
    obtain⟨k,hk,rfl,hrel,hzr⟩:=hrel;by_cases hlt:k<n
    ·obtain ⟨x,hgx⟩:=gs (l:=s.objs) HNN.out hlt
     obtain⟨gA,gB,⟨cs',hown,hcg,hfr⟩,hkp⟩:=hrel.out;obtain⟨g,cap,hv,hg,hnc,hcm⟩:=own_shapeR hown (by rw[HNN.out];omega);simp only[Value.slice.injEq,true_and] at hv;obtain⟨rfl,rfl⟩:=hv;obtain⟨_,xa,xc,hx2,hxb,_⟩:=hcg.2 k x hgx;have e1:wr.cell? ⟨w.heap.size,16,none⟩=some (.slice (some ⟨g,0,none⟩) n c2):=by rw[←HNN.out];exact bA gA 16
     have e2:wr.cell? ⟨g,k*2+1,none⟩=some (.slice xa x.val.length xc):=by rw[hown.cellAt _ (by rw[HNN.out];omega)];exact hx2
     have e3:wr.frozen? ⟨g,k*2+1,none⟩=false:=hown.frozenAt _;have hgl:=(hown.lt g rfl).2;have hxl:=HS.out.vl k x hgx;have HCL:Hid (∀W,Below wr.heap.size wr W→Calls Tryz.prog 80 #[.slice xa x.val.length xc] W fun r w'=>∃v',r=.returned v'∧w'.ownsRow W.heap.size 5 1 v' x.val.length (u8s x.val)∧Below W.heap.size W w'):=fun W hW=>cL _ x.val W (hxb.keep hW) (by omega)
     have HX:=bC hgx;clear gA gB hown hcg hfr hkp hgx hx2 hxb HRL HTN HB4;have hkl:(k:Int)<(n:Int):=by omega
     have hk0:(0:Int)≤(k:Int):=Int.natCast_nonneg _;go_wp2_with fail;go_region_with (go_at_call 80;refine(HCL.out _ (Below.refl _ _).drew).mono ?_;rintro r w5 ⟨v5,rfl,hown5,hbel5⟩;obtain⟨a5,c5,rfl⟩:=bN hown5;have hf5:w5.frozen? ⟨g,k*2+1,none⟩=false:=(by rw[hbel5.frozen (p:=⟨g,k*2+1,none⟩) hgl];exact e3);have e1':w5.cell? ⟨w.heap.size,16,none⟩=some (.slice (some ⟨g,0,none⟩) n c2):=bD (w1:=wr.drew) hbel5 e1;have e2':w5.cell? ⟨g,k*2+1,none⟩=some (.slice xa x.val.length xc):=bD (w1:=wr.drew) hbel5 e2)
     all_goals
      have hb5:Below wr.heap.size wr w5:=(Below.refl _ _).drew.trans hbel5;have HN:=bC (hrel.out.step hzr.out hb5 HX.out hown5);have HZN:Hid (w.heap.size+2≤(w5.setCell ⟨g,k*2+1,none⟩ (.slice a5 x.val.length c5)).heap.size):=(by show _≤_;have:=hb5.size;have:=hzr.out;simp;omega)
      go_wp2;go_roundw
      case rel=>exact⟨k+1,by omega,by go_num,HN.out,HZN.out⟩
      case measure=>simp [intOf];omega
    ·have hnk:n≤k:=by omega
     have c18:wr.cell? ⟨w.heap.size,18,none⟩=some sv:=bA hrel.out.A_ 18;have f18:wr.frozen? ⟨w.heap.size,18,none⟩=false:=bJ hrel.out.A_ 18;have hbr:Below w.heap.size w wr:=HB4.out.trans (hrel.out.kp.below HB4.out.size (fun j hj e=>by
      obtain⟨cs',hown,-⟩:=hrel.out.row
      have:=(hown.lt j e).1
      omega))
     have HBR:=bC hbr;have HCS:=bC (cL sv s.sd wr (HR.out.sd.keep hbr) (by have:=HS.out.sd;omega));have hwl:w.heap.size<wr.heap.size:=cI hrel.out.A_;clear hbr hlt hk;go_upto_region 13 with(go_at_call 80;(with_reducible refine HCS.out.mono ?_);rintro r w5 ⟨v5,rfl,hown5,hb5⟩;obtain⟨a5,c5,rfl⟩:=bN hown5;have HO5:=bC hown5;have HB5:=bC hb5;have c18':w5.cell? ⟨w.heap.size,18,none⟩=some sv:=bD hb5 c18;have f18':w5.frozen? ⟨w.heap.size,18,none⟩=false:=(by rw[hb5.frozen (p:=⟨w.heap.size,18,none⟩) hwl];exact f18);clear hown5 hb5)
     obtain⟨W6,hW6⟩:∃W,w5.setCell ⟨w.heap.size,18,none⟩ (.slice a5 s.sd.length c5)=W:=⟨_,rfl⟩
     have h56:Keeps (· =w.heap.size) w5 W6:=by rw[←hW6];exact(Keeps.refl _ _).set _ _ rfl
     obtain⟨CN,hCN⟩:=gE (SlC s rn (.slice a2 s.objs.length c2) (.slice a5 s.sd.length c5));have pA6:W6.heap[w.heap.size]?=some (.cells CN 68):=by rw[←hW6,←hCN];exact bX (bB hrel.out.A_ HB5.out) 18 (.slice a5 s.sd.length c5)
     have pB6:W6.heap[w.heap.size+1]?=some (.cells Z 68):=bG (bB hrel.out.B_ HB5.out) h56 (fun e=>by have e':w.heap.size+1=w.heap.size:=e;omega);have hi:(Tryz.prog.info? 68).map (·.size)=some CN.size:=by rw[←hCN];exact infoSL
     have hcs:CN.size=19:=by rw[←hCN];rfl
     have h1c:CN.toList.all (·.oneCell')=true:=by
      rw[←hCN];exact SlC_one s rn _ _ (fun j hj=>own_oneC (HTN.out j hj).1) rfl (own_oneC HO5.out)
     have H56:=bC h56;have HCN:=bC hCN;have hzs:=HZS.out;rw[hW6];clear hW6 h56 hCN c18 f18 HCS;go_wp2_with (first
      |(refine wpList_load_row rfl 68 (.tmp 1) rfl w.heap.size rfl 68 CN (0,0) _ pA6 Tryz.underlying68 rfl hi ?_)
      |(refine bE rfl 68 (.tmp 2) (.tmp 46) rfl (w.heap.size+1) 0 _ 68 CN rfl rfl pB6 (by simp [hcs,hzs]) hi h1c ?_;intro w8 g8 hk8 hz8))
     have g9:w8.heap[w.heap.size+1]?=some (.cells CN 68):=by
      rw[g8,List.drop_eq_nil_of_le (by simp [hcs,hzs])];simp
     refine bodyPost_ret (results_cell_row rfl _ _ (w.heap.size+1) 68 CN (0,0) _ rfl g9 Tryz.underlying68 rfl hi) rfl ?_;have h68:Keeps (fun j=>j=w.heap.size∨j=w.heap.size+1) w5 w8:=(H56.out.mono (fun j _ e=>.inl e)).trans hk8 (fun j _ e=>.inr e);have hr8:Keeps (fun j=>j=w.heap.size∨j=w.heap.size+1) wr w8:=(Keeps.of_below (F:=fun j=>j=w.heap.size∨j=w.heap.size+1) HB5.out).trans h68 (fun _ _ e=>e);obtain⟨cs',hown',-⟩:=hrel.out.row;refine⟨rn,_,_,by rw[←HCN.out],fun W hW=>⟨fun j hj=>?_,hrel.out.ends (by rw[HNN.out];exact hnk) hr8 W hW,?_,HR.out.mo,HR.out.un,HR.out.lv,HR.out.bd,HR.out.pa⟩,HBR.out.trans ((hr8.below (by have:=HBR.out.size;omega) (fun j hj e=>by rcases e with e|e<;>omega)))⟩
     ·obtain ⟨t1,t2⟩:=HTN.out j hj
      have t3:=bF t1 hrel.out.kp (fun i hi e=>t2 i hi e);have t4:=bF t3 hr8 (fun i hi e=>by have:=(t3.lt i hi).1;rcases e with e|e<;>omega);exact Sls.of_own (own_agree (bQ (base':=w.heap.size) t4 (by omega)) (Nat.le_refl _) hW) (setW_csl _ (HR.out.rg j hj).wfW) rfl
     ·have t4:=bF HO5.out h68 (fun i hi e=>by have:=(HO5.out.lt i hi).1;have:=hzr.out;rcases e with e|e<;>omega)
      exact Bs.own (own_agree (bQ (base':=w.heap.size) t4 (by have:=HBR.out.size;omega)) (Nat.le_refl _) hW)
structure Scr where
 ats:List At
 loop:Bool
 cr:List (Int×Int)
def crStep (l:List (Int×Int)) (i:Nat) (x:Int×Int):Prop:=0≤x.1∧x.1≤999999999∧0≤x.2∧x.2≤1000000∧∀y,0<i→l[i-1]?=some y→y.1<x.1
def Scr.ok (s:Scr):Prop:=s.ats.length≤4096∧¬(s.loop=true∧s.ats.length=0)∧s.cr.length≤8∧(∀i x,s.cr[i]?=some x→crStep s.cr i x)∧∀x∈s.ats,x.ok
def ScPost (w:World) (s:Scr) (r:Ending) (w':World):Prop:=∃V:Bool,r=.returned (.bool V)∧Hid (V=true↔s.ok)∧Below w.heap.size w w'
theorem ScPost.no {w w':World} {s:Scr} (h:¬s.ok) (hb:Below w.heap.size w w'):ScPost w s (.returned (.bool false)) w':=⟨false,rfl,⟨fun e=>(by cases e),fun e=>absurd e h⟩,hb⟩
theorem infoCR:(Tryz.prog.info? 161).map (·.size)=some 2:=by kernel_rfl
theorem b0' {a b:Nat} (h:¬a=b):(a==b)=false:=beq_eq_false_iff_ne.2 h
theorem swin_ok (n m:Int) (h0:0≤n) (h1:n≤m) (w:World):Calls Tryz.prog 113 #[.int .i64 n,.int .i64 m] w fun r w'=>r=.returned (.bool true)∧w=w':=by
 go_enter Tryz.func113,Tryz.ntmps113;go_wp2;go_ret;exact⟨rfl,rfl⟩
theorem kd_of (k:Nat) (hk:k<7):∃R:Array Value,R.size=4∧R.toList.all (·.oneCell')=true∧R[1]?=some (.bool (k==3||k==6))∧R[2]?=some (.bool (k==3))∧R[3]?=some (.bool (k==4||k==6))∧∀j v,R.toList[j]?=some v→KdC[k*4+j]?=some v:=by
 refine⟨((KdC.toList.drop (k*4)).take 4).toArray,?_,?_,?_,?_,?_,fun j v h=>?_⟩
 case refine_6=>
  have h1:((KdC.toList.drop (k*4)).take 4)[j]?=some v:=h;rw[List.getElem?_take] at h1;split at h1
  ·rw [List.getElem?_drop] at h1
   simpa using h1
  ·cases h1
 all_goals rcases (show k=0∨k=1∨k=2∨k=3∨k=4∨k=5∨k=6 by omega) with e|e|e|e|e|e|e<;>subst e<;>rfl
theorem patt_ok (a:At) (ha:a.ok) (w:World):Calls Tryz.prog 116 #[.agg a.C] w (BoolPost w true):=by
 obtain⟨lat,fault,pos,mask,ticks,value⟩:=a;obtain⟨h1,h2,h3,h4,h5,h6,h7⟩:=(At.ok_mk ..).1 ha;obtain⟨k,rfl⟩:∃k:Nat,fault=(k:Int):=⟨fault.toNat,by omega⟩
 have hk7:k<7:=by omega
 obtain⟨R,r1,r2,r3,r4,r5,r6⟩:=kd_of k hk7;obtain⟨C,hC⟩:=gE ((At.mk lat k pos mask ticks value).C);rw[hC];obtain⟨W1,hW1,hb1,pS⟩:=alQ w (.cells C 70);have t0:∀X,Below W1.heap.size W1 X→X.cell? ⟨w.heap.size,0,none⟩=some (.int .i64 lat):=fun X h=>by rw[bA (bB pS h) 0,←hC];rfl
 have t1:∀X,Below W1.heap.size W1 X→X.cell? ⟨w.heap.size,1,none⟩=some (.int .i64 (k:Int)):=fun X h=>by rw[bA (bB pS h) 1,←hC];rfl
 have t2:∀X,Below W1.heap.size W1 X→X.cell? ⟨w.heap.size,2,none⟩=some (.int .i64 pos):=fun X h=>by rw[bA (bB pS h) 2,←hC];rfl
 have t3:∀X,Below W1.heap.size W1 X→X.cell? ⟨w.heap.size,3,none⟩=some (.int .i64 mask):=fun X h=>by rw[bA (bB pS h) 3,←hC];rfl
 have t4:∀X,Below W1.heap.size W1 X→X.cell? ⟨w.heap.size,4,none⟩=some (.int .i64 ticks):=fun X h=>by rw[bA (bB pS h) 4,←hC];rfl
 have t5:∀X,Below W1.heap.size W1 X→X.cell? ⟨w.heap.size,5,none⟩=some (.int .i64 value):=fun X h=>by rw[bA (bB pS h) 5,←hC];rfl
 have HW1:=bC hW1;have HB1:=bC hb1;have HK:=bC kinds_any;have HW:=bC swin_ok;have hi:(Tryz.prog.info? 223).map (·.size)=some R.size:=by rw[r1];exact infoKD
 have H7:=bC h7;have k0:(0:Int)≤(k:Int):=Int.natCast_nonneg _;have k6:(k:Int)≤6:=by omega
 have k7:(k:Int)<7:=by omega
 clear hW1 hb1 pS hC h7 ha;go_enter Tryz.func116,Tryz.ntmps116;go_upto_region 1 with(fail)
 rw[HW1.out];go_upto_region 2 with(go_at_call 152;(with_reducible refine(HK.out _).mono ?_);rintro r w2 ⟨rfl,⟨T,hT⟩,hb2⟩)
 have u0:=t0 _ hb2;have u1:=t1 _ hb2;have u5:=t5 _ hb2;go_upto_region 5 with(first
  |(go_at_call 113;(with_reducible refine(HW.out _ _ (by assumption) (by assumption) _).mono ?_);rintro r w3 ⟨rfl,rfl⟩)
  |(refine bK (by rfl) 223 (.tmp 31) rfl ⟨W1.heap.size,k*4,none⟩ rfl R _ (kd_row hT (k*4) R r6) Tryz.underlying223 rfl hi ?_)
  |(refine bE rfl 223 (.tmp 4) (.tmp 32) rfl w2.heap.size 0 _ 223 R rfl rfl (bI w2 _) (by simp [r1]) hi r2 ?_;intro w5 g5 hk5 hz5))
 obtain⟨p5,hb5⟩:=var_new (by rw[r1];rfl) g5 hk5;have hB5:=bU hb2 hb5;have v1:=t1 _ hB5;have v2:=t2 _ hB5;have v3:=t3 _ hB5;have v4:=t4 _ hB5;have z1:w5.cell? ⟨w2.heap.size,1,none⟩=some (.bool (k==3||k==6)):=by rw[bA p5];exact r3
 have z2:w5.cell? ⟨w2.heap.size,2,none⟩=some (.bool (k==3)):=by rw[bA p5];exact r4
 have z3:w5.cell? ⟨w2.heap.size,3,none⟩=some (.bool (k==4||k==6)):=by rw[bA p5];exact r5
 have HB5:=bC (bU HB1.out hB5);clear u0 u1 u5 p5 hT g5 hk5 hz5 hb5 hB5 hb2 t0 t1 t2 t3 t4 t5 r1 r2 r3 r4 r5 r6 hi;rcases H7.out with⟨hf,rfl,rfl,rfl⟩|⟨hf,p0,p1,m0,m1,m2,rfl⟩|⟨hf,rfl,rfl⟩|⟨hf,p0,p1,rfl⟩
 ·have d1:(k==3)=false:=b0' (by omega)
  have d2:(k==6)=false:=b0' (by omega);have d3:(k==4)=false:=b0' (by omega);rw[d1,d2] at z1;rw[d1] at z2;rw[d3,d2] at z3;clear hf;go_quiet (fail);go_wp2_with (go_at_call 113;(with_reducible refine(HW.out _ _ (by assumption) (by assumption) _).mono ?_);rintro r w3 ⟨rfl,rfl⟩);go_ret;exact⟨rfl,below_drewN HB5.out _⟩
 ·obtain rfl:k=3:=by omega
  have m0':0≤mask:=by omega
  have hand:bits .and .i64 mask 255=mask%256:=and_byte_i64 mask m0' (by omega);have hne:(mask%256 !=0)=true:=bne_iff_ne.2 m2;clear hf;go_quiet (fail);go_wp2_with (go_at_call 113;(with_reducible refine(HW.out _ _ (by assumption) (by assumption) _).mono ?_);rintro r w3 ⟨rfl,rfl⟩);go_ret;exact⟨rfl,below_drewN HB5.out _⟩
 ·obtain rfl:k=4:=by omega
  clear hf;go_quiet (fail);go_wp2_with (go_at_call 113;(with_reducible refine(HW.out _ _ (by assumption) (by assumption) _).mono ?_);rintro r w3 ⟨rfl,rfl⟩);go_ret;exact⟨rfl,below_drewN HB5.out _⟩
 ·obtain rfl:k=6:=by omega
  have p0':0≤pos:=by omega
  clear hf;go_quiet (fail);go_wp2_with (go_at_call 113;(with_reducible refine(HW.out _ _ (by assumption) (by assumption) _).mono ?_);rintro r w3 ⟨rfl,rfl⟩);go_ret;exact⟨rfl,below_drewN HB5.out _⟩
theorem attF_ok (a:At) (ha:a.ok) (w:World):Calls Tryz.prog 115 #[.agg a.C] w (BoolPost w false):=by
 obtain⟨C,hC⟩:=gE a.C;have HS:Hid (∀X,Calls Tryz.prog 116 #[.agg C] X (BoolPost X true)):=fun X=>by rw[←hC];exact patt_ok a ha X
 have hi:(Tryz.prog.info? 70).map (·.size)=some C.size:=by rw[←hC];exact infoAT
 rw[hC];obtain⟨W1,hW1,hb1,pS⟩:=alQ w (.cells C 70);have HW1:=bC hW1;have HB1:=bC hb1;clear hW1 hb1 hC ha;go_enter Tryz.func115,Tryz.ntmps115;go_upto_region 1 with(fail)
 rw[HW1.out];go_wp2_with (first
  |(refine wpList_load_row rfl 70 (.tmp 1) rfl w.heap.size rfl 70 C (0,0) _ pS Tryz.underlying70 rfl hi ?_)
  |(go_at_call 116;(with_reducible refine(HS.out _).mono ?_);rintro r w2 ⟨rfl,hb2⟩))
 go_ret;exact⟨rfl,bU HB1.out hb2⟩
theorem contA_ok (v:Value) (l:List At) (w:World) (hl:Ats w v l) (hok:∀x∈l,x.ok):Calls Tryz.prog 114 #[v,.func (.func 115) #[] #[]] w (BoolPost w false):=by
 have HL:=bC hl;have HK:=bC hok;obtain⟨a,c,rfl,hnc,hcm,-⟩:=id hl;obtain⟨n,hn⟩:=gE l.length;have HN:=bC hn;rw[hn] at hnc ⊢;have hnn:n≤9223372036854775807:=by unfold maxLen at hcm;omega
 clear hl hn hok hcm;have HI:Hid (Calls Tryz.prog 151 #[.slice a n c,.func (.func 115) #[] #[]] w fun r w'=>r=.returned (.int .i64 (-1))∧Below w.heap.size w w'):=by
  show Calls _ _ _ _ _;go_enter Tryz.func151,Tryz.ntmps151;go_wp2;go_loopw [8] (fun i wr=>∃k:Nat,k≤n∧i=.int .i64 k∧Below w.heap.size w wr) (fun i _=>n- (intOf i).toNat)
  case atStart=>exact⟨0,Nat.zero_le _,rfl,Below.refl _ _⟩
  case round=>
   obtain⟨k,hk,rfl,hbw⟩:=hrel;have hki:(0:Int)≤(k:Int):=Int.natCast_nonneg _;by_cases hlt:k<n
   ·obtain ⟨x,hx⟩:=gs (l:=l) HN.out hlt
    obtain⟨b,o,c',hv',hcl⟩:=HL.out.at hx;rw[HN.out] at hv';simp only[Value.slice.injEq,true_and] at hv';obtain⟨rfl,rfl⟩:=hv';have hkl:(k:Int)<(n:Int):=by omega
    obtain⟨y0,y1,y2,y3,y4,y5⟩:=hcl wr hbw;have HM:Hid (Calls Tryz.prog 115 #[.agg #[.int .i64 x.lat,.int .i64 x.fault,.int .i64 x.pos,.int .i64 x.mask,.int .i64 x.ticks,.int .i64 x.value]] wr (BoolPost wr false)):=attF_ok x (HK.out x (List.mem_of_getElem? hx)) wr;clear hx hcl;go_wp2_with fail;refine HM.out.mono ?_;rintro r w1 ⟨rfl,hb1⟩;go_wp2;go_roundw
    case rel=>exact⟨k+1,by omega,by go_num,bU hbw hb1⟩
    case measure=>simp [intOf];omega
   ·obtain rfl:k=n:=by omega
    go_wp2;go_ret;exact⟨rfl,hbw⟩
 clear hnc hnn;go_enter Tryz.func114,Tryz.ntmps114;go_wp2_with fail;refine HI.out.mono ?_;rintro r w1 ⟨rfl,hb1⟩;go_wp2;go_ret;exact⟨rfl,hb1⟩
theorem pscr_ok (s:Scr) (av cv:Value) (w:World) (ha:Ats w av s.ats) (hc:Rgs w cv s.cr) (hok:s.ok):Calls Tryz.prog 67 #[.agg #[av,.bool s.loop,cv]] w (BoolPost w true):=by
 obtain⟨aa,ac,rfl,-⟩:=id ha;obtain⟨ca,cc,rfl,hc1,hc2,-⟩:=id hc;obtain⟨an,han⟩:=gE s.ats.length;obtain⟨cn,hcn⟩:=gE s.cr.length;obtain⟨lp,hlp⟩:=gE s.loop;obtain⟨o1,o2,o3,o4,o5⟩:=hok;have HCA:Hid (∀X,Below w.heap.size w X→Calls Tryz.prog 114 #[.slice aa an ac,.func (.func 115) #[] #[]] X (BoolPost X false)):=fun X hX=>contA_ok _ s.ats X (by rw[←han];exact ha.keep hX) o5
 rw[han] at o1 o2 ⊢;rw[hcn] at hc o3 hc1 ⊢;rw[hlp] at o2 ⊢;have HCN:=bC hcn;have HC:=bC hc;have HO4:=bC o4;have HW:=bC swin_ok;obtain⟨W1,hW1,hb1,pS⟩:=alQ w (.cells #[.slice aa an ac,.bool lp,.slice ca cn cc] 32);have t0:=cF pS 0 rfl;have t1:=cF pS 1 rfl;have t2:=cF pS 2 rfl;have k0:Below W1.heap.size W1 W1:=Below.refl _ _;have HW1:=bC hW1;have HB1:=bC hb1;have x0:=t0 _ k0;have x1:=t1 _ k0;have x2:=t2 _ k0;have q1:¬(4096:Int)<(an:Int):=by omega
 have q2:lp=false∨(lp=true∧((an:Int)==0)=false):=by
  cases lp with
  |false=>exact .inl rfl
  |true=>exact .inr ⟨rfl,b0 (fun e=>o2 ⟨rfl,by omega⟩)⟩
 have q3:¬(8:Int)<(cn:Int):=by omega
 clear hW1 hb1 pS han hcn hlp ha hc hc1 hc2 o1 o2 o4 o5;rcases q2 with rfl|⟨rfl,q2⟩<;>
 ·go_enter Tryz.func67,Tryz.ntmps67
  go_upto_region 1 with(fail)
  rw[HW1.out];go_upto_region 4 with(fail)
  go_loopw [28] (fun kv wr=>∃k:Nat,k≤cn∧kv=.int .i64 k∧Below W1.heap.size W1 wr) (fun kv _=>cn- (intOf kv).toNat)
  case atStart=>exact⟨0,Nat.zero_le _,rfl,k0⟩
  case round=>
   obtain⟨k,hk,rfl,hbw⟩:=hrel;have hki:(0:Int)≤(k:Int):=Int.natCast_nonneg _;clear x0 x1 x2;by_cases hlt:k<cn
   ·obtain ⟨⟨st,kp⟩,hx⟩:=gs (l:=s.cr) HCN.out hlt
    obtain⟨b,o,c',hv',-,-,hcl⟩:=HC.out.at hx;rw[HCN.out] at hv';simp only[Value.slice.injEq,true_and] at hv';obtain⟨rfl,rfl⟩:=hv';have hkl:(k:Int)<(cn:Int):=by omega
    have hbW:=bU HB1.out hbw;obtain⟨y0,y1⟩:=hcl wr hbW;obtain⟨w1,w2,w3,w4,w5'⟩:=HO4.out k _ hx;dsimp only at y0 y1 w1 w2 w3 w4 w5';have hrow:∀j v,(#[.int .i64 st,.int .i64 kp]:Array Value).toList[j]?=some v→wr.cell? ((⟨b,o+k*2,none⟩:Addr).add j)=some v:=fun j v hj=>by
     rw[Addr.add_lit];rcases j with _|_|j
     ·cases hj;exact y0
     ·cases hj;exact y1
     ·cases hj
    go_upto_region 6 with(first
     |(refine bK (by rfl) 161 (.tmp 31) rfl ⟨b,o+k*2,none⟩ rfl #[.int .i64 st,.int .i64 kp] _ hrow Tryz.underlying161 rfl infoCR ?_)
     |(refine bE rfl 161 (.tmp 4) (.tmp 32) rfl wr.heap.size 0 _ 161 #[.int .i64 st,.int .i64 kp] rfl rfl (bI wr _) (by simp) infoCR rfl ?_;intro w5 g5 hk5 hz5))
    obtain⟨p5,hb5⟩:=var_new (by simp) g5 hk5;have z0:∀X,Below w5.heap.size w5 X→X.cell? ⟨wr.heap.size,0,none⟩=some (.int .i64 st):=fun X h=>bA (bB p5 h) 0
    have z1:∀X,Below w5.heap.size w5 X→X.cell? ⟨wr.heap.size,1,none⟩=some (.int .i64 kp):=fun X h=>bA (bB p5 h) 1
    have kD:Below w5.heap.size w5 w5.drew:=(Below.refl _ _).drew;have hB5:=bU hbw hb5;have x2:=fun X (h:Below w5.heap.size w5 X)=>t2 X (bU hB5 h)
    have HBW:=bC (bU HB1.out hB5);have HB5:=bC hB5;have HCL:=bC hcl;have HKK:=bC hlt;clear p5 hb5 hB5 g5 hk5 hz5 hrow y0 y1 hcl hlt hbW;dsimp only[Act.put];by_cases e0:0<k
    ·have e0i:(0:Int)<(k:Int):=by omega
     obtain⟨km,hkm⟩:∃x,k-1=x:=⟨_,rfl⟩
     have skm:IntKind.i64.wrap ((k:Int)-1)=(km:Int):=(IntWalk.i64_in _ (by omega)).trans (by omega);obtain⟨⟨ys,yk⟩,hy⟩:=gs (l:=s.cr) HCN.out (show km<cn by omega);obtain⟨b',o',c'',hv'',-,-,hcl2⟩:=HC.out.at hy;rw[HCN.out] at hv'';simp only[Value.slice.injEq,Option.some.injEq,Addr.mk.injEq,true_and,and_true] at hv'';obtain⟨⟨rfl,rfl⟩,rfl⟩:=hv'';have v0:∀X,Below w5.heap.size w5 X→X.cell? ⟨b,o+km*2,none⟩=some (.int .i64 ys):=fun X h=>(hcl2 X (bU HBW.out h)).1
     have hkm0:(0:Int)≤(km:Int):=Int.natCast_nonneg _;have hkml:(km:Int)<(cn:Int):=by omega
     have e1:¬st≤ys:=by
      have h:=w5' _ e0 (by rw[hkm];exact hy);dsimp only at h;omega
     clear hy hcl2 hkm w5' hx;refine wp_region_held_drew (S:=fun V=>Below w5.heap.size w5 V) (by kernel_rfl) kD (fun hH=>?_);clear hH;refine tG 0 33 ?_;refine tG 1 34 ?_;refine bM 2 rfl (fun K hK=>?_);go_simp;refine(HW.out _ _ (by assumption) (by assumption) _).mono ?_;rintro r wh ⟨rfl,rfl⟩;refine hK.out _ _ kD (fun hSx=>?_);clear hK K hSx;refine tG 3 36 ?_;refine tG 4 37 ?_;refine tG 5 38 ?_;refine tG 6 39 ?_;refine bM 7 rfl (fun K hK=>?_);go_simp;refine(HW.out _ _ (by assumption) (by assumption) _).mono ?_;rintro r wh ⟨rfl,rfl⟩;refine hK.out _ _ kD (fun hSx=>?_);clear hK K hSx;refine tG 8 41 ?_;refine tG 9 42 ?_;refine tG 10 43 ?_;refine tG 11 44 ?_;refine tG 12 45 ?_;refine tG 13 46 ?_;refine tG 14 47 ?_;refine tG 15 48 ?_;refine tG 16 49 ?_;refine tG 17 50 ?_;refine tG 18 51 ?_;refine tG 19 52 ?_;refine tG 20 53 ?_;refine tG 21 54 ?_;refine tG 22 55 ?_;refine tG 23 56 ?_;refine tG 24 57 ?_;refine tG 25 58 ?_;refine wpAnyH_done (by kernel_rfl) ?_ _;go_wp2;go_roundw
     case rel=>exact⟨k+1,HKK.out,by go_num,bU HB5.out kD⟩
     case measure=>have:=HKK.out;simp [intOf];omega
    ·have e0i:¬(0:Int)<(k:Int):=by omega
     clear w5' hx HCL;refine wp_region_held_drew (S:=fun V=>Below w5.heap.size w5 V) (by kernel_rfl) kD (fun hH=>?_);clear hH;refine tG 0 33 ?_;refine tG 1 34 ?_;refine bM 2 rfl (fun K hK=>?_);go_simp;refine(HW.out _ _ (by assumption) (by assumption) _).mono ?_;rintro r wh ⟨rfl,rfl⟩;refine hK.out _ _ kD (fun hSx=>?_);clear hK K hSx;refine tG 3 36 ?_;refine tG 4 37 ?_;refine tG 5 38 ?_;refine tG 6 39 ?_;refine bM 7 rfl (fun K hK=>?_);go_simp;refine(HW.out _ _ (by assumption) (by assumption) _).mono ?_;rintro r wh ⟨rfl,rfl⟩;refine hK.out _ _ kD (fun hSx=>?_);clear hK K hSx;refine tG 8 41 ?_;refine tG 9 42 ?_;refine tG 10 43 ?_;refine tG 11 44 ?_;refine tG 12 45 ?_;refine tG 13 46 ?_;refine tU 14 47 ?_;refine tU 15 48 ?_;refine tU 16 49 ?_;refine tU 17 50 ?_;refine tU 18 51 ?_;refine tU 19 52 ?_;refine tU 20 53 ?_;refine tU 21 54 ?_;refine tU 22 55 ?_;refine tU 23 56 ?_;refine tG 24 57 ?_;refine tG 25 58 ?_;refine wpAnyH_done (by kernel_rfl) ?_ _;go_wp2;go_roundw
     case rel=>exact⟨k+1,HKK.out,by go_num,bU HB5.out kD⟩
     case measure=>have:=HKK.out;simp [intOf];omega
   ·obtain rfl:k=cn:=by omega
    have hkl:¬(k:Int)<(k:Int):=by omega
    have y0:=t0 _ hbw;have HBW:=bC (bU HB1.out hbw);go_wp2_with (go_at_call 114;(with_reducible refine(HCA.out _ HBW.out).mono ?_);rintro r w9 ⟨rfl,hb9⟩);go_ret;exact⟨rfl,bU HBW.out hb9⟩
end Go.Proofs.YtoaoejaodhedaaaGreat
