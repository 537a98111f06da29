/-
 Texts 44 of the claim.
-/
import Derived.Test.YtoaoejaodhedaaaGreatE43
import Derived.Test.YtoaoejaodhedaaaGreatE05
import Derived.Test.YtoaoejaodhedaaaGreatE11
import Derived.Deep.RegionWith
import Derived.Deep.CutRange
namespace Go.Proofs.YtoaoejaodhedaaaGreat
open Go.RowKit
set_option maxHeartbeats 12800000
set_option maxRecDepth 100000
theorem SlC_set (s:Sl) (rv:Nat→Value) (ov sv v:Value) {k:Nat} (hk:k<4):(SlC s rv ov sv).setIfInBounds (3+k*3+1) v=SlC s (fun j=>if j=k then v else rv j) ov sv:=by
 rcases (show k=0∨k=1∨k=2∨k=3 by omega) with rfl|rfl|rfl|rfl<;>rfl
theorem SlC_one (s:Sl) (rv:Nat→Value) (ov sv:Value) (h:∀k,k<4→(rv k).oneCell'=true) (h1:ov.oneCell'=true) (h2:sv.oneCell'=true):(SlC s rv ov sv).toList.all (·.oneCell')=true:=by
 have e0:=h 0 (by decide)
 have e1:=h 1 (by decide)
 have e2:=h 2 (by decide)
 have e3:=h 3 (by decide)
 show ([.int .i64 s.bd,.int .i64 s.pa,.int .i64 s.un,.bool (s.ts 0).sup,rv 0,.int .i64 (s.ts 0).most,.bool (s.ts 1).sup,rv 1,.int .i64 (s.ts 1).most,.bool (s.ts 2).sup,rv 2,.int .i64 (s.ts 2).most,.bool (s.ts 3).sup,rv 3,.int .i64 (s.ts 3).most,.int .i64 s.lv,ov,.bool s.hs,sv]:List Value).all (·.oneCell')=true
 simp only[List.all_cons,List.all_nil,e0,e1,e2,e3,h1,h2]
 rfl
structure SlBd (s:Sl):Prop where
 rd:∀k,k<4→(s.ts k).rd.length≤1000000
 ob:s.objs.length≤1000000
 vl:∀(i:Nat) (x:Ob),s.objs[i]?=some x→x.val.length≤1000000
 sd:s.sd.length≤1000000
structure ClT (k:Nat) (w wr:World) (s:Sl) (rv:Nat→Value) (ov sv:Value) (Z:Array Value) (rn:Nat→Value):Prop where
 S:wr.heap[w.heap.size]?=some (.cells (SlC s rn ov sv) 68)
 R:wr.heap[w.heap.size+1]?=some (.cells Z 68)
 old:∀j,k≤j→j<4→rn j=rv j
 new:∀j,j<k→wr.ownsRow (w.heap.size+2) 24 2 (rn j) (s.ts j).rd.length (setV (s.ts j).rd)
 b:Below w.heap.size w wr
theorem ClT.step {k:Nat} {w wr w5:World} {s:Sl} {rv:Nat→Value} {ov sv:Value} {Z:Array Value} {rn:Nat→Value} (h:ClT k w wr s rv ov sv Z rn) (hk:k<4) (hb:Below wr.heap.size wr w5) {v:Value} (hz:w.heap.size+2≤wr.heap.size)
  (hv:w5.ownsRow wr.heap.size 24 2 v (s.ts k).rd.length (setV (s.ts k).rd)):ClT (k+1) w (w5.setCell ⟨w.heap.size,3+k*3+1,none⟩ v) s rv ov sv Z (fun j=>if j=k then v else rn j):=by
 have hk5:Keeps (· =w.heap.size) w5 (w5.setCell ⟨w.heap.size,3+k*3+1,none⟩ v):=(Keeps.refl _ _).set _ _ rfl
 refine⟨?_,hpKeeps (hpKeep h.R hb) hk5 (fun e=>by have e':w.heap.size+1=w.heap.size:=e;omega),fun j h1 h2=>?_,fun j hj=>?_,h.b.trans ((hb.mono h.b.size).trans (hk5.below (by have:=h.b.size;have:=hb.size;omega) (fun j hj e=>by omega)))⟩
 ·have:=hpSet (hpKeep h.S hb) (3+k*3+1) v
  rw[SlC_set s rn ov sv v hk] at this
  exact this
 ·rw [if_neg (by omega)]
  exact h.old j (by omega) h2
 ·by_cases e:j=k
  ·subst e
   rw[if_pos rfl]
   exact own_keeps (own_lower hv hz) hk5 (fun i hi e=>by have:=(hv.lt i hi).1;have e':i=w.heap.size:=e;omega)
  ·rw [if_neg e]
   have h5:=own_keeps (h.new j (by omega)) (Keeps.of_below (F:=fun _=>False) hb) (fun _ _ e=>e)
   exact own_keeps h5 hk5 (fun i hi e=>by have:=(h5.lt i hi).1;have e':i=w.heap.size:=e;omega)
def ClF (w:World) (v2:Value):Nat→Prop:=fun k=>v2.ownBlock=some k∨k=w.heap.size∨k=w.heap.size+1
structure ClO (k:Nat) (w w4 wr:World) (A B:Obj) (v2:Value) (objs:List Ob):Prop where
 A_:wr.heap[w.heap.size]?=some A
 B_:wr.heap[w.heap.size+1]?=some B
 row:∃cs,wr.ownsRow (w.heap.size+2) 165 2 v2 objs.length cs∧ObCg (ClF w v2) wr cs objs∧∀i x,i<k→objs[i]?=some x→∃a c,cs[i*2+1]?=some (.slice a x.val.length c)∧∀ad,a=some ad→w.heap.size≤ad.block
 kp:Keeps (fun j=>v2.ownBlock=some j) w4 wr
theorem ClO.step {k:Nat} {w w4 wr w5:World} {A B:Obj} {g cap:Nat} {objs:List Ob} (h:ClO k w w4 wr A B (.slice (some ⟨g,0,none⟩) objs.length cap) objs) (hw:w.heap.size+2≤wr.heap.size)
  (hb:Below wr.heap.size wr w5) {x:Ob} (hx:objs[k]?=some x) {E:TypeId} {a5:Option Addr} {c5:Nat} (hown5:w5.ownsRow wr.heap.size E 1 (.slice a5 x.val.length c5) x.val.length (u8s x.val)):
  ClO (k+1) w w4 (w5.setCell ⟨g,k*2+1,none⟩ (.slice a5 x.val.length c5)) A B (.slice (some ⟨g,0,none⟩) objs.length cap) objs:=by
 obtain⟨gA,gB,⟨cs,hown,hcg,hfr⟩,hkp⟩:=h
 have hg:=hown.lt g rfl
 have lA:=hpLt gA
 have lB:=hpLt gB
 have hk:Keeps (fun k=>k=g) w5 (w5.setCell ⟨g,k*2+1,none⟩ (.slice a5 x.val.length c5)):=(Keeps.refl _ _).set _ _ rfl
 have hkF:∀k,k=g→ClF w (.slice (some ⟨g,0,none⟩) objs.length cap) k:=fun k hk=>.inl (by rw[hk];rfl)
 have hown':=own_keeps hown (Keeps.of_below (F:=fun _=>False) hb) (fun _ _ f=>f)
 have hcg':=hcg.keeps (Keeps.of_below (F:=fun _=>False) hb) (fun _ f=>f.elim)
 have hF5:x.val≠[]→∀ad,a5=some ad→¬ClF w (.slice (some ⟨g,0,none⟩) objs.length cap) ad.block:=fun _ ad had hF=>by
  have h5:=(hown5.lt ad.block (by rw[had];rfl)).1
  rcases hF with e|e|e
  ·simp [Value.ownBlock] at e;omega
  ·omega
  ·omega
 refine⟨hpKeeps (hpKeep gA hb) hk (fun e=>by have e':w.heap.size=g:=e;omega),hpKeeps (hpKeep gB hb) hk (fun e=>by have e':w.heap.size+1=g:=e;omega),⟨cs.set (k*2+1) (.slice a5 x.val.length c5),(hown'.stored _ _).1,?_,?_⟩,?_⟩
 ·exact (hcg'.set hx (Bs.own hown5) hF5).keeps hk hkF
 ·intro i y hi hy
  have hlen:=hcg.1
  have hkl:=(List.getElem?_eq_some_iff.1 hx).1
  by_cases hik:i=k
  ·subst hik
   rw[hx] at hy
   cases hy
   exact⟨a5,c5,List.getElem?_set_self (by omega),fun ad had=>by have h5:=(hown5.lt ad.block (by rw[had];rfl)).1;omega⟩
  ·obtain ⟨a,c,h1,h2⟩:=hfr i y (by omega) hy
   exact⟨a,c,by rw[List.getElem?_set_ne (by omega)];exact h1,h2⟩
 ·exact (hkp.trans (Keeps.of_below (F:=fun _=>False) hb) (fun _ _ e=>e.elim)).trans (hk.mono (fun j _ e=>by subst e;rfl)) (fun _ _ e=>e)
theorem ClO.ends {k:Nat} {w w4 wr w8:World} {A B:Obj} {v2:Value} {objs:List Ob} (h:ClO k w w4 wr A B v2 objs) (hk:objs.length≤k) (h8:Keeps (fun j=>j=w.heap.size∨j=w.heap.size+1) wr w8):∀W,Agree w.heap.size w8 W→Obs W v2 objs:=by
 obtain⟨_,_,⟨cs,hown,hcg,hfr⟩,_⟩:=h
 intro W hW
 have ho8:=own_keeps hown h8 (fun j hj e=>by have:=(hown.lt j hj).1;rcases e with e|e<;>omega)
 have hc8:=(hcg.keeps h8 (fun j e=>e.elim (fun e=>.inr (.inl e)) (fun e=>.inr (.inr e)))).cs
 refine Obs.of_own (own_agree (own_lower (base':=w.heap.size) ho8 (by omega)) (Nat.le_refl _) hW) ⟨hc8.1,fun i x hx=>?_⟩ rfl
 obtain⟨h1,a,c,h2,h3⟩:=hc8.2 i x hx
 obtain⟨a',c',h4,h5⟩:=hfr i x (by have:=(List.getElem?_eq_some_iff.1 hx).1;omega) hx
 rw[h2] at h4
 cases h4
 exact⟨h1,a,c,h2,h3.agree h5 hW⟩
def SlNew (w:World) (s:Sl) (r:Ending) (w':World):Prop:=∃rv ov sv,r=.returned (.agg (SlC s rv ov sv))∧(∀W,Agree w.heap.size w' W→SlR W s rv ov sv)∧Below w.heap.size w w'
theorem own_oneC {w:World} {base:Nat} {e:TypeId} {sz:Nat} {v:Value} {n:Nat} {xs:List Value} (h:w.ownsRow base e sz v n xs):v.oneCell'=true:=by
 obtain⟨a,c,rfl⟩:=own_slice h
 rfl
theorem clone_sl (s:Sl) (rv:Nat→Value) (ov sv:Value) (w:World) (hR:SlR w s rv ov sv) (hs:SlBd s):Calls Tryz.prog 69 #[.agg (SlC s rv ov sv)] w (SlNew w s):=by
 obtain⟨C,hC⟩:∃C,SlC s rv ov sv=C:=⟨_,rfl⟩
 rw[hC]
 obtain⟨W0,hW0⟩:∃W,(w.alloc (.cells C 68)).alloc (.cells #[.int .i64 0,.int .i64 0,.int .i64 0,.bool false,.slice none 0 0,.int .i64 0,.bool false,.slice none 0 0,.int .i64 0,.bool false,.slice none 0 0,.int .i64 0,.bool false,.slice none 0 0,.int .i64 0,.int .i64 0,.slice none 0 0,.bool false,.slice none 0 0] 68)=W:=⟨_,rfl⟩
 have hb0:Below w.heap.size w W0:=by rw[←hW0];exact bta (bal' w _) (Nat.le_refl _) _
 have hz0:W0.heap.size=w.heap.size+2:=by rw[←hW0];simp
 have pA:W0.heap[w.heap.size]?=some (.cells (SlC s rv ov sv) 68):=by rw[←hW0,hC];exact hpKeep (hpNew w _) (bal' _ _)
 obtain⟨Z,hZ⟩:∃Z:Array Value,#[.int .i64 0,.int .i64 0,.int .i64 0,.bool false,.slice none 0 0,.int .i64 0,.bool false,.slice none 0 0,.int .i64 0,.bool false,.slice none 0 0,.int .i64 0,.bool false,.slice none 0 0,.int .i64 0,.int .i64 0,.slice none 0 0,.bool false,.slice none 0 0]=Z:=⟨_,rfl⟩
 have pB:W0.heap[w.heap.size+1]?=some (.cells Z 68):=by
  rw[←hW0,←hZ]
  have:=hpNew (w.alloc (.cells C 68)) (.cells #[.int .i64 0,.int .i64 0,.int .i64 0,.bool false,.slice none 0 0,.int .i64 0,.bool false,.slice none 0 0,.int .i64 0,.bool false,.slice none 0 0,.int .i64 0,.bool false,.slice none 0 0,.int .i64 0,.int .i64 0,.slice none 0 0,.bool false,.slice none 0 0] 68)
  simpa using this
 have hZs:Z.size=19:=by rw[←hZ];rfl
 have HT:Hid (ClT 0 w W0 s rv ov sv Z rv):=⟨pA,pB,fun _ _ _=>rfl,fun j h=>by omega,hb0⟩
 have HS:=hid hs
 have HR:=hid hR
 have HW0:=hid hW0
 have HZ0:=hid hz0
 have HZS:=hid hZs
 clear hW0 hC hZ pA pB hb0 hz0 hZs hs hR
 go_enter Tryz.func69,Tryz.ntmps69
 go_upto_region 1 with(fail)
 rw[HW0.out]
 go_upto_region 2 with(fail)
 go_loopw [5] (fun kv wr=>∃(k:Nat) (rn:Nat→Value),k≤4∧kv=.int .i64 (k:Int)∧Hid (ClT k w wr s rv ov sv Z rn)∧Hid (w.heap.size+2≤wr.heap.size)) (fun kv _=>4- (intOf kv).toNat)
 case atStart=>exact⟨0,rv,Nat.zero_le _,rfl,HT.out,by rw[HZ0.out];exact Nat.le_refl _⟩
 case round=>
  clear HT
  obtain⟨k,rn,hk,rfl,ht,hzr⟩:=hrel
  have hk0:(0:Int)≤(k:Int):=Int.natCast_nonneg _
  by_cases hlt:k<4
  ·have hk4:(k:Int)<4:=by omega
   have hrn:=ht.out.old k (Nat.le_refl _) hlt
   have hrg:Rgs wr (rn k) (s.ts k).rd:=by rw[hrn];exact(HR.out.rg k hlt).keep ht.out.b
   have c1:wr.cell? ⟨w.heap.size,3+k*3+1,none⟩=some (rn k):=by rw[hpCell ht.out.S];exact SlC_rd s rn ov sv hlt
   have f1:wr.frozen? ⟨w.heap.size,3+k*3+1,none⟩=false:=hpFree ht.out.S _
   have hwl:w.heap.size<wr.heap.size:=hpLt ht.out.S
   obtain⟨v,hv⟩:∃v,rn k=v:=⟨_,rfl⟩
   obtain⟨l,hl⟩:∃l,(s.ts k).rd=l:=⟨_,rfl⟩
   have hll:=HS.out.rd k hlt
   rw[hv,hl] at hrg
   rw[hv] at c1
   rw[hl] at hll
   have HCL:=hid (cloneRg_any v l wr hrg hll)
   have HL:=hid hl
   have HLT:=hid hlt
   clear hrn hrg hv hl hll hlt
   go_wp2_with (go_at_call 117;(with_reducible refine HCL.out.mono ?_);rintro r w5 ⟨a5,c5,rfl,hown5,hb5⟩;have HO5:=hid hown5;have HB5:=hid hb5;have c1':w5.cell? ⟨w.heap.size,3+k*3+1,none⟩=some v:=cell_keep hb5 c1;have f1':w5.frozen? ⟨w.heap.size,3+k*3+1,none⟩=false:=(by rw[hb5.frozen (p:=⟨w.heap.size,3+k*3+1,none⟩) hwl];exact f1);clear hown5 hb5)
   go_roundw
   case rel=>
    have h5:=HO5.out
    rw[←HL.out] at h5
    refine⟨k+1,_,by have:=HLT.out;omega,by go_num,ht.out.step HLT.out HB5.out hzr.out (by rw[←HL.out];exact h5),?_⟩
    show _≤_
    have:=HB5.out.size
    have:=hzr.out
    simp
    omega
   case measure=>have:=HLT.out;simp [intOf];omega
  ·obtain rfl:k=4:=by omega
   clear hlt hk hk0
   have c16:∀X,Below wr.heap.size wr X→X.cell? ⟨w.heap.size,16,none⟩=some ov:=fun X h=>hpCell (hpKeep ht.out.S h) 16
   have f16:∀X,Below wr.heap.size wr X→X.frozen? ⟨w.heap.size,16,none⟩=false:=fun X h=>hpFree (hpKeep ht.out.S h) 16
   have kr:Below wr.heap.size wr wr:=Below.refl _ _
   have HCO:=hid (cloneO_any ov s.objs w wr HR.out.ob ht.out.b HS.out.ob)
   go_upto_region 7 with(go_at_call 118;(with_reducible refine HCO.out.mono ?_);rintro r w3 ⟨v2,cs,rfl,hown3,hcs3,hb3⟩;obtain⟨a2,c2,rfl⟩:=own_slice hown3;have HO3:=hid hown3;have HCS:=hid hcs3;have HB3:=hid hb3;have k3:=hb3;clear hown3 hcs3 hb3)
   obtain⟨W4,hW4⟩:∃W,w3.setCell ⟨w.heap.size,16,none⟩ (.slice a2 s.objs.length c2)=W:=⟨_,rfl⟩
   have h34:Keeps (· =w.heap.size) w3 W4:=by rw[←hW4];exact(Keeps.refl _ _).set _ _ rfl
   have hz3:=hzr.out
   have hbs3:=HB3.out.size
   have hA4:W4.heap[w.heap.size]?=some (.cells (SlC s rn (.slice a2 s.objs.length c2) sv) 68):=by rw[←hW4];exact hpSet (hpKeep ht.out.S HB3.out) 16 (.slice a2 s.objs.length c2)
   have hB4:W4.heap[w.heap.size+1]?=some (.cells Z 68):=hpKeeps (hpKeep ht.out.R HB3.out) h34 (fun e=>by have e':w.heap.size+1=w.heap.size:=e;omega)
   have ho4:=own_keeps HO3.out h34 (fun j hj e=>by have:=(HO3.out.lt j hj).1;have e':j=w.heap.size:=e;omega)
   have HRL:Hid (ClO 0 w W4 W4 (.cells (SlC s rn (.slice a2 s.objs.length c2) sv) 68) (.cells Z 68) (.slice a2 s.objs.length c2) s.objs):=by
    refine⟨hA4,hB4,⟨cs,own_lower ho4 hz3,?_,fun i x h=>absurd h (Nat.not_lt_zero _)⟩,Keeps.refl _ _⟩
    have h2:ObCg (ClF w (.slice a2 s.objs.length c2)) w3 cs s.objs:=ObCg.of HCS.out (ht.out.b.trans (HB3.out.mono ht.out.b.size)) (fun j hj hF=>by
     rcases hF with e|e|e
     ·have:=(HO3.out.lt j e).1
      omega
     ·omega
     ·omega)
    exact h2.keeps h34 (fun j e=>.inr (.inl e))
   have HTN:Hid (∀j,j<4→W4.ownsRow (w.heap.size+2) 24 2 (rn j) (s.ts j).rd.length (setV (s.ts j).rd)∧∀i,(rn j).ownBlock=some i→(Value.slice a2 s.objs.length c2).ownBlock≠some i):=fun j hj=>by
    have h3:=own_keeps (ht.out.new j hj) (Keeps.of_below (F:=fun _=>False) HB3.out) (fun _ _ e=>e)
    refine⟨own_keeps h3 h34 (fun i hi e=>by have:=(h3.lt i hi).1;have e':i=w.heap.size:=e;omega),fun i hi e=>?_⟩
    have h4:=(ht.out.new j hj).lt i hi
    have:=(HO3.out.lt i e).1
    omega
   have HB4:Hid (Below w.heap.size w W4):=(ht.out.b.trans (HB3.out.mono ht.out.b.size)).trans (h34.below (by have:=ht.out.b.size;omega) (fun j hj e=>by omega))
   have HZ4:Hid (w.heap.size+2≤W4.heap.size):=by show _≤_;have:=h34.size;omega
   rw[hW4]
   obtain⟨n,hN⟩:∃n,s.objs.length=n:=⟨_,rfl⟩
   have HNN:=hid hN
   have h63:n≤1000000:=by have:=HS.out.ob;omega
   have c8':W4.cell? ⟨w.heap.size,16,none⟩=some (.slice a2 n c2):=by rw[←HNN.out];exact hpCell hA4 16
   clear hW4 h34 hz3 hbs3 hA4 hB4 ho4 HO3 HCS HB3 k3 c16 f16 kr HCO hN hzr ht
   go_upto_region 8 with(fail)
   clear c8'
   go_loopw [26] (fun idx wr=>∃k:Nat,k≤n∧idx=.int .i64 k∧Hid (ClO k w W4 wr (.cells (SlC s rn (.slice a2 s.objs.length c2) sv) 68) (.cells Z 68) (.slice a2 s.objs.length c2) s.objs)∧Hid (w.heap.size+2≤wr.heap.size)) (fun idx _=>n- (intOf idx).toNat)
   case atStart=>exact⟨0,Nat.zero_le _,rfl,HRL.out,HZ4.out⟩
   case round=>
    obtain⟨k,hk,rfl,hrel,hzr⟩:=hrel
    by_cases hlt:k<n
    ·obtain ⟨x,hgx⟩:=gs (l:=s.objs) HNN.out hlt
     obtain⟨gA,gB,⟨cs',hown,hcg,hfr⟩,hkp⟩:=hrel.out
     obtain⟨g,cap,hv,hg,hnc,hcm⟩:=own_shapeR hown (by rw[HNN.out];omega)
     simp only[Value.slice.injEq,true_and] at hv
     obtain⟨rfl,rfl⟩:=hv
     obtain⟨_,xa,xc,hx2,hxb,_⟩:=hcg.2 k x hgx
     have e1:wr.cell? ⟨w.heap.size,16,none⟩=some (.slice (some ⟨g,0,none⟩) n c2):=by rw[←HNN.out];exact hpCell gA 16
     have e2:wr.cell? ⟨g,k*2+1,none⟩=some (.slice xa x.val.length xc):=by rw[hown.cellAt _ (by rw[HNN.out];omega)];exact hx2
     have e3:wr.frozen? ⟨g,k*2+1,none⟩=false:=hown.frozenAt _
     have hgl:=(hown.lt g rfl).2
     have hxl:=HS.out.vl k x hgx
     have HCL:Hid (∀W,Below wr.heap.size wr W→Calls Tryz.prog 80 #[.slice xa x.val.length xc] W fun r w'=>∃v',r=.returned v'∧w'.ownsRow W.heap.size 5 1 v' x.val.length (u8s x.val)∧Below W.heap.size W w'):=fun W hW=>clone_any _ x.val W (hxb.keep hW) (by omega)
     have HX:=hid hgx
     clear gA gB hown hcg hfr hkp hgx hx2 hxb HRL HTN HB4
     have hkl:(k:Int)<(n:Int):=by omega
     have hk0:(0:Int)≤(k:Int):=Int.natCast_nonneg _
     go_wp2_with fail
     go_region_with (go_at_call 80;refine(HCL.out _ (Below.refl _ _).drew).mono ?_;rintro r w5 ⟨v5,rfl,hown5,hbel5⟩;obtain⟨a5,c5,rfl⟩:=own_slice hown5;have hf5:w5.frozen? ⟨g,k*2+1,none⟩=false:=(by rw[hbel5.frozen (p:=⟨g,k*2+1,none⟩) hgl];exact e3);have e1':w5.cell? ⟨w.heap.size,16,none⟩=some (.slice (some ⟨g,0,none⟩) n c2):=cell_keep (w1:=wr.drew) hbel5 e1;have e2':w5.cell? ⟨g,k*2+1,none⟩=some (.slice xa x.val.length xc):=cell_keep (w1:=wr.drew) hbel5 e2)
     all_goals
      have hb5:Below wr.heap.size wr w5:=(Below.refl _ _).drew.trans hbel5
      have HN:=hid (hrel.out.step hzr.out hb5 HX.out hown5)
      have HZN:Hid (w.heap.size+2≤(w5.setCell ⟨g,k*2+1,none⟩ (.slice a5 x.val.length c5)).heap.size):=(by show _≤_;have:=hb5.size;have:=hzr.out;simp;omega)
      go_wp2
      go_roundw
      case rel=>exact⟨k+1,by omega,by go_num,HN.out,HZN.out⟩
      case measure=>simp [intOf];omega
    ·have hnk:n≤k:=by omega
     have c18:wr.cell? ⟨w.heap.size,18,none⟩=some sv:=hpCell hrel.out.A_ 18
     have f18:wr.frozen? ⟨w.heap.size,18,none⟩=false:=hpFree hrel.out.A_ 18
     have hbr:Below w.heap.size w wr:=HB4.out.trans (hrel.out.kp.below HB4.out.size (fun j hj e=>by
      obtain⟨cs',hown,-⟩:=hrel.out.row
      have:=(hown.lt j e).1
      omega))
     have HBR:=hid hbr
     have HCS:=hid (clone_any sv s.sd wr (HR.out.sd.keep hbr) (by have:=HS.out.sd;omega))
     have hwl:w.heap.size<wr.heap.size:=hpLt hrel.out.A_
     clear hbr hlt hk
     go_upto_region 13 with(go_at_call 80;(with_reducible refine HCS.out.mono ?_);rintro r w5 ⟨v5,rfl,hown5,hb5⟩;obtain⟨a5,c5,rfl⟩:=own_slice hown5;have HO5:=hid hown5;have HB5:=hid hb5;have c18':w5.cell? ⟨w.heap.size,18,none⟩=some sv:=cell_keep hb5 c18;have f18':w5.frozen? ⟨w.heap.size,18,none⟩=false:=(by rw[hb5.frozen (p:=⟨w.heap.size,18,none⟩) hwl];exact f18);clear hown5 hb5)
     obtain⟨W6,hW6⟩:∃W,w5.setCell ⟨w.heap.size,18,none⟩ (.slice a5 s.sd.length c5)=W:=⟨_,rfl⟩
     have h56:Keeps (· =w.heap.size) w5 W6:=by rw[←hW6];exact(Keeps.refl _ _).set _ _ rfl
     obtain⟨CN,hCN⟩:∃C,SlC s rn (.slice a2 s.objs.length c2) (.slice a5 s.sd.length c5)=C:=⟨_,rfl⟩
     have pA6:W6.heap[w.heap.size]?=some (.cells CN 68):=by rw[←hW6,←hCN];exact hpSet (hpKeep hrel.out.A_ HB5.out) 18 (.slice a5 s.sd.length c5)
     have pB6:W6.heap[w.heap.size+1]?=some (.cells Z 68):=hpKeeps (hpKeep hrel.out.B_ HB5.out) h56 (fun e=>by have e':w.heap.size+1=w.heap.size:=e;omega)
     have hi:(Tryz.prog.info? 68).map (·.size)=some CN.size:=by rw[←hCN];exact infoSL
     have hcs:CN.size=19:=by rw[←hCN];rfl
     have h1c:CN.toList.all (·.oneCell')=true:=by
      rw[←hCN]
      exact SlC_one s rn _ _ (fun j hj=>own_oneC (HTN.out j hj).1) rfl (own_oneC HO5.out)
     have H56:=hid h56
     have HCN:=hid hCN
     have hzs:=HZS.out
     rw[hW6]
     clear hW6 h56 hCN c18 f18 HCS
     go_wp2_with (first
      |(refine wpList_load_row rfl 68 (.tmp 1) rfl w.heap.size rfl 68 CN (0,0) _ pA6 Tryz.underlying68 rfl hi ?_)
      |(refine wpList_storeW rfl 68 (.tmp 2) (.tmp 46) rfl (w.heap.size+1) 0 _ 68 CN rfl rfl pB6 (by simp [hcs,hzs]) hi h1c ?_;intro w8 g8 hk8 hz8))
     have g9:w8.heap[w.heap.size+1]?=some (.cells CN 68):=by
      rw[g8,List.drop_eq_nil_of_le (by simp [hcs,hzs])]
      simp
     refine bodyPost_ret (results_cell_row rfl _ _ (w.heap.size+1) 68 CN (0,0) _ rfl g9 Tryz.underlying68 rfl hi) rfl ?_
     have h68:Keeps (fun j=>j=w.heap.size∨j=w.heap.size+1) w5 w8:=(H56.out.mono (fun j _ e=>.inl e)).trans hk8 (fun j _ e=>.inr e)
     have hr8:Keeps (fun j=>j=w.heap.size∨j=w.heap.size+1) wr w8:=(Keeps.of_below (F:=fun j=>j=w.heap.size∨j=w.heap.size+1) HB5.out).trans h68 (fun _ _ e=>e)
     obtain⟨cs',hown',-⟩:=hrel.out.row
     refine⟨rn,_,_,by rw[←HCN.out],fun W hW=>⟨fun j hj=>?_,hrel.out.ends (by rw[HNN.out];exact hnk) hr8 W hW,?_,HR.out.mo,HR.out.un,HR.out.lv,HR.out.bd,HR.out.pa⟩,HBR.out.trans ((hr8.below (by have:=HBR.out.size;omega) (fun j hj e=>by rcases e with e|e<;>omega)))⟩
     ·obtain ⟨t1,t2⟩:=HTN.out j hj
      have t3:=own_keeps t1 hrel.out.kp (fun i hi e=>t2 i hi e)
      have t4:=own_keeps t3 hr8 (fun i hi e=>by have:=(t3.lt i hi).1;rcases e with e|e<;>omega)
      exact Sls.of_own (own_agree (own_lower (base':=w.heap.size) t4 (by omega)) (Nat.le_refl _) hW) (setW_csl _ (HR.out.rg j hj).wfW) rfl
     ·have t4:=own_keeps HO5.out h68 (fun i hi e=>by have:=(HO5.out.lt i hi).1;have:=hzr.out;rcases e with e|e<;>omega)
      exact Bs.own (own_agree (own_lower (base':=w.heap.size) t4 (by have:=HBR.out.size;omega)) (Nat.le_refl _) hW)
end Go.Proofs.YtoaoejaodhedaaaGreat
