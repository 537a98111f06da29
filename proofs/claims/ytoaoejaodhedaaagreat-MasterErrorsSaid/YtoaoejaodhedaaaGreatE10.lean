/-
 Texts 10 of the claim.
-/
import Derived.Test.YtoaoejaodhedaaaGreatE08
import Derived.Test.YtoaoejaodhedaaaGreatE09
import Derived.Test.YtoaoejaodhedaaaGreatE07
import Derived.Deep.CutBlock
import Derived.BigQuiet
namespace Go.Proofs.YtoaoejaodhedaaaGreat
open Go.RowKit
set_option maxHeartbeats 6400000
set_option maxRecDepth 100000
def TvPost (w:World) (t:Tbl) (k:Nat) (r:Ending) (w':World):Prop:=∃V:Bool,r=.returned (.bool V)∧Hid (V=true↔t.val k)∧Below w.heap.size w w'
theorem TvPost.no {w w':World} {t:Tbl} {k:Nat} (h:¬t.val k) (hb:Below w.heap.size w w'):TvPost w t k (.returned (.bool false)) w':=⟨false,rfl,⟨fun e=>(by cases e),fun e=>absurd e h⟩,hb⟩
theorem TvPost.yes {w w':World} {t:Tbl} {k:Nat} (h:t.val k) (hb:Below w.heap.size w w'):TvPost w t k (.returned (.bool true)) w':=⟨true,rfl,⟨fun _=>h,fun _=>rfl⟩,hb⟩
theorem z09_1 {p:Prop} (h:p:=by
 refine tkE 13 30 rfl rfl ?_;simp only[setS]
 refine tkE 14 31 rfl rfl ?_;simp only[setS]
 refine tkU 15 32 rfl rfl ?_;simp only[setS]
 refine tkU 16 33 rfl rfl ?_;simp only[setS]
 refine tkU 17 34 rfl rfl ?_;simp only[setS]
 refine tkU 18 35 rfl rfl ?_;simp only[setS]
 refine tkU 19 36 rfl rfl ?_;simp only[setS]
 refine tkE 20 37 rfl rfl ?_;simp only[setS]
 refine tkE 21 4 rfl rfl ?_;simp only[setS]
 refine wpAnyH_done (by kernel_rfl) ?_ _
 go_wp2
 go_ret
 exact TvPost.no HV.out (bt HB1.out hB5 (Nat.le_refl _))):p:=h
theorem ptable_val (t:Tbl) (rv:Value) (k:Nat) (w:World) (hl:Rgs w rv t.rd):
  Calls Tryz.prog 150 #[.int .i64 ((k:Int)+1),.agg #[.bool t.sup,rv,.int .i64 t.most]] w (TvPost w t k):=by
 obtain⟨ra,rc,hrv,-⟩:=id hl
 obtain⟨rn,hrn⟩:∃n,t.rd.length=n:=⟨_,rfl⟩
 rw[hrn] at hrv
 subst hrv
 obtain⟨W1,hW1⟩:∃W,w.alloc (.cells #[.bool t.sup,.slice ra rn rc,.int .i64 t.most] 65)=W:=⟨_,rfl⟩
 have hb1:Below w.heap.size w W1:=by rw[←hW1];exact bal' w _
 have pT:W1.heap[w.heap.size]?=some (.cells #[.bool t.sup,.slice ra rn rc,.int .i64 t.most] 65):=by rw[←hW1];exact hpNew w _
 have t0:∀X,Below W1.heap.size W1 X→X.cell? ⟨w.heap.size,0,none⟩=some (.bool t.sup):=fun X h=>hpCell (hpKeep pT h) 0
 have t1:∀X,Below W1.heap.size W1 X→X.cell? ⟨w.heap.size,1,none⟩=some (.slice ra rn rc):=fun X h=>hpCell (hpKeep pT h) 1
 have t2:∀X,Below W1.heap.size W1 X→X.cell? ⟨w.heap.size,2,none⟩=some (.int .i64 t.most):=fun X h=>hpCell (hpKeep pT h) 2
 have k0:Below W1.heap.size W1 W1:=Below.refl _ _
 have kD:Below W1.heap.size W1 W1.drew:=(Below.refl _ _).drew
 have HRN:=hid hrn
 have HW1:=hid hW1
 have HB1:=hid hb1
 have HVR:Hid (∀X,Below W1.heap.size W1 X→Calls Tryz.prog 180 #[.slice ra rn rc] X (BoolPost X (rgsFrom (-1) t.rd))):=fun X h=>prg_valid _ t.rd X (hl.keep (bt hb1 h (Nat.le_refl _))) _ rfl
 have HLM:Hid (∀X,Calls Tryz.prog 155 #[.int .i64 ((k:Int)+1)] X fun r w'=>r=.returned (.int .i64 (limI ((k:Int)+1)))∧X=w'):=fun X=>limit_any _ X
 obtain⟨mo,hmo⟩:∃m,t.most=m:=⟨_,rfl⟩
 rw[hmo] at t2 HW1 ⊢
 have HMO:=hid hmo
 clear hW1 hb1 pT hl hrn hmo
 cases hs:t.sup with
 |false=>
  rw[hs] at t0 HW1
  have HS:=hid hs
  clear HVR HLM kD hs
  by_cases e1:rn=0
  ·have d1:((rn:Int)==0)=true:=b1 (by omega)
   by_cases e2:mo=0
   ·have d2:(mo==0)=true:=b1 e2
    have HV:Hid (t.val k):=⟨fun _=>⟨by rw[HRN.out];exact e1,by rw[HMO.out];exact e2⟩,fun e=>by rw[HS.out] at e;cases e⟩
    clear e1 e2
    go_enter Tryz.func150,Tryz.ntmps150
    go_upto_region 1 with(fail)
    rw[HW1.out]
    go_wp2
    go_ret
    exact TvPost.yes HV.out HB1.out
   ·have d2:(mo==0)=false:=b0 e2
    have HV:Hid (¬t.val k):=fun h=>e2 (by rw[←HMO.out];exact(h.1 HS.out).2)
    clear e1 e2
    go_enter Tryz.func150,Tryz.ntmps150
    go_upto_region 1 with(fail)
    rw[HW1.out]
    go_wp2
    go_ret
    exact TvPost.no HV.out HB1.out
  ·have d1:((rn:Int)==0)=false:=b0 (by omega)
   have HV:Hid (¬t.val k):=fun h=>e1 (by rw[←HRN.out];exact(h.1 HS.out).1)
   clear e1
   go_enter Tryz.func150,Tryz.ntmps150
   go_upto_region 1 with(fail)
   rw[HW1.out]
   go_wp2
   go_ret
   exact TvPost.no HV.out HB1.out
 |true=>
  rw[hs] at t0 HW1
  have HS:=hid hs
  clear hs
  obtain⟨B,hB⟩:∃B,rgsFrom (-1) t.rd=B:=⟨_,rfl⟩
  rw[hB] at HVR
  cases B with
  |false=>
   have HV:Hid (¬t.val k):=fun h=>by have:=(h.2 HS.out).2.1;rw[hB] at this;cases this
   clear hB
   go_enter Tryz.func150,Tryz.ntmps150
   go_upto_region 1 with(fail)
   rw[HW1.out]
   go_upto_region 3 with(fail)
   refine wp_region_held_drew (S:=fun V=>Below W1.heap.size W1 V) (by kernel_rfl) kD (fun hH=>?_)
   clear hH
   refine tkE 0 17 rfl rfl ?_;simp only[setS]
   refine tkE 1 18 rfl rfl ?_;simp only[setS]
   refine rdyH 2 rfl (fun K hK=>?_);go_simp
   refine(HVR.out _ kD).mono ?_
   rintro r w5 ⟨rfl,hb5⟩
   have hB5:=bt kD hb5 (Nat.le_refl _)
   refine hK.out _ _ hB5 (fun hSx=>?_);clear hK K hSx
   refine tkE 3 20 rfl rfl ?_;simp only[setS]
   refine tkU 4 21 rfl rfl ?_;simp only[setS]
   refine tkU 5 22 rfl rfl ?_;simp only[setS]
   refine tkU 6 23 rfl rfl ?_;simp only[setS]
   refine tkU 7 24 rfl rfl ?_;simp only[setS]
   refine tkE 8 25 rfl rfl ?_;simp only[setS]
   refine tkE 9 26 rfl rfl ?_;simp only[setS]
   refine tkU 10 27 rfl rfl ?_;simp only[setS]
   refine tkU 11 28 rfl rfl ?_;simp only[setS]
   refine tkU 12 29 rfl rfl ?_;simp only[setS]
   exact z09_1
  |true=>
   have HB2:=hid hB
   clear hB
   by_cases e1:rn≤32
   ·have d1:decide ((rn:Int)≤32)=true:=decide_eq_true (by omega)
    by_cases e2:1≤mo
    ·have d2:decide (1≤mo)=true:=decide_eq_true e2
     obtain⟨L,hL⟩:∃L,limI ((k:Int)+1)=L:=⟨_,rfl⟩
     rw[hL] at HLM
     by_cases e3:mo≤L
     ·have d3:decide (mo≤L)=true:=decide_eq_true e3
      have HV:Hid (t.val k):=⟨fun e=>(by rw[HS.out] at e;cases e),fun _=>⟨by rw[HRN.out];exact e1,HB2.out,by rw[HMO.out];exact e2,by rw[HMO.out,hL];exact e3⟩⟩
      clear e1 e2 e3 hL
      go_enter Tryz.func150,Tryz.ntmps150
      go_upto_region 1 with(fail)
      rw[HW1.out]
      go_upto_region 3 with(fail)
      refine wp_region_held_drew (S:=fun V=>Below W1.heap.size W1 V) (by kernel_rfl) kD (fun hH=>?_)
      clear hH
      refine tkE 0 17 rfl rfl ?_;simp only[setS]
      refine tkE 1 18 rfl rfl ?_;simp only[setS]
      refine rdyH 2 rfl (fun K hK=>?_);go_simp
      refine(HVR.out _ kD).mono ?_
      rintro r w5 ⟨rfl,hb5⟩
      have hB5:=bt kD hb5 (Nat.le_refl _)
      refine hK.out _ _ hB5 (fun hSx=>?_);clear hK K hSx
      refine tkE 3 20 rfl rfl ?_;simp only[setS]
      refine tkE 4 21 rfl rfl ?_;simp only[setS]
      refine tkE 5 22 rfl rfl ?_;simp only[setS]
      refine tkE 6 23 rfl rfl ?_;simp only[setS]
      refine tkE 7 24 rfl rfl ?_;simp only[setS]
      refine tkE 8 25 rfl rfl ?_;simp only[setS]
      refine tkE 9 26 rfl rfl ?_;simp only[setS]
      refine tkE 10 27 rfl rfl ?_;simp only[setS]
      refine tkE 11 28 rfl rfl ?_;simp only[setS]
      refine tkE 12 29 rfl rfl ?_;simp only[setS]
      refine tkE 13 30 rfl rfl ?_;simp only[setS]
      refine tkE 14 31 rfl rfl ?_;simp only[setS]
      refine tkE 15 32 rfl rfl ?_;simp only[setS]
      refine tkE 16 33 rfl rfl ?_;simp only[setS]
      refine tkE 17 34 rfl rfl ?_;simp only[setS]
      refine rdyH 18 rfl (fun K hK=>?_);go_simp
      refine(HLM.out _).mono ?_
      rintro r w6 ⟨rfl,rfl⟩
      refine hK.out _ _ hB5 (fun hSx=>?_);clear hK K hSx
      refine tkE 19 36 rfl rfl ?_;simp only[setS]
      refine tkE 20 37 rfl rfl ?_;simp only[setS]
      refine tkE 21 4 rfl rfl ?_;simp only[setS]
      refine wpAnyH_done (by kernel_rfl) ?_ _
      go_wp2
      go_ret
      exact TvPost.yes HV.out (bt HB1.out hB5 (Nat.le_refl _))
     ·have d3:decide (mo≤L)=false:=decide_eq_false e3
      have HV:Hid (¬t.val k):=fun h=>e3 (by have:=(h.2 HS.out).2.2.2;rw[HMO.out,hL] at this;exact this)
      clear e1 e2 e3 hL
      go_enter Tryz.func150,Tryz.ntmps150
      go_upto_region 1 with(fail)
      rw[HW1.out]
      go_upto_region 3 with(fail)
      refine wp_region_held_drew (S:=fun V=>Below W1.heap.size W1 V) (by kernel_rfl) kD (fun hH=>?_)
      clear hH
      refine tkE 0 17 rfl rfl ?_;simp only[setS]
      refine tkE 1 18 rfl rfl ?_;simp only[setS]
      refine rdyH 2 rfl (fun K hK=>?_);go_simp
      refine(HVR.out _ kD).mono ?_
      rintro r w5 ⟨rfl,hb5⟩
      have hB5:=bt kD hb5 (Nat.le_refl _)
      refine hK.out _ _ hB5 (fun hSx=>?_);clear hK K hSx
      refine tkE 3 20 rfl rfl ?_;simp only[setS]
      refine tkE 4 21 rfl rfl ?_;simp only[setS]
      refine tkE 5 22 rfl rfl ?_;simp only[setS]
      refine tkE 6 23 rfl rfl ?_;simp only[setS]
      refine tkE 7 24 rfl rfl ?_;simp only[setS]
      refine tkE 8 25 rfl rfl ?_;simp only[setS]
      refine tkE 9 26 rfl rfl ?_;simp only[setS]
      refine tkE 10 27 rfl rfl ?_;simp only[setS]
      refine tkE 11 28 rfl rfl ?_;simp only[setS]
      refine tkE 12 29 rfl rfl ?_;simp only[setS]
      refine tkE 13 30 rfl rfl ?_;simp only[setS]
      refine tkE 14 31 rfl rfl ?_;simp only[setS]
      refine tkE 15 32 rfl rfl ?_;simp only[setS]
      refine tkE 16 33 rfl rfl ?_;simp only[setS]
      refine tkE 17 34 rfl rfl ?_;simp only[setS]
      refine rdyH 18 rfl (fun K hK=>?_);go_simp
      refine(HLM.out _).mono ?_
      rintro r w6 ⟨rfl,rfl⟩
      refine hK.out _ _ hB5 (fun hSx=>?_);clear hK K hSx
      refine tkE 19 36 rfl rfl ?_;simp only[setS]
      refine tkE 20 37 rfl rfl ?_;simp only[setS]
      refine tkE 21 4 rfl rfl ?_;simp only[setS]
      refine wpAnyH_done (by kernel_rfl) ?_ _
      go_wp2
      go_ret
      exact TvPost.no HV.out (bt HB1.out hB5 (Nat.le_refl _))
    ·have d2:decide (1≤mo)=false:=decide_eq_false e2
     have HV:Hid (¬t.val k):=fun h=>e2 (by have:=(h.2 HS.out).2.2.1;rw[HMO.out] at this;exact this)
     clear e1 e2
     go_enter Tryz.func150,Tryz.ntmps150
     go_upto_region 1 with(fail)
     rw[HW1.out]
     go_upto_region 3 with(fail)
     refine wp_region_held_drew (S:=fun V=>Below W1.heap.size W1 V) (by kernel_rfl) kD (fun hH=>?_)
     clear hH
     refine tkE 0 17 rfl rfl ?_;simp only[setS]
     refine tkE 1 18 rfl rfl ?_;simp only[setS]
     refine rdyH 2 rfl (fun K hK=>?_);go_simp
     refine(HVR.out _ kD).mono ?_
     rintro r w5 ⟨rfl,hb5⟩
     have hB5:=bt kD hb5 (Nat.le_refl _)
     refine hK.out _ _ hB5 (fun hSx=>?_);clear hK K hSx
     refine tkE 3 20 rfl rfl ?_;simp only[setS]
     refine tkE 4 21 rfl rfl ?_;simp only[setS]
     refine tkE 5 22 rfl rfl ?_;simp only[setS]
     refine tkE 6 23 rfl rfl ?_;simp only[setS]
     refine tkE 7 24 rfl rfl ?_;simp only[setS]
     refine tkE 8 25 rfl rfl ?_;simp only[setS]
     refine tkE 9 26 rfl rfl ?_;simp only[setS]
     refine tkE 10 27 rfl rfl ?_;simp only[setS]
     refine tkE 11 28 rfl rfl ?_;simp only[setS]
     refine tkE 12 29 rfl rfl ?_;simp only[setS]
     exact z09_1
   ·have d1:decide ((rn:Int)≤32)=false:=decide_eq_false (by omega)
    have HV:Hid (¬t.val k):=fun h=>e1 (by have:=(h.2 HS.out).1;rw[HRN.out] at this;exact this)
    clear e1
    go_enter Tryz.func150,Tryz.ntmps150
    go_upto_region 1 with(fail)
    rw[HW1.out]
    go_upto_region 3 with(fail)
    refine wp_region_held_drew (S:=fun V=>Below W1.heap.size W1 V) (by kernel_rfl) kD (fun hH=>?_)
    clear hH
    refine tkE 0 17 rfl rfl ?_;simp only[setS]
    refine tkE 1 18 rfl rfl ?_;simp only[setS]
    refine rdyH 2 rfl (fun K hK=>?_);go_simp
    refine(HVR.out _ kD).mono ?_
    rintro r w5 ⟨rfl,hb5⟩
    have hB5:=bt kD hb5 (Nat.le_refl _)
    refine hK.out _ _ hB5 (fun hSx=>?_);clear hK K hSx
    refine tkE 3 20 rfl rfl ?_;simp only[setS]
    refine tkE 4 21 rfl rfl ?_;simp only[setS]
    refine tkE 5 22 rfl rfl ?_;simp only[setS]
    refine tkE 6 23 rfl rfl ?_;simp only[setS]
    refine tkE 7 24 rfl rfl ?_;simp only[setS]
    refine tkE 8 25 rfl rfl ?_;simp only[setS]
    refine tkE 9 26 rfl rfl ?_;simp only[setS]
    refine tkU 10 27 rfl rfl ?_;simp only[setS]
    refine tkU 11 28 rfl rfl ?_;simp only[setS]
    refine tkU 12 29 rfl rfl ?_;simp only[setS]
    exact z09_1
theorem greatest_any (c:Int) (w:World):Calls Tryz.prog 179 #[.int .i64 c] w fun r w'=>r=.returned (.int .i64 (grI c))∧w=w':=by
 unfold grI
 by_cases h1:c=1
 ·have d1:(c==1)=true:=b1 h1
  rw[if_pos h1]
  clear h1
  go_enter Tryz.func179,Tryz.ntmps179
  go_wp2
  go_ret
  exact⟨rfl,rfl⟩
 ·have d1:(c==1)=false:=b0 h1
  rw[if_neg h1]
  clear h1
  by_cases h2:c=2
  ·have d2:(c==2)=true:=b1 h2
   rw[if_pos h2]
   clear h2
   go_enter Tryz.func179,Tryz.ntmps179
   go_wp2
   go_ret
   exact⟨rfl,rfl⟩
  ·have d2:(c==2)=false:=b0 h2
   rw[if_neg h2]
   clear h2
   go_enter Tryz.func179,Tryz.ntmps179
   go_wp2
   go_ret
   exact⟨rfl,rfl⟩
structure obStep (lv:Int) (l:List Ob) (i:Nat) (x:Ob):Prop where
 lo:i≤2→x.id=(i:Int)
 hi:2<i→∀y,l[i-1]?=some y→y.id<x.id
 gr:x.id≤grI lv
 vl:x.val.length≤64
theorem rises_all:∀(l:List Ob) (a:Int),rises a l=true↔∀(i:Nat) (x:Ob),l[i]?=some x→x.id≤255∧(i=0→a<x.id)∧(0<i→∀y,l[i-1]?=some y→y.id<x.id)
 |[],a=>⟨fun _ i x h=>(by rw[List.getElem?_nil] at h;cases h),fun _=>rfl⟩
 |z::l,a=>by
  have ih:=rises_all l z.id
  constructor
  ·intro h i x hx
   simp only[rises,Bool.and_eq_true,decide_eq_true_eq] at h
   cases i with
   |zero=>
    cases hx
    exact⟨h.1.2,fun _=>h.1.1,fun e=>absurd e (Nat.lt_irrefl 0)⟩
   |succ i=>
    rw[List.getElem?_cons_succ] at hx
    obtain⟨h1,h2,h3⟩:=ih.1 h.2 i x hx
    refine⟨h1,fun e=>by omega,fun _ y hy=>?_⟩
    cases i with
    |zero=>cases hy;exact h2 rfl
    |succ i=>
     rw[show i+1+1-1=i+1 by omega,List.getElem?_cons_succ] at hy
     exact h3 (by omega) y (by rw[show i+1-1=i by omega];exact hy)
  ·intro h
   simp only[rises,Bool.and_eq_true,decide_eq_true_eq]
   obtain⟨h1,h2,-⟩:=h 0 z rfl
   refine⟨⟨h2 rfl,h1⟩,ih.2 fun i x hx=>?_⟩
   obtain⟨g1,-,g3⟩:=h (i+1) x (by rw[List.getElem?_cons_succ];exact hx)
   refine⟨g1,fun e=>?_,fun e y hy=>?_⟩
   ·subst e
    exact g3 (by omega) z rfl
   ·refine g3 (by omega) y ?_
    obtain⟨j,rfl⟩:∃j,i=j+1:=⟨i-1,by omega⟩
    rw[show j+1+1-1=j+1 by omega,List.getElem?_cons_succ]
    exact hy
theorem grI_le (c:Int):grI c≤255:=by
 unfold grI
 split
 ·decide
 ·split<;>decide
structure ObsV (lv:Int) (l:List Ob):Prop where
 on:l.length≤16∧3≤l.length
 ri:rises (-1) l=true
 o2:∀x,l[2]?=some x→x.id=2
 top:∀x,l[l.length-1]?=some x→(lv=1→x.id≤2)∧(lv=2→x.id≤127)
 vl:∀(i:Nat) (x:Ob),l[i]?=some x→x.val.length≤64
theorem rises_at {l:List Ob} (h:rises (-1) l=true) {i j:Nat} (hij:i≤j) {x y:Ob} (hx:l[i]?=some x) (hy:l[j]?=some y):x.id≤y.id:=by
 induction j generalizing y with
 |zero=>
  obtain rfl:i=0:=by omega
  rw[hx] at hy
  cases hy
  exact Int.le_refl _
 |succ j ih=>
  by_cases e:i=j+1
  ·subst e
   rw[hx] at hy
   cases hy
   exact Int.le_refl _
  ·have hj:j<l.length:=by have:=(List.getElem?_eq_some_iff.1 hy).1;omega
   obtain⟨z,hz⟩:=gs (l:=l) rfl hj
   have h1:=ih (by omega) hz
   have h2:=((rises_all l (-1)).1 h (j+1) y hy).2.2 (by omega) z (by rw[show j+1-1=j by omega];exact hz)
   omega
theorem obsV_iff {lv:Int} {l:List Ob} (h16:l.length≤16) (h3:3≤l.length):ObsV lv l↔∀(i:Nat) (x:Ob),l[i]?=some x→obStep lv l i x:=by
 constructor
 ·intro h i x hx
  have hr:=(rises_all l (-1)).1 h.ri
  obtain⟨x0,g0⟩:=gs (l:=l) (k:=0) rfl (by omega)
  obtain⟨x1,g1⟩:=gs (l:=l) (k:=1) rfl (by omega)
  obtain⟨x2,g2⟩:=gs (l:=l) (k:=2) rfl (by omega)
  have e2:=h.o2 x2 g2
  have a0:=(hr 0 x0 g0).2.1 rfl
  have a1:=(hr 1 x1 g1).2.2 (by omega) x0 g0
  have a2:=(hr 2 x2 g2).2.2 (by omega) x1 g1
  refine⟨fun hi=>?_,fun hi y hy=>(hr i x hx).2.2 (by omega) y hy,?_,h.vl i x hx⟩
  ·match i,hi with
   |0,_=>rw[g0] at hx;cases hx;show x.id=0;omega
   |1,_=>rw[g1] at hx;cases hx;show x.id=1;omega
   |2,_=>rw[g2] at hx;cases hx;show x.id=2;omega
  ·have hil:=(List.getElem?_eq_some_iff.1 hx).1
   obtain⟨z,hz⟩:=gs (l:=l) (k:=l.length-1) rfl (by omega)
   have h1:=rises_at h.ri (show i≤l.length-1 by omega) hx hz
   obtain⟨t1,t2⟩:=h.top z hz
   have h2:=(hr _ z hz).1
   unfold grI
   split
   ·have:=t1 (by assumption);omega
   ·split
    ·have:=t2 (by assumption);omega
    ·omega
 ·intro h
  refine⟨⟨h16,h3⟩,(rises_all l (-1)).2 fun i x hx=>?_,fun x hx=>(h 2 x hx).lo (by omega),fun x hx=>?_,fun i x hx=>(h i x hx).vl⟩
  ·have hs:=h i x hx
   refine⟨Int.le_trans hs.gr (grI_le _),fun e=>?_,fun hi y hy=>?_⟩
   ·subst e
    have:=hs.lo (by omega)
    omega
   ·by_cases e:2<i
    ·exact hs.hi e y hy
    ·have h1:=hs.lo (by omega)
     have h2:=(h (i-1) y hy).lo (by omega)
     omega
  ·have:=(h _ x hx).gr
   unfold grI at this
   refine⟨fun e=>?_,fun e=>?_⟩
   ·rw [if_pos e] at this;exact this
   ·rw [if_neg (by omega),if_pos e] at this;exact this
def objsV (lv:Int) (l:List Ob):Prop:=if lv=0 then l.length=0 else (1≤lv∧lv≤3∧ObsV lv l)
theorem Sl.val_iff {s:Sl}:s.val↔Okset s.bd s.pa∧1≤s.un∧s.un≤247∧objsV s.lv s.objs∧(∀k,k<4→(s.ts k).val k)∧(s.hs=true→1≤s.sd.length∧s.sd.length≤64)∧(s.hs=false→s.sd.length=0):=by
 unfold objsV
 constructor
 ·intro h
  refine⟨h.set,h.un.1,h.un.2,?_,h.tb,fun e=>⟨h.sv.1 e,h.sl⟩,fun e=>?_⟩
  ·split
   ·exact h.l0 (by assumption)
   ·have:=h.lv
    exact⟨by omega,this.2,h.on (by omega),h.ri (by omega),h.o2 (by omega),h.top (by omega),h.vl (by omega)⟩
  ·have:=h.sv
   rw[e] at this
   have:=mt this.2 (by decide)
   omega
 ·rintro ⟨h1,h2,h3,h4,h5,h6,h7⟩
  have hlv:0≤s.lv∧s.lv≤3:=by
   split at h4
   ·omega
   ·omega
  have hO:0<s.lv→ObsV s.lv s.objs:=fun e=>by
   rw[if_neg (by omega)] at h4
   exact h4.2.2
  refine⟨h1,⟨h2,h3⟩,hlv,h5,fun e=>?_,⟨fun e=>(h6 e).1,fun e=>?_⟩,?_,fun e=>(hO e).on,fun e=>(hO e).ri,fun e=>(hO e).o2,fun e=>(hO e).top,fun e=>(hO e).vl⟩
  ·rw [if_pos e] at h4
   exact h4
  ·cases hh:s.hs with
   |true=>rfl
   |false=>have:=h7 hh;omega
  ·cases hh:s.hs with
   |true=>exact(h6 hh).2
   |false=>have:=h7 hh;omega
end Go.Proofs.YtoaoejaodhedaaaGreat
