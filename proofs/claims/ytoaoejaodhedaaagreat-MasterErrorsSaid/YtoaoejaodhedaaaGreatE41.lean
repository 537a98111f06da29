/-
 Texts 41 of the claim.
-/
import Derived.Test.YtoaoejaodhedaaaGreatE25
import Derived.Test.YtoaoejaodhedaaaGreatE13
import Derived.Test.YtoaoejaodhedaaaGreatE12
namespace Go.Proofs.YtoaoejaodhedaaaGreat
open Go.RowKit
set_option maxHeartbeats 25600000
set_option maxRecDepth 100000
theorem swin_any (n m:Int) (V:Bool) (hV:V=true↔0≤n∧n≤m) (w:World):Calls Tryz.prog 113 #[.int .i64 n,.int .i64 m] w fun r w'=>r=.returned (.bool V)∧w=w':=by
 have HV:=hid hV
 by_cases h:0≤n
 ·by_cases h2:n≤m
  ·have e:V=true:=hV.2 ⟨h,h2⟩
   subst e
   clear hV
   go_enter Tryz.func113,Tryz.ntmps113
   go_wp2
   go_ret
   exact⟨rfl,rfl⟩
  ·have e:V=false:=by
    cases V
    ·rfl
    ·exact absurd (hV.1 rfl).2 h2
   subst e
   clear hV
   go_enter Tryz.func113,Tryz.ntmps113
   go_wp2
   go_ret
   exact⟨rfl,rfl⟩
 ·have e:V=false:=by
   cases V
   ·rfl
   ·exact absurd (hV.1 rfl).1 h
  subst e
  clear hV
  go_enter Tryz.func113,Tryz.ntmps113
  go_wp2
  go_ret
  exact⟨rfl,rfl⟩
def KdC:Array Value:=#[.string {data:=#[110,111,110,101]},.bool false,.bool false,.bool false,.string {data:=#[114,101,113,117,101,115,116]},.bool false,.bool false,.bool false,.string {data:=#[114,101,112,108,121]},.bool false,.bool false,.bool false,.string {data:=#[100,97,109,97,103,101]},.bool true,.bool true,.bool false,.string {data:=#[100,101,108,97,121]},.bool false,.bool false,.bool true,.string {data:=#[98,117,115,121]},.bool false,.bool false,.bool false,.string {data:=#[103,97,112]},.bool true,.bool false,.bool true]
theorem infoKD:(Tryz.prog.info? 223).map (·.size)=some 4:=by kernel_rfl
theorem kinds_any (w:World):Calls Tryz.prog 152 #[] w fun r w'=>r=.returned (.slice (some ⟨w.heap.size,0,none⟩) 7 7)∧(∃T,w'.heap[w.heap.size]?=some (.cells KdC T (0,0)))∧Below w.heap.size w w':=by
 go_enter Tryz.func152,Tryz.ntmps152
 go_wp2
 go_ret
 exact⟨rfl,⟨_,hpNew w _⟩,bal' w _⟩
theorem kd_row {X:World} {g:Nat} {T:TypeId} (h:X.heap[g]?=some (.cells KdC T (0,0))) (k:Nat) (C:Array Value) (hC:∀j v,C.toList[j]?=some v→KdC[k+j]?=some v):∀j v,C.toList[j]?=some v→X.cell? ((⟨g,k,none⟩:Addr).add j)=some v:=fun j v hj=>by
 have e:(⟨g,k,none⟩:Addr).add j=⟨g,k+j,none⟩:=by unfold Addr.add;split<;>simp_all
 rw[e,hpCell h]
 exact hC j v hj
theorem and_byte_i64 (n:Int) (h0:0≤n) (h1:n<65536):bits .and .i64 n 255=n%256:=by
 show IntKind.wrap .i64 ((((BitVec.ofInt 64 n)&&&(BitVec.ofInt 64 255)).toNat:Nat):Int)=_
 have e1:(BitVec.ofInt 64 n).toNat=n.toNat:=by rw[BitVec.toNat_ofInt];omega
 have e2:(BitVec.ofInt 64 255).toNat=255:=by decide
 have e3:n.toNat&&&255=n.toNat%256:=Nat.and_two_pow_sub_one_eq_mod n.toNat 8
 rw[BitVec.toNat_and,e1,e2,e3,IntWalk.i64_in _ (by omega)]
 omega
theorem z40_1 {p:Prop} (h:p:=by
 go_wp2_with (go_at_call 113;(first|(with_reducible refine(HWF.out _).mono ?_)|(with_reducible refine(HWL.out _).mono ?_)|(with_reducible refine(HWV.out _).mono ?_)|(with_reducible refine(HWP.out _).mono ?_)|(with_reducible refine(HWM.out _).mono ?_)|(with_reducible refine(HWT.out _).mono ?_));rintro r w3 ⟨rfl,rfl⟩)
 go_ret
 exact AtPost.no HV.out (below_drewN HB5.out _)):p:=h
theorem z40_2 {p:Prop} (h:p:=by
 show _
 rw[At.ok_mk]
 try have:=HPT.out
 refine⟨by omega,by omega,by omega,by omega,by omega,by omega,?_⟩
 first
  |exact .inl ⟨by omega,by omega,by omega,by omega⟩
  |exact .inr (.inl ⟨rfl,by omega,by omega,by omega,by omega,by omega,by omega⟩)
  |exact .inr (.inr (.inl ⟨rfl,by omega,by omega⟩))
  |exact .inr (.inr (.inr ⟨rfl,by omega,by omega,by omega⟩))):p:=h
theorem z40_3 {p:Prop} (h:p:=by
 go_wp2_with (go_at_call 113;(first|(with_reducible refine(HWF.out _).mono ?_)|(with_reducible refine(HWL.out _).mono ?_)|(with_reducible refine(HWV.out _).mono ?_)|(with_reducible refine(HWP.out _).mono ?_)|(with_reducible refine(HWM.out _).mono ?_)|(with_reducible refine(HWT.out _).mono ?_));rintro r w3 ⟨rfl,rfl⟩)
 go_ret
 exact AtPost.yes HV.out (below_drewN HB5.out _)):p:=h
theorem z40_4 {p:Prop} (h:p:=by
 go_enter Tryz.func116,Tryz.ntmps116;go_upto_region 1 with(fail);rw[HW1.out];go_upto_region 2 with(go_at_call 152;(with_reducible refine(HK.out _).mono ?_);rintro r w2 ⟨rfl,⟨T,hT⟩,hb2⟩);have u0:=t0 _ hb2;have u1:=t1 _ hb2;have u2:=t2 _ hb2;have u3:=t3 _ hb2;have u4:=t4 _ hb2;have u5:=t5 _ hb2;have HB2:=hid (bt HB1.out hb2 (Nat.le_refl _));clear t0 t1 t2 t3 t4 t5
 go_wp2_with (go_at_call 113;(first|(with_reducible refine(HWF.out _).mono ?_)|(with_reducible refine(HWL.out _).mono ?_)|(with_reducible refine(HWV.out _).mono ?_)|(with_reducible refine(HWP.out _).mono ?_)|(with_reducible refine(HWM.out _).mono ?_)|(with_reducible refine(HWT.out _).mono ?_));rintro r w3 ⟨rfl,rfl⟩)
 go_ret
 exact AtPost.no HV.out HB2.out):p:=h
theorem patt_any (a:At) (w:World):Calls Tryz.prog 116 #[.agg a.C] w (AtPost w a):=by
 obtain⟨lat,fault,pos,mask,ticks,value⟩:=a
 obtain⟨C,hC⟩:∃C,(At.mk lat fault pos mask ticks value).C=C:=⟨_,rfl⟩
 rw[hC]
 obtain⟨W1,hW1⟩:∃W,w.alloc (.cells C 70)=W:=⟨_,rfl⟩
 have hb1:Below w.heap.size w W1:=by rw[←hW1];exact bal' w _
 have pS:W1.heap[w.heap.size]?=some (.cells C 70):=by rw[←hW1];exact hpNew w _
 have t0:∀X,Below W1.heap.size W1 X→X.cell? ⟨w.heap.size,0,none⟩=some (.int .i64 lat):=fun X h=>by rw[hpCell (hpKeep pS h) 0,←hC];rfl
 have t1:∀X,Below W1.heap.size W1 X→X.cell? ⟨w.heap.size,1,none⟩=some (.int .i64 fault):=fun X h=>by rw[hpCell (hpKeep pS h) 1,←hC];rfl
 have t2:∀X,Below W1.heap.size W1 X→X.cell? ⟨w.heap.size,2,none⟩=some (.int .i64 pos):=fun X h=>by rw[hpCell (hpKeep pS h) 2,←hC];rfl
 have t3:∀X,Below W1.heap.size W1 X→X.cell? ⟨w.heap.size,3,none⟩=some (.int .i64 mask):=fun X h=>by rw[hpCell (hpKeep pS h) 3,←hC];rfl
 have t4:∀X,Below W1.heap.size W1 X→X.cell? ⟨w.heap.size,4,none⟩=some (.int .i64 ticks):=fun X h=>by rw[hpCell (hpKeep pS h) 4,←hC];rfl
 have t5:∀X,Below W1.heap.size W1 X→X.cell? ⟨w.heap.size,5,none⟩=some (.int .i64 value):=fun X h=>by rw[hpCell (hpKeep pS h) 5,←hC];rfl
 have HW1:=hid hW1
 have HB1:=hid hb1
 have HK:=hid kinds_any
 clear hW1 hb1 pS hC
 obtain⟨VF,hVF⟩:∃V:Bool,(V=true↔0≤fault∧fault≤6):=⟨decide (0≤fault∧fault≤6),decide_eq_true_iff⟩
 have HWF:Hid (∀X,Calls Tryz.prog 113 #[.int .i64 fault,.int .i64 6] X fun r w'=>r=.returned (.bool VF)∧X=w'):=fun X=>swin_any fault 6 VF hVF X
 obtain⟨VL,hVL⟩:∃V:Bool,(V=true↔0≤lat∧lat≤5000000):=⟨decide (0≤lat∧lat≤5000000),decide_eq_true_iff⟩
 have HWL:Hid (∀X,Calls Tryz.prog 113 #[.int .i64 lat,.int .i64 5000000] X fun r w'=>r=.returned (.bool VL)∧X=w'):=fun X=>swin_any lat 5000000 VL hVL X
 obtain⟨VV,hVV⟩:∃V:Bool,(V=true↔0≤value∧value≤65535):=⟨decide (0≤value∧value≤65535),decide_eq_true_iff⟩
 have HWV:Hid (∀X,Calls Tryz.prog 113 #[.int .i64 value,.int .i64 65535] X fun r w'=>r=.returned (.bool VV)∧X=w'):=fun X=>swin_any value 65535 VV hVV X
 obtain⟨VP,hVP⟩:∃V:Bool,(V=true↔0≤pos∧pos≤255):=⟨decide (0≤pos∧pos≤255),decide_eq_true_iff⟩
 have HWP:Hid (∀X,Calls Tryz.prog 113 #[.int .i64 pos,.int .i64 255] X fun r w'=>r=.returned (.bool VP)∧X=w'):=fun X=>swin_any pos 255 VP hVP X
 obtain⟨VM,hVM⟩:∃V:Bool,(V=true↔0≤mask∧mask≤65535):=⟨decide (0≤mask∧mask≤65535),decide_eq_true_iff⟩
 have HWM:Hid (∀X,Calls Tryz.prog 113 #[.int .i64 mask,.int .i64 65535] X fun r w'=>r=.returned (.bool VM)∧X=w'):=fun X=>swin_any mask 65535 VM hVM X
 obtain⟨VT,hVT⟩:∃V:Bool,(V=true↔0≤ticks∧ticks≤5000000):=⟨decide (0≤ticks∧ticks≤5000000),decide_eq_true_iff⟩
 have HWT:Hid (∀X,Calls Tryz.prog 113 #[.int .i64 ticks,.int .i64 5000000] X fun r w'=>r=.returned (.bool VT)∧X=w'):=fun X=>swin_any ticks 5000000 VT hVT X
 have KVF:=hid hVF
 clear hVF
 have KVL:=hid hVL
 clear hVL
 have KVV:=hid hVV
 clear hVV
 have KVP:=hid hVP
 clear hVP
 have KVM:=hid hVM
 clear hVM
 have KVT:=hid hVT
 clear hVT
 by_cases c1:0≤fault∧fault≤6
 ·skip
  have dc1:VF=true:=KVF.out.2 c1
  subst dc1
  clear KVF
  by_cases c2:0≤lat∧lat≤5000000
  ·skip
   have dc2:VL=true:=KVL.out.2 c2
   subst dc2
   clear KVL
   by_cases c3:0≤value∧value≤65535
   ·skip
    have dc3:VV=true:=KVV.out.2 c3
    subst dc3
    clear KVV
    rcases (show fault=0∨fault=1∨fault=2∨fault=3∨fault=4∨fault=5∨fault=6 by omega) with hk|hk|hk|hk|hk|hk|hk
    ·subst hk
     have HPT:=hid (And.intro c1 (And.intro c2 c3))
     clear c1 c2 c3
     go_enter Tryz.func116,Tryz.ntmps116;go_upto_region 1 with(fail);rw[HW1.out];go_upto_region 2 with(go_at_call 152;(with_reducible refine(HK.out _).mono ?_);rintro r w2 ⟨rfl,⟨T,hT⟩,hb2⟩);have u0:=t0 _ hb2;have u1:=t1 _ hb2;have u2:=t2 _ hb2;have u3:=t3 _ hb2;have u4:=t4 _ hb2;have u5:=t5 _ hb2;have HB2:=hid (bt HB1.out hb2 (Nat.le_refl _));clear t0 t1 t2 t3 t4 t5
     go_upto_region 5 with(first
      |(go_at_call 113;(first|(with_reducible refine(HWF.out _).mono ?_)|(with_reducible refine(HWL.out _).mono ?_)|(with_reducible refine(HWV.out _).mono ?_)|(with_reducible refine(HWP.out _).mono ?_)|(with_reducible refine(HWM.out _).mono ?_)|(with_reducible refine(HWT.out _).mono ?_));rintro r w3 ⟨rfl,rfl⟩)
      |(refine wpList_load_atH (by rfl) 223 (.tmp 31) rfl ⟨W1.heap.size,0,none⟩ rfl #[.string {data:=#[110,111,110,101]},.bool false,.bool false,.bool false] _ (kd_row hT 0 _ (fun j v h=>by rcases j with _|_|_|_|j<;>first|exact h|(cases h))) Tryz.underlying223 rfl infoKD ?_)
      |(refine wpList_storeW rfl 223 (.tmp 4) (.tmp 32) rfl w2.heap.size 0 _ 223 #[.string {data:=#[110,111,110,101]},.bool false,.bool false,.bool false] rfl rfl (hpNew w2 _) (by simp) infoKD (by rfl) ?_;intro w5 g5 hk5 hz5))
     obtain⟨p5,hb5⟩:=var_new (by simp) g5 hk5
     clear g5 hk5 hz5
     have v0:=cell_keep hb5 u0
     have v1:=cell_keep hb5 u1
     have v2:=cell_keep hb5 u2
     have v3:=cell_keep hb5 u3
     have v4:=cell_keep hb5 u4
     have v5:=cell_keep hb5 u5
     have z1:w5.cell? ⟨w2.heap.size,1,none⟩=some (.bool false):=by rw[hpCell p5];rfl
     have z2:w5.cell? ⟨w2.heap.size,2,none⟩=some (.bool false):=by rw[hpCell p5];rfl
     have z3:w5.cell? ⟨w2.heap.size,3,none⟩=some (.bool false):=by rw[hpCell p5];rfl
     have HB5:=hid (bt HB2.out hb5 (Nat.le_refl _))
     clear u0 u1 u2 u3 u4 u5 p5 hT
     go_quiet (fail)
     by_cases c4:pos=0
     ·have ec4:(pos==0)=true:=b1 c4
      by_cases c5:mask=0
      ·have ec5:(mask==0)=true:=b1 c5
       by_cases c6:ticks=0
       ·have ec6:(ticks==0)=true:=b1 c6
        have HV:Hid ((At.mk lat 0 pos mask ticks value).ok):=by
         exact z40_2
        clear c4 c5 c6
        exact z40_3
       ·have ec6:(ticks==0)=false:=b0 c6
        have HV:Hid (¬(At.mk lat 0 pos mask ticks value).ok):=by
         show ¬_
         rw[At.ok_mk]
         try have:=HPT.out
         omega
        clear c4 c5 c6
        exact z40_1
      ·have ec5:(mask==0)=false:=b0 c5
       have HV:Hid (¬(At.mk lat 0 pos mask ticks value).ok):=by
        show ¬_
        rw[At.ok_mk]
        try have:=HPT.out
        omega
       clear c4 c5
       exact z40_1
     ·have ec4:(pos==0)=false:=b0 c4
      have HV:Hid (¬(At.mk lat 0 pos mask ticks value).ok):=by
       show ¬_
       rw[At.ok_mk]
       try have:=HPT.out
       omega
      clear c4
      exact z40_1
    ·subst hk
     have HPT:=hid (And.intro c1 (And.intro c2 c3))
     clear c1 c2 c3
     go_enter Tryz.func116,Tryz.ntmps116;go_upto_region 1 with(fail);rw[HW1.out];go_upto_region 2 with(go_at_call 152;(with_reducible refine(HK.out _).mono ?_);rintro r w2 ⟨rfl,⟨T,hT⟩,hb2⟩);have u0:=t0 _ hb2;have u1:=t1 _ hb2;have u2:=t2 _ hb2;have u3:=t3 _ hb2;have u4:=t4 _ hb2;have u5:=t5 _ hb2;have HB2:=hid (bt HB1.out hb2 (Nat.le_refl _));clear t0 t1 t2 t3 t4 t5
     go_upto_region 5 with(first
      |(go_at_call 113;(first|(with_reducible refine(HWF.out _).mono ?_)|(with_reducible refine(HWL.out _).mono ?_)|(with_reducible refine(HWV.out _).mono ?_)|(with_reducible refine(HWP.out _).mono ?_)|(with_reducible refine(HWM.out _).mono ?_)|(with_reducible refine(HWT.out _).mono ?_));rintro r w3 ⟨rfl,rfl⟩)
      |(refine wpList_load_atH (by rfl) 223 (.tmp 31) rfl ⟨W1.heap.size,4,none⟩ rfl #[.string {data:=#[114,101,113,117,101,115,116]},.bool false,.bool false,.bool false] _ (kd_row hT 4 _ (fun j v h=>by rcases j with _|_|_|_|j<;>first|exact h|(cases h))) Tryz.underlying223 rfl infoKD ?_)
      |(refine wpList_storeW rfl 223 (.tmp 4) (.tmp 32) rfl w2.heap.size 0 _ 223 #[.string {data:=#[114,101,113,117,101,115,116]},.bool false,.bool false,.bool false] rfl rfl (hpNew w2 _) (by simp) infoKD (by rfl) ?_;intro w5 g5 hk5 hz5))
     obtain⟨p5,hb5⟩:=var_new (by simp) g5 hk5
     clear g5 hk5 hz5
     have v0:=cell_keep hb5 u0
     have v1:=cell_keep hb5 u1
     have v2:=cell_keep hb5 u2
     have v3:=cell_keep hb5 u3
     have v4:=cell_keep hb5 u4
     have v5:=cell_keep hb5 u5
     have z1:w5.cell? ⟨w2.heap.size,1,none⟩=some (.bool false):=by rw[hpCell p5];rfl
     have z2:w5.cell? ⟨w2.heap.size,2,none⟩=some (.bool false):=by rw[hpCell p5];rfl
     have z3:w5.cell? ⟨w2.heap.size,3,none⟩=some (.bool false):=by rw[hpCell p5];rfl
     have HB5:=hid (bt HB2.out hb5 (Nat.le_refl _))
     clear u0 u1 u2 u3 u4 u5 p5 hT
     go_quiet (fail)
     by_cases c7:pos=0
     ·have ec7:(pos==0)=true:=b1 c7
      by_cases c8:mask=0
      ·have ec8:(mask==0)=true:=b1 c8
       by_cases c9:ticks=0
       ·have ec9:(ticks==0)=true:=b1 c9
        have HV:Hid ((At.mk lat 1 pos mask ticks value).ok):=by
         exact z40_2
        clear c7 c8 c9
        exact z40_3
       ·have ec9:(ticks==0)=false:=b0 c9
        have HV:Hid (¬(At.mk lat 1 pos mask ticks value).ok):=by
         show ¬_
         rw[At.ok_mk]
         try have:=HPT.out
         omega
        clear c7 c8 c9
        exact z40_1
      ·have ec8:(mask==0)=false:=b0 c8
       have HV:Hid (¬(At.mk lat 1 pos mask ticks value).ok):=by
        show ¬_
        rw[At.ok_mk]
        try have:=HPT.out
        omega
       clear c7 c8
       exact z40_1
     ·have ec7:(pos==0)=false:=b0 c7
      have HV:Hid (¬(At.mk lat 1 pos mask ticks value).ok):=by
       show ¬_
       rw[At.ok_mk]
       try have:=HPT.out
       omega
      clear c7
      exact z40_1
    ·subst hk
     have HPT:=hid (And.intro c1 (And.intro c2 c3))
     clear c1 c2 c3
     go_enter Tryz.func116,Tryz.ntmps116;go_upto_region 1 with(fail);rw[HW1.out];go_upto_region 2 with(go_at_call 152;(with_reducible refine(HK.out _).mono ?_);rintro r w2 ⟨rfl,⟨T,hT⟩,hb2⟩);have u0:=t0 _ hb2;have u1:=t1 _ hb2;have u2:=t2 _ hb2;have u3:=t3 _ hb2;have u4:=t4 _ hb2;have u5:=t5 _ hb2;have HB2:=hid (bt HB1.out hb2 (Nat.le_refl _));clear t0 t1 t2 t3 t4 t5
     go_upto_region 5 with(first
      |(go_at_call 113;(first|(with_reducible refine(HWF.out _).mono ?_)|(with_reducible refine(HWL.out _).mono ?_)|(with_reducible refine(HWV.out _).mono ?_)|(with_reducible refine(HWP.out _).mono ?_)|(with_reducible refine(HWM.out _).mono ?_)|(with_reducible refine(HWT.out _).mono ?_));rintro r w3 ⟨rfl,rfl⟩)
      |(refine wpList_load_atH (by rfl) 223 (.tmp 31) rfl ⟨W1.heap.size,8,none⟩ rfl #[.string {data:=#[114,101,112,108,121]},.bool false,.bool false,.bool false] _ (kd_row hT 8 _ (fun j v h=>by rcases j with _|_|_|_|j<;>first|exact h|(cases h))) Tryz.underlying223 rfl infoKD ?_)
      |(refine wpList_storeW rfl 223 (.tmp 4) (.tmp 32) rfl w2.heap.size 0 _ 223 #[.string {data:=#[114,101,112,108,121]},.bool false,.bool false,.bool false] rfl rfl (hpNew w2 _) (by simp) infoKD (by rfl) ?_;intro w5 g5 hk5 hz5))
     obtain⟨p5,hb5⟩:=var_new (by simp) g5 hk5
     clear g5 hk5 hz5
     have v0:=cell_keep hb5 u0
     have v1:=cell_keep hb5 u1
     have v2:=cell_keep hb5 u2
     have v3:=cell_keep hb5 u3
     have v4:=cell_keep hb5 u4
     have v5:=cell_keep hb5 u5
     have z1:w5.cell? ⟨w2.heap.size,1,none⟩=some (.bool false):=by rw[hpCell p5];rfl
     have z2:w5.cell? ⟨w2.heap.size,2,none⟩=some (.bool false):=by rw[hpCell p5];rfl
     have z3:w5.cell? ⟨w2.heap.size,3,none⟩=some (.bool false):=by rw[hpCell p5];rfl
     have HB5:=hid (bt HB2.out hb5 (Nat.le_refl _))
     clear u0 u1 u2 u3 u4 u5 p5 hT
     go_quiet (fail)
     by_cases c10:pos=0
     ·have ec10:(pos==0)=true:=b1 c10
      by_cases c11:mask=0
      ·have ec11:(mask==0)=true:=b1 c11
       by_cases c12:ticks=0
       ·have ec12:(ticks==0)=true:=b1 c12
        have HV:Hid ((At.mk lat 2 pos mask ticks value).ok):=by
         exact z40_2
        clear c10 c11 c12
        exact z40_3
       ·have ec12:(ticks==0)=false:=b0 c12
        have HV:Hid (¬(At.mk lat 2 pos mask ticks value).ok):=by
         show ¬_
         rw[At.ok_mk]
         try have:=HPT.out
         omega
        clear c10 c11 c12
        exact z40_1
      ·have ec11:(mask==0)=false:=b0 c11
       have HV:Hid (¬(At.mk lat 2 pos mask ticks value).ok):=by
        show ¬_
        rw[At.ok_mk]
        try have:=HPT.out
        omega
       clear c10 c11
       exact z40_1
     ·have ec10:(pos==0)=false:=b0 c10
      have HV:Hid (¬(At.mk lat 2 pos mask ticks value).ok):=by
       show ¬_
       rw[At.ok_mk]
       try have:=HPT.out
       omega
      clear c10
      exact z40_1
    ·subst hk
     have HPT:=hid (And.intro c1 (And.intro c2 c3))
     clear c1 c2 c3
     go_enter Tryz.func116,Tryz.ntmps116;go_upto_region 1 with(fail);rw[HW1.out];go_upto_region 2 with(go_at_call 152;(with_reducible refine(HK.out _).mono ?_);rintro r w2 ⟨rfl,⟨T,hT⟩,hb2⟩);have u0:=t0 _ hb2;have u1:=t1 _ hb2;have u2:=t2 _ hb2;have u3:=t3 _ hb2;have u4:=t4 _ hb2;have u5:=t5 _ hb2;have HB2:=hid (bt HB1.out hb2 (Nat.le_refl _));clear t0 t1 t2 t3 t4 t5
     go_upto_region 5 with(first
      |(go_at_call 113;(first|(with_reducible refine(HWF.out _).mono ?_)|(with_reducible refine(HWL.out _).mono ?_)|(with_reducible refine(HWV.out _).mono ?_)|(with_reducible refine(HWP.out _).mono ?_)|(with_reducible refine(HWM.out _).mono ?_)|(with_reducible refine(HWT.out _).mono ?_));rintro r w3 ⟨rfl,rfl⟩)
      |(refine wpList_load_atH (by rfl) 223 (.tmp 31) rfl ⟨W1.heap.size,12,none⟩ rfl #[.string {data:=#[100,97,109,97,103,101]},.bool true,.bool true,.bool false] _ (kd_row hT 12 _ (fun j v h=>by rcases j with _|_|_|_|j<;>first|exact h|(cases h))) Tryz.underlying223 rfl infoKD ?_)
      |(refine wpList_storeW rfl 223 (.tmp 4) (.tmp 32) rfl w2.heap.size 0 _ 223 #[.string {data:=#[100,97,109,97,103,101]},.bool true,.bool true,.bool false] rfl rfl (hpNew w2 _) (by simp) infoKD (by rfl) ?_;intro w5 g5 hk5 hz5))
     obtain⟨p5,hb5⟩:=var_new (by simp) g5 hk5
     clear g5 hk5 hz5
     have v0:=cell_keep hb5 u0
     have v1:=cell_keep hb5 u1
     have v2:=cell_keep hb5 u2
     have v3:=cell_keep hb5 u3
     have v4:=cell_keep hb5 u4
     have v5:=cell_keep hb5 u5
     have z1:w5.cell? ⟨w2.heap.size,1,none⟩=some (.bool true):=by rw[hpCell p5];rfl
     have z2:w5.cell? ⟨w2.heap.size,2,none⟩=some (.bool true):=by rw[hpCell p5];rfl
     have z3:w5.cell? ⟨w2.heap.size,3,none⟩=some (.bool false):=by rw[hpCell p5];rfl
     have HB5:=hid (bt HB2.out hb5 (Nat.le_refl _))
     clear u0 u1 u2 u3 u4 u5 p5 hT
     go_quiet (fail)
     by_cases c13:0≤pos∧pos≤255
     ·skip
      have dc13:VP=true:=KVP.out.2 c13
      subst dc13
      clear KVP
      by_cases c14:0≤mask∧mask≤65535
      ·skip
       have dc14:VM=true:=KVM.out.2 c14
       subst dc14
       clear KVM
       have hac15:bits .and .i64 mask 255=mask%256:=and_byte_i64 mask (by omega) (by omega)
       by_cases c15:mask%256=0
       ·have ec15:(mask%256 !=0)=false:=by rw[c15];rfl
        have HV:Hid (¬(At.mk lat 3 pos mask ticks value).ok):=by
         show ¬_
         rw[At.ok_mk]
         try have:=HPT.out
         omega
        clear c13 c14 c15
        exact z40_1
       ·have ec15:(mask%256 !=0)=true:=by rw[bne_iff_ne];exact c15
        by_cases c16:ticks=0
        ·have ec16:(ticks==0)=true:=b1 c16
         have HV:Hid ((At.mk lat 3 pos mask ticks value).ok):=by
          exact z40_2
         clear c13 c14 c15 c16
         exact z40_3
        ·have ec16:(ticks==0)=false:=b0 c16
         have HV:Hid (¬(At.mk lat 3 pos mask ticks value).ok):=by
          show ¬_
          rw[At.ok_mk]
          try have:=HPT.out
          omega
         clear c13 c14 c15 c16
         exact z40_1
      ·skip
       have dc14:VM=false:=by
        cases VM
        ·rfl
        ·exact absurd (KVM.out.1 rfl) c14
       subst dc14
       clear KVM
       have HV:Hid (¬(At.mk lat 3 pos mask ticks value).ok):=by
        show ¬_
        rw[At.ok_mk]
        try have:=HPT.out
        omega
       clear c13 c14
       exact z40_1
     ·skip
      have dc13:VP=false:=by
       cases VP
       ·rfl
       ·exact absurd (KVP.out.1 rfl) c13
      subst dc13
      clear KVP
      by_cases c17:0≤mask∧mask≤65535
      ·skip
       have dc17:VM=true:=KVM.out.2 c17
       subst dc17
       clear KVM
       have hac18:bits .and .i64 mask 255=mask%256:=and_byte_i64 mask (by omega) (by omega)
       by_cases c18:mask%256=0
       ·have ec18:(mask%256 !=0)=false:=by rw[c18];rfl
        have HV:Hid (¬(At.mk lat 3 pos mask ticks value).ok):=by
         show ¬_
         rw[At.ok_mk]
         try have:=HPT.out
         omega
        clear c13 c17 c18
        exact z40_1
       ·have ec18:(mask%256 !=0)=true:=by rw[bne_iff_ne];exact c18
        have HV:Hid (¬(At.mk lat 3 pos mask ticks value).ok):=by
         show ¬_
         rw[At.ok_mk]
         try have:=HPT.out
         omega
        clear c13 c17 c18
        exact z40_1
      ·skip
       have dc17:VM=false:=by
        cases VM
        ·rfl
        ·exact absurd (KVM.out.1 rfl) c17
       subst dc17
       clear KVM
       have HV:Hid (¬(At.mk lat 3 pos mask ticks value).ok):=by
        show ¬_
        rw[At.ok_mk]
        try have:=HPT.out
        omega
       clear c13 c17
       exact z40_1
    ·subst hk
     have HPT:=hid (And.intro c1 (And.intro c2 c3))
     clear c1 c2 c3
     go_enter Tryz.func116,Tryz.ntmps116;go_upto_region 1 with(fail);rw[HW1.out];go_upto_region 2 with(go_at_call 152;(with_reducible refine(HK.out _).mono ?_);rintro r w2 ⟨rfl,⟨T,hT⟩,hb2⟩);have u0:=t0 _ hb2;have u1:=t1 _ hb2;have u2:=t2 _ hb2;have u3:=t3 _ hb2;have u4:=t4 _ hb2;have u5:=t5 _ hb2;have HB2:=hid (bt HB1.out hb2 (Nat.le_refl _));clear t0 t1 t2 t3 t4 t5
     go_upto_region 5 with(first
      |(go_at_call 113;(first|(with_reducible refine(HWF.out _).mono ?_)|(with_reducible refine(HWL.out _).mono ?_)|(with_reducible refine(HWV.out _).mono ?_)|(with_reducible refine(HWP.out _).mono ?_)|(with_reducible refine(HWM.out _).mono ?_)|(with_reducible refine(HWT.out _).mono ?_));rintro r w3 ⟨rfl,rfl⟩)
      |(refine wpList_load_atH (by rfl) 223 (.tmp 31) rfl ⟨W1.heap.size,16,none⟩ rfl #[.string {data:=#[100,101,108,97,121]},.bool false,.bool false,.bool true] _ (kd_row hT 16 _ (fun j v h=>by rcases j with _|_|_|_|j<;>first|exact h|(cases h))) Tryz.underlying223 rfl infoKD ?_)
      |(refine wpList_storeW rfl 223 (.tmp 4) (.tmp 32) rfl w2.heap.size 0 _ 223 #[.string {data:=#[100,101,108,97,121]},.bool false,.bool false,.bool true] rfl rfl (hpNew w2 _) (by simp) infoKD (by rfl) ?_;intro w5 g5 hk5 hz5))
     obtain⟨p5,hb5⟩:=var_new (by simp) g5 hk5
     clear g5 hk5 hz5
     have v0:=cell_keep hb5 u0
     have v1:=cell_keep hb5 u1
     have v2:=cell_keep hb5 u2
     have v3:=cell_keep hb5 u3
     have v4:=cell_keep hb5 u4
     have v5:=cell_keep hb5 u5
     have z1:w5.cell? ⟨w2.heap.size,1,none⟩=some (.bool false):=by rw[hpCell p5];rfl
     have z2:w5.cell? ⟨w2.heap.size,2,none⟩=some (.bool false):=by rw[hpCell p5];rfl
     have z3:w5.cell? ⟨w2.heap.size,3,none⟩=some (.bool true):=by rw[hpCell p5];rfl
     have HB5:=hid (bt HB2.out hb5 (Nat.le_refl _))
     clear u0 u1 u2 u3 u4 u5 p5 hT
     go_quiet (fail)
     by_cases c19:pos=0
     ·have ec19:(pos==0)=true:=b1 c19
      by_cases c20:mask=0
      ·have ec20:(mask==0)=true:=b1 c20
       by_cases c21:0≤ticks∧ticks≤5000000
       ·skip
        have dc21:VT=true:=KVT.out.2 c21
        subst dc21
        clear KVT
        have HV:Hid ((At.mk lat 4 pos mask ticks value).ok):=by
         exact z40_2
        clear c19 c20 c21
        exact z40_3
       ·skip
        have dc21:VT=false:=by
         cases VT
         ·rfl
         ·exact absurd (KVT.out.1 rfl) c21
        subst dc21
        clear KVT
        have HV:Hid (¬(At.mk lat 4 pos mask ticks value).ok):=by
         show ¬_
         rw[At.ok_mk]
         try have:=HPT.out
         omega
        clear c19 c20 c21
        exact z40_1
      ·have ec20:(mask==0)=false:=b0 c20
       have HV:Hid (¬(At.mk lat 4 pos mask ticks value).ok):=by
        show ¬_
        rw[At.ok_mk]
        try have:=HPT.out
        omega
       clear c19 c20
       exact z40_1
     ·have ec19:(pos==0)=false:=b0 c19
      have HV:Hid (¬(At.mk lat 4 pos mask ticks value).ok):=by
       show ¬_
       rw[At.ok_mk]
       try have:=HPT.out
       omega
      clear c19
      exact z40_1
    ·subst hk
     have HPT:=hid (And.intro c1 (And.intro c2 c3))
     clear c1 c2 c3
     go_enter Tryz.func116,Tryz.ntmps116;go_upto_region 1 with(fail);rw[HW1.out];go_upto_region 2 with(go_at_call 152;(with_reducible refine(HK.out _).mono ?_);rintro r w2 ⟨rfl,⟨T,hT⟩,hb2⟩);have u0:=t0 _ hb2;have u1:=t1 _ hb2;have u2:=t2 _ hb2;have u3:=t3 _ hb2;have u4:=t4 _ hb2;have u5:=t5 _ hb2;have HB2:=hid (bt HB1.out hb2 (Nat.le_refl _));clear t0 t1 t2 t3 t4 t5
     go_upto_region 5 with(first
      |(go_at_call 113;(first|(with_reducible refine(HWF.out _).mono ?_)|(with_reducible refine(HWL.out _).mono ?_)|(with_reducible refine(HWV.out _).mono ?_)|(with_reducible refine(HWP.out _).mono ?_)|(with_reducible refine(HWM.out _).mono ?_)|(with_reducible refine(HWT.out _).mono ?_));rintro r w3 ⟨rfl,rfl⟩)
      |(refine wpList_load_atH (by rfl) 223 (.tmp 31) rfl ⟨W1.heap.size,20,none⟩ rfl #[.string {data:=#[98,117,115,121]},.bool false,.bool false,.bool false] _ (kd_row hT 20 _ (fun j v h=>by rcases j with _|_|_|_|j<;>first|exact h|(cases h))) Tryz.underlying223 rfl infoKD ?_)
      |(refine wpList_storeW rfl 223 (.tmp 4) (.tmp 32) rfl w2.heap.size 0 _ 223 #[.string {data:=#[98,117,115,121]},.bool false,.bool false,.bool false] rfl rfl (hpNew w2 _) (by simp) infoKD (by rfl) ?_;intro w5 g5 hk5 hz5))
     obtain⟨p5,hb5⟩:=var_new (by simp) g5 hk5
     clear g5 hk5 hz5
     have v0:=cell_keep hb5 u0
     have v1:=cell_keep hb5 u1
     have v2:=cell_keep hb5 u2
     have v3:=cell_keep hb5 u3
     have v4:=cell_keep hb5 u4
     have v5:=cell_keep hb5 u5
     have z1:w5.cell? ⟨w2.heap.size,1,none⟩=some (.bool false):=by rw[hpCell p5];rfl
     have z2:w5.cell? ⟨w2.heap.size,2,none⟩=some (.bool false):=by rw[hpCell p5];rfl
     have z3:w5.cell? ⟨w2.heap.size,3,none⟩=some (.bool false):=by rw[hpCell p5];rfl
     have HB5:=hid (bt HB2.out hb5 (Nat.le_refl _))
     clear u0 u1 u2 u3 u4 u5 p5 hT
     go_quiet (fail)
     by_cases c22:pos=0
     ·have ec22:(pos==0)=true:=b1 c22
      by_cases c23:mask=0
      ·have ec23:(mask==0)=true:=b1 c23
       by_cases c24:ticks=0
       ·have ec24:(ticks==0)=true:=b1 c24
        have HV:Hid ((At.mk lat 5 pos mask ticks value).ok):=by
         exact z40_2
        clear c22 c23 c24
        exact z40_3
       ·have ec24:(ticks==0)=false:=b0 c24
        have HV:Hid (¬(At.mk lat 5 pos mask ticks value).ok):=by
         show ¬_
         rw[At.ok_mk]
         try have:=HPT.out
         omega
        clear c22 c23 c24
        exact z40_1
      ·have ec23:(mask==0)=false:=b0 c23
       have HV:Hid (¬(At.mk lat 5 pos mask ticks value).ok):=by
        show ¬_
        rw[At.ok_mk]
        try have:=HPT.out
        omega
       clear c22 c23
       exact z40_1
     ·have ec22:(pos==0)=false:=b0 c22
      have HV:Hid (¬(At.mk lat 5 pos mask ticks value).ok):=by
       show ¬_
       rw[At.ok_mk]
       try have:=HPT.out
       omega
      clear c22
      exact z40_1
    ·subst hk
     have HPT:=hid (And.intro c1 (And.intro c2 c3))
     clear c1 c2 c3
     go_enter Tryz.func116,Tryz.ntmps116;go_upto_region 1 with(fail);rw[HW1.out];go_upto_region 2 with(go_at_call 152;(with_reducible refine(HK.out _).mono ?_);rintro r w2 ⟨rfl,⟨T,hT⟩,hb2⟩);have u0:=t0 _ hb2;have u1:=t1 _ hb2;have u2:=t2 _ hb2;have u3:=t3 _ hb2;have u4:=t4 _ hb2;have u5:=t5 _ hb2;have HB2:=hid (bt HB1.out hb2 (Nat.le_refl _));clear t0 t1 t2 t3 t4 t5
     go_upto_region 5 with(first
      |(go_at_call 113;(first|(with_reducible refine(HWF.out _).mono ?_)|(with_reducible refine(HWL.out _).mono ?_)|(with_reducible refine(HWV.out _).mono ?_)|(with_reducible refine(HWP.out _).mono ?_)|(with_reducible refine(HWM.out _).mono ?_)|(with_reducible refine(HWT.out _).mono ?_));rintro r w3 ⟨rfl,rfl⟩)
      |(refine wpList_load_atH (by rfl) 223 (.tmp 31) rfl ⟨W1.heap.size,24,none⟩ rfl #[.string {data:=#[103,97,112]},.bool true,.bool false,.bool true] _ (kd_row hT 24 _ (fun j v h=>by rcases j with _|_|_|_|j<;>first|exact h|(cases h))) Tryz.underlying223 rfl infoKD ?_)
      |(refine wpList_storeW rfl 223 (.tmp 4) (.tmp 32) rfl w2.heap.size 0 _ 223 #[.string {data:=#[103,97,112]},.bool true,.bool false,.bool true] rfl rfl (hpNew w2 _) (by simp) infoKD (by rfl) ?_;intro w5 g5 hk5 hz5))
     obtain⟨p5,hb5⟩:=var_new (by simp) g5 hk5
     clear g5 hk5 hz5
     have v0:=cell_keep hb5 u0
     have v1:=cell_keep hb5 u1
     have v2:=cell_keep hb5 u2
     have v3:=cell_keep hb5 u3
     have v4:=cell_keep hb5 u4
     have v5:=cell_keep hb5 u5
     have z1:w5.cell? ⟨w2.heap.size,1,none⟩=some (.bool true):=by rw[hpCell p5];rfl
     have z2:w5.cell? ⟨w2.heap.size,2,none⟩=some (.bool false):=by rw[hpCell p5];rfl
     have z3:w5.cell? ⟨w2.heap.size,3,none⟩=some (.bool true):=by rw[hpCell p5];rfl
     have HB5:=hid (bt HB2.out hb5 (Nat.le_refl _))
     clear u0 u1 u2 u3 u4 u5 p5 hT
     go_quiet (fail)
     by_cases c25:0≤pos∧pos≤255
     ·skip
      have dc25:VP=true:=KVP.out.2 c25
      subst dc25
      clear KVP
      by_cases c26:1≤pos
      ·skip
       by_cases c27:mask=0
       ·have ec27:(mask==0)=true:=b1 c27
        by_cases c28:0≤ticks∧ticks≤5000000
        ·skip
         have dc28:VT=true:=KVT.out.2 c28
         subst dc28
         clear KVT
         have HV:Hid ((At.mk lat 6 pos mask ticks value).ok):=by
          exact z40_2
         clear c25 c27 c28
         exact z40_3
        ·skip
         have dc28:VT=false:=by
          cases VT
          ·rfl
          ·exact absurd (KVT.out.1 rfl) c28
         subst dc28
         clear KVT
         have HV:Hid (¬(At.mk lat 6 pos mask ticks value).ok):=by
          show ¬_
          rw[At.ok_mk]
          try have:=HPT.out
          omega
         clear c25 c27 c28
         exact z40_1
       ·have ec27:(mask==0)=false:=b0 c27
        have HV:Hid (¬(At.mk lat 6 pos mask ticks value).ok):=by
         show ¬_
         rw[At.ok_mk]
         try have:=HPT.out
         omega
        clear c25 c27
        exact z40_1
      ·skip
       have HV:Hid (¬(At.mk lat 6 pos mask ticks value).ok):=by
        show ¬_
        rw[At.ok_mk]
        try have:=HPT.out
        omega
       clear c25
       exact z40_1
     ·skip
      have dc25:VP=false:=by
       cases VP
       ·rfl
       ·exact absurd (KVP.out.1 rfl) c25
      subst dc25
      clear KVP
      have HV:Hid (¬(At.mk lat 6 pos mask ticks value).ok):=by
       show ¬_
       rw[At.ok_mk]
       try have:=HPT.out
       omega
      clear c25
      exact z40_1
   ·skip
    have dc3:VV=false:=by
     cases VV
     ·rfl
     ·exact absurd (KVV.out.1 rfl) c3
    subst dc3
    clear KVV
    have HV:Hid (¬(At.mk lat fault pos mask ticks value).ok):=by
     show ¬_
     rw[At.ok_mk]
     try have:=HPT.out
     omega
    clear c1 c2 c3
    exact z40_4
  ·skip
   have dc2:VL=false:=by
    cases VL
    ·rfl
    ·exact absurd (KVL.out.1 rfl) c2
   subst dc2
   clear KVL
   have HV:Hid (¬(At.mk lat fault pos mask ticks value).ok):=by
    show ¬_
    rw[At.ok_mk]
    try have:=HPT.out
    omega
   clear c1 c2
   exact z40_4
 ·skip
  have dc1:VF=false:=by
   cases VF
   ·rfl
   ·exact absurd (KVF.out.1 rfl) c1
  subst dc1
  clear KVF
  have HV:Hid (¬(At.mk lat fault pos mask ticks value).ok):=by
   show ¬_
   rw[At.ok_mk]
   try have:=HPT.out
   omega
  clear c1
  exact z40_4
end Go.Proofs.YtoaoejaodhedaaaGreat
