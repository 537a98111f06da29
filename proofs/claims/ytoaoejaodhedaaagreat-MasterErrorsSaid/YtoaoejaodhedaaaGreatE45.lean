/-
 Texts 45 of the claim.
-/
import Derived.Test.YtoaoejaodhedaaaGreatE42
namespace Go.Proofs.YtoaoejaodhedaaaGreat
open Go.RowKit
set_option maxHeartbeats 12800000
set_option maxRecDepth 100000
structure Scr where
 ats:List At
 loop:Bool
 cr:List (Int×Int)
def crStep (l:List (Int×Int)) (i:Nat) (x:Int×Int):Prop:=0≤x.1∧x.1≤999999999∧0≤x.2∧x.2≤1000000∧∀y,0<i→l[i-1]?=some y→y.1<x.1
def Scr.ok (s:Scr):Prop:=s.ats.length≤4096∧¬(s.loop=true∧s.ats.length=0)∧s.cr.length≤8∧(∀i x,s.cr[i]?=some x→crStep s.cr i x)∧∀x∈s.ats,x.ok
def ScPost (w:World) (s:Scr) (r:Ending) (w':World):Prop:=∃V:Bool,r=.returned (.bool V)∧Hid (V=true↔s.ok)∧Below w.heap.size w w'
theorem ScPost.no {w w':World} {s:Scr} (h:¬s.ok) (hb:Below w.heap.size w w'):ScPost w s (.returned (.bool false)) w':=⟨false,rfl,⟨fun e=>(by cases e),fun e=>absurd e h⟩,hb⟩
theorem infoCR:(Tryz.prog.info? 161).map (·.size)=some 2:=by kernel_rfl
theorem z44_1 {p:Prop} (h:p:=by
 clear hn0
 go_enter Tryz.func67,Tryz.ntmps67;go_upto_region 1 with(fail);rw[HW1.out]
 go_upto_region 4 with(fail)
 go_loopw [28] (fun kv wr=>∃k:Nat,k≤cn∧kv=.int .i64 k∧Hid (∀i x,i<k→s.cr[i]?=some x→crStep s.cr i x)∧Below W1.heap.size W1 wr) (fun kv _=>cn- (intOf kv).toNat)
 case atStart=>exact⟨0,Nat.zero_le _,rfl,fun i x h=>by omega,k0⟩
 case round=>
  obtain⟨k,hk,rfl,hgd,hbw⟩:=hrel
  have hki:(0:Int)≤(k:Int):=Int.natCast_nonneg _
  clear x0 x1 x2
  by_cases hlt:k<cn
  ·obtain ⟨x,hx⟩:=gs (l:=s.cr) HCN.out hlt
   obtain⟨b,o,c',hv',-,-,hcl⟩:=HC.out.at hx
   rw[HCN.out] at hv'
   simp only[Value.slice.injEq,true_and] at hv'
   obtain⟨rfl,rfl⟩:=hv'
   have hkl:(k:Int)<(cn:Int):=by omega
   have HX:=hid hx
   obtain⟨st,kp⟩:=x
   have hbW:Below w.heap.size w wr:=bt HB1.out hbw (Nat.le_refl _)
   obtain⟨y0,y1⟩:=hcl wr hbW
   dsimp only at y0 y1
   have hrow:∀j v,(#[.int .i64 st,.int .i64 kp]:Array Value).toList[j]?=some v→wr.cell? ((⟨b,o+k*2,none⟩:Addr).add j)=some v:=fun j v hj=>by
    have e:(⟨b,o+k*2,none⟩:Addr).add j=⟨b,o+k*2+j,none⟩:=by unfold Addr.add;split<;>simp_all
    rw[e]
    rcases j with _|_|j
    ·injection hj with hj;rw[←hj];exact y0
    ·injection hj with hj;rw[←hj];exact y1
    ·cases hj
   obtain⟨VS,hVS⟩:∃V:Bool,(V=true↔0≤st∧st≤999999999):=⟨decide (0≤st∧st≤999999999),decide_eq_true_iff⟩
   obtain⟨VK,hVK⟩:∃V:Bool,(V=true↔0≤kp∧kp≤1000000):=⟨decide (0≤kp∧kp≤1000000),decide_eq_true_iff⟩
   have HWS:Hid (∀X,Calls Tryz.prog 113 #[.int .i64 st,.int .i64 999999999] X fun r w'=>r=.returned (.bool VS)∧X=w'):=fun X=>swin_any st 999999999 VS hVS X
   have HWK:Hid (∀X,Calls Tryz.prog 113 #[.int .i64 kp,.int .i64 1000000] X fun r w'=>r=.returned (.bool VK)∧X=w'):=fun X=>swin_any kp 1000000 VK hVK X
   have HVS:=hid hVS
   have HVK:=hid hVK
   have HCL:=hid hcl
   have HLT:=hid hlt
   clear hx hcl hVS hVK y0 y1 hlt
   go_upto_region 6 with(first
    |(refine wpList_load_atH (by rfl) 161 (.tmp 31) rfl ⟨b,o+k*2,none⟩ rfl #[.int .i64 st,.int .i64 kp] _ hrow Tryz.underlying161 rfl infoCR ?_)
    |(refine wpList_storeW rfl 161 (.tmp 4) (.tmp 32) rfl wr.heap.size 0 _ 161 #[.int .i64 st,.int .i64 kp] rfl rfl (hpNew wr _) (by simp) infoCR rfl ?_;intro w5 g5 hk5 hz5))
   obtain⟨p5,hb5⟩:=var_new (by simp) g5 hk5
   clear g5 hk5 hz5 hrow
   have z0:∀X,Below w5.heap.size w5 X→X.cell? ⟨wr.heap.size,0,none⟩=some (.int .i64 st):=fun X h=>hpCell (hpKeep p5 h) 0
   have z1:∀X,Below w5.heap.size w5 X→X.cell? ⟨wr.heap.size,1,none⟩=some (.int .i64 kp):=fun X h=>hpCell (hpKeep p5 h) 1
   have kD:Below w5.heap.size w5 w5.drew:=(Below.refl _ _).drew
   have hB5:Below W1.heap.size W1 w5:=bt hbw hb5 (Nat.le_refl _)
   have x2:=fun X (h:Below w5.heap.size w5 X)=>t2 X (bt hB5 h (Nat.le_refl _))
   have HBW:=hid (bt HB1.out hB5 (Nat.le_refl _))
   have HB5:=hid hB5
   clear p5 hb5 hB5
   cases VS with
   |false=>
    have HV:Hid (¬s.ok):=fun h=>by
     have h5:=h.2.2.2.1 k _ HX.out
     have:=HVS.out.2 ⟨h5.1,h5.2.1⟩
     cases this
    clear HVS HVK HX HCL HLT
    dsimp only[Act.put]
    refine wp_region_held_drew (S:=fun V=>Below w5.heap.size w5 V) (by kernel_rfl) kD (fun hH=>?_)
    clear hH
    refine tkE 0 33 rfl rfl ?_;simp only[setS]
    refine tkE 1 34 rfl rfl ?_;simp only[setS]
    refine rdyH 2 rfl (fun K hK=>?_);go_simp
    refine(HWS.out _).mono ?_
    rintro r wh ⟨rfl,rfl⟩
    refine hK.out _ _ kD (fun hSx=>?_);clear hK K hSx
    refine tkE 3 36 rfl rfl ?_;simp only[setS]
    refine tkE 4 37 rfl rfl ?_;simp only[setS]
    refine tkU 5 38 rfl rfl ?_;simp only[setS]
    refine tkU 6 39 rfl rfl ?_;simp only[setS]
    refine tkU 7 40 rfl rfl ?_;simp only[setS]
    refine tkU 8 41 rfl rfl ?_;simp only[setS]
    refine tkE 9 42 rfl rfl ?_;simp only[setS]
    refine tkE 10 43 rfl rfl ?_;simp only[setS]
    refine tkU 11 44 rfl rfl ?_;simp only[setS]
    refine tkU 12 45 rfl rfl ?_;simp only[setS]
    refine tkU 13 46 rfl rfl ?_;simp only[setS]
    refine tkU 14 47 rfl rfl ?_;simp only[setS]
    refine tkU 15 48 rfl rfl ?_;simp only[setS]
    refine tkU 16 49 rfl rfl ?_;simp only[setS]
    refine tkU 17 50 rfl rfl ?_;simp only[setS]
    refine tkU 18 51 rfl rfl ?_;simp only[setS]
    refine tkU 19 52 rfl rfl ?_;simp only[setS]
    refine tkU 20 53 rfl rfl ?_;simp only[setS]
    refine tkU 21 54 rfl rfl ?_;simp only[setS]
    refine tkU 22 55 rfl rfl ?_;simp only[setS]
    refine tkU 23 56 rfl rfl ?_;simp only[setS]
    refine tkU 24 57 rfl rfl ?_;simp only[setS]
    refine tkE 25 58 rfl rfl ?_;simp only[setS]
    refine wpAnyH_done (by kernel_rfl) ?_ _
    go_wp2
    go_ret
    exact ScPost.no HV.out (bt HBW.out kD (Nat.le_refl _))
   |true=>
    cases VK with
    |false=>
     have HV:Hid (¬s.ok):=fun h=>by
      have h5:=h.2.2.2.1 k _ HX.out
      have:=HVK.out.2 ⟨h5.2.2.1,h5.2.2.2.1⟩
      cases this
     clear HVS HVK HX HCL HLT
     dsimp only[Act.put]
     refine wp_region_held_drew (S:=fun V=>Below w5.heap.size w5 V) (by kernel_rfl) kD (fun hH=>?_)
     clear hH
     refine tkE 0 33 rfl rfl ?_;simp only[setS]
     refine tkE 1 34 rfl rfl ?_;simp only[setS]
     refine rdyH 2 rfl (fun K hK=>?_);go_simp
     refine(HWS.out _).mono ?_
     rintro r wh ⟨rfl,rfl⟩
     refine hK.out _ _ kD (fun hSx=>?_);clear hK K hSx
     refine tkE 3 36 rfl rfl ?_;simp only[setS]
     refine tkE 4 37 rfl rfl ?_;simp only[setS]
     refine tkE 5 38 rfl rfl ?_;simp only[setS]
     refine tkE 6 39 rfl rfl ?_;simp only[setS]
     refine rdyH 7 rfl (fun K hK=>?_);go_simp
     refine(HWK.out _).mono ?_
     rintro r wh ⟨rfl,rfl⟩
     refine hK.out _ _ kD (fun hSx=>?_);clear hK K hSx
     refine tkE 8 41 rfl rfl ?_;simp only[setS]
     refine tkE 9 42 rfl rfl ?_;simp only[setS]
     refine tkE 10 43 rfl rfl ?_;simp only[setS]
     refine tkU 11 44 rfl rfl ?_;simp only[setS]
     refine tkU 12 45 rfl rfl ?_;simp only[setS]
     refine tkU 13 46 rfl rfl ?_;simp only[setS]
     refine tkU 14 47 rfl rfl ?_;simp only[setS]
     refine tkU 15 48 rfl rfl ?_;simp only[setS]
     refine tkU 16 49 rfl rfl ?_;simp only[setS]
     refine tkU 17 50 rfl rfl ?_;simp only[setS]
     refine tkU 18 51 rfl rfl ?_;simp only[setS]
     refine tkU 19 52 rfl rfl ?_;simp only[setS]
     refine tkU 20 53 rfl rfl ?_;simp only[setS]
     refine tkU 21 54 rfl rfl ?_;simp only[setS]
     refine tkU 22 55 rfl rfl ?_;simp only[setS]
     refine tkU 23 56 rfl rfl ?_;simp only[setS]
     refine tkU 24 57 rfl rfl ?_;simp only[setS]
     refine tkE 25 58 rfl rfl ?_;simp only[setS]
     refine wpAnyH_done (by kernel_rfl) ?_ _
     go_wp2
     go_ret
     exact ScPost.no HV.out (bt HBW.out kD (Nat.le_refl _))
    |true=>
     have HS4:Hid (0≤st∧st≤999999999∧0≤kp∧kp≤1000000):=by
      have a1:=HVS.out.1 rfl
      have a2:=HVK.out.1 rfl
      exact⟨a1.1,a1.2,a2.1,a2.2⟩
     clear HVS HVK
     by_cases e0:0<k
     ·have e0i:(0:Int)<(k:Int):=by omega
      obtain⟨km,hkm⟩:∃x,k-1=x:=⟨_,rfl⟩
      have skm:IntKind.i64.wrap ((k:Int)-1)=(km:Int):=(IntWalk.i64_in _ (by omega)).trans (by omega)
      obtain⟨y,hy⟩:=gs (l:=s.cr) HCN.out (show km<cn by have:=HLT.out;omega)
      obtain⟨b',o',c'',hv'',-,-,hcl2⟩:=HC.out.at hy
      rw[HCN.out] at hv''
      simp only[Value.slice.injEq,Option.some.injEq,Addr.mk.injEq,true_and,and_true] at hv''
      obtain⟨⟨rfl,rfl⟩,rfl⟩:=hv''
      obtain⟨ys,yk⟩:=y
      have v0:∀X,Below w5.heap.size w5 X→X.cell? ⟨b,o+km*2,none⟩=some (.int .i64 ys):=fun X h=>(hcl2 X (bt HBW.out h (Nat.le_refl _))).1
      have hkm0:(0:Int)≤(km:Int):=Int.natCast_nonneg _
      have hkml:(km:Int)<(cn:Int):=by omega
      have HY:=hid hy
      have HKM:=hid hkm
      clear hy hcl2 hkm
      by_cases e1:st≤ys
      ·have HV:Hid (¬s.ok):=fun h=>by
        have h5:=(h.2.2.2.1 k _ HX.out).2.2.2.2 (ys,yk) e0 (by rw[HKM.out];exact HY.out)
        exact absurd e1 (by dsimp only at h5;omega)
       clear HX HCL HLT HY HKM
       dsimp only[Act.put]
       refine wp_region_held_drew (S:=fun V=>Below w5.heap.size w5 V) (by kernel_rfl) kD (fun hH=>?_)
       clear hH
       refine tkE 0 33 rfl rfl ?_;simp only[setS]
       refine tkE 1 34 rfl rfl ?_;simp only[setS]
       refine rdyH 2 rfl (fun K hK=>?_);go_simp
       refine(HWS.out _).mono ?_
       rintro r wh ⟨rfl,rfl⟩
       refine hK.out _ _ kD (fun hSx=>?_);clear hK K hSx
       refine tkE 3 36 rfl rfl ?_;simp only[setS]
       refine tkE 4 37 rfl rfl ?_;simp only[setS]
       refine tkE 5 38 rfl rfl ?_;simp only[setS]
       refine tkE 6 39 rfl rfl ?_;simp only[setS]
       refine rdyH 7 rfl (fun K hK=>?_);go_simp
       refine(HWK.out _).mono ?_
       rintro r wh ⟨rfl,rfl⟩
       refine hK.out _ _ kD (fun hSx=>?_);clear hK K hSx
       refine tkE 8 41 rfl rfl ?_;simp only[setS]
       refine tkE 9 42 rfl rfl ?_;simp only[setS]
       refine tkE 10 43 rfl rfl ?_;simp only[setS]
       refine tkE 11 44 rfl rfl ?_;simp only[setS]
       refine tkE 12 45 rfl rfl ?_;simp only[setS]
       refine tkE 13 46 rfl rfl ?_;simp only[setS]
       refine tkE 14 47 rfl rfl ?_;simp only[setS]
       refine tkE 15 48 rfl rfl ?_;simp only[setS]
       refine tkE 16 49 rfl rfl ?_;simp only[setS]
       refine tkE 17 50 rfl rfl ?_;simp only[setS]
       refine tkE 18 51 rfl rfl ?_;simp only[setS]
       refine tkE 19 52 rfl rfl ?_;simp only[setS]
       refine tkE 20 53 rfl rfl ?_;simp only[setS]
       refine tkE 21 54 rfl rfl ?_;simp only[setS]
       refine tkE 22 55 rfl rfl ?_;simp only[setS]
       refine tkE 23 56 rfl rfl ?_;simp only[setS]
       refine tkE 24 57 rfl rfl ?_;simp only[setS]
       refine tkE 25 58 rfl rfl ?_;simp only[setS]
       refine wpAnyH_done (by kernel_rfl) ?_ _
       go_wp2
       go_ret
       exact ScPost.no HV.out (bt HBW.out kD (Nat.le_refl _))
      ·have HST:Hid (crStep s.cr k (st,kp)):=⟨HS4.out.1,HS4.out.2.1,HS4.out.2.2.1,HS4.out.2.2.2,fun y h1 h2=>by
        rw[HKM.out,HY.out] at h2
        injection h2 with h2
        rw[←h2]
        show ys<st
        omega⟩
       clear HCL HY HKM
       dsimp only[Act.put]
       refine wp_region_held_drew (S:=fun V=>Below w5.heap.size w5 V) (by kernel_rfl) kD (fun hH=>?_)
       clear hH
       refine tkE 0 33 rfl rfl ?_;simp only[setS]
       refine tkE 1 34 rfl rfl ?_;simp only[setS]
       refine rdyH 2 rfl (fun K hK=>?_);go_simp
       refine(HWS.out _).mono ?_
       rintro r wh ⟨rfl,rfl⟩
       refine hK.out _ _ kD (fun hSx=>?_);clear hK K hSx
       refine tkE 3 36 rfl rfl ?_;simp only[setS]
       refine tkE 4 37 rfl rfl ?_;simp only[setS]
       refine tkE 5 38 rfl rfl ?_;simp only[setS]
       refine tkE 6 39 rfl rfl ?_;simp only[setS]
       refine rdyH 7 rfl (fun K hK=>?_);go_simp
       refine(HWK.out _).mono ?_
       rintro r wh ⟨rfl,rfl⟩
       refine hK.out _ _ kD (fun hSx=>?_);clear hK K hSx
       refine tkE 8 41 rfl rfl ?_;simp only[setS]
       refine tkE 9 42 rfl rfl ?_;simp only[setS]
       refine tkE 10 43 rfl rfl ?_;simp only[setS]
       refine tkE 11 44 rfl rfl ?_;simp only[setS]
       refine tkE 12 45 rfl rfl ?_;simp only[setS]
       refine tkE 13 46 rfl rfl ?_;simp only[setS]
       refine tkE 14 47 rfl rfl ?_;simp only[setS]
       refine tkE 15 48 rfl rfl ?_;simp only[setS]
       refine tkE 16 49 rfl rfl ?_;simp only[setS]
       refine tkE 17 50 rfl rfl ?_;simp only[setS]
       refine tkE 18 51 rfl rfl ?_;simp only[setS]
       refine tkE 19 52 rfl rfl ?_;simp only[setS]
       refine tkE 20 53 rfl rfl ?_;simp only[setS]
       refine tkE 21 54 rfl rfl ?_;simp only[setS]
       refine tkE 22 55 rfl rfl ?_;simp only[setS]
       refine tkE 23 56 rfl rfl ?_;simp only[setS]
       refine tkE 24 57 rfl rfl ?_;simp only[setS]
       refine tkE 25 58 rfl rfl ?_;simp only[setS]
       refine wpAnyH_done (by kernel_rfl) ?_ _
       go_wp2
       go_roundw
       case rel=>exact⟨k+1,by have:=HLT.out;omega,by go_num,fun i x h1 h2=>by
        by_cases e:i=k
        ·subst e
         rw[HX.out] at h2
         injection h2 with h2
         rw[←h2]
         exact HST.out
        ·exact hgd.out i x (by omega) h2,bt HB5.out kD (Nat.le_refl _)⟩
       case measure=>have:=HLT.out;simp [intOf];omega
     ·have e0i:¬(0:Int)<(k:Int):=by omega
      have HST:Hid (crStep s.cr k (st,kp)):=⟨HS4.out.1,HS4.out.2.1,HS4.out.2.2.1,HS4.out.2.2.2,fun y h1 h2=>absurd h1 e0⟩
      clear HCL
      dsimp only[Act.put]
      refine wp_region_held_drew (S:=fun V=>Below w5.heap.size w5 V) (by kernel_rfl) kD (fun hH=>?_)
      clear hH
      refine tkE 0 33 rfl rfl ?_;simp only[setS]
      refine tkE 1 34 rfl rfl ?_;simp only[setS]
      refine rdyH 2 rfl (fun K hK=>?_);go_simp
      refine(HWS.out _).mono ?_
      rintro r wh ⟨rfl,rfl⟩
      refine hK.out _ _ kD (fun hSx=>?_);clear hK K hSx
      refine tkE 3 36 rfl rfl ?_;simp only[setS]
      refine tkE 4 37 rfl rfl ?_;simp only[setS]
      refine tkE 5 38 rfl rfl ?_;simp only[setS]
      refine tkE 6 39 rfl rfl ?_;simp only[setS]
      refine rdyH 7 rfl (fun K hK=>?_);go_simp
      refine(HWK.out _).mono ?_
      rintro r wh ⟨rfl,rfl⟩
      refine hK.out _ _ kD (fun hSx=>?_);clear hK K hSx
      refine tkE 8 41 rfl rfl ?_;simp only[setS]
      refine tkE 9 42 rfl rfl ?_;simp only[setS]
      refine tkE 10 43 rfl rfl ?_;simp only[setS]
      refine tkE 11 44 rfl rfl ?_;simp only[setS]
      refine tkE 12 45 rfl rfl ?_;simp only[setS]
      refine tkE 13 46 rfl rfl ?_;simp only[setS]
      refine tkU 14 47 rfl rfl ?_;simp only[setS]
      refine tkU 15 48 rfl rfl ?_;simp only[setS]
      refine tkU 16 49 rfl rfl ?_;simp only[setS]
      refine tkU 17 50 rfl rfl ?_;simp only[setS]
      refine tkU 18 51 rfl rfl ?_;simp only[setS]
      refine tkU 19 52 rfl rfl ?_;simp only[setS]
      refine tkU 20 53 rfl rfl ?_;simp only[setS]
      refine tkU 21 54 rfl rfl ?_;simp only[setS]
      refine tkU 22 55 rfl rfl ?_;simp only[setS]
      refine tkU 23 56 rfl rfl ?_;simp only[setS]
      refine tkE 24 57 rfl rfl ?_;simp only[setS]
      refine tkE 25 58 rfl rfl ?_;simp only[setS]
      refine wpAnyH_done (by kernel_rfl) ?_ _
      go_wp2
      go_roundw
      case rel=>exact⟨k+1,by have:=HLT.out;omega,by go_num,fun i x h1 h2=>by
       by_cases e:i=k
       ·subst e
        rw[HX.out] at h2
        injection h2 with h2
        rw[←h2]
        exact HST.out
       ·exact hgd.out i x (by omega) h2,bt HB5.out kD (Nat.le_refl _)⟩
      case measure=>have:=HLT.out;simp [intOf];omega
  ·obtain rfl:k=cn:=by omega
   have x0:=t0 _ hbw
   have HBW:=hid (bt HB1.out hbw (Nat.le_refl _))
   have HCR:Hid (∀i x,s.cr[i]?=some x→crStep s.cr i x):=fun i x h=>hgd.out i x (by have:=(List.getElem?_eq_some_iff.1 h).1;have:=HCN.out;omega) h
   go_wp2_with (go_at_call 114;(with_reducible refine(HKC.out _ HBW.out).mono ?_);rintro r w2 ⟨rfl,hb2⟩)
   go_ret
   refine⟨!AV,rfl,?_,bt HBW.out hb2 (Nat.le_refl _)⟩
   have hA:=HAV.out
   show _↔_
   constructor
   ·intro h
    have hf:AV=false:=by cases AV<;>simp_all
    refine⟨HALL.out.1,HALL.out.2.1,HALL.out.2.2,HCR.out,fun x hx=>?_⟩
    by_cases e:x.ok
    ·exact e
    ·have:=hA.2 ⟨x,hx,e⟩
     rw[hf] at this
     cases this
   ·intro h
    cases e:AV with
    |false=>rfl
    |true=>
     obtain⟨x,hx,hn⟩:=hA.1 e
     exact absurd (h.2.2.2.2 x hx) hn):p:=h
theorem pscr_any (s:Scr) (av cv:Value) (w:World) (ha:Ats w av s.ats) (hc:Rgs w cv s.cr):Calls Tryz.prog 67 #[.agg #[av,.bool s.loop,cv]] w (ScPost w s):=by
 obtain⟨aa,ac,rfl,-⟩:=id ha
 obtain⟨ca,cc,rfl,hc1,hc2,-⟩:=id hc
 obtain⟨an,han⟩:∃n,s.ats.length=n:=⟨_,rfl⟩
 obtain⟨cn,hcn⟩:∃n,s.cr.length=n:=⟨_,rfl⟩
 obtain⟨lp,hlp⟩:∃b,s.loop=b:=⟨_,rfl⟩
 rw[han] at ha ⊢
 rw[hcn] at hc hc1 ⊢
 rw[hlp]
 have hcap:cn≤9223372036854775807:=by unfold maxLen at hc2;omega
 have HAN:=hid han
 have HCN:=hid hcn
 have HLP:=hid hlp
 have HA:=hid ha
 have HC:=hid hc
 obtain⟨W1,hW1⟩:∃W,w.alloc (.cells #[.slice aa an ac,.bool lp,.slice ca cn cc] 32)=W:=⟨_,rfl⟩
 have hb1:Below w.heap.size w W1:=by rw[←hW1];exact bal' w _
 have pS:W1.heap[w.heap.size]?=some (.cells #[.slice aa an ac,.bool lp,.slice ca cn cc] 32):=by rw[←hW1];exact hpNew w _
 have t0:∀X,Below W1.heap.size W1 X→X.cell? ⟨w.heap.size,0,none⟩=some (.slice aa an ac):=fun X h=>hpCell (hpKeep pS h) 0
 have t1:∀X,Below W1.heap.size W1 X→X.cell? ⟨w.heap.size,1,none⟩=some (.bool lp):=fun X h=>hpCell (hpKeep pS h) 1
 have t2:∀X,Below W1.heap.size W1 X→X.cell? ⟨w.heap.size,2,none⟩=some (.slice ca cn cc):=fun X h=>hpCell (hpKeep pS h) 2
 have k0:Below W1.heap.size W1 W1:=Below.refl _ _
 have HW1:=hid hW1
 have HB1:=hid hb1
 have x0:=t0 _ k0
 have x1:=t1 _ k0
 have x2:=t2 _ k0
 clear hW1 hb1 pS han hcn hlp ha hc hc1 hc2
 by_cases h1:4096<an
 ·have q1:(4096:Int)<(an:Int):=by omega
  have HV:Hid (¬s.ok):=fun h=>by have:=h.1;have:=HAN.out;omega
  go_enter Tryz.func67,Tryz.ntmps67;go_upto_region 1 with(fail);rw[HW1.out]
  go_wp2
  go_ret
  exact ScPost.no HV.out HB1.out
 have q1:¬(4096:Int)<(an:Int):=by omega
 have HLO:Hid (¬(lp=true∧an=0))∨(lp=true∧an=0):=by
  by_cases e:lp=true∧an=0
  ·exact .inr e
  ·exact .inl e
 rcases HLO with HLO|⟨e1,e2⟩
 case inr=>
  have HV:Hid (¬s.ok):=fun h=>h.2.1 ⟨HLP.out.trans e1,HAN.out.trans e2⟩
  subst e1 e2
  go_enter Tryz.func67,Tryz.ntmps67;go_upto_region 1 with(fail);rw[HW1.out]
  go_wp2
  go_ret
  exact ScPost.no HV.out HB1.out
 have HGO:Hid (∀(Q:Prop),(lp=false→Q)→(lp=true→an≠0→Q)→Q):=fun Q a b=>by
  cases e:lp with
  |false=>exact a e
  |true=>exact b e (fun h=>HLO.out ⟨e,h⟩)
 obtain⟨NZ,hNZ,hNZ2⟩:∃NZ:Bool,((an:Int)==0)=NZ∧(lp&&NZ)=false:=by
  cases e:lp with
  |false=>exact⟨_,rfl,rfl⟩
  |true=>exact⟨false,b0 (fun h=>HLO.out ⟨e,by omega⟩),rfl⟩
 by_cases h3:8<cn
 ·have q3:(8:Int)<(cn:Int):=by omega
  have HV:Hid (¬s.ok):=fun h=>by have:=h.2.2.1;have:=HCN.out;omega
  refine HGO.out _ (fun e=>?_) (fun e1 e2=>?_)
  ·subst e
   clear HGO HLO hNZ hNZ2
   go_enter Tryz.func67,Tryz.ntmps67;go_upto_region 1 with(fail);rw[HW1.out]
   go_wp2
   go_ret
   exact ScPost.no HV.out HB1.out
  ·subst e1
   have e3:((an:Int)==0)=false:=b0 (by omega)
   clear HGO HLO hNZ hNZ2
   go_enter Tryz.func67,Tryz.ntmps67;go_upto_region 1 with(fail);rw[HW1.out]
   go_wp2
   go_ret
   exact ScPost.no HV.out HB1.out
 have q3:¬(8:Int)<(cn:Int):=by omega
 have HALL:Hid (s.ats.length≤4096∧¬(s.loop=true∧s.ats.length=0)∧s.cr.length≤8):=by
  show _∧_
  rw[HAN.out,HCN.out,HLP.out]
  exact⟨by omega,HLO.out,by omega⟩
 obtain⟨AV,hAV⟩:∃B:Bool,(B=true↔∃x∈s.ats,¬x.ok):=by
  by_cases e:∃x∈s.ats,¬x.ok
  ·exact ⟨true,fun _=>e,fun _=>rfl⟩
  ·exact ⟨false,fun h=>(by cases h),fun h=>absurd h e⟩
 have HKC:Hid (∀X,Below w.heap.size w X→Calls Tryz.prog 114 #[.slice aa an ac,.func (.func 115) #[] #[]] X (BoolPost X AV)):=fun X hX=>contA_any aa an ac s.ats X (HA.out.keep hX) AV hAV
 have HAV:=hid hAV
 clear hAV HLO hNZ hNZ2
 have GO:∀(lp0:Bool),lp0=lp→(lp=false∨(lp=true∧an≠0))→Calls Tryz.prog 67 #[.agg #[.slice aa an ac,.bool lp,.slice ca cn cc]] w (ScPost w s):=fun _ _ hor=>by
  obtain⟨n0,hn0⟩:∃b:Bool,b=decide (an=0):=⟨_,rfl⟩
  clear HGO
  rcases hor with e|⟨e,e2⟩
  ·subst e
   exact z44_1
  ·subst e
   have e3:((an:Int)==0)=false:=b0 (by omega)
   exact z44_1
 exact HGO.out _ (fun e=>GO lp rfl (.inl e)) (fun e1 e2=>GO lp rfl (.inr ⟨e1,e2⟩))
end Go.Proofs.YtoaoejaodhedaaaGreat
