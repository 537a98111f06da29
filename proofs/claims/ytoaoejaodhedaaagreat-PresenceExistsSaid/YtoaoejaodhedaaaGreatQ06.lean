import Derived.Test.YtoaoejaodhedaaaGreatQ05
namespace Go.Proofs.YtoaoejaodhedaaaGreat
open Go.RowKit
set_option maxHeartbeats 12800000
set_option maxRecDepth 100000
def Tbl.val (t:Tbl) (k:Nat):Prop:=(t.sup=false→t.rd.length=0∧t.most=0)∧(t.sup=true→t.rd.length≤32∧rgsFrom (-1) t.rd=true∧1≤t.most∧t.most≤limI ((k:Nat)+1))
structure Sl.val (s:Sl):Prop where
 set:Okset s.bd s.pa
 un:1≤s.un∧s.un≤247
 lv:0≤s.lv∧s.lv≤3
 tb:∀k,k<4→(s.ts k).val k
 l0:s.lv=0→s.objs.length=0
 sv:s.hs=true↔0<s.sd.length
 sl:s.sd.length≤64
 on:0<s.lv→s.objs.length≤16∧3≤s.objs.length
 ri:0<s.lv→rises (-1) s.objs=true
 o2:0<s.lv→∀x,s.objs[2]?=some x→x.id=2
 top:0<s.lv→∀x,s.objs[s.objs.length-1]?=some x→(s.lv=1→x.id≤2)∧(s.lv=2→x.id≤127)
 vl:0<s.lv→∀(i:Nat) (x:Ob),s.objs[i]?=some x→x.val.length≤64
def SlvPost (w:World) (s:Sl) (r:Ending) (w':World):Prop:=∃V:Bool,r=.returned (.bool V)∧Hid (V=true↔s.val)∧Below w.heap.size w w'
theorem SlvPost.no {w w':World} {s:Sl} (h:¬s.val) (hb:Below w.heap.size w w'):SlvPost w s (.returned (.bool false)) w':=⟨false,rfl,⟨fun e=>(by cases e),fun e=>absurd e h⟩,hb⟩
theorem SlvPost.yes {w w':World} {s:Sl} (h:s.val) (hb:Below w.heap.size w w'):SlvPost w s (.returned (.bool true)) w':=⟨true,rfl,⟨fun _=>h,fun _=>rfl⟩,hb⟩
theorem rvalid_yes {b p:Int} (h:Okset b p) (X:World):Calls Tryz.prog 93 #[.agg #[.int .i64 b,.int .i64 p]] X (BoolPost X true):=(rvalid_set b p X).mono fun _ _ ⟨V,h1,h2,h3⟩=>⟨by rw[h1,h2.out.2 h],h3⟩
theorem rvalid_no {b p:Int} (h:¬Okset b p) (X:World):Calls Tryz.prog 93 #[.agg #[.int .i64 b,.int .i64 p]] X (BoolPost X false):=(rvalid_set b p X).mono fun _ _ ⟨V,h1,h2,h3⟩=>⟨by rw[h1];cases V with|true=>exact absurd (h2.out.1 rfl) h|false=>rfl,h3⟩
theorem z05_1 {p:Prop} (h:p:=by
 clear c1
 go_wp2_with (go_at_call 95;(with_reducible refine HRI.out.mono ?_);rintro r w3 ⟨rfl,hb3⟩)
 go_loopw [6] (fun iv wi=>∃k:Nat,k≤on∧iv=.int .i64 (k:Int)∧Hid (∀(i:Nat) (x:Ob),i<k→s.objs[i]?=some x→x.val.length≤64)∧w3=wi) (fun iv _=>on- (intOf iv).toNat)
 case atStart=>exact⟨0,Nat.zero_le _,rfl,fun i x h=>absurd h (Nat.not_lt_zero _),rfl⟩
 case round=>
  obtain⟨k,hk,rfl,hvl,rfl⟩:=hrel
  have hki:(0:Int)≤(k:Int):=Int.natCast_nonneg _
  have v16':=v16 w3 hb3
  by_cases hlt:k<on
  ·obtain ⟨x,hx⟩:=gs (l:=s.objs) HON.out hlt
   obtain⟨b',o',xa,xc,ha',-,z1,-⟩:=HEL.out k x hx
   cases ha'
   have y1:w3.cell? ⟨b,o+k*2+1,none⟩=some (.slice xa x.val.length xc):=bD (bU HBW.out hb3) z1
   have hkl:(k:Int)<(on:Int):=by omega
   obtain⟨xn,hxn⟩:=gE x.val.length
   rw[hxn] at y1
   have HX:=bC hx
   have HXN:=bC hxn
   clear z1 hx hxn y2 yj v15 v16
   by_cases h64x:(64:Int)<(xn:Int)
   ·have HK:Hid (¬s.val):=fun h=>by have:=h.vl HLP.out k x HX.out;rw[HXN.out] at this;omega
    go_wp2
    go_ret
    exact SlvPost.no HK.out (bU HBW.out hb3)
   ·have HV2:Hid (∀(i:Nat) (x:Ob),i<k+1→s.objs[i]?=some x→x.val.length≤64):=fun i y hi hy=>by
     by_cases e:i=k
     ·subst e
      have h1:=HX.out
      rw[hy] at h1
      cases h1
      rw[HXN.out]
      omega
     ·exact hvl.out i y (by omega) hy
    go_wp2
    go_roundw
    case rel=>exact⟨k+1,by omega,by go_num,HV2.out,trivial⟩
    case measure=>simp [intOf];omega
  ·obtain rfl:k=on:=by omega
   have HK:Hid s.val:=HALL.out fun i x hx=>hvl.out i x (by have:=(List.getElem?_eq_some_iff.1 hx).1;rw[HON.out] at this;exact this) hx
   clear y2 yj v15 v16
   go_wp2
   go_ret
   exact SlvPost.yes HK.out (bU HBW.out hb3)):p:=h
theorem z05_2 {p:Prop} (h:p:=by
 cases H<;>cases P
 case true.false=>
  have HE:Hid (true=VB):=by rw[←hvb];cases (decide (64<sn))<;>rfl
  have hp:=HP.out
  clear hvb
  go_wp2
  go_meet
  case rel=>exact⟨by rw[←HE.out],rfl⟩
 case false.true=>
  have HE:Hid (true=VB):=by rw[←hvb];cases (decide (64<sn))<;>rfl
  have hp:=HP.out
  clear hvb
  go_wp2
  go_meet
  case rel=>exact⟨by rw[←HE.out],rfl⟩
 all_goals
  have hp:=HP.out
  by_cases h64:64<sn
  ·have HE:Hid (true=VB):=by rw[←hvb,decide_eq_true h64];rfl
   clear hvb
   go_wp2
   go_meet
   case rel=>exact⟨by rw[←HE.out,decide_eq_true (by omega:(64:Int)<(sn:Int))],rfl⟩
  ·have HE:Hid (false=VB):=by rw[←hvb,decide_eq_false h64];rfl
   clear hvb
   go_wp2
   go_meet
   case rel=>exact⟨by rw[←HE.out,decide_eq_false (by omega:¬(64:Int)<(sn:Int))],rfl⟩):p:=h
theorem z05_3 {p:Prop} (h:p:=by
 have HNO:Hid (¬s.val):=fun h=>by have:=h.lv;omega
 clear t16 t17 t18
 go_enter Tryz.func53,Tryz.ntmps53
 go_upto_region 1 with(fail)
 rw[HW1.out]
 go_wp2_with (go_at_call 93;(with_reducible refine(HV.out _).mono ?_);rintro r w2 ⟨rfl,hb2⟩)
 go_ret
 exact SlvPost.no HNO.out (bU HB1.out hb2)):p:=h
theorem z05_4 {p:Prop} (h:p:=by
 have HNO:Hid (¬s.val):=fun h=>by have:=h.un;omega
 clear t16 t17 t18
 go_enter Tryz.func53,Tryz.ntmps53
 go_upto_region 1 with(fail)
 rw[HW1.out]
 go_wp2_with (go_at_call 93;(with_reducible refine(HV.out _).mono ?_);rintro r w2 ⟨rfl,hb2⟩)
 go_ret
 exact SlvPost.no HNO.out (bU HB1.out hb2)):p:=h
theorem z05_5 {p:Prop} (h:p:=by
 refine tG 17 70 ?_;refine tG 18 71 ?_
 refine tU 19 72 ?_;refine tU 20 73 ?_;refine tU 21 74 ?_;refine tU 22 75 ?_;refine tU 23 76 ?_;refine tU 24 77 ?_
 refine tG 25 78 ?_;refine tG 26 79 ?_;refine wpAnyH_done (by kernel_rfl) ?_ _
 go_wp2
 go_ret
 exact SlvPost.no HK.out (bU HBX.out hB5)):p:=h
theorem rslave_any (s:Sl) (rv:Nat→Value) (ov sv:Value) (w:World) (hR:SlR w s rv ov sv):
  Calls Tryz.prog 53 #[.agg (SlC s rv ov sv)] w (SlvPost w s):=by
 obtain⟨oa,oc,rfl,-⟩:=id hR.ob;obtain⟨sa,sc,rfl,-⟩:=id hR.sd;obtain⟨on,hon⟩:=gE s.objs.length;obtain⟨sn,hsn⟩:=gE s.sd.length;have hcap:=hR.ob.len;rw[hon] at hcap;unfold maxLen at hcap;rw[hon,hsn] at hR ⊢;obtain⟨H,hH⟩:=gE s.hs;have hSL:SlC s rv (.slice oa on oc) (.slice sa sn sc)=#[.int .i64 s.bd,.int .i64 s.pa,.int .i64 s.un,.bool (s.ts 0).sup,rv 0,.int .i64 (s.ts 0).most,.bool (s.ts 1).sup,rv 1,.int .i64 (s.ts 1).most,.bool (s.ts 2).sup,rv 2,.int .i64 (s.ts 2).most,.bool (s.ts 3).sup,rv 3,.int .i64 (s.ts 3).most,.int .i64 s.lv,.slice oa on oc,.bool H,.slice sa sn sc]:=by unfold SlC;rw[hH]
 rw[hSL];obtain⟨W1,hW1⟩:∃W,w.alloc (.cells #[.int .i64 s.bd,.int .i64 s.pa,.int .i64 s.un,.bool (s.ts 0).sup,rv 0,.int .i64 (s.ts 0).most,.bool (s.ts 1).sup,rv 1,.int .i64 (s.ts 1).most,.bool (s.ts 2).sup,rv 2,.int .i64 (s.ts 2).most,.bool (s.ts 3).sup,rv 3,.int .i64 (s.ts 3).most,.int .i64 s.lv,.slice oa on oc,.bool H,.slice sa sn sc] 68)=W:=⟨_,rfl⟩
 have hb1:Below w.heap.size w W1:=by rw[←hW1];exact bH w _
 have pS:W1.heap[w.heap.size]?=some (.cells (SlC s rv (.slice oa on oc) (.slice sa sn sc)) 68):=by rw[hSL,←hW1];exact bI w _
 have t0:∀X,Below W1.heap.size W1 X→X.cell? ⟨w.heap.size,0,none⟩=some (.int .i64 s.bd):=fun X h=>bA (bB pS h) 0
 have t1:∀X,Below W1.heap.size W1 X→X.cell? ⟨w.heap.size,1,none⟩=some (.int .i64 s.pa):=fun X h=>bA (bB pS h) 1
 have t2:∀X,Below W1.heap.size W1 X→X.cell? ⟨w.heap.size,2,none⟩=some (.int .i64 s.un):=fun X h=>bA (bB pS h) 2
 have t15:∀X,Below W1.heap.size W1 X→X.cell? ⟨w.heap.size,15,none⟩=some (.int .i64 s.lv):=fun X h=>bA (bB pS h) 15
 have t16:∀X,Below W1.heap.size W1 X→X.cell? ⟨w.heap.size,16,none⟩=some (.slice oa on oc):=fun X h=>bA (bB pS h) 16
 have t17:∀X,Below W1.heap.size W1 X→X.cell? ⟨w.heap.size,17,none⟩=some (.bool H):=fun X h=>by rw[←hH];exact bA (bB pS h) 17
 have t18:∀X,Below W1.heap.size W1 X→X.cell? ⟨w.heap.size,18,none⟩=some (.slice sa sn sc):=fun X h=>bA (bB pS h) 18
 have k0:Below W1.heap.size W1 W1:=Below.refl _ _;have HW1:=bC hW1;have HB1:=bC hb1;have PS:=bC pS;have HON:=bC hon;have HSN:=bC hsn;have HH:=bC hH;have HR:=bC hR;have u0:=t0 W1 k0;have u1:=t1 W1 k0;have u2:=t2 W1 k0;have u15:=t15 W1 k0;clear hW1 hb1 pS hon hsn hSL hH hR;by_cases hS:Okset s.bd s.pa
 case neg=>
  have HV:=bC (rvalid_no hS);have HNO:Hid (¬s.val):=fun h=>hS h.set
  clear hS t0 t1 t2 t15 t16 t17 t18;go_enter Tryz.func53,Tryz.ntmps53;go_upto_region 1 with(fail)
  rw[HW1.out];go_wp2_with (go_at_call 93;(with_reducible refine(HV.out _).mono ?_);rintro r w2 ⟨rfl,hb2⟩);go_ret;exact SlvPost.no HNO.out (bU HB1.out hb2)
 have HV:=bC (rvalid_yes hS);have HS:=bC hS;clear hS;by_cases hu1:s.un<1
 case pos=>
  exact z05_4
 by_cases hu2:247<s.un
 case pos=>
  exact z05_4
 by_cases hl1:s.lv<0
 case pos=>
  exact z05_3
 by_cases hl2:3<s.lv
 case pos=>
  exact z05_3
 have HU:Hid (1≤s.un∧s.un≤247∧0≤s.lv∧s.lv≤3):=by show _∧_;omega
 go_enter Tryz.func53,Tryz.ntmps53;go_upto_region 1 with(fail)
 rw[HW1.out];go_upto_region 3 with(go_at_call 93;(with_reducible refine(HV.out _).mono ?_);rintro r w2 ⟨rfl,hb2⟩)
 have HB2:=bC hb2;clear u0 u1 u2 u15 t0 t1 t2 hu1 hu2 hl1 hl2 HV;go_wp2_with fail;go_loopw [3] (fun iv wr=>∃k:Nat,k≤4∧iv=.int .i64 (k:Int)∧Hid (∀i,i<k→(s.ts i).val i)∧Below W1.heap.size W1 wr) (fun iv _=>4- (intOf iv).toNat)
 case atStart=>exact⟨0,by omega,rfl,fun i hi=>absurd hi (by omega),hb2⟩
 case round=>
  obtain⟨k,hk,rfl,htv,hbw⟩:=hrel;have hki:(0:Int)≤(k:Int):=Int.natCast_nonneg _;by_cases hlt:k<4
  ·have hkl:(k:Int)<4:=by omega
   obtain⟨ra,rc,hrv,-⟩:=id (HR.out.rg k hlt);obtain⟨rn,hrn⟩:=gE ((s.ts k).rd.length);obtain⟨SU,hsu⟩:=gE ((s.ts k).sup);obtain⟨mo,hmo⟩:=gE ((s.ts k).most);rw[hrn] at hrv;obtain⟨y0,y1,y2⟩:=SlC_tab s rv _ _ (bB PS.out hbw) hlt;rw[hrv] at y1;rw[hsu] at y0;rw[hmo] at y2;obtain⟨WX,hWX,hbx,px⟩:=alQ wr (.cells #[.bool SU,.slice ra rn rc,.int .i64 mo] 65);have x0:=cF px 0 rfl;have x1:=cF px 1 rfl;have x2:=cF px 2 rfl;have hbX:Below w.heap.size w WX:=bU (bU HB1.out hbw) hbx;have hbY:=bU hbw hbx;have kx:Below WX.heap.size WX WX:=Below.refl _ _;have kD:Below WX.heap.size WX WX.drew:=(Below.refl _ _).drew;have HRG:Hid (∀X,Below WX.heap.size WX X→Rgs X (.slice ra rn rc) (s.ts k).rd):=fun X h=>by rw[←hrv];exact((HR.out.rg k hlt).keep hbX).keep h
   have HTV:Hid ((s.ts k).val k↔(SU=false→rn=0∧mo=0)∧(SU=true→rn≤32∧rgsFrom (-1) (s.ts k).rd=true∧1≤mo∧mo≤limI ((k:Nat)+1))):=by
    show _↔_;rw[←hsu,←hrn,←hmo];exact Iff.rfl
   have HNT:Hid (¬(s.ts k).val k→¬s.val):=fun h e=>h (e.tb k hlt)
   have HNX:Hid ((s.ts k).val k→∀i,i<k+1→(s.ts i).val i):=fun h i hi=>by
    by_cases e:i=k
    ·subst e;exact h
    ·exact htv.out i (by omega)
   have HBX:=bC hbX;have HBY:=bC hbY;have HWX:=bC hWX;have hrcap:rn≤9223372036854775807:=by
    have h1:=(HR.out.rg k hlt)
    rw[hrv] at h1;obtain⟨_,_,e,h2,h3,_⟩:=h1;unfold maxLen at h3;cases e;omega
   clear hrv hrn hsu hmo hWX px hbX hbY htv;cases SU with
   |false=>
    have d9:∀z,Hid z→z:=fun z h=>h.out
    by_cases hr0:rn=0
    ·by_cases hm0:mo=0
     ·have e1:((rn:Int) !=0)=false:=by rw[bne_eq_false_iff_eq];omega
      have e2:(mo !=0)=false:=by rw[bne_eq_false_iff_eq];exact hm0
      have HK:Hid ((s.ts k).val k):=HTV.out.2 ⟨fun _=>⟨hr0,hm0⟩,fun e=>(by cases e)⟩;clear hr0 hm0 d9;go_upto_region 7 with(fail)
      rw[HWX.out];clear y0 y1 y2;go_upto_region 9 with(fail)
      go_quiet (fail);go_wp2;go_roundw
      case rel=>exact⟨k+1,by omega,by go_num,HNX.out HK.out,below_drewN HBY.out _⟩
      case measure=>simp [intOf];omega
     ·have e1:((rn:Int) !=0)=false:=by rw[bne_eq_false_iff_eq];omega
      have e2:(mo !=0)=true:=by rw[bne_iff_ne];exact hm0
      have HK:Hid (¬s.val):=HNT.out fun h=>hm0 ((HTV.out.1 h).1 rfl).2
      clear hr0 hm0 d9;go_upto_region 7 with(fail)
      rw[HWX.out];clear y0 y1 y2;go_wp2;go_ret;exact SlvPost.no HK.out HBX.out
    ·have e1:((rn:Int) !=0)=true:=by rw[bne_iff_ne];omega
     have HK:Hid (¬s.val):=HNT.out fun h=>hr0 ((HTV.out.1 h).1 rfl).1
     clear hr0 d9;go_upto_region 7 with(fail)
     rw[HWX.out];clear y0 y1 y2;go_wp2;go_ret;exact SlvPost.no HK.out HBX.out
   |true=>
    have s1:IntKind.i64.wrap ((k:Int)+1)=(k:Int)+1:=IntWalk.i64_in _ (by omega);have HLM:Hid (∀X,Calls Tryz.prog 79 #[.int .i64 ((k:Int)+1)] X fun r w'=>r=.returned (.int .i64 (limI ((k:Int)+1)))∧X=w'):=fun X=>rlimit_any _ X
    by_cases hr32:32<rn
    ·have e1:(decide ((32:Int)<(rn:Int)))=true:=decide_eq_true (by omega)
     have HK:Hid (¬s.val):=HNT.out fun h=>by have:=((HTV.out.1 h).2 rfl).1;omega
     clear hr32;go_upto_region 7 with(fail)
     rw[HWX.out];clear y0 y1 y2;go_upto_region 9 with(fail)
     refine wp_region_held_drew (S:=fun V=>Below WX.heap.size WX V) (by kernel_rfl) kD (fun hH=>?_);refine tG 0 53 ?_;refine tG 1 54 ?_;refine tG 2 55 ?_;refine tG 3 56 ?_;refine tG 4 57 ?_;refine tG 5 58 ?_;refine tG 6 59 ?_;refine tG 7 60 ?_;refine tU 8 61 ?_;refine tU 9 62 ?_;refine tU 10 63 ?_;refine tU 11 64 ?_;refine tG 12 65 ?_;refine tG 13 66 ?_;refine tU 14 67 ?_;refine tU 15 68 ?_;refine tU 16 69 ?_;refine tG 17 70 ?_;refine tG 18 71 ?_;refine tU 19 72 ?_;refine tU 20 73 ?_;refine tU 21 74 ?_;refine tU 22 75 ?_;refine tU 23 76 ?_;refine tU 24 77 ?_;refine tG 25 78 ?_;refine tG 26 79 ?_;refine wpAnyH_done (by kernel_rfl) ?_ _;go_wp2;go_ret;exact SlvPost.no HK.out (bU HBX.out kD)
    ·have e1:(decide ((32:Int)<(rn:Int)))=false:=decide_eq_false (by omega)
     cases hG:rgsFrom (-1) (s.ts k).rd with
     |false=>
      have HK:Hid (¬s.val):=HNT.out fun h=>by have:=((HTV.out.1 h).2 rfl).2.1;rw[hG] at this;cases this
      have HVA:Hid (∀X,Below WX.heap.size WX X→Calls Tryz.prog 94 #[.slice ra rn rc] X (BoolPost X false)):=fun X h=>rgs_valid _ (s.ts k).rd X (HRG.out X h) false hG
      clear hr32 hG;go_upto_region 7 with(fail)
      rw[HWX.out];clear y0 y1 y2;go_upto_region 9 with(fail)
      refine wp_region_held_drew (S:=fun V=>Below WX.heap.size WX V) (by kernel_rfl) kD (fun hH=>?_);refine tG 0 53 ?_;refine tG 1 54 ?_;refine tG 2 55 ?_;refine tG 3 56 ?_;refine tG 4 57 ?_;refine tG 5 58 ?_;refine tG 6 59 ?_;refine tG 7 60 ?_;refine tG 8 61 ?_;refine tG 9 62 ?_;refine bM 10 rfl (fun K hK=>?_);go_simp;refine(HVA.out _ kD).mono ?_;rintro r w5 ⟨rfl,hb5⟩;have hB5:=bU kD hb5;refine hK.out _ _ hB5 (fun hS7=>?_);clear hK K;refine tG 11 64 ?_;refine tG 12 65 ?_;refine tG 13 66 ?_;refine tU 14 67 ?_;refine tU 15 68 ?_;refine tU 16 69 ?_;exact z05_5
     |true=>
      have HVA:Hid (∀X,Below WX.heap.size WX X→Calls Tryz.prog 94 #[.slice ra rn rc] X (BoolPost X true)):=fun X h=>rgs_valid _ (s.ts k).rd X (HRG.out X h) true hG
      by_cases hm1:mo<1
      ·have e2:(decide (mo<1))=true:=decide_eq_true hm1
       have HK:Hid (¬s.val):=HNT.out fun h=>by have:=((HTV.out.1 h).2 rfl).2.2.1;omega
       clear hr32 hG hm1;go_upto_region 7 with(fail)
       rw[HWX.out];clear y0 y1 y2;go_upto_region 9 with(fail)
       refine wp_region_held_drew (S:=fun V=>Below WX.heap.size WX V) (by kernel_rfl) kD (fun hH=>?_);refine tG 0 53 ?_;refine tG 1 54 ?_;refine tG 2 55 ?_;refine tG 3 56 ?_;refine tG 4 57 ?_;refine tG 5 58 ?_;refine tG 6 59 ?_;refine tG 7 60 ?_;refine tG 8 61 ?_;refine tG 9 62 ?_;refine bM 10 rfl (fun K hK=>?_);go_simp;refine(HVA.out _ kD).mono ?_;rintro r w5 ⟨rfl,hb5⟩;have hB5:=bU kD hb5;refine hK.out _ _ hB5 (fun hS7=>?_);clear hK K;refine tG 11 64 ?_;refine tG 12 65 ?_;refine tG 13 66 ?_;refine tG 14 67 ?_;refine tG 15 68 ?_;refine tG 16 69 ?_;exact z05_5
      ·have e2:(decide (mo<1))=false:=decide_eq_false hm1
       by_cases hm2:limI ((k:Int)+1)<mo
       ·have e3:(decide (limI ((k:Int)+1)<mo))=true:=decide_eq_true hm2
        have HK:Hid (¬s.val):=HNT.out fun h=>by have:=((HTV.out.1 h).2 rfl).2.2.2;omega
        clear hr32 hG hm1 hm2;go_upto_region 7 with(fail)
        rw[HWX.out];clear y0 y1 y2;go_upto_region 9 with(fail)
        refine wp_region_held_drew (S:=fun V=>Below WX.heap.size WX V) (by kernel_rfl) kD (fun hH=>?_);refine tG 0 53 ?_;refine tG 1 54 ?_;refine tG 2 55 ?_;refine tG 3 56 ?_;refine tG 4 57 ?_;refine tG 5 58 ?_;refine tG 6 59 ?_;refine tG 7 60 ?_;refine tG 8 61 ?_;refine tG 9 62 ?_;refine bM 10 rfl (fun K hK=>?_);go_simp;refine(HVA.out _ kD).mono ?_;rintro r w5 ⟨rfl,hb5⟩;have hB5:=bU kD hb5;refine hK.out _ _ hB5 (fun hS7=>?_);clear hK K;refine tG 11 64 ?_;refine tG 12 65 ?_;refine tG 13 66 ?_;refine tG 14 67 ?_;refine tG 15 68 ?_;refine tG 16 69 ?_;refine tG 17 70 ?_;refine tG 18 71 ?_;refine tG 19 72 ?_;refine tG 20 73 ?_;refine tG 21 74 ?_;refine tG 22 75 ?_;refine bM 23 rfl (fun K hK=>?_);go_simp;refine(HLM.out _).mono ?_;rintro r w6 ⟨rfl,rfl⟩;refine hK.out _ _ hB5 (fun hS8=>?_);clear hK K;refine tG 24 77 ?_;refine tG 25 78 ?_;refine tG 26 79 ?_;refine wpAnyH_done (by kernel_rfl) ?_ _;go_wp2;go_ret;exact SlvPost.no HK.out (bU HBX.out hB5)
       ·have e3:(decide (limI ((k:Int)+1)<mo))=false:=decide_eq_false hm2
        have HK:Hid ((s.ts k).val k):=HTV.out.2 ⟨fun e=>(by cases e),fun _=>⟨by omega,hG,by omega,by omega⟩⟩;clear hr32 hG hm1 hm2;go_upto_region 7 with(fail)
        rw[HWX.out];clear y0 y1 y2;go_upto_region 9 with(fail)
        refine wp_region_held_drew (S:=fun V=>Below WX.heap.size WX V) (by kernel_rfl) kD (fun hH=>?_);refine tG 0 53 ?_;refine tG 1 54 ?_;refine tG 2 55 ?_;refine tG 3 56 ?_;refine tG 4 57 ?_;refine tG 5 58 ?_;refine tG 6 59 ?_;refine tG 7 60 ?_;refine tG 8 61 ?_;refine tG 9 62 ?_;refine bM 10 rfl (fun K hK=>?_);go_simp;refine(HVA.out _ kD).mono ?_;rintro r w5 ⟨rfl,hb5⟩;have hB5:=bU kD hb5;refine hK.out _ _ hB5 (fun hS7=>?_);clear hK K;refine tG 11 64 ?_;refine tG 12 65 ?_;refine tG 13 66 ?_;refine tG 14 67 ?_;refine tG 15 68 ?_;refine tG 16 69 ?_;refine tG 17 70 ?_;refine tG 18 71 ?_;refine tG 19 72 ?_;refine tG 20 73 ?_;refine tG 21 74 ?_;refine tG 22 75 ?_;refine bM 23 rfl (fun K hK=>?_);go_simp;refine(HLM.out _).mono ?_;rintro r w6 ⟨rfl,rfl⟩;refine hK.out _ _ hB5 (fun hS8=>?_);clear hK K;refine tG 24 77 ?_;refine tG 25 78 ?_;refine tG 26 79 ?_;refine wpAnyH_done (by kernel_rfl) ?_ _;go_wp2;go_roundw
        case rel=>exact⟨k+1,by omega,by go_num,HNX.out HK.out,bU HBY.out hB5⟩
        case measure=>simp [intOf];omega
  ·obtain rfl:k=4:=by omega
   have u15:=t15 wr hbw;have u16:=t16 wr hbw;have u17:=t17 wr hbw;have u18:=t18 wr hbw;have HTB:=bC htv.out;have hbW:=bU HB1.out hbw;have HBW:=bC hbW;obtain⟨P,hP⟩:∃b,decide (0<sn)=b:=⟨_,rfl⟩
   have HSV:Hid ((H !=P)=false↔(s.hs=true↔0<s.sd.length)):=by
    show _↔_;rw[HH.out,HSN.out];have h:P=true↔0<sn:=by rw[←hP,decide_eq_true_eq]
    rw[←h];cases H<;>cases P<;>decide
   obtain⟨VB,hVB⟩:∃b,((s.lv==0&&decide (on≠0))||(H !=P)||decide (64<sn))=b:=⟨_,rfl⟩
   have HVB:=bC hVB;have HP:=bC hP;clear hVB hP;go_upto_region 11 with(fail)
   go_cut [103] from 80 to 103 (fun q wc=>q=.bool VB∧wr=wc)
   case first=>
    have hvb:=HVB.out;clear t15 t16 t17 t18 HSV HVB;by_cases hl0:s.lv=0
    ·by_cases ho:on=0
     ·have g1:(s.lv==0)=true:=b1 hl0
      have g2:((on:Int) !=0)=false:=by rw[bne_eq_false_iff_eq];omega
      have e2:decide (on≠0)=false:=decide_eq_false (by omega);rw[g1,e2] at hvb;exact z05_2
     ·have g1:(s.lv==0)=true:=b1 hl0
      have g2:((on:Int) !=0)=true:=by rw[bne_iff_ne];omega
      have e2:decide (on≠0)=true:=decide_eq_true (by omega);rw[g1,e2] at hvb;have HE:Hid (true=VB):=hvb;clear hl0 ho hvb e2;go_wp2;go_meet
      case rel=>exact⟨by rw[←HE.out],rfl⟩
    ·have g1:(s.lv==0)=false:=b0 hl0
     rw[g1] at hvb;exact z05_2
   case rest=>
    obtain⟨rfl,rfl⟩:=hcut;cases VB with
    |true=>
     have HK:Hid (¬s.val):=fun h=>by
      have h0:=HVB.out;have h1:=HSV.out.2 h.sv;have h2:=h.sl;rw[HSN.out] at h2;rw[h1,decide_eq_false (show ¬64<sn by omega)] at h0;simp only[Bool.or_false,Bool.and_eq_true,beq_iff_eq,decide_eq_true_eq] at h0;have h3:=h.l0 h0.1;rw[HON.out] at h3;exact h0.2 h3
     clear t15 t16 t17 t18;go_wp2;go_ret;exact SlvPost.no HK.out HBW.out
    |false=>
     have hfs:(s.lv=0→on=0)∧(H !=P)=false∧sn≤64:=by
      have h0:=HVB.out;simp only[Bool.or_eq_false_iff,Bool.and_eq_false_iff,beq_eq_false_iff_ne,decide_eq_false_iff_not] at h0;refine⟨fun e=>?_,h0.1.2,by omega⟩;rcases h0.1.1 with h|h
      ·exact absurd e h
      ·omega
     have HSW:Hid (s.hs=true↔0<s.sd.length):=HSV.out.1 hfs.2.1;have HSL:Hid (s.sd.length≤64):=by show _≤_;rw[HSN.out];exact hfs.2.2
     by_cases hl0:s.lv=0
     ·have g1:(s.lv==0)=true:=b1 hl0
      have HK:Hid s.val:=by
       have hu:=HU.out;exact⟨HS.out,by omega,by omega,HTB.out,fun _=>by rw[HON.out];exact hfs.1 hl0,HSW.out,HSL.out,fun e=>by omega,fun e=>by omega,fun e=>by omega,fun e=>by omega,fun e=>by omega⟩
      clear hl0 hfs t15 t16 t17 t18;go_wp2;go_ret;exact SlvPost.yes HK.out HBW.out
     ·have g1:(s.lv==0)=false:=b0 hl0
      have HLP:Hid (0<s.lv):=by have:=HU.out;show 0<s.lv;omega
      clear hl0 hfs;by_cases h16:(16:Int)<(on:Int)
      ·have HK:Hid (¬s.val):=fun h=>by have:=(h.on HLP.out).1;rw[HON.out] at this;omega
       clear t15 t16 t17 t18;go_wp2;go_ret;exact SlvPost.no HK.out HBW.out
      ·have HOB:=bC (HR.out.ob.keep hbW)
       cases hri:rises (-1) s.objs with
       |false=>
        have HRI:Hid (Calls Tryz.prog 95 #[.slice oa on oc] wr (BoolPost wr false)):=by
         have:=rising_any _ s.objs wr HOB.out;rw[hri] at this;exact this
        have HK:Hid (¬s.val):=fun h=>by have:=h.ri HLP.out;rw[hri] at this;cases this
        clear t15 t16 t17 t18 hri;go_wp2_with (go_at_call 95;(with_reducible refine HRI.out.mono ?_);rintro r w3 ⟨rfl,hb3⟩);go_ret;exact SlvPost.no HK.out (bU HBW.out hb3)
       |true=>
        have HRI:Hid (Calls Tryz.prog 95 #[.slice oa on oc] wr (BoolPost wr true)):=by
         have:=rising_any _ s.objs wr HOB.out;rw[hri] at this;exact this
        by_cases h3:(on:Int)<3
        ·have HK:Hid (¬s.val):=fun h=>by have:=(h.on HLP.out).2;rw[HON.out] at this;omega
         have v15:∀X,Below wr.heap.size wr X→X.cell? ⟨w.heap.size,16,none⟩=some (.slice oa on oc):=fun X h=>t16 X (bU hbw h)
         clear t15 t16 t17 t18 hri;go_wp2_with (go_at_call 95;(with_reducible refine HRI.out.mono ?_);rintro r w3 ⟨rfl,hb3⟩);go_ret;exact SlvPost.no HK.out (bU HBW.out hb3)
        ·obtain ⟨j,hj⟩:∃j:Nat,on-1=j:=⟨_,rfl⟩
         have hwj:IntKind.i64.wrap ((on:Int)-1)=(j:Int):=(IntWalk.i64_in _ (by omega)).trans (by omega);obtain⟨x2,hx2⟩:=gs (l:=s.objs) HON.out (show 2<on by omega);obtain⟨xj,hxj⟩:=gs (l:=s.objs) HON.out (show j<on by omega);obtain⟨a',n',c',hv',-,-,-,-,hel⟩:=HR.out.ob.open_;simp only[Value.slice.injEq] at hv';obtain⟨rfl,rfl,rfl⟩:=hv';obtain⟨b,o,-,-,rfl,z2,-,-⟩:=hel 2 x2 hx2;obtain⟨b',o',-,-,ha',zj,-,-⟩:=hel j xj hxj;cases ha';have HEL:=bC hel;obtain⟨i2,hi2⟩:=gE x2.id;obtain⟨ij,hij⟩:=gE xj.id;rw[hi2] at z2;rw[hij] at zj;have hj0:(0:Int)≤(j:Int):=Int.natCast_nonneg _;have hjn:(j:Int)<(on:Int):=by omega
         have h2n:(2:Int)<(on:Int):=by omega
         have y2:∀X,Below wr.heap.size wr X→X.cell? ⟨b,o+4,none⟩=some (.int .i64 i2):=fun X h=>bD (bU hbW h) z2
         have yj:∀X,Below wr.heap.size wr X→X.cell? ⟨b,o+j*2,none⟩=some (.int .i64 ij):=fun X h=>bD (bU hbW h) zj
         have v15:∀X,Below wr.heap.size wr X→X.cell? ⟨w.heap.size,15,none⟩=some (.int .i64 s.lv):=fun X h=>t15 X (bU hbw h)
         have v16:∀X,Below wr.heap.size wr X→X.cell? ⟨w.heap.size,16,none⟩=some (.slice (some ⟨b,o,none⟩) on oc):=fun X h=>t16 X (bU hbw h)
         have kw:Below wr.heap.size wr wr:=Below.refl _ _;have HX2:Hid (∀x,s.objs[2]?=some x→x.id=i2):=fun x hx=>by rw[hx2] at hx;cases hx;exact hi2
         have HXJ:Hid (∀x,s.objs[s.objs.length-1]?=some x→x.id=ij):=fun x hx=>by rw[HON.out,hj,hxj] at hx;cases hx;exact hij
         have HX2E:=bC hx2;have HXJE:Hid (s.objs[s.objs.length-1]?=some xj):=by show _=_;rw[HON.out,hj];exact hxj
         have HRT:=bC hri;have HOO:Hid (s.objs.length≤16∧3≤s.objs.length):=by show _∧_;rw[HON.out];omega
         clear hri hel z2 zj hi2 hij hx2 hxj t15 t16 t17 t18 hj HR HOB;by_cases hi2:i2=2
         case neg=>
          have g4:(i2 !=2)=true:=by rw[bne_iff_ne];exact hi2
          have HK:Hid (¬s.val):=fun h=>hi2 (by rw[←HX2.out _ HX2E.out];exact h.o2 HLP.out _ HX2E.out)
          clear hi2;go_wp2_with (go_at_call 95;(with_reducible refine HRI.out.mono ?_);rintro r w3 ⟨rfl,hb3⟩);go_ret;exact SlvPost.no HK.out (bU HBW.out hb3)
         have g4:(i2 !=2)=false:=by rw[bne_eq_false_iff_eq];exact hi2
         have HO2:Hid (∀x,s.objs[2]?=some x→x.id=2):=fun x hx=>by rw[HX2.out x hx];exact hi2
         clear hi2;by_cases ht:(s.lv=1→ij≤2)∧(s.lv=2→ij≤127)
         case neg=>
          have HK:Hid (¬s.val):=fun h=>ht (by rw[←HXJ.out _ HXJE.out];exact h.top HLP.out _ HXJE.out)
          have hc:(s.lv=1∧2<ij)∨(s.lv=2∧127<ij):=by omega
          clear ht;rcases hc with⟨c1,c2⟩|⟨c1,c2⟩
          ·have g5:(s.lv==1)=true:=b1 c1
           clear c1;go_wp2_with (go_at_call 95;(with_reducible refine HRI.out.mono ?_);rintro r w3 ⟨rfl,hb3⟩);go_ret;exact SlvPost.no HK.out (bU HBW.out hb3)
          ·have g5:(s.lv==1)=false:=b0 (by omega)
           have g6:(s.lv==2)=true:=b1 c1;clear c1;go_wp2_with (go_at_call 95;(with_reducible refine HRI.out.mono ?_);rintro r w3 ⟨rfl,hb3⟩);go_ret;exact SlvPost.no HK.out (bU HBW.out hb3)
         have HTP:Hid (∀x,s.objs[s.objs.length-1]?=some x→(s.lv=1→x.id≤2)∧(s.lv=2→x.id≤127)):=fun x hx=>by rw[HXJ.out x hx];exact ht
         have HALL:Hid ((∀(i:Nat) (x:Ob),s.objs[i]?=some x→x.val.length≤64)→s.val):=fun h=>by
          have hu:=HU.out;have hp:=HLP.out;exact⟨HS.out,by omega,by omega,HTB.out,fun e=>by omega,HSW.out,HSL.out,fun _=>HOO.out,fun _=>HRT.out,fun _=>HO2.out,fun _=>HTP.out,fun _=>h⟩
         have hc:(s.lv=1∧¬2<ij)∨(s.lv=2∧¬127<ij)∨s.lv=3:=by have:=HU.out;have:=HLP.out;omega
         clear ht;rcases hc with⟨c1,c2⟩|⟨c1,c2⟩|c1
         ·have g5:(s.lv==1)=true:=b1 c1
          have g6:(s.lv==2)=false:=b0 (by omega);exact z05_1
         ·have g5:(s.lv==1)=false:=b0 (by omega)
          have g6:(s.lv==2)=true:=b1 c1;exact z05_1
         ·have g5:(s.lv==1)=false:=b0 (by omega)
          have g6:(s.lv==2)=false:=b0 (by omega);exact z05_1
end Go.Proofs.YtoaoejaodhedaaaGreat
