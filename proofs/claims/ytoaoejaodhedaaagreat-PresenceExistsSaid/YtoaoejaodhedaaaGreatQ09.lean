import Derived.Test.YtoaoejaodhedaaaGreatQ08
namespace Go.Proofs.YtoaoejaodhedaaaGreat
open Go.RowKit
set_option maxHeartbeats 12800000
set_option maxRecDepth 100000
def ObPost (w:World) (s:Sl) (r:Ending) (w':World):Prop:=∃V:Bool,r=.returned (.bool V)∧Hid (V=true↔objsV s.lv s.objs)∧Below w.heap.size w w'
theorem ObPost.no {w w':World} {s:Sl} (h:¬objsV s.lv s.objs) (hb:Below w.heap.size w w'):ObPost w s (.returned (.bool false)) w':=⟨false,rfl,⟨fun e=>(by cases e),fun e=>absurd e h⟩,hb⟩
theorem ObPost.yes {w w':World} {s:Sl} (h:objsV s.lv s.objs) (hb:Below w.heap.size w w'):ObPost w s (.returned (.bool true)) w':=⟨true,rfl,⟨fun _=>h,fun _=>rfl⟩,hb⟩
theorem infoSL:(Tryz.prog.info? 68).map (·.size)=some 19:=by kernel_rfl
theorem z08_2 {p:Prop} (h:p:=by
 have c5:decide ((64:Int)<(xn:Int))=true:=decide_eq_true (by omega)
 have HV:=bC (HNO.out (fun h=>by have:=h.vl;rw[HXN.out] at this;omega))
 clear e1 e2 e3 hk2
 go_upto_region 8 with(fail)
 rw[HWX.out]
 go_quiet ((go_at_call 179;with_reducible exact Calls.quiet_of_same (v:=.int .i64 G) ((HG.out _).mono fun _ _ h=>⟨h.1,h.2.symm⟩)));go_wp2;go_ret;exact ObPost.no HV.out (below_drewN HBX.out _)):p:=h
theorem z08_3 {p:Prop} (h:p:=by
 have c4:decide (G<xi)=true:=decide_eq_true e2
 have HV:=bC (HNO.out (fun h=>by have:=h.gr;rw[HXI.out,HGG.out] at this;omega))
 clear e1 e2 hk2
 go_upto_region 8 with(fail)
 rw[HWX.out]
 go_quiet ((go_at_call 179;with_reducible exact Calls.quiet_of_same (v:=.int .i64 G) ((HG.out _).mono fun _ _ h=>⟨h.1,h.2.symm⟩)));go_wp2;go_ret;exact ObPost.no HV.out (below_drewN HBX.out _)):p:=h
theorem z08_5 {p:Prop} (h:p:=by
 clear e1 e2 e3 hk2
 go_upto_region 8 with(fail)
 rw[HWX.out]
 go_quiet ((go_at_call 179;with_reducible exact Calls.quiet_of_same (v:=.int .i64 G) ((HG.out _).mono fun _ _ h=>⟨h.1,h.2.symm⟩)));go_wp2;go_roundw
 case rel=>exact⟨k+1,by omega,by go_num,HA.out,below_drewN HBY.out _⟩
 case measure=>simp [intOf];omega):p:=h
theorem pobjs_val (s:Sl) (rv:Nat→Value) (ov sv:Value) (w:World) (hR:SlR w s rv ov sv):
  Calls Tryz.prog 149 #[.agg (SlC s rv ov sv)] w (ObPost w s):=by
 obtain⟨oa,oc,rfl,-⟩:=id hR.ob;obtain⟨on,hon⟩:=gE s.objs.length;have hcap:=hR.ob.len;rw[hon] at hcap;unfold maxLen at hcap;rw[hon];obtain⟨C,hC⟩:=gE (SlC s rv (.slice oa on oc) sv);rw[hC];obtain⟨W1,hW1,hb1,pS⟩:=alQ w (.cells C 68);obtain⟨lv,hlv⟩:=gE s.lv;have t15:∀X,Below W1.heap.size W1 X→X.cell? ⟨w.heap.size,15,none⟩=some (.int .i64 lv):=fun X h=>by rw[←hlv,bA (bB pS h) 15,←hC];rfl
 have t16:∀X,Below W1.heap.size W1 X→X.cell? ⟨w.heap.size,16,none⟩=some (.slice oa on oc):=fun X h=>by rw[bA (bB pS h) 16,←hC];rfl
 have k0:Below W1.heap.size W1 W1:=Below.refl _ _;have HON:=bC hon;have HLV:=bC hlv;have HW1:=bC hW1;have HB1:=bC hb1;have HR:=bC hR;clear hW1 hb1 pS hC hlv hon hR;by_cases h0:lv=0
 ·have d0:(lv==0)=true:=b1 h0
  have HE:Hid (objsV s.lv s.objs↔on=0):=by
   show _↔_;unfold objsV;rw[if_pos (by rw[HLV.out];exact h0),HON.out]
  clear h0;by_cases e:on=0
  ·have d1:((on:Int)==0)=true:=b1 (by omega)
   have HV:Hid (objsV s.lv s.objs):=HE.out.2 e;clear e;go_enter Tryz.func149,Tryz.ntmps149;go_upto_region 1 with(fail);rw[HW1.out]
   go_wp2;go_ret;exact ObPost.yes HV.out HB1.out
  ·have d1:((on:Int)==0)=false:=b0 (by omega)
   have HV:Hid (¬objsV s.lv s.objs):=fun h=>e (HE.out.1 h)
   clear e;go_enter Tryz.func149,Tryz.ntmps149;go_upto_region 1 with(fail);rw[HW1.out]
   go_wp2;go_ret;exact ObPost.no HV.out HB1.out
 have d0:(lv==0)=false:=b0 h0;have HE:Hid (objsV s.lv s.objs↔1≤lv∧lv≤3∧ObsV lv s.objs):=by
  show _↔_;unfold objsV;rw[if_neg (by rw[HLV.out];exact h0),HLV.out]
 clear h0;by_cases h1:lv<1
 ·have d1:decide (lv<1)=true:=decide_eq_true h1
  have HV:Hid (¬objsV s.lv s.objs):=fun h=>by have:=(HE.out.1 h).1;omega
  clear h1;go_enter Tryz.func149,Tryz.ntmps149;go_upto_region 1 with(fail);rw[HW1.out]
  go_wp2;go_ret;exact ObPost.no HV.out HB1.out
 have d1:decide (lv<1)=false:=decide_eq_false h1;by_cases h2:3<lv
 ·have d2:decide (3<lv)=true:=decide_eq_true h2
  have HV:Hid (¬objsV s.lv s.objs):=fun h=>by have:=(HE.out.1 h).2.1;omega
  clear h1 h2;go_enter Tryz.func149,Tryz.ntmps149;go_upto_region 1 with(fail);rw[HW1.out]
  go_wp2;go_ret;exact ObPost.no HV.out HB1.out
 have d2:decide (3<lv)=false:=decide_eq_false h2;by_cases h3:16<on
 ·have d3:decide ((16:Int)<(on:Int))=true:=decide_eq_true (by omega)
  have HV:Hid (¬objsV s.lv s.objs):=fun h=>by have:=(HE.out.1 h).2.2.on.1;have:=HON.out;omega
  clear h1 h2 h3;go_enter Tryz.func149,Tryz.ntmps149;go_upto_region 1 with(fail);rw[HW1.out]
  go_wp2;go_ret;exact ObPost.no HV.out HB1.out
 have d3:decide ((16:Int)<(on:Int))=false:=decide_eq_false (by omega);by_cases h4:on≤2
 ·have d4:decide ((on:Int)≤2)=true:=decide_eq_true (by omega)
  have HV:Hid (¬objsV s.lv s.objs):=fun h=>by have:=(HE.out.1 h).2.2.on.2;have:=HON.out;omega
  clear h1 h2 h3 h4;go_enter Tryz.func149,Tryz.ntmps149;go_upto_region 1 with(fail);rw[HW1.out]
  go_wp2;go_ret;exact ObPost.no HV.out HB1.out
 have d4:decide ((on:Int)≤2)=false:=decide_eq_false (by omega);have HOV:Hid (ObsV lv s.objs↔∀(i:Nat) (x:Ob),s.objs[i]?=some x→obStep lv s.objs i x):=obsV_iff (by have:=HON.out;omega) (by have:=HON.out;omega);have HLB:Hid (1≤lv∧lv≤3):=by show _∧_;omega
 have HO16:Hid (on≤16):=by show on≤16;omega
 obtain⟨G,hG⟩:=gE (grI lv);have HGG:=bC hG;have HG:Hid (∀X,Calls Tryz.prog 179 #[.int .i64 lv] X fun r w'=>r=.returned (.int .i64 G)∧X=w'):=fun X=>by rw[←hG];exact greatest_any lv X
 clear h1 h2 h3 h4 hG;go_enter Tryz.func149,Tryz.ntmps149;go_upto_region 1 with(fail);rw[HW1.out]
 go_wp2_with fail;go_loopw [35] (fun iv wr=>∃k:Nat,k≤on∧iv=.int .i64 (k:Int)∧Hid (∀(i:Nat) (x:Ob),i<k→s.objs[i]?=some x→obStep lv s.objs i x)∧Below W1.heap.size W1 wr) (fun iv _=>on- (intOf iv).toNat)
 case atStart=>exact⟨0,Nat.zero_le _,rfl,fun i x hi=>absurd hi (Nat.not_lt_zero _),Below.refl _ _⟩
 case round=>
  obtain⟨k,hk,rfl,hall,hbw⟩:=hrel;have hki:(0:Int)≤(k:Int):=Int.natCast_nonneg _;by_cases hlt:k<on
  ·obtain ⟨x,hx⟩:=gs (l:=s.objs) HON.out hlt
   obtain⟨a',n',c',hv',-,-,-,-,hel⟩:=HR.out.ob.open_;simp only[Value.slice.injEq] at hv';obtain⟨rfl,rfl,rfl⟩:=hv';obtain⟨b,o,xa,xc,rfl,z0,z1,hxb⟩:=hel k x hx;have hBw:=bU HB1.out hbw;have y0:wr.cell? ⟨b,o+k*2,none⟩=some (.int .i64 x.id):=bD hBw z0;have y1:wr.cell? ⟨b,o+k*2+1,none⟩=some (.slice xa x.val.length xc):=bD hBw z1;obtain⟨xn,hxn⟩:=gE x.val.length;obtain⟨xi,hxi⟩:=gE x.id;rw[hxn] at y1;rw[hxi] at y0;have hkl:(k:Int)<(on:Int):=by omega
   obtain⟨WX,hWX,hbx,px⟩:=alQ wr (.cells #[.int .i64 xi,.slice xa xn xc] 165);have v0:=cG px 0 rfl;have v1:=cG px 1 rfl;have hbX:=bU hbw hbx;have u15:=t15 WX hbX;have u16:=t16 WX hbX;have HBX:Hid (Below w.heap.size w WX):=bU HB1.out hbX;have HBY:Hid (Below W1.heap.size W1 WX):=hbX;have HWX:=bC hWX;have HX:=bC hx;have HXI:=bC hxi;have HXN:=bC hxn;have HNO:Hid (¬obStep lv s.objs k x→¬objsV s.lv s.objs):=fun hn h=>hn (HOV.out.1 (HE.out.1 h).2.2 k x HX.out)
   have HYS:Hid (obStep lv s.objs k x→∀(i:Nat) (y:Ob),i<k+1→s.objs[i]?=some y→obStep lv s.objs i y):=fun hs i y hi hy=>by
    by_cases e:i=k
    ·subst e
     rw[HX.out] at hy;cases hy;exact hs
    ·exact hall.out i y (by omega) hy
   have HEL:=bC hel;clear hx hxi hxn hWX hbx px hbX z0 z1 hxb hel hall;by_cases hk2:k≤2
   ·have c1:decide ((k:Int)≤2)=true:=decide_eq_true (by omega)
    have c2:decide ((2:Int)<(k:Int))=false:=decide_eq_false (by omega);by_cases e1:xi=(k:Int)
    ·have c3:(xi !=(k:Int))=false:=by rw[bne_eq_false_iff_eq];exact e1
     by_cases e2:G<xi
     ·exact z08_3
     ·have c4:decide (G<xi)=false:=decide_eq_false e2
      by_cases e3:64<xn
      ·exact z08_2
      ·have c5:decide ((64:Int)<(xn:Int))=false:=decide_eq_false (by omega)
       have HA:=bC (HYS.out ⟨fun _=>by rw[HXI.out];exact e1,fun e=>by omega,by rw[HXI.out,HGG.out];omega,by rw[HXN.out];omega⟩);exact z08_5
    ·have c3:(xi !=(k:Int))=true:=by rw[bne_iff_ne];exact e1
     have HV:=bC (HNO.out (fun h=>e1 (by rw[←HXI.out];exact h.lo hk2)));clear e1 hk2;go_upto_region 8 with(fail)
     rw[HWX.out];go_quiet ((go_at_call 179;with_reducible exact Calls.quiet_of_same (v:=.int .i64 G) ((HG.out _).mono fun _ _ h=>⟨h.1,h.2.symm⟩)));go_wp2;go_ret;exact ObPost.no HV.out (below_drewN HBX.out _)
   ·have c1:decide ((k:Int)≤2)=false:=decide_eq_false (by omega)
    have c2:decide ((2:Int)<(k:Int))=true:=decide_eq_true (by omega);obtain⟨j,hj⟩:∃j,k=j+1:=⟨k-1,by omega⟩
    obtain⟨y,hy⟩:=gs (l:=s.objs) HON.out (show j<on by omega);obtain⟨b',o',ya,yc,hbo,z0,-,-⟩:=HEL.out j y hy;simp only[Option.some.injEq,Addr.mk.injEq,and_true] at hbo;obtain⟨rfl,rfl⟩:=hbo;obtain⟨yi,hyi⟩:=gE y.id;rw[hyi] at z0;have p0:WX.cell? ⟨b,o+j*2,none⟩=some (.int .i64 yi):=bD HBX.out z0;have s1:IntKind.i64.wrap ((k:Int)-1)=(j:Int):=(IntWalk.i64_in _ (by omega)).trans (by omega);have hj0:(0:Int)≤(j:Int):=Int.natCast_nonneg _;have hjn:(j:Int)<(on:Int):=by omega
    have HY:Hid (s.objs[k-1]?=some y):=by show _=_;rw[hj,show j+1-1=j by omega];exact hy
    have HYI:=bC hyi;clear hj hy z0 hyi;by_cases e1:xi≤yi
    ·have c3:decide (xi≤yi)=true:=decide_eq_true e1
     have HV:=bC (HNO.out (fun h=>by have:=h.hi (by omega) y HY.out;rw[HXI.out,HYI.out] at this;omega));clear e1 hk2;go_upto_region 8 with(fail)
     rw[HWX.out];go_quiet ((go_at_call 179;with_reducible exact Calls.quiet_of_same (v:=.int .i64 G) ((HG.out _).mono fun _ _ h=>⟨h.1,h.2.symm⟩)));go_wp2;go_ret;exact ObPost.no HV.out (below_drewN HBX.out _)
    ·have c3:decide (xi≤yi)=false:=decide_eq_false e1
     by_cases e2:G<xi
     ·exact z08_3
     ·have c4:decide (G<xi)=false:=decide_eq_false e2
      by_cases e3:64<xn
      ·exact z08_2
      ·have c5:decide ((64:Int)<(xn:Int))=false:=decide_eq_false (by omega)
       have HA:=bC (HYS.out ⟨fun e=>by omega,fun _ z hz=>by rw[HY.out] at hz;cases hz;rw[HXI.out,HYI.out];omega,by rw[HXI.out,HGG.out];omega,by rw[HXN.out];omega⟩);exact z08_5
  ·obtain rfl:k=on:=by omega
   have HV:Hid (objsV s.lv s.objs):=HE.out.2 ⟨HLB.out.1,HLB.out.2,HOV.out.2 fun i x hx=>hall.out i x (by rw[←HON.out];exact(List.getElem?_eq_some_iff.1 hx).1) hx⟩;have HBZ:Hid (Below w.heap.size w wr):=bU HB1.out hbw;clear hall;go_wp2;go_ret;exact ObPost.yes HV.out HBZ.out
theorem tb4_row (s:Sl) (rv:Nat→Value) (ov sv:Value) (j:Nat) (v:Value) (h:(#[.bool (s.ts 0).sup,rv 0,.int .i64 (s.ts 0).most,.bool (s.ts 1).sup,rv 1,.int .i64 (s.ts 1).most,.bool (s.ts 2).sup,rv 2,.int .i64 (s.ts 2).most,.bool (s.ts 3).sup,rv 3,.int .i64 (s.ts 3).most]:Array Value).toList[j]?=some v):(SlC s rv ov sv).toList[3+j]?=some v:=by
 have e:(#[.bool (s.ts 0).sup,rv 0,.int .i64 (s.ts 0).most,.bool (s.ts 1).sup,rv 1,.int .i64 (s.ts 1).most,.bool (s.ts 2).sup,rv 2,.int .i64 (s.ts 2).most,.bool (s.ts 3).sup,rv 3,.int .i64 (s.ts 3).most]:Array Value).toList=((SlC s rv ov sv).toList.drop 3).take 12:=rfl;rw[e,List.getElem?_take] at h;split at h
 ·rw [List.getElem?_drop] at h
  exact h
 ·cases h
theorem tb4_at (s:Sl) (rv:Nat→Value) (k:Nat) (hk:k<4) (W:World):(Instr.index 66 (.agg #[.bool (s.ts 0).sup,rv 0,.int .i64 (s.ts 0).most,.bool (s.ts 1).sup,rv 1,.int .i64 (s.ts 1).most,.bool (s.ts 2).sup,rv 2,.int .i64 (s.ts 2).most,.bool (s.ts 3).sup,rv 3,.int .i64 (s.ts 3).most]) (.int .i64 (k:Int))).run Tryz.prog W=.ok (.agg #[.bool (s.ts k).sup,rv k,.int .i64 (s.ts k).most]) W:=by
 rcases (show k=0∨k=1∨k=2∨k=3 by omega) with rfl|rfl|rfl|rfl
 all_goals
  clear hk
  kernel_rfl
theorem z08_1 {p:Prop} (h:p:=by
 go_enter Tryz.func112,Tryz.ntmps112;go_upto_region 1 with(fail);rw[HW1.out]
 go_wp2_with (first|(refine bK (by rfl) 68 (.tmp 1) rfl ⟨w.heap.size,0,none⟩ rfl C _ (HRC.out _ hb2) Tryz.underlying68 rfl hi19 ?_)|(go_at_call 120;(with_reducible refine(HS.out _).mono ?_);rintro r w2 ⟨rfl,hb2⟩)|(go_at_call 149;(with_reducible refine(HO.out _ hb2).mono ?_);rintro r w3 ⟨rfl,hb3⟩))
 go_ret
 exact SlvPost.no HV.out (bU HB1.out hb2)):p:=h
theorem pslave_any (s:Sl) (rv:Nat→Value) (ov sv:Value) (w:World) (hR:SlR w s rv ov sv):
  Calls Tryz.prog 112 #[.agg (SlC s rv ov sv)] w (SlvPost w s):=by
 obtain⟨sa,sc,rfl,-⟩:=id hR.sd;obtain⟨sn,hsn⟩:=gE s.sd.length;have hcap:=hR.sd.len;rw[hsn] at hcap ⊢;unfold maxLen at hcap;obtain⟨C,hC⟩:=gE (SlC s rv ov (.slice sa sn sc));have hcs:C.size=19:=by rw[←hC];rfl
 have hi19:(Tryz.prog.info? 68).map (·.size)=some C.size:=by rw[hcs];exact infoSL
 rw[hC];obtain⟨W1,hW1,hb1,pS⟩:=alQ w (.cells C 68);obtain⟨bd,hbd⟩:=gE s.bd;obtain⟨pa,hpa⟩:=gE s.pa;obtain⟨un,hun⟩:=gE s.un;obtain⟨hs,hhs⟩:=gE s.hs;have u0:∀X,Below W1.heap.size W1 X→X.cell? ⟨w.heap.size,0,none⟩=some (.int .i64 bd):=fun X h=>by rw[←hbd,bA (bB pS h) 0,←hC];rfl
 have u1:∀X,Below W1.heap.size W1 X→X.cell? ⟨w.heap.size,1,none⟩=some (.int .i64 pa):=fun X h=>by rw[←hpa,bA (bB pS h) 1,←hC];rfl
 have u2:∀X,Below W1.heap.size W1 X→X.cell? ⟨w.heap.size,2,none⟩=some (.int .i64 un):=fun X h=>by rw[←hun,bA (bB pS h) 2,←hC];rfl
 have u17:∀X,Below W1.heap.size W1 X→X.cell? ⟨w.heap.size,17,none⟩=some (.bool hs):=fun X h=>by rw[←hhs,bA (bB pS h) 17,←hC];rfl
 have u18:∀X,Below W1.heap.size W1 X→X.cell? ⟨w.heap.size,18,none⟩=some (.slice sa sn sc):=fun X h=>by rw[bA (bB pS h) 18,←hC];rfl
 have HTC:Hid (∀X,Below W1.heap.size W1 X→∀k:Nat,k<4→X.cell? ⟨w.heap.size,3+k*3,none⟩=some (.bool (s.ts k).sup)∧X.cell? ⟨w.heap.size,3+k*3+1,none⟩=some (rv k)∧X.cell? ⟨w.heap.size,3+k*3+2,none⟩=some (.int .i64 (s.ts k).most)):=fun X hX k hk=>SlC_tab s rv ov (.slice sa sn sc) (by rw[hC];exact bB pS hX) hk
 have HRC:Hid (∀X,Below W1.heap.size W1 X→∀j v,C.toList[j]?=some v→X.cell? ((⟨w.heap.size,0,none⟩:Addr).add j)=some v):=fun X hX j v hj=>hpRowB (bB pS hX) j v hj
 obtain⟨V,hV⟩:=cN (p:=objsV s.lv s.objs);have HO:Hid (∀X,Below W1.heap.size W1 X→Calls Tryz.prog 149 #[.agg C] X (BoolPost X V)):=fun X hX=>by
  rw[←hC,←hsn];refine(pobjs_val s rv ov _ X (hR.keep (bU hb1 hX))).mono fun r w' ⟨V',h1,h2,h3⟩=>?_
  have e:V'=V:=by
   cases V'<;>cases V
   ·rfl
   ·exact absurd (h2.out.2 (hV.1 rfl)) Bool.noConfusion
   ·exact absurd (hV.2 (h2.out.1 rfl)) Bool.noConfusion
   ·rfl
  subst e;exact⟨h1,h3⟩
 have HT:Hid (∀X,Below W1.heap.size W1 X→∀k:Nat,k<4→Calls Tryz.prog 150 #[.int .i64 ((k:Int)+1),.agg #[.bool (s.ts k).sup,rv k,.int .i64 (s.ts k).most]] X (TvPost X (s.ts k) k)):=fun X hX k hk=>ptable_val (s.ts k) (rv k) k X ((hR.rg k hk).keep (bU hb1 hX))
 have k0:Below W1.heap.size W1 W1:=Below.refl _ _;have HIF:Hid (s.val↔Okset bd pa∧1≤un∧un≤247∧objsV s.lv s.objs∧(∀k,k<4→(s.ts k).val k)∧(hs=true→1≤sn∧sn≤64)∧(hs=false→sn=0)):=by
  have h:=Sl.val_iff (s:=s);rw[hbd,hpa,hun,hhs,hsn] at h;exact h
 obtain⟨B,hB⟩:∃B,okS (bd,pa)=B:=⟨_,rfl⟩
 have HS:Hid (∀X,Calls Tryz.prog 120 #[.agg #[.int .i64 bd,.int .i64 pa]] X (BoolPost X B)):=fun X=>svalid_any bd pa X B hB
 have HBO:Hid (B=true↔Okset bd pa):=by show _↔_;rw[←hB];exact okS_iff
 have HC:=bC hC;have HRV:Hid (∀k:Nat,k<4→∃a n c,rv k=.slice a n c):=fun k hk=>by obtain⟨a,c,h,-⟩:=hR.rg k hk;exact⟨a,_,c,h⟩
 have HW1:=bC hW1;have HB1:=bC hb1;clear hW1 hb1 pS hC hbd hpa hun hhs hsn hR hB hcs;cases B with
 |false=>
  have HV:Hid (¬s.val):=fun h=>Bool.noConfusion (HBO.out.2 (HIF.out.1 h).1)
  exact z08_1
 |true=>
  by_cases e1:un<1
  ·have d1:decide (un<1)=true:=decide_eq_true e1
   have HV:Hid (¬s.val):=fun h=>by have:=(HIF.out.1 h).2.1;omega
   clear e1;exact z08_1
  have d1:decide (un<1)=false:=decide_eq_false e1;by_cases e2:247<un
  ·have d2:decide (247<un)=true:=decide_eq_true e2
   have HV:Hid (¬s.val):=fun h=>by have:=(HIF.out.1 h).2.2.1;omega
   clear e1 e2;exact z08_1
  have d2:decide (247<un)=false:=decide_eq_false e2;have HUN:Hid (1≤un∧un≤247):=by show _∧_;omega
  clear e1 e2;cases V with
  |false=>
   have HV:Hid (¬s.val):=fun h=>Bool.noConfusion (hV.2 (HIF.out.1 h).2.2.2.1)
   clear hV;go_enter Tryz.func112,Tryz.ntmps112;go_upto_region 1 with(fail);rw[HW1.out]
   go_wp2_with (first|(refine bK (by rfl) 68 (.tmp 1) rfl ⟨w.heap.size,0,none⟩ rfl C _ (HRC.out _ hb2) Tryz.underlying68 rfl hi19 ?_)|(go_at_call 120;(with_reducible refine(HS.out _).mono ?_);rintro r w2 ⟨rfl,hb2⟩)|(go_at_call 149;(with_reducible refine(HO.out _ hb2).mono ?_);rintro r w3 ⟨rfl,hb3⟩));go_ret;exact SlvPost.no HV.out (bU HB1.out (bU hb2 hb3))
  |true=>
   have HOB:=bC (hV.1 rfl);clear hV;go_enter Tryz.func112,Tryz.ntmps112;go_upto_region 1 with(fail);rw[HW1.out]
   go_upto_region 3 with(first|(refine bK (by rfl) 68 (.tmp 1) rfl ⟨w.heap.size,0,none⟩ rfl C _ (HRC.out _ hb2) Tryz.underlying68 rfl hi19 ?_)|(go_at_call 120;(with_reducible refine(HS.out _).mono ?_);rintro r w2 ⟨rfl,hb2⟩)|(go_at_call 149;(with_reducible refine(HO.out _ hb2).mono ?_);rintro r w3 ⟨rfl,hb3⟩))
   have hb13:=bU hb2 hb3;clear hb2 hb3 d1 d2;obtain⟨T4,hT4⟩:∃T:Array Value,#[.bool (s.ts 0).sup,rv 0,.int .i64 (s.ts 0).most,.bool (s.ts 1).sup,rv 1,.int .i64 (s.ts 1).most,.bool (s.ts 2).sup,rv 2,.int .i64 (s.ts 2).most,.bool (s.ts 3).sup,rv 3,.int .i64 (s.ts 3).most]=T:=⟨_,rfl⟩
   have hi12:(Tryz.prog.info? 66).map (·.size)=some T4.size:=by rw[←hT4];kernel_rfl
   have hT4c:∀j v,T4.toList[j]?=some v→w3.cell? ((⟨w.heap.size,3,none⟩:Addr).add j)=some v:=fun j v hj=>by
    have h:=HRC.out w3 hb13 (3+j) v (by rw[←HC.out];exact tb4_row s rv ov _ j v (by rw[hT4];exact hj));have e1:(⟨w.heap.size,0,none⟩:Addr).add (3+j)=⟨w.heap.size,3+j,none⟩:=by unfold Addr.add;split<;>simp_all
    have e2:(⟨w.heap.size,3,none⟩:Addr).add j=⟨w.heap.size,3+j,none⟩:=by unfold Addr.add;split<;>simp_all
    rw[e2,←e1];exact h
   have HIX:Hid (∀k:Nat,k<4→∀W,(Instr.index 66 (.agg T4) (.int .i64 (k:Int))).run Tryz.prog W=.ok (.agg #[.bool (s.ts k).sup,rv k,.int .i64 (s.ts k).most]) W):=fun k hk W=>by rw[←hT4];exact tb4_at s rv k hk W
   have HT4c:=bC hT4c;clear hT4 hT4c u0 u1 u2;go_upto_region 4 with(refine cC rfl 66 (.tmp 24) rfl ⟨w.heap.size,3,none⟩ rfl T4 _ HT4c.out Tryz.underlying66 rfl hi12 ?_)
   go_loopw [26] (fun iv wr=>∃k:Nat,k≤4∧iv=.int .i64 (k:Int)∧Hid (∀i,i<k→(s.ts i).val i)∧Below W1.heap.size W1 wr) (fun iv _=>4- (intOf iv).toNat)
   case atStart=>exact⟨0,Nat.zero_le _,rfl,fun i hi=>absurd hi (Nat.not_lt_zero _),hb13⟩
   case round=>
    obtain⟨k,hk,rfl,hall,hbw⟩:=hrel;have hki:(0:Int)≤(k:Int):=Int.natCast_nonneg _;by_cases hlt:k<4
    ·have hkl:(k:Int)<4:=by omega
     have hix:=HIX.out k hlt;obtain⟨B,hB⟩:=cN (p:=(s.ts k).val k);obtain⟨WX,hWX⟩:∃W,wr.alloc (.cells #[.bool (s.ts k).sup,rv k,.int .i64 (s.ts k).most] 65)=W:=⟨_,rfl⟩
     have hbx:Below W1.heap.size W1 WX:=by rw[←hWX];exact cJ hbw (Nat.le_refl _) _
     have px:WX.heap[wr.heap.size]?=some (.cells #[.bool (s.ts k).sup,rv k,.int .i64 (s.ts k).most] 65):=by rw[←hWX];exact bI _ _
     have x0:=bA px 0;have x1:=bA px 1;have x2:=bA px 2;have s1:IntKind.i64.wrap ((k:Int)+1)=(k:Int)+1:=IntWalk.i64_in _ (by omega);have HTT:Hid (Calls Tryz.prog 150 #[.int .i64 ((k:Int)+1),.agg #[.bool (s.ts k).sup,rv k,.int .i64 (s.ts k).most]] WX (BoolPost WX B)):=(HT.out WX hbx k hlt).mono fun r w' ⟨V',h1,h2,h3⟩=>by
      have e:V'=B:=by
       cases V'<;>cases B
       ·rfl
       ·exact absurd (h2.out.2 (hB.1 rfl)) Bool.noConfusion
       ·exact absurd (hB.2 (h2.out.1 rfl)) Bool.noConfusion
       ·rfl
      subst e;exact⟨h1,h3⟩
     have HWX:=bC hWX;have HBX:=bC hbx;have HB:=bC hB;clear hWX hbx px hB;generalize (s.ts k).sup=ts at*;generalize (s.ts k).most=tm at*;obtain⟨ra,rn,rc,hrv⟩:=HRV.out k hlt;rw[hrv] at hix HTT HWX x1;clear hrv;cases B with
     |false=>
      have HV:Hid (¬s.val):=fun h=>Bool.noConfusion (HB.out.2 ((HIF.out.1 h).2.2.2.2.1 k hlt))
      go_upto_region 6 with(fail)
      rw[HWX.out];go_wp2_with (go_at_call 150;(with_reducible refine HTT.out.mono ?_);rintro r w5 ⟨rfl,hb5⟩);go_ret;exact SlvPost.no HV.out (bU HB1.out (bU HBX.out hb5))
     |true=>
      have HA:Hid (∀i,i<k+1→(s.ts i).val i):=fun i hi=>by
       by_cases e:i=k
       ·subst e;exact HB.out.1 rfl
       ·exact hall.out i (by omega)
      go_upto_region 6 with(fail)
      rw[HWX.out];go_wp2_with (go_at_call 150;(with_reducible refine HTT.out.mono ?_);rintro r w5 ⟨rfl,hb5⟩);go_roundw
      case rel=>exact⟨k+1,by omega,by go_num,HA.out,bU HBX.out hb5⟩
      case measure=>simp [intOf];omega
    ·obtain rfl:k=4:=by omega
     have HBE:Hid (Below w.heap.size w wr):=bU HB1.out hbw;have v17:=u17 wr hbw;have v18:=u18 wr hbw;clear u17 u18;cases hs with
     |false=>
      by_cases e1:sn=0
      ·have g1:((sn:Int)==0)=true:=b1 (by omega)
       have HV:Hid s.val:=HIF.out.2 ⟨HBO.out.1 trivial,HUN.out.1,HUN.out.2,HOB.out,hall.out,(fun e=>by cases e),fun _=>e1⟩;clear e1;go_wp2;go_ret;exact SlvPost.yes HV.out HBE.out
      ·have g1:((sn:Int)==0)=false:=b0 (by omega)
       have HV:Hid (¬s.val):=fun h=>e1 ((HIF.out.1 h).2.2.2.2.2.2 rfl)
       clear e1;go_wp2;go_ret;exact SlvPost.no HV.out HBE.out
     |true=>
      by_cases e1:1≤sn
      ·have g1:decide ((1:Int)≤(sn:Int))=true:=decide_eq_true (by omega)
       by_cases e2:sn≤64
       ·have g2:decide ((sn:Int)≤64)=true:=decide_eq_true (by omega)
        have HV:Hid s.val:=HIF.out.2 ⟨HBO.out.1 trivial,HUN.out.1,HUN.out.2,HOB.out,hall.out,(fun _=>⟨e1,e2⟩),fun e=>by cases e⟩;clear e1 e2;go_wp2;go_ret;exact SlvPost.yes HV.out HBE.out
       ·have g2:decide ((sn:Int)≤64)=false:=decide_eq_false (by omega)
        have HV:Hid (¬s.val):=fun h=>e2 ((HIF.out.1 h).2.2.2.2.2.1 rfl).2
        clear e1 e2;go_wp2;go_ret;exact SlvPost.no HV.out HBE.out
      ·have g1:decide ((1:Int)≤(sn:Int))=false:=decide_eq_false (by omega)
       have HV:Hid (¬s.val):=fun h=>e1 ((HIF.out.1 h).2.2.2.2.2.1 rfl).1
       clear e1;go_wp2;go_ret;exact SlvPost.no HV.out HBE.out
theorem var_new {wr w5:World} {C Z:Array Value} {t:TypeId} (hz:Z.size=C.size) (g5:w5.heap[wr.heap.size]?=some (.cells (Z.toList.take 0++C.toList++Z.toList.drop (0+C.toList.length)).toArray t (0,0))) (hk5:Keeps (· =wr.heap.size) (wr.alloc (.cells Z t)) w5):
  w5.heap[wr.heap.size]?=some (.cells C t (0,0))∧Below wr.heap.size wr w5:=by
 refine⟨?_,(bH wr _).trans (hk5.below (by simp) (fun j hj e=>by omega))⟩;rw[g5,List.drop_eq_nil_of_le (by simp [hz])];simp
theorem pslave_w (s:Sl) (rv:Nat→Value) (ov sv:Value) (V:Bool) (hV:V=true↔s.val) (w:World) (hR:SlR w s rv ov sv):Calls Tryz.prog 112 #[.agg (SlC s rv ov sv)] w (BoolPost w V):=
 (pslave_any s rv ov sv w hR).mono fun r w' ⟨B,h1,h2,h3⟩=>by
  have e:B=V:=by
   cases B<;>cases V
   ·rfl
   ·exact absurd (h2.out.2 (hV.1 rfl)) Bool.noConfusion
   ·exact absurd (hV.2 (h2.out.1 rfl)) Bool.noConfusion
   ·rfl
  subst e;exact⟨h1,h3⟩
theorem z08_4 {p:Prop} (h:p:=by
 obtain⟨oa,oc,rfl,-⟩:=id hR.ob
 obtain⟨sa,sc,rfl,-⟩:=id hR.sd
 have hr:∀k,k<4→(rv k).oneCell'=true:=fun k hk=>by obtain⟨ra,rc,e,-⟩:=hR.rg k hk;rw[e];rfl
 rw[←hC]
 simp only[SlC,List.all_cons,List.all_nil,hr 0 (by decide),hr 1 (by decide),hr 2 (by decide),hr 3 (by decide),Bool.and_true]
 rfl):p:=h
theorem pbus_w (a:Option Addr) (c:Nat) (l:List Sl) (n:Nat) (w:World) (hn:l.length=n) (hl:Slvs w (.slice a n c) l) (V:Bool) (hV:V=true↔BusP l):
  Calls Tryz.prog 66 #[.slice a n c] w (BoolPost w V):=by
 have HN:=bC hn;have HF:Hid (¬BusP l→V=false):=fun h=>by
  cases e:V with
  |false=>rfl
  |true=>exact absurd (hV.1 e) h
 have HT:=bC hV.2;have HL:=bC hl;have hnn:n≤9223372036854775807:=by
  obtain⟨a',c',hv',q1,q2,-⟩:=id hl;cases hv';unfold maxLen at q2;omega
 clear hV hn hl;go_enter Tryz.func66,Tryz.ntmps66;go_wp2;go_loopw [7] (fun iv wr=>∃k:Nat,k≤n∧iv=.int .i64 (k:Int)∧Hid (∀i s,i<k→l[i]?=some s→s.val)∧Below w.heap.size w wr) (fun iv _=>n- (intOf iv).toNat)
 case atStart=>exact⟨0,Nat.zero_le _,rfl,fun i s hi=>absurd hi (Nat.not_lt_zero _),Below.refl _ _⟩
 case round=>
  obtain⟨k,hk,rfl,hall,hbw⟩:=hrel;have hki:(0:Int)≤(k:Int):=Int.natCast_nonneg _;by_cases hlt:k<n
  ·have hkl:(k:Int)<(n:Int):=by omega
   obtain⟨s,hs⟩:∃s,l[k]?=some s:=⟨_,List.getElem?_eq_getElem (by rw[HN.out];exact hlt)⟩
   obtain⟨b,o,rv,ov,sv,rfl,hR,hc⟩:=(HL.out.keep hbw).at hs;obtain⟨B,hB⟩:=cN (p:=s.val);obtain⟨C,hC⟩:=gE (SlC s rv ov sv);have HSV:Hid (∀X,Below wr.heap.size wr X→Calls Tryz.prog 112 #[.agg C] X (BoolPost X B)):=fun X hX=>by rw[←hC];exact pslave_w s rv ov sv B hB X (hR.keep hX)
   have hcs:C.size=19:=by rw[←hC];rfl
   have hi:(Tryz.prog.info? 68).map (·.size)=some C.size:=by rw[hcs];exact infoSL
   have h1c:C.toList.all (·.oneCell')=true:=by
    exact z08_4
   have hrow:∀j v,C.toList[j]?=some v→wr.cell? ((⟨b,o+k*19,none⟩:Addr).add j)=some v:=fun j v hj=>by
    have e:(⟨b,o+k*19,none⟩:Addr).add j=⟨b,o+k*19+j,none⟩:=by unfold Addr.add;split<;>simp_all
    rw[e];exact hc j v (by rw[hC];simpa using hj)
   have HB:=bC hB;have HS:=bC hs;clear hR hc hC hB hs;go_upto_region 4 with(first
    |(refine bK (by rfl) 68 (.tmp 9) rfl ⟨b,o+k*19,none⟩ rfl C _ hrow Tryz.underlying68 rfl hi ?_)
    |(refine bE rfl 68 (.tmp 4) (.tmp 10) rfl wr.heap.size 0 _ 68 C rfl rfl (bI wr _) (by simp [hcs]) hi h1c ?_;intro w5 g5 hk5 hz5))
   obtain⟨p5,hb5⟩:=var_new (by simp [hcs]) g5 hk5;clear g5 hk5 hz5 hrow;cases B with
   |false=>
    have HE:=bC (HF.out (fun h=>Bool.noConfusion (HB.out.2 (h.2 s (List.mem_of_getElem? HS.out)))));go_wp2_with (first
     |(refine wpList_load_row rfl 68 (.tmp 4) rfl wr.heap.size rfl 68 C (0,0) _ p5 Tryz.underlying68 rfl hi ?_)
     |(go_at_call 112;(with_reducible refine(HSV.out _ hb5).mono ?_);rintro r w2 ⟨rfl,hb2⟩))
    go_ret;exact⟨by rw[HE.out]<;>rfl,bU (bU hbw hb5) hb2⟩
   |true=>
    have HA2:Hid (∀i t,i<k+1→l[i]?=some t→t.val):=fun i t hi ht=>by
     by_cases e:i=k
     ·subst e
      rw[HS.out] at ht;cases ht;exact HB.out.1 rfl
     ·exact hall.out i t (by omega) ht
    go_wp2_with (first
     |(refine wpList_load_row rfl 68 (.tmp 4) rfl wr.heap.size rfl 68 C (0,0) _ p5 Tryz.underlying68 rfl hi ?_)
     |(go_at_call 112;(with_reducible refine(HSV.out _ hb5).mono ?_);rintro r w2 ⟨rfl,hb2⟩))
    go_roundw
    case rel=>exact⟨k+1,by omega,by go_num,HA2.out,bU (bU hbw hb5) hb2⟩
    case measure=>simp [intOf];omega
  ·obtain rfl:k=n:=by omega
   have HAL:Hid (∀s∈l,s.val):=fun s hs=>by
    obtain⟨j,hj,e⟩:=List.mem_iff_getElem.1 hs;exact hall.out j s (by rw[←HN.out];exact hj) (by rw[List.getElem?_eq_getElem hj,e])
   clear hall;by_cases h16:k≤16
   ·have d16:decide ((k:Int)≤16)=true:=decide_eq_true (by omega)
    have HE:=bC (HT.out ⟨by rw[HN.out];exact h16,HAL.out⟩);clear h16;go_wp2;go_ret;exact⟨by rw[HE.out]<;>rfl,hbw⟩
   ·have d16:decide ((k:Int)≤16)=false:=decide_eq_false (by omega)
    have HE:=bC (HF.out (fun h=>h16 (by have:=h.1;rw[HN.out] at this;exact this)));clear h16;go_wp2;go_ret;exact⟨by rw[HE.out]<;>rfl,hbw⟩
theorem pbus_any (l:List Sl):∃V:Bool,(V=true↔BusP l)∧∀(w:World) (v:Value),Slvs w v l→Calls Tryz.prog 66 #[v] w (BoolPost w V):=by
 obtain⟨V,hV⟩:=cN (p:=BusP l);refine⟨V,hV,fun w v hv=>?_⟩;obtain⟨a,c,rfl⟩:=hv.slc;exact pbus_w a c l _ w rfl hv V hV
theorem pmemb_any (a:Option Addr) (c:Nat) (l:List Sl) (n:Nat) (w:World) (hn:l.length=n) (hn16:n≤16) (hl:Slvs w (.slice a n c) l) (bd pa un:Int) (h1:wfI bd) (h2:wfI pa):
  Calls Tryz.prog 188 #[.slice a n c,.agg #[.int .i64 bd,.int .i64 pa],.int .i64 un] w (MbPost w (memb l bd pa un n)):=by
 have HN:=bC hn;have HL:=bC hl;have HW1:=bC h1;have HW2:=bC h2;obtain⟨W0,hW0⟩:∃W,w.alloc (.cells #[.int .i64 bd,.int .i64 pa] 61)=W:=⟨_,rfl⟩
 have hb0:Below w.heap.size w W0:=by rw[←hW0];exact bH w _
 have hz0:W0.heap.size=w.heap.size+1:=by rw[←hW0];simp
 have p0:W0.heap[w.heap.size]?=some (.cells #[.int .i64 bd,.int .i64 pa] 61):=by rw[←hW0];exact bI w _
 have HW0:=bC hW0;have HB0:=bC hb0;have HZ0:=bC hz0;have P0:=bC p0;clear hn hl h1 h2 hW0 hb0 hz0 p0;go_enter Tryz.func188,Tryz.ntmps188;go_upto_region 1 with(fail)
 rw[HW0.out];go_wp2;go_loopw [7,12] (fun dv iv wr=>∃(k:Nat) (b:Option Addr) (m cc:Nat),k≤n∧iv=.int .i64 (k:Int)∧dv=.slice b m cc∧Hid ((memb l bd pa un k).length=m)∧m≤k∧Hid (wr.ownsRow W0.heap.size 3 1 (.slice b m cc) m ((memb l bd pa un k).map fun i:Nat=>.int .i64 (i:Int)))∧Below W0.heap.size W0 wr) (fun _ iv _=>n- (intOf iv).toNat)
 case atStart=>exact⟨0,none,0,0,Nat.zero_le _,rfl,rfl,rfl,Nat.le_refl _,World.ownsRow_nil _ _ _ _,Below.refl _ _⟩
 case round=>
  obtain⟨k,b,m,cc,hk,rfl,rfl,hmb,hmk,hown,hbw⟩:=hrel;have hki:(0:Int)≤(k:Int):=Int.natCast_nonneg _;have hbw0:=bU HB0.out hbw;by_cases hlt:k<n
  ·have hkl:(k:Int)<(n:Int):=by omega
   obtain⟨s,hs⟩:∃s,l[k]?=some s:=⟨_,List.getElem?_eq_getElem (by rw[HN.out];exact hlt)⟩
   obtain⟨b2,o,rv,ov,sv,rfl,hR,hc⟩:=(HL.out.keep hbw0).at hs;obtain⟨C,hC⟩:=gE (SlC s rv ov sv);have hcs:C.size=19:=by rw[←hC];rfl
   have hi:(Tryz.prog.info? 68).map (·.size)=some C.size:=by rw[hcs];exact infoSL
   have h1c:C.toList.all (·.oneCell')=true:=by
    exact z08_4
   have hrow:∀j v,C.toList[j]?=some v→wr.cell? ((⟨b2,o+k*19,none⟩:Addr).add j)=some v:=fun j v hj=>by
    have e:(⟨b2,o+k*19,none⟩:Addr).add j=⟨b2,o+k*19+j,none⟩:=by unfold Addr.add;split<;>simp_all
    rw[e];exact hc j v (by rw[hC];simpa using hj)
   have e0:C[0]?=some (.int .i64 s.bd):=by rw[←hC];rfl
   have e1:C[1]?=some (.int .i64 s.pa):=by rw[←hC];rfl
   have e2:C[2]?=some (.int .i64 s.un):=by rw[←hC];rfl
   obtain⟨B1,hB1⟩:=cN (p:=s.bd=bd∧s.pa=pa);have heq:∀X,(binOp .eql 61 (.agg #[.int .i64 s.bd,.int .i64 s.pa]) (.agg #[.int .i64 bd,.int .i64 pa])).run Tryz.prog X=.ok (.bool B1) X:=fun X=>eq_setB _ _ _ _ hR.bd hR.pa HW1.out HW2.out B1 hB1 X
   have HIS:Hid (isMb bd pa un s=(B1&&decide (s.un=un))):=by
    show (decide (s.bd=bd∧s.pa=pa)&&_)=_;congr 1;cases B1
    ·exact decide_eq_false (fun h=>Bool.noConfusion (hB1.2 h))
    ·exact decide_eq_true (hB1.1 rfl)
   have HS:=bC hs;have HBW:=bC hbw;clear hR hc hC hB1 hs hbw0;generalize s.bd=sb at*;generalize s.pa=sp at*;generalize s.un=su at*;go_upto_region 5 with(first
    |(refine bK (by rfl) 68 (.tmp 15) rfl ⟨b2,o+k*19,none⟩ rfl C _ hrow Tryz.underlying68 rfl hi ?_)
    |(refine bE rfl 68 (.tmp 9) (.tmp 16) rfl wr.heap.size 0 _ 68 C rfl rfl (bI wr _) (by simp [hcs]) hi h1c ?_;intro w5 g5 hk5 hz5))
   obtain⟨p5,hb5⟩:=var_new (by simp [hcs]) g5 hk5;clear g5 hk5 hz5 hrow;have y0:w5.cell? ⟨wr.heap.size,0,none⟩=some (.int .i64 sb):=by rw[bA p5 0];exact e0
   have y1:w5.cell? ⟨wr.heap.size,1,none⟩=some (.int .i64 sp):=by rw[bA p5 1];exact e1
   have y2:w5.cell? ⟨wr.heap.size,2,none⟩=some (.int .i64 su):=by rw[bA p5 2];exact e2
   have hbw5:=bU HBW.out hb5;have x0:w5.cell? ⟨w.heap.size,0,none⟩=some (.int .i64 bd):=bA (bB P0.out hbw5) 0;have x1:w5.cell? ⟨w.heap.size,1,none⟩=some (.int .i64 pa):=bA (bB P0.out hbw5) 1;have hown2:Hid (w5.ownsRow W0.heap.size 3 1 (.slice b m cc) m ((memb l bd pa un k).map fun i:Nat=>.int .i64 (i:Int))):=bF (F:=fun _=>False) hown.out (Keeps.of_below hb5) (fun _ _ e=>e);have HB5:=bC hbw5;clear e0 e1 e2 p5 hbw hb5 hbw5;cases B1 with
   |false=>
    have HNO:=bC (memb_no HS.out (bd:=bd) (pa:=pa) (un:=un) (by rw[HIS.out];rfl));go_wp2;go_roundw
    case rel=>exact⟨k+1,b,m,cc,by omega,by go_num,rfl,by show _=_;rw[HNO.out];exact hmb.out,by omega,by rw[HNO.out];exact hown2.out,HB5.out⟩
    case measure=>simp [intOf];omega
   |true=>
    by_cases hu:su=un
    ·have HYES:=bC (memb_yes HS.out (bd:=bd) (pa:=pa) (un:=un) (by rw[HIS.out,decide_eq_true hu];rfl))
     have g1:(su==un)=true:=b1 hu;clear hu;obtain⟨iI,hiI,hzI0,hzI1,hzI2⟩:=info_parts infoInt;have hown3:(w5.alloc (.cells #[.int .i64 (k:Int)] 3)).ownsRow W0.heap.size 3 1 (.slice b m cc) m ((memb l bd pa un k).map fun i:Nat=>.int .i64 (i:Int)):=bF (F:=fun _=>False) hown2.out (Keeps.of_below (bH _ _)) (fun _ _ e=>e);have hcl:∀j u,([.int .i64 (k:Int)]:List Value)[j]?=some u→(w5.alloc (.cells #[.int .i64 (k:Int)] 3)).cell? ((⟨w5.heap.size,0,none⟩:Addr).add j)=some u:=fun j u hj=>hpRowB (bI w5 _) j u hj
     have hz:W0.heap.size≤(w5.alloc (.cells #[.int .i64 (k:Int)] 3)).heap.size:=by have:=HB5.out.size;simp;omega
     have hkm:m+1≤maxLen:=by unfold maxLen;omega
     have hkb:(m+1)*8≤140737488355328:=by omega
     go_wp2_with (at_builtin;refine bZ rfl (.tmp 27) (.tmp 29) 58 rfl W0.heap.size 3 iI _ 1 8 Tryz.underlying58 hiI hzI0 hzI1 hzI2 rfl (by decide) (.slice b m cc) m _ rfl hown3 ⟨w5.heap.size,0,none⟩ 1 1 [.int .i64 (k:Int)] rfl rfl hcl (fun u hu=>(List.mem_singleton.1 hu)▸rfl) hkm hkb hz ?_;intro v13 w13 hown13 hgr13 hnew13;obtain⟨a13,c13,rfl⟩:=bN hown13);have hb13:Below W0.heap.size W0 w13:=by
      have h1:Below W0.heap.size W0 (w5.alloc (.cells #[.int .i64 (k:Int)] 3)):=cJ HB5.out (Nat.le_refl _) _;exact h1.trans ((Keeps.of_grown hgr13 (F:=fun j=>(Value.slice b m cc).ownBlock=some j) (fun j e=>e)).below h1.size (fun j hj e=>by have:=(hown3.lt j e).1;omega))
     go_roundw
     case rel=>exact⟨k+1,a13,m+1,c13,by omega,by go_num,rfl,by show _=_;rw[HYES.out,List.length_append,hmb.out];rfl,by omega,by rw[HYES.out,List.map_append];exact hown13,hb13⟩
     case measure=>simp [intOf];omega
    ·have HNO:=bC (memb_no HS.out (bd:=bd) (pa:=pa) (un:=un) (by rw[HIS.out,decide_eq_false hu];rfl))
     have g1:(su==un)=false:=by rw[beq_eq_false_iff_ne];exact hu
     clear hu;go_wp2;go_roundw
     case rel=>exact⟨k+1,b,m,cc,by omega,by go_num,rfl,by show _=_;rw[HNO.out];exact hmb.out,by omega,by rw[HNO.out];exact hown2.out,HB5.out⟩
     case measure=>simp [intOf];omega
  ·obtain rfl:k=n:=by omega
   go_wp2;go_ret;have hm:=hmb.out;subst hm;have h:=hown.out;obtain⟨hl1,h2⟩:=h;refine⟨b,cc,rfl,⟨hl1,?_⟩,hbw0⟩;rcases h2 with h2|⟨g,cap,cur,hv,hg,h3⟩
   ·exact .inl h2
   ·exact .inr ⟨g,cap,cur,hv,by have:=HZ0.out;omega,h3⟩
end Go.Proofs.YtoaoejaodhedaaaGreat
