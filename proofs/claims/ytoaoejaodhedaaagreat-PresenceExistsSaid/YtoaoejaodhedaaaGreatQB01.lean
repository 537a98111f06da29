import Derived.Test.YtoaoejaodhedaaaGreatQ40
namespace Go.Proofs.YtoaoejaodhedaaaGreat
open Go.RowKit
set_option maxHeartbeats 12800000
set_option maxRecDepth 100000
theorem z43_1 {p:Prop} (h:p:=by
 refine tG 5 112 ?_
 refine tG 6 113 ?_
 refine tG 7 114 ?_
 refine tG 8 115 ?_
 refine tG 9 116 ?_
 refine tG 10 117 ?_
 refine tG 11 118 ?_
 refine tG 12 119 ?_
 refine tG 13 120 ?_
 refine cR 14 121 (v:=.agg #[.int .i64 x0,.int .i64 x1]) rfl (by kernel_rfl) (fun _ _ _ h=>h) rfl (by rfl) (by assumption) (fun X hX=>cB 61 (.tmp 120) rfl ⟨b3,o3+t*2,none⟩ rfl #[.int .i64 x0,.int .i64 x1] _ (HRW.out X hX) Tryz.underlying61 rfl infoSt2) ?_;simp only[cA]
 refine tG 15 122 ?_
 refine bM 16 rfl (fun K hK=>?_);go_simp
 refine(HMM.out _ kD).mono ?_
 rintro r w15 ⟨ma,mc,rfl,hb15⟩
 have hB15:=bU kD hb15
 refine hK.out _ _ hB15 (fun hSx=>?_);clear hK K hSx
 refine tG 17 124 ?_
 refine tG 18 125 ?_
 refine tG 19 126 ?_
 refine wpAnyH_done (by kernel_rfl) ?_ _
 go_wp2
 go_roundw
 case rel=>exact⟨i+1,by omega,by have:=HX1.out;omega,by go_num,HIDX.out _ hB15,bU HBI.out hB15⟩
 case measure=>simp [intOf];omega):p:=h
theorem Walk.presenceExists {w:World} (cs:Array Value) (hr:Rd Tryz.prog w 35 cs.toList):
  Calls Tryz.prog 6 #[.agg cs] w fun r w'=>r=.returned (.bool true)∧Below w.heap.size w w':=by
 obtain⟨c,l,s,ks,sv,lv,av,cv,kv,rfl,hR,hL,hA,hC,hK⟩:=scn_rd hr;clear hr;obtain⟨n,hn⟩:=gE c.sets.length;obtain⟨ln,hln⟩:=gE l.length;obtain⟨an,han⟩:=gE s.ats.length;obtain⟨cn,hcn⟩:=gE s.cr.length;obtain⟨kn,hkn⟩:=gE ks.length;obtain⟨lp,hlp⟩:=gE s.loop;obtain⟨VV,hVV⟩:=cN (p:=ScnP c l s);obtain⟨VB,hVB⟩:=cN (p:=s.ok∧BdP s c.ti c.de);have HV:Hid (∀X,Below w.heap.size w X→Calls Tryz.prog 10 #[.agg (ScnC c sv lv av s.loop cv kv)] X (BoolPost X VV)):=fun X hX=>scnv_any c l s sv lv av cv kv X (hR.keep hX) (hL.keep hX) (hA.keep hX) (hC.keep hX) VV hVV
 have HBD:Hid (∀X,Below w.heap.size w X→Calls Tryz.prog 11 #[.agg #[av,.bool s.loop,cv],.int .i64 c.ti,.int .i64 c.de] X (BoolPost X VB)):=fun X hX=>rbnd_w s av cv c.ti c.de X (hA.keep hX) (hC.keep hX) VB hVB
 obtain⟨sa,sc,hsv,-⟩:=id hR;obtain⟨la,lc,hlv⟩:=hL.slc;obtain⟨aa,ac,hav,-⟩:=id hA;obtain⟨ca,cc,hcv,-⟩:=id hC;obtain⟨ka,kc,hkv,-⟩:=id hK;rw[hn] at hsv;rw[hln] at hlv;rw[han] at hav;rw[hcn] at hcv;rw[hkn] at hkv;subst hsv hlv hav hcv hkv;rw[hlp] at HV HBD ⊢;obtain⟨re,hre⟩:=gE c.re;obtain⟨ti,hti⟩:=gE c.ti;obtain⟨de,hde⟩:=gE c.de;obtain⟨C,hCC⟩:=gE (CfC c (.slice sa n sc));have hi:(Tryz.prog.info? 27).map (·.size)=some C.size:=by rw[←hCC];exact infoCfM
 obtain⟨D,hD⟩:=gE (ScnC c (.slice sa n sc) (.slice la ln lc) (.slice aa an ac) lp (.slice ca cn cc) (.slice ka kn kc));have hid':(Tryz.prog.info? 35).map (·.size)=some D.size:=by rw[←hD];exact infoScn
 rw[hD] at HV ⊢;obtain⟨W1,hW1,hb1,pD⟩:=alQ w (.cells D 35);have HCF:Hid (∀X,Below W1.heap.size W1 X→∀j u,C.toList[j]?=some u→X.cell? ((⟨w.heap.size,0,none⟩:Addr).add j)=some u):=fun X hX j u hj=>by
  rw[Addr.add_lit,Nat.zero_add,bA (bB pD hX),←hD];exact scn_cf (by rw[hCC];exact hj)
 have HSC:Hid (∀X,Below W1.heap.size W1 X→∀j u,(#[.slice aa an ac,.bool lp,.slice ca cn cc]:Array Value).toList[j]?=some u→X.cell? ((⟨w.heap.size,17,none⟩:Addr).add j)=some u):=fun X hX j u hj=>by
  rw[Addr.add_lit,bA (bB pD hX),←hD];rcases j with _|_|_|j
  ·cases hj;rfl
  ·cases hj;rfl
  ·cases hj;rfl
  ·cases hj
 have t0:∀X,Below W1.heap.size W1 X→X.cell? ⟨w.heap.size,0,none⟩=some (.slice sa n sc):=fun X hX=>(bA (bB pD hX) 0).trans (by rw[←hD];rfl)
 have t3:∀X,Below W1.heap.size W1 X→X.cell? ⟨w.heap.size,3,none⟩=some (.int .i64 re):=fun X hX=>(bA (bB pD hX) 3).trans (by rw[←hD,←hre];rfl)
 have t4:∀X,Below W1.heap.size W1 X→X.cell? ⟨w.heap.size,4,none⟩=some (.int .i64 ti):=fun X hX=>(bA (bB pD hX) 4).trans (by rw[←hD,←hti];rfl)
 have t5:∀X,Below W1.heap.size W1 X→X.cell? ⟨w.heap.size,5,none⟩=some (.int .i64 de):=fun X hX=>(bA (bB pD hX) 5).trans (by rw[←hD,←hde];rfl)
 have t16:∀X,Below W1.heap.size W1 X→X.cell? ⟨w.heap.size,16,none⟩=some (.slice la ln lc):=fun X hX=>(bA (bB pD hX) 16).trans (by rw[←hD];rfl)
 have t20:∀X,Below W1.heap.size W1 X→X.cell? ⟨w.heap.size,20,none⟩=some (.slice ka kn kc):=fun X hX=>(bA (bB pD hX) 20).trans (by rw[←hD];rfl)
 have HPD:Hid (∀X,Below W1.heap.size W1 X→X.heap[w.heap.size]?=some (.cells D 35)):=fun X hX=>bB pD hX
 rw[hti,hde] at HBD;have HW1:=bC hW1;have HB1:=bC hb1;have HLE:=bC (And.intro hn (And.intro hln (And.intro han (And.intro hcn (And.intro hkn hlp)))));have HRE:=bC hre;have HTI:=bC (And.intro hti hde);have HCC:=bC hCC;have HDD:=bC hD;have HVV:=bC hVV;have HVB:=bC hVB;have HR:=bC hR;have HL:=bC hL;have HA:=bC hA;have HC:=bC hC;have HK:=bC hK;clear hn hln han hcn hkn hlp hVV hVB hR hL hA hC hK hre hti hde hCC hD hW1 hb1 pD;have kW:Below W1.heap.size W1 W1:=Below.refl _ _;have pw1:=HPD.out W1 kW;cases VV with
 |false=>
  go_enter Tryz.func6,Tryz.ntmps6;go_upto_region 1 with(fail)
  rw[HW1.out];go_wp2_with (refine bK (by rfl) 35 (.tmp 1) rfl ⟨w.heap.size,0,none⟩ rfl D _ (rowAtW pw1) Tryz.underlying35 rfl hid' ?_);go_wp2_with (first|(go_at_call 10;(with_reducible refine(HV.out _ HB1.out).mono ?_);rintro r x1 ⟨rfl,y1⟩;have z1:=bU HB1.out y1;have c4:=t4 x1 y1;have c5:=t5 x1 y1)|(go_at_call 31;(with_reducible refine(cP _).mono ?_);rintro r wz ⟨rfl,hbz⟩));go_ret;exact⟨rfl,bU z1 hbz⟩
 |true=>
 cases VB with
 |false=>
  go_enter Tryz.func6,Tryz.ntmps6;go_upto_region 1 with(fail)
  rw[HW1.out];go_wp2_with (refine bK (by rfl) 35 (.tmp 1) rfl ⟨w.heap.size,0,none⟩ rfl D _ (rowAtW pw1) Tryz.underlying35 rfl hid' ?_);go_wp2_with (first|(go_at_call 10;(with_reducible refine(HV.out _ HB1.out).mono ?_);rintro r x1 ⟨rfl,y1⟩;have z1:=bU HB1.out y1;have c4:=t4 x1 y1;have c5:=t5 x1 y1)|(refine bK (by rfl) 32 (.tmp 19) rfl ⟨w.heap.size,17,none⟩ rfl #[.slice aa an ac,.bool lp,.slice ca cn cc] _ (HSC.out _ y1) Tryz.underlying32 rfl cE ?_)|(go_at_call 11;(with_reducible refine(HBD.out _ z1).mono ?_);rintro r x2 ⟨rfl,y2⟩;have z2:=bU z1 y2;have k2:=bU y1 y2)|(go_at_call 31;(with_reducible refine(cP _).mono ?_);rintro r wz ⟨rfl,hbz⟩));go_ret;exact⟨rfl,bU z2 hbz⟩
 |true=>
 have HP:Hid (ScnP c l s):=HVV.out.1 rfl;have HBP:Hid (BdP s c.ti c.de):=(HVB.out.1 rfl).2;have HG:Hid (CfG c):=CfG.of HP.out.2.1;have HLN:Hid (∀X,Below w.heap.size w X→Calls Tryz.prog 24 #[.slice la ln lc,.agg #[.slice aa an ac,.bool lp,.slice ca cn cc]] X (LnMade X l lp s.ats)):=fun X hX=>by
  have h:=lnew_ok l s la ln lc (.slice aa an ac) (.slice ca cn cc) X HLE.out.2.1 (HL.out.keep hX) (HA.out.keep hX) (HC.out.keep hX) HP.out.2.2.2.1 HP.out.2.2.2.2.2;rw[HLE.out.2.2.2.2.2] at h;exact h
 have HLM:Hid (∀X r X',LnMade X l lp s.ats r X'→∃g a c a2 c2,r=.returned (.tuple #[.pointer (some ⟨g,0,none⟩),.int .i64 0])∧LnAt (fun j=>j=g) X' g (.slice a l.length c) (.slice a2 s.ats.length c2) lp Ln.zero∧LnG (fun j=>j=g) X' a l.length c a2 s.ats.length c2 l s.ats lp∧X.heap.size≤g∧Below X.heap.size X X'):=fun X r X' h=>
  h.at HP.out.2.2.2.1 HP.out.2.2.2.2.2.2.2.2.2 (fun e=>by
   have h2:=HP.out.2.2.2.2.2.2.1
   rw[HLE.out.2.2.2.2.2] at h2
   have:¬s.ats.length=0:=fun e2=>h2 ⟨e,e2⟩
   omega)
 have HMN:Hid (∀X g,Below w.heap.size w X→Calls Tryz.prog 25 #[.agg C,.pointer (some ⟨g,0,none⟩),.int .i64 0] X (NewYes c (.pointer (some ⟨g,0,none⟩)) 0 X)):=fun X g hX=>by
  rw[←HCC.out];exact mnew_yes c HP.out.2.1 _ g 0 (by decide) (by decide) X (HR.out.keep hX)
 go_enter Tryz.func6,Tryz.ntmps6;go_upto_region 1 with(fail)
 rw[HW1.out];go_wp2_with (refine bK (by rfl) 35 (.tmp 1) rfl ⟨w.heap.size,0,none⟩ rfl D _ (rowAtW pw1) Tryz.underlying35 rfl hid' ?_);go_upto_region 4 with(first
  |(go_at_call 10;(with_reducible refine(HV.out _ HB1.out).mono ?_);rintro r x1 ⟨rfl,y1⟩;have z1:=bU HB1.out y1;have c4:=t4 x1 y1;have c5:=t5 x1 y1)
  |(refine bK (by rfl) 32 (.tmp 19) rfl ⟨w.heap.size,17,none⟩ rfl #[.slice aa an ac,.bool lp,.slice ca cn cc] _ (HSC.out _ y1) Tryz.underlying32 rfl cE ?_)
  |(go_at_call 11;(with_reducible refine(HBD.out _ z1).mono ?_);rintro r x2 ⟨rfl,y2⟩;have z2:=bU z1 y2;have k2:=bU y1 y2;have c16:=t16 _ k2)
  |(refine cC rfl 32 (.tmp 34) rfl ⟨w.heap.size,17,none⟩ rfl #[.slice aa an ac,.bool lp,.slice ca cn cc] _ (HSC.out _ k2) Tryz.underlying32 rfl cE ?_)
  |(go_at_call 24;(with_reducible refine(HLN.out _ z2).mono ?_);rintro r w6 hm6;obtain⟨gl,a6,c6,a7,c7,rfl,hat6,hG6,hgl6,hb6⟩:=HLM.out _ _ _ hm6))
 have k6:=bU k2 hb6;have z6:=bU z2 hb6;have HAT6:=bC hat6;have HG6:=bC hG6;have HGL:Hid (W1.heap.size≤gl):=by have:=(k2).size;show _≤_;omega
 clear hm6 hat6 hG6 hgl6;go_upto_region 5 with(first
  |(refine cC rfl 27 (.tmp 40) rfl ⟨w.heap.size,0,none⟩ rfl C _ (HCF.out _ k6) Tryz.underlying27 rfl hi ?_)
  |(go_at_call 25;(with_reducible refine(HMN.out _ gl z6).mono ?_);rintro r w8 ⟨gm,sv8,rfl,hgm,hat8,hr8,hb8⟩))
 have HM8:=bC (MsS.start (f:=⟨a6,l.length,c6,a7,s.ats.length,c7,lp,l,s.ats⟩) HAT6.out HG6.out Ln.zero_ok HP.out.2.1 hgm hat8 hr8 hb8 (Tx.new 0 0 0 0 0) (Lk.new 0 0 0 0 0));have HGM:Hid (W1.heap.size≤gm):=by have:=k6.size;show _≤_;omega
 have HX8:Hid (MxS gm gl (fun j=>j=gl∨j=gm) c sv8 ⟨a6,l.length,c6,a7,s.ats.length,c7,lp,l,s.ats⟩ ⟨Ln.zero,false,Tx.new 0 0 0 0 0,0,0⟩ 0 w8):=⟨0,0,_,_,_,HM8.out,Nat.le_refl _⟩
 have HWT:=bC (mx_wait HX8.out rfl rfl (by decide) (by decide));have HK8:Hid (Below W1.heap.size W1 w8):=bU k6 hb8;clear hgm hat8 hr8 hb8 HM8;go_upto_region 8 with(go_at_call 22;(with_reducible refine HWT.out.mono ?_);rintro r w9 ⟨now9,rfl,hn9,hn9',hM9,hk9⟩)
 have HK9:Hid (Below W1.heap.size W1 w9):=HK8.out.trans (hk9.below HK8.out.size (fun j hj e=>by
  have:=HGL.out
  have:=HGM.out
  rcases e with e|e<;>omega))
 have HID:Hid (Idle gm gl W1.heap.size c l s 0 w9):=⟨_,_,_,_,hM9.le (by decide),⟨rfl,rfl,hn9,hn9,hn9,by show now9≤_;have h:now9≤0+20000000:=hn9';omega,Nat.zero_le _⟩,fun j hj=>(by
  have h1:=HGL.out
  have h2:=HGM.out
  have h3:=HK8.out.size
  rcases hj with(e|e)|e<;>omega),rfl,rfl,HLE.out.2.2.2.2.2.symm⟩
 clear hn9 hn9' hM9 hk9 HX8 HWT k6 z6 hb6;go_wp2;go_loopw [7] (fun iv wr=>∃i:Nat,i≤6∧i≤kn∧iv=.int .i64 (i:Int)∧Hid (Idle gm gl W1.heap.size c l s i wr)∧Below W1.heap.size W1 wr) (fun iv _=>6- (intOf iv).toNat)
 case atStart=>exact⟨0,Nat.zero_le _,Nat.zero_le _,rfl,HID.out,HK9.out⟩
 case round=>
  obtain⟨i,hi6,hikn,rfl,hidl,hbw⟩:=hrel;have hki:(0:Int)≤(i:Int):=Int.natCast_nonneg _;have HBW:=bC hbw;have x20:=t20 wr hbw;have HBX:Hid (Below w.heap.size w wr):=bU HB1.out hbw;by_cases hlt:i<kn∧i<6
  ·obtain ⟨h1,h2⟩:=hlt
   have g1:decide ((i:Int)<(kn:Int))=true:=decide_eq_true (by omega);have g2:decide ((i:Int)<6)=true:=decide_eq_true (by omega);have g1':(i:Int)<(kn:Int):=by omega
   have g2':(i:Int)<6:=by omega
   obtain⟨x,hx⟩:=gs (l:=ks) HLE.out.2.2.2.2.1 h1;obtain⟨b2,o2,c2,hkv,hxw,hxr⟩:=HK.out.row hx;rw[HLE.out.2.2.2.2.1] at hkv;simp only[Value.slice.injEq,true_and] at hkv;obtain⟨rfl,rfl⟩:=hkv;obtain⟨A,hAq⟩:=gE x.C;rw[hAq] at hxr;have hia:(Tryz.prog.info? 49).map (·.size)=some A.size:=by rw[←hAq];exact infoAq
   have HTG:Hid (∀X,Below w.heap.size w X→Calls Tryz.prog 15 #[.agg D,.agg A] X (TgPost X n (mkRq x.fn x.a (x.b%12)))):=fun X hX=>by
    have h:=target_any c l (.slice sa n sc) (.slice la ln lc) (.slice aa an ac) (.slice ca cn cc) (.slice (some ⟨b2,o2,none⟩) kn kc) lp HG.out.ne HG.out.le HP.out.2.2.2.1 x hxw X (HR.out.keep hX) (HL.out.keep hX);rw[HDD.out,hAq,HLE.out.1] at h;exact h
   obtain⟨Q,hQ⟩:∃Q,mkRq x.fn x.a (x.b%12)=Q:=⟨_,rfl⟩
   rw[hQ] at HTG;have HXR:Hid (∀X,Below wr.heap.size wr X→∀j u,A.toList[j]?=some u→X.cell? ((⟨b2,o2+i*6,none⟩:Addr).add j)=some u):=fun X hX=>hxr X (bU HBX.out hX)
   have kD:Below wr.heap.size wr wr.drew:=(Below.refl _ _).drew;have HPW:Hid (∀X,Below wr.heap.size wr X→∀j u,D.toList[j]?=some u→X.cell? ((⟨w.heap.size,0,none⟩:Addr).add j)=some u):=fun X hX j u hj=>rowAtW (HPD.out X (bU HBW.out hX)) j u hj
   have y20:∀X,Below wr.heap.size wr X→X.cell? ⟨w.heap.size,20,none⟩=some (.slice (some ⟨b2,o2,none⟩) kn kc):=fun X hX=>t20 X (bU HBW.out hX)
   have HX1:=bC h1;clear hx hxw hxr hAq hQ h1 h2 hikn;go_upto_region 11 with(fail)
   go_cut [8,9,10] from 69 to 79 (fun s8 s9 s10 wc=>∃(t:Nat) (u:Int),s8=.int .i64 (t:Int)∧s9=.int .i64 u∧Hid (t<n∧1≤u∧u≤247)∧Below wr.heap.size wr wc)
   case first=>
    clear t0 t3 t4 t5 t16 t20 x20 hbw;refine wp_region_held_drew (S:=fun V=>Below wr.heap.size wr V) (by kernel_rfl) kD (fun hH=>?_);clear hH;refine cR 0 70 (v:=.agg D) rfl (by kernel_rfl) (fun _ _ _ h=>h) rfl (by rfl) (by assumption) (fun X hX=>run_load_rowW 35 (.tmp 1) rfl ⟨w.heap.size,0,none⟩ rfl D _ (HPW.out X hX) Tryz.underlying35 rfl hid') ?_;simp only[cA];refine tG 1 71 ?_;refine tG 2 72 ?_;refine tG 3 73 ?_;refine tG 4 74 ?_;refine cR 5 75 (v:=.agg A) rfl (by kernel_rfl) (fun _ _ _ h=>h) rfl (by rfl) (by assumption) (fun X hX=>cB 49 (.tmp 74) rfl ⟨b2,o2+i*6,none⟩ rfl A _ (HXR.out X hX) Tryz.underlying49 rfl hia) ?_;simp only[cA];refine wpAnyH_ready (rs:=[6,11]) (by kernel_rfl) (by simp) ?_;refine AllReadyH.cons rfl (fun K hK=>?_) (AllReadyH.cons rfl (fun K hK=>?_) AllReadyH.nil)
    ·go_simp
     refine(HTG.out _ (bU HBX.out kD)).mono ?_;rintro r y3 ⟨t,u,ht,hu,rfl,hy3⟩;have hB3:=bU kD hy3;refine hK.out _ _ hB3 (fun hSx=>?_);clear hK K hSx;refine tG 7 69 ?_;refine tG 8 77 ?_;refine tG 9 78 ?_;refine tG 10 79 ?_;refine bM 11 rfl (fun K hK=>?_);go_simp;have hB4:Below wr.heap.size wr (y3.alloc (.cells #[.int .i64 0,.int .i64 0,.int .i64 0,.int .i64 0,.int .i64 0] 45)):=cJ hB3 (Nat.le_refl _) _;refine hK.out _ _ hB4 (fun hSx=>?_);clear hK K hSx;refine tG 12 8 ?_;refine tG 13 9 ?_;refine bM 14 rfl (fun K hK=>?_);refine bR rfl 45 (.tmp 10) (.tmp 79) rfl y3.heap.size 0 _ 45 #[.int .i64 Q.fn,.int .i64 Q.addr,.int .i64 Q.qty,.int .i64 Q.code,.int .i64 Q.obj] rfl rfl (bI y3 (.cells #[.int .i64 0,.int .i64 0,.int .i64 0,.int .i64 0,.int .i64 0] 45)) (by simp) infoRq5 rfl ?_;intro y5 g5 hk5 hz5;have hB5:Below wr.heap.size wr y5:=hB4.trans (hk5.below hB4.size (fun i hi e=>by have:=hB3.size;omega));refine hK.out _ _ hB5 (fun hSx=>?_);clear hK K hSx;refine wpAnyH_done (by kernel_rfl) ?_ _;go_wp2;go_meet
     case rel=>exact⟨t,u,rfl,rfl,⟨ht,hu⟩,hB5⟩
    ·go_simp
     have hB4:Below wr.heap.size wr (wr.alloc (.cells #[.int .i64 0,.int .i64 0,.int .i64 0,.int .i64 0,.int .i64 0] 45)).drew:=(bH wr _).drew;refine hK.out _ _ hB4 (fun hSx=>?_);clear hK K hSx;refine bM 6 rfl (fun K hK=>?_);go_simp;refine(HTG.out _ (bU HBX.out hB4)).mono ?_;rintro r y3 ⟨t,u,ht,hu,rfl,hy3⟩;have hB3:=bU hB4 hy3;have p3:y3.heap[wr.heap.size]?=some (.cells #[.int .i64 0,.int .i64 0,.int .i64 0,.int .i64 0,.int .i64 0] 45):=bB (w:=(wr.alloc (.cells #[.int .i64 0,.int .i64 0,.int .i64 0,.int .i64 0,.int .i64 0] 45)).drew) (bI wr _) hy3;refine hK.out _ _ hB3 (fun hSx=>?_);clear hK K hSx;refine tG 7 69 ?_;refine tG 8 77 ?_;refine tG 9 78 ?_;refine tG 10 79 ?_;refine tG 12 8 ?_;refine tG 13 9 ?_;refine bM 14 rfl (fun K hK=>?_);refine bR rfl 45 (.tmp 10) (.tmp 79) rfl wr.heap.size 0 _ 45 #[.int .i64 Q.fn,.int .i64 Q.addr,.int .i64 Q.qty,.int .i64 Q.code,.int .i64 Q.obj] rfl rfl p3 (by simp) infoRq5 rfl ?_;intro y5 g5 hk5 hz5;have hB5:Below wr.heap.size wr y5:=hB3.trans (hk5.below hB3.size (fun i hi e=>by have e':i=wr.heap.size:=e;omega));refine hK.out _ _ hB5 (fun hSx=>?_);clear hK K hSx;refine wpAnyH_done (by kernel_rfl) ?_ _;go_wp2;go_meet
     case rel=>exact⟨t,u,rfl,rfl,⟨ht,hu⟩,hB5⟩
   case rest=>
    obtain⟨t,u,rfl,rfl,htu,hbc⟩:=hcut;obtain⟨WA,hWA⟩:∃W,W=wc:=⟨_,rfl⟩
    subst hWA;obtain⟨P,sv2,f,y,hMx,hRest,hPB,hf1,hf2,hf3⟩:=hidl.out;obtain⟨⟨x0,x1⟩,hsx⟩:=gs (l:=c.sets) HLE.out.1 htu.out.1;have hset:Okset x0 x1:=HG.out.set _ (List.mem_of_getElem? hsx);have hMA:=hMx.keepB hbc;have hn1:=hRest.n1;have HBGN:Hid (∀X,Below WA.heap.size WA X→Calls Tryz.prog 26 #[.pointer (some ⟨gm,0,none⟩),.int .i64 (t:Int),.int .i64 u,.agg #[.int .i64 3,.int .i64 0,.int .i64 1,.int .i64 0,.int .i64 0]] X (MxPost gm gl P c sv2 f ⟨y.n,true,(Tx.new x0 x1 c.re c.ti c.de).begun u qPr y.now,t,y.now⟩ 1 X)):=fun X hX=>mx_begin (hMA.keepB hX) hRest.fin t x0 x1 hsx u qPr htu.out.2 qPr_ok hRest.n0 (by omega)
    obtain⟨SC,hSC⟩:=gE (mkSc c l s x0 x1 u qPr y.n.sent);have HSOK:Hid SC.ok:=by rw[←hSC];exact mkSc_ok HG.out HP.out.2.2.2.1 HP.out.2.2.2.2.2 HBP.out hset htu.out.2 qPr_ok
    have hsre:SC.re=re:=by rw[←hSC];exact HRE.out
    have HSN:Hid (SC.s0.length≤6*i∧y.now≤20000000+90000000*i):=⟨by rw[←hSC];exact hRest.sn,hRest.n1⟩
    have HSRE:Hid (SC.re=re∧0≤re∧re≤5):=⟨hsre,by rw[←HRE.out];exact HG.out.re0,by rw[←HRE.out];exact HG.out.re1⟩
    have HAT:=bC (trAtt HSOK.out (by have:=HSN.out.1;omega) y.now (by have:=HSN.out.2;omega) (by rw[hsre];exact HSRE.out.2.2));have HST:Hid (TrW SC 0 y.now ⟨y.n,(Tx.new x0 x1 c.re c.ti c.de).begun u qPr y.now⟩):=by
     have h:=TrW.start (sc:=SC) hRest (by rw[←hSC];rfl) (by rw[hsre];exact HSRE.out.2.1);rw[←hSC] at h ⊢;exact h
    have HSX:Hid (c.sets[t]?=some (SC.bd,SC.pa)):=by rw[←hSC];exact hsx
    have HFF:Hid (f.l=SC.l∧f.ats=SC.ats∧f.lp=SC.lp):=by rw[←hSC];exact⟨hf1,hf2,hf3⟩
    have HF3:=bC (And.intro hf1 (And.intro hf2 hf3));have HMS:Hid (∀ms:List Nat,ms=memb l x0 x1 u l.length→ms=SC.ms):=fun ms e=>by rw[e,←hSC];rfl
    have HWFS:Hid (wfI x0∧wfI x1):=by have:=hset.bd;have:=hset.lo;have:=hset.hi;show wfI _∧wfI _;unfold wfI;omega
    have HMA:=bC hMA;have HPBB:=bC hPB;have HTU:=htu;have HAW:Hid (Below W1.heap.size W1 WA):=bU HBW.out hbc;have HSX2:=bC hsx;clear hMx hRest hPB hf1 hf2 hf3 hsx hset hMA hn1 hSC hsre htu hbc hidl x20 kD y20 HPW HXR HTG;go_upto_region 14 with(first
     |(go_at_call 32;(with_reducible refine(prequest_any _).mono ?_);rintro r wb ⟨rfl,hbb⟩)
     |(go_at_call 26;(with_reducible refine(HBGN.out _ hbb).mono ?_);rintro r wc2 ⟨rfl,hMc,hkc⟩))
    have HPC:Hid (∀j,GrowP P wb wc2 j→W1.heap.size≤j):=fun j hj=>by
     have h1:=HAW.out.size;have h2:=hbb.size;rcases hj with e|e
     ·exact HPBB.out j e
     ·omega
    have HMc:=bC hMc;have HKC:Hid (Below W1.heap.size W1 wc2):=(HAW.out.trans (hbb.mono HAW.out.size)).trans (hkc.below (by have:=HAW.out.size;have:=hbb.size;omega) (fun j hj e=>by have:=HPBB.out j e;omega));obtain⟨P9,hP9⟩:=gE (GrowP P wb wc2);rw[hP9] at HPC HMc;obtain⟨W10,hW10⟩:∃W,wc2.alloc (.cells #[.int .i64 0,.int .i64 0,.int .i64 0,.slice none 0 0,.int .i64 0,.int .i64 0,.bool false,.int .i64 0,.slice none 0 0] 55)=W:=⟨_,rfl⟩
    have hb10:Below wc2.heap.size wc2 W10:=by rw[←hW10];exact bH wc2 _
    obtain⟨ob,hob⟩:=gE wc2.heap.size;have pO:W10.heap[ob]?=some (.cells #[.int .i64 0,.int .i64 0,.int .i64 0,.slice none 0 0,.int .i64 0,.int .i64 0,.bool false,.int .i64 0,.slice none 0 0] 55):=by rw[←hW10,←hob];exact bI wc2 _
    have HW10:=bC hW10;have HOBE:=bC hob;have HM10:Hid (MxS gm gl P9 c sv2 f (MsD ⟨y.n,(Tx.new x0 x1 c.re c.ti c.de).begun u qPr y.now⟩ t) 1 W10):=HMc.out.keepB hb10;have HNO:Hid (∀W,¬GrowP P9 W10 W ob):=fun W e=>by
     have hz:W10.heap.size=ob+1:=by rw[←hW10,←hob];simp
     rcases e with e|e
     ·have:=HMc.out.plt _ e
      omega
     ·omega
    have HIN:Hid (InS gm gl ob P9 c sv2 f t SC y.now wc2 W10 0 false W10):=
     ⟨_,1,HM10.out.base HM10.out (Keeps.refl _ _) (fun j hj=>.inl hj),⟨Keeps.of_below hb10,Nat.le_refl _⟩,by decide,fun _=>HST.out,fun e=>(by cases e),⟨0,_,_,_,_,_,_,_,_,pO,fun e=>(by cases e)⟩⟩
    have HK10:Hid (Below W1.heap.size W1 W10):=bU HKC.out hb10;have HOBZ:Hid (W1.heap.size≤ob∧wc2.heap.size≤ob):=by have:=HKC.out.size;show _∧_;omega
    have hb10':=bC hb10;clear HBGN hbb hMc hkc hP9 hW10 hb10 hob pO;go_upto_region 15 with(fail)
    rw[HW10.out,HOBE.out];clear HW10 HOBE;go_wp2;go_loopw [12,13] (fun mv dv wi=>∃(m:Nat) (Dn:Bool),m≤7∧mv=.int .i64 (m:Int)∧dv=.bool Dn∧Hid (InS gm gl ob P9 c sv2 f t SC y.now wc2 W10 m Dn wi)∧Below W1.heap.size W1 wi) (fun mv _ _=>8- (intOf mv).toNat)
    case atStart=>exact⟨0,false,by decide,rfl,rfl,HIN.out,HK10.out⟩
    case round=>
     clear HIN HST;obtain⟨m,Dn,hm7,rfl,rfl,hin,hbi⟩:=hrel;have hkm:(0:Int)≤(m:Int):=Int.natCast_nonneg _;obtain⟨d,kk,hMd,hkd,hkk,hW,hDd,v,a1,a2,a3,a4,a5,a6',a7',a8,hpo,hvv⟩:=hin.out;have HMD:=bC hMd;have HKD:=bC hkd;have HKK:=bC hkk;have HPO:=bC hpo;have HBI:=bC hbi;cases Dn with
     |false=>
      have HWP:=bC (hW rfl);have hle:=HAT.out.le HWP.out;rw[HSRE.out.1] at hle;have q1:decide (re<(m:Int))=false:=decide_eq_false (by omega);have q1':¬re<(m:Int):=by omega
      have hm5:m≤5:=by have:=HSRE.out;omega
      have x3:=t3 wr hbi;have HSD:=bC (mx_send HAT.out hMd HWP.out HSX.out HFF.out (by omega));obtain⟨V,hV⟩:∃V,decide ((SC.go d).x.ph=5)=V:=⟨_,rfl⟩
      obtain⟨O,hO⟩:=gE ((SC.go d).x.shown);have HV2:=bC hV;have HO:=bC hO;have HM5:=bC hm5;clear hin hMd hkd hkk hW hDd hvv hpo hbi hV hO hle hm7;go_upto_region 20 with(go_at_call 27;(with_reducible refine HSD.out.mono ?_);rintro r w12 ⟨rfl,hM12,hk12⟩)
      have HS12:=bC (MxS.step2 HMc.out hb10'.out.size HKD.out.2 HKD.out.1 hM12 hk12);have HZ12:Hid (W10.heap.size≤w12.heap.size):=Nat.le_trans HKD.out.2 hk12.size;have HLI:=bC (mx_listen HAT.out HS12.out.1 HWP.out (by have:=HKK.out;have:=HM5.out;omega) V HV2.out);have HP12:=bC (bG HPO.out hk12 (HNO.out _));have HB12:Hid (Below W1.heap.size W1 w12):=HBI.out.trans (hk12.below HBI.out.size (fun j hj e=>by
       rcases e with e|e
       ·have:=HPC.out j e;omega
       ·have:=HK10.out.size;omega))
      clear hM12 hk12 HSD;go_wp2_with (first
       |(go_at_call 23;(with_reducible refine HLI.out.mono ?_);rintro r w13 ⟨da,dc,oa,oc,rfl,hrd,hM13,hk13⟩;rw[HO.out];have pO13:=bG HP12.out hk13 (HNO.out _))
       |(refine bE rfl 55 (.tmp 11) (.tmp 103) rfl ob 0 _ 55 #[.int .i64 O.verdict,.int .i64 O.reply.fn,.int .i64 O.reply.exc,.slice da O.reply.data.length dc,.int .i64 O.reply.code,.int .i64 O.reply.level,.bool O.reply.more,.int .i64 O.reply.next,.slice oa O.reply.objs.length oc] rfl rfl pO13 (by simp) info9m rfl ?_;intro w14 g14 hk14 hz14))
      have hs13:=MxS.step2 HMc.out hb10'.out.size HZ12.out HS12.out.2 hM13 hk13;have hs14:=MxS.store2 HMc.out hb10'.out.size hs13.1 hs13.2 HOBZ.out.2 (HNO.out _) hk14 hz14;have g14':w14.heap[ob]?=some (.cells #[.int .i64 O.verdict,.int .i64 O.reply.fn,.int .i64 O.reply.exc,.slice da O.reply.data.length dc,.int .i64 O.reply.code,.int .i64 O.reply.level,.bool O.reply.more,.int .i64 O.reply.next,.slice oa O.reply.objs.length oc] 55):=g14;have HIN2:Hid (InS gm gl ob P9 c sv2 f t SC y.now wc2 W10 (m+1) V w14):=by
       refine⟨SC.go d,kk+1+100000000,hs14.1,⟨hs14.2,by have:=HZ12.out;have:=hk13.size;omega⟩,by have:=HKK.out;omega,fun e=>?_,fun e=>?_,⟨_,_,_,_,_,_,_,_,_,g14',fun e=>?_⟩⟩
       ·rcases HAT.out.next HWP.out with h|h
        ·exact h
        ·have h5:=HAT.out.ph5 h
         have:=HV2.out;rw[decide_eq_true h5,e] at this;cases this
       ·rcases HAT.out.next HWP.out with h|h
        ·have h5:=HAT.out.ph1 h
         have:=HV2.out;rw[decide_eq_false (by rw[h5];decide),e] at this;cases this
        ·exact h
       ·rw [←HO.out]
        have h5:(SC.go d).x.ph=5:=of_decide_eq_true (HV2.out.trans e);unfold Tx.shown;rw[if_pos h5]
      have HB14:Below W1.heap.size W1 w14:=(HB12.out.trans (hk13.below HB12.out.size (fun j hj e=>by
       rcases e with e|e
       ·have:=HPC.out j e;omega
       ·have:=HK10.out.size;omega))).trans (hk14.below (by have:=HB12.out.size;have:=hk13.size;omega) (fun j hj e=>by have e':j=ob:=e;have:=HOBZ.out;omega))
      go_roundw
      case rel=>exact⟨m+1,V,by have:=HM5.out;omega,by go_num,rfl,HIN2.out,HB14⟩
      case measure=>simp [intOf];omega
     |true=>
      have HDP:=bC (hDd rfl);have hve:=hvv rfl;have HVE:=bC hve;have HIDX:Hid (∀X,Below wr.heap.size wr X→Idle gm gl W1.heap.size c l s (i+1) X):=fun X hX=>
       ⟨_,_,_,_,(hMd.le (by omega)).keepB hX,HDP.out.rest (by rw[HSRE.out.1];exact HSRE.out.2.2) HSN.out.2 HSN.out.1 t,fun j hj=>(by
        rcases hj with e|e
        ·exact HPC.out j e
        ·have:=HK10.out.size;omega),HF3.out⟩
      obtain⟨b3,o3,c3,hv3,-,-,hcl⟩:=HR.out.at HSX2.out;rw[HLE.out.1] at hv3;simp only[Value.slice.injEq,true_and] at hv3;obtain⟨rfl,rfl⟩:=hv3;have HRW:Hid (∀X,Below wr.heap.size wr X→∀j u,(#[.int .i64 x0,.int .i64 x1]:Array Value).toList[j]?=some u→X.cell? ((⟨b3,o3+t*2,none⟩:Addr).add j)=some u):=fun X hX j u hj=>by
       obtain⟨e0,e1⟩:=hcl X (bU (bU HB1.out HBI.out) hX);rw[Addr.add_lit];rcases j with _|_|j
       ·cases hj;exact e0
       ·cases hj;exact e1
       ·cases hj
      obtain⟨ml,hml⟩:=gE SC.ms.length;have HMM:Hid (∀X,Below wr.heap.size wr X→Calls Tryz.prog 17 #[.slice la ln lc,.agg #[.int .i64 x0,.int .i64 x1],.int .i64 u] X fun r w'=>∃a c,r=.returned (.slice a ml c)∧Below X.heap.size X w'):=fun X hX=>(rmemb_any la lc l ln X HLE.out.2.1 (by have:=HP.out.2.2.2.1.1;have:=HLE.out.2.1;omega) (HL.out.keep (bU (bU HB1.out HBI.out) hX)) x0 x1 u HWFS.out.1 HWFS.out.2).mono fun r w' h=>by
       obtain⟨a,c,h1,-,h3⟩:=h;rw[HMS.out (memb l x0 x1 u ln) (by rw[HLE.out.2.1]),hml] at h1;exact⟨a,c,h1,h3⟩
      have HML:=bC hml;have y0:∀X,Below wr.heap.size wr X→X.cell? ⟨w.heap.size,0,none⟩=some (.slice (some ⟨b3,o3,none⟩) n sc):=fun X hX=>t0 X (bU HBI.out hX)
      have y16:∀X,Below wr.heap.size wr X→X.cell? ⟨w.heap.size,16,none⟩=some (.slice la ln lc):=fun X hX=>t16 X (bU HBI.out hX)
      have tn:(t:Int)<(n:Int):=by have:=HTU.out.1;omega
      have tn0:(0:Int)≤(t:Int):=Int.natCast_nonneg _;have tnd:decide (t<n)=true:=decide_eq_true HTU.out.1;clear hin hMd hkd hkk hW hDd hvv hve hbi hm7 hcl t0 t3 t4 t5 t16 t20 HM10 HNO HAT hml;have hvs:=HDP.out.vs;rw[←HVE.out] at hvs;have hgd:=HDP.out.good;have hlt5:=HDP.out.late;rw[←HVE.out] at hgd hlt5;by_cases c1:v=1∨v=2
      ·have hst:stateOf v=2:=stateOf2 c1
       have hone:ml=1:=by
        obtain⟨j,s2,e,-⟩:=hgd c1;rw[←HML.out,e];rfl
       subst hone;have HPS:Hid (∀X,Calls Tryz.prog 33 #[.agg #[.int .i64 v,a1,a2,a3,a4,a5,a6',a7',a8]] X fun r w'=>r=.returned (.int .i64 2)∧Below X.heap.size X w'):=fun X=>(state_any v a1 a2 a3 a4 a5 a6' a7' a8 X).mono fun r w' h=>⟨by rw[h.1,hst],h.2⟩
       clear hst hgd hlt5 hvs c1;have hpO:=HPO.out;go_upto_region 22 with(first
        |(refine wpList_load_row rfl 55 (.tmp 11) rfl ob rfl 55 #[.int .i64 v,a1,a2,a3,a4,a5,a6',a7',a8] (0,0) _ hpO Tryz.underlying55 rfl info9m ?_)
        |(go_at_call 33;(with_reducible refine(HPS.out _).mono ?_);rintro r w14 ⟨rfl,hb14⟩))
       have kD:=hb14.drew;refine wp_region_held_drew (S:=fun V=>Below wr.heap.size wr V) (by kernel_rfl) kD (fun hH=>?_);clear hH;refine tG 0 107 ?_;refine tG 1 108 ?_;refine tG 2 109 ?_;refine tU 3 110 ?_;refine tU 4 111 ?_;exact z43_1
      by_cases c5:v=5
      ·have hst:stateOf v=4:=by rw[c5];rfl
       have hone:ml=1:=by
        obtain⟨e1,e2⟩:=hlt5 c5;rw[←HML.out];exact one_mem e1 e2
       subst hone;have HPS:Hid (∀X,Calls Tryz.prog 33 #[.agg #[.int .i64 v,a1,a2,a3,a4,a5,a6',a7',a8]] X fun r w'=>r=.returned (.int .i64 4)∧Below X.heap.size X w'):=fun X=>(state_any v a1 a2 a3 a4 a5 a6' a7' a8 X).mono fun r w' h=>⟨by rw[h.1,hst],h.2⟩
       clear hst hgd hlt5 hvs c1 c5;have hpO:=HPO.out;go_upto_region 22 with(first
        |(refine wpList_load_row rfl 55 (.tmp 11) rfl ob rfl 55 #[.int .i64 v,a1,a2,a3,a4,a5,a6',a7',a8] (0,0) _ hpO Tryz.underlying55 rfl info9m ?_)
        |(go_at_call 33;(with_reducible refine(HPS.out _).mono ?_);rintro r w14 ⟨rfl,hb14⟩))
       have kD:=hb14.drew;refine wp_region_held_drew (S:=fun V=>Below wr.heap.size wr V) (by kernel_rfl) kD (fun hH=>?_);clear hH;refine tG 0 107 ?_;refine tG 1 108 ?_;refine tG 2 109 ?_;refine tG 3 110 ?_;refine tG 4 111 ?_;exact z43_1
      obtain⟨z,hst,z2,z4⟩:∃z,stateOf v=z∧(z==2)=false∧(z==4)=false:=by
       have:v=3∨v=4:=by omega
       rcases this with e|e
       ·exact ⟨1,by rw[e];rfl,by decide,by decide⟩
       ·exact ⟨3,by rw[e];rfl,by decide,by decide⟩
      have HPS:Hid (∀X,Calls Tryz.prog 33 #[.agg #[.int .i64 v,a1,a2,a3,a4,a5,a6',a7',a8]] X fun r w'=>r=.returned (.int .i64 z)∧Below X.heap.size X w'):=fun X=>(state_any v a1 a2 a3 a4 a5 a6' a7' a8 X).mono fun r w' h=>⟨by rw[h.1,hst],h.2⟩
      clear hst hgd hlt5 hvs c1 c5;have hpO:=HPO.out;go_upto_region 22 with(first
       |(refine wpList_load_row rfl 55 (.tmp 11) rfl ob rfl 55 #[.int .i64 v,a1,a2,a3,a4,a5,a6',a7',a8] (0,0) _ hpO Tryz.underlying55 rfl info9m ?_)
       |(go_at_call 33;(with_reducible refine(HPS.out _).mono ?_);rintro r w14 ⟨rfl,hb14⟩))
      go_quiet (fail);have hB15:Below wr.heap.size wr (w14.drewN nq):=below_drewN hb14 _;go_wp2;go_roundw
      case rel=>exact⟨i+1,by omega,by have:=HX1.out;omega,by go_num,HIDX.out _ hB15,bU HBI.out hB15⟩
      case measure=>simp [intOf];omega
  ·by_cases h1:i<kn
   ·have g1:decide ((i:Int)<(kn:Int))=true:=decide_eq_true (by omega)
    have g1':(i:Int)<(kn:Int):=by omega
    have g2:decide ((i:Int)<6)=false:=decide_eq_false (by omega);have g2':¬(i:Int)<6:=by omega
    clear h1 hlt;go_wp2_with (go_at_call 31;(with_reducible refine(cP _).mono ?_);rintro r wz ⟨rfl,hbz⟩);go_ret;exact⟨rfl,bU HBX.out hbz⟩
   ·have g1:decide ((i:Int)<(kn:Int))=false:=decide_eq_false (by omega)
    have g1':¬(i:Int)<(kn:Int):=by omega
    clear h1 hlt;go_wp2_with (go_at_call 31;(with_reducible refine(cP _).mono ?_);rintro r wz ⟨rfl,hbz⟩);go_ret;exact⟨rfl,bU HBX.out hbz⟩
end Go.Proofs.YtoaoejaodhedaaaGreat
