import Derived.Test.YtoaoejaodhedaaaGreatE52
namespace Go.Proofs.YtoaoejaodhedaaaGreat
open Go.RowKit
set_option maxHeartbeats 12800000
set_option maxRecDepth 100000
theorem cfE_CfC (sv:Value):CfC cfE sv=#[sv,.int .i64 1,.int .i64 2,.int .i64 1,.int .i64 1000,.int .i64 0,.int .i64 0,.int .i64 0,.int .i64 0,.int .i64 0,.int .i64 100,.int .i64 8,.int .i64 0,.int .i64 0,.int .i64 1,.int .i64 10000]:=rfl
theorem sample17_any (w:World):Calls Tryz.prog 51 #[] w fun r w'=>∃sv,r=.returned (.agg (CfC cfE sv))∧(∀X,Agree w.heap.size w' X→Rgs X sv cfE.sets)∧Below w.heap.size w w':=by
 obtain⟨W0,hW0⟩:∃W,w.alloc (.cells #[.slice none 0 0,.int .i64 0,.int .i64 0,.int .i64 0,.int .i64 0,.int .i64 0,.int .i64 0,.int .i64 0,.int .i64 0,.int .i64 0,.int .i64 0,.int .i64 0,.int .i64 0,.int .i64 0,.int .i64 0,.int .i64 0] 27)=W:=⟨_,rfl⟩
 have hb0:Below w.heap.size w W0:=by rw[←hW0];exact bal' w _
 have hz0:W0.heap.size=w.heap.size+1:=by rw[←hW0];simp
 have p0:W0.heap[w.heap.size]?=some (.cells #[.slice none 0 0,.int .i64 0,.int .i64 0,.int .i64 0,.int .i64 0,.int .i64 0,.int .i64 0,.int .i64 0,.int .i64 0,.int .i64 0,.int .i64 0,.int .i64 0,.int .i64 0,.int .i64 0,.int .i64 0,.int .i64 0] 27):=by rw[←hW0];exact hpNew w _
 obtain⟨W1,hW1⟩:∃W,W0.alloc (.cells #[.int .i64 9600,.int .i64 1] 61)=W:=⟨_,rfl⟩
 have hb1:Below W0.heap.size W0 W1:=by rw[←hW1];exact bal' W0 _
 have p1:W1.heap[W0.heap.size]?=some (.cells #[.int .i64 9600,.int .i64 1] 61):=by rw[←hW1];exact hpNew W0 _
 have HW0:=hid hW0
 have HW1:=hid hW1
 have HB0:=hid hb0
 have HB1:=hid hb1
 have HZ0:=hid hz0
 have hz1:W1.heap.size=w.heap.size+2:=by rw[←hW1];simp [hz0]
 have HZ1:=hid hz1
 clear hW0 hW1 hb0 hb1 hz0 hz1
 go_enter Tryz.func51,Tryz.ntmps51
 go_upto_region 1 with(fail)
 rw[HW0.out]
 go_upto_region 3 with(fail)
 rw[HW1.out]
 obtain⟨W2,hW2⟩:∃W,W1.alloc (.cells #[.slice (some ⟨W0.heap.size,0,none⟩) 1 1,.int .i64 1,.int .i64 2,.int .i64 1,.int .i64 1000,.int .i64 0,.int .i64 0,.int .i64 0,.int .i64 0,.int .i64 0,.int .i64 100,.int .i64 8,.int .i64 0,.int .i64 0,.int .i64 1,.int .i64 10000] 27)=W:=⟨_,rfl⟩
 have hb2:Below W1.heap.size W1 W2:=by rw[←hW2];exact bal' W1 _
 have p2:W2.heap[W1.heap.size]?=some (.cells #[.slice (some ⟨W0.heap.size,0,none⟩) 1 1,.int .i64 1,.int .i64 2,.int .i64 1,.int .i64 1000,.int .i64 0,.int .i64 0,.int .i64 0,.int .i64 0,.int .i64 0,.int .i64 100,.int .i64 8,.int .i64 0,.int .i64 0,.int .i64 1,.int .i64 10000] 27):=by rw[←hW2];exact hpNew W1 _
 rw[hW2]
 have hz1:W1.heap.size=W0.heap.size+1:=by have:=HZ1.out;have:=HZ0.out;omega
 rw[hz1] at p2
 obtain⟨RC,hRC⟩:∃C,(#[.slice (some ⟨W0.heap.size,0,none⟩) 1 1,.int .i64 1,.int .i64 2,.int .i64 1,.int .i64 1000,.int .i64 0,.int .i64 0,.int .i64 0,.int .i64 0,.int .i64 0,.int .i64 100,.int .i64 8,.int .i64 0,.int .i64 0,.int .i64 1,.int .i64 10000]:Array Value)=C:=⟨_,rfl⟩
 have hRs:RC.size=16:=by rw[←hRC];rfl
 have hRi:(Tryz.prog.info? 27).map (·.size)=some RC.size:=by rw[hRs];kernel_rfl
 have hRo:RC.toList.all (·.oneCell')=true:=by rw[←hRC];rfl
 rw[hRC] at p2
 have hB2:Below W0.heap.size W0 W2:=bU HB1.out hb2
 have hp0:=kP p0 hB2
 have HP1:=hid (kP p1 hb2)
 have HRC:=hid hRC
 have HB2:=hid hB2
 have HRS:=hid hRs
 clear hW2 hz1 hRC hB2 hb2 p1 p0 hRs
 go_wp2_with (first
  |(refine wpList_load_row rfl 27 (.tmp 1) rfl (W0.heap.size+1) rfl 27 RC (0,0) _ p2 Tryz.underlying27 rfl hRi ?_)
  |(refine wpList_storeW rfl 27 (.tmp 0) (.tmp 8) rfl w.heap.size 0 _ 27 RC rfl rfl hp0 (by simp [HRS.out]) hRi hRo ?_;intro w9 g9 hk9 hz9))
 have g9':w9.heap[w.heap.size]?=some (.cells RC 27):=by rw[g9,List.drop_eq_nil_of_le (by simp [HRS.out])];simp
 refine bodyPost_ret (results_cell_row rfl _ _ w.heap.size 27 RC (0,0) _ rfl g9' Tryz.underlying27 rfl hRi) rfl ?_
 have hB:=HB2.out
 have hz:=HZ0.out
 refine⟨.slice (some ⟨W0.heap.size,0,none⟩) 1 1,by rw[cfE_CfC,HRC.out],fun X hX=>?_,(HB0.out.trans (hB.mono (by omega))).trans (hk9.below (by have:=hB.size;omega) (fun j hj e=>by omega))⟩
 have p9:w9.heap[W0.heap.size]?=some (.cells #[.int .i64 9600,.int .i64 1] 61):=kU HP1.out hk9 (fun e=>by omega)
 have pX:X.heap[W0.heap.size]?=some (.cells #[.int .i64 9600,.int .i64 1] 61):=by rw[hX.block _ (by omega) (hpLt p9)];exact p9
 refine Sls.of_own (base:=0) (E:=61) (n:=1) (cs:=setV cfE.sets) ⟨rfl,.inr ⟨W0.heap.size,1,#[.int .i64 9600,.int .i64 1],rfl,Nat.zero_le _,pX,Nat.le_refl _,by decide,rfl,rfl⟩⟩ (setW_csl cfE.sets (fun x hx=>?_)) rfl
 rw[List.mem_singleton.1 hx]
 exact⟨by unfold wfI;decide,by unfold wfI;decide⟩
theorem e20_set:Okset 9600 1:=⟨by decide,by decide,by decide⟩
theorem smpE_val:smpE.val:=by
 have hn:¬(0:Int)<smpE.lv:=by decide
 refine⟨e20_set,by decide,by decide,fun k hk=>?_,fun _=>rfl,by decide,by decide,fun e=>absurd e hn,fun e=>absurd e hn,fun e=>absurd e hn,fun e=>absurd e hn,fun e=>absurd e hn⟩
 rcases (show k=0∨k=1∨k=2∨k=3 by omega) with rfl|rfl|rfl|rfl
 ·exact ⟨fun _=>⟨rfl,rfl⟩,fun e=>(by cases e)⟩
 ·exact ⟨fun _=>⟨rfl,rfl⟩,fun e=>(by cases e)⟩
 ·exact ⟨fun e=>(by cases e),fun _=>⟨by decide,by decide,by decide,by decide⟩⟩
 ·exact ⟨fun _=>⟨rfl,rfl⟩,fun e=>(by cases e)⟩
theorem bus20:BusP [smpE]:=⟨by decide,fun s hs=>by
 have:s=smpE:=by simpa using hs
 subst this
 exact smpE_val⟩
theorem scr20:Scr.ok ⟨[],false,[]⟩:=⟨by decide,(by rintro ⟨e,_⟩;cases e),by decide,fun i x h=>(by cases h),fun x hx=>by cases hx⟩
theorem infoOc9:(Tryz.prog.info? 55).map (·.size)=some 9:=by kernel_rfl
theorem aW (w:World):Calls Tryz.prog 13 #[] w fun r w'=>r=.returned (.bool true)∧Below w.heap.size w w':=by
 go_enter Tryz.func13,Tryz.ntmps13
 go_upto_region 2 with(first
  |(go_at_call 50;(with_reducible refine(smp_any _).mono ?_);rintro r w1 ⟨p,q,rfl,hs1⟩;obtain⟨C,hC⟩:∃C,SmpC 9600 p q=C:=⟨_,rfl⟩;rw[hC];have hcs:C.size=19:=(by rw[←hC];rfl);have hi:(Tryz.prog.info? 68).map (·.size)=some C.size:=(by rw[←hC];exact infoSL);have h1c:C.toList.all (·.oneCell')=true:=(by rw[←hC];rfl))
  |(refine wpList_storeW rfl 68 (.tmp 1) (.tmp 9) rfl w1.heap.size 0 _ 68 C rfl rfl (hpNew w1 _) (by simp [hcs]) hi h1c ?_;intro w2 g2 hk2 hz2))
 obtain⟨p2,hb2⟩:=var_new (by rw[hcs];rfl) g2 hk2
 obtain⟨sb,hsb⟩:∃n,w1.heap.size=n:=⟨_,rfl⟩
 rw[hsb] at p2 ⊢
 have HS1:=hid hs1
 have HB2:=hid hb2
 have HSB:=hid hsb
 have HCC:=hid hC
 have HP2:=hid p2
 clear g2 hk2 hz2 hb2 hsb hs1 hC h1c hi p2
 dsimp only[Act.put]
 go_upto_region 3 with(first
  |(go_at_call 51;(with_reducible refine(sample17_any _).mono ?_);rintro r w3 ⟨sv,rfl,hrg,hb3⟩;obtain⟨CC,hCC⟩:∃C,CfC cfE sv=C:=⟨_,rfl⟩;rw[hCC];have hci:(Tryz.prog.info? 27).map (·.size)=some CC.size:=(by rw[←hCC];exact infoCfM);have hcc:CC.size=16:=(by rw[←hCC];rfl);have hco:CC.toList.all (·.oneCell')=true:=(by rw[←hCC];obtain⟨a9,c9,e9,-⟩:=hrg w3 (Agree.refl _ _);rw[e9];rfl))
  |(refine wpList_storeW rfl 27 (.tmp 2) (.tmp 10) rfl w3.heap.size 0 _ 27 CC rfl rfl (hpNew w3 _) (by simp [hcc]) hci hco ?_;intro w4 g4 hk4 hz4))
 obtain⟨p4,hb4⟩:=var_new (by rw[hcc];rfl) g4 hk4
 obtain⟨cb,hcb⟩:∃n,w3.heap.size=n:=⟨_,rfl⟩
 rw[hcb] at p4 ⊢
 obtain⟨b,o,cc,rfl,-,-,hcl⟩:=(hrg w3 (Agree.refl _ _)).at (k:=0) (x:=(9600,1)) rfl
 have hsbl:sb<w3.heap.size:=Nat.lt_of_lt_of_le (hpLt HP2.out) hb3.size
 have ps4:=kP (kP HP2.out hb3) hb4
 have c0:w4.cell? ⟨cb,0,none⟩=some (.slice (some ⟨b,o,none⟩) 1 cc):=(cP p4 0).trans (by rw[←hCC];rfl)
 have hrow:∀j u,(#[.int .i64 9600,.int .i64 1]:Array Value).toList[j]?=some u→w4.cell? ((⟨b,o,none⟩:Addr).add j)=some u:=fun j u hj=>by
  obtain⟨e0,e1⟩:=hcl w4 hb4
  rw[Addr.add_lit]
  rcases j with _|_|j
  ·cases hj;simpa using e0
  ·cases hj;simpa using e1
  ·cases hj
 have HRG:=hid hrg
 have HB3:=hid hb3
 have HB4:=hid hb4
 have HP4:=hid p4
 have HCCC:=hid hCC
 have HCB:=hid hcb
 clear g4 hk4 hz4 hb4 hb3 hcl hrg hCC hcb p4 hco
 dsimp only[Act.put]
 go_upto_region 4 with(first
  |(refine wpList_load_at rfl 61 (.tmp 13) rfl ⟨b,o,none⟩ rfl #[.int .i64 9600,.int .i64 1] _ hrow Tryz.underlying61 rfl infoSt2 ?_)
  |(refine wpList_storeW rfl 61 (.tmp 15) (.tmp 14) rfl sb 0 _ 68 #[.int .i64 9600,.int .i64 1] rfl rfl ps4 (by simp [hcs]) infoSt2 rfl ?_;intro w5 g5 hk5 hz5))
 dsimp only[Act.put]
 obtain⟨D,hD⟩:∃D,SlC smpE (fun k=>if k=2 then .slice (some ⟨q,0,none⟩) 1 1 else .slice none 0 0) (.slice none 0 0) (.slice (some ⟨p,0,none⟩) 2 2)=D:=⟨_,rfl⟩
 have p5:w5.heap[sb]?=some (.cells D 68):=by rw[g5,←HCC.out,←hD];rfl
 have hdi:(Tryz.prog.info? 68).map (·.size)=some D.size:=by rw[←hD];exact infoSL
 have hds:D.size=19:=by rw[←hD];rfl
 have hfold:=slFoldW smpE (fun k=>if k=2 then .slice (some ⟨q,0,none⟩) 1 1 else .slice none 0 0) (.slice none 0 0) (.slice (some ⟨p,0,none⟩) 2 2) D hD
 have z1:=HS1.out.b.size
 have z2:=HB2.out.size
 have z3:=HB3.out.size
 have z4:=HB4.out.size
 have esb:=HSB.out
 have ecb:=HCB.out
 have HBW:Hid (Below w.heap.size w w5):=(((HS1.out.b.trans (HB2.out.mono z1)).trans (HB3.out.mono (by omega))).trans (HB4.out.mono (by omega))).trans (hk5.below (by omega) (fun j hj e=>by have e':j=sb:=e;omega))
 have hk25:Keeps (· =sb) w2 w5:=((Keeps.of_below HB3.out).trans (Keeps.of_below HB4.out) (fun _ _ e=>e)).trans hk5 (fun _ _ e=>e)
 have HR5:Hid (∀X,Below w5.heap.size w5 X→SlR X smpE (fun k=>if k=2 then .slice (some ⟨q,0,none⟩) 1 1 else .slice none 0 0) (.slice none 0 0) (.slice (some ⟨p,0,none⟩) 2 2)):=fun X hX=>by
  have hs:=HS1.out.slr (X:=X) ⟨by have:=hk5.size;have:=hX.size;omega,fun j hj hl=>by
   rw[hX.block j (by have:=hk25.size;omega),hk25.block j (by omega) (fun e=>by have e':j=sb:=e;omega),HB2.out.block j hl]⟩ 9600 (by unfold wfI;omega)
  obtain⟨a1,a2,a3,a4,a5,a6,a7,a8⟩:=hs
  exact⟨a1,a2,a3,a4,a5,a6,a7,by show wfI 1;unfold wfI;omega⟩
 have hag:Agree w2.heap.size w3 w5:=(Agree.of_below HB4.out).trans (Agree.of_keeps (B:=w2.heap.size) hk5 (fun j e=>by have e':j=sb:=e;have:=hpLt HP2.out;omega))
 have HRX:Hid (∀X,Agree w2.heap.size w5 X→Rgs X (.slice (some ⟨b,o,none⟩) 1 cc) cfE.sets):=fun X hX=>HRG.out X (hag.trans hX)
 have PC5:Hid (w5.heap[cb]?=some (.cells CC 27)):=kU HP4.out hk5 (fun e=>by have e':cb=sb:=e;omega)
 have HNC:Hid (Calls Tryz.prog 24 #[.slice (some ⟨w5.heap.size,0,none⟩) 1 1,.agg #[.slice none 0 0,.bool false,.slice none 0 0]] (w5.alloc (.cells D 68)) (LnMade (w5.alloc (.cells D 68)) [smpE] false [])):=by
  refine lnew_ok [smpE] ⟨[],false,[]⟩ _ 1 1 _ _ _ rfl (slvs_one (HR5.out _ (bal' w5 _)) ?_) (Sls.nil _) (Sls.nil _) bus20 scr20
  rw[hD]
  exact hpNew w5 _
 have HPS5:=hid p5
 have HGLB:Hid (w2.heap.size≤w5.heap.size∧sb<w5.heap.size∧w.heap.size≤w5.heap.size):=by
  have:=hag.size
  have:=HBW.out.size
  have:=hk5.size
  show _∧_∧_
  omega
 clear hrow ps4 c0 g5 hk5 hz5 z1 z2 z3 z4 esb ecb hsbl hk25 hD hag
 go_upto_region 5 with(first
  |(refine wpList_load_row rfl 68 (.tmp 1) rfl sb rfl 68 D (0,0) _ p5 Tryz.underlying68 rfl hdi ?_)
  |(go_at_call 24;(with_reducible refine HNC.out.mono ?_);rintro r w6 hm6;obtain⟨gl,a,c,a2,c2,rfl,hat6,hG6,hgl6,hb6⟩:=hm6.at bus20 (fun x hx=>by cases hx) (fun e=>(by cases e))))
 have HLN:Hid (LnAt (fun j=>j=gl) w6 gl (.slice a 1 c) (.slice a2 0 c2) false Ln.zero):=hat6
 have HG6:Hid (LnG (fun j=>j=gl) w6 a 1 c a2 0 c2 [smpE] [] false):=hG6
 have hB56:Below w5.heap.size w5 w6:=bU (bal' w5 _) hb6
 have HB6:Hid (Below w.heap.size w w6):=HBW.out.trans (hB56.mono HBW.out.size)
 have pc6:=kP PC5.out hB56
 have hci':=hci
 have HMN:Hid (Calls Tryz.prog 25 #[.agg CC,.pointer (some ⟨gl,0,none⟩),.int .i64 0] w6 (NewYes cfE (.pointer (some ⟨gl,0,none⟩)) 0 w6)):=by
  rw[←HCCC.out]
  exact mnew_yes cfE chk20 _ gl 0 (by decide) (by decide) w6 (HRX.out _ (Agree.of_below hB56))
 have HGE:Hid (w.heap.size≤gl∧w5.heap.size≤w6.heap.size):=⟨by have h1:=hgl6;rw[World.size_alloc] at h1;have:=HGLB.out;omega,hB56.size⟩
 clear hm6 hat6 hG6 hgl6 hb6 hB56 p5 HNC hdi hds hfold
 go_upto_region 6 with(first
  |(refine wpList_load_row rfl 27 (.tmp 2) rfl cb rfl 27 CC (0,0) _ pc6 Tryz.underlying27 rfl hci ?_)
  |(go_at_call 25;(with_reducible refine HMN.out.mono ?_);rintro r w7 ⟨gm,sv7,rfl,hgm,hat7,hr7,hb7⟩))
 have HM7:=hid (MsS.start (f:=⟨a,1,c,a2,0,c2,false,[smpE],[]⟩) HLN.out HG6.out Ln.zero_ok chk20 hgm hat7 hr7 hb7 (Tx.new 9600 1 1 1000 0) (Lk.new 9600 1 1 1000 0))
 have HB7:Hid (Below w.heap.size w w7):=HB6.out.trans (hb7.mono HB6.out.size)
 have HGM:Hid (w.heap.size≤gm):=by have:=HB6.out.size;show _≤_;omega
 have HBG:Hid (Calls Tryz.prog 26 #[.pointer (some ⟨gm,0,none⟩),.int .i64 0,.int .i64 7,.agg #[.int .i64 3,.int .i64 12,.int .i64 2,.int .i64 0,.int .i64 0]] w7 (MYes gm gl (fun j=>j=gl∨j=gm) cfE sv7 ⟨a,1,c,a2,0,c2,false,[smpE],[]⟩ ⟨Ln.zero,true,tx20,0,0⟩ 1 w7)):=
  (mbegin_any HM7.out (show _=_ from rfl) 0 9600 1 rfl 7 3 12 2 0 0 (by decide) (by decide) 0 (by decide+kernel)).mono (fun r w' h=>h.2 rfl)
 have HSN:Hid (∀(gj k:Nat) (P PL Q:Nat→Prop) (s:Lk) (X:World),k≤1→MsS gm gl gj k P PL Q cfE sv7 ⟨a,1,c,a2,0,c2,false,[smpE],[]⟩ ⟨Ln.zero,true,tx20,0,0⟩ s X→Calls Tryz.prog 27 #[.pointer (some ⟨gm,0,none⟩)] X (MYes gm gl P cfE sv7 ⟨a,1,c,a2,0,c2,false,[smpE],[]⟩ ⟨ln20,true,tx20.sent en20,0,en20⟩ (k+1) X)):=fun gj k P PL Q s X hk hM=>by
  have h:=msend_any hM rfl rfl 0 9600 1 rfl rfl rfl fr20 rfl (by rw[fr20_len];rfl) (by show 0≤90000000;decide) (by show 0≤1000000000;decide) (by omega)
  rw[fr20_len] at h
  exact h
 have HLI:Hid (∀(gj k:Nat) (P PL Q:Nat→Prop) (s:Lk) (X:World),k≤2→MsS gm gl gj k P PL Q cfE sv7 ⟨a,1,c,a2,0,c2,false,[smpE],[]⟩ ⟨ln20,true,tx20.sent en20,0,en20⟩ s X→Calls Tryz.prog 23 #[.pointer (some ⟨gm,0,none⟩)] X (LisPost gm gl gj P cfE sv7 ⟨a,1,c,a2,0,c2,false,[smpE],[]⟩ du20 0 (k+(Du.mk ln20 (tx20.sent en20)).mu) X)):=fun gj k P PL Q s X hk hM=>by
  have hmu:=of_decide_eq_true du20_mu
  have h:=mlisten_any hM rfl (.inl rfl) (by show k+(Du.mk ln20 (tx20.sent en20)).mu≤_;omega)
  dsimp only at h
  rw[du20_eq] at h
  exact h
 clear hgm hat7 hr7 hb7 HMN HLN HG6 hci hcc HRX pc6
 go_upto_region 8 with(first
  |(go_at_call 26;(with_reducible refine HBG.out.mono ?_);rintro r w8 ⟨gj8,k8,PL8,Q8,s8,rfl,hM8,hk8,hkk8⟩)
  |(go_at_call 27;(with_reducible refine(HSN.out _ _ _ _ _ _ _ hkk8 hM8).mono ?_);rintro r w9 ⟨gj9,k9,PL9,Q9,s9,rfl,hM9,hk9,hkk9⟩))
 have HM9:=hid hM9
 have HKK:Hid (k9≤2):=by show _≤_;omega
 have HB9:Hid (Below w.heap.size w w9):=by
  have z7:=HB7.out.size
  have z8:=hk8.size
  refine(HB7.out.trans (hk8.below z7 (fun j hj e=>?_))).trans (hk9.below (by omega) (fun j hj e=>?_))
  ·have h1:=HGE.out
   have h2:=HGM.out
   rcases e with e|e<;>omega
  ·have h1:=HGE.out
   have h2:=HGM.out
   rcases e with(e|e)|e<;>omega
 have HLI9:=hid (HLI.out _ _ _ _ _ _ _ HKK.out HM9.out)
 obtain⟨P9,hP9⟩:∃P,GrowP (GrowP (fun j=>j=gl∨j=gm) w7 w8) w8 w9=P:=⟨_,rfl⟩
 rw[hP9] at HLI9
 have HPB:Hid (∀j,P9 j→w.heap.size≤j):=fun j hj=>by
  have z7:=HB7.out.size
  have z8:=hk8.size
  have h1:=HGE.out
  have h2:=HGM.out
  rw[←hP9] at hj
  rcases hj with((e|e)|e)|e<;>omega
 have hsv:du20.x.shown=du20.x.out:=by unfold Tx.shown;rw[if_pos du20_ph]
 have hv1:du20.x.shown.verdict=1:=by rw[hsv];exact du20_out.1
 have hv2:du20.x.shown.reply.data.length=4:=by rw[hsv];exact du20_out.2
 have hv3:decide (du20.x.ph=5)=true:=by rw[du20_ph];rfl
 obtain⟨O,hO⟩:∃O,du20.x.shown=O:=⟨_,rfl⟩
 rw[hO] at hv1 hv2
 have hv4:((du20.n.sent.length:Nat):Int)=1:=by rw[du20_sent];rfl
 have HVV:=hid (And.intro hv1 (And.intro hv2 (And.intro hv3 hv4)))
 have hnw:=du20_now
 obtain⟨NW,hNW⟩:∃N,du20.x.now=N:=⟨_,rfl⟩
 rw[hNW] at hnw
 have HNW:=hid hNW
 have HO:=hid hO
 clear hM8 hM9 hk8 hkk8 hk9 hkk9 HLI HSN HBG HM7 hP9 hsv hv1 hv2 hv3 hv4 hNW hO
 go_upto_region 9 with(first
  |(go_at_call 23;(with_reducible refine HLI9.out.mono ?_);rintro r w10 ⟨da,dc,oa,oc,k10,PL10,Q10,s10,rfl,hrd,hM10,hk10,hkk10⟩;rw[HO.out,HVV.out.1,HVV.out.2.1,HVV.out.2.2.1];clear hrd hkk10)
  |(refine wpList_storeW rfl 55 (.tmp 7) (.tmp 53) rfl w10.heap.size 0 _ 55 #[.int .i64 1,.int .i64 O.reply.fn,.int .i64 O.reply.exc,.slice da 4 dc,.int .i64 O.reply.code,.int .i64 O.reply.level,.bool O.reply.more,.int .i64 O.reply.next,.slice oa O.reply.objs.length oc] rfl rfl (hpNew w10 _) (by simp) infoOc9 rfl ?_;intro w11 g11 hk11 hz11))
 obtain⟨p11,hb11⟩:=var_new (by rfl) g11 hk11
 have hM11:=hM10.keepB hb11
 have HT:=hid (atts_any hM11.ln)
 have HN:=hid (mnow_any hM11)
 have HT':Hid (Calls Tryz.prog 20 #[.pointer (some ⟨gl,0,none⟩)] w11 fun r w'=>r=.returned (.int .i64 1)∧w11=w'):=by
  have h:=HT.out
  rw[show ((du20.n.sent.length:Nat):Int)=1 from HVV.out.2.2.2] at h
  exact h
 have HN':Hid (Calls Tryz.prog 28 #[.pointer (some ⟨gm,0,none⟩)] w11 fun r w'=>r=.returned (.int .i64 NW)∧w11=w'):=by
  rw[←HNW.out]
  exact HN.out
 have c0:w11.cell? ⟨w10.heap.size,0,none⟩=some (.int .i64 1):=cP p11 0
 have c3:w11.cell? ⟨w10.heap.size,3,none⟩=some (.slice da 4 dc):=cP p11 3
 have HB11:Hid (Below w.heap.size w w11):=(HB9.out.trans (hk10.below HB9.out.size (fun j hj e=>by have:=HPB.out j e;omega))).trans (hb11.mono (by have:=HB9.out.size;have:=hk10.size;omega))
 clear g11 hk11 hz11 p11 hb11 hM11 hM10 hk10 HT HN
 go_wp2_with (first
  |(go_at_call 28;(with_reducible refine HN'.out.mono ?_);rintro r wx ⟨rfl,rfl⟩)
  |(go_at_call 20;(with_reducible refine HT'.out.mono ?_);rintro r wx ⟨rfl,rfl⟩))
 go_ret
 exact⟨rfl,HB11.out⟩
def Cf.n (c:Cf):Int:=c.la-c.fi+1
structure Cf.ok (c:Cf):Prop where
 s1:1≤c.sets.length
 s6:c.sets.length≤6
 f1:1≤c.fi
 fl:c.fi≤c.la
 l2:c.la≤247
 win:WinOk c.win
 sets:∀x∈c.sets,okS x=true
theorem Cf.ok.n1 {c:Cf} (h:c.ok):1≤c.n∧c.n≤247:=by unfold Cf.n;have:=h.f1;have:=h.fl;have:=h.l2;omega
theorem cellsCf:Tryz.prog.cellsOf 27=16:=by kernel_rfl
theorem cellsSts:Tryz.prog.cellsOf 22=1:=by kernel_rfl
theorem cellsSet:Tryz.prog.cellsOf 61=2:=by kernel_rfl
theorem cellsWin:Tryz.prog.cellsOf 25=8:=by kernel_rfl
theorem set_rd {w:World} {cs:List Value} (h:Rd Tryz.prog w 61 cs):∃x,RgR w cs x:=by
 obtain⟨hl,hf⟩:=h.struct Tryz.underlying61
 rw[cellsSet] at hl
 obtain⟨c0,c1,rfl⟩:=lst2 hl
 have f0:=hf _ (List.mem_cons_self ..)
 have f1:=hf _ (List.mem_cons_of_mem _ (List.mem_cons_self ..))
 simp only[cellsInt,List.drop_zero,List.drop_succ_cons,List.take_succ_cons,List.take_zero] at f0 f1
 obtain⟨a,rfl,w0⟩:=int_rd f0
 obtain⟨b,rfl,w1⟩:=int_rd f1
 exact⟨(a,b),rfl,w0,w1⟩
theorem sets_rd {w:World} {v:Value} (h:Rd Tryz.prog w 22 [v]):∃l,Rgs w v l:=
 Sls.of_rd (R:=RgR) Tryz.underlying22 cellsSet (by decide) (fun _ h=>set_rd h) h
theorem lst16 {α:Type} {l:List α} (h:l.length=16):∃a b c d e f g i j k m n o p q r,l=[a,b,c,d,e,f,g,i,j,k,m,n,o,p,q,r]:=by
 match l,h with
 |[a,b,c,d,e,f,g,i,j,k,m,n,o,p,q,r],_=>exact⟨a,b,c,d,e,f,g,i,j,k,m,n,o,p,q,r,rfl⟩
structure CfW (c:Cf):Prop where
 fi:wfI c.fi
 la:wfI c.la
theorem cf_rd {w:World} {cs:Array Value} (h:Rd Tryz.prog w 27 cs.toList):∃c sv,cs=CfC c sv∧Rgs w sv c.sets∧CfW c:=by
 obtain⟨hl,hf⟩:=h.struct Tryz.underlying27
 rw[cellsCf] at hl
 obtain⟨cl⟩:=cs
 obtain⟨c0,c1,c2,c3,c4,c5,c6,c7,c8,c9,c10,c11,c12,c13,c14,c15,rfl⟩:=lst16 hl
 have f0:=hf _ (List.mem_cons_self ..)
 have f1:=hf _ (List.mem_cons_of_mem _ (List.mem_cons_self ..))
 have f2:=hf _ (List.mem_cons_of_mem _ (List.mem_cons_of_mem _ (List.mem_cons_self ..)))
 have f3:=hf _ (List.mem_cons_of_mem _ (List.mem_cons_of_mem _ (List.mem_cons_of_mem _ (List.mem_cons_self ..))))
 have f4:=hf _ (List.mem_cons_of_mem _ (List.mem_cons_of_mem _ (List.mem_cons_of_mem _ (List.mem_cons_of_mem _ (List.mem_cons_self ..)))))
 have f5:=hf _ (List.mem_cons_of_mem _ (List.mem_cons_of_mem _ (List.mem_cons_of_mem _ (List.mem_cons_of_mem _ (List.mem_cons_of_mem _ (List.mem_cons_self ..))))))
 have f6:=hf _ (List.mem_cons_of_mem _ (List.mem_cons_of_mem _ (List.mem_cons_of_mem _ (List.mem_cons_of_mem _ (List.mem_cons_of_mem _ (List.mem_cons_of_mem _ (List.mem_cons_self ..)))))))
 have f7:=hf _ (List.mem_cons_of_mem _ (List.mem_cons_of_mem _ (List.mem_cons_of_mem _ (List.mem_cons_of_mem _ (List.mem_cons_of_mem _ (List.mem_cons_of_mem _ (List.mem_cons_of_mem _ (List.mem_cons_self ..))))))))
 have f8:=hf _ (List.mem_cons_of_mem _ (List.mem_cons_of_mem _ (List.mem_cons_of_mem _ (List.mem_cons_of_mem _ (List.mem_cons_of_mem _ (List.mem_cons_of_mem _ (List.mem_cons_of_mem _ (List.mem_cons_of_mem _ (List.mem_cons_self ..)))))))))
 simp only[cellsInt,cellsSts,cellsWin,List.drop_zero,List.drop_succ_cons,List.take_succ_cons,List.take_zero] at f0 f1 f2 f3 f4 f5 f6 f7 f8
 obtain⟨l,hll⟩:=sets_rd f0
 obtain⟨b1,rfl,w1⟩:=int_rd f1
 obtain⟨b2,rfl,w2⟩:=int_rd f2
 obtain⟨b3,rfl,w3⟩:=int_rd f3
 obtain⟨b4,rfl,w4⟩:=int_rd f4
 obtain⟨b5,rfl,w5⟩:=int_rd f5
 obtain⟨hl2,g2⟩:=f6.array Tryz.underlying25
 have t0:=g2 0 (by decide)
 have t1:=g2 1 (by decide)
 have t2:=g2 2 (by decide)
 have t3:=g2 3 (by decide)
 simp only[cellsRg,Nat.zero_mul,Nat.reduceMul,List.drop_zero,List.drop_succ_cons,List.take_succ_cons,List.take_zero] at t0 t1 t2 t3
 obtain⟨x0,e0,-,-⟩:=rg_rd t0
 obtain⟨x1,e1,-,-⟩:=rg_rd t1
 obtain⟨x2,e2,-,-⟩:=rg_rd t2
 obtain⟨x3,e3,-,-⟩:=rg_rd t3
 obtain⟨b7,rfl,w7⟩:=int_rd f7
 obtain⟨b8,rfl,w8⟩:=int_rd f8
 simp only[List.cons.injEq,and_true] at e0 e1 e2 e3
 obtain⟨rfl,rfl⟩:=e0
 obtain⟨rfl,rfl⟩:=e1
 obtain⟨rfl,rfl⟩:=e2
 obtain⟨rfl,rfl⟩:=e3
 exact⟨⟨l,b1,b2,b3,b4,b5,mk4 x0 x1 x2 x3,b7,b8⟩,c0,rfl,hll,w1,w2⟩
end Go.Proofs.YtoaoejaodhedaaaGreat
