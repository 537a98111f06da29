/-
 Texts 24 of the claim.
-/
import Derived.Test.YtoaoejaodhedaaaGreatE23
import Derived.Test.YtoaoejaodhedaaaGreatE13
namespace Go.Proofs.YtoaoejaodhedaaaGreat
open Go.RowKit
set_option maxHeartbeats 12800000
set_option maxRecDepth 100000
theorem panswer_ex (s:Sl) (rv:Nat→Value) (ov sv:Value) (q:Rq) (x:Int) (x0:0≤x) (x1:x≤65535) (w:World) (hR:SlR w s rv ov sv) (hv:s.val) (hq:q.ok=true):
  Calls Tryz.prog 187 #[.agg (SlC s rv ov sv),.agg #[.int .i64 q.fn,.int .i64 q.addr,.int .i64 q.qty,.int .i64 q.code,.int .i64 q.obj],.int .i64 x] w (RepPost w (s.ans q x)):=by
 obtain⟨sa,sc,rfl,-⟩:=id hR.sd
 obtain⟨sn,hsn⟩:∃n,s.sd.length=n:=⟨_,rfl⟩
 obtain⟨C,hC⟩:∃C,SlC s rv ov (.slice sa s.sd.length sc)=C:=⟨_,rfl⟩
 have hcs:C.size=19:=by rw[←hC];rfl
 have hi19:(Tryz.prog.info? 68).map (·.size)=some C.size:=by rw[hcs];exact infoSL
 have hi5:(Tryz.prog.info? 45).map (·.size)=some 5:=by kernel_rfl
 rw[hC]
 obtain⟨rp,hrp⟩:∃rp,s.ans q x=rp:=⟨_,rfl⟩
 rw[hrp]
 have HRA:=hid hrp
 clear hrp
 obtain⟨W1,hW1⟩:∃W,((w.alloc (.cells C 68)).alloc (.cells #[.int .i64 q.fn,.int .i64 q.addr,.int .i64 q.qty,.int .i64 q.code,.int .i64 q.obj] 45)).alloc (.cells #[.int .i64 0,.int .i64 0,.slice none 0 0,.int .i64 0,.int .i64 0,.bool false,.int .i64 0,.slice none 0 0] 53)=W:=⟨_,rfl⟩
 have hz1:W1.heap.size=w.heap.size+3:=by rw[←hW1];simp
 have hb1:Below w.heap.size w W1:=by rw[←hW1];exact bta (bta (bal' w _) (Nat.le_refl _) _) (Nat.le_refl _) _
 have pS:W1.heap[w.heap.size]?=some (.cells C 68):=by rw[←hW1];exact hpKeep (hpKeep (hpNew w _) (bal' _ _)) (bal' _ _)
 have pQ:W1.heap[w.heap.size+1]?=some (.cells #[.int .i64 q.fn,.int .i64 q.addr,.int .i64 q.qty,.int .i64 q.code,.int .i64 q.obj] 45):=by rw[←hW1];refine hpKeep ?_ (bal' _ _);have h:=hpNew (w.alloc (.cells C 68)) (.cells #[.int .i64 q.fn,.int .i64 q.addr,.int .i64 q.qty,.int .i64 q.code,.int .i64 q.obj] 45);rw[World.size_alloc] at h;exact h
 have pZ:W1.heap[w.heap.size+2]?=some (.cells #[.int .i64 0,.int .i64 0,.slice none 0 0,.int .i64 0,.int .i64 0,.bool false,.int .i64 0,.slice none 0 0] 53):=by rw[←hW1];have h:=hpNew ((w.alloc (.cells C 68)).alloc (.cells #[.int .i64 q.fn,.int .i64 q.addr,.int .i64 q.qty,.int .i64 q.code,.int .i64 q.obj] 45)) (.cells #[.int .i64 0,.int .i64 0,.slice none 0 0,.int .i64 0,.int .i64 0,.bool false,.int .i64 0,.slice none 0 0] 53);rw[World.size_alloc,World.size_alloc] at h;exact h
 obtain⟨zb,hzb⟩:∃n,w.heap.size+2=n:=⟨_,rfl⟩
 have E2:Hid (w.heap.size+1+1=zb):=hzb
 have HZB:Hid (w.heap.size≤zb∧zb<W1.heap.size):=by show _∧_;omega
 rw[hzb] at pZ
 have HV2:Hid (∀X,Below W1.heap.size W1 X→Calls Tryz.prog 112 #[.agg C] X (BoolPost X true)):=fun X hX=>by
  have h:=pslave_any s rv ov _ X (hR.keep (bt hb1 hX (Nat.le_refl _)))
  rw[hC] at h
  exact h.mono fun _ _ ⟨V,h1,h2,h3⟩=>⟨by rw[h1,h2.out.2 hv],h3⟩
 have HQ2:Hid (∀X,Calls Tryz.prog 121 #[.agg #[.int .i64 q.fn,.int .i64 q.addr,.int .i64 q.qty,.int .i64 q.code,.int .i64 q.obj]] X (BoolPost X true)):=fun X=>by
  have h:=pqvalid_any q.fn q.addr q.qty q.code q.obj X
  have e:Rq.ok ⟨q.fn,q.addr,q.qty,q.code,q.obj⟩=true:=hq
  rw[e] at h
  exact h
 have HPO:=hid (possible_any x x0 (by omega))
 have HFC:=hid (fn_cases hq)
 have HRP:Hid (∀e X,Calls Tryz.prog 209 #[.agg #[.int .i64 q.fn,.int .i64 q.addr,.int .i64 q.qty,.int .i64 q.code,.int .i64 q.obj],.int .i64 e] X (RefPost X q.fn e)):=fun e X=>refuse_any q.fn q.addr q.qty q.code q.obj e X
 have PS:=hid pS
 have PQ:=hid pQ
 have PZ:=hid pZ
 have HW1:=hid hW1
 have HB1:=hid hb1
 have HC:=hid hC
 have HR:=hid hR
 have HV:=hid hv
 have HQ:=hid hq
 have HX:Hid (0≤x∧x≤65535):=⟨x0,x1⟩
 have ps:=pS
 have k0:Below W1.heap.size W1 W1:=Below.refl _ _
 clear hW1 hb1 hz1 hC pS pQ pZ hR hv x0 x1 hzb hsn hq
 go_enter Tryz.func187,Tryz.ntmps187
 go_upto_region 1 with(fail)
 rw[HW1.out,E2.out]
 go_upto_region 3 with(first
  |(refine wpList_load_row rfl 68 (.tmp 3) rfl w.heap.size rfl 68 C (0,0) _ ps Tryz.underlying68 rfl hi19 ?_)
  |(refine wpList_load_atH (by rfl) 45 (.tmp 4) rfl ⟨w.heap.size+1,0,none⟩ rfl #[.int .i64 q.fn,.int .i64 q.addr,.int .i64 q.qty,.int .i64 q.code,.int .i64 q.obj] _ (fun j v hj=>hpRowB (hpKeep PQ.out hb2) j v hj) Tryz.underlying45 rfl hi5 ?_)
  |(go_at_call 112;(with_reducible refine(HV2.out _ k0).mono ?_);rintro r w2 ⟨rfl,hb2⟩)
  |(go_at_call 121;(with_reducible refine(HQ2.out _).mono ?_);rintro r w3 ⟨rfl,hb3⟩)
  |(go_at_call 206;(with_reducible refine(HPO.out _).mono ?_);rintro r w4 ⟨rfl,rfl⟩))
 have HB13:Hid (Below W1.heap.size W1 w3):=bt hb2 hb3 (Nat.le_refl _)
 have HB3:=hid (bt HB1.out HB13.out (Nat.le_refl _))
 have ps:=hpKeep PS.out HB13.out
 have pq:=hpKeep PQ.out HB13.out
 have pz:=hpKeep PZ.out HB13.out
 have q0:=hpCell pq 0
 have q0:w3.cell? ⟨w.heap.size+1,0,none⟩=some (.int .i64 q.fn):=q0
 clear hb2 hb3 k0
 rcases HFC.out with⟨f1,f2⟩|hf|⟨hf,hc1,hc3⟩
 ·obtain ⟨k,hk⟩:∃k:Nat,q.fn=(k:Int)+1:=⟨(q.fn-1).toNat,by omega⟩
  have h4:k<4:=by omega
  have g1:(q.fn==43)=false:=b0 (by omega)
  have g2:(q.fn !=17)=true:=by rw[bne_iff_ne];omega
  have s1:IntKind.i64.wrap (q.fn-1)=(k:Int):=(IntWalk.i64_in _ (by omega)).trans (by omega)
  have hki:(0:Int)≤(k:Int):=Int.natCast_nonneg _
  have hkl:(k:Int)<4:=by omega
  have kD:Below w3.heap.size w3 w3.drew:=(Below.refl _ _).drew
  have kk:Keeps (· =zb) w3 w3.drew:=Keeps.of_below kD
  have hnS:¬w.heap.size=zb:=by have:=E2.out;omega
  have hnQ:¬w.heap.size+1=zb:=by have:=E2.out;omega
  have t0:∀X,Keeps (· =zb) w3 X→X.cell? ⟨w.heap.size,3+k*3,none⟩=some (.bool (s.ts k).sup):=fun X h=>(SlC_tab s rv ov _ (by rw[HC.out];exact hpKeeps ps h hnS) h4).1
  have t1:∀X,Keeps (· =zb) w3 X→X.cell? ⟨w.heap.size,3+k*3+1,none⟩=some (rv k):=fun X h=>(SlC_tab s rv ov _ (by rw[HC.out];exact hpKeeps ps h hnS) h4).2.1
  have t2:∀X,Keeps (· =zb) w3 X→X.cell? ⟨w.heap.size,3+k*3+2,none⟩=some (.int .i64 (s.ts k).most):=fun X h=>(SlC_tab s rv ov _ (by rw[HC.out];exact hpKeeps ps h hnS) h4).2.2
  have r0:∀X,Keeps (· =zb) w3 X→X.cell? ⟨w.heap.size+1,0,none⟩=some (.int .i64 q.fn):=fun X h=>hpCell (hpKeeps pq h hnQ) 0
  have r1:∀X,Keeps (· =zb) w3 X→X.cell? ⟨w.heap.size+1,1,none⟩=some (.int .i64 q.addr):=fun X h=>hpCell (hpKeeps pq h hnQ) 1
  have r2:∀X,Keeps (· =zb) w3 X→X.cell? ⟨w.heap.size+1,2,none⟩=some (.int .i64 q.qty):=fun X h=>hpCell (hpKeeps pq h hnQ) 2
  have r3:∀X,Keeps (· =zb) w3 X→X.cell? ⟨w.heap.size+1,3,none⟩=some (.int .i64 q.code):=fun X h=>hpCell (hpKeeps pq h hnQ) 3
  have r4:∀X,Keeps (· =zb) w3 X→X.cell? ⟨w.heap.size+1,4,none⟩=some (.int .i64 q.obj):=fun X h=>hpCell (hpKeeps pq h hnQ) 4
  have HTB:Hid (∀X,Below w3.heap.size w3 X→Calls Tryz.prog 208 #[.agg #[.bool (s.ts k).sup,rv k,.int .i64 (s.ts k).most],.agg #[.int .i64 q.fn,.int .i64 q.addr,.int .i64 q.qty,.int .i64 q.code,.int .i64 q.obj],.int .i64 x] X (RepPost X rp)):=fun X hX=>by
   have h:=pread_ans (s.ts k) (rv k) q HQ.out ⟨f1,f2⟩ x HX.out.1 HX.out.2 X ((HR.out.rg k h4).keep (bt HB3.out hX (Nat.le_refl _))) (fun hs=>((HV.out.tb k h4).2 hs).2.1)
   rw[←HRA.out,Sl.ans_tab hk h4,Tbl.ans_mk]
   exact h.mono fun _ _ h=>h.rep
  have HPZ:=hid pz
  clear hk ps pq pz
  generalize (s.ts k).sup=ts at*
  generalize (s.ts k).most=tm at*
  generalize rv k=tv at*
  go_upto_region 6 with(fail)
  clear q0
  refine wp_region_held_drew (S:=fun V=>Keeps (· =zb) w3 V) (by kernel_rfl) kk (fun hH=>?_)
  clear hH
  refine tkE 0 32 rfl rfl ?_;simp only[setS]
  refine tkE 1 33 rfl rfl ?_;simp only[setS]
  refine tkE 2 34 rfl rfl ?_;simp only[setS]
  refine tkE 3 35 rfl rfl ?_;simp only[setS]
  refine tkE 4 36 rfl rfl ?_;simp only[setS]
  refine tkE 5 37 rfl rfl ?_;simp only[setS]
  refine tkE 6 38 rfl rfl ?_;simp only[setS]
  refine tkE 7 39 rfl rfl ?_;simp only[setS]
  refine rdyH 8 rfl (fun K hK=>?_);go_simp
  refine(HTB.out _ kD).mono ?_
  rintro r w5 ⟨da,dc,oa,oc,rfl,hrd,hb5⟩
  have kk5:Keeps (· =zb) w3 w5:=kk.trans (Keeps.of_below hb5) (fun _ _ e=>e)
  refine hK.out _ _ kk5 (fun hSx=>?_);clear hK K hSx
  have hpz5:=hpKeep HPZ.out ((Below.refl w3.heap.size w3).drew.trans hb5)
  refine rdyH 9 rfl (fun K hK=>?_)
  refine step_storeW rfl 53 (.tmp 6) (.tmp 40) rfl zb 0 _ 53 #[.int .i64 rp.fn,.int .i64 rp.exc,.slice da rp.data.length dc,.int .i64 rp.code,.int .i64 rp.level,.bool rp.more,.int .i64 rp.next,.slice oa rp.objs.length oc] rfl rfl hpz5 (by simp) info8 rfl ?_
  intro w8 g8 hk8 hz8
  have kk8:Keeps (· =zb) w3 w8:=kk5.trans hk8 (fun _ _ e=>e)
  refine hK.out _ _ kk8 (fun hSx=>?_);clear hK K hSx
  clear t0 t1 t2 r0 r1 r2 r3 r4
  refine wpAnyH_done (by kernel_rfl) ?_ _
  have g9:w8.heap[zb]?=some (.cells #[.int .i64 rp.fn,.int .i64 rp.exc,.slice da rp.data.length dc,.int .i64 rp.code,.int .i64 rp.level,.bool rp.more,.int .i64 rp.next,.slice oa rp.objs.length oc] 53):=g8
  clear g8
  go_wp2
  refine bodyPost_ret (results_cell_row rfl _ _ (zb) 53 _ (0,0) _ rfl g9 Tryz.underlying53 rfl info8) rfl ?_
  exact RepPost.stored (w5:=w3.drew) hrd hb5 (bt HB3.out kD (Nat.le_refl _)) HZB.out.1 (by have:=HZB.out.2;have:=HB13.out.size;show zb<w3.heap.size;omega) hk8
 ·have HF:=hid hf
  have g1:(q.fn==43)=false:=b0 (by omega)
  have g2:(q.fn !=17)=false:=by rw[bne_eq_false_iff_eq];exact hf
  have HRS:Hid (rp=s.srvA):=by show _=_;rw[←HRA.out];exact Sl.ans_srv hf x
  have kD:Below w3.heap.size w3 w3.drew:=(Below.refl _ _).drew
  have kk:Keeps (· =zb) w3 w3.drew:=Keeps.of_below kD
  have hnS:¬w.heap.size=zb:=by have:=E2.out;omega
  have hnQ:¬w.heap.size+1=zb:=by have:=E2.out;omega
  have t17:∀X,Keeps (· =zb) w3 X→X.cell? ⟨w.heap.size,17,none⟩=some (.bool s.hs):=fun X h=>by rw[hpCell (hpKeeps ps h hnS) 17,←HC.out];rfl
  have t18:∀X,Keeps (· =zb) w3 X→X.cell? ⟨w.heap.size,18,none⟩=some (.slice sa s.sd.length sc):=fun X h=>by rw[hpCell (hpKeeps ps h hnS) 18,←HC.out];rfl
  have r0:∀X,Keeps (· =zb) w3 X→X.cell? ⟨w.heap.size+1,0,none⟩=some (.int .i64 17):=fun X h=>by rw[hpCell (hpKeeps pq h hnQ) 0,←hf];rfl
  have HBS:Hid (Bs w3 (.slice sa s.sd.length sc) s.sd):=HR.out.sd.keep HB3.out
  have hsl:=HV.out.sl
  have hk0:Keeps (· =zb) w3 w3:=Keeps.refl _ _
  clear hf
  cases hs:s.hs with
  |false=>
   rw[hs] at t17
   have u17:=t17 w3 hk0
   have HRP2:Hid (rp=mkR 17 1 []):=by
    show _=_
    rw[HRS.out]
    unfold Sl.srvA
    rw[if_neg (by rw[hs];decide)]
   have HRF:Hid (∀X,Calls Tryz.prog 209 #[.agg #[.int .i64 q.fn,.int .i64 q.addr,.int .i64 q.qty,.int .i64 q.code,.int .i64 q.obj],.int .i64 1] X (RefPost X 17 1)):=fun X=>by have:=HRP.out 1 X;rw[HF.out] at this ⊢;exact this
   clear t17 t18 r0 hsl
   go_wp2_with (first
    |(refine wpList_load_row rfl 45 (.tmp 4) rfl (w.heap.size+1) rfl 45 #[.int .i64 q.fn,.int .i64 q.addr,.int .i64 q.qty,.int .i64 q.code,.int .i64 q.obj] (0,0) _ pq Tryz.underlying45 rfl hi5 ?_)
    |(go_at_call 209;(with_reducible refine(HRF.out _).mono ?_);rintro r w5 ⟨rfl,hb5⟩;have pz5:=hpKeep pz hb5)
    |(refine wpList_storeW rfl 53 (.tmp 6) (.tmp 46) rfl zb 0 _ 53 #[.int .i64 17,.int .i64 1,.slice none 0 0,.int .i64 0,.int .i64 0,.bool false,.int .i64 0,.slice none 0 0] rfl rfl pz5 (by simp) info8 rfl ?_;intro w8 g8 hk8 hz8))
   have g9:w8.heap[zb]?=some (.cells #[.int .i64 17,.int .i64 1,.slice none 0 0,.int .i64 0,.int .i64 0,.bool false,.int .i64 0,.slice none 0 0] 53):=g8
   refine bodyPost_ret (results_cell_row rfl _ _ (zb) 53 _ (0,0) _ rfl g9 Tryz.underlying53 rfl info8) rfl ?_
   rw[HRP2.out]
   exact RepPost.stored (rp:=mkR 17 1 []) (w5:=w3) (da:=none) (dc:=0) (oa:=none) (oc:=0) (fun W _=>⟨Bs.nil W,Obs.nil W,(by show (0:Int)≤_;decide),(by show _≤(0:Int);decide)⟩) hb5 HB3.out HZB.out.1 (by have:=HZB.out.2;have:=HB13.out.size;omega) hk8
  |true=>
   rw[hs] at t17
   have u17:=t17 w3 hk0
   have HS:=hid hs
   have HCL:Hid (∀X,Below w3.heap.size w3 X→Calls Tryz.prog 80 #[.slice sa s.sd.length sc] X fun r w'=>∃v',r=.returned v'∧w'.ownsRow X.heap.size 5 1 v' s.sd.length (u8s s.sd)∧Below X.heap.size X w'):=fun X hX=>clone_any _ s.sd X (HBS.out.keep hX) (by omega)
   have HPZ:=hid pz
   clear ps pq pz hs hsl
   obtain⟨sn,hsn⟩:∃n,s.sd.length=n:=⟨_,rfl⟩
   rw[hsn] at t18 HCL
   have HSN:=hid hsn
   clear hsn t17
   go_upto_region 9 with(fail)
   clear q0 u17
   refine wp_region_held_drew (S:=fun V=>Keeps (· =zb) w3 V) (by kernel_rfl) kk (fun hH=>?_)
   clear hH
   refine tkE 0 47 rfl rfl ?_;simp only[setS]
   refine tkE 1 48 rfl rfl ?_;simp only[setS]
   refine tkE 2 49 rfl rfl ?_;simp only[setS]
   refine tkE 3 50 rfl rfl ?_;simp only[setS]
   refine rdyH 4 rfl (fun K hK=>?_);go_simp
   refine(HCL.out _ kD).mono ?_
   rintro r w5 ⟨v5,rfl,hown5,hb5⟩
   obtain⟨a5,c5,rfl⟩:=own_slice hown5
   have kk5:Keeps (· =zb) w3 w5:=kk.trans (Keeps.of_below hb5) (fun _ _ e=>e)
   refine hK.out _ _ kk5 (fun hSx=>?_);clear hK K hSx
   have hpz5:=hpKeep HPZ.out ((Below.refl w3.heap.size w3).drew.trans hb5)
   refine tkE 5 52 rfl rfl ?_;simp only[setS]
   refine rdyH 6 rfl (fun K hK=>?_)
   refine step_storeW rfl 53 (.tmp 6) (.tmp 52) rfl zb 0 _ 53 #[.int .i64 17,.int .i64 0,.slice a5 sn c5,.int .i64 0,.int .i64 0,.bool false,.int .i64 0,.slice none 0 0] rfl rfl hpz5 (by simp) info8 rfl ?_
   intro w8 g8 hk8 hz8
   have kk8:Keeps (· =zb) w3 w8:=kk5.trans hk8 (fun _ _ e=>e)
   refine hK.out _ _ kk8 (fun hSx=>?_);clear hK K hSx
   clear t18 r0
   refine wpAnyH_done (by kernel_rfl) ?_ _
   have g9:w8.heap[zb]?=some (.cells #[.int .i64 17,.int .i64 0,.slice a5 sn c5,.int .i64 0,.int .i64 0,.bool false,.int .i64 0,.slice none 0 0] 53):=g8
   clear g8
   go_wp2
   refine bodyPost_ret (results_cell_row rfl _ _ (zb) 53 _ (0,0) _ rfl g9 Tryz.underlying53 rfl info8) rfl ?_
   rw[HRS.out]
   have h:=HSN.out
   subst h
   exact srv_rep (w3:=w3.drew) HS.out hown5 hb5 (bt HB3.out kD (Nat.le_refl _)) HZB.out.1 (by have:=HZB.out.2;have:=HB13.out.size;show zb<w3.heap.size;omega) hk8
 ·have HF:=hid hf
  have HID:Hid (Calls Tryz.prog 207 #[.agg C,.agg #[.int .i64 q.fn,.int .i64 q.addr,.int .i64 q.qty,.int .i64 q.code,.int .i64 q.obj]] w3 (RepPost w3 rp)):=by
   rw[←HRA.out,Sl.ans_dev hf,hf]
   by_cases h0:s.lv=0
   ·have h:=pident_no s rv ov (.slice sa s.sd.length sc) q.addr q.qty q.code q.obj w3 h0
    rw[HC.out] at h
    exact h.mono fun _ _ h=>dev_rep HV.out.lv (.inl ⟨h0,h⟩)
   ·have hl:=HV.out.lv
    have hl0:0<s.lv:=by omega
    have h:=pident_sel s rv ov (.slice sa s.sd.length sc) q.addr q.qty q.obj q.code w3 (HR.out.keep HB3.out) hl0 (HV.out.on hl0).1 (fun y hy=>by obtain⟨i,hi⟩:=List.getElem?_of_mem hy;have:=HV.out.vl hl0 i y hi;omega)
    rw[HC.out] at h
    exact h.mono fun _ _ h=>dev_rep hl (.inr ⟨h0,h⟩)
  have g1:(q.fn==43)=true:=b1 hf
  clear hf hc1 hc3
  go_wp2_with (first
   |(refine wpList_load_row rfl 68 (.tmp 3) rfl w.heap.size rfl 68 C (0,0) _ ps Tryz.underlying68 rfl hi19 ?_)
   |(refine wpList_load_row rfl 45 (.tmp 4) rfl (w.heap.size+1) rfl 45 #[.int .i64 q.fn,.int .i64 q.addr,.int .i64 q.qty,.int .i64 q.code,.int .i64 q.obj] (0,0) _ pq Tryz.underlying45 rfl hi5 ?_)
   |(go_at_call 207;(with_reducible refine HID.out.mono ?_);rintro r w5 ⟨da,dc,oa,oc,rfl,hrd,hb5⟩;have pz5:=hpKeep pz hb5)
   |(refine wpList_storeW rfl 53 (.tmp 6) (.tmp 27) rfl zb 0 _ 53 #[.int .i64 rp.fn,.int .i64 rp.exc,.slice da rp.data.length dc,.int .i64 rp.code,.int .i64 rp.level,.bool rp.more,.int .i64 rp.next,.slice oa rp.objs.length oc] rfl rfl pz5 (by simp) info8 rfl ?_;intro w8 g8 hk8 hz8))
  have g9:w8.heap[zb]?=some (.cells #[.int .i64 rp.fn,.int .i64 rp.exc,.slice da rp.data.length dc,.int .i64 rp.code,.int .i64 rp.level,.bool rp.more,.int .i64 rp.next,.slice oa rp.objs.length oc] 53):=g8;refine bodyPost_ret (results_cell_row rfl _ _ (zb) 53 _ (0,0) _ rfl g9 Tryz.underlying53 rfl info8) rfl ?_;exact RepPost.stored hrd hb5 HB3.out HZB.out.1 (by have:=HZB.out.2;have:=HB13.out.size;omega) hk8
end Go.Proofs.YtoaoejaodhedaaaGreat
