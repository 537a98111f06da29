import Derived.Test.YtoaoejaodhedaaaGreatQ17
import Derived.Test.YtoaoejaodhedaaaGreatQ15
namespace Go.Proofs.YtoaoejaodhedaaaGreat
open Go.RowKit
set_option maxHeartbeats 12800000
set_option maxRecDepth 100000
theorem panswer_ex (s:Sl) (rv:Nat→Value) (ov sv:Value) (q:Rq) (x:Int) (x0:0≤x) (x1:x≤65535) (w:World) (hR:SlR w s rv ov sv) (hv:s.val) (hq:q.ok=true):
  Calls Tryz.prog 187 #[.agg (SlC s rv ov sv),.agg #[.int .i64 q.fn,.int .i64 q.addr,.int .i64 q.qty,.int .i64 q.code,.int .i64 q.obj],.int .i64 x] w (RepPost w (s.ans q x)):=by
 obtain⟨sa,sc,rfl,-⟩:=id hR.sd;obtain⟨sn,hsn⟩:=gE s.sd.length;obtain⟨C,hC⟩:=gE (SlC s rv ov (.slice sa s.sd.length sc));have hcs:C.size=19:=by rw[←hC];rfl
 have hi19:(Tryz.prog.info? 68).map (·.size)=some C.size:=by rw[hcs];exact infoSL
 have hi5:(Tryz.prog.info? 45).map (·.size)=some 5:=by kernel_rfl
 rw[hC];obtain⟨rp,hrp⟩:=gE (s.ans q x);rw[hrp];have HRA:=bC hrp;clear hrp;obtain⟨W1,hW1⟩:∃W,((w.alloc (.cells C 68)).alloc (.cells #[.int .i64 q.fn,.int .i64 q.addr,.int .i64 q.qty,.int .i64 q.code,.int .i64 q.obj] 45)).alloc (.cells #[.int .i64 0,.int .i64 0,.slice none 0 0,.int .i64 0,.int .i64 0,.bool false,.int .i64 0,.slice none 0 0] 53)=W:=⟨_,rfl⟩
 have hz1:W1.heap.size=w.heap.size+3:=by rw[←hW1];simp
 have hb1:Below w.heap.size w W1:=by rw[←hW1];exact cJ (cJ (bH w _) (Nat.le_refl _) _) (Nat.le_refl _) _
 have pS:W1.heap[w.heap.size]?=some (.cells C 68):=by rw[←hW1];exact bB (bB (bI w _) (bH _ _)) (bH _ _)
 have pQ:W1.heap[w.heap.size+1]?=some (.cells #[.int .i64 q.fn,.int .i64 q.addr,.int .i64 q.qty,.int .i64 q.code,.int .i64 q.obj] 45):=by rw[←hW1];refine bB ?_ (bH _ _);have h:=bI (w.alloc (.cells C 68)) (.cells #[.int .i64 q.fn,.int .i64 q.addr,.int .i64 q.qty,.int .i64 q.code,.int .i64 q.obj] 45);rw[World.size_alloc] at h;exact h
 have pZ:W1.heap[w.heap.size+2]?=some (.cells #[.int .i64 0,.int .i64 0,.slice none 0 0,.int .i64 0,.int .i64 0,.bool false,.int .i64 0,.slice none 0 0] 53):=by rw[←hW1];have h:=bI ((w.alloc (.cells C 68)).alloc (.cells #[.int .i64 q.fn,.int .i64 q.addr,.int .i64 q.qty,.int .i64 q.code,.int .i64 q.obj] 45)) (.cells #[.int .i64 0,.int .i64 0,.slice none 0 0,.int .i64 0,.int .i64 0,.bool false,.int .i64 0,.slice none 0 0] 53);rw[World.size_alloc,World.size_alloc] at h;exact h
 obtain⟨zb,hzb⟩:∃n,w.heap.size+2=n:=⟨_,rfl⟩
 have E2:Hid (w.heap.size+1+1=zb):=hzb;have HZB:Hid (w.heap.size≤zb∧zb<W1.heap.size):=by show _∧_;omega
 rw[hzb] at pZ;have HV2:Hid (∀X,Below W1.heap.size W1 X→Calls Tryz.prog 112 #[.agg C] X (BoolPost X true)):=fun X hX=>by
  have h:=pslave_any s rv ov _ X (hR.keep (bU hb1 hX));rw[hC] at h;exact h.mono fun _ _ ⟨V,h1,h2,h3⟩=>⟨by rw[h1,h2.out.2 hv],h3⟩
 have HQ2:Hid (∀X,Calls Tryz.prog 121 #[.agg #[.int .i64 q.fn,.int .i64 q.addr,.int .i64 q.qty,.int .i64 q.code,.int .i64 q.obj]] X (BoolPost X true)):=fun X=>by
  have h:=cO q.fn q.addr q.qty q.code q.obj X;have e:Rq.ok ⟨q.fn,q.addr,q.qty,q.code,q.obj⟩=true:=hq;rw[e] at h;exact h
 have HPO:=bC (possible_any x x0 (by omega));have HFC:=bC (fn_cases hq);have HRP:Hid (∀e X,Calls Tryz.prog 209 #[.agg #[.int .i64 q.fn,.int .i64 q.addr,.int .i64 q.qty,.int .i64 q.code,.int .i64 q.obj],.int .i64 e] X (RefPost X q.fn e)):=fun e X=>refuse_any q.fn q.addr q.qty q.code q.obj e X
 have PS:=bC pS;have PQ:=bC pQ;have PZ:=bC pZ;have HW1:=bC hW1;have HB1:=bC hb1;have HC:=bC hC;have HR:=bC hR;have HV:=bC hv;have HQ:=bC hq;have HX:Hid (0≤x∧x≤65535):=⟨x0,x1⟩
 have ps:=pS;have k0:Below W1.heap.size W1 W1:=Below.refl _ _;clear hW1 hb1 hz1 hC pS pQ pZ hR hv x0 x1 hzb hsn hq;go_enter Tryz.func187,Tryz.ntmps187;go_upto_region 1 with(fail)
 rw[HW1.out,E2.out];go_upto_region 3 with(first
  |(refine wpList_load_row rfl 68 (.tmp 3) rfl w.heap.size rfl 68 C (0,0) _ ps Tryz.underlying68 rfl hi19 ?_)
  |(refine bK (by rfl) 45 (.tmp 4) rfl ⟨w.heap.size+1,0,none⟩ rfl #[.int .i64 q.fn,.int .i64 q.addr,.int .i64 q.qty,.int .i64 q.code,.int .i64 q.obj] _ (fun j v hj=>hpRowB (bB PQ.out hb2) j v hj) Tryz.underlying45 rfl hi5 ?_)
  |(go_at_call 112;(with_reducible refine(HV2.out _ k0).mono ?_);rintro r w2 ⟨rfl,hb2⟩)
  |(go_at_call 121;(with_reducible refine(HQ2.out _).mono ?_);rintro r w3 ⟨rfl,hb3⟩)
  |(go_at_call 206;(with_reducible refine(HPO.out _).mono ?_);rintro r w4 ⟨rfl,rfl⟩))
 have HB13:Hid (Below W1.heap.size W1 w3):=bU hb2 hb3;have HB3:=bC (bU HB1.out HB13.out);have ps:=bB PS.out HB13.out;have pq:=bB PQ.out HB13.out;have pz:=bB PZ.out HB13.out;have q0:=bA pq 0;have q0:w3.cell? ⟨w.heap.size+1,0,none⟩=some (.int .i64 q.fn):=q0;clear hb2 hb3 k0;rcases HFC.out with⟨f1,f2⟩|hf|⟨hf,hc1,hc3⟩
 ·obtain ⟨k,hk⟩:∃k:Nat,q.fn=(k:Int)+1:=⟨(q.fn-1).toNat,by omega⟩
  have h4:k<4:=by omega
  have g1:(q.fn==43)=false:=b0 (by omega);have g2:(q.fn !=17)=true:=by rw[bne_iff_ne];omega
  have s1:IntKind.i64.wrap (q.fn-1)=(k:Int):=(IntWalk.i64_in _ (by omega)).trans (by omega);have hki:(0:Int)≤(k:Int):=Int.natCast_nonneg _;have hkl:(k:Int)<4:=by omega
  have kD:Below w3.heap.size w3 w3.drew:=(Below.refl _ _).drew;have kk:Keeps (· =zb) w3 w3.drew:=Keeps.of_below kD;have hnS:¬w.heap.size=zb:=by have:=E2.out;omega
  have hnQ:¬w.heap.size+1=zb:=by have:=E2.out;omega
  have t0:∀X,Keeps (· =zb) w3 X→X.cell? ⟨w.heap.size,3+k*3,none⟩=some (.bool (s.ts k).sup):=fun X h=>(SlC_tab s rv ov _ (by rw[HC.out];exact bG ps h hnS) h4).1
  have t1:∀X,Keeps (· =zb) w3 X→X.cell? ⟨w.heap.size,3+k*3+1,none⟩=some (rv k):=fun X h=>(SlC_tab s rv ov _ (by rw[HC.out];exact bG ps h hnS) h4).2.1
  have t2:∀X,Keeps (· =zb) w3 X→X.cell? ⟨w.heap.size,3+k*3+2,none⟩=some (.int .i64 (s.ts k).most):=fun X h=>(SlC_tab s rv ov _ (by rw[HC.out];exact bG ps h hnS) h4).2.2
  have r0:∀X,Keeps (· =zb) w3 X→X.cell? ⟨w.heap.size+1,0,none⟩=some (.int .i64 q.fn):=fun X h=>bA (bG pq h hnQ) 0
  have r1:∀X,Keeps (· =zb) w3 X→X.cell? ⟨w.heap.size+1,1,none⟩=some (.int .i64 q.addr):=fun X h=>bA (bG pq h hnQ) 1
  have r2:∀X,Keeps (· =zb) w3 X→X.cell? ⟨w.heap.size+1,2,none⟩=some (.int .i64 q.qty):=fun X h=>bA (bG pq h hnQ) 2
  have r3:∀X,Keeps (· =zb) w3 X→X.cell? ⟨w.heap.size+1,3,none⟩=some (.int .i64 q.code):=fun X h=>bA (bG pq h hnQ) 3
  have r4:∀X,Keeps (· =zb) w3 X→X.cell? ⟨w.heap.size+1,4,none⟩=some (.int .i64 q.obj):=fun X h=>bA (bG pq h hnQ) 4
  have HTB:Hid (∀X,Below w3.heap.size w3 X→Calls Tryz.prog 208 #[.agg #[.bool (s.ts k).sup,rv k,.int .i64 (s.ts k).most],.agg #[.int .i64 q.fn,.int .i64 q.addr,.int .i64 q.qty,.int .i64 q.code,.int .i64 q.obj],.int .i64 x] X (RepPost X rp)):=fun X hX=>by
   have h:=pread_ans (s.ts k) (rv k) q HQ.out ⟨f1,f2⟩ x HX.out.1 HX.out.2 X ((HR.out.rg k h4).keep (bU HB3.out hX)) (fun hs=>((HV.out.tb k h4).2 hs).2.1);rw[←HRA.out,Sl.ans_tab hk h4,Tbl.ans_mk];exact h.mono fun _ _ h=>h.rep
  have HPZ:=bC pz;clear hk ps pq pz;generalize (s.ts k).sup=ts at*;generalize (s.ts k).most=tm at*;generalize rv k=tv at*;go_upto_region 6 with(fail)
  clear q0;refine wp_region_held_drew (S:=fun V=>Keeps (· =zb) w3 V) (by kernel_rfl) kk (fun hH=>?_);clear hH;refine tG 0 32 ?_;refine tG 1 33 ?_;refine tG 2 34 ?_;refine tG 3 35 ?_;refine tG 4 36 ?_;refine tG 5 37 ?_;refine tG 6 38 ?_;refine tG 7 39 ?_;refine bM 8 rfl (fun K hK=>?_);go_simp;refine(HTB.out _ kD).mono ?_;rintro r w5 ⟨da,dc,oa,oc,rfl,hrd,hb5⟩;have kk5:Keeps (· =zb) w3 w5:=kk.trans (Keeps.of_below hb5) (fun _ _ e=>e);refine hK.out _ _ kk5 (fun hSx=>?_);clear hK K hSx;have hpz5:=bB HPZ.out ((Below.refl w3.heap.size w3).drew.trans hb5);refine bM 9 rfl (fun K hK=>?_);refine bR rfl 53 (.tmp 6) (.tmp 40) rfl zb 0 _ 53 #[.int .i64 rp.fn,.int .i64 rp.exc,.slice da rp.data.length dc,.int .i64 rp.code,.int .i64 rp.level,.bool rp.more,.int .i64 rp.next,.slice oa rp.objs.length oc] rfl rfl hpz5 (by simp) cQ rfl ?_;intro w8 g8 hk8 hz8;have kk8:Keeps (· =zb) w3 w8:=kk5.trans hk8 (fun _ _ e=>e);refine hK.out _ _ kk8 (fun hSx=>?_);clear hK K hSx;clear t0 t1 t2 r0 r1 r2 r3 r4;refine wpAnyH_done (by kernel_rfl) ?_ _;have g9:w8.heap[zb]?=some (.cells #[.int .i64 rp.fn,.int .i64 rp.exc,.slice da rp.data.length dc,.int .i64 rp.code,.int .i64 rp.level,.bool rp.more,.int .i64 rp.next,.slice oa rp.objs.length oc] 53):=g8;clear g8;go_wp2;refine bodyPost_ret (results_cell_row rfl _ _ (zb) 53 _ (0,0) _ rfl g9 Tryz.underlying53 rfl cQ) rfl ?_;exact RepPost.stored (w5:=w3.drew) hrd hb5 (bU HB3.out kD) HZB.out.1 (by have:=HZB.out.2;have:=HB13.out.size;show zb<w3.heap.size;omega) hk8
 ·have HF:=bC hf
  have g1:(q.fn==43)=false:=b0 (by omega);have g2:(q.fn !=17)=false:=by rw[bne_eq_false_iff_eq];exact hf
  have HRS:Hid (rp=s.srvA):=by show _=_;rw[←HRA.out];exact Sl.ans_srv hf x
  have kD:Below w3.heap.size w3 w3.drew:=(Below.refl _ _).drew;have kk:Keeps (· =zb) w3 w3.drew:=Keeps.of_below kD;have hnS:¬w.heap.size=zb:=by have:=E2.out;omega
  have hnQ:¬w.heap.size+1=zb:=by have:=E2.out;omega
  have t17:∀X,Keeps (· =zb) w3 X→X.cell? ⟨w.heap.size,17,none⟩=some (.bool s.hs):=fun X h=>by rw[bA (bG ps h hnS) 17,←HC.out];rfl
  have t18:∀X,Keeps (· =zb) w3 X→X.cell? ⟨w.heap.size,18,none⟩=some (.slice sa s.sd.length sc):=fun X h=>by rw[bA (bG ps h hnS) 18,←HC.out];rfl
  have r0:∀X,Keeps (· =zb) w3 X→X.cell? ⟨w.heap.size+1,0,none⟩=some (.int .i64 17):=fun X h=>by rw[bA (bG pq h hnQ) 0,←hf];rfl
  have HBS:Hid (Bs w3 (.slice sa s.sd.length sc) s.sd):=HR.out.sd.keep HB3.out;have hsl:=HV.out.sl;have hk0:Keeps (· =zb) w3 w3:=Keeps.refl _ _;clear hf;cases hs:s.hs with
  |false=>
   rw[hs] at t17;have u17:=t17 w3 hk0;have HRP2:Hid (rp=mkR 17 1 []):=by
    show _=_;rw[HRS.out];unfold Sl.srvA;rw[if_neg (by rw[hs];decide)]
   have HRF:Hid (∀X,Calls Tryz.prog 209 #[.agg #[.int .i64 q.fn,.int .i64 q.addr,.int .i64 q.qty,.int .i64 q.code,.int .i64 q.obj],.int .i64 1] X (RefPost X 17 1)):=fun X=>by have:=HRP.out 1 X;rw[HF.out] at this ⊢;exact this
   clear t17 t18 r0 hsl;go_wp2_with (first
    |(refine wpList_load_row rfl 45 (.tmp 4) rfl (w.heap.size+1) rfl 45 #[.int .i64 q.fn,.int .i64 q.addr,.int .i64 q.qty,.int .i64 q.code,.int .i64 q.obj] (0,0) _ pq Tryz.underlying45 rfl hi5 ?_)
    |(go_at_call 209;(with_reducible refine(HRF.out _).mono ?_);rintro r w5 ⟨rfl,hb5⟩;have pz5:=bB pz hb5)
    |(refine bE rfl 53 (.tmp 6) (.tmp 46) rfl zb 0 _ 53 #[.int .i64 17,.int .i64 1,.slice none 0 0,.int .i64 0,.int .i64 0,.bool false,.int .i64 0,.slice none 0 0] rfl rfl pz5 (by simp) cQ rfl ?_;intro w8 g8 hk8 hz8))
   have g9:w8.heap[zb]?=some (.cells #[.int .i64 17,.int .i64 1,.slice none 0 0,.int .i64 0,.int .i64 0,.bool false,.int .i64 0,.slice none 0 0] 53):=g8;refine bodyPost_ret (results_cell_row rfl _ _ (zb) 53 _ (0,0) _ rfl g9 Tryz.underlying53 rfl cQ) rfl ?_;rw[HRP2.out];exact RepPost.stored (rp:=mkR 17 1 []) (w5:=w3) (da:=none) (dc:=0) (oa:=none) (oc:=0) (fun W _=>⟨Bs.nil W,Obs.nil W,(by show (0:Int)≤_;decide),(by show _≤(0:Int);decide)⟩) hb5 HB3.out HZB.out.1 (by have:=HZB.out.2;have:=HB13.out.size;omega) hk8
  |true=>
   rw[hs] at t17;have u17:=t17 w3 hk0;have HS:=bC hs;have HCL:Hid (∀X,Below w3.heap.size w3 X→Calls Tryz.prog 80 #[.slice sa s.sd.length sc] X fun r w'=>∃v',r=.returned v'∧w'.ownsRow X.heap.size 5 1 v' s.sd.length (u8s s.sd)∧Below X.heap.size X w'):=fun X hX=>cL _ s.sd X (HBS.out.keep hX) (by omega)
   have HPZ:=bC pz;clear ps pq pz hs hsl;obtain⟨sn,hsn⟩:=gE s.sd.length;rw[hsn] at t18 HCL;have HSN:=bC hsn;clear hsn t17;go_upto_region 9 with(fail)
   clear q0 u17;refine wp_region_held_drew (S:=fun V=>Keeps (· =zb) w3 V) (by kernel_rfl) kk (fun hH=>?_);clear hH;refine tG 0 47 ?_;refine tG 1 48 ?_;refine tG 2 49 ?_;refine tG 3 50 ?_;refine bM 4 rfl (fun K hK=>?_);go_simp;refine(HCL.out _ kD).mono ?_;rintro r w5 ⟨v5,rfl,hown5,hb5⟩;obtain⟨a5,c5,rfl⟩:=bN hown5;have kk5:Keeps (· =zb) w3 w5:=kk.trans (Keeps.of_below hb5) (fun _ _ e=>e);refine hK.out _ _ kk5 (fun hSx=>?_);clear hK K hSx;have hpz5:=bB HPZ.out ((Below.refl w3.heap.size w3).drew.trans hb5);refine tG 5 52 ?_;refine bM 6 rfl (fun K hK=>?_);refine bR rfl 53 (.tmp 6) (.tmp 52) rfl zb 0 _ 53 #[.int .i64 17,.int .i64 0,.slice a5 sn c5,.int .i64 0,.int .i64 0,.bool false,.int .i64 0,.slice none 0 0] rfl rfl hpz5 (by simp) cQ rfl ?_;intro w8 g8 hk8 hz8;have kk8:Keeps (· =zb) w3 w8:=kk5.trans hk8 (fun _ _ e=>e);refine hK.out _ _ kk8 (fun hSx=>?_);clear hK K hSx;clear t18 r0;refine wpAnyH_done (by kernel_rfl) ?_ _;have g9:w8.heap[zb]?=some (.cells #[.int .i64 17,.int .i64 0,.slice a5 sn c5,.int .i64 0,.int .i64 0,.bool false,.int .i64 0,.slice none 0 0] 53):=g8;clear g8;go_wp2;refine bodyPost_ret (results_cell_row rfl _ _ (zb) 53 _ (0,0) _ rfl g9 Tryz.underlying53 rfl cQ) rfl ?_;rw[HRS.out];have h:=HSN.out;subst h;exact srv_rep (w3:=w3.drew) HS.out hown5 hb5 (bU HB3.out kD) HZB.out.1 (by have:=HZB.out.2;have:=HB13.out.size;show zb<w3.heap.size;omega) hk8
 ·have HF:=bC hf
  have HID:Hid (Calls Tryz.prog 207 #[.agg C,.agg #[.int .i64 q.fn,.int .i64 q.addr,.int .i64 q.qty,.int .i64 q.code,.int .i64 q.obj]] w3 (RepPost w3 rp)):=by
   rw[←HRA.out,Sl.ans_dev hf,hf];by_cases h0:s.lv=0
   ·have h:=pident_no s rv ov (.slice sa s.sd.length sc) q.addr q.qty q.code q.obj w3 h0
    rw[HC.out] at h;exact h.mono fun _ _ h=>dev_rep HV.out.lv (.inl ⟨h0,h⟩)
   ·have hl:=HV.out.lv
    have hl0:0<s.lv:=by omega
    have h:=pident_sel s rv ov (.slice sa s.sd.length sc) q.addr q.qty q.obj q.code w3 (HR.out.keep HB3.out) hl0 (HV.out.on hl0).1 (fun y hy=>by obtain⟨i,hi⟩:=List.getElem?_of_mem hy;have:=HV.out.vl hl0 i y hi;omega);rw[HC.out] at h;exact h.mono fun _ _ h=>dev_rep hl (.inr ⟨h0,h⟩)
  have g1:(q.fn==43)=true:=b1 hf;clear hf hc1 hc3;go_wp2_with (first
   |(refine wpList_load_row rfl 68 (.tmp 3) rfl w.heap.size rfl 68 C (0,0) _ ps Tryz.underlying68 rfl hi19 ?_)
   |(refine wpList_load_row rfl 45 (.tmp 4) rfl (w.heap.size+1) rfl 45 #[.int .i64 q.fn,.int .i64 q.addr,.int .i64 q.qty,.int .i64 q.code,.int .i64 q.obj] (0,0) _ pq Tryz.underlying45 rfl hi5 ?_)
   |(go_at_call 207;(with_reducible refine HID.out.mono ?_);rintro r w5 ⟨da,dc,oa,oc,rfl,hrd,hb5⟩;have pz5:=bB pz hb5)
   |(refine bE rfl 53 (.tmp 6) (.tmp 27) rfl zb 0 _ 53 #[.int .i64 rp.fn,.int .i64 rp.exc,.slice da rp.data.length dc,.int .i64 rp.code,.int .i64 rp.level,.bool rp.more,.int .i64 rp.next,.slice oa rp.objs.length oc] rfl rfl pz5 (by simp) cQ rfl ?_;intro w8 g8 hk8 hz8))
  have g9:w8.heap[zb]?=some (.cells #[.int .i64 rp.fn,.int .i64 rp.exc,.slice da rp.data.length dc,.int .i64 rp.code,.int .i64 rp.level,.bool rp.more,.int .i64 rp.next,.slice oa rp.objs.length oc] 53):=g8;refine bodyPost_ret (results_cell_row rfl _ _ (zb) 53 _ (0,0) _ rfl g9 Tryz.underlying53 rfl cQ) rfl ?_;exact RepPost.stored hrd hb5 HB3.out HZB.out.1 (by have:=HZB.out.2;have:=HB13.out.size;omega) hk8
theorem run_load_rowT {P:Program} {ev:Operand→Value} {o:Oper} {w:World} (ty:TypeId) (x:Operand) (ho:o.op=.load ty x)
  (ad:Addr) (hx:ev x=.pointer (some ad)) (cs:Array Value) (d:TypeDesc) (hc:∀j v,cs.toList[j]?=some v→w.cell? (ad.add j)=some v)
  (hu:P.underlying ty=some d) (hd:(match d with|.struct _|.array _ _=>true|_=>false)=true) (hi:(P.info? ty).map (·.size)=some cs.size):
  (execOp ev o).run P w=.ok (.value (.agg cs)) w:=by
 unfold execOp;simp only[ho,hx,Instr.loadAt,Instr.sureAddr,Sem.run_bind,Sem.run_pure,Result.andThen_ok,run_loadVar_at w ad ty cs d hc hu hd hi]
def flipL (f:List UInt8):List UInt8:=f.set (f.length-1) ((f.getD (f.length-1) 0)^^^255)
theorem flipL_len (f:List UInt8):(flipL f).length=f.length:=by unfold flipL;rw[List.length_set]
def ansF (l:List Sl) (x:Int):Int×Rq×List Nat→List UInt8
 |(_,_,[])=>[]
 |(u,q,j::ms)=>match l[j]? with
  |none=>[]
  |some s=>if ms=[] then frameOf u (s.ans q x) else flipL (frameOf u (s.ans q x))
def busAns (l:List Sl) (bd pa:Int) (f:List UInt8) (x:Int):Option (List UInt8):=(busDec l bd pa f).map (ansF l x)
def busBusy (l:List Sl) (bd pa:Int) (f:List UInt8):Option (List UInt8):=(busDec l bd pa f).map fun o=>if o.2.2.length=1 then frameOf o.1 (mkR o.2.1.fn 6 []) else ansF l 0 o
def AnPost (w:World) (o:Option (List UInt8)) (r:Ending) (w':World):Prop:=
 match o with
 |some f=>∃a c,r=.returned (.tuple #[.slice a f.length c,.bool true])∧w'.ownsRow w.heap.size 5 1 (.slice a f.length c) f.length (u8s f)∧Below w.heap.size w w'
 |none=>r=.returned (.tuple #[.slice none 0 0,.bool false])∧Below w.heap.size w w'
theorem pbans_any (la:Option Addr) (lc ln:Nat) (l:List Sl) (hl:l.length=ln) (hB:BusP l) (bd pa:Int) (f1:wfI bd) (f2:wfI pa) (fa:Option Addr) (fn fc:Nat) (f:List UInt8) (x:Int) (x0:0≤x) (x1:x≤65535) (w:World) (hL:Slvs w (.slice la ln lc) l) (hf:Bs w (.slice fa fn fc) f):
  Calls Tryz.prog 163 #[.slice la ln lc,.agg #[.int .i64 bd,.int .i64 pa],.slice fa fn fc,.int .i64 x] w (AnPost w (busAns l bd pa f x)):=by
 obtain⟨W1,hW1,hb1,pS⟩:=alQ w (.cells #[.int .i64 bd,.int .i64 pa] 61);have s0:=bA pS 0;have s1:=bA pS 1;have HPS:=bC (pparse_any la lc ln l hl hB bd pa f1 f2 fa fn fc f W1 (hL.keep hb1) (hf.keep hb1));have HW1:=bC hW1;have HB1:=bC hb1;have HB:=bC hB;have HL:=bC (hL.keep hb1);have HX:Hid (0≤x∧x≤65535):=⟨x0,x1⟩
 have HLN:=bC hl;unfold busAns;clear hW1 hb1 pS hB hL hf f1 f2 hl x0 x1;cases ho:busDec l bd pa f with
 |none=>
  rw[ho] at HPS;clear ho;go_enter Tryz.func163,Tryz.ntmps163;go_upto_region 1 with(fail)
  rw[HW1.out];go_wp2_with (go_at_call 185;(with_reducible refine HPS.out.mono ?_);rintro r w2 ⟨u2,f2,a2,n2,c2,o2,ma,mn,mc,rfl,hb2⟩);go_ret2;exact⟨rfl,cJ (bU HB1.out hb2) (Nat.le_refl _) _⟩
 |some o=>
  obtain⟨u,q,ms⟩:=o;rw[ho] at HPS;obtain⟨u1,u2,hqk,hms,hne⟩:=busDec_some ho;clear ho;cases ms with
  |nil=>exact absurd rfl hne
  |cons j rest=>
   have hjm:j∈memb l bd pa u l.length:=by rw[←hms];exact List.mem_cons_self
   obtain⟨s,hs,-⟩:=memb_mem hjm;have hjn:j<ln:=by rw[←HLN.out];exact(List.getElem?_eq_some_iff.1 hs).1
   have hsv:s.val:=HB.out.2 s (List.mem_of_getElem? hs);obtain⟨ml,hml⟩:∃n,(j::rest).length=n:=⟨_,rfl⟩
   have HPS2:Hid (Calls Tryz.prog 185 #[.slice la ln lc,.agg #[.int .i64 bd,.int .i64 pa],.slice fa fn fc] W1 fun r w'=>∃a c,r=.returned (.tuple #[.int .i64 u,.agg #[.int .i64 q.fn,.int .i64 q.addr,.int .i64 q.qty,.int .i64 q.code,.int .i64 q.obj],.slice a ml c,.bool true])∧w'.ownsRow W1.heap.size 3 1 (.slice a ml c) ml ((j::rest).map fun i:Nat=>.int .i64 (i:Int))∧Below W1.heap.size W1 w'):=HPS.out.mono fun r w' h=>by
    obtain⟨a,c,h1,h2,h3⟩:=h;rw[hml] at h1 h2;exact⟨a,c,h1,h2,h3⟩
   have HML:Hid (ml=rest.length+1):=by show _=_;rw[←hml];rfl
   obtain⟨rp,hrp⟩:=gE (s.ans q x);have hok:rp.ok=true:=by rw[←hrp];exact Sl.ans_ok hsv hqk x
   obtain⟨F,hF⟩:=gE (frameOf u rp);have hFl:=frameOf_len u hok;rw[hF] at hFl;have HAN:Hid (Option.map (ansF l x) (some (u,q,j::rest))=some (if rest=[] then F else flipL F)):=by
    show some (ansF l x (u,q,j::rest))=_;unfold ansF;dsimp only;rw[hs];dsimp only;rw[hrp,hF]
   rw[HAN.out];obtain⟨FR,hFR⟩:∃FR,(if rest=[] then F else flipL F)=FR:=⟨_,rfl⟩
   rw[hFR];have HFR:=bC hFR;clear hFR HAN;have HSA:Hid (∀X rv ov sv,SlR X s rv ov sv→Calls Tryz.prog 187 #[.agg (SlC s rv ov sv),.agg #[.int .i64 q.fn,.int .i64 q.addr,.int .i64 q.qty,.int .i64 q.code,.int .i64 q.obj],.int .i64 x] X (RepPost X rp)):=fun X rv ov sv hR=>by rw[←hrp];exact panswer_ex s rv ov sv q x HX.out.1 HX.out.2 X hR hsv hqk
   have HBU:Hid (∀X da dc oa oc,RpIs X rp da dc oa oc→Calls Tryz.prog 186 #[.int .i64 u,.agg #[.int .i64 rp.fn,.int .i64 rp.exc,.slice da rp.data.length dc,.int .i64 rp.code,.int .i64 rp.level,.bool rp.more,.int .i64 rp.next,.slice oa rp.objs.length oc]] X (FrPost X F)):=fun X da dc oa oc hR=>by rw[←hF];exact pbuildf_any u u1 u2 rp hok da oa dc oc X hR
   have g1:decide (x<0)=false:=decide_eq_false (by have:=HX.out;omega);have g2:decide (65536≤x)=false:=decide_eq_false (by have:=HX.out;omega);have hj0:(0:Int)≤(j:Int):=Int.natCast_nonneg _;have hjl:(j:Int)<(ln:Int):=by omega
   have hml0:(0:Int)<(ml:Int):=by have:=HML.out;omega
   have hml1:0<ml:=by have:=HML.out;omega
   have HS:=bC hs;have HFL:=bC hFl;clear HPS hml hrp hok hF hFl u1 u2 hqk hms hne hjm hs hsv hjn;go_enter Tryz.func163,Tryz.ntmps163;go_upto_region 1 with(fail)
   rw[HW1.out];go_upto_region 2 with(go_at_call 185;(with_reducible refine HPS2.out.mono ?_);rintro r w2 ⟨ma,mc,rfl,hown2,hb2⟩)
   obtain⟨W3,hW3,hb3,p3⟩:=alQ w2 (.cells #[.int .i64 q.fn,.int .i64 q.addr,.int .i64 q.qty,.int .i64 q.code,.int .i64 q.obj] 45);have hown3:W3.ownsRow W1.heap.size 3 1 (.slice ma ml mc) ml ((j::rest).map fun i:Nat=>.int .i64 (i:Int)):=bF (F:=fun _=>False) hown2 (Keeps.of_below hb3) (fun _ _ e=>e);obtain⟨mg,cap,hv1,-,-,-⟩:=own_shapeR hown3 (by have:=HML.out;omega);simp only[Value.slice.injEq,true_and] at hv1;obtain⟨rfl,rfl⟩:=hv1;have hm0:W3.cell? ⟨mg,0,none⟩=some (.int .i64 (j:Int)):=by rw[hown3.cellAt 0 (by have:=HML.out;show 0<ml*1;omega)];rfl
   have hb13:=bU hb2 hb3;obtain⟨b,o,rv,ov,sv,rfl,hR,hc⟩:=(HL.out.keep hb13).at HS.out;obtain⟨C,hC⟩:=gE (SlC s rv ov sv);have hi:(Tryz.prog.info? 68).map (·.size)=some C.size:=by rw[←hC];exact infoSL
   have HRW:Hid (∀X,Below W3.heap.size W3 X→∀k v,C.toList[k]?=some v→X.cell? ((⟨b,o+j*19,none⟩:Addr).add k)=some v):=fun X hX k v hk=>by
    have e:(⟨b,o+j*19,none⟩:Addr).add k=⟨b,o+j*19+k,none⟩:=by unfold Addr.add;split<;>simp_all
    rw[e];exact bD hX (hc k v (by rw[hC];simpa using hk))
   have HSA2:Hid (∀X,Below W3.heap.size W3 X→Calls Tryz.prog 187 #[.agg C,.agg #[.int .i64 q.fn,.int .i64 q.addr,.int .i64 q.qty,.int .i64 q.code,.int .i64 q.obj],.int .i64 x] X (RepPost X rp)):=fun X hX=>by rw[←hC];exact HSA.out X rv ov sv (hR.keep hX)
   have c0:∀X,Below W3.heap.size W3 X→X.cell? ⟨mg,0,none⟩=some (.int .i64 (j:Int)):=fun X h=>bD h hm0
   have r0:=cF p3 0 rfl;have r1:=cF p3 1 rfl;have r2:=cF p3 2 rfl;have r3:=cF p3 3 rfl;have r4:=cF p3 4 rfl;have HB03:Hid (Below w.heap.size w W3):=bU HB1.out hb13;have HW3:=bC hW3;have kD:Below W3.heap.size W3 W3.drew:=(Below.refl _ _).drew;clear hW3 hb3 p3 hown2 hown3 hm0 hR hc hC hb13 hb2;go_upto_region 4 with(fail)
   rw[HW3.out];refine wp_region_held_drew (S:=fun V=>Below W3.heap.size W3 V) (by kernel_rfl) kD (fun hH=>?_);clear hH;refine tG 0 34 ?_;refine tG 1 35 ?_;refine tG 2 36 ?_;refine tG 3 37 ?_;refine tG 4 38 ?_;refine tG 5 39 ?_;refine cR 6 40 (v:=.agg C) rfl (by kernel_rfl) (fun _ _ _ h=>h) rfl (by rfl) (by assumption) (fun X hX=>run_load_rowT 68 (.tmp 39) rfl ⟨b,o+j*19,none⟩ rfl C _ (HRW.out X hX) Tryz.underlying68 rfl hi) ?_;simp only[cA];refine tG 7 41 ?_;refine tG 8 42 ?_;refine bM 9 rfl (fun K hK=>?_);go_simp;refine(HSA2.out _ kD).mono ?_;rintro r w4 ⟨da,dc,oa,oc,rfl,hrd,hb4⟩;have hB4:=bU kD hb4;refine hK.out _ _ hB4 (fun hSx=>?_);clear hK K hSx;refine bM 10 rfl (fun K hK=>?_);go_simp;refine(HBU.out _ _ _ _ _ (hrd _ (Agree.refl _ _))).mono ?_;rintro r w5 ⟨ba,bc,rfl,hown5,hb5⟩;have hB5:=bU hB4 hb5;refine hK.out _ _ hB5 (fun hSx=>?_);clear hK K hSx;refine cR 11 14 (v:=?_) rfl (by kernel_rfl) (fun _ _ _ h=>h) rfl (by rfl) (by assumption) ?_ ?_;rotate_left;(intro w hSw;(try dsimp only at hSw);(try go_simp);try rfl);refine wpAnyH_done (by kernel_rfl) ?_ _;clear c0 r0 r1 r2 r3 r4;have HBW:Hid (Below w.heap.size w w5):=bU HB03.out hB5;have hz5:w.heap.size≤w4.heap.size:=by have:=HB03.out.size;have:=hB4.size;omega
   obtain⟨fl,hfl⟩:=gE F.length;have HFN:=bC hfl;have HOW:Hid (w5.ownsRow w.heap.size 5 1 (.slice ba fl bc) fl (u8s F)):=by have:=bQ hown5 hz5;rw[hfl] at this;exact this
   rw[hfl];clear hown5 hz5 hrd hB4 hB5 kD;have hfb:=HFL.out;rw[hfl] at hfb;clear hfl;by_cases hr:rest=[]
   ·have HE:Hid (FR=F):=by show _=_;rw[←HFR.out,if_pos hr]
    have g3:decide ((1:Int)<(ml:Int))=false:=decide_eq_false (by have:=HML.out;rw[hr] at this;simp at this;omega);clear hr;go_wp2;go_ret2;have e:=HFN.out;subst e;rw[HE.out];exact⟨ba,bc,rfl,HOW.out,HBW.out⟩
   ·have HE:Hid (FR=flipL F):=by show _=_;rw[←HFR.out,if_neg hr]
    have g3:decide ((1:Int)<(ml:Int))=true:=decide_eq_true (by have:=HML.out;have:=List.length_pos_iff.2 hr;omega);have g4:1<ml:=by have:=HML.out;have:=List.length_pos_iff.2 hr;omega
    clear hr;have HOW2:=HOW;obtain⟨g,cap,hv1,hg,-,-⟩:=own_shapeR HOW.out (by omega);simp only[Value.slice.injEq,true_and] at hv1;obtain⟨rfl,rfl⟩:=hv1;obtain⟨i,hi5⟩:∃i,fl=i+1:=⟨fl-1,by omega⟩
    have s9:IntKind.i64.wrap ((fl:Int)-1)=(i:Int):=(IntWalk.i64_in _ (by omega)).trans (by omega);have hi0:(0:Int)≤(i:Int):=Int.natCast_nonneg _;have hil:(i:Int)<(fl:Int):=by omega
    have hcl:=ownb_cellZ HOW.out i (by omega);have hfz:=HOW.out.frozenAt i;have hst:=(HOW.out.stored i (byteV ((F.getD i 0)^^^255))).1;have hxb:=xor_byte (F.getD i 0);have HFF:Hid (flipL F=F.set i ((F.getD i 0)^^^255)):=by
     show _=_;unfold flipL;rw[HFN.out,hi5,Nat.add_sub_cancel]
    rw[u8s_setZ] at hst;have HST:=bC hst;have HXB:=bC hxb;have HKS:Hid (∀v,Below w.heap.size w (w5.setCell ⟨g,i,none⟩ v)):=fun v=>HBW.out.trans ((ks1 (p:=g) (Keeps.refl _ _) i v).below HBW.out.size (fun j hj e=>by omega))
    clear hst hxb hi5;go_wp2;go_ret2;have e:(flipL F).length=fl:=by rw[flipL_len,HFN.out]
    rw[HE.out];refine⟨some ⟨g,0,none⟩,bc,by rw[e]<;>rfl,?_,HKS.out _⟩;rw[e,HFF.out];have hx:(Value.int .u8 (bits .xor .u8 ((((F[i]?.getD 0).toNat:Nat)):Int) 255))=byteV ((F.getD i 0)^^^255):=HXB.out;rw[hx];exact HST.out
theorem ok_known {q:Rq} (h:q.ok=true):knownB q.fn=true:=by
 unfold knownB tblB;rcases fn_cases h with⟨h1,h2⟩|h1|h1
 ·rw [decide_eq_true h1,decide_eq_true h2];rfl
 ·rw [h1];rfl
 ·rw [h1.1];rfl
theorem AnPost.up {w W:World} {o:Option (List UInt8)} {r:Ending} {w':World} (hb:Below w.heap.size w W) (h:AnPost W o r w'):AnPost w o r w':=by
 cases o with
 |none=>exact⟨h.1,bU hb h.2⟩
 |some f=>
  obtain⟨a,c,h1,h2,h3⟩:=h;exact⟨a,c,h1,bQ h2 hb.size,bU hb h3⟩
theorem AnPost.form {w:World} {o:Option (List UInt8)} {r:Ending} {w':World} (h:AnPost w o r w'):∃a n c B,r=.returned (.tuple #[.slice a n c,.bool B]):=by
 cases o with
 |none=>exact⟨none,0,0,false,h.1⟩
 |some f=>obtain⟨a,c,h1,-⟩:=h;exact⟨a,_,c,true,h1⟩
theorem pbbusy_any (la:Option Addr) (lc ln:Nat) (l:List Sl) (hl:l.length=ln) (hB:BusP l) (bd pa:Int) (f1:wfI bd) (f2:wfI pa) (fa:Option Addr) (fn fc:Nat) (f:List UInt8) (w:World) (hL:Slvs w (.slice la ln lc) l) (hf:Bs w (.slice fa fn fc) f):
  Calls Tryz.prog 162 #[.slice la ln lc,.agg #[.int .i64 bd,.int .i64 pa],.slice fa fn fc] w (AnPost w (busBusy l bd pa f)):=by
 obtain⟨W1,hW1,hb1,pS⟩:=alQ w (.cells #[.int .i64 bd,.int .i64 pa] 61);have s0:=cF pS 0 rfl;have s1:=cF pS 1 rfl;have k0:Below W1.heap.size W1 W1:=Below.refl _ _;have HPS:=bC (pparse_any la lc ln l hl hB bd pa f1 f2 fa fn fc f W1 (hL.keep hb1) (hf.keep hb1));have HAN:Hid (∀X,Below W1.heap.size W1 X→Calls Tryz.prog 163 #[.slice la ln lc,.agg #[.int .i64 bd,.int .i64 pa],.slice fa fn fc,.int .i64 0] X (AnPost X (busAns l bd pa f 0))):=fun X hX=>pbans_any la lc ln l hl hB bd pa f1 f2 fa fn fc f 0 (by decide) (by decide) X (hL.keep (bU hb1 hX)) (hf.keep (bU hb1 hX))
 have HW1:=bC hW1;have HB1:=bC hb1;unfold busBusy;unfold busAns at HAN;clear hW1 hb1 pS hB hL hf f1 f2 hl;cases ho:busDec l bd pa f with
 |none=>
  rw[ho] at HPS HAN;clear ho;go_enter Tryz.func162,Tryz.ntmps162;go_upto_region 1 with(fail)
  rw[HW1.out];go_upto_region 2 with(go_at_call 185;(with_reducible refine HPS.out.mono ?_);rintro r w2 ⟨u2,f2,a2,n2,c2,o2,ma,mn,mc,rfl,hb2⟩)
  obtain⟨W3,hW3⟩:∃W,w2.alloc (.cells #[.int .i64 f2,.int .i64 a2,.int .i64 n2,.int .i64 c2,.int .i64 o2] 45)=W:=⟨_,rfl⟩
  have hb3:Below W1.heap.size W1 W3:=by rw[←hW3];exact cJ hb2 (Nat.le_refl _) _
  rw[hW3];clear hW3;go_wp2_with (go_at_call 163;(with_reducible refine(HAN.out _ hb3).mono ?_);rintro r w4 hp;obtain⟨ra,rn,rc,RB,rfl⟩:=hp.form;have HP:=bC hp;clear hp);go_ret2;exact AnPost.up (bU HB1.out hb3) HP.out
 |some o=>
  obtain⟨u,q,ms⟩:=o;rw[ho] at HPS HAN;obtain⟨u1,u2,hqk,hms,hne⟩:=busDec_some ho;clear ho hms;obtain⟨ml,hml⟩:=gE ms.length;have HPS2:Hid (Calls Tryz.prog 185 #[.slice la ln lc,.agg #[.int .i64 bd,.int .i64 pa],.slice fa fn fc] W1 fun r w'=>∃a c,r=.returned (.tuple #[.int .i64 u,.agg #[.int .i64 q.fn,.int .i64 q.addr,.int .i64 q.qty,.int .i64 q.code,.int .i64 q.obj],.slice a ml c,.bool true])∧Below W1.heap.size W1 w'):=HPS.out.mono fun r w' h=>by
   obtain⟨a,c,h1,h2,h3⟩:=h;rw[hml] at h1;exact⟨a,c,h1,h3⟩
  have hml0:0<ml:=by rw[←hml];exact List.length_pos_iff.2 hne
  obtain⟨FR,hFR⟩:∃FR,Option.map (fun o:Int×Rq×List Nat=>if o.2.2.length=1 then frameOf o.1 (mkR o.2.1.fn 6 []) else ansF l 0 o) (some (u,q,ms))=FR:=⟨_,rfl⟩
  rw[hFR];have hFR2:FR=some (if ml=1 then frameOf u (mkR q.fn 6 []) else ansF l 0 (u,q,ms)):=by rw[←hFR,←hml];rfl
  clear hFR;by_cases h1:ml=1
  ·rw [if_pos h1] at hFR2
   obtain⟨rp,hrp⟩:=gE (mkR q.fn 6 []);have hok:rp.ok=true:=by rw[←hrp];exact mkR_ok (ok_known hqk) (by decide) (by decide)
   have HBU:Hid (∀X,Calls Tryz.prog 186 #[.int .i64 u,.agg #[.int .i64 q.fn,.int .i64 6,.slice none 0 0,.int .i64 0,.int .i64 0,.bool false,.int .i64 0,.slice none 0 0]] X (FrPost X (frameOf u rp))):=fun X=>by
    have h:=pbuildf_any u u1 u2 rp hok none none 0 0 X (by rw[←hrp];exact⟨Bs.nil X,Obs.nil X,(by show (0:Int)≤_;decide),(by show _≤(0:Int);decide)⟩);rw[←hrp] at h ⊢;exact h
   rw[hrp] at hFR2;have HFR:=bC hFR2;have g3:decide ((1:Int)<(ml:Int))=false:=decide_eq_false (by omega);have g4:¬1<ml:=by omega
   clear HPS HAN hml hFR2 hrp hok u1 u2 hqk hne h1;go_enter Tryz.func162,Tryz.ntmps162;go_upto_region 1 with(fail)
   rw[HW1.out];go_upto_region 2 with(go_at_call 185;(with_reducible refine HPS2.out.mono ?_);rintro r w2 ⟨ma,mc,rfl,hb2⟩)
   go_wp2_with (go_at_call 186;(with_reducible refine(HBU.out _).mono ?_);rintro r w4 ⟨ba,bc,rfl,hown,hb4⟩);go_ret2;rw[HFR.out];have hb3:Below W1.heap.size W1 _:=cJ hb2 (Nat.le_refl _) (.cells #[.int .i64 q.fn,.int .i64 q.addr,.int .i64 q.qty,.int .i64 q.code,.int .i64 q.obj] 45);have h03:=bU HB1.out hb3;exact⟨ba,bc,rfl,bQ hown h03.size,bU h03 hb4⟩
  ·rw [if_neg h1] at hFR2
   have HFR:=bC hFR2;have g3:decide ((1:Int)<(ml:Int))=true:=decide_eq_true (by omega);have g4:1<ml:=by omega
   clear HPS hml hFR2 u1 u2 hqk hne h1;go_enter Tryz.func162,Tryz.ntmps162;go_upto_region 1 with(fail)
   rw[HW1.out];go_upto_region 2 with(go_at_call 185;(with_reducible refine HPS2.out.mono ?_);rintro r w2 ⟨ma,mc,rfl,hb2⟩)
   obtain⟨W3,hW3⟩:∃W,w2.alloc (.cells #[.int .i64 q.fn,.int .i64 q.addr,.int .i64 q.qty,.int .i64 q.code,.int .i64 q.obj] 45)=W:=⟨_,rfl⟩
   have hb3:Below W1.heap.size W1 W3:=by rw[←hW3];exact cJ hb2 (Nat.le_refl _) _
   rw[hW3];clear hW3;go_wp2_with (go_at_call 163;(with_reducible refine(HAN.out _ hb3).mono ?_);rintro r w4 hp;obtain⟨ra,rn,rc,RB,rfl⟩:=hp.form;have HP:=bC hp;clear hp);go_ret2;rw[HFR.out];exact AnPost.up (bU HB1.out hb3) HP.out
abbrev cB:=@run_load_rowT
end Go.Proofs.YtoaoejaodhedaaaGreat
