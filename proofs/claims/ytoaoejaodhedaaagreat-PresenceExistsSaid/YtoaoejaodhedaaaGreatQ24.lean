import Derived.Test.YtoaoejaodhedaaaGreatQ23
namespace Go.Proofs.YtoaoejaodhedaaaGreat
open Go.RowKit
set_option maxHeartbeats 12800000
set_option maxRecDepth 100000
theorem LnS.sendFin {P:Nat→Prop} {w7 w8 X9 w10 w11:World} {g:Nat} {sv av:Value} {lp:Bool} {s:Ln} {ta ta2 ba:Option Addr} {tn tc tc2 fn bc:Nat} {pv:Value} {cs:List Value} (h7:LnS P w7 g sv av lp s (.slice ta tn tc) pv cs) (htn:s.sent.length=tn) (bd pa:Int) (f:List UInt8) (hfn:f.length=fn)
  (hob:w8.ownsRow w7.heap.size 5 1 (.slice ba fn bc) fn (u8s f)) (hb8:Below w7.heap.size w7 w8) (hb9:Below w8.heap.size w8 X9) (hgr:X9.grownBy w10 (Value.slice ta tn tc).ownBlock) (hnew:NewOr X9 (.slice ta tn tc) (.slice ta2 (tn+1) tc2))
  (hown:w10.ownsRow 0 95 3 (.slice ta2 (tn+1) tc2) (tn+1) (cs++[Value.int .i64 bd,.int .i64 pa,.slice ba fn bc])) (h11:w10.setCell ⟨g,4,none⟩ (.slice ta2 (tn+1) tc2)=w11) (en:Int):
  LnS (GrowP P w7 (w11.setCell ⟨g,6,none⟩ (.int .i64 en))) (w11.setCell ⟨g,6,none⟩ (.int .i64 en)) g sv av lp {s with sent:=s.sent++[((bd,pa),f)],free:=en} (.slice ta2 (tn+1) tc2) pv (cs++[Value.int .i64 bd,.int .i64 pa,.slice ba fn bc])∧Keeps P w7 (w11.setCell ⟨g,6,none⟩ (.int .i64 en)):=by
 subst htn hfn h11;have hgl:g<w7.heap.size:=cI h7.at_;have z8:=hb8.size;have z9:=hb9.size;have z10:=hgr.size;have hr9:Below w7.heap.size w7 X9:=hb8.trans (hb9.mono z8);have h910:Keeps (fun j=>(Value.slice ta s.sent.length tc).ownBlock=some j) X9 w10:=Keeps.of_grown hgr (fun _ e=>e);have hks:Keeps (fun j=>j=g) w10 ((w10.setCell ⟨g,4,none⟩ (.slice ta2 (s.sent.length+1) tc2)).setCell ⟨g,6,none⟩ (.int .i64 en)):=ks1 (ks1 (Keeps.refl (· =g) w10) 4 _) 6 _;have hzF:((w10.setCell ⟨g,4,none⟩ (.slice ta2 (s.sent.length+1) tc2)).setCell ⟨g,6,none⟩ (.int .i64 en)).heap.size=w10.heap.size:=by simp
 have hkk:Keeps (fun j=>j=g∨(Value.slice ta s.sent.length tc).ownBlock=some j) w7 ((w10.setCell ⟨g,4,none⟩ (.slice ta2 (s.sent.length+1) tc2)).setCell ⟨g,6,none⟩ (.int .i64 en)):=
  ((Keeps.of_below (F:=fun j=>j=g∨(Value.slice ta s.sent.length tc).ownBlock=some j) hr9).trans (h910.mono (fun _ _ e=>.inr e)) (fun _ _ e=>e)).trans (hks.mono (fun _ _ e=>.inl e)) (fun _ _ e=>e)
 have htl:∀j,(Value.slice ta s.sent.length tc).ownBlock=some j→j<w7.heap.size:=fun j hj=>h7.pl j (h7.tb j hj).2
 have hnb:∀j,(Value.slice ta2 (s.sent.length+1) tc2).ownBlock=some j→(Value.slice ta s.sent.length tc).ownBlock=some j∨(X9.heap.size≤j∧j<w10.heap.size):=fun j hj=>by
  rcases hnew with e|⟨i,e,e2⟩
  ·exact .inl (by rw[←e];exact hj)
  ·rw [hj] at e
   cases e;exact .inr ⟨e2,(hown.lt j hj).2⟩
 have hg10:=bG (bB h7.at_ hr9) h910 (fun e=>(h7.tb g e).1 rfl);have ho8:=bF hob (Keeps.of_below (F:=fun _=>False) hb9) (fun _ _ e=>e);have ho10:=bF ho8 h910 (fun j hj e=>by have:=(hob.lt j hj).1;have:=htl j e;omega);have hoF:=bF ho10 hks (fun j hj e=>by have:=(hob.lt j hj).1;omega);have hl8:∀j,(Value.slice ba f.length bc).ownBlock=some j→w7.heap.size≤j∧j<w8.heap.size:=fun j hj=>hob.lt j hj
 refine h7.sentMore (x:=((bd,pa),f)) hkk (bX (bX hg10 4 _) 6 _) (bF hown hks (fun j hj e=>?_)) (fun j hj=>?_) (fun X hX=>?_)
 ·rcases hnb j hj with e2|e2
  ·exact (h7.tb j e2).1 e
  ·omega
 ·rcases hnb j hj with e2|e2
  ·exact .inl e2
  ·exact .inr ⟨by omega,by rw[hzF];exact e2.2⟩
 ·exact Bs.own (bF hoF hX (fun j hj e=>by
   have h1:=hl8 j hj
   rcases e with e|e
   ·omega
   ·rcases hnb j e with e|e
    ·have:=htl j e
     omega
    ·omega))
theorem z23_1 {p:Prop} (h:p:=by
 have hsn9:=bF H7.out.sn (Keeps.of_below (F:=fun _=>False) (hB8.trans (hb9.mono hB8.size))) (fun _ _ e=>e);have hg9:=bB (bB H7.out.at_ hB8) hb9;rw[show ({s with pend:=(chsN (charT bd) st at_ R rn).foldl putL s.pend}:Ln).sent.length=tn from HHT.out] at hsn9;refine bM 10 rfl (fun K hK=>?_);refine step_appN rfl (.tmp 83) (.tmp 88) 88 rfl 0 95 i5 _ 3 40 Tryz.underlying88 hi hz0 hz1 hz2 rfl (by decide) (.slice ta tn tc) tn cs rfl hsn9 ⟨w8.heap.size,0,none⟩ 1 1 [Value.int .i64 bd,.int .i64 pa,.slice ba fn bc] rfl rfl (fun j u hj=>rowAtW n9 j u hj) (by intro u hu;simp only[List.mem_cons,List.not_mem_nil,or_false] at hu;rcases hu with rfl|rfl|rfl<;>rfl) (by have:=HTN.out;unfold maxLen;omega) (by have:=HTN.out;omega) (Nat.zero_le _) ?_;intro v10 w10 hown10 hgr10 hnew10;obtain⟨ta2,tc2,rfl⟩:=bN hown10;have k910:=Keeps.of_grown (F:=fun j=>(Value.slice ta tn tc).ownBlock=some j) hgr10 (fun _ h=>h);have hs10:w10.heap[sb]?=some (.cells #[.int .i64 bd,.int .i64 pa] 61):=bG kS9 k910 (fun e=>HNB7.out (H7.out.tb _ e).2);have hg10:=bG hg9 k910 (fun e=>(H7.out.tb _ e).1 rfl);go_simp;refine hK.out _ _ hs10 (fun hSg=>?_);clear hK K;refine tG 11 90 ?_;refine tG 12 91 ?_;have e10:w10.cell? ⟨g,4,none⟩=some (.slice ta tn tc):=bA hg10 4;have f10:w10.frozen? ⟨g,4,none⟩=false:=bJ hg10 4;refine bM 13 rfl (fun K hK=>?_);go_simp;refine hK.out _ _ ((cH (by have:=HGN.out;omega)).trans hs10) (fun hSh=>?_);clear hK K;refine wpAnyH_done (by kernel_rfl) ?_ _;obtain⟨w11,hw11⟩:∃W,w10.setCell ⟨g,4,none⟩ (.slice ta2 (tn+1) tc2)=W:=⟨_,rfl⟩;have hg11:=bX hg10 4 (.slice ta2 (tn+1) tc2);rw[hw11] at hg11 ⊢;have e11:w11.cell? ⟨g,6,none⟩=some (.int .i64 s.free):=bA hg11 6;have f11:w11.frozen? ⟨g,6,none⟩=false:=bJ hg11 6;have HFI:=bC (HTF.out w8 X9 w10 w11 ba bc ta2 tc2 hob8 hB8 hb9 hgr10 hnew10 hown10 hw11);clear hw11 hg11 hg10 hg9 hs10 e10 f10 hgr10 hnew10 hown10 hsn9;go_wp2;go_ret2;exact HFI.out):p:=h
theorem send_by {P:Nat→Prop} {w:World} {g:Nat} {la:Option Addr} {ln lc:Nat} {aa:Option Addr} {an ac:Nat} {lp:Bool} {l:List Sl} {ats:List At} {s:Ln} (h:LnAt P w g (.slice la ln lc) (.slice aa an ac) lp s) (hG:LnG P w la ln lc aa an ac l ats lp)
  (bd pa:Int) (hset:Hid (Okset bd pa)) (f1:wfI bd) (f2:wfI pa) (fa:Option Addr) (fn fc:Nat) (f:List UInt8) (hf:∀X,Keeps P w X→Bs X (.slice fa fn fc) f) (tick:Int) (he:s.sendE fn tick=0) (hm:s.pend.length≤90000000) (hm2:s.sent.length≤1000000000) (hso:SortOk s.pend (newsF l (atOf ats lp s.sent.length) bd pa f tick)):
  Calls Tryz.prog 74 #[.pointer (some ⟨g,0,none⟩),.agg #[.int .i64 bd,.int .i64 pa],.slice fa fn fc,.int .i64 tick] w (SdPost P w g (.slice la ln lc) (.slice aa an ac) lp (s.send l ats lp bd pa f tick) (tick+frameT bd fn)):=by
 obtain⟨tv,pv,cs,h⟩:=h;obtain⟨i5,hi,hz0,hz1,hz2⟩:=info_parts infoSn;have hfn:f.length=fn:=(hf w (Keeps.refl _ _)).capOf.1;have etop:topT=1152921504606846976:=rfl;have hcond:1≤fn∧fn≤256∧0≤tick∧tick≤topT∧¬tick<s.free:=by
  unfold Ln.sendE at he;split at he
  ·cases he
  ·split at he
   ·cases he
   ·split at he
    ·cases he
    ·omega
 obtain⟨n1,n2,k0,k1,k2⟩:=hcond;have hend:=frame_bd hset.out n2;obtain⟨FT,hFT⟩:=gE (frameT bd fn);rw[hFT] at hend ⊢;obtain⟨en,hen⟩:∃x,tick+FT=x:=⟨_,rfl⟩
 obtain⟨t1,t2,t3,t4,t5,t6⟩:=cK hset.out;obtain⟨T3,hT3⟩:=gE (t35T bd);rw[hT3] at t5 t6;obtain⟨at_,hat⟩:=gE (atOf ats lp s.sent.length);have hao:at_.ok:=by rw[←hat];exact atOf_ok hG.ok lp _
 obtain⟨q1,q2,q3,q4,q5,q6⟩:=At.ok_bd hao;obtain⟨C,hC⟩:=gE at_.C;have hi6:(Tryz.prog.info? 70).map (·.size)=some C.size:=by rw[←hC];exact infoAT
 have hcs:C.size=6:=by rw[←hC];rfl
 have h1c:C.toList.all (·.oneCell')=true:=by rw[←hC];rfl
 obtain⟨st,hst⟩:=gE (begT bd at_ tick fn);have hstb:=begT_bd hset.out hao tick n2;rw[hst] at hstb;obtain⟨W1,hW1⟩:∃W,w.alloc (.cells #[.int .i64 bd,.int .i64 pa] 61)=W:=⟨_,rfl⟩
 have hb1:Below w.heap.size w W1:=by rw[←hW1];exact bH w _
 obtain⟨sb,hsb⟩:=gE w.heap.size;have pS:W1.heap[sb]?=some (.cells #[.int .i64 bd,.int .i64 pa] 61):=by rw[←hW1,←hsb];exact bI w _
 obtain⟨ta,tc,rfl⟩:=bN h.sn;obtain⟨tn,htn⟩:=gE s.sent.length;have hat_:=h.at_;rw[htn] at hat_ hat;have HSV:Hid (∀X,Calls Tryz.prog 120 #[.agg #[.int .i64 bd,.int .i64 pa]] X fun r w'=>r=.returned (.bool true)∧Below X.heap.size X w'):=fun X=>svalid_ok bd pa hset.out X
 have HFT:Hid (∀X,Calls Tryz.prog 102 #[.agg #[.int .i64 bd,.int .i64 pa],.int .i64 (fn:Int)] X fun r w'=>r=.returned (.int .i64 FT)∧Below X.heap.size X w'):=fun X=>by rw[←hFT];exact pframe_ok bd pa hset fn n2 X
 have HT3:Hid (∀X,Calls Tryz.prog 125 #[.agg #[.int .i64 bd,.int .i64 pa]] X fun r w'=>r=.returned (.int .i64 T3)∧Below X.heap.size X w'):=fun X=>by rw[←hT3];exact t35_ok bd pa hset X
 have HEN:Hid (∀X,Below W1.heap.size W1 X→Calls Tryz.prog 124 #[.pointer (some ⟨g,0,none⟩),.int .i64 (tn:Int)] X fun r w'=>r=.returned (.agg C)∧Below X.heap.size X w'):=fun X hX=>by
  have hwX:=bU hb1 hX;have e:=entry_any g aa an ac ats hG.an_ lp hG.lp_ tn (by omega) X (bA (bB hat_ hwX) 1) (bA (bB hat_ hwX) 2) (hG.rd X (Keeps.of_below hwX)).2;rw[hat] at e;unfold EnPost at e;rw[hC] at e;exact e
 obtain⟨R,hR⟩:=gE (rcvF l at_ bd pa f);have hRl:R.length≤256:=by rw[←hR];exact rcvF_len hG.bus at_ bd pa f
 obtain⟨rn,hrn⟩:=gE R.length;have HRY:Hid (∀X,Below W1.heap.size W1 X→Calls Tryz.prog 127 #[.pointer (some ⟨g,0,none⟩),.agg #[.int .i64 bd,.int .i64 pa],.slice fa fn fc,.agg C] X fun r w'=>∃a c,r=.returned (.slice a rn c)∧w'.ownsRow X.heap.size 5 1 (.slice a rn c) rn (u8s R)∧Below X.heap.size X w'):=fun X hX=>by
  have hwX:=bU hb1 hX;have e:=reply_any g la lc ln l hG.ln_ hG.bus bd pa f1 f2 fa fn fc f at_ hao X (bA (bB hat_ hwX) 0) (hG.rd X (Keeps.of_below hwX)).1 (hf X (Keeps.of_below hwX));rw[hC,hR] at e;unfold RvPost at e;rw[hrn] at e;exact e
 have hsr:SortOk s.pend (chsN (charT bd) st at_ R R.length):=by
  unfold newsF at hso;rw[htn,hat,hfn,hst,hR] at hso;exact hso
 have HRC:Hid (∀X ra rc,LnS P X g (.slice la ln lc) (.slice aa an ac) lp s (.slice ta tn tc) pv cs→(∀Y,Keeps P X Y→Bs Y (.slice ra rn rc) R)→Calls Tryz.prog 126 #[.pointer (some ⟨g,0,none⟩),.agg #[.int .i64 bd,.int .i64 pa],.slice ra rn rc,.int .i64 st,.agg C] X (RcPost P X g (.slice la ln lc) (.slice aa an ac) lp {s with pend:=(chsN (charT bd) st at_ R rn).foldl putL s.pend} (.slice ta tn tc) cs)):=fun X ra rc hX hr=>by
  have e:=recv_by hX bd pa hset ra rn rc R hr (by omega) st (by omega) (by omega) at_ hao hm hsr;rw[hC,hrn] at e;exact e
 have HSE:Hid (s.send l ats lp bd pa f tick={s with sent:=s.sent++[((bd,pa),f)],pend:=(chsN (charT bd) st at_ R rn).foldl putL s.pend,free:=en}):=by
  show _=_;unfold Ln.send newsF;rw[htn,hat,hfn,hst,hR,hrn,hFT,hen]
 have HST:Hid (st=en+T3+at_.lat+(if at_.fault=4 then at_.ticks else 0)):=by
  show _=_;rw[←hst];unfold begT;rw[hFT,hT3,hen]
 have c4:∀X,Below W1.heap.size W1 X→X.cell? ⟨g,4,none⟩=some (.slice ta tn tc):=fun X hX=>bA (bB (bB hat_ hb1) hX) 4
 have c6:∀X,Below W1.heap.size W1 X→X.cell? ⟨g,6,none⟩=some (.int .i64 s.free):=fun X hX=>bA (bB (bB hat_ hb1) hX) 6
 have s0:=cF pS 0 rfl;have s1:=cF pS 1 rfl;have x0:=s0 W1 (Below.refl _ _);have x1:=s1 W1 (Below.refl _ _);have HNS:Hid (∀j,sb≤j→¬P j):=fun j hj e=>by have:=h.pl j e;omega
 have HGN:Hid (g<sb∧sb<W1.heap.size):=by
  have:=cI h.at_;have:=cI pS;show _∧_;omega
 have g1:decide ((fn:Int)<1)=false:=decide_eq_false (by omega);have g1':¬(fn:Int)<1:=by omega
 have g2:decide ((256:Int)<(fn:Int))=false:=decide_eq_false (by omega);have g2':¬(256:Int)<(fn:Int):=by omega
 have g3:decide (tick<0)=false:=decide_eq_false (by omega);have g4:decide ((1152921504606846976:Int)<tick)=false:=decide_eq_false (by omega);have g5:decide (tick<s.free)=false:=decide_eq_false k2;have v1:IntKind.i64.wrap (tick+FT)=en:=(IntWalk.i64_in _ (by omega)).trans hen;obtain⟨y1,hy1⟩:∃x,en+T3=x:=⟨_,rfl⟩
 have v2:IntKind.i64.wrap (en+T3)=y1:=(IntWalk.i64_in _ (by omega)).trans hy1;obtain⟨lat,hlat⟩:=gE at_.lat;obtain⟨fault,hfault⟩:=gE at_.fault;obtain⟨ticks,hticks⟩:=gE at_.ticks;rw[hlat] at q1 q2;rw[hticks] at q5 q6;rw[hlat,hfault,hticks,hy1] at HST;obtain⟨y2,hy2⟩:∃x,y1+lat=x:=⟨_,rfl⟩
 have v3:IntKind.i64.wrap (y1+lat)=y2:=(IntWalk.i64_in _ (by omega)).trans hy2;obtain⟨y3,hy3⟩:∃x,y2+ticks=x:=⟨_,rfl⟩
 have v4:IntKind.i64.wrap (y2+ticks)=y3:=(IntWalk.i64_in _ (by omega)).trans hy3;rw[hy2] at HST;have HY3:=bC hy3;have HC0:Hid (C[0]?=some (.int .i64 lat)∧C[1]?=some (.int .i64 fault)∧C[4]?=some (.int .i64 ticks)):=by
  show _∧_∧_;rw[←hC,←hlat,←hfault,←hticks];exact⟨rfl,rfl,rfl⟩
 rw[htn] at h;have H:=bC h;have HFL:Hid (f.length≤256):=by show _≤_;omega
 have HTN:Hid (tn≤1000000000):=by show _≤_;omega
 have HF:=bC hf;have HB1:=bC hb1;have HPS:=bC pS;have HW1:=bC hW1;have HSB:=bC hsb;have HFN:=bC hfn;have HHT:=bC htn;rw[hen];rw[HSE.out];clear hso hsr hset f1 f2 hf hG he hm hm2 hfn etop n1 n2 k0 k1 k2 hend hFT hen t1 t2 t3 t4 t5 t6 hT3 hat hao q1 q2 q3 q4 q5 q6 hC hst hstb hW1 hb1 hsb pS htn hat_ hR hRl hrn hy1 hy2 hy3 hlat hfault hticks h;go_enter Tryz.func74,Tryz.ntmps74;go_upto_region 1 with(fail)
 rw[HW1.out,HSB.out];go_upto_region 13 with(first
  |(go_at_call 120;(with_reducible refine(HSV.out _).mono ?_);rintro r w2 ⟨rfl,hb2⟩;have c4':=c4 _ hb2;have c6':=c6 _ hb2)
  |(go_at_call 124;(with_reducible refine(HEN.out _ hb2).mono ?_);rintro r w3 ⟨rfl,hb3⟩)
  |(refine bE rfl 70 (.tmp 10) (.tmp 48) rfl w3.heap.size 0 _ 70 C rfl rfl (bI w3 _) (by simp [hcs]) hi6 h1c ?_;intro w4 g4 hk4 hz4;obtain⟨p4,hb4⟩:=var_new (by rw[hcs];rfl) g4 hk4;have k4:=bU (bU hb2 hb3) hb4;have s0':=s0 _ k4;have s1':=s1 _ k4)
  |(go_at_call 102;(with_reducible refine(HFT.out _).mono ?_);rintro r w5 ⟨rfl,hb5⟩))
 have HB5:Hid (Below W1.heap.size W1 w5):=bU k4 hb5;obtain⟨tb,htb⟩:=gE w3.heap.size;rw[htb] at p4 ⊢;have HS5:=bC (bB HPS.out HB5.out);have HA5:=bC (bB p4 hb5);have HTB:Hid (sb<tb):=by have:=HGN.out;have:=hb2.size;have:=hb3.size;show _<_;omega
 clear c4 c6 s0 s1 c4' c6' s0' s1' x0 x1 g4 hk4 hz4 p4 k4 hb2 hb3 hb4 hb5 htb h1c HSV HEN HFT HW1 v1;have x0:∀X,Below w5.heap.size w5 X→X.cell? ⟨sb,0,none⟩=some (.int .i64 bd):=fun X hX=>bA (bB HS5.out hX) 0
 have x1:∀X,Below w5.heap.size w5 X→X.cell? ⟨sb,1,none⟩=some (.int .i64 pa):=fun X hX=>bA (bB HS5.out hX) 1
 have a0:∀X,Below w5.heap.size w5 X→X.cell? ⟨tb,0,none⟩=some (.int .i64 lat):=fun X hX=>by rw[bA (bB HA5.out hX)];exact HC0.out.1
 have a1:∀X,Below w5.heap.size w5 X→X.cell? ⟨tb,1,none⟩=some (.int .i64 fault):=fun X hX=>by rw[bA (bB HA5.out hX)];exact HC0.out.2.1
 have a4:∀X,Below w5.heap.size w5 X→X.cell? ⟨tb,4,none⟩=some (.int .i64 ticks):=fun X hX=>by rw[bA (bB HA5.out hX)];exact HC0.out.2.2
 have kD:Below w5.heap.size w5 w5.drew:=(Below.refl _ _).drew;refine wp_region_held_drew (S:=fun V=>Below w5.heap.size w5 V) (by kernel_rfl) kD (fun hH=>?_);clear hH;refine tG 0 55 ?_;refine tG 1 56 ?_;refine tG 4 59 ?_;refine tG 5 60 ?_;refine bM 2 rfl (fun K hK=>?_);go_simp;refine(HT3.out _).mono ?_;rintro r w6 ⟨rfl,hb6⟩;have hB6:=bU kD hb6;refine hK.out _ _ hB6 (fun hSx=>?_);clear hK K hSx;refine tG 3 58 ?_;refine tG 6 61 ?_;refine cR 7 11 (v:=?_) rfl (by kernel_rfl) (fun _ _ _ h=>h) rfl (by rfl) (by assumption) ?_ ?_;rotate_left;(intro w hSw;(try dsimp only at hSw);(try go_simp);try rfl);refine wpAnyH_done (by kernel_rfl) ?_ _;have HB6:Hid (Below W1.heap.size W1 w6):=bU HB5.out hB6;have HS6:=bC (bB HS5.out hB6);have HA6:=bC (bB HA5.out hB6);have b1':=a1 _ hB6;have b4':=a4 _ hB6;clear x0 x1 a0 a1 a4 kD hb6 hB6 v2 v3 HT3;go_upto_if 64 with(fail)
 go_cut [11] from 64 to 68 (fun s11 wc=>s11=.int .i64 st∧w6=wc)
 case first=>
  by_cases h4:fault=4
  ·have e4:(fault==4)=true:=b1 h4
   have HTE:Hid (y3=st):=by have:=HST.out;rw[if_pos h4] at this;show _=_;rw[this,←HY3.out]
   clear h4;go_wp2;go_meet
   case rel=>exact⟨by rw[HTE.out],rfl⟩
  ·have e4:(fault==4)=false:=b0 h4
   have HTE:Hid (y2=st):=by have:=HST.out;rw[if_neg h4] at this;show _=_;rw[this,Int.add_zero]
   clear h4;go_wp2;go_meet
   case rel=>exact⟨by rw[HTE.out],rfl⟩
 case rest=>
 obtain⟨rfl,hwc⟩:=hcut;subst hwc;clear b1' b4' v4;go_upto_region 16 with(fail)
 have z1:∀X:World,X.heap[sb]?=some (.cells #[.int .i64 bd,.int .i64 pa] 61)∧X.heap[tb]?=some (.cells C 70)→X.cell? ⟨sb,0,none⟩=some (.int .i64 bd):=fun X hX=>bA hX.1 0
 have z2:∀X:World,X.heap[sb]?=some (.cells #[.int .i64 bd,.int .i64 pa] 61)∧X.heap[tb]?=some (.cells C 70)→X.cell? ⟨sb,1,none⟩=some (.int .i64 pa):=fun X hX=>bA hX.1 1
 have kD:Below w6.heap.size w6 w6.drew:=(Below.refl _ _).drew;have kS:w6.drew.heap[sb]?=some (.cells #[.int .i64 bd,.int .i64 pa] 61)∧w6.drew.heap[tb]?=some (.cells C 70):=⟨bB HS6.out kD,bB HA6.out kD⟩
 refine wp_region_held_drew (S:=fun V=>V.heap[sb]?=some (.cells #[.int .i64 bd,.int .i64 pa] 61)∧V.heap[tb]?=some (.cells C 70)) (by kernel_rfl) kS (fun hH=>?_);clear hH;refine tG 0 69 ?_;refine tG 1 70 ?_;refine tG 2 71 ?_;refine tG 3 72 ?_;refine tG 4 73 ?_;refine cR 5 74 (v:=.agg C) rfl (by kernel_rfl) (fun _ _ _ h=>h) rfl (by rfl) (by assumption) (fun X hX=>run_load_rowW 70 (.tmp 10) rfl ⟨tb,0,none⟩ rfl C _ (fun j v hj=>rowAtW hX.2 j v hj) Tryz.underlying70 rfl hi6) ?_;simp only[cA];refine tG 7 76 ?_;refine cR 8 77 (v:=.agg C) rfl (by kernel_rfl) (fun _ _ _ h=>h) rfl (by rfl) (by assumption) (fun X hX=>run_load_rowW 70 (.tmp 10) rfl ⟨tb,0,none⟩ rfl C _ (fun j v hj=>rowAtW hX.2 j v hj) Tryz.underlying70 rfl hi6) ?_;simp only[cA];refine bM 6 rfl (fun K hK=>?_);go_simp;refine(HRY.out _ (bU HB6.out kD)).mono ?_;rintro r wa ⟨ra,rc,rfl,hor,hba⟩;have hBa:=bU kD hba;have kSa:wa.heap[sb]?=some (.cells #[.int .i64 bd,.int .i64 pa] 61)∧wa.heap[tb]?=some (.cells C 70):=⟨bB HS6.out hBa,bB HA6.out hBa⟩
 refine hK.out _ _ kSa (fun hSx=>?_);clear hK K hSx;refine bM 9 rfl (fun K hK=>?_);go_simp;have hwa:Below w.heap.size w wa:=(HB1.out.trans (HB6.out.mono HB1.out.size)).trans (hBa.mono (by have:=HB1.out.size;have:=HB6.out.size;omega));have Ha:=H.out.keepB hwa;have hzr:w.heap.size≤w6.heap.size:=by have:=HB1.out.size;have:=HB6.out.size;omega
 refine(HRC.out _ _ _ Ha (fun Y hY=>Bs.own (bF hor hY (fun j hj e=>by have h1:=(hor.lt j hj).1;have h2:=kD.size;exact HNS.out j (by have:=HSB.out;omega) e)))).mono ?_;rintro r w7 ⟨rfl,⟨pv7,h7⟩,hk7⟩;have kS7:w7.heap[sb]?=some (.cells #[.int .i64 bd,.int .i64 pa] 61)∧w7.heap[tb]?=some (.cells C 70):=⟨bG kSa.1 hk7 (HNS.out sb (Nat.le_refl _)),bG kSa.2 hk7 (HNS.out tb (by have:=HTB.out;omega))⟩
 refine hK.out _ _ kS7 (fun hSx=>?_);clear hK K hSx;refine wpAnyH_done (by kernel_rfl) ?_ _;have HS7:=bC kS7.1;have H7:=bC h7;have HK7:Hid (Keeps P w w7):=(Keeps.of_below (F:=P) hwa).trans hk7 (fun _ _ e=>e);have HWA:Hid (w.heap.size≤wa.heap.size∧wa.heap.size≤w7.heap.size∧sb<wa.heap.size):=by
  have:=hwa.size;have:=hk7.size;have:=cI kSa.1;show _∧_∧_;omega
 have HNB7:Hid (¬GrowP P wa w7 sb):=fun e=>by
  rcases e with e|e
  ·exact HNS.out sb (Nat.le_refl _) e
  ·have:=HWA.out;omega
 have HCB:Hid (∀X,Below w7.heap.size w7 X→Calls Tryz.prog 80 #[.slice fa fn fc] X fun r w'=>∃v',r=.returned v'∧w'.ownsRow w7.heap.size 5 1 v' f.length (u8s f)∧Below X.heap.size X w'):=fun X hX=>(cL _ f X (HF.out X (HK7.out.trans (Keeps.of_below (F:=P) hX) (fun _ _ e=>e))) (by have:=HFL.out;omega)).mono fun r w' ⟨v',h1,h2,h3⟩=>⟨v',h1,bQ h2 hX.size,h3⟩
 clear z1 z2 kD kS kSa kS7 hba hBa hor hwa Ha h7 hk7 hzr HRY HRC HS6 HA6 HB6;have HTF:Hid (∀w8 X9 w10 w11 ba bc ta2 tc2,w8.ownsRow w7.heap.size 5 1 (.slice ba fn bc) fn (u8s f)→Below w7.heap.size w7 w8→Below w8.heap.size w8 X9→X9.grownBy w10 (Value.slice ta tn tc).ownBlock→NewOr X9 (.slice ta tn tc) (.slice ta2 (tn+1) tc2)→
   w10.ownsRow 0 95 3 (.slice ta2 (tn+1) tc2) (tn+1) (cs++[Value.int .i64 bd,.int .i64 pa,.slice ba fn bc])→w10.setCell ⟨g,4,none⟩ (.slice ta2 (tn+1) tc2)=w11→
   SdPost P w g (.slice la ln lc) (.slice aa an ac) lp {s with sent:=s.sent++[((bd,pa),f)],pend:=(chsN (charT bd) st at_ R rn).foldl putL s.pend,free:=en} en (.returned (.tuple #[.int .i64 en,.int .i64 0])) (w11.setCell ⟨g,6,none⟩ (.int .i64 en))):=fun w8 X9 w10 w11 ba bc ta2 tc2 e1 e2 e3 e4 e5 e6 e7=>by
  obtain⟨k1,k2⟩:=H7.out.sendFin HHT.out bd pa f HFN.out e1 e2 e3 e4 e5 e6 e7 en;obtain⟨u1,u2,u3⟩:=HWA.out;have u4:=k2.size;refine⟨rfl,⟨_,_,_,k1.mono (fun j hj=>?_) (fun j hj=>hj.lt (fun j hj=>H.out.pl j hj) (by omega))⟩,HK7.out.trans k2 (fun i hi e=>?_)⟩
  ·rcases hj with(e|⟨e,e2⟩)|⟨e,e2⟩
   ·exact .inl e
   ·exact .inr ⟨by omega,by omega⟩
   ·exact .inr ⟨by omega,e2⟩
  ·rcases e with e|e
   ·exact e
   ·omega
 obtain⟨pa7,pc7,epv,-⟩:=H7.out.pn.len;obtain⟨pn7,hpn7⟩:∃n,({s with pend:=(chsN (charT bd) st at_ R rn).foldl putL s.pend}:Ln).pend.length=n:=⟨_,rfl⟩
 rw[hpn7] at epv;subst epv;clear hpn7;have z1:∀X:World,X.heap[sb]?=some (.cells #[.int .i64 bd,.int .i64 pa] 61)→X.cell? ⟨sb,0,none⟩=some (.int .i64 bd):=fun X hX=>bA hX 0
 have z2:∀X:World,X.heap[sb]?=some (.cells #[.int .i64 bd,.int .i64 pa] 61)→X.cell? ⟨sb,1,none⟩=some (.int .i64 pa):=fun X hX=>bA hX 1
 have kE:Below w7.heap.size w7 w7.drew:=(Below.refl _ _).drew;have kS:w7.drew.heap[sb]?=some (.cells #[.int .i64 bd,.int .i64 pa] 61):=bB HS7.out kE;have d0:w7.drew.cell? ⟨g,4,none⟩=some (.slice ta tn tc):=bA (bB H7.out.at_ kE) 4;go_upto_region 17 with(fail)
 refine wp_region_held_drew (S:=fun V=>V.heap[sb]?=some (.cells #[.int .i64 bd,.int .i64 pa] 61)) (by kernel_rfl) kS (fun hH=>?_);clear hH;refine tG 0 79 ?_;refine tG 1 80 ?_;refine tG 2 81 ?_;refine tG 3 82 ?_;refine tG 5 84 ?_;refine tG 6 85 ?_;refine wpAnyH_ready (rs:=[4,7]) (by kernel_rfl) (by simp) ?_;refine AllReadyH.cons rfl (fun K hK=>?_) (AllReadyH.cons rfl (fun K hK=>?_) AllReadyH.nil)
 ·go_simp
  refine hK.out _ _ kS (fun hSx=>?_);clear hK K hSx;refine bM 7 rfl (fun K hK=>?_);go_simp;refine(HCB.out _ kE).mono ?_;rintro r w8 ⟨vb8,rfl,hob8,hb8⟩;obtain⟨ba,bc,rfl⟩:=bN hob8;rw[HFN.out] at hob8 ⊢;have hB8:=bU kE hb8;have kS8:=bB HS7.out hB8;refine hK.out _ _ kS8 (fun hSx=>?_);clear hK K hSx;refine tG 8 87 ?_;refine bM 9 rfl (fun K hK=>?_);go_simp;obtain⟨X9,hX9,hb9,n9⟩:=alQ w8 (.cells #[.int .i64 bd,.int .i64 pa,.slice ba fn bc] 95);rw[hX9];have kS9:=bB kS8 hb9;clear hX9;refine hK.out _ _ kS9 (fun hSx=>?_);clear hK K hSx;exact z23_1
 ·go_simp
  refine(HCB.out _ kE).mono ?_;rintro r w8 ⟨vb8,rfl,hob8,hb8⟩;obtain⟨ba,bc,rfl⟩:=bN hob8;rw[HFN.out] at hob8 ⊢;have hB8:=bU kE hb8;have kS8:=bB HS7.out hB8;refine hK.out _ _ kS8 (fun hSx=>?_);clear hK K hSx;refine tG 8 87 ?_;refine wpAnyH_ready (rs:=[4,9]) (by kernel_rfl) (by simp) ?_;refine AllReadyH.cons rfl (fun K hK=>?_) (AllReadyH.cons rfl (fun K hK=>?_) AllReadyH.nil)
  ·have d8:w8.cell? ⟨g,4,none⟩=some (.slice ta tn tc):=bA (bB H7.out.at_ hB8) 4
   go_simp;refine hK.out _ _ kS8 (fun hSx=>?_);clear hK K hSx;refine bM 9 rfl (fun K hK=>?_);go_simp;obtain⟨X9,hX9,hb9,n9⟩:=alQ w8 (.cells #[.int .i64 bd,.int .i64 pa,.slice ba fn bc] 95);rw[hX9];have kS9:=bB kS8 hb9;clear hX9;refine hK.out _ _ kS9 (fun hSx=>?_);clear hK K hSx;exact z23_1
  ·go_simp
   obtain⟨X9,hX9,hb9,n9⟩:=alQ w8 (.cells #[.int .i64 bd,.int .i64 pa,.slice ba fn bc] 95);rw[hX9];have kS9:=bB kS8 hb9;clear hX9;refine hK.out _ _ kS9 (fun hSx=>?_);clear hK K hSx;have d9:X9.cell? ⟨g,4,none⟩=some (.slice ta tn tc):=bA (bB (bB H7.out.at_ hB8) hb9) 4;refine bM 4 rfl (fun K hK=>?_);go_simp;refine hK.out _ _ kS9 (fun hSx=>?_);clear hK K hSx;exact z23_1
end Go.Proofs.YtoaoejaodhedaaaGreat
