import Derived.Test.YtoaoejaodhedaaaGreatQ36
namespace Go.Proofs.YtoaoejaodhedaaaGreat
open Go.RowKit
set_option maxHeartbeats 6400000
set_option maxRecDepth 100000
structure CfG (c:Cf):Prop where
 ne:1≤c.sets.length
 le:c.sets.length≤6
 set:∀x∈c.sets,Okset x.1 x.2
 sb:setB c.sets=true
 re0:0≤c.re
 re1:c.re≤5
 ti0:1≤c.ti
 ti1:c.ti≤5000000
 de0:0≤c.de
 de1:c.de≤5000000
theorem sets_mem:∀(l:List (Int×Int)) (p:Option (Int×Int)),setsB p l=true→∀x∈l,okS x=true
 |[],_,_,x,hx=>by cases hx
 |a::l,p,h,x,hx=>by
  simp only[setsB,Bool.and_eq_true] at h;rcases List.mem_cons.1 hx with e|e
  ·subst e;exact h.1.1
  ·exact sets_mem l _ h.2 x e
theorem CfG.of {c:Cf} (h:chkE c=0):CfG c:=by
 unfold chkE at h;split at h
 ·rename_i hs
  have hs':=hs;unfold setB at hs;simp only[Bool.and_eq_true,decide_eq_true_eq] at hs;split at h
  ·rename_i hr
   unfold rangeB at hr;simp only[Bool.and_eq_true,decide_eq_true_eq] at hr;obtain⟨-,-,h3,h4,h5,-⟩:=hr;have h3:=inB_iff.1 h3;have h4:=inB_iff.1 h4;have h5:=inB_iff.1 h5;exact⟨hs.2.1,hs.2.2,fun x hx=>okS_iff.1 (sets_mem _ _ hs.1 x hx),hs',h3.1,h3.2,h4.1,h4.2,h5.1,h5.2⟩
  ·omega
 ·omega
def InitPost (w:World) (r:Ending) (w':World):Prop:=∃I,r=.returned (.int .i64 I)∧0≤I∧I≤20000000∧Below w.heap.size w w'
theorem bmaxM (P:Program) (x y m:Int) (e:(if x<y then y else x)=m) (ts:Array TypeId) (T:TypeId) (W:World):(Builtin.max_ ts T #[.int .i64 x,.int .i64 y]).run P W=.ok (.int .i64 m) W:=by
 subst e;simp [Builtin.max_,Builtin.max2]
theorem minit_any (c:Cf) (hc:CfG c) (sv:Value) (w:World) (hs:Rgs w sv c.sets):Calls Tryz.prog 58 #[sv,.int .i64 c.ti,.int .i64 c.de] w (InitPost w):=by
 have HSL:=bC (slist_any sv c.sets w hs true hc.sb);obtain⟨n,hn⟩:=gE c.sets.length;obtain⟨a,cc,rfl,hnc,hcm,-⟩:=id hs;have HN:=bC hn;rw[hn] at HSL hs hnc ⊢;obtain⟨ti,hti⟩:=gE c.ti;obtain⟨de,hde⟩:=gE c.de;have HC:=bC hc;have HS:=bC hs;have HTD:Hid ((1≤ti∧ti≤5000000)∧0≤de∧de≤5000000):=by rw[←hti,←hde];exact⟨⟨hc.ti0,hc.ti1⟩,hc.de0,hc.de1⟩
 have HP:Hid (∀n,0≤n→n≤5000000→∀X,Calls Tryz.prog 100 #[.int .i64 n] X fun r w'=>r=.returned (.bool true)∧X=w'):=fun n h1 h2 X=>tposs_ok n h1 h2 X
 have HP1:Hid (∀X,Calls Tryz.prog 100 #[.int .i64 ti] X fun r w'=>r=.returned (.bool true)∧X=w'):=HP.out ti (by have:=HTD.out;omega) (by have:=HTD.out;omega);have HP2:Hid (∀X,Calls Tryz.prog 100 #[.int .i64 de] X fun r w'=>r=.returned (.bool true)∧X=w'):=HP.out de (by have:=HTD.out;omega) (by have:=HTD.out;omega);rw[hti,hde];clear hc hs hnc hcm HP hti hde hn;go_enter Tryz.func58,Tryz.ntmps58;go_upto_region 5 with(first
  |(go_at_call 99;(with_reducible refine HSL.out.mono ?_);rintro r w1 ⟨rfl,hb1⟩)
  |(go_at_call 100;(first|(with_reducible refine(HP1.out _).mono ?_)|(with_reducible refine(HP2.out _).mono ?_));rintro r w2 ⟨rfl,rfl⟩))
 have HB1:=bC hb1;clear HSL HP1 HP2 hb1;go_loopw [7,8,26] (fun dv fv iv wr=>∃(D F:Int) (k:Nat),k≤n∧dv=.int .i64 D∧fv=.int .i64 F∧iv=.int .i64 (k:Int)∧Hid ((0≤D∧D≤13000000)∧0≤F∧F≤2400000)∧Below w.heap.size w wr) (fun _ _ iv _=>n- (intOf iv).toNat)
 case atStart=>exact⟨0,0,0,Nat.zero_le _,rfl,rfl,rfl,(by show _∧_;decide),HB1.out⟩
 case round=>
  obtain⟨D,F,k,hk,rfl,rfl,rfl,HDF,hbw⟩:=hrel;have hki:(0:Int)≤(k:Int):=Int.natCast_nonneg _;have HBW:=bC hbw;by_cases hlt:k<n
  ·obtain ⟨x,hx⟩:=gs (l:=c.sets) HN.out hlt
   obtain⟨b,o,c',hv',-,-,hcl⟩:=HS.out.at hx;rw[HN.out] at hv';simp only[Value.slice.injEq,true_and] at hv';obtain⟨rfl,rfl⟩:=hv';have hset:Hid (Okset x.1 x.2):=HC.out.set x (List.mem_of_getElem? hx);obtain⟨y0,y1⟩:=hcl wr hbw;obtain⟨x0,x1⟩:=x;dsimp only at y0 y1 hset;have hkl:(k:Int)<(n:Int):=by omega
   obtain⟨t1,t2,-,-,t5,t6⟩:=cK hset.out;have hDR:=bC (fun X=>drain_ok x0 x1 ti de hset (by have:=HTD.out;omega) (by have:=HTD.out;omega) (by have:=HTD.out;omega) (by have:=HTD.out;omega) X);have hFR:=bC (fun X=>pframe_ok x0 x1 hset 256 (Nat.le_refl _) X);obtain⟨DR,hDE⟩:=gE (drainT x0 ti de);obtain⟨FR,hFE⟩:=gE (frameT x0 256);rw[hDE] at hDR;rw[hFE] at hFR;have hDB:0≤DR∧DR≤13000000:=by
    rw[←hDE];have:=HTD.out;unfold drainT;omega
   have hFB:0≤FR∧FR≤2400000:=by
    rw[←hFE];unfold frameT;omega
   obtain⟨M1,hM1⟩:∃M,(if D<DR then DR else D)=M:=⟨_,rfl⟩
   obtain⟨M2,hM2⟩:∃M,(if F<FR then FR else F)=M:=⟨_,rfl⟩
   have m1:∀ts T W,(Builtin.max_ ts T #[.int .i64 D,.int .i64 DR]).run Tryz.prog W=.ok (.int .i64 M1) W:=bmaxM Tryz.prog D DR M1 hM1;have m2:∀ts T W,(Builtin.max_ ts T #[.int .i64 F,.int .i64 FR]).run Tryz.prog W=.ok (.int .i64 M2) W:=bmaxM Tryz.prog F FR M2 hM2;have HM:Hid ((0≤M1∧M1≤13000000)∧0≤M2∧M2≤2400000):=by
    have:=HDF.out;refine⟨?_,?_⟩
    ·rw [←hM1]
     split<;>omega
    ·rw [←hM2]
     split<;>omega
   have hFR2:Hid (∀X,Calls Tryz.prog 102 #[.agg #[.int .i64 x0,.int .i64 x1],.int .i64 256] X fun r w'=>r=.returned (.int .i64 FR)∧Below X.heap.size X w'):=fun X=>hFR.out X
   have hs1:IntKind.i64.wrap ((k:Int)+1)=(k:Int)+1:=IntWalk.i64_in _ (by have:=HC.out.le;rw[HN.out] at this;omega);obtain⟨WX,hWX,hbx,px⟩:=alQ wr (.cells #[.int .i64 x0,.int .i64 x1] 61);have z0:=cF px 0 rfl;have z1:=cF px 1 rfl;have HWX:=bC hWX;have HBX:=bC (bU hbw hbx);clear hM1 hM2 hDE hFE hDB hFB hx hcl hFR t1 t2 t5 t6 hset hWX hbx px hbw;go_upto_region 7 with(fail)
   rw[HWX.out];have kD:Below WX.heap.size WX WX:=Below.refl _ _;go_wp2_with (first
    |(go_at_call 101;(with_reducible refine(hDR.out _).mono ?_);rintro r w3 ⟨rfl,hb3⟩)
    |(go_at_call 102;(with_reducible refine(hFR2.out _).mono ?_);rintro r w4 ⟨rfl,hb4⟩;have hb34:=bU hb3 hb4))
   go_roundw
   case rel=>exact⟨M1,M2,k+1,by omega,rfl,rfl,by go_num,HM.out,bU HBX.out hb34⟩
   case measure=>simp [intOf];omega
  ·obtain rfl:k=n:=by omega
   have hkl:¬(k:Int)<(k:Int):=by omega
   obtain⟨⟨d0,d1⟩,f0,f1⟩:=HDF.out;have hs:IntKind.i64.wrap (D+F)=D+F:=IntWalk.i64_in _ (by omega);go_wp2;go_ret;exact⟨D+F,rfl,by omega,by omega,HBW.out⟩
theorem infoCfM:(Tryz.prog.info? 27).map (·.size)=some 16:=by kernel_rfl
def NewYes (c:Cf) (lv:Value) (tick:Int) (w:World) (r:Ending) (w':World):Prop:=∃gm sv,r=.returned (.tuple #[.pointer (some ⟨gm,0,none⟩),.int .i64 0])∧w.heap.size≤gm∧w'.heap[gm]?=some (.cells #[sv,.int .i64 c.fi,.int .i64 c.la,.int .i64 c.re,.int .i64 c.ti,.int .i64 c.de,.int .i64 (c.win 0).1,.int .i64 (c.win 0).2,.int .i64 (c.win 1).1,.int .i64 (c.win 1).2,.int .i64 (c.win 2).1,.int .i64 (c.win 2).2,.int .i64 (c.win 3).1,.int .i64 (c.win 3).2,.int .i64 c.ev,.int .i64 c.st,lv,.pointer none,.int .i64 0,.int .i64 tick] 129)∧(∀X,Keeps (fun j=>j<w.heap.size∨j=gm) w' X→Rgs X sv c.sets)∧Below w.heap.size w w'
theorem mnew_yes (c:Cf) (hc:chkE c=0) (sv:Value) (gl:Nat) (tick:Int) (t0:0≤tick) (t1:tick≤576460752303423488) (w:World) (hs:Rgs w sv c.sets):
  Calls Tryz.prog 25 #[.agg (CfC c sv),.pointer (some ⟨gl,0,none⟩),.int .i64 tick] w (NewYes c (.pointer (some ⟨gl,0,none⟩)) tick w):=by
 have hG:=CfG.of hc;obtain⟨C,hC⟩:=gE (CfC c sv);have hi:(Tryz.prog.info? 27).map (·.size)=some C.size:=by rw[←hC];exact infoCfM
 obtain⟨W0,hW0⟩:=gE (w.alloc (.cells C 27));have hb0:Below w.heap.size w W0:=by rw[←hW0];exact bH w _
 have hz0:W0.heap.size=w.heap.size+1:=by rw[←hW0];simp
 have p0:W0.heap[w.heap.size]?=some (.cells C 27):=by rw[←hW0];exact bI w _
 have HCK:Hid (Calls Tryz.prog 70 #[.agg C] W0 (IntPost W0 0)):=by rw[←hC];exact ccheck_any c _ W0 (hs.keep hb0) 0 hc
 have c0:∀X,Below W0.heap.size W0 X→X.cell? ⟨w.heap.size,0,none⟩=some sv:=fun X h=>by rw[bA (bB p0 h),←hC];rfl
 have f0:∀X,Below W0.heap.size W0 X→X.frozen? ⟨w.heap.size,0,none⟩=false:=fun X h=>bJ (bB p0 h) 0
 have HCL:Hid (∀X,Below W0.heap.size W0 X→Calls Tryz.prog 71 #[sv] X (CloneStPost X c.sets)):=fun X hX=>cloneSt_any _ c.sets X (hs.keep (bU hb0 hX)) (by have:=hG.le;omega)
 have HWF:Hid (∀x∈c.sets,wfI x.1∧wfI x.2):=hs.wfW;have g1:decide (tick<0)=false:=decide_eq_false (by omega);have g2:decide (576460752303423488<tick)=false:=decide_eq_false (by omega);obtain⟨sa,sn,sc,rfl⟩:∃a n c,sv=.slice a n c:=by
  obtain⟨a,cc,e,-⟩:=id hs;exact⟨a,_,cc,e⟩
 have HW0:=bC hW0;have HB0:=bC hb0;have HZ0:=bC hz0;have P0:=bC p0;have HC:=bC hC;rw[hC];clear hs hC hW0 hb0 hz0 hc t0 t1;go_enter Tryz.func25,Tryz.ntmps25;go_upto_region 1 with(fail)
 rw[HW0.out];go_upto_region 8 with(first
  |(refine wpList_load_row rfl 27 (.tmp 3) rfl w.heap.size rfl 27 C (0,0) _ p0 Tryz.underlying27 rfl hi ?_)
  |(go_at_call 70;(with_reducible refine HCK.out.mono ?_);rintro r w1 ⟨rfl,hb1⟩;have c0':=c0 w1 hb1)
  |(go_at_call 71;(with_reducible refine(HCL.out _ hb1).mono ?_);rintro r w2 hcl;obtain⟨a2,c2,rfl,hrd,hb2⟩:=hcl.rgs HWF.out;have c0'':=c0 w2 (bU hb1 hb2);have f0'':=f0 w2 (bU hb1 hb2)))
 obtain⟨W3,hW3⟩:∃W,w2.setCell ⟨w.heap.size,0,none⟩ (.slice a2 c.sets.length c2)=W:=⟨_,rfl⟩
 have hb12:=bU hb1 hb2;have p3:W3.heap[w.heap.size]?=some (.cells #[(.slice a2 c.sets.length c2),.int .i64 c.fi,.int .i64 c.la,.int .i64 c.re,.int .i64 c.ti,.int .i64 c.de,.int .i64 (c.win 0).1,.int .i64 (c.win 0).2,.int .i64 (c.win 1).1,.int .i64 (c.win 1).2,.int .i64 (c.win 2).1,.int .i64 (c.win 2).2,.int .i64 (c.win 3).1,.int .i64 (c.win 3).2,.int .i64 c.ev,.int .i64 c.st] 27):=by
  have h:=bB P0.out hb12;rw[←HC.out] at h;rw[←hW3];exact bS h rfl
 have hk3:Keeps (· =w.heap.size) w2 W3:=by rw[←hW3];exact ks1 (Keeps.refl _ _) _ _
 have hz1:=hb1.size;have hz2:=hb2.size;have hz0':=HZ0.out;have hag3:Agree w1.heap.size w2 W3:=Agree.of_keeps hk3 (fun k e=>by omega);have HB3:Hid (Below w.heap.size w W3):=(bU HB0.out hb12).trans (hk3.below (by have:=HB0.out.size;have:=hb12.size;omega) (fun j hj e=>by omega));have HAG:Hid (∀X,Agree w1.heap.size W3 X→Rgs X (.slice a2 c.sets.length c2) c.sets):=fun X hX=>hrd X (hag3.trans hX)
 have HZ3:Hid (w.heap.size≤w1.heap.size):=by show _≤_;omega
 rw[hW3];obtain⟨n,hn⟩:=gE c.sets.length;rw[hn] at p3 HAG ⊢;clear hn hcl c0 f0 c0' c0'' f0'' hW3 hk3 hag3 hrd hb1 hb2 hb12 hz1 hz2 hz0' HCL HCK p0 hG;go_wp2_with (refine wpList_load_row rfl 27 (.tmp 3) rfl w.heap.size rfl 27 #[(.slice a2 n c2),.int .i64 c.fi,.int .i64 c.la,.int .i64 c.re,.int .i64 c.ti,.int .i64 c.de,.int .i64 (c.win 0).1,.int .i64 (c.win 0).2,.int .i64 (c.win 1).1,.int .i64 (c.win 1).2,.int .i64 (c.win 2).1,.int .i64 (c.win 2).2,.int .i64 (c.win 3).1,.int .i64 (c.win 3).2,.int .i64 c.ev,.int .i64 c.st] (0,0) _ p3 Tryz.underlying27 rfl infoCfM ?_);go_ret2;refine⟨W3.heap.size,.slice a2 n c2,rfl,HB3.out.size,bI W3 _,fun X hX=>HAG.out X ?_,cJ HB3.out (Nat.le_refl _) _⟩;exact⟨Nat.le_trans (bH W3 _).size hX.size,fun k h1 h2=>(hX.block k (by simp;omega) (fun e=>by have e':k<w.heap.size∨k=W3.heap.size:=e;have:=HZ3.out;omega)).trans ((bH W3 _).block k h2)⟩
theorem MsS.start {PL:Nat→Prop} {w w':World} {gl gm:Nat} {f:Fx} {n:Ln} {c:Cf} {sv:Value} {tick:Int} (hl:LnAt PL w gl (.slice f.la f.ln f.lc) (.slice f.aa f.an f.ac) f.lp n) (hG:LnG PL w f.la f.ln f.lc f.aa f.an f.ac f.l f.ats f.lp) (hok:n.ok) (chk:chkE c=0)
  (hgm:w.heap.size≤gm) (hat:w'.heap[gm]?=some (.cells #[sv,.int .i64 c.fi,.int .i64 c.la,.int .i64 c.re,.int .i64 c.ti,.int .i64 c.de,.int .i64 (c.win 0).1,.int .i64 (c.win 0).2,.int .i64 (c.win 1).1,.int .i64 (c.win 1).2,.int .i64 (c.win 2).1,.int .i64 (c.win 2).2,.int .i64 (c.win 3).1,.int .i64 (c.win 3).2,.int .i64 c.ev,.int .i64 c.st,.pointer (some ⟨gl,0,none⟩),.pointer none,.int .i64 0,.int .i64 tick] 129))
  (hr:∀X,Keeps (fun j=>j<w.heap.size∨j=gm) w' X→Rgs X sv c.sets) (hb:Below w.heap.size w w') (x:Tx) (s:Lk):
  MsS gm gl 0 0 (fun j=>PL j∨j=gm) PL (fun _=>False) c sv f ⟨n,false,x,0,tick⟩ s w':=by
 have hpl:=hl.lts;have hgl:=cI hat;exact{
   at_:=hat
   ln:=hl.keep (F:=fun _=>False) (Keeps.of_below hb) (fun _ _ e=>e)
   G:=hG.next (Keeps.of_below hb) (fun j hj e=>by
    rcases e with e|e
    ·exact e
    ·omega)
   nok:=hok
   pk:=fun e=>by cases e
   qlt:=fun _ e=>e.elim
   dis:=fun _ _ e=>e
   gm1:=fun e=>by have:=hpl gm e;omega
   gm2:=fun e=>e
   pl:=fun j e=>.inl e
   pq:=fun _ e=>e.elim
   pm:=.inr rfl
   plt:=fun j e=>by
    rcases e with e|e
    ·exact Nat.lt_of_lt_of_le (hpl j e) hb.size
    ·rw [e];exact hgl
   rgs:=fun X hX=>hr X (hX.mono (fun j _ e=>by
    rcases e with e|e
    ·exact .inl (hpl j e)
    ·exact .inr e))
   chk:=chk}
theorem infoRq5:(Tryz.prog.info? 45).map (·.size)=some 5:=by kernel_rfl
theorem infoSt2:(Tryz.prog.info? 61).map (·.size)=some 2:=by kernel_rfl
def MNo (E:Int) (w:World) (r:Ending) (w':World):Prop:=r=.returned (.int .i64 E)∧Below w.heap.size w w'
def MYes (gm gl:Nat) (P:Nat→Prop) (c:Cf) (sv:Value) (f:Fx) (y:Ms) (kk:Nat) (w:World) (r:Ending) (w':World):Prop:=∃gj k PL Q s,r=.returned (.int .i64 0)∧MsS gm gl gj k (GrowP P w w') PL Q c sv f y s w'∧Keeps P w w'∧k≤kk
def bgE (un:Int) (q:Rq):Int:=if 1≤un∧un≤247 then (if q.ok=true then 0 else 5) else 3
theorem mbegin_any {gm gl gj k:Nat} {P PL Q:Nat→Prop} {c:Cf} {sv:Value} {f:Fx} {y:Ms} {s:Lk} {w:World} (h:MsS gm gl gj k P PL Q c sv f y s w) (hz:Hid ((y.b&&(y.x.kind !=3))=false)) (i:Nat) (x0 x1:Int) (hx:c.sets[i]?=some (x0,x1)) (un qf qa qq qc qo:Int) (hn0:0≤y.now) (hn1:y.now≤600000000000000000) (E:Int) (hE:bgE un ⟨qf,qa,qq,qc,qo⟩=E):
  Calls Tryz.prog 26 #[.pointer (some ⟨gm,0,none⟩),.int .i64 (i:Int),.int .i64 un,.agg #[.int .i64 qf,.int .i64 qa,.int .i64 qq,.int .i64 qc,.int .i64 qo]] w fun r w'=>(E≠0→MNo E w r w')∧(E=0→MYes gm gl P c sv f ⟨y.n,true,(Tx.new x0 x1 c.re c.ti c.de).begun un ⟨qf,qa,qq,qc,qo⟩ y.now,i,y.now⟩ 1 w r w'):=by
 have hG:=CfG.of h.chk;obtain⟨W0,hW0⟩:∃W,w.alloc (.cells #[.int .i64 qf,.int .i64 qa,.int .i64 qq,.int .i64 qc,.int .i64 qo] 45)=W:=⟨_,rfl⟩
 have hb0:Below w.heap.size w W0:=by rw[←hW0];exact bH w _
 have hz0:W0.heap.size=w.heap.size+1:=by rw[←hW0];simp
 have p0:W0.heap[w.heap.size]?=some (.cells #[.int .i64 qf,.int .i64 qa,.int .i64 qq,.int .i64 qc,.int .i64 qo] 45):=by rw[←hW0];exact bI w _
 have h0:=h.keepB hb0;have HBU:=bC (mbusy_any h0 false hz);have hset:Hid (Okset x0 x1):=hG.set (x0,x1) (List.mem_of_getElem? hx);have hil:i<c.sets.length:=(List.getElem?_eq_some_iff.1 hx).1;have HLK:Hid (∀X,Calls Tryz.prog 72 #[.agg #[.int .i64 x0,.int .i64 x1],.int .i64 c.re,.int .i64 c.ti,.int .i64 c.de] X (LkNew X (Lk.new x0 x1 c.re c.ti c.de))):=fun X=>lknew_ok x0 x1 c.re c.ti c.de hset hG.re0 hG.re1 hG.ti0 hG.ti1 hG.de0 hG.de1 X
 obtain⟨b,o,cc,rfl,-,-,hcl⟩:=(h.rgs w (Keeps.refl _ _)).at hx;obtain⟨n,hn⟩:=gE c.sets.length;obtain⟨now,hnow⟩:=gE y.now;obtain⟨re,hre⟩:=gE c.re;obtain⟨ti,hti⟩:=gE c.ti;obtain⟨de,hde⟩:=gE c.de;have hat:=h0.at_;unfold MC at hat;rw[hn,hnow,hre,hti,hde] at hat;have HC:=bC hcl;have HAT:=bC hat;have HG:=bC hG;have H0:=bC h0;have H:=bC h;have HEQ:=bC (And.intro hn (And.intro hnow (And.intro hre (And.intro hti hde))));rw[hnow] at hn0 hn1;rw[hre,hti,hde] at HLK;have hil':(i:Int)<(n:Int):=by omega
 have hi0:(0:Int)≤(i:Int):=Int.natCast_nonneg _;have g1:decide ((i:Int)<0)=false:=decide_eq_false (by omega);have g2:decide ((n:Int)≤(i:Int))=false:=decide_eq_false (by omega);have c0:∀X,Below W0.heap.size W0 X→X.cell? ⟨gm,0,none⟩=some (.slice (some ⟨b,o,none⟩) n cc):=fun X hX=>(bA (bB HAT.out hX) 0).trans rfl
 have HW0:=bC hW0;have HB0:=bC hb0;have HZ0:=bC hz0;have P0:=bC p0;have HEE:=bC hE;have HSET:=hset;clear h h0 hat hG hW0 hb0 hz0 p0 hcl hn hnow hre hti hde hx hil hE hset;go_enter Tryz.func26,Tryz.ntmps26;go_upto_region 1 with(fail)
 rw[HW0.out];go_upto_region 7 with(go_at_call 57;(with_reducible refine HBU.out.mono ?_);rintro r w1 ⟨rfl,hb1⟩;have c0':=c0 w1 hb1)
 have HB1:=bC hb1;have HAT1:=bC (bB HAT.out hb1);have kD:Below w1.heap.size w1 w1.drew:=(Below.refl _ _).drew;have y0:∀X,Below w1.heap.size w1 X→X.cell? ⟨gm,0,none⟩=some (.slice (some ⟨b,o,none⟩) n cc):=fun X hX=>(bA (bB HAT1.out hX) 0).trans rfl
 have y3:∀X,Below w1.heap.size w1 X→X.cell? ⟨gm,3,none⟩=some (.int .i64 re):=fun X hX=>(bA (bB HAT1.out hX) 3).trans rfl
 have y4:∀X,Below w1.heap.size w1 X→X.cell? ⟨gm,4,none⟩=some (.int .i64 ti):=fun X hX=>(bA (bB HAT1.out hX) 4).trans rfl
 have y5:∀X,Below w1.heap.size w1 X→X.cell? ⟨gm,5,none⟩=some (.int .i64 de):=fun X hX=>(bA (bB HAT1.out hX) 5).trans rfl
 have HRW:Hid (∀X,Below w1.heap.size w1 X→∀j u,(#[.int .i64 x0,.int .i64 x1]:Array Value).toList[j]?=some u→X.cell? ((⟨b,o+i*2,none⟩:Addr).add j)=some u):=fun X hX j u hj=>by
  obtain⟨e0,e1⟩:=HC.out X (bU (bU HB0.out HB1.out) hX);rw[Addr.add_lit];rcases j with _|_|j
  ·cases hj;exact e0
  ·cases hj;exact e1
  ·cases hj
 clear c0 c0' hb1 HBU;refine wp_region_held_drew (S:=fun V=>Below w1.heap.size w1 V) (by kernel_rfl) kD (fun hH=>?_);clear hH;refine tG 0 32 ?_;refine tG 1 33 ?_;refine tG 2 34 ?_;refine tG 3 35 ?_;refine tG 4 36 ?_;refine tG 5 37 ?_;refine tG 6 38 ?_;refine cR 7 39 (v:=.agg #[.int .i64 x0,.int .i64 x1]) rfl (by kernel_rfl) (fun _ _ _ h=>h) rfl (by rfl) (by assumption) (fun X hX=>cB 61 (.tmp 38) rfl ⟨b,o+i*2,none⟩ rfl #[.int .i64 x0,.int .i64 x1] _ (HRW.out X hX) Tryz.underlying61 rfl infoSt2) ?_;simp only[cA];refine tG 8 40 ?_;refine tG 9 41 ?_;refine tG 10 42 ?_;refine tG 11 43 ?_;refine tG 12 44 ?_;refine tG 13 45 ?_;refine tG 14 46 ?_;refine tG 15 47 ?_;refine tG 16 48 ?_;refine tG 17 49 ?_;refine tG 18 50 ?_;refine tG 19 51 ?_;refine tG 20 52 ?_;refine tG 21 53 ?_;refine tG 22 54 ?_;refine bM 23 rfl (fun K hK=>?_);go_simp;refine(HLK.out _).mono ?_;rintro r w2 ⟨g2,rfl,hg2,hl2,hb2⟩;have hB2:=bU kD hb2;refine hK.out _ _ hB2 (fun hSx=>?_);clear hK K hSx;refine tG 24 31 ?_;refine tG 25 56 ?_;refine tG 26 57 ?_;refine tG 27 9 ?_;refine tG 28 10 ?_;refine wpAnyH_done (by kernel_rfl) ?_ _;obtain⟨LV,hLV⟩:=gE (lkV y.b gj);obtain⟨st0,hst0⟩:=gE y.set;rw[hLV,hst0] at HAT1;obtain⟨Q2,hQ2⟩:∃Q,Grow (fun _=>False) w1.drew w2=Q:=⟨_,rfl⟩
 have HPK:Hid (PK g2 0 Q2 (Tx.new x0 x1 re ti de) (Lk.new x0 x1 re ti de) w2):=by
  have hG:=HG.out;obtain⟨e1,e2,e3,e4,e5⟩:=HEQ.out;rw[←hQ2,←e3,←e4,←e5];rw[←e3,←e4,←e5] at hl2;exact PK.new (W:=w1.drew) HSET.out hG.re0 hG.re1 hG.ti0 hG.ti1 hG.de0 hG.de1 hl2 hg2
 have HQN:Hid (∀j,Q2 j→w1.heap.size≤j):=fun j hj=>by
  rw[←hQ2] at hj;rcases hj with e|e
  ·exact e.elim
  ·exact e.1
 have HB2:=bC hB2;have HWW:Hid (w.heap.size+1≤w1.heap.size∧gm<w.heap.size):=⟨by have:=HB1.out.size;have:=HZ0.out;omega,H.out.plt gm H.out.pm⟩
 have hgq:¬Q2 gm:=fun e=>by have:=HQN.out _ e;have:=HWW.out;omega
 have hrq:¬Q2 w.heap.size:=fun e=>by have:=HQN.out _ e;have:=HWW.out;omega
 have p2:=bB HAT1.out hB2;have pr:=bB (bB P0.out HB1.out) hB2;have y19:∀X,Keeps Q2 w2 X→X.cell? ⟨gm,19,none⟩=some (.int .i64 now):=fun X hX=>(bA (bG p2 hX hgq) 19).trans rfl
 have HRQ:Hid (∀X,Keeps Q2 w2 X→∀j u,(#[.int .i64 qf,.int .i64 qa,.int .i64 qq,.int .i64 qc,.int .i64 qo]:Array Value).toList[j]?=some u→X.cell? ((⟨w.heap.size,0,none⟩:Addr).add j)=some u):=fun X hX j u hj=>by
  rw[Addr.add_lit,Nat.zero_add,bA (bG pr hX hrq)];simpa using hj
 have kD2:Below w2.heap.size w2 w2.drew:=(Below.refl _ _).drew;have kQ2:Keeps Q2 w2 w2.drew:=Keeps.of_below kD2;obtain⟨x',hx',hbg⟩:∃x',(E=0→x'=(Tx.new x0 x1 re ti de).begun un ⟨qf,qa,qq,qc,qo⟩ now)∧Calls Tryz.prog 73 #[.pointer (some ⟨g2,0,none⟩),.int .i64 un,.agg #[.int .i64 qf,.int .i64 qa,.int .i64 qq,.int .i64 qc,.int .i64 qo],.int .i64 now] w2.drew (PStep g2 1 Q2 x' E w2.drew):=by
  have hp:=HPK.out.keeps (Q:=fun _=>False) (Keeps.of_below kD2) (fun _ _ e=>e);have he:=HEE.out;unfold bgE at he;by_cases hu:1≤un∧un≤247
  ·rw [if_pos hu] at he
   cases hq:Rq.ok ⟨qf,qa,qq,qc,qo⟩ with
   |true=>
    rw[hq,if_pos rfl] at he;subst he;exact⟨_,fun _=>rfl,pk_begin hp (.inl rfl) (by omega) un qf qa qq qc qo now hu.1 hu.2 hn0 (by unfold tb;omega) hq⟩
   |false=>
    rw[hq,if_neg (by decide)] at he;subst he;exact⟨_,fun e=>absurd e (by decide),pk_begin_form hp (.inl rfl) un qf qa qq qc qo now hu.1 hu.2 hn0 (by omega) hq⟩
  ·rw [if_neg hu] at he
   subst he;exact⟨_,fun e=>absurd e (by decide),pk_begin_range hp (.inl rfl) un qf qa qq qc qo now (fun k=>hu ⟨k.1,k.2.1⟩)⟩
 have HBG:=bC hbg;have HX':=bC hx';have HLS:=bC (And.intro hLV hst0);clear y0 y3 y4 y5 hl2 hg2 hb2 hB2 kD hbg hx' hLV hst0 hQ2 hn0 hn1;go_upto_region 10 with(fail)
 refine wp_region_held_drew (S:=fun V=>Keeps Q2 w2 V) (by kernel_rfl) kQ2 (fun hH=>?_);clear hH;refine tG 0 61 ?_;refine tG 1 62 ?_;refine cR 2 63 (v:=.agg #[.int .i64 qf,.int .i64 qa,.int .i64 qq,.int .i64 qc,.int .i64 qo]) rfl (by kernel_rfl) (fun _ _ _ h=>h) rfl (by rfl) (by assumption) (fun X hX=>cB 45 (.tmp 7) rfl ⟨w.heap.size,0,none⟩ rfl #[.int .i64 qf,.int .i64 qa,.int .i64 qq,.int .i64 qc,.int .i64 qo] _ (HRQ.out X hX) Tryz.underlying45 rfl infoRq5) ?_;simp only[cA];refine tG 3 64 ?_;refine tG 4 65 ?_;refine tG 5 66 ?_;refine tG 6 67 ?_;refine bM 7 rfl (fun K hK=>?_);go_simp;refine HBG.out.mono ?_;rintro r w3 ⟨s',rfl,hpk3,hkq3⟩;have kQ3:Keeps Q2 w2 w3:=kQ2.trans hkq3 (fun _ _ e=>e);refine hK.out _ _ kQ3 (fun hSx=>?_);clear hK K hSx;refine tG 8 11 ?_;refine wpAnyH_done (by kernel_rfl) ?_ _;have HB3:Hid (Below w.heap.size w w3):=by
  have h1:Below w.heap.size w w2:=(HB0.out.trans (HB1.out.mono HB0.out.size)).trans (HB2.out.mono (by have:=HWW.out;omega));exact h1.trans (kQ3.below (by have:=HB2.out.size;have:=HWW.out;omega) (fun j hj e=>by have:=HQN.out _ e;have:=HWW.out;omega))
 have p3:=bG p2 kQ3 hgq;have HP3:=bC p3;have HPK3:=bC hpk3;have HKQ3:=bC kQ3;have x17:w3.cell? ⟨gm,17,none⟩=some LV:=(bA p3 17).trans rfl;have x18:w3.cell? ⟨gm,18,none⟩=some (.int .i64 st0):=(bA p3 18).trans rfl;have f17:=bJ p3 17;have f18:=bJ p3 18;clear y19 p2 pr p3 hpk3 hkq3 kQ3 kQ2 kD2 hgq hrq;by_cases he0:E=0
 ·have g5:(E !=0)=false:=by rw[he0];rfl
  have HE0:=bC he0;clear he0;go_upto_region 14 with(fail)
  obtain⟨W5,hW5⟩:∃W,(w3.setCell ⟨gm,17,none⟩ (.pointer (some ⟨g2,0,none⟩))).setCell ⟨gm,18,none⟩ (.int .i64 (i:Int))=W:=⟨_,rfl⟩
  rw[hW5];have hks:Keeps (· =gm) w3 W5:=by rw[←hW5];exact ks1 (ks1 (Keeps.refl (· =gm) w3) 17 _) 18 _
  have hset5:W5.heap[gm]?=some (.cells (MC c (.slice (some ⟨b,o,none⟩) n cc) gl (lkV true g2) (i:Int) now) 129):=by
   obtain⟨e1,e2,e3,e4,e5⟩:=HEQ.out;unfold MC;rw[←hW5,e3,e4,e5];exact bS (bS HP3.out rfl) rfl
  have HKS:=bC hks;have HS5:=bC hset5;clear x17 x18 f17 f18 hW5 hks hset5;go_wp2;go_ret;refine⟨fun e=>absurd HE0.out e,fun _=>?_⟩;obtain⟨e1,e2,e3,e4,e5⟩:=HEQ.out;have hb3:=HB3.out;have h3:=H.out.base (H.out.keepB hb3) (Keeps.of_below hb3) (fun j hj=>.inl hj);rw[e1] at h3;obtain⟨q1,q2⟩:=h3.own (b':=true) (gj':=g2) (k':=1) (x':=x') (s':=s') (st':=(i:Int)) (now':=now) HKS.out HS5.out (fun _=>HPK3.out) (fun j hj=>by
   have z2:=HB2.out.size
   have z0:=HWW.out
   have hj2:w1.heap.size≤j:=by
    rcases hj with e|e
    ·exact HQN.out j e
    ·have e':w2.heap.size≤j:=e.1
     omega
   have hj3:j<w3.heap.size:=HPK3.out.pin j hj
   exact⟨hj3,fun e=>by have:=H.out.ln.lts j e;omega,by omega,.inr ⟨by omega,hj3⟩⟩)
  have hkk:Keeps P w W5:=(Keeps.of_below hb3).trans q2 (fun j hj e=>by
   rcases e with e|e
   ·exact e
   ·omega)
  have h5:=H.out;rw[e1] at h5;refine⟨g2,1,PL,Grow Q2 w2.drew w3,s',rfl,?_,hkk,Nat.le_refl _⟩;rw[e1,e2,e3,e4,e5,←HX'.out HE0.out];exact h5.base q1 hkk (fun j hj=>by
   rcases hj with e|e
   ·exact .inl e
   ·exact .inr ⟨e.1,by have:=HKS.out.size;omega⟩)
 ·have g5:(E !=0)=true:=by rw[bne_iff_ne];exact he0
  have HE0:=bC he0;clear he0 x17 x18 f17 f18;go_wp2;go_ret;exact⟨fun _=>⟨rfl,HB3.out⟩,fun e=>absurd e HE0.out⟩
end Go.Proofs.YtoaoejaodhedaaaGreat
