import Derived.Test.YtoaoejaodhedaaaGreatF11
namespace Go.Proofs.YtoaoejaodhedaaaGreat
open Go.RowKit
open Value renaming slice→J,int→U
open Option renaming none→M,some→N
open IntKind renaming i64→Y
open Obj renaming cells→G
set_option maxHeartbeats 12800000
set_option maxRecDepth 100000
variable {p:Prop} {X w:World}
theorem run_fieldE {P:Program} {ev:Operand→Value} {o:Oper} (T:TypeId) (i:Nat) (x:Operand) (a:o.op=.field T x i) (v s:Value) (b:ev x=v) (h:(Instr.field T v i).run P w=.ok s w):(execOp ev o).run P w=.ok (.value s) w:=by
 unfold execOp;simp only[a,b,Sem.run_bind,Sem.run_pure,Result.andThen_ok,h]
theorem xbb {o:Obj} {B:Nat} (h:Keeps (· =w.heap.size) (w.alloc o) X):ay B w X:=
 ay.af ((bal' w o).trans (h.below (by simp) (fun i hi e=>by omega)))
theorem X1 (h:p:=by
 refine rdyH 13 rfl (fun K hK=>?_);go_simp
 refine(HATT.out _ (bt HB15.out hB4 (Nat.le_refl _))).mono ?_
 rintro r y3 ⟨rfl,hy3⟩
 have hBy3:=bt hB4 hy3 (Nat.le_refl _)
 have py3:=hpKeep pz hy3
 refine hK.out _ _ hBy3 (fun hSx=>?_);clear hK K hSx
 refine tkD 14 120 (v:=.int .i64 AT0.value) rfl (by kernel_rfl) (fun _ _ _ h=>h) rfl (by rfl) (by assumption) (fun X _=>run_fieldE 70 5 (.tmp 119) rfl _ _ rfl (HFD.out X)) ?_;simp only[setS]
 refine rdyH 15 rfl (fun K hK=>?_);go_simp
 refine(HAN.out _ (bt HB15.out hBy3 (Nat.le_refl _))).mono ?_
 rintro r y4 ⟨da2,dc2,oa2,oc2,rfl,hrd,hy4⟩
 have hBy4:=bt hBy3 hy4 (Nat.le_refl _)
 have py4:=hpKeep py3 hy4
 refine hK.out _ _ hBy4 (fun hSx=>?_);clear hK K hSx
 refine rdyH 17 rfl (fun K hK=>?_)
 refine step_storeW rfl 53 (.tmp 14) (.tmp 121) rfl w15.heap.size 0 _ 53 #[.int .i64 RP.fn,.int .i64 RP.ar,.slice da2 RP.data.length dc2,.int .i64 RP.code,.int .i64 RP.level,.bool RP.more,.int .i64 RP.next,.slice oa2 RP.ag.length oc2] rfl rfl (py4) (by simp) infoRp8 rfl ?_
 intro y5 g5 hk5 hz5
 have hB5:Below w15.heap.size w15 y5:=hBy4.trans (hk5.below hBy4.size (fun i hi e=>by have e':i=w15.heap.size:=e;omega))
 refine hK.out _ _ hB5 (fun hSx=>?_);clear hK K hSx
 refine wpAnyH_done (by kernel_rfl) ?_ _
 go_wp2
 go_meet
 case rel=>exact⟨_,da2,dc2,oa2,oc2,rfl,g5,hrd _ (ay.dg hk5 (fun k e=>by have e':k=w15.heap.size:=e;have:=hB4.size;have:=hy3.size;have h9:(w15.alloc (.cells #[.int .i64 0,.int .i64 0,.slice none 0 0,.int .i64 0,.int .i64 0,.bool false,.int .i64 0,.slice none 0 0] 53)).drew.heap.size=w15.heap.size+1:=(by simp);omega)),hB5⟩):p:=h
theorem X2 (h:p:=by
 obtain⟨i2,q1,q2,q3,q4,q5,q6⟩:=HSTEP.out w15 HB15.out
 have s1:IntKind.i64.wrap ((i:Int)+1)=(i2:Int):=(IntWalk.i64_in _ (by omega)).trans q3
 clear y16 z0 z2 sK sK1 t0 t3 t4 t5 t16 t20 tn tn0 tnd
 go_wp2
 go_roundw
 case rel=>exact⟨i2,q1,q2,rfl,q5,q6⟩
 case measure=>simp [intOf];omega):p:=h
theorem xdR.OQ (cs:Array Value) (hr:Rd Tryz.prog w 35 cs.toList):
  Calls Tryz.prog 3 #[.agg cs] w fun r w'=>r=.returned (.bool true)∧Below w.heap.size w w':=by
 obtain⟨c,l,s,ks,sv,lv,av,cv,kv,rfl,hR,hL,hA,hC,hK⟩:=TW hr;clear hr;obtain⟨n,hn⟩:=gE c.bj.length;obtain⟨ln,oP⟩:=gE l.length;obtain⟨an,tR⟩:=gE s.aC.length;obtain⟨cn,yC⟩:=gE s.cr.length;obtain⟨kn,cl⟩:=gE ks.length;obtain⟨lp,uj⟩:=gE s.loop;obtain⟨VV,bQ⟩:=bU (p:=DX c l s);obtain⟨VB,Nd⟩:=bU (p:=s.ok∧Ee s c.ti c.de);have HV:Hid (∀X,Below w.heap.size w X→Calls Tryz.prog 10 #[.agg (wS c sv lv av s.loop cv kv)] X (aj X VV)):=fun X g=>I3 c l s sv lv av cv kv X (hR.ah g) (hL.ah g) (hA.ah g) (hC.ah g) VV bQ
 have LD:Hid (∀X,Below w.heap.size w X→Calls Tryz.prog 11 #[.agg #[av,.bool s.loop,cv],U Y c.ti,U Y c.de] X (aj X VB)):=fun X g=>TH s av cv c.ti c.de X (hA.ah g) (hC.ah g) VB Nd
 obtain⟨sa,sc,Db,-⟩:=id hR;obtain⟨la,lc,vc⟩:=hL.KH;obtain⟨aa,ac,dM,-⟩:=id hA;obtain⟨ca,cc,dV,-⟩:=id hC;obtain⟨ka,kc,aY,-⟩:=id hK;rw[hn] at Db;rw[oP] at vc;rw[tR] at dM;rw[yC] at dV;rw[cl] at aY;subst Db vc dM dV aY;rw[uj] at HV LD ⊢;obtain⟨re,Ec⟩:=gE c.re;obtain⟨ti,Iv⟩:=gE c.ti;obtain⟨de,EU⟩:=gE c.de;obtain⟨C,wk⟩:=gE (yh c (J sa n sc));have hi:(Tryz.prog.info? 27).map (·.size)=N C.size:=by rw[←wk];exact sj
 obtain⟨D,hD⟩:=gE (wS c (J sa n sc) (J la ln lc) (J aa an ac) lp (J ca cn cc) (J ka kn kc));have Sh:(Tryz.prog.info? 35).map (·.size)=N D.size:=by rw[←hD];exact Nm
 rw[hD] at HV ⊢;obtain⟨E,eC,dN,pD⟩:=eY w (G D 35);have iA:Hid (∀X,Below E.heap.size E X→∀j u,C.toList[j]?=N u→X.cell? ((⟨w.heap.size,0,M⟩:Addr).add j)=N u):=fun X g j u hj=>by
  rw[Addr.add_lit,Nat.zero_add,hpCell (hpKeep pD g),←hD];exact GU (by rw[wk];exact hj)
 have TM:Hid (∀X,Below E.heap.size E X→∀j u,(#[J aa an ac,.bool lp,J ca cn cc]:Array Value).toList[j]?=N u→X.cell? ((⟨w.heap.size,17,M⟩:Addr).add j)=N u):=fun X g j u hj=>by
  rw[Addr.add_lit,hpCell (hpKeep pD g),←hD];rcases j with _|_|_|j
  ·cases hj;rfl
  ·cases hj;rfl
  ·cases hj;rfl
  ·cases hj
 have t0:∀X,Below E.heap.size E X→X.cell? ⟨w.heap.size,0,M⟩=N (J sa n sc):=fun X g=>(hpCell (hpKeep pD g) 0).trans (by rw[←hD];rfl)
 have t3:∀X,Below E.heap.size E X→X.cell? ⟨w.heap.size,3,M⟩=N (U Y re):=fun X g=>(hpCell (hpKeep pD g) 3).trans (by rw[←hD,←Ec];rfl)
 have t4:∀X,Below E.heap.size E X→X.cell? ⟨w.heap.size,4,M⟩=N (U Y ti):=fun X g=>(hpCell (hpKeep pD g) 4).trans (by rw[←hD,←Iv];rfl)
 have t5:∀X,Below E.heap.size E X→X.cell? ⟨w.heap.size,5,M⟩=N (U Y de):=fun X g=>(hpCell (hpKeep pD g) 5).trans (by rw[←hD,←EU];rfl)
 have t16:∀X,Below E.heap.size E X→X.cell? ⟨w.heap.size,16,M⟩=N (J la ln lc):=fun X g=>(hpCell (hpKeep pD g) 16).trans (by rw[←hD];rfl)
 have t20:∀X,Below E.heap.size E X→X.cell? ⟨w.heap.size,20,M⟩=N (J ka kn kc):=fun X g=>(hpCell (hpKeep pD g) 20).trans (by rw[←hD];rfl)
 have cb:Hid (∀X,Below E.heap.size E X→X.heap[w.heap.size]?=N (G D 35)):=fun X g=>hpKeep pD g
 rw[Iv,EU] at LD;have bo:=hid eC;have L:=hid dN;have Tq:=hid (And.intro hn (And.intro oP (And.intro tR (And.intro yC (And.intro cl uj)))));have cd:=hid Ec;have iI:=hid (And.intro Iv EU);have iz:=hid wk;have LO:=hid hD;have F9:=hid bQ;have fV:=hid Nd;have HR:=hid hR;have HL:=hid hL;have HA:=hid hA;have HC:=hid hC;have HK:=hid hK;obtain⟨VF,bK⟩:=bU (p:=Ef s re.toNat);have Pn:Hid (VV=true→∀X,Below w.heap.size w X→Calls Tryz.prog 12 #[.agg #[J aa an ac,.bool lp,J ca cn cc],U Y re] X (aj X VF)):=fun e X g=>by
  have hP:=bQ.1 e;have hG:=Mr.of hP.2.1;have h0:=hG.rq;have h1:=hG.qS;have Uj:re=(re.toNat:Int):=by rw[←Ec];omega
  have h:=S5 s aa an ac lp (J ca cn cc) re.toNat (by omega) hP.2.2.2.2.2 tR uj X (hA.ah g) (hC.ah g);rw[←Uj] at h;exact h.mono fun r w' ⟨B,e1,e2,e3⟩=>by
   have e:B=VF:=by
    cases B<;>cases VF
    ·rfl
    ·exact absurd (e2.out.2 (bK.1 rfl)) Bool.noConfusion
    ·exact absurd (bK.2 (e2.out.1 rfl)) Bool.noConfusion
    ·rfl
   subst e;exact⟨e1,e3⟩
 have fW:=hid bK;clear bK;clear hn oP tR yC cl uj bQ Nd hR hL hA hC hK Ec Iv EU wk hD eC dN pD;have kW:Below E.heap.size E E:=Below.refl _ _;have b4:=cb.out E kW;cases VV with
 |false=>
  go_enter Tryz.func3,Tryz.ntmps3;go_upto_region 1 with(fail)
  rw[bo.out];go_wp2_with (refine wpList_load_atH (by rfl) 35 (.tmp 1) rfl ⟨w.heap.size,0,M⟩ rfl D _ (rowAtW b4) Tryz.underlying35 rfl Sh ?_);go_wp2_with (first|(go_at_call 10;(with_reducible refine(HV.out _ L.out).mono ?_);rintro r T ⟨rfl,Z⟩;have z1:=bt L.out Z (Nat.le_refl _);have c4:=t4 T Z;have c5:=t5 T Z)|(go_at_call 13;(with_reducible refine(pY _).mono ?_);rintro r wz ⟨rfl,Mp⟩));go_ret;exact⟨rfl,bt z1 Mp (Nat.le_refl _)⟩
 |true=>
 have eF:Hid (∀X,Below w.heap.size w X→Calls Tryz.prog 12 #[.agg #[J aa an ac,.bool lp,J ca cn cc],U Y re] X (aj X VF)):=Pn.out rfl;clear Pn;cases VB with
 |false=>
  go_enter Tryz.func3,Tryz.ntmps3;go_upto_region 1 with(fail)
  rw[bo.out];go_wp2_with (refine wpList_load_atH (by rfl) 35 (.tmp 1) rfl ⟨w.heap.size,0,M⟩ rfl D _ (rowAtW b4) Tryz.underlying35 rfl Sh ?_);go_wp2_with (first|(go_at_call 10;(with_reducible refine(HV.out _ L.out).mono ?_);rintro r T ⟨rfl,Z⟩;have z1:=bt L.out Z (Nat.le_refl _);have c4:=t4 T Z;have c5:=t5 T Z)|(refine wpList_load_atH (by rfl) 32 (.tmp 19) rfl ⟨w.heap.size,17,M⟩ rfl #[J aa an ac,.bool lp,J ca cn cc] _ (TM.out _ Z) Tryz.underlying32 rfl bu ?_)|(go_at_call 11;(with_reducible refine(LD.out _ z1).mono ?_);rintro r x2 ⟨rfl,y2⟩;have z2:=bt z1 y2 (Nat.le_refl _);have k2:=bt Z y2 (Nat.le_refl _);have c3:=t3 x2 k2)|(go_at_call 13;(with_reducible refine(pY _).mono ?_);rintro r wz ⟨rfl,Mp⟩));go_ret;exact⟨rfl,bt z2 Mp (Nat.le_refl _)⟩
 |true=>
 cases VF with
 |false=>
  go_enter Tryz.func3,Tryz.ntmps3;go_upto_region 1 with(fail)
  rw[bo.out];go_wp2_with (refine wpList_load_atH (by rfl) 35 (.tmp 1) rfl ⟨w.heap.size,0,M⟩ rfl D _ (rowAtW b4) Tryz.underlying35 rfl Sh ?_);go_wp2_with (first|(go_at_call 10;(with_reducible refine(HV.out _ L.out).mono ?_);rintro r T ⟨rfl,Z⟩;have z1:=bt L.out Z (Nat.le_refl _);have c4:=t4 T Z;have c5:=t5 T Z)|(refine wpList_load_atH (by rfl) 32 (.tmp 19) rfl ⟨w.heap.size,17,M⟩ rfl #[J aa an ac,.bool lp,J ca cn cc] _ (TM.out _ Z) Tryz.underlying32 rfl bu ?_)|(go_at_call 11;(with_reducible refine(LD.out _ z1).mono ?_);rintro r x2 ⟨rfl,y2⟩;have z2:=bt z1 y2 (Nat.le_refl _);have k2:=bt Z y2 (Nat.le_refl _);have c3:=t3 x2 k2)|(refine wpList_load_atH (by rfl) 32 (.tmp 31) rfl ⟨w.heap.size,17,M⟩ rfl #[J aa an ac,.bool lp,J ca cn cc] _ (TM.out _ k2) Tryz.underlying32 rfl bu ?_)|(go_at_call 12;(with_reducible refine(eF.out _ z2).mono ?_);rintro r x3 ⟨rfl,y3⟩;have z3:=bt z2 y3 (Nat.le_refl _);have k3:=bt k2 y3 (Nat.le_refl _))|(go_at_call 13;(with_reducible refine(pY _).mono ?_);rintro r wz ⟨rfl,Mp⟩));go_ret;exact⟨rfl,bt z3 Mp (Nat.le_refl _)⟩
 |true=>
 have fC:Hid (Ef s re.toNat):=fW.out.1 rfl;have HP:Hid (DX c l s):=F9.out.1 rfl;have fz:Hid (Ee s c.ti c.de):=(fV.out.1 rfl).2;have HG:Hid (Mr c):=Mr.of HP.out.2.1;have g6:Hid (∀X,Below w.heap.size w X→Calls Tryz.prog 14 #[.agg D] X fun r w'=>∃gl gm,r=.returned (.tuple #[.pointer (N ⟨gl,0,M⟩),.pointer (N ⟨gm,0,M⟩),.bool true])∧Idle gm gl X.heap.size c l s 0 w'∧Below X.heap.size X w'):=fun X g=>by
  have h:=OR c l s (J sa n sc) (J la ln lc) (J aa an ac) (J ca cn cc) (J ka kn kc) X HP.out (HR.out.ah g) (HL.out.ah g) (HA.out.ah g) (HC.out.ah g);rw[Tq.out.2.2.2.2.2,LO.out] at h;exact h
 go_enter Tryz.func3,Tryz.ntmps3;go_upto_region 1 with(fail)
 rw[bo.out];go_wp2_with (refine wpList_load_atH (by rfl) 35 (.tmp 1) rfl ⟨w.heap.size,0,M⟩ rfl D _ (rowAtW b4) Tryz.underlying35 rfl Sh ?_);go_upto_region 3 with(first
  |(go_at_call 10;(with_reducible refine(HV.out _ L.out).mono ?_);rintro r T ⟨rfl,Z⟩;have z1:=bt L.out Z (Nat.le_refl _);have c4:=t4 T Z;have c5:=t5 T Z)
  |(refine wpList_load_atH (by rfl) 32 (.tmp 19) rfl ⟨w.heap.size,17,M⟩ rfl #[J aa an ac,.bool lp,J ca cn cc] _ (TM.out _ Z) Tryz.underlying32 rfl bu ?_)
  |(go_at_call 11;(with_reducible refine(LD.out _ z1).mono ?_);rintro r x2 ⟨rfl,y2⟩;have z2:=bt z1 y2 (Nat.le_refl _);have k2:=bt Z y2 (Nat.le_refl _);have c3:=t3 x2 k2)
  |(refine wpList_load_atH (by rfl) 32 (.tmp 31) rfl ⟨w.heap.size,17,M⟩ rfl #[J aa an ac,.bool lp,J ca cn cc] _ (TM.out _ k2) Tryz.underlying32 rfl bu ?_)
  |(go_at_call 12;(with_reducible refine(eF.out _ z2).mono ?_);rintro r x3 ⟨rfl,y3⟩;have z3:=bt z2 y3 (Nat.le_refl _);have k3:=bt k2 y3 (Nat.le_refl _);have gy:=cb.out _ k3))
 go_wp2_with (refine wpList_load_atH (by rfl) 35 (.tmp 1) rfl ⟨w.heap.size,0,M⟩ rfl D _ (rowAtW gy) Tryz.underlying35 rfl Sh ?_);go_upto_region 4 with(go_at_call 14;(with_reducible refine(g6.out _ z3).mono ?_);rintro r w9 ⟨gl,gm,rfl,eQ,dR⟩)
 have fF:Hid (Below E.heap.size E w9):=bt k3 dR (Nat.le_refl _);have fE:Hid (Idle gm gl E.heap.size c l s 0 w9):=eQ.mono (k3).size;clear eQ dR;go_wp2;go_loopw [6] (fun iv wr=>∃i:Nat,i≤8∧i≤kn∧iv=U Y (i:Int)∧Hid (Idle gm gl E.heap.size c l s i wr)∧Below E.heap.size E wr) (fun iv _=>8- (intOf iv).toNat)
 case atStart=>exact⟨0,Nat.zero_le _,Nat.zero_le _,rfl,fE.out,fF.out⟩
 case round=>
  obtain⟨i,iW,ir,rfl,eR,bc⟩:=hrel;have iX:(0:Int)≤(i:Int):=Int.natCast_nonneg _;have ad:=hid bc;have et:=t20 wr bc;have a9:Hid (Below w.heap.size w wr):=bt L.out bc (Nat.le_refl _);by_cases cp:i<kn∧i<8
  ·obtain ⟨h1,h2⟩:=cp
   have g1:decide ((i:Int)<(kn:Int))=true:=decide_eq_true (by omega);have g2:decide ((i:Int)<8)=true:=decide_eq_true (by omega);have dq:(i:Int)<(kn:Int):=by omega
   have gj:(i:Int)<8:=by omega
   obtain⟨x,hx⟩:=gs (l:=ks) Tq.out.2.2.2.2.1 h1;obtain⟨b2,o2,c2,aY,ef,cy⟩:=HK.out.row hx;rw[Tq.out.2.2.2.2.1] at aY;simp only[Value.slice.injEq,true_and] at aY;obtain⟨rfl,rfl⟩:=aY;obtain⟨A,bx⟩:=gE x.C;rw[bx] at cy;have gn:(Tryz.prog.info? 49).map (·.size)=N A.size:=by rw[←bx];exact Ti
   have bn:Hid (∀X,Below w.heap.size w X→Calls Tryz.prog 15 #[.agg D,.agg A] X (FQ X n (jY x.fn x.a (x.b%12)))):=fun X g=>by
    have h:=C6 c l (J sa n sc) (J la ln lc) (J aa an ac) (J ca cn cc) (J (N ⟨b2,o2,M⟩) kn kc) lp HG.out.ne HG.out.le HP.out.2.2.2.1 x ef X (HR.out.ah g) (HL.out.ah g);rw[LO.out,bx,Tq.out.1] at h;exact h
   obtain⟨Q,hQ⟩:∃Q,jY x.fn x.a (x.b%12)=Q:=⟨_,rfl⟩
   rw[hQ] at bn;have db:Hid (∀X,Below wr.heap.size wr X→∀j u,A.toList[j]?=N u→X.cell? ((⟨b2,o2+i*6,M⟩:Addr).add j)=N u):=fun X g=>cy X (bt a9.out g (Nat.le_refl _))
   have kD:Below wr.heap.size wr wr.drew:=(Below.refl _ _).drew;have c7:Hid (∀X,Below wr.heap.size wr X→∀j u,D.toList[j]?=N u→X.cell? ((⟨w.heap.size,0,M⟩:Addr).add j)=N u):=fun X g j u hj=>rowAtW (cb.out X (bt ad.out g (Nat.le_refl _))) j u hj
   have iu:∀X,Below wr.heap.size wr X→X.cell? ⟨w.heap.size,20,M⟩=N (J (N ⟨b2,o2,M⟩) kn kc):=fun X g=>t20 X (bt ad.out g (Nat.le_refl _))
   have gb:=hid h1;have cT:Hid (Q.ok=true):=by rw[←hQ];exact xaC _ _ _
   clear hx ef cy bx hQ h1 h2 ir;go_upto_region 9 with(fail)
   go_cut [7,8,9] from 59 to 69 (fun s7 s8 s9 wc=>∃(t:Nat) (u:Int) (qb:Nat),s7=U Y (t:Int)∧s8=U Y u∧s9=.pointer (N ⟨qb,0,M⟩)∧Hid (t<n∧1≤u∧u≤247)∧Hid (wc.heap[qb]?=N (G #[U Y Q.fn,U Y Q.addr,U Y Q.aF,U Y Q.code,U Y Q.obj] 45)∧wr.heap.size≤qb)∧Below wr.heap.size wr wc)
   case first=>
    clear t0 t3 t4 t5 t16 t20 et bc;refine wp_region_held_drew (S:=fun V=>Below wr.heap.size wr V) (by kernel_rfl) kD (fun hH=>?_);clear hH;refine tkD 0 60 (v:=.agg D) rfl (by kernel_rfl) (fun _ _ _ h=>h) rfl (by rfl) (by assumption) (fun X g=>bP 35 (.tmp 1) rfl ⟨w.heap.size,0,M⟩ rfl D _ (c7.out X g) Tryz.underlying35 rfl Sh) ?_;simp only[setS];refine tG 1 61 ?_;refine tG 2 62 ?_;refine tG 3 63 ?_;refine tG 4 64 ?_;refine tkD 5 65 (v:=.agg A) rfl (by kernel_rfl) (fun _ _ _ h=>h) rfl (by rfl) (by assumption) (fun X g=>run_load_rowT 49 (.tmp 64) rfl ⟨b2,o2+i*6,M⟩ rfl A _ (db.out X g) Tryz.underlying49 rfl gn) ?_;simp only[setS];refine wpAnyH_ready (rs:=[6,11]) (by kernel_rfl) (by simp) ?_;refine AllReadyH.cons rfl (fun K hK=>?_) (AllReadyH.cons rfl (fun K hK=>?_) AllReadyH.nil)
    ·go_simp
     refine(bn.out _ (bt a9.out kD (Nat.le_refl _))).mono ?_;rintro r y3 ⟨t,u,ht,hu,rfl,hy3⟩;have ak:=bt kD hy3 (Nat.le_refl _);refine hK.out _ _ ak (fun hSx=>?_);clear hK K hSx;refine tG 7 59 ?_;refine tG 8 67 ?_;refine tG 9 68 ?_;refine tG 10 69 ?_;refine rdyH 11 rfl (fun K hK=>?_);go_simp;have hB4:Below wr.heap.size wr (y3.alloc (G #[U Y 0,U Y 0,U Y 0,U Y 0,U Y 0] 45)):=bta ak (Nat.le_refl _) _;refine hK.out _ _ hB4 (fun hSx=>?_);clear hK K hSx;refine tG 12 7 ?_;refine tG 13 8 ?_;refine rdyH 14 rfl (fun K hK=>?_);refine step_storeW rfl 45 (.tmp 9) (.tmp 69) rfl y3.heap.size 0 _ 45 #[U Y Q.fn,U Y Q.addr,U Y Q.aF,U Y Q.code,U Y Q.obj] rfl rfl (hpNew y3 (G #[U Y 0,U Y 0,U Y 0,U Y 0,U Y 0] 45)) (by simp) infoRq5 rfl ?_;intro y5 g5 hk5 hz5;have hB5:Below wr.heap.size wr y5:=hB4.trans (hk5.below hB4.size (fun i hi e=>by have:=ak.size;omega));refine hK.out _ _ hB5 (fun hSx=>?_);clear hK K hSx;refine wpAnyH_done (by kernel_rfl) ?_ _;go_wp2;go_meet
     case rel=>exact⟨t,u,_,rfl,rfl,rfl,⟨ht,hu⟩,⟨g5,ak.size⟩,hB5⟩
    ·go_simp
     have hB4:Below wr.heap.size wr (wr.alloc (G #[U Y 0,U Y 0,U Y 0,U Y 0,U Y 0] 45)).drew:=(bal' wr _).drew;refine hK.out _ _ hB4 (fun hSx=>?_);clear hK K hSx;refine rdyH 6 rfl (fun K hK=>?_);go_simp;refine(bn.out _ (bt a9.out hB4 (Nat.le_refl _))).mono ?_;rintro r y3 ⟨t,u,ht,hu,rfl,hy3⟩;have ak:=bt hB4 hy3 (Nat.le_refl _);have p3:y3.heap[wr.heap.size]?=N (G #[U Y 0,U Y 0,U Y 0,U Y 0,U Y 0] 45):=hpKeep (w:=(wr.alloc (G #[U Y 0,U Y 0,U Y 0,U Y 0,U Y 0] 45)).drew) (hpNew wr _) hy3;refine hK.out _ _ ak (fun hSx=>?_);clear hK K hSx;refine tG 7 59 ?_;refine tG 8 67 ?_;refine tG 9 68 ?_;refine tG 10 69 ?_;refine tG 12 7 ?_;refine tG 13 8 ?_;refine rdyH 14 rfl (fun K hK=>?_);refine step_storeW rfl 45 (.tmp 9) (.tmp 69) rfl wr.heap.size 0 _ 45 #[U Y Q.fn,U Y Q.addr,U Y Q.aF,U Y Q.code,U Y Q.obj] rfl rfl p3 (by simp) infoRq5 rfl ?_;intro y5 g5 hk5 hz5;have hB5:Below wr.heap.size wr y5:=ak.trans (hk5.below ak.size (fun i hi e=>by have e':i=wr.heap.size:=e;omega));refine hK.out _ _ hB5 (fun hSx=>?_);clear hK K hSx;refine wpAnyH_done (by kernel_rfl) ?_ _;go_wp2;go_meet
     case rel=>exact⟨t,u,_,rfl,rfl,rfl,⟨ht,hu⟩,⟨g5,Nat.le_refl _⟩,hB5⟩
   case rest=>
    obtain⟨t,u,qb,rfl,rfl,rfl,bm,ct,ES⟩:=hcut;obtain⟨WA,gk⟩:∃W,W=wc:=⟨_,rfl⟩
    subst gk;obtain⟨P,ei,f,y,cj,H3,bC,hf⟩:=eR.out;obtain⟨⟨x0,T⟩,bZ⟩:=gs (l:=c.bj) Tq.out.1 bm.out.1;have fO:aU x0 T:=HG.out.set _ (List.mem_of_getElem? bZ);have cg:=cj.bW ES;have Aj:=H3.n1;obtain⟨I,Sf⟩:=gE (xbB c l s x0 T u Q y.n.aA);have g4:Hid I.ok:=by rw[←Sf];exact Nv HG.out HP.out.2.2.2.1 HP.out.2.2.2.2.2 fz.out fO bm.out.2 cT.out
    have SG:I.re=re:=by rw[←Sf];exact cd.out
    have RK:Hid (I.re=re∧0≤re∧re≤5):=⟨SG,by rw[←cd.out];exact HG.out.rq,by rw[←cd.out];exact HG.out.qS⟩
    have vh:I.s0.length≤6*i:=by rw[←Sf];exact H3.sn
    have dt:=xar g4.out (by omega) y.now (by omega) (by rw[SG];exact RK.out.2.2);have dK:Ft I 0 y.now ⟨y.n,(Tx.new I.bd I.pa c.re c.ti c.de).begun u Q y.now⟩:=by
     have h:=Ft.start (sc:=I) H3 (by rw[←Sf];rfl) (by rw[SG];exact RK.out.2.1);rw[←Sf] at h ⊢;exact h
    have fs:c.bj[t]?=N (I.bd,I.pa):=by rw[←Sf];exact bZ
    have ea:f.l=I.l∧f.aC=I.aC∧f.lp=I.lp:=by rw[←Sf];exact hf
    have e7:Hid (∀X,Below WA.heap.size WA X→Calls Tryz.prog 16 #[.pointer (N ⟨gm,0,M⟩),U Y re,U Y (t:Int),U Y u,.agg #[U Y Q.fn,U Y Q.addr,U Y Q.aF,U Y Q.code,U Y Q.obj]] X (Va gm gl P c ei f t (fun m d=>J8 I m y.now d) X)):=fun X g=>
     OS (cg.bW g) H3.fin t u Q bm.out.2 cT.out H3.n0 (by omega) dt fs ea dK re SG RK.out.2.2
    obtain⟨a0,ba⟩:=gE I.s0.length;have ie:a0≤48:=by rw[←ba];omega
    have gZ:Hid (Calls Tryz.prog 20 #[.pointer (N ⟨gl,0,M⟩)] WA fun r w'=>r=.returned (U Y (a0:Int))∧WA=w'):=Qx cg _ (by rw[←ba,←Sf];rfl);have Pm:Hid (∀(m:Nat) (d:Du) (X W:World),Below WA.heap.size WA X→J8 I m y.now d→nj gm gl (ax P X W) c ei f (QQ d t) 1000000000 W→Tdn gm gl E.heap.size c l s i I y.now m d W):=fun m d X W g h1 h2=>
     Tdn.of h1 h2 (fun j hj=>by
      rcases hj with e|e
      ·exact bC j e
      ·have:=ad.out.size
       have:=ES.size
       have:=g.size
       omega) hf (by rw[SG];exact RK.out.2.2) Aj vh
    have cX:Hid (∀X W,Below WA.heap.size WA X→Keeps P X W→Below E.heap.size E W∧Below wr.heap.size wr WA∧(∀b o,X.heap[b]?=N o→¬P b→W.heap[b]?=N o)):=fun X W g hk=>
     ⟨((ad.out.trans (ES.mono ad.out.size)).trans (g.mono (by have:=ad.out.size;have:=ES.size;omega))).trans (hk.below (by have:=ad.out.size;have:=ES.size;have:=g.size;omega) (fun j hj e=>by have:=bC j e;omega)),ES,fun b o h1 h2=>hpKeeps h1 hk h2⟩
    have fL:Hid (∀j,wr.heap.size≤j→¬P j):=fun j hj e=>by have:=cj.AR j e;omega
    have jq:Hid (∀j,P j→E.heap.size≤j):=bC;have Es:Hid (∀ms:List Nat,ms=bF l x0 T u l.length→ms=I.ms):=fun ms e=>by rw[e,←Sf];rfl
    have JG:Hid (I.l=l∧I.q=Q∧(∀k,I.at_ k=cA s.aC lp (a0+k))):=by rw[←Sf];refine⟨rfl,rfl,fun k=>?_⟩;unfold Sc.at_;rw[←ba,←Sf];show cA s.aC s.loop _=_;rw[Tq.out.2.2.2.2.2]
    have e9:Hid (bT x0∧bT T):=by have:=fO.bd;have:=fO.lo;have:=fO.hi;show bT _∧bT _;unfold bT;omega
    have c9:=bm;have fv:Hid (Below E.heap.size E WA):=bt ad.out ES (Nat.le_refl _);have g7:=hid bZ;have TB:=ct;have ft:=hid ba;have gR:Hid (∃j:Nat,(j:Int)≤I.re∧NA (I.at_ j)):=by
     obtain⟨j,hj,hu⟩:=fC.out.any y.n.aA.length;refine⟨j,?_,?_⟩
     ·have h1:=RK.out
      rw[h1.1];omega
     ·rw [←Sf]
      exact hu
    have pq:=ct.out.1;have x3:=t3 WA fv.out;clear cj H3 bC hf bZ fO cg Aj Sf SG bm ES eR et kD iu c7 db bn vh dt dK fs ea ba ct bc;go_upto_region 11 with(first
     |(refine wpList_load_row rfl 45 (.tmp 9) rfl qb rfl 45 #[U Y Q.fn,U Y Q.addr,U Y Q.aF,U Y Q.code,U Y Q.obj] (0,0) _ pq Tryz.underlying45 rfl infoRq5 ?_)
     |(go_at_call 16;(with_reducible refine(e7.out _ (Below.refl _ _)).mono ?_);rintro r ab ⟨m,d,da,dc,oa,oc,fm,rfl,hrd,fo,Wg⟩;obtain⟨O,hO⟩:=gE d.x.shown;rw[hO])
     |(refine wpList_storeW rfl 55 (.tmp 10) (.tmp 79) rfl ab.heap.size 0 _ 55 #[U Y O.verdict,U Y O.ae.fn,U Y O.ae.ar,J da O.ae.data.length dc,U Y O.ae.code,U Y O.ae.level,.bool O.ae.more,U Y O.ae.next,J oa O.ae.ag.length oc] rfl rfl (hpNew ab _) (by simp) rY rfl ?_;intro F ds eV ib))
    obtain⟨cz,R⟩:=cJ (by rfl) ds eV;obtain⟨ob,FO⟩:=gE ab.heap.size;rw[FO] at cz ⊢;have Iz:=hid (Pm.out m d WA ab (Below.refl _ _) fm fo);obtain⟨e1,e2,e3⟩:=cX.out WA ab (Below.refl _ _) Wg;have As:Hid (Below E.heap.size E ab):=e1;have iy:Hid (Below ab.heap.size ab F):=R;have IB:Hid (Below E.heap.size E F):=bt e1 R (Nat.le_refl _);have g0:Hid (F.heap[qb]?=N (G #[U Y Q.fn,U Y Q.addr,U Y Q.aF,U Y Q.code,U Y Q.obj] 45)):=hpKeep (e3 qb _ TB.out.1 (fL.out qb TB.out.2)) R;have fU:Hid (∀X,Below F.heap.size F X→dG X O.ae da dc oa oc):=fun X g=>by
     rw[←hO];exact hrd X ((ay.dg (Keeps.refl (fun _=>False) ab) (fun _ e=>e.elim)).trans ((ay.af R).trans (ay.af g)))
    have eA:d.x.shown=d.x.out:=by unfold Tx.shown;rw[if_pos Iz.out.dp.ph]
    have b8:Hid (O=d.x.out):=by show _=_;rw[←hO];exact eA
    have cD:=hid cz;have fD:Hid (∀X,Below F.heap.size F X→Idle gm gl E.heap.size c l s (i+1) X):=fun X g=>Iz.out.idle X (bt R g (Nat.le_refl _))
    have Uv:Hid (∀X,Below F.heap.size F X→Calls Tryz.prog 20 #[.pointer (N ⟨gl,0,M⟩)] X fun r w'=>r=.returned (U Y ((a0:Int)+(m:Int)))∧X=w'):=fun X g=>by
     rw[←ft.out];exact Iz.out.xci X (bt R g (Nat.le_refl _))
    have jg:Hid (∀X,Below F.heap.size F X→Calls Tryz.prog 34 #[.pointer (N ⟨gl,0,M⟩)] X fun r w'=>r=.returned (U Y 0)∧X=w'):=fun X g=>Iz.out.pend X (bt R g (Nat.le_refl _))
    have c6:Hid (1≤m∧m≤6):=⟨Iz.out.dp.m1,by have:=Iz.out.dp.le;have:=RK.out;omega⟩
    have b7:Hid (a0+m≤1000):=by have:=c6.out;show _≤_;omega
    clear ds eV ib hrd fo Wg fm hO eA e1 e2 e3 pq x3 R e7 gZ Pm cX FO cz ie;obtain⟨v,RP⟩:=O;have jv:Hid (1≤v∧v≤5):=by have h:=Iz.out.dp.vs;rw[←b8.out] at h;exact h
    have MS:Hid (v=1∨v=2→∃j s',I.ms=[j]∧l[j]?=N s'∧v=(if (s'.cC Q (cA s.aC lp (a0+(m-1))).value).ar=0 then 1 else 2)∧RP=s'.cC Q (cA s.aC lp (a0+(m-1))).value):=fun e=>by
     have h:=Iz.out.dp.nX;rw[←b8.out] at h;obtain⟨j,s',e1,e2,e3⟩:=h e;obtain⟨h1,h2,h3⟩:=JG.out;rw[h1] at e2;rw[h2,h3] at e3;injection e3 with e4 e5
     exact⟨j,s',e1,e2,e4,e5⟩
    have z0:=cF cD.out 0 rfl
    have z2:=cF cD.out 2 rfl
    have HSTEP:Hid (∀X,Below F.heap.size F X→∃i2:Nat,i2≤8∧i2≤kn∧(i:Int)+1=(i2:Int)∧8-i2<8-i∧Hid (Idle gm gl E.heap.size c l s i2 X)∧Below E.heap.size E X):=fun X g=>⟨i+1,by omega,by have:=gb.out;omega,by omega,by omega,fD.out X g,bt IB.out g (Nat.le_refl _)⟩
    obtain⟨KA,cf⟩:∃K,(a0:Int)+(m:Int)=K:=⟨_,rfl⟩
    have sK:IntKind.i64.wrap ((a0:Int)+(m:Int))=KA:=(IntWalk.i64_in _ (by have:=b7.out;omega)).trans cf;rw[cf] at Uv;obtain⟨ao,e6⟩:∃k:Nat,a0+(m-1)=k:=⟨_,rfl⟩
    have eX:KA-1=(ao:Int):=by have:=c6.out;omega
    have sK1:IntKind.i64.wrap (KA-1)=(ao:Int):=(IntWalk.i64_in _ (by have:=b7.out;omega)).trans eX;have fG:Hid (ao≤1000):=by have:=b7.out;show _≤_;omega
    rw[e6] at MS;clear cf e6 eX;obtain⟨AT0,b6⟩:=gE (cA s.aC lp ao);rw[b6] at MS;have HATT:Hid (∀X,Below F.heap.size F X→Calls Tryz.prog 19 #[.agg #[J aa an ac,.bool lp,J ca cn cc],U Y (ao:Int)] X fun r w'=>r=.returned (.agg #[U Y AT0.bf,U Y AT0.fault,U Y AT0.pos,U Y AT0.mask,U Y AT0.ai,U Y AT0.value])∧Below X.heap.size X w'):=fun X g=>by
     have h:=BJ aa an ac s.aC Tq.out.2.2.1 lp (J ca cn cc) ao (by have:=fG.out;omega) X (HA.out.ah (bt (bt L.out IB.out (Nat.le_refl _)) g (Nat.le_refl _)));rw[b6] at h;exact h
    have HFD:Hid (∀W,(Instr.field 70 (.agg #[U Y AT0.bf,U Y AT0.fault,U Y AT0.pos,U Y AT0.mask,U Y AT0.ai,U Y AT0.value]) 5).run Tryz.prog W=.ok (U Y AT0.value) W):=fun _=>by rfl
    have e8:Hid (0≤AT0.value∧AT0.value≤65535):=by
     rw[←b6];show _∧_;unfold cA;split
     ·exact ⟨by show (0:Int)≤0;decide,by show (0:Int)≤65535;decide⟩
     ·cases e:s.aC[ao%s.aC.length]? with
      |none=>exact⟨by show (0:Int)≤0;decide,by show (0:Int)≤65535;decide⟩
      |some x=>
       have hx:=HP.out.2.2.2.2.2.2.2.2.2 x (List.mem_of_getElem? e);have:=At.nC hx;exact⟨this.2.2.1,this.2.2.2.1⟩
    clear b6;obtain⟨b3,o3,c3,Ox,-,-,jU⟩:=HR.out.at g7.out;rw[Tq.out.1] at Ox;simp only[Value.slice.injEq,true_and] at Ox;obtain⟨rfl,rfl⟩:=Ox;have ZE:Hid (∀X,Below F.heap.size F X→∀j u,(#[U Y x0,U Y T]:Array Value).toList[j]?=N u→X.cell? ((⟨b3,o3+t*2,M⟩:Addr).add j)=N u):=fun X g j u hj=>by
     obtain⟨e0,e1⟩:=jU X (bt (bt L.out IB.out (Nat.le_refl _)) g (Nat.le_refl _));rw[Addr.add_lit];rcases j with _|_|j
     ·cases hj;exact e0
     ·cases hj;exact e1
     ·cases hj
    have y0:∀X,Below F.heap.size F X→X.cell? ⟨w.heap.size,0,M⟩=N (J (N ⟨b3,o3,M⟩) n sc):=fun X g=>t0 X (bt IB.out g (Nat.le_refl _))
    have tn:(t:Int)<(n:Int):=by have:=c9.out.1;omega
    have tn0:(0:Int)≤(t:Int):=Int.natCast_nonneg _;have tnd:decide (t<n)=true:=decide_eq_true c9.out.1;have UM:Hid (∀X ms,Below F.heap.size F X→I.ms=ms→Calls Tryz.prog 17 #[J la ln lc,.agg #[U Y x0,U Y T],U Y u] X (tB X ms)):=fun X ms g e=>by
     rw[←e,←Es.out (bF l x0 T u ln) (by rw[Tq.out.2.1])];exact sL la lc l ln X Tq.out.2.1 (by have:=HP.out.2.2.2.1.1;have:=Tq.out.2.1;omega) (HL.out.ah (bt (bt L.out IB.out (Nat.le_refl _)) g (Nat.le_refl _))) x0 T u e9.out.1 e9.out.2
    clear jU;have Pn:Hid ((I.ms=[]→v=3)∧(1<I.ms.length→v=4)∧(I.ms≠[]→¬1<I.ms.length→v=1∨v=2)):=by
     have h:=Iz.out.dp.fair gR.out;rw[←b8.out] at h;exact h
    obtain⟨ms,B3⟩:=gE I.ms;rw[B3] at Pn MS;have eK:Hid (∀X,Below F.heap.size F X→Calls Tryz.prog 17 #[J la ln lc,.agg #[U Y x0,U Y T],U Y u] X (tB X ms)):=fun X g=>UM.out X ms g B3
    have y16:∀X,Below F.heap.size F X→X.cell? ⟨w.heap.size,16,M⟩=N (J la ln lc):=fun X g=>t16 X (bt IB.out g (Nat.le_refl _))
    have kD:Below F.heap.size F F.drew:=(Below.refl _ _).drew;clear UM B3;go_upto_region 13 with(fail)
    go_cut [13] from 84 to 93 (fun gF wc=>∃(a:Option Addr) (k c:Nat),gF=J a k c∧Hid (ms.length=k∧wc.ownsRow F.heap.size 3 1 (J a k c) k (ms.map fun i:Nat=>U Y (i:Int)))∧Below F.heap.size F wc)
    case first=>
     clear z0 z2 t0 t3 t4 t5 t16 t20;refine wp_region_held_drew (S:=fun V=>Below F.heap.size F V) (by kernel_rfl) kD (fun hH=>?_);clear hH;refine tG 0 84 ?_;refine tG 1 85 ?_;refine tG 2 86 ?_;refine tG 3 87 ?_;refine tG 4 88 ?_;refine tG 5 89 ?_;refine tG 6 90 ?_;refine tkD 7 91 (v:=.agg #[U Y x0,U Y T]) rfl (by kernel_rfl) (fun _ _ _ h=>h) rfl (by rfl) (by assumption) (fun X g=>run_load_rowT 61 (.tmp 90) rfl ⟨b3,o3+t*2,M⟩ rfl #[U Y x0,U Y T] _ (ZE.out X g) Tryz.underlying61 rfl uC) ?_;simp only[setS];refine tG 8 92 ?_;refine rdyH 9 rfl (fun K hK=>?_);go_simp;refine(eK.out _ kD).mono ?_;rintro r w15 ⟨a,c,rfl,ho,Sg⟩;have ff:=bt kD Sg (Nat.le_refl _);refine hK.out _ _ ff (fun hSx=>?_);clear hK K hSx;refine tG 10 13 ?_;refine wpAnyH_done (by kernel_rfl) ?_ _;go_wp2;go_meet
     case rel=>exact⟨a,_,c,rfl,⟨rfl,ho⟩,ff⟩
    case rest=>
     obtain⟨ma,mk,mc,rfl,uT,Sg⟩:=hcut;obtain⟨w15,g8⟩:∃W,W=wc:=⟨_,rfl⟩
     subst g8;have HB15:=hid Sg;clear Sg kD y0 eK;rcases ms with _|⟨jm,_|⟨j2,mr⟩⟩
     ·obtain rfl:0=mk:=uT.out.1
      obtain rfl:v=3:=Pn.out.1 rfl;have e0:w15.cell? ⟨ob,0,M⟩=N (U Y 3):=z0 w15 HB15.out;exact X2
     ·obtain rfl:1=mk:=uT.out.1
      have Pq:v=1∨v=2:=Pn.out.2.2 (by simp) (by simp);obtain⟨iZ,s',B3,bX,cx,CO⟩:=MS.out Pq;injection B3 with B3
      subst B3;obtain⟨mb,rfl,eb⟩:=Xz uT.out.2;have cV:=(List.getElem?_eq_some_iff.1 bX).1;rw[Tq.out.2.1] at cV;have Db:=HP.out.2.2.2.1.2 s' (List.mem_of_getElem? bX);obtain⟨b5,o5,rv,ov,ej,Sq,dE,cw⟩:=HL.out.at bX;subst Sq;obtain⟨CS,bA⟩:=gE (SlC s' rv ov ej);rw[bA] at cw;have T0:(Tryz.prog.info? 68).map (·.size)=N CS.size:=by rw[←bA];exact dX
      have gX:Hid (∀X,Below F.heap.size F X→∀k v,CS.toList[k]?=N v→X.cell? ((⟨b5,o5+jm*19,M⟩:Addr).add k)=N v):=fun X g k v hk=>by
       rw[Addr.add_lit];exact cell_keep (bt (bt L.out IB.out (Nat.le_refl _)) g (Nat.le_refl _)) (cw k v (by simpa using hk))
      have HAN:Hid (∀X,Below F.heap.size F X→Calls Tryz.prog 18 #[.agg CS,.agg #[U Y Q.fn,U Y Q.addr,U Y Q.aF,U Y Q.code,U Y Q.obj],U Y AT0.value] X (br X RP)):=fun X g=>by
       rw[←bA,CO];exact O0 s' rv ov ej Q AT0.value e8.out.1 e8.out.2 X (dE.ah (bt (bt L.out IB.out (Nat.le_refl _)) g (Nat.le_refl _))) Db cT.out
      have jl:(jm:Int)<(ln:Int):=by omega
      have gp:(0:Int)≤(jm:Int):=Int.natCast_nonneg _;have gq:decide (jm<ln)=true:=decide_eq_true cV;obtain⟨BX,dv⟩:∃B,(RP.ar !=0)=B:=⟨_,rfl⟩
      obtain⟨BY,dz⟩:∃B,(RP.ar==0)=B:=⟨_,rfl⟩
      have gA:(v==2)=BX:=by
       rw[←dv,cx];by_cases e:(s'.cC Q AT0.value).ar=0
       ·rw [if_pos e,CO,e];rfl
       ·rw [if_neg e,CO]
        exact(bne_iff_ne.2 e).symm▸rfl
      have gB:(v==1)=BY:=by
       rw[←dz,cx];by_cases e:(s'.cC Q AT0.value).ar=0
       ·rw [if_pos e,CO,e];rfl
       ·rw [if_neg e,CO]
        exact(beq_eq_false_iff_ne.2 e).symm▸rfl
      have TC:Hid (∀X,Below F.heap.size F X→∀k u,(#[U Y Q.fn,U Y Q.addr,U Y Q.aF,U Y Q.code,U Y Q.obj]:Array Value).toList[k]?=N u→X.cell? ((⟨qb,0,M⟩:Addr).add k)=N u):=fun X g k u hk=>rowAtW (hpKeep g0.out g) k u hk
      have zm:∀X,Below w15.heap.size w15 X→X.cell? ⟨mb,0,M⟩=N (U Y (jm:Int)):=fun X g=>cell_keep g eb
      have u16:∀X,Below w15.heap.size w15 X→X.cell? ⟨w.heap.size,16,M⟩=N (J (N ⟨b5,o5,M⟩) ln lc):=fun X g=>y16 X (bt HB15.out g (Nat.le_refl _))
      have g3:Hid (∀X,Below w15.heap.size w15 X→∀j u,(#[J aa an ac,.bool lp,J ca cn cc]:Array Value).toList[j]?=N u→X.cell? ((⟨w.heap.size,17,M⟩:Addr).add j)=N u):=fun X g=>TM.out X (bt (bt IB.out HB15.out (Nat.le_refl _)) g (Nat.le_refl _))
      clear dE cw bA Db bX eb y16 Pq cx CO MS;have kE:Below w15.heap.size w15 w15.drew:=(Below.refl _ _).drew;go_upto_region 21 with(fail)
      go_cut [14] from 106 to 121 (fun gM wc=>∃(rb:Nat) (a:Option Addr) (b:Nat) (d:Option Addr) (e:Nat),gM=.pointer (N ⟨rb,0,M⟩)∧Hid (wc.heap[rb]?=N (G #[U Y RP.fn,U Y RP.ar,J a RP.data.length b,U Y RP.code,U Y RP.level,.bool RP.more,U Y RP.next,J d RP.ag.length e] 53))∧Hid (dG wc RP a b d e)∧Below w15.heap.size w15 wc)
      case first=>
       clear z0 z2 t0 t3 t4 t5 t16 t20 dv dz gA gB tn tn0 tnd;refine wp_region_held_drew (S:=fun V=>Below w15.heap.size w15 V) (by kernel_rfl) kE (fun hH=>?_);clear hH;refine tG 0 106 ?_;refine tG 1 107 ?_;refine tG 2 108 ?_;refine tG 3 109 ?_;refine tG 4 110 ?_;refine tG 5 111 ?_;refine tkD 6 112 (v:=.agg CS) rfl (by kernel_rfl) (fun _ _ _ h=>h) rfl (by rfl) (by assumption) (fun X g=>bP 68 (.tmp 111) rfl ⟨b5,o5+jm*19,M⟩ rfl CS _ (gX.out X (bt HB15.out g (Nat.le_refl _))) Tryz.underlying68 rfl T0) ?_;simp only[setS];refine tkD 7 113 (v:=.agg #[U Y Q.fn,U Y Q.addr,U Y Q.aF,U Y Q.code,U Y Q.obj]) rfl (by kernel_rfl) (fun _ _ _ h=>h) rfl (by rfl) (by assumption) (fun X g=>run_load_rowT 45 (.tmp 9) rfl ⟨qb,0,M⟩ rfl #[U Y Q.fn,U Y Q.addr,U Y Q.aF,U Y Q.code,U Y Q.obj] _ (TC.out X (bt HB15.out g (Nat.le_refl _))) Tryz.underlying45 rfl infoRq5) ?_;simp only[setS];refine tG 8 114 ?_;refine tkD 9 115 (v:=.agg #[J aa an ac,.bool lp,J ca cn cc]) rfl (by kernel_rfl) (fun _ _ _ h=>h) rfl (by rfl) (by assumption) (fun X g=>run_load_rowT 32 (.tmp 114) rfl ⟨w.heap.size,17,M⟩ rfl #[J aa an ac,.bool lp,J ca cn cc] _ (g3.out X g) Tryz.underlying32 rfl bu) ?_;simp only[setS];refine tG 10 116 ?_;refine wpAnyH_ready (rs:=[11,16]) (by kernel_rfl) (by simp) ?_;refine AllReadyH.cons rfl (fun K hK=>?_) (AllReadyH.cons rfl (fun K hK=>?_) AllReadyH.nil)
       ·go_simp
        refine(Uv.out _ (bt HB15.out kE (Nat.le_refl _))).mono ?_;rintro r wx ⟨rfl,rfl⟩;refine hK.out _ _ kE (fun hSx=>?_);clear hK K hSx;refine tG 12 118 ?_;refine wpAnyH_ready (rs:=[13,16]) (by kernel_rfl) (by simp) ?_;refine AllReadyH.cons rfl (fun K hK=>?_) (AllReadyH.cons rfl (fun K hK=>?_) AllReadyH.nil)
        ·go_simp
         refine(HATT.out _ (bt HB15.out kE (Nat.le_refl _))).mono ?_;rintro r y3 ⟨rfl,hy3⟩;have hBy3:=bt kE hy3 (Nat.le_refl _);refine hK.out _ _ hBy3 (fun hSx=>?_);clear hK K hSx;refine tkD 14 120 (v:=U Y AT0.value) rfl (by kernel_rfl) (fun _ _ _ h=>h) rfl (by rfl) (by assumption) (fun X _=>run_fieldE 70 5 (.tmp 119) rfl _ _ rfl (HFD.out X)) ?_;simp only[setS];refine wpAnyH_ready (rs:=[15,16]) (by kernel_rfl) (by simp) ?_;refine AllReadyH.cons rfl (fun K hK=>?_) (AllReadyH.cons rfl (fun K hK=>?_) AllReadyH.nil)
         ·go_simp
          refine(HAN.out _ (bt HB15.out hBy3 (Nat.le_refl _))).mono ?_;rintro r y4 ⟨da2,dc2,oa2,oc2,rfl,hrd,hy4⟩;have hBy4:=bt hBy3 hy4 (Nat.le_refl _);refine hK.out _ _ hBy4 (fun hSx=>?_);clear hK K hSx;refine rdyH 16 rfl (fun K hK=>?_);go_simp;have hB4:Below w15.heap.size w15 (y4.alloc (G #[U Y 0,U Y 0,J none 0 0,U Y 0,U Y 0,.bool false,U Y 0,J none 0 0] 53)):=bta hBy4 (Nat.le_refl _) _;refine hK.out _ _ hB4 (fun hSx=>?_);clear hK K hSx;refine rdyH 17 rfl (fun K hK=>?_);refine step_storeW rfl 53 (.tmp 14) (.tmp 121) rfl y4.heap.size 0 _ 53 #[U Y RP.fn,U Y RP.ar,J da2 RP.data.length dc2,U Y RP.code,U Y RP.level,.bool RP.more,U Y RP.next,J oa2 RP.ag.length oc2] rfl rfl (hpNew y4 (G #[U Y 0,U Y 0,J none 0 0,U Y 0,U Y 0,.bool false,U Y 0,J none 0 0] 53)) (by simp) infoRp8 rfl ?_;intro y5 g5 hk5 hz5;have hB5:Below w15.heap.size w15 y5:=hB4.trans (hk5.below hB4.size (fun i hi e=>by have:=hBy4.size;omega));refine hK.out _ _ hB5 (fun hSx=>?_);clear hK K hSx;refine wpAnyH_done (by kernel_rfl) ?_ _;go_wp2;go_meet
          case rel=>exact⟨_,da2,dc2,oa2,oc2,rfl,g5,hrd _ (xbb hk5),hB5⟩
         ·go_simp
          have hB4:Below w15.heap.size w15 (y3.alloc (G #[U Y 0,U Y 0,J none 0 0,U Y 0,U Y 0,.bool false,U Y 0,J none 0 0] 53)):=bta hBy3 (Nat.le_refl _) _;have pz:(y3.alloc (G #[U Y 0,U Y 0,J none 0 0,U Y 0,U Y 0,.bool false,U Y 0,J none 0 0] 53)).heap[y3.heap.size]?=N (G #[U Y 0,U Y 0,J none 0 0,U Y 0,U Y 0,.bool false,U Y 0,J none 0 0] 53):=hpNew y3 _;refine hK.out _ _ hB4 (fun hSx=>?_);clear hK K hSx;refine rdyH 15 rfl (fun K hK=>?_);go_simp;refine(HAN.out _ (bt HB15.out hB4 (Nat.le_refl _))).mono ?_;rintro r y4 ⟨da2,dc2,oa2,oc2,rfl,hrd,hy4⟩;have hBy4:=bt hB4 hy4 (Nat.le_refl _);have py4:=hpKeep pz hy4;refine hK.out _ _ hBy4 (fun hSx=>?_);clear hK K hSx;refine rdyH 17 rfl (fun K hK=>?_);refine step_storeW rfl 53 (.tmp 14) (.tmp 121) rfl y3.heap.size 0 _ 53 #[U Y RP.fn,U Y RP.ar,J da2 RP.data.length dc2,U Y RP.code,U Y RP.level,.bool RP.more,U Y RP.next,J oa2 RP.ag.length oc2] rfl rfl (py4) (by simp) infoRp8 rfl ?_;intro y5 g5 hk5 hz5;have hB5:Below w15.heap.size w15 y5:=hBy4.trans (hk5.below hBy4.size (fun i hi e=>by have e':i=y3.heap.size:=e;have:=hBy3.size;omega));refine hK.out _ _ hB5 (fun hSx=>?_);clear hK K hSx;refine wpAnyH_done (by kernel_rfl) ?_ _;go_wp2;go_meet
          case rel=>exact⟨_,da2,dc2,oa2,oc2,rfl,g5,hrd _ (ay.dg hk5 (fun k e=>by have e':k=y3.heap.size:=e;simp;omega)),hB5⟩
        ·go_simp
         have hB4:Below w15.heap.size w15 (w15.alloc (G #[U Y 0,U Y 0,J none 0 0,U Y 0,U Y 0,.bool false,U Y 0,J none 0 0] 53)).drew:=(bal' w15 _).drew;have pz:(w15.alloc (G #[U Y 0,U Y 0,J none 0 0,U Y 0,U Y 0,.bool false,U Y 0,J none 0 0] 53)).drew.heap[w15.heap.size]?=N (G #[U Y 0,U Y 0,J none 0 0,U Y 0,U Y 0,.bool false,U Y 0,J none 0 0] 53):=hpNew w15 _;refine hK.out _ _ hB4 (fun hSx=>?_);clear hK K hSx;exact X1
       ·go_simp
        have hB4:Below w15.heap.size w15 (w15.alloc (G #[U Y 0,U Y 0,J none 0 0,U Y 0,U Y 0,.bool false,U Y 0,J none 0 0] 53)).drew:=(bal' w15 _).drew;have pz:(w15.alloc (G #[U Y 0,U Y 0,J none 0 0,U Y 0,U Y 0,.bool false,U Y 0,J none 0 0] 53)).drew.heap[w15.heap.size]?=N (G #[U Y 0,U Y 0,J none 0 0,U Y 0,U Y 0,.bool false,U Y 0,J none 0 0] 53):=hpNew w15 _;refine hK.out _ _ hB4 (fun hSx=>?_);clear hK K hSx;refine rdyH 11 rfl (fun K hK=>?_);go_simp;refine(Uv.out _ (bt HB15.out hB4 (Nat.le_refl _))).mono ?_;rintro r wx ⟨rfl,rfl⟩;refine hK.out _ _ hB4 (fun hSx=>?_);clear hK K hSx;refine tG 12 118 ?_;exact X1
      case rest=>
       obtain⟨rb,ra,rc,rd,gz,rfl,EB,c8,fp⟩:=hcut;obtain⟨aX,g9⟩:∃W,W=wc:=⟨_,rfl⟩
       subst g9;have Y8:Hid (Below F.heap.size F aX):=bt HB15.out fp (Nat.le_refl _);have wU:=fU.out aX Y8.out;have gU:Hid (Calls Tryz.prog 21 #[.agg #[U Y RP.fn,U Y RP.ar,J da RP.data.length dc,U Y RP.code,U Y RP.level,.bool RP.more,U Y RP.next,J oa RP.ag.length oc],.agg #[U Y RP.fn,U Y RP.ar,J ra RP.data.length rc,U Y RP.code,U Y RP.level,.bool RP.more,U Y RP.next,J rd RP.ag.length gz]] aX fun r w'=>r=.returned (.bool true)∧Below aX.heap.size aX w'):=
        XM RP.fn RP.ar _ RP.code RP.level RP.more RP.next _ RP.data RP.ag RP.fn RP.ar _ RP.code RP.level RP.more RP.next _ RP.data RP.ag aX wU.d wU.o c8.out.d c8.out.o true (Rp.BB _)
       have FO:=hpKeep cD.out Y8.out;have ee:=EB.out;obtain⟨a0,a1,a2,a3,a4,a5,a6,a7,a8⟩:=I8 FO
       obtain⟨iL,iM,iN,iO,iS,iT,iU,iV⟩:=kA8 ee
       obtain⟨i2,q1,q2,q3,q4,q5,q6⟩:=HSTEP.out aX Y8.out;have s1:IntKind.i64.wrap ((i:Int)+1)=(i2:Int):=(IntWalk.i64_in _ (by omega)).trans q3;clear z0 z2 zm u16 kE FO ee wU fp t0 t3 t4 t5 t16 t20 tn tn0 tnd sK sK1 jl gp gq q5 q6;go_wp2_with (go_at_call 21;(with_reducible refine gU.out.mono ?_);rintro r gQ ⟨rfl,ij⟩);go_roundw
       case rel=>
        obtain⟨i3,r1,r2,r3,r4,r5,r6⟩:=HSTEP.out gQ (bt Y8.out ij (Nat.le_refl _));obtain rfl:i3=i2:=by omega
        exact⟨_,r1,r2,rfl,r5,r6⟩
       case measure=>simp [intOf];omega
     ·obtain ⟨gu,rfl⟩:∃z,mk=z+2:=⟨mr.length,by rw[←uT.out.1];simp⟩
      obtain⟨mk,ec⟩:∃z,gu+2=z:=⟨_,rfl⟩
      rw[ec];have k0:((mk:Int)==0)=false:=beq_eq_false_iff_ne.2 (by omega);have k1:((mk:Int)==1)=false:=beq_eq_false_iff_ne.2 (by omega);clear ec;obtain rfl:v=4:=Pn.out.2.1 (by simp);have e0:w15.cell? ⟨ob,0,M⟩=N (U Y 4):=z0 w15 HB15.out;exact X2
  ·by_cases h1:i<kn
   ·have g1:decide ((i:Int)<(kn:Int))=true:=decide_eq_true (by omega)
    have dq:(i:Int)<(kn:Int):=by omega
    have g2:decide ((i:Int)<8)=false:=decide_eq_false (by omega);have gj:¬(i:Int)<8:=by omega
    clear h1 cp;go_wp2_with (go_at_call 13;(with_reducible refine(pY _).mono ?_);rintro r wz ⟨rfl,Mp⟩);go_ret;exact⟨rfl,bt a9.out Mp (Nat.le_refl _)⟩
   ·have g1:decide ((i:Int)<(kn:Int))=false:=decide_eq_false (by omega)
    have dq:¬(i:Int)<(kn:Int):=by omega
    clear h1 cp;go_wp2_with (go_at_call 13;(with_reducible refine(pY _).mono ?_);rintro r wz ⟨rfl,Mp⟩);go_ret;exact⟨rfl,bt a9.out Mp (Nat.le_refl _)⟩
