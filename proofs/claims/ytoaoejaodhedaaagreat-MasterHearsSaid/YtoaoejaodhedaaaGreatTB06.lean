import Derived.Test.YtoaoejaodhedaaaGreatTB05
namespace Go.Proofs.YtoaoejaodhedaaaGreat
open Go.RowKit
open Value renaming slice→J,int→U
open Option renaming none→M,some→N
open IntKind renaming i64→Y
open Obj renaming cells→G
open Ending renaming returned→H
set_option maxHeartbeats 12800000
set_option maxRecDepth 100000
variable {c:Cf} {f:Fx} {l:List Sl} {y:Ms} {B gl gm i kk m t:Nat} {P:Nat→Prop} {sv v:Value} {W w:World} {s:lg}
theorem Idle.mono {a:Nat} (h:Idle gm gl B c l s i W) (k:a≤B):Idle gm gl a c l s i W:=by
 obtain⟨P,sv,f,y,b,d,e,g⟩:=h;exact⟨P,sv,f,y,b,d,fun j n=>Nat.le_trans k (e j n),g⟩
theorem Nx (h:nj gm gl P c sv f y kk w) (K:Int) (b:(y.n.aA.length:Int)=K):Calls Tryz.prog 20 #[.pointer (N ⟨gl,0,M⟩)] w fun r d=>r=H (U Y K)∧w=d:=by
 obtain⟨g,k,e,Q,s,a,j⟩:=h;rw[←b];exact Ic a.ln
theorem YL (h:nj gm gl P c sv f y kk w) (b:y.n.pend=[]):Calls Tryz.prog 34 #[.pointer (N ⟨gl,0,M⟩)] w fun r d=>r=H (U Y 0)∧w=d:=by
 obtain⟨g,k,e,Q,s,a,j⟩:=h;have h:=Pn a.ln;rw[b] at h;exact h
theorem TB {T:TypeId} {a:Option Addr} {c:Nat} (h:w.ownsRow B T 1 (J a 1 c) 1 [v]):∃b,a=N ⟨b,0,M⟩∧w.cell? ⟨b,0,M⟩=N v:=by
 obtain⟨o,⟨_,j⟩|⟨g,cap,cur,n,-,k,-,-,-,e⟩⟩:=h
 ·cases j
 ·cases n
  refine⟨g,rfl,?_⟩;rw[hpCell k];have d:(cur.toList.take 1)[0]?=N v:=by rw[Nat.one_mul] at e;rw[e];rfl
  rw[List.getElem?_take] at d;simpa using d
structure Tdn (gm gl B:Nat) (c:Cf) (l:List Sl) (s:lg) (i:Nat) (SC:Sc) (t0:Int) (m:Nat) (d:Du) (W:World):Prop where
 dp:J8 SC m t0 d
 idle:∀X,Below W.heap.size W X→Idle gm gl B c l s (i+1) X
 xb6:∀X,Below W.heap.size W X→Calls Tryz.prog 20 #[.pointer (N ⟨gl,0,M⟩)] X fun r w'=>r=H (U Y ((SC.s0.length:Int)+(m:Int)))∧X=w'
 pend:∀X,Below W.heap.size W X→Calls Tryz.prog 34 #[.pointer (N ⟨gl,0,M⟩)] X fun r w'=>r=H (U Y 0)∧X=w'
theorem Tdn.of {b:Sc} {t0:Int} {d:Du} (e:J8 b m t0 d) (h:nj gm gl P c sv f (QQ d t) 1000000000 W) (g:∀j,P j→B≤j) (k:f.l=l∧f.aC=s.aC∧f.lp=s.loop) (o:b.re≤5) (n:t0≤20000000+90000000*i) (hs:b.s0.length≤6*i):Tdn gm gl B c l s i b t0 m d W:=
 {dp:=e
  idle:=fun X a=>⟨_,_,_,_,h.bW a,e.rest o n hs t,g,k⟩
  xb6:=fun X a=>Nx (h.bW a) _ (by show (d.n.aA.length:Int)=_;rw[e.tr.aA,List.length_append,List.length_replicate];omega)
  pend:=fun X a=>YL (h.bW a) e.tr.pend}
theorem Ys:(Tryz.prog.info? 70).map (·.size)=N 6:=by kernel_rfl
theorem Yy:(Tryz.prog.info? 53).map (·.size)=N 8:=by kernel_rfl
theorem xax {p:Prop} (h:p:=by
 refine rdyH 5 rfl (fun K hK=>?_);go_simp
 refine(HATT.out _ (bt HB15.out hB4 (Nat.le_refl _))).mono ?_
 rintro r y3 ⟨rfl,hy3⟩
 have hB3:=bt hB4 hy3 (Nat.le_refl _)
 have p3:y3.heap[w15.heap.size]?=some (.cells #[.int .i64 0,.int .i64 0,.int .i64 0,.int .i64 0,.int .i64 0,.int .i64 0] 70):=hpKeep (w:=(w15.alloc (.cells #[.int .i64 0,.int .i64 0,.int .i64 0,.int .i64 0,.int .i64 0,.int .i64 0] 70)).drew) (hpNew w15 _) hy3
 refine hK.out _ _ hB3 (fun hSx=>?_);clear hK K hSx
 refine rdyH 7 rfl (fun K hK=>?_)
 refine step_storeW rfl 70 (.tmp 15) (.tmp 117) rfl w15.heap.size 0 _ 70 AC rfl rfl p3 (by simp [hcs]) hi6 h1c ?_
 intro y5 g5 hk5 hz5
 have g9:y5.heap[w15.heap.size]?=some (.cells AC 70):=(by rw[g5,List.drop_eq_nil_of_le (by simp [hcs])];simp)
 have hB5:Below w15.heap.size w15 y5:=hB3.trans (hk5.below hB3.size (fun i hi e=>by have e':i=w15.heap.size:=e;omega))
 refine hK.out _ _ hB5 (fun hSx=>?_);clear hK K hSx
 refine wpAnyH_done (by kernel_rfl) ?_ _
 go_wp2
 go_meet
 case rel=>exact⟨_,rfl,g9,hB5⟩):p:=h
theorem xaP.IQ (cs:Array Value) (hr:Rd Tryz.prog w 35 cs.toList):
  Calls Tryz.prog 7 #[.agg cs] w fun r w'=>r=H (.bool true)∧Below w.heap.size w w':=by
 obtain⟨c,l,s,ks,sv,lv,av,cv,kv,rfl,hR,hL,hA,hC,hK⟩:=TW hr;clear hr;obtain⟨n,hn⟩:=gE c.bj.length;obtain⟨ln,lN⟩:=gE l.length;obtain⟨an,oz⟩:=gE s.aC.length;obtain⟨cn,tO⟩:=gE s.cr.length;obtain⟨kn,OH⟩:=gE ks.length;obtain⟨lp,oU⟩:=gE s.loop;obtain⟨VV,PV⟩:=bU (p:=DX c l s);obtain⟨VB,F5⟩:=bU (p:=s.ok∧Ee s c.ti c.de);have HV:Hid (∀X,Below w.heap.size w X→Calls Tryz.prog 10 #[.agg (wS c sv lv av s.loop cv kv)] X (aj X VV)):=fun X g=>I3 c l s sv lv av cv kv X (hR.ah g) (hL.ah g) (hA.ah g) (hC.ah g) VV PV
 have DN:Hid (∀X,Below w.heap.size w X→Calls Tryz.prog 11 #[.agg #[av,.bool s.loop,cv],U Y c.ti,U Y c.de] X (aj X VB)):=fun X g=>TH s av cv c.ti c.de X (hA.ah g) (hC.ah g) VB F5
 obtain⟨sa,sc,yo,-⟩:=id hR;obtain⟨la,lc,qR⟩:=hL.KH;obtain⟨aa,ac,R9,-⟩:=id hA;obtain⟨ca,cc,Sn,-⟩:=id hC;obtain⟨ka,kc,OM,-⟩:=id hK;rw[hn] at yo;rw[lN] at qR;rw[oz] at R9;rw[tO] at Sn;rw[OH] at OM;subst yo qR R9 Sn OM;rw[oU] at HV DN ⊢;obtain⟨re,yn⟩:=gE c.re;obtain⟨ti,AH⟩:=gE c.ti;obtain⟨de,xZ⟩:=gE c.de;obtain⟨C,rf⟩:=gE (yh c (J sa n sc));have hi:(Tryz.prog.info? 27).map (·.size)=N C.size:=by rw[←rf];exact sj
 obtain⟨D,hD⟩:=gE (wS c (J sa n sc) (J la ln lc) (J aa an ac) lp (J ca cn cc) (J ka kn kc));have Cw:(Tryz.prog.info? 35).map (·.size)=N D.size:=by rw[←hD];exact Nm
 rw[hD] at HV ⊢;obtain⟨F,bo,cw,pD⟩:=eY w (G D 35);have Up:Hid (∀X,Below F.heap.size F X→∀j u,C.toList[j]?=N u→X.cell? ((⟨w.heap.size,0,M⟩:Addr).add j)=N u):=fun X g j u hj=>by
  rw[Addr.add_lit,Nat.zero_add,hpCell (hpKeep pD g),←hD];exact GU (by rw[rf];exact hj)
 have JD:Hid (∀X,Below F.heap.size F X→∀j u,(#[J aa an ac,.bool lp,J ca cn cc]:Array Value).toList[j]?=N u→X.cell? ((⟨w.heap.size,17,M⟩:Addr).add j)=N u):=fun X g j u hj=>by
  rw[Addr.add_lit,hpCell (hpKeep pD g),←hD];rcases j with _|_|_|j
  ·cases hj;rfl
  ·cases hj;rfl
  ·cases hj;rfl
  ·cases hj
 have t0:∀X,Below F.heap.size F X→X.cell? ⟨w.heap.size,0,M⟩=N (J sa n sc):=fun X g=>(hpCell (hpKeep pD g) 0).trans (by rw[←hD];rfl)
 have t3:∀X,Below F.heap.size F X→X.cell? ⟨w.heap.size,3,M⟩=N (U Y re):=fun X g=>(hpCell (hpKeep pD g) 3).trans (by rw[←hD,←yn];rfl)
 have t4:∀X,Below F.heap.size F X→X.cell? ⟨w.heap.size,4,M⟩=N (U Y ti):=fun X g=>(hpCell (hpKeep pD g) 4).trans (by rw[←hD,←AH];rfl)
 have t5:∀X,Below F.heap.size F X→X.cell? ⟨w.heap.size,5,M⟩=N (U Y de):=fun X g=>(hpCell (hpKeep pD g) 5).trans (by rw[←hD,←xZ];rfl)
 have t16:∀X,Below F.heap.size F X→X.cell? ⟨w.heap.size,16,M⟩=N (J la ln lc):=fun X g=>(hpCell (hpKeep pD g) 16).trans (by rw[←hD];rfl)
 have t20:∀X,Below F.heap.size F X→X.cell? ⟨w.heap.size,20,M⟩=N (J ka kn kc):=fun X g=>(hpCell (hpKeep pD g) 20).trans (by rw[←hD];rfl)
 have a6:Hid (∀X,Below F.heap.size F X→X.heap[w.heap.size]?=N (G D 35)):=fun X g=>hpKeep pD g
 rw[AH,xZ] at DN;have a7:=hid bo;have L:=hid cw;have Aj:=hid (And.intro hn (And.intro lN (And.intro oz (And.intro tO (And.intro OH oU)))));have V8:=hid yn;have fE:=hid (And.intro AH xZ);have Uo:=hid rf;have GW:=hid hD;have BM:=hid PV;have ZN:=hid F5;have HR:=hid hR;have HL:=hid hL;have HA:=hid hA;have HC:=hid hC;have HK:=hid hK;clear hn lN oz tO OH oU PV F5 hR hL hA hC hK yn AH xZ rf hD bo cw pD;have kW:Below F.heap.size F F:=Below.refl _ _;have bC:=a6.out F kW;cases VV with
 |false=>
  go_enter Tryz.func7,Tryz.ntmps7;go_upto_region 1 with(fail)
  rw[a7.out];go_wp2_with (refine wpList_load_atH (by rfl) 35 (.tmp 1) rfl ⟨w.heap.size,0,M⟩ rfl D _ (rowAtW bC) Tryz.underlying35 rfl Cw ?_);go_wp2_with (first|(go_at_call 10;(with_reducible refine(HV.out _ L.out).mono ?_);rintro r T ⟨rfl,y1⟩;have z1:=bt L.out y1 (Nat.le_refl _);have c4:=t4 T y1;have c5:=t5 T y1)|(go_at_call 13;(with_reducible refine(pJ _).mono ?_);rintro r wz ⟨rfl,Bz⟩));go_ret;exact⟨rfl,bt z1 Bz (Nat.le_refl _)⟩
 |true=>
 cases VB with
 |false=>
  go_enter Tryz.func7,Tryz.ntmps7;go_upto_region 1 with(fail)
  rw[a7.out];go_wp2_with (refine wpList_load_atH (by rfl) 35 (.tmp 1) rfl ⟨w.heap.size,0,M⟩ rfl D _ (rowAtW bC) Tryz.underlying35 rfl Cw ?_);go_wp2_with (first|(go_at_call 10;(with_reducible refine(HV.out _ L.out).mono ?_);rintro r T ⟨rfl,y1⟩;have z1:=bt L.out y1 (Nat.le_refl _);have c4:=t4 T y1;have c5:=t5 T y1)|(refine wpList_load_atH (by rfl) 32 (.tmp 20) rfl ⟨w.heap.size,17,M⟩ rfl #[J aa an ac,.bool lp,J ca cn cc] _ (JD.out _ y1) Tryz.underlying32 rfl bu ?_)|(go_at_call 11;(with_reducible refine(DN.out _ z1).mono ?_);rintro r x2 ⟨rfl,y2⟩;have z2:=bt z1 y2 (Nat.le_refl _);have k2:=bt y1 y2 (Nat.le_refl _))|(go_at_call 13;(with_reducible refine(pJ _).mono ?_);rintro r wz ⟨rfl,Bz⟩));go_ret;exact⟨rfl,bt z2 Bz (Nat.le_refl _)⟩
 |true=>
 have HP:Hid (DX c l s):=BM.out.1 rfl;have dM:Hid (Ee s c.ti c.de):=(ZN.out.1 rfl).2;have HG:Hid (Mr c):=Mr.of HP.out.2.1;have ft:Hid (∀X,Below w.heap.size w X→Calls Tryz.prog 14 #[.agg D] X fun r w'=>∃gl gm,r=H (.tuple #[.pointer (N ⟨gl,0,M⟩),.pointer (N ⟨gm,0,M⟩),.bool true])∧Idle gm gl X.heap.size c l s 0 w'∧Below X.heap.size X w'):=fun X g=>by
  have h:=Lv c l s (J sa n sc) (J la ln lc) (J aa an ac) (J ca cn cc) (J ka kn kc) X HP.out (HR.out.ah g) (HL.out.ah g) (HA.out.ah g) (HC.out.ah g);rw[Aj.out.2.2.2.2.2,GW.out] at h;exact h
 go_enter Tryz.func7,Tryz.ntmps7;go_upto_region 1 with(fail)
 rw[a7.out];go_wp2_with (refine wpList_load_atH (by rfl) 35 (.tmp 1) rfl ⟨w.heap.size,0,M⟩ rfl D _ (rowAtW bC) Tryz.underlying35 rfl Cw ?_);go_upto_region 3 with(first
  |(go_at_call 10;(with_reducible refine(HV.out _ L.out).mono ?_);rintro r T ⟨rfl,y1⟩;have z1:=bt L.out y1 (Nat.le_refl _);have c4:=t4 T y1;have c5:=t5 T y1)
  |(refine wpList_load_atH (by rfl) 32 (.tmp 20) rfl ⟨w.heap.size,17,M⟩ rfl #[J aa an ac,.bool lp,J ca cn cc] _ (JD.out _ y1) Tryz.underlying32 rfl bu ?_)
  |(go_at_call 11;(with_reducible refine(DN.out _ z1).mono ?_);rintro r x2 ⟨rfl,y2⟩;have z2:=bt z1 y2 (Nat.le_refl _);have k2:=bt y1 y2 (Nat.le_refl _);have ei:=a6.out _ k2))
 go_wp2_with (refine wpList_load_atH (by rfl) 35 (.tmp 1) rfl ⟨w.heap.size,0,M⟩ rfl D _ (rowAtW ei) Tryz.underlying35 rfl Cw ?_);go_upto_region 4 with(go_at_call 14;(with_reducible refine(ft.out _ z2).mono ?_);rintro r w9 ⟨gl,gm,rfl,dz,cx⟩)
 have dV:Hid (Below F.heap.size F w9):=bt k2 cx (Nat.le_refl _);have dR:Hid (Idle gm gl F.heap.size c l s 0 w9):=dz.mono (k2).size;clear dz cx;go_wp2;go_loopw [6] (fun iv wr=>∃i:Nat,i≤8∧i≤kn∧iv=U Y (i:Int)∧Hid (Idle gm gl F.heap.size c l s i wr)∧Below F.heap.size F wr) (fun iv _=>8- (intOf iv).toNat)
 case atStart=>exact⟨0,Nat.zero_le _,Nat.zero_le _,rfl,dR.out,dV.out⟩
 case round=>
  obtain⟨i,fL,e8,rfl,Su,aY⟩:=hrel;have fO:(0:Int)≤(i:Int):=Int.natCast_nonneg _;have ad:=hid aY;have cV:=t20 wr aY;have ao:Hid (Below w.heap.size w wr):=bt L.out aY (Nat.le_refl _);by_cases bc:i<kn∧i<8
  ·obtain ⟨h1,h2⟩:=bc
   have g1:decide ((i:Int)<(kn:Int))=true:=decide_eq_true (by omega);have g2:decide ((i:Int)<8)=true:=decide_eq_true (by omega);have WY:(i:Int)<(kn:Int):=by omega
   have ZX:(i:Int)<8:=by omega
   obtain⟨x,hx⟩:=gs (l:=ks) Aj.out.2.2.2.2.1 h1;obtain⟨b2,o2,c2,OM,cD,bx⟩:=HK.out.row hx;rw[Aj.out.2.2.2.2.1] at OM;simp only[Value.slice.injEq,true_and] at OM;obtain⟨rfl,rfl⟩:=OM;obtain⟨A,Xl⟩:=gE x.C;rw[Xl] at bx;have ef:(Tryz.prog.info? 49).map (·.size)=N A.size:=by rw[←Xl];exact Ti
   have Wg:Hid (∀X,Below w.heap.size w X→Calls Tryz.prog 15 #[.agg D,.agg A] X (FQ X n (jY x.fn x.a (x.b%12)))):=fun X g=>by
    have h:=C6 c l (J sa n sc) (J la ln lc) (J aa an ac) (J ca cn cc) (J (N ⟨b2,o2,M⟩) kn kc) lp HG.out.ne HG.out.le HP.out.2.2.2.1 x cD X (HR.out.ah g) (HL.out.ah g);rw[GW.out,Xl,Aj.out.1] at h;exact h
   obtain⟨Q,hQ⟩:∃Q,jY x.fn x.a (x.b%12)=Q:=⟨_,rfl⟩
   rw[hQ] at Wg;have cg:Hid (∀X,Below wr.heap.size wr X→∀j u,A.toList[j]?=N u→X.cell? ((⟨b2,o2+i*6,M⟩:Addr).add j)=N u):=fun X g=>bx X (bt ao.out g (Nat.le_refl _))
   have kD:Below wr.heap.size wr wr.drew:=(Below.refl _ _).drew;have cd:Hid (∀X,Below wr.heap.size wr X→∀j u,D.toList[j]?=N u→X.cell? ((⟨w.heap.size,0,M⟩:Addr).add j)=N u):=fun X g j u hj=>rowAtW (a6.out X (bt ad.out g (Nat.le_refl _))) j u hj
   have fC:∀X,Below wr.heap.size wr X→X.cell? ⟨w.heap.size,20,M⟩=N (J (N ⟨b2,o2,M⟩) kn kc):=fun X g=>t20 X (bt ad.out g (Nat.le_refl _))
   have ec:=hid h1;have bZ:Hid (Q.ok=true):=by rw[←hQ];exact YI _ _ _
   clear hx cD bx Xl hQ h1 h2 e8;go_upto_region 9 with(fail)
   go_cut [7,8,9] from 51 to 61 (fun s7 s8 s9 wc=>∃(t:Nat) (u:Int) (qb:Nat),s7=U Y (t:Int)∧s8=U Y u∧s9=.pointer (N ⟨qb,0,M⟩)∧Hid (t<n∧1≤u∧u≤247)∧Hid (wc.heap[qb]?=N (G #[U Y Q.fn,U Y Q.addr,U Y Q.aF,U Y Q.code,U Y Q.obj] 45)∧wr.heap.size≤qb)∧Below wr.heap.size wr wc)
   case first=>
    clear t0 t3 t4 t5 t16 t20 cV aY;refine wp_region_held_drew (S:=fun V=>Below wr.heap.size wr V) (by kernel_rfl) kD (fun hH=>?_);clear hH;refine tkD 0 52 (v:=.agg D) rfl (by kernel_rfl) (fun _ _ _ h=>h) rfl (by rfl) (by assumption) (fun X g=>bP 35 (.tmp 1) rfl ⟨w.heap.size,0,M⟩ rfl D _ (cd.out X g) Tryz.underlying35 rfl Cw) ?_;simp only[setS];refine tG 1 53 ?_;refine tG 2 54 ?_;refine tG 3 55 ?_;refine tG 4 56 ?_;refine tkD 5 57 (v:=.agg A) rfl (by kernel_rfl) (fun _ _ _ h=>h) rfl (by rfl) (by assumption) (fun X g=>run_load_rowT 49 (.tmp 56) rfl ⟨b2,o2+i*6,M⟩ rfl A _ (cg.out X g) Tryz.underlying49 rfl ef) ?_;simp only[setS];refine wpAnyH_ready (rs:=[6,11]) (by kernel_rfl) (by simp) ?_;refine AllReadyH.cons rfl (fun K hK=>?_) (AllReadyH.cons rfl (fun K hK=>?_) AllReadyH.nil)
    ·go_simp
     refine(Wg.out _ (bt ao.out kD (Nat.le_refl _))).mono ?_;rintro r y3 ⟨t,u,ht,hu,rfl,hy3⟩;have hB3:=bt kD hy3 (Nat.le_refl _);refine hK.out _ _ hB3 (fun hSx=>?_);clear hK K hSx;refine tG 7 51 ?_;refine tG 8 59 ?_;refine tG 9 60 ?_;refine tG 10 61 ?_;refine rdyH 11 rfl (fun K hK=>?_);go_simp;have hB4:Below wr.heap.size wr (y3.alloc (G #[U Y 0,U Y 0,U Y 0,U Y 0,U Y 0] 45)):=bta hB3 (Nat.le_refl _) _;refine hK.out _ _ hB4 (fun hSx=>?_);clear hK K hSx;refine tG 12 7 ?_;refine tG 13 8 ?_;refine rdyH 14 rfl (fun K hK=>?_);refine step_storeW rfl 45 (.tmp 9) (.tmp 61) rfl y3.heap.size 0 _ 45 #[U Y Q.fn,U Y Q.addr,U Y Q.aF,U Y Q.code,U Y Q.obj] rfl rfl (hpNew y3 (G #[U Y 0,U Y 0,U Y 0,U Y 0,U Y 0] 45)) (by simp) infoRq5 rfl ?_;intro y5 g5 hk5 hz5;have hB5:Below wr.heap.size wr y5:=hB4.trans (hk5.below hB4.size (fun i hi e=>by have:=hB3.size;omega));refine hK.out _ _ hB5 (fun hSx=>?_);clear hK K hSx;refine wpAnyH_done (by kernel_rfl) ?_ _;go_wp2;go_meet
     case rel=>exact⟨t,u,_,rfl,rfl,rfl,⟨ht,hu⟩,⟨g5,hB3.size⟩,hB5⟩
    ·go_simp
     have hB4:Below wr.heap.size wr (wr.alloc (G #[U Y 0,U Y 0,U Y 0,U Y 0,U Y 0] 45)).drew:=(bal' wr _).drew;refine hK.out _ _ hB4 (fun hSx=>?_);clear hK K hSx;refine rdyH 6 rfl (fun K hK=>?_);go_simp;refine(Wg.out _ (bt ao.out hB4 (Nat.le_refl _))).mono ?_;rintro r y3 ⟨t,u,ht,hu,rfl,hy3⟩;have hB3:=bt hB4 hy3 (Nat.le_refl _);have p3:y3.heap[wr.heap.size]?=N (G #[U Y 0,U Y 0,U Y 0,U Y 0,U Y 0] 45):=hpKeep (w:=(wr.alloc (G #[U Y 0,U Y 0,U Y 0,U Y 0,U Y 0] 45)).drew) (hpNew wr _) hy3;refine hK.out _ _ hB3 (fun hSx=>?_);clear hK K hSx;refine tG 7 51 ?_;refine tG 8 59 ?_;refine tG 9 60 ?_;refine tG 10 61 ?_;refine tG 12 7 ?_;refine tG 13 8 ?_;refine rdyH 14 rfl (fun K hK=>?_);refine step_storeW rfl 45 (.tmp 9) (.tmp 61) rfl wr.heap.size 0 _ 45 #[U Y Q.fn,U Y Q.addr,U Y Q.aF,U Y Q.code,U Y Q.obj] rfl rfl p3 (by simp) infoRq5 rfl ?_;intro y5 g5 hk5 hz5;have hB5:Below wr.heap.size wr y5:=hB3.trans (hk5.below hB3.size (fun i hi e=>by have e':i=wr.heap.size:=e;omega));refine hK.out _ _ hB5 (fun hSx=>?_);clear hK K hSx;refine wpAnyH_done (by kernel_rfl) ?_ _;go_wp2;go_meet
     case rel=>exact⟨t,u,_,rfl,rfl,rfl,⟨ht,hu⟩,⟨g5,Nat.le_refl _⟩,hB5⟩
   case rest=>
    obtain⟨t,u,qb,rfl,rfl,rfl,S2,bm,yM⟩:=hcut;obtain⟨WA,RX⟩:∃W,W=wc:=⟨_,rfl⟩
    subst RX;obtain⟨P,Vo,f,y,ba,pY,a3,hf⟩:=Su.out;obtain⟨⟨x0,T⟩,Vd⟩:=gs (l:=c.bj) Aj.out.1 S2.out.1;have dt:aU x0 T:=HG.out.set _ (List.mem_of_getElem? Vd);have a9:=ba.bW yM;have vj:=pY.n1;obtain⟨R,Cd⟩:=gE (xbB c l s x0 T u Q y.n.aA);have eV:Hid R.ok:=by rw[←Cd];exact Nv HG.out HP.out.2.2.2.1 HP.out.2.2.2.2.2 dM.out dt S2.out.2 bZ.out
    have CO:R.re=re:=by rw[←Cd];exact V8.out
    have yC:Hid (R.re=re∧0≤re∧re≤5):=⟨CO,by rw[←V8.out];exact HG.out.rq,by rw[←V8.out];exact HG.out.qS⟩
    have rK:R.s0.length≤6*i:=by rw[←Cd];exact pY.sn
    have cl:=xar eV.out (by omega) y.now (by omega) (by rw[CO];exact yC.out.2.2);have ct:Ft R 0 y.now ⟨y.n,(Tx.new R.bd R.pa c.re c.ti c.de).begun u Q y.now⟩:=by
     have h:=Ft.start (sc:=R) pY (by rw[←Cd];rfl) (by rw[CO];exact yC.out.2.1);rw[←Cd] at h ⊢;exact h
    have c9:c.bj[t]?=N (R.bd,R.pa):=by rw[←Cd];exact Vd
    have cy:f.l=R.l∧f.aC=R.aC∧f.lp=R.lp:=by rw[←Cd];exact hf
    have c7:Hid (∀X,Below WA.heap.size WA X→Calls Tryz.prog 16 #[.pointer (N ⟨gm,0,M⟩),U Y re,U Y (t:Int),U Y u,.agg #[U Y Q.fn,U Y Q.addr,U Y Q.aF,U Y Q.code,U Y Q.obj]] X (Q5 gm gl P c Vo f t (fun m d=>J8 R m y.now d) X)):=fun X g=>
     Lw (a9.bW g) pY.fin t u Q S2.out.2 bZ.out pY.n0 (by omega) cl c9 cy ct re CO yC.out.2.2
    obtain⟨a0,aX⟩:=gE R.s0.length;have fm:a0≤48:=by rw[←aX];omega
    have c6:Hid (Calls Tryz.prog 20 #[.pointer (N ⟨gl,0,M⟩)] WA fun r w'=>r=H (U Y (a0:Int))∧WA=w'):=Nx a9 _ (by rw[←aX,←Cd];rfl);have Mv:Hid (∀(m:Nat) (d:Du) (X W:World),Below WA.heap.size WA X→J8 R m y.now d→nj gm gl (ax P X W) c Vo f (QQ d t) 1000000000 W→Tdn gm gl F.heap.size c l s i R y.now m d W):=fun m d X W g h1 h2=>
     Tdn.of h1 h2 (fun j hj=>by
      rcases hj with e|e
      ·exact a3 j e
      ·have:=ad.out.size
       have:=yM.size
       have:=g.size
       omega) hf (by rw[CO];exact yC.out.2.2) vj rK
    have b7:Hid (∀X W,Below WA.heap.size WA X→Keeps P X W→Below F.heap.size F W∧Below wr.heap.size wr WA∧(∀b o,X.heap[b]?=N o→¬P b→W.heap[b]?=N o)):=fun X W g hk=>
     ⟨((ad.out.trans (yM.mono ad.out.size)).trans (g.mono (by have:=ad.out.size;have:=yM.size;omega))).trans (hk.below (by have:=ad.out.size;have:=yM.size;have:=g.size;omega) (fun j hj e=>by have:=a3 j e;omega)),yM,fun b o h1 h2=>hpKeeps h1 hk h2⟩
    have ea:Hid (∀j,wr.heap.size≤j→¬P j):=fun j hj e=>by have:=ba.AR j e;omega
    have gj:Hid (∀j,P j→F.heap.size≤j):=a3;have Ak:Hid (∀ms:List Nat,ms=bF l x0 T u l.length→ms=R.ms):=fun ms e=>by rw[e,←Cd];rfl
    have G5:Hid (R.l=l∧R.q=Q∧(∀k,R.at_ k=cA s.aC lp (a0+k))):=by rw[←Cd];refine⟨rfl,rfl,fun k=>?_⟩;unfold Sc.at_;rw[←aX,←Cd];show cA s.aC s.loop _=_;rw[Aj.out.2.2.2.2.2]
    have QI:Hid (bT x0∧bT T):=by have:=dt.bd;have:=dt.lo;have:=dt.hi;show bT _∧bT _;unfold bT;omega
    have cf:=S2;have dK:Hid (Below F.heap.size F WA):=bt ad.out yM (Nat.le_refl _);have eX:=hid Vd;have Py:=bm;have dE:=hid aX;have pq:=bm.out.1;have x3:=t3 WA dK.out;clear ba pY a3 hf Vd dt a9 vj Cd CO S2 yM Su cV kD fC cd cg Wg rK cl ct c9 cy aX bm aY;go_upto_region 12 with(first
     |(go_at_call 20;(with_reducible refine c6.out.mono ?_);rintro r wx ⟨rfl,rfl⟩)
     |(refine wpList_load_row rfl 45 (.tmp 9) rfl qb rfl 45 #[U Y Q.fn,U Y Q.addr,U Y Q.aF,U Y Q.code,U Y Q.obj] (0,0) _ pq Tryz.underlying45 rfl infoRq5 ?_)
     |(go_at_call 16;(with_reducible refine(c7.out _ (Below.refl _ _)).mono ?_);rintro r Qb ⟨m,d,da,dc,oa,oc,dv,rfl,xg,RS,Cx⟩;obtain⟨O,hO⟩:=gE d.x.shown;rw[hO])
     |(refine wpList_storeW rfl 55 (.tmp 11) (.tmp 73) rfl Qb.heap.size 0 _ 55 #[U Y O.verdict,U Y O.ae.fn,U Y O.ae.ar,J da O.ae.data.length dc,U Y O.ae.code,U Y O.ae.level,.bool O.ae.more,U Y O.ae.next,J oa O.ae.ag.length oc] rfl rfl (hpNew Qb _) (by simp) rY rfl ?_;intro E cj IC fv))
    obtain⟨bA,I⟩:=cJ (by rfl) cj IC;obtain⟨ob,BB⟩:=gE Qb.heap.size;rw[BB] at bA ⊢;have Hw:=hid (Mv.out m d WA Qb (Below.refl _ _) dv RS);obtain⟨e1,e2,e3⟩:=b7.out WA Qb (Below.refl _ _) Cx;have sV:Hid (Below F.heap.size F Qb):=e1;have fD:Hid (Below Qb.heap.size Qb E):=I;have Fy:Hid (Below F.heap.size F E):=bt e1 I (Nat.le_refl _);have fp:Hid (E.heap[qb]?=N (G #[U Y Q.fn,U Y Q.addr,U Y Q.aF,U Y Q.code,U Y Q.obj] 45)):=hpKeep (e3 qb _ Py.out.1 (ea.out qb Py.out.2)) I;have ZE:Hid (∀X,Below E.heap.size E X→dG X O.ae da dc oa oc):=fun X g=>by
     rw[←hO];exact xg X ((ay.dg (Keeps.refl (fun _=>False) Qb) (fun _ e=>e.elim)).trans ((ay.af I).trans (ay.af g)))
    have cX:d.x.shown=d.x.out:=by unfold Tx.shown;rw[if_pos Hw.out.dp.ph]
    have cb:Hid (O=d.x.out):=by show _=_;rw[←hO];exact cX
    have bX:=hid bA;have dN:Hid (∀X,Below E.heap.size E X→Idle gm gl F.heap.size c l s (i+1) X):=fun X g=>Hw.out.idle X (bt I g (Nat.le_refl _))
    have Mt:Hid (∀X,Below E.heap.size E X→Calls Tryz.prog 20 #[.pointer (N ⟨gl,0,M⟩)] X fun r w'=>r=H (U Y ((a0:Int)+(m:Int)))∧X=w'):=fun X g=>by
     rw[←dE.out];exact Hw.out.xb6 X (bt I g (Nat.le_refl _))
    have e6:Hid (∀X,Below E.heap.size E X→Calls Tryz.prog 34 #[.pointer (N ⟨gl,0,M⟩)] X fun r w'=>r=H (U Y 0)∧X=w'):=fun X g=>Hw.out.pend X (bt I g (Nat.le_refl _))
    have b8:Hid (1≤m∧m≤6):=⟨Hw.out.dp.m1,by have:=Hw.out.dp.le;have:=yC.out;omega⟩
    have a5:Hid (a0+m≤1000):=by have:=b8.out;show _≤_;omega
    clear cj IC fv xg RS Cx dv hO cX e1 e2 e3 pq x3 I c7 c6 Mv b7 BB bA fm;obtain⟨v,z⟩:=O;have gk:Hid (1≤v∧v≤5):=by have h:=Hw.out.dp.vs;rw[←cb.out] at h;exact h
    have Mw:Hid (v=1∨v=2→∃j s',R.ms=[j]∧l[j]?=N s'∧v=(if (s'.cC Q (cA s.aC lp (a0+(m-1))).value).ar=0 then 1 else 2)∧z=s'.cC Q (cA s.aC lp (a0+(m-1))).value):=fun e=>by
     have h:=Hw.out.dp.nX;rw[←cb.out] at h;obtain⟨j,s',e1,e2,e3⟩:=h e;obtain⟨h1,h2,h3⟩:=G5.out;rw[h1] at e2;rw[h2,h3] at e3;injection e3 with e4 e5
     exact⟨j,s',e1,e2,e4,e5⟩
    have z0:=cF bX.out 0 rfl
    have z2:=cF bX.out 2 rfl
    have ZL:Hid (∀X,Below E.heap.size E X→∃i2:Nat,i2≤8∧i2≤kn∧(i:Int)+1=(i2:Int)∧8-i2<8-i∧Hid (Idle gm gl F.heap.size c l s i2 X)∧Below F.heap.size F X):=fun X g=>⟨i+1,by omega,by have:=ec.out;omega,by omega,by omega,dN.out X g,bt Fy.out g (Nat.le_refl _)⟩
    obtain⟨KA,a8⟩:∃K,(a0:Int)+(m:Int)=K:=⟨_,rfl⟩
    have sK:IntKind.i64.wrap ((a0:Int)+(m:Int))=KA:=(IntWalk.i64_in _ (by have:=a5.out;omega)).trans a8;rw[a8] at Mt;obtain⟨ak,dk⟩:∃k:Nat,a0+(m-1)=k:=⟨_,rfl⟩
    have db:KA-1=(ak:Int):=by have:=b8.out;omega
    have eA:IntKind.i64.wrap (KA-1)=(ak:Int):=(IntWalk.i64_in _ (by have:=a5.out;omega)).trans db;have Zj:Hid (ak≤1000):=by have:=a5.out;show _≤_;omega
    rw[dk] at Mw;clear a8 dk db;obtain⟨Z,Xi⟩:=gE (cA s.aC lp ak);rw[Xi] at Mw;have HATT:Hid (∀X,Below E.heap.size E X→Calls Tryz.prog 19 #[.agg #[J aa an ac,.bool lp,J ca cn cc],U Y (ak:Int)] X fun r w'=>r=H (.agg #[U Y Z.bf,U Y Z.fault,U Y Z.pos,U Y Z.mask,U Y Z.ai,U Y Z.value])∧Below X.heap.size X w'):=fun X g=>by
     have h:=BJ aa an ac s.aC Aj.out.2.2.1 lp (J ca cn cc) ak (by have:=Zj.out;omega) X (HA.out.ah (bt (bt L.out Fy.out (Nat.le_refl _)) g (Nat.le_refl _)));rw[Xi] at h;exact h
    have c8:Hid (0≤Z.value∧Z.value≤65535):=by
     rw[←Xi];show _∧_;unfold cA;split
     ·exact ⟨by show (0:Int)≤0;decide,by show (0:Int)≤65535;decide⟩
     ·cases e:s.aC[ak%s.aC.length]? with
      |none=>exact⟨by show (0:Int)≤0;decide,by show (0:Int)≤65535;decide⟩
      |some x=>
       have hx:=HP.out.2.2.2.2.2.2.2.2.2 x (List.mem_of_getElem? e);have:=At.nC hx;exact⟨this.2.2.1,this.2.2.2.1⟩
    clear Xi;obtain⟨b3,o3,c3,Gw,-,-,iy⟩:=HR.out.at eX.out;rw[Aj.out.1] at Gw;simp only[Value.slice.injEq,true_and] at Gw;obtain⟨rfl,rfl⟩:=Gw;have QH:Hid (∀X,Below E.heap.size E X→∀j u,(#[U Y x0,U Y T]:Array Value).toList[j]?=N u→X.cell? ((⟨b3,o3+t*2,M⟩:Addr).add j)=N u):=fun X g j u hj=>by
     obtain⟨e0,e1⟩:=iy X (bt (bt L.out Fy.out (Nat.le_refl _)) g (Nat.le_refl _));rw[Addr.add_lit];rcases j with _|_|j
     ·cases hj;exact e0
     ·cases hj;exact e1
     ·cases hj
    have y0:∀X,Below E.heap.size E X→X.cell? ⟨w.heap.size,0,M⟩=N (J (N ⟨b3,o3,M⟩) n sc):=fun X g=>t0 X (bt Fy.out g (Nat.le_refl _))
    have tn:(t:Int)<(n:Int):=by have:=cf.out.1;omega
    have eF:(0:Int)≤(t:Int):=Int.natCast_nonneg _;have eK:decide (t<n)=true:=decide_eq_true cf.out.1;have Qw:Hid (∀X ms,Below E.heap.size E X→R.ms=ms→Calls Tryz.prog 17 #[J la ln lc,.agg #[U Y x0,U Y T],U Y u] X (tB X ms)):=fun X ms g e=>by
     rw[←e,←Ak.out (bF l x0 T u ln) (by rw[Aj.out.2.1])];exact sL la lc l ln X Aj.out.2.1 (by have:=HP.out.2.2.2.1.1;have:=Aj.out.2.1;omega) (HL.out.ah (bt (bt L.out Fy.out (Nat.le_refl _)) g (Nat.le_refl _))) x0 T u QI.out.1 QI.out.2
    clear iy;have w0:=z0 E (Below.refl _ _);go_upto_region 14 with(first
     |(go_at_call 20;(with_reducible refine(Mt.out _ (Below.refl _ _)).mono ?_);rintro r wx ⟨rfl,rfl⟩)
     |(go_at_call 34;(with_reducible refine(e6.out _ (Below.refl _ _)).mono ?_);rintro r wx ⟨rfl,rfl⟩))
    by_cases Hf:v=1∨v=2
    ·go_cut [98] from 91 to 98 (fun et wc=>et=.bool false∧E=wc)
     case first=>
      rcases Hf with e|e<;>
      ·subst e
       go_wp2;go_meet
       case rel=>exact⟨rfl,rfl⟩
     case rest=>
      obtain⟨rfl,Yn⟩:=hcut;subst Yn;obtain⟨jm,s',Ef,a4,Vh,CM⟩:=Mw.out Hf;have fo:Hid (∀X,Below E.heap.size E X→Calls Tryz.prog 17 #[J la ln lc,.agg #[U Y x0,U Y T],U Y u] X fun r w'=>∃b c,r=H (J (N ⟨b,0,M⟩) 1 c)∧w'.cell? ⟨b,0,M⟩=N (U Y (jm:Int))∧Below X.heap.size X w'):=fun X g=>(Qw.out X [jm] g Ef).mono fun r w' ⟨a,c,h1,h2,h3⟩=>by
       obtain⟨b,rfl,hc⟩:=TB h2;exact⟨b,c,h1,hc,h3⟩
      have b6:=(List.getElem?_eq_some_iff.1 a4).1;rw[Aj.out.2.1] at b6;have yo:=HP.out.2.2.2.1.2 s' (List.mem_of_getElem? a4);obtain⟨b5,o5,rv,ov,cT,ON,cp,bn⟩:=HL.out.at a4;subst ON;obtain⟨CS,a2⟩:=gE (SlC s' rv ov cT);rw[a2] at bn;have PY:(Tryz.prog.info? 68).map (·.size)=N CS.size:=by rw[←a2];exact dX
      have e7:Hid (∀X,Below E.heap.size E X→∀k v,CS.toList[k]?=N v→X.cell? ((⟨b5,o5+jm*19,M⟩:Addr).add k)=N v):=fun X g k v hk=>by
       rw[Addr.add_lit];exact cell_keep (bt (bt L.out Fy.out (Nat.le_refl _)) g (Nat.le_refl _)) (bn k v (by simpa using hk))
      have tg:Hid (∀X,Below E.heap.size E X→Calls Tryz.prog 18 #[.agg CS,.agg #[U Y Q.fn,U Y Q.addr,U Y Q.aF,U Y Q.code,U Y Q.obj],U Y Z.value] X (br X z)):=fun X g=>by
       rw[←a2,CM];exact LD s' rv ov cT Q Z.value c8.out.1 c8.out.2 X (cp.ah (bt (bt L.out Fy.out (Nat.le_refl _)) g (Nat.le_refl _))) yo bZ.out
      have Zb:∀X,Below E.heap.size E X→X.cell? ⟨w.heap.size,16,M⟩=N (J (N ⟨b5,o5,M⟩) ln lc):=fun X g=>t16 X (bt Fy.out g (Nat.le_refl _))
      have jl:(jm:Int)<(ln:Int):=by omega
      have fU:(0:Int)≤(jm:Int):=Int.natCast_nonneg _;have fV:decide (jm<ln)=true:=decide_eq_true b6;obtain⟨BX,ee⟩:∃B,(z.ar !=0)=B:=⟨_,rfl⟩
      have gA:(v==2)=BX:=by
       rw[←ee,Vh];by_cases e:(s'.cC Q Z.value).ar=0
       ·rw [if_pos e,CM,e];rfl
       ·rw [if_neg e,CM]
        exact(bne_iff_ne.2 e).symm▸rfl
      have eb:Hid (∀X,Below E.heap.size E X→∀k u,(#[U Y z.fn,U Y z.ar,J da z.data.length dc,U Y z.code,U Y z.level,.bool z.more,U Y z.next,J oa z.ag.length oc]:Array Value).toList[k]?=N u→X.cell? ((⟨ob,1,M⟩:Addr).add k)=N u):=fun X g k u hk=>by
       rw[Addr.add_lit,hpCell (hpKeep bX.out g)];rcases k with _|_|_|_|_|_|_|_|k<;>cases hk<;>rfl
      have PA:Hid (∀X,Below E.heap.size E X→∀k u,(#[U Y Q.fn,U Y Q.addr,U Y Q.aF,U Y Q.code,U Y Q.obj]:Array Value).toList[k]?=N u→X.cell? ((⟨qb,0,M⟩:Addr).add k)=N u):=fun X g k u hk=>rowAtW (hpKeep fp.out g) k u hk
      clear cp bn a2 yo a4 Ef Qw;clear Hf Vh CM w0 Mw;have kD:Below E.heap.size E E.drew:=(Below.refl _ _).drew;go_upto_region 15 with(fail)
      refine wp_region_held_drew (S:=fun V=>Below E.heap.size E V) (by kernel_rfl) kD (fun hH=>?_);clear hH;refine tG 0 99 ?_;refine tG 1 100 ?_;refine tG 2 101 ?_;refine tG 3 102 ?_;refine tG 4 103 ?_;refine tG 5 104 ?_;refine tG 6 105 ?_;refine tkD 7 106 (v:=.agg #[U Y x0,U Y T]) rfl (by kernel_rfl) (fun _ _ _ h=>h) rfl (by rfl) (by assumption) (fun X g=>run_load_rowT 61 (.tmp 105) rfl ⟨b3,o3+t*2,M⟩ rfl #[U Y x0,U Y T] _ (QH.out X g) Tryz.underlying61 rfl uC) ?_;simp only[setS];refine tG 8 107 ?_;refine rdyH 9 rfl (fun K hK=>?_);go_simp;refine(fo.out _ kD).mono ?_;rintro r w15 ⟨mb,mc,rfl,cz,Kq⟩;have Km:=bt kD Kq (Nat.le_refl _);refine hK.out _ _ Km (fun hSx=>?_);clear hK K hSx;refine tG 10 14 ?_;refine wpAnyH_done (by kernel_rfl) ?_ _;have zm:∀X,Below w15.heap.size w15 X→X.cell? ⟨mb,0,M⟩=N (U Y (jm:Int)):=fun X g=>cell_keep g cz
      have HB15:=hid Km;clear cz Kq Km kD;go_upto_region 18 with(fail)
      have kD:Below w15.heap.size w15 w15.drew:=(Below.refl _ _).drew;have fs:Hid (∀X,Below w15.heap.size w15 X→∀j u,(#[J aa an ac,.bool lp,J ca cn cc]:Array Value).toList[j]?=N u→X.cell? ((⟨w.heap.size,17,M⟩:Addr).add j)=N u):=fun X g=>JD.out X (bt (bt Fy.out HB15.out (Nat.le_refl _)) g (Nat.le_refl _))
      obtain⟨AC,Xg⟩:∃A:Array Value,#[U Y Z.bf,U Y Z.fault,U Y Z.pos,U Y Z.mask,U Y Z.ai,U Y Z.value]=A:=⟨_,rfl⟩
      have hcs:AC.size=6:=by rw[←Xg];rfl
      have hi6:(Tryz.prog.info? 70).map (·.size)=N AC.size:=by rw[←Xg];exact Ys
      have h1c:AC.toList.all (·.oneCell')=true:=by rw[←Xg];rfl
      rw[Xg] at HATT;go_cut [15] from 112 to 117 (fun ej wc=>∃ab,ej=.pointer (N ⟨ab,0,M⟩)∧Hid (wc.heap[ab]?=N (G AC 70))∧Below w15.heap.size w15 wc)
      case first=>
       clear y0 Zb z0 z2 zm t0 t3 t4 t5 t16 t20;refine wp_region_held_drew (S:=fun V=>Below w15.heap.size w15 V) (by kernel_rfl) kD (fun hH=>?_);clear hH;refine tG 0 112 ?_;refine tkD 1 113 (v:=.agg #[J aa an ac,.bool lp,J ca cn cc]) rfl (by kernel_rfl) (fun _ _ _ h=>h) rfl (by rfl) (by assumption) (fun X g=>run_load_rowT 32 (.tmp 112) rfl ⟨w.heap.size,17,M⟩ rfl #[J aa an ac,.bool lp,J ca cn cc] _ (fs.out X g) Tryz.underlying32 rfl bu) ?_;simp only[setS];refine tG 2 114 ?_;refine wpAnyH_ready (rs:=[3,6]) (by kernel_rfl) (by simp) ?_;refine AllReadyH.cons rfl (fun K hK=>?_) (AllReadyH.cons rfl (fun K hK=>?_) AllReadyH.nil)
       ·go_simp
        refine(Mt.out _ (bt HB15.out kD (Nat.le_refl _))).mono ?_;rintro r wx ⟨rfl,rfl⟩;refine hK.out _ _ kD (fun hSx=>?_);clear hK K hSx;refine tG 4 116 ?_;refine wpAnyH_ready (rs:=[5,6]) (by kernel_rfl) (by simp) ?_;refine AllReadyH.cons rfl (fun K hK=>?_) (AllReadyH.cons rfl (fun K hK=>?_) AllReadyH.nil)
        ·go_simp
         refine(HATT.out _ (bt HB15.out kD (Nat.le_refl _))).mono ?_;rintro r y3 ⟨rfl,hy3⟩;have hB3:=bt kD hy3 (Nat.le_refl _);refine hK.out _ _ hB3 (fun hSx=>?_);clear hK K hSx;refine rdyH 6 rfl (fun K hK=>?_);go_simp;have hB4:Below w15.heap.size w15 (y3.alloc (G #[U Y 0,U Y 0,U Y 0,U Y 0,U Y 0,U Y 0] 70)):=bta hB3 (Nat.le_refl _) _;refine hK.out _ _ hB4 (fun hSx=>?_);clear hK K hSx;refine rdyH 7 rfl (fun K hK=>?_);refine step_storeW rfl 70 (.tmp 15) (.tmp 117) rfl y3.heap.size 0 _ 70 AC rfl rfl (hpNew y3 (G #[U Y 0,U Y 0,U Y 0,U Y 0,U Y 0,U Y 0] 70)) (by simp [hcs]) hi6 h1c ?_;intro y5 g5 hk5 hz5;have g9:y5.heap[y3.heap.size]?=N (G AC 70):=(by rw[g5,List.drop_eq_nil_of_le (by simp [hcs])];simp)
         have hB5:Below w15.heap.size w15 y5:=hB4.trans (hk5.below hB4.size (fun i hi e=>by have:=hB3.size;omega));refine hK.out _ _ hB5 (fun hSx=>?_);clear hK K hSx;refine wpAnyH_done (by kernel_rfl) ?_ _;go_wp2;go_meet
         case rel=>exact⟨_,rfl,g9,hB5⟩
        ·go_simp
         have hB4:Below w15.heap.size w15 (w15.alloc (G #[U Y 0,U Y 0,U Y 0,U Y 0,U Y 0,U Y 0] 70)).drew:=(bal' w15 _).drew;refine hK.out _ _ hB4 (fun hSx=>?_);clear hK K hSx;exact xax
       ·go_simp
        have hB4:Below w15.heap.size w15 (w15.alloc (G #[U Y 0,U Y 0,U Y 0,U Y 0,U Y 0,U Y 0] 70)).drew:=(bal' w15 _).drew;refine hK.out _ _ hB4 (fun hSx=>?_);clear hK K hSx;refine rdyH 3 rfl (fun K hK=>?_);go_simp;refine(Mt.out _ (bt HB15.out hB4 (Nat.le_refl _))).mono ?_;rintro r wx ⟨rfl,rfl⟩;refine hK.out _ _ hB4 (fun hSx=>?_);clear hK K hSx;refine tG 4 116 ?_;exact xax
      case rest=>
       obtain⟨ab,rfl,U1,bQ⟩:=hcut;obtain⟨JG,ff⟩:∃W,W=wc:=⟨_,rfl⟩
       subst ff;have Fo:Hid (Below E.heap.size E JG):=bt HB15.out bQ (Nat.le_refl _);have u0:∀X,Below JG.heap.size JG X→X.cell? ⟨ob,0,M⟩=N (U Y v):=fun X g=>z0 X (bt Fo.out g (Nat.le_refl _))
       have u2:∀X,Below JG.heap.size JG X→X.cell? ⟨ob,2,M⟩=N (U Y z.ar):=fun X g=>z2 X (bt Fo.out g (Nat.le_refl _))
       have u16:∀X,Below JG.heap.size JG X→X.cell? ⟨w.heap.size,16,M⟩=N (J (N ⟨b5,o5,M⟩) ln lc):=fun X g=>Zb X (bt Fo.out g (Nat.le_refl _))
       have um:∀X,Below JG.heap.size JG X→X.cell? ⟨mb,0,M⟩=N (U Y (jm:Int)):=fun X g=>zm X (bt bQ g (Nat.le_refl _))
       have u5:∀X,Below JG.heap.size JG X→X.cell? ⟨ab,5,M⟩=N (U Y Z.value):=fun X g=>(hpCell (hpKeep U1.out g) 5).trans (by rw[←Xg];rfl)
       have kE:Below JG.heap.size JG JG.drew:=(Below.refl _ _).drew;clear y0 Zb z0 z2 zm t0 t3 t4 t5 t16 t20 kD Xg hcs hi6 h1c bQ tn eF eK sK eA;go_upto_region 19 with(fail)
       refine wp_region_held_drew (S:=fun V=>Below JG.heap.size JG V) (by kernel_rfl) kE (fun hH=>?_);clear hH;refine tG 0 118 ?_;refine tkD 1 119 (v:=.agg #[U Y z.fn,U Y z.ar,J da z.data.length dc,U Y z.code,U Y z.level,.bool z.more,U Y z.next,J oa z.ag.length oc]) rfl (by kernel_rfl) (fun _ _ _ h=>h) rfl (by rfl) (by assumption) (fun X g=>run_load_rowT 53 (.tmp 118) rfl ⟨ob,1,M⟩ rfl #[U Y z.fn,U Y z.ar,J da z.data.length dc,U Y z.code,U Y z.level,.bool z.more,U Y z.next,J oa z.ag.length oc] _ (eb.out X (bt Fo.out g (Nat.le_refl _))) Tryz.underlying53 rfl Yy) ?_;simp only[setS];refine tG 2 120 ?_;refine tG 3 121 ?_;refine tG 4 122 ?_;refine tG 5 123 ?_;refine tG 6 124 ?_;refine tG 7 125 ?_;refine tkD 8 126 (v:=.agg CS) rfl (by kernel_rfl) (fun _ _ _ h=>h) rfl (by rfl) (by assumption) (fun X g=>bP 68 (.tmp 125) rfl ⟨b5,o5+jm*19,M⟩ rfl CS _ (e7.out X (bt Fo.out g (Nat.le_refl _))) Tryz.underlying68 rfl PY) ?_;simp only[setS];refine tkD 9 127 (v:=.agg #[U Y Q.fn,U Y Q.addr,U Y Q.aF,U Y Q.code,U Y Q.obj]) rfl (by kernel_rfl) (fun _ _ _ h=>h) rfl (by rfl) (by assumption) (fun X g=>run_load_rowT 45 (.tmp 9) rfl ⟨qb,0,M⟩ rfl #[U Y Q.fn,U Y Q.addr,U Y Q.aF,U Y Q.code,U Y Q.obj] _ (PA.out X (bt Fo.out g (Nat.le_refl _))) Tryz.underlying45 rfl infoRq5) ?_;simp only[setS];refine tG 10 128 ?_;refine tG 11 129 ?_;refine rdyH 12 rfl (fun K hK=>?_);go_simp;refine(tg.out _ (bt Fo.out kE (Nat.le_refl _))).mono ?_;rintro r bK ⟨fF,fG,fW,gb,rfl,fz,eR⟩;have b4:=bt kE eR (Nat.le_refl _);refine hK.out _ _ b4 (fun hSx=>?_);clear hK K hSx;have vc:=ZE.out bK (bt Fo.out b4 (Nat.le_refl _));have dq:=fz bK (ay.refl _ _);refine rdyH 13 rfl (fun K hK=>?_);go_simp;refine(TS z.fn z.ar _ z.code z.level z.more z.next _ z.data z.ag z.fn z.ar _ z.code z.level z.more z.next _ z.data z.ag bK vc.d vc.o dq.d dq.o true (Rp.zo _)).mono ?_;rintro r eQ ⟨rfl,e9⟩;have ds:=bt b4 e9 (Nat.le_refl _);refine hK.out _ _ ds (fun hSx=>?_);clear hK K hSx;refine tG 14 132 ?_;refine tG 15 133 ?_;refine tG 16 134 ?_;refine tG 17 135 ?_;refine tG 18 136 ?_;refine tG 19 137 ?_;refine tG 20 138 ?_;refine tG 21 139 ?_;refine tG 22 140 ?_;refine tG 23 141 ?_;refine tG 24 142 ?_;refine wpAnyH_done (by kernel_rfl) ?_ _;obtain⟨i2,q1,q2,q3,q4,q5,q6⟩:=ZL.out eQ (bt Fo.out ds (Nat.le_refl _));have s1:IntKind.i64.wrap ((i:Int)+1)=(i2:Int):=(IntWalk.i64_in _ (by omega)).trans q3;go_wp2;go_roundw
       case rel=>exact⟨i2,q1,q2,rfl,q5,q6⟩
       case measure=>simp [intOf];omega
    ·have d1:(v !=1)=true:=bne_iff_ne.2 (fun e=>Hf (.inl e))
     have d2:(v !=2)=true:=bne_iff_ne.2 (fun e=>Hf (.inr e));obtain⟨i2,q1,q2,q3,q4,q5,q6⟩:=ZL.out E (Below.refl _ _);have s1:IntKind.i64.wrap ((i:Int)+1)=(i2:Int):=(IntWalk.i64_in _ (by omega)).trans q3;clear Hf y0 z0 z2;go_wp2;go_roundw
     case rel=>exact⟨i2,q1,q2,rfl,q5,q6⟩
     case measure=>simp [intOf];omega
  ·by_cases h1:i<kn
   ·have g1:decide ((i:Int)<(kn:Int))=true:=decide_eq_true (by omega)
    have WY:(i:Int)<(kn:Int):=by omega
    have g2:decide ((i:Int)<8)=false:=decide_eq_false (by omega);have ZX:¬(i:Int)<8:=by omega
    clear h1 bc;go_wp2_with (go_at_call 13;(with_reducible refine(pJ _).mono ?_);rintro r wz ⟨rfl,Bz⟩);go_ret;exact⟨rfl,bt ao.out Bz (Nat.le_refl _)⟩
   ·have g1:decide ((i:Int)<(kn:Int))=false:=decide_eq_false (by omega)
    have WY:¬(i:Int)<(kn:Int):=by omega
    clear h1 bc;go_wp2_with (go_at_call 13;(with_reducible refine(pJ _).mono ?_);rintro r wz ⟨rfl,Bz⟩);go_ret;exact⟨rfl,bt ao.out Bz (Nat.le_refl _)⟩
