import Derived.Test.YtoaoejaodhedaaaGreatTA04
import Derived.Test.YtoaoejaodhedaaaGreatTA05
namespace Go.Proofs.YtoaoejaodhedaaaGreat
open Go.RowKit
open Value renaming slice→J,int→U
open Option renaming none→M,some→N
open IntKind renaming i64→Y
open Obj renaming cells→G
set_option maxHeartbeats 12800000
set_option maxRecDepth 100000
theorem xaP.Es {w:World} (cs:Array Value) (hr:Rd Tryz.prog w 35 cs.toList):
  Calls Tryz.prog 5 #[.agg cs] w fun r w'=>r=.returned (.bool true)∧Below w.heap.size w w':=by
 obtain⟨c,l,s,ks,sv,lv,av,cv,kv,rfl,hR,hL,hA,hC,R⟩:=TW hr;clear hr;obtain⟨n,hn⟩:=gE c.bj.length;obtain⟨ln,lN⟩:=gE l.length;obtain⟨an,oz⟩:=gE s.aC.length;obtain⟨cn,tO⟩:=gE s.cr.length;obtain⟨kn,OH⟩:=gE ks.length;obtain⟨lp,oU⟩:=gE s.loop;obtain⟨VV,PV⟩:=bU (p:=DX c l s);obtain⟨VB,F5⟩:=bU (p:=s.ok∧Ee s c.ti c.de);have HV:Hid (∀X,Below w.heap.size w X→Calls Tryz.prog 10 #[.agg (wS c sv lv av s.loop cv kv)] X (aj X VV)):=fun X b=>I3 c l s sv lv av cv kv X (hR.ah b) (hL.ah b) (hA.ah b) (hC.ah b) VV PV
 have DN:Hid (∀X,Below w.heap.size w X→Calls Tryz.prog 11 #[.agg #[av,.bool s.loop,cv],U Y c.ti,U Y c.de] X (aj X VB)):=fun X b=>TH s av cv c.ti c.de X (hA.ah b) (hC.ah b) VB F5
 obtain⟨sa,sc,yo,-⟩:=id hR;obtain⟨la,lc,qR⟩:=hL.KH;obtain⟨aa,ac,R9,-⟩:=id hA;obtain⟨ca,cc,Sn,-⟩:=id hC;obtain⟨ka,kc,OM,-⟩:=id R;rw[hn] at yo;rw[lN] at qR;rw[oz] at R9;rw[tO] at Sn;rw[OH] at OM;subst yo qR R9 Sn OM;rw[oU] at HV DN ⊢;obtain⟨re,yn⟩:=gE c.re;obtain⟨ti,AH⟩:=gE c.ti;obtain⟨de,xZ⟩:=gE c.de;obtain⟨C,rf⟩:=gE (yh c (J sa n sc));have hi:(Tryz.prog.info? 27).map (·.size)=N C.size:=by rw[←rf];exact sj
 obtain⟨D,hD⟩:=gE (wS c (J sa n sc) (J la ln lc) (J aa an ac) lp (J ca cn cc) (J ka kn kc));have Cw:(Tryz.prog.info? 35).map (·.size)=N D.size:=by rw[←hD];exact Nm
 rw[hD] at HV ⊢;obtain⟨o,bo,dE,pD⟩:=eY w (G D 35);have Up:Hid (∀X,Below o.heap.size o X→∀j u,C.toList[j]?=N u→X.cell? ((⟨w.heap.size,0,M⟩:Addr).add j)=N u):=fun X b j u F=>by
  rw[Addr.add_lit,Nat.zero_add,hpCell (hpKeep pD b),←hD];exact GU (by rw[rf];exact F)
 have JD:Hid (∀X,Below o.heap.size o X→∀j u,(#[J aa an ac,.bool lp,J ca cn cc]:Array Value).toList[j]?=N u→X.cell? ((⟨w.heap.size,17,M⟩:Addr).add j)=N u):=fun X b j u F=>by
  rw[Addr.add_lit,hpCell (hpKeep pD b),←hD];rcases j with _|_|_|j
  ·cases F;rfl
  ·cases F;rfl
  ·cases F;rfl
  ·cases F
 have t0:∀X,Below o.heap.size o X→X.cell? ⟨w.heap.size,0,M⟩=N (J sa n sc):=fun X b=>(hpCell (hpKeep pD b) 0).trans (by rw[←hD];rfl)
 have t3:∀X,Below o.heap.size o X→X.cell? ⟨w.heap.size,3,M⟩=N (U Y re):=fun X b=>(hpCell (hpKeep pD b) 3).trans (by rw[←hD,←yn];rfl)
 have t4:∀X,Below o.heap.size o X→X.cell? ⟨w.heap.size,4,M⟩=N (U Y ti):=fun X b=>(hpCell (hpKeep pD b) 4).trans (by rw[←hD,←AH];rfl)
 have t5:∀X,Below o.heap.size o X→X.cell? ⟨w.heap.size,5,M⟩=N (U Y de):=fun X b=>(hpCell (hpKeep pD b) 5).trans (by rw[←hD,←xZ];rfl)
 have t16:∀X,Below o.heap.size o X→X.cell? ⟨w.heap.size,16,M⟩=N (J la ln lc):=fun X b=>(hpCell (hpKeep pD b) 16).trans (by rw[←hD];rfl)
 have t20:∀X,Below o.heap.size o X→X.cell? ⟨w.heap.size,20,M⟩=N (J ka kn kc):=fun X b=>(hpCell (hpKeep pD b) 20).trans (by rw[←hD];rfl)
 have cy:Hid (∀X,Below o.heap.size o X→X.heap[w.heap.size]?=N (G D 35)):=fun X b=>hpKeep pD b
 rw[AH,xZ] at DN;have bn:=hid bo;have T:=hid dE;have Aj:=hid (And.intro hn (And.intro lN (And.intro oz (And.intro tO (And.intro OH oU)))));have V8:=hid yn;have gF:=hid (And.intro AH xZ);have Uo:=hid rf;have GW:=hid hD;have BM:=hid PV;have ZN:=hid F5;have HR:=hid hR;have HL:=hid hL;have HA:=hid hA;have HC:=hid hC;have HK:=hid R;obtain⟨VF,bx⟩:=bU (p:=qv s re.toNat);have VD:Hid (VV=true→∀X,Below w.heap.size w X→Calls Tryz.prog 12 #[.agg #[J aa an ac,.bool lp,J ca cn cc],U Y re] X (aj X VF)):=fun e X b=>by
  have hP:=PV.1 e;have hG:=Mr.of hP.2.1;have h0:=hG.rq;have h1:=hG.qS;have P5:re=(re.toNat:Int):=by rw[←yn];omega
  have h:=Pg s aa an ac lp (J ca cn cc) re.toNat (by omega) hP.2.2.2.2.2 oz oU X (hA.ah b) (hC.ah b);rw[←P5] at h;exact h.mono fun r w' ⟨B,e1,e2,e3⟩=>by
   have e:B=VF:=by
    cases B<;>cases VF
    ·rfl
    ·exact absurd (e2.out.2 (bx.1 rfl)) Bool.noConfusion
    ·exact absurd (bx.2 (e2.out.1 rfl)) Bool.noConfusion
    ·rfl
   subst e;exact⟨e1,e3⟩
 have fs:=hid bx;clear bx;clear hn lN oz tO OH oU PV F5 hR hL hA hC R yn AH xZ rf hD bo dE pD;have kW:Below o.heap.size o o:=Below.refl _ _;have bQ:=cy.out o kW;cases VV with
 |false=>
  go_enter Tryz.func5,Tryz.ntmps5;go_upto_region 1 with(fail)
  rw[bn.out];go_wp2_with (refine wpList_load_atH (by rfl) 35 (.tmp 1) rfl ⟨w.heap.size,0,M⟩ rfl D _ (rowAtW bQ) Tryz.underlying35 rfl Cw ?_);go_wp2_with (first|(go_at_call 10;(with_reducible refine(HV.out _ T.out).mono ?_);rintro r I ⟨rfl,Z⟩;have z1:=bt T.out Z (Nat.le_refl _);have c4:=t4 I Z;have c5:=t5 I Z)|(go_at_call 31;(with_reducible refine(fy _).mono ?_);rintro r wz ⟨rfl,Bz⟩));go_ret;exact⟨rfl,bt z1 Bz (Nat.le_refl _)⟩
 |true=>
 have ej:Hid (∀X,Below w.heap.size w X→Calls Tryz.prog 12 #[.agg #[J aa an ac,.bool lp,J ca cn cc],U Y re] X (aj X VF)):=VD.out rfl;clear VD;cases VB with
 |false=>
  go_enter Tryz.func5,Tryz.ntmps5;go_upto_region 1 with(fail)
  rw[bn.out];go_wp2_with (refine wpList_load_atH (by rfl) 35 (.tmp 1) rfl ⟨w.heap.size,0,M⟩ rfl D _ (rowAtW bQ) Tryz.underlying35 rfl Cw ?_);go_wp2_with (first|(go_at_call 10;(with_reducible refine(HV.out _ T.out).mono ?_);rintro r I ⟨rfl,Z⟩;have z1:=bt T.out Z (Nat.le_refl _);have c4:=t4 I Z;have c5:=t5 I Z)|(refine wpList_load_atH (by rfl) 32 (.tmp 19) rfl ⟨w.heap.size,17,M⟩ rfl #[J aa an ac,.bool lp,J ca cn cc] _ (JD.out _ Z) Tryz.underlying32 rfl bu ?_)|(go_at_call 11;(with_reducible refine(DN.out _ z1).mono ?_);rintro r x2 ⟨rfl,y2⟩;have z2:=bt z1 y2 (Nat.le_refl _);have k2:=bt Z y2 (Nat.le_refl _);have c3:=t3 x2 k2)|(go_at_call 31;(with_reducible refine(fy _).mono ?_);rintro r wz ⟨rfl,Bz⟩));go_ret;exact⟨rfl,bt z2 Bz (Nat.le_refl _)⟩
 |true=>
 cases VF with
 |false=>
  go_enter Tryz.func5,Tryz.ntmps5;go_upto_region 1 with(fail)
  rw[bn.out];go_wp2_with (refine wpList_load_atH (by rfl) 35 (.tmp 1) rfl ⟨w.heap.size,0,M⟩ rfl D _ (rowAtW bQ) Tryz.underlying35 rfl Cw ?_);go_wp2_with (first|(go_at_call 10;(with_reducible refine(HV.out _ T.out).mono ?_);rintro r I ⟨rfl,Z⟩;have z1:=bt T.out Z (Nat.le_refl _);have c4:=t4 I Z;have c5:=t5 I Z)|(refine wpList_load_atH (by rfl) 32 (.tmp 19) rfl ⟨w.heap.size,17,M⟩ rfl #[J aa an ac,.bool lp,J ca cn cc] _ (JD.out _ Z) Tryz.underlying32 rfl bu ?_)|(go_at_call 11;(with_reducible refine(DN.out _ z1).mono ?_);rintro r x2 ⟨rfl,y2⟩;have z2:=bt z1 y2 (Nat.le_refl _);have k2:=bt Z y2 (Nat.le_refl _);have c3:=t3 x2 k2)|(refine wpList_load_atH (by rfl) 32 (.tmp 31) rfl ⟨w.heap.size,17,M⟩ rfl #[J aa an ac,.bool lp,J ca cn cc] _ (JD.out _ k2) Tryz.underlying32 rfl bu ?_)|(go_at_call 12;(with_reducible refine(ej.out _ z2).mono ?_);rintro r x3 ⟨rfl,y3⟩;have z3:=bt z2 y3 (Nat.le_refl _);have k3:=bt k2 y3 (Nat.le_refl _))|(go_at_call 31;(with_reducible refine(fy _).mono ?_);rintro r wz ⟨rfl,Bz⟩));go_ret;exact⟨rfl,bt z3 Bz (Nat.le_refl _)⟩
 |true=>
 have e6:Hid (qv s re.toNat):=fs.out.1 rfl;have HP:Hid (DX c l s):=BM.out.1 rfl;have e4:Hid (Ee s c.ti c.de):=(ZN.out.1 rfl).2;have HG:Hid (Mr c):=Mr.of HP.out.2.1;have fm:Hid (∀X,Below w.heap.size w X→Calls Tryz.prog 24 #[J la ln lc,.agg #[J aa an ac,.bool lp,J ca cn cc]] X (jx X l lp s.aC)):=fun X b=>by
  have h:=sS l s la ln lc (J aa an ac) (J ca cn cc) X Aj.out.2.1 (HL.out.ah b) (HA.out.ah b) (HC.out.ah b) HP.out.2.2.2.1 HP.out.2.2.2.2.2;rw[Aj.out.2.2.2.2.2] at h;exact h
 have ff:Hid (∀X r X',jx X l lp s.aC r X'→∃g a c a2 c2,r=.returned (.tuple #[.pointer (N ⟨g,0,M⟩),U Y 0])∧cU (fun j=>j=g) X' g (J a l.length c) (J a2 s.aC.length c2) lp Ln.zero∧IA (fun j=>j=g) X' a l.length c a2 s.aC.length c2 l s.aC lp∧X.heap.size≤g∧Below X.heap.size X X'):=fun X r X' h=>
  h.at HP.out.2.2.2.1 HP.out.2.2.2.2.2.2.2.2.2 (fun e=>by
   have h2:=HP.out.2.2.2.2.2.2.1
   rw[Aj.out.2.2.2.2.2] at h2
   have:¬s.aC.length=0:=fun e2=>h2 ⟨e,e2⟩
   omega)
 have Qx:Hid (∀X g,Below w.heap.size w X→Calls Tryz.prog 25 #[.agg C,.pointer (N ⟨g,0,M⟩),U Y 0] X (FJ c (.pointer (N ⟨g,0,M⟩)) 0 X)):=fun X g b=>by
  rw[←Uo.out];exact CX c HP.out.2.1 _ g 0 (by decide) (by decide) X (HR.out.ah b)
 go_enter Tryz.func5,Tryz.ntmps5;go_upto_region 1 with(fail)
 rw[bn.out];go_wp2_with (refine wpList_load_atH (by rfl) 35 (.tmp 1) rfl ⟨w.heap.size,0,M⟩ rfl D _ (rowAtW bQ) Tryz.underlying35 rfl Cw ?_);go_upto_region 4 with(first
  |(go_at_call 10;(with_reducible refine(HV.out _ T.out).mono ?_);rintro r I ⟨rfl,Z⟩;have z1:=bt T.out Z (Nat.le_refl _);have c4:=t4 I Z;have c5:=t5 I Z)
  |(refine wpList_load_atH (by rfl) 32 (.tmp 19) rfl ⟨w.heap.size,17,M⟩ rfl #[J aa an ac,.bool lp,J ca cn cc] _ (JD.out _ Z) Tryz.underlying32 rfl bu ?_)
  |(go_at_call 11;(with_reducible refine(DN.out _ z1).mono ?_);rintro r x2 ⟨rfl,y2⟩;have z2:=bt z1 y2 (Nat.le_refl _);have k2:=bt Z y2 (Nat.le_refl _);have c3:=t3 x2 k2)
  |(refine wpList_load_atH (by rfl) 32 (.tmp 31) rfl ⟨w.heap.size,17,M⟩ rfl #[J aa an ac,.bool lp,J ca cn cc] _ (JD.out _ k2) Tryz.underlying32 rfl bu ?_)
  |(go_at_call 12;(with_reducible refine(ej.out _ z2).mono ?_);rintro r x3 ⟨rfl,y3⟩;have z3:=bt z2 y3 (Nat.le_refl _);have k3:=bt k2 y3 (Nat.le_refl _);have MI:=t16 _ k3)
  |(refine aZ rfl 32 (.tmp 43) rfl ⟨w.heap.size,17,M⟩ rfl #[J aa an ac,.bool lp,J ca cn cc] _ (JD.out _ k3) Tryz.underlying32 rfl bu ?_)
  |(go_at_call 24;(with_reducible refine(fm.out _ z3).mono ?_);rintro r w6 dN;obtain⟨gl,a6,c6,a7,c7,rfl,Iw,Z5,KM,cb⟩:=ff.out _ _ _ dN))
 have k6:=bt k3 cb (Nat.le_refl _);have z6:=bt z3 cb (Nat.le_refl _);have fU:=hid Iw;have e7:=hid Z5;have Uq:Hid (o.heap.size≤gl):=by have:=(k3).size;show _≤_;omega
 clear dN Iw Z5 KM;go_upto_region 5 with(first
  |(refine aZ rfl 27 (.tmp 49) rfl ⟨w.heap.size,0,M⟩ rfl C _ (Up.out _ k6) Tryz.underlying27 rfl hi ?_)
  |(go_at_call 25;(with_reducible refine(Qx.out _ gl z6).mono ?_);rintro r w8 ⟨gm,fG,rfl,XE,R1,Yh,MY⟩))
 have cx:=hid (nV.start (f:=⟨a6,l.length,c6,a7,s.aC.length,c7,lp,l,s.aC⟩) fU.out e7.out Ln.jE HP.out.2.1 XE R1 Yh MY (Tx.new 0 0 0 0 0) (Lk.new 0 0 0 0 0));have Zg:Hid (o.heap.size≤gm):=by have:=k6.size;show _≤_;omega
 have c8:Hid (nj gm gl (fun j=>j=gl∨j=gm) c fG ⟨a6,l.length,c6,a7,s.aC.length,c7,lp,l,s.aC⟩ ⟨Ln.zero,false,Tx.new 0 0 0 0 0,0,0⟩ 0 w8):=⟨0,0,_,_,_,cx.out,Nat.le_refl _⟩
 have cX:=hid (Nz c8.out rfl rfl (by decide) (by decide));have Zi:Hid (Below o.heap.size o w8):=bt k6 MY (Nat.le_refl _);clear XE R1 Yh MY cx;go_upto_region 8 with(go_at_call 22;(with_reducible refine cX.out.mono ?_);rintro r w9 ⟨Tt,rfl,bC,X7,db,dK⟩)
 have e9:Hid (Below o.heap.size o w9):=Zi.out.trans (dK.below Zi.out.size (fun j F e=>by
  have:=Uq.out
  have:=Zg.out
  rcases e with e|e<;>omega))
 have e8:Hid (Idle gm gl o.heap.size c l s 0 w9):=⟨_,_,_,_,db.le (by decide),⟨rfl,rfl,bC,bC,bC,by show Tt≤_;have h:Tt≤0+20000000:=X7;omega,Nat.zero_le _⟩,fun j F=>(by
  have h1:=Uq.out
  have h2:=Zg.out
  have h3:=Zi.out.size
  rcases F with(e|e)|e<;>omega),rfl,rfl,Aj.out.2.2.2.2.2.symm⟩
 clear bC X7 db dK c8 cX k6 z6 cb;go_wp2;go_loopw [7] (fun iv wr=>∃i:Nat,i≤6∧i≤kn∧iv=U Y (i:Int)∧Hid (Idle gm gl o.heap.size c l s i wr)∧Below o.heap.size o wr) (fun iv _=>6- (intOf iv).toNat)
 case atStart=>exact⟨0,Nat.zero_le _,Nat.zero_le _,rfl,e8.out,e9.out⟩
 case round=>
  obtain⟨i,gM,fW,rfl,Su,bA⟩:=hrel;have gQ:(0:Int)≤(i:Int):=Int.natCast_nonneg _;have bZ:=hid bA;have ec:=t20 wr bA;have ao:Hid (Below w.heap.size w wr):=bt T.out bA (Nat.le_refl _);by_cases cj:i<kn∧i<6
  ·obtain ⟨h1,h2⟩:=cj
   have g1:decide ((i:Int)<(kn:Int))=true:=decide_eq_true (by omega);have g2:decide ((i:Int)<6)=true:=decide_eq_true (by omega);have WY:(i:Int)<(kn:Int):=by omega
   have ZX:(i:Int)<6:=by omega
   obtain⟨x,hx⟩:=gs (l:=ks) Aj.out.2.2.2.2.1 h1;obtain⟨b2,o2,c2,OM,eb,cl⟩:=HK.out.row hx;rw[Aj.out.2.2.2.2.1] at OM;simp only[Value.slice.injEq,true_and] at OM;obtain⟨rfl,rfl⟩:=OM;obtain⟨A,Xl⟩:=gE x.C;rw[Xl] at cl;have fC:(Tryz.prog.info? 49).map (·.size)=N A.size:=by rw[←Xl];exact Ti
   have Wg:Hid (∀X,Below w.heap.size w X→Calls Tryz.prog 15 #[.agg D,.agg A] X (FQ X n (jY x.fn x.a (x.b%12)))):=fun X b=>by
    have h:=C6 c l (J sa n sc) (J la ln lc) (J aa an ac) (J ca cn cc) (J (N ⟨b2,o2,M⟩) kn kc) lp HG.out.ne HG.out.le HP.out.2.2.2.1 x eb X (HR.out.ah b) (HL.out.ah b);rw[GW.out,Xl,Aj.out.1] at h;exact h
   obtain⟨Q,hQ⟩:∃Q,jY x.fn x.a (x.b%12)=Q:=⟨_,rfl⟩
   rw[hQ] at Wg;have c9:Hid (∀X,Below wr.heap.size wr X→∀j u,A.toList[j]?=N u→X.cell? ((⟨b2,o2+i*6,M⟩:Addr).add j)=N u):=fun X b=>cl X (bt ao.out b (Nat.le_refl _))
   have kD:Below wr.heap.size wr wr.drew:=(Below.refl _ _).drew;have cD:Hid (∀X,Below wr.heap.size wr X→∀j u,D.toList[j]?=N u→X.cell? ((⟨w.heap.size,0,M⟩:Addr).add j)=N u):=fun X b j u F=>rowAtW (cy.out X (bt bZ.out b (Nat.le_refl _))) j u F
   have gz:∀X,Below wr.heap.size wr X→X.cell? ⟨w.heap.size,20,M⟩=N (J (N ⟨b2,o2,M⟩) kn kc):=fun X b=>t20 X (bt bZ.out b (Nat.le_refl _))
   have ft:=hid h1;clear hx eb cl Xl hQ h1 h2 fW;go_upto_region 11 with(fail)
   go_cut [8,9,10] from 78 to 88 (fun s8 s9 gU wc=>∃(t:Nat) (u:Int),s8=U Y (t:Int)∧s9=U Y u∧Hid (t<n∧1≤u∧u≤247)∧Below wr.heap.size wr wc)
   case first=>
    clear t0 t3 t4 t5 t16 t20 ec bA;refine wp_region_held_drew (S:=fun V=>Below wr.heap.size wr V) (by kernel_rfl) kD (fun hH=>?_);clear hH;refine tkD 0 79 (v:=.agg D) rfl (by kernel_rfl) (fun _ _ _ h=>h) rfl (by rfl) (by assumption) (fun X b=>bP 35 (.tmp 1) rfl ⟨w.heap.size,0,M⟩ rfl D _ (cD.out X b) Tryz.underlying35 rfl Cw) ?_;simp only[setS];refine tG 1 80 ?_;refine tG 2 81 ?_;refine tG 3 82 ?_;refine tG 4 83 ?_;refine tkD 5 84 (v:=.agg A) rfl (by kernel_rfl) (fun _ _ _ h=>h) rfl (by rfl) (by assumption) (fun X b=>run_load_rowT 49 (.tmp 83) rfl ⟨b2,o2+i*6,M⟩ rfl A _ (c9.out X b) Tryz.underlying49 rfl fC) ?_;simp only[setS];refine wpAnyH_ready (rs:=[6,11]) (by kernel_rfl) (by simp) ?_;refine AllReadyH.cons rfl (fun K R=>?_) (AllReadyH.cons rfl (fun K R=>?_) AllReadyH.nil)
    ·go_simp
     refine(Wg.out _ (bt ao.out kD (Nat.le_refl _))).mono ?_;rintro r y3 ⟨t,u,ht,hu,rfl,bK⟩;have ab:=bt kD bK (Nat.le_refl _);refine R.out _ _ ab (fun E=>?_);clear R K E;refine tG 7 78 ?_;refine tG 8 86 ?_;refine tG 9 87 ?_;refine tG 10 88 ?_;refine rdyH 11 rfl (fun K R=>?_);go_simp;have ad:Below wr.heap.size wr (y3.alloc (G #[U Y 0,U Y 0,U Y 0,U Y 0,U Y 0] 45)):=bta ab (Nat.le_refl _) _;refine R.out _ _ ad (fun E=>?_);clear R K E;refine tG 12 8 ?_;refine tG 13 9 ?_;refine rdyH 14 rfl (fun K R=>?_);refine step_storeW rfl 45 (.tmp 10) (.tmp 88) rfl y3.heap.size 0 _ 45 #[U Y Q.fn,U Y Q.addr,U Y Q.aF,U Y Q.code,U Y Q.obj] rfl rfl (hpNew y3 (G #[U Y 0,U Y 0,U Y 0,U Y 0,U Y 0] 45)) (by simp) infoRq5 rfl ?_;intro y5 g5 cg fF;have aX:Below wr.heap.size wr y5:=ad.trans (cg.below ad.size (fun i hi e=>by have:=ab.size;omega));refine R.out _ _ aX (fun E=>?_);clear R K E;refine wpAnyH_done (by kernel_rfl) ?_ _;go_wp2;go_meet
     case rel=>exact⟨t,u,rfl,rfl,⟨ht,hu⟩,aX⟩
    ·go_simp
     have ad:Below wr.heap.size wr (wr.alloc (G #[U Y 0,U Y 0,U Y 0,U Y 0,U Y 0] 45)).drew:=(bal' wr _).drew;refine R.out _ _ ad (fun E=>?_);clear R K E;refine rdyH 6 rfl (fun K R=>?_);go_simp;refine(Wg.out _ (bt ao.out ad (Nat.le_refl _))).mono ?_;rintro r y3 ⟨t,u,ht,hu,rfl,bK⟩;have ab:=bt ad bK (Nat.le_refl _);have p3:y3.heap[wr.heap.size]?=N (G #[U Y 0,U Y 0,U Y 0,U Y 0,U Y 0] 45):=hpKeep (w:=(wr.alloc (G #[U Y 0,U Y 0,U Y 0,U Y 0,U Y 0] 45)).drew) (hpNew wr _) bK;refine R.out _ _ ab (fun E=>?_);clear R K E;refine tG 7 78 ?_;refine tG 8 86 ?_;refine tG 9 87 ?_;refine tG 10 88 ?_;refine tG 12 8 ?_;refine tG 13 9 ?_;refine rdyH 14 rfl (fun K R=>?_);refine step_storeW rfl 45 (.tmp 10) (.tmp 88) rfl wr.heap.size 0 _ 45 #[U Y Q.fn,U Y Q.addr,U Y Q.aF,U Y Q.code,U Y Q.obj] rfl rfl p3 (by simp) infoRq5 rfl ?_;intro y5 g5 cg fF;have aX:Below wr.heap.size wr y5:=ab.trans (cg.below ab.size (fun i hi e=>by have e':i=wr.heap.size:=e;omega));refine R.out _ _ aX (fun E=>?_);clear R K E;refine wpAnyH_done (by kernel_rfl) ?_ _;go_wp2;go_meet
     case rel=>exact⟨t,u,rfl,rfl,⟨ht,hu⟩,aX⟩
   case rest=>
    obtain⟨t,u,rfl,rfl,S2,yM⟩:=hcut;obtain⟨WA,RX⟩:∃W,W=wc:=⟨_,rfl⟩
    subst RX;obtain⟨P,Vo,f,y,dq,pY,dz,cd,Hq,cf⟩:=Su.out;obtain⟨⟨x0,I⟩,Vd⟩:=gs (l:=c.bj) Aj.out.1 S2.out.1;have dt:aU x0 I:=HG.out.set _ (List.mem_of_getElem? Vd);have b8:=dq.bW yM;have vj:=pY.n1;have ei:Hid (∀X,Below WA.heap.size WA X→Calls Tryz.prog 26 #[.pointer (N ⟨gm,0,M⟩),U Y (t:Int),U Y u,.agg #[U Y 3,U Y 0,U Y 1,U Y 0,U Y 0]] X (Kd gm gl P c Vo f ⟨y.n,true,(Tx.new x0 I c.re c.ti c.de).begun u qPr y.now,t,y.now⟩ 1 X)):=fun X b=>IU (b8.bW b) pY.fin t x0 I Vd u qPr S2.out.2 TG pY.n0 (by omega)
    obtain⟨L,Cd⟩:=gE (xbB c l s x0 I u qPr y.n.aA);have fL:Hid L.ok:=by rw[←Cd];exact Nv HG.out HP.out.2.2.2.1 HP.out.2.2.2.2.2 e4.out dt S2.out.2 TG
    have CO:L.re=re:=by rw[←Cd];exact V8.out
    have nF:Hid (L.s0.length≤6*i∧y.now≤20000000+90000000*i):=⟨by rw[←Cd];exact pY.sn,pY.n1⟩
    have yC:Hid (L.re=re∧0≤re∧re≤5):=⟨CO,by rw[←V8.out];exact HG.out.rq,by rw[←V8.out];exact HG.out.qS⟩
    have vf:=hid (xar fL.out (by have:=nF.out.1;omega) y.now (by have:=nF.out.2;omega) (by rw[CO];exact yC.out.2.2));have rA:Hid (Ft L 0 y.now ⟨y.n,(Tx.new x0 I c.re c.ti c.de).begun u qPr y.now⟩):=by
     have h:=Ft.start (sc:=L) pY (by rw[←Cd];rfl) (by rw[CO];exact yC.out.2.1);rw[←Cd] at h ⊢;exact h
    have fo:Hid (c.bj[t]?=N (L.bd,L.pa)):=by rw[←Cd];exact Vd
    have Oe:Hid (f.l=L.l∧f.aC=L.aC∧f.lp=L.lp):=by rw[←Cd];exact⟨cd,Hq,cf⟩
    have e5:=hid (And.intro cd (And.intro Hq cf));have Ak:Hid (∀ms:List Nat,ms=bF l x0 I u l.length→ms=L.ms):=fun ms e=>by rw[e,←Cd];rfl
    have QI:Hid (bT x0∧bT I):=by have:=dt.bd;have:=dt.lo;have:=dt.hi;show bT _∧bT _;unfold bT;omega
    have gA:=hid b8;have eF:=hid dz;have cV:=S2;have a9:Hid (Below o.heap.size o WA):=bt bZ.out yM (Nat.le_refl _);have fO:=hid Vd;have fV:Hid (∃j:Nat,(j:Int)≤L.re∧NA (L.at_ j)):=by
     obtain⟨j,F,hu⟩:=e6.out.any y.n.aA.length;refine⟨j,?_,?_⟩
     ·have h1:=yC.out
      rw[h1.1];omega
     ·rw [←Cd]
      exact hu
    clear dq pY dz cd Hq cf Vd dt b8 vj Cd CO S2 yM Su ec kD gz cD c9 Wg;go_upto_region 14 with(first
     |(go_at_call 32;(with_reducible refine(lX _).mono ?_);rintro r wb ⟨rfl,aY⟩)
     |(go_at_call 26;(with_reducible refine(ei.out _ aY).mono ?_);rintro r Pq ⟨rfl,dk,dM⟩))
    have bc:Hid (∀j,ax P wb Pq j→o.heap.size≤j):=fun j F=>by
     have h1:=a9.out.size;have h2:=aY.size;rcases F with e|e
     ·exact eF.out j e
     ·omega
    have ak:=hid dk;have cw:Hid (Below o.heap.size o Pq):=(a9.out.trans (aY.mono a9.out.size)).trans (dM.below (by have:=a9.out.size;have:=aY.size;omega) (fun j F e=>by have:=eF.out j e;omega));obtain⟨P9,ds⟩:=gE (ax P wb Pq);rw[ds] at bc ak;obtain⟨Q7,RV⟩:∃W,Pq.alloc (G #[U Y 0,U Y 0,U Y 0,J none 0 0,U Y 0,U Y 0,.bool false,U Y 0,J none 0 0] 55)=W:=⟨_,rfl⟩
    have Sb:Below Pq.heap.size Pq Q7:=by rw[←RV];exact bal' Pq _
    obtain⟨ob,BB⟩:=gE Pq.heap.size;have pO:Q7.heap[ob]?=N (G #[U Y 0,U Y 0,U Y 0,J none 0 0,U Y 0,U Y 0,.bool false,U Y 0,J none 0 0] 55):=by rw[←RV,←BB];exact hpNew Pq _
    have eQ:=hid RV;have et:=hid BB;have cp:Hid (nj gm gl P9 c Vo f (QQ ⟨y.n,(Tx.new x0 I c.re c.ti c.de).begun u qPr y.now⟩ t) 1 Q7):=ak.out.bW Sb;have ba:Hid (∀W,¬ax P9 Q7 W ob):=fun W e=>by
     have hz:Q7.heap.size=ob+1:=by rw[←RV,←BB];simp
     rcases e with e|e
     ·have:=ak.out.AR _ e
      omega
     ·omega
    have VI:Hid (InS gm gl ob P9 c Vo f t L y.now Pq Q7 0 false Q7):=
     ⟨_,1,cp.out.base cp.out (Keeps.refl _ _) (fun j F=>.inl F),⟨Keeps.af Sb,Nat.le_refl _⟩,by decide,fun _=>rA.out,fun e=>(by cases e),⟨0,_,_,_,_,_,_,_,_,pO,fun e=>(by cases e)⟩⟩
    have VK:Hid (Below o.heap.size o Q7):=bt cw.out Sb (Nat.le_refl _);have eA:Hid (o.heap.size≤ob∧Pq.heap.size≤ob):=by have:=cw.out.size;show _∧_;omega
    have Sf:=hid Sb;clear ei aY dk dM ds RV Sb BB pO;go_upto_region 15 with(fail)
    rw[eQ.out,et.out];clear eQ et;go_wp2;go_loopw [12,13] (fun mv dv wi=>∃(m:Nat) (Dn:Bool),m≤7∧mv=U Y (m:Int)∧dv=.bool Dn∧Hid (InS gm gl ob P9 c Vo f t L y.now Pq Q7 m Dn wi)∧Below o.heap.size o wi) (fun mv _ _=>8- (intOf mv).toNat)
    case atStart=>exact⟨0,false,by decide,rfl,rfl,VI.out,VK.out⟩
    case round=>
     clear VI rA;obtain⟨m,Dn,dR,rfl,rfl,Sv,DA⟩:=hrel;have Gj:(0:Int)≤(m:Int):=Int.natCast_nonneg _;obtain⟨d,kk,Z6,OF,nr,hW,b7,v,a1,a2,a3,a4,a5,b5,b6,a8,dV,Vh⟩:=Sv.out;have gB:=hid Z6;have b4:=hid OF;have Og:=hid nr;have cz:=hid dV;have Vt:=hid DA;cases Dn with
     |false=>
      have QL:=hid (hW rfl);have hle:=vf.out.le QL.out;rw[yC.out.1] at hle;have q1:decide (re<(m:Int))=false:=decide_eq_false (by omega);have gR:¬re<(m:Int):=by omega
      have fD:m≤5:=by have:=yC.out;omega
      have x3:=t3 wr DA;have cT:=hid (Ny vf.out Z6 QL.out fo.out Oe.out (by omega));obtain⟨V,hV⟩:∃V,decide ((L.go d).x.ph=5)=V:=⟨_,rfl⟩
      obtain⟨O,hO⟩:=gE ((L.go d).x.shown);have bm:=hid hV;have HO:=hid hO;have JY:=hid fD;clear Sv Z6 OF nr hW b7 Vh dV DA hV hO hle dR;go_upto_region 20 with(go_at_call 27;(with_reducible refine cT.out.mono ?_);rintro r Qb ⟨rfl,RS,Cx⟩)
      have eK:=hid (nj.xaq ak.out Sf.out.size b4.out.2 b4.out.1 RS Cx);have ee:Hid (Q7.heap.size≤Qb.heap.size):=Nat.le_trans b4.out.2 Cx.size;have yu:=hid (Fh vf.out eK.out.1 QL.out (by have:=Og.out;have:=JY.out;omega) V bm.out);have gq:=hid (hpKeeps cz.out Cx (ba.out _));have sV:Hid (Below o.heap.size o Qb):=Vt.out.trans (Cx.below Vt.out.size (fun j F e=>by
       rcases e with e|e
       ·have:=bc.out j e;omega
       ·have:=VK.out.size;omega))
      clear RS Cx cT;go_wp2_with (first
       |(go_at_call 23;(with_reducible refine yu.out.mono ?_);rintro r n6 ⟨da,dc,oa,oc,rfl,xg,gj,IC⟩;rw[HO.out];have gy:=hpKeeps gq.out IC (ba.out _))
       |(refine wpList_storeW rfl 55 (.tmp 11) (.tmp 112) rfl ob 0 _ 55 #[U Y O.verdict,U Y O.ae.fn,U Y O.ae.ar,J da O.ae.data.length dc,U Y O.ae.code,U Y O.ae.level,.bool O.ae.more,U Y O.ae.next,J oa O.ae.ag.length oc] rfl rfl gy (by simp) rY rfl ?_;intro bX fv eR gu))
      have eV:=nj.xaq ak.out Sf.out.size ee.out eK.out.2 gj IC;have eX:=nj.T8 ak.out Sf.out.size eV.1 eV.2 eA.out.2 (ba.out _) eR gu;have gb:bX.heap[ob]?=N (G #[U Y O.verdict,U Y O.ae.fn,U Y O.ae.ar,J da O.ae.data.length dc,U Y O.ae.code,U Y O.ae.level,.bool O.ae.more,U Y O.ae.next,J oa O.ae.ag.length oc] 55):=fv;have gp:Hid (InS gm gl ob P9 c Vo f t L y.now Pq Q7 (m+1) V bX):=by
       refine⟨L.go d,kk+1+100000000,eX.1,⟨eX.2,by have:=ee.out;have:=IC.size;omega⟩,by have:=Og.out;omega,fun e=>?_,fun e=>?_,⟨_,_,_,_,_,_,_,_,_,gb,fun e=>?_⟩⟩
       ·rcases vf.out.next QL.out with h|h
        ·exact h
        ·have h5:=vf.out.ph5 h
         have:=bm.out;rw[decide_eq_true h5,e] at this;cases this
       ·rcases vf.out.next QL.out with h|h
        ·have h5:=vf.out.zl h
         have:=bm.out;rw[decide_eq_false (by rw[h5];decide),e] at this;cases this
        ·exact h
       ·rw [←HO.out]
        have h5:(L.go d).x.ph=5:=of_decide_eq_true (bm.out.trans e);unfold Tx.shown;rw[if_pos h5]
      have gk:Below o.heap.size o bX:=(sV.out.trans (IC.below sV.out.size (fun j F e=>by
       rcases e with e|e
       ·have:=bc.out j e;omega
       ·have:=VK.out.size;omega))).trans (eR.below (by have:=sV.out.size;have:=IC.size;omega) (fun j F e=>by have e':j=ob:=e;have:=eA.out;omega))
      go_roundw
      case rel=>exact⟨m+1,V,by have:=JY.out;omega,by go_num,rfl,gp.out,gk⟩
      case measure=>simp [intOf];omega
     |true=>
      have ct:=hid (b7 rfl);have DC:=Vh rfl;have fp:=hid DC;have gn:Hid (∀X,Below wr.heap.size wr X→Idle gm gl o.heap.size c l s (i+1) X):=fun X b=>
       ⟨_,_,_,_,(Z6.le (by omega)).bW b,ct.out.rest (by rw[yC.out.1];exact yC.out.2.2) nF.out.2 nF.out.1 t,fun j F=>(by
        rcases F with e|e
        ·exact bc.out j e
        ·have:=VK.out.size;omega),e5.out⟩
      obtain⟨b3,o3,c3,Gw,-,-,iy⟩:=HR.out.at fO.out;rw[Aj.out.1] at Gw;simp only[Value.slice.injEq,true_and] at Gw;obtain⟨rfl,rfl⟩:=Gw;have QH:Hid (∀X,Below wr.heap.size wr X→∀j u,(#[U Y x0,U Y I]:Array Value).toList[j]?=N u→X.cell? ((⟨b3,o3+t*2,M⟩:Addr).add j)=N u):=fun X b j u F=>by
       obtain⟨e0,e1⟩:=iy X (bt (bt T.out Vt.out (Nat.le_refl _)) b (Nat.le_refl _));rw[Addr.add_lit];rcases j with _|_|j
       ·cases F;exact e0
       ·cases F;exact e1
       ·cases F
      obtain⟨ml,Ec⟩:=gE L.ms.length;have VQ:Hid (∀X,Below wr.heap.size wr X→Calls Tryz.prog 17 #[J la ln lc,.agg #[U Y x0,U Y I],U Y u] X fun r w'=>∃a c,r=.returned (J a ml c)∧Below X.heap.size X w'):=fun X b=>(sL la lc l ln X Aj.out.2.1 (by have:=HP.out.2.2.2.1.1;have:=Aj.out.2.1;omega) (HL.out.ah (bt (bt T.out Vt.out (Nat.le_refl _)) b (Nat.le_refl _))) x0 I u QI.out.1 QI.out.2).mono fun r w' h=>by
       obtain⟨a,c,h1,-,h3⟩:=h;rw[Ak.out (bF l x0 I u ln) (by rw[Aj.out.2.1]),Ec] at h1;exact⟨a,c,h1,h3⟩
      have Jw:=hid Ec;have y0:∀X,Below wr.heap.size wr X→X.cell? ⟨w.heap.size,0,M⟩=N (J (N ⟨b3,o3,M⟩) n sc):=fun X b=>t0 X (bt Vt.out b (Nat.le_refl _))
      have Zb:∀X,Below wr.heap.size wr X→X.cell? ⟨w.heap.size,16,M⟩=N (J la ln lc):=fun X b=>t16 X (bt Vt.out b (Nat.le_refl _))
      have tn:(t:Int)<(n:Int):=by have:=cV.out.1;omega
      have gX:(0:Int)≤(t:Int):=Int.natCast_nonneg _;have gZ:decide (t<n)=true:=decide_eq_true cV.out.1;clear Sv Z6 OF nr hW b7 Vh DC DA dR iy t0 t3 t4 t5 t16 t20 cp ba vf Ec;have JM:=ct.out.fair fV.out;rw[←fp.out] at JM;have kD:Below wr.heap.size wr wr.drew:=(Below.refl _ _).drew;obtain⟨z,ea,fz⟩:∃z,jD v=z∧((ml=0∧z=1)∨(ml=1∧z=2)∨(((ml:Int)==0)=false∧((ml:Int)==1)=false∧z=3)):=by
       obtain⟨e0,e2,e1⟩:=JM;by_cases m0:L.ms=[]
       ·exact ⟨_,rfl,.inl ⟨by rw[←Jw.out,m0];rfl,by rw[e0 m0];rfl⟩⟩
       ·by_cases m2:1<L.ms.length
        ·exact ⟨_,rfl,.inr (.inr ⟨by rw[←Jw.out];exact b0 (by omega),by rw[←Jw.out];exact beq_eq_false_iff_ne.2 (by omega),by rw[e2 m2];rfl⟩)⟩
        ·exact ⟨_,rfl,.inr (.inl ⟨by rw[←Jw.out];exact YN m0 m2,T7 (e1 m0 m2)⟩)⟩
      have vY:Hid (∀X,Calls Tryz.prog 33 #[.agg #[U Y v,a1,a2,a3,a4,a5,b5,b6,a8]] X fun r w'=>r=.returned (U Y z)∧Below X.heap.size X w'):=fun X=>(rV v a1 a2 a3 a4 a5 b5 b6 a8 X).mono fun r w' h=>⟨by rw[h.1,ea],h.2⟩
      clear ea JM;rcases fz with⟨rfl,rfl⟩|⟨rfl,rfl⟩|⟨h0,h1,rfl⟩<;>
      ·go_upto_region 22 with(fail)
       refine wp_region_held_drew (S:=fun V=>Below wr.heap.size wr V) (by kernel_rfl) kD (fun hH=>?_);clear hH;refine tG 0 114 ?_;refine tG 1 115 ?_;refine tG 2 116 ?_;refine tG 3 117 ?_;refine tG 4 118 ?_;refine tG 5 119 ?_;refine tG 6 120 ?_;refine tkD 7 121 (v:=.agg #[U Y x0,U Y I]) rfl (by kernel_rfl) (fun _ _ _ h=>h) rfl (by rfl) (by assumption) (fun X b=>run_load_rowT 61 (.tmp 120) rfl ⟨b3,o3+t*2,M⟩ rfl #[U Y x0,U Y I] _ (QH.out X b) Tryz.underlying61 rfl uC) ?_;simp only[setS];refine tG 8 122 ?_;refine rdyH 9 rfl (fun K R=>?_);go_simp;refine(VQ.out _ kD).mono ?_;rintro r g0 ⟨ma,mc,rfl,Kq⟩;have Km:=bt kD Kq (Nat.le_refl _);refine R.out _ _ Km (fun E=>?_);clear R K E;refine tG 10 124 ?_;refine wpAnyH_done (by kernel_rfl) ?_ _;have fE:=hpKeep cz.out Km;clear Kq;go_wp2_with (first
        |(refine wpList_load_row rfl 55 (.tmp 11) rfl ob rfl 55 #[U Y v,a1,a2,a3,a4,a5,b5,b6,a8] (0,0) _ fE Tryz.underlying55 rfl rY ?_)
        |(go_at_call 33;(with_reducible refine(vY.out _).mono ?_);rintro r bX ⟨rfl,Xt⟩))
       have ef:=bt Km Xt (Nat.le_refl _);go_roundw
       case rel=>exact⟨i+1,by omega,by have:=ft.out;omega,by go_num,gn.out _ ef,bt Vt.out ef (Nat.le_refl _)⟩
       case measure=>simp [intOf];omega
  ·by_cases h1:i<kn
   ·have g1:decide ((i:Int)<(kn:Int))=true:=decide_eq_true (by omega)
    have WY:(i:Int)<(kn:Int):=by omega
    have g2:decide ((i:Int)<6)=false:=decide_eq_false (by omega);have ZX:¬(i:Int)<6:=by omega
    clear h1 cj;go_wp2_with (go_at_call 31;(with_reducible refine(fy _).mono ?_);rintro r wz ⟨rfl,Bz⟩);go_ret;exact⟨rfl,bt ao.out Bz (Nat.le_refl _)⟩
   ·have g1:decide ((i:Int)<(kn:Int))=false:=decide_eq_false (by omega)
    have WY:¬(i:Int)<(kn:Int):=by omega
    clear h1 cj;go_wp2_with (go_at_call 31;(with_reducible refine(fy _).mono ?_);rintro r wz ⟨rfl,Bz⟩);go_ret;exact⟨rfl,bt ao.out Bz (Nat.le_refl _)⟩
