import Derived.Test.YtoaoejaodhedaaaGreatV12
namespace Go.Proofs.YtoaoejaodhedaaaGreat
open Go.RowKit
open Value renaming slice→J,int→Y
open Option renaming none→M,some→U
open IntKind renaming i64→H
open Obj renaming cells→I
set_option maxHeartbeats 12800000
set_option maxRecDepth 100000
variable {y:Du} {B t0:Int} {N g m p0:Nat} {c sc:Sc} {av sv v:Value} {w:World}
theorem SF (sv:Value):yh EM sv=#[sv,Y H 1,Y H 2,Y H 1,Y H 1000,Y H 0,Y H 0,Y H 0,Y H 0,Y H 0,Y H 100,Y H 8,Y H 0,Y H 0,Y H 1,Y H 10000]:=rfl
theorem CF (w:World):Calls Tryz.prog 51 #[] w fun r w'=>∃sv,r=.returned (.agg (yh EM sv))∧(∀X,ay w.heap.size w' X→dw X sv EM.bj)∧Below w.heap.size w w':=by
 obtain⟨W0,p⟩:∃W,w.alloc (I #[J none 0 0,Y H 0,Y H 0,Y H 0,Y H 0,Y H 0,Y H 0,Y H 0,Y H 0,Y H 0,Y H 0,Y H 0,Y H 0,Y H 0,Y H 0,Y H 0] 27)=W:=⟨_,rfl⟩
 have S:Below w.heap.size w W0:=by rw[←p];exact bal' w _
 have o:W0.heap.size=w.heap.size+1:=by rw[←p];simp
 have p0:W0.heap[w.heap.size]?=U (I #[J none 0 0,Y H 0,Y H 0,Y H 0,Y H 0,Y H 0,Y H 0,Y H 0,Y H 0,Y H 0,Y H 0,Y H 0,Y H 0,Y H 0,Y H 0,Y H 0] 27):=by rw[←p];exact hpNew w _
 obtain⟨G,K,q,Z⟩:=eY W0 (I #[Y H 9600,Y H 1] 61);have A:=hid p;have D:=hid K;have t:=hid S;have u:=hid q;have Q:=hid o;have b:G.heap.size=w.heap.size+2:=by rw[←K];simp [o]
 have F:=hid b;clear p K S q o b;go_enter Tryz.func51,Tryz.ntmps51;go_upto_region 1 with(fail)
 rw[A.out];go_upto_region 3 with(fail)
 rw[D.out];obtain⟨W2,V,l,P⟩:=eY G (I #[J (U ⟨W0.heap.size,0,M⟩) 1 1,Y H 1,Y H 2,Y H 1,Y H 1000,Y H 0,Y H 0,Y H 0,Y H 0,Y H 0,Y H 100,Y H 8,Y H 0,Y H 0,Y H 1,Y H 10000] 27);rw[V];have b:G.heap.size=W0.heap.size+1:=by have:=F.out;have:=Q.out;omega
 rw[b] at P;obtain⟨d,a⟩:∃C,(#[J (U ⟨W0.heap.size,0,M⟩) 1 1,Y H 1,Y H 2,Y H 1,Y H 1000,Y H 0,Y H 0,Y H 0,Y H 0,Y H 0,Y H 100,Y H 8,Y H 0,Y H 0,Y H 1,Y H 10000]:Array Value)=C:=⟨_,rfl⟩
 have k:d.size=16:=by rw[←a];rfl
 have i:(Tryz.prog.info? 27).map (·.size)=U d.size:=by rw[k];kernel_rfl
 have O:d.toList.all (·.oneCell')=true:=by rw[←a];rfl
 rw[a] at P;have f:=bt u.out l (Nat.le_refl _);have Lu:=hpKeep p0 f;have CO:=hid (hpKeep Z l);have z:=hid a;have nk:=hid f;have R:=hid k;clear V b a f l Z p0 k;go_wp2_with (first
  |(refine wpList_load_row rfl 27 (.tmp 1) rfl (W0.heap.size+1) rfl 27 d (0,0) _ P Tryz.underlying27 rfl i ?_)
  |(refine wpList_storeW rfl 27 (.tmp 0) (.tmp 8) rfl w.heap.size 0 _ 27 d rfl rfl Lu (by simp [R.out]) i O ?_;intro w9 g9 s ab))
 have L:w9.heap[w.heap.size]?=U (I d 27):=by rw[g9,List.drop_eq_nil_of_le (by simp [R.out])];simp
 refine bodyPost_ret (results_cell_row rfl _ _ w.heap.size 27 d (0,0) _ rfl L Tryz.underlying27 rfl i) rfl ?_;have T:=nk.out;have hz:=Q.out;refine⟨J (U ⟨W0.heap.size,0,M⟩) 1 1,by rw[SF,z.out],fun X hX=>?_,(t.out.trans (T.mono (by omega))).trans (s.below (by have:=T.size;omega) (fun j hj e=>by omega))⟩;have p9:w9.heap[W0.heap.size]?=U (I #[Y H 9600,Y H 1] 61):=hpKeeps CO.out s (fun e=>by omega);have pX:X.heap[W0.heap.size]?=U (I #[Y H 9600,Y H 1] 61):=by rw[hX.block _ (by omega) (hpLt p9)];exact p9
 refine gY.iq (base:=0) (E:=61) (n:=1) (cs:=cO EM.bj) ⟨rfl,.inr ⟨W0.heap.size,1,#[Y H 9600,Y H 1],rfl,Nat.zero_le _,pX,Nat.le_refl _,by decide,rfl,rfl⟩⟩ (mq EM.bj (fun x hx=>?_)) rfl;rw[List.mem_singleton.1 hx];exact⟨by unfold bT;decide,by unfold bT;decide⟩
theorem SM:aU 9600 1:=⟨by decide,by decide,by decide⟩
theorem Pg:qC.val:=by
 have a:¬(0:Int)<qC.lv:=by decide
 refine⟨SM,by decide,by decide,fun k b=>?_,fun _=>rfl,by decide,by decide,fun e=>absurd e a,fun e=>absurd e a,fun e=>absurd e a,fun e=>absurd e a,fun e=>absurd e a⟩;rcases (show k=0∨k=1∨k=2∨k=3 by omega) with rfl|rfl|rfl|rfl
 ·exact ⟨fun _=>⟨rfl,rfl⟩,fun e=>(by cases e)⟩
 ·exact ⟨fun _=>⟨rfl,rfl⟩,fun e=>(by cases e)⟩
 ·exact ⟨fun e=>(by cases e),fun _=>⟨by decide,by decide,by decide,by decide⟩⟩
 ·exact ⟨fun _=>⟨rfl,rfl⟩,fun e=>(by cases e)⟩
theorem Vu:cW [qC]:=⟨by decide,fun s hs=>by
 have:s=qC:=by simpa using hs
 subst this
 exact Pg⟩
theorem xcc:lg.ok ⟨[],false,[]⟩:=⟨by decide,(by rintro ⟨e,_⟩;cases e),by decide,fun i x h=>(by cases h),fun x a=>by cases a⟩
theorem TN:(Tryz.prog.info? 55).map (·.size)=U 9:=by kernel_rfl
theorem pY (w:World):Calls Tryz.prog 13 #[] w fun r w'=>r=.returned (.bool true)∧Below w.heap.size w w':=by
 go_enter Tryz.func13,Tryz.ntmps13;go_upto_region 2 with(first
  |(go_at_call 50;(with_reducible refine(Uw _).mono ?_);rintro r w1 ⟨p,q,rfl,zH⟩;obtain⟨C,hC⟩:=gE (Sh 9600 p q);rw[hC];have ad:C.size=19:=(by rw[←hC];rfl);have hi:(Tryz.prog.info? 68).map (·.size)=U C.size:=(by rw[←hC];exact dX);have bo:C.toList.all (·.oneCell')=true:=(by rw[←hC];rfl))
  |(refine wpList_storeW rfl 68 (.tmp 1) (.tmp 9) rfl w1.heap.size 0 _ 68 C rfl rfl (hpNew w1 _) (by simp [ad]) hi bo ?_;intro w2 g2 b4 c7))
 obtain⟨p2,bK⟩:=cJ (by rw[ad];rfl) g2 b4;obtain⟨sb,Gk⟩:=gE w1.heap.size;rw[Gk] at p2 ⊢;have W:=hid zH;have nk:=hid bK;have Vn:=hid Gk;have U8:=hid hC;have KU:=hid p2;clear g2 b4 c7 bK Gk zH hC bo hi p2;dsimp only[Act.put];go_upto_region 3 with(first
  |(go_at_call 51;(with_reducible refine(CF _).mono ?_);rintro r w3 ⟨sv,rfl,E5,E⟩;obtain⟨K,qd⟩:=gE (yh EM sv);rw[qd];have QG:(Tryz.prog.info? 27).map (·.size)=U K.size:=(by rw[←qd];exact qV);have Th:K.size=16:=(by rw[←qd];rfl);have QH:K.toList.all (·.oneCell')=true:=(by rw[←qd];obtain⟨a9,c9,e9,-⟩:=E5 w3 (ay.refl _ _);rw[e9];rfl))
  |(refine wpList_storeW rfl 27 (.tmp 2) (.tmp 10) rfl w3.heap.size 0 _ 27 K rfl rfl (hpNew w3 _) (by simp [Th]) QG QH ?_;intro w4 g4 b5 c8))
 obtain⟨p4,dh⟩:=cJ (by rw[Th];rfl) g4 b5;obtain⟨cb,F5⟩:=gE w3.heap.size;rw[F5] at p4 ⊢;obtain⟨b,o,cc,rfl,-,-,fO⟩:=(E5 w3 (ay.refl _ _)).at (k:=0) (x:=(9600,1)) rfl;have dz:sb<w3.heap.size:=Nat.lt_of_lt_of_le (hpLt KU.out) E.size;have cf:=hpKeep (hpKeep KU.out E) dh;have c0:w4.cell? ⟨cb,0,M⟩=U (J (U ⟨b,o,M⟩) 1 cc):=(hpCell p4 0).trans (by rw[←qd];rfl);have fH:∀j u,(#[Y H 9600,Y H 1]:Array Value).toList[j]?=U u→w4.cell? ((⟨b,o,M⟩:Addr).add j)=U u:=fun j u n=>by
  obtain⟨e0,e1⟩:=fO w4 dh;rw[Addr.add_lit];rcases j with _|_|j
  ·cases n;simpa using e0
  ·cases n;simpa using e1
  ·cases n
 have cD:=hid E5;have L:=hid E;have AR:=hid dh;have cy:=hid p4;have ds:=hid qd;have CI:=hid F5;clear g4 b5 c8 dh E fO E5 qd F5 p4 QH;dsimp only[Act.put];go_upto_region 4 with(first
  |(refine aZ rfl 61 (.tmp 13) rfl ⟨b,o,M⟩ rfl #[Y H 9600,Y H 1] _ fH Tryz.underlying61 rfl nW ?_)
  |(refine wpList_storeW rfl 61 (.tmp 15) (.tmp 14) rfl sb 0 _ 68 #[Y H 9600,Y H 1] rfl rfl cf (by simp [ad]) nW rfl ?_;intro w5 g5 i db))
 dsimp only[Act.put];obtain⟨D,hD⟩:∃D,SlC qC (fun k=>if k=2 then J (U ⟨q,0,M⟩) 1 1 else J none 0 0) (J none 0 0) (J (U ⟨p,0,M⟩) 2 2)=D:=⟨_,rfl⟩
 have p5:w5.heap[sb]?=U (I D 68):=by rw[g5,←U8.out,←hD];rfl
 have bX:(Tryz.prog.info? 68).map (·.size)=U D.size:=by rw[←hD];exact dX
 have c5:D.size=19:=by rw[←hD];rfl
 have yC:=tQ qC (fun k=>if k=2 then J (U ⟨q,0,M⟩) 1 1 else J none 0 0) (J none 0 0) (J (U ⟨p,0,M⟩) 2 2) D hD;have z1:=W.out.b.size;have z2:=nk.out.size;have z3:=L.out.size;have z4:=AR.out.size;have c4:=Vn.out;have cX:=CI.out;have S:Hid (Below w.heap.size w w5):=(((W.out.b.trans (nk.out.mono z1)).trans (L.out.mono (by omega))).trans (AR.out.mono (by omega))).trans (i.below (by omega) (fun j n e=>by have e':j=sb:=e;omega));have Zp:Keeps (· =sb) w2 w5:=((Keeps.af L.out).trans (Keeps.af AR.out) (fun _ _ e=>e)).trans i (fun _ _ e=>e);have cz:Hid (∀X,Below w5.heap.size w5 X→nO X qC (fun k=>if k=2 then J (U ⟨q,0,M⟩) 1 1 else J none 0 0) (J none 0 0) (J (U ⟨p,0,M⟩) 2 2)):=fun X hX=>by
  have hs:=W.out.slr (X:=X) ⟨by have:=i.size;have:=hX.size;omega,fun j n hl=>by
   rw[hX.block j (by have:=Zp.size;omega),Zp.block j (by omega) (fun e=>by have e':j=sb:=e;omega),nk.out.block j hl]⟩ 9600 (by unfold bT;omega)
  obtain⟨a1,A,a3,a4,a5,a6,a7,a8⟩:=hs;exact⟨a1,A,a3,a4,a5,a6,a7,by show bT 1;unfold bT;omega⟩
 have ab:ay w2.heap.size w3 w5:=(ay.af AR.out).trans (ay.dg (B:=w2.heap.size) i (fun j e=>by have e':j=sb:=e;have:=hpLt KU.out;omega));have bm:Hid (∀X,ay w2.heap.size w5 X→dw X (J (U ⟨b,o,M⟩) 1 cc) EM.bj):=fun X hX=>cD.out X (ab.trans hX)
 have cV:Hid (w5.heap[cb]?=U (I K 27)):=hpKeeps cy.out i (fun e=>by have e':cb=sb:=e;omega);have bc:Hid (Calls Tryz.prog 24 #[J (U ⟨w5.heap.size,0,M⟩) 1 1,.agg #[J none 0 0,.bool false,J none 0 0]] (w5.alloc (I D 68)) (jx (w5.alloc (I D 68)) [qC] false [])):=by
  refine sS [qC] ⟨[],false,[]⟩ _ 1 1 _ _ _ rfl (Pf (cz.out _ (bal' w5 _)) ?_) (gY.nil _) (gY.nil _) Vu xcc;rw[hD];exact hpNew w5 _
 have ec:=hid p5;have dt:Hid (w2.heap.size≤w5.heap.size∧sb<w5.heap.size∧w.heap.size≤w5.heap.size):=by
  have:=ab.size;have:=S.out.size;have:=i.size;show _∧_∧_;omega
 clear fH cf c0 g5 i db z1 z2 z3 z4 c4 cX dz Zp hD ab;go_upto_region 5 with(first
  |(refine wpList_load_row rfl 68 (.tmp 1) rfl sb rfl 68 D (0,0) _ p5 Tryz.underlying68 rfl bX ?_)
  |(go_at_call 24;(with_reducible refine bc.out.mono ?_);rintro r G b7;obtain⟨d,a,c,A,c2,rfl,Nx,bx,NJ,bQ⟩:=b7.at Vu (fun x hx=>by cases hx) (fun e=>(by cases e))))
 have aX:Hid (cU (fun j=>j=d) G d (J a 1 c) (J A 0 c2) false Ln.zero):=Nx;have ao:Hid (IA (fun j=>j=d) G a 1 c A 0 c2 [qC] [] false):=bx;have Ng:Below w5.heap.size w5 G:=bt (bal' w5 _) bQ (Nat.le_refl _);have R:Hid (Below w.heap.size w G):=S.out.trans (Ng.mono S.out.size);have cd:=hpKeep cV.out Ng;have eb:=QG;have ba:Hid (Calls Tryz.prog 25 #[.agg K,.pointer (U ⟨d,0,M⟩),Y H 0] G (Ft EM (.pointer (U ⟨d,0,M⟩)) 0 G)):=by
  rw[←ds.out];exact Ec EM Vz _ d 0 (by decide) (by decide) G (bm.out _ (ay.af Ng))
 have T:Hid (w.heap.size≤d∧w5.heap.size≤G.heap.size):=⟨by have h1:=NJ;rw[World.size_alloc] at h1;have:=dt.out;omega,Ng.size⟩
 clear b7 Nx bx NJ bQ Ng p5 bc bX c5 yC;go_upto_region 6 with(first
  |(refine wpList_load_row rfl 27 (.tmp 2) rfl cb rfl 27 K (0,0) _ cd Tryz.underlying27 rfl QG ?_)
  |(go_at_call 25;(with_reducible refine ba.out.mono ?_);rintro r w7 ⟨l,t,rfl,bZ,ct,b8,rZ⟩))
 have aY:=hid (lr.start (f:=⟨a,1,c,A,0,c2,false,[qC],[]⟩) aX.out ao.out Ln.jE Vz bZ ct b8 rZ (Tx.new 9600 1 1 1000 0) (Lk.new 9600 1 1 1000 0));have Xi:Hid (Below w.heap.size w w7):=R.out.trans (rZ.mono R.out.size);have V:Hid (w.heap.size≤l):=by have:=R.out.size;show _≤_;omega
 have Xm:Hid (Calls Tryz.prog 26 #[.pointer (U ⟨l,0,M⟩),Y H 0,Y H 7,.agg #[Y H 3,Y H 12,Y H 2,Y H 0,Y H 0]] w7 (Sf l d (fun j=>j=d∨j=l) EM t ⟨a,1,c,A,0,c2,false,[qC],[]⟩ ⟨Ln.zero,true,AN,0,0⟩ 1 w7)):=
  (yM aY.out (show _=_ from rfl) 0 9600 1 rfl 7 3 12 2 0 0 (by decide) (by decide) 0 (by decide+kernel)).mono (fun r w' h=>h.2 rfl)
 have nr:Hid (∀(gj k:Nat) (P PL Q:Nat→Prop) (s:Lk) (X:World),k≤1→lr l d gj k P PL Q EM t ⟨a,1,c,A,0,c2,false,[qC],[]⟩ ⟨Ln.zero,true,AN,0,0⟩ s X→Calls Tryz.prog 27 #[.pointer (U ⟨l,0,M⟩)] X (Sf l d P EM t ⟨a,1,c,A,0,c2,false,[qC],[]⟩ ⟨GJ,true,AN.aA Cc,0,Cc⟩ (k+1) X)):=fun gj k P PL Q s X hk hM=>by
  have h:=Ef hM rfl rfl 0 9600 1 rfl rfl rfl Yi rfl (by rw[DZ];rfl) (by show 0≤90000000;decide) (by show 0≤1000000000;decide) (by omega) (UD hM.G.Bq hM.G.ok ((Lw.of hM.sV).set (9600,1) (List.mem_of_getElem? (show EM.bj[0]?=U (9600,1) from rfl))) _ _ _ _);rw[DZ] at h;exact h
 have uM:Hid (∀(gj k:Nat) (P PL Q:Nat→Prop) (s:Lk) (X:World),k≤2→lr l d gj k P PL Q EM t ⟨a,1,c,A,0,c2,false,[qC],[]⟩ ⟨GJ,true,AN.aA Cc,0,Cc⟩ s X→Calls Tryz.prog 23 #[.pointer (U ⟨l,0,M⟩)] X (H5 l d gj P EM t ⟨a,1,c,A,0,c2,false,[qC],[]⟩ qW 0 (k+(Du.mk GJ (AN.aA Cc)).mu) X)):=fun gj k P PL Q s X hk hM=>by
  have dR:=of_decide_eq_true SH;have h:=vP hM rfl (.inl rfl) (by show k+(Du.mk GJ (AN.aA Cc)).mu≤_;omega);dsimp only at h;rw[SG] at h;exact h
 clear bZ ct b8 rZ ba aX ao QG Th bm cd;go_upto_region 8 with(first
  |(go_at_call 26;(with_reducible refine Xm.out.mono ?_);rintro r w8 ⟨dM,k8,dA,Q8,s8,rfl,bA,F,cp⟩)
  |(go_at_call 27;(with_reducible refine(nr.out _ _ _ _ _ _ _ cp bA).mono ?_);rintro r w9 ⟨dN,k9,dE,Q9,s9,rfl,bC,b6,dx⟩))
 have cv:=hid bC;have Qb:Hid (k9≤2):=by show _≤_;omega
 have Xl:Hid (Below w.heap.size w w9):=by
  have z7:=Xi.out.size;have z8:=F.size;refine(Xi.out.trans (F.below z7 (fun j n e=>?_))).trans (b6.below (by omega) (fun j n e=>?_))
  ·have h1:=T.out
   have h2:=V.out;rcases e with e|e<;>omega
  ·have h1:=T.out
   have h2:=V.out;rcases e with(e|e)|e<;>omega
 have cl:=hid (uM.out _ _ _ _ _ _ _ Qb.out cv.out);obtain⟨P9,Z⟩:∃P,ax (ax (fun j=>j=d∨j=l) w7 w8) w8 w9=P:=⟨_,rfl⟩
 rw[Z] at cl;have RQ:Hid (∀j,P9 j→w.heap.size≤j):=fun j n=>by
  have z7:=Xi.out.size;have z8:=F.size;have h1:=T.out;have h2:=V.out;rw[←Z] at n;rcases n with((e|e)|e)|e<;>omega
 have zJ:qW.x.shown=qW.x.out:=by unfold Tx.shown;rw[if_pos Ij]
 have ss:qW.x.shown.verdict=1:=by rw[zJ];exact DX.1
 have mA:qW.x.shown.ae.data.length=4:=by rw[zJ];exact DX.2
 have Q5:decide (qW.x.ph=5)=true:=by rw[Ij];rfl
 obtain⟨O,hO⟩:=gE qW.x.shown;rw[hO] at ss mA;have ca:((qW.n.aA.length:Nat):Int)=1:=by rw[JE];rfl
 have Aj:=hid (And.intro ss (And.intro mA (And.intro Q5 ca)));have c6:=Nd;obtain⟨NW,YB⟩:=gE qW.x.now;rw[YB] at c6;have cx:=hid YB;have HO:=hid hO;clear bA bC F cp b6 dx uM nr Xm aY Z zJ ss mA Q5 ca YB hO;go_upto_region 9 with(first
  |(go_at_call 23;(with_reducible refine cl.out.mono ?_);rintro r cg ⟨da,dc,oa,oc,dV,ee,dK,ea,rfl,AF,cj,JR,dk⟩;rw[HO.out,Aj.out.1,Aj.out.2.1,Aj.out.2.2.1];clear AF dk)
  |(refine wpList_storeW rfl 55 (.tmp 7) (.tmp 53) rfl cg.heap.size 0 _ 55 #[Y H 1,Y H O.ae.fn,Y H O.ae.ar,J da 4 dc,Y H O.ae.code,Y H O.ae.level,.bool O.ae.more,Y H O.ae.next,J oa O.ae.ag.length oc] rfl rfl (hpNew cg _) (by simp) TN rfl ?_;intro z bn cn dv))
 obtain⟨ak,YZ⟩:=cJ (by rfl) bn cn;have YA:=cj.bW YZ;have HT:=hid (Dr YA.ln);have HN:=hid (OR YA);have cT:Hid (Calls Tryz.prog 20 #[.pointer (U ⟨d,0,M⟩)] z fun r w'=>r=.returned (Y H 1)∧z=w'):=by
  have h:=HT.out;rw[show ((qW.n.aA.length:Nat):Int)=1 from Aj.out.2.2.2] at h;exact h
 have cw:Hid (Calls Tryz.prog 28 #[.pointer (U ⟨l,0,M⟩)] z fun r w'=>r=.returned (Y H NW)∧z=w'):=by
  rw[←cx.out];exact HN.out
 have c0:=cG ak 0 rfl;have c3:=cG ak 3 rfl;have dq:Hid (Below w.heap.size w z):=(Xl.out.trans (JR.below Xl.out.size (fun j n e=>by have:=RQ.out j e;omega))).trans (YZ.mono (by have:=Xl.out.size;have:=JR.size;omega));clear bn cn dv ak YZ YA cj JR HT HN;go_wp2_with (first
  |(go_at_call 28;(with_reducible refine cw.out.mono ?_);rintro r wx ⟨rfl,rfl⟩)
  |(go_at_call 20;(with_reducible refine cT.out.mono ?_);rintro r wx ⟨rfl,rfl⟩))
 go_ret;exact⟨rfl,dq.out⟩
structure Qu (c:Sc):Prop where
 Bq:cW c.l
 aC:∀z∈c.aC,z.ok
 set:aU c.bd c.pa
 mW:0≤c.ti
 oj:c.ti≤5000000
 oy:0≤c.de
 o7:c.de≤5000000
structure Ro (c:Sc) (m N:Nat) (y:Du):Prop where
 aA:y.n.aA=c.s0++List.replicate m ((c.bd,c.pa),c.fr)
 asc:oh y.n.pend
 len:y.n.pend.length≤N
 b:y.x.b=c.bd
 p:y.x.p=c.pa
 re:y.x.re=c.re
 ti:y.x.ti=c.ti
 de:y.x.de=c.de
 un:y.x.un=c.u
 q:y.x.q=c.q
 bg:y.x.bg=m
structure yn (y:Du) (B:Int):Prop where
 fr:y.n.free≤max y.x.en y.x.last
 la:y.n.last≤max y.x.en y.x.last
 e0:0≤y.x.en
 e1:y.x.en≤y.x.til
 l1:y.x.last≤y.x.til
 p3:y.x.ph=3→y.x.en≤y.x.last
 tb:y.x.til≤B
structure xaE (y:Du) (B:Int):Prop where
 ph:y.x.ph=1∧y.x.bg≤y.x.re∨y.x.ph=5
 fr:y.n.free≤y.x.now
 la:y.n.last≤y.x.now
 n0:0≤y.x.now
 n1:y.x.now≤B
def StU (y:Du) (B:Int):Prop:=lb y.x=true∧yn y B∨lb y.x=false∧xaE y B
theorem PV {p:Prop} (h:p:=by
 exact⟨⟨d.aA,d.asc,d.len,d.b,d.p,d.re,d.ti,d.de,d.un,d.q,d.bg⟩,.inr ⟨(by show decide ((5:Int)=2∨(5:Int)=3∨(5:Int)=4)=false;decide),.inr rfl,(by show y.n.free≤y.x.til;omega),(by show y.n.last≤y.x.til;omega),(by show 0≤y.x.til;omega),(by show y.x.til≤_;omega)⟩⟩):p:=h
theorem yn.bR {c:Sc} {m N:Nat} {y:Du} {B:Int} (ok:Qu c) (d:Ro c m N y) (o:y.x.aP) (h:yn y B):Ro c m N ⟨y.n,y.x.bR⟩∧StU ⟨y.n,y.x.bR⟩ (B+12500000):=by
 obtain⟨k,D1⟩:=ng ok.set ok.mW ok.oj ok.oy ok.o7;have j:cu y.x.b y.x.ti y.x.de=cu c.bd c.ti c.de:=by rw[d.b,d.ti,d.de]
 generalize cu c.bd c.ti c.de=D at k D1 j;have l:∀t,y.x.aH t=if t<y.x.en+D then y.x.en+D else t:=fun t=>by unfold Tx.aH;rw[j]
 obtain⟨b,f,i,q,r,s,u⟩:=h;have a:y.x.en≤y.x.aH y.x.til∧y.x.til≤y.x.aH y.x.til∧y.x.aH y.x.til≤B+12500000:=by
  rw[l];split<;>omega
 unfold Tx.bR;rcases o with e|e|e
 ·rw [if_pos e]
  exact⟨⟨d.aA,d.asc,d.len,d.b,d.p,d.re,d.ti,d.de,d.un,d.q,d.bg⟩,.inl ⟨(by show decide ((4:Int)=2∨(4:Int)=3∨(4:Int)=4)=true;decide),b,f,i,a.1,(by show y.x.last≤y.x.aH y.x.til;omega),fun e=>absurd e (by show ¬(4:Int)=3;decide),a.2.2⟩⟩
 ·rw [if_neg (by omega),if_pos e]
  split
  ·exact PV
  ·exact ⟨⟨d.aA,d.asc,d.len,d.b,d.p,d.re,d.ti,d.de,d.un,d.q,d.bg⟩,.inl ⟨(by show decide ((4:Int)=2∨(4:Int)=3∨(4:Int)=4)=true;decide),b,f,i,a.1,(by show y.x.last≤y.x.aH y.x.til;omega),fun e=>absurd e (by show ¬(4:Int)=3;decide),a.2.2⟩⟩
 ·rw [if_neg (by omega),if_neg (by omega)]
  split
  ·rename_i n
   exact⟨⟨d.aA,d.asc,d.len,d.b,d.p,d.re,d.ti,d.de,d.un,d.q,d.bg⟩,.inr ⟨(by show decide ((1:Int)=2∨(1:Int)=3∨(1:Int)=4)=false;decide),.inl ⟨rfl,n⟩,(by show y.n.free≤y.x.til;omega),(by show y.n.last≤y.x.til;omega),(by show 0≤y.x.til;omega),(by show y.x.til≤_;omega)⟩⟩
  ·exact PV
theorem yn.ll {c:Sc} {m N:Nat} {y:Du} {B:Int} (ok:Qu c) (d:Ro c m N y) (t:y.x.aP) (h:yn y B) {z:Ch} {r:List Ch} (n:y.n.pend=z::r) (u:z.at_≤y.x.til):Ro c m N ⟨y.n.next z r,y.x.ll (y.n.SN z)⟩∧StU ⟨y.n.next z r,y.x.ll (y.n.SN z)⟩ (B+12500000):=by
 obtain⟨o,D1⟩:=ng ok.set ok.mW ok.oj ok.oy ok.o7;have l:cu y.x.b y.x.ti y.x.de=cu c.bd c.ti c.de:=by rw[d.b,d.ti,d.de]
 generalize cu c.bd c.ti c.de=D at o D1 l;have p:y.x.aH z.at_=if z.at_<y.x.en+D then y.x.en+D else z.at_:=by unfold Tx.aH;rw[l]
 obtain⟨t1,t2,t3,t4,t5,t6⟩:=bV ok.set;have j:=d.b;obtain⟨A,C,f,k,q,s,E⟩:=h;have b:oh r:=by
  have e:=uA.1 d.asc;rw[n] at e;exact uA.2 (List.pairwise_cons.1 e).2
 have hlen:r.length≤N:=by
  have e:=d.len;rw[n,List.length_cons] at e;omega
 have i:y.x.en≤y.x.aH z.at_∧z.at_≤y.x.aH z.at_∧y.x.aH z.at_≤B+12500000:=by
  rw[p];split<;>omega
 have e1:(y.n.SN z).t=z.at_:=rfl;have a:lb y.x=true:=(iu y.x).2 t;unfold Tx.ll;rw[e1];split
 ·rename_i F
  split
  ·rename_i G
   split
   ·exact ⟨⟨d.aA,b,hlen,d.b,d.p,d.re,d.ti,d.de,d.un,d.q,d.bg⟩,.inl ⟨(by show decide ((4:Int)=2∨(4:Int)=3∨(4:Int)=4)=true;decide),(by show max y.n.free z.at_≤max y.x.en z.at_;omega),(by show z.at_≤max y.x.en z.at_;omega),f,i.1,i.2.1,fun e=>absurd e (by show ¬(4:Int)=3;decide),i.2.2⟩⟩
   ·refine ⟨⟨d.aA,b,hlen,d.b,d.p,d.re,d.ti,d.de,d.un,d.q,d.bg⟩,.inl ⟨(by show decide ((3:Int)=2∨(3:Int)=3∨(3:Int)=4)=true;decide),(by show max y.n.free z.at_≤max y.x.en z.at_;omega),(by show z.at_≤max y.x.en z.at_;omega),f,?_,?_,fun _=>?_,?_⟩⟩
    ·show y.x.en≤z.at_+bq y.x.b+charT y.x.b
     rw[j];omega
    ·show z.at_≤z.at_+bq y.x.b+charT y.x.b
     rw[j];omega
    ·show y.x.en≤z.at_
     omega
    ·show z.at_+bq y.x.b+charT y.x.b≤_
     rw[j];omega
  ·exact ⟨⟨d.aA,b,hlen,d.b,d.p,d.re,d.ti,d.de,d.un,d.q,d.bg⟩,.inl ⟨a,(by show max y.n.free z.at_≤max y.x.en z.at_;omega),(by show z.at_≤max y.x.en z.at_;omega),f,k,u,fun e=>(by have x:y.x.ph=3:=e;show y.x.en≤z.at_;omega),(by show y.x.til≤_;omega)⟩⟩
 ·exact ⟨⟨d.aA,b,hlen,d.b,d.p,d.re,d.ti,d.de,d.un,d.q,d.bg⟩,.inl ⟨a,(by show max y.n.free z.at_≤max y.x.en y.x.last;omega),(by show z.at_≤max y.x.en y.x.last;omega),f,k,q,s,(by show y.x.til≤_;omega)⟩⟩
theorem yn.step (ok:Qu c) (d:Ro c m N y) (a:y.x.aP) (h:yn y B):Ro c m N y.step∧StU y.step (B+12500000):=by
 cases e:y.n.pend with
 |nil=>
  rw[Du.y7 e];exact h.bR ok d a
 |cons z r=>
  by_cases b:z.at_≤y.x.til
  ·rw [Du.CG e b]
   exact h.ll ok d a e b
  ·rw [Du.ze e b]
   exact h.bR ok d a
theorem yn.listen {c:Sc} {m N:Nat} (ok:Qu c):∀(n:Nat) (y:Du) (B:Int),y.mu≤n→Ro c m N y→lb y.x=true→yn y B→Ro c m N (Du.listen n y)∧xaE (Du.listen n y) (B+12500000*n)
 |0,y,B,hm,d,hh,h=>by rw[Du.Cz hm] at hh;cases hh
 |n+1,y,B,hm,d,hh,h=>by
  have hs:=Du.xZ ((iu y.x).1 hh);obtain⟨d2,b⟩:=h.step ok d ((iu y.x).1 hh);rw[Du.n4 hh];rcases b with⟨e1,e2⟩|⟨e1,e2⟩
  ·obtain ⟨e,a⟩:=yn.listen ok n y.step _ (by omega) d2 e1 e2
   exact⟨e,a.ph,a.fr,a.la,a.n0,by have:=a.n1;omega⟩
  ·rw [Du.jD e1]
   exact⟨d2,e2.ph,e2.fr,e2.la,e2.n0,by have:=e2.n1;omega⟩
structure Mv (c:Sc) (p0:Nat) (t0:Int) (m:Nat) (y:Du):Prop where
 d:Ro c m (p0+256*m) y
 fr:y.n.free≤y.x.now
 la:y.n.last≤y.x.now
 n0:0≤y.x.now
 n1:y.x.now≤t0+1000000000000*m
def Ya (c:Sc) (p0:Nat) (t0:Int) (m:Nat) (y:Du):Prop:=Mv c p0 t0 m y∧y.x.ph=1∧(m:Int)≤c.re
def KM (c:Sc) (p0:Nat) (t0:Int) (m:Nat) (y:Du):Prop:=Mv c p0 t0 m y∧y.x.ph=5∧1≤m∧(m:Int)≤c.re+1
theorem Mv.bytes {c:Sc} {p0 m:Nat} {t0:Int} {y:Du} (h:Mv c p0 t0 m y) (a:y.x.ph=1):y.x.bytes=c.fr:=by
 unfold Tx.bytes Sc.fr aO;rw[if_pos a,h.d.un,h.d.q]
theorem Mv.j6 {c:Sc} {p0 m:Nat} {t0:Int} {y:Du} (h:Mv c p0 t0 m y) (f:y.x.now≤600000000000000000):y.n.j6 c.fr.length y.x.now=0:=by
 have b:4≤c.fr.length∧c.fr.length≤256:=jc c.u c.q;have d:=h.n0;have e:=h.fr;have a:ia=1152921504606846976:=rfl;unfold Ln.j6;rw[a,if_neg (by omega),if_neg (by omega),if_neg (by omega)]
theorem yQ (ok:Qu c) (n:Nat) (tick:Int):(fM c.l (cA c.aC c.lp n) c.bd c.pa c.fr tick).length≤256:=by
 unfold fM;rw[chsN_len];exact je ok.Bq _ _ _ _
theorem Mv.mu (ok:Qu c) (h:Mv c p0 t0 m y):(Du.mk (y.n.send c.l c.aC c.lp c.bd c.pa c.fr y.x.now) (y.x.aA (y.x.now+aK c.bd c.fr.length))).mu≤p0+256*(m+1)+3:=by
 have b:=yQ ok y.n.aA.length y.x.now;have d:=h.d.len;show ((fM c.l (cA c.aC c.lp y.n.aA.length) c.bd c.pa c.fr y.x.now).foldl putL y.n.pend).length+tR 2≤_;have a:tR 2=3:=rfl;rw[EG,a];omega
theorem Mv.next (ok:Qu c) (r:p0≤20000) (hm:m≤20) (h:Ya c p0 t0 m y):Ya c p0 t0 (m+1) (c.go y)∨KM c p0 t0 (m+1) (c.go y):=by
 obtain⟨b,t,p⟩:=h;have a:=b.d;obtain⟨t1,t2,t3,t4,t5,t6⟩:=bV ok.set;obtain⟨f1,f2⟩:=gD ok.set (jc c.u c.q).2;have k:0≤aK c.bd c.fr.length:=f1;have l:aK c.bd c.fr.length≤2346752:=f2;have u:=ok.mW;have o2:=ok.oj;have n0:=b.n0;have n1:=b.n1;have x:=b.fr;have q:=b.la;have n:=b.mu ok;obtain⟨d2,e2⟩:=yn.listen (c:=c) (m:=m+1) (N:=p0+256*(m+1)) ok _ (Du.mk (y.n.send c.l c.aC c.lp c.bd c.pa c.fr y.x.now) (y.x.aA (y.x.now+aK c.bd c.fr.length))) (y.x.now+2346752+5050000) (Nat.le_refl _)
  ⟨by
   show y.n.aA++[((c.bd,c.pa),c.fr)]=_
   rw[a.aA,List.append_assoc,←List.replicate_succ'],zN a.asc _,by
   have d:=yQ ok y.n.aA.length y.x.now
   have i:=a.len
   show ((fM c.l (cA c.aC c.lp y.n.aA.length) c.bd c.pa c.fr y.x.now).foldl putL y.n.pend).length≤_
   rw[EG]
   omega,a.b,a.p,a.re,a.ti,a.de,a.un,a.q,by show y.x.bg+1=_;rw[a.bg];rfl⟩
  (by show decide ((2:Int)=2∨(2:Int)=3∨(2:Int)=4)=true;decide)
  ⟨by show y.x.now+aK c.bd c.fr.length≤max (y.x.now+aK c.bd c.fr.length) 0;omega,by show y.n.last≤max (y.x.now+aK c.bd c.fr.length) 0;omega,by show 0≤y.x.now+aK c.bd c.fr.length;omega,
   by show y.x.now+aK c.bd c.fr.length≤y.x.now+aK c.bd c.fr.length+bq y.x.b+y.x.ti+charT y.x.b;rw[a.b,a.ti];omega,by show 0≤y.x.now+aK c.bd c.fr.length+bq y.x.b+y.x.ti+charT y.x.b;rw[a.b,a.ti];omega,fun e=>absurd e (by show ¬(2:Int)=3;decide),
   by show y.x.now+aK c.bd c.fr.length+bq y.x.b+y.x.ti+charT y.x.b≤_;rw[a.b,a.ti];omega⟩
 have o:=e2.n1;have f:Mv c p0 t0 (m+1) (c.go y):=⟨d2,e2.fr,e2.la,e2.n0,by
  have s:(c.go y).x.now≤y.x.now+2346752+5050000+12500000*((Du.mk (y.n.send c.l c.aC c.lp c.bd c.pa c.fr y.x.now) (y.x.aA (y.x.now+aK c.bd c.fr.length))).mu:Nat):=o
  omega⟩
 rcases e2.ph with⟨d,i⟩|d
 ·refine .inl ⟨f,d,?_⟩
  have j:(c.go y).x.bg≤(c.go y).x.re:=i;rw[f.d.bg,f.d.re] at j;exact j
 ·exact .inr ⟨f,d,by omega,by omega⟩
theorem xaD (ok:Qu sc) (p0:Nat) (a:p0≤20000) (e:sc.s0.length≤1000) (t0:Int) (j:t0≤500000000000000000) (b:sc.re≤5):Rn sc (Ya sc p0 t0) (KM sc p0 t0):=
 {zl:=fun h=>h.2.1
  le:=fun h=>h.2.2
  bb:=fun h=>h.1.d.b
  by_:=fun h=>h.1.bytes h.2.1
  se:=fun h=>h.1.j6 (by have:=h.1.n1;have:=h.2.2;omega)
  pn:=fun h=>by have:=h.1.d.len;have:=h.2.2;omega
  sn:=fun {m d} h=>by rw[h.1.d.aA,List.length_append,List.length_replicate];have:=h.2.2;omega
  so:=fun {m d} h=>KI h.1.d.asc (by
   have f:=yQ ok d.n.aA.length d.x.now
   have i:=h.1.d.len
   have:=h.2.2
   rw[List.length_append]
   omega)
  mu:=fun h=>Nat.le_trans (h.1.mu ok) (by have:=h.2.2;omega)
  next:=fun h=>Mv.next ok a (by have:=h.2.2;omega) h
  ph5:=fun h=>h.2.1}
theorem IM:(Tryz.prog.info? 95).map (·.size)=U 3:=by kernel_rfl
def Vs (w:World) (l:List ((Int×Int)×List UInt8)) (a:Option Addr) (k c:Nat) (W:World):Prop:=
 ∃cs,W.ownsRow w.heap.size 95 3 (J a k c) k cs∧eU 3 (NR (fun j=>(Value.slice a k c).ownBlock=U j∨j<w.heap.size) W) cs (l.take k)∧Below w.heap.size w W
theorem IP {B sz n:Nat} {T:TypeId} {cs:List Value} (h:w.ownsRow B T sz v n cs) (l:0<n):∃b o c,v=J (U ⟨b,o,M⟩) n c∧∀j u,cs[j]?=U u→w.cell? ⟨b,o+j,M⟩=U u:=by
 obtain⟨k,⟨_,i⟩|⟨g,cap,cur,f,-,d,-,-,-,e⟩⟩:=h
 ·omega
 ·refine ⟨g,0,cap,f,fun j u a=>?_⟩
  rw[Nat.zero_add,hpCell d];rw[←e,List.getElem?_take] at a;split at a
  ·simpa using a
  ·cases a
theorem Vs.step {wr w5 q o b:World} {l:List ((Int×Int)×List UInt8)} {a s t:Option Addr} {k c c2 u fn:Nat} {bd pa:Int} {f:List UInt8} {cs:List Value} (M:wr.ownsRow w.heap.size 95 3 (J a k c) k cs)
  (O:eU 3 (NR (fun j=>(Value.slice a k c).ownBlock=U j∨j<w.heap.size) wr) cs (l.take k)) (E:Below w.heap.size w wr) (T:l[k]?=U ((bd,pa),f)) (K:f.length=fn) (F:Below wr.heap.size wr w5)
  (A:q.ownsRow w5.heap.size 5 1 (J t fn u) fn (u8s f)) (C:Below w5.heap.size w5 q) (d:Below q.heap.size q o)
  (x:b.ownsRow w.heap.size 95 3 (J s (k+1) c2) (k+1) (cs++[Y H bd,Y H pa,J t fn u])) (L:o.grownBy b (Value.slice a k c).ownBlock) (S:cZ o (J a k c) (J s (k+1) c2)):Vs w l s (k+1) c2 b:=by
 have W:=E.size;have Z:=F.size;have z3:=C.size;have z4:=d.size;have D:Keeps (fun j=>(Value.slice a k c).ownBlock=U j) o b:=Keeps.bJ L (fun _ h=>h);have Q:Below wr.heap.size wr o:=(F.trans (C.mono Z)).trans (d.mono (by omega));have I:Keeps (fun j=>(Value.slice a k c).ownBlock=U j) wr b:=(Keeps.af Q).trans D (fun _ _ e=>e);have G:∀j,(Value.slice s (k+1) c2).ownBlock=U j→(Value.slice a k c).ownBlock=U j∨o.heap.size≤j:=fun j e=>by
  rcases S with e1|⟨i,e1,e2⟩
  ·rw [e1] at e
   exact .inl e
  ·rw [e1] at e
   cases e;exact .inr e2
 have n:∀j,(Value.slice a k c).ownBlock=U j→w.heap.size≤j∧j<wr.heap.size:=fun j e=>M.lt j e
 have z:Keeps (fun j=>(Value.slice a k c).ownBlock=U j) q b:=(Keeps.af d).trans D (fun _ _ e=>e);have R:l.take (k+1)=l.take k++[((bd,pa),f)]:=by rw[List.take_add_one,T];rfl
 refine⟨_,x,?_,E.trans (I.below (Nat.le_trans W (Nat.le_refl _)) (fun j p e=>by have:=(n j e).1;omega))⟩;rw[R];refine eU.app _ _ (eU.mono (fun r y V=>NR.keeps I (fun j _ e=>.inl e) (fun j p e=>?_) r y V) _ _ O) _ _ ⟨_,[],(List.append_nil _).symm,rfl,⟨t,u,by rw[K],fun X P=>?_⟩,rfl⟩
 ·rcases e with e|e
  ·rcases G j e with e|e
   ·exact .inl e
   ·omega
  ·exact .inr e
 ·rw [K]
  refine Bs.own (own_keeps (own_keeps A z (fun j p e=>?_)) P (fun j p e=>?_))
  ·have:=(A.lt j p).1
   have:=(n j e).2;omega
  ·have h9:=A.lt j p
   rcases e with e|e
   ·rcases G j e with e|e
    ·have:=(n j e).2
     omega
    ·omega
   ·omega
theorem Km {P:Nat→Prop} {lp:Bool} {s:Ln} (h:cU P w g sv av lp s) (hm:s.aA.length≤1000000) (hl:∀x∈s.aA,x.2.length≤256):
  Calls Tryz.prog 35 #[.pointer (U ⟨g,0,M⟩)] w fun r w'=>∃a c,r=.returned (J a s.aA.length c)∧Vs w s.aA a s.aA.length c w':=by
 obtain⟨tv,pv,cs,h⟩:=h;obtain⟨i5,hi,a5,a6,a7⟩:=info_parts O7;obtain⟨ta,tc,rfl⟩:=own_slice h.sn;have c4:w.cell? ⟨g,4,M⟩=U (J ta s.aA.length tc):=hpCell h.at_ 4;obtain⟨l,hL⟩:=gE s.aA;have vO:=h.sn;have Z5:=h.sc;rw[hL] at vO Z5 c4 hm hl ⊢;obtain⟨n,hn⟩:=gE l.length;rw[hn] at vO c4 hm ⊢;have nr:=hid vO;have Vo:=hid Z5;have HN:=hid hn;have HL:=hid hl;have HM:=hid hm;clear h hL vO Z5 hn hm hl;go_enter Tryz.func35,Tryz.ntmps35;go_wp2;go_loopw [3,13] (fun ov iv wr=>∃(k:Nat) (a:Option Addr) (c:Nat),k≤n∧iv=Y H (k:Int)∧ov=J a k c∧Hid (Vs w l a k c wr)) (fun _ iv _=>n- (intOf iv).toNat)
 case atStart=>exact⟨0,none,0,Nat.zero_le _,rfl,rfl,⟨[],World.ownsRow_nil _ _ _ _,rfl,Below.refl _ _⟩⟩
 case round=>
  obtain⟨k,a,c,QK,rfl,rfl,hR⟩:=hrel;have bx:(0:Int)≤(k:Int):=Int.natCast_nonneg _;by_cases ak:k<n
  ·have g1:decide ((k:Int)<(n:Int))=true:=decide_eq_true (by omega)
   have SQ:(k:Int)<(n:Int):=by omega
   have g2:decide (k<n)=true:=decide_eq_true ak;obtain⟨⟨⟨bd,pa⟩,f⟩,hx⟩:=gs (l:=l) HN.out ak;obtain⟨b,o,c0,hv,bZ⟩:=IP nr.out (by omega);simp only[Value.slice.injEq,true_and] at hv;obtain⟨rfl,rfl⟩:=hv;obtain⟨r,a4,⟨fa,fc,hr,jI⟩,Wl⟩:=eU.get _ _ Vo.out k _ hx;subst hr;obtain⟨a3,ho,ab,W⟩:=hR.out;obtain⟨fn,zu⟩:=gE f.length;have IC:=HL.out _ (List.mem_of_getElem? hx);have IC:fn≤256:=by rw[←zu];exact IC
   have aY:Hid (∀X,Below w.heap.size w X→Bs X (J fa fn fc) f):=fun X D=>by
    have h:=jI X (Keeps.af D);rw[zu] at h;exact h
   have LZ:Hid (∀j u,(#[Y H bd,Y H pa,J fa fn fc]:Array Value).toList[j]?=U u→wr.cell? ((⟨b,o+k*3,M⟩:Addr).add j)=U u):=fun j u hj=>by
    rw[Addr.add_lit];refine cell_keep W ?_;have h:=bZ (k*3+j) u (Wl j u (by rw[zu];simpa using hj));rw[←Nat.add_assoc] at h;exact h
   have HX:=hid hx;have HO:=hid ho;have CW:=hid ab;have L:=hid W;have C1:=hid zu;have a2:=hid IC;have s1:IntKind.i64.wrap ((k:Int)+1)=(k:Int)+1:=IntWalk.i64_in _ (by have:=HM.out;omega);clear hx bZ Wl a4 jI ho ab W zu IC hR QK;go_upto_region 7 with(first
    |(refine aZ rfl 95 (.tmp 15) rfl ⟨b,o+k*3,M⟩ rfl #[Y H bd,Y H pa,J fa fn fc] _ LZ.out Tryz.underlying95 rfl IM ?_)
    |(refine wpList_storeW rfl 95 (.tmp 5) (.tmp 16) rfl wr.heap.size 0 _ 95 #[Y H bd,Y H pa,J fa fn fc] rfl rfl (hpNew wr _) (by simp) IM rfl ?_;intro w5 g5 ad a8))
   obtain⟨p5,T⟩:=cJ (by rfl) g5 ad;have oz:=hid T;have O:=hid p5;have CI:Hid (∀X,Below w5.heap.size w5 X→Calls Tryz.prog 80 #[J fa fn fc] X fun r w'=>∃v',r=.returned v'∧w'.ownsRow w5.heap.size 5 1 v' f.length (u8s f)∧Below X.heap.size X w'):=fun X D=>(bY _ f X (aY.out X (bt (bt L.out T (Nat.le_refl _)) D (Nat.le_refl _))) (by have:=a2.out;have:=C1.out;omega)).mono fun r w' ⟨v',h1,h2,h3⟩=>⟨v',h1,own_lower h2 D.size,h3⟩
   have e2:∀X:World,X.heap[wr.heap.size]?=U (I #[Y H bd,Y H pa,J fa fn fc] 95)→X.cell? ⟨wr.heap.size,2,M⟩=U (J fa fn fc):=fun X D=>hpCell D 2
   have n6:Hid (∀X:World,X.heap[wr.heap.size]?=U (I #[Y H bd,Y H pa,J fa fn fc] 95)→∀j u,(#[Y H bd,Y H pa]:Array Value).toList[j]?=U u→X.cell? ((⟨wr.heap.size,0,M⟩:Addr).add j)=U u):=fun X D j u hj=>by
    rw[Addr.add_lit,hpCell D];rcases j with _|_|j<;>cases hj<;>rfl
   have kD:Below w5.heap.size w5 w5.drew:=(Below.refl _ _).drew;have kS:w5.drew.heap[wr.heap.size]?=U (I #[Y H bd,Y H pa,J fa fn fc] 95):=hpKeep O.out kD;clear g5 ad a8 p5 T
   (try dsimp only[Act.put])
   refine wp_region_held_drew (S:=fun V=>V.heap[wr.heap.size]?=U (I #[Y H bd,Y H pa,J fa fn fc] 95)) (by kernel_rfl) kS (fun hH=>?_);clear hH;refine tG 0 17 ?_;refine tG 1 18 ?_;refine tkD 2 19 (v:=.agg #[Y H bd,Y H pa]) rfl (by kernel_rfl) (fun _ _ _ h=>h) rfl (by rfl) (by assumption) (fun X D=>run_load_rowT 61 (.tmp 18) rfl ⟨wr.heap.size,0,M⟩ rfl #[Y H bd,Y H pa] _ (n6.out X D) Tryz.underlying61 rfl nW) ?_;simp only[setS];refine tG 3 20 ?_;refine tG 4 21 ?_;refine rdyH 5 rfl (fun K G=>?_);go_simp;refine(CI.out _ kD).mono ?_;rintro r w8 ⟨bA,rfl,C,FY⟩;obtain⟨ba,bc,rfl⟩:=own_slice C;rw[C1.out] at C ⊢;have Q:=bt kD FY (Nat.le_refl _);have TZ:=hpKeep O.out Q;refine G.out _ _ TZ (fun z=>?_);clear G K z;refine tG 6 23 ?_;refine rdyH 7 rfl (fun K G=>?_);go_simp;obtain⟨X9,Nv,Z,n9⟩:=eY w8 (I #[Y H bd,Y H pa,J ba fn bc] 95);rw[Nv];clear Nv;have R:=bt Q Z (Nat.le_refl _);have aX:=hpKeep O.out R;refine G.out _ _ aX (fun z=>?_);clear G K z;have ao:=own_keeps HO.out (Keeps.af (F:=fun _=>False) (bt oz.out R (Nat.le_refl _))) (fun _ _ e=>e);have rK:w.heap.size≤X9.heap.size:=(bt (bt L.out oz.out (Nat.le_refl _)) R (Nat.le_refl _)).size;refine rdyH 8 rfl (fun K G=>?_);refine step_appN rfl (.tmp 17) (.tmp 24) 88 rfl w.heap.size 95 i5 _ 3 40 Tryz.underlying88 hi a5 a6 a7 rfl (by decide) (J a k c) k a3 rfl ao ⟨w8.heap.size,0,M⟩ 1 1 [Y H bd,Y H pa,J ba fn bc] rfl rfl (fun j u hj=>rowAtW n9 j u hj) (by intro u hu;simp only[List.mem_cons,List.not_mem_nil,or_false] at hu;rcases hu with rfl|rfl|rfl<;>rfl) (by have:=HM.out;unfold maxLen;omega) (by have:=HM.out;omega) rK ?_;intro v10 bC t A E;obtain⟨a9,bm,rfl⟩:=own_slice t;have bn:=Vs.step HO.out CW.out L.out HX.out C1.out oz.out C Q Z t A E;have bo:=hpKeeps aX (Keeps.bJ (F:=fun j=>(Value.slice a k c).ownBlock=U j) A (fun _ h=>h)) (fun e=>by have:=(HO.out.lt _ e).2;omega);go_simp;refine G.out _ _ bo (fun z=>?_);clear G K z;refine tG 9 3 ?_;refine wpAnyH_done (by kernel_rfl) ?_ _;go_wp2;go_roundw
   case rel=>exact⟨k+1,a9,bm,by omega,by go_num,rfl,bn⟩
   case measure=>simp [intOf];omega
  ·obtain rfl:k=n:=by omega
   have g1:decide ((k:Int)<(k:Int))=false:=decide_eq_false (by omega);go_wp2;go_ret;exact⟨a,c,rfl,hR.out⟩
theorem GG (g:Nat) (u:Int) (Q:1≤u) (R:u≤247) (q:Rq) (I:q.ok=true) (w:World) (k:w.cell? ⟨g,6,M⟩=U (Y H u)) (i:∀j v,(#[Y H q.fn,Y H q.addr,Y H q.aF,Y H q.code,Y H q.obj]:Array Value).toList[j]?=U v→w.cell? ((⟨g,7,M⟩:Addr).add j)=U v):Calls Tryz.prog 36 #[.pointer (U ⟨g,0,M⟩)] w (zT w (aO u q)):=by
 obtain⟨x,z⟩:=Rq.lF q;have p:=bp (UInt8.ofNat u.toNat) q.bE;obtain⟨F,hF⟩:=gE (aO u q);have f:fj (UInt8.ofNat u.toNat) q.bE=F:=hF;have hu:((UInt8.ofNat u.toNat).toNat:Int)=u:=by
  rw[UInt8.toNat_ofNat'];omega
 have L:Hid (∀X,Calls Tryz.prog 81 #[.agg #[Y H q.fn,Y H q.addr,Y H q.aF,Y H q.code,Y H q.obj]] X (qy X q.bE)):=fun X=>GU q.fn q.addr q.aF q.code q.obj I X
 obtain⟨pn,G⟩:=gE q.bE.length;obtain⟨fn,D⟩:=gE F.length;have K:Hid (∀X a c,Bs X (J a pn c) q.bE→Calls Tryz.prog 82 #[Y H u,J a pn c] X fun r A=>∃a c,r=.returned (.tuple #[J a fn c,Y H 0])∧A.ownsRow X.heap.size 5 1 (J a fn c) fn (u8s F)∧Below X.heap.size X A):=fun X a c s=>by
  have e:=KA (UInt8.ofNat u.toNat) (by omega) (by omega) (J a pn c) q.bE (by omega) (by omega) X s;rw[hu] at e;refine e.mono ?_;rintro r A ⟨W,rfl,b,s⟩;obtain⟨P,c2,rfl⟩:=own_slice b;rw[f] at p b;rw[←p,D] at b ⊢;exact⟨P,c2,rfl,b,s⟩
 have n:=hid G;have E:=hid D;rw[hF];have O:Hid (∀X,Below w.heap.size w X→X.cell? ⟨g,6,M⟩=U (Y H u)):=fun X S=>cell_keep S k
 have o:=hid i;clear Q R I hF f hu p x z G D k i;go_enter Tryz.func36,Tryz.ntmps36;go_wp2_with (first
  |(refine aZ rfl 45 (.tmp 10) rfl ⟨g,7,M⟩ rfl #[Y H q.fn,Y H q.addr,Y H q.aF,Y H q.code,Y H q.obj] _ o.out Tryz.underlying45 rfl infoRq5 ?_)
  |(go_at_call 81;(with_reducible refine(L.out _).mono ?_);rintro r Z ⟨T,V,rfl,l,d⟩;rw[n.out] at l ⊢;have C:=l _ (ay.refl _ _);have u5:=O.out _ d)
  |(go_at_call 82;(with_reducible refine(K.out _ _ _ C).mono ?_);rintro r w3 ⟨fa,fc,rfl,b,t⟩))
 go_ret;refine⟨fa,fc,(by rw[E.out]<;>rfl),by rw[E.out];exact own_lower b d.size,bt d t (Nat.le_refl _)⟩
