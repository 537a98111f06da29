import Derived.Test.YtoaoejaodhedaaaGreatF09
namespace Go.Proofs.YtoaoejaodhedaaaGreat
open Go.RowKit
open Value renaming slice→V,int→N
open Option renaming none→J,some→M
open IntKind renaming i64→U
open Obj renaming cells→Y
set_option maxHeartbeats 12800000
set_option maxRecDepth 100000
theorem Z6 (sv:Value):yh L9 sv=#[sv,N U 1,N U 2,N U 1,N U 1000,N U 0,N U 0,N U 0,N U 0,N U 0,N U 100,N U 8,N U 0,N U 0,N U 1,N U 10000]:=rfl
theorem Jp (w:World):Calls Tryz.prog 51 #[] w fun r S=>∃sv,r=.returned (.agg (yh L9 sv))∧(∀X,ay w.heap.size S X→dw X sv L9.bj)∧Below w.heap.size w S:=by
 obtain⟨W0,l⟩:∃W,w.alloc (Y #[V none 0 0,N U 0,N U 0,N U 0,N U 0,N U 0,N U 0,N U 0,N U 0,N U 0,N U 0,N U 0,N U 0,N U 0,N U 0,N U 0] 27)=W:=⟨_,rfl⟩
 have L:Below w.heap.size w W0:=by rw[←l];exact bal' w _
 have k:W0.heap.size=w.heap.size+1:=by rw[←l];simp
 have O:W0.heap[w.heap.size]?=M (Y #[V none 0 0,N U 0,N U 0,N U 0,N U 0,N U 0,N U 0,N U 0,N U 0,N U 0,N U 0,N U 0,N U 0,N U 0,N U 0,N U 0] 27):=by rw[←l];exact hpNew w _
 obtain⟨y,z,m,P⟩:=eY W0 (Y #[N U 9600,N U 1] 61);have t:=hid l;have u:=hid z;have p:=hid L;have q:=hid m;have G:=hid k;have b:y.heap.size=w.heap.size+2:=by rw[←z];simp [k]
 have v:=hid b;clear l z L m k b;go_enter Tryz.func51,Tryz.ntmps51;go_upto_region 1 with(fail)
 rw[t.out];go_upto_region 3 with(fail)
 rw[u.out];obtain⟨W2,R,i,F⟩:=eY y (Y #[V (M ⟨W0.heap.size,0,J⟩) 1 1,N U 1,N U 2,N U 1,N U 1000,N U 0,N U 0,N U 0,N U 0,N U 0,N U 100,N U 8,N U 0,N U 0,N U 1,N U 10000] 27);rw[R];have b:y.heap.size=W0.heap.size+1:=by have:=v.out;have:=G.out;omega
 rw[b] at F;obtain⟨c,a⟩:∃C,(#[V (M ⟨W0.heap.size,0,J⟩) 1 1,N U 1,N U 2,N U 1,N U 1000,N U 0,N U 0,N U 0,N U 0,N U 0,N U 100,N U 8,N U 0,N U 0,N U 1,N U 10000]:Array Value)=C:=⟨_,rfl⟩
 have g:c.size=16:=by rw[←a];rfl
 have f:(Tryz.prog.info? 27).map (·.size)=M c.size:=by rw[g];kernel_rfl
 have B:c.toList.all (·.oneCell')=true:=by rw[←a];rfl
 rw[a] at F;have d:=bt q.out i (Nat.le_refl _);have D:=hpKeep O d;have Z:=hid (hpKeep P i);have s:=hid a;have rK:=hid d;have I:=hid g;clear R b a d i P O g;go_wp2_with (first
  |(refine wpList_load_row rfl 27 (.tmp 1) rfl (W0.heap.size+1) rfl 27 c (0,0) _ F Tryz.underlying27 rfl f ?_)
  |(refine wpList_storeW rfl 27 (.tmp 0) (.tmp 8) rfl w.heap.size 0 _ 27 c rfl rfl D (by simp [I.out]) f B ?_;intro T g9 o ab))
 have A:T.heap[w.heap.size]?=M (Y c 27):=by rw[g9,List.drop_eq_nil_of_le (by simp [I.out])];simp
 refine bodyPost_ret (results_cell_row rfl _ _ w.heap.size 27 c (0,0) _ rfl A Tryz.underlying27 rfl f) rfl ?_;have K:=rK.out;have hz:=G.out;refine⟨V (M ⟨W0.heap.size,0,J⟩) 1 1,by rw[Z6,s.out],fun X hX=>?_,(p.out.trans (K.mono (by omega))).trans (o.below (by have:=K.size;omega) (fun j hj e=>by omega))⟩;have Q:T.heap[W0.heap.size]?=M (Y #[N U 9600,N U 1] 61):=hpKeeps Z.out o (fun e=>by omega);have pX:X.heap[W0.heap.size]?=M (Y #[N U 9600,N U 1] 61):=by rw[hX.block _ (by omega) (hpLt Q)];exact Q
 refine gY.iq (base:=0) (E:=61) (n:=1) (cs:=cO L9.bj) ⟨rfl,.inr ⟨W0.heap.size,1,#[N U 9600,N U 1],rfl,Nat.zero_le _,pX,Nat.le_refl _,by decide,rfl,rfl⟩⟩ (mq L9.bj (fun x hx=>?_)) rfl;rw[List.mem_singleton.1 hx];exact⟨by unfold bT;decide,by unfold bT;decide⟩
theorem xaa:aU 9600 1:=⟨by decide,by decide,by decide⟩
theorem XX:wK.val:=by
 have a:¬(0:Int)<wK.lv:=by decide
 refine⟨xaa,by decide,by decide,fun k b=>?_,fun _=>rfl,by decide,by decide,fun e=>absurd e a,fun e=>absurd e a,fun e=>absurd e a,fun e=>absurd e a,fun e=>absurd e a⟩;rcases (show k=0∨k=1∨k=2∨k=3 by omega) with rfl|rfl|rfl|rfl
 ·exact ⟨fun _=>⟨rfl,rfl⟩,fun e=>(by cases e)⟩
 ·exact ⟨fun _=>⟨rfl,rfl⟩,fun e=>(by cases e)⟩
 ·exact ⟨fun e=>(by cases e),fun _=>⟨by decide,by decide,by decide,by decide⟩⟩
 ·exact ⟨fun _=>⟨rfl,rfl⟩,fun e=>(by cases e)⟩
theorem xaH:cW [wK]:=⟨by decide,fun s hs=>by
 have:s=wK:=by simpa using hs
 subst this
 exact XX⟩
theorem xdo:lg.ok ⟨[],false,[]⟩:=⟨by decide,(by rintro ⟨e,_⟩;cases e),by decide,fun i x h=>(by cases h),fun x a=>by cases a⟩
theorem xaA:(Tryz.prog.info? 55).map (·.size)=M 9:=by kernel_rfl
theorem pY (w:World):Calls Tryz.prog 13 #[] w fun r w'=>r=.returned (.bool true)∧Below w.heap.size w w':=by
 go_enter Tryz.func13,Tryz.ntmps13;go_upto_region 2 with(first
  |(go_at_call 50;(with_reducible refine(xaG _).mono ?_);rintro r w1 ⟨p,q,rfl,Mv⟩;obtain⟨C,hC⟩:=gE (ZM 9600 p q);rw[hC];have ad:C.size=19:=(by rw[←hC];rfl);have hi:(Tryz.prog.info? 68).map (·.size)=M C.size:=(by rw[←hC];exact dX);have bC:C.toList.all (·.oneCell')=true:=(by rw[←hC];rfl))
  |(refine wpList_storeW rfl 68 (.tmp 1) (.tmp 9) rfl w1.heap.size 0 _ 68 C rfl rfl (hpNew w1 _) (by simp [ad]) hi bC ?_;intro w2 g2 b8 dz))
 obtain⟨p2,bZ⟩:=cJ (by rw[ad];rfl) g2 b8;obtain⟨sb,Oq⟩:=gE w1.heap.size;rw[Oq] at p2 ⊢;have S:=hid Mv;have rK:=hid bZ;have c6:=hid Oq;have cz:=hid hC;have Jw:=hid p2;clear g2 b8 dz bZ Oq Mv hC bC hi p2;dsimp only[Act.put];go_upto_region 3 with(first
  |(go_at_call 51;(with_reducible refine(Jp _).mono ?_);rintro r w3 ⟨sv,rfl,Mu,v⟩;obtain⟨A,wk⟩:=gE (yh L9 sv);rw[wk];have T0:(Tryz.prog.info? 27).map (·.size)=M A.size:=(by rw[←wk];exact sj);have ab:A.size=16:=(by rw[←wk];rfl);have b5:A.toList.all (·.oneCell')=true:=(by rw[←wk];obtain⟨a9,c9,e9,-⟩:=Mu w3 (ay.refl _ _);rw[e9];rfl))
  |(refine wpList_storeW rfl 27 (.tmp 2) (.tmp 10) rfl w3.heap.size 0 _ 27 A rfl rfl (hpNew w3 _) (by simp [ab]) T0 b5 ?_;intro w4 g4 ca dE))
 obtain⟨p4,ft⟩:=cJ (by rw[ab];rfl) g4 ca;obtain⟨cb,NJ⟩:=gE w3.heap.size;rw[NJ] at p4 ⊢;obtain⟨b,o,cc,rfl,-,-,jU⟩:=(Mu w3 (ay.refl _ _)).at (k:=0) (x:=(9600,1)) rfl;have eb:sb<w3.heap.size:=Nat.lt_of_lt_of_le (hpLt Jw.out) v.size;have cn:=hpKeep (hpKeep Jw.out v) ft;have c0:w4.cell? ⟨cb,0,J⟩=M (V (M ⟨b,o,J⟩) 1 cc):=(hpCell p4 0).trans (by rw[←wk];rfl);have iA:∀j u,(#[N U 9600,N U 1]:Array Value).toList[j]?=M u→w4.cell? ((⟨b,o,J⟩:Addr).add j)=M u:=fun j u l=>by
  obtain⟨e0,e1⟩:=jU w4 ft;rw[Addr.add_lit];rcases j with _|_|j
  ·cases l;simpa using e0
  ·cases l;simpa using e1
  ·cases l
 have c5:=hid Mu;have E:=hid v;have Hq:=hid ft;have cX:=hid p4;have dR:=hid wk;have LH:=hid NJ;clear g4 ca dE ft v jU Mu wk NJ p4 b5;dsimp only[Act.put];go_upto_region 4 with(first
  |(refine aZ rfl 61 (.tmp 13) rfl ⟨b,o,J⟩ rfl #[N U 9600,N U 1] _ iA Tryz.underlying61 rfl uC ?_)
  |(refine wpList_storeW rfl 61 (.tmp 15) (.tmp 14) rfl sb 0 _ 68 #[N U 9600,N U 1] rfl rfl cn (by simp [ad]) uC rfl ?_;intro w5 g5 g dK))
 dsimp only[Act.put];obtain⟨D,hD⟩:∃D,SlC wK (fun k=>if k=2 then V (M ⟨q,0,J⟩) 1 1 else V none 0 0) (V none 0 0) (V (M ⟨p,0,J⟩) 2 2)=D:=⟨_,rfl⟩
 have p5:w5.heap[sb]?=M (Y D 68):=by rw[g5,←cz.out,←hD];rfl
 have b6:(Tryz.prog.info? 68).map (·.size)=M D.size:=by rw[←hD];exact dX
 have ds:D.size=19:=by rw[←hD];rfl
 have EY:=tQ wK (fun k=>if k=2 then V (M ⟨q,0,J⟩) 1 1 else V none 0 0) (V none 0 0) (V (M ⟨p,0,J⟩) 2 2) D hD;have z1:=S.out.b.size;have z2:=rK.out.size;have z3:=E.out.size;have z4:=Hq.out.size;have dq:=c6.out;have db:=LH.out;have K:Hid (Below w.heap.size w w5):=(((S.out.b.trans (rK.out.mono z1)).trans (E.out.mono (by omega))).trans (Hq.out.mono (by omega))).trans (g.below (by omega) (fun j l e=>by have e':j=sb:=e;omega));have aY:Keeps (· =sb) w2 w5:=((Keeps.af E.out).trans (Keeps.af Hq.out) (fun _ _ e=>e)).trans g (fun _ _ e=>e);have c4:Hid (∀X,Below w5.heap.size w5 X→nO X wK (fun k=>if k=2 then V (M ⟨q,0,J⟩) 1 1 else V none 0 0) (V none 0 0) (V (M ⟨p,0,J⟩) 2 2)):=fun X hX=>by
  have hs:=S.out.slr (X:=X) ⟨by have:=g.size;have:=hX.size;omega,fun j l hl=>by
   rw[hX.block j (by have:=aY.size;omega),aY.block j (by omega) (fun e=>by have e':j=sb:=e;omega),rK.out.block j hl]⟩ 9600 (by unfold bT;omega)
  obtain⟨a1,t,a3,a4,a5,a6,a7,a8⟩:=hs;exact⟨a1,t,a3,a4,a5,a6,a7,by show bT 1;unfold bT;omega⟩
 have Z:ay w2.heap.size w3 w5:=(ay.af Hq.out).trans (ay.dg (B:=w2.heap.size) g (fun j e=>by have e':j=sb:=e;have:=hpLt Jw.out;omega));have bx:Hid (∀X,ay w2.heap.size w5 X→dw X (V (M ⟨b,o,J⟩) 1 cc) L9.bj):=fun X hX=>c5.out X (Z.trans hX)
 have c8:Hid (w5.heap[cb]?=M (Y A 27)):=hpKeeps cX.out g (fun e=>by have e':cb=sb:=e;omega);have bo:Hid (Calls Tryz.prog 24 #[V (M ⟨w5.heap.size,0,J⟩) 1 1,.agg #[V none 0 0,.bool false,V none 0 0]] (w5.alloc (Y D 68)) (jx (w5.alloc (Y D 68)) [wK] false [])):=by
  refine sS [wK] ⟨[],false,[]⟩ _ 1 1 _ _ _ rfl (XR (c4.out _ (bal' w5 _)) ?_) (gY.nil _) (gY.nil _) xaH xdo;rw[hD];exact hpNew w5 _
 have eK:=hid p5;have dV:Hid (w2.heap.size≤w5.heap.size∧sb<w5.heap.size∧w.heap.size≤w5.heap.size):=by
  have:=Z.size;have:=K.out.size;have:=g.size;show _∧_∧_;omega
 clear iA cn c0 g5 g dK z1 z2 z3 z4 dq db eb aY hD Z;go_upto_region 5 with(first
  |(refine wpList_load_row rfl 68 (.tmp 1) rfl sb rfl 68 D (0,0) _ p5 Tryz.underlying68 rfl b6 ?_)
  |(go_at_call 24;(with_reducible refine bo.out.mono ?_);rintro r z cf;obtain⟨d,a,c,t,c2,rfl,VZ,bK,We,b4⟩:=cf.at xaH (fun x hx=>by cases hx) (fun e=>(by cases e))))
 have bm:Hid (cU (fun j=>j=d) z d (V a 1 c) (V t 0 c2) false Ln.zero):=VZ;have bc:Hid (IA (fun j=>j=d) z a 1 c t 0 c2 [wK] [] false):=bK;have VK:Below w5.heap.size w5 z:=bt (bal' w5 _) b4 (Nat.le_refl _);have F:Hid (Below w.heap.size w z):=K.out.trans (VK.mono K.out.size);have cl:=hpKeep c8.out VK;have eR:=T0;have Ze:Hid (Calls Tryz.prog 25 #[.agg A,.pointer (M ⟨d,0,J⟩),N U 0] z (FJ L9 (.pointer (M ⟨d,0,J⟩)) 0 z)):=by
  rw[←dR.out];exact CX L9 xaI _ d 0 (by decide) (by decide) z (bx.out _ (ay.af VK))
 have L:Hid (w.heap.size≤d∧w5.heap.size≤z.heap.size):=⟨by have h1:=We;rw[World.size_alloc] at h1;have:=dV.out;omega,VK.size⟩
 clear cf VZ bK We b4 VK p5 bo b6 ds EY;go_upto_region 6 with(first
  |(refine wpList_load_row rfl 27 (.tmp 2) rfl cb rfl 27 A (0,0) _ cl Tryz.underlying27 rfl T0 ?_)
  |(go_at_call 25;(with_reducible refine Ze.out.mono ?_);rintro r w7 ⟨i,m,rfl,b7,cy,cg,zu⟩))
 have bn:=hid (nV.start (f:=⟨a,1,c,t,0,c2,false,[wK],[]⟩) bm.out bc.out Ln.jE xaI b7 cy cg zu (Tx.new 9600 1 1 1000 0) (Lk.new 9600 1 1 1000 0));have G:Hid (Below w.heap.size w w7):=F.out.trans (zu.mono F.out.size);have R:Hid (w.heap.size≤i):=by have:=F.out.size;show _≤_;omega
 have ba:Hid (Calls Tryz.prog 26 #[.pointer (M ⟨i,0,J⟩),N U 0,N U 7,.agg #[N U 3,N U 12,N U 2,N U 0,N U 0]] w7 (Wh i d (fun j=>j=d∨j=i) L9 m ⟨a,1,c,t,0,c2,false,[wK],[]⟩ ⟨Ln.zero,true,GW,0,0⟩ 1 w7)):=
  (CU bn.out (show _=_ from rfl) 0 9600 1 rfl 7 3 12 2 0 0 (by decide) (by decide) 0 (by decide+kernel)).mono (fun r w' h=>h.2 rfl)
 have tg:Hid (∀(gj k:Nat) (P PL Q:Nat→Prop) (s:Lk) (X:World),k≤1→nV i d gj k P PL Q L9 m ⟨a,1,c,t,0,c2,false,[wK],[]⟩ ⟨Ln.zero,true,GW,0,0⟩ s X→Calls Tryz.prog 27 #[.pointer (M ⟨i,0,J⟩)] X (Wh i d P L9 m ⟨a,1,c,t,0,c2,false,[wK],[]⟩ ⟨OO,true,GW.aA IM,0,IM⟩ (k+1) X)):=fun gj k P PL Q s X hk hM=>by
  have h:=IS hM rfl rfl 0 9600 1 rfl rfl rfl xbd rfl (by rw[Ks];rfl) (by show 0≤90000000;decide) (by show 0≤1000000000;decide) (by omega) (NQ hM.G.Bq hM.G.ok ((Mr.of hM.sY).set (9600,1) (List.mem_of_getElem? (show L9.bj[0]?=M (9600,1) from rfl))) _ _ _ _);rw[Ks] at h;exact h
 have Cw:Hid (∀(gj k:Nat) (P PL Q:Nat→Prop) (s:Lk) (X:World),k≤2→nV i d gj k P PL Q L9 m ⟨a,1,c,t,0,c2,false,[wK],[]⟩ ⟨OO,true,GW.aA IM,0,IM⟩ s X→Calls Tryz.prog 23 #[.pointer (M ⟨i,0,J⟩)] X (MB i d gj P L9 m ⟨a,1,c,t,0,c2,false,[wK],[]⟩ xo 0 (k+(Du.mk OO (GW.aA IM)).mu) X)):=fun gj k P PL Q s X hk hM=>by
  have eA:=of_decide_eq_true Z8;have h:=zW hM rfl (.inl rfl) (by show k+(Du.mk OO (GW.aA IM)).mu≤_;omega);dsimp only at h;rw[Z7] at h;exact h
 clear b7 cy cg zu Ze bm bc T0 ab bx cl;go_upto_region 8 with(first
  |(go_at_call 26;(with_reducible refine ba.out.mono ?_);rintro r w8 ⟨ej,k8,ee,Q8,s8,rfl,bQ,y,cw⟩)
  |(go_at_call 27;(with_reducible refine(tg.out _ _ _ _ _ _ _ cw bQ).mono ?_);rintro r w9 ⟨et,k9,ef,Q9,s9,rfl,bX,cd,ea⟩))
 have cD:=hid bX;have Ya:Hid (k9≤2):=by show _≤_;omega
 have I:Hid (Below w.heap.size w w9):=by
  have z7:=G.out.size;have z8:=y.size;refine(G.out.trans (y.below z7 (fun j l e=>?_))).trans (cd.below (by omega) (fun j l e=>?_))
  ·have h1:=L.out
   have h2:=R.out;rcases e with e|e<;>omega
  ·have h1:=L.out
   have h2:=R.out;rcases e with(e|e)|e<;>omega
 have ct:=hid (Cw.out _ _ _ _ _ _ _ Ya.out cD.out);obtain⟨P9,W⟩:∃P,ax (ax (fun j=>j=d∨j=i) w7 w8) w8 w9=P:=⟨_,rfl⟩
 rw[W] at ct;have Zj:Hid (∀j,P9 j→w.heap.size≤j):=fun j l=>by
  have z7:=G.out.size;have z8:=y.size;have h1:=L.out;have h2:=R.out;rw[←W] at l;rcases l with((e|e)|e)|e<;>omega
 have Db:xo.x.shown=xo.x.out:=by unfold Tx.shown;rw[if_pos Pr]
 have zM:xo.x.shown.verdict=1:=by rw[Db];exact Kp.1
 have K4:xo.x.shown.ae.data.length=4:=by rw[Db];exact Kp.2
 have Ox:decide (xo.x.ph=5)=true:=by rw[Pr];rfl
 obtain⟨O,hO⟩:=gE xo.x.shown;rw[hO] at zM K4;have cj:((xo.n.aA.length:Nat):Int)=1:=by rw[R0];rfl
 have F9:=hid (And.intro zM (And.intro K4 (And.intro Ox cj)));have dt:=VD;obtain⟨NW,T⟩:=gE xo.x.now;rw[T] at dt;have cV:=hid T;have HO:=hid hO;clear bQ bX y cw cd ea Cw tg ba bn W Db zM K4 Ox cj T hO;go_upto_region 9 with(first
  |(go_at_call 23;(with_reducible refine ct.out.mono ?_);rintro r cp ⟨da,dc,oa,oc,eC,eQ,ei,eF,rfl,dv,cx,aX,dM⟩;rw[HO.out,F9.out.1,F9.out.2.1,F9.out.2.2.1];clear dv dM)
  |(refine wpList_storeW rfl 55 (.tmp 7) (.tmp 53) rfl cp.heap.size 0 _ 55 #[N U 1,N U O.ae.fn,N U O.ae.ar,V da 4 dc,N U O.ae.code,N U O.ae.level,.bool O.ae.more,N U O.ae.next,V oa O.ae.ag.length oc] rfl rfl (hpNew cp _) (by simp) xaA rfl ?_;intro n bA cv ec))
 obtain⟨ak,av⟩:=cJ (by rfl) bA cv;have ao:=cx.bW av;have HT:=hid (Km ao.ln);have HN:=hid (Xv ao);have c7:Hid (Calls Tryz.prog 20 #[.pointer (M ⟨d,0,J⟩)] n fun r w'=>r=.returned (N U 1)∧n=w'):=by
  have h:=HT.out;rw[show ((xo.n.aA.length:Nat):Int)=1 from F9.out.2.2.2] at h;exact h
 have cT:Hid (Calls Tryz.prog 28 #[.pointer (M ⟨i,0,J⟩)] n fun r w'=>r=.returned (N U NW)∧n=w'):=by
  rw[←cV.out];exact HN.out
 have c0:=cG ak 0 rfl;have c3:=cG ak 3 rfl;have dN:Hid (Below w.heap.size w n):=(I.out.trans (aX.below I.out.size (fun j l e=>by have:=Zj.out j e;omega))).trans (av.mono (by have:=I.out.size;have:=aX.size;omega));clear bA cv ec ak av ao cx aX HT HN;go_wp2_with (first
  |(go_at_call 28;(with_reducible refine cT.out.mono ?_);rintro r wx ⟨rfl,rfl⟩)
  |(go_at_call 20;(with_reducible refine c7.out.mono ?_);rintro r wx ⟨rfl,rfl⟩))
 go_ret;exact⟨rfl,dN.out⟩
