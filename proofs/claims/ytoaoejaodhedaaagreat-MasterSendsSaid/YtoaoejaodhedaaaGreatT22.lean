import Derived.Test.YtoaoejaodhedaaaGreatT21
namespace Go.Proofs.YtoaoejaodhedaaaGreat
open Go.RowKit
open Value renaming slice→J,int→Z
open Option renaming none→M,some→U
open IntKind renaming i64→O
open Obj renaming cells→D
open Ending renaming returned→G
set_option maxHeartbeats 12800000
set_option maxRecDepth 100000
variable {a:At} {lp:Bool} {x:Ch} {de st ti u:Int} {aC:List At} {l:List Sl} {s:Ln} {ac an g i j k lc ln n:Nat} {P:Nat→Prop} {aa ba la ta ta2:Option Addr} {p:Prop} {av pv sv v:Value} {w w':World}
theorem LnS.Kx {m E B b q:World} {o r c fn K:Nat} {cs:List Value} (A:LnS P m g sv av lp s (J ta o r) pv cs) (N6:s.aA.length=o) (bd pa:Int) (f:List UInt8) (MH:f.length=fn)
  (I:E.ownsRow m.heap.size 5 1 (J ba fn K) fn (u8s f)) (Y:Below m.heap.size m E) (z:Below E.heap.size E B) (cD:B.grownBy b (Value.slice ta o r).ownBlock) (fW:cZ B (J ta o r) (J ta2 (o+1) c))
  (t:b.ownsRow 0 95 3 (J ta2 (o+1) c) (o+1) (cs++[Value.int .i64 bd,Z O pa,J ba fn K])) (S:b.setCell ⟨g,4,M⟩ (J ta2 (o+1) c)=q) (en:Int):
  LnS (ax P m (q.setCell ⟨g,6,M⟩ (Z O en))) (q.setCell ⟨g,6,M⟩ (Z O en)) g sv av lp {s with aA:=s.aA++[((bd,pa),f)],free:=en} (J ta2 (o+1) c) pv (cs++[Value.int .i64 bd,Z O pa,J ba fn K])∧Keeps P m (q.setCell ⟨g,6,M⟩ (Z O en)):=by
 subst N6 MH S;have BA:g<m.heap.size:=hpLt A.at_;have z8:=Y.size;have z9:=z.size;have ab:=cD.size;have C:Below m.heap.size m B:=Y.trans (z.mono z8);have V:Keeps (fun j=>(Value.slice ta s.aA.length r).ownBlock=U j) B b:=Keeps.bJ cD (fun _ e=>e);have T:Keeps (fun j=>j=g) b ((b.setCell ⟨g,4,M⟩ (J ta2 (s.aA.length+1) c)).setCell ⟨g,6,M⟩ (Z O en)):=ks1 (ks1 (Keeps.refl (· =g) b) 4 _) 6 _;have Q:((b.setCell ⟨g,4,M⟩ (J ta2 (s.aA.length+1) c)).setCell ⟨g,6,M⟩ (Z O en)).heap.size=b.heap.size:=by simp
 have eK:Keeps (fun j=>j=g∨(Value.slice ta s.aA.length r).ownBlock=U j) m ((b.setCell ⟨g,4,M⟩ (J ta2 (s.aA.length+1) c)).setCell ⟨g,6,M⟩ (Z O en)):=
  ((Keeps.af (F:=fun j=>j=g∨(Value.slice ta s.aA.length r).ownBlock=U j) C).trans (V.mono (fun _ _ e=>.inr e)) (fun _ _ e=>e)).trans (T.mono (fun _ _ e=>.inl e)) (fun _ _ e=>e)
 have D:∀j,(Value.slice ta s.aA.length r).ownBlock=U j→j<m.heap.size:=fun j d=>A.pl j (A.tb j d).2
 have L:∀j,(Value.slice ta2 (s.aA.length+1) c).ownBlock=U j→(Value.slice ta s.aA.length r).ownBlock=U j∨(B.heap.size≤j∧j<b.heap.size):=fun j d=>by
  rcases fW with e|⟨i,e,y⟩
  ·exact .inl (by rw[←e];exact d)
  ·rw [d] at e
   cases e;exact .inr ⟨y,(t.lt j d).2⟩
 have G:=hpKeeps (hpKeep A.at_ C) V (fun e=>(A.tb g e).1 rfl);have X4:=own_keeps I (Keeps.af (F:=fun _=>False) z) (fun _ _ e=>e);have R:=own_keeps X4 V (fun j d e=>by have:=(I.lt j d).1;have:=D j e;omega);have W:=own_keeps R T (fun j d e=>by have:=(I.lt j d).1;omega);have N:∀j,(Value.slice ba f.length K).ownBlock=U j→m.heap.size≤j∧j<E.heap.size:=fun j d=>I.lt j d
 refine A.E1 (x:=((bd,pa),f)) eK (hpSet (hpSet G 4 _) 6 _) (own_keeps t T (fun j d e=>?_)) (fun j d=>?_) (fun X hX=>?_)
 ·rcases L j d with y|y
  ·exact (A.tb j y).1 e
  ·omega
 ·rcases L j d with y|y
  ·exact .inl y
  ·exact .inr ⟨by omega,by rw[Q];exact y.2⟩
 ·exact Bs.own (own_keeps W hX (fun j d e=>by
   have h1:=N j d
   rcases e with e|e
   ·omega
   ·rcases L j e with e|e
    ·have:=D j e
     omega
    ·omega))
theorem GQ (h:p:=by
 have hsn9:=own_keeps H7.out.sn (Keeps.af (F:=fun _=>False) (hB8.trans (hb9.mono hB8.size))) (fun _ _ e=>e);have hg9:=hpKeep (hpKeep H7.out.at_ hB8) hb9;rw[show ({s with pend:=(chsN (charT bd) st at_ R rn).foldl putL s.pend}:Ln).aA.length=tn from HHT.out] at hsn9;refine rdyH 10 rfl (fun K hK=>?_);refine step_appN rfl (.tmp 83) (.tmp 88) 88 rfl 0 95 i5 _ 3 40 Tryz.underlying88 hi hz0 hz1 hz2 rfl (by decide) (.slice ta tn tc) tn cs rfl hsn9 ⟨w8.heap.size,0,none⟩ 1 1 [Value.int .i64 bd,.int .i64 pa,.slice ba fn bc] rfl rfl (fun j u hj=>rowAtW n9 j u hj) (by intro u hu;simp only[List.mem_cons,List.not_mem_nil,or_false] at hu;rcases hu with rfl|rfl|rfl<;>rfl) (by have:=HTN.out;unfold maxLen;omega) (by have:=HTN.out;omega) (Nat.zero_le _) ?_;intro v10 w10 hown10 hgr10 hnew10;obtain⟨ta2,tc2,rfl⟩:=own_slice hown10;have k910:=Keeps.bJ (F:=fun j=>(Value.slice ta tn tc).ownBlock=some j) hgr10 (fun _ h=>h);have hs10:w10.heap[sb]?=some (.cells #[.int .i64 bd,.int .i64 pa] 61):=hpKeeps kS9 k910 (fun e=>HNB7.out (H7.out.tb _ e).2);have hg10:=hpKeeps hg9 k910 (fun e=>(H7.out.tb _ e).1 rfl);go_simp;refine hK.out _ _ hs10 (fun hSg=>?_);clear hK K;refine tG 11 90 ?_;refine tG 12 91 ?_;have e10:=cG hg10 4 rfl;have f10:=hpFree hg10 4;refine rdyH 13 rfl (fun K hK=>?_);go_simp;refine hK.out _ _ ((hpOther (by have:=HGN.out;omega)).trans hs10) (fun hSh=>?_);clear hK K;refine wpAnyH_done (by kernel_rfl) ?_ _;obtain⟨w11,hw11⟩:∃W,w10.setCell ⟨g,4,none⟩ (.slice ta2 (tn+1) tc2)=W:=⟨_,rfl⟩;have hg11:=hpSet hg10 4 (.slice ta2 (tn+1) tc2);rw[hw11] at hg11 ⊢;have e11:=cG hg11 6 rfl;have f11:=hpFree hg11 6;have HFI:=hid (HTF.out w8 X9 w10 w11 ba bc ta2 tc2 hob8 hB8 hb9 hgr10 hnew10 hown10 hw11);clear hw11 hg11 hg10 hg9 hs10 e10 f10 hgr10 hnew10 hown10 hsn9;go_wp2;go_ret2;exact HFI.out):p:=h
theorem Ld (h:cU P w g (J la ln lc) (J aa an ac) lp s) (Q:IA P w la ln lc aa an ac l aC lp)
  (bd pa:Int) (bm:Hid (aU bd pa)) (f1:bT bd) (f2:bT pa) (fa:Option Addr) (fn fc:Nat) (f:List UInt8) (hf:∀X,Keeps P w X→Bs X (J fa fn fc) f) (tick:Int) (he:s.j6 fn tick=0) (hm:s.pend.length≤90000000) (Bp:s.aA.length≤1000000000) (IY:kC s.pend (fM l (cA aC lp s.aA.length) bd pa f tick)):
  Calls Tryz.prog 74 #[.pointer (U ⟨g,0,M⟩),.agg #[Z O bd,Z O pa],J fa fn fc,Z O tick] w (zq P w g (J la ln lc) (J aa an ac) lp (s.send l aC lp bd pa f tick) (tick+aK bd fn)):=by
 obtain⟨tv,pv,cs,h⟩:=h;obtain⟨i5,hi,hz0,hz1,hz2⟩:=info_parts O7;have MH:f.length=fn:=(hf w (Keeps.refl _ _)).gT.1;have yZ:ia=1152921504606846976:=rfl;have TX:1≤fn∧fn≤256∧0≤tick∧tick≤ia∧¬tick<s.free:=by
  unfold Ln.j6 at he;split at he
  ·cases he
  ·split at he
   ·cases he
   ·split at he
    ·cases he
    ·omega
 obtain⟨n1,n2,k0,k1,k2⟩:=TX;have Kl:=gD bm.out n2;obtain⟨FT,UG⟩:=gE (aK bd fn);rw[UG] at Kl ⊢;obtain⟨en,N0⟩:∃x,tick+FT=x:=⟨_,rfl⟩
 obtain⟨t1,t2,t3,t4,t5,t6⟩:=bV bm.out;obtain⟨T3,Xp⟩:=gE (bq bd);rw[Xp] at t5 t6;obtain⟨at_,kL⟩:=gE (cA aC lp s.aA.length);have D7:at_.ok:=by rw[←kL];exact oG Q.ok lp _
 obtain⟨q1,q2,q3,q4,q5,q6⟩:=At.nC D7;obtain⟨C,hC⟩:=gE at_.C;have ad:(Tryz.prog.info? 70).map (·.size)=U C.size:=by rw[←hC];exact ga
 have a5:C.size=6:=by rw[←hC];rfl
 have bQ:C.toList.all (·.oneCell')=true:=by rw[←hC];rfl
 obtain⟨st,I⟩:=gE (tM bd at_ tick fn);have SS:=Bm bm.out D7 tick n2;rw[I] at SS;obtain⟨o,ak⟩:∃W,w.alloc (D #[Z O bd,Z O pa] 61)=W:=⟨_,rfl⟩
 have A:Below w.heap.size w o:=by rw[←ak];exact bal' w _
 obtain⟨sb,yN⟩:=gE w.heap.size;have pS:o.heap[sb]?=U (D #[Z O bd,Z O pa] 61):=by rw[←ak,←yN];exact hpNew w _
 obtain⟨ta,tc,rfl⟩:=own_slice h.sn;obtain⟨tn,N6⟩:=gE s.aA.length;have mr:=h.at_;rw[N6] at mr kL;have u9:Hid (∀X,Calls Tryz.prog 120 #[.agg #[Z O bd,Z O pa]] X fun r w'=>r=G (.bool true)∧Below X.heap.size X w'):=fun X=>svalid_ok bd pa bm.out X
 have a8:Hid (∀X,Calls Tryz.prog 102 #[.agg #[Z O bd,Z O pa],Z O (fn:Int)] X fun r w'=>r=G (Z O FT)∧Below X.heap.size X w'):=fun X=>by rw[←UG];exact sx bd pa bm fn n2 X
 have Ma:Hid (∀X,Calls Tryz.prog 125 #[.agg #[Z O bd,Z O pa]] X fun r w'=>r=G (Z O T3)∧Below X.heap.size X w'):=fun X=>by rw[←Xp];exact ux bd pa bm X
 have Xc:Hid (∀X,Below o.heap.size o X→Calls Tryz.prog 124 #[.pointer (U ⟨g,0,M⟩),Z O (tn:Int)] X fun r w'=>r=G (.agg C)∧Below X.heap.size X w'):=fun X m=>by
  have QJ:=bt A m (Nat.le_refl _);have e:=DW g aa an ac aC Q.Ph lp Q.Ru tn (by omega) X (hpCell (hpKeep mr QJ) 1) (hpCell (hpKeep mr QJ) 2) (Q.rd X (Keeps.af QJ)).2;rw[kL] at e;unfold qB at e;rw[hC] at e;exact e
 obtain⟨R,hR⟩:=gE (dL l at_ bd pa f);have Yo:R.length≤256:=by rw[←hR];exact je Q.Bq at_ bd pa f
 obtain⟨rn,dN⟩:=gE R.length;have bC:Hid (∀X,Below o.heap.size o X→Calls Tryz.prog 127 #[.pointer (U ⟨g,0,M⟩),.agg #[Z O bd,Z O pa],J fa fn fc,.agg C] X fun r w'=>∃a c,r=G (J a rn c)∧w'.ownsRow X.heap.size 5 1 (J a rn c) rn (u8s R)∧Below X.heap.size X w'):=fun X m=>by
  have QJ:=bt A m (Nat.le_refl _);have e:=DL g la lc ln l Q.Re Q.Bq bd pa f1 f2 fa fn fc f at_ D7 X (hpCell (hpKeep mr QJ) 0) (Q.rd X (Keeps.af QJ)).1 (hf X (Keeps.af QJ));rw[hC,hR] at e;unfold fX at e;rw[dN] at e;exact e
 have bn:kC s.pend (chsN (charT bd) st at_ R R.length):=by
  unfold fM at IY;rw[N6,kL,MH,I,hR] at IY;exact IY
 have a6:Hid (∀X ra rc,LnS P X g (J la ln lc) (J aa an ac) lp s (J ta tn tc) pv cs→(∀Y,Keeps P X Y→Bs Y (J ra rn rc) R)→Calls Tryz.prog 126 #[.pointer (U ⟨g,0,M⟩),.agg #[Z O bd,Z O pa],J ra rn rc,Z O st,.agg C] X (Gf P X g (J la ln lc) (J aa an ac) lp {s with pend:=(chsN (charT bd) st at_ R rn).foldl putL s.pend} (J ta tn tc) cs)):=fun X ra rc m hr=>by
  have e:=Kb m bd pa bm ra rn rc R hr (by omega) st (by omega) (by omega) at_ D7 hm bn;rw[hC,dN] at e;exact e
 have cb:Hid (s.send l aC lp bd pa f tick={s with aA:=s.aA++[((bd,pa),f)],pend:=(chsN (charT bd) st at_ R rn).foldl putL s.pend,free:=en}):=by
  show _=_;unfold Ln.send fM;rw[N6,kL,MH,I,hR,dN,UG,N0]
 have hI:Hid (st=en+T3+at_.bf+(if at_.fault=4 then at_.ai else 0)):=by
  show _=_;rw[←I];unfold tM;rw[UG,Xp,N0]
 have c4:∀X,Below o.heap.size o X→X.cell? ⟨g,4,M⟩=U (J ta tn tc):=fun X m=>hpCell (hpKeep (hpKeep mr A) m) 4
 have c6:∀X,Below o.heap.size o X→X.cell? ⟨g,6,M⟩=U (Z O s.free):=fun X m=>hpCell (hpKeep (hpKeep mr A) m) 6
 have s0:=cF pS 0 rfl;have s1:=cF pS 1 rfl;have x0:=s0 o (Below.refl _ _);have x1:=s1 o (Below.refl _ _);have DY:Hid (∀j,sb≤j→¬P j):=fun j hj e=>by have:=h.pl j e;omega
 have HGN:Hid (g<sb∧sb<o.heap.size):=by
  have:=hpLt h.at_;have:=hpLt pS;show _∧_;omega
 have g1:decide ((fn:Int)<1)=false:=decide_eq_false (by omega);have La:¬(fn:Int)<1:=by omega
 have g2:decide ((256:Int)<(fn:Int))=false:=decide_eq_false (by omega);have NM:¬(256:Int)<(fn:Int):=by omega
 have g3:decide (tick<0)=false:=decide_eq_false (by omega);have g4:decide ((1152921504606846976:Int)<tick)=false:=decide_eq_false (by omega);have g5:decide (tick<s.free)=false:=decide_eq_false k2;have v1:IntKind.i64.wrap (tick+FT)=en:=(IntWalk.i64_in _ (by omega)).trans N0;obtain⟨y1,Ue⟩:∃x,en+T3=x:=⟨_,rfl⟩
 have v2:IntKind.i64.wrap (en+T3)=y1:=(IntWalk.i64_in _ (by omega)).trans Ue;obtain⟨bf,vt⟩:=gE at_.bf;obtain⟨fault,kV⟩:=gE at_.fault;obtain⟨ai,ir⟩:=gE at_.ai;rw[vt] at q1 q2;rw[ir] at q5 q6;rw[vt,kV,ir,Ue] at hI;obtain⟨y2,Tm⟩:∃x,y1+bf=x:=⟨_,rfl⟩
 have v3:IntKind.i64.wrap (y1+bf)=y2:=(IntWalk.i64_in _ (by omega)).trans Tm;obtain⟨y3,ao⟩:∃x,y2+ai=x:=⟨_,rfl⟩
 have v4:IntKind.i64.wrap (y2+ai)=y3:=(IntWalk.i64_in _ (by omega)).trans ao;rw[Tm] at hI;have b6:=hid ao;have Mm:Hid (C[0]?=U (Z O bf)∧C[1]?=U (Z O fault)∧C[4]?=U (Z O ai)):=by
  show _∧_∧_;rw[←hC,←vt,←kV,←ir];exact⟨rfl,rfl,rfl⟩
 rw[N6] at h;have H:=hid h;have Fq:Hid (f.length≤256):=by show _≤_;omega
 have HTN:Hid (tn≤1000000000):=by show _≤_;omega
 have HF:=hid hf;have N:=hid A;have lh:=hid pS;have bx:=hid ak;have N1:=hid yN;have OC:=hid MH;have HHT:=hid N6;rw[N0];rw[cb.out];clear IY bn bm f1 f2 hf Q he hm Bp MH yZ n1 n2 k0 k1 k2 Kl UG N0 t1 t2 t3 t4 t5 t6 Xp kL D7 q1 q2 q3 q4 q5 q6 hC I SS ak A yN pS N6 mr hR Yo dN Ue Tm ao vt kV ir h;go_enter Tryz.func74,Tryz.ntmps74;go_upto_region 1 with(fail)
 rw[bx.out,N1.out];go_upto_region 13 with(first
  |(go_at_call 120;(with_reducible refine(u9.out _).mono ?_);rintro r w2 ⟨rfl,z⟩;have b8:=c4 _ z;have b7:=c6 _ z)
  |(go_at_call 124;(with_reducible refine(Xc.out _ z).mono ?_);rintro r w3 ⟨rfl,aX⟩)
  |(refine wpList_storeW rfl 70 (.tmp 10) (.tmp 48) rfl w3.heap.size 0 _ 70 C rfl rfl (hpNew w3 _) (by simp [a5]) ad bQ ?_;intro w4 g4 bA ca;obtain⟨p4,aY⟩:=cJ (by rw[a5];rfl) g4 bA;have k4:=bt (bt z aX (Nat.le_refl _)) aY (Nat.le_refl _);have Ve:=s0 _ k4;have UC:=s1 _ k4)
  |(go_at_call 102;(with_reducible refine(a8.out _).mono ?_);rintro r w5 ⟨rfl,a2⟩))
 have j4:Hid (Below o.heap.size o w5):=bt k4 a2 (Nat.le_refl _);obtain⟨tb,a7⟩:=gE w3.heap.size;rw[a7] at p4 ⊢;have Ei:=hid (hpKeep lh.out j4.out);have WJ:=hid (hpKeep p4 a2);have qU:Hid (sb<tb):=by have:=HGN.out;have:=z.size;have:=aX.size;show _<_;omega
 clear c4 c6 s0 s1 b8 b7 Ve UC x0 x1 g4 bA ca p4 k4 z aX aY a2 a7 bQ u9 Xc a8 bx v1;have x0:=cF Ei.out 0 rfl
 have x1:=cF Ei.out 1 rfl
 have a0:∀X,Below w5.heap.size w5 X→X.cell? ⟨tb,0,M⟩=U (Z O bf):=fun X m=>by rw[hpCell (hpKeep WJ.out m)];exact Mm.out.1
 have a1:∀X,Below w5.heap.size w5 X→X.cell? ⟨tb,1,M⟩=U (Z O fault):=fun X m=>by rw[hpCell (hpKeep WJ.out m)];exact Mm.out.2.1
 have a4:∀X,Below w5.heap.size w5 X→X.cell? ⟨tb,4,M⟩=U (Z O ai):=fun X m=>by rw[hpCell (hpKeep WJ.out m)];exact Mm.out.2.2
 have L:Below w5.heap.size w5 w5.drew:=(Below.refl _ _).drew;refine wp_region_held_drew (S:=fun V=>Below w5.heap.size w5 V) (by kernel_rfl) L (fun hH=>?_);clear hH;refine tG 0 55 ?_;refine tG 1 56 ?_;refine tG 4 59 ?_;refine tG 5 60 ?_;refine rdyH 2 rfl (fun K hK=>?_);go_simp;refine(Ma.out _).mono ?_;rintro r T ⟨rfl,bX⟩;have y:=bt L bX (Nat.le_refl _);refine hK.out _ _ y (fun b=>?_);clear hK K b;refine tG 3 58 ?_;refine tG 6 61 ?_;refine tkD 7 11 (v:=?_) rfl (by kernel_rfl) (fun _ _ _ h=>h) rfl (by rfl) (by assumption) ?_ ?_;rotate_left;(intro w bK;(try dsimp only at bK);(try go_simp);try rfl);refine wpAnyH_done (by kernel_rfl) ?_ _;have E:Hid (Below o.heap.size o T):=bt j4.out y (Nat.le_refl _);have IE:=hid (hpKeep Ei.out y);have ab:=hid (hpKeep WJ.out y);have Zh:=a1 _ y;have b4:=a4 _ y;clear x0 x1 a0 a1 a4 L bX y v2 v3 Ma;go_upto_if 64 with(fail)
 go_cut [11] from 64 to 68 (fun b5 wc=>b5=Z O st∧T=wc)
 case first=>
  by_cases h4:fault=4
  ·have e4:(fault==4)=true:=b1 h4
   have ug:Hid (y3=st):=by have:=hI.out;rw[if_pos h4] at this;show _=_;rw[this,←b6.out]
   clear h4;go_wp2;go_meet
   case rel=>exact⟨by rw[ug.out],rfl⟩
  ·have e4:(fault==4)=false:=b0 h4
   have ug:Hid (y2=st):=by have:=hI.out;rw[if_neg h4] at this;show _=_;rw[this,Int.add_zero]
   clear h4;go_wp2;go_meet
   case rel=>exact⟨by rw[ug.out],rfl⟩
 case rest=>
 obtain⟨rfl,Jk⟩:=hcut;subst Jk;clear Zh b4 v4;go_upto_region 16 with(fail)
 have z1:∀X:World,X.heap[sb]?=U (D #[Z O bd,Z O pa] 61)∧X.heap[tb]?=U (D C 70)→X.cell? ⟨sb,0,M⟩=U (Z O bd):=fun X m=>hpCell m.1 0
 have z2:∀X:World,X.heap[sb]?=U (D #[Z O bd,Z O pa] 61)∧X.heap[tb]?=U (D C 70)→X.cell? ⟨sb,1,M⟩=U (Z O pa):=fun X m=>hpCell m.1 1
 have L:Below T.heap.size T T.drew:=(Below.refl _ _).drew;have kS:T.drew.heap[sb]?=U (D #[Z O bd,Z O pa] 61)∧T.drew.heap[tb]?=U (D C 70):=⟨hpKeep IE.out L,hpKeep ab.out L⟩
 refine wp_region_held_drew (S:=fun V=>V.heap[sb]?=U (D #[Z O bd,Z O pa] 61)∧V.heap[tb]?=U (D C 70)) (by kernel_rfl) kS (fun hH=>?_);clear hH;refine tG 0 69 ?_;refine tG 1 70 ?_;refine tG 2 71 ?_;refine tG 3 72 ?_;refine tG 4 73 ?_;refine tkD 5 74 (v:=.agg C) rfl (by kernel_rfl) (fun _ _ _ h=>h) rfl (by rfl) (by assumption) (fun X m=>bP 70 (.tmp 10) rfl ⟨tb,0,M⟩ rfl C _ (fun j v hj=>rowAtW m.2 j v hj) Tryz.underlying70 rfl ad) ?_;simp only[setS];refine tG 7 76 ?_;refine tkD 8 77 (v:=.agg C) rfl (by kernel_rfl) (fun _ _ _ h=>h) rfl (by rfl) (by assumption) (fun X m=>bP 70 (.tmp 10) rfl ⟨tb,0,M⟩ rfl C _ (fun j v hj=>rowAtW m.2 j v hj) Tryz.underlying70 rfl ad) ?_;simp only[setS];refine rdyH 6 rfl (fun K hK=>?_);go_simp;refine(bC.out _ (bt E.out L (Nat.le_refl _))).mono ?_;rintro r wa ⟨ra,rc,rfl,Ja,a3⟩;have XG:=bt L a3 (Nat.le_refl _);have VG:wa.heap[sb]?=U (D #[Z O bd,Z O pa] 61)∧wa.heap[tb]?=U (D C 70):=⟨hpKeep IE.out XG,hpKeep ab.out XG⟩
 refine hK.out _ _ VG (fun b=>?_);clear hK K b;refine rdyH 9 rfl (fun K hK=>?_);go_simp;have W9:Below w.heap.size w wa:=(N.out.trans (E.out.mono N.out.size)).trans (XG.mono (by have:=N.out.size;have:=E.out.size;omega));have Ha:=H.out.bW W9;have CB:w.heap.size≤T.heap.size:=by have:=N.out.size;have:=E.out.size;omega
 refine(a6.out _ _ _ Ha (fun Y hY=>Bs.own (own_keeps Ja hY (fun j hj e=>by have h1:=(Ja.lt j hj).1;have h2:=L.size;exact DY.out j (by have:=N1.out;omega) e)))).mono ?_;rintro r t ⟨rfl,⟨cj,h7⟩,B⟩;have Zd:t.heap[sb]?=U (D #[Z O bd,Z O pa] 61)∧t.heap[tb]?=U (D C 70):=⟨hpKeeps VG.1 B (DY.out sb (Nat.le_refl _)),hpKeeps VG.2 B (DY.out tb (by have:=qU.out;omega))⟩
 refine hK.out _ _ Zd (fun b=>?_);clear hK K b;refine wpAnyH_done (by kernel_rfl) ?_ _;have Li:=hid Zd.1;have H7:=hid h7;have Jd:Hid (Keeps P w t):=(Keeps.af (F:=P) W9).trans B (fun _ _ e=>e);have a9:Hid (w.heap.size≤wa.heap.size∧wa.heap.size≤t.heap.size∧sb<wa.heap.size):=by
  have:=W9.size;have:=B.size;have:=hpLt VG.1;show _∧_∧_;omega
 have HNB7:Hid (¬ax P wa t sb):=fun e=>by
  rcases e with e|e
  ·exact DY.out sb (Nat.le_refl _) e
  ·have:=a9.out;omega
 have xX:Hid (∀X,Below t.heap.size t X→Calls Tryz.prog 80 #[J fa fn fc] X fun r w'=>∃v',r=G v'∧w'.ownsRow t.heap.size 5 1 v' f.length (u8s f)∧Below X.heap.size X w'):=fun X m=>(bY _ f X (HF.out X (Jd.out.trans (Keeps.af (F:=P) m) (fun _ _ e=>e))) (by have:=Fq.out;omega)).mono fun r w' ⟨v',h1,h2,h3⟩=>⟨v',h1,own_lower h2 m.size,h3⟩
 clear z1 z2 L kS VG Zd a3 XG Ja W9 Ha h7 B CB bC a6 IE ab E;have HTF:Hid (∀w8 X9 w10 w11 ba bc ta2 tc2,w8.ownsRow t.heap.size 5 1 (J ba fn bc) fn (u8s f)→Below t.heap.size t w8→Below w8.heap.size w8 X9→X9.grownBy w10 (Value.slice ta tn tc).ownBlock→cZ X9 (J ta tn tc) (J ta2 (tn+1) tc2)→
   w10.ownsRow 0 95 3 (J ta2 (tn+1) tc2) (tn+1) (cs++[Value.int .i64 bd,Z O pa,J ba fn bc])→w10.setCell ⟨g,4,M⟩ (J ta2 (tn+1) tc2)=w11→
   zq P w g (J la ln lc) (J aa an ac) lp {s with aA:=s.aA++[((bd,pa),f)],pend:=(chsN (charT bd) st at_ R rn).foldl putL s.pend,free:=en} en (G (.tuple #[Z O en,Z O 0])) (w11.setCell ⟨g,6,M⟩ (Z O en))):=fun w8 X9 w10 w11 ba bc ta2 tc2 e1 e2 e3 e4 e5 e6 e7=>by
  obtain⟨k1,k2⟩:=H7.out.Kx HHT.out bd pa f OC.out e1 e2 e3 e4 e5 e6 e7 en;obtain⟨u1,u2,u3⟩:=a9.out;have u4:=k2.size;refine⟨rfl,⟨_,_,_,k1.mono (fun j hj=>?_) (fun j hj=>hj.lt (fun j hj=>H.out.pl j hj) (by omega))⟩,Jd.out.trans k2 (fun i hi e=>?_)⟩
  ·rcases hj with(e|⟨e,e2⟩)|⟨e,e2⟩
   ·exact .inl e
   ·exact .inr ⟨by omega,by omega⟩
   ·exact .inr ⟨by omega,e2⟩
  ·rcases e with e|e
   ·exact e
   ·omega
 obtain⟨cg,cd,VU,-⟩:=H7.out.pn.len;obtain⟨cf,SK⟩:∃n,({s with pend:=(chsN (charT bd) st at_ R rn).foldl putL s.pend}:Ln).pend.length=n:=⟨_,rfl⟩
 rw[SK] at VU;subst VU;clear SK;have z1:∀X:World,X.heap[sb]?=U (D #[Z O bd,Z O pa] 61)→X.cell? ⟨sb,0,M⟩=U (Z O bd):=fun X m=>hpCell m 0
 have z2:∀X:World,X.heap[sb]?=U (D #[Z O bd,Z O pa] 61)→X.cell? ⟨sb,1,M⟩=U (Z O pa):=fun X m=>hpCell m 1
 have kE:Below t.heap.size t t.drew:=(Below.refl _ _).drew;have kS:t.drew.heap[sb]?=U (D #[Z O bd,Z O pa] 61):=hpKeep Li.out kE;have d0:t.drew.cell? ⟨g,4,M⟩=U (J ta tn tc):=hpCell (hpKeep H7.out.at_ kE) 4;go_upto_region 17 with(fail)
 refine wp_region_held_drew (S:=fun V=>V.heap[sb]?=U (D #[Z O bd,Z O pa] 61)) (by kernel_rfl) kS (fun hH=>?_);clear hH;refine tG 0 79 ?_;refine tG 1 80 ?_;refine tG 2 81 ?_;refine tG 3 82 ?_;refine tG 5 84 ?_;refine tG 6 85 ?_;refine wpAnyH_ready (rs:=[4,7]) (by kernel_rfl) (by simp) ?_;refine AllReadyH.cons rfl (fun K hK=>?_) (AllReadyH.cons rfl (fun K hK=>?_) AllReadyH.nil)
 ·go_simp
  refine hK.out _ _ kS (fun b=>?_);clear hK K b;refine rdyH 7 rfl (fun K hK=>?_);go_simp;refine(xX.out _ kE).mono ?_;rintro r w8 ⟨cc,rfl,hob8,BD⟩;obtain⟨ba,bc,rfl⟩:=own_slice hob8;rw[OC.out] at hob8 ⊢;have hB8:=bt kE BD (Nat.le_refl _);have Q3:=hpKeep Li.out hB8;refine hK.out _ _ Q3 (fun b=>?_);clear hK K b;refine tG 8 87 ?_;refine rdyH 9 rfl (fun K hK=>?_);go_simp;obtain⟨X9,NI,hb9,n9⟩:=eY w8 (D #[Z O bd,Z O pa,J ba fn bc] 95);rw[NI];have kS9:=hpKeep Q3 hb9;clear NI;refine hK.out _ _ kS9 (fun b=>?_);clear hK K b;exact GQ
 ·go_simp
  refine(xX.out _ kE).mono ?_;rintro r w8 ⟨cc,rfl,hob8,BD⟩;obtain⟨ba,bc,rfl⟩:=own_slice hob8;rw[OC.out] at hob8 ⊢;have hB8:=bt kE BD (Nat.le_refl _);have Q3:=hpKeep Li.out hB8;refine hK.out _ _ Q3 (fun b=>?_);clear hK K b;refine tG 8 87 ?_;refine wpAnyH_ready (rs:=[4,9]) (by kernel_rfl) (by simp) ?_;refine AllReadyH.cons rfl (fun K hK=>?_) (AllReadyH.cons rfl (fun K hK=>?_) AllReadyH.nil)
  ·have d8:w8.cell? ⟨g,4,M⟩=U (J ta tn tc):=hpCell (hpKeep H7.out.at_ hB8) 4
   go_simp;refine hK.out _ _ Q3 (fun b=>?_);clear hK K b;refine rdyH 9 rfl (fun K hK=>?_);go_simp;obtain⟨X9,NI,hb9,n9⟩:=eY w8 (D #[Z O bd,Z O pa,J ba fn bc] 95);rw[NI];have kS9:=hpKeep Q3 hb9;clear NI;refine hK.out _ _ kS9 (fun b=>?_);clear hK K b;exact GQ
  ·go_simp
   obtain⟨X9,NI,hb9,n9⟩:=eY w8 (D #[Z O bd,Z O pa,J ba fn bc] 95);rw[NI];have kS9:=hpKeep Q3 hb9;clear NI;refine hK.out _ _ kS9 (fun b=>?_);clear hK K b;have d9:X9.cell? ⟨g,4,M⟩=U (J ta tn tc):=hpCell (hpKeep (hpKeep H7.out.at_ hB8) hb9) 4;refine rdyH 4 rfl (fun K hK=>?_);go_simp;refine hK.out _ _ kS9 (fun b=>?_);clear hK K b;exact GQ
theorem infoEvW:(Tryz.prog.info? 132).map (·.size)=U 3:=by kernel_rfl
theorem Jt:(Tryz.prog.info? 174).map (·.size)=U 4:=by kernel_rfl
theorem MR (h:p:=by
 go_enter Tryz.func59,Tryz.ntmps59
 go_upto_region 1 with(fail)
 rw[HW1.out]
 go_wp2_with (refine wpList_storeW rfl 132 (.tmp 4) (.tmp 29) rfl w.heap.size 0 _ 132 #[.int .i64 0,.int .u8 0,.int .i64 0] rfl rfl pZ (by simp) infoEvW rfl ?_;intro w8 g8 hk8 hz8)
 have g9:w8.heap[w.heap.size]?=some (.cells #[.int .i64 0,.int .u8 0,.int .i64 0] 132):=g8
 refine bodyPost_ret (results_ct_row rfl _ _ w.heap.size 132 _ (0,0) _ rfl g9 Tryz.underlying132 rfl infoEvW) rfl ?_
 exact⟨rfl,HB1.out.trans (hk8.below HB1.out.size (fun j hj e=>by omega))⟩):p:=h
theorem sg (h:cU P w g sv av lp s) (m:Int) (c:s.due m=false):Calls Tryz.prog 59 #[.pointer (U ⟨g,0,M⟩),Z O m] w fun r w'=>r=G (.tuple #[.agg #[Z O 0,Z .u8 0,Z O 0],.bool false])∧Below w.heap.size w w':=by
 obtain⟨L,pv,cs,h⟩:=h;obtain⟨f,d⟩:∃W,w.alloc (D #[Z O 0,Z .u8 0,Z O 0] 132)=W:=⟨_,rfl⟩
 have b:Below w.heap.size w f:=by rw[←d];exact bal' w _
 have q:f.cell? ⟨g,5,M⟩=U pv:=hpCell (hpKeep h.at_ b) 5;have pZ:f.heap[w.heap.size]?=U (D #[Z O 0,Z .u8 0,Z O 0] 132):=by rw[←d];exact hpNew w _
 have HW1:=hid d;have HB1:=hid b;cases hp:s.pend with
 |nil=>
  obtain⟨pa,z,e,-⟩:=h.pn.len;rw[hp] at e;subst e;replace q:f.cell? ⟨g,5,M⟩=U (J pa 0 z):=q;clear h d b c hp;exact MR
 |cons x r=>
  have R:decide (m<x.at_)=true:=by
   unfold Ln.due at c;rw[hp] at c;dsimp only at c;have:=of_decide_eq_false c;exact decide_eq_true (by omega)
  have t:=h.pn;rw[hp] at t;rcases t with⟨_,e⟩|⟨pg,A,z,N,rfl,y,F,E,B,C⟩
  ·cases e
  ·have y0:f.cell? ⟨pg,A,M⟩=U (Z O x.at_):=cell_keep b (y.cell (j:=0) rfl)
   obtain⟨n,o⟩:∃n,(x::r).length=n:=⟨_,rfl⟩
   have I:0<n:=by rw[←o];exact Nat.succ_pos _
   have K:(0:Int)<(n:Int):=by omega
   have S:¬n=0:=by omega
   have Q:((n:Int)==0)=false:=b0 (by omega);rw[o] at q;clear h d b c hp y F E B C o;exact MR
theorem wu {l:List Ch} (h:jN P w v (x::l)):
  ∃m,(∀W,(Instr.slice 123 v (U (Z O 1)) none none).run Tryz.prog W=.ok m W)∧jN P w m l:=by
 rcases h with⟨_,e⟩|⟨g,o,c,N,rfl,q,E,G,I,y⟩
 ·cases e
 ·obtain ⟨i,hi,A,d,D⟩:=info_parts Iq
  have hle:=q.le;rw[List.length_cons] at E hle;have B:¬((l.length:Int)+1<1):=by omega
  obtain⟨t,r,b,F⟩:=q.h;by_cases z:c=1
  ·subst z
   have C:l=[]:=List.eq_nil_of_length_eq_zero (by omega);subst C;refine⟨J (U ⟨g,o,M⟩) 0 0,fun W=>?_,.inr ⟨g,o,0,N,rfl,⟨⟨t,r,b,fun j u f=>by cases f⟩,by show o+0*4≤N;omega⟩,Nat.le_refl _,Nat.zero_le _,by omega,y⟩⟩;simp [Instr.slice,Instr.sliceBounds,Instr.sliceBound,run_underlying Tryz.underlying123,asIntOf,sizeOf,typeInfo,hi]
  ·refine ⟨J (U ⟨g,o+4,M⟩) l.length (c-1),fun W=>?_,.inr ⟨g,o+4,c-1,N,rfl,⟨⟨t,r,b,fun j u f=>?_⟩,by omega⟩,by omega,by omega,by omega,y⟩⟩
   ·simp [Instr.slice,Instr.sliceBounds,Instr.sliceBound,run_underlying Tryz.underlying123,asIntOf,sizeOf,typeInfo,hi,d,Addr.add,z,B]
   ·have:=F (4+j) u (by
     show (oe x++rD l)[4+j]?=U u
     rw[List.getElem?_append_right (show 4≤4+j by omega),show 4+j- (oe x).length=j by show 4+j-4=j;omega]
     exact f)
    rw[←Nat.add_assoc] at this;exact this
theorem CR (h:cU P w g sv av lp s) (cX:s.ok) (x:Ch) (r:List Ch) (hp:s.pend=x::r) (lV:Int) (hx:x.at_≤lV):
  Calls Tryz.prog 59 #[.pointer (U ⟨g,0,M⟩),Z O lV] w fun e w'=>e=G (.tuple #[.agg #[Z O x.at_,Z .u8 x.val,Z O (s.ev x).fl],.bool true])∧cU (ax P w w') w' g sv av lp (s.next x r)∧Keeps P w w':=by
 obtain⟨tv,pv,cs,h⟩:=h;obtain⟨d,ak⟩:∃W,w.alloc (D #[Z O 0,Z .u8 0,Z O 0] 132)=W:=⟨_,rfl⟩
 have f:Below w.heap.size w d:=by rw[←ak];exact bal' w _
 have a9:d.heap.size=w.heap.size+1:=by rw[←ak];simp
 have pZ:d.heap[w.heap.size]?=U (D #[Z O 0,Z .u8 0,Z O 0] 132):=by rw[←ak];exact hpNew w _
 have bn:=cX.ch x (by rw[hp];exact List.mem_cons_self);have QZ:=h.pn.QM;rw[hp] at QZ;obtain⟨v',Hl,J0⟩:=wu QZ;obtain⟨Y,V,e',-⟩:=J0.len;subst e';have a6:=h.pn;rw[hp] at a6;rcases a6 with⟨_,e⟩|⟨pg,po,pc,N,rfl,kL,-⟩
 ·cases e
 obtain⟨n,hn⟩:∃n,(x::r).length=n:=⟨_,rfl⟩
 obtain⟨m,hm⟩:=gE r.length;have rB:0<n:=by rw[←hn];exact Nat.succ_pos _
 have j7:(0:Int)<(n:Int):=by omega
 have iL:¬n=0:=by omega
 have OI:((n:Int)==0)=false:=b0 (by omega);have T:=h.at_;rw[hn] at T Hl;rw[hm] at Hl J0;have HH:=hid h;have om:decide (lV<x.at_)=false:=decide_eq_false (by omega);obtain⟨XC,RZ⟩:∃C:Array Value,(#[Z O x.at_,Z .u8 x.val,Z O x.fl,Z O x.du]:Array Value)=C:=⟨_,rfl⟩
 have ow:(Tryz.prog.info? 174).map (·.size)=U XC.size:=by rw[←RZ];exact Jt
 have bm:XC.size=4:=by rw[←RZ];rfl
 have yR:XC.toList.all (·.oneCell')=true:=by rw[←RZ];rfl
 have cd:∀X,Below d.heap.size d X→∀j u,XC.toList[j]?=U u→X.cell? ((⟨pg,po,M⟩:Addr).add j)=U u:=fun X hX j u o=>by
  rw[Addr.add_lit];rw[←RZ] at o;exact cell_keep hX (cell_keep f (kL.cell (j:=j) (by
   show (oe x++rD r)[j]?=U u
   rw[List.getElem?_append_left (show j<(oe x).length from (List.getElem?_eq_some_iff.1 o).1)]
   exact o)))
 have y0:d.cell? ⟨pg,po,M⟩=U (Z O x.at_):=cell_keep f (kL.cell (j:=0) rfl);have c5:d.cell? ⟨g,5,M⟩=U (J (U ⟨pg,po,M⟩) n pc):=hpCell (hpKeep T f) 5;have f5:∀X,Below d.heap.size d X→X.frozen? ⟨g,5,M⟩=false:=fun X hX=>hpFree (hpKeep (hpKeep T f) hX) 5
 have a3:∀X,Below d.heap.size d X→X.cell? ⟨g,5,M⟩=U (J (U ⟨pg,po,M⟩) n pc):=fun X hX=>hpCell (hpKeep (hpKeep T f) hX) 5
 have Gd:=hid (cd d (Below.refl _ _));have j5:=hid T;have aX:=hid f;have cc:=hid ak;have ad:=hid a9;have bQ:=hid pZ;have Wt:=hid J0;have Q:=hid bn;have SI:=hid cX;have b4:=hid RZ;have HP:=hid hp;have Ir:=hid (And.intro hn hm);clear h cX kL QZ J0 cd T f ak a9 pZ hp bn RZ hn hm hx;go_enter Tryz.func59,Tryz.ntmps59;go_upto_region 1 with(fail)
 rw[cc.out];go_upto_region 4 with(first
  |(refine aZ rfl 174 (.tmp 34) rfl ⟨pg,po,M⟩ rfl XC _ Gd.out Tryz.underlying174 rfl ow ?_)
  |(refine wpList_storeW rfl 174 (.tmp 6) (.tmp 35) rfl d.heap.size 0 _ 174 XC rfl rfl (hpNew d _) (by simp [bm]) ow yR ?_;intro w3 g3 bC DF;obtain⟨p3,q⟩:=cJ (by rw[bm];rfl) g3 bC;have bA:=a3 _ q;have cf:=f5 _ q))
 dsimp only[Act.put];go_upto_region 5 with(fail)
 obtain⟨I,nN⟩:∃W,w3.setCell ⟨g,5,M⟩ (J Y m V)=W:=⟨_,rfl⟩
 obtain⟨c,zU⟩:=gE d.heap.size;rw[zU] at p3;rw[nN,zU];have a4:=hpKeep (hpKeep j5.out aX.out) q;have BA:g<w.heap.size:=hpLt j5.out;have Y7:¬c=g:=by have:=ad.out;omega
 have LS:Keeps (· =g) w3 I:=by rw[←nN];exact ks1 (Keeps.refl (· =g) w3) 5 _
 have aY:I.heap[g]?=U (D (Ia sv av lp (J none 0 0) tv (J Y m V) s.free s.heard s.last) 125):=by rw[←nN];exact hpSet a4 5 _
 have ZH:I.heap[c]?=U (D #[Z O x.at_,Z .u8 x.val,Z O 0,Z O x.du] 174):=by
  have:=hpKeeps p3 LS Y7;rw[←b4.out,Q.out.fl] at this;exact this
 have a7:=bt aX.out q (Nat.le_refl _);have XA:Hid (Keeps (· =g) w I):=(Keeps.af (F:=(· =g)) a7).trans LS (fun _ _ e=>e);have bX:Hid (I.heap[w.heap.size]?=U (D #[Z O 0,Z .u8 0,Z O 0] 132)):=hpKeeps (hpKeep bQ.out q) LS (fun e=>by have e':w.heap.size=g:=e;omega);have xX:Hid (w.heap.size<c∧c<I.heap.size∧w.heap.size+1=c):=by
  have:=ad.out;have:=hpLt ZH;show _∧_∧_;omega
 have Y6:=hid Y7;have WE:=hid aY;have S:=hid ZH;clear nN zU p3 a4 LS aY ZH a7 bA cf q y0 c5 a3 f5 Hl Y7 BA;obtain⟨fl,nG⟩:=gE ((s.ev x).fl);obtain⟨b,FZ⟩:=gE x.at_;obtain⟨hd,Xa⟩:=gE s.heard;obtain⟨Xd,Gi⟩:=gE s.last;obtain⟨du,Tv⟩:=gE x.du;obtain⟨Xj,Qz⟩:=gE s.free;obtain⟨z,hz⟩:∃y,Xd+du=y:=⟨_,rfl⟩
 have S3:fl=if hd=true∧b<z then 2 else 0:=by rw[←nG,←hz,←Xa,←FZ,←Gi,←Tv];rfl
 obtain⟨B,hB⟩:∃B:Bool,(B=true↔hd=true∧b<z):=bU;obtain⟨u0,u1⟩:96≤du∧du≤9167:=by rw[←Tv];exact⟨Q.out.d0,Q.out.d1⟩
 obtain⟨u2,u3⟩:0≤Xd∧Xd≤ia+33554432:=by rw[←Gi];exact⟨SI.out.l0,SI.out.l1⟩
 have yZ:ia=1152921504606846976:=rfl;rw[yZ] at u3;have v1:IntKind.i64.wrap (Xd+du)=z:=(IntWalk.i64_in _ (by omega)).trans hz;rw[Qz,Xa,Gi] at WE;rw[FZ,Tv] at S;rw[FZ];have h7:=cG WE.out 7 rfl;have h8:=cG WE.out 8 rfl;have e0:=cG S.out 0 rfl;have e3:=cG S.out 3 rfl;have A:=hid hB;have R:=hid S3;have vu:=hid (And.intro nG (And.intro FZ (And.intro Xa (And.intro Gi (And.intro Tv Qz)))));clear hB S3 nG FZ Xa Gi Tv Qz hz u0 u1 u2 u3 yZ;go_cut [60] from 44 to 60 (fun b8 wc=>b8=.bool B∧Below I.heap.size I wc)
 case first=>
  cases hd with
  |false=>
   have ug:Hid (B=false):=by cases B with
    |false=>rfl
    |true=>exact absurd (A.out.1 rfl).1 Bool.noConfusion
   clear A R vu;go_quiet (fail);go_wp2;go_meet
   case rel=>exact⟨by rw[ug.out],below_drewN (Below.refl _ _) _⟩
  |true=>
   by_cases t:b<z
   ·have ug:Hid (B=true):=A.out.2 ⟨rfl,t⟩
    have g1:decide (b<z)=true:=decide_eq_true t;clear A R vu t;go_quiet (fail);go_wp2;go_meet
    case rel=>exact⟨by rw[ug.out],below_drewN (Below.refl _ _) _⟩
   ·have ug:Hid (B=false):=by cases B with
     |false=>rfl
     |true=>exact absurd (A.out.1 rfl).2 t
    have g1:decide (b<z)=false:=decide_eq_false t;clear A R vu t;go_quiet (fail);go_wp2;go_meet
    case rel=>exact⟨by rw[ug.out],below_drewN (Below.refl _ _) _⟩
 case rest=>
 obtain⟨rfl,mM⟩:=hcut;have e2:wc.cell? ⟨c,2,M⟩=U (Z O 0):=hpCell (hpKeep S.out mM) 2;have f2:wc.frozen? ⟨c,2,M⟩=false:=hpFree (hpKeep S.out mM) 2;have o1:bits .or .i64 0 2=2:=by decide
 have E:=hid mM;clear h7 h8 e0 e3 v1 mM;go_upto_if 60 with(fail)
 go_cut [] from 60 to 66 (fun wd=>Hid (wd.heap[c]?=U (D #[Z O b,Z .u8 x.val,Z O fl,Z O du] 174)∧Keeps (· =c) I wd))
 case first=>
  cases B with
  |false=>
   have HE:Hid (fl=0):=by show _=_;rw[R.out,if_neg (fun h=>by have:=A.out.2 h;cases this)]
   clear A R;go_wp2;go_meet
   case rel=>rw[HE.out];exact⟨hpKeep S.out E.out,Keeps.af E.out⟩
  |true=>
   have HE:Hid (fl=2):=by show _=_;rw[R.out,if_pos (A.out.1 rfl)]
   clear A R;go_wp2;go_meet
   case rel=>rw[HE.out];exact⟨hpSet (hpKeep S.out E.out) 2 _,(Keeps.af (F:=(· =c)) E.out).trans (ks1 (Keeps.refl (· =c) wc) 2 _) (fun _ _ e=>e)⟩
 case rest=>
 have R6:=hcut;clear e2 f2 o1 E A;have AT:=hid (hpKeeps WE.out R6.out.2 (fun e=>Y6.out e.symm));have h7:=cG AT.out 7 rfl;have h8:=cG AT.out 8 rfl;have q7:=hpFree AT.out 7;have q8:=hpFree AT.out 8;have e0:wc.cell? ⟨c,0,M⟩=U (Z O b):=hpCell R6.out.1 0;go_upto_region 7 with(fail)
 go_region;obtain⟨W7,Ke⟩:∃W,((wc.setCell ⟨g,7,M⟩ (.bool true)).setCell ⟨g,8,M⟩ (Z O b)).drew=W:=⟨_,rfl⟩
 have L:Keeps (· =g) wc W7:=by rw[←Ke];exact(ks1 (ks1 (Keeps.refl (· =g) wc) 7 _) 8 _).trans (Keeps.af (F:=(· =g)) (Below.refl _ _).drew) (fun _ _ e=>e)
 have SZ:W7.heap[g]?=U (D (Ia sv av lp (J none 0 0) tv (J Y m V) Xj true b) 125):=by rw[←Ke];exact hpSet (hpSet AT.out 7 _) 8 _
 have ab:=hpKeeps R6.out.1 L Y6.out;rw[Ke];have Jd:=hid L;have b6:=hid SZ;have bx:=hid ab;have r6:=cG SZ 6 rfl;have r8:=cG SZ 8 rfl;have w6:=hpFree SZ 6;obtain⟨mx,Vp⟩:=gE (max Xj b);have m1:(if Xj<b then b else Xj)=mx:=by rw[←Vp];omega
 have b5:=hid Vp;clear L SZ ab Ke h7 h8 q7 q8 e0 Vp;go_upto_region 8 with(fail)
 go_region;obtain⟨W8,BL⟩:∃W,(W7.setCell ⟨g,6,M⟩ (Z O mx)).drew=W:=⟨_,rfl⟩
 have K:Keeps (· =g) W7 W8:=by rw[←BL];exact(ks1 (Keeps.refl (· =g) W7) 6 _).trans (Keeps.af (F:=(· =g)) (Below.refl _ _).drew) (fun _ _ e=>e)
 have ao:W8.heap[g]?=U (D (Ia sv av lp (J none 0 0) tv (J Y m V) mx true b) 125):=by rw[←BL];exact hpSet b6.out 6 _
 have bc:=hpKeeps bx.out K Y6.out;have BA:g<w.heap.size:=hpLt j5.out;have cj:=xX.out;have ca:W8.heap[w.heap.size]?=U (D #[Z O 0,Z .u8 0,Z O 0] 132):=hpKeeps (hpKeeps (hpKeeps bX.out R6.out.2 (fun e=>by have e':w.heap.size=c:=e;omega)) Jd.out (fun e=>by have e':w.heap.size=g:=e;omega)) K (fun e=>by have e':w.heap.size=g:=e;omega);have SD:∀j u,(#[Z O b,Z .u8 x.val,Z O fl]:Array Value).toList[j]?=U u→W8.cell? ((⟨c,0,M⟩:Addr).add j)=U u:=fun j u o=>by
  rw[Addr.add_lit,Nat.zero_add,hpCell bc];rcases j with _|_|_|j
  ·exact o
  ·exact o
  ·exact o
  ·cases o
 rw[BL];have Nt:=hid K;have bK:=hid ao;clear BL K ao bc r6 r8 w6 m1;go_wp2_with (first
  |(refine aZ rfl 132 (.tmp 88) rfl ⟨c,0,M⟩ rfl #[Z O b,Z .u8 x.val,Z O fl] _ SD Tryz.underlying132 rfl infoEvW ?_)
  |(refine wpList_storeW rfl 132 (.tmp 4) (.tmp 89) rfl w.heap.size 0 _ 132 #[Z O b,Z .u8 x.val,Z O fl] rfl rfl ca (by simp) infoEvW rfl ?_;intro w9 g9 a8 cl))
 have p9:w9.heap[w.heap.size]?=U (D #[Z O b,Z .u8 x.val,Z O fl] 132):=g9;refine bodyPost_ret (results_ct_row rfl _ _ w.heap.size 132 _ (0,0) _ rfl p9 Tryz.underlying132 rfl infoEvW) rfl ?_;obtain⟨q1,q2,q3,q4,q5,q6⟩:=vu.out;obtain⟨n1,n2⟩:=Ir.out;have cg:=(HH.out.pn.jM pg rfl)
 have b7:Keeps (fun j=>j=g∨w.heap.size≤j) I w9:=(((R6.out.2.mono (fun j _ e=>.inr (by omega))).trans (Jd.out.mono (fun j _ e=>.inl e)) (fun _ _ e=>e)).trans (Nt.out.mono (fun j _ e=>.inl e)) (fun _ _ e=>e)).trans (a8.mono (fun j _ e=>.inr (by omega))) (fun _ _ e=>e);have a5:Keeps (· =g) w w9:=XA.out.trans b7 (fun j o e=>by
  rcases e with e|e
  ·exact e
  ·omega)
 obtain⟨a1,a2⟩:=HH.out.chg (s':=s.next x r) (pv':=J Y m V) (a5.mono (fun j _ e=>.inl e)) (by
  have h9:=hpKeeps bK.out a8 (fun e=>by have e':g=w.heap.size:=e;omega)
  show w9.heap[g]?=U (D (Ia sv av lp (J none 0 0) tv (J Y m V) (max s.free x.at_) true x.at_) 125)
  rw[q6,q2,b5.out]
  exact h9) rfl ((Wt.out.keeps a5 (fun j o e=>by
   have e1:pg=j:=by injection o
   exact cg.1 (e1.trans e))).mono (fun j o=>.inl o))
 refine⟨?_,⟨_,_,_,a1⟩,a2⟩;rw[q1,q2];rfl
def aO (u:Int) (q:Rq):List UInt8:=fj (UInt8.ofNat u.toNat) q.bE
theorem jc (u:Int) (q:Rq):4≤(aO u q).length∧(aO u q).length≤256:=by
 have:=Rq.lF q;unfold aO;rw[bp];omega
theorem xu {p:List UInt8} (d:1≤u) (c:u≤247) (m:1≤p.length) (f:p.length≤253):bk aw (fj (UInt8.ofNat u.toNat) p)=U (u,p):=by
 have b:=bp (UInt8.ofNat u.toNat) p;have hu:((UInt8.ofNat u.toNat).toNat:Int)=u:=by
  rw[UInt8.toNat_ofNat'];omega
 unfold bk;have e:(fj (UInt8.ofNat u.toNat) p).getD 0 0=UInt8.ofNat u.toNat:=rfl;rw[e,hu,if_pos ⟨by omega,by omega,wC _,d,c⟩];have:((fj (UInt8.ofNat u.toNat) p).take ((fj (UInt8.ofNat u.toNat) p).length-2)).drop 1=p:=by
  rw[b];simp [fj,bM]
 rw[this]
theorem fh (l:List Sl) (bd pa:Int) (d:1≤u) (c:u≤247) {q:Rq} (b:q.ok=true):cm l bd pa (aO u q)=if bF l bd pa u l.length=[] then none else some (u,q,bF l bd pa u l.length):=by
 have e:=Rq.lF q;exact nm (xu d c (by omega) (by omega)) (DK b)
theorem jx.at {r:Ending} (h:jx w l lp aC r w') (f:cW l) (y:∀x∈aC,x.ok) (o:lp=true→0<aC.length):
  ∃g a c b c2,r=G (.tuple #[.pointer (U ⟨g,0,M⟩),Z O 0])∧cU (fun j=>j=g) w' g (J a l.length c) (J b aC.length c2) lp Ln.zero∧IA (fun j=>j=g) w' a l.length c b aC.length c2 l aC lp∧w.heap.size≤g∧Below w.heap.size w w':=by
 obtain⟨g,a,c,b,c2,m,z,e,q,t⟩:=h;refine⟨g,a,c,b,c2,m,⟨J none 0 0,J none 0 0,[],e,rfl,fun j d=>?_,World.ownsRow_nil _ _ _ _,fun j d=>(by cases d),jN.nil _ _,rfl⟩,⟨q,rfl,rfl,f,y,o⟩,z,t⟩;subst d;exact hpLt e
theorem J5 {C:Int} (e:0≤C) (f:0≤a.ai) (h:i<j) (x y:UInt8):(eL C st a i x).at_+C≤(eL C st a j y).at_:=by
 have c:((i:Int)+1)*C+C≤((j:Int)+1)*C:=by
  have d:((i:Int)+1+1)*C≤((j:Int)+1)*C:=Int.mul_le_mul_of_nonneg_right (by omega) e;rw[Int.add_mul ((i:Int)+1) 1 C,Int.one_mul] at d;exact d
 unfold eL;dsimp only;generalize ((i:Int)+1)*C=p at c ⊢;generalize ((j:Int)+1)*C=q at c ⊢;by_cases b:a.fault=6∧a.pos≤(i:Int)
 ·rw [if_pos b,if_pos ⟨b.1,by omega⟩]
  omega
 ·rw [if_neg b]
  split<;>omega
theorem Bg {C:Int} {r:List UInt8} (h:(chsN C st a r n)[k]?=U x):k<n∧x=eL C st a k (r.getD k 0):=by
 have b:=(List.getElem?_eq_some_iff.1 h).1;rw[chsN_len] at b;unfold chsN at h;rw[List.getElem?_map,List.getElem?_range b] at h;injection h with h
 exact⟨b,h.symm⟩
theorem xL {C:Int} (b:0≤C) (f:0≤a.ai) (r:List UInt8) (n:Nat):oh (chsN C st a r n):=fun i j x y c d e=>by
 obtain⟨_,rfl⟩:=Bg d;obtain⟨_,rfl⟩:=Bg e;have:=J5 (st:=st) b f c (r.getD i 0) (r.getD j 0);omega
theorem vW:Tryz.prog.cellsOf 70=6:=by kernel_rfl
theorem Mx {α:Type} {l:List α} (h:l.length=6):∃a b c d e f,l=[a,b,c,d,e,f]:=by
 match l,h with
 |[a,b,c,d,e,f],_=>exact⟨a,b,c,d,e,f,rfl⟩
theorem T5 {cs:Array Value} (h:Rd Tryz.prog w 70 cs.toList):∃a:At,cs=a.C∧QY a:=by
 obtain⟨c,b⟩:=h.struct Tryz.underlying70;rw[vW] at c;obtain⟨t⟩:=cs;obtain⟨c0,c1,c2,c3,c4,y,rfl⟩:=Mx c;have f0:=b _ (List.mem_cons_self ..);have f1:=b _ (List.mem_cons_of_mem _ (List.mem_cons_self ..));have f2:=b _ (List.mem_cons_of_mem _ (List.mem_cons_of_mem _ (List.mem_cons_self ..)));have f3:=b _ (List.mem_cons_of_mem _ (List.mem_cons_of_mem _ (List.mem_cons_of_mem _ (List.mem_cons_self ..))));have f4:=b _ (List.mem_cons_of_mem _ (List.mem_cons_of_mem _ (List.mem_cons_of_mem _ (List.mem_cons_of_mem _ (List.mem_cons_self ..)))));have f5:=b _ (List.mem_cons_of_mem _ (List.mem_cons_of_mem _ (List.mem_cons_of_mem _ (List.mem_cons_of_mem _ (List.mem_cons_of_mem _ (List.mem_cons_self ..))))));simp only[dB,List.drop_zero,List.drop_succ_cons,List.take_succ_cons,List.take_zero] at f0 f1 f2 f3 f4 f5;obtain⟨a0,rfl,o⟩:=bl f0;obtain⟨a1,rfl,w1⟩:=bl f1;obtain⟨f,rfl,d⟩:=bl f2;obtain⟨e,rfl,w3⟩:=bl f3;obtain⟨r,rfl,q⟩:=bl f4;obtain⟨m,rfl,w5⟩:=bl f5;exact⟨⟨a0,a1,f,e,r,m⟩,rfl,o,w1,d,w3,q,w5⟩
theorem Rc (a:At) (V:Bool) (b:V=true↔a.ok) (w:World):Calls Tryz.prog 92 #[.agg a.C] w (aj w V):=
 (Ew a w).mono fun r w' ⟨B,h1,h2,h3⟩=>by
  have e:B=V:=by
   cases B<;>cases V
   ·rfl
   ·exact absurd (h2.out.2 (b.1 rfl)) Bool.noConfusion
   ·exact absurd (b.2 (h2.out.1 rfl)) Bool.noConfusion
   ·rfl
  subst e;exact⟨h1,h3⟩
theorem qJ (s:lg) (av cv:Value) (w:World) (ha:ke w av s.aC) (hc:dw w cv s.cr):Calls Tryz.prog 48 #[.agg #[av,.bool s.loop,cv]] w (er w s):=by
 obtain⟨aa,ac,rfl,-⟩:=id ha;obtain⟨ca,cc,rfl,lj,zE,-⟩:=id hc;obtain⟨an,fD⟩:=gE s.aC.length;obtain⟨z,iW⟩:=gE s.cr.length;obtain⟨lp,fG⟩:=gE s.loop;rw[fD] at ha ⊢;rw[iW] at hc lj ⊢;rw[fG];have jT:z≤9223372036854775807:=by unfold maxLen at zE;omega
 have Y:=hid fD;have q:=hid iW;have a4:=hid fG;have HA:=hid ha;have HC:=hid hc;obtain⟨S,ak,aX,pS⟩:=eY w (D #[J aa an ac,.bool lp,J ca z cc] 32);have t0:=cF pS 0 rfl;have t1:=cF pS 1 rfl;have t2:=cF pS 2 rfl;have k0:Below S.heap.size S S:=Below.refl _ _;have G:=hid ak;have m:=hid aX;have x0:=t0 _ k0;have x1:=t1 _ k0;have x2:=t2 _ k0;clear ak aX pS fD iW fG ha hc lj zE;by_cases h1:4096<an
 ·have q1:(4096:Int)<(an:Int):=by omega
  have f:Hid (¬s.ok):=fun h=>by have:=h.1;have:=Y.out;omega
  go_enter Tryz.func48,Tryz.ntmps48;go_upto_region 1 with(fail);rw[G.out]
  go_wp2;go_ret;exact er.no f.out m.out
 have q1:¬(4096:Int)<(an:Int):=by omega
 by_cases vL:an=0∧lp=true
 ·obtain ⟨e2,e1⟩:=vL
  have f:Hid (¬s.ok):=fun h=>h.2.1 ⟨a4.out.trans e1,Y.out.trans e2⟩
  subst e1 e2;go_enter Tryz.func48,Tryz.ntmps48;go_upto_region 1 with(fail);rw[G.out]
  go_wp2;go_ret;exact er.no f.out m.out
 have Ja:(((an:Int)==0)=true∧lp=false)∨((an:Int)==0)=false:=by
  by_cases e:an=0
  ·refine .inl ⟨by rw[e];rfl,?_⟩
   cases hl:lp with
   |false=>rfl
   |true=>exact absurd ⟨e,hl⟩ vL
  ·exact .inr (b0 (by omega))
 by_cases h3:8<z
 ·have q3:(8:Int)<(z:Int):=by omega
  have f:Hid (¬s.ok):=fun h=>by have:=h.2.2.1;have:=q.out;omega
  clear vL;rcases Ja with⟨e3,rfl⟩|e3
  all_goals
   go_enter Tryz.func48,Tryz.ntmps48;go_upto_region 1 with(fail);rw[G.out]
   go_wp2;go_ret;exact er.no f.out m.out
 have q3:¬(8:Int)<(z:Int):=by omega
 have F:Hid (s.aC.length≤4096∧¬(s.loop=true∧s.aC.length=0)∧s.cr.length≤8):=by
  show _∧_;rw[Y.out,q.out,a4.out];exact⟨by omega,fun h=>vL ⟨h.2,h.1⟩,by omega⟩
 clear vL;rcases Ja with⟨e3,rfl⟩|e3
 all_goals
  go_enter Tryz.func48,Tryz.ntmps48;go_upto_region 1 with(fail);rw[G.out]
  go_upto_region 4 with(fail)
  clear e3 x0 x1 x2;go_loopw [3] (fun T wr=>∃k:Nat,k≤an∧T=Z O (k:Int)∧Hid (∀i x,i<k→s.aC[i]?=U x→x.ok)∧Below S.heap.size S wr) (fun T _=>an- (intOf T).toNat)
  case atStart=>exact⟨0,Nat.zero_le _,rfl,fun i x h=>by omega,k0⟩
  case round=>
   obtain⟨k,hk,rfl,Q,d⟩:=hrel;have ab:(0:Int)≤(k:Int):=Int.natCast_nonneg _;have y0:=t0 wr d;have y2:=t2 wr d;by_cases K:k<an
   ·obtain ⟨x,B⟩:=gs (l:=s.aC) Y.out K
    obtain⟨b,o,c',X,cz⟩:=HA.out.at B;rw[Y.out] at X;simp only[Value.slice.injEq,true_and] at X;obtain⟨rfl,rfl⟩:=X;have I:(k:Int)<(an:Int):=by omega
    have oO:=bt m.out d (Nat.le_refl _);obtain⟨V,hV⟩:∃V:Bool,(V=true↔x.ok):=bU (p:=x.ok);have ad:=hid (Rc x V hV);obtain⟨C,hC⟩:=gE x.C;have ao:(Tryz.prog.info? 70).map (·.size)=U C.size:=by rw[←hC];exact ga
    have cd:∀j v,C.toList[j]?=U v→wr.cell? ((⟨b,o+k*6,M⟩:Addr).add j)=U v:=fun j v c=>by
     obtain⟨z0,z1,z2,z3,z4,z5⟩:=cz wr oO;have e:(⟨b,o+k*6,M⟩:Addr).add j=⟨b,o+k*6+j,M⟩:=by unfold Addr.add;split<;>simp_all
     rw[e];rw[←hC] at c;unfold At.C at c;rcases j with _|_|_|_|_|_|j
     ·injection c with c;rw[←c];exact z0
     ·injection c with c;rw[←c];exact z1
     ·injection c with c;rw[←c];exact z2
     ·injection c with c;rw[←c];exact z3
     ·injection c with c;rw[←c];exact z4
     ·injection c with c;rw[←c];exact z5
     ·cases c
    have VT:Hid (∀W,Calls Tryz.prog 92 #[.agg C] W (aj W V)):=by
     rw[←hC];exact ad.out
    have HX:=hid B;have a3:=hid hV;clear ad hC cz B hV;cases V with
    |false=>
     have HE:=hid (show ¬s.ok from fun h=>Bool.noConfusion (a3.out.2 (h.2.2.2.2 x (List.mem_of_getElem? HX.out))));go_wp2_with (first
      |(refine wpList_load_atH (by rfl) 70 (.tmp 36) rfl ⟨b,o+k*6,M⟩ rfl C _ cd Tryz.underlying70 rfl ao ?_)
      |(go_at_call 92;(with_reducible refine(VT.out _).mono ?_);rintro r w2 ⟨rfl,R⟩))
     go_ret;exact er.no HE.out (bt oO R (Nat.le_refl _))
    |true=>
     have Pk:Hid (∀i y,i<k+1→s.aC[i]?=U y→y.ok):=fun i y hi E=>by
      by_cases e:i=k
      ·subst e
       rw[HX.out] at E;cases E;exact a3.out.1 rfl
      ·exact Q.out i y (by omega) E
     go_wp2_with (first
      |(refine wpList_load_atH (by rfl) 70 (.tmp 36) rfl ⟨b,o+k*6,M⟩ rfl C _ cd Tryz.underlying70 rfl ao ?_)
      |(go_at_call 92;(with_reducible refine(VT.out _).mono ?_);rintro r w2 ⟨rfl,R⟩))
     go_roundw
     case rel=>exact⟨k+1,by omega,by go_num,Pk.out,bt d R (Nat.le_refl _)⟩
     case measure=>simp [intOf];omega
   ·obtain rfl:k=an:=by omega
    have Xw:Hid (∀x∈s.aC,x.ok):=fun x B=>by
     obtain⟨j,c⟩:=List.getElem?_of_mem B;exact Q.out j x (by have:=(List.getElem?_eq_some_iff.1 c).1;have:=Y.out;omega) c
    have I:¬(k:Int)<(k:Int):=by omega
    clear Q;go_upto_region 9 with(fail)
    clear y0 y2 I ab hk K;obtain⟨W2,fp⟩:∃W,W=wr:=⟨_,rfl⟩
    rw[←fp] at d ⊢;clear fp;go_loopw [4] (fun T wr=>∃k:Nat,k≤z∧T=Z O (k:Int)∧Hid (∀i x,i<k→s.cr[i]?=U x→kY s.cr i x)∧Below S.heap.size S wr) (fun T _=>z- (intOf T).toNat)
    case atStart=>exact⟨0,Nat.zero_le _,rfl,fun i x h=>by omega,d⟩
    case round=>
     obtain⟨k,hk,rfl,Q,d⟩:=hrel;have ab:(0:Int)≤(k:Int):=Int.natCast_nonneg _;have y2:=t2 wr d;by_cases K:k<z
     ·obtain ⟨x,B⟩:=gs (l:=s.cr) q.out K
      obtain⟨b,o,c',X,-,-,cz⟩:=HC.out.at B;rw[q.out] at X;simp only[Value.slice.injEq,true_and] at X;obtain⟨rfl,rfl⟩:=X;have I:(k:Int)<(z:Int):=by omega
      have HX:=hid B;obtain⟨st,kp⟩:=x;have oO:=bt m.out d (Nat.le_refl _);obtain⟨u0,u1⟩:=cz wr oO;dsimp only at u0 u1;have cd:∀j v,(#[Z O st,Z O kp]:Array Value).toList[j]?=U v→wr.cell? ((⟨b,o+k*2,M⟩:Addr).add j)=U v:=fun j v c=>by
       have e:(⟨b,o+k*2,M⟩:Addr).add j=⟨b,o+k*2+j,M⟩:=by unfold Addr.add;split<;>simp_all
       rw[e];rcases j with _|_|j
       ·injection c with c;rw[←c];exact u0
       ·injection c with c;rw[←c];exact u1
       ·cases c
      have m7:=hid cz;clear B cz u0 u1;go_upto_region 12 with(first
       |(refine wpList_load_atH (by rfl) 161 (.tmp 50) rfl ⟨b,o+k*2,M⟩ rfl #[Z O st,Z O kp] _ cd Tryz.underlying161 rfl tC ?_)
       |(refine wpList_storeW rfl 161 (.tmp 5) (.tmp 51) rfl wr.heap.size 0 _ 161 #[Z O st,Z O kp] rfl rfl (hpNew wr _) (by simp) tC rfl ?_;intro w5 g5 a2 a7))
      obtain⟨p5,a5⟩:=cJ (by simp) g5 a2;clear g5 a2 a7 cd y2;have z0:=cG p5 0 rfl;have z1:=cG p5 1 rfl;have L:=bt d a5 (Nat.le_refl _);have y2:=t2 w5 L;have t:=hid (bt m.out L (Nat.le_refl _));have j4:=hid L;clear p5 a5 L d oO;dsimp only[Act.put];have A:¬kY s.cr k (st,kp)→Hid (¬s.ok):=fun h=>fun e=>h (e.2.2.2.1 k _ HX.out)
      by_cases c1:st<0
      ·have f:=A (fun h=>by have:=h.1;dsimp only at this;omega)
       clear A;go_quiet (fail);go_wp2;go_ret;exact er.no f.out (below_drewN t.out _)
      by_cases c2:999999999<st
      ·have f:=A (fun h=>by have:=h.2.1;dsimp only at this;omega)
       clear A;go_quiet (fail);go_wp2;go_ret;exact er.no f.out (below_drewN t.out _)
      by_cases c3:kp<0
      ·have f:=A (fun h=>by have:=h.2.2.1;dsimp only at this;omega)
       clear A;go_quiet (fail);go_wp2;go_ret;exact er.no f.out (below_drewN t.out _)
      by_cases c4:1000000<kp
      ·have f:=A (fun h=>by have:=h.2.2.2.1;dsimp only at this;omega)
       clear A;go_quiet (fail);go_wp2;go_ret;exact er.no f.out (below_drewN t.out _)
      have N:Hid (0≤st∧st≤999999999∧0≤kp∧kp≤1000000):=by show _∧_;omega
      have UP:Hid (kY s.cr k (st,kp)→∀i x,i<k+1→s.cr[i]?=U x→kY s.cr i x):=fun h i y hi E=>by
       by_cases e:i=k
       ·subst e
        rw[HX.out] at E;cases E;exact h
       ·exact Q.out i y (by omega) E
      by_cases e0:0<k
      ·have Zu:(0:Int)<(k:Int):=by omega
       obtain⟨km,tD⟩:∃x,k-1=x:=⟨_,rfl⟩
       have a8:IntKind.i64.wrap ((k:Int)-1)=(km:Int):=(IntWalk.i64_in _ (by omega)).trans (by omega);obtain⟨y,E⟩:=gs (l:=s.cr) q.out (show km<z by omega);obtain⟨b',o',a9,zS,-,-,nt⟩:=HC.out.at E;rw[q.out] at zS;simp only[Value.slice.injEq,Option.some.injEq,Addr.mk.injEq,true_and,and_true] at zS;obtain⟨⟨rfl,rfl⟩,rfl⟩:=zS;obtain⟨ys,yk⟩:=y;have v0:w5.cell? ⟨b,o+km*2,M⟩=U (Z O ys):=(nt _ t.out).1;have bn:(0:Int)≤(km:Int):=Int.natCast_nonneg _;have bm:(km:Int)<(z:Int):=by omega
       have bc:km<z:=by omega
       have HY:=hid E;have aY:=hid tD;clear E nt tD;by_cases e1:st≤ys
       ·have f:=A (fun h=>by
         have h5:=h.2.2.2.2 (ys,yk) e0 (by rw[aY.out];exact HY.out)
         exact absurd e1 (by dsimp only at h5;omega))
        clear A UP Q;go_quiet (fail);go_wp2;go_ret;exact er.no f.out (below_drewN t.out _)
       ·have hI:Hid (kY s.cr k (st,kp)):=⟨N.out.1,N.out.2.1,N.out.2.2.1,N.out.2.2.2,fun y h1 h2=>by
         rw[aY.out,HY.out] at h2
         injection h2 with h2
         rw[←h2]
         show ys<st
         omega⟩
        clear A;go_quiet (fail);go_wp2;go_roundw
        case rel=>exact⟨k+1,by omega,by go_num,UP.out hI.out,below_drewN j4.out _⟩
        case measure=>simp [intOf];omega
      ·have a6:k=0:=by omega
       have Zu:¬(0:Int)<(k:Int):=by omega
       have hI:Hid (kY s.cr k (st,kp)):=⟨N.out.1,N.out.2.1,N.out.2.2.1,N.out.2.2.2,fun y h1=>absurd h1 e0⟩
       clear A a6;go_quiet (fail);go_wp2;go_roundw
       case rel=>exact⟨k+1,by omega,by go_num,UP.out hI.out,below_drewN j4.out _⟩
       case measure=>simp [intOf];omega
     ·obtain rfl:k=z:=by omega
      have I:¬(k:Int)<(k:Int):=by omega
      have HE:Hid s.ok:=⟨F.out.1,F.out.2.1,F.out.2.2,fun i x B=>Q.out i x (by have:=(List.getElem?_eq_some_iff.1 B).1;have:=q.out;omega) B,Xw.out⟩
      go_wp2;go_ret;exact⟨true,rfl,⟨fun _=>HE.out,fun _=>rfl⟩,bt m.out d (Nat.le_refl _)⟩
def Ee (s:lg) (ti de:Int):Prop:=∀x∈s.aC,x.bf≤ti∧x.ai≤de
def pG (w:World) (s:lg) (ti de:Int) (r:Ending) (w':World):Prop:=∃V:Bool,r=G (.bool V)∧Hid (V=true↔s.ok∧Ee s ti de)∧Below w.heap.size w w'
theorem pG.no {s:lg} (h:¬Ee s ti de) (b:Below w.heap.size w w'):pG w s ti de (G (.bool false)) w':=⟨false,rfl,⟨fun e=>(by cases e),fun e=>absurd e.2 h⟩,b⟩
theorem bu:(Tryz.prog.info? 32).map (·.size)=U 3:=by kernel_rfl
theorem Fj (s:lg) (av m:Value) (ti de:Int) (w:World) (A:ke w av s.aC) (hc:dw w m s.cr):Calls Tryz.prog 11 #[.agg #[av,.bool s.loop,m],Z O ti,Z O de] w (pG w s ti de):=by
 have M:Hid (∀X,Below w.heap.size w X→Calls Tryz.prog 48 #[.agg #[av,.bool s.loop,m]] X (er X s)):=fun X hX=>qJ s av m X (A.ah hX) (hc.ah hX)
 obtain⟨aa,ac,rfl,RE,ZF,-⟩:=id A;obtain⟨an,R⟩:=gE s.aC.length;obtain⟨lp,fG⟩:=gE s.loop;rw[R] at A RE M ⊢;have jT:an≤9223372036854775807:=by unfold maxLen at ZF;omega
 rw[fG] at M ⊢;have Q:=hid R;have HA:=hid A;obtain⟨t,ak,B,Y⟩:=eY w (D #[J aa an ac,.bool lp,m] 32);have t0:=cF Y 0 rfl;have k0:Below t.heap.size t t:=Below.refl _ _;have I:=hid ak;have z:=hid B;have PS:=hid Y;clear ak B Y R fG A hc RE ZF;go_enter Tryz.func11,Tryz.ntmps11;go_upto_region 1 with(fail)
 rw[I.out];go_upto_region 2 with(fail)
 go_loopw [7] (fun S wr=>∃k:Nat,k≤an∧S=Z O (k:Int)∧Hid (∀i x,i<k→s.aC[i]?=U x→x.bf≤ti∧x.ai≤de)∧Below t.heap.size t wr) (fun S _=>an- (intOf S).toNat)
 case atStart=>exact⟨0,Nat.zero_le _,rfl,fun i x h=>by omega,k0⟩
 case round=>
  obtain⟨k,hk,rfl,G,c⟩:=hrel;have ab:(0:Int)≤(k:Int):=Int.natCast_nonneg _;have y0:=t0 wr c;by_cases W:k<an
  ·obtain ⟨x,F⟩:=gs (l:=s.aC) Q.out W
   obtain⟨b,o,c',dE,cz⟩:=HA.out.at F;rw[Q.out] at dE;simp only[Value.slice.injEq,true_and] at dE;obtain⟨rfl,rfl⟩:=dE;have N:(k:Int)<(an:Int):=by omega
   have T:=bt z.out c (Nat.le_refl _);obtain⟨z0,-,-,-,z4,-⟩:=cz wr T;have HX:=hid F;have d:¬(x.bf≤ti∧x.ai≤de)→Hid (¬Ee s ti de):=fun h=>fun e=>h (e x (List.mem_of_getElem? HX.out))
   have q:Hid ((x.bf≤ti∧x.ai≤de)→∀i y,i<k+1→s.aC[i]?=U y→y.bf≤ti∧y.ai≤de):=fun h i y hi K=>by
    by_cases e:i=k
    ·subst e
     rw[HX.out] at K;cases K;exact h
    ·exact G.out i y (by omega) K
   clear cz F G;obtain⟨la,DD⟩:=gE x.bf;obtain⟨tk,E⟩:=gE x.ai;rw[DD] at z0 d q;rw[E] at z4 d q;clear DD E;by_cases c1:ti<la
   ·have f:=d (by omega)
    clear d q;go_wp2;go_ret;exact pG.no f.out T
   by_cases c2:de<tk
   ·have f:=d (by omega)
    clear d q;go_wp2;go_ret;exact pG.no f.out T
   have Pk:=hid (q.out (by omega));clear d q;go_wp2;go_roundw
   case rel=>exact⟨k+1,by omega,by go_num,Pk.out,c⟩
   case measure=>simp [intOf];omega
  ·obtain rfl:k=an:=by omega
   have rH:Hid (Ee s ti de):=fun x F=>by
    obtain⟨j,hj⟩:=List.getElem?_of_mem F;exact G.out j x (by have:=(List.getElem?_eq_some_iff.1 hj).1;have:=Q.out;omega) hj
   have N:¬(k:Int)<(k:Int):=by omega
   have pR:=hpKeep PS.out c;have C:=hid (bt z.out c (Nat.le_refl _));clear G;go_wp2_with (first
    |(refine wpList_load_row rfl 32 (.tmp 3) rfl w.heap.size rfl 32 #[J aa k ac,.bool lp,m] (0,0) _ pR Tryz.underlying32 rfl bu ?_)
    |(go_at_call 48;(with_reducible refine(M.out _ C.out).mono ?_);rintro r w2 ⟨V,rfl,f,L⟩))
   go_ret;exact⟨V,rfl,⟨fun e=>⟨f.out.1 e,rH.out⟩,fun e=>f.out.2 e.1⟩,bt C.out L (Nat.le_refl _)⟩
