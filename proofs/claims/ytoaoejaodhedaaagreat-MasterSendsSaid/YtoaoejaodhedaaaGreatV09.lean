import Derived.Test.YtoaoejaodhedaaaGreatV08
namespace Go.Proofs.YtoaoejaodhedaaaGreat
open Go.RowKit
open Value renaming slice→J,int→U
open Option renaming none→M,some→N
open IntKind renaming i64→O
open Obj renaming cells→R
set_option maxHeartbeats 12800000
set_option maxRecDepth 100000
variable {c:Cf} {f:Fx} {s:Lk} {y:Ms} {b b' g gj gl gm j k size:Nat} {P PL Q:Nat→Prop} {sv v:Value} {W w:World}
def X5 (w:World) (s:Lk) (F:List UInt8) (r:Ending) (w':World):Prop:=
 ∃(a:Option Addr) (c:Nat),r=.returned (.agg #[U O 1,U O s.now,J a F.length c])∧w'.ownsRow w.heap.size 5 1 (J a F.length c) F.length (u8s F)∧Below w.heap.size w w'
theorem OU {e:TypeId} {n:Nat} {xs:List Value} (h:w.ownsRow b e size v n xs) (i:b'≤b):w.ownsRow b' e size v n xs:=by
 obtain⟨d,a⟩:=h;refine⟨d,?_⟩;rcases a with a|⟨g,cap,cur,l,m,o⟩
 ·exact .inl a
 ·exact .inr ⟨g,cap,cur,l,Nat.le_trans i m,o⟩
theorem B6 (g:Nat) (s:Lk) (F:List UInt8) (w:World) (C:LkAt w g s) (T:s.ph=1) (uj:Bs w (.slice s.fa s.fn s.fc) F) (hF:F.length≤1000):
  Calls Tryz.prog 61 #[.pointer (N ⟨g,0,M⟩)] w (X5 w s F):=by
 have hg:=C.lt;obtain⟨d,L,l,S⟩:=eY w (R #[U O 0,U O 0,J none 0 0] 136);have l1:=C.ah l;have c5:d.cell? ⟨g,5,M⟩=N (U O 1):=by rw[l1.cell 5];simp [Lk.cells,T]
 have q:g≠w.heap.size:=by omega
 have xq:∀W,lM d w.heap.size s.now W→W.cell? ⟨g,13,M⟩=N (U O s.now):=fun W h=>h.cell l1 q 13
 have MJ:∀W,lM d w.heap.size s.now W→W.cell? ⟨g,12,M⟩=N (.slice s.fa s.fn s.fc):=fun W h=>h.cell l1 q 12
 have D:Below d.heap.size d d.drew:=(Below.refl _ _).drew;have kS:lM d w.heap.size s.now d.drew:=.inl D;have td:Hid (∀W,Below d.heap.size d W→Calls Tryz.prog 80 #[.slice s.fa s.fn s.fc] W fun r E=>∃a c,r=.returned (J a F.length c)∧E.ownsRow W.heap.size 5 1 (J a F.length c) F.length (u8s F)∧Below W.heap.size W E):=fun W hW=>by
  refine(bY _ F W ((uj.ah l).ah hW) (by omega)).mono ?_;rintro r E ⟨v',rfl,i,hb⟩;obtain⟨a,c,rfl⟩:=own_slice i;exact⟨a,c,rfl,i,hb⟩
 have K:∀X a n c,Below d.heap.size d X→lM d w.heap.size s.now (((X.setCell ⟨w.heap.size,0,M⟩ (U O 1)).setCell ⟨w.heap.size,1,M⟩ (U O s.now)).setCell ⟨w.heap.size,2,M⟩ (J a n c)):=fun X a n c h=>.inr ⟨X,a,n,c,h,rfl⟩
 have x:=hid L;have u:=hid l;have I:=hid S;clear C T uj L l l1 S hF;go_enter Tryz.func61,Tryz.ntmps61;go_upto_region 1 with(fail)
 rw[x.out];go_wp2;go_region_held3 (fun W=>lM d w.heap.size s.now W) ((with_reducible (first|exact kS|assumption|exact K _ _ _ _ t))) ((go_at_call 80;(with_reducible refine(td.out d.drew D).mono ?_);rintro r G ⟨a,c,rfl,i,A⟩;have t:=bt D A (Nat.le_refl _);have YL:lM d w.heap.size s.now G:=.inl t;have m:=hpKeep I.out t;have z0:=hpCell m 0;have z1:=hpCell m 1;have z2:=hpCell m 2;have y0:=hpFree m 0;have y1:=hpFree m 1;have y2:=hpFree m 2));have V:=hpSet (hpSet (hpSet m 0 (U O 1)) 1 (U O s.now)) 2 (J a F.length c);obtain⟨Y,Z,q2⟩:=ZB V
 obtain⟨W5,o⟩:∃W,W=((G.setCell ⟨w.heap.size,0,M⟩ (U O 1)).setCell ⟨w.heap.size,1,M⟩ (U O s.now)).setCell ⟨w.heap.size,2,M⟩ (J a F.length c):=⟨_,rfl⟩
 rw[←o] at Y Z q2 ⊢;have z:=hid o;have ab:w.heap.size<d.heap.size:=(Array.getElem?_eq_some_iff.1 I.out).1;clear o V z0 z1 z2 y0 y1 y2 m xq MJ K;go_wp2;refine bodyPost_ret (v:=.agg #[U O 1,U O s.now,J a F.length c]) (by simp [results,Tryz.results61,go_sem,Y,Z,q2]) rfl ?_;have B:Keeps (· =w.heap.size) G W5:=by rw[z.out];exact kset' (kset' (kset' (Keeps.refl _ _) _ _) _ _) _ _
 refine⟨a,c,rfl,?_,?_⟩
 ·exact OU (b:=d.heap.size) (own_keeps i B (fun j hj e=>by
   have h1:=(i.lt j hj).1
   have h2:j=w.heap.size:=e
   have h3:d.heap.size≤j:=h1
   omega)) (show w.heap.size≤d.heap.size by omega)
 ·have p:=bt u.out t (Nat.le_refl _)
  exact p.trans (B.below p.size (fun k B e=>by omega))
def Mw (gm gl gj k:Nat) (P PL Q:Nat→Prop) (c:Cf) (sv:Value) (f:Fx) (y:Ms) (s:Lk) (w:World) (r:Ending) (w':World):Prop:=∃now',r=.returned (.tuple #[])∧y.now≤now'∧now'≤y.now+20000000∧lr gm gl gj k (ax P w w') PL Q c sv f ⟨y.n,false,y.x,y.set,now'⟩ s w'∧Keeps P w w'
def NowS (gm gl:Nat) (c:Cf) (sv lv:Value) (st:Int) (V:World):Prop:=∃nw,V.heap[gm]?=N (R (MC c sv gl lv st nw) 129)
theorem PN {p:Prop} (h:p:=by
 refine rdyH 23 rfl (fun K hK=>?_);go_simp
 have g3:(w2.setCell ⟨gm,19,none⟩ (.int .i64 (now+I))).heap[gm]?=some (.cells (MC c (.slice sa sn sc) gl LV y.set (now+I)) 129):=hpSetE (hpKeep HG1.out hB2) rfl
 have hS3:NowS gm gl c (.slice sa sn sc) LV y.set (w2.setCell ⟨gm,19,none⟩ (.int .i64 (now+I))):=⟨_,g3⟩
 have hk3:Keeps (· =gm) w1 (w2.setCell ⟨gm,19,none⟩ (.int .i64 (now+I))):=(Keeps.af hB2).trans (ks1 (Keeps.refl (· =gm) w2) 19 _) (fun _ _ e=>e)
 refine hK.out _ _ hS3 (fun hSx=>?_)
 clear hK K hSx
 refine wpAnyH_done (by kernel_rfl) ?_ _
 go_wp2
 go_meet
 case rel=>exact⟨now+I,by omega,by omega,g3,hk3⟩):p:=h
theorem Kp (h:lr gm gl gj k P PL Q c sv f y s w) (hb:y.b=false) (hp:y.n.pend=[]) (xg:0≤y.now) (sY:y.now≤600000000000000000):Calls Tryz.prog 22 #[.pointer (N ⟨gm,0,M⟩)] w (Mw gm gl gj k P PL Q c sv f y s w):=by
 have hG:=Lw.of h.sV;have Rw:=hid (BQ h false (by show (y.b&&_)=false;rw[hb];rfl));have C:Hid (∀X,Below w.heap.size w X→Calls Tryz.prog 58 #[sv,U O c.ti,U O c.de] X (Dg X)):=fun X l=>Ko c hG sv X (h.AI X (Keeps.af l))
 have ad:∀B,y.n.due B=false:=fun B=>by unfold Ln.due;rw[hp]
 have Vj:Hid (∀B X,cU PL X gl (.slice f.la f.ln f.lc) (.slice f.aa f.an f.ac) f.lp y.n→Calls Tryz.prog 59 #[.pointer (N ⟨gl,0,M⟩),U O B] X fun r w'=>r=.returned (.tuple #[.agg #[U O 0,U .u8 0,U O 0],.bool false])∧Below X.heap.size X w'):=fun B X l=>sg l B (ad B)
 obtain⟨sa,sn,sc,rfl⟩:∃a n c,sv=J a n c:=by
  obtain⟨a,cc,e,-⟩:=id (h.AI w (Keeps.refl _ _));exact⟨a,_,cc,e⟩
 obtain⟨ti,E7⟩:=gE c.ti;obtain⟨de,ES⟩:=gE c.de;obtain⟨now,xh⟩:=gE y.now;rw[E7,ES] at C;rw[xh] at xg sY;have zM:=hid h.at_;have H:=hid h;have CX:=hid (And.intro E7 (And.intro ES (And.intro xh hb)));obtain⟨LV,Z⟩:=gE (T0 y.b gj);rw[Z,xh] at zM;have Qc:=hid Z;clear h hG ad E7 ES xh hb hp Z;go_enter Tryz.func22,Tryz.ntmps22;go_upto_region 1 with(go_at_call 57;(with_reducible refine Rw.out.mono ?_);rintro r w1 ⟨rfl,G⟩)
 have u:=hid G;have g1:=hpKeep zM.out G;have HG1:=hid g1;have E:NowS gm gl c (J sa sn sc) LV y.set w1.drew:=⟨now,g1⟩
 have y0:∀X,NowS gm gl c (J sa sn sc) LV y.set X→X.cell? ⟨gm,0,M⟩=N (J sa sn sc):=fun X l=>by obtain⟨nw,l⟩:=l;exact(hpCell l 0).trans rfl
 have y4:∀X,NowS gm gl c (J sa sn sc) LV y.set X→X.cell? ⟨gm,4,M⟩=N (U O ti):=fun X l=>by obtain⟨nw,l⟩:=l;exact(hpCell l 4).trans (by rw[←CX.out.1];rfl)
 have y5:∀X,NowS gm gl c (J sa sn sc) LV y.set X→X.cell? ⟨gm,5,M⟩=N (U O de):=fun X l=>by obtain⟨nw,l⟩:=l;exact(hpCell l 5).trans (by rw[←CX.out.2.1];rfl)
 have K0:∀X,Below w1.heap.size w1 X→X.cell? ⟨gm,19,M⟩=N (U O now):=fun X l=>(hpCell (hpKeep HG1.out l) 19).trans rfl
 have z:Below w1.heap.size w1 w1.drew:=(Below.refl _ _).drew;clear G Rw g1;go_cut [] from 10 to 33 (fun wc=>∃now',Hid (now≤now'∧now'≤now+20000000∧wc.heap[gm]?=N (R (MC c (J sa sn sc) gl LV y.set now') 129)∧Keeps (· =gm) w1 wc))
 case first=>
  refine wp_region_held_drew (S:=fun V=>NowS gm gl c (J sa sn sc) LV y.set V) (by kernel_rfl) E (fun hH=>?_);clear hH;refine tG 0 10 ?_;refine tG 1 11 ?_;refine tG 2 12 ?_;refine tG 4 14 ?_;refine tG 5 15 ?_;refine tG 6 16 ?_;refine tG 7 17 ?_;refine tG 8 18 ?_;refine tG 9 19 ?_;refine tG 10 20 ?_;refine tG 11 21 ?_;refine tG 12 22 ?_;refine tG 13 23 ?_;refine tG 14 24 ?_;refine tG 15 25 ?_;refine tG 16 26 ?_;refine tG 17 27 ?_;refine tG 18 28 ?_;refine wpAnyH_ready (rs:=[3,19]) (by kernel_rfl) (by simp) ?_;refine AllReadyH.cons rfl (fun K hK=>?_) (AllReadyH.cons rfl (fun K hK=>?_) AllReadyH.nil)
  ·have a3:=K0 _ z
   go_simp;refine hK.out _ _ E (fun hSx=>?_);clear hK K hSx;refine rdyH 19 rfl (fun K hK=>?_);go_simp;refine(C.out _ (bt u.out z (Nat.le_refl _))).mono ?_;rintro r w2 ⟨I,rfl,i0,i1,m⟩;have hB2:=bt z m (Nat.le_refl _);have x:NowS gm gl c (J sa sn sc) LV y.set w2:=⟨now,hpKeep HG1.out hB2⟩
   refine hK.out _ _ x (fun hSx=>?_);clear hK K hSx;have T:IntKind.i64.wrap (now+I)=now+I:=IntWalk.i64_in _ (by omega);refine tG 20 30 ?_;refine tG 21 31 ?_;refine tG 22 32 ?_;have WW:w2.cell? ⟨gm,19,M⟩=N (U O now):=K0 w2 hB2;have f19:=hpFree (hpKeep HG1.out hB2) 19;exact PN
  ·go_simp
   refine(C.out _ (bt u.out z (Nat.le_refl _))).mono ?_;rintro r w2 ⟨I,rfl,i0,i1,m⟩;have hB2:=bt z m (Nat.le_refl _);have x:NowS gm gl c (J sa sn sc) LV y.set w2:=⟨now,hpKeep HG1.out hB2⟩
   refine hK.out _ _ x (fun hSx=>?_);clear hK K hSx;have WW:w2.cell? ⟨gm,19,M⟩=N (U O now):=K0 w2 hB2;have f19:=hpFree (hpKeep HG1.out hB2) 19;refine rdyH 3 rfl (fun K hK=>?_);go_simp;refine hK.out _ _ x (fun hSx=>?_);clear hK K hSx;have T:IntKind.i64.wrap (now+I)=now+I:=IntWalk.i64_in _ (by omega);refine tG 20 30 ?_;refine tG 21 31 ?_;refine tG 22 32 ?_;exact PN
 case rest=>
  obtain⟨now',Y⟩:=hcut;obtain⟨o,S5⟩:∃W,W=wc:=⟨_,rfl⟩
  subst S5;have z1:=u.out.size;have Zr:Keeps (· =gm) w o:=(Keeps.af u.out).trans Y.out.2.2.2 (fun _ _ e=>e);have ID:¬gl=gm:=fun e=>H.out.CS (e▸H.out.ln.xcE)
  have ao:Hid (cU PL o gl (.slice f.la f.ln f.lc) (.slice f.aa f.an f.ac) f.lp y.n):=H.out.ln.ah Zr (fun j A e=>H.out.CS (by have e':j=gm:=e;rw[←e'];exact A));have RG:=hid Zr;have ab:Hid (∀X,Below o.heap.size o X→Calls Tryz.prog 59 #[.pointer (N ⟨gl,0,M⟩),U O now'] X fun r w'=>r=.returned (.tuple #[.agg #[U O 0,U .u8 0,U O 0],.bool false])∧Below X.heap.size X w'):=fun X l=>Vj.out now' X (ao.out.ah (F:=fun _=>False) (Keeps.af l) (fun _ _ e=>e))
  have aY:∀X,Below o.heap.size o X→X.cell? ⟨gm,16,M⟩=N (.pointer (N ⟨gl,0,M⟩)):=fun X l=>(hpCell (hpKeep Y.out.2.2.1 l) 16).trans rfl
  have WW:∀X,Below o.heap.size o X→X.cell? ⟨gm,19,M⟩=N (U O now'):=fun X l=>(hpCell (hpKeep Y.out.2.2.1 l) 19).trans rfl
  have z:Below o.heap.size o o.drew:=(Below.refl _ _).drew;have a2:Hid (∀X,Below o.heap.size o X→Mw gm gl gj k P PL Q c (J sa sn sc) f y s w (.returned (.tuple #[])) X):=fun X l=>by
   obtain⟨e1,e2,e3,e4⟩:=CX.out;have Z:=Qc.out;rw[e4] at Z;obtain⟨b1,b2⟩:=H.out.own (b':=false) (gj':=gj) (k':=k) (Q':=Q) (x':=y.x) (s':=s) (st':=y.set) (now':=now') RG.out (by rw[Z];exact Y.out.2.2.1) (fun e=>absurd e (by decide)) (fun j A=>⟨H.out.Lv j A,fun e=>H.out.Jw j e A,fun e=>H.out.JL (e▸A),H.out.pq j A⟩);have hk:Keeps P w X:=b2.trans (Keeps.af l) (fun _ _ e=>e);exact⟨now',rfl,by rw[e3];exact Y.out.1,by rw[e3];exact Y.out.2.1,H.out.base (b1.bW l) hk (fun j A=>.inl A),hk⟩
  clear y0 y4 y5 K0 E z1 Zr ID;go_wp2_with fail;go_loopg [] 0 (fun _ wr=>Below o.heap.size o wr∧wr=o)
  case atStart=>exact⟨Below.refl _ _,rfl⟩
  case round=>
   obtain⟨-,T⟩:=hrel;subst T;go_upto_region 2 with(fail)
   go_cut [3] from 33 to 45 (fun s3 wd=>s3=.bool false∧Below wr.heap.size wr wd)
   case first=>
    refine wp_region_held_drew (S:=fun V=>Below wr.heap.size wr V) (by kernel_rfl) z (fun hH=>?_);clear hH;refine tG 0 34 ?_;refine tG 1 35 ?_;refine tG 2 36 ?_;refine tG 3 37 ?_;refine tG 4 38 ?_;refine tG 5 39 ?_;refine tG 6 40 ?_;refine tG 7 41 ?_;refine wpAnyH_ready (rs:=[8,12]) (by kernel_rfl) (by simp) ?_;refine AllReadyH.cons rfl (fun K hK=>?_) (AllReadyH.cons rfl (fun K hK=>?_) AllReadyH.nil)
    ·go_simp
     refine(ab.out _ z).mono ?_;rintro r x2 ⟨rfl,m⟩;have hB2:=bt z m (Nat.le_refl _);refine hK.out _ _ hB2 (fun hSx=>?_);clear hK K hSx;refine tG 9 33 ?_;refine tG 10 43 ?_;refine tG 11 44 ?_;refine rdyH 12 rfl (fun K hK=>?_);go_simp;have D:Below wr.heap.size wr (x2.alloc (R #[U O 0,U .u8 0,U O 0] 132)):=bta hB2 (Nat.le_refl _) _;refine hK.out _ _ D (fun hSx=>?_);clear hK K hSx;refine rdyH 13 rfl (fun K hK=>?_);refine step_storeW rfl 132 (.tmp 2) (.tmp 43) rfl x2.heap.size 0 _ 132 #[U O 0,U .u8 0,U O 0] rfl rfl (hpNew x2 (R #[U O 0,U .u8 0,U O 0] 132)) (by simp) infoEvW rfl ?_;intro x5 g5 L aX;have t:Below wr.heap.size wr x5:=D.trans (L.below D.size (fun i hi e=>by have:=hB2.size;omega));refine hK.out _ _ t (fun hSx=>?_);clear hK K hSx
     (try dsimp only[Act.put]);refine V6 14 3 rfl rfl ?_;(try simp only[setS])
     refine wpAnyH_done (by kernel_rfl) ?_ _;go_wp2;go_meet
     case rel=>exact⟨rfl,t⟩
    ·go_simp
     have Yx:Below wr.heap.size wr (wr.alloc (R #[U O 0,U .u8 0,U O 0] 132)).drew:=(bal' wr _).drew;refine hK.out _ _ Yx (fun hSx=>?_);clear hK K hSx;refine rdyH 8 rfl (fun K hK=>?_);go_simp;refine(ab.out _ Yx).mono ?_;rintro r x2 ⟨rfl,m⟩;have hB2:=bt Yx m (Nat.le_refl _);have p2:x2.heap[wr.heap.size]?=N (R #[U O 0,U .u8 0,U O 0] 132):=hpKeep (w:=(wr.alloc (R #[U O 0,U .u8 0,U O 0] 132)).drew) (hpNew wr _) m;refine hK.out _ _ hB2 (fun hSx=>?_);clear hK K hSx;refine tG 9 33 ?_;refine tG 10 43 ?_;refine tG 11 44 ?_;refine rdyH 13 rfl (fun K hK=>?_);refine step_storeW rfl 132 (.tmp 2) (.tmp 43) rfl wr.heap.size 0 _ 132 #[U O 0,U .u8 0,U O 0] rfl rfl p2 (by simp) infoEvW rfl ?_;intro x5 g5 L aX;have t:Below wr.heap.size wr x5:=hB2.trans (L.below hB2.size (fun i hi e=>by omega));refine hK.out _ _ t (fun hSx=>?_);clear hK K hSx
     (try dsimp only[Act.put]);refine V6 14 3 rfl rfl ?_;(try simp only[setS])
     refine wpAnyH_done (by kernel_rfl) ?_ _;go_wp2;go_meet
     case rel=>exact⟨rfl,t⟩
   case rest=>
    obtain⟨rfl,av⟩:=hcut;have ak:=hid (a2.out _ av);clear aY WW;go_wp2;refine bodyPost_ret (results_none rfl _ _ _) rfl ?_;exact ak.out
theorem TM:(Tryz.prog.info? 136).map (·.size)=N 3:=by kernel_rfl
theorem Uj {x:Tx} (h:PK g k P x s W) (i:x.ph=1) (F:List UInt8) (hF:x.bytes=F):Calls Tryz.prog 61 #[.pointer (N ⟨g,0,M⟩)] W fun r d=>∃(a:Option Addr) (c:Nat),r=.returned (.agg #[U O 1,U O x.now,J a F.length c])∧d.ownsRow W.heap.size 5 1 (J a F.length c) F.length (u8s F)∧Below W.heap.size W d:=by
 have n:=h.ph;have l:x.live:=by unfold Tx.live;omega
 have e:x.bytes=fj (UInt8.ofNat x.un.toNat) x.q.bE:=by unfold Tx.bytes;rw[if_pos i]
 have m:=bp (UInt8.ofNat x.un.toNat) x.q.bE;have o:=Rq.lF x.q;rw[e] at hF;subst hF;rw[←h.now];exact B6 g s _ W h.at_ (by omega) (h.fr l) (by omega)
theorem Ef (h:lr gm gl gj k P PL Q c sv f y s w) (hb:y.b=true) (hp:y.x.ph=1) (i:Nat) (t z:Int) (hx:c.bj[i]?=N (t,z)) (a5:y.set=(i:Int)) (rV:y.x.b=t) (F:List UInt8) (hF:y.x.bytes=F) (he:y.n.j6 F.length y.x.now=0) (hm:y.n.pend.length≤90000000) (JX:y.n.aA.length≤1000000000) (hk:k≤1000000000) (Q4:kC y.n.pend (fM f.l (cA f.aC f.lp y.n.aA.length) t z F y.x.now)):
  Calls Tryz.prog 27 #[.pointer (N ⟨gm,0,M⟩)] w (Sf gm gl P c sv f ⟨y.n.send f.l f.aC f.lp t z F y.x.now,true,y.x.aA (y.x.now+aK t F.length),i,y.x.now+aK t F.length⟩ (k+1) w):=by
 have hG:=Lw.of h.sV;have ez:Hid (aU t z):=hG.set (t,z) (List.mem_of_getElem? hx);have D5:(y.x.kind !=1)=false:=by unfold Tx.kind;rw[if_neg (by omega),if_pos hp];rfl
 have c17:=h.c17 hb;have IZ:=hid (mb h hb);have RG:=hid (fun X (l:Below w.heap.size w X)=>Uj ((h.pk hb).keeps (Q:=fun _=>False) (Keeps.af l) (fun _ _ e=>e)) hp F hF);obtain⟨KD,aY⟩:=gE y.x.kind;rw[aY] at IZ D5;obtain⟨b,o,cc,rfl,w0,a6,fO⟩:=(h.AI w (Keeps.refl _ _)).at hx;obtain⟨n,hn⟩:=gE c.bj.length;obtain⟨T,Z⟩:=gE y.x.now;obtain⟨L,I⟩:=gE F.length;have hlen:1≤L∧L≤256:=by
  rw[I] at he;unfold Ln.j6 at he;split at he
  ·cases he
  ·omega
 obtain⟨bx,bA⟩:=gD ez.out hlen.2;obtain⟨E,hE⟩:∃E,T+aK t L=E:=⟨_,rfl⟩
 have tt:i<n:=by rw[←hn];exact(List.getElem?_eq_some_iff.1 hx).1
 have bn:Hid (∀X,Keeps P w X→X.cell? ⟨b,o+i*2,M⟩=N (U O t)∧X.cell? ⟨b,o+i*2+1,M⟩=N (U O z)):=fun X l=>by
  obtain⟨b',o',c',hv,-,-,bX⟩:=(h.AI X l).at hx;simp only[Value.slice.injEq,Option.some.injEq,Addr.mk.injEq,and_true,true_and] at hv;obtain⟨⟨rfl,rfl⟩,rfl⟩:=hv;exact bX X (Below.refl _ _)
 have bc:Hid (∀X (fa:Option Addr) (fc:Nat),Below w.heap.size w X→(∀Y,Keeps PL X Y→Bs Y (J fa L fc) F)→Calls Tryz.prog 74 #[.pointer (N ⟨gl,0,M⟩),.agg #[U O t,U O z],J fa L fc,U O T] X (zq PL X gl (.slice f.la f.ln f.lc) (.slice f.aa f.an f.ac) f.lp (y.n.send f.l f.aC f.lp t z F T) E)):=fun X fa fc l hY=>by
  have xe:Keeps PL w X:=Keeps.af l;have JW:=h.ln.ah (F:=fun _=>False) (Keeps.af l) (fun _ _ e=>e);have bK:IA PL X f.la f.ln f.lc f.aa f.an f.ac f.l f.aC f.lp:=h.G.next (Keeps.af l) (fun j _ e=>h.pl j e);have h9:=Ld JW bK t z ez w0 a6 fa L fc F hY T (by rw[←I,←Z];exact he) hm JX (by rw[←Z];exact Q4);rw[hE] at h9;exact h9
 have LH:Hid ((y.n.send f.l f.aC f.lp t z F T).ok):=by
  have a2:0≤T∧T≤ia:=by
   rw[Z] at he;unfold Ln.j6 at he;split at he
   ·cases he
   ·split at he
    ·cases he
    ·omega
  exact h.Rj.send h.G.Bq h.G.ok f.lp ez.out (by omega) a2.1 a2.2
 have ak:Hid (T≤E∧E≤T+4000000):=by show _∧_;omega
 have b4:(0:Int)≤(i:Int):=Int.natCast_nonneg _;have b5:(i:Int)<(n:Int):=by omega
 rw[Z] at RG;rw[I] at RG;have H:=hid h;have CX:=hid (And.intro hn (And.intro Z (And.intro I (And.intro a5 (And.intro hb (And.intro hp (And.intro rV hE)))))));rw[hn] at h H;rw[Z,I,hE];clear hG hx fO aY hn Z I he hm JX hlen bx bA hE tt hb hp a5 rV hF w0 a6;have a8:∀X,Keeps PL w X→X.cell? ⟨gm,16,M⟩=N (.pointer (N ⟨gl,0,M⟩)):=fun X l=>(hpCell (hpKeeps H.out.at_ l H.out.CS) 16).trans rfl
 clear h;go_enter Tryz.func27,Tryz.ntmps27;go_upto_region 6 with(first
  |(go_at_call 60;(with_reducible refine IZ.out.mono ?_);rintro r w1 ⟨rfl,A⟩;have aX:=cell_keep A c17)
  |(go_at_call 61;(with_reducible refine(RG.out _ A).mono ?_);rintro r w2 ⟨fa,fc,rfl,C,ad⟩)
  |(refine wpList_storeW rfl 136 (.tmp 3) (.tmp 22) rfl w2.heap.size 0 _ 136 #[U O 1,U O T,J fa L fc] rfl rfl (hpNew w2 _) (by simp) TM rfl ?_;intro m g4 a3 bQ))
 obtain⟨p4,dh⟩:=cJ (by rfl) g4 a3;have AR:Hid (Below w.heap.size w m):=bt (bt A ad (Nat.le_refl _)) (dh.mono (Nat.le_refl _)) (Nat.le_refl _);have z1:=A.size;have z2:=ad.size;have HZ:Hid (w.heap.size≤w1.heap.size∧w1.heap.size≤w2.heap.size):=⟨z1,z2⟩
 have B:∀X,Keeps PL m X→Keeps PL w X:=fun X l=>(Keeps.af AR.out).trans l (fun _ _ e=>e)
 have a4:∀j,PL j→j<w.heap.size:=H.out.ln.Ri;have ab:¬PL w2.heap.size:=fun e=>by have:=a4 _ e;omega
 have a9:Hid (∀Y,Keeps PL m Y→Bs Y (J fa L fc) F):=fun Y hY=>by
  have I:=CX.out.2.2.1;have o2:=own_keeps (own_keeps C (Keeps.af (F:=fun _=>False) dh) (fun _ _ e=>e)) hY (fun j x e=>by
   have h1:=(C.lt j x).1
   have:=a4 _ e
   omega)
  rw[←I] at o2 ⊢;exact Bs.own o2
 have u16:∀X,Keeps PL m X→X.cell? ⟨gm,16,M⟩=N (.pointer (N ⟨gl,0,M⟩)):=fun X l=>a8 X (B X l)
 have u0:∀X,Keeps PL m X→X.cell? ⟨gm,0,M⟩=N (J (N ⟨b,o,M⟩) n cc):=fun X l=>(hpCell (hpKeeps H.out.at_ (B X l) H.out.CS) 0).trans rfl
 have u18:∀X,Keeps PL m X→X.cell? ⟨gm,18,M⟩=N (U O (i:Int)):=fun X l=>(hpCell (hpKeeps H.out.at_ (B X l) H.out.CS) 18).trans (by rw[←CX.out.2.2.2.1];rfl)
 have v1:∀X,Keeps PL m X→X.cell? ⟨w2.heap.size,1,M⟩=N (U O T):=fun X l=>hpCell (hpKeeps p4 l ab) 1
 have v2:∀X,Keeps PL m X→X.cell? ⟨w2.heap.size,2,M⟩=N (J fa L fc):=fun X l=>hpCell (hpKeeps p4 l ab) 2
 have LZ:Hid (∀X,Keeps PL m X→∀j u,(#[U O t,U O z]:Array Value).toList[j]?=N u→X.cell? ((⟨b,o+i*2,M⟩:Addr).add j)=N u):=fun X l j u x=>by
  obtain⟨e0,e1⟩:=bn.out X ((B X l).mono (fun j _ e=>H.out.pl j e));rw[Addr.add_lit];rcases j with _|_|j
  ·cases x;exact e0
  ·cases x;exact e1
  ·cases x
 have kD:Below m.heap.size m m.drew:=(Below.refl _ _).drew;have kS:Keeps PL m m.drew:=Keeps.af kD;have bZ:=hid p4;have a7:(Tryz.prog.info? 61).map (·.size)=N 2:=nW;clear c17 aX g4 a3 bQ A ad dh C z1 z2 p4 a8 ab IZ RG D5;dsimp only[Act.put];refine wp_region_held_drew (S:=fun V=>Keeps PL m V) (by kernel_rfl) kS (fun hH=>?_);clear hH;refine tG 0 24 ?_;refine tG 1 25 ?_;refine tG 2 26 ?_;refine tG 3 27 ?_;refine tG 4 28 ?_;refine tG 5 29 ?_;refine tG 6 30 ?_;refine tG 7 31 ?_;refine tG 8 32 ?_;refine tG 9 33 ?_;refine tG 10 34 ?_;refine tG 11 35 ?_;refine tG 12 36 ?_;refine tG 13 37 ?_;refine tkD 14 38 (v:=.agg #[U O t,U O z]) rfl (by kernel_rfl) (fun _ _ _ h=>h) rfl (by rfl) (by assumption) (fun X l=>run_load_rowT 61 (.tmp 37) rfl ⟨b,o+i*2,M⟩ rfl #[U O t,U O z] _ (LZ.out X l) Tryz.underlying61 rfl a7) ?_;simp only[setS];refine tG 15 39 ?_;refine tG 16 40 ?_;refine tG 17 41 ?_;refine tG 18 42 ?_;refine rdyH 19 rfl (fun K hK=>?_);go_simp;refine(bc.out _ fa fc (bt AR.out kD (Nat.le_refl _)) (fun Y hY=>a9.out Y (kS.trans hY (fun _ _ e=>e)))).mono ?_;rintro r w5 ⟨rfl,Tz,G⟩;have IN:Keeps PL m w5:=kS.trans G (fun _ _ e=>e);refine hK.out _ _ IN (fun bC=>?_);clear hK K bC;refine tG 20 23 ?_;refine tG 21 44 ?_;refine tG 22 45 ?_;refine tG 23 4 ?_;refine tG 24 5 ?_;refine wpAnyH_done (by kernel_rfl) ?_ _;have h4:=H.out.bW (bt AR.out kD (Nat.le_refl _));have D:=hid (h4.line Tz G LH.out).1;have ao:=hid (h4.line Tz G LH.out).2;have WW:w5.cell? ⟨gm,19,M⟩=N (U O y.now):=(hpCell D.out.at_ 19).trans rfl;have f19:=hpFree D.out.at_ 19;obtain⟨gI,Wg⟩:=gE y.now;rw[Wg] at WW;have ba:=hid kD;clear u16 u0 u18 v1 v2 Tz G kS IN kD h4 Wg a7 B;go_upto_region 10 with(fail)
 obtain⟨W6,vf⟩:∃W,w5.setCell ⟨gm,19,M⟩ (U O E)=W:=⟨_,rfl⟩
 rw[vf];obtain⟨e1,e2,e3,e4,e5,e6,e7,e8⟩:=CX.out;have rm:Keeps (· =gm) w5 W6:=by rw[←vf];exact ks1 (Keeps.refl (· =gm) w5) 19 _
 have Ww:W6.heap[gm]?=N (R (MC c (J (N ⟨b,o,M⟩) n cc) gl (T0 true gj) y.set E) 129):=by
  have h:=D.out.at_;have bo:({y with n:=y.n.send f.l f.aC f.lp t z F T}:Ms).b=true:=e5;rw[bo] at h;rw[←vf];exact hpSetE h rfl
 have zZ:=hid (D.out.own (b':=true) (gj':=gj) (k':=k) (Q':=Q) (x':=y.x) (s':=s) (st':=y.set) (now':=E) rm Ww (fun _=>D.out.pk e5) (fun j x=>⟨D.out.Lv j x,fun e=>D.out.Jw j e x,fun e=>D.out.JL (e▸x),D.out.pq j x⟩));have nr:=hid (Jj (zZ.out.1.pk rfl) e6 hk E (by have:=ak.out;show y.x.now≤E;omega) (by have:=ak.out;show E≤y.x.now+4000000;omega));have WT:W6.cell? ⟨gm,17,M⟩=N (.pointer (N ⟨gj,0,M⟩)):=zZ.out.1.c17 rfl;clear WW f19 rm Ww vf e1 e2 e3 e4 e5 e6 e7 e8;go_wp2_with (go_at_call 75;(with_reducible refine nr.out.mono ?_);rintro r w7 ⟨s',rfl,E3,JT⟩;have bm:=hid E3;have av:=hid JT;clear E3 JT);go_ret;obtain⟨e1,e2,e3,e4,e5,e6,e7,e8⟩:=CX.out;obtain⟨q1,q2⟩:=zZ.out.1.link bm.out av.out;have z4:=AR.out.size;have z5:m.heap.size≤w5.heap.size:=ao.out.size;have z6:=zZ.out.2.size;have z7:=av.out.size;have kq:Keeps P w w7:=((((Keeps.af AR.out).trans (Keeps.af ba.out) (fun _ _ e=>e)).trans ao.out (fun _ _ e=>e)).trans zZ.out.2 (fun j x e=>by
  rcases e with e|e
  ·exact e
  ·have h1:m.heap.size≤j:=e.1
   omega)).trans q2 (fun j x e=>by
  rcases e with e|e
  ·exact e
  ·have h1:m.heap.size≤j:=e.1
   omega)
 refine⟨gj,k+1,ax PL m.drew w5,iK Q W6 w7,s',rfl,?_,kq,Nat.le_refl _⟩;rw[←e4,e1];refine H.out.base q1 kq (fun j x=>?_);rcases x with(e|e)|e
 ·exact .inl e
 ·have h1:m.heap.size≤j:=e.1
  exact .inr ⟨by omega,by have:=e.2;omega⟩
 ·exact .inr ⟨by have:=e.1;omega,e.2⟩
theorem TR:(Tryz.prog.info? 35).map (·.size)=N 21:=by kernel_rfl
theorem xar:(Tryz.prog.info? 49).map (·.size)=N 6:=by kernel_rfl
def Dn (c:Cf) (l:List Sl) (s:lg):Prop:=c.bj.length≤6∧oA c=0∧(gx l∧(l.length:Int)≤5)∧cW l∧(s.aC.length≤24∧s.cr.length≤12)∧s.ok
theorem Hf {lv a d i:Value} {lp:Bool} (h:(yh c sv).toList[j]?=N v):(wm c sv lv a lp d i)[j]?=N v:=by
 have e:(wm c sv lv a lp d i).toList=(yh c sv).toList++[lv,a,.bool lp,d,i]:=rfl;have l:(wm c sv lv a lp d i).toList[j]?=N v:=by
  rw[e,List.getElem?_append_left (List.getElem?_eq_some_iff.1 h).1];exact h
 simpa using l
theorem xay (s:lg) (a d:Value) (w:World) (l:ke w a s.aC) (m:dw w d s.cr) (V:Bool) (i:V=true↔s.ok):Calls Tryz.prog 48 #[.agg #[a,.bool s.loop,d]] w (aj w V):=
 (qJ s a d w l m).mono fun r w' ⟨B,h1,h2,h3⟩=>by
  have e:B=V:=by
   cases B<;>cases V
   ·rfl
   ·exact absurd (h2.out.2 (i.1 rfl)) Bool.noConfusion
   ·exact absurd (i.2 (h2.out.1 rfl)) Bool.noConfusion
   ·rfl
  subst e;exact⟨h1,h3⟩
theorem Pe (c:Cf) (l:List Sl) (s:lg) (sv lv av cv kv:Value) (w:World) (hR:dw w sv c.bj) (hL:dm w lv l) (hA:ke w av s.aC) (hC:dw w cv s.cr) (V:Bool) (hV:V=true↔Dn c l s):
  Calls Tryz.prog 10 #[.agg (wm c sv lv av s.loop cv kv)] w (aj w V):=by
 obtain⟨n,hn⟩:=gE c.bj.length;obtain⟨an,lG⟩:=gE s.aC.length;obtain⟨B,rT⟩:=gE s.cr.length;obtain⟨lp,oB⟩:=gE s.loop;obtain⟨EC,Z⟩:=gE (oA c);obtain⟨VS,ao,a2⟩:=vR l 5;obtain⟨VB,No,aY⟩:=Ik l;obtain⟨VO,ad⟩:=bU (p:=s.ok);obtain⟨VM,ab⟩:∃V,decide ((an:Int)≤24∧B≤12)=V:=⟨_,rfl⟩
 have t:Hid (¬Dn c l s→V=false):=fun h=>by
  cases e:V with
  |false=>rfl
  |true=>exact absurd (hV.1 e) h
 have L:Hid (Dn c l s→V=true):=hV.2;have XQ:Hid (∀X,Below w.heap.size w X→Calls Tryz.prog 48 #[.agg #[av,.bool lp,cv]] X (aj X VO)):=fun X i=>by
  rw[←oB];exact xay s av cv X (hA.ah i) (hC.ah i) VO ad
 have Aa:Hid (∀X,Below w.heap.size w X→Calls Tryz.prog 45 #[lv,U O 5] X (aj X VS)):=fun X i=>(a2 X _ (hL.ah i)).mono fun r w' h=>⟨h.1,by rw[←h.2];exact Below.refl _ _⟩
 have K:Hid (∀X,Below w.heap.size w X→Calls Tryz.prog 46 #[lv] X (aj X VB)):=fun X i=>aY X _ (hL.ah i)
 obtain⟨sa,sc,zJ,-⟩:=id hR;obtain⟨la,lc,qQ⟩:=hL.KH;obtain⟨aa,ac,VK,-⟩:=id hA;obtain⟨T,Y,VN,-⟩:=id hC;rw[hn] at zJ;rw[lG] at VK;rw[rT] at VN;obtain⟨ln,kN⟩:=gE l.length;rw[kN] at qQ;subst zJ qQ VK VN;rw[oB];obtain⟨C,qd⟩:=gE (yh c (J sa n sc));have hi:(Tryz.prog.info? 27).map (·.size)=N C.size:=by rw[←qd];exact qV
 have z:Hid (∀X,Below w.heap.size w X→Calls Tryz.prog 29 #[.agg C] X (jL X EC)):=fun X i=>by
  rw[←qd];exact uz c _ X (hR.ah i) EC Z
 have ak:Hid (∀X,Calls Tryz.prog 47 #[.agg #[J aa an ac,.bool lp,J T B Y],U O 24] X (aj X VM)):=fun X=>OS aa T an ac B Y lp 24 VM ab.symm X
 obtain⟨D,hD⟩:=gE (wm c (J sa n sc) (J la ln lc) (J aa an ac) lp (J T B Y) kv);rw[hD];obtain⟨S,bo,aX,pD⟩:=eY w (R D 35);have U9:Hid (∀X,Below S.heap.size S X→∀j u,C.toList[j]?=N u→X.cell? ((⟨w.heap.size,0,M⟩:Addr).add j)=N u):=fun X i j u hj=>by
  rw[Addr.add_lit,Nat.zero_add,hpCell (hpKeep pD i),←hD];exact Hf (by rw[qd];exact hj)
 have Vo:Hid (∀X,Below S.heap.size S X→∀j u,(#[J aa an ac,.bool lp,J T B Y]:Array Value).toList[j]?=N u→X.cell? ((⟨w.heap.size,17,M⟩:Addr).add j)=N u):=fun X i j u hj=>by
  rw[Addr.add_lit,hpCell (hpKeep pD i),←hD];rcases j with _|_|_|j
  ·cases hj;rfl
  ·cases hj;rfl
  ·cases hj;rfl
  ·cases hj
 have t16:∀X,Below S.heap.size S X→X.cell? ⟨w.heap.size,16,M⟩=N (J la ln lc):=fun X i=>(hpCell (hpKeep pD i) 16).trans (by rw[←hD];rfl)
 have c0:S.cell? ⟨w.heap.size,0,M⟩=N (J sa n sc):=(hpCell pD 0).trans (by rw[←hD];rfl);have m:=hid bo;have a:=hid aX;have o:Hid (Dn c l s↔n≤6∧EC=0∧VS=true∧VB=true∧VM=true∧VO=true):=by
  show _↔_;unfold Dn;rw[hn,Z,ao,No,ad,lG,rT,←ab,decide_eq_true_eq];have e:((an:Int)≤24∧B≤12)↔(an≤24∧B≤12):=by omega
  rw[e]
 clear hV hR hL hA hC hn lG rT oB Z ao a2 No aY ad ab kN qd hD bo aX pD;by_cases c1:n≤6
 ·have g1:decide ((n:Int)≤6)=true:=decide_eq_true (by omega)
  have SQ:(n:Int)≤6:=by omega
  by_cases c2:EC=0
  ·subst c2
   cases VS with
   |false=>
    have x:=hid (t.out (fun h=>by have:=(o.out.1 h).2.2.1;cases this));clear c1 o t L;go_enter Tryz.func10,Tryz.ntmps10;go_upto_region 1 with(fail)
    rw[m.out];go_wp2_with (first|(refine wpList_load_atH (by rfl) 27 (.tmp 9) rfl ⟨w.heap.size,0,M⟩ rfl C _ (U9.out _ (Below.refl _ _)) Tryz.underlying27 rfl hi ?_)|(go_at_call 29;(with_reducible refine(z.out _ a.out).mono ?_);rintro r G ⟨rfl,d⟩;have q:=bt a.out d (Nat.le_refl _);have Ie:=t16 G d)|(go_at_call 45;(with_reducible refine(Aa.out _ q).mono ?_);rintro r x2 ⟨rfl,A⟩;have F:=bt q A (Nat.le_refl _);have E:=bt d A (Nat.le_refl _);have d16:=t16 x2 E));go_ret;exact⟨by rw[x.out]<;>rfl,F⟩
   |true=>
   cases VB with
   |false=>
    have x:=hid (t.out (fun h=>by have:=(o.out.1 h).2.2.2.1;cases this));clear c1 o t L;go_enter Tryz.func10,Tryz.ntmps10;go_upto_region 1 with(fail)
    rw[m.out];go_wp2_with (first|(refine wpList_load_atH (by rfl) 27 (.tmp 9) rfl ⟨w.heap.size,0,M⟩ rfl C _ (U9.out _ (Below.refl _ _)) Tryz.underlying27 rfl hi ?_)|(go_at_call 29;(with_reducible refine(z.out _ a.out).mono ?_);rintro r G ⟨rfl,d⟩;have q:=bt a.out d (Nat.le_refl _);have Ie:=t16 G d)|(go_at_call 45;(with_reducible refine(Aa.out _ q).mono ?_);rintro r x2 ⟨rfl,A⟩;have F:=bt q A (Nat.le_refl _);have E:=bt d A (Nat.le_refl _);have d16:=t16 x2 E)|(go_at_call 46;(with_reducible refine(K.out _ F).mono ?_);rintro r x3 ⟨rfl,I⟩;have z3:=bt F I (Nat.le_refl _);have k3:=bt E I (Nat.le_refl _)));go_ret;exact⟨by rw[x.out]<;>rfl,z3⟩
   |true=>
   cases VM with
   |false=>
    have x:=hid (t.out (fun h=>by have:=(o.out.1 h).2.2.2.2.1;cases this));clear c1 o t L;go_enter Tryz.func10,Tryz.ntmps10;go_upto_region 1 with(fail)
    rw[m.out];go_wp2_with (first|(refine wpList_load_atH (by rfl) 27 (.tmp 9) rfl ⟨w.heap.size,0,M⟩ rfl C _ (U9.out _ (Below.refl _ _)) Tryz.underlying27 rfl hi ?_)|(go_at_call 29;(with_reducible refine(z.out _ a.out).mono ?_);rintro r G ⟨rfl,d⟩;have q:=bt a.out d (Nat.le_refl _);have Ie:=t16 G d)|(go_at_call 45;(with_reducible refine(Aa.out _ q).mono ?_);rintro r x2 ⟨rfl,A⟩;have F:=bt q A (Nat.le_refl _);have E:=bt d A (Nat.le_refl _);have d16:=t16 x2 E)|(go_at_call 46;(with_reducible refine(K.out _ F).mono ?_);rintro r x3 ⟨rfl,I⟩;have z3:=bt F I (Nat.le_refl _);have k3:=bt E I (Nat.le_refl _))|(refine wpList_load_atH (by rfl) 32 (.tmp 25) rfl ⟨w.heap.size,17,M⟩ rfl #[J aa an ac,.bool lp,J T B Y] _ (Vo.out _ k3) Tryz.underlying32 rfl bu ?_)|(go_at_call 47;(with_reducible refine(ak.out _).mono ?_);rintro r x4 ⟨rfl,y4⟩;have z4:=bt z3 y4 (Nat.le_refl _);have k4:=bt k3 y4 (Nat.le_refl _)));go_ret;exact⟨by rw[x.out]<;>rfl,z4⟩
   |true=>
    have x:Hid (V=VO):=by
     show _=_;cases VO with
     |true=>exact L.out (o.out.2 ⟨c1,rfl,rfl,rfl,rfl,rfl⟩)
     |false=>exact t.out (fun h=>by have:=(o.out.1 h).2.2.2.2.2;cases this)
    clear c1 o t L;go_enter Tryz.func10,Tryz.ntmps10;go_upto_region 1 with(fail)
    rw[m.out];go_wp2_with (first|(refine wpList_load_atH (by rfl) 27 (.tmp 9) rfl ⟨w.heap.size,0,M⟩ rfl C _ (U9.out _ (Below.refl _ _)) Tryz.underlying27 rfl hi ?_)|(go_at_call 29;(with_reducible refine(z.out _ a.out).mono ?_);rintro r G ⟨rfl,d⟩;have q:=bt a.out d (Nat.le_refl _);have Ie:=t16 G d)|(go_at_call 45;(with_reducible refine(Aa.out _ q).mono ?_);rintro r x2 ⟨rfl,A⟩;have F:=bt q A (Nat.le_refl _);have E:=bt d A (Nat.le_refl _);have d16:=t16 x2 E)|(go_at_call 46;(with_reducible refine(K.out _ F).mono ?_);rintro r x3 ⟨rfl,I⟩;have z3:=bt F I (Nat.le_refl _);have k3:=bt E I (Nat.le_refl _))|(refine wpList_load_atH (by rfl) 32 (.tmp 25) rfl ⟨w.heap.size,17,M⟩ rfl #[J aa an ac,.bool lp,J T B Y] _ (Vo.out _ k3) Tryz.underlying32 rfl bu ?_)|(go_at_call 47;(with_reducible refine(ak.out _).mono ?_);rintro r x4 ⟨rfl,y4⟩;have z4:=bt z3 y4 (Nat.le_refl _);have k4:=bt k3 y4 (Nat.le_refl _))|(refine wpList_load_atH (by rfl) 32 (.tmp 30) rfl ⟨w.heap.size,17,M⟩ rfl #[J aa an ac,.bool lp,J T B Y] _ (Vo.out _ k4) Tryz.underlying32 rfl bu ?_)|(go_at_call 48;(with_reducible refine(XQ.out _ z4).mono ?_);rintro r x5 ⟨rfl,y5⟩;have z5:=bt z4 y5 (Nat.le_refl _)));go_ret;exact⟨by rw[x.out]<;>rfl,z5⟩
  ·have x:=hid (t.out (fun h=>c2 (o.out.1 h).2.1))
   have g2:(EC==0)=false:=beq_eq_false_iff_ne.2 c2;clear c1 c2 o t L;go_enter Tryz.func10,Tryz.ntmps10;go_upto_region 1 with(fail)
   rw[m.out];go_wp2_with (first|(refine wpList_load_atH (by rfl) 27 (.tmp 9) rfl ⟨w.heap.size,0,M⟩ rfl C _ (U9.out _ (Below.refl _ _)) Tryz.underlying27 rfl hi ?_)|(go_at_call 29;(with_reducible refine(z.out _ a.out).mono ?_);rintro r G ⟨rfl,d⟩;have q:=bt a.out d (Nat.le_refl _);have Ie:=t16 G d));go_ret;exact⟨by rw[x.out]<;>rfl,q⟩
 ·have x:=hid (t.out (fun h=>c1 (o.out.1 h).1))
  have g1:decide ((n:Int)≤6)=false:=decide_eq_false (by omega);have SQ:¬(n:Int)≤6:=by omega
  clear c1 o t L;go_enter Tryz.func10,Tryz.ntmps10;go_upto_region 1 with(fail)
  rw[m.out];go_wp2;go_ret;exact⟨by rw[x.out]<;>rfl,a.out⟩
