import Derived.Test.YtoaoejaodhedaaaGreatT32
namespace Go.Proofs.YtoaoejaodhedaaaGreat
open Go.RowKit
open Value renaming slice→J,int→O
open Option renaming none→M,some→N
open IntKind renaming i64→R
open Obj renaming cells→A
open Ending renaming returned→d
set_option maxHeartbeats 12800000
set_option maxRecDepth 100000
variable {c:Cf} {f:Fx} {s:Lk} {y:Ms} {b b' g gj gl gm j k n size:Nat} {P PL Q:Nat→Prop} {p:Prop} {sv v:Value} {W w:World}
def xaN (w:World) (s:Lk) (F:List UInt8) (r:Ending) (w':World):Prop:=
 ∃(a:Option Addr) (c:Nat),r=d (.agg #[O R 1,O R s.now,J a F.length c])∧w'.ownsRow w.heap.size 5 1 (J a F.length c) F.length (u8s F)∧Below w.heap.size w w'
theorem Tz {e:TypeId} {xs:List Value} (h:w.ownsRow b e size v n xs) (i:b'≤b):w.ownsRow b' e size v n xs:=by
 obtain⟨d,a⟩:=h;refine⟨d,?_⟩;rcases a with a|⟨g,cap,cur,l,m,o⟩
 ·exact .inl a
 ·exact .inr ⟨g,cap,cur,l,Nat.le_trans i m,o⟩
theorem FW (g:Nat) (s:Lk) (F:List UInt8) (w:World) (G:LkAt w g s) (Z:s.ph=1) (y7:Bs w (.slice s.fa s.fn s.fc) F) (hF:F.length≤1000):
  Calls Tryz.prog 61 #[.pointer (N ⟨g,0,M⟩)] w (xaN w s F):=by
 have hg:=G.lt;obtain⟨i,U,m,V⟩:=eY w (A #[O R 0,O R 0,J none 0 0] 136);have l1:=G.ah m;have c5:i.cell? ⟨g,5,M⟩=N (O R 1):=by rw[l1.cell 5];simp [Lk.cells,Z]
 have u:g≠w.heap.size:=by omega
 have Bi:∀W,lM i w.heap.size s.now W→W.cell? ⟨g,13,M⟩=N (O R s.now):=fun W h=>h.cell l1 u 13
 have Hf:∀W,lM i w.heap.size s.now W→W.cell? ⟨g,12,M⟩=N (.slice s.fa s.fn s.fc):=fun W h=>h.cell l1 u 12
 have I:Below i.heap.size i i.drew:=(Below.refl _ _).drew;have kS:lM i w.heap.size s.now i.drew:=.inl I;have yr:Hid (∀W,Below i.heap.size i W→Calls Tryz.prog 80 #[.slice s.fa s.fn s.fc] W fun r K=>∃a c,r=d (J a F.length c)∧K.ownsRow W.heap.size 5 1 (J a F.length c) F.length (u8s F)∧Below W.heap.size W K):=fun W hW=>by
  refine(bY _ F W ((y7.ah m).ah hW) (by omega)).mono ?_;rintro r K ⟨v',rfl,l,hb⟩;obtain⟨a,c,rfl⟩:=own_slice l;exact⟨a,c,rfl,l,hb⟩
 have T:∀X a n c,Below i.heap.size i X→lM i w.heap.size s.now (((X.setCell ⟨w.heap.size,0,M⟩ (O R 1)).setCell ⟨w.heap.size,1,M⟩ (O R s.now)).setCell ⟨w.heap.size,2,M⟩ (J a n c)):=fun X a n c h=>.inr ⟨X,a,n,c,h,rfl⟩
 have B:=hid U;have z:=hid m;have S:=hid V;clear G Z y7 U m l1 V hF;go_enter Tryz.func61,Tryz.ntmps61;go_upto_region 1 with(fail)
 rw[B.out];go_wp2;go_region_held3 (fun W=>lM i w.heap.size s.now W) ((with_reducible (first|exact kS|assumption|exact T _ _ _ _ x))) ((go_at_call 80;(with_reducible refine(yr.out i.drew I).mono ?_);rintro r L ⟨a,c,rfl,l,D⟩;have x:=bt I D (Nat.le_refl _);have Ko:lM i w.heap.size s.now L:=.inl x;have o:=hpKeep S.out x;have z0:=hpCell o 0;have z1:=hpCell o 1;have z2:=hpCell o 2;have y0:=hpFree o 0;have y1:=hpFree o 1;have y2:=hpFree o 2));have Y:=hpSet (hpSet (hpSet o 0 (O R 1)) 1 (O R s.now)) 2 (J a F.length c);obtain⟨q0,q1,q2⟩:=ZB Y
 obtain⟨W5,q⟩:∃W,W=((L.setCell ⟨w.heap.size,0,M⟩ (O R 1)).setCell ⟨w.heap.size,1,M⟩ (O R s.now)).setCell ⟨w.heap.size,2,M⟩ (J a F.length c):=⟨_,rfl⟩
 rw[←q] at q0 q1 q2 ⊢;have C:=hid q;have ab:w.heap.size<i.heap.size:=(Array.getElem?_eq_some_iff.1 S.out).1;clear q Y z0 z1 z2 y0 y1 y2 o Bi Hf T;go_wp2;refine bodyPost_ret (v:=.agg #[O R 1,O R s.now,J a F.length c]) (by simp [results,Tryz.results61,go_sem,q0,q1,q2]) rfl ?_;have E:Keeps (· =w.heap.size) L W5:=by rw[C.out];exact kset' (kset' (kset' (Keeps.refl _ _) _ _) _ _) _ _
 refine⟨a,c,rfl,?_,?_⟩
 ·exact Tz (b:=i.heap.size) (own_keeps l E (fun j hj e=>by
   have h1:=(l.lt j hj).1
   have h2:j=w.heap.size:=e
   have h3:i.heap.size≤j:=h1
   omega)) (show w.heap.size≤i.heap.size by omega)
 ·have t:=bt z.out x (Nat.le_refl _)
  exact t.trans (E.below t.size (fun k E e=>by omega))
def Ra (gm gl gj k:Nat) (P PL Q:Nat→Prop) (c:Cf) (sv:Value) (f:Fx) (y:Ms) (s:Lk) (w:World) (r:Ending) (w':World):Prop:=∃now',r=d (.tuple #[])∧y.now≤now'∧now'≤y.now+20000000∧nV gm gl gj k (ax P w w') PL Q c sv f ⟨y.n,false,y.x,y.set,now'⟩ s w'∧Keeps P w w'
def NowS (gm gl:Nat) (c:Cf) (sv lv:Value) (st:Int) (V:World):Prop:=∃nw,V.heap[gm]?=N (A (MC c sv gl lv st nw) 129)
theorem xav (h:p:=by
 refine rdyH 23 rfl (fun K hK=>?_);go_simp
 have g3:(w2.setCell ⟨gm,19,none⟩ (.int .i64 (now+I))).heap[gm]?=some (.cells (MC c (.slice sa sn sc) gl LV y.set (now+I)) 129):=hpSetE (hpKeep HG1.out hB2) rfl
 have hS3:NowS gm gl c (.slice sa sn sc) LV y.set (w2.setCell ⟨gm,19,none⟩ (.int .i64 (now+I))):=⟨_,g3⟩
 have hk3:Keeps (· =gm) w1 (w2.setCell ⟨gm,19,none⟩ (.int .i64 (now+I))):=(Keeps.af hB2).trans (ks1 (Keeps.refl (· =gm) w2) 19 _) (fun _ _ e=>e)
 refine hK.out _ _ hS3 (fun hSx=>?_)
 clear hK K hSx
 refine wpAnyH_done (by kernel_rfl) ?_ _
 go_wp2
 go_meet
 case rel=>exact⟨now+I,by omega,by omega,g3,hk3⟩):p:=h
theorem Pd (h:nV gm gl gj k P PL Q c sv f y s w) (hb:y.b=false) (hp:y.n.pend=[]) (Eg:0≤y.now) (vj:y.now≤600000000000000000):Calls Tryz.prog 22 #[.pointer (N ⟨gm,0,M⟩)] w (Ra gm gl gj k P PL Q c sv f y s w):=by
 have hG:=Mr.of h.sY;have Vu:=hid (Ff h false (by show (y.b&&_)=false;rw[hb];rfl));have VI:Hid (∀X,Below w.heap.size w X→Calls Tryz.prog 58 #[sv,O R c.ti,O R c.de] X (H5 X)):=fun X l=>Pb c hG sv X (h.Ex X (Keeps.af l))
 have ad:∀C,y.n.due C=false:=fun C=>by unfold Ln.due;rw[hp]
 have Zp:Hid (∀C X,cU PL X gl (.slice f.la f.ln f.lc) (.slice f.aa f.an f.ac) f.lp y.n→Calls Tryz.prog 59 #[.pointer (N ⟨gl,0,M⟩),O R C] X fun r w'=>r=d (.tuple #[.agg #[O R 0,O .u8 0,O R 0],.bool false])∧Below X.heap.size X w'):=fun C X l=>sg l C (ad C)
 obtain⟨sa,sn,sc,rfl⟩:∃a n c,sv=J a n c:=by
  obtain⟨a,cc,e,-⟩:=id (h.Ex w (Keeps.refl _ _));exact⟨a,_,cc,e⟩
 obtain⟨ti,AH⟩:=gE c.ti;obtain⟨de,xZ⟩:=gE c.de;obtain⟨now,AG⟩:=gE y.now;rw[AH,xZ] at VI;rw[AG] at Eg vj;have vf:=hid h.at_;have H:=hid h;have Hy:=hid (And.intro AH (And.intro xZ (And.intro AG hb)));obtain⟨LV,UO⟩:=gE (YE y.b gj);rw[UO,AG] at vf;have Uw:=hid UO;clear h hG ad AH xZ AG hb hp UO;go_enter Tryz.func22,Tryz.ntmps22;go_upto_region 1 with(go_at_call 57;(with_reducible refine Vu.out.mono ?_);rintro r w1 ⟨rfl,G⟩)
 have u:=hid G;have g1:=hpKeep vf.out G;have HG1:=hid g1;have E:NowS gm gl c (J sa sn sc) LV y.set w1.drew:=⟨now,g1⟩
 have y0:∀X,NowS gm gl c (J sa sn sc) LV y.set X→X.cell? ⟨gm,0,M⟩=N (J sa sn sc):=fun X l=>by obtain⟨nw,l⟩:=l;exact(hpCell l 0).trans rfl
 have y4:∀X,NowS gm gl c (J sa sn sc) LV y.set X→X.cell? ⟨gm,4,M⟩=N (O R ti):=fun X l=>by obtain⟨nw,l⟩:=l;exact(hpCell l 4).trans (by rw[←Hy.out.1];rfl)
 have y5:∀X,NowS gm gl c (J sa sn sc) LV y.set X→X.cell? ⟨gm,5,M⟩=N (O R de):=fun X l=>by obtain⟨nw,l⟩:=l;exact(hpCell l 5).trans (by rw[←Hy.out.2.1];rfl)
 have PI:∀X,Below w1.heap.size w1 X→X.cell? ⟨gm,19,M⟩=N (O R now):=fun X l=>(hpCell (hpKeep HG1.out l) 19).trans rfl
 have z:Below w1.heap.size w1 w1.drew:=(Below.refl _ _).drew;clear G Vu g1;go_cut [] from 10 to 33 (fun wc=>∃now',Hid (now≤now'∧now'≤now+20000000∧wc.heap[gm]?=N (A (MC c (J sa sn sc) gl LV y.set now') 129)∧Keeps (· =gm) w1 wc))
 case first=>
  refine wp_region_held_drew (S:=fun V=>NowS gm gl c (J sa sn sc) LV y.set V) (by kernel_rfl) E (fun hH=>?_);clear hH;refine tG 0 10 ?_;refine tG 1 11 ?_;refine tG 2 12 ?_;refine tG 4 14 ?_;refine tG 5 15 ?_;refine tG 6 16 ?_;refine tG 7 17 ?_;refine tG 8 18 ?_;refine tG 9 19 ?_;refine tG 10 20 ?_;refine tG 11 21 ?_;refine tG 12 22 ?_;refine tG 13 23 ?_;refine tG 14 24 ?_;refine tG 15 25 ?_;refine tG 16 26 ?_;refine tG 17 27 ?_;refine tG 18 28 ?_;refine wpAnyH_ready (rs:=[3,19]) (by kernel_rfl) (by simp) ?_;refine AllReadyH.cons rfl (fun K hK=>?_) (AllReadyH.cons rfl (fun K hK=>?_) AllReadyH.nil)
  ·have a3:=PI _ z
   go_simp;refine hK.out _ _ E (fun hSx=>?_);clear hK K hSx;refine rdyH 19 rfl (fun K hK=>?_);go_simp;refine(VI.out _ (bt u.out z (Nat.le_refl _))).mono ?_;rintro r w2 ⟨I,rfl,i0,i1,m⟩;have hB2:=bt z m (Nat.le_refl _);have x:NowS gm gl c (J sa sn sc) LV y.set w2:=⟨now,hpKeep HG1.out hB2⟩
   refine hK.out _ _ x (fun hSx=>?_);clear hK K hSx;have U:IntKind.i64.wrap (now+I)=now+I:=IntWalk.i64_in _ (by omega);refine tG 20 30 ?_;refine tG 21 31 ?_;refine tG 22 32 ?_;have Y:w2.cell? ⟨gm,19,M⟩=N (O R now):=PI w2 hB2;have f19:=hpFree (hpKeep HG1.out hB2) 19;exact xav
  ·go_simp
   refine(VI.out _ (bt u.out z (Nat.le_refl _))).mono ?_;rintro r w2 ⟨I,rfl,i0,i1,m⟩;have hB2:=bt z m (Nat.le_refl _);have x:NowS gm gl c (J sa sn sc) LV y.set w2:=⟨now,hpKeep HG1.out hB2⟩
   refine hK.out _ _ x (fun hSx=>?_);clear hK K hSx;have Y:w2.cell? ⟨gm,19,M⟩=N (O R now):=PI w2 hB2;have f19:=hpFree (hpKeep HG1.out hB2) 19;refine rdyH 3 rfl (fun K hK=>?_);go_simp;refine hK.out _ _ x (fun hSx=>?_);clear hK K hSx;have U:IntKind.i64.wrap (now+I)=now+I:=IntWalk.i64_in _ (by omega);refine tG 20 30 ?_;refine tG 21 31 ?_;refine tG 22 32 ?_;exact xav
 case rest=>
  obtain⟨now',HC⟩:=hcut;obtain⟨o,RX⟩:∃W,W=wc:=⟨_,rfl⟩
  subst RX;have z1:=u.out.size;have T:Keeps (· =gm) w o:=(Keeps.af u.out).trans HC.out.2.2.2 (fun _ _ e=>e);have M6:¬gl=gm:=fun e=>H.out.Hn (e▸H.out.ln.xdA)
  have ao:Hid (cU PL o gl (.slice f.la f.ln f.lc) (.slice f.aa f.an f.ac) f.lp y.n):=H.out.ln.ah T (fun j B e=>H.out.Hn (by have e':j=gm:=e;rw[←e'];exact B));have VL:=hid T;have ab:Hid (∀X,Below o.heap.size o X→Calls Tryz.prog 59 #[.pointer (N ⟨gl,0,M⟩),O R now'] X fun r w'=>r=d (.tuple #[.agg #[O R 0,O .u8 0,O R 0],.bool false])∧Below X.heap.size X w'):=fun X l=>Zp.out now' X (ao.out.ah (F:=fun _=>False) (Keeps.af l) (fun _ _ e=>e))
  have aY:∀X,Below o.heap.size o X→X.cell? ⟨gm,16,M⟩=N (.pointer (N ⟨gl,0,M⟩)):=fun X l=>(hpCell (hpKeep HC.out.2.2.1 l) 16).trans rfl
  have Y:∀X,Below o.heap.size o X→X.cell? ⟨gm,19,M⟩=N (O R now'):=fun X l=>(hpCell (hpKeep HC.out.2.2.1 l) 19).trans rfl
  have z:Below o.heap.size o o.drew:=(Below.refl _ _).drew;have a2:Hid (∀X,Below o.heap.size o X→Ra gm gl gj k P PL Q c (J sa sn sc) f y s w (d (.tuple #[])) X):=fun X l=>by
   obtain⟨e1,e2,e3,e4⟩:=Hy.out;have UO:=Uw.out;rw[e4] at UO;obtain⟨b1,b2⟩:=H.out.own (b':=false) (gj':=gj) (k':=k) (Q':=Q) (x':=y.x) (s':=s) (st':=y.set) (now':=now') VL.out (by rw[UO];exact HC.out.2.2.1) (fun e=>absurd e (by decide)) (fun j B=>⟨H.out.Qa j B,fun e=>H.out.Ov j e B,fun e=>H.out.OD (e▸B),H.out.pq j B⟩);have hk:Keeps P w X:=b2.trans (Keeps.af l) (fun _ _ e=>e);exact⟨now',rfl,by rw[e3];exact HC.out.1,by rw[e3];exact HC.out.2.1,H.out.base (b1.bW l) hk (fun j B=>.inl B),hk⟩
  clear y0 y4 y5 PI E z1 T M6;go_wp2_with fail;go_loopg [] 0 (fun _ wr=>Below o.heap.size o wr∧wr=o)
  case atStart=>exact⟨Below.refl _ _,rfl⟩
  case round=>
   obtain⟨-,U⟩:=hrel;subst U;go_upto_region 2 with(fail)
   go_cut [3] from 33 to 45 (fun s3 wd=>s3=.bool false∧Below wr.heap.size wr wd)
   case first=>
    refine wp_region_held_drew (S:=fun V=>Below wr.heap.size wr V) (by kernel_rfl) z (fun hH=>?_);clear hH;refine tG 0 34 ?_;refine tG 1 35 ?_;refine tG 2 36 ?_;refine tG 3 37 ?_;refine tG 4 38 ?_;refine tG 5 39 ?_;refine tG 6 40 ?_;refine tG 7 41 ?_;refine wpAnyH_ready (rs:=[8,12]) (by kernel_rfl) (by simp) ?_;refine AllReadyH.cons rfl (fun K hK=>?_) (AllReadyH.cons rfl (fun K hK=>?_) AllReadyH.nil)
    ·go_simp
     refine(ab.out _ z).mono ?_;rintro r x2 ⟨rfl,m⟩;have hB2:=bt z m (Nat.le_refl _);refine hK.out _ _ hB2 (fun hSx=>?_);clear hK K hSx;refine tG 9 33 ?_;refine tG 10 43 ?_;refine tG 11 44 ?_;refine rdyH 12 rfl (fun K hK=>?_);go_simp;have D:Below wr.heap.size wr (x2.alloc (A #[O R 0,O .u8 0,O R 0] 132)):=bta hB2 (Nat.le_refl _) _;refine hK.out _ _ D (fun hSx=>?_);clear hK K hSx;refine rdyH 13 rfl (fun K hK=>?_);refine step_storeW rfl 132 (.tmp 2) (.tmp 43) rfl x2.heap.size 0 _ 132 #[O R 0,O .u8 0,O R 0] rfl rfl (hpNew x2 (A #[O R 0,O .u8 0,O R 0] 132)) (by simp) infoEvW rfl ?_;intro x5 g5 L aX;have t:Below wr.heap.size wr x5:=D.trans (L.below D.size (fun i hi e=>by have:=hB2.size;omega));refine hK.out _ _ t (fun hSx=>?_);clear hK K hSx
     (try dsimp only[Act.put]);refine V6 14 3 rfl rfl ?_;(try simp only[setS])
     refine wpAnyH_done (by kernel_rfl) ?_ _;go_wp2;go_meet
     case rel=>exact⟨rfl,t⟩
    ·go_simp
     have Z:Below wr.heap.size wr (wr.alloc (A #[O R 0,O .u8 0,O R 0] 132)).drew:=(bal' wr _).drew;refine hK.out _ _ Z (fun hSx=>?_);clear hK K hSx;refine rdyH 8 rfl (fun K hK=>?_);go_simp;refine(ab.out _ Z).mono ?_;rintro r x2 ⟨rfl,m⟩;have hB2:=bt Z m (Nat.le_refl _);have p2:x2.heap[wr.heap.size]?=N (A #[O R 0,O .u8 0,O R 0] 132):=hpKeep (w:=(wr.alloc (A #[O R 0,O .u8 0,O R 0] 132)).drew) (hpNew wr _) m;refine hK.out _ _ hB2 (fun hSx=>?_);clear hK K hSx;refine tG 9 33 ?_;refine tG 10 43 ?_;refine tG 11 44 ?_;refine rdyH 13 rfl (fun K hK=>?_);refine step_storeW rfl 132 (.tmp 2) (.tmp 43) rfl wr.heap.size 0 _ 132 #[O R 0,O .u8 0,O R 0] rfl rfl p2 (by simp) infoEvW rfl ?_;intro x5 g5 L aX;have t:Below wr.heap.size wr x5:=hB2.trans (L.below hB2.size (fun i hi e=>by omega));refine hK.out _ _ t (fun hSx=>?_);clear hK K hSx
     (try dsimp only[Act.put]);refine V6 14 3 rfl rfl ?_;(try simp only[setS])
     refine wpAnyH_done (by kernel_rfl) ?_ _;go_wp2;go_meet
     case rel=>exact⟨rfl,t⟩
   case rest=>
    obtain⟨rfl,av⟩:=hcut;have ak:=hid (a2.out _ av);clear aY Y;go_wp2;refine bodyPost_ret (results_none rfl _ _ _) rfl ?_;exact ak.out
theorem Yq:(Tryz.prog.info? 136).map (·.size)=N 3:=by kernel_rfl
theorem YU {x:Tx} (h:PK g k P x s W) (l:x.ph=1) (F:List UInt8) (hF:x.bytes=F):Calls Tryz.prog 61 #[.pointer (N ⟨g,0,M⟩)] W fun r e=>∃(a:Option Addr) (c:Nat),r=d (.agg #[O R 1,O R x.now,J a F.length c])∧e.ownsRow W.heap.size 5 1 (J a F.length c) F.length (u8s F)∧Below W.heap.size W e:=by
 have t:=h.ph;have m:x.live:=by unfold Tx.live;omega
 have i:x.bytes=fj (UInt8.ofNat x.un.toNat) x.q.bE:=by unfold Tx.bytes;rw[if_pos l]
 have o:=bp (UInt8.ofNat x.un.toNat) x.q.bE;have q:=Rq.lF x.q;rw[i] at hF;subst hF;rw[←h.now];exact FW g s _ W h.at_ (by omega) (h.fr m) (by omega)
theorem IS (h:nV gm gl gj k P PL Q c sv f y s w) (hb:y.b=true) (hp:y.x.ph=1) (i:Nat) (t z:Int) (hx:c.bj[i]?=N (t,z)) (a4:y.set=(i:Int)) (qV:y.x.b=t) (F:List UInt8) (hF:y.x.bytes=F) (he:y.n.j6 F.length y.x.now=0) (hm:y.n.pend.length≤90000000) (Ng:y.n.aA.length≤1000000000) (hk:k≤1000000000) (Vb:kC y.n.pend (fM f.l (cA f.aC f.lp y.n.aA.length) t z F y.x.now)):
  Calls Tryz.prog 27 #[.pointer (N ⟨gm,0,M⟩)] w (Wh gm gl P c sv f ⟨y.n.send f.l f.aC f.lp t z F y.x.now,true,y.x.aA (y.x.now+aK t F.length),i,y.x.now+aK t F.length⟩ (k+1) w):=by
 have hG:=Mr.of h.sY;have dt:Hid (aU t z):=hG.set (t,z) (List.mem_of_getElem? hx);have ID:(y.x.kind !=1)=false:=by unfold Tx.kind;rw[if_neg (by omega),if_pos hp];rfl
 have c17:=h.c17 hb;have NY:=hid (qp h hb);have VL:=hid (fun X (l:Below w.heap.size w X)=>YU ((h.pk hb).keeps (Q:=fun _=>False) (Keeps.af l) (fun _ _ e=>e)) hp F hF);obtain⟨KD,aX⟩:=gE y.x.kind;rw[aX] at NY ID;obtain⟨b,o,cc,rfl,w0,a5,iy⟩:=(h.Ex w (Keeps.refl _ _)).at hx;obtain⟨n,hn⟩:=gE c.bj.length;obtain⟨T,U⟩:=gE y.x.now;obtain⟨L,I⟩:=gE F.length;have hlen:1≤L∧L≤256:=by
  rw[I] at he;unfold Ln.j6 at he;split at he
  ·cases he
  ·omega
 obtain⟨bx,bA⟩:=gD dt.out hlen.2;obtain⟨E,hE⟩:∃E,T+aK t L=E:=⟨_,rfl⟩
 have Ga:i<n:=by rw[←hn];exact(List.getElem?_eq_some_iff.1 hx).1
 have ZA:Hid (∀X,Keeps P w X→X.cell? ⟨b,o+i*2,M⟩=N (O R t)∧X.cell? ⟨b,o+i*2+1,M⟩=N (O R z)):=fun X l=>by
  obtain⟨b',o',c',hv,-,-,bX⟩:=(h.Ex X l).at hx;simp only[Value.slice.injEq,Option.some.injEq,Addr.mk.injEq,and_true,true_and] at hv;obtain⟨⟨rfl,rfl⟩,rfl⟩:=hv;exact bX X (Below.refl _ _)
 have bm:Hid (∀X (fa:Option Addr) (fc:Nat),Below w.heap.size w X→(∀Y,Keeps PL X Y→Bs Y (J fa L fc) F)→Calls Tryz.prog 74 #[.pointer (N ⟨gl,0,M⟩),.agg #[O R t,O R z],J fa L fc,O R T] X (zq PL X gl (.slice f.la f.ln f.lc) (.slice f.aa f.an f.ac) f.lp (y.n.send f.l f.aC f.lp t z F T) E)):=fun X fa fc l hY=>by
  have Eb:Keeps PL w X:=Keeps.af l;have AA:=h.ln.ah (F:=fun _=>False) (Keeps.af l) (fun _ _ e=>e);have bK:IA PL X f.la f.ln f.lc f.aa f.an f.ac f.l f.aC f.lp:=h.G.next (Keeps.af l) (fun j _ e=>h.pl j e);have h9:=Ld AA bK t z dt w0 a5 fa L fc F hY T (by rw[←I,←U];exact he) hm Ng (by rw[←U];exact Vb);rw[hE] at h9;exact h9
 have QA:Hid ((y.n.send f.l f.aC f.lp t z F T).ok):=by
  have aY:0≤T∧T≤ia:=by
   rw[U] at he;unfold Ln.j6 at he;split at he
   ·cases he
   ·split at he
    ·cases he
    ·omega
  exact h.Vk.send h.G.Bq h.G.ok f.lp dt.out (by omega) aY.1 aY.2
 have ad:Hid (T≤E∧E≤T+4000000):=by show _∧_;omega
 have b4:(0:Int)≤(i:Int):=Int.natCast_nonneg _;have b6:(i:Int)<(n:Int):=by omega
 rw[U] at VL;rw[I] at VL;have H:=hid h;have Hy:=hid (And.intro hn (And.intro U (And.intro I (And.intro a4 (And.intro hb (And.intro hp (And.intro qV hE)))))));rw[hn] at h H;rw[U,I,hE];clear hG hx iy aX hn U I he hm Ng hlen bx bA hE Ga hb hp a4 qV hF w0 a5;have Zb:∀X,Keeps PL w X→X.cell? ⟨gm,16,M⟩=N (.pointer (N ⟨gl,0,M⟩)):=fun X l=>(hpCell (hpKeeps H.out.at_ l H.out.Hn) 16).trans rfl
 clear h;go_enter Tryz.func27,Tryz.ntmps27;go_upto_region 6 with(first
  |(go_at_call 60;(with_reducible refine NY.out.mono ?_);rintro r w1 ⟨rfl,B⟩;have av:=cell_keep B c17)
  |(go_at_call 61;(with_reducible refine(VL.out _ B).mono ?_);rintro r w2 ⟨fa,fc,rfl,C,ab⟩)
  |(refine wpList_storeW rfl 136 (.tmp 3) (.tmp 22) rfl w2.heap.size 0 _ 136 #[O R 1,O R T,J fa L fc] rfl rfl (hpNew w2 _) (by simp) Yq rfl ?_;intro m g4 a2 bQ))
 obtain⟨p4,cT⟩:=cJ (by rfl) g4 a2;have EO:Hid (Below w.heap.size w m):=bt (bt B ab (Nat.le_refl _)) (cT.mono (Nat.le_refl _)) (Nat.le_refl _);have z1:=B.size;have z2:=ab.size;have HZ:Hid (w.heap.size≤w1.heap.size∧w1.heap.size≤w2.heap.size):=⟨z1,z2⟩
 have Sx:∀X,Keeps PL m X→Keeps PL w X:=fun X l=>(Keeps.af EO.out).trans l (fun _ _ e=>e)
 have a3:∀j,PL j→j<w.heap.size:=H.out.ln.Vj;have Z:¬PL w2.heap.size:=fun e=>by have:=a3 _ e;omega
 have ba:Hid (∀Y,Keeps PL m Y→Bs Y (J fa L fc) F):=fun Y hY=>by
  have I:=Hy.out.2.2.1;have o2:=own_keeps (own_keeps C (Keeps.af (F:=fun _=>False) cT) (fun _ _ e=>e)) hY (fun j x e=>by
   have h1:=(C.lt j x).1
   have:=a3 _ e
   omega)
  rw[←I] at o2 ⊢;exact Bs.own o2
 have u16:∀X,Keeps PL m X→X.cell? ⟨gm,16,M⟩=N (.pointer (N ⟨gl,0,M⟩)):=fun X l=>Zb X (Sx X l)
 have u0:∀X,Keeps PL m X→X.cell? ⟨gm,0,M⟩=N (J (N ⟨b,o,M⟩) n cc):=fun X l=>(hpCell (hpKeeps H.out.at_ (Sx X l) H.out.Hn) 0).trans rfl
 have u18:∀X,Keeps PL m X→X.cell? ⟨gm,18,M⟩=N (O R (i:Int)):=fun X l=>(hpCell (hpKeeps H.out.at_ (Sx X l) H.out.Hn) 18).trans (by rw[←Hy.out.2.2.2.1];rfl)
 have v1:∀X,Keeps PL m X→X.cell? ⟨w2.heap.size,1,M⟩=N (O R T):=fun X l=>hpCell (hpKeeps p4 l Z) 1
 have v2:∀X,Keeps PL m X→X.cell? ⟨w2.heap.size,2,M⟩=N (J fa L fc):=fun X l=>hpCell (hpKeeps p4 l Z) 2
 have QH:Hid (∀X,Keeps PL m X→∀j u,(#[O R t,O R z]:Array Value).toList[j]?=N u→X.cell? ((⟨b,o+i*2,M⟩:Addr).add j)=N u):=fun X l j u x=>by
  obtain⟨e0,e1⟩:=ZA.out X ((Sx X l).mono (fun j _ e=>H.out.pl j e));rw[Addr.add_lit];rcases j with _|_|j
  ·cases x;exact e0
  ·cases x;exact e1
  ·cases x
 have kD:Below m.heap.size m m.drew:=(Below.refl _ _).drew;have kS:Keeps PL m m.drew:=Keeps.af kD;have bZ:=hid p4;have a9:(Tryz.prog.info? 61).map (·.size)=N 2:=uC;clear c17 av g4 a2 bQ B ab cT C z1 z2 p4 Zb Z NY VL ID;dsimp only[Act.put];refine wp_region_held_drew (S:=fun V=>Keeps PL m V) (by kernel_rfl) kS (fun hH=>?_);clear hH;refine tG 0 24 ?_;refine tG 1 25 ?_;refine tG 2 26 ?_;refine tG 3 27 ?_;refine tG 4 28 ?_;refine tG 5 29 ?_;refine tG 6 30 ?_;refine tG 7 31 ?_;refine tG 8 32 ?_;refine tG 9 33 ?_;refine tG 10 34 ?_;refine tG 11 35 ?_;refine tG 12 36 ?_;refine tG 13 37 ?_;refine tkD 14 38 (v:=.agg #[O R t,O R z]) rfl (by kernel_rfl) (fun _ _ _ h=>h) rfl (by rfl) (by assumption) (fun X l=>run_load_rowT 61 (.tmp 37) rfl ⟨b,o+i*2,M⟩ rfl #[O R t,O R z] _ (QH.out X l) Tryz.underlying61 rfl a9) ?_;simp only[setS];refine tG 15 39 ?_;refine tG 16 40 ?_;refine tG 17 41 ?_;refine tG 18 42 ?_;refine rdyH 19 rfl (fun K hK=>?_);go_simp;refine(bm.out _ fa fc (bt EO.out kD (Nat.le_refl _)) (fun Y hY=>ba.out Y (kS.trans hY (fun _ _ e=>e)))).mono ?_;rintro r w5 ⟨rfl,XU,G⟩;have Nn:Keeps PL m w5:=kS.trans G (fun _ _ e=>e);refine hK.out _ _ Nn (fun bC=>?_);clear hK K bC;refine tG 20 23 ?_;refine tG 21 44 ?_;refine tG 22 45 ?_;refine tG 23 4 ?_;refine tG 24 5 ?_;refine wpAnyH_done (by kernel_rfl) ?_ _;have h4:=H.out.bW (bt EO.out kD (Nat.le_refl _));have D:=hid (h4.line XU G QA.out).1;have ak:=hid (h4.line XU G QA.out).2;have a6:w5.cell? ⟨gm,19,M⟩=N (O R y.now):=(hpCell D.out.at_ 19).trans rfl;have f19:=hpFree D.out.at_ 19;obtain⟨gI,a7⟩:=gE y.now;rw[a7] at a6;have bc:=hid kD;clear u16 u0 u18 v1 v2 XU G kS Nn kD h4 a7 a9 Sx;go_upto_region 10 with(fail)
 obtain⟨W6,yI⟩:∃W,w5.setCell ⟨gm,19,M⟩ (O R E)=W:=⟨_,rfl⟩
 rw[yI];obtain⟨e1,e2,e3,e4,e5,e6,e7,e8⟩:=Hy.out;have yg:Keeps (· =gm) w5 W6:=by rw[←yI];exact ks1 (Keeps.refl (· =gm) w5) 19 _
 have a8:W6.heap[gm]?=N (A (MC c (J (N ⟨b,o,M⟩) n cc) gl (YE true gj) y.set E) 129):=by
  have h:=D.out.at_;have bo:({y with n:=y.n.send f.l f.aC f.lp t z F T}:Ms).b=true:=e5;rw[bo] at h;rw[←yI];exact hpSetE h rfl
 have DO:=hid (D.out.own (b':=true) (gj':=gj) (k':=k) (Q':=Q) (x':=y.x) (s':=s) (st':=y.set) (now':=E) yg a8 (fun _=>D.out.pk e5) (fun j x=>⟨D.out.Qa j x,fun e=>D.out.Ov j e x,fun e=>D.out.OD (e▸x),D.out.pq j x⟩));have nF:=hid (Jj (DO.out.1.pk rfl) e6 hk E (by have:=ad.out;show y.x.now≤E;omega) (by have:=ad.out;show E≤y.x.now+4000000;omega));have b5:W6.cell? ⟨gm,17,M⟩=N (.pointer (N ⟨gj,0,M⟩)):=DO.out.1.c17 rfl;clear a6 f19 yg a8 yI e1 e2 e3 e4 e5 e6 e7 e8;go_wp2_with (go_at_call 75;(with_reducible refine nF.out.mono ?_);rintro r w7 ⟨s',rfl,U3,OK⟩;have bn:=hid U3;have ao:=hid OK;clear U3 OK);go_ret;obtain⟨e1,e2,e3,e4,e5,e6,e7,e8⟩:=Hy.out;obtain⟨q1,q2⟩:=DO.out.1.link bn.out ao.out;have z4:=EO.out.size;have z5:m.heap.size≤w5.heap.size:=ak.out.size;have z6:=DO.out.2.size;have z7:=ao.out.size;have nr:Keeps P w w7:=((((Keeps.af EO.out).trans (Keeps.af bc.out) (fun _ _ e=>e)).trans ak.out (fun _ _ e=>e)).trans DO.out.2 (fun j x e=>by
  rcases e with e|e
  ·exact e
  ·have h1:m.heap.size≤j:=e.1
   omega)).trans q2 (fun j x e=>by
  rcases e with e|e
  ·exact e
  ·have h1:m.heap.size≤j:=e.1
   omega)
 refine⟨gj,k+1,ax PL m.drew w5,iK Q W6 w7,s',rfl,?_,nr,Nat.le_refl _⟩;rw[←e4,e1];refine H.out.base q1 nr (fun j x=>?_);rcases x with(e|e)|e
 ·exact .inl e
 ·have h1:m.heap.size≤j:=e.1
  exact .inr ⟨by omega,by have:=e.2;omega⟩
 ·exact .inr ⟨by have:=e.1;omega,e.2⟩
theorem Nm:(Tryz.prog.info? 35).map (·.size)=N 21:=by kernel_rfl
theorem Ti:(Tryz.prog.info? 49).map (·.size)=N 6:=by kernel_rfl
def DX (c:Cf) (l:List Sl) (s:lg):Prop:=c.bj.length≤6∧oA c=0∧(gx l∧(l.length:Int)≤5)∧cW l∧(s.aC.length≤24∧s.cr.length≤12)∧s.ok
theorem GU {lv a d i:Value} {lp:Bool} (h:(yh c sv).toList[j]?=N v):(wS c sv lv a lp d i)[j]?=N v:=by
 have e:(wS c sv lv a lp d i).toList=(yh c sv).toList++[lv,a,.bool lp,d,i]:=rfl;have l:(wS c sv lv a lp d i).toList[j]?=N v:=by
  rw[e,List.getElem?_append_left (List.getElem?_eq_some_iff.1 h).1];exact h
 simpa using l
theorem xbF (s:lg) (a d:Value) (w:World) (l:ke w a s.aC) (m:dw w d s.cr) (V:Bool) (i:V=true↔s.ok):Calls Tryz.prog 48 #[.agg #[a,.bool s.loop,d]] w (aj w V):=
 (qJ s a d w l m).mono fun r w' ⟨B,h1,h2,h3⟩=>by
  have e:B=V:=by
   cases B<;>cases V
   ·rfl
   ·exact absurd (h2.out.2 (i.1 rfl)) Bool.noConfusion
   ·exact absurd (i.2 (h2.out.1 rfl)) Bool.noConfusion
   ·rfl
  subst e;exact⟨h1,h3⟩
theorem I3 (c:Cf) (l:List Sl) (s:lg) (sv lv av cv kv:Value) (w:World) (hR:dw w sv c.bj) (hL:dm w lv l) (hA:ke w av s.aC) (hC:dw w cv s.cr) (V:Bool) (hV:V=true↔DX c l s):
  Calls Tryz.prog 10 #[.agg (wS c sv lv av s.loop cv kv)] w (aj w V):=by
 obtain⟨n,hn⟩:=gE c.bj.length;obtain⟨an,oz⟩:=gE s.aC.length;obtain⟨E,tO⟩:=gE s.cr.length;obtain⟨lp,oU⟩:=gE s.loop;obtain⟨EC,Z⟩:=gE (oA c);obtain⟨VS,ao,aY⟩:=vR l 5;obtain⟨VB,F5,Qw⟩:=Ik l;obtain⟨VO,ad⟩:=bU (p:=s.ok);obtain⟨VM,ab⟩:∃V,decide ((an:Int)≤24∧E≤12)=V:=⟨_,rfl⟩
 have t:Hid (¬DX c l s→V=false):=fun h=>by
  cases e:V with
  |false=>rfl
  |true=>exact absurd (hV.1 e) h
 have S:Hid (DX c l s→V=true):=hV.2;have UB:Hid (∀X,Below w.heap.size w X→Calls Tryz.prog 48 #[.agg #[av,.bool lp,cv]] X (aj X VO)):=fun X i=>by
  rw[←oU];exact xbF s av cv X (hA.ah i) (hC.ah i) VO ad
 have Ak:Hid (∀X,Below w.heap.size w X→Calls Tryz.prog 45 #[lv,O R 5] X (aj X VS)):=fun X i=>(aY X _ (hL.ah i)).mono fun r w' h=>⟨h.1,by rw[←h.2];exact Below.refl _ _⟩
 have L:Hid (∀X,Below w.heap.size w X→Calls Tryz.prog 46 #[lv] X (aj X VB)):=fun X i=>Qw X _ (hL.ah i)
 obtain⟨sa,sc,yo,-⟩:=id hR;obtain⟨la,lc,qR⟩:=hL.KH;obtain⟨aa,ac,R9,-⟩:=id hA;obtain⟨U,Y,Sn,-⟩:=id hC;rw[hn] at yo;rw[oz] at R9;rw[tO] at Sn;obtain⟨ln,lN⟩:=gE l.length;rw[lN] at qR;subst yo qR R9 Sn;rw[oU];obtain⟨C,rf⟩:=gE (yh c (J sa n sc));have hi:(Tryz.prog.info? 27).map (·.size)=N C.size:=by rw[←rf];exact sj
 have z:Hid (∀X,Below w.heap.size w X→Calls Tryz.prog 29 #[.agg C] X (jL X EC)):=fun X i=>by
  rw[←rf];exact uz c _ X (hR.ah i) EC Z
 have ak:Hid (∀X,Calls Tryz.prog 47 #[.agg #[J aa an ac,.bool lp,J U E Y],O R 24] X (aj X VM)):=fun X=>FG aa U an ac E Y lp 24 VM ab.symm X
 obtain⟨D,hD⟩:=gE (wS c (J sa n sc) (J la ln lc) (J aa an ac) lp (J U E Y) kv);rw[hD];obtain⟨T,bo,aX,pD⟩:=eY w (A D 35);have Up:Hid (∀X,Below T.heap.size T X→∀j u,C.toList[j]?=N u→X.cell? ((⟨w.heap.size,0,M⟩:Addr).add j)=N u):=fun X i j u hj=>by
  rw[Addr.add_lit,Nat.zero_add,hpCell (hpKeep pD i),←hD];exact GU (by rw[rf];exact hj)
 have JD:Hid (∀X,Below T.heap.size T X→∀j u,(#[J aa an ac,.bool lp,J U E Y]:Array Value).toList[j]?=N u→X.cell? ((⟨w.heap.size,17,M⟩:Addr).add j)=N u):=fun X i j u hj=>by
  rw[Addr.add_lit,hpCell (hpKeep pD i),←hD];rcases j with _|_|_|j
  ·cases hj;rfl
  ·cases hj;rfl
  ·cases hj;rfl
  ·cases hj
 have t16:∀X,Below T.heap.size T X→X.cell? ⟨w.heap.size,16,M⟩=N (J la ln lc):=fun X i=>(hpCell (hpKeep pD i) 16).trans (by rw[←hD];rfl)
 have c0:T.cell? ⟨w.heap.size,0,M⟩=N (J sa n sc):=(hpCell pD 0).trans (by rw[←hD];rfl);have o:=hid bo;have a:=hid aX;have m:Hid (DX c l s↔n≤6∧EC=0∧VS=true∧VB=true∧VM=true∧VO=true):=by
  show _↔_;unfold DX;rw[hn,Z,ao,F5,ad,oz,tO,←ab,decide_eq_true_eq];have e:((an:Int)≤24∧E≤12)↔(an≤24∧E≤12):=by omega
  rw[e]
 clear hV hR hL hA hC hn oz tO oU Z ao aY F5 Qw ad ab lN rf hD bo aX pD;by_cases c1:n≤6
 ·have g1:decide ((n:Int)≤6)=true:=decide_eq_true (by omega)
  have WY:(n:Int)≤6:=by omega
  by_cases c2:EC=0
  ·subst c2
   cases VS with
   |false=>
    have x:=hid (t.out (fun h=>by have:=(m.out.1 h).2.2.1;cases this));clear c1 m t S;go_enter Tryz.func10,Tryz.ntmps10;go_upto_region 1 with(fail)
    rw[o.out];go_wp2_with (first|(refine wpList_load_atH (by rfl) 27 (.tmp 9) rfl ⟨w.heap.size,0,M⟩ rfl C _ (Up.out _ (Below.refl _ _)) Tryz.underlying27 rfl hi ?_)|(go_at_call 29;(with_reducible refine(z.out _ a.out).mono ?_);rintro r I ⟨rfl,d⟩;have q:=bt a.out d (Nat.le_refl _);have MI:=t16 I d)|(go_at_call 45;(with_reducible refine(Ak.out _ q).mono ?_);rintro r x2 ⟨rfl,B⟩;have G:=bt q B (Nat.le_refl _);have F:=bt d B (Nat.le_refl _);have d16:=t16 x2 F));go_ret;exact⟨by rw[x.out]<;>rfl,G⟩
   |true=>
   cases VB with
   |false=>
    have x:=hid (t.out (fun h=>by have:=(m.out.1 h).2.2.2.1;cases this));clear c1 m t S;go_enter Tryz.func10,Tryz.ntmps10;go_upto_region 1 with(fail)
    rw[o.out];go_wp2_with (first|(refine wpList_load_atH (by rfl) 27 (.tmp 9) rfl ⟨w.heap.size,0,M⟩ rfl C _ (Up.out _ (Below.refl _ _)) Tryz.underlying27 rfl hi ?_)|(go_at_call 29;(with_reducible refine(z.out _ a.out).mono ?_);rintro r I ⟨rfl,d⟩;have q:=bt a.out d (Nat.le_refl _);have MI:=t16 I d)|(go_at_call 45;(with_reducible refine(Ak.out _ q).mono ?_);rintro r x2 ⟨rfl,B⟩;have G:=bt q B (Nat.le_refl _);have F:=bt d B (Nat.le_refl _);have d16:=t16 x2 F)|(go_at_call 46;(with_reducible refine(L.out _ G).mono ?_);rintro r x3 ⟨rfl,K⟩;have z3:=bt G K (Nat.le_refl _);have k3:=bt F K (Nat.le_refl _)));go_ret;exact⟨by rw[x.out]<;>rfl,z3⟩
   |true=>
   cases VM with
   |false=>
    have x:=hid (t.out (fun h=>by have:=(m.out.1 h).2.2.2.2.1;cases this));clear c1 m t S;go_enter Tryz.func10,Tryz.ntmps10;go_upto_region 1 with(fail)
    rw[o.out];go_wp2_with (first|(refine wpList_load_atH (by rfl) 27 (.tmp 9) rfl ⟨w.heap.size,0,M⟩ rfl C _ (Up.out _ (Below.refl _ _)) Tryz.underlying27 rfl hi ?_)|(go_at_call 29;(with_reducible refine(z.out _ a.out).mono ?_);rintro r I ⟨rfl,d⟩;have q:=bt a.out d (Nat.le_refl _);have MI:=t16 I d)|(go_at_call 45;(with_reducible refine(Ak.out _ q).mono ?_);rintro r x2 ⟨rfl,B⟩;have G:=bt q B (Nat.le_refl _);have F:=bt d B (Nat.le_refl _);have d16:=t16 x2 F)|(go_at_call 46;(with_reducible refine(L.out _ G).mono ?_);rintro r x3 ⟨rfl,K⟩;have z3:=bt G K (Nat.le_refl _);have k3:=bt F K (Nat.le_refl _))|(refine wpList_load_atH (by rfl) 32 (.tmp 25) rfl ⟨w.heap.size,17,M⟩ rfl #[J aa an ac,.bool lp,J U E Y] _ (JD.out _ k3) Tryz.underlying32 rfl bu ?_)|(go_at_call 47;(with_reducible refine(ak.out _).mono ?_);rintro r x4 ⟨rfl,y4⟩;have z4:=bt z3 y4 (Nat.le_refl _);have k4:=bt k3 y4 (Nat.le_refl _)));go_ret;exact⟨by rw[x.out]<;>rfl,z4⟩
   |true=>
    have x:Hid (V=VO):=by
     show _=_;cases VO with
     |true=>exact S.out (m.out.2 ⟨c1,rfl,rfl,rfl,rfl,rfl⟩)
     |false=>exact t.out (fun h=>by have:=(m.out.1 h).2.2.2.2.2;cases this)
    clear c1 m t S;go_enter Tryz.func10,Tryz.ntmps10;go_upto_region 1 with(fail)
    rw[o.out];go_wp2_with (first|(refine wpList_load_atH (by rfl) 27 (.tmp 9) rfl ⟨w.heap.size,0,M⟩ rfl C _ (Up.out _ (Below.refl _ _)) Tryz.underlying27 rfl hi ?_)|(go_at_call 29;(with_reducible refine(z.out _ a.out).mono ?_);rintro r I ⟨rfl,d⟩;have q:=bt a.out d (Nat.le_refl _);have MI:=t16 I d)|(go_at_call 45;(with_reducible refine(Ak.out _ q).mono ?_);rintro r x2 ⟨rfl,B⟩;have G:=bt q B (Nat.le_refl _);have F:=bt d B (Nat.le_refl _);have d16:=t16 x2 F)|(go_at_call 46;(with_reducible refine(L.out _ G).mono ?_);rintro r x3 ⟨rfl,K⟩;have z3:=bt G K (Nat.le_refl _);have k3:=bt F K (Nat.le_refl _))|(refine wpList_load_atH (by rfl) 32 (.tmp 25) rfl ⟨w.heap.size,17,M⟩ rfl #[J aa an ac,.bool lp,J U E Y] _ (JD.out _ k3) Tryz.underlying32 rfl bu ?_)|(go_at_call 47;(with_reducible refine(ak.out _).mono ?_);rintro r x4 ⟨rfl,y4⟩;have z4:=bt z3 y4 (Nat.le_refl _);have k4:=bt k3 y4 (Nat.le_refl _))|(refine wpList_load_atH (by rfl) 32 (.tmp 30) rfl ⟨w.heap.size,17,M⟩ rfl #[J aa an ac,.bool lp,J U E Y] _ (JD.out _ k4) Tryz.underlying32 rfl bu ?_)|(go_at_call 48;(with_reducible refine(UB.out _ z4).mono ?_);rintro r x5 ⟨rfl,y5⟩;have z5:=bt z4 y5 (Nat.le_refl _)));go_ret;exact⟨by rw[x.out]<;>rfl,z5⟩
  ·have x:=hid (t.out (fun h=>c2 (m.out.1 h).2.1))
   have g2:(EC==0)=false:=beq_eq_false_iff_ne.2 c2;clear c1 c2 m t S;go_enter Tryz.func10,Tryz.ntmps10;go_upto_region 1 with(fail)
   rw[o.out];go_wp2_with (first|(refine wpList_load_atH (by rfl) 27 (.tmp 9) rfl ⟨w.heap.size,0,M⟩ rfl C _ (Up.out _ (Below.refl _ _)) Tryz.underlying27 rfl hi ?_)|(go_at_call 29;(with_reducible refine(z.out _ a.out).mono ?_);rintro r I ⟨rfl,d⟩;have q:=bt a.out d (Nat.le_refl _);have MI:=t16 I d));go_ret;exact⟨by rw[x.out]<;>rfl,q⟩
 ·have x:=hid (t.out (fun h=>c1 (m.out.1 h).1))
  have g1:decide ((n:Int)≤6)=false:=decide_eq_false (by omega);have WY:¬(n:Int)≤6:=by omega
  clear c1 m t S;go_enter Tryz.func10,Tryz.ntmps10;go_upto_region 1 with(fail)
  rw[o.out];go_wp2;go_ret;exact⟨by rw[x.out]<;>rfl,a.out⟩
def xb4 (W:World) (Q:Rq) (s:Value) (w':World):Prop:=∃pb,s=.pointer (N ⟨pb,0,M⟩)∧w'.heap[pb]?=N (A #[O R Q.fn,O R Q.addr,O R Q.aF,O R Q.code,O R Q.obj] 45)∧W.heap.size≤pb∧Below W.heap.size W w'
def FQ (w:World) (n:Nat) (Q:Rq) (r:Ending) (w':World):Prop:=∃(i:Nat) (u:Int),i<n∧(1≤u∧u≤247)∧r=d (.tuple #[O R (i:Int),O R u,.agg #[O R Q.fn,O R Q.addr,O R Q.aF,O R Q.code,O R Q.obj]])∧Below w.heap.size w w'
theorem xas (h:p:=by
 go_upto_region 10 with(fail);refine wp_region_held_drew (S:=fun V=>Keeps (· =w.heap.size+2) (wq) V) (by kernel_rfl) (Keeps.af (Below.refl _ _).drew) (fun hH=>?_);clear hH;have hBD:Below (wq).heap.size (wq) (wq).drew:=(Below.refl _ _).drew;have hKD:Keeps (· =w.heap.size+2) (wq) (wq).drew:=Keeps.af hBD;refine tG 0 70 ?_;refine tG 1 71 ?_;refine tkD 2 72 (v:=.agg #[.int .i64 Q.fn,.int .i64 Q.addr,.int .i64 Q.aF,.int .i64 Q.code,.int .i64 Q.obj]) rfl (by kernel_rfl) (fun _ _ _ h=>h) rfl (by rfl) (by assumption) (fun Y hY=>run_load_rowT 45 (.tmp 7) rfl ⟨pb,0,none⟩ rfl #[.int .i64 Q.fn,.int .i64 Q.addr,.int .i64 Q.aF,.int .i64 Q.code,.int .i64 Q.obj] _ (HPQ.out Y ((Keeps.af hWQ).trans hY (fun _ _ e=>e))) Tryz.underlying45 rfl infoRq5) ?_;simp only[setS];refine tG 3 4 ?_;refine tG 4 5 ?_;refine rdyH 5 rfl (fun K hK=>?_);refine step_storeW rfl 45 (.tmp 6) (.tmp 72) rfl (w.heap.size+2) 0 _ 45 #[.int .i64 Q.fn,.int .i64 Q.addr,.int .i64 Q.aF,.int .i64 Q.code,.int .i64 Q.obj] rfl rfl (hpKeep (hpKeep (hpKeep HPZ.out HBE.out) hWQ) hBD) (by simp) infoRq5 rfl ?_;intro y9 g9 hk9 hz9;have hB9:Below w.heap.size w y9:=((HB3.out.trans ((bt HBE.out hWQ (Nat.le_refl _)).mono HB3.out.size)).trans (hBD.mono (by have:=HB3.out.size;have:=HBE.out.size;have:=(hWQ).size;omega))).trans (hk9.below (by have:=HB3.out.size;have:=HBE.out.size;have:=(hWQ).size;have:=hBD.size;omega) (fun j hj e=>by have e':j=w.heap.size+2:=e;omega));refine hK.out _ _ (hKD.trans hk9 (fun _ _ e=>e)) (fun hSx=>?_);clear hK K hSx;refine wpAnyH_done (by kernel_rfl) ?_ _;have g9':y9.heap[w.heap.size+2]?=some (.cells #[.int .i64 Q.fn,.int .i64 Q.addr,.int .i64 Q.aF,.int .i64 Q.code,.int .i64 Q.obj] 45):=g9;have e0:=cG g9' 0 rfl;have e1:=cG g9' 1 rfl;have e2:=cG g9' 2 rfl;have e3:=cG g9' 3 rfl;have e4:=cG g9' 4 rfl;go_wp2;refine bodyPost_ret (v:=.tuple #[.int .i64 (iS:Int),.int .i64 U,.agg #[.int .i64 Q.fn,.int .i64 Q.addr,.int .i64 Q.aF,.int .i64 Q.code,.int .i64 Q.obj]]) (by simp [results,Tryz.results15,go_sem,e0,e1,e2,e3,e4]) rfl ?_;exact⟨iS,U,(HIU.out).1,(HIU.out).2,rfl,hB9⟩):p:=h
theorem xau (h:p:=by
 refine hK.out _ _ hB4 (fun hSx=>?_);clear hK K hSx
 refine rdyH 7 rfl (fun K hK=>?_);go_simp
 refine(HMK.out _).mono ?_
 rintro r y3 ⟨rfl,hy3⟩
 have hB3:=bt hB4 hy3 (Nat.le_refl _)
 have p3:y3.heap[W3.heap.size]?=some (.cells #[.int .i64 0,.int .i64 0,.int .i64 0,.int .i64 0,.int .i64 0] 45):=hpKeep (w:=(W3.alloc (.cells #[.int .i64 0,.int .i64 0,.int .i64 0,.int .i64 0,.int .i64 0] 45)).drew) (hpNew W3 _) hy3
 refine hK.out _ _ hB3 (fun hSx=>?_);clear hK K hSx
 refine rdyH 9 rfl (fun K hK=>?_);refine step_storeW rfl 45 (.tmp 7) (.tmp 19) rfl W3.heap.size 0 _ 45 #[.int .i64 Q.fn,.int .i64 Q.addr,.int .i64 Q.aF,.int .i64 Q.code,.int .i64 Q.obj] rfl rfl p3 (by simp) infoRq5 rfl ?_;intro y5 g5 hk5 hz5
 have hB5:Below W3.heap.size W3 y5:=hB3.trans (hk5.below hB3.size (fun i hi e=>by have e':i=W3.heap.size:=e;omega))
 refine hK.out _ _ hB5 (fun hSx=>?_);clear hK K hSx
 refine wpAnyH_done (by kernel_rfl) ?_ _
 go_wp2
 go_meet
 case rel=>exact⟨_,rfl,g5,Nat.le_refl _,hB5⟩):p:=h
theorem C6 (c:Cf) (l:List Sl) (sv lv av cv kv:Value) (lp:Bool) (vj:1≤c.bj.length) (td:c.bj.length≤6) (hB:cW l) (x:Aq) (hx:wfA x) (w:World) (hR:dw w sv c.bj) (hL:dm w lv l):
  Calls Tryz.prog 15 #[.agg (wS c sv lv av lp cv kv),.agg x.C] w (FQ w c.bj.length (jY x.fn x.a (x.b%12))):=by
 obtain⟨m,st,un,fn,a,b⟩:=x;obtain⟨f0,f1,f2,f3,f4,f5⟩:=hx;dsimp only at f0 f1 f2 f3 f4 f5;show Calls _ _ #[_,.agg #[O R m,O R st,O R un,O R fn,O R a,O R b]] w (FQ w c.bj.length (jY fn a (b%12)));obtain⟨n,hn⟩:=gE c.bj.length;obtain⟨ln,lN⟩:=gE l.length;obtain⟨sa,sc,yo,-⟩:=id hR;obtain⟨la,lc,qR⟩:=hL.KH;rw[hn] at yo vj td ⊢;rw[lN] at qR;subst yo qR;obtain⟨G,yK⟩:∃z,b%12=z:=⟨_,rfl⟩
 have ib:=Int.emod_nonneg b (show (12:Int)≠0 by decide);have bn:=Int.emod_lt_of_pos b (show (0:Int)<12 by decide);rw[yK] at ib bn ⊢;obtain⟨Q,hQ⟩:=gE (jY fn a G);rw[hQ];have ao:(0:Int)<(n:Int):=by omega
 obtain⟨iS,bx⟩:∃i:Nat,st%(n:Int)=(i:Int):=⟨(st%(n:Int)).toNat,by have:=Int.emod_nonneg st (show (n:Int)≠0 by omega);omega⟩
 have b4:iS<n:=by have:=Int.emod_lt_of_pos st ao;omega
 obtain⟨um,aY⟩:∃z,un%247=z:=⟨_,rfl⟩
 have bX:=Int.emod_nonneg un (show (247:Int)≠0 by decide);have bZ:=Int.emod_lt_of_pos un (show (0:Int)<247 by decide);rw[aY] at bX bZ;obtain⟨U,hU⟩:∃z,1+um=z:=⟨_,rfl⟩
 have sU:IntKind.i64.wrap (1+um)=U:=(IntWalk.i64_in _ (by omega)).trans hU;have HU:Hid (1≤U∧U≤247):=by show _∧_;omega
 have a8:Hid (∀X,Calls Tryz.prog 38 #[O R b,O R 12] X fun r w'=>r=d (O R G)∧X=w'):=fun X=>by rw[←yK];exact fR b 12 (by decide) (by decide) (IT f5) X
 have HMK:Hid (∀X,Calls Tryz.prog 52 #[O R fn,O R a,O R G] X fun r w'=>r=d (.agg #[O R Q.fn,O R Q.addr,O R Q.aF,O R Q.code,O R Q.obj])∧Below X.heap.size X w'):=fun X=>by rw[←hQ];exact Gn fn a G (IT f3) (IT f4) (IT (by unfold bT;omega)) X
 have Ak:Hid (∀X,Calls Tryz.prog 38 #[O R st,O R (n:Int)] X fun r w'=>r=d (O R (iS:Int))∧X=w'):=fun X=>by rw[←bx];exact fR st n ao (by omega) (IT f1) X
 have bc:Hid (∀X,Calls Tryz.prog 38 #[O R un,O R 247] X fun r w'=>r=d (O R um)∧X=w'):=fun X=>by rw[←aY];exact fR un 247 (by decide) (by decide) (IT f2) X
 obtain⟨D,hD⟩:=gE (wS c (J sa n sc) (J la ln lc) av lp cv kv);rw[hD];obtain⟨W3,B⟩:∃W,((w.alloc (A D 35)).alloc (A #[O R m,O R st,O R un,O R fn,O R a,O R b] 49)).alloc (A #[O R 0,O R 0,O R 0,O R 0,O R 0] 45)=W:=⟨_,rfl⟩
 have bo:Below w.heap.size w W3:=by rw[←B];exact bta (bta (bal' w _) (Nat.le_refl _) _) (Nat.le_refl _) _
 have OY:W3.heap.size=w.heap.size+3:=by rw[←B];simp
 have p0:W3.heap[w.heap.size]?=N (A D 35):=by rw[←B];exact hpKeep (hpKeep (hpNew w _) (bal' _ _)) (bal' _ _)
 have p1:W3.heap[w.heap.size+1]?=N (A #[O R m,O R st,O R un,O R fn,O R a,O R b] 49):=by
  rw[←B];have h:=hpNew (w.alloc (A D 35)) (A #[O R m,O R st,O R un,O R fn,O R a,O R b] 49);rw[World.size_alloc] at h;exact hpKeep h (bal' _ _)
 have p2:W3.heap[w.heap.size+2]?=N (A #[O R 0,O R 0,O R 0,O R 0,O R 0] 45):=by
  rw[←B];have h:=hpNew ((w.alloc (A D 35)).alloc (A #[O R m,O R st,O R un,O R fn,O R a,O R b] 49)) (A #[O R 0,O R 0,O R 0,O R 0,O R 0] 45);rw[World.size_alloc,World.size_alloc] at h;exact h
 have t0:∀X,Below W3.heap.size W3 X→X.cell? ⟨w.heap.size,0,M⟩=N (J sa n sc):=fun X h=>(hpCell (hpKeep p0 h) 0).trans (by rw[←hD];rfl)
 have t16:∀X,Below W3.heap.size W3 X→X.cell? ⟨w.heap.size,16,M⟩=N (J la ln lc):=fun X h=>(hpCell (hpKeep p0 h) 16).trans (by rw[←hD];rfl)
 have a0:=cF p1 0 rfl;have a1:=cF p1 1 rfl;have a2:=cF p1 2 rfl;have a3:=cF p1 3 rfl;have a4:=cF p1 4 rfl;have a5:=cF p1 5 rfl;have On:=hid B;have HB3:=hid bo;have ZO:=hid OY;have HPZ:=hid p2;have HR:=hid hR;have HL:=hid hL;have b6:=hid lN;have HN:=hid hn;have HB:=hid hB;have JC:=hid (And.intro vj td);have Of:=hid b4;have kD:Below W3.heap.size W3 W3.drew:=(Below.refl _ _).drew;have hi:(Tryz.prog.info? 68).map (·.size)=N 19:=dX;clear hn lN hR hL yK ib bn hQ bx aY bX bZ hU hD B bo OY p0 p1 p2 vj td ao hB b4 f0 f1 f2 f3 f4 f5;go_enter Tryz.func15,Tryz.ntmps15;go_upto_region 1 with(fail)
 rw[On.out];go_cut [7] from 12 to 19 (fun s7 wc=>xb4 W3 Q s7 wc)
 case first=>
  clear t0 t16;refine wp_region_held_drew (S:=fun V=>Below W3.heap.size W3 V) (by kernel_rfl) kD (fun hH=>?_);clear hH;refine tG 0 12 ?_;refine tG 1 13 ?_;refine tG 2 14 ?_;refine tG 3 15 ?_;refine tG 4 16 ?_;refine tG 5 17 ?_;refine wpAnyH_ready (rs:=[6,8]) (by kernel_rfl) (by simp) ?_;refine AllReadyH.cons rfl (fun K hK=>?_) (AllReadyH.cons rfl (fun K hK=>?_) AllReadyH.nil)
  ·go_simp
   refine(a8.out _).mono ?_;rintro r wx ⟨rfl,rfl⟩;refine hK.out _ _ kD (fun hSx=>?_);clear hK K hSx;refine wpAnyH_ready (rs:=[7,8]) (by kernel_rfl) (by simp) ?_;refine AllReadyH.cons rfl (fun K hK=>?_) (AllReadyH.cons rfl (fun K hK=>?_) AllReadyH.nil)
   ·go_simp
    refine(HMK.out _).mono ?_;rintro r y3 ⟨rfl,hy3⟩;have hB3:=bt kD hy3 (Nat.le_refl _);refine hK.out _ _ hB3 (fun hSx=>?_);clear hK K hSx;refine rdyH 8 rfl (fun K hK=>?_);go_simp;have hB4:Below W3.heap.size W3 (y3.alloc (A #[O R 0,O R 0,O R 0,O R 0,O R 0] 45)):=bta hB3 (Nat.le_refl _) _;refine hK.out _ _ hB4 (fun hSx=>?_);clear hK K hSx;refine rdyH 9 rfl (fun K hK=>?_);refine step_storeW rfl 45 (.tmp 7) (.tmp 19) rfl y3.heap.size 0 _ 45 #[O R Q.fn,O R Q.addr,O R Q.aF,O R Q.code,O R Q.obj] rfl rfl (hpNew y3 (A #[O R 0,O R 0,O R 0,O R 0,O R 0] 45)) (by simp) infoRq5 rfl ?_;intro y5 g5 hk5 hz5;have hB5:Below W3.heap.size W3 y5:=hB4.trans (hk5.below hB4.size (fun i hi e=>by have:=hB3.size;omega));refine hK.out _ _ hB5 (fun hSx=>?_);clear hK K hSx;refine wpAnyH_done (by kernel_rfl) ?_ _;go_wp2;go_meet
    case rel=>exact⟨_,rfl,g5,hB3.size,hB5⟩
   ·go_simp
    have hB4:Below W3.heap.size W3 (W3.alloc (A #[O R 0,O R 0,O R 0,O R 0,O R 0] 45)).drew:=(bal' W3 _).drew;exact xau
  ·go_simp
   have hB4:Below W3.heap.size W3 (W3.alloc (A #[O R 0,O R 0,O R 0,O R 0,O R 0] 45)).drew:=(bal' W3 _).drew;refine hK.out _ _ hB4 (fun hSx=>?_);clear hK K hSx;refine rdyH 6 rfl (fun K hK=>?_);go_simp;refine(a8.out _).mono ?_;rintro r wx ⟨rfl,rfl⟩;exact xau
 case rest=>
  obtain⟨pb,rfl,bQ,bK,yM⟩:=hcut;obtain⟨L,RX⟩:∃W,W=wc:=⟨_,rfl⟩
  subst RX;have cc:=hid bQ;have V0:=hid bK;have b5:=hid yM;have q0:=t0 L yM;have q1:=a1 L yM;have q2:=a2 L yM;clear bQ bK a8 HMK kD a3 a4 a5 a1 a2;go_upto_region 2 with(fail)
  go_quiet (first
   |(go_at_call 38;with_reducible exact Calls.quiet_of_same (v:=O R (iS:Int)) ((Ak.out _).mono fun _ _ h=>⟨h.1,h.2.symm⟩))
   |(go_at_call 38;with_reducible exact Calls.quiet_of_same (v:=O R um) ((bc.out _).mono fun _ _ h=>⟨h.1,h.2.symm⟩)))
  have ab:Below L.heap.size L (L.drewN nq):=below_drewN (Below.refl _ _) _;clear q0 q1 q2 Ak bc sU yM;generalize L.drewN nq=wq at*;have T:=bt b5.out ab (Nat.le_refl _);have HBE:=hid T;have HPQ:Hid (∀X,Keeps (· =w.heap.size+2) wq X→∀j u,(#[O R Q.fn,O R Q.addr,O R Q.aF,O R Q.code,O R Q.obj]:Array Value).toList[j]?=N u→X.cell? ((⟨pb,0,M⟩:Addr).add j)=N u):=fun X E j u hj=>by
   rw[Addr.add_lit,Nat.zero_add,hpCell (hpKeeps (hpKeep cc.out ab) E (fun e=>by have e':pb=w.heap.size+2:=e;have:=V0.out;have:=ZO.out;omega))];simpa using hj
  have a6:∀X,Below wq.heap.size wq X→X.cell? ⟨w.heap.size,16,M⟩=N (J la ln lc):=fun X E=>t16 X (bt HBE.out E (Nat.le_refl _))
  have a7:∀X,Below wq.heap.size wq X→X.cell? ⟨w.heap.size+1,0,M⟩=N (O R m):=fun X E=>a0 X (bt HBE.out E (Nat.le_refl _))
  have ca:=t16 wq T;have cb:=a0 wq T;clear ab;have hWQ:Below wq.heap.size wq wq:=Below.refl _ _;have HIU:Hid (iS<n∧1≤U∧U≤247):=⟨Of.out,HU.out⟩
  by_cases hm:0≤m
  ·have g1:decide (0≤m)=true:=decide_eq_true hm
   by_cases hl:0<ln
   ·have g2:decide ((0:Int)<(ln:Int))=true:=decide_eq_true (by omega)
    have ZX:(0:Int)<(ln:Int):=by omega
    obtain⟨jm,bA⟩:∃j:Nat,m%(ln:Int)=(j:Int):=⟨(m%(ln:Int)).toNat,by have:=Int.emod_nonneg m (show (ln:Int)≠0 by omega);omega⟩
    have vi:jm<ln:=by have:=Int.emod_lt_of_pos m ZX;omega
    have r1:m.tmod (ln:Int)=(jm:Int):=by rw[Int.tmod_eq_emod_of_nonneg hm,bA]
    have r3:¬(ln:Int)=0:=by omega
    have r4:¬ln=0:=by omega
    have r6:(0:Int)≤(jm:Int):=by omega
    have r7:(jm:Int)<(ln:Int):=by omega
    obtain⟨s,hs⟩:=gs (l:=l) b6.out vi;have yo:s.val:=HB.out.2 s (List.mem_of_getElem? hs);have Hd:Hid (1≤s.un∧s.un≤247):=yo.un;obtain⟨b2,o,rv,ov,Vo,ON,I,aX⟩:=HL.out.at hs;subst ON;obtain⟨C,hC⟩:=gE (SlC s rv ov Vo);rw[hC] at aX;have ad:C.size=19:=by rw[←hC];rfl
    have PY:(Tryz.prog.info? 68).map (·.size)=N C.size:=by rw[←hC];exact dX
    have bm:C.toList.all (·.oneCell')=true:=by rw[←hC];exact I.one
    have QG:Hid (∀X,Below wq.heap.size wq X→∀j u,C.toList[j]?=N u→X.cell? ((⟨b2,o+jm*19,M⟩:Addr).add j)=N u):=fun X E j u hj=>by
     rw[Addr.add_lit];exact cell_keep (bt (bt HB3.out HBE.out (Nat.le_refl _)) E (Nat.le_refl _)) (aX j u (by simpa using hj))
    have b7:=hid I.bd;have QL:=hid I.pa;have Uo:=hid hC;clear hs yo I aX hC bA hm hl vi;go_upto_region 4 with(fail)
    refine wp_region_held_drew (S:=fun V=>Below wq.heap.size wq V) (by kernel_rfl) (Below.refl _ _).drew (fun hH=>?_);clear hH;have kQ:Below wq.heap.size wq wq.drew:=(Below.refl _ _).drew;refine tG 0 40 ?_;refine tG 1 41 ?_;refine tG 2 42 ?_;refine tG 3 43 ?_;refine tG 4 44 ?_;refine tG 5 45 ?_;refine tG 6 46 ?_;refine tG 7 47 ?_;refine tG 8 48 ?_;refine tkD 9 49 (v:=.agg C) rfl (by kernel_rfl) (fun _ _ _ h=>h) rfl (by rfl) (by assumption) (fun X E=>bP 68 (.tmp 48) rfl ⟨b2,o+jm*19,M⟩ rfl C _ (QG.out X E) Tryz.underlying68 rfl PY) ?_;simp only[setS];refine rdyH 10 rfl (fun K hK=>?_);go_simp;refine hK.out _ _ ((bal' wq _).drew) (fun hSx=>?_);clear hK K hSx;refine rdyH 11 rfl (fun K hK=>?_);refine step_storeW rfl 68 (.tmp 10) (.tmp 49) rfl wq.heap.size 0 _ 68 C rfl rfl (hpNew wq _) (by simp [ad]) PY bm ?_;intro y5 g5 hk5 hz5;obtain⟨p5,Z⟩:=cJ (by rw[ad];rfl) g5 ((Keeps.af (Below.refl _ _).drew).trans hk5 (fun _ _ e=>e));refine hK.out _ _ Z (fun hSx=>?_);clear hK K hSx;refine wpAnyH_done (by kernel_rfl) ?_ _;have e0:∀X,Below y5.heap.size y5 X→X.cell? ⟨wq.heap.size,0,M⟩=N (O R s.bd):=fun X h=>(hpCell (hpKeep p5 h) 0).trans (by rw[←Uo.out];rfl)
    have e1:∀X,Below y5.heap.size y5 X→X.cell? ⟨wq.heap.size,1,M⟩=N (O R s.pa):=fun X h=>(hpCell (hpKeep p5 h) 1).trans (by rw[←Uo.out];rfl)
    have e2:∀X,Below y5.heap.size y5 X→X.cell? ⟨wq.heap.size,2,M⟩=N (O R s.un):=fun X h=>(hpCell (hpKeep p5 h) 2).trans (by rw[←Uo.out];rfl)
    have uF:=hid Z;have a9:Hid (∀X,Below y5.heap.size y5 X→Below wq.heap.size wq X):=fun X E=>bt uF.out E (Nat.le_refl _)
    clear g5 hk5 hz5 p5 Z ca cb a6 a7 r1 r3 r4 r6 r7 g1 g2 ZX PY bm ad a0 t16;generalize s.bd=sb at*;generalize s.pa=sp at*;generalize s.un=su at*;go_wp2;go_loopw [8,9,11] (fun iv uv kv wr=>∃(i:Nat) (u:Int) (k:Nat),k≤n∧iv=O R (i:Int)∧uv=O R u∧kv=O R (k:Int)∧Hid (i<n∧1≤u∧u≤247)∧Below y5.heap.size y5 wr) (fun _ _ kv _=>n- (intOf kv).toNat)
    case atStart=>exact⟨iS,U,0,Nat.zero_le _,rfl,rfl,rfl,HIU.out,Below.refl _ _⟩
    case round=>
     obtain⟨i,u,k,hk,rfl,rfl,rfl,ak,t⟩:=hrel;have cd:(0:Int)≤(k:Int):=Int.natCast_nonneg _;have ba:=hid t;have x0:=t0 wr (bt HBE.out (a9.out _ t) (Nat.le_refl _));by_cases bC:k<n
     ·have b8:(k:Int)<(n:Int):=by omega
      have cf:=JC.out.2;obtain⟨y,hy⟩:=gs (l:=c.bj) HN.out bC;obtain⟨b3,o3,c3,Gw,w0,w1,iy⟩:=HR.out.at hy;rw[HN.out] at Gw;simp only[Value.slice.injEq,true_and] at Gw;obtain⟨rfl,rfl⟩:=Gw;obtain⟨v0,v1⟩:=iy wr (bt (bt HB3.out HBE.out (Nat.le_refl _)) (a9.out _ t) (Nat.le_refl _));have u0:=e0 wr t;have u1:=e1 wr t;have u2:=e2 wr t;obtain⟨yb,yp⟩:=y;dsimp only at v0 v1 w0 w1;obtain⟨B1,rC⟩:=bU (p:=yb=sb∧yp=sp);have heq:∀X,(binOp .eql 61 (.agg #[O R yb,O R yp]) (.agg #[O R sb,O R sp])).run Tryz.prog X=.ok (.bool B1) X:=fun X=>sT _ _ _ _ w0 w1 b7.out QL.out B1 rC X
      have Zk:Hid (k<n∧1≤su∧su≤247):=⟨bC,Hd.out⟩
      clear iy rC hy w0 w1 t;cases B1 with
      |false=>
       go_upto_region 8 with(fail)
       go_quiet (fail);go_wp2;go_roundw
       case rel=>exact⟨i,u,k+1,by omega,rfl,rfl,by go_num,ak,below_drewN ba.out _⟩
       case measure=>simp [intOf];omega
      |true=>
       go_upto_region 8 with(fail)
       go_quiet (fail);have Ea:Below y5.heap.size y5 (wr.drewN nq):=below_drewN ba.out _;have u3:=e2 _ Ea;clear u0 u1 u2 v0 v1 heq x0;generalize wr.drewN nq=wn at*;go_upto_region 9 with(fail)
       go_quiet (fail);go_wp2;go_roundw
       case rel=>exact⟨k,su,k+1,by omega,rfl,rfl,by go_num,Zk.out,below_drewN Ea _⟩
       case measure=>simp [intOf];omega
     ·obtain rfl:k=n:=by omega
      have b8:¬(k:Int)<(k:Int):=by omega
      have F:=a9.out _ t;clear e0 e1 e2 t0 t;go_upto_region 10 with(fail);refine wp_region_held_drew (S:=fun V=>Keeps (· =w.heap.size+2) (wr) V) (by kernel_rfl) (Keeps.af (Below.refl _ _).drew) (fun hH=>?_);clear hH;have hBD:Below (wr).heap.size (wr) (wr).drew:=(Below.refl _ _).drew;have hKD:Keeps (· =w.heap.size+2) (wr) (wr).drew:=Keeps.af hBD;refine tG 0 70 ?_;refine tG 1 71 ?_;refine tkD 2 72 (v:=.agg #[O R Q.fn,O R Q.addr,O R Q.aF,O R Q.code,O R Q.obj]) rfl (by kernel_rfl) (fun _ _ _ h=>h) rfl (by rfl) (by assumption) (fun Y hY=>run_load_rowT 45 (.tmp 7) rfl ⟨pb,0,M⟩ rfl #[O R Q.fn,O R Q.addr,O R Q.aF,O R Q.code,O R Q.obj] _ (HPQ.out Y ((Keeps.af F).trans hY (fun _ _ e=>e))) Tryz.underlying45 rfl infoRq5) ?_;simp only[setS];refine tG 3 4 ?_;refine tG 4 5 ?_;refine rdyH 5 rfl (fun K hK=>?_);refine step_storeW rfl 45 (.tmp 6) (.tmp 72) rfl (w.heap.size+2) 0 _ 45 #[O R Q.fn,O R Q.addr,O R Q.aF,O R Q.code,O R Q.obj] rfl rfl (hpKeep (hpKeep (hpKeep HPZ.out HBE.out) F) hBD) (by simp) infoRq5 rfl ?_;intro y9 g9 hk9 hz9;have hB9:Below w.heap.size w y9:=((HB3.out.trans ((bt HBE.out F (Nat.le_refl _)).mono HB3.out.size)).trans (hBD.mono (by have:=HB3.out.size;have:=HBE.out.size;have:=(F).size;omega))).trans (hk9.below (by have:=HB3.out.size;have:=HBE.out.size;have:=(F).size;have:=hBD.size;omega) (fun j hj e=>by have e':j=w.heap.size+2:=e;omega));refine hK.out _ _ (hKD.trans hk9 (fun _ _ e=>e)) (fun hSx=>?_);clear hK K hSx;refine wpAnyH_done (by kernel_rfl) ?_ _;have g9':y9.heap[w.heap.size+2]?=N (A #[O R Q.fn,O R Q.addr,O R Q.aF,O R Q.code,O R Q.obj] 45):=g9;have e0:=cG g9' 0 rfl;have e1:=cG g9' 1 rfl;have e2:=cG g9' 2 rfl;have e3:=cG g9' 3 rfl;have e4:=cG g9' 4 rfl;go_wp2;refine bodyPost_ret (v:=.tuple #[O R (i:Int),O R u,.agg #[O R Q.fn,O R Q.addr,O R Q.aF,O R Q.code,O R Q.obj]]) (by simp [results,Tryz.results15,go_sem,e0,e1,e2,e3,e4]) rfl ?_;exact⟨i,u,(ak.out).1,(ak.out).2,rfl,hB9⟩
   ·have g2:decide ((0:Int)<(ln:Int))=false:=decide_eq_false (by omega)
    have ZX:¬(0:Int)<(ln:Int):=by omega
    clear hm hl t0 t16 a0 a6 a7;exact xas
  ·have g1:decide (0≤m)=false:=decide_eq_false hm
   clear hm t0 t16 a0 a6 a7;exact xas
