import Derived.Test.YtoaoejaodhedaaaGreatQ37
namespace Go.Proofs.YtoaoejaodhedaaaGreat
open Go.RowKit
set_option maxHeartbeats 12800000
set_option maxRecDepth 100000
def LkActO (w:World) (s:Lk) (F:List UInt8) (r:Ending) (w':World):Prop:=
 ∃(a:Option Addr) (c:Nat),r=.returned (.agg #[.int .i64 1,.int .i64 s.now,.slice a F.length c])∧w'.ownsRow w.heap.size 5 1 (.slice a F.length c) F.length (u8s F)∧Below w.heap.size w w'
theorem own_base {w:World} {b b':Nat} {e:TypeId} {size:Nat} {v:Value} {n:Nat} {xs:List Value} (h:w.ownsRow b e size v n xs) (hb:b'≤b):w.ownsRow b' e size v n xs:=by
 obtain⟨h1,h2⟩:=h;refine⟨h1,?_⟩;rcases h2 with h2|⟨g,cap,cur,q1,q2,q3⟩
 ·exact .inl h2
 ·exact .inr ⟨g,cap,cur,q1,Nat.le_trans hb q2,q3⟩
theorem action_sendO (g:Nat) (s:Lk) (F:List UInt8) (w:World) (hl:LkAt w g s) (hph:s.ph=1) (hfr:Bs w (.slice s.fa s.fn s.fc) F) (hF:F.length≤1000):
  Calls Tryz.prog 61 #[.pointer (some ⟨g,0,none⟩)] w (LkActO w s F):=by
 have hg:=hl.lt;obtain⟨W1,hW1,hb1,g1⟩:=alQ w (.cells #[.int .i64 0,.int .i64 0,.slice none 0 0] 136);have l1:=hl.keep hb1;have c5:W1.cell? ⟨g,5,none⟩=some (.int .i64 1):=by rw[l1.cell 5];simp [Lk.cells,hph]
 have hgp:g≠w.heap.size:=by omega
 have c13:∀W,ActS W1 w.heap.size s.now W→W.cell? ⟨g,13,none⟩=some (.int .i64 s.now):=fun W h=>h.cell l1 hgp 13
 have c12:∀W,ActS W1 w.heap.size s.now W→W.cell? ⟨g,12,none⟩=some (.slice s.fa s.fn s.fc):=fun W h=>h.cell l1 hgp 12
 have kD:Below W1.heap.size W1 W1.drew:=(Below.refl _ _).drew;have kS:ActS W1 w.heap.size s.now W1.drew:=.inl kD;have HCL:Hid (∀W,Below W1.heap.size W1 W→Calls Tryz.prog 80 #[.slice s.fa s.fn s.fc] W fun r w'=>∃a c,r=.returned (.slice a F.length c)∧w'.ownsRow W.heap.size 5 1 (.slice a F.length c) F.length (u8s F)∧Below W.heap.size W w'):=fun W hW=>by
  refine(cL _ F W ((hfr.keep hb1).keep hW) (by omega)).mono ?_;rintro r w' ⟨v',rfl,hown,hb⟩;obtain⟨a,c,rfl⟩:=bN hown;exact⟨a,c,rfl,hown,hb⟩
 have HR:∀X a n c,Below W1.heap.size W1 X→ActS W1 w.heap.size s.now (((X.setCell ⟨w.heap.size,0,none⟩ (.int .i64 1)).setCell ⟨w.heap.size,1,none⟩ (.int .i64 s.now)).setCell ⟨w.heap.size,2,none⟩ (.slice a n c)):=fun X a n c h=>.inr ⟨X,a,n,c,h,rfl⟩
 have HW1:=bC hW1;have HB1:=bC hb1;have G1:=bC g1;clear hl hph hfr hW1 hb1 l1 g1 hF;go_enter Tryz.func61,Tryz.ntmps61;go_upto_region 1 with(fail)
 rw[HW1.out];go_wp2;go_region_held3 (fun W=>ActS W1 w.heap.size s.now W) ((with_reducible (first|exact kS|assumption|exact HR _ _ _ _ hBL))) ((go_at_call 80;(with_reducible refine(HCL.out W1.drew kD).mono ?_);rintro r w2 ⟨a,c,rfl,hown,hb2⟩;have hBL:=bU kD hb2;have hSL:ActS W1 w.heap.size s.now w2:=.inl hBL;have gz:=bB G1.out hBL;have z0:=bA gz 0;have z1:=bA gz 1;have z2:=bA gz 2;have y0:=bJ gz 0;have y1:=bJ gz 1;have y2:=bJ gz 2));have m3:=bX (bX (bX gz 0 (.int .i64 1)) 1 (.int .i64 s.now)) 2 (.slice a F.length c);obtain⟨q0,q1,q2⟩:(((w2.setCell ⟨w.heap.size,0,none⟩ (.int .i64 1)).setCell ⟨w.heap.size,1,none⟩ (.int .i64 s.now)).setCell ⟨w.heap.size,2,none⟩ (.slice a F.length c)).cell? ⟨w.heap.size,0,none⟩=some (.int .i64 1)∧(((w2.setCell ⟨w.heap.size,0,none⟩ (.int .i64 1)).setCell ⟨w.heap.size,1,none⟩ (.int .i64 s.now)).setCell ⟨w.heap.size,2,none⟩ (.slice a F.length c)).cell? ⟨w.heap.size,1,none⟩=some (.int .i64 s.now)∧(((w2.setCell ⟨w.heap.size,0,none⟩ (.int .i64 1)).setCell ⟨w.heap.size,1,none⟩ (.int .i64 s.now)).setCell ⟨w.heap.size,2,none⟩ (.slice a F.length c)).cell? ⟨w.heap.size,2,none⟩=some (.slice a F.length c):=⟨bA m3 0,bA m3 1,bA m3 2⟩
 obtain⟨W5,hW5⟩:∃W,W=((w2.setCell ⟨w.heap.size,0,none⟩ (.int .i64 1)).setCell ⟨w.heap.size,1,none⟩ (.int .i64 s.now)).setCell ⟨w.heap.size,2,none⟩ (.slice a F.length c):=⟨_,rfl⟩
 rw[←hW5] at q0 q1 q2 ⊢;have HW5:=bC hW5;have hlt:w.heap.size<W1.heap.size:=(Array.getElem?_eq_some_iff.1 G1.out).1;clear hW5 m3 z0 z1 z2 y0 y1 y2 gz c13 c12 HR;go_wp2;refine bodyPost_ret (v:=.agg #[.int .i64 1,.int .i64 s.now,.slice a F.length c]) (by simp [results,Tryz.results61,go_sem,q0,q1,q2]) rfl ?_;have hk:Keeps (· =w.heap.size) w2 W5:=by rw[HW5.out];exact bL (bL (bL (Keeps.refl _ _) _ _) _ _) _ _
 refine⟨a,c,rfl,?_,?_⟩
 ·exact own_base (b:=W1.heap.size) (bF hown hk (fun j hj e=>by
   have h1:=(hown.lt j hj).1
   have h2:j=w.heap.size:=e
   have h3:W1.heap.size≤j:=h1
   omega)) (show w.heap.size≤W1.heap.size by omega)
 ·have hbw:=bU HB1.out hBL
  exact hbw.trans (hk.below hbw.size (fun k hk e=>by omega))
def WaPost (gm gl gj k:Nat) (P PL Q:Nat→Prop) (c:Cf) (sv:Value) (f:Fx) (y:Ms) (s:Lk) (w:World) (r:Ending) (w':World):Prop:=∃now',r=.returned (.tuple #[])∧y.now≤now'∧now'≤y.now+20000000∧MsS gm gl gj k (GrowP P w w') PL Q c sv f ⟨y.n,false,y.x,y.set,now'⟩ s w'∧Keeps P w w'
def NowS (gm gl:Nat) (c:Cf) (sv lv:Value) (st:Int) (V:World):Prop:=∃nw,V.heap[gm]?=some (.cells (MC c sv gl lv st nw) 129)
theorem z37_1 {p:Prop} (h:p:=by
 refine bM 23 rfl (fun K hK=>?_);go_simp
 have g3:(w2.setCell ⟨gm,19,none⟩ (.int .i64 (now+I))).heap[gm]?=some (.cells (MC c (.slice sa sn sc) gl LV y.set (now+I)) 129):=bS (bB HG1.out hB2) rfl
 have hS3:NowS gm gl c (.slice sa sn sc) LV y.set (w2.setCell ⟨gm,19,none⟩ (.int .i64 (now+I))):=⟨_,g3⟩
 have hk3:Keeps (· =gm) w1 (w2.setCell ⟨gm,19,none⟩ (.int .i64 (now+I))):=(Keeps.of_below hB2).trans (ks1 (Keeps.refl (· =gm) w2) 19 _) (fun _ _ e=>e)
 refine hK.out _ _ hS3 (fun hSx=>?_)
 clear hK K hSx
 refine wpAnyH_done (by kernel_rfl) ?_ _
 go_wp2
 go_meet
 case rel=>exact⟨now+I,by omega,by omega,g3,hk3⟩):p:=h
theorem mwait_any {gm gl gj k:Nat} {P PL Q:Nat→Prop} {c:Cf} {sv:Value} {f:Fx} {y:Ms} {s:Lk} {w:World} (h:MsS gm gl gj k P PL Q c sv f y s w) (hb:y.b=false) (hp:y.n.pend=[]) (hn0:0≤y.now) (hn1:y.now≤600000000000000000):Calls Tryz.prog 22 #[.pointer (some ⟨gm,0,none⟩)] w (WaPost gm gl gj k P PL Q c sv f y s w):=by
 have hG:=CfG.of h.chk;have HBU:=bC (mbusy_any h false (by show (y.b&&_)=false;rw[hb];rfl));have HIN:Hid (∀X,Below w.heap.size w X→Calls Tryz.prog 58 #[sv,.int .i64 c.ti,.int .i64 c.de] X (InitPost X)):=fun X hX=>minit_any c hG sv X (h.rgs X (Keeps.of_below hX))
 have hdue:∀lim,y.n.due lim=false:=fun lim=>by unfold Ln.due;rw[hp]
 have HNX:Hid (∀lim X,LnAt PL X gl (.slice f.la f.ln f.lc) (.slice f.aa f.an f.ac) f.lp y.n→Calls Tryz.prog 59 #[.pointer (some ⟨gl,0,none⟩),.int .i64 lim] X fun r w'=>r=.returned (.tuple #[.agg #[.int .i64 0,.int .u8 0,.int .i64 0],.bool false])∧Below X.heap.size X w'):=fun lim X hX=>next_none hX lim (hdue lim)
 obtain⟨sa,sn,sc,rfl⟩:∃a n c,sv=.slice a n c:=by
  obtain⟨a,cc,e,-⟩:=id (h.rgs w (Keeps.refl _ _));exact⟨a,_,cc,e⟩
 obtain⟨ti,hti⟩:=gE c.ti;obtain⟨de,hde⟩:=gE c.de;obtain⟨now,hnow⟩:=gE y.now;rw[hti,hde] at HIN;rw[hnow] at hn0 hn1;have HAT:=bC h.at_;have H:=bC h;have HEQ:=bC (And.intro hti (And.intro hde (And.intro hnow hb)));obtain⟨LV,hLV⟩:=gE (lkV y.b gj);rw[hLV,hnow] at HAT;have HLV:=bC hLV;clear h hG hdue hti hde hnow hb hp hLV;go_enter Tryz.func22,Tryz.ntmps22;go_upto_region 1 with(go_at_call 57;(with_reducible refine HBU.out.mono ?_);rintro r w1 ⟨rfl,hb1⟩)
 have HB1:=bC hb1;have g1:=bB HAT.out hb1;have HG1:=bC g1;have hS1:NowS gm gl c (.slice sa sn sc) LV y.set w1.drew:=⟨now,g1⟩
 have y0:∀X,NowS gm gl c (.slice sa sn sc) LV y.set X→X.cell? ⟨gm,0,none⟩=some (.slice sa sn sc):=fun X hX=>by obtain⟨nw,hX⟩:=hX;exact(bA hX 0).trans rfl
 have y4:∀X,NowS gm gl c (.slice sa sn sc) LV y.set X→X.cell? ⟨gm,4,none⟩=some (.int .i64 ti):=fun X hX=>by obtain⟨nw,hX⟩:=hX;exact(bA hX 4).trans (by rw[←HEQ.out.1];rfl)
 have y5:∀X,NowS gm gl c (.slice sa sn sc) LV y.set X→X.cell? ⟨gm,5,none⟩=some (.int .i64 de):=fun X hX=>by obtain⟨nw,hX⟩:=hX;exact(bA hX 5).trans (by rw[←HEQ.out.2.1];rfl)
 have c19:∀X,Below w1.heap.size w1 X→X.cell? ⟨gm,19,none⟩=some (.int .i64 now):=fun X hX=>(bA (bB HG1.out hX) 19).trans rfl
 have kD:Below w1.heap.size w1 w1.drew:=(Below.refl _ _).drew;clear hb1 HBU g1;go_cut [] from 10 to 33 (fun wc=>∃now',Hid (now≤now'∧now'≤now+20000000∧wc.heap[gm]?=some (.cells (MC c (.slice sa sn sc) gl LV y.set now') 129)∧Keeps (· =gm) w1 wc))
 case first=>
  refine wp_region_held_drew (S:=fun V=>NowS gm gl c (.slice sa sn sc) LV y.set V) (by kernel_rfl) hS1 (fun hH=>?_);clear hH;refine tG 0 10 ?_;refine tG 1 11 ?_;refine tG 2 12 ?_;refine tG 4 14 ?_;refine tG 5 15 ?_;refine tG 6 16 ?_;refine tG 7 17 ?_;refine tG 8 18 ?_;refine tG 9 19 ?_;refine tG 10 20 ?_;refine tG 11 21 ?_;refine tG 12 22 ?_;refine tG 13 23 ?_;refine tG 14 24 ?_;refine tG 15 25 ?_;refine tG 16 26 ?_;refine tG 17 27 ?_;refine tG 18 28 ?_;refine wpAnyH_ready (rs:=[3,19]) (by kernel_rfl) (by simp) ?_;refine AllReadyH.cons rfl (fun K hK=>?_) (AllReadyH.cons rfl (fun K hK=>?_) AllReadyH.nil)
  ·have c19':=c19 _ kD
   go_simp;refine hK.out _ _ hS1 (fun hSx=>?_);clear hK K hSx;refine bM 19 rfl (fun K hK=>?_);go_simp;refine(HIN.out _ (bU HB1.out kD)).mono ?_;rintro r w2 ⟨I,rfl,i0,i1,hb2⟩;have hB2:=bU kD hb2;have hS2:NowS gm gl c (.slice sa sn sc) LV y.set w2:=⟨now,bB HG1.out hB2⟩
   refine hK.out _ _ hS2 (fun hSx=>?_);clear hK K hSx;have hwr:IntKind.i64.wrap (now+I)=now+I:=IntWalk.i64_in _ (by omega);refine tG 20 30 ?_;refine tG 21 31 ?_;refine tG 22 32 ?_;have x19:w2.cell? ⟨gm,19,none⟩=some (.int .i64 now):=c19 w2 hB2;have f19:=bJ (bB HG1.out hB2) 19;exact z37_1
  ·go_simp
   refine(HIN.out _ (bU HB1.out kD)).mono ?_;rintro r w2 ⟨I,rfl,i0,i1,hb2⟩;have hB2:=bU kD hb2;have hS2:NowS gm gl c (.slice sa sn sc) LV y.set w2:=⟨now,bB HG1.out hB2⟩
   refine hK.out _ _ hS2 (fun hSx=>?_);clear hK K hSx;have x19:w2.cell? ⟨gm,19,none⟩=some (.int .i64 now):=c19 w2 hB2;have f19:=bJ (bB HG1.out hB2) 19;refine bM 3 rfl (fun K hK=>?_);go_simp;refine hK.out _ _ hS2 (fun hSx=>?_);clear hK K hSx;have hwr:IntKind.i64.wrap (now+I)=now+I:=IntWalk.i64_in _ (by omega);refine tG 20 30 ?_;refine tG 21 31 ?_;refine tG 22 32 ?_;exact z37_1
 case rest=>
  obtain⟨now',HC⟩:=hcut;obtain⟨WA,hWA⟩:∃W,W=wc:=⟨_,rfl⟩
  subst hWA;have z1:=HB1.out.size;have hkA:Keeps (· =gm) w WA:=(Keeps.of_below HB1.out).trans HC.out.2.2.2 (fun _ _ e=>e);have hgl:¬gl=gm:=fun e=>H.out.gm1 (e▸H.out.ln.at_g)
  have HLA:Hid (LnAt PL WA gl (.slice f.la f.ln f.lc) (.slice f.aa f.an f.ac) f.lp y.n):=H.out.ln.keep hkA (fun j hj e=>H.out.gm1 (by have e':j=gm:=e;rw[←e'];exact hj));have HKA:=bC hkA;have HLX:Hid (∀X,Below WA.heap.size WA X→Calls Tryz.prog 59 #[.pointer (some ⟨gl,0,none⟩),.int .i64 now'] X fun r w'=>r=.returned (.tuple #[.agg #[.int .i64 0,.int .u8 0,.int .i64 0],.bool false])∧Below X.heap.size X w'):=fun X hX=>HNX.out now' X (HLA.out.keep (F:=fun _=>False) (Keeps.of_below hX) (fun _ _ e=>e))
  have x16:∀X,Below WA.heap.size WA X→X.cell? ⟨gm,16,none⟩=some (.pointer (some ⟨gl,0,none⟩)):=fun X hX=>(bA (bB HC.out.2.2.1 hX) 16).trans rfl
  have x19:∀X,Below WA.heap.size WA X→X.cell? ⟨gm,19,none⟩=some (.int .i64 now'):=fun X hX=>(bA (bB HC.out.2.2.1 hX) 19).trans rfl
  have kD:Below WA.heap.size WA WA.drew:=(Below.refl _ _).drew;have HEV2:Hid (∀X,Below WA.heap.size WA X→WaPost gm gl gj k P PL Q c (.slice sa sn sc) f y s w (.returned (.tuple #[])) X):=fun X hX=>by
   obtain⟨e1,e2,e3,e4⟩:=HEQ.out;have hLV:=HLV.out;rw[e4] at hLV;obtain⟨b1,b2⟩:=H.out.own (b':=false) (gj':=gj) (k':=k) (Q':=Q) (x':=y.x) (s':=s) (st':=y.set) (now':=now') HKA.out (by rw[hLV];exact HC.out.2.2.1) (fun e=>absurd e (by decide)) (fun j hj=>⟨H.out.qlt j hj,fun e=>H.out.dis j e hj,fun e=>H.out.gm2 (e▸hj),H.out.pq j hj⟩);have hk:Keeps P w X:=b2.trans (Keeps.of_below hX) (fun _ _ e=>e);exact⟨now',rfl,by rw[e3];exact HC.out.1,by rw[e3];exact HC.out.2.1,H.out.base (b1.keepB hX) hk (fun j hj=>.inl hj),hk⟩
  clear y0 y4 y5 c19 hS1 z1 hkA hgl;go_wp2_with fail;go_loopg [] 0 (fun _ wr=>Below WA.heap.size WA wr∧wr=WA)
  case atStart=>exact⟨Below.refl _ _,rfl⟩
  case round=>
   obtain⟨-,hwr⟩:=hrel;subst hwr;go_upto_region 2 with(fail)
   go_cut [3] from 33 to 45 (fun s3 wd=>s3=.bool false∧Below wr.heap.size wr wd)
   case first=>
    refine wp_region_held_drew (S:=fun V=>Below wr.heap.size wr V) (by kernel_rfl) kD (fun hH=>?_);clear hH;refine tG 0 34 ?_;refine tG 1 35 ?_;refine tG 2 36 ?_;refine tG 3 37 ?_;refine tG 4 38 ?_;refine tG 5 39 ?_;refine tG 6 40 ?_;refine tG 7 41 ?_;refine wpAnyH_ready (rs:=[8,12]) (by kernel_rfl) (by simp) ?_;refine AllReadyH.cons rfl (fun K hK=>?_) (AllReadyH.cons rfl (fun K hK=>?_) AllReadyH.nil)
    ·go_simp
     refine(HLX.out _ kD).mono ?_;rintro r x2 ⟨rfl,hb2⟩;have hB2:=bU kD hb2;refine hK.out _ _ hB2 (fun hSx=>?_);clear hK K hSx;refine tG 9 33 ?_;refine tG 10 43 ?_;refine tG 11 44 ?_;refine bM 12 rfl (fun K hK=>?_);go_simp;have hB3:Below wr.heap.size wr (x2.alloc (.cells #[.int .i64 0,.int .u8 0,.int .i64 0] 132)):=cJ hB2 (Nat.le_refl _) _;refine hK.out _ _ hB3 (fun hSx=>?_);clear hK K hSx;refine bM 13 rfl (fun K hK=>?_);refine bR rfl 132 (.tmp 2) (.tmp 43) rfl x2.heap.size 0 _ 132 #[.int .i64 0,.int .u8 0,.int .i64 0] rfl rfl (bI x2 (.cells #[.int .i64 0,.int .u8 0,.int .i64 0] 132)) (by simp) infoEvW rfl ?_;intro x5 g5 hk5 hz5;have hB5:Below wr.heap.size wr x5:=hB3.trans (hk5.below hB3.size (fun i hi e=>by have:=hB2.size;omega));refine hK.out _ _ hB5 (fun hSx=>?_);clear hK K hSx
     (try dsimp only[Act.put]);refine tkE 14 3 rfl rfl ?_;(try simp only[cA])
     refine wpAnyH_done (by kernel_rfl) ?_ _;go_wp2;go_meet
     case rel=>exact⟨rfl,hB5⟩
    ·go_simp
     have hB1':Below wr.heap.size wr (wr.alloc (.cells #[.int .i64 0,.int .u8 0,.int .i64 0] 132)).drew:=(bH wr _).drew;refine hK.out _ _ hB1' (fun hSx=>?_);clear hK K hSx;refine bM 8 rfl (fun K hK=>?_);go_simp;refine(HLX.out _ hB1').mono ?_;rintro r x2 ⟨rfl,hb2⟩;have hB2:=bU hB1' hb2;have p2:x2.heap[wr.heap.size]?=some (.cells #[.int .i64 0,.int .u8 0,.int .i64 0] 132):=bB (w:=(wr.alloc (.cells #[.int .i64 0,.int .u8 0,.int .i64 0] 132)).drew) (bI wr _) hb2;refine hK.out _ _ hB2 (fun hSx=>?_);clear hK K hSx;refine tG 9 33 ?_;refine tG 10 43 ?_;refine tG 11 44 ?_;refine bM 13 rfl (fun K hK=>?_);refine bR rfl 132 (.tmp 2) (.tmp 43) rfl wr.heap.size 0 _ 132 #[.int .i64 0,.int .u8 0,.int .i64 0] rfl rfl p2 (by simp) infoEvW rfl ?_;intro x5 g5 hk5 hz5;have hB5:Below wr.heap.size wr x5:=hB2.trans (hk5.below hB2.size (fun i hi e=>by omega));refine hK.out _ _ hB5 (fun hSx=>?_);clear hK K hSx
     (try dsimp only[Act.put]);refine tkE 14 3 rfl rfl ?_;(try simp only[cA])
     refine wpAnyH_done (by kernel_rfl) ?_ _;go_wp2;go_meet
     case rel=>exact⟨rfl,hB5⟩
   case rest=>
    obtain⟨rfl,hB9⟩:=hcut;have HE9:=bC (HEV2.out _ hB9);clear x16 x19;go_wp2;refine bodyPost_ret (results_none rfl _ _ _) rfl ?_;exact HE9.out
theorem infoAc3:(Tryz.prog.info? 136).map (·.size)=some 3:=by kernel_rfl
theorem pk_actO {g k:Nat} {P:Nat→Prop} {x:Tx} {s:Lk} {W:World} (h:PK g k P x s W) (hp:x.ph=1) (F:List UInt8) (hF:x.bytes=F):Calls Tryz.prog 61 #[.pointer (some ⟨g,0,none⟩)] W fun r w'=>∃(a:Option Addr) (c:Nat),r=.returned (.agg #[.int .i64 1,.int .i64 x.now,.slice a F.length c])∧w'.ownsRow W.heap.size 5 1 (.slice a F.length c) F.length (u8s F)∧Below W.heap.size W w':=by
 have hph:=h.ph;have hlv:x.live:=by unfold Tx.live;omega
 have hb:x.bytes=aduF (UInt8.ofNat x.un.toNat) x.q.pdu:=by unfold Tx.bytes;rw[if_pos hp]
 have hl:=cD (UInt8.ofNat x.un.toNat) x.q.pdu;have hl2:=Rq.pdu_len x.q;rw[hb] at hF;subst hF;rw[←h.now];exact action_sendO g s _ W h.at_ (by omega) (h.fr hlv) (by omega)
theorem msend_by {gm gl gj k:Nat} {P PL Q:Nat→Prop} {c:Cf} {sv:Value} {f:Fx} {y:Ms} {s:Lk} {w:World} (h:MsS gm gl gj k P PL Q c sv f y s w) (hb:y.b=true) (hp:y.x.ph=1) (i:Nat) (x0 x1:Int) (hx:c.sets[i]?=some (x0,x1)) (hst:y.set=(i:Int)) (hxb:y.x.b=x0) (F:List UInt8) (hF:y.x.bytes=F) (he:y.n.sendE F.length y.x.now=0) (hm:y.n.pend.length≤90000000) (hm2:y.n.sent.length≤1000000000) (hk:k≤1000000000) (hso:SortOk y.n.pend (newsF f.l (atOf f.ats f.lp y.n.sent.length) x0 x1 F y.x.now)):
  Calls Tryz.prog 27 #[.pointer (some ⟨gm,0,none⟩)] w (MYes gm gl P c sv f ⟨y.n.send f.l f.ats f.lp x0 x1 F y.x.now,true,y.x.sent (y.x.now+frameT x0 F.length),i,y.x.now+frameT x0 F.length⟩ (k+1) w):=by
 have hG:=CfG.of h.chk;have hset:Hid (Okset x0 x1):=hG.set (x0,x1) (List.mem_of_getElem? hx);have hkind:(y.x.kind !=1)=false:=by unfold Tx.kind;rw[if_neg (by omega),if_pos hp];rfl
 have c17:=h.c17 hb;have HAC:=bC (maction_any h hb);have HKA:=bC (fun X (hX:Below w.heap.size w X)=>pk_actO ((h.pk hb).keeps (Q:=fun _=>False) (Keeps.of_below hX) (fun _ _ e=>e)) hp F hF);obtain⟨KD,hKD⟩:=gE y.x.kind;rw[hKD] at HAC hkind;obtain⟨b,o,cc,rfl,w0,w1',hcl⟩:=(h.rgs w (Keeps.refl _ _)).at hx;obtain⟨n,hn⟩:=gE c.sets.length;obtain⟨T,hT⟩:=gE y.x.now;obtain⟨L,hL⟩:=gE F.length;have hlen:1≤L∧L≤256:=by
  rw[hL] at he;unfold Ln.sendE at he;split at he
  ·cases he
  ·omega
 obtain⟨fb0,fb1⟩:=frame_bd hset.out hlen.2;obtain⟨E,hE⟩:∃E,T+frameT x0 L=E:=⟨_,rfl⟩
 have hil:i<n:=by rw[←hn];exact(List.getElem?_eq_some_iff.1 hx).1
 have HRG:Hid (∀X,Keeps P w X→X.cell? ⟨b,o+i*2,none⟩=some (.int .i64 x0)∧X.cell? ⟨b,o+i*2+1,none⟩=some (.int .i64 x1)):=fun X hX=>by
  obtain⟨b',o',c',hv,-,-,hcl'⟩:=(h.rgs X hX).at hx;simp only[Value.slice.injEq,Option.some.injEq,Addr.mk.injEq,and_true,true_and] at hv;obtain⟨⟨rfl,rfl⟩,rfl⟩:=hv;exact hcl' X (Below.refl _ _)
 have HLS:Hid (∀X (fa:Option Addr) (fc:Nat),Below w.heap.size w X→(∀Y,Keeps PL X Y→Bs Y (.slice fa L fc) F)→Calls Tryz.prog 74 #[.pointer (some ⟨gl,0,none⟩),.agg #[.int .i64 x0,.int .i64 x1],.slice fa L fc,.int .i64 T] X (SdPost PL X gl (.slice f.la f.ln f.lc) (.slice f.aa f.an f.ac) f.lp (y.n.send f.l f.ats f.lp x0 x1 F T) E)):=fun X fa fc hX hY=>by
  have hk1:Keeps PL w X:=Keeps.of_below hX;have hl1:=h.ln.keep (F:=fun _=>False) (Keeps.of_below hX) (fun _ _ e=>e);have hg1:LnG PL X f.la f.ln f.lc f.aa f.an f.ac f.l f.ats f.lp:=h.G.next (Keeps.of_below hX) (fun j _ e=>h.pl j e);have h9:=send_by hl1 hg1 x0 x1 hset w0 w1' fa L fc F hY T (by rw[←hL,←hT];exact he) hm hm2 (by rw[←hT];exact hso);rw[hE] at h9;exact h9
 have HNOK:Hid ((y.n.send f.l f.ats f.lp x0 x1 F T).ok):=by
  have hT0:0≤T∧T≤topT:=by
   rw[hT] at he;unfold Ln.sendE at he;split at he
   ·cases he
   ·split at he
    ·cases he
    ·omega
  exact h.nok.send h.G.bus h.G.ok f.lp hset.out (by omega) hT0.1 hT0.2
 have HEB:Hid (T≤E∧E≤T+4000000):=by show _∧_;omega
 have hi0:(0:Int)≤(i:Int):=Int.natCast_nonneg _;have hil':(i:Int)<(n:Int):=by omega
 rw[hT] at HKA;rw[hL] at HKA;have H:=bC h;have HEQ:=bC (And.intro hn (And.intro hT (And.intro hL (And.intro hst (And.intro hb (And.intro hp (And.intro hxb hE)))))));rw[hn] at h H;rw[hT,hL,hE];clear hG hx hcl hKD hn hT hL he hm hm2 hlen fb0 fb1 hE hil hb hp hst hxb hF w0 w1';have y16:∀X,Keeps PL w X→X.cell? ⟨gm,16,none⟩=some (.pointer (some ⟨gl,0,none⟩)):=fun X hX=>(bA (bG H.out.at_ hX H.out.gm1) 16).trans rfl
 clear h;go_enter Tryz.func27,Tryz.ntmps27;go_upto_region 6 with(first
  |(go_at_call 60;(with_reducible refine HAC.out.mono ?_);rintro r w1 ⟨rfl,hb1⟩;have c17':=bD hb1 c17)
  |(go_at_call 61;(with_reducible refine(HKA.out _ hb1).mono ?_);rintro r w2 ⟨fa,fc,rfl,hown,hb2⟩)
  |(refine bE rfl 136 (.tmp 3) (.tmp 22) rfl w2.heap.size 0 _ 136 #[.int .i64 1,.int .i64 T,.slice fa L fc] rfl rfl (bI w2 _) (by simp) infoAc3 rfl ?_;intro w4 g4 hk4 hz4))
 obtain⟨p4,hb4⟩:=var_new (by rfl) g4 hk4;have HB4:Hid (Below w.heap.size w w4):=bU (bU hb1 hb2) (hb4.mono (Nat.le_refl _));have z1:=hb1.size;have z2:=hb2.size;have HZ:Hid (w.heap.size≤w1.heap.size∧w1.heap.size≤w2.heap.size):=⟨z1,z2⟩
 have hkW:∀X,Keeps PL w4 X→Keeps PL w X:=fun X hX=>(Keeps.of_below HB4.out).trans hX (fun _ _ e=>e)
 have hpq:∀j,PL j→j<w.heap.size:=H.out.ln.lts;have hap:¬PL w2.heap.size:=fun e=>by have:=hpq _ e;omega
 have HBY:Hid (∀Y,Keeps PL w4 Y→Bs Y (.slice fa L fc) F):=fun Y hY=>by
  have hL:=HEQ.out.2.2.1;have o2:=bF (bF hown (Keeps.of_below (F:=fun _=>False) hb4) (fun _ _ e=>e)) hY (fun j hj e=>by
   have h1:=(hown.lt j hj).1
   have:=hpq _ e
   omega)
  rw[←hL] at o2 ⊢;exact Bs.own o2
 have u16:∀X,Keeps PL w4 X→X.cell? ⟨gm,16,none⟩=some (.pointer (some ⟨gl,0,none⟩)):=fun X hX=>y16 X (hkW X hX)
 have u0:∀X,Keeps PL w4 X→X.cell? ⟨gm,0,none⟩=some (.slice (some ⟨b,o,none⟩) n cc):=fun X hX=>(bA (bG H.out.at_ (hkW X hX) H.out.gm1) 0).trans rfl
 have u18:∀X,Keeps PL w4 X→X.cell? ⟨gm,18,none⟩=some (.int .i64 (i:Int)):=fun X hX=>(bA (bG H.out.at_ (hkW X hX) H.out.gm1) 18).trans (by rw[←HEQ.out.2.2.2.1];rfl)
 have v1:∀X,Keeps PL w4 X→X.cell? ⟨w2.heap.size,1,none⟩=some (.int .i64 T):=fun X hX=>bA (bG p4 hX hap) 1
 have v2:∀X,Keeps PL w4 X→X.cell? ⟨w2.heap.size,2,none⟩=some (.slice fa L fc):=fun X hX=>bA (bG p4 hX hap) 2
 have HRW:Hid (∀X,Keeps PL w4 X→∀j u,(#[.int .i64 x0,.int .i64 x1]:Array Value).toList[j]?=some u→X.cell? ((⟨b,o+i*2,none⟩:Addr).add j)=some u):=fun X hX j u hj=>by
  obtain⟨e0,e1⟩:=HRG.out X ((hkW X hX).mono (fun j _ e=>H.out.pl j e));rw[Addr.add_lit];rcases j with _|_|j
  ·cases hj;exact e0
  ·cases hj;exact e1
  ·cases hj
 have kD:Below w4.heap.size w4 w4.drew:=(Below.refl _ _).drew;have kS:Keeps PL w4 w4.drew:=Keeps.of_below kD;have HP4:=bC p4;have hinf:(Tryz.prog.info? 61).map (·.size)=some 2:=infoSt2;clear c17 c17' g4 hk4 hz4 hb1 hb2 hb4 hown z1 z2 p4 y16 hap HAC HKA hkind;dsimp only[Act.put];refine wp_region_held_drew (S:=fun V=>Keeps PL w4 V) (by kernel_rfl) kS (fun hH=>?_);clear hH;refine tG 0 24 ?_;refine tG 1 25 ?_;refine tG 2 26 ?_;refine tG 3 27 ?_;refine tG 4 28 ?_;refine tG 5 29 ?_;refine tG 6 30 ?_;refine tG 7 31 ?_;refine tG 8 32 ?_;refine tG 9 33 ?_;refine tG 10 34 ?_;refine tG 11 35 ?_;refine tG 12 36 ?_;refine tG 13 37 ?_;refine cR 14 38 (v:=.agg #[.int .i64 x0,.int .i64 x1]) rfl (by kernel_rfl) (fun _ _ _ h=>h) rfl (by rfl) (by assumption) (fun X hX=>cB 61 (.tmp 37) rfl ⟨b,o+i*2,none⟩ rfl #[.int .i64 x0,.int .i64 x1] _ (HRW.out X hX) Tryz.underlying61 rfl hinf) ?_;simp only[cA];refine tG 15 39 ?_;refine tG 16 40 ?_;refine tG 17 41 ?_;refine tG 18 42 ?_;refine bM 19 rfl (fun K hK=>?_);go_simp;refine(HLS.out _ fa fc (bU HB4.out kD) (fun Y hY=>HBY.out Y (kS.trans hY (fun _ _ e=>e)))).mono ?_;rintro r w5 ⟨rfl,hl5,hk5⟩;have kS5:Keeps PL w4 w5:=kS.trans hk5 (fun _ _ e=>e);refine hK.out _ _ kS5 (fun hSx=>?_);clear hK K hSx;refine tG 20 23 ?_;refine tG 21 44 ?_;refine tG 22 45 ?_;refine tG 23 4 ?_;refine tG 24 5 ?_;refine wpAnyH_done (by kernel_rfl) ?_ _;have h4:=H.out.keepB (bU HB4.out kD);have HM5:=bC (h4.line hl5 hk5 HNOK.out).1;have HK5:=bC (h4.line hl5 hk5 HNOK.out).2;have x19:w5.cell? ⟨gm,19,none⟩=some (.int .i64 y.now):=(bA HM5.out.at_ 19).trans rfl;have f19:=bJ HM5.out.at_ 19;obtain⟨now0,hnow0⟩:=gE y.now;rw[hnow0] at x19;have HKD:=bC kD;clear u16 u0 u18 v1 v2 hl5 hk5 kS kS5 kD h4 hnow0 hinf hkW;go_upto_region 10 with(fail)
 obtain⟨W6,hW6⟩:∃W,w5.setCell ⟨gm,19,none⟩ (.int .i64 E)=W:=⟨_,rfl⟩
 rw[hW6];obtain⟨e1,e2,e3,e4,e5,e6,e7,e8⟩:=HEQ.out;have hks:Keeps (· =gm) w5 W6:=by rw[←hW6];exact ks1 (Keeps.refl (· =gm) w5) 19 _
 have hset6:W6.heap[gm]?=some (.cells (MC c (.slice (some ⟨b,o,none⟩) n cc) gl (lkV true gj) y.set E) 129):=by
  have h:=HM5.out.at_;have e5':({y with n:=y.n.send f.l f.ats f.lp x0 x1 F T}:Ms).b=true:=e5;rw[e5'] at h;rw[←hW6];exact bS h rfl
 have HM6:=bC (HM5.out.own (b':=true) (gj':=gj) (k':=k) (Q':=Q) (x':=y.x) (s':=s) (st':=y.set) (now':=E) hks hset6 (fun _=>HM5.out.pk e5) (fun j hj=>⟨HM5.out.qlt j hj,fun e=>HM5.out.dis j e hj,fun e=>HM5.out.gm2 (e▸hj),HM5.out.pq j hj⟩));have HSN:=bC (pk_sent (HM6.out.1.pk rfl) e6 hk E (by have:=HEB.out;show y.x.now≤E;omega) (by have:=HEB.out;show E≤y.x.now+4000000;omega));have x17:W6.cell? ⟨gm,17,none⟩=some (.pointer (some ⟨gj,0,none⟩)):=HM6.out.1.c17 rfl;clear x19 f19 hks hset6 hW6 e1 e2 e3 e4 e5 e6 e7 e8;go_wp2_with (go_at_call 75;(with_reducible refine HSN.out.mono ?_);rintro r w7 ⟨s',rfl,hpk,hkq⟩;have HPK:=bC hpk;have HKQ:=bC hkq;clear hpk hkq);go_ret;obtain⟨e1,e2,e3,e4,e5,e6,e7,e8⟩:=HEQ.out;obtain⟨q1,q2⟩:=HM6.out.1.link HPK.out HKQ.out;have z4:=HB4.out.size;have z5:w4.heap.size≤w5.heap.size:=HK5.out.size;have z6:=HM6.out.2.size;have z7:=HKQ.out.size;have hkk:Keeps P w w7:=((((Keeps.of_below HB4.out).trans (Keeps.of_below HKD.out) (fun _ _ e=>e)).trans HK5.out (fun _ _ e=>e)).trans HM6.out.2 (fun j hj e=>by
  rcases e with e|e
  ·exact e
  ·have h1:w4.heap.size≤j:=e.1
   omega)).trans q2 (fun j hj e=>by
  rcases e with e|e
  ·exact e
  ·have h1:w4.heap.size≤j:=e.1
   omega)
 refine⟨gj,k+1,GrowP PL w4.drew w5,Grow Q W6 w7,s',rfl,?_,hkk,Nat.le_refl _⟩;rw[←e4,e1];refine H.out.base q1 hkk (fun j hj=>?_);rcases hj with(e|e)|e
 ·exact .inl e
 ·have h1:w4.heap.size≤j:=e.1
  exact .inr ⟨by omega,by have:=e.2;omega⟩
 ·exact .inr ⟨by have:=e.1;omega,e.2⟩
theorem infoScn:(Tryz.prog.info? 35).map (·.size)=some 21:=by kernel_rfl
theorem infoAq:(Tryz.prog.info? 49).map (·.size)=some 6:=by kernel_rfl
def ScnP (c:Cf) (l:List Sl) (s:Scr):Prop:=c.sets.length≤6∧chkE c=0∧(allSmall l∧(l.length:Int)≤5)∧BusP l∧(s.ats.length≤24∧s.cr.length≤12)∧s.ok
theorem scn_cf {c:Cf} {sv lv av cv kv:Value} {lp:Bool} {j:Nat} {v:Value} (h:(CfC c sv).toList[j]?=some v):(ScnC c sv lv av lp cv kv)[j]?=some v:=by
 have e:(ScnC c sv lv av lp cv kv).toList=(CfC c sv).toList++[lv,av,.bool lp,cv,kv]:=rfl;have h2:(ScnC c sv lv av lp cv kv).toList[j]?=some v:=by
  rw[e,List.getElem?_append_left (List.getElem?_eq_some_iff.1 h).1];exact h
 simpa using h2
theorem rscr_w (s:Scr) (av cv:Value) (w:World) (ha:Ats w av s.ats) (hc:Rgs w cv s.cr) (V:Bool) (hV:V=true↔s.ok):Calls Tryz.prog 48 #[.agg #[av,.bool s.loop,cv]] w (BoolPost w V):=
 (rscr_any s av cv w ha hc).mono fun r w' ⟨B,h1,h2,h3⟩=>by
  have e:B=V:=by
   cases B<;>cases V
   ·rfl
   ·exact absurd (h2.out.2 (hV.1 rfl)) Bool.noConfusion
   ·exact absurd (hV.2 (h2.out.1 rfl)) Bool.noConfusion
   ·rfl
  subst e;exact⟨h1,h3⟩
theorem scnv_any (c:Cf) (l:List Sl) (s:Scr) (sv lv av cv kv:Value) (w:World) (hR:Rgs w sv c.sets) (hL:Slvs w lv l) (hA:Ats w av s.ats) (hC:Rgs w cv s.cr) (V:Bool) (hV:V=true↔ScnP c l s):
  Calls Tryz.prog 10 #[.agg (ScnC c sv lv av s.loop cv kv)] w (BoolPost w V):=by
 obtain⟨n,hn⟩:=gE c.sets.length;obtain⟨an,han⟩:=gE s.ats.length;obtain⟨cn,hcn⟩:=gE s.cr.length;obtain⟨lp,hlp⟩:=gE s.loop;obtain⟨EC,hEC⟩:=gE (chkE c);obtain⟨VS,hVS,HMS0⟩:=mslaves_any l 5;obtain⟨VB,hVB,HMB0⟩:=rbus_any l;obtain⟨VO,hVO⟩:=cN (p:=s.ok);obtain⟨VM,hVM⟩:∃V,decide ((an:Int)≤24∧cn≤12)=V:=⟨_,rfl⟩
 have HF:Hid (¬ScnP c l s→V=false):=fun h=>by
  cases e:V with
  |false=>rfl
  |true=>exact absurd (hV.1 e) h
 have HT:Hid (ScnP c l s→V=true):=hV.2;have HRS:Hid (∀X,Below w.heap.size w X→Calls Tryz.prog 48 #[.agg #[av,.bool lp,cv]] X (BoolPost X VO)):=fun X hX=>by
  rw[←hlp];exact rscr_w s av cv X (hA.keep hX) (hC.keep hX) VO hVO
 have HMS:Hid (∀X,Below w.heap.size w X→Calls Tryz.prog 45 #[lv,.int .i64 5] X (BoolPost X VS)):=fun X hX=>(HMS0 X _ (hL.keep hX)).mono fun r w' h=>⟨h.1,by rw[←h.2];exact Below.refl _ _⟩
 have HMB:Hid (∀X,Below w.heap.size w X→Calls Tryz.prog 46 #[lv] X (BoolPost X VB)):=fun X hX=>HMB0 X _ (hL.keep hX)
 obtain⟨sa,sc,hsv,-⟩:=id hR;obtain⟨la,lc,hlv⟩:=hL.slc;obtain⟨aa,ac,hav,-⟩:=id hA;obtain⟨ca,cc,hcv,-⟩:=id hC;rw[hn] at hsv;rw[han] at hav;rw[hcn] at hcv;obtain⟨ln,hln⟩:=gE l.length;rw[hln] at hlv;subst hsv hlv hav hcv;rw[hlp];obtain⟨C,hCC⟩:=gE (CfC c (.slice sa n sc));have hi:(Tryz.prog.info? 27).map (·.size)=some C.size:=by rw[←hCC];exact infoCfM
 have HRC:Hid (∀X,Below w.heap.size w X→Calls Tryz.prog 29 #[.agg C] X (IntPost X EC)):=fun X hX=>by
  rw[←hCC];exact rcfcheck_any c _ X (hR.keep hX) EC hEC
 have HMC:Hid (∀X,Calls Tryz.prog 47 #[.agg #[.slice aa an ac,.bool lp,.slice ca cn cc],.int .i64 24] X (BoolPost X VM)):=fun X=>mscr_any aa ca an ac cn cc lp 24 VM hVM.symm X
 obtain⟨D,hD⟩:=gE (ScnC c (.slice sa n sc) (.slice la ln lc) (.slice aa an ac) lp (.slice ca cn cc) kv);rw[hD];obtain⟨W1,hW1,hb1,pD⟩:=alQ w (.cells D 35);have HCF:Hid (∀X,Below W1.heap.size W1 X→∀j u,C.toList[j]?=some u→X.cell? ((⟨w.heap.size,0,none⟩:Addr).add j)=some u):=fun X hX j u hj=>by
  rw[Addr.add_lit,Nat.zero_add,bA (bB pD hX),←hD];exact scn_cf (by rw[hCC];exact hj)
 have HSC:Hid (∀X,Below W1.heap.size W1 X→∀j u,(#[.slice aa an ac,.bool lp,.slice ca cn cc]:Array Value).toList[j]?=some u→X.cell? ((⟨w.heap.size,17,none⟩:Addr).add j)=some u):=fun X hX j u hj=>by
  rw[Addr.add_lit,bA (bB pD hX),←hD];rcases j with _|_|_|j
  ·cases hj;rfl
  ·cases hj;rfl
  ·cases hj;rfl
  ·cases hj
 have t16:∀X,Below W1.heap.size W1 X→X.cell? ⟨w.heap.size,16,none⟩=some (.slice la ln lc):=fun X hX=>(bA (bB pD hX) 16).trans (by rw[←hD];rfl)
 have c0:W1.cell? ⟨w.heap.size,0,none⟩=some (.slice sa n sc):=(bA pD 0).trans (by rw[←hD];rfl);have HW1:=bC hW1;have HB1:=bC hb1;have HSP:Hid (ScnP c l s↔n≤6∧EC=0∧VS=true∧VB=true∧VM=true∧VO=true):=by
  show _↔_;unfold ScnP;rw[hn,hEC,hVS,hVB,hVO,han,hcn,←hVM,decide_eq_true_eq];have e:((an:Int)≤24∧cn≤12)↔(an≤24∧cn≤12):=by omega
  rw[e]
 clear hV hR hL hA hC hn han hcn hlp hEC hVS HMS0 hVB HMB0 hVO hVM hln hCC hD hW1 hb1 pD;by_cases c1:n≤6
 ·have g1:decide ((n:Int)≤6)=true:=decide_eq_true (by omega)
  have g1':(n:Int)≤6:=by omega
  by_cases c2:EC=0
  ·subst c2
   cases VS with
   |false=>
    have HE:=bC (HF.out (fun h=>by have:=(HSP.out.1 h).2.2.1;cases this));clear c1 HSP HF HT;go_enter Tryz.func10,Tryz.ntmps10;go_upto_region 1 with(fail)
    rw[HW1.out];go_wp2_with (first|(refine bK (by rfl) 27 (.tmp 9) rfl ⟨w.heap.size,0,none⟩ rfl C _ (HCF.out _ (Below.refl _ _)) Tryz.underlying27 rfl hi ?_)|(go_at_call 29;(with_reducible refine(HRC.out _ HB1.out).mono ?_);rintro r x1 ⟨rfl,y1⟩;have z1:=bU HB1.out y1;have c16:=t16 x1 y1)|(go_at_call 45;(with_reducible refine(HMS.out _ z1).mono ?_);rintro r x2 ⟨rfl,y2⟩;have z2:=bU z1 y2;have k2:=bU y1 y2;have d16:=t16 x2 k2));go_ret;exact⟨by rw[HE.out]<;>rfl,z2⟩
   |true=>
   cases VB with
   |false=>
    have HE:=bC (HF.out (fun h=>by have:=(HSP.out.1 h).2.2.2.1;cases this));clear c1 HSP HF HT;go_enter Tryz.func10,Tryz.ntmps10;go_upto_region 1 with(fail)
    rw[HW1.out];go_wp2_with (first|(refine bK (by rfl) 27 (.tmp 9) rfl ⟨w.heap.size,0,none⟩ rfl C _ (HCF.out _ (Below.refl _ _)) Tryz.underlying27 rfl hi ?_)|(go_at_call 29;(with_reducible refine(HRC.out _ HB1.out).mono ?_);rintro r x1 ⟨rfl,y1⟩;have z1:=bU HB1.out y1;have c16:=t16 x1 y1)|(go_at_call 45;(with_reducible refine(HMS.out _ z1).mono ?_);rintro r x2 ⟨rfl,y2⟩;have z2:=bU z1 y2;have k2:=bU y1 y2;have d16:=t16 x2 k2)|(go_at_call 46;(with_reducible refine(HMB.out _ z2).mono ?_);rintro r x3 ⟨rfl,y3⟩;have z3:=bU z2 y3;have k3:=bU k2 y3));go_ret;exact⟨by rw[HE.out]<;>rfl,z3⟩
   |true=>
   cases VM with
   |false=>
    have HE:=bC (HF.out (fun h=>by have:=(HSP.out.1 h).2.2.2.2.1;cases this));clear c1 HSP HF HT;go_enter Tryz.func10,Tryz.ntmps10;go_upto_region 1 with(fail)
    rw[HW1.out];go_wp2_with (first|(refine bK (by rfl) 27 (.tmp 9) rfl ⟨w.heap.size,0,none⟩ rfl C _ (HCF.out _ (Below.refl _ _)) Tryz.underlying27 rfl hi ?_)|(go_at_call 29;(with_reducible refine(HRC.out _ HB1.out).mono ?_);rintro r x1 ⟨rfl,y1⟩;have z1:=bU HB1.out y1;have c16:=t16 x1 y1)|(go_at_call 45;(with_reducible refine(HMS.out _ z1).mono ?_);rintro r x2 ⟨rfl,y2⟩;have z2:=bU z1 y2;have k2:=bU y1 y2;have d16:=t16 x2 k2)|(go_at_call 46;(with_reducible refine(HMB.out _ z2).mono ?_);rintro r x3 ⟨rfl,y3⟩;have z3:=bU z2 y3;have k3:=bU k2 y3)|(refine bK (by rfl) 32 (.tmp 25) rfl ⟨w.heap.size,17,none⟩ rfl #[.slice aa an ac,.bool lp,.slice ca cn cc] _ (HSC.out _ k3) Tryz.underlying32 rfl cE ?_)|(go_at_call 47;(with_reducible refine(HMC.out _).mono ?_);rintro r x4 ⟨rfl,y4⟩;have z4:=bU z3 y4;have k4:=bU k3 y4));go_ret;exact⟨by rw[HE.out]<;>rfl,z4⟩
   |true=>
    have HE:Hid (V=VO):=by
     show _=_;cases VO with
     |true=>exact HT.out (HSP.out.2 ⟨c1,rfl,rfl,rfl,rfl,rfl⟩)
     |false=>exact HF.out (fun h=>by have:=(HSP.out.1 h).2.2.2.2.2;cases this)
    clear c1 HSP HF HT;go_enter Tryz.func10,Tryz.ntmps10;go_upto_region 1 with(fail)
    rw[HW1.out];go_wp2_with (first|(refine bK (by rfl) 27 (.tmp 9) rfl ⟨w.heap.size,0,none⟩ rfl C _ (HCF.out _ (Below.refl _ _)) Tryz.underlying27 rfl hi ?_)|(go_at_call 29;(with_reducible refine(HRC.out _ HB1.out).mono ?_);rintro r x1 ⟨rfl,y1⟩;have z1:=bU HB1.out y1;have c16:=t16 x1 y1)|(go_at_call 45;(with_reducible refine(HMS.out _ z1).mono ?_);rintro r x2 ⟨rfl,y2⟩;have z2:=bU z1 y2;have k2:=bU y1 y2;have d16:=t16 x2 k2)|(go_at_call 46;(with_reducible refine(HMB.out _ z2).mono ?_);rintro r x3 ⟨rfl,y3⟩;have z3:=bU z2 y3;have k3:=bU k2 y3)|(refine bK (by rfl) 32 (.tmp 25) rfl ⟨w.heap.size,17,none⟩ rfl #[.slice aa an ac,.bool lp,.slice ca cn cc] _ (HSC.out _ k3) Tryz.underlying32 rfl cE ?_)|(go_at_call 47;(with_reducible refine(HMC.out _).mono ?_);rintro r x4 ⟨rfl,y4⟩;have z4:=bU z3 y4;have k4:=bU k3 y4)|(refine bK (by rfl) 32 (.tmp 30) rfl ⟨w.heap.size,17,none⟩ rfl #[.slice aa an ac,.bool lp,.slice ca cn cc] _ (HSC.out _ k4) Tryz.underlying32 rfl cE ?_)|(go_at_call 48;(with_reducible refine(HRS.out _ z4).mono ?_);rintro r x5 ⟨rfl,y5⟩;have z5:=bU z4 y5));go_ret;exact⟨by rw[HE.out]<;>rfl,z5⟩
  ·have HE:=bC (HF.out (fun h=>c2 (HSP.out.1 h).2.1))
   have g2:(EC==0)=false:=beq_eq_false_iff_ne.2 c2;clear c1 c2 HSP HF HT;go_enter Tryz.func10,Tryz.ntmps10;go_upto_region 1 with(fail)
   rw[HW1.out];go_wp2_with (first|(refine bK (by rfl) 27 (.tmp 9) rfl ⟨w.heap.size,0,none⟩ rfl C _ (HCF.out _ (Below.refl _ _)) Tryz.underlying27 rfl hi ?_)|(go_at_call 29;(with_reducible refine(HRC.out _ HB1.out).mono ?_);rintro r x1 ⟨rfl,y1⟩;have z1:=bU HB1.out y1;have c16:=t16 x1 y1));go_ret;exact⟨by rw[HE.out]<;>rfl,z1⟩
 ·have HE:=bC (HF.out (fun h=>c1 (HSP.out.1 h).1))
  have g1:decide ((n:Int)≤6)=false:=decide_eq_false (by omega);have g1':¬(n:Int)≤6:=by omega
  clear c1 HSP HF HT;go_enter Tryz.func10,Tryz.ntmps10;go_upto_region 1 with(fail)
  rw[HW1.out];go_wp2;go_ret;exact⟨by rw[HE.out]<;>rfl,HB1.out⟩
end Go.Proofs.YtoaoejaodhedaaaGreat
