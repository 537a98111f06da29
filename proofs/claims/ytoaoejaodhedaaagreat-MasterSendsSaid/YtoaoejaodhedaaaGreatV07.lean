import Derived.Test.YtoaoejaodhedaaaGreatV06
import Derived.Deep.LoopGhost
namespace Go.Proofs.YtoaoejaodhedaaaGreat
open Go.RowKit
open Value renaming slice→J,int→D
open Option renaming none→N,some→U
open IntKind renaming i64→H
open Obj renaming cells→I
set_option maxHeartbeats 12800000
set_option maxRecDepth 100000
variable {lp:Bool} {c:Cf} {f:Fx} {s:Lk} {y:Ms} {g gj gl gm k:Nat} {P PL Q:Nat→Prop} {av sv:Value} {W W' W0 w:World}
def Dm (K:Int) (w:World) (r:Ending) (w':World):Prop:=r=.returned (D H K)∧Below w.heap.size w w'
theorem lr.Ie (h:lr gm gl gj k P PL Q c sv f y s w):w.cell? ⟨gm,16,N⟩=U (.pointer (U ⟨gl,0,N⟩)):=(hpCell h.at_ 16).trans rfl
theorem lr.c17 (h:lr gm gl gj k P PL Q c sv f y s w) (a:y.b=true):w.cell? ⟨gm,17,N⟩=U (.pointer (U ⟨gj,0,N⟩)):=(hpCell h.at_ 17).trans (by
 show some (T0 y.b gj)=_
 rw[a]
 rfl)
theorem lr.xcH (h:lr gm gl gj k P PL Q c sv f y s w) (a:y.b=false):w.cell? ⟨gm,17,N⟩=U (.pointer none):=(hpCell h.at_ 17).trans (by
 show some (T0 y.b gj)=_
 rw[a]
 rfl)
theorem mb (h:lr gm gl gj k P PL Q c sv f y s w) (d:y.b=true):Calls Tryz.prog 60 #[.pointer (U ⟨gm,0,N⟩)] w (Dm y.x.kind w):=by
 have c17:=h.c17 d;have i:Hid (Calls Tryz.prog 61 #[.pointer (U ⟨gj,0,N⟩)] w (ny w y.x.kind y.x.when y.x.bytes)):=Ks (h.pk d);obtain⟨K,b⟩:=gE y.x.kind;obtain⟨T,j⟩:=gE y.x.when;obtain⟨F,hF⟩:=gE y.x.bytes;rw[b,j,hF] at i;rw[b];clear h d b j hF;go_enter Tryz.func60,Tryz.ntmps60;go_wp2_with (go_at_call 61;(with_reducible refine i.out.mono ?_);rintro r w1 ⟨a,c,rfl,o,e⟩;clear o;obtain⟨n,l⟩:=gE F.length;rw[l];have m:∀W,(Instr.field 136 (.agg #[D H K,D H T,J a n c]) 0).run Tryz.prog W=.ok (D H K) W:=(fun W=>by first|rfl|kernel_rfl);clear l);go_ret;exact⟨rfl,e⟩
theorem BQ (h:lr gm gl gj k P PL Q c sv f y s w) (V:Bool) (e:Hid ((y.b&&(y.x.kind !=3))=V)):Calls Tryz.prog 57 #[.pointer (U ⟨gm,0,N⟩)] w fun r n=>r=.returned (.bool V)∧Below w.heap.size w n:=by
 cases hb:y.b with
 |false=>
  have c17:=h.xcH hb;have b:Hid (false=V):=by have:=e.out;rw[hb] at this;exact this
  clear h hb e;go_enter Tryz.func57,Tryz.ntmps57;go_wp2;go_ret;exact⟨by rw[←b.out];rfl,Below.refl _ _⟩
 |true=>
  have c17:=h.c17 hb;have i:=hid (mb h hb);obtain⟨K,m⟩:=gE y.x.kind;have b:Hid ((K !=3)=V):=by have:=e.out;rw[hb,m] at this;exact this
  rw[m] at i;clear h hb e m;by_cases d:K=3
  ·have l:(K !=3)=false:=by rw[d];rfl
   have j:Hid (false=V):=by rw[←l];exact b.out
   clear b d;go_enter Tryz.func57,Tryz.ntmps57;go_wp2_with (go_at_call 60;(with_reducible refine i.out.mono ?_);rintro r w1 ⟨rfl,a⟩);go_ret;exact⟨by rw[←j.out];rfl,a⟩
  ·have l:(K !=3)=true:=by rw[bne_iff_ne];exact d
   have j:Hid (true=V):=by rw[←l];exact b.out
   clear b d;go_enter Tryz.func57,Tryz.ntmps57;go_wp2_with (go_at_call 60;(with_reducible refine i.out.mono ?_);rintro r w1 ⟨rfl,a⟩);go_ret;exact⟨by rw[←j.out];rfl,a⟩
theorem OR (h:lr gm gl gj k P PL Q c sv f y s w):Calls Tryz.prog 28 #[.pointer (U ⟨gm,0,N⟩)] w fun r a=>r=.returned (D H y.now)∧w=a:=by
 have b:w.cell? ⟨gm,19,N⟩=U (D H y.now):=hpCell h.at_ 19;clear h;go_enter Tryz.func28,Tryz.ntmps28;go_wp2;go_ret;exact⟨rfl,rfl⟩
theorem lr.base {gj' k':Nat} {i a Q':Nat→Prop} {o:Ms} {s':Lk} (d:lr gm gl gj k P PL Q c sv f y s W0) (h:lr gm gl gj' k' i a Q' c sv f o s' W) (n:Keeps P W0 W) (p:∀j,i j→ax P W0 W j):lr gm gl gj' k' (ax P W0 W) a Q' c sv f o s' W:=by
 have l:∀Y,Keeps (ax P W0 W) W Y→Keeps P W0 Y:=fun Y b=>n.trans b (fun j m e=>by
  rcases e with e|e
  ·exact e
  ·omega)
 exact h.Az p (fun j m=>m.lt d.yU n.size) (fun Y b=>⟨d.AI Y (l Y b),d.G.rd Y (l Y b)⟩)
def NxP (PL:Nat→Prop) (gl:Nat) (sv av:Value) (lp:Bool) (n':Ln) (V:Bool) (e:Ev) (w:World) (r:Ending) (w':World):Prop:=r=.returned (.tuple #[.agg #[D H e.t,D .u8 (e.v.toNat:Int),D H e.fl],.bool V])∧cU (ax PL w w') w' gl sv av lp n'∧Keeps PL w w'
theorem cU.grow {s:Ln} (h:cU P W g sv av lp s) (a:Below W.heap.size W W'):cU (ax P W W') W' g sv av lp s:=by
 obtain⟨e,d,cs,h⟩:=h;exact⟨e,d,cs,(h.bW a).mono (fun j=>.inl) (fun j b=>b.lt h.pl a.size)⟩
theorem xau {n:Ln} (h:cU PL w gl sv av lp n) (i:n.ok) (a:Int):
  ∃l V e,(∀x:Tx,x.til=a→(Du.mk n x).step=if V=true then ⟨l,x.ll e⟩ else ⟨l,x.bR⟩)∧l.ok∧∀X,Below w.heap.size w X→Calls Tryz.prog 59 #[.pointer (U ⟨gl,0,N⟩),D H a] X (NxP PL gl sv av lp l V e X):=by
 have b:∀X,Below w.heap.size w X→cU PL X gl sv av lp n:=fun X d=>h.ah (F:=fun _=>False) (Keeps.af d) (fun _ _ e=>e)
 have q:n.due a=false→∀X,Below w.heap.size w X→Calls Tryz.prog 59 #[.pointer (U ⟨gl,0,N⟩),D H a] X (NxP PL gl sv av lp n false ⟨0,0,0⟩ X):=fun j X d=>by
  refine(sg (b X d) a j).mono ?_;rintro r z ⟨rfl,o⟩;exact⟨rfl,(b X d).grow o,Keeps.af o⟩
 cases hp:n.pend with
 |nil=>
  have j:n.due a=false:=by unfold Ln.due;rw[hp]
  exact⟨n,false,⟨0,0,0⟩,fun x _=>Du.y7 hp,i,q j⟩
 |cons c r=>
  by_cases p:c.at_≤a
  ·refine ⟨n.next c r,true,n.SN c,fun x v=>?_,i.next hp,fun X d=>?_⟩
   ·rw [Du.CG (y:=⟨n,x⟩) hp (by show c.at_≤x.til;omega)]
    rfl
   ·have m:=i.ch c (by rw[hp];exact List.mem_cons_self ..)
    refine(CR (b X d) i c r hp a p).mono ?_;rintro e z ⟨rfl,t,u⟩;exact⟨by rw[Ln.SP n m];rfl,t,u⟩
  ·have j:n.due a=false:=by unfold Ln.due;rw[hp];exact decide_eq_false p
   refine⟨n,false,⟨0,0,0⟩,fun x v=>?_,i,q j⟩;rw[Du.ze (y:=⟨n,x⟩) hp (by show ¬c.at_≤x.til;omega)];rfl
theorem Ui {x:Tx} (h:PK g k P x s W) (a:x.aP):Calls Tryz.prog 61 #[.pointer (U ⟨g,0,N⟩)] W fun r b=>r=.returned (.agg #[D H 2,D H x.til,J none 0 0])∧Below W.heap.size W b:=by
 obtain⟨-,i,-⟩:=h.en a;have j:=h.ph;refine(ko g s W h.at_ (by unfold Tx.aP at a;unfold Lk.aP;omega)).mono ?_;rintro r b ⟨e,d⟩;exact⟨by rw[e,i],d⟩
theorem Tx.WD (x:Tx) (e:0≤x.ph) (i:x.ph≤5):(x.kind==2)=lb x:=by
 unfold Tx.kind lb;by_cases a:x.ph=0
 ·rw [if_pos a,decide_eq_false (by omega)]
  rfl
 ·by_cases b:x.ph=1
  ·rw [if_neg a,if_pos b,decide_eq_false (by omega)]
   rfl
  ·by_cases d:x.ph=5
   ·rw [if_neg a,if_neg b,if_pos d,decide_eq_false (by omega)]
    rfl
   ·rw [if_neg a,if_neg b,if_neg d,decide_eq_true (by omega)]
    rfl
def xaF (PL:Nat→Prop) (gl:Nat) (sv av:Value) (lp:Bool) (n':Ln) (V:Bool) (e:Ev) (w:World) (s4 s5:Value) (w':World):Prop:=∃eb,s4=.pointer (U ⟨eb,0,N⟩)∧s5=.bool V∧Hid (w'.heap[eb]?=U (I #[D H e.t,D .u8 (e.v.toNat:Int),D H e.fl] 132)∧w.heap.size≤eb∧cU (ax PL w w') w' gl sv av lp n'∧Keeps PL w w')
def H5 (gm gl gj:Nat) (P:Nat→Prop) (c:Cf) (sv:Value) (f:Fx) (d:Du) (st:Int) (kk:Nat) (w:World) (r:Ending) (w':World):Prop:=
 ∃da dc oa oc k' PL' Q' s',r=.returned (.tuple #[.agg #[D H d.x.shown.verdict,D H d.x.shown.ae.fn,D H d.x.shown.ae.ar,J da d.x.shown.ae.data.length dc,D H d.x.shown.ae.code,D H d.x.shown.ae.level,.bool d.x.shown.ae.more,D H d.x.shown.ae.next,J oa d.x.shown.ae.ag.length oc],.bool (decide (d.x.ph=5))])∧(∀X,ay w.heap.size w' X→dG X d.x.shown.ae da dc oa oc)∧lr gm gl gj k' (ax P w w') PL' Q' c sv f ⟨d.n,true,d.x,st,d.x.now⟩ s' w'∧Keeps P w w'∧k'≤kk
theorem sE:(Tryz.prog.info? 55).map (·.size)=U 9:=by kernel_rfl
theorem vP (h:lr gm gl gj k P PL Q c sv f y s w) (hb:y.b=true) (hh:y.x.aP) (kq:k+(Du.mk y.n y.x).mu≤1000000000):Calls Tryz.prog 23 #[.pointer (U ⟨gm,0,N⟩)] w (H5 gm gl gj P c sv f (Du.mk y.n y.x).heard y.set (k+(Du.mk y.n y.x).mu) w):=by
 obtain⟨W1,bo⟩:∃W,w.alloc (I #[D H 0,D H 0,D H 0,J none 0 0,D H 0,D H 0,.bool false,D H 0,J none 0 0] 55)=W:=⟨_,rfl⟩
 have a6:Below w.heap.size w W1:=by rw[←bo];exact bal' w _
 have b4:W1.heap.size=w.heap.size+1:=by rw[←bo];simp
 have pZ:W1.heap[w.heap.size]?=U (I #[D H 0,D H 0,D H 0,J none 0 0,D H 0,D H 0,.bool false,D H 0,J none 0 0] 55):=by rw[←bo];exact hpNew w _
 have h1:=h.bW a6;have D5:(y.x.kind !=2)=false:=by
  have e:=y.x.WD (h.pk hb).ok.IJ (h.pk hb).ok.zl;rw[(iu y.x).2 hh] at e;rw[bne,e];rfl
 have c17:=h1.c17 hb;have IZ:=hid (mb h1 hb);obtain⟨KD,ak⟩:=gE y.x.kind;rw[ak] at IZ D5;obtain⟨d,hd⟩:=gE ((Du.mk y.n y.x).heard);obtain⟨M,hM⟩:∃M,k+(Du.mk y.n y.x).mu=M:=⟨_,rfl⟩
 rw[hd,hM];rw[hM] at kq;have cg:=hid bo;have bc:=hid a6;have bK:=hid b4;have cb:=hid pZ;have H0:=hid h;have H1:=hid h1;have HD:=hid hd;have Qe:=hid hM;have cj:=hid hb;have c5:=hid hh;clear h h1 bo a6 b4 pZ hd hM hb hh ak;go_enter Tryz.func23,Tryz.ntmps23;go_upto_region 1 with(fail)
 rw[cg.out];go_upto_region 3 with(go_at_call 60;(with_reducible refine IZ.out.mono ?_);rintro r w2 ⟨rfl,ao⟩)
 have nk:=hid ao;clear c17 IZ D5 ao;go_loopg [] M (fun cp wr=>∃(cur:Du) (k1:Nat) (x A:Nat→Prop) (s1:Lk),Hid (lr gm gl gj k1 (ax P W1 wr) x A c sv f ⟨cur.n,true,cur.x,y.set,y.now⟩ s1 wr∧Keeps P W1 wr∧wr.heap[w.heap.size]?=U (I #[D H 0,D H 0,D H 0,J none 0 0,D H 0,D H 0,.bool false,D H 0,J none 0 0] 55)∧cur.heard=d∧k1+cur.mu≤M∧cur.mu≤cp))
 case atStart=>
  have ao:=nk.out;have N7:Keeps P W1 w2:=Keeps.af ao;have cy:(⟨y.n,true,y.x,y.set,y.now⟩:Ms)=y:=by
   have e:=cj.out;cases y;dsimp only at e;rw[e]
  refine⟨⟨y.n,y.x⟩,k,PL,Q,s,?_,N7,hpKeep cb.out ao,HD.out,by rw[Qe.out];exact Nat.le_refl _,by have:=Qe.out;show (Du.mk y.n y.x).mu≤M;omega⟩;dsimp only;rw[cy];exact H1.out.base (H1.out.bW ao) N7 (fun j b=>.inl b)
 case round=>
  obtain⟨cur,k1,x,A,s1,HR⟩:=hrel;obtain⟨cn,n⟩:=cur;have Aa:=hid HR.out.1;have c17:=Aa.out.c17 rfl;have IZ:=hid (mb Aa.out rfl);have ZA:=Tx.WD n (Aa.out.pk rfl).ok.IJ (Aa.out.pk rfl).ok.zl;obtain⟨KD,ak⟩:=gE n.kind;have IZ:Hid (Calls Tryz.prog 60 #[.pointer (U ⟨gm,0,N⟩)] wr (Dm KD wr)):=by rw[←ak];exact IZ.out
  rw[ak] at ZA;clear ak;cases xI:lb n with
  |true=>
   have hx:n.aP:=(iu n).1 xI;rw[xI] at ZA;go_upto_region 4 with(go_at_call 60;(with_reducible refine IZ.out.mono ?_);rintro r l ⟨rfl,Cm⟩)
   have t:=hid (Aa.out.bW Cm);obtain⟨n',V,e,bZ,b5,ba⟩:=xau t.out.ln t.out.Rj n.til;obtain⟨TL,a4⟩:=gE n.til;rw[a4] at ba;have Vj:Hid (∀X,Below l.heap.size l X→Calls Tryz.prog 59 #[.pointer (U ⟨gl,0,N⟩),D H TL] X (NxP x gl (.slice f.la f.ln f.lc) (.slice f.aa f.an f.ac) f.lp n' V e X)):=ba;have n6:=hid (bZ n rfl);have RG:Hid (∀X,Below l.heap.size l X→Calls Tryz.prog 61 #[.pointer (U ⟨gj,0,N⟩)] X fun r w'=>r=.returned (.agg #[D H 2,D H TL,J none 0 0])∧Below X.heap.size X w'):=fun X E=>by
    rw[←a4];exact Ui ((t.out.pk rfl).keeps (Q:=fun _=>False) (Keeps.af E) (fun _ _ e=>e)) hx
   have ct:∀W,(Instr.field 136 (.agg #[D H 2,D H TL,J none 0 0]) 1).run Tryz.prog W=.ok (D H TL) W:=fun W=>by first|rfl|kernel_rfl
   have aX:=hid hx;have LH:=hid b5;have cX:∀X,Keeps x l X→X.cell? ⟨gm,16,N⟩=U (.pointer (U ⟨gl,0,N⟩)):=fun X E=>(hpCell (hpKeeps t.out.at_ E t.out.CS) 16).trans rfl
   have c4:∀X,Keeps x l X→X.cell? ⟨gm,17,N⟩=U (.pointer (U ⟨gj,0,N⟩)):=fun X E=>(hpCell (hpKeeps t.out.at_ E t.out.CS) 17).trans rfl
   have kD:Below l.heap.size l l.drew:=(Below.refl _ _).drew;have kS:Keeps x l l.drew:=Keeps.af kD;clear c17 IZ ZA xI hx bZ b5 ba a4;go_cut [4,5] from 24 to 38 (fun s4 s5 wc=>xaF x gl (.slice f.la f.ln f.lc) (.slice f.aa f.an f.ac) f.lp n' V e l s4 s5 wc)
   case first=>
    refine wp_region_held_drew (S:=fun V=>Keeps x l V) (by kernel_rfl) kS (fun hH=>?_);clear hH;refine tG 0 25 ?_;refine tG 1 26 ?_;refine tG 2 27 ?_;refine tG 3 28 ?_;refine tG 4 29 ?_;refine tG 5 30 ?_;refine tG 6 31 ?_;refine tG 7 32 ?_;refine wpAnyH_ready (rs:=[8,14]) (by kernel_rfl) (by simp) ?_;refine AllReadyH.cons rfl (fun K o=>?_) (AllReadyH.cons rfl (fun K o=>?_) AllReadyH.nil)
    ·go_simp
     refine(RG.out _ kD).mono ?_;rintro r x1 ⟨rfl,Gw⟩;have oU:=bt kD Gw (Nat.le_refl _);have a3:Keeps x l x1:=Keeps.af oU;refine o.out _ _ a3 (fun m=>?_);clear o K m;refine tG 9 34 ?_;refine wpAnyH_ready (rs:=[10,14]) (by kernel_rfl) (by simp) ?_;refine AllReadyH.cons rfl (fun K o=>?_) (AllReadyH.cons rfl (fun K o=>?_) AllReadyH.nil)
     ·go_simp
      refine(Vj.out _ oU).mono ?_;rintro r x2 ⟨rfl,lQ,L⟩;have TY:Keeps x l x2:=a3.trans L (fun _ _ e=>e);refine o.out _ _ TY (fun m=>?_);clear o K m;refine tG 11 24 ?_;refine tG 12 36 ?_;refine tG 13 37 ?_;refine rdyH 14 rfl (fun K o=>?_);go_simp;have ab:Keeps x l (x2.alloc (I #[D H 0,D .u8 0,D H 0] 132)):=TY.trans (Keeps.af (bal' x2 _)) (fun _ _ e=>e);refine o.out _ _ ab (fun m=>?_);clear o K m;refine rdyH 15 rfl (fun K o=>?_);refine step_storeW rfl 132 (.tmp 4) (.tmp 36) rfl x2.heap.size 0 _ 132 #[D H e.t,D .u8 (e.v.toNat:Int),D H e.fl] rfl rfl (hpNew x2 (I #[D H 0,D .u8 0,D H 0] 132)) (by simp) infoEvW rfl ?_;intro x5 g5 Z a2;have kq:Below x2.heap.size x2 x5:=(bal' x2 (I #[D H 0,D .u8 0,D H 0] 132)).trans (Z.below (by simp) (fun i hi e=>by omega));have IN:Keeps x l x5:=TY.trans (Keeps.af kq) (fun _ _ e=>e);have z2:=L.size;have zz:=kq.size;have Tz:Hid (cU (ax x l x5) x5 gl (.slice f.la f.ln f.lc) (.slice f.aa f.an f.ac) f.lp n'):=(lQ.grow kq).PA (fun j b=>(ax.trans b z2 zz).Gs oU.size) (fun j b=>b.lt t.out.ln.Ri IN.size);refine o.out _ _ IN (fun m=>?_);clear o K m
      (try dsimp only[Act.put]);refine V6 16 5 rfl rfl ?_;(try simp only[setS])
      refine wpAnyH_done (by kernel_rfl) ?_ _;go_wp2;go_meet
      case rel=>exact⟨x2.heap.size,rfl,rfl,g5,by have:=oU.size;omega,Tz.out,IN⟩
     ·go_simp
      have T:Below l.heap.size l (x1.alloc (I #[D H 0,D .u8 0,D H 0] 132)):=bta oU (Nat.le_refl _) _;have TY:Keeps x l (x1.alloc (I #[D H 0,D .u8 0,D H 0] 132)):=Keeps.af T;refine o.out _ _ TY (fun m=>?_);clear o K m;refine rdyH 10 rfl (fun K o=>?_);go_simp;refine(Vj.out _ T).mono ?_;rintro r x2 ⟨rfl,lQ,L⟩;have ab:Keeps x l x2:=TY.trans L (fun _ _ e=>e);have p2:x2.heap[x1.heap.size]?=U (I #[D H 0,D .u8 0,D H 0] 132):=hpKeeps (hpNew x1 _) L (fun e=>by have:=t.out.ln.Ri _ e;have:=oU.size;omega);refine o.out _ _ ab (fun m=>?_);clear o K m;refine tG 11 24 ?_;refine tG 12 36 ?_;refine tG 13 37 ?_;refine rdyH 15 rfl (fun K o=>?_);refine step_storeW rfl 132 (.tmp 4) (.tmp 36) rfl x1.heap.size 0 _ 132 #[D H e.t,D .u8 (e.v.toNat:Int),D H e.fl] rfl rfl p2 (by simp) infoEvW rfl ?_;intro x5 g5 Z a2;have IN:Keeps x l x5:=ab.trans (Z.mono (F:=(· =x1.heap.size)) (G:=fun j=>j=x1.heap.size) (fun _ _ e=>e)) (fun i hi e=>by have e':i=x1.heap.size:=e;have:=oU.size;omega);have Tz:Hid (cU (ax x l x5) x5 gl (.slice f.la f.ln f.lc) (.slice f.aa f.an f.ac) f.lp n'):=(lQ.ah Z (fun j b e=>by
       have e':j=x1.heap.size:=e
       rcases b with b|b
       ·have:=t.out.ln.Ri _ b;have:=oU.size;omega
       ·have h3:=b.1
        rw[World.size_alloc] at h3
        omega)).PA (fun j b=>by
       rcases b with b|b
       ·exact .inl b
       ·exact .inr ⟨Nat.le_trans T.size b.1,by rw[a2];exact b.2⟩) (fun j b=>b.lt t.out.ln.Ri IN.size)
      refine o.out _ _ IN (fun m=>?_);clear o K m
      (try dsimp only[Act.put]);refine V6 16 5 rfl rfl ?_;(try simp only[setS])
      refine wpAnyH_done (by kernel_rfl) ?_ _;go_wp2;go_meet
      case rel=>exact⟨x1.heap.size,rfl,rfl,g5,oU.size,Tz.out,IN⟩
    ·go_simp
     have oU:Below l.heap.size l (l.alloc (I #[D H 0,D .u8 0,D H 0] 132)).drew:=(bal' l _).drew;have a3:Keeps x l (l.alloc (I #[D H 0,D .u8 0,D H 0] 132)).drew:=Keeps.af oU;refine o.out _ _ a3 (fun m=>?_);clear o K m;refine rdyH 8 rfl (fun K o=>?_);go_simp;refine(RG.out _ oU).mono ?_;rintro r x1 ⟨rfl,Gw⟩;have T:=bt oU Gw (Nat.le_refl _);have TY:Keeps x l x1:=Keeps.af T;have p1:x1.heap[l.heap.size]?=U (I #[D H 0,D .u8 0,D H 0] 132):=hpKeep (w:=(l.alloc (I #[D H 0,D .u8 0,D H 0] 132)).drew) (hpNew l _) Gw;refine o.out _ _ TY (fun m=>?_);clear o K m;refine tG 9 34 ?_;refine rdyH 10 rfl (fun K o=>?_);go_simp;refine(Vj.out _ T).mono ?_;rintro r x2 ⟨rfl,lQ,L⟩;have ab:Keeps x l x2:=TY.trans L (fun _ _ e=>e);have p2:x2.heap[l.heap.size]?=U (I #[D H 0,D .u8 0,D H 0] 132):=hpKeeps p1 L (fun e=>by have:=t.out.ln.Ri _ e;omega);have c6:=hpLt p1;refine o.out _ _ ab (fun m=>?_);clear o K m;refine tG 11 24 ?_;refine tG 12 36 ?_;refine tG 13 37 ?_;refine rdyH 15 rfl (fun K o=>?_);refine step_storeW rfl 132 (.tmp 4) (.tmp 36) rfl l.heap.size 0 _ 132 #[D H e.t,D .u8 (e.v.toNat:Int),D H e.fl] rfl rfl p2 (by simp) infoEvW rfl ?_;intro x5 g5 Z a2;have IN:Keeps x l x5:=ab.trans Z (fun i hi e=>by have e':i=l.heap.size:=e;omega);have Tz:Hid (cU (ax x l x5) x5 gl (.slice f.la f.ln f.lc) (.slice f.aa f.an f.ac) f.lp n'):=(lQ.ah Z (fun j b e=>by
      have e':j=l.heap.size:=e
      rcases b with b|b
      ·have:=t.out.ln.Ri _ b;omega
      ·have h3:=b.1
       omega)).PA (fun j b=>by
      rcases b with b|b
      ·exact .inl b
      ·exact .inr ⟨Nat.le_trans T.size b.1,by rw[a2];exact b.2⟩) (fun j b=>b.lt t.out.ln.Ri IN.size)
     refine o.out _ _ IN (fun m=>?_);clear o K m
     (try dsimp only[Act.put]);refine V6 16 5 rfl rfl ?_;(try simp only[setS])
     refine wpAnyH_done (by kernel_rfl) ?_ _;go_wp2;go_meet
     case rel=>exact⟨l.heap.size,rfl,rfl,g5,Nat.le_refl _,Tz.out,IN⟩
   case rest=>
    obtain⟨z,S5⟩:∃W,W=wc:=⟨_,rfl⟩
    subst S5;obtain⟨eb,rfl,rfl,Vd⟩:=hcut;have Ff:=hid Cm;have bA:Hid (¬x w.heap.size∧¬A w.heap.size):=by
     have tA:¬ax P W1 wr w.heap.size:=fun e=>by
      rcases e with e|e
      ·have:=H0.out.yU _ e
       omega
      ·have:=bK.out
       omega
     exact⟨fun e=>tA (Aa.out.pl _ e),fun e=>tA (Aa.out.pq _ e)⟩
    have ad:=hid (t.out.line Vd.out.2.2.1 Vd.out.2.2.2 LH.out).1;have Lz:=hid (t.out.line Vd.out.2.2.1 Vd.out.2.2.2 LH.out).2;have ca:Hid (z.heap[w.heap.size]?=U (I #[D H 0,D H 0,D H 0,J none 0 0,D H 0,D H 0,.bool false,D H 0,J none 0 0] 55)):=hpKeeps (hpKeep HR.out.2.2.1 Cm) Vd.out.2.2.2 bA.out.1;have bm:Hid (k1≤1000000000):=by have:=HR.out.2.2.2.2.1;show _≤_;omega
    have bn:Hid ((Du.mk cn n).step.mu<(Du.mk cn n).mu∧(Du.mk cn n).step.heard=d):=⟨Du.xZ aX.out,by rw[Du.Ga ((iu _).2 aX.out)];exact HR.out.2.2.2.1⟩
    have lL:Hid (∀(X R:World) (x':Tx) (s':Lk),Below z.heap.size z X→X.heap.size=z.heap.size→(Du.mk cn n).step=⟨n',x'⟩→PK gj (k1+1) (iK A X R) x' s' R→Keeps A X R→lr gm gl gj (k1+1) (ax P W1 R) (ax x l z) (iK A X R) c sv f ⟨n',true,x',y.set,y.now⟩ s' R∧Keeps P W1 R∧R.heap[w.heap.size]?=U (I #[D H 0,D H 0,D H 0,J none 0 0,D H 0,D H 0,.bool false,D H 0,J none 0 0] 55)∧(Du.mk n' x').heard=d∧k1+1+(Du.mk n' x').mu≤M∧(Du.mk n' x').mu<gk):=fun X R x' s' a8 c7 cw E3 JT=>by
     obtain⟨b1,b2⟩:=(ad.out.bW a8).link E3 JT;have z1:=HR.out.2.1.size;have z2:=Ff.out.size;have z3:=Vd.out.2.2.2.size;have z4:z.heap.size≤R.heap.size:=by have:=JT.size;omega
     have kf:Keeps P W1 R:=((HR.out.2.1.trans (Keeps.af Ff.out) (fun _ _ e=>e)).trans Lz.out (fun j b e=>by
      rcases e with e|e
      ·exact e
      ·omega)).trans ((Keeps.af a8).trans b2 (fun _ _ e=>e)) (fun j b e=>by
      rcases e with(e|e)|e
      ·exact e
      ·omega
      ·omega)
     rw[cw] at bn;obtain⟨m1,m2⟩:=bn.out;have m3:=HR.out.2.2.2.2;refine⟨H1.out.base b1 kf (fun j b=>?_),kf,hpKeeps (hpKeep ca.out a8) JT bA.out.2,m2,by omega,by omega⟩;rcases b with((b|b)|b)|b
     ·exact .inl b
     ·exact .inr ⟨b.1,by omega⟩
     ·exact .inr ⟨by omega,by omega⟩
     ·have h1:=b.1
      exact .inr ⟨by omega,b.2⟩
    have WT:∀X,Below z.heap.size z X→X.cell? ⟨gm,17,N⟩=U (.pointer (U ⟨gj,0,N⟩)):=fun X E=>cell_keep E (ad.out.c17 rfl)
    have kD:Below z.heap.size z z.drew:=(Below.refl _ _).drew;clear cX c4 kS ct Cm;cases V with
    |true=>
     have Fh:Hid (Calls Tryz.prog 62 #[.pointer (U ⟨gj,0,N⟩),.agg #[D H e.t,D .u8 (e.v.toNat:Int),D H e.fl]] z.drew (j9 gj (k1+1) A (n.ll e) (n.vU e) z.drew)):=LC ((ad.out.pk rfl).keeps (Q:=fun _=>False) (Keeps.af kD) (fun _ _ e=>e)) aX.out bm.out e;obtain⟨CE,aY⟩:∃C:Array Value,(#[D H e.t,D .u8 (e.v.toNat:Int),D H e.fl]:Array Value)=C:=⟨_,rfl⟩
     have QG:(Tryz.prog.info? 132).map (·.size)=U CE.size:=by rw[←aY];exact infoEvW
     have b6:¬A eb:=fun e=>by
      have h1:=Aa.out.Lv _ e;have h2:=Vd.out.2.1;have h3:=Ff.out.size;omega
     have LZ:Hid (∀X,Keeps A z X→∀j u,CE.toList[j]?=U u→X.cell? ((⟨eb,0,N⟩:Addr).add j)=U u):=fun X E j u b=>by
      rw[Addr.add_lit,Nat.zero_add,hpCell (hpKeeps Vd.out.1 E b6),aY];simpa using b
     have c9:∀X,Keeps A z X→X.cell? ⟨gm,17,N⟩=U (.pointer (U ⟨gj,0,N⟩)):=fun X E=>(hpCell (hpKeeps ad.out.at_ E ad.out.JL) 17).trans rfl
     have kQ:Keeps A z z.drew:=Keeps.af kD;rw[aY] at Fh;clear aY b6 WT;go_upto_region 6 with(fail)
     refine wp_region_held_drew (S:=fun V=>Keeps A z V) (by kernel_rfl) kQ (fun hH=>?_);clear hH;refine tG 0 39 ?_;refine tG 1 40 ?_;refine tG 2 41 ?_;refine tG 3 42 ?_;refine tkD 4 43 (v:=.agg CE) rfl (by kernel_rfl) (fun _ _ _ h=>h) rfl (by rfl) (by assumption) (fun X E=>run_load_rowT 132 (.tmp 4) rfl ⟨eb,0,N⟩ rfl CE _ (LZ.out X E) Tryz.underlying132 rfl QG) ?_;simp only[setS];refine rdyH 5 rfl (fun K o=>?_);go_simp;refine Fh.out.mono ?_;rintro r R ⟨s',rfl,E3,JT⟩;have hE:=lL.out z.drew R _ s' kD rfl (by rw[n6.out];rfl) E3 JT;have HE:=hid hE;have cD:Keeps A z R:=kQ.trans JT (fun _ _ e=>e);clear hE E3 JT;refine o.out _ _ cD (fun m=>?_);clear o K m;refine wpAnyH_done (by kernel_rfl) ?_ _;go_wp2;go_roundg (Du.mk n' (n.ll e)).mu
     case measure=>exact HE.out.2.2.2.2.2
     case rel=>exact⟨⟨n',n.ll e⟩,k1+1,_,_,s',HE.out.1,HE.out.2.1,HE.out.2.2.1,HE.out.2.2.2.1,HE.out.2.2.2.2.1,Nat.le_refl _⟩
    |false=>
     have cd:Hid (Calls Tryz.prog 63 #[.pointer (U ⟨gj,0,N⟩)] z (j9 gj (k1+1) A n.bR 0 z)):=Am (ad.out.pk rfl) aX.out bm.out;have c8:z.cell? ⟨gm,17,N⟩=U (.pointer (U ⟨gj,0,N⟩)):=WT _ (Below.refl _ _);go_wp2_with (go_at_call 63;(with_reducible refine cd.out.mono ?_);rintro r R ⟨s',rfl,E3,JT⟩;have HE:=hid (lL.out z R _ s' (Below.refl _ _) rfl (by rw[n6.out];rfl) E3 JT);clear E3 JT);go_roundg (Du.mk n' n.bR).mu
     case measure=>exact HE.out.2.2.2.2.2
     case rel=>exact⟨⟨n',n.bR⟩,k1+1,_,_,s',HE.out.1,HE.out.2.1,HE.out.2.2.1,HE.out.2.2.2.1,HE.out.2.2.2.2.1,Nat.le_refl _⟩
  |false=>
   rw[xI] at ZA;have bQ:(⟨cn,n⟩:Du)=d:=by rw[←HR.out.2.2.2.1];exact(Du.JO xI).symm
   have xh:=hid (fun (X:World) (E:Below wr.heap.size wr X)=>xaw (((Aa.out.pk rfl).keeps (Q:=fun _=>False) (Keeps.af E) (fun _ _ e=>e))));have b7:=hid bQ;clear xI bQ;go_upto_region 8 with(go_at_call 60;(with_reducible refine IZ.out.mono ?_);rintro r l ⟨rfl,Cm⟩)
   have t:=hid (Aa.out.bW Cm);have Ff:=hid Cm;have WT:l.cell? ⟨gm,17,N⟩=U (.pointer (U ⟨gj,0,N⟩)):=t.out.c17 rfl;have WW:l.cell? ⟨gm,19,N⟩=U (D H y.now):=hpCell t.out.at_ 19;have f19:l.frozen? ⟨gm,19,N⟩=false:=hpFree t.out.at_ 19;have bx:=hid (xh.out l Cm);obtain⟨NW,YB⟩:=gE n.now;rw[YB] at bx;have cT:=hid YB;clear c17 ZA Cm xh YB;go_upto_region 9 with(go_at_call 64;(with_reducible refine bx.out.mono ?_);rintro r w3 ⟨rfl,rfl⟩)
   obtain⟨W8,Iw⟩:∃W,l.setCell ⟨gm,19,N⟩ (D H NW)=W:=⟨_,rfl⟩
   rw[Iw];have rm:Keeps (· =gm) l W8:=by rw[←Iw];exact ks1 (Keeps.refl (· =gm) l) 19 _
   have ez:W8.heap[gm]?=U (I (MC c sv gl (T0 true gj) y.set NW) 129):=by rw[←Iw];exact hpSetE t.out.at_ rfl
   have H8:=hid (t.out.own (b':=true) (gj':=gj) (k':=k1) (Q':=A) (x':=n) (s':=s1) (st':=y.set) (now':=NW) rm ez (fun _=>t.out.pk rfl) (fun j b=>⟨t.out.Lv j b,fun e=>t.out.Jw j e b,fun e=>t.out.JL (e▸b),t.out.pq j b⟩));have Jl:=hid (G4 (H8.out.1.pk rfl));have db:W8.cell? ⟨gm,17,N⟩=U (.pointer (U ⟨gj,0,N⟩)):=H8.out.1.c17 rfl;have cv:¬w.heap.size=gm:=fun e=>by
    have:=H0.out.yU gm H0.out.pm;omega
   have p8:W8.heap[w.heap.size]?=U (I #[D H 0,D H 0,D H 0,J none 0 0,D H 0,D H 0,.bool false,D H 0,J none 0 0] 55):=hpKeeps (hpKeep HR.out.2.2.1 Ff.out) rm cv;obtain⟨V5,a5⟩:∃V,decide (n.ph=5)=V:=⟨_,rfl⟩
   obtain⟨O,hO⟩:=gE n.shown;rw[a5,hO] at Jl;have bC:=hid p8;have b8:=hid rm;have cf:=hid (And.intro a5 hO);clear WT WW f19 rm ez p8 Iw a5 hO;go_wp2_with (first
    |(go_at_call 65;(with_reducible refine Jl.out.mono ?_);rintro r w9 ⟨da,dc,oa,oc,rfl,AF,a7⟩;have p9:=hpKeep bC.out a7;have cc:=hid AF;have Xl:=hid a7;clear AF a7)
    |(refine wpList_storeW rfl 55 (.tmp 2) (.tmp 63) rfl w.heap.size 0 _ 55 #[D H O.verdict,D H O.ae.fn,D H O.ae.ar,J da O.ae.data.length dc,D H O.ae.code,D H O.ae.level,.bool O.ae.more,D H O.ae.next,J oa O.ae.ag.length oc] rfl rfl p9 (by simp) sE rfl ?_;intro wA gA Zr cz))
   have cl:wA.heap[w.heap.size]?=U (I #[D H O.verdict,D H O.ae.fn,D H O.ae.ar,J da O.ae.data.length dc,D H O.ae.code,D H O.ae.level,.bool O.ae.more,D H O.ae.next,J oa O.ae.ag.length oc] 55):=gA;refine bodyPost_ret (results_ct_row rfl _ _ w.heap.size 55 _ (0,0) _ rfl cl Tryz.underlying55 rfl sE) rfl ?_;have a9:=b7.out;obtain⟨e1,e2⟩:=cf.out;have z0:=bc.out.size;have zr:=HR.out.2.1.size;have z2:=Ff.out.size;have z8:=b8.out.size;have z9:=Xl.out.size;have cV:Keeps P W1 W8:=(HR.out.2.1.trans (Keeps.af Ff.out) (fun _ _ e=>e)).trans H8.out.2 (fun j b e=>by
    rcases e with e|e
    ·exact e
    ·omega)
   have Zn:Keeps P w wA:=(((Keeps.af bc.out).trans cV (fun _ _ e=>e)).trans (Keeps.af Xl.out) (fun _ _ e=>e)).trans Zr (fun j b e=>by
    have e':j=w.heap.size:=e
    omega)
   have hA:lr gm gl gj k1 (ax P W1 wr) x A c sv f ⟨cn,true,n,y.set,NW⟩ s1 wA:=by
    have h9:=H8.out.1.bW Xl.out;refine h9.ah Zr (fun j b e=>?_) (fun Y hY=>?_)
    ·have e':j=w.heap.size:=e
     rcases b with b|b
     ·have:=H0.out.yU j b
      omega
     ·have:=bK.out
      omega
    ·have bX:Keeps P w Y:=Zn.trans hY (fun j b e=>by
      rcases e with e|e
      ·exact e
      ·omega)
     exact⟨H0.out.AI Y bX,H0.out.G.rd Y bX⟩
   refine⟨da,dc,oa,oc,k1,x,A,s1,?_,fun X E=>?_,?_,Zn,by have:=HR.out.2.2.2.2.1;omega⟩
   ·rw [←a9]
    show _=Ending.returned (.tuple #[.agg #[D H n.shown.verdict,D H n.shown.ae.fn,D H n.shown.ae.ar,J da n.shown.ae.data.length dc,D H n.shown.ae.code,D H n.shown.ae.level,.bool n.shown.ae.more,D H n.shown.ae.next,J oa n.shown.ae.ag.length oc],.bool (decide (n.ph=5))]);rw[e1,e2];rfl
   ·rw [←a9]
    show dG X n.shown.ae da dc oa oc;rw[e2];refine cc.out X (ay.trans (B:=W8.heap.size) (ay.dg (B:=W8.heap.size) Zr (fun j e=>by have e':j=w.heap.size:=e;have:=hpLt bC.out;omega)) (E.mono (by omega)))
   ·rw [←a9]
    show lr gm gl gj k1 (ax P w wA) x A c sv f ⟨cn,true,n,y.set,n.now⟩ s1 wA;rw[cT.out];exact H0.out.base hA Zn (fun j b=>by
     rcases b with b|b
     ·exact .inl b
     ·exact .inr ⟨by omega,by have:=cz;omega⟩)
