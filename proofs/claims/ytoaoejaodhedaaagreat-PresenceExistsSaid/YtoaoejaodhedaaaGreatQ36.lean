import Derived.Test.YtoaoejaodhedaaaGreatQ35
import Derived.Deep.LoopGhost
namespace Go.Proofs.YtoaoejaodhedaaaGreat
open Go.RowKit
set_option maxHeartbeats 12800000
set_option maxRecDepth 100000
def KindPost (K:Int) (w:World) (r:Ending) (w':World):Prop:=r=.returned (.int .i64 K)∧Below w.heap.size w w'
theorem MsS.c17 {gm gl gj k:Nat} {P PL Q:Nat→Prop} {c:Cf} {sv:Value} {f:Fx} {y:Ms} {s:Lk} {w:World} (h:MsS gm gl gj k P PL Q c sv f y s w) (hb:y.b=true):w.cell? ⟨gm,17,none⟩=some (.pointer (some ⟨gj,0,none⟩)):=(bA h.at_ 17).trans (by
 show some (lkV y.b gj)=_
 rw[hb]
 rfl)
theorem MsS.c17n {gm gl gj k:Nat} {P PL Q:Nat→Prop} {c:Cf} {sv:Value} {f:Fx} {y:Ms} {s:Lk} {w:World} (h:MsS gm gl gj k P PL Q c sv f y s w) (hb:y.b=false):w.cell? ⟨gm,17,none⟩=some (.pointer none):=(bA h.at_ 17).trans (by
 show some (lkV y.b gj)=_
 rw[hb]
 rfl)
theorem maction_any {gm gl gj k:Nat} {P PL Q:Nat→Prop} {c:Cf} {sv:Value} {f:Fx} {y:Ms} {s:Lk} {w:World} (h:MsS gm gl gj k P PL Q c sv f y s w) (hb:y.b=true):Calls Tryz.prog 60 #[.pointer (some ⟨gm,0,none⟩)] w (KindPost y.x.kind w):=by
 have c17:=h.c17 hb;have HA:Hid (Calls Tryz.prog 61 #[.pointer (some ⟨gj,0,none⟩)] w (ActPost w y.x.kind y.x.when y.x.bytes)):=pk_action (h.pk hb);obtain⟨K,hK⟩:=gE y.x.kind;obtain⟨T,hT⟩:=gE y.x.when;obtain⟨F,hF⟩:=gE y.x.bytes;rw[hK,hT,hF] at HA;rw[hK];clear h hb hK hT hF;go_enter Tryz.func60,Tryz.ntmps60;go_wp2_with (go_at_call 61;(with_reducible refine HA.out.mono ?_);rintro r w1 ⟨a,c,rfl,hbs,hb1⟩;clear hbs;obtain⟨n,hn⟩:=gE F.length;rw[hn];have hfd:∀W,(Instr.field 136 (.agg #[.int .i64 K,.int .i64 T,.slice a n c]) 0).run Tryz.prog W=.ok (.int .i64 K) W:=(fun W=>by first|rfl|kernel_rfl);clear hn);go_ret;exact⟨rfl,hb1⟩
theorem mbusy_any {gm gl gj k:Nat} {P PL Q:Nat→Prop} {c:Cf} {sv:Value} {f:Fx} {y:Ms} {s:Lk} {w:World} (h:MsS gm gl gj k P PL Q c sv f y s w) (V:Bool) (hV:Hid ((y.b&&(y.x.kind !=3))=V)):Calls Tryz.prog 57 #[.pointer (some ⟨gm,0,none⟩)] w fun r w'=>r=.returned (.bool V)∧Below w.heap.size w w':=by
 cases hb:y.b with
 |false=>
  have c17:=h.c17n hb;have HE:Hid (false=V):=by have:=hV.out;rw[hb] at this;exact this
  clear h hb hV;go_enter Tryz.func57,Tryz.ntmps57;go_wp2;go_ret;exact⟨by rw[←HE.out];rfl,Below.refl _ _⟩
 |true=>
  have c17:=h.c17 hb;have HA:=bC (maction_any h hb);obtain⟨K,hK⟩:=gE y.x.kind;have HE:Hid ((K !=3)=V):=by have:=hV.out;rw[hb,hK] at this;exact this
  rw[hK] at HA;clear h hb hV hK;by_cases h3:K=3
  ·have g1:(K !=3)=false:=by rw[h3];rfl
   have HF:Hid (false=V):=by rw[←g1];exact HE.out
   clear HE h3;go_enter Tryz.func57,Tryz.ntmps57;go_wp2_with (go_at_call 60;(with_reducible refine HA.out.mono ?_);rintro r w1 ⟨rfl,hb1⟩);go_ret;exact⟨by rw[←HF.out];rfl,hb1⟩
  ·have g1:(K !=3)=true:=by rw[bne_iff_ne];exact h3
   have HF:Hid (true=V):=by rw[←g1];exact HE.out
   clear HE h3;go_enter Tryz.func57,Tryz.ntmps57;go_wp2_with (go_at_call 60;(with_reducible refine HA.out.mono ?_);rintro r w1 ⟨rfl,hb1⟩);go_ret;exact⟨by rw[←HF.out];rfl,hb1⟩
theorem MsS.base {gm gl gj gj' k k':Nat} {P P' PL PL' Q Q':Nat→Prop} {c:Cf} {sv:Value} {f:Fx} {y y':Ms} {s s':Lk} {W0 W:World} (h0:MsS gm gl gj k P PL Q c sv f y s W0) (h:MsS gm gl gj' k' P' PL' Q' c sv f y' s' W) (hk:Keeps P W0 W) (hp:∀j,P' j→GrowP P W0 W j):MsS gm gl gj' k' (GrowP P W0 W) PL' Q' c sv f y' s' W:=by
 have hX:∀Y,Keeps (GrowP P W0 W) W Y→Keeps P W0 Y:=fun Y hY=>hk.trans hY (fun j hj e=>by
  rcases e with e|e
  ·exact e
  ·omega)
 exact h.wider hp (fun j hj=>hj.lt h0.plt hk.size) (fun Y hY=>⟨h0.rgs Y (hX Y hY),h0.G.rd Y (hX Y hY)⟩)
def NxP (PL:Nat→Prop) (gl:Nat) (sv av:Value) (lp:Bool) (n':Ln) (V:Bool) (e:Ev) (w:World) (r:Ending) (w':World):Prop:=r=.returned (.tuple #[.agg #[.int .i64 e.t,.int .u8 (e.v.toNat:Int),.int .i64 e.fl],.bool V])∧LnAt (GrowP PL w w') w' gl sv av lp n'∧Keeps PL w w'
theorem LnAt.grow {P:Nat→Prop} {W W':World} {g:Nat} {sv av:Value} {lp:Bool} {s:Ln} (h:LnAt P W g sv av lp s) (hb:Below W.heap.size W W'):LnAt (GrowP P W W') W' g sv av lp s:=by
 obtain⟨tv,pv,cs,h⟩:=h;exact⟨tv,pv,cs,(h.keepB hb).mono (fun j=>.inl) (fun j hj=>hj.lt h.pl hb.size)⟩
theorem nx_any {PL:Nat→Prop} {w:World} {gl:Nat} {sv av:Value} {lp:Bool} {n:Ln} (h:LnAt PL w gl sv av lp n) (hok:n.ok) (lim:Int):
  ∃n' V e,(∀x:Tx,x.til=lim→(Du.mk n x).step=if V=true then ⟨n',x.chr e⟩ else ⟨n',x.sil⟩)∧n'.ok∧∀X,Below w.heap.size w X→Calls Tryz.prog 59 #[.pointer (some ⟨gl,0,none⟩),.int .i64 lim] X (NxP PL gl sv av lp n' V e X):=by
 have hkX:∀X,Below w.heap.size w X→LnAt PL X gl sv av lp n:=fun X hX=>h.keep (F:=fun _=>False) (Keeps.of_below hX) (fun _ _ e=>e)
 have hno:n.due lim=false→∀X,Below w.heap.size w X→Calls Tryz.prog 59 #[.pointer (some ⟨gl,0,none⟩),.int .i64 lim] X (NxP PL gl sv av lp n false ⟨0,0,0⟩ X):=fun hd X hX=>by
  refine(next_none (hkX X hX) lim hd).mono ?_;rintro r w' ⟨rfl,hb⟩;exact⟨rfl,(hkX X hX).grow hb,Keeps.of_below hb⟩
 cases hp:n.pend with
 |nil=>
  have hd:n.due lim=false:=by unfold Ln.due;rw[hp]
  exact⟨n,false,⟨0,0,0⟩,fun x _=>Du.step_nil hp,hok,hno hd⟩
 |cons c r=>
  by_cases hc:c.at_≤lim
  ·refine ⟨n.next c r,true,n.evE c,fun x hx=>?_,hok.next hp,fun X hX=>?_⟩
   ·rw [Du.step_in (y:=⟨n,x⟩) hp (by show c.at_≤x.til;omega)]
    rfl
   ·have hch:=hok.ch c (by rw[hp];exact List.mem_cons_self ..)
    refine(next_some (hkX X hX) hok c r hp lim hc).mono ?_;rintro e w' ⟨rfl,h1,h2⟩;exact⟨by rw[Ln.evE_val n hch];rfl,h1,h2⟩
  ·have hd:n.due lim=false:=by unfold Ln.due;rw[hp];exact decide_eq_false hc
   refine⟨n,false,⟨0,0,0⟩,fun x hx=>?_,hok,hno hd⟩;rw[Du.step_out (y:=⟨n,x⟩) hp (by show ¬c.at_≤x.til;omega)];rfl
theorem pk_act2 {g k:Nat} {P:Nat→Prop} {x:Tx} {s:Lk} {W:World} (h:PK g k P x s W) (hh:x.hears):Calls Tryz.prog 61 #[.pointer (some ⟨g,0,none⟩)] W fun r w'=>r=.returned (.agg #[.int .i64 2,.int .i64 x.til,.slice none 0 0])∧Below W.heap.size W w':=by
 obtain⟨-,n2,-⟩:=h.en hh;have hph:=h.ph;refine(action_listen g s W h.at_ (by unfold Tx.hears at hh;unfold Lk.hears;omega)).mono ?_;rintro r w' ⟨hr,hb⟩;exact⟨by rw[hr,n2],hb⟩
theorem Tx.kind2 (x:Tx) (h0:0≤x.ph) (h1:x.ph≤5):(x.kind==2)=hearB x:=by
 unfold Tx.kind hearB;by_cases a:x.ph=0
 ·rw [if_pos a,decide_eq_false (by omega)]
  rfl
 ·by_cases b:x.ph=1
  ·rw [if_neg a,if_pos b,decide_eq_false (by omega)]
   rfl
  ·by_cases d:x.ph=5
   ·rw [if_neg a,if_neg b,if_pos d,decide_eq_false (by omega)]
    rfl
   ·rw [if_neg a,if_neg b,if_neg d,decide_eq_true (by omega)]
    rfl
def EvMid (PL:Nat→Prop) (gl:Nat) (sv av:Value) (lp:Bool) (n':Ln) (V:Bool) (e:Ev) (w:World) (s4 s5:Value) (w':World):Prop:=∃eb,s4=.pointer (some ⟨eb,0,none⟩)∧s5=.bool V∧Hid (w'.heap[eb]?=some (.cells #[.int .i64 e.t,.int .u8 (e.v.toNat:Int),.int .i64 e.fl] 132)∧w.heap.size≤eb∧LnAt (GrowP PL w w') w' gl sv av lp n'∧Keeps PL w w')
def LisPost (gm gl gj:Nat) (P:Nat→Prop) (c:Cf) (sv:Value) (f:Fx) (d:Du) (st:Int) (kk:Nat) (w:World) (r:Ending) (w':World):Prop:=
 ∃da dc oa oc k' PL' Q' s',r=.returned (.tuple #[.agg #[.int .i64 d.x.shown.verdict,.int .i64 d.x.shown.reply.fn,.int .i64 d.x.shown.reply.exc,.slice da d.x.shown.reply.data.length dc,.int .i64 d.x.shown.reply.code,.int .i64 d.x.shown.reply.level,.bool d.x.shown.reply.more,.int .i64 d.x.shown.reply.next,.slice oa d.x.shown.reply.objs.length oc],.bool (decide (d.x.ph=5))])∧(∀X,Agree w.heap.size w' X→RpIs X d.x.shown.reply da dc oa oc)∧MsS gm gl gj k' (GrowP P w w') PL' Q' c sv f ⟨d.n,true,d.x,st,d.x.now⟩ s' w'∧Keeps P w w'∧k'≤kk
theorem info9m:(Tryz.prog.info? 55).map (·.size)=some 9:=by kernel_rfl
theorem mlisten_any {gm gl gj k:Nat} {P PL Q:Nat→Prop} {c:Cf} {sv:Value} {f:Fx} {y:Ms} {s:Lk} {w:World} (h:MsS gm gl gj k P PL Q c sv f y s w) (hb:y.b=true) (hh:y.x.hears) (hkk:k+(Du.mk y.n y.x).mu≤1000000000):Calls Tryz.prog 23 #[.pointer (some ⟨gm,0,none⟩)] w (LisPost gm gl gj P c sv f (Du.mk y.n y.x).heard y.set (k+(Du.mk y.n y.x).mu) w):=by
 obtain⟨W1,hW1⟩:∃W,w.alloc (.cells #[.int .i64 0,.int .i64 0,.int .i64 0,.slice none 0 0,.int .i64 0,.int .i64 0,.bool false,.int .i64 0,.slice none 0 0] 55)=W:=⟨_,rfl⟩
 have hb1:Below w.heap.size w W1:=by rw[←hW1];exact bH w _
 have hz1:W1.heap.size=w.heap.size+1:=by rw[←hW1];simp
 have pZ:W1.heap[w.heap.size]?=some (.cells #[.int .i64 0,.int .i64 0,.int .i64 0,.slice none 0 0,.int .i64 0,.int .i64 0,.bool false,.int .i64 0,.slice none 0 0] 55):=by rw[←hW1];exact bI w _
 have h1:=h.keepB hb1;have hkind:(y.x.kind !=2)=false:=by
  have e:=y.x.kind2 (h.pk hb).ok.ph0 (h.pk hb).ok.ph1;rw[(hearB_iff y.x).2 hh] at e;rw[bne,e];rfl
 have c17:=h1.c17 hb;have HAC:=bC (maction_any h1 hb);obtain⟨KD,hKD⟩:=gE y.x.kind;rw[hKD] at HAC hkind;obtain⟨d,hd⟩:=gE ((Du.mk y.n y.x).heard);obtain⟨M,hM⟩:∃M,k+(Du.mk y.n y.x).mu=M:=⟨_,rfl⟩
 rw[hd,hM];rw[hM] at hkk;have HW1:=bC hW1;have HB1:=bC hb1;have HZ1:=bC hz1;have HPZ:=bC pZ;have H0:=bC h;have H1:=bC h1;have HD:=bC hd;have HM0:=bC hM;have HYB:=bC hb;have HYH:=bC hh;clear h h1 hW1 hb1 hz1 pZ hd hM hb hh hKD;go_enter Tryz.func23,Tryz.ntmps23;go_upto_region 1 with(fail)
 rw[HW1.out];go_upto_region 3 with(go_at_call 60;(with_reducible refine HAC.out.mono ?_);rintro r w2 ⟨rfl,hb2⟩)
 have HB2:=bC hb2;clear c17 HAC hkind hb2;go_loopg [] M (fun gk0 wr=>∃(cur:Du) (k1:Nat) (PL1 Q1:Nat→Prop) (s1:Lk),Hid (MsS gm gl gj k1 (GrowP P W1 wr) PL1 Q1 c sv f ⟨cur.n,true,cur.x,y.set,y.now⟩ s1 wr∧Keeps P W1 wr∧wr.heap[w.heap.size]?=some (.cells #[.int .i64 0,.int .i64 0,.int .i64 0,.slice none 0 0,.int .i64 0,.int .i64 0,.bool false,.int .i64 0,.slice none 0 0] 55)∧cur.heard=d∧k1+cur.mu≤M∧cur.mu≤gk0))
 case atStart=>
  have hb2:=HB2.out;have hk12:Keeps P W1 w2:=Keeps.of_below hb2;have hyy:(⟨y.n,true,y.x,y.set,y.now⟩:Ms)=y:=by
   have e:=HYB.out;cases y;dsimp only at e;rw[e]
  refine⟨⟨y.n,y.x⟩,k,PL,Q,s,?_,hk12,bB HPZ.out hb2,HD.out,by rw[HM0.out];exact Nat.le_refl _,by have:=HM0.out;show (Du.mk y.n y.x).mu≤M;omega⟩;dsimp only;rw[hyy];exact H1.out.base (H1.out.keepB hb2) hk12 (fun j hj=>.inl hj)
 case round=>
  obtain⟨cur,k1,PL1,Q1,s1,HR⟩:=hrel;obtain⟨cn,cx⟩:=cur;have HMS:=bC HR.out.1;have c17:=HMS.out.c17 rfl;have HAC:=bC (maction_any HMS.out rfl);have hkd:=Tx.kind2 cx (HMS.out.pk rfl).ok.ph0 (HMS.out.pk rfl).ok.ph1;obtain⟨KD,hKD⟩:=gE cx.kind;have HAC:Hid (Calls Tryz.prog 60 #[.pointer (some ⟨gm,0,none⟩)] wr (KindPost KD wr)):=by rw[←hKD];exact HAC.out
  rw[hKD] at hkd;clear hKD;cases hhb:hearB cx with
  |true=>
   have hx:cx.hears:=(hearB_iff cx).1 hhb;rw[hhb] at hkd;go_upto_region 4 with(go_at_call 60;(with_reducible refine HAC.out.mono ?_);rintro r w2' ⟨rfl,hb2'⟩)
   have HM2:=bC (HMS.out.keepB hb2');obtain⟨n',V,e,hst,hnok,hnx⟩:=nx_any HM2.out.ln HM2.out.nok cx.til;obtain⟨TL,hTL⟩:=gE cx.til;rw[hTL] at hnx;have HNX:Hid (∀X,Below w2'.heap.size w2' X→Calls Tryz.prog 59 #[.pointer (some ⟨gl,0,none⟩),.int .i64 TL] X (NxP PL1 gl (.slice f.la f.ln f.lc) (.slice f.aa f.an f.ac) f.lp n' V e X)):=hnx;have HST:=bC (hst cx rfl);have HKA:Hid (∀X,Below w2'.heap.size w2' X→Calls Tryz.prog 61 #[.pointer (some ⟨gj,0,none⟩)] X fun r w'=>r=.returned (.agg #[.int .i64 2,.int .i64 TL,.slice none 0 0])∧Below X.heap.size X w'):=fun X hX=>by
    rw[←hTL];exact pk_act2 ((HM2.out.pk rfl).keeps (Q:=fun _=>False) (Keeps.of_below hX) (fun _ _ e=>e)) hx
   have hfd:∀W,(Instr.field 136 (.agg #[.int .i64 2,.int .i64 TL,.slice none 0 0]) 1).run Tryz.prog W=.ok (.int .i64 TL) W:=fun W=>by first|rfl|kernel_rfl
   have HHX:=bC hx;have HNOK:=bC hnok;have y16:∀X,Keeps PL1 w2' X→X.cell? ⟨gm,16,none⟩=some (.pointer (some ⟨gl,0,none⟩)):=fun X hX=>(bA (bG HM2.out.at_ hX HM2.out.gm1) 16).trans rfl
   have y17:∀X,Keeps PL1 w2' X→X.cell? ⟨gm,17,none⟩=some (.pointer (some ⟨gj,0,none⟩)):=fun X hX=>(bA (bG HM2.out.at_ hX HM2.out.gm1) 17).trans rfl
   have kD:Below w2'.heap.size w2' w2'.drew:=(Below.refl _ _).drew;have kS:Keeps PL1 w2' w2'.drew:=Keeps.of_below kD;clear c17 HAC hkd hhb hx hst hnok hnx hTL;go_cut [4,5] from 24 to 38 (fun s4 s5 wc=>EvMid PL1 gl (.slice f.la f.ln f.lc) (.slice f.aa f.an f.ac) f.lp n' V e w2' s4 s5 wc)
   case first=>
    refine wp_region_held_drew (S:=fun V=>Keeps PL1 w2' V) (by kernel_rfl) kS (fun hH=>?_);clear hH;refine tG 0 25 ?_;refine tG 1 26 ?_;refine tG 2 27 ?_;refine tG 3 28 ?_;refine tG 4 29 ?_;refine tG 5 30 ?_;refine tG 6 31 ?_;refine tG 7 32 ?_;refine wpAnyH_ready (rs:=[8,14]) (by kernel_rfl) (by simp) ?_;refine AllReadyH.cons rfl (fun K hK=>?_) (AllReadyH.cons rfl (fun K hK=>?_) AllReadyH.nil)
    ·go_simp
     refine(HKA.out _ kD).mono ?_;rintro r x1 ⟨rfl,hx1⟩;have hB1:=bU kD hx1;have kS1:Keeps PL1 w2' x1:=Keeps.of_below hB1;refine hK.out _ _ kS1 (fun hSx=>?_);clear hK K hSx;refine tG 9 34 ?_;refine wpAnyH_ready (rs:=[10,14]) (by kernel_rfl) (by simp) ?_;refine AllReadyH.cons rfl (fun K hK=>?_) (AllReadyH.cons rfl (fun K hK=>?_) AllReadyH.nil)
     ·go_simp
      refine(HNX.out _ hB1).mono ?_;rintro r x2 ⟨rfl,hl2,hk2⟩;have kS2:Keeps PL1 w2' x2:=kS1.trans hk2 (fun _ _ e=>e);refine hK.out _ _ kS2 (fun hSx=>?_);clear hK K hSx;refine tG 11 24 ?_;refine tG 12 36 ?_;refine tG 13 37 ?_;refine bM 14 rfl (fun K hK=>?_);go_simp;have kS3:Keeps PL1 w2' (x2.alloc (.cells #[.int .i64 0,.int .u8 0,.int .i64 0] 132)):=kS2.trans (Keeps.of_below (bH x2 _)) (fun _ _ e=>e);refine hK.out _ _ kS3 (fun hSx=>?_);clear hK K hSx;refine bM 15 rfl (fun K hK=>?_);refine bR rfl 132 (.tmp 4) (.tmp 36) rfl x2.heap.size 0 _ 132 #[.int .i64 e.t,.int .u8 (e.v.toNat:Int),.int .i64 e.fl] rfl rfl (bI x2 (.cells #[.int .i64 0,.int .u8 0,.int .i64 0] 132)) (by simp) infoEvW rfl ?_;intro x5 g5 hk5 hz5;have hkk:Below x2.heap.size x2 x5:=(bH x2 (.cells #[.int .i64 0,.int .u8 0,.int .i64 0] 132)).trans (hk5.below (by simp) (fun i hi e=>by omega));have kS5:Keeps PL1 w2' x5:=kS2.trans (Keeps.of_below hkk) (fun _ _ e=>e);have z2:=hk2.size;have zz:=hkk.size;have hl5:Hid (LnAt (GrowP PL1 w2' x5) x5 gl (.slice f.la f.ln f.lc) (.slice f.aa f.an f.ac) f.lp n'):=(hl2.grow hkk).widen (fun j hj=>(GrowP.trans hj z2 zz).later hB1.size) (fun j hj=>hj.lt HM2.out.ln.lts kS5.size);refine hK.out _ _ kS5 (fun hSx=>?_);clear hK K hSx
      (try dsimp only[Act.put]);refine tkE 16 5 rfl rfl ?_;(try simp only[cA])
      refine wpAnyH_done (by kernel_rfl) ?_ _;go_wp2;go_meet
      case rel=>exact⟨x2.heap.size,rfl,rfl,g5,by have:=hB1.size;omega,hl5.out,kS5⟩
     ·go_simp
      have hB2:Below w2'.heap.size w2' (x1.alloc (.cells #[.int .i64 0,.int .u8 0,.int .i64 0] 132)):=cJ hB1 (Nat.le_refl _) _;have kS2:Keeps PL1 w2' (x1.alloc (.cells #[.int .i64 0,.int .u8 0,.int .i64 0] 132)):=Keeps.of_below hB2;refine hK.out _ _ kS2 (fun hSx=>?_);clear hK K hSx;refine bM 10 rfl (fun K hK=>?_);go_simp;refine(HNX.out _ hB2).mono ?_;rintro r x2 ⟨rfl,hl2,hk2⟩;have kS3:Keeps PL1 w2' x2:=kS2.trans hk2 (fun _ _ e=>e);have p2:x2.heap[x1.heap.size]?=some (.cells #[.int .i64 0,.int .u8 0,.int .i64 0] 132):=bG (bI x1 _) hk2 (fun e=>by have:=HM2.out.ln.lts _ e;have:=hB1.size;omega);refine hK.out _ _ kS3 (fun hSx=>?_);clear hK K hSx;refine tG 11 24 ?_;refine tG 12 36 ?_;refine tG 13 37 ?_;refine bM 15 rfl (fun K hK=>?_);refine bR rfl 132 (.tmp 4) (.tmp 36) rfl x1.heap.size 0 _ 132 #[.int .i64 e.t,.int .u8 (e.v.toNat:Int),.int .i64 e.fl] rfl rfl p2 (by simp) infoEvW rfl ?_;intro x5 g5 hk5 hz5;have kS5:Keeps PL1 w2' x5:=kS3.trans (hk5.mono (F:=(· =x1.heap.size)) (G:=fun j=>j=x1.heap.size) (fun _ _ e=>e)) (fun i hi e=>by have e':i=x1.heap.size:=e;have:=hB1.size;omega);have hl5:Hid (LnAt (GrowP PL1 w2' x5) x5 gl (.slice f.la f.ln f.lc) (.slice f.aa f.an f.ac) f.lp n'):=(hl2.keep hk5 (fun j hj e=>by
       have e':j=x1.heap.size:=e
       rcases hj with hj|hj
       ·have:=HM2.out.ln.lts _ hj;have:=hB1.size;omega
       ·have h3:=hj.1
        rw[World.size_alloc] at h3
        omega)).widen (fun j hj=>by
       rcases hj with hj|hj
       ·exact .inl hj
       ·exact .inr ⟨Nat.le_trans hB2.size hj.1,by rw[hz5];exact hj.2⟩) (fun j hj=>hj.lt HM2.out.ln.lts kS5.size)
      refine hK.out _ _ kS5 (fun hSx=>?_);clear hK K hSx
      (try dsimp only[Act.put]);refine tkE 16 5 rfl rfl ?_;(try simp only[cA])
      refine wpAnyH_done (by kernel_rfl) ?_ _;go_wp2;go_meet
      case rel=>exact⟨x1.heap.size,rfl,rfl,g5,hB1.size,hl5.out,kS5⟩
    ·go_simp
     have hB1:Below w2'.heap.size w2' (w2'.alloc (.cells #[.int .i64 0,.int .u8 0,.int .i64 0] 132)).drew:=(bH w2' _).drew;have kS1:Keeps PL1 w2' (w2'.alloc (.cells #[.int .i64 0,.int .u8 0,.int .i64 0] 132)).drew:=Keeps.of_below hB1;refine hK.out _ _ kS1 (fun hSx=>?_);clear hK K hSx;refine bM 8 rfl (fun K hK=>?_);go_simp;refine(HKA.out _ hB1).mono ?_;rintro r x1 ⟨rfl,hx1⟩;have hB2:=bU hB1 hx1;have kS2:Keeps PL1 w2' x1:=Keeps.of_below hB2;have p1:x1.heap[w2'.heap.size]?=some (.cells #[.int .i64 0,.int .u8 0,.int .i64 0] 132):=bB (w:=(w2'.alloc (.cells #[.int .i64 0,.int .u8 0,.int .i64 0] 132)).drew) (bI w2' _) hx1;refine hK.out _ _ kS2 (fun hSx=>?_);clear hK K hSx;refine tG 9 34 ?_;refine bM 10 rfl (fun K hK=>?_);go_simp;refine(HNX.out _ hB2).mono ?_;rintro r x2 ⟨rfl,hl2,hk2⟩;have kS3:Keeps PL1 w2' x2:=kS2.trans hk2 (fun _ _ e=>e);have p2:x2.heap[w2'.heap.size]?=some (.cells #[.int .i64 0,.int .u8 0,.int .i64 0] 132):=bG p1 hk2 (fun e=>by have:=HM2.out.ln.lts _ e;omega);have hlz:=cI p1;refine hK.out _ _ kS3 (fun hSx=>?_);clear hK K hSx;refine tG 11 24 ?_;refine tG 12 36 ?_;refine tG 13 37 ?_;refine bM 15 rfl (fun K hK=>?_);refine bR rfl 132 (.tmp 4) (.tmp 36) rfl w2'.heap.size 0 _ 132 #[.int .i64 e.t,.int .u8 (e.v.toNat:Int),.int .i64 e.fl] rfl rfl p2 (by simp) infoEvW rfl ?_;intro x5 g5 hk5 hz5;have kS5:Keeps PL1 w2' x5:=kS3.trans hk5 (fun i hi e=>by have e':i=w2'.heap.size:=e;omega);have hl5:Hid (LnAt (GrowP PL1 w2' x5) x5 gl (.slice f.la f.ln f.lc) (.slice f.aa f.an f.ac) f.lp n'):=(hl2.keep hk5 (fun j hj e=>by
      have e':j=w2'.heap.size:=e
      rcases hj with hj|hj
      ·have:=HM2.out.ln.lts _ hj;omega
      ·have h3:=hj.1
       omega)).widen (fun j hj=>by
      rcases hj with hj|hj
      ·exact .inl hj
      ·exact .inr ⟨Nat.le_trans hB2.size hj.1,by rw[hz5];exact hj.2⟩) (fun j hj=>hj.lt HM2.out.ln.lts kS5.size)
     refine hK.out _ _ kS5 (fun hSx=>?_);clear hK K hSx
     (try dsimp only[Act.put]);refine tkE 16 5 rfl rfl ?_;(try simp only[cA])
     refine wpAnyH_done (by kernel_rfl) ?_ _;go_wp2;go_meet
     case rel=>exact⟨w2'.heap.size,rfl,rfl,g5,Nat.le_refl _,hl5.out,kS5⟩
   case rest=>
    obtain⟨WA,hWA⟩:∃W,W=wc:=⟨_,rfl⟩
    subst hWA;obtain⟨eb,rfl,rfl,HEV⟩:=hcut;have HB2':=bC hb2';have HOZ:Hid (¬PL1 w.heap.size∧¬Q1 w.heap.size):=by
     have hno:¬GrowP P W1 wr w.heap.size:=fun e=>by
      rcases e with e|e
      ·have:=H0.out.plt _ e
       omega
      ·have:=HZ1.out
       omega
     exact⟨fun e=>hno (HMS.out.pl _ e),fun e=>hno (HMS.out.pq _ e)⟩
    have HM3:=bC (HM2.out.line HEV.out.2.2.1 HEV.out.2.2.2 HNOK.out).1;have HK3:=bC (HM2.out.line HEV.out.2.2.1 HEV.out.2.2.2 HNOK.out).2;have HOC:Hid (WA.heap[w.heap.size]?=some (.cells #[.int .i64 0,.int .i64 0,.int .i64 0,.slice none 0 0,.int .i64 0,.int .i64 0,.bool false,.int .i64 0,.slice none 0 0] 55)):=bG (bB HR.out.2.2.1 hb2') HEV.out.2.2.2 HOZ.out.1;have HKB:Hid (k1≤1000000000):=by have:=HR.out.2.2.2.2.1;show _≤_;omega
    have HMU:Hid ((Du.mk cn cx).step.mu<(Du.mk cn cx).mu∧(Du.mk cn cx).step.heard=d):=⟨Du.step_mu HHX.out,by rw[Du.heard_step ((hearB_iff _).2 HHX.out)];exact HR.out.2.2.2.1⟩
    have HEND:Hid (∀(X w4:World) (x':Tx) (s':Lk),Below WA.heap.size WA X→X.heap.size=WA.heap.size→(Du.mk cn cx).step=⟨n',x'⟩→PK gj (k1+1) (Grow Q1 X w4) x' s' w4→Keeps Q1 X w4→MsS gm gl gj (k1+1) (GrowP P W1 w4) (GrowP PL1 w2' WA) (Grow Q1 X w4) c sv f ⟨n',true,x',y.set,y.now⟩ s' w4∧Keeps P W1 w4∧w4.heap[w.heap.size]?=some (.cells #[.int .i64 0,.int .i64 0,.int .i64 0,.slice none 0 0,.int .i64 0,.int .i64 0,.bool false,.int .i64 0,.slice none 0 0] 55)∧(Du.mk n' x').heard=d∧k1+1+(Du.mk n' x').mu≤M∧(Du.mk n' x').mu<gk):=fun X w4 x' s' hd0 hxz hse hpk hkq=>by
     obtain⟨b1,b2⟩:=(HM3.out.keepB hd0).link hpk hkq;have z1:=HR.out.2.1.size;have z2:=HB2'.out.size;have z3:=HEV.out.2.2.2.size;have z4:WA.heap.size≤w4.heap.size:=by have:=hkq.size;omega
     have hall:Keeps P W1 w4:=((HR.out.2.1.trans (Keeps.of_below HB2'.out) (fun _ _ e=>e)).trans HK3.out (fun j hj e=>by
      rcases e with e|e
      ·exact e
      ·omega)).trans ((Keeps.of_below hd0).trans b2 (fun _ _ e=>e)) (fun j hj e=>by
      rcases e with(e|e)|e
      ·exact e
      ·omega
      ·omega)
     rw[hse] at HMU;obtain⟨m1,m2⟩:=HMU.out;have m3:=HR.out.2.2.2.2;refine⟨H1.out.base b1 hall (fun j hj=>?_),hall,bG (bB HOC.out hd0) hkq HOZ.out.2,m2,by omega,by omega⟩;rcases hj with((hj|hj)|hj)|hj
     ·exact .inl hj
     ·exact .inr ⟨hj.1,by omega⟩
     ·exact .inr ⟨by omega,by omega⟩
     ·have h1:=hj.1
      exact .inr ⟨by omega,hj.2⟩
    have x17:∀X,Below WA.heap.size WA X→X.cell? ⟨gm,17,none⟩=some (.pointer (some ⟨gj,0,none⟩)):=fun X hX=>bD hX (HM3.out.c17 rfl)
    have kD:Below WA.heap.size WA WA.drew:=(Below.refl _ _).drew;clear y16 y17 kS hfd hb2';cases V with
    |true=>
     have HCH:Hid (Calls Tryz.prog 62 #[.pointer (some ⟨gj,0,none⟩),.agg #[.int .i64 e.t,.int .u8 (e.v.toNat:Int),.int .i64 e.fl]] WA.drew (PStep gj (k1+1) Q1 (cx.chr e) (cx.chrE e) WA.drew)):=pk_char ((HM3.out.pk rfl).keeps (Q:=fun _=>False) (Keeps.of_below kD) (fun _ _ e=>e)) HHX.out HKB.out e;obtain⟨CE,hCE⟩:∃C:Array Value,(#[.int .i64 e.t,.int .u8 (e.v.toNat:Int),.int .i64 e.fl]:Array Value)=C:=⟨_,rfl⟩
     have hci:(Tryz.prog.info? 132).map (·.size)=some CE.size:=by rw[←hCE];exact infoEvW
     have hebq:¬Q1 eb:=fun e=>by
      have h1:=HMS.out.qlt _ e;have h2:=HEV.out.2.1;have h3:=HB2'.out.size;omega
     have HRW:Hid (∀X,Keeps Q1 WA X→∀j u,CE.toList[j]?=some u→X.cell? ((⟨eb,0,none⟩:Addr).add j)=some u):=fun X hX j u hj=>by
      rw[Addr.add_lit,Nat.zero_add,bA (bG HEV.out.1 hX hebq),hCE];simpa using hj
     have x17q:∀X,Keeps Q1 WA X→X.cell? ⟨gm,17,none⟩=some (.pointer (some ⟨gj,0,none⟩)):=fun X hX=>(bA (bG HM3.out.at_ hX HM3.out.gm2) 17).trans rfl
     have kQ:Keeps Q1 WA WA.drew:=Keeps.of_below kD;rw[hCE] at HCH;clear hCE hebq x17;go_upto_region 6 with(fail)
     refine wp_region_held_drew (S:=fun V=>Keeps Q1 WA V) (by kernel_rfl) kQ (fun hH=>?_);clear hH;refine tG 0 39 ?_;refine tG 1 40 ?_;refine tG 2 41 ?_;refine tG 3 42 ?_;refine cR 4 43 (v:=.agg CE) rfl (by kernel_rfl) (fun _ _ _ h=>h) rfl (by rfl) (by assumption) (fun X hX=>cB 132 (.tmp 4) rfl ⟨eb,0,none⟩ rfl CE _ (HRW.out X hX) Tryz.underlying132 rfl hci) ?_;simp only[cA];refine bM 5 rfl (fun K hK=>?_);go_simp;refine HCH.out.mono ?_;rintro r w4 ⟨s',rfl,hpk,hkq⟩;have hE:=HEND.out WA.drew w4 _ s' kD rfl (by rw[HST.out];rfl) hpk hkq;have HE:=bC hE;have kS4:Keeps Q1 WA w4:=kQ.trans hkq (fun _ _ e=>e);clear hE hpk hkq;refine hK.out _ _ kS4 (fun hSx=>?_);clear hK K hSx;refine wpAnyH_done (by kernel_rfl) ?_ _;go_wp2;go_roundg (Du.mk n' (cx.chr e)).mu
     case measure=>exact HE.out.2.2.2.2.2
     case rel=>exact⟨⟨n',cx.chr e⟩,k1+1,_,_,s',HE.out.1,HE.out.2.1,HE.out.2.2.1,HE.out.2.2.2.1,HE.out.2.2.2.2.1,Nat.le_refl _⟩
    |false=>
     have HSI:Hid (Calls Tryz.prog 63 #[.pointer (some ⟨gj,0,none⟩)] WA (PStep gj (k1+1) Q1 cx.sil 0 WA)):=pk_silence (HM3.out.pk rfl) HHX.out HKB.out;have x17':WA.cell? ⟨gm,17,none⟩=some (.pointer (some ⟨gj,0,none⟩)):=x17 _ (Below.refl _ _);go_wp2_with (go_at_call 63;(with_reducible refine HSI.out.mono ?_);rintro r w4 ⟨s',rfl,hpk,hkq⟩;have HE:=bC (HEND.out WA w4 _ s' (Below.refl _ _) rfl (by rw[HST.out];rfl) hpk hkq);clear hpk hkq);go_roundg (Du.mk n' cx.sil).mu
     case measure=>exact HE.out.2.2.2.2.2
     case rel=>exact⟨⟨n',cx.sil⟩,k1+1,_,_,s',HE.out.1,HE.out.2.1,HE.out.2.2.1,HE.out.2.2.2.1,HE.out.2.2.2.2.1,Nat.le_refl _⟩
  |false=>
   rw[hhb] at hkd;have hdc:(⟨cn,cx⟩:Du)=d:=by rw[←HR.out.2.2.2.1];exact(Du.heard_not hhb).symm
   have hnow:=bC (fun (X:World) (hX:Below wr.heap.size wr X)=>pk_now (((HMS.out.pk rfl).keeps (Q:=fun _=>False) (Keeps.of_below hX) (fun _ _ e=>e))));have HDC:=bC hdc;clear hhb hdc;go_upto_region 8 with(go_at_call 60;(with_reducible refine HAC.out.mono ?_);rintro r w2' ⟨rfl,hb2'⟩)
   have HM2:=bC (HMS.out.keepB hb2');have HB2':=bC hb2';have x17:w2'.cell? ⟨gm,17,none⟩=some (.pointer (some ⟨gj,0,none⟩)):=HM2.out.c17 rfl;have x19:w2'.cell? ⟨gm,19,none⟩=some (.int .i64 y.now):=bA HM2.out.at_ 19;have f19:w2'.frozen? ⟨gm,19,none⟩=false:=bJ HM2.out.at_ 19;have HNW:=bC (hnow.out w2' hb2');obtain⟨NW,hNW⟩:=gE cx.now;rw[hNW] at HNW;have HNWE:=bC hNW;clear c17 hkd hb2' hnow hNW;go_upto_region 9 with(go_at_call 64;(with_reducible refine HNW.out.mono ?_);rintro r w3 ⟨rfl,rfl⟩)
   obtain⟨W8,hW8⟩:∃W,w2'.setCell ⟨gm,19,none⟩ (.int .i64 NW)=W:=⟨_,rfl⟩
   rw[hW8];have hks:Keeps (· =gm) w2' W8:=by rw[←hW8];exact ks1 (Keeps.refl (· =gm) w2') 19 _
   have hset:W8.heap[gm]?=some (.cells (MC c sv gl (lkV true gj) y.set NW) 129):=by rw[←hW8];exact bS HM2.out.at_ rfl
   have H8:=bC (HM2.out.own (b':=true) (gj':=gj) (k':=k1) (Q':=Q1) (x':=cx) (s':=s1) (st':=y.set) (now':=NW) hks hset (fun _=>HM2.out.pk rfl) (fun j hj=>⟨HM2.out.qlt j hj,fun e=>HM2.out.dis j e hj,fun e=>HM2.out.gm2 (e▸hj),HM2.out.pq j hj⟩));have HKO:=bC (pk_outcome (H8.out.1.pk rfl));have z17:W8.cell? ⟨gm,17,none⟩=some (.pointer (some ⟨gj,0,none⟩)):=H8.out.1.c17 rfl;have hgo:¬w.heap.size=gm:=fun e=>by
    have:=H0.out.plt gm H0.out.pm;omega
   have p8:W8.heap[w.heap.size]?=some (.cells #[.int .i64 0,.int .i64 0,.int .i64 0,.slice none 0 0,.int .i64 0,.int .i64 0,.bool false,.int .i64 0,.slice none 0 0] 55):=bG (bB HR.out.2.2.1 HB2'.out) hks hgo;obtain⟨V5,hV5⟩:∃V,decide (cx.ph=5)=V:=⟨_,rfl⟩
   obtain⟨O,hO⟩:=gE cx.shown;rw[hV5,hO] at HKO;have HP8:=bC p8;have HKS:=bC hks;have HVO:=bC (And.intro hV5 hO);clear x17 x19 f19 hks hset p8 hW8 hV5 hO;go_wp2_with (first
    |(go_at_call 65;(with_reducible refine HKO.out.mono ?_);rintro r w9 ⟨da,dc,oa,oc,rfl,hrd,hb9⟩;have p9:=bB HP8.out hb9;have HRD:=bC hrd;have HB9:=bC hb9;clear hrd hb9)
    |(refine bE rfl 55 (.tmp 2) (.tmp 63) rfl w.heap.size 0 _ 55 #[.int .i64 O.verdict,.int .i64 O.reply.fn,.int .i64 O.reply.exc,.slice da O.reply.data.length dc,.int .i64 O.reply.code,.int .i64 O.reply.level,.bool O.reply.more,.int .i64 O.reply.next,.slice oa O.reply.objs.length oc] rfl rfl p9 (by simp) info9m rfl ?_;intro wA gA hkA hzA))
   have gA':wA.heap[w.heap.size]?=some (.cells #[.int .i64 O.verdict,.int .i64 O.reply.fn,.int .i64 O.reply.exc,.slice da O.reply.data.length dc,.int .i64 O.reply.code,.int .i64 O.reply.level,.bool O.reply.more,.int .i64 O.reply.next,.slice oa O.reply.objs.length oc] 55):=gA;refine bodyPost_ret (bV rfl _ _ w.heap.size 55 _ (0,0) _ rfl gA' Tryz.underlying55 rfl info9m) rfl ?_;have hdd:=HDC.out;obtain⟨e1,e2⟩:=HVO.out;have z0:=HB1.out.size;have zr:=HR.out.2.1.size;have z2:=HB2'.out.size;have z8:=HKS.out.size;have z9:=HB9.out.size;have hk18:Keeps P W1 W8:=(HR.out.2.1.trans (Keeps.of_below HB2'.out) (fun _ _ e=>e)).trans H8.out.2 (fun j hj e=>by
    rcases e with e|e
    ·exact e
    ·omega)
   have hk09:Keeps P w wA:=(((Keeps.of_below HB1.out).trans hk18 (fun _ _ e=>e)).trans (Keeps.of_below HB9.out) (fun _ _ e=>e)).trans hkA (fun j hj e=>by
    have e':j=w.heap.size:=e
    omega)
   have hA:MsS gm gl gj k1 (GrowP P W1 wr) PL1 Q1 c sv f ⟨cn,true,cx,y.set,NW⟩ s1 wA:=by
    have h9:=H8.out.1.keepB HB9.out;refine h9.keep hkA (fun j hj e=>?_) (fun Y hY=>?_)
    ·have e':j=w.heap.size:=e
     rcases hj with hj|hj
     ·have:=H0.out.plt j hj
      omega
     ·have:=HZ1.out
      omega
    ·have hkY:Keeps P w Y:=hk09.trans hY (fun j hj e=>by
      rcases e with e|e
      ·exact e
      ·omega)
     exact⟨H0.out.rgs Y hkY,H0.out.G.rd Y hkY⟩
   refine⟨da,dc,oa,oc,k1,PL1,Q1,s1,?_,fun X hX=>?_,?_,hk09,by have:=HR.out.2.2.2.2.1;omega⟩
   ·rw [←hdd]
    show _=Ending.returned (.tuple #[.agg #[.int .i64 cx.shown.verdict,.int .i64 cx.shown.reply.fn,.int .i64 cx.shown.reply.exc,.slice da cx.shown.reply.data.length dc,.int .i64 cx.shown.reply.code,.int .i64 cx.shown.reply.level,.bool cx.shown.reply.more,.int .i64 cx.shown.reply.next,.slice oa cx.shown.reply.objs.length oc],.bool (decide (cx.ph=5))]);rw[e1,e2];rfl
   ·rw [←hdd]
    show RpIs X cx.shown.reply da dc oa oc;rw[e2];refine HRD.out X (Agree.trans (B:=W8.heap.size) (Agree.of_keeps (B:=W8.heap.size) hkA (fun j e=>by have e':j=w.heap.size:=e;have:=cI HP8.out;omega)) (hX.mono (by omega)))
   ·rw [←hdd]
    show MsS gm gl gj k1 (GrowP P w wA) PL1 Q1 c sv f ⟨cn,true,cx,y.set,cx.now⟩ s1 wA;rw[HNWE.out];exact H0.out.base hA hk09 (fun j hj=>by
     rcases hj with hj|hj
     ·exact .inl hj
     ·exact .inr ⟨by omega,by have:=hzA;omega⟩)
end Go.Proofs.YtoaoejaodhedaaaGreat
