import Derived.Test.YtoaoejaodhedaaaGreatT19
namespace Go.Proofs.YtoaoejaodhedaaaGreat
open Go.RowKit
open Value renaming slice→J,int→U
open Option renaming none→M,some→N
open IntKind renaming i64→Z
open Obj renaming cells→Y
open Ending renaming returned→O
set_option maxHeartbeats 12800000
set_option maxRecDepth 100000
variable {b c c7 g k n:Nat} {F G H:Nat→Prop} {rv:Nat→Value} {s x:Sl} {av ov sv:Value} {W W' X w w':World}
def Ia (sv av:Value) (lp:Bool) (cv tv pv:Value) (free:Int) (hd:Bool) (la:Int):Array Value:=#[sv,av,.bool lp,cv,tv,pv,U Z free,.bool hd,U Z la]
theorem Ji:(Tryz.prog.info? 68).map (fun i=>(i.zero,i.size,i.bytes))=N (N (.agg #[U Z 0,U Z 0,U Z 0,.bool false,J none 0 0,U Z 0,.bool false,J none 0 0,U Z 0,.bool false,J none 0 0,U Z 0,.bool false,J none 0 0,U Z 0,U Z 0,J none 0 0,.bool false,J none 0 0]),19,248):=by kernel_rfl
theorem Qf (h:s.val):Qs s:=by
 have j:s.ag.length≤16:=by
  by_cases e:0<s.lv
  ·exact (h.on e).1
  ·have:=h.l0 (by have:=h.lv;omega)
   omega
 refine⟨fun k f=>?_,by omega,fun i x d=>?_,by have:=h.sl;omega⟩
 ·have a:=h.tb k f
  cases hs:(s.ts k).sup with
  |true=>have:=(a.2 hs).1;omega
  |false=>have:=(a.1 hs).1;omega
 ·by_cases e:0<s.lv
  ·have:=h.vl e i x d
   omega
  ·have:=h.l0 (by have:=h.lv;omega)
   have:=(List.getElem?_eq_some_iff.1 d).1;omega
theorem tQ (s:Sl) (rv:Nat→Value) (ov sv:Value) (C:Array Value) (a:SlC s rv ov sv=C):Array.foldl (fun (cs:Array Value) (x:Value×Nat)=>cs.setIfInBounds x.snd x.fst) #[U Z 0,U Z 0,U Z 0,.bool false,J none 0 0,U Z 0,.bool false,J none 0 0,U Z 0,.bool false,J none 0 0,U Z 0,.bool false,J none 0 0,U Z 0,U Z 0,J none 0 0,.bool false,J none 0 0] C.zipIdx 0 19=C:=by
 subst a
 kernel_rfl
theorem rowAtW {C:Array Value} {t:TypeId} {a:Nat×Nat} (h:w.heap[b]?=N (Y C t a)) (j:Nat) (v:Value) (d:C.toList[j]?=N v):w.cell? ((⟨b,0,M⟩:Addr).add j)=N v:=by
 rw[Addr.add_lit,Nat.zero_add,hpCell h];simpa using d
theorem bP {P:Program} {ev:Operand→Value} {o:Oper} (ty:TypeId) (x:Operand) (i:o.op=.load ty x)
  (a:Addr) (l:ev x=.pointer (N a)) (cs:Array Value) (d:TypeDesc) (e:∀j v,cs.toList[j]?=N v→w.cell? (a.add j)=N v)
  (hu:P.underlying ty=N d) (f:(match d with|.struct _|.array _ _=>true|_=>false)=true) (hi:(P.info? ty).map (·.size)=N cs.size):
  (execOp ev o).run P w=.ok (.value (.agg cs)) w:=by
 unfold execOp;simp only[i,l,Instr.loadAt,Instr.sureAddr,Sem.run_bind,Sem.run_pure,Result.andThen_ok,dU w a ty cs d e hu f hi]
def MF (F:Nat→Prop) (W:World) (r:List Value) (s:Sl):Prop:=∃rv ov sv,r=(SlC s rv ov sv).toList∧∀X,Keeps F W X→nO X s rv ov sv
theorem MF.keeps (f:Keeps H W W') (d:∀j,j<W.heap.size→H j→F j) (i:∀j,j<W.heap.size→G j→F j) (r:List Value) (s:Sl) (h:MF F W r s):MF G W' r s:=by
 obtain⟨rv,ov,sv,e,a⟩:=h;exact⟨rv,ov,sv,e,fun X l=>a X ((f.mono d).trans l i)⟩
theorem MF.row (d:Keeps F W X) (r:List Value) (s:Sl) (h:MF F W r s):nA X r s:=by
 obtain⟨rv,ov,sv,e,a⟩:=h;exact⟨rv,ov,sv,e,a X d⟩
def Sw (g:Nat) (v:Value) (j:Nat):Prop:=j=g∨v.ownBlock=N j
structure SA (W4 wr:World) (g:Nat) (av:Value) (lp:Bool) (l:List Sl) (k:Nat) (a:Option Addr) (c:Nat) (cs:List Value):Prop where
 at_:wr.heap[g]?=N (Y (Ia (J a k c) av lp (J none 0 0) (J none 0 0) (J none 0 0) 0 false 0) 125)
 own:wr.ownsRow W4.heap.size 68 19 (J a k c) k cs
 csl:eU 19 (MF (Sw g (J a k c)) wr) cs (l.take k)
 kp:Keeps (· =g) W4 wr
theorem nO.one (h:nO w s rv ov sv):(SlC s rv ov sv).toList.all (·.oneCell')=true:=by
 refine AX s rv ov sv (fun k d=>?_) ?_ ?_
 ·obtain ⟨a,c,e,-⟩:=h.rg k d
  rw[e];rfl
 ·obtain ⟨a,c,e,-⟩:=h.ob
  rw[e];rfl
 ·obtain ⟨a,c,e,-⟩:=h.sd
  rw[e];rfl
theorem SA.step {u wr A C q f:World} {lp:Bool} {l:List Sl} {a d:Option Addr} {cs:List Value} (hg:u.heap.size=g+1) (h:SA u wr g av lp l k a c cs) (hx:l[k]?=N x) (z:Below wr.heap.size wr A)
  (T:∀W,ay A.heap.size C W→nO W x rv ov sv) (v:Below A.heap.size A C) (p:Below C.heap.size C q) (O:q.grownBy f (Value.slice a k c).ownBlock)
  (m:f.ownsRow u.heap.size 68 19 (J d (k+1) c7) (k+1) (cs++(SlC x rv ov sv).toList)) (S:cZ q (J a k c) (J d (k+1) c7)):
  SA u (f.setCell ⟨g,0,M⟩ (J d (k+1) c7)) g av lp l (k+1) d c7 (cs++(SlC x rv ov sv).toList):=by
 have BA:g<wr.heap.size:=hpLt h.at_;have V:=z.size;have z6:=v.size;have z3:=p.size;have z7:=O.size;have t:Below wr.heap.size wr q:=(z.trans (v.mono V)).trans (p.mono (by omega));have B:∀j,(Value.slice a k c).ownBlock=N j→u.heap.size≤j∧j<wr.heap.size:=fun j o=>h.own.lt j o
 have I:∀j,(Value.slice d (k+1) c7).ownBlock=N j→(Value.slice a k c).ownBlock=N j∨q.heap.size≤j:=fun j o=>by
  rcases S with e|⟨i,e,U⟩
  ·exact .inl (by rw[←e];exact o)
  ·rw [o] at e
   cases e;exact .inr U
 have E:Keeps (fun j=>(Value.slice a k c).ownBlock=N j) q f:=Keeps.bJ O (fun _ e=>e);have D:Keeps (fun j=>j=g) f (f.setCell ⟨g,0,M⟩ (J d (k+1) c7)):=(Keeps.refl _ _).set _ _ rfl;have R:(f.setCell ⟨g,0,M⟩ (J d (k+1) c7)).heap.size=f.heap.size:=by simp
 have K:Keeps (Sw g (J a k c)) wr (f.setCell ⟨g,0,M⟩ (J d (k+1) c7)):=((Keeps.af (F:=Sw g (J a k c)) t).trans (E.mono (fun j _ e=>.inr e)) (fun _ _ e=>e)).trans (D.mono (fun j _ e=>.inl e)) (fun _ _ e=>e);have P:∀j,j<wr.heap.size→Sw g (J d (k+1) c7) j→Sw g (J a k c) j:=fun j o e=>by
  rcases e with e|e
  ·exact .inl e
  ·rcases I j e with e|e
   ·exact .inr e
   ·omega
 refine⟨?_,?_,?_,?_⟩
 ·have Y:=hpKeeps (hpKeep h.at_ t) E (fun e=>by have:=(B g e).1;omega)
  exact hpSet Y 0 _
 ·exact own_keeps m D (fun j o e=>by have:=(m.lt j o).1;omega)
 ·rw [az hx]
  refine eU.app _ _ (eU.mono (fun r y Q=>MF.keeps K (fun _ _ e=>e) P r y Q) _ _ h.csl) [x] _ ⟨(SlC x rv ov sv).toList,[],by simp,rfl,⟨rv,ov,sv,rfl,fun X L=>T X ⟨?_,fun j h1 Z=>?_⟩⟩,rfl⟩
  ·have:=L.size
   omega
  ·rw [L.block j (by omega) (fun e=>?_),D.block j (by omega) (by omega),E.block j (by omega) (fun e=>by have:=(B j e).2;omega),p.block j Z]
   rcases e with e|e
   ·omega
   ·rcases I j e with e|e
    ·have:=(B j e).2
     omega
    ·omega
 ·exact h.kp.trans K (fun j o e=>by
   rcases e with e|e
   ·exact e
   ·have:=(B j e).1
    omega)
def jx (w:World) (l:List Sl) (lp:Bool) (aC:List At) (r:Ending) (w':World):Prop:=
 ∃g a c a2 c2,r=O (.tuple #[.pointer (N ⟨g,0,M⟩),U Z 0])∧w.heap.size≤g∧w'.heap[g]?=N (Y (Ia (J a l.length c) (J a2 aC.length c2) lp (J none 0 0) (J none 0 0) (J none 0 0) 0 false 0) 125)∧
  (∀X,Keeps (· =g) w' X→dm X (J a l.length c) l∧ke X (J a2 aC.length c2) aC)∧Below w.heap.size w w'
theorem E0 {p:Prop} (h:p:=by
 have hr3:Below wr.heap.size wr X3:=(HB5'.out.trans (hB6.mono HB5'.out.size)).trans (hb3.mono (by have:=HB5'.out.size;have:=hB6.size;omega));have hown3:=own_keeps hr.out.own (Keeps.af (F:=fun _=>False) hr3) (fun _ _ e=>e);refine rdyH 8 rfl (fun K hK=>?_);refine step_appN rfl (.tmp 35) (.tmp 38) 28 rfl W5.heap.size 68 i5 _ 19 248 Tryz.underlying28 hi hz0 hz1 hz2 rfl (by decide) (.slice a k c) k cs rfl hown3 ⟨w6.heap.size,0,none⟩ 1 1 CN.toList rfl (by rw[Array.length_toList,HCNS.out]) (fun j u hj=>rowAtW n3 j u hj) HON.out (by unfold maxLen;omega) (by omega) (by have:=hr.out.kp.size;have:=hr3.size;omega) ?_;intro v7 w7 hown7 hgr7 hnew7;obtain⟨a7,c7,rfl⟩:=own_slice hown7;have k37:=Keeps.bJ (F:=fun j=>(Value.slice a k c).ownBlock=some j) hgr7 (fun _ h=>h);have hS7:=hpKeeps kS3 k37 (fun e=>by have:=(hr.out.own.lt _ e).2;omega);have hg7:=hpKeeps (hpKeep hr.out.at_ hr3) k37 (fun e=>by have:=(hr.out.own.lt _ e).1;have:=HZ5.out;omega);go_simp;refine hK.out _ _ hS7 (fun hSg=>?_);clear hK K;refine tG 9 40 ?_;refine tG 10 41 ?_;have e7:=cG hg7 0 rfl;have f7:=hpFree hg7 0;refine rdyH 11 rfl (fun K hK=>?_);go_simp;refine hK.out _ _ ((hpOther (by have:=hpLt hr.out.at_;omega)).trans hS7) (fun hSh=>?_);clear hK K;refine wpAnyH_done (by kernel_rfl) ?_ _;have HN7:=hid (hr.out.step HZ5.out HX.out (HB5'.out.trans (kD.mono HB5'.out.size)) (HRD6.out) hb6 hb3 hgr7 (by rw[HCN.out];exact hown7) hnew7);go_wp2;go_roundw;(case rel=>exact⟨k+1,_,_,_,(by have:=HLT.out;omega),(by go_num),HN7.out⟩);(case measure=>(have:=HLT.out;simp [intOf];omega))):p:=h
theorem sS (l:List Sl) (s:lg) (la:Option Addr) (ln lc:Nat) (av cv:Value) (w:World) (hn:l.length=ln) (hL:dm w (J la ln lc) l) (hA:ke w av s.aC) (E:dw w cv s.cr) (hB:cW l) (cX:s.ok):
  Calls Tryz.prog 24 #[J la ln lc,.agg #[av,.bool s.loop,cv]] w (jx w l s.loop s.aC):=by
 obtain⟨i5,hi,hz0,hz1,hz2⟩:=info_parts Ji;obtain⟨VB,tp,Vr⟩:=vw l;obtain rfl:VB=true:=tp.2 hB;have u9:Hid (∀X,Below w.heap.size w X→Calls Tryz.prog 67 #[.agg #[av,.bool s.loop,cv]] X fun r w'=>r=O (.bool true)∧Below X.heap.size X w'):=fun X m=>LI s av cv X (hA.ah m) (E.ah m) cX
 obtain⟨lp,fG⟩:=gE s.loop;obtain⟨aa,ac,rfl,-⟩:=id hA;obtain⟨an,fD⟩:=gE s.aC.length;have a6:s.aC.length≤1000000:=by have:=cX.1;omega
 rw[fG,fD] at u9 ⊢;rw[fD] at hA;obtain⟨W1,ak,ad,pS⟩:=eY w (Y #[J aa an ac,.bool lp,cv] 32);have HV:Hid (Calls Tryz.prog 66 #[J la ln lc] W1 (aj W1 true)):=Vr W1 _ (hL.ah ad);have bn:Hid (∀X,Below w.heap.size w X→Calls Tryz.prog 68 #[J aa an ac] X fun r w'=>∃a c,r=O (J a an c)∧w'.ownsRow X.heap.size 70 6 (J a an c) an (uY s.aC)∧Below X.heap.size X w'):=fun X m=>by
  have h:=vp (J aa an ac) s.aC X (hA.ah m) a6;refine h.mono ?_;rintro r w' ⟨a,c,h1,h2,h3⟩;rw[fD] at h1 h2;exact⟨a,c,h1,h2,h3⟩
 have bC:=hid hA.Wz;have HB:=hid hB;have bX:ln≤16:=by have:=hB.1;omega
 have HL:=hid hL;have HN:=hid hn;have bx:=hid ak;have a4:=hid ad;have lh:=hid pS;have iV:=hid fD;clear ak ad pS tp Vr hL hA E hB cX fG fD a6;go_enter Tryz.func24,Tryz.ntmps24;go_upto_region 1 with(fail)
 rw[bx.out];go_upto_region 3 with(first
  |(go_at_call 66;(with_reducible refine HV.out.mono ?_);rintro r w2 ⟨rfl,t⟩;have y0:=hpCell (hpKeep lh.out t) 0;have y1:=hpCell (hpKeep lh.out t) 1;have y2:=hpCell (hpKeep lh.out t) 2)
  |(go_at_call 67;(with_reducible refine(u9.out _ (bt a4.out t (Nat.le_refl _))).mono ?_);rintro r w3 ⟨rfl,hb3⟩))
 have T:Hid (Below w.heap.size w w3):=bt (bt a4.out t (Nat.le_refl _)) hb3 (Nat.le_refl _);have R4:=hpKeep (hpKeep lh.out t) hb3;have s0:=cF R4 0 rfl
 have s1:=cF R4 1 rfl
 have kD:Below w3.heap.size w3 w3.drew:=(Below.refl _ _).drew;clear y0 y1 y2 t hb3;refine wp_region_held_drew (S:=fun V=>Below w3.heap.size w3 V) (by kernel_rfl) kD (fun hH=>?_);clear hH;refine tG 0 17 ?_;refine tG 1 18 ?_;refine tG 3 20 ?_;refine tG 4 21 ?_;refine rdyH 2 rfl (fun K hK=>?_);go_simp;refine(bn.out _ (bt T.out kD (Nat.le_refl _))).mono ?_;rintro r w4 ⟨Q,c2,rfl,Fv,aY⟩;have I:=bt kD aY (Nat.le_refl _);refine hK.out _ _ I (fun f=>?_);clear hK K f;refine tG 5 22 ?_;refine tG 6 23 ?_;refine rdyH 7 rfl (fun K hK=>?_);go_simp;have R:Below w3.heap.size w3 (w4.alloc (Y (Ia (J none 0 0) (J Q an c2) lp (J none 0 0) (J none 0 0) (J none 0 0) 0 false 0) 125)):=bta I (Nat.le_refl _) _;refine hK.out _ _ R (fun f=>?_);clear hK K f;refine tkD 8 6 (v:=?_) rfl (by kernel_rfl) (fun _ _ _ h=>h) rfl (by rfl) (by assumption) ?_ ?_;rotate_left;(intro w bK;(try dsimp only at bK);(try go_simp);try rfl);refine wpAnyH_done (by kernel_rfl) ?_ _;obtain⟨g,hg⟩:=gE w4.heap.size;obtain⟨W5,z⟩:∃W,w4.alloc (Y #[J none 0 0,J Q an c2,.bool lp,J none 0 0,J none 0 0,J none 0 0,U Z 0,.bool false,U Z 0] 125)=W:=⟨_,rfl⟩
 have p5:W5.heap[g]?=N (Y (Ia (J none 0 0) (J Q an c2) lp (J none 0 0) (J none 0 0) (J none 0 0) 0 false 0) 125):=by rw[←z,←hg];exact hpNew _ _
 have ba:Below w4.heap.size w4 W5:=by rw[←z];exact bal' _ _
 have j5:Hid (∀X,Keeps (· =g) W5 X→ke X (J Q an c2) s.aC):=fun X m=>by
  have h1:=own_keeps Fv (Keeps.af (F:=fun _=>False) ba) (fun _ _ e=>e);have h2:=own_keeps h1 m (fun j hj e=>by have:=(Fv.lt j hj).2;have e':j=g:=e;omega);exact gY.iq h2 (AU _ bC.out) iV.out
 have j4:Hid (Below w.heap.size w W5):=by rw[←z];exact bt T.out R (Nat.le_refl _)
 have HZ5:Hid (W5.heap.size=g+1):=by show _=_;rw[←z,←hg];simp
 have a3:Hid (SA W5 W5 g (J Q an c2) lp l 0 none 0 []):=⟨p5,World.ownsRow_nil _ _ _ _,rfl,Keeps.refl _ _⟩
 have a9:Hid (w.heap.size≤g):=by show _≤_;have:=T.out.size;have:=I.size;omega
 have hL:=z;rw[z,hg];clear z hL s0 s1 kD Fv aY I R p5 ba hg R4;go_upto_region 5 with(fail)
 go_loopw [27] (fun kv wr=>∃(k:Nat) (a:Option Addr) (c:Nat) (cs:List Value),k≤ln∧kv=U Z (k:Int)∧Hid (SA W5 wr g (J Q an c2) lp l k a c cs)) (fun kv _=>ln- (intOf kv).toNat)
 case atStart=>exact⟨0,none,0,[],Nat.zero_le _,rfl,a3.out⟩
 case round=>
  clear a3;obtain⟨k,a,c,cs,hk,rfl,hr⟩:=hrel;have uU:(0:Int)≤(k:Int):=Int.natCast_nonneg _;have Rl:Hid (Below w.heap.size w wr):=j4.out.trans (hr.out.kp.below j4.out.size (fun j hj e=>by have:=a9.out;omega));by_cases ao:k<ln
  ·obtain ⟨x,hx⟩:=gs (l:=l) HN.out ao
   obtain⟨b,o,rv,ov,sv,rfl,hR,hc⟩:=(HL.out.ah Rl.out).at hx;have kP:Qs x:=Qf (HB.out.2 x (List.mem_of_getElem? hx));obtain⟨C,E⟩:=gE (SlC x rv ov sv);have D:(Tryz.prog.info? 68).map (·.size)=N C.size:=by rw[←E];exact dX
   have a5:C.size=19:=by rw[←E];rfl
   have bm:C.toList.all (·.oneCell')=true:=by rw[←E];exact hR.one
   have cd:∀j v,C.toList[j]?=N v→wr.cell? ((⟨b,o+k*19,M⟩:Addr).add j)=N v:=fun j v hj=>by
    rw[Addr.add_lit];exact hc j v (by rw[E];simpa using hj)
   have m7:Hid (∀X,Below wr.heap.size wr X→Calls Tryz.prog 69 #[.agg C] X (Nw X x)):=fun X m=>by rw[←E];exact Fz x rv ov sv X (hR.ah m) kP
   have bQ:(k:Int)<(ln:Int):=by omega
   have HX:=hid hx;have HLT:=hid ao;have sy:=hid a5;clear hx hR hc kP E ao;go_upto_region 7 with(first
    |(refine wpList_load_atH (by rfl) 68 (.tmp 29) rfl ⟨b,o+k*19,M⟩ rfl C _ cd Tryz.underlying68 rfl D ?_)
    |(refine wpList_storeW rfl 68 (.tmp 8) (.tmp 30) rfl wr.heap.size 0 _ 68 C rfl rfl (hpNew wr _) (by simp [a5]) D bm ?_;intro w5 g5 bc bA))
   obtain⟨p5,aX⟩:=cJ (by rw[sy.out];rfl) g5 bc;dsimp only[Act.put];have ab:=hid (hpKeep hr.out.at_ aX);have d0:w5.drew.cell? ⟨g,0,M⟩=N (J a k c):=hpCell ab.out 0;have kD:Below w5.heap.size w5 w5.drew:=(Below.refl _ _).drew;have kS:w5.drew.heap[wr.heap.size]?=N (Y C 68 (0,0)):=hpKeep p5 kD;have S4:Hid (∀X:World,X.heap[wr.heap.size]?=N (Y C 68 (0,0))→∀j v,C.toList[j]?=N v→X.cell? ((⟨wr.heap.size,0,M⟩:Addr).add j)=N v):=fun X m j v hj=>rowAtW m j v hj
   have a8:=hid p5;have HB5':=hid aX;have tD:k≤16:=by omega
   clear g5 bc bA cd bm p5 aX;refine wp_region_held_drew (S:=fun V=>V.heap[wr.heap.size]?=N (Y C 68 (0,0))) (by kernel_rfl) kS (fun hH=>?_);clear hH;refine tG 0 31 ?_;refine tG 1 32 ?_;refine tG 2 33 ?_;refine tG 3 34 ?_;refine tkD 5 36 (v:=.agg C) rfl (by kernel_rfl) (fun _ _ _ h=>h) rfl (by rfl) (by assumption) (fun X m=>bP 68 (.tmp 8) rfl ⟨wr.heap.size,0,M⟩ rfl C _ (S4.out X m) Tryz.underlying68 rfl D) ?_;simp only[setS];refine wpAnyH_ready (rs:=[4,6]) (by kernel_rfl) (by simp) ?_;refine AllReadyH.cons rfl (fun K hK=>?_) (AllReadyH.cons rfl (fun K hK=>?_) AllReadyH.nil)
   ·go_simp
    refine hK.out _ _ kS (fun f=>?_);clear hK K f;refine rdyH 6 rfl (fun K hK=>?_);go_simp;refine(m7.out _ (bt HB5'.out kD (Nat.le_refl _))).mono ?_;rintro r w6 ⟨Uy,TV,VA,rfl,P,hb6⟩;obtain⟨CN,A⟩:=gE (SlC x Uy TV VA);rw[A];have pE:=tQ x Uy TV VA CN A;have L:CN.size=19:=(by rw[←A];rfl);have iZ:∀u∈CN.toList,u.oneCell'=true:=(by rw[←A];exact List.all_eq_true.1 (P w6 (ay.refl _ _)).one);have Xx:=hid pE;have HCN:=hid A;have HRD6:=hid P;have HON:=hid iZ;have hB6:=bt kD hb6 (Nat.le_refl _);have zX:=hpKeep a8.out hB6;clear A pE P iZ;refine hK.out _ _ zX (fun f=>?_);clear hK K f;refine rdyH 7 rfl (fun K hK=>?_);go_simp;rw[Xx.out];have HCNS:=hid L;clear L;obtain⟨X3,B⟩:=gE (w6.alloc (Y CN 68));have hb3:Below w6.heap.size w6 X3:=(by rw[←B];exact bal' _ _);have n3:X3.heap[w6.heap.size]?=N (Y CN 68 (0,0)):=(by rw[←B];exact hpNew _ _);rw[B];have kS3:=hpKeep zX hb3;refine hK.out _ _ kS3 (fun f=>?_);clear hK K f;exact E0
   ·go_simp
    refine(m7.out _ (bt HB5'.out kD (Nat.le_refl _))).mono ?_;rintro r w6 ⟨Uy,TV,VA,rfl,P,hb6⟩;obtain⟨CN,A⟩:=gE (SlC x Uy TV VA);rw[A];have pE:=tQ x Uy TV VA CN A;have L:CN.size=19:=(by rw[←A];rfl);have iZ:∀u∈CN.toList,u.oneCell'=true:=(by rw[←A];exact List.all_eq_true.1 (P w6 (ay.refl _ _)).one);have Xx:=hid pE;have HCN:=hid A;have HRD6:=hid P;have HON:=hid iZ;have hB6:=bt kD hb6 (Nat.le_refl _);have zX:=hpKeep a8.out hB6;clear A pE P iZ;refine hK.out _ _ zX (fun f=>?_);clear hK K f;refine wpAnyH_ready (rs:=[4,7]) (by kernel_rfl) (by simp) ?_;refine AllReadyH.cons rfl (fun K hK=>?_) (AllReadyH.cons rfl (fun K hK=>?_) AllReadyH.nil)
    ·have d6:w6.cell? ⟨g,0,M⟩=N (J a k c):=hpCell (hpKeep ab.out hB6) 0
     go_simp;refine hK.out _ _ zX (fun f=>?_);clear hK K f;refine rdyH 7 rfl (fun K hK=>?_);go_simp;rw[Xx.out];have HCNS:=hid L;clear L;obtain⟨X3,B⟩:=gE (w6.alloc (Y CN 68));have hb3:Below w6.heap.size w6 X3:=(by rw[←B];exact bal' _ _);have n3:X3.heap[w6.heap.size]?=N (Y CN 68 (0,0)):=(by rw[←B];exact hpNew _ _);rw[B];have kS3:=hpKeep zX hb3;refine hK.out _ _ kS3 (fun f=>?_);clear hK K f;exact E0
    ·go_simp
     rw[Xx.out];have HCNS:=hid L;clear L;obtain⟨X3,B⟩:=gE (w6.alloc (Y CN 68));have hb3:Below w6.heap.size w6 X3:=(by rw[←B];exact bal' _ _);have n3:X3.heap[w6.heap.size]?=N (Y CN 68 (0,0)):=(by rw[←B];exact hpNew _ _);rw[B];have kS3:=hpKeep zX hb3;refine hK.out _ _ kS3 (fun f=>?_);clear hK K f;have d6:X3.cell? ⟨g,0,M⟩=N (J a k c):=hpCell (hpKeep ab.out (bt hB6 hb3 (Nat.le_refl _))) 0;refine rdyH 4 rfl (fun K hK=>?_);go_simp;refine hK.out _ _ kS3 (fun f=>?_);clear hK K f;exact E0
  ·obtain rfl:k=ln:=by omega
   go_wp2;go_ret2;have e1:=HN.out;have e2:=iV.out;have u7:=hr.out;have kL:=j5.out;subst e1 e2;refine⟨g,a,c,Q,c2,rfl,a9.out,u7.at_,fun X m=>⟨?_,kL X (u7.kp.trans m (fun _ _ e=>e))⟩,Rl.out⟩;have ho:=own_keeps u7.own m (fun j hj e=>by have:=(u7.own.lt j hj).1;have:=HZ5.out;have e':j=g:=e;omega);have Ul:=u7.csl;rw[List.take_of_length_le (Nat.le_refl _)] at Ul;exact gY.iq ho (eU.mono (fun r y hy=>MF.row (m.mono (fun _ _ e=>.inl e)) r y hy) _ _ Ul) rfl
def fX (w:World) (f:List UInt8) (r:Ending) (w':World):Prop:=∃a c,r=O (J a f.length c)∧w'.ownsRow w.heap.size 5 1 (J a f.length c) f.length (u8s f)∧Below w.heap.size w w'
theorem fX.nil {f:List UInt8} (h:f=[]) (a:Below w.heap.size w w'):fX w f (O (J none 0 0)) w':=by
 subst h;exact⟨none,0,rfl,World.ownsRow_nil _ _ _ _,a⟩
theorem eM.uni {o:Option (List UInt8)} (j:(o.getD []).length=n) {r:Ending} (h:eM w o r w'):∃a c B,r=O (.tuple #[J a n c,.bool B])∧w'.ownsRow w.heap.size 5 1 (J a n c) n (u8s (o.getD []))∧Below w.heap.size w w':=by
 subst j;cases o with
 |none=>exact⟨none,0,false,h.1,World.ownsRow_nil _ _ _ _,h.2⟩
 |some f=>
  obtain⟨a,c,d,e,i⟩:=h;exact⟨a,c,true,d,e,i⟩
theorem G6 (x:UInt8) (m:Nat) (hm:m<256):Value.int .u8 (bits .xor .u8 ((x.toNat:Nat):Int) (m:Int))=bD (x^^^UInt8.ofNat m):=by
 rw[u8_xor_nat x.toNat m (dD x) hm];unfold bD;rw[UInt8.toNat_xor,UInt8.toNat_ofNat',Nat.mod_eq_of_lt hm]
structure XF (w W:World) (g:Nat) (bd pa:Int) (C:Array Value) (la:Option Addr) (ln lc:Nat):Prop where
 b:Below w.heap.size w W
 z:W.heap.size=w.heap.size+2
 s:W.heap[w.heap.size]?=N (Y #[U Z bd,U Z pa] 61)
 a:W.heap[w.heap.size+1]?=N (Y C 70)
 c0:W.cell? ⟨g,0,M⟩=N (J la ln lc)
theorem zQ (g:Nat) (la:Option Addr) (lc ln:Nat) (bd pa:Int) (fa:Option Addr) (fn fc:Nat) (bf fault pos mask ai value:Int) (q:fault=1∨fault=2) (w:World) (l:w.cell? ⟨g,0,M⟩=N (J la ln lc)):
  Calls Tryz.prog 127 #[.pointer (N ⟨g,0,M⟩),.agg #[U Z bd,U Z pa],J fa fn fc,.agg #[U Z bf,U Z fault,U Z pos,U Z mask,U Z ai,U Z value]] w (fX w []):=by
 obtain⟨a,d⟩:∃W,(w.alloc (Y #[U Z bd,U Z pa] 61)).alloc (Y #[U Z bf,U Z fault,U Z pos,U Z mask,U Z ai,U Z value] 70)=W:=⟨_,rfl⟩;have e:Hid (XF w a g bd pa #[U Z bf,U Z fault,U Z pos,U Z mask,U Z ai,U Z value] la ln lc):=(by have o:Below w.heap.size w a:=(by rw[←d];exact bta (bal' w _) (Nat.le_refl _) _);refine⟨o,by rw[←d];simp,by rw[←d];exact hpKeep (hpNew w _) (bal' _ _),?_,cell_keep o l⟩;rw[←d];have h:=hpNew (w.alloc (Y #[U Z bd,U Z pa] 61)) (Y #[U Z bf,U Z fault,U Z pos,U Z mask,U Z ai,U Z value] 70);rw[World.size_alloc] at h;exact h);obtain⟨p,j⟩:∃n,w.heap.size+1=n:=⟨_,rfl⟩;have i:Hid (a.heap[p]?=N (Y #[U Z bf,U Z fault,U Z pos,U Z mask,U Z ai,U Z value] 70)):=(by rw[←j];exact e.out.a);have f:=hid d;have m:=hid j;clear d j;have s0:∀X,Below a.heap.size a X→X.cell? ⟨w.heap.size,0,M⟩=N (U Z bd):=(fun X h=>hpCell (hpKeep e.out.s h) 0);have s1:∀X,Below a.heap.size a X→X.cell? ⟨w.heap.size,1,M⟩=N (U Z pa):=(fun X h=>hpCell (hpKeep e.out.s h) 1);have a1:=cF i.out 1 rfl;have u:=cF i.out 2 rfl;have t:=cF i.out 3 rfl;have v:=cF i.out 5 rfl;have c0:∀X,Below a.heap.size a X→X.cell? ⟨g,0,M⟩=N (J la ln lc):=(fun X h=>cell_keep h e.out.c0);have r:Below a.heap.size a a:=Below.refl _ _;have y:Below a.heap.size a a.drew:=(Below.refl _ _).drew;clear l;rcases q with rfl|rfl
 ·go_enter Tryz.func127,Tryz.ntmps127
  go_upto_region 1 with(fail)
  rw[f.out,m.out];go_wp2;go_ret;exact fX.nil rfl e.out.b
 ·go_enter Tryz.func127,Tryz.ntmps127
  go_upto_region 1 with(fail)
  rw[f.out,m.out];go_wp2;go_ret;exact fX.nil rfl e.out.b
theorem yH (g:Nat) (la:Option Addr) (lc ln:Nat) (l:List Sl) (Q:l.length=ln) (T:cW l) (bd pa:Int) (f1:bT bd) (f2:bT pa) (fa:Option Addr) (fn fc:Nat) (f:List UInt8) (bf fault pos mask ai value:Int) (I:fault=5) (w:World) (L:w.cell? ⟨g,0,M⟩=N (J la ln lc)) (hL:dm w (J la ln lc) l) (R:Bs w (J fa fn fc) f):
  Calls Tryz.prog 127 #[.pointer (N ⟨g,0,M⟩),.agg #[U Z bd,U Z pa],J fa fn fc,.agg #[U Z bf,U Z fault,U Z pos,U Z mask,U Z ai,U Z value]] w (fX w ((dC l bd pa f).getD [])):=by
 obtain⟨e,t⟩:∃W,(w.alloc (Y #[U Z bd,U Z pa] 61)).alloc (Y #[U Z bf,U Z fault,U Z pos,U Z mask,U Z ai,U Z value] 70)=W:=⟨_,rfl⟩;have m:Hid (XF w e g bd pa #[U Z bf,U Z fault,U Z pos,U Z mask,U Z ai,U Z value] la ln lc):=(by have hb:Below w.heap.size w e:=(by rw[←t];exact bta (bal' w _) (Nat.le_refl _) _);refine⟨hb,by rw[←t];simp,by rw[←t];exact hpKeep (hpNew w _) (bal' _ _),?_,cell_keep hb L⟩;rw[←t];have h:=hpNew (w.alloc (Y #[U Z bd,U Z pa] 61)) (Y #[U Z bf,U Z fault,U Z pos,U Z mask,U Z ai,U Z value] 70);rw[World.size_alloc] at h;exact h);obtain⟨ab,D⟩:∃n,w.heap.size+1=n:=⟨_,rfl⟩;have y:Hid (e.heap[ab]?=N (Y #[U Z bf,U Z fault,U Z pos,U Z mask,U Z ai,U Z value] 70)):=(by rw[←D];exact m.out.a);have z:=hid t;have rL:=hid D;clear t D;have s0:∀X,Below e.heap.size e X→X.cell? ⟨w.heap.size,0,M⟩=N (U Z bd):=(fun X h=>hpCell (hpKeep m.out.s h) 0);have s1:∀X,Below e.heap.size e X→X.cell? ⟨w.heap.size,1,M⟩=N (U Z pa):=(fun X h=>hpCell (hpKeep m.out.s h) 1);have a1:=cF y.out 1 rfl;have a2:=cF y.out 2 rfl;have a3:=cF y.out 3 rfl;have a5:=cF y.out 5 rfl;have c0:∀X,Below e.heap.size e X→X.cell? ⟨g,0,M⟩=N (J la ln lc):=(fun X h=>cell_keep h m.out.c0);have k0:Below e.heap.size e e:=Below.refl _ _;have u:Below e.heap.size e e.drew:=(Below.refl _ _).drew;have e1:(fault==1)=false:=b0 (by omega);have e2:(fault==2)=false:=b0 (by omega);have e5:(fault==5)=true:=b1 I;have e3:(fault==3)=false:=b0 (by omega);obtain⟨E,C⟩:=gE (((dC l bd pa f).getD []).length);have iV:Hid (∀X,Below e.heap.size e X→Calls Tryz.prog 162 #[J la ln lc,.agg #[U Z bd,U Z pa],J fa fn fc] X fun r w'=>∃a c B,r=O (.tuple #[J a E c,.bool B])∧w'.ownsRow X.heap.size 5 1 (J a E c) E (u8s ((dC l bd pa f).getD []))∧Below X.heap.size X w'):=fun X hX=>(zC la lc ln l Q T bd pa f1 f2 fa fn fc f X (hL.ah (bt m.out.b hX (Nat.le_refl _))) (R.ah (bt m.out.b hX (Nat.le_refl _)))).mono fun _ _ h=>h.uni C
 have P:=hid C;clear L hL R T Q f1 f2 C I;go_enter Tryz.func127,Tryz.ntmps127;go_upto_region 1 with(fail)
 rw[z.out,rL.out];go_upto_region 8 with(fail)
 refine wp_region_held_drew (S:=fun V=>Below e.heap.size e V) (by kernel_rfl) u (fun hH=>?_);clear hH;refine tG 0 31 ?_;refine tG 1 32 ?_;refine tG 2 33 ?_;refine tG 3 34 ?_;refine tG 4 35 ?_;refine tG 5 36 ?_;refine rdyH 6 rfl (fun K hK=>?_);go_simp;refine(iV.out _ u).mono ?_;rintro r w4 ⟨ra,rc,B,rfl,j,aY⟩;have o:=bt u aY (Nat.le_refl _);refine hK.out _ _ o (fun A=>?_);clear hK K A;refine tG 7 30 ?_;refine tG 8 38 ?_;refine tG 9 39 ?_;refine tkD 10 9 (v:=?_) rfl (by kernel_rfl) (fun _ _ _ h=>h) rfl (by rfl) (by assumption) ?_ ?_;rotate_left;(intro w bK;(try dsimp only at bK);(try go_simp);try rfl);refine wpAnyH_done (by kernel_rfl) ?_ _;have Kt:=a1 _ o;have uG:=hid j;clear j;go_wp2;go_ret;have hz:=u.size;exact⟨ra,rc,(by rw[P.out]<;>rfl),by rw[P.out];exact own_lower uG.out (Nat.le_trans m.out.b.size hz),bt m.out.b o (Nat.le_refl _)⟩
theorem wF (g:Nat) (la:Option Addr) (lc ln:Nat) (l:List Sl) (hl:l.length=ln) (hB:cW l) (bd pa:Int) (f1:bT bd) (f2:bT pa) (fa:Option Addr) (fn fc:Nat) (f:List UInt8) (bf fault pos mask ai value:Int) (h1:¬fault=1) (h2:¬fault=2) (P:¬fault=5) (h3:¬fault=3) (Q:0≤value) (T:value≤65535) (w:World) (L:w.cell? ⟨g,0,M⟩=N (J la ln lc)) (hL:dm w (J la ln lc) l) (hf:Bs w (J fa fn fc) f):
  Calls Tryz.prog 127 #[.pointer (N ⟨g,0,M⟩),.agg #[U Z bd,U Z pa],J fa fn fc,.agg #[U Z bf,U Z fault,U Z pos,U Z mask,U Z ai,U Z value]] w (fX w ((cI l bd pa f value).getD [])):=by
 obtain⟨e,t⟩:∃W,(w.alloc (Y #[U Z bd,U Z pa] 61)).alloc (Y #[U Z bf,U Z fault,U Z pos,U Z mask,U Z ai,U Z value] 70)=W:=⟨_,rfl⟩;have m:Hid (XF w e g bd pa #[U Z bf,U Z fault,U Z pos,U Z mask,U Z ai,U Z value] la ln lc):=(by have hb:Below w.heap.size w e:=(by rw[←t];exact bta (bal' w _) (Nat.le_refl _) _);refine⟨hb,by rw[←t];simp,by rw[←t];exact hpKeep (hpNew w _) (bal' _ _),?_,cell_keep hb L⟩;rw[←t];have h:=hpNew (w.alloc (Y #[U Z bd,U Z pa] 61)) (Y #[U Z bf,U Z fault,U Z pos,U Z mask,U Z ai,U Z value] 70);rw[World.size_alloc] at h;exact h);obtain⟨ab,E⟩:∃n,w.heap.size+1=n:=⟨_,rfl⟩;have z:Hid (e.heap[ab]?=N (Y #[U Z bf,U Z fault,U Z pos,U Z mask,U Z ai,U Z value] 70)):=(by rw[←E];exact m.out.a);have A:=hid t;have rL:=hid E;clear t E;have s0:∀X,Below e.heap.size e X→X.cell? ⟨w.heap.size,0,M⟩=N (U Z bd):=(fun X h=>hpCell (hpKeep m.out.s h) 0);have s1:∀X,Below e.heap.size e X→X.cell? ⟨w.heap.size,1,M⟩=N (U Z pa):=(fun X h=>hpCell (hpKeep m.out.s h) 1);have a1:=cF z.out 1 rfl;have a2:=cF z.out 2 rfl;have a3:=cF z.out 3 rfl;have a5:=cF z.out 5 rfl;have c0:∀X,Below e.heap.size e X→X.cell? ⟨g,0,M⟩=N (J la ln lc):=(fun X h=>cell_keep h m.out.c0);have k0:Below e.heap.size e e:=Below.refl _ _;have y:Below e.heap.size e e.drew:=(Below.refl _ _).drew;obtain⟨R,u⟩:=gE ((cI l bd pa f value).getD []);obtain⟨I,D⟩:=gE R.length;have iV:Hid (∀X,Below e.heap.size e X→Calls Tryz.prog 163 #[J la ln lc,.agg #[U Z bd,U Z pa],J fa fn fc,U Z value] X fun r w'=>∃a c B,r=O (.tuple #[J a I c,.bool B])∧w'.ownsRow X.heap.size 5 1 (J a I c) I (u8s R)∧Below X.heap.size X w'):=(fun X hX=>(mO la lc ln l hl hB bd pa f1 f2 fa fn fc f value Q T X (hL.ah (bt m.out.b hX (Nat.le_refl _))) (hf.ah (bt m.out.b hX (Nat.le_refl _)))).mono fun _ _ h=>by rw[←u];exact h.uni (by rw[u];exact D));have rX:=hid D;have HR:=hid u;rw[u];have e1:=b0 h1;have e2:=b0 h2;have e3:=b0 h3;have e5:=b0 P;clear L hL hf hB hl f1 f2 D u h1 h2 P h3 Q T;go_enter Tryz.func127,Tryz.ntmps127;go_upto_region 1 with(fail)
 rw[A.out,rL.out];go_upto_region 3 with(fail)
 refine wp_region_held_drew (S:=fun V=>Below e.heap.size e V) (by kernel_rfl) y (fun hH=>?_);clear hH;refine tG 0 14 ?_;refine tG 1 15 ?_;refine tG 2 16 ?_;refine tG 3 17 ?_;refine tG 4 18 ?_;refine tG 5 19 ?_;refine tG 6 20 ?_;refine tG 7 21 ?_;refine rdyH 8 rfl (fun K hK=>?_);go_simp;refine(iV.out _ y).mono ?_;rintro r w4 ⟨ra,rc,B,rfl,j,aY⟩;have o:=bt y aY (Nat.le_refl _);refine hK.out _ _ o (fun C=>?_);clear hK K C;refine tG 9 13 ?_;refine tG 10 23 ?_;refine tG 11 24 ?_;refine tkD 12 9 (v:=?_) rfl (by kernel_rfl) (fun _ _ _ h=>h) rfl (by rfl) (by assumption) ?_ ?_;rotate_left;(intro w bK;(try dsimp only at bK);(try go_simp);try rfl);refine wpAnyH_done (by kernel_rfl) ?_ _;have Kt:=a1 _ o;have uG:=hid j;clear j;go_wp2;go_ret;have hz:=y.size;exact⟨ra,rc,(by rw[rX.out]<;>rfl),by rw[rX.out];exact own_lower uG.out (Nat.le_trans m.out.b.size hz),bt m.out.b o (Nat.le_refl _)⟩
