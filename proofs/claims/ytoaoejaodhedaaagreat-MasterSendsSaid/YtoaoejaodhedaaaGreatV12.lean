import Derived.Test.YtoaoejaodhedaaaGreatV11
import Derived.Test.YtoaoejaodhedaaaGreatV10
namespace Go.Proofs.YtoaoejaodhedaaaGreat
set_option maxHeartbeats 12800000
set_option maxRecDepth 100000
open Value renaming slice→J,int→K
open Option renaming none→M,some→U
open IntKind renaming i64→H
open Obj renaming cells→I
variable {c:Cf} {d:Du} {f:Fx} {l news p:List Ch} {y y0:Ms} {gl gm i k0 kk m:Nat} {Dp Wp:Nat→Du→Prop} {P P' PX:Nat→Prop} {sc:Sc} {sv:Value} {W w wc:World}
theorem OY {x:Ch} (h:∀y,y∈p→y.at_≤x.at_):putL p x=p++[x]:=by
 induction p with
 |nil=>rfl
 |cons y l ih=>
  have b:=h y (List.mem_cons_self ..);unfold putL;rw[if_neg (by omega),ih (fun z a=>h z (List.mem_cons_of_mem _ a))];rfl
theorem O0 (h:oh (p++news)):news.foldl putL p=p++news:=by
 induction news generalizing p with
 |nil=>exact(List.append_nil _).symm
 |cons x l ih=>
  have e:p++x::l=p++[x]++l:=by rw[List.append_assoc];rfl
  show l.foldl putL (putL p x)=_;rw[e] at h;rw[OY (fun y b=>?_),ih h,e];obtain⟨i,hi,a⟩:=List.mem_iff_getElem.1 b;refine h i p.length y x hi ?_ ?_
  ·rw [List.append_assoc,List.getElem?_append_left hi]
   exact List.getElem?_eq_some_iff.2 ⟨hi,a⟩
  ·rw [List.append_assoc,List.getElem?_append_right (Nat.le_refl _),Nat.sub_self]
   rfl
theorem Pb (h:oh l):BX (dW l) l.length:=fun i j e g=>by
 have a:=List.getElem?_eq_getElem (show i<l.length by omega);have b:=List.getElem?_eq_getElem g;rw[oC a,oC b];have:=h i j _ _ e a b;omega
theorem UB (h:oh (p++news)) (n:(p++news).length≤100000000):kC p news:=fun P w v j=>by
 rw[O0 h];have b:=j.QM;obtain⟨l,q⟩:∃l,p++news=l:=⟨_,rfl⟩
 rw[q] at h n j b ⊢;by_cases k:l.length=0
 ·have s:l=[]:=List.eq_nil_of_length_eq_zero k
  subst s;obtain⟨a,c,rfl,-⟩:=b.len;exact(DV a c _ w).mono fun r w' ⟨e1,e2⟩=>⟨e1,e2▸b,e2▸Keeps.refl _ _⟩
 ·rcases j with⟨_,e⟩|⟨g,o,c,N,rfl,t,u,x,z,A⟩
  ·rw [e] at k
   exact absurd rfl k
  ·exact (Hq g o l.length N c (dW l) (by omega) n (Pb h) w t.ck).mono fun r w' ⟨e1,e2⟩=>⟨e1,b.ah e2,Keeps.af e2⟩
theorem UD {l:List Sl} {aC:List At} {bd pa:Int} (e:cW l) (b:∀x∈aC,x.ok) (h:aU bd pa) (lp:Bool) (n:Nat) (f:List UInt8) (tick:Int):kC [] (fM l (cA aC lp n) bd pa f tick):=by
 have a:=oG b lp n;have g:=je e (cA aC lp n) bd pa f;unfold fM;exact UB (xL (by have:=bV h;omega) (At.nC a).2.2.2.2.1 _ _) (by rw[List.nil_append,chsN_len];omega)
open Go.RowKit
def lX (gm gl:Nat) (P:Nat→Prop) (c:Cf) (sv:Value) (f:Fx) (y:Ms) (kk:Nat) (W:World):Prop:=
 ∃gj k PL Q s,lr gm gl gj k P PL Q c sv f y s W∧k≤kk
theorem lX.bW {gm gl kk:Nat} {P:Nat→Prop} {c:Cf} {sv:Value} {f:Fx} {y:Ms} {W X:World} (h:lX gm gl P c sv f y kk W) (j:Below W.heap.size W X):lX gm gl P c sv f y kk X:=by
 obtain⟨b,k,a,Q,s,e,g⟩:=h;exact⟨b,k,a,Q,s,e.bW j,g⟩
theorem lX.yU {gm gl kk:Nat} {P:Nat→Prop} {c:Cf} {sv:Value} {f:Fx} {y:Ms} {W:World} (h:lX gm gl P c sv f y kk W):∀j,P j→j<W.heap.size:=by
 obtain⟨e,k,b,Q,s,a,g⟩:=h;exact a.yU
theorem lX.le {a:Nat} (h:lX gm gl P c sv f y kk W) (n:kk≤a):lX gm gl P c sv f y a W:=by
 obtain⟨e,k,b,Q,s,g,j⟩:=h;exact⟨e,k,b,Q,s,g,Nat.le_trans j n⟩
theorem lX.base {gm gl k0 kk:Nat} {P P':Nat→Prop} {c:Cf} {sv:Value} {f:Fx} {y0 y:Ms} {W0 W:World} (n:lX gm gl P c sv f y0 k0 W0) (h:lX gm gl P' c sv f y kk W) (t:Keeps P W0 W) (u:∀j,P' j→ax P W0 W j):lX gm gl (ax P W0 W) c sv f y kk W:=by
 obtain⟨g,v,b,x,s0,o,-⟩:=n;obtain⟨e,k,a,Q,s,q,r⟩:=h;exact⟨e,k,a,Q,s,o.base q t u,r⟩
theorem lX.step {gm gl k0 kk:Nat} {P:Nat→Prop} {c:Cf} {sv:Value} {f:Fx} {y0 y:Ms} {W0 W a:World} (o:lX gm gl P c sv f y0 k0 W0) (n:Keeps P W0 W) (h:lX gm gl (ax (ax P W0 W) W a) c sv f y kk a) (b:Keeps (ax P W0 W) W a):lX gm gl (ax P W0 a) c sv f y kk a∧Keeps P W0 a:=by
 have k:Keeps P W0 a:=n.trans b (fun j g e=>by
  rcases e with e|e
  ·exact e
  ·omega)
 exact⟨o.base h k (fun j g=>g.step n.size b.size),k⟩
theorem lX.wide (v:lX gm gl P c sv f y0 k0 wc) (h:lX gm gl P' c sv f y kk W) (x:Keeps P wc W) (A:∀j,P' j→PX j) (z:∀j,PX j→j<W.heap.size) (b:∀j,j<wc.heap.size→PX j→P j):lX gm gl PX c sv f y kk W:=by
 obtain⟨r,B,o,C,s0,e,-⟩:=v;obtain⟨q,k,n,Q,s,t,u⟩:=h;have g:∀Y,Keeps PX W Y→Keeps P wc Y:=fun Y a=>x.trans a b
 exact⟨q,k,n,Q,s,t.Az A z (fun Y a=>⟨e.AI Y (g Y a),e.G.rd Y (g Y a)⟩),u⟩
theorem lX.xaC {ob:Nat} {W0 X:World} (C:lX gm gl P c sv f y0 k0 wc) (J:wc.heap.size≤W0.heap.size) (h:lX gm gl (ax P W0 W) c sv f y kk W) (v:Keeps P wc W) (G:wc.heap.size≤ob) (F:¬ax P W0 W ob) (q:Keeps (· =ob) W X) (hs:X.heap.size=W.heap.size):lX gm gl (ax P W0 X) c sv f y kk X∧Keeps P wc X:=by
 have r:Keeps P wc X:=v.trans q (fun j b e=>by have g:j=ob:=e;omega);have D:ax P W0 X=ax P W0 W:=by
  funext j
  unfold ax;rw[hs]
 refine⟨?_,r⟩;rw[D];obtain⟨z,E,u,I,s0,n,-⟩:=C;obtain⟨x,k,t,Q,s,A,B⟩:=h;have o:∀Y,Keeps (ax P W0 W) X Y→Keeps P wc Y:=fun Y a=>r.trans a (fun j b e=>by
  rcases e with e|e
  ·exact e
  ·omega)
 exact⟨x,k,t,Q,s,A.ah q (fun j b e=>F (by have g:j=ob:=e;rw[←g];exact b)) (fun Y a=>⟨n.AI Y (o Y a),n.G.rd Y (o Y a)⟩),B⟩
def Mb (gm gl:Nat) (P:Nat→Prop) (c:Cf) (sv:Value) (f:Fx) (y:Ms) (kk:Nat) (w:World) (r:Ending) (w':World):Prop:=r=.returned (K H 0)∧lX gm gl (ax P w w') c sv f y kk w'∧Keeps P w w'
theorem OT (h:lX gm gl P c sv f y kk w) (z:(y.b&&(y.x.kind !=3))=false) (i:Nat) (e g:Int) (x:c.bj[i]?=U (e,g)) (un:Int) (q:Rq) (hu:1≤un∧un≤247) (v:q.ok=true) (I:0≤y.now) (G:y.now≤600000000000000000):
  Calls Tryz.prog 26 #[.pointer (U ⟨gm,0,M⟩),K H (i:Int),K H un,.agg #[K H q.fn,K H q.addr,K H q.aF,K H q.code,K H q.obj]] w (Mb gm gl P c sv f ⟨y.n,true,(Tx.new e g c.re c.ti c.de).begun un q y.now,i,y.now⟩ 1 w):=by
 obtain⟨L,k,J,Q,s,t,-⟩:=h;obtain⟨D,B,F,C,E⟩:=q;refine(yM t z i e g x un D B F C E I G 0 ?_).mono fun r N u=>?_
 ·unfold bgE
  rw[if_pos hu,if_pos v]
 ·obtain ⟨b,A,a,j,s2,e1,e2,n,o⟩:=u.2 rfl
  exact⟨e1,⟨b,A,a,j,s2,e2,o⟩,n⟩
theorem Ug (h:lX gm gl P c sv f y kk w) (n:y.b=false) (o:y.n.pend=[]) (t:0≤y.now) (q:y.now≤600000000000000000):
  Calls Tryz.prog 22 #[.pointer (U ⟨gm,0,M⟩)] w fun r a=>∃now',r=.returned (.tuple #[])∧y.now≤now'∧now'≤y.now+20000000∧lX gm gl (ax P w a) c sv f ⟨y.n,false,y.x,y.set,now'⟩ kk a∧Keeps P w a:=by
 obtain⟨e,k,b,Q,s,g,j⟩:=h;refine(Kp g n o t q).mono fun r a ⟨now',e1,e2,e3,e4,e5⟩=>?_
 exact⟨now',e1,e2,e3,⟨e,k,b,Q,s,e4,j⟩,e5⟩
structure Rn (c:Sc) (Wp Dp:Nat→Du→Prop):Prop where
 zl:∀{m d},Wp m d→d.x.ph=1
 le:∀{m d},Wp m d→(m:Int)≤c.re
 bb:∀{m d},Wp m d→d.x.b=c.bd
 by_:∀{m d},Wp m d→d.x.bytes=c.fr
 se:∀{m d},Wp m d→d.n.j6 c.fr.length d.x.now=0
 pn:∀{m d},Wp m d→d.n.pend.length≤90000000
 sn:∀{m d},Wp m d→d.n.aA.length≤1000000000
 so:∀{m d},Wp m d→kC d.n.pend (fM c.l (cA c.aC c.lp d.n.aA.length) c.bd c.pa c.fr d.x.now)
 mu:∀{m d},Wp m d→(Du.mk (d.n.send c.l c.aC c.lp c.bd c.pa c.fr d.x.now) (d.x.aA (d.x.now+aK c.bd c.fr.length))).mu≤100000000
 next:∀{m d},Wp m d→Wp (m+1) (c.go d)∨Dp (m+1) (c.go d)
 ph5:∀{m d},Dp m d→d.x.ph=5
def Sg (d:Du) (i:Nat):Ms:=⟨d.n,true,d.x,(i:Int),d.x.now⟩
def IU (c:Sc) (d:Du) (i:Nat):Ms:=⟨d.n.send c.l c.aC c.lp c.bd c.pa c.fr d.x.now,true,d.x.aA (d.x.now+aK c.bd c.fr.length),(i:Int),d.x.now+aK c.bd c.fr.length⟩
theorem Uc (a:Rn sc Wp Dp) (h:lX gm gl P c sv f (Sg d i) kk w) (b:Wp m d) (j:c.bj[i]?=U (sc.bd,sc.pa)) (g:f.l=sc.l∧f.aC=sc.aC∧f.lp=sc.lp) (t:kk≤1000000000):
  Calls Tryz.prog 27 #[.pointer (U ⟨gm,0,M⟩)] w (Mb gm gl P c sv f (IU sc d i) (kk+1) w):=by
 obtain⟨o,k,n,Q,s,e,q⟩:=h;obtain⟨f1,f2,f3⟩:=g;refine(Ef e rfl (a.zl b) i sc.bd sc.pa j rfl (a.bb b) sc.fr (a.by_ b) (a.se b) (a.pn b) (a.sn b) (by omega) (by rw[f1,f2,f3];exact a.so b)).mono fun r w' ⟨gj2,k2,PL2,Q2,s2,e1,e2,e3,e4⟩=>?_
 rw[f1,f2,f3] at e2;exact⟨e1,⟨gj2,k2,PL2,Q2,s2,e2,by omega⟩,e3⟩
def xaX (gm gl:Nat) (P:Nat→Prop) (c:Cf) (sv:Value) (f:Fx) (d:Du) (i kk:Nat) (V:Bool) (w:World) (r:Ending) (w':World):Prop:=
 ∃da dc oa oc,r=.returned (.tuple #[.agg #[K H d.x.shown.verdict,K H d.x.shown.ae.fn,K H d.x.shown.ae.ar,J da d.x.shown.ae.data.length dc,K H d.x.shown.ae.code,K H d.x.shown.ae.level,.bool d.x.shown.ae.more,K H d.x.shown.ae.next,J oa d.x.shown.ae.ag.length oc],.bool V])∧(∀X,ay w.heap.size w' X→dG X d.x.shown.ae da dc oa oc)∧lX gm gl (ax P w w') c sv f (Sg d i) kk w'∧Keeps P w w'
theorem Kq (g:Rn sc Wp Dp) (h:lX gm gl P c sv f (IU sc d i) kk w) (n:Wp m d) (v:kk≤900000000) (V:Bool) (j:decide ((sc.go d).x.ph=5)=V):
  Calls Tryz.prog 23 #[.pointer (U ⟨gm,0,M⟩)] w (xaX gm gl P c sv f (sc.go d) i (kk+100000000) V w):=by
 obtain⟨b,k,t,Q,s,e,u⟩:=h;have q:=g.mu n;refine(vP e rfl (.inl rfl) (by show k+(Du.mk (d.n.send sc.l sc.aC sc.lp sc.bd sc.pa sc.fr d.x.now) (d.x.aA (d.x.now+aK sc.bd sc.fr.length))).mu≤_;omega)).mono fun r w' ⟨da,dc,oa,oc,k2,PL2,Q2,s2,e1,e2,e3,e4,e5⟩=>?_
 have a:k2≤k+(Du.mk (d.n.send sc.l sc.aC sc.lp sc.bd sc.pa sc.fr d.x.now) (d.x.aA (d.x.now+aK sc.bd sc.fr.length))).mu:=e5;have o:(Du.mk (IU sc d i).n (IU sc d i).x).heard=sc.go d:=rfl;rw[o] at e1 e2 e3;exact⟨da,dc,oa,oc,by rw[e1,j],e2,⟨b,k2,PL2,Q2,s2,e3,by omega⟩,e4⟩
structure Rest (y:Ms) (i:Nat):Prop where
 fin:(y.b&&(y.x.kind !=3))=false
 pend:y.n.pend=[]
 free:y.n.free≤y.now
 last:y.n.last≤y.now
 n0:0≤y.now
 n1:y.now≤20000000+90000000*i
 sn:y.n.aA.length≤6*i
def xb6 (c:Cf) (l:List Sl) (s:lg) (x0 x1 u:Int) (q:Rq) (s0:List ((Int×Int)×List UInt8)):Sc:=⟨l,s.aC,s.loop,x0,x1,u,q,c.re,c.ti,c.de,s0⟩
def Idle (gm gl B:Nat) (c:Cf) (l:List Sl) (s:lg) (i:Nat) (W:World):Prop:=∃P sv f y,lX gm gl P c sv f y 1000000000 W∧Rest y i∧(∀j,P j→B≤j)∧f.l=l∧f.aC=s.aC∧f.lp=s.loop
theorem xm {P:Program} {fn:Func} {p u z:Tmp} {ty:TypeId} (h:fn.results=#[.cell p ty,.tmp u,.tmp z]) (tmps:Array Value) (w:World) (g:Nat) (t:TypeId) (cs:Array Value) (fr:Nat×Nat) (d:TypeDesc)
  (o:tmps.getD p undef=.pointer (U ⟨g,0,M⟩)) (n:w.heap[g]?=U (I cs t fr))
  (hu:P.underlying ty=U d) (k:(match d with|.struct _|.array _ _=>true|_=>false)=true) (hi:(P.info? ty).map (·.size)=U cs.size):
  (results fn tmps).run P w=.ok (.tuple #[.agg cs,tmps.getD u undef,tmps.getD z undef]) w:=by
 have e:(results fn tmps).run P w=((asAddr (tmps.getD p undef)).run P w).andThen fun a b=>((loadVar ty a).run P b).andThen fun v j=>.ok (.tuple #[v,tmps.getD u undef,tmps.getD z undef]) j:=by
  simp only[results,h];simp [Sem.run_bind,Result.andThen]
 rw[e,o];simp [asAddr,run_loadVar_row w g t ty cs fr d n hu k hi]
def Mu (gm gl:Nat) (P:Nat→Prop) (c:Cf) (sv:Value) (f:Fx) (i:Nat) (Dp:Nat→Du→Prop) (w:World) (r:Ending) (w':World):Prop:=
 ∃(m:Nat) (d:Du) (da:Option Addr) (dc:Nat) (oa:Option Addr) (oc:Nat),Dp m d∧r=.returned (.tuple #[.agg #[K H d.x.shown.verdict,K H d.x.shown.ae.fn,K H d.x.shown.ae.ar,J da d.x.shown.ae.data.length dc,K H d.x.shown.ae.code,K H d.x.shown.ae.level,.bool d.x.shown.ae.more,K H d.x.shown.ae.next,J oa d.x.shown.ae.ag.length oc],K H (m:Int),.bool true])∧(∀X,ay w.heap.size w' X→dG X d.x.shown.ae da dc oa oc)∧lX gm gl (ax P w w') c sv f (Sg d i) 1000000000 w'∧Keeps P w w'
theorem G2 (h:lX gm gl P c sv f y kk w) (hz:(y.b&&(y.x.kind !=3))=false) (i:Nat) (un:Int) (q:Rq) (hu:1≤un∧un≤247) (hq:q.ok=true) (xg:0≤y.now) (sY:y.now≤600000000000000000)
  (hA:Rn sc Wp Dp) (hx:c.bj[i]?=U (sc.bd,sc.pa)) (hf:f.l=sc.l∧f.aC=sc.aC∧f.lp=sc.lp) (h0:Wp 0 ⟨y.n,(Tx.new sc.bd sc.pa c.re c.ti c.de).begun un q y.now⟩) (re:Int) (AG:sc.re=re) (aX:re≤5):
  Calls Tryz.prog 16 #[.pointer (U ⟨gm,0,M⟩),K H re,K H (i:Int),K H un,.agg #[K H q.fn,K H q.addr,K H q.aF,K H q.code,K H q.obj]] w (Mu gm gl P c sv f i Dp w):=by
 obtain⟨a,D⟩:∃W,(w.alloc (I #[K H q.fn,K H q.addr,K H q.aF,K H q.code,K H q.obj] 45)).alloc (I #[K H 0,K H 0,K H 0,J none 0 0,K H 0,K H 0,.bool false,K H 0,J none 0 0] 55)=W:=⟨_,rfl⟩
 have t:Below w.heap.size w a:=by rw[←D];exact bta (bal' w _) (Nat.le_refl _) _
 have av:a.heap.size=w.heap.size+2:=by rw[←D];simp
 have pQ:a.heap[w.heap.size]?=U (I #[K H q.fn,K H q.addr,K H q.aF,K H q.code,K H q.obj] 45):=by rw[←D];exact hpKeep (hpNew w _) (bal' _ _)
 have pO:a.heap[w.heap.size+1]?=U (I #[K H 0,K H 0,K H 0,J none 0 0,K H 0,K H 0,.bool false,K H 0,J none 0 0] 55):=by
  rw[←D];have h:=hpNew (w.alloc (I #[K H q.fn,K H q.addr,K H q.aF,K H q.code,K H q.obj] 45)) (I #[K H 0,K H 0,K H 0,J none 0 0,K H 0,K H 0,.bool false,K H 0,J none 0 0] 55);rw[World.size_alloc] at h;exact h
 have oF:=hid (h.bW t);have Xm:=hid (OT oF.out hz i sc.bd sc.pa hx un q hu hq xg sY);have wk:=hid D;have nk:=hid t;have a9:=hid av;have HH:=hid h;have B:=hid hA;have a8:=hid hx;have Ly:=hid hf;have H0:=hid h0;have a7:=hid AG;have a5:=hid pO;have g:Hid (∀W,¬ax P a W (w.heap.size+1)):=fun W e=>by
  rcases e with e|e
  ·have:=HH.out.yU _ e;omega
  ·omega
 have A:Hid (0≤re∧re≤5):=⟨by have:=hA.le h0;rw[AG] at this;omega,aX⟩
 have s1:IntKind.i64.wrap (re+1)=re+1:=IntWalk.i64_in _ (by have:=A.out;omega);clear h hz hu hq xg sY hA hx hf h0 AG aX D t av pO;go_enter Tryz.func16,Tryz.ntmps16;go_upto_region 1 with(fail)
 rw[wk.out];go_upto_region 3 with(first
  |(refine wpList_load_row rfl 45 (.tmp 9) rfl w.heap.size rfl 45 #[K H q.fn,K H q.addr,K H q.aF,K H q.code,K H q.obj] (0,0) _ pQ Tryz.underlying45 rfl infoRq5 ?_)
  |(go_at_call 26;(with_reducible refine Xm.out.mono ?_);rintro r w3 ⟨rfl,T,v⟩))
 have Lz:Hid (Keeps P a w3):=v;have Q:Hid (lX gm gl (ax P a w3) c sv f (Sg ⟨y.n,(Tx.new sc.bd sc.pa c.re c.ti c.de).begun un q y.now⟩ i) 1 w3):=T;have G:=hid (hpKeeps a5.out v (fun e=>g.out w3 (.inl e)));clear T v pQ Xm;go_wp2;go_loopw [13] (fun iv wr=>∃m:Nat,m≤5∧iv=K H ((m:Int)+1)∧(m:Int)≤re∧Hid (∃d kk,lX gm gl (ax P a wr) c sv f (Sg d i) kk wr∧kk≤1+m*100000001∧Wp m d)∧Hid (Keeps P a wr∧wr.heap[w.heap.size+1]?=U (I #[K H 0,K H 0,K H 0,J none 0 0,K H 0,K H 0,.bool false,K H 0,J none 0 0] 55))) (fun iv _=>8- (intOf iv).toNat)
 case atStart=>exact⟨0,by decide,rfl,A.out.1,⟨_,1,Q.out,by decide,H0.out⟩,Lz.out,G.out⟩
 case round=>
  clear H0 Q Lz G;obtain⟨m,bc,rfl,bA,ao,ad⟩:=hrel;obtain⟨d,k1,ab,kq,s⟩:=ao.out;have bx:(0:Int)≤(m:Int):=Int.natCast_nonneg _;have g1:(m:Int)+1≤re+1:=by omega
  have SQ:decide ((m:Int)+1≤re+1)=true:=decide_eq_true g1;have s2:IntKind.i64.wrap ((m:Int)+1+1)=(m:Int)+1+1:=IntWalk.i64_in _ (by omega);have R:=hid (Uc B.out ab s a8.out Ly.out (by omega));obtain⟨V,hV⟩:∃V,decide ((sc.go d).x.ph=5)=V:=⟨_,rfl⟩
  obtain⟨O,hO⟩:=gE ((sc.go d).x.shown);have HV:=hid hV;have HO:=hid hO;have o:=hid s;have Qb:=hid kq;have KS:=hid bc;clear ao ab kq s hV hO;go_upto_region 8 with(go_at_call 27;(with_reducible refine R.out.mono ?_);rintro r w4 ⟨rfl,Y,x⟩)
  have KW:=hid (lX.step oF.out ad.out.1 Y x);have L:=hid (hpKeeps ad.out.2 x (g.out _));have uM:=hid (Kq B.out KW.out.1 o.out (by have:=Qb.out;have:=KS.out;omega) V HV.out);clear Y x R;go_upto_region 9 with(first
   |(go_at_call 23;(with_reducible refine uM.out.mono ?_);rintro r w5 ⟨da,dc,oa,oc,rfl,AF,Z,n⟩;rw[HO.out])
   |(refine wpList_storeW rfl 55 (.tmp 14) (.tmp 36) rfl w5.heap.size 0 _ 55 #[K H O.verdict,K H O.ae.fn,K H O.ae.ar,J da O.ae.data.length dc,K H O.ae.code,K H O.ae.level,.bool O.ae.more,K H O.ae.next,J oa O.ae.ag.length oc] rfl rfl (hpNew w5 _) (by simp) sE rfl ?_;intro E g6 uF bm))
  obtain⟨p6,b⟩:=cJ (by rfl) g6 uF;have KX:=hid (lX.step oF.out KW.out.2 Z n);have C:Hid (lX gm gl (ax P a E) c sv f (Sg (sc.go d) i) (k1+1+100000000) E∧Keeps P a E):=by
   have hk:Keeps P a E:=KX.out.2.trans (Keeps.af (F:=fun _=>False) b) (fun _ _ e=>e.elim);exact⟨oF.out.base (KX.out.1.bW b) hk (fun j u=>by
    rcases u with e|e
    ·exact .inl e
    ·exact .inr ⟨e.1,by have:=b.size;omega⟩),hk⟩
  have N:=hid (hpKeep (hpKeeps L.out n (g.out _)) b);have a6:=hid AF;have HZ:Hid (a.heap.size≤w4.heap.size∧w4.heap.size≤w5.heap.size):=⟨KW.out.2.size,n.size⟩
  have a4:=hid p6;have aY:=hid b;clear g6 uF bm Z n AF p6 b uM L;cases V with
  |false=>
   have S:Hid (Wp (m+1) (sc.go d)):=by
    rcases B.out.next o.out with h|h
    ·exact h
    ·have h5:=B.out.ph5 h
     have:=HV.out;rw[decide_eq_true h5] at this;cases this
   have hle:=B.out.le S.out;rw[a7.out] at hle;go_wp2;go_roundw
   case rel=>exact⟨m+1,by have:=A.out;omega,by go_num,by omega,⟨_,_,C.out.1,by have:=Qb.out;omega,S.out⟩,C.out.2,N.out⟩
   case measure=>simp [intOf];omega
  |true=>
   have a3:Hid (Dp (m+1) (sc.go d)):=by
    rcases B.out.next o.out with h|h
    ·have h5:=B.out.zl h
     have:=HV.out;rw[decide_eq_false (by rw[h5];decide)] at this;cases this
    ·exact h
   have p6:=a4.out;have o6:=N.out;go_wp2_with (first
    |(refine wpList_load_row rfl 55 (.tmp 14) rfl w5.heap.size rfl 55 #[K H O.verdict,K H O.ae.fn,K H O.ae.ar,J da O.ae.data.length dc,K H O.ae.code,K H O.ae.level,.bool O.ae.more,K H O.ae.next,J oa O.ae.ag.length oc] (0,0) _ p6 Tryz.underlying55 rfl sE ?_)
    |(refine wpList_storeW rfl 55 (.tmp 10) (.tmp 39) rfl (w.heap.size+1) 0 _ 55 #[K H O.verdict,K H O.ae.fn,K H O.ae.ar,J da O.ae.data.length dc,K H O.ae.code,K H O.ae.level,.bool O.ae.more,K H O.ae.next,J oa O.ae.ag.length oc] rfl rfl o6 (by simp) sE rfl ?_;intro w7 g7 z bn))
   have ba:w7.heap[w.heap.size+1]?=U (I #[K H O.verdict,K H O.ae.fn,K H O.ae.ar,J da O.ae.data.length dc,K H O.ae.code,K H O.ae.level,.bool O.ae.more,K H O.ae.next,J oa O.ae.ag.length oc] 55):=g7;refine bodyPost_ret (xm rfl _ _ (w.heap.size+1) 55 _ (0,0) _ rfl ba Tryz.underlying55 rfl sE) rfl ?_;have bo:Keeps P w w7:=((Keeps.af (F:=P) nk.out).trans C.out.2 (fun _ _ e=>e)).trans z (fun j u e=>by have e':j=w.heap.size+1:=e;omega);have rK:=C.out.2.size;have bC:=a9.out;refine⟨m+1,sc.go d,da,dc,oa,oc,a3.out,by rw[HO.out];rfl,fun X hX=>?_,?_,bo⟩
   ·refine a6.out X ?_
    have bK:=HZ.out;have a1:ay w4.heap.size w5 E:=ay.af aY.out;have a2:ay w4.heap.size E w7:=ay.dg z (fun k e=>by have e':k=w.heap.size+1:=e;omega);exact(a1.trans a2).trans (hX.mono (by omega))
   ·have ak:=HH.out.xaC (W0:=a) (wc:=w) (ob:=w.heap.size+1) nk.out.size C.out.1 ((Keeps.af (F:=P) nk.out).trans C.out.2 (fun _ _ e=>e)) (Nat.le_succ _) (g.out _) z bn
    refine(HH.out.wide ak.1 ak.2 (fun j u=>?_) (fun j u=>?_) (fun j u e=>?_)).le (by have:=Qb.out;have:=KS.out;omega)
    ·rcases u with e|e
     ·exact .inl e
     ·exact .inr ⟨by omega,e.2⟩
    ·rcases u with e|e
     ·have:=HH.out.yU j e
      omega
     ·exact e.2
    ·rcases e with e|e
     ·exact e
     ·omega
theorem GW (c:Cf) (l:List Sl) (s:lg) (sv lv av cv kv:Value) (w:World) (o:Dn c l s) (hR:dw w sv c.bj) (hL:dm w lv l) (hA:ke w av s.aC) (hC:dw w cv s.cr):
  Calls Tryz.prog 14 #[.agg (wm c sv lv av s.loop cv kv)] w fun r w'=>∃gl gm,r=.returned (.tuple #[.pointer (U ⟨gl,0,M⟩),.pointer (U ⟨gm,0,M⟩),.bool true])∧Idle gm gl w.heap.size c l s 0 w'∧Below w.heap.size w w':=by
 obtain⟨n,hn⟩:=gE c.bj.length;obtain⟨ln,kN⟩:=gE l.length;obtain⟨an,lG⟩:=gE s.aC.length;obtain⟨L,rT⟩:=gE s.cr.length;obtain⟨lp,V⟩:=gE s.loop;obtain⟨sa,sc,zJ,-⟩:=id hR;obtain⟨la,lc,qQ⟩:=hL.KH;obtain⟨aa,ac,VK,-⟩:=id hA;obtain⟨F,G,VN,-⟩:=id hC;rw[hn] at zJ;rw[kN] at qQ;rw[lG] at VK;rw[rT] at VN;subst zJ qQ VK VN;rw[V];obtain⟨C,qd⟩:=gE (yh c (J sa n sc));have hi:(Tryz.prog.info? 27).map (·.size)=U C.size:=by rw[←qd];exact qV
 obtain⟨D,N⟩:=gE (wm c (J sa n sc) (J la ln lc) (J aa an ac) lp (J F L G) kv);rw[N];obtain⟨z,bo,Q,pD⟩:=eY w (I D 35);have U9:Hid (∀X,Below z.heap.size z X→∀j u,C.toList[j]?=U u→X.cell? ((⟨w.heap.size,0,M⟩:Addr).add j)=U u):=fun X t j u k=>by
  rw[Addr.add_lit,Nat.zero_add,hpCell (hpKeep pD t),←N];exact Hf (by rw[qd];exact k)
 have Vo:Hid (∀j u,(#[J aa an ac,.bool lp,J F L G]:Array Value).toList[j]?=U u→z.cell? ((⟨w.heap.size,17,M⟩:Addr).add j)=U u):=fun j u k=>by
  rw[Addr.add_lit,hpCell pD,←N];rcases j with _|_|_|j
  ·cases k;rfl
  ·cases k;rfl
  ·cases k;rfl
  ·cases k
 have t16:z.cell? ⟨w.heap.size,16,M⟩=U (J la ln lc):=(hpCell pD 16).trans (by rw[←N];rfl);have aX:Hid (∀X,Below w.heap.size w X→Calls Tryz.prog 24 #[J la ln lc,.agg #[J aa an ac,.bool lp,J F L G]] X (jx X l lp s.aC)):=fun X t=>by
  have h:=sS l s la ln lc (J aa an ac) (J F L G) X kN (hL.ah t) (hA.ah t) (hC.ah t) o.2.2.2.1 o.2.2.2.2.2;rw[V] at h;exact h
 have ao:Hid (∀X r E,jx X l lp s.aC r E→∃g a c a2 c2,r=.returned (.tuple #[.pointer (U ⟨g,0,M⟩),K H 0])∧cU (fun j=>j=g) E g (J a l.length c) (J a2 s.aC.length c2) lp Ln.zero∧IA (fun j=>j=g) E a l.length c a2 s.aC.length c2 l s.aC lp∧X.heap.size≤g∧Below X.heap.size X E):=fun X r E h=>
  h.at o.2.2.2.1 o.2.2.2.2.2.2.2.2.2 (fun e=>by
   have h2:=o.2.2.2.2.2.2.1
   rw[V] at h2
   have:¬s.aC.length=0:=fun e2=>h2 ⟨e,e2⟩
   omega)
 have a3:Hid (∀X g,Below w.heap.size w X→Calls Tryz.prog 25 #[.agg C,.pointer (U ⟨g,0,M⟩),K H 0] X (Ft c (.pointer (U ⟨g,0,M⟩)) 0 X)):=fun X g t=>by
  rw[←qd];exact Ec c o.2.1 _ g 0 (by decide) (by decide) X (hR.ah t)
 have HP:=hid o;have aY:=hid V;have a4:=hid bo;have q:=hid Q;clear o hR hL hA hC hn kN lG rT V qd N bo Q pD;go_enter Tryz.func14,Tryz.ntmps14;go_upto_region 1 with(fail)
 rw[a4.out];go_upto_region 2 with(first
  |(refine aZ rfl 32 (.tmp 12) rfl ⟨w.heap.size,17,M⟩ rfl #[J aa an ac,.bool lp,J F L G] _ Vo.out Tryz.underlying32 rfl bu ?_)
  |(go_at_call 24;(with_reducible refine(aX.out _ q.out).mono ?_);rintro r w6 S;obtain⟨gl,a6,c6,a7,c7,rfl,Nx,O,NJ,b⟩:=ao.out _ _ _ S))
 have bm:=hid Nx;have ab:=hid O;have z6:=bt q.out b (Nat.le_refl _);have ad:Hid (z.heap.size≤gl):=NJ;have mL:=hid b;clear S Nx O NJ t16;go_upto_region 3 with(first
  |(refine aZ rfl 27 (.tmp 18) rfl ⟨w.heap.size,0,M⟩ rfl C _ (U9.out _ b) Tryz.underlying27 rfl hi ?_)
  |(go_at_call 25;(with_reducible refine(a3.out _ gl z6).mono ?_);rintro r w8 ⟨gm,bc,rfl,R,Z,T,FY⟩))
 have B:=hid (lr.start (f:=⟨a6,l.length,c6,a7,s.aC.length,c7,lp,l,s.aC⟩) bm.out ab.out Ln.jE HP.out.2.1 R Z T FY (Tx.new 0 0 0 0 0) (Lk.new 0 0 0 0 0));have ak:Hid (z.heap.size≤gm):=by have:=mL.out.size;show _≤_;omega
 have a8:Hid (lX gm gl (fun j=>j=gl∨j=gm) c bc ⟨a6,l.length,c6,a7,s.aC.length,c7,lp,l,s.aC⟩ ⟨Ln.zero,false,Tx.new 0 0 0 0 0,0,0⟩ 0 w8):=⟨0,0,_,_,_,B.out,Nat.le_refl _⟩
 have a5:=hid (Ug a8.out rfl rfl (by decide) (by decide));have A:Hid (Below w.heap.size w w8):=bt z6 FY (Nat.le_refl _);clear R Z T FY B b z6;go_wp2_with (go_at_call 22;(with_reducible refine a5.out.mono ?_);rintro r w9 ⟨Y,rfl,x,bn,a9,ba⟩);have bx:=q.out.size;have e1:=ad.out;have e2:=ak.out;have e3:=A.out.size;refine bodyPost_ret (v:=.tuple #[.pointer (U ⟨gl,0,M⟩),.pointer (U ⟨gm,0,M⟩),.bool true]) (by simp [results,Tryz.results14,go_sem]) rfl ?_;refine⟨gl,gm,rfl,⟨_,_,_,_,a9.le (by decide),⟨rfl,rfl,x,x,x,by show Y≤_;have h:Y≤0+20000000:=bn;omega,Nat.zero_le _⟩,fun j k=>?_,rfl,rfl,aY.out.symm⟩,A.out.trans (ba.below e3 (fun j k e=>by rcases e with e|e<;>omega))⟩;rcases k with(e|e)|e<;>omega
def qC:Sl:={Uv 9600 with pa:=1}
def EM:Cf:=⟨[(9600,1)],1,2,1,1000,0,fun k=>if k=2 then (100,8) else (0,0),1,10000⟩
def q20:Rq:=⟨3,12,2,0,0⟩
def AN:Tx:=(Tx.new 9600 1 1 1000 0).begun 7 q20 0
def Yi:List UInt8:=AN.bytes
def GJ:Ln:=Ln.zero.send [qC] [] false 9600 1 Yi 0
def Cc:Int:=0+aK 9600 8
def qW:Du:=(Du.mk GJ (AN.aA Cc)).heard
theorem SG:(Du.mk GJ (AN.aA Cc)).heard=qW:=rfl
theorem DZ:Yi.length=8:=by kernel_rfl
theorem Ij:qW.x.ph=5:=by kernel_rfl
theorem DX:qW.x.out.verdict=1∧qW.x.out.ae.data.length=4:=by
 constructor
 ·kernel_rfl
 ·kernel_rfl
theorem Nd:decide (0<qW.x.now)=true:=by kernel_rfl
theorem JE:qW.n.aA.length=1:=by kernel_rfl
theorem SH:decide ((Du.mk GJ (AN.aA Cc)).mu≤1000)=true:=by kernel_rfl
theorem Vz:oA EM=0:=by kernel_rfl
