import Derived.Test.YtoaoejaodhedaaaGreatV04
namespace Go.Proofs.YtoaoejaodhedaaaGreat
open Go.RowKit
open Value renaming slice→J,int→U
open Option renaming none→M,some→N
open IntKind renaming i64→Y
open Obj renaming cells→K
set_option maxHeartbeats 6400000
set_option maxRecDepth 100000
variable {c x:Ch} {de p ti:Int} {r:List Ch} {b g:Nat} {ov sv v:Value} {W X w:World}
def Uv (bd:Int):Sl:=⟨bd,0,7,fun k=>if k=2 then ⟨true,[(10,10)],5⟩ else ⟨false,[],0⟩,0,[],true,[9,255]⟩
def Sh (bd:Int) (p q:Nat):Array Value:=#[U Y bd,U Y 0,U Y 7,.bool false,J none 0 0,U Y 0,.bool false,J none 0 0,U Y 0,.bool true,J (N ⟨q,0,M⟩) 1 1,U Y 5,.bool false,J none 0 0,U Y 0,U Y 0,J none 0 0,.bool true,J (N ⟨p,0,M⟩) 2 2]
theorem TW:(Tryz.prog.info? 65).map (·.size)=N 3:=by kernel_rfl
structure X7 (w W:World) (p q:Nat):Prop where
 P:W.heap[p]?=N (K #[U .u8 9,U .u8 255] 5)
 Q:W.heap[q]?=N (K #[U Y 10,U Y 10] 24)
 b:Below w.heap.size w W
 lp:w.heap.size≤p
 lq:w.heap.size≤q
theorem X7.slr {p q:Nat} (h:X7 w W p q) (n:ay w.heap.size W X) (bd:Int) (D:bT bd):nO X (Uv bd) (fun k=>if k=2 then J (N ⟨q,0,M⟩) 1 1 else J none 0 0) (J none 0 0) (J (N ⟨p,0,M⟩) 2 2):=by
 have B:X.heap[p]?=N (K #[U .u8 9,U .u8 255] 5):=by rw[n.block p h.lp (hpLt h.P)];exact h.P
 have C:X.heap[q]?=N (K #[U Y 10,U Y 10] 24):=by rw[n.block q h.lq (hpLt h.Q)];exact h.Q
 have m:bT 0:=by unfold bT;omega
 have w5:bT 5:=by unfold bT;omega
 have E:bT 7:=by unfold bT;omega
 have a:bT 10:=by unfold bT;omega
 refine⟨fun k A=>?_,cY.nil X,?_,fun k A=>?_,E,m,D,m⟩
 ·by_cases e:k=2
  ·subst e
   refine⟨some ⟨q,0,M⟩,1,rfl,Nat.le_refl 1,(by unfold maxLen;decide),(fun e=>by cases e),fun _=>⟨q,0,rfl,fun i x s=>?_⟩⟩;have hi:i=0:=by
    have y:=(List.getElem?_eq_some_iff.1 s).1;have z:i<1:=y;omega
   subst hi;have t:x=(10,10):=by
    have d:some ((10,10):Int×Int)=N x:=s;injection d with d
    exact d.symm
   subst t;refine⟨[U Y 10,U Y 10],rfl,⟨rfl,a,a⟩,fun j u f=>?_⟩;rw[hpCell C];rcases j with _|_|j
   ·exact f
   ·exact f
   ·cases f
  ·have e1:((Uv bd).ts k).rd=[]:=by unfold Uv;dsimp only;rw[if_neg e]
   rw[e1];rw[if_neg e];exact gY.nil X
 ·refine Bs.mk (b:=p) (o:=0) (c:=2) (l:=[9,255]) (Nat.le_refl 2) (by unfold maxLen;decide) (fun i hi=>?_)
  rw[hpCell B];have z:i<2:=hi;rcases (show i=0∨i=1 by omega) with rfl|rfl<;>rfl
 ·show bT (if k=2 then (⟨true,[(10,10)],5⟩:iP) else ⟨false,[],0⟩).al
  split
  ·exact w5
  ·exact m
def Sm (w:World) (r:Ending) (w':World):Prop:=∃p q,r=.returned (.agg (Sh 9600 p q))∧X7 w w' p q
theorem Uw (w:World):Calls Tryz.prog 50 #[] w (Sm w):=by
 obtain⟨d,y⟩:∃W,w.alloc (K #[U Y 0,U Y 0,U Y 0,.bool false,J none 0 0,U Y 0,.bool false,J none 0 0,U Y 0,.bool false,J none 0 0,U Y 0,.bool false,J none 0 0,U Y 0,U Y 0,J none 0 0,.bool false,J none 0 0] 68)=W:=⟨_,rfl⟩
 have E:Below w.heap.size w d:=by rw[←y];exact bal' w _
 have P:d.heap.size=w.heap.size+1:=by rw[←y];simp
 have pZ:d.heap[w.heap.size]?=N (K #[U Y 0,U Y 0,U Y 0,.bool false,J none 0 0,U Y 0,.bool false,J none 0 0,U Y 0,.bool false,J none 0 0,U Y 0,.bool false,J none 0 0,U Y 0,U Y 0,J none 0 0,.bool false,J none 0 0] 68):=by rw[←y];exact hpNew w _
 have ao:=hid y;have S:=hid E;have k:=hid P;have V:=hid pZ;clear y E P pZ;go_enter Tryz.func50,Tryz.ntmps50;go_upto_region 1 with(fail)
 rw[ao.out];go_upto_region 2 with(refine wpList_storeW rfl 68 (.tmp 1) (.tmp 4) rfl (d.heap.size+1) 0 _ 68 #[U Y 9600,U Y 0,U Y 7,.bool false,J none 0 0,U Y 0,.bool false,J none 0 0,U Y 0,.bool false,J none 0 0,U Y 0,.bool false,J none 0 0,U Y 0,U Y 0,J none 0 0,.bool true,J (N ⟨d.heap.size,0,M⟩) 2 2] rfl rfl (by have h:=hpNew (d.alloc (K #[U .u8 9,U .u8 255] 5)) (K #[U Y 0,U Y 0,U Y 0,.bool false,J none 0 0,U Y 0,.bool false,J none 0 0,U Y 0,.bool false,J none 0 0,U Y 0,.bool false,J none 0 0,U Y 0,U Y 0,J none 0 0,.bool false,J none 0 0] 68);simpa using h) (by simp) dX rfl ?_;intro l Q a aY)
 dsimp only[Act.put];obtain⟨p,hp⟩:=gE d.heap.size;rw[hp] at Q a ⊢;obtain⟨sb,Gk⟩:∃n,p+1=n:=⟨_,rfl⟩
 rw[Gk] at Q a ⊢;have m:l.heap[sb]?=N (K #[U Y 9600,U Y 0,U Y 7,.bool false,J none 0 0,U Y 0,.bool false,J none 0 0,U Y 0,.bool false,J none 0 0,U Y 0,.bool false,J none 0 0,U Y 0,U Y 0,J none 0 0,.bool true,J (N ⟨p,0,M⟩) 2 2] 68):=Q;have R:Below d.heap.size d ((d.alloc (K #[U .u8 9,U .u8 255] 5)).alloc (K #[U Y 0,U Y 0,U Y 0,.bool false,J none 0 0,U Y 0,.bool false,J none 0 0,U Y 0,.bool false,J none 0 0,U Y 0,.bool false,J none 0 0,U Y 0,U Y 0,J none 0 0,.bool false,J none 0 0] 68)):=bta (bal' d _) (Nat.le_refl _) _;have z:l.heap[p]?=N (K #[U .u8 9,U .u8 255] 5):=hpKeeps (by rw[←hp];exact hpKeep (hpNew d _) (bal' _ _)) a (fun e=>by have s:p=sb:=e;omega);have B:l.heap[w.heap.size]?=N (K #[U Y 0,U Y 0,U Y 0,.bool false,J none 0 0,U Y 0,.bool false,J none 0 0,U Y 0,.bool false,J none 0 0,U Y 0,.bool false,J none 0 0,U Y 0,U Y 0,J none 0 0,.bool false,J none 0 0] 68):=hpKeeps (hpKeep V.out R) a (fun e=>by have s:w.heap.size=sb:=e;have:=k.out;omega);have F:Below w.heap.size w l:=(bt S.out R (Nat.le_refl _)).trans (a.below (by have:=R.size;have:=k.out;omega) (fun j hj e=>by have:=k.out;omega));have nk:=hid F;have i:Hid (w.heap.size<p∧p<sb):=by have:=k.out;show _∧_;omega
 have KU:=hid z;have ad:=hid B;have ak:=hid m;have L:(l.alloc (K #[U Y 10,U Y 10] 24)).heap[sb]?=N (K #[U Y 9600,U Y 0,U Y 7,.bool false,J none 0 0,U Y 0,.bool false,J none 0 0,U Y 0,.bool false,J none 0 0,U Y 0,.bool false,J none 0 0,U Y 0,U Y 0,J none 0 0,.bool true,J (N ⟨p,0,M⟩) 2 2] 68):=hpKeep m (bal' _ _);clear Q a aY hp Gk m R z B F;go_upto_region 3 with(refine wpList_storeW rfl 65 (.tmp 9) (.tmp 7) rfl sb 9 _ 68 #[.bool true,J (N ⟨l.heap.size,0,M⟩) 1 1,U Y 5] rfl rfl L (by simp) TW rfl ?_;intro w3 g3 f OF)
 dsimp only[Act.put];obtain⟨q,hq⟩:=gE l.heap.size;rw[hq] at g3 ⊢;have D:w3.heap[sb]?=N (K (Sh 9600 p q) 68):=g3;have O:w.heap.size≤q∧sb<q:=by have:=nk.out.size;have:=hpLt ak.out;omega
 have A:w3.heap[p]?=N (K #[U .u8 9,U .u8 255] 5):=hpKeeps (hpKeep KU.out (bal' _ _)) f (fun e=>by have s:p=sb:=e;have:=i.out;omega);have SW:w3.heap[q]?=N (K #[U Y 10,U Y 10] 24):=hpKeeps (by rw[←hq];exact hpNew l _) f (fun e=>by have s:q=sb:=e;omega);have av:w3.heap[w.heap.size]?=N (K #[U Y 0,U Y 0,U Y 0,.bool false,J none 0 0,U Y 0,.bool false,J none 0 0,U Y 0,.bool false,J none 0 0,U Y 0,.bool false,J none 0 0,U Y 0,U Y 0,J none 0 0,.bool false,J none 0 0] 68):=hpKeeps (hpKeep ad.out (bal' _ _)) f (fun e=>by have s:w.heap.size=sb:=e;have:=i.out;omega);have G:Below w.heap.size w w3:=(bta nk.out (Nat.le_refl _) _).trans (f.below (by simp;have:=nk.out.size;omega) (fun j hj e=>by have:=i.out;omega));obtain⟨C,t⟩:=gE (Sh 9600 p q);rw[t] at D;have I:C.size=19:=by rw[←t];rfl
 have hi:(Tryz.prog.info? 68).map (·.size)=N C.size:=by rw[←t];exact dX
 have aX:C.toList.all (·.oneCell')=true:=by rw[←t];rfl
 have u:=hid G;have T:=hid A;have Z:=hid SW;have U8:=hid t;have ab:=hid O;clear g3 f OF hq L t G A SW O;go_wp2_with (first
  |(refine wpList_load_row rfl 68 (.tmp 1) rfl sb rfl 68 C (0,0) _ D Tryz.underlying68 rfl hi ?_)
  |(refine wpList_storeW rfl 68 (.tmp 0) (.tmp 10) rfl w.heap.size 0 _ 68 C rfl rfl av (by simp [I]) hi aX ?_;intro w8 g8 o a2))
 have g9:w8.heap[w.heap.size]?=N (K C 68):=by
  rw[g8,List.drop_eq_nil_of_le (by simp [I])];simp
 refine bodyPost_ret (results_cell_row rfl _ _ w.heap.size 68 C (0,0) _ rfl g9 Tryz.underlying68 rfl hi) rfl ?_;obtain⟨l1,l2⟩:=i.out;obtain⟨l3,l4⟩:=ab.out;refine⟨p,q,by rw[U8.out],⟨hpKeeps T.out o (fun e=>by have s:p=w.heap.size:=e;omega),hpKeeps Z.out o (fun e=>by have s:q=w.heap.size:=e;omega),u.out.trans (o.below u.out.size (fun j hj e=>by omega)),by omega,l3⟩⟩
theorem Pf {s:Sl} {a:Nat→Value} (m:nO X s a ov sv) (h:X.heap[b]?=N (K (SlC s a ov sv) 68)):dm X (J (N ⟨b,0,M⟩) 1 1) [s]:=by
 refine⟨some ⟨b,0,M⟩,1,rfl,Nat.le_refl 1,(by unfold maxLen;decide),(fun e=>by cases e),fun _=>⟨b,0,rfl,fun i x f=>?_⟩⟩;have hi:i=0:=by
  have l:=(List.getElem?_eq_some_iff.1 f).1;have o:i<1:=l;omega
 subst hi;have k:x=s:=by
  have d:some s=N x:=f;injection d with d
  exact d.symm
 subst k;refine⟨(SlC x a ov sv).toList,rfl,⟨a,ov,sv,rfl,m⟩,fun j u n=>?_⟩;rw[hpCell h];simpa using n
theorem ChS.drew {p:Nat} {A B:Obj} (h:ChS g p A B W):ChS g p A B W.drew:=h
theorem Lk.pL.trans {s t v:Lk} (h:s.pL t) (k:t.pL v):s.pL v:=⟨k.b.trans h.b,k.p.trans h.p,k.re.trans h.re,k.ti.trans h.ti,k.dr.trans h.dr,k.fa.trans h.fa,k.fn.trans h.fn,k.fc.trans h.fc,k.un.trans h.un,k.q.trans h.q⟩
def Ln.SN (s:Ln) (x:Ch):Ev:=⟨x.at_,UInt8.ofNat x.val.toNat,(s.ev x).fl⟩
theorem Ln.SP (s:Ln) (h:Jm x):((s.SN x).v.toNat:Int)=x.val:=
 au h.v0 h.v1
structure Du where
 n:Ln
 x:Tx
def lb (x:Tx):Bool:=decide (x.ph=2∨x.ph=3∨x.ph=4)
theorem iu (x:Tx):lb x=true↔x.aP:=decide_eq_true_iff
def Du.step (y:Du):Du:=match y.n.pend with
 |[]=>⟨y.n,y.x.bR⟩
 |c::r=>if c.at_≤y.x.til then ⟨y.n.next c r,y.x.ll (y.n.SN c)⟩ else ⟨y.n,y.x.bR⟩
def tR (p:Int):Nat:=if p=2 then 3 else if p=3 then 2 else if p=4 then 1 else 0
def Du.mu (y:Du):Nat:=y.n.pend.length+tR y.x.ph
def Du.listen:Nat→Du→Du
 |0,y=>y
 |n+1,y=>if lb y.x=true then Du.listen n y.step else y
def Du.heard (y:Du):Du:=Du.listen y.mu y
theorem Tx.xcd {x:Tx} (h:x.aP):tR x.bR.ph<tR x.ph:=by
 unfold Tx.bR;rcases h with h|h|h
 ·rw [if_pos h,h]
  show tR 4<tR 2;decide
 ·rw [if_neg (by omega),if_pos h,h]
  split
  ·show tR 5<tR 3
   decide
  ·show tR 4<tR 3
   decide
 ·rw [if_neg (by omega),if_neg (by omega),h]
  split
  ·show tR 1<tR 4
   decide
  ·show tR 5<tR 4
   decide
theorem Tx.xa2 (x:Tx) (e:Ev):tR (x.ll e).ph≤tR x.ph:=by
 unfold Tx.ll;split
 ·split
  ·rename_i d
   have a:tR 4≤tR x.ph∧tR 3≤tR x.ph:=by
    rcases d with e|⟨e,-⟩<;>rw[e]<;>decide
   split
   ·exact a.1
   ·exact a.2
  ·exact Nat.le_refl _
 ·exact Nat.le_refl _
theorem Du.y7 {y:Du} (h:y.n.pend=[]):y.step=⟨y.n,y.x.bR⟩:=by unfold Du.step;rw[h]
theorem Du.CG {y:Du} (h:y.n.pend=c::r) (a:c.at_≤y.x.til):y.step=⟨y.n.next c r,y.x.ll (y.n.SN c)⟩:=by
 unfold Du.step;rw[h];exact if_pos a
theorem Du.ze {y:Du} (h:y.n.pend=c::r) (a:¬c.at_≤y.x.til):y.step=⟨y.n,y.x.bR⟩:=by
 unfold Du.step;rw[h];exact if_neg a
theorem Du.xZ {y:Du} (h:y.x.aP):y.step.mu<y.mu:=by
 have d:=Tx.xcd h;cases e:y.n.pend with
 |nil=>
  rw[Du.y7 e];show y.n.pend.length+tR y.x.bR.ph<y.n.pend.length+tR y.x.ph;omega
 |cons c r=>
  by_cases a:c.at_≤y.x.til
  ·have f:=Tx.xa2 y.x (y.n.SN c)
   rw[Du.CG e a];show r.length+tR (y.x.ll (y.n.SN c)).ph<y.n.pend.length+tR y.x.ph;rw[e,List.length_cons];omega
  ·rw [Du.ze e a]
   show y.n.pend.length+tR y.x.bR.ph<y.n.pend.length+tR y.x.ph;omega
theorem Du.jD {y:Du} (h:lb y.x=false):∀n,Du.listen n y=y
 |0=>rfl
 |n+1=>by
  unfold Du.listen;rw[h];rfl
theorem Pz (h:tR p=0):¬(p=2∨p=3∨p=4):=by
 rintro (e|e|e)<;>subst e<;>exact absurd h (by decide)
theorem Du.Cz {y:Du} (h:y.mu≤0):lb y.x=false:=by
 have a:tR y.x.ph=0:=by unfold Du.mu at h;omega
 exact decide_eq_false (Pz a)
theorem Du.n4 {y:Du} (h:lb y.x=true) (n:Nat):Du.listen (n+1) y=Du.listen n y.step:=by
 show (if lb y.x=true then _ else _)=_;rw[if_pos h]
theorem Du.vm:∀(n m:Nat) (y:Du),y.mu≤n→y.mu≤m→Du.listen n y=Du.listen m y
 |0,m,y,h,_=>by rw[Du.jD (Du.Cz h),Du.jD (Du.Cz h)]
 |n+1,m,y,h,h2=>by
  cases hb:lb y.x with
  |false=>rw[Du.jD hb,Du.jD hb]
  |true=>
   have hm:=Du.xZ ((iu y.x).1 hb);obtain⟨k,rfl⟩:∃k,m=k+1:=⟨m-1,by omega⟩
   rw[Du.n4 hb,Du.n4 hb];exact Du.vm n k y.step (by omega) (by omega)
theorem Du.JO {y:Du} (h:lb y.x=false):y.heard=y:=Du.jD h _
theorem Du.Ga {y:Du} (h:lb y.x=true):y.step.heard=y.heard:=by
 have hm:=Du.xZ ((iu y.x).1 h);rw[show y.heard=Du.listen (y.mu+1) y from Du.vm _ _ y (Nat.le_refl _) (Nat.le_succ _),Du.n4 h];exact Du.vm _ _ y.step (Nat.le_refl _) (by omega)
structure Sc where
 l:List Sl
 aC:List At
 lp:Bool
 bd:Int
 pa:Int
 u:Int
 q:Rq
 re:Int
 ti:Int
 de:Int
 s0:List ((Int×Int)×List UInt8)
def Sc.at_ (c:Sc) (i:Nat):At:=cA c.aC c.lp (c.s0.length+i)
def Sc.fr (c:Sc):List UInt8:=aO c.u c.q
structure Sc.ok (c:Sc):Prop where
 Bq:cW c.l
 aC:∀z∈c.aC,z.ok
 set:aU c.bd c.pa
 u1:1≤c.u
 u2:c.u≤247
 q:c.q.ok=true
 mW:0≤c.ti
 oj:c.ti≤5000000
 oy:0≤c.de
 o7:c.de≤5000000
 bf:∀i,(cA c.aC c.lp i).bf≤c.ti
 tk:∀i,(cA c.aC c.lp i).ai≤c.de
def Sc.go (c:Sc) (y:Du):Du:=(Du.mk (y.n.send c.l c.aC c.lp c.bd c.pa c.fr y.x.now) (y.x.aA (y.x.now+aK c.bd c.fr.length))).heard
theorem Ee.any {s:lg} (h:Ee s ti de) (a:0≤ti) (d:0≤de) (i:Nat):(cA s.aC s.loop i).bf≤ti∧(cA s.aC s.loop i).ai≤de:=by
 unfold cA;split
 ·exact ⟨a,d⟩
 ·cases e:s.aC[i%s.aC.length]? with
  |none=>exact⟨a,d⟩
  |some x=>exact h x (List.mem_of_getElem? e)
theorem OS (aa q:Option Addr) (an ac d s:Nat) (lp:Bool) (m:Int) (V:Bool) (k:V=decide ((an:Int)≤m∧d≤12)) (w:World):Calls Tryz.prog 47 #[.agg #[J aa an ac,.bool lp,J q d s],U Y m] w (aj w V):=by
 obtain⟨y,o,j,l⟩:=eY w (K #[J aa an ac,.bool lp,J q d s] 32);have t0:=cG l 0 rfl;have t2:=cG l 2 rfl;have f:=hid o;have e:=hid j;have t:Hid ((an:Int)≤m→d≤12→V=true):=fun a b=>by rw[k];exact decide_eq_true ⟨a,b⟩
 have n:Hid (¬((an:Int)≤m∧d≤12)→V=false):=fun a=>by rw[k];exact decide_eq_false a
 clear o j l k;by_cases c1:(an:Int)≤m
 ·by_cases c2:d≤12
  ·have i:=hid (t.out c1 c2)
   have c3:(d:Int)≤12:=by omega
   have u:decide ((d:Int)≤12)=true:=decide_eq_true c3;go_enter Tryz.func47,Tryz.ntmps47;go_upto_region 1 with(fail);rw[f.out]
   go_wp2;go_ret;exact⟨by rw[i.out]<;>rfl,e.out⟩
  ·have i:=hid (n.out (by omega))
   have c3:¬(d:Int)≤12:=by omega
   have u:decide ((d:Int)≤12)=false:=decide_eq_false c3;go_enter Tryz.func47,Tryz.ntmps47;go_upto_region 1 with(fail);rw[f.out]
   go_wp2;go_ret;exact⟨by rw[i.out]<;>rfl,e.out⟩
 ·have i:=hid (n.out (by omega))
  have z:decide ((an:Int)≤m)=false:=decide_eq_false c1;go_enter Tryz.func47,Tryz.ntmps47;go_upto_region 1 with(fail);rw[f.out]
  go_wp2;go_ret;exact⟨by rw[i.out]<;>rfl,e.out⟩
def Cf.n (c:Cf):Int:=c.la-c.fi+1
structure Cf.ok (c:Cf):Prop where
 s1:1≤c.bj.length
 s6:c.bj.length≤6
 f1:1≤c.fi
 fl:c.fi≤c.la
 l2:c.la≤247
 aq:xaZ c.aq
 bj:∀x∈c.bj,tS x=true
theorem Cf.ok.n1 {c:Cf} (h:c.ok):1≤c.n∧c.n≤247:=by unfold Cf.n;have:=h.f1;have:=h.fl;have:=h.l2;omega
theorem Ih:Tryz.prog.cellsOf 27=16:=by kernel_rfl
theorem MZ:Tryz.prog.cellsOf 22=1:=by kernel_rfl
theorem DI:Tryz.prog.cellsOf 61=2:=by kernel_rfl
theorem M6:Tryz.prog.cellsOf 25=8:=by kernel_rfl
theorem xaB {cs:List Value} (h:Rd Tryz.prog w 61 cs):∃x,NG w cs x:=by
 obtain⟨e,d⟩:=h.struct Tryz.underlying61;rw[DI] at e;obtain⟨c0,c1,rfl⟩:=Jv e;have f0:=d _ (List.mem_cons_self ..);have f1:=d _ (List.mem_cons_of_mem _ (List.mem_cons_self ..));simp only[dB,List.drop_zero,List.drop_succ_cons,List.take_succ_cons,List.take_zero] at f0 f1;obtain⟨a,rfl,f⟩:=bl f0;obtain⟨b,rfl,w1⟩:=bl f1;exact⟨(a,b),rfl,f,w1⟩
theorem Ut (h:Rd Tryz.prog w 22 [v]):∃l,dw w v l:=
 gY.jz (R:=NG) Tryz.underlying22 DI (by decide) (fun _ h=>xaB h) h
theorem xb4 {α:Type} {l:List α} (h:l.length=16):∃a b c d e f g i j k m n o p q r,l=[a,b,c,d,e,f,g,i,j,k,m,n,o,p,q,r]:=by
 match l,h with
 |[a,b,c,d,e,f,g,i,j,k,m,n,o,p,q,r],_=>exact⟨a,b,c,d,e,f,g,i,j,k,m,n,o,p,q,r,rfl⟩
structure CfW (c:Cf):Prop where
 fi:bT c.fi
 la:bT c.la
theorem xa1 {cs:Array Value} (h:Rd Tryz.prog w 27 cs.toList):∃c sv,cs=yh c sv∧dw w sv c.bj∧CfW c:=by
 obtain⟨f,a⟩:=h.struct Tryz.underlying27;rw[Ih] at f;obtain⟨G⟩:=cs;obtain⟨c0,c1,c2,c3,c4,c5,c6,D,E,F,B,C,A,M,n,o,rfl⟩:=xb4 f;have f0:=a _ (List.mem_cons_self ..);have f1:=a _ (List.mem_cons_of_mem _ (List.mem_cons_self ..));have f2:=a _ (List.mem_cons_of_mem _ (List.mem_cons_of_mem _ (List.mem_cons_self ..)));have f3:=a _ (List.mem_cons_of_mem _ (List.mem_cons_of_mem _ (List.mem_cons_of_mem _ (List.mem_cons_self ..))));have f4:=a _ (List.mem_cons_of_mem _ (List.mem_cons_of_mem _ (List.mem_cons_of_mem _ (List.mem_cons_of_mem _ (List.mem_cons_self ..)))));have f5:=a _ (List.mem_cons_of_mem _ (List.mem_cons_of_mem _ (List.mem_cons_of_mem _ (List.mem_cons_of_mem _ (List.mem_cons_of_mem _ (List.mem_cons_self ..))))));have f6:=a _ (List.mem_cons_of_mem _ (List.mem_cons_of_mem _ (List.mem_cons_of_mem _ (List.mem_cons_of_mem _ (List.mem_cons_of_mem _ (List.mem_cons_of_mem _ (List.mem_cons_self ..)))))));have f7:=a _ (List.mem_cons_of_mem _ (List.mem_cons_of_mem _ (List.mem_cons_of_mem _ (List.mem_cons_of_mem _ (List.mem_cons_of_mem _ (List.mem_cons_of_mem _ (List.mem_cons_of_mem _ (List.mem_cons_self ..))))))));have f8:=a _ (List.mem_cons_of_mem _ (List.mem_cons_of_mem _ (List.mem_cons_of_mem _ (List.mem_cons_of_mem _ (List.mem_cons_of_mem _ (List.mem_cons_of_mem _ (List.mem_cons_of_mem _ (List.mem_cons_of_mem _ (List.mem_cons_self ..)))))))));simp only[dB,MZ,M6,List.drop_zero,List.drop_succ_cons,List.take_succ_cons,List.take_zero] at f0 f1 f2 f3 f4 f5 f6 f7 f8;obtain⟨l,z⟩:=Ut f0;obtain⟨b1,rfl,w1⟩:=bl f1;obtain⟨b2,rfl,q⟩:=bl f2;obtain⟨b3,rfl,w3⟩:=bl f3;obtain⟨i,rfl,J⟩:=bl f4;obtain⟨j,rfl,w5⟩:=bl f5;obtain⟨I,d⟩:=f6.array Tryz.underlying25;have t0:=d 0 (by decide);have t1:=d 1 (by decide);have t2:=d 2 (by decide);have t3:=d 3 (by decide);simp only[tH,Nat.zero_mul,Nat.reduceMul,List.drop_zero,List.drop_succ_cons,List.take_succ_cons,List.take_zero] at t0 t1 t2 t3;obtain⟨s,e0,-,-⟩:=xA t0;obtain⟨t,e1,-,-⟩:=xA t1;obtain⟨u,e2,-,-⟩:=xA t2;obtain⟨y,e,-,-⟩:=xA t3;obtain⟨k,rfl,K⟩:=bl f7;obtain⟨m,rfl,L⟩:=bl f8;simp only[List.cons.injEq,and_true] at e0 e1 e2 e;obtain⟨rfl,rfl⟩:=e0;obtain⟨rfl,rfl⟩:=e1;obtain⟨rfl,rfl⟩:=e2;obtain⟨rfl,rfl⟩:=e;exact⟨⟨l,b1,b2,b3,i,j,YT s t u y,k,m⟩,c0,rfl,z,w1,q⟩
