import Derived.Test.YtoaoejaodhedaaaGreatF06
namespace Go.Proofs.YtoaoejaodhedaaaGreat
open Go.RowKit
open Value renaming slice→V,int→N
open Option renaming none→J,some→M
open IntKind renaming i64→U
open Obj renaming cells→Y
set_option maxHeartbeats 6400000
set_option maxRecDepth 100000
variable {lp:Bool} {s:Ln} {g:Nat} {P:Nat→Prop} {av sv:Value} {W X w:World}
theorem Km (h:cU P w g sv av lp s):Calls Tryz.prog 20 #[.pointer (M ⟨g,0,J⟩)] w fun r d=>r=.returned (N U (s.aA.length:Int))∧w=d:=by
 obtain⟨f,e,cs,h⟩:=h;obtain⟨b,c,rfl⟩:=own_slice h.sn;have c4:w.cell? ⟨g,4,J⟩=M (V b s.aA.length c):=hpCell h.at_ 4;obtain⟨n,a⟩:=gE s.aA.length;rw[a] at c4 ⊢;clear h a;go_enter Tryz.func20,Tryz.ntmps20;go_wp2;go_ret;exact⟨rfl,rfl⟩
theorem Td (h:cU P w g sv av lp s):Calls Tryz.prog 34 #[.pointer (M ⟨g,0,J⟩)] w fun r d=>r=.returned (N U (s.pend.length:Int))∧w=d:=by
 obtain⟨f,e,cs,h⟩:=h;obtain⟨b,c,rfl,-⟩:=h.pn.len;have c4:w.cell? ⟨g,5,J⟩=M (V b s.pend.length c):=hpCell h.at_ 5;obtain⟨n,a⟩:=gE s.pend.length;rw[a] at c4 ⊢;clear h a;go_enter Tryz.func34,Tryz.ntmps34;go_wp2;go_ret;exact⟨rfl,rfl⟩
def xaF (bd:Int):Sl:=⟨bd,0,7,fun k=>if k=2 then ⟨true,[(10,10)],5⟩ else ⟨false,[],0⟩,0,[],true,[9,255]⟩
def ZM (bd:Int) (p q:Nat):Array Value:=#[N U bd,N U 0,N U 7,.bool false,V none 0 0,N U 0,.bool false,V none 0 0,N U 0,.bool true,V (M ⟨q,0,J⟩) 1 1,N U 5,.bool false,V none 0 0,N U 0,N U 0,V none 0 0,.bool true,V (M ⟨p,0,J⟩) 2 2]
theorem xaB:(Tryz.prog.info? 65).map (·.size)=M 3:=by kernel_rfl
structure xba (w W:World) (p q:Nat):Prop where
 P:W.heap[p]?=M (Y #[N .u8 9,N .u8 255] 5)
 Q:W.heap[q]?=M (Y #[N U 10,N U 10] 24)
 b:Below w.heap.size w W
 lp:w.heap.size≤p
 lq:w.heap.size≤q
theorem xba.slr {p q:Nat} (h:xba w W p q) (r:ay w.heap.size W X) (bd:Int) (E:bT bd):nO X (xaF bd) (fun k=>if k=2 then V (M ⟨q,0,J⟩) 1 1 else V none 0 0) (V none 0 0) (V (M ⟨p,0,J⟩) 2 2):=by
 have B:X.heap[p]?=M (Y #[N .u8 9,N .u8 255] 5):=by rw[r.block p h.lp (hpLt h.P)];exact h.P
 have C:X.heap[q]?=M (Y #[N U 10,N U 10] 24):=by rw[r.block q h.lq (hpLt h.Q)];exact h.Q
 have n:bT 0:=by unfold bT;omega
 have w5:bT 5:=by unfold bT;omega
 have D:bT 7:=by unfold bT;omega
 have a:bT 10:=by unfold bT;omega
 refine⟨fun k A=>?_,cY.nil X,?_,fun k A=>?_,D,n,E,n⟩
 ·by_cases e:k=2
  ·subst e
   refine⟨some ⟨q,0,J⟩,1,rfl,Nat.le_refl 1,(by unfold maxLen;decide),(fun e=>by cases e),fun _=>⟨q,0,rfl,fun i x t=>?_⟩⟩;have hi:i=0:=by
    have y:=(List.getElem?_eq_some_iff.1 t).1;have z:i<1:=y;omega
   subst hi;have m:x=(10,10):=by
    have d:some ((10,10):Int×Int)=M x:=t;injection d with d
    exact d.symm
   subst m;refine⟨[N U 10,N U 10],rfl,⟨rfl,a,a⟩,fun j u f=>?_⟩;rw[hpCell C];rcases j with _|_|j
   ·exact f
   ·exact f
   ·cases f
  ·have v:((xaF bd).ts k).rd=[]:=by unfold xaF;dsimp only;rw[if_neg e]
   rw[v];rw[if_neg e];exact gY.nil X
 ·refine Bs.mk (b:=p) (o:=0) (c:=2) (l:=[9,255]) (Nat.le_refl 2) (by unfold maxLen;decide) (fun i hi=>?_)
  rw[hpCell B];have z:i<2:=hi;rcases (show i=0∨i=1 by omega) with rfl|rfl<;>rfl
 ·show bT (if k=2 then (⟨true,[(10,10)],5⟩:iP) else ⟨false,[],0⟩).al
  split
  ·exact w5
  ·exact n
def ZN (w:World) (r:Ending) (w':World):Prop:=∃p q,r=.returned (.agg (ZM 9600 p q))∧xba w w' p q
theorem xaG (w:World):Calls Tryz.prog 50 #[] w (ZN w):=by
 obtain⟨b,t⟩:∃W,w.alloc (Y #[N U 0,N U 0,N U 0,.bool false,V none 0 0,N U 0,.bool false,V none 0 0,N U 0,.bool false,V none 0 0,N U 0,.bool false,V none 0 0,N U 0,N U 0,V none 0 0,.bool false,V none 0 0] 68)=W:=⟨_,rfl⟩
 have A:Below w.heap.size w b:=by rw[←t];exact bal' w _
 have I:b.heap.size=w.heap.size+1:=by rw[←t];simp
 have pZ:b.heap[w.heap.size]?=M (Y #[N U 0,N U 0,N U 0,.bool false,V none 0 0,N U 0,.bool false,V none 0 0,N U 0,.bool false,V none 0 0,N U 0,.bool false,V none 0 0,N U 0,N U 0,V none 0 0,.bool false,V none 0 0] 68):=by rw[←t];exact hpNew w _
 have ak:=hid t;have O:=hid A;have f:=hid I;have S:=hid pZ;clear t A I pZ;go_enter Tryz.func50,Tryz.ntmps50;go_upto_region 1 with(fail)
 rw[ak.out];go_upto_region 2 with(refine wpList_storeW rfl 68 (.tmp 1) (.tmp 4) rfl (b.heap.size+1) 0 _ 68 #[N U 9600,N U 0,N U 7,.bool false,V none 0 0,N U 0,.bool false,V none 0 0,N U 0,.bool false,V none 0 0,N U 0,.bool false,V none 0 0,N U 0,N U 0,V none 0 0,.bool true,V (M ⟨b.heap.size,0,J⟩) 2 2] rfl rfl (by have h:=hpNew (b.alloc (Y #[N .u8 9,N .u8 255] 5)) (Y #[N U 0,N U 0,N U 0,.bool false,V none 0 0,N U 0,.bool false,V none 0 0,N U 0,.bool false,V none 0 0,N U 0,.bool false,V none 0 0,N U 0,N U 0,V none 0 0,.bool false,V none 0 0] 68);simpa using h) (by simp) dX rfl ?_;intro i K a aY)
 dsimp only[Act.put];obtain⟨p,hp⟩:=gE b.heap.size;rw[hp] at K a ⊢;obtain⟨sb,Oq⟩:∃n,p+1=n:=⟨_,rfl⟩
 rw[Oq] at K a ⊢;have k:i.heap[sb]?=M (Y #[N U 9600,N U 0,N U 7,.bool false,V none 0 0,N U 0,.bool false,V none 0 0,N U 0,.bool false,V none 0 0,N U 0,.bool false,V none 0 0,N U 0,N U 0,V none 0 0,.bool true,V (M ⟨p,0,J⟩) 2 2] 68):=K;have L:Below b.heap.size b ((b.alloc (Y #[N .u8 9,N .u8 255] 5)).alloc (Y #[N U 0,N U 0,N U 0,.bool false,V none 0 0,N U 0,.bool false,V none 0 0,N U 0,.bool false,V none 0 0,N U 0,.bool false,V none 0 0,N U 0,N U 0,V none 0 0,.bool false,V none 0 0] 68)):=bta (bal' b _) (Nat.le_refl _) _;have u:i.heap[p]?=M (Y #[N .u8 9,N .u8 255] 5):=hpKeeps (by rw[←hp];exact hpKeep (hpNew b _) (bal' _ _)) a (fun e=>by have m:p=sb:=e;omega);have y:i.heap[w.heap.size]?=M (Y #[N U 0,N U 0,N U 0,.bool false,V none 0 0,N U 0,.bool false,V none 0 0,N U 0,.bool false,V none 0 0,N U 0,.bool false,V none 0 0,N U 0,N U 0,V none 0 0,.bool false,V none 0 0] 68):=hpKeeps (hpKeep S.out L) a (fun e=>by have m:w.heap.size=sb:=e;have:=f.out;omega);have B:Below w.heap.size w i:=(bt O.out L (Nat.le_refl _)).trans (a.below (by have:=L.size;have:=f.out;omega) (fun j hj e=>by have:=f.out;omega));have rK:=hid B;have d:Hid (w.heap.size<p∧p<sb):=by have:=f.out;show _∧_;omega
 have Jw:=hid u;have ab:=hid y;have ad:=hid k;have F:(i.alloc (Y #[N U 10,N U 10] 24)).heap[sb]?=M (Y #[N U 9600,N U 0,N U 7,.bool false,V none 0 0,N U 0,.bool false,V none 0 0,N U 0,.bool false,V none 0 0,N U 0,.bool false,V none 0 0,N U 0,N U 0,V none 0 0,.bool true,V (M ⟨p,0,J⟩) 2 2] 68):=hpKeep k (bal' _ _);clear K a aY hp Oq k L u y B;go_upto_region 3 with(refine wpList_storeW rfl 65 (.tmp 9) (.tmp 7) rfl sb 9 _ 68 #[.bool true,V (M ⟨i.heap.size,0,J⟩) 1 1,N U 5] rfl rfl F (by simp) xaB rfl ?_;intro w3 g3 c SN)
 dsimp only[Act.put];obtain⟨q,hq⟩:=gE i.heap.size;rw[hq] at g3 ⊢;have z:w3.heap[sb]?=M (Y (ZM 9600 p q) 68):=g3;have G:w.heap.size≤q∧sb<q:=by have:=rK.out.size;have:=hpLt ad.out;omega
 have v:w3.heap[p]?=M (Y #[N .u8 9,N .u8 255] 5):=hpKeeps (hpKeep Jw.out (bal' _ _)) c (fun e=>by have m:p=sb:=e;have:=d.out;omega);have x:w3.heap[q]?=M (Y #[N U 10,N U 10] 24):=hpKeeps (by rw[←hq];exact hpNew i _) c (fun e=>by have m:q=sb:=e;omega);have ao:w3.heap[w.heap.size]?=M (Y #[N U 0,N U 0,N U 0,.bool false,V none 0 0,N U 0,.bool false,V none 0 0,N U 0,.bool false,V none 0 0,N U 0,.bool false,V none 0 0,N U 0,N U 0,V none 0 0,.bool false,V none 0 0] 68):=hpKeeps (hpKeep ab.out (bal' _ _)) c (fun e=>by have m:w.heap.size=sb:=e;have:=d.out;omega);have D:Below w.heap.size w w3:=(bta rK.out (Nat.le_refl _) _).trans (c.below (by simp;have:=rK.out.size;omega) (fun j hj e=>by have:=d.out;omega));obtain⟨C,o⟩:=gE (ZM 9600 p q);rw[o] at z;have E:C.size=19:=by rw[←o];rfl
 have hi:(Tryz.prog.info? 68).map (·.size)=M C.size:=by rw[←o];exact dX
 have aX:C.toList.all (·.oneCell')=true:=by rw[←o];rfl
 have r:=hid D;have R:=hid v;have T:=hid x;have Q:=hid o;have Z:=hid G;clear g3 c SN hq F o D v x G;go_wp2_with (first
  |(refine wpList_load_row rfl 68 (.tmp 1) rfl sb rfl 68 C (0,0) _ z Tryz.underlying68 rfl hi ?_)
  |(refine wpList_storeW rfl 68 (.tmp 0) (.tmp 10) rfl w.heap.size 0 _ 68 C rfl rfl ao (by simp [E]) hi aX ?_;intro w8 g8 l a2))
 have g9:w8.heap[w.heap.size]?=M (Y C 68):=by
  rw[g8,List.drop_eq_nil_of_le (by simp [E])];simp
 refine bodyPost_ret (results_cell_row rfl _ _ w.heap.size 68 C (0,0) _ rfl g9 Tryz.underlying68 rfl hi) rfl ?_;obtain⟨l1,l2⟩:=d.out;obtain⟨l3,l4⟩:=Z.out;refine⟨p,q,by rw[Q.out],⟨hpKeeps R.out l (fun e=>by have m:p=w.heap.size:=e;omega),hpKeeps T.out l (fun e=>by have m:q=w.heap.size:=e;omega),r.out.trans (l.below r.out.size (fun j hj e=>by omega)),by omega,l3⟩⟩
