import Derived.Test.YtoaoejaodhedaaaGreatT02
import Derived.Deep.DeepCutAuto
import Derived.Deep.RegionLaw
import Derived.Deep.CutRange
import Derived.Laws.EntriesVeiled
import Derived.Laws.Rows
namespace Go.Proofs.YtoaoejaodhedaaaGreat
open Go.RowKit
open Value renaming slice→J,int→K
open Option renaming none→M,some→N
open IntKind renaming i64→O
open Ending renaming returned→D
set_option maxHeartbeats 3200000
set_option maxRecDepth 100000
variable {acc l:List Ob} {B b c c5 dc i k n oc p sz:Nat} {fz:Nat×Nat} {aq:Nat→Int×Int} {F F2 G:Nat→Prop} {x:Ob} {a a5 da oa:Option Addr} {o:Option Rp} {u v v6:Value} {W w w' w1 w5 w6 wr:World}
theorem Ib (h:l[k]?=N x) (f:¬(bS (-1) (l.take k)<x.id∧x.id≤255)):aQ (-1) l=false:=by
 cases hx:aQ (-1) l with
 |false=>rfl
 |true=>
  exfalso;apply f;have e:l=l.take (k+1)++l.drop (k+1):=(List.take_append_drop _ _).symm;rw[e] at hx;have d:=mV _ _ _ hx;rw[az h,fx] at d;simp only[Bool.and_eq_true,decide_eq_true_eq] at d;exact⟨d.1.2,d.2⟩
theorem Dq (l:List Ob):∀(last:Int),aQ last l=true→last≤bS last l:=by
 induction l with
 |nil=>intro last _;exact Int.le_refl _
 |cons a l ih=>
  intro last h;simp only[aQ,Bool.and_eq_true,decide_eq_true_eq] at h;have:=ih a.id h.2;simp only[bS];omega
theorem cY.open_ (h:cY w v l):
  ∃a n c,v=J a n c∧l.length=n∧n≤9223372036854775807∧n≤c∧c≤9223372036854775807∧
   ∀(k:Nat) (x:Ob),l[k]?=N x→∃b o d e,a=N ⟨b,o,M⟩∧w.cell? ⟨b,o+k*2,M⟩=N (K O x.id)∧w.cell? ⟨b,o+k*2+1,M⟩=N (J d x.val.length e)∧Bs w (J d x.val.length e) x.val:=by
 obtain⟨a,c,s,m,f,z,r⟩:=h;unfold maxLen at f;refine⟨a,l.length,c,s,rfl,by omega,m,f,fun k x j=>?_⟩;obtain⟨b,o,t,q⟩:=r (by rintro rfl;simp at j);obtain⟨c1,y,c2,g⟩:=q k x j;obtain⟨d,e,rfl,_⟩:=id g;exact⟨b,o,d,e,t,c1,c2,g⟩
theorem get_some {α:Type} {l:List α} (h:l.length=n) (d:k<n):∃x,l[k]?=N x:=⟨l[k],List.getElem?_eq_getElem (by omega)⟩
theorem oW (v:Value) (l:List Ob) (w:World) (J:cY w v l):
  Calls Tryz.prog 95 #[v] w fun r w'=>r=D (.bool (aQ (-1) l))∧Below w.heap.size w w':=by
 obtain⟨a,n,c,rfl,m,hn,dM,cj,t⟩:=J.open_;clear J;replace t:=hid t;replace m:=hid m;go_enter Tryz.func95,Tryz.ntmps95;go_wp2;go_loopw [3] (fun i wr=>∃k:Nat,k≤n∧i=K O k∧Hid (aQ (-1) (l.take k)=true)∧Below w.heap.size w wr) (fun i _=>n- (intOf i).toNat)
 case atStart=>exact⟨0,Nat.zero_le _,rfl,rfl,Below.refl _ _⟩
 case round=>
  obtain⟨k,hk,rfl,C,e⟩:=hrel;by_cases I:k<n
  ·obtain ⟨x,A⟩:=get_some m.out I
   obtain⟨b,o,Y,S,rfl,d1,_,_⟩:=t.out k x A;replace d1:=cell_keep e d1;have f:=hid (Ib A);have P:Hid (aQ (-1) (l.take (k+1))=(decide (bS (-1) (l.take k)<x.id)&&decide (x.id≤255))):=by
    show aQ (-1) (l.take (k+1))=_;rw[az A,fx,C.out,Bool.true_and]
   have U:=Dq _ _ C.out;have V:(k=0∧bS (-1) (l.take k)=-1)∨∃j:Nat,k=j+1∧wr.cell? ⟨b,o+j*2,M⟩=N (K O (bS (-1) (l.take k))):=by
    cases k with
    |zero=>exact .inl ⟨rfl,rfl⟩
    |succ j=>
     refine .inr ⟨j,rfl,?_⟩;obtain⟨y,q⟩:=get_some (k:=j) m.out (by omega);obtain⟨b',o',Y,S,X,d1,_,_⟩:=t.out j y q;cases X;rw[az q,jw];exact cell_keep e d1
   clear A;generalize x.id=d at*;generalize bS (-1) (l.take k)=la at*;have T:(k:Int)<(n:Int):=by omega
   rcases V with⟨rfl,rfl⟩|⟨j,rfl,d0⟩
   ·simp only[Nat.zero_mul,Nat.add_zero] at d1
    rcases (show d<0∨(0≤d∧255<d)∨(0≤d∧d≤255) by omega) with h|⟨h,z⟩|⟨h,z⟩
    ·have g:=hid (f.out (by omega))
     go_wp2;go_quiet (fail);go_wp2;go_ret;exact⟨by rw[g.out];rfl,below_drewN e _⟩
    ·have g:=hid (f.out (by omega))
     have s:decide (d<0)=false:=by simp;omega
     go_wp2;go_quiet (fail);go_wp2;go_ret;exact⟨by rw[g.out];rfl,below_drewN e _⟩
    ·have s:decide (d<0)=false:=by simp;omega
     have Q:decide (255<d)=false:=by simp;omega
     go_wp2;go_quiet (fail);go_wp2;go_roundw
     case rel=>exact⟨0+1,by omega,by go_num,by show _=_;rw[P.out];simp;omega,below_drewN e _⟩
     case measure=>simp [intOf];omega
   ·have Z:(0:Int)≤(j:Int):=Int.natCast_nonneg _
    have R:(j:Int)+1-1=(j:Int):=by omega
    rcases (show d<0∨(0≤d∧255<d)∨(0≤d∧d≤255∧d≤la)∨(0≤d∧d≤255∧la<d) by omega) with h|⟨h,z⟩|⟨h,z,E⟩|⟨h,z,E⟩
    ·have g:=hid (f.out (by omega))
     go_wp2;go_quiet (fail);go_wp2;go_ret;exact⟨by rw[g.out];rfl,below_drewN e _⟩
    ·have g:=hid (f.out (by omega))
     have s:decide (d<0)=false:=by simp;omega
     go_wp2;go_quiet (fail);go_wp2;go_ret;exact⟨by rw[g.out];rfl,below_drewN e _⟩
    ·have g:=hid (f.out (by omega))
     have s:decide (d<0)=false:=by simp;omega
     have Q:decide (255<d)=false:=by simp;omega
     go_wp2;go_quiet (fail);go_wp2;go_ret;exact⟨by rw[g.out];rfl,below_drewN e _⟩
    ·have s:decide (d<0)=false:=by simp;omega
     have Q:decide (255<d)=false:=by simp;omega
     have e3:decide (d≤la)=false:=by simp;omega
     go_wp2;go_quiet (fail);go_wp2;go_roundw
     case rel=>exact⟨j+1+1,by omega,by go_num,by show _=_;rw[P.out];simp;omega,below_drewN e _⟩
     case measure=>simp [intOf];omega
  ·obtain rfl:k=n:=by omega
   have g:Hid (aQ (-1) l=true):=by
    have L:=C.out;rw[←m.out,List.take_length] at L;exact L
   go_wp2;go_ret;exact⟨by rw[g.out];rfl,e⟩
structure Rq where
 fn:Int
 addr:Int
 aF:Int
 code:Int
 obj:Int
def Rq.ok (q:Rq):Bool:=
 if 1≤q.fn∧q.fn≤4 then decide (0≤q.addr)&&decide (1≤q.aF)&&decide (q.aF≤cN q.fn)&&decide (q.addr≤65536-q.aF)&&q.code==0&&q.obj==0
 else if q.fn=17 then q.addr==0&&q.aF==0&&q.code==0&&q.obj==0
 else if q.fn=43 then q.addr==0&&q.aF==0&&decide (1≤q.code)&&decide (q.code≤3)&&decide (0≤q.obj)&&decide (q.obj≤255)
 else false
theorem lT (f:Int):0≤cN f∧cN f≤2000:=by unfold cN;repeat' split<;>omega
theorem kI (f:Int) (w:World):
  Calls Tryz.prog 79 #[K O f] w fun r w'=>r=D (K O (cN f))∧w=w':=by
 rcases rR f with h|⟨q,e,m,j,g⟩
 ·rcases h with rfl|rfl|rfl|rfl
  all_goals
   go_enter Tryz.func79,Tryz.ntmps79;go_wp2;go_ret;exact⟨rfl,rfl⟩
 ·have d:cN f=0:=by
   rw[beq_eq_false_iff_ne] at e m j g;unfold cN;rw[if_neg (by omega),if_neg (by omega)]
  replace d:=hid d;go_enter Tryz.func79,Tryz.ntmps79;go_wp2;go_ret;exact⟨by rw[d.out];rfl,rfl⟩
theorem ks1 (h:Keeps (· =p) w w1) (i:Nat) (u:Value):Keeps (· =p) w (w1.setCell ⟨p,i,M⟩ u):=Keeps.set (F:=(· =p)) h ⟨p,i,M⟩ u rfl
theorem cS {c C:Array Value} {t:TypeId} (h:w.heap[b]?=N (.cells c t fz)) (e:c.setIfInBounds i u=C):
 (w.setCell ⟨b,i,M⟩ u).heap[b]?=N (.cells C t fz):=by rw[hpSet h i u,e]
theorem b1 {a b:Int} (h:a=b):(a==b)=true:=by rw[beq_iff_eq];exact h
theorem b0 {a b:Int} (h:¬a=b):(a==b)=false:=by rw[beq_eq_false_iff_ne];exact h
structure dG (w:World) (x:Rp) (da:Option Addr) (dc:Nat) (oa:Option Addr) (oc:Nat):Prop where
 d:Bs w (J da x.data.length dc) x.data
 o:cY w (J oa x.ag.length oc) x.ag
 hi:x.level≤9223372036854775807
 lo: -9223372036854775808≤x.level
theorem dG.ah {w w':World} {x:Rp} {da:Option Addr} {dc:Nat} {oa:Option Addr} {oc:Nat} (h:dG w x da dc oa oc) (d:Below w.heap.size w w'):dG w' x da dc oa oc:=⟨h.d.ah d,h.o.ah d,h.hi,h.lo⟩
def DecPost (w:World) (o:Option Rp) (r:Ending) (w':World):Prop:=
 (∃x da dc oa oc,o=N x∧r=D (.tuple #[.agg #[K O x.fn,K O x.ar,J da x.data.length dc,K O x.code,K O x.level,.bool x.more,K O x.next,J oa x.ag.length oc],K O 0])∧(∀W,ay w.heap.size w' W→dG W x da dc oa oc)∧Below w.heap.size w w')∨
 (∃e:Int,1≤e∧e≤17∧o=none∧r=D (.tuple #[.agg #[K O 0,K O 0,J none 0 0,K O 0,K O 0,.bool false,K O 0,J none 0 0],K O e])∧Below w.heap.size w w')
theorem DecPost.err (j:o=none) (e:Int) (g:1≤e) (f:e≤17) (d:Below w.heap.size w w'):
 DecPost w o (D (.tuple #[.agg #[K O 0,K O 0,J none 0 0,K O 0,K O 0,.bool false,K O 0,J none 0 0],K O e])) w':=.inr ⟨e,g,f,j,rfl,d⟩
theorem DecPost.is {x:Rp} (f:o=N x) (d:∀W,ay w.heap.size w' W→dG W x da dc oa oc) (e:Below w.heap.size w w'):
 DecPost w o (D (.tuple #[.agg #[K O x.fn,K O x.ar,J da x.data.length dc,K O x.code,K O x.level,.bool x.more,K O x.next,J oa x.ag.length oc],K O 0])) w':=.inl ⟨x,da,dc,oa,oc,f,rfl,d,e⟩
def UF (w:World) (r:List Value) (x:Ob):Prop:=∃a c,r=[K O x.id,J a x.val.length c]∧Bs w (J a x.val.length c) x.val
theorem cY.uP {base:Nat} {E:TypeId} {cs:List Value} (h:w.ownsRow base E 2 v n cs) (s:eU 2 (UF w) cs l) (g:l.length=n):cY w v l:=by
 obtain⟨a,c,C,q,f,y,t⟩:=gY.iq h s g;refine⟨a,c,C,q,f,y,fun e=>?_⟩;obtain⟨b,o,m,z⟩:=t e;refine⟨b,o,m,fun i x A=>?_⟩;obtain⟨r,_,⟨I,D,rfl,j⟩,d⟩:=z i x A;exact⟨d 0 _ rfl,_,d 1 _ rfl,j⟩
theorem yA:(Tryz.prog.info? 165).map (fun i=>(i.zero,i.size,i.bytes))=N (N (.agg #[K O 0,J none 0 0]),2,32):=by kernel_rfl
theorem bal'' (w:World) (o:Obj):Below w.heap.size w (w.alloc o):=(Below.refl _ _).alloc (Nat.le_refl _) _
def fY (F:Nat→Prop) (w:World) (r:List Value) (x:Ob):Prop:=∃a c,r=[K O x.id,J a x.val.length c]∧Bs w (J a x.val.length c) x.val∧∀ad,a=N ad→¬F ad.block∧ad.block<w.heap.size
theorem fY.q (r:List Value) (x:Ob) (h:fY F w r x):UF w r x:=by
 obtain⟨a,c,e,d,_⟩:=h;exact⟨a,c,e,d⟩
theorem fY.keeps (m:Keeps F w w') (t:∀j,j<w.heap.size→F2 j→F j) (r:List Value) (x:Ob) (h:fY F w r x):fY F2 w' r x:=by
 obtain⟨a,c,q,y,f⟩:=h;refine⟨a,c,q,y.qi m (fun e d=>(f e d).1),fun e d=>?_⟩;obtain⟨s,g⟩:=f e d;exact⟨fun h=>s (t _ g h),Nat.lt_of_lt_of_le g m.size⟩
def gL (B:Nat) (v:Value) (j:Nat):Prop:=v.ownBlock=N j∨j<B
theorem fY.kj {B C:Nat} {v:Value} {w W:World} (d:B≤C) (q:ay B w W) (r:List Value) (x:Ob) (h:fY (gL C v) w r x):UF W r x:=by
 obtain⟨a,c,f,j,m⟩:=h;refine⟨a,c,f,j.kj (fun g e=>?_) q⟩;have:=(m g e).1;exact Nat.le_trans d (Nat.le_of_not_lt (fun h=>this (.inr h)))
theorem BE {E U:TypeId} {X:Obj} {q:Nat} {cs:List Value} {y0:Int} {Y:List UInt8}
  (V:B≤wr.heap.size) (m:wr.ownsRow B E 2 v k cs) (A:eU 2 (fY (gL B v) wr) cs acc) (f:Below wr.heap.size wr w5)
  (C:Y.length=q) (d:w5.ownsRow wr.heap.size U 1 (J a5 q c5) q (u8s Y)) (S:(w5.alloc X).grownBy w6 v.ownBlock) (I:cZ (w5.alloc X) v v6):
  eU 2 (fY (gL B v6) w6) (cs++[K O y0,J a5 q c5]) (acc++[⟨y0,Y⟩])∧Keeps (gL B v) wr w6∧(∀i,i<B→w6.heap[i]?=wr.heap[i]?):=by
 have D:Keeps (gL B v) wr (w5.alloc X):=Keeps.af (bta f (Nat.le_refl _) X);have s:Keeps (fun j=>v.ownBlock=N j) (w5.alloc X) w6:=Keeps.bJ S (fun k Q=>Q);have L:Keeps (gL B v) wr w6:=D.trans s (fun i _ h=>.inl h);have z:∀j,v.ownBlock=N j→B≤j∧j<wr.heap.size:=fun j M=>m.lt j M
 have P:∀j,j<wr.heap.size→gL B v6 j→gL B v j:=by
  intro j M h;rcases h with h|h
  ·rcases I with e|⟨i,e,g⟩
   ·exact .inl (by rw[←e];exact h)
   ·rw [h] at e
    cases e;have:=f.size;simp at g;omega
  ·exact .inr h
 refine⟨?_,L,fun i hi=>?_⟩
 ·refine eU.snoc (sz:=2) rfl ?_ acc cs (eU.mono (fun r x h=>fY.keeps L P r x h) acc cs A)
  refine⟨a5,c5,by show _=[Value.int .i64 y0,J a5 Y.length c5];rw[C],?_,fun y t=>?_⟩
  ·show Bs w6 (J a5 Y.length c5) Y
   rw[C];have R:Bs (w5.alloc X) (J a5 q c5) Y:=by
    subst C;exact(Bs.own d).ah (bal'' w5 X)
   exact R.qi s (fun y t h=>by
    have e:=(d.lt y.block (by rw[t];rfl)).1
    have g:=(z _ h).2
    omega)
  ·have e:=d.lt y.block (by rw[t];rfl)
   refine⟨fun h=>?_,Nat.lt_of_lt_of_le e.2 (Nat.le_trans (by simp) s.size)⟩;rcases h with h|h
   ·rcases I with g|⟨i,g,T⟩
    ·rw [h] at g
     have:=(z _ g.symm).2;omega
    ·rw [h] at g
     cases g;simp at T;omega
   ·omega
 ·have e:(w5.alloc X).heap[i]?=wr.heap[i]?:=(bta f (Nat.le_refl _) X).block i (by omega)
  rw[←e];refine s.block i (by have:=f.size;simp;omega) (fun h=>?_);have:=(z _ h).1;omega
theorem gs {α:Type} {l:List α} (h:l.length=n) (d:k<n):∃x,l[k]?=N x:=⟨l[k],List.getElem?_eq_getElem (by omega)⟩
def aj (w:World) (V:Bool) (r:Ending) (w':World):Prop:=r=D (.bool V)∧Below w.heap.size w w'
def jL (w:World) (V:Int) (r:Ending) (w':World):Prop:=r=D (K O V)∧Below w.heap.size w w'
theorem Keeps.zx {a:World} (h:Keeps F a w) (p:Addr) (v:Value) (e:a.heap.size≤p.block):Keeps F a (w.setCell p v):=
 ⟨h.os,h.tape,h.output,by simp [World.setCell];exact h.size,fun i hi d=>by
  rw[Below.heap_setCell _ _ _ _ (by rintro rfl;omega)];exact h.block i hi d⟩
theorem b2 (w:World) (X Y:Obj):Below w.heap.size w ((w.alloc X).alloc Y):=(bal' w X).alloc (by simp) Y
theorem b3 (w:World) (X Y Z:Obj):Below w.heap.size w (((w.alloc X).alloc Y).alloc Z):=(b2 w X Y).alloc (by simp;omega) Z
def fq (l:List Ob):Bool:=decide (l.length≤40)&&l.all fun x=>decide (x.val.length≤300)
theorem Gq (h:l[k]?=N x) (d:300<x.val.length):fq l=false:=by
 cases hs:fq l with
 |false=>rfl
 |true=>
  simp only[fq,Bool.and_eq_true,List.all_eq_true,decide_eq_true_eq] at hs;have:=hs.2 x (List.mem_of_getElem? h);omega
theorem wM (v:Value) (l:List Ob) (w:World) (A:cY w v l) (V:Bool) (C:Hid (fq l=V)):
  Calls Tryz.prog 91 #[v] w fun r w'=>r=D (.bool V)∧w=w':=by
 obtain⟨a,n,c,rfl,d,T,R,U,g⟩:=A.open_;clear A;replace g:=hid g;replace d:=hid d;go_enter Tryz.func91,Tryz.ntmps91;go_wp2;go_loop [3] (fun i=>∃k:Nat,k≤n∧i=K O k∧Hid (∀(j:Nat) (x:Ob),j<k→l[j]?=N x→x.val.length≤300)) (fun i=>n- (intOf i).toNat)
 case atStart=>exact⟨0,Nat.zero_le _,rfl,fun j x h=>by omega⟩
 case round=>
  obtain⟨k,S,rfl,m⟩:=hrel;by_cases s:k<n
  ·obtain ⟨x,e⟩:=get_some d.out s
   obtain⟨b,o,X,Q,rfl,d1,d2,q⟩:=g.out k x e;have P:=q.len;unfold maxLen at P;have f:=hid (Gq e);have I:=hid (show x.val.length≤300→∀(j:Nat) (u:Ob),j<k+1→l[j]?=N u→u.val.length≤300 from fun hs j u z hu=>by
    by_cases L:j=k
    ·subst L;rw[e] at hu;cases hu;exact hs
    ·exact m.out j u (by omega) hu)
   clear e q m;generalize x.val.length=E at*;have M:(k:Int)<(n:Int):=by omega
   by_cases t:E≤300
   ·have J:=hid (I.out t)
    go_wp2;go_round
    case rel=>exact⟨k+1,by omega,by go_num,J.out⟩
    case measure=>simp [intOf];omega
   ·have y:=hid (f.out (by omega))
    go_wp2;go_ret;exact⟨by rw[←C.out,y.out];rfl,rfl⟩
  ·obtain rfl:k=n:=by omega
   have y:Hid (V=decide (k≤40)):=by
    show V=_;rw[←C.out];unfold fq;rw[d.out,show (l.all fun x=>decide (x.val.length≤300))=true from by
     rw[List.all_eq_true]
     intro x t
     obtain⟨j,z⟩:=List.getElem?_of_mem t
     exact decide_eq_true (m.out j x (by have:=(List.getElem?_eq_some_iff.1 z).1;have:=d.out;omega) z),Bool.and_true]
   go_wp2;go_ret;exact⟨by rw[y.out];exact ret_bool (by rw[Bool.eq_iff_iff];simp;omega),rfl⟩
def mI (w:World) (cs:List Value) (l:List Ob):Prop:=
 cs.length=l.length*2∧∀(i:Nat) (x:Ob),l[i]?=N x→cs[i*2]?=N (K O x.id)∧∃a c,cs[i*2+1]?=N (J a x.val.length c)∧Bs w (J a x.val.length c) x.val
theorem mI.nil (w:World):mI w [] []:=⟨rfl,fun i x d=>by simp at d⟩
theorem mI.one {cs:List Value} (h:mI w cs l):∀u∈cs,u.oneCell'=true:=by
 intro u hu;obtain⟨j,d⟩:=List.getElem?_of_mem hu;have m:=(List.getElem?_eq_some_iff.1 d).1;have hlen:=h.1;obtain⟨x,g⟩:=get_some (l:=l) (k:=j/2) rfl (by omega);obtain⟨e,a,c,f,_⟩:=h.2 (j/2) x g;rcases Nat.mod_two_eq_zero_or_one j with hm|hm
 ·rw [show j/2*2=j by omega,d] at e
  cases e;rfl
 ·rw [show j/2*2+1=j by omega,d] at f
  cases f;rfl
theorem cY.cells {o:Nat} (h:cY w (J (N ⟨b,o,M⟩) n c) l):∃cs,mI w cs l∧l.length=n∧∀j u,cs[j]?=N u→w.cell? ⟨b,o+j,M⟩=N u:=by
 obtain⟨a,L,E,K,I,O,t⟩:=h;cases E;have D:∀j,j<l.length*2→∃u,w.cell? ⟨b,o+j,M⟩=N u:=by
  intro j d;obtain⟨b',C,r,m⟩:=t (by rintro rfl;simp at d);cases r;obtain⟨x,e⟩:=get_some (l:=l) (k:=j/2) rfl (by omega);obtain⟨f,v,g,_⟩:=m (j/2) x e;rcases Nat.mod_two_eq_zero_or_one j with hm|hm
  ·rw [show o+j/2*2=o+j by omega] at f;exact⟨_,f⟩
  ·rw [show o+j/2*2+1=o+j by omega] at g;exact⟨_,g⟩
 have q:∀j,j<l.length*2→((List.range (l.length*2)).map fun j=>(w.cell? ⟨b,o+j,M⟩).getD undef)[j]?=w.cell? ⟨b,o+j,M⟩:=by
  intro j d;obtain⟨u,hu⟩:=D j d;simp [d,hu]
 refine⟨(List.range (l.length*2)).map fun j=>(w.cell? ⟨b,o+j,M⟩).getD undef,⟨by simp,fun i x e=>?_⟩,rfl,fun j u d=>?_⟩
 ·have hi:=(List.getElem?_eq_some_iff.1 e).1
  obtain⟨b',C,r,m⟩:=t (by rintro rfl;simp at e);cases r;obtain⟨f,v,g,s⟩:=m i x e;obtain⟨z,A,rfl,_⟩:=id s;refine⟨by rw[q _ (by omega)];exact f,z,A,by rw[q _ (by omega),←Nat.add_assoc];exact g,s⟩
 ·have y:=(List.getElem?_eq_some_iff.1 d).1
  rw[q j (by simpa using y)] at d;exact d
theorem cY.iq {base:Nat} {E:TypeId} {cs:List Value} (h:w.ownsRow base E 2 v n cs) (C:mI w cs l) (s:l.length=n):cY w v l:=by
 subst s;obtain⟨hlen,h|⟨g,cap,cur,I,N,J,f,t,r,m⟩⟩:=h
 ·obtain ⟨rfl,y⟩:=h
  have:l=[]:=List.eq_nil_of_length_eq_zero y;subst this;exact cY.nil w
 ·refine ⟨_,_,I,f,t,fun h=>by simp at h,fun L=>⟨g,0,rfl,fun i x e=>?_⟩⟩
  have hi:=(List.getElem?_eq_some_iff.1 e).1;obtain⟨z,a,c,q,D⟩:=C.2 i x e;have d:∀j,j<l.length*2→w.cell? ⟨g,j,M⟩=cs[j]?:=by
   intro j K;have A:cur[j]?=cs[j]?:=by
    have:=gw (n:=l.length*2) (xs:=cs) m j (by rw[hlen];exact K);exact this
   simp only[World.cell?,J,Option.isSome_none];exact A
  rw[Nat.zero_add];refine⟨by rw[d _ (by omega)];exact z,_,by rw[d _ (by omega)];exact q,D⟩
theorem cK {base:Nat} {e:TypeId} {xs:List Value} (h:w.ownsRow base e sz v n xs) (r:0<n):
  ∃g cap,v=J (N ⟨g,0,M⟩) n cap∧base≤g∧n≤cap∧cap≤maxLen:=by
 rcases h.2 with⟨_,q⟩|⟨g,cap,cur,f,j,_,d,m,_⟩
 ·omega
 ·exact ⟨g,cap,f,j,d,m⟩
theorem Tl:(Tryz.prog.info? 165).map (fun i=>(i.zero,i.size,i.bytes))=N (N (.agg #[K O 0,J none 0 0]),2,32):=by kernel_rfl
def zw (w0 w:World) (l:List Ob) (r:Ending) (w':World):Prop:=∃v' cs,r=D v'∧w'.ownsRow w.heap.size 165 2 v' l.length cs∧mI w0 cs l∧Below w.heap.size w w'
theorem qL (v:Value) (l:List Ob) (s w:World) (f:cY s v l) (C:Below s.heap.size s w) (V:l.length≤1000000):
  Calls Tryz.prog 118 #[v] w (zw s w l):=by
 obtain⟨i5,hi,m,g,q⟩:=info_parts Tl;obtain⟨a,c,rfl,Z,R,O,_⟩:=id f;unfold maxLen at R;have X:=Lib.run_eql_slice_nil (P:=Tryz.prog);cases a with
 |none=>
  obtain rfl:=O rfl;have Q:l.length=0:=by omega
  have:l=[]:=List.eq_nil_of_length_eq_zero Q;subst this;clear f;go_enter Tryz.func118,Tryz.ntmps118;go_wp2;go_ret;exact⟨_,[],rfl,World.ownsRow_nil _ _ _ _,mI.nil _,Below.refl _ _⟩
 |some a=>
  by_cases t:l=[]
  ·subst t
   clear f;go_enter Tryz.func118,Tryz.ntmps118;go_wp2_with (at_builtin;refine aL rfl _ _ 51 rfl w.heap.size 165 i5 _ 2 32 Tryz.underlying51 hi m g q rfl (by decide) _ 0 [] rfl (World.ownsRow_made _ _ _ (Nat.le_refl _) (by decide) rfl) a 0 c [] rfl rfl (by simp) (by simp) (by unfold maxLen;omega) (by omega) (by simp) ?c3)
   case c3=>
    intro I w1 d r _;have y:=(bal' w (.cells #[] 165)).grown r (bal' w (.cells #[] 165)).size (by intro k z;simp [Value.ownBlock] at z;omega);clear r;go_wp2;go_ret;exact⟨_,_,rfl,d,mI.nil _,y⟩
  ·obtain ⟨b,o,Y,E,_⟩:=f.at t
   simp only[Value.slice.injEq,Option.some.injEq,true_and] at E;obtain⟨rfl,rfl⟩:=E;obtain⟨cs,e,_,D⟩:=f.cells;have H1:=e.one;have K:=hid e;have S:=hid e.1;have J:Hid (∀j u,cs[j]?=N u→(w.alloc (.cells #[] 165)).cell? ((⟨b,o,M⟩:Addr).add j)=N u):=fun j u T=>by
    have U:(⟨b,o,M⟩:Addr).add j=⟨b,o+j,M⟩:=by unfold Addr.add;split<;>simp_all
    rw[U];exact cell_keep (bal' w _) (cell_keep C (D j u T))
   replace H1:=hid H1;clear f e D t C;go_enter Tryz.func118,Tryz.ntmps118;go_wp2_with (at_builtin;refine aL rfl _ _ 51 rfl w.heap.size 165 i5 _ 2 32 Tryz.underlying51 hi m g q rfl (by decide) _ 0 [] rfl (World.ownsRow_made _ _ _ (Nat.le_refl _) (by decide) rfl) ⟨b,o,M⟩ l.length c cs rfl S.out J.out H1.out (by unfold maxLen;omega) (by omega) (by simp) ?c3)
   case c3=>
    intro I w1 d r _;have y:=(bal' w (.cells #[] 165)).grown r (bal' w (.cells #[] 165)).size (by intro k z;simp [Value.ownBlock] at z;omega);have L:=hid (show w1.ownsRow w.heap.size 165 2 I l.length cs by simpa using d);have A:=K;clear r d;go_wp2;go_ret;exact⟨_,_,rfl,L.out,A.out,y⟩
def j0 (F:Nat→Prop) (w:World) (cs:List Value) (l:List Ob):Prop:=
 cs.length=l.length*2∧∀(i:Nat) (x:Ob),l[i]?=N x→cs[i*2]?=N (K O x.id)∧∃a c,cs[i*2+1]?=N (J a x.val.length c)∧Bs w (J a x.val.length c) x.val∧(x.val≠[]→∀ad,a=N ad→¬F ad.block)
theorem j0.cs {cs:List Value} (h:j0 F w cs l):mI w cs l:=
 ⟨h.1,fun i x e=>by
  obtain⟨d,a,c,f,g,_⟩:=h.2 i x e
  exact⟨d,a,c,f,g⟩⟩
theorem Bs.block {l:List UInt8} (h:Bs w (J a n c) l) (f:l≠[]):∀d,a=N d→d.block<w.heap.size:=by
 obtain⟨t,s,m,r,y,z,j⟩:=h;cases m;obtain⟨b,o,q,g⟩:=j f;intro d e;rw[q] at e;cases e;have:=fg (g 0 (by cases l with|nil=>exact absurd rfl f|cons x l=>simp));exact this
theorem Bs.tX {l:List UInt8} (h:Bs w (J a n c) l) (g:Keeps F w w') (m:l≠[]→∀e,a=N e→¬F e.block):Bs w' (J a n c) l:=by
 obtain⟨A,z,t,q,j,y,s⟩:=h;cases t;refine⟨a,c,rfl,q,j,y,fun d=>?_⟩;obtain⟨b,o,f,r⟩:=s d;exact⟨b,o,f,fun i hi=>g.cell (r i hi) (show ¬F b from m d _ f)⟩
theorem j0.of {cs:List Value} (h:mI w cs l) (e:Below w.heap.size w w') (hF:∀k,k<w.heap.size→¬F k):j0 F w' cs l:=
 ⟨h.1,fun i x q=>by
  obtain⟨g,a,c,r,d⟩:=h.2 i x q
  exact⟨g,a,c,r,d.ah e,fun j m f=>hF _ (d.block j m f)⟩⟩
theorem j0.keeps {cs:List Value} (h:j0 F w cs l) (r:Keeps G w w') (m:∀k,G k→F k):j0 F w' cs l:=
 ⟨h.1,fun i x s=>by
  obtain⟨f,a,c,t,y,d⟩:=h.2 i x s
  exact⟨f,a,c,t,y.tX r (fun j q e g=>d j q e (m _ g)),d⟩⟩
theorem j0.set {cs:List Value} (h:j0 F w cs l) (g:l[k]?=N x) (j:Bs w (J a x.val.length c) x.val) (hF:x.val≠[]→∀f,a=N f→¬F f.block):
  j0 F w (cs.set (k*2+1) (J a x.val.length c)) l:=by
 refine⟨by simpa using h.1,fun i y d=>?_⟩;obtain⟨e,r,m,s,t,q⟩:=h.2 i y d;have hi:=(List.getElem?_eq_some_iff.1 d).1;have A:=(List.getElem?_eq_some_iff.1 g).1;by_cases z:i=k
 ·subst z
  rw[g] at d;cases d;refine⟨?_,a,c,?_,j,hF⟩
  ·rw [List.getElem?_set_ne (by omega)];exact e
  ·rw [List.getElem?_set_self (by have:=h.1;omega)]
 ·refine ⟨?_,r,m,?_,t,q⟩
  ·rw [List.getElem?_set_ne (by omega)];exact e
  ·rw [List.getElem?_set_ne (by omega)];exact s
theorem rN (h:k≠b):(w.setCell ⟨b,i,M⟩ u).heap[k]?=w.heap[k]?:=Below.heap_setCell _ _ _ _ h
theorem aM {c:Array Value} {t:TypeId} (h:w.heap[b]?=N (.cells c t fz)) (i:Nat):w.cell? ⟨b,i,M⟩=c[i]?:=by simp [World.cell?,h]
theorem yV (aq:Nat→Int×Int) (W:World):(Instr.index 25 (.agg #[K O (aq 0).1,K O (aq 0).2,K O (aq 1).1,K O (aq 1).2,K O (aq 2).1,K O (aq 2).2,K O (aq 3).1,K O (aq 3).2]) (K O 0)).run Tryz.prog W=.ok (.agg #[K O (aq 0).1,K O (aq 0).2]) W:=by kernel_rfl
theorem zP (aq:Nat→Int×Int) (W:World):(Instr.index 25 (.agg #[K O (aq 0).1,K O (aq 0).2,K O (aq 1).1,K O (aq 1).2,K O (aq 2).1,K O (aq 2).2,K O (aq 3).1,K O (aq 3).2]) (K O 1)).run Tryz.prog W=.ok (.agg #[K O (aq 1).1,K O (aq 1).2]) W:=by kernel_rfl
theorem Au (aq:Nat→Int×Int) (W:World):(Instr.index 25 (.agg #[K O (aq 0).1,K O (aq 0).2,K O (aq 1).1,K O (aq 1).2,K O (aq 2).1,K O (aq 2).2,K O (aq 3).1,K O (aq 3).2]) (K O 2)).run Tryz.prog W=.ok (.agg #[K O (aq 2).1,K O (aq 2).2]) W:=by kernel_rfl
theorem y6 (aq:Nat→Int×Int) (W:World):(Instr.index 25 (.agg #[K O (aq 0).1,K O (aq 0).2,K O (aq 1).1,K O (aq 1).2,K O (aq 2).1,K O (aq 2).2,K O (aq 3).1,K O (aq 3).2]) (K O 3)).run Tryz.prog W=.ok (.agg #[K O (aq 3).1,K O (aq 3).2]) W:=by kernel_rfl
theorem sD (aq:Nat→Int×Int) (k:Nat) (d:k<4) (W:World):(Instr.index 25 (.agg #[K O (aq 0).1,K O (aq 0).2,K O (aq 1).1,K O (aq 1).2,K O (aq 2).1,K O (aq 2).2,K O (aq 3).1,K O (aq 3).2]) (K O (k:Int))).run Tryz.prog W=.ok (.agg #[K O (aq k).1,K O (aq k).2]) W:=by
 match k,d with
 |0,_=>exact yV aq W
 |1,_=>exact zP aq W
 |2,_=>exact Au aq W
 |3,_=>exact y6 aq W
def Ns (w:World) (v:Value) (l:List Int):Prop:=
 (∃a c,v=.slice a l.length c∧l.length≤c∧c≤maxLen∧(a=none→c=0)∧
  (l≠[]→∃b o,a=some ⟨b,o,none⟩∧∀i,i<l.length→w.cell? ⟨b,o+i,none⟩=some (.int .i64 (l.getD i 0))))∧∀n∈l,(Lit.int .i64 n).wf=true
theorem Ns.nil (w:World):Ns w (J none 0 0) []:=⟨⟨none,0,rfl,Nat.le_refl _,Nat.zero_le _,fun _=>rfl,fun h=>absurd rfl h⟩,by simp⟩
def WgC (aq:Nat→Int×Int):Array Value:=#[K O (aq 0).1,K O (aq 0).2,K O (aq 1).1,K O (aq 1).2,K O (aq 2).1,K O (aq 2).2,K O (aq 3).1,K O (aq 3).2]
def MW (W:World) (b:Nat) (aq:Nat→Int×Int):Prop:=W.heap[b]?=N (.cells (WgC aq) 25)
theorem MW.first (h:MW W b aq) (d:k<4):W.cell? ⟨b,k*2,M⟩=N (K O (aq k).1):=by
 rw[hpCell h]
 match k,d with
 |0,_=>rfl
 |1,_=>rfl
 |2,_=>rfl
 |3,_=>rfl
theorem MW.count (h:MW W b aq) (d:k<4):W.cell? ⟨b,k*2+1,M⟩=N (K O (aq k).2):=by
 rw[hpCell h]
 match k,d with
 |0,_=>rfl
 |1,_=>rfl
 |2,_=>rfl
 |3,_=>rfl
def bT (n:Int):Prop:=-9223372036854775808≤n∧n≤9223372036854775807
