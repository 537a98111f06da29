import Derived.WalkKit
import Derived.WalkSpells
import Derived.WalkLawsBesides
import Derived.Laws.AppendOwnNone
import Derived.Carry
import Derived.OpenShut
import Derived.StillTailTactics
import Derived.Deep.MidRow
import Derived.ProofKit
import Derived.Test.YtoaoejaodhedaaaGreatRows
namespace Go.Proofs.YtoaoejaodhedaaaGreat
open Go.RowKit
open Value renaming slice→V
open Option renaming none→J,some→M
open Obj renaming cells→N
theorem oH {k:IntKind} {a b:Int} (h:a=b):Ending.returned (.int k a)=.returned (.int k b):=by rw[h]
theorem ret_bool {a b:Bool} (h:a=b):Ending.returned (.bool a)=.returned (.bool b):=by rw[h]
theorem hid {p:Prop} (h:p):Hid p:=h
theorem bt {B:Nat} {w w1 a:World} (h:Below B w w1) (k:Below w1.heap.size w1 a) (b:B≤w.heap.size):Below B w a:=
 h.trans (k.mono (Nat.le_trans b h.size))
theorem bta {B:Nat} {w w1:World} (h:Below B w w1) (a:B≤w.heap.size) (o:Obj):Below B w (w1.alloc o):=h.alloc (Nat.le_trans a h.size) o
def bD (x:UInt8):Value:=.int .u8 (x.toNat:Int)
def u8s (l:List UInt8):List Value:=l.map bD
@[simp] theorem u8s_length (l:List UInt8):(u8s l).length=l.length:=by simp [u8s]
theorem dF (l k:List UInt8):u8s (l++k)=u8s l++u8s k:=by simp [u8s]
theorem gW (l:List UInt8) (i:Nat) (h:i<l.length):(u8s l)[i]?=M (.int .u8 ((l.getD i 0).toNat:Int)):=by
 simp [u8s,bD,h,List.getD]
def Bs (w:World) (v:Value) (l:List UInt8):Prop:=
 ∃a c,v=V a l.length c∧l.length≤c∧c≤maxLen∧(a=none→c=0)∧
  (l≠[]→∃b o,a=M ⟨b,o,J⟩∧∀i,i<l.length→w.cell? ⟨b,o+i,J⟩=M (.int .u8 ((l.getD i 0).toNat:Int)))
theorem Bs.nil (w:World):Bs w (V none 0 0) []:=⟨none,0,rfl,Nat.le_refl _,Nat.zero_le _,fun _=>rfl,fun h=>absurd rfl h⟩
theorem Bs.len {w:World} {v:Value} {l:List UInt8} (h:Bs w v l):l.length≤maxLen:=by
 obtain⟨a,c,_,b,d,_⟩:=h;exact Nat.le_trans b d
theorem fg {w:World} {p:Addr} {v:Value} (h:w.cell? p=M v):p.block<w.heap.size:=World.block_lt_of_cell? w p h
theorem cell_keep {w1 a:World} {p:Addr} {v:Value} (b:Below w1.heap.size w1 a) (h:w1.cell? p=M v):a.cell? p=M v:=by
 rw[b.cell (fg h)];exact h
theorem Bs.below {w f:World} {v:Value} {l:List UInt8} {B:Nat} (h:Bs w v l) (m:Below B w f) (k:w.heap.size≤B):Bs f v l:=by
 obtain⟨a,c,r,n,j,s,q⟩:=h;refine⟨a,c,r,n,j,s,fun g=>?_⟩;obtain⟨b,o,u,e⟩:=q g;refine⟨b,o,u,fun i hi=>?_⟩;have d:=fg (e i hi);rw[m.cell (p:=⟨b,o+i,J⟩) (Nat.lt_of_lt_of_le d k)];exact e i hi
theorem Bs.ah {w a:World} {v:Value} {l:List UInt8} (h:Bs w v l) (b:Below w.heap.size w a):Bs a v l:=h.below b (Nat.le_refl _)
theorem gw {α:Type} {cur:Array α} {n:Nat} {xs:List α} (h:cur.toList.take n=xs) (i:Nat) (hi:i<xs.length):cur[i]?=xs[i]?:=by
 subst h;have:i<n:=by simp at hi;omega
 simp [this]
theorem Bs.own {w:World} {base:Nat} {E:TypeId} {v:Value} {l:List UInt8} {n:Nat} (h:w.ownsRow base E 1 v n (u8s l)):Bs w v l:=by
 obtain⟨hlen,h|⟨g,cap,cur,f,m,j,a,e,c,b⟩⟩:=h
 ·obtain ⟨rfl,rfl⟩:=h
  have:l=[]:=by simpa using hlen
  subst this;exact Bs.nil w
 ·have d:n=l.length:=by simpa using hlen.symm
  subst d;refine⟨_,_,f,a,e,fun h=>by simp at h,fun k=>⟨g,0,rfl,fun i hi=>?_⟩⟩;simp only[World.cell?,j,Nat.zero_add,Option.isSome_none];rw[←gW l i hi];exact gw (by simpa using b) i (by simpa using hi)
theorem Bs.at {w:World} {v:Value} {l:List UInt8} (h:Bs w v l) (g:l≠[]):
  ∃b o c,v=V (M ⟨b,o,J⟩) l.length c∧l.length≤c∧c≤maxLen∧∀i,i<l.length→w.cell? ⟨b,o+i,J⟩=M (.int .u8 ((l.getD i 0).toNat:Int)):=by
 obtain⟨a,c,j,d,k,m,f⟩:=h;obtain⟨b,o,rfl,e⟩:=f g;exact⟨b,o,c,j,d,k,e⟩
theorem Bs.mk {w:World} {b o c:Nat} {l:List UInt8} (a:l.length≤c) (e:c≤maxLen) (d:∀i,i<l.length→w.cell? ⟨b,o+i,J⟩=M (.int .u8 ((l.getD i 0).toNat:Int))):
 Bs w (V (M ⟨b,o,J⟩) l.length c) l:=⟨_,_,rfl,a,e,fun h=>by simp at h,fun _=>⟨b,o,rfl,d⟩⟩
theorem lR (l:List UInt8):∀u∈u8s l,u.oneCell'=true:=by
 intro u hu;simp only[u8s,List.mem_map] at hu;obtain⟨x,_,rfl⟩:=hu;rfl
theorem im {P:Program} {w:World} {ops:Array Oper} {rest:List Oper} {o:Oper} {a:Act} {Q:Exit→Act→World→Prop} (n:o.guard=none) (s x:Operand) (t:TypeId)
  (l:o.op=.call {callee:=.builtin .append,args:=#[s,x],argTypes:=#[t,t]})
  (base:Nat) (e:TypeId) (i:TypeInfo) (m:P.underlying t=M (.slice e)) (hi:P.info? e=M i) (B:i.zero=M (.int .u8 0))
  (G:i.size=1) (E:i.bytes=1)
  (v:Value) (xs:List UInt8) (hs:a.eval s=v) (d:w.ownsRow base e 1 v xs.length (u8s xs))
  (y:Value) (f:List UInt8) (z:a.eval x=y) (I:Bs w y f) (hlen:xs.length+f.length≤140737488355328) (C:base≤w.heap.size)
  (h:∀k g,g.ownsRow base e 1 k (xs.length+f.length) (u8s (xs++f))→w.grownBy g v.ownBlock→wpList P ops Q rest (a.put o.dst k) g):wpList P ops Q (o::rest) a w:=by
 obtain⟨r,c,rfl,S,T,N,L⟩:=I;by_cases F:f=[]
 ·subst F
  cases r with
  |none=>
   obtain rfl:=N rfl;exact wpList_append_own_none n s x t l base e i 1 m hi v xs.length (u8s xs) hs d z (h v w (by simpa using d) (World.grownBy.refl _ _))
  |some r=>
   exact wpList_append_own w n s x t l base e i _ 1 1 m hi B G E rfl (by decide) v xs.length (u8s xs) hs d r 0 c [] z rfl (by simp) (by simp) (by unfold maxLen;simp at hlen;omega) (by simp at hlen;omega) C
    (fun k g p q _=>h k g (by simpa using p) q)
 ·obtain ⟨b,off,rfl,K⟩:=L F
  refine wpList_append_own w n s x t l base e i _ 1 1 m hi B G E rfl (by decide) v xs.length (u8s xs) hs d ⟨b,off,J⟩ f.length c (u8s f) z (by simp) ?_ (lR f) (by unfold maxLen;omega) (by omega) C
    (fun k g p q _=>h k g (by rw[dF];exact p) q)
  intro j u A;have D:j<f.length:=by
   have:=(List.getElem?_eq_some_iff.1 A).1;simpa using this
  rw[gW f j D] at A;have O:(⟨b,off,J⟩:Addr).add j=⟨b,off+j,J⟩:=by unfold Addr.add;split<;>simp_all
  rw[O,K j D];exact A
theorem gi (z:Value) (c:z.cells=#[z]) (n:Nat):Builtin.zeroCells z.cells n=(List.replicate n z).toArray:=by
 apply Array.ext';simp only[Builtin.zeroCells,c,Array.toList_map];apply List.ext_getElem
 ·simp
 ·intro i b a
  simp at b a ⊢;have:i%1=0:=Nat.mod_one i;simp [this]
theorem np {P:Program} (w:World) (base:Nat) (t x ty e:TypeId) (i:TypeInfo) (z:Value) (bytes:Nat) (r:P.underlying t=M (.slice e)) (y:P.underlying x=M (.int .i64)) (hi:P.info? e=M i) (s:i.zero=M z)
  (L:i.size=1) (jS:i.bytes=bytes) (p:z.cells=#[z]) (C:z.oneCell'=true)
  (v:Value) (n:Nat) (xs:List Value) (a:w.ownsRow base e 1 v n xs) (m:Nat) (D3:0<m)
  (U:n+m≤maxLen) (G:(n+m)*bytes≤140737488355328) (ei:base≤w.heap.size):
  ∃X D,(Builtin.append_ #[t,x] ty #[v,.int .i64 m]).run P w=.ok X D∧D.ownsRow base e 1 X (n+m) (xs++List.replicate m z)∧w.grownBy D v.ownBlock:=by
 subst jS;have Yz:n+m≤9223372036854775807:=by simp only[maxLen] at U;omega
 have E:IntKind.i64.wrap (m:Int)=m:=IntWalk.i64_in _ (by omega);have q:¬((m:Int)<0):=by omega
 have b:¬(281474976710656<(m:Int)*(i.bytes:Int)):=by
  have:m*i.bytes≤(n+m)*i.bytes:=Nat.mul_le_mul_right _ (by omega);have h2:((m*i.bytes:Nat):Int)≤((140737488355328:Nat):Int):=Int.ofNat_le.2 (Nat.le_trans this G);rw[Int.natCast_mul] at h2;omega
 have hlen:(xs++List.replicate m z).length=(n+m)*1:=by rw[List.length_append,a.1,List.length_replicate];omega
 have grown:∀(old:Nat),old<n+m→∀(row:Option Nat) (A:Array Value),A=(xs++List.replicate m z).toArray++Builtin.zeroCells z.cells (grownCap w (n+m) old e- (n+m))→
   (w.drew.alloc (N A e)).ownsRow base e 1
    (V (M ⟨w.heap.size,0,J⟩) (n+m) (grownCap w (n+m) old e)) (n+m) (xs++List.replicate m z)∧
   w.grownBy (w.drew.alloc (N A e)) row:=by
  intro old ho row A T;have Q:=grownCap_ge w (n+m) old e;have K:grownCap w (n+m) old e≤maxLen:=grownCap_le_maxLen w (n+m) old e U;refine⟨⟨hlen,.inr ⟨w.heap.size,_,_,rfl,ei,heap_alloc_new w.drew _,Q,K,?_,?_⟩⟩,⟨rfl,rfl,rfl,by simp,fun k I _=>Below.heap_alloc w.drew _ k I⟩⟩
  ·rw [T]
   simp only[Array.size_append,List.size_toArray,size_zeroCells,p,hlen];simp;omega
  ·rw [T]
   simp only[Array.toList_append,←hlen];exact List.take_left
 rcases a.2 with⟨rfl,rfl⟩|⟨g,cap,cur,rfl,SV,W,dM,K,l,Y⟩
 ·have hx:xs=[]:=List.eq_nil_of_length_eq_zero (by simpa using a.1)
  subst hx;have d:=grown 0 (by omega) (Value.ownBlock (V none 0 0)) _ rfl;simp only[Nat.zero_add,List.nil_append] at d ⊢;refine⟨_,_,?_,d.1,d.2⟩;have o:m≠0:=by omega
  have S:¬(9223372036854775807<(m:Int)):=by omega
  have O:¬(281474976710656<Builtin.nextslicecap m 0*i.bytes):=by rw[nextslicecap_zero D3];simp at G;omega
  have f:=gi z p m;simp [Builtin.append_,run_underlying r,run_underlying y,sizeOf,typeInfo,zeroValue,hi,s,L,o,S,O,Question.forced,run_firstCells_none,newRow,grownCap,asInt,asIntOf,E,q,b,f]
 ·by_cases F:n+m≤cap
  ·have PU:n+(List.replicate m z).length≤cur.size:=by rw[l];simp;omega
   have c:=run_storeCells_at P g n e (List.replicate m z) 0 cur w W (by simpa using PU) (by intro u hu;rw[(List.mem_replicate.1 hu).2];exact C);simp only[Nat.add_zero] at c;have f:=gi z p m;have o:m≠0:=by omega
   have Z:(Builtin.append_ #[t,x] ty #[V (M ⟨g,0,J⟩) n cap,.int .i64 m]).run P w=.ok (V (M ⟨g,0,J⟩) (n+m) cap) (w.setRow g (cur.toList.take n++List.replicate m z++cur.toList.drop (n+(List.replicate m z).length)).toArray):=by
    simp [Builtin.append_,run_underlying r,run_underlying y,sizeOf,typeInfo,zeroValue,hi,s,L,F,o,asInt,asIntOf,E,q,b,f,Addr.add_lit];simp at c;rw[c];rfl
   refine⟨_,_,Z,⟨hlen,.inr ⟨g,cap,_,rfl,SV,setRow_heap w g cur _ e _ W,F,K,?_,?_⟩⟩,⟨rfl,rfl,rfl,by simp,fun k _ I=>setRow_other w g k _ (fun e=>I (by simp [Value.ownBlock,e]))⟩⟩
   ·simp only[List.size_toArray,List.length_append,List.length_take,List.length_drop,Array.length_toList,List.length_replicate]
    simp at l;omega
   ·simp only[Nat.mul_one] at Y
    rw[Y,←hlen];exact List.take_left
  ·have holds:∀j u,xs[j]?=M u→w.cell? ((⟨g,0,J⟩:Addr).add j)=M u:=a.cells (g:=g) rfl
   have d:=grown cap (by omega) (Value.ownBlock (V (M ⟨g,0,J⟩) n cap)) _ rfl;refine⟨_,_,?_,d.1,d.2⟩;have o:m≠0:=by omega
   have S:¬(9223372036854775807<((n:Int)+(m:Int))):=by omega
   have O:¬(281474976710656<Builtin.nextslicecap (n+m) cap*i.bytes):=by
    have:=growslice_fits (need:=n+m) (old:=cap) (by omega) G;omega
   have f:=gi z p m;have B:=run_firstCells_some (P:=P) w.drew 1 n ⟨g,0,J⟩ n cap xs a.1 (by simpa using holds);simp [Builtin.append_,run_underlying r,run_underlying y,sizeOf,typeInfo,zeroValue,hi,s,L,F,o,S,O,Question.forced,B,newRow,grownCap,asInt,asIntOf,E,q,b,f];congr 2;apply Array.ext';simp
theorem ua {P:Program} {w:World} {ops:Array Oper} {rest:List Oper} {o:Oper} {a:Act} {Q:Exit→Act→World→Prop} (q:o.guard=none) (s x:Operand) (t d:TypeId)
  (l:o.op=.call {callee:=.builtin .append,args:=#[s,x],argTypes:=#[t,d]})
  (base:Nat) (e:TypeId) (i:TypeInfo) (z:Value) (bytes:Nat) (p:P.underlying t=M (.slice e)) (y:P.underlying d=M (.int .i64)) (hi:P.info? e=M i) (r:i.zero=M z)
  (I:i.size=1) (F:i.bytes=bytes) (B:z.cells=#[z]) (f:z.oneCell'=true)
  (v:Value) (n:Nat) (xs:List Value) (hs:a.eval s=v) (b:w.ownsRow base e 1 v n xs) (m:Nat) (N:a.eval x=.int .i64 m) (O:0<m)
  (A:n+m≤maxLen) (D:(n+m)*bytes≤140737488355328) (u:base≤w.heap.size)
  (h:∀g cap c,n+m≤cap→cap≤maxLen→base≤g→c.ownsRow base e 1 (V (M ⟨g,0,J⟩) (n+m) cap) (n+m) (xs++List.replicate m z)→w.grownBy c v.ownBlock→
   wpList P ops Q rest (a.put o.dst (V (M ⟨g,0,J⟩) (n+m) cap)) c):wpList P ops Q (o::rest) a w:=by
 refine wpList_plain q fun K S=>?_
 obtain⟨U,c,k,j,L⟩:=np (P:=P) w base t d o.type e i z bytes p y hi r I F B f v n xs b m O A D u;rcases j.2 with⟨_,T⟩|⟨g,cap,cur,rfl,E,_,C,G,_⟩
 ·omega
 ·unfold Oper.wp execOp
  simp only[l,resolve,invoke,builtin,Sem.run_bind,Sem.run_pure,Result.andThen_ok,List.map_toArray,List.map_cons,List.map_nil,hs,N,k];exact S _ _ (h g cap c C G E j L)
theorem own_lower {w:World} {base base':Nat} {e:TypeId} {sz n:Nat} {v:Value} {xs:List Value} (h:w.ownsRow base e sz v n xs) (b:base'≤base):w.ownsRow base' e sz v n xs:=by
 obtain⟨a,h|⟨g,cap,cur,c,d,r⟩⟩:=h
 ·exact ⟨a,.inl h⟩
 ·exact ⟨a,.inr ⟨g,cap,cur,c,Nat.le_trans b d,r⟩⟩
theorem LP {w:World} {base:Nat} {e:TypeId} {g n cap k:Nat} {xs:List Value} (h:w.ownsRow base e 1 (V (M ⟨g,0,J⟩) n cap) n xs) (d:k≤n):
  w.ownsRow base e 1 (V (M ⟨g,0,J⟩) k cap) k (xs.take k):=by
 obtain⟨c,h|⟨p,l,cur,b,j,m,o,i,a,f⟩⟩:=h
 ·simp at h
 ·simp only[Value.slice.injEq,Option.some.injEq,Addr.mk.injEq,and_true,true_and] at b
  obtain⟨rfl,rfl⟩:=b;refine⟨by simp at c ⊢;omega,.inr ⟨g,cap,cur,rfl,j,m,by omega,i,a,?_⟩⟩;rw[←f];simp [List.take_take,Nat.min_eq_left d]
structure Keeps (F:Nat→Prop) (w w':World):Prop where
 os:w'.os=w.os
 tape:w'.tape=w.tape
 output:w'.output=w.output
 size:w.heap.size≤w'.heap.size
 block:∀k,k<w.heap.size→¬F k→w'.heap[k]?=w.heap[k]?
theorem Keeps.refl (F:Nat→Prop) (w:World):Keeps F w w:=⟨rfl,rfl,rfl,Nat.le_refl _,fun _ _ _=>rfl⟩
theorem Keeps.af {F:Nat→Prop} {w a:World} (h:Below w.heap.size w a):Keeps F w a:=⟨h.os,h.tape,h.output,h.size,fun k b _=>h.block k b⟩
theorem Keeps.below {F:Nat→Prop} {w b:World} {B:Nat} (h:Keeps F w b) (c:B≤w.heap.size) (hF:∀k,k<B→¬F k):Below B w b:=
 ⟨h.os,h.tape,h.output,h.size,fun k a=>h.block k (Nat.lt_of_lt_of_le a c) (hF k a)⟩
theorem Keeps.bJ {F:Nat→Prop} {w a:World} {row:Option Nat} (h:w.grownBy a row) (hF:∀k,row=M k→F k):Keeps F w a:=
 ⟨h.os,h.tape,h.output,h.size,fun k b c=>h.block k b (fun e=>c (hF k e.symm))⟩
theorem Keeps.trans {F G:Nat→Prop} {a b c:World} (h:Keeps F a b) (k:Keeps G b c) (e:∀i,i<a.heap.size→G i→F i):Keeps F a c:=
 ⟨k.os.trans h.os,k.tape.trans h.tape,k.output.trans h.output,Nat.le_trans h.size k.size,
  fun i hi d=>(k.block i (Nat.lt_of_lt_of_le hi h.size) (fun g=>d (e i hi g))).trans (h.block i hi d)⟩
theorem Keeps.set {F:Nat→Prop} {a w:World} (h:Keeps F a w) (p:Addr) (v:Value) (c:F p.block):Keeps F a (w.setCell p v):=
 ⟨h.os,h.tape,h.output,by simp [World.setCell];exact h.size,fun i hi b=>by
  rw[Below.heap_setCell _ _ _ _ (by rintro rfl;exact b c)];exact h.block i hi b⟩
theorem Keeps.mono {F G:Nat→Prop} {a w:World} (h:Keeps F a w) (b:∀k,k<a.heap.size→F k→G k):Keeps G a w:=
 ⟨h.os,h.tape,h.output,h.size,fun i hi c=>h.block i hi (fun f=>c (b i hi f))⟩
theorem Keeps.cell {F:Nat→Prop} {w a:World} (h:Keeps F w a) {p:Addr} {v:Value} (b:w.cell? p=M v) (c:¬F p.block):a.cell? p=M v:=by
 rw[World.cell?_of_block (w:=w) (h.block p.block (fg b) c)];exact b
theorem own_keeps {w d:World} {F:Nat→Prop} {base:Nat} {e:TypeId} {size:Nat} {v:Value} {n:Nat} {xs:List Value} (h:w.ownsRow base e size v n xs) (i:Keeps F w d)
  (l:∀k,v.ownBlock=M k→¬F k):d.ownsRow base e size v n xs:=by
 obtain⟨b,h|⟨g,cap,cur,c,j,f,r⟩⟩:=h
 ·exact ⟨b,.inl h⟩
 ·refine ⟨b,.inr ⟨g,cap,cur,c,j,?_,r⟩⟩
  have a:g<w.heap.size:=(Array.getElem?_eq_some_iff.1 f).1;rw[i.block g a (l g (by rw[c];rfl))];exact f
theorem own_slice {w:World} {base:Nat} {e:TypeId} {size:Nat} {v:Value} {n:Nat} {xs:List Value} (h:w.ownsRow base e size v n xs):∃a c,v=V a n c:=by
 obtain⟨f,⟨b,d⟩|⟨g,cap,cur,b,_⟩⟩:=h
 ·exact ⟨none,0,by rw[b,d]⟩
 ·exact ⟨_,_,b⟩
def cZ (w:World) (v v':Value):Prop:=v'.ownBlock=v.ownBlock∨∃k,v'.ownBlock=M k∧w.heap.size≤k
theorem fe {P:Program} {w:World} {base:Nat} {t ty e:TypeId} {i:TypeInfo} {z:Value} {size bytes:Nat} (l:P.underlying t=M (.slice e)) (hi:P.info? e=M i) (s:i.zero=M z)
  (D:i.size=size) (C:i.bytes=bytes) (L:z.cells.size=size) (E:0<size)
  {v:Value} {n:Nat} {xs:List Value} (b:w.ownsRow base e size v n xs)
  {a:Addr} {m c:Nat} {news:List Value} (f:news.length=m*size) (o:∀j u,news[j]?=M u→w.cell? (a.add j)=M u) (x:∀u∈news,u.oneCell'=true)
  (y:n+m≤maxLen) (B:(n+m)*bytes≤140737488355328) {r:Value} {F:World}
  (k:(Builtin.append_ #[t,t] ty #[v,V (M a) m c]).run P w=.ok r F):cZ w v r:=by
 rcases b.2 with⟨rfl,rfl⟩|⟨g,cap,cur,rfl,O,p,Q,S,q,T⟩
 ·have K:xs=[]:=List.eq_nil_of_length_eq_zero (by simpa using b.1)
  subst K;obtain⟨v2,N,d,I,_⟩:=run_append_own (P:=P) w w.heap.size t ty e i z size bytes l hi s D C L E (V none 0 0) 0 [] (World.ownsRow_nil _ _ _ _) a m c news f o x y B (Nat.le_refl _);rw[k] at d;cases d;rcases I.2 with⟨rfl,_⟩|⟨g,cap,cur,rfl,p,_⟩
  ·exact .inl rfl
  ·exact .inr ⟨g,rfl,p⟩
 ·subst D
  by_cases A:n+m≤cap
  ·have G:n*i.size+news.length≤cur.size:=by rw[f,q,←Nat.add_mul];exact Nat.mul_le_mul_right _ A
   have d:=run_append_room (P:=P) w t ty e i l hi g n cap cur p a m c news f o x A G;rw[k] at d;cases d;exact .inl rfl
  ·have holds:∀j u,xs[j]?=M u→w.cell? ((⟨g,0,J⟩:Addr).add j)=M u:=b.cells (g:=g) rfl
   subst C;simp only[maxLen] at y;have d:=run_append_grow (P:=P) w t ty e i z l hi s ⟨g,0,J⟩ n cap xs b.1 holds a m c news f o (by omega) (by omega) (growslice_fits (by omega) B);rw[k] at d;cases d;exact .inr ⟨_,rfl,Nat.le_refl _⟩
theorem aL {P:Program} {w:World} {ops:Array Oper} {rest:List Oper} {o:Oper} {a:Act} {Q:Exit→Act→World→Prop} (I:o.guard=none) (s x:Operand) (t:TypeId)
  (G:o.op=.call {callee:=.builtin .append,args:=#[s,x],argTypes:=#[t,t]})
  (base:Nat) (e:TypeId) (i:TypeInfo) (z:Value) (size bytes:Nat) (p:P.underlying t=M (.slice e)) (hi:P.info? e=M i) (q:i.zero=M z)
  (E:i.size=size) (D:i.bytes=bytes) (F:z.cells.size=size) (l:0<size)
  (v:Value) (n:Nat) (xs:List Value) (hs:a.eval s=v) (b:w.ownsRow base e size v n xs)
  (g:Addr) (m c:Nat) (news:List Value) (S:a.eval x=V (M g) m c) (A:news.length=m*size) (C:∀j u,news[j]?=M u→w.cell? (g.add j)=M u) (r:∀u∈news,u.oneCell'=true)
  (y:n+m≤maxLen) (B:(n+m)*bytes≤140737488355328) (J:base≤w.heap.size)
  (h:∀f d,d.ownsRow base e size f (n+m) (xs++news)→w.grownBy d v.ownBlock→cZ w v f→wpList P ops Q rest (a.put o.dst f) d):wpList P ops Q (o::rest) a w:=by
 refine wpList_plain I fun K T=>?_
 obtain⟨f,d,k,L,O,_⟩:=run_append_own (P:=P) w base t o.type e i z size bytes p hi q E D F l v n xs b g m c news A C r y B J;have N:=fe p hi q E D F l b A C r y B k;unfold Oper.wp execOp;simp only[G,resolve,invoke,builtin,Sem.run_bind,Sem.run_pure,Result.andThen_ok,List.map_toArray,List.map_cons,List.map_nil,hs,S,k];exact T _ _ (h f d L O N)
theorem jJ {P:Program} {w:World} {ops:Array Oper} {o:Oper} {a:Act} {K:Act→World→Prop} {Q:Exit→Act→World→Prop} {E:Prop} (U:o.guard=none) (s x:Operand) (t:TypeId)
  (T:o.op=.call {callee:=.builtin .append,args:=#[s,x],argTypes:=#[t,t]})
  (base:Nat) (e:TypeId) (i:TypeInfo) (n:P.underlying t=M (.slice e)) (hi:P.info? e=M i) (p:i.zero=M (.int .u8 0))
  (z:i.size=1) (r:i.bytes=1)
  (v:Value) (xs:List UInt8) (hs:a.eval s=v) (d:w.ownsRow base e 1 v xs.length (u8s xs))
  (y:Value) (f:List UInt8) (Z:a.eval x=y) (W:Bs w y f) (hlen:xs.length+f.length≤140737488355328) (I:base≤w.heap.size)
  (h:∀k g,g.ownsRow base e 1 k (xs.length+f.length) (u8s (xs++f))→w.grownBy g v.ownBlock→cZ w v k→K (a.put o.dst k) g):
  if Region.wanted o (yielded ops a.tmps)=true then Oper.wp P o a w K Q else E:=by
 have hw:Region.wanted o (yielded ops a.tmps)=true:=by simp [Region.wanted,U]
 rw[if_pos hw];obtain⟨q,c,rfl,h1,O,F,D⟩:=W;unfold Oper.wp;have fin:∀k g,(Builtin.append_ #[t,t] o.type #[v,V q f.length c]).run P w=.ok k g→g.ownsRow base e 1 k (xs.length+f.length) (u8s (xs++f))→w.grownBy g v.ownBlock→cZ w v k→
   o.upon P a K Q ((execOp a.eval o).run P w):=by
  intro k g l O F D;unfold execOp;simp only[T,resolve,invoke,builtin,Sem.run_bind,Sem.run_pure,Result.andThen_ok,List.map_toArray,List.map_cons,List.map_nil,hs,Z,l];exact h k g O F D
 by_cases S:f=[]
 ·subst S
  cases q with
  |none=>
   obtain rfl:=F rfl;have X:=run_append_owned_none (P:=P) (w:=w) base t o.type e i 1 n hi v xs.length (u8s xs) d;exact fin v w X (by simpa using d) (World.grownBy.refl _ _) (.inl rfl)
  |some q=>
   obtain⟨k,g,l,A,C,_⟩:=run_append_own (P:=P) w base t o.type e i _ 1 1 n hi p z r rfl (by decide) v xs.length (u8s xs) d q 0 c [] rfl (by simp) (by simp) (by unfold maxLen;simp at hlen;omega) (by simp at hlen;omega) I;have B:=fe n hi p z r rfl (by decide) d (m:=0) (news:=[]) rfl (by simp) (by simp) (by unfold maxLen;simp at hlen;omega) (by simp at hlen;omega) l;exact fin k g l (by simpa using A) C B
 ·obtain ⟨b,off,rfl,Y⟩:=D S
  have L:∀j u,(u8s f)[j]?=M u→w.cell? ((⟨b,off,J⟩:Addr).add j)=M u:=by
   intro j u G;have N:j<f.length:=by
    have:=(List.getElem?_eq_some_iff.1 G).1;simpa using this
   rw[gW f j N] at G;have e1:(⟨b,off,J⟩:Addr).add j=⟨b,off+j,J⟩:=by unfold Addr.add;split<;>simp_all
   rw[e1,Y j N];exact G
  obtain⟨k,g,l,A,C,_⟩:=run_append_own (P:=P) w base t o.type e i _ 1 1 n hi p z r rfl (by decide) v xs.length (u8s xs) d ⟨b,off,J⟩ f.length c (u8s f) (by simp) L (lR f) (by unfold maxLen;omega) (by omega) I;have B:=fe n hi p z r rfl (by decide) d (by simp) L (lR f) (by unfold maxLen;omega) (by omega) l;exact fin k g l (by rw[dF];exact A) C B
def nc (a:Option Addr) (c k:Nat):Option Addr:=if c=k then a else a.map (·.add (k*1))
theorem Bs.cut {w:World} {a:Option Addr} {n c:Nat} {l:List UInt8} (h:Bs w (V a n c) l) {i k:Nat} (x:i≤k) (u:k≤n):Bs w (V (nc a c i) (k-i) (c-i)) ((l.take k).drop i):=by
 obtain⟨A,z,s,y,v,r,q⟩:=h;cases s;have hlen:((l.take k).drop i).length=k-i:=by simp;omega
 refine⟨nc a c i,c-i,by rw[hlen],by omega,by omega,fun d=>?_,fun e=>?_⟩
 ·have:a=none:=by
   unfold nc at d;split at d
   ·exact d
   ·cases a with
    |none=>rfl
    |some _=>cases d
  have:=r this;omega
 ·have g:l≠[]:=by rintro rfl;simp at e
  obtain⟨b,o,d,p⟩:=q g;subst d;have B:0<k-i:=by
   rw[←hlen];cases hx:(l.take k).drop i with
   |nil=>exact absurd hx e
   |cons _ _=>simp
  refine⟨b,o+i,?_,fun j f=>?_⟩
  ·unfold nc
   rw[if_neg (by omega)];simp [Addr.add]
  ·rw [hlen] at f
   have m:i+j<l.length:=by omega
   have:=p (i+j) m;rw[show o+i+j=o+(i+j) by omega,this];simp only[List.getD,List.getElem?_drop,List.getElem?_take];rw[if_pos (by omega)]
theorem Bs.Iy {w:World} {a:Option Addr} {n c:Nat} {l:List UInt8} (h:Bs w (V a n c) l) {i:Nat} (hi:i≤n):Bs w (V (nc a c i) (n-i) (c-i)) (l.drop i):=by
 have d:l.length=n:=by obtain⟨_,_,b,_⟩:=h;cases b;rfl
 have:=h.cut hi (Nat.le_refl n)
 rwa [List.take_of_length_le (by omega)] at this
theorem Bs.gT {w:World} {a:Option Addr} {n c:Nat} {l:List UInt8} (h:Bs w (V a n c) l):l.length=n∧n≤c∧c≤maxLen:=by
 obtain⟨g,f,d,b,e,_⟩:=h;cases d;exact⟨rfl,b,e⟩
theorem Bs.byte {w:World} {a:Option Addr} {n c:Nat} {l:List UInt8} (h:Bs w (V a n c) l) {i:Nat} (hi:i<n):∃b o,a=M ⟨b,o,J⟩∧w.cell? ⟨b,o+i,J⟩=M (.int .u8 ((l.getD i 0).toNat:Int)):=by
 obtain⟨p,m,f,k,j,q,e⟩:=h;cases f;obtain⟨b,o,g,d⟩:=e (by rintro rfl;simp at hi);exact⟨b,o,g,d i hi⟩
theorem Kw {P:Program} {t e:TypeId} {i5:TypeInfo} (d:P.underlying t=M (.slice e)) (hi:P.info? e=M i5) (hs:i5.size=1) (a:Option Addr) (n c i k:Nat) (f:i≤k) (b:k≤c) (w:World):
  (Instr.slice t (V a n c) (M (.int .i64 i)) (M (.int .i64 k)) none).run P w=.ok (V (nc a c i) (k-i) (c-i)) w:=by
 have g:((0:Int)≤(i:Int)∧(i:Int)≤(k:Int)):=by omega
 have j:((0:Int)≤(k:Int)∧(k:Int)≤(c:Int)):=by omega
 simp [Instr.slice,Instr.sliceBounds,Instr.sliceBound,run_underlying d,asIntOf,sizeOf,typeInfo,hi,hs,nc,f,b]
theorem qE {P:Program} {t e:TypeId} {i5:TypeInfo} (b:P.underlying t=M (.slice e)) (hi:P.info? e=M i5) (hs:i5.size=1) (a:Option Addr) (n c i:Nat) (d:i≤n) (w:World):
  (Instr.slice t (V a n c) (M (.int .i64 i)) none none).run P w=.ok (V (nc a c i) (n-i) (c-i)) w:=by
 simp [Instr.slice,Instr.sliceBounds,Instr.sliceBound,run_underlying b,asIntOf,sizeOf,typeInfo,hi,hs,nc,d]
theorem hpCell {w:World} {b:Nat} {c:Array Value} {t:TypeId} {a:Nat×Nat} (h:w.heap[b]?=M (N c t a)) (i:Nat):w.cell? ⟨b,i,J⟩=c[i]?:=by simp [World.cell?,h]
theorem hpFree {w:World} {b:Nat} {c:Array Value} {t:TypeId} (h:w.heap[b]?=M (N c t (0,0))) (i:Nat):w.frozen? ⟨b,i,J⟩=false:=by simp [World.frozen?,h]
theorem hpSet {w:World} {b:Nat} {c:Array Value} {t:TypeId} {a:Nat×Nat} (h:w.heap[b]?=M (N c t a)) (i:Nat) (u:Value):
  (w.setCell ⟨b,i,J⟩ u).heap[b]?=M (N (c.setIfInBounds i u) t a):=by
 simp [World.setCell,Array.getElem?_modify,h]
theorem hpOther {w:World} {b k i:Nat} {u:Value} (h:k≠b):(w.setCell ⟨b,i,J⟩ u).heap[k]?=w.heap[k]?:=Below.heap_setCell _ _ _ _ h
theorem hpLt {w:World} {b:Nat} {o:Obj} (h:w.heap[b]?=M o):b<w.heap.size:=(Array.getElem?_eq_some_iff.1 h).1
theorem hpNew (w:World) (o:Obj):(w.alloc o).heap[w.heap.size]?=M o:=heap_alloc_new _ _
theorem hpKeep {w a:World} {b:Nat} {o:Obj} (h:w.heap[b]?=M o) (c:Below w.heap.size w a):a.heap[b]?=M o:=by rw[c.block _ (hpLt h)];exact h
theorem hpKeeps {w a:World} {F:Nat→Prop} {b:Nat} {o:Obj} (h:w.heap[b]?=M o) (d:Keeps F w a) (c:¬F b):a.heap[b]?=M o:=by rw[d.block _ (hpLt h) c];exact h
theorem Bs.qi {w e:World} {F:Nat→Prop} {a:Option Addr} {n c:Nat} {l:List UInt8} (h:Bs w (V a n c) l) (j:Keeps F w e) (m:∀d,a=M d→¬F d.block):Bs e (V a n c) l:=by
 obtain⟨x,v,s,p,k,u,r⟩:=h;cases s;refine⟨a,c,rfl,p,k,u,fun g=>?_⟩;obtain⟨b,o,f,q⟩:=r g;exact⟨b,o,f,fun i hi=>j.cell (q i hi) (show ¬F b from m _ f)⟩
theorem step_appN {P:Program} {w:World} {ops:Array Oper} {o:Oper} {a:Act} {K:Act→World→Prop} {Q:Exit→Act→World→Prop} {E:Prop} (J:o.guard=none) (s x:Operand) (t:TypeId)
  (I:o.op=.call {callee:=.builtin .append,args:=#[s,x],argTypes:=#[t,t]})
  (base:Nat) (e:TypeId) (i:TypeInfo) (z:Value) (size bytes:Nat) (p:P.underlying t=M (.slice e)) (hi:P.info? e=M i) (q:i.zero=M z)
  (F:i.size=size) (D:i.bytes=bytes) (G:z.cells.size=size) (l:0<size)
  (v:Value) (n:Nat) (xs:List Value) (hs:a.eval s=v) (b:w.ownsRow base e size v n xs)
  (g:Addr) (m c:Nat) (news:List Value) (T:a.eval x=V (M g) m c) (A:news.length=m*size) (C:∀j u,news[j]?=M u→w.cell? (g.add j)=M u) (r:∀u∈news,u.oneCell'=true)
  (y:n+m≤maxLen) (B:(n+m)*bytes≤140737488355328) (L:base≤w.heap.size)
  (h:∀f d,d.ownsRow base e size f (n+m) (xs++news)→w.grownBy d v.ownBlock→cZ w v f→K (a.put o.dst f) d):
  if Region.wanted o (yielded ops a.tmps)=true then Oper.wp P o a w K Q else E:=by
 have hw:Region.wanted o (yielded ops a.tmps)=true:=by simp [Region.wanted,J]
 rw[if_pos hw];obtain⟨f,d,k,N,S,_⟩:=run_append_own (P:=P) w base t o.type e i z size bytes p hi q F D G l v n xs b g m c news A C r y B L;have O:=fe p hi q F D G l b A C r y B k;unfold Oper.wp execOp;simp only[I,resolve,invoke,builtin,Sem.run_bind,Sem.run_pure,Result.andThen_ok,List.map_toArray,List.map_cons,List.map_nil,hs,T,k];exact h f d N S O
theorem iw (b:Nat) (t:TypeId) (d:Nat×Nat):∀(vs:List Value) (o:Nat) (w:World) (c:Array Value),w.heap[b]?=M (N c t d)→o+vs.length≤c.size→
  (w.setCells b o vs).heap[b]?=M (N (c.toList.take o++vs++c.toList.drop (o+vs.length)).toArray t d)
 |[],o,w,c,h,_=>by
  show w.heap[b]?=_;rw[h];simp
 |v::r,o,w,c,h,hl=>by
  have f:=hpSet h o v;have g:=iw b t d r (o+1) (w.setCell ⟨b,o,J⟩ v) _ f (by simp at hl ⊢;omega);show ((w.setCell ⟨b,o,J⟩ v).setCells b (o+1) r).heap[b]?=_;rw[g];have a:o<c.toList.length:=by simp at hl ⊢;omega
  have e:((c.setIfInBounds o v).toList.take (o+1)++r++(c.setIfInBounds o v).toList.drop (o+1+r.length))=(c.toList.take o++v::r++c.toList.drop (o+(v::r).length)):=by
   rw[Array.toList_setIfInBounds,List.take_set,List.drop_set_of_lt (by omega),List.length_cons,show o+1+r.length=o+(r.length+1) by omega];congr 1;rw[List.take_succ_eq_append_getElem a,List.set_append_right _ _ (by simp;omega)];simp;rw[show o-min o c.size=0 by simp at a;omega];rfl
  rw[e]
theorem il (b:Nat):∀(vs:List Value) (o:Nat) (w:World),Keeps (· =b) w (w.setCells b o vs)∧(w.setCells b o vs).heap.size=w.heap.size
 |[],o,w=>⟨Keeps.refl _ _,rfl⟩
 |v::r,o,w=>by
  obtain⟨c,a⟩:=il b r (o+1) (w.setCell ⟨b,o,J⟩ v);refine⟨Keeps.trans ((Keeps.refl _ _).set ⟨b,o,J⟩ v rfl) c (fun _ _ h=>h),?_⟩;show ((w.setCell ⟨b,o,J⟩ v).setCells b (o+1) r).heap.size=_;rw[a];simp [World.setCell]
theorem wpList_storeW {P:Program} {w:World} {ops:Array Oper} {rest:List Oper} {op:Oper} {a:Act} {Q:Exit→Act→World→Prop} (g:op.guard=none) (ty:TypeId) (x y:Operand) (e:op.op=.store ty x y)
  (p o:Nat) (old:Array Value) (t:TypeId) (cells:Array Value) (m:a.eval x=.pointer (M ⟨p,o,J⟩)) (i:a.eval y=.agg cells)
  (c:w.heap[p]?=M (N old t (0,0))) (d:o+cells.size≤old.size) (hi:(P.info? ty).map (·.size)=M cells.size) (l:cells.toList.all (·.oneCell')=true)
  (h:∀b,b.heap[p]?=M (N (old.toList.take o++cells.toList++old.toList.drop (o+cells.toList.length)).toArray t (0,0))→Keeps (· =p) w b→b.heap.size=w.heap.size→wpList P ops Q rest (a.put op.dst undef) b):
  wpList P ops Q (op::rest) a w:=by
 refine wpList_store_mid g ty x y e p o cells m i (fun j n=>?_) hi (by rw[←Array.all_toList];exact l) ?_
 ·refine ⟨?_,hpFree c _⟩
  rw[hpCell c];simp;omega
 ·obtain ⟨f,k⟩:=il p cells.toList o w
  exact h _ (iw p t (0,0) cells.toList o w old c (by simpa using d)) f k
theorem dP (w:World) (cs:List Value) (t:TypeId):∀j u,cs[j]?=M u→(w.alloc (N cs.toArray t)).cell? ((⟨w.heap.size,0,J⟩:Addr).add j)=M u:=by
 intro j u h;have e:(⟨w.heap.size,0,J⟩:Addr).add j=⟨w.heap.size,j,J⟩:=by unfold Addr.add;split<;>simp_all
 rw[e,hpCell (hpNew w _)];simpa using h
structure ay (B:Nat) (w W:World):Prop where
 size:w.heap.size≤W.heap.size
 block:∀k,B≤k→k<w.heap.size→W.heap[k]?=w.heap[k]?
theorem ay.refl (B:Nat) (w:World):ay B w w:=⟨Nat.le_refl _,fun _ _ _=>rfl⟩
theorem ay.dg {B:Nat} {F:Nat→Prop} {w W:World} (h:Keeps F w W) (hF:∀k,F k→k<B):ay B w W:=
 ⟨h.size,fun k b a=>h.block k a (fun f=>by have:=hF k f;omega)⟩
theorem ay.af {B:Nat} {w W:World} (h:Below w.heap.size w W):ay B w W:=⟨h.size,fun k _ a=>h.block k a⟩
theorem ay.trans {B:Nat} {w W X:World} (h:ay B w W) (k:ay B W X):ay B w X:=
 ⟨Nat.le_trans h.size k.size,fun i hi a=>(k.block i hi (Nat.lt_of_lt_of_le a h.size)).trans (h.block i hi a)⟩
theorem ay.mono {B C:Nat} {w W:World} (h:ay B w W) (a:B≤C):ay C w W:=⟨h.size,fun k c b=>h.block k (Nat.le_trans a c) b⟩
theorem Bs.kj {B:Nat} {w W:World} {a:Option Addr} {n c:Nat} {l:List UInt8} (h:Bs w (V a n c) l) (s:∀d,a=M d→B≤d.block) (k:ay B w W):Bs W (V a n c) l:=by
 obtain⟨v,u,q,m,j,r,p⟩:=h;cases q;refine⟨a,c,rfl,m,j,r,fun g=>?_⟩;obtain⟨b,o,e,f⟩:=p g;refine⟨b,o,e,fun i hi=>?_⟩;rw[World.cell?_of_block (w:=w) (k.block b (s _ e) (fg (f i hi)))];exact f i hi
theorem di {B base:Nat} {w W:World} {e:TypeId} {size:Nat} {v:Value} {n:Nat} {xs:List Value} (h:w.ownsRow base e size v n xs) (f:B≤base) (d:ay B w W):W.ownsRow base e size v n xs:=by
 obtain⟨a,h|⟨g,cap,cur,i,b,c,r⟩⟩:=h
 ·exact ⟨a,.inl h⟩
 ·exact ⟨a,.inr ⟨g,cap,cur,i,b,by rw[d.block g (Nat.le_trans f b) (Array.getElem?_eq_some_iff.1 c).1];exact c,r⟩⟩
def Rd (P:Program) (w:World) (t:TypeId) (cs:List Value):Prop:=
 ∃(H:Type) (enc:TypeId×Value→H) (base:Nat) (spare:Nat→Bool) (held:Bool) (fuel:Nat) (x:DataW H×List MemPlace),DataW.trod enc P w base spare held fuel t cs=M x
theorem mapM_some {α β:Type} {f:α→Option β}:∀{l:List α} {d:List β},l.mapM f=some d→∀x∈l,∃y,f x=some y:=by
 intro l
 induction l with
 |nil=>intro d _ x c;cases c
 |cons a l ih=>
  intro d h x c;rw[List.mapM_cons] at h;cases yl:f a with
  |none=>rw[yl] at h;exact absurd h (by simp)
  |some b=>
   rw[yl] at h;cases hl:l.mapM f with
   |none=>rw[hl] at h;exact absurd h (by simp)
   |some bs=>
    rcases List.mem_cons.1 c with rfl|c
    ·exact ⟨b,yl⟩
    ·exact ih hl x c
theorem xR {α β:Type} {f:α→Option β}:∀{l:List α} {c:List β},l.mapM f=some c→c.length=l.length∧∀(i:Nat) (x:α),l[i]?=some x→f x=c[i]?:=by
 intro l
 induction l with
 |nil=>
  intro c h;obtain rfl:c=[]:=by simpa [eq_comm] using h
  exact⟨rfl,fun i x d=>by simp at d⟩
 |cons a l ih=>
  intro c h;rw[List.mapM_cons] at h;cases yl:f a with
  |none=>rw[yl] at h;exact absurd h (by simp)
  |some b=>
   rw[yl] at h;cases hl:l.mapM f with
   |none=>rw[hl] at h;exact absurd h (by simp)
   |some bs=>
    rw[hl] at h;obtain rfl:c=b::bs:=by simpa [eq_comm] using h
    obtain⟨e,g⟩:=ih hl;refine⟨by simp [e],fun i x d=>?_⟩;cases i with
    |zero=>simp at d;subst d;simpa using yl
    |succ i=>simp at d;simpa using g i x d
section
variable {P:Program} {w:World} {t:TypeId} {cs:List Value}
theorem Rd.int {k:IntKind} (a:P.underlying t=some (.int k)) (h:Rd P w t cs):∃n,cs=[.int k n]∧(Lit.int k n).wf=true:=by
 obtain⟨H,enc,base,spare,held,fuel,x,h⟩:=h;cases fuel with
 |zero=>simp [DataW.trod] at h
 |succ fuel=>
  unfold DataW.trod at h;rw[a] at h;split at h<;>simp_all
theorem Rd.bool (a:P.underlying t=M .bool) (h:Rd P w t cs):∃b,cs=[.bool b]:=by
 obtain⟨H,enc,base,spare,held,fuel,x,h⟩:=h;cases fuel with
 |zero=>simp [DataW.trod] at h
 |succ fuel=>
  unfold DataW.trod at h;rw[a] at h;split at h<;>simp_all
theorem Rd.struct {a:Array Field} (d:P.underlying t=M (.struct a)) (h:Rd P w t cs):
  cs.length=P.cellsOf t∧∀f∈a.toList,Rd P w f.type ((cs.drop f.offset).take (P.cellsOf f.type)):=by
 obtain⟨H,enc,base,spare,held,fuel,x,h⟩:=h;cases fuel with
 |zero=>simp [DataW.trod] at h
 |succ fuel=>
  unfold DataW.trod at h;rw[d] at h;dsimp only at h;split at h
  ·rename_i b
   refine⟨b,fun f c=>?_⟩;cases hm:(a.toList.mapM fun f=>DataW.trod enc P w base spare held fuel f.type ((cs.drop f.offset).take (P.cellsOf f.type))) with
   |none=>rw[hm] at h;cases h
   |some ys=>
    obtain⟨y,e⟩:=mapM_some hm f c;exact⟨H,enc,base,spare,held,fuel,y,e⟩
  ·cases h
theorem Rd.array {n:Nat} {e:TypeId} (b:P.underlying t=M (.array n e)) (h:Rd P w t cs):
  cs.length=P.cellsOf t∧∀i,i<n→Rd P w e ((cs.drop (i*P.cellsOf e)).take (P.cellsOf e)):=by
 obtain⟨H,enc,base,spare,held,fuel,x,h⟩:=h;cases fuel with
 |zero=>simp [DataW.trod] at h
 |succ fuel=>
  unfold DataW.trod at h;rw[b] at h;dsimp only at h;split at h
  ·rename_i a
   refine⟨a,fun i hi=>?_⟩;cases hm:((List.range n).mapM fun i=>DataW.trod enc P w base spare held fuel e ((cs.drop (i*P.cellsOf e)).take (P.cellsOf e))) with
   |none=>rw[hm] at h;cases h
   |some ys=>
    obtain⟨y,c⟩:=mapM_some hm i (List.mem_range.2 hi);exact⟨H,enc,base,spare,held,fuel,y,c⟩
  ·cases h
theorem Rd.slice {e:TypeId} (f:P.underlying t=M (.slice e)) (h:Rd P w t cs):
  cs=[V none 0 0]∨∃a len cap,cs=[V (M a) len cap]∧len≤cap∧cap≤maxLen∧
   ∀i,i<len→∃b,b.length=P.cellsOf e∧(∀j,j<P.cellsOf e→w.cell? ((a.add (i*P.cellsOf e)).add j)=b[j]?)∧Rd P w e b:=by
 obtain⟨H,enc,base,spare,held,fuel,x,h⟩:=h;cases fuel with
 |zero=>simp [DataW.trod] at h
 |succ fuel=>
  unfold DataW.trod at h;rw[f] at h;split at h
  all_goals first
   |(exfalso;simp_all;done)
   |skip
  ·exact .inl rfl
  ·rename_i l a len cap g
   cases g;refine .inr ⟨a,len,cap,rfl,?_⟩;dsimp only at h;split at h
   ·rename_i d
    refine⟨d.2.1,d.2.2,fun i hi=>?_⟩;cases hm:((List.range len).mapM fun i=>(w.cells? base (a.add (i*P.cellsOf e)) (P.cellsOf e)).bind (DataW.trod enc P w base spare held fuel e)) with
    |none=>rw[hm] at h;cases h
    |some ys=>
     obtain⟨y,c⟩:=mapM_some hm i (List.mem_range.2 hi);cases hc:w.cells? base (a.add (i*P.cellsOf e)) (P.cellsOf e) with
     |none=>rw[hc] at c;cases c
     |some b=>
      rw[hc] at c;refine⟨b,?_,?_,H,enc,base,spare,held,fuel,y,c⟩
      ·unfold World.cells? at hc
       split at hc
       ·simpa using (xR hc).1
       ·cases hc
      ·intro j k
       unfold World.cells? at hc;split at hc
       ·exact (xR hc).2 j j (by simp [k])
       ·cases hc
   ·cases h
theorem add_lit (b o i:Nat):(⟨b,o,J⟩:Addr).add i=⟨b,o+i,J⟩:=by unfold Addr.add;split<;>simp_all
theorem uQ {a:Addr} {v:Value} (h:w.cell? a=M v):a=⟨a.block,a.off,J⟩:=by
 have:=World.cell?_spot h;cases a
 simp_all
theorem Bs.jz {E:TypeId} {v:Value} (u:P.underlying t=M (.slice E)) (q:P.underlying E=M (.int .u8)) (p:P.cellsOf E=1) (h:Rd P w t [v]):∃l,Bs w v l:=by
 rcases h.slice u with h|⟨a,len,cap,h,m,hm,s⟩
 ·cases h;exact⟨[],Bs.nil w⟩
 ·cases h
  have g:∀i,i<len→∃n,w.cell? (a.add i)=M (.int .u8 n)∧0≤n∧n≤255:=by
   intro i hi;obtain⟨z,x,o,j⟩:=s i hi;obtain⟨n,rfl,hw⟩:=Rd.int q j;have b:=o 0 (by omega);rw[p,Nat.mul_one] at b;exact⟨n,by simpa [Addr.add] using b,bounds_u8 hw⟩
  refine⟨(List.range len).map fun i=>match w.cell? (a.add i) with|some (.int _ n)=>UInt8.ofNat n.toNat|_=>0,some a,cap,by simp,by simpa using m,hm,fun h=>by simp at h,fun k=>?_⟩;have r:0<len:=by
   rcases Nat.eq_zero_or_pos len with h|h
   ·subst h;simp at k
   ·exact h
  obtain⟨n0,b,_⟩:=g 0 r;have c:a=⟨a.block,a.off,J⟩:=uQ (by simpa [Addr.add] using b);refine⟨a.block,a.off,by rw[←c],fun i hi=>?_⟩;have d:i<len:=by simpa using hi
  obtain⟨n,f,A,y⟩:=g i d;have e:(⟨a.block,a.off+i,J⟩:Addr)=a.add i:=by
   conv=>rhs;rw[c]
   rw[add_lit]
  rw[e,f];simp [List.getD,d,f];omega
end
open Go.RowKit
def gY {α:Type} (sz:Nat) (R:World→List Value→α→Prop) (w:World) (v:Value) (l:List α):Prop:=
 ∃a c,v=V a l.length c∧l.length≤c∧c≤maxLen∧(a=none→c=0)∧
  (l≠[]→∃b o,a=M ⟨b,o,J⟩∧∀(i:Nat) (x:α),l[i]?=M x→∃r,r.length=sz∧R w r x∧∀j u,r[j]?=M u→w.cell? ⟨b,o+i*sz+j,J⟩=M u)
section
variable {α:Type} {sz:Nat} {R:World→List Value→α→Prop}
theorem gY.nil (w:World):gY sz R w (V none 0 0) []:=⟨none,0,rfl,Nat.le_refl _,Nat.zero_le _,fun _=>rfl,fun h=>absurd rfl h⟩
theorem gY.len {w:World} {v:Value} {l:List α} (h:gY sz R w v l):l.length≤maxLen:=by
 obtain⟨a,c,_,b,d,_⟩:=h;exact Nat.le_trans b d
theorem gY.ah (m:∀w d r x,R w r x→Below w.heap.size w d→R d r x) {w d:World} {v:Value} {l:List α} (h:gY sz R w v l) (e:Below w.heap.size w d):gY sz R d v l:=by
 obtain⟨a,c,y,n,k,z,q⟩:=h;refine⟨a,c,y,n,k,z,fun g=>?_⟩;obtain⟨b,o,A,p⟩:=q g;refine⟨b,o,A,fun i x s=>?_⟩;obtain⟨r,c1,c2,c3⟩:=p i x s;exact⟨r,c1,m _ _ _ _ c2 e,fun j u f=>cell_keep e (c3 j u f)⟩
theorem gY.get {w:World} {a:Option Addr} {n c:Nat} {l:List α} (h:gY sz R w (V a n c) l):
  l.length=n∧n≤c∧c≤maxLen∧∀i x,l[i]?=M x→∃b o,a=M ⟨b,o,J⟩∧∃r,r.length=sz∧R w r x∧∀j u,r[j]?=M u→w.cell? ⟨b,o+i*sz+j,J⟩=M u:=by
 obtain⟨s,q,m,f,e,v,k⟩:=h;cases m;refine⟨rfl,f,e,fun i x d=>?_⟩;obtain⟨b,o,p,g⟩:=k (by rintro rfl;simp at d);exact⟨b,o,p,g i x d⟩
def eU (sz:Nat) (Q:List Value→α→Prop):List Value→List α→Prop
 |cs,[]=>cs=[]
 |cs,x::l=>∃r rest,cs=r++rest∧r.length=sz∧Q r x∧eU sz Q rest l
theorem eU.snoc {Q:List Value→α→Prop} {r:List Value} {x:α} (a:r.length=sz) (b:Q r x):∀(l:List α) (cs:List Value),eU sz Q cs l→eU sz Q (cs++r) (l++[x])
 |[],cs,h=>by
  have g:cs=[]:=h;subst g;exact⟨r,[],by simp,a,b,rfl⟩
 |y::l,cs,h=>by
  obtain⟨e,rest,rfl,c,f,d⟩:=h;exact⟨e,rest++r,by simp,c,f,eU.snoc a b l rest d⟩
theorem eU.mono {Q Q':List Value→α→Prop} (a:∀r x,Q r x→Q' r x):∀(l:List α) (cs:List Value),eU sz Q cs l→eU sz Q' cs l
 |[],_,h=>h
 |_::l,_,h=>by
  obtain⟨d,rest,c,b,e,f⟩:=h;exact⟨d,rest,c,b,a _ _ e,eU.mono a l rest f⟩
theorem eU.get {Q:List Value→α→Prop}:∀(l:List α) (cs:List Value),eU sz Q cs l→∀(i:Nat) (x:α),l[i]?=M x→∃r,r.length=sz∧Q r x∧∀(j:Nat) (u:Value),r[j]?=M u→cs[i*sz+j]?=M u
 |[],_,_,i,x,hx=>by simp at hx
 |y::l,cs,h,i,x,hx=>by
  obtain⟨c,rest,rfl,b,e,m⟩:=h;cases i with
  |zero=>
   simp only[List.getElem?_cons_zero,Option.some.injEq] at hx;subst hx;refine⟨c,b,e,fun j u a=>?_⟩;rw[Nat.zero_mul,Nat.zero_add,List.getElem?_append_left (List.getElem?_eq_some_iff.1 a).1];exact a
  |succ i=>
   obtain⟨r,k,f,d⟩:=eU.get l rest m i x (by simpa using hx);refine⟨r,k,f,fun j u a=>?_⟩;have g:=d j u a;rw[List.getElem?_append_right (by rw[b,Nat.add_mul];omega),b];rw[show (i+1)*sz+j-sz=i*sz+j by rw[Nat.add_mul];omega];exact g
theorem gY.iq {w:World} {base:Nat} {E:TypeId} {v:Value} {n:Nat} {cs:List Value} {l:List α} (h:w.ownsRow base E sz v n cs) (s:eU sz (R w) cs l) (k:l.length=n):gY sz R w v l:=by
 subst k;obtain⟨hlen,h|⟨g,cap,cur,A,F,B,c,m,f,d⟩⟩:=h
 ·obtain ⟨rfl,p⟩:=h
  have:l=[]:=List.eq_nil_of_length_eq_zero p;subst this;exact gY.nil w
 ·refine ⟨_,_,A,c,m,fun h=>by simp at h,fun D=>⟨g,0,rfl,fun i x z=>?_⟩⟩
  obtain⟨r,y,o,e⟩:=eU.get l cs s i x z;refine⟨r,y,o,fun j u C=>?_⟩;have b:=e j u C;have a:=(List.getElem?_eq_some_iff.1 b).1;have q:=gw (n:=l.length*sz) (xs:=cs) d (i*sz+j) a;rw[Nat.zero_add];simp only[World.cell?,B,Option.isSome_none];show cur[i*sz+j]?=M u;rw[q];exact b
theorem Is (n:Nat) (P:Nat→α→Prop) (h:∀i,i<n→∃x,P i x):∃l:List α,l.length=n∧∀i x,l[i]?=M x→P i x:=by
 induction n with
 |zero=>exact⟨[],rfl,fun i x c=>by simp at c⟩
 |succ n ih=>
  obtain⟨l,d,e⟩:=ih (fun i hi=>h i (by omega));obtain⟨x,c⟩:=h n (by omega);refine⟨l++[x],by simp [d],fun i y a=>?_⟩;by_cases hi:i<n
  ·rw [List.getElem?_append_left (by omega)] at a;exact e i y a
  ·have b:=(List.getElem?_eq_some_iff.1 a).1
   have:i=n:=by simp at b;omega
   subst this;rw[List.getElem?_append_right (by omega),d] at a;simp at a;subst a;exact c
theorem gY.jz {P:Program} {t e:TypeId} {w:World} {v:Value} (y:P.underlying t=M (.slice e)) (D:P.cellsOf e=sz) (G:0<sz) (F:∀cs,Rd P w e cs→∃x,R w cs x) (h:Rd P w t [v]):∃l,gY sz R w v l:=by
 rcases h.slice y with h|⟨a,len,cap,h,I,hm,A⟩
 ·cases h;exact⟨[],gY.nil w⟩
 ·cases h
  have C:∀i,i<len→∃x,∃r,r.length=sz∧R w r x∧∀j u,r[j]?=M u→w.cell? ((a.add (i*sz)).add j)=M u:=by
   intro i hi;obtain⟨n,f,m,p⟩:=A i hi;rw[D] at f m;obtain⟨x,c⟩:=F n p;refine⟨x,n,f,c,fun j u b=>?_⟩;have K:=(List.getElem?_eq_some_iff.1 b).1;rw[m j (by omega)];exact b
  obtain⟨l,z,o⟩:=Is len _ C;refine⟨l,some a,cap,by rw[z],by omega,hm,fun h=>by simp at h,fun s=>?_⟩;have q:0<l.length:=by
   cases l with
   |nil=>exact absurd rfl s
   |cons _ _=>simp
  have k:a=⟨a.block,a.off,J⟩:=by
   obtain⟨r,g,_,d⟩:=o 0 l[0] (List.getElem?_eq_getElem q);have E:=d 0 (r[0]'(by omega)) (List.getElem?_eq_getElem (by omega));exact uQ (by simpa [Addr.add] using E)
  refine⟨a.block,a.off,by rw[←k],fun i x c=>?_⟩;obtain⟨r,g,B,d⟩:=o i x c;refine⟨r,g,B,fun j u b=>?_⟩;have:=d j u b;rw[k,add_lit,add_lit] at this;exact this
end
open Go.RowKit
set_option maxHeartbeats 800000
theorem bal' (w:World) (o:Obj):Below w.heap.size w (w.alloc o):=(Below.refl _ _).alloc (Nat.le_refl _) _
theorem fS:(Tryz.prog.info? 5).map (fun i=>(i.zero,i.size,i.bytes))=M (M (.int .u8 0),1,1):=by kernel_rfl
theorem bY (v:Value) (l:List UInt8) (w:World) (i:Bs w v l) (z:l.length≤140737488355328):
  Calls Tryz.prog 80 #[v] w fun r j=>∃d,r=.returned d∧j.ownsRow w.heap.size 5 1 d l.length (u8s l)∧Below w.heap.size w j:=by
 obtain⟨i5,hi,e,g,f⟩:=info_parts fS;obtain⟨a,c,rfl,x,s,p,_⟩:=id i;unfold maxLen at s;have n:=hid i;clear i;cases a with
 |none=>
  obtain rfl:=p rfl;have q:l=[]:=by simpa using x
  subst q;have u:=Lib.run_eql_slice_nil (P:=Tryz.prog);go_enter Tryz.func80,Tryz.ntmps80;go_wp2;go_ret;exact⟨_,rfl,World.ownsRow_nil _ _ _ _,Below.refl _ _⟩
 |some a=>
  have u:=Lib.run_eql_slice_nil (P:=Tryz.prog);go_enter Tryz.func80,Tryz.ntmps80;go_wp2_with (at_builtin;refine im rfl _ _ 50 rfl w.heap.size 5 i5 Tryz.underlying50 hi e g f _ [] rfl (World.ownsRow_made _ _ _ (Nat.le_refl _) (by decide) rfl) _ l rfl (n.out.ah ((Below.refl _ _).alloc (Nat.le_refl _) _)) ?c1 ?c2 ?c3)
  any_goals first|omega|(simp;done)|(simp;omega)
  case c3=>
   intro d w1 b m;have y:=(bal' w (N #[] 5)).grown m (bal' w (N #[] 5)).size (by intro k o;simp [Value.ownBlock] at o;omega);replace b:w1.ownsRow w.heap.size 5 1 d l.length (u8s l):=by simpa using b
   clear m;go_wp2;go_ret;exact⟨_,rfl,b,y⟩
theorem Jx (x n:Int):(x.tmod n+n)%n=x%n:=by
 rw[Int.tmod_def,show x-n*x.tdiv n+n=x+n*(1-x.tdiv n) by rw[Int.mul_sub,Int.mul_one];omega,Int.add_mul_emod_self_left]
theorem fR (x n:Int) (a:0<n) (e:n≤1000000) (_hx:(Lit.int .i64 x).wf=true) (w:World):
  Calls Tryz.prog 38 #[.int .i64 x,.int .i64 n] w fun r c=>r=.returned (.int .i64 (x%n))∧w=c:=by
 have d:=Int.tmod_lt_of_pos x a;have f: -n<x.tmod n:=Int.lt_tmod_of_pos x a;have b:=hid (Jx x n);go_enter Tryz.func38,Tryz.ntmps38;go_wp2;go_ret;exact⟨oH b.out,rfl⟩
theorem cF {w:World} {b:Nat} {c:Array Value} {t:TypeId} {z:Nat×Nat} {v:Value} (p:w.heap[b]?=M (N c t z)) (i:Nat) (h:c.toList[i]?=M v):∀X,Below w.heap.size w X→X.cell? ⟨b,i,J⟩=M v:=fun X k=>by rw[hpCell (hpKeep p k) i,← Array.getElem?_toList];exact h
theorem cG {w:World} {b:Nat} {c:Array Value} {t:TypeId} {z:Nat×Nat} {v:Value} (p:w.heap[b]?=M (N c t z)) (i:Nat) (h:c.toList[i]?=M v):w.cell? ⟨b,i,J⟩=M v:=by rw[hpCell p i,← Array.getElem?_toList];exact h
theorem eY (w:World) (o:Obj):∃W,w.alloc o=W∧Below w.heap.size w W∧W.heap[w.heap.size]?=M o:=⟨_,rfl,(Below.refl _ _).alloc (Nat.le_refl _) _,hpNew w o⟩
theorem gE {α:Type} (x:α):∃y,x=y:=⟨x,rfl⟩
theorem ZB {w:World} {b:Nat} {t:TypeId} {z:Nat×Nat} {v0 v1 v2:Value} {l:List Value} (p:w.heap[b]?=M (N (List.toArray (v0::v1::v2::l)) t z)):w.cell? ⟨b,0,J⟩=M v0∧w.cell? ⟨b,1,J⟩=M v1∧w.cell? ⟨b,2,J⟩=M v2:=⟨hpCell p 0,hpCell p 1,hpCell p 2⟩
theorem JU {w:World} {b:Nat} {t:TypeId} {z:Nat×Nat} {v0 v1 v2 a:Value} {l:List Value} (p:w.heap[b]?=M (N (List.toArray (v0::v1::v2::a::l)) t z)):w.cell? ⟨b,0,J⟩=M v0∧w.cell? ⟨b,1,J⟩=M v1∧w.cell? ⟨b,2,J⟩=M v2∧w.cell? ⟨b,3,J⟩=M a:=⟨hpCell p 0,hpCell p 1,hpCell p 2,hpCell p 3⟩
theorem kA5 {w:World} {b:Nat} {t:TypeId} {z:Nat×Nat} {v0 v1 v2 a v4:Value} {l:List Value} (p:w.heap[b]?=M (N (List.toArray (v0::v1::v2::a::v4::l)) t z)):w.cell? ⟨b,0,J⟩=M v0∧w.cell? ⟨b,1,J⟩=M v1∧w.cell? ⟨b,2,J⟩=M v2∧w.cell? ⟨b,3,J⟩=M a∧w.cell? ⟨b,4,J⟩=M v4:=⟨hpCell p 0,hpCell p 1,hpCell p 2,hpCell p 3,hpCell p 4⟩
theorem kA8 {w:World} {b:Nat} {t:TypeId} {z:Nat×Nat} {v0 v1 v2 c v4 d v6 a:Value} {l:List Value} (p:w.heap[b]?=M (N (List.toArray (v0::v1::v2::c::v4::d::v6::a::l)) t z)):w.cell? ⟨b,0,J⟩=M v0∧w.cell? ⟨b,1,J⟩=M v1∧w.cell? ⟨b,2,J⟩=M v2∧w.cell? ⟨b,3,J⟩=M c∧w.cell? ⟨b,4,J⟩=M v4∧w.cell? ⟨b,5,J⟩=M d∧w.cell? ⟨b,6,J⟩=M v6∧w.cell? ⟨b,7,J⟩=M a:=⟨hpCell p 0,hpCell p 1,hpCell p 2,hpCell p 3,hpCell p 4,hpCell p 5,hpCell p 6,hpCell p 7⟩
theorem I8 {w:World} {b:Nat} {t:TypeId} {z:Nat×Nat} {v0 v1 v2 d v4 e v6 a c:Value} {l:List Value} (p:w.heap[b]?=M (N (List.toArray (v0::v1::v2::d::v4::e::v6::a::c::l)) t z)):w.cell? ⟨b,0,J⟩=M v0∧w.cell? ⟨b,1,J⟩=M v1∧w.cell? ⟨b,2,J⟩=M v2∧w.cell? ⟨b,3,J⟩=M d∧w.cell? ⟨b,4,J⟩=M v4∧w.cell? ⟨b,5,J⟩=M e∧w.cell? ⟨b,6,J⟩=M v6∧w.cell? ⟨b,7,J⟩=M a∧w.cell? ⟨b,8,J⟩=M c:=⟨hpCell p 0,hpCell p 1,hpCell p 2,hpCell p 3,hpCell p 4,hpCell p 5,hpCell p 6,hpCell p 7,hpCell p 8⟩
theorem Xb {w:World} {b:Nat} {t:TypeId} {c:Array Value} (p:w.heap[b]?=M (N c t (0,0))):w.frozen? ⟨b,0,J⟩=false∧w.frozen? ⟨b,1,J⟩=false∧w.frozen? ⟨b,2,J⟩=false∧w.frozen? ⟨b,3,J⟩=false:=⟨hpFree p 0,hpFree p 1,hpFree p 2,hpFree p 3⟩
