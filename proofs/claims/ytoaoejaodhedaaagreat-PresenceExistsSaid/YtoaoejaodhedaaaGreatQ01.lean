import Derived.WalkKit
import Derived.WalkSpells
import Derived.WalkLawsBesides
import Derived.Laws.AppendOwnNone
import Derived.Carry
import Derived.OpenShut
import Derived.StillTailTactics
import Derived.Deep.MidRow
import Derived.ProofKit
import Derived.Test.YtoaoejaodhedaaaGreatRows
namespace Go.Proofs.YtoaoejaodhedaaaGreat
open Go.RowKit
theorem ret_int {k:IntKind} {a b:Int} (h:a=b):Ending.returned (.int k a)=.returned (.int k b):=by rw[h]
theorem ret_bool {a b:Bool} (h:a=b):Ending.returned (.bool a)=.returned (.bool b):=by rw[h]
theorem hid {p:Prop} (h:p):Hid p:=h
theorem bt {B:Nat} {w w1 w2:World} (h:Below B w w1) (k:Below w1.heap.size w1 w2) (hB:B≤w.heap.size):Below B w w2:=
 h.trans (k.mono (Nat.le_trans hB h.size))
theorem bta {B:Nat} {w w1:World} (h:Below B w w1) (hB:B≤w.heap.size) (o:Obj):Below B w (w1.alloc o):=h.alloc (Nat.le_trans hB h.size) o
def byteV (x:UInt8):Value:=.int .u8 (x.toNat:Int)
def u8s (l:List UInt8):List Value:=l.map byteV
@[simp] theorem u8s_length (l:List UInt8):(u8s l).length=l.length:=by simp [u8s]
theorem u8s_append (l k:List UInt8):u8s (l++k)=u8s l++u8s k:=by simp [u8s]
theorem u8s_get (l:List UInt8) (i:Nat) (h:i<l.length):(u8s l)[i]?=some (.int .u8 ((l.getD i 0).toNat:Int)):=by
 simp [u8s,byteV,h,List.getD]
def Bs (w:World) (v:Value) (l:List UInt8):Prop:=
 ∃a c,v=.slice a l.length c∧l.length≤c∧c≤maxLen∧(a=none→c=0)∧
  (l≠[]→∃b o,a=some ⟨b,o,none⟩∧∀i,i<l.length→w.cell? ⟨b,o+i,none⟩=some (.int .u8 ((l.getD i 0).toNat:Int)))
theorem Bs.nil (w:World):Bs w (.slice none 0 0) []:=⟨none,0,rfl,Nat.le_refl _,Nat.zero_le _,fun _=>rfl,fun h=>absurd rfl h⟩
theorem Bs.len {w:World} {v:Value} {l:List UInt8} (h:Bs w v l):l.length≤maxLen:=by
 obtain⟨a,c,_,h1,h2,_⟩:=h;exact Nat.le_trans h1 h2
theorem cell_lt {w:World} {p:Addr} {v:Value} (h:w.cell? p=some v):p.block<w.heap.size:=World.block_lt_of_cell? w p h
theorem cell_keep {w1 w2:World} {p:Addr} {v:Value} (hb:Below w1.heap.size w1 w2) (h:w1.cell? p=some v):w2.cell? p=some v:=by
 rw[hb.cell (cell_lt h)];exact h
theorem Bs.below {w w':World} {v:Value} {l:List UInt8} {B:Nat} (h:Bs w v l) (hb:Below B w w') (hB:w.heap.size≤B):Bs w' v l:=by
 obtain⟨a,c,hv,h1,h2,h3,h4⟩:=h;refine⟨a,c,hv,h1,h2,h3,fun hl=>?_⟩;obtain⟨b,o,ha,hc⟩:=h4 hl;refine⟨b,o,ha,fun i hi=>?_⟩;have hlt:=cell_lt (hc i hi);rw[hb.cell (p:=⟨b,o+i,none⟩) (Nat.lt_of_lt_of_le hlt hB)];exact hc i hi
theorem Bs.keep {w w':World} {v:Value} {l:List UInt8} (h:Bs w v l) (hb:Below w.heap.size w w'):Bs w' v l:=h.below hb (Nat.le_refl _)
theorem take_get {α:Type} {cur:Array α} {n:Nat} {xs:List α} (h:cur.toList.take n=xs) (i:Nat) (hi:i<xs.length):cur[i]?=xs[i]?:=by
 subst h;have:i<n:=by simp at hi;omega
 simp [this]
theorem Bs.own {w:World} {base:Nat} {E:TypeId} {v:Value} {l:List UInt8} {n:Nat} (h:w.ownsRow base E 1 v n (u8s l)):Bs w v l:=by
 obtain⟨hlen,h|⟨g,cap,cur,hv,hb,hh,hnc,hcm,hcs,ht⟩⟩:=h
 ·obtain ⟨rfl,rfl⟩:=h
  have:l=[]:=by simpa using hlen
  subst this;exact Bs.nil w
 ·have hn:n=l.length:=by simpa using hlen.symm
  subst hn;refine⟨_,_,hv,hnc,hcm,fun h=>by simp at h,fun hl=>⟨g,0,rfl,fun i hi=>?_⟩⟩;simp only[World.cell?,hh,Nat.zero_add,Option.isSome_none];rw[←u8s_get l i hi];exact take_get (by simpa using ht) i (by simpa using hi)
theorem Bs.at {w:World} {v:Value} {l:List UInt8} (h:Bs w v l) (hl:l≠[]):
  ∃b o c,v=.slice (some ⟨b,o,none⟩) l.length c∧l.length≤c∧c≤maxLen∧∀i,i<l.length→w.cell? ⟨b,o+i,none⟩=some (.int .u8 ((l.getD i 0).toNat:Int)):=by
 obtain⟨a,c,hv,h1,h2,h3,h4⟩:=h;obtain⟨b,o,rfl,hc⟩:=h4 hl;exact⟨b,o,c,hv,h1,h2,hc⟩
theorem Bs.mk {w:World} {b o c:Nat} {l:List UInt8} (h1:l.length≤c) (h2:c≤maxLen) (hc:∀i,i<l.length→w.cell? ⟨b,o+i,none⟩=some (.int .u8 ((l.getD i 0).toNat:Int))):
 Bs w (.slice (some ⟨b,o,none⟩) l.length c) l:=⟨_,_,rfl,h1,h2,fun h=>by simp at h,fun _=>⟨b,o,rfl,hc⟩⟩
theorem one_u8s (l:List UInt8):∀u∈u8s l,u.oneCell'=true:=by
 intro u hu;simp only[u8s,List.mem_map] at hu;obtain⟨x,_,rfl⟩:=hu;rfl
theorem wpList_app {P:Program} {w:World} {ops:Array Oper} {rest:List Oper} {o:Oper} {a:Act} {Q:Exit→Act→World→Prop} (hgd:o.guard=none) (s x:Operand) (t:TypeId)
  (ho:o.op=.call {callee:=.builtin .append,args:=#[s,x],argTypes:=#[t,t]})
  (base:Nat) (e:TypeId) (i:TypeInfo) (ht:P.underlying t=some (.slice e)) (hi:P.info? e=some i) (hz:i.zero=some (.int .u8 0))
  (hsize:i.size=1) (hby:i.bytes=1)
  (v:Value) (xs:List UInt8) (hs:a.eval s=v) (hown:w.ownsRow base e 1 v xs.length (u8s xs))
  (y:Value) (ys:List UInt8) (hx:a.eval x=y) (hy:Bs w y ys) (hlen:xs.length+ys.length≤140737488355328) (hbase:base≤w.heap.size)
  (h:∀v' w',w'.ownsRow base e 1 v' (xs.length+ys.length) (u8s (xs++ys))→w.grownBy w' v.ownBlock→wpList P ops Q rest (a.put o.dst v') w'):wpList P ops Q (o::rest) a w:=by
 obtain⟨ad,c,rfl,h1,h2,h3,h4⟩:=hy;by_cases hn:ys=[]
 ·subst hn
  cases ad with
  |none=>
   obtain rfl:=h3 rfl;exact wpList_append_own_none hgd s x t ho base e i 1 ht hi v xs.length (u8s xs) hs hown hx (h v w (by simpa using hown) (World.grownBy.refl _ _))
  |some ad=>
   exact wpList_append_own w hgd s x t ho base e i _ 1 1 ht hi hz hsize hby rfl (by decide) v xs.length (u8s xs) hs hown ad 0 c [] hx rfl (by simp) (by simp) (by unfold maxLen;simp at hlen;omega) (by simp at hlen;omega) hbase
    (fun v' w' p q _=>h v' w' (by simpa using p) q)
 ·obtain ⟨b,off,rfl,hc⟩:=h4 hn
  refine wpList_append_own w hgd s x t ho base e i _ 1 1 ht hi hz hsize hby rfl (by decide) v xs.length (u8s xs) hs hown ⟨b,off,none⟩ ys.length c (u8s ys) hx (by simp) ?_ (one_u8s ys) (by unfold maxLen;omega) (by omega) hbase
    (fun v' w' p q _=>h v' w' (by rw[u8s_append];exact p) q)
  intro j u hj;have hjl:j<ys.length:=by
   have:=(List.getElem?_eq_some_iff.1 hj).1;simpa using this
  rw[u8s_get ys j hjl] at hj;have e1:(⟨b,off,none⟩:Addr).add j=⟨b,off+j,none⟩:=by unfold Addr.add;split<;>simp_all
  rw[e1,hc j hjl];exact hj
theorem zeroCells_one (z:Value) (hz:z.cells=#[z]) (n:Nat):Builtin.zeroCells z.cells n=(List.replicate n z).toArray:=by
 apply Array.ext';simp only[Builtin.zeroCells,hz,Array.toList_map];apply List.ext_getElem
 ·simp
 ·intro i h1 h2
  simp at h1 h2 ⊢;have:i%1=0:=Nat.mod_one i;simp [this]
theorem run_append_zeros {P:Program} (w:World) (base:Nat) (t tx ty e:TypeId) (i:TypeInfo) (z:Value) (bytes:Nat) (ht:P.underlying t=some (.slice e)) (htx:P.underlying tx=some (.int .i64)) (hi:P.info? e=some i) (hz:i.zero=some z)
  (hsize:i.size=1) (hby:i.bytes=bytes) (hzc:z.cells=#[z]) (hz1:z.oneCell'=true)
  (v:Value) (n:Nat) (xs:List Value) (hown:w.ownsRow base e 1 v n xs) (m:Nat) (hm0:0<m)
  (h63:n+m≤maxLen) (hbytes:(n+m)*bytes≤140737488355328) (hbase:base≤w.heap.size):
  ∃v' w',(Builtin.append_ #[t,tx] ty #[v,.int .i64 m]).run P w=.ok v' w'∧w'.ownsRow base e 1 v' (n+m) (xs++List.replicate m z)∧w.grownBy w' v.ownBlock:=by
 subst hby;have hsmall:n+m≤9223372036854775807:=by simp only[maxLen] at h63;omega
 have hwrap:IntKind.i64.wrap (m:Int)=m:=IntWalk.i64_in _ (by omega);have hnn:¬((m:Int)<0):=by omega
 have hmb:¬(281474976710656<(m:Int)*(i.bytes:Int)):=by
  have:m*i.bytes≤(n+m)*i.bytes:=Nat.mul_le_mul_right _ (by omega);have h2:((m*i.bytes:Nat):Int)≤((140737488355328:Nat):Int):=Int.ofNat_le.2 (Nat.le_trans this hbytes);rw[Int.natCast_mul] at h2;omega
 have hlen:(xs++List.replicate m z).length=(n+m)*1:=by rw[List.length_append,hown.1,List.length_replicate];omega
 have grown:∀(old:Nat),old<n+m→∀(row:Option Nat) (A:Array Value),A=(xs++List.replicate m z).toArray++Builtin.zeroCells z.cells (grownCap w (n+m) old e- (n+m))→
   (w.drew.alloc (.cells A e)).ownsRow base e 1
    (.slice (some ⟨w.heap.size,0,none⟩) (n+m) (grownCap w (n+m) old e)) (n+m) (xs++List.replicate m z)∧
   w.grownBy (w.drew.alloc (.cells A e)) row:=by
  intro old ho row A hA;have hge:=grownCap_ge w (n+m) old e;have hcm:grownCap w (n+m) old e≤maxLen:=grownCap_le_maxLen w (n+m) old e h63;refine⟨⟨hlen,.inr ⟨w.heap.size,_,_,rfl,hbase,heap_alloc_new w.drew _,hge,hcm,?_,?_⟩⟩,⟨rfl,rfl,rfl,by simp,fun k hk _=>Below.heap_alloc w.drew _ k hk⟩⟩
  ·rw [hA]
   simp only[Array.size_append,List.size_toArray,size_zeroCells,hzc,hlen];simp;omega
  ·rw [hA]
   simp only[Array.toList_append,←hlen];exact List.take_left
 rcases hown.2 with⟨rfl,rfl⟩|⟨g,cap,cur,rfl,hbg,hg,hnc,hcm,hcs,htake⟩
 ·have hx:xs=[]:=List.eq_nil_of_length_eq_zero (by simpa using hown.1)
  subst hx;have hgr:=grown 0 (by omega) (Value.ownBlock (.slice none 0 0)) _ rfl;simp only[Nat.zero_add,List.nil_append] at hgr ⊢;refine⟨_,_,?_,hgr.1,hgr.2⟩;have hm1:m≠0:=by omega
  have h63':¬(9223372036854775807<(m:Int)):=by omega
  have h48':¬(281474976710656<Builtin.nextslicecap m 0*i.bytes):=by rw[nextslicecap_zero hm0];simp at hbytes;omega
  have hzc2:=zeroCells_one z hzc m;simp [Builtin.append_,run_underlying ht,run_underlying htx,sizeOf,typeInfo,zeroValue,hi,hz,hsize,hm1,h63',h48',Question.forced,run_firstCells_none,newRow,grownCap,asInt,asIntOf,hwrap,hnn,hmb,hzc2]
 ·by_cases hroom:n+m≤cap
  ·have hfit:n+(List.replicate m z).length≤cur.size:=by rw[hcs];simp;omega
   have hst:=run_storeCells_at P g n e (List.replicate m z) 0 cur w hg (by simpa using hfit) (by intro u hu;rw[(List.mem_replicate.1 hu).2];exact hz1);simp only[Nat.add_zero] at hst;have hzc2:=zeroCells_one z hzc m;have hm1:m≠0:=by omega
   have hr:(Builtin.append_ #[t,tx] ty #[.slice (some ⟨g,0,none⟩) n cap,.int .i64 m]).run P w=.ok (.slice (some ⟨g,0,none⟩) (n+m) cap) (w.setRow g (cur.toList.take n++List.replicate m z++cur.toList.drop (n+(List.replicate m z).length)).toArray):=by
    simp [Builtin.append_,run_underlying ht,run_underlying htx,sizeOf,typeInfo,zeroValue,hi,hz,hsize,hroom,hm1,asInt,asIntOf,hwrap,hnn,hmb,hzc2,Addr.add_lit];simp at hst;rw[hst];rfl
   refine⟨_,_,hr,⟨hlen,.inr ⟨g,cap,_,rfl,hbg,setRow_heap w g cur _ e _ hg,hroom,hcm,?_,?_⟩⟩,⟨rfl,rfl,rfl,by simp,fun k _ hk=>setRow_other w g k _ (fun e=>hk (by simp [Value.ownBlock,e]))⟩⟩
   ·simp only[List.size_toArray,List.length_append,List.length_take,List.length_drop,Array.length_toList,List.length_replicate]
    simp at hcs;omega
   ·simp only[Nat.mul_one] at htake
    rw[htake,←hlen];exact List.take_left
  ·have holds:∀j u,xs[j]?=some u→w.cell? ((⟨g,0,none⟩:Addr).add j)=some u:=hown.cells (g:=g) rfl
   have hgr:=grown cap (by omega) (Value.ownBlock (.slice (some ⟨g,0,none⟩) n cap)) _ rfl;refine⟨_,_,?_,hgr.1,hgr.2⟩;have hm1:m≠0:=by omega
   have h63':¬(9223372036854775807<((n:Int)+(m:Int))):=by omega
   have h48':¬(281474976710656<Builtin.nextslicecap (n+m) cap*i.bytes):=by
    have:=growslice_fits (need:=n+m) (old:=cap) (by omega) hbytes;omega
   have hzc2:=zeroCells_one z hzc m;have hfo:=run_firstCells_some (P:=P) w.drew 1 n ⟨g,0,none⟩ n cap xs hown.1 (by simpa using holds);simp [Builtin.append_,run_underlying ht,run_underlying htx,sizeOf,typeInfo,zeroValue,hi,hz,hsize,hroom,hm1,h63',h48',Question.forced,hfo,newRow,grownCap,asInt,asIntOf,hwrap,hnn,hmb,hzc2];congr 2;apply Array.ext';simp
theorem wpList_zeros {P:Program} {w:World} {ops:Array Oper} {rest:List Oper} {o:Oper} {a:Act} {Q:Exit→Act→World→Prop} (hgd:o.guard=none) (s x:Operand) (t tx:TypeId)
  (ho:o.op=.call {callee:=.builtin .append,args:=#[s,x],argTypes:=#[t,tx]})
  (base:Nat) (e:TypeId) (i:TypeInfo) (z:Value) (bytes:Nat) (ht:P.underlying t=some (.slice e)) (htx:P.underlying tx=some (.int .i64)) (hi:P.info? e=some i) (hz:i.zero=some z)
  (hsize:i.size=1) (hby:i.bytes=bytes) (hzc:z.cells=#[z]) (hz1:z.oneCell'=true)
  (v:Value) (n:Nat) (xs:List Value) (hs:a.eval s=v) (hown:w.ownsRow base e 1 v n xs) (m:Nat) (hx:a.eval x=.int .i64 m) (hm0:0<m)
  (h63:n+m≤maxLen) (hbytes:(n+m)*bytes≤140737488355328) (hbase:base≤w.heap.size)
  (h:∀g cap w',n+m≤cap→cap≤maxLen→base≤g→w'.ownsRow base e 1 (.slice (some ⟨g,0,none⟩) (n+m) cap) (n+m) (xs++List.replicate m z)→w.grownBy w' v.ownBlock→
   wpList P ops Q rest (a.put o.dst (.slice (some ⟨g,0,none⟩) (n+m) cap)) w'):wpList P ops Q (o::rest) a w:=by
 refine wpList_plain hgd fun K hK=>?_
 obtain⟨v',w',hr,h2,h3⟩:=run_append_zeros (P:=P) w base t tx o.type e i z bytes ht htx hi hz hsize hby hzc hz1 v n xs hown m hm0 h63 hbytes hbase;rcases h2.2 with⟨_,h0⟩|⟨g,cap,cur,rfl,hg,_,hnc,hcm,_⟩
 ·omega
 ·unfold Oper.wp execOp
  simp only[ho,resolve,invoke,builtin,Sem.run_bind,Sem.run_pure,Result.andThen_ok,List.map_toArray,List.map_cons,List.map_nil,hs,hx,hr];exact hK _ _ (h g cap w' hnc hcm hg h2 h3)
theorem own_lower {w:World} {base base':Nat} {e:TypeId} {sz n:Nat} {v:Value} {xs:List Value} (h:w.ownsRow base e sz v n xs) (hb:base'≤base):w.ownsRow base' e sz v n xs:=by
 obtain⟨hl,h|⟨g,cap,cur,hv,hg,r⟩⟩:=h
 ·exact ⟨hl,.inl h⟩
 ·exact ⟨hl,.inr ⟨g,cap,cur,hv,Nat.le_trans hb hg,r⟩⟩
theorem own_cut {w:World} {base:Nat} {e:TypeId} {g n cap k:Nat} {xs:List Value} (h:w.ownsRow base e 1 (.slice (some ⟨g,0,none⟩) n cap) n xs) (hk:k≤n):
  w.ownsRow base e 1 (.slice (some ⟨g,0,none⟩) k cap) k (xs.take k):=by
 obtain⟨hl,h|⟨g',cap',cur,hv,hb,hh,hnc,hcm,hcs,ht⟩⟩:=h
 ·simp at h
 ·simp only[Value.slice.injEq,Option.some.injEq,Addr.mk.injEq,and_true,true_and] at hv
  obtain⟨rfl,rfl⟩:=hv;refine⟨by simp at hl ⊢;omega,.inr ⟨g,cap,cur,rfl,hb,hh,by omega,hcm,hcs,?_⟩⟩;rw[←ht];simp [List.take_take,Nat.min_eq_left hk]
structure Keeps (F:Nat→Prop) (w w':World):Prop where
 os:w'.os=w.os
 tape:w'.tape=w.tape
 output:w'.output=w.output
 size:w.heap.size≤w'.heap.size
 block:∀k,k<w.heap.size→¬F k→w'.heap[k]?=w.heap[k]?
theorem Keeps.refl (F:Nat→Prop) (w:World):Keeps F w w:=⟨rfl,rfl,rfl,Nat.le_refl _,fun _ _ _=>rfl⟩
theorem Keeps.of_below {F:Nat→Prop} {w w':World} (h:Below w.heap.size w w'):Keeps F w w':=⟨h.os,h.tape,h.output,h.size,fun k hk _=>h.block k hk⟩
theorem Keeps.below {F:Nat→Prop} {w w':World} {B:Nat} (h:Keeps F w w') (hB:B≤w.heap.size) (hF:∀k,k<B→¬F k):Below B w w':=
 ⟨h.os,h.tape,h.output,h.size,fun k hk=>h.block k (Nat.lt_of_lt_of_le hk hB) (hF k hk)⟩
theorem Keeps.of_grown {F:Nat→Prop} {w w':World} {row:Option Nat} (h:w.grownBy w' row) (hF:∀k,row=some k→F k):Keeps F w w':=
 ⟨h.os,h.tape,h.output,h.size,fun k hk hn=>h.block k hk (fun e=>hn (hF k e.symm))⟩
theorem Keeps.trans {F G:Nat→Prop} {a b c:World} (h:Keeps F a b) (k:Keeps G b c) (hG:∀i,i<a.heap.size→G i→F i):Keeps F a c:=
 ⟨k.os.trans h.os,k.tape.trans h.tape,k.output.trans h.output,Nat.le_trans h.size k.size,
  fun i hi hn=>(k.block i (Nat.lt_of_lt_of_le hi h.size) (fun g=>hn (hG i hi g))).trans (h.block i hi hn)⟩
theorem Keeps.set {F:Nat→Prop} {a w:World} (h:Keeps F a w) (p:Addr) (v:Value) (hp:F p.block):Keeps F a (w.setCell p v):=
 ⟨h.os,h.tape,h.output,by simp [World.setCell];exact h.size,fun i hi hn=>by
  rw[Below.heap_setCell _ _ _ _ (by rintro rfl;exact hn hp)];exact h.block i hi hn⟩
theorem Keeps.mono {F G:Nat→Prop} {a w:World} (h:Keeps F a w) (hG:∀k,k<a.heap.size→F k→G k):Keeps G a w:=
 ⟨h.os,h.tape,h.output,h.size,fun i hi hn=>h.block i hi (fun f=>hn (hG i hi f))⟩
theorem Keeps.cell {F:Nat→Prop} {w w':World} (h:Keeps F w w') {p:Addr} {v:Value} (hc:w.cell? p=some v) (hp:¬F p.block):w'.cell? p=some v:=by
 rw[World.cell?_of_block (w:=w) (h.block p.block (cell_lt hc) hp)];exact hc
theorem own_keeps {w w':World} {F:Nat→Prop} {base:Nat} {e:TypeId} {size:Nat} {v:Value} {n:Nat} {xs:List Value} (h:w.ownsRow base e size v n xs) (hk:Keeps F w w')
  (hn:∀k,v.ownBlock=some k→¬F k):w'.ownsRow base e size v n xs:=by
 obtain⟨hl,h|⟨g,cap,cur,hv,hg,hh,r⟩⟩:=h
 ·exact ⟨hl,.inl h⟩
 ·refine ⟨hl,.inr ⟨g,cap,cur,hv,hg,?_,r⟩⟩
  have hlt:g<w.heap.size:=(Array.getElem?_eq_some_iff.1 hh).1;rw[hk.block g hlt (hn g (by rw[hv];rfl))];exact hh
theorem own_slice {w:World} {base:Nat} {e:TypeId} {size:Nat} {v:Value} {n:Nat} {xs:List Value} (h:w.ownsRow base e size v n xs):∃a c,v=.slice a n c:=by
 obtain⟨hl,⟨hv,hn⟩|⟨g,cap,cur,hv,_⟩⟩:=h
 ·exact ⟨none,0,by rw[hv,hn]⟩
 ·exact ⟨_,_,hv⟩
def NewOr (w:World) (v v':Value):Prop:=v'.ownBlock=v.ownBlock∨∃k,v'.ownBlock=some k∧w.heap.size≤k
theorem append_where {P:Program} {w:World} {base:Nat} {t ty e:TypeId} {i:TypeInfo} {z:Value} {size bytes:Nat} (ht:P.underlying t=some (.slice e)) (hi:P.info? e=some i) (hz:i.zero=some z)
  (hsize:i.size=size) (hby:i.bytes=bytes) (hzs:z.cells.size=size) (hsz:0<size)
  {v:Value} {n:Nat} {xs:List Value} (hown:w.ownsRow base e size v n xs)
  {a:Addr} {m c:Nat} {news:List Value} (hl:news.length=m*size) (hnews:∀j u,news[j]?=some u→w.cell? (a.add j)=some u) (h1:∀u∈news,u.oneCell'=true)
  (h63:n+m≤maxLen) (hbytes:(n+m)*bytes≤140737488355328) {v':Value} {w':World}
  (hr:(Builtin.append_ #[t,t] ty #[v,.slice (some a) m c]).run P w=.ok v' w'):NewOr w v v':=by
 rcases hown.2 with⟨rfl,rfl⟩|⟨g,cap,cur,rfl,hbg,hg,hnc,hcm,hcs,htake⟩
 ·have hx:xs=[]:=List.eq_nil_of_length_eq_zero (by simpa using hown.1)
  subst hx;obtain⟨v2,w2,hr2,h2,_⟩:=run_append_own (P:=P) w w.heap.size t ty e i z size bytes ht hi hz hsize hby hzs hsz (.slice none 0 0) 0 [] (World.ownsRow_nil _ _ _ _) a m c news hl hnews h1 h63 hbytes (Nat.le_refl _);rw[hr] at hr2;cases hr2;rcases h2.2 with⟨rfl,_⟩|⟨g,cap,cur,rfl,hg,_⟩
  ·exact .inl rfl
  ·exact .inr ⟨g,rfl,hg⟩
 ·subst hsize
  by_cases hroom:n+m≤cap
  ·have hfit:n*i.size+news.length≤cur.size:=by rw[hl,hcs,←Nat.add_mul];exact Nat.mul_le_mul_right _ hroom
   have hr2:=run_append_room (P:=P) w t ty e i ht hi g n cap cur hg a m c news hl hnews h1 hroom hfit;rw[hr] at hr2;cases hr2;exact .inl rfl
  ·have holds:∀j u,xs[j]?=some u→w.cell? ((⟨g,0,none⟩:Addr).add j)=some u:=hown.cells (g:=g) rfl
   subst hby;simp only[maxLen] at h63;have hr2:=run_append_grow (P:=P) w t ty e i z ht hi hz ⟨g,0,none⟩ n cap xs hown.1 holds a m c news hl hnews (by omega) (by omega) (growslice_fits (by omega) hbytes);rw[hr] at hr2;cases hr2;exact .inr ⟨_,rfl,Nat.le_refl _⟩
theorem wpList_appN {P:Program} {w:World} {ops:Array Oper} {rest:List Oper} {o:Oper} {a:Act} {Q:Exit→Act→World→Prop} (hgd:o.guard=none) (s x:Operand) (t:TypeId)
  (ho:o.op=.call {callee:=.builtin .append,args:=#[s,x],argTypes:=#[t,t]})
  (base:Nat) (e:TypeId) (i:TypeInfo) (z:Value) (size bytes:Nat) (ht:P.underlying t=some (.slice e)) (hi:P.info? e=some i) (hz:i.zero=some z)
  (hsize:i.size=size) (hby:i.bytes=bytes) (hzs:z.cells.size=size) (hsz:0<size)
  (v:Value) (n:Nat) (xs:List Value) (hs:a.eval s=v) (hown:w.ownsRow base e size v n xs)
  (ad:Addr) (m c:Nat) (news:List Value) (hx:a.eval x=.slice (some ad) m c) (hl:news.length=m*size) (hnews:∀j u,news[j]?=some u→w.cell? (ad.add j)=some u) (h1:∀u∈news,u.oneCell'=true)
  (h63:n+m≤maxLen) (hbytes:(n+m)*bytes≤140737488355328) (hbase:base≤w.heap.size)
  (h:∀v' w',w'.ownsRow base e size v' (n+m) (xs++news)→w.grownBy w' v.ownBlock→NewOr w v v'→wpList P ops Q rest (a.put o.dst v') w'):wpList P ops Q (o::rest) a w:=by
 refine wpList_plain hgd fun K hK=>?_
 obtain⟨v',w',hr,h2,h3,_⟩:=run_append_own (P:=P) w base t o.type e i z size bytes ht hi hz hsize hby hzs hsz v n xs hown ad m c news hl hnews h1 h63 hbytes hbase;have h4:=append_where ht hi hz hsize hby hzs hsz hown hl hnews h1 h63 hbytes hr;unfold Oper.wp execOp;simp only[ho,resolve,invoke,builtin,Sem.run_bind,Sem.run_pure,Result.andThen_ok,List.map_toArray,List.map_cons,List.map_nil,hs,hx,hr];exact hK _ _ (h v' w' h2 h3 h4)
theorem step_appB {P:Program} {w:World} {ops:Array Oper} {o:Oper} {a:Act} {K:Act→World→Prop} {Q:Exit→Act→World→Prop} {E:Prop} (hgd:o.guard=none) (s x:Operand) (t:TypeId)
  (ho:o.op=.call {callee:=.builtin .append,args:=#[s,x],argTypes:=#[t,t]})
  (base:Nat) (e:TypeId) (i:TypeInfo) (ht:P.underlying t=some (.slice e)) (hi:P.info? e=some i) (hz:i.zero=some (.int .u8 0))
  (hsize:i.size=1) (hby:i.bytes=1)
  (v:Value) (xs:List UInt8) (hs:a.eval s=v) (hown:w.ownsRow base e 1 v xs.length (u8s xs))
  (y:Value) (ys:List UInt8) (hx:a.eval x=y) (hy:Bs w y ys) (hlen:xs.length+ys.length≤140737488355328) (hbase:base≤w.heap.size)
  (h:∀v' w',w'.ownsRow base e 1 v' (xs.length+ys.length) (u8s (xs++ys))→w.grownBy w' v.ownBlock→NewOr w v v'→K (a.put o.dst v') w'):
  if Region.wanted o (yielded ops a.tmps)=true then Oper.wp P o a w K Q else E:=by
 have hw:Region.wanted o (yielded ops a.tmps)=true:=by simp [Region.wanted,hgd]
 rw[if_pos hw];obtain⟨ad,c,rfl,h1,h2,h3,h4⟩:=hy;unfold Oper.wp;have fin:∀v' w',(Builtin.append_ #[t,t] o.type #[v,.slice ad ys.length c]).run P w=.ok v' w'→w'.ownsRow base e 1 v' (xs.length+ys.length) (u8s (xs++ys))→w.grownBy w' v.ownBlock→NewOr w v v'→
   o.upon P a K Q ((execOp a.eval o).run P w):=by
  intro v' w' hr h2 h3 h4;unfold execOp;simp only[ho,resolve,invoke,builtin,Sem.run_bind,Sem.run_pure,Result.andThen_ok,List.map_toArray,List.map_cons,List.map_nil,hs,hx,hr];exact h v' w' h2 h3 h4
 by_cases hn:ys=[]
 ·subst hn
  cases ad with
  |none=>
   obtain rfl:=h3 rfl;have hrun:=run_append_owned_none (P:=P) (w:=w) base t o.type e i 1 ht hi v xs.length (u8s xs) hown;exact fin v w hrun (by simpa using hown) (World.grownBy.refl _ _) (.inl rfl)
  |some ad=>
   obtain⟨v',w',hr,g2,g3,_⟩:=run_append_own (P:=P) w base t o.type e i _ 1 1 ht hi hz hsize hby rfl (by decide) v xs.length (u8s xs) hown ad 0 c [] rfl (by simp) (by simp) (by unfold maxLen;simp at hlen;omega) (by simp at hlen;omega) hbase;have g4:=append_where ht hi hz hsize hby rfl (by decide) hown (m:=0) (news:=[]) rfl (by simp) (by simp) (by unfold maxLen;simp at hlen;omega) (by simp at hlen;omega) hr;exact fin v' w' hr (by simpa using g2) g3 g4
 ·obtain ⟨b,off,rfl,hc⟩:=h4 hn
  have hnews:∀j u,(u8s ys)[j]?=some u→w.cell? ((⟨b,off,none⟩:Addr).add j)=some u:=by
   intro j u hj;have hjl:j<ys.length:=by
    have:=(List.getElem?_eq_some_iff.1 hj).1;simpa using this
   rw[u8s_get ys j hjl] at hj;have e1:(⟨b,off,none⟩:Addr).add j=⟨b,off+j,none⟩:=by unfold Addr.add;split<;>simp_all
   rw[e1,hc j hjl];exact hj
  obtain⟨v',w',hr,g2,g3,_⟩:=run_append_own (P:=P) w base t o.type e i _ 1 1 ht hi hz hsize hby rfl (by decide) v xs.length (u8s xs) hown ⟨b,off,none⟩ ys.length c (u8s ys) (by simp) hnews (one_u8s ys) (by unfold maxLen;omega) (by omega) hbase;have g4:=append_where ht hi hz hsize hby rfl (by decide) hown (by simp) hnews (one_u8s ys) (by unfold maxLen;omega) (by omega) hr;exact fin v' w' hr (by rw[u8s_append];exact g2) g3 g4
def cutA (a:Option Addr) (c k:Nat):Option Addr:=if c=k then a else a.map (·.add (k*1))
theorem Bs.cut {w:World} {a:Option Addr} {n c:Nat} {l:List UInt8} (h:Bs w (.slice a n c) l) {i k:Nat} (hik:i≤k) (hk:k≤n):Bs w (.slice (cutA a c i) (k-i) (c-i)) ((l.take k).drop i):=by
 obtain⟨a',c',hv,h1,h2,h3,h4⟩:=h;cases hv;have hlen:((l.take k).drop i).length=k-i:=by simp;omega
 refine⟨cutA a c i,c-i,by rw[hlen],by omega,by omega,fun ha=>?_,fun hne=>?_⟩
 ·have:a=none:=by
   unfold cutA at ha;split at ha
   ·exact ha
   ·cases a with
    |none=>rfl
    |some _=>cases ha
  have:=h3 this;omega
 ·have hl:l≠[]:=by rintro rfl;simp at hne
  obtain⟨b,o,ha,hc⟩:=h4 hl;subst ha;have hpos:0<k-i:=by
   rw[←hlen];cases hx:(l.take k).drop i with
   |nil=>exact absurd hx hne
   |cons _ _=>simp
  refine⟨b,o+i,?_,fun j hj=>?_⟩
  ·unfold cutA
   rw[if_neg (by omega)];simp [Addr.add]
  ·rw [hlen] at hj
   have hjl:i+j<l.length:=by omega
   have:=hc (i+j) hjl;rw[show o+i+j=o+(i+j) by omega,this];simp only[List.getD,List.getElem?_drop,List.getElem?_take];rw[if_pos (by omega)]
theorem Bs.dropS {w:World} {a:Option Addr} {n c:Nat} {l:List UInt8} (h:Bs w (.slice a n c) l) {i:Nat} (hi:i≤n):Bs w (.slice (cutA a c i) (n-i) (c-i)) (l.drop i):=by
 have hn:l.length=n:=by obtain⟨_,_,hv,_⟩:=h;cases hv;rfl
 have:=h.cut hi (Nat.le_refl n)
 rwa [List.take_of_length_le (by omega)] at this
theorem Bs.capOf {w:World} {a:Option Addr} {n c:Nat} {l:List UInt8} (h:Bs w (.slice a n c) l):l.length=n∧n≤c∧c≤maxLen:=by
 obtain⟨a',c',hv,h1,h2,_⟩:=h;cases hv;exact⟨rfl,h1,h2⟩
theorem Bs.byte {w:World} {a:Option Addr} {n c:Nat} {l:List UInt8} (h:Bs w (.slice a n c) l) {i:Nat} (hi:i<n):∃b o,a=some ⟨b,o,none⟩∧w.cell? ⟨b,o+i,none⟩=some (.int .u8 ((l.getD i 0).toNat:Int)):=by
 obtain⟨a',c',hv,h1,h2,h3,h4⟩:=h;cases hv;obtain⟨b,o,ha,hc⟩:=h4 (by rintro rfl;simp at hi);exact⟨b,o,ha,hc i hi⟩
theorem run_cut {P:Program} {t e:TypeId} {i5:TypeInfo} (ht:P.underlying t=some (.slice e)) (hi:P.info? e=some i5) (hs:i5.size=1) (a:Option Addr) (n c i k:Nat) (hik:i≤k) (hkc:k≤c) (w:World):
  (Instr.slice t (.slice a n c) (some (.int .i64 i)) (some (.int .i64 k)) none).run P w=.ok (.slice (cutA a c i) (k-i) (c-i)) w:=by
 have h1:((0:Int)≤(i:Int)∧(i:Int)≤(k:Int)):=by omega
 have h2:((0:Int)≤(k:Int)∧(k:Int)≤(c:Int)):=by omega
 simp [Instr.slice,Instr.sliceBounds,Instr.sliceBound,run_underlying ht,asIntOf,sizeOf,typeInfo,hi,hs,cutA,hik,hkc]
theorem run_drop {P:Program} {t e:TypeId} {i5:TypeInfo} (ht:P.underlying t=some (.slice e)) (hi:P.info? e=some i5) (hs:i5.size=1) (a:Option Addr) (n c i:Nat) (hin:i≤n) (w:World):
  (Instr.slice t (.slice a n c) (some (.int .i64 i)) none none).run P w=.ok (.slice (cutA a c i) (n-i) (c-i)) w:=by
 simp [Instr.slice,Instr.sliceBounds,Instr.sliceBound,run_underlying ht,asIntOf,sizeOf,typeInfo,hi,hs,cutA,hin]
theorem hpCell {w:World} {b:Nat} {c:Array Value} {t:TypeId} {fz:Nat×Nat} (h:w.heap[b]?=some (.cells c t fz)) (i:Nat):w.cell? ⟨b,i,none⟩=c[i]?:=by simp [World.cell?,h]
theorem hpFree {w:World} {b:Nat} {c:Array Value} {t:TypeId} (h:w.heap[b]?=some (.cells c t (0,0))) (i:Nat):w.frozen? ⟨b,i,none⟩=false:=by simp [World.frozen?,h]
theorem hpSet {w:World} {b:Nat} {c:Array Value} {t:TypeId} {fz:Nat×Nat} (h:w.heap[b]?=some (.cells c t fz)) (i:Nat) (u:Value):
  (w.setCell ⟨b,i,none⟩ u).heap[b]?=some (.cells (c.setIfInBounds i u) t fz):=by
 simp [World.setCell,Array.getElem?_modify,h]
theorem hpOther {w:World} {b k i:Nat} {u:Value} (h:k≠b):(w.setCell ⟨b,i,none⟩ u).heap[k]?=w.heap[k]?:=Below.heap_setCell _ _ _ _ h
theorem hpLt {w:World} {b:Nat} {o:Obj} (h:w.heap[b]?=some o):b<w.heap.size:=(Array.getElem?_eq_some_iff.1 h).1
theorem hpNew (w:World) (o:Obj):(w.alloc o).heap[w.heap.size]?=some o:=heap_alloc_new _ _
theorem hpKeep {w w':World} {b:Nat} {o:Obj} (h:w.heap[b]?=some o) (hb:Below w.heap.size w w'):w'.heap[b]?=some o:=by rw[hb.block _ (hpLt h)];exact h
theorem hpKeeps {w w':World} {F:Nat→Prop} {b:Nat} {o:Obj} (h:w.heap[b]?=some o) (hk:Keeps F w w') (hn:¬F b):w'.heap[b]?=some o:=by rw[hk.block _ (hpLt h) hn];exact h
theorem Bs.keepF {w w':World} {F:Nat→Prop} {a:Option Addr} {n c:Nat} {l:List UInt8} (h:Bs w (.slice a n c) l) (hk:Keeps F w w') (hn:∀ad,a=some ad→¬F ad.block):Bs w' (.slice a n c) l:=by
 obtain⟨a',c',hv,h1,h2,h3,h4⟩:=h;cases hv;refine⟨a,c,rfl,h1,h2,h3,fun hl=>?_⟩;obtain⟨b,o,ha,hc⟩:=h4 hl;exact⟨b,o,ha,fun i hi=>hk.cell (hc i hi) (show ¬F b from hn _ ha)⟩
theorem step_appN {P:Program} {w:World} {ops:Array Oper} {o:Oper} {a:Act} {K:Act→World→Prop} {Q:Exit→Act→World→Prop} {E:Prop} (hgd:o.guard=none) (s x:Operand) (t:TypeId)
  (ho:o.op=.call {callee:=.builtin .append,args:=#[s,x],argTypes:=#[t,t]})
  (base:Nat) (e:TypeId) (i:TypeInfo) (z:Value) (size bytes:Nat) (ht:P.underlying t=some (.slice e)) (hi:P.info? e=some i) (hz:i.zero=some z)
  (hsize:i.size=size) (hby:i.bytes=bytes) (hzs:z.cells.size=size) (hsz:0<size)
  (v:Value) (n:Nat) (xs:List Value) (hs:a.eval s=v) (hown:w.ownsRow base e size v n xs)
  (ad:Addr) (m c:Nat) (news:List Value) (hx:a.eval x=.slice (some ad) m c) (hl:news.length=m*size) (hnews:∀j u,news[j]?=some u→w.cell? (ad.add j)=some u) (h1:∀u∈news,u.oneCell'=true)
  (h63:n+m≤maxLen) (hbytes:(n+m)*bytes≤140737488355328) (hbase:base≤w.heap.size)
  (h:∀v' w',w'.ownsRow base e size v' (n+m) (xs++news)→w.grownBy w' v.ownBlock→NewOr w v v'→K (a.put o.dst v') w'):
  if Region.wanted o (yielded ops a.tmps)=true then Oper.wp P o a w K Q else E:=by
 have hw:Region.wanted o (yielded ops a.tmps)=true:=by simp [Region.wanted,hgd]
 rw[if_pos hw];obtain⟨v',w',hr,h2,h3,_⟩:=run_append_own (P:=P) w base t o.type e i z size bytes ht hi hz hsize hby hzs hsz v n xs hown ad m c news hl hnews h1 h63 hbytes hbase;have h4:=append_where ht hi hz hsize hby hzs hsz hown hl hnews h1 h63 hbytes hr;unfold Oper.wp execOp;simp only[ho,resolve,invoke,builtin,Sem.run_bind,Sem.run_pure,Result.andThen_ok,List.map_toArray,List.map_cons,List.map_nil,hs,hx,hr];exact h v' w' h2 h3 h4
theorem hpSetCells (b:Nat) (t:TypeId) (fz:Nat×Nat):∀(vs:List Value) (o:Nat) (w:World) (c:Array Value),w.heap[b]?=some (.cells c t fz)→o+vs.length≤c.size→
  (w.setCells b o vs).heap[b]?=some (.cells (c.toList.take o++vs++c.toList.drop (o+vs.length)).toArray t fz)
 |[],o,w,c,h,_=>by
  show w.heap[b]?=_;rw[h];simp
 |v::r,o,w,c,h,hl=>by
  have h1:=hpSet h o v;have h2:=hpSetCells b t fz r (o+1) (w.setCell ⟨b,o,none⟩ v) _ h1 (by simp at hl ⊢;omega);show ((w.setCell ⟨b,o,none⟩ v).setCells b (o+1) r).heap[b]?=_;rw[h2];have hlt:o<c.toList.length:=by simp at hl ⊢;omega
  have e:((c.setIfInBounds o v).toList.take (o+1)++r++(c.setIfInBounds o v).toList.drop (o+1+r.length))=(c.toList.take o++v::r++c.toList.drop (o+(v::r).length)):=by
   rw[Array.toList_setIfInBounds,List.take_set,List.drop_set_of_lt (by omega),List.length_cons,show o+1+r.length=o+(r.length+1) by omega];congr 1;rw[List.take_succ_eq_append_getElem hlt,List.set_append_right _ _ (by simp;omega)];simp;rw[show o-min o c.size=0 by simp at hlt;omega];rfl
  rw[e]
theorem keepsCells (b:Nat):∀(vs:List Value) (o:Nat) (w:World),Keeps (· =b) w (w.setCells b o vs)∧(w.setCells b o vs).heap.size=w.heap.size
 |[],o,w=>⟨Keeps.refl _ _,rfl⟩
 |v::r,o,w=>by
  obtain⟨h1,h2⟩:=keepsCells b r (o+1) (w.setCell ⟨b,o,none⟩ v);refine⟨Keeps.trans ((Keeps.refl _ _).set ⟨b,o,none⟩ v rfl) h1 (fun _ _ h=>h),?_⟩;show ((w.setCell ⟨b,o,none⟩ v).setCells b (o+1) r).heap.size=_;rw[h2];simp [World.setCell]
theorem wpList_storeW {P:Program} {w:World} {ops:Array Oper} {rest:List Oper} {op:Oper} {a:Act} {Q:Exit→Act→World→Prop} (hgd:op.guard=none) (ty:TypeId) (x y:Operand) (ho:op.op=.store ty x y)
  (p o:Nat) (old:Array Value) (t:TypeId) (cells:Array Value) (hx:a.eval x=.pointer (some ⟨p,o,none⟩)) (hy:a.eval y=.agg cells)
  (hb:w.heap[p]?=some (.cells old t (0,0))) (hsz:o+cells.size≤old.size) (hi:(P.info? ty).map (·.size)=some cells.size) (h1:cells.toList.all (·.oneCell')=true)
  (h:∀w',w'.heap[p]?=some (.cells (old.toList.take o++cells.toList++old.toList.drop (o+cells.toList.length)).toArray t (0,0))→Keeps (· =p) w w'→w'.heap.size=w.heap.size→wpList P ops Q rest (a.put op.dst undef) w'):
  wpList P ops Q (op::rest) a w:=by
 refine wpList_store_mid hgd ty x y ho p o cells hx hy (fun j hj=>?_) hi (by rw[←Array.all_toList];exact h1) ?_
 ·refine ⟨?_,hpFree hb _⟩
  rw[hpCell hb];simp;omega
 ·obtain ⟨k1,k2⟩:=keepsCells p cells.toList o w
  exact h _ (hpSetCells p t (0,0) cells.toList o w old hb (by simpa using hsz)) k1 k2
theorem newsNew (w:World) (cs:List Value) (t:TypeId):∀j u,cs[j]?=some u→(w.alloc (.cells cs.toArray t)).cell? ((⟨w.heap.size,0,none⟩:Addr).add j)=some u:=by
 intro j u h;have e:(⟨w.heap.size,0,none⟩:Addr).add j=⟨w.heap.size,j,none⟩:=by unfold Addr.add;split<;>simp_all
 rw[e,hpCell (hpNew w _)];simpa using h
structure Agree (B:Nat) (w W:World):Prop where
 size:w.heap.size≤W.heap.size
 block:∀k,B≤k→k<w.heap.size→W.heap[k]?=w.heap[k]?
theorem Agree.refl (B:Nat) (w:World):Agree B w w:=⟨Nat.le_refl _,fun _ _ _=>rfl⟩
theorem Agree.of_keeps {B:Nat} {F:Nat→Prop} {w W:World} (h:Keeps F w W) (hF:∀k,F k→k<B):Agree B w W:=
 ⟨h.size,fun k hk hl=>h.block k hl (fun f=>by have:=hF k f;omega)⟩
theorem Agree.of_below {B:Nat} {w W:World} (h:Below w.heap.size w W):Agree B w W:=⟨h.size,fun k _ hl=>h.block k hl⟩
theorem Agree.trans {B:Nat} {w W X:World} (h:Agree B w W) (k:Agree B W X):Agree B w X:=
 ⟨Nat.le_trans h.size k.size,fun i hi hl=>(k.block i hi (Nat.lt_of_lt_of_le hl h.size)).trans (h.block i hi hl)⟩
theorem Agree.mono {B C:Nat} {w W:World} (h:Agree B w W) (hB:B≤C):Agree C w W:=⟨h.size,fun k hk hl=>h.block k (Nat.le_trans hB hk) hl⟩
theorem Bs.agree {B:Nat} {w W:World} {a:Option Addr} {n c:Nat} {l:List UInt8} (h:Bs w (.slice a n c) l) (ha:∀ad,a=some ad→B≤ad.block) (hW:Agree B w W):Bs W (.slice a n c) l:=by
 obtain⟨a',c',hv,h1,h2,h3,h4⟩:=h;cases hv;refine⟨a,c,rfl,h1,h2,h3,fun hl=>?_⟩;obtain⟨b,o,hb,hc⟩:=h4 hl;refine⟨b,o,hb,fun i hi=>?_⟩;rw[World.cell?_of_block (w:=w) (hW.block b (ha _ hb) (cell_lt (hc i hi)))];exact hc i hi
theorem own_agree {B base:Nat} {w W:World} {e:TypeId} {size:Nat} {v:Value} {n:Nat} {xs:List Value} (h:w.ownsRow base e size v n xs) (hB:B≤base) (hW:Agree B w W):W.ownsRow base e size v n xs:=by
 obtain⟨hl,h|⟨g,cap,cur,hv,hg,hh,r⟩⟩:=h
 ·exact ⟨hl,.inl h⟩
 ·exact ⟨hl,.inr ⟨g,cap,cur,hv,hg,by rw[hW.block g (Nat.le_trans hB hg) (Array.getElem?_eq_some_iff.1 hh).1];exact hh,r⟩⟩
def Rd (P:Program) (w:World) (t:TypeId) (cs:List Value):Prop:=
 ∃(H:Type) (enc:TypeId×Value→H) (base:Nat) (spare:Nat→Bool) (held:Bool) (fuel:Nat) (x:DataW H×List MemPlace),DataW.trod enc P w base spare held fuel t cs=some x
theorem mapM_some {α β:Type} {f:α→Option β}:∀{l:List α} {ys:List β},l.mapM f=some ys→∀x∈l,∃y,f x=some y:=by
 intro l
 induction l with
 |nil=>intro ys _ x hx;cases hx
 |cons a l ih=>
  intro ys h x hx;rw[List.mapM_cons] at h;cases hfa:f a with
  |none=>rw[hfa] at h;exact absurd h (by simp)
  |some b=>
   rw[hfa] at h;cases hl:l.mapM f with
   |none=>rw[hl] at h;exact absurd h (by simp)
   |some bs=>
    rcases List.mem_cons.1 hx with rfl|hx
    ·exact ⟨b,hfa⟩
    ·exact ih hl x hx
theorem mapM_get {α β:Type} {f:α→Option β}:∀{l:List α} {ys:List β},l.mapM f=some ys→ys.length=l.length∧∀(i:Nat) (x:α),l[i]?=some x→f x=ys[i]?:=by
 intro l
 induction l with
 |nil=>
  intro ys h;obtain rfl:ys=[]:=by simpa [eq_comm] using h
  exact⟨rfl,fun i x hx=>by simp at hx⟩
 |cons a l ih=>
  intro ys h;rw[List.mapM_cons] at h;cases hfa:f a with
  |none=>rw[hfa] at h;exact absurd h (by simp)
  |some b=>
   rw[hfa] at h;cases hl:l.mapM f with
   |none=>rw[hl] at h;exact absurd h (by simp)
   |some bs=>
    rw[hl] at h;obtain rfl:ys=b::bs:=by simpa [eq_comm] using h
    obtain⟨h1,h2⟩:=ih hl;refine⟨by simp [h1],fun i x hx=>?_⟩;cases i with
    |zero=>simp at hx;subst hx;simpa using hfa
    |succ i=>simp at hx;simpa using h2 i x hx
section
variable {P:Program} {w:World} {t:TypeId} {cs:List Value}
theorem Rd.int {k:IntKind} (ht:P.underlying t=some (.int k)) (h:Rd P w t cs):∃n,cs=[.int k n]∧(Lit.int k n).wf=true:=by
 obtain⟨H,enc,base,spare,held,fuel,x,h⟩:=h;cases fuel with
 |zero=>simp [DataW.trod] at h
 |succ fuel=>
  unfold DataW.trod at h;rw[ht] at h;split at h<;>simp_all
theorem Rd.bool (ht:P.underlying t=some .bool) (h:Rd P w t cs):∃b,cs=[.bool b]:=by
 obtain⟨H,enc,base,spare,held,fuel,x,h⟩:=h;cases fuel with
 |zero=>simp [DataW.trod] at h
 |succ fuel=>
  unfold DataW.trod at h;rw[ht] at h;split at h<;>simp_all
theorem Rd.struct {fs:Array Field} (ht:P.underlying t=some (.struct fs)) (h:Rd P w t cs):
  cs.length=P.cellsOf t∧∀f∈fs.toList,Rd P w f.type ((cs.drop f.offset).take (P.cellsOf f.type)):=by
 obtain⟨H,enc,base,spare,held,fuel,x,h⟩:=h;cases fuel with
 |zero=>simp [DataW.trod] at h
 |succ fuel=>
  unfold DataW.trod at h;rw[ht] at h;dsimp only at h;split at h
  ·rename_i hl
   refine⟨hl,fun f hf=>?_⟩;cases hm:(fs.toList.mapM fun f=>DataW.trod enc P w base spare held fuel f.type ((cs.drop f.offset).take (P.cellsOf f.type))) with
   |none=>rw[hm] at h;cases h
   |some ys=>
    obtain⟨y,hy⟩:=mapM_some hm f hf;exact⟨H,enc,base,spare,held,fuel,y,hy⟩
  ·cases h
theorem Rd.array {n:Nat} {e:TypeId} (ht:P.underlying t=some (.array n e)) (h:Rd P w t cs):
  cs.length=P.cellsOf t∧∀i,i<n→Rd P w e ((cs.drop (i*P.cellsOf e)).take (P.cellsOf e)):=by
 obtain⟨H,enc,base,spare,held,fuel,x,h⟩:=h;cases fuel with
 |zero=>simp [DataW.trod] at h
 |succ fuel=>
  unfold DataW.trod at h;rw[ht] at h;dsimp only at h;split at h
  ·rename_i hl
   refine⟨hl,fun i hi=>?_⟩;cases hm:((List.range n).mapM fun i=>DataW.trod enc P w base spare held fuel e ((cs.drop (i*P.cellsOf e)).take (P.cellsOf e))) with
   |none=>rw[hm] at h;cases h
   |some ys=>
    obtain⟨y,hy⟩:=mapM_some hm i (List.mem_range.2 hi);exact⟨H,enc,base,spare,held,fuel,y,hy⟩
  ·cases h
theorem Rd.slice {e:TypeId} (ht:P.underlying t=some (.slice e)) (h:Rd P w t cs):
  cs=[.slice none 0 0]∨∃a len cap,cs=[.slice (some a) len cap]∧len≤cap∧cap≤maxLen∧
   ∀i,i<len→∃ds,ds.length=P.cellsOf e∧(∀j,j<P.cellsOf e→w.cell? ((a.add (i*P.cellsOf e)).add j)=ds[j]?)∧Rd P w e ds:=by
 obtain⟨H,enc,base,spare,held,fuel,x,h⟩:=h;cases fuel with
 |zero=>simp [DataW.trod] at h
 |succ fuel=>
  unfold DataW.trod at h;rw[ht] at h;split at h
  all_goals first
   |(exfalso;simp_all;done)
   |skip
  ·exact .inl rfl
  ·rename_i e' a len cap hx
   cases hx;refine .inr ⟨a,len,cap,rfl,?_⟩;dsimp only at h;split at h
   ·rename_i hb
    refine⟨hb.2.1,hb.2.2,fun i hi=>?_⟩;cases hm:((List.range len).mapM fun i=>(w.cells? base (a.add (i*P.cellsOf e)) (P.cellsOf e)).bind (DataW.trod enc P w base spare held fuel e)) with
    |none=>rw[hm] at h;cases h
    |some ys=>
     obtain⟨y,hy⟩:=mapM_some hm i (List.mem_range.2 hi);cases hc:w.cells? base (a.add (i*P.cellsOf e)) (P.cellsOf e) with
     |none=>rw[hc] at hy;cases hy
     |some ds=>
      rw[hc] at hy;refine⟨ds,?_,?_,H,enc,base,spare,held,fuel,y,hy⟩
      ·unfold World.cells? at hc
       split at hc
       ·simpa using (mapM_get hc).1
       ·cases hc
      ·intro j hj
       unfold World.cells? at hc;split at hc
       ·exact (mapM_get hc).2 j j (by simp [hj])
       ·cases hc
   ·cases h
theorem add_lit (b o i:Nat):(⟨b,o,none⟩:Addr).add i=⟨b,o+i,none⟩:=by unfold Addr.add;split<;>simp_all
theorem spot_of {a:Addr} {v:Value} (h:w.cell? a=some v):a=⟨a.block,a.off,none⟩:=by
 have:=World.cell?_spot h;cases a
 simp_all
theorem Bs.of_rd {E:TypeId} {v:Value} (hT:P.underlying t=some (.slice E)) (hE:P.underlying E=some (.int .u8)) (hc:P.cellsOf E=1) (h:Rd P w t [v]):∃l,Bs w v l:=by
 rcases h.slice hT with h|⟨a,len,cap,h,hl,hm,hel⟩
 ·cases h;exact⟨[],Bs.nil w⟩
 ·cases h
  have hb:∀i,i<len→∃n,w.cell? (a.add i)=some (.int .u8 n)∧0≤n∧n≤255:=by
   intro i hi;obtain⟨ds,hd,hcell,hr⟩:=hel i hi;obtain⟨n,rfl,hw⟩:=Rd.int hE hr;have h0:=hcell 0 (by omega);rw[hc,Nat.mul_one] at h0;exact⟨n,by simpa [Addr.add] using h0,bounds_u8 hw⟩
  refine⟨(List.range len).map fun i=>match w.cell? (a.add i) with|some (.int _ n)=>UInt8.ofNat n.toNat|_=>0,some a,cap,by simp,by simpa using hl,hm,fun h=>by simp at h,fun hne=>?_⟩;have hpos:0<len:=by
   rcases Nat.eq_zero_or_pos len with h|h
   ·subst h;simp at hne
   ·exact h
  obtain⟨n0,h0,_⟩:=hb 0 hpos;have hsp:a=⟨a.block,a.off,none⟩:=spot_of (by simpa [Addr.add] using h0);refine⟨a.block,a.off,by rw[←hsp],fun i hi=>?_⟩;have hi':i<len:=by simpa using hi
  obtain⟨n,hn,h1,h2⟩:=hb i hi';have e:(⟨a.block,a.off+i,none⟩:Addr)=a.add i:=by
   conv=>rhs;rw[hsp]
   rw[add_lit]
  rw[e,hn];simp [List.getD,hi',hn];omega
end
open Go.RowKit
def Sls {α:Type} (sz:Nat) (R:World→List Value→α→Prop) (w:World) (v:Value) (l:List α):Prop:=
 ∃a c,v=.slice a l.length c∧l.length≤c∧c≤maxLen∧(a=none→c=0)∧
  (l≠[]→∃b o,a=some ⟨b,o,none⟩∧∀(i:Nat) (x:α),l[i]?=some x→∃r,r.length=sz∧R w r x∧∀j u,r[j]?=some u→w.cell? ⟨b,o+i*sz+j,none⟩=some u)
section
variable {α:Type} {sz:Nat} {R:World→List Value→α→Prop}
theorem Sls.nil (w:World):Sls sz R w (.slice none 0 0) []:=⟨none,0,rfl,Nat.le_refl _,Nat.zero_le _,fun _=>rfl,fun h=>absurd rfl h⟩
theorem Sls.len {w:World} {v:Value} {l:List α} (h:Sls sz R w v l):l.length≤maxLen:=by
 obtain⟨a,c,_,h1,h2,_⟩:=h;exact Nat.le_trans h1 h2
theorem Sls.keep (hR:∀w w' r x,R w r x→Below w.heap.size w w'→R w' r x) {w w':World} {v:Value} {l:List α} (h:Sls sz R w v l) (hb:Below w.heap.size w w'):Sls sz R w' v l:=by
 obtain⟨a,c,hv,h1,h2,h3,h4⟩:=h;refine⟨a,c,hv,h1,h2,h3,fun hl=>?_⟩;obtain⟨b,o,ha,hc⟩:=h4 hl;refine⟨b,o,ha,fun i x hx=>?_⟩;obtain⟨r,c1,c2,c3⟩:=hc i x hx;exact⟨r,c1,hR _ _ _ _ c2 hb,fun j u hj=>cell_keep hb (c3 j u hj)⟩
theorem Sls.get {w:World} {a:Option Addr} {n c:Nat} {l:List α} (h:Sls sz R w (.slice a n c) l):
  l.length=n∧n≤c∧c≤maxLen∧∀i x,l[i]?=some x→∃b o,a=some ⟨b,o,none⟩∧∃r,r.length=sz∧R w r x∧∀j u,r[j]?=some u→w.cell? ⟨b,o+i*sz+j,none⟩=some u:=by
 obtain⟨a',c',hv,h1,h2,h3,h4⟩:=h;cases hv;refine⟨rfl,h1,h2,fun i x hx=>?_⟩;obtain⟨b,o,ha,hc⟩:=h4 (by rintro rfl;simp at hx);exact⟨b,o,ha,hc i x hx⟩
def CsL (sz:Nat) (Q:List Value→α→Prop):List Value→List α→Prop
 |cs,[]=>cs=[]
 |cs,x::l=>∃r rest,cs=r++rest∧r.length=sz∧Q r x∧CsL sz Q rest l
theorem CsL.snoc {Q:List Value→α→Prop} {r:List Value} {x:α} (hr:r.length=sz) (hq:Q r x):∀(l:List α) (cs:List Value),CsL sz Q cs l→CsL sz Q (cs++r) (l++[x])
 |[],cs,h=>by
  have h':cs=[]:=h;subst h';exact⟨r,[],by simp,hr,hq,rfl⟩
 |y::l,cs,h=>by
  obtain⟨r',rest,rfl,h1,h2,h3⟩:=h;exact⟨r',rest++r,by simp,h1,h2,CsL.snoc hr hq l rest h3⟩
theorem CsL.mono {Q Q':List Value→α→Prop} (hQ:∀r x,Q r x→Q' r x):∀(l:List α) (cs:List Value),CsL sz Q cs l→CsL sz Q' cs l
 |[],_,h=>h
 |_::l,_,h=>by
  obtain⟨r',rest,h0,h1,h2,h3⟩:=h;exact⟨r',rest,h0,h1,hQ _ _ h2,CsL.mono hQ l rest h3⟩
theorem CsL.get {Q:List Value→α→Prop}:∀(l:List α) (cs:List Value),CsL sz Q cs l→∀(i:Nat) (x:α),l[i]?=some x→∃r,r.length=sz∧Q r x∧∀(j:Nat) (u:Value),r[j]?=some u→cs[i*sz+j]?=some u
 |[],_,_,i,x,hx=>by simp at hx
 |y::l,cs,h,i,x,hx=>by
  obtain⟨r',rest,rfl,h1,h2,h3⟩:=h;cases i with
  |zero=>
   simp only[List.getElem?_cons_zero,Option.some.injEq] at hx;subst hx;refine⟨r',h1,h2,fun j u hj=>?_⟩;rw[Nat.zero_mul,Nat.zero_add,List.getElem?_append_left (List.getElem?_eq_some_iff.1 hj).1];exact hj
  |succ i=>
   obtain⟨r,g1,g2,g3⟩:=CsL.get l rest h3 i x (by simpa using hx);refine⟨r,g1,g2,fun j u hj=>?_⟩;have h4:=g3 j u hj;rw[List.getElem?_append_right (by rw[h1,Nat.add_mul];omega),h1];rw[show (i+1)*sz+j-sz=i*sz+j by rw[Nat.add_mul];omega];exact h4
theorem Sls.of_own {w:World} {base:Nat} {E:TypeId} {v:Value} {n:Nat} {cs:List Value} {l:List α} (h:w.ownsRow base E sz v n cs) (hc:CsL sz (R w) cs l) (hn:l.length=n):Sls sz R w v l:=by
 subst hn;obtain⟨hlen,h|⟨g,cap,cur,hv,hb,hh,hnc,hcm,hcs,ht⟩⟩:=h
 ·obtain ⟨rfl,h0⟩:=h
  have:l=[]:=List.eq_nil_of_length_eq_zero h0;subst this;exact Sls.nil w
 ·refine ⟨_,_,hv,hnc,hcm,fun h=>by simp at h,fun hl=>⟨g,0,rfl,fun i x hx=>?_⟩⟩
  obtain⟨r,g1,g2,g3⟩:=CsL.get l cs hc i x hx;refine⟨r,g1,g2,fun j u hj=>?_⟩;have h4:=g3 j u hj;have hlt:=(List.getElem?_eq_some_iff.1 h4).1;have h5:=take_get (n:=l.length*sz) (xs:=cs) ht (i*sz+j) hlt;rw[Nat.zero_add];simp only[World.cell?,hh,Option.isSome_none];show cur[i*sz+j]?=some u;rw[h5];exact h4
theorem list_ofP (n:Nat) (P:Nat→α→Prop) (h:∀i,i<n→∃x,P i x):∃l:List α,l.length=n∧∀i x,l[i]?=some x→P i x:=by
 induction n with
 |zero=>exact⟨[],rfl,fun i x hx=>by simp at hx⟩
 |succ n ih=>
  obtain⟨l,hl,hp⟩:=ih (fun i hi=>h i (by omega));obtain⟨x,hx⟩:=h n (by omega);refine⟨l++[x],by simp [hl],fun i y hy=>?_⟩;by_cases hi:i<n
  ·rw [List.getElem?_append_left (by omega)] at hy;exact hp i y hy
  ·have hlt:=(List.getElem?_eq_some_iff.1 hy).1
   have:i=n:=by simp at hlt;omega
   subst this;rw[List.getElem?_append_right (by omega),hl] at hy;simp at hy;subst hy;exact hx
theorem Sls.of_rd {P:Program} {t e:TypeId} {w:World} {v:Value} (ht:P.underlying t=some (.slice e)) (hc:P.cellsOf e=sz) (hpos:0<sz) (hE:∀cs,Rd P w e cs→∃x,R w cs x) (h:Rd P w t [v]):∃l,Sls sz R w v l:=by
 rcases h.slice ht with h|⟨a,len,cap,h,hl,hm,hel⟩
 ·cases h;exact⟨[],Sls.nil w⟩
 ·cases h
  have hb:∀i,i<len→∃x,∃r,r.length=sz∧R w r x∧∀j u,r[j]?=some u→w.cell? ((a.add (i*sz)).add j)=some u:=by
   intro i hi;obtain⟨ds,hd,hcell,hr⟩:=hel i hi;rw[hc] at hd hcell;obtain⟨x,hx⟩:=hE ds hr;refine⟨x,ds,hd,hx,fun j u hj=>?_⟩;have hjl:=(List.getElem?_eq_some_iff.1 hj).1;rw[hcell j (by omega)];exact hj
  obtain⟨l,hll,hlp⟩:=list_ofP len _ hb;refine⟨l,some a,cap,by rw[hll],by omega,hm,fun h=>by simp at h,fun hne=>?_⟩;have hpos2:0<l.length:=by
   cases l with
   |nil=>exact absurd rfl hne
   |cons _ _=>simp
  have hs2:a=⟨a.block,a.off,none⟩:=by
   obtain⟨r,h1,_,h3⟩:=hlp 0 l[0] (List.getElem?_eq_getElem hpos2);have h4:=h3 0 (r[0]'(by omega)) (List.getElem?_eq_getElem (by omega));exact spot_of (by simpa [Addr.add] using h4)
  refine⟨a.block,a.off,by rw[←hs2],fun i x hx=>?_⟩;obtain⟨r,h1,h2,h3⟩:=hlp i x hx;refine⟨r,h1,h2,fun j u hj=>?_⟩;have:=h3 j u hj;rw[hs2,add_lit,add_lit] at this;exact this
end
open Go.RowKit
set_option maxHeartbeats 800000
theorem bal' (w:World) (o:Obj):Below w.heap.size w (w.alloc o):=(Below.refl _ _).alloc (Nat.le_refl _) _
theorem infoB:(Tryz.prog.info? 5).map (fun i=>(i.zero,i.size,i.bytes))=some (some (.int .u8 0),1,1):=by kernel_rfl
theorem clone_any (v:Value) (l:List UInt8) (w:World) (hv:Bs w v l) (hl:l.length≤140737488355328):
  Calls Tryz.prog 80 #[v] w fun r w'=>∃v',r=.returned v'∧w'.ownsRow w.heap.size 5 1 v' l.length (u8s l)∧Below w.heap.size w w':=by
 obtain⟨i5,hi,hz0,hz1,hz2⟩:=info_parts infoB;obtain⟨a,c,rfl,hc,hcm,hac,_⟩:=id hv;unfold maxLen at hcm;have HV:=hid hv;clear hv;cases a with
 |none=>
  obtain rfl:=hac rfl;have hl0:l=[]:=by simpa using hc
  subst hl0;have hq:=Lib.run_eql_slice_nil (P:=Tryz.prog);go_enter Tryz.func80,Tryz.ntmps80;go_wp2;go_ret;exact⟨_,rfl,World.ownsRow_nil _ _ _ _,Below.refl _ _⟩
 |some a=>
  have hq:=Lib.run_eql_slice_nil (P:=Tryz.prog);go_enter Tryz.func80,Tryz.ntmps80;go_wp2_with (at_builtin;refine wpList_app rfl _ _ 50 rfl w.heap.size 5 i5 Tryz.underlying50 hi hz0 hz1 hz2 _ [] rfl (World.ownsRow_made _ _ _ (Nat.le_refl _) (by decide) rfl) _ l rfl (HV.out.keep ((Below.refl _ _).alloc (Nat.le_refl _) _)) ?c1 ?c2 ?c3)
  any_goals first|omega|(simp;done)|(simp;omega)
  case c3=>
   intro v' w1 hown hgr;have hbel:=(bal' w (.cells #[] 5)).grown hgr (bal' w (.cells #[] 5)).size (by intro k hk;simp [Value.ownBlock] at hk;omega);replace hown:w1.ownsRow w.heap.size 5 1 v' l.length (u8s l):=by simpa using hown
   clear hgr;go_wp2;go_ret;exact⟨_,rfl,hown,hbel⟩
theorem gmod_eq (x n:Int):(x.tmod n+n)%n=x%n:=by
 rw[Int.tmod_def,show x-n*x.tdiv n+n=x+n*(1-x.tdiv n) by rw[Int.mul_sub,Int.mul_one];omega,Int.add_mul_emod_self_left]
theorem mod_any (x n:Int) (hn:0<n) (hn2:n≤1000000) (_hx:(Lit.int .i64 x).wf=true) (w:World):
  Calls Tryz.prog 38 #[.int .i64 x,.int .i64 n] w fun r w'=>r=.returned (.int .i64 (x%n))∧w=w':=by
 have h1:=Int.tmod_lt_of_pos x hn;have h2: -n<x.tmod n:=Int.lt_tmod_of_pos x hn;have HG:=hid (gmod_eq x n);go_enter Tryz.func38,Tryz.ntmps38;go_wp2;go_ret;exact⟨ret_int HG.out,rfl⟩
theorem cF {w:World} {b:Nat} {c:Array Value} {t:TypeId} {z:Nat×Nat} {v:Value} (p:w.heap[b]?=some (.cells c t z)) (i:Nat) (h:c.toList[i]?=some v):∀X,Below w.heap.size w X→X.cell? ⟨b,i,none⟩=some v:=fun X k=>by rw[hpCell (hpKeep p k) i,← Array.getElem?_toList];exact h
theorem cG {w:World} {b:Nat} {c:Array Value} {t:TypeId} {z:Nat×Nat} {v:Value} (p:w.heap[b]?=some (.cells c t z)) (i:Nat) (h:c.toList[i]?=some v):w.cell? ⟨b,i,none⟩=some v:=by rw[hpCell p i,← Array.getElem?_toList];exact h
theorem alQ (w:World) (o:Obj):∃W,w.alloc o=W∧Below w.heap.size w W∧W.heap[w.heap.size]?=some o:=⟨_,rfl,(Below.refl _ _).alloc (Nat.le_refl _) _,hpNew w o⟩
theorem gE {α:Type} (x:α):∃y,x=y:=⟨x,rfl⟩
abbrev bA:=@hpCell
abbrev bB:=@hpKeep
abbrev bC:=@hid
abbrev bD:=@cell_keep
abbrev bE:=@wpList_storeW
abbrev bF:=@own_keeps
abbrev bG:=@hpKeeps
abbrev bH:=@bal'
abbrev bI:=@hpNew
abbrev bJ:=@hpFree
abbrev bN:=@own_slice
abbrev bO:=@ret_bool
abbrev bQ:=@own_lower
abbrev bX:=@hpSet
abbrev bZ:=@wpList_appN
abbrev cH:=@hpOther
abbrev cI:=@hpLt
abbrev cJ:=@bta
abbrev cL:=@clone_any
theorem bU {w w1 w2:World} (h:Below w.heap.size w w1) (k:Below w1.heap.size w1 w2):Below w.heap.size w w2:=bt h k (Nat.le_refl _)
end Go.Proofs.YtoaoejaodhedaaaGreat
