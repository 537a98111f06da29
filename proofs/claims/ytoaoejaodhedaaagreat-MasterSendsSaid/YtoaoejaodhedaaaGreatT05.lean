import Derived.Deep.RegionHeldLaw
import Derived.Deep.CutBlock
import Derived.Test.YtoaoejaodhedaaaGreatT04
namespace Go
section
variable {P:Program} {ops:Array Oper} {Q:Exit→Act→World→Prop} {md:Region.Mode} {S S':World→Prop}
theorem lz {i d:Nat} {f:Oper} {v:Value} {fuel:Nat} {e:Array Bool} {a:Act} {w:World} (hi:ops[i]?=some f)
  (hs:Region.noSelect ops=true) (q:Region.free md ops e i=true) (g:(Region.ready md ops e).contains i=true)
  (p:∀c a w,Q (.panic c) (a.put f.dst v) w→Q (.panic c) a w) (o:f.dst=some d) (s:YieldsIf P ops S f v a) (j:S w)
  (h:wpAnyH P md ops Q S fuel (e.setIfInBounds i true) {a with tmps:=a.tmps.setIfInBounds d v} w):wpAnyH P md ops Q S (fuel+1) e a w:=
 wpAnyH_take hi hs q g p s j (by rw[o];exact h)
theorem tkD (i d:Nat) {f:Oper} {v:Value} {fuel:Nat} {e:Array Bool} {a:Act} {w:World} (hi:ops[i]?=some f)
  (g:(Region.noSelect ops&&Region.free md ops e i&&(Region.ready md ops e).contains i)=true)
  (p:∀c a w,Q (.panic c) (a.put f.dst v) w→Q (.panic c) a w) (o:f.dst=some d) (hw:Region.wanted f (yielded ops a.tmps)=true) (j:S w)
  (q:∀w,S w→(execOp a.eval f).run P w=.ok (.value v) w)
  (h:wpAnyH P md ops Q S fuel (e.setIfInBounds i true) {a with tmps:=a.tmps.setIfInBounds d v} w):wpAnyH P md ops Q S (fuel+1) e a w:=by
 simp only[Bool.and_eq_true] at g;exact lz hi g.1.1 g.1.2 g.2 p o (.inl ⟨hw,q⟩) j h
theorem setS {α:Type}:(∀(l:List α) (i:Nat) (a:α),l.toArray.setIfInBounds i a=(l.set i a).toArray)∧(∀(x:α) (l:List α) (a:α),(x::l).set 0 a=a::l)∧(∀(x:α) (l:List α) (i:Nat) (a:α),(x::l).set (i+1) a=x::l.set i a):=
 ⟨fun _ _ _=>List.setIfInBounds_toArray ..,fun _ _ _=>rfl,fun _ _ _ _=>rfl⟩
theorem V6 (i d:Nat) {oi:Oper} {v:Value} {fuel:Nat} {listed:Array Bool} {a:Act} {w:World} (hi:ops[i]?=some oi) (hd:oi.dst=some d)
  (h:wpAnyH P md ops Q S fuel (listed.setIfInBounds i true) {a with tmps:=a.tmps.setIfInBounds d v} w)
  (hb:(Region.noSelect ops&&Region.free md ops listed i&&(Region.ready md ops listed).contains i)=true:=by kernel_rfl)
  (hQ:∀c a w,Q (.panic c) (a.put oi.dst v) w→Q (.panic c) a w:=by exact fun _ _ _ h=>h) (hw:Region.wanted oi (yielded ops a.tmps)=true:=by rfl) (hS:S w:=by assumption)
  (hy:∀w,S w→(execOp a.eval oi).run P w=.ok (.value v) w:=by (intro w bK;(try dsimp only at bK);go_simp;try (with_reducible rfl))):wpAnyH P md ops Q S (fuel+1) listed a w:=
 tkD i d hi hb hQ hd hw hS hy h
theorem rdyH (i:Nat) {o:Oper} {fuel:Nat} {listed:Array Bool} {a:Act} {w:World} (ho:ops[i]?=some o)
  (h:∀K':Act→World→Prop,Shut (∀a w,S w→(S w→wpAnyH P md ops Q S fuel (listed.setIfInBounds i true) a w)→K' a w)→if Region.wanted o (yielded ops a.tmps)=true then Oper.wp P o a w K' Q else K' (a.put o.dst undef) w)
  (hr:Region.ready md ops listed=[i]:=by kernel_rfl):wpAnyH P md ops Q S (fuel+1) listed a w:=
 wpAnyH_ready hr (by simp) (AllReadyH.cons ho h AllReadyH.nil)
end
structure Wn (i d:Nat):Prop where
structure Wq (q:Prop):Prop where
 o:q
section
variable {P:Program} {ops:Array Oper} {Q:Exit→Act→World→Prop} {md:Region.Mode} {S:World→Prop}
theorem tkK {i d:Nat} (_n:Wn i d) {oi:Oper} {v:Value} {fuel:Nat} {listed:Array Bool} {a:Act} {w:World} (hi:ops[i]?=some oi) (hd:oi.dst=some d)
  (h:wpAnyH P md ops Q S fuel (listed.setIfInBounds i true) {a with tmps:=a.tmps.setIfInBounds d v} w)
  (hb:(Region.noSelect ops&&Region.free md ops listed i&&(Region.ready md ops listed).contains i)=true:=by kernel_rfl)
  (hQ:∀c a w,Q (.panic c) (a.put oi.dst v) w→Q (.panic c) a w:=by exact fun _ _ _ h=>h) (hw:Region.wanted oi (yielded ops a.tmps)=true:=by rfl) (hS:S w:=by assumption)
  (hy:∀w,S w→(execOp a.eval oi).run P w=.ok (.value v) w:=by (intro w bK;(try dsimp only at bK);go_simp;try (with_reducible rfl))):wpAnyH P md ops Q S (fuel+1) listed a w:=
 tkD i d hi hb hQ hd hw hS hy h
theorem tkV {i d:Nat} (_n:Wn i d) {oi:Oper} {fuel:Nat} {listed:Array Bool} {a:Act} {w:World} (hi:ops[i]?=some oi) (hd:oi.dst=some d)
  (h:wpAnyH P md ops Q S fuel (listed.setIfInBounds i true) {a with tmps:=a.tmps.setIfInBounds d undef} w)
  (hs:Region.noSelect ops=true:=by kernel_rfl) (hf:Region.free md ops listed i=true:=by kernel_rfl) (hr:(Region.ready md ops listed).contains i=true:=by kernel_rfl)
  (hQ:∀c a w,Q (.panic c) (a.put oi.dst undef) w→Q (.panic c) a w:=by exact fun _ _ _ h=>h) (hy:YieldsIf P ops S oi undef a:=by exact Or.inr ⟨by rfl,rfl⟩) (hS:S w:=by assumption):wpAnyH P md ops Q S (fuel+1) listed a w:=
 lz hi hs hf hr hQ hd hy hS h
end
theorem tG (i d:Nat) {p q:Prop} (h:q) (k:Wn i d→Wq q→p:=by (intro hn hq;refine tkK hn rfl rfl ?_;simp only[setS];exact hq.o)):p:=k ⟨⟩ ⟨h⟩
theorem tU (i d:Nat) {p q:Prop} (h:q) (k:Wn i d→Wq q→p:=by (intro hn hq;refine tkV hn rfl rfl ?_;simp only[setS];exact hq.o)):p:=k ⟨⟩ ⟨h⟩
end Go

namespace Go.Proofs.YtoaoejaodhedaaaGreat
open Go.RowKit
open Value renaming slice→J,int→Y
open Option renaming none→M,some→Z
open IntKind renaming i64→O
set_option maxHeartbeats 6400000
set_option maxRecDepth 100000
variable {a co hi lo lv nx t v:Int} {l:List (Int×Int)} {acc:List Ob} {N b c6 i k m n oc r rb zb:Nat} {x:Ob} {X:Obj} {a5 a6 oa:Option Addr} {P:Program} {W W4 w w5 w6 wi:World}
theorem eU.app {α:Type} {sz:Nat} {Q:List Value→α→Prop}:∀(l:List α) (cs:List Value),eU sz Q cs l→∀(d:List α) (c:List Value),eU sz Q c d→eU sz Q (cs++c) (l++d)
 |[],cs,h,d,c,h'=>by obtain rfl:cs=[]:=h;exact h'
 |x::l,cs,h,d,c,h'=>by
  obtain⟨r,k,rfl,e,g,f⟩:=h;exact⟨r,k++c,by simp,e,g,eU.app l k f d c h'⟩
theorem AM:(Tryz.prog.info? 3).map (fun i=>(i.zero,i.size,i.bytes))=Z (Z (Y O 0),1,8):=by kernel_rfl
theorem dU (w:World) (a:Addr) (ty:TypeId) (cs:Array Value) (d:TypeDesc) (e:∀j v,cs.toList[j]?=Z v→w.cell? (a.add j)=Z v)
  (hu:P.underlying ty=Z d) (g:(match d with|.struct _|.array _ _=>true|_=>false)=true) (hi:(P.info? ty).map (·.size)=Z cs.size):
  (loadVar ty a).run P w=.ok (.agg cs) w:=by
 have c:(loadCells a cs.toList.length).run P w=.ok cs.toList.toArray w:=run_loadCells_list (P:=P) w a cs.toList e;cases hq:P.info? ty with
 |none=>simp [hq] at hi
 |some i=>
  have hs:i.size=cs.size:=by simpa [hq] using hi
  have f:(isAgg ty).run P w=.ok true w:=by
   unfold isAgg;rw[Sem.run_bind,run_underlying hu w];cases d<;>simp_all
  simp only[Array.length_toList,Array.toArray_toList] at c;simp [loadVar,Sem.run_bind,f,sizeOf,typeInfo,hq,hs,c]
theorem aZ {ops:Array Oper} {rest:List Oper} {o:Oper} {a:Act} {Q:Exit→Act→World→Prop} (g:o.guard=none) (ty:TypeId) (x:Operand) (f:o.op=.load ty x)
  (c:Addr) (q:a.eval x=.pointer (Z c)) (cs:Array Value) (d:TypeDesc) (p:∀j v,cs.toList[j]?=Z v→w.cell? (c.add j)=Z v)
  (hu:P.underlying ty=Z d) (e:(match d with|.struct _|.array _ _=>true|_=>false)=true) (hi:(P.info? ty).map (·.size)=Z cs.size)
  (h:wpList P ops Q rest (a.put o.dst (.agg cs)) w):wpList P ops Q (o::rest) a w:=
 wpList_plain g fun K s=>by
  unfold Oper.wp execOp;simp only[f,q,Instr.loadAt,Instr.sureAddr,Sem.run_bind,Sem.run_pure,Result.andThen_ok,dU w c ty cs d p hu e hi];exact s _ _ h
theorem results_ct_row {fn:Func} {p u:Tmp} {ty:TypeId} (h:fn.results=#[.cell p ty,.tmp u]) (tmps:Array Value) (w:World) (g:Nat) (t:TypeId) (cs:Array Value) (fr:Nat×Nat) (d:TypeDesc)
  (c:tmps.getD p undef=.pointer (Z ⟨g,0,M⟩)) (e:w.heap[g]?=Z (.cells cs t fr))
  (hu:P.underlying ty=Z d) (f:(match d with|.struct _|.array _ _=>true|_=>false)=true) (hi:(P.info? ty).map (·.size)=Z cs.size):
  (results fn tmps).run P w=.ok (.tuple #[.agg cs,tmps.getD u undef]) w:=by
 rw[results_cell_tmp h,c];simp [asAddr,run_loadVar_row w g t ty cs fr d e hu f hi]
def jR (fn e:Int) (d:List UInt8):Rp:=⟨fn,e,d,0,0,false,0,[]⟩
def eo (t a v:Int):Int:=(v+7919*a+104729*t)%65536
theorem wI (t a v:Int):0≤eo t a v∧eo t a v<65536:=by unfold eo;omega
def iJ (t a v:Int):Nat→List UInt8
 |0=>[]
 |n+1=>iJ t a v n++[UInt8.ofNat ((eo t (a+(n:Nat)) v).toNat/256),UInt8.ofNat ((eo t (a+(n:Nat)) v).toNat%256)]
theorem jQ (t a v:Int):∀n,(iJ t a v n).length=2*n
 |0=>rfl
 |n+1=>by rw[iJ,List.length_append,jQ t a v n];show 2*n+2=_;omega
def iQ (t a v:Int) (i:Nat):Nat:=(eo t (a+(i:Nat)) v).toNat%2
theorem AJ (t a v:Int) (i:Nat):iQ t a v i<2:=Nat.mod_lt _ (by decide)
def iB (t a v:Int) (k:Nat):Nat→Nat
 |0=>0
 |m+1=>iB t a v k m+iQ t a v (8*k+m)*2^m
theorem oK (t a v:Int) (k:Nat):∀m,iB t a v k m<2^m
 |0=>Nat.zero_lt_one
 |m+1=>by
  have d:=oK t a v k m;have c:=AJ t a v (8*k+m);rw[iB,Nat.pow_succ];rcases (show iQ t a v (8*k+m)=0∨iQ t a v (8*k+m)=1 by omega) with e|e<;>rw[e]<;>omega
def bL (t a v:Int) (N i:Nat):List UInt8:=(List.range N).map fun k=>UInt8.ofNat (iB t a v k (min 8 (i-8*k)))
theorem bI (t a v:Int) (N i:Nat):(bL t a v N i).length=N:=by unfold bL;rw[List.length_map,List.length_range]
theorem dY (h:k<N):(bL t a v N i)[k]?=Z (UInt8.ofNat (iB t a v k (min 8 (i-8*k)))):=by
 unfold bL;rw[List.getElem?_map,List.getElem?_range h];rfl
theorem oT (t a v:Int) (N:Nat):bL t a v N 0=List.replicate N 0:=by
 refine List.ext_getElem? fun k=>?_
 by_cases h:k<N
 ·rw [dY h,List.getElem?_replicate,if_pos h]
  have:min 8 (0-8*k)=0:=by omega
  rw[this];rfl
 ·rw [List.getElem?_eq_none (by rw[bI];omega),List.getElem?_eq_none (by rw[List.length_replicate];omega)]
theorem Ai (h:i≤8*N):bL t a v N i++[0]=bL t a v (N+1) i:=by
 refine List.ext_getElem? fun k=>?_
 by_cases c:k<N
 ·rw [List.getElem?_append_left (by rw[bI];exact c),dY c,dY (by omega)]
 ·by_cases d:k=N
  ·subst d
   rw[List.getElem?_append_right (by rw[bI];exact Nat.le_refl _),bI,Nat.sub_self,dY (Nat.lt_succ_self _)];have:min 8 (i-8*k)=0:=by omega
   rw[this];rfl
  ·rw [List.getElem?_eq_none (by rw[List.length_append,bI];show N+1≤k;omega),List.getElem?_eq_none (by rw[bI];omega)]
theorem jH (h:i/8<N):(bL t a v N i).set (i/8) (UInt8.ofNat (iB t a v (i/8) (i%8)+iQ t a v i*2^(i%8)))=bL t a v N (i+1):=by
 refine List.ext_getElem? fun k=>?_
 rw[List.getElem?_set];by_cases c:i/8=k
 ·subst c
  rw[if_pos rfl,if_pos (by rw[bI];exact h),dY h];have e:min 8 (i+1-8*(i/8))=i%8+1:=by omega
  rw[e,iB];have f:8*(i/8)+i%8=i:=by omega
  rw[f]
 ·rw [if_neg c]
  by_cases d:k<N
  ·rw [dY d,dY d]
   have e:min 8 (i-8*k)=min 8 (i+1-8*k):=by omega
   rw[e]
  ·rw [List.getElem?_eq_none (by rw[bI];omega),List.getElem?_eq_none (by rw[bI];omega)]
theorem mE (h:i/8<N):(bL t a v N i)[i/8]?=Z (UInt8.ofNat (iB t a v (i/8) (i%8))):=by
 rw[dY h];have e:min 8 (i-8*(i/8))=i%8:=by omega
 rw[e]
def kG (rd:List (Int×Int)) (a:Int) (n:Nat):Bool:=(List.range n).all fun i=>El rd (a+(i:Nat))
theorem qP (rd:List (Int×Int)) (a:Int) (n:Nat):kG rd a n=true↔oq rd a n:=by
 unfold kG oq;rw[List.all_eq_true];exact⟨fun h i hi=>h i (List.mem_range.2 hi),fun h i hi=>h i (List.mem_range.1 hi)⟩
def iP.cC (t:iP) (q:Rq) (v:Int):Rp:=
 if t.sup=false then jR q.fn 1 [] else if t.al<q.aF then jR q.fn 3 [] else if kG t.rd q.addr q.aF.toNat=false then jR q.fn 2 []
 else jR q.fn 0 (if q.fn≤2 then bL q.fn q.addr v ((q.aF.toNat+7)/8) q.aF.toNat else iJ q.fn q.addr v q.aF.toNat)
def kU (c:Int):Int:=if c=1 then 2 else if c=2 then 127 else 255
def selO (l:List Ob) (lo hi:Int):List Ob:=l.filter fun x=>decide (lo≤x.id)&&decide (x.id≤hi)
def cq (r:Nat):List Ob→Nat
 |[]=>0
 |x::l=>if 2+x.val.length≤r then cq (r- (2+x.val.length)) l+1 else 0
theorem A9:∀(l:List Ob) (r:Nat),cq r l≤l.length
 |[],_=>Nat.le_refl _
 |x::l,r=>by
  rw[cq];split
  ·exact Nat.succ_le_succ (A9 l _)
  ·exact Nat.zero_le _
theorem m4:∀(l:List Ob) (r:Nat),aB (l.take (cq r l))≤r
 |[],r=>by rw[List.take_nil];exact Nat.zero_le _
 |x::l,r=>by
  rw[cq];split
  ·rename_i h
   rw[List.take_succ_cons];have:=m4 l (r- (2+x.val.length));show 2+x.val.length+aB (l.take _)≤r;omega
  ·exact Nat.zero_le _
theorem xM:∀(l:List Ob) (r m:Nat),aB (l.take m)≤r→m≤l.length→m≤cq r l
 |[],r,m,_,h=>h
 |x::l,r,0,_,_=>Nat.zero_le _
 |x::l,r,m+1,h,hl=>by
  rw[List.take_succ_cons] at h;have h:2+x.val.length+aB (l.take m)≤r:=h;rw[cq,if_pos (by omega)];have:=xM l (r- (2+x.val.length)) m (by omega) (Nat.le_of_succ_le_succ hl);omega
theorem vH {l:List Ob} (c:l[k]?=Z x) (e:lo≤x.id) (d:x.id≤hi):selO (l.take (k+1)) lo hi=selO (l.take k) lo hi++[x]:=by
 unfold selO;rw[List.take_add_one,c,List.filter_append];simp [e,d]
theorem selO_no {l:List Ob} (c:l[k]?=Z x) (h:¬(lo≤x.id∧x.id≤hi)):selO (l.take (k+1)) lo hi=selO (l.take k) lo hi:=by
 unfold selO;rw[List.take_add_one,c,List.filter_append];have:(decide (lo≤x.id)&&decide (x.id≤hi))=false:=by
  cases e1:decide (lo≤x.id)<;>cases e2:decide (x.id≤hi)<;>first|rfl|exact absurd ⟨of_decide_eq_true e1,of_decide_eq_true e2⟩ h
 simp [this]
theorem nP:∀(l:List Ob) (m n:Nat),m≤n→aB (l.take m)≤aB (l.take n)
 |[],m,n,_=>by rw[List.take_nil,List.take_nil];exact Nat.le_refl _
 |x::l,0,n,_=>Nat.zero_le _
 |x::l,m+1,0,h=>by omega
 |x::l,m+1,n+1,h=>by
  have:=nP l m n (by omega);rw[List.take_succ_cons,List.take_succ_cons];show 2+x.val.length+aB (l.take m)≤2+x.val.length+aB (l.take n);omega
theorem uI {l:List Ob} (g:aB (l.take m)≤r) (hm:m≤l.length) (f:m=l.length∨¬aB (l.take (m+1))≤r):m=cq r l:=by
 have a:=xM l r m g hm;have b:=A9 l r;rcases f with f|f
 ·omega
 ·by_cases e:m+1≤cq r l
  ·have c:=nP l _ _ e
   have d:=m4 l r;omega
  ·omega
theorem info8:(Tryz.prog.info? 53).map (·.size)=Z 8:=by kernel_rfl
def aW (w:World) (fn e:Int) (D:List UInt8) (r:Ending) (w':World):Prop:=
 ∃(da:Option Addr) (dc:Nat),r=.returned (.agg (#[Y O fn,Y O e,(J da D.length dc),Y O 0,Y O 0,.bool false,Y O 0,J none 0 0]))∧D.length≤250∧w'.ownsRow w.heap.size 5 1 (J da D.length dc) D.length (u8s D)∧Below w.heap.size w w'
structure rI (W1:World) (rb zb:Nat) (fn:Int) (D:List UInt8) (v:Value) (W:World):Prop where
 r:W.heap[rb]?=Z (.cells (#[Y O fn,Y O 0,v,Y O 0,Y O 0,.bool false,Y O 0,J none 0 0]) 53)
 z:W.heap[zb]?=Z (.cells (#[Y O 0,Y O 0,(J none 0 0),Y O 0,Y O 0,.bool false,Y O 0,J none 0 0]) 53)
 own:W.ownsRow W1.heap.size 5 1 v D.length (u8s D)
 kp:Keeps (fun j=>j=rb) W1 W
theorem gH (l:List UInt8) (i:Nat) (x:UInt8):(u8s l).set i (bD x)=u8s (l.set i x):=by simp [u8s,List.map_set]
theorem ey {base:Nat} {e:TypeId} {g cap:Nat} {l:List UInt8} (h:w.ownsRow base e 1 (J (Z ⟨g,0,M⟩) n cap) n (u8s l)) (i:Nat) (hi:i<n):
  w.cell? ⟨g,i,M⟩=Z (Y .u8 ((l.getD i 0).toNat:Int)):=by
 have c:l.length=n:=by simpa using h.1
 rw[h.cellAt i (by omega),gW l i (by omega)]
theorem fJ (s:Sl) (c:Nat→Value) (d sv:Value) (h:W.heap[b]?=Z (.cells (SlC s c d sv) 68)) (e:k<4):
  W.cell? ⟨b,3+k*3,M⟩=Z (.bool (s.ts k).sup)∧W.cell? ⟨b,3+k*3+1,M⟩=Z (c k)∧W.cell? ⟨b,3+k*3+2,M⟩=Z (Y O (s.ts k).al):=by
 rw[hpCell h,hpCell h,hpCell h]
 match k,e with
 |0,_=>exact⟨rfl,rfl,rfl⟩
 |1,_=>exact⟨rfl,rfl,rfl⟩
 |2,_=>exact⟨rfl,rfl,rfl⟩
 |3,_=>exact⟨rfl,rfl,rfl⟩
theorem kM:∀{l:List (Int×Int)} {e:Int},aG e l=true→∀y∈l,e<y.1
 |[],_,_,y,c=>by cases c
 |x::l,e,h,y,c=>by
  by_cases d:tV e x
  ·rw [ew d] at h
   obtain⟨f,p,o,g,j⟩:=d;rcases List.mem_cons.1 c with rfl|c
   ·omega
   ·have:=kM h y c
    omega
  ·rw [eJ d] at h
   cases h
theorem nB:∀{l:List (Int×Int)} {e:Int},aG e l=true→∀x∈l,∀y∈l,x=y∨x.1+x.2<y.1∨y.1+y.2<x.1
 |[],_,_,x,hx,_,_=>by cases hx
 |z::l,e,h,x,hx,y,hy=>by
  by_cases g:tV e z
  ·rw [ew g] at h
   have j:=List.mem_cons.1 hx;have f:=List.mem_cons.1 hy;clear hx hy;rcases j with d|d
   ·rcases f with c|c
    ·exact .inl (d.trans c.symm)
    ·rw [d]
     exact .inr (.inl (kM h y c))
   ·rcases f with c|c
    ·rw [c]
     exact .inr (.inr (kM h x d))
    ·exact nB h x d y c
  ·rw [eJ g] at h
   cases h
def qZ (a n:Int) (x:Int×Int):Bool:=decide (x.1≤a)&&decide (a+n≤x.1+x.2)
theorem A8 (h:El l a=true):∃x∈l,x.1≤a∧a-x.1<x.2:=by
 obtain⟨x,d,c⟩:=List.any_eq_true.1 h;simp only[Bool.and_eq_true,decide_eq_true_eq] at c;exact⟨x,d,c⟩
theorem He (g:aG (-1) l=true) (o:1≤n):kG l a n=l.any (qZ a (n:Int)):=by
 rw[Bool.eq_iff_iff,qP,List.any_eq_true];constructor
 ·intro h
  obtain⟨x,c,d,p⟩:=A8 (h 0 (by omega));refine⟨x,c,?_⟩;have key:∀i,i<n→a+(i:Nat)<x.1+x.2:=by
   intro i
   induction i with
   |zero=>intro _;omega
   |succ i ih=>
    intro hi;have q:=ih (by omega);obtain⟨y,f,s,j⟩:=A8 (h (i+1) hi);rcases nB g x c y f with e|e|e
    ·subst e
     omega
    ·omega
    ·omega
  have:=key (n-1) (by omega);unfold qZ;rw[Bool.and_eq_true,decide_eq_true_eq,decide_eq_true_eq];omega
 ·rintro ⟨x,c,d⟩ i hi
  unfold qZ at d;rw[Bool.and_eq_true,decide_eq_true_eq,decide_eq_true_eq] at d;refine List.any_eq_true.2 ⟨x,c,?_⟩;rw[Bool.and_eq_true,decide_eq_true_eq,decide_eq_true_eq];omega
def Bl (V:Bool) (r:Ending):Prop:=∃i:Int,r=.returned (Y O i)∧(0≤i↔V=true)
theorem mU (v:Value) (l:List (Int×Int)) (w:World) (T:dw w v l) (V:Bool) (hV:Hid (aG (-1) l=V)):
  Calls Tryz.prog 180 #[v] w (aj w V):=by
 have HL:=hid T;obtain⟨a,c,rfl,dM,cj,-⟩:=id T;obtain⟨n,Z⟩:=gE l.length;have E:=hid Z;rw[Z] at dM ⊢;clear T Z;go_enter Tryz.func180,Tryz.ntmps180;go_wp2_with fail;go_loopw [3,8] (fun ev iv wr=>∃(k:Nat) (e f:Int),k≤n∧ev=Y O f∧Hid (f=e+1)∧iv=Y O (k:Int)∧-1≤e∧e≤65536∧Hid (aG e (l.drop k)=V)∧Below w.heap.size w wr) (fun _ iv _=>n- (intOf iv).toNat)
 case atStart=>exact⟨0,-1,0,Nat.zero_le _,rfl,(by show (0:Int)=-1+1;decide),rfl,by decide,by decide,hV.out,Below.refl _ _⟩
 case round=>
  obtain⟨k,e,f0,hk,rfl,M,rfl,Oa,ak,K,y⟩:=hrel;have ad:(0:Int)≤(k:Int):=Int.natCast_nonneg _;have nU:n≤9223372036854775807:=by unfold maxLen at cj;omega
  have B:Hid (∀X,Below w.heap.size w (wr.alloc X)):=fun X=>bta y (Nat.le_refl _) X
  by_cases ab:k<n
  ·obtain ⟨x,J⟩:=gs (l:=l) E.out ab
   obtain⟨b,o,c',dE,w1,w2,cz⟩:=HL.out.at J;rw[E.out] at dE;simp only[Value.slice.injEq,true_and] at dE;obtain⟨rfl,rfl⟩:=dE;have ao:(k:Int)<(n:Int):=by omega
   obtain⟨y0,y1⟩:=cz wr y;have R:l.drop k=x::l.drop (k+1):=by
    rw[List.drop_eq_getElem_cons (by have:=E.out;omega)];congr 1;rw[List.getElem?_eq_getElem (by have:=E.out;omega)] at J;exact Option.some.inj J
   have p:=K.out;rw[R] at p;obtain⟨d,j⟩:=x;dsimp only at y0 y1 w1 w2;have D:=M.out;by_cases G:tV e (d,j)
   ·rw [ew G] at p
    obtain⟨g,h2,q,s,h5⟩:=G;dsimp only at g h2 q s h5 p;have a1:decide (d<f0)=false:=decide_eq_false (by omega);have a3:decide (65536≤d)=false:=decide_eq_false q;have a4:decide (j<1)=false:=decide_eq_false s;obtain⟨f,F⟩:∃f,65536-d=f:=⟨_,rfl⟩
    have a5:decide (f<j)=false:=decide_eq_false (by omega);have s1:IntKind.i64.wrap (65536-d)=f:=(IntWalk.i64_in _ (by omega)).trans F;obtain⟨A,u⟩:∃e,d+j=e:=⟨_,rfl⟩
    have s2:IntKind.i64.wrap (d+j)=A:=(IntWalk.i64_in _ (by omega)).trans u;obtain⟨f2,L⟩:∃f,A+1=f:=⟨_,rfl⟩
    have s3:IntKind.i64.wrap (A+1)=f2:=(IntWalk.i64_in _ (by omega)).trans L;have C: -1≤A∧A≤65536:=by omega
    rw[u] at p;have TP:=hid p;have U:=hid L;clear g h2 q s h5 F u p K J R cz w1 w2 L D M;go_wp2;go_roundw
    case rel=>exact⟨k+1,A,f2,by omega,rfl,U.out.symm,by go_num,C.1,C.2,TP.out,B.out _⟩
    case measure=>simp [intOf];omega
   ·rw [eJ G] at p
    have z:Hid (V=false):=p.symm;have I:=Ur G;dsimp only at I;clear G p K J R cz M;by_cases g:d<f0
    ·have a1:decide (d<f0)=true:=decide_eq_true g
     clear g I D;go_wp2;go_ret;exact⟨ret_bool z.out.symm,B.out _⟩
    ·have a1:decide (d<f0)=false:=decide_eq_false g
     by_cases q:65536≤d
     ·have a3:decide (65536≤d)=true:=decide_eq_true q
      clear g q I D;go_wp2;go_ret;exact⟨ret_bool z.out.symm,B.out _⟩
     ·have a3:decide (65536≤d)=false:=decide_eq_false q
      by_cases s:j<1
      ·have a4:decide (j<1)=true:=decide_eq_true s
       clear g q s I D;go_wp2;go_ret;exact⟨ret_bool z.out.symm,B.out _⟩
      ·have a4:decide (j<1)=false:=decide_eq_false s
       obtain⟨f,F⟩:∃f,65536-d=f:=⟨_,rfl⟩
       have a5:decide (f<j)=true:=decide_eq_true (by omega);have s1:IntKind.i64.wrap (65536-d)=f:=(IntWalk.i64_in _ (by omega)).trans F;clear g q s I D F;go_wp2;go_ret;exact⟨ret_bool z.out.symm,B.out _⟩
  ·obtain rfl:k=n:=by omega
   have z:Hid (true=V):=by
    have g:=K.out;rw[List.drop_eq_nil_of_le (by rw[E.out];exact Nat.le_refl _)] at g;exact g
   clear K;go_wp2;go_ret;exact⟨ret_bool z.out,y⟩
theorem Kv (a:Option Addr) (c:Nat) (l:List (Int×Int)) (n:Nat) (w:World) (e:dw w (J a n c) l) (f:aG (-1) l=true):
  Calls Tryz.prog 229 #[J a n c] w fun r j=>r=.returned (J a n c)∧Below w.heap.size w j:=by
 have g:=hid (mU _ l w e true f);clear e f;go_enter Tryz.func229,Tryz.ntmps229;go_wp2_with (go_at_call 180;(with_reducible refine g.out.mono ?_);rintro r o ⟨rfl,d⟩);go_ret;exact⟨rfl,d⟩
theorem FI (c p:Int) (D:0≤c) (I:c<65536) (C:1≤p) (G:p≤65536-c) (g:Nat) (d o:Int) (J:0≤d) (F:1≤o) (E:d+o≤65536) (w:World) (B:w.cell? ⟨g,0,M⟩=Z (Y O d)) (A:w.cell? ⟨g,1,M⟩=Z (Y O o)) (V:Bool) (z:Hid (qZ d o (c,p)=V)):
  Calls Tryz.prog 230 #[.agg #[Y O c,Y O p],.pointer (Z ⟨g,0,M⟩)] w (aj w V):=by
 have c0:∀X,(w.alloc X).cell? ⟨g,0,M⟩=Z (Y O d):=fun X=>cell_keep (bal' w X) B
 have c1:∀X,(w.alloc X).cell? ⟨g,1,M⟩=Z (Y O o):=fun X=>cell_keep (bal' w X) A
 have y:Hid (∀X,Below w.heap.size w (w.alloc X)):=fun X=>bal' w X
 obtain⟨e,he⟩:∃e,d+o=e:=⟨_,rfl⟩
 have s1:IntKind.i64.wrap (d+o)=e:=(IntWalk.i64_in _ (by omega)).trans he;obtain⟨f,s⟩:∃f,c+p=f:=⟨_,rfl⟩
 have s2:IntKind.i64.wrap (c+p)=f:=(IntWalk.i64_in _ (by omega)).trans s;have u:Hid ((decide (c≤d)&&decide (e≤f))=V):=by
  have:=z.out;unfold qZ at this;dsimp only at this;rw[he,s] at this;exact this
 clear B A he s D I C G J F E z;by_cases q:c≤d
 ·have d1:decide (c≤d)=true:=decide_eq_true q
  have j:Hid (decide (e≤f)=V):=by have:=u.out;rw[d1] at this;exact this
  clear q;go_enter Tryz.func230,Tryz.ntmps230;go_wp2;go_ret;exact⟨ret_bool j.out,y.out _⟩
 ·have d1:decide (c≤d)=false:=decide_eq_false q
  have j:Hid (false=V):=by have:=u.out;rw[d1] at this;exact this
  clear q;go_enter Tryz.func230,Tryz.ntmps230;go_wp2;go_ret;exact⟨ret_bool j.out,y.out _⟩
theorem G3 (v:Value) (l:List (Int×Int)) (J:aG (-1) l=true) (w:World) (C:dw w v l) (g:Nat) (f e:Int) (r0:0≤f) (R:1≤e) (K:f+e≤65536) (h0:w.cell? ⟨g,0,M⟩=Z (Y O f)) (j:w.cell? ⟨g,1,M⟩=Z (Y O e)) (V:Bool) (T:Hid (l.any (qZ f e)=V)):
  Calls Tryz.prog 231 #[v,.func (.func 230) #[] #[.pointer (Z ⟨g,0,M⟩)]] w fun r w'=>Bl V r∧Below w.heap.size w w':=by
 have HL:=hid C;obtain⟨a,c,rfl,dM,L,-⟩:=id C;obtain⟨n,D⟩:=gE l.length;have z:=hid D;rw[D] at dM ⊢;have y:Hid (0≤f∧1≤e∧f+e≤65536):=⟨r0,R,K⟩
 have AT:=hid J;have nU:n≤9223372036854775807:=by unfold maxLen at L;omega
 clear C D r0 R K J L;go_enter Tryz.func231,Tryz.ntmps231;go_wp2;go_loopw [8] (fun i wr=>∃k:Nat,k≤n∧i=Y O k∧Hid ((l.take k).any (qZ f e)=false)∧Below w.heap.size w wr) (fun i _=>n- (intOf i).toNat)
 case atStart=>exact⟨0,Nat.zero_le _,rfl,rfl,Below.refl _ _⟩
 case round=>
  obtain⟨k,hk,rfl,I,d⟩:=hrel;have ab:(0:Int)≤(k:Int):=Int.natCast_nonneg _;by_cases E:k<n
  ·obtain ⟨x,s⟩:=gs (l:=l) z.out E
   obtain⟨b,o,c',G,w1,w2,U⟩:=HL.out.at s;rw[z.out] at G;simp only[Value.slice.injEq,true_and] at G;obtain⟨rfl,rfl⟩:=G;have ad:(k:Int)<(n:Int):=by omega
   obtain⟨y0,y1⟩:=U wr d;have q:=jk AT.out x (List.mem_of_getElem? s);obtain⟨B,u⟩:=gE (qZ f e x);have HM:Hid (Calls Tryz.prog 230 #[.agg #[Y O x.1,Y O x.2],.pointer (Z ⟨g,0,M⟩)] wr (aj wr B)):=FI x.1 x.2 q.1 q.2.1 q.2.2.1 q.2.2.2 g f e y.out.1 y.out.2.1 y.out.2.2 wr (cell_keep d h0) (cell_keep d j) B u;have hI:Hid ((l.take (k+1)).any (qZ f e)=B):=by
    have j:=I.out;show _=_;rw[az s,List.any_append,j,←u];simp
   have A:Hid (x∈l):=List.mem_of_getElem? s;have jg:=hid u;clear s u q U w1 w2;go_wp2_with fail;refine HM.out.mono ?_;rintro r w1 ⟨rfl,p⟩;cases B with
   |true=>
    have F:Hid (V=true):=by
     show _=_;rw[←T.out];exact List.any_eq_true.2 ⟨x,A.out,jg.out⟩
    go_wp2;go_ret;exact⟨⟨k,rfl,⟨fun _=>F.out,fun _=>Int.natCast_nonneg _⟩⟩,bt d p (Nat.le_refl _)⟩
   |false=>
    go_wp2;go_roundw
    case rel=>exact⟨k+1,by omega,by go_num,hI,bt d p (Nat.le_refl _)⟩
    case measure=>simp [intOf];omega
  ·obtain rfl:k=n:=by omega
   have F:Hid (V=false):=by
    have j:=I.out;rw[List.take_of_length_le (by rw[z.out];exact Nat.le_refl _)] at j;show _=_;rw[←T.out,j]
   go_wp2;go_ret;exact⟨⟨-1,rfl,⟨fun h=>absurd h (by decide),fun h=>by rw[F.out] at h;cases h⟩⟩,d⟩
theorem B9 (a:Option Addr) (n c:Nat) (l:List (Int×Int)) (o:aG (-1) l=true) (w:World) (j:dw w (J a n c) l) (g:Nat) (e d:Int) (z:0≤e) (q:1≤d) (p:e+d≤65536) (y:w.cell? ⟨g,0,M⟩=Z (Y O e)) (u:w.cell? ⟨g,1,M⟩=Z (Y O d)) (V:Bool) (s:Hid (l.any (qZ e d)=V)):
  Calls Tryz.prog 228 #[J a n c,.func (.func 230) #[] #[.pointer (Z ⟨g,0,M⟩)]] w (aj w V):=by
 have B:=hid (G3 _ l o w j g e d z q p y u V s);clear j o z q p y u s;go_enter Tryz.func228,Tryz.ntmps228;go_wp2_with fail;refine B.out.mono ?_;rintro r w1 ⟨⟨i,rfl,hi⟩,f⟩;have A:Hid (decide (0≤i)=V):=by
  show _=_;cases V with
  |true=>exact decide_eq_true (hi.2 rfl)
  |false=>exact decide_eq_false (fun h=>by cases hi.1 h)
 clear hi;go_wp2;go_ret;exact⟨ret_bool A.out,f⟩
theorem Dt {n:Int} (c:0≤a) (e:1≤n) (d:a+n≤65536):aG (-1) [(a,n)]=true:=by
 rw[ew ⟨by show ¬a≤-1;omega,by show ¬a<0;omega,by show ¬65536≤a;omega,by show ¬n<1;omega,by show ¬65536-a<n;omega⟩];rfl
theorem ld (a:Option Addr) (n c:Nat) (l:List (Int×Int)) (y:aG (-1) l=true) (f d:Int) (I:0≤f) (E:1≤d) (D:f+d≤65536) (w:World) (B:dw w (J a n c) l) (V:Bool) (T:Hid (kG l f d.toNat=V)):
  Calls Tryz.prog 222 #[J a n c,.agg #[Y O f,Y O d]] w (aj w V):=by
 obtain⟨p,K,g,F⟩:=eY w (.cells #[Y O f,Y O d] 24);obtain⟨R,fp,q,U⟩:=eY p (.cells #[Y O f,Y O d] 24);have y0:=cG F 0 rfl;have y1:=cG F 1 rfl;have L:dw R (J (Z ⟨p.heap.size,0,M⟩) 1 1) [(f,d)]:=by
  refine⟨_,1,rfl,Nat.le_refl _,by unfold maxLen;decide,(fun e=>by cases e),fun _=>⟨p.heap.size,0,rfl,fun i x hx=>?_⟩⟩;cases i with
  |zero=>
   cases hx;refine⟨[Y O f,Y O d],rfl,⟨rfl,?_,?_⟩,fun j u hu=>?_⟩
   ·unfold bT;show _≤f∧f≤_;omega
   ·unfold bT;show _≤d∧d≤_;omega
   ·rw [Nat.zero_mul,Nat.zero_add,hpCell U]
    simpa using hu
  |succ i=>cases hx
 have WO:=hid (mU _ _ R L true (Dt I E D));have Rf:Hid (∀X,Below p.heap.size p X→Calls Tryz.prog 229 #[J a n c] X fun r w'=>r=.returned (J a n c)∧Below X.heap.size X w'):=fun X s=>Kv a c l n X (B.ah (bt g s (Nat.le_refl _))) y
 have Yw:Hid (∀X,Below p.heap.size p X→Calls Tryz.prog 228 #[J a n c,.func (.func 230) #[] #[.pointer (Z ⟨w.heap.size,0,M⟩)]] X (aj X V)):=fun X s=>B9 a n c l y X (B.ah (bt g s (Nat.le_refl _))) w.heap.size f d I E D (cell_keep s y0) (cell_keep s y1) V (by
  have:=He y (a:=f) (n:=d.toNat) (by omega)
  rw[show ((d.toNat:Nat):Int)=d by omega] at this
  show _=_
  rw[←this]
  exact T.out)
 have ab:∀(fn:Fn) (first cap:Array Value) (w:World),(Instr.makeFunc fn first cap).run Tryz.prog w=.ok (.func fn first cap) w:=fun _ _ _ _=>rfl
 have z:=hid K;have jy:=hid fp;have C:=hid g;have fC:=hid q;clear K g F fp q U L I E D B y T;go_enter Tryz.func222,Tryz.ntmps222;go_upto_region 1 with(fail)
 rw[z.out];go_wp2_with fail;rw[jy.out];refine WO.out.mono ?_;rintro r w3 ⟨rfl,A⟩;have o:=bt fC.out A (Nat.le_refl _);go_wp2_with (first
  |(go_at_call 229;(with_reducible refine(Rf.out _ o).mono ?_);rintro r w4 ⟨rfl,aY⟩;have Jn:=bt o aY (Nat.le_refl _))
  |(go_at_call 228;(with_reducible refine(Yw.out _ Jn).mono ?_);rintro r w5 ⟨rfl,G⟩;have Ao:=bt Jn G (Nat.le_refl _)))
 go_ret;exact⟨rfl,bt C.out Ao (Nat.le_refl _)⟩
def oN (s:Sl):Prop:=fq s.ag=true∧s.sd.length≤80∧∀k,k<4→(s.ts k).rd.length≤40
def EJ (w:World) (V:Bool) (r:Ending) (w':World):Prop:=r=.returned (.bool V)∧w=w'
def hJ (e c l:Int) (m:Bool) (n:Int) (o:Value):Array Value:=#[Y O 43,Y O e,J none 0 0,Y O c,Y O l,.bool m,Y O n,o]
def LA (w:World) (s:Sl) (co:Int) (L:List Ob) (r:Ending) (w':World):Prop:=
 ∃(n:Nat) (oa:Option Addr) (oc:Nat) (nx:Int),1≤n∧n≤L.length∧(∀x,L[n]?=Z x→nx=x.id)∧(L.length≤n→nx=0)∧Hid (n=cq 246 L)∧r=.returned (.agg (hJ 0 co s.lv (decide (n<L.length)) nx (J oa n oc)))∧(∀W,ay w.heap.size w' W→cY W (J oa n oc) (L.take n))∧Below w.heap.size w w'
structure ox (W4:World) (rb:Nat) (co lv:Int) (acc:List Ob) (k:Nat) (v:Value) (cs:List Value) (W:World):Prop where
 r:W.heap[rb]?=Z (.cells (hJ 0 co lv false 0 v) 53)
 own:W.ownsRow W4.heap.size 165 2 v k cs
 rows:eU 2 (fY (gL W4.heap.size v) W) cs (acc.take k)
 kp:Keeps (fun j=>j=rb) W4 W
theorem ox.step {cs:List Value} (h:ox W4 rb co lv acc k (J oa k oc) cs wi) (g:rb<W4.heap.size) (G:acc[k]?=Z x)
  {U:TypeId} {q p:Nat} (o:Below wi.heap.size wi w5) (D:x.val.length=q) (d:w5.ownsRow wi.heap.size U 1 (J a5 q p) q (u8s x.val)) (E:(w5.alloc X).grownBy w6 (Value.slice oa k oc).ownBlock) (C:cZ (w5.alloc X) (J oa k oc) (J a6 (k+1) c6))
  (c:w6.ownsRow W4.heap.size 165 2 (J a6 (k+1) c6) (k+1) (cs++[Y O x.id,J a5 q p])):
  ox W4 rb co lv acc (k+1) (J a6 (k+1) c6) (cs++[Y O x.id,J a5 q p]) (w6.setCell ⟨rb,7,M⟩ (J a6 (k+1) c6)):=by
 have K:=h.kp.size;obtain⟨s1,s2,s⟩:=BE (y0:=x.id) (by omega) h.own h.rows o D d E C;have f:Keeps (fun j=>j=rb) w6 (w6.setCell ⟨rb,7,M⟩ (J a6 (k+1) c6)):=(Keeps.refl _ _).set _ _ rfl;have B:w6.heap[rb]?=Z (.cells (hJ 0 co lv false 0 (J oa k oc)) 53):=by rw[s rb g];exact h.r
 refine⟨cS B rfl,own_keeps c f (fun j I e=>by have:=(c.lt j I).1;omega),?_,?_⟩
 ·rw [az G]
  exact eU.mono (fun r y u=>fY.keeps (F:=gL W4.heap.size (J a6 (k+1) c6)) (f.mono (fun j _ e=>.inr (by omega))) (fun _ _ e=>e) r y u) _ _ s1
 ·have z:Keeps (fun j=>j=rb) W4 w6:=⟨s2.os.trans h.kp.os,s2.tape.trans h.kp.tape,s2.output.trans h.kp.output,Nat.le_trans h.kp.size s2.size,fun i hi A=>(s i hi).trans (h.kp.block i hi A)⟩
  exact z.trans f (fun _ _ e=>e)
theorem ox.ends {o:World} {s:Sl} {cs:List Value} {C:Array Value} (h:ox W4 rb co s.lv acc m (J oa m oc) cs wi) (B:rb<W4.heap.size) (M:zb<W4.heap.size) (c:Keeps (fun j=>j=rb∨j=zb) wi o) (p:Below w.heap.size w W4) (E:w.heap.size≤rb) (K:w.heap.size≤zb) (G:1≤m) (hm:m≤acc.length)
  (L:∀x,acc[m]?=Z x→nx=x.id) (A:acc.length≤m→nx=0) (I:m=cq 246 acc) (z:C=hJ 0 co s.lv (decide (m<acc.length)) nx (J oa m oc)):LA w s co acc (.returned (.agg C)) o:=by
 subst z;have d:=p.size;refine⟨m,oa,oc,nx,G,hm,L,A,I,rfl,fun W q=>?_,(p.trans (h.kp.below d (fun j g e=>by omega))).trans (c.below (Nat.le_trans d h.kp.size) (fun j g e=>by omega))⟩;have u:=own_keeps h.own c (fun j g e=>by have:=(h.own.lt j g).1;omega);have D:=eU.mono (fun r y f=>fY.keeps (F:=gL W4.heap.size (J oa m oc)) (F2:=gL W4.heap.size (J oa m oc)) (c.mono (fun j _ e=>.inr (by omega))) (fun _ _ e=>e) r y f) _ _ h.rows;exact cY.uP (di u d q) (eU.mono (fun r y f=>fY.kj d q r y f) _ _ D) (by rw[List.length_take];omega)
theorem ox.old {cs:List Value} (h:ox W4 rb co lv acc k (J oa k oc) cs wi) (g:rb<W4.heap.size) (c:Below wi.heap.size wi w5) (j:(w5.alloc X).grownBy w6 (Value.slice oa k oc).ownBlock):
  w6.heap[rb]?=Z (.cells (hJ 0 co lv false 0 (J oa k oc)) 53):=by
 have d:=hpKeep (hpKeep h.r c) (bal'' w5 X);refine hpKeeps d (Keeps.bJ j (fun k f=>f)) (fun e=>?_);have:=(h.own.lt rb e).1;omega
def Oh (w:World) (s:Sl) (co:Int) (L:List Ob) (r:Ending) (w':World):Prop:=(L=[]∧aW w 43 2 [] r w')∨(L≠[]∧LA w s co L r w')
