import Derived.Deep.RegionHeldLaw
import Derived.Deep.CutBlock
import Derived.Test.YtoaoejaodhedaaaGreatQ04
namespace Go
section
variable {P:Program} {ops:Array Oper} {Q:Exit→Act→World→Prop} {md:Region.Mode} {S S':World→Prop}
theorem wpAnyH_takeD {i d:Nat} {oi:Oper} {v:Value} {fuel:Nat} {listed:Array Bool} {a:Act} {w:World} (hi:ops[i]?=some oi)
  (hs:Region.noSelect ops=true) (hf:Region.free md ops listed i=true) (hr:(Region.ready md ops listed).contains i=true)
  (hQ:∀c a w,Q (.panic c) (a.put oi.dst v) w→Q (.panic c) a w) (hd:oi.dst=some d) (hy:YieldsIf P ops S oi v a) (hS:S w)
  (h:wpAnyH P md ops Q S fuel (listed.setIfInBounds i true) {a with tmps:=a.tmps.setIfInBounds d v} w):wpAnyH P md ops Q S (fuel+1) listed a w:=
 wpAnyH_take hi hs hf hr hQ hy hS (by rw[hd];exact h)
theorem tkD (i d:Nat) {oi:Oper} {v:Value} {fuel:Nat} {listed:Array Bool} {a:Act} {w:World} (hi:ops[i]?=some oi)
  (hb:(Region.noSelect ops&&Region.free md ops listed i&&(Region.ready md ops listed).contains i)=true)
  (hQ:∀c a w,Q (.panic c) (a.put oi.dst v) w→Q (.panic c) a w) (hd:oi.dst=some d) (hw:Region.wanted oi (yielded ops a.tmps)=true) (hS:S w)
  (hy:∀w,S w→(execOp a.eval oi).run P w=.ok (.value v) w)
  (h:wpAnyH P md ops Q S fuel (listed.setIfInBounds i true) {a with tmps:=a.tmps.setIfInBounds d v} w):wpAnyH P md ops Q S (fuel+1) listed a w:=by
 simp only[Bool.and_eq_true] at hb;exact wpAnyH_takeD hi hb.1.1 hb.1.2 hb.2 hQ hd (.inl ⟨hw,hy⟩) hS h
theorem setS {α:Type}:(∀(l:List α) (i:Nat) (a:α),l.toArray.setIfInBounds i a=(l.set i a).toArray)∧(∀(x:α) (l:List α) (a:α),(x::l).set 0 a=a::l)∧(∀(x:α) (l:List α) (i:Nat) (a:α),(x::l).set (i+1) a=x::l.set i a):=
 ⟨fun _ _ _=>List.setIfInBounds_toArray ..,fun _ _ _=>rfl,fun _ _ _ _=>rfl⟩
theorem tkE (i d:Nat) {oi:Oper} {v:Value} {fuel:Nat} {listed:Array Bool} {a:Act} {w:World} (hi:ops[i]?=some oi) (hd:oi.dst=some d)
  (h:wpAnyH P md ops Q S fuel (listed.setIfInBounds i true) {a with tmps:=a.tmps.setIfInBounds d v} w)
  (hb:(Region.noSelect ops&&Region.free md ops listed i&&(Region.ready md ops listed).contains i)=true:=by kernel_rfl)
  (hQ:∀c a w,Q (.panic c) (a.put oi.dst v) w→Q (.panic c) a w:=by exact fun _ _ _ h=>h) (hw:Region.wanted oi (yielded ops a.tmps)=true:=by rfl) (hS:S w:=by assumption)
  (hy:∀w,S w→(execOp a.eval oi).run P w=.ok (.value v) w:=by (intro w hSw;(try dsimp only at hSw);go_simp;try (with_reducible rfl))):wpAnyH P md ops Q S (fuel+1) listed a w:=
 tkD i d hi hb hQ hd hw hS hy h
theorem rdyH (i:Nat) {o:Oper} {fuel:Nat} {listed:Array Bool} {a:Act} {w:World} (ho:ops[i]?=some o)
  (h:∀K':Act→World→Prop,Shut (∀a w,S w→(S w→wpAnyH P md ops Q S fuel (listed.setIfInBounds i true) a w)→K' a w)→if Region.wanted o (yielded ops a.tmps)=true then Oper.wp P o a w K' Q else K' (a.put o.dst undef) w)
  (hr:Region.ready md ops listed=[i]:=by kernel_rfl):wpAnyH P md ops Q S (fuel+1) listed a w:=
 wpAnyH_ready hr (by simp) (AllReadyH.cons ho h AllReadyH.nil)
end
structure Wn (i d:Nat):Prop where
structure Wq (q:Prop):Prop where
 o:q
section
variable {P:Program} {ops:Array Oper} {Q:Exit→Act→World→Prop} {md:Region.Mode} {S:World→Prop}
theorem tkK {i d:Nat} (_n:Wn i d) {oi:Oper} {v:Value} {fuel:Nat} {listed:Array Bool} {a:Act} {w:World} (hi:ops[i]?=some oi) (hd:oi.dst=some d)
  (h:wpAnyH P md ops Q S fuel (listed.setIfInBounds i true) {a with tmps:=a.tmps.setIfInBounds d v} w)
  (hb:(Region.noSelect ops&&Region.free md ops listed i&&(Region.ready md ops listed).contains i)=true:=by kernel_rfl)
  (hQ:∀c a w,Q (.panic c) (a.put oi.dst v) w→Q (.panic c) a w:=by exact fun _ _ _ h=>h) (hw:Region.wanted oi (yielded ops a.tmps)=true:=by rfl) (hS:S w:=by assumption)
  (hy:∀w,S w→(execOp a.eval oi).run P w=.ok (.value v) w:=by (intro w hSw;(try dsimp only at hSw);go_simp;try (with_reducible rfl))):wpAnyH P md ops Q S (fuel+1) listed a w:=
 tkD i d hi hb hQ hd hw hS hy h
theorem tkV {i d:Nat} (_n:Wn i d) {oi:Oper} {fuel:Nat} {listed:Array Bool} {a:Act} {w:World} (hi:ops[i]?=some oi) (hd:oi.dst=some d)
  (h:wpAnyH P md ops Q S fuel (listed.setIfInBounds i true) {a with tmps:=a.tmps.setIfInBounds d undef} w)
  (hs:Region.noSelect ops=true:=by kernel_rfl) (hf:Region.free md ops listed i=true:=by kernel_rfl) (hr:(Region.ready md ops listed).contains i=true:=by kernel_rfl)
  (hQ:∀c a w,Q (.panic c) (a.put oi.dst undef) w→Q (.panic c) a w:=by exact fun _ _ _ h=>h) (hy:YieldsIf P ops S oi undef a:=by exact Or.inr ⟨by rfl,rfl⟩) (hS:S w:=by assumption):wpAnyH P md ops Q S (fuel+1) listed a w:=
 wpAnyH_takeD hi hs hf hr hQ hd hy hS h
end
theorem tG (i d:Nat) {p q:Prop} (h:q) (k:Wn i d→Wq q→p:=by (intro hn hq;refine tkK hn rfl rfl ?_;simp only[setS];exact hq.o)):p:=k ⟨⟩ ⟨h⟩
theorem tU (i d:Nat) {p q:Prop} (h:q) (k:Wn i d→Wq q→p:=by (intro hn hq;refine tkV hn rfl rfl ?_;simp only[setS];exact hq.o)):p:=k ⟨⟩ ⟨h⟩
end Go

namespace Go.Proofs.YtoaoejaodhedaaaGreat
open Go.RowKit
set_option maxHeartbeats 6400000
set_option maxRecDepth 100000
theorem CsL.app {α:Type} {sz:Nat} {Q:List Value→α→Prop}:∀(l:List α) (cs:List Value),CsL sz Q cs l→∀(l':List α) (cs':List Value),CsL sz Q cs' l'→CsL sz Q (cs++cs') (l++l')
 |[],cs,h,l',cs',h'=>by obtain rfl:cs=[]:=h;exact h'
 |x::l,cs,h,l',cs',h'=>by
  obtain⟨r,k,rfl,h1,h2,h3⟩:=h;exact⟨r,k++cs',by simp,h1,h2,CsL.app l k h3 l' cs' h'⟩
theorem infoInt:(Tryz.prog.info? 3).map (fun i=>(i.zero,i.size,i.bytes))=some (some (.int .i64 0),1,8):=by kernel_rfl
theorem run_loadVar_at {P:Program} (w:World) (a:Addr) (ty:TypeId) (cs:Array Value) (d:TypeDesc) (hc:∀j v,cs.toList[j]?=some v→w.cell? (a.add j)=some v)
  (hu:P.underlying ty=some d) (hd:(match d with|.struct _|.array _ _=>true|_=>false)=true) (hi:(P.info? ty).map (·.size)=some cs.size):
  (loadVar ty a).run P w=.ok (.agg cs) w:=by
 have hl:(loadCells a cs.toList.length).run P w=.ok cs.toList.toArray w:=run_loadCells_list (P:=P) w a cs.toList hc;cases hq:P.info? ty with
 |none=>simp [hq] at hi
 |some i=>
  have hs:i.size=cs.size:=by simpa [hq] using hi
  have hagg:(isAgg ty).run P w=.ok true w:=by
   unfold isAgg;rw[Sem.run_bind,run_underlying hu w];cases d<;>simp_all
  simp only[Array.length_toList,Array.toArray_toList] at hl;simp [loadVar,Sem.run_bind,hagg,sizeOf,typeInfo,hq,hs,hl]
theorem wpList_load_at {P:Program} {ops:Array Oper} {rest:List Oper} {o:Oper} {a:Act} {w:World} {Q:Exit→Act→World→Prop} (hgd:o.guard=none) (ty:TypeId) (x:Operand) (ho:o.op=.load ty x)
  (ad:Addr) (hx:a.eval x=.pointer (some ad)) (cs:Array Value) (d:TypeDesc) (hc:∀j v,cs.toList[j]?=some v→w.cell? (ad.add j)=some v)
  (hu:P.underlying ty=some d) (hd:(match d with|.struct _|.array _ _=>true|_=>false)=true) (hi:(P.info? ty).map (·.size)=some cs.size)
  (h:wpList P ops Q rest (a.put o.dst (.agg cs)) w):wpList P ops Q (o::rest) a w:=
 wpList_plain hgd fun K hK=>by
  unfold Oper.wp execOp;simp only[ho,hx,Instr.loadAt,Instr.sureAddr,Sem.run_bind,Sem.run_pure,Result.andThen_ok,run_loadVar_at w ad ty cs d hc hu hd hi];exact hK _ _ h
theorem results_ct_row {P:Program} {fn:Func} {p u:Tmp} {ty:TypeId} (h:fn.results=#[.cell p ty,.tmp u]) (tmps:Array Value) (w:World) (g:Nat) (t:TypeId) (cs:Array Value) (fr:Nat×Nat) (d:TypeDesc)
  (hp:tmps.getD p undef=.pointer (some ⟨g,0,none⟩)) (hg:w.heap[g]?=some (.cells cs t fr))
  (hu:P.underlying ty=some d) (hd:(match d with|.struct _|.array _ _=>true|_=>false)=true) (hi:(P.info? ty).map (·.size)=some cs.size):
  (results fn tmps).run P w=.ok (.tuple #[.agg cs,tmps.getD u undef]) w:=by
 rw[results_cell_tmp h,hp];simp [asAddr,run_loadVar_row w g t ty cs fr d hg hu hd hi]
def mkR (fn e:Int) (d:List UInt8):Rp:=⟨fn,e,d,0,0,false,0,[]⟩
def wordV (t a v:Int):Int:=(v+7919*a+104729*t)%65536
theorem wordV_bd (t a v:Int):0≤wordV t a v∧wordV t a v<65536:=by unfold wordV;omega
def regsD (t a v:Int):Nat→List UInt8
 |0=>[]
 |n+1=>regsD t a v n++[UInt8.ofNat ((wordV t (a+(n:Nat)) v).toNat/256),UInt8.ofNat ((wordV t (a+(n:Nat)) v).toNat%256)]
theorem regsD_len (t a v:Int):∀n,(regsD t a v n).length=2*n
 |0=>rfl
 |n+1=>by rw[regsD,List.length_append,regsD_len t a v n];show 2*n+2=_;omega
def bitV (t a v:Int) (i:Nat):Nat:=(wordV t (a+(i:Nat)) v).toNat%2
theorem bitV_bd (t a v:Int) (i:Nat):bitV t a v i<2:=Nat.mod_lt _ (by decide)
def bval (t a v:Int) (k:Nat):Nat→Nat
 |0=>0
 |m+1=>bval t a v k m+bitV t a v (8*k+m)*2^m
theorem bval_lt (t a v:Int) (k:Nat):∀m,bval t a v k m<2^m
 |0=>Nat.zero_lt_one
 |m+1=>by
  have h1:=bval_lt t a v k m;have h2:=bitV_bd t a v (8*k+m);rw[bval,Nat.pow_succ];rcases (show bitV t a v (8*k+m)=0∨bitV t a v (8*k+m)=1 by omega) with e|e<;>rw[e]<;>omega
def bitsL (t a v:Int) (N i:Nat):List UInt8:=(List.range N).map fun k=>UInt8.ofNat (bval t a v k (min 8 (i-8*k)))
theorem bitsL_len (t a v:Int) (N i:Nat):(bitsL t a v N i).length=N:=by unfold bitsL;rw[List.length_map,List.length_range]
theorem bitsL_at {t a v:Int} {N i k:Nat} (h:k<N):(bitsL t a v N i)[k]?=some (UInt8.ofNat (bval t a v k (min 8 (i-8*k)))):=by
 unfold bitsL;rw[List.getElem?_map,List.getElem?_range h];rfl
theorem bitsL_zero (t a v:Int) (N:Nat):bitsL t a v N 0=List.replicate N 0:=by
 refine List.ext_getElem? fun k=>?_
 by_cases h:k<N
 ·rw [bitsL_at h,List.getElem?_replicate,if_pos h]
  have:min 8 (0-8*k)=0:=by omega
  rw[this];rfl
 ·rw [List.getElem?_eq_none (by rw[bitsL_len];omega),List.getElem?_eq_none (by rw[List.length_replicate];omega)]
theorem bitsL_more {t a v:Int} {N i:Nat} (h:i≤8*N):bitsL t a v N i++[0]=bitsL t a v (N+1) i:=by
 refine List.ext_getElem? fun k=>?_
 by_cases h1:k<N
 ·rw [List.getElem?_append_left (by rw[bitsL_len];exact h1),bitsL_at h1,bitsL_at (by omega)]
 ·by_cases h2:k=N
  ·subst h2
   rw[List.getElem?_append_right (by rw[bitsL_len];exact Nat.le_refl _),bitsL_len,Nat.sub_self,bitsL_at (Nat.lt_succ_self _)];have:min 8 (i-8*k)=0:=by omega
   rw[this];rfl
  ·rw [List.getElem?_eq_none (by rw[List.length_append,bitsL_len];show N+1≤k;omega),List.getElem?_eq_none (by rw[bitsL_len];omega)]
theorem bitsL_set {t a v:Int} {N i:Nat} (h:i/8<N):(bitsL t a v N i).set (i/8) (UInt8.ofNat (bval t a v (i/8) (i%8)+bitV t a v i*2^(i%8)))=bitsL t a v N (i+1):=by
 refine List.ext_getElem? fun k=>?_
 rw[List.getElem?_set];by_cases h1:i/8=k
 ·subst h1
  rw[if_pos rfl,if_pos (by rw[bitsL_len];exact h),bitsL_at h];have e:min 8 (i+1-8*(i/8))=i%8+1:=by omega
  rw[e,bval];have e2:8*(i/8)+i%8=i:=by omega
  rw[e2]
 ·rw [if_neg h1]
  by_cases h2:k<N
  ·rw [bitsL_at h2,bitsL_at h2]
   have e:min 8 (i-8*k)=min 8 (i+1-8*k):=by omega
   rw[e]
  ·rw [List.getElem?_eq_none (by rw[bitsL_len];omega),List.getElem?_eq_none (by rw[bitsL_len];omega)]
theorem bitsL_cur {t a v:Int} {N i:Nat} (h:i/8<N):(bitsL t a v N i)[i/8]?=some (UInt8.ofNat (bval t a v (i/8) (i%8))):=by
 rw[bitsL_at h];have e:min 8 (i-8*(i/8))=i%8:=by omega
 rw[e]
def covB (rd:List (Int×Int)) (a:Int) (n:Nat):Bool:=(List.range n).all fun i=>inR rd (a+(i:Nat))
theorem covB_iff (rd:List (Int×Int)) (a:Int) (n:Nat):covB rd a n=true↔allR rd a n:=by
 unfold covB allR;rw[List.all_eq_true];exact⟨fun h i hi=>h i (List.mem_range.2 hi),fun h i hi=>h i (List.mem_range.1 hi)⟩
def Tbl.ans (t:Tbl) (q:Rq) (v:Int):Rp:=
 if t.sup=false then mkR q.fn 1 [] else if t.most<q.qty then mkR q.fn 3 [] else if covB t.rd q.addr q.qty.toNat=false then mkR q.fn 2 []
 else mkR q.fn 0 (if q.fn≤2 then bitsL q.fn q.addr v ((q.qty.toNat+7)/8) q.qty.toNat else regsD q.fn q.addr v q.qty.toNat)
def grI (c:Int):Int:=if c=1 then 2 else if c=2 then 127 else 255
def selO (l:List Ob) (lo hi:Int):List Ob:=l.filter fun x=>decide (lo≤x.id)&&decide (x.id≤hi)
def fitN (r:Nat):List Ob→Nat
 |[]=>0
 |x::l=>if 2+x.val.length≤r then fitN (r- (2+x.val.length)) l+1 else 0
theorem fitN_le:∀(l:List Ob) (r:Nat),fitN r l≤l.length
 |[],_=>Nat.le_refl _
 |x::l,r=>by
  rw[fitN];split
  ·exact Nat.succ_le_succ (fitN_le l _)
  ·exact Nat.zero_le _
theorem fitN_size:∀(l:List Ob) (r:Nat),obSize (l.take (fitN r l))≤r
 |[],r=>by rw[List.take_nil];exact Nat.zero_le _
 |x::l,r=>by
  rw[fitN];split
  ·rename_i h
   rw[List.take_succ_cons];have:=fitN_size l (r- (2+x.val.length));show 2+x.val.length+obSize (l.take _)≤r;omega
  ·exact Nat.zero_le _
theorem fitN_max:∀(l:List Ob) (r m:Nat),obSize (l.take m)≤r→m≤l.length→m≤fitN r l
 |[],r,m,_,h=>h
 |x::l,r,0,_,_=>Nat.zero_le _
 |x::l,r,m+1,h,hl=>by
  rw[List.take_succ_cons] at h;have h:2+x.val.length+obSize (l.take m)≤r:=h;rw[fitN,if_pos (by omega)];have:=fitN_max l (r- (2+x.val.length)) m (by omega) (Nat.le_of_succ_le_succ hl);omega
theorem selO_yes {l:List Ob} {k:Nat} {x:Ob} {lo hi:Int} (hx:l[k]?=some x) (h1:lo≤x.id) (h2:x.id≤hi):selO (l.take (k+1)) lo hi=selO (l.take k) lo hi++[x]:=by
 unfold selO;rw[List.take_add_one,hx,List.filter_append];simp [h1,h2]
theorem selO_no {l:List Ob} {k:Nat} {x:Ob} {lo hi:Int} (hx:l[k]?=some x) (h:¬(lo≤x.id∧x.id≤hi)):selO (l.take (k+1)) lo hi=selO (l.take k) lo hi:=by
 unfold selO;rw[List.take_add_one,hx,List.filter_append];have:(decide (lo≤x.id)&&decide (x.id≤hi))=false:=by
  cases e1:decide (lo≤x.id)<;>cases e2:decide (x.id≤hi)<;>first|rfl|exact absurd ⟨of_decide_eq_true e1,of_decide_eq_true e2⟩ h
 simp [this]
theorem obSize_mono:∀(l:List Ob) (m n:Nat),m≤n→obSize (l.take m)≤obSize (l.take n)
 |[],m,n,_=>by rw[List.take_nil,List.take_nil];exact Nat.le_refl _
 |x::l,0,n,_=>Nat.zero_le _
 |x::l,m+1,0,h=>by omega
 |x::l,m+1,n+1,h=>by
  have:=obSize_mono l m n (by omega);rw[List.take_succ_cons,List.take_succ_cons];show 2+x.val.length+obSize (l.take m)≤2+x.val.length+obSize (l.take n);omega
theorem fitN_is {l:List Ob} {r m:Nat} (h1:obSize (l.take m)≤r) (hm:m≤l.length) (h2:m=l.length∨¬obSize (l.take (m+1))≤r):m=fitN r l:=by
 have a:=fitN_max l r m h1 hm;have b:=fitN_le l r;rcases h2 with h2|h2
 ·omega
 ·by_cases e:m+1≤fitN r l
  ·have c:=obSize_mono l _ _ e
   have d:=fitN_size l r;omega
  ·omega
theorem info8:(Tryz.prog.info? 53).map (·.size)=some 8:=by kernel_rfl
def TabPostD (w:World) (fn e:Int) (D:List UInt8) (r:Ending) (w':World):Prop:=
 ∃(da:Option Addr) (dc:Nat),r=.returned (.agg (#[.int .i64 fn,.int .i64 e,(.slice da D.length dc),.int .i64 0,.int .i64 0,.bool false,.int .i64 0,.slice none 0 0]))∧D.length≤250∧w'.ownsRow w.heap.size 5 1 (.slice da D.length dc) D.length (u8s D)∧Below w.heap.size w w'
structure TbL (W1:World) (rb zb:Nat) (fn:Int) (D:List UInt8) (v:Value) (W:World):Prop where
 r:W.heap[rb]?=some (.cells (#[.int .i64 fn,.int .i64 0,v,.int .i64 0,.int .i64 0,.bool false,.int .i64 0,.slice none 0 0]) 53)
 z:W.heap[zb]?=some (.cells (#[.int .i64 0,.int .i64 0,(.slice none 0 0),.int .i64 0,.int .i64 0,.bool false,.int .i64 0,.slice none 0 0]) 53)
 own:W.ownsRow W1.heap.size 5 1 v D.length (u8s D)
 kp:Keeps (fun j=>j=rb) W1 W
theorem u8s_setZ (l:List UInt8) (i:Nat) (x:UInt8):(u8s l).set i (byteV x)=u8s (l.set i x):=by simp [u8s,List.map_set]
theorem ownb_cellZ {w:World} {base:Nat} {e:TypeId} {g n cap:Nat} {l:List UInt8} (h:w.ownsRow base e 1 (.slice (some ⟨g,0,none⟩) n cap) n (u8s l)) (i:Nat) (hi:i<n):
  w.cell? ⟨g,i,none⟩=some (.int .u8 ((l.getD i 0).toNat:Int)):=by
 have hl:l.length=n:=by simpa using h.1
 rw[h.cellAt i (by omega),u8s_get l i (by omega)]
theorem SlC_tab (s:Sl) (rv:Nat→Value) (ov sv:Value) {W:World} {b:Nat} (h:W.heap[b]?=some (.cells (SlC s rv ov sv) 68)) {k:Nat} (hk:k<4):
  W.cell? ⟨b,3+k*3,none⟩=some (.bool (s.ts k).sup)∧W.cell? ⟨b,3+k*3+1,none⟩=some (rv k)∧W.cell? ⟨b,3+k*3+2,none⟩=some (.int .i64 (s.ts k).most):=by
 rw[bA h,bA h,bA h]
 match k,hk with
 |0,_=>exact⟨rfl,rfl,rfl⟩
 |1,_=>exact⟨rfl,rfl,rfl⟩
 |2,_=>exact⟨rfl,rfl,rfl⟩
 |3,_=>exact⟨rfl,rfl,rfl⟩
theorem rgsFrom_lo:∀{l:List (Int×Int)} {e:Int},rgsFrom e l=true→∀y∈l,e<y.1
 |[],_,_,y,hy=>by cases hy
 |x::l,e,h,y,hy=>by
  by_cases hx:rgOk e x
  ·rw [rgsFrom_ok hx] at h
   obtain⟨h1,h2,h3,h4,h5⟩:=hx;rcases List.mem_cons.1 hy with rfl|hy
   ·omega
   ·have:=rgsFrom_lo h y hy
    omega
  ·rw [rgsFrom_bad hx] at h
   cases h
theorem rgsFrom_sep:∀{l:List (Int×Int)} {e:Int},rgsFrom e l=true→∀x∈l,∀y∈l,x=y∨x.1+x.2<y.1∨y.1+y.2<x.1
 |[],_,_,x,hx,_,_=>by cases hx
 |z::l,e,h,x,hx,y,hy=>by
  by_cases hz:rgOk e z
  ·rw [rgsFrom_ok hz] at h
   have h1:=List.mem_cons.1 hx;have h2:=List.mem_cons.1 hy;clear hx hy;rcases h1 with e1|e1
   ·rcases h2 with e2|e2
    ·exact .inl (e1.trans e2.symm)
    ·rw [e1]
     exact .inr (.inl (rgsFrom_lo h y e2))
   ·rcases h2 with e2|e2
    ·rw [e2]
     exact .inr (.inr (rgsFrom_lo h x e1))
    ·exact rgsFrom_sep h x e1 y e2
  ·rw [rgsFrom_bad hz] at h
   cases h
def oneB (a n:Int) (x:Int×Int):Bool:=decide (x.1≤a)&&decide (a+n≤x.1+x.2)
theorem inR_mem {l:List (Int×Int)} {a:Int} (h:inR l a=true):∃x∈l,x.1≤a∧a-x.1<x.2:=by
 obtain⟨x,h1,h2⟩:=List.any_eq_true.1 h;simp only[Bool.and_eq_true,decide_eq_true_eq] at h2;exact⟨x,h1,h2⟩
theorem covB_one {l:List (Int×Int)} (hl:rgsFrom (-1) l=true) {a:Int} {n:Nat} (hn:1≤n):covB l a n=l.any (oneB a (n:Int)):=by
 rw[Bool.eq_iff_iff,covB_iff,List.any_eq_true];constructor
 ·intro h
  obtain⟨x,x1,x2,x3⟩:=inR_mem (h 0 (by omega));refine⟨x,x1,?_⟩;have key:∀i,i<n→a+(i:Nat)<x.1+x.2:=by
   intro i
   induction i with
   |zero=>intro _;omega
   |succ i ih=>
    intro hi;have h1:=ih (by omega);obtain⟨y,y1,y2,y3⟩:=inR_mem (h (i+1) hi);rcases rgsFrom_sep hl x x1 y y1 with e|e|e
    ·subst e
     omega
    ·omega
    ·omega
  have:=key (n-1) (by omega);unfold oneB;rw[Bool.and_eq_true,decide_eq_true_eq,decide_eq_true_eq];omega
 ·rintro ⟨x,x1,x2⟩ i hi
  unfold oneB at x2;rw[Bool.and_eq_true,decide_eq_true_eq,decide_eq_true_eq] at x2;refine List.any_eq_true.2 ⟨x,x1,?_⟩;rw[Bool.and_eq_true,decide_eq_true_eq,decide_eq_true_eq];omega
def IdxPost (V:Bool) (r:Ending):Prop:=∃i:Int,r=.returned (.int .i64 i)∧(0≤i↔V=true)
theorem prg_valid (v:Value) (l:List (Int×Int)) (w:World) (hl:Rgs w v l) (V:Bool) (hV:Hid (rgsFrom (-1) l=V)):
  Calls Tryz.prog 180 #[v] w (BoolPost w V):=by
 have HL:=bC hl;obtain⟨a,c,rfl,hnc,hcm,-⟩:=id hl;obtain⟨n,hn⟩:=gE l.length;have HN:=bC hn;rw[hn] at hnc ⊢;clear hl hn;go_enter Tryz.func180,Tryz.ntmps180;go_wp2_with fail;go_loopw [3,8] (fun ev iv wr=>∃(k:Nat) (e f:Int),k≤n∧ev=.int .i64 f∧Hid (f=e+1)∧iv=.int .i64 (k:Int)∧-1≤e∧e≤65536∧Hid (rgsFrom e (l.drop k)=V)∧Below w.heap.size w wr) (fun _ iv _=>n- (intOf iv).toNat)
 case atStart=>exact⟨0,-1,0,Nat.zero_le _,rfl,(by show (0:Int)=-1+1;decide),rfl,by decide,by decide,hV.out,Below.refl _ _⟩
 case round=>
  obtain⟨k,e,f0,hk,rfl,hf0,rfl,he0,he1,hv,hbw⟩:=hrel;have hki:(0:Int)≤(k:Int):=Int.natCast_nonneg _;have hnn:n≤9223372036854775807:=by unfold maxLen at hcm;omega
  have HBA:Hid (∀X,Below w.heap.size w (wr.alloc X)):=fun X=>cJ hbw (Nat.le_refl _) X
  by_cases hlt:k<n
  ·obtain ⟨x,hx⟩:=gs (l:=l) HN.out hlt
   obtain⟨b,o,c',hv',w1,w2,hcl⟩:=HL.out.at hx;rw[HN.out] at hv';simp only[Value.slice.injEq,true_and] at hv';obtain⟨rfl,rfl⟩:=hv';have hkl:(k:Int)<(n:Int):=by omega
   obtain⟨y0,y1⟩:=hcl wr hbw;have hdr:l.drop k=x::l.drop (k+1):=by
    rw[List.drop_eq_getElem_cons (by have:=HN.out;omega)];congr 1;rw[List.getElem?_eq_getElem (by have:=HN.out;omega)] at hx;exact Option.some.inj hx
   have hve:=hv.out;rw[hdr] at hve;obtain⟨xf,xc⟩:=x;dsimp only at y0 y1 w1 w2;have hff:=hf0.out;by_cases hg:rgOk e (xf,xc)
   ·rw [rgsFrom_ok hg] at hve
    obtain⟨h1,h2,h3,h4,h5⟩:=hg;dsimp only at h1 h2 h3 h4 h5 hve;have a1:decide (xf<f0)=false:=decide_eq_false (by omega);have a3:decide (65536≤xf)=false:=decide_eq_false h3;have a4:decide (xc<1)=false:=decide_eq_false h4;obtain⟨f,hf⟩:∃f,65536-xf=f:=⟨_,rfl⟩
    have a5:decide (f<xc)=false:=decide_eq_false (by omega);have s1:IntKind.i64.wrap (65536-xf)=f:=(IntWalk.i64_in _ (by omega)).trans hf;obtain⟨e2,he2⟩:∃e,xf+xc=e:=⟨_,rfl⟩
    have s2:IntKind.i64.wrap (xf+xc)=e2:=(IntWalk.i64_in _ (by omega)).trans he2;obtain⟨f2,hf2⟩:∃f,e2+1=f:=⟨_,rfl⟩
    have s3:IntKind.i64.wrap (e2+1)=f2:=(IntWalk.i64_in _ (by omega)).trans hf2;have hb2: -1≤e2∧e2≤65536:=by omega
    rw[he2] at hve;have HVE:=bC hve;have HF2:=bC hf2;clear h1 h2 h3 h4 h5 hf he2 hve hv hx hdr hcl w1 w2 hf2 hff hf0;go_wp2;go_roundw
    case rel=>exact⟨k+1,e2,f2,by omega,rfl,HF2.out.symm,by go_num,hb2.1,hb2.2,HVE.out,HBA.out _⟩
    case measure=>simp [intOf];omega
   ·rw [rgsFrom_bad hg] at hve
    have HV:Hid (V=false):=hve.symm;have hb:=badR hg;dsimp only at hb;clear hg hve hv hx hdr hcl hf0;by_cases h1:xf<f0
    ·have a1:decide (xf<f0)=true:=decide_eq_true h1
     clear h1 hb hff;go_wp2;go_ret;exact⟨bO HV.out.symm,HBA.out _⟩
    ·have a1:decide (xf<f0)=false:=decide_eq_false h1
     by_cases h3:65536≤xf
     ·have a3:decide (65536≤xf)=true:=decide_eq_true h3
      clear h1 h3 hb hff;go_wp2;go_ret;exact⟨bO HV.out.symm,HBA.out _⟩
     ·have a3:decide (65536≤xf)=false:=decide_eq_false h3
      by_cases h4:xc<1
      ·have a4:decide (xc<1)=true:=decide_eq_true h4
       clear h1 h3 h4 hb hff;go_wp2;go_ret;exact⟨bO HV.out.symm,HBA.out _⟩
      ·have a4:decide (xc<1)=false:=decide_eq_false h4
       obtain⟨f,hf⟩:∃f,65536-xf=f:=⟨_,rfl⟩
       have a5:decide (f<xc)=true:=decide_eq_true (by omega);have s1:IntKind.i64.wrap (65536-xf)=f:=(IntWalk.i64_in _ (by omega)).trans hf;clear h1 h3 h4 hb hff hf;go_wp2;go_ret;exact⟨bO HV.out.symm,HBA.out _⟩
  ·obtain rfl:k=n:=by omega
   have HV:Hid (true=V):=by
    have h1:=hv.out;rw[List.drop_eq_nil_of_le (by rw[HN.out];exact Nat.le_refl _)] at h1;exact h1
   clear hv;go_wp2;go_ret;exact⟨bO HV.out,hbw⟩
theorem prg_set (a:Option Addr) (c:Nat) (l:List (Int×Int)) (n:Nat) (w:World) (hl:Rgs w (.slice a n c) l) (hg:rgsFrom (-1) l=true):
  Calls Tryz.prog 229 #[.slice a n c] w fun r w'=>r=.returned (.slice a n c)∧Below w.heap.size w w':=by
 have HV:=bC (prg_valid _ l w hl true hg);clear hl hg;go_enter Tryz.func229,Tryz.ntmps229;go_wp2_with (go_at_call 180;(with_reducible refine HV.out.mono ?_);rintro r w2 ⟨rfl,hb2⟩);go_ret;exact⟨rfl,hb2⟩
theorem cov1_any (xf xc:Int) (x0:0≤xf) (x1:xf<65536) (x2:1≤xc) (x3:xc≤65536-xf) (g:Nat) (ra rn:Int) (r0:0≤ra) (r1:1≤rn) (r2:ra+rn≤65536) (w:World) (h0:w.cell? ⟨g,0,none⟩=some (.int .i64 ra)) (h1:w.cell? ⟨g,1,none⟩=some (.int .i64 rn)) (V:Bool) (hV:Hid (oneB ra rn (xf,xc)=V)):
  Calls Tryz.prog 230 #[.agg #[.int .i64 xf,.int .i64 xc],.pointer (some ⟨g,0,none⟩)] w (BoolPost w V):=by
 have c0:∀X,(w.alloc X).cell? ⟨g,0,none⟩=some (.int .i64 ra):=fun X=>bD (bH w X) h0
 have c1:∀X,(w.alloc X).cell? ⟨g,1,none⟩=some (.int .i64 rn):=fun X=>bD (bH w X) h1
 have HB:Hid (∀X,Below w.heap.size w (w.alloc X)):=fun X=>bH w X
 obtain⟨e,he⟩:∃e,ra+rn=e:=⟨_,rfl⟩
 have s1:IntKind.i64.wrap (ra+rn)=e:=(IntWalk.i64_in _ (by omega)).trans he;obtain⟨f,hf⟩:∃f,xf+xc=f:=⟨_,rfl⟩
 have s2:IntKind.i64.wrap (xf+xc)=f:=(IntWalk.i64_in _ (by omega)).trans hf;have HV:Hid ((decide (xf≤ra)&&decide (e≤f))=V):=by
  have:=hV.out;unfold oneB at this;dsimp only at this;rw[he,hf] at this;exact this
 clear h0 h1 he hf x0 x1 x2 x3 r0 r1 r2 hV;by_cases p1:xf≤ra
 ·have d1:decide (xf≤ra)=true:=decide_eq_true p1
  have HV2:Hid (decide (e≤f)=V):=by have:=HV.out;rw[d1] at this;exact this
  clear p1;go_enter Tryz.func230,Tryz.ntmps230;go_wp2;go_ret;exact⟨bO HV2.out,HB.out _⟩
 ·have d1:decide (xf≤ra)=false:=decide_eq_false p1
  have HV2:Hid (false=V):=by have:=HV.out;rw[d1] at this;exact this
  clear p1;go_enter Tryz.func230,Tryz.ntmps230;go_wp2;go_ret;exact⟨bO HV2.out,HB.out _⟩
theorem idxR_any (v:Value) (l:List (Int×Int)) (hgd:rgsFrom (-1) l=true) (w:World) (hl:Rgs w v l) (g:Nat) (ra rn:Int) (r0:0≤ra) (r1:1≤rn) (r2:ra+rn≤65536) (h0:w.cell? ⟨g,0,none⟩=some (.int .i64 ra)) (h1:w.cell? ⟨g,1,none⟩=some (.int .i64 rn)) (V:Bool) (hV:Hid (l.any (oneB ra rn)=V)):
  Calls Tryz.prog 231 #[v,.func (.func 230) #[] #[.pointer (some ⟨g,0,none⟩)]] w fun r w'=>IdxPost V r∧Below w.heap.size w w':=by
 have HL:=bC hl;obtain⟨a,c,rfl,hnc,hcm,-⟩:=id hl;obtain⟨n,hn⟩:=gE l.length;have HN:=bC hn;rw[hn] at hnc ⊢;have HRR:Hid (0≤ra∧1≤rn∧ra+rn≤65536):=⟨r0,r1,r2⟩
 have HGD:=bC hgd;have hnn:n≤9223372036854775807:=by unfold maxLen at hcm;omega
 clear hl hn r0 r1 r2 hgd hcm;go_enter Tryz.func231,Tryz.ntmps231;go_wp2;go_loopw [8] (fun i wr=>∃k:Nat,k≤n∧i=.int .i64 k∧Hid ((l.take k).any (oneB ra rn)=false)∧Below w.heap.size w wr) (fun i _=>n- (intOf i).toNat)
 case atStart=>exact⟨0,Nat.zero_le _,rfl,rfl,Below.refl _ _⟩
 case round=>
  obtain⟨k,hk,rfl,hno,hbw⟩:=hrel;have hki:(0:Int)≤(k:Int):=Int.natCast_nonneg _;by_cases hlt:k<n
  ·obtain ⟨x,hx⟩:=gs (l:=l) HN.out hlt
   obtain⟨b,o,c',hv',w1,w2,hcl⟩:=HL.out.at hx;rw[HN.out] at hv';simp only[Value.slice.injEq,true_and] at hv';obtain⟨rfl,rfl⟩:=hv';have hkl:(k:Int)<(n:Int):=by omega
   obtain⟨y0,y1⟩:=hcl wr hbw;have hxb:=rgsFrom_mem HGD.out x (List.mem_of_getElem? hx);obtain⟨B,hB⟩:=gE (oneB ra rn x);have HM:Hid (Calls Tryz.prog 230 #[.agg #[.int .i64 x.1,.int .i64 x.2],.pointer (some ⟨g,0,none⟩)] wr (BoolPost wr B)):=cov1_any x.1 x.2 hxb.1 hxb.2.1 hxb.2.2.1 hxb.2.2.2 g ra rn HRR.out.1 HRR.out.2.1 HRR.out.2.2 wr (bD hbw h0) (bD hbw h1) B hB;have HST:Hid ((l.take (k+1)).any (oneB ra rn)=B):=by
    have h1:=hno.out;show _=_;rw[bT hx,List.any_append,h1,←hB];simp
   have HGX:Hid (x∈l):=List.mem_of_getElem? hx;have HBB:=bC hB;clear hx hB hxb hcl w1 w2;go_wp2_with fail;refine HM.out.mono ?_;rintro r w1 ⟨rfl,hb1⟩;cases B with
   |true=>
    have HF:Hid (V=true):=by
     show _=_;rw[←hV.out];exact List.any_eq_true.2 ⟨x,HGX.out,HBB.out⟩
    go_wp2;go_ret;exact⟨⟨k,rfl,⟨fun _=>HF.out,fun _=>Int.natCast_nonneg _⟩⟩,bU hbw hb1⟩
   |false=>
    go_wp2;go_roundw
    case rel=>exact⟨k+1,by omega,by go_num,HST,bU hbw hb1⟩
    case measure=>simp [intOf];omega
  ·obtain rfl:k=n:=by omega
   have HF:Hid (V=false):=by
    have h1:=hno.out;rw[List.take_of_length_le (by rw[HN.out];exact Nat.le_refl _)] at h1;show _=_;rw[←hV.out,h1]
   go_wp2;go_ret;exact⟨⟨-1,rfl,⟨fun h=>absurd h (by decide),fun h=>by rw[HF.out] at h;cases h⟩⟩,hbw⟩
theorem contR_any (a:Option Addr) (n c:Nat) (l:List (Int×Int)) (hgd:rgsFrom (-1) l=true) (w:World) (hl:Rgs w (.slice a n c) l) (g:Nat) (ra rn:Int) (r0:0≤ra) (r1:1≤rn) (r2:ra+rn≤65536) (h0:w.cell? ⟨g,0,none⟩=some (.int .i64 ra)) (h1:w.cell? ⟨g,1,none⟩=some (.int .i64 rn)) (V:Bool) (hV:Hid (l.any (oneB ra rn)=V)):
  Calls Tryz.prog 228 #[.slice a n c,.func (.func 230) #[] #[.pointer (some ⟨g,0,none⟩)]] w (BoolPost w V):=by
 have HI:=bC (idxR_any _ l hgd w hl g ra rn r0 r1 r2 h0 h1 V hV);clear hl hgd r0 r1 r2 h0 h1 hV;go_enter Tryz.func228,Tryz.ntmps228;go_wp2_with fail;refine HI.out.mono ?_;rintro r w1 ⟨⟨i,rfl,hi⟩,hb1⟩;have HV:Hid (decide (0≤i)=V):=by
  show _=_;cases V with
  |true=>exact decide_eq_true (hi.2 rfl)
  |false=>exact decide_eq_false (fun h=>by cases hi.1 h)
 clear hi;go_wp2;go_ret;exact⟨bO HV.out,hb1⟩
theorem one_valid {a n:Int} (h0:0≤a) (h1:1≤n) (h2:a+n≤65536):rgsFrom (-1) [(a,n)]=true:=by
 rw[rgsFrom_ok ⟨by show ¬a≤-1;omega,by show ¬a<0;omega,by show ¬65536≤a;omega,by show ¬n<1;omega,by show ¬65536-a<n;omega⟩];rfl
theorem prg_covers (a:Option Addr) (n c:Nat) (l:List (Int×Int)) (hgd:rgsFrom (-1) l=true) (ra rn:Int) (r0:0≤ra) (r1:1≤rn) (r2:ra+rn≤65536) (w:World) (hl:Rgs w (.slice a n c) l) (V:Bool) (hV:Hid (covB l ra rn.toNat=V)):
  Calls Tryz.prog 222 #[.slice a n c,.agg #[.int .i64 ra,.int .i64 rn]] w (BoolPost w V):=by
 obtain⟨W1,hW1,hb1,p1⟩:=alQ w (.cells #[.int .i64 ra,.int .i64 rn] 24);obtain⟨W2,hW2,hb2,p2⟩:=alQ W1 (.cells #[.int .i64 ra,.int .i64 rn] 24);have y0:=cG p1 0 rfl;have y1:=cG p1 1 rfl;have hone:Rgs W2 (.slice (some ⟨W1.heap.size,0,none⟩) 1 1) [(ra,rn)]:=by
  refine⟨_,1,rfl,Nat.le_refl _,by unfold maxLen;decide,(fun e=>by cases e),fun _=>⟨W1.heap.size,0,rfl,fun i x hx=>?_⟩⟩;cases i with
  |zero=>
   cases hx;refine⟨[.int .i64 ra,.int .i64 rn],rfl,⟨rfl,?_,?_⟩,fun j u hu=>?_⟩
   ·unfold wfI;show _≤ra∧ra≤_;omega
   ·unfold wfI;show _≤rn∧rn≤_;omega
   ·rw [Nat.zero_mul,Nat.zero_add,bA p2]
    simpa using hu
  |succ i=>cases hx
 have HV1:=bC (prg_valid _ _ W2 hone true (one_valid r0 r1 r2));have HSET:Hid (∀X,Below W1.heap.size W1 X→Calls Tryz.prog 229 #[.slice a n c] X fun r w'=>r=.returned (.slice a n c)∧Below X.heap.size X w'):=fun X hX=>prg_set a c l n X (hl.keep (bU hb1 hX)) hgd
 have HCON:Hid (∀X,Below W1.heap.size W1 X→Calls Tryz.prog 228 #[.slice a n c,.func (.func 230) #[] #[.pointer (some ⟨w.heap.size,0,none⟩)]] X (BoolPost X V)):=fun X hX=>contR_any a n c l hgd X (hl.keep (bU hb1 hX)) w.heap.size ra rn r0 r1 r2 (bD hX y0) (bD hX y1) V (by
  have:=covB_one hgd (a:=ra) (n:=rn.toNat) (by omega)
  rw[show ((rn.toNat:Nat):Int)=rn by omega] at this
  show _=_
  rw[←this]
  exact hV.out)
 have hmf:∀(fn:Fn) (first cap:Array Value) (w:World),(Instr.makeFunc fn first cap).run Tryz.prog w=.ok (.func fn first cap) w:=fun _ _ _ _=>rfl
 have HW1:=bC hW1;have HW2:=bC hW2;have HB1:=bC hb1;have HB2:=bC hb2;clear hW1 hb1 p1 hW2 hb2 p2 hone r0 r1 r2 hl hgd hV;go_enter Tryz.func222,Tryz.ntmps222;go_upto_region 1 with(fail)
 rw[HW1.out];go_wp2_with fail;rw[HW2.out];refine HV1.out.mono ?_;rintro r w3 ⟨rfl,hb3⟩;have hb13:=bU HB2.out hb3;go_wp2_with (first
  |(go_at_call 229;(with_reducible refine(HSET.out _ hb13).mono ?_);rintro r w4 ⟨rfl,hb4⟩;have hb14:=bU hb13 hb4)
  |(go_at_call 228;(with_reducible refine(HCON.out _ hb14).mono ?_);rintro r w5 ⟨rfl,hb5⟩;have hb15:=bU hb14 hb5))
 go_ret;exact⟨rfl,bU HB1.out hb15⟩
def slSmall (s:Sl):Prop:=smallObs s.objs=true∧s.sd.length≤80∧∀k,k<4→(s.ts k).rd.length≤40
def MsPost (w:World) (V:Bool) (r:Ending) (w':World):Prop:=r=.returned (.bool V)∧w=w'
def DvqC (e c l:Int) (m:Bool) (n:Int) (o:Value):Array Value:=#[.int .i64 43,.int .i64 e,.slice none 0 0,.int .i64 c,.int .i64 l,.bool m,.int .i64 n,o]
def DvPx (w:World) (s:Sl) (co:Int) (L:List Ob) (r:Ending) (w':World):Prop:=
 ∃(n:Nat) (oa:Option Addr) (oc:Nat) (nx:Int),1≤n∧n≤L.length∧(∀x,L[n]?=some x→nx=x.id)∧(L.length≤n→nx=0)∧Hid (n=fitN 246 L)∧r=.returned (.agg (DvqC 0 co s.lv (decide (n<L.length)) nx (.slice oa n oc)))∧(∀W,Agree w.heap.size w' W→Obs W (.slice oa n oc) (L.take n))∧Below w.heap.size w w'
structure DvB (W4:World) (rb:Nat) (co lv:Int) (acc:List Ob) (k:Nat) (v:Value) (cs:List Value) (W:World):Prop where
 r:W.heap[rb]?=some (.cells (DvqC 0 co lv false 0 v) 53)
 own:W.ownsRow W4.heap.size 165 2 v k cs
 rows:CsL 2 (ObQF (DevF W4.heap.size v) W) cs (acc.take k)
 kp:Keeps (fun j=>j=rb) W4 W
theorem DvB.step {W4 wi w5 w6:World} {rb:Nat} {co lv:Int} {acc:List Ob} {k:Nat} {oa a6:Option Addr} {oc c6:Nat} {cs:List Value} (h:DvB W4 rb co lv acc k (.slice oa k oc) cs wi) (hrb:rb<W4.heap.size) {x:Ob} (hx:acc[k]?=some x)
  {U:TypeId} {X:Obj} {a5:Option Addr} {q c5:Nat} (hb5:Below wi.heap.size wi w5) (hq:x.val.length=q) (hown5:w5.ownsRow wi.heap.size U 1 (.slice a5 q c5) q (u8s x.val)) (hgr:(w5.alloc X).grownBy w6 (Value.slice oa k oc).ownBlock) (hnew:NewOr (w5.alloc X) (.slice oa k oc) (.slice a6 (k+1) c6))
  (hown6:w6.ownsRow W4.heap.size 165 2 (.slice a6 (k+1) c6) (k+1) (cs++[.int .i64 x.id,.slice a5 q c5])):
  DvB W4 rb co lv acc (k+1) (.slice a6 (k+1) c6) (cs++[.int .i64 x.id,.slice a5 q c5]) (w6.setCell ⟨rb,7,none⟩ (.slice a6 (k+1) c6)):=by
 have hz:=h.kp.size;obtain⟨s1,s2,s3⟩:=devStep (y0:=x.id) (by omega) h.own h.rows hb5 hq hown5 hgr hnew;have hk:Keeps (fun j=>j=rb) w6 (w6.setCell ⟨rb,7,none⟩ (.slice a6 (k+1) c6)):=(Keeps.refl _ _).set _ _ rfl;have hr6:w6.heap[rb]?=some (.cells (DvqC 0 co lv false 0 (.slice oa k oc)) 53):=by rw[s3 rb hrb];exact h.r
 refine⟨hpSetP hr6 rfl,bF hown6 hk (fun j hj e=>by have:=(hown6.lt j hj).1;omega),?_,?_⟩
 ·rw [bT hx]
  exact CsL.mono (fun r y hy=>ObQF.keeps (F:=DevF W4.heap.size (.slice a6 (k+1) c6)) (hk.mono (fun j _ e=>.inr (by omega))) (fun _ _ e=>e) r y hy) _ _ s1
 ·have hk6:Keeps (fun j=>j=rb) W4 w6:=⟨s2.os.trans h.kp.os,s2.tape.trans h.kp.tape,s2.output.trans h.kp.output,Nat.le_trans h.kp.size s2.size,fun i hi hn=>(s3 i hi).trans (h.kp.block i hi hn)⟩
  exact hk6.trans hk (fun _ _ e=>e)
theorem DvB.ends {w W4 wi w8:World} {rb zb:Nat} {co:Int} {s:Sl} {acc:List Ob} {m:Nat} {oa:Option Addr} {oc:Nat} {cs:List Value} {C:Array Value} {nx:Int} (h:DvB W4 rb co s.lv acc m (.slice oa m oc) cs wi) (hrb:rb<W4.heap.size) (hzb:zb<W4.heap.size) (hk8:Keeps (fun j=>j=rb∨j=zb) wi w8) (hbel:Below w.heap.size w W4) (hrw:w.heap.size≤rb) (hzw:w.heap.size≤zb) (h1:1≤m) (hm:m≤acc.length)
  (hn1:∀x,acc[m]?=some x→nx=x.id) (hn2:acc.length≤m→nx=0) (hn3:m=fitN 246 acc) (hC:C=DvqC 0 co s.lv (decide (m<acc.length)) nx (.slice oa m oc)):DvPx w s co acc (.returned (.agg C)) w8:=by
 subst hC;have hz:=hbel.size;refine⟨m,oa,oc,nx,h1,hm,hn1,hn2,hn3,rfl,fun W hW=>?_,(hbel.trans (h.kp.below hz (fun j hj e=>by omega))).trans (hk8.below (Nat.le_trans hz h.kp.size) (fun j hj e=>by omega))⟩;have o8:=bF h.own hk8 (fun j hj e=>by have:=(h.own.lt j hj).1;omega);have r8:=CsL.mono (fun r y hy=>ObQF.keeps (F:=DevF W4.heap.size (.slice oa m oc)) (F2:=DevF W4.heap.size (.slice oa m oc)) (hk8.mono (fun j _ e=>.inr (by omega))) (fun _ _ e=>e) r y hy) _ _ h.rows;exact Obs.of_csl (own_agree o8 hz hW) (CsL.mono (fun r y hy=>ObQF.agree hz hW r y hy) _ _ r8) (by rw[List.length_take];omega)
theorem DvB.old {W4 wi w5 w6:World} {rb:Nat} {co lv:Int} {acc:List Ob} {k:Nat} {oa:Option Addr} {oc:Nat} {cs:List Value} (h:DvB W4 rb co lv acc k (.slice oa k oc) cs wi) (hrb:rb<W4.heap.size) {X:Obj} (hb5:Below wi.heap.size wi w5) (hgr:(w5.alloc X).grownBy w6 (Value.slice oa k oc).ownBlock):
  w6.heap[rb]?=some (.cells (DvqC 0 co lv false 0 (.slice oa k oc)) 53):=by
 have h1:=bB (bB h.r hb5) (bal'' w5 X);refine bG h1 (Keeps.of_grown hgr (fun k hk=>hk)) (fun e=>?_);have:=(h.own.lt rb e).1;omega
def DvPy (w:World) (s:Sl) (co:Int) (L:List Ob) (r:Ending) (w':World):Prop:=(L=[]∧TabPostD w 43 2 [] r w')∨(L≠[]∧DvPx w s co L r w')
abbrev bM:=@rdyH
abbrev bV:=@results_ct_row
abbrev cA:=@setS
abbrev cC:=@wpList_load_at
abbrev cQ:=@info8
abbrev cR:=@tkD
end Go.Proofs.YtoaoejaodhedaaaGreat
