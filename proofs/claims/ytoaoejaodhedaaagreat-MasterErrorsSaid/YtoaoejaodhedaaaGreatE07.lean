/-
 Texts 7 of the claim.
-/
import Derived.Test.YtoaoejaodhedaaaGreatE04
import Derived.Deep.RegionHeldLaw
import Derived.BigQuiet
import Derived.Deep.RegionLaw
import Derived.Deep.CutRange
import Derived.Deep.CutBlock
import Derived.Laws.Rows
import Derived.Test.YtoaoejaodhedaaaGreatE05
import Derived.Test.YtoaoejaodhedaaaGreatE06
namespace Go.Proofs.YtoaoejaodhedaaaGreat
open Go.RowKit
end Go.Proofs.YtoaoejaodhedaaaGreat

namespace Go
section
variable {P:Program} {ops:Array Oper} {Q:Exit→Act→World→Prop} {md:Region.Mode} {S S':World→Prop}
theorem wpAnyH_takeD {i d:Nat} {oi:Oper} {v:Value} {fuel:Nat} {listed:Array Bool} {a:Act} {w:World} (hi:ops[i]?=some oi)
  (hs:Region.noSelect ops=true) (hf:Region.free md ops listed i=true) (hr:(Region.ready md ops listed).contains i=true)
  (hQ:∀c a w,Q (.panic c) (a.put oi.dst v) w→Q (.panic c) a w) (hd:oi.dst=some d) (hy:YieldsIf P ops S oi v a) (hS:S w)
  (h:wpAnyH P md ops Q S fuel (listed.setIfInBounds i true) {a with tmps:=a.tmps.setIfInBounds d v} w):wpAnyH P md ops Q S (fuel+1) listed a w:=
 wpAnyH_take hi hs hf hr hQ hy hS (by rw[hd];exact h)
theorem tkD (i d:Nat) {oi:Oper} {v:Value} {fuel:Nat} {listed:Array Bool} {a:Act} {w:World} (hi:ops[i]?=some oi)
  (hb:(Region.noSelect ops&&Region.free md ops listed i&&(Region.ready md ops listed).contains i)=true)
  (hQ:∀c a w,Q (.panic c) (a.put oi.dst v) w→Q (.panic c) a w) (hd:oi.dst=some d) (hw:Region.wanted oi (yielded ops a.tmps)=true) (hS:S w)
  (hy:∀w,S w→(execOp a.eval oi).run P w=.ok (.value v) w)
  (h:wpAnyH P md ops Q S fuel (listed.setIfInBounds i true) {a with tmps:=a.tmps.setIfInBounds d v} w):wpAnyH P md ops Q S (fuel+1) listed a w:=by
 simp only[Bool.and_eq_true] at hb
 exact wpAnyH_takeD hi hb.1.1 hb.1.2 hb.2 hQ hd (.inl ⟨hw,hy⟩) hS h
theorem setS {α:Type}:(∀(l:List α) (i:Nat) (a:α),l.toArray.setIfInBounds i a=(l.set i a).toArray)∧(∀(x:α) (l:List α) (a:α),(x::l).set 0 a=a::l)∧(∀(x:α) (l:List α) (i:Nat) (a:α),(x::l).set (i+1) a=x::l.set i a):=
 ⟨fun _ _ _=>List.setIfInBounds_toArray ..,fun _ _ _=>rfl,fun _ _ _ _=>rfl⟩
theorem tkE (i d:Nat) {oi:Oper} {v:Value} {fuel:Nat} {listed:Array Bool} {a:Act} {w:World} (hi:ops[i]?=some oi) (hd:oi.dst=some d)
  (h:wpAnyH P md ops Q S fuel (listed.setIfInBounds i true) {a with tmps:=a.tmps.setIfInBounds d v} w)
  (hb:(Region.noSelect ops&&Region.free md ops listed i&&(Region.ready md ops listed).contains i)=true:=by kernel_rfl)
  (hQ:∀c a w,Q (.panic c) (a.put oi.dst v) w→Q (.panic c) a w:=by exact fun _ _ _ h=>h) (hw:Region.wanted oi (yielded ops a.tmps)=true:=by rfl) (hS:S w:=by assumption)
  (hy:∀w,S w→(execOp a.eval oi).run P w=.ok (.value v) w:=by (intro w hSw;(try dsimp only at hSw);go_simp;try (with_reducible rfl))):wpAnyH P md ops Q S (fuel+1) listed a w:=
 tkD i d hi hb hQ hd hw hS hy h
theorem tkU (i d:Nat) {oi:Oper} {fuel:Nat} {listed:Array Bool} {a:Act} {w:World} (hi:ops[i]?=some oi) (hd:oi.dst=some d)
  (h:wpAnyH P md ops Q S fuel (listed.setIfInBounds i true) {a with tmps:=a.tmps.setIfInBounds d undef} w)
  (hs:Region.noSelect ops=true:=by kernel_rfl) (hf:Region.free md ops listed i=true:=by kernel_rfl) (hr:(Region.ready md ops listed).contains i=true:=by kernel_rfl)
  (hQ:∀c a w,Q (.panic c) (a.put oi.dst undef) w→Q (.panic c) a w:=by exact fun _ _ _ h=>h) (hy:YieldsIf P ops S oi undef a:=by exact Or.inr ⟨by rfl,rfl⟩) (hS:S w:=by assumption):wpAnyH P md ops Q S (fuel+1) listed a w:=
 wpAnyH_takeD hi hs hf hr hQ hd hy hS h
theorem rdyH (i:Nat) {o:Oper} {fuel:Nat} {listed:Array Bool} {a:Act} {w:World} (ho:ops[i]?=some o)
  (h:∀K':Act→World→Prop,Shut (∀a w,S w→(S w→wpAnyH P md ops Q S fuel (listed.setIfInBounds i true) a w)→K' a w)→if Region.wanted o (yielded ops a.tmps)=true then Oper.wp P o a w K' Q else K' (a.put o.dst undef) w)
  (hr:Region.ready md ops listed=[i]:=by kernel_rfl):wpAnyH P md ops Q S (fuel+1) listed a w:=
 wpAnyH_ready hr (by simp) (AllReadyH.cons ho h AllReadyH.nil)
end
end Go

namespace Go.Proofs.YtoaoejaodhedaaaGreat
open Go.RowKit
theorem CsL.app {α:Type} {sz:Nat} {Q:List Value→α→Prop}:∀(l:List α) (cs:List Value),CsL sz Q cs l→∀(l':List α) (cs':List Value),CsL sz Q cs' l'→CsL sz Q (cs++cs') (l++l')
 |[],cs,h,l',cs',h'=>by obtain rfl:cs=[]:=h;exact h'
 |x::l,cs,h,l',cs',h'=>by
  obtain⟨r,k,rfl,h1,h2,h3⟩:=h
  exact⟨r,k++cs',by simp,h1,h2,CsL.app l k h3 l' cs' h'⟩
theorem infoInt:(Tryz.prog.info? 3).map (fun i=>(i.zero,i.size,i.bytes))=some (some (.int .i64 0),1,8):=by kernel_rfl
structure Dv.small (d:Dv):Prop where
 ob:d.objs.length≤1280
 vs:∀y∈d.objs,y.val.length≤300
 sd:d.sd.length≤300
 mp:∀k,k<4→(d.ts k).map.length≤1024
theorem run_loadVar_at {P:Program} (w:World) (a:Addr) (ty:TypeId) (cs:Array Value) (d:TypeDesc) (hc:∀j v,cs.toList[j]?=some v→w.cell? (a.add j)=some v)
  (hu:P.underlying ty=some d) (hd:(match d with|.struct _|.array _ _=>true|_=>false)=true) (hi:(P.info? ty).map (·.size)=some cs.size):
  (loadVar ty a).run P w=.ok (.agg cs) w:=by
 have hl:(loadCells a cs.toList.length).run P w=.ok cs.toList.toArray w:=run_loadCells_list (P:=P) w a cs.toList hc
 cases hq:P.info? ty with
 |none=>simp [hq] at hi
 |some i=>
  have hs:i.size=cs.size:=by simpa [hq] using hi
  have hagg:(isAgg ty).run P w=.ok true w:=by
   unfold isAgg
   rw[Sem.run_bind,run_underlying hu w]
   cases d<;>simp_all
  simp only[Array.length_toList,Array.toArray_toList] at hl
  simp [loadVar,Sem.run_bind,hagg,sizeOf,typeInfo,hq,hs,hl]
theorem wpList_load_at {P:Program} {ops:Array Oper} {rest:List Oper} {o:Oper} {a:Act} {w:World} {Q:Exit→Act→World→Prop} (hgd:o.guard=none) (ty:TypeId) (x:Operand) (ho:o.op=.load ty x)
  (ad:Addr) (hx:a.eval x=.pointer (some ad)) (cs:Array Value) (d:TypeDesc) (hc:∀j v,cs.toList[j]?=some v→w.cell? (ad.add j)=some v)
  (hu:P.underlying ty=some d) (hd:(match d with|.struct _|.array _ _=>true|_=>false)=true) (hi:(P.info? ty).map (·.size)=some cs.size)
  (h:wpList P ops Q rest (a.put o.dst (.agg cs)) w):wpList P ops Q (o::rest) a w:=
 wpList_plain hgd fun K hK=>by
  unfold Oper.wp execOp
  simp only[ho,hx,Instr.loadAt,Instr.sureAddr,Sem.run_bind,Sem.run_pure,Result.andThen_ok,run_loadVar_at w ad ty cs d hc hu hd hi]
  exact hK _ _ h
theorem results_ct_row {P:Program} {fn:Func} {p u:Tmp} {ty:TypeId} (h:fn.results=#[.cell p ty,.tmp u]) (tmps:Array Value) (w:World) (g:Nat) (t:TypeId) (cs:Array Value) (fr:Nat×Nat) (d:TypeDesc)
  (hp:tmps.getD p undef=.pointer (some ⟨g,0,none⟩)) (hg:w.heap[g]?=some (.cells cs t fr))
  (hu:P.underlying ty=some d) (hd:(match d with|.struct _|.array _ _=>true|_=>false)=true) (hi:(P.info? ty).map (·.size)=some cs.size):
  (results fn tmps).run P w=.ok (.tuple #[.agg cs,tmps.getD u undef]) w:=by
 rw[results_cell_tmp h,hp]
 simp [asAddr,run_loadVar_row w g t ty cs fr d hg hu hd hi]
def mkR (fn e:Int) (d:List UInt8):Rp:=⟨fn,e,d,0,0,false,0,[]⟩
def wordV (t a v:Int):Int:=(v+7919*a+104729*t)%65536
theorem wordV_bd (t a v:Int):0≤wordV t a v∧wordV t a v<65536:=by unfold wordV;omega
def regsD (t a v:Int):Nat→List UInt8
 |0=>[]
 |n+1=>regsD t a v n++[UInt8.ofNat ((wordV t (a+(n:Nat)) v).toNat/256),UInt8.ofNat ((wordV t (a+(n:Nat)) v).toNat%256)]
theorem regsD_len (t a v:Int):∀n,(regsD t a v n).length=2*n
 |0=>rfl
 |n+1=>by rw[regsD,List.length_append,regsD_len t a v n];show 2*n+2=_;omega
def bitV (t a v:Int) (i:Nat):Nat:=(wordV t (a+(i:Nat)) v).toNat%2
theorem bitV_bd (t a v:Int) (i:Nat):bitV t a v i<2:=Nat.mod_lt _ (by decide)
def bval (t a v:Int) (k:Nat):Nat→Nat
 |0=>0
 |m+1=>bval t a v k m+bitV t a v (8*k+m)*2^m
theorem bval_lt (t a v:Int) (k:Nat):∀m,bval t a v k m<2^m
 |0=>Nat.zero_lt_one
 |m+1=>by
  have h1:=bval_lt t a v k m
  have h2:=bitV_bd t a v (8*k+m)
  rw[bval,Nat.pow_succ]
  rcases (show bitV t a v (8*k+m)=0∨bitV t a v (8*k+m)=1 by omega) with e|e<;>rw[e]<;>omega
def bitsL (t a v:Int) (N i:Nat):List UInt8:=(List.range N).map fun k=>UInt8.ofNat (bval t a v k (min 8 (i-8*k)))
theorem bitsL_len (t a v:Int) (N i:Nat):(bitsL t a v N i).length=N:=by unfold bitsL;rw[List.length_map,List.length_range]
theorem bitsL_at {t a v:Int} {N i k:Nat} (h:k<N):(bitsL t a v N i)[k]?=some (UInt8.ofNat (bval t a v k (min 8 (i-8*k)))):=by
 unfold bitsL
 rw[List.getElem?_map,List.getElem?_range h]
 rfl
theorem bitsL_zero (t a v:Int) (N:Nat):bitsL t a v N 0=List.replicate N 0:=by
 refine List.ext_getElem? fun k=>?_
 by_cases h:k<N
 ·rw [bitsL_at h,List.getElem?_replicate,if_pos h]
  have:min 8 (0-8*k)=0:=by omega
  rw[this]
  rfl
 ·rw [List.getElem?_eq_none (by rw[bitsL_len];omega),List.getElem?_eq_none (by rw[List.length_replicate];omega)]
theorem bitsL_more {t a v:Int} {N i:Nat} (h:i≤8*N):bitsL t a v N i++[0]=bitsL t a v (N+1) i:=by
 refine List.ext_getElem? fun k=>?_
 by_cases h1:k<N
 ·rw [List.getElem?_append_left (by rw[bitsL_len];exact h1),bitsL_at h1,bitsL_at (by omega)]
 ·by_cases h2:k=N
  ·subst h2
   rw[List.getElem?_append_right (by rw[bitsL_len];exact Nat.le_refl _),bitsL_len,Nat.sub_self,bitsL_at (Nat.lt_succ_self _)]
   have:min 8 (i-8*k)=0:=by omega
   rw[this]
   rfl
  ·rw [List.getElem?_eq_none (by rw[List.length_append,bitsL_len];show N+1≤k;omega),List.getElem?_eq_none (by rw[bitsL_len];omega)]
theorem bitsL_set {t a v:Int} {N i:Nat} (h:i/8<N):(bitsL t a v N i).set (i/8) (UInt8.ofNat (bval t a v (i/8) (i%8)+bitV t a v i*2^(i%8)))=bitsL t a v N (i+1):=by
 refine List.ext_getElem? fun k=>?_
 rw[List.getElem?_set]
 by_cases h1:i/8=k
 ·subst h1
  rw[if_pos rfl,if_pos (by rw[bitsL_len];exact h),bitsL_at h]
  have e:min 8 (i+1-8*(i/8))=i%8+1:=by omega
  rw[e,bval]
  have e2:8*(i/8)+i%8=i:=by omega
  rw[e2]
 ·rw [if_neg h1]
  by_cases h2:k<N
  ·rw [bitsL_at h2,bitsL_at h2]
   have e:min 8 (i-8*k)=min 8 (i+1-8*k):=by omega
   rw[e]
  ·rw [List.getElem?_eq_none (by rw[bitsL_len];omega),List.getElem?_eq_none (by rw[bitsL_len];omega)]
theorem bitsL_cur {t a v:Int} {N i:Nat} (h:i/8<N):(bitsL t a v N i)[i/8]?=some (UInt8.ofNat (bval t a v (i/8) (i%8))):=by
 rw[bitsL_at h]
 have e:min 8 (i-8*(i/8))=i%8:=by omega
 rw[e]
def covB (rd:List (Int×Int)) (a:Int) (n:Nat):Bool:=(List.range n).all fun i=>inR rd (a+(i:Nat))
theorem covB_iff (rd:List (Int×Int)) (a:Int) (n:Nat):covB rd a n=true↔allR rd a n:=by
 unfold covB allR
 rw[List.all_eq_true]
 exact⟨fun h i hi=>h i (List.mem_range.2 hi),fun h i hi=>h i (List.mem_range.1 hi)⟩
def Tbl.ans (t:Tbl) (q:Rq) (v:Int):Rp:=
 if t.sup=false then mkR q.fn 1 [] else if t.most<q.qty then mkR q.fn 3 [] else if covB t.rd q.addr q.qty.toNat=false then mkR q.fn 2 []
 else mkR q.fn 0 (if q.fn≤2 then bitsL q.fn q.addr v ((q.qty.toNat+7)/8) q.qty.toNat else regsD q.fn q.addr v q.qty.toNat)
def grI (c:Int):Int:=if c=1 then 2 else if c=2 then 127 else 255
def selO (l:List Ob) (lo hi:Int):List Ob:=l.filter fun x=>decide (lo≤x.id)&&decide (x.id≤hi)
def fitN (r:Nat):List Ob→Nat
 |[]=>0
 |x::l=>if 2+x.val.length≤r then fitN (r- (2+x.val.length)) l+1 else 0
theorem fitN_le:∀(l:List Ob) (r:Nat),fitN r l≤l.length
 |[],_=>Nat.le_refl _
 |x::l,r=>by
  rw[fitN]
  split
  ·exact Nat.succ_le_succ (fitN_le l _)
  ·exact Nat.zero_le _
theorem fitN_size:∀(l:List Ob) (r:Nat),obSize (l.take (fitN r l))≤r
 |[],r=>by rw[List.take_nil];exact Nat.zero_le _
 |x::l,r=>by
  rw[fitN]
  split
  ·rename_i h
   rw[List.take_succ_cons]
   have:=fitN_size l (r- (2+x.val.length))
   show 2+x.val.length+obSize (l.take _)≤r
   omega
  ·exact Nat.zero_le _
theorem fitN_max:∀(l:List Ob) (r m:Nat),obSize (l.take m)≤r→m≤l.length→m≤fitN r l
 |[],r,m,_,h=>h
 |x::l,r,0,_,_=>Nat.zero_le _
 |x::l,r,m+1,h,hl=>by
  rw[List.take_succ_cons] at h
  have h:2+x.val.length+obSize (l.take m)≤r:=h
  rw[fitN,if_pos (by omega)]
  have:=fitN_max l (r- (2+x.val.length)) m (by omega) (Nat.le_of_succ_le_succ hl)
  omega
theorem selO_yes {l:List Ob} {k:Nat} {x:Ob} {lo hi:Int} (hx:l[k]?=some x) (h1:lo≤x.id) (h2:x.id≤hi):selO (l.take (k+1)) lo hi=selO (l.take k) lo hi++[x]:=by
 unfold selO
 rw[List.take_add_one,hx,List.filter_append]
 simp [h1,h2]
theorem selO_no {l:List Ob} {k:Nat} {x:Ob} {lo hi:Int} (hx:l[k]?=some x) (h:¬(lo≤x.id∧x.id≤hi)):selO (l.take (k+1)) lo hi=selO (l.take k) lo hi:=by
 unfold selO
 rw[List.take_add_one,hx,List.filter_append]
 have:(decide (lo≤x.id)&&decide (x.id≤hi))=false:=by
  cases e1:decide (lo≤x.id)<;>cases e2:decide (x.id≤hi)<;>first|rfl|exact absurd ⟨of_decide_eq_true e1,of_decide_eq_true e2⟩ h
 simp [this]
theorem obSize_mono:∀(l:List Ob) (m n:Nat),m≤n→obSize (l.take m)≤obSize (l.take n)
 |[],m,n,_=>by rw[List.take_nil,List.take_nil];exact Nat.le_refl _
 |x::l,0,n,_=>Nat.zero_le _
 |x::l,m+1,0,h=>by omega
 |x::l,m+1,n+1,h=>by
  have:=obSize_mono l m n (by omega)
  rw[List.take_succ_cons,List.take_succ_cons]
  show 2+x.val.length+obSize (l.take m)≤2+x.val.length+obSize (l.take n)
  omega
theorem fitN_is {l:List Ob} {r m:Nat} (h1:obSize (l.take m)≤r) (hm:m≤l.length) (h2:m=l.length∨¬obSize (l.take (m+1))≤r):m=fitN r l:=by
 have a:=fitN_max l r m h1 hm
 have b:=fitN_le l r
 rcases h2 with h2|h2
 ·omega
 ·by_cases e:m+1≤fitN r l
  ·have c:=obSize_mono l _ _ e
   have d:=fitN_size l r
   omega
  ·omega
theorem info8:(Tryz.prog.info? 53).map (·.size)=some 8:=by kernel_rfl
def TabPost (w:World) (fn e:Int) (r:Ending) (w':World):Prop:=
 ∃(D:List UInt8) (da:Option Addr) (dc:Nat),r=.returned (.agg (#[.int .i64 fn,.int .i64 e,(.slice da D.length dc),.int .i64 0,.int .i64 0,.bool false,.int .i64 0,.slice none 0 0]))∧D.length≤250∧w'.ownsRow w.heap.size 5 1 (.slice da D.length dc) D.length (u8s D)∧Below w.heap.size w w'
def TabPostD (w:World) (fn e:Int) (D:List UInt8) (r:Ending) (w':World):Prop:=
 ∃(da:Option Addr) (dc:Nat),r=.returned (.agg (#[.int .i64 fn,.int .i64 e,(.slice da D.length dc),.int .i64 0,.int .i64 0,.bool false,.int .i64 0,.slice none 0 0]))∧D.length≤250∧w'.ownsRow w.heap.size 5 1 (.slice da D.length dc) D.length (u8s D)∧Below w.heap.size w w'
theorem TabPostD.post {w w':World} {fn e:Int} {D:List UInt8} {r:Ending} (h:TabPostD w fn e D r w'):TabPost w fn e r w':=⟨D,h⟩
theorem TabPost.exc {w W1 W2 W3:World} {fn e:Int} {C:Array Value} (hb1:Below w.heap.size w W1) (hz:w.heap.size+4≤W1.heap.size) (h2:Keeps (fun j=>w.heap.size≤j) W1 W2) (h3:Keeps (fun j=>w.heap.size≤j) W2 W3) (hC:C=#[.int .i64 fn,.int .i64 e,(.slice none 0 0),.int .i64 0,.int .i64 0,.bool false,.int .i64 0,.slice none 0 0]):TabPostD w fn e [] (.returned (.agg C)) W3:=by
 subst hC
 exact⟨none,0,rfl,Nat.zero_le _,World.ownsRow_nil _ _ _ _,(hb1.trans (h2.below hb1.size (fun j hj e=>by omega))).trans (h3.below (by have:=hb1.size;have:=h2.size;omega) (fun j hj e=>by omega))⟩
structure TbL (W1:World) (rb zb:Nat) (fn:Int) (D:List UInt8) (v:Value) (W:World):Prop where
 r:W.heap[rb]?=some (.cells (#[.int .i64 fn,.int .i64 0,v,.int .i64 0,.int .i64 0,.bool false,.int .i64 0,.slice none 0 0]) 53)
 z:W.heap[zb]?=some (.cells (#[.int .i64 0,.int .i64 0,(.slice none 0 0),.int .i64 0,.int .i64 0,.bool false,.int .i64 0,.slice none 0 0]) 53)
 own:W.ownsRow W1.heap.size 5 1 v D.length (u8s D)
 kp:Keeps (fun j=>j=rb) W1 W
theorem u8s_setZ (l:List UInt8) (i:Nat) (x:UInt8):(u8s l).set i (byteV x)=u8s (l.set i x):=by simp [u8s,List.map_set]
theorem ownb_cellZ {w:World} {base:Nat} {e:TypeId} {g n cap:Nat} {l:List UInt8} (h:w.ownsRow base e 1 (.slice (some ⟨g,0,none⟩) n cap) n (u8s l)) (i:Nat) (hi:i<n):
  w.cell? ⟨g,i,none⟩=some (.int .u8 ((l.getD i 0).toNat:Int)):=by
 have hl:l.length=n:=by simpa using h.1
 rw[h.cellAt i (by omega),u8s_get l i (by omega)]
theorem SlC_tab (s:Sl) (rv:Nat→Value) (ov sv:Value) {W:World} {b:Nat} (h:W.heap[b]?=some (.cells (SlC s rv ov sv) 68)) {k:Nat} (hk:k<4):
  W.cell? ⟨b,3+k*3,none⟩=some (.bool (s.ts k).sup)∧W.cell? ⟨b,3+k*3+1,none⟩=some (rv k)∧W.cell? ⟨b,3+k*3+2,none⟩=some (.int .i64 (s.ts k).most):=by
 rw[hpCell h,hpCell h,hpCell h]
 match k,hk with
 |0,_=>exact⟨rfl,rfl,rfl⟩
 |1,_=>exact⟨rfl,rfl,rfl⟩
 |2,_=>exact⟨rfl,rfl,rfl⟩
 |3,_=>exact⟨rfl,rfl,rfl⟩
theorem rgsFrom_lo:∀{l:List (Int×Int)} {e:Int},rgsFrom e l=true→∀y∈l,e<y.1
 |[],_,_,y,hy=>by cases hy
 |x::l,e,h,y,hy=>by
  by_cases hx:rgOk e x
  ·rw [rgsFrom_ok hx] at h
   obtain⟨h1,h2,h3,h4,h5⟩:=hx
   rcases List.mem_cons.1 hy with rfl|hy
   ·omega
   ·have:=rgsFrom_lo h y hy
    omega
  ·rw [rgsFrom_bad hx] at h
   cases h
theorem rgsFrom_sep:∀{l:List (Int×Int)} {e:Int},rgsFrom e l=true→∀x∈l,∀y∈l,x=y∨x.1+x.2<y.1∨y.1+y.2<x.1
 |[],_,_,x,hx,_,_=>by cases hx
 |z::l,e,h,x,hx,y,hy=>by
  by_cases hz:rgOk e z
  ·rw [rgsFrom_ok hz] at h
   have h1:=List.mem_cons.1 hx
   have h2:=List.mem_cons.1 hy
   clear hx hy
   rcases h1 with e1|e1
   ·rcases h2 with e2|e2
    ·exact .inl (e1.trans e2.symm)
    ·rw [e1]
     exact .inr (.inl (rgsFrom_lo h y e2))
   ·rcases h2 with e2|e2
    ·rw [e2]
     exact .inr (.inr (rgsFrom_lo h x e1))
    ·exact rgsFrom_sep h x e1 y e2
  ·rw [rgsFrom_bad hz] at h
   cases h
def oneB (a n:Int) (x:Int×Int):Bool:=decide (x.1≤a)&&decide (a+n≤x.1+x.2)
theorem inR_mem {l:List (Int×Int)} {a:Int} (h:inR l a=true):∃x∈l,x.1≤a∧a-x.1<x.2:=by
 obtain⟨x,h1,h2⟩:=List.any_eq_true.1 h
 simp only[Bool.and_eq_true,decide_eq_true_eq] at h2
 exact⟨x,h1,h2⟩
theorem covB_one {l:List (Int×Int)} (hl:rgsFrom (-1) l=true) {a:Int} {n:Nat} (hn:1≤n):covB l a n=l.any (oneB a (n:Int)):=by
 rw[Bool.eq_iff_iff,covB_iff,List.any_eq_true]
 constructor
 ·intro h
  obtain⟨x,x1,x2,x3⟩:=inR_mem (h 0 (by omega))
  refine⟨x,x1,?_⟩
  have key:∀i,i<n→a+(i:Nat)<x.1+x.2:=by
   intro i
   induction i with
   |zero=>intro _;omega
   |succ i ih=>
    intro hi
    have h1:=ih (by omega)
    obtain⟨y,y1,y2,y3⟩:=inR_mem (h (i+1) hi)
    rcases rgsFrom_sep hl x x1 y y1 with e|e|e
    ·subst e
     omega
    ·omega
    ·omega
  have:=key (n-1) (by omega)
  unfold oneB
  rw[Bool.and_eq_true,decide_eq_true_eq,decide_eq_true_eq]
  omega
 ·rintro ⟨x,x1,x2⟩ i hi
  unfold oneB at x2
  rw[Bool.and_eq_true,decide_eq_true_eq,decide_eq_true_eq] at x2
  refine List.any_eq_true.2 ⟨x,x1,?_⟩
  rw[Bool.and_eq_true,decide_eq_true_eq,decide_eq_true_eq]
  omega
def IdxPost (V:Bool) (r:Ending):Prop:=∃i:Int,r=.returned (.int .i64 i)∧(0≤i↔V=true)
end Go.Proofs.YtoaoejaodhedaaaGreat
