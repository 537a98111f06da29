import Derived.Test.YtoaoejaodhedaaaGreatTA03
namespace Go.Proofs.YtoaoejaodhedaaaGreat
open Go.RowKit
def qPr:Rq:=⟨3,0,1,0,0⟩
theorem TG:qPr.ok=true:=by kernel_rfl
def InS (gm gl ob:Nat) (P:Nat→Prop) (c:Cf) (sv:Value) (f:Fx) (i:Nat) (sc:Sc) (t0:Int) (wc W0:World) (m:Nat) (D:Bool) (W:World):Prop:=
 ∃d kk,nj gm gl (ax P W0 W) c sv f (QQ d i) kk W∧(Keeps P wc W∧W0.heap.size≤W.heap.size)∧kk≤1+m*100000001∧(D=false→Ft sc m t0 d)∧(D=true→J8 sc m t0 d)∧
  (∃v a1 a2 a3 a4 a5 a6 a7 a8,W.heap[ob]?=some (.cells #[.int .i64 v,a1,a2,a3,a4,a5,a6,a7,a8] 55)∧(D=true→v=d.x.out.verdict))
theorem YN {l:List Nat} (h:l≠[]) (b:¬1<l.length):l.length=1:=by
 cases l with
 |nil=>exact absurd rfl h
 |cons a t=>simp only[List.length_cons] at b ⊢;omega
theorem T7 {v:Int} (h:v=1∨v=2):jD v=2:=by rcases h with e|e<;>subst e<;>rfl
