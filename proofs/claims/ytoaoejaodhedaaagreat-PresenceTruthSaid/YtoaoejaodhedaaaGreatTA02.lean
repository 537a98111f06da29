import Derived.Test.YtoaoejaodhedaaaGreatTA01
import Derived.Test.YtoaoejaodhedaaaGreatT30
namespace Go.Proofs.YtoaoejaodhedaaaGreat
open Go.RowKit
variable {N n re:Nat}
def iA (u:Nat→Bool):Nat→Nat
 |0=>0
 |i+1=>if u i=true then 0 else iA u i+1
theorem AS {u:Nat→Bool} {n:Nat}:∀m,(∀i,i<m→u (n+i)=false)→m≤iA u (n+m)
 |0,_=>Nat.zero_le _
 |m+1,h=>by
  have b:=AS m (fun i hi=>h i (by omega));have a:=h m (by omega);show m+1≤iA u ((n+m)+1);rw[iA,a,if_neg (by decide)];omega
theorem vK {u:Nat→Bool} (h:∀i,i<N+re+1→iA u (i+1)≤re) (d:n≤N):∃i,i≤re∧u (n+i)=true:=by
 rcases Classical.em (∃i,i≤re∧u (n+i)=true) with e|e
 ·exact e
 ·have a:=AS (u:=u) (n:=n) (re+1) (fun i hi=>by
   cases h2:u (n+i) with
   |false=>rfl
   |true=>exact absurd ⟨i,by omega,h2⟩ e)
  have c:=h (n+re) (by omega);have b:iA u (n+(re+1))=iA u (n+re+1):=rfl;omega
def Dg (a:At):Bool:=decide (a.fault=0∨a.fault=6∧a.ai≤750)
theorem wk (a:At):Dg a=true↔NA a:=decide_eq_true_iff
def qv (s:lg) (re:Nat):Prop:=∀i,i<s.aC.length+re+1→iA (fun j=>Dg (cA s.aC s.loop j)) (i+1)≤re
theorem qv.any {s:lg} (h:qv s re) (n:Nat):∃i,i≤re∧NA (cA s.aC s.loop (n+i)):=by
 by_cases j:n≤s.aC.length
 ·obtain ⟨i,b,a⟩:=vK h j
  exact⟨i,b,(wk _).1 a⟩
 ·by_cases c:s.aC.length=0∨s.loop=false
  ·refine ⟨0,Nat.zero_le _,?_⟩
   unfold cA;rw[if_pos (by rcases c with e|e;exact .inl e;exact .inr ⟨e,by omega⟩)];exact .inl rfl
  ·have d:0<s.aC.length:=by omega
   have f:=Nat.mod_lt n d;obtain⟨i,b,a⟩:=vK h (n:=n%s.aC.length) (by omega);refine⟨i,b,?_⟩;have a:=(wk _).1 a;have g:∀k,¬(s.aC.length=0∨(s.loop=false∧s.aC.length≤k)):=fun k e=>by
    rcases e with e|e
    ·omega
    ·exact c (.inr e.1)
   unfold cA at a ⊢;rw[if_neg (g _)] at a ⊢;rw[Nat.mod_add_mod] at a;exact a
