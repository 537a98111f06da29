import Derived.Test.YtoaoejaodhedaaaGreatT03
namespace Go.Proofs.YtoaoejaodhedaaaGreat
open Go.RowKit
open Value renaming int→V
open IntKind renaming i64→J
set_option maxHeartbeats 400000
def jD (v:Int):Int:=if v==1 then 2 else if v==2 then 2 else if v==3 then 1 else if v==4 then 3 else if v==5 then 4 else 0
theorem rV (n:Int) (a b c d e f g i:Value) (w:World):
  Calls Tryz.prog 33 #[.agg #[V J n,a,b,c,d,e,f,g,i]] w fun r k=>r=.returned (V J (jD n))∧Below w.heap.size w k:=by
 have j:=(Below.refl w.heap.size w).alloc (Nat.le_refl _) (.cells #[V J n,a,b,c,d,e,f,g,i] 55);go_enter Tryz.func33,Tryz.ntmps33;go_wp2
 all_goals (go_ret;refine⟨oH ?_,j⟩;simp only[jD, *,↓reduceIte,Bool.false_eq_true])
theorem lX (w:World):
  Calls Tryz.prog 32 #[] w fun r a=>r=.returned (.agg #[V J 3,V J 0,V J 1,V J 0,V J 0])∧Below w.heap.size w a:=by
 go_enter Tryz.func32,Tryz.ntmps32;go_wp2;exact bodyPost_ret (v:=.agg #[V J 3,V J 0,V J 1,V J 0,V J 0]) (by simp [results,Tryz.results32,go_sem]) rfl ⟨rfl,(Below.refl _ _).alloc (Nat.le_refl _) _⟩
theorem fy (w:World):
  Calls Tryz.prog 31 #[] w fun r a=>r=.returned (.bool true)∧Below w.heap.size w a:=by
 have c:jD 2=2:=rfl;have e:jD 4=3:=rfl;go_enter Tryz.func31,Tryz.ntmps31;go_wp2_with (first|(go_at_call 33;refine(rV _ _ _ _ _ _ _ _ _ _).mono ?_;rintro r a ⟨rfl,b⟩)|(go_at_call 32;refine(lX _).mono ?_;rintro r a ⟨rfl,d⟩));go_ret;exact⟨rfl,bt (bt (by assumption) (by assumption) (Nat.le_refl _)) (by assumption) (Nat.le_refl _)⟩
