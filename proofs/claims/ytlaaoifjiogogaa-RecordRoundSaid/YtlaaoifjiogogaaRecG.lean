/-
  The contracts of the reference's comparisons of replies and outcomes, of the cuts, and of Strip.
-/
import Derived.Test.YtlaaoifjiogogaaRecF
import Derived.Deep.DeepCutAuto
namespace Go.Proofs.Ytlaaoifjiogogaa
open Go.RowKit

set_option maxRecDepth 100000 in
set_option maxHeartbeats 3200000 in
theorem same_any (f1 x1 : Int) (dv1 : Value) (c1 l1 : Int) (m1 : Bool) (n1 : Int) (ov1 : Value) (d1 : List UInt8) (o1 : List Ob) (f2 x2 : Int) (dv2 : Value) (c2 l2 : Int) (m2 : Bool) (n2 : Int) (ov2 : Value) (d2 : List UInt8) (o2 : List Ob) (w : World)
    (hd1 : Bs w dv1 d1) (ho1 : Obs w ov1 o1) (hd2 : Bs w dv2 d2) (ho2 : Obs w ov2 o2) (V : Bool) (hV : Hid (Rp.same ⟨f1, x1, d1, c1, l1, m1, n1, o1⟩ ⟨f2, x2, d2, c2, l2, m2, n2, o2⟩ = V)) :
    Calls Try.prog 44 #[.agg #[.int .i64 f1, .int .i64 x1, dv1, .int .i64 c1, .int .i64 l1, .bool m1, .int .i64 n1, ov1], .agg #[.int .i64 f2, .int .i64 x2, dv2, .int .i64 c2, .int .i64 l2, .bool m2, .int .i64 n2, ov2]] w fun r w' => r = .returned (.bool V) ∧ Below w.heap.size w w' := by
  have ss : Hid (∀ (W : World) (v : Value) (l : List UInt8), Bs W v l → (convert 22 9 v).run Try.prog W = .ok (.string ⟨l.toArray⟩) W) := fun W v l h => run_str Try.underlying22 Try.underlying5 h _ Try.underlying9
  have HD1 := hid hd1
  have HD2 := hid hd2
  have HO1 := hid ho1
  have HO2 := hid ho2
  have HS : Hid (Rp.same ⟨f1, x1, d1, c1, l1, m1, n1, o1⟩ ⟨f2, x2, d2, c2, l2, m2, n2, o2⟩ = (f1 == f2 && x1 == x2 && d1 == d2 && c1 == c2 && l1 == l2 && m1 == m2 && n1 == n2 && sameObs o1 o2)) := rfl
  have hV2 : Hid ((f1 == f2 && x1 == x2 && d1 == d2 && c1 == c2 && l1 == l2 && m1 == m2 && n1 == n2 && sameObs o1 o2) = V) := HS.out ▸ hV.out
  clear HS hV
  have B2 : ∀ X Y : Obj, Below w.heap.size w ((w.alloc X).alloc Y) := fun X Y => (bal' w X).alloc (by simp) Y
  replace B2 := hid B2
  have hconv : ∀ X Y : Obj, (convert 22 9 dv1).run Try.prog ((w.alloc X).alloc Y) = .ok (.string ⟨d1.toArray⟩) ((w.alloc X).alloc Y) := fun X Y => ss.out _ _ _ (HD1.out.keep (B2.out X Y))
  have hconv2 : ∀ X Y : Obj, (convert 22 9 dv2).run Try.prog ((w.alloc X).alloc Y) = .ok (.string ⟨d2.toArray⟩) ((w.alloc X).alloc Y) := fun X Y => ss.out _ _ _ (HD2.out.keep (B2.out X Y))
  have HSO : Hid (∀ X Y : Obj, Calls Try.prog 67 #[ov1, ov2] ((w.alloc X).alloc Y) fun r w' => r = .returned (.bool (sameObs o1 o2)) ∧ Below ((w.alloc X).alloc Y).heap.size ((w.alloc X).alloc Y) w') := fun X Y => sameObjects_any _ _ o1 o2 _ (HO1.out.keep (B2.out X Y)) (HO2.out.keep (B2.out X Y)) _ rfl
  clear hd1 hd2 ho1 ho2
  generalize sameObs o1 o2 = so at *
  go_enter Try.func44, Try.ntmps44
  go_wp2_with (first | (go_at_call 67; (with_reducible refine (HSO.out _ _).mono ?_); rintro r w1 ⟨rfl, hb1⟩))
  all_goals
    go_ret
    refine ⟨ret_bool ?_, by first | exact B2.out _ _ | exact bt (B2.out _ _) (by assumption) (Nat.le_refl _)⟩
    rw [← hV2.out]
    first | (simp [*]; done) | rfl

end Go.Proofs.Ytlaaoifjiogogaa
