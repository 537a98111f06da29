/-
  The contract of receiver.New.
-/
import Derived.Test.YtoaajdbjlaffgaaTim
namespace Go.Proofs.Ytoaajdbjlaffgaa
open Go.RowKit

/-- A receiver's cells. -/
def RxNew (w : World) (b : Int) (r : Ending) (w' : World) : Prop :=
  ∃ g : Nat, r = .returned (.tuple #[.pointer (some ⟨g, 0, none⟩), .int .i64 0]) ∧ w.heap.size ≤ g ∧ w'.heap[g]? = some (.cells #[.int .i64 (charT b), .int .i64 (t15T b), .int .i64 (t35T b), .slice none 0 0, .int .i64 0, .int .i64 0, .int .i64 0, .bool false, .int .i64 0, .int .i64 0] 109) ∧ Below w.heap.size w w'

set_option maxRecDepth 100000 in
set_option maxHeartbeats 3200000 in
theorem rxnew_ok (b p : Int) (h : Hid (Okset b p)) (w : World) :
    Calls Try.prog 49 #[.agg #[.int .i64 b, .int .i64 p]] w (RxNew w b) := by
  obtain ⟨C, hC⟩ : ∃ C, charT b = C := ⟨_, rfl⟩
  obtain ⟨F, hF⟩ : ∃ F, t15T b = F := ⟨_, rfl⟩
  obtain ⟨T, hT⟩ : ∃ T, t35T b = T := ⟨_, rfl⟩
  have HCH : Hid (∀ W, Calls Try.prog 48 #[.agg #[.int .i64 b, .int .i64 p]] W fun r w' => r = .returned (.int .i64 C) ∧ Below W.heap.size W w') := fun W => by rw [← hC]; exact char_ok b p h W
  have HT3 : Hid (∀ W, Calls Try.prog 47 #[.agg #[.int .i64 b, .int .i64 p]] W fun r w' => r = .returned (.int .i64 T) ∧ Below W.heap.size W w') := fun W => by rw [← hT]; exact t35_ok b p h W
  have HT1 : Hid (∀ W, Calls Try.prog 79 #[.agg #[.int .i64 b, .int .i64 p]] W fun r w' => r = .returned (.int .i64 F) ∧ Below W.heap.size W w') := fun W => by rw [← hF]; exact t15_ok b p h W
  have HP : Hid (∀ r w', (∃ g : Nat, r = .returned (.tuple #[.pointer (some ⟨g, 0, none⟩), .int .i64 0]) ∧ w.heap.size ≤ g ∧ w'.heap[g]? = some (.cells #[.int .i64 C, .int .i64 F, .int .i64 T, .slice none 0 0, .int .i64 0, .int .i64 0, .int .i64 0, .bool false, .int .i64 0, .int .i64 0] 109) ∧ Below w.heap.size w w') → RxNew w b r w') := by
    intro r w' hh
    subst hC hF hT
    exact hh
  clear hC hF hT
  go_enter Try.func49, Try.ntmps49
  go_wp2_with (first | (go_at_call 40; (with_reducible refine (svalid_ok b p h.out _).mono ?_); rintro r w1 ⟨rfl, hb1⟩; have g0 := hpKeep (hpNew w _) hb1) | fail)
  have c0 : ∀ W, Below w1.heap.size w1 W → W.cell? ⟨w.heap.size, 0, none⟩ = some (.int .i64 b) := fun W hW => hpCell (hpKeep g0 hW) 0
  have c1 : ∀ W, Below w1.heap.size w1 W → W.cell? ⟨w.heap.size, 1, none⟩ = some (.int .i64 p) := fun W hW => hpCell (hpKeep g0 hW) 1
  have kD : Below w1.heap.size w1 w1.drew := (Below.refl _ _).drew
  have hbw1 := bt (bal' w _) hb1 (Nat.le_refl _)
  clear g0 hb1
  go_region_held3 (fun W => Below w1.heap.size w1 W) ((first | exact kD | exact bt (by assumption) hb6 (Nat.le_refl _) | exact bt (by assumption) hb5 (Nat.le_refl _) | exact bt (by assumption) hb4 (Nat.le_refl _) | exact bta (by assumption) (Nat.le_refl _) _)) (first | (go_at_call 48; (with_reducible refine (HCH.out _).mono ?_); rintro r w4 ⟨rfl, hb4⟩) | (go_at_call 47; (with_reducible refine (HT3.out _).mono ?_); rintro r w5 ⟨rfl, hb5⟩) | (go_at_call 79; (with_reducible refine (HT1.out _).mono ?_); rintro r w6 ⟨rfl, hb6⟩))
  all_goals
    go_wp2
    go_ret2
    refine HP.out _ _ ⟨_, rfl, ?_, hpNew _ _, ?_⟩
    · have e1 := hbw1.size
      have e4 := hb4.size
      have e5 := hb5.size
      have e6 := hb6.size
      simp at e4 e5 e6
      omega
    · first
        | exact bt hbw1 (bta (bt (bt (bt kD hb4 (Nat.le_refl _)) hb5 (Nat.le_refl _)) hb6 (Nat.le_refl _)) (Nat.le_refl _) _) (Nat.le_refl _)
        | exact bt hbw1 (bta (bt (bt (bt kD hb4 (Nat.le_refl _)) hb6 (Nat.le_refl _)) hb5 (Nat.le_refl _)) (Nat.le_refl _) _) (Nat.le_refl _)
        | exact bt hbw1 (bta (bt (bt (bt kD hb5 (Nat.le_refl _)) hb4 (Nat.le_refl _)) hb6 (Nat.le_refl _)) (Nat.le_refl _) _) (Nat.le_refl _)
        | exact bt hbw1 (bta (bt (bt (bt kD hb5 (Nat.le_refl _)) hb6 (Nat.le_refl _)) hb4 (Nat.le_refl _)) (Nat.le_refl _) _) (Nat.le_refl _)
        | exact bt hbw1 (bta (bt (bt (bt kD hb6 (Nat.le_refl _)) hb4 (Nat.le_refl _)) hb5 (Nat.le_refl _)) (Nat.le_refl _) _) (Nat.le_refl _)
        | exact bt hbw1 (bta (bt (bt (bt kD hb6 (Nat.le_refl _)) hb5 (Nat.le_refl _)) hb4 (Nat.le_refl _)) (Nat.le_refl _) _) (Nat.le_refl _)

end Go.Proofs.Ytoaajdbjlaffgaa
