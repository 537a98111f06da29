/-
  The words for errors: the contracts of the two functions, and the walk of the law ConsoleWord.
-/
import Derived.Test.YthkclnehekbpgaaRows
import Derived.Test.YthkclnehekbpgaaBase
namespace Go.Proofs.Ythkclnehekbpgaa
open Go.RowKit

def wordsV : Array Value := #[.string ⟨#[111, 107]⟩, .string ⟨#[115, 121, 110, 116, 97, 120]⟩, .string ⟨#[110, 97, 109, 101]⟩, .string ⟨#[114, 97, 110, 103, 101]⟩, .string ⟨#[108, 101, 110, 103, 116, 104]⟩, .string ⟨#[102, 111, 114, 109]⟩, .string ⟨#[107, 105, 110, 100]⟩, .string ⟨#[111, 114, 100, 101, 114]⟩, .string ⟨#[100, 117, 112, 108, 105, 99, 97, 116, 101]⟩, .string ⟨#[109, 105, 115, 115, 105, 110, 103]⟩, .string ⟨#[99, 104, 101, 99, 107, 115, 117, 109]⟩, .string ⟨#[102, 117, 108, 108]⟩, .string ⟨#[99, 108, 111, 115, 101, 100]⟩, .string ⟨#[100, 111, 119, 110]⟩, .string ⟨#[112, 101, 110, 100, 105, 110, 103]⟩, .string ⟨#[117, 110, 105, 116]⟩, .string ⟨#[102, 117, 110, 99, 116, 105, 111, 110]⟩, .string ⟨#[99, 111, 117, 110, 116]⟩]

/-- the word for an error number, as a value -/
def wordV (e : Int) : ByteArray := if e < 0 then ⟨#[]⟩ else match wordsV[e.toNat]? with | some (.string s) => s | _ => ⟨#[]⟩

set_option maxHeartbeats 400000 in
theorem words_any (w : World) :
    Calls Try.prog 50 #[] w fun r w' => r = .returned (.slice (some ⟨w.heap.size, 0, none⟩) 18 18) ∧ w' = w.alloc (.cells wordsV 9) := by
  go_enter Try.func50, Try.ntmps50
  go_wp2
  go_ret
  exact ⟨rfl, rfl⟩

set_option maxHeartbeats 400000 in
theorem word_any (e : Int) (w : World) :
    Calls Try.prog 19 #[.int .i64 e] w fun r w' => r = .returned (.string (wordV e)) ∧ Below w.heap.size w w' := by
  have hb := (Below.refl w.heap.size w).alloc (Nat.le_refl _) (.cells wordsV 9)
  by_cases h : e < 0
  · go_enter Try.func19, Try.ntmps19
    go_wp2_with (go_at_call 50; refine (words_any _).mono ?_; rintro r w' ⟨rfl, rfl⟩)
    go_ret
    exact ⟨by simp [wordV, h], hb⟩
  · by_cases h2 : 18 ≤ e
    · have hx : wordV e = ⟨#[]⟩ := by
        have : wordsV[e.toNat]? = none := by simp [wordsV]; omega
        simp [wordV, h, this]
      replace hx := hid hx
      go_enter Try.func19, Try.ntmps19
      go_wp2_with (go_at_call 50; refine (words_any _).mono ?_; rintro r w' ⟨rfl, rfl⟩)
      go_ret
      exact ⟨by rw [hx.out]; rfl, hb⟩
    · obtain ⟨n, rfl⟩ := Int.eq_ofNat_of_zero_le (show 0 ≤ e by omega)
      have hn : n < 18 := by omega
      have hx : wordsV[n]? = some (.string (wordV n)) := by
        clear h h2 hb
        rcases (show n = 0 ∨ n = 1 ∨ n = 2 ∨ n = 3 ∨ n = 4 ∨ n = 5 ∨ n = 6 ∨ n = 7 ∨ n = 8 ∨ n = 9 ∨ n = 10 ∨ n = 11 ∨ n = 12 ∨ n = 13 ∨ n = 14 ∨ n = 15 ∨ n = 16 ∨ n = 17 by omega) with rfl | rfl | rfl | rfl | rfl | rfl | rfl | rfl | rfl | rfl | rfl | rfl | rfl | rfl | rfl | rfl | rfl | rfl <;> rfl
      have hcell : (w.alloc (.cells wordsV 9)).cell? ⟨w.heap.size, n, none⟩ = some (.string (wordV n)) := by
        rw [World.cell?_alloc_at _ _ _ _ rfl]; exact hx
      go_enter Try.func19, Try.ntmps19
      go_wp2_with (go_at_call 50; refine (words_any _).mono ?_; rintro r w' ⟨rfl, rfl⟩)
      go_ret
      exact ⟨rfl, hb⟩
set_option maxHeartbeats 400000 in
theorem rword_any (e : Int) (w : World) :
    Calls Try.prog 20 #[.int .i64 e] w fun r w' => r = .returned (.string (wordV e)) ∧ Below w.heap.size w w' := by
  have hb := (Below.refl w.heap.size w).alloc (Nat.le_refl _) (.cells wordsV 9)
  by_cases h : e < 0
  · go_enter Try.func20, Try.ntmps20
    go_wp2
    go_ret
    exact ⟨by simp [wordV, h], hb⟩
  · by_cases h2 : 18 ≤ e
    · have hx : wordV e = ⟨#[]⟩ := by
        have : wordsV[e.toNat]? = none := by simp [wordsV]; omega
        simp [wordV, h, this]
      replace hx := hid hx
      go_enter Try.func20, Try.ntmps20
      go_wp2
      go_ret
      exact ⟨by rw [hx.out]; rfl, hb⟩
    · obtain ⟨n, rfl⟩ := Int.eq_ofNat_of_zero_le (show 0 ≤ e by omega)
      have hn : n < 18 := by omega
      have hx : wordsV[n]? = some (.string (wordV n)) := by
        clear h h2 hb
        rcases (show n = 0 ∨ n = 1 ∨ n = 2 ∨ n = 3 ∨ n = 4 ∨ n = 5 ∨ n = 6 ∨ n = 7 ∨ n = 8 ∨ n = 9 ∨ n = 10 ∨ n = 11 ∨ n = 12 ∨ n = 13 ∨ n = 14 ∨ n = 15 ∨ n = 16 ∨ n = 17 by omega) with rfl | rfl | rfl | rfl | rfl | rfl | rfl | rfl | rfl | rfl | rfl | rfl | rfl | rfl | rfl | rfl | rfl | rfl <;> rfl
      replace hx := hid hx
      go_enter Try.func20, Try.ntmps20
      go_wp2
      go_ret
      exact ⟨congrArg Ending.returned (Array.getElem?_eq_some_iff.1 hx.out).2, hb⟩


set_option maxHeartbeats 400000 in
theorem cawake_any (w : World) :
    Calls Try.prog 18 #[] w fun r w' => r = .returned (.bool true) ∧ Below w.heap.size w w' := by
  have h11 : wordV 11 = ⟨#[102, 117, 108, 108]⟩ := by rfl
  have h0 : wordV 0 = ⟨#[111, 107]⟩ := by rfl
  go_enter Try.func18, Try.ntmps18
  go_wp2_with (go_at_call 19; refine (word_any _ _).mono ?_; rintro r w' ⟨rfl, hb⟩)
  go_ret
  exact ⟨rfl, bt (by assumption) (by assumption) (Nat.le_refl _)⟩

set_option maxHeartbeats 400000 in
theorem Walk.consoleWord (e : Int) (_we : (Lit.int .i64 e).wf = true) (w : World) :
    Calls Try.prog 3 #[.int .i64 e] w fun r w' => r = .returned (.bool true) ∧ Below w.heap.size w w' := by
  go_enter Try.func3, Try.ntmps3
  go_wp2_with (first | (go_at_call 18; refine (cawake_any _).mono ?_; rintro r w' ⟨rfl, hb⟩) | (go_at_call 19; refine (word_any _ _).mono ?_; rintro r w' ⟨rfl, hb2⟩) | (go_at_call 20; refine (rword_any _ _).mono ?_; rintro r w' ⟨rfl, hb3⟩))
  go_ret
  exact ⟨rfl, bt (bt hb hb2 (Nat.le_refl _)) hb3 (Nat.le_refl _)⟩

end Go.Proofs.Ythkclnehekbpgaa
