/-
  Replies in memory, and the contracts of the small functions on replies.
-/
import Derived.Test.YtlaaoifjiogogaaRows
import Derived.Test.YtlaaoifjiogogaaRecSpec
import Derived.Test.YtlaaoifjiogogaaClone
import Derived.Test.YtlaaoifjiogogaaMake
import Derived.Deep.QuietTactic
import Derived.BigQuiet
import Derived.Deep.RegionHeld3
import Derived.Outline
namespace Go.Proofs.Ytlaaoifjiogogaa
open Go.RowKit

/-- A slice of objects that reads as a list. -/
def Obs (w : World) (v : Value) (l : List Ob) : Prop :=
  ∃ a c, v = .slice a l.length c ∧ l.length ≤ c ∧ c ≤ maxLen ∧ (a = none → c = 0) ∧
    (l ≠ [] → ∃ b o, a = some ⟨b, o, none⟩ ∧ ∀ i x, l[i]? = some x → w.cell? ⟨b, o + i * 2, none⟩ = some (.int .i64 x.id) ∧ ∃ v, w.cell? ⟨b, o + i * 2 + 1, none⟩ = some v ∧ Bs w v x.val)

theorem Obs.nil (w : World) : Obs w (.slice none 0 0) [] := ⟨none, 0, rfl, Nat.le_refl _, Nat.zero_le _, fun _ => rfl, fun h => absurd rfl h⟩
theorem Obs.keep {w w' : World} {v : Value} {l : List Ob} (h : Obs w v l) (hb : Below w.heap.size w w') : Obs w' v l := by
  obtain ⟨a, c, hv, h1, h2, h3, h4⟩ := h
  refine ⟨a, c, hv, h1, h2, h3, fun hl => ?_⟩
  obtain ⟨b, o, ha, hc⟩ := h4 hl
  refine ⟨b, o, ha, fun i x hx => ?_⟩
  obtain ⟨c1, v, c2, hv⟩ := hc i x hx
  exact ⟨cell_keep hb c1, v, cell_keep hb c2, hv.keep hb⟩
theorem Obs.len {w : World} {v : Value} {l : List Ob} (h : Obs w v l) : l.length ≤ maxLen := by
  obtain ⟨a, c, _, h1, h2, _⟩ := h; exact Nat.le_trans h1 h2
theorem Obs.at {w : World} {v : Value} {l : List Ob} (h : Obs w v l) (hl : l ≠ []) :
    ∃ b o c, v = .slice (some ⟨b, o, none⟩) l.length c ∧ l.length ≤ c ∧ c ≤ maxLen ∧ ∀ i x, l[i]? = some x → w.cell? ⟨b, o + i * 2, none⟩ = some (.int .i64 x.id) ∧ ∃ v, w.cell? ⟨b, o + i * 2 + 1, none⟩ = some v ∧ Bs w v x.val := by
  obtain ⟨a, c, hv, h1, h2, h3, h4⟩ := h
  obtain ⟨b, o, rfl, hc⟩ := h4 hl
  exact ⟨b, o, c, hv, h1, h2, hc⟩

def limI (f : Int) : Int := if f = 1 ∨ f = 2 then 2000 else if f = 3 ∨ f = 4 then 125 else 0

theorem tbl_cases (f : Int) : (f = 1 ∨ f = 2 ∨ f = 3 ∨ f = 4) ∨ (tblB f = false ∧ (f == 1) = false ∧ (f == 2) = false ∧ (f == 3) = false ∧ (f == 4) = false) := by
  by_cases h : f = 1 ∨ f = 2 ∨ f = 3 ∨ f = 4
  · exact .inl h
  · refine .inr ⟨?_, ?_, ?_, ?_, ?_⟩
    · unfold tblB
      cases hx : (decide (1 ≤ f) && decide (f ≤ 4)) with
      | false => rfl
      | true => simp at hx; omega
    all_goals (rw [beq_eq_false_iff_ne]; omega)

set_option maxHeartbeats 800000 in
theorem limit_any (f : Int) (w : World) : Calls Try.prog 82 #[.int .i64 f] w fun r w' => r = .returned (.int .i64 (limI f)) ∧ w = w' := by
  rcases tbl_cases f with h | ⟨h0, h1, h2, h3, h4⟩
  · rcases h with rfl | rfl | rfl | rfl
    all_goals
      go_enter Try.func82, Try.ntmps82
      go_wp2
      go_ret
      exact ⟨rfl, rfl⟩
  · have hl : limI f = 0 := by
      rw [beq_eq_false_iff_ne] at h1 h2 h3 h4
      unfold limI
      rw [if_neg (by omega), if_neg (by omega)]
    replace hl := hid hl
    go_enter Try.func82, Try.ntmps82
    go_wp2
    go_ret
    exact ⟨by rw [hl.out]; rfl, rfl⟩

theorem limI_pos (f : Int) : decide (0 < limI f) = tblB f := by
  unfold limI tblB
  by_cases h1 : f = 1 ∨ f = 2
  · rw [if_pos h1]; rcases h1 with rfl | rfl <;> rfl
  · rw [if_neg h1]
    by_cases h2 : f = 3 ∨ f = 4
    · rw [if_pos h2]; rcases h2 with rfl | rfl <;> rfl
    · rw [if_neg h2]
      cases hx : (decide (1 ≤ f) && decide (f ≤ 4)) with
      | false => rfl
      | true => simp at hx; omega

set_option maxHeartbeats 800000 in
theorem isTable_any (f : Int) (w : World) : Calls Try.prog 41 #[.int .i64 f] w fun r w' => r = .returned (.bool (tblB f)) ∧ w = w' := by
  have HP := hid (limI_pos f)
  go_enter Try.func41, Try.ntmps41
  go_wp2_with (go_at_call 82; refine (limit_any _ _).mono ?_; rintro r w1 ⟨rfl, rfl⟩)
  go_ret
  exact ⟨ret_bool HP.out, rfl⟩

set_option maxHeartbeats 800000 in
theorem isTableR_any (f : Int) (w : World) : Calls Try.prog 107 #[.int .i64 f] w fun r w' => r = .returned (.bool (tblB f)) ∧ w = w' := by
  have HP := hid (limI_pos f)
  go_enter Try.func107, Try.ntmps107
  go_wp2_with (go_at_call 82; refine (limit_any _ _).mono ?_; rintro r w1 ⟨rfl, rfl⟩)
  go_ret
  exact ⟨ret_bool HP.out, rfl⟩

set_option maxHeartbeats 800000 in
theorem known_any (f : Int) (w : World) : Calls Try.prog 83 #[.int .i64 f] w fun r w' => r = .returned (.bool (knownB f)) ∧ w = w' := by
  go_enter Try.func83, Try.ntmps83
  go_wp2_with (go_at_call 107; refine (isTableR_any _ _).mono ?_; rintro r w1 ⟨rfl, rfl⟩)
  all_goals
    go_ret
    exact ⟨ret_bool (by simp [knownB, *]), rfl⟩

set_option maxHeartbeats 800000 in
theorem function_any (f : Int) (w : World) : Calls Try.prog 86 #[.int .i64 f] w fun r w' => r = .returned (.bool (knownB f)) ∧ w = w' := by
  go_enter Try.func86, Try.ntmps86
  go_wp2
  all_goals
    go_ret
    exact ⟨ret_bool (by first | (simp [knownB, tblB, *]; done) | (rw [Bool.eq_iff_iff]; simp [knownB, tblB, *]; omega) | (rw [Bool.eq_iff_iff]; simp [knownB, tblB]; omega)), rfl⟩

theorem len_isEmpty {α : Type} (l : List α) : ((l.length : Int) == 0) = l.isEmpty := by cases l <;> simp <;> omega

/-- The box of a reply. -/
theorem ret_boolB {a b : Bool} {w w' : World} {n : Nat} (h : a = b) (hb : Below n w w') : Ending.returned (.bool a) = .returned (.bool b) ∧ Below n w w' := ⟨by rw [h], hb⟩

set_option maxHeartbeats 1600000 in
theorem plain_any (fn exc : Int) (dv : Value) (code level : Int) (more : Bool) (next : Int) (ov : Value) (data : List UInt8) (objs : List Ob) (w : World) (ho : Obs w ov objs) :
    Calls Try.prog 84 #[.agg #[.int .i64 fn, .int .i64 exc, dv, .int .i64 code, .int .i64 level, .bool more, .int .i64 next, ov]] w fun r w' => r = .returned (.bool (Rp.plain ⟨fn, exc, data, code, level, more, next, objs⟩)) ∧ Below w.heap.size w w' := by
  obtain ⟨a, c, rfl, hc⟩ := ho
  clear hc
  go_enter Try.func84, Try.ntmps84
  go_wp2
  all_goals
    go_ret
    exact ret_boolB (by simp [Rp.plain, len_isEmpty, *]) (bal' _ _)

set_option maxHeartbeats 1600000 in
theorem short_any (fn exc : Int) (dv : Value) (code level : Int) (more : Bool) (next : Int) (ov : Value) (data : List UInt8) (objs : List Ob) (w : World) (hd : Bs w dv data) (ho : Obs w ov objs) :
    Calls Try.prog 45 #[.agg #[.int .i64 fn, .int .i64 exc, dv, .int .i64 code, .int .i64 level, .bool more, .int .i64 next, ov]] w fun r w' => r = .returned (.bool (Rp.short ⟨fn, exc, data, code, level, more, next, objs⟩)) ∧ Below w.heap.size w w' := by
  obtain ⟨a, c, rfl, hc⟩ := ho
  clear hc
  obtain ⟨a2, c2, rfl, hc⟩ := hd
  clear hc
  go_enter Try.func45, Try.ntmps45
  go_wp2
  all_goals
    go_ret
    exact ret_boolB (by simp [Rp.short, Rp.plain, len_isEmpty, *]) (bal' _ _)

end Go.Proofs.Ytlaaoifjiogogaa
