/-
  The contracts of the reference's ValidReply and of what it calls.
-/
import Derived.Test.YtlaaoifjiogogaaRecB
import Derived.Deep.DeepCutAuto
namespace Go.Proofs.Ytlaaoifjiogogaa
open Go.RowKit

theorem rises_no {l : List Ob} {k : Nat} {x : Ob} (h : l[k]? = some x) (hb : ¬ (lastId (-1) (l.take k) < x.id ∧ x.id ≤ 255)) : rises (-1) l = false := by
  cases hx : rises (-1) l with
  | false => rfl
  | true =>
    exfalso
    apply hb
    have e : l = l.take (k + 1) ++ l.drop (k + 1) := (List.take_append_drop _ _).symm
    rw [e] at hx
    have h3 := rises_pre _ _ _ hx
    rw [take_succ_snoc h, rises_snoc] at h3
    simp only [Bool.and_eq_true, decide_eq_true_eq] at h3
    exact ⟨h3.1.2, h3.2⟩

theorem lastId_ge (l : List Ob) : ∀ (last : Int), rises last l = true → last ≤ lastId last l := by
  induction l with
  | nil => intro last _; exact Int.le_refl _
  | cons a l ih =>
    intro last h
    simp only [rises, Bool.and_eq_true, decide_eq_true_eq] at h
    have := ih a.id h.2
    simp only [lastId]
    omega

/-- A slice of objects, opened: its elements one by one. -/
theorem Obs.open_ {w : World} {v : Value} {l : List Ob} (h : Obs w v l) :
    ∃ a n c, v = .slice a n c ∧ l.length = n ∧ n ≤ 9223372036854775807 ∧ n ≤ c ∧ c ≤ 9223372036854775807 ∧
      ∀ (k : Nat) (x : Ob), l[k]? = some x → ∃ b o xa xc, a = some ⟨b, o, none⟩ ∧ w.cell? ⟨b, o + k * 2, none⟩ = some (.int .i64 x.id) ∧ w.cell? ⟨b, o + k * 2 + 1, none⟩ = some (.slice xa x.val.length xc) ∧ Bs w (.slice xa x.val.length xc) x.val := by
  obtain ⟨a, c, hv, h1, h2, h3, h4⟩ := h
  unfold maxLen at h2
  refine ⟨a, l.length, c, hv, rfl, by omega, h1, h2, fun k x hx => ?_⟩
  obtain ⟨b, o, ha, hc⟩ := h4 (by rintro rfl; simp at hx)
  obtain ⟨c1, vv, c2, hb⟩ := hc k x hx
  obtain ⟨xa, xc, rfl, _⟩ := id hb
  exact ⟨b, o, xa, xc, ha, c1, c2, hb⟩

theorem get_some {α : Type} {l : List α} {k n : Nat} (h : l.length = n) (hk : k < n) : ∃ x, l[k]? = some x := ⟨l[k], List.getElem?_eq_getElem (by omega)⟩

set_option maxRecDepth 100000 in
set_option maxHeartbeats 3200000 in
theorem rising_any (v : Value) (l : List Ob) (w : World) (ho : Obs w v l) :
    Calls Try.prog 87 #[v] w fun r w' => r = .returned (.bool (rises (-1) l)) ∧ Below w.heap.size w w' := by
  obtain ⟨a, n, c, rfl, hln, hn, hnc, hcm, hel⟩ := ho.open_
  clear ho
  replace hel := hid hel
  replace hln := hid hln
  go_enter Try.func87, Try.ntmps87
  go_wp2
  go_loopw [3] (fun i wr => ∃ k : Nat, k ≤ n ∧ i = .int .i64 k ∧ Hid (rises (-1) (l.take k) = true) ∧ Below w.heap.size w wr) (fun i _ => n - (intOf i).toNat)
  case atStart => exact ⟨0, Nat.zero_le _, rfl, rfl, Below.refl _ _⟩
  case round =>
    obtain ⟨k, hk, rfl, hri, hbw⟩ := hrel
    by_cases hlt : k < n
    · obtain ⟨x, hgx⟩ := get_some hln.out hlt
      obtain ⟨b, o, xa, xc, rfl, d1, _, _⟩ := hel.out k x hgx
      replace d1 := cell_keep hbw d1
      have HNO := hid (rises_no hgx)
      have HSN : Hid (rises (-1) (l.take (k + 1)) = (decide (lastId (-1) (l.take k) < x.id) && decide (x.id ≤ 255))) := by
        show rises (-1) (l.take (k + 1)) = _
        rw [take_succ_snoc hgx, rises_snoc, hri.out, Bool.true_and]
      have hge := lastId_ge _ _ hri.out
      have hprev : (k = 0 ∧ lastId (-1) (l.take k) = -1) ∨ ∃ j : Nat, k = j + 1 ∧ wr.cell? ⟨b, o + j * 2, none⟩ = some (.int .i64 (lastId (-1) (l.take k))) := by
        cases k with
        | zero => exact .inl ⟨rfl, rfl⟩
        | succ j =>
          refine .inr ⟨j, rfl, ?_⟩
          obtain ⟨y, hgj⟩ := get_some (k := j) hln.out (by omega)
          obtain ⟨b', o', xa, xc, ha, d1, _, _⟩ := hel.out j y hgj
          cases ha
          rw [take_succ_snoc hgj, lastId_snoc]
          exact cell_keep hbw d1
      clear hgx
      generalize x.id = xi at *
      generalize lastId (-1) (l.take k) = la at *
      have hkl : (k : Int) < (n : Int) := by omega
      rcases hprev with ⟨rfl, rfl⟩ | ⟨j, rfl, d0⟩
      · simp only [Nat.zero_mul, Nat.add_zero] at d1
        rcases (show xi < 0 ∨ (0 ≤ xi ∧ 255 < xi) ∨ (0 ≤ xi ∧ xi ≤ 255) by omega) with h | ⟨h, h'⟩ | ⟨h, h'⟩
        · have HF := hid (HNO.out (by omega))
          go_wp2
          go_quiet (fail)
          go_wp2
          go_ret
          exact ⟨by rw [HF.out]; rfl, below_drewN hbw _⟩
        · have HF := hid (HNO.out (by omega))
          have e1 : decide (xi < 0) = false := by simp; omega
          go_wp2
          go_quiet (fail)
          go_wp2
          go_ret
          exact ⟨by rw [HF.out]; rfl, below_drewN hbw _⟩
        · have e1 : decide (xi < 0) = false := by simp; omega
          have e2 : decide (255 < xi) = false := by simp; omega
          go_wp2
          go_quiet (fail)
          go_wp2
          go_roundw
          case rel => exact ⟨0 + 1, by omega, by go_num, by show _ = _; rw [HSN.out]; simp; omega, below_drewN hbw _⟩
          case measure => simp [intOf]; omega
      · have hj0 : (0 : Int) ≤ (j : Int) := Int.natCast_nonneg _
        have hj1 : (j : Int) + 1 - 1 = (j : Int) := by omega
        rcases (show xi < 0 ∨ (0 ≤ xi ∧ 255 < xi) ∨ (0 ≤ xi ∧ xi ≤ 255 ∧ xi ≤ la) ∨ (0 ≤ xi ∧ xi ≤ 255 ∧ la < xi) by omega) with h | ⟨h, h'⟩ | ⟨h, h', h''⟩ | ⟨h, h', h''⟩
        · have HF := hid (HNO.out (by omega))
          go_wp2
          go_quiet (fail)
          go_wp2
          go_ret
          exact ⟨by rw [HF.out]; rfl, below_drewN hbw _⟩
        · have HF := hid (HNO.out (by omega))
          have e1 : decide (xi < 0) = false := by simp; omega
          go_wp2
          go_quiet (fail)
          go_wp2
          go_ret
          exact ⟨by rw [HF.out]; rfl, below_drewN hbw _⟩
        · have HF := hid (HNO.out (by omega))
          have e1 : decide (xi < 0) = false := by simp; omega
          have e2 : decide (255 < xi) = false := by simp; omega
          go_wp2
          go_quiet (fail)
          go_wp2
          go_ret
          exact ⟨by rw [HF.out]; rfl, below_drewN hbw _⟩
        · have e1 : decide (xi < 0) = false := by simp; omega
          have e2 : decide (255 < xi) = false := by simp; omega
          have e3 : decide (xi ≤ la) = false := by simp; omega
          go_wp2
          go_quiet (fail)
          go_wp2
          go_roundw
          case rel => exact ⟨j + 1 + 1, by omega, by go_num, by show _ = _; rw [HSN.out]; simp; omega, below_drewN hbw _⟩
          case measure => simp [intOf]; omega
    · obtain rfl : k = n := by omega
      have HF : Hid (rises (-1) l = true) := by
        have h1 := hri.out
        rw [← hln.out, List.take_length] at h1
        exact h1
      go_wp2
      go_ret
      exact ⟨by rw [HF.out]; rfl, hbw⟩

end Go.Proofs.Ytlaaoifjiogogaa
