/-
  Texts 45 of the claim.
-/
import Derived.Test.YtipnamoocemeeaaGreatC07
import Derived.PlainAid
/-
  Names: text.Name and modscanref02.Name answer alike.
-/
namespace Go.Proofs.YtipnamoocemeeaaGreat
open Go.RowKit
def NmP (x : Int) : Prop := (97 ≤ x ∧ x ≤ 122) ∨ (48 ≤ x ∧ x ≤ 57) ∨ x = 45
/-- A name. -/
def NameP (s : ByteArray) : Prop := 1 ≤ s.size ∧ s.size ≤ 32 ∧ (97 ≤ PlainAid.bt s 0 ∧ PlainAid.bt s 0 ≤ 122) ∧ ∀ i, i < s.size → NmP (PlainAid.bt s i)
theorem NmP.cases (x : Int) : (NmP x ∧ ((97 ≤ x ∧ x ≤ 122 ∧ decide (x < 97) = false ∧ decide (122 < x) = false ∧ decide (97 ≤ x) = true ∧ decide (x ≤ 122) = true)
    ∨ (48 ≤ x ∧ x ≤ 57 ∧ decide (x < 97) = true ∧ decide (x < 48) = false ∧ decide (57 < x) = false ∧ decide (97 ≤ x) = false ∧ (x == 45) = false ∧ (x != 45) = true)
    ∨ (x = 45)))
    ∨ (¬ NmP x ∧ ((x < 48 ∧ decide (x < 97) = true ∧ decide (x < 48) = true ∧ decide (97 ≤ x) = false ∧ (x == 45) = false ∧ (x != 45) = true)
    ∨ (57 < x ∧ x < 97 ∧ decide (x < 97) = true ∧ decide (x < 48) = false ∧ decide (57 < x) = true ∧ decide (97 ≤ x) = false ∧ (x == 45) = false ∧ (x != 45) = true)
    ∨ (122 < x ∧ decide (x < 97) = false ∧ decide (122 < x) = true ∧ decide (x < 48) = false ∧ decide (57 < x) = true ∧ decide (97 ≤ x) = true ∧ decide (x ≤ 122) = false ∧ (x == 45) = false ∧ (x != 45) = true))) := by
  unfold NmP
  simp only [decide_eq_true_eq, decide_eq_false_iff_not, beq_eq_false_iff_ne, bne_iff_ne]
  omega
theorem str_nil (s : ByteArray) (h : s.size = 0) : s = ⟨#[]⟩ := by
  cases s with
  | mk d =>
    congr
    exact Array.eq_empty_of_size_eq_zero h
theorem str_some (s : ByteArray) (h : ¬ s.size = 0) : s.toList.isEmpty = false := by
  rw [ByteArray.toList_eq]
  cases hl : s.data.toList with
  | nil => exact absurd (by show s.data.size = 0; rw [← Array.length_toList, hl]; rfl) h
  | cons _ _ => rfl
set_option maxHeartbeats 3200000 in
theorem pname_any (s : ByteArray) (hm : s.size ≤ maxLen) (V : Bool) (hV : Hid (V = true ↔ NameP s)) (w : World) : Calls Tryz.prog 107 #[.string s] w (BoolPost w V) := by
  have hb := PlainAid.get_bt s
  unfold maxLen at hm
  have HF : Hid (¬ NameP s → V = false) := fun h => by
    cases e : V with
    | false => rfl
    | true => exact absurd (hV.out.1 e) h
  by_cases h0 : s.size = 0
  · have hv := HF.out (fun h => by have := h.1; omega)
    obtain rfl := str_nil s h0
    subst hv
    clear hV HF hb
    go_enter Tryz.func107, Tryz.ntmps107
    go_wp2
    go_ret
    exact ⟨rfl, Below.refl _ _⟩
  have hne : ¬ s = ⟨#[]⟩ := fun e => by subst e; exact h0 rfl
  have hne2 : s.toList.isEmpty = false := str_some s h0
  by_cases h1 : 32 < s.size
  · have hv := HF.out (fun h => by have := h.2.1; omega)
    have h1i : (32 : Int) < (s.size : Int) := by omega
    subst hv
    clear hV HF
    go_enter Tryz.func107, Tryz.ntmps107
    go_wp2
    go_ret
    exact ⟨rfl, Below.refl _ _⟩
  have h1i : ¬ (32 : Int) < (s.size : Int) := by omega
  have hp : 0 < s.size := by omega
  obtain ⟨x0, hx0⟩ : ∃ x, PlainAid.bt s 0 = x := ⟨_, rfl⟩
  by_cases h2 : 97 ≤ x0 ∧ x0 ≤ 122
  · have g1 : decide (x0 < 97) = false := by rw [decide_eq_false_iff_not]; omega
    have g2 : decide (122 < x0) = false := by rw [decide_eq_false_iff_not]; omega
    have HX := hid hx0
    have H2 := hid h2
    clear h2
    have HS1 : Hid (1 ≤ s.size ∧ s.size ≤ 32) := by show _ ∧ _; omega
    go_enter Tryz.func107, Tryz.ntmps107
    go_wp2
    go_loopw [24] (fun iv wr => ∃ k : Nat, k ≤ s.size ∧ iv = .int .i64 (k : Int) ∧ Hid (∀ i, i < k → NmP (PlainAid.bt s i)) ∧ Below w.heap.size w wr) (fun iv _ => s.size - (intOf iv).toNat)
    case atStart => exact ⟨0, Nat.zero_le _, rfl, fun i hi => absurd hi (Nat.not_lt_zero _), Below.refl _ _⟩
    case round =>
      obtain ⟨k, hk, rfl, hall, hbw⟩ := hrel
      clear g1 g2 hx0 hne hne2 h1i hp h1 h0
      by_cases hlt : k < s.size
      · have hkl : (k : Int) < (s.size : Int) := by omega
        have hki : (0 : Int) ≤ (k : Int) := Int.natCast_nonneg _
        obtain ⟨x, hx⟩ : ∃ x, PlainAid.bt s k = x := ⟨_, rfl⟩
        have HXK := hid hx
        rcases NmP.cases x with ⟨hn, c⟩ | ⟨hn, c⟩
        · have HA : Hid (∀ i, i < k + 1 → NmP (PlainAid.bt s i)) := fun i hi => by
            by_cases e : i = k
            · rw [e, HXK.out]; exact hn
            · exact hall.out i (by omega)
          clear hn hall
          rcases c with ⟨c1, c2, q1, q2, q3, q4⟩ | ⟨c1, c2, q1, q2, q3, q4, q5, q6⟩ | rfl
          · clear c1 c2
            go_wp2
            go_roundw
            case rel => exact ⟨k + 1, by omega, by go_num, HA.out, hbw⟩
            case measure => simp [intOf]; omega
          · clear c1 c2
            go_wp2
            go_roundw
            case rel => exact ⟨k + 1, by omega, by go_num, HA.out, hbw⟩
            case measure => simp [intOf]; omega
          · go_wp2
            go_roundw
            case rel => exact ⟨k + 1, by omega, by go_num, HA.out, hbw⟩
            case measure => simp [intOf]; omega
        · have hv := HF.out (fun h => by have h4 := h.2.2.2 k hlt; rw [HXK.out] at h4; exact hn h4)
          subst hv
          clear hn hall hV HF
          rcases c with ⟨c1, q1, q2, q3, q4, q5⟩ | ⟨c1, c2, q1, q2, q3, q4, q5, q6⟩ | ⟨c1, q1, q2, q3, q4, q5, q6, q7, q8⟩
          · clear c1
            go_wp2
            go_ret
            exact ⟨rfl, hbw⟩
          · clear c1 c2
            go_wp2
            go_ret
            exact ⟨rfl, hbw⟩
          · clear c1
            go_wp2
            go_ret
            exact ⟨rfl, hbw⟩
      · have hkl : ¬ (k : Int) < (s.size : Int) := by omega
        have hv : V = true := hV.out.2 ⟨HS1.out.1, HS1.out.2, by rw [HX.out]; exact H2.out, fun i hi => hall.out i (by omega)⟩
        subst hv
        clear hV HF hall
        go_wp2
        go_ret
        exact ⟨rfl, hbw⟩
  · have hv := HF.out (fun h => by have := h.2.2.1; rw [hx0] at this; exact h2 this)
    subst hv
    clear hV HF
    by_cases h3 : x0 < 97
    · have g1 : decide (x0 < 97) = true := by rw [decide_eq_true_eq]; exact h3
      clear h2 h3
      go_enter Tryz.func107, Tryz.ntmps107
      go_wp2
      go_ret
      exact ⟨rfl, Below.refl _ _⟩
    · have g1 : decide (x0 < 97) = false := by rw [decide_eq_false_iff_not]; exact h3
      have g2 : decide (122 < x0) = true := by rw [decide_eq_true_eq]; omega
      clear h2 h3
      go_enter Tryz.func107, Tryz.ntmps107
      go_wp2
      go_ret
      exact ⟨rfl, Below.refl _ _⟩

set_option maxHeartbeats 3200000 in
theorem rname_any (s : ByteArray) (hm : s.size ≤ maxLen) (V : Bool) (hV : Hid (V = true ↔ NameP s)) (w : World) : Calls Tryz.prog 67 #[.string s] w (BoolPost w V) := by
  have hb := PlainAid.get_bt s
  unfold maxLen at hm
  have HF : Hid (¬ NameP s → V = false) := fun h => by
    cases e : V with
    | false => rfl
    | true => exact absurd (hV.out.1 e) h
  go_enter Tryz.func67, Tryz.ntmps67
  go_wp2
  go_loopw [3] (fun iv wr => ∃ k : Nat, k ≤ s.size ∧ iv = .int .i64 (k : Int) ∧ Hid (∀ i, i < k → NmP (PlainAid.bt s i)) ∧ Hid (0 < k → 97 ≤ PlainAid.bt s 0 ∧ PlainAid.bt s 0 ≤ 122) ∧ Below w.heap.size w wr) (fun iv _ => s.size - (intOf iv).toNat)
  case atStart => exact ⟨0, Nat.zero_le _, rfl, fun i hi => absurd hi (Nat.not_lt_zero _), fun h => absurd h (Nat.lt_irrefl _), Below.refl _ _⟩
  case round =>
    obtain ⟨k, hk, rfl, hall, hfst, hbw⟩ := hrel
    by_cases hlt : k < s.size
    · have hkl : (k : Int) < (s.size : Int) := by omega
      have hki : (0 : Int) ≤ (k : Int) := Int.natCast_nonneg _
      obtain ⟨x, hx⟩ : ∃ x, PlainAid.bt s k = x := ⟨_, rfl⟩
      have HXK := hid hx
      rcases NmP.cases x with ⟨hn, c⟩ | ⟨hn, c⟩
      · have HA : Hid (∀ i, i < k + 1 → NmP (PlainAid.bt s i)) := fun i hi => by
          by_cases e : i = k
          · rw [e, HXK.out]; exact hn
          · exact hall.out i (by omega)
        clear hn hall
        rcases c with ⟨c1, c2, q1, q2, q3, q4⟩ | c
        · have HFS : Hid (0 < k + 1 → 97 ≤ PlainAid.bt s 0 ∧ PlainAid.bt s 0 ≤ 122) := fun _ => by
            by_cases e : k = 0
            · subst e; rw [HXK.out]; exact ⟨c1, c2⟩
            · exact hfst.out (by omega)
          clear c1 c2 hfst
          go_wp2
          go_roundw
          case rel => exact ⟨k + 1, by omega, by go_num, HA.out, HFS.out, hbw⟩
          case measure => simp [intOf]; omega
        · by_cases hk0 : k = 0
          · subst hk0
            have hv := HF.out (fun h => by
              have h4 := h.2.2.1
              rw [HXK.out] at h4
              rcases c with ⟨c1, c2, -⟩ | c
              · omega
              · omega)
            subst hv
            have q1 : decide (97 ≤ x) = false := by
              rw [decide_eq_false_iff_not]
              rcases c with ⟨c1, c2, -⟩ | c <;> omega
            clear c hV HF HA hfst
            go_wp2
            go_ret
            exact ⟨rfl, hbw⟩
          · have HFS : Hid (0 < k + 1 → 97 ≤ PlainAid.bt s 0 ∧ PlainAid.bt s 0 ≤ 122) := fun _ => hfst.out (by omega)
            have hk2 : ((k : Int) == 0) = false := by rw [beq_eq_false_iff_ne]; omega
            clear hfst hk0
            rcases c with ⟨c1, c2, q1, q2, q3, q4, q5, q6⟩ | rfl
            · clear c1 c2
              go_wp2
              go_roundw
              case rel => exact ⟨k + 1, by omega, by go_num, HA.out, HFS.out, hbw⟩
              case measure => simp [intOf]; omega
            · go_wp2
              go_roundw
              case rel => exact ⟨k + 1, by omega, by go_num, HA.out, HFS.out, hbw⟩
              case measure => simp [intOf]; omega
      · have hv := HF.out (fun h => by have h4 := h.2.2.2 k hlt; rw [HXK.out] at h4; exact hn h4)
        subst hv
        clear hn hall hV HF hfst
        rcases c with ⟨c1, q1, q2, q3, q4, q5⟩ | ⟨c1, c2, q1, q2, q3, q4, q5, q6⟩ | ⟨c1, q1, q2, q3, q4, q5, q6, q7, q8⟩
        all_goals
          by_cases hk0 : k = 0
          · subst hk0
            go_wp2
            go_ret
            exact ⟨rfl, hbw⟩
          · have hk2 : ((k : Int) == 0) = false := by rw [beq_eq_false_iff_ne]; omega
            clear hk0
            go_wp2
            go_ret
            exact ⟨rfl, hbw⟩
    · have hkl : ¬ (k : Int) < (s.size : Int) := by omega
      have hke : k = s.size := by omega
      have HV2 : Hid (V = (decide (1 ≤ (s.size : Int)) && decide ((s.size : Int) ≤ 32))) := by
        show _ = _
        by_cases h1 : 1 ≤ s.size
        · by_cases h2 : s.size ≤ 32
          · rw [hV.out.2 ⟨h1, h2, hfst.out (by omega), fun i hi => hall.out i (by omega)⟩, decide_eq_true (by omega), decide_eq_true (by omega)]
            rfl
          · rw [HF.out (fun h => h2 h.2.1), decide_eq_false (p := (s.size : Int) ≤ 32) (by omega), Bool.and_false]
        · rw [HF.out (fun h => h1 h.1), decide_eq_false (p := 1 ≤ (s.size : Int)) (by omega)]
          rfl
      clear hke hall hfst hV HF hk
      by_cases h1 : (1 : Int) ≤ (s.size : Int)
      · have g1 : decide ((1 : Int) ≤ (s.size : Int)) = true := decide_eq_true h1
        have k1 : decide (1 ≤ s.size) = true := decide_eq_true (by omega)
        by_cases h2 : (s.size : Int) ≤ 32
        · have g2 : decide ((s.size : Int) ≤ 32) = true := decide_eq_true h2
          have k2 : decide (s.size ≤ 32) = true := decide_eq_true (by omega)
          rw [g1, g2] at HV2
          clear h1 h2
          go_wp2
          go_ret
          exact ⟨by rw [HV2.out]; rfl, hbw⟩
        · have g2 : decide ((s.size : Int) ≤ 32) = false := decide_eq_false h2
          have k2 : decide (s.size ≤ 32) = false := decide_eq_false (by omega)
          rw [g1, g2] at HV2
          clear h1 h2
          go_wp2
          go_ret
          exact ⟨by rw [HV2.out]; rfl, hbw⟩
      · have g1 : decide ((1 : Int) ≤ (s.size : Int)) = false := decide_eq_false h1
        have k1 : decide (1 ≤ s.size) = false := decide_eq_false (by omega)
        rw [g1] at HV2
        clear h1
        go_wp2
        go_ret
        exact ⟨by rw [HV2.out]; rfl, hbw⟩

end Go.Proofs.YtipnamoocemeeaaGreat
