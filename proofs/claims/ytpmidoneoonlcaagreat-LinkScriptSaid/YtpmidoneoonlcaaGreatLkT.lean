/-
  The errors of a link's methods.
-/
import Derived.Test.YtpmidoneoonlcaaGreatMlc
namespace Go.Proofs.YtpmidoneoonlcaaGreat
open Go.RowKit

set_option maxRecDepth 100000 in
set_option maxHeartbeats 1600000 in
theorem listens_no (g : Nat) (s : Lk) (w : World) (hl : LkAt w g s) (hph : s.ph = 0 ∨ s.ph = 1 ∨ s.ph = 5) :
    Calls Tryz.prog 38 #[.pointer (some ⟨g, 0, none⟩)] w fun r w' => r = .returned (.bool false) ∧ w = w' := by
  have c5 : w.cell? ⟨g, 5, none⟩ = some (.int .i64 0) ∨ w.cell? ⟨g, 5, none⟩ = some (.int .i64 1) ∨ w.cell? ⟨g, 5, none⟩ = some (.int .i64 5) := by
    rw [hl.cell 5]
    rcases hph with h | h | h
    · left; simp [Lk.cells, h]
    · right; left; simp [Lk.cells, h]
    · right; right; simp [Lk.cells, h]
  clear hl hph
  rcases c5 with c5 | c5 | c5
  all_goals
    go_enter Tryz.func38, Tryz.ntmps38
    go_wp2
    go_ret
    exact ⟨rfl, rfl⟩

/-- A call that is refused: nothing changes. -/
def Refused (w : World) (e : Int) (r : Ending) (w' : World) : Prop := r = .returned (.int .i64 e) ∧ Below w.heap.size w w'

set_option maxRecDepth 100000 in
set_option maxHeartbeats 1600000 in
theorem char_pending (g : Nat) (s : Lk) (t v fl : Int) (w : World) (hl : LkAt w g s) (hph : s.ph = 0 ∨ s.ph = 1 ∨ s.ph = 5) :
    Calls Tryz.prog 14 #[.pointer (some ⟨g, 0, none⟩), .agg #[.int .i64 t, .int .u8 v, .int .i64 fl]] w (Refused w 14) := by
  have HLI : Hid (∀ X, Calls Tryz.prog 38 #[.pointer (some ⟨g, 0, none⟩)] (w.alloc X) fun r w' => r = .returned (.bool false) ∧ w.alloc X = w') := fun X => listens_no g s _ (hl.keep (bal' _ _)) hph
  clear hl hph
  go_enter Tryz.func14, Tryz.ntmps14
  go_wp2_with (go_at_call 38; (with_reducible refine (HLI.out _).mono ?_); rintro r w1 ⟨rfl, rfl⟩)
  go_ret
  exact ⟨rfl, bal' w _⟩

set_option maxRecDepth 100000 in
set_option maxHeartbeats 1600000 in
theorem silence_pending (g : Nat) (s : Lk) (w : World) (hl : LkAt w g s) (hph : s.ph = 0 ∨ s.ph = 1 ∨ s.ph = 5) :
    Calls Tryz.prog 16 #[.pointer (some ⟨g, 0, none⟩)] w (Refused w 14) := by
  have HLI := hid (listens_no g s w hl hph)
  clear hl hph
  go_enter Tryz.func16, Tryz.ntmps16
  go_wp2_with (go_at_call 38; (with_reducible refine HLI.out.mono ?_); rintro r w1 ⟨rfl, rfl⟩)
  go_ret
  exact ⟨rfl, Below.refl _ _⟩

set_option maxRecDepth 100000 in
set_option maxHeartbeats 1600000 in
theorem sent_pending (g : Nat) (s : Lk) (en : Int) (w : World) (hl : LkAt w g s) (hph : ¬ s.ph = 1) :
    Calls Tryz.prog 12 #[.pointer (some ⟨g, 0, none⟩), .int .i64 en] w (Refused w 14) := by
  have c5 : w.cell? ⟨g, 5, none⟩ = some (.int .i64 s.ph) := hl.cell 5
  have d : (s.ph != 1) = true := by rw [bne_iff_ne]; exact hph
  clear hl hph
  go_enter Tryz.func12, Tryz.ntmps12
  go_wp2
  go_ret
  exact ⟨rfl, Below.refl _ _⟩

set_option maxRecDepth 100000 in
set_option maxHeartbeats 1600000 in
theorem sent_range (g : Nat) (s : Lk) (en : Int) (w : World) (hl : LkAt w g s) (hph : s.ph = 1) (hr : ¬ (s.now ≤ en ∧ en ≤ 1152921504606846976)) :
    Calls Tryz.prog 12 #[.pointer (some ⟨g, 0, none⟩), .int .i64 en] w (Refused w 3) := by
  have V2 : Hid ((decide (s.now ≤ en) && decide (en ≤ 1152921504606846976)) = false) := by
    show _ = _
    rw [Bool.and_eq_false_iff]
    by_cases h : s.now ≤ en
    · exact .inr (decide_eq_false (fun h2 => hr ⟨h, h2⟩))
    · exact .inl (decide_eq_false h)
  have c5 : w.cell? ⟨g, 5, none⟩ = some (.int .i64 1) := by rw [hl.cell 5]; simp [Lk.cells, hph]
  have c13 : w.cell? ⟨g, 13, none⟩ = some (.int .i64 s.now) := hl.cell 13
  clear hl hph hr
  go_enter Tryz.func12, Tryz.ntmps12
  go_wp2_with (go_at_call 21; (with_reducible refine (within_any en s.now 1152921504606846976 _ false V2).mono ?_); rintro r wi ⟨rfl, rfl⟩)
  go_ret
  exact ⟨rfl, Below.refl _ _⟩

set_option maxRecDepth 100000 in
set_option maxHeartbeats 1600000 in
theorem begin_pending (g : Nat) (s : Lk) (unit qf qa qq qc qo tick : Int) (w : World) (hl : LkAt w g s) (h0 : ¬ s.ph = 0) (h5 : ¬ s.ph = 5) :
    Calls Tryz.prog 10 #[.pointer (some ⟨g, 0, none⟩), .int .i64 unit, .agg #[.int .i64 qf, .int .i64 qa, .int .i64 qq, .int .i64 qc, .int .i64 qo], .int .i64 tick] w (Refused w 14) := by
  have hg := hl.lt
  have c5 : w.cell? ⟨g, 5, none⟩ = some (.int .i64 s.ph) := hl.cell 5
  have d0 : (s.ph != 0) = true := by rw [bne_iff_ne]; exact h0
  have d5 : (s.ph != 5) = true := by rw [bne_iff_ne]; exact h5
  clear hl h0 h5
  go_enter Tryz.func10, Tryz.ntmps10
  go_wp2
  go_ret
  exact ⟨rfl, bal' w _⟩

set_option maxRecDepth 100000 in
set_option maxHeartbeats 3200000 in
theorem begin_range (g : Nat) (s : Lk) (unit qf qa qq qc qo tick : Int) (w : World) (hl : LkAt w g s) (hph : s.ph = 0 ∨ s.ph = 5) (hr : ¬ (1 ≤ unit ∧ unit ≤ 247 ∧ s.now ≤ tick ∧ tick ≤ 1152921504606846976)) :
    Calls Tryz.prog 10 #[.pointer (some ⟨g, 0, none⟩), .int .i64 unit, .agg #[.int .i64 qf, .int .i64 qa, .int .i64 qq, .int .i64 qc, .int .i64 qo], .int .i64 tick] w (Refused w 3) := by
  have hg := hl.lt
  have c5 : w.cell? ⟨g, 5, none⟩ = some (.int .i64 0) ∨ w.cell? ⟨g, 5, none⟩ = some (.int .i64 5) := by
    rw [hl.cell 5]
    rcases hph with h | h
    · left; simp [Lk.cells, h]
    · right; simp [Lk.cells, h]
  have c13 : w.cell? ⟨g, 13, none⟩ = some (.int .i64 s.now) := hl.cell 13
  obtain ⟨V, hV⟩ : ∃ V, (decide (1 ≤ unit) && decide (unit ≤ 247)) = V := ⟨_, rfl⟩
  obtain ⟨V', hV'⟩ : ∃ V', (decide (s.now ≤ tick) && decide (tick ≤ 1152921504606846976)) = V' := ⟨_, rfl⟩
  have hd : V = false ∨ (V = true ∧ V' = false) := by
    cases V with
    | false => exact .inl rfl
    | true =>
      refine .inr ⟨rfl, ?_⟩
      cases V' with
      | false => rfl
      | true => simp at hV hV'; omega
  replace hV := hid hV
  replace hV' := hid hV'
  clear hl hph hr
  rcases hd with rfl | ⟨rfl, rfl⟩ <;> rcases c5 with c5 | c5
  all_goals
    go_enter Tryz.func10, Tryz.ntmps10
    go_wp2_with (first | (go_at_call 21; (with_reducible refine (within_any unit 1 247 _ _ hV).mono ?_); rintro r wi ⟨rfl, rfl⟩) | (go_at_call 21; (with_reducible refine (within_any tick s.now 1152921504606846976 _ _ hV').mono ?_); rintro r wi ⟨rfl, rfl⟩))
    go_ret
    exact ⟨rfl, bal' w _⟩

set_option maxRecDepth 100000 in
set_option maxHeartbeats 3200000 in
theorem begin_form (g : Nat) (s : Lk) (unit qf qa qq qc qo tick : Int) (w : World) (hl : LkAt w g s) (hph : s.ph = 0 ∨ s.ph = 5) (h1 : 1 ≤ unit) (h2 : unit ≤ 247) (h3 : s.now ≤ tick) (h4 : tick ≤ 1152921504606846976) (hq : Rq.ok ⟨qf, qa, qq, qc, qo⟩ = false) :
    Calls Tryz.prog 10 #[.pointer (some ⟨g, 0, none⟩), .int .i64 unit, .agg #[.int .i64 qf, .int .i64 qa, .int .i64 qq, .int .i64 qc, .int .i64 qo], .int .i64 tick] w (Refused w 5) := by
  have hg := hl.lt
  have c5 : w.cell? ⟨g, 5, none⟩ = some (.int .i64 0) ∨ w.cell? ⟨g, 5, none⟩ = some (.int .i64 5) := by
    rw [hl.cell 5]
    rcases hph with h | h
    · left; simp [Lk.cells, h]
    · right; simp [Lk.cells, h]
  have c13 : w.cell? ⟨g, 13, none⟩ = some (.int .i64 s.now) := hl.cell 13
  have V1 : Hid ((decide (1 ≤ unit) && decide (unit ≤ 247)) = true) := by show _ = _; rw [decide_eq_true h1, decide_eq_true h2]; rfl
  have V2 : Hid ((decide (s.now ≤ tick) && decide (tick ≤ 1152921504606846976)) = true) := by show _ = _; rw [decide_eq_true h3, decide_eq_true h4]; rfl
  have HQ : Hid (∀ W, Calls Tryz.prog 28 #[.agg #[.int .i64 qf, .int .i64 qa, .int .i64 qq, .int .i64 qc, .int .i64 qo]] W fun r w' => r = .returned (.bool false) ∧ Below W.heap.size W w') := fun W => by rw [← hq]; exact pqvalid_any qf qa qq qc qo W
  clear hl hph h1 h2 h3 h4 hq
  rcases c5 with c5 | c5
  all_goals
    go_enter Tryz.func10, Tryz.ntmps10
    go_wp2_with (first | (go_at_call 21; (with_reducible refine (within_any unit 1 247 _ true V1).mono ?_); rintro r wi ⟨rfl, rfl⟩) | (go_at_call 21; (with_reducible refine (within_any tick s.now 1152921504606846976 _ true V2).mono ?_); rintro r wi ⟨rfl, rfl⟩) | (go_at_call 28; (with_reducible refine (HQ.out _).mono ?_); rintro r w1 ⟨rfl, hb1⟩))
    go_ret
    exact ⟨rfl, bt (bal' w _) hb1 (Nat.le_refl _)⟩

set_option maxRecDepth 100000 in
set_option maxHeartbeats 3200000 in
theorem lknew_range (b p re ti de : Int) (h : Hid (Okset b p)) (hr : ¬ (0 ≤ re ∧ re ≤ 5 ∧ 1 ≤ ti ∧ ti ≤ 5000000 ∧ 0 ≤ de ∧ de ≤ 5000000)) (w : World) :
    Calls Tryz.prog 6 #[.agg #[.int .i64 b, .int .i64 p], .int .i64 re, .int .i64 ti, .int .i64 de] w fun r w' => r = .returned (.tuple #[.pointer none, .int .i64 3]) ∧ Below w.heap.size w w' := by
  obtain ⟨V1, hV1⟩ : ∃ V, (decide (0 ≤ re) && decide (re ≤ 5)) = V := ⟨_, rfl⟩
  obtain ⟨V2, hV2⟩ : ∃ V, (decide (1 ≤ ti) && decide (ti ≤ 5000000)) = V := ⟨_, rfl⟩
  obtain ⟨V3, hV3⟩ : ∃ V, (decide (0 ≤ de) && decide (de ≤ 5000000)) = V := ⟨_, rfl⟩
  have hd : V1 = false ∨ (V1 = true ∧ V2 = false) ∨ (V1 = true ∧ V2 = true ∧ V3 = false) := by
    cases V1 with
    | false => exact .inl rfl
    | true =>
      cases V2 with
      | false => exact .inr (.inl ⟨rfl, rfl⟩)
      | true =>
        refine .inr (.inr ⟨rfl, rfl, ?_⟩)
        cases V3 with
        | false => rfl
        | true => simp at hV1 hV2 hV3; omega
  replace hV1 := hid hV1
  replace hV2 := hid hV2
  replace hV3 := hid hV3
  clear hr
  rcases hd with rfl | ⟨rfl, rfl⟩ | ⟨rfl, rfl, rfl⟩
  all_goals
    go_enter Tryz.func6, Tryz.ntmps6
    go_wp2_with (first | (go_at_call 20; (with_reducible refine (svalid_ok b p h.out _).mono ?_); rintro r w1 ⟨rfl, hb1⟩) | (go_at_call 21; (with_reducible refine (within_any re 0 5 _ _ hV1).mono ?_); rintro r wi ⟨rfl, rfl⟩) | (go_at_call 21; (with_reducible refine (within_any ti 1 5000000 _ _ hV2).mono ?_); rintro r wi ⟨rfl, rfl⟩) | (go_at_call 21; (with_reducible refine (within_any de 0 5000000 _ _ hV3).mono ?_); rintro r wi ⟨rfl, rfl⟩))
    go_ret2
    exact ⟨rfl, bt (bal' w _) hb1 (Nat.le_refl _)⟩

end Go.Proofs.YtpmidoneoonlcaaGreat
