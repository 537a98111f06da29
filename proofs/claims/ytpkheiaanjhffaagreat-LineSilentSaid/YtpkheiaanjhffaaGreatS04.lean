/-
  Texts 4 of the claim.
-/
import Derived.Test.YtpkheiaanjhffaaGreatS03
import Derived.Deep.DeepCutAuto
import Derived.Deep.QuietTactic
import Derived.BigQuiet
namespace Go.Proofs.YtpkheiaanjhffaaGreat
open Go.RowKit
theorem rises_no {l : List Ob} {k : Nat} {x : Ob} (h : l[k]? = some x) (hb : ¬ (lastId (-1) (l.take k) < x.id ∧ x.id ≤ 255)) : rises (-1) l = false := by
  cases hx : rises (-1) l with
  | false => rfl
  | true =>
    exfalso
    apply hb
    have e : l = l.take (k + 1) ++ l.drop (k + 1) := (List.take_append_drop _ _).symm
    rw [e] at hx
    have h3 := rises_pre _ _ _ hx
    rw [take_succ_snoc h, rises_snoc] at h3
    simp only [Bool.and_eq_true, decide_eq_true_eq] at h3
    exact ⟨h3.1.2, h3.2⟩
theorem lastId_ge (l : List Ob) : ∀ (last : Int), rises last l = true → last ≤ lastId last l := by
  induction l with
  | nil => intro last _; exact Int.le_refl _
  | cons a l ih =>
    intro last h
    simp only [rises, Bool.and_eq_true, decide_eq_true_eq] at h
    have := ih a.id h.2
    simp only [lastId]
    omega
theorem Obs.open_ {w : World} {v : Value} {l : List Ob} (h : Obs w v l) :
    ∃ a n c, v = .slice a n c ∧ l.length = n ∧ n ≤ 9223372036854775807 ∧ n ≤ c ∧ c ≤ 9223372036854775807 ∧
      ∀ (k : Nat) (x : Ob), l[k]? = some x → ∃ b o xa xc, a = some ⟨b, o, none⟩ ∧ w.cell? ⟨b, o + k * 2, none⟩ = some (.int .i64 x.id) ∧ w.cell? ⟨b, o + k * 2 + 1, none⟩ = some (.slice xa x.val.length xc) ∧ Bs w (.slice xa x.val.length xc) x.val := by
  obtain ⟨a, c, hv, h1, h2, h3, h4⟩ := h
  unfold maxLen at h2
  refine ⟨a, l.length, c, hv, rfl, by omega, h1, h2, fun k x hx => ?_⟩
  obtain ⟨b, o, ha, hc⟩ := h4 (by rintro rfl; simp at hx)
  obtain ⟨c1, vv, c2, hb⟩ := hc k x hx
  obtain ⟨xa, xc, rfl, _⟩ := id hb
  exact ⟨b, o, xa, xc, ha, c1, c2, hb⟩
theorem get_some {α : Type} {l : List α} {k n : Nat} (h : l.length = n) (hk : k < n) : ∃ x, l[k]? = some x := ⟨l[k], List.getElem?_eq_getElem (by omega)⟩
set_option maxRecDepth 100000 in
set_option maxHeartbeats 3200000 in
theorem rising_any (v : Value) (l : List Ob) (w : World) (ho : Obs w v l) :
    Calls Tryz.prog 68 #[v] w fun r w' => r = .returned (.bool (rises (-1) l)) ∧ Below w.heap.size w w' := by
  obtain ⟨a, n, c, rfl, hln, hn, hnc, hcm, hel⟩ := ho.open_
  clear ho
  replace hel := hid hel
  replace hln := hid hln
  go_enter Tryz.func68, Tryz.ntmps68
  go_wp2
  go_loopw [3] (fun i wr => ∃ k : Nat, k ≤ n ∧ i = .int .i64 k ∧ Hid (rises (-1) (l.take k) = true) ∧ Below w.heap.size w wr) (fun i _ => n - (intOf i).toNat)
  case atStart => exact ⟨0, Nat.zero_le _, rfl, rfl, Below.refl _ _⟩
  case round =>
    obtain ⟨k, hk, rfl, hri, hbw⟩ := hrel
    by_cases hlt : k < n
    · obtain ⟨x, hgx⟩ := get_some hln.out hlt
      obtain ⟨b, o, xa, xc, rfl, d1, _, _⟩ := hel.out k x hgx
      replace d1 := cell_keep hbw d1
      have HNO := hid (rises_no hgx)
      have HSN : Hid (rises (-1) (l.take (k + 1)) = (decide (lastId (-1) (l.take k) < x.id) && decide (x.id ≤ 255))) := by
        show rises (-1) (l.take (k + 1)) = _
        rw [take_succ_snoc hgx, rises_snoc, hri.out, Bool.true_and]
      have hge := lastId_ge _ _ hri.out
      have hprev : (k = 0 ∧ lastId (-1) (l.take k) = -1) ∨ ∃ j : Nat, k = j + 1 ∧ wr.cell? ⟨b, o + j * 2, none⟩ = some (.int .i64 (lastId (-1) (l.take k))) := by
        cases k with
        | zero => exact .inl ⟨rfl, rfl⟩
        | succ j =>
          refine .inr ⟨j, rfl, ?_⟩
          obtain ⟨y, hgj⟩ := get_some (k := j) hln.out (by omega)
          obtain ⟨b', o', xa, xc, ha, d1, _, _⟩ := hel.out j y hgj
          cases ha
          rw [take_succ_snoc hgj, lastId_snoc]
          exact cell_keep hbw d1
      clear hgx
      generalize x.id = xi at *
      generalize lastId (-1) (l.take k) = la at *
      have hkl : (k : Int) < (n : Int) := by omega
      rcases hprev with ⟨rfl, rfl⟩ | ⟨j, rfl, d0⟩
      · simp only [Nat.zero_mul, Nat.add_zero] at d1
        rcases (show xi < 0 ∨ (0 ≤ xi ∧ 255 < xi) ∨ (0 ≤ xi ∧ xi ≤ 255) by omega) with h | ⟨h, h'⟩ | ⟨h, h'⟩
        · have HF := hid (HNO.out (by omega))
          go_wp2
          go_quiet (fail)
          go_wp2
          go_ret
          exact ⟨by rw [HF.out]; rfl, below_drewN hbw _⟩
        · have HF := hid (HNO.out (by omega))
          have e1 : decide (xi < 0) = false := by simp; omega
          go_wp2
          go_quiet (fail)
          go_wp2
          go_ret
          exact ⟨by rw [HF.out]; rfl, below_drewN hbw _⟩
        · have e1 : decide (xi < 0) = false := by simp; omega
          have e2 : decide (255 < xi) = false := by simp; omega
          go_wp2
          go_quiet (fail)
          go_wp2
          go_roundw
          case rel => exact ⟨0 + 1, by omega, by go_num, by show _ = _; rw [HSN.out]; simp; omega, below_drewN hbw _⟩
          case measure => simp [intOf]; omega
      · have hj0 : (0 : Int) ≤ (j : Int) := Int.natCast_nonneg _
        have hj1 : (j : Int) + 1 - 1 = (j : Int) := by omega
        rcases (show xi < 0 ∨ (0 ≤ xi ∧ 255 < xi) ∨ (0 ≤ xi ∧ xi ≤ 255 ∧ xi ≤ la) ∨ (0 ≤ xi ∧ xi ≤ 255 ∧ la < xi) by omega) with h | ⟨h, h'⟩ | ⟨h, h', h''⟩ | ⟨h, h', h''⟩
        · have HF := hid (HNO.out (by omega))
          go_wp2
          go_quiet (fail)
          go_wp2
          go_ret
          exact ⟨by rw [HF.out]; rfl, below_drewN hbw _⟩
        · have HF := hid (HNO.out (by omega))
          have e1 : decide (xi < 0) = false := by simp; omega
          go_wp2
          go_quiet (fail)
          go_wp2
          go_ret
          exact ⟨by rw [HF.out]; rfl, below_drewN hbw _⟩
        · have HF := hid (HNO.out (by omega))
          have e1 : decide (xi < 0) = false := by simp; omega
          have e2 : decide (255 < xi) = false := by simp; omega
          go_wp2
          go_quiet (fail)
          go_wp2
          go_ret
          exact ⟨by rw [HF.out]; rfl, below_drewN hbw _⟩
        · have e1 : decide (xi < 0) = false := by simp; omega
          have e2 : decide (255 < xi) = false := by simp; omega
          have e3 : decide (xi ≤ la) = false := by simp; omega
          go_wp2
          go_quiet (fail)
          go_wp2
          go_roundw
          case rel => exact ⟨j + 1 + 1, by omega, by go_num, by show _ = _; rw [HSN.out]; simp; omega, below_drewN hbw _⟩
          case measure => simp [intOf]; omega
    · obtain rfl : k = n := by omega
      have HF : Hid (rises (-1) l = true) := by
        have h1 := hri.out
        rw [← hln.out, List.take_length] at h1
        exact h1
      go_wp2
      go_ret
      exact ⟨by rw [HF.out]; rfl, hbw⟩
end Go.Proofs.YtpkheiaanjhffaaGreat
namespace Go.Proofs.YtpkheiaanjhffaaGreat
open Go.RowKit
end Go.Proofs.YtpkheiaanjhffaaGreat
namespace Go.Proofs.YtpkheiaanjhffaaGreat
open Go.RowKit
end Go.Proofs.YtpkheiaanjhffaaGreat

namespace Go.Proofs.YtpkheiaanjhffaaGreat
open Go.RowKit
structure Rq where
  fn : Int
  addr : Int
  qty : Int
  code : Int
  obj : Int
def Rq.ok (q : Rq) : Bool :=
  if 1 ≤ q.fn ∧ q.fn ≤ 4 then decide (0 ≤ q.addr) && decide (1 ≤ q.qty) && decide (q.qty ≤ limI q.fn) && decide (q.addr ≤ 65536 - q.qty) && q.code == 0 && q.obj == 0
  else if q.fn = 17 then q.addr == 0 && q.qty == 0 && q.code == 0 && q.obj == 0
  else if q.fn = 43 then q.addr == 0 && q.qty == 0 && decide (1 ≤ q.code) && decide (q.code ≤ 3) && decide (0 ≤ q.obj) && decide (q.obj ≤ 255)
  else false
theorem limI_bd (f : Int) : 0 ≤ limI f ∧ limI f ≤ 2000 := by unfold limI; repeat' split <;> omega
set_option maxHeartbeats 800000 in
theorem rlimit_any (f : Int) (w : World) :
    Calls Tryz.prog 39 #[.int .i64 f] w fun r w' => r = .returned (.int .i64 (limI f)) ∧ w = w' := by
  rcases tbl_cases f with h | ⟨h0, h1, h2, h3, h4⟩
  · rcases h with rfl | rfl | rfl | rfl
    all_goals
      go_enter Tryz.func39, Tryz.ntmps39
      go_wp2
      go_ret
      exact ⟨rfl, rfl⟩
  · have hl : limI f = 0 := by
      rw [beq_eq_false_iff_ne] at h1 h2 h3 h4
      unfold limI
      rw [if_neg (by omega), if_neg (by omega)]
    replace hl := hid hl
    go_enter Tryz.func39, Tryz.ntmps39
    go_wp2
    go_ret
    exact ⟨by rw [hl.out]; rfl, rfl⟩
set_option maxRecDepth 100000 in
set_option maxHeartbeats 3200000 in
theorem rqvalid_tab (f a q c o : Int) (h1 : 1 ≤ f) (h4 : f ≤ 4) (w : World) :
    Calls Tryz.prog 46 #[.agg #[.int .i64 f, .int .i64 a, .int .i64 q, .int .i64 c, .int .i64 o]] w fun r w' => r = .returned (.bool (Rq.ok ⟨f, a, q, c, o⟩)) ∧ Below w.heap.size w w' := by
  obtain ⟨L, hL⟩ : ∃ L, limI f = L := ⟨_, rfl⟩
  have hL2 : L ≤ 2000 := by rw [← hL]; exact (limI_bd f).2
  have HLM : Hid (∀ W, Calls Tryz.prog 39 #[.int .i64 f] W fun r w' => r = .returned (.int .i64 L) ∧ W = w') := fun W => by rw [← hL]; exact rlimit_any f W
  obtain ⟨V, hV⟩ : ∃ V, Rq.ok ⟨f, a, q, c, o⟩ = V := ⟨_, rfl⟩
  rw [hV]
  unfold Rq.ok at hV
  rw [if_pos ⟨h1, h4⟩] at hV
  simp only at hV
  rw [hL] at hV
  replace hV := hid hV
  have hbd : 1 ≤ q → q ≤ L → IntKind.i64.wrap (65536 - q) = 65536 - q := fun _ _ => IntWalk.i64_in _ (by omega)
  have HB : Hid (∀ X, Below w.heap.size w (w.alloc X)) := fun X => bal' w X
  have hf := (show f = 1 ∨ f = 2 ∨ f = 3 ∨ f = 4 by omega)
  clear hL h1 h4
  rcases (show ¬ 0 ≤ a ∨ (0 ≤ a ∧ ¬ 1 ≤ q) ∨ (0 ≤ a ∧ 1 ≤ q ∧ ¬ q ≤ L) ∨ (0 ≤ a ∧ 1 ≤ q ∧ q ≤ L ∧ ¬ a ≤ 65536 - q) ∨ (0 ≤ a ∧ 1 ≤ q ∧ q ≤ L ∧ a ≤ 65536 - q ∧ ¬ c = 0) ∨ (0 ≤ a ∧ 1 ≤ q ∧ q ≤ L ∧ a ≤ 65536 - q ∧ c = 0) by omega) with g1 | ⟨g1, g2⟩ | ⟨g1, g2, g3⟩ | ⟨g1, g2, g3, g4⟩ | ⟨g1, g2, g3, g4, g5⟩ | ⟨g1, g2, g3, g4, g5⟩
  · have d1 : decide (0 ≤ a) = false := decide_eq_false g1
    have e : V = false := by rw [← hV.out, d1]; simp
    clear hV hbd g1
    subst e
    rcases hf with rfl | rfl | rfl | rfl
    all_goals
      go_enter Tryz.func46, Tryz.ntmps46
      go_wp2_with fail; go_quiet ((go_at_call 39; exact Calls.quiet_of_same ((HLM.out _).mono fun _ _ h => ⟨h.1, h.2.symm⟩))); go_wp2; go_ret
      exact ⟨rfl, below_drewN (HB.out _) _⟩
  · have d1 : decide (0 ≤ a) = true := decide_eq_true g1
    have d2 : decide (1 ≤ q) = false := decide_eq_false g2
    have e : V = false := by rw [← hV.out, d2]; simp
    clear hV hbd g1 g2
    subst e
    rcases hf with rfl | rfl | rfl | rfl
    all_goals
      go_enter Tryz.func46, Tryz.ntmps46
      go_wp2_with fail; go_quiet ((go_at_call 39; exact Calls.quiet_of_same ((HLM.out _).mono fun _ _ h => ⟨h.1, h.2.symm⟩))); go_wp2; go_ret
      exact ⟨rfl, below_drewN (HB.out _) _⟩
  · have d1 : decide (0 ≤ a) = true := decide_eq_true g1
    have d2 : decide (1 ≤ q) = true := decide_eq_true g2
    have d3 : decide (q ≤ L) = false := decide_eq_false g3
    have e : V = false := by rw [← hV.out, d3]; simp
    clear hV hbd g1 g2 g3
    subst e
    rcases hf with rfl | rfl | rfl | rfl
    all_goals
      go_enter Tryz.func46, Tryz.ntmps46
      go_wp2_with fail; go_quiet ((go_at_call 39; exact Calls.quiet_of_same ((HLM.out _).mono fun _ _ h => ⟨h.1, h.2.symm⟩))); go_wp2; go_ret
      exact ⟨rfl, below_drewN (HB.out _) _⟩
  · have d1 : decide (0 ≤ a) = true := decide_eq_true g1
    have d2 : decide (1 ≤ q) = true := decide_eq_true g2
    have d3 : decide (q ≤ L) = true := decide_eq_true g3
    have d4 : decide (a ≤ 65536 - q) = false := decide_eq_false g4
    have w4 := hbd g2 g3
    have e : V = false := by rw [← hV.out, d4]; simp
    clear hV hbd g1 g2 g3 g4
    subst e
    rcases hf with rfl | rfl | rfl | rfl
    all_goals
      go_enter Tryz.func46, Tryz.ntmps46
      go_wp2_with fail; go_quiet ((go_at_call 39; exact Calls.quiet_of_same ((HLM.out _).mono fun _ _ h => ⟨h.1, h.2.symm⟩))); go_wp2; go_ret
      exact ⟨rfl, below_drewN (HB.out _) _⟩
  · have d1 : decide (0 ≤ a) = true := decide_eq_true g1
    have d2 : decide (1 ≤ q) = true := decide_eq_true g2
    have d3 : decide (q ≤ L) = true := decide_eq_true g3
    have d4 : decide (a ≤ 65536 - q) = true := decide_eq_true g4
    have d5 : (c == 0) = false := by simpa using g5
    have w4 := hbd g2 g3
    have e : V = false := by rw [← hV.out, d5]; simp
    clear hV hbd g1 g2 g3 g4 g5
    subst e
    rcases hf with rfl | rfl | rfl | rfl
    all_goals
      go_enter Tryz.func46, Tryz.ntmps46
      go_wp2_with fail; go_quiet ((go_at_call 39; exact Calls.quiet_of_same ((HLM.out _).mono fun _ _ h => ⟨h.1, h.2.symm⟩))); go_wp2; go_ret
      exact ⟨rfl, below_drewN (HB.out _) _⟩
  · subst g5
    have d1 : decide (0 ≤ a) = true := decide_eq_true g1
    have d2 : decide (1 ≤ q) = true := decide_eq_true g2
    have d3 : decide (q ≤ L) = true := decide_eq_true g3
    have d4 : decide (a ≤ 65536 - q) = true := decide_eq_true g4
    have w4 := hbd g2 g3
    have e : (o == 0) = V := by rw [← hV.out, d1, d2, d3, d4]; simp
    have e' := hid e
    clear hV hbd g1 g2 g3 g4 e
    rcases hf with rfl | rfl | rfl | rfl
    all_goals
      go_enter Tryz.func46, Tryz.ntmps46
      go_wp2_with fail; go_quiet ((go_at_call 39; exact Calls.quiet_of_same ((HLM.out _).mono fun _ _ h => ⟨h.1, h.2.symm⟩))); go_wp2; go_ret
      exact ⟨ret_bool e'.out, below_drewN (HB.out _) _⟩
set_option maxRecDepth 100000 in
set_option maxHeartbeats 3200000 in
theorem rqvalid_any (f a q c o : Int) (w : World) :
    Calls Tryz.prog 46 #[.agg #[.int .i64 f, .int .i64 a, .int .i64 q, .int .i64 c, .int .i64 o]] w fun r w' => r = .returned (.bool (Rq.ok ⟨f, a, q, c, o⟩)) ∧ Below w.heap.size w w' := by
  by_cases h : 1 ≤ f ∧ f ≤ 4
  · exact rqvalid_tab f a q c o h.1 h.2 w
  · obtain ⟨V, hV⟩ : ∃ V, Rq.ok ⟨f, a, q, c, o⟩ = V := ⟨_, rfl⟩
    rw [hV]
    unfold Rq.ok at hV
    rw [if_neg h] at hV
    simp only at hV
    have HB : Hid (∀ X, Below w.heap.size w (w.alloc X)) := fun X => bal' w X
    by_cases h17 : f = 17
    · subst h17
      rw [if_pos rfl] at hV
      replace hV := hid hV
      clear h
      go_enter Tryz.func46, Tryz.ntmps46
      go_wp2
      all_goals
        go_ret
        refine ⟨ret_bool ?_, HB.out _⟩
        rw [← hV.out]
        first | rfl | (rw [Bool.eq_iff_iff]; simp; done) | (rw [Bool.eq_iff_iff]; simp; omega)
    · rw [if_neg h17] at hV
      by_cases h43 : f = 43
      · subst h43
        rw [if_pos rfl] at hV
        replace hV := hid hV
        clear h h17
        go_enter Tryz.func46, Tryz.ntmps46
        go_wp2
        all_goals
          go_ret
          refine ⟨ret_bool ?_, HB.out _⟩
          rw [← hV.out]
          first | rfl | (rw [Bool.eq_iff_iff]; simp [*]; done) | (rw [Bool.eq_iff_iff]; simp; omega)
      · rw [if_neg h43] at hV
        subst hV
        have k1 : (f == 1) = false := by rw [beq_eq_false_iff_ne]; omega
        have k2 : (f == 2) = false := by rw [beq_eq_false_iff_ne]; omega
        have k3 : (f == 3) = false := by rw [beq_eq_false_iff_ne]; omega
        have k4 : (f == 4) = false := by rw [beq_eq_false_iff_ne]; omega
        have k5 : (f == 17) = false := by rw [beq_eq_false_iff_ne]; omega
        have k6 : (f == 43) = false := by rw [beq_eq_false_iff_ne]; omega
        clear h h17 h43
        go_enter Tryz.func46, Tryz.ntmps46
        go_wp2
        go_ret
        exact ⟨rfl, HB.out _⟩
end Go.Proofs.YtpkheiaanjhffaaGreat
