/-
  The contract of the helper Make: a valid request.
-/
import Derived.Test.YtpmidoneoonlcaaGreatRq
namespace Go.Proofs.YtpmidoneoonlcaaGreat
open Go.RowKit

def mkRq (k a b : Int) : Rq :=
  if k % 6 = 4 then ⟨17, 0, 0, 0, 0⟩ else if k % 6 = 5 then ⟨43, 0, 0, 1 + a % 3, b % 256⟩
  else ⟨1 + k % 6, a % (65536 - (1 + b % limI (1 + k % 6)) + 1), 1 + b % limI (1 + k % 6), 0, 0⟩

theorem mkRq_ok (k a b : Int) : (mkRq k a b).ok = true := by
  have h1 := Int.emod_nonneg k (show (6 : Int) ≠ 0 by decide)
  have h2 := Int.emod_lt_of_pos k (show 0 < (6 : Int) by decide)
  unfold mkRq
  by_cases h4 : k % 6 = 4
  · rw [if_pos h4]; rfl
  · rw [if_neg h4]
    by_cases h5 : k % 6 = 5
    · rw [if_pos h5]
      simp only [Rq.ok]
      simp
      omega
    · rw [if_neg h5]
      obtain ⟨L, hL⟩ : ∃ L, limI (1 + k % 6) = L := ⟨_, rfl⟩
      have hl : 0 < L ∧ L ≤ 2000 := by
        rw [← hL]; unfold limI
        repeat' split
        all_goals omega
      simp only [Rq.ok]
      rw [if_pos ⟨by omega, by omega⟩, hL]
      have h6 := Int.emod_nonneg b (show L ≠ 0 by omega)
      have h7 := Int.emod_lt_of_pos b hl.1
      have h8 := Int.emod_nonneg a (show 65536 - (1 + b % L) + 1 ≠ 0 by omega)
      have h9 := Int.emod_lt_of_pos a (show 0 < 65536 - (1 + b % L) + 1 by omega)
      simp
      omega

theorem infoRq : (Tryz.prog.info? 39).map (fun i => (i.zero, i.size)) = some (some (.agg #[.int .i64 0, .int .i64 0, .int .i64 0, .int .i64 0, .int .i64 0]), 5) := by kernel_rfl

set_option maxRecDepth 100000 in
set_option maxHeartbeats 3200000 in
theorem make_any (k a b : Int) (hk : (Lit.int .i64 k).wf = true) (ha : (Lit.int .i64 a).wf = true) (hb : (Lit.int .i64 b).wf = true) (w : World) :
    Calls Tryz.prog 9 #[.int .i64 k, .int .i64 a, .int .i64 b] w fun r w' => r = .returned (.agg #[.int .i64 (mkRq k a b).fn, .int .i64 (mkRq k a b).addr, .int .i64 (mkRq k a b).qty, .int .i64 (mkRq k a b).code, .int .i64 (mkRq k a b).obj]) ∧ Below w.heap.size w w' := by
  have h1 := Int.emod_nonneg k (show (6 : Int) ≠ 0 by decide)
  have h2 := Int.emod_lt_of_pos k (show 0 < (6 : Int) by decide)
  have HM : Hid (∀ W, Calls Tryz.prog 5 #[.int .i64 k, .int .i64 6] W fun r w' => r = .returned (.int .i64 (k % 6)) ∧ W = w') := fun W => mod_any k 6 (by decide) (by decide) hk W
  have HB0 : Hid (∀ X : Obj, Below w.heap.size w (w.alloc X)) := fun X => bal' w X
  obtain ⟨R, hR⟩ : ∃ R, mkRq k a b = R := ⟨_, rfl⟩
  rw [hR]
  unfold mkRq at hR
  obtain ⟨m, hm⟩ : ∃ m, k % 6 = m := ⟨_, rfl⟩
  rw [hm] at h1 h2 HM hR
  clear hm hk
  by_cases h4 : m = 4
  · subst h4
    rw [if_pos rfl] at hR
    subst hR
    clear ha hb h1 h2
    go_enter Tryz.func9, Tryz.ntmps9
    go_wp2_with (go_at_call 5; (with_reducible refine (HM.out _).mono ?_); rintro r w1 ⟨rfl, rfl⟩)
    exact bodyPost_ret (v := .agg #[.int .i64 17, .int .i64 0, .int .i64 0, .int .i64 0, .int .i64 0]) (by simp [results, Tryz.results9, go_sem]) rfl ⟨rfl, by repeat (first | exact HB0.out _ | refine Below.setCell ?_ (by simp) _)⟩
  · rw [if_neg h4] at hR
    by_cases h5 : m = 5
    · subst h5
      rw [if_pos rfl] at hR
      subst hR
      have HA : Hid (∀ W, Calls Tryz.prog 5 #[.int .i64 a, .int .i64 3] W fun r w' => r = .returned (.int .i64 (a % 3)) ∧ W = w') := fun W => mod_any a 3 (by decide) (by decide) ha W
      have HBB : Hid (∀ W, Calls Tryz.prog 5 #[.int .i64 b, .int .i64 256] W fun r w' => r = .returned (.int .i64 (b % 256)) ∧ W = w') := fun W => mod_any b 256 (by decide) (by decide) hb W
      have a1 := Int.emod_nonneg a (show (3 : Int) ≠ 0 by decide)
      have a2 := Int.emod_lt_of_pos a (show 0 < (3 : Int) by decide)
      clear ha hb h1 h2 h4
      generalize a % 3 = x at *
      generalize b % 256 = y at *
      go_enter Tryz.func9, Tryz.ntmps9
      go_wp2_with (first | (go_at_call 5; (with_reducible refine (HM.out _).mono ?_); rintro r w1 ⟨rfl, rfl⟩) | (go_at_call 5; (with_reducible refine (HA.out _).mono ?_); rintro r w1 ⟨rfl, rfl⟩) | (go_at_call 5; (with_reducible refine (HBB.out _).mono ?_); rintro r w1 ⟨rfl, rfl⟩))
      exact bodyPost_ret (v := .agg #[.int .i64 43, .int .i64 0, .int .i64 0, .int .i64 (1 + x), .int .i64 y]) (by simp [results, Tryz.results9, go_sem]) rfl ⟨rfl, by repeat (first | exact HB0.out _ | refine Below.setCell ?_ (by simp) _)⟩
    · rw [if_neg h5] at hR
      obtain ⟨f, hf⟩ : ∃ f, 1 + m = f := ⟨_, rfl⟩
      rw [hf] at hR
      obtain ⟨L, hL⟩ : ∃ L, limI f = L := ⟨_, rfl⟩
      have HLM : Hid (∀ W, Calls Tryz.prog 27 #[.int .i64 f] W fun r w' => r = .returned (.int .i64 L) ∧ W = w') := fun W => by rw [← hL]; exact rlimit_any f W
      have hl : 0 < L ∧ L ≤ 2000 := by
        rw [← hL]; unfold limI
        repeat' split
        all_goals omega
      rw [hL] at hR
      have b1 := Int.emod_nonneg b (show L ≠ 0 by omega)
      have b2 := Int.emod_lt_of_pos b hl.1
      have HBB : Hid (∀ W, Calls Tryz.prog 5 #[.int .i64 b, .int .i64 L] W fun r w' => r = .returned (.int .i64 (b % L)) ∧ W = w') := fun W => mod_any b L hl.1 (by omega) hb W
      have HA : Hid (∀ W, Calls Tryz.prog 5 #[.int .i64 a, .int .i64 (65536 - (1 + b % L) + 1)] W fun r w' => r = .returned (.int .i64 (a % (65536 - (1 + b % L) + 1))) ∧ W = w') := fun W => mod_any a _ (by omega) (by omega) ha W
      subst hR
      generalize b % L = y at *
      generalize a % (65536 - (1 + y) + 1) = x at *
      have hy : y ≤ 1999 := by omega
      have k5 : (1 + m == 5) = false := by rw [beq_eq_false_iff_ne]; omega
      have k6 : (1 + m == 6) = false := by rw [beq_eq_false_iff_ne]; omega
      clear ha hb hL hl b2
      rw [← hf] at HLM ⊢
      clear hf f h4 h5
      go_enter Tryz.func9, Tryz.ntmps9
      go_wp2_with (first | (go_at_call 5; (with_reducible refine (HM.out _).mono ?_); rintro r w1 ⟨rfl, rfl⟩) | (go_at_call 27; (with_reducible refine (HLM.out _).mono ?_); rintro r w1 ⟨rfl, rfl⟩) | (go_at_call 5; (with_reducible refine (HBB.out _).mono ?_); rintro r w1 ⟨rfl, rfl⟩) | (go_at_call 5; (with_reducible refine (HA.out _).mono ?_); rintro r w1 ⟨rfl, rfl⟩))
      exact bodyPost_ret (v := .agg #[.int .i64 (1 + m), .int .i64 x, .int .i64 (1 + y), .int .i64 0, .int .i64 0]) (by simp [results, Tryz.results9, go_sem]) rfl ⟨rfl, by repeat (first | exact HB0.out _ | refine Below.setCell ?_ (by simp) _)⟩

end Go.Proofs.YtpmidoneoonlcaaGreat
