/-
  The walks of the laws on frames.
-/
import Derived.Test.YthkclnehekbpgaaRef05
import Derived.Outline
namespace Go.Proofs.Ythkclnehekbpgaa
open Go.RowKit

theorem aduF_chk (x : UInt8) (l : List UInt8) : crcChk (aduF x l) = true := chk_tail (x :: l)
theorem aduF_head (x : UInt8) (l : List UInt8) : (aduF x l).getD 0 0 = x := rfl
theorem aduF_pdu (x : UInt8) (l : List UInt8) : aduP (aduF x l) = l := by
  unfold aduP
  rw [aduF_length]
  simp [aduF, crcTail]
theorem adu_back (l : List UInt8) (h1 : 4 ≤ l.length) (hc : crcChk l = true) : aduF (l.getD 0 0) (aduP l) = l := by
  obtain ⟨h2, h0⟩ := (chk_iff l).1 hc
  have hs := split2 l h2
  have hb : l.take (l.length - 2) = l.getD 0 0 :: aduP l := by
    unfold aduP
    match l, h1 with
    | a :: m, h1 => 
      have h3 : (a :: m).length - 2 = (m.length - 2) + 1 := by simp at h1 ⊢; omega
      rw [h3]
      simp
  have e1 := rchk_eq l
  rw [hc, decide_eq_true h2, Bool.true_and, ← crcTail_eq] at e1
  unfold aduF
  rw [← hb]
  simpa using e1

set_option maxHeartbeats 1600000 in
set_option maxRecDepth 100000 in
theorem adawake_any (w : World) :
    Calls Try.prog 47 #[] w fun r w' => r = .returned (.bool true) ∧ Below w.heap.size w w' := by
  have hF : aduF 1 [3, 0, 0, 0, 1] = [1, 3, 0, 0, 0, 1, 132, 10] := by decide +kernel
  have b1 : ∀ (W : World) (n : Nat), n = W.heap.size → Bs (W.alloc (.cells #[.int .u8 3, .int .u8 0, .int .u8 0, .int .u8 0, .int .u8 1] 5)) (.slice (some ⟨n, 0, none⟩) 5 5) [3, 0, 0, 0, 1] := fun W n h => by subst h; exact Bs.new W [3, 0, 0, 0, 1] _ _ rfl (by decide)
  have b2 : ∀ (W : World) (n : Nat), n = W.heap.size → Bs (W.alloc (.cells #[.int .u8 1, .int .u8 2] 5)) (.slice (some ⟨n, 0, none⟩) 2 2) [1, 2] := fun W n h => by subst h; exact Bs.new W [1, 2] _ _ rfl (by decide)
  have b3 : ∀ (W : World) (n : Nat), n = W.heap.size → Bs (W.alloc (.cells #[.int .u8 1, .int .u8 3, .int .u8 0, .int .u8 0, .int .u8 0, .int .u8 1, .int .u8 132, .int .u8 10] 5)) (.slice (some ⟨n, 0, none⟩) 8 8) [1, 3, 0, 0, 0, 1, 132, 10] := fun W n h => by subst h; exact Bs.new W [1, 3, 0, 0, 0, 1, 132, 10] _ _ rfl (by decide)
  have HB : Hid (∀ W v, Bs W v [3, 0, 0, 0, 1] → Calls Try.prog 45 #[.int .i64 1, v] W fun r w' => ∃ v', r = .returned (.tuple #[v', .int .i64 0]) ∧ Bs w' v' [1, 3, 0, 0, 0, 1, 132, 10] ∧ Below W.heap.size W w') := fun W v h => by
    refine (build_ok 1 (by decide) (by decide) v [3, 0, 0, 0, 1] (by decide) (by decide) W h).mono ?_
    rintro r w' ⟨v', rfl, hown, hbel⟩
    rw [hF] at hown
    exact ⟨v', rfl, Bs.own hown, hbel⟩
  have ss : Hid (∀ (W : World) (v : Value) (l : List UInt8), Bs W v l → (convert 26 9 v).run Try.prog W = .ok (.string ⟨l.toArray⟩) W) := fun W v l h => run_str Try.underlying26 Try.underlying5 h _ Try.underlying9
  replace b1 := hid b1
  replace b2 := hid b2
  replace b3 := hid b3
  clear hF
  go_enter Try.func47, Try.ntmps47
  go_wp2_with (first | (go_at_call 45; (with_reducible refine (HB.out _ _ (b1.out _ _ rfl)).mono ?_); rintro r w1 ⟨v1, rfl, hb1, hbel1⟩) | (go_at_call 48; (with_reducible refine (split_len _ [1, 2] (.inl (by decide)) _ (b2.out _ _ rfl)).mono ?_); rintro r w2 ⟨rfl, rfl⟩; have e1 := ss.out _ _ _ (Bs.alloc hb1 (.cells #[.int .u8 1, .int .u8 2] 5)); have e3 := ss.out _ _ _ (b3.out (w1.alloc (.cells #[.int .u8 1, .int .u8 2] 5)) (w1.heap.size + 1) (by simp))) | fail)
  go_ret
  refine ⟨rfl, ?_⟩
  repeat (first | exact Below.refl _ _ | refine btd ?_ | refine bta ?_ (Nat.le_refl _) _ | refine bt ?_ (by assumption) (Nat.le_refl _))

theorem len_pos {l : List UInt8} {n : Nat} (h : l.length = n + 1) : l ≠ [] := by rintro rfl; simp at h

set_option maxHeartbeats 3200000 in
theorem Walk.aduBuild (u : Int) (w : World) (wu : (Lit.int .i64 u).wf = true) (v : Value) (l : List UInt8) (hv : Bs w v l) :
    Calls Try.prog 15 #[.int .i64 u, v] w fun r w' => r = .returned (.bool true) ∧ Below w.heap.size w w' := by
  have HB := hid (bytes_int v l 300 w hv 300 rfl (by decide))
  have hl : (l.take 300).length ≤ 300 := by simp; omega
  generalize l.take 300 = m at *
  have ss : Hid (∀ (W : World) (v : Value) (l : List UInt8), Bs W v l → (convert 26 9 v).run Try.prog W = .ok (.string ⟨l.toArray⟩) W) := fun W v l h => run_str Try.underlying26 Try.underlying5 h _ Try.underlying9
  clear hv
  by_cases hu : 1 ≤ u ∧ u ≤ 247
  · obtain ⟨hu1, hu2⟩ := hu
    by_cases hm : 1 ≤ m.length ∧ m.length ≤ 253
    · obtain ⟨hm1, hm2⟩ := hm
      obtain ⟨x, rfl⟩ : ∃ x : UInt8, u = (x.toNat : Int) := ⟨UInt8.ofNat u.toNat, by rw [UInt8.toNat_ofNat']; omega⟩
      have hfl := aduF_length x m
      have hx0 : ((x.toNat : Int) == 0) = false := by simp; omega
      have hx1 : ((x.toNat : Int) != 0) = true := by simp; omega
      have HS : Hid (∀ W v, Bs W v (aduF x m) → Calls Try.prog 48 #[v] W fun r w' => ∃ v', r = .returned (.tuple #[.int .i64 (x.toNat : Int), v', .int .i64 0]) ∧ Bs w' v' m ∧ Below W.heap.size W w') := fun W v h => by
        refine (split_ok v _ (by rw [hfl]; omega) (by rw [hfl]; omega) (aduF_chk x m) hu1 hu2 W h).mono ?_
        rintro r w' ⟨v', rfl, hown, hbel⟩
        rw [aduF_pdu, aduF_length] at hown
        exact ⟨v', rfl, Bs.own hown, hbel⟩
      have HH := hid (aduF_head x m)
      have HFL := hid hfl
      clear hfl
      go_enter Try.func15, Try.ntmps15
      go_wp2_with (first | (go_at_call 24; (with_reducible refine HB.out.mono ?_); rintro r w1 ⟨v1, rfl, ha, rfl⟩) | (go_at_call 45; (with_reducible refine (build_ok x hu1 hu2 _ m hm1 hm2 _ ha).mono ?_); rintro r w2 ⟨v2, rfl, hown2, hbel2⟩) | (go_at_call 46; (with_reducible refine (rbuild_ok x hu1 hu2 _ m hm1 hm2 _ (ha.keep hbel2)).mono ?_); rintro r w3 ⟨v3, rfl, hown3, hbel3⟩; have hb2 := (Bs.own hown2).keep hbel3; have e2 := ss.out _ _ _ hb2; have e3 := ss.out _ _ _ (Bs.own hown3)) | (go_at_call 48; (with_reducible refine (HS.out _ _ hb2).mono ?_); rintro r w4 ⟨v4, rfl, hb4, hbel4⟩) | (go_at_call 47; (with_reducible refine (adawake_any _).mono ?_); rintro r w5 ⟨rfl, hbel5⟩; have e5 := ss.out _ _ _ (hb4.keep hbel5); have e6 := ss.out _ _ _ ((((ha.keep hbel2).keep hbel3).keep hbel4).keep hbel5); obtain ⟨bb, oo, cc, rfl, _, _, hcc⟩ := ((hb2.keep hbel4).keep hbel5).at (len_pos HFL.out); rw [HFL.out] at hcc ⊢; have hc0 : w5.cell? ⟨bb, oo, none⟩ = some (.int .u8 (((aduF x m).getD 0 0).toNat : Int)) := hcc 0 (by omega); rw [HH.out] at hc0; clear hcc) | fail)
      go_ret
      refine ⟨rfl, ?_⟩
      repeat (first | exact Below.refl _ _ | refine btd ?_ | refine bta ?_ (Nat.le_refl _) _ | refine bt ?_ (by assumption) (Nat.le_refl _))
    · have hm2 : m.length < 1 ∨ 253 < m.length := by omega
      clear hm
      go_enter Try.func15, Try.ntmps15
      go_wp2_with (first | (go_at_call 24; (with_reducible refine HB.out.mono ?_); rintro r w1 ⟨v1, rfl, ha, rfl⟩) | (go_at_call 45; (with_reducible refine (build_len u hu1 hu2 _ m hm2 _ ha).mono ?_); rintro r w2 ⟨rfl, rfl⟩) | (go_at_call 46; (with_reducible refine (rbuild_len u hu1 hu2 _ m hm2 _ ha).mono ?_); rintro r w3 ⟨rfl, rfl⟩; have e2 := ss.out w _ _ (Bs.nil w)) | (go_at_call 47; (with_reducible refine (adawake_any _).mono ?_); rintro r w5 ⟨rfl, hbel5⟩) | fail)
      go_ret
      exact ⟨rfl, hbel5⟩
  · have hu2 : u < 1 ∨ 247 < u := by omega
    clear hu
    go_enter Try.func15, Try.ntmps15
    go_wp2_with (first | (go_at_call 24; (with_reducible refine HB.out.mono ?_); rintro r w1 ⟨v1, rfl, ha, rfl⟩) | (go_at_call 45; (with_reducible refine (build_range u hu2 _ _).mono ?_); rintro r w2 ⟨rfl, rfl⟩) | (go_at_call 46; (with_reducible refine (rbuild_range u hu2 _ _).mono ?_); rintro r w3 ⟨rfl, rfl⟩; have e2 := ss.out w _ _ (Bs.nil w)) | (go_at_call 47; (with_reducible refine (adawake_any _).mono ?_); rintro r w5 ⟨rfl, hbel5⟩) | fail)
    go_ret
    exact ⟨rfl, hbel5⟩

end Go.Proofs.Ythkclnehekbpgaa
