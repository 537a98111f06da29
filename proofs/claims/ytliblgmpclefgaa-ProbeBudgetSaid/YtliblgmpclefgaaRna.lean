/-
  Runs of numbers: plain lists, their rows in memory, and the contracts of runs.Len, runs.New, slices.Clone of runs.
-/
import Derived.Test.YtliblgmpclefgaaSeb
import Derived.Test.YtliblgmpclefgaaDecA
namespace Go.Proofs.Ytliblgmpclefgaa
open Go.RowKit

def rcs : List (Int × Int) → List Value
  | [] => []
  | p :: l => .int .i64 p.1 :: .int .i64 p.2 :: rcs l
def sumR : List (Int × Int) → Int
  | [] => 0
  | p :: l => p.1 + sumR l
theorem rcs_append : ∀ (l k : List (Int × Int)), rcs (l ++ k) = rcs l ++ rcs k
  | [], _ => rfl
  | p :: l, k => by simp [rcs, rcs_append l k]
theorem rcs_len : ∀ l : List (Int × Int), (rcs l).length = l.length * 2
  | [] => rfl
  | p :: l => by simp [rcs, rcs_len l]; omega
theorem rcs_one : ∀ (l : List (Int × Int)), ∀ u ∈ rcs l, u.oneCell' = true
  | [], u, h => by cases h
  | p :: l, u, h => by
    simp only [rcs, List.mem_cons] at h
    rcases h with rfl | rfl | h
    · rfl
    · rfl
    · exact rcs_one l u h
theorem rcs_get : ∀ (l : List (Int × Int)) (i : Nat) (p : Int × Int), l[i]? = some p → (rcs l)[i * 2]? = some (.int .i64 p.1) ∧ (rcs l)[i * 2 + 1]? = some (.int .i64 p.2)
  | [], i, p, h => by simp at h
  | q :: l, 0, p, h => by
    simp at h
    subst h
    exact ⟨rfl, rfl⟩
  | q :: l, i + 1, p, h => by
    have h1 : l[i]? = some p := by simpa using h
    obtain ⟨h2, h3⟩ := rcs_get l i p h1
    refine ⟨?_, ?_⟩
    · rw [show (i + 1) * 2 = i * 2 + 1 + 1 by omega]; simpa [rcs] using h2
    · rw [show (i + 1) * 2 + 1 = i * 2 + 1 + 1 + 1 by omega]; simpa [rcs] using h3
theorem sumR_append : ∀ (l k : List (Int × Int)), sumR (l ++ k) = sumR l + sumR k
  | [], k => by simp [sumR]
  | p :: l, k => by simp only [List.cons_append, sumR, sumR_append l k]; omega
/-- Runs that are not empty, and few. -/
structure RnOk (l : List (Int × Int)) : Prop where
  pos : ∀ p ∈ l, 1 ≤ p.1
  sum : sumR l ≤ 1024
theorem sumR_len : ∀ (l : List (Int × Int)), (∀ p ∈ l, 1 ≤ p.1) → (l.length : Int) ≤ sumR l
  | [], _ => Int.le_refl _
  | p :: l, h => by
    have h1 := h p (List.mem_cons_self ..)
    have h2 := sumR_len l (fun q hq => h q (List.mem_cons_of_mem _ hq))
    simp only [sumR, List.length_cons]
    omega
theorem RnOk.len {l : List (Int × Int)} (h : RnOk l) : l.length ≤ 1024 := by have := sumR_len l h.pos; have := h.sum; omega
theorem RnOk.nil : RnOk [] := ⟨(fun p h => (by cases h)), (by decide)⟩
theorem RnOk.part {l : List (Int × Int)} (h : RnOk l) (k : Nat) : 0 ≤ sumR (l.take k) ∧ sumR (l.take k) ≤ sumR l := by
  have e : sumR l = sumR (l.take k) + sumR (l.drop k) := by rw [← sumR_append, List.take_append_drop]
  have h1 := sumR_len (l.take k) (fun p hp => h.pos p (List.mem_of_mem_take hp))
  have h2 := sumR_len (l.drop k) (fun p hp => h.pos p (List.mem_of_mem_drop hp))
  omega

/-- The row of runs. -/
def Rns (base : Nat) (w : World) (v : Value) (l : List (Int × Int)) : Prop := w.ownsRow base 153 2 v l.length (rcs l)
theorem Rns.nil (base : Nat) (w : World) : Rns base w (.slice none 0 0) [] := World.ownsRow_nil _ _ _ _
theorem Rns.at {base : Nat} {w : World} {v : Value} {l : List (Int × Int)} (h : Rns base w v l) {k : Nat} {p : Int × Int} (hp : l[k]? = some p) :
    ∃ g cap, v = .slice (some ⟨g, 0, none⟩) l.length cap ∧ w.cell? ⟨g, k * 2, none⟩ = some (.int .i64 p.1) ∧ w.cell? ⟨g, k * 2 + 1, none⟩ = some (.int .i64 p.2) ∧ w.frozen? ⟨g, k * 2, none⟩ = false := by
  have hk := (List.getElem?_eq_some_iff.1 hp).1
  have h' : w.ownsRow base 153 2 v l.length (rcs l) := h
  rcases h.2 with ⟨_, h0⟩ | ⟨g, cap, cur, hv, hg, _, hnc, hcm, _⟩
  · omega
  · subst hv
    obtain ⟨h2, h3⟩ := rcs_get l k p hp
    exact ⟨g, cap, rfl, by rw [h'.cellAt _ (by omega)]; exact h2, by rw [h'.cellAt _ (by omega)]; exact h3, h'.frozenAt _⟩
theorem Rns.keep {base : Nat} {w w' : World} {v : Value} {l : List (Int × Int)} (h : Rns base w v l) (hb : Below w.heap.size w w') : Rns base w' v l := own_keeps (F := fun _ => False) h (Keeps.of_below hb) (fun _ _ f => f)
theorem Rns.keeps {F : Nat → Prop} {base : Nat} {w w' : World} {v : Value} {l : List (Int × Int)} (h : Rns base w v l) (hk : Keeps F w w') (hn : ∀ k, v.ownBlock = some k → ¬ F k) : Rns base w' v l := own_keeps h hk hn
theorem Rns.slice {base : Nat} {w : World} {v : Value} {l : List (Int × Int)} (h : Rns base w v l) : ∃ a c, v = .slice a l.length c := own_slice h
theorem gs {α : Type} {l : List α} {k n : Nat} (h : l.length = n) (hk : k < n) : ∃ x, l[k]? = some x := ⟨l[k], List.getElem?_eq_getElem (by omega)⟩

set_option maxRecDepth 100000 in
set_option maxHeartbeats 1600000 in
theorem rlen_any (v : Value) (l : List (Int × Int)) (w : World) (hr : Rns 0 w v l) (hl : RnOk l) :
    Calls Try.prog 100 #[.agg #[v]] w fun r w' => r = .returned (.int .i64 (sumR l)) ∧ Below w.heap.size w w' := by
  obtain ⟨va, vc, rfl⟩ := hr.slice
  obtain ⟨n, hN⟩ : ∃ n, l.length = n := ⟨_, rfl⟩
  rw [hN] at hr
  have HR := hid hr
  have HN := hid hN
  have HL := hid hl
  have hn : n ≤ 1024 := by have := hl.len; omega
  rw [hN]
  clear hr hl hN
  go_enter Try.func100, Try.ntmps100
  go_wp2
  have hb0 : Below w.heap.size w (w.alloc (.cells #[.slice va n vc] 148)) := bal' w _
  generalize w.alloc (.cells #[.slice va n vc] 148) = W at *
  go_loopw [3, 9] (fun sv iv wr => ∃ k : Nat, k ≤ n ∧ iv = .int .i64 k ∧ sv = .int .i64 (sumR (l.take k)) ∧ Below w.heap.size w wr) (fun _ iv _ => n - (intOf iv).toNat)
  case atStart => exact ⟨0, Nat.zero_le _, rfl, rfl, hb0⟩
  case round =>
    obtain ⟨k, hk, rfl, rfl, hbw⟩ := hrel
    by_cases hlt : k < n
    · obtain ⟨p, hp⟩ := gs (l := l) HN.out hlt
      obtain ⟨g, cap, hv, d1, d2, _⟩ := (HR.out.keep hbw).at hp
      rw [HN.out] at hv
      simp only [Value.slice.injEq, true_and] at hv
      obtain ⟨rfl, rfl⟩ := hv
      have HS : Hid (sumR (l.take (k + 1)) = sumR (l.take k) + p.1) := by
        show _ = _
        rw [List.take_add_one, hp, sumR_append]
        show _ + (p.1 + 0) = _
        omega
      have hs1 := HL.out.part (k + 1)
      have hs0 := HL.out.part k
      have hsm := HL.out.sum
      rw [HS.out] at hs1
      generalize sumR (l.take k) = s at *
      have sw : IntKind.i64.wrap (s + p.1) = s + p.1 := IntWalk.i64_in _ (by omega)
      have hki : (0 : Int) ≤ (k : Int) := Int.natCast_nonneg _
      have hkl : (k : Int) < (n : Int) := by omega
      clear hp hs1 hs0 hsm
      go_wp2
      go_roundw
      case rel => exact ⟨k + 1, by omega, by go_num, by rw [HS.out], bta hbw (Nat.le_refl _) _⟩
      case measure => simp [intOf]; omega
    · obtain rfl : k = n := by omega
      have HT : Hid (sumR (l.take k) = sumR l) := by show _ = _; rw [List.take_of_length_le (by rw [HN.out]; exact Nat.le_refl _)]
      go_wp2
      go_ret
      exact ⟨(by rw [HT.out]; rfl), hbw⟩

theorem infoR : (Try.prog.info? 153).map (fun i => (i.zero, i.size, i.bytes)) = some (some (.agg #[.int .i64 0, .int .i64 0]), 2, 16) := by kernel_rfl

set_option maxHeartbeats 1600000 in
theorem cloneR_any (v : Value) (l : List (Int × Int)) (w : World) (hv : Rns 0 w v l) (hl : l.length ≤ 1000000) :
    Calls Try.prog 101 #[v] w fun r w' => ∃ v', r = .returned v' ∧ Rns w.heap.size w' v' l ∧ Below w.heap.size w w' := by
  obtain ⟨i5, hi, hz0, hz1, hz2⟩ := info_parts infoR
  have hq := Lib.run_eql_slice_nil (P := Try.prog)
  have hv' : w.ownsRow 0 153 2 v l.length (rcs l) := hv
  rcases hv.2 with ⟨rfl, h0⟩ | ⟨g, cap, cur, rfl, hg, _, hnc, hcm, _⟩
  · have : l = [] := List.eq_nil_of_length_eq_zero h0
    subst this
    clear hv hv'
    go_enter Try.func101, Try.ntmps101
    go_wp2
    go_ret
    exact ⟨_, rfl, Rns.nil _ _, Below.refl _ _⟩
  · have HV := hid hv'
    have hcell' : Hid (∀ j u, (rcs l)[j]? = some u → (w.alloc (.cells #[] 153)).cell? ((⟨g, 0, none⟩ : Addr).add j) = some u) := fun j u hj => by
      have e1 : (⟨g, 0, none⟩ : Addr).add j = ⟨g, j, none⟩ := by unfold Addr.add; split <;> simp_all
      have hjl := (List.getElem?_eq_some_iff.1 hj).1
      rw [rcs_len] at hjl
      rw [e1]
      refine cell_keep (bal' w _) ?_
      rw [HV.out.cellAt _ hjl]
      exact hj
    have HL := hid (rcs_len l)
    have H1 := hid (rcs_one l)
    obtain ⟨n, hN⟩ : ∃ n, l.length = n := ⟨_, rfl⟩
    have HN := hid hN
    rw [hN] at hl HL hnc ⊢
    unfold maxLen at hcm
    clear hv hv' HV hN
    go_enter Try.func101, Try.ntmps101
    go_wp2_with (at_builtin; refine wpList_appN rfl _ _ 146 rfl w.heap.size 153 i5 _ 2 16 Try.underlying146 hi hz0 hz1 hz2 rfl (by decide) _ 0 [] rfl (World.ownsRow_made _ _ _ (Nat.le_refl _) (by decide) rfl) ⟨g, 0, none⟩ n cap (rcs l) rfl HL.out hcell'.out H1.out (by unfold maxLen; omega) (by omega) (by simp) ?c3)
    case c3 =>
      intro v' w1 hown hgr _
      have hbel := (bal' w (.cells #[] 153)).grown hgr (bal' w (.cells #[] 153)).size (by intro k hk; simp [Value.ownBlock] at hk; omega)
      have hown' : Hid (Rns w.heap.size w1 v' l) := by show w1.ownsRow _ _ _ _ _ _; rw [HN.out]; simpa using hown
      clear hgr hown
      go_wp2
      go_ret
      exact ⟨_, rfl, hown'.out, hbel⟩

set_option maxHeartbeats 1600000 in
theorem rnew0_any (u : Int) (w : World) :
    Calls Try.prog 133 #[.int .i64 0, .int .i64 u] w fun r w' => r = .returned (.agg #[.slice none 0 0]) ∧ Below w.heap.size w w' := by
  go_enter Try.func133, Try.ntmps133
  go_wp2
  refine bodyPost_ret (v := .agg #[.slice none 0 0]) (by simp [results, Try.results133, go_sem]) rfl ⟨rfl, ?_⟩
  first | exact bal' w _ | exact (bal' w _).setCell (Nat.le_refl _) _

set_option maxHeartbeats 1600000 in
theorem rnew_any (n u : Int) (hn : 1 ≤ n) (hn2 : n ≤ 65536) (w : World) :
    Calls Try.prog 133 #[.int .i64 n, .int .i64 u] w fun r w' => ∃ v, r = .returned (.agg #[v]) ∧ Rns w.heap.size w' v [(n, u)] ∧ Below w.heap.size w w' := by
  go_enter Try.func133, Try.ntmps133
  go_wp2
  refine bodyPost_ret (v := .agg #[.slice (some ⟨w.heap.size + 1, 0, none⟩) 1 1]) (by simp [results, Try.results133, go_sem]) rfl ⟨_, rfl, ?_, bta (bal' w _) (Nat.le_refl _) _⟩
  refine ⟨rfl, .inr ⟨w.heap.size + 1, 1, #[.int .i64 n, .int .i64 u], rfl, by omega, ?_, Nat.le_refl _, by decide, rfl, rfl⟩⟩
  have := hpNew (w.alloc (.cells #[.slice (some ⟨w.heap.size + 1, 0, none⟩) 1 1] 148)) (.cells #[.int .i64 n, .int .i64 u] 153)
  simpa using this

end Go.Proofs.Ytliblgmpclefgaa
