/-
  The contracts of the helpers of the statements: Bytes, Mod, and the reference's Eq.
-/
import Derived.Test.YtlaaoifjiogogaaRows
import Derived.Test.YtlaaoifjiogogaaBase
namespace Go.Proofs.Ytlaaoifjiogogaa
open Go.RowKit

theorem bs_take {w : World} {a : Option Addr} {n c : Nat} {l : List UInt8} (h : Bs w (.slice a n c) l) (k : Nat) (hk : k ≤ n) : Bs w (.slice a k c) (l.take k) ∧ l.length = n := by
  obtain ⟨a', c', hv, h1, h2, h3, h4⟩ := h
  cases hv
  have e : (l.take k).length = k := by simp; omega
  refine ⟨⟨_, _, by rw [e], by omega, h2, h3, fun hne => ?_⟩, rfl⟩
  have hl : l ≠ [] := by rintro rfl; simp at hne
  obtain ⟨b, o, rfl, hc⟩ := h4 hl
  refine ⟨b, o, rfl, fun i hi => ?_⟩
  rw [e] at hi
  rw [hc i (by omega)]
  have : (l.take k).getD i 0 = l.getD i 0 := by simp [List.getD, hi]
  rw [this]

set_option maxHeartbeats 400000 in
theorem bytes_any (v : Value) (l : List UInt8) (n : Nat) (hn : n ≤ 1000000) (w : World) (hv : Bs w v l) :
    Calls Try.prog 22 #[v, .int .i64 n] w fun r w' => ∃ v', r = .returned v' ∧ Bs w v' (l.take n) ∧ w = w' := by
  have hlen := hv.len
  unfold maxLen at hlen
  have hv2 := hv
  obtain ⟨a, c, rfl, hc, hcm, hac, _⟩ := hv2
  unfold maxLen at hcm
  by_cases h : l.length ≤ n
  · have H := hid hv
    have HT := hid (List.take_of_length_le h)
    clear hv
    go_enter Try.func22, Try.ntmps22
    go_wp2
    go_ret
    exact ⟨_, rfl, by rw [HT.out]; exact H.out, rfl⟩
  · have H := hid (bs_take hv n (by omega)).1
    have hlt : n < l.length := by omega
    clear hv h
    go_enter Try.func22, Try.ntmps22
    go_wp2
    go_ret
    exact ⟨_, rfl, H.out, rfl⟩

theorem bytes_int (v : Value) (l : List UInt8) (n : Int) (w : World) (hv : Bs w v l) (m : Nat) (hm : n = m) (hn : m ≤ 1000000) :
    Calls Try.prog 22 #[v, .int .i64 n] w fun r w' => ∃ v', r = .returned v' ∧ Bs w v' (l.take m) ∧ w = w' := by
  subst hm
  exact bytes_any v l m hn w hv

set_option maxHeartbeats 400000 in
/-- The same, told by the value: the row's beginning. -/
theorem bytes_sh (a : Option Addr) (len c : Nat) (n : Int) (m : Nat) (hm : n = m) (hn : m ≤ 1000000) (h1 : len ≤ c) (w : World) :
    Calls Try.prog 22 #[.slice a len c, .int .i64 n] w fun r w' => r = .returned (.slice a (min m len) c) ∧ w = w' := by
  subst hm
  by_cases h : len ≤ m
  · have HT := hid (show min m len = len by omega)
    go_enter Try.func22, Try.ntmps22
    go_wp2
    go_ret
    exact ⟨by rw [HT.out]; rfl, rfl⟩
  · have HT := hid (show min m len = m by omega)
    have hlt : m < len := by omega
    clear h
    go_enter Try.func22, Try.ntmps22
    go_wp2
    go_ret
    exact ⟨by rw [HT.out]; rfl, rfl⟩

theorem gmod_eq (x n : Int) : (x.tmod n + n) % n = x % n := by
  rw [Int.tmod_def, show x - n * x.tdiv n + n = x + n * (1 - x.tdiv n) by rw [Int.mul_sub, Int.mul_one]; omega, Int.add_mul_emod_self_left]

set_option maxHeartbeats 400000 in
theorem mod_any (x n : Int) (hn : 0 < n) (hn2 : n ≤ 1000000) (_hx : (Lit.int .i64 x).wf = true) (w : World) :
    Calls Try.prog 23 #[.int .i64 x, .int .i64 n] w fun r w' => r = .returned (.int .i64 (x % n)) ∧ w = w' := by
  have h1 := Int.tmod_lt_of_pos x hn
  have h2 : -n < x.tmod n := Int.lt_tmod_of_pos x hn
  have HG := hid (gmod_eq x n)
  go_enter Try.func23, Try.ntmps23
  go_wp2
  go_ret
  exact ⟨ret_int HG.out, rfl⟩

set_option maxHeartbeats 400000 in
theorem eq_any (v1 v2 : Value) (l1 l2 : List UInt8) (w : World) (h1 : Bs w v1 l1) (h2 : Bs w v2 l2) :
    Calls Try.prog 110 #[v1, v2] w fun r w' => r = .returned (.bool (l1 == l2)) ∧ w = w' := by
  have e1 := run_str (P := Try.prog) Try.underlying22 Try.underlying5 h1 9 Try.underlying9
  have e2 := run_str (P := Try.prog) Try.underlying22 Try.underlying5 h2 9 Try.underlying9
  clear h1 h2
  go_enter Try.func110, Try.ntmps110
  go_wp2
  go_ret
  exact ⟨rfl, rfl⟩

end Go.Proofs.Ytlaaoifjiogogaa
