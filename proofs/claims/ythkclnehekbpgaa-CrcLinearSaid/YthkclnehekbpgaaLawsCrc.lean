/-
  The walks of the laws on the checksum.
-/
import Derived.Test.YthkclnehekbpgaaCrcMath2
namespace Go.Proofs.Ythkclnehekbpgaa
open Go.RowKit

theorem Bs.new (w : World) (l : List UInt8) (A : Array Value) (T : TypeId) (h : A = (u8s l).toArray) (hl : l.length ≤ 1000) :
    Bs (w.alloc (.cells A T)) (.slice (some ⟨w.heap.size, 0, none⟩) l.length l.length) l := by
  refine Bs.mk (Nat.le_refl _) (by unfold maxLen; omega) fun i hi => ?_
  rw [World.cell?_alloc_at _ _ _ _ rfl, h, ← u8s_get l i hi]
  simp

theorem Bs.alloc {w : World} {v : Value} {l : List UInt8} (h : Bs w v l) (o : Obj) : Bs (w.alloc o) v l := h.keep ((Below.refl _ _).alloc (Nat.le_refl _) _)

theorem bal (w : World) (o : Obj) : Below w.heap.size w (w.alloc o) := (Below.refl _ _).alloc (Nat.le_refl _) _

set_option maxHeartbeats 800000 in
set_option maxRecDepth 100000 in
theorem crawake_any (w : World) :
    Calls Try.prog 34 #[] w fun r w' => r = .returned (.bool true) ∧ Below w.heap.size w w' := by
  have h1 : crcExt 65535 [1, 3, 0, 0, 0, 1] = 2692 := by decide +kernel
  have h2 : ([1, 3, 0, 0, 0, 1] ++ crcTail [1, 3, 0, 0, 0, 1] == [1, 3, 0, 0, 0, 1, 132, 10]) = true := by decide +kernel
  have h3 : crcExt 65535 [] = 65535 := rfl
  have h4 : crcChk [] = false := rfl
  have b1 : ∀ (W : World) (n : Nat), n = W.heap.size → Bs (W.alloc (.cells #[.int .u8 1, .int .u8 3, .int .u8 0, .int .u8 0, .int .u8 0, .int .u8 1] 5)) (.slice (some ⟨n, 0, none⟩) 6 6) [1, 3, 0, 0, 0, 1] := fun W n h => by subst h; exact Bs.new W [1, 3, 0, 0, 0, 1] _ _ rfl (by decide)
  have b2 : ∀ (W : World) (n : Nat), n = W.heap.size → Bs (W.alloc (.cells #[.int .u8 1, .int .u8 3, .int .u8 0, .int .u8 0, .int .u8 0, .int .u8 1, .int .u8 132, .int .u8 10] 5)) (.slice (some ⟨n, 0, none⟩) 8 8) [1, 3, 0, 0, 0, 1, 132, 10] := fun W n h => by subst h; exact Bs.new W [1, 3, 0, 0, 0, 1, 132, 10] _ _ rfl (by decide)
  replace b1 := hid b1
  replace b2 := hid b2
  go_enter Try.func34, Try.ntmps34
  go_wp2_with (first | (go_at_call 35; (with_reducible refine (sum_any _ _ _ (b1.out _ _ (by simp))).mono ?_); rintro r w1 ⟨rfl, rfl⟩) | (go_at_call 35; (with_reducible refine (sum_any _ _ _ (Bs.nil _)).mono ?_); rintro r w1 ⟨rfl, rfl⟩) | (go_at_call 42; (with_reducible refine (check_any _ _ _ (Bs.nil _)).mono ?_); rintro r w3 ⟨rfl, hbel3⟩) | (go_at_call 39; (with_reducible refine (append_any _ _ _ (b1.out _ _ (by simp)) (by decide)).mono ?_); rintro r w1 ⟨v1, rfl, hown, hbel⟩) | (go_at_call 40; (with_reducible refine (eq_any _ _ _ _ _ (Bs.alloc (Bs.own hown) _) (b2.out _ _ rfl)).mono ?_); rintro r w2 ⟨rfl, rfl⟩) | fail)
  go_ret
  refine ⟨rfl, ?_⟩
  repeat (first | exact Below.refl _ _ | refine btd ?_ | refine bta ?_ (Nat.le_refl _) _ | refine bt ?_ (by assumption) (Nat.le_refl _))

theorem rsum_any2 (v : Value) (l : List UInt8) (w : World) (hv : Bs w v l) (hl : l.length ≤ 1000) :
    Calls Try.prog 36 #[v] w fun r w' => r = .returned (.int .u16 (crcExt 65535 l)) ∧ Below w.heap.size w w' := by
  rw [← divSum_eq]
  exact rsum_any v l w hv hl
theorem rappend_any2 (v : Value) (l : List UInt8) (w : World) (hv : Bs w v l) (hl : l.length ≤ 1000) :
    Calls Try.prog 41 #[v] w fun r w' => ∃ v', r = .returned v' ∧ w'.ownsRow w.heap.size 5 1 v' (l.length + 2) (u8s (l ++ crcTail l)) ∧ Below w.heap.size w w' := by
  rw [crcTail_eq]
  exact rappend_any v l w hv hl
theorem rcheck_any2 (v : Value) (l : List UInt8) (w : World) (hv : Bs w v l) (hl : l.length ≤ 1000) :
    Calls Try.prog 43 #[v] w fun r w' => r = .returned (.bool (crcChk l)) ∧ Below w.heap.size w w' := by
  rw [← rchk_eq]
  exact rcheck_any v l w hv hl

set_option maxHeartbeats 800000 in
theorem Walk.crcSum (v : Value) (l : List UInt8) (w : World) (hv : Bs w v l) :
    Calls Try.prog 8 #[v] w fun r w' => r = .returned (.bool true) ∧ Below w.heap.size w w' := by
  have HB := hid (bytes_int v l 64 w hv 64 rfl (by decide))
  have hl : (l.take 64).length ≤ 1000 := by simp; omega
  generalize l.take 64 = m at *
  clear hv
  go_enter Try.func8, Try.ntmps8
  go_wp2_with (first | (go_at_call 24; (with_reducible refine HB.out.mono ?_); rintro r w1 ⟨v1, rfl, hb, rfl⟩) | (go_at_call 34; (with_reducible refine (crawake_any _).mono ?_); rintro r w1 ⟨rfl, hbel⟩) | (go_at_call 35; (with_reducible refine (sum_any _ _ _ (hb.keep hbel)).mono ?_); rintro r w2 ⟨rfl, rfl⟩) | (go_at_call 36; (with_reducible refine (rsum_any2 _ _ _ (hb.keep hbel) hl).mono ?_); rintro r w3 ⟨rfl, hbel3⟩) | fail)
  go_ret
  refine ⟨rfl, ?_⟩
  repeat (first | exact Below.refl _ _ | refine btd ?_ | refine bta ?_ (Nat.le_refl _) _ | refine bt ?_ (by assumption) (Nat.le_refl _))

end Go.Proofs.Ythkclnehekbpgaa
