/-
  The contracts of package adu and of its reference.
-/
import Derived.Test.YtpmidoneoonlcaaGreatCrcMath2
import Derived.Test.YtpmidoneoonlcaaGreatOwnLit
import Derived.Test.YtpmidoneoonlcaaGreatMbase
import Derived.Deep.RegionHeld3
namespace Go.Proofs.YtpmidoneoonlcaaGreat
open Go.RowKit

/-- A slice of bytes cut at both ends. -/
theorem Bs.cutAt {w : World} {b o c : Nat} {n : Nat} {l : List UInt8} (h : Bs w (.slice (some ⟨b, o, none⟩) n c) l) (k m : Nat) (hkm : k ≤ m) (hm : m ≤ n) :
    Bs w (.slice (some ⟨b, o + k, none⟩) (m - k) (c - k)) ((l.take m).drop k) := by
  obtain ⟨a', c', hv, h1, h2, h3, h4⟩ := h
  cases hv
  have e : ((l.take m).drop k).length = m - k := by simp; omega
  refine ⟨_, _, by rw [e], by omega, by omega, fun h => by simp at h, fun hne => ?_⟩
  have hl : l ≠ [] := by rintro rfl; simp at hne
  obtain ⟨b', o', hb, hc⟩ := h4 hl
  cases hb
  refine ⟨b, o + k, rfl, fun i hi => ?_⟩
  rw [e] at hi
  rw [Nat.add_assoc, hc (k + i) (by omega)]
  have : ((l.take m).drop k).getD i 0 = l.getD (k + i) 0 := by simp [List.getD]; rw [List.getElem?_take_of_lt (by omega)]
  rw [this]

/-- The frame of a unit and a PDU. -/
def aduF (x : UInt8) (l : List UInt8) : List UInt8 := (x :: l) ++ crcTail (x :: l)

theorem aduF_length (x : UInt8) (l : List UInt8) : (aduF x l).length = l.length + 3 := by simp [aduF, crcTail]

set_option maxRecDepth 100000 in
set_option maxHeartbeats 800000 in
theorem poss_yes (u : Int) (h1 : 1 ≤ u) (h2 : u ≤ 247) (w : World) :
    Calls Tryz.prog 59 #[.int .i64 u] w fun r w' => r = .returned (.bool true) ∧ w = w' := by
  go_enter Tryz.func59, Tryz.ntmps59
  go_wp2
  go_ret
  exact ⟨rfl, rfl⟩

set_option maxRecDepth 100000 in
set_option maxHeartbeats 800000 in
theorem poss_no (u : Int) (h1 : u < 1 ∨ 247 < u) (w : World) :
    Calls Tryz.prog 59 #[.int .i64 u] w fun r w' => r = .returned (.bool false) ∧ w = w' := by
  rcases h1 with h1 | h1
  · go_enter Tryz.func59, Tryz.ntmps59
    go_wp2
    go_ret
    exact ⟨rfl, rfl⟩
  · have h2 : 1 ≤ u := by omega
    have hd : decide (u ≤ 247) = false := by simp; omega
    go_enter Tryz.func59, Tryz.ntmps59
    go_wp2
    go_ret
    exact ⟨rfl, rfl⟩

set_option maxRecDepth 100000 in
set_option maxHeartbeats 800000 in
theorem build_range (u : Int) (h1 : u < 1 ∨ 247 < u) (v : Value) (w : World) :
    Calls Tryz.prog 30 #[.int .i64 u, v] w fun r w' => r = .returned (.tuple #[.slice none 0 0, .int .i64 3]) ∧ w = w' := by
  go_enter Tryz.func30, Tryz.ntmps30
  go_wp2_with (first | (go_at_call 59; refine (poss_no _ h1 _).mono ?_; rintro r w1 ⟨rfl, rfl⟩) | fail)
  go_ret2
  exact ⟨rfl, rfl⟩

set_option maxRecDepth 100000 in
set_option maxHeartbeats 800000 in
theorem build_len (u : Int) (h1 : 1 ≤ u) (h2 : u ≤ 247) (v : Value) (l : List UInt8) (hl : l.length < 1 ∨ 253 < l.length) (w : World) (hv : Bs w v l) :
    Calls Tryz.prog 30 #[.int .i64 u, v] w fun r w' => r = .returned (.tuple #[.slice none 0 0, .int .i64 4]) ∧ w = w' := by
  obtain ⟨a, c, rfl, _⟩ := hv
  rcases hl with hl | hl
  · go_enter Tryz.func30, Tryz.ntmps30
    go_wp2_with (first | (go_at_call 59; refine (poss_yes _ h1 h2 _).mono ?_; rintro r w1 ⟨rfl, rfl⟩) | fail)
    go_ret2
    exact ⟨rfl, rfl⟩
  · have h3 : 1 ≤ l.length := by omega
    go_enter Tryz.func30, Tryz.ntmps30
    go_wp2_with (first | (go_at_call 59; refine (poss_yes _ h1 h2 _).mono ?_; rintro r w1 ⟨rfl, rfl⟩) | fail)
    go_ret2
    exact ⟨rfl, rfl⟩

set_option maxRecDepth 100000 in
set_option maxHeartbeats 1600000 in
theorem build_ok (x : UInt8) (h1 : 1 ≤ (x.toNat : Int)) (h2 : (x.toNat : Int) ≤ 247) (v : Value) (l : List UInt8) (h3 : 1 ≤ l.length) (h4 : l.length ≤ 253) (w : World) (hv : Bs w v l) :
    Calls Tryz.prog 30 #[.int .i64 (x.toNat : Int), v] w fun r w' => ∃ v', r = .returned (.tuple #[v', .int .i64 0]) ∧ w'.ownsRow w.heap.size 5 1 v' (l.length + 3) (u8s (aduF x l)) ∧ Below w.heap.size w w' := by
  obtain ⟨i5, hi, hz0, hz1, hz2⟩ := info_parts infoB
  have hb0 : (w.alloc (.cells #[.int .u8 (x.toNat : Int)] 5)).ownsRow w.heap.size 5 1 (.slice (some ⟨w.heap.size, 0, none⟩) 1 1) [x].length (u8s [x]) := own_lit w w.heap.size _ x (Nat.le_refl _)
  have hv1 := hv.keep (bal' w (.cells #[.int .u8 (x.toNat : Int)] 5))
  obtain ⟨a, c, rfl, _⟩ := id hv
  clear hv
  go_enter Tryz.func30, Tryz.ntmps30
  go_wp2_with (first | (go_at_call 59; refine (poss_yes _ h1 h2 _).mono ?_; rintro r w1 ⟨rfl, rfl⟩) | (at_builtin; refine wpList_app rfl _ _ 45 rfl w.heap.size 5 i5 Tryz.underlying45 hi hz0 hz1 hz2 (.slice (some ⟨w.heap.size, 0, none⟩) 1 1) [x] rfl hb0 _ l rfl hv1 ?c1 ?c2 ?c3))
  any_goals first | omega | (simp; done) | (simp; omega)
  case c3 =>
    intro v2 w2 hown hgr
    have hbel := (bal' w (.cells #[.int .u8 (x.toNat : Int)] 5)).grown hgr (bal' w (.cells #[.int .u8 (x.toNat : Int)] 5)).size (by intro k hk; simp [Value.ownBlock] at hk; omega)
    have HB : Hid (Bs w2 v2 (x :: l)) := Bs.own hown
    have hll : (x :: l).length = l.length + 1 := rfl
    have HLL := hid hll
    clear hgr hown hb0 hv1 hll
    go_wp2_with (first | (go_at_call 60; refine (append_any _ _ _ HB.out (by have := HLL.out; omega)).mono ?_; rintro r w3 ⟨v3, rfl, hown3, hbel3⟩) | fail)
    go_ret2
    exact ⟨_, rfl, own_lower hown3 hbel.size, bt hbel hbel3 (Nat.le_refl _)⟩


set_option maxRecDepth 100000 in
set_option maxHeartbeats 800000 in
theorem split_len (v : Value) (l : List UInt8) (hl : l.length < 4 ∨ 256 < l.length) (w : World) (hv : Bs w v l) :
    Calls Tryz.prog 67 #[v] w fun r w' => r = .returned (.tuple #[.int .i64 0, .slice none 0 0, .int .i64 4]) ∧ w = w' := by
  obtain ⟨a, c, rfl, _⟩ := hv
  rcases hl with hl | hl
  · go_enter Tryz.func67, Tryz.ntmps67
    go_wp2
    go_ret3
    exact ⟨rfl, rfl⟩
  · have h3 : 4 ≤ l.length := by omega
    go_enter Tryz.func67, Tryz.ntmps67
    go_wp2
    go_ret3
    exact ⟨rfl, rfl⟩

set_option maxRecDepth 100000 in
set_option maxHeartbeats 800000 in
theorem split_crc (v : Value) (l : List UInt8) (h1 : 4 ≤ l.length) (h2 : l.length ≤ 256) (hc : crcChk l = false) (w : World) (hv : Bs w v l) :
    Calls Tryz.prog 67 #[v] w fun r w' => r = .returned (.tuple #[.int .i64 0, .slice none 0 0, .int .i64 10]) ∧ Below w.heap.size w w' := by
  have HC := hid (check_any v l w hv)
  rw [hc] at HC
  obtain ⟨a, c, rfl, _⟩ := hv
  clear hc
  go_enter Tryz.func67, Tryz.ntmps67
  go_wp2_with (first | (go_at_call 79; refine HC.out.mono ?_; rintro r w1 ⟨rfl, hbel⟩) | fail)
  go_ret3
  exact ⟨rfl, hbel⟩

set_option maxRecDepth 100000 in
set_option maxHeartbeats 800000 in
theorem split_range (v : Value) (l : List UInt8) (h1 : 4 ≤ l.length) (h2 : l.length ≤ 256) (hc : crcChk l = true) (h3 : ((l.getD 0 0).toNat : Int) < 1 ∨ 247 < ((l.getD 0 0).toNat : Int)) (w : World) (hv : Bs w v l) :
    Calls Tryz.prog 67 #[v] w fun r w' => r = .returned (.tuple #[.int .i64 0, .slice none 0 0, .int .i64 3]) ∧ Below w.heap.size w w' := by
  have HC := hid (check_any v l w hv)
  rw [hc] at HC
  obtain ⟨b, o, c, rfl, h4, h5, hcell⟩ := hv.at (by rintro rfl; simp at h1)
  have hc0 : w.cell? ⟨b, o, none⟩ = some (.int .u8 ((l.getD 0 0).toNat : Int)) := hcell 0 (by omega)
  have hx := byte_lt (l.getD 0 0)
  generalize (l.getD 0 0).toNat = x at *
  clear hc hcell hv
  have hp : 0 < l.length := by omega
  go_enter Tryz.func67, Tryz.ntmps67
  go_wp2_with (first | (go_at_call 79; refine HC.out.mono ?_; rintro r w1 ⟨rfl, hbel⟩; replace hc0 := cell_keep hbel hc0) | (go_at_call 59; (with_reducible refine (poss_no _ h3 _).mono ?_); rintro r w2 ⟨rfl, rfl⟩) | fail)
  go_ret3
  exact ⟨rfl, hbel⟩

/-- The PDU of a frame. -/
def aduP (l : List UInt8) : List UInt8 := (l.take (l.length - 2)).drop 1

set_option maxRecDepth 100000 in
set_option maxHeartbeats 1600000 in
theorem split_ok (v : Value) (l : List UInt8) (h1 : 4 ≤ l.length) (h2 : l.length ≤ 256) (hc : crcChk l = true) (h3 : 1 ≤ ((l.getD 0 0).toNat : Int)) (h3' : ((l.getD 0 0).toNat : Int) ≤ 247) (w : World) (hv : Bs w v l) :
    Calls Tryz.prog 67 #[v] w fun r w' => ∃ v', r = .returned (.tuple #[.int .i64 (l.getD 0 0).toNat, v', .int .i64 0]) ∧ w'.ownsRow w.heap.size 5 1 v' (l.length - 3) (u8s (aduP l)) ∧ Below w.heap.size w w' := by
  have HC := hid (check_any v l w hv)
  rw [hc] at HC
  obtain ⟨b, o, c, rfl, h4, h5, hcell⟩ := hv.at (by rintro rfl; simp at h1)
  unfold maxLen at h5
  have hc0 : w.cell? ⟨b, o, none⟩ = some (.int .u8 ((l.getD 0 0).toNat : Int)) := hcell 0 (by omega)
  have HP : Hid (Bs w (.slice (some ⟨b, o + 1, none⟩) (l.length - 2 - 1) (c - 1)) (aduP l)) := hv.cutAt 1 (l.length - 2) (by omega) (by omega)
  have hpl : (aduP l).length = l.length - 3 := by simp [aduP]; omega
  obtain ⟨n, hn⟩ : ∃ n, l.length = n + 3 := ⟨l.length - 3, by omega⟩
  rw [hn] at h1 h2 h4 hpl HP HC ⊢
  rw [show n + 3 - 2 - 1 = n by omega] at HP
  rw [show n + 3 - 3 = n by omega] at hpl ⊢
  generalize (l.getD 0 0).toNat = x at *
  generalize aduP l = p at *
  have HPL := hid hpl
  clear hc hcell hv hn hpl
  go_enter Tryz.func67, Tryz.ntmps67
  go_wp2_with (first | (go_at_call 79; refine HC.out.mono ?_; rintro r w1 ⟨rfl, hbel⟩; replace hc0 := cell_keep hbel hc0) | (go_at_call 59; refine (poss_yes _ h3 h3' _).mono ?_; rintro r w2 ⟨rfl, rfl⟩) | fail)
  have HP1 : Hid (Bs w1.drew (.slice (some ⟨b, o + 1, none⟩) n (c - 1)) p) := HP.out.keep hbel.drew
  have q0 : IntKind.i64.wrap (x : Int) = x := IntWalk.i64_in _ (by omega)
  have q5 : ¬ c = 1 := by omega
  have q1 : (0 : Int) < (n : Int) + 3 := by omega
  have q2 : IntKind.i64.wrap ((n : Int) + 3 - 2) = (n : Int) + 1 := by rw [IntWalk.i64_in _ (by omega)]; omega
  have q3 : (1 : Int) ≤ (n : Int) + 1 := by omega
  have q4 : (n : Int) + 1 ≤ (c : Int) := by omega
  go_region_held3 (fun W => W.cell? ⟨b, o, none⟩ = some (.int .u8 x)) ((first | assumption | (exact cell_keep (by assumption) (by assumption)))) ((go_at_call 55; refine (clone_any _ _ _ HP1.out (by have := HPL.out; omega)).mono ?_; rintro r w3 ⟨v', rfl, hown, hbel3⟩))
  go_wp2
  go_ret3
  exact ⟨_, rfl, by rw [HPL.out] at hown; exact own_lower hown hbel.size, bt hbel.drew hbel3 (Nat.le_refl _)⟩

end Go.Proofs.YtpmidoneoonlcaaGreat
