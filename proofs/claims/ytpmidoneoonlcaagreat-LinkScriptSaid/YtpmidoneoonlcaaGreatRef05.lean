/-
  The contracts of the reference's Build and Split, and the walks of the laws on frames.
-/
import Derived.Test.YtpmidoneoonlcaaGreatAdu
namespace Go.Proofs.YtpmidoneoonlcaaGreat
open Go.RowKit

set_option maxRecDepth 100000 in
set_option maxHeartbeats 800000 in
theorem rbuild_range (u : Int) (h1 : u < 1 ∨ 247 < u) (v : Value) (w : World) :
    Calls Tryz.prog 87 #[.int .i64 u, v] w fun r w' => r = .returned (.tuple #[.slice none 0 0, .int .i64 3]) ∧ w = w' := by
  rcases h1 with h1 | h1
  · go_enter Tryz.func87, Tryz.ntmps87
    go_wp2
    go_ret2
    exact ⟨rfl, rfl⟩
  · have h2 : ¬ u < 1 := by omega
    go_enter Tryz.func87, Tryz.ntmps87
    go_wp2
    go_ret2
    exact ⟨rfl, rfl⟩

set_option maxRecDepth 100000 in
set_option maxHeartbeats 800000 in
theorem rbuild_len (u : Int) (h1 : 1 ≤ u) (h2 : u ≤ 247) (v : Value) (l : List UInt8) (hl : l.length < 1 ∨ 253 < l.length) (w : World) (hv : Bs w v l) :
    Calls Tryz.prog 87 #[.int .i64 u, v] w fun r w' => r = .returned (.tuple #[.slice none 0 0, .int .i64 4]) ∧ w = w' := by
  obtain ⟨a, c, rfl, _⟩ := hv
  rcases hl with hl | hl
  · go_enter Tryz.func87, Tryz.ntmps87
    go_wp2
    go_ret2
    exact ⟨rfl, rfl⟩
  · have h3 : 1 ≤ l.length := by omega
    go_enter Tryz.func87, Tryz.ntmps87
    go_wp2
    go_ret2
    exact ⟨rfl, rfl⟩

set_option maxRecDepth 100000 in
set_option maxHeartbeats 1600000 in
theorem rbuild_ok (x : UInt8) (h1 : 1 ≤ (x.toNat : Int)) (h2 : (x.toNat : Int) ≤ 247) (v : Value) (l : List UInt8) (h3 : 1 ≤ l.length) (h4 : l.length ≤ 253) (w : World) (hv : Bs w v l) :
    Calls Tryz.prog 87 #[.int .i64 (x.toNat : Int), v] w fun r w' => ∃ v', r = .returned (.tuple #[v', .int .i64 0]) ∧ w'.ownsRow w.heap.size 5 1 v' (l.length + 3) (u8s (aduF x l)) ∧ Below w.heap.size w w' := by
  obtain ⟨i5, hi, hz0, hz1, hz2⟩ := info_parts infoB
  have hb0 : (w.alloc (.cells #[.int .u8 (x.toNat : Int)] 5)).ownsRow w.heap.size 5 1 (.slice (some ⟨w.heap.size, 0, none⟩) 1 1) [x].length (u8s [x]) := own_lit w w.heap.size _ x (Nat.le_refl _)
  have hv1 := hv.keep (bal' w (.cells #[.int .u8 (x.toNat : Int)] 5))
  obtain ⟨a, c, rfl, _⟩ := id hv
  clear hv
  go_enter Tryz.func87, Tryz.ntmps87
  go_wp2_with (first | (at_builtin; refine wpList_app rfl _ _ 45 rfl w.heap.size 5 i5 Tryz.underlying45 hi hz0 hz1 hz2 (.slice (some ⟨w.heap.size, 0, none⟩) 1 1) [x] rfl hb0 _ l rfl hv1 ?c1 ?c2 ?c3))
  any_goals first | omega | (simp; done) | (simp; omega)
  case c3 =>
    intro v2 w2 hown hgr
    have hbel := (bal' w (.cells #[.int .u8 (x.toNat : Int)] 5)).grown hgr (bal' w (.cells #[.int .u8 (x.toNat : Int)] 5)).size (by intro k hk; simp [Value.ownBlock] at hk; omega)
    have HB : Hid (Bs w2 v2 (x :: l)) := Bs.own hown
    have hll : (x :: l).length = l.length + 1 := rfl
    have HLL := hid hll
    clear hgr hown hb0 hv1 hll
    go_wp2_with (first | (go_at_call 97; refine (rappend_any2 _ _ _ HB.out (by have := HLL.out; omega)).mono ?_; rintro r w3 ⟨v3, rfl, hown3, hbel3⟩) | fail)
    go_ret2
    exact ⟨_, rfl, own_lower hown3 hbel.size, bt hbel hbel3 (Nat.le_refl _)⟩

set_option maxRecDepth 100000 in
set_option maxHeartbeats 800000 in
theorem rsplit_len (v : Value) (l : List UInt8) (hl : l.length < 4 ∨ 256 < l.length) (w : World) (hv : Bs w v l) :
    Calls Tryz.prog 69 #[v] w fun r w' => r = .returned (.tuple #[.int .i64 0, .slice none 0 0, .int .i64 4]) ∧ w = w' := by
  obtain ⟨a, c, rfl, _⟩ := hv
  rcases hl with hl | hl
  · go_enter Tryz.func69, Tryz.ntmps69
    go_wp2
    go_ret3
    exact ⟨rfl, rfl⟩
  · have h3 : 4 ≤ l.length := by omega
    go_enter Tryz.func69, Tryz.ntmps69
    go_wp2
    go_ret3
    exact ⟨rfl, rfl⟩

set_option maxRecDepth 100000 in
set_option maxHeartbeats 800000 in
theorem rsplit_crc (v : Value) (l : List UInt8) (h1 : 4 ≤ l.length) (h2 : l.length ≤ 256) (hc : crcChk l = false) (w : World) (hv : Bs w v l) :
    Calls Tryz.prog 69 #[v] w fun r w' => r = .returned (.tuple #[.int .i64 0, .slice none 0 0, .int .i64 10]) ∧ Below w.heap.size w w' := by
  have HC := hid (rcheck_any2 v l w hv (by omega))
  rw [hc] at HC
  obtain ⟨a, c, rfl, _⟩ := hv
  clear hc
  go_enter Tryz.func69, Tryz.ntmps69
  go_wp2_with (first | (go_at_call 82; refine HC.out.mono ?_; rintro r w1 ⟨rfl, hbel⟩) | fail)
  go_ret3
  exact ⟨rfl, hbel⟩

set_option maxRecDepth 100000 in
set_option maxHeartbeats 800000 in
theorem rsplit_range (v : Value) (l : List UInt8) (h1 : 4 ≤ l.length) (h2 : l.length ≤ 256) (hc : crcChk l = true) (h3 : ((l.getD 0 0).toNat : Int) < 1 ∨ 247 < ((l.getD 0 0).toNat : Int)) (w : World) (hv : Bs w v l) :
    Calls Tryz.prog 69 #[v] w fun r w' => r = .returned (.tuple #[.int .i64 0, .slice none 0 0, .int .i64 3]) ∧ Below w.heap.size w w' := by
  have HC := hid (rcheck_any2 v l w hv (by omega))
  rw [hc] at HC
  obtain ⟨b, o, c, rfl, h4, h5, hcell⟩ := hv.at (by rintro rfl; simp at h1)
  have hc0 : w.cell? ⟨b, o, none⟩ = some (.int .u8 ((l.getD 0 0).toNat : Int)) := hcell 0 (by omega)
  have hx := byte_lt (l.getD 0 0)
  generalize (l.getD 0 0).toNat = x at *
  clear hc hcell hv
  have hp : 0 < l.length := by omega
  rcases h3 with h3 | h3
  all_goals
    go_enter Tryz.func69, Tryz.ntmps69
    go_wp2_with (first | (go_at_call 82; refine HC.out.mono ?_; rintro r w1 ⟨rfl, hbel⟩; replace hc0 := cell_keep hbel hc0) | fail)
    go_ret3
    exact ⟨rfl, hbel⟩

set_option maxRecDepth 100000 in
set_option maxHeartbeats 1600000 in
theorem rsplit_ok (v : Value) (l : List UInt8) (h1 : 4 ≤ l.length) (h2 : l.length ≤ 256) (hc : crcChk l = true) (h3 : 1 ≤ ((l.getD 0 0).toNat : Int)) (h3' : ((l.getD 0 0).toNat : Int) ≤ 247) (w : World) (hv : Bs w v l) :
    Calls Tryz.prog 69 #[v] w fun r w' => ∃ v', r = .returned (.tuple #[.int .i64 (l.getD 0 0).toNat, v', .int .i64 0]) ∧ w'.ownsRow w.heap.size 5 1 v' (l.length - 3) (u8s (aduP l)) ∧ Below w.heap.size w w' := by
  obtain ⟨i5, hi, hz0, hz1, hz2⟩ := info_parts infoB
  have HC := hid (rcheck_any2 v l w hv (by omega))
  rw [hc] at HC
  obtain ⟨b, o, c, rfl, h4, h5, hcell⟩ := hv.at (by rintro rfl; simp at h1)
  unfold maxLen at h5
  have hc0 : w.cell? ⟨b, o, none⟩ = some (.int .u8 ((l.getD 0 0).toNat : Int)) := hcell 0 (by omega)
  have HP : Hid (Bs w (.slice (some ⟨b, o + 1, none⟩) (l.length - 2 - 1) (c - 1)) (aduP l)) := hv.cutAt 1 (l.length - 2) (by omega) (by omega)
  have hpl : (aduP l).length = l.length - 3 := by simp [aduP]; omega
  obtain ⟨n, hn⟩ : ∃ n, l.length = n + 3 := ⟨l.length - 3, by omega⟩
  rw [hn] at h1 h2 h4 hpl HP HC ⊢
  rw [show n + 3 - 2 - 1 = n by omega] at HP
  rw [show n + 3 - 3 = n by omega] at hpl ⊢
  generalize (l.getD 0 0).toNat = x at *
  generalize aduP l = p at *
  have HPL := hid hpl
  clear hc hcell hv hn hpl
  go_enter Tryz.func69, Tryz.ntmps69
  go_wp2_with (first | (go_at_call 82; refine HC.out.mono ?_; rintro r w1 ⟨rfl, hbel⟩; replace hc0 := cell_keep hbel hc0) | fail)
  have HP1 : Hid (Bs w1.drew (.slice (some ⟨b, o + 1, none⟩) n (c - 1)) p) := HP.out.keep hbel.drew
  have q0 : IntKind.i64.wrap (x : Int) = x := IntWalk.i64_in _ (by omega)
  have q5 : ¬ c = 1 := by omega
  have q1 : (0 : Int) < (n : Int) + 3 := by omega
  have q2 : IntKind.i64.wrap ((n : Int) + 3 - 2) = (n : Int) + 1 := by rw [IntWalk.i64_in _ (by omega)]; omega
  have q3 : (1 : Int) ≤ (n : Int) + 1 := by omega
  have q4 : (n : Int) + 1 ≤ (c : Int) := by omega
  go_region_held3 (fun W => W.cell? ⟨b, o, none⟩ = some (.int .u8 x)) ((first | assumption | (exact cell_keep (by assumption) (by assumption)))) ((refine step_appB rfl _ _ 45 rfl w1.heap.size 5 i5 Tryz.underlying45 hi hz0 hz1 hz2 (.slice none 0 0) [] rfl (World.ownsRow_nil _ _ _ _) _ p rfl HP1.out (by rw [HPL.out]; simp; omega) (Nat.le_refl _) ?_; intro v' w3 hown hgr _; have hbel3 := (Below.refl w1.drew.heap.size w1.drew).grown hgr (Nat.le_refl _) (by intro k hk; simp [Value.ownBlock] at hk)))
  go_wp2
  go_ret3
  exact ⟨_, rfl, by simp only [List.length_nil, Nat.zero_add, List.nil_append] at hown; rw [HPL.out] at hown; exact own_lower hown hbel.size, bt hbel.drew hbel3 (Nat.le_refl _)⟩

end Go.Proofs.YtpmidoneoonlcaaGreat
