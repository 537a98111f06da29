/-
  The contracts of package store.
-/
import Derived.Test.YthkclnehekbpgaaClone
import Derived.Deep.QuietTactic
import Derived.BigQuiet
import Derived.Deep.RegionLaw
import Derived.Test.YthkclnehekbpgaaMake
namespace Go.Proofs.Ythkclnehekbpgaa
open Go.RowKit

/-- Block b is a store of this capacity that holds these bytes, in a row of its own (v), from block 'base' on. -/
structure St (w : World) (base b : Nat) (cap : Nat) (bs : List UInt8) (v : Value) : Prop where
  heap : w.heap[b]? = some (.cells #[.int .i64 cap, v] 76 (0, 0))
  low : base ≤ b
  own : w.ownsRow base 5 1 v bs.length (u8s bs)
  apart : v.ownBlock ≠ some b

/-- The blocks of a store. -/
def StF (b : Nat) (v : Value) : Nat → Prop := fun k => k = b ∨ v.ownBlock = some k

theorem St.cell0 {w : World} {base b cap : Nat} {bs : List UInt8} {v : Value} (h : St w base b cap bs v) : w.cell? ⟨b, 0, none⟩ = some (.int .i64 cap) := by
  simp [World.cell?, h.heap]
theorem St.cell1 {w : World} {base b cap : Nat} {bs : List UInt8} {v : Value} (h : St w base b cap bs v) : w.cell? ⟨b, 1, none⟩ = some v := by
  simp [World.cell?, h.heap]
theorem St.free {w : World} {base b cap : Nat} {bs : List UInt8} {v : Value} (h : St w base b cap bs v) (i : Nat) : w.frozen? ⟨b, i, none⟩ = false := by
  simp [World.frozen?, h.heap]
theorem St.lt {w : World} {base b cap : Nat} {bs : List UInt8} {v : Value} (h : St w base b cap bs v) : b < w.heap.size := (Array.getElem?_eq_some_iff.1 h.heap).1
theorem St.val {w : World} {base b cap : Nat} {bs : List UInt8} {v : Value} (h : St w base b cap bs v) : ∃ a c, v = .slice a bs.length c ∧ bs.length ≤ c ∧ c ≤ maxLen := by
  obtain ⟨a, c, hv, h1, h2, _⟩ := Bs.own h.own
  exact ⟨a, c, hv, h1, h2⟩

theorem St.keeps {w w' : World} {F : Nat → Prop} {base b cap : Nat} {bs : List UInt8} {v : Value} (h : St w base b cap bs v) (hk : Keeps F w w') (h1 : ¬ F b) (h2 : ∀ k, v.ownBlock = some k → ¬ F k) : St w' base b cap bs v :=
  ⟨by rw [hk.block b h.lt h1]; exact h.heap, h.low, own_keeps h.own hk h2, h.apart⟩
theorem St.below {w w' : World} {base b cap : Nat} {bs : List UInt8} {v : Value} (h : St w base b cap bs v) (hk : Below w.heap.size w w') : St w' base b cap bs v :=
  h.keeps (F := fun _ => False) (Keeps.of_below hk) (fun f => f) (fun _ _ f => f)

theorem heap_set {w : World} {b : Nat} {c : Array Value} {t : TypeId} {fz : Nat × Nat} (h : w.heap[b]? = some (.cells c t fz)) (i : Nat) (u : Value) :
    (w.setCell ⟨b, i, none⟩ u).heap[b]? = some (.cells (c.setIfInBounds i u) t fz) := by
  simp [World.setCell, Array.getElem?_modify, h]

/-- The store's row replaced. -/
theorem St.put {w w' : World} {base b cap : Nat} {bs bs' : List UInt8} {v v' : Value} (h : St w base b cap bs v) (hheap : w'.heap[b]? = some (.cells #[.int .i64 cap, v] 76 (0, 0)))
    (hown : w'.ownsRow base 5 1 v' bs'.length (u8s bs')) (hap : v'.ownBlock ≠ some b) : St (w'.setCell ⟨b, 1, none⟩ v') base b cap bs' v' := by
  refine ⟨?_, h.low, ?_, hap⟩
  · rw [heap_set hheap]; rfl
  · obtain ⟨hl, h | ⟨g, c, cur, hv, hg, hh, r⟩⟩ := hown
    · exact ⟨hl, .inl h⟩
    · refine ⟨hl, .inr ⟨g, c, cur, hv, hg, ?_, r⟩⟩
      rw [Below.heap_setCell _ _ _ _ (by rintro rfl; exact hap (by rw [hv]; rfl))]
      exact hh

theorem un35 : Try.prog.underlying 35 = some (.pointer 76) := Try.underlying35

set_option maxHeartbeats 800000 in
theorem new_ok (c : Nat) (hc : c ≤ 1000000) (w : World) (base : Nat) (hb : base ≤ w.heap.size) :
    Calls Try.prog 25 #[.int .i64 c] w fun r w' => r = .returned (.pointer (some ⟨w.heap.size, 0, none⟩)) ∧ St w' base w.heap.size c [] (.slice none 0 0) ∧ Below w.heap.size w w' ∧ w.heap.size < w'.heap.size := by
  go_enter Try.func25, Try.ntmps25
  go_wp2
  go_ret
  refine ⟨rfl, ⟨heap_alloc_new _ _, hb, World.ownsRow_nil _ _ _ _, by simp [Value.ownBlock]⟩, (Below.refl _ _).alloc (Nat.le_refl _) _, by simp⟩

set_option maxHeartbeats 800000 in
theorem new_no (c : Int) (hc : c < 0 ∨ 1000000 < c) (w : World) :
    Calls Try.prog 25 #[.int .i64 c] w fun r w' => r = .returned (.pointer none) ∧ w = w' := by
  rcases hc with hc | hc
  · go_enter Try.func25, Try.ntmps25
    go_wp2
    go_ret
    exact ⟨rfl, rfl⟩
  · have h0 : ¬ c < 0 := by omega
    go_enter Try.func25, Try.ntmps25
    go_wp2
    go_ret
    exact ⟨rfl, rfl⟩

set_option maxHeartbeats 800000 in
theorem room_any (w : World) (base b cap : Nat) (bs : List UInt8) (v : Value) (hs : St w base b cap bs v) (hle : bs.length ≤ cap) (hcap : cap ≤ 1000000) :
    Calls Try.prog 33 #[.pointer (some ⟨b, 0, none⟩)] w fun r w' => r = .returned (.int .i64 ((cap : Int) - bs.length)) ∧ Below w.heap.size w w' := by
  obtain ⟨a, c, rfl, h1, h2⟩ := hs.val
  have hc0 := hs.cell0
  have hc1 := hs.cell1
  clear hs
  go_enter Try.func33, Try.ntmps33
  go_wp2
  go_quiet (fail)
  go_wp2
  go_ret
  exact ⟨rfl, below_drewN (Below.refl _ _) _⟩

set_option maxHeartbeats 800000 in
theorem len_any (w : World) (base b cap : Nat) (bs : List UInt8) (v : Value) (hs : St w base b cap bs v) :
    Calls Try.prog 32 #[.pointer (some ⟨b, 0, none⟩)] w fun r w' => r = .returned (.int .i64 bs.length) ∧ w = w' := by
  obtain ⟨a, c, rfl, h1, h2⟩ := hs.val
  have hc1 := hs.cell1
  clear hs
  go_enter Try.func32, Try.ntmps32
  go_wp2
  go_ret
  exact ⟨rfl, rfl⟩

set_option maxHeartbeats 800000 in
theorem sbytes_any (w : World) (base b cap : Nat) (bs : List UInt8) (v : Value) (hs : St w base b cap bs v) (hle : bs.length ≤ 1000000) :
    Calls Try.prog 27 #[.pointer (some ⟨b, 0, none⟩)] w fun r w' => ∃ v', r = .returned v' ∧ w'.ownsRow w.heap.size 5 1 v' bs.length (u8s bs) ∧ Below w.heap.size w w' := by
  have hbs := hid (Bs.own hs.own)
  have hc1 := hs.cell1
  obtain ⟨a, c, rfl, h1, h2⟩ := hs.val
  clear hs
  go_enter Try.func27, Try.ntmps27
  go_wp2_with (first | (go_at_call 52; refine (clone_any _ _ _ hbs.out (by omega)).mono ?_; rintro r w1 ⟨v', rfl, hown, hbel⟩) | fail)
  go_ret
  exact ⟨_, rfl, hown, hbel⟩

set_option maxHeartbeats 800000 in
theorem nil_all (w : World) :
    (Calls Try.prog 33 #[.pointer none] w fun r w' => r = .returned (.int .i64 0) ∧ w = w') ∧
    (Calls Try.prog 32 #[.pointer none] w fun r w' => r = .returned (.int .i64 0) ∧ w = w') ∧
    (Calls Try.prog 27 #[.pointer none] w fun r w' => r = .returned (.slice none 0 0) ∧ w = w') := by
  refine ⟨?_, ?_, ?_⟩
  · go_enter Try.func33, Try.ntmps33
    go_wp2
    go_ret
    exact ⟨rfl, rfl⟩
  · go_enter Try.func32, Try.ntmps32
    go_wp2
    go_ret
    exact ⟨rfl, rfl⟩
  · go_enter Try.func27, Try.ntmps27
    go_wp2
    go_ret
    exact ⟨rfl, rfl⟩

/-- What Tear keeps of the bytes that it is handed. -/
def tornBy (x : List UInt8) (keep : Int) : List UInt8 := x.take (max 0 (min keep x.length)).toNat

set_option maxHeartbeats 1600000 in
theorem tear_full (w : World) (base b cap : Nat) (bs : List UInt8) (v : Value) (hs : St w base b cap bs v) (hle : bs.length ≤ cap) (hcap : cap ≤ 1000000) (xv : Value) (x : List UInt8) (hx : Bs w xv x) (keep : Int)
    (hroom : (cap : Int) - bs.length < x.length) :
    Calls Try.prog 30 #[.pointer (some ⟨b, 0, none⟩), xv, .int .i64 keep] w fun r w' => r = .returned (.int .i64 11) ∧ Below w.heap.size w w' := by
  obtain ⟨a, c, rfl, _⟩ := hx
  go_enter Try.func30, Try.ntmps30
  go_wp2_with (first | (go_at_call 33; refine (room_any _ _ _ _ _ _ hs hle hcap).mono ?_; rintro r w1 ⟨rfl, hbel⟩) | fail)
  go_ret
  exact ⟨rfl, hbel⟩

set_option maxHeartbeats 3200000 in
theorem tear_ok (w : World) (base b cap : Nat) (bs : List UInt8) (v : Value) (hs : St w base b cap bs v) (hle : bs.length ≤ cap) (hcap : cap ≤ 1000000) (xv : Value) (x : List UInt8) (hx : Bs w xv x) (keep : Int)
    (hroom : (x.length : Int) ≤ (cap : Int) - bs.length) :
    Calls Try.prog 30 #[.pointer (some ⟨b, 0, none⟩), xv, .int .i64 keep] w fun r w' => r = .returned (.int .i64 0) ∧ ∃ v', St w' base b cap (bs ++ tornBy x keep) v' ∧ Keeps (StF b v) w w' ∧ NewOr w v v' := by
  obtain ⟨i5, hi, hz0, hz1, hz2⟩ := info_parts infoB
  obtain ⟨a, c, rfl, hac, hcm, _⟩ := id hx
  obtain ⟨k, hk, hk2⟩ : ∃ k : Nat, max 0 (min keep (x.length : Int)) = k ∧ k ≤ x.length := ⟨(max 0 (min keep (x.length : Int))).toNat, by omega, by omega⟩
  have ht : tornBy x keep = x.take k := by unfold tornBy; rw [hk]; rfl
  have HT := hid ht
  have HXK := hid (bs_take hx k hk2).1
  have HK := hid hk
  unfold maxLen at hcm
  obtain ⟨va, vc, rfl, hv1, hv2⟩ := hs.val
  have hc1 := hs.cell1
  clear ht hx hk
  go_enter Try.func30, Try.ntmps30
  go_wp2_with (first | (go_at_call 33; refine (room_any _ _ _ _ _ _ hs hle hcap).mono ?_; rintro r w1 ⟨rfl, hbel⟩) | fail)
  have hc1' : w1.cell? ⟨b, 1, none⟩ = some (.slice va bs.length vc) := by rw [hbel.cell (cell_lt hc1)]; exact hc1
  have HS := hid (hs.below hbel)
  have hf1 : w1.frozen? ⟨b, 1, none⟩ = false := HS.out.free 1
  have HXB := hid (HXK.out.keep hbel)
  have hbase : base ≤ w1.heap.size := Nat.le_of_lt (Nat.lt_of_le_of_lt HS.out.low HS.out.lt)
  have hlow := HS.out.low
  clear hs hc1
  have hmm : (if (0 : Int) < (if (x.length : Int) < keep then (x.length : Int) else keep) then (if (x.length : Int) < keep then (x.length : Int) else keep) else 0) = (k : Int) := by
    have := HK.out
    split <;> split <;> omega
  have hkc : k ≤ c := by omega
  go_region_law (refine step_appB rfl _ _ 26 rfl base 5 i5 Try.underlying26 hi hz0 hz1 hz2 (.slice va bs.length vc) bs rfl HS.out.own (.slice a k c) (x.take k) rfl HXB.out (by simp; omega) hbase ?_; intro v' w2 hown hgr hnew; obtain ⟨a2, cc2, rfl⟩ := own_slice hown; have hc2 := hgr.cell hc1' (fun e => HS.out.apart e.symm); have hf2 : w2.frozen? ⟨b, 1, none⟩ = false := by rw [World.frozen?_of_block (w := w1) (hgr.block b HS.out.lt (fun e => HS.out.apart e.symm))]; exact hf1)
  all_goals
    have hk3 : (x.take k).length = k := by simp; omega
    rw [hk3] at hown hnew
    have hap : (Value.slice a2 (bs.length + k) cc2).ownBlock ≠ some b := by
      intro e
      rcases hnew with h | ⟨j, h, hj⟩
      · exact HS.out.apart (h ▸ e)
      · rw [e] at h
        cases h
        have := HS.out.lt
        have hj' : w1.heap.size ≤ b := hj
        omega
    have hst : St (w2.setCell ⟨b, 1, none⟩ (.slice a2 (bs.length + k) cc2)) base b cap (bs ++ x.take k) (.slice a2 (bs.length + k) cc2) := by
      refine HS.out.put ?_ ?_ hap
      · rw [hgr.block b HS.out.lt (fun e => HS.out.apart e.symm)]; exact HS.out.heap
      · rw [show (bs ++ x.take k).length = bs.length + k by rw [List.length_append, hk3]]; exact hown
    have hkeeps : Keeps (StF b (.slice va bs.length vc)) w (w2.setCell ⟨b, 1, none⟩ (.slice a2 (bs.length + k) cc2)) := by
      refine Keeps.set ?_ _ _ (.inl rfl)
      exact (Keeps.of_below hbel).trans (Keeps.of_grown (F := StF b (.slice va bs.length vc)) (w := w1) ⟨hgr.os, hgr.tape, hgr.output, hgr.size, hgr.block⟩ (fun j hj => .inr hj)) (fun _ _ h => h)
    have hnw : NewOr w (.slice va bs.length vc) (.slice a2 (bs.length + k) cc2) := by
      rcases hnew with h | ⟨j, h, hj⟩
      · exact .inl h
      · exact .inr ⟨j, h, Nat.le_trans hbel.size hj⟩
    replace hst := hid hst
    replace hkeeps := hid hkeeps
    replace hnw := hid hnw
    clear hown hgr hnew hap hmm hk3
    go_wp2
    all_goals
      go_ret
      exact ⟨rfl, _, by rw [HT.out]; exact hst.out, hkeeps.out, hnw.out⟩

set_option maxHeartbeats 1600000 in
theorem append_full (w : World) (base b cap : Nat) (bs : List UInt8) (v : Value) (hs : St w base b cap bs v) (hle : bs.length ≤ cap) (hcap : cap ≤ 1000000) (xv : Value) (x : List UInt8) (hx : Bs w xv x)
    (hroom : (cap : Int) - bs.length < x.length) :
    Calls Try.prog 26 #[.pointer (some ⟨b, 0, none⟩), xv] w fun r w' => r = .returned (.int .i64 11) ∧ Below w.heap.size w w' := by
  have HC := hid (tear_full w base b cap bs v hs hle hcap xv x hx x.length hroom)
  obtain ⟨a, c, rfl, _⟩ := hx
  clear hs
  go_enter Try.func26, Try.ntmps26
  go_wp2_with (first | (go_at_call 30; refine HC.out.mono ?_; rintro r w1 ⟨rfl, hbel⟩) | fail)
  go_ret
  exact ⟨rfl, hbel⟩

set_option maxHeartbeats 1600000 in
theorem append_ok (w : World) (base b cap : Nat) (bs : List UInt8) (v : Value) (hs : St w base b cap bs v) (hle : bs.length ≤ cap) (hcap : cap ≤ 1000000) (xv : Value) (x : List UInt8) (hx : Bs w xv x)
    (hroom : (x.length : Int) ≤ (cap : Int) - bs.length) :
    Calls Try.prog 26 #[.pointer (some ⟨b, 0, none⟩), xv] w fun r w' => r = .returned (.int .i64 0) ∧ ∃ v', St w' base b cap (bs ++ x) v' ∧ Keeps (StF b v) w w' ∧ NewOr w v v' := by
  have ht : tornBy x x.length = x := by
    unfold tornBy
    rw [show (max 0 (min (x.length : Int) (x.length : Int))).toNat = x.length by omega, List.take_length]
  have HC := tear_ok w base b cap bs v hs hle hcap xv x hx x.length hroom
  rw [ht] at HC
  replace HC := hid HC
  obtain ⟨a, c, rfl, _⟩ := hx
  clear hs ht
  go_enter Try.func26, Try.ntmps26
  go_wp2_with (first | (go_at_call 30; refine HC.out.mono ?_; rintro r w1 ⟨rfl, hpost⟩; replace hpost := hid hpost) | fail)
  go_ret
  exact ⟨rfl, hpost.out⟩

set_option maxHeartbeats 1600000 in
theorem truncate_no (w : World) (base b cap : Nat) (bs : List UInt8) (v : Value) (hs : St w base b cap bs v) (n : Int) (hn : n < 0 ∨ (bs.length : Int) < n) :
    Calls Try.prog 31 #[.pointer (some ⟨b, 0, none⟩), .int .i64 n] w fun r w' => r = .returned (.int .i64 3) ∧ w = w' := by
  obtain ⟨va, vc, rfl, hv1, hv2⟩ := hs.val
  have hc1 := hs.cell1
  clear hs
  by_cases h0 : n < 0
  · clear hn
    go_enter Try.func31, Try.ntmps31
    go_wp2
    go_ret
    exact ⟨rfl, rfl⟩
  · have h1 : (bs.length : Int) < n := by omega
    clear hn
    go_enter Try.func31, Try.ntmps31
    go_wp2
    go_ret
    exact ⟨rfl, rfl⟩

set_option maxHeartbeats 1600000 in
theorem truncate_ok (w : World) (base b cap : Nat) (bs : List UInt8) (v : Value) (hs : St w base b cap bs v) (n : Nat) (hn : n ≤ bs.length) :
    Calls Try.prog 31 #[.pointer (some ⟨b, 0, none⟩), .int .i64 n] w fun r w' => r = .returned (.int .i64 0) ∧ ∃ v', St w' base b cap (bs.take n) v' ∧ Keeps (StF b v) w w' ∧ v'.ownBlock = v.ownBlock := by
  obtain ⟨va, vc, rfl, hv1, hv2⟩ := hs.val
  have hc1 := hs.cell1
  have hf1 := hs.free 1
  have hnc : n ≤ vc := by omega
  have hst : St (w.setCell ⟨b, 1, none⟩ (.slice va n vc)) base b cap (bs.take n) (.slice va n vc) := by
    refine hs.put hs.heap ?_ (by have := hs.apart; cases va <;> exact this)
    rw [show (bs.take n).length = n by simp; omega]
    obtain ⟨hl, ⟨h1, h2⟩ | ⟨g, c, cur, hv, hg, hh, h1, h2, h3, h4⟩⟩ := hs.own
    · simp only [Value.slice.injEq] at h1
      obtain ⟨rfl, h0, rfl⟩ := h1
      have : n = 0 := by omega
      subst this
      simpa [u8s] using World.ownsRow_nil w base 5 1
    · simp only [Value.slice.injEq] at hv
      obtain ⟨rfl, _, rfl⟩ := hv
      have h5 := own_cut (w := w) (base := base) (e := 5) (g := g) (n := bs.length) (cap := vc) (k := n) (xs := u8s bs) ⟨hl, .inr ⟨g, vc, cur, rfl, hg, hh, h1, h2, h3, h4⟩⟩ hn
      simpa [u8s, List.map_take] using h5
  have hkeeps : Keeps (StF b (.slice va bs.length vc)) w (w.setCell ⟨b, 1, none⟩ (.slice va n vc)) := (Keeps.refl _ _).set _ _ (.inl rfl)
  replace hst := hid hst
  replace hkeeps := hid hkeeps
  clear hs
  go_enter Try.func31, Try.ntmps31
  go_wp2
  go_ret
  exact ⟨rfl, _, hst.out, hkeeps.out, by cases va <;> rfl⟩

set_option maxHeartbeats 1600000 in
theorem nil_more (w : World) (xv : Value) (x : List UInt8) (hx : Bs w xv x) (n : Int) :
    (Calls Try.prog 26 #[.pointer none, xv] w fun r w' => r = .returned (.int .i64 13) ∧ w = w') ∧
    (Calls Try.prog 30 #[.pointer none, xv, .int .i64 n] w fun r w' => r = .returned (.int .i64 13) ∧ w = w') ∧
    (Calls Try.prog 31 #[.pointer none, .int .i64 n] w fun r w' => r = .returned (.int .i64 13) ∧ w = w') := by
  obtain ⟨a, c, rfl, _⟩ := hx
  have ht : ∀ m : Int, Calls Try.prog 30 #[.pointer none, .slice a x.length c, .int .i64 m] w fun r w' => r = .returned (.int .i64 13) ∧ w = w' := by
    intro m
    go_enter Try.func30, Try.ntmps30
    go_wp2
    go_ret
    exact ⟨rfl, rfl⟩
  refine ⟨?_, ht n, ?_⟩
  · have HC := hid (ht x.length)
    clear ht
    go_enter Try.func26, Try.ntmps26
    go_wp2_with (first | (go_at_call 30; refine HC.out.mono ?_; rintro r w1 ⟨rfl, rfl⟩) | fail)
    go_ret
    exact ⟨rfl, rfl⟩
  · clear ht
    go_enter Try.func31, Try.ntmps31
    go_wp2
    go_ret
    exact ⟨rfl, rfl⟩

end Go.Proofs.Ythkclnehekbpgaa
