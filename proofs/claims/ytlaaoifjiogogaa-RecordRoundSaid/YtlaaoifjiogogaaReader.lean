/-
  The contracts of the reader's methods take and number.
-/
import Derived.Test.YtlaaoifjiogogaaCutB
import Derived.Test.YtlaaoifjiogogaaClone
import Derived.Test.YtlaaoifjiogogaaHeapL
import Derived.Deep.OwnRows
namespace Go.Proofs.Ytlaaoifjiogogaa
open Go.RowKit

/-- The reader at block p, its bytes in the world w0: what is left of the bytes, and whether reading has failed. -/
structure RS (w0 w : World) (p : Nat) (a : Option Addr) (c : Nat) (rest : List UInt8) (bad : Bool) : Prop where
  blk : w.heap[p]? = some (.cells #[.slice a rest.length c, .bool bad] 98 (0, 0))
  bs : Bs w0 (.slice a rest.length c) rest
  low : w0.heap.size ≤ p
  bel : Below w0.heap.size w0 w

theorem RS.of {w0 w w' : World} {p : Nat} {a : Option Addr} {c : Nat} {rest : List UInt8} {bad : Bool} (h : RS w0 w p a c rest bad) (hp : w'.heap[p]? = w.heap[p]?) (hb : Below w0.heap.size w0 w') : RS w0 w' p a c rest bad :=
  ⟨by rw [hp]; exact h.blk, h.bs, h.low, hb⟩
theorem RS.keeps {w0 w w' : World} {p : Nat} {a : Option Addr} {c : Nat} {rest : List UInt8} {bad : Bool} (h : RS w0 w p a c rest bad) (hb : Below w.heap.size w w') : RS w0 w' p a c rest bad :=
  h.of (hb.block _ (Array.getElem?_eq_some_iff.1 h.blk).1) (bt h.bel hb (Nat.le_refl _))

theorem setK {w : World} {p i : Nat} {u : Value} : Keeps (· = p) w (w.setCell ⟨p, i, none⟩ u) := (Keeps.refl _ _).set _ _ rfl

theorem RS.later {w0 w w' : World} {p : Nat} {a : Option Addr} {c : Nat} {rest : List UInt8} {bad : Bool} (h : RS w0 w p a c rest bad) (hk : Keeps (· = p) w w') : Below w0.heap.size w0 w' :=
  h.bel.trans (hk.below h.bel.size (fun k hk e => by have := h.low; omega))

theorem RS.setB {w0 w : World} {p : Nat} {a : Option Addr} {c : Nat} {rest : List UInt8} {bad : Bool} (h : RS w0 w p a c rest bad) (b : Bool) : RS w0 (w.setCell ⟨p, 1, none⟩ (.bool b)) p a c rest b := by
  refine ⟨?_, h.bs, h.low, h.later setK⟩
  rw [hpSet h.blk 1 (.bool b)]; rfl

theorem RS.setS {w0 w : World} {p : Nat} {a : Option Addr} {c : Nat} {rest : List UInt8} {bad : Bool} (h : RS w0 w p a c rest bad) (k : Nat) (hk : k ≤ rest.length) :
    RS w0 (w.setCell ⟨p, 0, none⟩ (.slice (cutA a c k) (rest.length - k) (c - k))) p (cutA a c k) (c - k) (rest.drop k) bad := by
  have hl : (rest.drop k).length = rest.length - k := by simp
  refine ⟨?_, ?_, h.low, h.later setK⟩
  · rw [hpSet h.blk 0 _, hl]; rfl
  · rw [hl]; exact h.bs.dropS hk

def TakePost (w0 w : World) (p : Nat) (a : Option Addr) (c : Nat) (rest : List UInt8) (k : Nat) (r : Ending) (w' : World) : Prop :=
  r = .returned (.slice a k c) ∧ Bs w' (.slice a k c) (rest.take k) ∧ RS w0 w' p (cutA a c k) (c - k) (rest.drop k) false ∧ Keeps (· = p) w w'

set_option maxHeartbeats 1600000 in
theorem take_ok {w0 w : World} {p : Nat} {a : Option Addr} {c : Nat} {rest : List UInt8} (h : RS w0 w p a c rest false) (k : Nat) (hk : k ≤ rest.length) :
    Calls Try.prog 91 #[.pointer (some ⟨p, 0, none⟩), .int .i64 k] w (TakePost w0 w p a c rest k) := by
  obtain ⟨i5, hi, hz0, hz1, hz2⟩ := info_parts infoB
  obtain ⟨_, hnc, hcm⟩ := h.bs.capOf
  unfold maxLen at hcm
  have p0 : w.cell? ⟨p, 0, none⟩ = some (.slice a rest.length c) := hpCell h.blk 0
  have p1 : w.cell? ⟨p, 1, none⟩ = some (.bool false) := hpCell h.blk 1
  have z0 : w.frozen? ⟨p, 0, none⟩ = false := hpFree h.blk 0
  have HB := hid ((h.bs.takeS hk).below (h.later (setK (u := .slice (cutA a c k) (rest.length - k) (c - k)) (i := 0))) (Nat.le_refl _))
  have HS := hid (h.setS k hk)
  have hd := fun W => run_drop (P := Try.prog) Try.underlying22 hi hz1 a rest.length c k hk W
  have hk2 : ¬ (rest.length < k) := by omega
  have hkc : k ≤ c := by omega
  clear h
  generalize hn : rest.length = n at *
  clear hn
  go_enter Try.func91, Try.ntmps91
  go_wp2
  go_ret
  exact ⟨rfl, HB.out, HS.out, setK⟩

def TakeNo (w0 w : World) (p : Nat) (a : Option Addr) (c : Nat) (rest : List UInt8) (k : Nat) (r : Ending) (w' : World) : Prop :=
  ∃ b, r = .returned (.slice (some ⟨b, 0, none⟩) k k) ∧ Bs w' (.slice (some ⟨b, 0, none⟩) k k) (List.replicate k 0) ∧ RS w0 w' p a c rest true ∧ Keeps (· = p) w w'

theorem bs_made (w : World) (k : Nat) (hk : k ≤ 1000000) : Bs (w.alloc (.cells (madeCells #[.int .u8 0] k) 5)) (.slice (some ⟨w.heap.size, 0, none⟩) k k) (List.replicate k 0) := by
  have hl : (List.replicate k (0 : UInt8)).length = k := by simp
  have := Bs.mk (w := w.alloc (.cells (madeCells #[.int .u8 0] k) 5)) (b := w.heap.size) (o := 0) (c := k) (l := List.replicate k 0) (by simp) (by unfold maxLen; omega) (fun i hi => by
    rw [World.cell?_alloc_at _ _ _ _ rfl]
    rw [hl] at hi
    simp [madeCells, Nat.zero_add, hi, List.getD, Nat.mod_one])
  rwa [hl] at this

set_option maxHeartbeats 1600000 in
theorem take_no {w0 w : World} {p : Nat} {a : Option Addr} {c : Nat} {rest : List UInt8} {bad : Bool} (h : RS w0 w p a c rest bad) (k : Nat) (hk : bad = true ∨ rest.length < k) (hk2 : k ≤ 1000) :
    Calls Try.prog 91 #[.pointer (some ⟨p, 0, none⟩), .int .i64 k] w (TakeNo w0 w p a c rest k) := by
  obtain ⟨_, hnc, hcm⟩ := h.bs.capOf
  unfold maxLen at hcm
  have p0 : w.cell? ⟨p, 0, none⟩ = some (.slice a rest.length c) := hpCell h.blk 0
  have p1 : w.cell? ⟨p, 1, none⟩ = some (.bool bad) := hpCell h.blk 1
  have z1 : w.frozen? ⟨p, 1, none⟩ = false := hpFree h.blk 1
  have hsz : (w.setCell ⟨p, 1, none⟩ (.bool true)).heap.size = w.heap.size := by simp [World.setCell]
  have HB := hid (bs_made (w.setCell ⟨p, 1, none⟩ (.bool true)) k (by omega))
  have HS := hid ((h.setB true).keeps (bal' _ (.cells (madeCells #[.int .u8 0] k) 5)))
  rw [hsz] at HB
  have hmk := run_make_row' (P := Try.prog) 22 5 (.int .u8 0) 1 Try.underlying22 infoB rfl .i64 .i64 k (by omega) (by omega)
  have HK : Hid (Keeps (· = p) w ((w.setCell ⟨p, 1, none⟩ (.bool true)).alloc (.cells (madeCells #[.int .u8 0] k) 5))) := (setK (w := w)).trans (Keeps.of_below (F := (· = p)) (bal' _ _)) (fun _ _ h => h)
  clear h
  cases bad with
  | true =>
    clear hk
    generalize hn : rest.length = n at *
    clear hn
    go_enter Try.func91, Try.ntmps91
    go_wp2
    go_ret
    exact ⟨_, rfl, HB.out, HS.out, HK.out⟩
  | false =>
    have hk3 : rest.length < k := by rcases hk with h | h; cases h; exact h
    clear hk
    generalize hn : rest.length = n at *
    clear hn
    go_enter Try.func91, Try.ntmps91
    go_wp2
    go_ret
    exact ⟨_, rfl, HB.out, HS.out, HK.out⟩

def NumPost (w0 w : World) (p : Nat) (rest : List UInt8) (r : Ending) (w' : World) : Prop :=
  ∃ a c, r = .returned (.int .i64 ((rest.getD 0 0).toNat : Int)) ∧ RS w0 w' p a c (rest.drop 1) false ∧ Keeps (· = p) w w'
def NumNo (w0 w : World) (p : Nat) (a : Option Addr) (c : Nat) (rest : List UInt8) (r : Ending) (w' : World) : Prop :=
  r = .returned (.int .i64 0) ∧ RS w0 w' p a c rest true ∧ Keeps (· = p) w w'

set_option maxHeartbeats 1600000 in
theorem number_ok {w0 w : World} {p : Nat} {a : Option Addr} {c : Nat} {rest : List UInt8} (h : RS w0 w p a c rest false) (hk : 1 ≤ rest.length) :
    Calls Try.prog 51 #[.pointer (some ⟨p, 0, none⟩)] w (NumPost w0 w p rest) := by
  have HT := hid (take_ok h 1 hk)
  have hlt := (rest.getD 0 0).toNat_lt
  have hz : ((rest.take 1).getD 0 0) = rest.getD 0 0 := by cases rest <;> simp
  replace hz := hid hz
  clear h
  go_enter Try.func51, Try.ntmps51
  go_wp2_with fail
  refine HT.out.mono ?_
  rintro r w1 ⟨rfl, hb1, hs1, hk1⟩
  obtain ⟨b, o, rfl, hc⟩ := hb1.byte (i := 0) (by decide)
  rw [hz.out] at hc
  have hc' : w1.cell? ⟨b, o, none⟩ = some (.int .u8 ((rest.getD 0 0).toNat : Int)) := hc
  have HS := hid hs1
  have HK := hid hk1
  clear hc hb1 hs1 hk1
  generalize hq : (rest.getD 0 0).toNat = q at *
  replace hq := hid hq
  go_wp2
  go_ret
  exact ⟨_, _, by rw [hq.out]; rfl, HS.out, HK.out⟩

set_option maxHeartbeats 1600000 in
theorem number_no {w0 w : World} {p : Nat} {a : Option Addr} {c : Nat} {rest : List UInt8} {bad : Bool} (h : RS w0 w p a c rest bad) (hk : bad = true ∨ rest.length < 1) :
    Calls Try.prog 51 #[.pointer (some ⟨p, 0, none⟩)] w (NumNo w0 w p a c rest) := by
  have HT := hid (take_no h 1 hk (by decide))
  clear h
  go_enter Try.func51, Try.ntmps51
  go_wp2_with fail
  refine HT.out.mono ?_
  rintro r w1 ⟨b, rfl, hb1, hs1, hk1⟩
  obtain ⟨b', o, hbo, hc⟩ := hb1.byte (i := 0) (by decide)
  cases hbo
  have hc' : w1.cell? ⟨b, 0, none⟩ = some (.int .u8 0) := hc
  have HS := hid hs1
  have HK := hid hk1
  clear hc hb1 hs1 hk1
  go_wp2
  go_ret
  exact ⟨rfl, HS.out, HK.out⟩

/-- Both methods in whatever state. -/
def NumAll (w0 w : World) (p : Nat) (rest : List UInt8) (bad : Bool) (r : Ending) (w' : World) : Prop :=
  ∃ (z : Nat) (a : Option Addr) (c : Nat) (t : List UInt8) (bad' : Bool), r = .returned (.int .i64 z) ∧ z ≤ 255 ∧ RS w0 w' p a c t bad' ∧ Keeps (· = p) w w' ∧
    ((bad = false ∧ 1 ≤ rest.length ∧ bad' = false ∧ t = rest.drop 1 ∧ z = (rest.getD 0 0).toNat) ∨ ((bad = true ∨ rest.length < 1) ∧ bad' = true ∧ z = 0))
theorem number_all {w0 w : World} {p : Nat} {a : Option Addr} {c : Nat} {rest : List UInt8} {bad : Bool} (h : RS w0 w p a c rest bad) :
    Calls Try.prog 51 #[.pointer (some ⟨p, 0, none⟩)] w (NumAll w0 w p rest bad) := by
  by_cases hk : bad = true ∨ rest.length < 1
  · refine (number_no h hk).mono ?_
    rintro r w' ⟨rfl, h1, h2⟩
    exact ⟨0, _, _, _, _, rfl, by decide, h1, h2, .inr ⟨hk, rfl, rfl⟩⟩
  · have hb : bad = false := by cases bad with | false => rfl | true => exact absurd (.inl rfl) hk
    subst hb
    refine (number_ok h (by omega)).mono ?_
    rintro r w' ⟨a', c', rfl, h1, h2⟩
    exact ⟨_, _, _, _, _, rfl, by have := (rest.getD 0 0).toNat_lt; omega, h1, h2, .inl ⟨rfl, by omega, rfl, rfl, rfl⟩⟩
def TakeAll (w0 w : World) (p : Nat) (rest : List UInt8) (bad : Bool) (k : Nat) (r : Ending) (w' : World) : Prop :=
  ∃ (ya : Option Addr) (yc : Nat) (Y : List UInt8) (a : Option Addr) (c : Nat) (t : List UInt8) (bad' : Bool), r = .returned (.slice ya k yc) ∧ Bs w' (.slice ya k yc) Y ∧ RS w0 w' p a c t bad' ∧ Keeps (· = p) w w' ∧
    ((bad = false ∧ k ≤ rest.length ∧ bad' = false ∧ t = rest.drop k ∧ Y = rest.take k) ∨ ((bad = true ∨ rest.length < k) ∧ bad' = true))
theorem take_all {w0 w : World} {p : Nat} {a : Option Addr} {c : Nat} {rest : List UInt8} {bad : Bool} (h : RS w0 w p a c rest bad) (k : Nat) (hk2 : k ≤ 255) :
    Calls Try.prog 91 #[.pointer (some ⟨p, 0, none⟩), .int .i64 k] w (TakeAll w0 w p rest bad k) := by
  by_cases hk : bad = true ∨ rest.length < k
  · refine (take_no h k hk (by omega)).mono ?_
    rintro r w' ⟨b, rfl, h0, h1, h2⟩
    exact ⟨_, _, _, _, _, _, _, rfl, h0, h1, h2, .inr ⟨hk, rfl⟩⟩
  · have hb : bad = false := by cases bad with | false => rfl | true => exact absurd (.inl rfl) hk
    subst hb
    refine (take_ok h k (by omega)).mono ?_
    rintro r w' ⟨rfl, h0, h1, h2⟩
    exact ⟨_, _, _, _, _, _, _, rfl, h0, h1, h2, .inl ⟨rfl, by omega, rfl, rfl, rfl⟩⟩

end Go.Proofs.Ytlaaoifjiogogaa
