/-
  Texts 22 of the claim.
-/
import Derived.Test.YtipnamoocemeeaaGreatC01
import Derived.Test.YtipnamoocemeeaaGreatC21
import Derived.Laws.Rows
import Derived.Test.YtipnamoocemeeaaGreatC20
import Derived.OpenShut
import Derived.Test.YtipnamoocemeeaaGreatRows
import Derived.Test.YtipnamoocemeeaaGreatC03
import Derived.Deep.QuietTactic
import Derived.BigQuiet
import Derived.Deep.RegionHeld3
/-
  Slices of ints that read as a list, for every program.
-/
namespace Go.Proofs.YtipnamoocemeeaaGreat
open Go.RowKit

/-- A slice of ints that reads as a list; each fits. -/
def Ns (w : World) (v : Value) (l : List Int) : Prop :=
  (∃ a c, v = .slice a l.length c ∧ l.length ≤ c ∧ c ≤ maxLen ∧ (a = none → c = 0) ∧
    (l ≠ [] → ∃ b o, a = some ⟨b, o, none⟩ ∧ ∀ i, i < l.length → w.cell? ⟨b, o + i, none⟩ = some (.int .i64 (l.getD i 0)))) ∧ ∀ n ∈ l, (Lit.int .i64 n).wf = true

theorem Ns.nil (w : World) : Ns w (.slice none 0 0) [] := ⟨⟨none, 0, rfl, Nat.le_refl _, Nat.zero_le _, fun _ => rfl, fun h => absurd rfl h⟩, by simp⟩

theorem Ns.keep {w w' : World} {v : Value} {l : List Int} (h : Ns w v l) (hb : Below w.heap.size w w') : Ns w' v l := by
  obtain ⟨⟨a, c, hv, h1, h2, h3, h4⟩, h5⟩ := h
  refine ⟨⟨a, c, hv, h1, h2, h3, fun hl => ?_⟩, h5⟩
  obtain ⟨b, o, ha, hc⟩ := h4 hl
  exact ⟨b, o, ha, fun i hi => by rw [hb.cell (cell_lt (hc i hi))]; exact hc i hi⟩

theorem Ns.at {w : World} {v : Value} {l : List Int} (h : Ns w v l) (hl : l ≠ []) :
    ∃ b o c, v = .slice (some ⟨b, o, none⟩) l.length c ∧ l.length ≤ c ∧ c ≤ maxLen ∧ ∀ i, i < l.length → w.cell? ⟨b, o + i, none⟩ = some (.int .i64 (l.getD i 0)) := by
  obtain ⟨⟨a, c, hv, h1, h2, h3, h4⟩, _⟩ := h
  obtain ⟨b, o, rfl, hc⟩ := h4 hl
  exact ⟨b, o, c, hv, h1, h2, hc⟩

theorem Ns.row {w : World} {a : Option Addr} {len cap : Nat} {zs : List Int}
    (h : (a = none ∧ len = 0 ∧ cap = 0 ∧ zs = []) ∨
      ∃ x, a = some x ∧ len ≤ cap ∧ cap ≤ maxLen ∧ zs.length = cap ∧ (∀ i, i < zs.length → w.cell? (x.add i) = some (.int .i64 (zs.getD i 0))) ∧ ∀ n ∈ zs, (Lit.int .i64 n).wf = true) :
    ∃ l, Ns w (.slice a len cap) l ∧ l.length = len := by
  rcases h with ⟨rfl, rfl, rfl, rfl⟩ | ⟨x, rfl, hl, hm, hz, hc, hw⟩
  · exact ⟨[], Ns.nil w, rfl⟩
  · have e1 : (zs.take len).length = len := by simp; omega
    refine ⟨zs.take len, ⟨⟨some x, cap, by rw [e1], by omega, hm, fun h => by simp at h, fun hne => ?_⟩, fun n hn => hw n (List.mem_of_mem_take hn)⟩, e1⟩
    have hpos : 0 < len := by
      rcases Nat.eq_zero_or_pos len with h | h
      · subst h; simp at hne
      · exact h
    obtain ⟨b, off, spot⟩ := x
    have h0 := hc 0 (by omega)
    have hspot : spot = none := by simpa [Addr.add] using World.cell?_spot h0
    subst hspot
    refine ⟨b, off, rfl, fun i hi => ?_⟩
    rw [e1] at hi
    have e2 : (⟨b, off, none⟩ : Addr).add i = ⟨b, off + i, none⟩ := by unfold Addr.add; split <;> simp_all
    have h3 := hc i (by omega)
    rw [e2] at h3
    rw [h3]
    simp [List.getD, hi]

end Go.Proofs.YtipnamoocemeeaaGreat

/-
  The contract of modscanlaw26.Windows.
-/
namespace Go.Proofs.YtipnamoocemeeaaGreat
open Go.RowKit

def WgC (win : Nat → Int × Int) : Array Value := #[.int .i64 (win 0).1, .int .i64 (win 0).2, .int .i64 (win 1).1, .int .i64 (win 1).2, .int .i64 (win 2).1, .int .i64 (win 2).2, .int .i64 (win 3).1, .int .i64 (win 3).2]
def WgI (W : World) (b : Nat) (win : Nat → Int × Int) : Prop := W.heap[b]? = some (.cells (WgC win) 25)
theorem WgI.first {W : World} {b : Nat} {win : Nat → Int × Int} (h : WgI W b win) {k : Nat} (hk : k < 4) : W.cell? ⟨b, k * 2, none⟩ = some (.int .i64 (win k).1) := by
  rw [hpCell h]
  match k, hk with
  | 0, _ => rfl
  | 1, _ => rfl
  | 2, _ => rfl
  | 3, _ => rfl
theorem WgI.count {W : World} {b : Nat} {win : Nat → Int × Int} (h : WgI W b win) {k : Nat} (hk : k < 4) : W.cell? ⟨b, k * 2 + 1, none⟩ = some (.int .i64 (win k).2) := by
  rw [hpCell h]
  match k, hk with
  | 0, _ => rfl
  | 1, _ => rfl
  | 2, _ => rfl
  | 3, _ => rfl
theorem infoW : (Tryz.prog.info? 25).map (·.size) = some 8 := by kernel_rfl

def wfI (n : Int) : Prop := -9223372036854775808 ≤ n ∧ n ≤ 9223372036854775807

end Go.Proofs.YtipnamoocemeeaaGreat

/-
  Several texts of this claim in one file.
-/
/-
Outcomes that came in: the number that asks for more fits an int.
-/
namespace Go.Proofs.YtipnamoocemeeaaGreat
open Go.RowKit

theorem rp_next {w : World} {cs : List Value} (h : Rd Tryz.prog w 53 cs) : ∃ n, cs[6]? = some (.int .i64 n) ∧ n ≤ 9223372036854775807 := by
  obtain ⟨hl, hf⟩ := h.struct Tryz.underlying53
  rw [cellsRp] at hl
  obtain ⟨c0, c1, c2, c3, c4, c5, c6, c7, rfl⟩ := lst8 hl
  have f6 := hf _ (List.mem_cons_of_mem _ (List.mem_cons_of_mem _ (List.mem_cons_of_mem _ (List.mem_cons_of_mem _ (List.mem_cons_of_mem _ (List.mem_cons_of_mem _ (List.mem_cons_self ..)))))))
  simp only [cellsInt, List.drop_zero, List.drop_succ_cons, List.take_succ_cons, List.take_zero] at f6
  obtain ⟨n6, e6, w6⟩ := Rd.int Tryz.underlying3 f6
  simp only [List.cons.injEq, and_true] at e6
  subst e6
  have hb := bounds_i64 w6
  exact ⟨n6, rfl, by omega⟩
theorem oc_next {w : World} {cs : List Value} (h : Rd Tryz.prog w 55 cs) : ∃ n, cs[7]? = some (.int .i64 n) ∧ n ≤ 9223372036854775807 := by
  obtain ⟨hl, hf⟩ := h.struct Tryz.underlying55
  rw [cellsOc] at hl
  obtain ⟨v0, c0, c1, c2, c3, c4, c5, c6, c7, rfl⟩ := lst9 hl
  have f1 := hf _ (List.mem_cons_of_mem _ (List.mem_cons_self ..))
  simp only [cellsRp, List.drop_zero, List.drop_succ_cons, List.take_succ_cons, List.take_zero] at f1
  obtain ⟨n, h1, h2⟩ := rp_next f1
  exact ⟨n, by simpa using h1, h2⟩

/-- Outcomes, and their next objects fit. -/
def OcRx (w : World) (cs : List Value) (x : Oc) : Prop := OcR w cs x ∧ x.reply.next ≤ 9223372036854775807
theorem ocRx_rd {w : World} {cs : List Value} (h : Rd Tryz.prog w 55 cs) : ∃ x, OcRx w cs x := by
  obtain ⟨x, hx⟩ := ocR_rd h
  obtain ⟨n, h1, h2⟩ := oc_next h
  refine ⟨x, hx, ?_⟩
  obtain ⟨da, dc, oa, oc, rfl, _⟩ := hx
  simp at h1
  omega
end Go.Proofs.YtipnamoocemeeaaGreat

/-
The windows that a law is called with, and the size of the outcomes that came in.
-/
namespace Go.Proofs.YtipnamoocemeeaaGreat
open Go.RowKit
theorem small_fit {l : List Oc} {n : Int} (h : smallOcs l n = true) (hx : ∀ (i : Nat) (x : Oc), l[i]? = some x → x.reply.next ≤ 9223372036854775807) {i : Nat} {x : Oc} (hi : l[i]? = some x) : x.fit := by
  simp only [smallOcs, Bool.and_eq_true, List.all_eq_true, Rp.small, smallObs, decide_eq_true_eq] at h
  have h1 := h.1 x (List.mem_of_getElem? hi)
  exact ⟨h1.2.1, h1.2.2, h1.1, hx i x hi⟩


end Go.Proofs.YtipnamoocemeeaaGreat

/-
  Settings and times: the plain rules, and the contracts of packages setting and timing at a valid setting.
-/
namespace Go.Proofs.YtipnamoocemeeaaGreat
open Go.RowKit

def IdxI (V : Bool) (r : Ending) : Prop := ∃ i : Int, r = .returned (.int .i64 i) ∧ (0 ≤ i ↔ V = true)

set_option maxRecDepth 100000 in
set_option maxHeartbeats 1600000 in
theorem idxI_any (v : Value) (l : List Int) (x : Int) (w : World) (hl : Ns w v l) (V : Bool) (hV : Hid (l.any (fun y => decide (x = y)) = V)) :
    Calls Tryz.prog 164 #[v, .int .i64 x] w fun r w' => IdxI V r ∧ w = w' := by
  have HL := hid hl
  obtain ⟨⟨a, c, rfl, hnc, hcm, hac, hel⟩, _⟩ := hl
  unfold maxLen at hcm
  obtain ⟨n, hn⟩ : ∃ n, l.length = n := ⟨_, rfl⟩
  have hcell : ∀ k, k < n → ∃ b o, a = some ⟨b, o, none⟩ ∧ w.cell? ⟨b, o + k, none⟩ = some (.int .i64 (l.getD k 0)) := by
    intro k hk
    obtain ⟨b, o, ha, hc⟩ := hel (by rintro rfl; simp at hn; omega)
    exact ⟨b, o, ha, hc k (by omega)⟩
  have hst : ∀ k, k < n → l.take (k + 1) = l.take k ++ [l.getD k 0] := by
    intro k hk
    rw [List.take_succ_eq_append_getElem (by omega)]
    simp [List.getD, hn, hk]
  have HFIN := hid (show l.take n = l by rw [← hn, List.take_length])
  have HST := hid hst
  have HCE := hid hcell
  rw [hn] at hnc ⊢
  clear hel hst hcell hac hn HL
  go_enter Tryz.func164, Tryz.ntmps164
  go_wp2
  go_loop [8] (fun i => ∃ k : Nat, k ≤ n ∧ i = .int .i64 k ∧ Hid ((l.take k).any (fun y => decide (x = y)) = false)) (fun i => n - (intOf i).toNat)
  case atStart => exact ⟨0, Nat.zero_le _, rfl, rfl⟩
  case round =>
    obtain ⟨k, hk, rfl, hno⟩ := hrel
    by_cases hlt : k < n
    · obtain ⟨b, o, rfl, hc⟩ := HCE.out k hlt
      have HS := hid (HST.out k hlt)
      have hkl : (k : Int) < (n : Int) := by omega
      generalize l.getD k 0 = y at *
      by_cases hx : x = y
      · have d : (x == y) = true := by rw [beq_iff_eq]; exact hx
        have HF : Hid (V = true) := by
          show _ = _
          rw [← hV.out]
          refine List.any_eq_true.2 ⟨y, ?_, decide_eq_true hx⟩
          have : y ∈ l.take (k + 1) := by rw [HS.out]; simp
          exact List.mem_of_mem_take this
        clear hx
        go_wp2
        go_ret
        exact ⟨⟨k, rfl, ⟨fun _ => HF.out, fun _ => Int.natCast_nonneg _⟩⟩, rfl⟩
      · have d : (x == y) = false := by rw [beq_eq_false_iff_ne]; exact hx
        have HN : Hid ((l.take (k + 1)).any (fun y => decide (x = y)) = false) := by
          show _ = _
          rw [HS.out, List.any_append, hno.out]
          simp [hx]
        clear hx
        go_wp2
        go_round
        case rel => exact ⟨k + 1, by omega, by go_num, HN⟩
        case measure => simp [intOf]; omega
    · obtain rfl : k = n := by omega
      have HF : Hid (V = false) := by
        have h1 := hno.out
        rw [HFIN.out] at h1
        show _ = _
        rw [← hV.out, h1]
      go_wp2
      go_ret
      exact ⟨⟨-1, rfl, ⟨fun h => absurd h (by decide), fun h => by rw [HF.out] at h; cases h⟩⟩, rfl⟩

set_option maxRecDepth 100000 in
set_option maxHeartbeats 800000 in
theorem contI_any (v : Value) (l : List Int) (x : Int) (w : World) (hl : Ns w v l) (V : Bool) (hV : Hid (l.any (fun y => decide (x = y)) = V)) :
    Calls Tryz.prog 150 #[v, .int .i64 x] w fun r w' => r = .returned (.bool V) ∧ w = w' := by
  have HI := hid (idxI_any v l x w hl V hV)
  obtain ⟨⟨a, c, rfl, _⟩, _⟩ := hl
  clear hV
  go_enter Tryz.func150, Tryz.ntmps150
  go_wp2_with fail
  refine HI.out.mono ?_
  rintro r w1 ⟨⟨i, rfl, hi⟩, rfl⟩
  have HV : Hid (decide (0 ≤ i) = V) := by
    show _ = _
    cases V with
    | true => exact decide_eq_true (hi.2 rfl)
    | false => exact decide_eq_false (fun h => by cases hi.1 h)
  clear hi
  go_wp2
  go_ret
  exact ⟨ret_bool HV.out, rfl⟩

def baudL : List Int := [1200, 2400, 4800, 9600, 19200, 38400, 57600, 115200]
/-- A valid setting. -/
structure Okset (b p : Int) : Prop where
  mem : b ∈ baudL
  lo : 0 ≤ p
  hi : p ≤ 2

theorem Okset.bd {b p : Int} (h : Okset b p) : 1200 ≤ b ∧ b ≤ 115200 := by
  have := h.mem
  simp [baudL] at this
  omega

set_option maxRecDepth 100000 in
set_option maxHeartbeats 800000 in
theorem bauds_any (w : World) : Calls Tryz.prog 151 #[] w fun r w' => (∃ a n c, r = .returned (.slice a n c) ∧ Ns w' (.slice a n c) baudL) ∧ Below w.heap.size w w' := by
  go_enter Tryz.func151, Tryz.ntmps151
  go_wp2
  go_ret
  refine ⟨⟨_, _, _, rfl, ⟨_, 8, rfl, by decide, by unfold maxLen; exact Nat.le_of_ble_eq_true rfl, (fun h => by cases h), fun _ => ⟨w.heap.size, 0, rfl, fun i hi => ?_⟩⟩, ?_⟩, bal' w _⟩
  · rw [hpCell (hpNew w _)]
    have : i < 8 := hi
    rcases (show i = 0 ∨ i = 1 ∨ i = 2 ∨ i = 3 ∨ i = 4 ∨ i = 5 ∨ i = 6 ∨ i = 7 by omega) with rfl | rfl | rfl | rfl | rfl | rfl | rfl | rfl <;> rfl
  · intro n hn
    simp [baudL] at hn
    rcases hn with rfl | rfl | rfl | rfl | rfl | rfl | rfl | rfl <;> rfl

end Go.Proofs.YtipnamoocemeeaaGreat
