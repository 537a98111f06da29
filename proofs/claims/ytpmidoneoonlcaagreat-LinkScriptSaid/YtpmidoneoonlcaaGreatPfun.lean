/-
  The contracts of slices.IndexFunc and slices.ContainsFunc as reply.Match calls them, and of its function value.
-/
import Derived.Test.YtpmidoneoonlcaaGreatMrecb
import Derived.Test.YtpmidoneoonlcaaGreatMbase
namespace Go.Proofs.YtpmidoneoonlcaaGreat
open Go.RowKit

set_option maxRecDepth 100000 in
set_option maxHeartbeats 800000 in
theorem match1_any (id : Int) (xa : Option Addr) (xn xc g : Nat) (qo : Int) (w : World) (hg : w.cell? ⟨g, 4, none⟩ = some (.int .i64 qo)) :
    Calls Tryz.prog 95 #[.agg #[.int .i64 id, .slice xa xn xc], .pointer (some ⟨g, 0, none⟩)] w fun r w' => r = .returned (.bool (decide (id < qo))) ∧ Below w.heap.size w w' := by
  have c4 : ∀ X, (w.alloc X).cell? ⟨g, 4, none⟩ = some (.int .i64 qo) := fun X => cell_keep (bal' w X) hg
  have HB : Hid (∀ X, Below w.heap.size w (w.alloc X)) := fun X => bal' w X
  clear hg
  go_enter Tryz.func95, Tryz.ntmps95
  go_wp2
  go_ret
  exact ⟨rfl, HB.out _⟩

def lessOb (qo : Int) (l : List Ob) : Bool := l.any fun x => decide (x.id < qo)
/-- What IndexFunc answers: a number from 0 on just where there is such an object. -/
def IdxPost (V : Bool) (r : Ending) : Prop := ∃ i : Int, r = .returned (.int .i64 i) ∧ (0 ≤ i ↔ V = true)

set_option maxRecDepth 100000 in
set_option maxHeartbeats 3200000 in
theorem idxF_any (v : Value) (l : List Ob) (w : World) (ho : Obs w v l) (g : Nat) (qo : Int) (hg : w.cell? ⟨g, 4, none⟩ = some (.int .i64 qo)) (V : Bool) (hV : Hid (lessOb qo l = V)) :
    Calls Tryz.prog 105 #[v, .func (.func 95) #[] #[.pointer (some ⟨g, 0, none⟩)]] w fun r w' => IdxPost V r ∧ Below w.heap.size w w' := by
  obtain ⟨a, n, c, rfl, hln, hn, hnc, hcm, hel⟩ := ho.open_
  clear ho
  replace hel := hid hel
  replace hln := hid hln
  go_enter Tryz.func105, Tryz.ntmps105
  go_wp2
  go_loopw [8] (fun i wr => ∃ k : Nat, k ≤ n ∧ i = .int .i64 k ∧ Hid (lessOb qo (l.take k) = false) ∧ Below w.heap.size w wr) (fun i _ => n - (intOf i).toNat)
  case atStart => exact ⟨0, Nat.zero_le _, rfl, rfl, Below.refl _ _⟩
  case round =>
    obtain ⟨k, hk, rfl, hno, hbw⟩ := hrel
    by_cases hlt : k < n
    · obtain ⟨x, hgx⟩ := get_some hln.out hlt
      obtain ⟨b, o, xa, xc, rfl, d1, d2, hb⟩ := hel.out k x hgx
      have hxm := hb.len
      unfold maxLen at hxm
      replace d1 := cell_keep hbw d1
      replace d2 := cell_keep hbw d2
      have HM : Hid (Calls Tryz.prog 95 #[.agg #[.int .i64 x.id, .slice xa x.val.length xc], .pointer (some ⟨g, 0, none⟩)] wr fun r w' => r = .returned (.bool (decide (x.id < qo))) ∧ Below wr.heap.size wr w') := match1_any _ _ _ _ _ _ wr (cell_keep hbw hg)
      have HST : Hid (lessOb qo (l.take (k + 1)) = decide (x.id < qo)) := by
        have h1 := hno.out
        show _ = _
        unfold lessOb at h1 ⊢
        rw [take_succ_snoc hgx, List.any_append, h1]
        simp
      have HGX : Hid (x ∈ l) := List.mem_of_getElem? hgx
      have hkl : (k : Int) < (n : Int) := by omega
      clear hgx hb
      go_wp2_with fail
      refine HM.out.mono ?_
      rintro r w1 ⟨rfl, hb1⟩
      by_cases hx : x.id < qo
      · have d : decide (x.id < qo) = true := decide_eq_true hx
        have HF : Hid (V = true) := by
          show _ = _
          rw [← hV.out]
          exact List.any_eq_true.2 ⟨x, HGX.out, d⟩
        clear hx
        go_wp2
        go_ret
        exact ⟨⟨k, rfl, ⟨fun _ => HF.out, fun _ => Int.natCast_nonneg _⟩⟩, bt hbw hb1 (Nat.le_refl _)⟩
      · have d : decide (x.id < qo) = false := decide_eq_false hx
        rw [d] at HST
        clear hx
        go_wp2
        go_roundw
        case rel => exact ⟨k + 1, by omega, by go_num, HST, bt hbw hb1 (Nat.le_refl _)⟩
        case measure => simp [intOf]; omega
    · obtain rfl : k = n := by omega
      have HF : Hid (V = false) := by
        have h1 := hno.out
        rw [← hln.out, List.take_length] at h1
        show _ = _
        rw [← hV.out, h1]
      go_wp2
      go_ret
      exact ⟨⟨-1, rfl, ⟨fun h => absurd h (by decide), fun h => by rw [HF.out] at h; cases h⟩⟩, hbw⟩

set_option maxRecDepth 100000 in
set_option maxHeartbeats 800000 in
theorem contF_any (v : Value) (l : List Ob) (w : World) (ho : Obs w v l) (g : Nat) (qo : Int) (hg : w.cell? ⟨g, 4, none⟩ = some (.int .i64 qo)) (V : Bool) (hV : Hid (lessOb qo l = V)) :
    Calls Tryz.prog 94 #[v, .func (.func 95) #[] #[.pointer (some ⟨g, 0, none⟩)]] w fun r w' => r = .returned (.bool V) ∧ Below w.heap.size w w' := by
  have HI := hid (idxF_any v l w ho g qo hg V hV)
  obtain ⟨a, n, c, rfl, _⟩ := ho.open_
  clear ho hV
  go_enter Tryz.func94, Tryz.ntmps94
  go_wp2_with fail
  refine HI.out.mono ?_
  rintro r w1 ⟨⟨i, rfl, hi⟩, hb1⟩
  have HV : Hid (decide (0 ≤ i) = V) := by
    show _ = _
    cases V with
    | true => exact decide_eq_true (hi.2 rfl)
    | false => exact decide_eq_false (fun h => by cases hi.1 h)
  clear hi
  go_wp2
  go_ret
  exact ⟨ret_bool HV.out, hb1⟩

end Go.Proofs.YtpmidoneoonlcaaGreat
