/-
  Texts 17 of the claim.
-/
import Derived.Test.YtipnamoocemeeaaGreatD03
import Derived.Test.YtipnamoocemeeaaGreatD01
import Derived.Test.YtipnamoocemeeaaGreatD02
import Derived.Test.YtipnamoocemeeaaGreatD15
namespace Go.Proofs.YtipnamoocemeeaaGreat
open Go.RowKit
def SizeOk (l : List Ob) (r : Ending) : Prop := ∃ s : Nat, r = .returned (.int .i64 s) ∧ (s ≤ 246 ↔ obSize l ≤ 246)
def SizeAt (l : List Ob) (k s : Nat) : Prop := s ≤ 600 ∧ (s ≤ 246 → s = obSize (l.take k)) ∧ (246 < s → 246 < obSize l)
theorem SizeAt.step {l : List Ob} {k s : Nat} {x : Ob} (h : SizeAt l k s) (hs : s ≤ 246) (hx : l[k]? = some x) (m : Nat) (hm : m = min x.val.length 300) : SizeAt l (k + 1) (s + (2 + m)) := by
  obtain ⟨h1, h2, h3⟩ := h
  have e : obSize (l.take (k + 1)) = obSize (l.take k) + (2 + x.val.length) := by rw [take_succ_snoc hx, obSize_snoc]
  have h4 := obSize_pre (l.drop (k + 1)) (l.take (k + 1))
  rw [List.take_append_drop] at h4
  have h5 := h2 hs
  refine ⟨by omega, fun h => by omega, fun h => by omega⟩
set_option maxRecDepth 100000 in
set_option maxHeartbeats 3200000 in
theorem size_any (v : Value) (l : List Ob) (w : World) (ho : Obs w v l) :
    Calls Tryz.prog 104 #[v] w fun r w' => SizeOk l r ∧ w = w' := by
  obtain ⟨a, n, c, rfl, hln, hn, hnc, hcm, hel⟩ := ho.open_
  clear ho
  replace hel := hid hel
  replace hln := hid hln
  go_enter Tryz.func104, Tryz.ntmps104
  go_wp2
  go_loop [3, 4] (fun sv i => ∃ k s : Nat, k ≤ n ∧ i = .int .i64 k ∧ sv = .int .i64 s ∧ SizeAt l k s) (fun _ i => n - (intOf i).toNat)
  case atStart => exact ⟨0, 0, Nat.zero_le _, rfl, rfl, by omega, fun _ => rfl, fun h => by omega⟩
  case round =>
    obtain ⟨k, s, hk, rfl, rfl, hsz⟩ := hrel
    have hs6 := hsz.1
    replace hsz := hid hsz
    by_cases hlt : k < n
    · by_cases hs : s ≤ 246
      · obtain ⟨x, hgx⟩ := get_some hln.out hlt
        obtain ⟨b, o, xa, xc, rfl, _, d2, hb⟩ := hel.out k x hgx
        have hxm := hb.len
        unfold maxLen at hxm
        obtain ⟨m, hm⟩ : ∃ m, m = min x.val.length 300 := ⟨_, rfl⟩
        have HST := hid (hsz.out.step hs hgx m hm)
        have hkl : (k : Int) < (n : Int) := by omega
        clear hgx hb
        generalize x.val.length = xn at *
        have hmm : (if (300 : Int) < (xn : Int) then (300 : Int) else (xn : Int)) = (m : Int) := by split <;> omega
        have hm3 : m ≤ 300 := by omega
        replace hm := hid hm
        go_wp2
        go_round
        case rel => exact ⟨k + 1, s + (2 + m), by omega, by go_num, by go_num, HST.out⟩
        case measure => simp [intOf]; omega
      · have HF : Hid (SizeOk l (.returned (.int .i64 s))) := ⟨s, rfl, by have := hsz.out.2.2 (by omega); omega⟩
        go_wp2
        go_ret
        exact ⟨HF.out, rfl⟩
    · obtain rfl : k = n := by omega
      have HF : Hid (SizeOk l (.returned (.int .i64 s))) := by
        refine ⟨s, rfl, ?_⟩
        have h2 := hsz.out.2.1
        have h3 := hsz.out.2.2
        rw [← hln.out, List.take_length] at h2
        omega
      go_wp2
      go_ret
      exact ⟨HF.out, rfl⟩
end Go.Proofs.YtipnamoocemeeaaGreat

namespace Go.Proofs.YtipnamoocemeeaaGreat
open Go.RowKit
end Go.Proofs.YtipnamoocemeeaaGreat
namespace Go.Proofs.YtipnamoocemeeaaGreat
open Go.RowKit
end Go.Proofs.YtipnamoocemeeaaGreat

namespace Go.Proofs.YtipnamoocemeeaaGreat
open Go.RowKit
end Go.Proofs.YtipnamoocemeeaaGreat

namespace Go.Proofs.YtipnamoocemeeaaGreat
open Go.RowKit
end Go.Proofs.YtipnamoocemeeaaGreat
namespace Go.Proofs.YtipnamoocemeeaaGreat
open Go.RowKit
theorem b2 (w : World) (X Y : Obj) : Below w.heap.size w ((w.alloc X).alloc Y) := (bal' w X).alloc (by simp) Y
theorem b3 (w : World) (X Y Z : Obj) : Below w.heap.size w (((w.alloc X).alloc Y).alloc Z) := (b2 w X Y).alloc (by simp; omega) Z
end Go.Proofs.YtipnamoocemeeaaGreat
namespace Go.Proofs.YtipnamoocemeeaaGreat
open Go.RowKit
def smallObs (l : List Ob) : Bool := decide (l.length ≤ 40) && l.all fun x => decide (x.val.length ≤ 300)
def Rp.small (r : Rp) : Bool := decide (r.data.length ≤ 300) && smallObs r.objs
theorem small_no {l : List Ob} {k : Nat} {x : Ob} (h : l[k]? = some x) (hx : 300 < x.val.length) : smallObs l = false := by
  cases hs : smallObs l with
  | false => rfl
  | true =>
    simp only [smallObs, Bool.and_eq_true, List.all_eq_true, decide_eq_true_eq] at hs
    have := hs.2 x (List.mem_of_getElem? h)
    omega
set_option maxRecDepth 100000 in
set_option maxHeartbeats 3200000 in
theorem objects_any (v : Value) (l : List Ob) (w : World) (ho : Obs w v l) (V : Bool) (hV : Hid (smallObs l = V)) :
    Calls Tryz.prog 64 #[v] w fun r w' => r = .returned (.bool V) ∧ w = w' := by
  obtain ⟨a, n, c, rfl, hln, hn, hnc, hcm, hel⟩ := ho.open_
  clear ho
  replace hel := hid hel
  replace hln := hid hln
  go_enter Tryz.func64, Tryz.ntmps64
  go_wp2
  go_loop [3] (fun i => ∃ k : Nat, k ≤ n ∧ i = .int .i64 k ∧ Hid (∀ (j : Nat) (x : Ob), j < k → l[j]? = some x → x.val.length ≤ 300)) (fun i => n - (intOf i).toNat)
  case atStart => exact ⟨0, Nat.zero_le _, rfl, fun j x h => by omega⟩
  case round =>
    obtain ⟨k, hk, rfl, hri⟩ := hrel
    by_cases hlt : k < n
    · obtain ⟨x, hgx⟩ := get_some hln.out hlt
      obtain ⟨b, o, xa, xc, rfl, d1, d2, q⟩ := hel.out k x hgx
      have hxm := q.len
      unfold maxLen at hxm
      have HNO := hid (small_no hgx)
      have HST := hid (show x.val.length ≤ 300 → ∀ (j : Nat) (u : Ob), j < k + 1 → l[j]? = some u → u.val.length ≤ 300 from fun hs j u hj hu => by
        by_cases hjk : j = k
        · subst hjk; rw [hgx] at hu; cases hu; exact hs
        · exact hri.out j u (by omega) hu)
      clear hgx q hri
      generalize x.val.length = xn at *
      have hkl : (k : Int) < (n : Int) := by omega
      by_cases hx : xn ≤ 300
      · have HT := hid (HST.out hx)
        go_wp2
        go_round
        case rel => exact ⟨k + 1, by omega, by go_num, HT.out⟩
        case measure => simp [intOf]; omega
      · have HF := hid (HNO.out (by omega))
        go_wp2
        go_ret
        exact ⟨by rw [← hV.out, HF.out]; rfl, rfl⟩
    · obtain rfl : k = n := by omega
      have HF : Hid (V = decide (k ≤ 40)) := by
        show V = _
        rw [← hV.out]
        unfold smallObs
        rw [hln.out, show (l.all fun x => decide (x.val.length ≤ 300)) = true from by
          rw [List.all_eq_true]
          intro x hx
          obtain ⟨j, hj⟩ := List.getElem?_of_mem hx
          exact decide_eq_true (hri.out j x (by have := (List.getElem?_eq_some_iff.1 hj).1; have := hln.out; omega) hj), Bool.and_true]
      go_wp2
      go_ret
      exact ⟨by rw [HF.out]; exact ret_bool (by rw [Bool.eq_iff_iff]; simp; omega), rfl⟩
end Go.Proofs.YtipnamoocemeeaaGreat
namespace Go.Proofs.YtipnamoocemeeaaGreat
open Go.RowKit
def ObCs (w : World) (cs : List Value) (l : List Ob) : Prop :=
  cs.length = l.length * 2 ∧ ∀ (i : Nat) (x : Ob), l[i]? = some x → cs[i * 2]? = some (.int .i64 x.id) ∧ ∃ a c, cs[i * 2 + 1]? = some (.slice a x.val.length c) ∧ Bs w (.slice a x.val.length c) x.val
theorem ObCs.keep {w w' : World} {cs : List Value} {l : List Ob} (h : ObCs w cs l) (hb : Below w.heap.size w w') : ObCs w' cs l :=
  ⟨h.1, fun i x hx => by
    obtain ⟨h1, a, c, h2, h3⟩ := h.2 i x hx
    exact ⟨h1, a, c, h2, h3.keep hb⟩⟩
theorem ObCs.nil (w : World) : ObCs w [] [] := ⟨rfl, fun i x hx => by simp at hx⟩
theorem ObCs.one {w : World} {cs : List Value} {l : List Ob} (h : ObCs w cs l) : ∀ u ∈ cs, u.oneCell' = true := by
  intro u hu
  obtain ⟨j, hj⟩ := List.getElem?_of_mem hu
  have hjl := (List.getElem?_eq_some_iff.1 hj).1
  have hlen := h.1
  obtain ⟨x, hx⟩ := get_some (l := l) (k := j / 2) rfl (by omega)
  obtain ⟨h1, a, c, h2, _⟩ := h.2 (j / 2) x hx
  rcases Nat.mod_two_eq_zero_or_one j with hm | hm
  · rw [show j / 2 * 2 = j by omega, hj] at h1
    cases h1; rfl
  · rw [show j / 2 * 2 + 1 = j by omega, hj] at h2
    cases h2; rfl
theorem Obs.cells {w : World} {b o n c : Nat} {l : List Ob} (h : Obs w (.slice (some ⟨b, o, none⟩) n c) l) : ∃ cs, ObCs w cs l ∧ l.length = n ∧ ∀ j u, cs[j]? = some u → w.cell? ⟨b, o + j, none⟩ = some u := by
  obtain ⟨a, c', hv, h1, h2, h3, h4⟩ := h
  cases hv
  have hall : ∀ j, j < l.length * 2 → ∃ u, w.cell? ⟨b, o + j, none⟩ = some u := by
    intro j hj
    obtain ⟨b', o', ha, hc⟩ := h4 (by rintro rfl; simp at hj)
    cases ha
    obtain ⟨x, hx⟩ := get_some (l := l) (k := j / 2) rfl (by omega)
    obtain ⟨h5, v, h6, _⟩ := hc (j / 2) x hx
    rcases Nat.mod_two_eq_zero_or_one j with hm | hm
    · rw [show o + j / 2 * 2 = o + j by omega] at h5; exact ⟨_, h5⟩
    · rw [show o + j / 2 * 2 + 1 = o + j by omega] at h6; exact ⟨_, h6⟩
  have hget : ∀ j, j < l.length * 2 → ((List.range (l.length * 2)).map fun j => (w.cell? ⟨b, o + j, none⟩).getD undef)[j]? = w.cell? ⟨b, o + j, none⟩ := by
    intro j hj
    obtain ⟨u, hu⟩ := hall j hj
    simp [hj, hu]
  refine ⟨(List.range (l.length * 2)).map fun j => (w.cell? ⟨b, o + j, none⟩).getD undef, ⟨by simp, fun i x hx => ?_⟩, rfl, fun j u hj => ?_⟩
  · have hi := (List.getElem?_eq_some_iff.1 hx).1
    obtain ⟨b', o', ha, hc⟩ := h4 (by rintro rfl; simp at hx)
    cases ha
    obtain ⟨h5, v, h6, h7⟩ := hc i x hx
    obtain ⟨xa, xc, rfl, _⟩ := id h7
    refine ⟨by rw [hget _ (by omega)]; exact h5, xa, xc, by rw [hget _ (by omega), ← Nat.add_assoc]; exact h6, h7⟩
  · have hjl := (List.getElem?_eq_some_iff.1 hj).1
    rw [hget j (by simpa using hjl)] at hj
    exact hj
theorem Obs.of_own {w : World} {base : Nat} {E : TypeId} {v : Value} {n : Nat} {cs : List Value} {l : List Ob} (h : w.ownsRow base E 2 v n cs) (hc : ObCs w cs l) (hn : l.length = n) : Obs w v l := by
  subst hn
  obtain ⟨hlen, h | ⟨g, cap, cur, hv, hb, hh, hnc, hcm, hcs, ht⟩⟩ := h
  · obtain ⟨rfl, h0⟩ := h
    have : l = [] := List.eq_nil_of_length_eq_zero h0
    subst this
    exact Obs.nil w
  · refine ⟨_, _, hv, hnc, hcm, fun h => by simp at h, fun hl => ⟨g, 0, rfl, fun i x hx => ?_⟩⟩
    have hi := (List.getElem?_eq_some_iff.1 hx).1
    obtain ⟨h1, a, c, h2, h3⟩ := hc.2 i x hx
    have hcell : ∀ j, j < l.length * 2 → w.cell? ⟨g, j, none⟩ = cs[j]? := by
      intro j hj
      have h4 : cur[j]? = cs[j]? := by
        have := take_get (n := l.length * 2) (xs := cs) ht j (by rw [hlen]; exact hj)
        exact this
      simp only [World.cell?, hh, Option.isSome_none]
      exact h4
    rw [Nat.zero_add]
    refine ⟨by rw [hcell _ (by omega)]; exact h1, _, by rw [hcell _ (by omega)]; exact h2, h3⟩
theorem own_shapeR {w : World} {base : Nat} {e : TypeId} {sz n : Nat} {v : Value} {xs : List Value} (h : w.ownsRow base e sz v n xs) (hn : 0 < n) :
    ∃ g cap, v = .slice (some ⟨g, 0, none⟩) n cap ∧ base ≤ g ∧ n ≤ cap ∧ cap ≤ maxLen := by
  rcases h.2 with ⟨_, h0⟩ | ⟨g, cap, cur, hv, hg, _, hnc, hcm, _⟩
  · omega
  · exact ⟨g, cap, hv, hg, hnc, hcm⟩
end Go.Proofs.YtipnamoocemeeaaGreat
namespace Go.Proofs.YtipnamoocemeeaaGreat
open Go.RowKit
theorem Bs.block {w : World} {a : Option Addr} {n c : Nat} {l : List UInt8} (h : Bs w (.slice a n c) l) (hl : l ≠ []) : ∀ ad, a = some ad → ad.block < w.heap.size := by
  obtain ⟨a', c', hv, h1, h2, h3, h4⟩ := h
  cases hv
  obtain ⟨b, o, ha, hc⟩ := h4 hl
  intro ad had
  rw [ha] at had
  cases had
  have := cell_lt (hc 0 (by cases l with | nil => exact absurd rfl hl | cons x l => simp))
  exact this
end Go.Proofs.YtipnamoocemeeaaGreat
namespace Go.Proofs.YtipnamoocemeeaaGreat
open Go.RowKit
end Go.Proofs.YtipnamoocemeeaaGreat

namespace Go.Proofs.YtipnamoocemeeaaGreat
open Go.RowKit
theorem win_index0 (win : Nat → Int × Int) (W : World) : (Instr.index 25 (.agg #[.int .i64 (win 0).1, .int .i64 (win 0).2, .int .i64 (win 1).1, .int .i64 (win 1).2, .int .i64 (win 2).1, .int .i64 (win 2).2, .int .i64 (win 3).1, .int .i64 (win 3).2]) (.int .i64 0)).run Tryz.prog W = .ok (.agg #[.int .i64 (win 0).1, .int .i64 (win 0).2]) W := by kernel_rfl
theorem win_index1 (win : Nat → Int × Int) (W : World) : (Instr.index 25 (.agg #[.int .i64 (win 0).1, .int .i64 (win 0).2, .int .i64 (win 1).1, .int .i64 (win 1).2, .int .i64 (win 2).1, .int .i64 (win 2).2, .int .i64 (win 3).1, .int .i64 (win 3).2]) (.int .i64 1)).run Tryz.prog W = .ok (.agg #[.int .i64 (win 1).1, .int .i64 (win 1).2]) W := by kernel_rfl
theorem win_index2 (win : Nat → Int × Int) (W : World) : (Instr.index 25 (.agg #[.int .i64 (win 0).1, .int .i64 (win 0).2, .int .i64 (win 1).1, .int .i64 (win 1).2, .int .i64 (win 2).1, .int .i64 (win 2).2, .int .i64 (win 3).1, .int .i64 (win 3).2]) (.int .i64 2)).run Tryz.prog W = .ok (.agg #[.int .i64 (win 2).1, .int .i64 (win 2).2]) W := by kernel_rfl
theorem win_index3 (win : Nat → Int × Int) (W : World) : (Instr.index 25 (.agg #[.int .i64 (win 0).1, .int .i64 (win 0).2, .int .i64 (win 1).1, .int .i64 (win 1).2, .int .i64 (win 2).1, .int .i64 (win 2).2, .int .i64 (win 3).1, .int .i64 (win 3).2]) (.int .i64 3)).run Tryz.prog W = .ok (.agg #[.int .i64 (win 3).1, .int .i64 (win 3).2]) W := by kernel_rfl
theorem win_index (win : Nat → Int × Int) (k : Nat) (hk : k < 4) (W : World) : (Instr.index 25 (.agg #[.int .i64 (win 0).1, .int .i64 (win 0).2, .int .i64 (win 1).1, .int .i64 (win 1).2, .int .i64 (win 2).1, .int .i64 (win 2).2, .int .i64 (win 3).1, .int .i64 (win 3).2]) (.int .i64 (k : Int))).run Tryz.prog W = .ok (.agg #[.int .i64 (win k).1, .int .i64 (win k).2]) W := by
  match k, hk with
  | 0, _ => exact win_index0 win W
  | 1, _ => exact win_index1 win W
  | 2, _ => exact win_index2 win W
  | 3, _ => exact win_index3 win W
set_option maxRecDepth 100000 in
set_option maxHeartbeats 6400000 in
theorem pnew_ok (win : Nat → Int × Int) (hw : WinOk win) (w : World) :
    Calls Tryz.prog 43 #[.agg #[.int .i64 (win 0).1, .int .i64 (win 0).2, .int .i64 (win 1).1, .int .i64 (win 1).2, .int .i64 (win 2).1, .int .i64 (win 2).2, .int .i64 (win 3).1, .int .i64 (win 3).2]] w fun r w' => ∃ g : Nat, r = .returned (.pointer (some ⟨g, 0, none⟩)) ∧ w.heap.size ≤ g ∧ PbAt (Grw (fun _ => False) w w') w' g win ⟨.test, Dv.zero, 0⟩ ∧ Below w.heap.size w w' := by
  have hmf : ∀ (fn : Fn) (first cap : Array Value) (w : World), (Instr.makeFunc fn first cap).run Tryz.prog w = .ok (.func fn first cap) w := fun _ _ _ _ => rfl
  obtain ⟨W0, hW0⟩ : ∃ W, w.alloc (.cells #[.int .i64 (win 0).1, .int .i64 (win 0).2, .int .i64 (win 1).1, .int .i64 (win 1).2, .int .i64 (win 2).1, .int .i64 (win 2).2, .int .i64 (win 3).1, .int .i64 (win 3).2] 25) = W := ⟨_, rfl⟩
  have hb0 : Below w.heap.size w W0 := by rw [← hW0]; exact bal' w _
  have hz0 : W0.heap.size = w.heap.size + 1 := by rw [← hW0]; simp
  have p0 : W0.heap[w.heap.size]? = some (.cells #[.int .i64 (win 0).1, .int .i64 (win 0).2, .int .i64 (win 1).1, .int .i64 (win 1).2, .int .i64 (win 2).1, .int .i64 (win 2).2, .int .i64 (win 3).1, .int .i64 (win 3).2] 25) := by rw [← hW0]; exact hpNew w _
  have x : ∀ X, Below W0.heap.size W0 X → ∀ i, X.cell? ⟨w.heap.size, i, none⟩ = (#[.int .i64 (win 0).1, .int .i64 (win 0).2, .int .i64 (win 1).1, .int .i64 (win 1).2, .int .i64 (win 2).1, .int .i64 (win 2).2, .int .i64 (win 3).1, .int .i64 (win 3).2] : Array Value)[i]? := fun X k i => hpCell (hpKeep p0 k) i
  have HX := hid x
  have HW0 := hid hW0
  have HB0 := hid hb0
  have HZ0 := hid hz0
  have x0 : W0.cell? ⟨w.heap.size, 0, none⟩ = some (.int .i64 (win 0).1) := x W0 (Below.refl _ _) 0
  have x1 : W0.cell? ⟨w.heap.size, 1, none⟩ = some (.int .i64 (win 0).2) := x W0 (Below.refl _ _) 1
  have x2 : W0.cell? ⟨w.heap.size, 2, none⟩ = some (.int .i64 (win 1).1) := x W0 (Below.refl _ _) 2
  have x3 : W0.cell? ⟨w.heap.size, 3, none⟩ = some (.int .i64 (win 1).2) := x W0 (Below.refl _ _) 3
  have x4 : W0.cell? ⟨w.heap.size, 4, none⟩ = some (.int .i64 (win 2).1) := x W0 (Below.refl _ _) 4
  have x5 : W0.cell? ⟨w.heap.size, 5, none⟩ = some (.int .i64 (win 2).2) := x W0 (Below.refl _ _) 5
  have x6 : W0.cell? ⟨w.heap.size, 6, none⟩ = some (.int .i64 (win 3).1) := x W0 (Below.refl _ _) 6
  have x7 : W0.cell? ⟨w.heap.size, 7, none⟩ = some (.int .i64 (win 3).2) := x W0 (Below.refl _ _) 7
  clear hW0 hb0 hz0 p0 x
  go_enter Tryz.func43, Tryz.ntmps43
  go_upto_region 1 with (fail)
  rw [HW0.out]
  go_wp2
  go_loopw [7] (fun iv wr => ∃ k : Nat, k ≤ 4 ∧ iv = .int .i64 k ∧ Below W0.heap.size W0 wr) (fun iv _ => 4 - (intOf iv).toNat)
  case atStart => exact ⟨0, by omega, rfl, Below.refl _ _⟩
  case round =>
    obtain ⟨k, hk, rfl, hbw⟩ := hrel
    clear x0 x1 x2 x3 x4 x5 x6 x7
    by_cases hlt : k < 4
    · have hkl : (k : Int) < 4 := by omega
      have hki : (0 : Int) ≤ (k : Int) := Int.natCast_nonneg _
      have hix := win_index win k hlt
      obtain ⟨a1, a2, a3, a4⟩ : ¬ (win k).2 < 0 ∧ ¬ 512 < (win k).2 ∧ ¬ (win k).1 < 0 ∧ ¬ 65536 - (win k).2 < (win k).1 := by
        obtain ⟨h1, h2, h3, h4⟩ := hw k hlt
        exact ⟨by omega, by omega, by omega, by omega⟩
      have sw : IntKind.i64.wrap (65536 - (win k).2) = 65536 - (win k).2 := IntWalk.i64_in _ (by omega)
      go_wp2
      go_roundw
      case rel => exact ⟨k + 1, by omega, by go_num, bta hbw (Nat.le_refl _) _⟩
      case measure => simp [intOf]; omega
    · obtain rfl : k = 4 := by omega
      have e0 : wr.cell? ⟨w.heap.size, 0, none⟩ = some (.int .i64 (win 0).1) := HX.out wr hbw 0
      have e1 : wr.cell? ⟨w.heap.size, 1, none⟩ = some (.int .i64 (win 0).2) := HX.out wr hbw 1
      have e2 : wr.cell? ⟨w.heap.size, 2, none⟩ = some (.int .i64 (win 1).1) := HX.out wr hbw 2
      have e3 : wr.cell? ⟨w.heap.size, 3, none⟩ = some (.int .i64 (win 1).2) := HX.out wr hbw 3
      have e4 : wr.cell? ⟨w.heap.size, 4, none⟩ = some (.int .i64 (win 2).1) := HX.out wr hbw 4
      have e5 : wr.cell? ⟨w.heap.size, 5, none⟩ = some (.int .i64 (win 2).2) := HX.out wr hbw 5
      have e6 : wr.cell? ⟨w.heap.size, 6, none⟩ = some (.int .i64 (win 3).1) := HX.out wr hbw 6
      have e7 : wr.cell? ⟨w.heap.size, 7, none⟩ = some (.int .i64 (win 3).2) := HX.out wr hbw 7
      go_wp2
      obtain ⟨W1, hW1⟩ : ∃ W, wr.alloc (.cells (PbC win .nilIface .nilFunc Dv.zero (.slice none 0 0) (.slice none 0 0) (fun _ => .slice none 0 0) 0) 143) = W := ⟨_, rfl⟩
      have hb1 : Below wr.heap.size wr W1 := by rw [← hW1]; exact bal' _ _
      have hz1 : W1.heap.size = wr.heap.size + 1 := by rw [← hW1]; simp
      have p1 : PbI W1 wr.heap.size win .nilIface .nilFunc Dv.zero (.slice none 0 0) (.slice none 0 0) (fun _ => .slice none 0 0) 0 := by rw [← hW1]; exact hpNew _ _
      have hb2 : Below W1.heap.size W1 (W1.alloc (.cells #[.pointer (some ⟨wr.heap.size, 0, none⟩)] 93)) := bal' _ _
      have p2 : (W1.alloc (.cells #[.pointer (some ⟨wr.heap.size, 0, none⟩)] 93)).heap[wr.heap.size + 1]? = some (.cells #[.pointer (some ⟨wr.heap.size, 0, none⟩)] 93) := by rw [← hz1]; exact hpNew _ _
      have hz2 : (W1.alloc (.cells #[.pointer (some ⟨wr.heap.size, 0, none⟩)] 93)).heap.size = wr.heap.size + 2 := by simp [hz1]
      have p3 : PbI (W1.alloc (.cells #[.pointer (some ⟨wr.heap.size, 0, none⟩)] 93)) wr.heap.size win .nilIface .nilFunc Dv.zero (.slice none 0 0) (.slice none 0 0) (fun _ => .slice none 0 0) 0 := p1.keep hb2
      have hb3 : Below w.heap.size w (W1.alloc (.cells #[.pointer (some ⟨wr.heap.size, 0, none⟩)] 93)) := bt (bt HB0.out hbw (Nat.le_refl _)) (bt hb1 hb2 (Nat.le_refl _)) (Nat.le_refl _)
      obtain ⟨Wp, hWp⟩ : ∃ W, W1.alloc (.cells #[.pointer (some ⟨wr.heap.size, 0, none⟩)] 93) = W := ⟨_, rfl⟩
      have HWW : Hid ((wr.alloc (.cells (PbC win .nilIface .nilFunc Dv.zero (.slice none 0 0) (.slice none 0 0) (fun _ => .slice none 0 0) 0) 143)).alloc (.cells #[.pointer (some ⟨wr.heap.size, 0, none⟩)] 93) = Wp) := by show _ = _; rw [hW1, hWp]
      rw [hWp] at p2 hz2 p3 hb3
      have hgw : w.heap.size ≤ wr.heap.size := (bt HB0.out hbw (Nat.le_refl _)).size
      generalize hgg : wr.heap.size = g at *
      have hne : g + 1 ≠ g := by omega
      have y0 : ∀ X, Keeps (· = g) Wp X → X.cell? ⟨g + 1, 0, none⟩ = some (.pointer (some ⟨g, 0, none⟩)) := fun X k => hpCell (hpKeeps p2 k hne) 0
      have k0 : Keeps (· = g) Wp Wp := Keeps.refl _ _
      have kD : Keeps (· = g) Wp Wp.drew := Keeps.of_below (Below.refl _ _).drew
      have kA : ∀ X o, Below Wp.heap.size Wp X → Keeps (· = g) Wp (X.alloc o) := fun X o h => Keeps.of_below (bta h (Nat.le_refl _) o)
      have kS : ∀ X a b, Keeps (· = g) Wp X → Keeps (· = g) Wp ((X.setCell ⟨g, 8, none⟩ a).setCell ⟨g, 9, none⟩ b) := fun X a b h => ks1 (ks1 h _ _) _ _
      have HP2 := hid p2
      have HP3 := hid p3
      have HZ2 := hid hz2
      have HB3 := hid hb3
      clear hW1 hb1 hz1 p1 hb2 p2 hz2 p3 hb3 hWp hbw e0 e1 e2 e3 e4 e5 e6 e7 HX HB0 HZ0
      show Code.wp _ _ _ _ ((wr.alloc (.cells (PbC win .nilIface .nilFunc Dv.zero (.slice none 0 0) (.slice none 0 0) (fun _ => .slice none 0 0) 0) 143)).alloc (.cells #[.pointer (some ⟨g, 0, none⟩)] 93))
      rw [HWW.out]
      clear HWW
      go_region_held3 (fun X => Keeps (· = g) Wp X) ((with_reducible (first | exact kD | assumption | exact k0 | exact kA _ _ hB2 | exact kS _ _ _ (kA _ _ hB2)))) (first
        | (go_at_call 81; (with_reducible refine (prequest_any Wp.drew).mono ?_); rintro r w2 ⟨rfl, hb2⟩; have hB2 : Below Wp.heap.size Wp w2 := bt (Below.refl _ _).drew hb2 (Nat.le_refl _); have hK2 : Keeps (· = g) Wp w2 := Keeps.of_below hB2; have hp2 := (fun o => (HP3.out.keep hB2).keep (bal' w2 o)))
        | (go_at_call 80; (with_reducible refine (begin_pb (hp2 _) _ _ _ _ _).mono ?_); rintro r w6 ⟨rfl, rfl⟩))
      all_goals
        have hz := HZ2.out
        have hs2 := hB2.size
        have hKF : Keeps (· = g) Wp (((w2.alloc (.cells #[.int .i64 3, .int .i64 0, .int .i64 1, .int .i64 0, .int .i64 0, .func (.func 82) #[] #[.pointer (some ⟨g + 1, 0, none⟩)], .bool false] 150)).setCell ⟨g, 8, none⟩ (.iface 145 (.pointer (some ⟨w2.heap.size, 0, none⟩)))).setCell ⟨g, 9, none⟩ (.func (.func 84) #[.pointer (some ⟨g, 0, none⟩)] #[])) := kS _ _ _ (kA _ _ hB2)
        have hPF : PbI (((w2.alloc (.cells #[.int .i64 3, .int .i64 0, .int .i64 1, .int .i64 0, .int .i64 0, .func (.func 82) #[] #[.pointer (some ⟨g + 1, 0, none⟩)], .bool false] 150)).setCell ⟨g, 8, none⟩ (.iface 145 (.pointer (some ⟨w2.heap.size, 0, none⟩)))).setCell ⟨g, 9, none⟩ (.func (.func 84) #[.pointer (some ⟨g, 0, none⟩)] #[])) g win _ _ _ _ _ _ _ := (hp2 _).begun _ _
        have hOF : (((w2.alloc (.cells #[.int .i64 3, .int .i64 0, .int .i64 1, .int .i64 0, .int .i64 0, .func (.func 82) #[] #[.pointer (some ⟨g + 1, 0, none⟩)], .bool false] 150)).setCell ⟨g, 8, none⟩ (.iface 145 (.pointer (some ⟨w2.heap.size, 0, none⟩)))).setCell ⟨g, 9, none⟩ (.func (.func 84) #[.pointer (some ⟨g, 0, none⟩)] #[])).heap[w2.heap.size]? = some (.cells #[.int .i64 3, .int .i64 0, .int .i64 1, .int .i64 0, .int .i64 0, .func (.func 82) #[] #[.pointer (some ⟨g + 1, 0, none⟩)], .bool false] 150) := (hpOther (by omega)).trans ((hpOther (by omega)).trans (hpNew _ _))
        generalize ((w2.alloc (.cells #[.int .i64 3, .int .i64 0, .int .i64 1, .int .i64 0, .int .i64 0, .func (.func 82) #[] #[.pointer (some ⟨g + 1, 0, none⟩)], .bool false] 150)).setCell ⟨g, 8, none⟩ (.iface 145 (.pointer (some ⟨w2.heap.size, 0, none⟩)))).setCell ⟨g, 9, none⟩ (.func (.func 84) #[.pointer (some ⟨g, 0, none⟩)] #[]) = WF at *
        have hBF : Below w.heap.size w WF := HB3.out.trans (hKF.below (B := w.heap.size) (by omega) (fun _ _ e => by omega))
        have e9 := y0 WF hKF
        have HKF := hid hKF
        have HPF := hid hPF
        have HOF := hid hOF
        clear y0 k0 kD kA kS hKF hPF hOF hp2 hK2
        go_wp2
        go_ret
        have hz := HZ2.out
        have hs2 := hB2.size
        have hsF := HKF.out.size
        have hlF := hpLt HOF.out
        refine ⟨g, rfl, hgw, ⟨(· = w2.heap.size), _, _, _, _, _, .inr ⟨hgw, hpLt HPF.out⟩, fun j hj => by subst hj; exact ⟨.inr ⟨by omega, hlF⟩, by omega, hlF⟩, HPF.out, fun W' _ => ⟨Obs.nil _, Bs.nil _, fun _ _ => Spn.nil _ _⟩, ⟨w2.heap.size, g + 1, rfl, rfl, rfl, HOF.out, St.of (hpKeeps HP2.out HKF.out hne) (FQ.new (by omega) (by omega) (by omega) (by omega))⟩⟩, hBF⟩
end Go.Proofs.YtipnamoocemeeaaGreat
