/-
  Several texts of this claim in one file.
-/
import Derived.Test.YtliblgmpclefgaaGreatMra
import Derived.Deep.CutBlock
/-
The reference's map: NewMap, Next, add.
-/
namespace Go.Proofs.YtliblgmpclefgaaGreat
open Go.RowKit

def ksV (l : List Int) : List Value := l.map (.int .i64)
theorem ksV_len (l : List Int) : (ksV l).length = l.length := List.length_map ..
theorem infoInt : (Tryz.prog.info? 3).map (fun i => (i.zero, i.size, i.bytes)) = some (some (.int .i64 0), 1, 8) := by kernel_rfl
end Go.Proofs.YtliblgmpclefgaaGreat

/-
The reference's map: Feed.
-/
namespace Go.Proofs.YtliblgmpclefgaaGreat
open Go.RowKit

def Mp.feed' (m : Mp) (V R : Bool) : Mp :=
  if m.mode = 2 then
    (if V = true then (if m.hi = m.size + 1 then ({ m with lo := m.size }.learn m.size 1 0).learn 1 2 0 else { m with lo := m.size })
    else if R = true then (if m.size = m.lo + 1 then ({ m with hi := m.size }.learn m.lo 1 0).learn 1 2 0 else { m with hi := m.size })
    else m.learn m.lo 1 0)
  else if V = true then m.learn m.size 1 1
  else if R = true then (if 1 < m.size then { m with mode := 2, lo := 0, hi := m.size } else m.learn 1 2 0)
  else if 1 < m.size then { m with mode := 0 }
  else m.learn 1 3 0
theorem Mp.feed_eq (m : Mp) (v x : Int) : m.feed v x = m.feed' (v == 1) (refB v x 2) := by
  have h1 : ((v == 1) = true) = (v = 1) := by simp
  have h2 : (refB v x 2 = true) = (v = 2 ∧ x = 2) := by simp [refB]
  unfold Mp.feed Mp.feed'
  simp only [h1, h2]

end Go.Proofs.YtliblgmpclefgaaGreat

/-
The reference: Spans, NewProbe.
-/
namespace Go.Proofs.YtliblgmpclefgaaGreat
open Go.RowKit

theorem Spn.atR {base : Nat} {w : World} {v : Value} {l : List (Int × Int)} (h : Spn base w v l) {k : Nat} {p : Int × Int} (hp : l[k]? = some p) :
    ∃ g cap, v = .slice (some ⟨g, 0, none⟩) l.length cap ∧ w.cell? ⟨g, k * 2, none⟩ = some (.int .i64 p.1) ∧ w.cell? ⟨g, k * 2 + 1, none⟩ = some (.int .i64 p.2) ∧ w.frozen? ⟨g, k * 2, none⟩ = false := by
  have hk := (List.getElem?_eq_some_iff.1 hp).1
  have h' : w.ownsRow base 107 2 v l.length (rcs l) := h
  rcases h.2 with ⟨_, h0⟩ | ⟨g, cap, cur, hv, hg, _, hnc, hcm, _⟩
  · omega
  · subst hv
    obtain ⟨h2, h3⟩ := rcs_get l k p hp
    exact ⟨g, cap, rfl, by rw [h'.cellAt _ (by omega)]; exact h2, by rw [h'.cellAt _ (by omega)]; exact h3, h'.frozenAt _⟩
theorem ksV_at {base : Nat} {w : World} {v : Value} {l : List Int} (h : w.ownsRow base 3 1 v l.length (ksV l)) (hl : 0 < l.length) :
    ∃ g cap, v = .slice (some ⟨g, 0, none⟩) l.length cap ∧ ∀ W, Below w.heap.size w W → ∀ (k : Nat) x, l[k]? = some x → W.cell? ⟨g, k, none⟩ = some (.int .i64 x) := by
  rcases id h.2 with ⟨_, h0⟩ | ⟨g, cap, cur, hv, hg, _, hnc, hcm, _⟩
  · omega
  · subst hv
    refine ⟨g, cap, rfl, fun W hW k x hx => ?_⟩
    have hk := (List.getElem?_eq_some_iff.1 hx).1
    refine cell_keep hW ?_
    rw [h.cellAt _ (by omega)]
    simp [ksV, hx]
theorem rle_last (l : List Int) (y : Int) : ∃ i p, rle (l ++ [y]) = i ++ [p] ∧ p.2 = y := by
  rw [rle_snoc]
  rcases snocC (rle l) with h | ⟨i, p, h⟩
  · rw [h, pushR_nil]
    exact ⟨[], (1, y), rfl, rfl⟩
  · rw [h]
    by_cases hu : p.2 = y
    · rw [pushR_same _ _ _ _ hu]
      exact ⟨i, (p.1 + 1, y), rfl, rfl⟩
    · rw [pushR_other _ _ _ _ hu]
      exact ⟨i ++ [p], (1, y), rfl, rfl⟩

set_option maxRecDepth 100000 in
set_option maxHeartbeats 6400000 in
theorem rspans_any (base : Nat) (v : Value) (ks : List Int) (w : World) (hr : w.ownsRow base 3 1 v ks.length (ksV ks)) (hl : ks.length ≤ 1024) (l : List (Int × Int)) (hle : Hid (rle ks = l)) :
    Calls Tryz.prog 53 #[v] w fun r w' => ∃ v', r = .returned v' ∧ Spn w.heap.size w' v' l ∧ Below w.heap.size w w' := by
  obtain ⟨i5, hi, hz0, hz1, hz2⟩ := info_parts infoSp
  obtain ⟨va, vc, rfl⟩ := own_slice hr
  have HR := hid hr
  obtain ⟨n, hn⟩ : ∃ n, ks.length = n := ⟨_, rfl⟩
  have HN := hid hn
  have hnn : n ≤ 1024 := by omega
  rw [hn]
  clear hr hl hn
  go_enter Tryz.func53, Tryz.ntmps53
  go_wp2_with fail
  go_loopw [3, 4] (fun ov iv wr => ∃ (k m : Nat) (oa : Option Addr) (oc : Nat), k ≤ n ∧ iv = .int .i64 (k : Int) ∧ ov = .slice oa m oc ∧ Hid (wr.ownsRow w.heap.size 107 2 (.slice oa m oc) m (rcs (rle (ks.take k)))) ∧ Hid (m = (rle (ks.take k)).length) ∧ Below w.heap.size w wr) (fun _ iv _ => n - (intOf iv).toNat)
  case atStart => exact ⟨0, 0, none, 0, Nat.zero_le _, rfl, rfl, World.ownsRow_nil _ _ _ _, rfl, Below.refl _ _⟩
  case round =>
    obtain ⟨k, m, oa, oc, hk, rfl, rfl, hown, hml, hbw⟩ := hrel
    have HO := hown
    have hki : (0 : Int) ≤ (k : Int) := Int.natCast_nonneg _
    by_cases hlt : k < n
    · obtain ⟨x, hx⟩ := gs (l := ks) HN.out hlt
      obtain ⟨g, cap, hv, hcl⟩ := ksV_at HR.out (by have := HN.out; omega)
      rw [HN.out] at hv
      simp only [Value.slice.injEq, true_and] at hv
      obtain ⟨rfl, rfl⟩ := hv
      have HT : Hid (ks.take (k + 1) = ks.take k ++ [x]) := by show _ = _; rw [List.take_add_one, hx]; rfl
      have hkl : (k : Int) < (n : Int) := by omega
      have hxc : ∀ W, Below w.heap.size w W → W.cell? ⟨g, k, none⟩ = some (.int .i64 x) := fun W hW => hcl W hW k x hx
      have ht1024 : (ks.take k).length ≤ 1024 := by rw [List.length_take]; omega
      have hmb : m ≤ 1024 := by
        have := (rle_ok (ks.take k) ht1024).len
        rw [hml.out]
        omega
      have hsz := hbw.size
      by_cases hk0 : k = 0
      · have HK0 := hid hk0
        have d0 : decide (0 < k) = false := decide_eq_false (by omega)
        have HPU : Hid (rle (ks.take (k + 1)) = rle (ks.take k) ++ [(1, x)]) := by show _ = _; rw [HT.out, rle_snoc, HK0.out]; rfl
        have HCL := hid hcl
        have HXC := hid hxc
        clear hk0 hlt hcl hxc hx hk
        go_upto_region 5 with (fail)
        go_quiet (fail)
        have hbq : Below wr.heap.size wr (wr.drewN nq) := below_drewN (Below.refl _ _) _
        have HO : Hid ((wr.drewN nq).ownsRow w.heap.size 107 2 (.slice oa m oc) m (rcs (rle (ks.take k)))) := own_keeps (F := fun _ => False) hown.out (Keeps.of_below hbq) (fun _ _ f => f)
        have hbw' := bt hbw hbq (Nat.le_refl _)
        generalize wr.drewN nq = wq at *
        have xc : wq.cell? ⟨g, k, none⟩ = some (.int .i64 x) := HXC.out _ hbw'
        have hsq := hbw'.size
        go_wp2_with (at_builtin; refine wpList_appN rfl _ _ 56 rfl w.heap.size 107 i5 _ 2 16 Tryz.underlying56 hi hz0 hz1 hz2 rfl (by decide) (.slice oa m oc) m (rcs (rle (ks.take k))) rfl (HO.out.alloc _) ⟨(wq).heap.size, 0, none⟩ 1 1 [.int .i64 1, .int .i64 x] rfl rfl (newsNew (wq) [.int .i64 1, .int .i64 x] _) (by intro u hu; simp at hu; rcases hu with rfl | rfl <;> rfl) (by unfold maxLen; omega) (by omega) (by simp; omega) ?c3)
        case c3 =>
          intro v6 w6 hown6 hgr6 _
          obtain ⟨a6, c6, rfl⟩ := own_slice hown6; have HO6 : Hid (w6.ownsRow w.heap.size 107 2 (.slice a6 (m + 1) c6) (m + 1) (rcs (rle (ks.take (k + 1))))) := (by show w6.ownsRow _ _ _ _ _ _; rw [HPU.out, rcs_append]; exact hown6); have HM6 : Hid (m + 1 = (rle (ks.take (k + 1))).length) := (by show _ = _; rw [HPU.out, List.length_append, ← hml.out]; rfl); have HB6 : Hid (Below w.heap.size w w6) := (bta hbw' (Nat.le_refl _) _).grown hgr6 (by simp; omega) (fun j hj => (HO.out.lt j hj).1); clear hown6 hgr6; go_wp2; go_roundw; (case rel => exact ⟨k + 1, m + 1, a6, c6, by omega, by go_num, rfl, HO6.out, HM6.out, HB6.out⟩); (case measure => simp [intOf]; omega)
      · have d0 : decide (0 < k) = true := decide_eq_true (by omega)
        obtain ⟨j, hj⟩ : ∃ j, k = j + 1 := ⟨k - 1, by omega⟩
        have hji : (0 : Int) ≤ (j : Int) := Int.natCast_nonneg _
        have hjl : (j : Int) < (n : Int) := by omega
        have swj : IntKind.i64.wrap ((k : Int) - 1) = (j : Int) := by rw [IntWalk.i64_in _ (by omega)]; omega
        obtain ⟨y, hy⟩ := gs (l := ks) (k := j) HN.out (by omega)
        have hyc : ∀ W, Below w.heap.size w W → W.cell? ⟨g, j, none⟩ = some (.int .i64 y) := fun W hW => hcl W hW j y hy
        have htk : ks.take k = ks.take j ++ [y] := by rw [hj, List.take_add_one, hy]; rfl
        obtain ⟨i, p, hip, hpy⟩ := rle_last (ks.take j) y
        rw [← htk] at hip
        have hok := rle_ok (ks.take k) ht1024
        have hsum := hok.sum
        have hp1 := hok.pos p (by rw [hip]; exact List.mem_append_right _ (List.mem_cons_self ..))
        have hps : p.1 ≤ 1024 := by
          have h1 := (hok.part i.length).1
          rw [hip, List.take_left] at h1
          rw [hip, sumR_append] at hsum
          simp only [sumR] at hsum
          omega
        have HIP := hid hip
        have HMI : Hid (m = i.length + 1) := by show _ = _; rw [hml.out, hip, List.length_append]; rfl
        have HXC := hid hxc
        have HYC := hid hyc
        have HJ := hid hj
        clear hk0 hlt hcl hxc hyc hx hy hk htk hok hsum hip hj
        have xr : wr.cell? ⟨g, k, none⟩ = some (.int .i64 x) := HXC.out wr hbw
        have yr : wr.cell? ⟨g, j, none⟩ = some (.int .i64 y) := HYC.out wr hbw
        by_cases hu : y = x
        · have du : (x == y) = true := b1 hu.symm
          have HPU : Hid (rle (ks.take (k + 1)) = i ++ [(p.1 + 1, x)]) := by show _ = _; rw [HT.out, rle_snoc, HIP.out, pushR_same _ _ _ _ (hpy.trans hu)]
          obtain ⟨c, hc⟩ : ∃ c, p.1 = c := ⟨_, rfl⟩
          rw [hc] at HPU hp1 hps
          have sw : IntKind.i64.wrap (c + 1) = c + 1 := IntWalk.i64_in _ (by omega)
          obtain ⟨e, he⟩ : ∃ e, i.length = e := ⟨_, rfl⟩
          have hme : m = e + 1 := HMI.out.trans (by rw [he])
          have swm : IntKind.i64.wrap ((m : Int) - 1) = (e : Int) := by rw [IntWalk.i64_in _ (by omega)]; omega
          have hei : (0 : Int) ≤ (e : Int) := Int.natCast_nonneg _
          have hel : (e : Int) < (m : Int) := by omega
          have hsp : Spn w.heap.size wr (.slice oa m oc) (rle (ks.take k)) := by
            show wr.ownsRow _ _ _ _ _ _
            rw [← hml.out]
            exact hown.out
          obtain ⟨g2, cap2, hv2, t0, t1, tf⟩ := hsp.atR (k := e) (p := p) (by rw [HIP.out]; simp [← he])
          rw [← hml.out] at hv2
          simp only [Value.slice.injEq, true_and] at hv2
          obtain ⟨rfl, rfl⟩ := hv2
          rw [hc] at t0
          have hg2 := (hown.out.lt g2 rfl).2
          have hg2w := (hown.out.lt g2 rfl).1
          have T0 := hid t0
          have TF := hid tf
          have HE := hid he
          have HME := hid hme
          have HU := hid hu
          have HPC := hid (show p = (c, y) by rw [← hc, ← hpy])
          clear hu hc he hme t0 t1 tf hsp hpy
          go_upto_region 5 with (fail)
          go_quiet (fail)
          have hbq : Below wr.heap.size wr (wr.drewN nq) := below_drewN (Below.refl _ _) _
          have hbw' := bt hbw hbq (Nat.le_refl _)
          have HO : Hid ((wr.drewN nq).ownsRow w.heap.size 107 2 (.slice (some ⟨g2, 0, none⟩) m oc) m (rcs (rle (ks.take k)))) := own_keeps (F := fun _ => False) hown.out (Keeps.of_below hbq) (fun _ _ f => f)
          generalize wr.drewN nq = wq at *
          have y0 : wq.cell? ⟨g2, e * 2, none⟩ = some (.int .i64 c) := cell_keep hbq T0.out
          have yf : wq.frozen? ⟨g2, e * 2, none⟩ = false := by rw [hbq.frozen (p := ⟨g2, e * 2, none⟩) hg2]; exact TF.out
          have ho3 := (HO.out.stored (e * 2) (.int .i64 (c + 1))).1
          have ee : (rcs (rle (ks.take k))).set (e * 2) (.int .i64 (c + 1)) = rcs (rle (ks.take (k + 1))) := by
            rw [HPU.out, HIP.out, rcs_append, rcs_append, List.set_append_right _ _ (by rw [rcs_len, HE.out]; exact Nat.le_refl _), rcs_len, HE.out, Nat.sub_self, HPC.out, HU.out]
            rfl
          rw [ee] at ho3
          have HO3 := hid ho3
          have HB3 : Hid (Below w.heap.size w (wq.setCell ⟨g2, e * 2, none⟩ (.int .i64 (c + 1)))) := hbw'.setCell (p := ⟨g2, e * 2, none⟩) hg2w _
          have HM3 : Hid (m = (rle (ks.take (k + 1))).length) := by show _ = _; rw [HPU.out, List.length_append, HE.out, HME.out]; rfl
          clear ho3 ee
          go_wp2
          go_roundw
          case rel => exact ⟨k + 1, m, _, _, by omega, by go_num, rfl, HO3.out, HM3.out, HB3.out⟩
          case measure => simp [intOf]; omega
        · have du : (x == y) = false := b0 (fun e => hu e.symm)
          have HPU : Hid (rle (ks.take (k + 1)) = rle (ks.take k) ++ [(1, x)]) := by show _ = _; rw [HT.out, rle_snoc, HIP.out, pushR_other _ _ _ _ (by rw [hpy]; exact hu)]
          clear hu hpy
          go_upto_region 5 with (fail)
          go_quiet (fail)
          have hbq : Below wr.heap.size wr (wr.drewN nq) := below_drewN (Below.refl _ _) _
          have HO : Hid ((wr.drewN nq).ownsRow w.heap.size 107 2 (.slice oa m oc) m (rcs (rle (ks.take k)))) := own_keeps (F := fun _ => False) hown.out (Keeps.of_below hbq) (fun _ _ f => f)
          have hbw' := bt hbw hbq (Nat.le_refl _)
          generalize wr.drewN nq = wq at *
          have xc : wq.cell? ⟨g, k, none⟩ = some (.int .i64 x) := HXC.out _ hbw'
          have hsq := hbw'.size
          go_wp2_with (at_builtin; refine wpList_appN rfl _ _ 56 rfl w.heap.size 107 i5 _ 2 16 Tryz.underlying56 hi hz0 hz1 hz2 rfl (by decide) (.slice oa m oc) m (rcs (rle (ks.take k))) rfl (HO.out.alloc _) ⟨(wq).heap.size, 0, none⟩ 1 1 [.int .i64 1, .int .i64 x] rfl rfl (newsNew (wq) [.int .i64 1, .int .i64 x] _) (by intro u hu; simp at hu; rcases hu with rfl | rfl <;> rfl) (by unfold maxLen; omega) (by omega) (by simp; omega) ?c3)
          case c3 =>
            intro v6 w6 hown6 hgr6 _
            obtain ⟨a6, c6, rfl⟩ := own_slice hown6; have HO6 : Hid (w6.ownsRow w.heap.size 107 2 (.slice a6 (m + 1) c6) (m + 1) (rcs (rle (ks.take (k + 1))))) := (by show w6.ownsRow _ _ _ _ _ _; rw [HPU.out, rcs_append]; exact hown6); have HM6 : Hid (m + 1 = (rle (ks.take (k + 1))).length) := (by show _ = _; rw [HPU.out, List.length_append, ← hml.out]; rfl); have HB6 : Hid (Below w.heap.size w w6) := (bta hbw' (Nat.le_refl _) _).grown hgr6 (by simp; omega) (fun j hj => (HO.out.lt j hj).1); clear hown6 hgr6; go_wp2; go_roundw; (case rel => exact ⟨k + 1, m + 1, a6, c6, by omega, by go_num, rfl, HO6.out, HM6.out, HB6.out⟩); (case measure => simp [intOf]; omega)
    · obtain rfl : k = n := by omega
      have HT : Hid (ks.take k = ks) := List.take_of_length_le (by rw [HN.out]; exact Nat.le_refl _)
      have HE : Hid (Spn w.heap.size wr (.slice oa m oc) l) := by
        have h1 := hown.out
        have h2 := hml.out
        rw [HT.out, hle.out] at h1 h2
        show wr.ownsRow _ _ _ _ _ _
        rw [← h2]
        exact h1
      clear hown HO
      go_wp2
      go_ret
      exact ⟨_, rfl, HE.out, hbw⟩

end Go.Proofs.YtliblgmpclefgaaGreat
