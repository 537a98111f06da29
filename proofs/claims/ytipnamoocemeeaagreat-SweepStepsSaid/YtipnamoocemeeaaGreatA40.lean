/-
  Texts 40 of the claim.
-/
import Derived.Test.YtipnamoocemeeaaGreatA35
import Derived.Deep.CutBlock
/-
  Several texts of this claim in one file.
-/
/-
The reference's map: NewMap, Next, add.
-/
namespace Go.Proofs.YtipnamoocemeeaaGreat
open Go.RowKit

def ksV (l : List Int) : List Value := l.map (.int .i64)
theorem infoInt : (Tryz.prog.info? 3).map (fun i => (i.zero, i.size, i.bytes)) = some (some (.int .i64 0), 1, 8) := by kernel_rfl
def RmC (W : World) (g : Nat) (m : Mp) (v : Value) (q : Int) : Prop := W.heap[g]? = some (.cells #[.int .i64 m.tb, .int .i64 m.first, .int .i64 m.cnt, .int .i64 m.most, v, .int .i64 m.mode, .int .i64 m.lo, .int .i64 m.hi, .int .i64 q] 171)
/-- The reference's map in block g; its row lies from block B on. -/
structure RmAt (B : Nat) (W : World) (g : Nat) (m : Mp) (v : Value) (q : Int) : Prop where
  at_ : RmC W g m v q
  own : W.ownsRow B 3 1 v m.ks.length (ksV m.ks)
  ne : ∀ j, v.ownBlock = some j → j ≠ g
theorem RmAt.keep {B : Nat} {W W' : World} {g : Nat} {m : Mp} {v : Value} {q : Int} (h : RmAt B W g m v q) (hb : Below W.heap.size W W') : RmAt B W' g m v q :=
  ⟨hpKeep h.at_ hb, own_keeps h.own (Keeps.of_below (F := fun _ => False) hb) (fun _ _ f => f), h.ne⟩

set_option maxRecDepth 100000 in
set_option maxHeartbeats 3200000 in
theorem rmnew_any (tb first cnt most : Int) (t0 : 1 ≤ tb) (t1 : tb ≤ 4) (c0 : 1 ≤ cnt) (c1 : cnt ≤ 512) (f0 : 0 ≤ first) (f1 : first ≤ 65536 - cnt) (m0 : 1 ≤ most) (m1 : most ≤ 2000) (w : World) :
    Calls Tryz.prog 99 #[.int .i64 tb, .agg #[.int .i64 first, .int .i64 cnt], .int .i64 most] w fun r w' => ∃ g : Nat, r = .returned (.pointer (some ⟨g, 0, none⟩)) ∧ w.heap.size ≤ g ∧ RmC w' g (Mp.new tb first cnt most) (.slice none 0 0) 0 ∧ Below w.heap.size w w' := by
  have a1 : ¬ tb < 1 := by omega
  have a2 : ¬ 4 < tb := by omega
  have a3 : ¬ cnt < 1 := by omega
  have a4 : ¬ 512 < cnt := by omega
  have a5 : ¬ first < 0 := by omega
  have a6 : ¬ 65536 - cnt < first := by omega
  have a7 : ¬ most < 1 := by omega
  have a8 : ¬ 2000 < most := by omega
  have sw : IntKind.i64.wrap (65536 - cnt) = 65536 - cnt := IntWalk.i64_in _ (by omega)
  clear t0 t1 c0 c1 f0 f1 m0 m1
  go_enter Tryz.func99, Tryz.ntmps99
  go_wp2
  go_ret
  refine ⟨w.heap.size + 1, rfl, by omega, ?_, bta (bal' w _) (Nat.le_refl _) _⟩
  have := hpNew (w.alloc (.cells #[.int .i64 first, .int .i64 cnt] 24)) (.cells #[.int .i64 (Mp.new tb first cnt most).tb, .int .i64 (Mp.new tb first cnt most).first, .int .i64 (Mp.new tb first cnt most).cnt, .int .i64 (Mp.new tb first cnt most).most, (.slice none 0 0), .int .i64 (Mp.new tb first cnt most).mode, .int .i64 (Mp.new tb first cnt most).lo, .int .i64 (Mp.new tb first cnt most).hi, .int .i64 0] 171)
  unfold RmC
  simpa [Mp.new] using this

set_option maxRecDepth 100000 in
set_option maxHeartbeats 3200000 in
theorem rmnext_any {B : Nat} {w : World} {g : Nat} {m : Mp} {v : Value} {q : Int} (h : RmAt B w g m v q) (hm : m.ok) (Q : Rq) (V : Bool) (hq : Hid (Q = m.ask)) (hV : Hid (V = !decide (m.rest = 0))) :
    Calls Tryz.prog 89 #[.pointer (some ⟨g, 0, none⟩)] w (AskPost w Q V) := by
  obtain ⟨W0, hW0⟩ : ∃ W, w.alloc (.cells #[.int .i64 0, .int .i64 0, .int .i64 0, .int .i64 0, .int .i64 0] 39) = W := ⟨_, rfl⟩
  have hb0 : Below w.heap.size w W0 := by rw [← hW0]; exact bal' w _
  have p0 : W0.heap[w.heap.size]? = some (.cells #[.int .i64 0, .int .i64 0, .int .i64 0, .int .i64 0, .int .i64 0] 39) := by rw [← hW0]; exact hpNew w _
  have l0 := hpKeep h.at_ hb0
  obtain ⟨s, hs⟩ : ∃ s : Int, (m.ks.length : Int) = s := ⟨_, rfl⟩
  obtain ⟨N, hN⟩ : ∃ N, m.size = N := ⟨_, rfl⟩
  obtain ⟨va, vc, rfl⟩ := own_slice h.own
  have c0 : W0.cell? ⟨g, 0, none⟩ = some (.int .i64 m.tb) := hpCell l0 0
  have c1 : W0.cell? ⟨g, 1, none⟩ = some (.int .i64 m.first) := hpCell l0 1
  have c2 : W0.cell? ⟨g, 2, none⟩ = some (.int .i64 m.cnt) := hpCell l0 2
  have c3 : W0.cell? ⟨g, 3, none⟩ = some (.int .i64 m.most) := hpCell l0 3
  have c4 : W0.cell? ⟨g, 4, none⟩ = some (.slice va m.ks.length vc) := hpCell l0 4
  have c5 : W0.cell? ⟨g, 5, none⟩ = some (.int .i64 m.mode) := hpCell l0 5
  have c6 : W0.cell? ⟨g, 6, none⟩ = some (.int .i64 m.lo) := hpCell l0 6
  have c7 : W0.cell? ⟨g, 7, none⟩ = some (.int .i64 m.hi) := hpCell l0 7
  have z0 : W0.cell? ⟨w.heap.size, 0, none⟩ = some (.int .i64 0) := hpCell p0 0
  have z1 : W0.cell? ⟨w.heap.size, 1, none⟩ = some (.int .i64 0) := hpCell p0 1
  have z2 : W0.cell? ⟨w.heap.size, 2, none⟩ = some (.int .i64 0) := hpCell p0 2
  have z3 : W0.cell? ⟨w.heap.size, 3, none⟩ = some (.int .i64 0) := hpCell p0 3
  have z4 : W0.cell? ⟨w.heap.size, 4, none⟩ = some (.int .i64 0) := hpCell p0 4
  have y0 : W0.frozen? ⟨w.heap.size, 0, none⟩ = false := hpFree p0 0
  have y1 : W0.frozen? ⟨w.heap.size, 1, none⟩ = false := hpFree p0 1
  have y2 : W0.frozen? ⟨w.heap.size, 2, none⟩ = false := hpFree p0 2
  have y3 : W0.frozen? ⟨w.heap.size, 3, none⟩ = false := hpFree p0 3
  have y4 : W0.frozen? ⟨w.heap.size, 4, none⟩ = false := hpFree p0 4
  obtain ⟨R, hR⟩ : ∃ R, m.rest = R := ⟨_, rfl⟩
  have hkl := hm.kl
  have hc1 := hm.c1
  have hc0 := hm.c0
  have s1 : IntKind.i64.wrap (m.cnt - (m.ks.length : Int)) = R := by rw [IntWalk.i64_in _ (by omega), ← hR]; rfl
  have s2 : IntKind.i64.wrap (m.first + (m.ks.length : Int)) = m.first + s := by rw [IntWalk.i64_in _ (by have := hm.f0; have := hm.f1; omega), hs]
  have HW0 := hid hW0
  have HB0 := hid hb0
  have HM := hid hm
  have HR := hid hR
  have HS := hid hs
  have HN := hid hN
  clear hW0 hb0 p0 l0 h hkl hc1 hc0 hR hs hN
  obtain ⟨ln, hln⟩ : ∃ n, m.ks.length = n := ⟨_, rfl⟩
  rw [hln] at c4 s1 s2
  clear hln
  by_cases hr : R = 0
  · have HE : Hid (Q = ⟨0, 0, 0, 0, 0⟩ ∧ V = false) := ⟨by rw [hq.out]; unfold Mp.ask; rw [HR.out, if_pos hr], by rw [hV.out, HR.out, decide_eq_true hr]; rfl⟩
    have d1 := b1 hr
    clear hr hq hV hm s2
    go_enter Tryz.func89, Tryz.ntmps89; go_upto_region 1 with (fail); rw [HW0.out]; go_quiet (fail)
    go_wp2
    refine bodyPost_ret (v := .tuple #[.agg #[.int .i64 0, .int .i64 0, .int .i64 0, .int .i64 0, .int .i64 0], .bool false]) (by simp [results, Tryz.results89, go_sem, z0, z1, z2, z3, z4]) rfl ⟨by rw [HE.out.1, HE.out.2], ?_⟩
    exact (((((bt HB0.out (below_drewN (Below.refl _ _) _) (Nat.le_refl _)).setCell (p := ⟨w.heap.size, 0, none⟩) (Nat.le_refl _) _).setCell (p := ⟨w.heap.size, 1, none⟩) (Nat.le_refl _) _).setCell (p := ⟨w.heap.size, 2, none⟩) (Nat.le_refl _) _).setCell (p := ⟨w.heap.size, 3, none⟩) (Nat.le_refl _) _).setCell (p := ⟨w.heap.size, 4, none⟩) (Nat.le_refl _) _
  · have HE : Hid (Q = ⟨m.tb, m.first + s, N, 0, 0⟩ ∧ V = true) := ⟨by rw [hq.out]; unfold Mp.ask; rw [HR.out, if_neg hr, HS.out, HN.out], by rw [hV.out, HR.out, decide_eq_false hr]; rfl⟩
    have d1 := b0 hr
    by_cases h1 : m.mode = 1
    · have d2 := b1 h1
      have HV : Hid (N = (if R < m.most then R else m.most)) := by show _ = _; rw [← HN.out]; unfold Mp.size; rw [if_pos h1, HR.out]
      have m1 : ∀ ts T W, (Builtin.min_ ts T #[.int .i64 m.most, .int .i64 R]).run Tryz.prog W = .ok (.int .i64 N) W := bmin Tryz.prog m.most R N HV.out.symm
      clear hr hq hV hm h1 c6 c7 HV
      go_enter Tryz.func89, Tryz.ntmps89; go_upto_region 1 with (fail); rw [HW0.out]; go_quiet (fail)
      go_upto_region 10 with (fail)
      go_region
      go_wp2
      refine bodyPost_ret (v := .tuple #[.agg #[.int .i64 m.tb, .int .i64 (m.first + s), .int .i64 N, .int .i64 0, .int .i64 0], .bool true]) (by simp [results, Tryz.results89, go_sem, z0, z1, z2, z3, z4]) rfl ⟨by rw [HE.out.1, HE.out.2], ?_⟩
      exact (((((bt HB0.out (below_drewN (Below.refl _ _) _) (Nat.le_refl _)).setCell (p := ⟨w.heap.size, 0, none⟩) (Nat.le_refl _) _).setCell (p := ⟨w.heap.size, 1, none⟩) (Nat.le_refl _) _).setCell (p := ⟨w.heap.size, 2, none⟩) (Nat.le_refl _) _).setCell (p := ⟨w.heap.size, 3, none⟩) (Nat.le_refl _) _).setCell (p := ⟨w.heap.size, 4, none⟩) (Nat.le_refl _) _
    · have d2 := b0 h1
      by_cases h2 : m.mode = 2
      · have d3 := b1 h2
        have hse := hm.se h2
        rw [HR.out] at hse
        have hRc : R ≤ 512 := by rw [← HR.out]; unfold Mp.rest; have := hm.c1; omega
        have s3 : IntKind.i64.wrap (m.lo + m.hi) = m.lo + m.hi := IntWalk.i64_in _ (by omega)
        have s4 : IntKind.i64.wrap ((m.lo + m.hi).tdiv 2) = N := by
          rw [Int.tdiv_eq_ediv_of_nonneg (by omega), IntWalk.i64_in _ (by omega), ← HN.out]
          unfold Mp.size
          rw [if_neg h1, if_pos h2]
        have HV : Hid (N = (m.lo + m.hi) / 2) := by show _ = _; rw [← HN.out]; unfold Mp.size; rw [if_neg h1, if_pos h2]
        have e1 : 0 ≤ m.lo := hse.1
        have e2 : 0 ≤ m.hi := by omega
        have e3 : m.lo ≤ 512 := by omega
        have e4 : m.hi ≤ 512 := by omega
        clear hr hq hV hm h1 h2 hse hRc c3
        go_enter Tryz.func89, Tryz.ntmps89; go_upto_region 1 with (fail); rw [HW0.out]; go_quiet (fail)
        go_upto_region 9 with (fail)
        go_quiet (fail)
        go_upto_region 10 with (fail)
        go_region
        go_wp2
        refine bodyPost_ret (v := .tuple #[.agg #[.int .i64 m.tb, .int .i64 (m.first + s), .int .i64 N, .int .i64 0, .int .i64 0], .bool true]) (by simp [results, Tryz.results89, go_sem, z0, z1, z2, z3, z4]) rfl ⟨by rw [HE.out.1, HE.out.2], ?_⟩
        exact (((((bt HB0.out (below_drewN (Below.refl _ _) _) (Nat.le_refl _)).setCell (p := ⟨w.heap.size, 0, none⟩) (Nat.le_refl _) _).setCell (p := ⟨w.heap.size, 1, none⟩) (Nat.le_refl _) _).setCell (p := ⟨w.heap.size, 2, none⟩) (Nat.le_refl _) _).setCell (p := ⟨w.heap.size, 3, none⟩) (Nat.le_refl _) _).setCell (p := ⟨w.heap.size, 4, none⟩) (Nat.le_refl _) _
      · have d3 := b0 h2
        have HV : Hid (N = 1) := by show _ = _; rw [← HN.out]; unfold Mp.size; rw [if_neg h1, if_neg h2]
        rw [HV.out] at HE
        clear hr hq hV hm h1 h2 c3 c6 c7
        go_enter Tryz.func89, Tryz.ntmps89; go_upto_region 1 with (fail); rw [HW0.out]; go_quiet (fail)
        go_upto_region 10 with (fail)
        go_region
        go_wp2
        refine bodyPost_ret (v := .tuple #[.agg #[.int .i64 m.tb, .int .i64 (m.first + s), .int .i64 1, .int .i64 0, .int .i64 0], .bool true]) (by simp [results, Tryz.results89, go_sem, z0, z1, z2, z3, z4]) rfl ⟨by rw [HE.out.1, HE.out.2], ?_⟩
        exact (((((bt HB0.out (below_drewN (Below.refl _ _) _) (Nat.le_refl _)).setCell (p := ⟨w.heap.size, 0, none⟩) (Nat.le_refl _) _).setCell (p := ⟨w.heap.size, 1, none⟩) (Nat.le_refl _) _).setCell (p := ⟨w.heap.size, 2, none⟩) (Nat.le_refl _) _).setCell (p := ⟨w.heap.size, 3, none⟩) (Nat.le_refl _) _).setCell (p := ⟨w.heap.size, 4, none⟩) (Nat.le_refl _) _

def RmFed (B : Nat) (w : World) (g : Nat) (v : Value) (m : Mp) (q : Int) (e : Ending) (r : Ending) (w' : World) : Prop :=
  r = e ∧ ∃ v', RmAt B w' g m v' q ∧ Keeps (fun j => j = g ∨ v.ownBlock = some j) w w' ∧ ∀ j, v'.ownBlock = some j → v.ownBlock = some j ∨ w.heap.size ≤ j

set_option maxRecDepth 100000 in
set_option maxHeartbeats 3200000 in
theorem radd_any {B : Nat} {w : World} {g : Nat} {m : Mp} {v : Value} {q : Int} (h : RmAt B w g m v q) (hB : B ≤ w.heap.size) (kind : Int) (N : Nat) (n : Int) (hn : n = (N : Int)) (hb : m.ks.length + N ≤ 2000) :
    Calls Tryz.prog 136 #[.pointer (some ⟨g, 0, none⟩), .int .i64 kind, .int .i64 n] w (RmFed B w g v { m with ks := m.ks ++ List.replicate N kind } q (.returned (.tuple #[]))) := by
  subst hn
  obtain ⟨i5, hi, hz0, hz1, hz2⟩ := info_parts infoInt
  have hgl : g < w.heap.size := hpLt h.at_
  have H := hid h
  have HN := hid hb
  clear h hb
  go_enter Tryz.func136, Tryz.ntmps136
  go_wp2_with fail
  go_loopw [2] (fun nv wr => ∃ (r : Nat) (R : Int) (vr : Value), nv = .int .i64 R ∧ Hid (R = (r : Int)) ∧ r ≤ N ∧ Hid (RmAt B wr g { m with ks := m.ks ++ List.replicate (N - r) kind } vr q) ∧ Hid (Keeps (fun j => j = g ∨ v.ownBlock = some j) w wr) ∧ Hid (∀ j, vr.ownBlock = some j → v.ownBlock = some j ∨ w.heap.size ≤ j)) (fun nv _ => (intOf nv).toNat)
  case atStart => exact ⟨N, (N : Int), v, rfl, rfl, Nat.le_refl _, (by show RmAt B w g { m with ks := m.ks ++ List.replicate (N - N) kind } v q; rw [Nat.sub_self]; simpa using H.out), Keeps.refl _ _, fun j hj => .inl hj⟩
  case round =>
    obtain ⟨r, R, vr, rfl, hRr, hr, hrm, hkp, hvb⟩ := hrel
    have hN2 := HN.out
    by_cases hlt : 0 < r
    · obtain ⟨L, hL⟩ : ∃ L, m.ks ++ List.replicate (N - r) kind = L := ⟨_, rfl⟩
      obtain ⟨ln, hln⟩ : ∃ n, L.length = n := ⟨_, rfl⟩
      have hlb : ln ≤ 2000 := by rw [← hln, ← hL]; simp; omega
      have hL1 : m.ks ++ List.replicate (N - (r - 1)) kind = L ++ [kind] := by rw [← hL, List.append_assoc, ← List.replicate_succ', show N - (r - 1) = N - r + 1 by omega]
      have hrm' := hrm.out
      rw [hL] at hrm'
      have HOW : wr.ownsRow B 3 1 vr L.length (ksV L) := hrm'.own
      rw [hln] at HOW
      obtain ⟨a, c, rfl⟩ := own_slice HOW
      have HAT := hid hrm'.at_
      have HNE := hid hrm'.ne
      have HOW := hid HOW
      have c4 : wr.cell? ⟨g, 4, none⟩ = some (.slice a ln c) := hpCell HAT.out 4
      have d0 : 0 < R := by have := hRr.out; omega
      have sw : IntKind.i64.wrap (R - 1) = R - 1 := IntWalk.i64_in _ (by have := hRr.out; omega)
      have hzw := hkp.out.size
      have HL := hid hL
      have HL1 := hid hL1
      have HLN := hid hln
      clear hrm' hlt hL hL1 hln hN2
      go_wp2_with (at_builtin; refine wpList_appN rfl _ _ 136 rfl B 3 i5 _ 1 8 Tryz.underlying136 hi hz0 hz1 hz2 rfl (by decide) (.slice a ln c) ln (ksV L) rfl (HOW.out.alloc _) ⟨wr.heap.size, 0, none⟩ 1 1 [.int .i64 kind] rfl rfl (newsNew wr [.int .i64 kind] _) (by intro u hu; simp at hu; rcases hu with rfl | rfl <;> rfl) (by unfold maxLen; omega) (by omega) (by simp; omega) ?c3)
      case c3 =>
        intro v6 w6 hown6 hgr6 hnew6
        have hk6 : Keeps (fun j => (Value.slice a ln c).ownBlock = some j) wr w6 := (Keeps.of_below (bal' wr _)).trans (Keeps.of_grown hgr6 (fun _ hk => hk)) (fun _ _ e => e)
        have hA6 := hpKeeps HAT.out hk6 (fun e => HNE.out g e rfl)
        have c6 : w6.cell? ⟨g, 4, none⟩ = some (.slice a ln c) := hpCell hA6 4
        have f6 : w6.frozen? ⟨g, 4, none⟩ = false := hpFree hA6 4
        have hgr : g < wr.heap.size := hpLt HAT.out
        obtain ⟨a6, k6, rfl⟩ := own_slice hown6
        have hnx : ∀ j, (Value.slice a6 (ln + 1) k6).ownBlock = some j → (Value.slice a ln c).ownBlock = some j ∨ wr.heap.size ≤ j := fun j hj => by
          rcases hnew6 with h1 | ⟨i, h1, h2⟩
          · exact .inl (by rw [← h1]; exact hj)
          · rw [hj] at h1
            cases h1
            simp at h2
            exact .inr (by omega)
        have hne6 : ∀ j, (Value.slice a6 (ln + 1) k6).ownBlock = some j → j ≠ g := fun j hj => by
          rcases hnx j hj with h1 | h1
          · exact HNE.out j h1
          · omega
        have hR6 : RmAt B (w6.setCell ⟨g, 4, none⟩ (.slice a6 (ln + 1) k6)) g { m with ks := m.ks ++ List.replicate (N - (r - 1)) kind } (.slice a6 (ln + 1) k6) q := by
          refine ⟨hpSetP hA6 rfl, ?_, hne6⟩
          show World.ownsRow _ B 3 1 _ (m.ks ++ List.replicate (N - (r - 1)) kind).length (ksV (m.ks ++ List.replicate (N - (r - 1)) kind))
          rw [HL1.out, List.length_append, HLN.out]
          have e : ksV (L ++ [kind]) = ksV L ++ [.int .i64 kind] := List.map_append ..
          rw [e]
          exact own_keeps (F := (· = g)) hown6 (ks1 (Keeps.refl _ _) _ _) (fun k hk e => hne6 k hk e)
        have hK6 : Keeps (fun j => j = g ∨ v.ownBlock = some j) w (w6.setCell ⟨g, 4, none⟩ (.slice a6 (ln + 1) k6)) := (hkp.out.trans hk6 (fun j hj e => by
          rcases hvb.out j e with h1 | h1
          · exact .inr h1
          · omega)).set _ _ (.inl rfl)
        have hB6 : ∀ j, (Value.slice a6 (ln + 1) k6).ownBlock = some j → v.ownBlock = some j ∨ w.heap.size ≤ j := fun j hj => by
          rcases hnx j hj with h1 | h1
          · exact hvb.out j h1
          · exact .inr (by omega)
        have HR6 := hid hR6
        have HK6 := hid hK6
        have HB6 := hid hB6
        clear hR6 hK6 hB6 hne6 hnx hA6 hk6 hown6 hgr6 hnew6
        go_wp2
        go_roundw
        case rel => exact ⟨r - 1, R - 1, _, rfl, (by show _ = _; have := hRr.out; omega), by omega, HR6.out, HK6.out, HB6.out⟩
        case measure => simp [intOf]; omega
    · obtain rfl : r = 0 := by omega
      have d0 : ¬ 0 < R := by have := hRr.out; omega
      go_wp2
      go_end0
      exact ⟨rfl, vr, hrm.out, hkp.out, hvb.out⟩

end Go.Proofs.YtipnamoocemeeaaGreat

/-
The reference's map: Feed.
-/
namespace Go.Proofs.YtipnamoocemeeaaGreat
open Go.RowKit

def Mp.feed' (m : Mp) (V R : Bool) : Mp :=
  if m.mode = 2 then
    (if V = true then (if m.hi = m.size + 1 then ({ m with lo := m.size }.learn m.size 1 0).learn 1 2 0 else { m with lo := m.size })
    else if R = true then (if m.size = m.lo + 1 then ({ m with hi := m.size }.learn m.lo 1 0).learn 1 2 0 else { m with hi := m.size })
    else m.learn m.lo 1 0)
  else if V = true then m.learn m.size 1 1
  else if R = true then (if 1 < m.size then { m with mode := 2, lo := 0, hi := m.size } else m.learn 1 2 0)
  else if 1 < m.size then { m with mode := 0 }
  else m.learn 1 3 0
theorem Mp.feed_eq (m : Mp) (v x : Int) : m.feed v x = m.feed' (v == 1) (refB v x 2) := by
  have h1 : ((v == 1) = true) = (v = 1) := by simp
  have h2 : (refB v x 2 = true) = (v = 2 ∧ x = 2) := by simp [refB]
  unfold Mp.feed Mp.feed'
  simp only [h1, h2]

/-- A map that has come so far since the world w. -/
def RmSt (B : Nat) (w : World) (g : Nat) (v : Value) (m : Mp) (q : Int) (W : World) : Prop :=
  ∃ v', RmAt B W g m v' q ∧ Keeps (fun j => j = g ∨ v.ownBlock = some j) w W ∧ ∀ j, v'.ownBlock = some j → v.ownBlock = some j ∨ w.heap.size ≤ j
theorem RmSt.start {B : Nat} {w : World} {g : Nat} {m : Mp} {v : Value} {q : Int} (h : RmAt B w g m v q) : RmSt B w g v m q w := ⟨v, h, Keeps.refl _ _, fun _ hj => .inl hj⟩
theorem RmSt.keep {B : Nat} {w W W' : World} {g : Nat} {m : Mp} {v : Value} {q : Int} (h : RmSt B w g v m q W) (hb : Below W.heap.size W W') : RmSt B w g v m q W' := by
  obtain ⟨v', h1, h2, h3⟩ := h
  exact ⟨v', h1.keep hb, h2.trans (Keeps.of_below (F := fun _ => False) hb) (fun _ _ e => e.elim), h3⟩
theorem RmSt.num {B : Nat} {w W : World} {g : Nat} {m m' : Mp} {v : Value} {q q' : Int} (h : RmSt B w g v m q W) (i : Nat) (u : Value) (e : ∀ v', (#[.int .i64 m.tb, .int .i64 m.first, .int .i64 m.cnt, .int .i64 m.most, v', .int .i64 m.mode, .int .i64 m.lo, .int .i64 m.hi, .int .i64 q] : Array Value).setIfInBounds i u = #[.int .i64 m'.tb, .int .i64 m'.first, .int .i64 m'.cnt, .int .i64 m'.most, v', .int .i64 m'.mode, .int .i64 m'.lo, .int .i64 m'.hi, .int .i64 q']) (hk : m'.ks = m.ks) : RmSt B w g v m' q' (W.setCell ⟨g, i, none⟩ u) := by
  obtain ⟨v', h1, h2, h3⟩ := h
  refine ⟨v', ⟨hpSetP h1.at_ (e v'), ?_, h1.ne⟩, h2.set _ _ (.inl rfl), h3⟩
  rw [hk]
  exact own_keeps (F := (· = g)) h1.own (ks1 (Keeps.refl _ _) _ _) (fun k hk' e => h1.ne k hk' e)
theorem RmSt.cell {B : Nat} {w W : World} {g : Nat} {m : Mp} {v : Value} {q : Int} (h : RmSt B w g v m q W) : W.cell? ⟨g, 5, none⟩ = some (.int .i64 m.mode) ∧ W.cell? ⟨g, 6, none⟩ = some (.int .i64 m.lo) ∧ W.cell? ⟨g, 7, none⟩ = some (.int .i64 m.hi) ∧ W.cell? ⟨g, 8, none⟩ = some (.int .i64 q) := by
  obtain ⟨v', h1, -⟩ := h
  exact ⟨hpCell h1.at_ 5, hpCell h1.at_ 6, hpCell h1.at_ 7, hpCell h1.at_ 8⟩
theorem RmSt.free {B : Nat} {w W : World} {g : Nat} {m : Mp} {v : Value} {q : Int} (h : RmSt B w g v m q W) (i : Nat) : W.frozen? ⟨g, i, none⟩ = false := by
  obtain ⟨v', h1, -⟩ := h
  exact hpFree h1.at_ i
theorem RmSt.lt {B : Nat} {w W : World} {g : Nat} {m : Mp} {v : Value} {q : Int} (h : RmSt B w g v m q W) : g < W.heap.size := by
  obtain ⟨v', h1, -⟩ := h
  exact hpLt h1.at_
theorem RmSt.size {B : Nat} {w W : World} {g : Nat} {m : Mp} {v : Value} {q : Int} (h : RmSt B w g v m q W) : w.heap.size ≤ W.heap.size := by
  obtain ⟨v', h1, h2, -⟩ := h
  exact h2.size
theorem RmSt.add {B : Nat} {w W : World} {g : Nat} {m : Mp} {v : Value} {q : Int} (h : RmSt B w g v m q W) (hB : B ≤ w.heap.size) (kind n : Int) (h0 : 0 ≤ n) (hb : m.ks.length + n ≤ 2000) :
    Calls Tryz.prog 136 #[.pointer (some ⟨g, 0, none⟩), .int .i64 kind, .int .i64 n] W fun r w' => r = .returned (.tuple #[]) ∧ RmSt B w g v { m with ks := m.ks ++ List.replicate n.toNat kind } q w' := by
  obtain ⟨v', h1, h2, h3⟩ := h
  have hs := h2.size
  refine (radd_any h1 (by omega) kind n.toNat n (Int.toNat_of_nonneg h0).symm (by omega)).mono ?_
  rintro r w' ⟨rfl, v'', k1, k2, k3⟩
  refine ⟨rfl, v'', k1, h2.trans k2 (fun j hj e => ?_), fun j hj => ?_⟩
  · rcases e with e | e
    · exact .inl e
    · rcases h3 j e with e | e
      · exact .inr e
      · omega
  · rcases k3 j hj with e | e
    · exact h3 j e
    · exact .inr (by omega)

set_option maxRecDepth 100000 in
set_option maxHeartbeats 12800000 in
theorem rmfeed_any {B : Nat} {w : World} {g : Nat} {m : Mp} {v : Value} {q : Int} (h : RmAt B w g m v q) (hB : B ≤ w.heap.size) (hm : m.ok) (hr : ¬ m.rest = 0) (q0 : 0 ≤ q) (q1 : q ≤ 1000000) (vd x : Int) (f d c l mm n ob : Value) :
    Calls Tryz.prog 100 #[.pointer (some ⟨g, 0, none⟩), .agg #[.int .i64 vd, f, .int .i64 x, d, c, l, mm, n, ob]] w (fun r w' => r = .returned (.int .i64 0) ∧ RmSt B w g v (m.feed vd x) (q + 1) w') := by
  obtain ⟨R2, hR2⟩ : ∃ b, refB vd x 2 = b := ⟨_, rfl⟩
  obtain ⟨V, hV⟩ : ∃ b, (vd == 1) = b := ⟨_, rfl⟩
  obtain ⟨M, hM⟩ : ∃ M, m.feed vd x = M := ⟨_, rfl⟩
  rw [hM]
  have HMM : Hid (m.feed' V R2 = M) := by show _ = _; rw [← hV, ← hR2, ← Mp.feed_eq, hM]
  have HRF2 : Hid (∀ X, Calls Tryz.prog 134 #[.agg #[.int .i64 vd, f, .int .i64 x, d, c, l, mm, n, ob], .int .i64 2] X (BoolPost X R2)) := fun X => by rw [← hR2]; exact refused_any _ _ _ _ _ _ _ _ _ _ X
  obtain ⟨Q, hQ⟩ : ∃ Q, m.size = Q := ⟨_, rfl⟩
  obtain ⟨rq, hrq⟩ : ∃ q, m.ask = q := ⟨_, rfl⟩
  have HRQ : Hid (rq.qty = Q) := by show _ = _; rw [← hrq, ← hQ]; unfold Mp.ask; rw [if_neg hr]
  have hsz := Mp.size_bd hm hr
  rw [hQ] at hsz
  have hkl := hm.kl
  have hc1 := hm.c1
  have hrd : m.rest = m.cnt - m.ks.length := rfl
  have hln0 : (0 : Int) ≤ (m.ks.length : Int) := Int.natCast_nonneg _
  obtain ⟨WB, hWB⟩ : ∃ W, w.alloc (.cells #[.int .i64 vd, f, .int .i64 x, d, c, l, mm, n, ob] 55) = W := ⟨_, rfl⟩
  have hbB : Below w.heap.size w WB := by rw [← hWB]; exact bal' w _
  have pB : WB.heap[w.heap.size]? = some (.cells #[.int .i64 vd, f, .int .i64 x, d, c, l, mm, n, ob] 55) := by rw [← hWB]; exact hpNew w _
  have hgl : g < w.heap.size := hpLt h.at_
  have HNX : Hid (Calls Tryz.prog 89 #[.pointer (some ⟨g, 0, none⟩)] WB (AskPost WB rq true)) := rmnext_any (h.keep hbB) hm rq true hrq.symm (by show _ = _; rw [decide_eq_false hr]; rfl)
  have SB : RmSt B w g v m q WB := (RmSt.start h).keep hbB
  have HSE : Hid (m.mode = 2 → 0 ≤ m.lo ∧ m.lo + 2 ≤ m.hi ∧ m.hi ≤ m.rest) := hm.se
  have HBB := hid hB
  have HWB := hid hWB
  have LBB := hid hbB
  have PB := hid pB
  have HSB := hid SB
  clear hWB hbB pB SB hm hr h hR2 hM hrq hB
  go_enter Tryz.func100, Tryz.ntmps100
  go_upto_region 1 with (fail)
  rw [HWB.out]
  go_upto_region 2 with (go_at_call 89; (with_reducible refine HNX.out.mono ?_); rintro r w2 ⟨rfl, hb2⟩)
  obtain ⟨WC, hWC⟩ : ∃ W, w2.alloc (.cells #[.int .i64 rq.fn, .int .i64 rq.addr, .int .i64 rq.qty, .int .i64 rq.code, .int .i64 rq.obj] 39) = W := ⟨_, rfl⟩
  have hbC : Below WB.heap.size WB WC := by rw [← hWC]; exact bta hb2 (Nat.le_refl _) _
  have pC : WC.heap[w2.heap.size]? = some (.cells #[.int .i64 rq.fn, .int .i64 rq.addr, .int .i64 rq.qty, .int .i64 rq.code, .int .i64 rq.obj] 39) := by rw [← hWC]; exact hpNew _ _
  have SC := HSB.out.keep hbC
  have oC := hpKeep PB.out hbC
  have c8 : WC.cell? ⟨g, 8, none⟩ = some (.int .i64 q) := SC.cell.2.2.2
  have f8 : WC.frozen? ⟨g, 8, none⟩ = false := SC.free 8
  have s1 : IntKind.i64.wrap (q + 1) = q + 1 := IntWalk.i64_in _ (by omega)
  have hzB : WB.heap.size = w.heap.size + 1 := by rw [← HWB.out]; simp
  have hz2 := hb2.size
  rw [hWC]
  generalize w2.heap.size = qb at *
  obtain ⟨W1, hW1⟩ : ∃ W, WC.setCell ⟨g, 8, none⟩ (.int .i64 (q + 1)) = W := ⟨_, rfl⟩
  have hk1 : Keeps (· = g) WC W1 := by rw [← hW1]; exact ks1 (Keeps.refl _ _) _ _
  have p1 : W1.heap[qb]? = some (.cells #[.int .i64 rq.fn, .int .i64 rq.addr, .int .i64 rq.qty, .int .i64 rq.code, .int .i64 rq.obj] 39) := hpKeeps pC hk1 (fun e => by omega)
  have o1 : W1.heap[w.heap.size]? = some (.cells #[.int .i64 vd, f, .int .i64 x, d, c, l, mm, n, ob] 55) := hpKeeps oC hk1 (fun e => by omega)
  have S1 : RmSt B w g v m (q + 1) W1 := by rw [← hW1]; exact SC.num 8 _ (fun _ => rfl) rfl
  go_upto_region 5 with (fail)
  have HS1 := hid S1
  have P1 := hid p1
  clear hWC hbC pC SC oC c8 f8 s1 hzB hz2 hW1 hk1 p1 S1 hb2
  have e0 : ∀ X, Below W1.heap.size W1 X → X.cell? ⟨w.heap.size, 0, none⟩ = some (.int .i64 vd) := fun X h => hpCell (hpKeep o1 h) 0
  have e1 : ∀ X, Below W1.heap.size W1 X → X.cell? ⟨w.heap.size, 1, none⟩ = some f := fun X h => hpCell (hpKeep o1 h) 1
  have e2 : ∀ X, Below W1.heap.size W1 X → X.cell? ⟨w.heap.size, 2, none⟩ = some (.int .i64 x) := fun X h => hpCell (hpKeep o1 h) 2
  have e3 : ∀ X, Below W1.heap.size W1 X → X.cell? ⟨w.heap.size, 3, none⟩ = some d := fun X h => hpCell (hpKeep o1 h) 3
  have e4 : ∀ X, Below W1.heap.size W1 X → X.cell? ⟨w.heap.size, 4, none⟩ = some c := fun X h => hpCell (hpKeep o1 h) 4
  have e5 : ∀ X, Below W1.heap.size W1 X → X.cell? ⟨w.heap.size, 5, none⟩ = some l := fun X h => hpCell (hpKeep o1 h) 5
  have e6 : ∀ X, Below W1.heap.size W1 X → X.cell? ⟨w.heap.size, 6, none⟩ = some mm := fun X h => hpCell (hpKeep o1 h) 6
  have e7 : ∀ X, Below W1.heap.size W1 X → X.cell? ⟨w.heap.size, 7, none⟩ = some n := fun X h => hpCell (hpKeep o1 h) 7
  have e8 : ∀ X, Below W1.heap.size W1 X → X.cell? ⟨w.heap.size, 8, none⟩ = some ob := fun X h => hpCell (hpKeep o1 h) 8
  have k0 : Below W1.heap.size W1 W1 := Below.refl _ _
  have kD : Below W1.heap.size W1 W1.drew := (Below.refl _ _).drew
  go_cut [7, 8] from 23 to 27 (fun s7 s8 wc => s7 = .bool V ∧ s8 = .bool R2 ∧ Below W1.heap.size W1 wc)
  case first =>
    go_region_held3 (fun X => Below W1.heap.size W1 X) ((first | exact k0 | exact kD | assumption)) ((go_at_call 134; (with_reducible refine (HRF2.out _).mono ?_); rintro r w2 ⟨rfl, hb2⟩; have hB2 := bt kD hb2 (Nat.le_refl _)))
    go_wp2
    go_meet
    case rel => exact ⟨rfl, rfl, hB2⟩
  case rest =>
    obtain ⟨rfl, rfl, hbc⟩ := hcut
    have SC := HS1.out.keep hbc
    have t5 := SC.cell.1
    have t6 := SC.cell.2.1
    have t7 := SC.cell.2.2.1
    have f5 := SC.free 5
    have f6 := SC.free 6
    have f7 := SC.free 7
    have r2 : wc.cell? ⟨qb, 2, none⟩ = some (.int .i64 Q) := by rw [hpCell (hpKeep P1.out hbc)]; show some (Value.int .i64 rq.qty) = _; rw [HRQ.out]
    have HSC := hid SC
    clear SC hbc e0 e1 e2 e3 e4 e5 e6 e7 e8 k0 kD o1 hV HRF2 HNX HRQ P1 HS1 PB HSB LBB HWB hgl
    have o0 : (0 : Int) ≤ 1 := by decide
    have n1 : (m.ks.length : Int) + 1 ≤ 2000 := by omega
    have nQ0 : 0 ≤ Q := by omega
    have nQ : (m.ks.length : Int) + Q ≤ 2000 := by omega
    have nn : ∀ (k : Int) (N : Int), 0 ≤ N → N ≤ 600 → (((m.ks ++ List.replicate N.toNat k).length : Nat) : Int) + 1 ≤ 2000 := fun k N h0 h1 => by
      rw [List.length_append, List.length_replicate]
      omega
    by_cases h2 : m.mode = 2
    · have d2 := b1 h2
      obtain ⟨u1, u2, u3⟩ := HSE.out h2
      have sl : ∀ a : Int, 0 ≤ a → a ≤ 512 → IntKind.i64.wrap (a + 1) = a + 1 := fun a h0 h1 => IntWalk.i64_in _ (by omega)
      have nL : (m.ks.length : Int) + m.lo ≤ 2000 := by omega
      have nnQ := nn 1 Q (by omega) (by omega)
      have nnL := nn 1 m.lo (by omega) (by omega)
      have HM2 : Hid ((if V = true then (if m.hi = m.size + 1 then ({ m with lo := m.size }.learn m.size 1 0).learn 1 2 0 else { m with lo := m.size }) else if R2 = true then (if m.size = m.lo + 1 then ({ m with hi := m.size }.learn m.lo 1 0).learn 1 2 0 else { m with hi := m.size }) else m.learn m.lo 1 0) = M) := by show _ = _; rw [← HMM.out]; unfold Mp.feed'; rw [if_pos h2]
      rw [hQ] at HM2
      have HNN := hid nn
      clear HMM HSE h2 hQ nn
      cases V with
      | true =>
        obtain ⟨z, hz⟩ : ∃ z, Q + 1 = z := ⟨_, rfl⟩
        have sw : IntKind.i64.wrap (Q + 1) = z := (sl Q (by omega) (by omega)).trans hz
        have S2 : RmSt B w g v { m with lo := Q } (q + 1) (wc.setCell ⟨g, 6, none⟩ (.int .i64 Q)) := HSC.out.num 6 _ (fun _ => rfl) rfl
        by_cases hh : m.hi = z
        · have d3 := b1 hh
          have HE : Hid (({ m with lo := Q }.learn Q 1 0).learn 1 2 0 = M) := by show _ = _; rw [← HM2.out, if_pos rfl, if_pos (hh.trans hz.symm)]
          clear HM2 hh hz sl
          obtain ⟨W2, hW2⟩ : ∃ W, wc.setCell ⟨g, 6, none⟩ (.int .i64 Q) = W := ⟨_, rfl⟩; rw [hW2] at S2; have z5 := S2.cell.1; have z6 := S2.cell.2.1; have z7 := S2.cell.2.2.1; have y5 := S2.free 5; have y6 := S2.free 6; have y7 := S2.free 7; have HS2 := hid S2; have HW2 := hid hW2; clear S2 hW2
          go_upto_region 11 with (fail); rw [HW2.out]; go_quiet (fail); have hbq : Below W2.heap.size W2 (W2.drewN nq) := below_drewN (Below.refl _ _) _; have S3 := HS2.out.keep hbq; generalize W2.drewN nq = W3 at *; have x5 := S3.cell.1; have x6 := S3.cell.2.1; have x7 := S3.cell.2.2.1; have v5 := S3.free 5
          go_wp2_with (first | (go_at_call 136; (with_reducible refine (RmSt.add S3 HBB.out 1 Q nQ0 nQ).mono ?_); rintro r w5 ⟨rfl, hs5⟩; have z5 := RmSt.cell hs5; have y5 := RmSt.free hs5 5) | (go_at_call 136; (with_reducible refine (RmSt.add hs5 HBB.out 2 1 o0 nnQ).mono ?_); rintro r w6 ⟨rfl, hs6⟩; have z5 := RmSt.cell hs6; have y5 := RmSt.free hs6 5))
          go_ret
          exact ⟨rfl, by rw [← HE.out]; exact hs6.num 5 _ (fun _ => rfl) rfl⟩
        · have d3 := b0 hh
          have HE : Hid ({ m with lo := Q } = M) := by show _ = _; rw [← HM2.out, if_pos rfl, if_neg (fun e => hh (e.trans hz))]
          clear HM2 hh hz sl
          obtain ⟨W2, hW2⟩ : ∃ W, wc.setCell ⟨g, 6, none⟩ (.int .i64 Q) = W := ⟨_, rfl⟩; rw [hW2] at S2; have z5 := S2.cell.1; have z6 := S2.cell.2.1; have z7 := S2.cell.2.2.1; have y5 := S2.free 5; have y6 := S2.free 6; have y7 := S2.free 7; have HS2 := hid S2; have HW2 := hid hW2; clear S2 hW2
          go_upto_region 11 with (fail); rw [HW2.out]; go_quiet (fail); have hbq : Below W2.heap.size W2 (W2.drewN nq) := below_drewN (Below.refl _ _) _; have S3 := HS2.out.keep hbq; generalize W2.drewN nq = W3 at *; have x5 := S3.cell.1; have x6 := S3.cell.2.1; have x7 := S3.cell.2.2.1; have v5 := S3.free 5
          go_wp2
          go_ret
          exact ⟨rfl, by rw [← HE.out]; exact S3⟩
      | false =>
        cases R2 with
        | true =>
          obtain ⟨z, hz⟩ : ∃ z, m.lo + 1 = z := ⟨_, rfl⟩
          have sw : IntKind.i64.wrap (m.lo + 1) = z := (sl m.lo (by omega) (by omega)).trans hz
          have S2 : RmSt B w g v { m with hi := Q } (q + 1) (wc.setCell ⟨g, 7, none⟩ (.int .i64 Q)) := HSC.out.num 7 _ (fun _ => rfl) rfl
          by_cases hh : Q = z
          · have d3 := b1 hh
            have HE : Hid (({ m with hi := Q }.learn m.lo 1 0).learn 1 2 0 = M) := by show _ = _; rw [← HM2.out, if_neg (by decide), if_pos rfl, if_pos (hh.trans hz.symm)]
            clear HM2 hh hz sl
            obtain ⟨W2, hW2⟩ : ∃ W, wc.setCell ⟨g, 7, none⟩ (.int .i64 Q) = W := ⟨_, rfl⟩; rw [hW2] at S2; have z5 := S2.cell.1; have z6 := S2.cell.2.1; have z7 := S2.cell.2.2.1; have y5 := S2.free 5; have y6 := S2.free 6; have y7 := S2.free 7; have HS2 := hid S2; have HW2 := hid hW2; clear S2 hW2
            go_upto_region 11 with (fail); rw [HW2.out]; go_quiet (fail); have hbq : Below W2.heap.size W2 (W2.drewN nq) := below_drewN (Below.refl _ _) _; have S3 := HS2.out.keep hbq; generalize W2.drewN nq = W3 at *; have x5 := S3.cell.1; have x6 := S3.cell.2.1; have x7 := S3.cell.2.2.1; have v5 := S3.free 5
            go_wp2_with (first | (go_at_call 136; (with_reducible refine (RmSt.add S3 HBB.out 1 m.lo u1 nL).mono ?_); rintro r w5 ⟨rfl, hs5⟩; have z5 := RmSt.cell hs5; have y5 := RmSt.free hs5 5) | (go_at_call 136; (with_reducible refine (RmSt.add hs5 HBB.out 2 1 o0 nnL).mono ?_); rintro r w6 ⟨rfl, hs6⟩; have z5 := RmSt.cell hs6; have y5 := RmSt.free hs6 5))
            go_ret
            exact ⟨rfl, by rw [← HE.out]; exact hs6.num 5 _ (fun _ => rfl) rfl⟩
          · have d3 := b0 hh
            have HE : Hid ({ m with hi := Q } = M) := by show _ = _; rw [← HM2.out, if_neg (by decide), if_pos rfl, if_neg (fun e => hh (e.trans hz))]
            clear HM2 hh hz sl
            obtain ⟨W2, hW2⟩ : ∃ W, wc.setCell ⟨g, 7, none⟩ (.int .i64 Q) = W := ⟨_, rfl⟩; rw [hW2] at S2; have z5 := S2.cell.1; have z6 := S2.cell.2.1; have z7 := S2.cell.2.2.1; have y5 := S2.free 5; have y6 := S2.free 6; have y7 := S2.free 7; have HS2 := hid S2; have HW2 := hid hW2; clear S2 hW2
            go_upto_region 11 with (fail); rw [HW2.out]; go_quiet (fail); have hbq : Below W2.heap.size W2 (W2.drewN nq) := below_drewN (Below.refl _ _) _; have S3 := HS2.out.keep hbq; generalize W2.drewN nq = W3 at *; have x5 := S3.cell.1; have x6 := S3.cell.2.1; have x7 := S3.cell.2.2.1; have v5 := S3.free 5
            go_wp2
            go_ret
            exact ⟨rfl, by rw [← HE.out]; exact S3⟩
        | false =>
          have HE : Hid (m.learn m.lo 1 0 = M) := by show _ = _; rw [← HM2.out, if_neg (by decide), if_neg (by decide)]
          have S2 := HSC.out
          have hW2' : Hid (wc = wc) := rfl
          clear HM2 sl
          obtain ⟨W2, hW2⟩ : ∃ W, wc = W := ⟨_, rfl⟩; rw [hW2] at S2; have z5 := S2.cell.1; have z6 := S2.cell.2.1; have z7 := S2.cell.2.2.1; have y5 := S2.free 5; have y6 := S2.free 6; have y7 := S2.free 7; have HS2 := hid S2; have HW2 := hid hW2; clear S2 hW2
          go_upto_region 11 with (fail); rw [HW2.out]; go_quiet (fail); have hbq : Below W2.heap.size W2 (W2.drewN nq) := below_drewN (Below.refl _ _) _; have S3 := HS2.out.keep hbq; generalize W2.drewN nq = W3 at *; have x5 := S3.cell.1; have x6 := S3.cell.2.1; have x7 := S3.cell.2.2.1; have v5 := S3.free 5
          go_wp2_with ((go_at_call 136; (with_reducible refine (RmSt.add S3 HBB.out 1 m.lo u1 nL).mono ?_); rintro r w5 ⟨rfl, hs5⟩; have z5 := RmSt.cell hs5; have y5 := RmSt.free hs5 5))
          go_ret
          exact ⟨rfl, by rw [← HE.out]; exact hs5.num 5 _ (fun _ => rfl) rfl⟩
    · have d2 := b0 h2
      have HM2 : Hid ((if V = true then m.learn m.size 1 1 else if R2 = true then (if 1 < m.size then { m with mode := 2, lo := 0, hi := m.size } else m.learn 1 2 0) else if 1 < m.size then { m with mode := 0 } else m.learn 1 3 0) = M) := by show _ = _; rw [← HMM.out]; unfold Mp.feed'; rw [if_neg h2]
      rw [hQ] at HM2
      clear HMM HSE h2 hQ nn
      have SC := HSC.out
      cases V with
      | true =>
        have HE : Hid (m.learn Q 1 1 = M) := by show _ = _; rw [← HM2.out, if_pos rfl]
        clear HM2
        go_wp2_with ((go_at_call 136; (with_reducible refine (RmSt.add SC HBB.out 1 Q nQ0 nQ).mono ?_); rintro r w5 ⟨rfl, hs5⟩; have z5 := RmSt.cell hs5; have y5 := RmSt.free hs5 5))
        go_ret
        exact ⟨rfl, by rw [← HE.out]; exact hs5.num 5 _ (fun _ => rfl) rfl⟩
      | false =>
        cases R2 with
        | true =>
          by_cases h1 : 1 < Q
          · have HE : Hid ({ m with mode := 2, lo := 0, hi := Q } = M) := by show _ = _; rw [← HM2.out, if_neg (by decide), if_pos rfl, if_pos h1]
            clear HM2
            go_upto_region 24 with (fail)
            go_region
            go_wp2
            go_ret
            have e1 : RmSt B w g v { m with mode := 2 } (q + 1) (wc.setCell ⟨g, 5, none⟩ (.int .i64 2)) := HSC.out.num 5 _ (fun _ => rfl) rfl
            have e2 : RmSt B w g v { m with mode := 2, lo := 0 } (q + 1) ((wc.setCell ⟨g, 5, none⟩ (.int .i64 2)).setCell ⟨g, 6, none⟩ (.int .i64 0)) := e1.num 6 _ (fun _ => rfl) rfl
            have e3 : RmSt B w g v { m with mode := 2, lo := 0, hi := Q } (q + 1) (((wc.setCell ⟨g, 5, none⟩ (.int .i64 2)).setCell ⟨g, 6, none⟩ (.int .i64 0)).setCell ⟨g, 7, none⟩ (.int .i64 Q)) := e2.num 7 _ (fun _ => rfl) rfl
            exact ⟨rfl, by rw [← HE.out]; exact e3.keep (Below.refl _ _).drew⟩
          · have HE : Hid (m.learn 1 2 0 = M) := by show _ = _; rw [← HM2.out, if_neg (by decide), if_pos rfl, if_neg h1]
            clear HM2
            go_wp2_with ((go_at_call 136; (with_reducible refine (RmSt.add SC HBB.out 2 1 o0 n1).mono ?_); rintro r w5 ⟨rfl, hs5⟩; have z5 := RmSt.cell hs5; have y5 := RmSt.free hs5 5))
            go_ret
            exact ⟨rfl, by rw [← HE.out]; exact hs5.num 5 _ (fun _ => rfl) rfl⟩
        | false =>
          by_cases h1 : 1 < Q
          · have HE : Hid ({ m with mode := 0 } = M) := by show _ = _; rw [← HM2.out, if_neg (by decide), if_neg (by decide), if_pos h1]
            have d3 : (Q == 1) = false := b0 (by omega)
            clear HM2 h1
            go_wp2
            go_ret
            exact ⟨rfl, by rw [← HE.out]; exact HSC.out.num 5 _ (fun _ => rfl) rfl⟩
          · have HE : Hid (m.learn 1 3 0 = M) := by show _ = _; rw [← HM2.out, if_neg (by decide), if_neg (by decide), if_neg h1]
            have d3 : (Q == 1) = true := b1 (by omega)
            clear HM2 h1
            go_wp2_with ((go_at_call 136; (with_reducible refine (RmSt.add SC HBB.out 3 1 o0 n1).mono ?_); rintro r w5 ⟨rfl, hs5⟩; have z5 := RmSt.cell hs5; have y5 := RmSt.free hs5 5))
            go_ret
            exact ⟨rfl, by rw [← HE.out]; exact hs5.num 5 _ (fun _ => rfl) rfl⟩

end Go.Proofs.YtipnamoocemeeaaGreat

/-
The reference: Spans, NewProbe.
-/
namespace Go.Proofs.YtipnamoocemeeaaGreat
open Go.RowKit

theorem Spn.atR {base : Nat} {w : World} {v : Value} {l : List (Int × Int)} (h : Spn base w v l) {k : Nat} {p : Int × Int} (hp : l[k]? = some p) :
    ∃ g cap, v = .slice (some ⟨g, 0, none⟩) l.length cap ∧ w.cell? ⟨g, k * 2, none⟩ = some (.int .i64 p.1) ∧ w.cell? ⟨g, k * 2 + 1, none⟩ = some (.int .i64 p.2) ∧ w.frozen? ⟨g, k * 2, none⟩ = false := by
  have hk := (List.getElem?_eq_some_iff.1 hp).1
  have h' : w.ownsRow base 192 2 v l.length (rcs l) := h
  rcases h.2 with ⟨_, h0⟩ | ⟨g, cap, cur, hv, hg, _, hnc, hcm, _⟩
  · omega
  · subst hv
    obtain ⟨h2, h3⟩ := rcs_get l k p hp
    exact ⟨g, cap, rfl, by rw [h'.cellAt _ (by omega)]; exact h2, by rw [h'.cellAt _ (by omega)]; exact h3, h'.frozenAt _⟩
theorem ksV_at {base : Nat} {w : World} {v : Value} {l : List Int} (h : w.ownsRow base 3 1 v l.length (ksV l)) (hl : 0 < l.length) :
    ∃ g cap, v = .slice (some ⟨g, 0, none⟩) l.length cap ∧ ∀ W, Below w.heap.size w W → ∀ (k : Nat) x, l[k]? = some x → W.cell? ⟨g, k, none⟩ = some (.int .i64 x) := by
  rcases id h.2 with ⟨_, h0⟩ | ⟨g, cap, cur, hv, hg, _, hnc, hcm, _⟩
  · omega
  · subst hv
    refine ⟨g, cap, rfl, fun W hW k x hx => ?_⟩
    have hk := (List.getElem?_eq_some_iff.1 hx).1
    refine cell_keep hW ?_
    rw [h.cellAt _ (by omega)]
    simp [ksV, hx]
theorem rle_last (l : List Int) (y : Int) : ∃ i p, rle (l ++ [y]) = i ++ [p] ∧ p.2 = y := by
  rw [rle_snoc]
  rcases snocC (rle l) with h | ⟨i, p, h⟩
  · rw [h, pushR_nil]
    exact ⟨[], (1, y), rfl, rfl⟩
  · rw [h]
    by_cases hu : p.2 = y
    · rw [pushR_same _ _ _ _ hu]
      exact ⟨i, (p.1 + 1, y), rfl, rfl⟩
    · rw [pushR_other _ _ _ _ hu]
      exact ⟨i ++ [p], (1, y), rfl, rfl⟩

set_option maxRecDepth 100000 in
set_option maxHeartbeats 6400000 in
theorem rspans_any (base : Nat) (v : Value) (ks : List Int) (w : World) (hr : w.ownsRow base 3 1 v ks.length (ksV ks)) (hl : ks.length ≤ 1024) (l : List (Int × Int)) (hle : Hid (rle ks = l)) :
    Calls Tryz.prog 101 #[v] w fun r w' => ∃ v', r = .returned v' ∧ Spn w.heap.size w' v' l ∧ Below w.heap.size w w' := by
  obtain ⟨i5, hi, hz0, hz1, hz2⟩ := info_parts infoSp
  obtain ⟨va, vc, rfl⟩ := own_slice hr
  have HR := hid hr
  obtain ⟨n, hn⟩ : ∃ n, ks.length = n := ⟨_, rfl⟩
  have HN := hid hn
  have hnn : n ≤ 1024 := by omega
  rw [hn]
  clear hr hl hn
  go_enter Tryz.func101, Tryz.ntmps101
  go_wp2_with fail
  go_loopw [3, 4] (fun ov iv wr => ∃ (k m : Nat) (oa : Option Addr) (oc : Nat), k ≤ n ∧ iv = .int .i64 (k : Int) ∧ ov = .slice oa m oc ∧ Hid (wr.ownsRow w.heap.size 192 2 (.slice oa m oc) m (rcs (rle (ks.take k)))) ∧ Hid (m = (rle (ks.take k)).length) ∧ Below w.heap.size w wr) (fun _ iv _ => n - (intOf iv).toNat)
  case atStart => exact ⟨0, 0, none, 0, Nat.zero_le _, rfl, rfl, World.ownsRow_nil _ _ _ _, rfl, Below.refl _ _⟩
  case round =>
    obtain ⟨k, m, oa, oc, hk, rfl, rfl, hown, hml, hbw⟩ := hrel
    have HO := hown
    have hki : (0 : Int) ≤ (k : Int) := Int.natCast_nonneg _
    by_cases hlt : k < n
    · obtain ⟨x, hx⟩ := gs (l := ks) HN.out hlt
      obtain ⟨g, cap, hv, hcl⟩ := ksV_at HR.out (by have := HN.out; omega)
      rw [HN.out] at hv
      simp only [Value.slice.injEq, true_and] at hv
      obtain ⟨rfl, rfl⟩ := hv
      have HT : Hid (ks.take (k + 1) = ks.take k ++ [x]) := by show _ = _; rw [List.take_add_one, hx]; rfl
      have hkl : (k : Int) < (n : Int) := by omega
      have hxc : ∀ W, Below w.heap.size w W → W.cell? ⟨g, k, none⟩ = some (.int .i64 x) := fun W hW => hcl W hW k x hx
      have ht1024 : (ks.take k).length ≤ 1024 := by rw [List.length_take]; omega
      have hmb : m ≤ 1024 := by
        have := (rle_ok (ks.take k) ht1024).len
        rw [hml.out]
        omega
      have hsz := hbw.size
      by_cases hk0 : k = 0
      · have HK0 := hid hk0
        have d0 : decide (0 < k) = false := decide_eq_false (by omega)
        have HPU : Hid (rle (ks.take (k + 1)) = rle (ks.take k) ++ [(1, x)]) := by show _ = _; rw [HT.out, rle_snoc, HK0.out]; rfl
        have HCL := hid hcl
        have HXC := hid hxc
        clear hk0 hlt hcl hxc hx hk
        go_upto_region 5 with (fail)
        go_quiet (fail)
        have hbq : Below wr.heap.size wr (wr.drewN nq) := below_drewN (Below.refl _ _) _
        have HO : Hid ((wr.drewN nq).ownsRow w.heap.size 192 2 (.slice oa m oc) m (rcs (rle (ks.take k)))) := own_keeps (F := fun _ => False) hown.out (Keeps.of_below hbq) (fun _ _ f => f)
        have hbw' := bt hbw hbq (Nat.le_refl _)
        generalize wr.drewN nq = wq at *
        have xc : wq.cell? ⟨g, k, none⟩ = some (.int .i64 x) := HXC.out _ hbw'
        have hsq := hbw'.size
        go_wp2_with (at_builtin; refine wpList_appN rfl _ _ 86 rfl w.heap.size 192 i5 _ 2 16 Tryz.underlying86 hi hz0 hz1 hz2 rfl (by decide) (.slice oa m oc) m (rcs (rle (ks.take k))) rfl (HO.out.alloc _) ⟨(wq).heap.size, 0, none⟩ 1 1 [.int .i64 1, .int .i64 x] rfl rfl (newsNew (wq) [.int .i64 1, .int .i64 x] _) (by intro u hu; simp at hu; rcases hu with rfl | rfl <;> rfl) (by unfold maxLen; omega) (by omega) (by simp; omega) ?c3)
        case c3 =>
          intro v6 w6 hown6 hgr6 _
          obtain ⟨a6, c6, rfl⟩ := own_slice hown6; have HO6 : Hid (w6.ownsRow w.heap.size 192 2 (.slice a6 (m + 1) c6) (m + 1) (rcs (rle (ks.take (k + 1))))) := (by show w6.ownsRow _ _ _ _ _ _; rw [HPU.out, rcs_append]; exact hown6); have HM6 : Hid (m + 1 = (rle (ks.take (k + 1))).length) := (by show _ = _; rw [HPU.out, List.length_append, ← hml.out]; rfl); have HB6 : Hid (Below w.heap.size w w6) := (bta hbw' (Nat.le_refl _) _).grown hgr6 (by simp; omega) (fun j hj => (HO.out.lt j hj).1); clear hown6 hgr6; go_wp2; go_roundw; (case rel => exact ⟨k + 1, m + 1, a6, c6, by omega, by go_num, rfl, HO6.out, HM6.out, HB6.out⟩); (case measure => simp [intOf]; omega)
      · have d0 : decide (0 < k) = true := decide_eq_true (by omega)
        obtain ⟨j, hj⟩ : ∃ j, k = j + 1 := ⟨k - 1, by omega⟩
        have hji : (0 : Int) ≤ (j : Int) := Int.natCast_nonneg _
        have hjl : (j : Int) < (n : Int) := by omega
        have swj : IntKind.i64.wrap ((k : Int) - 1) = (j : Int) := by rw [IntWalk.i64_in _ (by omega)]; omega
        obtain ⟨y, hy⟩ := gs (l := ks) (k := j) HN.out (by omega)
        have hyc : ∀ W, Below w.heap.size w W → W.cell? ⟨g, j, none⟩ = some (.int .i64 y) := fun W hW => hcl W hW j y hy
        have htk : ks.take k = ks.take j ++ [y] := by rw [hj, List.take_add_one, hy]; rfl
        obtain ⟨i, p, hip, hpy⟩ := rle_last (ks.take j) y
        rw [← htk] at hip
        have hok := rle_ok (ks.take k) ht1024
        have hsum := hok.sum
        have hp1 := hok.pos p (by rw [hip]; exact List.mem_append_right _ (List.mem_cons_self ..))
        have hps : p.1 ≤ 1024 := by
          have h1 := (hok.part i.length).1
          rw [hip, List.take_left] at h1
          rw [hip, sumR_append] at hsum
          simp only [sumR] at hsum
          omega
        have HIP := hid hip
        have HMI : Hid (m = i.length + 1) := by show _ = _; rw [hml.out, hip, List.length_append]; rfl
        have HXC := hid hxc
        have HYC := hid hyc
        have HJ := hid hj
        clear hk0 hlt hcl hxc hyc hx hy hk htk hok hsum hip hj
        have xr : wr.cell? ⟨g, k, none⟩ = some (.int .i64 x) := HXC.out wr hbw
        have yr : wr.cell? ⟨g, j, none⟩ = some (.int .i64 y) := HYC.out wr hbw
        by_cases hu : y = x
        · have du : (x == y) = true := b1 hu.symm
          have HPU : Hid (rle (ks.take (k + 1)) = i ++ [(p.1 + 1, x)]) := by show _ = _; rw [HT.out, rle_snoc, HIP.out, pushR_same _ _ _ _ (hpy.trans hu)]
          obtain ⟨c, hc⟩ : ∃ c, p.1 = c := ⟨_, rfl⟩
          rw [hc] at HPU hp1 hps
          have sw : IntKind.i64.wrap (c + 1) = c + 1 := IntWalk.i64_in _ (by omega)
          obtain ⟨e, he⟩ : ∃ e, i.length = e := ⟨_, rfl⟩
          have hme : m = e + 1 := HMI.out.trans (by rw [he])
          have swm : IntKind.i64.wrap ((m : Int) - 1) = (e : Int) := by rw [IntWalk.i64_in _ (by omega)]; omega
          have hei : (0 : Int) ≤ (e : Int) := Int.natCast_nonneg _
          have hel : (e : Int) < (m : Int) := by omega
          have hsp : Spn w.heap.size wr (.slice oa m oc) (rle (ks.take k)) := by
            show wr.ownsRow _ _ _ _ _ _
            rw [← hml.out]
            exact hown.out
          obtain ⟨g2, cap2, hv2, t0, t1, tf⟩ := hsp.atR (k := e) (p := p) (by rw [HIP.out]; simp [← he])
          rw [← hml.out] at hv2
          simp only [Value.slice.injEq, true_and] at hv2
          obtain ⟨rfl, rfl⟩ := hv2
          rw [hc] at t0
          have hg2 := (hown.out.lt g2 rfl).2
          have hg2w := (hown.out.lt g2 rfl).1
          have T0 := hid t0
          have TF := hid tf
          have HE := hid he
          have HME := hid hme
          have HU := hid hu
          have HPC := hid (show p = (c, y) by rw [← hc, ← hpy])
          clear hu hc he hme t0 t1 tf hsp hpy
          go_upto_region 5 with (fail)
          go_quiet (fail)
          have hbq : Below wr.heap.size wr (wr.drewN nq) := below_drewN (Below.refl _ _) _
          have hbw' := bt hbw hbq (Nat.le_refl _)
          have HO : Hid ((wr.drewN nq).ownsRow w.heap.size 192 2 (.slice (some ⟨g2, 0, none⟩) m oc) m (rcs (rle (ks.take k)))) := own_keeps (F := fun _ => False) hown.out (Keeps.of_below hbq) (fun _ _ f => f)
          generalize wr.drewN nq = wq at *
          have y0 : wq.cell? ⟨g2, e * 2, none⟩ = some (.int .i64 c) := cell_keep hbq T0.out
          have yf : wq.frozen? ⟨g2, e * 2, none⟩ = false := by rw [hbq.frozen (p := ⟨g2, e * 2, none⟩) hg2]; exact TF.out
          have ho3 := (HO.out.stored (e * 2) (.int .i64 (c + 1))).1
          have ee : (rcs (rle (ks.take k))).set (e * 2) (.int .i64 (c + 1)) = rcs (rle (ks.take (k + 1))) := by
            rw [HPU.out, HIP.out, rcs_append, rcs_append, List.set_append_right _ _ (by rw [rcs_len, HE.out]; exact Nat.le_refl _), rcs_len, HE.out, Nat.sub_self, HPC.out, HU.out]
            rfl
          rw [ee] at ho3
          have HO3 := hid ho3
          have HB3 : Hid (Below w.heap.size w (wq.setCell ⟨g2, e * 2, none⟩ (.int .i64 (c + 1)))) := hbw'.setCell (p := ⟨g2, e * 2, none⟩) hg2w _
          have HM3 : Hid (m = (rle (ks.take (k + 1))).length) := by show _ = _; rw [HPU.out, List.length_append, HE.out, HME.out]; rfl
          clear ho3 ee
          go_wp2
          go_roundw
          case rel => exact ⟨k + 1, m, _, _, by omega, by go_num, rfl, HO3.out, HM3.out, HB3.out⟩
          case measure => simp [intOf]; omega
        · have du : (x == y) = false := b0 (fun e => hu e.symm)
          have HPU : Hid (rle (ks.take (k + 1)) = rle (ks.take k) ++ [(1, x)]) := by show _ = _; rw [HT.out, rle_snoc, HIP.out, pushR_other _ _ _ _ (by rw [hpy]; exact hu)]
          clear hu hpy
          go_upto_region 5 with (fail)
          go_quiet (fail)
          have hbq : Below wr.heap.size wr (wr.drewN nq) := below_drewN (Below.refl _ _) _
          have HO : Hid ((wr.drewN nq).ownsRow w.heap.size 192 2 (.slice oa m oc) m (rcs (rle (ks.take k)))) := own_keeps (F := fun _ => False) hown.out (Keeps.of_below hbq) (fun _ _ f => f)
          have hbw' := bt hbw hbq (Nat.le_refl _)
          generalize wr.drewN nq = wq at *
          have xc : wq.cell? ⟨g, k, none⟩ = some (.int .i64 x) := HXC.out _ hbw'
          have hsq := hbw'.size
          go_wp2_with (at_builtin; refine wpList_appN rfl _ _ 86 rfl w.heap.size 192 i5 _ 2 16 Tryz.underlying86 hi hz0 hz1 hz2 rfl (by decide) (.slice oa m oc) m (rcs (rle (ks.take k))) rfl (HO.out.alloc _) ⟨(wq).heap.size, 0, none⟩ 1 1 [.int .i64 1, .int .i64 x] rfl rfl (newsNew (wq) [.int .i64 1, .int .i64 x] _) (by intro u hu; simp at hu; rcases hu with rfl | rfl <;> rfl) (by unfold maxLen; omega) (by omega) (by simp; omega) ?c3)
          case c3 =>
            intro v6 w6 hown6 hgr6 _
            obtain ⟨a6, c6, rfl⟩ := own_slice hown6; have HO6 : Hid (w6.ownsRow w.heap.size 192 2 (.slice a6 (m + 1) c6) (m + 1) (rcs (rle (ks.take (k + 1))))) := (by show w6.ownsRow _ _ _ _ _ _; rw [HPU.out, rcs_append]; exact hown6); have HM6 : Hid (m + 1 = (rle (ks.take (k + 1))).length) := (by show _ = _; rw [HPU.out, List.length_append, ← hml.out]; rfl); have HB6 : Hid (Below w.heap.size w w6) := (bta hbw' (Nat.le_refl _) _).grown hgr6 (by simp; omega) (fun j hj => (HO.out.lt j hj).1); clear hown6 hgr6; go_wp2; go_roundw; (case rel => exact ⟨k + 1, m + 1, a6, c6, by omega, by go_num, rfl, HO6.out, HM6.out, HB6.out⟩); (case measure => simp [intOf]; omega)
    · obtain rfl : k = n := by omega
      have HT : Hid (ks.take k = ks) := List.take_of_length_le (by rw [HN.out]; exact Nat.le_refl _)
      have HE : Hid (Spn w.heap.size wr (.slice oa m oc) l) := by
        have h1 := hown.out
        have h2 := hml.out
        rw [HT.out, hle.out] at h1 h2
        show wr.ownsRow _ _ _ _ _ _
        rw [← h2]
        exact h1
      clear hown HO
      go_wp2
      go_ret
      exact ⟨_, rfl, HE.out, hbw⟩

end Go.Proofs.YtipnamoocemeeaaGreat
