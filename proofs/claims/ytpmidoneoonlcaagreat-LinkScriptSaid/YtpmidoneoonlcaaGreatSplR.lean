/-
  The contract of modscanref05.Split at all bytes.
-/
import Derived.Test.YtpmidoneoonlcaaGreatRef01
import Derived.Test.YtpmidoneoonlcaaGreatMbase
import Derived.Test.YtpmidoneoonlcaaGreatMplain
import Derived.Deep.RegionHeld3
namespace Go.Proofs.YtpmidoneoonlcaaGreat
open Go.RowKit

/-- The two parts of a frame that is right. -/
def splitB (chk : List UInt8 → Bool) (l : List UInt8) : Option (Int × List UInt8) :=
  if 4 ≤ l.length ∧ l.length ≤ 256 ∧ chk l = true ∧ 1 ≤ ((l.getD 0 0).toNat : Int) ∧ ((l.getD 0 0).toNat : Int) ≤ 247 then some (((l.getD 0 0).toNat : Int), (l.take (l.length - 2)).drop 1) else none

def rchkB (l : List UInt8) : Bool := decide (2 ≤ l.length) && (l.take (l.length - 2) ++ tail2 (divSum (l.take (l.length - 2))) == l)

/-- What Split answers: one form of result. -/
def SplitPost (w : World) (o : Option (Int × List UInt8)) (r : Ending) (w' : World) : Prop :=
  ∃ (u : Int) (a : Option Addr) (n c : Nat) (e : Int), r = .returned (.tuple #[.int .i64 u, .slice a n c, .int .i64 e]) ∧ Below w.heap.size w w' ∧
    ((e = 0 ∧ ∃ p, o = some (u, p) ∧ ∀ W, Agree w.heap.size w' W → Bs W (.slice a n c) p) ∨ (e ≠ 0 ∧ o = none))

theorem SplitPost.err {w : World} {o : Option (Int × List UInt8)} {w' : World} (ho : o = none) (u : Int) (a : Option Addr) (n c : Nat) (e : Int) (he : e ≠ 0) (hb : Below w.heap.size w w') :
    SplitPost w o (.returned (.tuple #[.int .i64 u, .slice a n c, .int .i64 e])) w' := ⟨u, a, n, c, e, rfl, hb, .inr ⟨he, ho⟩⟩

set_option maxRecDepth 100000 in
set_option maxHeartbeats 800000 in
theorem rsplitA (a : Option Addr) (n c : Nat) (l : List UInt8) (w : World) (hb : Bs w (.slice a n c) l) (h : n < 4 ∨ 256 < n) :
    Calls Tryz.prog 69 #[.slice a n c] w (SplitPost w (splitB rchkB l)) := by
  obtain ⟨hbn, hnc, hcm⟩ := hb.capOf
  unfold maxLen at hcm
  have HN : Hid (splitB rchkB l = none) := by
    show _ = _
    unfold splitB
    rw [if_neg (by omega)]
  clear hb hbn
  rcases h with h | h
  · go_enter Tryz.func69, Tryz.ntmps69
    go_wp2
    go_ret3
    exact SplitPost.err HN.out _ _ _ _ _ (by decide) (Below.refl _ _)
  · have h3 : ¬ n < 4 := by omega
    go_enter Tryz.func69, Tryz.ntmps69
    go_wp2
    go_ret3
    exact SplitPost.err HN.out _ _ _ _ _ (by decide) (Below.refl _ _)

set_option maxRecDepth 100000 in
set_option maxHeartbeats 1600000 in
theorem rsplit_any (a : Option Addr) (n c : Nat) (l : List UInt8) (w : World) (hb : Bs w (.slice a n c) l) :
    Calls Tryz.prog 69 #[.slice a n c] w (SplitPost w (splitB rchkB l)) := by
  by_cases h : n < 4 ∨ 256 < n
  · exact rsplitA a n c l w hb h
  obtain ⟨i5, hi, hz0, hz1, hz2⟩ := info_parts infoB
  obtain ⟨hbn, hnc, hcm⟩ := hb.capOf
  unfold maxLen at hcm
  have h1 : ¬ n < 4 := by omega
  have h2 : ¬ 256 < n := by omega
  have HC := hid (rcheck_any (.slice a n c) l w hb (by omega))
  obtain ⟨V, hV⟩ : ∃ V, rchkB l = V := ⟨_, rfl⟩
  have hV2 := hV
  unfold rchkB at hV2
  rw [hV2] at HC
  cases V with
  | false =>
    have HN : Hid (splitB rchkB l = none) := by
      show _ = _
      unfold splitB
      rw [if_neg (fun h => by rw [hV] at h; cases h.2.2.1)]
    clear hb hbn hV hV2
    go_enter Tryz.func69, Tryz.ntmps69
    go_wp2_with fail
    refine HC.out.mono ?_
    rintro r w1 ⟨rfl, hb1⟩
    go_wp2
    go_ret3
    exact SplitPost.err HN.out _ _ _ _ _ (by decide) hb1
  | true =>
    obtain ⟨b, o, rfl, y0⟩ := hb.byte (i := 0) (by omega)
    have y0' : w.cell? ⟨b, o, none⟩ = some (.int .u8 (bAt l 0)) := y0
    have c0 : ∀ W, Below w.heap.size w W → W.cell? ⟨b, o, none⟩ = some (.int .u8 (bAt l 0)) := fun W h => cell_keep h y0'
    have kD : ∀ W, Below w.heap.size w W → Below w.heap.size w W.drew := fun W h => h.drew
    obtain ⟨a0, a0'⟩ := bAt_bd l 0
    by_cases hr : bAt l 0 < 1 ∨ 247 < bAt l 0
    · have HN : Hid (splitB rchkB l = none) := by
        show _ = _
        unfold splitB
        rw [if_neg (fun h => by have := h.2.2.2; unfold bAt at hr; omega)]
      clear hb hbn hV hV2 y0 y0'
      generalize bAt l 0 = z at *
      rcases hr with hr | hr
      all_goals
        go_enter Tryz.func69, Tryz.ntmps69
        go_wp2_with fail
        refine HC.out.mono ?_
        rintro r w1 ⟨rfl, hb1⟩
        have c1 := c0 w1 hb1
        clear c0
        go_wp2
        go_ret3
        exact SplitPost.err HN.out _ _ _ _ _ (by decide) hb1
    · have HS : Hid (splitB rchkB l = some (bAt l 0, (l.take (n - 2)).drop 1)) := by
        show _ = _
        unfold splitB
        rw [if_pos ⟨by omega, by omega, hV, by unfold bAt at hr; omega, by unfold bAt at hr; omega⟩, hbn]
        rfl
      have HP := hid (hb.cut (i := 1) (k := n - 2) (by omega) (by omega))
      have hpl : ((l.take (n - 2)).drop 1).length = n - 3 := by simp; omega
      have HPL := hid hpl
      have hcut : ∀ W, (Instr.slice 45 (.slice (some ⟨b, o, none⟩) n c) (some (.int .i64 1)) (some (.int .i64 ((n : Int) - 2))) none).run Tryz.prog W = .ok (.slice (cutA (some ⟨b, o, none⟩) c 1) (n - 2 - 1) (c - 1)) W := by
        have e : ((n : Int) - 2) = ((n - 2 : Nat) : Int) := by omega
        rw [e]
        exact fun W => run_cut Tryz.underlying45 hi hz1 _ n c 1 (n - 2) (by omega) (by omega) W
      obtain ⟨R, hR⟩ : ∃ R, cutA (some ⟨b, o, none⟩) c 1 = R := ⟨_, rfl⟩
      rw [hR] at hcut HP
      generalize ((l.take (n - 2)).drop 1) = p at *
      have hr1 : 1 ≤ bAt l 0 := by omega
      have hr2 : bAt l 0 ≤ 247 := by omega
      clear hb hbn hV hV2 y0 y0' hpl hR hr
      generalize bAt l 0 = z at *
      have q0 : IntKind.i64.wrap z = z := IntWalk.i64_in _ (by omega)
      have q2 : IntKind.i64.wrap ((n : Int) - 2) = (n : Int) - 2 := IntWalk.i64_in _ (by omega)
      have q1 : (0 : Int) < (n : Int) := by omega
      have q3 : 0 < n := by omega
      go_enter Tryz.func69, Tryz.ntmps69
      go_wp2_with fail
      refine HC.out.mono ?_
      rintro r w1 ⟨rfl, hb1⟩
      have hb1d := hb1.drew
      go_wp2_with fail
      go_region_held3 (fun W => Below w.heap.size w W) ((first | assumption | (exact bt (by assumption) (by assumption) (Nat.le_refl _)))) ((refine step_appB rfl _ _ 45 rfl w1.heap.size 5 i5 Tryz.underlying45 hi hz0 hz1 hz2 (.slice none 0 0) [] rfl (World.ownsRow_nil _ _ _ _) _ p rfl (HP.out.keep hb1d) (by rw [HPL.out]; simp; omega) (Nat.le_refl _) ?_; intro v' w3 hown hgr _; have hbel3 := (Below.refl w1.drew.heap.size w1.drew).grown hgr (Nat.le_refl _) (by intro k hk; simp [Value.ownBlock] at hk)))
      simp only [List.length_nil, Nat.zero_add, List.nil_append] at hown
      have hbs := Bs.own hown
      have hlt := hown.lt
      obtain ⟨a3, c3, rfl, _⟩ := id hbs
      have HX : Hid (∀ W, Agree w.heap.size w3 W → Bs W (.slice a3 p.length c3) p) := fun W hW => hbs.agree (fun ad had => by
        have h5 := (hlt ad.block (by rw [had]; rfl)).1
        have h6 := hb1.size
        have h7 : w1.heap.size ≤ ad.block := h5
        omega) hW
      clear hown hbs hlt hgr
      go_wp2
      go_ret3
      exact ⟨_, _, _, _, _, rfl, bt hb1d hbel3 (Nat.le_refl _), .inl ⟨rfl, p, HS.out, HX.out⟩⟩

end Go.Proofs.YtpmidoneoonlcaaGreat
