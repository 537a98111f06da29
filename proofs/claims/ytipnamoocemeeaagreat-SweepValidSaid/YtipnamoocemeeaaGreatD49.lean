/-
  Texts 49 of the claim.
-/
import Derived.Test.YtipnamoocemeeaaGreatD20
import Derived.Test.YtipnamoocemeeaaGreatD15
import Derived.Test.YtipnamoocemeeaaGreatD23
import Derived.Test.YtipnamoocemeeaaGreatD25
import Derived.Test.YtipnamoocemeeaaGreatD26
import Derived.Test.YtipnamoocemeeaaGreatD03
namespace Go.Proofs.YtipnamoocemeeaaGreat
open Go.RowKit
def slg (n : Int) : Int := if n ≤ 1 then 0 else (Nat.log2 (n.toNat - 1) : Int) + 1
theorem slg_nn (g : Int) : 0 ≤ slg g := by
  unfold slg
  split <;> omega
theorem slg_pos {g : Int} (h : 2 ≤ g) : 1 ≤ slg g := by
  unfold slg
  rw [if_neg (by omega)]
  omega
theorem slg_half {g h : Int} (h1 : 2 ≤ g) (h4 : 2 * h ≤ g + 1) : slg h + 1 ≤ slg g := by
  have hg : slg g = (Nat.log2 (g.toNat - 1) : Int) + 1 := by unfold slg; rw [if_neg (by omega)]
  rw [hg]
  by_cases hh : h ≤ 1
  · have : slg h = 0 := by unfold slg; rw [if_pos hh]
    omega
  · have e : slg h = (Nat.log2 (h.toNat - 1) : Int) + 1 := by unfold slg; rw [if_neg hh]
    rw [e]
    have hlt : g.toNat - 1 < 2 ^ (Nat.log2 (g.toNat - 1) + 1) := (Nat.log2_lt (by omega)).1 (Nat.lt_succ_self _)
    rw [Nat.pow_succ] at hlt
    have : Nat.log2 (h.toNat - 1) < Nat.log2 (g.toNat - 1) := (Nat.log2_lt (by omega)).2 (by omega)
    omega
theorem slg_mono2 {g h : Int} (h1 : g ≤ h) : slg g ≤ slg h := by
  by_cases hg : g ≤ 1
  · have : slg g = 0 := by unfold slg; rw [if_pos hg]
    have := slg_nn h
    omega
  · have e1 : slg g = (Nat.log2 (g.toNat - 1) : Int) + 1 := by unfold slg; rw [if_neg hg]
    have e2 : slg h = (Nat.log2 (h.toNat - 1) : Int) + 1 := by unfold slg; rw [if_neg (by omega)]
    rw [e1, e2]
    have hlt : h.toNat - 1 < 2 ^ (Nat.log2 (h.toNat - 1) + 1) := (Nat.log2_lt (by omega)).1 (Nat.lt_succ_self _)
    have : Nat.log2 (g.toNat - 1) < Nat.log2 (h.toNat - 1) + 1 := (Nat.log2_lt (by omega)).2 (by omega)
    omega
theorem lg_half {g h : Int} (h1 : 2 ≤ g) (h2 : g ≤ 12) (h4 : 2 * h ≤ g + 1) : lg h + 1 ≤ lg g := by
  unfold lg
  repeat' split
  all_goals omega
theorem lg_pos {g : Int} (h : 2 ≤ g) : 1 ≤ lg g := by
  unfold lg
  repeat' split
  all_goals omega
theorem lg_mono {g h : Int} (h1 : g ≤ h) : lg g ≤ lg h := by
  unfold lg
  repeat' split
  all_goals omega
def Ph.ok2 : Ph → Prop
  | .seek k s => s.cnt = 0 → s.hi ≤ limI ((k : Int) + 1) + 1
  | .map _ m => m.cnt ≤ 12
  | _ => True
def tl (win : Nat → Int × Int) (k : Nat) : Int := unitS win 4 - unitS win k
theorem tl_step (win : Nat → Int × Int) (k : Nat) : tl win k = tabB win k + tl win (k + 1) := by
  unfold tl
  show _ = tabB win k + (unitS win 4 - (unitS win k + tabB win k))
  omega
theorem unitS_mono {win : Nat → Int × Int} (hw : ∀ k, k < 4 → okW12 (win k)) {k : Nat} (hk : k ≤ 4) : 0 ≤ tl win k := by
  unfold tl
  have h0 := tabB_bd hw (k := 0) (by decide)
  have h1 := tabB_bd hw (k := 1) (by decide)
  have h2 := tabB_bd hw (k := 2) (by decide)
  have h3 := tabB_bd hw (k := 3) (by decide)
  have e1 : unitS win 1 = unitS win 0 + tabB win 0 := rfl
  have e2 : unitS win 2 = unitS win 1 + tabB win 1 := rfl
  have e3 : unitS win 3 = unitS win 2 + tabB win 2 := rfl
  have e4 : unitS win 4 = unitS win 3 + tabB win 3 := rfl
  match k, hk with
  | 0, _ => omega
  | 1, _ => omega
  | 2, _ => omega
  | 3, _ => omega
  | 4, _ => omega
def Sr.pot (s : Sr) (k : Nat) : Int := if s.cnt = 0 then srchB ((k : Int) + 1) else slg (s.hi - s.lo)
def Mp.pot (m : Mp) : Int := m.rest * (3 + lg m.cnt) + (if m.mode = 2 then lg (m.hi - m.lo) else if m.mode = 1 then lg m.cnt + 1 else 0)
def Ph.pot (win : Nat → Int × Int) : Ph → Int
  | .test => 34 + tl win 0
  | .ident x => (32 - (x.cnt : Int)) + 1 + tl win 0
  | .server => 1 + tl win 0
  | .seek k s => s.pot k + winB (win k).2 + tl win (k + 1)
  | .map k m => m.pot + tl win (k + 1)
  | .done => 0
theorem meas_pot {win : Nat → Int × Int} (hw : ∀ k, k < 4 → okW12 (win k)) : ∀ (n : Nat), n ≤ 4 → ∀ (d : Dv) (ph : Ph) (d' : Dv), meas win n d = (ph, d') → ph.pot win ≤ tl win (4 - n) ∧ ph.ok2
  | 0, _, d, ph, d', h => by
    have := (Prod.mk.inj h).1
    subst this
    refine ⟨?_, trivial⟩
    show 0 ≤ unitS win 4 - unitS win 4
    omega
  | n + 1, hn, d, ph, d', h => by
    have hs := tl_step win (3 - n)
    have e1 : 3 - n + 1 = 4 - n := by omega
    have e2 : 4 - (n + 1) = 3 - n := by omega
    rw [e1] at hs
    rw [e2]
    have hb := tabB_bd hw (k := 3 - n) (by omega)
    unfold meas at h
    split at h
    · have := meas_pot hw n (by omega) _ ph d' h
      exact ⟨by omega, this.2⟩
    · rename_i hc
      have := (Prod.mk.inj h).1
      subst this
      have hok := hw (3 - n) (by omega)
      refine ⟨?_, fun _ => Int.le_refl _⟩
      show (if (0 : Int) = 0 then srchB (((3 - n : Nat) : Int) + 1) else _) + winB (win (3 - n)).2 + tl win (3 - n + 1) ≤ _
      rw [if_pos rfl, e1, hs]
      unfold tabB
      rw [if_pos (by have := hok.1; omega)]
      omega
theorem meas_pot' {win : Nat → Int × Int} (hw : ∀ k, k < 4 → okW12 (win k)) (n : Nat) (hn : n ≤ 4) (d : Dv) : (meas win n d).1.pot win + 1 ≤ tl win (4 - n) + 1 ∧ (meas win n d).1.ok2 := by
  have h := meas_pot hw n hn d (meas win n d).1 (meas win n d).2 rfl
  exact ⟨Int.add_le_add_right h.1 1, h.2⟩
theorem mul_step {r' r c : Int} (h : r' ≤ r - 1) (hc : 0 ≤ c) : r' * c ≤ r * c - c := by
  have h1 := Int.mul_le_mul_of_nonneg_right h hc
  have h2 : (r - 1) * c = r * c - c := by rw [Int.sub_mul, Int.one_mul]
  omega
theorem Mp.new_pot (tb f c mo : Int) : (Mp.new tb f c mo).pot = winB c := by
  show (c - ((0 : Nat) : Int)) * (3 + lg c) + (if (0 : Int) = 2 then _ else if (0 : Int) = 1 then _ else 0) = winB c
  rw [if_neg (by decide), if_neg (by decide)]
  unfold winB
  simp
theorem Mp.learn_pot (m : Mp) {n k : Int} (hn : 0 ≤ n) : (m.learn n k 0).pot = (m.rest - n) * (3 + lg m.cnt) := by
  unfold Mp.pot
  rw [Mp.learn_rest _ _ _ _ hn]
  show (m.rest - n) * (3 + lg m.cnt) + (if (0 : Int) = 2 then _ else if (0 : Int) = 1 then _ else 0) = _
  rw [if_neg (by decide), if_neg (by decide)]
  omega
theorem Mp.learn_pot1 (m : Mp) {n k : Int} (hn : 0 ≤ n) : (m.learn n k 1).pot = (m.rest - n) * (3 + lg m.cnt) + (lg m.cnt + 1) := by
  unfold Mp.pot
  rw [Mp.learn_rest _ _ _ _ hn]
  show (m.rest - n) * (3 + lg m.cnt) + (if (1 : Int) = 2 then _ else if (1 : Int) = 1 then _ else 0) = _
  rw [if_neg (by decide), if_pos rfl]
  rfl
theorem Mp.feed_cnt (m : Mp) (v x : Int) : (m.feed v x).cnt = m.cnt := by
  unfold Mp.feed
  repeat' split
  all_goals rfl
theorem Mp.feed_pot {m : Mp} (h : m.ok) (hr : ¬ m.rest = 0) (h12 : m.cnt ≤ 12) (v x : Int) : (m.feed v x).pot + 1 ≤ m.pot ∧ 0 ≤ (m.feed v x).pot := by
  have hsz := Mp.size_bd h hr
  have hl := lg_bd m.cnt
  have hc : 0 ≤ 3 + lg m.cnt := by omega
  have hR : m.rest ≤ m.cnt := by unfold Mp.rest; omega
  have hok := Mp.feed_ok h hr v x
  have hnn : 0 ≤ (m.feed v x).pot := by
    unfold Mp.pot
    have h1 : 0 ≤ (m.feed v x).rest := by have := hok.kl; unfold Mp.rest; omega
    have h2 := lg_bd (m.feed v x).cnt
    have h3 : 0 ≤ (m.feed v x).rest * (3 + lg (m.feed v x).cnt) := Int.mul_nonneg h1 (by omega)
    have h4 := lg_bd ((m.feed v x).hi - (m.feed v x).lo)
    split
    · omega
    · split <;> omega
  refine ⟨?_, hnn⟩
  clear hnn hok
  by_cases h2 : m.mode = 2
  · have hse := h.se h2
    have hhf := h.half h2
    have hP : m.pot = m.rest * (3 + lg m.cnt) + lg (m.hi - m.lo) := by unfold Mp.pot; rw [if_pos h2]
    have hg := lg_pos (g := m.hi - m.lo) (by omega)
    unfold Mp.feed
    rw [if_pos h2, hP]
    split
    · split
      · have e := Mp.learn_pot ({ m with lo := m.size }.learn m.size 1 0) (n := 1) (k := 2) (by decide)
        rw [e, Mp.learn_rest _ _ _ _ (by omega)]
        have := mul_step (r' := m.rest - m.size - 1) (r := m.rest) (by omega) hc
        show (m.rest - m.size - 1) * (3 + lg m.cnt) + 1 ≤ _
        omega
      · have hh := lg_half (g := m.hi - m.lo) (h := m.hi - m.size) (by omega) (by omega) (by omega)
        unfold Mp.pot
        rw [if_pos (show ({ m with lo := m.size } : Mp).mode = 2 from h2)]
        show m.rest * (3 + lg m.cnt) + lg (m.hi - m.size) + 1 ≤ _
        omega
    · split
      · split
        · have e := Mp.learn_pot ({ m with hi := m.size }.learn m.lo 1 0) (n := 1) (k := 2) (by decide)
          rw [e, Mp.learn_rest _ _ _ _ (by omega)]
          have := mul_step (r' := m.rest - m.lo - 1) (r := m.rest) (by omega) hc
          show (m.rest - m.lo - 1) * (3 + lg m.cnt) + 1 ≤ _
          omega
        · have hh := lg_half (g := m.hi - m.lo) (h := m.size - m.lo) (by omega) (by omega) (by omega)
          unfold Mp.pot
          rw [if_pos (show ({ m with hi := m.size } : Mp).mode = 2 from h2)]
          show m.rest * (3 + lg m.cnt) + lg (m.size - m.lo) + 1 ≤ _
          omega
      · rw [Mp.learn_pot _ (by omega)]
        have h5 := Int.mul_le_mul_of_nonneg_right (show m.rest - m.lo ≤ m.rest by omega) hc
        omega
  · have hP : m.rest * (3 + lg m.cnt) ≤ m.pot := by
      unfold Mp.pot
      rw [if_neg h2]
      split <;> omega
    have hP1 : 1 < m.size → m.pot = m.rest * (3 + lg m.cnt) + (lg m.cnt + 1) := fun hs => by
      unfold Mp.pot
      rw [if_neg h2]
      split
      · rfl
      · rename_i h1
        unfold Mp.size at hs
        rw [if_neg h1, if_neg h2] at hs
        exact absurd hs (by decide)
    have hS1 : m.mode = 1 → m.pot = m.rest * (3 + lg m.cnt) + (lg m.cnt + 1) := fun e => by
      unfold Mp.pot
      rw [if_neg h2, if_pos e]
    unfold Mp.feed
    rw [if_neg h2]
    have hone := mul_step (r' := m.rest - 1) (r := m.rest) (by omega) hc
    split
    · rw [Mp.learn_pot1 _ (by omega)]
      have hst := mul_step (r' := m.rest - m.size) (r := m.rest) (by omega) hc
      omega
    · split
      · split
        · rename_i hs
          have hh := lg_mono (g := m.size) (h := m.cnt) (by omega)
          have hp := hP1 hs
          unfold Mp.pot at *
          rw [if_pos (show ({ m with mode := 2, lo := 0, hi := m.size } : Mp).mode = 2 from rfl)]
          show m.rest * (3 + lg m.cnt) + lg (m.size - 0) + 1 ≤ _
          rw [hp, Int.sub_zero]
          omega
        · rw [Mp.learn_pot _ (by decide)]
          omega
      · split
        · rename_i hs
          have hp := hP1 hs
          rw [hp]
          unfold Mp.pot
          rw [if_neg (show ¬ ({ m with mode := 0 } : Mp).mode = 2 by show ¬ (0 : Int) = 2; decide), if_neg (show ¬ ({ m with mode := 0 } : Mp).mode = 1 by show ¬ (0 : Int) = 1; decide)]
          show m.rest * (3 + lg m.cnt) + 0 + 1 ≤ _
          omega
        · rw [Mp.learn_pot _ (by decide)]
          omega
theorem srchB_ge (k : Nat) (hk : k < 4) : slg (limI ((k : Int) + 1)) + 1 ≤ srchB ((k : Int) + 1) := by
  have h : k = 0 ∨ k = 1 ∨ k = 2 ∨ k = 3 := by omega
  rcases h with rfl | rfl | rfl | rfl <;> decide +kernel
theorem Sr.feed_pot {s : Sr} (h : s.good) (hst : s.st = 0) (hf : s.cnt = 0 → s.lo = 0) (k : Nat) (hk : k < 4) (h2 : s.cnt = 0 → s.hi ≤ limI ((k : Int) + 1) + 1) (v x : Int) (h0 : (s.feed v x).st = 0) : (s.feed v x).pot k + 1 ≤ s.pot k := by
  have g1 := h.lo0
  have g2 := h.gap
  have g3 := h.hi1
  have g4 := h.fst
  have g5 := h.cnt0
  have hcn := (Sr.feed_ok h hst hf v x).cnt
  have hne : ¬ (s.feed v x).cnt = 0 := by omega
  unfold Sr.pot
  rw [if_neg hne]
  have hs1 := srchB_ge k hk
  by_cases hc : s.cnt = 0
  · rw [if_pos hc]
    have hlo := hf hc
    have hhi := h2 hc
    have hq : s.qty = 1 := by unfold Sr.qty; rw [if_pos hc]
    have key : (s.feed v x).hi - (s.feed v x).lo ≤ limI ((k : Int) + 1) := by
      unfold Sr.feed Sr.took at h0 ⊢
      split at h0
      · rename_i ha
        rw [if_pos ha]
        unfold Sr.met
        split
        · show s.hi - s.qty ≤ _; omega
        · show s.hi - s.qty ≤ _; omega
      · split at h0
        · unfold Sr.met at h0
          rw [if_neg (fun e => absurd e.1 (by show ¬ (5 : Int) = 0; decide))] at h0
          exact absurd (show (5 : Int) = 0 from h0) (by decide)
        · split at h0
          · rename_i hb
            exact absurd hc hb.1
          · unfold Sr.met at h0
            rw [if_neg (fun e => absurd e.1 (by show ¬ (4 : Int) = 0; decide))] at h0
            exact absurd (show (4 : Int) = 0 from h0) (by decide)
    have := slg_mono2 key
    omega
  · rw [if_neg hc]
    have hq : s.qty = (s.lo + s.hi) / 2 := by unfold Sr.qty; rw [if_neg hc]
    have key : 2 * ((s.feed v x).hi - (s.feed v x).lo) ≤ (s.hi - s.lo) + 1 := by
      unfold Sr.feed Sr.took at h0 ⊢
      split at h0
      · rename_i ha
        rw [if_pos ha]
        unfold Sr.met
        split
        · show 2 * (s.hi - s.qty) ≤ _; omega
        · show 2 * (s.hi - s.qty) ≤ _; omega
      · rename_i ha
        split at h0
        · unfold Sr.met at h0
          rw [if_neg (fun e => absurd e.1 (by show ¬ (5 : Int) = 0; decide))] at h0
          exact absurd (show (5 : Int) = 0 from h0) (by decide)
        · rename_i hb
          split at h0
          · rename_i hd
            rw [if_neg ha, if_neg hb, if_pos hd]
            unfold Sr.met
            split
            · show 2 * (s.qty - s.lo) ≤ _; omega
            · show 2 * (s.qty - s.lo) ≤ _; omega
          · unfold Sr.met at h0
            rw [if_neg (fun e => absurd e.1 (by show ¬ (4 : Int) = 0; decide))] at h0
            exact absurd (show (4 : Int) = 0 from h0) (by decide)
    have := slg_half (g := s.hi - s.lo) (by omega) key
    omega
theorem Pb.step_pot {win : Nat → Int × Int} (hw : ∀ k, k < 4 → okW12 (win k)) {p : Pb} (hok : p.ph.ok win) (h2 : p.ph.ok2) (hd : p.ph ≠ .done) (O : Oc) (hx : ∀ x, p.ph = .ident x → (x.feed O).st = 0 → (x.feed O).cnt = x.cnt + 1) : (p.step win O).1.pot win + 1 ≤ p.ph.pot win ∧ (p.step win O).1.ok2 := by
  have t0 := unitS_mono hw (k := 0) (by decide)
  unfold Pb.step
  split
  · rename_i e
    rw [e]
    show (if stateOf O.verdict = 2 then Ph.ident Idn.new else Ph.done).pot win + 1 ≤ 34 + tl win 0 ∧ _
    split
    · exact ⟨by show (32 - ((0 : Nat) : Int)) + 1 + tl win 0 + 1 ≤ _; omega, trivial⟩
    · exact ⟨by show 0 + 1 ≤ 34 + tl win 0; omega, trivial⟩
  · rename_i x e
    have hx' := hx x e
    rw [e] at hok ⊢
    have hcn := hok.1.cn
    split
    · rename_i h0
      have := hx' h0
      exact ⟨by show (32 - ((x.feed O).cnt : Int)) + 1 + tl win 0 + 1 ≤ (32 - (x.cnt : Int)) + 1 + tl win 0; omega, trivial⟩
    · exact ⟨by show 1 + tl win 0 + 1 ≤ (32 - (x.cnt : Int)) + 1 + tl win 0; omega, trivial⟩
  · rename_i e
    rw [e]
    exact ⟨Int.le_trans (meas_pot' hw 4 (Nat.le_refl _) _).1 (by show tl win 0 + 1 ≤ 1 + tl win 0; omega), (meas_pot' hw 4 (Nat.le_refl _) _).2⟩
  · rename_i k s e
    rw [e] at hok h2 ⊢
    obtain ⟨hk, hc, hg, hst, hf⟩ := hok
    have t1 := unitS_mono hw (k := k + 1) (by omega)
    have hwk := hw k hk
    have hwb := winB_bd hwk.1 hwk.2.1
    have hsp : 1 ≤ s.pot k := by
      unfold Sr.pot
      split
      · unfold srchB; split <;> omega
      · exact slg_pos (by have := hg.gap; omega)
    split
    · rename_i h0
      have := Sr.feed_pot hg hst hf k hk h2 O.verdict O.reply.exc h0
      have hcn := (Sr.feed_ok hg hst hf O.verdict O.reply.exc).cnt
      exact ⟨by show (s.feed O.verdict O.reply.exc).pot k + winB (win k).2 + tl win (k + 1) + 1 ≤ s.pot k + winB (win k).2 + tl win (k + 1); omega, fun e => by have := hg.cnt0; omega⟩
    · unfold aftS
      dsimp only
      split
      · refine ⟨?_, hwk.2.1⟩
        show (Mp.new ((k : Int) + 1) (win k).1 (win k).2 (minI _ (win k).2)).pot + tl win (k + 1) + 1 ≤ s.pot k + winB (win k).2 + tl win (k + 1)
        rw [Mp.new_pot]
        omega
      · have e4 : 4 - (4 - (k + 1)) = k + 1 := by omega
        refine ⟨Int.le_trans (meas_pot' hw (4 - (k + 1)) (by omega) _).1 ?_, (meas_pot' hw (4 - (k + 1)) (by omega) _).2⟩
        rw [e4]
        show tl win (k + 1) + 1 ≤ s.pot k + winB (win k).2 + tl win (k + 1)
        omega
  · rename_i k m e
    rw [e] at hok h2 ⊢
    obtain ⟨hk, hm, hr⟩ := hok
    have hp := Mp.feed_pot hm hr h2 O.verdict O.reply.exc
    split
    · have e4 : 4 - (4 - (k + 1)) = k + 1 := by omega
      refine ⟨Int.le_trans (meas_pot' hw (4 - (k + 1)) (by omega) _).1 ?_, (meas_pot' hw (4 - (k + 1)) (by omega) _).2⟩
      rw [e4]
      show tl win (k + 1) + 1 ≤ m.pot + tl win (k + 1)
      omega
    · refine ⟨by show (m.feed O.verdict O.reply.exc).pot + tl win (k + 1) + 1 ≤ m.pot + tl win (k + 1); omega, ?_⟩
      show (m.feed O.verdict O.reply.exc).cnt ≤ 12
      rw [Mp.feed_cnt]
      exact h2
  · exact absurd (by assumption) hd
end Go.Proofs.YtipnamoocemeeaaGreat
namespace Go.Proofs.YtipnamoocemeeaaGreat
open Go.RowKit
theorem Ph.pot0 {win : Nat → Int × Int} (hw : ∀ k, k < 4 → okW12 (win k)) {ph : Ph} (hok : ph.ok win) : 0 ≤ ph.pot win := by
  have t0 := unitS_mono hw (k := 0) (by decide)
  match ph, hok with
  | .test, _ => show 0 ≤ 34 + tl win 0; omega
  | .ident x, hok => show 0 ≤ (32 - (x.cnt : Int)) + 1 + tl win 0; have := hok.1.cn; omega
  | .server, _ => show 0 ≤ 1 + tl win 0; omega
  | .done, _ => exact Int.le_refl _
  | .seek k s, hok =>
    have t1 := unitS_mono hw (k := k + 1) (by have := hok.1; omega)
    have hwk := hw k hok.1
    have hwb := winB_bd hwk.1 hwk.2.1
    have hsp : 0 ≤ s.pot k := by
      unfold Sr.pot
      split
      · unfold srchB; split <;> omega
      · exact slg_nn _
    show 0 ≤ s.pot k + winB (win k).2 + tl win (k + 1)
    omega
  | .map k m, hok =>
    have t1 := unitS_mono hw (k := k + 1) (by have := hok.1; omega)
    have h1 : 0 ≤ m.rest := by have := hok.2.1.kl; unfold Mp.rest; omega
    have h2 := lg_bd m.cnt
    have h3 : 0 ≤ m.rest * (3 + lg m.cnt) := Int.mul_nonneg h1 (by omega)
    have h4 := lg_bd (m.hi - m.lo)
    have hp : 0 ≤ m.pot := by
      unfold Mp.pot
      split
      · omega
      · split <;> omega
    show 0 ≤ m.pot + tl win (k + 1)
    omega
theorem Idn.feed_cnt {x : Idn} {O : Oc} (h : (x.feed O).st = 0) : (x.feed O).cnt = x.cnt + 1 := by
  unfold Idn.feed at h ⊢
  split at h
  · exact absurd (show (5 : Int) = 0 from h) (by decide)
  · rename_i h1
    split at h
    · exact absurd (show (4 : Int) = 0 from h) (by decide)
    · rename_i h2
      rw [if_neg h1, if_neg h2]
structure PbGood (win : Nat → Int × Int) (U : Int) (p : Pb) : Prop where
  ok : p.ph.ok win
  ok2 : p.ph.ok2
  small : p.d.small
  q0 : 0 ≤ p.q
  pot : p.q + p.ph.pot win ≤ U
theorem PbGood.step {win : Nat → Int × Int} (hw : ∀ k, k < 4 → okW12 (win k)) {U : Int} {p : Pb} (h : PbGood win U p) (hd : p.ph ≠ .done) {O : Oc} (hO : O.fit) : PbGood win U (p.feed win O) ∧ p.q < U := by
  have hwo : WinOk win := fun k hk => by have := hw k hk; exact ⟨this.1, by have := this.2.1; omega, this.2.2.1, this.2.2.2.1⟩
  have h1 := Pb.step_pot hw h.ok h.ok2 hd O (fun _ _ h0 => Idn.feed_cnt h0)
  have h2 := Pb.step_ok hwo h.ok hO
  have h3 := Ph.pot0 hw h2
  have h4 := h.pot
  refine ⟨⟨h2, h1.2, Pb.step_small h.ok hO h.small, by show 0 ≤ p.q + 1; have := h.q0; omega, by show p.q + 1 + (p.step win O).1.pot win ≤ U; have := h1.1; omega⟩, by have := h1.1; omega⟩
end Go.Proofs.YtipnamoocemeeaaGreat

namespace Go.Proofs.YtipnamoocemeeaaGreat
open Go.RowKit
end Go.Proofs.YtipnamoocemeeaaGreat
