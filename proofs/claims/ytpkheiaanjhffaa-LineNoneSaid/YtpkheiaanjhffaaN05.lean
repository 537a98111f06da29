/-
  Texts 5 of the claim.
-/
import Derived.Test.YtpkheiaanjhffaaN04
import Derived.Test.YtpkheiaanjhffaaN01
import Derived.Test.YtpkheiaanjhffaaN02
namespace Go.Proofs.Ytpkheiaanjhffaa
open Go.RowKit
end Go.Proofs.Ytpkheiaanjhffaa
namespace Go.Proofs.Ytpkheiaanjhffaa
open Go.RowKit
theorem b2 (w : World) (X Y : Obj) : Below w.heap.size w ((w.alloc X).alloc Y) := (bal' w X).alloc (by simp) Y
theorem b3 (w : World) (X Y Z : Obj) : Below w.heap.size w (((w.alloc X).alloc Y).alloc Z) := (b2 w X Y).alloc (by simp; omega) Z
end Go.Proofs.Ytpkheiaanjhffaa
namespace Go.Proofs.Ytpkheiaanjhffaa
open Go.RowKit
end Go.Proofs.Ytpkheiaanjhffaa
namespace Go.Proofs.Ytpkheiaanjhffaa
open Go.RowKit
def ObCs (w : World) (cs : List Value) (l : List Ob) : Prop :=
  cs.length = l.length * 2 ∧ ∀ (i : Nat) (x : Ob), l[i]? = some x → cs[i * 2]? = some (.int .i64 x.id) ∧ ∃ a c, cs[i * 2 + 1]? = some (.slice a x.val.length c) ∧ Bs w (.slice a x.val.length c) x.val
theorem ObCs.keep {w w' : World} {cs : List Value} {l : List Ob} (h : ObCs w cs l) (hb : Below w.heap.size w w') : ObCs w' cs l :=
  ⟨h.1, fun i x hx => by
    obtain ⟨h1, a, c, h2, h3⟩ := h.2 i x hx
    exact ⟨h1, a, c, h2, h3.keep hb⟩⟩
theorem ObCs.nil (w : World) : ObCs w [] [] := ⟨rfl, fun i x hx => by simp at hx⟩
theorem ObCs.one {w : World} {cs : List Value} {l : List Ob} (h : ObCs w cs l) : ∀ u ∈ cs, u.oneCell' = true := by
  intro u hu
  obtain ⟨j, hj⟩ := List.getElem?_of_mem hu
  have hjl := (List.getElem?_eq_some_iff.1 hj).1
  have hlen := h.1
  obtain ⟨x, hx⟩ := get_some (l := l) (k := j / 2) rfl (by omega)
  obtain ⟨h1, a, c, h2, _⟩ := h.2 (j / 2) x hx
  rcases Nat.mod_two_eq_zero_or_one j with hm | hm
  · rw [show j / 2 * 2 = j by omega, hj] at h1
    cases h1; rfl
  · rw [show j / 2 * 2 + 1 = j by omega, hj] at h2
    cases h2; rfl
theorem Obs.cells {w : World} {b o n c : Nat} {l : List Ob} (h : Obs w (.slice (some ⟨b, o, none⟩) n c) l) : ∃ cs, ObCs w cs l ∧ l.length = n ∧ ∀ j u, cs[j]? = some u → w.cell? ⟨b, o + j, none⟩ = some u := by
  obtain ⟨a, c', hv, h1, h2, h3, h4⟩ := h
  cases hv
  have hall : ∀ j, j < l.length * 2 → ∃ u, w.cell? ⟨b, o + j, none⟩ = some u := by
    intro j hj
    obtain ⟨b', o', ha, hc⟩ := h4 (by rintro rfl; simp at hj)
    cases ha
    obtain ⟨x, hx⟩ := get_some (l := l) (k := j / 2) rfl (by omega)
    obtain ⟨h5, v, h6, _⟩ := hc (j / 2) x hx
    rcases Nat.mod_two_eq_zero_or_one j with hm | hm
    · rw [show o + j / 2 * 2 = o + j by omega] at h5; exact ⟨_, h5⟩
    · rw [show o + j / 2 * 2 + 1 = o + j by omega] at h6; exact ⟨_, h6⟩
  have hget : ∀ j, j < l.length * 2 → ((List.range (l.length * 2)).map fun j => (w.cell? ⟨b, o + j, none⟩).getD undef)[j]? = w.cell? ⟨b, o + j, none⟩ := by
    intro j hj
    obtain ⟨u, hu⟩ := hall j hj
    simp [hj, hu]
  refine ⟨(List.range (l.length * 2)).map fun j => (w.cell? ⟨b, o + j, none⟩).getD undef, ⟨by simp, fun i x hx => ?_⟩, rfl, fun j u hj => ?_⟩
  · have hi := (List.getElem?_eq_some_iff.1 hx).1
    obtain ⟨b', o', ha, hc⟩ := h4 (by rintro rfl; simp at hx)
    cases ha
    obtain ⟨h5, v, h6, h7⟩ := hc i x hx
    obtain ⟨xa, xc, rfl, _⟩ := id h7
    refine ⟨by rw [hget _ (by omega)]; exact h5, xa, xc, by rw [hget _ (by omega), ← Nat.add_assoc]; exact h6, h7⟩
  · have hjl := (List.getElem?_eq_some_iff.1 hj).1
    rw [hget j (by simpa using hjl)] at hj
    exact hj
theorem Obs.of_own {w : World} {base : Nat} {E : TypeId} {v : Value} {n : Nat} {cs : List Value} {l : List Ob} (h : w.ownsRow base E 2 v n cs) (hc : ObCs w cs l) (hn : l.length = n) : Obs w v l := by
  subst hn
  obtain ⟨hlen, h | ⟨g, cap, cur, hv, hb, hh, hnc, hcm, hcs, ht⟩⟩ := h
  · obtain ⟨rfl, h0⟩ := h
    have : l = [] := List.eq_nil_of_length_eq_zero h0
    subst this
    exact Obs.nil w
  · refine ⟨_, _, hv, hnc, hcm, fun h => by simp at h, fun hl => ⟨g, 0, rfl, fun i x hx => ?_⟩⟩
    have hi := (List.getElem?_eq_some_iff.1 hx).1
    obtain ⟨h1, a, c, h2, h3⟩ := hc.2 i x hx
    have hcell : ∀ j, j < l.length * 2 → w.cell? ⟨g, j, none⟩ = cs[j]? := by
      intro j hj
      have h4 : cur[j]? = cs[j]? := by
        have := take_get (n := l.length * 2) (xs := cs) ht j (by rw [hlen]; exact hj)
        exact this
      simp only [World.cell?, hh, Option.isSome_none]
      exact h4
    rw [Nat.zero_add]
    refine ⟨by rw [hcell _ (by omega)]; exact h1, _, by rw [hcell _ (by omega)]; exact h2, h3⟩
theorem own_shapeR {w : World} {base : Nat} {e : TypeId} {sz n : Nat} {v : Value} {xs : List Value} (h : w.ownsRow base e sz v n xs) (hn : 0 < n) :
    ∃ g cap, v = .slice (some ⟨g, 0, none⟩) n cap ∧ base ≤ g ∧ n ≤ cap ∧ cap ≤ maxLen := by
  rcases h.2 with ⟨_, h0⟩ | ⟨g, cap, cur, hv, hg, _, hnc, hcm, _⟩
  · omega
  · exact ⟨g, cap, hv, hg, hnc, hcm⟩
theorem infoO : (Try.prog.info? 112).map (fun i => (i.zero, i.size, i.bytes)) = some (some (.agg #[.int .i64 0, .slice none 0 0]), 2, 32) := by kernel_rfl
def CloneOPost (w0 w : World) (l : List Ob) (r : Ending) (w' : World) : Prop := ∃ v' cs, r = .returned v' ∧ w'.ownsRow w.heap.size 112 2 v' l.length cs ∧ ObCs w0 cs l ∧ Below w.heap.size w w'
set_option maxHeartbeats 1600000 in
theorem cloneO_any (v : Value) (l : List Ob) (w0 w : World) (hv : Obs w0 v l) (hb0 : Below w0.heap.size w0 w) (hl : l.length ≤ 1000000) :
    Calls Try.prog 50 #[v] w (CloneOPost w0 w l) := by
  obtain ⟨i5, hi, hz0, hz1, hz2⟩ := info_parts infoO
  obtain ⟨a, c, rfl, hc, hcm, hac, _⟩ := id hv
  unfold maxLen at hcm
  have hq := Lib.run_eql_slice_nil (P := Try.prog)
  cases a with
  | none =>
    obtain rfl := hac rfl
    have hl0 : l.length = 0 := by omega
    have : l = [] := List.eq_nil_of_length_eq_zero hl0
    subst this
    clear hv
    go_enter Try.func50, Try.ntmps50
    go_wp2
    go_ret
    exact ⟨_, [], rfl, World.ownsRow_nil _ _ _ _, ObCs.nil _, Below.refl _ _⟩
  | some a =>
    by_cases hne : l = []
    · subst hne
      clear hv
      go_enter Try.func50, Try.ntmps50
      go_wp2_with (at_builtin; refine wpList_appN rfl _ _ 62 rfl w.heap.size 112 i5 _ 2 32 Try.underlying62 hi hz0 hz1 hz2 rfl (by decide) _ 0 [] rfl (World.ownsRow_made _ _ _ (Nat.le_refl _) (by decide) rfl) a 0 c [] rfl rfl (by simp) (by simp) (by unfold maxLen; omega) (by omega) (by simp) ?c3)
      case c3 =>
        intro v' w1 hown hgr _
        have hbel := (bal' w (.cells #[] 112)).grown hgr (bal' w (.cells #[] 112)).size (by intro k hk; simp [Value.ownBlock] at hk; omega)
        clear hgr
        go_wp2
        go_ret
        exact ⟨_, _, rfl, hown, ObCs.nil _, hbel⟩
    · obtain ⟨b, o, c', hv1, _⟩ := hv.at hne
      simp only [Value.slice.injEq, Option.some.injEq, true_and] at hv1
      obtain ⟨rfl, rfl⟩ := hv1
      obtain ⟨cs, hcs, _, hcell⟩ := hv.cells
      have H1 := hcs.one
      have HCS := hid hcs
      have HL := hid hcs.1
      have hcell' : Hid (∀ j u, cs[j]? = some u → (w.alloc (.cells #[] 112)).cell? ((⟨b, o, none⟩ : Addr).add j) = some u) := fun j u hj => by
        have e1 : (⟨b, o, none⟩ : Addr).add j = ⟨b, o + j, none⟩ := by unfold Addr.add; split <;> simp_all
        rw [e1]
        exact cell_keep (bal' w _) (cell_keep hb0 (hcell j u hj))
      replace H1 := hid H1
      clear hv hcs hcell hne hb0
      go_enter Try.func50, Try.ntmps50
      go_wp2_with (at_builtin; refine wpList_appN rfl _ _ 62 rfl w.heap.size 112 i5 _ 2 32 Try.underlying62 hi hz0 hz1 hz2 rfl (by decide) _ 0 [] rfl (World.ownsRow_made _ _ _ (Nat.le_refl _) (by decide) rfl) ⟨b, o, none⟩ l.length c cs rfl HL.out hcell'.out H1.out (by unfold maxLen; omega) (by omega) (by simp) ?c3)
      case c3 =>
        intro v' w1 hown hgr _
        have hbel := (bal' w (.cells #[] 112)).grown hgr (bal' w (.cells #[] 112)).size (by intro k hk; simp [Value.ownBlock] at hk; omega)
        have hown' := hid (show w1.ownsRow w.heap.size 112 2 v' l.length cs by simpa using hown)
        have HC2 := HCS
        clear hgr hown
        go_wp2
        go_ret
        exact ⟨_, _, rfl, hown'.out, HC2.out, hbel⟩
end Go.Proofs.Ytpkheiaanjhffaa
namespace Go.Proofs.Ytpkheiaanjhffaa
open Go.RowKit
def ObCg (F : Nat → Prop) (w : World) (cs : List Value) (l : List Ob) : Prop :=
  cs.length = l.length * 2 ∧ ∀ (i : Nat) (x : Ob), l[i]? = some x → cs[i * 2]? = some (.int .i64 x.id) ∧ ∃ a c, cs[i * 2 + 1]? = some (.slice a x.val.length c) ∧ Bs w (.slice a x.val.length c) x.val ∧ (x.val ≠ [] → ∀ ad, a = some ad → ¬ F ad.block)
theorem ObCg.cs {F : Nat → Prop} {w : World} {cs : List Value} {l : List Ob} (h : ObCg F w cs l) : ObCs w cs l :=
  ⟨h.1, fun i x hx => by
    obtain ⟨h1, a, c, h2, h3, _⟩ := h.2 i x hx
    exact ⟨h1, a, c, h2, h3⟩⟩
theorem Bs.block {w : World} {a : Option Addr} {n c : Nat} {l : List UInt8} (h : Bs w (.slice a n c) l) (hl : l ≠ []) : ∀ ad, a = some ad → ad.block < w.heap.size := by
  obtain ⟨a', c', hv, h1, h2, h3, h4⟩ := h
  cases hv
  obtain ⟨b, o, ha, hc⟩ := h4 hl
  intro ad had
  rw [ha] at had
  cases had
  have := cell_lt (hc 0 (by cases l with | nil => exact absurd rfl hl | cons x l => simp))
  exact this
theorem Bs.keepsN {w w' : World} {F : Nat → Prop} {a : Option Addr} {n c : Nat} {l : List UInt8} (h : Bs w (.slice a n c) l) (hk : Keeps F w w') (hn : l ≠ [] → ∀ ad, a = some ad → ¬ F ad.block) : Bs w' (.slice a n c) l := by
  obtain ⟨a', c', hv, h1, h2, h3, h4⟩ := h
  cases hv
  refine ⟨a, c, rfl, h1, h2, h3, fun hl => ?_⟩
  obtain ⟨b, o, ha, hc⟩ := h4 hl
  exact ⟨b, o, ha, fun i hi => hk.cell (hc i hi) (show ¬ F b from hn hl _ ha)⟩
theorem ObCg.of {F : Nat → Prop} {w w' : World} {cs : List Value} {l : List Ob} (h : ObCs w cs l) (hb : Below w.heap.size w w') (hF : ∀ k, k < w.heap.size → ¬ F k) : ObCg F w' cs l :=
  ⟨h.1, fun i x hx => by
    obtain ⟨h1, a, c, h2, h3⟩ := h.2 i x hx
    exact ⟨h1, a, c, h2, h3.keep hb, fun hl ad had => hF _ (h3.block hl ad had)⟩⟩
theorem ObCg.keeps {F G : Nat → Prop} {w w' : World} {cs : List Value} {l : List Ob} (h : ObCg F w cs l) (hk : Keeps G w w') (hG : ∀ k, G k → F k) : ObCg F w' cs l :=
  ⟨h.1, fun i x hx => by
    obtain ⟨h1, a, c, h2, h3, h4⟩ := h.2 i x hx
    exact ⟨h1, a, c, h2, h3.keepsN hk (fun hl ad had g => h4 hl ad had (hG _ g)), h4⟩⟩
theorem ObCg.set {F : Nat → Prop} {w : World} {cs : List Value} {l : List Ob} (h : ObCg F w cs l) {k : Nat} {x : Ob} (hx : l[k]? = some x) {a : Option Addr} {c : Nat} (hb : Bs w (.slice a x.val.length c) x.val) (hF : x.val ≠ [] → ∀ ad, a = some ad → ¬ F ad.block) :
    ObCg F w (cs.set (k * 2 + 1) (.slice a x.val.length c)) l := by
  refine ⟨by simpa using h.1, fun i y hy => ?_⟩
  obtain ⟨h1, a', c', h2, h3, h4⟩ := h.2 i y hy
  have hi := (List.getElem?_eq_some_iff.1 hy).1
  have hk := (List.getElem?_eq_some_iff.1 hx).1
  by_cases hik : i = k
  · subst hik
    rw [hx] at hy
    cases hy
    refine ⟨?_, a, c, ?_, hb, hF⟩
    · rw [List.getElem?_set_ne (by omega)]; exact h1
    · rw [List.getElem?_set_self (by have := h.1; omega)]
  · refine ⟨?_, a', c', ?_, h3, h4⟩
    · rw [List.getElem?_set_ne (by omega)]; exact h1
    · rw [List.getElem?_set_ne (by omega)]; exact h2
theorem cell_heap {w : World} {b : Nat} {c : Array Value} {t : TypeId} {fz : Nat × Nat} (h : w.heap[b]? = some (.cells c t fz)) (i : Nat) : w.cell? ⟨b, i, none⟩ = c[i]? := by simp [World.cell?, h]
end Go.Proofs.Ytpkheiaanjhffaa
namespace Go.Proofs.Ytpkheiaanjhffaa
open Go.RowKit
end Go.Proofs.Ytpkheiaanjhffaa
