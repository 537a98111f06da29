/-
  The walk of the law StoreOwn.
-/
import Derived.Test.YthkclnehekbpgaaLawsStoreB
namespace Go.Proofs.Ythkclnehekbpgaa
open Go.RowKit

theorem own_lit (w : World) (base : Nat) (e : TypeId) (x : UInt8) (hb : base ≤ w.heap.size) :
    (w.alloc (.cells #[.int .u8 (x.toNat : Int)] e)).ownsRow base e 1 (.slice (some ⟨w.heap.size, 0, none⟩) 1 1) [x].length (u8s [x]) :=
  ⟨rfl, .inr ⟨w.heap.size, 1, _, rfl, hb, heap_alloc_new _ _, Nat.le_refl _, by decide, rfl, rfl⟩⟩

theorem own_slot {w : World} {base : Nat} {e : TypeId} {n : Nat} {v : Value} {xs : List Value} (h : w.ownsRow base e 1 v n xs) (hn : 0 < n) :
    ∃ g cap, v = .slice (some ⟨g, 0, none⟩) n cap ∧ base ≤ g ∧ n ≤ cap ∧ cap ≤ maxLen ∧ g < w.heap.size := by
  rcases h.2 with ⟨_, h0⟩ | ⟨g, cap, cur, hv, hg, hh, hnc, hcm, _⟩
  · omega
  · exact ⟨g, cap, hv, hg, hnc, hcm, (Array.getElem?_eq_some_iff.1 hh).1⟩

theorem own_cell0 {w : World} {base : Nat} {e : TypeId} {g n cap : Nat} {l : List UInt8} (h : w.ownsRow base e 1 (.slice (some ⟨g, 0, none⟩) n cap) n (u8s l)) (i : Nat) (hi : i < n) :
    w.cell? ⟨g, i, none⟩ = some (.int .u8 ((l.getD i 0).toNat : Int)) := by
  have hl : l.length = n := by simpa using h.1
  rw [h.cellAt i (by omega), u8s_get l i (by omega)]

set_option maxHeartbeats 1600000 in
theorem Walk.storeOwn (v : Value) (l : List UInt8) (w : World) (hv : Bs w v l) :
    Calls Try.prog 5 #[v] w fun r w' => r = .returned (.bool true) ∧ Below w.heap.size w w' := by
  obtain ⟨i5, hi, hz0, hz1, hz2⟩ := info_parts infoB
  have hb0 : (w.alloc (.cells #[.int .u8 7] 5)).ownsRow w.heap.size 5 1 (.slice (some ⟨w.heap.size, 0, none⟩) 1 1) [(7 : UInt8)].length (u8s [7]) := own_lit w w.heap.size _ 7 (Nat.le_refl _)
  have hv1 := hv.keep (bal' w (.cells #[.int .u8 7] 5))
  have HB := hid (bytes_int v l 20 (w.alloc (.cells #[.int .u8 7] 5)) hv1 20 rfl (by decide))
  have hl : (l.take 20).length ≤ 20 := by simp; omega
  generalize l.take 20 = m at *
  have ss : Hid (∀ (W : World) (v : Value) (l : List UInt8), Bs W v l → (convert 26 9 v).run Try.prog W = .ok (.string ⟨l.toArray⟩) W) := fun W v l h => run_str Try.underlying26 Try.underlying5 h _ Try.underlying9
  clear hv hv1
  go_enter Try.func5, Try.ntmps5
  go_wp2_with (first | (go_at_call 24; (with_reducible refine HB.out.mono ?_); rintro r w1 ⟨v1, rfl, ha, rfl⟩) | (at_builtin; refine wpList_app rfl _ _ 26 rfl w.heap.size 5 i5 Try.underlying26 hi hz0 hz1 hz2 (.slice (some ⟨w.heap.size, 0, none⟩) 1 1) [7] rfl hb0 _ m rfl ha ?c1 ?c2 ?c3))
  any_goals first | omega | (simp; done) | (simp; omega)
  case c3 =>
    intro v2 w2 hown hgr
    have hbel := (bal' w (.cells #[.int .u8 7] 5)).grown hgr (bal' w (.cells #[.int .u8 7] 5)).size (by intro k hk; simp [Value.ownBlock] at hk; omega)
    obtain ⟨g, cap, rfl, hg, hnc, hcm, hg2⟩ := own_slot hown (by omega)
    rw [Nat.add_comm 1 m.length] at hown hnc ⊢
    have hc0 := own_cell0 hown 0 (by omega)
    have hf0 := hown.frozenAt 0
    have hbb : Bs w2 (.slice (some ⟨g, 0, none⟩) (m.length + 1) cap) (7 :: m) := Bs.own hown
    have e2 := ss.out _ _ _ hbb
    have hlen : (7 :: m).length ≤ 21 := by simp; omega
    replace hc0 : w2.cell? ⟨g, 0, none⟩ = some (.int .u8 7) := hc0
    have HBB := hid hbb
    have HO := hid hown
    clear hgr hown hbb hb0
    go_wp2_with (first | (go_at_call 25; refine (new_ok 100 (by decide) _ w.heap.size hbel.size).mono ?_; rintro r w3 ⟨rfl, hs3, hbel3, hlt3⟩) | fail)
    refine (append_ok _ w.heap.size w2.heap.size 100 [] _ hs3 (by simp) (by decide) _ (7 :: m) (HBB.out.keep hbel3) (by simp; omega)).mono ?_
    rintro r w4 ⟨rfl, v4, hs4, hk4, hn4⟩
    have hng : ¬ StF w2.heap.size (.slice none 0 0) g := by
      rintro (h | h)
      · omega
      · simp [Value.ownBlock] at h
    have hc4 : w4.cell? ⟨g, 0, none⟩ = some (.int .u8 7) := hk4.cell (by rw [hbel3.cell (cell_lt hc0)]; exact hc0) hng
    have hf4 : w4.frozen? ⟨g, 0, none⟩ = false := by
      rw [World.frozen?_of_block (w := w3) (hk4.block g (by have := hbel3.size; omega) hng), World.frozen?_of_block (w := w2) (hbel3.block g hg2)]
      exact hf0
    have hs5 : St (w4.setCell ⟨g, 0, none⟩ (.int .u8 8)) w.heap.size w2.heap.size 100 (7 :: m) v4 := by
      refine St.keeps (F := fun k => k = g) hs4 ((Keeps.refl _ _).set _ _ rfl) (by show ¬ w2.heap.size = g; omega) ?_
      intro k hk he
      subst he
      rcases hn4 with h | ⟨j, h, hj⟩
      · rw [h] at hk; simp [Value.ownBlock] at hk
      · rw [h] at hk; cases hk; omega
    have hbel4 : Below w.heap.size w w4 := (bt hbel hbel3 (Nat.le_refl _)).trans (hk4.below (B := w.heap.size) (by have := hbel.size; have := hbel3.size; omega) (fun k hk => by
      rintro (h | h)
      · have := hbel.size; omega
      · simp [Value.ownBlock] at h))
    have hbel5 : Below w.heap.size w (w4.setCell ⟨g, 0, none⟩ (.int .u8 8)) := hbel4.setCell (p := ⟨g, 0, none⟩) hg _
    have HS5 := hid hs5
    have HL := hid hlen
    clear hs5 hs4 hn4 hk4 hs3 e2 hc0 hf0 hlen hng
    go_wp2_with fail
    refine (sbytes_any _ _ _ _ _ _ HS5.out (by have := HL.out; omega)).mono ?_
    rintro r w6 ⟨v6, rfl, hown6, hbel6⟩
    have e6 := ss.out _ _ _ (Bs.own hown6)
    obtain ⟨g6, cap6, rfl, hg6, hnc6, hcm6, hlt6⟩ := own_slot hown6 (by simp)
    have hc6 : w6.cell? ⟨g6, 0, none⟩ = some (.int .u8 7) := own_cell0 hown6 0 (by simp)
    have hf6 := hown6.frozenAt 0
    have hs6 : St w6 w.heap.size w2.heap.size 100 (7 :: m) v4 := HS5.out.below hbel6
    have hsz5 : (w4.setCell ⟨g, 0, none⟩ (.int .u8 8)).heap.size ≤ g6 := hg6
    have hs7 : St (w6.setCell ⟨g6, 0, none⟩ (.int .u8 8)) w.heap.size w2.heap.size 100 (7 :: m) v4 := by
      refine St.keeps (F := fun k => k = g6) hs6 ((Keeps.refl _ _).set _ _ rfl) (by have := HS5.out.lt; show ¬ w2.heap.size = g6; omega) ?_
      intro k hk he
      subst he
      have := (HS5.out.own.lt k hk).2
      omega
    have hbel7 : Below w.heap.size w (w6.setCell ⟨g6, 0, none⟩ (.int .u8 8)) := (bt hbel5 hbel6 (Nat.le_refl _)).setCell (p := ⟨g6, 0, none⟩) (by have := hbel5.size; show w.heap.size ≤ g6; omega) _
    have hl6 : (7 :: m).length = m.length + 1 := rfl
    rw [hl6] at e6 hown6 ⊢
    have HS7 := hid hs7
    clear hs7 hs6 hown6 hl6
    go_wp2_with (first | (go_at_call 28; (with_reducible refine (stawake_any _).mono ?_); rintro r w8 ⟨rfl, hbel8⟩) | (go_at_call 27; refine (sbytes_any _ _ _ _ _ _ (HS7.out.below hbel8) (by have := HL.out; omega)).mono ?_; rintro r w9 ⟨v9, rfl, hown9, hbel9⟩; have e9 := ss.out _ _ _ (Bs.own hown9)) | fail)
    go_ret
    exact ⟨rfl, bt (bt hbel7 hbel8 (Nat.le_refl _)) hbel9 (Nat.le_refl _)⟩

end Go.Proofs.Ythkclnehekbpgaa
