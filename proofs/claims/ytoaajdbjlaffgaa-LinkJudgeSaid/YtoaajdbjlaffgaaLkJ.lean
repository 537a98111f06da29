/-
  The contract of a link's judged at an outcome that says no more than its verdict.
-/
import Derived.Test.YtoaajdbjlaffgaaLkS
import Derived.Deep.RegionLaw
namespace Go.Proofs.Ytoaajdbjlaffgaa
open Go.RowKit

def intsV (l : List Int) : List Value := l.map (.int .i64)
/-- The verdicts of the attempts so far: a row of the link's own, in a block of its own. -/
structure SeenAt (w : World) (g : Nat) (s : Lk) (l : List Int) : Prop where
  own : w.ownsRow (g + 1) 3 1 (.slice s.sa s.sn s.sc) s.sn (intsV l)
  len : l.length = s.sn

theorem infoI : (Try.prog.info? 3).map (fun i => (i.zero, i.size, i.bytes)) = some (some (.int .i64 0), 1, 8) := by kernel_rfl
theorem SeenAt.apart {w : World} {g : Nat} {s : Lk} {l : List Int} (h : SeenAt w g s l) : (Value.slice s.sa s.sn s.sc).ownBlock ≠ some g := by
  intro e
  have := (h.own.lt g e).1
  omega

def Lk.drains (s : Lk) (sa : Option Addr) (sc : Nat) : Lk := { s with ph := 4, til := (if s.til < s.en + s.dr then s.en + s.dr else s.til), sa := sa, sn := s.sn + 1, sc := sc }

/-- What judged leaves where the attempt has no reply. -/
def LkDrains (w : World) (g : Nat) (s : Lk) (l : List Int) (v : Int) (r : Ending) (w' : World) : Prop :=
  ∃ (sa : Option Addr) (sc : Nat), r = .returned (.tuple #[]) ∧ LkAt w' g (s.drains sa sc) ∧ SeenAt w' g (s.drains sa sc) (l ++ [v]) ∧ NewOr w (.slice s.sa s.sn s.sc) (.slice sa (s.sn + 1) sc) ∧ Keeps (fun j => j = g ∨ (Value.slice s.sa s.sn s.sc).ownBlock = some j) w w'

set_option maxRecDepth 100000 in
set_option maxHeartbeats 6400000 in
theorem judged_bad (g : Nat) (s : Lk) (l : List Int) (v : Int) (w : World) (hl : LkAt w g s) (hs : SeenAt w g s l) (hv1 : (v == 1) = false) (hv2 : (v == 2) = false) (hn : s.sn ≤ 1000) (he1 : 0 ≤ s.en) (he2 : s.en ≤ 1152921504606846976) (hd1 : 0 ≤ s.dr) (hd2 : s.dr ≤ 100000000) :
    Calls Try.prog 54 #[.pointer (some ⟨g, 0, none⟩), .agg #[.int .i64 v, .int .i64 0, .int .i64 0, .slice none 0 0, .int .i64 0, .int .i64 0, .bool false, .int .i64 0, .slice none 0 0]] w (LkDrains w g s l v) := by
  obtain ⟨i5, hi, hz0, hz1, hz2⟩ := info_parts infoI
  have hg := hl.lt
  obtain ⟨W0, hW0⟩ : ∃ W, w.alloc (.cells #[.int .i64 v, .int .i64 0, .int .i64 0, .slice none 0 0, .int .i64 0, .int .i64 0, .bool false, .int .i64 0, .slice none 0 0] 41) = W := ⟨_, rfl⟩
  have g0 : W0.heap[w.heap.size]? = some (.cells #[.int .i64 v, .int .i64 0, .int .i64 0, .slice none 0 0, .int .i64 0, .int .i64 0, .bool false, .int .i64 0, .slice none 0 0] 41) := by rw [← hW0]; exact hpNew w _
  have hb0 : Below w.heap.size w W0 := by rw [← hW0]; exact bal' w _
  have hsz0 : W0.heap.size = w.heap.size + 1 := by rw [← hW0]; simp
  have own0 : W0.ownsRow (g + 1) 3 1 (.slice s.sa s.sn s.sc) s.sn (intsV l) := by rw [← hW0]; exact hs.own.alloc _
  have l0 := hl.keep hb0
  have HL0 := hid l0
  have HS := hid hs
  have HW0 := hid hW0
  have x0 : W0.cell? ⟨w.heap.size, 0, none⟩ = some (.int .i64 v) := hpCell g0 0
  have c19 : W0.cell? ⟨g, 19, none⟩ = some (.slice s.sa s.sn s.sc) := hpCell l0 19
  have hgb : g + 1 ≤ W0.heap.size := by omega
  have HSZ := hid hsz0
  clear hl hs hW0 hsz0
  go_enter Try.func54, Try.ntmps54
  go_upto_region 1 with (fail)
  rw [HW0.out]
  go_wp2
  have OWN := hid own0
  have cA19 : ∀ X, (W0.alloc X).cell? ⟨g, 19, none⟩ = some (.slice s.sa s.sn s.sc) := fun X => (HL0.out.keep (bal' _ X)).cell 19
  have W19 : Hid ((W0.alloc (.cells #[.int .i64 v] 3)).cell? ⟨g, 19, none⟩ = some (.slice s.sa s.sn s.sc)) := (HL0.out.keep (bal' _ _)).cell 19
  have HAP : Hid (some g ≠ (Value.slice s.sa s.sn s.sc).ownBlock) := fun h => HS.out.apart h.symm
  have HFZ : Hid (∀ w2, (W0.alloc (.cells #[.int .i64 v] 3)).drew.grownBy w2 (Value.slice s.sa s.sn s.sc).ownBlock → w2.frozen? ⟨g, 19, none⟩ = false) := fun w2 h => by
    have hb : w2.heap[g]? = (W0.alloc (.cells #[.int .i64 v] 3)).heap[g]? := h.block g (by show g < (W0.alloc _).heap.size; simp; omega) HAP.out
    exact hpFree (hb.trans (HL0.out.keep (bal' _ _))) 19
  go_region_law (refine step_appN rfl (.tmp 23) (.tmp 26) 79 rfl (g + 1) 3 i5 (.int .i64 0) 1 8 Try.underlying79 hi hz0 hz1 hz2 rfl (by decide) (.slice s.sa s.sn s.sc) s.sn (intsV l) rfl (OWN.out.alloc _) ⟨W0.heap.size, 0, none⟩ 1 1 [.int .i64 v] rfl rfl (newsNew W0 [.int .i64 v] _) (by intro u hu; simp at hu; subst hu; rfl) (by unfold maxLen; omega) (by omega) (by simp; omega) ?_; intro v' w2 hown hgr hnew; obtain ⟨sa', sc', rfl⟩ := own_slice hown; have y19 : w2.cell? ⟨g, 19, none⟩ = some (.slice s.sa s.sn s.sc) := hgr.cell (W19.out) HAP.out; have z19 := HFZ.out w2 hgr)
  all_goals
    have hb2 : w2.heap[g]? = some (.cells s.cells 86) := (hgr.block g (by show g < (W0.alloc _).heap.size; simp; omega) HAP.out).trans (HL0.out.keep (bal' _ _).drew)
    have l3 : LkAt (w2.setCell ⟨g, 19, none⟩ (.slice sa' (s.sn + 1) sc')) g { s with sa := sa', sn := s.sn + 1, sc := sc' } := hpSetE hb2 rfl
    obtain ⟨W3, hW3⟩ : ∃ W, W = w2.setCell ⟨g, 19, none⟩ (.slice sa' (s.sn + 1) sc') := ⟨_, rfl⟩
    rw [← hW3] at l3 ⊢
    have HL3 := hid l3
    have HW3 := hid hW3
    have c15 : W3.cell? ⟨g, 15, none⟩ = some (.int .i64 s.til) := l3.cell 15
    have c14 : W3.cell? ⟨g, 14, none⟩ = some (.int .i64 s.en) := l3.cell 14
    have c4 : W3.cell? ⟨g, 4, none⟩ = some (.int .i64 s.dr) := l3.cell 4
    have c5 : W3.cell? ⟨g, 5, none⟩ = some (.int .i64 s.ph) := l3.cell 5
    have f15 := l3.free 15
    have f5 := l3.free 5
    have s1 : IntKind.i64.wrap (s.en + s.dr) = s.en + s.dr := IntWalk.i64_in _ (by omega)
    obtain ⟨M, hM⟩ : ∃ M, (if s.til < s.en + s.dr then s.en + s.dr else s.til) = M := ⟨_, rfl⟩
    have HM := hid hM
    clear hb2 y19 z19 x0 c19 cA19 hW3 l3 W19
    go_wp2
    go_region
    all_goals
      go_wp2
      go_end0
      have hm := HM.out
      subst hm
      have k1 : Keeps (fun j => j = g ∨ (Value.slice s.sa s.sn s.sc).ownBlock = some j) w W3 := by
        refine (Keeps.of_below (bt hb0 (bal' W0 (.cells #[.int .i64 v] 3)).drew (Nat.le_refl _))).trans ?_ (fun _ _ h => h)
        rw [HW3.out]
        exact (Keeps.of_grown (F := fun j => j = g ∨ (Value.slice s.sa s.sn s.sc).ownBlock = some j) hgr (fun k hk => .inr hk)).set ⟨g, 19, none⟩ _ (.inl rfl)
      have o1 : W3.ownsRow (g + 1) 3 1 (.slice sa' (s.sn + 1) sc') (s.sn + 1) (intsV (l ++ [v])) := by
        rw [HW3.out]
        have : intsV (l ++ [v]) = intsV l ++ [.int .i64 v] := by simp [intsV]
        rw [this]
        exact own_keeps hown (setK (p := g)) (fun k hk e => by
          have h1 := (hown.lt k hk).1
          have h2 : k = g := e
          omega)
      have n1 : NewOr w (.slice s.sa s.sn s.sc) (.slice sa' (s.sn + 1) sc') := by
        rcases hnew with h | ⟨j, h, hj⟩
        · exact .inl h
        · refine .inr ⟨j, h, ?_⟩
          have hj' : (W0.alloc (.cells #[.int .i64 v] 3)).heap.size ≤ j := hj
          simp at hj'
          have := HSZ.out
          omega
      have HN1 := hid n1
      have HO1 := hid o1
      have HK1 := hid k1
      clear c15 c14 c4 c5 f15 f5 s1 hM hown hgr hnew o1 k1 n1 OWN HFZ
      refine ⟨sa', sc', rfl, ?_, ⟨?_, ?_⟩, HN1.out, ?_⟩
      · unfold LkAt
        first
          | exact hpDrewE (hpSetE (hpSetE HL3.out rfl) rfl)
          | exact hpSetE (hpSetE HL3.out rfl) rfl
      · have hk2 : ∀ k, (Value.slice sa' (s.sn + 1) sc').ownBlock = some k → ¬ (fun j => j = g) k := fun k hk e => by
          have h1 := (HO1.out.lt k hk).1
          have h2 : k = g := e
          omega
        first
          | exact own_keeps HO1.out (kdrew (kset' (kset' (Keeps.refl _ _) _ _) _ _)) hk2
          | exact own_keeps HO1.out (kset' (kset' (Keeps.refl _ _) _ _) _ _) hk2
      · show (l ++ [v]).length = s.sn + 1
        rw [List.length_append, HS.out.len]; rfl
      · first
          | exact HK1.out.trans (kdrew (kset' (kset' (Keeps.refl (· = g) W3) _ _) _ _)) (fun _ _ h => .inl h)
          | exact HK1.out.trans (kset' (kset' (Keeps.refl (· = g) W3) _ _) _ _) (fun _ _ h => .inl h)

end Go.Proofs.Ytoaajdbjlaffgaa
