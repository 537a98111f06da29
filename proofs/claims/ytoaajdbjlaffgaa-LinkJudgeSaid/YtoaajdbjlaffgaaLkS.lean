/-
  The contract of a link's Sent.
-/
import Derived.Test.YtoaajdbjlaffgaaLkB
namespace Go.Proofs.Ytoaajdbjlaffgaa
open Go.RowKit

def Lk.sent (s : Lk) (en : Int) (rx : Value) : Lk := { s with ph := 2, cnt := s.cnt + 1, en := en, la := 0, til := en + t35T s.b + s.ti + charT s.b, rx := rx }

/-- What Sent leaves: a new receiver. -/
def LkSent (w : World) (g : Nat) (s : Lk) (en : Int) (r : Ending) (w' : World) : Prop :=
  ∃ rg : Nat, r = .returned (.int .i64 0) ∧ LkAt w' g (s.sent en (.pointer (some ⟨rg, 0, none⟩))) ∧ w.heap.size ≤ rg ∧ w'.heap[rg]? = some (.cells #[.int .i64 (charT s.b), .int .i64 (t15T s.b), .int .i64 (t35T s.b), .slice none 0 0, .int .i64 0, .int .i64 0, .int .i64 0, .bool false, .int .i64 0, .int .i64 0] 109) ∧ Keeps (· = g) w w'

/-- Before or behind the store of the end of the phase. -/
def SentS (W8 : World) (g : Nat) (v : Value) (W : World) : Prop := Below W8.heap.size W8 W ∨ ∃ X, Below W8.heap.size W8 X ∧ W = X.setCell ⟨g, 15, none⟩ v
theorem SentS.cell {W8 W : World} {g : Nat} {v : Value} {s : Lk} (h : SentS W8 g v W) (hl : LkAt W8 g s) (i : Nat) (hi : i ≠ 15) : W.cell? ⟨g, i, none⟩ = s.cells[i]? := by
  rcases h with h | ⟨X, h, rfl⟩
  · exact (hl.keep h).cell i
  · rw [hpCell (hpSet (hl.keep h) 15 v) i]
    simp [Ne.symm hi]

set_option maxRecDepth 100000 in
set_option maxHeartbeats 6400000 in
theorem lksent_ok (g : Nat) (s : Lk) (en : Int) (w : World) (hl : LkAt w g s) (hph : s.ph = 1) (h0 : 0 ≤ s.now) (h1 : s.now ≤ en) (h2 : en ≤ 1152921504606846976) (hset : Hid (Okset s.b s.p)) (h3 : 0 ≤ s.ti) (h4 : s.ti ≤ 5000000) (h5 : 0 ≤ s.cnt) (h6 : s.cnt ≤ 1000) :
    Calls Try.prog 22 #[.pointer (some ⟨g, 0, none⟩), .int .i64 en] w (LkSent w g s en) := by
  have V2 : Hid ((decide (s.now ≤ en) && decide (en ≤ 1152921504606846976)) = true) := by show _ = _; rw [decide_eq_true h1, decide_eq_true h2]; rfl
  obtain ⟨t1, t2, _, _, t5, t6⟩ := time_bd hset.out
  obtain ⟨C, hC⟩ : ∃ C, charT s.b = C := ⟨_, rfl⟩
  obtain ⟨T, hT⟩ : ∃ T, t35T s.b = T := ⟨_, rfl⟩
  have HCH : Hid (∀ W, Calls Try.prog 48 #[.agg #[.int .i64 s.b, .int .i64 s.p]] W fun r w' => r = .returned (.int .i64 C) ∧ Below W.heap.size W w') := fun W => by rw [← hC]; exact char_ok s.b s.p hset W
  have HT3 : Hid (∀ W, Calls Try.prog 47 #[.agg #[.int .i64 s.b, .int .i64 s.p]] W fun r w' => r = .returned (.int .i64 T) ∧ Below W.heap.size W w') := fun W => by rw [← hT]; exact t35_ok s.b s.p hset W
  rw [hC] at t1 t2
  rw [hT] at t5 t6
  have HC := hid hC
  have HT := hid hT
  have hg := hl.lt
  have c5 : w.cell? ⟨g, 5, none⟩ = some (.int .i64 1) := by rw [hl.cell 5]; simp [Lk.cells, hph]
  have f5 := hl.free 5
  have c13 : w.cell? ⟨g, 13, none⟩ = some (.int .i64 s.now) := hpCell hl 13
  have c14 : w.cell? ⟨g, 14, none⟩ = some (.int .i64 s.en) := hpCell hl 14
  have c16 : w.cell? ⟨g, 16, none⟩ = some (.int .i64 s.la) := hpCell hl 16
  have c18 : w.cell? ⟨g, 18, none⟩ = some (.int .i64 s.cnt) := hpCell hl 18
  have f14 : w.frozen? ⟨g, 14, none⟩ = false := hpFree hl 14
  have f16 : w.frozen? ⟨g, 16, none⟩ = false := hpFree hl 16
  have f18 : w.frozen? ⟨g, 18, none⟩ = false := hpFree hl 18
  obtain ⟨W8, hW8⟩ : ∃ W, W = ((w.setCell ⟨g, 18, none⟩ (.int .i64 (s.cnt + 1))).setCell ⟨g, 14, none⟩ (.int .i64 en)).setCell ⟨g, 16, none⟩ (.int .i64 0) := ⟨_, rfl⟩
  have l8 : LkAt W8 g { s with cnt := s.cnt + 1, en := en, la := 0 } := by
    rw [hW8]
    exact hpSetE (hpSetE (hpSetE hl rfl) rfl) rfl
  have k8 : Keeps (· = g) w W8 := by rw [hW8]; exact kset' (kset' (kset' (Keeps.refl _ _) _ _) _ _) _ _
  have s1 : IntKind.i64.wrap (en + T) = en + T := IntWalk.i64_in _ (by omega)
  have s2 : IntKind.i64.wrap (en + T + s.ti) = en + T + s.ti := IntWalk.i64_in _ (by omega)
  have s3 : IntKind.i64.wrap (en + T + s.ti + C) = en + T + s.ti + C := IntWalk.i64_in _ (by omega)
  have HL8 := hid l8
  have HW8 := hid hW8
  clear hl hC hT hW8 l8
  go_enter Try.func22, Try.ntmps22
  go_upto_region 9 with (first | (go_at_call 41; (with_reducible refine (within_any en s.now 1152921504606846976 _ true V2).mono ?_); rintro r wi ⟨rfl, rfl⟩) | fail)
  rw [← HW8.out]
  clear c5 f5 c13 c14 c16 c18 f14 f16 f18
  obtain ⟨v, hv⟩ : ∃ v : Value, v = .int .i64 (en + T + s.ti + C) := ⟨_, rfl⟩
  have c0 : ∀ W, SentS W8 g v W → W.cell? ⟨g, 0, none⟩ = some (.int .i64 s.b) := fun W h => h.cell HL8.out 0 (by decide)
  have c1 : ∀ W, SentS W8 g v W → W.cell? ⟨g, 1, none⟩ = some (.int .i64 s.p) := fun W h => h.cell HL8.out 1 (by decide)
  have c3 : ∀ W, SentS W8 g v W → W.cell? ⟨g, 3, none⟩ = some (.int .i64 s.ti) := fun W h => h.cell HL8.out 3 (by decide)
  have c15 : ∀ W, Below W8.heap.size W8 W → W.cell? ⟨g, 15, none⟩ = some (.int .i64 s.til) := fun W h => (HL8.out.keep h).cell 15
  have f15 : ∀ W, Below W8.heap.size W8 W → W.frozen? ⟨g, 15, none⟩ = false := fun W h => (HL8.out.keep h).free 15
  have kD : Below W8.heap.size W8 W8.drew := (Below.refl _ _).drew
  have kS : SentS W8 g v W8.drew := .inl kD
  have HR : ∀ X, Below W8.heap.size W8 X → SentS W8 g v (X.setCell ⟨g, 15, none⟩ (.int .i64 (en + T + s.ti + C))) := fun X h => .inr ⟨X, h, by rw [hv]⟩
  clear V2 hv
  go_region_held3 (fun W => SentS W8 g v W) ((with_reducible (first | exact kS | assumption | exact HR _ hBL))) (first
    | (go_at_call 48; (with_reducible refine (HCH.out W8.drew).mono ?_); rintro r w4 ⟨rfl, hb4⟩; have hB4 := bt kD hb4 (Nat.le_refl _); have hS4 : SentS W8 g v w4 := .inl hB4)
    | (go_at_call 47; (with_reducible refine (HT3.out W8.drew).mono ?_); rintro r w5 ⟨rfl, hb5⟩; have hB5 := bt kD hb5 (Nat.le_refl _); have hS5 : SentS W8 g v w5 := .inl hB5)
    | (go_at_call 48; (with_reducible refine (HCH.out w5).mono ?_); rintro r w4 ⟨rfl, hb4⟩; have hBL := bt hB5 hb4 (Nat.le_refl _); have hSL : SentS W8 g v w4 := .inl hBL; have z15 := c15 _ hBL; have y15 := f15 _ hBL)
    | (go_at_call 47; (with_reducible refine (HT3.out w4).mono ?_); rintro r w5 ⟨rfl, hb5⟩; have hBL := bt hB4 hb5 (Nat.le_refl _); have hSL : SentS W8 g v w5 := .inl hBL; have z15 := c15 _ hBL; have y15 := f15 _ hBL))
  all_goals
    have l9 : LkAt _ g { s with cnt := s.cnt + 1, en := en, la := 0, til := en + T + s.ti + C } := hpSetE (u := .int .i64 (en + T + s.ti + C)) (i := 15) (HL8.out.keep hBL) rfl
    have k9 : Keeps (· = g) w _ := kset' (k8.trans (Keeps.of_below hBL) (fun _ _ h => h)) 15 (.int .i64 (en + T + s.ti + C))
    have e0 := c0 _ (HR _ hBL)
    have e1 := c1 _ (HR _ hBL)
    clear c0 c1 c3 c15 f15 z15 y15 HR kS
    go_wp2_with fail
    refine (rxnew_ok s.b s.p hset _).mono ?_
    rintro r w7 ⟨rg, rfl, hrg, hrx, hb7⟩
    have l7 := l9.keep hb7
    have k7 := k9.trans (Keeps.of_below hb7) (fun _ _ h => h)
    have c17 : w7.cell? ⟨g, 17, none⟩ = some s.rx := hpCell l7 17
    have f17 : w7.frozen? ⟨g, 17, none⟩ = false := hpFree l7 17
    have c5 : w7.cell? ⟨g, 5, none⟩ = some (.int .i64 s.ph) := hpCell l7 5
    have f5 : w7.frozen? ⟨g, 5, none⟩ = false := hpFree l7 5
    have hrg' : w.heap.size ≤ rg := by
      have h1 := k9.size
      exact Nat.le_trans h1 hrg
    have HRX := hid hrx
    have HL7 := hid l7
    clear e0 e1 l9 hrx hrg
    go_wp2
    go_ret
    have hC := HC.out
    have hT := HT.out
    subst hC hT
    refine ⟨rg, rfl, hpSetE (hpSetE HL7.out rfl) rfl, hrg', ?_, kset' (kset' k7 _ _) _ _⟩
    exact hpKeeps HRX.out (F := (· = g)) (kset' (kset' (Keeps.refl _ _) _ _) _ _) (fun h => by have h' : rg = g := h; omega)

end Go.Proofs.Ytoaajdbjlaffgaa
