/-
  Texts 7 of the claim.
-/
import Derived.Test.YtipnamoocemeeaaGreatD06
namespace Go.Proofs.YtipnamoocemeeaaGreat
open Go.RowKit
structure Mp where
  tb : Int
  first : Int
  cnt : Int
  most : Int
  mode : Int
  lo : Int
  hi : Int
  ks : List Int
def Mp.rest (m : Mp) : Int := m.cnt - m.ks.length
def Mp.size (m : Mp) : Int := if m.mode = 1 then (if m.rest < m.most then m.rest else m.most) else if m.mode = 2 then (m.lo + m.hi) / 2 else 1
def Mp.learn (m : Mp) (n k mo : Int) : Mp := { m with ks := m.ks ++ List.replicate n.toNat k, mode := mo }
def Mp.feed (m : Mp) (v x : Int) : Mp :=
  if m.mode = 2 then
    (if v = 1 then (if m.hi = m.size + 1 then ({ m with lo := m.size }.learn m.size 1 0).learn 1 2 0 else { m with lo := m.size })
    else if v = 2 ∧ x = 2 then (if m.size = m.lo + 1 then ({ m with hi := m.size }.learn m.lo 1 0).learn 1 2 0 else { m with hi := m.size })
    else m.learn m.lo 1 0)
  else if v = 1 then m.learn m.size 1 1
  else if v = 2 ∧ x = 2 then (if 1 < m.size then { m with mode := 2, lo := 0, hi := m.size } else m.learn 1 2 0)
  else if 1 < m.size then { m with mode := 0 }
  else m.learn 1 3 0
structure Mp.ok (m : Mp) : Prop where
  t0 : 1 ≤ m.tb
  t1 : m.tb ≤ 4
  c0 : 1 ≤ m.cnt
  c1 : m.cnt ≤ 512
  f0 : 0 ≤ m.first
  f1 : m.first ≤ 65536 - m.cnt
  m0 : 1 ≤ m.most
  m1 : m.most ≤ 2000
  kl : m.ks.length ≤ m.cnt
  se : m.mode = 2 → 0 ≤ m.lo ∧ m.lo + 2 ≤ m.hi ∧ m.hi ≤ m.rest
def rle (ks : List Int) : List (Int × Int) := ks.foldl (fun a k => pushR a 1 k) []
theorem rle_snoc (ks : List Int) (k : Int) : rle (ks ++ [k]) = pushR (rle ks) 1 k := by unfold rle; rw [List.foldl_append]; rfl
theorem pushR_push (l : List (Int × Int)) (n u : Int) : pushR (pushR l n u) 1 u = pushR l (n + 1) u := by
  rcases snocC l with rfl | ⟨i, p, rfl⟩
  · simp [pushR]
  · by_cases h : p.2 = u
    · rw [pushR_same _ _ _ _ h, pushR_same _ _ _ _ h, pushR_same _ _ _ _ rfl]
      simp only [Int.add_assoc]
    · rw [pushR_other _ _ _ _ h, pushR_other _ _ _ _ h, pushR_same _ _ _ _ rfl]
theorem rle_rep (ks : List Int) (k : Int) : ∀ n : Nat, rle (ks ++ List.replicate n k) = if n = 0 then rle ks else pushR (rle ks) n k
  | 0 => by simp
  | n + 1 => by
    rw [List.replicate_succ', ← List.append_assoc, rle_snoc, rle_rep ks k n]
    by_cases h : n = 0
    · subst h
      rfl
    · rw [if_neg h, pushR_push, if_neg (by omega)]
      rfl
theorem snocI {α : Type} (P : List α → Prop) (h0 : P []) (h1 : ∀ l x, P l → P (l ++ [x])) (l : List α) : P l := by
  have h : ∀ n (l : List α), l.length = n → P l := by
    intro n
    induction n with
    | zero => intro l hl; rw [List.eq_nil_of_length_eq_zero hl]; exact h0
    | succ n ih =>
      intro l hl
      rcases snocC l with rfl | ⟨i, p, rfl⟩
      · simp at hl
      · exact h1 i p (ih i (by simpa using hl))
  exact h _ l rfl
theorem rle_sum (ks : List Int) : sumR (rle ks) = ks.length := by
  refine snocI (fun ks => sumR (rle ks) = ks.length) rfl (fun l x ih => ?_) ks
  rw [rle_snoc, pushR_sum, ih]
  simp
theorem rle_ok (ks : List Int) : ks.length ≤ 1024 → RnOk (rle ks) := by
  refine snocI (fun ks => ks.length ≤ 1024 → RnOk (rle ks)) (fun _ => RnOk.nil) (fun l x ih h => ?_) ks
  simp at h
  rw [rle_snoc]
  exact pushR_ok (ih (by omega)) (by decide) (by rw [rle_sum]; omega)
theorem Mp.ok.rn {m : Mp} (h : m.ok) : RnOk (rle m.ks) := rle_ok _ (by have := h.kl; have := h.c1; omega)
structure MpAt (P : Nat → Prop) (W : World) (g : Nat) (m : Mp) (v : Value) (q : Int) : Prop where
  at_ : W.heap[g]? = some (.cells #[.int .i64 m.tb, .int .i64 m.first, .int .i64 m.cnt, .int .i64 m.most, .int .i64 m.mode, .int .i64 m.lo, .int .i64 m.hi, v, .int .i64 q] 234)
  own : Rns 0 W v (rle m.ks)
  pg : P g
  pv : ∀ j, v.ownBlock = some j → P j ∧ j ≠ g
theorem MpAt.lt {P : Nat → Prop} {W : World} {g : Nat} {m : Mp} {v : Value} {q : Int} (h : MpAt P W g m v q) : g < W.heap.size := hpLt h.at_
def BoolPost (w : World) (V : Bool) (r : Ending) (w' : World) : Prop := r = .returned (.bool V) ∧ Below w.heap.size w w'
def IntPost (w : World) (V : Int) (r : Ending) (w' : World) : Prop := r = .returned (.int .i64 V) ∧ Below w.heap.size w w'
set_option maxRecDepth 100000 in
set_option maxHeartbeats 1600000 in
theorem mended_any {P : Nat → Prop} {w : World} {g : Nat} {m : Mp} {v : Value} {q : Int} (h : MpAt P w g m v q) (hm : m.ok) (V : Bool) (hV : Hid (decide (m.rest = 0) = V)) :
    Calls Tryz.prog 173 #[.pointer (some ⟨g, 0, none⟩)] w (BoolPost w V) := by
  have HAT := hid h.at_
  have c7 : ∀ X, Below w.heap.size w X → X.cell? ⟨g, 7, none⟩ = some v := fun X k => hpCell (hpKeep HAT.out k) 7
  have c2 : ∀ X, Below w.heap.size w X → X.cell? ⟨g, 2, none⟩ = some (.int .i64 m.cnt) := fun X k => hpCell (hpKeep HAT.out k) 2
  obtain ⟨s, hs⟩ : ∃ s : Int, (m.ks.length : Int) = s := ⟨_, rfl⟩
  have HLN : Hid (∀ X, Below w.heap.size w X → Calls Tryz.prog 175 #[.agg #[v]] X (IntPost X s)) := fun X hX => by rw [← hs, ← rle_sum]; exact rlen_any v (rle m.ks) X (h.own.keep hX) hm.rn
  have HE : Hid ((s == m.cnt) = V) := by
    show _ = _
    rw [← hV.out, Bool.eq_iff_iff, beq_iff_eq, decide_eq_true_iff]
    unfold Mp.rest
    omega
  have k0 : Below w.heap.size w w := Below.refl _ _
  have kD : Below w.heap.size w w.drew := (Below.refl _ _).drew
  clear h hm hV hs
  go_enter Tryz.func173, Tryz.ntmps173
  go_upto_region 1 with (fail)
  go_region_held3 (fun X => Below w.heap.size w X) ((first | exact k0 | exact kD | assumption)) ((go_at_call 175; (with_reducible refine (HLN.out _ kD).mono ?_); rintro r w2 ⟨rfl, hb2⟩; have hB2 := bt kD hb2 (Nat.le_refl _)))
  go_wp2
  go_ret
  exact ⟨by rw [← HE.out]; rfl, hB2⟩
set_option maxRecDepth 100000 in
set_option maxHeartbeats 1600000 in
theorem msize_any {P : Nat → Prop} {w : World} {g : Nat} {m : Mp} {v : Value} {q : Int} (h : MpAt P w g m v q) (hm : m.ok) (V : Int) (hV : Hid (m.size = V)) :
    Calls Tryz.prog 204 #[.pointer (some ⟨g, 0, none⟩)] w (IntPost w V) := by
  have HAT := hid h.at_
  have c7 : ∀ X, Below w.heap.size w X → X.cell? ⟨g, 7, none⟩ = some v := fun X k => hpCell (hpKeep HAT.out k) 7
  have c2 : ∀ X, Below w.heap.size w X → X.cell? ⟨g, 2, none⟩ = some (.int .i64 m.cnt) := fun X k => hpCell (hpKeep HAT.out k) 2
  have c3 : ∀ X, Below w.heap.size w X → X.cell? ⟨g, 3, none⟩ = some (.int .i64 m.most) := fun X k => hpCell (hpKeep HAT.out k) 3
  have c4 : w.cell? ⟨g, 4, none⟩ = some (.int .i64 m.mode) := hpCell HAT.out 4
  have c5 : w.cell? ⟨g, 5, none⟩ = some (.int .i64 m.lo) := hpCell HAT.out 5
  have c6 : w.cell? ⟨g, 6, none⟩ = some (.int .i64 m.hi) := hpCell HAT.out 6
  obtain ⟨s, hs⟩ : ∃ s : Int, (m.ks.length : Int) = s := ⟨_, rfl⟩
  have HLN : Hid (∀ X, Below w.heap.size w X → Calls Tryz.prog 175 #[.agg #[v]] X (IntPost X s)) := fun X hX => by rw [← hs, ← rle_sum]; exact rlen_any v (rle m.ks) X (h.own.keep hX) hm.rn
  have k0 : Below w.heap.size w w := Below.refl _ _
  have kD : Below w.heap.size w w.drew := (Below.refl _ _).drew
  have hc := hm.c1
  have hc0 := hm.c0
  have hkl := hm.kl
  rw [hs] at hkl
  have hs0 : 0 ≤ s := by omega
  by_cases h1 : m.mode = 1
  · have d1 := b1 h1
    have HV : Hid ((if m.rest < m.most then m.rest else m.most) = V) := by show _ = _; rw [← hV.out]; unfold Mp.size; rw [if_pos h1]
    have sw : IntKind.i64.wrap (m.cnt - s) = m.cnt - s := IntWalk.i64_in _ (by omega)
    have m1 : ∀ ts T W, (Builtin.min_ ts T #[.int .i64 m.most, .int .i64 (m.cnt - s)]).run Tryz.prog W = .ok (.int .i64 V) W := bmin Tryz.prog m.most (m.cnt - s) V (by rw [← hs]; exact HV.out)
    clear h hm hV hs hc hc0 hkl hs0 h1 c5 c6 HV
    go_enter Tryz.func204, Tryz.ntmps204
    go_upto_region 3 with (fail)
    go_region_held3 (fun X => Below w.heap.size w X) ((first | exact k0 | exact kD | assumption)) ((go_at_call 175; (with_reducible refine (HLN.out _ kD).mono ?_); rintro r w2 ⟨rfl, hb2⟩; have hB2 := bt kD hb2 (Nat.le_refl _)))
    go_wp2
    go_ret
    exact ⟨rfl, hB2⟩
  · have d1 := b0 h1
    by_cases h2 : m.mode = 2
    · have d2 := b1 h2
      have HV : Hid ((m.lo + m.hi) / 2 = V) := by show _ = _; rw [← hV.out]; unfold Mp.size; rw [if_neg h1, if_pos h2]
      have hse := hm.se h2
      unfold Mp.rest at hse
      have e1 : 0 ≤ m.lo := hse.1
      have e2 : 0 ≤ m.hi := by omega
      have e3 : m.lo ≤ 512 := by omega
      have e4 : m.hi ≤ 512 := by omega
      have sw : IntKind.i64.wrap (m.lo + m.hi) = m.lo + m.hi := IntWalk.i64_in _ (by omega)
      clear h hm hV hs hc hc0 hkl hs0 h1 h2 hse c2 c3 c7 HLN
      go_enter Tryz.func204, Tryz.ntmps204
      go_upto_region 5 with (fail)
      go_quiet (fail)
      go_wp2
      go_ret
      exact ⟨by rw [← HV.out]; rfl, below_drewN (Below.refl _ _) _⟩
    · have d2 := b0 h2
      have HV : Hid (1 = V) := by show _ = _; rw [← hV.out]; unfold Mp.size; rw [if_neg h1, if_neg h2]
      clear h hm hV hs hc hc0 hkl hs0 h1 h2 c2 c3 c5 c6 c7 HLN
      go_enter Tryz.func204, Tryz.ntmps204
      go_wp2
      go_ret
      exact ⟨by rw [← HV.out]; rfl, Below.refl _ _⟩
end Go.Proofs.YtipnamoocemeeaaGreat
