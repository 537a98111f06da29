/-
  Several texts of this claim in one file.
-/
import Derived.Deep.RegionHeldLaw
import Derived.Test.YtpmidoneoonlcaaGreatMpk
import Derived.Test.YtpmidoneoonlcaaGreatMrk
import Derived.Test.YtpmidoneoonlcaaGreatMrx
/-
Steps by hand through a region that draws its order, where what is held changes on the way. Plain.
-/
namespace Go

section
variable {P : Program} {ops : Array Oper} {Q : Exit → Act → World → Prop} {md : Region.Mode} {S S' : World → Prop}

/-- What is held may be strengthened on the way. -/
theorem wpAnyH_mono (hS : ∀ w, S' w → S w) : ∀ (fuel : Nat) (listed : Array Bool) (a : Act) (w : World), wpAnyH P md ops Q S' fuel listed a w → wpAnyH P md ops Q S fuel listed a w
  | 0, _, _, _, h => h
  | fuel + 1, _, _, _, h => ⟨h.1, fun i hi => wpOp_mono (fun a' w' h' => ⟨hS _ h'.1, wpAnyH_mono hS fuel _ a' w' h'.2⟩) (h.2 i hi)⟩

/-- 'wpAnyH_take' with the slot named. -/
theorem wpAnyH_takeD {i d : Nat} {oi : Oper} {v : Value} {fuel : Nat} {listed : Array Bool} {a : Act} {w : World} (hi : ops[i]? = some oi)
    (hs : Region.noSelect ops = true) (hf : Region.free md ops listed i = true) (hr : (Region.ready md ops listed).contains i = true)
    (hQ : ∀ c a w, Q (.panic c) (a.put oi.dst v) w → Q (.panic c) a w) (hd : oi.dst = some d) (hy : YieldsIf P ops S oi v a) (hS : S w)
    (h : wpAnyH P md ops Q S fuel (listed.setIfInBounds i true) { a with tmps := a.tmps.setIfInBounds d v } w) : wpAnyH P md ops Q S (fuel + 1) listed a w :=
  wpAnyH_take hi hs hf hr hQ hy hS (by rw [hd]; exact h)

/-- The same with its Bools in one, for an operation that is wanted. -/
theorem tkD (i d : Nat) {oi : Oper} {v : Value} {fuel : Nat} {listed : Array Bool} {a : Act} {w : World} (hi : ops[i]? = some oi)
    (hb : (Region.noSelect ops && Region.free md ops listed i && (Region.ready md ops listed).contains i) = true)
    (hQ : ∀ c a w, Q (.panic c) (a.put oi.dst v) w → Q (.panic c) a w) (hd : oi.dst = some d) (hw : Region.wanted oi (yielded ops a.tmps) = true) (hS : S w)
    (hy : ∀ w, S w → (execOp a.eval oi).run P w = .ok (.value v) w)
    (h : wpAnyH P md ops Q S fuel (listed.setIfInBounds i true) { a with tmps := a.tmps.setIfInBounds d v } w) : wpAnyH P md ops Q S (fuel + 1) listed a w := by
  simp only [Bool.and_eq_true] at hb
  exact wpAnyH_takeD hi hb.1.1 hb.1.2 hb.2 hQ hd (.inl ⟨hw, hy⟩) hS h

end
end Go

/-
The reference's frame of a list of characters: what its loop keeps, and its contract.
-/
namespace Go.Proofs.YtpmidoneoonlcaaGreat
open Go.RowKit

theorem ev_take {l : List Ev} {k : Nat} (h : k < l.length) : l.take (k + 1) = l.take k ++ [evAt l k] := by
  rw [List.take_add_one, List.getElem?_eq_getElem h]
  unfold evAt
  rw [List.getD_eq_getElem?_getD, List.getElem?_eq_getElem h]
  rfl
theorem par_take {l : List Ev} {k : Nat} (h : k < l.length) : parB (l.take (k + 1)) = (parB (l.take k) || (andI (evAt l k).fl 1 != 0)) := by
  rw [ev_take h]
  simp [parB]
theorem fra_take {l : List Ev} {k : Nat} (h : k < l.length) : fraB (l.take (k + 1)) = (fraB (l.take k) || (andI (evAt l k).fl 2 != 0)) := by
  rw [ev_take h]
  simp [fraB]
theorem map_take {l : List Ev} {k : Nat} (h : k < l.length) : (l.take (k + 1)).map (·.v) = (l.take k).map (·.v) ++ [(evAt l k).v] := by
  rw [ev_take h, List.map_append]
  rfl

/-- The loop's memory behind k characters. -/
def FrAt (w : World) (b p f1 f2 : Int) (l : List Ev) (k : Nat) (wr : World) : Prop :=
  ∃ a c, wr.heap[w.heap.size]? = some (.cells #[.int .i64 b, .int .i64 p] 24) ∧ wr.heap[w.heap.size + 1]? = some (.cells #[.slice none 0 0, .int .i64 0, .int .i64 0, .int .i64 0] 81) ∧ wr.heap[w.heap.size + 2]? = some (.cells #[.slice a k c, .int .i64 f1, .int .i64 f2, .int .i64 0] 81) ∧
    wr.ownsRow (w.heap.size + 3) 5 1 (.slice a k c) k (u8s ((l.take k).map (·.v))) ∧ Below w.heap.size w wr

/-- What frame answers. -/
def FrOne (w : World) (b : Int) (l : List Ev) (r : Ending) (w' : World) : Prop :=
  ∃ a c f1 f2 fl, r = .returned (.agg #[.slice a l.length c, .int .i64 f1, .int .i64 f2, .int .i64 fl]) ∧ Bs w' (.slice a l.length c) (l.map (·.v)) ∧ (fl = 0 ↔ clearB (charT b) (t15T b) l = true) ∧ Below w.heap.size w w'

theorem FrAt.step {w wr w5 : World} {b p f1 f2 : Int} {l : List Ev} {k : Nat} {a' : Option Addr} {c' : Nat} (h : FrAt w b p f1 f2 l k wr) (hk : k < l.length)
    (h5 : w5.heap[w.heap.size + 2]? = some (.cells #[.slice a' (k + 1) c', .int .i64 f1, .int .i64 f2, .int .i64 0] 81)) (hs : w5.heap[w.heap.size]? = wr.heap[w.heap.size]?) (hz : w5.heap[w.heap.size + 1]? = wr.heap[w.heap.size + 1]?)
    (ho : w5.ownsRow (w.heap.size + 3) 5 1 (.slice a' (k + 1) c') (k + 1) (u8s ((l.take k).map (·.v) ++ [(evAt l k).v]))) (hb : Below w.heap.size wr w5) : FrAt w b p f1 f2 l (k + 1) w5 := by
  obtain ⟨a, c, h1, h2, h3, h4, h6⟩ := h
  refine ⟨a', c', hs.trans h1, hz.trans h2, h5, ?_, h6.trans hb⟩
  rw [map_take hk]
  exact ho

theorem FrAt.below {w wr W : World} {b p f1 f2 : Int} {l : List Ev} {k : Nat} (h : FrAt w b p f1 f2 l k wr) (hbx : Below wr.heap.size wr W) : FrAt w b p f1 f2 l k W := by
  obtain ⟨a3, c3, b1, b2, b3, b4, b5⟩ := h
  exact ⟨a3, c3, hpKeep b1 hbx, hpKeep b2 hbx, hpKeep b3 hbx, own_keeps (F := fun _ => False) b4 (Keeps.of_below hbx) (fun _ _ f => f), bt b5 hbx (Nat.le_refl _)⟩

set_option maxRecDepth 100000 in
set_option maxHeartbeats 6400000 in
theorem rframe_of (b p : Int) (hset : Hid (Okset b p)) (bk n c : Nat) (l : List Ev) (hn : l.length = n) (h0 : 0 < n) (h1 : n ≤ 100) (hbd : ∀ i, i < l.length → 0 ≤ (evAt l i).t ∧ (evAt l i).t ≤ 1500000000) (w : World) (hnc : n ≤ c) (_hcm : c ≤ maxLen)
    (hc : ∀ i, i < l.length → w.cell? ⟨bk, i * 3, none⟩ = some (.int .i64 (evAt l i).t) ∧ w.cell? ⟨bk, i * 3 + 1, none⟩ = some (.int .u8 ((evAt l i).v.toNat : Int)) ∧ w.cell? ⟨bk, i * 3 + 2, none⟩ = some (.int .i64 (evAt l i).fl)) :
    Calls Tryz.prog 71 #[.agg #[.int .i64 b, .int .i64 p], .slice (some ⟨bk, 0, none⟩) n c] w (FrOne w b l) := by
  obtain ⟨i5, hi, hz0, hz1, hz2⟩ := info_parts infoB
  have HC := hid hc
  have HBD := hid hbd
  have HN := hid hn
  obtain ⟨f1, hf1⟩ : ∃ x, (evAt l 0).t = x := ⟨_, rfl⟩
  obtain ⟨f2, hf2⟩ : ∃ x, (evAt l (n - 1)).t = x := ⟨_, rfl⟩
  obtain ⟨j, hj⟩ : ∃ j : Nat, j = n - 1 := ⟨_, rfl⟩
  have e1 : ∀ W, Below w.heap.size w W → W.cell? ⟨bk, 0, none⟩ = some (.int .i64 f1) := fun W h => by rw [← hf1]; exact cell_keep h (HC.out 0 (by have := HN.out; omega)).1
  have e2 : ∀ W, Below w.heap.size w W → W.cell? ⟨bk, j * 3, none⟩ = some (.int .i64 f2) := fun W h => by rw [hj, ← hf2]; exact cell_keep h (HC.out (n - 1) (by have := HN.out; omega)).1
  have s1 : IntKind.i64.wrap ((n : Int) - 1) = (j : Int) := by rw [IntWalk.i64_in _ (by omega)]; omega
  have n1 : (0 : Int) < (n : Int) := by omega
  have n2 : (j : Int) < (n : Int) := by omega
  have n3 : (0 : Int) ≤ (j : Int) := by omega
  have n4 : j < n := by omega
  obtain ⟨W0, hW0⟩ : ∃ W, (w.alloc (.cells #[.int .i64 b, .int .i64 p] 24)).alloc (.cells #[.slice none 0 0, .int .i64 0, .int .i64 0, .int .i64 0] 81) = W := ⟨_, rfl⟩
  have HB0 : Hid (Below w.heap.size w W0 ∧ W0.heap[w.heap.size]? = some (.cells #[.int .i64 b, .int .i64 p] 24) ∧ W0.heap[w.heap.size + 1]? = some (.cells #[.slice none 0 0, .int .i64 0, .int .i64 0, .int .i64 0] 81) ∧ W0.heap.size = w.heap.size + 2) := by
    show _ ∧ _ ∧ _ ∧ _
    rw [← hW0]
    exact ⟨bta (bal' w _) (Nat.le_refl _) _, hpKeep (hpNew w _) (bal' _ _), by have := hpNew (w.alloc (.cells #[.int .i64 b, .int .i64 p] 24)) (.cells #[.slice none 0 0, .int .i64 0, .int .i64 0, .int .i64 0] 81); simpa using this, by simp⟩
  have k1 : W0.cell? ⟨bk, 0, none⟩ = some (.int .i64 f1) := e1 _ HB0.out.1
  have k2 : W0.cell? ⟨bk, j * 3, none⟩ = some (.int .i64 f2) := e2 _ HB0.out.1
  have k3 : ∀ X, (W0.alloc X).cell? ⟨bk, 0, none⟩ = some (.int .i64 f1) := fun X => e1 _ (bta HB0.out.1 (by have := HB0.out.2.2.2; omega) _)
  have k4 : ∀ X, (W0.alloc X).cell? ⟨bk, j * 3, none⟩ = some (.int .i64 f2) := fun X => e2 _ (bta HB0.out.1 (by have := HB0.out.2.2.2; omega) _)
  have HW0 := hid hW0
  have HNC := hid hnc
  clear hW0 hf1 hf2 hj hc hbd hn e1 e2 h0 hnc
  go_enter Tryz.func71, Tryz.ntmps71
  go_upto_region 1 with (fail)
  rw [HW0.out]
  go_region
  have hs0 := HB0.out.2.2.2
  rw [hs0]
  have HF0 : Hid (FrAt w b p f1 f2 l 0 (W0.alloc (.cells #[.slice none 0 0, .int .i64 f1, .int .i64 f2, .int .i64 0] 81)).drew) := by
    obtain ⟨b1, b2, b3, b4⟩ := HB0.out
    have hbD : Below W0.heap.size W0 (W0.alloc (.cells #[.slice none 0 0, .int .i64 f1, .int .i64 f2, .int .i64 0] 81)).drew := (bal' W0 _).drew
    refine ⟨none, 0, hpKeep b2 hbD, hpKeep b3 hbD, ?_, World.ownsRow_nil _ _ _ _, bt b1 hbD (Nat.le_refl _)⟩
    rw [← b4]
    exact hpNew W0 _
  clear k1 k2 k3 k4 s1 n2 n3 n4
  go_wp2_with fail
  go_loopw [6, 7, 8, 9] (fun s6 s7 s8 s9 wr => ∃ k : Nat, k ≤ n ∧ s6 = .bool (parB (l.take k)) ∧ s7 = .bool (fraB (l.take k)) ∧ s8 = .bool (gapN (charT b) (t15T b) l k) ∧ s9 = .int .i64 (k : Int) ∧ Hid (FrAt w b p f1 f2 l k wr)) (fun _ _ _ i _ => n - (intOf i).toNat)
  case atStart => exact ⟨0, Nat.zero_le _, rfl, rfl, rfl, rfl, HF0.out⟩
  case round =>
    obtain ⟨k, hk, rfl, rfl, rfl, rfl, hfr⟩ := hrel
    by_cases hlt : k < n
    · have hkl : (k : Int) < (n : Int) := by omega
      have hk6 : (k : Int) < 256 := by omega
      have hk0 : (0 : Int) ≤ (k : Int) := Int.natCast_nonneg _
      have hkL : k < l.length := by have := HN.out; omega
      obtain ⟨a, c', b1, b2, b3, b4, b5⟩ := hfr.out
      obtain ⟨q0, q1, q2⟩ := HC.out k hkL
      obtain ⟨V, hV⟩ : ∃ V, (evAt l k).v = V := ⟨_, rfl⟩
      obtain ⟨FL, hFL⟩ : ∃ FL, (evAt l k).fl = FL := ⟨_, rfl⟩
      rw [hV] at q1
      rw [hFL] at q2
      have HV := hid hV
      have HFL := hid hFL
      have y0 : wr.cell? ⟨w.heap.size + 2, 0, none⟩ = some (.slice a k c') := hpCell b3 0
      have yA0 : ∀ X, (wr.alloc X).cell? ⟨w.heap.size + 2, 0, none⟩ = some (.slice a k c') := fun X => hpCell (hpKeep b3 (bal' _ X)) 0
      have yv : wr.cell? ⟨bk, k * 3 + 1, none⟩ = some (.int .u8 (V.toNat : Int)) := cell_keep b5 q1
      have hbk : bk < w.heap.size := by
        refine Nat.lt_of_not_le (fun hle => ?_)
        have : w.cell? ⟨bk, k * 3, none⟩ = none := by
          simp only [World.cell?, Array.getElem?_eq_none hle]
        rw [this] at q0
        cases q0
      have own1 := hid b4
      have hsz := hpLt b3
      have hgo : Hid (∀ i, i < 3 → some (w.heap.size + i) ≠ (Value.slice a k c').ownBlock) := fun i hi h => by have := (own1.out.lt _ h.symm).1; omega
      have hko : Hid (some bk ≠ (Value.slice a k c').ownBlock) := fun h => by have := (own1.out.lt _ h.symm).1; omega
      have HB2 : Hid (∀ w2, (wr.alloc (.cells #[.int .u8 (V.toNat : Int)] 5)).drew.grownBy w2 (Value.slice a k c').ownBlock → w2.heap[w.heap.size + 2]? = some (.cells #[.slice a k c', .int .i64 f1, .int .i64 f2, .int .i64 0] 81) ∧ w2.heap[w.heap.size]? = wr.heap[w.heap.size]? ∧ w2.heap[w.heap.size + 1]? = wr.heap[w.heap.size + 1]? ∧ Below w.heap.size wr w2) := fun w2 h => by
        have hbA : Below wr.heap.size wr (wr.alloc (.cells #[.int .u8 (V.toNat : Int)] 5)).drew := (bal' _ _).drew
        have e : ∀ i, i < 3 → w2.heap[w.heap.size + i]? = wr.heap[w.heap.size + i]? := fun i hi => (h.block (w.heap.size + i) (by show _ < (wr.alloc _).heap.size; simp; omega) (hgo.out i hi)).trans (hbA.block _ (by omega))
        exact ⟨(e 2 (by omega)).trans b3, e 0 (by omega), e 1 (by omega), ((hbA.mono (by omega)).grown h (by simp; omega) (fun j hj => by have := (own1.out.lt j hj).1; omega))⟩
      have HFR := hid hfr.out
      have hbA0 : w.heap.size + 3 ≤ wr.heap.size := by omega
      clear hfr hV hFL b1 b2 b3 b4 q0 q1 hsz
      go_upto_region 7 with (fail)
      go_cut [] from 30 to 39 (fun wc => Hid (FrAt w b p f1 f2 l (k + 1) wc))
      case first =>
       go_region_law (refine step_appN rfl (.tmp 31) (.tmp 37) 45 rfl (w.heap.size + 3) 5 i5 (.int .u8 0) 1 1 Tryz.underlying45 hi hz0 hz1 hz2 rfl (by decide) (.slice a k c') k _ rfl (own1.out.alloc _) ⟨wr.heap.size, 0, none⟩ 1 1 [.int .u8 (V.toNat : Int)] rfl rfl (newsNew wr [.int .u8 (V.toNat : Int)] _) (by intro u hu; simp at hu; subst hu; rfl) (by unfold maxLen; omega) (by omega) (by simp; omega) ?_; intro v' w2 hown2 hgr hnew; obtain ⟨a2, c2, rfl⟩ := own_slice hown2; have z0 : w2.cell? ⟨w.heap.size + 2, 0, none⟩ = some (.slice a k c') := hpCell (HB2.out w2 hgr).1 0; have x0 : w2.frozen? ⟨w.heap.size + 2, 0, none⟩ = false := hpFree (HB2.out w2 hgr).1 0)
       all_goals
        have HN2 : Hid (FrAt w b p f1 f2 l (k + 1) (w2.setCell ⟨w.heap.size + 2, 0, none⟩ (.slice a2 (k + 1) c2))) := by
          obtain ⟨d1, d2, d3, d4⟩ := HB2.out w2 hgr
          refine HFR.out.step hkL (hpSetE d1 rfl) ((hpOther (by omega)).trans d2) ((hpOther (by omega)).trans d3) ?_ (d4.setCell (by show w.heap.size ≤ w.heap.size + 2; omega) _)
          rw [HV.out]
          have hu : u8s ((l.take k).map (·.v) ++ [V]) = u8s ((l.take k).map (·.v)) ++ [.int .u8 (V.toNat : Int)] := by simp [u8s, byteV]
          rw [hu]
          exact own_keeps hown2 (setK (p := w.heap.size + 2)) (fun j hj e => by have h1 := (hown2.lt j hj).1; have h2 : j = w.heap.size + 2 := e; omega)
        clear hown2 hgr hnew z0 x0
        go_wp2
        go_meet
        case rel => exact HN2.out
      case rest =>
        have HF1 := hid hcut
        clear hcut y0 yA0 yv own1 HB2
        obtain ⟨a3, c3, b1, b2, b3, b4, b5⟩ := HF1.out
        have q2 : wc.cell? ⟨bk, k * 3 + 2, none⟩ = some (.int .i64 FL) := by rw [← HFL.out]; exact cell_keep b5 (HC.out k hkL).2.2
        have y0 : ∀ W, Below wc.heap.size wc W → W.cell? ⟨w.heap.size, 0, none⟩ = some (.int .i64 b) := fun W h => hpCell (hpKeep b1 h) 0
        have y1 : ∀ W, Below wc.heap.size wc W → W.cell? ⟨w.heap.size, 1, none⟩ = some (.int .i64 p) := fun W h => hpCell (hpKeep b1 h) 1
        have kD : Below wc.heap.size wc wc.drew := (Below.refl _ _).drew
        have HBC := hid b5
        obtain ⟨V1, hV1⟩ : ∃ V1, (bits .and .i64 FL 1 != 0) = V1 := ⟨_, rfl⟩
        obtain ⟨V2, hV2⟩ : ∃ V2, (bits .and .i64 FL 2 != 0) = V2 := ⟨_, rfl⟩
        have HP : Hid (parB (l.take (k + 1)) = (parB (l.take k) || V1)) := by show _ = _; rw [par_take hkL, HFL.out, ← hV1]; rfl
        have HQ : Hid (fraB (l.take (k + 1)) = (fraB (l.take k) || V2)) := by show _ = _; rw [fra_take hkL, HFL.out, ← hV2]; rfl
        obtain ⟨P, hP⟩ : ∃ P, parB (l.take k) = P := ⟨_, rfl⟩
        obtain ⟨Q, hQ⟩ : ∃ Q, fraB (l.take k) = Q := ⟨_, rfl⟩
        obtain ⟨G, hG⟩ : ∃ G, gapN (charT b) (t15T b) l k = G := ⟨_, rfl⟩
        rw [hP] at HP ⊢
        rw [hQ] at HQ ⊢
        rw [hG] at ⊢
        have HG := hid hG
        clear hP hQ hG b1 b2 b3 b4 b5
        go_upto_region 8 with (fail)
        go_cut [6] from 40 to 49 (fun s6 wx => s6 = .bool (P || V1) ∧ wc = wx)
        case first =>
          cases P
          all_goals
            go_wp2
            go_meet
            case rel => exact ⟨rfl, rfl⟩
        case rest =>
         obtain ⟨rfl, rfl⟩ := hcut
         obtain ⟨PV, hPV⟩ : ∃ x, (P || V1) = x := ⟨_, rfl⟩
         rw [hPV] at HP ⊢
         clear hPV
         go_upto_region 9 with (fail)
         go_cut [7] from 50 to 59 (fun s7 wy => s7 = .bool (Q || V2) ∧ wc = wy)
         case first =>
          cases Q
          all_goals
            go_wp2
            go_meet
            case rel => exact ⟨rfl, rfl⟩
         case rest =>
          obtain ⟨rfl, rfl⟩ := hcut
          obtain ⟨QV, hQV⟩ : ∃ x, (Q || V2) = x := ⟨_, rfl⟩
          rw [hQV] at HQ ⊢
          clear hQV
          go_upto_region 10 with (fail)
          cases G with
          | true =>
            have HGT : Hid (gapN (charT b) (t15T b) l (k + 1) = true) := by show (gapN _ _ l k || _) = true; rw [HG.out]; rfl
            go_quiet (fail)
            have HF2 := hid (HF1.out.below (below_drewN (Below.refl _ _) nq))
            go_wp2
            go_roundw
            case rel => exact ⟨k + 1, by omega, by rw [HP.out], by rw [HQ.out], by rw [HGT.out], by go_num, HF2.out⟩
            case measure => simp [intOf]; omega
          | false =>
            by_cases h0k : k = 0
            · have d0 : decide ((0 : Int) < (k : Int)) = false := decide_eq_false (by omega)
              have d0' : decide (0 < k) = false := decide_eq_false (by omega)
              have HGT : Hid (gapN (charT b) (t15T b) l (k + 1) = false) := by show (gapN _ _ l k || (decide (0 < k) && _)) = false; rw [HG.out, decide_eq_false (by omega : ¬ 0 < k)]; rfl
              clear h0k
              go_quiet (fail)
              have HF2 := hid (HF1.out.below (below_drewN (Below.refl _ _) nq))
              go_wp2
              go_roundw
              case rel => exact ⟨k + 1, by omega, by rw [HP.out], by rw [HQ.out], by rw [HGT.out], by go_num, HF2.out⟩
              case measure => simp [intOf]; omega
            · have d0 : decide ((0 : Int) < (k : Int)) = true := decide_eq_true (by omega)
              have d0' : decide (0 < k) = true := decide_eq_true (by omega)
              obtain ⟨j', hj'⟩ : ∃ j', k = j' + 1 := ⟨k - 1, by omega⟩
              obtain ⟨T, hT⟩ : ∃ T, t15T b = T := ⟨_, rfl⟩
              obtain ⟨X, hX⟩ : ∃ X, silE (charT b) l k = X := ⟨_, rfl⟩
              obtain ⟨V3, hV3⟩ : ∃ V3, decide (T < X) = V3 := ⟨_, rfl⟩
              have HGT : Hid (gapN (charT b) (t15T b) l (k + 1) = V3) := by show (gapN _ _ l k || (decide (0 < k) && decide (t15T b < silE (charT b) l k))) = V3; rw [HG.out, decide_eq_true (by omega : 0 < k), hT, hX, hV3]; rfl
              have HT1 : Hid (∀ W, Calls Tryz.prog 85 #[.agg #[.int .i64 b, .int .i64 p]] W fun r w' => r = .returned (.int .i64 T) ∧ Below W.heap.size W w') := fun W => by rw [← hT]; exact rt15_ok b p hset W
              have HS : Hid (∀ W, Below wc.heap.size wc W → Calls Tryz.prog 42 #[.agg #[.int .i64 b, .int .i64 p], .slice (some ⟨bk, 0, none⟩) n c, .int .i64 (k : Int)] W fun r w' => r = .returned (.int .i64 X) ∧ Below W.heap.size W w') := fun W hW => by
                have hw2 := bt HBC.out hW (Nat.le_refl _)
                have := rsil_ok b p hset bk n c j' k _ _ hj' hlt h1 (HBD.out j' (by omega)).1 (by have := (HBD.out j' (by omega)).2; omega) (HBD.out k hkL).1 (by have := (HBD.out k hkL).2; omega) W (cell_keep hw2 (HC.out j' (by omega)).1) (cell_keep hw2 (HC.out k hkL).1)
                rw [← hX]
                unfold silE
                rw [show k - 1 = j' by omega]
                exact this
              clear h0k hj' hT hX
              go_region_held3 (fun W => Below wc.heap.size wc W) ((with_reducible (first | exact kD | assumption))) (first
                | (go_at_call 42; (with_reducible refine (HS.out wc.drew kD).mono ?_); rintro r w4 ⟨rfl, hb4⟩; have hB4 := bt kD hb4 (Nat.le_refl _))
                | (go_at_call 85; (with_reducible refine (HT1.out wc.drew).mono ?_); rintro r w5 ⟨rfl, hb5⟩; have hB5 := bt kD hb5 (Nat.le_refl _))
                | (go_at_call 42; (with_reducible refine (HS.out w5 hB5).mono ?_); rintro r w4 ⟨rfl, hb4⟩; have hBL := bt hB5 hb4 (Nat.le_refl _))
                | (go_at_call 85; (with_reducible refine (HT1.out w4).mono ?_); rintro r w5 ⟨rfl, hb5⟩; have hBL := bt hB4 hb5 (Nat.le_refl _)))
              all_goals
                have HF2 := hid (HF1.out.below (hBL))
                go_wp2
                go_roundw
                case rel => exact ⟨k + 1, by omega, by rw [HP.out], by rw [HQ.out], by rw [HGT.out], by go_num, HF2.out⟩
                case measure => simp [intOf]; omega
    · obtain rfl : k = n := by omega
      have hkn : ¬ (k : Int) < (k : Int) := by omega
      have d256 : decide ((256 : Int) < (k : Int)) = false := decide_eq_false (by omega)
      have htk : l.take k = l := by rw [← HN.out]; exact List.take_length
      rw [htk]
      obtain ⟨a, c', b1, b2, b3, b4, b5⟩ := hfr
      rw [htk] at b4
      obtain ⟨P, hP⟩ : ∃ P, parB l = P := ⟨_, rfl⟩
      obtain ⟨Q, hQ⟩ : ∃ Q, fraB l = Q := ⟨_, rfl⟩
      obtain ⟨G, hG⟩ : ∃ G, gapN (charT b) (t15T b) l k = G := ⟨_, rfl⟩
      rw [hP, hQ, hG]
      have HCL : Hid (clearB (charT b) (t15T b) l = !(P || Q || G)) := by
        show _ = _
        unfold clearB
        rw [hP, hQ, HN.out, hG]
      have hlk : l.length = k := HN.out
      have y0 : wr.cell? ⟨w.heap.size + 2, 0, none⟩ = some (.slice a k c') := hpCell b3 0
      have y1 : wr.cell? ⟨w.heap.size + 2, 1, none⟩ = some (.int .i64 f1) := hpCell b3 1
      have y2 : wr.cell? ⟨w.heap.size + 2, 2, none⟩ = some (.int .i64 f2) := hpCell b3 2
      have y3 : wr.cell? ⟨w.heap.size + 2, 3, none⟩ = some (.int .i64 0) := hpCell b3 3
      have x3 : wr.frozen? ⟨w.heap.size + 2, 3, none⟩ = false := hpFree b3 3
      have o0 : wr.cell? ⟨w.heap.size + 1, 0, none⟩ = some (.slice none 0 0) := hpCell b2 0
      have o1 : wr.cell? ⟨w.heap.size + 1, 1, none⟩ = some (.int .i64 0) := hpCell b2 1
      have o2 : wr.cell? ⟨w.heap.size + 1, 2, none⟩ = some (.int .i64 0) := hpCell b2 2
      have o3 : wr.cell? ⟨w.heap.size + 1, 3, none⟩ = some (.int .i64 0) := hpCell b2 3
      have v0 : wr.frozen? ⟨w.heap.size + 1, 0, none⟩ = false := hpFree b2 0
      have v1 : wr.frozen? ⟨w.heap.size + 1, 1, none⟩ = false := hpFree b2 1
      have v2 : wr.frozen? ⟨w.heap.size + 1, 2, none⟩ = false := hpFree b2 2
      have v3 : wr.frozen? ⟨w.heap.size + 1, 3, none⟩ = false := hpFree b2 3
      have HEND : Hid (∀ (Y w4 : World) (N : Int), Keeps (· = w.heap.size + 2) wr Y → Keeps (· = w.heap.size + 1) Y w4 → (N = 0 ↔ (!(P || Q || G)) = true) → FrOne w b l (.returned (.agg #[.slice a k c', .int .i64 f1, .int .i64 f2, .int .i64 N])) w4) := by
        show ∀ (Y w4 : World) (N : Int), _
        intro Y w4 N h1 h2 h3
        refine ⟨a, c', f1, f2, N, by rw [hlk], ?_, by rw [HCL.out]; exact h3, ?_⟩
        · rw [hlk]
          refine Bs.own (own_keeps (own_keeps b4 h1 ?_) h2 ?_)
          · exact fun j hj e => by have h1 := (b4.lt j hj).1; have h2 : j = w.heap.size + 2 := e; omega
          · exact fun j hj e => by have h1 := (b4.lt j hj).1; have h2 : j = w.heap.size + 1 := e; omega
        · exact b5.trans ((h1.below b5.size (fun j hj e => by have h2 : j = w.heap.size + 2 := e; omega)).trans (h2.below (Nat.le_trans b5.size h1.size) (fun j hj e => by have h2 : j = w.heap.size + 1 := e; omega)))
      have HB5 := hid b5
      have HG2 : Hid (wr.heap[w.heap.size + 2]? = some (.cells #[.slice a k c', .int .i64 f1, .int .i64 f2, .int .i64 0] 81) ∧ wr.heap[w.heap.size + 1]? = some (.cells #[.slice none 0 0, .int .i64 0, .int .i64 0, .int .i64 0] 81)) := ⟨b3, b2⟩
      have HLK := hid hlk
      clear hP hQ hG b1 b2 b3 b4 b5 hlk htk
      cases P <;> cases Q <;> cases G
      · go_wp2
        refine bodyPost_ret (v := .agg #[.slice a k c', .int .i64 f1, .int .i64 f2, .int .i64 0]) (by simp [results, Tryz.results71, go_sem, o0, o1, o2, o3]) rfl ?_
        exact HEND.out _ _ _ (Keeps.refl _ _) (kset' (kset' (kset' (kset' (Keeps.refl _ _) _ _) _ _) _ _) _ _) (by decide)
      · go_wp2
        refine bodyPost_ret (v := .agg #[.slice a k c', .int .i64 f1, .int .i64 f2, .int .i64 4]) (by simp [results, Tryz.results71, go_sem, o0, o1, o2, o3]) rfl ?_
        exact HEND.out _ _ _ (kset' (Keeps.refl _ _) _ _) (kset' (kset' (kset' (kset' (Keeps.refl _ _) _ _) _ _) _ _) _ _) (by decide)
      · go_wp2
        refine bodyPost_ret (v := .agg #[.slice a k c', .int .i64 f1, .int .i64 f2, .int .i64 2]) (by simp [results, Tryz.results71, go_sem, o0, o1, o2, o3]) rfl ?_
        exact HEND.out _ _ _ (kset' (Keeps.refl _ _) _ _) (kset' (kset' (kset' (kset' (Keeps.refl _ _) _ _) _ _) _ _) _ _) (by decide)
      · go_wp2
        refine bodyPost_ret (v := .agg #[.slice a k c', .int .i64 f1, .int .i64 f2, .int .i64 6]) (by simp [results, Tryz.results71, go_sem, o0, o1, o2, o3]) rfl ?_
        exact HEND.out _ _ _ (kset' (kset' (Keeps.refl _ _) _ _) _ _) (kset' (kset' (kset' (kset' (Keeps.refl _ _) _ _) _ _) _ _) _ _) (by decide)
      · go_wp2
        refine bodyPost_ret (v := .agg #[.slice a k c', .int .i64 f1, .int .i64 f2, .int .i64 1]) (by simp [results, Tryz.results71, go_sem, o0, o1, o2, o3]) rfl ?_
        exact HEND.out _ _ _ (kset' (Keeps.refl _ _) _ _) (kset' (kset' (kset' (kset' (Keeps.refl _ _) _ _) _ _) _ _) _ _) (by decide)
      · go_wp2
        refine bodyPost_ret (v := .agg #[.slice a k c', .int .i64 f1, .int .i64 f2, .int .i64 5]) (by simp [results, Tryz.results71, go_sem, o0, o1, o2, o3]) rfl ?_
        exact HEND.out _ _ _ (kset' (kset' (Keeps.refl _ _) _ _) _ _) (kset' (kset' (kset' (kset' (Keeps.refl _ _) _ _) _ _) _ _) _ _) (by decide)
      · go_wp2
        refine bodyPost_ret (v := .agg #[.slice a k c', .int .i64 f1, .int .i64 f2, .int .i64 3]) (by simp [results, Tryz.results71, go_sem, o0, o1, o2, o3]) rfl ?_
        exact HEND.out _ _ _ (kset' (kset' (Keeps.refl _ _) _ _) _ _) (kset' (kset' (kset' (kset' (Keeps.refl _ _) _ _) _ _) _ _) _ _) (by decide)
      · have g2 := HG2.out.1
        have gz := HG2.out.2
        go_upto_region 15 with (fail)
        obtain ⟨W5, hW5⟩ : ∃ W, W = (wr.setCell ⟨w.heap.size + 2, 3, none⟩ (.int .i64 1)).setCell ⟨w.heap.size + 2, 3, none⟩ (.int .i64 3) := ⟨_, rfl⟩
        rw [← hW5]
        have m2 : W5.heap[w.heap.size + 2]? = some (.cells #[.slice a k c', .int .i64 f1, .int .i64 f2, .int .i64 3] 81) := by rw [hW5]; exact hpSetE (hpSetE g2 rfl) rfl
        have mz : W5.heap[w.heap.size + 1]? = some (.cells #[.slice none 0 0, .int .i64 0, .int .i64 0, .int .i64 0] 81) := by rw [hW5]; exact (hpOther (by omega)).trans ((hpOther (by omega)).trans gz)
        have k5 : Keeps (· = w.heap.size + 2) wr W5 := by rw [hW5]; exact kset' (kset' (Keeps.refl _ _) _ _) _ _
        have K5 := hid k5
        clear hW5 k5 y0 y1 y2 y3 x3 o0 o1 o2 o3 v0 v1 v2 v3 g2 gz HG2
        have y0 : W5.cell? ⟨w.heap.size + 2, 0, none⟩ = some (.slice a k c') := hpCell m2 0
        have y1 : W5.cell? ⟨w.heap.size + 2, 1, none⟩ = some (.int .i64 f1) := hpCell m2 1
        have y2 : W5.cell? ⟨w.heap.size + 2, 2, none⟩ = some (.int .i64 f2) := hpCell m2 2
        have y3 : W5.cell? ⟨w.heap.size + 2, 3, none⟩ = some (.int .i64 3) := hpCell m2 3
        have x3 : W5.frozen? ⟨w.heap.size + 2, 3, none⟩ = false := hpFree m2 3
        have o0 : W5.cell? ⟨w.heap.size + 1, 0, none⟩ = some (.slice none 0 0) := hpCell mz 0
        have o1 : W5.cell? ⟨w.heap.size + 1, 1, none⟩ = some (.int .i64 0) := hpCell mz 1
        have o2 : W5.cell? ⟨w.heap.size + 1, 2, none⟩ = some (.int .i64 0) := hpCell mz 2
        have o3 : W5.cell? ⟨w.heap.size + 1, 3, none⟩ = some (.int .i64 0) := hpCell mz 3
        have v0 : W5.frozen? ⟨w.heap.size + 1, 0, none⟩ = false := hpFree mz 0
        have v1 : W5.frozen? ⟨w.heap.size + 1, 1, none⟩ = false := hpFree mz 1
        have v2 : W5.frozen? ⟨w.heap.size + 1, 2, none⟩ = false := hpFree mz 2
        have v3 : W5.frozen? ⟨w.heap.size + 1, 3, none⟩ = false := hpFree mz 3
        clear m2 mz
        go_wp2
        refine bodyPost_ret (v := .agg #[.slice a k c', .int .i64 f1, .int .i64 f2, .int .i64 7]) (by simp [results, Tryz.results71, go_sem, o0, o1, o2, o3]) rfl ?_
        exact HEND.out _ _ _ (kset' K5.out _ _) (kset' (kset' (kset' (kset' (Keeps.refl _ _) _ _) _ _) _ _) _ _) (by decide)

end Go.Proofs.YtpmidoneoonlcaaGreat

/-
The reference's frames of a list of characters that is one frame.
-/
namespace Go.Proofs.YtpmidoneoonlcaaGreat
open Go.RowKit

theorem infoFr : (Tryz.prog.info? 81).map (fun i => (i.zero, i.size, i.bytes)) = some (some (.agg #[.slice none 0 0, .int .i64 0, .int .i64 0, .int .i64 0]), 4, 48) := by kernel_rfl

/-- What Frames answers: one frame. -/
def FsOne (w : World) (b : Int) (l : List Ev) (r : Ending) (w' : World) : Prop :=
  ∃ (k ck : Nat) (a : Option Addr) (ac : Nat) (f1 f2 fl : Int), r = .returned (.slice (some ⟨k, 0, none⟩) 1 ck) ∧ (w'.cell? ⟨k, 0, none⟩ = some (.slice a l.length ac) ∧ w'.cell? ⟨k, 1, none⟩ = some (.int .i64 f1) ∧ w'.cell? ⟨k, 2, none⟩ = some (.int .i64 f2) ∧ w'.cell? ⟨k, 3, none⟩ = some (.int .i64 fl)) ∧
    Bs w' (.slice a l.length ac) (l.map (·.v)) ∧ (fl = 0 ↔ clearB (charT b) (t15T b) l = true) ∧ 1 ≤ ck ∧ Below w.heap.size w w'

/-- The loop's state. -/
def FsRel (w : World) (b p : Int) (l : List Ev) (n : Nat) (o st i : Value) (wr : World) : Prop :=
  (∃ k : Nat, 1 ≤ k ∧ k ≤ n ∧ o = .slice none 0 0 ∧ st = .int .i64 0 ∧ i = .int .i64 (k : Int) ∧ wr.heap[w.heap.size]? = some (.cells #[.int .i64 b, .int .i64 p] 24) ∧ Below w.heap.size w wr) ∨
  (i = .int .i64 ((n : Int) + 1) ∧ FsOne w b l (.returned o) wr)

set_option maxRecDepth 100000 in
set_option maxHeartbeats 6400000 in
theorem rframes_one (b p : Int) (hset : Hid (Okset b p)) (bk n c : Nat) (l : List Ev) (hn : l.length = n) (h0 : 0 < n) (h1 : n ≤ 100) (hok : EvOk (charT b) (t35T b) l) (w : World) (hnc : n ≤ c) (hcm : c ≤ maxLen)
    (hc : ∀ i, i < l.length → w.cell? ⟨bk, i * 3, none⟩ = some (.int .i64 (evAt l i).t) ∧ w.cell? ⟨bk, i * 3 + 1, none⟩ = some (.int .u8 ((evAt l i).v.toNat : Int)) ∧ w.cell? ⟨bk, i * 3 + 2, none⟩ = some (.int .i64 (evAt l i).fl)) :
    Calls Tryz.prog 48 #[.agg #[.int .i64 b, .int .i64 p], .slice (some ⟨bk, 0, none⟩) n c] w (FsOne w b l) := by
  obtain ⟨i5, hi, hz0, hz1, hz2⟩ := info_parts infoFr
  obtain ⟨T, hT⟩ : ∃ T, t35T b = T := ⟨_, rfl⟩
  have HT3 : Hid (∀ W, Calls Tryz.prog 36 #[.agg #[.int .i64 b, .int .i64 p]] W fun r w' => r = .returned (.int .i64 T) ∧ Below W.heap.size W w') := fun W => by rw [← hT]; exact rt35_ok b p hset W
  have HFM : Hid (∀ W, Below w.heap.size w W → Calls Tryz.prog 71 #[.agg #[.int .i64 b, .int .i64 p], .slice (some ⟨bk, 0, none⟩) n c] W (FrOne W b l)) := fun W hW => rframe_of b p hset bk n c l hn h0 h1 hok.bd W hnc hcm (fun i hi => ⟨cell_keep hW (hc i hi).1, cell_keep hW (hc i hi).2.1, cell_keep hW (hc i hi).2.2⟩)
  have HSI : Hid (∀ W (j i : Nat), Below w.heap.size w W → i = j + 1 → i < n → ∃ X, X < T ∧ ∀ W2, Below W.heap.size W W2 → Calls Tryz.prog 42 #[.agg #[.int .i64 b, .int .i64 p], .slice (some ⟨bk, 0, none⟩) n c, .int .i64 (i : Int)] W2 fun r w' => r = .returned (.int .i64 X) ∧ Below W2.heap.size W2 w') := fun W j i hW hji hin => by
    have hin' : i < l.length := by omega
    refine ⟨silE (charT b) l i, hT ▸ hok.gap i (by omega) hin', fun W2 hW2 => ?_⟩
    have hw2 := bt hW hW2 (Nat.le_refl _)
    have := rsil_ok b p hset bk n c j i _ _ hji hin h1 (hok.bd j (by omega)).1 (by have := (hok.bd j (by omega)).2; omega) (hok.bd i hin').1 (by have := (hok.bd i hin').2; omega) W2 (cell_keep hw2 (hc j (by omega)).1) (cell_keep hw2 (hc i hin').1)
    unfold silE
    rw [show i - 1 = j by omega]
    exact this
  have HN := hid hn
  have s0 : IntKind.i64.wrap ((n : Int) + 1) = (n : Int) + 1 := IntWalk.i64_in _ (by omega)
  have hcn : (n : Int) ≤ (c : Int) := by omega
  obtain ⟨W0, hW0⟩ : ∃ W, w.alloc (.cells #[.int .i64 b, .int .i64 p] 24) = W := ⟨_, rfl⟩
  have HW0 := hid hW0
  have HB0 : Hid (Below w.heap.size w W0 ∧ W0.heap[w.heap.size]? = some (.cells #[.int .i64 b, .int .i64 p] 24)) := by
    show _ ∧ _
    rw [← hW0]
    exact ⟨bal' w _, hpNew w _⟩
  clear hW0 hT hc hok hn hset
  go_enter Tryz.func48, Tryz.ntmps48
  go_wp2_with fail
  rw [HW0.out]
  go_loopw [5, 6, 7] (fun o st i wr => FsRel w b p l n o st i wr) (fun _ _ i _ => n + 1 - (intOf i).toNat)
  case atStart => exact .inl ⟨1, Nat.le_refl _, h0, rfl, rfl, rfl, HB0.out.2, HB0.out.1⟩
  case round =>
    rcases hrel with ⟨k, hk1, hkn, rfl, rfl, rfl, hbox, hbr⟩ | ⟨rfl, hone⟩
    · have hk2 : (k : Int) ≤ (n : Int) := by omega
      have y0 : ∀ W, Below wr.heap.size wr W → W.cell? ⟨w.heap.size, 0, none⟩ = some (.int .i64 b) := fun W h => hpCell (hpKeep hbox h) 0
      have y1 : ∀ W, Below wr.heap.size wr W → W.cell? ⟨w.heap.size, 1, none⟩ = some (.int .i64 p) := fun W h => hpCell (hpKeep hbox h) 1
      have kD : Below wr.heap.size wr wr.drew := (Below.refl _ _).drew
      have HBR := hid hbr
      have HBX := hid hbox
      clear hbr hbox
      by_cases hlt : k < n
      · obtain ⟨j, hj⟩ : ∃ j, k = j + 1 := ⟨k - 1, by omega⟩
        obtain ⟨X, hX, HS0⟩ := HSI.out wr j k HBR.out hj hlt
        have HS := hid HS0
        clear HS0 hj
        have d0 : ((k : Int) == (n : Int)) = false := by rw [beq_eq_false_iff_ne]; omega
        have d1 : decide (T ≤ X) = false := decide_eq_false (by omega)
        go_upto_region 6 with (fail)
        go_cut [26] from 14 to 26 (fun s26 wx => s26 = .bool false ∧ Below wr.heap.size wr wx)
        case first =>
          go_region_held3 (fun W => Below wr.heap.size wr W) ((with_reducible (first | exact kD | assumption))) (first
            | (go_at_call 42; (with_reducible refine (HS.out wr.drew kD).mono ?_); rintro r w4 ⟨rfl, hb4⟩; have hB4 := bt kD hb4 (Nat.le_refl _))
            | (go_at_call 36; (with_reducible refine (HT3.out wr.drew).mono ?_); rintro r w5 ⟨rfl, hb5⟩; have hB5 := bt kD hb5 (Nat.le_refl _))
            | (go_at_call 42; (with_reducible refine (HS.out w5 hB5).mono ?_); rintro r w4 ⟨rfl, hb4⟩; have hBL := bt hB5 hb4 (Nat.le_refl _))
            | (go_at_call 36; (with_reducible refine (HT3.out w4).mono ?_); rintro r w5 ⟨rfl, hb5⟩; have hBL := bt hB4 hb5 (Nat.le_refl _)))
          all_goals
            go_wp2
            go_meet
            case rel => exact ⟨rfl, hBL⟩
        case rest =>
          obtain ⟨rfl, hbx⟩ := hcut
          go_wp2
          go_roundw
          case rel => exact .inl ⟨k + 1, by omega, by omega, rfl, rfl, by go_num, hpKeep HBX.out hbx, bt HBR.out hbx (Nat.le_refl _)⟩
          case measure => simp [intOf]; omega
      · obtain rfl : k = n := by omega
        have d0 : ((k : Int) == (k : Int)) = true := beq_self_eq_true _
        go_upto_region 6 with (fail)
        go_cut [26] from 14 to 26 (fun s26 wx => s26 = .bool true ∧ Below wr.heap.size wr wx)
        case first =>
          go_quiet (fail)
          go_wp2
          go_meet
          case rel => exact ⟨rfl, below_drewN (Below.refl _ _) _⟩
        case rest =>
          obtain ⟨rfl, hbx⟩ := hcut
          have x0 : ∀ W, Below wc.heap.size wc W → W.cell? ⟨w.heap.size, 0, none⟩ = some (.int .i64 b) := fun W h => hpCell (hpKeep (hpKeep HBX.out hbx) h) 0
          have x1 : ∀ W, Below wc.heap.size wc W → W.cell? ⟨w.heap.size, 1, none⟩ = some (.int .i64 p) := fun W h => hpCell (hpKeep (hpKeep HBX.out hbx) h) 1
          have HBC : Hid (Below w.heap.size w wc) := bt HBR.out hbx (Nat.le_refl _)
          have HFC := hid (HFM.out wc.drew HBC.out.drew)
          clear y0 y1
          have kD : Below wc.heap.size wc wc.drew := (Below.refl _ _).drew
          have hS0 : Below w.heap.size w wc.drew := HBC.out.drew
          go_upto_region 7 with (fail)
          go_region_held_law (fun W => Below wc.heap.size wc W) (first | exact kD | assumption | exact bta (by assumption) (Nat.le_refl _) _) (first
            | (go_at_call 71; (with_reducible refine HFC.out.mono ?_); rintro r w3 ⟨a, ac, f1, f2, fl, rfl, hbs, hfl, hb3⟩; have hB3 : Below wc.heap.size wc w3 := bt kD hb3 (Nat.le_refl _))
            | (refine step_appN rfl (.tmp 27) (.tmp 34) 92 rfl w3.heap.size 81 i5 _ 4 48 Tryz.underlying92 hi hz0 hz1 hz2 rfl (by decide) (.slice none 0 0) 0 [] rfl (World.ownsRow_nil _ _ _ _) ⟨w3.heap.size, 0, none⟩ 1 1 [.slice a l.length ac, .int .i64 f1, .int .i64 f2, .int .i64 fl] rfl rfl (newsNew w3 [.slice a l.length ac, .int .i64 f1, .int .i64 f2, .int .i64 fl] _) (by intro u hu; simp at hu; rcases hu with rfl | rfl | rfl | rfl <;> rfl) (by unfold maxLen; omega) (by omega) (by simp) ?_; intro v' w5 hown hgr hnew; have hBA : Below wc.heap.size wc (w3.alloc (.cells #[.slice a l.length ac, .int .i64 f1, .int .i64 f2, .int .i64 fl] 81)) := bta hB3 (Nat.le_refl _) _; have hB5 : Below wc.heap.size wc w5 := hBA.grown hgr hBA.size (fun k hk => nomatch hk)))
          all_goals
            try simp only [List.getElem_toArray, List.getElem_cons_succ, List.getElem_cons_zero, List.setIfInBounds_toArray, List.set_cons_zero, List.set_cons_succ]
            obtain ⟨g5, cap5, rfl, hg5, hnc5, hcm5⟩ := own_shapeR hown (by decide)
            have hB35 : Below w3.heap.size w3 w5 := (bal' w3 (.cells #[.slice a l.length ac, .int .i64 f1, .int .i64 f2, .int .i64 fl] 81)).grown hgr (by simp) (fun k hk => nomatch hk)
            have HO5 : Hid (FsOne w b l (.returned (.slice (some ⟨g5, 0, none⟩) 1 cap5)) w5) :=
              ⟨g5, cap5, a, ac, f1, f2, fl, rfl, ⟨by rw [hown.cellAt 0 (by decide)]; rfl, by rw [hown.cellAt 1 (by decide)]; rfl, by rw [hown.cellAt 2 (by decide)]; rfl, by rw [hown.cellAt 3 (by decide)]; rfl⟩, hbs.keep hB35, hfl, hnc5, bt HBC.out hB5 (Nat.le_refl _)⟩
            clear hown hgr hnew hB5 hB3 hBA hb3 hbs hfl hB35 hS0 kD x0 x1
            go_wp2
            go_roundw
            case rel => exact .inr ⟨rfl, HO5.out⟩
            case measure => simp [intOf]
    · have HO := hid hone
      clear hone
      have hn1 : ¬ ((n : Int) + 1 ≤ (n : Int)) := by omega
      go_wp2
      go_ret
      exact HO.out

end Go.Proofs.YtpmidoneoonlcaaGreat

/-
The reference's link: Silence at the end of a frame: where the judged outcome lies, and the stores.
-/
namespace Go.Proofs.YtpmidoneoonlcaaGreat
open Go.RowKit

theorem hpNewD' (w : World) (o : Obj) : (w.alloc o).drew.heap[w.heap.size]? = some o := hpNew w o
theorem below_set9' {B : Nat} {a w : World} {p : Nat} (h : Below B a w) (hp : B ≤ p) (v0 v1 v2 v3 v4 v5 v6 v7 v8 : Value) :
    Below B a (((((((((w.setCell ⟨p, 0, none⟩ v0).setCell ⟨p, 1, none⟩ v1).setCell ⟨p, 2, none⟩ v2).setCell ⟨p, 3, none⟩ v3).setCell ⟨p, 4, none⟩ v4).setCell ⟨p, 5, none⟩ v5).setCell ⟨p, 6, none⟩ v6).setCell ⟨p, 7, none⟩ v7).setCell ⟨p, 8, none⟩ v8) :=
  ((((((((h.setCell hp v0).setCell hp v1).setCell hp v2).setCell hp v3).setCell hp v4).setCell hp v5).setCell hp v6).setCell hp v7).setCell hp v8

/-- Where the judged outcome lies. -/
def RjAt (w2 : World) (O : Oc) (s : Value) (wc : World) : Prop :=
  ∃ (p : Nat) (da : Option Addr) (dc : Nat) (oa : Option Addr) (oc : Nat), s = .pointer (some ⟨p, 0, none⟩) ∧ w2.heap.size ≤ p ∧ wc.heap[p]? = some (.cells #[.int .i64 O.verdict, .int .i64 O.reply.fn, .int .i64 O.reply.exc, .slice da O.reply.data.length dc, .int .i64 O.reply.code, .int .i64 O.reply.level, .bool O.reply.more, .int .i64 O.reply.next, .slice oa O.reply.objs.length oc] 50) ∧ (∀ W, Agree w2.heap.size wc W → RpIs W O.reply da dc oa oc) ∧ Below w2.heap.size w2 wc
theorem rset {p : Nat} {w w1 : World} (h : Keeps (· = p) w w1) (i : Nat) (u : Value) : Keeps (· = p) w (w1.setCell ⟨p, i, none⟩ u) := Keeps.set (F := (· = p)) h ⟨p, i, none⟩ u rfl

set_option maxHeartbeats 800000 in
theorem rgood_chain {W : World} {g : Nat} {s : Rk} (O : Oc) (da : Option Addr) (dc : Nat) (oa : Option Addr) (oc : Nat) (h : RkAt W g s) :
    RkAt (((((((((((W.setCell ⟨g, 5, none⟩ (.int .i64 5)).setCell ⟨g, 20, none⟩ (.int .i64 O.verdict)).setCell ⟨g, 21, none⟩ (.int .i64 O.reply.fn)).setCell ⟨g, 22, none⟩ (.int .i64 O.reply.exc)).setCell ⟨g, 23, none⟩ (.slice da O.reply.data.length dc)).setCell ⟨g, 24, none⟩ (.int .i64 O.reply.code)).setCell ⟨g, 25, none⟩ (.int .i64 O.reply.level)).setCell ⟨g, 26, none⟩ (.bool O.reply.more)).setCell ⟨g, 27, none⟩ (.int .i64 O.reply.next)).setCell ⟨g, 28, none⟩ (.slice oa O.reply.objs.length oc))) g { s with ph := 5, o := O, da := da, dn := O.reply.data.length, dc := dc, oa := oa, on := O.reply.objs.length, oc := oc } ∧ Keeps (· = g) W (((((((((((W.setCell ⟨g, 5, none⟩ (.int .i64 5)).setCell ⟨g, 20, none⟩ (.int .i64 O.verdict)).setCell ⟨g, 21, none⟩ (.int .i64 O.reply.fn)).setCell ⟨g, 22, none⟩ (.int .i64 O.reply.exc)).setCell ⟨g, 23, none⟩ (.slice da O.reply.data.length dc)).setCell ⟨g, 24, none⟩ (.int .i64 O.reply.code)).setCell ⟨g, 25, none⟩ (.int .i64 O.reply.level)).setCell ⟨g, 26, none⟩ (.bool O.reply.more)).setCell ⟨g, 27, none⟩ (.int .i64 O.reply.next)).setCell ⟨g, 28, none⟩ (.slice oa O.reply.objs.length oc))) := by
  refine ⟨?_, (kset' (kset' (kset' (kset' (kset' (kset' (kset' (kset' (kset' (kset' (Keeps.refl _ _) _ _) _ _) _ _) _ _) _ _) _ _) _ _) _ _) _ _) _ _)⟩
  unfold RkAt
  show _ = some (Obj.cells #[.int .i64 s.b, .int .i64 s.p, .int .i64 s.re, .int .i64 s.ti, .int .i64 s.de, .int .i64 5, .int .i64 s.un, .int .i64 s.q.fn, .int .i64 s.q.addr, .int .i64 s.q.qty, .int .i64 s.q.code, .int .i64 s.q.obj, .int .i64 s.now, .int .i64 s.en, .int .i64 s.til, .int .i64 s.la, .slice s.ea s.eln s.ec, .int .i64 s.cnt, .bool s.bad, .bool s.late, .int .i64 O.verdict, .int .i64 O.reply.fn, .int .i64 O.reply.exc, .slice da O.reply.data.length dc, .int .i64 O.reply.code, .int .i64 O.reply.level, .bool O.reply.more, .int .i64 O.reply.next, .slice oa O.reply.objs.length oc] 52)
  refine hpSetE (c := #[.int .i64 s.b, .int .i64 s.p, .int .i64 s.re, .int .i64 s.ti, .int .i64 s.de, .int .i64 5, .int .i64 s.un, .int .i64 s.q.fn, .int .i64 s.q.addr, .int .i64 s.q.qty, .int .i64 s.q.code, .int .i64 s.q.obj, .int .i64 s.now, .int .i64 s.en, .int .i64 s.til, .int .i64 s.la, .slice s.ea s.eln s.ec, .int .i64 s.cnt, .bool s.bad, .bool s.late, .int .i64 O.verdict, .int .i64 O.reply.fn, .int .i64 O.reply.exc, .slice da O.reply.data.length dc, .int .i64 O.reply.code, .int .i64 O.reply.level, .bool O.reply.more, .int .i64 O.reply.next, .slice s.oa s.on s.oc]) ?_ rfl
  refine hpSetE (c := #[.int .i64 s.b, .int .i64 s.p, .int .i64 s.re, .int .i64 s.ti, .int .i64 s.de, .int .i64 5, .int .i64 s.un, .int .i64 s.q.fn, .int .i64 s.q.addr, .int .i64 s.q.qty, .int .i64 s.q.code, .int .i64 s.q.obj, .int .i64 s.now, .int .i64 s.en, .int .i64 s.til, .int .i64 s.la, .slice s.ea s.eln s.ec, .int .i64 s.cnt, .bool s.bad, .bool s.late, .int .i64 O.verdict, .int .i64 O.reply.fn, .int .i64 O.reply.exc, .slice da O.reply.data.length dc, .int .i64 O.reply.code, .int .i64 O.reply.level, .bool O.reply.more, .int .i64 s.o.reply.next, .slice s.oa s.on s.oc]) ?_ rfl
  refine hpSetE (c := #[.int .i64 s.b, .int .i64 s.p, .int .i64 s.re, .int .i64 s.ti, .int .i64 s.de, .int .i64 5, .int .i64 s.un, .int .i64 s.q.fn, .int .i64 s.q.addr, .int .i64 s.q.qty, .int .i64 s.q.code, .int .i64 s.q.obj, .int .i64 s.now, .int .i64 s.en, .int .i64 s.til, .int .i64 s.la, .slice s.ea s.eln s.ec, .int .i64 s.cnt, .bool s.bad, .bool s.late, .int .i64 O.verdict, .int .i64 O.reply.fn, .int .i64 O.reply.exc, .slice da O.reply.data.length dc, .int .i64 O.reply.code, .int .i64 O.reply.level, .bool s.o.reply.more, .int .i64 s.o.reply.next, .slice s.oa s.on s.oc]) ?_ rfl
  refine hpSetE (c := #[.int .i64 s.b, .int .i64 s.p, .int .i64 s.re, .int .i64 s.ti, .int .i64 s.de, .int .i64 5, .int .i64 s.un, .int .i64 s.q.fn, .int .i64 s.q.addr, .int .i64 s.q.qty, .int .i64 s.q.code, .int .i64 s.q.obj, .int .i64 s.now, .int .i64 s.en, .int .i64 s.til, .int .i64 s.la, .slice s.ea s.eln s.ec, .int .i64 s.cnt, .bool s.bad, .bool s.late, .int .i64 O.verdict, .int .i64 O.reply.fn, .int .i64 O.reply.exc, .slice da O.reply.data.length dc, .int .i64 O.reply.code, .int .i64 s.o.reply.level, .bool s.o.reply.more, .int .i64 s.o.reply.next, .slice s.oa s.on s.oc]) ?_ rfl
  refine hpSetE (c := #[.int .i64 s.b, .int .i64 s.p, .int .i64 s.re, .int .i64 s.ti, .int .i64 s.de, .int .i64 5, .int .i64 s.un, .int .i64 s.q.fn, .int .i64 s.q.addr, .int .i64 s.q.qty, .int .i64 s.q.code, .int .i64 s.q.obj, .int .i64 s.now, .int .i64 s.en, .int .i64 s.til, .int .i64 s.la, .slice s.ea s.eln s.ec, .int .i64 s.cnt, .bool s.bad, .bool s.late, .int .i64 O.verdict, .int .i64 O.reply.fn, .int .i64 O.reply.exc, .slice da O.reply.data.length dc, .int .i64 s.o.reply.code, .int .i64 s.o.reply.level, .bool s.o.reply.more, .int .i64 s.o.reply.next, .slice s.oa s.on s.oc]) ?_ rfl
  refine hpSetE (c := #[.int .i64 s.b, .int .i64 s.p, .int .i64 s.re, .int .i64 s.ti, .int .i64 s.de, .int .i64 5, .int .i64 s.un, .int .i64 s.q.fn, .int .i64 s.q.addr, .int .i64 s.q.qty, .int .i64 s.q.code, .int .i64 s.q.obj, .int .i64 s.now, .int .i64 s.en, .int .i64 s.til, .int .i64 s.la, .slice s.ea s.eln s.ec, .int .i64 s.cnt, .bool s.bad, .bool s.late, .int .i64 O.verdict, .int .i64 O.reply.fn, .int .i64 O.reply.exc, .slice s.da s.dn s.dc, .int .i64 s.o.reply.code, .int .i64 s.o.reply.level, .bool s.o.reply.more, .int .i64 s.o.reply.next, .slice s.oa s.on s.oc]) ?_ rfl
  refine hpSetE (c := #[.int .i64 s.b, .int .i64 s.p, .int .i64 s.re, .int .i64 s.ti, .int .i64 s.de, .int .i64 5, .int .i64 s.un, .int .i64 s.q.fn, .int .i64 s.q.addr, .int .i64 s.q.qty, .int .i64 s.q.code, .int .i64 s.q.obj, .int .i64 s.now, .int .i64 s.en, .int .i64 s.til, .int .i64 s.la, .slice s.ea s.eln s.ec, .int .i64 s.cnt, .bool s.bad, .bool s.late, .int .i64 O.verdict, .int .i64 O.reply.fn, .int .i64 s.o.reply.exc, .slice s.da s.dn s.dc, .int .i64 s.o.reply.code, .int .i64 s.o.reply.level, .bool s.o.reply.more, .int .i64 s.o.reply.next, .slice s.oa s.on s.oc]) ?_ rfl
  refine hpSetE (c := #[.int .i64 s.b, .int .i64 s.p, .int .i64 s.re, .int .i64 s.ti, .int .i64 s.de, .int .i64 5, .int .i64 s.un, .int .i64 s.q.fn, .int .i64 s.q.addr, .int .i64 s.q.qty, .int .i64 s.q.code, .int .i64 s.q.obj, .int .i64 s.now, .int .i64 s.en, .int .i64 s.til, .int .i64 s.la, .slice s.ea s.eln s.ec, .int .i64 s.cnt, .bool s.bad, .bool s.late, .int .i64 O.verdict, .int .i64 s.o.reply.fn, .int .i64 s.o.reply.exc, .slice s.da s.dn s.dc, .int .i64 s.o.reply.code, .int .i64 s.o.reply.level, .bool s.o.reply.more, .int .i64 s.o.reply.next, .slice s.oa s.on s.oc]) ?_ rfl
  refine hpSetE (c := #[.int .i64 s.b, .int .i64 s.p, .int .i64 s.re, .int .i64 s.ti, .int .i64 s.de, .int .i64 5, .int .i64 s.un, .int .i64 s.q.fn, .int .i64 s.q.addr, .int .i64 s.q.qty, .int .i64 s.q.code, .int .i64 s.q.obj, .int .i64 s.now, .int .i64 s.en, .int .i64 s.til, .int .i64 s.la, .slice s.ea s.eln s.ec, .int .i64 s.cnt, .bool s.bad, .bool s.late, .int .i64 s.o.verdict, .int .i64 s.o.reply.fn, .int .i64 s.o.reply.exc, .slice s.da s.dn s.dc, .int .i64 s.o.reply.code, .int .i64 s.o.reply.level, .bool s.o.reply.more, .int .i64 s.o.reply.next, .slice s.oa s.on s.oc]) ?_ rfl
  refine hpSetE (c := #[.int .i64 s.b, .int .i64 s.p, .int .i64 s.re, .int .i64 s.ti, .int .i64 s.de, .int .i64 s.ph, .int .i64 s.un, .int .i64 s.q.fn, .int .i64 s.q.addr, .int .i64 s.q.qty, .int .i64 s.q.code, .int .i64 s.q.obj, .int .i64 s.now, .int .i64 s.en, .int .i64 s.til, .int .i64 s.la, .slice s.ea s.eln s.ec, .int .i64 s.cnt, .bool s.bad, .bool s.late, .int .i64 s.o.verdict, .int .i64 s.o.reply.fn, .int .i64 s.o.reply.exc, .slice s.da s.dn s.dc, .int .i64 s.o.reply.code, .int .i64 s.o.reply.level, .bool s.o.reply.more, .int .i64 s.o.reply.next, .slice s.oa s.on s.oc]) ?_ rfl
  exact h

end Go.Proofs.YtpmidoneoonlcaaGreat

/-
The reference's link: Silence at the end of a frame.
-/
namespace Go.Proofs.YtpmidoneoonlcaaGreat
open Go.RowKit

/-- Below, and the frame that Frames answered. -/
def FkS (W1 : World) (fk : Nat) (c0 c1 c2 c3 : Value) (W : World) : Prop := Below W1.heap.size W1 W ∧ W.cell? ⟨fk, 0, none⟩ = some c0 ∧ W.cell? ⟨fk, 1, none⟩ = some c1 ∧ W.cell? ⟨fk, 2, none⟩ = some c2 ∧ W.cell? ⟨fk, 3, none⟩ = some c3
theorem FkS.below {W1 : World} {fk : Nat} {c0 c1 c2 c3 : Value} {W W' : World} (h : FkS W1 fk c0 c1 c2 c3 W) (hb : Below W.heap.size W W') : FkS W1 fk c0 c1 c2 c3 W' :=
  ⟨bt h.1 hb (Nat.le_refl _), cell_keep hb h.2.1, cell_keep hb h.2.2.1, cell_keep hb h.2.2.2.1, cell_keep hb h.2.2.2.2⟩
theorem FkS.set9 {W1 : World} {fk p : Nat} {c0 c1 c2 c3 : Value} {W : World} (h : FkS W1 fk c0 c1 c2 c3 W) (hp : W1.heap.size ≤ p) (hf : fk ≠ p) (v0 v1 v2 v3 v4 v5 v6 v7 v8 : Value) :
    FkS W1 fk c0 c1 c2 c3 (((((((((W.setCell ⟨p, 0, none⟩ v0).setCell ⟨p, 1, none⟩ v1).setCell ⟨p, 2, none⟩ v2).setCell ⟨p, 3, none⟩ v3).setCell ⟨p, 4, none⟩ v4).setCell ⟨p, 5, none⟩ v5).setCell ⟨p, 6, none⟩ v6).setCell ⟨p, 7, none⟩ v7).setCell ⟨p, 8, none⟩ v8) := by
  have hk : Keeps (· = p) W (((((((((W.setCell ⟨p, 0, none⟩ v0).setCell ⟨p, 1, none⟩ v1).setCell ⟨p, 2, none⟩ v2).setCell ⟨p, 3, none⟩ v3).setCell ⟨p, 4, none⟩ v4).setCell ⟨p, 5, none⟩ v5).setCell ⟨p, 6, none⟩ v6).setCell ⟨p, 7, none⟩ v7).setCell ⟨p, 8, none⟩ v8) :=
    rset (rset (rset (rset (rset (rset (rset (rset (rset (Keeps.refl _ W) _ _) _ _) _ _) _ _) _ _) _ _) _ _) _ _) _ _
  exact ⟨below_set9' h.1 hp _ _ _ _ _ _ _ _ _, hk.cell h.2.1 hf, hk.cell h.2.2.1 hf, hk.cell h.2.2.2.1 hf, hk.cell h.2.2.2.2 hf⟩

set_option maxHeartbeats 800000 in
theorem RjAt.set9 {w2 w4 : World} {O : Oc} {p B : Nat} {da oa : Option Addr} {dc oc : Nat} {x0 x1 x2 x3 x4 x5 x6 x7 x8 : Value}
    (g : w4.heap[p]? = some (.cells #[x0, x1, x2, x3, x4, x5, x6, x7, x8] 50)) (hp : w2.heap.size ≤ p) (hb : Below w2.heap.size w2 w4) (hB : p < B) (h2 : w2.heap.size ≤ B) (hI : ∀ W, Agree B w4 W → RpIs W O.reply da dc oa oc) :
    RjAt w2 O (.pointer (some ⟨p, 0, none⟩)) ((((((((((w4.setCell ⟨p, 0, none⟩ (.int .i64 O.verdict)).setCell ⟨p, 1, none⟩ (.int .i64 O.reply.fn)).setCell ⟨p, 2, none⟩ (.int .i64 O.reply.exc)).setCell ⟨p, 3, none⟩ (.slice da O.reply.data.length dc)).setCell ⟨p, 4, none⟩ (.int .i64 O.reply.code)).setCell ⟨p, 5, none⟩ (.int .i64 O.reply.level)).setCell ⟨p, 6, none⟩ (.bool O.reply.more)).setCell ⟨p, 7, none⟩ (.int .i64 O.reply.next)).setCell ⟨p, 8, none⟩ (.slice oa O.reply.objs.length oc))) := by
  refine ⟨p, da, dc, oa, oc, rfl, hp, ?_, fun W hW => ?_, below_set9' hb hp _ _ _ _ _ _ _ _ _⟩
  · have m0 := hpSet g 0 (.int .i64 O.verdict)
    have m1 := hpSet m0 1 (.int .i64 O.reply.fn)
    have m2 := hpSet m1 2 (.int .i64 O.reply.exc)
    have m3 := hpSet m2 3 (.slice da O.reply.data.length dc)
    have m4 := hpSet m3 4 (.int .i64 O.reply.code)
    have m5 := hpSet m4 5 (.int .i64 O.reply.level)
    have m6 := hpSet m5 6 (.bool O.reply.more)
    have m7 := hpSet m6 7 (.int .i64 O.reply.next)
    have m8 := hpSet m7 8 (.slice oa O.reply.objs.length oc)
    rw [m8]
    simp
  · have hk : Keeps (· = p) w4 ((((((((((w4.setCell ⟨p, 0, none⟩ (.int .i64 O.verdict)).setCell ⟨p, 1, none⟩ (.int .i64 O.reply.fn)).setCell ⟨p, 2, none⟩ (.int .i64 O.reply.exc)).setCell ⟨p, 3, none⟩ (.slice da O.reply.data.length dc)).setCell ⟨p, 4, none⟩ (.int .i64 O.reply.code)).setCell ⟨p, 5, none⟩ (.int .i64 O.reply.level)).setCell ⟨p, 6, none⟩ (.bool O.reply.more)).setCell ⟨p, 7, none⟩ (.int .i64 O.reply.next)).setCell ⟨p, 8, none⟩ (.slice oa O.reply.objs.length oc))) := by
      exact rset (rset (rset (rset (rset (rset (rset (rset (rset (Keeps.refl _ w4) _ _) _ _) _ _) _ _) _ _) _ _) _ _) _ _) _ _
    exact hI _ ((Agree.of_keeps hk (fun k e => by have e' : k = p := e; omega)).trans (hW.mono h2))


/-- What Silence leaves where the frame is a right answer. -/
def RkGood (w : World) (g : Nat) (s : Rk) (O : Oc) (r : Ending) (w' : World) : Prop :=
  ∃ (da : Option Addr) (dc : Nat) (oa : Option Addr) (oc : Nat), r = .returned (.int .i64 0) ∧ RkAt w' g { s with now := s.til, ph := 5, o := O, da := da, dn := O.reply.data.length, dc := dc, oa := oa, on := O.reply.objs.length, oc := oc } ∧ (∀ V, Agree w.heap.size w' V → RpIs V O.reply da dc oa oc) ∧ Keeps (· = g) w w'

set_option maxRecDepth 100000 in
set_option maxHeartbeats 12800000 in
theorem rksil_good (g : Nat) (s : Rk) (l : List Ev) (O : Oc) (w : World) (hl : RkAt w g s) (hph : s.ph = 3) (hrow : w.ownsRow (g + 1) 37 3 (.slice s.ea s.eln s.ec) s.eln (evV l)) (hne : l ≠ []) (hlen : l.length ≤ 100) (hok : EvOk (charT s.b) (t35T s.b) l) (hset : Hid (Okset s.b s.p))
    (hO : judgeB crcChk s.un s.q (if clearB (charT s.b) (t15T s.b) l = true then 0 else 1) (l.map (·.v)) = O) (hv : O.verdict = 1 ∨ O.verdict = 2) :
    Calls Tryz.prog 17 #[.pointer (some ⟨g, 0, none⟩)] w (RkGood w g s O) := by
  have n0 := hl.lt; obtain ⟨hnl, bk, ck, hsl, hnc, hcm, hcells⟩ := own_ev hrow hne; simp only [Value.slice.injEq, true_and] at hsl; obtain ⟨hea, hec⟩ := hsl; have hpos : 0 < l.length := List.length_pos_iff.2 hne; obtain ⟨W1, hW1⟩ : ∃ W, w.setCell ⟨g, 12, none⟩ (.int .i64 s.til) = W := ⟨_, rfl⟩; have l1 : RkAt W1 g { s with now := s.til } := (by rw [← hW1]; exact hpSetE hl rfl); have hz1 : W1.heap.size = w.heap.size := (by rw [← hW1]; simp); have k01 : Keeps (· = g) w W1 := (by rw [← hW1]; exact kset' (Keeps.refl _ _) _ _); have hrow1 := own_keeps hrow k01 (fun k hk e => (by have h1 := (hrow.lt k hk).1; have e' : k = g := e; omega)); obtain ⟨-, bk', ck', hsl', -, -, hcells1⟩ := own_ev hrow1 hne; simp only [Value.slice.injEq, true_and] at hsl'; obtain ⟨hea', hec'⟩ := hsl'; rw [hea] at hea'; simp only [Option.some.injEq, Addr.mk.injEq, and_true] at hea'; obtain rfl := hea'
  have HFR : Hid (∀ W, Below W1.heap.size W1 W → Calls Tryz.prog 48 #[.agg #[.int .i64 s.b, .int .i64 s.p], .slice s.ea s.eln s.ec] W (FsOne W s.b l)) := (fun W hW => by rw [hea, hnl]; exact rframes_one s.b s.p hset bk l.length s.ec l rfl hpos hlen hok W (by omega) (by omega) (fun i hi => ⟨cell_keep hW (hcells1 i hi).1, cell_keep hW (hcells1 i hi).2.1, cell_keep hW (hcells1 i hi).2.2⟩))
  have HJ : Hid (∀ W, Below W1.heap.size W1 W → ∀ a ac f1 f2 fl, Bs W (.slice a l.length ac) (l.map (·.v)) → (fl = 0 ↔ clearB (charT s.b) (t15T s.b) l = true) → Calls Tryz.prog 47 #[.int .i64 s.un, .agg #[.int .i64 s.q.fn, .int .i64 s.q.addr, .int .i64 s.q.qty, .int .i64 s.q.code, .int .i64 s.q.obj], .agg #[.slice a l.length ac, .int .i64 f1, .int .i64 f2, .int .i64 fl]] W (OcOne W O)) := (fun W _ a ac f1 f2 fl hb hf => by rw [← hO, ← rchkB_eq, judge_flags rchkB s.un s.q (f := if clearB (charT s.b) (t15T s.b) l = true then 0 else 1) (f' := fl) (by rw [hf]; by_cases hc : clearB (charT s.b) (t15T s.b) l = true <;> simp [hc]) (l.map (·.v))]; exact rjudge_any s.un s.q.fn s.q.addr s.q.qty s.q.code s.q.obj a _ ac f1 f2 fl (l.map (·.v)) W hb)
  have k0 : ∀ W, Below W1.heap.size W1 W → W.cell? ⟨g, 0, none⟩ = some (.int .i64 s.b) := fun W h => (l1.keep h).cell 0; have k1 : ∀ W, Below W1.heap.size W1 W → W.cell? ⟨g, 1, none⟩ = some (.int .i64 s.p) := fun W h => (l1.keep h).cell 1; have k6 : ∀ W, Below W1.heap.size W1 W → W.cell? ⟨g, 6, none⟩ = some (.int .i64 s.un) := fun W h => (l1.keep h).cell 6; have k7 : ∀ W, Below W1.heap.size W1 W → W.cell? ⟨g, 7, none⟩ = some (.int .i64 s.q.fn) := fun W h => (l1.keep h).cell 7; have k8 : ∀ W, Below W1.heap.size W1 W → W.cell? ⟨g, 8, none⟩ = some (.int .i64 s.q.addr) := fun W h => (l1.keep h).cell 8; have k9 : ∀ W, Below W1.heap.size W1 W → W.cell? ⟨g, 9, none⟩ = some (.int .i64 s.q.qty) := fun W h => (l1.keep h).cell 9; have k10 : ∀ W, Below W1.heap.size W1 W → W.cell? ⟨g, 10, none⟩ = some (.int .i64 s.q.code) := fun W h => (l1.keep h).cell 10; have k11 : ∀ W, Below W1.heap.size W1 W → W.cell? ⟨g, 11, none⟩ = some (.int .i64 s.q.obj) := fun W h => (l1.keep h).cell 11; have k16 : ∀ W, Below W1.heap.size W1 W → W.cell? ⟨g, 16, none⟩ = some (.slice s.ea s.eln s.ec) := fun W h => (l1.keep h).cell 16
  have c5 : w.cell? ⟨g, 5, none⟩ = some (.int .i64 3) := by rw [hl.cell 5]; simp [Rk.cells, hph]
  have c12 : w.cell? ⟨g, 12, none⟩ = some (.int .i64 s.now) := hl.cell 12
  have f12 : w.frozen? ⟨g, 12, none⟩ = false := hl.free 12
  have c14 : w.cell? ⟨g, 14, none⟩ = some (.int .i64 s.til) := hl.cell 14
  have HD : Hid ((O.verdict == 1) = true ∨ ((O.verdict == 1) = false ∧ (O.verdict == 2) = true)) := by
    rcases hv with h | h
    · left; rw [h]; rfl
    · right; rw [h]; exact ⟨rfl, rfl⟩
  have kD : Below W1.heap.size W1 W1.drew := (Below.refl _ _).drew
  have HW1 := hid hW1
  have L1 := hid l1
  have HZ := hid hz1
  have K01 := hid k01
  clear hO hv hl hph hrow hne hlen hok hset hnl hnc hcm hcells hea hec hpos hW1 l1 hz1 k01 hrow1 hcells1 hec'
  go_enter Tryz.func17, Tryz.ntmps17
  go_upto_region 7 with (fail)
  rw [HW1.out]
  clear c5 c12 f12 c14
  go_cut [3] from 18 to 44 (fun s3 wc => RjAt W1 O s3 wc)
  case first =>
    refine wp_region_held_drew (S := fun W => Below W1.heap.size W1 W) (by kernel_rfl) kD (fun hH => ?_)
    refine tkD 0 25 (v := ?_) rfl (by kernel_rfl) (fun _ _ _ h => h) rfl (by rfl) (by assumption) ?_ ?_; rotate_left; (intro w hSw; (try dsimp only at hSw); go_simp; try (with_reducible rfl)); simp only [List.setIfInBounds_toArray, List.set_cons_zero, List.set_cons_succ]
    refine tkD 1 26 (v := ?_) rfl (by kernel_rfl) (fun _ _ _ h => h) rfl (by rfl) (by assumption) ?_ ?_; rotate_left; (intro w hSw; (try dsimp only at hSw); go_simp; try (with_reducible rfl)); simp only [List.setIfInBounds_toArray, List.set_cons_zero, List.set_cons_succ]
    refine tkD 2 27 (v := ?_) rfl (by kernel_rfl) (fun _ _ _ h => h) rfl (by rfl) (by assumption) ?_ ?_; rotate_left; (intro w hSw; (try dsimp only at hSw); go_simp; try (with_reducible rfl)); simp only [List.setIfInBounds_toArray, List.set_cons_zero, List.set_cons_succ]
    refine tkD 3 28 (v := ?_) rfl (by kernel_rfl) (fun _ _ _ h => h) rfl (by rfl) (by assumption) ?_ ?_; rotate_left; (intro w hSw; (try dsimp only at hSw); go_simp; try (with_reducible rfl)); simp only [List.setIfInBounds_toArray, List.set_cons_zero, List.set_cons_succ]
    refine tkD 4 29 (v := ?_) rfl (by kernel_rfl) (fun _ _ _ h => h) rfl (by rfl) (by assumption) ?_ ?_; rotate_left; (intro w hSw; (try dsimp only at hSw); go_simp; try (with_reducible rfl)); simp only [List.setIfInBounds_toArray, List.set_cons_zero, List.set_cons_succ]
    refine tkD 5 30 (v := ?_) rfl (by kernel_rfl) (fun _ _ _ h => h) rfl (by rfl) (by assumption) ?_ ?_; rotate_left; (intro w hSw; (try dsimp only at hSw); go_simp; try (with_reducible rfl)); simp only [List.setIfInBounds_toArray, List.set_cons_zero, List.set_cons_succ]
    refine tkD 6 31 (v := ?_) rfl (by kernel_rfl) (fun _ _ _ h => h) rfl (by rfl) (by assumption) ?_ ?_; rotate_left; (intro w hSw; (try dsimp only at hSw); go_simp; try (with_reducible rfl)); simp only [List.setIfInBounds_toArray, List.set_cons_zero, List.set_cons_succ]
    refine tkD 7 32 (v := ?_) rfl (by kernel_rfl) (fun _ _ _ h => h) rfl (by rfl) (by assumption) ?_ ?_; rotate_left; (intro w hSw; (try dsimp only at hSw); go_simp; try (with_reducible rfl)); simp only [List.setIfInBounds_toArray, List.set_cons_zero, List.set_cons_succ]
    refine tkD 8 33 (v := ?_) rfl (by kernel_rfl) (fun _ _ _ h => h) rfl (by rfl) (by assumption) ?_ ?_; rotate_left; (intro w hSw; (try dsimp only at hSw); go_simp; try (with_reducible rfl)); simp only [List.setIfInBounds_toArray, List.set_cons_zero, List.set_cons_succ]
    refine tkD 9 34 (v := ?_) rfl (by kernel_rfl) (fun _ _ _ h => h) rfl (by rfl) (by assumption) ?_ ?_; rotate_left; (intro w hSw; (try dsimp only at hSw); go_simp; try (with_reducible rfl)); simp only [List.setIfInBounds_toArray, List.set_cons_zero, List.set_cons_succ]
    refine tkD 10 35 (v := ?_) rfl (by kernel_rfl) (fun _ _ _ h => h) rfl (by rfl) (by assumption) ?_ ?_; rotate_left; (intro w hSw; (try dsimp only at hSw); go_simp; try (with_reducible rfl)); simp only [List.setIfInBounds_toArray, List.set_cons_zero, List.set_cons_succ]
    refine tkD 11 36 (v := ?_) rfl (by kernel_rfl) (fun _ _ _ h => h) rfl (by rfl) (by assumption) ?_ ?_; rotate_left; (intro w hSw; (try dsimp only at hSw); go_simp; try (with_reducible rfl)); simp only [List.setIfInBounds_toArray, List.set_cons_zero, List.set_cons_succ]
    refine tkD 12 37 (v := ?_) rfl (by kernel_rfl) (fun _ _ _ h => h) rfl (by rfl) (by assumption) ?_ ?_; rotate_left; (intro w hSw; (try dsimp only at hSw); go_simp; try (with_reducible rfl)); simp only [List.setIfInBounds_toArray, List.set_cons_zero, List.set_cons_succ]
    refine tkD 13 38 (v := ?_) rfl (by kernel_rfl) (fun _ _ _ h => h) rfl (by rfl) (by assumption) ?_ ?_; rotate_left; (intro w hSw; (try dsimp only at hSw); go_simp; try (with_reducible rfl)); simp only [List.setIfInBounds_toArray, List.set_cons_zero, List.set_cons_succ]
    refine tkD 14 39 (v := ?_) rfl (by kernel_rfl) (fun _ _ _ h => h) rfl (by rfl) (by assumption) ?_ ?_; rotate_left; (intro w hSw; (try dsimp only at hSw); go_simp; try (with_reducible rfl)); simp only [List.setIfInBounds_toArray, List.set_cons_zero, List.set_cons_succ]
    refine tkD 15 40 (v := ?_) rfl (by kernel_rfl) (fun _ _ _ h => h) rfl (by rfl) (by assumption) ?_ ?_; rotate_left; (intro w hSw; (try dsimp only at hSw); go_simp; try (with_reducible rfl)); simp only [List.setIfInBounds_toArray, List.set_cons_zero, List.set_cons_succ]
    refine wpAnyH_ready (rs := [16, 20]) (by kernel_rfl) (by simp) ?_
    refine AllReadyH.cons rfl (fun K hK => ?_) ?_
    · go_simp
      refine (HFR.out _ (by assumption)).mono ?_; rintro r w3 ⟨fk, fck, fa, fac, fx, fy, fz, rfl, fcells, fbs, fcl, fck1, hb3⟩; have hB3 : Below W1.heap.size W1 w3 := bt (by assumption) hb3 (Nat.le_refl _)
      refine hK.out _ _ hB3 (fun hS3 => ?_)
      clear hK K
      refine wpAnyH_mono (S' := FkS W1 fk (.slice fa l.length fac) (.int .i64 fx) (.int .i64 fy) (.int .i64 fz)) (fun W h => h.1) _ _ _ _ ?_; have hT : FkS W1 fk (.slice fa l.length fac) (.int .i64 fx) (.int .i64 fy) (.int .i64 fz) w3 := ⟨hB3, fcells⟩
      refine tkD 17 42 (v := ?_) rfl (by kernel_rfl) (fun _ _ _ h => h) rfl (by rfl) (by assumption) ?_ ?_; rotate_left; (intro w hSw; (try dsimp only at hSw); go_simp; try (with_reducible rfl)); simp only [List.setIfInBounds_toArray, List.set_cons_zero, List.set_cons_succ]
      refine wpAnyH_takeD (i := 18) (d := 43) (v := ?_) rfl (by kernel_rfl) (by kernel_rfl) (by kernel_rfl) (fun _ _ _ h => h) rfl (Or.inl ⟨by rfl, ?_⟩) (by assumption) ?_; rotate_left; (intro w hSw; obtain ⟨-, x0, x1, x2, x3⟩ := hSw; go_simp; try (with_reducible rfl)); (simp only [List.setIfInBounds_toArray, List.set_cons_zero, List.set_cons_succ])
      refine wpAnyH_ready (rs := [19, 20]) (by kernel_rfl) (by simp) ?_
      refine AllReadyH.cons rfl (fun K hK => ?_) ?_
      · go_simp
        refine (HJ.out w3 hB3 fa fac fx fy fz fbs fcl).mono ?_; rintro r w4 ⟨oda, odc, ooa, ooc, rfl, hI, hb4⟩
        have hT4 := hT.below hb4
        refine hK.out _ _ hT4 (fun hS4 => ?_)
        clear hK K
        refine wpAnyH_ready (rs := [20]) (by kernel_rfl) (by simp) ?_
        refine AllReadyH.cons rfl (fun K hK => ?_) AllReadyH.nil
        go_simp
        refine hK.out _ _ (hT4.below (bal' _ _)) (fun hS5 => ?_)
        clear hK K
        refine wpAnyH_ready (rs := [21]) (by kernel_rfl) (by simp) ?_
        refine AllReadyH.cons rfl (fun K hK => ?_) AllReadyH.nil
        go_simp
        refine hK.out _ _ (hT4.below (bal' _ _)) (fun hS6 => ?_)
        clear hK K
        refine wpAnyH_done (by kernel_rfl) ?_ _
        go_wp2
        go_meet
        case rel => exact ⟨_, oda, odc, ooa, ooc, rfl, Nat.le_trans hB3.size hb4.size, hpNew w4 _, fun V hV => hI V ((Agree.of_below (bal' w4 _)).trans (hV.mono hB3.size)), hT4.below (bal' _ _) |>.1⟩
      · refine AllReadyH.cons rfl (fun K hK => ?_) AllReadyH.nil
        go_simp
        refine hK.out _ _ (hT.below (bal' _ _)) (fun hS4 => ?_)
        clear hK K
        refine wpAnyH_ready (rs := [19]) (by kernel_rfl) (by simp) ?_
        refine AllReadyH.cons rfl (fun K hK => ?_) AllReadyH.nil
        go_simp
        refine (HJ.out _ (hT.below (bal' _ _)).1 fa fac fx fy fz (fbs.keep (bal' _ _)) fcl).mono ?_; rintro r w4 ⟨oda, odc, ooa, ooc, rfl, hI, hb4⟩
        have gz4 := hpKeep (hpNew w3 (.cells #[.int .i64 0, .int .i64 0, .int .i64 0, .slice none 0 0, .int .i64 0, .int .i64 0, .bool false, .int .i64 0, .slice none 0 0] 50)) hb4
        have hT4 := (hT.below (bal' w3 (.cells #[.int .i64 0, .int .i64 0, .int .i64 0, .slice none 0 0, .int .i64 0, .int .i64 0, .bool false, .int .i64 0, .slice none 0 0] 50))).below hb4
        have hff : fk ≠ w3.heap.size := fun e => by have := World.block_lt_of_cell? w3 _ hT.2.1; have e' : fk < w3.heap.size := this; omega
        have z0 := hpCell gz4 0; have z1 := hpCell gz4 1; have z2 := hpCell gz4 2; have z3 := hpCell gz4 3; have z4 := hpCell gz4 4; have z5 := hpCell gz4 5; have z6 := hpCell gz4 6; have z7 := hpCell gz4 7; have z8 := hpCell gz4 8; have y0 := hpFree gz4 0; have y1 := hpFree gz4 1; have y2 := hpFree gz4 2; have y3 := hpFree gz4 3; have y4 := hpFree gz4 4; have y5 := hpFree gz4 5; have y6 := hpFree gz4 6; have y7 := hpFree gz4 7; have y8 := hpFree gz4 8
        refine hK.out _ _ hT4 (fun hS5 => ?_)
        clear hK K
        refine wpAnyH_ready (rs := [21]) (by kernel_rfl) (by simp) ?_
        refine AllReadyH.cons rfl (fun K hK => ?_) AllReadyH.nil
        go_simp
        refine hK.out _ _ (hT4.set9 hB3.size hff _ _ _ _ _ _ _ _ _) (fun hS6 => ?_)
        clear hK K
        refine wpAnyH_done (by kernel_rfl) ?_ _
        go_wp2
        go_meet
        case rel => exact RjAt.set9 gz4 hB3.size hT4.1 (by simp) (by have := hB3.size; simp; omega) hI
    · refine AllReadyH.cons rfl (fun K hK => ?_) AllReadyH.nil
      go_simp
      refine hK.out _ _ (bta (Below.refl _ _) (Nat.le_refl _) _).drew (fun hS2 => ?_)
      clear hK K
      refine wpAnyH_ready (rs := [16]) (by kernel_rfl) (by simp) ?_
      refine AllReadyH.cons rfl (fun K hK => ?_) AllReadyH.nil
      go_simp
      refine (HFR.out _ (by assumption)).mono ?_; rintro r w3 ⟨fk, fck, fa, fac, fx, fy, fz, rfl, fcells, fbs, fcl, fck1, hb3⟩; have hB3 : Below W1.heap.size W1 w3 := bt (by assumption) hb3 (Nat.le_refl _)
      have gz := hpKeep (hpNewD' W1 (.cells #[.int .i64 0, .int .i64 0, .int .i64 0, .slice none 0 0, .int .i64 0, .int .i64 0, .bool false, .int .i64 0, .slice none 0 0] 50)) hb3
      refine hK.out _ _ hB3 (fun hS3 => ?_)
      clear hK K
      refine wpAnyH_mono (S' := FkS W1 fk (.slice fa l.length fac) (.int .i64 fx) (.int .i64 fy) (.int .i64 fz)) (fun W h => h.1) _ _ _ _ ?_; have hT : FkS W1 fk (.slice fa l.length fac) (.int .i64 fx) (.int .i64 fy) (.int .i64 fz) w3 := ⟨hB3, fcells⟩
      refine tkD 17 42 (v := ?_) rfl (by kernel_rfl) (fun _ _ _ h => h) rfl (by rfl) (by assumption) ?_ ?_; rotate_left; (intro w hSw; (try dsimp only at hSw); go_simp; try (with_reducible rfl)); simp only [List.setIfInBounds_toArray, List.set_cons_zero, List.set_cons_succ]
      refine wpAnyH_takeD (i := 18) (d := 43) (v := ?_) rfl (by kernel_rfl) (by kernel_rfl) (by kernel_rfl) (fun _ _ _ h => h) rfl (Or.inl ⟨by rfl, ?_⟩) (by assumption) ?_; rotate_left; (intro w hSw; obtain ⟨-, x0, x1, x2, x3⟩ := hSw; go_simp; try (with_reducible rfl)); (simp only [List.setIfInBounds_toArray, List.set_cons_zero, List.set_cons_succ])
      refine wpAnyH_ready (rs := [19]) (by kernel_rfl) (by simp) ?_
      refine AllReadyH.cons rfl (fun K hK => ?_) AllReadyH.nil
      go_simp
      refine (HJ.out w3 hB3 fa fac fx fy fz fbs fcl).mono ?_; rintro r w4 ⟨oda, odc, ooa, ooc, rfl, hI, hb4⟩
      have gz4 := hpKeep gz hb4
      have hT4 := hT.below hb4
      have hff : fk ≠ W1.heap.size := fun e => by
        have h1 := hT.2.1
        rw [e, hpCell gz 0] at h1
        cases h1
      have z0 := hpCell gz4 0; have z1 := hpCell gz4 1; have z2 := hpCell gz4 2; have z3 := hpCell gz4 3; have z4 := hpCell gz4 4; have z5 := hpCell gz4 5; have z6 := hpCell gz4 6; have z7 := hpCell gz4 7; have z8 := hpCell gz4 8; have y0 := hpFree gz4 0; have y1 := hpFree gz4 1; have y2 := hpFree gz4 2; have y3 := hpFree gz4 3; have y4 := hpFree gz4 4; have y5 := hpFree gz4 5; have y6 := hpFree gz4 6; have y7 := hpFree gz4 7; have y8 := hpFree gz4 8
      refine hK.out _ _ hT4 (fun hS5 => ?_)
      clear hK K
      refine wpAnyH_ready (rs := [21]) (by kernel_rfl) (by simp) ?_
      refine AllReadyH.cons rfl (fun K hK => ?_) AllReadyH.nil
      go_simp
      refine hK.out _ _ (hT4.set9 (Nat.le_refl _) hff _ _ _ _ _ _ _ _ _) (fun hS6 => ?_)
      clear hK K
      refine wpAnyH_done (by kernel_rfl) ?_ _
      go_wp2
      go_meet
      case rel => exact RjAt.set9 gz4 (Nat.le_refl _) hT4.1 (hpLt gz) hB3.size hI
  case rest =>
    obtain ⟨p, da, dc, oa, oc, rfl, hp, gO, hI, hbc⟩ := hcut
    obtain ⟨e0, e1, e2, e3, e4, e5, e6, e7, e8⟩ : wc.cell? ⟨p, 0, none⟩ = some (.int .i64 O.verdict) ∧ wc.cell? ⟨p, 1, none⟩ = some (.int .i64 O.reply.fn) ∧ wc.cell? ⟨p, 2, none⟩ = some (.int .i64 O.reply.exc) ∧ wc.cell? ⟨p, 3, none⟩ = some (.slice da O.reply.data.length dc) ∧ wc.cell? ⟨p, 4, none⟩ = some (.int .i64 O.reply.code) ∧ wc.cell? ⟨p, 5, none⟩ = some (.int .i64 O.reply.level) ∧ wc.cell? ⟨p, 6, none⟩ = some (.bool O.reply.more) ∧ wc.cell? ⟨p, 7, none⟩ = some (.int .i64 O.reply.next) ∧ wc.cell? ⟨p, 8, none⟩ = some (.slice oa O.reply.objs.length oc) := ⟨hpCell gO 0, hpCell gO 1, hpCell gO 2, hpCell gO 3, hpCell gO 4, hpCell gO 5, hpCell gO 6, hpCell gO 7, hpCell gO 8⟩
    have lc : RkAt wc g { s with now := s.til } := L1.out.keep hbc
    have hgp : g ≠ p := by have := HZ.out; omega
    have HI := hid hI
    have HBC := hid hbc
    have LC := hid lc
    have HP := hid hp
    have c5 : wc.cell? ⟨g, 5, none⟩ = some (.int .i64 s.ph) := hpCell lc 5
    have f5 : wc.frozen? ⟨g, 5, none⟩ = false := hpFree lc 5
    have c20 : wc.cell? ⟨g, 20, none⟩ = some (.int .i64 s.o.verdict) := hpCell lc 20
    have f20 : wc.frozen? ⟨g, 20, none⟩ = false := hpFree lc 20
    have c21 : wc.cell? ⟨g, 21, none⟩ = some (.int .i64 s.o.reply.fn) := hpCell lc 21
    have f21 : wc.frozen? ⟨g, 21, none⟩ = false := hpFree lc 21
    have c22 : wc.cell? ⟨g, 22, none⟩ = some (.int .i64 s.o.reply.exc) := hpCell lc 22
    have f22 : wc.frozen? ⟨g, 22, none⟩ = false := hpFree lc 22
    have c23 : wc.cell? ⟨g, 23, none⟩ = some (.slice s.da s.dn s.dc) := hpCell lc 23
    have f23 : wc.frozen? ⟨g, 23, none⟩ = false := hpFree lc 23
    have c24 : wc.cell? ⟨g, 24, none⟩ = some (.int .i64 s.o.reply.code) := hpCell lc 24
    have f24 : wc.frozen? ⟨g, 24, none⟩ = false := hpFree lc 24
    have c25 : wc.cell? ⟨g, 25, none⟩ = some (.int .i64 s.o.reply.level) := hpCell lc 25
    have f25 : wc.frozen? ⟨g, 25, none⟩ = false := hpFree lc 25
    have c26 : wc.cell? ⟨g, 26, none⟩ = some (.bool s.o.reply.more) := hpCell lc 26
    have f26 : wc.frozen? ⟨g, 26, none⟩ = false := hpFree lc 26
    have c27 : wc.cell? ⟨g, 27, none⟩ = some (.int .i64 s.o.reply.next) := hpCell lc 27
    have f27 : wc.frozen? ⟨g, 27, none⟩ = false := hpFree lc 27
    have c28 : wc.cell? ⟨g, 28, none⟩ = some (.slice s.oa s.on s.oc) := hpCell lc 28
    have f28 : wc.frozen? ⟨g, 28, none⟩ = false := hpFree lc 28
    clear hI hbc gO hp lc HJ HFR k0 k1 k6 k7 k8 k9 k10 k11 k16 kD
    rcases HD.out with d1 | ⟨d1, d2⟩
    all_goals
      go_upto_region 9 with (fail)
      go_region
      all_goals
        go_wp2
        go_ret
        obtain ⟨o1, o2⟩ := rgood_chain O da dc oa oc LC.out
        have o3 := kdrew o2
        refine ⟨da, dc, oa, oc, rfl, o1.keep (Below.refl _ _).drew, fun V hV => HI.out V ((Agree.of_keeps o3 (fun k e => ?_)).trans (hV.mono (by rw [HZ.out]; exact Nat.le_refl _))), (K01.out.trans (Keeps.of_below HBC.out) (fun _ _ e => e)).trans o3 (fun _ _ e => e)⟩
        have e' : k = g := e
        have hz := HZ.out
        omega

end Go.Proofs.YtpmidoneoonlcaaGreat

/-
The reference's link: Silence at the end of a frame that is no answer.
-/
namespace Go.Proofs.YtpmidoneoonlcaaGreat
open Go.RowKit

set_option maxRecDepth 100000 in
set_option maxHeartbeats 12800000 in
theorem rksil_wrong (g : Nat) (s : Rk) (l : List Ev) (O : Oc) (w : World) (hl : RkAt w g s) (hph : s.ph = 3) (hrow : w.ownsRow (g + 1) 37 3 (.slice s.ea s.eln s.ec) s.eln (evV l)) (hne : l ≠ []) (hlen : l.length ≤ 100) (hok : EvOk (charT s.b) (t35T s.b) l) (hset : Hid (Okset s.b s.p))
    (hO : judgeB crcChk s.un s.q (if clearB (charT s.b) (t15T s.b) l = true then 0 else 1) (l.map (·.v)) = O) (hv : ¬ (O.verdict = 1 ∨ O.verdict = 2))
    (hx1 : 0 ≤ s.ti) (hx2 : s.ti ≤ 5000000) (hy1 : 0 ≤ s.de) (hy2 : s.de ≤ 5000000) (he1 : 0 ≤ s.en) (he2 : s.en ≤ 1152921504606846976) :
    Calls Tryz.prog 17 #[.pointer (some ⟨g, 0, none⟩)] w (RStep w g { s with now := s.til, bad := s.bad || O.verdict == 4, late := s.late || O.verdict == 5, ph := 4, til := if s.til < s.en + drainT s.b s.ti s.de then s.en + drainT s.b s.ti s.de else s.til }) := by
  obtain ⟨M, hM⟩ : ∃ M, (if s.til < s.en + drainT s.b s.ti s.de then s.en + drainT s.b s.ti s.de else s.til) = M := ⟨_, rfl⟩
  rw [hM]
  have HMM := hid hM
  have HBN : Hid (0 ≤ s.ti ∧ s.ti ≤ 5000000 ∧ 0 ≤ s.de ∧ s.de ≤ 5000000 ∧ 0 ≤ s.en ∧ s.en ≤ 1152921504606846976) := ⟨hx1, hx2, hy1, hy2, he1, he2⟩
  have HST : Hid (Okset s.b s.p) := hset
  obtain ⟨V4, hV4⟩ : ∃ V, (O.verdict == 4) = V := ⟨_, rfl⟩
  obtain ⟨V5, hV5⟩ : ∃ V, (O.verdict == 5) = V := ⟨_, rfl⟩
  rw [hV4, hV5]
  have HV := hid (And.intro hV4 hV5)
  clear hM hx1 hx2 hy1 hy2 he1 he2 hV4 hV5
  have n0 := hl.lt; obtain ⟨hnl, bk, ck, hsl, hnc, hcm, hcells⟩ := own_ev hrow hne; simp only [Value.slice.injEq, true_and] at hsl; obtain ⟨hea, hec⟩ := hsl; have hpos : 0 < l.length := List.length_pos_iff.2 hne; obtain ⟨W1, hW1⟩ : ∃ W, w.setCell ⟨g, 12, none⟩ (.int .i64 s.til) = W := ⟨_, rfl⟩; have l1 : RkAt W1 g { s with now := s.til } := (by rw [← hW1]; exact hpSetE hl rfl); have hz1 : W1.heap.size = w.heap.size := (by rw [← hW1]; simp); have k01 : Keeps (· = g) w W1 := (by rw [← hW1]; exact kset' (Keeps.refl _ _) _ _); have hrow1 := own_keeps hrow k01 (fun k hk e => (by have h1 := (hrow.lt k hk).1; have e' : k = g := e; omega)); obtain ⟨-, bk', ck', hsl', -, -, hcells1⟩ := own_ev hrow1 hne; simp only [Value.slice.injEq, true_and] at hsl'; obtain ⟨hea', hec'⟩ := hsl'; rw [hea] at hea'; simp only [Option.some.injEq, Addr.mk.injEq, and_true] at hea'; obtain rfl := hea'
  have HFR : Hid (∀ W, Below W1.heap.size W1 W → Calls Tryz.prog 48 #[.agg #[.int .i64 s.b, .int .i64 s.p], .slice s.ea s.eln s.ec] W (FsOne W s.b l)) := (fun W hW => by rw [hea, hnl]; exact rframes_one s.b s.p hset bk l.length s.ec l rfl hpos hlen hok W (by omega) (by omega) (fun i hi => ⟨cell_keep hW (hcells1 i hi).1, cell_keep hW (hcells1 i hi).2.1, cell_keep hW (hcells1 i hi).2.2⟩))
  have HJ : Hid (∀ W, Below W1.heap.size W1 W → ∀ a ac f1 f2 fl, Bs W (.slice a l.length ac) (l.map (·.v)) → (fl = 0 ↔ clearB (charT s.b) (t15T s.b) l = true) → Calls Tryz.prog 47 #[.int .i64 s.un, .agg #[.int .i64 s.q.fn, .int .i64 s.q.addr, .int .i64 s.q.qty, .int .i64 s.q.code, .int .i64 s.q.obj], .agg #[.slice a l.length ac, .int .i64 f1, .int .i64 f2, .int .i64 fl]] W (OcOne W O)) := (fun W _ a ac f1 f2 fl hb hf => by rw [← hO, ← rchkB_eq, judge_flags rchkB s.un s.q (f := if clearB (charT s.b) (t15T s.b) l = true then 0 else 1) (f' := fl) (by rw [hf]; by_cases hc : clearB (charT s.b) (t15T s.b) l = true <;> simp [hc]) (l.map (·.v))]; exact rjudge_any s.un s.q.fn s.q.addr s.q.qty s.q.code s.q.obj a _ ac f1 f2 fl (l.map (·.v)) W hb)
  have k0 : ∀ W, Below W1.heap.size W1 W → W.cell? ⟨g, 0, none⟩ = some (.int .i64 s.b) := fun W h => (l1.keep h).cell 0; have k1 : ∀ W, Below W1.heap.size W1 W → W.cell? ⟨g, 1, none⟩ = some (.int .i64 s.p) := fun W h => (l1.keep h).cell 1; have k6 : ∀ W, Below W1.heap.size W1 W → W.cell? ⟨g, 6, none⟩ = some (.int .i64 s.un) := fun W h => (l1.keep h).cell 6; have k7 : ∀ W, Below W1.heap.size W1 W → W.cell? ⟨g, 7, none⟩ = some (.int .i64 s.q.fn) := fun W h => (l1.keep h).cell 7; have k8 : ∀ W, Below W1.heap.size W1 W → W.cell? ⟨g, 8, none⟩ = some (.int .i64 s.q.addr) := fun W h => (l1.keep h).cell 8; have k9 : ∀ W, Below W1.heap.size W1 W → W.cell? ⟨g, 9, none⟩ = some (.int .i64 s.q.qty) := fun W h => (l1.keep h).cell 9; have k10 : ∀ W, Below W1.heap.size W1 W → W.cell? ⟨g, 10, none⟩ = some (.int .i64 s.q.code) := fun W h => (l1.keep h).cell 10; have k11 : ∀ W, Below W1.heap.size W1 W → W.cell? ⟨g, 11, none⟩ = some (.int .i64 s.q.obj) := fun W h => (l1.keep h).cell 11; have k16 : ∀ W, Below W1.heap.size W1 W → W.cell? ⟨g, 16, none⟩ = some (.slice s.ea s.eln s.ec) := fun W h => (l1.keep h).cell 16
  have c5 : w.cell? ⟨g, 5, none⟩ = some (.int .i64 3) := by rw [hl.cell 5]; simp [Rk.cells, hph]
  have c12 : w.cell? ⟨g, 12, none⟩ = some (.int .i64 s.now) := hl.cell 12
  have f12 : w.frozen? ⟨g, 12, none⟩ = false := hl.free 12
  have c14 : w.cell? ⟨g, 14, none⟩ = some (.int .i64 s.til) := hl.cell 14
  have HD : Hid ((O.verdict == 1) = false ∧ (O.verdict == 2) = false) := ⟨by rw [beq_eq_false_iff_ne]; omega, by rw [beq_eq_false_iff_ne]; omega⟩
  have kD : Below W1.heap.size W1 W1.drew := (Below.refl _ _).drew
  have HW1 := hid hW1
  have L1 := hid l1
  have HZ := hid hz1
  have K01 := hid k01
  clear hO hv hl hph hrow hne hlen hok hset hnl hnc hcm hcells hea hec hpos hW1 l1 hz1 k01 hrow1 hcells1 hec'
  go_enter Tryz.func17, Tryz.ntmps17
  go_upto_region 7 with (fail)
  rw [HW1.out]
  clear c5 c12 f12 c14
  go_cut [3] from 18 to 44 (fun s3 wc => RjAt W1 O s3 wc)
  case first =>
    refine wp_region_held_drew (S := fun W => Below W1.heap.size W1 W) (by kernel_rfl) kD (fun hH => ?_)
    refine tkD 0 25 (v := ?_) rfl (by kernel_rfl) (fun _ _ _ h => h) rfl (by rfl) (by assumption) ?_ ?_; rotate_left; (intro w hSw; (try dsimp only at hSw); go_simp; try (with_reducible rfl)); simp only [List.setIfInBounds_toArray, List.set_cons_zero, List.set_cons_succ]
    refine tkD 1 26 (v := ?_) rfl (by kernel_rfl) (fun _ _ _ h => h) rfl (by rfl) (by assumption) ?_ ?_; rotate_left; (intro w hSw; (try dsimp only at hSw); go_simp; try (with_reducible rfl)); simp only [List.setIfInBounds_toArray, List.set_cons_zero, List.set_cons_succ]
    refine tkD 2 27 (v := ?_) rfl (by kernel_rfl) (fun _ _ _ h => h) rfl (by rfl) (by assumption) ?_ ?_; rotate_left; (intro w hSw; (try dsimp only at hSw); go_simp; try (with_reducible rfl)); simp only [List.setIfInBounds_toArray, List.set_cons_zero, List.set_cons_succ]
    refine tkD 3 28 (v := ?_) rfl (by kernel_rfl) (fun _ _ _ h => h) rfl (by rfl) (by assumption) ?_ ?_; rotate_left; (intro w hSw; (try dsimp only at hSw); go_simp; try (with_reducible rfl)); simp only [List.setIfInBounds_toArray, List.set_cons_zero, List.set_cons_succ]
    refine tkD 4 29 (v := ?_) rfl (by kernel_rfl) (fun _ _ _ h => h) rfl (by rfl) (by assumption) ?_ ?_; rotate_left; (intro w hSw; (try dsimp only at hSw); go_simp; try (with_reducible rfl)); simp only [List.setIfInBounds_toArray, List.set_cons_zero, List.set_cons_succ]
    refine tkD 5 30 (v := ?_) rfl (by kernel_rfl) (fun _ _ _ h => h) rfl (by rfl) (by assumption) ?_ ?_; rotate_left; (intro w hSw; (try dsimp only at hSw); go_simp; try (with_reducible rfl)); simp only [List.setIfInBounds_toArray, List.set_cons_zero, List.set_cons_succ]
    refine tkD 6 31 (v := ?_) rfl (by kernel_rfl) (fun _ _ _ h => h) rfl (by rfl) (by assumption) ?_ ?_; rotate_left; (intro w hSw; (try dsimp only at hSw); go_simp; try (with_reducible rfl)); simp only [List.setIfInBounds_toArray, List.set_cons_zero, List.set_cons_succ]
    refine tkD 7 32 (v := ?_) rfl (by kernel_rfl) (fun _ _ _ h => h) rfl (by rfl) (by assumption) ?_ ?_; rotate_left; (intro w hSw; (try dsimp only at hSw); go_simp; try (with_reducible rfl)); simp only [List.setIfInBounds_toArray, List.set_cons_zero, List.set_cons_succ]
    refine tkD 8 33 (v := ?_) rfl (by kernel_rfl) (fun _ _ _ h => h) rfl (by rfl) (by assumption) ?_ ?_; rotate_left; (intro w hSw; (try dsimp only at hSw); go_simp; try (with_reducible rfl)); simp only [List.setIfInBounds_toArray, List.set_cons_zero, List.set_cons_succ]
    refine tkD 9 34 (v := ?_) rfl (by kernel_rfl) (fun _ _ _ h => h) rfl (by rfl) (by assumption) ?_ ?_; rotate_left; (intro w hSw; (try dsimp only at hSw); go_simp; try (with_reducible rfl)); simp only [List.setIfInBounds_toArray, List.set_cons_zero, List.set_cons_succ]
    refine tkD 10 35 (v := ?_) rfl (by kernel_rfl) (fun _ _ _ h => h) rfl (by rfl) (by assumption) ?_ ?_; rotate_left; (intro w hSw; (try dsimp only at hSw); go_simp; try (with_reducible rfl)); simp only [List.setIfInBounds_toArray, List.set_cons_zero, List.set_cons_succ]
    refine tkD 11 36 (v := ?_) rfl (by kernel_rfl) (fun _ _ _ h => h) rfl (by rfl) (by assumption) ?_ ?_; rotate_left; (intro w hSw; (try dsimp only at hSw); go_simp; try (with_reducible rfl)); simp only [List.setIfInBounds_toArray, List.set_cons_zero, List.set_cons_succ]
    refine tkD 12 37 (v := ?_) rfl (by kernel_rfl) (fun _ _ _ h => h) rfl (by rfl) (by assumption) ?_ ?_; rotate_left; (intro w hSw; (try dsimp only at hSw); go_simp; try (with_reducible rfl)); simp only [List.setIfInBounds_toArray, List.set_cons_zero, List.set_cons_succ]
    refine tkD 13 38 (v := ?_) rfl (by kernel_rfl) (fun _ _ _ h => h) rfl (by rfl) (by assumption) ?_ ?_; rotate_left; (intro w hSw; (try dsimp only at hSw); go_simp; try (with_reducible rfl)); simp only [List.setIfInBounds_toArray, List.set_cons_zero, List.set_cons_succ]
    refine tkD 14 39 (v := ?_) rfl (by kernel_rfl) (fun _ _ _ h => h) rfl (by rfl) (by assumption) ?_ ?_; rotate_left; (intro w hSw; (try dsimp only at hSw); go_simp; try (with_reducible rfl)); simp only [List.setIfInBounds_toArray, List.set_cons_zero, List.set_cons_succ]
    refine tkD 15 40 (v := ?_) rfl (by kernel_rfl) (fun _ _ _ h => h) rfl (by rfl) (by assumption) ?_ ?_; rotate_left; (intro w hSw; (try dsimp only at hSw); go_simp; try (with_reducible rfl)); simp only [List.setIfInBounds_toArray, List.set_cons_zero, List.set_cons_succ]
    refine wpAnyH_ready (rs := [16, 20]) (by kernel_rfl) (by simp) ?_
    refine AllReadyH.cons rfl (fun K hK => ?_) ?_
    · go_simp
      refine (HFR.out _ (by assumption)).mono ?_; rintro r w3 ⟨fk, fck, fa, fac, fx, fy, fz, rfl, fcells, fbs, fcl, fck1, hb3⟩; have hB3 : Below W1.heap.size W1 w3 := bt (by assumption) hb3 (Nat.le_refl _)
      refine hK.out _ _ hB3 (fun hS3 => ?_)
      clear hK K
      refine wpAnyH_mono (S' := FkS W1 fk (.slice fa l.length fac) (.int .i64 fx) (.int .i64 fy) (.int .i64 fz)) (fun W h => h.1) _ _ _ _ ?_; have hT : FkS W1 fk (.slice fa l.length fac) (.int .i64 fx) (.int .i64 fy) (.int .i64 fz) w3 := ⟨hB3, fcells⟩
      refine tkD 17 42 (v := ?_) rfl (by kernel_rfl) (fun _ _ _ h => h) rfl (by rfl) (by assumption) ?_ ?_; rotate_left; (intro w hSw; (try dsimp only at hSw); go_simp; try (with_reducible rfl)); simp only [List.setIfInBounds_toArray, List.set_cons_zero, List.set_cons_succ]
      refine wpAnyH_takeD (i := 18) (d := 43) (v := ?_) rfl (by kernel_rfl) (by kernel_rfl) (by kernel_rfl) (fun _ _ _ h => h) rfl (Or.inl ⟨by rfl, ?_⟩) (by assumption) ?_; rotate_left; (intro w hSw; obtain ⟨-, x0, x1, x2, x3⟩ := hSw; go_simp; try (with_reducible rfl)); (simp only [List.setIfInBounds_toArray, List.set_cons_zero, List.set_cons_succ])
      refine wpAnyH_ready (rs := [19, 20]) (by kernel_rfl) (by simp) ?_
      refine AllReadyH.cons rfl (fun K hK => ?_) ?_
      · go_simp
        refine (HJ.out w3 hB3 fa fac fx fy fz fbs fcl).mono ?_; rintro r w4 ⟨oda, odc, ooa, ooc, rfl, hI, hb4⟩
        have hT4 := hT.below hb4
        refine hK.out _ _ hT4 (fun hS4 => ?_)
        clear hK K
        refine wpAnyH_ready (rs := [20]) (by kernel_rfl) (by simp) ?_
        refine AllReadyH.cons rfl (fun K hK => ?_) AllReadyH.nil
        go_simp
        refine hK.out _ _ (hT4.below (bal' _ _)) (fun hS5 => ?_)
        clear hK K
        refine wpAnyH_ready (rs := [21]) (by kernel_rfl) (by simp) ?_
        refine AllReadyH.cons rfl (fun K hK => ?_) AllReadyH.nil
        go_simp
        refine hK.out _ _ (hT4.below (bal' _ _)) (fun hS6 => ?_)
        clear hK K
        refine wpAnyH_done (by kernel_rfl) ?_ _
        go_wp2
        go_meet
        case rel => exact ⟨_, oda, odc, ooa, ooc, rfl, Nat.le_trans hB3.size hb4.size, hpNew w4 _, fun V hV => hI V ((Agree.of_below (bal' w4 _)).trans (hV.mono hB3.size)), hT4.below (bal' _ _) |>.1⟩
      · refine AllReadyH.cons rfl (fun K hK => ?_) AllReadyH.nil
        go_simp
        refine hK.out _ _ (hT.below (bal' _ _)) (fun hS4 => ?_)
        clear hK K
        refine wpAnyH_ready (rs := [19]) (by kernel_rfl) (by simp) ?_
        refine AllReadyH.cons rfl (fun K hK => ?_) AllReadyH.nil
        go_simp
        refine (HJ.out _ (hT.below (bal' _ _)).1 fa fac fx fy fz (fbs.keep (bal' _ _)) fcl).mono ?_; rintro r w4 ⟨oda, odc, ooa, ooc, rfl, hI, hb4⟩
        have gz4 := hpKeep (hpNew w3 (.cells #[.int .i64 0, .int .i64 0, .int .i64 0, .slice none 0 0, .int .i64 0, .int .i64 0, .bool false, .int .i64 0, .slice none 0 0] 50)) hb4
        have hT4 := (hT.below (bal' w3 (.cells #[.int .i64 0, .int .i64 0, .int .i64 0, .slice none 0 0, .int .i64 0, .int .i64 0, .bool false, .int .i64 0, .slice none 0 0] 50))).below hb4
        have hff : fk ≠ w3.heap.size := fun e => by have := World.block_lt_of_cell? w3 _ hT.2.1; have e' : fk < w3.heap.size := this; omega
        have z0 := hpCell gz4 0; have z1 := hpCell gz4 1; have z2 := hpCell gz4 2; have z3 := hpCell gz4 3; have z4 := hpCell gz4 4; have z5 := hpCell gz4 5; have z6 := hpCell gz4 6; have z7 := hpCell gz4 7; have z8 := hpCell gz4 8; have y0 := hpFree gz4 0; have y1 := hpFree gz4 1; have y2 := hpFree gz4 2; have y3 := hpFree gz4 3; have y4 := hpFree gz4 4; have y5 := hpFree gz4 5; have y6 := hpFree gz4 6; have y7 := hpFree gz4 7; have y8 := hpFree gz4 8
        refine hK.out _ _ hT4 (fun hS5 => ?_)
        clear hK K
        refine wpAnyH_ready (rs := [21]) (by kernel_rfl) (by simp) ?_
        refine AllReadyH.cons rfl (fun K hK => ?_) AllReadyH.nil
        go_simp
        refine hK.out _ _ (hT4.set9 hB3.size hff _ _ _ _ _ _ _ _ _) (fun hS6 => ?_)
        clear hK K
        refine wpAnyH_done (by kernel_rfl) ?_ _
        go_wp2
        go_meet
        case rel => exact RjAt.set9 gz4 hB3.size hT4.1 (by simp) (by have := hB3.size; simp; omega) hI
    · refine AllReadyH.cons rfl (fun K hK => ?_) AllReadyH.nil
      go_simp
      refine hK.out _ _ (bta (Below.refl _ _) (Nat.le_refl _) _).drew (fun hS2 => ?_)
      clear hK K
      refine wpAnyH_ready (rs := [16]) (by kernel_rfl) (by simp) ?_
      refine AllReadyH.cons rfl (fun K hK => ?_) AllReadyH.nil
      go_simp
      refine (HFR.out _ (by assumption)).mono ?_; rintro r w3 ⟨fk, fck, fa, fac, fx, fy, fz, rfl, fcells, fbs, fcl, fck1, hb3⟩; have hB3 : Below W1.heap.size W1 w3 := bt (by assumption) hb3 (Nat.le_refl _)
      have gz := hpKeep (hpNewD' W1 (.cells #[.int .i64 0, .int .i64 0, .int .i64 0, .slice none 0 0, .int .i64 0, .int .i64 0, .bool false, .int .i64 0, .slice none 0 0] 50)) hb3
      refine hK.out _ _ hB3 (fun hS3 => ?_)
      clear hK K
      refine wpAnyH_mono (S' := FkS W1 fk (.slice fa l.length fac) (.int .i64 fx) (.int .i64 fy) (.int .i64 fz)) (fun W h => h.1) _ _ _ _ ?_; have hT : FkS W1 fk (.slice fa l.length fac) (.int .i64 fx) (.int .i64 fy) (.int .i64 fz) w3 := ⟨hB3, fcells⟩
      refine tkD 17 42 (v := ?_) rfl (by kernel_rfl) (fun _ _ _ h => h) rfl (by rfl) (by assumption) ?_ ?_; rotate_left; (intro w hSw; (try dsimp only at hSw); go_simp; try (with_reducible rfl)); simp only [List.setIfInBounds_toArray, List.set_cons_zero, List.set_cons_succ]
      refine wpAnyH_takeD (i := 18) (d := 43) (v := ?_) rfl (by kernel_rfl) (by kernel_rfl) (by kernel_rfl) (fun _ _ _ h => h) rfl (Or.inl ⟨by rfl, ?_⟩) (by assumption) ?_; rotate_left; (intro w hSw; obtain ⟨-, x0, x1, x2, x3⟩ := hSw; go_simp; try (with_reducible rfl)); (simp only [List.setIfInBounds_toArray, List.set_cons_zero, List.set_cons_succ])
      refine wpAnyH_ready (rs := [19]) (by kernel_rfl) (by simp) ?_
      refine AllReadyH.cons rfl (fun K hK => ?_) AllReadyH.nil
      go_simp
      refine (HJ.out w3 hB3 fa fac fx fy fz fbs fcl).mono ?_; rintro r w4 ⟨oda, odc, ooa, ooc, rfl, hI, hb4⟩
      have gz4 := hpKeep gz hb4
      have hT4 := hT.below hb4
      have hff : fk ≠ W1.heap.size := fun e => by
        have h1 := hT.2.1
        rw [e, hpCell gz 0] at h1
        cases h1
      have z0 := hpCell gz4 0; have z1 := hpCell gz4 1; have z2 := hpCell gz4 2; have z3 := hpCell gz4 3; have z4 := hpCell gz4 4; have z5 := hpCell gz4 5; have z6 := hpCell gz4 6; have z7 := hpCell gz4 7; have z8 := hpCell gz4 8; have y0 := hpFree gz4 0; have y1 := hpFree gz4 1; have y2 := hpFree gz4 2; have y3 := hpFree gz4 3; have y4 := hpFree gz4 4; have y5 := hpFree gz4 5; have y6 := hpFree gz4 6; have y7 := hpFree gz4 7; have y8 := hpFree gz4 8
      refine hK.out _ _ hT4 (fun hS5 => ?_)
      clear hK K
      refine wpAnyH_ready (rs := [21]) (by kernel_rfl) (by simp) ?_
      refine AllReadyH.cons rfl (fun K hK => ?_) AllReadyH.nil
      go_simp
      refine hK.out _ _ (hT4.set9 (Nat.le_refl _) hff _ _ _ _ _ _ _ _ _) (fun hS6 => ?_)
      clear hK K
      refine wpAnyH_done (by kernel_rfl) ?_ _
      go_wp2
      go_meet
      case rel => exact RjAt.set9 gz4 (Nat.le_refl _) hT4.1 (hpLt gz) hB3.size hI
  case rest =>
    obtain ⟨p, da, dc, oa, oc, rfl, hp, gO, hI, hbc⟩ := hcut
    obtain ⟨e0, e1, e2, e3, e4, e5, e6, e7, e8⟩ : wc.cell? ⟨p, 0, none⟩ = some (.int .i64 O.verdict) ∧ wc.cell? ⟨p, 1, none⟩ = some (.int .i64 O.reply.fn) ∧ wc.cell? ⟨p, 2, none⟩ = some (.int .i64 O.reply.exc) ∧ wc.cell? ⟨p, 3, none⟩ = some (.slice da O.reply.data.length dc) ∧ wc.cell? ⟨p, 4, none⟩ = some (.int .i64 O.reply.code) ∧ wc.cell? ⟨p, 5, none⟩ = some (.int .i64 O.reply.level) ∧ wc.cell? ⟨p, 6, none⟩ = some (.bool O.reply.more) ∧ wc.cell? ⟨p, 7, none⟩ = some (.int .i64 O.reply.next) ∧ wc.cell? ⟨p, 8, none⟩ = some (.slice oa O.reply.objs.length oc) := ⟨hpCell gO 0, hpCell gO 1, hpCell gO 2, hpCell gO 3, hpCell gO 4, hpCell gO 5, hpCell gO 6, hpCell gO 7, hpCell gO 8⟩
    have lc : RkAt wc g { s with now := s.til } := L1.out.keep hbc
    have hgp : g ≠ p := by have := HZ.out; omega
    have HI := hid hI
    have GO := hid gO
    have HBC := hid hbc
    have LC := hid lc
    have c18 : wc.cell? ⟨g, 18, none⟩ = some (.bool s.bad) := hpCell lc 18
    have f18 : wc.frozen? ⟨g, 18, none⟩ = false := hpFree lc 18
    obtain ⟨d1, d2⟩ := HD.out
    clear hI hbc gO hp lc HJ HFR k0 k1 k6 k7 k8 k9 k10 k11 k16 kD HI
    go_upto_region 11 with (fail)
    clear d1 d2
    have KA := hid (K01.out.trans (Keeps.of_below HBC.out) (fun _ _ e => e))
    have d4 : (O.verdict == 4) = V4 := HV.out.1
    go_cut [] from 60 to 71 (fun wd => Hid (RkAt wd g { s with now := s.til, bad := s.bad || V4 } ∧ wd.heap[p]? = some (.cells #[.int .i64 O.verdict, .int .i64 O.reply.fn, .int .i64 O.reply.exc, .slice da O.reply.data.length dc, .int .i64 O.reply.code, .int .i64 O.reply.level, .bool O.reply.more, .int .i64 O.reply.next, .slice oa O.reply.objs.length oc] 50) ∧ Keeps (· = g) w wd))
    case first =>
      obtain ⟨B, hB⟩ : ∃ B, s.bad = B := ⟨_, rfl⟩
      rw [hB] at c18 ⊢
      have HB := hid hB
      clear hB
      cases B
      all_goals
        go_wp2
        go_meet
        case rel => exact ⟨by rw [HB.out]; exact hpSetE LC.out rfl, (hpOther (Ne.symm hgp)).trans GO.out, kset' KA.out _ _⟩
    case rest =>
      obtain ⟨l5, g5, k5⟩ := hcut.out
      have c19 : wc.cell? ⟨g, 19, none⟩ = some (.bool s.late) := l5.cell 19
      have f19 : wc.frozen? ⟨g, 19, none⟩ = false := l5.free 19
      have e0 : wc.cell? ⟨p, 0, none⟩ = some (.int .i64 O.verdict) := hpCell g5 0
      have L5 := hid l5
      have G5 := hid g5
      have K5 := hid k5
      have d5 : (O.verdict == 5) = V5 := HV.out.2
      clear hcut l5 g5 k5 d4
      go_upto_region 12 with (fail)
      go_cut [] from 72 to 83 (fun wd => Hid (RkAt wd g { s with now := s.til, bad := s.bad || V4, late := s.late || V5 } ∧ Keeps (· = g) w wd))
      case first =>
        obtain ⟨B, hB⟩ : ∃ B, s.late = B := ⟨_, rfl⟩
        rw [hB] at c19 ⊢
        have HB := hid hB
        clear hB
        cases B
        all_goals
          go_wp2
          go_meet
          case rel => exact ⟨by rw [HB.out]; exact hpSetE L5.out rfl, kset' K5.out _ _⟩
      case rest =>
        obtain ⟨l6, k6⟩ := hcut.out
        have c14 : wc.cell? ⟨g, 14, none⟩ = some (.int .i64 s.til) := l6.cell 14
        have HDR : Hid (Calls Tryz.prog 43 #[.pointer (some ⟨g, 0, none⟩), .int .i64 s.til] wc (fun r w' => r = .returned (.tuple #[]) ∧ RkAt w' g { s with now := s.til, bad := s.bad || V4, late := s.late || V5, ph := 4, til := M } ∧ Keeps (· = g) wc w')) := by
          rw [← HMM.out]
          obtain ⟨hx1, hx2, hy1, hy2, he1, he2⟩ := HBN.out
          exact rkdrain g { s with now := s.til, bad := s.bad || V4, late := s.late || V5 } s.til wc l6 HST hx1 hx2 hy1 hy2 he1 he2
        have K6 := hid k6
        clear hcut l6 k6 c19 f19 e0 d5
        go_wp2_with fail
        refine HDR.out.mono ?_
        rintro r w6 ⟨rfl, l7, k7⟩
        go_wp2
        go_ret
        exact ⟨rfl, l7, K6.out.trans k7 (fun _ _ e => e)⟩

end Go.Proofs.YtpmidoneoonlcaaGreat
