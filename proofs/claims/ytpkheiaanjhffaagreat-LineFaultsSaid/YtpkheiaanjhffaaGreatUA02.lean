/-
  Texts A2 of the claim.
-/
import Derived.Test.YtpkheiaanjhffaaGreatU06
import Derived.Test.YtpkheiaanjhffaaGreatUA01
import Derived.Deep.CutBlock
import Derived.Test.YtpkheiaanjhffaaGreatU07
namespace Go.Proofs.YtpkheiaanjhffaaGreat
open Go.RowKit
theorem bitsL_same {t a v : Int} {N i : Nat} (h : i / 8 < N) (hb : bitV t a v i = 0) : bitsL t a v N (i + 1) = bitsL t a v N i := by
  rw [← bitsL_set h, hb, Nat.zero_mul, Nat.add_zero]
  refine List.ext_getElem? fun k => ?_
  rw [List.getElem?_set]
  by_cases h1 : i / 8 = k
  · subst h1
    rw [if_pos rfl, if_pos (by rw [bitsL_len]; exact h), bitsL_cur h]
  · rw [if_neg h1]
theorem bitsL_put {t a v : Int} {N i : Nat} (h : i / 8 < N) (hb : bitV t a v i = 1) : (bitsL t a v N i).set (i / 8) (UInt8.ofNat (((bitsL t a v N i)[i / 8]?.getD 0).toNat + 2 ^ (i % 8))) = bitsL t a v N (i + 1) := by
  rw [← bitsL_set h, hb, Nat.one_mul, bitsL_cur h]
  have h1 := bval_lt t a v (i / 8) (i % 8)
  have h2 : 2 ^ (i % 8) ≤ 2 ^ 7 := Nat.pow_le_pow_right (by decide) (by omega)
  have h3 : (UInt8.ofNat (bval t a v (i / 8) (i % 8))).toNat = bval t a v (i / 8) (i % 8) := by rw [UInt8.toNat_ofNat']; exact Nat.mod_eq_of_lt (by omega)
  show List.set _ _ (UInt8.ofNat ((UInt8.ofNat (bval t a v (i / 8) (i % 8))).toNat + 2 ^ (i % 8))) = _
  rw [h3]
theorem bitV_of {t a v : Int} {i : Nat} {n : Int} (hn : n = wordV t (a + (i : Nat)) v) : (bitV t a v i = 1 ↔ n.tmod 2 = 1) ∧ (bitV t a v i = 0 ↔ ¬ n.tmod 2 = 1) := by
  subst hn
  have h := (wordV_bd t (a + (i : Nat)) v).1
  unfold bitV
  rw [Int.tmod_eq_emod_of_nonneg h]
  omega
set_option maxRecDepth 100000 in
set_option maxHeartbeats 1600000 in
theorem rg_range (a n : Int) (h0 : 0 ≤ a) (h1 : 1 ≤ n) (h2 : a + n ≤ 65536) (w : World) :
    Calls Tryz.prog 95 #[.agg #[.int .i64 a, .int .i64 n]] w (BoolPost w true) := by
  have hb := bal' w (.cells #[.int .i64 a, .int .i64 n] 130)
  obtain ⟨f, hf⟩ : ∃ f, 65536 - a = f := ⟨_, rfl⟩
  have s1 : IntKind.i64.wrap (65536 - a) = f := (IntWalk.i64_in _ (by omega)).trans hf
  have a1 : 0 ≤ a := h0
  have a2 : a < 65536 := by omega
  have a3 : 1 ≤ n := h1
  have a4 : n ≤ f := by omega
  have d4 : decide (n ≤ f) = true := decide_eq_true a4
  clear hf h2
  go_enter Tryz.func95, Tryz.ntmps95
  go_wp2
  go_ret
  exact ⟨by first | rfl | (simp [a1, a2, a3, a4]), hb⟩
theorem inR_snoc {l : List (Int × Int)} {k : Nat} {x : Int × Int} (hx : l[k]? = some x) (a : Int) : inR (l.take (k + 1)) a = (inR (l.take k) a || (decide (x.1 ≤ a) && decide (a - x.1 < x.2))) := by
  rw [List.take_add_one, hx]
  unfold inR
  rw [List.any_append]
  simp
def CovPost (w : World) (P : Prop) (r : Ending) (w' : World) : Prop := ∃ V : Bool, r = .returned (.bool V) ∧ (V = true ↔ P) ∧ Below w.heap.size w w'
set_option maxRecDepth 100000 in
set_option maxHeartbeats 6400000 in
theorem rgs_covers (v : Value) (l : List (Int × Int)) (hgd : rgsFrom (-1) l = true) (a n : Int) (h0 : 0 ≤ a) (h1 : 1 ≤ n) (h2 : a + n ≤ 65536) (w : World) (hl : Rgs w v l) :
    Calls Tryz.prog 73 #[v, .agg #[.int .i64 a, .int .i64 n]] w (CovPost w (allR l a n.toNat)) := by
  obtain ⟨W0, hW0⟩ : ∃ W, w.alloc (.cells #[.int .i64 a, .int .i64 n] 130) = W := ⟨_, rfl⟩
  have hb0 : Below w.heap.size w W0 := by rw [← hW0]; exact bal' w _
  have p0 : W0.heap[w.heap.size]? = some (.cells #[.int .i64 a, .int .i64 n] 130) := by rw [← hW0]; exact hpNew w _
  have y0 : ∀ X, Below W0.heap.size W0 X → X.cell? ⟨w.heap.size, 0, none⟩ = some (.int .i64 a) := fun X h => hpCell (hpKeep p0 h) 0
  have y1 : ∀ X, Below W0.heap.size W0 X → X.cell? ⟨w.heap.size, 1, none⟩ = some (.int .i64 n) := fun X h => hpCell (hpKeep p0 h) 1
  have HRG : Hid (∀ X, Calls Tryz.prog 95 #[.agg #[.int .i64 a, .int .i64 n]] X (BoolPost X true)) := fun X => rg_range a n h0 h1 h2 X
  have HVL : Hid (∀ X, Below W0.heap.size W0 X → Calls Tryz.prog 67 #[v] X (BoolPost X true)) := fun X hX => rgs_valid v l X (hl.keep (bt hb0 hX (Nat.le_refl _))) true hgd
  have HL := hid (hl.keep hb0)
  have HGD := hid hgd
  obtain ⟨sa, c, rfl, hnc, hcm, -⟩ := id hl
  obtain ⟨m, hm⟩ : ∃ n, l.length = n := ⟨_, rfl⟩
  have HM := hid hm
  obtain ⟨E, hE⟩ : ∃ e, a + n = e := ⟨_, rfl⟩
  have sE : IntKind.i64.wrap (a + n) = E := (IntWalk.i64_in _ (by omega)).trans hE
  obtain ⟨N, hN⟩ : ∃ N, n.toNat = N := ⟨_, rfl⟩
  have HNN : Hid (E = a + (N : Nat)) := by show _ = _; omega
  rw [hm] at hnc HVL ⊢
  rw [hN]
  have HW0 := hid hW0
  have HB0 := hid hb0
  have k0 : Below W0.heap.size W0 W0 := Below.refl _ _
  have H0 := hid h0
  have H2 := hid (show E ≤ 65536 by omega)
  clear hl hm hgd hW0 hb0 p0 hE hN h0 h1 h2
  go_enter Tryz.func73, Tryz.ntmps73
  go_upto_region 1 with (fail)
  rw [HW0.out]
  go_upto_region 3 with (first
    | (go_at_call 95; (with_reducible refine (HRG.out _).mono ?_); rintro r w1 ⟨rfl, hb1⟩; have hB1 := bt k0 hb1 (Nat.le_refl _))
    | (go_at_call 67; (with_reducible refine (HVL.out _ hB1).mono ?_); rintro r w2 ⟨rfl, hb2⟩; have hB2 := bt hB1 hb2 (Nat.le_refl _)))
  clear hb1 hb2
  go_wp2_with fail
  go_loopw [5, 6, 7] (fun av s6 s7 wr => ∃ (j : Nat) (A : Int), av = .int .i64 A ∧ Hid (A = a + (j : Nat)) ∧ j ≤ N ∧ Hid (allR l a j) ∧ Below W0.heap.size W0 wr) (fun av _ _ _ => E.toNat - (intOf av).toNat)
  case atStart => exact ⟨0, a, rfl, (by show _ = _; omega), Nat.zero_le _, fun i hi => by omega, hB2⟩
  case round =>
    obtain ⟨j, A, rfl, hA, hj, hall, hbw⟩ := hrel
    have hEN := HNN.out
    have h00 := H0.out
    have h22 := H2.out
    have hA' := hA.out
    by_cases hlt : j < N
    · have dA : A < E := by omega
      have bA : 0 ≤ A := by omega
      have bA2 : A < 65536 := by omega
      have sA : IntKind.i64.wrap (A + 1) = A + 1 := IntWalk.i64_in _ (by omega)
      clear hEN hA'
      go_upto_region 8 with (fail)
      go_loopw [6, 7] (fun bv iv wi => ∃ (k : Nat) (b : Bool), bv = .bool b ∧ iv = .int .i64 (k : Int) ∧ k ≤ m ∧ Hid (inR (l.take k) A = b) ∧ Below W0.heap.size W0 wi) (fun _ iv _ => m - (intOf iv).toNat)
      case atStart => exact ⟨0, false, rfl, rfl, Nat.zero_le _, rfl, hbw⟩
      case round =>
        obtain ⟨k, b, rfl, rfl, hk, hin, hbi⟩ := hrel
        have hki : (0 : Int) ≤ (k : Int) := Int.natCast_nonneg _
        have hnn : m ≤ 9223372036854775807 := by unfold maxLen at hcm; omega
        by_cases hkm : k < m
        · obtain ⟨x, hx⟩ := gs (l := l) HM.out hkm
          obtain ⟨gb, o, c', hv', w1, w2, hcl⟩ := HL.out.at hx
          rw [HM.out] at hv'
          simp only [Value.slice.injEq, true_and] at hv'
          obtain ⟨rfl, rfl⟩ := hv'
          have hkl : (k : Int) < (m : Int) := by omega
          have hxb := rgsFrom_mem HGD.out x (List.mem_of_getElem? hx)
          obtain ⟨x0, x1⟩ := hcl _ hbi
          have hsn := inR_snoc hx A
          rw [hin.out] at hsn
          obtain ⟨xf, xc⟩ := x
          dsimp only at x0 x1 hxb hsn
          obtain ⟨e, he⟩ : ∃ e, xf + xc = e := ⟨_, rfl⟩
          have s1 : IntKind.i64.wrap (xf + xc) = e := (IntWalk.i64_in _ (by omega)).trans he
          have hde : decide (A - xf < xc) = decide (A < e) := by rw [decide_eq_decide]; omega
          rw [hde] at hsn
          have HSN := hid hsn
          clear hsn hde hx hcl hin he hxb w1 w2
          go_upto_region 10 with (fail)
          cases b with
          | true =>
            have HB : Hid (inR (l.take (k + 1)) A = true) := HSN.out
            go_quiet (fail)
            go_wp2
            go_roundw
            case rel => exact ⟨k + 1, true, rfl, by go_num, by omega, HB.out, below_drewN hbi _⟩
            case measure => simp [intOf]; omega
          | false =>
            by_cases q1 : xf ≤ A
            · have a1 : decide (xf ≤ A) = true := decide_eq_true q1
              by_cases q2 : A < e
              · have a2 : decide (A < e) = true := decide_eq_true q2
                have HB : Hid (inR (l.take (k + 1)) A = true) := by show _ = _; rw [HSN.out, a1, a2]; rfl
                clear q1 q2
                go_quiet (fail)
                go_wp2
                go_roundw
                case rel => exact ⟨k + 1, true, rfl, by go_num, by omega, HB.out, below_drewN hbi _⟩
                case measure => simp [intOf]; omega
              · have a2 : decide (A < e) = false := decide_eq_false q2
                have HB : Hid (inR (l.take (k + 1)) A = false) := by show _ = _; rw [HSN.out, a1, a2]; rfl
                clear q1 q2
                go_quiet (fail)
                go_wp2
                go_roundw
                case rel => exact ⟨k + 1, false, rfl, by go_num, by omega, HB.out, below_drewN hbi _⟩
                case measure => simp [intOf]; omega
            · have a1 : decide (xf ≤ A) = false := decide_eq_false q1
              have HB : Hid (inR (l.take (k + 1)) A = false) := by show _ = _; rw [HSN.out, a1]; rfl
              clear q1
              go_quiet (fail)
              go_wp2
              go_roundw
              case rel => exact ⟨k + 1, false, rfl, by go_num, by omega, HB.out, below_drewN hbi _⟩
              case measure => simp [intOf]; omega
        · obtain rfl : k = m := by omega
          have HIN : Hid (inR l A = b) := by
            have h1 := hin.out
            rw [List.take_of_length_le (by rw [HM.out]; exact Nat.le_refl _)] at h1
            exact h1
          clear hin
          cases b with
          | true =>
            have HA2 : Hid (allR l a (j + 1)) := fun i hi => by
              by_cases e : i = j
              · rw [e, ← hA.out]; exact HIN.out
              · exact hall.out i (by omega)
            go_wp2
            go_roundw
            case rel => exact ⟨j + 1, A + 1, rfl, (by show _ = _; have := hA.out; omega), by omega, HA2.out, hbi⟩
            case measure => simp [intOf]; omega
          | false =>
            go_wp2
            go_ret
            refine ⟨false, rfl, ⟨fun e => (by cases e), fun e => ?_⟩, bt HB0.out hbi (Nat.le_refl _)⟩
            have := e j hlt
            rw [← hA.out, HIN.out] at this
            exact this
    · obtain rfl : j = N := by omega
      have dA : ¬ A < E := by omega
      clear hEN hA'
      go_wp2
      go_ret
      exact ⟨true, rfl, ⟨fun _ => hall.out, fun _ => rfl⟩, bt HB0.out hbw (Nat.le_refl _)⟩
set_option maxRecDepth 100000 in
set_option maxHeartbeats 1600000 in
theorem word_any (t a x : Int) (t0 : 1 ≤ t) (t1 : t ≤ 4) (a0 : 0 ≤ a) (a1 : a < 65536) (x0 : 0 ≤ x) (x1 : x ≤ 65535) (w : World) :
    Calls Tryz.prog 74 #[.int .i64 t, .int .i64 a, .int .i64 x] w fun r w' => ∃ n : Int, r = .returned (.int .i64 n) ∧ Hid (n = wordV t a x) ∧ 0 ≤ n ∧ n < 65536 ∧ w = w' := by
  have b1 : ¬ t < 1 := by omega
  have b2 : ¬ 4 < t := by omega
  have b3 : ¬ a < 0 := by omega
  have b4 : ¬ 65536 ≤ a := by omega
  have b5 : ¬ x < 0 := by omega
  have b6 : ¬ 65535 < x := by omega
  obtain ⟨p, hp⟩ : ∃ p, 7919 * a = p := ⟨_, rfl⟩
  have s1 : IntKind.i64.wrap (7919 * a) = p := (IntWalk.i64_in _ (by omega)).trans hp
  obtain ⟨q, hq⟩ : ∃ q, x + p = q := ⟨_, rfl⟩
  have s2 : IntKind.i64.wrap (x + p) = q := (IntWalk.i64_in _ (by omega)).trans hq
  obtain ⟨u, hu⟩ : ∃ u, 104729 * t = u := ⟨_, rfl⟩
  have s3 : IntKind.i64.wrap (104729 * t) = u := (IntWalk.i64_in _ (by omega)).trans hu
  obtain ⟨z, hz⟩ : ∃ z, q + u = z := ⟨_, rfl⟩
  have s4 : IntKind.i64.wrap (q + u) = z := (IntWalk.i64_in _ (by omega)).trans hz
  obtain ⟨y, hy⟩ : ∃ y, z.tmod 65536 = y := ⟨_, rfl⟩
  have HY : Hid (y = wordV t a x ∧ 0 ≤ y ∧ y < 65536) := by
    show _ ∧ _ ∧ _
    rw [← hy, Int.tmod_eq_emod_of_nonneg (by omega)]
    unfold wordV
    omega
  clear t0 t1 a0 a1 x0 x1 hp hq hu hz
  go_enter Tryz.func74, Tryz.ntmps74
  go_wp2
  go_ret
  exact ⟨y, rfl, HY.out.1, HY.out.2.1, HY.out.2.2, rfl⟩
set_option maxRecDepth 100000 in
set_option maxHeartbeats 6400000 in
theorem rtable_exc (t : Tbl) (rv : Value) (fn ad qt x : Int) (h0 : 0 ≤ ad) (h1 : 1 ≤ qt) (h2 : ad + qt ≤ 65536) (w : World) (hl : Rgs w rv t.rd) (hgd : t.sup = true → rgsFrom (-1) t.rd = true) (e : Int)
    (he : (t.sup = false ∧ e = 1) ∨ (t.sup = true ∧ t.most < qt ∧ e = 3) ∨ (t.sup = true ∧ ¬ t.most < qt ∧ ¬ allR t.rd ad qt.toNat ∧ e = 2)) :
    Calls Tryz.prog 47 #[.agg #[.bool t.sup, rv, .int .i64 t.most], .agg #[.int .i64 fn, .int .i64 ad, .int .i64 qt, .int .i64 0, .int .i64 0], .int .i64 x] w (TabPostD w fn e []) := by
  obtain ⟨ra, rc, hrv, -⟩ := id hl
  obtain ⟨rn, hrn⟩ : ∃ n, t.rd.length = n := ⟨_, rfl⟩
  rw [hrn] at hrv
  subst hrv
  obtain ⟨W1, hW1⟩ : ∃ W, (((w.alloc (.cells #[.bool t.sup, .slice ra rn rc, .int .i64 t.most] 33)).alloc (.cells #[.int .i64 fn, .int .i64 ad, .int .i64 qt, .int .i64 0, .int .i64 0] 41)).alloc (.cells (#[.int .i64 0, .int .i64 0, (.slice none 0 0), .int .i64 0, .int .i64 0, .bool false, .int .i64 0, .slice none 0 0]) 57)).alloc (.cells (#[.int .i64 fn, .int .i64 0, (.slice none 0 0), .int .i64 0, .int .i64 0, .bool false, .int .i64 0, .slice none 0 0]) 57) = W := ⟨_, rfl⟩; have hz1 : W1.heap.size = w.heap.size + 4 := (by rw [← hW1]; simp); have hb1 : Below w.heap.size w W1 := (by rw [← hW1]; exact bta (bta (bta (bal' w _) (Nat.le_refl _) _) (Nat.le_refl _) _) (Nat.le_refl _) _); have pT : W1.heap[w.heap.size]? = some (.cells #[.bool t.sup, .slice ra rn rc, .int .i64 t.most] 33) := (by rw [← hW1]; exact hpKeep (hpKeep (hpKeep (hpNew w _) (bal' _ _)) (bal' _ _)) (bal' _ _)); have pQ : W1.heap[w.heap.size + 1]? = some (.cells #[.int .i64 fn, .int .i64 ad, .int .i64 qt, .int .i64 0, .int .i64 0] 41) := (by rw [← hW1]; refine hpKeep (hpKeep ?_ (bal' _ _)) (bal' _ _); simpa using hpNew (w.alloc (.cells #[.bool t.sup, .slice ra rn rc, .int .i64 t.most] 33)) (.cells #[.int .i64 fn, .int .i64 ad, .int .i64 qt, .int .i64 0, .int .i64 0] 41)); have pZ : W1.heap[w.heap.size + 2]? = some (.cells (#[.int .i64 0, .int .i64 0, (.slice none 0 0), .int .i64 0, .int .i64 0, .bool false, .int .i64 0, .slice none 0 0]) 57) := (by rw [← hW1]; refine hpKeep ?_ (bal' _ _); simpa using hpNew ((w.alloc (.cells #[.bool t.sup, .slice ra rn rc, .int .i64 t.most] 33)).alloc (.cells #[.int .i64 fn, .int .i64 ad, .int .i64 qt, .int .i64 0, .int .i64 0] 41)) (.cells (#[.int .i64 0, .int .i64 0, (.slice none 0 0), .int .i64 0, .int .i64 0, .bool false, .int .i64 0, .slice none 0 0]) 57)); have pR : W1.heap[w.heap.size + 3]? = some (.cells (#[.int .i64 fn, .int .i64 0, (.slice none 0 0), .int .i64 0, .int .i64 0, .bool false, .int .i64 0, .slice none 0 0]) 57) := (by rw [← hW1]; simpa using hpNew (((w.alloc (.cells #[.bool t.sup, .slice ra rn rc, .int .i64 t.most] 33)).alloc (.cells #[.int .i64 fn, .int .i64 ad, .int .i64 qt, .int .i64 0, .int .i64 0] 41)).alloc (.cells (#[.int .i64 0, .int .i64 0, (.slice none 0 0), .int .i64 0, .int .i64 0, .bool false, .int .i64 0, .slice none 0 0]) 57)) (.cells (#[.int .i64 fn, .int .i64 0, (.slice none 0 0), .int .i64 0, .int .i64 0, .bool false, .int .i64 0, .slice none 0 0]) 57)); obtain ⟨zb, hzb⟩ : ∃ n, w.heap.size + 2 = n := ⟨_, rfl⟩; obtain ⟨rb, hrb⟩ : ∃ n, w.heap.size + 3 = n := ⟨_, rfl⟩; have E3 : Hid (w.heap.size + 1 + 1 + 1 = rb) := hrb; have E2 : Hid (w.heap.size + 1 + 1 = zb) := hzb; rw [hzb] at pZ; rw [hrb] at pR; have ERB := hid hrb; have EZB := hid hzb
  have t0 : ∀ X, Below W1.heap.size W1 X → X.cell? ⟨w.heap.size, 0, none⟩ = some (.bool t.sup) := (fun X h => hpCell (hpKeep pT h) 0); have t1 : ∀ X, Below W1.heap.size W1 X → X.cell? ⟨w.heap.size, 1, none⟩ = some (.slice ra rn rc) := (fun X h => hpCell (hpKeep pT h) 1); have t2 : ∀ X, Below W1.heap.size W1 X → X.cell? ⟨w.heap.size, 2, none⟩ = some (.int .i64 t.most) := (fun X h => hpCell (hpKeep pT h) 2); have q0 : ∀ X, Below W1.heap.size W1 X → X.cell? ⟨w.heap.size + 1, 0, none⟩ = some (.int .i64 fn) := (fun X h => hpCell (hpKeep pQ h) 0); have q1 : ∀ X, Below W1.heap.size W1 X → X.cell? ⟨w.heap.size + 1, 1, none⟩ = some (.int .i64 ad) := (fun X h => hpCell (hpKeep pQ h) 1); have q2 : ∀ X, Below W1.heap.size W1 X → X.cell? ⟨w.heap.size + 1, 2, none⟩ = some (.int .i64 qt) := (fun X h => hpCell (hpKeep pQ h) 2); have r1 : ∀ X, Below W1.heap.size W1 X → X.cell? ⟨rb, 1, none⟩ = some (.int .i64 0) := (fun X h => hpCell (hpKeep pR h) 1); have f1 : ∀ X, Below W1.heap.size W1 X → X.frozen? ⟨rb, 1, none⟩ = false := (fun X h => hpFree (hpKeep pR h) 1); have k0 : Below W1.heap.size W1 W1 := Below.refl _ _
  have HCV : Hid (t.sup = true → ∀ X, Below W1.heap.size W1 X → Calls Tryz.prog 73 #[.slice ra rn rc, .agg #[.int .i64 ad, .int .i64 qt]] X (CovPost X (allR t.rd ad qt.toNat))) := fun hs X hX => rgs_covers _ t.rd (hgd hs) ad qt h0 h1 h2 X (hl.keep (bt hb1 hX (Nat.le_refl _)))
  have HW1 := hid hW1
  have HB1 := hid hb1
  have HZ1 := hid hz1
  have PZ := hid pZ
  have PR := hid pR
  have KS : Hid (∀ X (e : Int), Below W1.heap.size W1 X → (X.setCell ⟨rb, 1, none⟩ (.int .i64 e)).heap[rb]? = some (.cells (#[.int .i64 fn, .int .i64 e, (.slice none 0 0), .int .i64 0, .int .i64 0, .bool false, .int .i64 0, .slice none 0 0]) 57) ∧ (X.setCell ⟨rb, 1, none⟩ (.int .i64 e)).heap[zb]? = some (.cells (#[.int .i64 0, .int .i64 0, (.slice none 0 0), .int .i64 0, .int .i64 0, .bool false, .int .i64 0, .slice none 0 0]) 57) ∧ Keeps (fun j => w.heap.size ≤ j) W1 (X.setCell ⟨rb, 1, none⟩ (.int .i64 e))) := fun X e hX =>
    ⟨hpSetP (hpKeep pR hX) rfl, (hpOther (by have := ERB.out; have := EZB.out; omega)).trans (hpKeep pZ hX), (Keeps.of_below hX).set _ _ (by show w.heap.size ≤ rb; have := ERB.out; omega)⟩
  clear hW1 hb1 hz1 pT pQ pZ pR hl hgd h0 h1 h2 hrn hzb hrb
  rcases he with ⟨hs, rfl⟩ | ⟨hs, hm, rfl⟩ | ⟨hs, hm, ha, rfl⟩
  · rw [hs] at HW1 t0 ⊢
    clear HCV hs
    go_enter Tryz.func47, Tryz.ntmps47
    go_upto_region 2 with (fail)
    rw [HW1.out, E3.out, E2.out]
    go_upto_region 8 with (fail)
    obtain ⟨pR2, pZ2, hk2⟩ := KS.out W1 1 k0
    generalize W1.setCell ⟨rb, 1, none⟩ (.int .i64 1) = W2 at *
    have e1 : W2.cell? ⟨rb, 1, none⟩ = some (.int .i64 1) := hpCell pR2 1
    have HK2 := hid hk2
    obtain ⟨C, hC⟩ : ∃ C : Array Value, (#[.int .i64 fn, .int .i64 1, (.slice none 0 0), .int .i64 0, .int .i64 0, .bool false, .int .i64 0, .slice none 0 0] : Array Value) = C := ⟨_, rfl⟩; have hcs : C.size = 8 := (by rw [← hC]; rfl); have hi8 : (Tryz.prog.info? 57).map (·.size) = some C.size := (by rw [hcs]; exact info8); have h1c : C.toList.all (·.oneCell') = true := (by rw [← hC]; rfl); rw [hC] at pR2; have HC := hid hC; clear hC
    clear t0 t1 t2 q0 q1 q2 r1 f1 k0 hk2 KS
    go_wp2_with (first | (refine wpList_load_row rfl 57 (.tmp 7) rfl (rb) rfl 57 C (0, 0) _ pR2 Tryz.underlying57 rfl hi8 ?_) | (refine wpList_storeW rfl 57 (.tmp 6) (.tmp 39) rfl (zb) 0 _ 57 C rfl rfl pZ2 (by simp [hcs]) hi8 h1c ?_; intro w8 g8 hk8 hz8)); have g9 : w8.heap[zb]? = some (.cells C 57) := (by rw [g8, List.drop_eq_nil_of_le (by simp [hcs])]; simp); refine bodyPost_ret (results_cell_row rfl _ _ (zb) 57 C (0, 0) _ rfl g9 Tryz.underlying57 rfl hi8) rfl ?_; exact TabPost.exc HB1.out (by have := HZ1.out; omega) HK2.out (hk8.mono (fun j _ e => by have := EZB.out; omega)) HC.out.symm
  · rw [hs] at HW1 t0 ⊢
    clear HCV hs
    go_enter Tryz.func47, Tryz.ntmps47
    go_upto_region 2 with (fail)
    rw [HW1.out, E3.out, E2.out]
    go_upto_region 8 with (fail)
    obtain ⟨pR2, pZ2, hk2⟩ := KS.out W1 3 k0
    generalize W1.setCell ⟨rb, 1, none⟩ (.int .i64 3) = W2 at *
    have e1 : W2.cell? ⟨rb, 1, none⟩ = some (.int .i64 3) := hpCell pR2 1
    have HK2 := hid hk2
    obtain ⟨C, hC⟩ : ∃ C : Array Value, (#[.int .i64 fn, .int .i64 3, (.slice none 0 0), .int .i64 0, .int .i64 0, .bool false, .int .i64 0, .slice none 0 0] : Array Value) = C := ⟨_, rfl⟩; have hcs : C.size = 8 := (by rw [← hC]; rfl); have hi8 : (Tryz.prog.info? 57).map (·.size) = some C.size := (by rw [hcs]; exact info8); have h1c : C.toList.all (·.oneCell') = true := (by rw [← hC]; rfl); rw [hC] at pR2; have HC := hid hC; clear hC
    clear t0 t1 t2 q0 q1 q2 r1 f1 k0 hk2 KS
    go_wp2_with (first | (refine wpList_load_row rfl 57 (.tmp 7) rfl (rb) rfl 57 C (0, 0) _ pR2 Tryz.underlying57 rfl hi8 ?_) | (refine wpList_storeW rfl 57 (.tmp 6) (.tmp 39) rfl (zb) 0 _ 57 C rfl rfl pZ2 (by simp [hcs]) hi8 h1c ?_; intro w8 g8 hk8 hz8)); have g9 : w8.heap[zb]? = some (.cells C 57) := (by rw [g8, List.drop_eq_nil_of_le (by simp [hcs])]; simp); refine bodyPost_ret (results_cell_row rfl _ _ (zb) 57 C (0, 0) _ rfl g9 Tryz.underlying57 rfl hi8) rfl ?_; exact TabPost.exc HB1.out (by have := HZ1.out; omega) HK2.out (hk8.mono (fun j _ e => by have := EZB.out; omega)) HC.out.symm
  · have HCX := hid (HCV.out hs)
    rw [hs] at HW1 t0 ⊢
    have HA := hid ha
    clear HCV hs ha
    go_enter Tryz.func47, Tryz.ntmps47
    go_upto_region 2 with (fail)
    rw [HW1.out, E3.out, E2.out]
    go_upto_region 7 with (go_at_call 73; (with_reducible refine (HCX.out W1 k0).mono ?_); rintro r w2 ⟨V, rfl, hv, hb2⟩; obtain rfl : V = false := (by cases V with | false => rfl | true => exact absurd (hv.1 rfl) HA.out); clear hv)
    go_upto_region 8 with (fail)
    obtain ⟨pR2, pZ2, hk2⟩ := KS.out w2 2 hb2
    generalize w2.setCell ⟨rb, 1, none⟩ (.int .i64 2) = W2 at *
    have e1 : W2.cell? ⟨rb, 1, none⟩ = some (.int .i64 2) := hpCell pR2 1
    have HK2 := hid hk2
    obtain ⟨C, hC⟩ : ∃ C : Array Value, (#[.int .i64 fn, .int .i64 2, (.slice none 0 0), .int .i64 0, .int .i64 0, .bool false, .int .i64 0, .slice none 0 0] : Array Value) = C := ⟨_, rfl⟩; have hcs : C.size = 8 := (by rw [← hC]; rfl); have hi8 : (Tryz.prog.info? 57).map (·.size) = some C.size := (by rw [hcs]; exact info8); have h1c : C.toList.all (·.oneCell') = true := (by rw [← hC]; rfl); rw [hC] at pR2; have HC := hid hC; clear hC
    clear t0 t1 t2 q0 q1 q2 r1 f1 k0 hk2 KS hb2
    go_wp2_with (first | (refine wpList_load_row rfl 57 (.tmp 7) rfl (rb) rfl 57 C (0, 0) _ pR2 Tryz.underlying57 rfl hi8 ?_) | (refine wpList_storeW rfl 57 (.tmp 6) (.tmp 39) rfl (zb) 0 _ 57 C rfl rfl pZ2 (by simp [hcs]) hi8 h1c ?_; intro w8 g8 hk8 hz8)); have g9 : w8.heap[zb]? = some (.cells C 57) := (by rw [g8, List.drop_eq_nil_of_le (by simp [hcs])]; simp); refine bodyPost_ret (results_cell_row rfl _ _ (zb) 57 C (0, 0) _ rfl g9 Tryz.underlying57 rfl hi8) rfl ?_; exact TabPost.exc HB1.out (by have := HZ1.out; omega) HK2.out (hk8.mono (fun j _ e => by have := EZB.out; omega)) HC.out.symm
theorem word_parts (n : Int) (h0 : 0 ≤ n) (h1 : n < 65536) : ∃ a b : Int, IntKind.i64.wrap (n.tdiv 256) = a ∧ n.tmod 256 = b ∧ IntKind.u8.wrap a = a ∧ IntKind.u8.wrap b = b ∧ 0 ≤ a ∧ a ≤ 255 ∧ 0 ≤ b ∧ b ≤ 255 ∧ Hid (byteI a = UInt8.ofNat (n.toNat / 256) ∧ byteI b = UInt8.ofNat (n.toNat % 256)) := by
  have e1 : n.tdiv 256 = n / 256 := Int.tdiv_eq_ediv_of_nonneg h0
  have e2 : n.tmod 256 = n % 256 := Int.tmod_eq_emod_of_nonneg h0
  refine ⟨n / 256, n % 256, by rw [e1, IntWalk.i64_in _ (by omega)], e2, ?_, ?_, by omega, by omega, by omega, by omega, ?_, ?_⟩
  · exact IntWalk.u8_in _ (by omega)
  · exact IntWalk.u8_in _ (by omega)
  · unfold byteI; congr 1; omega
  · unfold byteI; congr 1; omega
set_option maxRecDepth 100000 in
set_option maxHeartbeats 6400000 in
theorem rtable_words (t : Tbl) (rv : Value) (fn ad qt x : Int) (hf : fn = 3 ∨ fn = 4) (h0 : 0 ≤ ad) (h1 : 1 ≤ qt) (hq : qt ≤ 125) (h2 : ad + qt ≤ 65536) (x0 : 0 ≤ x) (x1 : x ≤ 65535) (w : World) (hl : Rgs w rv t.rd) (hgd : rgsFrom (-1) t.rd = true)
    (hs : t.sup = true) (hm : ¬ t.most < qt) (ha : allR t.rd ad qt.toNat) :
    Calls Tryz.prog 47 #[.agg #[.bool t.sup, rv, .int .i64 t.most], .agg #[.int .i64 fn, .int .i64 ad, .int .i64 qt, .int .i64 0, .int .i64 0], .int .i64 x] w (TabPostD w fn 0 (regsD fn ad x qt.toNat)) := by
  obtain ⟨ra, rc, hrv, -⟩ := id hl
  obtain ⟨rn, hrn⟩ : ∃ n, t.rd.length = n := ⟨_, rfl⟩
  rw [hrn] at hrv
  subst hrv
  obtain ⟨W1, hW1⟩ : ∃ W, (((w.alloc (.cells #[.bool t.sup, .slice ra rn rc, .int .i64 t.most] 33)).alloc (.cells #[.int .i64 fn, .int .i64 ad, .int .i64 qt, .int .i64 0, .int .i64 0] 41)).alloc (.cells (#[.int .i64 0, .int .i64 0, (.slice none 0 0), .int .i64 0, .int .i64 0, .bool false, .int .i64 0, .slice none 0 0]) 57)).alloc (.cells (#[.int .i64 fn, .int .i64 0, (.slice none 0 0), .int .i64 0, .int .i64 0, .bool false, .int .i64 0, .slice none 0 0]) 57) = W := ⟨_, rfl⟩; have hz1 : W1.heap.size = w.heap.size + 4 := (by rw [← hW1]; simp); have hb1 : Below w.heap.size w W1 := (by rw [← hW1]; exact bta (bta (bta (bal' w _) (Nat.le_refl _) _) (Nat.le_refl _) _) (Nat.le_refl _) _); have pT : W1.heap[w.heap.size]? = some (.cells #[.bool t.sup, .slice ra rn rc, .int .i64 t.most] 33) := (by rw [← hW1]; exact hpKeep (hpKeep (hpKeep (hpNew w _) (bal' _ _)) (bal' _ _)) (bal' _ _)); have pQ : W1.heap[w.heap.size + 1]? = some (.cells #[.int .i64 fn, .int .i64 ad, .int .i64 qt, .int .i64 0, .int .i64 0] 41) := (by rw [← hW1]; refine hpKeep (hpKeep ?_ (bal' _ _)) (bal' _ _); simpa using hpNew (w.alloc (.cells #[.bool t.sup, .slice ra rn rc, .int .i64 t.most] 33)) (.cells #[.int .i64 fn, .int .i64 ad, .int .i64 qt, .int .i64 0, .int .i64 0] 41)); have pZ : W1.heap[w.heap.size + 2]? = some (.cells (#[.int .i64 0, .int .i64 0, (.slice none 0 0), .int .i64 0, .int .i64 0, .bool false, .int .i64 0, .slice none 0 0]) 57) := (by rw [← hW1]; refine hpKeep ?_ (bal' _ _); simpa using hpNew ((w.alloc (.cells #[.bool t.sup, .slice ra rn rc, .int .i64 t.most] 33)).alloc (.cells #[.int .i64 fn, .int .i64 ad, .int .i64 qt, .int .i64 0, .int .i64 0] 41)) (.cells (#[.int .i64 0, .int .i64 0, (.slice none 0 0), .int .i64 0, .int .i64 0, .bool false, .int .i64 0, .slice none 0 0]) 57)); have pR : W1.heap[w.heap.size + 3]? = some (.cells (#[.int .i64 fn, .int .i64 0, (.slice none 0 0), .int .i64 0, .int .i64 0, .bool false, .int .i64 0, .slice none 0 0]) 57) := (by rw [← hW1]; simpa using hpNew (((w.alloc (.cells #[.bool t.sup, .slice ra rn rc, .int .i64 t.most] 33)).alloc (.cells #[.int .i64 fn, .int .i64 ad, .int .i64 qt, .int .i64 0, .int .i64 0] 41)).alloc (.cells (#[.int .i64 0, .int .i64 0, (.slice none 0 0), .int .i64 0, .int .i64 0, .bool false, .int .i64 0, .slice none 0 0]) 57)) (.cells (#[.int .i64 fn, .int .i64 0, (.slice none 0 0), .int .i64 0, .int .i64 0, .bool false, .int .i64 0, .slice none 0 0]) 57)); obtain ⟨zb, hzb⟩ : ∃ n, w.heap.size + 2 = n := ⟨_, rfl⟩; obtain ⟨rb, hrb⟩ : ∃ n, w.heap.size + 3 = n := ⟨_, rfl⟩; have E3 : Hid (w.heap.size + 1 + 1 + 1 = rb) := hrb; have E2 : Hid (w.heap.size + 1 + 1 = zb) := hzb; rw [hzb] at pZ; rw [hrb] at pR; have ERB := hid hrb; have EZB := hid hzb
  have t0 : ∀ X, Below W1.heap.size W1 X → X.cell? ⟨w.heap.size, 0, none⟩ = some (.bool t.sup) := (fun X h => hpCell (hpKeep pT h) 0); have t1 : ∀ X, Below W1.heap.size W1 X → X.cell? ⟨w.heap.size, 1, none⟩ = some (.slice ra rn rc) := (fun X h => hpCell (hpKeep pT h) 1); have t2 : ∀ X, Below W1.heap.size W1 X → X.cell? ⟨w.heap.size, 2, none⟩ = some (.int .i64 t.most) := (fun X h => hpCell (hpKeep pT h) 2); have q0 : ∀ X, Below W1.heap.size W1 X → X.cell? ⟨w.heap.size + 1, 0, none⟩ = some (.int .i64 fn) := (fun X h => hpCell (hpKeep pQ h) 0); have q1 : ∀ X, Below W1.heap.size W1 X → X.cell? ⟨w.heap.size + 1, 1, none⟩ = some (.int .i64 ad) := (fun X h => hpCell (hpKeep pQ h) 1); have q2 : ∀ X, Below W1.heap.size W1 X → X.cell? ⟨w.heap.size + 1, 2, none⟩ = some (.int .i64 qt) := (fun X h => hpCell (hpKeep pQ h) 2); have r1 : ∀ X, Below W1.heap.size W1 X → X.cell? ⟨rb, 1, none⟩ = some (.int .i64 0) := (fun X h => hpCell (hpKeep pR h) 1); have f1 : ∀ X, Below W1.heap.size W1 X → X.frozen? ⟨rb, 1, none⟩ = false := (fun X h => hpFree (hpKeep pR h) 1); have k0 : Below W1.heap.size W1 W1 := Below.refl _ _
  have HCX : Hid (Calls Tryz.prog 73 #[.slice ra rn rc, .agg #[.int .i64 ad, .int .i64 qt]] W1 (CovPost W1 (allR t.rd ad qt.toNat))) := rgs_covers _ t.rd hgd ad qt h0 h1 h2 W1 (hl.keep hb1)
  have HWD : Hid (∀ (k : Nat) X, (k : Int) < qt → Calls Tryz.prog 74 #[.int .i64 fn, .int .i64 (ad + (k : Nat)), .int .i64 x] X fun r w' => ∃ n : Int, r = .returned (.int .i64 n) ∧ Hid (n = wordV fn (ad + (k : Nat)) x) ∧ 0 ≤ n ∧ n < 65536 ∧ X = w') := fun k X hk => word_any fn (ad + (k : Nat)) x (by omega) (by omega) (by omega) (by omega) x0 x1 X
  have HW1 := hid hW1
  have HB1 := hid hb1
  have HZ1 := hid hz1
  have PZ := hid pZ
  have PR := hid pR
  have PQ := hid pQ
  have HA := hid ha
  have HAD := hid (And.intro h0 h2)
  obtain ⟨N, hN⟩ : ∃ N, qt.toNat = N := ⟨_, rfl⟩
  rw [hN]
  have HN : Hid (qt = (N : Nat) ∧ N ≤ 125) := by show _ ∧ _; omega
  have f2 : ¬ fn ≤ 2 := by omega
  have f3 : 3 ≤ fn := by omega
  have hrz : rb ≠ zb := by omega
  have hr1 : ¬ W1.heap.size ≤ rb := by omega
  have hz1' : ¬ W1.heap.size ≤ zb := by omega
  rw [hs] at HW1 t0 ⊢
  have HRZ := hid (And.intro hrz (And.intro hr1 hz1'))
  clear hW1 hb1 hz1 pT pQ pZ pR hl hgd h0 h1 h2 hrn hzb hrb hs ha hf x0 x1 hN hq hrz hr1 hz1'
  obtain ⟨i5, hi, hz0, hzz1, hz2⟩ := info_parts infoB
  go_enter Tryz.func47, Tryz.ntmps47
  go_upto_region 2 with (fail)
  rw [HW1.out, E3.out, E2.out]
  go_upto_region 8 with (go_at_call 73; (with_reducible refine HCX.out.mono ?_); rintro r w2 ⟨V, rfl, hv, hb2⟩; obtain rfl : V = true := hv.2 HA.out; clear hv)
  have r1' : w2.cell? ⟨rb, 1, none⟩ = some (.int .i64 0) := r1 w2 hb2
  go_upto_region 10 with (fail)
  have q0' := q0 w2 hb2
  have S0 : TbL W1 rb zb fn [] (.slice none 0 0) w2 := ⟨hpKeep PR.out hb2, hpKeep PZ.out hb2, World.ownsRow_nil _ _ _ _, Keeps.of_below hb2⟩
  have HS0 := hid S0
  clear t0 t1 t2 q1 q2 r1 f1 k0 q0 S0
  go_upto_region 12 with (fail)
  have Q0 : Hid (∀ X, Keeps (fun j => j = rb) W1 X → X.cell? ⟨w.heap.size + 1, 0, none⟩ = some (.int .i64 fn) ∧ X.cell? ⟨w.heap.size + 1, 1, none⟩ = some (.int .i64 ad) ∧ X.cell? ⟨w.heap.size + 1, 2, none⟩ = some (.int .i64 qt)) := fun X hX => by
    have := hpKeeps PQ.out hX (by have := ERB.out; omega)
    exact ⟨hpCell this 0, hpCell this 1, hpCell this 2⟩
  clear q0' r1' hb2
  go_wp2_with fail
  go_loopw [8, 9] (fun iv s9 wr => ∃ (k : Nat) (D : List UInt8) (da : Option Addr) (dc : Nat), iv = .int .i64 (k : Int) ∧ k ≤ N ∧ Hid (D = regsD fn ad x k) ∧ Hid (D.length = 2 * k) ∧ Hid (TbL W1 rb zb fn D (.slice da D.length dc) wr)) (fun iv _ _ => N - (intOf iv).toNat)
  case atStart => exact ⟨0, [], none, 0, rfl, Nat.zero_le _, rfl, rfl, HS0.out⟩
  case round =>
    obtain ⟨k, D, da, dc, rfl, hk, hDD, hD, hst⟩ := hrel
    have hki : (0 : Int) ≤ (k : Int) := Int.natCast_nonneg _
    have hN1 := HN.out.1
    have hN2 := HN.out.2
    obtain ⟨q0, q1, q2⟩ := Q0.out wr hst.out.kp
    by_cases hlt : k < N
    · have dk : (k : Int) < qt := by omega
      obtain ⟨A, hA⟩ : ∃ A, ad + (k : Int) = A := ⟨_, rfl⟩
      have sA : IntKind.i64.wrap (ad + (k : Int)) = A := (IntWalk.i64_in _ (by have := HAD.out; omega)).trans hA
      have HW2 := HWD.out k wr dk
      rw [hA] at HW2
      have HW2 := hid HW2
      have HAA := hid hA
      clear hA hN1
      go_upto_region 16 with (go_at_call 74; (with_reducible refine HW2.out.mono ?_); rintro r w5 ⟨n, rfl, hnv, n0, n1, rfl⟩)
      obtain ⟨a, b, s1, s2, s3, s4, a0, a1, b0, b1, hab⟩ := word_parts n n0 n1
      have HDN : Hid (D ++ [byteI a, byteI b] = regsD fn ad x (k + 1)) := by show _ = _; have e := hnv.out; rw [← HAA.out] at e; rw [hDD.out, hab.out.1, hab.out.2, e]; rfl
      obtain ⟨ln, hln⟩ : ∃ n, D.length = n := ⟨_, rfl⟩
      have OW : Hid (wr.ownsRow W1.heap.size 5 1 (.slice da ln dc) ln (u8s D)) := by have := hst.out.own; rw [hln] at this; exact this
      have r2 : wr.cell? ⟨rb, 2, none⟩ = some (.slice da ln dc) := by have := hpCell hst.out.r 2; rw [hln] at this; exact this
      have hzw := hst.out.kp.size
      have HLN := hid hln
      have hlc : ln ≤ 250 := by have := hD.out; omega
      have HLB : Hid (ln = 2 * k) := by show _ = _; have := hD.out; omega
      have HU : Hid (u8s (D ++ [byteI a, byteI b]) = u8s D ++ [.int .u8 a, .int .u8 b]) := by
        show _ = _
        rw [u8s_append]
        have e1 : ((byteI a).toNat : Int) = a := by
          obtain ⟨m, rfl⟩ : ∃ m : Nat, a = (m : Int) := ⟨a.toNat, by omega⟩
          rw [byteI_toNat (by omega)]
        have e2 : ((byteI b).toNat : Int) = b := by
          obtain ⟨m, rfl⟩ : ∃ m : Nat, b = (m : Int) := ⟨b.toNat, by omega⟩
          rw [byteI_toNat (by omega)]
        show u8s D ++ [byteV (byteI a), byteV (byteI b)] = _
        unfold byteV
        rw [e1, e2]
      clear hln n0 n1 hD
      go_wp2_with (at_builtin; refine wpList_appN rfl _ _ 36 rfl W1.heap.size 5 i5 _ 1 1 Tryz.underlying36 hi hz0 hzz1 hz2 rfl (by decide) (.slice da ln dc) ln (u8s D) rfl (OW.out.alloc _) ⟨wr.heap.size, 0, none⟩ 2 2 [.int .u8 a, .int .u8 b] rfl rfl (newsNew wr [.int .u8 a, .int .u8 b] _) (by intro u hu; simp at hu; rcases hu with rfl | rfl <;> rfl) (by unfold maxLen; omega) (by omega) (by simp; omega) ?c3)
      case c3 =>
        intro v6 w6 hown6 hgr6 hnew6
        have hown6' : w6.ownsRow W1.heap.size 5 1 v6 (ln + 2) (u8s (D ++ [byteI a, byteI b])) := by rw [HU.out]; exact hown6
        have hk6 : Keeps (fun j => (Value.slice da ln dc).ownBlock = some j) wr w6 := (Keeps.of_below (bal' wr _)).trans (Keeps.of_grown hgr6 (fun _ hk => hk)) (fun _ _ e => e)
        have hnb : ∀ j, (Value.slice da ln dc).ownBlock = some j → W1.heap.size ≤ j := fun j hj => (OW.out.lt j hj).1
        have hR6 := hpKeeps hst.out.r hk6 (fun e => HRZ.out.2.1 (hnb _ e))
        have hZ6 := hpKeeps hst.out.z hk6 (fun e => HRZ.out.2.2 (hnb _ e))
        have c6 : w6.cell? ⟨rb, 2, none⟩ = some (.slice da ln dc) := by have := hpCell hR6 2; rw [HLN.out] at this; exact this
        have f6 : w6.frozen? ⟨rb, 2, none⟩ = false := hpFree hR6 2
        obtain ⟨a6, k6, rfl⟩ := own_slice hown6'
        have hne6 : ∀ j, (Value.slice a6 (ln + 2) k6).ownBlock = some j → j ≠ rb := fun j hj e => by
          have := (hown6'.lt j hj).1
          exact HRZ.out.2.1 (by rw [← e]; exact this)
        have HST6 : Hid (TbL W1 rb zb fn (D ++ [byteI a, byteI b]) (.slice a6 (ln + 2) k6) (w6.setCell ⟨rb, 2, none⟩ (.slice a6 (ln + 2) k6))) := by
          refine ⟨hpSetP hR6 rfl, (hpOther (fun e => HRZ.out.1 e.symm)).trans hZ6, ?_, ?_⟩
          · have e : (D ++ [byteI a, byteI b]).length = ln + 2 := by rw [List.length_append, HLN.out]; rfl
            rw [e]
            exact own_keeps (F := (· = rb)) hown6' (ks1 (Keeps.refl _ _) _ _) (fun j hj e => hne6 j hj e)
          · exact (hst.out.kp.trans hk6 (fun j hj e => by have := hnb j e; omega)).set _ _ rfl
        have HLL : Hid ((D ++ [byteI a, byteI b]).length = ln + 2) := by show _ = _; rw [List.length_append, HLN.out]; rfl
        clear hown6 hown6' hgr6 hnew6 hk6 hnb hR6 hZ6 hne6
        go_wp2
        go_roundw
        case rel => exact ⟨k + 1, D ++ [byteI a, byteI b], a6, k6, by go_num, by omega, HDN.out, by show _ = _; rw [HLL.out, HLB.out]; omega, by rw [HLL.out]; exact HST6.out⟩
        case measure => simp [intOf]; omega
    · obtain rfl : k = N := by omega
      have dk : ¬ (k : Int) < qt := by omega
      clear hN1
      obtain ⟨C, hC⟩ : ∃ C : Array Value, (#[.int .i64 fn, .int .i64 0, (.slice da D.length dc), .int .i64 0, .int .i64 0, .bool false, .int .i64 0, .slice none 0 0] : Array Value) = C := ⟨_, rfl⟩
      have hcs : C.size = 8 := by rw [← hC]; rfl
      have hi8 : (Tryz.prog.info? 57).map (·.size) = some C.size := by rw [hcs]; exact info8
      have h1c : C.toList.all (·.oneCell') = true := by rw [← hC]; rfl
      have pR2 := hst.out.r
      have pZ2 := hst.out.z
      rw [hC] at pR2
      have HC := hid hC
      have HD : Hid (D.length ≤ 250) := by show _ ≤ _; have := hD.out; omega
      clear hC hD
      go_wp2_with (first
        | (refine wpList_load_row rfl 57 (.tmp 7) rfl rb rfl 57 C (0, 0) _ pR2 Tryz.underlying57 rfl hi8 ?_)
        | (refine wpList_storeW rfl 57 (.tmp 6) (.tmp 92) rfl zb 0 _ 57 C rfl rfl pZ2 (by simp [hcs]) hi8 h1c ?_; intro w8 g8 hk8 hz8))
      have g9 : w8.heap[zb]? = some (.cells C 57) := by
        rw [g8, List.drop_eq_nil_of_le (by simp [hcs])]
        simp
      refine bodyPost_ret (results_cell_row rfl _ _ zb 57 C (0, 0) _ rfl g9 Tryz.underlying57 rfl hi8) rfl ?_
      have hz1 := HZ1.out
      have hez := EZB.out
      have her := ERB.out
      rw [← hDD.out]
      refine ⟨da, dc, by rw [← HC.out], HD.out, ?_, ?_⟩
      · exact own_lower (own_keeps hst.out.own hk8 (fun j hj e => by have := (hst.out.own.lt j hj).1; omega)) (by omega)
      · exact (HB1.out.trans (hst.out.kp.below (by omega) (fun j hj e => by omega))).trans (hk8.below (by have := hst.out.kp.size; omega) (fun j hj e => by omega))
theorem own_madeZ (w : World) (base n : Nat) (hb : base ≤ w.heap.size) (hn : n ≤ 250) :
    (w.alloc (.cells (madeCells #[.int .u8 0] n) 5)).ownsRow base 5 1 (.slice (some ⟨w.heap.size, 0, none⟩) n n) n (u8s (List.replicate n 0)) := by
  refine ⟨by simp, .inr ⟨w.heap.size, n, _, rfl, hb, heap_alloc_new _ _, Nat.le_refl _, by unfold maxLen; omega, by simp [size_madeCells], ?_⟩⟩
  rw [made_one, Nat.mul_one, List.take_of_length_le (by simp)]
  simp [u8s, byteV]
theorem bit_byte (m j : Nat) : Value.int .u8 (((m : Int) + 2 ^ j) % 256) = byteV (UInt8.ofNat (m + 2 ^ j)) := by
  unfold byteV
  rw [UInt8.toNat_ofNat']
  simp
set_option maxRecDepth 100000 in
set_option maxHeartbeats 6400000 in
theorem rtable_bits (t : Tbl) (rv : Value) (fn ad qt x : Int) (hf : fn = 1 ∨ fn = 2) (h0 : 0 ≤ ad) (h1 : 1 ≤ qt) (hq : qt ≤ 2000) (h2 : ad + qt ≤ 65536) (x0 : 0 ≤ x) (x1 : x ≤ 65535) (w : World) (hl : Rgs w rv t.rd) (hgd : rgsFrom (-1) t.rd = true)
    (hs : t.sup = true) (hm : ¬ t.most < qt) (ha : allR t.rd ad qt.toNat) :
    Calls Tryz.prog 47 #[.agg #[.bool t.sup, rv, .int .i64 t.most], .agg #[.int .i64 fn, .int .i64 ad, .int .i64 qt, .int .i64 0, .int .i64 0], .int .i64 x] w (TabPostD w fn 0 (bitsL fn ad x ((qt.toNat + 7) / 8) qt.toNat)) := by
  obtain ⟨ra, rc, hrv, -⟩ := id hl
  obtain ⟨rn, hrn⟩ : ∃ n, t.rd.length = n := ⟨_, rfl⟩
  rw [hrn] at hrv
  subst hrv
  obtain ⟨W1, hW1⟩ : ∃ W, (((w.alloc (.cells #[.bool t.sup, .slice ra rn rc, .int .i64 t.most] 33)).alloc (.cells #[.int .i64 fn, .int .i64 ad, .int .i64 qt, .int .i64 0, .int .i64 0] 41)).alloc (.cells (#[.int .i64 0, .int .i64 0, (.slice none 0 0), .int .i64 0, .int .i64 0, .bool false, .int .i64 0, .slice none 0 0]) 57)).alloc (.cells (#[.int .i64 fn, .int .i64 0, (.slice none 0 0), .int .i64 0, .int .i64 0, .bool false, .int .i64 0, .slice none 0 0]) 57) = W := ⟨_, rfl⟩; have hz1 : W1.heap.size = w.heap.size + 4 := (by rw [← hW1]; simp); have hb1 : Below w.heap.size w W1 := (by rw [← hW1]; exact bta (bta (bta (bal' w _) (Nat.le_refl _) _) (Nat.le_refl _) _) (Nat.le_refl _) _); have pT : W1.heap[w.heap.size]? = some (.cells #[.bool t.sup, .slice ra rn rc, .int .i64 t.most] 33) := (by rw [← hW1]; exact hpKeep (hpKeep (hpKeep (hpNew w _) (bal' _ _)) (bal' _ _)) (bal' _ _)); have pQ : W1.heap[w.heap.size + 1]? = some (.cells #[.int .i64 fn, .int .i64 ad, .int .i64 qt, .int .i64 0, .int .i64 0] 41) := (by rw [← hW1]; refine hpKeep (hpKeep ?_ (bal' _ _)) (bal' _ _); simpa using hpNew (w.alloc (.cells #[.bool t.sup, .slice ra rn rc, .int .i64 t.most] 33)) (.cells #[.int .i64 fn, .int .i64 ad, .int .i64 qt, .int .i64 0, .int .i64 0] 41)); have pZ : W1.heap[w.heap.size + 2]? = some (.cells (#[.int .i64 0, .int .i64 0, (.slice none 0 0), .int .i64 0, .int .i64 0, .bool false, .int .i64 0, .slice none 0 0]) 57) := (by rw [← hW1]; refine hpKeep ?_ (bal' _ _); simpa using hpNew ((w.alloc (.cells #[.bool t.sup, .slice ra rn rc, .int .i64 t.most] 33)).alloc (.cells #[.int .i64 fn, .int .i64 ad, .int .i64 qt, .int .i64 0, .int .i64 0] 41)) (.cells (#[.int .i64 0, .int .i64 0, (.slice none 0 0), .int .i64 0, .int .i64 0, .bool false, .int .i64 0, .slice none 0 0]) 57)); have pR : W1.heap[w.heap.size + 3]? = some (.cells (#[.int .i64 fn, .int .i64 0, (.slice none 0 0), .int .i64 0, .int .i64 0, .bool false, .int .i64 0, .slice none 0 0]) 57) := (by rw [← hW1]; simpa using hpNew (((w.alloc (.cells #[.bool t.sup, .slice ra rn rc, .int .i64 t.most] 33)).alloc (.cells #[.int .i64 fn, .int .i64 ad, .int .i64 qt, .int .i64 0, .int .i64 0] 41)).alloc (.cells (#[.int .i64 0, .int .i64 0, (.slice none 0 0), .int .i64 0, .int .i64 0, .bool false, .int .i64 0, .slice none 0 0]) 57)) (.cells (#[.int .i64 fn, .int .i64 0, (.slice none 0 0), .int .i64 0, .int .i64 0, .bool false, .int .i64 0, .slice none 0 0]) 57)); obtain ⟨zb, hzb⟩ : ∃ n, w.heap.size + 2 = n := ⟨_, rfl⟩; obtain ⟨rb, hrb⟩ : ∃ n, w.heap.size + 3 = n := ⟨_, rfl⟩; have E3 : Hid (w.heap.size + 1 + 1 + 1 = rb) := hrb; have E2 : Hid (w.heap.size + 1 + 1 = zb) := hzb; rw [hzb] at pZ; rw [hrb] at pR; have ERB := hid hrb; have EZB := hid hzb
  have t0 : ∀ X, Below W1.heap.size W1 X → X.cell? ⟨w.heap.size, 0, none⟩ = some (.bool t.sup) := (fun X h => hpCell (hpKeep pT h) 0); have t1 : ∀ X, Below W1.heap.size W1 X → X.cell? ⟨w.heap.size, 1, none⟩ = some (.slice ra rn rc) := (fun X h => hpCell (hpKeep pT h) 1); have t2 : ∀ X, Below W1.heap.size W1 X → X.cell? ⟨w.heap.size, 2, none⟩ = some (.int .i64 t.most) := (fun X h => hpCell (hpKeep pT h) 2); have q0 : ∀ X, Below W1.heap.size W1 X → X.cell? ⟨w.heap.size + 1, 0, none⟩ = some (.int .i64 fn) := (fun X h => hpCell (hpKeep pQ h) 0); have q1 : ∀ X, Below W1.heap.size W1 X → X.cell? ⟨w.heap.size + 1, 1, none⟩ = some (.int .i64 ad) := (fun X h => hpCell (hpKeep pQ h) 1); have q2 : ∀ X, Below W1.heap.size W1 X → X.cell? ⟨w.heap.size + 1, 2, none⟩ = some (.int .i64 qt) := (fun X h => hpCell (hpKeep pQ h) 2); have r1 : ∀ X, Below W1.heap.size W1 X → X.cell? ⟨rb, 1, none⟩ = some (.int .i64 0) := (fun X h => hpCell (hpKeep pR h) 1); have f1 : ∀ X, Below W1.heap.size W1 X → X.frozen? ⟨rb, 1, none⟩ = false := (fun X h => hpFree (hpKeep pR h) 1); have k0 : Below W1.heap.size W1 W1 := Below.refl _ _
  have HCX : Hid (Calls Tryz.prog 73 #[.slice ra rn rc, .agg #[.int .i64 ad, .int .i64 qt]] W1 (CovPost W1 (allR t.rd ad qt.toNat))) := rgs_covers _ t.rd hgd ad qt h0 h1 h2 W1 (hl.keep hb1)
  have HWD : Hid (∀ (k : Nat) X, (k : Int) < qt → Calls Tryz.prog 74 #[.int .i64 fn, .int .i64 (ad + (k : Nat)), .int .i64 x] X fun r w' => ∃ n : Int, r = .returned (.int .i64 n) ∧ Hid (n = wordV fn (ad + (k : Nat)) x) ∧ 0 ≤ n ∧ n < 65536 ∧ X = w') := fun k X hk => word_any fn (ad + (k : Nat)) x (by omega) (by omega) (by omega) (by omega) x0 x1 X
  have HW1 := hid hW1
  have HB1 := hid hb1
  have HZ1 := hid hz1
  have PZ := hid pZ
  have PR := hid pR
  have PQ := hid pQ
  have HA := hid ha
  have HAD := hid (And.intro h0 h2)
  obtain ⟨N, hN⟩ : ∃ N, qt.toNat = N := ⟨_, rfl⟩
  rw [hN]
  have HN : Hid (qt = (N : Nat) ∧ N ≤ 2000) := by show _ ∧ _; omega
  have f2 : fn ≤ 2 := by omega
  have f3 : ¬ 3 ≤ fn := by omega
  have hrz : rb ≠ zb := by omega
  have hr1 : ¬ W1.heap.size ≤ rb := by omega
  have hz1' : ¬ W1.heap.size ≤ zb := by omega
  rw [hs] at HW1 t0 ⊢
  have HRZ := hid (And.intro hrz (And.intro hr1 hz1'))
  clear hW1 hb1 hz1 pT pQ pZ pR hl hgd h0 h1 h2 hrn hzb hrb hs ha hf x0 x1 hN hq hrz hr1 hz1'
  obtain ⟨i5, hi, hz0, hzz1, hz2⟩ := info_parts infoB
  go_enter Tryz.func47, Tryz.ntmps47
  go_upto_region 2 with (fail)
  rw [HW1.out, E3.out, E2.out]
  go_upto_region 8 with (go_at_call 73; (with_reducible refine HCX.out.mono ?_); rintro r w2 ⟨V, rfl, hv, hb2⟩; obtain rfl : V = true := hv.2 HA.out; clear hv)
  have r1' : w2.cell? ⟨rb, 1, none⟩ = some (.int .i64 0) := r1 w2 hb2
  go_upto_region 10 with (fail)
  have q0' := q0 w2 hb2
  have S0 : TbL W1 rb zb fn [] (.slice none 0 0) w2 := ⟨hpKeep PR.out hb2, hpKeep PZ.out hb2, World.ownsRow_nil _ _ _ _, Keeps.of_below hb2⟩
  have HS0 := hid S0
  clear t0 t1 t2 q1 q2 r1 f1 k0 q0 S0
  obtain ⟨M, hM⟩ : ∃ M : Nat, (N + 7) / 8 = M := ⟨_, rfl⟩
  obtain ⟨s, hs7⟩ : ∃ s, qt + 7 = s := ⟨_, rfl⟩
  have sq1 : IntKind.i64.wrap (qt + 7) = s := (IntWalk.i64_in _ (by have := HN.out; omega)).trans hs7
  have sq2 : IntKind.i64.wrap (s.tdiv 8) = (M : Int) := by
    have := HN.out
    rw [Int.tdiv_eq_ediv_of_nonneg (by omega), IntWalk.i64_in _ (by omega)]
    omega
  have hM0 : M ≤ 250 := by have := HN.out; omega
  have HMN := hid hM
  have q2' := (hpCell (hpKeep PQ.out hb2) 2 : w2.cell? ⟨w.heap.size + 1, 2, none⟩ = some (.int .i64 qt))
  have c2' : w2.cell? ⟨rb, 2, none⟩ = some (.slice none 0 0) := hpCell HS0.out.r 2
  have fz2' : w2.frozen? ⟨rb, 2, none⟩ = false := hpFree HS0.out.r 2
  have hmk := run_make_row' (P := Tryz.prog) 36 5 (.int .u8 0) 1 Tryz.underlying36 infoB rfl .i64 .i64 M (by omega) (by omega)
  have hzw2 : W1.heap.size ≤ w2.heap.size := hb2.size
  have HS1 : Hid (TbL W1 rb zb fn (List.replicate M 0) (.slice (some ⟨w2.heap.size, 0, none⟩) M M) ((w2.alloc (.cells (madeCells #[.int .u8 0] M) 5)).setCell ⟨rb, 2, none⟩ (.slice (some ⟨w2.heap.size, 0, none⟩) M M))) := by
    have hrl : rb < w2.heap.size := hpLt HS0.out.r
    have ho := own_madeZ w2 W1.heap.size M hzw2 hM0
    refine ⟨hpSetP (hpKeep HS0.out.r (bal' _ _)) rfl, (hpOther (fun e => HRZ.out.1 e.symm)).trans (hpKeep HS0.out.z (bal' _ _)), ?_, (HS0.out.kp.trans (Keeps.of_below (F := fun _ => False) (bal' _ _)) (fun _ _ e => e.elim)).set _ _ rfl⟩
    rw [List.length_replicate]
    exact own_keeps (F := (· = rb)) ho (ks1 (Keeps.refl _ _) _ _) (fun j hj e => by cases hj; have e' : w2.heap.size = rb := e; omega)
  have Q0 : Hid (∀ X, Keeps (fun j => j = rb) W1 X → X.cell? ⟨w.heap.size + 1, 0, none⟩ = some (.int .i64 fn) ∧ X.cell? ⟨w.heap.size + 1, 1, none⟩ = some (.int .i64 ad) ∧ X.cell? ⟨w.heap.size + 1, 2, none⟩ = some (.int .i64 qt)) := fun X hX => by
    have := hpKeeps PQ.out hX (by have := ERB.out; omega)
    exact ⟨hpCell this 0, hpCell this 1, hpCell this 2⟩
  have c2a : (w2.alloc (.cells (madeCells #[.int .u8 0] M) 5)).cell? ⟨rb, 2, none⟩ = some (.slice none 0 0) := hpCell (hpKeep HS0.out.r (bal' _ _)) 2
  have fz2a : (w2.alloc (.cells (madeCells #[.int .u8 0] M) 5)).frozen? ⟨rb, 2, none⟩ = false := hpFree (hpKeep HS0.out.r (bal' _ _)) 2
  clear hM hs7 hzw2
  go_upto_region 12 with (fail)
  clear q0' r1' hb2 q2' c2' fz2' sq1 sq2 c2a fz2a hmk
  go_wp2_with fail
  go_loopw [8, 9] (fun iv s9 wr => ∃ (k : Nat) (D : List UInt8) (da : Option Addr) (dc : Nat), iv = .int .i64 (k : Int) ∧ k ≤ N ∧ Hid (D = bitsL fn ad x M k) ∧ Hid (D.length = M) ∧ Hid (TbL W1 rb zb fn D (.slice da M dc) wr)) (fun iv _ _ => N - (intOf iv).toNat)
  case atStart => exact ⟨0, List.replicate M 0, _, M, rfl, Nat.zero_le _, (bitsL_zero fn ad x M).symm, List.length_replicate, HS1.out⟩
  case round =>
    obtain ⟨k, D, da, dc, rfl, hk, hDD, hD, hst⟩ := hrel
    have hki : (0 : Int) ≤ (k : Int) := Int.natCast_nonneg _
    have hN1 := HN.out.1
    have hN2 := HN.out.2
    obtain ⟨q0, q1, q2⟩ := Q0.out wr hst.out.kp
    by_cases hlt : k < N
    · have dk : (k : Int) < qt := by omega
      obtain ⟨A, hA⟩ : ∃ A, ad + (k : Int) = A := ⟨_, rfl⟩
      have sA : IntKind.i64.wrap (ad + (k : Int)) = A := (IntWalk.i64_in _ (by have := HAD.out; omega)).trans hA
      have HW2 := HWD.out k wr dk
      rw [hA] at HW2
      have HW2 := hid HW2
      have hkM : k / 8 < M := by have := HMN.out; omega
      have OW : Hid (wr.ownsRow W1.heap.size 5 1 (.slice da M dc) M (u8s D)) := by have := hst.out.own; rw [hD.out] at this; exact this
      obtain ⟨g, cap, hv1, hg, hnc, hcm⟩ := own_shapeR OW.out (by omega)
      simp only [Value.slice.injEq, true_and] at hv1
      obtain ⟨rfl, rfl⟩ := hv1
      have hcl := ownb_cellZ OW.out (k / 8) hkM
      have hfz := OW.out.frozenAt (k / 8)
      have r2 : wr.cell? ⟨rb, 2, none⟩ = some (.slice (some ⟨g, 0, none⟩) M dc) := hpCell hst.out.r 2
      have HAA := hid hA
      clear hA hN1 hcm hnc
      go_upto_region 16 with (go_at_call 74; (with_reducible refine HW2.out.mono ?_); rintro r w5 ⟨n, rfl, hnv, n0, n1, rfl⟩)
      have HBV := hid (bitV_of (t := fn) (a := ad) (v := x) (i := k) (n := n) (by rw [HAA.out]; exact hnv.out))
      by_cases hb : n.tmod 2 = 1
      · have d1 : (n.tmod 2 == 1) = true := b1 hb
        have HB1' := hid (HBV.out.1.2 hb)
        clear hb n0 n1
        obtain ⟨Y, hY⟩ : ∃ Y, UInt8.ofNat ((D[k / 8]?.getD 0).toNat + 2 ^ (k % 8)) = Y := ⟨_, rfl⟩
        have E : Hid (Value.int .u8 ((((D[k / 8]?.getD 0).toNat : Int) + 2 ^ (k % 8)) % 256) = byteV Y) := by show _ = _; rw [← hY]; exact bit_byte _ _
        have HST6 : Hid (TbL W1 rb zb fn (D.set (k / 8) Y) (.slice (some ⟨g, 0, none⟩) M dc) (wr.setCell ⟨g, k / 8, none⟩ (byteV Y))) := by
          have hgr : rb ≠ g := fun e => HRZ.out.2.1 (by rw [e]; exact hg)
          have hgz : zb ≠ g := fun e => HRZ.out.2.2 (by rw [e]; exact hg)
          refine ⟨(hpOther hgr).trans hst.out.r, (hpOther hgz).trans hst.out.z, ?_, ?_⟩
          · have h := (OW.out.stored (k / 8) (byteV Y)).1
            rw [u8s_setZ] at h
            rw [List.length_set, hD.out]
            exact h
          · exact Keeps.setNew hst.out.kp ⟨g, k / 8, none⟩ _ hg
        have HDN : Hid (D.set (k / 8) Y = bitsL fn ad x M (k + 1)) := by show _ = _; rw [← hY, hDD.out]; exact bitsL_put hkM HB1'.out
        clear hY
        go_upto_region 19 with (fail)
        go_wp2
        go_roundw
        case rel => exact ⟨k + 1, D.set (k / 8) Y, _, _, by go_num, by omega, HDN.out, by show _ = _; rw [List.length_set]; exact hD.out, by rw [E.out]; exact HST6.out⟩
        case measure => simp [intOf]; omega
      · have d1 : (n.tmod 2 == 1) = false := b0 hb
        have HB0' := hid (HBV.out.2.2 hb)
        have HDN : Hid (D = bitsL fn ad x M (k + 1)) := by show _ = _; rw [bitsL_same hkM HB0'.out]; exact hDD.out
        clear hb n0 n1
        go_wp2
        go_roundw
        case rel => exact ⟨k + 1, D, _, _, by go_num, by omega, HDN.out, hD.out, hst.out⟩
        case measure => simp [intOf]; omega
    · obtain rfl : k = N := by omega
      have dk : ¬ (k : Int) < qt := by omega
      clear hN1
      obtain ⟨C, hC⟩ : ∃ C : Array Value, (#[.int .i64 fn, .int .i64 0, (.slice da M dc), .int .i64 0, .int .i64 0, .bool false, .int .i64 0, .slice none 0 0] : Array Value) = C := ⟨_, rfl⟩
      have hcs : C.size = 8 := by rw [← hC]; rfl
      have hi8 : (Tryz.prog.info? 57).map (·.size) = some C.size := by rw [hcs]; exact info8
      have h1c : C.toList.all (·.oneCell') = true := by rw [← hC]; rfl
      have pR2 := hst.out.r
      have pZ2 := hst.out.z
      rw [hC] at pR2
      have HC := hid hC
      have HM0 := hid hM0
      clear hC hM0
      go_wp2_with (first
        | (refine wpList_load_row rfl 57 (.tmp 7) rfl rb rfl 57 C (0, 0) _ pR2 Tryz.underlying57 rfl hi8 ?_)
        | (refine wpList_storeW rfl 57 (.tmp 6) (.tmp 92) rfl zb 0 _ 57 C rfl rfl pZ2 (by simp [hcs]) hi8 h1c ?_; intro w8 g8 hk8 hz8))
      have g9 : w8.heap[zb]? = some (.cells C 57) := by
        rw [g8, List.drop_eq_nil_of_le (by simp [hcs])]
        simp
      refine bodyPost_ret (results_cell_row rfl _ _ zb 57 C (0, 0) _ rfl g9 Tryz.underlying57 rfl hi8) rfl ?_
      have hz1 := HZ1.out
      have hez := EZB.out
      have her := ERB.out
      have hdm := hD.out
      rw [HMN.out, ← hDD.out]
      refine ⟨da, dc, by rw [← HC.out, hdm], by rw [hdm]; exact HM0.out, ?_, ?_⟩
      · rw [hdm]
        have := own_lower (own_keeps hst.out.own hk8 (fun j hj e => by have := (hst.out.own.lt j hj).1; omega)) (by omega : w.heap.size ≤ W1.heap.size)
        rw [hdm] at this
        exact this
      · exact (HB1.out.trans (hst.out.kp.below (by omega) (fun j hj e => by omega))).trans (hk8.below (by have := hst.out.kp.size; omega) (fun j hj e => by omega))
theorem rtable_ans (t : Tbl) (rv : Value) (q : Rq) (hq : q.ok = true) (hf : 1 ≤ q.fn ∧ q.fn ≤ 4) (x : Int) (x0 : 0 ≤ x) (x1 : x ≤ 65535) (w : World) (hl : Rgs w rv t.rd) (hgd : t.sup = true → rgsFrom (-1) t.rd = true) :
    Calls Tryz.prog 47 #[.agg #[.bool t.sup, rv, .int .i64 t.most], .agg #[.int .i64 q.fn, .int .i64 q.addr, .int .i64 q.qty, .int .i64 q.code, .int .i64 q.obj], .int .i64 x] w (TabPostD w q.fn (t.ans q x).exc (t.ans q x).data) := by
  obtain ⟨fn, ad, qt, co, ob⟩ := q
  dsimp only at hf ⊢
  unfold Rq.ok at hq
  dsimp only at hq
  rw [if_pos hf] at hq
  simp only [Bool.and_eq_true, decide_eq_true_eq, beq_iff_eq] at hq
  obtain ⟨⟨⟨⟨⟨h0, h1⟩, h2⟩, h3⟩, rfl⟩, rfl⟩ := hq
  have hlm : (fn = 1 ∨ fn = 2) ∧ qt ≤ 2000 ∨ (fn = 3 ∨ fn = 4) ∧ qt ≤ 125 := by
    unfold limI at h2
    split at h2
    · exact .inl ⟨by assumption, h2⟩
    · split at h2
      · exact .inr ⟨by assumption, h2⟩
      · omega
  unfold Tbl.ans
  dsimp only
  cases hs : t.sup with
  | false =>
    have := rtable_exc t rv fn ad qt x h0 h1 (by omega) w hl hgd 1 (.inl ⟨hs, rfl⟩)
    rw [hs] at this
    exact this
  | true =>
    rw [if_neg (fun e : true = false => by cases e)]
    by_cases hm : t.most < qt
    · rw [if_pos hm]
      have := rtable_exc t rv fn ad qt x h0 h1 (by omega) w hl hgd 3 (.inr (.inl ⟨hs, hm, rfl⟩))
      rw [hs] at this
      exact this
    · rw [if_neg hm]
      by_cases ha : allR t.rd ad qt.toNat
      · have hc : covB t.rd ad qt.toNat = true := (covB_iff _ _ _).2 ha
        rw [hc, if_neg (fun e : true = false => by cases e)]
        rcases hlm with ⟨hf2, hq2⟩ | ⟨hf2, hq2⟩
        · rw [if_pos (by omega : fn ≤ 2)]
          have := rtable_bits t rv fn ad qt x hf2 h0 h1 hq2 (by omega) x0 x1 w hl (hgd hs) hs hm ha
          rw [hs] at this
          exact this
        · rw [if_neg (by omega : ¬ fn ≤ 2)]
          have := rtable_words t rv fn ad qt x hf2 h0 h1 hq2 (by omega) x0 x1 w hl (hgd hs) hs hm ha
          rw [hs] at this
          exact this
      · have hc : covB t.rd ad qt.toNat = false := by
          cases e : covB t.rd ad qt.toNat with
          | false => rfl
          | true => exact absurd ((covB_iff _ _ _).1 e) ha
        rw [hc, if_pos rfl]
        have := rtable_exc t rv fn ad qt x h0 h1 (by omega) w hl hgd 2 (.inr (.inr ⟨hs, hm, ha, rfl⟩))
        rw [hs] at this
        exact this
end Go.Proofs.YtpkheiaanjhffaaGreat
