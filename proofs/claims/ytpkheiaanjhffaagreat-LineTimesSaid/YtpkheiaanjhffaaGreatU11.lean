/-
  Texts 11 of the claim.
-/
import Derived.Test.YtpkheiaanjhffaaGreatU08
import Derived.Test.YtpkheiaanjhffaaGreatU09
import Derived.BigQuiet
import Derived.DeepKeys
namespace Go.Proofs.YtpkheiaanjhffaaGreat
open Go.RowKit
def SlRow (w : World) (r : List Value) (s : Sl) : Prop := ∃ rv ov sv, r = (SlC s rv ov sv).toList ∧ SlR w s rv ov sv
def Slvs (w : World) (v : Value) (l : List Sl) : Prop := Sls 19 SlRow w v l
theorem SlRow.keep (w w' : World) (r : List Value) (x : Sl) (h : SlRow w r x) (hb : Below w.heap.size w w') : SlRow w' r x := by
  obtain ⟨rv, ov, sv, e, h⟩ := h
  exact ⟨rv, ov, sv, e, h.keep hb⟩
theorem Slvs.keep {w w' : World} {v : Value} {l : List Sl} (h : Slvs w v l) (hb : Below w.heap.size w w') : Slvs w' v l := Sls.keep SlRow.keep h hb
theorem slRow_rd {w : World} {cs : List Value} (h : Rd Tryz.prog w 38 cs) : ∃ x, SlRow w cs x := by
  obtain ⟨s, rv, ov, sv, e, hR⟩ := sl_rd (cs := cs.toArray) (by simpa using h)
  exact ⟨s, rv, ov, sv, by rw [← e], hR⟩
theorem slvs_rd {w : World} {v : Value} (h : Rd Tryz.prog w 22 [v]) : ∃ l, Slvs w v l :=
  Sls.of_rd (R := SlRow) Tryz.underlying22 cellsSl (by decide) (fun _ h => slRow_rd h) h
theorem Slvs.at {w : World} {a : Option Addr} {n c : Nat} {l : List Sl} (h : Slvs w (.slice a n c) l) {i : Nat} {s : Sl} (hi : l[i]? = some s) :
    ∃ b o rv ov sv, a = some ⟨b, o, none⟩ ∧ SlR w s rv ov sv ∧ ∀ j u, (SlC s rv ov sv)[j]? = some u → w.cell? ⟨b, o + i * 19 + j, none⟩ = some u := by
  obtain ⟨-, -, -, hel⟩ := Sls.get h
  obtain ⟨b, o, ha, r, hr, ⟨rv, ov, sv, rfl, hR⟩, hc⟩ := hel i s hi
  exact ⟨b, o, rv, ov, sv, ha, hR, fun j u hj => hc j u (by simpa using hj)⟩
theorem Slvs.slc {w : World} {v : Value} {l : List Sl} (h : Slvs w v l) : ∃ a c, v = .slice a l.length c := by
  obtain ⟨a, c, e, -⟩ := h
  exact ⟨a, c, e⟩
theorem SlC_rd (s : Sl) (rv : Nat → Value) (ov sv : Value) {k : Nat} (hk : k < 4) : (SlC s rv ov sv)[3 + k * 3 + 1]? = some (rv k) := by
  match k, hk with
  | 0, _ => rfl
  | 1, _ => rfl
  | 2, _ => rfl
  | 3, _ => rfl
def allSmall (l : List Sl) : Prop := ∀ s ∈ l, slSmall s
set_option maxRecDepth 100000 in
set_option maxHeartbeats 6400000 in
theorem mslaves_w (a : Option Addr) (c : Nat) (l : List Sl) (n : Int) (w : World) (ln : Nat) (hln : l.length = ln) (hl : Slvs w (.slice a ln c) l) (VV : Bool) (hVV : VV = true ↔ (allSmall l ∧ (l.length : Int) ≤ n)) :
    Calls Tryz.prog 7 #[.slice a ln c, .int .i64 n] w (MsPost w VV) := by
  have hln64 : ln ≤ 9223372036854775807 := by have := Sls.len hl; rw [hln] at this; unfold maxLen at this; omega
  have HL := hid hl
  have HLN := hid hln
  have HF : Hid (¬ (allSmall l ∧ (l.length : Int) ≤ n) → VV = false) := fun h => by
    cases e : VV with
    | false => rfl
    | true => exact absurd (hVV.1 e) h
  have HT := hid hVV.2
  clear hVV hl hln
  go_enter Tryz.func7, Tryz.ntmps7
  go_wp2_with fail
  go_loopw [5, 6] (fun iv jv wr => ∃ i : Nat, i ≤ ln ∧ iv = .int .i64 (i : Int) ∧ Hid (∀ j s, j < i → l[j]? = some s → slSmall s) ∧ w = wr) (fun iv _ _ => ln - (intOf iv).toNat)
  case atStart => exact ⟨0, Nat.zero_le _, rfl, fun j s hj => absurd hj (Nat.not_lt_zero _), rfl⟩
  case round =>
    obtain ⟨i, hi, rfl, hall, rfl⟩ := hrel
    have hii : (0 : Int) ≤ (i : Int) := Int.natCast_nonneg _
    by_cases hlt : i < ln
    · have hil : (i : Int) < (ln : Int) := by omega
      obtain ⟨s, hs⟩ : ∃ s, l[i]? = some s := ⟨_, List.getElem?_eq_getElem (by rw [HLN.out]; exact hlt)⟩
      obtain ⟨b, o, rv, ov, sv, rfl, hR, hc⟩ := HL.out.at hs
      obtain ⟨oa, oc, rfl, -⟩ := id hR.ob
      obtain ⟨sa, sc, rfl, -⟩ := id hR.sd
      obtain ⟨V, hV⟩ : ∃ V, smallObs s.objs = V := ⟨_, rfl⟩
      have HO : Hid (Calls Tryz.prog 36 #[.slice oa s.objs.length oc] w fun r w' => r = .returned (.bool V) ∧ w = w') := objects_any _ s.objs w hR.ob V hV
      have c16 : w.cell? ⟨b, o + i * 19 + 16, none⟩ = some (.slice oa s.objs.length oc) := hc 16 _ rfl
      have c18 : w.cell? ⟨b, o + i * 19 + 18, none⟩ = some (.slice sa s.sd.length sc) := hc 18 _ rfl
      obtain ⟨on, hon⟩ : ∃ n, s.objs.length = n := ⟨_, rfl⟩
      obtain ⟨sn, hsn⟩ : ∃ n, s.sd.length = n := ⟨_, rfl⟩
      rw [hon] at HO c16
      rw [hsn] at c18
      have HVO := hid hV
      have HSN := hid hsn
      have HR := hid hR
      have HC := hid hc
      have HS := hid hs
      have HNS : Hid (¬ slSmall s → VV = false) := fun h => HF.out (fun e => h (e.1 s (List.mem_of_getElem? HS.out)))
      clear hR hc hs hV hon hsn
      cases V with
      | false =>
        have HE := hid (HNS.out (fun h => by have := h.1; rw [HVO.out] at this; cases this))
        go_wp2_with (go_at_call 36; (with_reducible refine HO.out.mono ?_); rintro r w2 ⟨rfl, rfl⟩)
        go_ret
        exact ⟨by rw [HE.out]; rfl, rfl⟩
      | true =>
        by_cases hs8 : 80 < (sn : Int)
        · have HE := hid (HNS.out (fun h => by have := h.2.1; rw [HSN.out] at this; omega))
          go_wp2_with (go_at_call 36; (with_reducible refine HO.out.mono ?_); rintro r w2 ⟨rfl, rfl⟩)
          go_ret
          exact ⟨by rw [HE.out]; rfl, rfl⟩
        · go_upto_region 7 with (go_at_call 36; (with_reducible refine HO.out.mono ?_); rintro r w2 ⟨rfl, rfl⟩)
          clear c16 c18
          go_loopw [6] (fun jv wr => ∃ k : Nat, k ≤ 4 ∧ jv = .int .i64 (k : Int) ∧ Hid (∀ i, i < k → (s.ts i).rd.length ≤ 40) ∧ w = wr) (fun jv _ => 4 - (intOf jv).toNat)
          case atStart => exact ⟨0, by omega, rfl, fun i hi => absurd hi (by omega), rfl⟩
          case round =>
            obtain ⟨k, hk, rfl, hal, rfl⟩ := hrel
            have hki : (0 : Int) ≤ (k : Int) := Int.natCast_nonneg _
            by_cases hlt4 : k < 4
            · have hkl : (k : Int) < 4 := by omega
              obtain ⟨ra, rc, hrv, -⟩ := id (HR.out.rg k hlt4)
              obtain ⟨rn, hrn⟩ : ∃ n, (s.ts k).rd.length = n := ⟨_, rfl⟩
              have ct : w.cell? ⟨b, o + i * 19 + 3 + k * 3 + 1, none⟩ = some (.slice ra rn rc) := by
                have := HC.out (3 + k * 3 + 1) (rv k) (SlC_rd s rv _ _ hlt4)
                rw [show o + i * 19 + (3 + k * 3 + 1) = o + i * 19 + 3 + k * 3 + 1 by omega] at this
                rw [hrv, hrn] at this
                exact this
              have HRN := hid hrn
              clear hrv hrn
              by_cases hr : 40 < (rn : Int)
              · have HE := hid (HNS.out (fun h => by have := h.2.2 k hlt4; rw [HRN.out] at this; omega))
                go_wp2
                go_ret
                exact ⟨by rw [HE.out]; rfl, rfl⟩
              · have HA2 : Hid (∀ i, i < k + 1 → (s.ts i).rd.length ≤ 40) := fun i hi => by
                  by_cases e : i = k
                  · subst e; rw [HRN.out]; omega
                  · exact hal.out i (by omega)
                go_wp2
                go_roundw
                case rel => exact ⟨k + 1, by omega, by go_num, HA2.out, trivial⟩
                case measure => simp [intOf]; omega
            · obtain rfl : k = 4 := by omega
              have HA3 : Hid (∀ j t, j < i + 1 → l[j]? = some t → slSmall t) := fun j t hj ht => by
                by_cases e : j = i
                · subst e
                  rw [HS.out] at ht
                  cases ht
                  exact ⟨HVO.out, by rw [HSN.out]; omega, hal.out⟩
                · exact hall.out j t (by omega) ht
              go_wp2
              go_roundw
              case rel => exact ⟨i + 1, by omega, by go_num, HA3.out, trivial⟩
              case measure => simp [intOf]; omega
    · obtain rfl : i = ln := by omega
      have hil : ¬ (i : Int) < (i : Int) := Int.lt_irrefl _
      have HAS : Hid (allSmall l) := fun s hs => by
        obtain ⟨j, hj, e⟩ := List.mem_iff_getElem.1 hs
        exact hall.out j s (by have := HLN.out; omega) (by rw [List.getElem?_eq_getElem hj, e])
      have HVD : Hid (VV = decide ((i : Int) ≤ n)) := by
        show _ = _
        by_cases e : (i : Int) ≤ n
        · rw [HT.out ⟨HAS.out, by rw [HLN.out]; exact e⟩, decide_eq_true e]
        · rw [HF.out (fun h => e (by have := h.2; rw [HLN.out] at this; exact this)), decide_eq_false e]
      clear hall hi hlt
      go_wp2
      go_ret
      exact ⟨by rw [HVD.out] <;> rfl, rfl⟩
theorem mslaves_any (l : List Sl) (n : Int) : ∃ V : Bool, (V = true ↔ (allSmall l ∧ (l.length : Int) ≤ n)) ∧ ∀ (w : World) (v : Value), Slvs w v l → Calls Tryz.prog 7 #[v, .int .i64 n] w (MsPost w V) := by
  by_cases h : allSmall l ∧ (l.length : Int) ≤ n
  · refine ⟨true, ⟨fun _ => h, fun _ => rfl⟩, fun w v hv => ?_⟩
    obtain ⟨a, c, rfl⟩ := hv.slc
    exact mslaves_w a c l n w _ rfl hv true ⟨fun _ => h, fun _ => rfl⟩
  · refine ⟨false, ⟨fun e => (by cases e), fun e => absurd e h⟩, fun w v hv => ?_⟩
    obtain ⟨a, c, rfl⟩ := hv.slc
    exact mslaves_w a c l n w _ rfl hv false ⟨fun e => (by cases e), fun e => absurd e h⟩
theorem hpRowB {w : World} {b : Nat} {C : Array Value} {t : TypeId} {fz : Nat × Nat} (h : w.heap[b]? = some (.cells C t fz)) (j : Nat) (v : Value) (hj : C.toList[j]? = some v) : w.cell? ((⟨b, 0, none⟩ : Addr).add j) = some v := by
  have e : (⟨b, 0, none⟩ : Addr).add j = ⟨b, j, none⟩ := by unfold Addr.add; split <;> simp_all
  rw [e, hpCell h]
  simpa using hj
theorem bool_is {p : Prop} : ∃ B : Bool, (B = true ↔ p) := by
  by_cases h : p
  · exact ⟨true, fun _ => h, fun _ => rfl⟩
  · exact ⟨false, fun e => (by cases e), fun e => absurd e h⟩
theorem wpList_load_atH {P : Program} {ops : Array Oper} {rest : List Oper} {o : Oper} {a : Act} {w : World} {Q : Exit → Act → World → Prop} (hw : Region.wanted o (yielded ops a.tmps) = true) (ty : TypeId) (x : Operand) (ho : o.op = .load ty x)
    (ad : Addr) (hx : a.eval x = .pointer (some ad)) (cs : Array Value) (d : TypeDesc) (hc : ∀ j v, cs.toList[j]? = some v → w.cell? (ad.add j) = some v)
    (hu : P.underlying ty = some d) (hd : (match d with | .struct _ | .array _ _ => true | _ => false) = true) (hi : (P.info? ty).map (·.size) = some cs.size)
    (h : wpList P ops Q rest (a.put o.dst (.agg cs)) w) : wpList P ops Q (o :: rest) a w :=
  wpList_step fun K hK => by
    rw [if_pos hw]
    unfold Oper.wp execOp
    simp only [ho, hx, Instr.loadAt, Instr.sureAddr, Sem.run_bind, Sem.run_pure, Result.andThen_ok, run_loadVar_at w ad ty cs d hc hu hd hi]
    exact hK _ _ h
def BusP (l : List Sl) : Prop := l.length ≤ 16 ∧ ∀ s ∈ l, s.val
theorem rslave_w (s : Sl) (rv : Nat → Value) (ov sv : Value) (V : Bool) (hV : V = true ↔ s.val) (w : World) (hR : SlR w s rv ov sv) : Calls Tryz.prog 37 #[.agg (SlC s rv ov sv)] w (BoolPost w V) :=
  (rslave_any s rv ov sv w hR).mono fun r w' ⟨B, h1, h2, h3⟩ => by
    have e : B = V := by
      cases B <;> cases V
      · rfl
      · exact absurd (h2.out.2 (hV.1 rfl)) Bool.noConfusion
      · exact absurd (hV.2 (h2.out.1 rfl)) Bool.noConfusion
      · rfl
    subst e
    exact ⟨h1, h3⟩
theorem info19 : (Tryz.prog.info? 38).map (·.size) = some 19 := by kernel_rfl
set_option maxRecDepth 100000 in
set_option maxHeartbeats 6400000 in
theorem rbus_w (a : Option Addr) (c : Nat) (l : List Sl) (n : Nat) (w : World) (hn : l.length = n) (hl : Slvs w (.slice a n c) l) (V : Bool) (hV : V = true ↔ BusP l) :
    Calls Tryz.prog 8 #[.slice a n c] w (BoolPost w V) := by
  have HN := hid hn
  have HF : Hid (¬ BusP l → V = false) := fun h => by
    cases e : V with
    | false => rfl
    | true => exact absurd (hV.1 e) h
  have HT := hid hV.2
  have HL := hid hl
  clear hV hn hl
  go_enter Tryz.func8, Tryz.ntmps8
  go_wp2
  go_loopw [3] (fun iv wr => ∃ k : Nat, k ≤ n ∧ k ≤ 16 ∧ iv = .int .i64 (k : Int) ∧ Hid (∀ i s, i < k → l[i]? = some s → s.val) ∧ Below w.heap.size w wr) (fun iv _ => n - (intOf iv).toNat)
  case atStart => exact ⟨0, Nat.zero_le _, Nat.zero_le _, rfl, fun i s hi => absurd hi (Nat.not_lt_zero _), Below.refl _ _⟩
  case round =>
    obtain ⟨k, hk, hk16, rfl, hall, hbw⟩ := hrel
    have hki : (0 : Int) ≤ (k : Int) := Int.natCast_nonneg _
    by_cases hlt : k < n
    · have hkl : (k : Int) < (n : Int) := by omega
      by_cases h16 : 16 ≤ (k : Int)
      · have HE := hid (HF.out (fun h => by have := h.1; rw [HN.out] at this; omega))
        go_wp2_with fail
        go_ret
        exact ⟨by rw [HE.out] <;> rfl, hbw⟩
      obtain ⟨s, hs⟩ : ∃ s, l[k]? = some s := ⟨_, List.getElem?_eq_getElem (by rw [HN.out]; exact hlt)⟩
      obtain ⟨b, o, rv, ov, sv, rfl, hR, hc⟩ := (HL.out.keep hbw).at hs
      obtain ⟨B, hB⟩ := bool_is (p := s.val)
      have HSV := hid (rslave_w s rv ov sv B hB wr hR)
      obtain ⟨C, hC⟩ : ∃ C, SlC s rv ov sv = C := ⟨_, rfl⟩
      have hi : (Tryz.prog.info? 38).map (·.size) = some C.size := by rw [← hC]; exact info19
      have hrow : ∀ j v, C.toList[j]? = some v → wr.cell? ((⟨b, o + k * 19, none⟩ : Addr).add j) = some v := fun j v hj => by
        have e : (⟨b, o + k * 19, none⟩ : Addr).add j = ⟨b, o + k * 19 + j, none⟩ := by unfold Addr.add; split <;> simp_all
        rw [e]
        exact hc j v (by rw [hC]; simpa using hj)
      rw [hC] at HSV
      have HB := hid hB
      have HS := hid hs
      clear hR hc hC hB hs
      cases B with
      | false =>
        have HE := hid (HF.out (fun h => Bool.noConfusion (HB.out.2 (h.2 s (List.mem_of_getElem? HS.out)))))
        go_wp2_with (first
          | (refine wpList_load_atH (by rfl) 38 (.tmp 15) rfl ⟨b, o + k * 19, none⟩ rfl C _ hrow Tryz.underlying38 rfl hi ?_)
          | (go_at_call 37; (with_reducible refine HSV.out.mono ?_); rintro r w2 ⟨rfl, hb2⟩))
        go_ret
        exact ⟨by rw [HE.out] <;> rfl, bt hbw hb2 (Nat.le_refl _)⟩
      | true =>
        have HA2 : Hid (∀ i t, i < k + 1 → l[i]? = some t → t.val) := fun i t hi ht => by
          by_cases e : i = k
          · subst e
            rw [HS.out] at ht
            cases ht
            exact HB.out.1 rfl
          · exact hall.out i t (by omega) ht
        go_wp2_with (first
          | (refine wpList_load_atH (by rfl) 38 (.tmp 15) rfl ⟨b, o + k * 19, none⟩ rfl C _ hrow Tryz.underlying38 rfl hi ?_)
          | (go_at_call 37; (with_reducible refine HSV.out.mono ?_); rintro r w2 ⟨rfl, hb2⟩))
        go_roundw
        case rel => exact ⟨k + 1, by omega, by omega, by go_num, HA2.out, bt hbw hb2 (Nat.le_refl _)⟩
        case measure => simp [intOf]; omega
    · obtain rfl : k = n := by omega
      have HE := hid (HT.out ⟨by rw [HN.out]; exact hk16, fun s hs => by
        obtain ⟨j, hj, e⟩ := List.mem_iff_getElem.1 hs
        exact hall.out j s (by rw [← HN.out]; exact hj) (by rw [List.getElem?_eq_getElem hj, e])⟩)
      clear hall
      go_wp2
      go_ret
      exact ⟨by rw [HE.out] <;> rfl, hbw⟩
theorem rbus_any (l : List Sl) : ∃ V : Bool, (V = true ↔ BusP l) ∧ ∀ (w : World) (v : Value), Slvs w v l → Calls Tryz.prog 8 #[v] w (BoolPost w V) := by
  obtain ⟨V, hV⟩ := bool_is (p := BusP l)
  refine ⟨V, hV, fun w v hv => ?_⟩
  obtain ⟨a, c, rfl⟩ := hv.slc
  exact rbus_w a c l _ w rfl hv V hV
theorem wfJ {n : Int} (h : wfI n) : (Lit.int .i64 n).wf = true := by
  have e1 : IntKind.i64.min = -9223372036854775808 := by decide
  have e2 : IntKind.i64.max = 9223372036854775807 := by decide
  simp only [Lit.wf, e1, e2, Bool.and_eq_true, decide_eq_true_eq]
  exact h
theorem eq_setB (a b c d : Int) (f1 : wfI a) (f2 : wfI b) (f3 : wfI c) (f4 : wfI d) (B : Bool) (hB : B = true ↔ a = c ∧ b = d) (X : World) :
    (binOp .eql 30 (.agg #[.int .i64 a, .int .i64 b]) (.agg #[.int .i64 c, .int .i64 d])).run Tryz.prog X = .ok (.bool B) X := by
  have w1 : (Lit.int .i64 a).wf = true := wfJ f1
  have w2 : (Lit.int .i64 b).wf = true := wfJ f2
  have w3 : (Lit.int .i64 c).wf = true := wfJ f3
  have w4 : (Lit.int .i64 d).wf = true := wfJ f4
  have hk : Tryz.prog.keyTypeAt 3 30 = true := by kernel_rfl
  have hf : (Value.agg #[.int .i64 a, .int .i64 b]).formed Tryz.prog 30 = true := by kernel_rfl
  have hg : (Value.agg #[.int .i64 c, .int .i64 d]).formed Tryz.prog 30 = true := by kernel_rfl
  have c1 : Tryz.prog.cellsOf 30 = 2 := by kernel_rfl
  have c2 : Tryz.prog.cellsOf 3 = 1 := by kernel_rfl
  have ha : Tryz.prog.keyLits 5 30 (Value.agg #[.int .i64 a, .int .i64 b]).cells.toList = some [.int .i64 a, .int .i64 b] := by
    simp [Program.keyLits, Tryz.underlying30, Tryz.underlying3, w1, w2, c1, c2, Value.cells]
  have hb : Tryz.prog.keyLits 5 30 (Value.agg #[.int .i64 c, .int .i64 d]).cells.toList = some [.int .i64 c, .int .i64 d] := by
    simp [Program.keyLits, Tryz.underlying30, Tryz.underlying3, w3, w4, c1, c2, Value.cells]
  obtain ⟨r, hr, hi⟩ := run_equalIn_deep (P := Tryz.prog) 9997 3 30 hk X 5 5 _ _ _ _ hf hg ha hb
  have e : r = B := by
    have h2 : r = true ↔ a = c ∧ b = d := by rw [hi]; simp
    cases r <;> cases B
    · rfl
    · exact absurd (h2.2 (hB.1 rfl)) Bool.noConfusion
    · exact absurd (hB.2 (h2.1 rfl)) Bool.noConfusion
    · rfl
  subst e
  simp only [binOp]
  simp [Op.equal, Op.maxDepth, hr]
def isMb (bd pa un : Int) (s : Sl) : Bool := decide (s.bd = bd ∧ s.pa = pa) && decide (s.un = un)
def memb (l : List Sl) (bd pa un : Int) : Nat → List Nat
  | 0 => []
  | k + 1 => memb l bd pa un k ++ (match l[k]? with | some s => if isMb bd pa un s = true then [k] else [] | none => [])
theorem memb_yes {l : List Sl} {bd pa un : Int} {k : Nat} {s : Sl} (hs : l[k]? = some s) (h : isMb bd pa un s = true) : memb l bd pa un (k + 1) = memb l bd pa un k ++ [k] := by
  show _ ++ (match l[k]? with | some s => if isMb bd pa un s = true then [k] else [] | none => []) = _
  rw [hs]
  dsimp only
  rw [if_pos h]
theorem memb_no {l : List Sl} {bd pa un : Int} {k : Nat} {s : Sl} (hs : l[k]? = some s) (h : isMb bd pa un s = false) : memb l bd pa un (k + 1) = memb l bd pa un k := by
  show _ ++ (match l[k]? with | some s => if isMb bd pa un s = true then [k] else [] | none => []) = _
  rw [hs]
  dsimp only
  rw [if_neg (by rw [h]; decide), List.append_nil]
theorem memb_mem {l : List Sl} {bd pa un : Int} : ∀ {k j : Nat}, j ∈ memb l bd pa un k → ∃ s, l[j]? = some s ∧ isMb bd pa un s = true
  | 0, j, h => by cases h
  | k + 1, j, h => by
    rcases List.mem_append.1 h with h | h
    · exact memb_mem h
    · cases hs : l[k]? with
      | none => rw [hs] at h; cases h
      | some s =>
        rw [hs] at h
        dsimp only at h
        split at h
        · rw [List.mem_singleton] at h
          subst h
          exact ⟨s, hs, by assumption⟩
        · cases h
def MbPost (w : World) (ms : List Nat) (r : Ending) (w' : World) : Prop :=
  ∃ a c, r = .returned (.slice a ms.length c) ∧ w'.ownsRow w.heap.size 3 1 (.slice a ms.length c) ms.length (ms.map fun i : Nat => .int .i64 (i : Int)) ∧ Below w.heap.size w w'
end Go.Proofs.YtpkheiaanjhffaaGreat
