/-
  Texts 38 of the claim.
-/
import Derived.Test.YtipnamoocemeeaaGreatD37
namespace Go.Proofs.YtipnamoocemeeaaGreat
open Go.RowKit
def SlRow (w : World) (r : List Value) (s : Sl) : Prop := ∃ rv ov sv, r = (SlC s rv ov sv).toList ∧ SlR w s rv ov sv
def Slvs (w : World) (v : Value) (l : List Sl) : Prop := Sls 19 SlRow w v l
theorem SlRow.keep (w w' : World) (r : List Value) (x : Sl) (h : SlRow w r x) (hb : Below w.heap.size w w') : SlRow w' r x := by
  obtain ⟨rv, ov, sv, e, h⟩ := h
  exact ⟨rv, ov, sv, e, h.keep hb⟩
theorem Slvs.keep {w w' : World} {v : Value} {l : List Sl} (h : Slvs w v l) (hb : Below w.heap.size w w') : Slvs w' v l := Sls.keep SlRow.keep h hb
theorem slRow_rd {w : World} {cs : List Value} (h : Rd Tryz.prog w 133 cs) : ∃ x, SlRow w cs x := by
  obtain ⟨s, rv, ov, sv, e, hR⟩ := sl_rd (cs := cs.toArray) (by simpa using h)
  exact ⟨s, rv, ov, sv, by rw [← e], hR⟩
theorem slvs_rd {w : World} {v : Value} (h : Rd Tryz.prog w 77 [v]) : ∃ l, Slvs w v l :=
  Sls.of_rd (R := SlRow) Tryz.underlying77 cellsSl (by decide) (fun _ h => slRow_rd h) h
theorem Slvs.at {w : World} {a : Option Addr} {n c : Nat} {l : List Sl} (h : Slvs w (.slice a n c) l) {i : Nat} {s : Sl} (hi : l[i]? = some s) :
    ∃ b o rv ov sv, a = some ⟨b, o, none⟩ ∧ SlR w s rv ov sv ∧ ∀ j u, (SlC s rv ov sv)[j]? = some u → w.cell? ⟨b, o + i * 19 + j, none⟩ = some u := by
  obtain ⟨-, -, -, hel⟩ := Sls.get h
  obtain ⟨b, o, ha, r, hr, ⟨rv, ov, sv, rfl, hR⟩, hc⟩ := hel i s hi
  exact ⟨b, o, rv, ov, sv, ha, hR, fun j u hj => hc j u (by simpa using hj)⟩
theorem Slvs.slc {w : World} {v : Value} {l : List Sl} (h : Slvs w v l) : ∃ a c, v = .slice a l.length c := by
  obtain ⟨a, c, e, -⟩ := h
  exact ⟨a, c, e⟩
theorem SlC_rd (s : Sl) (rv : Nat → Value) (ov sv : Value) {k : Nat} (hk : k < 4) : (SlC s rv ov sv)[3 + k * 3 + 1]? = some (rv k) := by
  match k, hk with
  | 0, _ => rfl
  | 1, _ => rfl
  | 2, _ => rfl
  | 3, _ => rfl
def allSmall (l : List Sl) : Prop := ∀ s ∈ l, slSmall s
set_option maxRecDepth 100000 in
set_option maxHeartbeats 6400000 in
theorem mslaves_w (a : Option Addr) (c : Nat) (l : List Sl) (n : Int) (w : World) (ln : Nat) (hln : l.length = ln) (hl : Slvs w (.slice a ln c) l) (VV : Bool) (hVV : VV = true ↔ (allSmall l ∧ (l.length : Int) ≤ n)) :
    Calls Tryz.prog 33 #[.slice a ln c, .int .i64 n] w (MsPost w VV) := by
  have hln64 : ln ≤ 9223372036854775807 := by have := Sls.len hl; rw [hln] at this; unfold maxLen at this; omega
  have HL := hid hl
  have HLN := hid hln
  have HF : Hid (¬ (allSmall l ∧ (l.length : Int) ≤ n) → VV = false) := fun h => by
    cases e : VV with
    | false => rfl
    | true => exact absurd (hVV.1 e) h
  have HT := hid hVV.2
  clear hVV hl hln
  go_enter Tryz.func33, Tryz.ntmps33
  go_wp2_with fail
  go_loopw [5, 6] (fun iv jv wr => ∃ i : Nat, i ≤ ln ∧ iv = .int .i64 (i : Int) ∧ Hid (∀ j s, j < i → l[j]? = some s → slSmall s) ∧ w = wr) (fun iv _ _ => ln - (intOf iv).toNat)
  case atStart => exact ⟨0, Nat.zero_le _, rfl, fun j s hj => absurd hj (Nat.not_lt_zero _), rfl⟩
  case round =>
    obtain ⟨i, hi, rfl, hall, rfl⟩ := hrel
    have hii : (0 : Int) ≤ (i : Int) := Int.natCast_nonneg _
    by_cases hlt : i < ln
    · have hil : (i : Int) < (ln : Int) := by omega
      obtain ⟨s, hs⟩ : ∃ s, l[i]? = some s := ⟨_, List.getElem?_eq_getElem (by rw [HLN.out]; exact hlt)⟩
      obtain ⟨b, o, rv, ov, sv, rfl, hR, hc⟩ := HL.out.at hs
      obtain ⟨oa, oc, rfl, -⟩ := id hR.ob
      obtain ⟨sa, sc, rfl, -⟩ := id hR.sd
      obtain ⟨V, hV⟩ : ∃ V, smallObs s.objs = V := ⟨_, rfl⟩
      have HO : Hid (Calls Tryz.prog 64 #[.slice oa s.objs.length oc] w fun r w' => r = .returned (.bool V) ∧ w = w') := objects_any _ s.objs w hR.ob V hV
      have c16 : w.cell? ⟨b, o + i * 19 + 16, none⟩ = some (.slice oa s.objs.length oc) := hc 16 _ rfl
      have c18 : w.cell? ⟨b, o + i * 19 + 18, none⟩ = some (.slice sa s.sd.length sc) := hc 18 _ rfl
      obtain ⟨on, hon⟩ : ∃ n, s.objs.length = n := ⟨_, rfl⟩
      obtain ⟨sn, hsn⟩ : ∃ n, s.sd.length = n := ⟨_, rfl⟩
      rw [hon] at HO c16
      rw [hsn] at c18
      have HVO := hid hV
      have HSN := hid hsn
      have HR := hid hR
      have HC := hid hc
      have HS := hid hs
      have HNS : Hid (¬ slSmall s → VV = false) := fun h => HF.out (fun e => h (e.1 s (List.mem_of_getElem? HS.out)))
      clear hR hc hs hV hon hsn
      cases V with
      | false =>
        have HE := hid (HNS.out (fun h => by have := h.1; rw [HVO.out] at this; cases this))
        go_wp2_with (go_at_call 64; (with_reducible refine HO.out.mono ?_); rintro r w2 ⟨rfl, rfl⟩)
        go_ret
        exact ⟨by rw [HE.out]; rfl, rfl⟩
      | true =>
        by_cases hs8 : 80 < (sn : Int)
        · have HE := hid (HNS.out (fun h => by have := h.2.1; rw [HSN.out] at this; omega))
          go_wp2_with (go_at_call 64; (with_reducible refine HO.out.mono ?_); rintro r w2 ⟨rfl, rfl⟩)
          go_ret
          exact ⟨by rw [HE.out]; rfl, rfl⟩
        · go_upto_region 7 with (go_at_call 64; (with_reducible refine HO.out.mono ?_); rintro r w2 ⟨rfl, rfl⟩)
          clear c16 c18
          go_loopw [6] (fun jv wr => ∃ k : Nat, k ≤ 4 ∧ jv = .int .i64 (k : Int) ∧ Hid (∀ i, i < k → (s.ts i).rd.length ≤ 40) ∧ w = wr) (fun jv _ => 4 - (intOf jv).toNat)
          case atStart => exact ⟨0, by omega, rfl, fun i hi => absurd hi (by omega), rfl⟩
          case round =>
            obtain ⟨k, hk, rfl, hal, rfl⟩ := hrel
            have hki : (0 : Int) ≤ (k : Int) := Int.natCast_nonneg _
            by_cases hlt4 : k < 4
            · have hkl : (k : Int) < 4 := by omega
              obtain ⟨ra, rc, hrv, -⟩ := id (HR.out.rg k hlt4)
              obtain ⟨rn, hrn⟩ : ∃ n, (s.ts k).rd.length = n := ⟨_, rfl⟩
              have ct : w.cell? ⟨b, o + i * 19 + 3 + k * 3 + 1, none⟩ = some (.slice ra rn rc) := by
                have := HC.out (3 + k * 3 + 1) (rv k) (SlC_rd s rv _ _ hlt4)
                rw [show o + i * 19 + (3 + k * 3 + 1) = o + i * 19 + 3 + k * 3 + 1 by omega] at this
                rw [hrv, hrn] at this
                exact this
              have HRN := hid hrn
              clear hrv hrn
              by_cases hr : 40 < (rn : Int)
              · have HE := hid (HNS.out (fun h => by have := h.2.2 k hlt4; rw [HRN.out] at this; omega))
                go_wp2
                go_ret
                exact ⟨by rw [HE.out]; rfl, rfl⟩
              · have HA2 : Hid (∀ i, i < k + 1 → (s.ts i).rd.length ≤ 40) := fun i hi => by
                  by_cases e : i = k
                  · subst e; rw [HRN.out]; omega
                  · exact hal.out i (by omega)
                go_wp2
                go_roundw
                case rel => exact ⟨k + 1, by omega, by go_num, HA2.out, trivial⟩
                case measure => simp [intOf]; omega
            · obtain rfl : k = 4 := by omega
              have HA3 : Hid (∀ j t, j < i + 1 → l[j]? = some t → slSmall t) := fun j t hj ht => by
                by_cases e : j = i
                · subst e
                  rw [HS.out] at ht
                  cases ht
                  exact ⟨HVO.out, by rw [HSN.out]; omega, hal.out⟩
                · exact hall.out j t (by omega) ht
              go_wp2
              go_roundw
              case rel => exact ⟨i + 1, by omega, by go_num, HA3.out, trivial⟩
              case measure => simp [intOf]; omega
    · obtain rfl : i = ln := by omega
      have hil : ¬ (i : Int) < (i : Int) := Int.lt_irrefl _
      have HAS : Hid (allSmall l) := fun s hs => by
        obtain ⟨j, hj, e⟩ := List.mem_iff_getElem.1 hs
        exact hall.out j s (by have := HLN.out; omega) (by rw [List.getElem?_eq_getElem hj, e])
      have HVD : Hid (VV = decide ((i : Int) ≤ n)) := by
        show _ = _
        by_cases e : (i : Int) ≤ n
        · rw [HT.out ⟨HAS.out, by rw [HLN.out]; exact e⟩, decide_eq_true e]
        · rw [HF.out (fun h => e (by have := h.2; rw [HLN.out] at this; exact this)), decide_eq_false e]
      clear hall hi hlt
      go_wp2
      go_ret
      exact ⟨by rw [HVD.out] <;> rfl, rfl⟩
theorem mslaves_any (l : List Sl) (n : Int) : ∃ V : Bool, (V = true ↔ (allSmall l ∧ (l.length : Int) ≤ n)) ∧ ∀ (w : World) (v : Value), Slvs w v l → Calls Tryz.prog 33 #[v, .int .i64 n] w (MsPost w V) := by
  by_cases h : allSmall l ∧ (l.length : Int) ≤ n
  · refine ⟨true, ⟨fun _ => h, fun _ => rfl⟩, fun w v hv => ?_⟩
    obtain ⟨a, c, rfl⟩ := hv.slc
    exact mslaves_w a c l n w _ rfl hv true ⟨fun _ => h, fun _ => rfl⟩
  · refine ⟨false, ⟨fun e => (by cases e), fun e => absurd e h⟩, fun w v hv => ?_⟩
    obtain ⟨a, c, rfl⟩ := hv.slc
    exact mslaves_w a c l n w _ rfl hv false ⟨fun e => (by cases e), fun e => absurd e h⟩
end Go.Proofs.YtipnamoocemeeaaGreat
