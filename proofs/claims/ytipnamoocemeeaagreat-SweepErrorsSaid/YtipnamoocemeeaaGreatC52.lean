/-
  Texts 52 of the claim.
-/
import Derived.Test.YtipnamoocemeeaaGreatC49
import Derived.Test.YtipnamoocemeeaaGreatC51
/-
  Databases: modscanmake.Profiles and modscanref31.Valid.
-/
namespace Go.Proofs.YtipnamoocemeeaaGreat
open Go.RowKit
def PfS (p : Pf) : Prop := p.name.size ≤ 40 ∧ p.cs.length ≤ 10 ∧ ∀ c ∈ p.cs, c.val.length ≤ 300
def DbS (l : List Pf) : Prop := (∀ p ∈ l, PfS p) ∧ l.length ≤ 20
def SamePost (w : World) (V : Bool) (r : Ending) (w' : World) : Prop := r = .returned (.bool V) ∧ w = w'
theorem wfi {n : Int} (h : -9223372036854775808 ≤ n ∧ n ≤ 9223372036854775807) : (Lit.int .i64 n).wf = true := by
  have e1 : IntKind.i64.min = -9223372036854775808 := by decide
  have e2 : IntKind.i64.max = 9223372036854775807 := by decide
  simp only [Lit.wf, e1, e2, Bool.and_eq_true, decide_eq_true_eq]
  exact h
theorem bool_of {p : Prop} : ∃ B : Bool, (B = true ↔ p) := by
  by_cases h : p
  · exact ⟨true, fun _ => h, fun _ => rfl⟩
  · exact ⟨false, fun e => (by cases e), fun e => absurd e h⟩

set_option maxRecDepth 100000 in
set_option maxHeartbeats 6400000 in
theorem mprofs_w (a : Option Addr) (c : Nat) (l : List Pf) (n : Nat) (w : World) (hn : l.length = n) (hl : Dbs w (.slice a n c) l) (V : Bool) (hV : V = true ↔ DbS l) :
    Calls Tryz.prog 28 #[.slice a n c] w (SamePost w V) := by
  have hnm : n ≤ maxLen := by rw [← hn]; exact Sls.len hl
  have hn64 : n ≤ 9223372036854775807 := by unfold maxLen at hnm; omega
  have HN := hid hn
  have HF : Hid (¬ DbS l → V = false) := fun h => by
    cases e : V with
    | false => rfl
    | true => exact absurd (hV.1 e) h
  have HT := hid hV.2
  have HL := hid hl
  clear hV hn hl
  go_enter Tryz.func28, Tryz.ntmps28
  go_wp2
  go_loopw [3, 4] (fun iv jv wr => ∃ k : Nat, k ≤ n ∧ iv = .int .i64 (k : Int) ∧ Hid (∀ i p, i < k → l[i]? = some p → PfS p) ∧ w = wr) (fun iv _ _ => n - (intOf iv).toNat)
  case atStart => exact ⟨0, Nat.zero_le _, rfl, fun i p hi => absurd hi (Nat.not_lt_zero _), rfl⟩
  case round =>
    obtain ⟨k, hk, rfl, hall, rfl⟩ := hrel
    have hki : (0 : Int) ≤ (k : Int) := Int.natCast_nonneg _
    by_cases hlt : k < n
    · have hkl : (k : Int) < (n : Int) := by omega
      obtain ⟨p, hp⟩ : ∃ p, l[k]? = some p := ⟨_, List.getElem?_eq_getElem (by rw [HN.out]; exact hlt)⟩
      obtain ⟨b, o, va, vc, rfl, hcs, hps, hcl⟩ := HL.out.at hp
      obtain ⟨y0, y1⟩ := hcl w (Below.refl _ _)
      obtain ⟨cn, hcn⟩ : ∃ n, p.cs.length = n := ⟨_, rfl⟩
      obtain ⟨sz, hsz⟩ : ∃ s, p.name.size = s := ⟨_, rfl⟩
      have hcn64 : cn ≤ 9223372036854775807 := by have := Sls.len hcs; rw [hcn] at this; unfold maxLen at this; omega
      obtain ⟨nm, hnm2⟩ : ∃ s, p.name = s := ⟨_, rfl⟩
      rw [hnm2] at y0 hsz
      rw [hcn] at y1
      have HNF : Hid (¬ PfS p → V = false) := fun h => HF.out (fun e => h (e.1 p (List.mem_of_getElem? hp)))
      have HCN := hid hcn
      have HSZ : Hid (p.name.size = sz) := by show _ = _; rw [hnm2]; exact hsz
      have HP := hid hp
      have HCS := hid hcs
      clear hnm2 hcn hp hcs hcl hps
      by_cases h1 : 40 < (sz : Int)
      · have HE := hid (HNF.out (fun h => by have := h.1; rw [HSZ.out] at this; omega))
        have g1 : decide ((40 : Int) < (sz : Int)) = true := decide_eq_true h1
        clear h1
        go_wp2
        go_ret
        exact ⟨by rw [HE.out] <;> rfl, rfl⟩
      have g1 : decide ((40 : Int) < (sz : Int)) = false := decide_eq_false h1
      have HS1 : Hid (p.name.size ≤ 40) := by show _ ≤ _; rw [HSZ.out]; omega
      clear h1
      by_cases h2 : 10 < (cn : Int)
      · have HE := hid (HNF.out (fun h => by have := h.2.1; rw [HCN.out] at this; omega))
        go_wp2
        go_ret
        exact ⟨by rw [HE.out] <;> rfl, rfl⟩
      go_upto_region 7 with (fail)
      clear y0 g1 hsz
      go_loopw [4] (fun jv wr => ∃ m : Nat, m ≤ cn ∧ jv = .int .i64 (m : Int) ∧ Hid (∀ j x, j < m → p.cs[j]? = some x → x.val.length ≤ 300) ∧ w = wr) (fun jv _ => cn - (intOf jv).toNat)
      case atStart => exact ⟨0, Nat.zero_le _, rfl, fun i p hi => absurd hi (Nat.not_lt_zero _), rfl⟩
      case round =>
        obtain ⟨m, hm, rfl, hal2, rfl⟩ := hrel
        have hmi : (0 : Int) ≤ (m : Int) := Int.natCast_nonneg _
        by_cases hmt : m < cn
        · have hml : (m : Int) < (cn : Int) := by omega
          obtain ⟨x, hx⟩ : ∃ x, p.cs[m]? = some x := ⟨_, List.getElem?_eq_getElem (by rw [HCN.out]; exact hmt)⟩
          have hcs2 := HCS.out
          rw [HCN.out] at hcs2
          obtain ⟨b2, o2, xa, xc, rfl, hxv, hxb, hxc⟩ := cds_at hcs2 hx
          have z2 : w.cell? ⟨b2, o2 + m * 7 + 2, none⟩ = some (.slice xa x.val.length xc) := hxc 2 _ rfl
          obtain ⟨xn, hxn⟩ : ∃ n, x.val.length = n := ⟨_, rfl⟩
          rw [hxn] at z2
          have HXN := hid hxn
          have HX := hid hx
          clear hxc hcs2 hxv hxb hxn hx
          by_cases h3 : 300 < (xn : Int)
          · have HE := hid (HNF.out (fun h => by have := h.2.2 x (List.mem_of_getElem? HX.out); rw [HXN.out] at this; omega))
            go_wp2
            go_ret
            exact ⟨by rw [HE.out] <;> rfl, rfl⟩
          · have HA2 : Hid (∀ j y, j < m + 1 → p.cs[j]? = some y → y.val.length ≤ 300) := fun j y hj hy => by
              by_cases e : j = m
              · subst e
                rw [HX.out] at hy
                cases hy
                rw [HXN.out]
                omega
              · exact hal2.out j y (by omega) hy
            go_wp2
            go_roundw
            case rel => exact ⟨m + 1, by omega, by go_num, HA2.out, trivial⟩
            case measure => simp [intOf]; omega
        · obtain rfl : m = cn := by omega
          have HA3 : Hid (∀ i q, i < k + 1 → l[i]? = some q → PfS q) := fun i q hi hq => by
            by_cases e : i = k
            · subst e
              rw [HP.out] at hq
              cases hq
              exact ⟨HS1.out, by rw [HCN.out]; omega, fun x hx => by
                obtain ⟨j, hj, e⟩ := List.mem_iff_getElem.1 hx
                exact hal2.out j x (by rw [← HCN.out]; exact hj) (by rw [List.getElem?_eq_getElem hj, e])⟩
            · exact hall.out i q (by omega) hq
          clear hal2
          go_wp2
          go_roundw
          case rel => exact ⟨k + 1, by omega, by go_num, HA3.out, trivial⟩
          case measure => simp [intOf]; omega
    · obtain rfl : k = n := by omega
      have HVD : Hid (V = decide ((k : Int) ≤ 20)) := by
        show _ = _
        by_cases e : k ≤ 20
        · rw [HT.out ⟨fun p hp => by
            obtain ⟨j, hj, e⟩ := List.mem_iff_getElem.1 hp
            exact hall.out j p (by rw [← HN.out]; exact hj) (by rw [List.getElem?_eq_getElem hj, e]), by rw [HN.out]; exact e⟩, decide_eq_true (by omega)]
        · rw [HF.out (fun h => e (by have := h.2; rw [HN.out] at this; exact this)), decide_eq_false (by omega)]
      clear hall
      go_wp2
      go_ret
      exact ⟨by rw [HVD.out] <;> rfl, rfl⟩
theorem mprofs_any (l : List Pf) : ∃ V : Bool, (V = true ↔ DbS l) ∧ ∀ (w : World) (v : Value), Dbs w v l → Calls Tryz.prog 28 #[v] w (SamePost w V) := by
  obtain ⟨V, hV⟩ := bool_of (p := DbS l)
  refine ⟨V, hV, fun w v hv => ?_⟩
  obtain ⟨a, c, rfl, -⟩ := id hv
  exact mprofs_w a c l _ w rfl hv V hV

set_option maxRecDepth 100000 in
set_option maxHeartbeats 12800000 in
theorem rdbvalid_w (a : Option Addr) (c : Nat) (l : List Pf) (n : Nat) (w : World) (hn : l.length = n) (hl : Dbs w (.slice a n c) l) (V : Bool) (hV : V = true ↔ DbP l) :
    Calls Tryz.prog 30 #[.slice a n c] w (BoolPost w V) := by
  have hnm : n ≤ maxLen := by rw [← hn]; exact Sls.len hl
  have hn64 : n ≤ 9223372036854775807 := by unfold maxLen at hnm; omega
  have HN := hid hn
  have HF : Hid (¬ DbP l → V = false) := fun h => by
    cases e : V with
    | false => rfl
    | true => exact absurd (hV.1 e) h
  have HT := hid hV.2
  have HL := hid hl
  clear hV hn hl
  go_enter Tryz.func30, Tryz.ntmps30
  go_wp2
  go_loopw [3, 5, 6] (fun iv jv mv wr => ∃ k : Nat, k ≤ n ∧ k ≤ 16 ∧ iv = .int .i64 (k : Int) ∧ Hid (DbK l k) ∧ Below w.heap.size w wr) (fun iv _ _ _ => n - (intOf iv).toNat)
  case atStart => exact ⟨0, Nat.zero_le _, Nat.zero_le _, rfl, DbK.zero l, Below.refl _ _⟩
  case round =>
    obtain ⟨k, hk, hk16, rfl, hdb, hbw⟩ := hrel
    have hki : (0 : Int) ≤ (k : Int) := Int.natCast_nonneg _
    by_cases hlt : k < n
    · have hkl : (k : Int) < (n : Int) := by omega
      obtain ⟨p, hp⟩ : ∃ p, l[k]? = some p := ⟨_, List.getElem?_eq_getElem (by rw [HN.out]; exact hlt)⟩
      obtain ⟨b, o, va, vc, rfl, hcs, hps, hcl⟩ := HL.out.at hp
      obtain ⟨y0, y1⟩ := hcl wr hbw
      obtain ⟨B1, hB1⟩ := bool_of (p := NameP p.name)
      obtain ⟨cn, hcn⟩ : ∃ n, p.cs.length = n := ⟨_, rfl⟩
      have hcn64 : cn ≤ 9223372036854775807 := by have := Sls.len hcs; rw [hcn] at this; unfold maxLen at this; omega
      obtain ⟨nm, hnm2⟩ : ∃ s, p.name = s := ⟨_, rfl⟩
      rw [hnm2] at y0 hps
      rw [hcn] at y1
      have HPN : Hid (∀ X, Calls Tryz.prog 67 #[.string nm] X (BoolPost X B1)) := fun X => rname_any nm hps B1 (by rw [← hnm2]; exact hB1) X
      have HNM := hid hnm2
      have HCN := hid hcn
      have HB1 := hid hB1
      have HP := hid hp
      have HCS := hid hcs
      clear hnm2 hcn hB1 hp hcs hcl hps
      go_upto_region 5 with (fail)
      obtain ⟨W1, hW1⟩ : ∃ W, wr.alloc (.cells #[.string nm, .slice va cn vc] 122) = W := ⟨_, rfl⟩
      have hb1 : Below w.heap.size w W1 := by rw [← hW1]; exact bta hbw (Nat.le_refl _) _
      have p1 : W1.heap[wr.heap.size]? = some (.cells #[.string nm, .slice va cn vc] 122) := by rw [← hW1]; exact hpNew wr _
      have x0 : ∀ X, Below W1.heap.size W1 X → X.cell? ⟨wr.heap.size, 0, none⟩ = some (.string nm) := fun X h => hpCell (hpKeep p1 h) 0
      have x1 : ∀ X, Below W1.heap.size W1 X → X.cell? ⟨wr.heap.size, 1, none⟩ = some (.slice va cn vc) := fun X h => hpCell (hpKeep p1 h) 1
      have HB := hid hb1
      have P1 := hid p1
      have r1 : Below W1.heap.size W1 W1 := Below.refl _ _
      rw [hW1]
      clear hW1 hb1 p1 y0 y1
      generalize wr.heap.size = pb at *
      by_cases h16 : 16 ≤ (k : Int)
      · have HE := hid (HF.out (fun h => by have := h.1; rw [HN.out] at this; omega))
        go_wp2_with fail
        go_ret
        exact ⟨by rw [HE.out] <;> rfl, HB.out⟩
      cases B1 with
      | false =>
        have HE := hid (HF.out (fun h => by
          have h2 := (h.2.1 k p (by rw [HN.out]; exact hlt) HP.out).1
          exact Bool.noConfusion (HB1.out.2 h2)))
        go_wp2_with (go_at_call 67; (with_reducible refine (HPN.out _).mono ?_); rintro r w2 ⟨rfl, hb2⟩)
        go_ret
        exact ⟨by rw [HE.out] <;> rfl, bt HB.out hb2 (Nat.le_refl _)⟩
      | true =>
      by_cases c1 : (cn : Int) < 1
      · have HE := hid (HF.out (fun h => by
          have h2 := (h.2.1 k p (by rw [HN.out]; exact hlt) HP.out).2.1
          rw [HCN.out] at h2
          omega))
        go_wp2_with (go_at_call 67; (with_reducible refine (HPN.out _).mono ?_); rintro r w2 ⟨rfl, hb2⟩)
        go_ret
        exact ⟨by rw [HE.out] <;> rfl, bt HB.out hb2 (Nat.le_refl _)⟩
      by_cases c8 : 8 < (cn : Int)
      · have HE := hid (HF.out (fun h => by
          have h2 := (h.2.1 k p (by rw [HN.out]; exact hlt) HP.out).2.2.1
          rw [HCN.out] at h2
          omega))
        go_wp2_with (go_at_call 67; (with_reducible refine (HPN.out _).mono ?_); rintro r w2 ⟨rfl, hb2⟩)
        go_ret
        exact ⟨by rw [HE.out] <;> rfl, bt HB.out hb2 (Nat.le_refl _)⟩
      have HCB : Hid (1 ≤ cn ∧ cn ≤ 8) := by show _ ∧ _; omega
      have H16 : Hid (k < 16) := by show _ < _; omega
      go_upto_region 8 with (go_at_call 67; (with_reducible refine (HPN.out _).mono ?_); rintro r w2 ⟨rfl, hb2⟩)
      have HB2 := hid (bt HB.out hb2 (Nat.le_refl _))
      have P2 := hid (hpKeep P1.out hb2)
      clear x0 x1 hb2 r1 P1 HB HPN c1 c8 h16
      go_wp2
      go_loopw [5] (fun jv wq => ∃ m : Nat, m ≤ k ∧ jv = .int .i64 (m : Int) ∧ Hid (∀ j q, j < m → l[j]? = some q → q.name ≠ p.name) ∧ Below w2.heap.size w2 wq) (fun jv _ => k - (intOf jv).toNat)
      case atStart => exact ⟨0, Nat.zero_le _, rfl, fun j q hj => absurd hj (Nat.not_lt_zero _), Below.refl _ _⟩
      case round =>
        obtain ⟨m, hm, rfl, hno, hbq⟩ := hrel
        have hmi : (0 : Int) ≤ (m : Int) := Int.natCast_nonneg _
        by_cases hmt : m < k
        · have hml : (m : Int) < (k : Int) := by omega
          have hmn : (m : Int) < (n : Int) := by omega
          obtain ⟨q, hq⟩ : ∃ q, l[m]? = some q := ⟨_, List.getElem?_eq_getElem (by rw [HN.out]; omega)⟩
          obtain ⟨b', o', va', vc', e', -, -, hcl'⟩ := HL.out.at hq
          obtain ⟨rfl, rfl⟩ : b' = b ∧ o' = o := by cases e'; exact ⟨rfl, rfl⟩
          have hbwq : Below w.heap.size w wr := bt HB2.out hbq (Nat.le_refl _)
          obtain ⟨y0, -⟩ := hcl' wr hbwq
          have x0 : wr.cell? ⟨pb, 0, none⟩ = some (.string nm) := hpCell (hpKeep P2.out hbq) 0
          obtain ⟨qn, hqn⟩ : ∃ s, q.name = s := ⟨_, rfl⟩
          rw [hqn] at y0
          have HQN := hid hqn
          have HQ := hid hq
          have HBWQ := hid hbwq
          clear hcl' hqn hq hbwq e'
          by_cases e : qn = nm
          · subst e
            have HE := hid (HF.out (fun h => h.2.2 m k q p hmt (by rw [HN.out]; exact hlt) HQ.out HP.out (by rw [HQN.out, HNM.out])))
            go_upto_region 10 with (fail)
            go_quiet (fail)
            go_wp2
            go_ret
            exact ⟨by rw [HE.out] <;> rfl, below_drewN HBWQ.out _⟩
          · have HA2 : Hid (∀ j q, j < m + 1 → l[j]? = some q → q.name ≠ p.name) := fun j r hj hr => by
              by_cases e2 : j = m
              · subst e2
                rw [HQ.out] at hr
                cases hr
                rw [HQN.out, HNM.out]
                exact e
              · exact hno.out j r (by omega) hr
            have g1 : (qn.toList == nm.toList) = false := by
              rw [beq_eq_false_iff_ne]
              intro h
              exact e (ByteArray.ext (Array.toList_inj.1 (by rw [← ByteArray.toList_eq, ← ByteArray.toList_eq]; exact h)))
            clear e
            go_upto_region 10 with (fail)
            go_quiet (fail)
            go_wp2
            go_roundw
            case rel => exact ⟨m + 1, by omega, by go_num, HA2.out, below_drewN hbq _⟩
            case measure => simp [intOf]; omega
        · obtain rfl : m = k := by omega
          have HB3 := hid (bt HB2.out hbq (Nat.le_refl _))
          have P3 := hid (hpKeep P2.out hbq)
          have HNO := hid hno.out
          clear HB2 P2 hno
          go_wp2
          go_loopw [6] (fun jv wx => ∃ t : Nat, t ≤ cn ∧ jv = .int .i64 (t : Int) ∧ Hid (∀ j x, j < t → p.cs[j]? = some x → x.P) ∧ Below wr.heap.size wr wx) (fun jv _ => cn - (intOf jv).toNat)
          case atStart => exact ⟨0, Nat.zero_le _, rfl, fun j x hj => absurd hj (Nat.not_lt_zero _), Below.refl _ _⟩
          case round =>
            obtain ⟨t, ht, rfl, hall, hbx⟩ := hrel
            have hti : (0 : Int) ≤ (t : Int) := Int.natCast_nonneg _
            have x1 : wr.cell? ⟨pb, 1, none⟩ = some (.slice va cn vc) := hpCell (hpKeep P3.out hbx) 1
            have hbwx : Below w.heap.size w wr := bt HB3.out hbx (Nat.le_refl _)
            by_cases htt : t < cn
            · have htl : (t : Int) < (cn : Int) := by omega
              obtain ⟨x, hx⟩ : ∃ x, p.cs[t]? = some x := ⟨_, List.getElem?_eq_getElem (by rw [HCN.out]; exact htt)⟩
              have hcs2 := Sls.keep CdR.keep HCS.out hbwx
              rw [HCN.out] at hcs2
              obtain ⟨b2, o2, xa, xc, rfl, hxv, hxb, hxc⟩ := cds_at hcs2 hx
              have y0 : wr.cell? ⟨b2, o2 + t * 7, none⟩ = some (.int .i64 x.kind) := hxc 0 _ rfl
              have y1 : wr.cell? ⟨b2, o2 + t * 7 + 1, none⟩ = some (.int .i64 x.id) := hxc 1 _ rfl
              have y2 : wr.cell? ⟨b2, o2 + t * 7 + 2, none⟩ = some (.slice xa x.val.length xc) := hxc 2 _ rfl
              have y3 : wr.cell? ⟨b2, o2 + t * 7 + 3, none⟩ = some (.int .i64 x.tab) := hxc 3 _ rfl
              have y4 : wr.cell? ⟨b2, o2 + t * 7 + 4, none⟩ = some (.int .i64 x.f) := hxc 4 _ rfl
              have y5 : wr.cell? ⟨b2, o2 + t * 7 + 5, none⟩ = some (.int .i64 x.cnt) := hxc 5 _ rfl
              have y6 : wr.cell? ⟨b2, o2 + t * 7 + 6, none⟩ = some (.int .i64 x.n) := hxc 6 _ rfl
              obtain ⟨xn, hxn⟩ : ∃ n, x.val.length = n := ⟨_, rfl⟩
              obtain ⟨B, hB⟩ := bool_of (p := x.P)
              rw [hxn] at y2
              have HPC : Hid (Calls Tryz.prog 68 #[.agg #[.int .i64 x.kind, .int .i64 x.id, .slice xa xn xc, .int .i64 x.tab, .int .i64 x.f, .int .i64 x.cnt, .int .i64 x.n]] wr (BoolPost wr B)) :=
                rcond_any x.kind x.id x.tab x.f x.cnt x.n xa xn xc wr (wfi hxb.1) (wfi hxb.2) B (by rw [← hxn]; exact hB)
              have HBB := hid hB
              have HX := hid hx
              have HBWX := hid hbwx
              clear hxc hcs2 hxv hxb hxn hB hx hbwx
              generalize x.kind = f1 at *
              generalize x.id = f2 at *
              generalize x.tab = f3 at *
              generalize x.f = f4 at *
              generalize x.cnt = f5 at *
              generalize x.n = f6 at *
              cases B with
              | false =>
                have HE := hid (HF.out (fun h => by
                  have h2 := (h.2.1 m p (by rw [HN.out]; exact hlt) HP.out).2.2.2 x (List.mem_of_getElem? HX.out)
                  exact Bool.noConfusion (HBB.out.2 h2)))
                go_wp2_with (go_at_call 68; (with_reducible refine HPC.out.mono ?_); rintro r w5 ⟨rfl, hb5⟩)
                go_ret
                exact ⟨by rw [HE.out] <;> rfl, bt HBWX.out hb5 (Nat.le_refl _)⟩
              | true =>
                have HA2 : Hid (∀ j y, j < t + 1 → p.cs[j]? = some y → y.P) := fun j y hj hy => by
                  by_cases e : j = t
                  · subst e
                    rw [HX.out] at hy
                    cases hy
                    exact HBB.out.1 rfl
                  · exact hall.out j y (by omega) hy
                go_wp2_with (go_at_call 68; (with_reducible refine HPC.out.mono ?_); rintro r w5 ⟨rfl, hb5⟩)
                go_roundw
                case rel => exact ⟨t + 1, by omega, by go_num, HA2.out, bt hbx hb5 (Nat.le_refl _)⟩
                case measure => simp [intOf]; omega
            · obtain rfl : t = cn := by omega
              have HD2 : Hid (DbK l (m + 1)) := hdb.out.next HP.out ⟨HB1.out.1 (by trivial), by rw [HCN.out]; exact HCB.out.1, by rw [HCN.out]; exact HCB.out.2, fun x hx => by
                obtain ⟨j, hj, e⟩ := List.mem_iff_getElem.1 hx
                exact hall.out j x (by rw [← HCN.out]; exact hj) (by rw [List.getElem?_eq_getElem hj, e])⟩ (fun i q hi hq => HNO.out i q hi hq)
              have HB5 := hid hbwx
              clear hall
              go_wp2
              go_roundw
              case rel => exact ⟨m + 1, by omega, by have := H16.out; omega, by go_num, HD2.out, HB5.out⟩
              case measure => simp [intOf]; omega
    · obtain rfl : k = n := by omega
      have HE := hid (HT.out ⟨by rw [HN.out]; exact hk16, by rw [HN.out]; exact hdb.out⟩)
      clear hdb
      go_wp2
      go_ret
      exact ⟨by rw [HE.out] <;> rfl, hbw⟩
theorem rdbvalid_any (l : List Pf) : ∃ V : Bool, (V = true ↔ DbP l) ∧ ∀ (w : World) (v : Value), Dbs w v l → Calls Tryz.prog 30 #[v] w (BoolPost w V) := by
  obtain ⟨V, hV⟩ := bool_of (p := DbP l)
  refine ⟨V, hV, fun w v hv => ?_⟩
  obtain ⟨a, c, rfl, -⟩ := id hv
  exact rdbvalid_w a c l _ w rfl hv V hV

end Go.Proofs.YtipnamoocemeeaaGreat
