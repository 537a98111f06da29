/-
  Outcomes and lists of outcomes read from bytes, as plain data. No program in sight.
-/
import Derived.Test.YtlaaoifjiogogaaCodec
namespace Go.Proofs.Ytlaaoifjiogogaa

/-- One outcome read from the beginning of bytes, and what is left. -/
def ocP (b : List UInt8) : Option (Oc × List UInt8) :=
  if bAt b 0 = 2 then
    (if 3 ≤ b.length ∧ Oc.ok ⟨2, Rp.shortOf (bAt b 1) (bAt b 2)⟩ = true then some (⟨2, Rp.shortOf (bAt b 1) (bAt b 2)⟩, b.drop 3) else none)
  else if bAt b 0 = 1 then
    (if tblB (bAt b 1) = true then some (⟨1, Rp.shortOf (bAt b 1) 0⟩, b.drop 2)
     else if 3 ≤ b.length ∧ (b.getD 2 0).toNat + 3 ≤ b.length then
       (match Rp.dec ((b.drop 3).take (b.getD 2 0).toNat) with
        | some x => if x.fn = bAt b 1 ∧ x.exc = 0 then some (⟨1, x⟩, b.drop (3 + (b.getD 2 0).toNat)) else none
        | none => none)
     else none)
  else if bAt b 0 = 3 ∨ bAt b 0 = 4 ∨ bAt b 0 = 5 then some (⟨bAt b 0, Rp.zero⟩, b.drop 1)
  else none

theorem tblB_bd {f : Int} (h : tblB f = true) : 1 ≤ f ∧ f ≤ 4 := by unfold tblB at h; simp at h; omega
theorem tblB_iff {f : Int} : tblB f = true ↔ 1 ≤ f ∧ f ≤ 4 := by unfold tblB; simp

/-- What a valid outcome is. -/
theorem oc_forms {o : Oc} (h : o.ok = true) :
    ((o.verdict = 3 ∨ o.verdict = 4 ∨ o.verdict = 5) ∧ o = ⟨o.verdict, Rp.zero⟩) ∨
    (o.verdict = 2 ∧ knownB o.reply.fn = true ∧ 1 ≤ o.reply.exc ∧ o.reply.exc ≤ 255 ∧ o = ⟨2, Rp.shortOf o.reply.fn o.reply.exc⟩) ∨
    (o.verdict = 1 ∧ tblB o.reply.fn = true ∧ o = ⟨1, Rp.shortOf o.reply.fn 0⟩) ∨
    (o.verdict = 1 ∧ tblB o.reply.fn = false ∧ o.reply.exc = 0 ∧ o.reply.ok = true) := by
  obtain ⟨v, r⟩ := o
  unfold Oc.ok at h
  by_cases h1 : v = 3 ∨ v = 4 ∨ v = 5
  · rw [if_pos h1] at h
    simp only [Bool.and_eq_true, beq_iff_eq, Rp.short, List.isEmpty_iff] at h
    obtain ⟨⟨h2, h3⟩, h4, h5⟩ := h
    have := plain_eq h5
    rw [h2, h3, h4] at this
    exact .inl ⟨h1, by rw [this]; rfl⟩
  · rw [if_neg h1] at h
    by_cases h2 : v = 2
    · rw [if_pos h2] at h
      simp only [Bool.and_eq_true, Bool.not_eq_true', beq_eq_false_iff_ne] at h
      obtain ⟨h3, h4⟩ := h
      rcases ok_forms h4 with ⟨hk, h5, h6, he⟩ | ⟨_, _, _, _, he⟩ | ⟨_, hx, _⟩
      · exact .inr (.inl ⟨h2, hk, h5, h6, by rw [h2]; show Oc.mk 2 r = _; exact congrArg _ he⟩)
      · exact absurd (by rw [he]; rfl) h3
      · exact absurd hx h3
    · rw [if_neg h2] at h
      by_cases h3 : v = 1
      · rw [if_pos h3] at h
        simp only [Bool.and_eq_true, beq_iff_eq] at h
        obtain ⟨h4, h5⟩ := h
        cases ht : tblB r.fn with
        | true =>
          rw [ht, if_pos rfl] at h5
          simp only [Rp.short, Bool.and_eq_true, List.isEmpty_iff] at h5
          have := plain_eq h5.2
          rw [h4, h5.1] at this
          exact .inr (.inr (.inl ⟨h3, rfl, by rw [h3]; exact congrArg _ this⟩))
        | false =>
          rw [ht] at h5
          exact .inr (.inr (.inr ⟨h3, rfl, h4, h5⟩))
      · rw [if_neg h3] at h; cases h

theorem pdu_le' {r : Rp} (h : r.ok = true) : 2 ≤ r.pdu.length ∧ r.pdu.length ≤ 253 := by
  have hd := dec_pdu h
  unfold Rp.dec at hd
  by_cases hl : r.pdu.length < 2 ∨ 253 < r.pdu.length
  · rw [if_pos hl] at hd; cases hd
  · omega

theorem ocP_enc {o : Oc} (h : o.ok = true) (t : List UInt8) : ocP (o.enc ++ t) = some (o, t) := by
  rcases oc_forms h with ⟨hv, he⟩ | ⟨hv, hk, h1, h2, he⟩ | ⟨hv, ht, he⟩ | ⟨hv, ht, hx, hr⟩
  · have e : o.enc = [byteI o.verdict] := by
      unfold Oc.enc
      rw [if_neg (by omega), if_neg (by omega)]
    have e0 : bAt (o.enc ++ t) 0 = o.verdict := by rw [e]; exact byteI_val (by omega) (by omega)
    unfold ocP
    rw [e0, if_neg (by omega), if_neg (by omega), if_pos hv, ← he, e]
    rfl
  · have hf := known_bd hk
    have e : o.enc = [byteI o.verdict, byteI o.reply.fn, byteI o.reply.exc] := by unfold Oc.enc; rw [if_pos hv]
    have e0 : bAt (o.enc ++ t) 0 = 2 := by rw [e, hv]; rfl
    have e1 : bAt (o.enc ++ t) 1 = o.reply.fn := by rw [e]; exact byteI_val (by omega) (by omega)
    have e2 : bAt (o.enc ++ t) 2 = o.reply.exc := by rw [e]; exact byteI_val (by omega) (by omega)
    unfold ocP
    rw [e0, if_pos rfl, e1, e2, ← he, if_pos ⟨by rw [e]; simp, h⟩, e]
    rfl
  · have hf := tblB_bd ht
    have e : o.enc = [byteI o.verdict, byteI o.reply.fn] := by
      unfold Oc.enc
      rw [if_neg (by omega), if_pos hv, if_pos ht]
    have e0 : bAt (o.enc ++ t) 0 = 1 := by rw [e, hv]; rfl
    have e1 : bAt (o.enc ++ t) 1 = o.reply.fn := by rw [e]; exact byteI_val (by omega) (by omega)
    unfold ocP
    rw [e0, if_neg (by decide), if_pos rfl, e1, if_pos ht, ← he, e]
    rfl
  · have hf := ok_cases (fn := o.reply.fn) (exc := o.reply.exc) (data := o.reply.data) (code := o.reply.code) (level := o.reply.level) (more := o.reply.more) (next := o.reply.next) (objs := o.reply.objs) hr
    obtain ⟨p1, p2⟩ := pdu_le' hr
    have e : o.enc = byteI o.verdict :: byteI o.reply.fn :: byteI o.reply.pdu.length :: o.reply.pdu := by
      unfold Oc.enc
      rw [if_neg (by omega), if_pos hv, if_neg (by rw [ht]; decide)]
    have e0 : bAt (o.enc ++ t) 0 = 1 := by rw [e, hv]; rfl
    have e1 : bAt (o.enc ++ t) 1 = o.reply.fn := by rw [e]; exact byteI_val (by omega) (by omega)
    have e2 : ((o.enc ++ t).getD 2 0).toNat = o.reply.pdu.length := by rw [e]; exact byteI_toNat (by omega)
    have el : (o.enc ++ t).length = o.reply.pdu.length + t.length + 3 := by rw [e]; simp
    have e3 : (o.enc ++ t).drop 3 = o.reply.pdu ++ t := by rw [e]; rfl
    have e4 : (o.enc ++ t).drop (3 + o.reply.pdu.length) = t := by
      rw [← List.drop_drop, e3, List.drop_left]
    have eo : o = ⟨1, o.reply⟩ := by rw [← hv]
    unfold ocP
    rw [e0, if_neg (by decide), if_pos rfl, e1, if_neg (by rw [ht]; decide), e2, el, if_pos ⟨by omega, by omega⟩, e3, List.take_left, dec_pdu hr]
    simp only
    rw [if_pos ⟨trivial, hx⟩, e4, ← eo]

theorem ocP_some {b : List UInt8} {o : Oc} {t : List UInt8} (h : ocP b = some (o, t)) : o.ok = true ∧ b = o.enc ++ t := by
  unfold ocP at h
  have hb0 := bAt_bd b 0
  match b, h, hb0 with
  | [], h, _ => simp [bAt] at h
  | c0 :: b, h, hb0 =>
    have e0 : bAt (c0 :: b) 0 = (c0.toNat : Int) := rfl
    rw [e0] at h hb0
    by_cases h2 : (c0.toNat : Int) = 2
    · rw [if_pos h2] at h
      by_cases h3 : 3 ≤ (c0 :: b).length ∧ Oc.ok ⟨2, Rp.shortOf (bAt (c0 :: b) 1) (bAt (c0 :: b) 2)⟩ = true
      · rw [if_pos h3] at h
        simp only [Option.some.injEq, Prod.mk.injEq] at h
        obtain ⟨rfl, rfl⟩ := h
        refine ⟨h3.2, ?_⟩
        obtain ⟨c1, c2, u, rfl⟩ : ∃ c1 c2 u, b = c1 :: c2 :: u := by
          have := h3.1
          match b, this with
          | c1 :: c2 :: u, _ => exact ⟨c1, c2, u, rfl⟩
          | [], this => simp at this
          | [_], this => simp at this
        unfold Oc.enc
        rw [if_pos rfl]
        show c0 :: c1 :: c2 :: u = [byteI 2, byteI (c1.toNat : Int), byteI (c2.toNat : Int)] ++ u
        rw [← h2, byteI_nat, byteI_nat, byteI_nat]
        rfl
      · rw [if_neg h3] at h; cases h
    · rw [if_neg h2] at h
      by_cases h1 : (c0.toNat : Int) = 1
      · rw [if_pos h1] at h
        cases ht : tblB (bAt (c0 :: b) 1) with
        | true =>
          rw [ht, if_pos rfl] at h
          simp only [Option.some.injEq, Prod.mk.injEq] at h
          obtain ⟨rfl, rfl⟩ := h
          match b, ht with
          | [], ht => simp [bAt, tblB] at ht
          | c1 :: u, ht =>
            have ht' : tblB (c1.toNat : Int) = true := ht
            refine ⟨?_, ?_⟩
            · show Oc.ok ⟨1, Rp.shortOf (c1.toNat : Int) 0⟩ = true
              simp [Oc.ok, Rp.shortOf, ht', Rp.short, Rp.plain]
            · unfold Oc.enc
              rw [if_neg (show ¬ (Oc.mk 1 (Rp.shortOf (bAt (c0 :: c1 :: u) 1) 0)).verdict = 2 by show ¬ (1 : Int) = 2; decide), if_pos rfl, if_pos (show tblB (Oc.mk 1 (Rp.shortOf (bAt (c0 :: c1 :: u) 1) 0)).reply.fn = true from ht')]
              show c0 :: c1 :: u = [byteI 1, byteI (c1.toNat : Int)] ++ u
              rw [← h1, byteI_nat, byteI_nat]
              rfl
        | false =>
          rw [ht, if_neg (by decide)] at h
          by_cases h3 : 3 ≤ (c0 :: b).length ∧ ((c0 :: b).getD 2 0).toNat + 3 ≤ (c0 :: b).length
          · rw [if_pos h3] at h
            obtain ⟨c1, c2, u, rfl⟩ : ∃ c1 c2 u, b = c1 :: c2 :: u := by
              have := h3.1
              match b, this with
              | c1 :: c2 :: u, _ => exact ⟨c1, c2, u, rfl⟩
              | [], this => simp at this
              | [_], this => simp at this
            have e2 : (c0 :: c1 :: c2 :: u).getD 2 0 = c2 := rfl
            have e3 : (c0 :: c1 :: c2 :: u).drop 3 = u := rfl
            have e1 : bAt (c0 :: c1 :: c2 :: u) 1 = (c1.toNat : Int) := rfl
            rw [e2] at h3
            rw [e2, e3, e1] at h
            rw [e1] at ht
            cases hd : Rp.dec (u.take c2.toNat) with
            | none => rw [hd] at h; cases h
            | some x =>
              rw [hd] at h
              simp only at h
              by_cases h4 : x.fn = (c1.toNat : Int) ∧ x.exc = 0
              · rw [if_pos h4] at h
                simp only [Option.some.injEq, Prod.mk.injEq] at h
                obtain ⟨rfl, rfl⟩ := h
                obtain ⟨d1, d2⟩ := dec_some hd
                have hl : (u.take c2.toNat).length = c2.toNat := by
                  have := h3.2
                  simp only [List.length_cons] at this
                  simp; omega
                have ht2 : tblB x.fn = false := by rw [h4.1]; exact ht
                refine ⟨?_, ?_⟩
                · show Oc.ok ⟨1, x⟩ = true
                  simp [Oc.ok, ht2, h4.2, d1]
                · unfold Oc.enc
                  rw [if_neg (show ¬ (Oc.mk 1 x).verdict = 2 by show ¬ (1 : Int) = 2; decide), if_pos rfl, if_neg (show ¬ tblB (Oc.mk 1 x).reply.fn = true by rw [ht2]; decide)]
                  show c0 :: c1 :: c2 :: u = (byteI 1 :: byteI x.fn :: byteI (x.pdu.length : Int) :: x.pdu) ++ (c0 :: c1 :: c2 :: u).drop (3 + c2.toNat)
                  rw [d2, hl, h4.1, ← h1, byteI_nat, byteI_nat, byteI_nat, ← List.drop_drop, e3]
                  simp
              · rw [if_neg h4] at h; cases h
          · rw [if_neg h3] at h; cases h
      · rw [if_neg h1] at h
        by_cases h3 : (c0.toNat : Int) = 3 ∨ (c0.toNat : Int) = 4 ∨ (c0.toNat : Int) = 5
        · rw [if_pos h3] at h
          simp only [Option.some.injEq, Prod.mk.injEq] at h
          obtain ⟨rfl, rfl⟩ := h
          refine ⟨?_, ?_⟩
          · unfold Oc.ok
            rw [if_pos h3]
            rfl
          · unfold Oc.enc
            rw [if_neg (show ¬ (Oc.mk (c0.toNat : Int) Rp.zero).verdict = 2 from h2), if_neg (show ¬ (Oc.mk (c0.toNat : Int) Rp.zero).verdict = 1 from h1)]
            show c0 :: b = [byteI (c0.toNat : Int)] ++ b
            rw [byteI_nat]; rfl
        · rw [if_neg h3] at h; cases h

theorem enc_pos (o : Oc) : 1 ≤ o.enc.length := by unfold Oc.enc; simp

def encAll : List Oc → List UInt8
  | [] => []
  | o :: l => o.enc ++ encAll l
theorem encAll_snoc (o : Oc) : ∀ l, encAll (l ++ [o]) = encAll l ++ o.enc
  | [] => by simp [encAll]
  | a :: l => by simp [encAll, encAll_snoc o l]
theorem encAll_app (k : List Oc) : ∀ l, encAll (l ++ k) = encAll l ++ encAll k
  | [] => by simp [encAll]
  | a :: l => by simp [encAll, encAll_app k l]
theorem encAll_len : ∀ l : List Oc, l.length ≤ (encAll l).length
  | [] => Nat.le_refl _
  | a :: l => by have := encAll_len l; have := enc_pos a; simp [encAll]; omega

/-- Outcomes read from bytes, k of them, and what is left. -/
def decN : Nat → List UInt8 → Option (List Oc × List UInt8)
  | 0, b => some ([], b)
  | k + 1, b => match ocP b with
    | some (o, t) => (decN k t).map fun p => (o :: p.1, p.2)
    | none => none

theorem decN_enc : ∀ (l : List Oc) (t : List UInt8), (∀ o ∈ l, o.ok = true) → decN l.length (encAll l ++ t) = some (l, t)
  | [], t, _ => rfl
  | o :: l, t, h => by
    show decN (l.length + 1) (o.enc ++ encAll l ++ t) = _
    unfold decN
    rw [List.append_assoc, ocP_enc (h o (List.mem_cons_self ..))]
    simp only
    rw [decN_enc l t (fun y hy => h y (List.mem_cons_of_mem _ hy))]
    rfl

theorem decN_some : ∀ (k : Nat) (b : List UInt8) (l : List Oc) (t : List UInt8), decN k b = some (l, t) → l.length = k ∧ b = encAll l ++ t ∧ ∀ o ∈ l, o.ok = true
  | 0, b, l, t, h => by
    simp only [decN, Option.some.injEq, Prod.mk.injEq] at h
    obtain ⟨rfl, rfl⟩ := h
    exact ⟨rfl, rfl, fun x hx => by cases hx⟩
  | k + 1, b, l, t, h => by
    unfold decN at h
    cases ho : ocP b with
    | none => rw [ho] at h; cases h
    | some p =>
      obtain ⟨o, u⟩ := p
      rw [ho] at h
      simp only at h
      cases hd : decN k u with
      | none => rw [hd] at h; cases h
      | some p =>
        obtain ⟨l', t'⟩ := p
        rw [hd] at h
        simp only [Option.map_some, Option.some.injEq, Prod.mk.injEq] at h
        obtain ⟨rfl, rfl⟩ := h
        obtain ⟨h1, h2, h3⟩ := decN_some k _ _ _ hd
        obtain ⟨h4, h5⟩ := ocP_some ho
        refine ⟨by simp [h1], by simp [encAll, h5, h2], fun x hx => ?_⟩
        rcases List.mem_cons.1 hx with rfl | hx
        · exact h4
        · exact h3 x hx

/-- The list of outcomes with these bytes. -/
def decL (b : List UInt8) : Option (List Oc) :=
  if 1 ≤ bAt b 0 ∧ bAt b 0 ≤ 64 then
    (match decN (b.getD 0 0).toNat (b.drop 1) with
     | some (l, []) => some l
     | _ => none)
  else none

/-- Lists that can be encoded, and their bytes. -/
def okL (l : List Oc) : Bool := decide (1 ≤ l.length) && decide (l.length ≤ 64) && l.all Oc.ok
def encL (l : List Oc) : List UInt8 := byteI (l.length : Int) :: encAll l

theorem decL_enc {l : List Oc} (h : okL l = true) : decL (encL l) = some l := by
  simp only [okL, Bool.and_eq_true, decide_eq_true_eq, List.all_eq_true] at h
  obtain ⟨⟨h1, h2⟩, h3⟩ := h
  have e0 : bAt (encL l) 0 = l.length := byteI_val (by omega) (by omega)
  have e1 : ((encL l).getD 0 0).toNat = l.length := byteI_toNat (by omega)
  have e2 : (encL l).drop 1 = encAll l ++ [] := by rw [List.append_nil]; rfl
  unfold decL
  rw [e0, if_pos ⟨by omega, by omega⟩, e1, e2, decN_enc l [] h3]

theorem decL_some {b : List UInt8} {l : List Oc} (h : decL b = some l) : okL l = true ∧ encL l = b := by
  unfold decL at h
  by_cases h1 : 1 ≤ bAt b 0 ∧ bAt b 0 ≤ 64
  · rw [if_pos h1] at h
    match b, h, h1 with
    | [], h, h1 => simp [bAt] at h1
    | c :: b, h, h1 =>
      have e0 : bAt (c :: b) 0 = (c.toNat : Int) := rfl
      have e1 : ((c :: b).getD 0 0) = c := rfl
      have e2 : (c :: b).drop 1 = b := rfl
      rw [e1, e2] at h
      rw [e0] at h1
      cases hd : decN c.toNat b with
      | none => rw [hd] at h; cases h
      | some p =>
        obtain ⟨l', t⟩ := p
        rw [hd] at h
        cases t with
        | cons _ _ => cases h
        | nil =>
          simp only [Option.some.injEq] at h
          subst h
          obtain ⟨d1, d2, d3⟩ := decN_some _ _ _ _ hd
          refine ⟨?_, ?_⟩
          · simp only [okL, Bool.and_eq_true, decide_eq_true_eq, List.all_eq_true]
            exact ⟨⟨by omega, by omega⟩, d3⟩
          · unfold encL
            rw [d1, byteI_nat, d2, List.append_nil]
  · rw [if_neg h1] at h; cases h

/-- The reference's way: outcomes to the end of the bytes. -/
def decE : Nat → List UInt8 → Option (List Oc)
  | 0, _ => none
  | k + 1, b => if b = [] then some [] else match ocP b with
    | some (o, t) => (decE k t).map (o :: ·)
    | none => none

theorem decE_some : ∀ (k : Nat) (b : List UInt8) (l : List Oc), decE k b = some l → b = encAll l ∧ ∀ o ∈ l, o.ok = true
  | 0, _, _, h => by cases h
  | k + 1, b, l, h => by
    unfold decE at h
    by_cases hb : b = []
    · rw [if_pos hb] at h
      simp only [Option.some.injEq] at h
      subst h
      exact ⟨hb, fun o ho => by cases ho⟩
    · rw [if_neg hb] at h
      cases ho : ocP b with
      | none => rw [ho] at h; cases h
      | some p =>
        obtain ⟨o, t⟩ := p
        rw [ho] at h
        simp only at h
        cases hd : decE k t with
        | none => rw [hd] at h; cases h
        | some l' =>
          rw [hd] at h
          simp only [Option.map_some, Option.some.injEq] at h
          subst h
          obtain ⟨h1, h2⟩ := decE_some k _ _ hd
          obtain ⟨h4, h5⟩ := ocP_some ho
          refine ⟨by rw [h5, h1]; rfl, fun x hx => ?_⟩
          rcases List.mem_cons.1 hx with rfl | hx
          · exact h4
          · exact h2 x hx

theorem decE_enc : ∀ (l : List Oc) (k : Nat), (∀ o ∈ l, o.ok = true) → l.length < k → decE k (encAll l) = some l
  | [], k + 1, _, _ => by unfold decE; rfl
  | o :: l, k + 1, h, hk => by
    have hne : encAll (o :: l) ≠ [] := by
      have := encAll_len (o :: l)
      intro he
      rw [he] at this
      simp at this
    unfold decE
    rw [if_neg hne]
    show (match ocP (o.enc ++ encAll l) with | some (o, t) => (decE k t).map (o :: ·) | none => none) = _
    rw [ocP_enc (h o (List.mem_cons_self ..))]
    simp only
    rw [decE_enc l k (fun y hy => h y (List.mem_cons_of_mem _ hy)) (by simp at hk; omega)]
    rfl
  | _, 0, _, hk => by omega

/-- What the reference answers. -/
def refL (b : List UInt8) : Option (List Oc) :=
  match decE (b.length + 1) (b.drop 1) with
  | some l => if okL l = true ∧ encL l = b then some l else none
  | none => none

theorem refL_eq (b : List UInt8) : refL b = decL b := by
  cases hd : decL b with
  | some l =>
    obtain ⟨h1, h2⟩ := decL_some hd
    subst h2
    have h3 := h1
    simp only [okL, Bool.and_eq_true, decide_eq_true_eq, List.all_eq_true] at h3
    unfold refL
    have hlen := encAll_len l
    rw [show (encL l).drop 1 = encAll l from rfl, decE_enc l _ h3.2 (by show l.length < (encAll l).length + 1 + 1; omega)]
    simp only
    rw [if_pos ⟨h1, trivial⟩]
  | none =>
    unfold refL
    cases he : decE (b.length + 1) (b.drop 1) with
    | none => rfl
    | some l =>
      simp only
      by_cases h : okL l = true ∧ encL l = b
      · obtain ⟨h1, rfl⟩ := h
        rw [decL_enc h1] at hd
        cases hd
      · rw [if_neg h]

end Go.Proofs.Ytlaaoifjiogogaa
