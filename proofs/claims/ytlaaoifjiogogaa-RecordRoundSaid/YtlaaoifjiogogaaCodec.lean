/-
  Replies and outcomes read from bytes, as plain data: what is read is exactly what is written. No program in sight.
-/
import Derived.Test.YtlaaoifjiogogaaPduSpec
namespace Go.Proofs.Ytlaaoifjiogogaa

/-- The byte number i, as a number. -/
def bAt (b : List UInt8) (i : Nat) : Int := ((b.getD i 0).toNat : Int)
theorem bAt_bd (b : List UInt8) (i : Nat) : 0 ≤ bAt b i ∧ bAt b i ≤ 255 := by
  unfold bAt
  have := (b.getD i 0).toNat_lt
  omega
theorem byteI_nat (x : UInt8) : byteI (x.toNat : Int) = x := by
  unfold byteI
  simp
theorem byteI_nat' (x : UInt8) : byteI ((x.toNat : Nat) : Int) = x := byteI_nat x
theorem byteI_toNat {n : Nat} (h : n ≤ 255) : (byteI (n : Int)).toNat = n := by
  have := byteI_val (x := (n : Int)) (by omega) (by omega)
  omega

/-- Objects read from bytes, k of them, and what is left. -/
def decObs : Nat → List UInt8 → Option (List Ob × List UInt8)
  | 0, b => some ([], b)
  | _ + 1, [] => none
  | _ + 1, [_] => none
  | k + 1, i :: n :: r => if n.toNat ≤ r.length then (decObs k (r.drop n.toNat)).map fun p => (⟨(i.toNat : Int), r.take n.toNat⟩ :: p.1, p.2) else none

theorem decObs_enc : ∀ (l : List Ob) (t : List UInt8), (∀ x ∈ l, 0 ≤ x.id ∧ x.id ≤ 255 ∧ x.val.length ≤ 244) → decObs l.length (encObs l ++ t) = some (l, t)
  | [], t, _ => rfl
  | x :: l, t, h => by
    obtain ⟨h1, h2, h3⟩ := h x (List.mem_cons_self ..)
    have hn : (byteI (x.val.length : Int)).toNat = x.val.length := byteI_toNat (by omega)
    have hi : ((byteI x.id).toNat : Int) = x.id := byteI_val h1 h2
    have ih := decObs_enc l t (fun y hy => h y (List.mem_cons_of_mem _ hy))
    show decObs (l.length + 1) (byteI x.id :: byteI x.val.length :: (x.val ++ encObs l ++ t)) = _
    unfold decObs
    rw [hn, List.append_assoc, if_pos (by simp), List.drop_left, List.take_left, ih, hi]
    rfl

theorem decObs_some : ∀ (k : Nat) (b : List UInt8) (l : List Ob) (t : List UInt8), decObs k b = some (l, t) → l.length = k ∧ b = encObs l ++ t ∧ ∀ x ∈ l, 0 ≤ x.id ∧ x.id ≤ 255 ∧ x.val.length ≤ 255
  | 0, b, l, t, h => by
    simp only [decObs, Option.some.injEq, Prod.mk.injEq] at h
    obtain ⟨rfl, rfl⟩ := h
    exact ⟨rfl, rfl, fun x hx => by cases hx⟩
  | k + 1, [], l, t, h => by simp [decObs] at h
  | k + 1, [_], l, t, h => by simp [decObs] at h
  | k + 1, i :: n :: r, l, t, h => by
    unfold decObs at h
    by_cases hn : n.toNat ≤ r.length
    · rw [if_pos hn] at h
      cases hd : decObs k (r.drop n.toNat) with
      | none => rw [hd] at h; cases h
      | some p =>
        obtain ⟨l', t'⟩ := p
        rw [hd] at h
        simp only [Option.map_some, Option.some.injEq, Prod.mk.injEq] at h
        obtain ⟨rfl, rfl⟩ := h
        obtain ⟨h1, h2, h3⟩ := decObs_some k _ _ _ hd
        have hl : (r.take n.toNat).length = n.toNat := by simp; omega
        have hlt := n.toNat_lt
        have hlt2 := i.toNat_lt
        refine ⟨by simp [h1], ?_, ?_⟩
        · show i :: n :: r = byteI (i.toNat : Int) :: byteI ((r.take n.toNat).length : Int) :: (r.take n.toNat ++ encObs l') ++ t'
          rw [hl, byteI_nat, byteI_nat]
          simp only [List.cons_append, List.append_assoc]
          rw [← h2, List.take_append_drop]
        · intro x hx
          rcases List.mem_cons.1 hx with rfl | hx
          · exact ⟨by show (0 : Int) ≤ (i.toNat : Int); omega, by show (i.toNat : Int) ≤ 255; omega, by show (r.take n.toNat).length ≤ 255; omega⟩
          · exact h3 x hx
    · rw [if_neg hn] at h; cases h

def Rp.shortOf (f x : Int) : Rp := ⟨f, x, [], 0, 0, false, 0, []⟩
def Rp.dataOf (f : Int) (d : List UInt8) : Rp := ⟨f, 0, d, 0, 0, false, 0, []⟩
def Rp.devOf (b : List UInt8) (l : List Ob) : Rp := ⟨43, 0, [], bAt b 2, bAt b 3, b.getD 4 0 == 255, bAt b 5, l⟩

def decDev (b : List UInt8) : Option Rp :=
  if b.length < 7 ∨ bAt b 1 ≠ 14 then none
  else match decObs (b.getD 6 0).toNat (b.drop 7) with
    | some (l, []) => if (Rp.devOf b l).ok = true ∧ (bAt b 4 = 0 ∨ bAt b 4 = 255) then some (Rp.devOf b l) else none
    | _ => none

/-- The reply with these bytes. -/
def Rp.dec (b : List UInt8) : Option Rp :=
  if b.length < 2 ∨ 253 < b.length then none
  else if knownB (bAt b 0 - 128) = true then (if b.length = 2 ∧ bAt b 1 ≠ 0 then some (Rp.shortOf (bAt b 0 - 128) (bAt b 1)) else none)
  else if bAt b 0 = 43 then decDev b
  else if knownB (bAt b 0) = true ∧ bAt b 1 = (b.length : Int) - 2 then (if (Rp.dataOf (bAt b 0) (b.drop 2)).ok = true then some (Rp.dataOf (bAt b 0) (b.drop 2)) else none)
  else none

theorem knownB_of {f : Int} (h : knownB f = true) : f = 1 ∨ f = 2 ∨ f = 3 ∨ f = 4 ∨ f = 17 ∨ f = 43 := by
  unfold knownB tblB at h
  simp at h
  omega
theorem not_knownB {f : Int} (h : f < 1 ∨ 43 < f) : knownB f = false := by
  cases hk : knownB f with
  | false => rfl
  | true => have := knownB_of hk; omega

theorem plain_eq {r : Rp} (h : r.plain = true) : r = ⟨r.fn, r.exc, r.data, 0, 0, false, 0, []⟩ := by
  obtain ⟨fn, exc, data, code, level, more, next, objs⟩ := r
  simp only [Rp.plain, Bool.and_eq_true, beq_iff_eq, Bool.not_eq_true', List.isEmpty_iff] at h
  obtain ⟨⟨⟨⟨rfl, rfl⟩, rfl⟩, rfl⟩, rfl⟩ := h
  rfl

/-- What a valid reply is: an exception, data, or a device identification. -/
theorem ok_forms {r : Rp} (h : r.ok = true) :
    (knownB r.fn = true ∧ 1 ≤ r.exc ∧ r.exc ≤ 255 ∧ r = Rp.shortOf r.fn r.exc) ∨
    (knownB r.fn = true ∧ r.fn ≠ 43 ∧ 1 ≤ r.data.length ∧ r.data.length ≤ 251 ∧ r = Rp.dataOf r.fn r.data) ∨
    (r.fn = 43 ∧ r.exc = 0 ∧ r.devB = true) := by
  unfold Rp.ok at h
  rw [Bool.and_eq_true] at h
  obtain ⟨hk, h⟩ := h
  by_cases hx : r.exc = 0
  · rw [if_pos hx] at h
    by_cases h43 : r.fn = 43
    · rw [if_pos h43] at h
      exact .inr (.inr ⟨h43, hx, h⟩)
    · rw [if_neg h43] at h
      have h2 : 1 ≤ r.data.length ∧ r.data.length ≤ 251 ∧ r.plain = true := by
        by_cases h17 : r.fn = 17
        · rw [if_pos h17] at h; simp only [Bool.and_eq_true, decide_eq_true_eq] at h; exact ⟨by omega, by omega, h.2⟩
        · rw [if_neg h17] at h; simp only [Bool.and_eq_true, decide_eq_true_eq] at h; exact ⟨by omega, by omega, h.2⟩
      refine .inr (.inl ⟨hk, h43, h2.1, h2.2.1, ?_⟩)
      have := plain_eq h2.2.2
      rw [hx] at this
      exact this
  · rw [if_neg hx] at h
    simp only [Bool.and_eq_true, decide_eq_true_eq, Rp.short, List.isEmpty_iff] at h
    obtain ⟨⟨h1, h2⟩, h3, h4⟩ := h
    refine .inl ⟨hk, h1, h2, ?_⟩
    have := plain_eq h4
    rw [h3] at this
    exact this

theorem dev_forms {r : Rp} (h : r.devB = true) : r.data = [] ∧ (1 ≤ r.code ∧ r.code ≤ 3) ∧ (1 ≤ r.level ∧ r.level ≤ 131) ∧ (0 ≤ r.next ∧ r.next ≤ 255) ∧ objsB r.objs = true := by
  simp only [Rp.devB, Bool.and_eq_true, decide_eq_true_eq, List.isEmpty_iff] at h
  obtain ⟨⟨⟨⟨⟨⟨⟨h1, h2⟩, h3⟩, h4⟩, h5⟩, h6⟩, h7⟩, _⟩ := h
  unfold lvB at h4
  simp at h4
  exact ⟨h1, ⟨h2, h3⟩, by omega, ⟨h5, h6⟩, h7⟩

theorem dec_pdu {r : Rp} (h : r.ok = true) : Rp.dec r.pdu = some r := by
  rcases ok_forms h with ⟨hk, h1, h2, he⟩ | ⟨hk, h43, h1, h2, he⟩ | ⟨h43, hx, hd⟩
  · have hf := known_bd hk
    have hp : r.pdu = [byteI (r.fn + 128), byteI r.exc] := by unfold Rp.pdu; rw [if_neg (by omega)]
    have e0 : bAt r.pdu 0 = r.fn + 128 := by rw [hp]; exact byteI_val (by omega) (by omega)
    have e1 : bAt r.pdu 1 = r.exc := by rw [hp]; exact byteI_val (by omega) (by omega)
    have hl : r.pdu.length = 2 := by rw [hp]; rfl
    unfold Rp.dec
    rw [if_neg (by omega), e0, e1, show r.fn + 128 - 128 = r.fn by omega, if_pos hk, if_pos ⟨hl, by omega⟩, ← he]
  · have hf := known_bd hk
    have hx : r.exc = 0 := by rw [he]; rfl
    have hp : r.pdu = byteI r.fn :: byteI r.data.length :: r.data := by unfold Rp.pdu; rw [if_pos hx, if_neg h43]
    have e0 : bAt r.pdu 0 = r.fn := by rw [hp]; exact byteI_val (by omega) (by omega)
    have e1 : bAt r.pdu 1 = r.data.length := by rw [hp]; exact byteI_val (by omega) (by omega)
    have hl : r.pdu.length = r.data.length + 2 := by rw [hp]; rfl
    have e2 : r.pdu.drop 2 = r.data := by rw [hp]; rfl
    unfold Rp.dec
    rw [if_neg (by omega), e0, e1, e2, if_neg (by rw [not_knownB (by omega)]; decide), if_neg h43, if_pos ⟨hk, by omega⟩, ← he, if_pos h]
  · obtain ⟨h1, h2, h3, h4, h5⟩ := dev_forms hd
    obtain ⟨b1, b2, b3⟩ := objsB_bd h5
    have hp : r.pdu = devHead r ++ encObs r.objs := by unfold Rp.pdu; rw [if_pos hx, if_pos h43]
    have hl : r.pdu.length = 7 + obSize r.objs := by rw [hp, List.length_append, encObs_length]; rfl
    have e0 : bAt r.pdu 0 = 43 := by rw [hp]; rfl
    have e1 : bAt r.pdu 1 = 14 := by rw [hp]; rfl
    have e2 : bAt r.pdu 2 = r.code := by rw [hp]; exact byteI_val (by omega) (by omega)
    have e3 : bAt r.pdu 3 = r.level := by rw [hp]; exact byteI_val (by omega) (by omega)
    have e4 : r.pdu.getD 4 0 = byteI (if r.more then 255 else 0) := by rw [hp]; rfl
    have e5 : bAt r.pdu 5 = r.next := by rw [hp]; exact byteI_val (by omega) (by omega)
    have e6 : (r.pdu.getD 6 0).toNat = r.objs.length := by rw [hp]; exact byteI_toNat (by omega)
    have e7 : r.pdu.drop 7 = encObs r.objs ++ [] := by rw [hp, List.append_nil]; rfl
    have hdec : decObs r.objs.length (encObs r.objs ++ []) = some (r.objs, []) := decObs_enc r.objs [] fun x hx => by
      obtain ⟨k, hk⟩ := List.getElem?_of_mem hx
      exact b3 k x hk
    have hm : (r.pdu.getD 4 0 == 255) = r.more := by rw [e4]; cases r.more <;> rfl
    have hm4 : bAt r.pdu 4 = 0 ∨ bAt r.pdu 4 = 255 := by unfold bAt; rw [e4]; cases r.more <;> simp [byteI]
    have hdo : Rp.devOf r.pdu r.objs = r := by
      unfold Rp.devOf
      rw [e2, e3, e5, hm, ← h43, ← hx, ← h1]
    unfold Rp.dec
    rw [if_neg (by omega), e0, if_neg (by decide), if_pos rfl]
    unfold decDev
    rw [if_neg (by rw [e1]; omega), e6, e7, hdec]
    simp only [hdo]
    rw [if_pos ⟨h, hm4⟩]

theorem getD_lt {b : List UInt8} {i : Nat} (h : i < b.length) : b.getD i 0 = b[i] := by simp [List.getD, h]

theorem dec_some {b : List UInt8} {r : Rp} (h : Rp.dec b = some r) : r.ok = true ∧ r.pdu = b := by
  unfold Rp.dec at h
  by_cases hl : b.length < 2 ∨ 253 < b.length
  · rw [if_pos hl] at h; cases h
  rw [if_neg hl] at h
  obtain ⟨c0, c1, t, rfl⟩ : ∃ c0 c1 t, b = c0 :: c1 :: t := by
    match b, hl with
    | c0 :: c1 :: t, _ => exact ⟨c0, c1, t, rfl⟩
    | [], hl => exact absurd (.inl (by simp)) hl
    | [_], hl => exact absurd (.inl (by simp)) hl
  have e0 : bAt (c0 :: c1 :: t) 0 = (c0.toNat : Int) := rfl
  have e1 : bAt (c0 :: c1 :: t) 1 = (c1.toNat : Int) := rfl
  have hc0 := c0.toNat_lt
  have hc1 := c1.toNat_lt
  rw [e0, e1] at h
  by_cases hk : knownB ((c0.toNat : Int) - 128) = true
  · rw [if_pos hk] at h
    by_cases h2 : (c0 :: c1 :: t).length = 2 ∧ (c1.toNat : Int) ≠ 0
    · rw [if_pos h2] at h
      simp only [Option.some.injEq] at h
      subst h
      obtain ⟨h2, h3⟩ := h2
      obtain rfl : t = [] := List.eq_nil_of_length_eq_zero (by simpa using h2)
      refine ⟨?_, ?_⟩
      · show (knownB ((c0.toNat : Int) - 128) && (if (c1.toNat : Int) = 0 then _ else decide (1 ≤ (c1.toNat : Int)) && decide ((c1.toNat : Int) ≤ 255) && true)) = true
        rw [hk, if_neg h3, Bool.true_and, Bool.and_true, Bool.and_eq_true]
        exact ⟨decide_eq_true (by omega), decide_eq_true (by omega)⟩
      · unfold Rp.pdu Rp.shortOf
        rw [if_neg h3]
        show [byteI ((c0.toNat : Int) - 128 + 128), byteI (c1.toNat : Int)] = _
        rw [show (c0.toNat : Int) - 128 + 128 = c0.toNat by omega, byteI_nat, byteI_nat]
    · rw [if_neg h2] at h; cases h
  · rw [if_neg hk] at h
    by_cases h43 : (c0.toNat : Int) = 43
    · rw [if_pos h43] at h
      unfold decDev at h
      by_cases h7 : (c0 :: c1 :: t).length < 7 ∨ bAt (c0 :: c1 :: t) 1 ≠ 14
      · rw [if_pos h7] at h; cases h
      rw [if_neg h7] at h
      rw [e1] at h7
      have h14 : (c1.toNat : Int) = 14 := by
        by_cases hh : (c1.toNat : Int) = 14
        · exact hh
        · exact absurd (.inr hh) h7
      obtain ⟨c2, c3, c4, c5, c6, t, rfl⟩ : ∃ c2 c3 c4 c5 c6 t', t = c2 :: c3 :: c4 :: c5 :: c6 :: t' := by
        have hlt : ¬ (c0 :: c1 :: t).length < 7 := fun hh => h7 (.inl hh)
        simp only [List.length_cons] at hlt
        match t, hlt with
        | c2 :: c3 :: c4 :: c5 :: c6 :: t', _ => exact ⟨c2, c3, c4, c5, c6, t', rfl⟩
        | [], hlt => simp at hlt
        | [_], hlt => simp at hlt
        | [_, _], hlt => simp at hlt
        | [_, _, _], hlt => simp at hlt
        | [_, _, _, _], hlt => simp at hlt
      have e6 : (c0 :: c1 :: c2 :: c3 :: c4 :: c5 :: c6 :: t).getD 6 0 = c6 := rfl
      have e7 : (c0 :: c1 :: c2 :: c3 :: c4 :: c5 :: c6 :: t).drop 7 = t := rfl
      rw [e6, e7] at h
      cases hd : decObs c6.toNat t with
      | none => rw [hd] at h; cases h
      | some p =>
        obtain ⟨l, u⟩ := p
        rw [hd] at h
        cases u with
        | cons _ _ => simp at h
        | nil =>
          simp only at h
          by_cases hok : (Rp.devOf (c0 :: c1 :: c2 :: c3 :: c4 :: c5 :: c6 :: t) l).ok = true ∧ (bAt (c0 :: c1 :: c2 :: c3 :: c4 :: c5 :: c6 :: t) 4 = 0 ∨ bAt (c0 :: c1 :: c2 :: c3 :: c4 :: c5 :: c6 :: t) 4 = 255)
          · rw [if_pos hok] at h
            simp only [Option.some.injEq] at h
            subst h
            refine ⟨hok.1, ?_⟩
            obtain ⟨h1, h2, _⟩ := decObs_some _ _ _ _ hd
            have h4 : (c4.toNat : Int) = 0 ∨ (c4.toNat : Int) = 255 := hok.2
            have e4 : byteI (if (Rp.devOf (c0 :: c1 :: c2 :: c3 :: c4 :: c5 :: c6 :: t) l).more then 255 else 0) = c4 := by
              show byteI (if (c4 == 255) = true then 255 else 0) = c4
              rcases h4 with h4 | h4
              · obtain rfl : c4 = 0 := UInt8.toNat_inj.1 (by simp; omega)
                rfl
              · obtain rfl : c4 = 255 := UInt8.toNat_inj.1 (by simp; omega)
                rfl
            have ec0 : c0 = 43 := UInt8.toNat_inj.1 (by simp; omega)
            have ec1 : c1 = 14 := UInt8.toNat_inj.1 (by simp; omega)
            unfold Rp.pdu
            rw [if_pos (show (Rp.devOf (c0 :: c1 :: c2 :: c3 :: c4 :: c5 :: c6 :: t) l).exc = 0 from rfl), if_pos (show (Rp.devOf (c0 :: c1 :: c2 :: c3 :: c4 :: c5 :: c6 :: t) l).fn = 43 from rfl)]
            unfold devHead
            rw [e4]
            show [43, 14, byteI (c2.toNat : Int), byteI (c3.toNat : Int), c4, byteI (c5.toNat : Int), byteI (l.length : Int)] ++ encObs l = _
            rw [h1, byteI_nat, byteI_nat, byteI_nat, byteI_nat, h2, ec0, ec1]
            simp
          · rw [if_neg hok] at h; cases h
    · rw [if_neg h43] at h
      by_cases hk2 : knownB (c0.toNat : Int) = true ∧ (c1.toNat : Int) = ((c0 :: c1 :: t).length : Int) - 2
      · rw [if_pos hk2] at h
        have e2 : (c0 :: c1 :: t).drop 2 = t := rfl
        rw [e2] at h
        by_cases hok : (Rp.dataOf (c0.toNat : Int) t).ok = true
        · rw [if_pos hok] at h
          simp only [Option.some.injEq] at h
          subst h
          refine ⟨hok, ?_⟩
          unfold Rp.pdu
          rw [if_pos (show (Rp.dataOf (c0.toNat : Int) t).exc = 0 from rfl), if_neg (show ¬ (Rp.dataOf (c0.toNat : Int) t).fn = 43 from h43)]
          show byteI (c0.toNat : Int) :: byteI (t.length : Int) :: t = _
          have hlt : (t.length : Int) = c1.toNat := by have := hk2.2; simp only [List.length_cons] at this; omega
          rw [hlt, byteI_nat, byteI_nat]
        · rw [if_neg hok] at h; cases h
      · rw [if_neg hk2] at h; cases h

end Go.Proofs.Ytlaaoifjiogogaa
