/-
  Texts 2 of the claim.
-/
import Derived.Test.YtipnamoocemeeaaGreatB01
/-
  Several texts of this claim in one file.
-/
/-
Replies and outcomes as plain data, and what the chapters on replies and records say of them. No program in sight.
-/
namespace Go.Proofs.YtipnamoocemeeaaGreat

/-- An identification object. -/
structure Ob where
  id : Int
  val : List UInt8

/-- A reply. -/
structure Rp where
  fn : Int
  exc : Int
  data : List UInt8
  code : Int
  level : Int
  more : Bool
  next : Int
  objs : List Ob

/-- An outcome. -/
structure Oc where
  verdict : Int
  reply : Rp

def Rp.zero : Rp := ⟨0, 0, [], 0, 0, false, 0, []⟩

def Ob.same (a b : Ob) : Bool := a.id == b.id && a.val == b.val
def sameObs : List Ob → List Ob → Bool
  | [], [] => true
  | a :: l, b :: k => a.same b && sameObs l k
  | _, _ => false
def Rp.same (a b : Rp) : Bool := a.fn == b.fn && a.exc == b.exc && a.data == b.data && a.code == b.code && a.level == b.level && a.more == b.more && a.next == b.next && sameObs a.objs b.objs
def Oc.same (a b : Oc) : Bool := a.verdict == b.verdict && a.reply.same b.reply

theorem Ob.same_self (a : Ob) : a.same a = true := by simp [Ob.same]
theorem sameObs_self : ∀ l : List Ob, sameObs l l = true
  | [] => rfl
  | a :: l => by simp [sameObs, a.same_self, sameObs_self l]
theorem Rp.same_self (a : Rp) : a.same a = true := by simp [Rp.same, sameObs_self]
theorem Oc.same_self (a : Oc) : a.same a = true := by simp [Oc.same, Rp.same_self]

def tblB (f : Int) : Bool := decide (1 ≤ f) && decide (f ≤ 4)
def knownB (f : Int) : Bool := tblB f || f == 17 || f == 43
def Rp.plain (r : Rp) : Bool := r.code == 0 && r.level == 0 && !r.more && r.next == 0 && r.objs.isEmpty
def Rp.short (r : Rp) : Bool := r.data.isEmpty && r.plain

/-- The identifiers rise from the last one on, and none is above 255. -/
def rises (last : Int) : List Ob → Bool
  | [] => true
  | x :: l => decide (last < x.id) && decide (x.id ≤ 255) && rises x.id l
def obSize : List Ob → Nat
  | [] => 0
  | x :: l => 2 + x.val.length + obSize l
def lastId (last : Int) : List Ob → Int
  | [] => last
  | x :: l => lastId x.id l
def lvB (level : Int) : Bool := (decide (1 ≤ level) && decide (level ≤ 3)) || (decide (129 ≤ level) && decide (level ≤ 131))
def objsB (l : List Ob) : Bool := rises (-1) l && decide (obSize l ≤ 246)
def Rp.devB (r : Rp) : Bool :=
  r.data.isEmpty && decide (1 ≤ r.code) && decide (r.code ≤ 3) && lvB r.level && decide (0 ≤ r.next) && decide (r.next ≤ 255) && objsB r.objs &&
    (if r.more then !r.objs.isEmpty && decide (lastId (-1) r.objs < r.next) else r.next == 0)
def Rp.ok (r : Rp) : Bool :=
  knownB r.fn &&
    if r.exc = 0 then
      (if r.fn = 43 then r.devB else if r.fn = 17 then decide (1 ≤ r.data.length) && decide (r.data.length ≤ 251) && r.plain else decide (1 ≤ r.data.length) && decide (r.data.length ≤ 250) && r.plain)
    else decide (1 ≤ r.exc) && decide (r.exc ≤ 255) && r.short

def Oc.strip (o : Oc) : Oc :=
  ⟨o.verdict, if o.verdict = 1 ∨ o.verdict = 2 then (if o.verdict = 2 ∨ tblB o.reply.fn = true then ⟨o.reply.fn, o.reply.exc, [], 0, 0, false, 0, []⟩ else o.reply) else Rp.zero⟩

def Oc.ok (o : Oc) : Bool :=
  if o.verdict = 3 ∨ o.verdict = 4 ∨ o.verdict = 5 then o.reply.fn == 0 && o.reply.exc == 0 && o.reply.short
  else if o.verdict = 2 then !(o.reply.exc == 0) && o.reply.ok
  else if o.verdict = 1 then (o.reply.exc == 0) && (if tblB o.reply.fn then o.reply.short else o.reply.ok)
  else false

end Go.Proofs.YtipnamoocemeeaaGreat

/-
The bytes of replies and outcomes, as plain data. No program in sight.
-/
namespace Go.Proofs.YtipnamoocemeeaaGreat

/-- A number from 0 to 255 as a byte. -/
def byteI (x : Int) : UInt8 := UInt8.ofNat x.toNat
theorem byteI_val {x : Int} (h1 : 0 ≤ x) (h2 : x ≤ 255) : ((byteI x).toNat : Int) = x := by
  unfold byteI
  rw [UInt8.toNat_ofNat']
  omega

def encObs : List Ob → List UInt8
  | [] => []
  | x :: l => byteI x.id :: byteI x.val.length :: (x.val ++ encObs l)
def devHead (r : Rp) : List UInt8 := [43, 14, byteI r.code, byteI r.level, byteI (if r.more then 255 else 0), byteI r.next, byteI r.objs.length]
/-- The PDU of a valid reply. -/
def Rp.pdu (r : Rp) : List UInt8 :=
  if r.exc = 0 then (if r.fn = 43 then devHead r ++ encObs r.objs else byteI r.fn :: byteI r.data.length :: r.data) else [byteI (r.fn + 128), byteI r.exc]

theorem encObs_snoc (x : Ob) : ∀ l : List Ob, encObs (l ++ [x]) = encObs l ++ ([byteI x.id, byteI x.val.length] ++ x.val)
  | [] => by simp [encObs]
  | a :: l => by simp [encObs, encObs_snoc x l]
theorem encObs_length : ∀ l : List Ob, (encObs l).length = obSize l
  | [] => rfl
  | a :: l => by simp [encObs, obSize, encObs_length l]; omega

theorem known_bd {f : Int} (h : knownB f = true) : 1 ≤ f ∧ f ≤ 43 := by
  unfold knownB tblB at h
  simp at h
  omega

theorem rises_gt : ∀ (l : List Ob) (last : Int), rises last l = true → ∀ x ∈ l, last < x.id ∧ x.id ≤ 255
  | [], _, _, x, hx => by cases hx
  | a :: l, last, h, x, hx => by
    simp only [rises, Bool.and_eq_true, decide_eq_true_eq] at h
    rcases List.mem_cons.1 hx with rfl | hx
    · exact h.1
    · have := rises_gt l a.id h.2 x hx
      omega
theorem obSize_mem : ∀ (l : List Ob) (x : Ob), x ∈ l → x.val.length + 2 ≤ obSize l
  | [], x, hx => by cases hx
  | a :: l, x, hx => by
    rcases List.mem_cons.1 hx with rfl | hx
    · simp [obSize]; omega
    · have := obSize_mem l x hx
      simp [obSize]; omega
theorem obSize_len : ∀ (l : List Ob), 2 * l.length ≤ obSize l
  | [] => Nat.zero_le _
  | a :: l => by have := obSize_len l; simp [obSize]; omega

theorem objsB_bd {l : List Ob} (h : objsB l = true) : l.length ≤ 123 ∧ obSize l ≤ 246 ∧ ∀ (k : Nat) (x : Ob), l[k]? = some x → 0 ≤ x.id ∧ x.id ≤ 255 ∧ x.val.length ≤ 244 := by
  simp only [objsB, Bool.and_eq_true, decide_eq_true_eq] at h
  have := obSize_len l
  refine ⟨by omega, h.2, fun k x hx => ?_⟩
  have hm := List.mem_of_getElem? hx
  have h1 := rises_gt l _ h.1 x hm
  have h2 := obSize_mem l x hm
  omega

/-- What a valid reply looks like. -/
theorem ok_cases {fn exc : Int} {data : List UInt8} {code level : Int} {more : Bool} {next : Int} {objs : List Ob} (h : Rp.ok ⟨fn, exc, data, code, level, more, next, objs⟩ = true) :
    (1 ≤ fn ∧ fn ≤ 43) ∧ ((exc ≠ 0 ∧ 1 ≤ exc ∧ exc ≤ 255) ∨ (exc = 0 ∧ fn ≠ 43 ∧ fn ≤ 42 ∧ data.length ≤ 251) ∨
      (exc = 0 ∧ fn = 43 ∧ data = [] ∧ 1 ≤ code ∧ code ≤ 3 ∧ 1 ≤ level ∧ level ≤ 131 ∧ 0 ≤ next ∧ next ≤ 255 ∧ objsB objs = true)) := by
  unfold Rp.ok at h
  rw [Bool.and_eq_true] at h
  obtain ⟨hk, h⟩ := h
  have hb : 1 ≤ fn ∧ fn ≤ 43 := known_bd hk
  refine ⟨hb, ?_⟩
  by_cases hx : exc = 0
  · subst hx
    simp only [if_pos] at h
    by_cases hf : fn = 43
    · subst hf
      simp only [if_pos, Rp.devB, Bool.and_eq_true, decide_eq_true_eq, List.isEmpty_iff] at h
      obtain ⟨⟨⟨⟨⟨⟨⟨h1, h2⟩, h3⟩, h4⟩, h5⟩, h6⟩, h7⟩, _⟩ := h
      unfold lvB at h4
      simp at h4
      exact .inr (.inr ⟨rfl, rfl, h1, h2, h3, by omega, by omega, h5, h6, h7⟩)
    · simp only [if_neg hf] at h
      refine .inr (.inl ⟨rfl, hf, by omega, ?_⟩)
      by_cases h17 : fn = 17
      · simp only [if_pos h17, Bool.and_eq_true, decide_eq_true_eq] at h; exact h.1.2
      · simp only [if_neg h17, Bool.and_eq_true, decide_eq_true_eq] at h; omega
  · simp only [if_neg hx, Bool.and_eq_true, decide_eq_true_eq] at h
    exact .inl ⟨hx, h.1.1, h.1.2⟩

/-- The bytes of a valid outcome. -/
def Oc.enc (o : Oc) : List UInt8 :=
  byteI o.verdict :: (if o.verdict = 2 then [byteI o.reply.fn, byteI o.reply.exc] else if o.verdict = 1 then byteI o.reply.fn :: (if tblB o.reply.fn then [] else byteI o.reply.pdu.length :: o.reply.pdu) else [])

end Go.Proofs.YtipnamoocemeeaaGreat

/-
Replies and outcomes read from bytes, as plain data: what is read is exactly what is written. No program in sight.
-/
namespace Go.Proofs.YtipnamoocemeeaaGreat

/-- The byte number i, as a number. -/
def bAt (b : List UInt8) (i : Nat) : Int := ((b.getD i 0).toNat : Int)
theorem bAt_bd (b : List UInt8) (i : Nat) : 0 ≤ bAt b i ∧ bAt b i ≤ 255 := by
  unfold bAt
  have := (b.getD i 0).toNat_lt
  omega
theorem byteI_nat (x : UInt8) : byteI (x.toNat : Int) = x := by
  unfold byteI
  simp
theorem byteI_toNat {n : Nat} (h : n ≤ 255) : (byteI (n : Int)).toNat = n := by
  have := byteI_val (x := (n : Int)) (by omega) (by omega)
  omega

/-- Objects read from bytes, k of them, and what is left. -/
def decObs : Nat → List UInt8 → Option (List Ob × List UInt8)
  | 0, b => some ([], b)
  | _ + 1, [] => none
  | _ + 1, [_] => none
  | k + 1, i :: n :: r => if n.toNat ≤ r.length then (decObs k (r.drop n.toNat)).map fun p => (⟨(i.toNat : Int), r.take n.toNat⟩ :: p.1, p.2) else none

theorem decObs_enc : ∀ (l : List Ob) (t : List UInt8), (∀ x ∈ l, 0 ≤ x.id ∧ x.id ≤ 255 ∧ x.val.length ≤ 244) → decObs l.length (encObs l ++ t) = some (l, t)
  | [], t, _ => rfl
  | x :: l, t, h => by
    obtain ⟨h1, h2, h3⟩ := h x (List.mem_cons_self ..)
    have hn : (byteI (x.val.length : Int)).toNat = x.val.length := byteI_toNat (by omega)
    have hi : ((byteI x.id).toNat : Int) = x.id := byteI_val h1 h2
    have ih := decObs_enc l t (fun y hy => h y (List.mem_cons_of_mem _ hy))
    show decObs (l.length + 1) (byteI x.id :: byteI x.val.length :: (x.val ++ encObs l ++ t)) = _
    unfold decObs
    rw [hn, List.append_assoc, if_pos (by simp), List.drop_left, List.take_left, ih, hi]
    rfl

theorem decObs_some : ∀ (k : Nat) (b : List UInt8) (l : List Ob) (t : List UInt8), decObs k b = some (l, t) → l.length = k ∧ b = encObs l ++ t ∧ ∀ x ∈ l, 0 ≤ x.id ∧ x.id ≤ 255 ∧ x.val.length ≤ 255
  | 0, b, l, t, h => by
    simp only [decObs, Option.some.injEq, Prod.mk.injEq] at h
    obtain ⟨rfl, rfl⟩ := h
    exact ⟨rfl, rfl, fun x hx => by cases hx⟩
  | k + 1, [], l, t, h => by simp [decObs] at h
  | k + 1, [_], l, t, h => by simp [decObs] at h
  | k + 1, i :: n :: r, l, t, h => by
    unfold decObs at h
    by_cases hn : n.toNat ≤ r.length
    · rw [if_pos hn] at h
      cases hd : decObs k (r.drop n.toNat) with
      | none => rw [hd] at h; cases h
      | some p =>
        obtain ⟨l', t'⟩ := p
        rw [hd] at h
        simp only [Option.map_some, Option.some.injEq, Prod.mk.injEq] at h
        obtain ⟨rfl, rfl⟩ := h
        obtain ⟨h1, h2, h3⟩ := decObs_some k _ _ _ hd
        have hl : (r.take n.toNat).length = n.toNat := by simp; omega
        have hlt := n.toNat_lt
        have hlt2 := i.toNat_lt
        refine ⟨by simp [h1], ?_, ?_⟩
        · show i :: n :: r = byteI (i.toNat : Int) :: byteI ((r.take n.toNat).length : Int) :: (r.take n.toNat ++ encObs l') ++ t'
          rw [hl, byteI_nat, byteI_nat]
          simp only [List.cons_append, List.append_assoc]
          rw [← h2, List.take_append_drop]
        · intro x hx
          rcases List.mem_cons.1 hx with rfl | hx
          · exact ⟨by show (0 : Int) ≤ (i.toNat : Int); omega, by show (i.toNat : Int) ≤ 255; omega, by show (r.take n.toNat).length ≤ 255; omega⟩
          · exact h3 x hx
    · rw [if_neg hn] at h; cases h

def Rp.shortOf (f x : Int) : Rp := ⟨f, x, [], 0, 0, false, 0, []⟩
def Rp.dataOf (f : Int) (d : List UInt8) : Rp := ⟨f, 0, d, 0, 0, false, 0, []⟩
def Rp.devOf (b : List UInt8) (l : List Ob) : Rp := ⟨43, 0, [], bAt b 2, bAt b 3, b.getD 4 0 == 255, bAt b 5, l⟩

def decDev (b : List UInt8) : Option Rp :=
  if b.length < 7 ∨ bAt b 1 ≠ 14 then none
  else match decObs (b.getD 6 0).toNat (b.drop 7) with
    | some (l, []) => if (Rp.devOf b l).ok = true ∧ (bAt b 4 = 0 ∨ bAt b 4 = 255) then some (Rp.devOf b l) else none
    | _ => none

/-- The reply with these bytes. -/
def Rp.dec (b : List UInt8) : Option Rp :=
  if b.length < 2 ∨ 253 < b.length then none
  else if knownB (bAt b 0 - 128) = true then (if b.length = 2 ∧ bAt b 1 ≠ 0 then some (Rp.shortOf (bAt b 0 - 128) (bAt b 1)) else none)
  else if bAt b 0 = 43 then decDev b
  else if knownB (bAt b 0) = true ∧ bAt b 1 = (b.length : Int) - 2 then (if (Rp.dataOf (bAt b 0) (b.drop 2)).ok = true then some (Rp.dataOf (bAt b 0) (b.drop 2)) else none)
  else none

theorem knownB_of {f : Int} (h : knownB f = true) : f = 1 ∨ f = 2 ∨ f = 3 ∨ f = 4 ∨ f = 17 ∨ f = 43 := by
  unfold knownB tblB at h
  simp at h
  omega
theorem not_knownB {f : Int} (h : f < 1 ∨ 43 < f) : knownB f = false := by
  cases hk : knownB f with
  | false => rfl
  | true => have := knownB_of hk; omega

theorem plain_eq {r : Rp} (h : r.plain = true) : r = ⟨r.fn, r.exc, r.data, 0, 0, false, 0, []⟩ := by
  obtain ⟨fn, exc, data, code, level, more, next, objs⟩ := r
  simp only [Rp.plain, Bool.and_eq_true, beq_iff_eq, Bool.not_eq_true', List.isEmpty_iff] at h
  obtain ⟨⟨⟨⟨rfl, rfl⟩, rfl⟩, rfl⟩, rfl⟩ := h
  rfl

/-- What a valid reply is: an exception, data, or a device identification. -/
theorem ok_forms {r : Rp} (h : r.ok = true) :
    (knownB r.fn = true ∧ 1 ≤ r.exc ∧ r.exc ≤ 255 ∧ r = Rp.shortOf r.fn r.exc) ∨
    (knownB r.fn = true ∧ r.fn ≠ 43 ∧ 1 ≤ r.data.length ∧ r.data.length ≤ 251 ∧ r = Rp.dataOf r.fn r.data) ∨
    (r.fn = 43 ∧ r.exc = 0 ∧ r.devB = true) := by
  unfold Rp.ok at h
  rw [Bool.and_eq_true] at h
  obtain ⟨hk, h⟩ := h
  by_cases hx : r.exc = 0
  · rw [if_pos hx] at h
    by_cases h43 : r.fn = 43
    · rw [if_pos h43] at h
      exact .inr (.inr ⟨h43, hx, h⟩)
    · rw [if_neg h43] at h
      have h2 : 1 ≤ r.data.length ∧ r.data.length ≤ 251 ∧ r.plain = true := by
        by_cases h17 : r.fn = 17
        · rw [if_pos h17] at h; simp only [Bool.and_eq_true, decide_eq_true_eq] at h; exact ⟨by omega, by omega, h.2⟩
        · rw [if_neg h17] at h; simp only [Bool.and_eq_true, decide_eq_true_eq] at h; exact ⟨by omega, by omega, h.2⟩
      refine .inr (.inl ⟨hk, h43, h2.1, h2.2.1, ?_⟩)
      have := plain_eq h2.2.2
      rw [hx] at this
      exact this
  · rw [if_neg hx] at h
    simp only [Bool.and_eq_true, decide_eq_true_eq, Rp.short, List.isEmpty_iff] at h
    obtain ⟨⟨h1, h2⟩, h3, h4⟩ := h
    refine .inl ⟨hk, h1, h2, ?_⟩
    have := plain_eq h4
    rw [h3] at this
    exact this

theorem dev_forms {r : Rp} (h : r.devB = true) : r.data = [] ∧ (1 ≤ r.code ∧ r.code ≤ 3) ∧ (1 ≤ r.level ∧ r.level ≤ 131) ∧ (0 ≤ r.next ∧ r.next ≤ 255) ∧ objsB r.objs = true := by
  simp only [Rp.devB, Bool.and_eq_true, decide_eq_true_eq, List.isEmpty_iff] at h
  obtain ⟨⟨⟨⟨⟨⟨⟨h1, h2⟩, h3⟩, h4⟩, h5⟩, h6⟩, h7⟩, _⟩ := h
  unfold lvB at h4
  simp at h4
  exact ⟨h1, ⟨h2, h3⟩, by omega, ⟨h5, h6⟩, h7⟩

theorem dec_pdu {r : Rp} (h : r.ok = true) : Rp.dec r.pdu = some r := by
  rcases ok_forms h with ⟨hk, h1, h2, he⟩ | ⟨hk, h43, h1, h2, he⟩ | ⟨h43, hx, hd⟩
  · have hf := known_bd hk
    have hp : r.pdu = [byteI (r.fn + 128), byteI r.exc] := by unfold Rp.pdu; rw [if_neg (by omega)]
    have e0 : bAt r.pdu 0 = r.fn + 128 := by rw [hp]; exact byteI_val (by omega) (by omega)
    have e1 : bAt r.pdu 1 = r.exc := by rw [hp]; exact byteI_val (by omega) (by omega)
    have hl : r.pdu.length = 2 := by rw [hp]; rfl
    unfold Rp.dec
    rw [if_neg (by omega), e0, e1, show r.fn + 128 - 128 = r.fn by omega, if_pos hk, if_pos ⟨hl, by omega⟩, ← he]
  · have hf := known_bd hk
    have hx : r.exc = 0 := by rw [he]; rfl
    have hp : r.pdu = byteI r.fn :: byteI r.data.length :: r.data := by unfold Rp.pdu; rw [if_pos hx, if_neg h43]
    have e0 : bAt r.pdu 0 = r.fn := by rw [hp]; exact byteI_val (by omega) (by omega)
    have e1 : bAt r.pdu 1 = r.data.length := by rw [hp]; exact byteI_val (by omega) (by omega)
    have hl : r.pdu.length = r.data.length + 2 := by rw [hp]; rfl
    have e2 : r.pdu.drop 2 = r.data := by rw [hp]; rfl
    unfold Rp.dec
    rw [if_neg (by omega), e0, e1, e2, if_neg (by rw [not_knownB (by omega)]; decide), if_neg h43, if_pos ⟨hk, by omega⟩, ← he, if_pos h]
  · obtain ⟨h1, h2, h3, h4, h5⟩ := dev_forms hd
    obtain ⟨b1, b2, b3⟩ := objsB_bd h5
    have hp : r.pdu = devHead r ++ encObs r.objs := by unfold Rp.pdu; rw [if_pos hx, if_pos h43]
    have hl : r.pdu.length = 7 + obSize r.objs := by rw [hp, List.length_append, encObs_length]; rfl
    have e0 : bAt r.pdu 0 = 43 := by rw [hp]; rfl
    have e1 : bAt r.pdu 1 = 14 := by rw [hp]; rfl
    have e2 : bAt r.pdu 2 = r.code := by rw [hp]; exact byteI_val (by omega) (by omega)
    have e3 : bAt r.pdu 3 = r.level := by rw [hp]; exact byteI_val (by omega) (by omega)
    have e4 : r.pdu.getD 4 0 = byteI (if r.more then 255 else 0) := by rw [hp]; rfl
    have e5 : bAt r.pdu 5 = r.next := by rw [hp]; exact byteI_val (by omega) (by omega)
    have e6 : (r.pdu.getD 6 0).toNat = r.objs.length := by rw [hp]; exact byteI_toNat (by omega)
    have e7 : r.pdu.drop 7 = encObs r.objs ++ [] := by rw [hp, List.append_nil]; rfl
    have hdec : decObs r.objs.length (encObs r.objs ++ []) = some (r.objs, []) := decObs_enc r.objs [] fun x hx => by
      obtain ⟨k, hk⟩ := List.getElem?_of_mem hx
      exact b3 k x hk
    have hm : (r.pdu.getD 4 0 == 255) = r.more := by rw [e4]; cases r.more <;> rfl
    have hm4 : bAt r.pdu 4 = 0 ∨ bAt r.pdu 4 = 255 := by unfold bAt; rw [e4]; cases r.more <;> simp [byteI]
    have hdo : Rp.devOf r.pdu r.objs = r := by
      unfold Rp.devOf
      rw [e2, e3, e5, hm, ← h43, ← hx, ← h1]
    unfold Rp.dec
    rw [if_neg (by omega), e0, if_neg (by decide), if_pos rfl]
    unfold decDev
    rw [if_neg (by rw [e1]; omega), e6, e7, hdec]
    simp only [hdo]
    rw [if_pos ⟨h, hm4⟩]

theorem dec_some {b : List UInt8} {r : Rp} (h : Rp.dec b = some r) : r.ok = true ∧ r.pdu = b := by
  unfold Rp.dec at h
  by_cases hl : b.length < 2 ∨ 253 < b.length
  · rw [if_pos hl] at h; cases h
  rw [if_neg hl] at h
  obtain ⟨c0, c1, t, rfl⟩ : ∃ c0 c1 t, b = c0 :: c1 :: t := by
    match b, hl with
    | c0 :: c1 :: t, _ => exact ⟨c0, c1, t, rfl⟩
    | [], hl => exact absurd (.inl (by simp)) hl
    | [_], hl => exact absurd (.inl (by simp)) hl
  have e0 : bAt (c0 :: c1 :: t) 0 = (c0.toNat : Int) := rfl
  have e1 : bAt (c0 :: c1 :: t) 1 = (c1.toNat : Int) := rfl
  have hc0 := c0.toNat_lt
  have hc1 := c1.toNat_lt
  rw [e0, e1] at h
  by_cases hk : knownB ((c0.toNat : Int) - 128) = true
  · rw [if_pos hk] at h
    by_cases h2 : (c0 :: c1 :: t).length = 2 ∧ (c1.toNat : Int) ≠ 0
    · rw [if_pos h2] at h
      simp only [Option.some.injEq] at h
      subst h
      obtain ⟨h2, h3⟩ := h2
      obtain rfl : t = [] := List.eq_nil_of_length_eq_zero (by simpa using h2)
      refine ⟨?_, ?_⟩
      · show (knownB ((c0.toNat : Int) - 128) && (if (c1.toNat : Int) = 0 then _ else decide (1 ≤ (c1.toNat : Int)) && decide ((c1.toNat : Int) ≤ 255) && true)) = true
        rw [hk, if_neg h3, Bool.true_and, Bool.and_true, Bool.and_eq_true]
        exact ⟨decide_eq_true (by omega), decide_eq_true (by omega)⟩
      · unfold Rp.pdu Rp.shortOf
        rw [if_neg h3]
        show [byteI ((c0.toNat : Int) - 128 + 128), byteI (c1.toNat : Int)] = _
        rw [show (c0.toNat : Int) - 128 + 128 = c0.toNat by omega, byteI_nat, byteI_nat]
    · rw [if_neg h2] at h; cases h
  · rw [if_neg hk] at h
    by_cases h43 : (c0.toNat : Int) = 43
    · rw [if_pos h43] at h
      unfold decDev at h
      by_cases h7 : (c0 :: c1 :: t).length < 7 ∨ bAt (c0 :: c1 :: t) 1 ≠ 14
      · rw [if_pos h7] at h; cases h
      rw [if_neg h7] at h
      rw [e1] at h7
      have h14 : (c1.toNat : Int) = 14 := by
        by_cases hh : (c1.toNat : Int) = 14
        · exact hh
        · exact absurd (.inr hh) h7
      obtain ⟨c2, c3, c4, c5, c6, t, rfl⟩ : ∃ c2 c3 c4 c5 c6 t', t = c2 :: c3 :: c4 :: c5 :: c6 :: t' := by
        have hlt : ¬ (c0 :: c1 :: t).length < 7 := fun hh => h7 (.inl hh)
        simp only [List.length_cons] at hlt
        match t, hlt with
        | c2 :: c3 :: c4 :: c5 :: c6 :: t', _ => exact ⟨c2, c3, c4, c5, c6, t', rfl⟩
        | [], hlt => simp at hlt
        | [_], hlt => simp at hlt
        | [_, _], hlt => simp at hlt
        | [_, _, _], hlt => simp at hlt
        | [_, _, _, _], hlt => simp at hlt
      have e6 : (c0 :: c1 :: c2 :: c3 :: c4 :: c5 :: c6 :: t).getD 6 0 = c6 := rfl
      have e7 : (c0 :: c1 :: c2 :: c3 :: c4 :: c5 :: c6 :: t).drop 7 = t := rfl
      rw [e6, e7] at h
      cases hd : decObs c6.toNat t with
      | none => rw [hd] at h; cases h
      | some p =>
        obtain ⟨l, u⟩ := p
        rw [hd] at h
        cases u with
        | cons _ _ => simp at h
        | nil =>
          simp only at h
          by_cases hok : (Rp.devOf (c0 :: c1 :: c2 :: c3 :: c4 :: c5 :: c6 :: t) l).ok = true ∧ (bAt (c0 :: c1 :: c2 :: c3 :: c4 :: c5 :: c6 :: t) 4 = 0 ∨ bAt (c0 :: c1 :: c2 :: c3 :: c4 :: c5 :: c6 :: t) 4 = 255)
          · rw [if_pos hok] at h
            simp only [Option.some.injEq] at h
            subst h
            refine ⟨hok.1, ?_⟩
            obtain ⟨h1, h2, _⟩ := decObs_some _ _ _ _ hd
            have h4 : (c4.toNat : Int) = 0 ∨ (c4.toNat : Int) = 255 := hok.2
            have e4 : byteI (if (Rp.devOf (c0 :: c1 :: c2 :: c3 :: c4 :: c5 :: c6 :: t) l).more then 255 else 0) = c4 := by
              show byteI (if (c4 == 255) = true then 255 else 0) = c4
              rcases h4 with h4 | h4
              · obtain rfl : c4 = 0 := UInt8.toNat_inj.1 (by simp; omega)
                rfl
              · obtain rfl : c4 = 255 := UInt8.toNat_inj.1 (by simp; omega)
                rfl
            have ec0 : c0 = 43 := UInt8.toNat_inj.1 (by simp; omega)
            have ec1 : c1 = 14 := UInt8.toNat_inj.1 (by simp; omega)
            unfold Rp.pdu
            rw [if_pos (show (Rp.devOf (c0 :: c1 :: c2 :: c3 :: c4 :: c5 :: c6 :: t) l).exc = 0 from rfl), if_pos (show (Rp.devOf (c0 :: c1 :: c2 :: c3 :: c4 :: c5 :: c6 :: t) l).fn = 43 from rfl)]
            unfold devHead
            rw [e4]
            show [43, 14, byteI (c2.toNat : Int), byteI (c3.toNat : Int), c4, byteI (c5.toNat : Int), byteI (l.length : Int)] ++ encObs l = _
            rw [h1, byteI_nat, byteI_nat, byteI_nat, byteI_nat, h2, ec0, ec1]
            simp
          · rw [if_neg hok] at h; cases h
    · rw [if_neg h43] at h
      by_cases hk2 : knownB (c0.toNat : Int) = true ∧ (c1.toNat : Int) = ((c0 :: c1 :: t).length : Int) - 2
      · rw [if_pos hk2] at h
        have e2 : (c0 :: c1 :: t).drop 2 = t := rfl
        rw [e2] at h
        by_cases hok : (Rp.dataOf (c0.toNat : Int) t).ok = true
        · rw [if_pos hok] at h
          simp only [Option.some.injEq] at h
          subst h
          refine ⟨hok, ?_⟩
          unfold Rp.pdu
          rw [if_pos (show (Rp.dataOf (c0.toNat : Int) t).exc = 0 from rfl), if_neg (show ¬ (Rp.dataOf (c0.toNat : Int) t).fn = 43 from h43)]
          show byteI (c0.toNat : Int) :: byteI (t.length : Int) :: t = _
          have hlt : (t.length : Int) = c1.toNat := by have := hk2.2; simp only [List.length_cons] at this; omega
          rw [hlt, byteI_nat, byteI_nat]
        · rw [if_neg hok] at h; cases h
      · rw [if_neg hk2] at h; cases h

end Go.Proofs.YtipnamoocemeeaaGreat

/-
Outcomes and lists of outcomes read from bytes, as plain data. No program in sight.
-/
namespace Go.Proofs.YtipnamoocemeeaaGreat

/-- One outcome read from the beginning of bytes, and what is left. -/
def ocP (b : List UInt8) : Option (Oc × List UInt8) :=
  if bAt b 0 = 2 then
    (if 3 ≤ b.length ∧ Oc.ok ⟨2, Rp.shortOf (bAt b 1) (bAt b 2)⟩ = true then some (⟨2, Rp.shortOf (bAt b 1) (bAt b 2)⟩, b.drop 3) else none)
  else if bAt b 0 = 1 then
    (if tblB (bAt b 1) = true then some (⟨1, Rp.shortOf (bAt b 1) 0⟩, b.drop 2)
     else if 3 ≤ b.length ∧ (b.getD 2 0).toNat + 3 ≤ b.length then
       (match Rp.dec ((b.drop 3).take (b.getD 2 0).toNat) with
        | some x => if x.fn = bAt b 1 ∧ x.exc = 0 then some (⟨1, x⟩, b.drop (3 + (b.getD 2 0).toNat)) else none
        | none => none)
     else none)
  else if bAt b 0 = 3 ∨ bAt b 0 = 4 ∨ bAt b 0 = 5 then some (⟨bAt b 0, Rp.zero⟩, b.drop 1)
  else none

theorem tblB_bd {f : Int} (h : tblB f = true) : 1 ≤ f ∧ f ≤ 4 := by unfold tblB at h; simp at h; omega
theorem tblB_iff {f : Int} : tblB f = true ↔ 1 ≤ f ∧ f ≤ 4 := by unfold tblB; simp

/-- What a valid outcome is. -/
theorem oc_forms {o : Oc} (h : o.ok = true) :
    ((o.verdict = 3 ∨ o.verdict = 4 ∨ o.verdict = 5) ∧ o = ⟨o.verdict, Rp.zero⟩) ∨
    (o.verdict = 2 ∧ knownB o.reply.fn = true ∧ 1 ≤ o.reply.exc ∧ o.reply.exc ≤ 255 ∧ o = ⟨2, Rp.shortOf o.reply.fn o.reply.exc⟩) ∨
    (o.verdict = 1 ∧ tblB o.reply.fn = true ∧ o = ⟨1, Rp.shortOf o.reply.fn 0⟩) ∨
    (o.verdict = 1 ∧ tblB o.reply.fn = false ∧ o.reply.exc = 0 ∧ o.reply.ok = true) := by
  obtain ⟨v, r⟩ := o
  unfold Oc.ok at h
  by_cases h1 : v = 3 ∨ v = 4 ∨ v = 5
  · rw [if_pos h1] at h
    simp only [Bool.and_eq_true, beq_iff_eq, Rp.short, List.isEmpty_iff] at h
    obtain ⟨⟨h2, h3⟩, h4, h5⟩ := h
    have := plain_eq h5
    rw [h2, h3, h4] at this
    exact .inl ⟨h1, by rw [this]; rfl⟩
  · rw [if_neg h1] at h
    by_cases h2 : v = 2
    · rw [if_pos h2] at h
      simp only [Bool.and_eq_true, Bool.not_eq_true', beq_eq_false_iff_ne] at h
      obtain ⟨h3, h4⟩ := h
      rcases ok_forms h4 with ⟨hk, h5, h6, he⟩ | ⟨_, _, _, _, he⟩ | ⟨_, hx, _⟩
      · exact .inr (.inl ⟨h2, hk, h5, h6, by rw [h2]; show Oc.mk 2 r = _; exact congrArg _ he⟩)
      · exact absurd (by rw [he]; rfl) h3
      · exact absurd hx h3
    · rw [if_neg h2] at h
      by_cases h3 : v = 1
      · rw [if_pos h3] at h
        simp only [Bool.and_eq_true, beq_iff_eq] at h
        obtain ⟨h4, h5⟩ := h
        cases ht : tblB r.fn with
        | true =>
          rw [ht, if_pos rfl] at h5
          simp only [Rp.short, Bool.and_eq_true, List.isEmpty_iff] at h5
          have := plain_eq h5.2
          rw [h4, h5.1] at this
          exact .inr (.inr (.inl ⟨h3, rfl, by rw [h3]; exact congrArg _ this⟩))
        | false =>
          rw [ht] at h5
          exact .inr (.inr (.inr ⟨h3, rfl, h4, h5⟩))
      · rw [if_neg h3] at h; cases h

theorem pdu_le' {r : Rp} (h : r.ok = true) : 2 ≤ r.pdu.length ∧ r.pdu.length ≤ 253 := by
  have hd := dec_pdu h
  unfold Rp.dec at hd
  by_cases hl : r.pdu.length < 2 ∨ 253 < r.pdu.length
  · rw [if_pos hl] at hd; cases hd
  · omega

theorem ocP_enc {o : Oc} (h : o.ok = true) (t : List UInt8) : ocP (o.enc ++ t) = some (o, t) := by
  rcases oc_forms h with ⟨hv, he⟩ | ⟨hv, hk, h1, h2, he⟩ | ⟨hv, ht, he⟩ | ⟨hv, ht, hx, hr⟩
  · have e : o.enc = [byteI o.verdict] := by
      unfold Oc.enc
      rw [if_neg (by omega), if_neg (by omega)]
    have e0 : bAt (o.enc ++ t) 0 = o.verdict := by rw [e]; exact byteI_val (by omega) (by omega)
    unfold ocP
    rw [e0, if_neg (by omega), if_neg (by omega), if_pos hv, ← he, e]
    rfl
  · have hf := known_bd hk
    have e : o.enc = [byteI o.verdict, byteI o.reply.fn, byteI o.reply.exc] := by unfold Oc.enc; rw [if_pos hv]
    have e0 : bAt (o.enc ++ t) 0 = 2 := by rw [e, hv]; rfl
    have e1 : bAt (o.enc ++ t) 1 = o.reply.fn := by rw [e]; exact byteI_val (by omega) (by omega)
    have e2 : bAt (o.enc ++ t) 2 = o.reply.exc := by rw [e]; exact byteI_val (by omega) (by omega)
    unfold ocP
    rw [e0, if_pos rfl, e1, e2, ← he, if_pos ⟨by rw [e]; simp, h⟩, e]
    rfl
  · have hf := tblB_bd ht
    have e : o.enc = [byteI o.verdict, byteI o.reply.fn] := by
      unfold Oc.enc
      rw [if_neg (by omega), if_pos hv, if_pos ht]
    have e0 : bAt (o.enc ++ t) 0 = 1 := by rw [e, hv]; rfl
    have e1 : bAt (o.enc ++ t) 1 = o.reply.fn := by rw [e]; exact byteI_val (by omega) (by omega)
    unfold ocP
    rw [e0, if_neg (by decide), if_pos rfl, e1, if_pos ht, ← he, e]
    rfl
  · have hf := ok_cases (fn := o.reply.fn) (exc := o.reply.exc) (data := o.reply.data) (code := o.reply.code) (level := o.reply.level) (more := o.reply.more) (next := o.reply.next) (objs := o.reply.objs) hr
    obtain ⟨p1, p2⟩ := pdu_le' hr
    have e : o.enc = byteI o.verdict :: byteI o.reply.fn :: byteI o.reply.pdu.length :: o.reply.pdu := by
      unfold Oc.enc
      rw [if_neg (by omega), if_pos hv, if_neg (by rw [ht]; decide)]
    have e0 : bAt (o.enc ++ t) 0 = 1 := by rw [e, hv]; rfl
    have e1 : bAt (o.enc ++ t) 1 = o.reply.fn := by rw [e]; exact byteI_val (by omega) (by omega)
    have e2 : ((o.enc ++ t).getD 2 0).toNat = o.reply.pdu.length := by rw [e]; exact byteI_toNat (by omega)
    have el : (o.enc ++ t).length = o.reply.pdu.length + t.length + 3 := by rw [e]; simp
    have e3 : (o.enc ++ t).drop 3 = o.reply.pdu ++ t := by rw [e]; rfl
    have e4 : (o.enc ++ t).drop (3 + o.reply.pdu.length) = t := by
      rw [← List.drop_drop, e3, List.drop_left]
    have eo : o = ⟨1, o.reply⟩ := by rw [← hv]
    unfold ocP
    rw [e0, if_neg (by decide), if_pos rfl, e1, if_neg (by rw [ht]; decide), e2, el, if_pos ⟨by omega, by omega⟩, e3, List.take_left, dec_pdu hr]
    simp only
    rw [if_pos ⟨trivial, hx⟩, e4, ← eo]

theorem ocP_some {b : List UInt8} {o : Oc} {t : List UInt8} (h : ocP b = some (o, t)) : o.ok = true ∧ b = o.enc ++ t := by
  unfold ocP at h
  have hb0 := bAt_bd b 0
  match b, h, hb0 with
  | [], h, _ => simp [bAt] at h
  | c0 :: b, h, hb0 =>
    have e0 : bAt (c0 :: b) 0 = (c0.toNat : Int) := rfl
    rw [e0] at h hb0
    by_cases h2 : (c0.toNat : Int) = 2
    · rw [if_pos h2] at h
      by_cases h3 : 3 ≤ (c0 :: b).length ∧ Oc.ok ⟨2, Rp.shortOf (bAt (c0 :: b) 1) (bAt (c0 :: b) 2)⟩ = true
      · rw [if_pos h3] at h
        simp only [Option.some.injEq, Prod.mk.injEq] at h
        obtain ⟨rfl, rfl⟩ := h
        refine ⟨h3.2, ?_⟩
        obtain ⟨c1, c2, u, rfl⟩ : ∃ c1 c2 u, b = c1 :: c2 :: u := by
          have := h3.1
          match b, this with
          | c1 :: c2 :: u, _ => exact ⟨c1, c2, u, rfl⟩
          | [], this => simp at this
          | [_], this => simp at this
        unfold Oc.enc
        rw [if_pos rfl]
        show c0 :: c1 :: c2 :: u = [byteI 2, byteI (c1.toNat : Int), byteI (c2.toNat : Int)] ++ u
        rw [← h2, byteI_nat, byteI_nat, byteI_nat]
        rfl
      · rw [if_neg h3] at h; cases h
    · rw [if_neg h2] at h
      by_cases h1 : (c0.toNat : Int) = 1
      · rw [if_pos h1] at h
        cases ht : tblB (bAt (c0 :: b) 1) with
        | true =>
          rw [ht, if_pos rfl] at h
          simp only [Option.some.injEq, Prod.mk.injEq] at h
          obtain ⟨rfl, rfl⟩ := h
          match b, ht with
          | [], ht => simp [bAt, tblB] at ht
          | c1 :: u, ht =>
            have ht' : tblB (c1.toNat : Int) = true := ht
            refine ⟨?_, ?_⟩
            · show Oc.ok ⟨1, Rp.shortOf (c1.toNat : Int) 0⟩ = true
              simp [Oc.ok, Rp.shortOf, ht', Rp.short, Rp.plain]
            · unfold Oc.enc
              rw [if_neg (show ¬ (Oc.mk 1 (Rp.shortOf (bAt (c0 :: c1 :: u) 1) 0)).verdict = 2 by show ¬ (1 : Int) = 2; decide), if_pos rfl, if_pos (show tblB (Oc.mk 1 (Rp.shortOf (bAt (c0 :: c1 :: u) 1) 0)).reply.fn = true from ht')]
              show c0 :: c1 :: u = [byteI 1, byteI (c1.toNat : Int)] ++ u
              rw [← h1, byteI_nat, byteI_nat]
              rfl
        | false =>
          rw [ht, if_neg (by decide)] at h
          by_cases h3 : 3 ≤ (c0 :: b).length ∧ ((c0 :: b).getD 2 0).toNat + 3 ≤ (c0 :: b).length
          · rw [if_pos h3] at h
            obtain ⟨c1, c2, u, rfl⟩ : ∃ c1 c2 u, b = c1 :: c2 :: u := by
              have := h3.1
              match b, this with
              | c1 :: c2 :: u, _ => exact ⟨c1, c2, u, rfl⟩
              | [], this => simp at this
              | [_], this => simp at this
            have e2 : (c0 :: c1 :: c2 :: u).getD 2 0 = c2 := rfl
            have e3 : (c0 :: c1 :: c2 :: u).drop 3 = u := rfl
            have e1 : bAt (c0 :: c1 :: c2 :: u) 1 = (c1.toNat : Int) := rfl
            rw [e2] at h3
            rw [e2, e3, e1] at h
            rw [e1] at ht
            cases hd : Rp.dec (u.take c2.toNat) with
            | none => rw [hd] at h; cases h
            | some x =>
              rw [hd] at h
              simp only at h
              by_cases h4 : x.fn = (c1.toNat : Int) ∧ x.exc = 0
              · rw [if_pos h4] at h
                simp only [Option.some.injEq, Prod.mk.injEq] at h
                obtain ⟨rfl, rfl⟩ := h
                obtain ⟨d1, d2⟩ := dec_some hd
                have hl : (u.take c2.toNat).length = c2.toNat := by
                  have := h3.2
                  simp only [List.length_cons] at this
                  simp; omega
                have ht2 : tblB x.fn = false := by rw [h4.1]; exact ht
                refine ⟨?_, ?_⟩
                · show Oc.ok ⟨1, x⟩ = true
                  simp [Oc.ok, ht2, h4.2, d1]
                · unfold Oc.enc
                  rw [if_neg (show ¬ (Oc.mk 1 x).verdict = 2 by show ¬ (1 : Int) = 2; decide), if_pos rfl, if_neg (show ¬ tblB (Oc.mk 1 x).reply.fn = true by rw [ht2]; decide)]
                  show c0 :: c1 :: c2 :: u = (byteI 1 :: byteI x.fn :: byteI (x.pdu.length : Int) :: x.pdu) ++ (c0 :: c1 :: c2 :: u).drop (3 + c2.toNat)
                  rw [d2, hl, h4.1, ← h1, byteI_nat, byteI_nat, byteI_nat, ← List.drop_drop, e3]
                  simp
              · rw [if_neg h4] at h; cases h
          · rw [if_neg h3] at h; cases h
      · rw [if_neg h1] at h
        by_cases h3 : (c0.toNat : Int) = 3 ∨ (c0.toNat : Int) = 4 ∨ (c0.toNat : Int) = 5
        · rw [if_pos h3] at h
          simp only [Option.some.injEq, Prod.mk.injEq] at h
          obtain ⟨rfl, rfl⟩ := h
          refine ⟨?_, ?_⟩
          · unfold Oc.ok
            rw [if_pos h3]
            rfl
          · unfold Oc.enc
            rw [if_neg (show ¬ (Oc.mk (c0.toNat : Int) Rp.zero).verdict = 2 from h2), if_neg (show ¬ (Oc.mk (c0.toNat : Int) Rp.zero).verdict = 1 from h1)]
            show c0 :: b = [byteI (c0.toNat : Int)] ++ b
            rw [byteI_nat]; rfl
        · rw [if_neg h3] at h; cases h

theorem enc_pos (o : Oc) : 1 ≤ o.enc.length := by unfold Oc.enc; simp

def encAll : List Oc → List UInt8
  | [] => []
  | o :: l => o.enc ++ encAll l
theorem encAll_snoc (o : Oc) : ∀ l, encAll (l ++ [o]) = encAll l ++ o.enc
  | [] => by simp [encAll]
  | a :: l => by simp [encAll, encAll_snoc o l]
theorem encAll_len : ∀ l : List Oc, l.length ≤ (encAll l).length
  | [] => Nat.le_refl _
  | a :: l => by have := encAll_len l; have := enc_pos a; simp [encAll]; omega

/-- Outcomes read from bytes, k of them, and what is left. -/
def decN : Nat → List UInt8 → Option (List Oc × List UInt8)
  | 0, b => some ([], b)
  | k + 1, b => match ocP b with
    | some (o, t) => (decN k t).map fun p => (o :: p.1, p.2)
    | none => none

theorem decN_enc : ∀ (l : List Oc) (t : List UInt8), (∀ o ∈ l, o.ok = true) → decN l.length (encAll l ++ t) = some (l, t)
  | [], t, _ => rfl
  | o :: l, t, h => by
    show decN (l.length + 1) (o.enc ++ encAll l ++ t) = _
    unfold decN
    rw [List.append_assoc, ocP_enc (h o (List.mem_cons_self ..))]
    simp only
    rw [decN_enc l t (fun y hy => h y (List.mem_cons_of_mem _ hy))]
    rfl

theorem decN_some : ∀ (k : Nat) (b : List UInt8) (l : List Oc) (t : List UInt8), decN k b = some (l, t) → l.length = k ∧ b = encAll l ++ t ∧ ∀ o ∈ l, o.ok = true
  | 0, b, l, t, h => by
    simp only [decN, Option.some.injEq, Prod.mk.injEq] at h
    obtain ⟨rfl, rfl⟩ := h
    exact ⟨rfl, rfl, fun x hx => by cases hx⟩
  | k + 1, b, l, t, h => by
    unfold decN at h
    cases ho : ocP b with
    | none => rw [ho] at h; cases h
    | some p =>
      obtain ⟨o, u⟩ := p
      rw [ho] at h
      simp only at h
      cases hd : decN k u with
      | none => rw [hd] at h; cases h
      | some p =>
        obtain ⟨l', t'⟩ := p
        rw [hd] at h
        simp only [Option.map_some, Option.some.injEq, Prod.mk.injEq] at h
        obtain ⟨rfl, rfl⟩ := h
        obtain ⟨h1, h2, h3⟩ := decN_some k _ _ _ hd
        obtain ⟨h4, h5⟩ := ocP_some ho
        refine ⟨by simp [h1], by simp [encAll, h5, h2], fun x hx => ?_⟩
        rcases List.mem_cons.1 hx with rfl | hx
        · exact h4
        · exact h3 x hx

/-- The list of outcomes with these bytes. -/
def decL (b : List UInt8) : Option (List Oc) :=
  if 1 ≤ bAt b 0 ∧ bAt b 0 ≤ 64 then
    (match decN (b.getD 0 0).toNat (b.drop 1) with
     | some (l, []) => some l
     | _ => none)
  else none

/-- Lists that can be encoded, and their bytes. -/
def okL (l : List Oc) : Bool := decide (1 ≤ l.length) && decide (l.length ≤ 64) && l.all Oc.ok
def encL (l : List Oc) : List UInt8 := byteI (l.length : Int) :: encAll l

theorem decL_enc {l : List Oc} (h : okL l = true) : decL (encL l) = some l := by
  simp only [okL, Bool.and_eq_true, decide_eq_true_eq, List.all_eq_true] at h
  obtain ⟨⟨h1, h2⟩, h3⟩ := h
  have e0 : bAt (encL l) 0 = l.length := byteI_val (by omega) (by omega)
  have e1 : ((encL l).getD 0 0).toNat = l.length := byteI_toNat (by omega)
  have e2 : (encL l).drop 1 = encAll l ++ [] := by rw [List.append_nil]; rfl
  unfold decL
  rw [e0, if_pos ⟨by omega, by omega⟩, e1, e2, decN_enc l [] h3]

theorem decL_some {b : List UInt8} {l : List Oc} (h : decL b = some l) : okL l = true ∧ encL l = b := by
  unfold decL at h
  by_cases h1 : 1 ≤ bAt b 0 ∧ bAt b 0 ≤ 64
  · rw [if_pos h1] at h
    match b, h, h1 with
    | [], h, h1 => simp [bAt] at h1
    | c :: b, h, h1 =>
      have e0 : bAt (c :: b) 0 = (c.toNat : Int) := rfl
      have e1 : ((c :: b).getD 0 0) = c := rfl
      have e2 : (c :: b).drop 1 = b := rfl
      rw [e1, e2] at h
      rw [e0] at h1
      cases hd : decN c.toNat b with
      | none => rw [hd] at h; cases h
      | some p =>
        obtain ⟨l', t⟩ := p
        rw [hd] at h
        cases t with
        | cons _ _ => cases h
        | nil =>
          simp only [Option.some.injEq] at h
          subst h
          obtain ⟨d1, d2, d3⟩ := decN_some _ _ _ _ hd
          refine ⟨?_, ?_⟩
          · simp only [okL, Bool.and_eq_true, decide_eq_true_eq, List.all_eq_true]
            exact ⟨⟨by omega, by omega⟩, d3⟩
          · unfold encL
            rw [d1, byteI_nat, d2, List.append_nil]
  · rw [if_neg h1] at h; cases h

/-- The reference's way: outcomes to the end of the bytes. -/
def decE : Nat → List UInt8 → Option (List Oc)
  | 0, _ => none
  | k + 1, b => if b = [] then some [] else match ocP b with
    | some (o, t) => (decE k t).map (o :: ·)
    | none => none

theorem decE_enc : ∀ (l : List Oc) (k : Nat), (∀ o ∈ l, o.ok = true) → l.length < k → decE k (encAll l) = some l
  | [], k + 1, _, _ => by unfold decE; rfl
  | o :: l, k + 1, h, hk => by
    have hne : encAll (o :: l) ≠ [] := by
      have := encAll_len (o :: l)
      intro he
      rw [he] at this
      simp at this
    unfold decE
    rw [if_neg hne]
    show (match ocP (o.enc ++ encAll l) with | some (o, t) => (decE k t).map (o :: ·) | none => none) = _
    rw [ocP_enc (h o (List.mem_cons_self ..))]
    simp only
    rw [decE_enc l k (fun y hy => h y (List.mem_cons_of_mem _ hy)) (by simp at hk; omega)]
    rfl
  | _, 0, _, hk => by omega

/-- What the reference answers. -/
def refL (b : List UInt8) : Option (List Oc) :=
  match decE (b.length + 1) (b.drop 1) with
  | some l => if okL l = true ∧ encL l = b then some l else none
  | none => none

theorem refL_eq (b : List UInt8) : refL b = decL b := by
  cases hd : decL b with
  | some l =>
    obtain ⟨h1, h2⟩ := decL_some hd
    subst h2
    have h3 := h1
    simp only [okL, Bool.and_eq_true, decide_eq_true_eq, List.all_eq_true] at h3
    unfold refL
    have hlen := encAll_len l
    rw [show (encL l).drop 1 = encAll l from rfl, decE_enc l _ h3.2 (by show l.length < (encAll l).length + 1 + 1; omega)]
    simp only
    rw [if_pos ⟨h1, trivial⟩]
  | none =>
    unfold refL
    cases he : decE (b.length + 1) (b.drop 1) with
    | none => rfl
    | some l =>
      simp only
      by_cases h : okL l = true ∧ encL l = b
      · obtain ⟨h1, rfl⟩ := h
        rw [decL_enc h1] at hd
        cases hd
      · rw [if_neg h]

end Go.Proofs.YtipnamoocemeeaaGreat
