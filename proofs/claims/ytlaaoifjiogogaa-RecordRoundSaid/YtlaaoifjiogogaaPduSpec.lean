/-
  The bytes of replies and outcomes, as plain data. No program in sight.
-/
import Derived.Test.YtlaaoifjiogogaaRecSpec
namespace Go.Proofs.Ytlaaoifjiogogaa

/-- A number from 0 to 255 as a byte. -/
def byteI (x : Int) : UInt8 := UInt8.ofNat x.toNat
theorem byteI_val {x : Int} (h1 : 0 ≤ x) (h2 : x ≤ 255) : ((byteI x).toNat : Int) = x := by
  unfold byteI
  rw [UInt8.toNat_ofNat']
  omega

def encObs : List Ob → List UInt8
  | [] => []
  | x :: l => byteI x.id :: byteI x.val.length :: (x.val ++ encObs l)
def devHead (r : Rp) : List UInt8 := [43, 14, byteI r.code, byteI r.level, byteI (if r.more then 255 else 0), byteI r.next, byteI r.objs.length]
/-- The PDU of a valid reply. -/
def Rp.pdu (r : Rp) : List UInt8 :=
  if r.exc = 0 then (if r.fn = 43 then devHead r ++ encObs r.objs else byteI r.fn :: byteI r.data.length :: r.data) else [byteI (r.fn + 128), byteI r.exc]

theorem encObs_snoc (x : Ob) : ∀ l : List Ob, encObs (l ++ [x]) = encObs l ++ ([byteI x.id, byteI x.val.length] ++ x.val)
  | [] => by simp [encObs]
  | a :: l => by simp [encObs, encObs_snoc x l]
theorem encObs_length : ∀ l : List Ob, (encObs l).length = obSize l
  | [] => rfl
  | a :: l => by simp [encObs, obSize, encObs_length l]; omega

theorem known_bd {f : Int} (h : knownB f = true) : 1 ≤ f ∧ f ≤ 43 := by
  unfold knownB tblB at h
  simp at h
  omega

theorem rises_gt : ∀ (l : List Ob) (last : Int), rises last l = true → ∀ x ∈ l, last < x.id ∧ x.id ≤ 255
  | [], _, _, x, hx => by cases hx
  | a :: l, last, h, x, hx => by
    simp only [rises, Bool.and_eq_true, decide_eq_true_eq] at h
    rcases List.mem_cons.1 hx with rfl | hx
    · exact h.1
    · have := rises_gt l a.id h.2 x hx
      omega
theorem obSize_mem : ∀ (l : List Ob) (x : Ob), x ∈ l → x.val.length + 2 ≤ obSize l
  | [], x, hx => by cases hx
  | a :: l, x, hx => by
    rcases List.mem_cons.1 hx with rfl | hx
    · simp [obSize]; omega
    · have := obSize_mem l x hx
      simp [obSize]; omega
theorem obSize_len : ∀ (l : List Ob), 2 * l.length ≤ obSize l
  | [] => Nat.zero_le _
  | a :: l => by have := obSize_len l; simp [obSize]; omega

theorem objsB_bd {l : List Ob} (h : objsB l = true) : l.length ≤ 123 ∧ obSize l ≤ 246 ∧ ∀ (k : Nat) (x : Ob), l[k]? = some x → 0 ≤ x.id ∧ x.id ≤ 255 ∧ x.val.length ≤ 244 := by
  simp only [objsB, Bool.and_eq_true, decide_eq_true_eq] at h
  have := obSize_len l
  refine ⟨by omega, h.2, fun k x hx => ?_⟩
  have hm := List.mem_of_getElem? hx
  have h1 := rises_gt l _ h.1 x hm
  have h2 := obSize_mem l x hm
  omega

/-- What a valid reply looks like. -/
theorem ok_cases {fn exc : Int} {data : List UInt8} {code level : Int} {more : Bool} {next : Int} {objs : List Ob} (h : Rp.ok ⟨fn, exc, data, code, level, more, next, objs⟩ = true) :
    (1 ≤ fn ∧ fn ≤ 43) ∧ ((exc ≠ 0 ∧ 1 ≤ exc ∧ exc ≤ 255) ∨ (exc = 0 ∧ fn ≠ 43 ∧ fn ≤ 42 ∧ data.length ≤ 251) ∨
      (exc = 0 ∧ fn = 43 ∧ data = [] ∧ 1 ≤ code ∧ code ≤ 3 ∧ 1 ≤ level ∧ level ≤ 131 ∧ 0 ≤ next ∧ next ≤ 255 ∧ objsB objs = true)) := by
  unfold Rp.ok at h
  rw [Bool.and_eq_true] at h
  obtain ⟨hk, h⟩ := h
  have hb : 1 ≤ fn ∧ fn ≤ 43 := known_bd hk
  refine ⟨hb, ?_⟩
  by_cases hx : exc = 0
  · subst hx
    simp only [if_pos] at h
    by_cases hf : fn = 43
    · subst hf
      simp only [if_pos, Rp.devB, Bool.and_eq_true, decide_eq_true_eq, List.isEmpty_iff] at h
      obtain ⟨⟨⟨⟨⟨⟨⟨h1, h2⟩, h3⟩, h4⟩, h5⟩, h6⟩, h7⟩, _⟩ := h
      unfold lvB at h4
      simp at h4
      exact .inr (.inr ⟨rfl, rfl, h1, h2, h3, by omega, by omega, h5, h6, h7⟩)
    · simp only [if_neg hf] at h
      refine .inr (.inl ⟨rfl, hf, by omega, ?_⟩)
      by_cases h17 : fn = 17
      · simp only [if_pos h17, Bool.and_eq_true, decide_eq_true_eq] at h; exact h.1.2
      · simp only [if_neg h17, Bool.and_eq_true, decide_eq_true_eq] at h; omega
  · simp only [if_neg hx, Bool.and_eq_true, decide_eq_true_eq] at h
    exact .inl ⟨hx, h.1.1, h.1.2⟩

/-- The bytes of a valid outcome. -/
def Oc.enc (o : Oc) : List UInt8 :=
  byteI o.verdict :: (if o.verdict = 2 then [byteI o.reply.fn, byteI o.reply.exc] else if o.verdict = 1 then byteI o.reply.fn :: (if tblB o.reply.fn then [] else byteI o.reply.pdu.length :: o.reply.pdu) else [])

end Go.Proofs.Ytlaaoifjiogogaa
