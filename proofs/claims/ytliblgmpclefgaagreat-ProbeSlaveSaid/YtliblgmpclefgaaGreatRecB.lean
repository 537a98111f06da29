/-
  The contract of reply.Valid.
-/
import Derived.Test.YtliblgmpclefgaaGreatMrec
namespace Go.Proofs.YtliblgmpclefgaaGreat
open Go.RowKit

theorem rises_snoc (x : Ob) : ∀ (l : List Ob) (last : Int), rises last (l ++ [x]) = (rises last l && decide (lastId last l < x.id) && decide (x.id ≤ 255))
  | [], last => by show (decide _ && decide _ && true) = (true && decide _ && decide _); rw [Bool.and_true, Bool.true_and]; rfl
  | a :: l, last => by
    show (decide _ && decide _ && rises a.id (l ++ [x])) = (decide _ && decide _ && rises a.id l && decide (lastId a.id l < x.id) && decide (x.id ≤ 255))
    rw [rises_snoc x l a.id]
    simp only [Bool.and_assoc]
theorem lastId_snoc (x : Ob) : ∀ (l : List Ob) (last : Int), lastId last (l ++ [x]) = x.id
  | [], last => rfl
  | a :: l, last => by simp [lastId, lastId_snoc x l]
theorem obSize_snoc (x : Ob) : ∀ (l : List Ob), obSize (l ++ [x]) = obSize l + (2 + x.val.length)
  | [] => by simp [obSize]
  | a :: l => by simp [obSize, obSize_snoc x l]; omega
theorem rises_pre (k : List Ob) : ∀ (l : List Ob) (last : Int), rises last (l ++ k) = true → rises last l = true
  | [], last, _ => rfl
  | a :: l, last, h => by
    simp only [List.cons_append, rises, Bool.and_eq_true] at h ⊢
    exact ⟨h.1, rises_pre k l _ h.2⟩
theorem obSize_pre (k : List Ob) : ∀ (l : List Ob), obSize l ≤ obSize (l ++ k)
  | [] => Nat.zero_le _
  | a :: l => by have := obSize_pre k l; simp [obSize]; omega
theorem take_succ_snoc {α : Type} {l : List α} {k : Nat} {x : α} (h : l[k]? = some x) : l.take (k + 1) = l.take k ++ [x] := by
  rw [List.take_add_one, h]; rfl
theorem objs_no {l : List Ob} {k : Nat} {x : Ob} (h : l[k]? = some x) (hb : ¬ (lastId (-1) (l.take k) < x.id ∧ x.id ≤ 255 ∧ obSize (l.take k) + (2 + x.val.length) ≤ 246)) : objsB l = false := by
  cases hx : objsB l with
  | false => rfl
  | true =>
    exfalso
    apply hb
    unfold objsB at hx
    simp only [Bool.and_eq_true, decide_eq_true_eq] at hx
    have e : l = l.take (k + 1) ++ l.drop (k + 1) := (List.take_append_drop _ _).symm
    have h1 := hx.1
    have h2 := hx.2
    rw [e] at h1 h2
    have h3 := rises_pre _ _ _ h1
    have h4 := obSize_pre (l.drop (k + 1)) (l.take (k + 1))
    rw [take_succ_snoc h] at h3 h4 h2
    rw [rises_snoc] at h3
    rw [obSize_snoc] at h4
    simp only [Bool.and_eq_true, decide_eq_true_eq] at h3
    exact ⟨h3.1.2, h3.2, by omega⟩

def Rp.headB (r : Rp) : Bool := r.data.isEmpty && decide (1 ≤ r.code) && decide (r.code ≤ 3) && lvB r.level && decide (0 ≤ r.next) && decide (r.next ≤ 255)
theorem Rp.devB_eq (r : Rp) : r.devB = (r.headB && objsB r.objs && (if r.more then !r.objs.isEmpty && decide (lastId (-1) r.objs < r.next) else r.next == 0)) := rfl

theorem lv_cases (level : Int) : (1 ≤ level ∧ level ≤ 3 ∧ lvB level = true) ∨ (129 ≤ level ∧ level ≤ 131 ∧ lvB level = true) ∨ (lvB level = false ∧ (level < 1 ∨ (3 < level ∧ level ≤ 128) ∨ 131 < level)) := by
  unfold lvB
  rcases (show (1 ≤ level ∧ level ≤ 3) ∨ (129 ≤ level ∧ level ≤ 131) ∨ (level < 1 ∨ (3 < level ∧ level ≤ 128) ∨ 131 < level) by omega) with h | h | h
  · exact .inl ⟨h.1, h.2, by simp [h]⟩
  · exact .inr (.inl ⟨h.1, h.2, by simp [h]⟩)
  · refine .inr (.inr ⟨?_, h⟩)
    cases hx : (decide (1 ≤ level) && decide (level ≤ 3) || decide (129 ≤ level) && decide (level ≤ 131)) with
    | false => rfl
    | true => simp at hx; omega

theorem headB_false {fn exc : Int} {code level : Int} {more : Bool} {next : Int} {data : List UInt8} {objs : List Ob} (h : Rp.headB ⟨fn, exc, data, code, level, more, next, objs⟩ = false) : Rp.devB ⟨fn, exc, data, code, level, more, next, objs⟩ = false := by
  rw [Rp.devB_eq, h]; rfl

end Go.Proofs.YtliblgmpclefgaaGreat
