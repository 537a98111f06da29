/-
  Several texts of this claim in one file.
-/
import Derived.Test.YtliblgmpclefgaaGreatSec
import Derived.Test.YtliblgmpclefgaaGreatPbl
import Derived.BigQuiet
import Derived.Test.YtliblgmpclefgaaGreatHn
import Derived.Deep.RegionLaw
import Derived.Deep.CutRange
import Derived.Deep.CutBlock
/-
The reference's identification: good and Next.
-/
namespace Go.Proofs.YtliblgmpclefgaaGreat
open Go.RowKit

/-- A reply that can continue an identification. -/
def goodB (ask : Int) (O : Oc) : Bool := (O.verdict == 1) && ((O.reply.fn == 43) && O.reply.ordB ask)
theorem lastId_take {l : List Ob} {k : Nat} {x : Ob} (h : l[k]? = some x) (la : Int) : lastId la (l.take (k + 1)) = x.id := by rw [take_succ_snoc h, lastId_snoc]
/-- What rises lies above what it rises from. -/
theorem ordF_low : ∀ (l : List Ob) (la : Int), ordF la l = true → l ≠ [] → la < lastId la l
  | [], _, _, h => absurd rfl h
  | [x], la, h, _ => by
    simp only [ordF, Bool.and_eq_true, decide_eq_true_eq] at h
    exact h.1
  | x :: y :: l, la, h, _ => by
    simp only [ordF, Bool.and_eq_true, decide_eq_true_eq] at h
    have := ordF_low (y :: l) x.id (by simp only [ordF, Bool.and_eq_true, decide_eq_true_eq]; exact h.2) (by simp)
    show la < lastId x.id (y :: l)
    omega

end Go.Proofs.YtliblgmpclefgaaGreat

/-
The contract of the reference identification's Feed.
-/
namespace Go.Proofs.YtliblgmpclefgaaGreat
open Go.RowKit


/-- What an append takes: cells that read from an address on. -/
def RowR (w : World) (sz : Nat) (y : Value) (m : Nat) (news : List Value) : Prop :=
  ∃ a c, y = .slice a m c ∧ news.length = m * sz ∧ (a = none → m = 0 ∧ c = 0) ∧ ∀ ad, a = some ad → ∀ (j : Nat) u, news[j]? = some u → w.cell? (ad.add j) = some u

/-- An append onto a row, as a step of a statement whose order is open. -/
theorem step_appR {P : Program} {w : World} {ops : Array Oper} {o : Oper} {a : Act} {K : Act → World → Prop} {Q : Exit → Act → World → Prop} {E : Prop} (hgd : o.guard = none) (s x : Operand) (t : TypeId)
    (ho : o.op = .call { callee := .builtin .append, args := #[s, x], argTypes := #[t, t] })
    (base : Nat) (e : TypeId) (i : TypeInfo) (z : Value) (size bytes : Nat) (ht : P.underlying t = some (.slice e)) (hi : P.info? e = some i) (hz : i.zero = some z)
    (hsize : i.size = size) (hby : i.bytes = bytes) (hzs : z.cells.size = size) (hsz : 0 < size)
    (v : Value) (n : Nat) (xs : List Value) (hs : a.eval s = v) (hown : w.ownsRow base e size v n xs)
    (y : Value) (m : Nat) (news : List Value) (hx : a.eval x = y) (hy : RowR w size y m news) (h1 : ∀ u ∈ news, u.oneCell' = true)
    (h63 : n + m ≤ maxLen) (hbytes : (n + m) * bytes ≤ 140737488355328) (hbase : base ≤ w.heap.size)
    (h : ∀ v' w', w'.ownsRow base e size v' (n + m) (xs ++ news) → w.grownBy w' v.ownBlock → NewOr w v v' → K (a.put o.dst v') w') :
    if Region.wanted o (yielded ops a.tmps) = true then Oper.wp P o a w K Q else E := by
  obtain ⟨ad, c, rfl, hl, hn, hc⟩ := hy
  cases ad with
  | some ad => exact step_appN hgd s x t ho base e i z size bytes ht hi hz hsize hby hzs hsz v n xs hs hown ad m c news hx hl (hc ad rfl) h1 h63 hbytes hbase h
  | none =>
    obtain ⟨rfl, rfl⟩ := hn rfl
    obtain rfl : news = [] := List.eq_nil_of_length_eq_zero (by simpa using hl)
    have hw : Region.wanted o (yielded ops a.tmps) = true := by simp [Region.wanted, hgd]
    rw [if_pos hw]
    subst hsize
    have hrun := run_append_owned_none (P := P) (w := w) base t o.type e i i.size ht hi v n xs hown
    unfold Oper.wp execOp
    simp only [ho, resolve, invoke, builtin, Sem.run_bind, Sem.run_pure, Result.andThen_ok, List.map_toArray, List.map_cons, List.map_nil, hs, hx, hrun]
    exact h v w (by simpa using hown) (World.grownBy.refl _ _) (.inl rfl)

theorem RowR.own {w : World} {base : Nat} {e : TypeId} {size : Nat} {v : Value} {n : Nat} {xs : List Value} (h : w.ownsRow base e size v n xs) : RowR w size v n xs := by
  rcases id h.2 with ⟨rfl, rfl⟩ | ⟨g, cap, cur, rfl, _⟩
  · exact ⟨none, 0, rfl, h.1, fun _ => ⟨rfl, rfl⟩, fun ad e => nomatch e⟩
  · refine ⟨some ⟨g, 0, none⟩, cap, rfl, h.1, (fun e => nomatch e), fun ad e j u hj => ?_⟩
    cases e
    exact h.cells (g := g) rfl j u hj
theorem Obs.cls {w : World} {v : Value} {l : List Ob} (h : Obs w v l) : ∃ cs, CsL 2 (ObQ w) cs l ∧ RowR w 2 v l.length cs := by
  obtain ⟨a, c, rfl, h1, h2, h3, h4⟩ := h
  have main : ∀ (l : List Ob) (b o : Nat), (∀ (i : Nat) x, l[i]? = some x → w.cell? ⟨b, o + i * 2, none⟩ = some (.int .i64 x.id) ∧ ∃ v, w.cell? ⟨b, o + i * 2 + 1, none⟩ = some v ∧ Bs w v x.val) →
      ∃ cs, CsL 2 (ObQ w) cs l ∧ ∀ (j : Nat) u, cs[j]? = some u → w.cell? ⟨b, o + j, none⟩ = some u := by
    intro l b
    induction l with
    | nil => intro o _; exact ⟨[], rfl, fun j u hj => by simp at hj⟩
    | cons x l ih =>
      intro o h
      obtain ⟨g1, v, g2, hv⟩ := h 0 x rfl
      obtain ⟨xa, xc, rfl, _⟩ := id hv
      obtain ⟨cs, h4, h5⟩ := ih (o + 2) (fun i y hy => by
        obtain ⟨e1, v, e2, e3⟩ := h (i + 1) y (by simpa using hy)
        rw [show o + (i + 1) * 2 = o + 2 + i * 2 by omega] at e1 e2
        exact ⟨e1, v, e2, e3⟩)
      refine ⟨[.int .i64 x.id, .slice xa x.val.length xc] ++ cs, ⟨_, cs, rfl, rfl, ⟨xa, xc, rfl, hv⟩, h4⟩, fun j u hj => ?_⟩
      match j, hj with
      | 0, hj => simp at hj; subst hj; simpa using g1
      | 1, hj => simp at hj; subst hj; simpa using g2
      | j + 2, hj =>
        have := h5 j u (by simpa using hj)
        rwa [show o + (j + 2) = o + 2 + j by omega]
  by_cases hl : l = []
  · subst hl
    exact ⟨[], rfl, a, c, rfl, rfl, fun e => ⟨rfl, h3 e⟩, fun ad e j u hj => by simp at hj⟩
  · obtain ⟨b, o, rfl, hc⟩ := h4 hl
    obtain ⟨cs, g1, g2⟩ := main l b o hc
    refine ⟨cs, g1, some ⟨b, o, none⟩, c, rfl, CsL.len _ _ g1, (fun e => nomatch e), fun ad e j u hj => ?_⟩
    cases e
    have := g2 j u hj
    rwa [show (⟨b, o, none⟩ : Addr).add j = ⟨b, o + j, none⟩ by unfold Addr.add; split <;> simp_all]
theorem RowR.keep {w w' : World} {sz : Nat} {y : Value} {m : Nat} {news : List Value} (h : RowR w sz y m news) (hb : Below w.heap.size w w') : RowR w' sz y m news := by
  obtain ⟨a, c, h1, h2, h3, h4⟩ := h
  exact ⟨a, c, h1, h2, h3, fun ad e j u hj => cell_keep hb (h4 ad e j u hj)⟩
theorem CsL.app {α : Type} {sz : Nat} {Q : List Value → α → Prop} : ∀ (l : List α) (cs : List Value), CsL sz Q cs l → ∀ (l' : List α) (cs' : List Value), CsL sz Q cs' l' → CsL sz Q (cs ++ cs') (l ++ l')
  | [], cs, h, l', cs', h' => by obtain rfl : cs = [] := h; exact h'
  | x :: l, cs, h, l', cs', h' => by
    obtain ⟨r, k, rfl, h1, h2, h3⟩ := h
    exact ⟨r, k ++ cs', by simp, h1, h2, CsL.app l k h3 l' cs' h'⟩
theorem ObQ_one {w : World} (r : List Value) (x : Ob) (h : ObQ w r x) : ∀ u ∈ r, u.oneCell' = true := by
  obtain ⟨a, c, rfl, _⟩ := h
  intro u hu
  simp at hu
  rcases hu with rfl | rfl <;> rfl

theorem bad_good (x : Idn) (O : Oc) : x.bad O = (!(goodB x.next O) || (decide (0 < x.cnt) && O.reply.level != x.level)) := by
  simp only [Idn.bad, goodB, bne]
  cases (O.verdict == 1) <;> cases (O.reply.fn == 43) <;> cases (O.reply.ordB x.next) <;> rfl

end Go.Proofs.YtliblgmpclefgaaGreat

/-
The contract of the reference identification's Feed where the reply can continue it.
-/
namespace Go.Proofs.YtliblgmpclefgaaGreat
open Go.RowKit
end Go.Proofs.YtliblgmpclefgaaGreat

/-
The reference's identification (Feed whole, Result), Server, and its search: Next, Result.
-/
namespace Go.Proofs.YtliblgmpclefgaaGreat
open Go.RowKit
end Go.Proofs.YtliblgmpclefgaaGreat

/-
The reference's search: Feed.
-/
namespace Go.Proofs.YtliblgmpclefgaaGreat
open Go.RowKit
def Sr.took' (s : Sr) (F A R1 R3 : Bool) (Q : Int) : Sr := if (F && R1) = true then { s with cnt := s.cnt + 1, st := 5 } else if A = true then { s with cnt := s.cnt + 1, lo := Q } else if (!F && R3) = true then { s with cnt := s.cnt + 1, hi := Q } else { s with cnt := s.cnt + 1, st := 4 }
theorem Sr.took_eq (s : Sr) (v x : Int) : s.took v x = s.took' (s.cnt == 0) (v == 1 || refB v x 2) (refB v x 1) (refB v x 3) s.qty := by
  unfold Sr.took Sr.took' refB
  by_cases h1 : v = 1
  · subst h1
    simp
  · by_cases h2 : v = 2
    · subst h2
      by_cases hc : s.cnt = 0
      · by_cases x1 : x = 1
        · subst x1; simp [hc]
        · by_cases x2 : x = 2
          · subst x2; simp
          · simp [hc, x1, x2]
      · by_cases x2 : x = 2
        · subst x2; simp
        · by_cases x3 : x = 3
          · subst x3; simp [hc]
          · simp [hc, x2, x3]
    · simp [h1, h2]

end Go.Proofs.YtliblgmpclefgaaGreat
