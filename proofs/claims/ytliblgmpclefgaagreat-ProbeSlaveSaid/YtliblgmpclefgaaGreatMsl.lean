/-
  Several texts of this claim in one file.
-/
import Derived.Test.YtliblgmpclefgaaGreatPbl
import Derived.Test.YtliblgmpclefgaaGreatRq
import Derived.Test.YtliblgmpclefgaaGreatPbn
/-
ProbeSlave, the plain law: a probe that is fed with the true answers of a slave ends with the truth, and asks valid requests.
-/
namespace Go.Proofs.YtliblgmpclefgaaGreat
open Go.RowKit

structure Tbl where
  sup : Bool
  rd : List (Int × Int)
  most : Int
structure Sl where
  bd : Int
  pa : Int
  un : Int
  ts : Nat → Tbl
  lv : Int
  objs : List Ob
  hs : Bool
  sd : List UInt8

def inR (rd : List (Int × Int)) (a : Int) : Bool := rd.any (fun r => decide (r.1 ≤ a) && decide (a - r.1 < r.2))
def kindAt (rd : List (Int × Int)) (a : Int) : Int := if inR rd a = true then 1 else 2
def kindsOf (rd : List (Int × Int)) (a : Int) : Nat → List Int
  | 0 => []
  | n + 1 => kindsOf rd a n ++ [kindAt rd (a + (n : Nat))]
def allR (rd : List (Int × Int)) (a : Int) (n : Nat) : Prop := ∀ i : Nat, i < n → inR rd (a + (i : Nat)) = true
theorem kindsOf_len (rd : List (Int × Int)) (a : Int) : ∀ n, (kindsOf rd a n).length = n
  | 0 => rfl
  | n + 1 => by rw [kindsOf, List.length_append, kindsOf_len rd a n]; rfl
theorem kindsOf_all {rd : List (Int × Int)} {a : Int} {n : Nat} : ∀ (m : Nat), allR rd (a + (n : Nat)) m → kindsOf rd a (n + m) = kindsOf rd a n ++ List.replicate m 1
  | 0, _ => by simp
  | m + 1, h => by
    have ih := kindsOf_all m (fun i hi => h i (by omega))
    have h1 := h m (by omega)
    rw [show n + (m + 1) = (n + m) + 1 by omega, kindsOf, ih, List.replicate_succ', List.append_assoc]
    congr 2
    unfold kindAt
    rw [show a + ((n + m : Nat) : Int) = a + (n : Nat) + (m : Nat) by omega, if_pos h1]
theorem kindsOf_no {rd : List (Int × Int)} {a : Int} {n m : Nat} (h1 : allR rd (a + (n : Nat)) m) (h2 : ¬ allR rd (a + (n : Nat)) (m + 1)) : kindsOf rd a (n + m + 1) = kindsOf rd a n ++ List.replicate m 1 ++ [2] := by
  have h3 : ¬ inR rd (a + (n : Nat) + (m : Nat)) = true := fun h => h2 (fun i hi => by
    by_cases e : i = m
    · rw [e]; exact h
    · exact h1 i (by omega))
  rw [kindsOf, kindsOf_all m h1]
  congr 2
  unfold kindAt
  rw [show a + ((n + m : Nat) : Int) = a + (n : Nat) + (m : Nat) by omega, if_neg h3]

structure Sl.ok (s : Sl) : Prop where
  tb : ∀ k, k < 4 → (s.ts k).sup = true → 1 ≤ (s.ts k).most ∧ (s.ts k).most ≤ limI ((k : Nat) + 1)
  lv : 0 ≤ s.lv
  ob : 0 < s.lv → s.objs ≠ [] ∧ s.objs.length ≤ 16 ∧ ordF (-1) s.objs = true ∧ ∀ y ∈ s.objs, y.id ≤ 255
  sd : s.hs = true → 0 < s.sd.length

structure AnsT (t : Tbl) (q : Rq) (O : Oc) : Prop where
  no : t.sup = false → O.verdict = 2 ∧ O.reply.exc = 1
  big : t.sup = true → t.most < q.qty → O.verdict = 2 ∧ O.reply.exc = 3
  yes : t.sup = true → q.qty ≤ t.most → allR t.rd q.addr q.qty.toNat → O.verdict = 1
  out : t.sup = true → q.qty ≤ t.most → ¬ allR t.rd q.addr q.qty.toNat → O.verdict = 2 ∧ O.reply.exc = 2
structure AnsD (s : Sl) (q : Rq) (O : Oc) : Prop where
  no : s.lv = 0 → O.verdict = 2 ∧ O.reply.exc = 1
  yes : 0 < s.lv → ∀ done rest, s.objs = done ++ rest → rest ≠ [] → (∀ x ∈ done, x.id < q.obj) → (∀ x, rest.head? = some x → q.obj ≤ x.id) →
    ∃ n, 1 ≤ n ∧ n ≤ rest.length ∧ O.verdict = 1 ∧ O.reply.fn = 43 ∧ O.reply.level = s.lv ∧ O.reply.objs = rest.take n ∧ O.reply.more = decide (n < rest.length) ∧ ∀ x, rest[n]? = some x → O.reply.next = x.id
structure AnsS (s : Sl) (O : Oc) : Prop where
  no : s.hs = false → O.verdict = 2 ∧ O.reply.exc = 1
  yes : s.hs = true → O.verdict = 1 ∧ O.reply.fn = 17 ∧ O.reply.data = s.sd
/-- A slave's true answer to a request. -/
structure Ans (s : Sl) (q : Rq) (O : Oc) : Prop where
  t : ∀ k, k < 4 → q.fn = (k : Nat) + 1 → AnsT (s.ts k) q O
  d : q.fn = 43 → AnsD s q O
  s : q.fn = 17 → AnsS s O

def Tbl.truth (t : Tbl) (w : Int × Int) : Tb := if w.2 = 0 then ⟨6, 0, []⟩ else if t.sup = true then ⟨2, t.most, rle (kindsOf t.rd w.1 w.2.toNat)⟩ else ⟨5, 0, []⟩
def Sl.d1 : Dv := { Dv.zero with st := 2 }
def Sl.d2 (s : Sl) : Dv := { Sl.d1 with idn := if 0 < s.lv then 2 else 5, lv := if 0 < s.lv then s.lv else 0, objs := if 0 < s.lv then s.objs else [] }
def Sl.d3 (s : Sl) : Dv := { s.d2 with srv := if s.hs = true then 2 else 5, sd := if s.hs = true then s.sd else [] }
def Sl.dk (s : Sl) (win : Nat → Int × Int) (k : Nat) : Dv := { s.d3 with ts := fun i => if i < k then (s.ts i).truth (win i) else ⟨0, 0, []⟩ }
theorem Sl.dk_succ (s : Sl) (win : Nat → Int × Int) (k : Nat) : (s.dk win k).tab k ((s.ts k).truth (win k)) = s.dk win (k + 1) := by
  unfold Sl.dk Dv.tab
  congr 1
  funext i
  by_cases h : i = k
  · subst h
    rw [if_pos rfl, if_pos (by omega)]
  · rw [if_neg h]
    dsimp only
    by_cases h2 : i < k
    · rw [if_pos h2, if_pos (by omega)]
    · rw [if_neg h2, if_neg (by omega)]
theorem Sl.dk_at (s : Sl) (win : Nat → Int × Int) (k : Nat) : (s.dk win k).ts k = ⟨0, 0, []⟩ := if_neg (Nat.lt_irrefl k)

structure TruI (s : Sl) (x : Idn) : Prop where
  no : s.lv = 0 → x.cnt = 0
  n0 : 0 ≤ x.next
  n1 : x.next ≤ 255
  yes : 0 < s.lv → ∃ rest, s.objs = x.objs ++ rest ∧ rest ≠ [] ∧ (∀ y ∈ x.objs, y.id < x.next) ∧ (∀ y, rest.head? = some y → x.next ≤ y.id) ∧ (x.cnt ≠ 0 → x.level = s.lv) ∧ x.cnt ≤ x.objs.length
structure TruS (t : Tbl) (k : Nat) (r : Sr) : Prop where
  tb : r.tb = (k : Nat) + 1
  hi : r.hi ≤ limI ((k : Nat) + 1) + 1
  no : t.sup = false → r.cnt = 0
  yes : t.sup = true → r.lo ≤ t.most ∧ t.most < r.hi
structure TruM (t : Tbl) (k : Nat) (w : Int × Int) (m : Mp) : Prop where
  tb : m.tb = (k : Nat) + 1
  fi : m.first = w.1
  cn : m.cnt = w.2
  sup : t.sup = true
  mo : m.most ≤ t.most
  ks : m.ks = kindsOf t.rd w.1 m.ks.length
  se : m.mode = 2 → allR t.rd (w.1 + (m.ks.length : Nat)) m.lo.toNat ∧ ¬ allR t.rd (w.1 + (m.ks.length : Nat)) m.hi.toNat ∧ m.hi ≤ m.most
/-- What is true of a probe that was fed with a slave's true answers. -/
def Tru (s : Sl) (win : Nat → Int × Int) (p : Pb) : Prop :=
  match p.ph with
  | .test => p.d = Dv.zero
  | .ident x => p.d = Sl.d1 ∧ TruI s x
  | .server => p.d = s.d2
  | .seek k r => p.d = s.dk win k ∧ TruS (s.ts k) k r
  | .map k m => p.d = (s.dk win k).tab k ⟨2, (s.ts k).most, []⟩ ∧ TruM (s.ts k) k (win k) m
  | .done => p.d = s.dk win 4

theorem tru_meas {s : Sl} (hs : s.ok) {win : Nat → Int × Int} (q : Int) : ∀ (n : Nat), n ≤ 4 → ∀ {d : Dv} {ph : Ph} {d' : Dv}, d = s.dk win (4 - n) → meas win n d = (ph, d') → Tru s win ⟨ph, d', q⟩
  | 0, _, d, ph, d', hd, h => by
    have h1 := (Prod.mk.inj h).1
    have h2 := (Prod.mk.inj h).2
    subst h1 h2
    exact hd
  | n + 1, hn, d, ph, d', hd, h => by
    unfold meas at h
    have hk : 4 - (n + 1) = 3 - n := by omega
    rw [hk] at hd
    split at h
    · rename_i hz
      refine tru_meas hs q n (by omega) ?_ h
      rw [hd, Sl.dk_at, show 4 - n = (3 - n) + 1 by omega, ← Sl.dk_succ]
      unfold Tbl.truth
      rw [if_pos hz]
    · have h1 := (Prod.mk.inj h).1
      have h2 := (Prod.mk.inj h).2
      subst h1 h2
      refine ⟨hd, rfl, Int.le_refl _, fun _ => rfl, fun hsup => ?_⟩
      have := hs.tb (3 - n) (by omega) hsup
      exact ⟨by show (0 : Int) ≤ _; omega, by show _ < limI _ + 1; omega⟩

theorem ordF_split : ∀ (l : List Ob) (last : Int) (r : List Ob), ordF last (l ++ r) = true → ordF last l = true ∧ ordF (lastId last l) r = true
  | [], last, r, h => ⟨rfl, h⟩
  | a :: l, last, r, h => by
    simp only [List.cons_append, ordF, Bool.and_eq_true, decide_eq_true_eq] at h ⊢
    obtain ⟨h1, h2⟩ := ordF_split l a.id r h.2
    exact ⟨⟨h.1, h1⟩, h2⟩
theorem ordF_lt : ∀ (l : List Ob) (last : Int), ordF last l = true → ∀ y ∈ l, last < y.id ∧ y.id ≤ lastId last l
  | [], _, _, y, hy => by cases hy
  | a :: l, last, h, y, hy => by
    simp only [ordF, Bool.and_eq_true, decide_eq_true_eq] at h
    have ih := ordF_lt l a.id h.2
    have hle : a.id ≤ lastId a.id l := by
      cases l with
      | nil => exact Int.le_refl _
      | cons b l =>
        have := ih b (List.mem_cons_self ..)
        have h2 : b.id ≤ lastId a.id (b :: l) := this.2
        omega
    rcases List.mem_cons.1 hy with e | e
    · subst e
      exact ⟨h.1, hle⟩
    · have := ih y e
      exact ⟨by omega, this.2⟩
theorem ordF_from {l : List Ob} {a b : Int} (h : ordF a l = true) (hb : ∀ y, l.head? = some y → b < y.id) : ordF b l = true := by
  cases l with
  | nil => rfl
  | cons y l =>
    simp only [ordF, Bool.and_eq_true, decide_eq_true_eq] at h ⊢
    exact ⟨hb y rfl, h.2⟩
theorem lastId_ne {a b : Int} : ∀ {l : List Ob}, l ≠ [] → lastId a l = lastId b l
  | [], h => absurd rfl h
  | _ :: _, _ => rfl

theorem tru_ident {s : Sl} (hs : s.ok) {x : Idn} (h : TruI s x) {O : Oc} (hA : AnsD s x.ask O) :
    (s.lv = 0 → (x.feed O).st = 5) ∧ (0 < s.lv → ((x.feed O).st = 0 ∧ TruI s (x.feed O)) ∨ ((x.feed O).st = 2 ∧ (x.feed O).level = s.lv ∧ (x.feed O).objs = s.objs)) := by
  refine ⟨fun h0 => ?_, fun h0 => ?_⟩
  · obtain ⟨h1, h2⟩ := hA.no h0
    unfold Idn.feed
    rw [if_pos ⟨h1, h2, h.no h0⟩]
  · obtain ⟨rest, e1, e2, e3, e4, e5, e6⟩ := h.yes h0
    obtain ⟨n, n1, n2, a1, a2, a3, a4, a5, a6⟩ := hA.yes h0 x.objs rest e1 e2 e3 e4
    obtain ⟨o1, o2, o3, o4⟩ := hs.ob h0
    have hord := o3
    rw [e1] at hord
    have hrest := (ordF_split _ _ _ hord).2
    have hrn : ordF (x.next - 1) rest = true := ordF_from hrest (fun y hy => by have := e4 y hy; omega)
    have hcut : rest = rest.take n ++ rest.drop n := (List.take_append_drop n rest).symm
    rw [hcut] at hrn
    obtain ⟨hr1, hr2⟩ := ordF_split _ _ _ hrn
    have hne : rest.take n ≠ [] := by
      intro e
      have := congrArg List.length e
      rw [List.length_take] at this
      simp at this
      rcases this with e | e
      · omega
      · exact e2 e
    have hmore : O.reply.more = true → ∃ z, rest[n]? = some z ∧ O.reply.next = z.id ∧ lastId (x.next - 1) (rest.take n) < z.id ∧ z.id ≤ 255 ∧ 0 ≤ z.id := by
      intro hm
      rw [a5] at hm
      have hlt := of_decide_eq_true hm
      obtain ⟨z, hz⟩ : ∃ z, rest[n]? = some z := ⟨rest[n], List.getElem?_eq_getElem hlt⟩
      have hmem : z ∈ rest := List.mem_of_getElem? hz
      have hzs : z ∈ s.objs := by rw [e1]; exact List.mem_append_right _ hmem
      have hz2 : z ∈ rest.drop n := by
        rw [List.drop_eq_getElem_cons hlt]
        rw [List.getElem?_eq_getElem hlt] at hz
        cases hz
        exact List.mem_cons_self ..
      have := ordF_lt _ _ hr2 z hz2
      have := (ordF_lt _ _ o3 z hzs).1
      exact ⟨z, hz, a6 z hz, by omega, o4 z hzs, by omega⟩
    have hob : O.reply.ordB x.next = true := by
      unfold Rp.ordB
      rw [a4, hr1]
      have h1 : (rest.take n).isEmpty = false := by
        cases hh : rest.take n with
        | nil => exact absurd hh hne
        | cons a l => rfl
      rw [h1]
      cases hm : O.reply.more with
      | false => rfl
      | true =>
        obtain ⟨z, _, z2, z3, _⟩ := hmore hm
        rw [z2, decide_eq_true z3]
        rfl
    have hbad : x.bad O = false := by
      unfold Idn.bad
      rw [a1, a2, hob, a3]
      by_cases hc : x.cnt = 0
      · rw [hc]; rfl
      · rw [e5 hc]
        simp
    have hnA : ¬ (O.verdict = 2 ∧ O.reply.exc = 1 ∧ x.cnt = 0) := fun e => by
      have := e.1
      rw [a1] at this
      cases this
    have hlen : (x.objs ++ O.reply.objs).length = x.objs.length + n := by
      rw [List.length_append, a4, List.length_take, Nat.min_eq_left n2]
    have hal : s.objs.length = x.objs.length + rest.length := by rw [e1, List.length_append]
    unfold Idn.feed
    rw [if_neg hnA, hbad, if_neg (by decide)]
    cases hm : O.reply.more with
    | false =>
      refine .inr ⟨rfl, a3, ?_⟩
      show x.objs ++ O.reply.objs = s.objs
      rw [a5] at hm
      have hnl : ¬ n < rest.length := of_decide_eq_false hm
      rw [a4, List.take_of_length_le (by omega), e1]
    | true =>
      obtain ⟨z, z1, z2, z3, z4, z5⟩ := hmore hm
      have hlt : n < rest.length := (List.getElem?_eq_some_iff.1 z1).1
      have hc32 : ¬ x.cnt + 1 = 32 := by omega
      refine .inl ⟨by show (if true = true then (if x.cnt + 1 = 32 then (4 : Int) else 0) else 2) = 0; rw [if_pos rfl, if_neg hc32], fun e => by omega, by show 0 ≤ O.reply.next; omega, by show O.reply.next ≤ 255; omega, fun _ => ⟨rest.drop n, ?_, ?_, ?_, ?_, fun _ => a3, ?_⟩⟩
      · show s.objs = (x.objs ++ O.reply.objs) ++ rest.drop n
        rw [a4, List.append_assoc, List.take_append_drop, e1]
      · intro e
        have := congrArg List.length e
        rw [List.length_drop] at this
        simp at this
        omega
      · intro y hy
        show y.id < O.reply.next
        rcases List.mem_append.1 hy with e | e
        · have h1 := e3 y e
          obtain ⟨b, hb⟩ : ∃ b, (rest.take n).head? = some b := by
            cases hh : rest.take n with
            | nil => exact absurd hh hne
            | cons b l => exact ⟨b, rfl⟩
          have hbm : b ∈ rest.take n := List.mem_of_mem_head? hb
          have := ordF_lt _ _ hr1 b hbm
          omega
        · rw [a4] at e
          have := ordF_lt _ _ hr1 y e
          omega
      · intro y hy
        show O.reply.next ≤ y.id
        rw [List.head?_drop, z1] at hy
        cases hy
        omega
      · show x.cnt + 1 ≤ (x.objs ++ O.reply.objs).length
        omega

end Go.Proofs.YtliblgmpclefgaaGreat

/-
ProbeSlave, the plain law: the search, the map, and the probe's step.
-/
namespace Go.Proofs.YtliblgmpclefgaaGreat
open Go.RowKit

theorem allR_zero (rd : List (Int × Int)) (a : Int) : allR rd a 0 := fun i hi => by omega

theorem tru_seek {t : Tbl} {k : Nat} {r : Sr} (hg : r.good) (h0 : r.st = 0) (h : TruS t k r) (hm : t.sup = true → 1 ≤ t.most) {O : Oc} (hA : AnsT t r.ask O) :
    (t.sup = false → (r.feed O.verdict O.reply.exc).st = 5) ∧ (t.sup = true → ((r.feed O.verdict O.reply.exc).st = 0 ∧ TruS t k (r.feed O.verdict O.reply.exc)) ∨ ((r.feed O.verdict O.reply.exc).st = 2 ∧ (r.feed O.verdict O.reply.exc).lo = t.most)) := by
  have hq : r.ask.qty = r.qty := by unfold Sr.ask; rw [if_pos h0]
  refine ⟨fun hn => ?_, fun hy => ?_⟩
  · obtain ⟨h1, h2⟩ := hA.no hn
    have hc := h.no hn
    unfold Sr.feed Sr.took
    rw [if_neg (fun e => by rcases e with e | ⟨_, e⟩ <;> omega), if_pos ⟨hc, h1, h2⟩]
    unfold Sr.met
    rw [if_neg (fun e => absurd e.1 (by show ¬ (5 : Int) = 0; decide))]
  · obtain ⟨y1, y2⟩ := h.yes hy
    have hm1 := hm hy
    have g1 := hg.lo0
    have g2 := hg.gap
    have hqr : r.qty < r.hi ∨ (r.cnt = 0 ∧ r.qty = 1) := by rcases hg.qty with e | e; exact .inl e.2; exact .inr e
    by_cases hle : r.qty ≤ t.most
    · have hv : O.verdict = 1 ∨ (O.verdict = 2 ∧ O.reply.exc = 2) := by
        by_cases ha : allR t.rd r.ask.addr r.ask.qty.toNat
        · exact .inl (hA.yes hy (by rw [hq]; exact hle) ha)
        · exact .inr (hA.out hy (by rw [hq]; exact hle) ha)
      unfold Sr.feed Sr.took
      rw [if_pos hv]
      unfold Sr.met
      split
      · rename_i e
        have e2 : r.hi = r.qty + 1 := e.2
        exact .inr ⟨rfl, by show r.qty = t.most; omega⟩
      · exact .inl ⟨h0, h.tb, h.hi, (fun e => by rw [hy] at e; cases e), fun _ => ⟨hle, y2⟩⟩
    · obtain ⟨v1, v2⟩ := hA.big hy (by rw [hq]; omega)
      have hc : ¬ r.cnt = 0 := fun e => by
        have : r.qty = 1 := by unfold Sr.qty; rw [if_pos e]
        omega
      unfold Sr.feed Sr.took
      rw [if_neg (fun e => by rcases e with e | ⟨_, e⟩ <;> omega), if_neg (fun e => hc e.1), if_pos ⟨hc, v1, v2⟩]
      unfold Sr.met
      split
      · rename_i e
        have e2 : r.qty = r.lo + 1 := e.2
        exact .inr ⟨rfl, by show r.lo = t.most; omega⟩
      · refine .inl ⟨h0, h.tb, ?_, (fun e => by rw [hy] at e; cases e), fun _ => ⟨y1, by show t.most < r.qty; omega⟩⟩
        show r.qty ≤ limI _ + 1
        have := h.hi
        rcases hqr with e | e
        · omega
        · exact absurd e.1 hc

theorem tru_map {t : Tbl} {k : Nat} {w : Int × Int} {m : Mp} (hm : m.ok) (hr : ¬ m.rest = 0) (h : TruM t k w m) {O : Oc} (hA : AnsT t m.ask O) : TruM t k w (m.feed O.verdict O.reply.exc) := by
  have hsz := Mp.size_bd hm hr
  have hmo := h.mo
  have hsm : m.size ≤ m.most := by
    unfold Mp.size
    split
    · split <;> omega
    · split
      · rename_i e
        have := hm.se e
        have := (h.se e).2.2
        omega
      · exact hm.m0
  have hask : m.ask.addr = w.1 + (m.ks.length : Nat) ∧ m.ask.qty = m.size := by unfold Mp.ask; rw [if_neg hr]; exact ⟨by show m.first + _ = _; rw [h.fi], rfl⟩
  have hyes : allR t.rd (w.1 + (m.ks.length : Nat)) m.size.toNat → O.verdict = 1 := fun ha => hA.yes h.sup (by rw [hask.2]; omega) (by rw [hask.1, hask.2]; exact ha)
  have hno : ¬ allR t.rd (w.1 + (m.ks.length : Nat)) m.size.toNat → O.verdict = 2 ∧ O.reply.exc = 2 := fun ha => hA.out h.sup (by rw [hask.2]; omega) (by rw [hask.1, hask.2]; exact ha)
  have learnt : ∀ (m' : Mp) (L : List Int), m'.tb = m.tb → m'.first = m.first → m'.cnt = m.cnt → m'.most = m.most → m'.ks = L → L = kindsOf t.rd w.1 L.length → ¬ m'.mode = 2 → TruM t k w m' := fun m' L e1 e2 e3 e4 e5 e6 e7 =>
    ⟨e1.trans h.tb, e2.trans h.fi, e3.trans h.cn, h.sup, by rw [e4]; exact hmo, by rw [e5]; exact e6, fun e => absurd e e7⟩
  have hall : ∀ n : Nat, allR t.rd (w.1 + (m.ks.length : Nat)) n → m.ks ++ List.replicate n 1 = kindsOf t.rd w.1 (m.ks ++ List.replicate n 1).length := fun n ha => by
    rw [List.length_append, List.length_replicate, kindsOf_all n ha, ← h.ks]
  have hone : ∀ n : Nat, allR t.rd (w.1 + (m.ks.length : Nat)) n → ¬ allR t.rd (w.1 + (m.ks.length : Nat)) (n + 1) → m.ks ++ List.replicate n 1 ++ [2] = kindsOf t.rd w.1 (m.ks ++ List.replicate n 1 ++ [2]).length := fun n ha hb => by
    rw [List.length_append, List.length_append, List.length_replicate]
    show _ = kindsOf t.rd w.1 (m.ks.length + n + 1)
    rw [kindsOf_no ha hb, ← h.ks]
  unfold Mp.feed
  by_cases h2 : m.mode = 2
  · rw [if_pos h2]
    obtain ⟨s1, s2, s3⟩ := h.se h2
    obtain ⟨u1, u2, u3⟩ := hm.se h2
    by_cases ha : allR t.rd (w.1 + (m.ks.length : Nat)) m.size.toNat
    · rw [if_pos (hyes ha)]
      split
      · rename_i e
        refine learnt _ (m.ks ++ List.replicate m.size.toNat 1 ++ [2]) rfl rfl rfl rfl rfl (hone _ ha ?_) (by show ¬ (0 : Int) = 2; decide)
        rw [show m.size.toNat + 1 = m.hi.toNat by omega]
        exact s2
      · exact ⟨h.tb, h.fi, h.cn, h.sup, hmo, h.ks, fun _ => ⟨ha, s2, s3⟩⟩
    · obtain ⟨v1, v2⟩ := hno ha
      rw [if_neg (by omega), if_pos ⟨v1, v2⟩]
      split
      · rename_i e
        refine learnt _ (m.ks ++ List.replicate m.lo.toNat 1 ++ [2]) rfl rfl rfl rfl rfl (hone _ s1 ?_) (by show ¬ (0 : Int) = 2; decide)
        rw [show m.lo.toNat + 1 = m.size.toNat by omega]
        exact ha
      · exact ⟨h.tb, h.fi, h.cn, h.sup, hmo, h.ks, fun _ => ⟨s1, ha, hsm⟩⟩
  · rw [if_neg h2]
    by_cases ha : allR t.rd (w.1 + (m.ks.length : Nat)) m.size.toNat
    · rw [if_pos (hyes ha)]
      exact learnt _ (m.ks ++ List.replicate m.size.toNat 1) rfl rfl rfl rfl rfl (hall _ ha) (by show ¬ (1 : Int) = 2; decide)
    · obtain ⟨v1, v2⟩ := hno ha
      rw [if_neg (by omega), if_pos ⟨v1, v2⟩]
      split
      · exact ⟨h.tb, h.fi, h.cn, h.sup, hmo, h.ks, fun _ => ⟨allR_zero _ _, ha, hsm⟩⟩
      · have hs1 : m.size.toNat = 0 + 1 := by omega
        have := hone 0 (allR_zero _ _) (by rw [← hs1]; exact ha)
        exact learnt _ (m.ks ++ List.replicate 0 1 ++ [2]) rfl rfl rfl rfl (by show m.ks ++ List.replicate (1 : Int).toNat 2 = _; simp) this (by show ¬ (0 : Int) = 2; decide)

/-- A probe's step with a true answer. -/
theorem tru_step {s : Sl} (hs : s.ok) {win : Nat → Int × Int} (hw : WinOk win) {p : Pb} (hp : p.ph.ok win) (h : Tru s win p) {O : Oc} (hA : Ans s p.ph.ask O) : Tru s win (p.feed win O) := by
  obtain ⟨ph, d, q⟩ := p
  cases ph with
  | test =>
    have hd : d = Dv.zero := h
    have hT := hA.t 2 (by decide) rfl
    have hv : O.verdict = 1 ∨ O.verdict = 2 := by
      cases hsup : (s.ts 2).sup with
      | false => exact .inr (hT.no hsup).1
      | true =>
        by_cases hb : (s.ts 2).most < rqT.qty
        · exact .inr (hT.big hsup hb).1
        · by_cases ha : allR (s.ts 2).rd rqT.addr rqT.qty.toNat
          · exact .inl (hT.yes hsup (by show rqT.qty ≤ _; omega) ha)
          · exact .inr (hT.out hsup (by show rqT.qty ≤ _; omega) ha).1
    have hst : stateOf O.verdict = 2 := by rcases hv with e | e <;> rw [e] <;> rfl
    unfold Pb.feed Pb.step
    dsimp only
    rw [hst, if_pos rfl, hd]
    refine ⟨rfl, fun _ => rfl, Int.le_refl _, by show (0 : Int) ≤ 255; decide, fun h0 => ⟨s.objs, rfl, (hs.ob h0).1, (fun y hy => by cases hy), fun y hy => ?_, fun e => absurd rfl e, Nat.le_refl _⟩⟩
    have := (ordF_lt _ _ (hs.ob h0).2.2.1 y (List.mem_of_mem_head? hy)).1
    show (0 : Int) ≤ y.id
    omega
  | ident x =>
    obtain ⟨hd, hI⟩ := h
    have hd : d = Sl.d1 := hd
    obtain ⟨t1, t2⟩ := tru_ident hs hI (hA.d rfl)
    unfold Pb.feed Pb.step
    dsimp only
    rcases Int.lt_or_le 0 s.lv with h0 | h0
    · rcases t2 h0 with ⟨e1, e2⟩ | ⟨e1, e2, e3⟩
      · rw [if_pos e1]
        exact ⟨hd, e2⟩
      · rw [if_neg (by omega)]
        show d.ident _ = s.d2
        unfold Dv.ident Sl.d2
        rw [e1, if_pos rfl, if_pos rfl, e2, e3, if_pos h0, if_pos h0, if_pos h0, hd]
    · have h00 : s.lv = 0 := by have := hs.lv; omega
      have e1 := t1 h00
      rw [if_neg (by omega)]
      show d.ident _ = s.d2
      unfold Dv.ident Sl.d2
      rw [e1, if_neg (by decide), if_neg (by decide), if_neg (by omega), if_neg (by omega), if_neg (by omega), hd]
  | server =>
    have hd : d = s.d2 := h
    have hS := hA.s rfl
    have hsv : srvSt O = (if s.hs = true then 2 else 5) ∧ srvData O = (if s.hs = true then s.sd else []) := by
      cases hh : s.hs with
      | false =>
        obtain ⟨a1, a2⟩ := hS.no hh
        have hn : ¬ (O.verdict = 1 ∧ O.reply.fn = 17 ∧ 0 < O.reply.data.length) := fun e => by
          have := e.1
          omega
        unfold srvSt srvData
        rw [if_neg hn, if_pos ⟨a1, a2⟩, if_neg hn]
        exact ⟨rfl, rfl⟩
      | true =>
        obtain ⟨a1, a2, a3⟩ := hS.yes hh
        have := hs.sd hh
        have hy : O.verdict = 1 ∧ O.reply.fn = 17 ∧ 0 < O.reply.data.length := ⟨a1, a2, by rw [a3]; exact this⟩
        unfold srvSt srvData
        rw [if_pos hy, if_pos hy, a3]
        exact ⟨rfl, rfl⟩
    refine tru_meas hs (q + 1) 4 (Nat.le_refl _) ?_ rfl
    show { d with srv := srvSt O, sd := srvData O } = s.dk win 0
    rw [hsv.1, hsv.2, hd]
    rfl
  | seek k r =>
    obtain ⟨hd, hT⟩ := h
    obtain ⟨hk, hwk, hg, h0, hf⟩ := hp
    have hd : d = s.dk win k := hd
    have hask : r.ask.fn = (k : Nat) + 1 := by unfold Sr.ask; rw [if_pos h0]; exact hT.tb
    obtain ⟨t1, t2⟩ := tru_seek hg h0 hT (fun e => (hs.tb k hk e).1) (hA.t k hk hask)
    have hyo := Sr.feed_ok hg h0 hf O.verdict O.reply.exc
    unfold Pb.feed Pb.step
    dsimp only
    cases hsup : (s.ts k).sup with
    | false =>
      have e1 := t1 hsup
      rw [if_neg (by omega)]
      unfold aftS
      dsimp only
      rw [if_neg (by omega)]
      refine tru_meas hs (q + 1) (4 - (k + 1)) (by omega) ?_ rfl
      rw [show 4 - (4 - (k + 1)) = k + 1 by omega, ← Sl.dk_succ, hd, Sl.dk_at, e1]
      have hns : ¬ (s.ts k).sup = true := by rw [hsup]; decide
      have hn2 : ¬ (r.feed O.verdict O.reply.exc).st = 2 := by omega
      unfold Tbl.truth Sr.most
      rw [if_neg hwk, if_neg hns, if_neg hn2]
    | true =>
      rcases t2 hsup with ⟨e1, e2⟩ | ⟨e1, e2⟩
      · rw [if_pos e1]
        exact ⟨hd, e2⟩
      · rw [if_neg (by omega)]
        unfold aftS
        dsimp only
        rw [if_pos e1]
        have hmo : (r.feed O.verdict O.reply.exc).most = (s.ts k).most := by unfold Sr.most; rw [if_pos e1, e2]
        refine ⟨?_, rfl, rfl, rfl, hsup, ?_, rfl, fun e => absurd (show (0 : Int) = 2 from e) (by decide)⟩
        · show d.tab k _ = _
          rw [hd, Sl.dk_at, e1, hmo]
        · show minI _ _ ≤ _
          rw [hmo]
          unfold minI
          split <;> omega
  | map k m =>
    obtain ⟨hd, hT⟩ := h
    obtain ⟨hk, hmo, hmr⟩ := hp
    have hd : d = (s.dk win k).tab k ⟨2, (s.ts k).most, []⟩ := hd
    have hask : m.ask.fn = (k : Nat) + 1 := by unfold Mp.ask; rw [if_neg hmr]; exact hT.tb
    have t1 := tru_map hmo hmr hT (hA.t k hk hask)
    have hyo := Mp.feed_ok hmo hmr O.verdict O.reply.exc
    unfold Pb.feed Pb.step
    dsimp only
    split
    · rename_i hz
      unfold aftM
      refine tru_meas hs (q + 1) (4 - (k + 1)) (by omega) ?_ rfl
      have hw0 := hw k hk
      have hln : (m.feed O.verdict O.reply.exc).ks.length = (win k).2.toNat := by
        have := t1.cn
        unfold Mp.rest at hz
        omega
      have hwk : ¬ (win k).2 = 0 := by
        have := hT.cn
        have := hmo.c0
        omega
      rw [show 4 - (4 - (k + 1)) = k + 1 by omega, ← Sl.dk_succ, hd]
      unfold Tbl.truth
      rw [if_neg hwk, if_pos hT.sup, t1.ks, hln]
      unfold Dv.tab
      congr 1
      funext i
      by_cases e : i = k
      · subst e
        simp
      · simp [e]
    · exact ⟨hd, t1⟩
  | done => exact h

/-- What a probe asks is a valid request. -/
theorem tru_ask {s : Sl} {win : Nat → Int × Int} {p : Pb} (hp : p.ph.ok win) (hs : s.ok) (h : Tru s win p) (hd : p.ph.isDone = false) : p.ph.ask.ok = true := by
  obtain ⟨ph, d, q⟩ := p
  cases ph with
  | test => rfl
  | ident x =>
    obtain ⟨_, hI⟩ := h
    have h1 := hI.n0
    have h2 := hI.n1
    show Rq.ok ⟨43, 0, 0, 3, x.next⟩ = true
    unfold Rq.ok
    simp [h1, h2]
  | server => rfl
  | seek k r =>
    obtain ⟨_, hT⟩ := h
    obtain ⟨hk, hwk, hg, h0, hf⟩ := hp
    have h1 := hT.tb
    have h2 := hT.hi
    have hb := limI_bd ((k : Nat) + 1)
    have hl : 125 ≤ limI ((k : Nat) + 1) := by unfold limI; repeat' split <;> omega
    have hq : 1 ≤ r.qty ∧ r.qty ≤ limI ((k : Nat) + 1) := by
      have g1 := hg.lo0
      rcases hg.qty with e | e
      · omega
      · omega
    show Rq.ok r.ask = true
    unfold Sr.ask
    rw [if_pos h0]
    unfold Rq.ok
    simp only [h1]
    rw [if_pos (by omega)]
    simp [hq.1, hq.2]
    omega
  | map k m =>
    obtain ⟨_, hT⟩ := h
    obtain ⟨hk, hmo, hmr⟩ := hp
    have h1 := hT.tb
    have hsz := Mp.size_bd hmo hmr
    have hb := hs.tb k hk hT.sup
    have hbd := limI_bd ((k : Nat) + 1)
    have hsm : m.size ≤ m.most := by
      unfold Mp.size
      split
      · split <;> omega
      · split
        · rename_i e
          have := hmo.se e
          have := (hT.se e).2.2
          omega
        · exact hmo.m0
    have hmm := hT.mo
    have hkl := hmo.kl
    have hf0 := hmo.f0
    have hf1 := hmo.f1
    have hrd : m.rest = m.cnt - m.ks.length := rfl
    show Rq.ok m.ask = true
    unfold Mp.ask
    rw [if_neg hmr]
    unfold Rq.ok
    simp only [h1]
    rw [if_pos (by omega)]
    have e1 : 0 ≤ m.first + (m.ks.length : Int) := by omega
    have e2 : m.size ≤ limI ((k : Nat) + 1) := by omega
    have e3 : m.first + (m.ks.length : Int) ≤ 65536 - m.size := by omega
    simp [hsz.1, e1, e2, e3]
  | done => cases hd

end Go.Proofs.YtliblgmpclefgaaGreat
