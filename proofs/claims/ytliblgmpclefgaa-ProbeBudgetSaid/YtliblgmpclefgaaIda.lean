/-
  The identification, by value: the plain state, and the contracts of the program's ordered, New, Next.
-/
import Derived.Test.YtliblgmpclefgaaSeb
import Derived.Test.YtliblgmpclefgaaRecB
import Derived.Test.YtliblgmpclefgaaDecA
namespace Go.Proofs.Ytliblgmpclefgaa
open Go.RowKit

/-- The identifiers rise from the last one on. -/
def ordF (last : Int) : List Ob → Bool
  | [] => true
  | x :: l => decide (last < x.id) && ordF x.id l
theorem ordF_snoc (x : Ob) : ∀ (l : List Ob) (last : Int), ordF last (l ++ [x]) = (ordF last l && decide (lastId last l < x.id))
  | [], last => by show (decide _ && true) = (true && decide _); rw [Bool.and_true, Bool.true_and]; rfl
  | a :: l, last => by
    show (decide _ && ordF a.id (l ++ [x])) = (decide _ && ordF a.id l && decide (lastId a.id l < x.id))
    rw [ordF_snoc x l a.id]
    simp only [Bool.and_assoc]
theorem ordF_pre (k : List Ob) : ∀ (l : List Ob) (last : Int), ordF last (l ++ k) = true → ordF last l = true
  | [], last, _ => rfl
  | a :: l, last, h => by
    simp only [List.cons_append, ordF, Bool.and_eq_true] at h ⊢
    exact ⟨h.1, ordF_pre k l _ h.2⟩
theorem ordF_no {l : List Ob} {k : Nat} {x : Ob} {la : Int} (h : l[k]? = some x) (hb : ¬ lastId la (l.take k) < x.id) : ordF la l = false := by
  cases hx : ordF la l with
  | false => rfl
  | true =>
    exfalso
    have h3 : ordF la (l.take (k + 1)) = true := ordF_pre (l.drop (k + 1)) _ _ (by rw [List.take_append_drop]; exact hx)
    rw [take_succ_snoc h, ordF_snoc] at h3
    simp only [Bool.and_eq_true, decide_eq_true_eq] at h3
    exact hb h3.2
def Rp.ordB (r : Rp) (first : Int) : Bool := ordF (first - 1) r.objs && (!r.objs.isEmpty && (!r.more || decide (lastId (first - 1) r.objs < r.next)))

set_option maxRecDepth 100000 in
set_option maxHeartbeats 3200000 in
theorem ordered_any (x : Rp) (da : Option Addr) (dc : Nat) (oa : Option Addr) (oc : Nat) (first : Int) (h0 : 0 ≤ first) (h1 : first ≤ 9223372036854775807) (w : World) (ho : Obs w (.slice oa x.objs.length oc) x.objs) (V : Bool) (hV : Hid (x.ordB first = V)) :
    Calls Try.prog 121 #[.agg #[.int .i64 x.fn, .int .i64 x.exc, .slice da x.data.length dc, .int .i64 x.code, .int .i64 x.level, .bool x.more, .int .i64 x.next, .slice oa x.objs.length oc], .int .i64 first] w fun r w' => r = .returned (.bool V) ∧ Below w.heap.size w w' := by
  have s1 : IntKind.i64.wrap (first - 1) = first - 1 := IntWalk.i64_in _ (by omega)
  obtain ⟨la, hla⟩ : ∃ la, first - 1 = la := ⟨_, rfl⟩
  have HVV : Hid (V = (ordF la x.objs && (!x.objs.isEmpty && (!x.more || decide (lastId la x.objs < x.next))))) := by show _ = _; rw [← hV.out, ← hla]; rfl
  have hb0 := bal' w (.cells #[.int .i64 x.fn, .int .i64 x.exc, .slice da x.data.length dc, .int .i64 x.code, .int .i64 x.level, .bool x.more, .int .i64 x.next, .slice oa x.objs.length oc] 57)
  obtain ⟨W, hW⟩ : ∃ W, w.alloc (.cells #[.int .i64 x.fn, .int .i64 x.exc, .slice da x.data.length dc, .int .i64 x.code, .int .i64 x.level, .bool x.more, .int .i64 x.next, .slice oa x.objs.length oc] 57) = W := ⟨_, rfl⟩
  have p0 : W.heap[w.heap.size]? = some (.cells #[.int .i64 x.fn, .int .i64 x.exc, .slice da x.data.length dc, .int .i64 x.code, .int .i64 x.level, .bool x.more, .int .i64 x.next, .slice oa x.objs.length oc] 57) := by rw [← hW]; exact hpNew w _
  rw [hW] at hb0
  have hszW : w.heap.size < W.heap.size := hpLt p0
  have HO := hid (ho.keep hb0)
  have hcm : x.objs.length ≤ 9223372036854775807 := by have := ho.len; unfold maxLen at this; omega
  have HW := hid hW
  have HB := hid hb0
  have HP := hid p0
  have HLA := hid hla
  clear hW hb0 p0 hV ho h0 h1
  rw [HLA.out] at s1
  obtain ⟨objs, hobjs⟩ : ∃ l, x.objs = l := ⟨_, rfl⟩
  rw [hobjs] at HO HP HVV hcm HW
  obtain ⟨more, hmore⟩ : ∃ l, x.more = l := ⟨_, rfl⟩
  obtain ⟨next, hnext⟩ : ∃ l, x.next = l := ⟨_, rfl⟩
  rw [hmore, hnext] at HP HVV HW
  have c5 : ∀ X, Below W.heap.size W X → X.cell? ⟨w.heap.size, 5, none⟩ = some (.bool more) := fun X h => hpCell (hpKeep HP.out h) 5
  have c6 : ∀ X, Below W.heap.size W X → X.cell? ⟨w.heap.size, 6, none⟩ = some (.int .i64 next) := fun X h => hpCell (hpKeep HP.out h) 6
  have c7 : ∀ X, Below W.heap.size W X → X.cell? ⟨w.heap.size, 7, none⟩ = some (.slice oa objs.length oc) := fun X h => hpCell (hpKeep HP.out h) 7
  have c7' := c7 W (Below.refl _ _)
  rw [hobjs, hmore, hnext]
  clear hobjs hmore hnext
  go_enter Try.func121, Try.ntmps121
  go_upto_region 1 with (fail)
  rw [HW.out]
  go_wp2
  clear c7'
  go_loopw [5, 13] (fun lv iv wr => ∃ k : Nat, k ≤ objs.length ∧ iv = .int .i64 k ∧ lv = .int .i64 (lastId la (objs.take k)) ∧ Hid (ordF la (objs.take k) = true) ∧ Below W.heap.size W wr) (fun _ iv _ => objs.length - (intOf iv).toNat)
  case atStart => exact ⟨0, Nat.zero_le _, rfl, rfl, rfl, Below.refl _ _⟩
  case round =>
    obtain ⟨k, hk, rfl, rfl, hri, hbw⟩ := hrel
    by_cases hlt : k < objs.length
    · obtain ⟨b, o, cc, hv, h1, h2, hcell⟩ := HO.out.at (by rintro rfl; simp at hlt)
      simp only [Value.slice.injEq, true_and] at hv
      obtain ⟨rfl, rfl⟩ := hv
      have hgx : objs[k]? = some objs[k] := List.getElem?_eq_getElem hlt
      obtain ⟨d1, vv, d2, hvv⟩ := hcell k _ hgx
      clear hcell
      have HG := hid hgx
      generalize objs[k] = y at *
      obtain ⟨xa, xc, rfl, hxl, _⟩ := id hvv
      replace d1 := cell_keep hbw d1
      replace d2 := cell_keep hbw d2
      clear hgx hvv hxl
      have HNO := hid (ordF_no (l := objs) (k := k) (x := y) (la := la) HG.out)
      have HSN : Hid (ordF la (objs.take (k + 1)) = decide (lastId la (objs.take k) < y.id) ∧ lastId la (objs.take (k + 1)) = y.id) := by
        show _ ∧ _
        rw [take_succ_snoc HG.out, ordF_snoc, lastId_snoc, hri.out, Bool.true_and]
        exact ⟨rfl, rfl⟩
      generalize lastId la (objs.take k) = lk at *
      generalize y.id = yi at *
      generalize y.val.length = yn at *
      have hki : (0 : Int) ≤ (k : Int) := Int.natCast_nonneg _
      have hkl : (k : Int) < (objs.length : Int) := by omega
      generalize hol : objs.length = n at *
      replace hol := hid hol
      by_cases hgood : lk < yi
      · go_wp2
        go_roundw
        case rel => exact ⟨k + 1, by omega, by go_num, by rw [HSN.out.2], by show _ = _; rw [HSN.out.1]; simp [hgood], bta hbw (Nat.le_refl _) _⟩
        case measure => simp [intOf]; omega
      · have HF := hid (HNO.out hgood)
        go_wp2
        go_ret
        refine ⟨by rw [HVV.out, HF.out]; rfl, ?_⟩
        exact bt HB.out (bta hbw (Nat.le_refl _) _) (by omega)
    · obtain rfl : k = objs.length := by omega
      have hT : List.take objs.length objs = objs := List.take_length
      have HF : Hid (ordF la objs = true) := by have := hri.out; rw [hT] at this; exact this
      rw [hT]
      clear hri hT
      have e5 := c5 wr hbw
      have e6 := c6 wr hbw
      have e7 := c7 wr hbw
      have HE : Hid (objs.isEmpty = decide (objs.length = 0)) := by
        show objs.isEmpty = decide (objs.length = 0)
        cases objs <;> simp
      rw [HF.out, HE.out, Bool.true_and] at HVV
      generalize lastId la objs = lk at *
      generalize objs.length = n at *
      have hfin : Below w.heap.size w wr := bt HB.out hbw (by omega)
      clear c5 c6 c7
      cases more
      all_goals
        go_wp2
        all_goals
          go_ret
          refine ⟨?_, hfin⟩
          clear hfin
          refine ret_bool ?_
          rw [HVV.out]
          first | (simp [*]; done) | (rw [Bool.eq_iff_iff]; simp [*]; omega) | (rw [Bool.eq_iff_iff]; simp; omega)

/-- An identification. -/
structure Idn where
  st : Int
  level : Int
  objs : List Ob
  next : Int
  cnt : Nat

def Idn.new : Idn := ⟨0, 0, [], 0, 0⟩
def Idn.ask (x : Idn) : Rq := ⟨43, 0, 0, 3, x.next⟩
def Idn.bad (x : Idn) (o : Oc) : Bool := (o.verdict != 1) || (o.reply.fn != 43) || !(o.reply.ordB x.next) || (decide (0 < x.cnt) && o.reply.level != x.level)
def Idn.feed (x : Idn) (o : Oc) : Idn :=
  if o.verdict = 2 ∧ o.reply.exc = 1 ∧ x.cnt = 0 then { x with st := 5 }
  else if x.bad o = true then { x with st := 4 }
  else ⟨if o.reply.more then (if x.cnt + 1 = 32 then 4 else 0) else 2, o.reply.level, x.objs ++ o.reply.objs, o.reply.next, x.cnt + 1⟩
structure Idn.ok (x : Idn) : Prop where
  n0 : 0 ≤ x.next
  n1 : x.next ≤ 9223372036854775807
  cn : x.cnt ≤ 31
  ob : x.objs.length ≤ 40 * x.cnt
  vs : ∀ y ∈ x.objs, y.val.length ≤ 300

def ObF (P : Nat → Prop) (g : Nat) (v : Value) (j : Nat) : Prop := ¬ P j ∨ j = g ∨ v.ownBlock = some j
/-- The identification in block g; all that it holds lies in blocks of P. -/
structure IdAt (P : Nat → Prop) (W : World) (g : Nat) (x : Idn) (v : Value) (cs : List Value) : Prop where
  at_ : W.heap[g]? = some (.cells #[.int .i64 x.st, .int .i64 x.level, v, .int .i64 x.next, .int .i64 x.cnt] 123)
  own : W.ownsRow 0 69 2 v x.objs.length cs
  obs : CsL 2 (ObQF (ObF P g v) W) cs x.objs
  pg : P g
  pv : ∀ j, v.ownBlock = some j → P j ∧ j ≠ g

set_option maxHeartbeats 800000 in
theorem inew_any (w : World) :
    Calls Try.prog 53 #[] w fun r w' => r = .returned (.pointer (some ⟨w.heap.size, 0, none⟩)) ∧ w' = w.alloc (.cells #[.int .i64 0, .int .i64 0, .slice none 0 0, .int .i64 0, .int .i64 0] 123) := by
  go_enter Try.func53, Try.ntmps53
  go_wp2
  go_ret
  exact ⟨rfl, rfl⟩

theorem IdAt.new {w : World} {P : Nat → Prop} (hP : P w.heap.size) : IdAt P (w.alloc (.cells #[.int .i64 0, .int .i64 0, .slice none 0 0, .int .i64 0, .int .i64 0] 123)) w.heap.size Idn.new (.slice none 0 0) [] :=
  ⟨hpNew w _, World.ownsRow_nil _ _ _ _, rfl, hP, fun j h => by cases h⟩
theorem Idn.new_ok : Idn.new.ok := ⟨by decide, by decide, by decide, by decide, fun y h => by cases h⟩

set_option maxRecDepth 100000 in
set_option maxHeartbeats 1600000 in
theorem inext_any (g : Nat) (x : Idn) (v : Value) (w : World) (h : w.heap[g]? = some (.cells #[.int .i64 x.st, .int .i64 x.level, v, .int .i64 x.next, .int .i64 x.cnt] 123)) (q : Rq) (V : Bool) (hq : Hid (V = decide (x.st = 0))) (hQ : Hid (q = if x.st = 0 then x.ask else ⟨0, 0, 0, 0, 0⟩)) :
    Calls Try.prog 120 #[.pointer (some ⟨g, 0, none⟩)] w (AskPost w q V) := by
  obtain ⟨W0, hW0⟩ : ∃ W, w.alloc (.cells #[.int .i64 0, .int .i64 0, .int .i64 0, .int .i64 0, .int .i64 0] 34) = W := ⟨_, rfl⟩
  have hb0 : Below w.heap.size w W0 := by rw [← hW0]; exact bal' w _
  have p0 : W0.heap[w.heap.size]? = some (.cells #[.int .i64 0, .int .i64 0, .int .i64 0, .int .i64 0, .int .i64 0] 34) := by rw [← hW0]; exact hpNew w _
  have l0 := hpKeep h hb0
  have c0 : W0.cell? ⟨g, 0, none⟩ = some (.int .i64 x.st) := hpCell l0 0
  have c3 : W0.cell? ⟨g, 3, none⟩ = some (.int .i64 x.next) := hpCell l0 3
  have z0 : W0.cell? ⟨w.heap.size, 0, none⟩ = some (.int .i64 0) := hpCell p0 0
  have z1 : W0.cell? ⟨w.heap.size, 1, none⟩ = some (.int .i64 0) := hpCell p0 1
  have z2 : W0.cell? ⟨w.heap.size, 2, none⟩ = some (.int .i64 0) := hpCell p0 2
  have z3 : W0.cell? ⟨w.heap.size, 3, none⟩ = some (.int .i64 0) := hpCell p0 3
  have z4 : W0.cell? ⟨w.heap.size, 4, none⟩ = some (.int .i64 0) := hpCell p0 4
  have y0 : W0.frozen? ⟨w.heap.size, 0, none⟩ = false := hpFree p0 0
  have y1 : W0.frozen? ⟨w.heap.size, 1, none⟩ = false := hpFree p0 1
  have y2 : W0.frozen? ⟨w.heap.size, 2, none⟩ = false := hpFree p0 2
  have y3 : W0.frozen? ⟨w.heap.size, 3, none⟩ = false := hpFree p0 3
  have y4 : W0.frozen? ⟨w.heap.size, 4, none⟩ = false := hpFree p0 4
  have HW0 := hid hW0
  have HB0 := hid hb0
  clear hW0 hb0 p0 l0 h
  by_cases h0 : x.st = 0
  · have d : (x.st != 0) = false := by rw [bne_eq_false_iff_eq]; exact h0
    have HE : Hid (q = ⟨43, 0, 0, 3, x.next⟩ ∧ V = true) := ⟨by rw [hQ.out, if_pos h0]; rfl, by rw [hq.out]; exact decide_eq_true h0⟩
    clear h0
    go_enter Try.func120, Try.ntmps120
    go_upto_region 1 with (fail)
    rw [HW0.out]
    go_wp2
    refine bodyPost_ret (v := .tuple #[.agg #[.int .i64 43, .int .i64 0, .int .i64 0, .int .i64 3, .int .i64 x.next], .bool true]) (by simp [results, Try.results120, go_sem, z0, z1, z2, z3, z4]) rfl ⟨by rw [HE.out.1, HE.out.2], ?_⟩
    exact ((((HB0.out.setCell (p := ⟨w.heap.size, 0, none⟩) (Nat.le_refl _) _).setCell (p := ⟨w.heap.size, 1, none⟩) (Nat.le_refl _) _).setCell (p := ⟨w.heap.size, 2, none⟩) (Nat.le_refl _) _).setCell (p := ⟨w.heap.size, 3, none⟩) (Nat.le_refl _) _).setCell (p := ⟨w.heap.size, 4, none⟩) (Nat.le_refl _) _
  · have d : (x.st != 0) = true := by rw [bne_iff_ne]; exact h0
    have HE : Hid (q = ⟨0, 0, 0, 0, 0⟩ ∧ V = false) := ⟨by rw [hQ.out, if_neg h0], by rw [hq.out]; exact decide_eq_false h0⟩
    clear h0
    go_enter Try.func120, Try.ntmps120
    go_upto_region 1 with (fail)
    rw [HW0.out]
    go_wp2
    refine bodyPost_ret (v := .tuple #[.agg #[.int .i64 0, .int .i64 0, .int .i64 0, .int .i64 0, .int .i64 0], .bool false]) (by simp [results, Try.results120, go_sem, z0, z1, z2, z3, z4]) rfl ⟨by rw [HE.out.1, HE.out.2], ?_⟩
    exact ((((HB0.out.setCell (p := ⟨w.heap.size, 0, none⟩) (Nat.le_refl _) _).setCell (p := ⟨w.heap.size, 1, none⟩) (Nat.le_refl _) _).setCell (p := ⟨w.heap.size, 2, none⟩) (Nat.le_refl _) _).setCell (p := ⟨w.heap.size, 3, none⟩) (Nat.le_refl _) _).setCell (p := ⟨w.heap.size, 4, none⟩) (Nat.le_refl _) _

end Go.Proofs.Ytliblgmpclefgaa
