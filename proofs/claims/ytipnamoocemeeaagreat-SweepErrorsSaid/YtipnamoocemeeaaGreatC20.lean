/-
  Texts 20 of the claim.
-/
import Derived.Test.YtipnamoocemeeaaGreatC03
import Derived.Test.YtipnamoocemeeaaGreatC19
import Derived.Test.YtipnamoocemeeaaGreatC01
import Derived.Test.YtipnamoocemeeaaGreatC02
/-
  Several texts of this claim in one file.
-/
/-
The contract of the reference's ValidReply, whole; comparisons of outcomes; the cuts; the two Valid of outcomes.
-/
namespace Go.Proofs.YtipnamoocemeeaaGreat
open Go.RowKit
set_option maxRecDepth 100000 in
set_option maxHeartbeats 3200000 in
theorem sameOc_any (v1 f1 x1 : Int) (dv1 : Value) (c1 l1 : Int) (m1 : Bool) (n1 : Int) (ov1 : Value) (d1 : List UInt8) (o1 : List Ob) (v2 f2 x2 : Int) (dv2 : Value) (c2 l2 : Int) (m2 : Bool) (n2 : Int) (ov2 : Value) (d2 : List UInt8) (o2 : List Ob) (w : World)
    (hd1 : Bs w dv1 d1) (ho1 : Obs w ov1 o1) (hd2 : Bs w dv2 d2) (ho2 : Obs w ov2 o2) (V : Bool) (hV : Hid (Oc.same ⟨v1, ⟨f1, x1, d1, c1, l1, m1, n1, o1⟩⟩ ⟨v2, ⟨f2, x2, d2, c2, l2, m2, n2, o2⟩⟩ = V)) :
    Calls Tryz.prog 32 #[.agg #[.int .i64 v1, .int .i64 f1, .int .i64 x1, dv1, .int .i64 c1, .int .i64 l1, .bool m1, .int .i64 n1, ov1], .agg #[.int .i64 v2, .int .i64 f2, .int .i64 x2, dv2, .int .i64 c2, .int .i64 l2, .bool m2, .int .i64 n2, ov2]] w fun r w' => r = .returned (.bool V) ∧ Below w.heap.size w w' := by
  have HD1 := hid hd1
  have HD2 := hid hd2
  have HO1 := hid ho1
  have HO2 := hid ho2
  have B2 : Hid (∀ X Y : Obj, Below w.heap.size w ((w.alloc X).alloc Y)) := fun X Y => (bal' w X).alloc (by simp) Y
  obtain ⟨S, hS⟩ : ∃ S, Rp.same ⟨f1, x1, d1, c1, l1, m1, n1, o1⟩ ⟨f2, x2, d2, c2, l2, m2, n2, o2⟩ = S := ⟨_, rfl⟩
  have hV2 : Hid ((v1 == v2 && S) = V) := by show _ = V; rw [← hV.out, ← hS]; rfl
  have HSO : Hid (∀ X Y : Obj, Calls Tryz.prog 59 #[.agg #[.int .i64 f1, .int .i64 x1, dv1, .int .i64 c1, .int .i64 l1, .bool m1, .int .i64 n1, ov1], .agg #[.int .i64 f2, .int .i64 x2, dv2, .int .i64 c2, .int .i64 l2, .bool m2, .int .i64 n2, ov2]] ((w.alloc X).alloc Y) fun r w' => r = .returned (.bool S) ∧ Below ((w.alloc X).alloc Y).heap.size ((w.alloc X).alloc Y) w') := fun X Y => same_any _ _ _ _ _ _ _ _ d1 o1 _ _ _ _ _ _ _ _ d2 o2 _ (HD1.out.keep (B2.out X Y)) (HO1.out.keep (B2.out X Y)) (HD2.out.keep (B2.out X Y)) (HO2.out.keep (B2.out X Y)) S hS
  clear hV hd1 hd2 ho1 ho2 hS
  go_enter Tryz.func32, Tryz.ntmps32
  go_wp2_with (first | (go_at_call 59; (with_reducible refine (HSO.out _ _).mono ?_); rintro r w1 ⟨rfl, hb1⟩))
  all_goals
    go_ret
    refine ⟨ret_bool ?_, by first | exact B2.out _ _ | exact bt (B2.out _ _) (by assumption) (Nat.le_refl _)⟩
    rw [← hV2.out]
    first | (simp [*]; done) | rfl

end Go.Proofs.YtipnamoocemeeaaGreat

/-
The contracts of zero, of the two Valid of outcomes, of the reference's Strip and of the cuts.
-/
namespace Go.Proofs.YtipnamoocemeeaaGreat
open Go.RowKit
theorem b2 (w : World) (X Y : Obj) : Below w.heap.size w ((w.alloc X).alloc Y) := (bal' w X).alloc (by simp) Y
theorem b3 (w : World) (X Y Z : Obj) : Below w.heap.size w (((w.alloc X).alloc Y).alloc Z) := (b2 w X Y).alloc (by simp; omega) Z

theorem tbl_cases2 (f : Int) : (1 ≤ f ∧ f ≤ 4 ∧ tblB f = true) ∨ (f < 1 ∧ tblB f = false) ∨ (1 ≤ f ∧ 4 < f ∧ tblB f = false) := by
  rcases (show (1 ≤ f ∧ f ≤ 4) ∨ f < 1 ∨ (1 ≤ f ∧ 4 < f) by omega) with ⟨h, h'⟩ | h | ⟨h, h'⟩
  · exact .inl ⟨h, h', by simp [tblB, h, h']⟩
  · exact .inr (.inl ⟨h, by unfold tblB; rw [decide_eq_false (by omega)]; rfl⟩)
  · exact .inr (.inr ⟨h, h', by unfold tblB; rw [decide_eq_false (show ¬ f ≤ 4 by omega), Bool.and_false]⟩)

end Go.Proofs.YtipnamoocemeeaaGreat

/-
The contract of the reference's Strip, and of the cuts.
-/
namespace Go.Proofs.YtipnamoocemeeaaGreat
open Go.RowKit
theorem Oc.strip_no {v : Int} {r : Rp} (h : ¬ (v = 1 ∨ v = 2)) : Oc.strip ⟨v, r⟩ = ⟨v, Rp.zero⟩ := by unfold Oc.strip; rw [if_neg h]
theorem Oc.strip_short {v : Int} {r : Rp} (h : v = 2 ∨ (v = 1 ∧ tblB r.fn = true)) : Oc.strip ⟨v, r⟩ = ⟨v, ⟨r.fn, r.exc, [], 0, 0, false, 0, []⟩⟩ := by
  unfold Oc.strip
  rcases h with h | ⟨h, h'⟩
  · rw [if_pos (.inr h), if_pos (.inl h)]
  · rw [if_pos (.inl h), if_pos (.inr h')]
theorem Oc.strip_all {v : Int} {r : Rp} (h : v = 1) (h' : tblB r.fn = false) : Oc.strip ⟨v, r⟩ = ⟨v, r⟩ := by
  unfold Oc.strip
  rw [if_pos (.inl h), if_neg]
  rintro (h2 | h2)
  · simp only at h2; omega
  · simp only at h2; rw [h'] at h2; cases h2

theorem strip_cases (v f : Int) : (¬ (v = 1 ∨ v = 2) ∧ (v != 1) = true ∧ (v != 2) = true ∧ (v == 1) = false ∧ (v == 2) = false) ∨ v = 2 ∨ (v = 1 ∧ ((1 ≤ f ∧ f ≤ 4 ∧ tblB f = true) ∨ (f < 1 ∧ tblB f = false) ∨ (1 ≤ f ∧ 4 < f ∧ tblB f = false))) := by
  by_cases h1 : v = 1
  · exact .inr (.inr ⟨h1, tbl_cases2 f⟩)
  · by_cases h2 : v = 2
    · exact .inr (.inl h2)
    · exact .inl ⟨by omega, by simpa using h1, by simpa using h2, by simpa using h1, by simpa using h2⟩

/-- Few and short objects. -/
def smallObs (l : List Ob) : Bool := decide (l.length ≤ 40) && l.all fun x => decide (x.val.length ≤ 300)
def Rp.small (r : Rp) : Bool := decide (r.data.length ≤ 300) && smallObs r.objs

theorem small_no {l : List Ob} {k : Nat} {x : Ob} (h : l[k]? = some x) (hx : 300 < x.val.length) : smallObs l = false := by
  cases hs : smallObs l with
  | false => rfl
  | true =>
    simp only [smallObs, Bool.and_eq_true, List.all_eq_true, decide_eq_true_eq] at hs
    have := hs.2 x (List.mem_of_getElem? h)
    omega

set_option maxRecDepth 100000 in
set_option maxHeartbeats 3200000 in
theorem objects_any (v : Value) (l : List Ob) (w : World) (ho : Obs w v l) (V : Bool) (hV : Hid (smallObs l = V)) :
    Calls Tryz.prog 64 #[v] w fun r w' => r = .returned (.bool V) ∧ w = w' := by
  obtain ⟨a, n, c, rfl, hln, hn, hnc, hcm, hel⟩ := ho.open_
  clear ho
  replace hel := hid hel
  replace hln := hid hln
  go_enter Tryz.func64, Tryz.ntmps64
  go_wp2
  go_loop [3] (fun i => ∃ k : Nat, k ≤ n ∧ i = .int .i64 k ∧ Hid (∀ (j : Nat) (x : Ob), j < k → l[j]? = some x → x.val.length ≤ 300)) (fun i => n - (intOf i).toNat)
  case atStart => exact ⟨0, Nat.zero_le _, rfl, fun j x h => by omega⟩
  case round =>
    obtain ⟨k, hk, rfl, hri⟩ := hrel
    by_cases hlt : k < n
    · obtain ⟨x, hgx⟩ := get_some hln.out hlt
      obtain ⟨b, o, xa, xc, rfl, d1, d2, q⟩ := hel.out k x hgx
      have hxm := q.len
      unfold maxLen at hxm
      have HNO := hid (small_no hgx)
      have HST := hid (show x.val.length ≤ 300 → ∀ (j : Nat) (u : Ob), j < k + 1 → l[j]? = some u → u.val.length ≤ 300 from fun hs j u hj hu => by
        by_cases hjk : j = k
        · subst hjk; rw [hgx] at hu; cases hu; exact hs
        · exact hri.out j u (by omega) hu)
      clear hgx q hri
      generalize x.val.length = xn at *
      have hkl : (k : Int) < (n : Int) := by omega
      by_cases hx : xn ≤ 300
      · have HT := hid (HST.out hx)
        go_wp2
        go_round
        case rel => exact ⟨k + 1, by omega, by go_num, HT.out⟩
        case measure => simp [intOf]; omega
      · have HF := hid (HNO.out (by omega))
        go_wp2
        go_ret
        exact ⟨by rw [← hV.out, HF.out]; rfl, rfl⟩
    · obtain rfl : k = n := by omega
      have HF : Hid (V = decide (k ≤ 40)) := by
        show V = _
        rw [← hV.out]
        unfold smallObs
        rw [hln.out, show (l.all fun x => decide (x.val.length ≤ 300)) = true from by
          rw [List.all_eq_true]
          intro x hx
          obtain ⟨j, hj⟩ := List.getElem?_of_mem hx
          exact decide_eq_true (hri.out j x (by have := (List.getElem?_eq_some_iff.1 hj).1; have := hln.out; omega) hj), Bool.and_true]
      go_wp2
      go_ret
      exact ⟨by rw [HF.out]; exact ret_bool (by rw [Bool.eq_iff_iff]; simp; omega), rfl⟩

set_option maxRecDepth 100000 in
set_option maxHeartbeats 3200000 in
theorem mreply_any (fn exc : Int) (dv : Value) (code level : Int) (more : Bool) (next : Int) (ov : Value) (data : List UInt8) (objs : List Ob) (w : World) (hd : Bs w dv data) (ho : Obs w ov objs) (V : Bool) (hV : Hid (Rp.small ⟨fn, exc, data, code, level, more, next, objs⟩ = V)) :
    Calls Tryz.prog 27 #[.agg #[.int .i64 fn, .int .i64 exc, dv, .int .i64 code, .int .i64 level, .bool more, .int .i64 next, ov]] w fun r w' => r = .returned (.bool V) ∧ Below w.heap.size w w' := by
  have HO := hid ho
  have hlm := hd.len
  unfold maxLen at hlm
  obtain ⟨da, dc, rfl, hdc⟩ := hd
  clear hdc ho
  obtain ⟨S, hS⟩ : ∃ S, smallObs objs = S := ⟨_, rfl⟩
  have hV2 : Hid (V = (decide (data.length ≤ 300) && S)) := by show V = _; rw [← hV.out, ← hS]; rfl
  clear hV
  have HC : Hid (∀ X, Calls Tryz.prog 64 #[ov] (w.alloc X) fun r w' => r = .returned (.bool S) ∧ (w.alloc X) = w') := fun X => objects_any _ objs _ (HO.out.keep (bal' w X)) S hS
  clear hS
  generalize data.length = n at *
  by_cases hn : n ≤ 300
  · have HF : Hid (V = S) := by show V = _; rw [hV2.out, decide_eq_true hn, Bool.true_and]
    go_enter Tryz.func27, Tryz.ntmps27
    go_wp2_with (first | (go_at_call 64; (with_reducible refine (HC.out _).mono ?_); rintro r w1 ⟨rfl, rfl⟩))
    go_ret
    exact ⟨by rw [HF.out]; rfl, bal' w _⟩
  · have HF : Hid (V = false) := by show V = _; rw [hV2.out, decide_eq_false hn, Bool.false_and]
    go_enter Tryz.func27, Tryz.ntmps27
    go_wp2_with (first | (go_at_call 64; (with_reducible refine (HC.out _).mono ?_); rintro r w1 ⟨rfl, rfl⟩))
    go_ret
    exact ⟨by rw [HF.out]; rfl, bal' w _⟩

end Go.Proofs.YtipnamoocemeeaaGreat

/-
Rows of objects, and the contract of slices.Clone at objects.
-/
namespace Go.Proofs.YtipnamoocemeeaaGreat
open Go.RowKit

/-- Cells that read as objects. -/
def ObCs (w : World) (cs : List Value) (l : List Ob) : Prop :=
  cs.length = l.length * 2 ∧ ∀ (i : Nat) (x : Ob), l[i]? = some x → cs[i * 2]? = some (.int .i64 x.id) ∧ ∃ a c, cs[i * 2 + 1]? = some (.slice a x.val.length c) ∧ Bs w (.slice a x.val.length c) x.val

theorem ObCs.keep {w w' : World} {cs : List Value} {l : List Ob} (h : ObCs w cs l) (hb : Below w.heap.size w w') : ObCs w' cs l :=
  ⟨h.1, fun i x hx => by
    obtain ⟨h1, a, c, h2, h3⟩ := h.2 i x hx
    exact ⟨h1, a, c, h2, h3.keep hb⟩⟩

theorem ObCs.nil (w : World) : ObCs w [] [] := ⟨rfl, fun i x hx => by simp at hx⟩

theorem ObCs.one {w : World} {cs : List Value} {l : List Ob} (h : ObCs w cs l) : ∀ u ∈ cs, u.oneCell' = true := by
  intro u hu
  obtain ⟨j, hj⟩ := List.getElem?_of_mem hu
  have hjl := (List.getElem?_eq_some_iff.1 hj).1
  have hlen := h.1
  obtain ⟨x, hx⟩ := get_some (l := l) (k := j / 2) rfl (by omega)
  obtain ⟨h1, a, c, h2, _⟩ := h.2 (j / 2) x hx
  rcases Nat.mod_two_eq_zero_or_one j with hm | hm
  · rw [show j / 2 * 2 = j by omega, hj] at h1
    cases h1; rfl
  · rw [show j / 2 * 2 + 1 = j by omega, hj] at h2
    cases h2; rfl

/-- The cells of a slice of objects. -/
theorem Obs.cells {w : World} {b o n c : Nat} {l : List Ob} (h : Obs w (.slice (some ⟨b, o, none⟩) n c) l) : ∃ cs, ObCs w cs l ∧ l.length = n ∧ ∀ j u, cs[j]? = some u → w.cell? ⟨b, o + j, none⟩ = some u := by
  obtain ⟨a, c', hv, h1, h2, h3, h4⟩ := h
  cases hv
  have hall : ∀ j, j < l.length * 2 → ∃ u, w.cell? ⟨b, o + j, none⟩ = some u := by
    intro j hj
    obtain ⟨b', o', ha, hc⟩ := h4 (by rintro rfl; simp at hj)
    cases ha
    obtain ⟨x, hx⟩ := get_some (l := l) (k := j / 2) rfl (by omega)
    obtain ⟨h5, v, h6, _⟩ := hc (j / 2) x hx
    rcases Nat.mod_two_eq_zero_or_one j with hm | hm
    · rw [show o + j / 2 * 2 = o + j by omega] at h5; exact ⟨_, h5⟩
    · rw [show o + j / 2 * 2 + 1 = o + j by omega] at h6; exact ⟨_, h6⟩
  have hget : ∀ j, j < l.length * 2 → ((List.range (l.length * 2)).map fun j => (w.cell? ⟨b, o + j, none⟩).getD undef)[j]? = w.cell? ⟨b, o + j, none⟩ := by
    intro j hj
    obtain ⟨u, hu⟩ := hall j hj
    simp [hj, hu]
  refine ⟨(List.range (l.length * 2)).map fun j => (w.cell? ⟨b, o + j, none⟩).getD undef, ⟨by simp, fun i x hx => ?_⟩, rfl, fun j u hj => ?_⟩
  · have hi := (List.getElem?_eq_some_iff.1 hx).1
    obtain ⟨b', o', ha, hc⟩ := h4 (by rintro rfl; simp at hx)
    cases ha
    obtain ⟨h5, v, h6, h7⟩ := hc i x hx
    obtain ⟨xa, xc, rfl, _⟩ := id h7
    refine ⟨by rw [hget _ (by omega)]; exact h5, xa, xc, by rw [hget _ (by omega), ← Nat.add_assoc]; exact h6, h7⟩
  · have hjl := (List.getElem?_eq_some_iff.1 hj).1
    rw [hget j (by simpa using hjl)] at hj
    exact hj

theorem Obs.of_own {w : World} {base : Nat} {E : TypeId} {v : Value} {n : Nat} {cs : List Value} {l : List Ob} (h : w.ownsRow base E 2 v n cs) (hc : ObCs w cs l) (hn : l.length = n) : Obs w v l := by
  subst hn
  obtain ⟨hlen, h | ⟨g, cap, cur, hv, hb, hh, hnc, hcm, hcs, ht⟩⟩ := h
  · obtain ⟨rfl, h0⟩ := h
    have : l = [] := List.eq_nil_of_length_eq_zero h0
    subst this
    exact Obs.nil w
  · refine ⟨_, _, hv, hnc, hcm, fun h => by simp at h, fun hl => ⟨g, 0, rfl, fun i x hx => ?_⟩⟩
    have hi := (List.getElem?_eq_some_iff.1 hx).1
    obtain ⟨h1, a, c, h2, h3⟩ := hc.2 i x hx
    have hcell : ∀ j, j < l.length * 2 → w.cell? ⟨g, j, none⟩ = cs[j]? := by
      intro j hj
      have h4 : cur[j]? = cs[j]? := by
        have := take_get (n := l.length * 2) (xs := cs) ht j (by rw [hlen]; exact hj)
        exact this
      simp only [World.cell?, hh, Option.isSome_none]
      exact h4
    rw [Nat.zero_add]
    refine ⟨by rw [hcell _ (by omega)]; exact h1, _, by rw [hcell _ (by omega)]; exact h2, h3⟩

end Go.Proofs.YtipnamoocemeeaaGreat

/-
The contract of record.Strip.
-/
namespace Go.Proofs.YtipnamoocemeeaaGreat
open Go.RowKit
theorem Bs.block {w : World} {a : Option Addr} {n c : Nat} {l : List UInt8} (h : Bs w (.slice a n c) l) (hl : l ≠ []) : ∀ ad, a = some ad → ad.block < w.heap.size := by
  obtain ⟨a', c', hv, h1, h2, h3, h4⟩ := h
  cases hv
  obtain ⟨b, o, ha, hc⟩ := h4 hl
  intro ad had
  rw [ha] at had
  cases had
  have := cell_lt (hc 0 (by cases l with | nil => exact absurd rfl hl | cons x l => simp))
  exact this

end Go.Proofs.YtipnamoocemeeaaGreat

/-
Slices of outcomes that read as lists, and the contract of modscanmake.Outcomes.
-/
namespace Go.Proofs.YtipnamoocemeeaaGreat
open Go.RowKit

/-- Nine cells that hold an outcome. -/
def OcR (w : World) (cs : List Value) (x : Oc) : Prop := ∃ da dc oa oc, cs = [.int .i64 x.verdict, .int .i64 x.reply.fn, .int .i64 x.reply.exc, .slice da x.reply.data.length dc, .int .i64 x.reply.code, .int .i64 x.reply.level, .bool x.reply.more, .int .i64 x.reply.next, .slice oa x.reply.objs.length oc] ∧
  Bs w (.slice da x.reply.data.length dc) x.reply.data ∧ Obs w (.slice oa x.reply.objs.length oc) x.reply.objs ∧ x.reply.level ≤ 9223372036854775807 ∧ -9223372036854775808 ≤ x.reply.level

theorem OcR.keep (w w' : World) (r : List Value) (x : Oc) (h : OcR w r x) (hb : Below w.heap.size w w') : OcR w' r x := by
  obtain ⟨da, dc, oa, oc, h1, h2, h3, h4⟩ := h
  exact ⟨da, dc, oa, oc, h1, h2.keep hb, h3.keep hb, h4⟩

def Ocs (w : World) (v : Value) (l : List Oc) : Prop := Sls 9 OcR w v l

theorem Ocs.keep {w w' : World} {v : Value} {l : List Oc} (h : Ocs w v l) (hb : Below w.heap.size w w') : Ocs w' v l := Sls.keep OcR.keep h hb

theorem ocR_rd {w : World} {cs : List Value} (h : Rd Tryz.prog w 55 cs) : ∃ x, OcR w cs x := by
  obtain ⟨v, r, rs, rfl, da, dc, oa, oc, rfl, h1, h2, h3, h4⟩ := oc_rd h
  exact ⟨⟨v, r⟩, da, dc, oa, oc, rfl, h1, h2, h3, h4⟩

/-- The cells of outcome number k. -/
def OcAt (w : World) (b o : Nat) (x : Oc) (da : Option Addr) (dc : Nat) (oa : Option Addr) (oc : Nat) : Prop :=
  w.cell? ⟨b, o, none⟩ = some (.int .i64 x.verdict) ∧ w.cell? ⟨b, o + 1, none⟩ = some (.int .i64 x.reply.fn) ∧ w.cell? ⟨b, o + 1 + 1, none⟩ = some (.int .i64 x.reply.exc) ∧
  w.cell? ⟨b, o + 1 + 2, none⟩ = some (.slice da x.reply.data.length dc) ∧ w.cell? ⟨b, o + 1 + 3, none⟩ = some (.int .i64 x.reply.code) ∧ w.cell? ⟨b, o + 1 + 4, none⟩ = some (.int .i64 x.reply.level) ∧
  w.cell? ⟨b, o + 1 + 5, none⟩ = some (.bool x.reply.more) ∧ w.cell? ⟨b, o + 1 + 6, none⟩ = some (.int .i64 x.reply.next) ∧ w.cell? ⟨b, o + 1 + 7, none⟩ = some (.slice oa x.reply.objs.length oc)

theorem Ocs.get {w : World} {a : Option Addr} {n c : Nat} {l : List Oc} (h : Ocs w (.slice a n c) l) :
    l.length = n ∧ n ≤ c ∧ c ≤ maxLen ∧ ∀ i x, l[i]? = some x → ∃ b o da dc oa oc, a = some ⟨b, o, none⟩ ∧ OcAt w b (o + i * 9) x da dc oa oc ∧
      Bs w (.slice da x.reply.data.length dc) x.reply.data ∧ Obs w (.slice oa x.reply.objs.length oc) x.reply.objs ∧ x.reply.level ≤ 9223372036854775807 ∧ -9223372036854775808 ≤ x.reply.level := by
  obtain ⟨h1, h2, h3, h4⟩ := Sls.get h
  refine ⟨h1, h2, h3, fun i x hx => ?_⟩
  obtain ⟨b, o, ha, r, hr, ⟨da, dc, oa, oc, hc, h5⟩, h6⟩ := h4 i x hx
  subst hc
  exact ⟨b, o, da, dc, oa, oc, ha, ⟨h6 0 _ rfl, h6 1 _ rfl, h6 2 _ rfl, h6 3 _ rfl, h6 4 _ rfl, h6 5 _ rfl, h6 6 _ rfl, h6 7 _ rfl, h6 8 _ rfl⟩, h5⟩

/-- Few and small outcomes. -/
def smallOcs (l : List Oc) (n : Int) : Bool := l.all (fun o => o.reply.small) && decide ((l.length : Int) ≤ n)

end Go.Proofs.YtipnamoocemeeaaGreat
