/-
  Several texts of this claim in one file.
-/
import Derived.Test.YtliblgmpclefgaaGreatMrecb
import Derived.Test.YtliblgmpclefgaaGreatMrece
import Derived.Test.YtliblgmpclefgaaGreatRecE3
import Derived.Test.YtliblgmpclefgaaGreatMbase
import Derived.Test.YtliblgmpclefgaaGreatMrec
/-
The contract of the reference's ValidReply, whole; comparisons of outcomes; the cuts; the two Valid of outcomes.
-/
namespace Go.Proofs.YtliblgmpclefgaaGreat
open Go.RowKit

theorem isEmpty_len {α : Type} (l : List α) : l.isEmpty = decide (l.length = 0) := by cases l <;> simp

end Go.Proofs.YtliblgmpclefgaaGreat

/-
The contracts of zero, of the two Valid of outcomes, of the reference's Strip and of the cuts.
-/
namespace Go.Proofs.YtliblgmpclefgaaGreat
open Go.RowKit

theorem sameObs_nil (l : List Ob) : sameObs l [] = l.isEmpty := by cases l <;> rfl
theorem same_zero (a b : Int) (r : Rp) : Rp.same r ⟨a, b, [], 0, 0, false, 0, []⟩ = (r.fn == a && r.exc == b && r.short) := by
  cases r with
  | mk fn exc data code level more next objs =>
    cases data <;> cases more <;> simp [Rp.same, Rp.short, Rp.plain, sameObs_nil, Bool.and_assoc]

theorem Oc.ok_345 {o : Oc} (h : o.verdict = 3 ∨ o.verdict = 4 ∨ o.verdict = 5) : o.ok = (o.reply.fn == 0 && o.reply.exc == 0 && o.reply.short) := by unfold Oc.ok; rw [if_pos h]
theorem Oc.ok_2 {o : Oc} (h : o.verdict = 2) : o.ok = (!(o.reply.exc == 0) && o.reply.ok) := by unfold Oc.ok; rw [if_neg (by omega), if_pos h]
theorem Oc.ok_1 {o : Oc} (h : o.verdict = 1) : o.ok = ((o.reply.exc == 0) && (if tblB o.reply.fn then o.reply.short else o.reply.ok)) := by unfold Oc.ok; rw [if_neg (by omega), if_neg (by omega), if_pos h]
theorem Oc.ok_no {o : Oc} (h : o.verdict < 1 ∨ 5 < o.verdict) : o.ok = false := by unfold Oc.ok; rw [if_neg (by omega), if_neg (by omega), if_neg (by omega)]

theorem b2 (w : World) (X Y : Obj) : Below w.heap.size w ((w.alloc X).alloc Y) := (bal' w X).alloc (by simp) Y
theorem b3 (w : World) (X Y Z : Obj) : Below w.heap.size w (((w.alloc X).alloc Y).alloc Z) := (b2 w X Y).alloc (by simp; omega) Z

theorem verdict_cases (v : Int) : (v = 3 ∨ v = 4 ∨ v = 5) ∨ v = 2 ∨ v = 1 ∨ ((v < 1 ∨ 5 < v) ∧ (v == 1) = false ∧ (v == 2) = false ∧ (v == 3) = false ∧ (v == 4) = false ∧ (v == 5) = false) := by
  rcases (show (v = 3 ∨ v = 4 ∨ v = 5) ∨ v = 2 ∨ v = 1 ∨ (v < 1 ∨ 5 < v) by omega) with h | h | h | h
  · exact .inl h
  · exact .inr (.inl h)
  · exact .inr (.inr (.inl h))
  · refine .inr (.inr (.inr ⟨h, ?_, ?_, ?_, ?_, ?_⟩)) <;> (rw [beq_eq_false_iff_ne]; omega)
theorem exc_cases (x : Int) : x = 0 ∨ (x ≠ 0 ∧ (x == 0) = false ∧ (x != 0) = true) := by
  by_cases h : x = 0
  · exact .inl h
  · exact .inr ⟨h, by simpa using h, by simpa using h⟩
theorem tbl_cases2 (f : Int) : (1 ≤ f ∧ f ≤ 4 ∧ tblB f = true) ∨ (f < 1 ∧ tblB f = false) ∨ (1 ≤ f ∧ 4 < f ∧ tblB f = false) := by
  rcases (show (1 ≤ f ∧ f ≤ 4) ∨ f < 1 ∨ (1 ≤ f ∧ 4 < f) by omega) with ⟨h, h'⟩ | h | ⟨h, h'⟩
  · exact .inl ⟨h, h', by simp [tblB, h, h']⟩
  · exact .inr (.inl ⟨h, by unfold tblB; rw [decide_eq_false (by omega)]; rfl⟩)
  · exact .inr (.inr ⟨h, h', by unfold tblB; rw [decide_eq_false (show ¬ f ≤ 4 by omega), Bool.and_false]⟩)

end Go.Proofs.YtliblgmpclefgaaGreat

/-
The contract of the reference's Strip, and of the cuts.
-/
namespace Go.Proofs.YtliblgmpclefgaaGreat
open Go.RowKit

/-- A value that reads as an outcome. -/
def OcV (w : World) (val : Value) (o : Oc) : Prop := ∃ da dc oa oc, val = .agg #[.int .i64 o.verdict, .int .i64 o.reply.fn, .int .i64 o.reply.exc, .slice da o.reply.data.length dc, .int .i64 o.reply.code, .int .i64 o.reply.level, .bool o.reply.more, .int .i64 o.reply.next, .slice oa o.reply.objs.length oc] ∧ Bs w (.slice da o.reply.data.length dc) o.reply.data ∧ Obs w (.slice oa o.reply.objs.length oc) o.reply.objs

theorem OcV.keep {w w' : World} {val : Value} {o : Oc} (h : OcV w val o) (hb : Below w.heap.size w w') : OcV w' val o := by
  obtain ⟨da, dc, oa, oc, h1, h2, h3⟩ := h
  exact ⟨da, dc, oa, oc, h1, h2.keep hb, h3.keep hb⟩

/-- What a call that answers an outcome leaves. -/
def OcPost (w : World) (o : Oc) (r : Ending) (w' : World) : Prop := ∃ val, r = .returned val ∧ OcV w' val o ∧ Below w.heap.size w w'

theorem Oc.strip_no {v : Int} {r : Rp} (h : ¬ (v = 1 ∨ v = 2)) : Oc.strip ⟨v, r⟩ = ⟨v, Rp.zero⟩ := by unfold Oc.strip; rw [if_neg h]
theorem Oc.strip_short {v : Int} {r : Rp} (h : v = 2 ∨ (v = 1 ∧ tblB r.fn = true)) : Oc.strip ⟨v, r⟩ = ⟨v, ⟨r.fn, r.exc, [], 0, 0, false, 0, []⟩⟩ := by
  unfold Oc.strip
  rcases h with h | ⟨h, h'⟩
  · rw [if_pos (.inr h), if_pos (.inl h)]
  · rw [if_pos (.inl h), if_pos (.inr h')]
theorem Oc.strip_all {v : Int} {r : Rp} (h : v = 1) (h' : tblB r.fn = false) : Oc.strip ⟨v, r⟩ = ⟨v, r⟩ := by
  unfold Oc.strip
  rw [if_pos (.inl h), if_neg]
  rintro (h2 | h2)
  · simp only at h2; omega
  · simp only at h2; rw [h'] at h2; cases h2

theorem strip_cases (v f : Int) : (¬ (v = 1 ∨ v = 2) ∧ (v != 1) = true ∧ (v != 2) = true ∧ (v == 1) = false ∧ (v == 2) = false) ∨ v = 2 ∨ (v = 1 ∧ ((1 ≤ f ∧ f ≤ 4 ∧ tblB f = true) ∨ (f < 1 ∧ tblB f = false) ∨ (1 ≤ f ∧ 4 < f ∧ tblB f = false))) := by
  by_cases h1 : v = 1
  · exact .inr (.inr ⟨h1, tbl_cases2 f⟩)
  · by_cases h2 : v = 2
    · exact .inr (.inl h2)
    · exact .inl ⟨by omega, by simpa using h1, by simpa using h2, by simpa using h1, by simpa using h2⟩

/-- Few and short objects. -/
def smallObs (l : List Ob) : Bool := decide (l.length ≤ 40) && l.all fun x => decide (x.val.length ≤ 300)
def Rp.small (r : Rp) : Bool := decide (r.data.length ≤ 300) && smallObs r.objs

theorem small_no {l : List Ob} {k : Nat} {x : Ob} (h : l[k]? = some x) (hx : 300 < x.val.length) : smallObs l = false := by
  cases hs : smallObs l with
  | false => rfl
  | true =>
    simp only [smallObs, Bool.and_eq_true, List.all_eq_true, decide_eq_true_eq] at hs
    have := hs.2 x (List.mem_of_getElem? h)
    omega

set_option maxRecDepth 100000 in
set_option maxHeartbeats 3200000 in
theorem objects_any (v : Value) (l : List Ob) (w : World) (ho : Obs w v l) (V : Bool) (hV : Hid (smallObs l = V)) :
    Calls Tryz.prog 20 #[v] w fun r w' => r = .returned (.bool V) ∧ w = w' := by
  obtain ⟨a, n, c, rfl, hln, hn, hnc, hcm, hel⟩ := ho.open_
  clear ho
  replace hel := hid hel
  replace hln := hid hln
  go_enter Tryz.func20, Tryz.ntmps20
  go_wp2
  go_loop [3] (fun i => ∃ k : Nat, k ≤ n ∧ i = .int .i64 k ∧ Hid (∀ (j : Nat) (x : Ob), j < k → l[j]? = some x → x.val.length ≤ 300)) (fun i => n - (intOf i).toNat)
  case atStart => exact ⟨0, Nat.zero_le _, rfl, fun j x h => by omega⟩
  case round =>
    obtain ⟨k, hk, rfl, hri⟩ := hrel
    by_cases hlt : k < n
    · obtain ⟨x, hgx⟩ := get_some hln.out hlt
      obtain ⟨b, o, xa, xc, rfl, d1, d2, q⟩ := hel.out k x hgx
      have hxm := q.len
      unfold maxLen at hxm
      have HNO := hid (small_no hgx)
      have HST := hid (show x.val.length ≤ 300 → ∀ (j : Nat) (u : Ob), j < k + 1 → l[j]? = some u → u.val.length ≤ 300 from fun hs j u hj hu => by
        by_cases hjk : j = k
        · subst hjk; rw [hgx] at hu; cases hu; exact hs
        · exact hri.out j u (by omega) hu)
      clear hgx q hri
      generalize x.val.length = xn at *
      have hkl : (k : Int) < (n : Int) := by omega
      by_cases hx : xn ≤ 300
      · have HT := hid (HST.out hx)
        go_wp2
        go_round
        case rel => exact ⟨k + 1, by omega, by go_num, HT.out⟩
        case measure => simp [intOf]; omega
      · have HF := hid (HNO.out (by omega))
        go_wp2
        go_ret
        exact ⟨by rw [← hV.out, HF.out]; rfl, rfl⟩
    · obtain rfl : k = n := by omega
      have HF : Hid (V = decide (k ≤ 40)) := by
        show V = _
        rw [← hV.out]
        unfold smallObs
        rw [hln.out, show (l.all fun x => decide (x.val.length ≤ 300)) = true from by
          rw [List.all_eq_true]
          intro x hx
          obtain ⟨j, hj⟩ := List.getElem?_of_mem hx
          exact decide_eq_true (hri.out j x (by have := (List.getElem?_eq_some_iff.1 hj).1; have := hln.out; omega) hj), Bool.and_true]
      go_wp2
      go_ret
      exact ⟨by rw [HF.out]; exact ret_bool (by rw [Bool.eq_iff_iff]; simp; omega), rfl⟩

end Go.Proofs.YtliblgmpclefgaaGreat

/-
Rows of objects, and the contract of slices.Clone at objects.
-/
namespace Go.Proofs.YtliblgmpclefgaaGreat
open Go.RowKit

/-- Cells that read as objects. -/
def ObCs (w : World) (cs : List Value) (l : List Ob) : Prop :=
  cs.length = l.length * 2 ∧ ∀ (i : Nat) (x : Ob), l[i]? = some x → cs[i * 2]? = some (.int .i64 x.id) ∧ ∃ a c, cs[i * 2 + 1]? = some (.slice a x.val.length c) ∧ Bs w (.slice a x.val.length c) x.val

theorem ObCs.keep {w w' : World} {cs : List Value} {l : List Ob} (h : ObCs w cs l) (hb : Below w.heap.size w w') : ObCs w' cs l :=
  ⟨h.1, fun i x hx => by
    obtain ⟨h1, a, c, h2, h3⟩ := h.2 i x hx
    exact ⟨h1, a, c, h2, h3.keep hb⟩⟩

theorem ObCs.nil (w : World) : ObCs w [] [] := ⟨rfl, fun i x hx => by simp at hx⟩

theorem ObCs.one {w : World} {cs : List Value} {l : List Ob} (h : ObCs w cs l) : ∀ u ∈ cs, u.oneCell' = true := by
  intro u hu
  obtain ⟨j, hj⟩ := List.getElem?_of_mem hu
  have hjl := (List.getElem?_eq_some_iff.1 hj).1
  have hlen := h.1
  obtain ⟨x, hx⟩ := get_some (l := l) (k := j / 2) rfl (by omega)
  obtain ⟨h1, a, c, h2, _⟩ := h.2 (j / 2) x hx
  rcases Nat.mod_two_eq_zero_or_one j with hm | hm
  · rw [show j / 2 * 2 = j by omega, hj] at h1
    cases h1; rfl
  · rw [show j / 2 * 2 + 1 = j by omega, hj] at h2
    cases h2; rfl

/-- The cells of a slice of objects. -/
theorem Obs.cells {w : World} {b o n c : Nat} {l : List Ob} (h : Obs w (.slice (some ⟨b, o, none⟩) n c) l) : ∃ cs, ObCs w cs l ∧ l.length = n ∧ ∀ j u, cs[j]? = some u → w.cell? ⟨b, o + j, none⟩ = some u := by
  obtain ⟨a, c', hv, h1, h2, h3, h4⟩ := h
  cases hv
  have hall : ∀ j, j < l.length * 2 → ∃ u, w.cell? ⟨b, o + j, none⟩ = some u := by
    intro j hj
    obtain ⟨b', o', ha, hc⟩ := h4 (by rintro rfl; simp at hj)
    cases ha
    obtain ⟨x, hx⟩ := get_some (l := l) (k := j / 2) rfl (by omega)
    obtain ⟨h5, v, h6, _⟩ := hc (j / 2) x hx
    rcases Nat.mod_two_eq_zero_or_one j with hm | hm
    · rw [show o + j / 2 * 2 = o + j by omega] at h5; exact ⟨_, h5⟩
    · rw [show o + j / 2 * 2 + 1 = o + j by omega] at h6; exact ⟨_, h6⟩
  have hget : ∀ j, j < l.length * 2 → ((List.range (l.length * 2)).map fun j => (w.cell? ⟨b, o + j, none⟩).getD undef)[j]? = w.cell? ⟨b, o + j, none⟩ := by
    intro j hj
    obtain ⟨u, hu⟩ := hall j hj
    simp [hj, hu]
  refine ⟨(List.range (l.length * 2)).map fun j => (w.cell? ⟨b, o + j, none⟩).getD undef, ⟨by simp, fun i x hx => ?_⟩, rfl, fun j u hj => ?_⟩
  · have hi := (List.getElem?_eq_some_iff.1 hx).1
    obtain ⟨b', o', ha, hc⟩ := h4 (by rintro rfl; simp at hx)
    cases ha
    obtain ⟨h5, v, h6, h7⟩ := hc i x hx
    obtain ⟨xa, xc, rfl, _⟩ := id h7
    refine ⟨by rw [hget _ (by omega)]; exact h5, xa, xc, by rw [hget _ (by omega), ← Nat.add_assoc]; exact h6, h7⟩
  · have hjl := (List.getElem?_eq_some_iff.1 hj).1
    rw [hget j (by simpa using hjl)] at hj
    exact hj

theorem Obs.of_own {w : World} {base : Nat} {E : TypeId} {v : Value} {n : Nat} {cs : List Value} {l : List Ob} (h : w.ownsRow base E 2 v n cs) (hc : ObCs w cs l) (hn : l.length = n) : Obs w v l := by
  subst hn
  obtain ⟨hlen, h | ⟨g, cap, cur, hv, hb, hh, hnc, hcm, hcs, ht⟩⟩ := h
  · obtain ⟨rfl, h0⟩ := h
    have : l = [] := List.eq_nil_of_length_eq_zero h0
    subst this
    exact Obs.nil w
  · refine ⟨_, _, hv, hnc, hcm, fun h => by simp at h, fun hl => ⟨g, 0, rfl, fun i x hx => ?_⟩⟩
    have hi := (List.getElem?_eq_some_iff.1 hx).1
    obtain ⟨h1, a, c, h2, h3⟩ := hc.2 i x hx
    have hcell : ∀ j, j < l.length * 2 → w.cell? ⟨g, j, none⟩ = cs[j]? := by
      intro j hj
      have h4 : cur[j]? = cs[j]? := by
        have := take_get (n := l.length * 2) (xs := cs) ht j (by rw [hlen]; exact hj)
        exact this
      simp only [World.cell?, hh, Option.isSome_none]
      exact h4
    rw [Nat.zero_add]
    refine ⟨by rw [hcell _ (by omega)]; exact h1, _, by rw [hcell _ (by omega)]; exact h2, h3⟩

theorem own_shapeR {w : World} {base : Nat} {e : TypeId} {sz n : Nat} {v : Value} {xs : List Value} (h : w.ownsRow base e sz v n xs) (hn : 0 < n) :
    ∃ g cap, v = .slice (some ⟨g, 0, none⟩) n cap ∧ base ≤ g ∧ n ≤ cap ∧ cap ≤ maxLen := by
  rcases h.2 with ⟨_, h0⟩ | ⟨g, cap, cur, hv, hg, _, hnc, hcm, _⟩
  · omega
  · exact ⟨g, cap, hv, hg, hnc, hcm⟩

theorem infoO : (Tryz.prog.info? 78).map (fun i => (i.zero, i.size, i.bytes)) = some (some (.agg #[.int .i64 0, .slice none 0 0]), 2, 32) := by kernel_rfl

def CloneOPost (w0 w : World) (l : List Ob) (r : Ending) (w' : World) : Prop := ∃ v' cs, r = .returned v' ∧ w'.ownsRow w.heap.size 78 2 v' l.length cs ∧ ObCs w0 cs l ∧ Below w.heap.size w w'

end Go.Proofs.YtliblgmpclefgaaGreat

/-
The contract of record.Strip.
-/
namespace Go.Proofs.YtliblgmpclefgaaGreat
open Go.RowKit

/-- Cells that read as objects whose bytes lie in no block of F. -/
def ObCg (F : Nat → Prop) (w : World) (cs : List Value) (l : List Ob) : Prop :=
  cs.length = l.length * 2 ∧ ∀ (i : Nat) (x : Ob), l[i]? = some x → cs[i * 2]? = some (.int .i64 x.id) ∧ ∃ a c, cs[i * 2 + 1]? = some (.slice a x.val.length c) ∧ Bs w (.slice a x.val.length c) x.val ∧ (x.val ≠ [] → ∀ ad, a = some ad → ¬ F ad.block)

theorem ObCg.cs {F : Nat → Prop} {w : World} {cs : List Value} {l : List Ob} (h : ObCg F w cs l) : ObCs w cs l :=
  ⟨h.1, fun i x hx => by
    obtain ⟨h1, a, c, h2, h3, _⟩ := h.2 i x hx
    exact ⟨h1, a, c, h2, h3⟩⟩

theorem Bs.block {w : World} {a : Option Addr} {n c : Nat} {l : List UInt8} (h : Bs w (.slice a n c) l) (hl : l ≠ []) : ∀ ad, a = some ad → ad.block < w.heap.size := by
  obtain ⟨a', c', hv, h1, h2, h3, h4⟩ := h
  cases hv
  obtain ⟨b, o, ha, hc⟩ := h4 hl
  intro ad had
  rw [ha] at had
  cases had
  have := cell_lt (hc 0 (by cases l with | nil => exact absurd rfl hl | cons x l => simp))
  exact this

theorem Bs.keepsN {w w' : World} {F : Nat → Prop} {a : Option Addr} {n c : Nat} {l : List UInt8} (h : Bs w (.slice a n c) l) (hk : Keeps F w w') (hn : l ≠ [] → ∀ ad, a = some ad → ¬ F ad.block) : Bs w' (.slice a n c) l := by
  obtain ⟨a', c', hv, h1, h2, h3, h4⟩ := h
  cases hv
  refine ⟨a, c, rfl, h1, h2, h3, fun hl => ?_⟩
  obtain ⟨b, o, ha, hc⟩ := h4 hl
  exact ⟨b, o, ha, fun i hi => hk.cell (hc i hi) (show ¬ F b from hn hl _ ha)⟩

theorem ObCg.of {F : Nat → Prop} {w w' : World} {cs : List Value} {l : List Ob} (h : ObCs w cs l) (hb : Below w.heap.size w w') (hF : ∀ k, k < w.heap.size → ¬ F k) : ObCg F w' cs l :=
  ⟨h.1, fun i x hx => by
    obtain ⟨h1, a, c, h2, h3⟩ := h.2 i x hx
    exact ⟨h1, a, c, h2, h3.keep hb, fun hl ad had => hF _ (h3.block hl ad had)⟩⟩

theorem ObCg.keeps {F G : Nat → Prop} {w w' : World} {cs : List Value} {l : List Ob} (h : ObCg F w cs l) (hk : Keeps G w w') (hG : ∀ k, G k → F k) : ObCg F w' cs l :=
  ⟨h.1, fun i x hx => by
    obtain ⟨h1, a, c, h2, h3, h4⟩ := h.2 i x hx
    exact ⟨h1, a, c, h2, h3.keepsN hk (fun hl ad had g => h4 hl ad had (hG _ g)), h4⟩⟩

theorem ObCg.set {F : Nat → Prop} {w : World} {cs : List Value} {l : List Ob} (h : ObCg F w cs l) {k : Nat} {x : Ob} (hx : l[k]? = some x) {a : Option Addr} {c : Nat} (hb : Bs w (.slice a x.val.length c) x.val) (hF : x.val ≠ [] → ∀ ad, a = some ad → ¬ F ad.block) :
    ObCg F w (cs.set (k * 2 + 1) (.slice a x.val.length c)) l := by
  refine ⟨by simpa using h.1, fun i y hy => ?_⟩
  obtain ⟨h1, a', c', h2, h3, h4⟩ := h.2 i y hy
  have hi := (List.getElem?_eq_some_iff.1 hy).1
  have hk := (List.getElem?_eq_some_iff.1 hx).1
  by_cases hik : i = k
  · subst hik
    rw [hx] at hy
    cases hy
    refine ⟨?_, a, c, ?_, hb, hF⟩
    · rw [List.getElem?_set_ne (by omega)]; exact h1
    · rw [List.getElem?_set_self (by have := h.1; omega)]
  · refine ⟨?_, a', c', ?_, h3, h4⟩
    · rw [List.getElem?_set_ne (by omega)]; exact h1
    · rw [List.getElem?_set_ne (by omega)]; exact h2

theorem heap3 (w : World) (A B C : Obj) : (((w.alloc A).alloc B).alloc C).heap[w.heap.size]? = some A ∧ (((w.alloc A).alloc B).alloc C).heap[w.heap.size + 1]? = some B ∧ (((w.alloc A).alloc B).alloc C).heap[w.heap.size + 2]? = some C := by
  refine ⟨?_, ?_, ?_⟩
  · rw [Below.heap_alloc _ _ _ (by simp; omega), Below.heap_alloc _ _ _ (by simp)]; exact heap_alloc_new _ _
  · rw [Below.heap_alloc _ _ _ (by simp)]
    have := heap_alloc_new (w.alloc A) B
    rwa [show (w.alloc A).heap.size = w.heap.size + 1 by simp] at this
  · have := heap_alloc_new ((w.alloc A).alloc B) C
    rwa [show ((w.alloc A).alloc B).heap.size = w.heap.size + 2 by simp] at this

theorem heap_setR {w : World} {b : Nat} {c : Array Value} {t : TypeId} {fz : Nat × Nat} (h : w.heap[b]? = some (.cells c t fz)) (i : Nat) (u : Value) :
    (w.setCell ⟨b, i, none⟩ u).heap[b]? = some (.cells (c.setIfInBounds i u) t fz) := by
  simp [World.setCell, Array.getElem?_modify, h]
theorem heap_setO {w : World} {b k i : Nat} {u : Value} (h : k ≠ b) : (w.setCell ⟨b, i, none⟩ u).heap[k]? = w.heap[k]? := Below.heap_setCell _ _ _ _ h

theorem cell_heap {w : World} {b : Nat} {c : Array Value} {t : TypeId} {fz : Nat × Nat} (h : w.heap[b]? = some (.cells c t fz)) (i : Nat) : w.cell? ⟨b, i, none⟩ = c[i]? := by simp [World.cell?, h]
theorem free_heap {w : World} {b : Nat} {c : Array Value} {t : TypeId} (h : w.heap[b]? = some (.cells c t (0, 0))) (i : Nat) : w.frozen? ⟨b, i, none⟩ = false := by simp [World.frozen?, h]

end Go.Proofs.YtliblgmpclefgaaGreat

/-
Slices of outcomes that read as lists, and the contract of modscanmake.Outcomes.
-/
namespace Go.Proofs.YtliblgmpclefgaaGreat
open Go.RowKit

/-- Nine cells that hold an outcome. -/
def OcR (w : World) (cs : List Value) (x : Oc) : Prop := ∃ da dc oa oc, cs = [.int .i64 x.verdict, .int .i64 x.reply.fn, .int .i64 x.reply.exc, .slice da x.reply.data.length dc, .int .i64 x.reply.code, .int .i64 x.reply.level, .bool x.reply.more, .int .i64 x.reply.next, .slice oa x.reply.objs.length oc] ∧
  Bs w (.slice da x.reply.data.length dc) x.reply.data ∧ Obs w (.slice oa x.reply.objs.length oc) x.reply.objs ∧ x.reply.level ≤ 9223372036854775807 ∧ -9223372036854775808 ≤ x.reply.level

theorem OcR.keep (w w' : World) (r : List Value) (x : Oc) (h : OcR w r x) (hb : Below w.heap.size w w') : OcR w' r x := by
  obtain ⟨da, dc, oa, oc, h1, h2, h3, h4⟩ := h
  exact ⟨da, dc, oa, oc, h1, h2.keep hb, h3.keep hb, h4⟩

def Ocs (w : World) (v : Value) (l : List Oc) : Prop := Sls 9 OcR w v l

theorem Ocs.keep {w w' : World} {v : Value} {l : List Oc} (h : Ocs w v l) (hb : Below w.heap.size w w') : Ocs w' v l := Sls.keep OcR.keep h hb

theorem ocR_rd {w : World} {cs : List Value} (h : Rd Tryz.prog w 54 cs) : ∃ x, OcR w cs x := by
  obtain ⟨v, r, rs, rfl, da, dc, oa, oc, rfl, h1, h2, h3, h4⟩ := oc_rd h
  exact ⟨⟨v, r⟩, da, dc, oa, oc, rfl, h1, h2, h3, h4⟩

/-- The cells of outcome number k. -/
def OcAt (w : World) (b o : Nat) (x : Oc) (da : Option Addr) (dc : Nat) (oa : Option Addr) (oc : Nat) : Prop :=
  w.cell? ⟨b, o, none⟩ = some (.int .i64 x.verdict) ∧ w.cell? ⟨b, o + 1, none⟩ = some (.int .i64 x.reply.fn) ∧ w.cell? ⟨b, o + 1 + 1, none⟩ = some (.int .i64 x.reply.exc) ∧
  w.cell? ⟨b, o + 1 + 2, none⟩ = some (.slice da x.reply.data.length dc) ∧ w.cell? ⟨b, o + 1 + 3, none⟩ = some (.int .i64 x.reply.code) ∧ w.cell? ⟨b, o + 1 + 4, none⟩ = some (.int .i64 x.reply.level) ∧
  w.cell? ⟨b, o + 1 + 5, none⟩ = some (.bool x.reply.more) ∧ w.cell? ⟨b, o + 1 + 6, none⟩ = some (.int .i64 x.reply.next) ∧ w.cell? ⟨b, o + 1 + 7, none⟩ = some (.slice oa x.reply.objs.length oc)

theorem Ocs.get {w : World} {a : Option Addr} {n c : Nat} {l : List Oc} (h : Ocs w (.slice a n c) l) :
    l.length = n ∧ n ≤ c ∧ c ≤ maxLen ∧ ∀ i x, l[i]? = some x → ∃ b o da dc oa oc, a = some ⟨b, o, none⟩ ∧ OcAt w b (o + i * 9) x da dc oa oc ∧
      Bs w (.slice da x.reply.data.length dc) x.reply.data ∧ Obs w (.slice oa x.reply.objs.length oc) x.reply.objs ∧ x.reply.level ≤ 9223372036854775807 ∧ -9223372036854775808 ≤ x.reply.level := by
  obtain ⟨h1, h2, h3, h4⟩ := Sls.get h
  refine ⟨h1, h2, h3, fun i x hx => ?_⟩
  obtain ⟨b, o, ha, r, hr, ⟨da, dc, oa, oc, hc, h5⟩, h6⟩ := h4 i x hx
  subst hc
  exact ⟨b, o, da, dc, oa, oc, ha, ⟨h6 0 _ rfl, h6 1 _ rfl, h6 2 _ rfl, h6 3 _ rfl, h6 4 _ rfl, h6 5 _ rfl, h6 6 _ rfl, h6 7 _ rfl, h6 8 _ rfl⟩, h5⟩

/-- Few and small outcomes. -/
def smallOcs (l : List Oc) (n : Int) : Bool := l.all (fun o => o.reply.small) && decide ((l.length : Int) ≤ n)

theorem smallOcs_no {l : List Oc} {n : Int} {k : Nat} {x : Oc} (h : l[k]? = some x) (hx : x.reply.small = false) : smallOcs l n = false := by
  cases hs : smallOcs l n with
  | false => rfl
  | true =>
    simp only [smallOcs, Bool.and_eq_true, List.all_eq_true] at hs
    have := hs.1 x (List.mem_of_getElem? h)
    rw [hx] at this; cases this

end Go.Proofs.YtliblgmpclefgaaGreat
