/-
  Texts 15 of the claim.
-/
import Derived.Test.YtpkheiaanjhffaaN09
import Derived.Test.YtpkheiaanjhffaaN08
namespace Go.Proofs.Ytpkheiaanjhffaa
open Go.RowKit
def nxtId (l : List Ob) (n : Nat) : Int := match l[n]? with | some x => x.id | none => 0
def Sl.dev (s : Sl) (q : Rq) : Rp :=
  if s.lv = 0 then mkR 43 1 [] else if selO s.objs q.obj (grI q.code) = [] then mkR 43 2 []
  else ⟨43, 0, [], q.code, s.lv, decide (fitN 246 (selO s.objs q.obj (grI q.code)) < (selO s.objs q.obj (grI q.code)).length), nxtId (selO s.objs q.obj (grI q.code)) (fitN 246 (selO s.objs q.obj (grI q.code))), (selO s.objs q.obj (grI q.code)).take (fitN 246 (selO s.objs q.obj (grI q.code)))⟩
def Sl.srvA (s : Sl) : Rp := if s.hs = true then mkR 17 0 s.sd else mkR 17 1 []
def Sl.ans (s : Sl) (q : Rq) (v : Int) : Rp := if q.fn = 43 then s.dev q else if q.fn = 17 then s.srvA else (s.ts (q.fn - 1).toNat).ans q v
theorem rq_cases {q : Rq} (h : q.ok = true) : (1 ≤ q.fn ∧ q.fn ≤ 4 ∧ 0 ≤ q.addr ∧ 1 ≤ q.qty ∧ q.qty ≤ limI q.fn ∧ q.addr ≤ 65536 - q.qty ∧ q.code = 0 ∧ q.obj = 0) ∨ (q.fn = 17 ∧ q.addr = 0 ∧ q.qty = 0 ∧ q.code = 0 ∧ q.obj = 0) ∨ (q.fn = 43 ∧ q.addr = 0 ∧ q.qty = 0 ∧ 1 ≤ q.code ∧ q.code ≤ 3 ∧ 0 ≤ q.obj ∧ q.obj ≤ 255) := by
  unfold Rq.ok at h
  split at h
  · rename_i e
    simp only [Bool.and_eq_true, decide_eq_true_eq, beq_iff_eq] at h
    exact .inl ⟨e.1, e.2, h.1.1.1.1.1, h.1.1.1.1.2, h.1.1.1.2, h.1.1.2, h.1.2, h.2⟩
  · split at h
    · rename_i e
      simp only [Bool.and_eq_true, beq_iff_eq] at h
      exact .inr (.inl ⟨e, h.1.1.1, h.1.1.2, h.1.2, h.2⟩)
    · split at h
      · rename_i e
        simp only [Bool.and_eq_true, decide_eq_true_eq, beq_iff_eq] at h
        exact .inr (.inr ⟨e, h.1.1.1.1.1, h.1.1.1.1.2, h.1.1.1.2, h.1.1.2, h.1.2, h.2⟩)
      · cases h
theorem mkR_ok {fn e : Int} (hf : knownB fn = true) (h1 : 1 ≤ e) (h2 : e ≤ 255) : (mkR fn e []).ok = true := by
  unfold Rp.ok mkR
  dsimp only
  rw [hf, if_neg (by omega), decide_eq_true h1, decide_eq_true h2]
  rfl
theorem mkR_tab {fn : Int} {d : List UInt8} (h1 : 1 ≤ fn) (h4 : fn ≤ 4) (hd : 1 ≤ d.length) (hd2 : d.length ≤ 250) : (mkR fn 0 d).ok = true := by
  unfold Rp.ok mkR
  dsimp only
  have hf : knownB fn = true := by unfold knownB tblB; rw [decide_eq_true h1, decide_eq_true h4]; rfl
  rw [hf, if_pos rfl, if_neg (by omega), if_neg (by omega), decide_eq_true hd, decide_eq_true hd2]
  rfl
theorem rises_weak {a b : Int} : ∀ {l : List Ob}, rises a l = true → b ≤ a → rises b l = true
  | [], _, _ => rfl
  | x :: l, h, hb => by
    simp only [rises, Bool.and_eq_true, decide_eq_true_eq] at h ⊢
    exact ⟨⟨by omega, h.1.2⟩, h.2⟩
theorem rises_filter (f : Ob → Bool) : ∀ {l : List Ob} {a : Int}, rises a l = true → rises a (l.filter f) = true
  | [], _, _ => rfl
  | x :: l, a, h => by
    simp only [rises, Bool.and_eq_true, decide_eq_true_eq] at h
    rw [List.filter_cons]
    split
    · simp only [rises, Bool.and_eq_true, decide_eq_true_eq]
      exact ⟨h.1, rises_filter f h.2⟩
    · exact rises_weak (rises_filter f h.2) (by omega)
theorem rises_take : ∀ {l : List Ob} {a : Int} (n : Nat), rises a l = true → rises a (l.take n) = true
  | [], _, n, _ => by rw [List.take_nil]; rfl
  | x :: l, a, 0, _ => rfl
  | x :: l, a, n + 1, h => by
    simp only [rises, Bool.and_eq_true, decide_eq_true_eq] at h
    rw [List.take_succ_cons]
    simp only [rises, Bool.and_eq_true, decide_eq_true_eq]
    exact ⟨h.1, rises_take n h.2⟩
theorem rises_last : ∀ {l : List Ob} {a : Int} {n : Nat} {x : Ob}, rises a l = true → l[n]? = some x → lastId a (l.take n) < x.id
  | [], _, n, _, _, h => by rw [List.getElem?_nil] at h; cases h
  | y :: l, a, 0, x, h, hx => by
    simp only [rises, Bool.and_eq_true, decide_eq_true_eq] at h
    rw [List.getElem?_cons_zero] at hx
    injection hx with e
    subst e
    exact h.1.1
  | y :: l, a, n + 1, x, h, hx => by
    simp only [rises, Bool.and_eq_true, decide_eq_true_eq] at h
    rw [List.getElem?_cons_succ] at hx
    rw [List.take_succ_cons]
    exact rises_last (a := y.id) h.2 hx
theorem selO_mem {l : List Ob} {lo hi : Int} {x : Ob} (h : x ∈ selO l lo hi) : x ∈ l ∧ lo ≤ x.id ∧ x.id ≤ hi := by
  obtain ⟨h1, h2⟩ := List.mem_filter.1 h
  simp only [Bool.and_eq_true, decide_eq_true_eq] at h2
  exact ⟨h1, h2.1, h2.2⟩
theorem fitN_pos {l : List Ob} (h : l ≠ []) (hv : ∀ x ∈ l, x.val.length ≤ 64) : 1 ≤ fitN 246 l := by
  cases l with
  | nil => exact absurd rfl h
  | cons x l =>
    have := hv x List.mem_cons_self
    rw [fitN, if_pos (by omega)]
    omega
theorem rises_id0 : ∀ {l : List Ob} {a : Int}, rises a l = true → ∀ x ∈ l, a < x.id ∧ x.id ≤ 255
  | [], _, _, x, hx => by cases hx
  | y :: l, a, h, x, hx => by
    simp only [rises, Bool.and_eq_true, decide_eq_true_eq] at h
    rcases List.mem_cons.1 hx with e | e
    · subst e
      exact ⟨h.1.1, h.1.2⟩
    · have := rises_id0 h.2 x e
      omega
theorem Sl.dev_ok {s : Sl} (hv : s.val) {q : Rq} (hc1 : 1 ≤ q.code) (hc3 : q.code ≤ 3) : (s.dev q).ok = true := by
  unfold Sl.dev
  by_cases h0 : s.lv = 0
  · rw [if_pos h0]
    exact mkR_ok rfl (by decide) (by decide)
  · rw [if_neg h0]
    have hl := hv.lv
    by_cases h1 : selO s.objs q.obj (grI q.code) = []
    · rw [if_pos h1]
      exact mkR_ok rfl (by decide) (by decide)
    · rw [if_neg h1]
      have hri := rises_filter (fun x => decide (q.obj ≤ x.id) && decide (x.id ≤ grI q.code)) (hv.ri (by omega))
      have hvl : ∀ x ∈ selO s.objs q.obj (grI q.code), x.val.length ≤ 64 := fun x hx => by
        obtain ⟨i, hi⟩ := List.getElem?_of_mem (selO_mem hx).1
        exact hv.vl (by omega) i x hi
      have hp := fitN_pos h1 hvl
      change rises (-1) (selO s.objs q.obj (grI q.code)) = true at hri
      generalize selO s.objs q.obj (grI q.code) = l at *
      have hsz := fitN_size l 246
      have hnb : 0 ≤ nxtId l (fitN 246 l) ∧ nxtId l (fitN 246 l) ≤ 255 := by
        unfold nxtId
        cases e : l[fitN 246 l]? with
        | none => exact ⟨Int.le_refl _, by decide⟩
        | some x =>
          have := rises_id0 hri x (List.mem_of_getElem? e)
          exact ⟨by show 0 ≤ x.id; omega, this.2⟩
      unfold Rp.ok Rp.devB lvB objsB
      dsimp only
      have hif : (if decide (fitN 246 l < l.length) = true then !(l.take (fitN 246 l)).isEmpty && decide (lastId (-1) (l.take (fitN 246 l)) < nxtId l (fitN 246 l)) else nxtId l (fitN 246 l) == 0) = true := by
        by_cases e : fitN 246 l < l.length
        · rw [if_pos (decide_eq_true e)]
          obtain ⟨x, hx⟩ : ∃ x, l[fitN 246 l]? = some x := ⟨_, List.getElem?_eq_getElem e⟩
          have h3 := rises_last hri hx
          have h4 : nxtId l (fitN 246 l) = x.id := by unfold nxtId; rw [hx]
          rw [h4, decide_eq_true h3]
          cases l with
          | nil => exact absurd rfl h1
          | cons y l =>
            obtain ⟨n, hn⟩ : ∃ n, fitN 246 (y :: l) = n + 1 := ⟨fitN 246 (y :: l) - 1, by omega⟩
            rw [hn]
            rfl
        · rw [if_neg (by rw [decide_eq_false e]; decide)]
          have : nxtId l (fitN 246 l) = 0 := by unfold nxtId; rw [List.getElem?_eq_none (by omega)]
          rw [this]
          rfl
      rw [hif, if_pos rfl, if_pos rfl, decide_eq_true hc1, decide_eq_true hc3, decide_eq_true (show 1 ≤ s.lv by omega), decide_eq_true (show s.lv ≤ 3 by omega), decide_eq_true hnb.1, decide_eq_true hnb.2, rises_take _ hri, decide_eq_true hsz]
      rfl
theorem Tbl.ans_ok {t : Tbl} {q : Rq} (hq : q.ok = true) (h1 : 1 ≤ q.fn) (h4 : q.fn ≤ 4) (v : Int) : (t.ans q v).ok = true := by
  have hf : knownB q.fn = true := by unfold knownB tblB; rw [decide_eq_true h1, decide_eq_true h4]; rfl
  have hc := rq_cases hq
  have hlim : q.qty ≤ limI q.fn ∧ 1 ≤ q.qty := by rcases hc with h | h | h <;> omega
  unfold Tbl.ans
  by_cases e1 : t.sup = false
  · rw [if_pos e1]
    exact mkR_ok hf (by decide) (by decide)
  rw [if_neg e1]
  by_cases e2 : t.most < q.qty
  · rw [if_pos e2]
    exact mkR_ok hf (by decide) (by decide)
  rw [if_neg e2]
  by_cases e3 : covB t.rd q.addr q.qty.toNat = false
  · rw [if_pos e3]
    exact mkR_ok hf (by decide) (by decide)
  rw [if_neg e3]
  unfold limI at hlim
  by_cases e4 : q.fn ≤ 2
  · rw [if_pos e4]
    rw [if_pos (by omega)] at hlim
    refine mkR_tab h1 h4 ?_ ?_
    · rw [bitsL_len]; omega
    · rw [bitsL_len]; omega
  · rw [if_neg e4]
    rw [if_neg (by omega), if_pos (by omega)] at hlim
    refine mkR_tab h1 h4 ?_ ?_
    · rw [regsD_len]; omega
    · rw [regsD_len]; omega
theorem Sl.ans_ok {s : Sl} (hv : s.val) {q : Rq} (hq : q.ok = true) (v : Int) : (s.ans q v).ok = true := by
  unfold Sl.ans
  have hc := rq_cases hq
  by_cases e1 : q.fn = 43
  · rw [if_pos e1]
    exact Sl.dev_ok hv (by rcases hc with h | h | h <;> omega) (by rcases hc with h | h | h <;> omega)
  rw [if_neg e1]
  by_cases e2 : q.fn = 17
  · rw [if_pos e2]
    unfold Sl.srvA
    by_cases e3 : s.hs = true
    · rw [if_pos e3]
      have h1 := hv.sv.1 e3
      have h2 := hv.sl
      unfold Rp.ok mkR
      dsimp only
      rw [if_pos rfl, if_neg (by decide), if_pos rfl, decide_eq_true (show 1 ≤ s.sd.length by omega), decide_eq_true (show s.sd.length ≤ 251 by omega)]
      rfl
    · rw [if_neg e3]
      exact mkR_ok rfl (by decide) (by decide)
  rw [if_neg e2]
  have h3 : 1 ≤ q.fn ∧ q.fn ≤ 4 := by rcases hc with h | h | h <;> omega
  exact Tbl.ans_ok hq h3.1 h3.2 v
end Go.Proofs.Ytpkheiaanjhffaa
