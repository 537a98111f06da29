/-
  The contract of modscanref10.Match: the cases joined.
-/
import Derived.Test.YtpmidoneoonlcaaGreatRmat
namespace Go.Proofs.YtpmidoneoonlcaaGreat
open Go.RowKit
theorem mhead_mk (w : World) (qf qa qq qc qo fn exc : Int) (da : Option Addr) (dn dc : Nat) (code level : Int) (more : Bool) (next : Int) (oa : Option Addr) (on oc : Nat) (data : List UInt8) (objs : List Ob)
    (hd : Bs w (.slice da dn dc) data) (ho : Obs w (.slice oa on oc) objs) :
    MHead w (Rq.ok ⟨qf, qa, qq, qc, qo⟩) (Rp.ok ⟨fn, exc, data, code, level, more, next, objs⟩) qf qa qq qc qo fn exc da dn dc code level more next oa on oc :=
  ⟨fun W => rqvalid_any qf qa qq qc qo W, fun W hW => vreply_any fn exc _ code level more next _ data objs W (hd.keep hW) (ho.keep hW) _ (hid rfl)⟩

theorem Obs.capOf {w : World} {a : Option Addr} {n c : Nat} {l : List Ob} (h : Obs w (.slice a n c) l) : l.length = n := by
  obtain ⟨_, _, hv, _⟩ := h
  cases hv; rfl

theorem rmatch_any (w : World) (qf qa qq qc qo fn exc : Int) (da : Option Addr) (dn dc : Nat) (code level : Int) (more : Bool) (next : Int) (oa : Option Addr) (on oc : Nat) (data : List UInt8) (objs : List Ob)
    (hd : Bs w (.slice da dn dc) data) (ho : Obs w (.slice oa on oc) objs) :
    Calls Tryz.prog 84 #[.agg #[.int .i64 qf, .int .i64 qa, .int .i64 qq, .int .i64 qc, .int .i64 qo], .agg #[.int .i64 fn, .int .i64 exc, .slice da dn dc, .int .i64 code, .int .i64 level, .bool more, .int .i64 next, .slice oa on oc]] w fun r w' => r = .returned (.bool (matchB ⟨qf, qa, qq, qc, qo⟩ ⟨fn, exc, data, code, level, more, next, objs⟩)) ∧ Below w.heap.size w w' := by
  have H := mhead_mk w qf qa qq qc qo fn exc da dn dc code level more next oa on oc data objs hd ho
  obtain ⟨V, hV⟩ : ∃ V, matchB ⟨qf, qa, qq, qc, qo⟩ ⟨fn, exc, data, code, level, more, next, objs⟩ = V := ⟨_, rfl⟩
  rw [hV]
  unfold matchB at hV
  simp only at hV
  cases h1 : Rq.ok ⟨qf, qa, qq, qc, qo⟩ with
  | false =>
    rw [h1] at H hV
    simp only [Bool.false_and] at hV
    subst hV
    exact rmatA w _ _ qf qa qq qc qo fn exc da dn dc code level more next oa on oc H (.inl rfl)
  | true =>
  cases h2 : Rp.ok ⟨fn, exc, data, code, level, more, next, objs⟩ with
  | false =>
    rw [h1, h2] at H hV
    simp only [Bool.and_false, Bool.false_and] at hV
    subst hV
    exact rmatA w _ _ qf qa qq qc qo fn exc da dn dc code level more next oa on oc H (.inr (.inl rfl))
  | true =>
  rw [h1, h2] at H hV
  simp only [Bool.true_and] at hV
  by_cases h3 : qf = fn
  rotate_left
  · have : (qf == fn) = false := by simpa using h3
    rw [this, Bool.false_and] at hV
    subst hV
    exact rmatA w _ _ qf qa qq qc qo fn exc da dn dc code level more next oa on oc H (.inr (.inr h3))
  subst h3
  rw [beq_self_eq_true, Bool.true_and] at hV
  by_cases hx : exc = 0
  rotate_left
  · rw [if_neg hx] at hV
    subst hV
    exact rmat_exc w qa qq qc qo qf exc da dn dc code level more next oa on oc H (by simpa using hx)
  subst hx
  rw [if_pos rfl] at hV
  obtain ⟨hdn, _, _⟩ := hd.capOf
  have hon := ho.capOf
  have hk : qf = 1 ∨ qf = 2 ∨ qf = 3 ∨ qf = 4 ∨ qf = 17 ∨ qf = 43 := by
    unfold Rq.ok at h1
    simp only at h1
    split at h1
    · omega
    · split at h1
      · omega
      · split at h1
        · omega
        · cases h1
  have hq : (1 ≤ qf ∧ qf ≤ 4) → 1 ≤ qq ∧ qq ≤ 2000 := by
    intro h
    unfold Rq.ok at h1
    simp only at h1
    rw [if_pos h] at h1
    simp at h1
    have := (limI_bd qf).2
    omega
  have hbits : (qf = 1 ∨ qf = 2) → ∀ s : Nat, qq % 8 = s → 1 ≤ s → (dn : Int) = (qq + 7) / 8 → ∃ b o, da = some ⟨b, o, none⟩ ∧ 1 ≤ dn ∧ ∀ W, Below w.heap.size w W → W.cell? ⟨b, o + (dn - 1), none⟩ = some (.int .u8 (lastB data)) := by
    intro h s hs hs1 hn
    have := hq (by omega)
    have hdp : 1 ≤ dn := by omega
    obtain ⟨b, o, rfl, hc⟩ := hd.byte (i := dn - 1) (by omega)
    refine ⟨b, o, rfl, hdp, fun W hW => ?_⟩
    have := cell_keep hW hc
    rw [this]
    unfold lastB bAt
    rw [hdn]
  have hmod : 1 ≤ qq → qq.tmod 8 = qq % 8 := fun h => Int.tmod_eq_emod_of_nonneg (by omega)
  have hm1 := Int.emod_nonneg qq (show (8 : Int) ≠ 0 by decide)
  have hm2 := Int.emod_lt_of_pos qq (show 0 < (8 : Int) by decide)
  rcases hk with rfl | rfl | rfl | rfl | rfl | rfl
  · rw [if_pos (by decide)] at hV
    rw [hdn] at hV
    obtain ⟨q1, q2⟩ := hq (by decide)
    by_cases hn : (dn : Int) = (qq + 7) / 8
    · have hn' : ((dn : Int) != (qq + 7) / 8) = false := by rw [bne_eq_false_iff_eq]; exact hn
      have hn2 : ((dn : Int) == (qq + 7) / 8) = true := by rw [beq_iff_eq]; exact hn
      rw [hn2, Bool.true_and] at hV
      by_cases hz : qq % 8 = 0
      · rw [hz] at hV
        have : V = true := by rw [← hV]; rfl
        subst this
        exact rmat_bitz1 w qa qq qc qo da dn dc code level more next oa on oc H q1 q2 hn' (by rw [hmod q1]; exact hz)
      · obtain ⟨s, hs⟩ := Int.eq_ofNat_of_zero_le hm1
        have hs1 : 1 ≤ s := by omega
        obtain ⟨b, o, rfl, ha, hx⟩ := hbits (by decide) s hs hs1 hn
        have hs0 : ((s : Int) == 0) = false := by rw [beq_eq_false_iff_ne]; omega
        rw [hs, hs0, Bool.false_or, Int.toNat_natCast] at hV
        exact rmat_bits1 w qa qq qc qo b o dn dc code level more next oa on oc H q1 q2 hn' s (by rw [hmod q1]; exact hs) hs1 (by omega) hs0 ha _ hx V hV
    · have hn' : ((dn : Int) != (qq + 7) / 8) = true := by rw [bne_iff_ne]; exact hn
      have hn2 : ((dn : Int) == (qq + 7) / 8) = false := by rw [beq_eq_false_iff_ne]; exact hn
      rw [hn2, Bool.false_and] at hV
      subst hV
      exact rmat_bitn1 w qa qq qc qo da dn dc code level more next oa on oc H q1 q2 hn'
  · rw [if_pos (by decide)] at hV
    rw [hdn] at hV
    obtain ⟨q1, q2⟩ := hq (by decide)
    by_cases hn : (dn : Int) = (qq + 7) / 8
    · have hn' : ((dn : Int) != (qq + 7) / 8) = false := by rw [bne_eq_false_iff_eq]; exact hn
      have hn2 : ((dn : Int) == (qq + 7) / 8) = true := by rw [beq_iff_eq]; exact hn
      rw [hn2, Bool.true_and] at hV
      by_cases hz : qq % 8 = 0
      · rw [hz] at hV
        have : V = true := by rw [← hV]; rfl
        subst this
        exact rmat_bitz2 w qa qq qc qo da dn dc code level more next oa on oc H q1 q2 hn' (by rw [hmod q1]; exact hz)
      · obtain ⟨s, hs⟩ := Int.eq_ofNat_of_zero_le hm1
        have hs1 : 1 ≤ s := by omega
        obtain ⟨b, o, rfl, ha, hx⟩ := hbits (by decide) s hs hs1 hn
        have hs0 : ((s : Int) == 0) = false := by rw [beq_eq_false_iff_ne]; omega
        rw [hs, hs0, Bool.false_or, Int.toNat_natCast] at hV
        exact rmat_bits2 w qa qq qc qo b o dn dc code level more next oa on oc H q1 q2 hn' s (by rw [hmod q1]; exact hs) hs1 (by omega) hs0 ha _ hx V hV
    · have hn' : ((dn : Int) != (qq + 7) / 8) = true := by rw [bne_iff_ne]; exact hn
      have hn2 : ((dn : Int) == (qq + 7) / 8) = false := by rw [beq_eq_false_iff_ne]; exact hn
      rw [hn2, Bool.false_and] at hV
      subst hV
      exact rmat_bitn2 w qa qq qc qo da dn dc code level more next oa on oc H q1 q2 hn'
  · rw [if_neg (by decide), if_pos (by decide)] at hV
    rw [hdn] at hV
    obtain ⟨q1, q2⟩ := hq (by decide)
    exact rmat_reg3 w qa qq qc qo da dn dc code level more next oa on oc H q1 q2 V hV
  · rw [if_neg (by decide), if_pos (by decide)] at hV
    rw [hdn] at hV
    obtain ⟨q1, q2⟩ := hq (by decide)
    exact rmat_reg4 w qa qq qc qo da dn dc code level more next oa on oc H q1 q2 V hV
  · have : V = true := by rw [← hV]; rfl
    subst this
    exact rmat_srv w qa qq qc qo da dn dc code level more next oa on oc H
  · rw [if_neg (by decide), if_neg (by decide), if_pos (by decide)] at hV
    cases hc : (code == qc) with
    | false =>
      rw [hc, Bool.false_and] at hV
      subst hV
      exact rmat_devn w qa qq qc qo da dn dc code level more next oa on oc H hc
    | true =>
      rw [hc, Bool.true_and] at hV
      rw [beq_iff_eq] at hc
      subst hc
      match objs, ho, hon, hV with
      | [], _, hon, hV =>
        obtain rfl : on = 0 := by simpa using hon.symm
        have : V = true := by rw [← hV]; rfl
        subst this
        exact rmat_devz w qa qq qo da dn dc code level more next oa oc H
      | x :: objs, ho, hon, hV =>
        have hV' : decide (qo ≤ x.id) = V := by rw [← hV]; rfl
        obtain ⟨b, o, c, hv, _, _, hel⟩ := ho.at (by simp)
        cases hv
        have hcx := (hel 0 x rfl).1
        exact rmat_devs w qa qq qo da dn dc code level more next b o _ oc H (by rw [beq_eq_false_iff_ne]; simp; omega) (by simp) x.id (fun W hW => by have := cell_keep hW hcx; simpa using this) V hV'

end Go.Proofs.YtpmidoneoonlcaaGreat
