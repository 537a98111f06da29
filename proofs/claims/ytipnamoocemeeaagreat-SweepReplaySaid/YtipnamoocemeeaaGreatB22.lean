/-
  Texts 22 of the claim.
-/
import Derived.Test.YtipnamoocemeeaaGreatB04
import Derived.Test.YtipnamoocemeeaaGreatB20
import Derived.Test.YtipnamoocemeeaaGreatB21
import Derived.Test.YtipnamoocemeeaaGreatB01
import Derived.Test.YtipnamoocemeeaaGreatB03
/-
  Several texts of this claim in one file.
-/
/-
The contract of the reference's ValidReply, whole; comparisons of outcomes; the cuts; the two Valid of outcomes.
-/
namespace Go.Proofs.YtipnamoocemeeaaGreat
open Go.RowKit

theorem isEmpty_len {α : Type} (l : List α) : l.isEmpty = decide (l.length = 0) := by cases l <;> simp

set_option maxRecDepth 100000 in
set_option maxHeartbeats 1600000 in
theorem vreply_any (fn exc : Int) (dv : Value) (code level : Int) (more : Bool) (next : Int) (ov : Value) (data : List UInt8) (objs : List Ob) (w : World) (hd : Bs w dv data) (ho : Obs w ov objs) (V : Bool) (hV : Hid (Rp.ok ⟨fn, exc, data, code, level, more, next, objs⟩ = V)) :
    Calls Tryz.prog 60 #[.agg #[.int .i64 fn, .int .i64 exc, dv, .int .i64 code, .int .i64 level, .bool more, .int .i64 next, ov]] w fun r w' => r = .returned (.bool V) ∧ Below w.heap.size w w' := by
  have hV0 : Rp.ok ⟨fn, exc, data, code, level, more, next, objs⟩ = V := hV.out
  have HO := ho
  obtain ⟨a2, c2, rfl, _⟩ := hd
  obtain ⟨a, c, rfl, _⟩ := ho
  have hpl : Rp.plain ⟨fn, exc, data, code, level, more, next, objs⟩ = (code == 0 && level == 0 && !more && next == 0 && decide (objs.length = 0)) := by rw [← isEmpty_len]; rfl
  cases hk : knownB fn with
  | false =>
    have : V = false := by rw [← hV0]; simp [Rp.ok, hk]
    subst this
    have HKN : Hid (∀ W, Calls Tryz.prog 102 #[.int .i64 fn] W fun r w' => r = .returned (.bool false) ∧ W = w') := fun W => by rw [← hk]; exact function_any _ W
    clear hV0 hk hpl
    go_enter Tryz.func60, Tryz.ntmps60
    go_wp2_with (first | (go_at_call 102; (with_reducible refine (HKN.out _).mono ?_); rintro r w1 ⟨rfl, rfl⟩))
    go_ret
    exact ⟨rfl, bal' _ _⟩
  | true =>
    by_cases hx : exc = 0
    · subst hx
      have hok : Rp.ok ⟨fn, 0, data, code, level, more, next, objs⟩ = (if fn = 43 then Rp.devB ⟨fn, 0, data, code, level, more, next, objs⟩ else if fn = 17 then decide (1 ≤ data.length) && decide (data.length ≤ 251) && Rp.plain ⟨fn, 0, data, code, level, more, next, objs⟩ else decide (1 ≤ data.length) && decide (data.length ≤ 250) && Rp.plain ⟨fn, 0, data, code, level, more, next, objs⟩) := by
        unfold Rp.ok; rw [hk]; rfl
      rw [hok] at hV0
      by_cases h43 : fn = 43
      · subst h43
        rw [if_pos rfl] at hV0
        by_cases hb : data.length = 0 ∧ 1 ≤ code ∧ code ≤ 3
        · obtain ⟨hb1, hb2, hb3⟩ := hb
          have hdata : data = [] := List.eq_nil_of_length_eq_zero hb1
          subst hdata
          have hdv : Rp.devB ⟨43, 0, [], code, level, more, next, objs⟩ = (lvB level && (decide (0 ≤ next) && decide (next ≤ 255) && (rises (-1) objs && decide (obSize objs ≤ 246)) && (if more then !objs.isEmpty && decide (lastId (-1) objs < next) else next == 0))) := by
            simp [Rp.devB, objsB, hb2, hb3, Bool.and_assoc]
          rcases lv_cases level with ⟨l1, l2, l3⟩ | ⟨l1, l2, l3⟩ | ⟨l3, l1⟩
          · exact vreply_dev3 w a2 c2 code level more next _ objs HO hb2 hb3 (.inl ⟨l1, l2⟩) V (by show _ = V; rw [← hV0, hdv, l3, Bool.true_and])
          · exact vreply_dev3 w a2 c2 code level more next _ objs HO hb2 hb3 (.inr ⟨l1, l2⟩) V (by show _ = V; rw [← hV0, hdv, l3, Bool.true_and])
          · have : V = false := by rw [← hV0, hdv, l3, Bool.false_and]
            subst this
            exact vreply_dev2 w a2 a 0 c2 objs.length c code level more next rfl hb2 hb3 l1
        · have : V = false := by
            rw [← hV0]
            cases hx : Rp.devB ⟨43, 0, data, code, level, more, next, objs⟩ with
            | false => rfl
            | true =>
              exfalso; apply hb
              simp only [Rp.devB, Bool.and_eq_true, decide_eq_true_eq, List.isEmpty_iff] at hx
              obtain ⟨⟨⟨⟨⟨⟨⟨h1, h2⟩, h3⟩, _⟩, _⟩, _⟩, _⟩, _⟩ := hx
              exact ⟨by rw [h1]; rfl, h2, h3⟩
          subst this
          exact vreply_dev1 w a2 a data.length c2 objs.length c code level more next (by omega)
      · rw [if_neg h43] at hV0
        by_cases h17 : fn = 17
        · subst h17
          rw [if_pos rfl, hpl] at hV0
          rw [← hV0]
          exact vreply_srv w a2 a data.length c2 objs.length c code level more next
        · rw [if_neg h17, hpl] at hV0
          rw [← hV0]
          refine vreply_tbl w fn a2 a data.length c2 objs.length c code level more next hk ?_
          unfold knownB tblB at hk
          simp at hk
          omega
    · have hok : Rp.ok ⟨fn, exc, data, code, level, more, next, objs⟩ = (decide (1 ≤ exc) && decide (exc ≤ 255) && (decide (data.length = 0) && Rp.plain ⟨fn, exc, data, code, level, more, next, objs⟩)) := by
        unfold Rp.ok Rp.short; rw [hk, if_neg hx, isEmpty_len]; rfl
      rw [hok, hpl] at hV0
      rw [← hV0]
      exact vreply_exc w fn exc a2 a data.length c2 objs.length c code level more next hk hx

end Go.Proofs.YtipnamoocemeeaaGreat

/-
The contracts of zero, of the two Valid of outcomes, of the reference's Strip and of the cuts.
-/
namespace Go.Proofs.YtipnamoocemeeaaGreat
open Go.RowKit

theorem sameObs_nil (l : List Ob) : sameObs l [] = l.isEmpty := by cases l <;> rfl
theorem same_zero (a b : Int) (r : Rp) : Rp.same r ⟨a, b, [], 0, 0, false, 0, []⟩ = (r.fn == a && r.exc == b && r.short) := by
  cases r with
  | mk fn exc data code level more next objs =>
    cases data <;> cases more <;> simp [Rp.same, Rp.short, Rp.plain, sameObs_nil, Bool.and_assoc]

theorem Oc.ok_345 {o : Oc} (h : o.verdict = 3 ∨ o.verdict = 4 ∨ o.verdict = 5) : o.ok = (o.reply.fn == 0 && o.reply.exc == 0 && o.reply.short) := by unfold Oc.ok; rw [if_pos h]
theorem Oc.ok_2 {o : Oc} (h : o.verdict = 2) : o.ok = (!(o.reply.exc == 0) && o.reply.ok) := by unfold Oc.ok; rw [if_neg (by omega), if_pos h]
theorem Oc.ok_1 {o : Oc} (h : o.verdict = 1) : o.ok = ((o.reply.exc == 0) && (if tblB o.reply.fn then o.reply.short else o.reply.ok)) := by unfold Oc.ok; rw [if_neg (by omega), if_neg (by omega), if_pos h]
theorem Oc.ok_no {o : Oc} (h : o.verdict < 1 ∨ 5 < o.verdict) : o.ok = false := by unfold Oc.ok; rw [if_neg (by omega), if_neg (by omega), if_neg (by omega)]

theorem b2 (w : World) (X Y : Obj) : Below w.heap.size w ((w.alloc X).alloc Y) := (bal' w X).alloc (by simp) Y
theorem b3 (w : World) (X Y Z : Obj) : Below w.heap.size w (((w.alloc X).alloc Y).alloc Z) := (b2 w X Y).alloc (by simp; omega) Z

theorem verdict_cases (v : Int) : (v = 3 ∨ v = 4 ∨ v = 5) ∨ v = 2 ∨ v = 1 ∨ ((v < 1 ∨ 5 < v) ∧ (v == 1) = false ∧ (v == 2) = false ∧ (v == 3) = false ∧ (v == 4) = false ∧ (v == 5) = false) := by
  rcases (show (v = 3 ∨ v = 4 ∨ v = 5) ∨ v = 2 ∨ v = 1 ∨ (v < 1 ∨ 5 < v) by omega) with h | h | h | h
  · exact .inl h
  · exact .inr (.inl h)
  · exact .inr (.inr (.inl h))
  · refine .inr (.inr (.inr ⟨h, ?_, ?_, ?_, ?_, ?_⟩)) <;> (rw [beq_eq_false_iff_ne]; omega)
theorem exc_cases (x : Int) : x = 0 ∨ (x ≠ 0 ∧ (x == 0) = false ∧ (x != 0) = true) := by
  by_cases h : x = 0
  · exact .inl h
  · exact .inr ⟨h, by simpa using h, by simpa using h⟩
theorem tbl_cases2 (f : Int) : (1 ≤ f ∧ f ≤ 4 ∧ tblB f = true) ∨ (f < 1 ∧ tblB f = false) ∨ (1 ≤ f ∧ 4 < f ∧ tblB f = false) := by
  rcases (show (1 ≤ f ∧ f ≤ 4) ∨ f < 1 ∨ (1 ≤ f ∧ 4 < f) by omega) with ⟨h, h'⟩ | h | ⟨h, h'⟩
  · exact .inl ⟨h, h', by simp [tblB, h, h']⟩
  · exact .inr (.inl ⟨h, by unfold tblB; rw [decide_eq_false (by omega)]; rfl⟩)
  · exact .inr (.inr ⟨h, h', by unfold tblB; rw [decide_eq_false (show ¬ f ≤ 4 by omega), Bool.and_false]⟩)

set_option maxRecDepth 100000 in
set_option maxHeartbeats 1600000 in
theorem zero_any (fn exc : Int) (dv : Value) (code level : Int) (more : Bool) (next : Int) (ov : Value) (data : List UInt8) (objs : List Ob) (w : World) (hd : Bs w dv data) (ho : Obs w ov objs) (V : Bool) (hV : Hid (Rp.short ⟨fn, exc, data, code, level, more, next, objs⟩ = V)) :
    Calls Tryz.prog 61 #[.agg #[.int .i64 fn, .int .i64 exc, dv, .int .i64 code, .int .i64 level, .bool more, .int .i64 next, ov]] w fun r w' => r = .returned (.bool V) ∧ Below w.heap.size w w' := by
  have HD := hid hd
  have HO := hid ho
  have HS : Hid (∀ X, Calls Tryz.prog 59 #[.agg #[.int .i64 fn, .int .i64 exc, dv, .int .i64 code, .int .i64 level, .bool more, .int .i64 next, ov], .agg #[.int .i64 fn, .int .i64 exc, .slice none 0 0, .int .i64 0, .int .i64 0, .bool false, .int .i64 0, .slice none 0 0]] (w.alloc X) fun r w' => r = .returned (.bool V) ∧ Below (w.alloc X).heap.size (w.alloc X) w') := fun X => same_any _ _ _ _ _ _ _ _ data objs _ _ _ _ _ _ _ _ [] [] _ (HD.out.keep (bal' w X)) (HO.out.keep (bal' w X)) (Bs.nil _) (Obs.nil _) V (by show _ = V; rw [same_zero, ← hV.out]; simp)
  clear hd ho hV
  go_enter Tryz.func61, Tryz.ntmps61
  go_wp2_with (first | (go_at_call 59; (with_reducible refine (HS.out _).mono ?_); rintro r w1 ⟨rfl, hb1⟩))
  go_ret
  exact ⟨rfl, bt (bal' w _) hb1 (Nat.le_refl _)⟩

set_option maxRecDepth 100000 in
set_option maxHeartbeats 6400000 in
theorem rvalidOc_any (v : Int) (fn exc : Int) (dv : Value) (code level : Int) (more : Bool) (next : Int) (ov : Value) (data : List UInt8) (objs : List Ob) (w : World) (hd : Bs w dv data) (ho : Obs w ov objs)  (V : Bool) (hV : Hid (Oc.ok ⟨v, ⟨fn, exc, data, code, level, more, next, objs⟩⟩ = V)) :
    Calls Tryz.prog 22 #[.agg #[.int .i64 v, .int .i64 fn, .int .i64 exc, dv, .int .i64 code, .int .i64 level, .bool more, .int .i64 next, ov]] w fun r w' => r = .returned (.bool V) ∧ Below w.heap.size w w' := by
  have HD := hid hd
  have HO := hid ho
  obtain ⟨da, dc, rfl, hdc⟩ := hd
  obtain ⟨oa, oc, rfl, hoc⟩ := ho
  clear hdc hoc
  obtain ⟨K, hK0⟩ : ∃ K, Rp.ok ⟨fn, exc, data, code, level, more, next, objs⟩ = K := ⟨_, rfl⟩
  obtain ⟨S, hS0⟩ : ∃ S, Rp.short ⟨fn, exc, data, code, level, more, next, objs⟩ = S := ⟨_, rfl⟩
  have hK := hid hK0
  have hS := hid hS0
  clear hK0 hS0
  have HZ : Hid (∀ X Y, Calls Tryz.prog 59 #[.agg #[.int .i64 fn, .int .i64 exc, .slice da data.length dc, .int .i64 code, .int .i64 level, .bool more, .int .i64 next, .slice oa objs.length oc], .agg #[.int .i64 0, .int .i64 0, .slice none 0 0, .int .i64 0, .int .i64 0, .bool false, .int .i64 0, .slice none 0 0]] ((w.alloc X).alloc Y) fun r w' => r = .returned (.bool (fn == 0 && exc == 0 && S)) ∧ Below ((w.alloc X).alloc Y).heap.size ((w.alloc X).alloc Y) w') := fun X Y => same_any _ _ _ _ _ _ _ _ data objs _ _ _ _ _ _ _ _ [] [] _ (HD.out.keep (b2 w X Y)) (HO.out.keep (b2 w X Y)) (Bs.nil _) (Obs.nil _) _ (by show _ = _; rw [same_zero, ← hS.out])
  have H0 : Hid (∀ X Y, Calls Tryz.prog 61 #[.agg #[.int .i64 fn, .int .i64 exc, .slice da data.length dc, .int .i64 code, .int .i64 level, .bool more, .int .i64 next, .slice oa objs.length oc]] ((w.alloc X).alloc Y) fun r w' => r = .returned (.bool S) ∧ Below ((w.alloc X).alloc Y).heap.size ((w.alloc X).alloc Y) w') := fun X Y => zero_any _ _ _ _ _ _ _ _ data objs _ (HD.out.keep (b2 w X Y)) (HO.out.keep (b2 w X Y)) S hS
  have HK : Hid (∀ X Y, Calls Tryz.prog 60 #[.agg #[.int .i64 fn, .int .i64 exc, .slice da data.length dc, .int .i64 code, .int .i64 level, .bool more, .int .i64 next, .slice oa objs.length oc]] ((w.alloc X).alloc Y) fun r w' => r = .returned (.bool K) ∧ Below ((w.alloc X).alloc Y).heap.size ((w.alloc X).alloc Y) w') := fun X Y => vreply_any _ _ _ _ _ _ _ _ data objs _ (HD.out.keep (b2 w X Y)) (HO.out.keep (b2 w X Y)) K hK
  rcases verdict_cases v with h | rfl | rfl | ⟨h, h1, h2, h3, h4, h5⟩
  · have HV : Hid (V = (fn == 0 && exc == 0 && S)) := by show V = _; rw [← hV.out, Oc.ok_345 h, ← hS.out]
    clear hV
    rcases h with rfl | rfl | rfl
    all_goals
      go_enter Tryz.func22, Tryz.ntmps22
      go_wp2_with (first | (go_at_call 59; (with_reducible refine (HZ.out _ _).mono ?_); rintro r w1 ⟨rfl, hb1⟩) | (go_at_call 61; (with_reducible refine (H0.out _ _).mono ?_); rintro r w1 ⟨rfl, hb1⟩) | (go_at_call 60; (with_reducible refine (HK.out _ _).mono ?_); rintro r w1 ⟨rfl, hb1⟩))
      all_goals
        go_ret
        refine ⟨ret_bool ?_, by first | exact b2 w _ _ | exact bt (b2 w _ _) (by assumption) (Nat.le_refl _)⟩
        first | (rw [HV.out]; done) | (rw [HV.out]; simp [*]; done)
  · have HV0 : Hid (V = (!(exc == 0) && K)) := by show V = _; rw [← hV.out, Oc.ok_2 rfl, ← hK.out]
    clear hV
    rcases exc_cases exc with rfl | ⟨e0, e1, e2⟩
    · have HV : Hid (V = false) := by show V = _; rw [HV0.out]; rfl
      go_enter Tryz.func22, Tryz.ntmps22
      go_wp2_with (first | (go_at_call 59; (with_reducible refine (HZ.out _ _).mono ?_); rintro r w1 ⟨rfl, hb1⟩) | (go_at_call 61; (with_reducible refine (H0.out _ _).mono ?_); rintro r w1 ⟨rfl, hb1⟩) | (go_at_call 60; (with_reducible refine (HK.out _ _).mono ?_); rintro r w1 ⟨rfl, hb1⟩))
      all_goals
        go_ret
        refine ⟨ret_bool ?_, by first | exact b2 w _ _ | exact bt (b2 w _ _) (by assumption) (Nat.le_refl _)⟩
        first | (rw [HV.out]; done) | (rw [HV.out]; simp [*]; done)
    · have HV : Hid (V = K) := by show V = _; rw [HV0.out, e1]; rfl
      go_enter Tryz.func22, Tryz.ntmps22
      go_wp2_with (first | (go_at_call 59; (with_reducible refine (HZ.out _ _).mono ?_); rintro r w1 ⟨rfl, hb1⟩) | (go_at_call 61; (with_reducible refine (H0.out _ _).mono ?_); rintro r w1 ⟨rfl, hb1⟩) | (go_at_call 60; (with_reducible refine (HK.out _ _).mono ?_); rintro r w1 ⟨rfl, hb1⟩))
      all_goals
        go_ret
        refine ⟨ret_bool ?_, by first | exact b2 w _ _ | exact bt (b2 w _ _) (by assumption) (Nat.le_refl _)⟩
        first | (rw [HV.out]; done) | (rw [HV.out]; simp [*]; done)
  · have HV0 : Hid (V = ((exc == 0) && (if tblB fn then S else K))) := by show V = _; rw [← hV.out, Oc.ok_1 rfl, ← hK.out, ← hS.out]
    clear hV
    rcases exc_cases exc with rfl | ⟨e0, e1, e2⟩
    · rcases tbl_cases2 fn with ⟨t1, t2, t3⟩ | ⟨t1, t3⟩ | ⟨t1, t2, t3⟩
      · have HV : Hid (V = S) := by show V = _; rw [HV0.out, t3]; rfl
        go_enter Tryz.func22, Tryz.ntmps22
        go_wp2_with (first | (go_at_call 59; (with_reducible refine (HZ.out _ _).mono ?_); rintro r w1 ⟨rfl, hb1⟩) | (go_at_call 61; (with_reducible refine (H0.out _ _).mono ?_); rintro r w1 ⟨rfl, hb1⟩) | (go_at_call 60; (with_reducible refine (HK.out _ _).mono ?_); rintro r w1 ⟨rfl, hb1⟩))
        all_goals
          go_ret
          refine ⟨ret_bool ?_, by first | exact b2 w _ _ | exact bt (b2 w _ _) (by assumption) (Nat.le_refl _)⟩
          first | (rw [HV.out]; done) | (rw [HV.out]; simp [*]; done)
      · have HV : Hid (V = K) := by show V = _; rw [HV0.out, t3]; rfl
        go_enter Tryz.func22, Tryz.ntmps22
        go_wp2_with (first | (go_at_call 59; (with_reducible refine (HZ.out _ _).mono ?_); rintro r w1 ⟨rfl, hb1⟩) | (go_at_call 61; (with_reducible refine (H0.out _ _).mono ?_); rintro r w1 ⟨rfl, hb1⟩) | (go_at_call 60; (with_reducible refine (HK.out _ _).mono ?_); rintro r w1 ⟨rfl, hb1⟩))
        all_goals
          go_ret
          refine ⟨ret_bool ?_, by first | exact b2 w _ _ | exact bt (b2 w _ _) (by assumption) (Nat.le_refl _)⟩
          first | (rw [HV.out]; done) | (rw [HV.out]; simp [*]; done)
      · have HV : Hid (V = K) := by show V = _; rw [HV0.out, t3]; rfl
        go_enter Tryz.func22, Tryz.ntmps22
        go_wp2_with (first | (go_at_call 59; (with_reducible refine (HZ.out _ _).mono ?_); rintro r w1 ⟨rfl, hb1⟩) | (go_at_call 61; (with_reducible refine (H0.out _ _).mono ?_); rintro r w1 ⟨rfl, hb1⟩) | (go_at_call 60; (with_reducible refine (HK.out _ _).mono ?_); rintro r w1 ⟨rfl, hb1⟩))
        all_goals
          go_ret
          refine ⟨ret_bool ?_, by first | exact b2 w _ _ | exact bt (b2 w _ _) (by assumption) (Nat.le_refl _)⟩
          first | (rw [HV.out]; done) | (rw [HV.out]; simp [*]; done)
    · have HV : Hid (V = false) := by show V = _; rw [HV0.out, e1]; rfl
      rcases tbl_cases2 fn with ⟨t1, t2, t3⟩ | ⟨t1, t3⟩ | ⟨t1, t2, t3⟩
      all_goals
        go_enter Tryz.func22, Tryz.ntmps22
        go_wp2_with (first | (go_at_call 59; (with_reducible refine (HZ.out _ _).mono ?_); rintro r w1 ⟨rfl, hb1⟩) | (go_at_call 61; (with_reducible refine (H0.out _ _).mono ?_); rintro r w1 ⟨rfl, hb1⟩) | (go_at_call 60; (with_reducible refine (HK.out _ _).mono ?_); rintro r w1 ⟨rfl, hb1⟩))
        all_goals
          go_ret
          refine ⟨ret_bool ?_, by first | exact b2 w _ _ | exact bt (b2 w _ _) (by assumption) (Nat.le_refl _)⟩
          first | (rw [HV.out]; done) | (rw [HV.out]; simp [*]; done)
  · have HV : Hid (V = false) := by show V = _; rw [← hV.out, Oc.ok_no h]
    clear hV
    go_enter Tryz.func22, Tryz.ntmps22
    go_wp2_with (first | (go_at_call 59; (with_reducible refine (HZ.out _ _).mono ?_); rintro r w1 ⟨rfl, hb1⟩) | (go_at_call 61; (with_reducible refine (H0.out _ _).mono ?_); rintro r w1 ⟨rfl, hb1⟩) | (go_at_call 60; (with_reducible refine (HK.out _ _).mono ?_); rintro r w1 ⟨rfl, hb1⟩))
    all_goals
      go_ret
      refine ⟨ret_bool ?_, by first | exact b2 w _ _ | exact bt (b2 w _ _) (by assumption) (Nat.le_refl _)⟩
      first | (rw [HV.out]; done) | (rw [HV.out]; simp [*]; done)

end Go.Proofs.YtipnamoocemeeaaGreat

/-
The contract of the reference's Strip, and of the cuts.
-/
namespace Go.Proofs.YtipnamoocemeeaaGreat
open Go.RowKit
theorem Oc.strip_no {v : Int} {r : Rp} (h : ¬ (v = 1 ∨ v = 2)) : Oc.strip ⟨v, r⟩ = ⟨v, Rp.zero⟩ := by unfold Oc.strip; rw [if_neg h]
theorem Oc.strip_short {v : Int} {r : Rp} (h : v = 2 ∨ (v = 1 ∧ tblB r.fn = true)) : Oc.strip ⟨v, r⟩ = ⟨v, ⟨r.fn, r.exc, [], 0, 0, false, 0, []⟩⟩ := by
  unfold Oc.strip
  rcases h with h | ⟨h, h'⟩
  · rw [if_pos (.inr h), if_pos (.inl h)]
  · rw [if_pos (.inl h), if_pos (.inr h')]
theorem Oc.strip_all {v : Int} {r : Rp} (h : v = 1) (h' : tblB r.fn = false) : Oc.strip ⟨v, r⟩ = ⟨v, r⟩ := by
  unfold Oc.strip
  rw [if_pos (.inl h), if_neg]
  rintro (h2 | h2)
  · simp only at h2; omega
  · simp only at h2; rw [h'] at h2; cases h2

theorem strip_cases (v f : Int) : (¬ (v = 1 ∨ v = 2) ∧ (v != 1) = true ∧ (v != 2) = true ∧ (v == 1) = false ∧ (v == 2) = false) ∨ v = 2 ∨ (v = 1 ∧ ((1 ≤ f ∧ f ≤ 4 ∧ tblB f = true) ∨ (f < 1 ∧ tblB f = false) ∨ (1 ≤ f ∧ 4 < f ∧ tblB f = false))) := by
  by_cases h1 : v = 1
  · exact .inr (.inr ⟨h1, tbl_cases2 f⟩)
  · by_cases h2 : v = 2
    · exact .inr (.inl h2)
    · exact .inl ⟨by omega, by simpa using h1, by simpa using h2, by simpa using h1, by simpa using h2⟩

/-- Few and short objects. -/
def smallObs (l : List Ob) : Bool := decide (l.length ≤ 40) && l.all fun x => decide (x.val.length ≤ 300)
def Rp.small (r : Rp) : Bool := decide (r.data.length ≤ 300) && smallObs r.objs

theorem small_no {l : List Ob} {k : Nat} {x : Ob} (h : l[k]? = some x) (hx : 300 < x.val.length) : smallObs l = false := by
  cases hs : smallObs l with
  | false => rfl
  | true =>
    simp only [smallObs, Bool.and_eq_true, List.all_eq_true, decide_eq_true_eq] at hs
    have := hs.2 x (List.mem_of_getElem? h)
    omega

set_option maxRecDepth 100000 in
set_option maxHeartbeats 3200000 in
theorem objects_any (v : Value) (l : List Ob) (w : World) (ho : Obs w v l) (V : Bool) (hV : Hid (smallObs l = V)) :
    Calls Tryz.prog 64 #[v] w fun r w' => r = .returned (.bool V) ∧ w = w' := by
  obtain ⟨a, n, c, rfl, hln, hn, hnc, hcm, hel⟩ := ho.open_
  clear ho
  replace hel := hid hel
  replace hln := hid hln
  go_enter Tryz.func64, Tryz.ntmps64
  go_wp2
  go_loop [3] (fun i => ∃ k : Nat, k ≤ n ∧ i = .int .i64 k ∧ Hid (∀ (j : Nat) (x : Ob), j < k → l[j]? = some x → x.val.length ≤ 300)) (fun i => n - (intOf i).toNat)
  case atStart => exact ⟨0, Nat.zero_le _, rfl, fun j x h => by omega⟩
  case round =>
    obtain ⟨k, hk, rfl, hri⟩ := hrel
    by_cases hlt : k < n
    · obtain ⟨x, hgx⟩ := get_some hln.out hlt
      obtain ⟨b, o, xa, xc, rfl, d1, d2, q⟩ := hel.out k x hgx
      have hxm := q.len
      unfold maxLen at hxm
      have HNO := hid (small_no hgx)
      have HST := hid (show x.val.length ≤ 300 → ∀ (j : Nat) (u : Ob), j < k + 1 → l[j]? = some u → u.val.length ≤ 300 from fun hs j u hj hu => by
        by_cases hjk : j = k
        · subst hjk; rw [hgx] at hu; cases hu; exact hs
        · exact hri.out j u (by omega) hu)
      clear hgx q hri
      generalize x.val.length = xn at *
      have hkl : (k : Int) < (n : Int) := by omega
      by_cases hx : xn ≤ 300
      · have HT := hid (HST.out hx)
        go_wp2
        go_round
        case rel => exact ⟨k + 1, by omega, by go_num, HT.out⟩
        case measure => simp [intOf]; omega
      · have HF := hid (HNO.out (by omega))
        go_wp2
        go_ret
        exact ⟨by rw [← hV.out, HF.out]; rfl, rfl⟩
    · obtain rfl : k = n := by omega
      have HF : Hid (V = decide (k ≤ 40)) := by
        show V = _
        rw [← hV.out]
        unfold smallObs
        rw [hln.out, show (l.all fun x => decide (x.val.length ≤ 300)) = true from by
          rw [List.all_eq_true]
          intro x hx
          obtain ⟨j, hj⟩ := List.getElem?_of_mem hx
          exact decide_eq_true (hri.out j x (by have := (List.getElem?_eq_some_iff.1 hj).1; have := hln.out; omega) hj), Bool.and_true]
      go_wp2
      go_ret
      exact ⟨by rw [HF.out]; exact ret_bool (by rw [Bool.eq_iff_iff]; simp; omega), rfl⟩

set_option maxRecDepth 100000 in
set_option maxHeartbeats 3200000 in
theorem mreply_any (fn exc : Int) (dv : Value) (code level : Int) (more : Bool) (next : Int) (ov : Value) (data : List UInt8) (objs : List Ob) (w : World) (hd : Bs w dv data) (ho : Obs w ov objs) (V : Bool) (hV : Hid (Rp.small ⟨fn, exc, data, code, level, more, next, objs⟩ = V)) :
    Calls Tryz.prog 27 #[.agg #[.int .i64 fn, .int .i64 exc, dv, .int .i64 code, .int .i64 level, .bool more, .int .i64 next, ov]] w fun r w' => r = .returned (.bool V) ∧ Below w.heap.size w w' := by
  have HO := hid ho
  have hlm := hd.len
  unfold maxLen at hlm
  obtain ⟨da, dc, rfl, hdc⟩ := hd
  clear hdc ho
  obtain ⟨S, hS⟩ : ∃ S, smallObs objs = S := ⟨_, rfl⟩
  have hV2 : Hid (V = (decide (data.length ≤ 300) && S)) := by show V = _; rw [← hV.out, ← hS]; rfl
  clear hV
  have HC : Hid (∀ X, Calls Tryz.prog 64 #[ov] (w.alloc X) fun r w' => r = .returned (.bool S) ∧ (w.alloc X) = w') := fun X => objects_any _ objs _ (HO.out.keep (bal' w X)) S hS
  clear hS
  generalize data.length = n at *
  by_cases hn : n ≤ 300
  · have HF : Hid (V = S) := by show V = _; rw [hV2.out, decide_eq_true hn, Bool.true_and]
    go_enter Tryz.func27, Tryz.ntmps27
    go_wp2_with (first | (go_at_call 64; (with_reducible refine (HC.out _).mono ?_); rintro r w1 ⟨rfl, rfl⟩))
    go_ret
    exact ⟨by rw [HF.out]; rfl, bal' w _⟩
  · have HF : Hid (V = false) := by show V = _; rw [hV2.out, decide_eq_false hn, Bool.false_and]
    go_enter Tryz.func27, Tryz.ntmps27
    go_wp2_with (first | (go_at_call 64; (with_reducible refine (HC.out _).mono ?_); rintro r w1 ⟨rfl, rfl⟩))
    go_ret
    exact ⟨by rw [HF.out]; rfl, bal' w _⟩

end Go.Proofs.YtipnamoocemeeaaGreat

/-
Rows of objects, and the contract of slices.Clone at objects.
-/
namespace Go.Proofs.YtipnamoocemeeaaGreat
open Go.RowKit

/-- Cells that read as objects. -/
def ObCs (w : World) (cs : List Value) (l : List Ob) : Prop :=
  cs.length = l.length * 2 ∧ ∀ (i : Nat) (x : Ob), l[i]? = some x → cs[i * 2]? = some (.int .i64 x.id) ∧ ∃ a c, cs[i * 2 + 1]? = some (.slice a x.val.length c) ∧ Bs w (.slice a x.val.length c) x.val

theorem ObCs.keep {w w' : World} {cs : List Value} {l : List Ob} (h : ObCs w cs l) (hb : Below w.heap.size w w') : ObCs w' cs l :=
  ⟨h.1, fun i x hx => by
    obtain ⟨h1, a, c, h2, h3⟩ := h.2 i x hx
    exact ⟨h1, a, c, h2, h3.keep hb⟩⟩

theorem ObCs.nil (w : World) : ObCs w [] [] := ⟨rfl, fun i x hx => by simp at hx⟩

theorem ObCs.one {w : World} {cs : List Value} {l : List Ob} (h : ObCs w cs l) : ∀ u ∈ cs, u.oneCell' = true := by
  intro u hu
  obtain ⟨j, hj⟩ := List.getElem?_of_mem hu
  have hjl := (List.getElem?_eq_some_iff.1 hj).1
  have hlen := h.1
  obtain ⟨x, hx⟩ := get_some (l := l) (k := j / 2) rfl (by omega)
  obtain ⟨h1, a, c, h2, _⟩ := h.2 (j / 2) x hx
  rcases Nat.mod_two_eq_zero_or_one j with hm | hm
  · rw [show j / 2 * 2 = j by omega, hj] at h1
    cases h1; rfl
  · rw [show j / 2 * 2 + 1 = j by omega, hj] at h2
    cases h2; rfl

/-- The cells of a slice of objects. -/
theorem Obs.cells {w : World} {b o n c : Nat} {l : List Ob} (h : Obs w (.slice (some ⟨b, o, none⟩) n c) l) : ∃ cs, ObCs w cs l ∧ l.length = n ∧ ∀ j u, cs[j]? = some u → w.cell? ⟨b, o + j, none⟩ = some u := by
  obtain ⟨a, c', hv, h1, h2, h3, h4⟩ := h
  cases hv
  have hall : ∀ j, j < l.length * 2 → ∃ u, w.cell? ⟨b, o + j, none⟩ = some u := by
    intro j hj
    obtain ⟨b', o', ha, hc⟩ := h4 (by rintro rfl; simp at hj)
    cases ha
    obtain ⟨x, hx⟩ := get_some (l := l) (k := j / 2) rfl (by omega)
    obtain ⟨h5, v, h6, _⟩ := hc (j / 2) x hx
    rcases Nat.mod_two_eq_zero_or_one j with hm | hm
    · rw [show o + j / 2 * 2 = o + j by omega] at h5; exact ⟨_, h5⟩
    · rw [show o + j / 2 * 2 + 1 = o + j by omega] at h6; exact ⟨_, h6⟩
  have hget : ∀ j, j < l.length * 2 → ((List.range (l.length * 2)).map fun j => (w.cell? ⟨b, o + j, none⟩).getD undef)[j]? = w.cell? ⟨b, o + j, none⟩ := by
    intro j hj
    obtain ⟨u, hu⟩ := hall j hj
    simp [hj, hu]
  refine ⟨(List.range (l.length * 2)).map fun j => (w.cell? ⟨b, o + j, none⟩).getD undef, ⟨by simp, fun i x hx => ?_⟩, rfl, fun j u hj => ?_⟩
  · have hi := (List.getElem?_eq_some_iff.1 hx).1
    obtain ⟨b', o', ha, hc⟩ := h4 (by rintro rfl; simp at hx)
    cases ha
    obtain ⟨h5, v, h6, h7⟩ := hc i x hx
    obtain ⟨xa, xc, rfl, _⟩ := id h7
    refine ⟨by rw [hget _ (by omega)]; exact h5, xa, xc, by rw [hget _ (by omega), ← Nat.add_assoc]; exact h6, h7⟩
  · have hjl := (List.getElem?_eq_some_iff.1 hj).1
    rw [hget j (by simpa using hjl)] at hj
    exact hj

theorem Obs.of_own {w : World} {base : Nat} {E : TypeId} {v : Value} {n : Nat} {cs : List Value} {l : List Ob} (h : w.ownsRow base E 2 v n cs) (hc : ObCs w cs l) (hn : l.length = n) : Obs w v l := by
  subst hn
  obtain ⟨hlen, h | ⟨g, cap, cur, hv, hb, hh, hnc, hcm, hcs, ht⟩⟩ := h
  · obtain ⟨rfl, h0⟩ := h
    have : l = [] := List.eq_nil_of_length_eq_zero h0
    subst this
    exact Obs.nil w
  · refine ⟨_, _, hv, hnc, hcm, fun h => by simp at h, fun hl => ⟨g, 0, rfl, fun i x hx => ?_⟩⟩
    have hi := (List.getElem?_eq_some_iff.1 hx).1
    obtain ⟨h1, a, c, h2, h3⟩ := hc.2 i x hx
    have hcell : ∀ j, j < l.length * 2 → w.cell? ⟨g, j, none⟩ = cs[j]? := by
      intro j hj
      have h4 : cur[j]? = cs[j]? := by
        have := take_get (n := l.length * 2) (xs := cs) ht j (by rw [hlen]; exact hj)
        exact this
      simp only [World.cell?, hh, Option.isSome_none]
      exact h4
    rw [Nat.zero_add]
    refine ⟨by rw [hcell _ (by omega)]; exact h1, _, by rw [hcell _ (by omega)]; exact h2, h3⟩

end Go.Proofs.YtipnamoocemeeaaGreat

/-
The contract of record.Strip.
-/
namespace Go.Proofs.YtipnamoocemeeaaGreat
open Go.RowKit
theorem Bs.block {w : World} {a : Option Addr} {n c : Nat} {l : List UInt8} (h : Bs w (.slice a n c) l) (hl : l ≠ []) : ∀ ad, a = some ad → ad.block < w.heap.size := by
  obtain ⟨a', c', hv, h1, h2, h3, h4⟩ := h
  cases hv
  obtain ⟨b, o, ha, hc⟩ := h4 hl
  intro ad had
  rw [ha] at had
  cases had
  have := cell_lt (hc 0 (by cases l with | nil => exact absurd rfl hl | cons x l => simp))
  exact this

theorem Bs.keepsN {w w' : World} {F : Nat → Prop} {a : Option Addr} {n c : Nat} {l : List UInt8} (h : Bs w (.slice a n c) l) (hk : Keeps F w w') (hn : l ≠ [] → ∀ ad, a = some ad → ¬ F ad.block) : Bs w' (.slice a n c) l := by
  obtain ⟨a', c', hv, h1, h2, h3, h4⟩ := h
  cases hv
  refine ⟨a, c, rfl, h1, h2, h3, fun hl => ?_⟩
  obtain ⟨b, o, ha, hc⟩ := h4 hl
  exact ⟨b, o, ha, fun i hi => hk.cell (hc i hi) (show ¬ F b from hn hl _ ha)⟩

theorem heap3 (w : World) (A B C : Obj) : (((w.alloc A).alloc B).alloc C).heap[w.heap.size]? = some A ∧ (((w.alloc A).alloc B).alloc C).heap[w.heap.size + 1]? = some B ∧ (((w.alloc A).alloc B).alloc C).heap[w.heap.size + 2]? = some C := by
  refine ⟨?_, ?_, ?_⟩
  · rw [Below.heap_alloc _ _ _ (by simp; omega), Below.heap_alloc _ _ _ (by simp)]; exact heap_alloc_new _ _
  · rw [Below.heap_alloc _ _ _ (by simp)]
    have := heap_alloc_new (w.alloc A) B
    rwa [show (w.alloc A).heap.size = w.heap.size + 1 by simp] at this
  · have := heap_alloc_new ((w.alloc A).alloc B) C
    rwa [show ((w.alloc A).alloc B).heap.size = w.heap.size + 2 by simp] at this

theorem cell_heap {w : World} {b : Nat} {c : Array Value} {t : TypeId} {fz : Nat × Nat} (h : w.heap[b]? = some (.cells c t fz)) (i : Nat) : w.cell? ⟨b, i, none⟩ = c[i]? := by simp [World.cell?, h]
end Go.Proofs.YtipnamoocemeeaaGreat

/-
Slices of outcomes that read as lists, and the contract of modscanmake.Outcomes.
-/
namespace Go.Proofs.YtipnamoocemeeaaGreat
open Go.RowKit

/-- Nine cells that hold an outcome. -/
def OcR (w : World) (cs : List Value) (x : Oc) : Prop := ∃ da dc oa oc, cs = [.int .i64 x.verdict, .int .i64 x.reply.fn, .int .i64 x.reply.exc, .slice da x.reply.data.length dc, .int .i64 x.reply.code, .int .i64 x.reply.level, .bool x.reply.more, .int .i64 x.reply.next, .slice oa x.reply.objs.length oc] ∧
  Bs w (.slice da x.reply.data.length dc) x.reply.data ∧ Obs w (.slice oa x.reply.objs.length oc) x.reply.objs ∧ x.reply.level ≤ 9223372036854775807 ∧ -9223372036854775808 ≤ x.reply.level

theorem OcR.keep (w w' : World) (r : List Value) (x : Oc) (h : OcR w r x) (hb : Below w.heap.size w w') : OcR w' r x := by
  obtain ⟨da, dc, oa, oc, h1, h2, h3, h4⟩ := h
  exact ⟨da, dc, oa, oc, h1, h2.keep hb, h3.keep hb, h4⟩

def Ocs (w : World) (v : Value) (l : List Oc) : Prop := Sls 9 OcR w v l

theorem Ocs.keep {w w' : World} {v : Value} {l : List Oc} (h : Ocs w v l) (hb : Below w.heap.size w w') : Ocs w' v l := Sls.keep OcR.keep h hb

theorem ocR_rd {w : World} {cs : List Value} (h : Rd Tryz.prog w 55 cs) : ∃ x, OcR w cs x := by
  obtain ⟨v, r, rs, rfl, da, dc, oa, oc, rfl, h1, h2, h3, h4⟩ := oc_rd h
  exact ⟨⟨v, r⟩, da, dc, oa, oc, rfl, h1, h2, h3, h4⟩

/-- The cells of outcome number k. -/
def OcAt (w : World) (b o : Nat) (x : Oc) (da : Option Addr) (dc : Nat) (oa : Option Addr) (oc : Nat) : Prop :=
  w.cell? ⟨b, o, none⟩ = some (.int .i64 x.verdict) ∧ w.cell? ⟨b, o + 1, none⟩ = some (.int .i64 x.reply.fn) ∧ w.cell? ⟨b, o + 1 + 1, none⟩ = some (.int .i64 x.reply.exc) ∧
  w.cell? ⟨b, o + 1 + 2, none⟩ = some (.slice da x.reply.data.length dc) ∧ w.cell? ⟨b, o + 1 + 3, none⟩ = some (.int .i64 x.reply.code) ∧ w.cell? ⟨b, o + 1 + 4, none⟩ = some (.int .i64 x.reply.level) ∧
  w.cell? ⟨b, o + 1 + 5, none⟩ = some (.bool x.reply.more) ∧ w.cell? ⟨b, o + 1 + 6, none⟩ = some (.int .i64 x.reply.next) ∧ w.cell? ⟨b, o + 1 + 7, none⟩ = some (.slice oa x.reply.objs.length oc)

theorem Ocs.get {w : World} {a : Option Addr} {n c : Nat} {l : List Oc} (h : Ocs w (.slice a n c) l) :
    l.length = n ∧ n ≤ c ∧ c ≤ maxLen ∧ ∀ i x, l[i]? = some x → ∃ b o da dc oa oc, a = some ⟨b, o, none⟩ ∧ OcAt w b (o + i * 9) x da dc oa oc ∧
      Bs w (.slice da x.reply.data.length dc) x.reply.data ∧ Obs w (.slice oa x.reply.objs.length oc) x.reply.objs ∧ x.reply.level ≤ 9223372036854775807 ∧ -9223372036854775808 ≤ x.reply.level := by
  obtain ⟨h1, h2, h3, h4⟩ := Sls.get h
  refine ⟨h1, h2, h3, fun i x hx => ?_⟩
  obtain ⟨b, o, ha, r, hr, ⟨da, dc, oa, oc, hc, h5⟩, h6⟩ := h4 i x hx
  subst hc
  exact ⟨b, o, da, dc, oa, oc, ha, ⟨h6 0 _ rfl, h6 1 _ rfl, h6 2 _ rfl, h6 3 _ rfl, h6 4 _ rfl, h6 5 _ rfl, h6 6 _ rfl, h6 7 _ rfl, h6 8 _ rfl⟩, h5⟩

/-- Few and small outcomes. -/
def smallOcs (l : List Oc) (n : Int) : Bool := l.all (fun o => o.reply.small) && decide ((l.length : Int) ≤ n)

theorem smallOcs_no {l : List Oc} {n : Int} {k : Nat} {x : Oc} (h : l[k]? = some x) (hx : x.reply.small = false) : smallOcs l n = false := by
  cases hs : smallOcs l n with
  | false => rfl
  | true =>
    simp only [smallOcs, Bool.and_eq_true, List.all_eq_true] at hs
    have := hs.1 x (List.mem_of_getElem? h)
    rw [hx] at this; cases this

set_option maxRecDepth 100000 in
set_option maxHeartbeats 3200000 in
theorem mocs_any (v : Value) (l : List Oc) (n : Int) (w : World) (ho : Ocs w v l) (V : Bool) (hV : Hid (smallOcs l n = V)) :
    Calls Tryz.prog 7 #[v, .int .i64 n] w fun r w' => r = .returned (.bool V) ∧ Below w.heap.size w w' := by
  obtain ⟨a, c, rfl, _⟩ := id ho
  obtain ⟨-, hnc, hcm, hel⟩ := ho.get
  unfold maxLen at hcm
  replace hel := hid hel
  obtain ⟨N, hN⟩ : ∃ N, l.length = N := ⟨_, rfl⟩
  rw [hN] at hnc ⊢
  have hln := hid hN
  clear ho hN
  go_enter Tryz.func7, Tryz.ntmps7
  go_wp2
  go_loopw [5] (fun i wr => ∃ k : Nat, k ≤ N ∧ i = .int .i64 k ∧ Hid (∀ (j : Nat) (x : Oc), j < k → l[j]? = some x → x.reply.small = true) ∧ Below w.heap.size w wr) (fun i _ => N - (intOf i).toNat)
  case atStart => exact ⟨0, Nat.zero_le _, rfl, fun j x h => by omega, Below.refl _ _⟩
  case round =>
    obtain ⟨k, hk, rfl, hri, hbw⟩ := hrel
    by_cases hlt : k < N
    · obtain ⟨x, hgx⟩ := get_some hln.out hlt
      obtain ⟨b, o, da, dc, oa, oc, rfl, ⟨p0, p1, p2, p3, p4, p5, p6, p7, p8⟩, hd, hob, _⟩ := hel.out k x hgx
      have e1 := cell_keep hbw p1
      have e2 := cell_keep hbw p2
      have e3 := cell_keep hbw p3
      have e4 := cell_keep hbw p4
      have e5 := cell_keep hbw p5
      have e6 := cell_keep hbw p6
      have e7 := cell_keep hbw p7
      have e8 := cell_keep hbw p8
      have hkl : (k : Int) < (N : Int) := by omega
      have HNO := hid (smallOcs_no (n := n) hgx)
      have HST := hid (show x.reply.small = true → ∀ (j : Nat) (u : Oc), j < k + 1 → l[j]? = some u → u.reply.small = true from fun hs j u hj hu => by
        by_cases hjk : j = k
        · subst hjk; rw [hgx] at hu; cases hu; exact hs
        · exact hri.out j u (by omega) hu)
      obtain ⟨S, hS⟩ : ∃ S, x.reply.small = S := ⟨_, rfl⟩
      have HC : Hid (Calls Tryz.prog 27 #[.agg #[.int .i64 x.reply.fn, .int .i64 x.reply.exc, .slice da x.reply.data.length dc, .int .i64 x.reply.code, .int .i64 x.reply.level, .bool x.reply.more, .int .i64 x.reply.next, .slice oa x.reply.objs.length oc]] wr fun r w' => r = .returned (.bool S) ∧ Below wr.heap.size wr w') := mreply_any _ _ _ _ _ _ _ _ x.reply.data x.reply.objs wr (hd.keep hbw) (hob.keep hbw) S hS
      clear p0 p1 p2 p3 p4 p5 p6 p7 p8 hd hob hri hgx
      rw [hS] at HNO HST
      clear hS
      generalize x.reply.data.length = dn at *
      generalize x.reply.objs.length = on at *
      cases S with
      | true =>
        have hSt := hid (HST.out rfl)
        go_wp2_with (go_at_call 27; (with_reducible refine HC.out.mono ?_); rintro r w1 ⟨rfl, hb1⟩)
        go_roundw
        case rel => exact ⟨k + 1, by omega, by go_num, hSt.out, bt hbw hb1 (Nat.le_refl _)⟩
        case measure => simp [intOf]; omega
      | false =>
        have HF := hid (HNO.out rfl)
        go_wp2_with (go_at_call 27; (with_reducible refine HC.out.mono ?_); rintro r w1 ⟨rfl, hb1⟩)
        go_ret
        exact ⟨by rw [← hV.out, HF.out]; rfl, bt hbw hb1 (Nat.le_refl _)⟩
    · obtain rfl : k = N := by omega
      have HF : Hid (V = decide ((k : Int) ≤ n)) := by
        show V = _
        rw [← hV.out]
        unfold smallOcs
        rw [hln.out, show (l.all fun o => o.reply.small) = true from by
          rw [List.all_eq_true]
          intro x hx
          obtain ⟨j, hj⟩ := List.getElem?_of_mem hx
          exact hri.out j x (by have := (List.getElem?_eq_some_iff.1 hj).1; have := hln.out; omega) hj, Bool.true_and]
      go_wp2
      go_ret
      exact ⟨by rw [HF.out]; rfl, hbw⟩

end Go.Proofs.YtipnamoocemeeaaGreat
