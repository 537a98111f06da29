/-
  The contracts of zero, of the two Valid of outcomes, of the reference's Strip and of the cuts.
-/
import Derived.Test.YtlaaoifjiogogaaRecH
namespace Go.Proofs.Ytlaaoifjiogogaa
open Go.RowKit

theorem sameObs_nil (l : List Ob) : sameObs l [] = l.isEmpty := by cases l <;> rfl
theorem same_zero (a b : Int) (r : Rp) : Rp.same r ⟨a, b, [], 0, 0, false, 0, []⟩ = (r.fn == a && r.exc == b && r.short) := by
  cases r with
  | mk fn exc data code level more next objs =>
    cases data <;> cases more <;> simp [Rp.same, Rp.short, Rp.plain, sameObs_nil, Bool.and_assoc]

theorem Oc.ok_345 {o : Oc} (h : o.verdict = 3 ∨ o.verdict = 4 ∨ o.verdict = 5) : o.ok = (o.reply.fn == 0 && o.reply.exc == 0 && o.reply.short) := by unfold Oc.ok; rw [if_pos h]
theorem Oc.ok_2 {o : Oc} (h : o.verdict = 2) : o.ok = (!(o.reply.exc == 0) && o.reply.ok) := by unfold Oc.ok; rw [if_neg (by omega), if_pos h]
theorem Oc.ok_1 {o : Oc} (h : o.verdict = 1) : o.ok = ((o.reply.exc == 0) && (if tblB o.reply.fn then o.reply.short else o.reply.ok)) := by unfold Oc.ok; rw [if_neg (by omega), if_neg (by omega), if_pos h]
theorem Oc.ok_no {o : Oc} (h : o.verdict < 1 ∨ 5 < o.verdict) : o.ok = false := by unfold Oc.ok; rw [if_neg (by omega), if_neg (by omega), if_neg (by omega)]

theorem b2 (w : World) (X Y : Obj) : Below w.heap.size w ((w.alloc X).alloc Y) := (bal' w X).alloc (by simp) Y
theorem b3 (w : World) (X Y Z : Obj) : Below w.heap.size w (((w.alloc X).alloc Y).alloc Z) := (b2 w X Y).alloc (by simp; omega) Z

theorem verdict_cases (v : Int) : (v = 3 ∨ v = 4 ∨ v = 5) ∨ v = 2 ∨ v = 1 ∨ ((v < 1 ∨ 5 < v) ∧ (v == 1) = false ∧ (v == 2) = false ∧ (v == 3) = false ∧ (v == 4) = false ∧ (v == 5) = false) := by
  rcases (show (v = 3 ∨ v = 4 ∨ v = 5) ∨ v = 2 ∨ v = 1 ∨ (v < 1 ∨ 5 < v) by omega) with h | h | h | h
  · exact .inl h
  · exact .inr (.inl h)
  · exact .inr (.inr (.inl h))
  · refine .inr (.inr (.inr ⟨h, ?_, ?_, ?_, ?_, ?_⟩)) <;> (rw [beq_eq_false_iff_ne]; omega)
theorem exc_cases (x : Int) : x = 0 ∨ (x ≠ 0 ∧ (x == 0) = false ∧ (x != 0) = true) := by
  by_cases h : x = 0
  · exact .inl h
  · exact .inr ⟨h, by simpa using h, by simpa using h⟩
theorem tbl_cases2 (f : Int) : (1 ≤ f ∧ f ≤ 4 ∧ tblB f = true) ∨ (f < 1 ∧ tblB f = false) ∨ (1 ≤ f ∧ 4 < f ∧ tblB f = false) := by
  rcases (show (1 ≤ f ∧ f ≤ 4) ∨ f < 1 ∨ (1 ≤ f ∧ 4 < f) by omega) with ⟨h, h'⟩ | h | ⟨h, h'⟩
  · exact .inl ⟨h, h', by simp [tblB, h, h']⟩
  · exact .inr (.inl ⟨h, by unfold tblB; rw [decide_eq_false (by omega)]; rfl⟩)
  · exact .inr (.inr ⟨h, h', by unfold tblB; rw [decide_eq_false (show ¬ f ≤ 4 by omega), Bool.and_false]⟩)

set_option maxRecDepth 100000 in
set_option maxHeartbeats 1600000 in
theorem zero_any (fn exc : Int) (dv : Value) (code level : Int) (more : Bool) (next : Int) (ov : Value) (data : List UInt8) (objs : List Ob) (w : World) (hd : Bs w dv data) (ho : Obs w ov objs) (V : Bool) (hV : Hid (Rp.short ⟨fn, exc, data, code, level, more, next, objs⟩ = V)) :
    Calls Try.prog 48 #[.agg #[.int .i64 fn, .int .i64 exc, dv, .int .i64 code, .int .i64 level, .bool more, .int .i64 next, ov]] w fun r w' => r = .returned (.bool V) ∧ Below w.heap.size w w' := by
  have HD := hid hd
  have HO := hid ho
  have HS : Hid (∀ X, Calls Try.prog 44 #[.agg #[.int .i64 fn, .int .i64 exc, dv, .int .i64 code, .int .i64 level, .bool more, .int .i64 next, ov], .agg #[.int .i64 fn, .int .i64 exc, .slice none 0 0, .int .i64 0, .int .i64 0, .bool false, .int .i64 0, .slice none 0 0]] (w.alloc X) fun r w' => r = .returned (.bool V) ∧ Below (w.alloc X).heap.size (w.alloc X) w') := fun X => same_any _ _ _ _ _ _ _ _ data objs _ _ _ _ _ _ _ _ [] [] _ (HD.out.keep (bal' w X)) (HO.out.keep (bal' w X)) (Bs.nil _) (Obs.nil _) V (by show _ = V; rw [same_zero, ← hV.out]; simp)
  clear hd ho hV
  go_enter Try.func48, Try.ntmps48
  go_wp2_with (first | (go_at_call 44; (with_reducible refine (HS.out _).mono ?_); rintro r w1 ⟨rfl, hb1⟩))
  go_ret
  exact ⟨rfl, bt (bal' w _) hb1 (Nat.le_refl _)⟩

set_option maxRecDepth 100000 in
set_option maxHeartbeats 6400000 in
theorem rvalidOc_any (v : Int) (fn exc : Int) (dv : Value) (code level : Int) (more : Bool) (next : Int) (ov : Value) (data : List UInt8) (objs : List Ob) (w : World) (hd : Bs w dv data) (ho : Obs w ov objs)  (V : Bool) (hV : Hid (Oc.ok ⟨v, ⟨fn, exc, data, code, level, more, next, objs⟩⟩ = V)) :
    Calls Try.prog 16 #[.agg #[.int .i64 v, .int .i64 fn, .int .i64 exc, dv, .int .i64 code, .int .i64 level, .bool more, .int .i64 next, ov]] w fun r w' => r = .returned (.bool V) ∧ Below w.heap.size w w' := by
  have HD := hid hd
  have HO := hid ho
  obtain ⟨da, dc, rfl, hdc⟩ := hd
  obtain ⟨oa, oc, rfl, hoc⟩ := ho
  clear hdc hoc
  obtain ⟨K, hK0⟩ : ∃ K, Rp.ok ⟨fn, exc, data, code, level, more, next, objs⟩ = K := ⟨_, rfl⟩
  obtain ⟨S, hS0⟩ : ∃ S, Rp.short ⟨fn, exc, data, code, level, more, next, objs⟩ = S := ⟨_, rfl⟩
  have hK := hid hK0
  have hS := hid hS0
  clear hK0 hS0
  have HZ : Hid (∀ X Y, Calls Try.prog 44 #[.agg #[.int .i64 fn, .int .i64 exc, .slice da data.length dc, .int .i64 code, .int .i64 level, .bool more, .int .i64 next, .slice oa objs.length oc], .agg #[.int .i64 0, .int .i64 0, .slice none 0 0, .int .i64 0, .int .i64 0, .bool false, .int .i64 0, .slice none 0 0]] ((w.alloc X).alloc Y) fun r w' => r = .returned (.bool (fn == 0 && exc == 0 && S)) ∧ Below ((w.alloc X).alloc Y).heap.size ((w.alloc X).alloc Y) w') := fun X Y => same_any _ _ _ _ _ _ _ _ data objs _ _ _ _ _ _ _ _ [] [] _ (HD.out.keep (b2 w X Y)) (HO.out.keep (b2 w X Y)) (Bs.nil _) (Obs.nil _) _ (by show _ = _; rw [same_zero, ← hS.out])
  have H0 : Hid (∀ X Y, Calls Try.prog 48 #[.agg #[.int .i64 fn, .int .i64 exc, .slice da data.length dc, .int .i64 code, .int .i64 level, .bool more, .int .i64 next, .slice oa objs.length oc]] ((w.alloc X).alloc Y) fun r w' => r = .returned (.bool S) ∧ Below ((w.alloc X).alloc Y).heap.size ((w.alloc X).alloc Y) w') := fun X Y => zero_any _ _ _ _ _ _ _ _ data objs _ (HD.out.keep (b2 w X Y)) (HO.out.keep (b2 w X Y)) S hS
  have HK : Hid (∀ X Y, Calls Try.prog 47 #[.agg #[.int .i64 fn, .int .i64 exc, .slice da data.length dc, .int .i64 code, .int .i64 level, .bool more, .int .i64 next, .slice oa objs.length oc]] ((w.alloc X).alloc Y) fun r w' => r = .returned (.bool K) ∧ Below ((w.alloc X).alloc Y).heap.size ((w.alloc X).alloc Y) w') := fun X Y => vreply_any _ _ _ _ _ _ _ _ data objs _ (HD.out.keep (b2 w X Y)) (HO.out.keep (b2 w X Y)) K hK
  rcases verdict_cases v with h | rfl | rfl | ⟨h, h1, h2, h3, h4, h5⟩
  · have HV : Hid (V = (fn == 0 && exc == 0 && S)) := by show V = _; rw [← hV.out, Oc.ok_345 h, ← hS.out]
    clear hV
    rcases h with rfl | rfl | rfl
    all_goals
      go_enter Try.func16, Try.ntmps16
      go_wp2_with (first | (go_at_call 44; (with_reducible refine (HZ.out _ _).mono ?_); rintro r w1 ⟨rfl, hb1⟩) | (go_at_call 48; (with_reducible refine (H0.out _ _).mono ?_); rintro r w1 ⟨rfl, hb1⟩) | (go_at_call 47; (with_reducible refine (HK.out _ _).mono ?_); rintro r w1 ⟨rfl, hb1⟩))
      all_goals
        go_ret
        refine ⟨ret_bool ?_, by first | exact b2 w _ _ | exact bt (b2 w _ _) (by assumption) (Nat.le_refl _)⟩
        first | (rw [HV.out]; done) | (rw [HV.out]; simp [*]; done)
  · have HV0 : Hid (V = (!(exc == 0) && K)) := by show V = _; rw [← hV.out, Oc.ok_2 rfl, ← hK.out]
    clear hV
    rcases exc_cases exc with rfl | ⟨e0, e1, e2⟩
    · have HV : Hid (V = false) := by show V = _; rw [HV0.out]; rfl
      go_enter Try.func16, Try.ntmps16
      go_wp2_with (first | (go_at_call 44; (with_reducible refine (HZ.out _ _).mono ?_); rintro r w1 ⟨rfl, hb1⟩) | (go_at_call 48; (with_reducible refine (H0.out _ _).mono ?_); rintro r w1 ⟨rfl, hb1⟩) | (go_at_call 47; (with_reducible refine (HK.out _ _).mono ?_); rintro r w1 ⟨rfl, hb1⟩))
      all_goals
        go_ret
        refine ⟨ret_bool ?_, by first | exact b2 w _ _ | exact bt (b2 w _ _) (by assumption) (Nat.le_refl _)⟩
        first | (rw [HV.out]; done) | (rw [HV.out]; simp [*]; done)
    · have HV : Hid (V = K) := by show V = _; rw [HV0.out, e1]; rfl
      go_enter Try.func16, Try.ntmps16
      go_wp2_with (first | (go_at_call 44; (with_reducible refine (HZ.out _ _).mono ?_); rintro r w1 ⟨rfl, hb1⟩) | (go_at_call 48; (with_reducible refine (H0.out _ _).mono ?_); rintro r w1 ⟨rfl, hb1⟩) | (go_at_call 47; (with_reducible refine (HK.out _ _).mono ?_); rintro r w1 ⟨rfl, hb1⟩))
      all_goals
        go_ret
        refine ⟨ret_bool ?_, by first | exact b2 w _ _ | exact bt (b2 w _ _) (by assumption) (Nat.le_refl _)⟩
        first | (rw [HV.out]; done) | (rw [HV.out]; simp [*]; done)
  · have HV0 : Hid (V = ((exc == 0) && (if tblB fn then S else K))) := by show V = _; rw [← hV.out, Oc.ok_1 rfl, ← hK.out, ← hS.out]
    clear hV
    rcases exc_cases exc with rfl | ⟨e0, e1, e2⟩
    · rcases tbl_cases2 fn with ⟨t1, t2, t3⟩ | ⟨t1, t3⟩ | ⟨t1, t2, t3⟩
      · have HV : Hid (V = S) := by show V = _; rw [HV0.out, t3]; rfl
        go_enter Try.func16, Try.ntmps16
        go_wp2_with (first | (go_at_call 44; (with_reducible refine (HZ.out _ _).mono ?_); rintro r w1 ⟨rfl, hb1⟩) | (go_at_call 48; (with_reducible refine (H0.out _ _).mono ?_); rintro r w1 ⟨rfl, hb1⟩) | (go_at_call 47; (with_reducible refine (HK.out _ _).mono ?_); rintro r w1 ⟨rfl, hb1⟩))
        all_goals
          go_ret
          refine ⟨ret_bool ?_, by first | exact b2 w _ _ | exact bt (b2 w _ _) (by assumption) (Nat.le_refl _)⟩
          first | (rw [HV.out]; done) | (rw [HV.out]; simp [*]; done)
      · have HV : Hid (V = K) := by show V = _; rw [HV0.out, t3]; rfl
        go_enter Try.func16, Try.ntmps16
        go_wp2_with (first | (go_at_call 44; (with_reducible refine (HZ.out _ _).mono ?_); rintro r w1 ⟨rfl, hb1⟩) | (go_at_call 48; (with_reducible refine (H0.out _ _).mono ?_); rintro r w1 ⟨rfl, hb1⟩) | (go_at_call 47; (with_reducible refine (HK.out _ _).mono ?_); rintro r w1 ⟨rfl, hb1⟩))
        all_goals
          go_ret
          refine ⟨ret_bool ?_, by first | exact b2 w _ _ | exact bt (b2 w _ _) (by assumption) (Nat.le_refl _)⟩
          first | (rw [HV.out]; done) | (rw [HV.out]; simp [*]; done)
      · have HV : Hid (V = K) := by show V = _; rw [HV0.out, t3]; rfl
        go_enter Try.func16, Try.ntmps16
        go_wp2_with (first | (go_at_call 44; (with_reducible refine (HZ.out _ _).mono ?_); rintro r w1 ⟨rfl, hb1⟩) | (go_at_call 48; (with_reducible refine (H0.out _ _).mono ?_); rintro r w1 ⟨rfl, hb1⟩) | (go_at_call 47; (with_reducible refine (HK.out _ _).mono ?_); rintro r w1 ⟨rfl, hb1⟩))
        all_goals
          go_ret
          refine ⟨ret_bool ?_, by first | exact b2 w _ _ | exact bt (b2 w _ _) (by assumption) (Nat.le_refl _)⟩
          first | (rw [HV.out]; done) | (rw [HV.out]; simp [*]; done)
    · have HV : Hid (V = false) := by show V = _; rw [HV0.out, e1]; rfl
      rcases tbl_cases2 fn with ⟨t1, t2, t3⟩ | ⟨t1, t3⟩ | ⟨t1, t2, t3⟩
      all_goals
        go_enter Try.func16, Try.ntmps16
        go_wp2_with (first | (go_at_call 44; (with_reducible refine (HZ.out _ _).mono ?_); rintro r w1 ⟨rfl, hb1⟩) | (go_at_call 48; (with_reducible refine (H0.out _ _).mono ?_); rintro r w1 ⟨rfl, hb1⟩) | (go_at_call 47; (with_reducible refine (HK.out _ _).mono ?_); rintro r w1 ⟨rfl, hb1⟩))
        all_goals
          go_ret
          refine ⟨ret_bool ?_, by first | exact b2 w _ _ | exact bt (b2 w _ _) (by assumption) (Nat.le_refl _)⟩
          first | (rw [HV.out]; done) | (rw [HV.out]; simp [*]; done)
  · have HV : Hid (V = false) := by show V = _; rw [← hV.out, Oc.ok_no h]
    clear hV
    go_enter Try.func16, Try.ntmps16
    go_wp2_with (first | (go_at_call 44; (with_reducible refine (HZ.out _ _).mono ?_); rintro r w1 ⟨rfl, hb1⟩) | (go_at_call 48; (with_reducible refine (H0.out _ _).mono ?_); rintro r w1 ⟨rfl, hb1⟩) | (go_at_call 47; (with_reducible refine (HK.out _ _).mono ?_); rintro r w1 ⟨rfl, hb1⟩))
    all_goals
      go_ret
      refine ⟨ret_bool ?_, by first | exact b2 w _ _ | exact bt (b2 w _ _) (by assumption) (Nat.le_refl _)⟩
      first | (rw [HV.out]; done) | (rw [HV.out]; simp [*]; done)

set_option maxRecDepth 100000 in
set_option maxHeartbeats 6400000 in
theorem validOc_any (v : Int) (fn exc : Int) (dv : Value) (code level : Int) (more : Bool) (next : Int) (ov : Value) (data : List UInt8) (objs : List Ob) (w : World) (hd : Bs w dv data) (ho : Obs w ov objs) (hl : level ≤ 9223372036854775807) (hl2 : -9223372036854775808 ≤ level) (V : Bool) (hV : Hid (Oc.ok ⟨v, ⟨fn, exc, data, code, level, more, next, objs⟩⟩ = V)) :
    Calls Try.prog 15 #[.agg #[.int .i64 v, .int .i64 fn, .int .i64 exc, dv, .int .i64 code, .int .i64 level, .bool more, .int .i64 next, ov]] w fun r w' => r = .returned (.bool V) ∧ Below w.heap.size w w' := by
  have HD := hid hd
  have HO := hid ho
  obtain ⟨da, dc, rfl, hdc⟩ := hd
  obtain ⟨oa, oc, rfl, hoc⟩ := ho
  clear hdc hoc
  obtain ⟨K, hK0⟩ : ∃ K, Rp.ok ⟨fn, exc, data, code, level, more, next, objs⟩ = K := ⟨_, rfl⟩
  obtain ⟨S, hS0⟩ : ∃ S, Rp.short ⟨fn, exc, data, code, level, more, next, objs⟩ = S := ⟨_, rfl⟩
  have hK := hid hK0
  have hS := hid hS0
  clear hK0 hS0
  have H0 : Hid (∀ (f x : Int) X Y, Calls Try.prog 45 #[.agg #[.int .i64 f, .int .i64 x, .slice da data.length dc, .int .i64 code, .int .i64 level, .bool more, .int .i64 next, .slice oa objs.length oc]] ((w.alloc X).alloc Y) fun r w' => r = .returned (.bool S) ∧ Below ((w.alloc X).alloc Y).heap.size ((w.alloc X).alloc Y) w') := fun f x X Y => by rw [← hS.out]; exact short_any f x _ _ _ _ _ _ data objs _ (HD.out.keep (b2 w X Y)) (HO.out.keep (b2 w X Y))
  have HK : Hid (∀ X Y, Calls Try.prog 46 #[.agg #[.int .i64 fn, .int .i64 exc, .slice da data.length dc, .int .i64 code, .int .i64 level, .bool more, .int .i64 next, .slice oa objs.length oc]] ((w.alloc X).alloc Y) fun r w' => r = .returned (.bool K) ∧ Below ((w.alloc X).alloc Y).heap.size ((w.alloc X).alloc Y) w') := fun X Y => by rw [← hK.out]; exact rvalid_any _ _ _ _ _ _ _ _ data objs _ (HD.out.keep (b2 w X Y)) (HO.out.keep (b2 w X Y)) hl hl2
  rcases verdict_cases v with h | rfl | rfl | ⟨h, h1, h2, h3, h4, h5⟩
  · have HV : Hid (V = (fn == 0 && exc == 0 && S)) := by show V = _; rw [← hV.out, Oc.ok_345 h, ← hS.out]
    clear hV
    rcases h with rfl | rfl | rfl
    all_goals
      go_enter Try.func15, Try.ntmps15
      go_wp2_with (first | (go_at_call 45; (with_reducible refine (H0.out _ _ _ _).mono ?_); rintro r w1 ⟨rfl, hb1⟩) | (go_at_call 46; (with_reducible refine (HK.out _ _).mono ?_); rintro r w1 ⟨rfl, hb1⟩) | (go_at_call 41; refine (isTable_any _ _).mono ?_; rintro r w0 ⟨rfl, rfl⟩))
      all_goals
        go_ret
        refine ⟨ret_bool ?_, by first | exact b2 w _ _ | exact bt (b2 w _ _) (by assumption) (Nat.le_refl _)⟩
        first | (rw [HV.out]; done) | (rw [HV.out]; simp [*]; done)
  · have HV0 : Hid (V = (!(exc == 0) && K)) := by show V = _; rw [← hV.out, Oc.ok_2 rfl, ← hK.out]
    clear hV
    rcases exc_cases exc with rfl | ⟨e0, e1, e2⟩
    · have HV : Hid (V = false) := by show V = _; rw [HV0.out]; rfl
      go_enter Try.func15, Try.ntmps15
      go_wp2_with (first | (go_at_call 45; (with_reducible refine (H0.out _ _ _ _).mono ?_); rintro r w1 ⟨rfl, hb1⟩) | (go_at_call 46; (with_reducible refine (HK.out _ _).mono ?_); rintro r w1 ⟨rfl, hb1⟩) | (go_at_call 41; refine (isTable_any _ _).mono ?_; rintro r w0 ⟨rfl, rfl⟩))
      all_goals
        go_ret
        refine ⟨ret_bool ?_, by first | exact b2 w _ _ | exact bt (b2 w _ _) (by assumption) (Nat.le_refl _)⟩
        first | (rw [HV.out]; done) | (rw [HV.out]; simp [*]; done)
    · have HV : Hid (V = K) := by show V = _; rw [HV0.out, e1]; rfl
      go_enter Try.func15, Try.ntmps15
      go_wp2_with (first | (go_at_call 45; (with_reducible refine (H0.out _ _ _ _).mono ?_); rintro r w1 ⟨rfl, hb1⟩) | (go_at_call 46; (with_reducible refine (HK.out _ _).mono ?_); rintro r w1 ⟨rfl, hb1⟩) | (go_at_call 41; refine (isTable_any _ _).mono ?_; rintro r w0 ⟨rfl, rfl⟩))
      all_goals
        go_ret
        refine ⟨ret_bool ?_, by first | exact b2 w _ _ | exact bt (b2 w _ _) (by assumption) (Nat.le_refl _)⟩
        first | (rw [HV.out]; done) | (rw [HV.out]; simp [*]; done)
  · have HV0 : Hid (V = ((exc == 0) && (if tblB fn then S else K))) := by show V = _; rw [← hV.out, Oc.ok_1 rfl, ← hK.out, ← hS.out]
    clear hV
    rcases exc_cases exc with rfl | ⟨e0, e1, e2⟩
    · rcases tbl_cases2 fn with ⟨t1, t2, t3⟩ | ⟨t1, t3⟩ | ⟨t1, t2, t3⟩
      · have HV : Hid (V = S) := by show V = _; rw [HV0.out, t3]; rfl
        go_enter Try.func15, Try.ntmps15
        go_wp2_with (first | (go_at_call 45; (with_reducible refine (H0.out _ _ _ _).mono ?_); rintro r w1 ⟨rfl, hb1⟩) | (go_at_call 46; (with_reducible refine (HK.out _ _).mono ?_); rintro r w1 ⟨rfl, hb1⟩) | (go_at_call 41; refine (isTable_any _ _).mono ?_; rintro r w0 ⟨rfl, rfl⟩))
        all_goals
          go_ret
          refine ⟨ret_bool ?_, by first | exact b2 w _ _ | exact bt (b2 w _ _) (by assumption) (Nat.le_refl _)⟩
          first | (rw [HV.out]; done) | (rw [HV.out]; simp [*]; done)
      · have HV : Hid (V = K) := by show V = _; rw [HV0.out, t3]; rfl
        go_enter Try.func15, Try.ntmps15
        go_wp2_with (first | (go_at_call 45; (with_reducible refine (H0.out _ _ _ _).mono ?_); rintro r w1 ⟨rfl, hb1⟩) | (go_at_call 46; (with_reducible refine (HK.out _ _).mono ?_); rintro r w1 ⟨rfl, hb1⟩) | (go_at_call 41; refine (isTable_any _ _).mono ?_; rintro r w0 ⟨rfl, rfl⟩))
        all_goals
          go_ret
          refine ⟨ret_bool ?_, by first | exact b2 w _ _ | exact bt (b2 w _ _) (by assumption) (Nat.le_refl _)⟩
          first | (rw [HV.out]; done) | (rw [HV.out]; simp [*]; done)
      · have HV : Hid (V = K) := by show V = _; rw [HV0.out, t3]; rfl
        go_enter Try.func15, Try.ntmps15
        go_wp2_with (first | (go_at_call 45; (with_reducible refine (H0.out _ _ _ _).mono ?_); rintro r w1 ⟨rfl, hb1⟩) | (go_at_call 46; (with_reducible refine (HK.out _ _).mono ?_); rintro r w1 ⟨rfl, hb1⟩) | (go_at_call 41; refine (isTable_any _ _).mono ?_; rintro r w0 ⟨rfl, rfl⟩))
        all_goals
          go_ret
          refine ⟨ret_bool ?_, by first | exact b2 w _ _ | exact bt (b2 w _ _) (by assumption) (Nat.le_refl _)⟩
          first | (rw [HV.out]; done) | (rw [HV.out]; simp [*]; done)
    · have HV : Hid (V = false) := by show V = _; rw [HV0.out, e1]; rfl
      rcases tbl_cases2 fn with ⟨t1, t2, t3⟩ | ⟨t1, t3⟩ | ⟨t1, t2, t3⟩
      all_goals
        go_enter Try.func15, Try.ntmps15
        go_wp2_with (first | (go_at_call 45; (with_reducible refine (H0.out _ _ _ _).mono ?_); rintro r w1 ⟨rfl, hb1⟩) | (go_at_call 46; (with_reducible refine (HK.out _ _).mono ?_); rintro r w1 ⟨rfl, hb1⟩) | (go_at_call 41; refine (isTable_any _ _).mono ?_; rintro r w0 ⟨rfl, rfl⟩))
        all_goals
          go_ret
          refine ⟨ret_bool ?_, by first | exact b2 w _ _ | exact bt (b2 w _ _) (by assumption) (Nat.le_refl _)⟩
          first | (rw [HV.out]; done) | (rw [HV.out]; simp [*]; done)
  · have HV : Hid (V = false) := by show V = _; rw [← hV.out, Oc.ok_no h]
    clear hV
    go_enter Try.func15, Try.ntmps15
    go_wp2_with (first | (go_at_call 45; (with_reducible refine (H0.out _ _ _ _).mono ?_); rintro r w1 ⟨rfl, hb1⟩) | (go_at_call 46; (with_reducible refine (HK.out _ _).mono ?_); rintro r w1 ⟨rfl, hb1⟩) | (go_at_call 41; refine (isTable_any _ _).mono ?_; rintro r w0 ⟨rfl, rfl⟩))
    all_goals
      go_ret
      refine ⟨ret_bool ?_, by first | exact b2 w _ _ | exact bt (b2 w _ _) (by assumption) (Nat.le_refl _)⟩
      first | (rw [HV.out]; done) | (rw [HV.out]; simp [*]; done)

end Go.Proofs.Ytlaaoifjiogogaa
