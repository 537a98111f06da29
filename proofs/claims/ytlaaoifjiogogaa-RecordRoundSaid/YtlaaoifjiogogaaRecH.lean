/-
  The contract of the reference's ValidReply, whole; comparisons of outcomes; the cuts; the two Valid of outcomes.
-/
import Derived.Test.YtlaaoifjiogogaaRecG
import Derived.Test.YtlaaoifjiogogaaRecE1
import Derived.Test.YtlaaoifjiogogaaRecE2
import Derived.Test.YtlaaoifjiogogaaRecE3
namespace Go.Proofs.Ytlaaoifjiogogaa
open Go.RowKit

theorem isEmpty_len {α : Type} (l : List α) : l.isEmpty = decide (l.length = 0) := by cases l <;> simp

set_option maxRecDepth 100000 in
set_option maxHeartbeats 1600000 in
theorem vreply_any (fn exc : Int) (dv : Value) (code level : Int) (more : Bool) (next : Int) (ov : Value) (data : List UInt8) (objs : List Ob) (w : World) (hd : Bs w dv data) (ho : Obs w ov objs) (V : Bool) (hV : Hid (Rp.ok ⟨fn, exc, data, code, level, more, next, objs⟩ = V)) :
    Calls Try.prog 47 #[.agg #[.int .i64 fn, .int .i64 exc, dv, .int .i64 code, .int .i64 level, .bool more, .int .i64 next, ov]] w fun r w' => r = .returned (.bool V) ∧ Below w.heap.size w w' := by
  have hV0 : Rp.ok ⟨fn, exc, data, code, level, more, next, objs⟩ = V := hV.out
  have HO := ho
  obtain ⟨a2, c2, rfl, _⟩ := hd
  obtain ⟨a, c, rfl, _⟩ := ho
  have hpl : Rp.plain ⟨fn, exc, data, code, level, more, next, objs⟩ = (code == 0 && level == 0 && !more && next == 0 && decide (objs.length = 0)) := by rw [← isEmpty_len]; rfl
  cases hk : knownB fn with
  | false =>
    have : V = false := by rw [← hV0]; simp [Rp.ok, hk]
    subst this
    have HKN : Hid (∀ W, Calls Try.prog 86 #[.int .i64 fn] W fun r w' => r = .returned (.bool false) ∧ W = w') := fun W => by rw [← hk]; exact function_any _ W
    clear hV0 hk hpl
    go_enter Try.func47, Try.ntmps47
    go_wp2_with (first | (go_at_call 86; (with_reducible refine (HKN.out _).mono ?_); rintro r w1 ⟨rfl, rfl⟩))
    go_ret
    exact ⟨rfl, bal' _ _⟩
  | true =>
    by_cases hx : exc = 0
    · subst hx
      have hok : Rp.ok ⟨fn, 0, data, code, level, more, next, objs⟩ = (if fn = 43 then Rp.devB ⟨fn, 0, data, code, level, more, next, objs⟩ else if fn = 17 then decide (1 ≤ data.length) && decide (data.length ≤ 251) && Rp.plain ⟨fn, 0, data, code, level, more, next, objs⟩ else decide (1 ≤ data.length) && decide (data.length ≤ 250) && Rp.plain ⟨fn, 0, data, code, level, more, next, objs⟩) := by
        unfold Rp.ok; rw [hk]; rfl
      rw [hok] at hV0
      by_cases h43 : fn = 43
      · subst h43
        rw [if_pos rfl] at hV0
        by_cases hb : data.length = 0 ∧ 1 ≤ code ∧ code ≤ 3
        · obtain ⟨hb1, hb2, hb3⟩ := hb
          have hdata : data = [] := List.eq_nil_of_length_eq_zero hb1
          subst hdata
          have hdv : Rp.devB ⟨43, 0, [], code, level, more, next, objs⟩ = (lvB level && (decide (0 ≤ next) && decide (next ≤ 255) && (rises (-1) objs && decide (obSize objs ≤ 246)) && (if more then !objs.isEmpty && decide (lastId (-1) objs < next) else next == 0))) := by
            simp [Rp.devB, objsB, hb2, hb3, Bool.and_assoc]
          rcases lv_cases level with ⟨l1, l2, l3⟩ | ⟨l1, l2, l3⟩ | ⟨l3, l1⟩
          · exact vreply_dev3 w a2 c2 code level more next _ objs HO hb2 hb3 (.inl ⟨l1, l2⟩) V (by show _ = V; rw [← hV0, hdv, l3, Bool.true_and])
          · exact vreply_dev3 w a2 c2 code level more next _ objs HO hb2 hb3 (.inr ⟨l1, l2⟩) V (by show _ = V; rw [← hV0, hdv, l3, Bool.true_and])
          · have : V = false := by rw [← hV0, hdv, l3, Bool.false_and]
            subst this
            exact vreply_dev2 w a2 a 0 c2 objs.length c code level more next rfl hb2 hb3 l1
        · have : V = false := by
            rw [← hV0]
            cases hx : Rp.devB ⟨43, 0, data, code, level, more, next, objs⟩ with
            | false => rfl
            | true =>
              exfalso; apply hb
              simp only [Rp.devB, Bool.and_eq_true, decide_eq_true_eq, List.isEmpty_iff] at hx
              obtain ⟨⟨⟨⟨⟨⟨⟨h1, h2⟩, h3⟩, _⟩, _⟩, _⟩, _⟩, _⟩ := hx
              exact ⟨by rw [h1]; rfl, h2, h3⟩
          subst this
          exact vreply_dev1 w a2 a data.length c2 objs.length c code level more next (by omega)
      · rw [if_neg h43] at hV0
        by_cases h17 : fn = 17
        · subst h17
          rw [if_pos rfl, hpl] at hV0
          rw [← hV0]
          exact vreply_srv w a2 a data.length c2 objs.length c code level more next
        · rw [if_neg h17, hpl] at hV0
          rw [← hV0]
          refine vreply_tbl w fn a2 a data.length c2 objs.length c code level more next hk ?_
          unfold knownB tblB at hk
          simp at hk
          omega
    · have hok : Rp.ok ⟨fn, exc, data, code, level, more, next, objs⟩ = (decide (1 ≤ exc) && decide (exc ≤ 255) && (decide (data.length = 0) && Rp.plain ⟨fn, exc, data, code, level, more, next, objs⟩)) := by
        unfold Rp.ok Rp.short; rw [hk, if_neg hx, isEmpty_len]; rfl
      rw [hok, hpl] at hV0
      rw [← hV0]
      exact vreply_exc w fn exc a2 a data.length c2 objs.length c code level more next hk hx

set_option maxRecDepth 100000 in
set_option maxHeartbeats 3200000 in
theorem sameOc_any (v1 f1 x1 : Int) (dv1 : Value) (c1 l1 : Int) (m1 : Bool) (n1 : Int) (ov1 : Value) (d1 : List UInt8) (o1 : List Ob) (v2 f2 x2 : Int) (dv2 : Value) (c2 l2 : Int) (m2 : Bool) (n2 : Int) (ov2 : Value) (d2 : List UInt8) (o2 : List Ob) (w : World)
    (hd1 : Bs w dv1 d1) (ho1 : Obs w ov1 o1) (hd2 : Bs w dv2 d2) (ho2 : Obs w ov2 o2) (V : Bool) (hV : Hid (Oc.same ⟨v1, ⟨f1, x1, d1, c1, l1, m1, n1, o1⟩⟩ ⟨v2, ⟨f2, x2, d2, c2, l2, m2, n2, o2⟩⟩ = V)) :
    Calls Try.prog 13 #[.agg #[.int .i64 v1, .int .i64 f1, .int .i64 x1, dv1, .int .i64 c1, .int .i64 l1, .bool m1, .int .i64 n1, ov1], .agg #[.int .i64 v2, .int .i64 f2, .int .i64 x2, dv2, .int .i64 c2, .int .i64 l2, .bool m2, .int .i64 n2, ov2]] w fun r w' => r = .returned (.bool V) ∧ Below w.heap.size w w' := by
  have HD1 := hid hd1
  have HD2 := hid hd2
  have HO1 := hid ho1
  have HO2 := hid ho2
  have B2 : Hid (∀ X Y : Obj, Below w.heap.size w ((w.alloc X).alloc Y)) := fun X Y => (bal' w X).alloc (by simp) Y
  obtain ⟨S, hS⟩ : ∃ S, Rp.same ⟨f1, x1, d1, c1, l1, m1, n1, o1⟩ ⟨f2, x2, d2, c2, l2, m2, n2, o2⟩ = S := ⟨_, rfl⟩
  have hV2 : Hid ((v1 == v2 && S) = V) := by show _ = V; rw [← hV.out, ← hS]; rfl
  have HSO : Hid (∀ X Y : Obj, Calls Try.prog 44 #[.agg #[.int .i64 f1, .int .i64 x1, dv1, .int .i64 c1, .int .i64 l1, .bool m1, .int .i64 n1, ov1], .agg #[.int .i64 f2, .int .i64 x2, dv2, .int .i64 c2, .int .i64 l2, .bool m2, .int .i64 n2, ov2]] ((w.alloc X).alloc Y) fun r w' => r = .returned (.bool S) ∧ Below ((w.alloc X).alloc Y).heap.size ((w.alloc X).alloc Y) w') := fun X Y => same_any _ _ _ _ _ _ _ _ d1 o1 _ _ _ _ _ _ _ _ d2 o2 _ (HD1.out.keep (B2.out X Y)) (HO1.out.keep (B2.out X Y)) (HD2.out.keep (B2.out X Y)) (HO2.out.keep (B2.out X Y)) S hS
  clear hV hd1 hd2 ho1 ho2 hS
  go_enter Try.func13, Try.ntmps13
  go_wp2_with (first | (go_at_call 44; (with_reducible refine (HSO.out _ _).mono ?_); rintro r w1 ⟨rfl, hb1⟩))
  all_goals
    go_ret
    refine ⟨ret_bool ?_, by first | exact B2.out _ _ | exact bt (B2.out _ _) (by assumption) (Nat.le_refl _)⟩
    rw [← hV2.out]
    first | (simp [*]; done) | rfl

end Go.Proofs.Ytlaaoifjiogogaa
