/-
  What the journal leaves out of an outcome makes no difference to a probe: the plain law; and Feed at a probe that has ended.
-/
import Derived.Test.YtliblgmpclefgaaGreatPbn
import Derived.Test.YtliblgmpclefgaaGreatStf
namespace Go.Proofs.YtliblgmpclefgaaGreat
open Go.RowKit

theorem Idn.feed_not {x : Idn} {o : Oc} (h : ¬ o.verdict = 1) : x.feed o = if o.verdict = 2 ∧ o.reply.exc = 1 ∧ x.cnt = 0 then { x with st := 5 } else { x with st := 4 } := by
  have hb : x.bad o = true := by
    unfold Idn.bad
    rw [show (o.verdict != 1) = true by simp [h]]
    rfl
  unfold Idn.feed
  rw [if_pos hb]
theorem Sr.feed_no {s : Sr} {v : Int} (h1 : ¬ v = 1) (h2 : ¬ v = 2) (x y : Int) : s.feed v x = s.feed v y := by
  unfold Sr.feed Sr.took
  simp [h1, h2]
theorem Mp.feed_no {m : Mp} {v : Int} (h1 : ¬ v = 1) (h2 : ¬ v = 2) (x y : Int) : m.feed v x = m.feed v y := by
  unfold Mp.feed
  simp [h1, h2]
theorem srvSt_not {o : Oc} (h : ¬ o.verdict = 1) : srvSt o = if o.verdict = 2 ∧ o.reply.exc = 1 then 5 else 4 := by
  unfold srvSt
  rw [if_neg (fun e => h e.1)]
theorem srvData_not {o : Oc} (h : ¬ o.verdict = 1) : srvData o = [] := by
  unfold srvData
  rw [if_neg (fun e => h e.1)]

/-- A probe asks for a table's function, or the whole outcome is kept. -/
theorem feed_strip (win : Nat → Int × Int) (p : Pb) (hok : p.ph.ok win) (O : Oc) (hf : O.verdict = 1 → ¬ p.ph = .done → O.reply.fn = p.ph.ask.fn) : p.feed win O = p.feed win O.strip := by
  obtain ⟨ph, d, q⟩ := p
  obtain ⟨v, ⟨fn, exc, data, code, level, more, next, objs⟩⟩ := O
  have key : ∀ (O' : Oc), O'.verdict = v → (O'.reply.exc = exc ∨ (¬ v = 1 ∧ ¬ v = 2)) → (¬ v = 1 ∨ ((∀ x, ¬ ph = .ident x) ∧ ¬ ph = .server)) → (Pb.mk ph d q).feed win ⟨v, ⟨fn, exc, data, code, level, more, next, objs⟩⟩ = (Pb.mk ph d q).feed win O' := by
    intro O' hv hx hn
    obtain ⟨v', ⟨fn', exc', data', code', level', more', next', objs'⟩⟩ := O'
    simp only at hv hx
    subst hv
    unfold Pb.feed Pb.step
    cases ph with
    | test => rfl
    | ident x =>
      have hv1 : ¬ v' = 1 := by
        rcases hn with h | h
        · exact h
        · exact absurd rfl (h.1 x)
      have e : x.feed ⟨v', ⟨fn, exc, data, code, level, more, next, objs⟩⟩ = x.feed ⟨v', ⟨fn', exc', data', code', level', more', next', objs'⟩⟩ := by
        rw [Idn.feed_not hv1, Idn.feed_not hv1]
        simp only
        rcases hx with rfl | ⟨_, h2⟩
        · rfl
        · rw [if_neg (fun e => h2 e.1), if_neg (fun e => h2 e.1)]
      simp only [e]
    | server =>
      have hv1 : ¬ v' = 1 := by
        rcases hn with h | h
        · exact h
        · exact absurd rfl h.2
      simp only [srvData_not (o := ⟨v', ⟨fn, exc, data, code, level, more, next, objs⟩⟩) hv1, srvData_not (o := ⟨v', ⟨fn', exc', data', code', level', more', next', objs'⟩⟩) hv1, srvSt_not (o := ⟨v', ⟨fn, exc, data, code, level, more, next, objs⟩⟩) hv1, srvSt_not (o := ⟨v', ⟨fn', exc', data', code', level', more', next', objs'⟩⟩) hv1]
      rcases hx with rfl | ⟨_, h2⟩
      · rfl
      · simp only [h2, false_and, if_false]
    | seek k s =>
      have e : s.feed v' exc = s.feed v' exc' := by
        rcases hx with rfl | ⟨h1, h2⟩
        · rfl
        · exact Sr.feed_no h1 h2 _ _
      simp only [e]
    | map k m =>
      have e : m.feed v' exc = m.feed v' exc' := by
        rcases hx with rfl | ⟨h1, h2⟩
        · rfl
        · exact Mp.feed_no h1 h2 _ _
      simp only [e]
    | done => rfl
  rcases strip_cases v fn with ⟨h0, _⟩ | e | ⟨e, ⟨_, _, t3⟩ | ⟨_, t3⟩ | ⟨_, _, t3⟩⟩
  · rw [Oc.strip_no h0]
    exact key _ rfl (.inr ⟨fun e => h0 (.inl e), fun e => h0 (.inr e)⟩) (.inl (fun e => h0 (.inl e)))
  · rw [Oc.strip_short (.inl e)]
    exact key _ rfl (.inl rfl) (.inl (by rw [e]; decide))
  · rw [Oc.strip_short (.inr ⟨e, t3⟩)]
    refine key _ rfl (.inl rfl) (.inr ⟨fun x hx => ?_, fun hx => ?_⟩)
    · subst hx
      have h := hf e (by rintro ⟨⟩)
      simp only at h
      rw [h] at t3
      exact absurd (show tblB 43 = true from t3) (by decide)
    · subst hx
      have h := hf e (by rintro ⟨⟩)
      simp only at h
      rw [h] at t3
      exact absurd (show tblB 17 = true from t3) (by decide)
  · rw [Oc.strip_all e t3]
  · rw [Oc.strip_all e t3]

set_option maxRecDepth 100000 in
set_option maxHeartbeats 3200000 in
theorem pfeed_done {P : Nat → Prop} {w : World} {g : Nat} {win : Nat → Int × Int} {p : Pb} (h : PbAt P w g win p) (hd : p.ph = .done) (O : Oc) (da : Option Addr) (dc : Nat) (oa : Option Addr) (oc : Nat) :
    Calls Tryz.prog 12 #[.pointer (some ⟨g, 0, none⟩), .agg #[.int .i64 O.verdict, .int .i64 O.reply.fn, .int .i64 O.reply.exc, .slice da O.reply.data.length dc, .int .i64 O.reply.code, .int .i64 O.reply.level, .bool O.reply.more, .int .i64 O.reply.next, .slice oa O.reply.objs.length oc]] w fun r w' => r = .returned (.int .i64 12) ∧ Below w.heap.size w w' := by
  obtain ⟨Q, pr, af, ov, sv, mv, hP, hQ, hpb, hrd, hpr⟩ := h
  rw [hd] at hpr
  obtain ⟨rfl, rfl⟩ := hpr
  obtain ⟨W0, hW0⟩ : ∃ W, w.alloc (.cells #[.int .i64 O.verdict, .int .i64 O.reply.fn, .int .i64 O.reply.exc, .slice da O.reply.data.length dc, .int .i64 O.reply.code, .int .i64 O.reply.level, .bool O.reply.more, .int .i64 O.reply.next, .slice oa O.reply.objs.length oc] 54) = W := ⟨_, rfl⟩
  have hb0 : Below w.heap.size w W0 := by rw [← hW0]; exact bal' w _
  have c8 : W0.cell? ⟨g, 8, none⟩ = some .nilIface := hpCell (hpKeep hpb hb0) 8
  have HW0 := hid hW0
  have HB0 := hid hb0
  clear hW0 hb0 hP hQ hpb hrd hd
  go_enter Tryz.func12, Tryz.ntmps12
  go_upto_region 1 with (fail)
  rw [HW0.out]
  go_wp2
  go_ret
  exact ⟨rfl, HB0.out⟩

end Go.Proofs.YtliblgmpclefgaaGreat
