/-
  The contract of the reference's Strip, and of the cuts.
-/
import Derived.Test.YtlaaoifjiogogaaRecI
namespace Go.Proofs.Ytlaaoifjiogogaa
open Go.RowKit

/-- A value that reads as an outcome. -/
def OcV (w : World) (val : Value) (o : Oc) : Prop := ∃ da dc oa oc, val = .agg #[.int .i64 o.verdict, .int .i64 o.reply.fn, .int .i64 o.reply.exc, .slice da o.reply.data.length dc, .int .i64 o.reply.code, .int .i64 o.reply.level, .bool o.reply.more, .int .i64 o.reply.next, .slice oa o.reply.objs.length oc] ∧ Bs w (.slice da o.reply.data.length dc) o.reply.data ∧ Obs w (.slice oa o.reply.objs.length oc) o.reply.objs

theorem OcV.keep {w w' : World} {val : Value} {o : Oc} (h : OcV w val o) (hb : Below w.heap.size w w') : OcV w' val o := by
  obtain ⟨da, dc, oa, oc, h1, h2, h3⟩ := h
  exact ⟨da, dc, oa, oc, h1, h2.keep hb, h3.keep hb⟩

/-- What a call that answers an outcome leaves. -/
def OcPost (w : World) (o : Oc) (r : Ending) (w' : World) : Prop := ∃ val, r = .returned val ∧ OcV w' val o ∧ Below w.heap.size w w'

theorem Oc.strip_no {v : Int} {r : Rp} (h : ¬ (v = 1 ∨ v = 2)) : Oc.strip ⟨v, r⟩ = ⟨v, Rp.zero⟩ := by unfold Oc.strip; rw [if_neg h]
theorem Oc.strip_short {v : Int} {r : Rp} (h : v = 2 ∨ (v = 1 ∧ tblB r.fn = true)) : Oc.strip ⟨v, r⟩ = ⟨v, ⟨r.fn, r.exc, [], 0, 0, false, 0, []⟩⟩ := by
  unfold Oc.strip
  rcases h with h | ⟨h, h'⟩
  · rw [if_pos (.inr h), if_pos (.inl h)]
  · rw [if_pos (.inl h), if_pos (.inr h')]
theorem Oc.strip_all {v : Int} {r : Rp} (h : v = 1) (h' : tblB r.fn = false) : Oc.strip ⟨v, r⟩ = ⟨v, r⟩ := by
  unfold Oc.strip
  rw [if_pos (.inl h), if_neg]
  rintro (h2 | h2)
  · simp only at h2; omega
  · simp only at h2; rw [h'] at h2; cases h2

theorem strip_cases (v f : Int) : (¬ (v = 1 ∨ v = 2) ∧ (v != 1) = true ∧ (v != 2) = true ∧ (v == 1) = false ∧ (v == 2) = false) ∨ v = 2 ∨ (v = 1 ∧ ((1 ≤ f ∧ f ≤ 4 ∧ tblB f = true) ∨ (f < 1 ∧ tblB f = false) ∨ (1 ≤ f ∧ 4 < f ∧ tblB f = false))) := by
  by_cases h1 : v = 1
  · exact .inr (.inr ⟨h1, tbl_cases2 f⟩)
  · by_cases h2 : v = 2
    · exact .inr (.inl h2)
    · exact .inl ⟨by omega, by simpa using h1, by simpa using h2, by simpa using h1, by simpa using h2⟩

set_option maxRecDepth 100000 in
set_option maxHeartbeats 3200000 in
theorem rstrip_any (v : Int) (fn exc : Int) (code level : Int) (more : Bool) (next : Int) (data : List UInt8) (objs : List Ob) (da oa : Option Addr) (dc oc : Nat) (w : World) (hd : Bs w (.slice da data.length dc) data) (ho : Obs w (.slice oa objs.length oc) objs) :
    Calls Try.prog 14 #[.agg #[.int .i64 v, .int .i64 fn, .int .i64 exc, .slice da data.length dc, .int .i64 code, .int .i64 level, .bool more, .int .i64 next, .slice oa objs.length oc]] w (OcPost w (Oc.strip ⟨v, ⟨fn, exc, data, code, level, more, next, objs⟩⟩)) := by
  have HD := hid hd
  have HO := hid ho
  clear hd ho
  rcases strip_cases v fn with ⟨h0, h1, h2, h3, h4⟩ | rfl | ⟨rfl, ⟨t1, t2, t3⟩ | ⟨t1, t3⟩ | ⟨t1, t2, t3⟩⟩
  · have HE := hid (Oc.strip_no (r := ⟨fn, exc, data, code, level, more, next, objs⟩) h0)
    go_enter Try.func14, Try.ntmps14
    go_wp2
    refine bodyPost_ret (v := .agg #[.int .i64 v, .int .i64 0, .int .i64 0, .slice none 0 0, .int .i64 0, .int .i64 0, .bool false, .int .i64 0, .slice none 0 0]) (by simp [results, Try.results14, go_sem]) rfl ?_
    rw [HE.out]
    exact ⟨_, rfl, ⟨_, _, _, _, rfl, Bs.nil _, Obs.nil _⟩, b2 w _ _⟩
  · have HE := hid (Oc.strip_short (v := 2) (r := ⟨fn, exc, data, code, level, more, next, objs⟩) (.inl rfl))
    go_enter Try.func14, Try.ntmps14
    go_wp2
    refine bodyPost_ret (v := .agg #[.int .i64 2, .int .i64 fn, .int .i64 exc, .slice none 0 0, .int .i64 0, .int .i64 0, .bool false, .int .i64 0, .slice none 0 0]) (by simp [results, Try.results14, go_sem]) rfl ?_
    rw [HE.out]
    exact ⟨_, rfl, ⟨_, _, _, _, rfl, Bs.nil _, Obs.nil _⟩, b2 w _ _⟩
  · have HE := hid (Oc.strip_short (v := 1) (r := ⟨fn, exc, data, code, level, more, next, objs⟩) (.inr ⟨rfl, t3⟩))
    go_enter Try.func14, Try.ntmps14
    go_wp2
    refine bodyPost_ret (v := .agg #[.int .i64 1, .int .i64 fn, .int .i64 exc, .slice none 0 0, .int .i64 0, .int .i64 0, .bool false, .int .i64 0, .slice none 0 0]) (by simp [results, Try.results14, go_sem]) rfl ?_
    rw [HE.out]
    exact ⟨_, rfl, ⟨_, _, _, _, rfl, Bs.nil _, Obs.nil _⟩, b2 w _ _⟩
  all_goals
    have HE := hid (Oc.strip_all (v := 1) (r := ⟨fn, exc, data, code, level, more, next, objs⟩) rfl t3)
    go_enter Try.func14, Try.ntmps14
    go_wp2
    refine bodyPost_ret (v := .agg #[.int .i64 1, .int .i64 fn, .int .i64 exc, .slice da data.length dc, .int .i64 code, .int .i64 level, .bool more, .int .i64 next, .slice oa objs.length oc]) (by simp [results, Try.results14, go_sem]) rfl ?_
    rw [HE.out]
    exact ⟨_, rfl, ⟨_, _, _, _, rfl, HD.out.keep (b2 w _ _), HO.out.keep (b2 w _ _)⟩, b2 w _ _⟩

/-- Few and short objects. -/
def smallObs (l : List Ob) : Bool := decide (l.length ≤ 40) && l.all fun x => decide (x.val.length ≤ 300)
def Rp.small (r : Rp) : Bool := decide (r.data.length ≤ 300) && smallObs r.objs

theorem small_no {l : List Ob} {k : Nat} {x : Ob} (h : l[k]? = some x) (hx : 300 < x.val.length) : smallObs l = false := by
  cases hs : smallObs l with
  | false => rfl
  | true =>
    simp only [smallObs, Bool.and_eq_true, List.all_eq_true, decide_eq_true_eq] at hs
    have := hs.2 x (List.mem_of_getElem? h)
    omega

set_option maxRecDepth 100000 in
set_option maxHeartbeats 3200000 in
theorem objects_any (v : Value) (l : List Ob) (w : World) (ho : Obs w v l) (V : Bool) (hV : Hid (smallObs l = V)) :
    Calls Try.prog 40 #[v] w fun r w' => r = .returned (.bool V) ∧ w = w' := by
  obtain ⟨a, n, c, rfl, hln, hn, hnc, hcm, hel⟩ := ho.open_
  clear ho
  replace hel := hid hel
  replace hln := hid hln
  go_enter Try.func40, Try.ntmps40
  go_wp2
  go_loop [3] (fun i => ∃ k : Nat, k ≤ n ∧ i = .int .i64 k ∧ Hid (∀ (j : Nat) (x : Ob), j < k → l[j]? = some x → x.val.length ≤ 300)) (fun i => n - (intOf i).toNat)
  case atStart => exact ⟨0, Nat.zero_le _, rfl, fun j x h => by omega⟩
  case round =>
    obtain ⟨k, hk, rfl, hri⟩ := hrel
    by_cases hlt : k < n
    · obtain ⟨x, hgx⟩ := get_some hln.out hlt
      obtain ⟨b, o, xa, xc, rfl, d1, d2, q⟩ := hel.out k x hgx
      have hxm := q.len
      unfold maxLen at hxm
      have HNO := hid (small_no hgx)
      have HST := hid (show x.val.length ≤ 300 → ∀ (j : Nat) (u : Ob), j < k + 1 → l[j]? = some u → u.val.length ≤ 300 from fun hs j u hj hu => by
        by_cases hjk : j = k
        · subst hjk; rw [hgx] at hu; cases hu; exact hs
        · exact hri.out j u (by omega) hu)
      clear hgx q hri
      generalize x.val.length = xn at *
      have hkl : (k : Int) < (n : Int) := by omega
      by_cases hx : xn ≤ 300
      · have HT := hid (HST.out hx)
        go_wp2
        go_round
        case rel => exact ⟨k + 1, by omega, by go_num, HT.out⟩
        case measure => simp [intOf]; omega
      · have HF := hid (HNO.out (by omega))
        go_wp2
        go_ret
        exact ⟨by rw [← hV.out, HF.out]; rfl, rfl⟩
    · obtain rfl : k = n := by omega
      have HF : Hid (V = decide (k ≤ 40)) := by
        show V = _
        rw [← hV.out]
        unfold smallObs
        rw [hln.out, show (l.all fun x => decide (x.val.length ≤ 300)) = true from by
          rw [List.all_eq_true]
          intro x hx
          obtain ⟨j, hj⟩ := List.getElem?_of_mem hx
          exact decide_eq_true (hri.out j x (by have := (List.getElem?_eq_some_iff.1 hj).1; have := hln.out; omega) hj), Bool.and_true]
      go_wp2
      go_ret
      exact ⟨by rw [HF.out]; exact ret_bool (by rw [Bool.eq_iff_iff]; simp; omega), rfl⟩

set_option maxRecDepth 100000 in
set_option maxHeartbeats 3200000 in
theorem mreply_any (fn exc : Int) (dv : Value) (code level : Int) (more : Bool) (next : Int) (ov : Value) (data : List UInt8) (objs : List Ob) (w : World) (hd : Bs w dv data) (ho : Obs w ov objs) (V : Bool) (hV : Hid (Rp.small ⟨fn, exc, data, code, level, more, next, objs⟩ = V)) :
    Calls Try.prog 10 #[.agg #[.int .i64 fn, .int .i64 exc, dv, .int .i64 code, .int .i64 level, .bool more, .int .i64 next, ov]] w fun r w' => r = .returned (.bool V) ∧ Below w.heap.size w w' := by
  have HO := hid ho
  have hlm := hd.len
  unfold maxLen at hlm
  obtain ⟨da, dc, rfl, hdc⟩ := hd
  clear hdc ho
  obtain ⟨S, hS⟩ : ∃ S, smallObs objs = S := ⟨_, rfl⟩
  have hV2 : Hid (V = (decide (data.length ≤ 300) && S)) := by show V = _; rw [← hV.out, ← hS]; rfl
  clear hV
  have HC : Hid (∀ X, Calls Try.prog 40 #[ov] (w.alloc X) fun r w' => r = .returned (.bool S) ∧ (w.alloc X) = w') := fun X => objects_any _ objs _ (HO.out.keep (bal' w X)) S hS
  clear hS
  generalize data.length = n at *
  by_cases hn : n ≤ 300
  · have HF : Hid (V = S) := by show V = _; rw [hV2.out, decide_eq_true hn, Bool.true_and]
    go_enter Try.func10, Try.ntmps10
    go_wp2_with (first | (go_at_call 40; (with_reducible refine (HC.out _).mono ?_); rintro r w1 ⟨rfl, rfl⟩))
    go_ret
    exact ⟨by rw [HF.out]; rfl, bal' w _⟩
  · have HF : Hid (V = false) := by show V = _; rw [hV2.out, decide_eq_false hn, Bool.false_and]
    go_enter Try.func10, Try.ntmps10
    go_wp2_with (first | (go_at_call 40; (with_reducible refine (HC.out _).mono ?_); rintro r w1 ⟨rfl, rfl⟩))
    go_ret
    exact ⟨by rw [HF.out]; rfl, bal' w _⟩

end Go.Proofs.Ytlaaoifjiogogaa
