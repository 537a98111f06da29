/-
  The contracts of modscanref10.Read and modscanref19.Judge.
-/
import Derived.Test.YtpmidoneoonlcaaGreatRmat2
import Derived.Test.YtpmidoneoonlcaaGreatSplR
import Derived.Test.YtpmidoneoonlcaaGreatRdec3
import Derived.Test.YtpmidoneoonlcaaGreatMrech
namespace Go.Proofs.YtpmidoneoonlcaaGreat
open Go.RowKit

def readB (q : Rq) (b : List UInt8) : Option Rp :=
  if q.ok = true then (match Rp.dec b with | some r => if r.fn = q.fn ∧ matchB q r = true then some r else none | none => none) else none

theorem readB_ok {q : Rq} {b : List UInt8} {r : Rp} (h : readB q b = some r) : r.ok = true := by
  unfold readB at h
  split at h
  · split at h
    · split at h
      · cases h
        rename_i h2
        have := h2.2
        unfold matchB at this
        simp only [Bool.and_eq_true] at this
        exact this.1.1.2
      · cases h
    · cases h
  · cases h

/-- The answers of a call that reads a reply, in one form. -/
def RdOne (w : World) (o : Option Rp) (r : Ending) (w' : World) : Prop :=
  ∃ (x : Rp) (da : Option Addr) (dc : Nat) (oa : Option Addr) (oc : Nat) (e : Int), r = .returned (.tuple #[.agg #[.int .i64 x.fn, .int .i64 x.exc, .slice da x.data.length dc, .int .i64 x.code, .int .i64 x.level, .bool x.more, .int .i64 x.next, .slice oa x.objs.length oc], .int .i64 e]) ∧ Below w.heap.size w w' ∧ (∀ W, Agree w.heap.size w' W → RpIs W x da dc oa oc) ∧
    ((e = 0 ∧ o = some x) ∨ (e ≠ 0 ∧ 1 ≤ e ∧ e ≤ 17 ∧ o = none ∧ x = Rp.zero ∧ da = none ∧ dc = 0 ∧ oa = none ∧ oc = 0))

theorem RpIs.zero (w : World) : RpIs w Rp.zero none 0 none 0 := ⟨Bs.nil _, Obs.nil _, by decide, by decide⟩
theorem DecPost.one {w : World} {o : Option Rp} {r : Ending} {w' : World} (h : DecPost w o r w') : RdOne w o r w' := by
  rcases h with ⟨x, da, dc, oa, oc, h1, h2, h3, h4⟩ | ⟨e, h1, h2, h3, h4, h5⟩
  · exact ⟨x, da, dc, oa, oc, 0, h2, h4, h3, .inl ⟨rfl, h1⟩⟩
  · exact ⟨Rp.zero, none, 0, none, 0, e, h4, h5, fun W _ => RpIs.zero W, .inr ⟨by omega, h1, h2, h3, rfl, rfl, rfl, rfl, rfl⟩⟩


theorem RdOne.err {w : World} {o : Option Rp} {w' : World} (ho : o = none) (e : Int) (h1 : 1 ≤ e) (h2 : e ≤ 17) (hb : Below w.heap.size w w') :
    RdOne w o (.returned (.tuple #[.agg #[.int .i64 0, .int .i64 0, .slice none 0 0, .int .i64 0, .int .i64 0, .bool false, .int .i64 0, .slice none 0 0], .int .i64 e])) w' :=
  ⟨Rp.zero, none, 0, none, 0, e, rfl, hb, fun W _ => RpIs.zero W, .inr ⟨by omega, h1, h2, ho, rfl, rfl, rfl, rfl, rfl⟩⟩

theorem Agree.of_new {B : Nat} {w W : World} {X : Obj} (h : Keeps (· = w.heap.size) (w.alloc X) W) : Agree B w W :=
  ⟨Nat.le_trans (bal' w X).size h.size, fun k _ hl => by rw [h.block k (Nat.lt_of_lt_of_le hl (bal' w X).size) (by omega), (bal' w X).block k hl]⟩

set_option maxRecDepth 100000 in
set_option maxHeartbeats 3200000 in
theorem rread10_any (qf qa qq qc qo : Int) (a : Option Addr) (n c : Nat) (b : List UInt8) (w : World) (hb : Bs w (.slice a n c) b) :
    Calls Tryz.prog 70 #[.agg #[.int .i64 qf, .int .i64 qa, .int .i64 qq, .int .i64 qc, .int .i64 qo], .slice a n c] w (RdOne w (readB ⟨qf, qa, qq, qc, qo⟩ b)) := by
  have kB : ∀ X Y, Below w.heap.size w ((w.alloc X).alloc Y) := fun X Y => bta (bal' w X) (Nat.le_refl _) Y
  obtain ⟨V, hV⟩ : ∃ V, Rq.ok ⟨qf, qa, qq, qc, qo⟩ = V := ⟨_, rfl⟩
  have HQ : Hid (∀ W, Calls Tryz.prog 32 #[.agg #[.int .i64 qf, .int .i64 qa, .int .i64 qq, .int .i64 qc, .int .i64 qo]] W fun r w' => r = .returned (.bool V) ∧ Below W.heap.size W w') := fun W => by rw [← hV]; exact rqvalid_any qf qa qq qc qo W
  have HH := hid (show ((w.alloc (.cells #[.int .i64 qf, .int .i64 qa, .int .i64 qq, .int .i64 qc, .int .i64 qo] 39)).alloc (.cells #[.int .i64 0, .int .i64 0, .slice none 0 0, .int .i64 0, .int .i64 0, .bool false, .int .i64 0, .slice none 0 0] 48)).heap[w.heap.size]? = some (.cells #[.int .i64 qf, .int .i64 qa, .int .i64 qq, .int .i64 qc, .int .i64 qo] 39) ∧ ((w.alloc (.cells #[.int .i64 qf, .int .i64 qa, .int .i64 qq, .int .i64 qc, .int .i64 qo] 39)).alloc (.cells #[.int .i64 0, .int .i64 0, .slice none 0 0, .int .i64 0, .int .i64 0, .bool false, .int .i64 0, .slice none 0 0] 48)).heap[w.heap.size + 1]? = some (.cells #[.int .i64 0, .int .i64 0, .slice none 0 0, .int .i64 0, .int .i64 0, .bool false, .int .i64 0, .slice none 0 0] 48) from ⟨hpKeep (hpNew w _) (bal' _ _), by have := hpNew (w.alloc (.cells #[.int .i64 qf, .int .i64 qa, .int .i64 qq, .int .i64 qc, .int .i64 qo] 39)) (.cells #[.int .i64 0, .int .i64 0, .slice none 0 0, .int .i64 0, .int .i64 0, .bool false, .int .i64 0, .slice none 0 0] 48); simpa using this⟩)
  have HD : Hid (∀ W, Below w.heap.size w W → Calls Tryz.prog 83 #[.slice a n c] W (RdOne W (Rp.dec b))) := fun W hW => (xdec_any a n c b W (hb.keep hW)).mono fun _ _ h => h.one
  clear hb
  obtain ⟨D, hD⟩ : ∃ D, Rp.dec b = D := ⟨_, rfl⟩
  obtain ⟨O, hO⟩ : ∃ O, readB ⟨qf, qa, qq, qc, qo⟩ b = O := ⟨_, rfl⟩
  rw [hO]
  unfold readB at hO
  rw [hV, hD] at hO
  rw [hD] at HD
  cases V with
  | false =>
    rw [if_neg (by decide)] at hO
    subst hO
    clear hV hD
    go_enter Tryz.func70, Tryz.ntmps70
    go_wp2_with fail
    refine (HQ.out _).mono ?_
    rintro r w1 ⟨rfl, hb1⟩
    have hbw1 := bt (kB _ _) hb1 (Nat.le_refl _)
    have gZ1 := hpKeep HH.out.2 hb1
    clear kB hb1
    go_wp2_with (refine wpList_storeW rfl 48 (.tmp 4) (.tmp 11) rfl (w.heap.size + 1) 0 _ _ (#[.int .i64 0, .int .i64 0, .slice none 0 0, .int .i64 0, .int .i64 0, .bool false, .int .i64 0, .slice none 0 0]) rfl rfl gZ1 (by simp) (by kernel_rfl) (by rfl) ?_; intro w4 g4 hk4 hz4)
    obtain ⟨q0, q1, q2, q3, q4, q5, q6, q7⟩ : w4.cell? ⟨(w.heap.size + 1), 0, none⟩ = some (.int .i64 0) ∧ w4.cell? ⟨(w.heap.size + 1), 1, none⟩ = some (.int .i64 0) ∧ w4.cell? ⟨(w.heap.size + 1), 2, none⟩ = some (.slice none 0 0) ∧ w4.cell? ⟨(w.heap.size + 1), 3, none⟩ = some (.int .i64 0) ∧ w4.cell? ⟨(w.heap.size + 1), 4, none⟩ = some (.int .i64 0) ∧ w4.cell? ⟨(w.heap.size + 1), 5, none⟩ = some (.bool false) ∧ w4.cell? ⟨(w.heap.size + 1), 6, none⟩ = some (.int .i64 0) ∧ w4.cell? ⟨(w.heap.size + 1), 7, none⟩ = some (.slice none 0 0) := ⟨hpCell g4 0, hpCell g4 1, hpCell g4 2, hpCell g4 3, hpCell g4 4, hpCell g4 5, hpCell g4 6, hpCell g4 7⟩
    refine bodyPost_ret (v := .tuple #[.agg #[.int .i64 0, .int .i64 0, .slice none 0 0, .int .i64 0, .int .i64 0, .bool false, .int .i64 0, .slice none 0 0], .int .i64 5]) (by simp [results, Tryz.results70, go_sem, q0, q1, q2, q3, q4, q5, q6, q7]) rfl ?_
    exact RdOne.err rfl 5 (by decide) (by decide) (hbw1.trans (hk4.below hbw1.size (fun k hk e => by omega)))
  | true =>
    rw [if_pos rfl] at hO
    replace hO := hid hO
    clear hD
    go_enter Tryz.func70, Tryz.ntmps70
    go_wp2_with fail
    refine (HQ.out _).mono ?_
    rintro r w1 ⟨rfl, hb1⟩
    have hbw1 := bt (kB _ _) hb1 (Nat.le_refl _)
    have gZ1 := hpKeep HH.out.2 hb1
    have gQ1 := hpKeep HH.out.1 hb1
    clear kB hb1
    go_wp2_with fail
    refine (HD.out _ hbw1).mono ?_
    rintro r w2 ⟨x, da, dc, oa, oc, e, rfl, hb2, hx, hcs⟩
    have hbw2 := bt hbw1 hb2 (Nat.le_refl _)
    have gZ2 := hpKeep gZ1 hb2
    have gQ2 := hpKeep gQ1 hb2
    have hlt2 : w.heap.size + 1 < w2.heap.size := (Array.getElem?_eq_some_iff.1 gZ2).1
    have hlt1 : w.heap.size + 1 < w1.heap.size := (Array.getElem?_eq_some_iff.1 gZ1).1
    replace hx := hid hx
    replace hcs := hid hcs
    clear gZ1 gQ1 hb2 hbw1
    have hne : ¬ (fun k => k = w2.heap.size) (w.heap.size + 1) := fun h => by have h' : w.heap.size + 1 = w2.heap.size := h; omega
    have hne0 : ¬ (fun k => k = w2.heap.size) w.heap.size := fun h => by have h' : w.heap.size = w2.heap.size := h; omega
    have HB3 : Hid (∀ X W, Keeps (· = w2.heap.size) (w2.alloc X) W → Below w.heap.size w W ∧ Agree w1.heap.size w2 W) := fun X W h => ⟨(bta hbw2 (Nat.le_refl _) _).trans (h.below (by have := hbw2.size; simp; omega) (fun k hk e => by omega)), Agree.of_new h⟩
    have gZA : ∀ X, (w2.alloc X).heap[w.heap.size + 1]? = some (.cells #[.int .i64 0, .int .i64 0, .slice none 0 0, .int .i64 0, .int .i64 0, .bool false, .int .i64 0, .slice none 0 0] 48) := fun X => hpKeep gZ2 (bal' _ _)
    have gQA : ∀ X, (w2.alloc X).heap[w.heap.size]? = some (.cells #[.int .i64 qf, .int .i64 qa, .int .i64 qq, .int .i64 qc, .int .i64 qo] 39) := fun X => hpKeep gQ2 (bal' _ _)
    have gX := hpNew w2 (.cells #[.int .i64 0, .int .i64 0, .slice none 0 0, .int .i64 0, .int .i64 0, .bool false, .int .i64 0, .slice none 0 0] 48)
    rcases hcs.out with ⟨rfl, hDs⟩ | ⟨he, he1, he2, hDn, hzz⟩
    · obtain ⟨V2, hV2⟩ : ∃ V2, matchB ⟨qf, qa, qq, qc, qo⟩ x = V2 := ⟨_, rfl⟩
      have hO' := hO.out
      rw [hDs] at hO'
      simp only at hO'
      rw [hV2] at hO'
      clear hO hDs hcs
      by_cases hf : x.fn = qf
      · have hf' : (x.fn != qf) = false := by rw [bne_eq_false_iff_eq]; exact hf
        have HM : Hid (∀ X W, Keeps (· = w2.heap.size) (w2.alloc X) W → Calls Tryz.prog 84 #[.agg #[.int .i64 qf, .int .i64 qa, .int .i64 qq, .int .i64 qc, .int .i64 qo], .agg #[.int .i64 x.fn, .int .i64 x.exc, .slice da x.data.length dc, .int .i64 x.code, .int .i64 x.level, .bool x.more, .int .i64 x.next, .slice oa x.objs.length oc]] W fun r w' => r = .returned (.bool V2) ∧ Below W.heap.size W w') := fun X W h => by
          have hr := hx.out W (Agree.of_new h)
          rw [← hV2]
          exact rmatch_any W qf qa qq qc qo x.fn x.exc da _ dc x.code x.level x.more x.next oa _ oc x.data x.objs hr.d hr.o
        have hf0 := hid hf
        clear hf hV2
        have HS : Hid (O = if V2 = true then some x else none) := by
          show _ = _
          rw [← hO']
          cases V2 <;> simp [hf0.out]
        clear hO'
        go_wp2_with (first | (refine wpList_storeW rfl 48 (.tmp 6) (.tmp 15) rfl w2.heap.size 0 _ _ (#[.int .i64 x.fn, .int .i64 x.exc, .slice da x.data.length dc, .int .i64 x.code, .int .i64 x.level, .bool x.more, .int .i64 x.next, .slice oa x.objs.length oc]) rfl rfl gX (by simp) (by kernel_rfl) (by rfl) ?_; intro w3 g3 hk3 hz3; have gZ3 := hpKeeps (gZA _) hk3 hne; have gQ3 := hpKeeps (gQA _) hk3 hne0; have hb3 := HB3.out _ _ hk3; have c0 := hpCell g3 0; have c1 := hpCell g3 1; have c2 := hpCell g3 2; have c3 := hpCell g3 3; have c4 := hpCell g3 4; have c5 := hpCell g3 5; have c6 := hpCell g3 6; have c7 := hpCell g3 7; have z0 := hpCell gQ3 0; have z1 := hpCell gQ3 1; have z2 := hpCell gQ3 2; have z3 := hpCell gQ3 3; have z4 := hpCell gQ3 4) | fail)
        refine (HM.out _ _ hk3).mono ?_
        rintro r w3b ⟨rfl, hb3b⟩
        have gZ4 := hpKeep gZ3 hb3b
        have gX4 := hpKeep g3 hb3b
        have hb4 := bt hb3.1 hb3b (Nat.le_refl _)
        have HA4 : Hid (Agree w1.heap.size w2 w3b) := hb3.2.trans (Agree.of_below hb3b)
        clear c0 c1 c2 c3 c4 c5 c6 c7 z0 z1 z2 z3 z4 gZ3 gQ3 hb3 hb3b HM
        cases V2 with
        | false =>
          have HN : Hid (O = none) := by show _ = _; rw [HS.out]; rfl
          clear HS
          go_wp2_with (refine wpList_storeW rfl 48 (.tmp 4) (.tmp 31) rfl (w.heap.size + 1) 0 _ _ (#[.int .i64 0, .int .i64 0, .slice none 0 0, .int .i64 0, .int .i64 0, .bool false, .int .i64 0, .slice none 0 0]) rfl rfl gZ4 (by simp) (by kernel_rfl) (by rfl) ?_; intro w4 g4 hk4 hz4)
          obtain ⟨q0, q1, q2, q3, q4, q5, q6, q7⟩ : w4.cell? ⟨(w.heap.size + 1), 0, none⟩ = some (.int .i64 0) ∧ w4.cell? ⟨(w.heap.size + 1), 1, none⟩ = some (.int .i64 0) ∧ w4.cell? ⟨(w.heap.size + 1), 2, none⟩ = some (.slice none 0 0) ∧ w4.cell? ⟨(w.heap.size + 1), 3, none⟩ = some (.int .i64 0) ∧ w4.cell? ⟨(w.heap.size + 1), 4, none⟩ = some (.int .i64 0) ∧ w4.cell? ⟨(w.heap.size + 1), 5, none⟩ = some (.bool false) ∧ w4.cell? ⟨(w.heap.size + 1), 6, none⟩ = some (.int .i64 0) ∧ w4.cell? ⟨(w.heap.size + 1), 7, none⟩ = some (.slice none 0 0) := ⟨hpCell g4 0, hpCell g4 1, hpCell g4 2, hpCell g4 3, hpCell g4 4, hpCell g4 5, hpCell g4 6, hpCell g4 7⟩
          refine bodyPost_ret (v := .tuple #[.agg #[.int .i64 0, .int .i64 0, .slice none 0 0, .int .i64 0, .int .i64 0, .bool false, .int .i64 0, .slice none 0 0], .int .i64 17]) (by simp [results, Tryz.results70, go_sem, q0, q1, q2, q3, q4, q5, q6, q7]) rfl ?_
          exact RdOne.err HN.out 17 (by decide) (by decide) (hb4.trans (hk4.below hb4.size (fun k hk e => by omega)))
        | true =>
          have HS2 : Hid (O = some x) := by show _ = _; rw [HS.out]; rfl
          clear HS
          obtain ⟨e0, e1, e2, e3, e4, e5, e6, e7⟩ : w3b.cell? ⟨w2.heap.size, 0, none⟩ = some (.int .i64 x.fn) ∧ w3b.cell? ⟨w2.heap.size, 1, none⟩ = some (.int .i64 x.exc) ∧ w3b.cell? ⟨w2.heap.size, 2, none⟩ = some (.slice da x.data.length dc) ∧ w3b.cell? ⟨w2.heap.size, 3, none⟩ = some (.int .i64 x.code) ∧ w3b.cell? ⟨w2.heap.size, 4, none⟩ = some (.int .i64 x.level) ∧ w3b.cell? ⟨w2.heap.size, 5, none⟩ = some (.bool x.more) ∧ w3b.cell? ⟨w2.heap.size, 6, none⟩ = some (.int .i64 x.next) ∧ w3b.cell? ⟨w2.heap.size, 7, none⟩ = some (.slice oa x.objs.length oc) := ⟨hpCell gX4 0, hpCell gX4 1, hpCell gX4 2, hpCell gX4 3, hpCell gX4 4, hpCell gX4 5, hpCell gX4 6, hpCell gX4 7⟩
          go_wp2_with (refine wpList_storeW rfl 48 (.tmp 4) (.tmp 32) rfl (w.heap.size + 1) 0 _ _ (#[.int .i64 x.fn, .int .i64 x.exc, .slice da x.data.length dc, .int .i64 x.code, .int .i64 x.level, .bool x.more, .int .i64 x.next, .slice oa x.objs.length oc]) rfl rfl gZ4 (by simp) (by kernel_rfl) (by rfl) ?_; intro w4 g4 hk4 hz4)
          clear e0 e1 e2 e3 e4 e5 e6 e7
          obtain ⟨q0, q1, q2, q3, q4, q5, q6, q7⟩ : w4.cell? ⟨(w.heap.size + 1), 0, none⟩ = some (.int .i64 x.fn) ∧ w4.cell? ⟨(w.heap.size + 1), 1, none⟩ = some (.int .i64 x.exc) ∧ w4.cell? ⟨(w.heap.size + 1), 2, none⟩ = some (.slice da x.data.length dc) ∧ w4.cell? ⟨(w.heap.size + 1), 3, none⟩ = some (.int .i64 x.code) ∧ w4.cell? ⟨(w.heap.size + 1), 4, none⟩ = some (.int .i64 x.level) ∧ w4.cell? ⟨(w.heap.size + 1), 5, none⟩ = some (.bool x.more) ∧ w4.cell? ⟨(w.heap.size + 1), 6, none⟩ = some (.int .i64 x.next) ∧ w4.cell? ⟨(w.heap.size + 1), 7, none⟩ = some (.slice oa x.objs.length oc) := ⟨hpCell g4 0, hpCell g4 1, hpCell g4 2, hpCell g4 3, hpCell g4 4, hpCell g4 5, hpCell g4 6, hpCell g4 7⟩
          refine bodyPost_ret (v := .tuple #[.agg #[.int .i64 x.fn, .int .i64 x.exc, .slice da x.data.length dc, .int .i64 x.code, .int .i64 x.level, .bool x.more, .int .i64 x.next, .slice oa x.objs.length oc], .int .i64 0]) (by simp [results, Tryz.results70, go_sem, q0, q1, q2, q3, q4, q5, q6, q7]) rfl ?_
          refine ⟨x, da, dc, oa, oc, 0, rfl, hb4.trans (hk4.below hb4.size (fun k hk e => by omega)), fun W hW => ?_, .inl ⟨rfl, HS2.out⟩⟩
          exact hx.out W (HA4.out.trans ((Agree.of_keeps hk4 (fun k e => by omega)).trans (hW.mono (by omega))))
      · have hf' : (x.fn != qf) = true := by rw [bne_iff_ne]; exact hf
        have HN : Hid (O = none) := by
          show _ = _
          rw [← hO', if_neg (fun h => hf h.1)]
        clear hf hO' hV2 V2
        go_wp2_with (first | (refine wpList_storeW rfl 48 (.tmp 6) (.tmp 15) rfl w2.heap.size 0 _ _ (#[.int .i64 x.fn, .int .i64 x.exc, .slice da x.data.length dc, .int .i64 x.code, .int .i64 x.level, .bool x.more, .int .i64 x.next, .slice oa x.objs.length oc]) rfl rfl gX (by simp) (by kernel_rfl) (by rfl) ?_; intro w3 g3 hk3 hz3; have gZ3 := hpKeeps (gZA _) hk3 hne; have hb4 := (HB3.out _ _ hk3).1; have c0 := hpCell g3 0; have z0 := hpCell (hpKeeps (gQA _) hk3 hne0) 0) | (refine wpList_storeW rfl 48 (.tmp 4) (.tmp 26) rfl (w.heap.size + 1) 0 _ _ (#[.int .i64 0, .int .i64 0, .slice none 0 0, .int .i64 0, .int .i64 0, .bool false, .int .i64 0, .slice none 0 0]) rfl rfl gZ3 (by simp) (by kernel_rfl) (by rfl) ?_; intro w4 g4 hk4 hz4))
        obtain ⟨q0, q1, q2, q3, q4, q5, q6, q7⟩ : w4.cell? ⟨(w.heap.size + 1), 0, none⟩ = some (.int .i64 0) ∧ w4.cell? ⟨(w.heap.size + 1), 1, none⟩ = some (.int .i64 0) ∧ w4.cell? ⟨(w.heap.size + 1), 2, none⟩ = some (.slice none 0 0) ∧ w4.cell? ⟨(w.heap.size + 1), 3, none⟩ = some (.int .i64 0) ∧ w4.cell? ⟨(w.heap.size + 1), 4, none⟩ = some (.int .i64 0) ∧ w4.cell? ⟨(w.heap.size + 1), 5, none⟩ = some (.bool false) ∧ w4.cell? ⟨(w.heap.size + 1), 6, none⟩ = some (.int .i64 0) ∧ w4.cell? ⟨(w.heap.size + 1), 7, none⟩ = some (.slice none 0 0) := ⟨hpCell g4 0, hpCell g4 1, hpCell g4 2, hpCell g4 3, hpCell g4 4, hpCell g4 5, hpCell g4 6, hpCell g4 7⟩
        refine bodyPost_ret (v := .tuple #[.agg #[.int .i64 0, .int .i64 0, .slice none 0 0, .int .i64 0, .int .i64 0, .bool false, .int .i64 0, .slice none 0 0], .int .i64 16]) (by simp [results, Tryz.results70, go_sem, q0, q1, q2, q3, q4, q5, q6, q7]) rfl ?_
        exact RdOne.err HN.out 16 (by decide) (by decide) (hb4.trans (hk4.below hb4.size (fun k hk e => by omega)))
    · have he' : (e != 0) = true := by rw [bne_iff_ne]; exact he
      have HN : Hid (O = none) := by show _ = _; rw [← hO.out, hDn]
      clear he hDn hcs hzz
      go_wp2_with (first | (refine wpList_storeW rfl 48 (.tmp 6) (.tmp 15) rfl w2.heap.size 0 _ _ (#[.int .i64 x.fn, .int .i64 x.exc, .slice da x.data.length dc, .int .i64 x.code, .int .i64 x.level, .bool x.more, .int .i64 x.next, .slice oa x.objs.length oc]) rfl rfl gX (by simp) (by kernel_rfl) (by rfl) ?_; intro w3 g3 hk3 hz3; have gZ3 := hpKeeps (gZA _) hk3 hne; have hb3 := HB3.out _ _ hk3) | (refine wpList_storeW rfl 48 (.tmp 4) (.tmp 19) rfl (w.heap.size + 1) 0 _ _ (#[.int .i64 0, .int .i64 0, .slice none 0 0, .int .i64 0, .int .i64 0, .bool false, .int .i64 0, .slice none 0 0]) rfl rfl gZ3 (by simp) (by kernel_rfl) (by rfl) ?_; intro w4 g4 hk4 hz4))
      obtain ⟨q0, q1, q2, q3, q4, q5, q6, q7⟩ : w4.cell? ⟨(w.heap.size + 1), 0, none⟩ = some (.int .i64 0) ∧ w4.cell? ⟨(w.heap.size + 1), 1, none⟩ = some (.int .i64 0) ∧ w4.cell? ⟨(w.heap.size + 1), 2, none⟩ = some (.slice none 0 0) ∧ w4.cell? ⟨(w.heap.size + 1), 3, none⟩ = some (.int .i64 0) ∧ w4.cell? ⟨(w.heap.size + 1), 4, none⟩ = some (.int .i64 0) ∧ w4.cell? ⟨(w.heap.size + 1), 5, none⟩ = some (.bool false) ∧ w4.cell? ⟨(w.heap.size + 1), 6, none⟩ = some (.int .i64 0) ∧ w4.cell? ⟨(w.heap.size + 1), 7, none⟩ = some (.slice none 0 0) := ⟨hpCell g4 0, hpCell g4 1, hpCell g4 2, hpCell g4 3, hpCell g4 4, hpCell g4 5, hpCell g4 6, hpCell g4 7⟩
      refine bodyPost_ret (v := .tuple #[.agg #[.int .i64 0, .int .i64 0, .slice none 0 0, .int .i64 0, .int .i64 0, .bool false, .int .i64 0, .slice none 0 0], .int .i64 e]) (by simp [results, Tryz.results70, go_sem, q0, q1, q2, q3, q4, q5, q6, q7]) rfl ?_
      exact RdOne.err HN.out e he1 he2 (hb3.1.trans (hk4.below hb3.1.size (fun k hk e => by omega)))

/-- What a judge says of a reply that was read. -/
def judgeR : Option Rp → Oc
  | some r => if r.exc = 6 then ⟨5, Rp.zero⟩ else if r.exc = 0 then ⟨1, r⟩ else ⟨2, r⟩
  | none => ⟨4, Rp.zero⟩
/-- What a judge says of a frame. -/
def judgeB (chk : List UInt8 → Bool) (unit : Int) (q : Rq) (flags : Int) (l : List UInt8) : Oc :=
  match splitB chk l with
  | some (u, p) => if flags = 0 ∧ u = unit then judgeR (readB q p) else ⟨4, Rp.zero⟩
  | none => ⟨4, Rp.zero⟩

end Go.Proofs.YtpmidoneoonlcaaGreat
