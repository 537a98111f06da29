/-
  Several texts of this claim in one file.
-/
import Derived.Test.YtliblgmpclefgaaGreatMse
import Derived.Test.YtliblgmpclefgaaGreatMvl
import Derived.Deep.MidRow
import Derived.Test.YtliblgmpclefgaaGreatMsd
import Derived.Test.YtliblgmpclefgaaGreatMbh
import Derived.Test.YtliblgmpclefgaaGreatPbr
import Derived.Test.YtliblgmpclefgaaGreatPq
import Derived.Test.YtliblgmpclefgaaGreatRpa
import Derived.Test.YtliblgmpclefgaaGreatInts
import Derived.Deep.CutBlock
/-
The reference's slave: its answer to a valid request (modscanref12.Answer), and the outcome made of it (modscanlaw26.answer).
-/
namespace Go.Proofs.YtliblgmpclefgaaGreat
open Go.RowKit

theorem infoSl : (Tryz.prog.info? 31).map (·.size) = some 19 := by kernel_rfl

/-- A whole structure stored into a block that is known whole, as a step of a statement whose order is open. -/
theorem step_storeW {P : Program} {w : World} {ops : Array Oper} {op : Oper} {a : Act} {K : Act → World → Prop} {Q : Exit → Act → World → Prop} {E : Prop} (hgd : op.guard = none) (ty : TypeId) (x y : Operand) (ho : op.op = .store ty x y)
    (p o : Nat) (old : Array Value) (t : TypeId) (cells : Array Value) (hx : a.eval x = .pointer (some ⟨p, o, none⟩)) (hy : a.eval y = .agg cells)
    (hb : w.heap[p]? = some (.cells old t (0, 0))) (hsz : o + cells.size ≤ old.size) (hi : (P.info? ty).map (·.size) = some cells.size) (h1 : cells.toList.all (·.oneCell') = true)
    (h : ∀ w', w'.heap[p]? = some (.cells (old.toList.take o ++ cells.toList ++ old.toList.drop (o + cells.toList.length)).toArray t (0, 0)) → Keeps (· = p) w w' → w'.heap.size = w.heap.size → K (a.put op.dst undef) w') :
    if Region.wanted op (yielded ops a.tmps) = true then Oper.wp P op a w K Q else E := by
  rw [if_pos (by simp [Region.wanted, hgd])]
  refine wp_store_mid ty x y ho p o cells hx hy (fun j hj => ?_) hi (by rw [← Array.all_toList]; exact h1) ?_
  · refine ⟨?_, hpFree hb _⟩
    rw [hpCell hb]
    simp
    omega
  · obtain ⟨k1, k2⟩ := keepsCells p cells.toList o w
    exact h _ (hpSetCells p t (0, 0) cells.toList o w old hb (by simpa using hsz)) k1 k2

/-- What an answer's verdict is. -/
def vOf (rp : Rp) : Int := if rp.exc = 0 then 1 else 2
structure AnsR (s : Sl) (q : Rq) (rp : Rp) : Prop where
  ans : Ans s q ⟨vOf rp, rp⟩
  fit : Oc.fit ⟨vOf rp, rp⟩
def AnsPost (w : World) (s : Sl) (q : Rq) (r : Ending) (w' : World) : Prop :=
  ∃ rp da dc oa oc, r = .returned (.agg #[.int .i64 rp.fn, .int .i64 rp.exc, .slice da rp.data.length dc, .int .i64 rp.code, .int .i64 rp.level, .bool rp.more, .int .i64 rp.next, .slice oa rp.objs.length oc]) ∧ AnsR s q rp ∧ (∀ W, Agree w.heap.size w' W → RpIs W rp da dc oa oc) ∧ Below w.heap.size w w'

theorem AnsR.tab {s : Sl} {q : Rq} {k : Nat} (hk : q.fn = (k : Nat) + 1) (h4 : k < 4) {e : Int} (he : TabE (s.ts k) q e) {D : List UInt8} (hD : D.length ≤ 250) : AnsR s q ⟨q.fn, e, D, 0, 0, false, 0, []⟩ := by
  refine ⟨⟨fun j hj e2 => ?_, fun e => by omega, fun e => by omega⟩, ⟨Nat.zero_le _, (fun y hy => by cases hy), by show D.length ≤ 300; omega, by show (0 : Int) ≤ _; decide⟩⟩
  obtain rfl : j = k := by omega
  unfold vOf
  refine ⟨fun h => ?_, fun h1 h2 => ?_, fun h1 h2 h3 => ?_, fun h1 h2 h3 => ?_⟩
  · have := he.no h
    subst this
    exact ⟨rfl, rfl⟩
  · have := he.big h1 h2
    subst this
    exact ⟨rfl, rfl⟩
  · have := he.yes h1 h2 h3
    subst this
    rfl
  · have := he.out h1 h2 h3
    subst this
    exact ⟨rfl, rfl⟩
theorem AnsPost.tab {w w5 w' : World} {s : Sl} {q : Rq} {k X : Nat} (hk : q.fn = (k : Nat) + 1) (h4 : k < 4) {e : Int} (he : TabE (s.ts k) q e) {D : List UInt8} (hD : D.length ≤ 250) {da : Option Addr} {dc : Nat} (hown : w5.ownsRow X 5 1 (.slice da D.length dc) D.length (u8s D)) {zb : Nat} (hz : zb < X) (hk8 : Keeps (· = zb) w5 w') (hw : w.heap.size ≤ X) (hb : Below w.heap.size w w') :
    AnsPost w s q (.returned (.agg #[.int .i64 q.fn, .int .i64 e, .slice da D.length dc, .int .i64 0, .int .i64 0, .bool false, .int .i64 0, .slice none 0 0])) w' := by
  refine ⟨⟨q.fn, e, D, 0, 0, false, 0, []⟩, da, dc, none, 0, rfl, AnsR.tab hk h4 he hD, fun W hW => ⟨?_, Obs.nil W, (by show (0 : Int) ≤ _; decide), (by show _ ≤ (0 : Int); decide)⟩, hb⟩
  exact Bs.own (own_agree (own_keeps hown hk8 (fun j hj e => by have := (hown.lt j hj).1; omega)) hw hW)
theorem fromO_split {ob : Int} {l done rest : List Ob} (h : l = done ++ rest) (hd : ∀ x ∈ done, x.id < ob) (hr : ∀ x ∈ rest, ob ≤ x.id) : fromO ob l = rest := by
  unfold fromO
  rw [h, List.filter_append, List.filter_eq_nil_iff.2 (fun x hx => by have := hd x hx; simp; omega), List.filter_eq_self.2 (fun x hx => by simp [hr x hx])]
  rfl
theorem rises_ordF : ∀ (l : List Ob) (a : Int), rises a l = true → ordF a l = true ∧ ∀ y ∈ l, y.id ≤ 255
  | [], a, h => ⟨rfl, fun y hy => by cases hy⟩
  | x :: l, a, h => by
    simp only [rises, Bool.and_eq_true, decide_eq_true_eq] at h
    obtain ⟨h1, h2⟩ := rises_ordF l x.id h.2
    refine ⟨by simp only [ordF, Bool.and_eq_true, decide_eq_true_eq]; exact ⟨h.1.1, h1⟩, fun y hy => ?_⟩
    rcases List.mem_cons.1 hy with e | e
    · subst e; exact h.1.2
    · exact h2 y e
theorem ordF_head {l : List Ob} {a b : Int} (h : ordF a l = true) (hb : ∀ y, l.head? = some y → b ≤ y.id) : ∀ y ∈ l, b ≤ y.id := by
  cases l with
  | nil => intro y hy; cases hy
  | cons x l =>
    simp only [ordF, Bool.and_eq_true, decide_eq_true_eq] at h
    have h0 := hb x rfl
    intro y hy
    rcases List.mem_cons.1 hy with e | e
    · subst e; exact h0
    · have := (ordF_lt l x.id h.2 y e).1
      omega
theorem Sl.val_ok {s : Sl} (h : s.val) : s.ok := by
  have hl := h.lv
  refine ⟨fun k hk hs => ?_, hl.1, fun h0 => ?_, fun hs => h.sv.1 hs⟩
  · have := (h.tb k hk).2 hs
    exact ⟨this.2.2.1, this.2.2.2⟩
  · obtain ⟨h1, h2⟩ := h.on h0
    obtain ⟨h3, h4⟩ := rises_ordF _ _ (h.ri h0)
    exact ⟨(by rintro e; rw [e] at h2; simp at h2), h1, h3, h4⟩
theorem AnsR.dev {s : Sl} (hv : s.val) {q : Rq} (hq : q.fn = 43) (hl : 0 < s.lv) {n : Nat} {nx : Int} (h1 : 1 ≤ n) (h2 : n ≤ (fromO q.obj s.objs).length) (h3 : ∀ x, (fromO q.obj s.objs)[n]? = some x → nx = x.id) (h4 : (fromO q.obj s.objs).length ≤ n → nx = 0) :
    AnsR s q ⟨43, 0, [], 3, s.lv, decide (n < (fromO q.obj s.objs).length), nx, (fromO q.obj s.objs).take n⟩ := by
  have hon := hv.on hl
  obtain ⟨o1, o2⟩ := rises_ordF _ _ (hv.ri hl)
  have hsub : ∀ y ∈ fromO q.obj s.objs, y ∈ s.objs := fun y hy => (List.mem_filter.1 hy).1
  have hlen : (fromO q.obj s.objs).length ≤ s.objs.length := List.length_filter_le _ _
  refine ⟨⟨fun j hj e2 => by omega, fun _ => ⟨fun e => by omega, fun _ done rest e1 e2 e3 e4 => ?_⟩, fun e => by omega⟩, ⟨?_, fun y hy => ?_, Nat.zero_le _, ?_⟩⟩
  · have hro : ordF (lastId (-1) done) rest = true := by rw [e1] at o1; exact (ordF_split _ _ _ o1).2
    have hF : fromO q.obj s.objs = rest := fromO_split e1 e3 (ordF_head hro e4)
    rw [hF] at h2 h3 h4 ⊢
    exact ⟨n, h1, h2, rfl, rfl, rfl, rfl, rfl, h3⟩
  · show ((fromO q.obj s.objs).take n).length ≤ 40
    rw [List.length_take]
    omega
  · have hy2 := hsub y (List.mem_of_mem_take hy)
    obtain ⟨i, hi⟩ := List.getElem?_of_mem hy2
    have := hv.vl hl i y hi
    omega
  · show nx ≤ 9223372036854775807
    by_cases hn : n < (fromO q.obj s.objs).length
    · obtain ⟨x, hx⟩ := gs (l := fromO q.obj s.objs) rfl hn
      have := h3 x hx
      have := o2 x (hsub x (List.mem_of_getElem? hx))
      omega
    · have := h4 (by omega)
      omega

theorem AnsR.srv {s : Sl} (hv : s.val) {q : Rq} (hq : q.fn = 17) (hs : s.hs = true) : AnsR s q ⟨17, 0, s.sd, 0, 0, false, 0, []⟩ :=
  ⟨⟨fun j hj e => by omega, fun e => by omega, fun _ => ⟨fun e => (by rw [hs] at e; cases e), fun _ => ⟨rfl, rfl, rfl⟩⟩⟩, ⟨Nat.zero_le _, (fun y hy => by cases hy), by have := hv.sl; show s.sd.length ≤ 300; omega, by show (0 : Int) ≤ _; decide⟩⟩
theorem AnsR.nsrv {s : Sl} {q : Rq} (hq : q.fn = 17) (hs : s.hs = false) : AnsR s q ⟨17, 1, [], 0, 0, false, 0, []⟩ :=
  ⟨⟨fun j hj e => by omega, fun e => by omega, fun _ => ⟨fun _ => ⟨rfl, rfl⟩, fun e => (by rw [hs] at e; cases e)⟩⟩, ⟨Nat.zero_le _, (fun y hy => by cases hy), by show 0 ≤ 300; decide, by show (0 : Int) ≤ _; decide⟩⟩
theorem AnsR.ndev {s : Sl} {q : Rq} (hq : q.fn = 43) (hl : s.lv = 0) {D : List UInt8} (hD : D.length ≤ 250) : AnsR s q ⟨43, 1, D, 0, 0, false, 0, []⟩ :=
  ⟨⟨fun j hj e => by omega, fun _ => ⟨fun _ => ⟨rfl, rfl⟩, fun e => by omega⟩, fun e => by omega⟩, ⟨Nat.zero_le _, (fun y hy => by cases hy), by show D.length ≤ 300; omega, by show (0 : Int) ≤ _; decide⟩⟩
theorem AnsPost.row {w w5 w' : World} {s : Sl} {q : Rq} {X : Nat} {fn e : Int} {D : List UInt8} (hA : AnsR s q ⟨fn, e, D, 0, 0, false, 0, []⟩) {da : Option Addr} {dc : Nat} (hown : w5.ownsRow X 5 1 (.slice da D.length dc) D.length (u8s D)) {zb : Nat} (hz : zb < X) (hk8 : Keeps (· = zb) w5 w') (hw : w.heap.size ≤ X) (hb : Below w.heap.size w w') :
    AnsPost w s q (.returned (.agg #[.int .i64 fn, .int .i64 e, .slice da D.length dc, .int .i64 0, .int .i64 0, .bool false, .int .i64 0, .slice none 0 0])) w' := by
  refine ⟨⟨fn, e, D, 0, 0, false, 0, []⟩, da, dc, none, 0, rfl, hA, fun W hW => ⟨?_, Obs.nil W, (by show (0 : Int) ≤ _; decide), (by show _ ≤ (0 : Int); decide)⟩, hb⟩
  exact Bs.own (own_agree (own_keeps hown hk8 (fun j hj e => by have := (hown.lt j hj).1; omega)) hw hW)
theorem AnsPost.dev {w w3 w5 w' : World} {s : Sl} (hv : s.val) {q : Rq} (hq : q.fn = 43) (hl : 0 < s.lv) {n : Nat} {nx : Int} (h1 : 1 ≤ n) (h2 : n ≤ (fromO q.obj s.objs).length) (h3 : ∀ x, (fromO q.obj s.objs)[n]? = some x → nx = x.id) (h4 : (fromO q.obj s.objs).length ≤ n → nx = 0)
    {oa : Option Addr} {oc : Nat} (hob : ∀ W, Agree w3.heap.size w5 W → Obs W (.slice oa n oc) ((fromO q.obj s.objs).take n)) {zb : Nat} (hz : zb < w3.heap.size) (hk8 : Keeps (· = zb) w5 w') (hw : w.heap.size ≤ w3.heap.size) (hb : Below w.heap.size w w') :
    AnsPost w s q (.returned (.agg (DvqC 0 3 s.lv (decide (n < (fromO q.obj s.objs).length)) nx (.slice oa n oc)))) w' := by
  have hn : ((fromO q.obj s.objs).take n).length = n := by rw [List.length_take]; omega
  have hlv := hv.lv
  refine ⟨⟨43, 0, [], 3, s.lv, decide (n < (fromO q.obj s.objs).length), nx, (fromO q.obj s.objs).take n⟩, none, 0, oa, oc, by unfold DvqC; rw [hn]; rfl, AnsR.dev hv hq hl h1 h2 h3 h4, fun W hW => ⟨Bs.nil _, ?_, (by show s.lv ≤ _; omega), (by show _ ≤ s.lv; omega)⟩, hb⟩
  show Obs W (.slice oa ((fromO q.obj s.objs).take n).length oc) _
  rw [hn]
  exact hob W ((Agree.of_keeps hk8 (fun k e => by omega)).trans (hW.mono hw))

set_option maxRecDepth 100000 in
set_option maxHeartbeats 12800000 in
theorem ranswer_ok (s : Sl) (rv : Nat → Value) (ov sv : Value) (q : Rq) (x : Int) (x0 : 0 ≤ x) (x1 : x ≤ 65535) (w : World) (hR : SlR w s rv ov sv) (hv : s.val) (hq : q.ok = true) (hd : q.fn = 43 → q.code = 3 ∧ (0 < s.lv → fromO q.obj s.objs ≠ [])) :
    Calls Tryz.prog 32 #[.agg (SlC s rv ov sv), .agg #[.int .i64 q.fn, .int .i64 q.addr, .int .i64 q.qty, .int .i64 q.code, .int .i64 q.obj], .int .i64 x] w (AnsPost w s q) := by
  obtain ⟨C, hC⟩ : ∃ C, SlC s rv ov sv = C := ⟨_, rfl⟩
  have hcs : C.size = 19 := by rw [← hC]; rfl
  have hi19 : (Tryz.prog.info? 31).map (·.size) = some C.size := by rw [hcs]; exact infoSl
  rw [hC]
  obtain ⟨W1, hW1⟩ : ∃ W, ((w.alloc (.cells C 31)).alloc (.cells #[.int .i64 q.fn, .int .i64 q.addr, .int .i64 q.qty, .int .i64 q.code, .int .i64 q.obj] 44)).alloc (.cells #[.int .i64 0, .int .i64 0, .slice none 0 0, .int .i64 0, .int .i64 0, .bool false, .int .i64 0, .slice none 0 0] 52) = W := ⟨_, rfl⟩
  have hz1 : W1.heap.size = w.heap.size + 3 := by rw [← hW1]; simp
  have hb1 : Below w.heap.size w W1 := by rw [← hW1]; exact bta (bta (bal' w _) (Nat.le_refl _) _) (Nat.le_refl _) _
  have pS : W1.heap[w.heap.size]? = some (.cells C 31) := by rw [← hW1]; exact hpKeep (hpKeep (hpNew w _) (bal' _ _)) (bal' _ _)
  have pQ : W1.heap[w.heap.size + 1]? = some (.cells #[.int .i64 q.fn, .int .i64 q.addr, .int .i64 q.qty, .int .i64 q.code, .int .i64 q.obj] 44) := by rw [← hW1]; refine hpKeep ?_ (bal' _ _); have h := hpNew (w.alloc (.cells C 31)) (.cells #[.int .i64 q.fn, .int .i64 q.addr, .int .i64 q.qty, .int .i64 q.code, .int .i64 q.obj] 44); rw [World.size_alloc] at h; exact h
  have pZ : W1.heap[w.heap.size + 2]? = some (.cells #[.int .i64 0, .int .i64 0, .slice none 0 0, .int .i64 0, .int .i64 0, .bool false, .int .i64 0, .slice none 0 0] 52) := by rw [← hW1]; have h := hpNew ((w.alloc (.cells C 31)).alloc (.cells #[.int .i64 q.fn, .int .i64 q.addr, .int .i64 q.qty, .int .i64 q.code, .int .i64 q.obj] 44)) (.cells #[.int .i64 0, .int .i64 0, .slice none 0 0, .int .i64 0, .int .i64 0, .bool false, .int .i64 0, .slice none 0 0] 52); rw [World.size_alloc, World.size_alloc] at h; exact h
  obtain ⟨zb, hzb⟩ : ∃ n, w.heap.size + 2 = n := ⟨_, rfl⟩
  have E2 : Hid (w.heap.size + 1 + 1 = zb) := hzb
  have EZ := hid hzb
  rw [hzb] at pZ
  have kk0 : Keeps (· = zb) W1 W1 := Keeps.refl _ _
  have hnS : ¬ w.heap.size = zb := by omega
  have hnQ : ¬ w.heap.size + 1 = zb := by omega
  have q0 : ∀ X, Keeps (· = zb) W1 X → X.cell? ⟨w.heap.size + 1, 0, none⟩ = some (.int .i64 q.fn) := fun X h => hpCell (hpKeeps pQ h hnQ) 0
  have q1 : ∀ X, Keeps (· = zb) W1 X → X.cell? ⟨w.heap.size + 1, 1, none⟩ = some (.int .i64 q.addr) := fun X h => hpCell (hpKeeps pQ h hnQ) 1
  have q2 : ∀ X, Keeps (· = zb) W1 X → X.cell? ⟨w.heap.size + 1, 2, none⟩ = some (.int .i64 q.qty) := fun X h => hpCell (hpKeeps pQ h hnQ) 2
  have q3 : ∀ X, Keeps (· = zb) W1 X → X.cell? ⟨w.heap.size + 1, 3, none⟩ = some (.int .i64 q.code) := fun X h => hpCell (hpKeeps pQ h hnQ) 3
  have q4 : ∀ X, Keeps (· = zb) W1 X → X.cell? ⟨w.heap.size + 1, 4, none⟩ = some (.int .i64 q.obj) := fun X h => hpCell (hpKeeps pQ h hnQ) 4
  have HVS : Hid (Calls Tryz.prog 5 #[.agg C] W1 (BoolPost W1 true)) := by
    have h := rslave_any s rv ov sv W1 (hR.keep hb1)
    rw [hC] at h
    exact h.mono fun _ _ ⟨V, h1, h2, h3⟩ => ⟨by rw [h1, h2.out.2 hv], h3⟩
  have HVQ : Hid (∀ X, Calls Tryz.prog 49 #[.agg #[.int .i64 q.fn, .int .i64 q.addr, .int .i64 q.qty, .int .i64 q.code, .int .i64 q.obj]] X (BoolPost X true)) := fun X => by
    have h := rqvalid_any q.fn q.addr q.qty q.code q.obj X
    have e : Rq.ok ⟨q.fn, q.addr, q.qty, q.code, q.obj⟩ = true := hq
    rw [e] at h
    exact h
  have PS := hid pS
  have PQ := hid pQ
  have PZ := hid pZ
  have HW1 := hid hW1
  have HB1 := hid hb1
  have HZ1 := hid hz1
  have HC := hid hC
  have HR := hid hR
  have HV := hid hv
  have HQ := hid hq
  have u0 : ¬ x < 0 := by omega
  have u1 : ¬ 65535 < x := by omega
  have HX : Hid (0 ≤ x ∧ x ≤ 65535) := ⟨x0, x1⟩
  clear hW1 hb1 hz1 hC pS pQ pZ hR hv x0 x1 hzb
  have hfn : (1 ≤ q.fn ∧ q.fn ≤ 4) ∨ q.fn = 17 ∨ q.fn = 43 := by
    unfold Rq.ok at hq
    split at hq
    · exact .inl (by assumption)
    · split at hq
      · exact .inr (.inl (by assumption))
      · split at hq
        · exact .inr (.inr (by assumption))
        · cases hq
  clear hq
  go_enter Tryz.func32, Tryz.ntmps32
  go_upto_region 1 with (fail)
  rw [HW1.out, E2.out]
  go_upto_region 3 with (first
    | (refine wpList_load_row rfl 31 (.tmp 3) rfl w.heap.size rfl 31 C (0, 0) _ PS.out Tryz.underlying31 rfl hi19 ?_)
    | (go_at_call 5; (with_reducible refine HVS.out.mono ?_); rintro r w2 ⟨rfl, hb2⟩; have kk2 : Keeps (· = zb) W1 w2 := Keeps.of_below hb2)
    | (go_at_call 49; (with_reducible refine (HVQ.out _).mono ?_); rintro r w3 ⟨rfl, hb3⟩; have kk3 : Keeps (· = zb) W1 w3 := kk2.trans (Keeps.of_below hb3) (fun _ _ e => e)))
  have hb13 : Below W1.heap.size W1 w3 := bt hb2 hb3 (Nat.le_refl _)
  have HB3 := hid (bt HB1.out hb13 (Nat.le_refl _))
  have pZ3 : w3.heap[zb]? = some (.cells #[.int .i64 0, .int .i64 0, .slice none 0 0, .int .i64 0, .int .i64 0, .bool false, .int .i64 0, .slice none 0 0] 52) := hpKeep PZ.out hb13
  have pS3 : w3.heap[w.heap.size]? = some (.cells C 31) := hpKeep PS.out hb13
  have HB13 := hid hb13
  have HPZ := hid pZ3
  have HPS := hid pS3
  have hz3 : W1.heap.size ≤ w3.heap.size := hb13.size
  have HZ3 : Hid (zb < w3.heap.size ∧ w.heap.size < w3.heap.size) := by have := HZ1.out; have := EZ.out; show _ ∧ _; omega
  clear hb13 hb2 hb3 pZ3 pS3 kk2 kk0 hz3 u0 u1 HVS HVQ
  rcases hfn with ⟨f1, f2⟩ | hf | hf
  · -- a table
    obtain ⟨k, hk⟩ : ∃ k : Nat, q.fn = (k : Int) + 1 := ⟨(q.fn - 1).toNat, by omega⟩
    have h4 : k < 4 := by omega
    have s1 : IntKind.i64.wrap (q.fn - 1) = (k : Int) := (IntWalk.i64_in _ (by omega)).trans (by omega)
    have hki : (0 : Int) ≤ (k : Int) := Int.natCast_nonneg _
    have hkl : (k : Int) < 4 := by omega
    have t0 : ∀ X, Keeps (· = zb) W1 X → X.cell? ⟨w.heap.size, 3 + k * 3, none⟩ = some (.bool (s.ts k).sup) := fun X h => (SlC_tab s rv ov sv (by rw [HC.out]; exact hpKeeps PS.out h hnS) h4).1
    have t1 : ∀ X, Keeps (· = zb) W1 X → X.cell? ⟨w.heap.size, 3 + k * 3 + 1, none⟩ = some (rv k) := fun X h => (SlC_tab s rv ov sv (by rw [HC.out]; exact hpKeeps PS.out h hnS) h4).2.1
    have t2 : ∀ X, Keeps (· = zb) W1 X → X.cell? ⟨w.heap.size, 3 + k * 3 + 2, none⟩ = some (.int .i64 (s.ts k).most) := fun X h => (SlC_tab s rv ov sv (by rw [HC.out]; exact hpKeeps PS.out h hnS) h4).2.2
    have kD : Keeps (· = zb) W1 w3.drew := kk3.trans (Keeps.of_below (F := fun _ => False) (Below.refl _ _).drew) (fun _ _ e => e.elim)
    have HTB : Hid (Calls Tryz.prog 50 #[.agg #[.bool (s.ts k).sup, rv k, .int .i64 (s.ts k).most], .agg #[.int .i64 q.fn, .int .i64 q.addr, .int .i64 q.qty, .int .i64 q.code, .int .i64 q.obj], .int .i64 x] w3.drew fun r w' => ∃ e, TabE (s.ts k) q e ∧ TabPost w3.drew q.fn e r w') :=
      rtable_any (s.ts k) (rv k) q HQ.out ⟨f1, f2⟩ x HX.out.1 HX.out.2 w3.drew ((HR.out.rg k h4).keep (bt HB3.out (Below.refl _ _).drew (Nat.le_refl _))) (fun hs => ((HV.out.tb k h4).2 hs).2.1)
    have HK := hid hk
    clear hk hd
    go_upto_region 4 with (fail)
    refine wp_region_held_drew (S := fun V => Keeps (· = zb) W1 V) (by kernel_rfl) kD (fun hH => ?_)
    refine tkD 0 27 (v := ?_) rfl (by kernel_rfl) (fun _ _ _ h => h) rfl (by rfl) (by assumption) ?_ ?_; rotate_left; (intro w hSw; (try dsimp only at hSw); go_simp; try (with_reducible rfl)); simp only [List.setIfInBounds_toArray, List.set_cons_zero, List.set_cons_succ]
    refine tkD 1 28 (v := ?_) rfl (by kernel_rfl) (fun _ _ _ h => h) rfl (by rfl) (by assumption) ?_ ?_; rotate_left; (intro w hSw; (try dsimp only at hSw); go_simp; try (with_reducible rfl)); simp only [List.setIfInBounds_toArray, List.set_cons_zero, List.set_cons_succ]
    refine tkD 2 29 (v := ?_) rfl (by kernel_rfl) (fun _ _ _ h => h) rfl (by rfl) (by assumption) ?_ ?_; rotate_left; (intro w hSw; (try dsimp only at hSw); go_simp; try (with_reducible rfl)); simp only [List.setIfInBounds_toArray, List.set_cons_zero, List.set_cons_succ]
    refine tkD 3 30 (v := ?_) rfl (by kernel_rfl) (fun _ _ _ h => h) rfl (by rfl) (by assumption) ?_ ?_; rotate_left; (intro w hSw; (try dsimp only at hSw); go_simp; try (with_reducible rfl)); simp only [List.setIfInBounds_toArray, List.set_cons_zero, List.set_cons_succ]
    refine tkD 4 31 (v := ?_) rfl (by kernel_rfl) (fun _ _ _ h => h) rfl (by rfl) (by assumption) ?_ ?_; rotate_left; (intro w hSw; (try dsimp only at hSw); go_simp; try (with_reducible rfl)); simp only [List.setIfInBounds_toArray, List.set_cons_zero, List.set_cons_succ]
    refine tkD 5 32 (v := ?_) rfl (by kernel_rfl) (fun _ _ _ h => h) rfl (by rfl) (by assumption) ?_ ?_; rotate_left; (intro w hSw; (try dsimp only at hSw); go_simp; try (with_reducible rfl)); simp only [List.setIfInBounds_toArray, List.set_cons_zero, List.set_cons_succ]
    refine tkD 6 33 (v := ?_) rfl (by kernel_rfl) (fun _ _ _ h => h) rfl (by rfl) (by assumption) ?_ ?_; rotate_left; (intro w hSw; (try dsimp only at hSw); go_simp; try (with_reducible rfl)); simp only [List.setIfInBounds_toArray, List.set_cons_zero, List.set_cons_succ]
    refine tkD 7 34 (v := ?_) rfl (by kernel_rfl) (fun _ _ _ h => h) rfl (by rfl) (by assumption) ?_ ?_; rotate_left; (intro w hSw; (try dsimp only at hSw); go_simp; try (with_reducible rfl)); simp only [List.setIfInBounds_toArray, List.set_cons_zero, List.set_cons_succ]
    clear hH
    refine wpAnyH_ready (rs := [8]) (by kernel_rfl) (by simp) ?_; refine AllReadyH.cons rfl (fun K hK => ?_) AllReadyH.nil
    go_simp
    refine HTB.out.mono ?_
    rintro r w5 ⟨e, hE, D, da, dc, rfl, hD, hown, hb5⟩
    have kk5 : Keeps (· = zb) W1 w5 := kD.trans (Keeps.of_below hb5) (fun _ _ e => e)
    refine hK.out _ _ kk5 (fun hS7 => ?_)
    clear hK K
    have hpz5 := hpKeep HPZ.out ((Below.refl w3.heap.size w3).drew.trans hb5)
    refine wpAnyH_ready (rs := [9]) (by kernel_rfl) (by simp) ?_; refine AllReadyH.cons rfl (fun K hK => ?_) AllReadyH.nil
    refine step_storeW rfl 52 (.tmp 6) (.tmp 35) rfl zb 0 _ 52 #[.int .i64 q.fn, .int .i64 e, .slice da D.length dc, .int .i64 0, .int .i64 0, .bool false, .int .i64 0, .slice none 0 0] rfl rfl hpz5 (by simp) info8 rfl ?_
    intro w8 g8 hk8 hz8
    have kk8 : Keeps (· = zb) W1 w8 := kk5.trans hk8 (fun _ _ e => e)
    refine hK.out _ _ kk8 (fun hS9 => ?_)
    clear hK K hS9 hS7 t0 t1 t2 q0 q1 q2 q3 q4
    refine wpAnyH_done (by kernel_rfl) ?_ _
    have g9 : w8.heap[zb]? = some (.cells #[.int .i64 q.fn, .int .i64 e, .slice da D.length dc, .int .i64 0, .int .i64 0, .bool false, .int .i64 0, .slice none 0 0] 52) := g8
    clear g8
    go_wp2
    refine bodyPost_ret (results_cell_row rfl _ _ (zb) 52 _ (0, 0) _ rfl g9 Tryz.underlying52 rfl info8) rfl ?_
    exact AnsPost.tab HK.out h4 hE hD hown (by have := HZ3.out; show zb < w3.heap.size; omega) hk8 (by have := HZ3.out; show w.heap.size ≤ w3.heap.size; omega) ((bt (bt HB3.out (Below.refl _ _).drew (Nat.le_refl _)) hb5 (Nat.le_refl _)).trans (hk8.below (by have := HB3.out.size; have := hb5.size; have h0 : w3.drew.heap.size = w3.heap.size := rfl; omega) (fun j hj e => by have := EZ.out; omega)))
  · -- the server's identification
    have q0' : w3.cell? ⟨w.heap.size + 1, 0, none⟩ = some (.int .i64 17) := by rw [q0 w3 kk3, hf]
    have t17 : w3.cell? ⟨w.heap.size, 17, none⟩ = some (.bool s.hs) := by have := HPS.out; rw [← HC.out] at this; exact hpCell this 17
    have t18 : w3.cell? ⟨w.heap.size, 18, none⟩ = some sv := by have := HPS.out; rw [← HC.out] at this; exact hpCell this 18
    have HF := hid hf
    clear q0 q1 q2 q3 q4 hf hd
    have pz := HPZ.out
    cases hs : s.hs with
    | false =>
      rw [hs] at t17
      go_wp2_with (refine wpList_storeW rfl 52 (.tmp 6) (.tmp 45) rfl zb 0 _ 52 #[.int .i64 17, .int .i64 1, .slice none 0 0, .int .i64 0, .int .i64 0, .bool false, .int .i64 0, .slice none 0 0] rfl rfl pz (by simp) info8 rfl ?_; intro w8 g8 hk8 hz8)
      have g9 : w8.heap[zb]? = some (.cells #[.int .i64 17, .int .i64 1, .slice none 0 0, .int .i64 0, .int .i64 0, .bool false, .int .i64 0, .slice none 0 0] 52) := g8
      refine bodyPost_ret (results_cell_row rfl _ _ (zb) 52 _ (0, 0) _ rfl g9 Tryz.underlying52 rfl info8) rfl ?_
      exact AnsPost.row (D := []) (da := none) (dc := 0) (AnsR.nsrv HF.out hs) (World.ownsRow_nil w3 w3.heap.size _ _) HZ3.out.1 hk8 (by have := HB3.out.size; omega) (HB3.out.trans (hk8.below HB3.out.size (fun j hj e => by have := EZ.out; omega)))
    | true =>
      rw [hs] at t17
      obtain ⟨sa, sc, rfl, -⟩ := id HR.out.sd
      have HBS : Hid (Bs w3 (.slice sa s.sd.length sc) s.sd) := HR.out.sd.keep HB3.out
      have hsl := HV.out.sl
      obtain ⟨iU, hiU, hzU0, hzU1, hzU2⟩ := info_parts infoB
      obtain ⟨sn, hsn⟩ : ∃ n, s.sd.length = n := ⟨_, rfl⟩
      have HSN := hid hsn
      rw [hsn] at t18 HBS hsl
      clear hsn
      go_wp2_with (first
        | (at_builtin; refine wpList_appB rfl (.const (.slice none 0 0)) (.tmp 47) 29 rfl w3.heap.size 5 iU Tryz.underlying29 hiU hzU0 hzU1 hzU2 (.slice none 0 0) [] rfl (World.ownsRow_nil _ _ _ _) (.slice sa sn sc) s.sd rfl HBS.out (by have := HSN.out; simp only [List.length_nil]; omega) (Nat.le_refl _) ?_; intro v5 w5 hown5 hgr5 hnew5; simp only [List.length_nil, Nat.zero_add, List.nil_append] at hown5; obtain ⟨a5, c5, rfl⟩ := own_slice hown5; have hb5 : Below w3.heap.size w3 w5 := (Below.refl _ _).grown hgr5 (Nat.le_refl _) (fun k hk => nomatch hk); have pz5 := hpKeep pz hb5)
        | (refine wpList_storeW rfl 52 (.tmp 6) (.tmp 49) rfl zb 0 _ 52 #[.int .i64 17, .int .i64 0, .slice a5 s.sd.length c5, .int .i64 0, .int .i64 0, .bool false, .int .i64 0, .slice none 0 0] rfl rfl pz5 (by simp) info8 rfl ?_; intro w8 g8 hk8 hz8))
      have g9 : w8.heap[zb]? = some (.cells #[.int .i64 17, .int .i64 0, .slice a5 s.sd.length c5, .int .i64 0, .int .i64 0, .bool false, .int .i64 0, .slice none 0 0] 52) := g8
      refine bodyPost_ret (results_cell_row rfl _ _ (zb) 52 _ (0, 0) _ rfl g9 Tryz.underlying52 rfl info8) rfl ?_
      exact AnsPost.row (AnsR.srv HV.out HF.out hs) hown5 HZ3.out.1 hk8 (by have := HB3.out.size; omega) ((bt HB3.out hb5 (Nat.le_refl _)).trans (hk8.below (by have := HB3.out.size; have := hb5.size; omega) (fun j hj e => by have := EZ.out; omega)))
  · -- the device's identification
    obtain ⟨hcode, hne⟩ := hd hf
    have q0' : w3.cell? ⟨w.heap.size + 1, 0, none⟩ = some (.int .i64 43) := by rw [q0 w3 kk3, hf]
    have pq := hpKeep PQ.out HB13.out
    have ps := HPS.out
    have pz := HPZ.out
    have HF := hid hf
    have hi5 : (Tryz.prog.info? 44).map (·.size) = some 5 := by kernel_rfl
    clear q0 q1 q2 q3 q4 hd
    by_cases hlv : s.lv = 0
    · have HDV : Hid (Calls Tryz.prog 51 #[.agg C, .agg #[.int .i64 q.fn, .int .i64 q.addr, .int .i64 q.qty, .int .i64 q.code, .int .i64 q.obj]] w3 (TabPost w3 43 1)) := by
        have h := rdev_no s rv ov sv q.addr q.qty q.obj w3 (HR.out.keep HB3.out) hlv
        rw [HC.out] at h
        rw [hf, hcode]
        exact h
      have HLV := hid hlv
      clear hf hcode hne hlv
      go_wp2_with (first
        | (refine wpList_load_row rfl 31 (.tmp 3) rfl w.heap.size rfl 31 C (0, 0) _ ps Tryz.underlying31 rfl hi19 ?_)
        | (refine wpList_load_row rfl 44 (.tmp 4) rfl (w.heap.size + 1) rfl 44 #[.int .i64 q.fn, .int .i64 q.addr, .int .i64 q.qty, .int .i64 q.code, .int .i64 q.obj] (0, 0) _ pq Tryz.underlying44 rfl hi5 ?_)
        | (go_at_call 51; (with_reducible refine HDV.out.mono ?_); rintro r w5 ⟨D, da, dc, rfl, hD, hown, hb5⟩; have pz5 := hpKeep pz hb5)
        | (refine wpList_storeW rfl 52 (.tmp 6) (.tmp 41) rfl zb 0 _ 52 #[.int .i64 43, .int .i64 1, .slice da D.length dc, .int .i64 0, .int .i64 0, .bool false, .int .i64 0, .slice none 0 0] rfl rfl pz5 (by simp) info8 rfl ?_; intro w8 g8 hk8 hz8))
      have g9 : w8.heap[zb]? = some (.cells #[.int .i64 43, .int .i64 1, .slice da D.length dc, .int .i64 0, .int .i64 0, .bool false, .int .i64 0, .slice none 0 0] 52) := g8
      refine bodyPost_ret (results_cell_row rfl _ _ (zb) 52 _ (0, 0) _ rfl g9 Tryz.underlying52 rfl info8) rfl ?_
      exact AnsPost.row (AnsR.ndev HF.out HLV.out hD) hown HZ3.out.1 hk8 (by have := HB3.out.size; omega) ((bt HB3.out hb5 (Nat.le_refl _)).trans (hk8.below (by have := HB3.out.size; have := hb5.size; omega) (fun j hj e => by have := EZ.out; omega)))
    · have hl := HV.out.lv
      have hl0 : 0 < s.lv := by omega
      have hon := HV.out.on hl0
      have HDV : Hid (Calls Tryz.prog 51 #[.agg C, .agg #[.int .i64 q.fn, .int .i64 q.addr, .int .i64 q.qty, .int .i64 q.code, .int .i64 q.obj]] w3 (DvP w3 s (fromO q.obj s.objs))) := by
        have h := rdev_yes s rv ov sv q.addr q.qty q.obj w3 (HR.out.keep HB3.out) hl0 hon.1 (rises_ordF _ _ (HV.out.ri hl0)).2 (fun y hy => by obtain ⟨i, hi⟩ := List.getElem?_of_mem hy; have := HV.out.vl hl0 i y hi; omega) (hne hl0)
        rw [HC.out] at h
        rw [hf, hcode]
        exact h
      have HLV := hid hl0
      clear hf hcode hne hlv hl hl0 hon
      go_wp2_with (first
        | (refine wpList_load_row rfl 31 (.tmp 3) rfl w.heap.size rfl 31 C (0, 0) _ ps Tryz.underlying31 rfl hi19 ?_)
        | (refine wpList_load_row rfl 44 (.tmp 4) rfl (w.heap.size + 1) rfl 44 #[.int .i64 q.fn, .int .i64 q.addr, .int .i64 q.qty, .int .i64 q.code, .int .i64 q.obj] (0, 0) _ pq Tryz.underlying44 rfl hi5 ?_)
        | (go_at_call 51; (with_reducible refine HDV.out.mono ?_); rintro r w5 ⟨n, oa, oc, nx, h1, h2, h3, h4, rfl, hob, hb5⟩; have pz5 := hpKeep pz hb5; obtain ⟨DC, hDC⟩ : ∃ c, DvqC 0 3 s.lv (decide (n < (fromO q.obj s.objs).length)) nx (.slice oa n oc) = c := ⟨_, rfl⟩; have hds : DC.size = 8 := (by rw [← hDC]; rfl); have hd1 : DC.toList.all (·.oneCell') = true := (by rw [← hDC]; rfl); have hd8 : (Tryz.prog.info? 52).map (·.size) = some DC.size := (by rw [hds]; exact info8); rw [hDC]; have HDC := hid hDC; clear hDC; have HN := hid (And.intro h1 (And.intro h2 (And.intro h3 h4))); clear h1 h2 h3 h4)
        | (refine wpList_storeW rfl 52 (.tmp 6) (.tmp 41) rfl zb 0 _ 52 DC rfl rfl pz5 (by simp [hds]) hd8 hd1 ?_; intro w8 g8 hk8 hz8))
      have g9 : w8.heap[zb]? = some (.cells DC 52) := by rw [g8, List.drop_eq_nil_of_le (by simp [hds])]; simp
      refine bodyPost_ret (results_cell_row rfl _ _ (zb) 52 _ (0, 0) _ rfl g9 Tryz.underlying52 rfl hd8) rfl ?_
      rw [← HDC.out]
      exact AnsPost.dev HV.out HF.out HLV.out HN.out.1 HN.out.2.1 HN.out.2.2.1 HN.out.2.2.2 hob HZ3.out.1 hk8 (by have := HB3.out.size; omega) ((bt HB3.out hb5 (Nat.le_refl _)).trans (hk8.below (by have := HB3.out.size; have := hb5.size; omega) (fun j hj e => by have := EZ.out; omega)))

end Go.Proofs.YtliblgmpclefgaaGreat

/-
The outcome that the law makes of a slave's answer (modscanlaw26.answer).
-/
namespace Go.Proofs.YtliblgmpclefgaaGreat
open Go.RowKit

theorem info9 : (Tryz.prog.info? 54).map (·.size) = some 9 := by kernel_rfl
def OutPost (w : World) (s : Sl) (q : Rq) (r : Ending) (w' : World) : Prop :=
  ∃ O da dc oa oc, r = .returned (.agg #[.int .i64 O.verdict, .int .i64 O.reply.fn, .int .i64 O.reply.exc, .slice da O.reply.data.length dc, .int .i64 O.reply.code, .int .i64 O.reply.level, .bool O.reply.more, .int .i64 O.reply.next, .slice oa O.reply.objs.length oc]) ∧ Ans s q O ∧ O.fit ∧ (∀ W, Agree w.heap.size w' W → RpIs W O.reply da dc oa oc) ∧ Below w.heap.size w w'

set_option maxRecDepth 100000 in
set_option maxHeartbeats 6400000 in
theorem answer26_ok (s : Sl) (rv : Nat → Value) (ov sv : Value) (q : Rq) (x : Int) (x0 : 0 ≤ x) (x1 : x ≤ 65535) (w : World) (hR : SlR w s rv ov sv) (hv : s.val) (hq : q.ok = true) (hd : q.fn = 43 → q.code = 3 ∧ (0 < s.lv → fromO q.obj s.objs ≠ [])) :
    Calls Tryz.prog 13 #[.agg (SlC s rv ov sv), .agg #[.int .i64 q.fn, .int .i64 q.addr, .int .i64 q.qty, .int .i64 q.code, .int .i64 q.obj], .int .i64 x] w (OutPost w s q) := by
  obtain ⟨C, hC⟩ : ∃ C, SlC s rv ov sv = C := ⟨_, rfl⟩
  have hcs : C.size = 19 := by rw [← hC]; rfl
  have hi19 : (Tryz.prog.info? 31).map (·.size) = some C.size := by rw [hcs]; exact infoSl
  have hi5 : (Tryz.prog.info? 44).map (·.size) = some 5 := by kernel_rfl
  obtain ⟨W1, hW1⟩ : ∃ W, ((w.alloc (.cells C 31)).alloc (.cells #[.int .i64 q.fn, .int .i64 q.addr, .int .i64 q.qty, .int .i64 q.code, .int .i64 q.obj] 44)).alloc (.cells #[.int .i64 0, .int .i64 0, .int .i64 0, .slice none 0 0, .int .i64 0, .int .i64 0, .bool false, .int .i64 0, .slice none 0 0] 54) = W := ⟨_, rfl⟩
  have hz1 : W1.heap.size = w.heap.size + 3 := by rw [← hW1]; simp
  have hb1 : Below w.heap.size w W1 := by rw [← hW1]; exact bta (bta (bal' w _) (Nat.le_refl _) _) (Nat.le_refl _) _
  have pS : W1.heap[w.heap.size]? = some (.cells C 31) := by rw [← hW1]; exact hpKeep (hpKeep (hpNew w _) (bal' _ _)) (bal' _ _)
  have pQ : W1.heap[w.heap.size + 1]? = some (.cells #[.int .i64 q.fn, .int .i64 q.addr, .int .i64 q.qty, .int .i64 q.code, .int .i64 q.obj] 44) := by rw [← hW1]; refine hpKeep ?_ (bal' _ _); have h := hpNew (w.alloc (.cells C 31)) (.cells #[.int .i64 q.fn, .int .i64 q.addr, .int .i64 q.qty, .int .i64 q.code, .int .i64 q.obj] 44); rw [World.size_alloc] at h; exact h
  have pZ : W1.heap[w.heap.size + 2]? = some (.cells #[.int .i64 0, .int .i64 0, .int .i64 0, .slice none 0 0, .int .i64 0, .int .i64 0, .bool false, .int .i64 0, .slice none 0 0] 54) := by rw [← hW1]; have h := hpNew ((w.alloc (.cells C 31)).alloc (.cells #[.int .i64 q.fn, .int .i64 q.addr, .int .i64 q.qty, .int .i64 q.code, .int .i64 q.obj] 44)) (.cells #[.int .i64 0, .int .i64 0, .int .i64 0, .slice none 0 0, .int .i64 0, .int .i64 0, .bool false, .int .i64 0, .slice none 0 0] 54); rw [World.size_alloc, World.size_alloc] at h; exact h
  obtain ⟨zb, hzb⟩ : ∃ n, w.heap.size + 2 = n := ⟨_, rfl⟩
  have E2 : Hid (w.heap.size + 1 + 1 = zb) := hzb
  have EZ := hid hzb
  rw [hzb] at pZ
  have HAN : Hid (Calls Tryz.prog 32 #[.agg C, .agg #[.int .i64 q.fn, .int .i64 q.addr, .int .i64 q.qty, .int .i64 q.code, .int .i64 q.obj], .int .i64 x] W1 (AnsPost W1 s q)) := by
    rw [← hC]
    exact ranswer_ok s rv ov sv q x x0 x1 W1 (hR.keep hb1) hv hq hd
  rw [hC]
  have HW1 := hid hW1
  have HB1 := hid hb1
  have HZ1 := hid hz1
  clear hW1 hb1 hz1 hC hR hv x0 x1 hzb hq hd
  go_enter Tryz.func13, Tryz.ntmps13
  go_upto_region 1 with (fail)
  rw [HW1.out, E2.out]
  go_upto_region 2 with (first
    | (refine wpList_load_row rfl 31 (.tmp 3) rfl w.heap.size rfl 31 C (0, 0) _ pS Tryz.underlying31 rfl hi19 ?_)
    | (refine wpList_load_row rfl 44 (.tmp 4) rfl (w.heap.size + 1) rfl 44 #[.int .i64 q.fn, .int .i64 q.addr, .int .i64 q.qty, .int .i64 q.code, .int .i64 q.obj] (0, 0) _ pQ Tryz.underlying44 rfl hi5 ?_)
    | (go_at_call 32; (with_reducible refine HAN.out.mono ?_); rintro r w5 ⟨rp, da, dc, oa, oc, rfl, hA, hrd, hb5⟩))
  have HA := hid hA
  have HRD := hid hrd
  obtain ⟨W6, hW6⟩ : ∃ W, w5.alloc (.cells #[.int .i64 rp.fn, .int .i64 rp.exc, .slice da rp.data.length dc, .int .i64 rp.code, .int .i64 rp.level, .bool rp.more, .int .i64 rp.next, .slice oa rp.objs.length oc] 52) = W := ⟨_, rfl⟩
  have p6 : W6.heap[w5.heap.size]? = some (.cells #[.int .i64 rp.fn, .int .i64 rp.exc, .slice da rp.data.length dc, .int .i64 rp.code, .int .i64 rp.level, .bool rp.more, .int .i64 rp.next, .slice oa rp.objs.length oc] 52) := by rw [← hW6]; exact hpNew _ _
  have hb6 : Below w5.heap.size w5 W6 := by rw [← hW6]; exact bal' _ _
  have pz6 := hpKeep (hpKeep pZ hb5) hb6
  have hzlt : zb < W1.heap.size := hpLt pZ
  have hz5 := hb5.size
  rw [hW6]
  have HBB := hid (bt (bt HB1.out hb5 (Nat.le_refl _)) hb6 (Nat.le_refl _))
  have e1 : W6.cell? ⟨w5.heap.size, 1, none⟩ = some (.int .i64 rp.exc) := hpCell p6 1
  have HEND : Hid (∀ (v : Int) (w8 : World), vOf rp = v → Keeps (· = zb) W6 w8 → OutPost w s q (.returned (.agg #[.int .i64 v, .int .i64 rp.fn, .int .i64 rp.exc, .slice da rp.data.length dc, .int .i64 rp.code, .int .i64 rp.level, .bool rp.more, .int .i64 rp.next, .slice oa rp.objs.length oc])) w8) := fun v w8 hvv hk8 => by
    have h0 := HB1.out.size
    have h1 := hb6.size
    refine ⟨⟨v, rp⟩, da, dc, oa, oc, rfl, by rw [← hvv]; exact hA.ans, by rw [← hvv]; exact hA.fit, fun W hW => hrd W (((Agree.of_below hb6).trans (Agree.of_keeps hk8 (fun k e => by omega))).trans (hW.mono (by omega))), HBB.out.trans (hk8.below HBB.out.size (fun j hj e => by have := EZ.out; omega))⟩
  clear hA hrd hb6 hW6 hb5 pZ pS pQ HAN
  by_cases hx : rp.exc = 0
  · have g1 : (rp.exc != 0) = false := by rw [bne_eq_false_iff_eq]; exact hx
    have HV : Hid (vOf rp = 1) := by show _ = _; unfold vOf; rw [if_pos hx]
    clear hx
    go_wp2_with (first
      | (refine wpList_load_row rfl 52 (.tmp 7) rfl w5.heap.size rfl 52 #[.int .i64 rp.fn, .int .i64 rp.exc, .slice da rp.data.length dc, .int .i64 rp.code, .int .i64 rp.level, .bool rp.more, .int .i64 rp.next, .slice oa rp.objs.length oc] (0, 0) _ p6 Tryz.underlying52 rfl info8 ?_)
      | (refine wpList_storeW rfl 54 (.tmp 6) (.tmp 18) rfl zb 0 _ 54 #[.int .i64 1, .int .i64 rp.fn, .int .i64 rp.exc, .slice da rp.data.length dc, .int .i64 rp.code, .int .i64 rp.level, .bool rp.more, .int .i64 rp.next, .slice oa rp.objs.length oc] rfl rfl pz6 (by simp) info9 rfl ?_; intro w8 g8 hk8 hz8))
    have g9 : w8.heap[zb]? = some (.cells #[.int .i64 1, .int .i64 rp.fn, .int .i64 rp.exc, .slice da rp.data.length dc, .int .i64 rp.code, .int .i64 rp.level, .bool rp.more, .int .i64 rp.next, .slice oa rp.objs.length oc] 54) := g8
    refine bodyPost_ret (results_cell_row rfl _ _ (zb) 54 _ (0, 0) _ rfl g9 Tryz.underlying54 rfl info9) rfl ?_
    exact HEND.out 1 w8 HV.out hk8
  · have g1 : (rp.exc != 0) = true := by rw [bne_iff_ne]; exact hx
    have HV : Hid (vOf rp = 2) := by show _ = _; unfold vOf; rw [if_neg hx]
    clear hx
    go_wp2_with (first
      | (refine wpList_load_row rfl 52 (.tmp 7) rfl w5.heap.size rfl 52 #[.int .i64 rp.fn, .int .i64 rp.exc, .slice da rp.data.length dc, .int .i64 rp.code, .int .i64 rp.level, .bool rp.more, .int .i64 rp.next, .slice oa rp.objs.length oc] (0, 0) _ p6 Tryz.underlying52 rfl info8 ?_)
      | (refine wpList_storeW rfl 54 (.tmp 6) (.tmp 16) rfl zb 0 _ 54 #[.int .i64 2, .int .i64 rp.fn, .int .i64 rp.exc, .slice da rp.data.length dc, .int .i64 rp.code, .int .i64 rp.level, .bool rp.more, .int .i64 rp.next, .slice oa rp.objs.length oc] rfl rfl pz6 (by simp) info9 rfl ?_; intro w8 g8 hk8 hz8))
    have g9 : w8.heap[zb]? = some (.cells #[.int .i64 2, .int .i64 rp.fn, .int .i64 rp.exc, .slice da rp.data.length dc, .int .i64 rp.code, .int .i64 rp.level, .bool rp.more, .int .i64 rp.next, .slice oa rp.objs.length oc] 54) := g8
    refine bodyPost_ret (results_cell_row rfl _ _ (zb) 54 _ (0, 0) _ rfl g9 Tryz.underlying54 rfl info9) rfl ?_
    exact HEND.out 2 w8 HV.out hk8

end Go.Proofs.YtliblgmpclefgaaGreat

/-
The walk of the law ProbeSlave.
-/
namespace Go.Proofs.YtliblgmpclefgaaGreat
open Go.RowKit

set_option maxRecDepth 100000 in
theorem slFold (s : Sl) (rv : Nat → Value) (ov sv : Value) (C : Array Value) (hC : SlC s rv ov sv = C) : Array.foldl (fun (cs : Array Value) (x : Value × Nat) => cs.setIfInBounds x.snd x.fst) #[.int .i64 0, .int .i64 0, .int .i64 0, .bool false, .slice none 0 0, .int .i64 0, .bool false, .slice none 0 0, .int .i64 0, .bool false, .slice none 0 0, .int .i64 0, .bool false, .slice none 0 0, .int .i64 0, .int .i64 0, .slice none 0 0, .bool false, .slice none 0 0] C.zipIdx 0 C.size = C := by
  subst hC
  kernel_rfl

/-- Whether a slave is valid, as a value that is there before the call. -/
theorem rslave_v (s : Sl) (rv : Nat → Value) (ov sv : Value) : ∃ V : Bool, (V = true ↔ s.val) ∧ ∀ w, SlR w s rv ov sv → Calls Tryz.prog 5 #[.agg (SlC s rv ov sv)] w (BoolPost w V) := by
  by_cases h : s.val
  · exact ⟨true, ⟨fun _ => h, fun _ => rfl⟩, fun w hR => (rslave_any s rv ov sv w hR).mono fun _ _ ⟨V, h1, h2, h3⟩ => ⟨by rw [h1, h2.out.2 h], h3⟩⟩
  · exact ⟨false, ⟨fun e => (by cases e), fun e => absurd e h⟩, fun w hR => (rslave_any s rv ov sv w hR).mono fun _ _ ⟨V, h1, h2, h3⟩ => ⟨by rw [h1]; cases V with | true => exact absurd (h2.out.1 rfl) h | false => rfl, h3⟩⟩

theorem wpList_load_rowH {P : Program} {ops : Array Oper} {rest : List Oper} {o : Oper} {a : Act} {w : World} {Q : Exit → Act → World → Prop} (hw : Region.wanted o (yielded ops a.tmps) = true) (ty : TypeId) (x : Operand) (ho : o.op = .load ty x)
    (g : Nat) (hx : a.eval x = .pointer (some ⟨g, 0, none⟩)) (t : TypeId) (cs : Array Value) (fr : Nat × Nat) (d : TypeDesc) (hg : w.heap[g]? = some (.cells cs t fr))
    (hu : P.underlying ty = some d) (hd : (match d with | .struct _ | .array _ _ => true | _ => false) = true) (hi : (P.info? ty).map (·.size) = some cs.size)
    (h : wpList P ops Q rest (a.put o.dst (.agg cs)) w) : wpList P ops Q (o :: rest) a w :=
  wpList_step fun K hK => by
    rw [if_pos hw]
    exact wp_load_row ty x ho g hx t cs fr d hg hu hd hi (hK _ _ h)

theorem run_load_rowF {P : Program} {ev : Operand → Value} {o : Oper} {w : World} (ty : TypeId) (x : Operand) (ho : o.op = .load ty x)
    (ad : Addr) (hx : ev x = .pointer (some ad)) (cs : Array Value) (d : TypeDesc) (hc : ∀ j v, cs.toList[j]? = some v → w.cell? (ad.add j) = some v)
    (hu : P.underlying ty = some d) (hd : (match d with | .struct _ | .array _ _ => true | _ => false) = true) (hi : (P.info? ty).map (·.size) = some cs.size) :
    (execOp ev o).run P w = .ok (.value (.agg cs)) w := by
  unfold execOp
  simp only [ho, hx, Instr.loadAt, Instr.sureAddr, Sem.run_bind, Sem.run_pure, Result.andThen_ok, run_loadVar_at w ad ty cs d hc hu hd hi]
theorem hpRowAt {w : World} {b : Nat} {C : Array Value} {t : TypeId} {fz : Nat × Nat} (h : w.heap[b]? = some (.cells C t fz)) (j : Nat) (v : Value) (hj : C.toList[j]? = some v) : w.cell? ((⟨b, 0, none⟩ : Addr).add j) = some v := by
  have e : (⟨b, 0, none⟩ : Addr).add j = ⟨b, j, none⟩ := by unfold Addr.add; split <;> simp_all
  rw [e, hpCell h]
  simpa using hj

/-- Where the law's loop stands. -/
structure SvRel (w : World) (g : Nat) (C : Array Value) (wn : Nat → Int × Int) (U : Int) (s : Sl) (k : Nat) (qb : Nat) (P : Nat → Prop) (pb : Pb) (W : World) : Prop where
  rq : W.heap[qb]? = some (.cells #[.int .i64 pb.ph.ask.fn, .int .i64 pb.ph.ask.addr, .int .i64 pb.ph.ask.qty, .int .i64 pb.ph.ask.code, .int .i64 pb.ph.ask.obj] 44)
  nq : ¬ P qb
  at_ : PbAt P W g wn pb
  good : PbGood wn U pb
  tru : Tru s wn pb
  q : pb.q = k
  lo : ∀ j, P j → w.heap.size + 2 ≤ j ∧ j < W.heap.size
  sl : W.heap[w.heap.size]? = some (.cells C 31)
  wg : W.heap[w.heap.size + 1]? = some (.cells (WgC wn) 34)
  bel : Below w.heap.size w W

/-- What the probe asks of the device is met by an object. -/
theorem tru_dev {s : Sl} (hs : s.ok) {win : Nat → Int × Int} {p : Pb} (hp : p.ph.ok win) (h : Tru s win p) (hd : p.ph.isDone = false) : p.ph.ask.fn = 43 → p.ph.ask.code = 3 ∧ (0 < s.lv → fromO p.ph.ask.obj s.objs ≠ []) := by
  obtain ⟨ph, d, q⟩ := p
  cases ph with
  | test => intro e; exact absurd (show rqT.fn = 43 from e) (by decide)
  | ident x =>
    intro _
    obtain ⟨_, hI⟩ := h
    refine ⟨rfl, fun h0 => ?_⟩
    obtain ⟨rest, e1, e2, e3, e4, e5, e6⟩ := hI.yes h0
    have ho := (hs.ob h0).2.2.1
    rw [e1] at ho
    have hr := ordF_head (ordF_split _ _ _ ho).2 e4
    show fromO x.next s.objs ≠ []
    rw [fromO_split e1 e3 hr]
    exact e2
  | server => intro e; exact absurd (show (17 : Int) = 43 from e) (by decide)
  | seek k r =>
    obtain ⟨_, hT⟩ := h
    obtain ⟨hk, hwk, hg, h0, hf⟩ := hp
    intro e
    have h1 := hT.tb
    have e2 : r.ask.fn = 43 := e
    unfold Sr.ask at e2
    rw [if_pos h0] at e2
    have e3 : r.tb = 43 := e2
    omega
  | map k m =>
    obtain ⟨_, hT⟩ := h
    obtain ⟨hk, hmo, hmr⟩ := hp
    intro e
    have h1 := hT.tb
    have e2 : m.ask.fn = 43 := e
    unfold Mp.ask at e2
    rw [if_neg hmr] at e2
    have e3 : m.tb = 43 := e2
    omega
  | done => cases hd
theorem tru_done {s : Sl} {win : Nat → Int × Int} {p : Pb} (h : Tru s win p) (hd : p.ph.isDone = true) : p.d = s.dk win 4 := by
  obtain ⟨ph, d, q⟩ := p
  cases ph with
  | done => exact h
  | test => cases hd
  | ident x => cases hd
  | server => cases hd
  | seek k r => cases hd
  | map k m => cases hd

set_option maxRecDepth 100000 in
set_option maxHeartbeats 25600000 in
theorem Walk.probeSlave {w : World} (cs : Array Value) (hr : Rd Tryz.prog w 31 cs.toList) (ws : Array Value) (hwr : Rd Tryz.prog w 34 ws.toList) (iv : Value) (l : List Int) (hl : Ns w iv l) :
    Calls Tryz.prog 3 #[.agg cs, .agg ws, iv] w fun r w' => r = .returned (.bool true) ∧ Below w.heap.size w w' := by
  obtain ⟨s, rv, ov, sv, hcse, hR⟩ := sl_rd hr
  obtain ⟨win, rfl, hwf⟩ := win_rd hwr
  clear hr hwr
  obtain ⟨C, hC⟩ : ∃ C, SlC s rv ov sv = C := ⟨_, rfl⟩
  rw [hcse, hC]
  clear hcse
  have hcz : C.size = 19 := by rw [← hC]; rfl
  have hi19 : (Tryz.prog.info? 31).map (·.size) = some C.size := by rw [hcz]; exact infoSl
  have hi5 : (Tryz.prog.info? 44).map (·.size) = some 5 := by kernel_rfl
  have hfold : Array.foldl (fun (cs : Array Value) (x : Value × Nat) => cs.setIfInBounds x.snd x.fst) #[.int .i64 0, .int .i64 0, .int .i64 0, .bool false, .slice none 0 0, .int .i64 0, .bool false, .slice none 0 0, .int .i64 0, .bool false, .slice none 0 0, .int .i64 0, .bool false, .slice none 0 0, .int .i64 0, .int .i64 0, .slice none 0 0, .bool false, .slice none 0 0] C.zipIdx 0 19 = C := by have h := slFold s rv ov sv C hC; rw [hcz] at h; exact h
  have HFD := hid hfold
  have HC := hid hC
  clear hC hfold
  obtain ⟨W0, hW0⟩ : ∃ W, (w.alloc (.cells C 31)).alloc (.cells #[.int .i64 (win 0).1, .int .i64 (win 0).2, .int .i64 (win 1).1, .int .i64 (win 1).2, .int .i64 (win 2).1, .int .i64 (win 2).2, .int .i64 (win 3).1, .int .i64 (win 3).2] 34) = W := ⟨_, rfl⟩
  have hb0 : Below w.heap.size w W0 := by rw [← hW0]; exact bta (bal' w _) (Nat.le_refl _) _
  have hz0 : W0.heap.size = w.heap.size + 2 := by rw [← hW0]; simp
  have pS0 : W0.heap[w.heap.size]? = some (.cells C 31) := by rw [← hW0]; exact hpKeep (hpNew w _) (bal' _ _)
  have pW0 : W0.heap[w.heap.size + 1]? = some (.cells #[.int .i64 (win 0).1, .int .i64 (win 0).2, .int .i64 (win 1).1, .int .i64 (win 1).2, .int .i64 (win 2).1, .int .i64 (win 2).2, .int .i64 (win 3).1, .int .i64 (win 3).2] 34) := by rw [← hW0]; have h := hpNew (w.alloc (.cells C 31)) (.cells #[.int .i64 (win 0).1, .int .i64 (win 0).2, .int .i64 (win 1).1, .int .i64 (win 1).2, .int .i64 (win 2).1, .int .i64 (win 2).2, .int .i64 (win 3).1, .int .i64 (win 3).2] 34); rw [World.size_alloc] at h; exact h
  obtain ⟨WB, hWB⟩ : ∃ W, W0.alloc (.cells C 31) = W := ⟨_, rfl⟩
  have hbB : Below w.heap.size w WB := by rw [← hWB]; exact bta hb0 (Nat.le_refl _) _
  have pB : WB.heap[W0.heap.size]? = some (.cells C 31) := by rw [← hWB]; exact hpNew _ _
  have pSB : WB.heap[w.heap.size]? = some (.cells C 31) := by rw [← hWB]; exact hpKeep pS0 (bal' _ _)
  have pWB : WB.heap[w.heap.size + 1]? = some (.cells #[.int .i64 (win 0).1, .int .i64 (win 0).2, .int .i64 (win 1).1, .int .i64 (win 1).2, .int .i64 (win 2).1, .int .i64 (win 2).2, .int .i64 (win 3).1, .int .i64 (win 3).2] 34) := by rw [← hWB]; exact hpKeep pW0 (bal' _ _)
  have HAW := hid awake26_any
  obtain ⟨V1, hV1⟩ := mslaves_one s rv ov sv
  obtain ⟨V2, hV2, hv2⟩ := rslave_v s rv ov sv
  have HSM : Hid (Calls Tryz.prog 4 #[.slice (some ⟨W0.heap.size, 0, none⟩) 1 1, .int .i64 1] WB (MsPost WB V1)) := hV1 W0.heap.size 1 WB (hR.keep hbB) (by rw [HC.out]; exact pB)
  have HSV : Hid (Calls Tryz.prog 5 #[.agg C] WB (BoolPost WB V2)) := by
    have h := hv2 WB (hR.keep hbB)
    rw [HC.out] at h
    exact h
  have HV2 := hid hV2
  clear hV1 hV2 hv2
  have HWD : Hid (∀ X, Calls Tryz.prog 7 #[.agg #[.int .i64 (win 0).1, .int .i64 (win 0).2, .int .i64 (win 1).1, .int .i64 (win 1).2, .int .i64 (win 2).1, .int .i64 (win 2).2, .int .i64 (win 3).1, .int .i64 (win 3).2]] X (WdPost X)) := fun X => windows_any win hwf X
  obtain ⟨ia, ic, rfl, -⟩ := id hl.1
  have HL := hid hl
  have HR := hid hR
  have HW0 := hid hW0
  have HWB := hid hWB
  have HB0 := hid hb0
  have HBB := hid hbB
  have HZ0 := hid hz0
  have PSB := hid pSB
  have PWB := hid pWB
  clear hl hR hW0 hWB hb0 hbB hz0 pB pSB pWB pW0 hwf
  show Calls _ _ #[.agg C, .agg #[.int .i64 (win 0).1, .int .i64 (win 0).2, .int .i64 (win 1).1, .int .i64 (win 1).2, .int .i64 (win 2).1, .int .i64 (win 2).2, .int .i64 (win 3).1, .int .i64 (win 3).2], _] w _
  obtain ⟨ln, hln⟩ : ∃ n, l.length = n := ⟨_, rfl⟩
  rw [hln] at HL ⊢
  have HLN := hid hln
  clear hln
  cases V1 with
  | false =>
    go_enter Tryz.func3, Tryz.ntmps3
    go_upto_region 1 with (fail)
    rw [HW0.out]
    go_wp2_with (refine wpList_load_row rfl 31 (.tmp 3) rfl w.heap.size rfl 31 C (0, 0) _ pS0 Tryz.underlying31 rfl hi19 ?_)
    rw [HFD.out, HWB.out]
    refine HSM.out.mono ?_
    rintro r w2 ⟨rfl, rfl⟩
    go_wp2_with (go_at_call 6; (with_reducible refine (HAW.out _).mono ?_); rintro r w2 ⟨rfl, hb2⟩)
    go_ret
    exact ⟨rfl, bt HBB.out hb2 (Nat.le_refl _)⟩
  | true =>
  have pSB := PSB.out
  cases V2 with
  | false =>
    go_enter Tryz.func3, Tryz.ntmps3
    go_upto_region 1 with (fail)
    rw [HW0.out]
    go_wp2_with (refine wpList_load_row rfl 31 (.tmp 3) rfl w.heap.size rfl 31 C (0, 0) _ pS0 Tryz.underlying31 rfl hi19 ?_)
    rw [HFD.out, HWB.out]
    go_wp2_with (first
      | (go_at_call 4; (with_reducible refine HSM.out.mono ?_); rintro r w2 ⟨rfl, rfl⟩)
      | (refine wpList_load_rowH (by rfl) 31 (.tmp 3) rfl w.heap.size rfl 31 C (0, 0) _ pSB Tryz.underlying31 rfl hi19 ?_)
      | (go_at_call 5; (with_reducible refine HSV.out.mono ?_); rintro r w3 ⟨rfl, hb3⟩)
      | (go_at_call 6; (with_reducible refine (HAW.out _).mono ?_); rintro r w2 ⟨rfl, hb2⟩))
    go_ret
    exact ⟨rfl, bt (bt HBB.out hb3 (Nat.le_refl _)) hb2 (Nat.le_refl _)⟩
  | true =>
  have HV : Hid s.val := HV2.out.1 rfl
  have HOK : Hid s.ok := Sl.val_ok HV.out
  go_enter Tryz.func3, Tryz.ntmps3
  go_upto_region 1 with (fail)
  rw [HW0.out]
  go_wp2_with (refine wpList_load_row rfl 31 (.tmp 3) rfl w.heap.size rfl 31 C (0, 0) _ pS0 Tryz.underlying31 rfl hi19 ?_)
  rw [HFD.out, HWB.out]
  go_upto_region 3 with (first
      | (go_at_call 4; (with_reducible refine HSM.out.mono ?_); rintro r w2 ⟨rfl, rfl⟩)
      | (refine wpList_load_rowH (by rfl) 31 (.tmp 3) rfl w.heap.size rfl 31 C (0, 0) _ pSB Tryz.underlying31 rfl hi19 ?_)
      | (go_at_call 5; (with_reducible refine HSV.out.mono ?_); rintro r w3 ⟨rfl, hb3⟩))
  have PS3 := hid (hpKeep PSB.out hb3)
  have PW3 := hid (hpKeep PWB.out hb3)
  have HB3 := hid (bt HBB.out hb3 (Nat.le_refl _))
  clear hb3 pSB pS0 HSM HSV
  go_upto_region 4 with (first
    | (refine wpList_load_row rfl 34 (.tmp 4) rfl (w.heap.size + 1) rfl 34 #[.int .i64 (win 0).1, .int .i64 (win 0).2, .int .i64 (win 1).1, .int .i64 (win 1).2, .int .i64 (win 2).1, .int .i64 (win 2).2, .int .i64 (win 3).1, .int .i64 (win 3).2] (0, 0) _ PW3.out Tryz.underlying34 rfl infoW ?_)
    | (go_at_call 7; (with_reducible refine (HWD.out _).mono ?_); rintro r w4 ⟨wn, rfl, hw12, hb4⟩; have P4 := hid (hpKeep PW3.out hb4))
    | (refine wpList_storeW rfl 34 (.tmp 4) (.tmp 26) rfl (w.heap.size + 1) 0 _ 34 (WgC wn) rfl rfl P4.out (by simp [WgC]) infoW rfl ?_; intro w5 g5 hk5 hz5))
  have g5' : w5.heap[w.heap.size + 1]? = some (.cells #[.int .i64 (wn 0).1, .int .i64 (wn 0).2, .int .i64 (wn 1).1, .int .i64 (wn 1).2, .int .i64 (wn 2).1, .int .i64 (wn 2).2, .int .i64 (wn 3).1, .int .i64 (wn 3).2] 34) := g5
  have hB4 : Below w.heap.size w w4 := bt HB3.out hb4 (Nat.le_refl _)
  have hB5 : Below w.heap.size w w5 := hB4.trans (hk5.below hB4.size (fun j hj e => by omega))
  have pS5 : w5.heap[w.heap.size]? = some (.cells C 31) := hpKeeps (hpKeep PS3.out hb4) hk5 (fun e => by omega)
  have hwok : WinOk wn := fun k hk => by have := hw12 k hk; exact ⟨this.1, by have := this.2.1; omega, this.2.2.1, this.2.2.2.1⟩
  have HNW : Hid (∀ X, Calls Tryz.prog 8 #[.agg #[.int .i64 (wn 0).1, .int .i64 (wn 0).2, .int .i64 (wn 1).1, .int .i64 (wn 1).2, .int .i64 (wn 2).1, .int .i64 (wn 2).2, .int .i64 (wn 3).1, .int .i64 (wn 3).2]] X fun r w' => ∃ g : Nat, r = .returned (.pointer (some ⟨g, 0, none⟩)) ∧ X.heap.size ≤ g ∧ PbAt (Grw (fun _ => False) X w') w' g wn ⟨.test, Dv.zero, 0⟩ ∧ Below X.heap.size X w') := fun X => pnew_ok wn hwok X
  have G5 := hid g5'
  have PS5 := hid pS5
  have HB5 := hid hB5
  have HWO := hid hwok
  have HW12 := hid hw12
  clear g5 g5' hk5 hz5 hB4 hB5 pS5 hwok hw12 HWD P4 PW3 PS3 HB3 hb4
  go_upto_region 8 with (first
    | (refine wpList_load_row rfl 34 (.tmp 4) rfl (w.heap.size + 1) rfl 34 #[.int .i64 (wn 0).1, .int .i64 (wn 0).2, .int .i64 (wn 1).1, .int .i64 (wn 1).2, .int .i64 (wn 2).1, .int .i64 (wn 2).2, .int .i64 (wn 3).1, .int .i64 (wn 3).2] (0, 0) _ G5.out Tryz.underlying34 rfl infoW ?_)
    | (go_at_call 8; (with_reducible refine (HNW.out _).mono ?_); rintro r w6 ⟨g, rfl, hg6, hp6, hb6⟩))
  have HNX := hid (pnext_any hp6 trivial rqT true rfl rfl)
  have HP6 := hid hp6
  have HB6 := hid (bt HB5.out hb6 (Nat.le_refl _))
  have PS6 := hid (hpKeep PS5.out hb6)
  have PW6 := hid (hpKeep G5.out hb6)
  have hz5 : w.heap.size + 2 ≤ w5.heap.size := by have := hpLt G5.out; omega
  have HZ6 := hid hb6.size
  clear hp6 hb6 HNW G5 PS5
  go_wp2_with (go_at_call 9; (with_reducible refine HNX.out.mono ?_); rintro r w7 ⟨rfl, hb7⟩)
  obtain ⟨U, hU⟩ : ∃ U, unitS wn 4 = U := ⟨_, rfl⟩
  have HU := hid hU
  have hUb := unitS_bd HW12.out 4 (Nat.le_refl _)
  rw [hU] at hUb
  have HST : Hid (SvRel w g C wn U s 0 w7.heap.size (Grw (fun _ => False) w5 w6) ⟨.test, Dv.zero, 0⟩ (w7.alloc (.cells #[.int .i64 rqT.fn, .int .i64 rqT.addr, .int .i64 rqT.qty, .int .i64 rqT.code, .int .i64 rqT.obj] 44))) := by
    have h6 := HZ6.out
    have h7 := hb7.size
    refine ⟨hpNew _ _, fun e => ?_, (HP6.out.keep (F := fun _ => False) (Keeps.of_below hb7) (fun _ _ e => e.elim)).keep (F := fun _ => False) (Keeps.of_below (bal' _ _)) (fun _ _ e => e.elim), ⟨trivial, trivial, Dv.zero_small, Int.le_refl _, ?_⟩, rfl, rfl, fun j hj => ?_, hpKeep (hpKeep PS6.out hb7) (bal' _ _), hpKeep (hpKeep PW6.out hb7) (bal' _ _), bta (bt HB6.out hb7 (Nat.le_refl _)) (Nat.le_refl _) _⟩
    · rcases e with e | e
      · exact e
      · omega
    · show 0 + (34 + tl wn 0) ≤ U
      unfold tl
      rw [HU.out]
      show 0 + (34 + (U - 34)) ≤ U
      omega
    · rcases hj with hj | hj
      · exact hj.elim
      · simp
        omega
  clear PS6 PW6 HP6 HNX hU
  generalize hqb : w7.heap.size = qb0 at *
  go_loopw [8, 9, 10] (fun nv sq sk wr => ∃ (k qb : Nat) (P : Nat → Prop) (pb : Pb) (D : Bool), nv = .int .i64 k ∧ sq = .pointer (some ⟨qb, 0, none⟩) ∧ sk = .bool D ∧ Hid ((!pb.ph.isDone) = D) ∧ (k : Int) ≤ U ∧ Hid (SvRel w g C wn U s k qb P pb wr)) (fun nv _ _ _ => U.toNat - (intOf nv).toNat)
  case atStart => exact ⟨0, qb0, _, ⟨.test, Dv.zero, 0⟩, true, rfl, rfl, rfl, rfl, by omega, HST.out⟩
  case round =>
    obtain ⟨k, qb, P, pb, D, rfl, rfl, rfl, hD, hkU, hrel⟩ := hrel
    clear HST
    have hki : (0 : Int) ≤ (k : Int) := Int.natCast_nonneg _
    cases D with
    | false =>
      have hdn : pb.ph.isDone = true := by have := hD.out; cases h : pb.ph.isDone <;> simp_all
      have hpd : pb.d = s.dk wn 4 := tru_done hrel.out.tru hdn
      have HRS := hid (presult_any hrel.out.at_ hrel.out.good.small pb.d true hdn (by rw [hdn]; rfl))
      have HSMD : Hid (s.dk wn 4).small := by show (s.dk wn 4).small; rw [← hpd]; exact hrel.out.good.small
      clear hD
      have c0 : ∀ X, Below wr.heap.size wr X → X.cell? ⟨w.heap.size, 0, none⟩ = some (.int .i64 s.bd) := fun X h => by have := hpKeep hrel.out.sl h; rw [← HC.out] at this; exact hpCell this 0
      have c1 : ∀ X, Below wr.heap.size wr X → X.cell? ⟨w.heap.size, 1, none⟩ = some (.int .i64 s.pa) := fun X h => by have := hpKeep hrel.out.sl h; rw [← HC.out] at this; exact hpCell this 1
      go_upto_region 20 with (first
        | (go_at_call 14; (with_reducible refine HRS.out.mono ?_); rintro r x4 ⟨ov4, sv4, mv4, rfl, hr4, hb4⟩; obtain ⟨DC, hDC⟩ : ∃ c, DvC pb.d ov4 sv4 mv4 = c := ⟨_, rfl⟩; have h14 : DC.toList.all (·.oneCell') = true := (by rw [← hDC]; exact DvC_one (hr4 x4 (Agree.refl _ _))); have hdz : DC.size = 21 := (by rw [← hDC]; rfl); have hi21 : (Tryz.prog.info? 61).map (·.size) = some DC.size := (by rw [hdz]; exact info21); have HR4 := hid hr4; have HDC := hid hDC; rw [hDC]; clear hr4 hDC)
        | (refine wpList_storeW rfl 61 (.tmp 12) (.tmp 75) rfl x4.heap.size 0 _ 61 DC rfl rfl (hpNew x4 (.cells #[.int .i64 0, .int .i64 0, .int .i64 0, .int .i64 0, .int .i64 0, .slice none 0 0, .int .i64 0, .slice none 0 0, .int .i64 0, .int .i64 0, .slice none 0 0, .int .i64 0, .int .i64 0, .slice none 0 0, .int .i64 0, .int .i64 0, .slice none 0 0, .int .i64 0, .int .i64 0, .slice none 0 0, .string ⟨#[]⟩] 61)) (by simp [hdz]) hi21 h14 ?_; intro x5 g5 hk5 hz5))
      have hz5' : Hid (x5.heap.size = x4.heap.size + 1) := by show _ = _; rw [hz5]; simp
      have g5' : x5.heap[x4.heap.size]? = some (.cells DC 61) := by rw [g5, List.drop_eq_nil_of_le (by simp [hdz])]; simp
      have hb5 : Below wr.heap.size wr x5 := (bta hb4 (Nat.le_refl _) _).trans (hk5.below (by have := hb4.size; simp; omega) (fun j hj e => by have := hb4.size; omega))
      have hd4 : ∀ W', Agree wr.heap.size x5 W' → DvRd W' (s.dk wn 4) ov4 sv4 mv4 := fun W' hW => by
        rw [← hpd]
        refine HR4.out W' ⟨?_, fun j hj hl => ?_⟩
        · have h1 := hk5.size
          have h2 := hW.size
          simp at h1
          omega
        · have h1 := hk5.size
          simp at h1
          rw [hW.block j hj (by omega), hk5.block j (by simp; omega) (by omega)]
          exact (bal' x4 _).block j hl
      have HD4 := hid hd4
      have e0 := c0 x5 hb5
      have e1 := c1 x5 hb5
      have HB5' := hid hb5
      have pw5 : x5.heap[w.heap.size + 1]? = some (.cells #[.int .i64 (wn 0).1, .int .i64 (wn 0).2, .int .i64 (wn 1).1, .int .i64 (wn 1).2, .int .i64 (wn 2).1, .int .i64 (wn 2).2, .int .i64 (wn 3).1, .int .i64 (wn 3).2] 34) := hpKeep hrel.out.wg hb5
      have pw6 : (x5.alloc (.cells #[.int .i64 s.bd, .int .i64 s.pa] 23)).heap[w.heap.size + 1]? = some (.cells #[.int .i64 (wn 0).1, .int .i64 (wn 0).2, .int .i64 (wn 1).1, .int .i64 (wn 1).2, .int .i64 (wn 2).1, .int .i64 (wn 2).2, .int .i64 (wn 3).1, .int .i64 (wn 3).2] 34) := hpKeep pw5 (bal' _ _)
      obtain ⟨W7, hW7⟩ : ∃ W, (x5.alloc (.cells #[.int .i64 s.bd, .int .i64 s.pa] 23)).alloc (.cells #[.slice (some ⟨x4.heap.size + 1, 0, none⟩) 1 1, .int .i64 1, .int .i64 1, .int .i64 0, .int .i64 1, .int .i64 0, .int .i64 (wn 0).1, .int .i64 (wn 0).2, .int .i64 (wn 1).1, .int .i64 (wn 1).2, .int .i64 (wn 2).1, .int .i64 (wn 2).2, .int .i64 (wn 3).1, .int .i64 (wn 3).2, .int .i64 1, .int .i64 0] 66) = W := ⟨_, rfl⟩
      have HW7 := hid hW7
      clear hW7
      go_upto_region 21 with (refine wpList_load_row rfl 34 (.tmp 4) rfl (w.heap.size + 1) rfl 34 #[.int .i64 (wn 0).1, .int .i64 (wn 0).2, .int .i64 (wn 1).1, .int .i64 (wn 1).2, .int .i64 (wn 2).1, .int .i64 (wn 2).2, .int .i64 (wn 3).1, .int .i64 (wn 3).2] (0, 0) _ pw6 Tryz.underlying34 rfl infoW ?_)
      rw [HW7.out]
      have hW7 := HW7.out
      have hb7 : Below x5.heap.size x5 W7 := by rw [← hW7]; exact bta (bal' x5 _) (Nat.le_refl _) _
      have pS7 : W7.heap[x4.heap.size + 1]? = some (.cells #[.int .i64 s.bd, .int .i64 s.pa] 23) := by rw [← hz5'.out, ← hW7]; exact hpKeep (hpNew x5 _) (bal' _ _)
      have pC7 : W7.heap[x4.heap.size + 1 + 1]? = some (.cells #[.slice (some ⟨x4.heap.size + 1, 0, none⟩) 1 1, .int .i64 1, .int .i64 1, .int .i64 0, .int .i64 1, .int .i64 0, .int .i64 (wn 0).1, .int .i64 (wn 0).2, .int .i64 (wn 1).1, .int .i64 (wn 1).2, .int .i64 (wn 2).1, .int .i64 (wn 2).2, .int .i64 (wn 3).1, .int .i64 (wn 3).2, .int .i64 1, .int .i64 0] 66) := by
        rw [← hW7, ← hz5'.out]
        have h := hpNew (x5.alloc (.cells #[.int .i64 s.bd, .int .i64 s.pa] 23)) (.cells #[.slice (some ⟨x4.heap.size + 1, 0, none⟩) 1 1, .int .i64 1, .int .i64 1, .int .i64 0, .int .i64 1, .int .i64 0, .int .i64 (wn 0).1, .int .i64 (wn 0).2, .int .i64 (wn 1).1, .int .i64 (wn 1).2, .int .i64 (wn 2).1, .int .i64 (wn 2).2, .int .i64 (wn 3).1, .int .i64 (wn 3).2, .int .i64 1, .int .i64 0] 66)
        rw [World.size_alloc, ← hz5'.out] at h
        exact h
      have pD7 := hpKeep g5' hb7
      have pW7 := hpKeep pw5 hb7
      have pL7 := hpKeep (hpKeep hrel.out.sl hb5) hb7
      have hB7 : Below w.heap.size w W7 := bt (bt hrel.out.bel hb5 (Nat.le_refl _)) hb7 (Nat.le_refl _)
      have hbr7 : Below wr.heap.size wr W7 := bt hb5 hb7 (Nat.le_refl _)
      clear hz5 hz5'
      generalize x4.heap.size + 1 = sb at *
      generalize x4.heap.size = db at *
      have HQU : Hid (∀ X, Below W7.heap.size W7 X → Calls Tryz.prog 17 #[.pointer (some ⟨g, 0, none⟩)] X (IntPost X (k : Int))) := fun X hX => pqueries_any (hrel.out.at_.keep (F := fun _ => False) (Keeps.of_below (bt hbr7 hX (Nat.le_refl _))) (fun _ _ e => e.elim)) (k : Int) hrel.out.q
      have HUN : Hid (∀ X, Below W7.heap.size W7 X → Calls Tryz.prog 18 #[.agg #[.slice (some ⟨sb, 0, none⟩) 1 1, .int .i64 1, .int .i64 1, .int .i64 0, .int .i64 1, .int .i64 0, .int .i64 (wn 0).1, .int .i64 (wn 0).2, .int .i64 (wn 1).1, .int .i64 (wn 1).2, .int .i64 (wn 2).1, .int .i64 (wn 2).2, .int .i64 (wn 3).1, .int .i64 (wn 3).2, .int .i64 1, .int .i64 0]] X (IntPost X U)) := fun X hX => unit_ok s.bd s.pa HV.out.set sb 1 wn HW12.out X (hpCell (hpKeep pS7 hX) 0) (hpCell (hpKeep pS7 hX) 1) U HU
      have HCK : Hid (∀ X, Below W7.heap.size W7 X → Calls Tryz.prog 19 #[.agg #[.slice (some ⟨sb, 0, none⟩) 1 1, .int .i64 1, .int .i64 1, .int .i64 0, .int .i64 1, .int .i64 0, .int .i64 (wn 0).1, .int .i64 (wn 0).2, .int .i64 (wn 1).1, .int .i64 (wn 1).2, .int .i64 (wn 2).1, .int .i64 (wn 2).2, .int .i64 (wn 3).1, .int .i64 (wn 3).2, .int .i64 1, .int .i64 0]] X (IntPost X 0)) := fun X hX => rcheck_ok s.bd s.pa HV.out.set sb 1 wn HW12.out X (hpCell (hpKeep pS7 hX) 0) (hpCell (hpKeep pS7 hX) 1)
      have HDV : Hid (∀ X, Below W7.heap.size W7 X → Calls Tryz.prog 16 #[.agg C, .agg #[.int .i64 (wn 0).1, .int .i64 (wn 0).2, .int .i64 (wn 1).1, .int .i64 (wn 1).2, .int .i64 (wn 2).1, .int .i64 (wn 2).2, .int .i64 (wn 3).1, .int .i64 (wn 3).2]] X fun r w' => ∃ ov' sv' mv', r = .returned (.agg (DvC (s.dk wn 4) ov' sv' mv')) ∧ DvRd w' (s.dk wn 4) ov' sv' mv' ∧ Below X.heap.size X w') := fun X hX => by
        have h := rdevice_truth s rv ov sv wn X (HR.out.keep (bt hB7 hX (Nat.le_refl _))) HWO.out (fun j hj hs => ((HV.out.tb j hj).2 hs).2.1)
        rw [HC.out] at h
        exact h
      have HGD : Hid (∀ X, Below W7.heap.size W7 X → DvRd X (s.dk wn 4) ov4 sv4 mv4) := fun X hX => HD4.out X (Agree.of_below (bt hb7 hX (Nat.le_refl _)))
      have HDD : Hid (DvC (s.dk wn 4) ov4 sv4 mv4 = DC) := by rw [← hpd]; exact HDC.out
      have rD : ∀ X, Below W7.heap.size W7 X → ∀ j v, DC.toList[j]? = some v → X.cell? ((⟨db, 0, none⟩ : Addr).add j) = some v := fun X hX => hpRowAt (hpKeep pD7 hX)
      have rL : ∀ X, Below W7.heap.size W7 X → ∀ j v, C.toList[j]? = some v → X.cell? ((⟨w.heap.size, 0, none⟩ : Addr).add j) = some v := fun X hX => hpRowAt (hpKeep pL7 hX)
      have rW : ∀ X, Below W7.heap.size W7 X → ∀ j v, (#[.int .i64 (wn 0).1, .int .i64 (wn 0).2, .int .i64 (wn 1).1, .int .i64 (wn 1).2, .int .i64 (wn 2).1, .int .i64 (wn 2).2, .int .i64 (wn 3).1, .int .i64 (wn 3).2] : Array Value).toList[j]? = some v → X.cell? ((⟨w.heap.size + 1, 0, none⟩ : Addr).add j) = some v := fun X hX => hpRowAt (hpKeep pW7 hX)
      have rC : ∀ X, Below W7.heap.size W7 X → ∀ j v, (#[.slice (some ⟨sb, 0, none⟩) 1 1, .int .i64 1, .int .i64 1, .int .i64 0, .int .i64 1, .int .i64 0, .int .i64 (wn 0).1, .int .i64 (wn 0).2, .int .i64 (wn 1).1, .int .i64 (wn 1).2, .int .i64 (wn 2).1, .int .i64 (wn 2).2, .int .i64 (wn 3).1, .int .i64 (wn 3).2, .int .i64 1, .int .i64 0] : Array Value).toList[j]? = some v → X.cell? ((⟨sb + 1, 0, none⟩ : Addr).add j) = some v := fun X hX => hpRowAt (hpKeep pC7 hX)
      have HRD := hid rD
      have HRL := hid rL
      have HRW := hid rW
      have HRC := hid rC
      have HB7 := hid hB7
      have kD : Below W7.heap.size W7 W7.drew := (Below.refl _ _).drew
      have hdk : decide ((k : Int) ≤ U) = true := decide_eq_true hkU
      clear rD rL rW rC pS7 pC7 pD7 pW7 pL7 hB7 hbr7 hb7 hb5 hd4 e0 e1 pw5 pw6 c0 c1 g5 g5' hk5 hW7 hpd HRS hb4
      refine wp_region_held_drew (S := fun V => Below W7.heap.size W7 V) (by kernel_rfl) kD (fun hH => ?_)
      clear hH
      refine wpAnyH_ready (rs := [0]) (by kernel_rfl) (by simp) ?_; refine AllReadyH.cons rfl (fun K hK => ?_) AllReadyH.nil; go_simp
      refine (HAW.out _).mono ?_
      rintro r y1 ⟨rfl, hy1⟩
      have hB1 := bt kD hy1 (Nat.le_refl _)
      refine hK.out _ _ hB1 (fun hS1 => ?_)
      clear hK K
      refine tkD 1 83 (v := ?_) rfl (by kernel_rfl) (fun _ _ _ h => h) rfl (by rfl) (by assumption) ?_ ?_; rotate_left; (intro w hSw; (try dsimp only at hSw); go_simp; try (with_reducible rfl)); simp only [List.setIfInBounds_toArray, List.set_cons_zero, List.set_cons_succ]
      refine tkD 2 84 (v := ?_) rfl (by kernel_rfl) (fun _ _ _ h => h) rfl (by rfl) (by assumption) ?_ ?_; rotate_left; (intro w hSw; (try dsimp only at hSw); go_simp; try (with_reducible rfl)); simp only [List.setIfInBounds_toArray, List.set_cons_zero, List.set_cons_succ]
      refine tkD 3 85 (v := ?_) rfl (by kernel_rfl) (fun _ _ _ h => h) rfl (by rfl) (by assumption) ?_ ?_; rotate_left; (intro w hSw; (try dsimp only at hSw); go_simp; try (with_reducible rfl)); simp only [List.setIfInBounds_toArray, List.set_cons_zero, List.set_cons_succ]
      refine tkD 4 86 (v := ?_) rfl (by kernel_rfl) (fun _ _ _ h => h) rfl (by rfl) (by assumption) ?_ ?_; rotate_left; (intro w hSw; (try dsimp only at hSw); go_simp; try (with_reducible rfl)); simp only [List.setIfInBounds_toArray, List.set_cons_zero, List.set_cons_succ]
      refine tkD 5 87 (v := .agg DC) rfl (by kernel_rfl) (fun _ _ _ h => h) rfl (by rfl) (by assumption) (fun X hX => run_load_rowF 61 (.tmp 12) rfl ⟨db, 0, none⟩ rfl DC _ (HRD.out X hX) Tryz.underlying61 rfl hi21) ?_; simp only [List.setIfInBounds_toArray, List.set_cons_zero, List.set_cons_succ]
      refine tkD 6 88 (v := .agg C) rfl (by kernel_rfl) (fun _ _ _ h => h) rfl (by rfl) (by assumption) (fun X hX => run_load_rowF 31 (.tmp 3) rfl ⟨w.heap.size, 0, none⟩ rfl C _ (HRL.out X hX) Tryz.underlying31 rfl hi19) ?_; simp only [List.setIfInBounds_toArray, List.set_cons_zero, List.set_cons_succ]
      refine tkD 7 89 (v := .agg #[.int .i64 (wn 0).1, .int .i64 (wn 0).2, .int .i64 (wn 1).1, .int .i64 (wn 1).2, .int .i64 (wn 2).1, .int .i64 (wn 2).2, .int .i64 (wn 3).1, .int .i64 (wn 3).2]) rfl (by kernel_rfl) (fun _ _ _ h => h) rfl (by rfl) (by assumption) (fun X hX => run_load_rowF 34 (.tmp 4) rfl ⟨w.heap.size + 1, 0, none⟩ rfl #[.int .i64 (wn 0).1, .int .i64 (wn 0).2, .int .i64 (wn 1).1, .int .i64 (wn 1).2, .int .i64 (wn 2).1, .int .i64 (wn 2).2, .int .i64 (wn 3).1, .int .i64 (wn 3).2] _ (HRW.out X hX) Tryz.underlying34 rfl infoW) ?_; simp only [List.setIfInBounds_toArray, List.set_cons_zero, List.set_cons_succ]
      refine wpAnyH_ready (rs := [8]) (by kernel_rfl) (by simp) ?_; refine AllReadyH.cons rfl (fun K hK => ?_) AllReadyH.nil; go_simp
      refine (HDV.out _ hB1).mono ?_
      rintro r y2 ⟨ov5, sv5, mv5, rfl, hrd5, hy2⟩
      have hB2 := bt hB1 hy2 (Nat.le_refl _)
      have HSD := hid (samedev_eq (s.dk wn 4) HSMD.out ov4 sv4 mv4 ov5 sv5 mv5 y2 (HGD.out y2 hB2) hrd5)
      rw [HDD.out] at HSD
      generalize DvC (s.dk wn 4) ov5 sv5 mv5 = DE at *
      refine hK.out _ _ hB2 (fun hS2 => ?_)
      clear hK K hS1
      refine wpAnyH_ready (rs := [9]) (by kernel_rfl) (by simp) ?_; refine AllReadyH.cons rfl (fun K hK => ?_) AllReadyH.nil; go_simp
      refine HSD.out.mono ?_
      rintro r y3 ⟨rfl, hy3⟩
      have hB3 := bt hB2 hy3 (Nat.le_refl _)
      refine hK.out _ _ hB3 (fun hS3 => ?_)
      clear hK K hS2
      refine tkD 10 92 (v := ?_) rfl (by kernel_rfl) (fun _ _ _ h => h) rfl (by rfl) (by assumption) ?_ ?_; rotate_left; (intro w hSw; (try dsimp only at hSw); go_simp; try (with_reducible rfl)); simp only [List.setIfInBounds_toArray, List.set_cons_zero, List.set_cons_succ]
      refine tkD 11 93 (v := ?_) rfl (by kernel_rfl) (fun _ _ _ h => h) rfl (by rfl) (by assumption) ?_ ?_; rotate_left; (intro w hSw; (try dsimp only at hSw); go_simp; try (with_reducible rfl)); simp only [List.setIfInBounds_toArray, List.set_cons_zero, List.set_cons_succ]
      refine tkD 12 94 (v := ?_) rfl (by kernel_rfl) (fun _ _ _ h => h) rfl (by rfl) (by assumption) ?_ ?_; rotate_left; (intro w hSw; (try dsimp only at hSw); go_simp; try (with_reducible rfl)); simp only [List.setIfInBounds_toArray, List.set_cons_zero, List.set_cons_succ]
      refine tkD 14 96 (v := ?_) rfl (by kernel_rfl) (fun _ _ _ h => h) rfl (by rfl) (by assumption) ?_ ?_; rotate_left; (intro w hSw; (try dsimp only at hSw); go_simp; try (with_reducible rfl)); simp only [List.setIfInBounds_toArray, List.set_cons_zero, List.set_cons_succ]
      refine wpAnyH_ready (rs := [13]) (by kernel_rfl) (by simp) ?_; refine AllReadyH.cons rfl (fun K hK => ?_) AllReadyH.nil; go_simp
      refine (HQU.out _ hB3).mono ?_
      rintro r y4 ⟨rfl, hy4⟩
      have hB4 := bt hB3 hy4 (Nat.le_refl _)
      refine hK.out _ _ hB4 (fun hS4 => ?_)
      clear hK K hS3
      refine tkD 15 97 (v := ?_) rfl (by kernel_rfl) (fun _ _ _ h => h) rfl (by rfl) (by assumption) ?_ ?_; rotate_left; (intro w hSw; (try dsimp only at hSw); go_simp; try (with_reducible rfl)); simp only [List.setIfInBounds_toArray, List.set_cons_zero, List.set_cons_succ]
      refine tkD 16 98 (v := ?_) rfl (by kernel_rfl) (fun _ _ _ h => h) rfl (by rfl) (by assumption) ?_ ?_; rotate_left; (intro w hSw; (try dsimp only at hSw); go_simp; try (with_reducible rfl)); simp only [List.setIfInBounds_toArray, List.set_cons_zero, List.set_cons_succ]
      refine tkD 17 99 (v := ?_) rfl (by kernel_rfl) (fun _ _ _ h => h) rfl (by rfl) (by assumption) ?_ ?_; rotate_left; (intro w hSw; (try dsimp only at hSw); go_simp; try (with_reducible rfl)); simp only [List.setIfInBounds_toArray, List.set_cons_zero, List.set_cons_succ]
      refine tkD 18 100 (v := ?_) rfl (by kernel_rfl) (fun _ _ _ h => h) rfl (by rfl) (by assumption) ?_ ?_; rotate_left; (intro w hSw; (try dsimp only at hSw); go_simp; try (with_reducible rfl)); simp only [List.setIfInBounds_toArray, List.set_cons_zero, List.set_cons_succ]
      refine tkD 19 101 (v := .agg #[.slice (some ⟨sb, 0, none⟩) 1 1, .int .i64 1, .int .i64 1, .int .i64 0, .int .i64 1, .int .i64 0, .int .i64 (wn 0).1, .int .i64 (wn 0).2, .int .i64 (wn 1).1, .int .i64 (wn 1).2, .int .i64 (wn 2).1, .int .i64 (wn 2).2, .int .i64 (wn 3).1, .int .i64 (wn 3).2, .int .i64 1, .int .i64 0]) rfl (by kernel_rfl) (fun _ _ _ h => h) rfl (by rfl) (by assumption) (fun X hX => run_load_rowF 66 (.tmp 14) rfl ⟨sb + 1, 0, none⟩ rfl #[.slice (some ⟨sb, 0, none⟩) 1 1, .int .i64 1, .int .i64 1, .int .i64 0, .int .i64 1, .int .i64 0, .int .i64 (wn 0).1, .int .i64 (wn 0).2, .int .i64 (wn 1).1, .int .i64 (wn 1).2, .int .i64 (wn 2).1, .int .i64 (wn 2).2, .int .i64 (wn 3).1, .int .i64 (wn 3).2, .int .i64 1, .int .i64 0] _ (HRC.out X hX) Tryz.underlying66 rfl infoC) ?_; simp only [List.setIfInBounds_toArray, List.set_cons_zero, List.set_cons_succ]
      refine wpAnyH_ready (rs := [20]) (by kernel_rfl) (by simp) ?_; refine AllReadyH.cons rfl (fun K hK => ?_) AllReadyH.nil; go_simp
      refine (HUN.out _ hB4).mono ?_
      rintro r y5 ⟨rfl, hy5⟩
      have hB5 := bt hB4 hy5 (Nat.le_refl _)
      refine hK.out _ _ hB5 (fun hS5 => ?_)
      clear hK K hS4
      refine tkD 21 103 (v := ?_) rfl (by kernel_rfl) (fun _ _ _ h => h) rfl (by rfl) (by assumption) ?_ ?_; rotate_left; (intro w hSw; (try dsimp only at hSw); go_simp; try (with_reducible rfl)); simp only [List.setIfInBounds_toArray, List.set_cons_zero, List.set_cons_succ]
      refine tkD 22 104 (v := ?_) rfl (by kernel_rfl) (fun _ _ _ h => h) rfl (by rfl) (by assumption) ?_ ?_; rotate_left; (intro w hSw; (try dsimp only at hSw); go_simp; try (with_reducible rfl)); simp only [List.setIfInBounds_toArray, List.set_cons_zero, List.set_cons_succ]
      refine tkD 23 105 (v := ?_) rfl (by kernel_rfl) (fun _ _ _ h => h) rfl (by rfl) (by assumption) ?_ ?_; rotate_left; (intro w hSw; (try dsimp only at hSw); go_simp; try (with_reducible rfl)); simp only [List.setIfInBounds_toArray, List.set_cons_zero, List.set_cons_succ]
      refine tkD 24 106 (v := .agg #[.slice (some ⟨sb, 0, none⟩) 1 1, .int .i64 1, .int .i64 1, .int .i64 0, .int .i64 1, .int .i64 0, .int .i64 (wn 0).1, .int .i64 (wn 0).2, .int .i64 (wn 1).1, .int .i64 (wn 1).2, .int .i64 (wn 2).1, .int .i64 (wn 2).2, .int .i64 (wn 3).1, .int .i64 (wn 3).2, .int .i64 1, .int .i64 0]) rfl (by kernel_rfl) (fun _ _ _ h => h) rfl (by rfl) (by assumption) (fun X hX => run_load_rowF 66 (.tmp 14) rfl ⟨sb + 1, 0, none⟩ rfl #[.slice (some ⟨sb, 0, none⟩) 1 1, .int .i64 1, .int .i64 1, .int .i64 0, .int .i64 1, .int .i64 0, .int .i64 (wn 0).1, .int .i64 (wn 0).2, .int .i64 (wn 1).1, .int .i64 (wn 1).2, .int .i64 (wn 2).1, .int .i64 (wn 2).2, .int .i64 (wn 3).1, .int .i64 (wn 3).2, .int .i64 1, .int .i64 0] _ (HRC.out X hX) Tryz.underlying66 rfl infoC) ?_; simp only [List.setIfInBounds_toArray, List.set_cons_zero, List.set_cons_succ]
      refine wpAnyH_ready (rs := [25]) (by kernel_rfl) (by simp) ?_; refine AllReadyH.cons rfl (fun K hK => ?_) AllReadyH.nil; go_simp
      refine (HCK.out _ hB5).mono ?_
      rintro r y6 ⟨rfl, hy6⟩
      have hB6 := bt hB5 hy6 (Nat.le_refl _)
      refine hK.out _ _ hB6 (fun hS6 => ?_)
      clear hK K hS5
      refine tkD 26 108 (v := ?_) rfl (by kernel_rfl) (fun _ _ _ h => h) rfl (by rfl) (by assumption) ?_ ?_; rotate_left; (intro w hSw; (try dsimp only at hSw); go_simp; try (with_reducible rfl)); simp only [List.setIfInBounds_toArray, List.set_cons_zero, List.set_cons_succ]
      refine tkD 27 109 (v := ?_) rfl (by kernel_rfl) (fun _ _ _ h => h) rfl (by rfl) (by assumption) ?_ ?_; rotate_left; (intro w hSw; (try dsimp only at hSw); go_simp; try (with_reducible rfl)); simp only [List.setIfInBounds_toArray, List.set_cons_zero, List.set_cons_succ]
      refine tkD 28 6 (v := ?_) rfl (by kernel_rfl) (fun _ _ _ h => h) rfl (by rfl) (by assumption) ?_ ?_; rotate_left; (intro w hSw; (try dsimp only at hSw); go_simp; try (with_reducible rfl)); simp only [List.setIfInBounds_toArray, List.set_cons_zero, List.set_cons_succ]
      refine wpAnyH_done (by kernel_rfl) ?_ _
      go_wp2
      go_ret
      exact ⟨rfl, bt HB7.out hB6 (Nat.le_refl _)⟩
    | true =>
      have hnd : pb.ph.isDone = false := by have := hD.out; cases h : pb.ph.isDone <;> simp_all
      have hd : pb.ph ≠ .done := fun e => by rw [e] at hnd; cases hnd
      have HQOK : Hid (pb.ph.ask.ok = true) := tru_ask hrel.out.good.ok HOK.out hrel.out.tru hnd
      have HQD := hid (tru_dev HOK.out hrel.out.good.ok hrel.out.tru hnd)
      have hk2 : decide ((2000 : Int) < (k : Int)) = false := decide_eq_false (by omega)
      have hk3 : decide (2000 < k) = false := decide_eq_false (by omega)
      clear hD hnd
      go_upto_if 44 with (fail)
      go_cut [11] from 42 to 52 (fun q wc => ∃ x : Int, q = .int .i64 x ∧ 0 ≤ x ∧ x ≤ 65535 ∧ wr = wc)
      case first =>
        by_cases hl0 : ln = 0
        · subst hl0
          go_wp2
          go_meet
          case rel => exact ⟨0, rfl, by omega, by omega, rfl⟩
        · have hl1 : 0 < ln := by omega
          obtain ⟨m, hm⟩ : ∃ m, k % ln = m := ⟨_, rfl⟩
          have hml : m < ln := by rw [← hm]; exact Nat.mod_lt _ hl1
          have hmod : (k : Int).tmod (ln : Int) = (m : Int) := by rw [← hm]; rfl
          have hmi : (0 : Int) ≤ (m : Int) := Int.natCast_nonneg _
          have hmli : (m : Int) < (ln : Int) := by omega
          have hwl : Ns wr (.slice ia ln ic) l := HL.out.keep hrel.out.bel
          obtain ⟨b, o, c, hv, -, -, hcell⟩ := hwl.at (by rintro rfl; have := HLN.out; simp at this; omega)
          simp only [Value.slice.injEq] at hv
          obtain ⟨rfl, -, rfl⟩ := hv
          have y0 := hcell m (by rw [HLN.out]; exact hml)
          have hwf := HL.out.2 (l.getD m 0) (by
            rw [List.getD_eq_getElem?_getD, List.getElem?_eq_getElem (by rw [HLN.out]; exact hml)]
            exact List.getElem_mem _)
          obtain ⟨x, hx⟩ : ∃ x, l.getD m 0 = x := ⟨_, rfl⟩
          rw [hx] at y0 hwf
          have HM := hid (fun X => mod_any x 65536 (by decide) (by decide) hwf X)
          have hx1 := Int.emod_nonneg x (show (65536 : Int) ≠ 0 by decide)
          have hx2 := Int.emod_lt_of_pos x (show (0 : Int) < 65536 by decide)
          obtain ⟨z, hz⟩ : ∃ z, x % 65536 = z := ⟨_, rfl⟩
          rw [hz] at HM hx1 hx2
          clear hm hwl hcell hx hz hwf hl0
          go_wp2_with (go_at_call 10; (with_reducible refine (HM.out _).mono ?_); rintro r w2 ⟨rfl, rfl⟩)
          go_meet
          case rel => exact ⟨z, rfl, hx1, by omega, rfl⟩
      case rest =>
        obtain ⟨x, rfl, hx0, hx1, rfl⟩ := hcut
        have prq := hrel.out.rq
        have psl := hrel.out.sl
        have HPV : Hid (∀ X, Calls Tryz.prog 11 #[.agg #[.int .i64 pb.ph.ask.fn, .int .i64 pb.ph.ask.addr, .int .i64 pb.ph.ask.qty, .int .i64 pb.ph.ask.code, .int .i64 pb.ph.ask.obj]] X (BoolPost X true)) := fun X => by
          have h := pqvalid_any pb.ph.ask.fn pb.ph.ask.addr pb.ph.ask.qty pb.ph.ask.code pb.ph.ask.obj X
          have e : Rq.ok ⟨pb.ph.ask.fn, pb.ph.ask.addr, pb.ph.ask.qty, pb.ph.ask.code, pb.ph.ask.obj⟩ = true := HQOK.out
          rw [e] at h
          exact h
        have HAN : Hid (∀ X, Below wr.heap.size wr X → Calls Tryz.prog 13 #[.agg C, .agg #[.int .i64 pb.ph.ask.fn, .int .i64 pb.ph.ask.addr, .int .i64 pb.ph.ask.qty, .int .i64 pb.ph.ask.code, .int .i64 pb.ph.ask.obj], .int .i64 x] X (OutPost X s pb.ph.ask)) := fun X hX => by
          have h := answer26_ok s rv ov sv pb.ph.ask x hx0 hx1 X (HR.out.keep (bt hrel.out.bel hX (Nat.le_refl _))) HV.out HQOK.out HQD.out
          rw [HC.out] at h
          exact h
        have HRQ := hid prq
        have HSL := hid psl
        have sw1 : IntKind.i64.wrap ((k : Int) + 1) = (k : Int) + 1 := IntWalk.i64_in _ (by omega)
        clear hx0 hx1
        go_wp2_with (first
          | (refine wpList_load_row rfl 44 (.tmp 9) rfl qb rfl 44 #[.int .i64 pb.ph.ask.fn, .int .i64 pb.ph.ask.addr, .int .i64 pb.ph.ask.qty, .int .i64 pb.ph.ask.code, .int .i64 pb.ph.ask.obj] (0, 0) _ prq Tryz.underlying44 rfl hi5 ?_)
          | (go_at_call 11; (with_reducible refine (HPV.out _).mono ?_); rintro r xu ⟨rfl, hbu⟩; have pru := hpKeep HRQ.out hbu; have psu := hpKeep HSL.out hbu)
          | (refine wpList_load_rowH (by rfl) 31 (.tmp 3) rfl w.heap.size rfl 31 C (0, 0) _ psu Tryz.underlying31 rfl hi19 ?_)
          | (refine wpList_load_rowH (by rfl) 44 (.tmp 9) rfl qb rfl 44 #[.int .i64 pb.ph.ask.fn, .int .i64 pb.ph.ask.addr, .int .i64 pb.ph.ask.qty, .int .i64 pb.ph.ask.code, .int .i64 pb.ph.ask.obj] (0, 0) _ pru Tryz.underlying44 rfl hi5 ?_)
          | (go_at_call 13; (with_reducible refine (HAN.out _ hbu).mono ?_); rintro r xa ⟨O, da, dc, oa, oc, rfl, hans, hfit, hrd, hba⟩))
        have hBa : Below wr.heap.size wr xa := bt hbu hba (Nat.le_refl _)
        have hin : InAt P xa O da dc oa oc := fun W hW => hrd W (Agree.of_keeps hW (fun j hj => by have := (hrel.out.lo j hj).2; have := hbu.size; omega))
        have hgs := PbGood.step HW12.out hrel.out.good hd hfit
        have HGS := hid hgs.1
        have hkU2 : (k : Int) < U := by have := hgs.2; have := hrel.out.q; omega
        have HTR := hid (tru_step HOK.out HWO.out hrel.out.good.ok hrel.out.tru hans)
        have HFE := hid (pfeed_any HWO.out (hrel.out.at_.keep (F := fun _ => False) (Keeps.of_below hBa) (fun _ _ e => e.elim)) hrel.out.good.ok hd hrel.out.good.q0 (by have := hrel.out.q; omega) O da dc oa oc hin hfit)
        obtain ⟨pb', hpb'⟩ : ∃ y, pb.feed wn O = y := ⟨_, rfl⟩
        rw [hpb'] at HFE HGS HTR
        obtain ⟨D', hD'⟩ : ∃ D, (!pb'.ph.isDone) = D := ⟨_, rfl⟩
        obtain ⟨rq', hrq'⟩ : ∃ q, pb'.ph.ask = q := ⟨_, rfl⟩
        have hq' : pb'.q = (k : Int) + 1 := by rw [← hpb', ← hrel.out.q]; rfl
        have HQQ := hid hq'
        have HDD := hid hD'
        have HRR := hid hrq'
        have HBA := hid hBa
        clear hgs hpb' hq' hD' hrq' hBa hin hans hfit hrd hbu hba prq psl pru psu hk2 hk3 HPV HAN
        refine HFE.out.mono ?_
        rintro r xf ⟨rfl, hpf, hkf⟩
        have rqf := hpKeeps (hpKeep HRQ.out HBA.out) hkf hrel.out.nq
        have u0 := hpCell rqf 0
        have u1 := hpCell rqf 1
        have u2 := hpCell rqf 2
        have u3 := hpCell rqf 3
        have u4 := hpCell rqf 4
        have HNX := hid (fun (o : Obj) => pnext_any (hpf.keep (F := fun _ => False) (Keeps.of_below (bal' xf o)) (fun _ _ e => e.elim)) HGS.out.ok rq' D' HRR.out HDD.out)
        go_wp2_with (first
          | (go_at_call 9; (with_reducible refine (HNX.out _).mono ?_); rintro r xn ⟨rfl, hbn⟩; have HZN := hid (hpKeep (hpNew xf (.cells #[.int .i64 pb.ph.ask.fn, .int .i64 pb.ph.ask.addr, .int .i64 pb.ph.ask.qty, .int .i64 pb.ph.ask.code, .int .i64 pb.ph.ask.obj] 44)) hbn))
          | (refine wpList_storeW rfl 44 (.tmp 9) (.tmp 40) rfl xf.heap.size 0 _ 44 #[.int .i64 rq'.fn, .int .i64 rq'.addr, .int .i64 rq'.qty, .int .i64 rq'.code, .int .i64 rq'.obj] rfl rfl HZN.out (by simp) hi5 rfl ?_; intro xs gs hks hzs))
        have z1 := HBA.out.size
        have z3 := hkf.size
        have z4 := hbn.size
        have z5 : xf.heap.size < xn.heap.size := by simp at z4; omega
        have z6 := hks.size
        have zs := hpLt hrel.out.sl
        have zc := hpLt hrel.out.wg
        have zw := hrel.out.bel.size
        have hbx : Below w.heap.size w xf := (bt hrel.out.bel HBA.out (Nat.le_refl _)).trans (hkf.below (by omega) (fun j hj e => by have := (hrel.out.lo j e).1; omega))
        have HREL : Hid (SvRel w g C wn U s (k + 1) xf.heap.size (Grw P xa xf) pb' xs) := by
          refine ⟨?_, fun e => ?_, ?_, HGS.out, HTR.out, (by rw [HQQ.out]; omega), fun j hj => ?_, ?_, ?_, (bt (bta hbx (Nat.le_refl _) _) hbn (Nat.le_refl _)).trans (hks.below (by omega) (fun j hj e => by omega))⟩
          · rw [HRR.out]
            exact gs
          · rcases e with e | e
            · have := (hrel.out.lo _ e).2
              omega
            · omega
          · refine ((hpf.keep (F := fun _ => False) (Keeps.of_below (bal' xf _)) (fun _ _ e => e.elim)).keep (F := fun _ => False) (Keeps.of_below hbn) (fun _ _ e => e.elim)).keep hks (fun j _ e h => ?_)
            rcases h with h | h
            · have := (hrel.out.lo _ h).2
              omega
            · omega
          · rcases hj with h | h
            · have := hrel.out.lo _ h
              omega
            · omega
          · exact hpKeeps (hpKeep (hpKeep (hpKeeps (hpKeep hrel.out.sl HBA.out) hkf (fun h => by have := (hrel.out.lo _ h).1; omega)) (bal' xf _)) hbn) hks (by omega)
          · exact hpKeeps (hpKeep (hpKeep (hpKeeps (hpKeep hrel.out.wg HBA.out) hkf (fun h => by have := (hrel.out.lo _ h).1; omega)) (bal' xf _)) hbn) hks (by omega)
        go_roundw
        case rel => exact ⟨k + 1, xf.heap.size, Grw P xa xf, pb', D', by go_num, rfl, rfl, HDD.out, by omega, HREL.out⟩
        case measure => simp [intOf]; omega

end Go.Proofs.YtliblgmpclefgaaGreat
