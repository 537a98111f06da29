/-
  Texts 50 of the claim.
-/
import Derived.Test.YtipnamoocemeeaaGreatD37
import Derived.Test.YtipnamoocemeeaaGreatD39
import Derived.Deep.MidRow
import Derived.Test.YtipnamoocemeeaaGreatD48
import Derived.Test.YtipnamoocemeeaaGreatD49
import Derived.Test.YtipnamoocemeeaaGreatD28
import Derived.Test.YtipnamoocemeeaaGreatD26
import Derived.Test.YtipnamoocemeeaaGreatD18
import Derived.Deep.CutBlock
namespace Go.Proofs.YtipnamoocemeeaaGreat
open Go.RowKit
theorem infoSl : (Tryz.prog.info? 133).map (·.size) = some 19 := by kernel_rfl
theorem step_storeW {P : Program} {w : World} {ops : Array Oper} {op : Oper} {a : Act} {K : Act → World → Prop} {Q : Exit → Act → World → Prop} {E : Prop} (hgd : op.guard = none) (ty : TypeId) (x y : Operand) (ho : op.op = .store ty x y)
    (p o : Nat) (old : Array Value) (t : TypeId) (cells : Array Value) (hx : a.eval x = .pointer (some ⟨p, o, none⟩)) (hy : a.eval y = .agg cells)
    (hb : w.heap[p]? = some (.cells old t (0, 0))) (hsz : o + cells.size ≤ old.size) (hi : (P.info? ty).map (·.size) = some cells.size) (h1 : cells.toList.all (·.oneCell') = true)
    (h : ∀ w', w'.heap[p]? = some (.cells (old.toList.take o ++ cells.toList ++ old.toList.drop (o + cells.toList.length)).toArray t (0, 0)) → Keeps (· = p) w w' → w'.heap.size = w.heap.size → K (a.put op.dst undef) w') :
    if Region.wanted op (yielded ops a.tmps) = true then Oper.wp P op a w K Q else E := by
  rw [if_pos (by simp [Region.wanted, hgd])]
  refine wp_store_mid ty x y ho p o cells hx hy (fun j hj => ?_) hi (by rw [← Array.all_toList]; exact h1) ?_
  · refine ⟨?_, hpFree hb _⟩
    rw [hpCell hb]
    simp
    omega
  · obtain ⟨k1, k2⟩ := keepsCells p cells.toList o w
    exact h _ (hpSetCells p t (0, 0) cells.toList o w old hb (by simpa using hsz)) k1 k2
def vOf (rp : Rp) : Int := if rp.exc = 0 then 1 else 2
structure RpJ (s : Sl) (rp : Rp) : Prop where
  ob : ∀ y ∈ rp.objs, y ∈ s.objs
  lv : rp.fn = 43 → rp.exc = 0 → rp.level = s.lv ∧ 0 < s.lv
  sd : rp.data.length ≤ 251
  nx : rp.fn = 43 → rp.more = true → ∃ x ∈ s.objs, rp.next = x.id
structure AnsR (s : Sl) (q : Rq) (rp : Rp) : Prop where
  ans : Ans s q ⟨vOf rp, rp⟩
  fit : Oc.fit ⟨vOf rp, rp⟩
  j : RpJ s rp
def AnsPost (w : World) (s : Sl) (q : Rq) (r : Ending) (w' : World) : Prop :=
  ∃ rp da dc oa oc, r = .returned (.agg #[.int .i64 rp.fn, .int .i64 rp.exc, .slice da rp.data.length dc, .int .i64 rp.code, .int .i64 rp.level, .bool rp.more, .int .i64 rp.next, .slice oa rp.objs.length oc]) ∧ AnsR s q rp ∧ (∀ W, Agree w.heap.size w' W → RpIs W rp da dc oa oc) ∧ Below w.heap.size w w'
theorem AnsR.tab {s : Sl} {q : Rq} {k : Nat} (hk : q.fn = (k : Nat) + 1) (h4 : k < 4) {e : Int} (he : TabE (s.ts k) q e) {D : List UInt8} (hD : D.length ≤ 250) : AnsR s q ⟨q.fn, e, D, 0, 0, false, 0, []⟩ := by
  refine ⟨⟨fun j hj e2 => ?_, fun e => by omega, fun e => by omega⟩, ⟨Nat.zero_le _, (fun y hy => by cases hy), by show D.length ≤ 300; omega, by show (0 : Int) ≤ _; decide⟩, ⟨(fun y hy => by cases hy), (fun e => by have e : q.fn = 43 := e; omega), by show D.length ≤ 251; omega, fun e => by have e : q.fn = 43 := e; omega⟩⟩
  obtain rfl : j = k := by omega
  unfold vOf
  refine ⟨fun h => ?_, fun h1 h2 => ?_, fun h1 h2 h3 => ?_, fun h1 h2 h3 => ?_⟩
  · have := he.no h
    subst this
    exact ⟨rfl, rfl⟩
  · have := he.big h1 h2
    subst this
    exact ⟨rfl, rfl⟩
  · have := he.yes h1 h2 h3
    subst this
    rfl
  · have := he.out h1 h2 h3
    subst this
    exact ⟨rfl, rfl⟩
theorem AnsPost.tab {w w5 w' : World} {s : Sl} {q : Rq} {k X : Nat} (hk : q.fn = (k : Nat) + 1) (h4 : k < 4) {e : Int} (he : TabE (s.ts k) q e) {D : List UInt8} (hD : D.length ≤ 250) {da : Option Addr} {dc : Nat} (hown : w5.ownsRow X 5 1 (.slice da D.length dc) D.length (u8s D)) {zb : Nat} (hz : zb < X) (hk8 : Keeps (· = zb) w5 w') (hw : w.heap.size ≤ X) (hb : Below w.heap.size w w') :
    AnsPost w s q (.returned (.agg #[.int .i64 q.fn, .int .i64 e, .slice da D.length dc, .int .i64 0, .int .i64 0, .bool false, .int .i64 0, .slice none 0 0])) w' := by
  refine ⟨⟨q.fn, e, D, 0, 0, false, 0, []⟩, da, dc, none, 0, rfl, AnsR.tab hk h4 he hD, fun W hW => ⟨?_, Obs.nil W, (by show (0 : Int) ≤ _; decide), (by show _ ≤ (0 : Int); decide)⟩, hb⟩
  exact Bs.own (own_agree (own_keeps hown hk8 (fun j hj e => by have := (hown.lt j hj).1; omega)) hw hW)
theorem fromO_split {ob : Int} {l done rest : List Ob} (h : l = done ++ rest) (hd : ∀ x ∈ done, x.id < ob) (hr : ∀ x ∈ rest, ob ≤ x.id) : fromO ob l = rest := by
  unfold fromO
  rw [h, List.filter_append, List.filter_eq_nil_iff.2 (fun x hx => by have := hd x hx; simp; omega), List.filter_eq_self.2 (fun x hx => by simp [hr x hx])]
  rfl
theorem rises_ordF : ∀ (l : List Ob) (a : Int), rises a l = true → ordF a l = true ∧ ∀ y ∈ l, y.id ≤ 255
  | [], a, h => ⟨rfl, fun y hy => by cases hy⟩
  | x :: l, a, h => by
    simp only [rises, Bool.and_eq_true, decide_eq_true_eq] at h
    obtain ⟨h1, h2⟩ := rises_ordF l x.id h.2
    refine ⟨by simp only [ordF, Bool.and_eq_true, decide_eq_true_eq]; exact ⟨h.1.1, h1⟩, fun y hy => ?_⟩
    rcases List.mem_cons.1 hy with e | e
    · subst e; exact h.1.2
    · exact h2 y e
theorem ordF_head {l : List Ob} {a b : Int} (h : ordF a l = true) (hb : ∀ y, l.head? = some y → b ≤ y.id) : ∀ y ∈ l, b ≤ y.id := by
  cases l with
  | nil => intro y hy; cases hy
  | cons x l =>
    simp only [ordF, Bool.and_eq_true, decide_eq_true_eq] at h
    have h0 := hb x rfl
    intro y hy
    rcases List.mem_cons.1 hy with e | e
    · subst e; exact h0
    · have := (ordF_lt l x.id h.2 y e).1
      omega
theorem AnsR.dev {s : Sl} (hv : s.val) {q : Rq} (hq : q.fn = 43) (hl : 0 < s.lv) {n : Nat} {nx : Int} (h1 : 1 ≤ n) (h2 : n ≤ (fromO q.obj s.objs).length) (h3 : ∀ x, (fromO q.obj s.objs)[n]? = some x → nx = x.id) (h4 : (fromO q.obj s.objs).length ≤ n → nx = 0) :
    AnsR s q ⟨43, 0, [], 3, s.lv, decide (n < (fromO q.obj s.objs).length), nx, (fromO q.obj s.objs).take n⟩ := by
  have hon := hv.on hl
  obtain ⟨o1, o2⟩ := rises_ordF _ _ (hv.ri hl)
  have hsub : ∀ y ∈ fromO q.obj s.objs, y ∈ s.objs := fun y hy => (List.mem_filter.1 hy).1
  have hlen : (fromO q.obj s.objs).length ≤ s.objs.length := List.length_filter_le _ _
  refine ⟨⟨fun j hj e2 => by omega, fun _ => ⟨fun e => by omega, fun _ done rest e1 e2 e3 e4 => ?_⟩, fun e => by omega⟩, ⟨?_, fun y hy => ?_, Nat.zero_le _, ?_⟩, ⟨fun y hy => hsub y (List.mem_of_mem_take hy), fun _ _ => ⟨rfl, hl⟩, Nat.zero_le _, fun _ hm => ?_⟩⟩
  · have hro : ordF (lastId (-1) done) rest = true := by rw [e1] at o1; exact (ordF_split _ _ _ o1).2
    have hF : fromO q.obj s.objs = rest := fromO_split e1 e3 (ordF_head hro e4)
    rw [hF] at h2 h3 h4 ⊢
    exact ⟨n, h1, h2, rfl, rfl, rfl, rfl, rfl, h3⟩
  · show ((fromO q.obj s.objs).take n).length ≤ 40
    rw [List.length_take]
    omega
  · have hy2 := hsub y (List.mem_of_mem_take hy)
    obtain ⟨i, hi⟩ := List.getElem?_of_mem hy2
    have := hv.vl hl i y hi
    omega
  · show nx ≤ 9223372036854775807
    by_cases hn : n < (fromO q.obj s.objs).length
    · obtain ⟨x, hx⟩ := gs (l := fromO q.obj s.objs) rfl hn
      have := h3 x hx
      have := o2 x (hsub x (List.mem_of_getElem? hx))
      omega
    · have := h4 (by omega)
      omega
  · have hm : n < (fromO q.obj s.objs).length := of_decide_eq_true hm
    obtain ⟨x, hx⟩ := gs (l := fromO q.obj s.objs) rfl hm
    exact ⟨x, hsub x (List.mem_of_getElem? hx), h3 x hx⟩
theorem AnsR.srv {s : Sl} (hv : s.val) {q : Rq} (hq : q.fn = 17) (hs : s.hs = true) : AnsR s q ⟨17, 0, s.sd, 0, 0, false, 0, []⟩ :=
  ⟨⟨fun j hj e => by omega, fun e => by omega, fun _ => ⟨fun e => (by rw [hs] at e; cases e), fun _ => ⟨rfl, rfl, rfl⟩⟩⟩, ⟨Nat.zero_le _, (fun y hy => by cases hy), by have := hv.sl; show s.sd.length ≤ 300; omega, by show (0 : Int) ≤ _; decide⟩, ⟨(fun y hy => by cases hy), (fun e => by cases e), by have := hv.sl; show s.sd.length ≤ 251; omega, fun e => by cases e⟩⟩
theorem AnsR.nsrv {s : Sl} {q : Rq} (hq : q.fn = 17) (hs : s.hs = false) : AnsR s q ⟨17, 1, [], 0, 0, false, 0, []⟩ :=
  ⟨⟨fun j hj e => by omega, fun e => by omega, fun _ => ⟨fun _ => ⟨rfl, rfl⟩, fun e => (by rw [hs] at e; cases e)⟩⟩, ⟨Nat.zero_le _, (fun y hy => by cases hy), by show 0 ≤ 300; decide, by show (0 : Int) ≤ _; decide⟩, ⟨(fun y hy => by cases hy), (fun e => by cases e), Nat.zero_le _, fun e => by cases e⟩⟩
theorem AnsR.ndev {s : Sl} {q : Rq} (hq : q.fn = 43) (hl : s.lv = 0) {D : List UInt8} (hD : D.length ≤ 250) : AnsR s q ⟨43, 1, D, 0, 0, false, 0, []⟩ :=
  ⟨⟨fun j hj e => by omega, fun _ => ⟨fun _ => ⟨rfl, rfl⟩, fun e => by omega⟩, fun e => by omega⟩, ⟨Nat.zero_le _, (fun y hy => by cases hy), by show D.length ≤ 300; omega, by show (0 : Int) ≤ _; decide⟩, ⟨(fun y hy => by cases hy), (fun _ e => by cases e), by show D.length ≤ 251; omega, fun _ e => by cases e⟩⟩
theorem AnsPost.row {w w5 w' : World} {s : Sl} {q : Rq} {X : Nat} {fn e : Int} {D : List UInt8} (hA : AnsR s q ⟨fn, e, D, 0, 0, false, 0, []⟩) {da : Option Addr} {dc : Nat} (hown : w5.ownsRow X 5 1 (.slice da D.length dc) D.length (u8s D)) {zb : Nat} (hz : zb < X) (hk8 : Keeps (· = zb) w5 w') (hw : w.heap.size ≤ X) (hb : Below w.heap.size w w') :
    AnsPost w s q (.returned (.agg #[.int .i64 fn, .int .i64 e, .slice da D.length dc, .int .i64 0, .int .i64 0, .bool false, .int .i64 0, .slice none 0 0])) w' := by
  refine ⟨⟨fn, e, D, 0, 0, false, 0, []⟩, da, dc, none, 0, rfl, hA, fun W hW => ⟨?_, Obs.nil W, (by show (0 : Int) ≤ _; decide), (by show _ ≤ (0 : Int); decide)⟩, hb⟩
  exact Bs.own (own_agree (own_keeps hown hk8 (fun j hj e => by have := (hown.lt j hj).1; omega)) hw hW)
theorem AnsPost.dev {w w3 w5 w' : World} {s : Sl} (hv : s.val) {q : Rq} (hq : q.fn = 43) (hl : 0 < s.lv) {n : Nat} {nx : Int} (h1 : 1 ≤ n) (h2 : n ≤ (fromO q.obj s.objs).length) (h3 : ∀ x, (fromO q.obj s.objs)[n]? = some x → nx = x.id) (h4 : (fromO q.obj s.objs).length ≤ n → nx = 0)
    {oa : Option Addr} {oc : Nat} (hob : ∀ W, Agree w3.heap.size w5 W → Obs W (.slice oa n oc) ((fromO q.obj s.objs).take n)) {zb : Nat} (hz : zb < w3.heap.size) (hk8 : Keeps (· = zb) w5 w') (hw : w.heap.size ≤ w3.heap.size) (hb : Below w.heap.size w w') :
    AnsPost w s q (.returned (.agg (DvqC 0 3 s.lv (decide (n < (fromO q.obj s.objs).length)) nx (.slice oa n oc)))) w' := by
  have hn : ((fromO q.obj s.objs).take n).length = n := by rw [List.length_take]; omega
  have hlv := hv.lv
  refine ⟨⟨43, 0, [], 3, s.lv, decide (n < (fromO q.obj s.objs).length), nx, (fromO q.obj s.objs).take n⟩, none, 0, oa, oc, by unfold DvqC; rw [hn]; rfl, AnsR.dev hv hq hl h1 h2 h3 h4, fun W hW => ⟨Bs.nil _, ?_, (by show s.lv ≤ _; omega), (by show _ ≤ s.lv; omega)⟩, hb⟩
  show Obs W (.slice oa ((fromO q.obj s.objs).take n).length oc) _
  rw [hn]
  exact hob W ((Agree.of_keeps hk8 (fun k e => by omega)).trans (hW.mono hw))
set_option maxRecDepth 100000 in
set_option maxHeartbeats 12800000 in
theorem ranswer_ok (s : Sl) (rv : Nat → Value) (ov sv : Value) (q : Rq) (x : Int) (x0 : 0 ≤ x) (x1 : x ≤ 65535) (w : World) (hR : SlR w s rv ov sv) (hv : s.val) (hq : q.ok = true) (hd : q.fn = 43 → q.code = 3 ∧ (0 < s.lv → fromO q.obj s.objs ≠ [])) :
    Calls Tryz.prog 73 #[.agg (SlC s rv ov sv), .agg #[.int .i64 q.fn, .int .i64 q.addr, .int .i64 q.qty, .int .i64 q.code, .int .i64 q.obj], .int .i64 x] w (AnsPost w s q) := by
  obtain ⟨C, hC⟩ : ∃ C, SlC s rv ov sv = C := ⟨_, rfl⟩
  have hcs : C.size = 19 := by rw [← hC]; rfl
  have hi19 : (Tryz.prog.info? 133).map (·.size) = some C.size := by rw [hcs]; exact infoSl
  rw [hC]
  obtain ⟨W1, hW1⟩ : ∃ W, ((w.alloc (.cells C 133)).alloc (.cells #[.int .i64 q.fn, .int .i64 q.addr, .int .i64 q.qty, .int .i64 q.code, .int .i64 q.obj] 39)).alloc (.cells #[.int .i64 0, .int .i64 0, .slice none 0 0, .int .i64 0, .int .i64 0, .bool false, .int .i64 0, .slice none 0 0] 53) = W := ⟨_, rfl⟩
  have hz1 : W1.heap.size = w.heap.size + 3 := by rw [← hW1]; simp
  have hb1 : Below w.heap.size w W1 := by rw [← hW1]; exact bta (bta (bal' w _) (Nat.le_refl _) _) (Nat.le_refl _) _
  have pS : W1.heap[w.heap.size]? = some (.cells C 133) := by rw [← hW1]; exact hpKeep (hpKeep (hpNew w _) (bal' _ _)) (bal' _ _)
  have pQ : W1.heap[w.heap.size + 1]? = some (.cells #[.int .i64 q.fn, .int .i64 q.addr, .int .i64 q.qty, .int .i64 q.code, .int .i64 q.obj] 39) := by rw [← hW1]; refine hpKeep ?_ (bal' _ _); have h := hpNew (w.alloc (.cells C 133)) (.cells #[.int .i64 q.fn, .int .i64 q.addr, .int .i64 q.qty, .int .i64 q.code, .int .i64 q.obj] 39); rw [World.size_alloc] at h; exact h
  have pZ : W1.heap[w.heap.size + 2]? = some (.cells #[.int .i64 0, .int .i64 0, .slice none 0 0, .int .i64 0, .int .i64 0, .bool false, .int .i64 0, .slice none 0 0] 53) := by rw [← hW1]; have h := hpNew ((w.alloc (.cells C 133)).alloc (.cells #[.int .i64 q.fn, .int .i64 q.addr, .int .i64 q.qty, .int .i64 q.code, .int .i64 q.obj] 39)) (.cells #[.int .i64 0, .int .i64 0, .slice none 0 0, .int .i64 0, .int .i64 0, .bool false, .int .i64 0, .slice none 0 0] 53); rw [World.size_alloc, World.size_alloc] at h; exact h
  obtain ⟨zb, hzb⟩ : ∃ n, w.heap.size + 2 = n := ⟨_, rfl⟩
  have E2 : Hid (w.heap.size + 1 + 1 = zb) := hzb
  have EZ := hid hzb
  rw [hzb] at pZ
  have kk0 : Keeps (· = zb) W1 W1 := Keeps.refl _ _
  have hnS : ¬ w.heap.size = zb := by omega
  have hnQ : ¬ w.heap.size + 1 = zb := by omega
  have q0 : ∀ X, Keeps (· = zb) W1 X → X.cell? ⟨w.heap.size + 1, 0, none⟩ = some (.int .i64 q.fn) := fun X h => hpCell (hpKeeps pQ h hnQ) 0
  have q1 : ∀ X, Keeps (· = zb) W1 X → X.cell? ⟨w.heap.size + 1, 1, none⟩ = some (.int .i64 q.addr) := fun X h => hpCell (hpKeeps pQ h hnQ) 1
  have q2 : ∀ X, Keeps (· = zb) W1 X → X.cell? ⟨w.heap.size + 1, 2, none⟩ = some (.int .i64 q.qty) := fun X h => hpCell (hpKeeps pQ h hnQ) 2
  have q3 : ∀ X, Keeps (· = zb) W1 X → X.cell? ⟨w.heap.size + 1, 3, none⟩ = some (.int .i64 q.code) := fun X h => hpCell (hpKeeps pQ h hnQ) 3
  have q4 : ∀ X, Keeps (· = zb) W1 X → X.cell? ⟨w.heap.size + 1, 4, none⟩ = some (.int .i64 q.obj) := fun X h => hpCell (hpKeeps pQ h hnQ) 4
  have HVS : Hid (Calls Tryz.prog 69 #[.agg C] W1 (BoolPost W1 true)) := by
    have h := rslave_any s rv ov sv W1 (hR.keep hb1)
    rw [hC] at h
    exact h.mono fun _ _ ⟨V, h1, h2, h3⟩ => ⟨by rw [h1, h2.out.2 hv], h3⟩
  have HVQ : Hid (∀ X, Calls Tryz.prog 115 #[.agg #[.int .i64 q.fn, .int .i64 q.addr, .int .i64 q.qty, .int .i64 q.code, .int .i64 q.obj]] X (BoolPost X true)) := fun X => by
    have h := rqvalid_any q.fn q.addr q.qty q.code q.obj X
    have e : Rq.ok ⟨q.fn, q.addr, q.qty, q.code, q.obj⟩ = true := hq
    rw [e] at h
    exact h
  have PS := hid pS
  have PQ := hid pQ
  have PZ := hid pZ
  have HW1 := hid hW1
  have HB1 := hid hb1
  have HZ1 := hid hz1
  have HC := hid hC
  have HR := hid hR
  have HV := hid hv
  have HQ := hid hq
  have u0 : ¬ x < 0 := by omega
  have u1 : ¬ 65535 < x := by omega
  have HX : Hid (0 ≤ x ∧ x ≤ 65535) := ⟨x0, x1⟩
  clear hW1 hb1 hz1 hC pS pQ pZ hR hv x0 x1 hzb
  have hfn : (1 ≤ q.fn ∧ q.fn ≤ 4) ∨ q.fn = 17 ∨ q.fn = 43 := by
    unfold Rq.ok at hq
    split at hq
    · exact .inl (by assumption)
    · split at hq
      · exact .inr (.inl (by assumption))
      · split at hq
        · exact .inr (.inr (by assumption))
        · cases hq
  clear hq
  go_enter Tryz.func73, Tryz.ntmps73
  go_upto_region 1 with (fail)
  rw [HW1.out, E2.out]
  go_upto_region 3 with (first
    | (refine wpList_load_row rfl 133 (.tmp 3) rfl w.heap.size rfl 133 C (0, 0) _ PS.out Tryz.underlying133 rfl hi19 ?_)
    | (go_at_call 69; (with_reducible refine HVS.out.mono ?_); rintro r w2 ⟨rfl, hb2⟩; have kk2 : Keeps (· = zb) W1 w2 := Keeps.of_below hb2)
    | (go_at_call 115; (with_reducible refine (HVQ.out _).mono ?_); rintro r w3 ⟨rfl, hb3⟩; have kk3 : Keeps (· = zb) W1 w3 := kk2.trans (Keeps.of_below hb3) (fun _ _ e => e)))
  have hb13 : Below W1.heap.size W1 w3 := bt hb2 hb3 (Nat.le_refl _)
  have HB3 := hid (bt HB1.out hb13 (Nat.le_refl _))
  have pZ3 : w3.heap[zb]? = some (.cells #[.int .i64 0, .int .i64 0, .slice none 0 0, .int .i64 0, .int .i64 0, .bool false, .int .i64 0, .slice none 0 0] 53) := hpKeep PZ.out hb13
  have pS3 : w3.heap[w.heap.size]? = some (.cells C 133) := hpKeep PS.out hb13
  have HB13 := hid hb13
  have HPZ := hid pZ3
  have HPS := hid pS3
  have hz3 : W1.heap.size ≤ w3.heap.size := hb13.size
  have HZ3 : Hid (zb < w3.heap.size ∧ w.heap.size < w3.heap.size) := by have := HZ1.out; have := EZ.out; show _ ∧ _; omega
  clear hb13 hb2 hb3 pZ3 pS3 kk2 kk0 hz3 u0 u1 HVS HVQ
  rcases hfn with ⟨f1, f2⟩ | hf | hf
  · -- a table
    obtain ⟨k, hk⟩ : ∃ k : Nat, q.fn = (k : Int) + 1 := ⟨(q.fn - 1).toNat, by omega⟩
    have h4 : k < 4 := by omega
    have s1 : IntKind.i64.wrap (q.fn - 1) = (k : Int) := (IntWalk.i64_in _ (by omega)).trans (by omega)
    have hki : (0 : Int) ≤ (k : Int) := Int.natCast_nonneg _
    have hkl : (k : Int) < 4 := by omega
    have t0 : ∀ X, Keeps (· = zb) W1 X → X.cell? ⟨w.heap.size, 3 + k * 3, none⟩ = some (.bool (s.ts k).sup) := fun X h => (SlC_tab s rv ov sv (by rw [HC.out]; exact hpKeeps PS.out h hnS) h4).1
    have t1 : ∀ X, Keeps (· = zb) W1 X → X.cell? ⟨w.heap.size, 3 + k * 3 + 1, none⟩ = some (rv k) := fun X h => (SlC_tab s rv ov sv (by rw [HC.out]; exact hpKeeps PS.out h hnS) h4).2.1
    have t2 : ∀ X, Keeps (· = zb) W1 X → X.cell? ⟨w.heap.size, 3 + k * 3 + 2, none⟩ = some (.int .i64 (s.ts k).most) := fun X h => (SlC_tab s rv ov sv (by rw [HC.out]; exact hpKeeps PS.out h hnS) h4).2.2
    have kD : Keeps (· = zb) W1 w3.drew := kk3.trans (Keeps.of_below (F := fun _ => False) (Below.refl _ _).drew) (fun _ _ e => e.elim)
    have HTB : Hid (Calls Tryz.prog 116 #[.agg #[.bool (s.ts k).sup, rv k, .int .i64 (s.ts k).most], .agg #[.int .i64 q.fn, .int .i64 q.addr, .int .i64 q.qty, .int .i64 q.code, .int .i64 q.obj], .int .i64 x] w3.drew fun r w' => ∃ e, TabE (s.ts k) q e ∧ TabPost w3.drew q.fn e r w') :=
      rtable_any (s.ts k) (rv k) q HQ.out ⟨f1, f2⟩ x HX.out.1 HX.out.2 w3.drew ((HR.out.rg k h4).keep (bt HB3.out (Below.refl _ _).drew (Nat.le_refl _))) (fun hs => ((HV.out.tb k h4).2 hs).2.1)
    have HK := hid hk
    clear hk hd
    go_upto_region 4 with (fail)
    refine wp_region_held_drew (S := fun V => Keeps (· = zb) W1 V) (by kernel_rfl) kD (fun hH => ?_)
    refine tkD 0 27 (v := ?_) rfl (by kernel_rfl) (fun _ _ _ h => h) rfl (by rfl) (by assumption) ?_ ?_; rotate_left; (intro w hSw; (try dsimp only at hSw); go_simp; try (with_reducible rfl)); simp only [List.setIfInBounds_toArray, List.set_cons_zero, List.set_cons_succ]
    refine tkD 1 28 (v := ?_) rfl (by kernel_rfl) (fun _ _ _ h => h) rfl (by rfl) (by assumption) ?_ ?_; rotate_left; (intro w hSw; (try dsimp only at hSw); go_simp; try (with_reducible rfl)); simp only [List.setIfInBounds_toArray, List.set_cons_zero, List.set_cons_succ]
    refine tkD 2 29 (v := ?_) rfl (by kernel_rfl) (fun _ _ _ h => h) rfl (by rfl) (by assumption) ?_ ?_; rotate_left; (intro w hSw; (try dsimp only at hSw); go_simp; try (with_reducible rfl)); simp only [List.setIfInBounds_toArray, List.set_cons_zero, List.set_cons_succ]
    refine tkD 3 30 (v := ?_) rfl (by kernel_rfl) (fun _ _ _ h => h) rfl (by rfl) (by assumption) ?_ ?_; rotate_left; (intro w hSw; (try dsimp only at hSw); go_simp; try (with_reducible rfl)); simp only [List.setIfInBounds_toArray, List.set_cons_zero, List.set_cons_succ]
    refine tkD 4 31 (v := ?_) rfl (by kernel_rfl) (fun _ _ _ h => h) rfl (by rfl) (by assumption) ?_ ?_; rotate_left; (intro w hSw; (try dsimp only at hSw); go_simp; try (with_reducible rfl)); simp only [List.setIfInBounds_toArray, List.set_cons_zero, List.set_cons_succ]
    refine tkD 5 32 (v := ?_) rfl (by kernel_rfl) (fun _ _ _ h => h) rfl (by rfl) (by assumption) ?_ ?_; rotate_left; (intro w hSw; (try dsimp only at hSw); go_simp; try (with_reducible rfl)); simp only [List.setIfInBounds_toArray, List.set_cons_zero, List.set_cons_succ]
    refine tkD 6 33 (v := ?_) rfl (by kernel_rfl) (fun _ _ _ h => h) rfl (by rfl) (by assumption) ?_ ?_; rotate_left; (intro w hSw; (try dsimp only at hSw); go_simp; try (with_reducible rfl)); simp only [List.setIfInBounds_toArray, List.set_cons_zero, List.set_cons_succ]
    refine tkD 7 34 (v := ?_) rfl (by kernel_rfl) (fun _ _ _ h => h) rfl (by rfl) (by assumption) ?_ ?_; rotate_left; (intro w hSw; (try dsimp only at hSw); go_simp; try (with_reducible rfl)); simp only [List.setIfInBounds_toArray, List.set_cons_zero, List.set_cons_succ]
    clear hH
    refine wpAnyH_ready (rs := [8]) (by kernel_rfl) (by simp) ?_; refine AllReadyH.cons rfl (fun K hK => ?_) AllReadyH.nil
    go_simp
    refine HTB.out.mono ?_
    rintro r w5 ⟨e, hE, D, da, dc, rfl, hD, hown, hb5⟩
    have kk5 : Keeps (· = zb) W1 w5 := kD.trans (Keeps.of_below hb5) (fun _ _ e => e)
    refine hK.out _ _ kk5 (fun hS7 => ?_)
    clear hK K
    have hpz5 := hpKeep HPZ.out ((Below.refl w3.heap.size w3).drew.trans hb5)
    refine wpAnyH_ready (rs := [9]) (by kernel_rfl) (by simp) ?_; refine AllReadyH.cons rfl (fun K hK => ?_) AllReadyH.nil
    refine step_storeW rfl 53 (.tmp 6) (.tmp 35) rfl zb 0 _ 53 #[.int .i64 q.fn, .int .i64 e, .slice da D.length dc, .int .i64 0, .int .i64 0, .bool false, .int .i64 0, .slice none 0 0] rfl rfl hpz5 (by simp) info8 rfl ?_
    intro w8 g8 hk8 hz8
    have kk8 : Keeps (· = zb) W1 w8 := kk5.trans hk8 (fun _ _ e => e)
    refine hK.out _ _ kk8 (fun hS9 => ?_)
    clear hK K hS9 hS7 t0 t1 t2 q0 q1 q2 q3 q4
    refine wpAnyH_done (by kernel_rfl) ?_ _
    have g9 : w8.heap[zb]? = some (.cells #[.int .i64 q.fn, .int .i64 e, .slice da D.length dc, .int .i64 0, .int .i64 0, .bool false, .int .i64 0, .slice none 0 0] 53) := g8
    clear g8
    go_wp2
    refine bodyPost_ret (results_cell_row rfl _ _ (zb) 53 _ (0, 0) _ rfl g9 Tryz.underlying53 rfl info8) rfl ?_
    exact AnsPost.tab HK.out h4 hE hD hown (by have := HZ3.out; show zb < w3.heap.size; omega) hk8 (by have := HZ3.out; show w.heap.size ≤ w3.heap.size; omega) ((bt (bt HB3.out (Below.refl _ _).drew (Nat.le_refl _)) hb5 (Nat.le_refl _)).trans (hk8.below (by have := HB3.out.size; have := hb5.size; have h0 : w3.drew.heap.size = w3.heap.size := rfl; omega) (fun j hj e => by have := EZ.out; omega)))
  · -- the server's identification
    have q0' : w3.cell? ⟨w.heap.size + 1, 0, none⟩ = some (.int .i64 17) := by rw [q0 w3 kk3, hf]
    have t17 : w3.cell? ⟨w.heap.size, 17, none⟩ = some (.bool s.hs) := by have := HPS.out; rw [← HC.out] at this; exact hpCell this 17
    have t18 : w3.cell? ⟨w.heap.size, 18, none⟩ = some sv := by have := HPS.out; rw [← HC.out] at this; exact hpCell this 18
    have HF := hid hf
    clear q0 q1 q2 q3 q4 hf hd
    have pz := HPZ.out
    cases hs : s.hs with
    | false =>
      rw [hs] at t17
      go_wp2_with (refine wpList_storeW rfl 53 (.tmp 6) (.tmp 45) rfl zb 0 _ 53 #[.int .i64 17, .int .i64 1, .slice none 0 0, .int .i64 0, .int .i64 0, .bool false, .int .i64 0, .slice none 0 0] rfl rfl pz (by simp) info8 rfl ?_; intro w8 g8 hk8 hz8)
      have g9 : w8.heap[zb]? = some (.cells #[.int .i64 17, .int .i64 1, .slice none 0 0, .int .i64 0, .int .i64 0, .bool false, .int .i64 0, .slice none 0 0] 53) := g8
      refine bodyPost_ret (results_cell_row rfl _ _ (zb) 53 _ (0, 0) _ rfl g9 Tryz.underlying53 rfl info8) rfl ?_
      exact AnsPost.row (D := []) (da := none) (dc := 0) (AnsR.nsrv HF.out hs) (World.ownsRow_nil w3 w3.heap.size _ _) HZ3.out.1 hk8 (by have := HB3.out.size; omega) (HB3.out.trans (hk8.below HB3.out.size (fun j hj e => by have := EZ.out; omega)))
    | true =>
      rw [hs] at t17
      obtain ⟨sa, sc, rfl, -⟩ := id HR.out.sd
      have HBS : Hid (Bs w3 (.slice sa s.sd.length sc) s.sd) := HR.out.sd.keep HB3.out
      have hsl := HV.out.sl
      obtain ⟨iU, hiU, hzU0, hzU1, hzU2⟩ := info_parts infoB
      obtain ⟨sn, hsn⟩ : ∃ n, s.sd.length = n := ⟨_, rfl⟩
      have HSN := hid hsn
      rw [hsn] at t18 HBS hsl
      clear hsn
      go_wp2_with (first
        | (at_builtin; refine wpList_appB rfl (.const (.slice none 0 0)) (.tmp 47) 50 rfl w3.heap.size 5 iU Tryz.underlying50 hiU hzU0 hzU1 hzU2 (.slice none 0 0) [] rfl (World.ownsRow_nil _ _ _ _) (.slice sa sn sc) s.sd rfl HBS.out (by have := HSN.out; simp only [List.length_nil]; omega) (Nat.le_refl _) ?_; intro v5 w5 hown5 hgr5 hnew5; simp only [List.length_nil, Nat.zero_add, List.nil_append] at hown5; obtain ⟨a5, c5, rfl⟩ := own_slice hown5; have hb5 : Below w3.heap.size w3 w5 := (Below.refl _ _).grown hgr5 (Nat.le_refl _) (fun k hk => nomatch hk); have pz5 := hpKeep pz hb5)
        | (refine wpList_storeW rfl 53 (.tmp 6) (.tmp 49) rfl zb 0 _ 53 #[.int .i64 17, .int .i64 0, .slice a5 s.sd.length c5, .int .i64 0, .int .i64 0, .bool false, .int .i64 0, .slice none 0 0] rfl rfl pz5 (by simp) info8 rfl ?_; intro w8 g8 hk8 hz8))
      have g9 : w8.heap[zb]? = some (.cells #[.int .i64 17, .int .i64 0, .slice a5 s.sd.length c5, .int .i64 0, .int .i64 0, .bool false, .int .i64 0, .slice none 0 0] 53) := g8
      refine bodyPost_ret (results_cell_row rfl _ _ (zb) 53 _ (0, 0) _ rfl g9 Tryz.underlying53 rfl info8) rfl ?_
      exact AnsPost.row (AnsR.srv HV.out HF.out hs) hown5 HZ3.out.1 hk8 (by have := HB3.out.size; omega) ((bt HB3.out hb5 (Nat.le_refl _)).trans (hk8.below (by have := HB3.out.size; have := hb5.size; omega) (fun j hj e => by have := EZ.out; omega)))
  · -- the device's identification
    obtain ⟨hcode, hne⟩ := hd hf
    have q0' : w3.cell? ⟨w.heap.size + 1, 0, none⟩ = some (.int .i64 43) := by rw [q0 w3 kk3, hf]
    have pq := hpKeep PQ.out HB13.out
    have ps := HPS.out
    have pz := HPZ.out
    have HF := hid hf
    have hi5 : (Tryz.prog.info? 39).map (·.size) = some 5 := by kernel_rfl
    clear q0 q1 q2 q3 q4 hd
    by_cases hlv : s.lv = 0
    · have HDV : Hid (Calls Tryz.prog 117 #[.agg C, .agg #[.int .i64 q.fn, .int .i64 q.addr, .int .i64 q.qty, .int .i64 q.code, .int .i64 q.obj]] w3 (TabPost w3 43 1)) := by
        have h := rdev_no s rv ov sv q.addr q.qty q.obj w3 (HR.out.keep HB3.out) hlv
        rw [HC.out] at h
        rw [hf, hcode]
        exact h
      have HLV := hid hlv
      clear hf hcode hne hlv
      go_wp2_with (first
        | (refine wpList_load_row rfl 133 (.tmp 3) rfl w.heap.size rfl 133 C (0, 0) _ ps Tryz.underlying133 rfl hi19 ?_)
        | (refine wpList_load_row rfl 39 (.tmp 4) rfl (w.heap.size + 1) rfl 39 #[.int .i64 q.fn, .int .i64 q.addr, .int .i64 q.qty, .int .i64 q.code, .int .i64 q.obj] (0, 0) _ pq Tryz.underlying39 rfl hi5 ?_)
        | (go_at_call 117; (with_reducible refine HDV.out.mono ?_); rintro r w5 ⟨D, da, dc, rfl, hD, hown, hb5⟩; have pz5 := hpKeep pz hb5)
        | (refine wpList_storeW rfl 53 (.tmp 6) (.tmp 41) rfl zb 0 _ 53 #[.int .i64 43, .int .i64 1, .slice da D.length dc, .int .i64 0, .int .i64 0, .bool false, .int .i64 0, .slice none 0 0] rfl rfl pz5 (by simp) info8 rfl ?_; intro w8 g8 hk8 hz8))
      have g9 : w8.heap[zb]? = some (.cells #[.int .i64 43, .int .i64 1, .slice da D.length dc, .int .i64 0, .int .i64 0, .bool false, .int .i64 0, .slice none 0 0] 53) := g8
      refine bodyPost_ret (results_cell_row rfl _ _ (zb) 53 _ (0, 0) _ rfl g9 Tryz.underlying53 rfl info8) rfl ?_
      exact AnsPost.row (AnsR.ndev HF.out HLV.out hD) hown HZ3.out.1 hk8 (by have := HB3.out.size; omega) ((bt HB3.out hb5 (Nat.le_refl _)).trans (hk8.below (by have := HB3.out.size; have := hb5.size; omega) (fun j hj e => by have := EZ.out; omega)))
    · have hl := HV.out.lv
      have hl0 : 0 < s.lv := by omega
      have hon := HV.out.on hl0
      have HDV : Hid (Calls Tryz.prog 117 #[.agg C, .agg #[.int .i64 q.fn, .int .i64 q.addr, .int .i64 q.qty, .int .i64 q.code, .int .i64 q.obj]] w3 (DvPx w3 s (fromO q.obj s.objs))) := by
        have h := rdev_yes s rv ov sv q.addr q.qty q.obj w3 (HR.out.keep HB3.out) hl0 hon.1 (rises_ordF _ _ (HV.out.ri hl0)).2 (fun y hy => by obtain ⟨i, hi⟩ := List.getElem?_of_mem hy; have := HV.out.vl hl0 i y hi; omega) (hne hl0)
        rw [HC.out] at h
        rw [hf, hcode]
        exact h
      have HLV := hid hl0
      clear hf hcode hne hlv hl hl0 hon
      go_wp2_with (first
        | (refine wpList_load_row rfl 133 (.tmp 3) rfl w.heap.size rfl 133 C (0, 0) _ ps Tryz.underlying133 rfl hi19 ?_)
        | (refine wpList_load_row rfl 39 (.tmp 4) rfl (w.heap.size + 1) rfl 39 #[.int .i64 q.fn, .int .i64 q.addr, .int .i64 q.qty, .int .i64 q.code, .int .i64 q.obj] (0, 0) _ pq Tryz.underlying39 rfl hi5 ?_)
        | (go_at_call 117; (with_reducible refine HDV.out.mono ?_); rintro r w5 ⟨n, oa, oc, nx, h1, h2, h3, h4, rfl, hob, hb5⟩; have pz5 := hpKeep pz hb5; obtain ⟨DC, hDC⟩ : ∃ c, DvqC 0 3 s.lv (decide (n < (fromO q.obj s.objs).length)) nx (.slice oa n oc) = c := ⟨_, rfl⟩; have hds : DC.size = 8 := (by rw [← hDC]; rfl); have hd1 : DC.toList.all (·.oneCell') = true := (by rw [← hDC]; rfl); have hd8 : (Tryz.prog.info? 53).map (·.size) = some DC.size := (by rw [hds]; exact info8); rw [hDC]; have HDC := hid hDC; clear hDC; have HN := hid (And.intro h1 (And.intro h2 (And.intro h3 h4))); clear h1 h2 h3 h4)
        | (refine wpList_storeW rfl 53 (.tmp 6) (.tmp 41) rfl zb 0 _ 53 DC rfl rfl pz5 (by simp [hds]) hd8 hd1 ?_; intro w8 g8 hk8 hz8))
      have g9 : w8.heap[zb]? = some (.cells DC 53) := by rw [g8, List.drop_eq_nil_of_le (by simp [hds])]; simp
      refine bodyPost_ret (results_cell_row rfl _ _ (zb) 53 _ (0, 0) _ rfl g9 Tryz.underlying53 rfl hd8) rfl ?_
      rw [← HDC.out]
      exact AnsPost.dev HV.out HF.out HLV.out HN.out.1 HN.out.2.1 HN.out.2.2.1 HN.out.2.2.2 hob HZ3.out.1 hk8 (by have := HB3.out.size; omega) ((bt HB3.out hb5 (Nat.le_refl _)).trans (hk8.below (by have := HB3.out.size; have := hb5.size; omega) (fun j hj e => by have := EZ.out; omega)))
end Go.Proofs.YtipnamoocemeeaaGreat
namespace Go.Proofs.YtipnamoocemeeaaGreat
open Go.RowKit
end Go.Proofs.YtipnamoocemeeaaGreat
namespace Go.Proofs.YtipnamoocemeeaaGreat
open Go.RowKit
end Go.Proofs.YtipnamoocemeeaaGreat
