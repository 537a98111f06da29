/-
  Texts 8 of the claim.
-/
import Derived.Test.YtipnamoocemeeaaGreatD04
import Derived.Test.YtipnamoocemeeaaGreatD02
import Derived.Test.YtipnamoocemeeaaGreatD05
import Derived.Deep.RegionLaw
import Derived.Deep.RegionHeld3
import Derived.Deep.CutRange
namespace Go.Proofs.YtipnamoocemeeaaGreat
open Go.RowKit
def ordF (last : Int) : List Ob → Bool
  | [] => true
  | x :: l => decide (last < x.id) && ordF x.id l
theorem ordF_snoc (x : Ob) : ∀ (l : List Ob) (last : Int), ordF last (l ++ [x]) = (ordF last l && decide (lastId last l < x.id))
  | [], last => by show (decide _ && true) = (true && decide _); rw [Bool.and_true, Bool.true_and]; rfl
  | a :: l, last => by
    show (decide _ && ordF a.id (l ++ [x])) = (decide _ && ordF a.id l && decide (lastId a.id l < x.id))
    rw [ordF_snoc x l a.id]
    simp only [Bool.and_assoc]
theorem ordF_pre (k : List Ob) : ∀ (l : List Ob) (last : Int), ordF last (l ++ k) = true → ordF last l = true
  | [], last, _ => rfl
  | a :: l, last, h => by
    simp only [List.cons_append, ordF, Bool.and_eq_true] at h ⊢
    exact ⟨h.1, ordF_pre k l _ h.2⟩
theorem ordF_no {l : List Ob} {k : Nat} {x : Ob} {la : Int} (h : l[k]? = some x) (hb : ¬ lastId la (l.take k) < x.id) : ordF la l = false := by
  cases hx : ordF la l with
  | false => rfl
  | true =>
    exfalso
    have h3 : ordF la (l.take (k + 1)) = true := ordF_pre (l.drop (k + 1)) _ _ (by rw [List.take_append_drop]; exact hx)
    rw [take_succ_snoc h, ordF_snoc] at h3
    simp only [Bool.and_eq_true, decide_eq_true_eq] at h3
    exact hb h3.2
def Rp.ordB (r : Rp) (first : Int) : Bool := ordF (first - 1) r.objs && (!r.objs.isEmpty && (!r.more || decide (lastId (first - 1) r.objs < r.next)))
set_option maxRecDepth 100000 in
set_option maxHeartbeats 3200000 in
theorem ordered_any (x : Rp) (da : Option Addr) (dc : Nat) (oa : Option Addr) (oc : Nat) (first : Int) (h0 : 0 ≤ first) (h1 : first ≤ 9223372036854775807) (w : World) (ho : Obs w (.slice oa x.objs.length oc) x.objs) (V : Bool) (hV : Hid (x.ordB first = V)) :
    Calls Tryz.prog 196 #[.agg #[.int .i64 x.fn, .int .i64 x.exc, .slice da x.data.length dc, .int .i64 x.code, .int .i64 x.level, .bool x.more, .int .i64 x.next, .slice oa x.objs.length oc], .int .i64 first] w fun r w' => r = .returned (.bool V) ∧ Below w.heap.size w w' := by
  have s1 : IntKind.i64.wrap (first - 1) = first - 1 := IntWalk.i64_in _ (by omega)
  obtain ⟨la, hla⟩ : ∃ la, first - 1 = la := ⟨_, rfl⟩
  have HVV : Hid (V = (ordF la x.objs && (!x.objs.isEmpty && (!x.more || decide (lastId la x.objs < x.next))))) := by show _ = _; rw [← hV.out, ← hla]; rfl
  have hb0 := bal' w (.cells #[.int .i64 x.fn, .int .i64 x.exc, .slice da x.data.length dc, .int .i64 x.code, .int .i64 x.level, .bool x.more, .int .i64 x.next, .slice oa x.objs.length oc] 53)
  obtain ⟨W, hW⟩ : ∃ W, w.alloc (.cells #[.int .i64 x.fn, .int .i64 x.exc, .slice da x.data.length dc, .int .i64 x.code, .int .i64 x.level, .bool x.more, .int .i64 x.next, .slice oa x.objs.length oc] 53) = W := ⟨_, rfl⟩
  have p0 : W.heap[w.heap.size]? = some (.cells #[.int .i64 x.fn, .int .i64 x.exc, .slice da x.data.length dc, .int .i64 x.code, .int .i64 x.level, .bool x.more, .int .i64 x.next, .slice oa x.objs.length oc] 53) := by rw [← hW]; exact hpNew w _
  rw [hW] at hb0
  have hszW : w.heap.size < W.heap.size := hpLt p0
  have HO := hid (ho.keep hb0)
  have hcm : x.objs.length ≤ 9223372036854775807 := by have := ho.len; unfold maxLen at this; omega
  have HW := hid hW
  have HB := hid hb0
  have HP := hid p0
  have HLA := hid hla
  clear hW hb0 p0 hV ho h0 h1
  rw [HLA.out] at s1
  obtain ⟨objs, hobjs⟩ : ∃ l, x.objs = l := ⟨_, rfl⟩
  rw [hobjs] at HO HP HVV hcm HW
  obtain ⟨more, hmore⟩ : ∃ l, x.more = l := ⟨_, rfl⟩
  obtain ⟨next, hnext⟩ : ∃ l, x.next = l := ⟨_, rfl⟩
  rw [hmore, hnext] at HP HVV HW
  have c5 : ∀ X, Below W.heap.size W X → X.cell? ⟨w.heap.size, 5, none⟩ = some (.bool more) := fun X h => hpCell (hpKeep HP.out h) 5
  have c6 : ∀ X, Below W.heap.size W X → X.cell? ⟨w.heap.size, 6, none⟩ = some (.int .i64 next) := fun X h => hpCell (hpKeep HP.out h) 6
  have c7 : ∀ X, Below W.heap.size W X → X.cell? ⟨w.heap.size, 7, none⟩ = some (.slice oa objs.length oc) := fun X h => hpCell (hpKeep HP.out h) 7
  have c7' := c7 W (Below.refl _ _)
  rw [hobjs, hmore, hnext]
  clear hobjs hmore hnext
  go_enter Tryz.func196, Tryz.ntmps196
  go_upto_region 1 with (fail)
  rw [HW.out]
  go_wp2
  clear c7'
  go_loopw [5, 13] (fun lv iv wr => ∃ k : Nat, k ≤ objs.length ∧ iv = .int .i64 k ∧ lv = .int .i64 (lastId la (objs.take k)) ∧ Hid (ordF la (objs.take k) = true) ∧ Below W.heap.size W wr) (fun _ iv _ => objs.length - (intOf iv).toNat)
  case atStart => exact ⟨0, Nat.zero_le _, rfl, rfl, rfl, Below.refl _ _⟩
  case round =>
    obtain ⟨k, hk, rfl, rfl, hri, hbw⟩ := hrel
    by_cases hlt : k < objs.length
    · obtain ⟨b, o, cc, hv, h1, h2, hcell⟩ := HO.out.at (by rintro rfl; simp at hlt)
      simp only [Value.slice.injEq, true_and] at hv
      obtain ⟨rfl, rfl⟩ := hv
      have hgx : objs[k]? = some objs[k] := List.getElem?_eq_getElem hlt
      obtain ⟨d1, vv, d2, hvv⟩ := hcell k _ hgx
      clear hcell
      have HG := hid hgx
      generalize objs[k] = y at *
      obtain ⟨xa, xc, rfl, hxl, _⟩ := id hvv
      replace d1 := cell_keep hbw d1
      replace d2 := cell_keep hbw d2
      clear hgx hvv hxl
      have HNO := hid (ordF_no (l := objs) (k := k) (x := y) (la := la) HG.out)
      have HSN : Hid (ordF la (objs.take (k + 1)) = decide (lastId la (objs.take k) < y.id) ∧ lastId la (objs.take (k + 1)) = y.id) := by
        show _ ∧ _
        rw [take_succ_snoc HG.out, ordF_snoc, lastId_snoc, hri.out, Bool.true_and]
        exact ⟨rfl, rfl⟩
      generalize lastId la (objs.take k) = lk at *
      generalize y.id = yi at *
      generalize y.val.length = yn at *
      have hki : (0 : Int) ≤ (k : Int) := Int.natCast_nonneg _
      have hkl : (k : Int) < (objs.length : Int) := by omega
      generalize hol : objs.length = n at *
      replace hol := hid hol
      by_cases hgood : lk < yi
      · go_wp2
        go_roundw
        case rel => exact ⟨k + 1, by omega, by go_num, by rw [HSN.out.2], by show _ = _; rw [HSN.out.1]; simp [hgood], bta hbw (Nat.le_refl _) _⟩
        case measure => simp [intOf]; omega
      · have HF := hid (HNO.out hgood)
        go_wp2
        go_ret
        refine ⟨by rw [HVV.out, HF.out]; rfl, ?_⟩
        exact bt HB.out (bta hbw (Nat.le_refl _) _) (by omega)
    · obtain rfl : k = objs.length := by omega
      have hT : List.take objs.length objs = objs := List.take_length
      have HF : Hid (ordF la objs = true) := by have := hri.out; rw [hT] at this; exact this
      rw [hT]
      clear hri hT
      have e5 := c5 wr hbw
      have e6 := c6 wr hbw
      have e7 := c7 wr hbw
      have HE : Hid (objs.isEmpty = decide (objs.length = 0)) := by
        show objs.isEmpty = decide (objs.length = 0)
        cases objs <;> simp
      rw [HF.out, HE.out, Bool.true_and] at HVV
      generalize lastId la objs = lk at *
      generalize objs.length = n at *
      have hfin : Below w.heap.size w wr := bt HB.out hbw (by omega)
      clear c5 c6 c7
      cases more
      all_goals
        go_wp2
        all_goals
          go_ret
          refine ⟨?_, hfin⟩
          clear hfin
          refine ret_bool ?_
          rw [HVV.out]
          first | (simp [*]; done) | (rw [Bool.eq_iff_iff]; simp [*]; omega) | (rw [Bool.eq_iff_iff]; simp; omega)
structure Idn where
  st : Int
  level : Int
  objs : List Ob
  next : Int
  cnt : Nat
def Idn.new : Idn := ⟨0, 0, [], 0, 0⟩
def Idn.ask (x : Idn) : Rq := ⟨43, 0, 0, 3, x.next⟩
def Idn.bad (x : Idn) (o : Oc) : Bool := (o.verdict != 1) || (o.reply.fn != 43) || !(o.reply.ordB x.next) || (decide (0 < x.cnt) && o.reply.level != x.level)
def Idn.feed (x : Idn) (o : Oc) : Idn :=
  if o.verdict = 2 ∧ o.reply.exc = 1 ∧ x.cnt = 0 then { x with st := 5 }
  else if x.bad o = true then { x with st := 4 }
  else ⟨if o.reply.more then (if x.cnt + 1 = 32 then 4 else 0) else 2, o.reply.level, x.objs ++ o.reply.objs, o.reply.next, x.cnt + 1⟩
structure Idn.ok (x : Idn) : Prop where
  n0 : 0 ≤ x.next
  n1 : x.next ≤ 9223372036854775807
  cn : x.cnt ≤ 31
  ob : x.objs.length ≤ 40 * x.cnt
  vs : ∀ y ∈ x.objs, y.val.length ≤ 300
def ObF (P : Nat → Prop) (g : Nat) (v : Value) (j : Nat) : Prop := ¬ P j ∨ j = g ∨ v.ownBlock = some j
structure IdAt (P : Nat → Prop) (W : World) (g : Nat) (x : Idn) (v : Value) (cs : List Value) : Prop where
  at_ : W.heap[g]? = some (.cells #[.int .i64 x.st, .int .i64 x.level, v, .int .i64 x.next, .int .i64 x.cnt] 213)
  own : W.ownsRow 0 156 2 v x.objs.length cs
  obs : CsL 2 (ObQF (ObF P g v) W) cs x.objs
  pg : P g
  pv : ∀ j, v.ownBlock = some j → P j ∧ j ≠ g
set_option maxHeartbeats 800000 in
theorem inew_any (w : World) :
    Calls Tryz.prog 128 #[] w fun r w' => r = .returned (.pointer (some ⟨w.heap.size, 0, none⟩)) ∧ w' = w.alloc (.cells #[.int .i64 0, .int .i64 0, .slice none 0 0, .int .i64 0, .int .i64 0] 213) := by
  go_enter Tryz.func128, Tryz.ntmps128
  go_wp2
  go_ret
  exact ⟨rfl, rfl⟩
theorem IdAt.new {w : World} {P : Nat → Prop} (hP : P w.heap.size) : IdAt P (w.alloc (.cells #[.int .i64 0, .int .i64 0, .slice none 0 0, .int .i64 0, .int .i64 0] 213)) w.heap.size Idn.new (.slice none 0 0) [] :=
  ⟨hpNew w _, World.ownsRow_nil _ _ _ _, rfl, hP, fun j h => by cases h⟩
theorem Idn.new_ok : Idn.new.ok := ⟨by decide, by decide, by decide, by decide, fun y h => by cases h⟩
set_option maxRecDepth 100000 in
set_option maxHeartbeats 1600000 in
theorem inext_any (g : Nat) (x : Idn) (v : Value) (w : World) (h : w.heap[g]? = some (.cells #[.int .i64 x.st, .int .i64 x.level, v, .int .i64 x.next, .int .i64 x.cnt] 213)) (q : Rq) (V : Bool) (hq : Hid (V = decide (x.st = 0))) (hQ : Hid (q = if x.st = 0 then x.ask else ⟨0, 0, 0, 0, 0⟩)) :
    Calls Tryz.prog 195 #[.pointer (some ⟨g, 0, none⟩)] w (AskPost w q V) := by
  obtain ⟨W0, hW0⟩ : ∃ W, w.alloc (.cells #[.int .i64 0, .int .i64 0, .int .i64 0, .int .i64 0, .int .i64 0] 39) = W := ⟨_, rfl⟩
  have hb0 : Below w.heap.size w W0 := by rw [← hW0]; exact bal' w _
  have p0 : W0.heap[w.heap.size]? = some (.cells #[.int .i64 0, .int .i64 0, .int .i64 0, .int .i64 0, .int .i64 0] 39) := by rw [← hW0]; exact hpNew w _
  have l0 := hpKeep h hb0
  have c0 : W0.cell? ⟨g, 0, none⟩ = some (.int .i64 x.st) := hpCell l0 0
  have c3 : W0.cell? ⟨g, 3, none⟩ = some (.int .i64 x.next) := hpCell l0 3
  have z0 : W0.cell? ⟨w.heap.size, 0, none⟩ = some (.int .i64 0) := hpCell p0 0
  have z1 : W0.cell? ⟨w.heap.size, 1, none⟩ = some (.int .i64 0) := hpCell p0 1
  have z2 : W0.cell? ⟨w.heap.size, 2, none⟩ = some (.int .i64 0) := hpCell p0 2
  have z3 : W0.cell? ⟨w.heap.size, 3, none⟩ = some (.int .i64 0) := hpCell p0 3
  have z4 : W0.cell? ⟨w.heap.size, 4, none⟩ = some (.int .i64 0) := hpCell p0 4
  have y0 : W0.frozen? ⟨w.heap.size, 0, none⟩ = false := hpFree p0 0
  have y1 : W0.frozen? ⟨w.heap.size, 1, none⟩ = false := hpFree p0 1
  have y2 : W0.frozen? ⟨w.heap.size, 2, none⟩ = false := hpFree p0 2
  have y3 : W0.frozen? ⟨w.heap.size, 3, none⟩ = false := hpFree p0 3
  have y4 : W0.frozen? ⟨w.heap.size, 4, none⟩ = false := hpFree p0 4
  have HW0 := hid hW0
  have HB0 := hid hb0
  clear hW0 hb0 p0 l0 h
  by_cases h0 : x.st = 0
  · have d : (x.st != 0) = false := by rw [bne_eq_false_iff_eq]; exact h0
    have HE : Hid (q = ⟨43, 0, 0, 3, x.next⟩ ∧ V = true) := ⟨by rw [hQ.out, if_pos h0]; rfl, by rw [hq.out]; exact decide_eq_true h0⟩
    clear h0
    go_enter Tryz.func195, Tryz.ntmps195
    go_upto_region 1 with (fail)
    rw [HW0.out]
    go_wp2
    refine bodyPost_ret (v := .tuple #[.agg #[.int .i64 43, .int .i64 0, .int .i64 0, .int .i64 3, .int .i64 x.next], .bool true]) (by simp [results, Tryz.results195, go_sem, z0, z1, z2, z3, z4]) rfl ⟨by rw [HE.out.1, HE.out.2], ?_⟩
    exact ((((HB0.out.setCell (p := ⟨w.heap.size, 0, none⟩) (Nat.le_refl _) _).setCell (p := ⟨w.heap.size, 1, none⟩) (Nat.le_refl _) _).setCell (p := ⟨w.heap.size, 2, none⟩) (Nat.le_refl _) _).setCell (p := ⟨w.heap.size, 3, none⟩) (Nat.le_refl _) _).setCell (p := ⟨w.heap.size, 4, none⟩) (Nat.le_refl _) _
  · have d : (x.st != 0) = true := by rw [bne_iff_ne]; exact h0
    have HE : Hid (q = ⟨0, 0, 0, 0, 0⟩ ∧ V = false) := ⟨by rw [hQ.out, if_neg h0], by rw [hq.out]; exact decide_eq_false h0⟩
    clear h0
    go_enter Tryz.func195, Tryz.ntmps195
    go_upto_region 1 with (fail)
    rw [HW0.out]
    go_wp2
    refine bodyPost_ret (v := .tuple #[.agg #[.int .i64 0, .int .i64 0, .int .i64 0, .int .i64 0, .int .i64 0], .bool false]) (by simp [results, Tryz.results195, go_sem, z0, z1, z2, z3, z4]) rfl ⟨by rw [HE.out.1, HE.out.2], ?_⟩
    exact ((((HB0.out.setCell (p := ⟨w.heap.size, 0, none⟩) (Nat.le_refl _) _).setCell (p := ⟨w.heap.size, 1, none⟩) (Nat.le_refl _) _).setCell (p := ⟨w.heap.size, 2, none⟩) (Nat.le_refl _) _).setCell (p := ⟨w.heap.size, 3, none⟩) (Nat.le_refl _) _).setCell (p := ⟨w.heap.size, 4, none⟩) (Nat.le_refl _) _
end Go.Proofs.YtipnamoocemeeaaGreat
namespace Go.Proofs.YtipnamoocemeeaaGreat
open Go.RowKit
def InAt (P : Nat → Prop) (w : World) (o : Oc) (da : Option Addr) (dc : Nat) (oa : Option Addr) (oc : Nat) : Prop := ∀ W, Keeps P w W → RpIs W o.reply da dc oa oc
theorem InAt.keeps {P : Nat → Prop} {w w' : World} {o : Oc} {da : Option Addr} {dc : Nat} {oa : Option Addr} {oc : Nat} (h : InAt P w o da dc oa oc) (hk : Keeps P w w') (Q : Nat → Prop) (hQ : ∀ j, j < w.heap.size → Q j → P j) : InAt Q w' o da dc oa oc :=
  fun W hW => h W (hk.trans hW hQ)
structure Oc.fit (o : Oc) : Prop where
  objs : o.reply.objs.length ≤ 40
  vals : ∀ y ∈ o.reply.objs, y.val.length ≤ 300
  data : o.reply.data.length ≤ 300
  next : o.reply.next ≤ 9223372036854775807
def Up (P : Nat → Prop) (W : World) (j : Nat) : Prop := P j ∨ W.heap.size ≤ j
def Grw (P : Nat → Prop) (W w' : World) (j : Nat) : Prop := P j ∨ (W.heap.size ≤ j ∧ j < w'.heap.size)
def IdFed (P : Nat → Prop) (w : World) (g : Nat) (y : Idn) (r : Ending) (w' : World) : Prop := r = .returned (.int .i64 0) ∧ (∃ v cs, IdAt (Grw P w w') w' g y v cs) ∧ Keeps P w w'
theorem IdAt.lt {P : Nat → Prop} {W : World} {g : Nat} {x : Idn} {v : Value} {cs : List Value} (h : IdAt P W g x v cs) : g < W.heap.size := hpLt h.at_
theorem IdAt.fed {P : Nat → Prop} {w W w' : World} {g : Nat} {x y : Idn} {v : Value} {cs : List Value} (h : IdAt P w g x v cs) (hb : Below w.heap.size w W) (e : Int) (hw : w' = W.setCell ⟨g, 0, none⟩ (.int .i64 e)) (hy : y = { x with st := e }) :
    IdFed P w g y (.returned (.int .i64 0)) w' := by
  subst hw hy
  have hk : Keeps (· = g) W (W.setCell ⟨g, 0, none⟩ (.int .i64 e)) := (Keeps.refl _ _).set _ _ rfl
  have hk2 : Keeps (· = g) w (W.setCell ⟨g, 0, none⟩ (.int .i64 e)) := (Keeps.of_below hb).trans hk (fun _ _ h => h)
  refine ⟨rfl, ⟨v, cs, ?_, ?_, ?_, .inl h.pg, fun j hj => ⟨.inl (h.pv j hj).1, (h.pv j hj).2⟩⟩, hk2.mono (fun k _ hk => by subst hk; exact h.pg)⟩
  · rw [hpSet (hpKeep h.at_ hb) 0 _]; rfl
  · exact own_keeps h.own hk2 (fun k hk e => (h.pv k hk).2 e)
  · exact CsL.mono (fun r z hz => ObQF.keeps (F := ObF P g v) (hk2.mono (fun k _ e => .inr (.inl e))) (fun j _ hj => by
      rcases hj with hj | hj | hj
      · exact .inl (fun h => hj (.inl h))
      · exact .inr (.inl hj)
      · exact .inr (.inr hj)) r z hz) _ _ h.obs
set_option maxRecDepth 100000 in
set_option maxHeartbeats 3200000 in
theorem ifeed_a {P : Nat → Prop} {w : World} {g : Nat} {x : Idn} {v : Value} {cs : List Value} (h : IdAt P w g x v cs) (hst : x.st = 0) (O : Oc) (da : Option Addr) (dc : Nat) (oa : Option Addr) (oc : Nat) (hA : O.verdict = 2 ∧ O.reply.exc = 1 ∧ x.cnt = 0) (y : Idn) (hy : y = { x with st := 5 }) :
    Calls Tryz.prog 194 #[.pointer (some ⟨g, 0, none⟩), .agg #[.int .i64 O.verdict, .int .i64 O.reply.fn, .int .i64 O.reply.exc, .slice da O.reply.data.length dc, .int .i64 O.reply.code, .int .i64 O.reply.level, .bool O.reply.more, .int .i64 O.reply.next, .slice oa O.reply.objs.length oc]] w (IdFed P w g y) := by
  have HST := hid hst
  obtain ⟨W0, hW0⟩ : ∃ W, (w.alloc (.cells #[.int .i64 O.verdict, .int .i64 O.reply.fn, .int .i64 O.reply.exc, .slice da O.reply.data.length dc, .int .i64 O.reply.code, .int .i64 O.reply.level, .bool O.reply.more, .int .i64 O.reply.next, .slice oa O.reply.objs.length oc] 55)).alloc (.cells #[.int .i64 O.reply.fn, .int .i64 O.reply.exc, .slice da O.reply.data.length dc, .int .i64 O.reply.code, .int .i64 O.reply.level, .bool O.reply.more, .int .i64 O.reply.next, .slice oa O.reply.objs.length oc] 53) = W := ⟨_, rfl⟩; have hb0 : Below w.heap.size w W0 := (by rw [← hW0]; exact bta (bal' w _) (Nat.le_refl _) _); have hz0 : W0.heap.size = w.heap.size + 2 := (by rw [← hW0]; simp); have pA : W0.heap[w.heap.size]? = some (.cells #[.int .i64 O.verdict, .int .i64 O.reply.fn, .int .i64 O.reply.exc, .slice da O.reply.data.length dc, .int .i64 O.reply.code, .int .i64 O.reply.level, .bool O.reply.more, .int .i64 O.reply.next, .slice oa O.reply.objs.length oc] 55) := (by rw [← hW0]; exact hpKeep (hpNew w _) (bal' _ _)); have pB : W0.heap[w.heap.size + 1]? = some (.cells #[.int .i64 O.reply.fn, .int .i64 O.reply.exc, .slice da O.reply.data.length dc, .int .i64 O.reply.code, .int .i64 O.reply.level, .bool O.reply.more, .int .i64 O.reply.next, .slice oa O.reply.objs.length oc] 53) := (by rw [← hW0]; have := hpNew (w.alloc (.cells #[.int .i64 O.verdict, .int .i64 O.reply.fn, .int .i64 O.reply.exc, .slice da O.reply.data.length dc, .int .i64 O.reply.code, .int .i64 O.reply.level, .bool O.reply.more, .int .i64 O.reply.next, .slice oa O.reply.objs.length oc] 55)) (.cells #[.int .i64 O.reply.fn, .int .i64 O.reply.exc, .slice da O.reply.data.length dc, .int .i64 O.reply.code, .int .i64 O.reply.level, .bool O.reply.more, .int .i64 O.reply.next, .slice oa O.reply.objs.length oc] 53); simpa using this); have l0 := hpKeep h.at_ hb0; have hgl : g < w.heap.size := h.lt; have HW0 := hid hW0; have HB0 := hid hb0; have HZ0 := hid hz0; have PA := hid pA; have PB := hid pB; have L0 := hid l0; clear hW0 hb0 hz0 pA pB l0
  obtain ⟨c, hcn⟩ : ∃ c : Int, (x.cnt : Int) = c := ⟨_, rfl⟩; have HCN := hid hcn; have a0 : (w.alloc (.cells #[.int .i64 O.verdict, .int .i64 O.reply.fn, .int .i64 O.reply.exc, .slice da O.reply.data.length dc, .int .i64 O.reply.code, .int .i64 O.reply.level, .bool O.reply.more, .int .i64 O.reply.next, .slice oa O.reply.objs.length oc] 55)).cell? ⟨g, 0, none⟩ = some (.int .i64 0) := (by have := hpCell (hpKeep h.at_ (bal' w (.cells #[.int .i64 O.verdict, .int .i64 O.reply.fn, .int .i64 O.reply.exc, .slice da O.reply.data.length dc, .int .i64 O.reply.code, .int .i64 O.reply.level, .bool O.reply.more, .int .i64 O.reply.next, .slice oa O.reply.objs.length oc] 55))) 0; rw [HST.out] at this; exact this); have k0 : Below W0.heap.size W0 W0 := Below.refl _ _; have kD : Below W0.heap.size W0 W0.drew := (Below.refl _ _).drew; have g1 : ∀ X, Below W0.heap.size W0 X → X.cell? ⟨g, 1, none⟩ = some (.int .i64 x.level) := fun X h => hpCell (hpKeep L0.out h) 1; have g3 : ∀ X, Below W0.heap.size W0 X → X.cell? ⟨g, 3, none⟩ = some (.int .i64 x.next) := fun X h => hpCell (hpKeep L0.out h) 3; have g4 : ∀ X, Below W0.heap.size W0 X → X.cell? ⟨g, 4, none⟩ = some (.int .i64 c) := (fun X h => (by rw [← hcn]; exact hpCell (hpKeep L0.out h) 4)); have g0 : ∀ X, Below W0.heap.size W0 X → X.frozen? ⟨g, 0, none⟩ = false := fun X h => hpFree (hpKeep L0.out h) 0; have gc0 : ∀ X, Below W0.heap.size W0 X → X.cell? ⟨g, 0, none⟩ = some (.int .i64 x.st) := fun X h => hpCell (hpKeep L0.out h) 0; have o0 : ∀ X, Below W0.heap.size W0 X → X.cell? ⟨w.heap.size, 0, none⟩ = some (.int .i64 O.verdict) := fun X h => hpCell (hpKeep PA.out h) 0; have r0 : ∀ X, Below W0.heap.size W0 X → X.cell? ⟨w.heap.size + 1, 0, none⟩ = some (.int .i64 O.reply.fn) := fun X h => hpCell (hpKeep PB.out h) 0; have r1 : ∀ X, Below W0.heap.size W0 X → X.cell? ⟨w.heap.size + 1, 1, none⟩ = some (.int .i64 O.reply.exc) := fun X h => hpCell (hpKeep PB.out h) 1; have r2 : ∀ X, Below W0.heap.size W0 X → X.cell? ⟨w.heap.size + 1, 2, none⟩ = some (.slice da O.reply.data.length dc) := fun X h => hpCell (hpKeep PB.out h) 2; have r3 : ∀ X, Below W0.heap.size W0 X → X.cell? ⟨w.heap.size + 1, 3, none⟩ = some (.int .i64 O.reply.code) := fun X h => hpCell (hpKeep PB.out h) 3; have r4 : ∀ X, Below W0.heap.size W0 X → X.cell? ⟨w.heap.size + 1, 4, none⟩ = some (.int .i64 O.reply.level) := fun X h => hpCell (hpKeep PB.out h) 4; have r5 : ∀ X, Below W0.heap.size W0 X → X.cell? ⟨w.heap.size + 1, 5, none⟩ = some (.bool O.reply.more) := fun X h => hpCell (hpKeep PB.out h) 5; have r6 : ∀ X, Below W0.heap.size W0 X → X.cell? ⟨w.heap.size + 1, 6, none⟩ = some (.int .i64 O.reply.next) := fun X h => hpCell (hpKeep PB.out h) 6; have r7 : ∀ X, Below W0.heap.size W0 X → X.cell? ⟨w.heap.size + 1, 7, none⟩ = some (.slice oa O.reply.objs.length oc) := (fun X h => hpCell (hpKeep PB.out h) 7); clear hcn
  have H := hid h
  have HY := hid hy
  have d1 := b1 hA.1
  have d2 := b1 hA.2.1
  have d3 : (c == 0) = true := b1 (by have := hA.2.2; have := HCN.out; omega)
  clear h hy hA hst
  go_enter Tryz.func194, Tryz.ntmps194; go_upto_region 6 with (fail); rw [HW0.out]
  go_wp2
  go_ret
  exact H.out.fed HB0.out 5 rfl HY.out
set_option maxRecDepth 100000 in
set_option maxHeartbeats 3200000 in
theorem ifeed_v {P : Nat → Prop} {w : World} {g : Nat} {x : Idn} {v : Value} {cs : List Value} (h : IdAt P w g x v cs) (hst : x.st = 0) (O : Oc) (da : Option Addr) (dc : Nat) (oa : Option Addr) (oc : Nat) (hA : ¬ (O.verdict = 2 ∧ O.reply.exc = 1 ∧ x.cnt = 0)) (hv : O.verdict ≠ 1) (y : Idn) (hy : y = { x with st := 4 }) :
    Calls Tryz.prog 194 #[.pointer (some ⟨g, 0, none⟩), .agg #[.int .i64 O.verdict, .int .i64 O.reply.fn, .int .i64 O.reply.exc, .slice da O.reply.data.length dc, .int .i64 O.reply.code, .int .i64 O.reply.level, .bool O.reply.more, .int .i64 O.reply.next, .slice oa O.reply.objs.length oc]] w (IdFed P w g y) := by
  have HST := hid hst
  obtain ⟨W0, hW0⟩ : ∃ W, (w.alloc (.cells #[.int .i64 O.verdict, .int .i64 O.reply.fn, .int .i64 O.reply.exc, .slice da O.reply.data.length dc, .int .i64 O.reply.code, .int .i64 O.reply.level, .bool O.reply.more, .int .i64 O.reply.next, .slice oa O.reply.objs.length oc] 55)).alloc (.cells #[.int .i64 O.reply.fn, .int .i64 O.reply.exc, .slice da O.reply.data.length dc, .int .i64 O.reply.code, .int .i64 O.reply.level, .bool O.reply.more, .int .i64 O.reply.next, .slice oa O.reply.objs.length oc] 53) = W := ⟨_, rfl⟩; have hb0 : Below w.heap.size w W0 := (by rw [← hW0]; exact bta (bal' w _) (Nat.le_refl _) _); have hz0 : W0.heap.size = w.heap.size + 2 := (by rw [← hW0]; simp); have pA : W0.heap[w.heap.size]? = some (.cells #[.int .i64 O.verdict, .int .i64 O.reply.fn, .int .i64 O.reply.exc, .slice da O.reply.data.length dc, .int .i64 O.reply.code, .int .i64 O.reply.level, .bool O.reply.more, .int .i64 O.reply.next, .slice oa O.reply.objs.length oc] 55) := (by rw [← hW0]; exact hpKeep (hpNew w _) (bal' _ _)); have pB : W0.heap[w.heap.size + 1]? = some (.cells #[.int .i64 O.reply.fn, .int .i64 O.reply.exc, .slice da O.reply.data.length dc, .int .i64 O.reply.code, .int .i64 O.reply.level, .bool O.reply.more, .int .i64 O.reply.next, .slice oa O.reply.objs.length oc] 53) := (by rw [← hW0]; have := hpNew (w.alloc (.cells #[.int .i64 O.verdict, .int .i64 O.reply.fn, .int .i64 O.reply.exc, .slice da O.reply.data.length dc, .int .i64 O.reply.code, .int .i64 O.reply.level, .bool O.reply.more, .int .i64 O.reply.next, .slice oa O.reply.objs.length oc] 55)) (.cells #[.int .i64 O.reply.fn, .int .i64 O.reply.exc, .slice da O.reply.data.length dc, .int .i64 O.reply.code, .int .i64 O.reply.level, .bool O.reply.more, .int .i64 O.reply.next, .slice oa O.reply.objs.length oc] 53); simpa using this); have l0 := hpKeep h.at_ hb0; have hgl : g < w.heap.size := h.lt; have HW0 := hid hW0; have HB0 := hid hb0; have HZ0 := hid hz0; have PA := hid pA; have PB := hid pB; have L0 := hid l0; clear hW0 hb0 hz0 pA pB l0
  obtain ⟨c, hcn⟩ : ∃ c : Int, (x.cnt : Int) = c := ⟨_, rfl⟩; have HCN := hid hcn; have a0 : (w.alloc (.cells #[.int .i64 O.verdict, .int .i64 O.reply.fn, .int .i64 O.reply.exc, .slice da O.reply.data.length dc, .int .i64 O.reply.code, .int .i64 O.reply.level, .bool O.reply.more, .int .i64 O.reply.next, .slice oa O.reply.objs.length oc] 55)).cell? ⟨g, 0, none⟩ = some (.int .i64 0) := (by have := hpCell (hpKeep h.at_ (bal' w (.cells #[.int .i64 O.verdict, .int .i64 O.reply.fn, .int .i64 O.reply.exc, .slice da O.reply.data.length dc, .int .i64 O.reply.code, .int .i64 O.reply.level, .bool O.reply.more, .int .i64 O.reply.next, .slice oa O.reply.objs.length oc] 55))) 0; rw [HST.out] at this; exact this); have k0 : Below W0.heap.size W0 W0 := Below.refl _ _; have kD : Below W0.heap.size W0 W0.drew := (Below.refl _ _).drew; have g1 : ∀ X, Below W0.heap.size W0 X → X.cell? ⟨g, 1, none⟩ = some (.int .i64 x.level) := fun X h => hpCell (hpKeep L0.out h) 1; have g3 : ∀ X, Below W0.heap.size W0 X → X.cell? ⟨g, 3, none⟩ = some (.int .i64 x.next) := fun X h => hpCell (hpKeep L0.out h) 3; have g4 : ∀ X, Below W0.heap.size W0 X → X.cell? ⟨g, 4, none⟩ = some (.int .i64 c) := (fun X h => (by rw [← hcn]; exact hpCell (hpKeep L0.out h) 4)); have g0 : ∀ X, Below W0.heap.size W0 X → X.frozen? ⟨g, 0, none⟩ = false := fun X h => hpFree (hpKeep L0.out h) 0; have gc0 : ∀ X, Below W0.heap.size W0 X → X.cell? ⟨g, 0, none⟩ = some (.int .i64 x.st) := fun X h => hpCell (hpKeep L0.out h) 0; have o0 : ∀ X, Below W0.heap.size W0 X → X.cell? ⟨w.heap.size, 0, none⟩ = some (.int .i64 O.verdict) := fun X h => hpCell (hpKeep PA.out h) 0; have r0 : ∀ X, Below W0.heap.size W0 X → X.cell? ⟨w.heap.size + 1, 0, none⟩ = some (.int .i64 O.reply.fn) := fun X h => hpCell (hpKeep PB.out h) 0; have r1 : ∀ X, Below W0.heap.size W0 X → X.cell? ⟨w.heap.size + 1, 1, none⟩ = some (.int .i64 O.reply.exc) := fun X h => hpCell (hpKeep PB.out h) 1; have r2 : ∀ X, Below W0.heap.size W0 X → X.cell? ⟨w.heap.size + 1, 2, none⟩ = some (.slice da O.reply.data.length dc) := fun X h => hpCell (hpKeep PB.out h) 2; have r3 : ∀ X, Below W0.heap.size W0 X → X.cell? ⟨w.heap.size + 1, 3, none⟩ = some (.int .i64 O.reply.code) := fun X h => hpCell (hpKeep PB.out h) 3; have r4 : ∀ X, Below W0.heap.size W0 X → X.cell? ⟨w.heap.size + 1, 4, none⟩ = some (.int .i64 O.reply.level) := fun X h => hpCell (hpKeep PB.out h) 4; have r5 : ∀ X, Below W0.heap.size W0 X → X.cell? ⟨w.heap.size + 1, 5, none⟩ = some (.bool O.reply.more) := fun X h => hpCell (hpKeep PB.out h) 5; have r6 : ∀ X, Below W0.heap.size W0 X → X.cell? ⟨w.heap.size + 1, 6, none⟩ = some (.int .i64 O.reply.next) := fun X h => hpCell (hpKeep PB.out h) 6; have r7 : ∀ X, Below W0.heap.size W0 X → X.cell? ⟨w.heap.size + 1, 7, none⟩ = some (.slice oa O.reply.objs.length oc) := (fun X h => hpCell (hpKeep PB.out h) 7); clear hcn
  have H := hid h
  have HY := hid hy
  have d9 : (O.verdict != 1) = true := by rw [bne_iff_ne]; exact hv
  have hd : (O.verdict == 2) = false ∨ ((O.verdict == 2) = true ∧ (O.reply.exc == 1) = false) ∨ ((O.verdict == 2) = true ∧ (O.reply.exc == 1) = true ∧ (c == 0) = false) := by
    by_cases h2 : O.verdict = 2
    · by_cases h3 : O.reply.exc = 1
      · exact .inr (.inr ⟨b1 h2, b1 h3, b0 (fun e => hA ⟨h2, h3, by have := HCN.out; omega⟩)⟩)
      · exact .inr (.inl ⟨b1 h2, b0 h3⟩)
    · exact .inl (b0 h2)
  clear h hy hA hst hv
  rcases hd with d1 | ⟨d1, d2⟩ | ⟨d1, d2, d3⟩
  all_goals
    go_enter Tryz.func194, Tryz.ntmps194; go_upto_region 6 with (fail); rw [HW0.out]
    go_upto_region 9 with (fail)
    go_quiet (fail)
    go_wp2
    go_ret
    exact H.out.fed (bt HB0.out (below_drewN (Below.refl _ _) _) (Nat.le_refl _)) 4 rfl HY.out
set_option maxRecDepth 100000 in
set_option maxHeartbeats 3200000 in
theorem ifeed_f {P : Nat → Prop} {w : World} {g : Nat} {x : Idn} {v : Value} {cs : List Value} (h : IdAt P w g x v cs) (hst : x.st = 0) (O : Oc) (da : Option Addr) (dc : Nat) (oa : Option Addr) (oc : Nat) (hv : O.verdict = 1) (hf : O.reply.fn ≠ 43) (y : Idn) (hy : y = { x with st := 4 }) :
    Calls Tryz.prog 194 #[.pointer (some ⟨g, 0, none⟩), .agg #[.int .i64 O.verdict, .int .i64 O.reply.fn, .int .i64 O.reply.exc, .slice da O.reply.data.length dc, .int .i64 O.reply.code, .int .i64 O.reply.level, .bool O.reply.more, .int .i64 O.reply.next, .slice oa O.reply.objs.length oc]] w (IdFed P w g y) := by
  have HST := hid hst
  obtain ⟨W0, hW0⟩ : ∃ W, (w.alloc (.cells #[.int .i64 O.verdict, .int .i64 O.reply.fn, .int .i64 O.reply.exc, .slice da O.reply.data.length dc, .int .i64 O.reply.code, .int .i64 O.reply.level, .bool O.reply.more, .int .i64 O.reply.next, .slice oa O.reply.objs.length oc] 55)).alloc (.cells #[.int .i64 O.reply.fn, .int .i64 O.reply.exc, .slice da O.reply.data.length dc, .int .i64 O.reply.code, .int .i64 O.reply.level, .bool O.reply.more, .int .i64 O.reply.next, .slice oa O.reply.objs.length oc] 53) = W := ⟨_, rfl⟩; have hb0 : Below w.heap.size w W0 := (by rw [← hW0]; exact bta (bal' w _) (Nat.le_refl _) _); have hz0 : W0.heap.size = w.heap.size + 2 := (by rw [← hW0]; simp); have pA : W0.heap[w.heap.size]? = some (.cells #[.int .i64 O.verdict, .int .i64 O.reply.fn, .int .i64 O.reply.exc, .slice da O.reply.data.length dc, .int .i64 O.reply.code, .int .i64 O.reply.level, .bool O.reply.more, .int .i64 O.reply.next, .slice oa O.reply.objs.length oc] 55) := (by rw [← hW0]; exact hpKeep (hpNew w _) (bal' _ _)); have pB : W0.heap[w.heap.size + 1]? = some (.cells #[.int .i64 O.reply.fn, .int .i64 O.reply.exc, .slice da O.reply.data.length dc, .int .i64 O.reply.code, .int .i64 O.reply.level, .bool O.reply.more, .int .i64 O.reply.next, .slice oa O.reply.objs.length oc] 53) := (by rw [← hW0]; have := hpNew (w.alloc (.cells #[.int .i64 O.verdict, .int .i64 O.reply.fn, .int .i64 O.reply.exc, .slice da O.reply.data.length dc, .int .i64 O.reply.code, .int .i64 O.reply.level, .bool O.reply.more, .int .i64 O.reply.next, .slice oa O.reply.objs.length oc] 55)) (.cells #[.int .i64 O.reply.fn, .int .i64 O.reply.exc, .slice da O.reply.data.length dc, .int .i64 O.reply.code, .int .i64 O.reply.level, .bool O.reply.more, .int .i64 O.reply.next, .slice oa O.reply.objs.length oc] 53); simpa using this); have l0 := hpKeep h.at_ hb0; have hgl : g < w.heap.size := h.lt; have HW0 := hid hW0; have HB0 := hid hb0; have HZ0 := hid hz0; have PA := hid pA; have PB := hid pB; have L0 := hid l0; clear hW0 hb0 hz0 pA pB l0
  obtain ⟨c, hcn⟩ : ∃ c : Int, (x.cnt : Int) = c := ⟨_, rfl⟩; have HCN := hid hcn; have a0 : (w.alloc (.cells #[.int .i64 O.verdict, .int .i64 O.reply.fn, .int .i64 O.reply.exc, .slice da O.reply.data.length dc, .int .i64 O.reply.code, .int .i64 O.reply.level, .bool O.reply.more, .int .i64 O.reply.next, .slice oa O.reply.objs.length oc] 55)).cell? ⟨g, 0, none⟩ = some (.int .i64 0) := (by have := hpCell (hpKeep h.at_ (bal' w (.cells #[.int .i64 O.verdict, .int .i64 O.reply.fn, .int .i64 O.reply.exc, .slice da O.reply.data.length dc, .int .i64 O.reply.code, .int .i64 O.reply.level, .bool O.reply.more, .int .i64 O.reply.next, .slice oa O.reply.objs.length oc] 55))) 0; rw [HST.out] at this; exact this); have k0 : Below W0.heap.size W0 W0 := Below.refl _ _; have kD : Below W0.heap.size W0 W0.drew := (Below.refl _ _).drew; have g1 : ∀ X, Below W0.heap.size W0 X → X.cell? ⟨g, 1, none⟩ = some (.int .i64 x.level) := fun X h => hpCell (hpKeep L0.out h) 1; have g3 : ∀ X, Below W0.heap.size W0 X → X.cell? ⟨g, 3, none⟩ = some (.int .i64 x.next) := fun X h => hpCell (hpKeep L0.out h) 3; have g4 : ∀ X, Below W0.heap.size W0 X → X.cell? ⟨g, 4, none⟩ = some (.int .i64 c) := (fun X h => (by rw [← hcn]; exact hpCell (hpKeep L0.out h) 4)); have g0 : ∀ X, Below W0.heap.size W0 X → X.frozen? ⟨g, 0, none⟩ = false := fun X h => hpFree (hpKeep L0.out h) 0; have gc0 : ∀ X, Below W0.heap.size W0 X → X.cell? ⟨g, 0, none⟩ = some (.int .i64 x.st) := fun X h => hpCell (hpKeep L0.out h) 0; have o0 : ∀ X, Below W0.heap.size W0 X → X.cell? ⟨w.heap.size, 0, none⟩ = some (.int .i64 O.verdict) := fun X h => hpCell (hpKeep PA.out h) 0; have r0 : ∀ X, Below W0.heap.size W0 X → X.cell? ⟨w.heap.size + 1, 0, none⟩ = some (.int .i64 O.reply.fn) := fun X h => hpCell (hpKeep PB.out h) 0; have r1 : ∀ X, Below W0.heap.size W0 X → X.cell? ⟨w.heap.size + 1, 1, none⟩ = some (.int .i64 O.reply.exc) := fun X h => hpCell (hpKeep PB.out h) 1; have r2 : ∀ X, Below W0.heap.size W0 X → X.cell? ⟨w.heap.size + 1, 2, none⟩ = some (.slice da O.reply.data.length dc) := fun X h => hpCell (hpKeep PB.out h) 2; have r3 : ∀ X, Below W0.heap.size W0 X → X.cell? ⟨w.heap.size + 1, 3, none⟩ = some (.int .i64 O.reply.code) := fun X h => hpCell (hpKeep PB.out h) 3; have r4 : ∀ X, Below W0.heap.size W0 X → X.cell? ⟨w.heap.size + 1, 4, none⟩ = some (.int .i64 O.reply.level) := fun X h => hpCell (hpKeep PB.out h) 4; have r5 : ∀ X, Below W0.heap.size W0 X → X.cell? ⟨w.heap.size + 1, 5, none⟩ = some (.bool O.reply.more) := fun X h => hpCell (hpKeep PB.out h) 5; have r6 : ∀ X, Below W0.heap.size W0 X → X.cell? ⟨w.heap.size + 1, 6, none⟩ = some (.int .i64 O.reply.next) := fun X h => hpCell (hpKeep PB.out h) 6; have r7 : ∀ X, Below W0.heap.size W0 X → X.cell? ⟨w.heap.size + 1, 7, none⟩ = some (.slice oa O.reply.objs.length oc) := (fun X h => hpCell (hpKeep PB.out h) 7); clear hcn
  have H := hid h
  have HY := hid hy
  have d1 : (O.verdict == 2) = false := b0 (by omega)
  have d9 : (O.verdict != 1) = false := by rw [bne_eq_false_iff_eq]; exact hv
  have d8 : (O.reply.fn != 43) = true := by rw [bne_iff_ne]; exact hf
  clear h hy hst hv hf
  go_enter Tryz.func194, Tryz.ntmps194; go_upto_region 6 with (fail); rw [HW0.out]
  go_upto_region 9 with (fail)
  go_quiet (fail)
  go_wp2
  go_ret
  exact H.out.fed (bt HB0.out (below_drewN (Below.refl _ _) _) (Nat.le_refl _)) 4 rfl HY.out
set_option maxRecDepth 100000 in
set_option maxHeartbeats 3200000 in
theorem ifeed_o {P : Nat → Prop} {w : World} {g : Nat} {x : Idn} {v : Value} {cs : List Value} (h : IdAt P w g x v cs) (hst : x.st = 0) (hk : x.ok) (O : Oc) (da : Option Addr) (dc : Nat) (oa : Option Addr) (oc : Nat) (HI : InAt P w O da dc oa oc) (hv : O.verdict = 1) (hf : O.reply.fn = 43) (hb : O.reply.ordB x.next = false ∨ (O.reply.ordB x.next = true ∧ 0 < x.cnt ∧ O.reply.level ≠ x.level)) (y : Idn) (hy : y = { x with st := 4 }) :
    Calls Tryz.prog 194 #[.pointer (some ⟨g, 0, none⟩), .agg #[.int .i64 O.verdict, .int .i64 O.reply.fn, .int .i64 O.reply.exc, .slice da O.reply.data.length dc, .int .i64 O.reply.code, .int .i64 O.reply.level, .bool O.reply.more, .int .i64 O.reply.next, .slice oa O.reply.objs.length oc]] w (IdFed P w g y) := by
  obtain ⟨V, hV⟩ : ∃ V, Hid (O.reply.ordB x.next = V) := ⟨_, rfl⟩
  have HST := hid hst
  obtain ⟨W0, hW0⟩ : ∃ W, (w.alloc (.cells #[.int .i64 O.verdict, .int .i64 O.reply.fn, .int .i64 O.reply.exc, .slice da O.reply.data.length dc, .int .i64 O.reply.code, .int .i64 O.reply.level, .bool O.reply.more, .int .i64 O.reply.next, .slice oa O.reply.objs.length oc] 55)).alloc (.cells #[.int .i64 O.reply.fn, .int .i64 O.reply.exc, .slice da O.reply.data.length dc, .int .i64 O.reply.code, .int .i64 O.reply.level, .bool O.reply.more, .int .i64 O.reply.next, .slice oa O.reply.objs.length oc] 53) = W := ⟨_, rfl⟩; have hb0 : Below w.heap.size w W0 := (by rw [← hW0]; exact bta (bal' w _) (Nat.le_refl _) _); have hz0 : W0.heap.size = w.heap.size + 2 := (by rw [← hW0]; simp); have pA : W0.heap[w.heap.size]? = some (.cells #[.int .i64 O.verdict, .int .i64 O.reply.fn, .int .i64 O.reply.exc, .slice da O.reply.data.length dc, .int .i64 O.reply.code, .int .i64 O.reply.level, .bool O.reply.more, .int .i64 O.reply.next, .slice oa O.reply.objs.length oc] 55) := (by rw [← hW0]; exact hpKeep (hpNew w _) (bal' _ _)); have pB : W0.heap[w.heap.size + 1]? = some (.cells #[.int .i64 O.reply.fn, .int .i64 O.reply.exc, .slice da O.reply.data.length dc, .int .i64 O.reply.code, .int .i64 O.reply.level, .bool O.reply.more, .int .i64 O.reply.next, .slice oa O.reply.objs.length oc] 53) := (by rw [← hW0]; have := hpNew (w.alloc (.cells #[.int .i64 O.verdict, .int .i64 O.reply.fn, .int .i64 O.reply.exc, .slice da O.reply.data.length dc, .int .i64 O.reply.code, .int .i64 O.reply.level, .bool O.reply.more, .int .i64 O.reply.next, .slice oa O.reply.objs.length oc] 55)) (.cells #[.int .i64 O.reply.fn, .int .i64 O.reply.exc, .slice da O.reply.data.length dc, .int .i64 O.reply.code, .int .i64 O.reply.level, .bool O.reply.more, .int .i64 O.reply.next, .slice oa O.reply.objs.length oc] 53); simpa using this); have l0 := hpKeep h.at_ hb0; have hgl : g < w.heap.size := h.lt; have HW0 := hid hW0; have HB0 := hid hb0; have HZ0 := hid hz0; have PA := hid pA; have PB := hid pB; have L0 := hid l0; clear hW0 hb0 hz0 pA pB l0
  obtain ⟨c, hcn⟩ : ∃ c : Int, (x.cnt : Int) = c := ⟨_, rfl⟩; have HCN := hid hcn; have a0 : (w.alloc (.cells #[.int .i64 O.verdict, .int .i64 O.reply.fn, .int .i64 O.reply.exc, .slice da O.reply.data.length dc, .int .i64 O.reply.code, .int .i64 O.reply.level, .bool O.reply.more, .int .i64 O.reply.next, .slice oa O.reply.objs.length oc] 55)).cell? ⟨g, 0, none⟩ = some (.int .i64 0) := (by have := hpCell (hpKeep h.at_ (bal' w (.cells #[.int .i64 O.verdict, .int .i64 O.reply.fn, .int .i64 O.reply.exc, .slice da O.reply.data.length dc, .int .i64 O.reply.code, .int .i64 O.reply.level, .bool O.reply.more, .int .i64 O.reply.next, .slice oa O.reply.objs.length oc] 55))) 0; rw [HST.out] at this; exact this); have k0 : Below W0.heap.size W0 W0 := Below.refl _ _; have kD : Below W0.heap.size W0 W0.drew := (Below.refl _ _).drew; have g1 : ∀ X, Below W0.heap.size W0 X → X.cell? ⟨g, 1, none⟩ = some (.int .i64 x.level) := fun X h => hpCell (hpKeep L0.out h) 1; have g3 : ∀ X, Below W0.heap.size W0 X → X.cell? ⟨g, 3, none⟩ = some (.int .i64 x.next) := fun X h => hpCell (hpKeep L0.out h) 3; have g4 : ∀ X, Below W0.heap.size W0 X → X.cell? ⟨g, 4, none⟩ = some (.int .i64 c) := (fun X h => (by rw [← hcn]; exact hpCell (hpKeep L0.out h) 4)); have g0 : ∀ X, Below W0.heap.size W0 X → X.frozen? ⟨g, 0, none⟩ = false := fun X h => hpFree (hpKeep L0.out h) 0; have gc0 : ∀ X, Below W0.heap.size W0 X → X.cell? ⟨g, 0, none⟩ = some (.int .i64 x.st) := fun X h => hpCell (hpKeep L0.out h) 0; have o0 : ∀ X, Below W0.heap.size W0 X → X.cell? ⟨w.heap.size, 0, none⟩ = some (.int .i64 O.verdict) := fun X h => hpCell (hpKeep PA.out h) 0; have r0 : ∀ X, Below W0.heap.size W0 X → X.cell? ⟨w.heap.size + 1, 0, none⟩ = some (.int .i64 O.reply.fn) := fun X h => hpCell (hpKeep PB.out h) 0; have r1 : ∀ X, Below W0.heap.size W0 X → X.cell? ⟨w.heap.size + 1, 1, none⟩ = some (.int .i64 O.reply.exc) := fun X h => hpCell (hpKeep PB.out h) 1; have r2 : ∀ X, Below W0.heap.size W0 X → X.cell? ⟨w.heap.size + 1, 2, none⟩ = some (.slice da O.reply.data.length dc) := fun X h => hpCell (hpKeep PB.out h) 2; have r3 : ∀ X, Below W0.heap.size W0 X → X.cell? ⟨w.heap.size + 1, 3, none⟩ = some (.int .i64 O.reply.code) := fun X h => hpCell (hpKeep PB.out h) 3; have r4 : ∀ X, Below W0.heap.size W0 X → X.cell? ⟨w.heap.size + 1, 4, none⟩ = some (.int .i64 O.reply.level) := fun X h => hpCell (hpKeep PB.out h) 4; have r5 : ∀ X, Below W0.heap.size W0 X → X.cell? ⟨w.heap.size + 1, 5, none⟩ = some (.bool O.reply.more) := fun X h => hpCell (hpKeep PB.out h) 5; have r6 : ∀ X, Below W0.heap.size W0 X → X.cell? ⟨w.heap.size + 1, 6, none⟩ = some (.int .i64 O.reply.next) := fun X h => hpCell (hpKeep PB.out h) 6; have r7 : ∀ X, Below W0.heap.size W0 X → X.cell? ⟨w.heap.size + 1, 7, none⟩ = some (.slice oa O.reply.objs.length oc) := (fun X h => hpCell (hpKeep PB.out h) 7); clear hcn
  have H := hid h
  have HY := hid hy
  have d1 : (O.verdict == 2) = false := b0 (by omega)
  have d9 : (O.verdict != 1) = false := by rw [bne_eq_false_iff_eq]; exact hv
  have d8 : (O.reply.fn != 43) = false := by rw [bne_eq_false_iff_eq]; exact hf
  have HCO : Hid (∀ X, Below W0.heap.size W0 X → Calls Tryz.prog 196 #[.agg #[.int .i64 O.reply.fn, .int .i64 O.reply.exc, .slice da O.reply.data.length dc, .int .i64 O.reply.code, .int .i64 O.reply.level, .bool O.reply.more, .int .i64 O.reply.next, .slice oa O.reply.objs.length oc], .int .i64 x.next] X fun r w' => r = .returned (.bool V) ∧ Below X.heap.size X w') := fun X hX => ordered_any O.reply da dc oa oc x.next hk.n0 hk.n1 X (HI X (Keeps.of_below (bt HB0.out hX (Nat.le_refl _)))).o V hV
  rw [hV.out] at hb
  clear h hy hst hv hf HI hk
  rcases hb with rfl | ⟨rfl, hc, hlv⟩
  · clear hV
    go_enter Tryz.func194, Tryz.ntmps194; go_upto_region 6 with (fail); rw [HW0.out]
    go_upto_region 9 with (fail)
    go_region_held3 (fun X => Below W0.heap.size W0 X) ((first | exact k0 | exact kD | exact bt ‹_› ‹_› (Nat.le_refl _) | assumption)) ((go_at_call 196; (with_reducible refine (HCO.out _ kD).mono ?_); rintro r w5 ⟨rfl, hb5⟩; have hB5 := bt kD hb5 (Nat.le_refl _)))
    all_goals
      go_wp2
      go_ret
      exact H.out.fed (bt HB0.out (by assumption) (Nat.le_refl _)) 4 rfl HY.out
  · have d5 : 0 < c := by have := HCN.out; omega
    have d6 : (O.reply.level != x.level) = true := by rw [bne_iff_ne]; exact hlv
    clear hV hc hlv
    go_enter Tryz.func194, Tryz.ntmps194; go_upto_region 6 with (fail); rw [HW0.out]
    go_upto_region 9 with (fail)
    go_region_held3 (fun X => Below W0.heap.size W0 X) ((first | exact k0 | exact kD | exact bt ‹_› ‹_› (Nat.le_refl _) | assumption)) ((go_at_call 196; (with_reducible refine (HCO.out _ kD).mono ?_); rintro r w5 ⟨rfl, hb5⟩; have hB5 := bt kD hb5 (Nat.le_refl _)))
    all_goals
      go_upto_region 10 with (fail)
      go_quiet (fail)
      go_wp2
      go_ret
      exact H.out.fed (bt HB0.out (below_drewN (by assumption) _) (Nat.le_refl _)) 4 rfl HY.out
end Go.Proofs.YtipnamoocemeeaaGreat
namespace Go.Proofs.YtipnamoocemeeaaGreat
open Go.RowKit
structure IdLp (P F0 : Nat → Prop) (W1 : World) (g : Nat) (acc : List Ob) (m : Nat) (C0 C1 C3 C4 : Value) (oa : Option Addr) (oc : Nat) (cs : List Value) (wr : World) : Prop where
  at_ : wr.heap[g]? = some (.cells #[C0, C1, .slice oa m oc, C3, C4] 213)
  own : wr.ownsRow 0 156 2 (.slice oa m oc) m cs
  obs : CsL 2 (ObQF (ObF P g (.slice oa m oc)) wr) cs acc
  k : Keeps F0 W1 wr
  pv : ∀ j, (Value.slice oa m oc).ownBlock = some j → P j ∧ j ≠ g ∧ (F0 j ∨ W1.heap.size ≤ j)
theorem IdLp.mid {P F0 : Nat → Prop} {W1 wr w5 w6 : World} {g m : Nat} {acc : List Ob} {C0 C1 C3 C4 : Value} {oa : Option Addr} {oc : Nat} {cs : List Value} {X : Obj} (h : IdLp P F0 W1 g acc m C0 C1 C3 C4 oa oc cs wr)
    (hb5 : Below wr.heap.size wr w5) (hgr : (w5.alloc X).grownBy w6 (Value.slice oa m oc).ownBlock) : w6.heap[g]? = some (.cells #[C0, C1, .slice oa m oc, C3, C4] 213) := by
  have h1 := hpKeep h.at_ (bta hb5 (Nat.le_refl _) X)
  exact hpKeeps (F := fun j => (Value.slice oa m oc).ownBlock = some j) h1 (Keeps.of_grown hgr (fun k hk => hk)) (fun e => (h.pv g e).2.1 rfl)
theorem IdLp.step {P F0 : Nat → Prop} {W1 wr w5 w6 : World} {g m q : Nat} {acc : List Ob} {C0 C1 C3 C4 : Value} {oa a5 a6 : Option Addr} {oc c5 c6 : Nat} {cs : List Value} {X : Obj} {U : TypeId} {y0 : Int} {Y : List UInt8} (h : IdLp P F0 W1 g acc m C0 C1 C3 C4 oa oc cs wr)
    (hup : ∀ j, W1.heap.size ≤ j → P j) (hg : g < W1.heap.size) (hF : F0 g) (hb5 : Below wr.heap.size wr w5) (hY : Y.length = q) (hown5 : w5.ownsRow wr.heap.size U 1 (.slice a5 q c5) q (u8s Y))
    (hown6 : w6.ownsRow 0 156 2 (.slice a6 (m + 1) c6) (m + 1) (cs ++ [.int .i64 y0, .slice a5 q c5])) (hgr : (w5.alloc X).grownBy w6 (Value.slice oa m oc).ownBlock) (hnew : NewOr (w5.alloc X) (.slice oa m oc) (.slice a6 (m + 1) c6)) :
    IdLp P F0 W1 g (acc ++ [⟨y0, Y⟩]) (m + 1) C0 C1 C3 C4 a6 c6 (cs ++ [.int .i64 y0, .slice a5 q c5]) (w6.setCell ⟨g, 2, none⟩ (.slice a6 (m + 1) c6)) := by
  have hszW := h.k.size
  have hsz5 := hb5.size
  have hK1 : Keeps F0 W1 (w5.alloc X) := h.k.trans (Keeps.of_below (F := fun _ => False) (bta hb5 (Nat.le_refl _) X)) (fun _ _ f => f.elim)
  have hK2 : Keeps (fun j => (Value.slice oa m oc).ownBlock = some j) (w5.alloc X) w6 := Keeps.of_grown hgr (fun k hk => hk)
  have hK3 : Keeps F0 W1 w6 := hK1.trans hK2 (fun i hi e => by
    rcases (h.pv i e).2.2 with h1 | h1
    · exact h1
    · omega)
  have hkr : Keeps (fun j => (Value.slice oa m oc).ownBlock = some j) wr w6 := (Keeps.of_below (bta hb5 (Nat.le_refl _) X)).trans hK2 (fun _ _ e => e)
  have hkg : Keeps (· = g) w6 (w6.setCell ⟨g, 2, none⟩ (.slice a6 (m + 1) c6)) := (Keeps.refl _ _).set _ _ rfl
  have hpv6 : ∀ j, (Value.slice a6 (m + 1) c6).ownBlock = some j → P j ∧ j ≠ g ∧ (F0 j ∨ W1.heap.size ≤ j) := by
    intro j hj
    rcases hnew with h1 | ⟨i, h1, h2⟩
    · exact h.pv j (by rw [← h1]; exact hj)
    · rw [hj] at h1
      cases h1
      simp at h2
      exact ⟨hup j (by omega), by omega, .inr (by omega)⟩
  have hF2 : ∀ j, j < wr.heap.size → ObF P g (.slice a6 (m + 1) c6) j → ObF P g (.slice oa m oc) j := by
    intro j hj hF
    rcases hF with hF | hF | hF
    · exact .inl hF
    · exact .inr (.inl hF)
    · rcases hnew with h1 | ⟨i, h1, h2⟩
      · exact .inr (.inr (by rw [← h1]; exact hF))
      · rw [hF] at h1
        cases h1
        simp at h2
        omega
  refine ⟨by rw [hpSet (h.mid hb5 hgr) 2 _]; rfl, own_keeps hown6 hkg (fun j hj e => (hpv6 j hj).2.1 e), ?_, hK3.trans hkg (fun i _ e => by subst e; exact hF), hpv6⟩
  refine CsL.mono (fun r x hx => ObQF.keeps (F := ObF P g (.slice a6 (m + 1) c6)) (hkg.mono (fun j _ e => .inr (.inl e))) (fun _ _ e => e) r x hx) _ _ ?_
  refine CsL.snoc (sz := 2) rfl ?_ acc cs (CsL.mono (fun r x hx => ObQF.keeps (hkr.mono (G := ObF P g (.slice oa m oc)) (fun j _ e => .inr (.inr e))) hF2 r x hx) acc cs h.obs)
  refine ⟨a5, c5, by show _ = [Value.int .i64 y0, .slice a5 Y.length c5]; rw [hY], ?_, fun ad had => ?_⟩
  · show Bs w6 (.slice a5 Y.length c5) Y
    rw [hY]
    have hb : Bs (w5.alloc X) (.slice a5 q c5) Y := by
      subst hY
      exact (Bs.own hown5).keep (bal'' w5 X)
    exact hb.keepF hK2 (fun ad had e => by
      have h1 := (hown5.lt ad.block (by rw [had]; rfl)).1
      have h2 := (h.own.lt _ e).2
      omega)
  · have h1 := hown5.lt ad.block (by rw [had]; rfl)
    refine ⟨fun e => ?_, Nat.lt_of_lt_of_le h1.2 (Nat.le_trans (by simp) hK2.size)⟩
    rcases e with e | e | e
    · exact e (hup _ (by omega))
    · omega
    · rcases hnew with h2 | ⟨i, h2, h3⟩
      · rw [e] at h2
        have := (h.own.lt _ h2.symm).2
        omega
      · rw [e] at h2
        cases h2
        simp at h3
        omega
def IdF (g : Nat) (v : Value) (j : Nat) : Prop := j = g ∨ v.ownBlock = some j
theorem IdLp.start {P : Nat → Prop} {w wc W1 : World} {g : Nat} {x : Idn} {va : Option Addr} {vc : Nat} {cs : List Value} {C0 C1 C3 C4 : Value} (h : IdAt P w g x (.slice va x.objs.length vc) cs) (hb : Below w.heap.size w wc) (hk : Keeps (· = g) wc W1)
    (pg : W1.heap[g]? = some (.cells #[C0, C1, .slice va x.objs.length vc, C3, C4] 213)) : IdLp (Up P w) (IdF g (.slice va x.objs.length vc)) W1 g x.objs x.objs.length C0 C1 C3 C4 va vc cs W1 := by
  have hk2 : Keeps (· = g) w W1 := (Keeps.of_below hb).trans hk (fun _ _ e => e)
  refine ⟨pg, own_keeps h.own hk2 (fun j hj e => (h.pv j hj).2 e), ?_, Keeps.refl _ _, fun j hj => ⟨.inl (h.pv j hj).1, (h.pv j hj).2, .inl (.inr hj)⟩⟩
  exact CsL.mono (fun r z hz => ObQF.keeps (F := ObF P g (.slice va x.objs.length vc)) (hk2.mono (fun k _ e => .inr (.inl e))) (fun j _ hj => by
      rcases hj with hj | hj | hj
      · exact .inl (fun h => hj (.inl h))
      · exact .inr (.inl hj)
      · exact .inr (.inr hj)) r z hz) _ _ h.obs
theorem IdLp.ends {P F0 : Nat → Prop} {w W1 wr w' : World} {g m : Nat} {acc : List Ob} {C0 C1 C3 C4 : Value} {oa : Option Addr} {oc : Nat} {cs : List Value} (h : IdLp (Up P w) F0 W1 g acc m C0 C1 C3 C4 oa oc cs wr) (hk1 : Keeps P w W1) (hF0 : ∀ j, F0 j → P j) (hg : P g)
    (hk : Keeps (· = g) wr w') (y : Idn) (hy : acc = y.objs) (hm : m = y.objs.length) (hat : w'.heap[g]? = some (.cells #[.int .i64 y.st, .int .i64 y.level, .slice oa m oc, .int .i64 y.next, .int .i64 y.cnt] 213)) :
    IdFed P w g y (.returned (.int .i64 0)) w' := by
  have hkw : Keeps P w w' := (hk1.trans h.k (fun i _ e => hF0 i e)).trans hk (fun i _ e => by subst e; exact hg)
  subst hm hy
  refine ⟨rfl, ⟨_, cs, hat, own_keeps h.own hk (fun j hj e => (h.pv j hj).2.1 e), ?_, .inl hg, fun j hj => ⟨?_, (h.pv j hj).2.1⟩⟩, hkw⟩
  · refine CsL.mono (fun r x hx => ?_) _ _ h.obs
    have hx2 := ObQF.keeps (F2 := ObF (Up P w) g (.slice oa y.objs.length oc)) (hk.mono (G := ObF (Up P w) g (.slice oa y.objs.length oc)) (fun j _ e => .inr (.inl e))) (fun _ _ e => e) r x hx
    obtain ⟨a, c, h1, h2, h3⟩ := hx2
    refine ⟨a, c, h1, h2, fun ad had => ⟨fun e => ?_, (h3 ad had).2⟩⟩
    rcases e with e | e | e
    · exact (h3 ad had).1 (.inl (fun u => e (by
        rcases u with u | u
        · exact .inl u
        · exact .inr ⟨u, (h3 ad had).2⟩)))
    · exact (h3 ad had).1 (.inr (.inl e))
    · exact (h3 ad had).1 (.inr (.inr e))
  · rcases (h.pv j hj).1 with u | u
    · exact .inl u
    · exact .inr ⟨u, Nat.lt_of_lt_of_le (h.own.lt j hj).2 hk.size⟩
set_option maxRecDepth 100000 in
set_option maxHeartbeats 12800000 in
theorem ifeed_g {P : Nat → Prop} {w : World} {g : Nat} {x : Idn} {v : Value} {cs : List Value} (h : IdAt P w g x v cs) (hst : x.st = 0) (hk : x.ok) (O : Oc) (da : Option Addr) (dc : Nat) (oa : Option Addr) (oc : Nat) (HI : InAt P w O da dc oa oc) (hO : O.fit) (hv : O.verdict = 1) (hf : O.reply.fn = 43) (hb : O.reply.ordB x.next = true) (hl : x.cnt = 0 ∨ (0 < x.cnt ∧ O.reply.level = x.level))
    (y : Idn) (hy : y = ⟨if O.reply.more then (if x.cnt + 1 = 32 then 4 else 0) else 2, O.reply.level, x.objs ++ O.reply.objs, O.reply.next, x.cnt + 1⟩) :
    Calls Tryz.prog 194 #[.pointer (some ⟨g, 0, none⟩), .agg #[.int .i64 O.verdict, .int .i64 O.reply.fn, .int .i64 O.reply.exc, .slice da O.reply.data.length dc, .int .i64 O.reply.code, .int .i64 O.reply.level, .bool O.reply.more, .int .i64 O.reply.next, .slice oa O.reply.objs.length oc]] w (IdFed P w g y) := by
  obtain ⟨V, hV⟩ : ∃ V, Hid (O.reply.ordB x.next = V) := ⟨_, rfl⟩
  have HST := hid hst
  obtain ⟨W0, hW0⟩ : ∃ W, (w.alloc (.cells #[.int .i64 O.verdict, .int .i64 O.reply.fn, .int .i64 O.reply.exc, .slice da O.reply.data.length dc, .int .i64 O.reply.code, .int .i64 O.reply.level, .bool O.reply.more, .int .i64 O.reply.next, .slice oa O.reply.objs.length oc] 55)).alloc (.cells #[.int .i64 O.reply.fn, .int .i64 O.reply.exc, .slice da O.reply.data.length dc, .int .i64 O.reply.code, .int .i64 O.reply.level, .bool O.reply.more, .int .i64 O.reply.next, .slice oa O.reply.objs.length oc] 53) = W := ⟨_, rfl⟩; have hb0 : Below w.heap.size w W0 := (by rw [← hW0]; exact bta (bal' w _) (Nat.le_refl _) _); have hz0 : W0.heap.size = w.heap.size + 2 := (by rw [← hW0]; simp); have pA : W0.heap[w.heap.size]? = some (.cells #[.int .i64 O.verdict, .int .i64 O.reply.fn, .int .i64 O.reply.exc, .slice da O.reply.data.length dc, .int .i64 O.reply.code, .int .i64 O.reply.level, .bool O.reply.more, .int .i64 O.reply.next, .slice oa O.reply.objs.length oc] 55) := (by rw [← hW0]; exact hpKeep (hpNew w _) (bal' _ _)); have pB : W0.heap[w.heap.size + 1]? = some (.cells #[.int .i64 O.reply.fn, .int .i64 O.reply.exc, .slice da O.reply.data.length dc, .int .i64 O.reply.code, .int .i64 O.reply.level, .bool O.reply.more, .int .i64 O.reply.next, .slice oa O.reply.objs.length oc] 53) := (by rw [← hW0]; have := hpNew (w.alloc (.cells #[.int .i64 O.verdict, .int .i64 O.reply.fn, .int .i64 O.reply.exc, .slice da O.reply.data.length dc, .int .i64 O.reply.code, .int .i64 O.reply.level, .bool O.reply.more, .int .i64 O.reply.next, .slice oa O.reply.objs.length oc] 55)) (.cells #[.int .i64 O.reply.fn, .int .i64 O.reply.exc, .slice da O.reply.data.length dc, .int .i64 O.reply.code, .int .i64 O.reply.level, .bool O.reply.more, .int .i64 O.reply.next, .slice oa O.reply.objs.length oc] 53); simpa using this); have l0 := hpKeep h.at_ hb0; have hgl : g < w.heap.size := h.lt; have HW0 := hid hW0; have HB0 := hid hb0; have HZ0 := hid hz0; have PA := hid pA; have PB := hid pB; have L0 := hid l0; clear hW0 hb0 hz0 pA pB l0
  obtain ⟨c, hcn⟩ : ∃ c : Int, (x.cnt : Int) = c := ⟨_, rfl⟩; have HCN := hid hcn; have a0 : (w.alloc (.cells #[.int .i64 O.verdict, .int .i64 O.reply.fn, .int .i64 O.reply.exc, .slice da O.reply.data.length dc, .int .i64 O.reply.code, .int .i64 O.reply.level, .bool O.reply.more, .int .i64 O.reply.next, .slice oa O.reply.objs.length oc] 55)).cell? ⟨g, 0, none⟩ = some (.int .i64 0) := (by have := hpCell (hpKeep h.at_ (bal' w (.cells #[.int .i64 O.verdict, .int .i64 O.reply.fn, .int .i64 O.reply.exc, .slice da O.reply.data.length dc, .int .i64 O.reply.code, .int .i64 O.reply.level, .bool O.reply.more, .int .i64 O.reply.next, .slice oa O.reply.objs.length oc] 55))) 0; rw [HST.out] at this; exact this); have k0 : Below W0.heap.size W0 W0 := Below.refl _ _; have kD : Below W0.heap.size W0 W0.drew := (Below.refl _ _).drew; have g1 : ∀ X, Below W0.heap.size W0 X → X.cell? ⟨g, 1, none⟩ = some (.int .i64 x.level) := fun X h => hpCell (hpKeep L0.out h) 1; have g3 : ∀ X, Below W0.heap.size W0 X → X.cell? ⟨g, 3, none⟩ = some (.int .i64 x.next) := fun X h => hpCell (hpKeep L0.out h) 3; have g4 : ∀ X, Below W0.heap.size W0 X → X.cell? ⟨g, 4, none⟩ = some (.int .i64 c) := (fun X h => (by rw [← hcn]; exact hpCell (hpKeep L0.out h) 4)); have g0 : ∀ X, Below W0.heap.size W0 X → X.frozen? ⟨g, 0, none⟩ = false := fun X h => hpFree (hpKeep L0.out h) 0; have gc0 : ∀ X, Below W0.heap.size W0 X → X.cell? ⟨g, 0, none⟩ = some (.int .i64 x.st) := fun X h => hpCell (hpKeep L0.out h) 0; have o0 : ∀ X, Below W0.heap.size W0 X → X.cell? ⟨w.heap.size, 0, none⟩ = some (.int .i64 O.verdict) := fun X h => hpCell (hpKeep PA.out h) 0; have r0 : ∀ X, Below W0.heap.size W0 X → X.cell? ⟨w.heap.size + 1, 0, none⟩ = some (.int .i64 O.reply.fn) := fun X h => hpCell (hpKeep PB.out h) 0; have r1 : ∀ X, Below W0.heap.size W0 X → X.cell? ⟨w.heap.size + 1, 1, none⟩ = some (.int .i64 O.reply.exc) := fun X h => hpCell (hpKeep PB.out h) 1; have r2 : ∀ X, Below W0.heap.size W0 X → X.cell? ⟨w.heap.size + 1, 2, none⟩ = some (.slice da O.reply.data.length dc) := fun X h => hpCell (hpKeep PB.out h) 2; have r3 : ∀ X, Below W0.heap.size W0 X → X.cell? ⟨w.heap.size + 1, 3, none⟩ = some (.int .i64 O.reply.code) := fun X h => hpCell (hpKeep PB.out h) 3; have r4 : ∀ X, Below W0.heap.size W0 X → X.cell? ⟨w.heap.size + 1, 4, none⟩ = some (.int .i64 O.reply.level) := fun X h => hpCell (hpKeep PB.out h) 4; have r5 : ∀ X, Below W0.heap.size W0 X → X.cell? ⟨w.heap.size + 1, 5, none⟩ = some (.bool O.reply.more) := fun X h => hpCell (hpKeep PB.out h) 5; have r6 : ∀ X, Below W0.heap.size W0 X → X.cell? ⟨w.heap.size + 1, 6, none⟩ = some (.int .i64 O.reply.next) := fun X h => hpCell (hpKeep PB.out h) 6; have r7 : ∀ X, Below W0.heap.size W0 X → X.cell? ⟨w.heap.size + 1, 7, none⟩ = some (.slice oa O.reply.objs.length oc) := (fun X h => hpCell (hpKeep PB.out h) 7); clear hcn
  have H := hid h
  have HY := hid hy
  have HF := hid hO
  have HK := hid hk
  have d1 : (O.verdict == 2) = false := b0 (by omega)
  have d9 : (O.verdict != 1) = false := by rw [bne_eq_false_iff_eq]; exact hv
  have d8 : (O.reply.fn != 43) = false := by rw [bne_eq_false_iff_eq]; exact hf
  have HCO : Hid (∀ X, Below W0.heap.size W0 X → Calls Tryz.prog 196 #[.agg #[.int .i64 O.reply.fn, .int .i64 O.reply.exc, .slice da O.reply.data.length dc, .int .i64 O.reply.code, .int .i64 O.reply.level, .bool O.reply.more, .int .i64 O.reply.next, .slice oa O.reply.objs.length oc], .int .i64 x.next] X fun r w' => r = .returned (.bool V) ∧ Below X.heap.size X w') := fun X hX => ordered_any O.reply da dc oa oc x.next hk.n0 hk.n1 X (HI X (Keeps.of_below (bt HB0.out hX (Nat.le_refl _)))).o V hV
  rw [hV.out] at hb
  subst hb
  have hl' : c = 0 ∨ (0 < c ∧ (O.reply.level != x.level) = false) := by
    have hc := HCN.out
    rcases hl with h1 | ⟨h1, h2⟩
    · exact .inl (by omega)
    · exact .inr ⟨by omega, by rw [bne_eq_false_iff_eq]; exact h2⟩
  have sc : IntKind.i64.wrap (c + 1) = c + 1 := IntWalk.i64_in _ (by have := HCN.out; have := HK.out.cn; omega)
  obtain ⟨va, vc, rfl⟩ := own_slice h.own
  have HIN := hid HI
  clear h hy hst hv hf hk hO hV hl HI
  go_enter Tryz.func194, Tryz.ntmps194; go_upto_region 6 with (fail); rw [HW0.out]
  go_upto_region 9 with (fail)
  go_region_held3 (fun X => Below W0.heap.size W0 X) ((first | exact k0 | exact kD | exact bt ‹_› ‹_› (Nat.le_refl _) | assumption)) ((go_at_call 196; (with_reducible refine (HCO.out _ kD).mono ?_); rintro r w5 ⟨rfl, hb5⟩; have hB5 := bt kD hb5 (Nat.le_refl _)))
  all_goals
    go_upto_region 10 with (fail)
    go_cut [38] from 56 to 69 (fun s wc => s = .bool false ∧ Below W0.heap.size W0 wc)
    case first =>
      rcases hl' with rfl | ⟨d5, d6⟩
      all_goals
        go_quiet (fail)
        go_wp2
        go_meet
        case rel => exact ⟨rfl, below_drewN (by assumption) _⟩
    case rest =>
      obtain ⟨rfl, hbc⟩ := hcut
      have gc := hpKeep L0.out hbc
      have HBC := hid hbc
      have f1 : wc.frozen? ⟨g, 1, none⟩ = false := hpFree gc 1
      have f4 : wc.frozen? ⟨g, 4, none⟩ = false := hpFree gc 4
      obtain ⟨W1, hW1⟩ : ∃ W, (wc.setCell ⟨g, 1, none⟩ (.int .i64 O.reply.level)).setCell ⟨g, 4, none⟩ (.int .i64 (c + 1)) = W := ⟨_, rfl⟩
      have hk1 : Keeps (· = g) wc W1 := by rw [← hW1]; exact ks1 (ks1 (Keeps.refl _ _) _ _) _ _
      have pg : W1.heap[g]? = some (.cells #[.int .i64 x.st, .int .i64 O.reply.level, .slice va x.objs.length vc, .int .i64 x.next, .int .i64 (c + 1)] 213) := by
        rw [← hW1]
        exact hpSetP (hpSetP gc rfl) rfl
      go_upto_region 15 with (fail)
      have HK1 : Hid (Keeps P w W1) := (Keeps.of_below (bt HB0.out hbc (Nat.le_refl _))).trans hk1 (fun j _ e => by subst e; exact H.out.pg)
      have hgl1 : g < W1.heap.size := hpLt pg
      have hB1 : w.heap.size + 2 ≤ W1.heap.size := by have := HZ0.out; have := hbc.size; have := hk1.size; omega
      have pr : W1.heap[w.heap.size + 1]? = some (.cells #[.int .i64 O.reply.fn, .int .i64 O.reply.exc, .slice da O.reply.data.length dc, .int .i64 O.reply.code, .int .i64 O.reply.level, .bool O.reply.more, .int .i64 O.reply.next, .slice oa O.reply.objs.length oc] 53) := hpKeeps (hpKeep PB.out hbc) hk1 (fun e => by omega)
      have q7 : W1.cell? ⟨w.heap.size + 1, 7, none⟩ = some (.slice oa O.reply.objs.length oc) := hpCell pr 7
      have HSTART : Hid (IdLp (Up P w) (IdF g (.slice va x.objs.length vc)) W1 g x.objs x.objs.length (.int .i64 x.st) (.int .i64 O.reply.level) (.int .i64 x.next) (.int .i64 (c + 1)) va vc cs W1) := IdLp.start H.out (bt HB0.out hbc (Nat.le_refl _)) hk1 pg
      have HPR := hid pr
      clear hW1 gc f1 f4 pg hk1 hbc pr HBC a0 k0 kD g1 g3 g4 g0 gc0 o0 r0 r1 r2 r3 r4 r5 r6 r7 hl' sc
      obtain ⟨n, hN⟩ : ∃ n, O.reply.objs.length = n := ⟨_, rfl⟩
      have HN := hid hN
      have hn40 : n ≤ 40 := by have := HF.out.objs; omega
      have hx40 : x.objs.length ≤ 1240 := by have := HK.out.ob; have := HK.out.cn; omega
      rw [hN] at q7 ⊢
      clear hN
      go_wp2
      clear q7
      go_loopw [88] (fun iv wr => ∃ (k : Nat) (va' : Option Addr) (vc' : Nat) (cs' : List Value), k ≤ n ∧ iv = .int .i64 k ∧ Hid (IdLp (Up P w) (IdF g (.slice va x.objs.length vc)) W1 g (x.objs ++ O.reply.objs.take k) (x.objs.length + k) (.int .i64 x.st) (.int .i64 O.reply.level) (.int .i64 x.next) (.int .i64 (c + 1)) va' vc' cs' wr)) (fun iv _ => n - (intOf iv).toNat)
      case atStart => exact ⟨0, va, vc, cs, Nat.zero_le _, rfl, by rw [List.take_zero, List.append_nil]; exact HSTART.out⟩
      case round =>
        obtain ⟨k, va', vc', cs', hk, rfl, HL⟩ := hrel
        clear HSTART
        by_cases hlt : k < n
        · obtain ⟨z, hgx⟩ := get_some (l := O.reply.objs) rfl (by rw [HN.out]; exact hlt)
          have hkwr : Keeps P w wr := HK1.out.trans HL.out.k (fun j _ e => by
            rcases e with e | e
            · subst e; exact H.out.pg
            · exact (H.out.pv j e).1)
          have hobs := (HIN.out wr hkwr).o
          rw [HN.out] at hobs
          obtain ⟨b, o, cc, hv, _, _, hcell⟩ := hobs.at (by rintro e; rw [e] at hgx; simp at hgx)
          simp only [Value.slice.injEq, HN.out, true_and] at hv
          obtain ⟨rfl, rfl⟩ := hv
          obtain ⟨z1, vv, z2, hvv⟩ := hcell k z hgx
          obtain ⟨xa, xc, rfl, _⟩ := id hvv
          have hzl : z.val.length ≤ 300 := HF.out.vals z (List.mem_of_getElem? hgx)
          have HX := hid hgx
          have HVV := hid hvv
          clear hobs hcell hvv hgx hkwr
          obtain ⟨m, hm⟩ : ∃ m, x.objs.length + k = m := ⟨_, rfl⟩
          have HM := hid hm
          have hm1 : m ≤ 1280 := by omega
          rw [hm] at HL
          obtain ⟨q, hq⟩ : ∃ q, z.val.length = q := ⟨_, rfl⟩
          have HQ := hid hq
          rw [hq] at z2 HVV hzl
          obtain ⟨zi, hzi⟩ : ∃ q, z.id = q := ⟨_, rfl⟩
          have HZI := hid hzi
          rw [hzi] at z1
          obtain ⟨WX, hWX⟩ : ∃ W, wr.alloc (.cells #[.int .i64 zi, .slice xa q xc] 156) = W := ⟨_, rfl⟩
          have hbx : Below wr.heap.size wr WX := by rw [← hWX]; exact bal' _ _
          have px : WX.heap[wr.heap.size]? = some (.cells #[.int .i64 zi, .slice xa q xc] 156) := by rw [← hWX]; exact hpNew _ _
          have e2 : ∀ X, Below WX.heap.size WX X → X.cell? ⟨g, 2, none⟩ = some (.slice va' m vc') := fun X h => hpCell (hpKeep (hpKeep HL.out.at_ hbx) h) 2
          have x0 : ∀ X, Below WX.heap.size WX X → X.cell? ⟨wr.heap.size, 0, none⟩ = some (.int .i64 zi) := fun X h => hpCell (hpKeep px h) 0
          have x1 : ∀ X, Below WX.heap.size WX X → X.cell? ⟨wr.heap.size, 1, none⟩ = some (.slice xa q xc) := fun X h => hpCell (hpKeep px h) 1
          have k0 : Below WX.heap.size WX WX := Below.refl _ _
          have kd : Below WX.heap.size WX WX.drew := (Below.refl _ _).drew
          have kA : ∀ W X, Below WX.heap.size WX W → Below WX.heap.size WX (W.alloc X) := fun W X h => bta h (Nat.le_refl _) X
          have HCL : Hid (∀ X, Below WX.heap.size WX X → Calls Tryz.prog 154 #[.slice xa q xc] X fun r w' => ∃ v', r = .returned v' ∧ w'.ownsRow X.heap.size 5 1 v' q (u8s z.val) ∧ Below X.heap.size X w') := fun X hX => by
            have h := clone_any (.slice xa q xc) z.val X (HVV.out.keep (bt hbx hX (Nat.le_refl _))) (by omega)
            rw [HQ.out] at h
            exact h
          obtain ⟨iO, hiO, hzO0, hzO1, hzO2⟩ := info_parts infoOb
          have hki : (0 : Int) ≤ (k : Int) := Int.natCast_nonneg _
          have hkl : (k : Int) < (n : Int) := by omega
          have HBX := hid hbx
          clear hm hq hzi px hbx
          go_upto_region 18 with (fail)
          go_region_law (first
            | (refine step_appN rfl (.tmp 96) (.tmp 103) 51 rfl 0 156 iO _ 2 32 Tryz.underlying51 hiO hzO0 hzO1 hzO2 rfl (by decide) (.slice va' m vc') m cs' rfl HO5.out ⟨w5.heap.size, 0, none⟩ 1 1 [.int .i64 zi, .slice a5 q c5] rfl rfl (newsNew w5 [.int .i64 zi, .slice a5 q c5] _) (by intro u hu; simp at hu; rcases hu with rfl | rfl <;> rfl) (by unfold maxLen; omega) (by omega) (by omega) ?_; intro v6 w6 hown6 hgr6 hnew6; obtain ⟨a6, c6, rfl⟩ := own_slice hown6; have hmid := HL.out.mid hb5 hgr6; have e2' : w6.cell? ⟨g, 2, none⟩ = some (.slice va' m vc') := hpCell hmid 2; have f2' : w6.frozen? ⟨g, 2, none⟩ = false := hpFree hmid 2)
            | (go_wp2_with (go_at_call 154; refine (HCL.out _ kd).mono ?_; rintro r w5 ⟨v5, rfl, hown5, hbel5⟩; obtain ⟨a5, c5, rfl⟩ := own_slice hown5; have hb5x : Below WX.heap.size WX w5 := bt kd hbel5 (Nat.le_refl _); have hb5 : Below wr.heap.size wr w5 := bt HBX.out hb5x (Nat.le_refl _); have HO5 := hid ((own_keeps HL.out.own (Keeps.of_below (F := fun _ => False) hb5) (fun _ _ f => f)).alloc (.cells #[.int .i64 zi, .slice a5 q c5] 156)))))
          all_goals
            have HN2 := hid (HL.out.step (y0 := zi) (Y := z.val) (fun j hj => .inr (by omega)) hgl1 (.inl rfl) hb5 HQ.out (own_lower hown5 HBX.out.size) hown6 hgr6 hnew6)
            have HN3 : Hid (IdLp (Up P w) (IdF g (.slice va x.objs.length vc)) W1 g (x.objs ++ O.reply.objs.take (k + 1)) (x.objs.length + (k + 1)) (.int .i64 x.st) (.int .i64 O.reply.level) (.int .i64 x.next) (.int .i64 (c + 1)) a6 c6 (cs' ++ [.int .i64 zi, .slice a5 q c5]) (w6.setCell ⟨g, 2, none⟩ (.slice a6 (m + 1) c6))) := by
              have e : x.objs ++ O.reply.objs.take (k + 1) = x.objs ++ O.reply.objs.take k ++ [⟨zi, z.val⟩] := by rw [take_succ_snoc HX.out, ← List.append_assoc, ← HZI.out]
              rw [e, show x.objs.length + (k + 1) = m + 1 by have := HM.out; omega]
              exact HN2.out
            clear HN2 hown6 hgr6 hnew6 hmid
            go_wp2
            go_roundw
            case rel => exact ⟨k + 1, a6, c6, _, by omega, by go_num, HN3.out⟩
            case measure => simp [intOf]; omega
        · obtain rfl : k = n := by omega
          have prw : wr.heap[w.heap.size + 1]? = some (.cells #[.int .i64 O.reply.fn, .int .i64 O.reply.exc, .slice da O.reply.data.length dc, .int .i64 O.reply.code, .int .i64 O.reply.level, .bool O.reply.more, .int .i64 O.reply.next, .slice oa O.reply.objs.length oc] 53) := hpKeeps HPR.out HL.out.k (fun e => by
            rcases e with e | e
            · omega
            · have := (H.out.own.lt _ e).2; omega)
          have e5 : wr.cell? ⟨w.heap.size + 1, 5, none⟩ = some (.bool O.reply.more) := hpCell prw 5
          have e6 : wr.cell? ⟨w.heap.size + 1, 6, none⟩ = some (.int .i64 O.reply.next) := hpCell prw 6
          have gat := HL.out.at_
          have e4 : wr.cell? ⟨g, 4, none⟩ = some (.int .i64 (c + 1)) := hpCell gat 4
          have e0 : wr.cell? ⟨g, 0, none⟩ = some (.int .i64 x.st) := hpCell gat 0
          have e3 : wr.cell? ⟨g, 3, none⟩ = some (.int .i64 x.next) := hpCell gat 3
          have f0 : wr.frozen? ⟨g, 0, none⟩ = false := hpFree gat 0
          have f3 : wr.frozen? ⟨g, 3, none⟩ = false := hpFree gat 3
          have GAT := hid gat
          have HT : Hid (O.reply.objs.take k = O.reply.objs) := List.take_of_length_le (by rw [HN.out]; exact Nat.le_refl _)
          have hce : Hid (c + 1 = ((x.cnt + 1 : Nat) : Int)) := by show _ = _; have := HCN.out; omega
          have HEND : Hid (∀ (w' : World) (y : Idn), Keeps (· = g) wr w' → y.objs = x.objs ++ O.reply.objs → y.cnt = x.cnt + 1 → w'.heap[g]? = some (.cells #[.int .i64 y.st, .int .i64 y.level, .slice va' (x.objs.length + k) vc', .int .i64 y.next, .int .i64 (c + 1)] 213) → IdFed P w g y (.returned (.int .i64 0)) w') := fun w' y h1 h2 h3 h4 => by
            refine HL.out.ends HK1.out (fun j e => ?_) H.out.pg h1 y (by rw [HT.out, h2]) (by rw [h2, List.length_append, HN.out]) (by rw [h4, hce.out, h3])
            rcases e with e | e
            · subst e; exact H.out.pg
            · exact (H.out.pv j e).1
          clear prw gat HL
          cases hmo : O.reply.more with
          | false =>
            have HY2 : Hid (y = ⟨2, O.reply.level, x.objs ++ O.reply.objs, O.reply.next, x.cnt + 1⟩) := by show _ = _; rw [HY.out, hmo]; rfl
            rw [hmo] at e5
            go_wp2
            go_ret
            rw [HY2.out]
            exact HEND.out _ _ (ks1 (ks1 (Keeps.refl _ _) _ _) _ _) rfl rfl (hpSetP (hpSetP GAT.out rfl) rfl)
          | true =>
            rw [hmo] at e5
            by_cases h32 : c + 1 = 32
            · have HY2 : Hid (y = ⟨4, O.reply.level, x.objs ++ O.reply.objs, O.reply.next, x.cnt + 1⟩) := by show _ = _; rw [HY.out, hmo, if_pos rfl, if_pos (by have := hce.out; omega)]
              have d32 := b1 h32
              clear h32
              go_wp2
              go_ret
              rw [HY2.out]
              exact HEND.out _ _ (ks1 (ks1 (Keeps.refl _ _) _ _) _ _) rfl rfl (hpSetP (hpSetP GAT.out rfl) rfl)
            · have HY2 : Hid (y = ⟨0, O.reply.level, x.objs ++ O.reply.objs, O.reply.next, x.cnt + 1⟩) := by show _ = _; rw [HY.out, hmo, if_pos rfl, if_neg (by have := hce.out; omega)]
              have d32 := b0 h32
              clear h32
              go_wp2
              go_ret
              rw [HY2.out]
              refine HEND.out _ _ (ks1 (Keeps.refl _ _) _ _) rfl rfl (hpSetP GAT.out ?_)
              rw [HST.out]
              rfl
end Go.Proofs.YtipnamoocemeeaaGreat
namespace Go.Proofs.YtipnamoocemeeaaGreat
open Go.RowKit
theorem Idn.bad_no {x : Idn} {O : Oc} (h : x.bad O = false) : O.verdict = 1 ∧ O.reply.fn = 43 ∧ O.reply.ordB x.next = true ∧ (x.cnt = 0 ∨ (0 < x.cnt ∧ O.reply.level = x.level)) := by
  unfold Idn.bad at h
  simp only [Bool.or_eq_false_iff, Bool.and_eq_false_iff, bne_eq_false_iff_eq, Bool.not_eq_false', decide_eq_false_iff_not] at h
  obtain ⟨⟨⟨h1, h2⟩, h3⟩, h4⟩ := h
  refine ⟨h1, h2, h3, ?_⟩
  by_cases hc : x.cnt = 0
  · exact .inl hc
  · rcases h4 with h4 | h4
    · omega
    · exact .inr ⟨by omega, h4⟩
theorem Idn.bad_yes {x : Idn} {O : Oc} (h : x.bad O = true) : O.verdict ≠ 1 ∨ (O.verdict = 1 ∧ O.reply.fn ≠ 43) ∨ (O.verdict = 1 ∧ O.reply.fn = 43 ∧ (O.reply.ordB x.next = false ∨ (O.reply.ordB x.next = true ∧ 0 < x.cnt ∧ O.reply.level ≠ x.level))) := by
  by_cases h1 : O.verdict = 1
  · by_cases h2 : O.reply.fn = 43
    · refine .inr (.inr ⟨h1, h2, ?_⟩)
      unfold Idn.bad at h
      simp only [h1, h2, bne_self_eq_false, Bool.false_or] at h
      cases h3 : O.reply.ordB x.next with
      | false => exact .inl rfl
      | true =>
        rw [h3] at h
        simp at h
        exact .inr ⟨rfl, by omega, h.2⟩
    · exact .inr (.inl ⟨h1, h2⟩)
  · exact .inl h1
theorem ifeed_any {P : Nat → Prop} {w : World} {g : Nat} {x : Idn} {v : Value} {cs : List Value} (h : IdAt P w g x v cs) (hst : x.st = 0) (hk : x.ok) (O : Oc) (da : Option Addr) (dc : Nat) (oa : Option Addr) (oc : Nat) (HI : InAt P w O da dc oa oc) (hO : O.fit) :
    Calls Tryz.prog 194 #[.pointer (some ⟨g, 0, none⟩), .agg #[.int .i64 O.verdict, .int .i64 O.reply.fn, .int .i64 O.reply.exc, .slice da O.reply.data.length dc, .int .i64 O.reply.code, .int .i64 O.reply.level, .bool O.reply.more, .int .i64 O.reply.next, .slice oa O.reply.objs.length oc]] w (IdFed P w g (x.feed O)) := by
  unfold Idn.feed
  by_cases hA : O.verdict = 2 ∧ O.reply.exc = 1 ∧ x.cnt = 0
  · rw [if_pos hA]
    exact ifeed_a h hst O da dc oa oc hA _ rfl
  · rw [if_neg hA]
    cases hb : x.bad O with
    | true =>
      rw [if_pos rfl]
      rcases Idn.bad_yes hb with h1 | ⟨h1, h2⟩ | ⟨h1, h2, h3⟩
      · exact ifeed_v h hst O da dc oa oc hA h1 _ rfl
      · exact ifeed_f h hst O da dc oa oc h1 h2 _ rfl
      · exact ifeed_o h hst hk O da dc oa oc HI h1 h2 h3 _ rfl
    | false =>
      rw [if_neg (by decide)]
      obtain ⟨h1, h2, h3, h4⟩ := Idn.bad_no hb
      exact ifeed_g h hst hk O da dc oa oc HI hO h1 h2 h3 h4 _ rfl
theorem lastF_ge : ∀ (l : List Ob) (last : Int), ordF last l = true → last ≤ lastId last l
  | [], last, _ => Int.le_refl _
  | x :: l, last, h => by
    simp only [ordF, Bool.and_eq_true, decide_eq_true_eq] at h
    have := lastF_ge l x.id h.2
    simp only [lastId]
    omega
structure Idn.fin (x : Idn) : Prop where
  ob : x.objs.length ≤ 1280
  vs : ∀ y ∈ x.objs, y.val.length ≤ 300
theorem Idn.ok.fin {x : Idn} (h : x.ok) : x.fin := ⟨by have := h.ob; have := h.cn; omega, h.vs⟩
theorem Idn.feed_fin {x : Idn} (h : x.ok) {O : Oc} (hO : O.fit) : (x.feed O).fin := by
  unfold Idn.feed
  split
  · exact ⟨h.fin.ob, h.fin.vs⟩
  · split
    · exact ⟨h.fin.ob, h.fin.vs⟩
    · refine ⟨?_, fun y hy => ?_⟩
      · show (x.objs ++ O.reply.objs).length ≤ 1280
        rw [List.length_append]
        have := h.ob; have := h.cn; have := hO.objs
        omega
      · rcases List.mem_append.1 hy with hy | hy
        · exact h.vs y hy
        · exact hO.vals y hy
theorem Idn.feed_ok {x : Idn} (h : x.ok) {O : Oc} (hO : O.fit) (hst : (x.feed O).st = 0) : (x.feed O).ok := by
  unfold Idn.feed at hst ⊢
  by_cases hA : O.verdict = 2 ∧ O.reply.exc = 1 ∧ x.cnt = 0
  · rw [if_pos hA] at hst
    exact absurd (show (5 : Int) = 0 from hst) (by decide)
  · rw [if_neg hA] at hst ⊢
    cases hb : x.bad O with
    | true =>
      rw [hb, if_pos rfl] at hst
      exact absurd (show (4 : Int) = 0 from hst) (by decide)
    | false =>
      rw [hb, if_neg (by decide)] at hst
      rw [if_neg (by decide)]
      obtain ⟨h1, h2, h3, h4⟩ := Idn.bad_no hb
      have hst' : (if O.reply.more then (if x.cnt + 1 = 32 then (4 : Int) else 0) else 2) = 0 := hst
      cases hm : O.reply.more with
      | false => rw [hm] at hst'; exact absurd hst' (show ¬ (2 : Int) = 0 by decide)
      | true =>
        rw [hm, if_pos rfl] at hst'
        have h32 : x.cnt + 1 ≠ 32 := fun e => by rw [if_pos e] at hst'; exact absurd hst' (show ¬ (4 : Int) = 0 by decide)
        unfold Rp.ordB at h3
        rw [hm] at h3
        simp only [Bool.and_eq_true, Bool.not_true, Bool.false_or, decide_eq_true_eq] at h3
        have h5 := lastF_ge _ _ h3.1
        refine ⟨?_, hO.next, ?_, ?_, ?_⟩
        · show 0 ≤ O.reply.next
          have := h.n0; have := h3.2.2; omega
        · show x.cnt + 1 ≤ 31
          have := h.cn; omega
        · show (x.objs ++ O.reply.objs).length ≤ 40 * (x.cnt + 1)
          rw [List.length_append]
          have := h.ob; have := hO.objs
          omega
        · intro y hy
          rcases List.mem_append.1 hy with hy | hy
          · exact h.vs y hy
          · exact hO.vals y hy
end Go.Proofs.YtipnamoocemeeaaGreat
namespace Go.Proofs.YtipnamoocemeeaaGreat
open Go.RowKit
def IdRes (w : World) (st lv : Int) (l : List Ob) (r : Ending) (w' : World) : Prop :=
  ∃ oa oc, r = .returned (.tuple #[.int .i64 st, .int .i64 lv, .slice oa l.length oc]) ∧ (∀ W', Agree w.heap.size w' W' → Obs W' (.slice oa l.length oc) l) ∧ Below w.heap.size w w'
theorem IdAt.reads {P : Nat → Prop} {W : World} {g : Nat} {x : Idn} {v : Value} {cs : List Value} (h : IdAt P W g x v cs) : Obs W v x.objs := Obs.of_csl h.own (CsL.mono (fun _ _ hz => hz.q) _ _ h.obs) rfl
set_option maxRecDepth 100000 in
set_option maxHeartbeats 6400000 in
theorem iresult_any {P : Nat → Prop} {w : World} {g : Nat} {x : Idn} {v : Value} {cs : List Value} (h : IdAt P w g x v cs) (hx : x.fin) (lv : Int) (l : List Ob) (hl : Hid (lv = if x.st = 2 then x.level else 0)) (hL : Hid (l = if x.st = 2 then x.objs else [])) :
    Calls Tryz.prog 130 #[.pointer (some ⟨g, 0, none⟩)] w (IdRes w x.st lv l) := by
  have HAT := hid h.at_
  have c0 : ∀ W, Below w.heap.size w W → W.cell? ⟨g, 0, none⟩ = some (.int .i64 x.st) := fun W h => hpCell (hpKeep HAT.out h) 0
  have c1 : ∀ W, Below w.heap.size w W → W.cell? ⟨g, 1, none⟩ = some (.int .i64 x.level) := fun W h => hpCell (hpKeep HAT.out h) 1
  have c2 : ∀ W, Below w.heap.size w W → W.cell? ⟨g, 2, none⟩ = some v := fun W h => hpCell (hpKeep HAT.out h) 2
  have c0' := c0 w (Below.refl _ _)
  have c2' := c2 w (Below.refl _ _)
  have HO := hid h.reads
  obtain ⟨va, vc, rfl⟩ := own_slice h.own
  have HX := hid hx
  clear h hx
  by_cases h2 : x.st = 2
  · have d2 : (x.st != 2) = false := by rw [bne_eq_false_iff_eq]; exact h2
    have HLV : Hid (lv = x.level) := by show _ = _; rw [hl.out, if_pos h2]
    obtain rfl : l = x.objs := by rw [hL.out, if_pos h2]
    clear h2 hl hL
    obtain ⟨n, hN⟩ : ∃ n, x.objs.length = n := ⟨_, rfl⟩
    have HN := hid hN
    have hn : n ≤ 1280 := by have := HX.out.ob; omega
    rw [hN] at c2 c2'
    clear hN
    go_enter Tryz.func130, Tryz.ntmps130
    go_wp2
    clear c0' c2'
    go_loopw [4, 23] (fun ov iv wr => ∃ (k : Nat) (oa : Option Addr) (oc : Nat) (cs : List Value), k ≤ n ∧ iv = .int .i64 k ∧ ov = .slice oa k oc ∧ Hid (wr.ownsRow w.heap.size 156 2 (.slice oa k oc) k cs) ∧ Hid (CsL 2 (ObQF (DevF w.heap.size (.slice oa k oc)) wr) cs (x.objs.take k)) ∧ Below w.heap.size w wr) (fun _ iv _ => n - (intOf iv).toNat)
    case atStart => exact ⟨0, none, 0, [], Nat.zero_le _, rfl, rfl, World.ownsRow_nil _ _ _ _, rfl, Below.refl _ _⟩
    case round =>
      obtain ⟨k, oa, oc, cs', hk, rfl, rfl, hown, hcs, hbw⟩ := hrel
      by_cases hlt : k < n
      · obtain ⟨z, hgx⟩ := get_some (l := x.objs) rfl (by rw [HN.out]; exact hlt)
        obtain ⟨b, o, cc, hv, _, _, hcell⟩ := (HO.out.keep hbw).at (by rintro e; rw [e] at hgx; simp at hgx)
        simp only [Value.slice.injEq, HN.out, true_and] at hv
        obtain ⟨rfl, rfl⟩ := hv
        obtain ⟨z1, vv, z2, hvv⟩ := hcell k z hgx
        obtain ⟨xa, xc, rfl, _⟩ := id hvv
        have hzl : z.val.length ≤ 300 := HX.out.vs z (List.mem_of_getElem? hgx)
        have HGX := hid hgx
        have HVV := hid hvv
        clear hcell hvv hgx
        obtain ⟨q, hq⟩ : ∃ q, z.val.length = q := ⟨_, rfl⟩
        have HQ := hid hq
        rw [hq] at z2 HVV hzl
        obtain ⟨zi, hzi⟩ : ∃ q, z.id = q := ⟨_, rfl⟩
        have HZI := hid hzi
        rw [hzi] at z1
        obtain ⟨WX, hWX⟩ : ∃ W, wr.alloc (.cells #[.int .i64 zi, .slice xa q xc] 156) = W := ⟨_, rfl⟩
        have hbx : Below wr.heap.size wr WX := by rw [← hWX]; exact bal' _ _
        have px : WX.heap[wr.heap.size]? = some (.cells #[.int .i64 zi, .slice xa q xc] 156) := by rw [← hWX]; exact hpNew _ _
        have x0 : ∀ X, Below WX.heap.size WX X → X.cell? ⟨wr.heap.size, 0, none⟩ = some (.int .i64 zi) := fun X h => hpCell (hpKeep px h) 0
        have x1 : ∀ X, Below WX.heap.size WX X → X.cell? ⟨wr.heap.size, 1, none⟩ = some (.slice xa q xc) := fun X h => hpCell (hpKeep px h) 1
        have k0 : Below WX.heap.size WX WX := Below.refl _ _
        have kd : Below WX.heap.size WX WX.drew := (Below.refl _ _).drew
        have kA : ∀ W X, Below WX.heap.size WX W → Below WX.heap.size WX (W.alloc X) := fun W X h => bta h (Nat.le_refl _) X
        have HCL : Hid (∀ X, Below WX.heap.size WX X → Calls Tryz.prog 154 #[.slice xa q xc] X fun r w' => ∃ v', r = .returned v' ∧ w'.ownsRow X.heap.size 5 1 v' q (u8s z.val) ∧ Below X.heap.size X w') := fun X hX => by
          have h := clone_any (.slice xa q xc) z.val X (HVV.out.keep (bt hbx hX (Nat.le_refl _))) (by omega)
          rw [HQ.out] at h
          exact h
        obtain ⟨iO, hiO, hzO0, hzO1, hzO2⟩ := info_parts infoOb
        have hki : (0 : Int) ≤ (k : Int) := Int.natCast_nonneg _
        have hkl : (k : Int) < (n : Int) := by omega
        have HBX := hid hbx
        have hszr := hbw.size
        have HO' := hid hown.out
        clear hq hzi px hbx hown
        go_upto_region 8 with (fail)
        go_region_law (first
          | (refine step_appN rfl (.tmp 27) (.tmp 34) 51 rfl w.heap.size 156 iO _ 2 32 Tryz.underlying51 hiO hzO0 hzO1 hzO2 rfl (by decide) (.slice oa k oc) k cs' rfl HO5.out ⟨w5.heap.size, 0, none⟩ 1 1 [.int .i64 zi, .slice a5 q c5] rfl rfl (newsNew w5 [.int .i64 zi, .slice a5 q c5] _) (by intro u hu; simp at hu; rcases hu with rfl | rfl <;> rfl) (by unfold maxLen; omega) (by omega) (by have := hb5.size; simp; omega) ?_; intro v6 w6 hown6 hgr6 hnew6; obtain ⟨a6, c6, rfl⟩ := own_slice hown6)
          | (go_wp2_with (go_at_call 154; refine (HCL.out _ kd).mono ?_; rintro r w5 ⟨v5, rfl, hown5, hbel5⟩; obtain ⟨a5, c5, rfl⟩ := own_slice hown5; have hb5x : Below WX.heap.size WX w5 := bt kd hbel5 (Nat.le_refl _); have hb5 : Below wr.heap.size wr w5 := bt HBX.out hb5x (Nat.le_refl _); have HO5 := hid ((own_keeps HO'.out (Keeps.of_below (F := fun _ => False) hb5) (fun _ _ f => f)).alloc (.cells #[.int .i64 zi, .slice a5 q c5] 156)))))
        all_goals
          have hS := devStep (B := w.heap.size) (y0 := zi) hszr HO'.out hcs.out hb5 HQ.out (own_lower hown5 HBX.out.size) hgr6 hnew6
          have HC7 : Hid (CsL 2 (ObQF (DevF w.heap.size (.slice a6 (k + 1) c6)) w6) (cs' ++ [.int .i64 zi, .slice a5 q c5]) (x.objs.take (k + 1))) := by
            rw [take_succ_snoc HGX.out, show z = ⟨zi, z.val⟩ by rw [← HZI.out]]
            exact hS.1
          have HO7 := hid hown6
          have hb7 : Below w.heap.size w w6 := hbw.trans ⟨hS.2.1.os, hS.2.1.tape, hS.2.1.output, hS.2.1.size, fun i hi => hS.2.2 i hi⟩
          clear hS hown6 hgr6 hnew6
          go_wp2
          go_roundw
          case rel => exact ⟨k + 1, a6, c6, _, by omega, by go_num, rfl, HO7.out, HC7.out, hb7⟩
          case measure => simp [intOf]; omega
      · obtain rfl : k = n := by omega
        have e0 := c0 wr hbw
        have e1 := c1 wr hbw
        have HT : Hid (x.objs.take k = x.objs) := List.take_of_length_le (by rw [HN.out]; exact Nat.le_refl _)
        have HEND : Hid (∀ W', Agree w.heap.size wr W' → Obs W' (.slice oa x.objs.length oc) x.objs) := fun W' hW => by
          have h1 := hcs.out
          rw [HT.out] at h1
          rw [HN.out]
          exact Obs.of_csl (own_agree (B := w.heap.size) hown.out (Nat.le_refl _) hW) (CsL.mono (fun r x h => ObQF.agree (B := w.heap.size) (Nat.le_refl _) hW r x h) _ _ h1) HN.out
        clear hown hcs
        go_wp2_with (fail)
        go_quiet (fail)
        go_wp2
        refine bodyPost_ret (v := .tuple #[.int .i64 x.st, .int .i64 x.level, .slice oa k oc]) (by simp [results, Tryz.results130, go_sem]) rfl ?_
        refine ⟨oa, oc, by rw [HLV.out, HN.out], fun W' hW => HEND.out W' ⟨hW.size, hW.block⟩, below_drewN hbw _⟩
  · have d2 : (x.st != 2) = true := by rw [bne_iff_ne]; exact h2
    obtain rfl : lv = 0 := by rw [hl.out, if_neg h2]
    obtain rfl : l = [] := by rw [hL.out, if_neg h2]
    clear h2 hl hL c1 c2 c2'
    go_enter Tryz.func130, Tryz.ntmps130
    go_wp2
    refine bodyPost_ret (v := .tuple #[.int .i64 x.st, .int .i64 0, .slice none 0 0]) (by simp [results, Tryz.results130, go_sem]) rfl ?_
    exact ⟨none, 0, rfl, fun _ _ => Obs.nil _, Below.refl _ _⟩
end Go.Proofs.YtipnamoocemeeaaGreat
