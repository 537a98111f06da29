/-
  Texts 51 of the claim.
-/
import Derived.Test.YtipnamoocemeeaaGreatB49
import Derived.Test.YtipnamoocemeeaaGreatB43
import Derived.Test.YtipnamoocemeeaaGreatB22
import Derived.Test.YtipnamoocemeeaaGreatB50
import Derived.Test.YtipnamoocemeeaaGreatB48
import Derived.Deep.QuietTactic
import Derived.BigQuiet
import Derived.WalkSmall
/-
  The contract of the reader's method outcome.
-/
namespace Go.Proofs.YtipnamoocemeeaaGreat
open Go.RowKit
end Go.Proofs.YtipnamoocemeeaaGreat

/-
  Several texts of this claim in one file.
-/
/-
The contract of record.Decode at all bytes.
-/
namespace Go.Proofs.YtipnamoocemeeaaGreat
open Go.RowKit
/-- Nine cells that hold an outcome whose memory lies in blocks of its own, apart from those of F. -/
def OcH (F : Nat → Prop) (w : World) (r : List Value) (x : Oc) : Prop :=
  ∃ (da oa : Option Addr) (dc oc lo hi : Nat), r = [.int .i64 x.verdict, .int .i64 x.reply.fn, .int .i64 x.reply.exc, .slice da x.reply.data.length dc, .int .i64 x.reply.code, .int .i64 x.reply.level, .bool x.reply.more, .int .i64 x.reply.next, .slice oa x.reply.objs.length oc] ∧ hi ≤ w.heap.size ∧ (∀ k, lo ≤ k → k < hi → ¬ F k) ∧ ∀ W, (∀ k, lo ≤ k → k < hi → W.heap[k]? = w.heap[k]?) → w.heap.size ≤ W.heap.size → OcIs W x da dc oa oc

theorem OcH.keeps {F F2 : Nat → Prop} {w w' : World} (hk : Keeps F w w') (h2 : ∀ j, j < w.heap.size → F2 j → F j) (r : List Value) (x : Oc) (h : OcH F w r x) : OcH F2 w' r x := by
  obtain ⟨da, oa, dc, oc, lo, hi, h1, h3, h4, h5⟩ := h
  refine ⟨da, oa, dc, oc, lo, hi, h1, Nat.le_trans h3 hk.size, fun k h6 h7 f => h4 k h6 h7 (h2 k (by omega) f), fun W hW hs => h5 W (fun k h6 h7 => ?_) (Nat.le_trans hk.size hs)⟩
  rw [hW k h6 h7, hk.block k (by omega) (h4 k h6 h7)]

theorem OcH.r {F : Nat → Prop} {w : World} (r : List Value) (x : Oc) (h : OcH F w r x) : OcR w r x := by
  obtain ⟨da, oa, dc, oc, lo, hi, h1, h3, h4, h5⟩ := h
  have := h5 w (fun _ _ _ => rfl) (Nat.le_refl _)
  exact ⟨da, dc, oa, oc, h1, this.d, this.o, this.hi, this.lo⟩

theorem OcH.one {F : Nat → Prop} {w : World} (r : List Value) (x : Oc) (h : OcH F w r x) : ∀ u ∈ r, u.oneCell' = true := by
  obtain ⟨da, oa, dc, oc, lo, hi, rfl, _⟩ := h
  intro u hu
  simp at hu
  rcases hu with rfl | rfl | rfl | rfl | rfl | rfl | rfl | rfl | rfl <;> rfl

theorem infoOc : (Tryz.prog.info? 55).map (fun i => (i.zero, i.size, i.bytes)) = some (some (.agg #[.int .i64 0, .int .i64 0, .int .i64 0, .slice none 0 0, .int .i64 0, .int .i64 0, .bool false, .int .i64 0, .slice none 0 0]), 9, 104) := by kernel_rfl

end Go.Proofs.YtipnamoocemeeaaGreat

/-
The contract of record.Decode at all bytes: the walk.
-/
namespace Go.Proofs.YtipnamoocemeeaaGreat
open Go.RowKit
end Go.Proofs.YtipnamoocemeeaaGreat

/-
  Several texts of this claim in one file.
-/
/-
modscanref27.Decode: what holds at the head of a round.
-/
namespace Go.Proofs.YtipnamoocemeeaaGreat
open Go.RowKit

/-- One outcome more, behind a callee that only made memory. -/
theorem ocStepB {B : Nat} {wr w5 w6 : World} {E : TypeId} {X : Obj} {v v6 : Value} {k : Nat} {cs : List Value} {acc : List Oc} {o : Oc} {da oa : Option Addr} {dc oc : Nat}
    (hB : B ≤ wr.heap.size) (hown : wr.ownsRow B E 9 v k cs) (hcs : CsL 9 (OcH (DevF B v) wr) cs acc) (hb5 : Below wr.heap.size wr w5)
    (hI : ∀ W, Agree wr.heap.size w5 W → OcIs W o da dc oa oc) (hgr : (w5.alloc X).grownBy w6 v.ownBlock) (hnew : NewOr (w5.alloc X) v v6) :
    CsL 9 (OcH (DevF B v6) w6) (cs ++ [.int .i64 o.verdict, .int .i64 o.reply.fn, .int .i64 o.reply.exc, .slice da o.reply.data.length dc, .int .i64 o.reply.code, .int .i64 o.reply.level, .bool o.reply.more, .int .i64 o.reply.next, .slice oa o.reply.objs.length oc]) (acc ++ [o]) ∧ Keeps (DevF B v) wr w6 ∧ (∀ i, i < B → w6.heap[i]? = wr.heap[i]?) := by
  have hs5 := hb5.size
  have hK1 : Keeps (DevF B v) wr (w5.alloc X) := (Keeps.of_below (F := DevF B v) hb5).trans (Keeps.of_below (F := DevF B v) (bal'' w5 X)) (fun _ _ h => h)
  have hK2 : Keeps (fun j => v.ownBlock = some j) (w5.alloc X) w6 := Keeps.of_grown hgr (fun k hk => hk)
  have hK : Keeps (DevF B v) wr w6 := hK1.trans hK2 (fun i _ h => .inl h)
  have hvlt : ∀ j, v.ownBlock = some j → B ≤ j ∧ j < wr.heap.size := fun j hj => hown.lt j hj
  have hF2 : ∀ j, j < w5.heap.size → DevF B v6 j → DevF B v j := by
    intro j hj h
    rcases h with h | h
    · rcases hnew with h1 | ⟨i, h1, h2⟩
      · exact .inl (by rw [← h1]; exact h)
      · rw [h] at h1
        cases h1
        simp at h2
        omega
    · exact .inr h
  have h65 : ∀ i, i < w5.heap.size → v.ownBlock ≠ some i → w6.heap[i]? = w5.heap[i]? := fun i hi hne => by
    rw [hK2.block i (by simp; omega) hne, Below.heap_alloc _ _ _ hi]
  refine ⟨?_, hK, fun i hi => ?_⟩
  · refine CsL.snoc (sz := 9) rfl ?_ acc cs (CsL.mono (fun r x h => OcH.keeps hK (fun j hj => hF2 j (by omega)) r x h) acc cs hcs)
    have hs6 := hK2.size
    simp at hs6
    refine ⟨da, oa, dc, oc, wr.heap.size, w5.heap.size, rfl, by omega, fun k h1 h2 h => ?_, fun W hW hs => hI W ⟨by omega, fun k h1 h2 => ?_⟩⟩
    · rcases hF2 k h2 h with h | h
      · have := (hvlt _ h).2
        omega
      · omega
    · rw [hW k h1 h2]
      exact h65 k h2 (fun h => by have := (hvlt _ h).1; have := (hvlt _ h).2; omega)
  · rw [h65 i (by omega) (fun h => by have := (hvlt _ h).1; omega)]
    exact hb5.block i (by omega)

/-- What holds at the head of a round: the bytes before 'at' have been read. -/
structure RRel (w wr : World) (b : List UInt8) (p : Nat) (acc : List Oc) (v : Value) (cs : List Value) : Prop where
  own : wr.ownsRow w.heap.size 55 9 v acc.length cs
  rows : CsL 9 (OcH (DevF w.heap.size v) wr) cs acc
  bel : Below w.heap.size w wr
  le : acc.length + 1 ≤ p
  fit : p ≤ b.length ∨ p = 1
  dec : decE (b.length + 1) (b.drop 1) = (decE (b.length + 1 - acc.length) (b.drop p)).map (acc ++ ·)

theorem RRel.zero (w : World) (b : List UInt8) : RRel w w b 1 [] (.slice none 0 0) [] :=
  ⟨World.ownsRow_nil _ _ _ _, rfl, Below.refl _ _, Nat.le_refl _, .inr rfl, by simp⟩

theorem RRel.none {w wr : World} {b : List UInt8} {p : Nat} {acc : List Oc} {v : Value} {cs : List Value} (h : RRel w wr b p acc v cs) (hp : p < b.length) (ho : ocP (b.drop p) = .none) : decL b = .none := by
  rw [← refL_eq]
  unfold refL
  have hl := h.le
  obtain ⟨m, hm⟩ : ∃ m, b.length + 1 - acc.length = m + 1 := ⟨b.length - acc.length, by omega⟩
  have hne : b.drop p ≠ [] := fun e => by have := congrArg List.length e; simp at this; omega
  have e : decE (b.length + 1) (b.drop 1) = .none := by
    rw [h.dec, hm]
    unfold decE
    rw [if_neg hne, ho]
    rfl
  rw [e]

theorem RRel.fin {w wr : World} {b : List UInt8} {p : Nat} {acc : List Oc} {v : Value} {cs : List Value} (h : RRel w wr b p acc v cs) (hp : b.length ≤ p) : decL b = if okL acc = true ∧ encL acc = b then some acc else .none := by
  rw [← refL_eq]
  unfold refL
  have hl := h.le
  have hf := h.fit
  obtain ⟨m, hm⟩ : ∃ m, b.length + 1 - acc.length = m + 1 := ⟨b.length - acc.length, by omega⟩
  have e : decE (b.length + 1) (b.drop 1) = some acc := by
    rw [h.dec, hm, List.drop_eq_nil_of_le hp]
    unfold decE
    simp
  rw [e]

theorem RRel.next {w wr w5 w6 : World} {b : List UInt8} {p : Nat} {acc : List Oc} {v : Value} {cs : List Value}
    (h : RRel w wr b p acc v cs) (hp : p < b.length) {o : Oc} {t : List UInt8} {da oa : Option Addr} {dc oc : Nat} {X : Obj} {v6 : Value}
    (ho : ocP (b.drop p) = some (o, t)) (hI : ∀ W, Agree wr.heap.size w5 W → OcIs W o da dc oa oc) (hb5 : Below wr.heap.size wr w5)
    (hgr : (w5.alloc X).grownBy w6 v.ownBlock) (hnew : NewOr (w5.alloc X) v v6) (hown : w6.ownsRow w.heap.size 55 9 v6 (acc.length + 1) (cs ++ [.int .i64 o.verdict, .int .i64 o.reply.fn, .int .i64 o.reply.exc, .slice da o.reply.data.length dc, .int .i64 o.reply.code, .int .i64 o.reply.level, .bool o.reply.more, .int .i64 o.reply.next, .slice oa o.reply.objs.length oc])) :
    RRel w w6 b (p + ((b.drop p).length - t.length)) (acc ++ [o]) v6 (cs ++ [.int .i64 o.verdict, .int .i64 o.reply.fn, .int .i64 o.reply.exc, .slice da o.reply.data.length dc, .int .i64 o.reply.code, .int .i64 o.reply.level, .bool o.reply.more, .int .i64 o.reply.next, .slice oa o.reply.objs.length oc]) := by
  obtain ⟨s1, s2, s3⟩ := ocStepB h.bel.size h.own h.rows hb5 hI hgr hnew
  obtain ⟨o1, o2⟩ := ocP_some ho
  have hl := h.le
  have hpos := enc_pos o
  have hlen : (b.drop p).length = o.enc.length + t.length := by rw [o2, List.length_append]
  have hn : (b.drop p).length - t.length = o.enc.length := by omega
  have hbl : (b.drop p).length = b.length - p := List.length_drop ..
  have hdt : b.drop (p + o.enc.length) = t := by
    rw [← List.drop_drop, o2, List.drop_left]
  rw [hn]
  obtain ⟨m, hm⟩ : ∃ m, b.length + 1 - acc.length = m + 1 := ⟨b.length - acc.length, by omega⟩
  have hne : b.drop p ≠ [] := fun e => by have := congrArg List.length e; simp at this; omega
  refine ⟨by rw [List.length_append]; exact hown, s1, ?_, by rw [List.length_append]; simp; omega, .inl (by omega), ?_⟩
  · exact ⟨s2.os.trans h.bel.os, s2.tape.trans h.bel.tape, s2.output.trans h.bel.output, Nat.le_trans h.bel.size s2.size, fun i hi => by rw [s3 i hi]; exact h.bel.block i hi⟩
  · rw [h.dec, hm, hdt, show b.length + 1 - (acc ++ [o]).length = m by rw [List.length_append]; simp; omega]
    conv => lhs; unfold decE
    rw [if_neg hne, ho]
    show ((decE m t).map _).map _ = _
    rw [Option.map_map]
    congr 1
    funext q
    simp

end Go.Proofs.YtipnamoocemeeaaGreat

/-
The contract of modscanref27.Decode at all bytes.
-/
namespace Go.Proofs.YtipnamoocemeeaaGreat
open Go.RowKit

/-- What Decode leaves: a row of its own. -/
def DecLOwn (w : World) (o : Option (List Oc)) (r : Ending) (w' : World) : Prop :=
  (∃ l v cs, o = some l ∧ r = .returned (.tuple #[v, .int .i64 0]) ∧ w'.ownsRow w.heap.size 55 9 v l.length cs ∧ CsL 9 (OcH (DevF w.heap.size v) w') cs l ∧ Below w.heap.size w w') ∨ (o = none ∧ r = .returned (.tuple #[.slice none 0 0, .int .i64 5]) ∧ Below w.heap.size w w')

set_option maxRecDepth 100000 in
set_option maxHeartbeats 12800000 in
theorem rdecode_own (a : Option Addr) (n c : Nat) (b : List UInt8) (w : World) (hb : Bs w (.slice a n c) b) (hsm : n ≤ 1000000000)
    (HDEC : Hid (∀ (a : Option Addr) (n c : Nat) (b : List UInt8) (w : World), Bs w (.slice a n c) b → Calls Tryz.prog 106 #[.slice a n c] w (DecPost w (Rp.dec b)))) :
    Calls Tryz.prog 24 #[.slice a n c] w (DecLOwn w (decL b)) := by
  obtain ⟨iO, hiO, hzO0, hzO1, hzO2⟩ := info_parts infoOc
  obtain ⟨i5, hi, hz0, hz1, hz2⟩ := info_parts infoB
  obtain ⟨hbn, hnc, hcm⟩ := hb.capOf
  unfold maxLen at hcm
  have HB := hid hb
  have HBN := hid hbn
  clear hb hbn
  go_enter Tryz.func24, Tryz.ntmps24
  go_wp2_with fail
  go_loopw [4, 5] (fun lv pv wr => ∃ (p k : Nat) (acc : List Oc) (la : Option Addr) (lc : Nat) (cs : List Value), p ≤ n + 1 ∧ pv = .int .i64 p ∧ lv = .slice la k lc ∧ Hid (acc.length = k ∧ RRel w wr b p acc (.slice la k lc) cs)) (fun _ pv _ => n + 1 - (intOf pv).toNat)
  case atStart => exact ⟨1, 0, [], none, 0, [], by omega, rfl, rfl, rfl, RRel.zero w b⟩
  case round =>
    obtain ⟨p, k, acc, la, lc, cs, hp, rfl, rfl, hR⟩ := hrel
    have hbw := hR.out.2.bel
    by_cases hlt : p < n
    · have hpl : (p : Int) < (n : Int) := by omega
      have hp1 : 1 ≤ p := by have := hR.out.2.le; omega
      obtain ⟨Y0, hY0⟩ : ∃ x, cutA a c p = x := ⟨_, rfl⟩
      have hcut : ∀ W, (Instr.slice 50 (.slice a n c) (some (.int .i64 p)) none none).run Tryz.prog W = .ok (.slice Y0 (n - p) (c - p)) W := fun W => by
        have h := run_drop (P := Tryz.prog) Tryz.underlying50 hi hz1 a n c p (by omega) W
        rw [hY0] at h
        exact h
      have hY : Bs wr (.slice Y0 (n - p) (c - p)) (b.drop p) := by
        have h := (HB.out.keep hbw).dropS (i := p) (by omega)
        rw [hY0] at h
        exact h
      have HRD := hid (rread_any Y0 (n - p) (c - p) (b.drop p) wr hY HDEC)
      have hpb : Hid (p < b.length) := by show _ < _; rw [HBN.out]; omega
      clear hY0 hY
      go_wp2_with fail
      refine HRD.out.mono ?_
      rintro r w5 hp5
      rcases hp5 with ⟨o, t, da, oa, dc, oc, ho, rfl, hI, hb5⟩ | ⟨ho, rfl, hb5⟩
      · obtain ⟨m, hm⟩ : ∃ m, (b.drop p).length - t.length = m := ⟨_, rfl⟩
        rw [hm]
        have hm0 : ¬ m = 0 := by
          have h1 := congrArg List.length (ocP_some ho).2
          rw [List.length_append] at h1
          have h2 := enc_pos o
          omega
        have hmp : p + m ≤ n := by
          have h1 : (b.drop p).length = b.length - p := List.length_drop ..
          have h2 := HBN.out
          omega
        obtain ⟨X, hX⟩ : ∃ X : Obj, (.cells #[.int .i64 o.verdict, .int .i64 o.reply.fn, .int .i64 o.reply.exc, .slice da o.reply.data.length dc, .int .i64 o.reply.code, .int .i64 o.reply.level, .bool o.reply.more, .int .i64 o.reply.next, .slice oa o.reply.objs.length oc] 55 (0, 0)) = X := ⟨_, rfl⟩
        have hbA : Below wr.heap.size wr (w5.alloc X) := bta hb5 (Nat.le_refl _) X
        have hIA : ∀ W, Agree wr.heap.size (w5.alloc X) W → OcIs W o da dc oa oc := fun W hW => hI W ((Agree.of_below (bal'' w5 X)).trans hW)
        have HNX : Hid (∀ (w6 : World) (v6 : Value), ((w5.alloc X).alloc X).grownBy w6 (Value.slice la k lc).ownBlock → NewOr ((w5.alloc X).alloc X) (.slice la k lc) v6 → w6.ownsRow w.heap.size 55 9 v6 (k + 1) (cs ++ [.int .i64 o.verdict, .int .i64 o.reply.fn, .int .i64 o.reply.exc, .slice da o.reply.data.length dc, .int .i64 o.reply.code, .int .i64 o.reply.level, .bool o.reply.more, .int .i64 o.reply.next, .slice oa o.reply.objs.length oc]) → (acc ++ [o]).length = k + 1 ∧ RRel w w6 b (p + m) (acc ++ [o]) v6 (cs ++ [.int .i64 o.verdict, .int .i64 o.reply.fn, .int .i64 o.reply.exc, .slice da o.reply.data.length dc, .int .i64 o.reply.code, .int .i64 o.reply.level, .bool o.reply.more, .int .i64 o.reply.next, .slice oa o.reply.objs.length oc])) := fun w6 v6 h1 h2 h3 => by
          obtain ⟨hk, hr⟩ := hR.out
          subst hk
          have := hr.next hpb.out ho hIA hbA h1 h2 h3
          rw [hm] at this
          exact ⟨by simp, this⟩
        have HOW5 : Hid (((w5.alloc X).alloc X).ownsRow w.heap.size 55 9 (.slice la k lc) k cs) := by
          obtain ⟨hk, hr⟩ := hR.out
          subst hk
          exact (own_keeps hr.own (Keeps.of_below (F := fun _ => False) hbA) (fun j _ h => h)).alloc X
        subst hX
        have hsz5 := hb5.size
        have hszw := hbw.size
        have hkp : k + 1 ≤ p := by have h1 := hR.out.1; have h2 := hR.out.2.le; omega
        clear ho hI hb5 hm hIA hbA hbw
        have hm1 : ((m : Int) == 0) = false := by rw [beq_eq_false_iff_ne]; omega
        go_wp2_with (at_builtin; refine wpList_appN rfl (.tmp 23) (.tmp 25) 28 rfl w.heap.size 55 iO _ 9 104 Tryz.underlying28 hiO hzO0 hzO1 hzO2 rfl (by decide) (.slice la k lc) k cs rfl HOW5.out ⟨w5.heap.size + 1, 0, none⟩ 1 1 [.int .i64 o.verdict, .int .i64 o.reply.fn, .int .i64 o.reply.exc, .slice da o.reply.data.length dc, .int .i64 o.reply.code, .int .i64 o.reply.level, .bool o.reply.more, .int .i64 o.reply.next, .slice oa o.reply.objs.length oc] rfl rfl (by have := newsNew (w5.alloc (.cells #[.int .i64 o.verdict, .int .i64 o.reply.fn, .int .i64 o.reply.exc, .slice da o.reply.data.length dc, .int .i64 o.reply.code, .int .i64 o.reply.level, .bool o.reply.more, .int .i64 o.reply.next, .slice oa o.reply.objs.length oc] 55)) [.int .i64 o.verdict, .int .i64 o.reply.fn, .int .i64 o.reply.exc, .slice da o.reply.data.length dc, .int .i64 o.reply.code, .int .i64 o.reply.level, .bool o.reply.more, .int .i64 o.reply.next, .slice oa o.reply.objs.length oc] 55; rwa [show (w5.alloc (.cells #[.int .i64 o.verdict, .int .i64 o.reply.fn, .int .i64 o.reply.exc, .slice da o.reply.data.length dc, .int .i64 o.reply.code, .int .i64 o.reply.level, .bool o.reply.more, .int .i64 o.reply.next, .slice oa o.reply.objs.length oc] 55)).heap.size = w5.heap.size + 1 by simp] at this) ?c1 ?c2 ?c3 ?c4 ?c5)
        case c1 =>
          intro u hu
          simp at hu
          rcases hu with rfl | rfl | rfl | rfl | rfl | rfl | rfl | rfl | rfl <;> rfl
        case c2 => unfold maxLen; omega
        case c3 => omega
        case c4 => simp; omega
        case c5 =>
          intro v6 w6 hown6 hgr6 hnew6
          obtain ⟨a6, c6, rfl⟩ := own_slice hown6
          have HL := hid (HNX.out w6 _ hgr6 hnew6 hown6)
          clear hown6 hgr6 hnew6
          have u1 : IntKind.i64.wrap ((p : Int) + (m : Int)) = ((p + m : Nat) : Int) := by rw [IntWalk.i64_in _ (by omega)]; omega
          go_wp2
          go_roundw
          case rel => exact ⟨p + m, k + 1, acc ++ [o], a6, c6, _, by omega, by go_num, rfl, HL⟩
          case measure => simp [intOf]; omega
      · have HN : Hid (decL b = none) := hR.out.2.none hpb.out ho
        have hbw5 := bt hbw hb5 (Nat.le_refl _)
        clear ho
        go_wp2
        go_ret2
        exact .inr ⟨HN.out, rfl, bta hbw5 (Nat.le_refl _) _⟩
    · have hpl : ¬ (p : Int) < (n : Int) := by omega
      have hfin := hR.out.2.fin (by rw [HBN.out]; omega)
      have hO : Hid (Ocs wr (.slice la k lc) acc) := Sls.of_own hR.out.2.own (CsL.mono (fun r x h => h.r) _ _ hR.out.2.rows) rfl
      have HE := hid (refEncode_any _ acc wr hO.out)
      have HF := hid hfin
      clear hfin
      cases hk : okL acc with
      | true =>
        have HK := hid hk
        clear hk
        go_wp2_with fail
        refine HE.out.mono ?_
        rintro r w6 hp6
        obtain ⟨a6, c6, rfl, hB6, hb6, _⟩ := hp6.1 HK.out
        have hbw6 := bt hbw hb6 (Nat.le_refl _)
        obtain ⟨E, hE⟩ : ∃ E, encL acc = E := ⟨_, rfl⟩
        obtain ⟨ln, hln⟩ : ∃ ln, (encL acc).length = ln := ⟨_, rfl⟩
        rw [hln] at hB6 ⊢
        rw [hE] at hB6
        replace hln := hid hln
        have HW6 := hid (own_keeps hR.out.2.own (Keeps.of_below (F := fun _ => False) hb6) (fun _ _ e => e))
        have HC6 : Hid (CsL 9 (OcH (DevF w.heap.size (.slice la k lc)) w6) cs acc) := CsL.mono (fun r x h => OcH.keeps (F := DevF w.heap.size (.slice la k lc)) (Keeps.of_below hb6) (fun _ _ e => e) r x h) _ _ hR.out.2.rows
        have HB6 := hid hB6
        have HBW := hid (HB.out.keep hbw6)
        have ee : (convert 50 9 (.slice a6 ln c6)).run Tryz.prog w6 = .ok (.string ⟨E.toArray⟩) w6 := run_str Tryz.underlying50 Tryz.underlying5 HB6.out _ Tryz.underlying9
        have eb : (convert 50 9 (.slice a n c)).run Tryz.prog w6 = .ok (.string ⟨b.toArray⟩) w6 := run_str Tryz.underlying50 Tryz.underlying5 HBW.out _ Tryz.underlying9
        have HEN := hid hE
        clear hE hB6 hp6 hb6
        by_cases hEb : E = b
        · subst hEb
          have HV : Hid (decL E = some acc) := by show _ = _; rw [HF.out, if_pos ⟨HK.out, HEN.out⟩]
          go_wp2
          go_ret2
          exact .inl ⟨acc, _, cs, HV.out, rfl, HW6.out, HC6.out, hbw6⟩
        · have HV : Hid (decL b = none) := by show _ = _; rw [HF.out, if_neg (fun h => hEb (HEN.out ▸ h.2))]
          have hEL : (E == b) = false := by rw [beq_eq_false_iff_ne]; exact hEb
          have hEs : ¬ (E = b) := hEb
          go_wp2
          go_ret2
          exact .inr ⟨HV.out, rfl, hbw6⟩
      | false =>
        have HK := hid hk
        clear hk
        have HV : Hid (decL b = none) := by show _ = _; rw [HF.out, if_neg (fun h => by rw [HK.out] at h; cases h.1)]
        go_wp2_with fail
        refine HE.out.mono ?_
        rintro r w6 hp6
        obtain ⟨rfl, hb6⟩ := hp6.2 HK.out
        have h45 : encErr acc = 5 ∨ encErr acc = 4 := by unfold encErr; split <;> simp
        have hbw6 := bt hbw hb6 (Nat.le_refl _)
        clear hp6
        rcases h45 with h45 | h45 <;> rw [h45] <;> clear h45
        · go_wp2
          go_ret2
          exact .inr ⟨HV.out, rfl, hbw6⟩
        · go_wp2
          go_ret2
          exact .inr ⟨HV.out, rfl, hbw6⟩
end Go.Proofs.YtipnamoocemeeaaGreat
