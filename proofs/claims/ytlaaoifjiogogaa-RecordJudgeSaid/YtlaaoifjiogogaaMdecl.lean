/-
  Several texts of this claim in one file.
-/
import Derived.Test.YtlaaoifjiogogaaOutw
import Derived.Test.YtlaaoifjiogogaaMrech
/-
The contract of record.Decode at all bytes.
-/
namespace Go.Proofs.Ytlaaoifjiogogaa
open Go.RowKit

/-- What Decode leaves. -/
def DecLPost (w : World) (o : Option (List Oc)) (r : Ending) (w' : World) : Prop :=
  (∃ l v, o = some l ∧ r = .returned (.tuple #[v, .int .i64 0]) ∧ Ocs w' v l ∧ Below w.heap.size w w') ∨ (o = none ∧ r = .returned (.tuple #[.slice none 0 0, .int .i64 5]) ∧ Below w.heap.size w w')

/-- Nine cells that hold an outcome whose memory lies in blocks of its own, apart from those of F. -/
def OcH (F : Nat → Prop) (w : World) (r : List Value) (x : Oc) : Prop :=
  ∃ (da oa : Option Addr) (dc oc lo hi : Nat), r = [.int .i64 x.verdict, .int .i64 x.reply.fn, .int .i64 x.reply.exc, .slice da x.reply.data.length dc, .int .i64 x.reply.code, .int .i64 x.reply.level, .bool x.reply.more, .int .i64 x.reply.next, .slice oa x.reply.objs.length oc] ∧ hi ≤ w.heap.size ∧ (∀ k, lo ≤ k → k < hi → ¬ F k) ∧ ∀ W, (∀ k, lo ≤ k → k < hi → W.heap[k]? = w.heap[k]?) → w.heap.size ≤ W.heap.size → OcIs W x da dc oa oc

theorem OcH.keeps {F F2 : Nat → Prop} {w w' : World} (hk : Keeps F w w') (h2 : ∀ j, j < w.heap.size → F2 j → F j) (r : List Value) (x : Oc) (h : OcH F w r x) : OcH F2 w' r x := by
  obtain ⟨da, oa, dc, oc, lo, hi, h1, h3, h4, h5⟩ := h
  refine ⟨da, oa, dc, oc, lo, hi, h1, Nat.le_trans h3 hk.size, fun k h6 h7 f => h4 k h6 h7 (h2 k (by omega) f), fun W hW hs => h5 W (fun k h6 h7 => ?_) (Nat.le_trans hk.size hs)⟩
  rw [hW k h6 h7, hk.block k (by omega) (h4 k h6 h7)]

theorem OcH.r {F : Nat → Prop} {w : World} (r : List Value) (x : Oc) (h : OcH F w r x) : OcR w r x := by
  obtain ⟨da, oa, dc, oc, lo, hi, h1, h3, h4, h5⟩ := h
  have := h5 w (fun _ _ _ => rfl) (Nat.le_refl _)
  exact ⟨da, dc, oa, oc, h1, this.d, this.o, this.hi, this.lo⟩

theorem OcH.one {F : Nat → Prop} {w : World} (r : List Value) (x : Oc) (h : OcH F w r x) : ∀ u ∈ r, u.oneCell' = true := by
  obtain ⟨da, oa, dc, oc, lo, hi, rfl, _⟩ := h
  intro u hu
  simp at hu
  rcases hu with rfl | rfl | rfl | rfl | rfl | rfl | rfl | rfl | rfl <;> rfl

/-- One outcome more. -/
theorem ocStep {B P : Nat} {wr w5 w6 : World} {E : TypeId} {X : Obj} {v v6 : Value} {k : Nat} {cs : List Value} {acc : List Oc} {o : Oc} {da oa : Option Addr} {dc oc : Nat}
    (hB : B ≤ wr.heap.size) (hP : P < B) (hown : wr.ownsRow B E 9 v k cs) (hcs : CsL 9 (OcH (DevF B v) wr) cs acc) (hk5 : Keeps (· = P) wr w5)
    (hI : ∀ W, Agree wr.heap.size w5 W → OcIs W o da dc oa oc) (hgr : (w5.alloc X).grownBy w6 v.ownBlock) (hnew : NewOr (w5.alloc X) v v6) :
    CsL 9 (OcH (DevF B v6) w6) (cs ++ [.int .i64 o.verdict, .int .i64 o.reply.fn, .int .i64 o.reply.exc, .slice da o.reply.data.length dc, .int .i64 o.reply.code, .int .i64 o.reply.level, .bool o.reply.more, .int .i64 o.reply.next, .slice oa o.reply.objs.length oc]) (acc ++ [o]) ∧ Keeps (DevF B v) wr w6 ∧ (∀ i, i < B → i ≠ P → w6.heap[i]? = wr.heap[i]?) ∧ w6.heap[P]? = w5.heap[P]? := by
  have hs5 := hk5.size
  have hK1 : Keeps (DevF B v) wr (w5.alloc X) := (hk5.mono (G := DevF B v) (fun j _ e => .inr (by omega))).trans (Keeps.of_below (F := DevF B v) (bal'' w5 X)) (fun _ _ h => h)
  have hK2 : Keeps (fun j => v.ownBlock = some j) (w5.alloc X) w6 := Keeps.of_grown hgr (fun k hk => hk)
  have hK : Keeps (DevF B v) wr w6 := hK1.trans hK2 (fun i _ h => .inl h)
  have hvlt : ∀ j, v.ownBlock = some j → B ≤ j ∧ j < wr.heap.size := fun j hj => hown.lt j hj
  have hF2 : ∀ j, j < w5.heap.size → DevF B v6 j → DevF B v j := by
    intro j hj h
    rcases h with h | h
    · rcases hnew with h1 | ⟨i, h1, h2⟩
      · exact .inl (by rw [← h1]; exact h)
      · rw [h] at h1
        cases h1
        simp at h2
        omega
    · exact .inr h
  have h65 : ∀ i, i < w5.heap.size → v.ownBlock ≠ some i → w6.heap[i]? = w5.heap[i]? := fun i hi hne => by
    rw [hK2.block i (by simp; omega) hne, Below.heap_alloc _ _ _ hi]
  refine ⟨?_, hK, fun i hi hne => ?_, ?_⟩
  · refine CsL.snoc (sz := 9) rfl ?_ acc cs (CsL.mono (fun r x h => OcH.keeps hK (fun j hj => hF2 j (by omega)) r x h) acc cs hcs)
    have hs6 := hK2.size
    simp at hs6
    refine ⟨da, oa, dc, oc, wr.heap.size, w5.heap.size, rfl, by omega, fun k h1 h2 h => ?_, fun W hW hs => hI W ⟨by omega, fun k h1 h2 => ?_⟩⟩
    · rcases hF2 k h2 h with h | h
      · have := (hvlt _ h).2
        omega
      · omega
    · rw [hW k h1 h2]
      exact h65 k h2 (fun h => by have := (hvlt _ h).2; omega)
  · rw [h65 i (by omega) (fun h => by have := (hvlt _ h).1; omega)]
    exact hk5.block i (by omega) hne
  · exact h65 P (by omega) (fun h => by have := (hvlt _ h).1; omega)

theorem infoOc : (Try.prog.info? 27).map (fun i => (i.zero, i.size, i.bytes)) = some (some (.agg #[.int .i64 0, .int .i64 0, .int .i64 0, .slice none 0 0, .int .i64 0, .int .i64 0, .bool false, .int .i64 0, .slice none 0 0]), 9, 104) := by kernel_rfl

theorem decL_nil : decL [] = none := rfl

end Go.Proofs.Ytlaaoifjiogogaa

/-
The contract of record.Decode at all bytes: the walk.
-/
namespace Go.Proofs.Ytlaaoifjiogogaa
open Go.RowKit

/-- What holds at the head of a round: k outcomes have been read. -/
structure LRel (w wr : World) (b : List UInt8) (N k : Nat) (bad : Bool) (acc : List Oc) (a : Option Addr) (c : Nat) (t : List UInt8) (v : Value) (cs : List Value) : Prop where
  len : acc.length = k
  rs : RS w wr w.heap.size a c t bad
  own : wr.ownsRow (w.heap.size + 1) 27 9 v k cs
  rows : CsL 9 (OcH (DevF (w.heap.size + 1) v) wr) cs acc
  size : w.heap.size + 1 ≤ wr.heap.size
  no : bad = true → decL b = none
  yes : bad = false → 1 ≤ b.length ∧ N = (b.getD 0 0).toNat ∧ decN N (b.drop 1) = (decN (N - k) t).map fun p => (acc ++ p.1, p.2)

theorem decL_of {b : List UInt8} (_h : 1 ≤ b.length) : decL b = if 1 ≤ (b.getD 0 0).toNat ∧ (b.getD 0 0).toNat ≤ 64 then (match decN (b.getD 0 0).toNat (b.drop 1) with | some (l, []) => some l | _ => none) else none := by
  unfold decL bAt
  by_cases h1 : 1 ≤ (b.getD 0 0).toNat ∧ (b.getD 0 0).toNat ≤ 64
  · rw [if_pos h1, if_pos (by omega)]
    rfl
  · rw [if_neg h1, if_neg (by omega)]

theorem LRel.next {w wr w5 w6 : World} {b : List UInt8} {N k : Nat} {acc : List Oc} {a : Option Addr} {c : Nat} {t : List UInt8} {v : Value} {cs : List Value}
    (h : LRel w wr b N k false acc a c t v cs) (hk : k < N) {o : Oc} {da oa : Option Addr} {dc oc : Nat} {a' : Option Addr} {c' : Nat} {t' : List UInt8} {bad' : Bool} {X : Obj} {v6 : Value}
    (hI : ∀ W, Agree wr.heap.size w5 W → OcIs W o da dc oa oc) (hrs : RS w w5 w.heap.size a' c' t' bad') (hk5 : Keeps (· = w.heap.size) wr w5) (hor : (bad' = false ∧ ocP t = some (o, t')) ∨ (bad' = true ∧ ocP t = none))
    (hgr : (w5.alloc X).grownBy w6 v.ownBlock) (hnew : NewOr (w5.alloc X) v v6) (hown : w6.ownsRow (w.heap.size + 1) 27 9 v6 (k + 1) (cs ++ [.int .i64 o.verdict, .int .i64 o.reply.fn, .int .i64 o.reply.exc, .slice da o.reply.data.length dc, .int .i64 o.reply.code, .int .i64 o.reply.level, .bool o.reply.more, .int .i64 o.reply.next, .slice oa o.reply.objs.length oc])) :
    LRel w w6 b N (k + 1) bad' (acc ++ [o]) a' c' t' v6 (cs ++ [.int .i64 o.verdict, .int .i64 o.reply.fn, .int .i64 o.reply.exc, .slice da o.reply.data.length dc, .int .i64 o.reply.code, .int .i64 o.reply.level, .bool o.reply.more, .int .i64 o.reply.next, .slice oa o.reply.objs.length oc]) := by
  obtain ⟨s1, s2, s3, s4⟩ := ocStep (P := w.heap.size) h.size (by omega) h.own h.rows hk5 hI hgr hnew
  obtain ⟨y1, y2, y3⟩ := h.yes rfl
  have hb6 : Below w.heap.size w w6 := by
    have hb5 := hrs.bel
    refine ⟨s2.os.trans h.rs.bel.os, s2.tape.trans h.rs.bel.tape, s2.output.trans h.rs.bel.output, Nat.le_trans h.rs.bel.size s2.size, fun i hi => ?_⟩
    rw [s3 i (by omega) (by omega)]
    exact h.rs.bel.block i hi
  obtain ⟨m, hm⟩ : ∃ m, N - k = m + 1 := ⟨N - k - 1, by omega⟩
  have hm2 : N - (k + 1) = m := by omega
  refine ⟨by simp [h.len], hrs.of s4 hb6, hown, s1, Nat.le_trans h.size s2.size, fun hb => ?_, fun hb => ⟨y1, y2, ?_⟩⟩
  · rcases hor with ⟨h1, _⟩ | ⟨_, h2⟩
    · rw [hb] at h1; cases h1
    · rw [decL_of y1, ← y2]
      split
      · have e : decN N (b.drop 1) = none := by
          rw [y3, hm]
          unfold decN
          rw [h2]
          rfl
        rw [e]
      · rfl
  · rcases hor with ⟨_, h2⟩ | ⟨h1, _⟩
    · rw [y3, hm, hm2]
      conv => lhs; unfold decN
      rw [h2]
      show ((decN m t').map _).map _ = _
      rw [Option.map_map]
      congr 1
      funext p
      simp
    · rw [hb] at h1; cases h1

theorem LRel.fin {w wr : World} {b : List UInt8} {N k : Nat} {acc : List Oc} {a : Option Addr} {c : Nat} {t : List UInt8} {v : Value} {cs : List Value}
    (h : LRel w wr b N k false acc a c t v cs) (hk : N ≤ k) : decL b = if 1 ≤ N ∧ N ≤ 64 ∧ t.length = 0 then some acc else none := by
  obtain ⟨y1, y2, y3⟩ := h.yes rfl
  rw [show N - k = 0 by omega] at y3
  have e : decN N (b.drop 1) = some (acc, t) := by rw [y3]; simp [decN]
  rw [decL_of y1, ← y2, e]
  by_cases h1 : 1 ≤ N ∧ N ≤ 64
  · rw [if_pos h1]
    cases t with
    | nil => rw [if_pos ⟨h1.1, h1.2, rfl⟩]
    | cons _ _ => rw [if_neg (fun h => by have := h.2.2; simp at this)]
  · rw [if_neg h1, if_neg (fun h => h1 ⟨h.1, h.2.1⟩)]

set_option maxRecDepth 100000 in
set_option maxHeartbeats 12800000 in
theorem recDecode_any (a : Option Addr) (n c : Nat) (b : List UInt8) (w : World) (hb : Bs w (.slice a n c) b)
    (HDEC : Hid (∀ (a : Option Addr) (n c : Nat) (b : List UInt8) (w : World), Bs w (.slice a n c) b → Calls Try.prog 92 #[.slice a n c] w (DecPost w (Rp.dec b)))) :
    Calls Try.prog 20 #[.slice a n c] w (DecLPost w (decL b)) := by
  obtain ⟨iO, hiO, hzO0, hzO1, hzO2⟩ := info_parts infoOc
  obtain ⟨hbn, hnc, hcm⟩ := hb.capOf
  unfold maxLen at hcm
  subst hbn
  have hrs0 : RS w (w.alloc (.cells #[.slice a b.length c, .bool false] 98)) w.heap.size a c b false := ⟨hpNew w _, hb, Nat.le_refl _, bal'' w _⟩
  have HNU := hid (number_all hrs0)
  clear hb hrs0
  obtain ⟨bn, hbn⟩ : ∃ bn, b.length = bn := ⟨_, rfl⟩
  rw [hbn] at hnc HNU ⊢
  replace hbn := hid hbn
  go_enter Try.func20, Try.ntmps20
  go_wp2_with fail
  refine HNU.out.mono ?_
  rintro r w1 ⟨N, a1, c1, t1, b1, rfl, hN, hs1, hk1, hor1⟩
  have hsz1 : w.heap.size + 1 ≤ w1.heap.size := by have := hk1.size; simp at this; omega
  have HREL0 : Hid (LRel w w1 b N 0 b1 [] a1 c1 t1 (.slice none 0 0) []) := by
    refine ⟨rfl, hs1, World.ownsRow_nil _ _ _ _, rfl, hsz1, fun h => ?_, fun h => ?_⟩
    · rcases hor1 with ⟨_, _, h1, _⟩ | ⟨h1, _⟩
      · rw [h] at h1; cases h1
      · have hl : b = [] := by
          rcases h1 with h1 | h1
          · simp at h1
          · exact List.eq_nil_of_length_eq_zero (by omega)
        rw [hl]; rfl
    · rcases hor1 with ⟨_, h0, h1, h2, h3⟩ | ⟨_, h1, _⟩
      · refine ⟨h0, h3, ?_⟩
        rw [h2, Nat.sub_zero]
        cases decN N (b.drop 1) <;> simp
      · rw [h] at h1; cases h1
  clear hor1 hs1 hk1 HNU
  go_wp2_with fail
  go_loopw [6, 7] (fun lv kv wr => ∃ (k : Nat) (bad : Bool) (acc : List Oc) (a' la : Option Addr) (c' lc : Nat) (t : List UInt8) (cs : List Value), k ≤ N ∧ kv = .int .i64 k ∧ lv = .slice la k lc ∧ Hid (LRel w wr b N k bad acc a' c' t (.slice la k lc) cs)) (fun _ kv _ => N - (intOf kv).toNat)
  case atStart => exact ⟨0, b1, [], a1, none, c1, 0, t1, [], Nat.zero_le _, rfl, rfl, HREL0.out⟩
  case round =>
    clear HREL0 hsz1
    obtain ⟨k, bad, acc, a', la, c', lc, t, cs, hk, rfl, rfl, hR⟩ := hrel
    have hblk := hR.out.rs.blk
    have p0 : wr.cell? ⟨w.heap.size, 0, none⟩ = some (.slice a' t.length c') := hpCell hblk 0
    have p1 : wr.cell? ⟨w.heap.size, 1, none⟩ = some (.bool bad) := hpCell hblk 1
    clear hblk
    have hbw := hR.out.rs.bel
    cases bad with
    | true =>
      have HN := hid (hR.out.no rfl)
      rcases Nat.lt_or_ge k N with hlt | hge
      · have hkl : (k : Int) < (N : Int) := by omega
        go_wp2
        go_ret2
        exact .inr ⟨HN.out, rfl, hbw⟩
      · have hkl : ¬ (k : Int) < (N : Int) := by omega
        go_wp2
        go_ret2
        exact .inr ⟨HN.out, rfl, hbw⟩
    | false =>
      by_cases hlt : k < N
      · have hkl : (k : Int) < (N : Int) := by omega
        have HO := hid (outcome_any hR.out.rs HDEC)
        have HOWN := hid hR.out.own
        have hszr := hR.out.size
        go_wp2_with fail
        refine HO.out.mono ?_
        rintro r w5 ⟨o, da, oa, dc, oc, a5, c5, t5, b5, rfl, hI, hrs5, hk5, hor5⟩
        have hs5 := hk5.size
        have HOW5 := hid ((own_keeps HOWN.out hk5 (fun j hj e => by have := (HOWN.out.lt j hj).1; omega)).alloc (.cells #[.int .i64 o.verdict, .int .i64 o.reply.fn, .int .i64 o.reply.exc, .slice da o.reply.data.length dc, .int .i64 o.reply.code, .int .i64 o.reply.level, .bool o.reply.more, .int .i64 o.reply.next, .slice oa o.reply.objs.length oc] 27))
        have HNX : Hid (∀ (w6 : World) (v6 : Value), (w5.alloc (.cells #[.int .i64 o.verdict, .int .i64 o.reply.fn, .int .i64 o.reply.exc, .slice da o.reply.data.length dc, .int .i64 o.reply.code, .int .i64 o.reply.level, .bool o.reply.more, .int .i64 o.reply.next, .slice oa o.reply.objs.length oc] 27)).grownBy w6 (Value.slice la k lc).ownBlock → NewOr (w5.alloc (.cells #[.int .i64 o.verdict, .int .i64 o.reply.fn, .int .i64 o.reply.exc, .slice da o.reply.data.length dc, .int .i64 o.reply.code, .int .i64 o.reply.level, .bool o.reply.more, .int .i64 o.reply.next, .slice oa o.reply.objs.length oc] 27)) (.slice la k lc) v6 → w6.ownsRow (w.heap.size + 1) 27 9 v6 (k + 1) (cs ++ [.int .i64 o.verdict, .int .i64 o.reply.fn, .int .i64 o.reply.exc, .slice da o.reply.data.length dc, .int .i64 o.reply.code, .int .i64 o.reply.level, .bool o.reply.more, .int .i64 o.reply.next, .slice oa o.reply.objs.length oc]) → LRel w w6 b N (k + 1) b5 (acc ++ [o]) a5 c5 t5 v6 (cs ++ [.int .i64 o.verdict, .int .i64 o.reply.fn, .int .i64 o.reply.exc, .slice da o.reply.data.length dc, .int .i64 o.reply.code, .int .i64 o.reply.level, .bool o.reply.more, .int .i64 o.reply.next, .slice oa o.reply.objs.length oc])) := fun w6 v6 h1 h2 h3 => hR.out.next hlt hI hrs5 hk5 hor5 h1 h2 h3
        clear hI hrs5 hk5 hor5 HO HOWN hbw p0 p1
        go_wp2_with (at_builtin; refine wpList_appN rfl (.tmp 25) (.tmp 28) 33 rfl (w.heap.size + 1) 27 iO _ 9 104 Try.underlying33 hiO hzO0 hzO1 hzO2 rfl (by decide) (.slice la k lc) k cs rfl HOW5.out ⟨w5.heap.size, 0, none⟩ 1 1 [.int .i64 o.verdict, .int .i64 o.reply.fn, .int .i64 o.reply.exc, .slice da o.reply.data.length dc, .int .i64 o.reply.code, .int .i64 o.reply.level, .bool o.reply.more, .int .i64 o.reply.next, .slice oa o.reply.objs.length oc] rfl rfl (newsNew w5 [.int .i64 o.verdict, .int .i64 o.reply.fn, .int .i64 o.reply.exc, .slice da o.reply.data.length dc, .int .i64 o.reply.code, .int .i64 o.reply.level, .bool o.reply.more, .int .i64 o.reply.next, .slice oa o.reply.objs.length oc] _) ?c1 ?c2 ?c3 ?c4 ?c5)
        case c1 =>
          intro u hu
          simp at hu
          rcases hu with rfl | rfl | rfl | rfl | rfl | rfl | rfl | rfl | rfl <;> rfl
        case c2 => unfold maxLen; omega
        case c3 => omega
        case c4 => simp; omega
        case c5 =>
          intro v6 w6 hown6 hgr6 hnew6
          obtain ⟨a6, c6, rfl⟩ := own_slice hown6
          have HL := hid (HNX.out w6 _ hgr6 hnew6 hown6)
          clear hown6 hgr6 hnew6
          go_wp2
          go_roundw
          case rel => exact ⟨k + 1, b5, acc ++ [o], a5, a6, c5, c6, t5, _, by omega, by go_num, rfl, HL⟩
          case measure => simp [intOf]; omega
      · have hkl : ¬ (k : Int) < (N : Int) := by omega
        have hfin := hR.out.fin (by omega)
        obtain ⟨tn, htn⟩ : ∃ tn, t.length = tn := ⟨_, rfl⟩
        rw [htn] at hfin p0
        clear htn
        by_cases ht : tn = 0
        · subst ht
          by_cases hN1 : 1 ≤ N ∧ N ≤ 64
          · have HS : Hid (decL b = some acc) := by show _ = _; rw [hfin, if_pos ⟨hN1.1, hN1.2, rfl⟩]
            obtain ⟨h1, h2⟩ := hN1
            have hN0 : N ≠ 0 := by omega
            have hN3 : ¬ 64 < N := by omega
            have hO : Hid (Ocs wr (.slice la k lc) acc) := Sls.of_own hR.out.own (CsL.mono (fun r x h => h.r) _ _ hR.out.rows) hR.out.len
            clear hfin
            go_wp2
            go_ret2
            exact .inl ⟨acc, _, HS.out, rfl, hO.out, hbw⟩
          · have HN : Hid (decL b = none) := by show _ = _; rw [hfin, if_neg (fun h => hN1 ⟨h.1, h.2.1⟩)]
            clear hfin
            rcases (show N = 0 ∨ 64 < N by omega) with rfl | h64
            · go_wp2
              go_ret2
              exact .inr ⟨HN.out, rfl, hbw⟩
            · have hN0 : N ≠ 0 := by omega
              clear hN1
              go_wp2
              go_ret2
              exact .inr ⟨HN.out, rfl, hbw⟩
        · have HN : Hid (decL b = none) := by show _ = _; rw [hfin, if_neg (fun h => ht h.2.2)]
          have ht0 : 0 < tn := by omega
          clear hfin
          go_wp2
          go_ret2
          exact .inr ⟨HN.out, rfl, hbw⟩

end Go.Proofs.Ytlaaoifjiogogaa
