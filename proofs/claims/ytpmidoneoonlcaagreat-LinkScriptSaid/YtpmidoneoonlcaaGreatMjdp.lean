/-
  Several texts of this claim in one file.
-/
import Derived.Test.YtpmidoneoonlcaaGreatMrech
import Derived.Test.YtpmidoneoonlcaaGreatMbase
import Derived.StillTailTactics
import Derived.Test.YtpmidoneoonlcaaGreatMplain
import Derived.Deep.RegionHeld3
import Derived.Deep.RegionLaw
import Derived.Test.YtpmidoneoonlcaaGreatRjudge
import Derived.Test.YtpmidoneoonlcaaGreatMrec
/-
The contract of record.Strip where everything is kept.
-/
namespace Go.Proofs.YtpmidoneoonlcaaGreat
open Go.RowKit

/-- The blocks that the loop over the copied objects, and what stands behind it, may change. -/
def DeepF (w : World) (v2 : Value) : Nat → Prop := fun k => v2.ownBlock = some k ∨ k = w.heap.size + 1 ∨ k = w.heap.size + 1 + 1

/-- Where the loop over the copied objects stands. -/
def DeepRel (w wr : World) (A B C : Obj) (v2 : Value) (objs : List Ob) (a1 : Option Addr) (c1 : Nat) (data : List UInt8) : Prop :=
  wr.heap[w.heap.size]? = some A ∧ wr.heap[w.heap.size + 1]? = some B ∧ wr.heap[w.heap.size + 1 + 1]? = some C ∧
    (∃ cs, wr.ownsRow (w.heap.size + 3) 115 2 v2 objs.length cs ∧ ObCg (DeepF w v2) wr cs objs) ∧ Bs wr (.slice a1 data.length c1) data ∧ (data ≠ [] → ∀ ad, a1 = some ad → ¬ DeepF w v2 ad.block) ∧ Below w.heap.size w wr

theorem DeepRel.step {w wr w5 : World} {A B C : Obj} {g cap : Nat} {objs : List Ob} {a1 : Option Addr} {c1 : Nat} {data : List UInt8} (h : DeepRel w wr A B C (.slice (some ⟨g, 0, none⟩) objs.length cap) objs a1 c1 data)
    (hb : Below wr.heap.size wr w5) {k : Nat} {x : Ob} (hx : objs[k]? = some x) {E : TypeId} {a5 : Option Addr} {c5 : Nat} (hown5 : w5.ownsRow wr.heap.size E 1 (.slice a5 x.val.length c5) x.val.length (u8s x.val)) :
    DeepRel w (w5.setCell ⟨g, k * 2 + 1, none⟩ (.slice a5 x.val.length c5)) A B C (.slice (some ⟨g, 0, none⟩) objs.length cap) objs a1 c1 data := by
  obtain ⟨gA, gB, gC, ⟨cs, hown, hcg⟩, hbs, hbf, hbw⟩ := h
  have hg := hown.lt g rfl
  have hszw := hbw.size
  have sz : ∀ k c, wr.heap[k]? = some c → k < wr.heap.size := fun k c hc => (Array.getElem?_eq_some_iff.1 hc).1
  have lA := sz _ _ gA
  have lB := sz _ _ gB
  have lC := sz _ _ gC
  have hk : Keeps (fun k => k = g) w5 (w5.setCell ⟨g, k * 2 + 1, none⟩ (.slice a5 x.val.length c5)) := (Keeps.refl _ _).set _ _ rfl
  have hkF : ∀ k, k = g → DeepF w (.slice (some ⟨g, 0, none⟩) objs.length cap) k := fun k hk => .inl (by rw [hk]; rfl)
  have hown' := own_keeps hown (Keeps.of_below (F := fun _ => False) hb) (fun _ _ f => f)
  have hcg' := hcg.keeps (Keeps.of_below (F := fun _ => False) hb) (fun _ f => f.elim)
  have hF5 : x.val ≠ [] → ∀ ad, a5 = some ad → ¬ DeepF w (.slice (some ⟨g, 0, none⟩) objs.length cap) ad.block := fun _ ad had hF => by
    have h5 := (hown5.lt ad.block (by rw [had]; rfl)).1
    rcases hF with e | e | e
    · simp [Value.ownBlock] at e; omega
    · omega
    · omega
  refine ⟨by rw [heap_setO (by omega), hb.block _ lA]; exact gA, by rw [heap_setO (by omega), hb.block _ lB]; exact gB, by rw [heap_setO (by omega), hb.block _ lC]; exact gC, ⟨cs.set (k * 2 + 1) (.slice a5 x.val.length c5), (hown'.stored _ _).1, ?_⟩, ?_, hbf, ?_⟩
  · exact (hcg'.set hx (Bs.own hown5) hF5).keeps hk hkF
  · exact (hbs.keep hb).keepsN hk (fun hl ad had e => hbf hl ad had (hkF _ e))
  · exact (bt hbw hb (Nat.le_refl _)).setCell (p := ⟨g, k * 2 + 1, none⟩) (by show w.heap.size ≤ g; omega) _

end Go.Proofs.YtpmidoneoonlcaaGreat

/-
The contract of record.appendOutcome at short outcomes, and of record.Encode over any contract of appendOutcome.
-/
namespace Go.Proofs.YtpmidoneoonlcaaGreat
open Go.RowKit

/-- What a call that appends leaves. -/
def AppPost (base : Nat) (w : World) (l : List UInt8) (r : Ending) (w' : World) : Prop := ∃ a c, r = .returned (.slice a l.length c) ∧ w'.ownsRow base 5 1 (.slice a l.length c) l.length (u8s l) ∧ Below base w w'

theorem bs1 (W : World) (n : Nat) (x : Int) (h1 : 0 ≤ x) (h2 : x ≤ 255) (hn : n = W.heap.size) : Bs (W.alloc (.cells #[.int .u8 x] 5)) (.slice (some ⟨n, 0, none⟩) 1 1) [byteI x] := by
  subst hn
  refine Bs.mk (l := [byteI x]) (Nat.le_refl 1) (by unfold maxLen; decide) fun i hi => ?_
  have : i = 0 := by simp at hi; omega
  subst this
  rw [World.cell?_alloc_at _ _ _ _ rfl]
  show some (Value.int .u8 x) = some (.int .u8 ((byteI x).toNat : Int))
  rw [byteI_val h1 h2]
theorem bs2 (W : World) (n : Nat) (x y : Int) (h1 : 0 ≤ x) (h2 : x ≤ 255) (h3 : 0 ≤ y) (h4 : y ≤ 255) (hn : n = W.heap.size) : Bs (W.alloc (.cells #[.int .u8 x, .int .u8 y] 5)) (.slice (some ⟨n, 0, none⟩) 2 2) [byteI x, byteI y] := by
  subst hn
  refine Bs.mk (l := [byteI x, byteI y]) (Nat.le_refl 2) (by unfold maxLen; decide) fun i hi => ?_
  rw [World.cell?_alloc_at _ _ _ _ rfl]
  match i, hi with
  | 0, _ => show some (Value.int .u8 x) = some (.int .u8 ((byteI x).toNat : Int)); rw [byteI_val h1 h2]
  | 1, _ => show some (Value.int .u8 y) = some (.int .u8 ((byteI y).toNat : Int)); rw [byteI_val h3 h4]

end Go.Proofs.YtpmidoneoonlcaaGreat

/-
The contract of record.Encode at one outcome, and the check that the statements on records begin with.
-/
namespace Go.Proofs.YtpmidoneoonlcaaGreat
open Go.RowKit

/-- What Encode leaves where it answers. -/
def EncPost (w : World) (l : List UInt8) (r : Ending) (w' : World) : Prop := ∃ a c, r = .returned (.tuple #[.slice a l.length c, .int .i64 0]) ∧ Bs w' (.slice a l.length c) l ∧ Below w.heap.size w w' ∧ ∀ ad, a = some ad → w.heap.size ≤ ad.block

theorem own1 (w : World) (base : Nat) (x : Int) (h1 : 0 ≤ x) (h2 : x ≤ 255) (hb : base ≤ w.heap.size) :
    (w.alloc (.cells #[.int .u8 x] 5)).ownsRow base 5 1 (.slice (some ⟨w.heap.size, 0, none⟩) 1 1) 1 (u8s [byteI x]) := by
  refine ⟨rfl, .inr ⟨w.heap.size, 1, _, rfl, hb, heap_alloc_new _ _, Nat.le_refl _, by decide, rfl, ?_⟩⟩
  show [Value.int .u8 x] = [.int .u8 ((byteI x).toNat : Int)]
  rw [byteI_val h1 h2]

end Go.Proofs.YtpmidoneoonlcaaGreat

/-
The PDU of a reply, and the contract of reply.Encode but for its loop.
-/
namespace Go.Proofs.YtpmidoneoonlcaaGreat
open Go.RowKit

theorem own2 (w : World) (base : Nat) (x y : Int) (h1 : 0 ≤ x) (h2 : x ≤ 255) (h3 : 0 ≤ y) (h4 : y ≤ 255) (hb : base ≤ w.heap.size) :
    (w.alloc (.cells #[.int .u8 x, .int .u8 y] 5)).ownsRow base 5 1 (.slice (some ⟨w.heap.size, 0, none⟩) 2 2) [byteI x, byteI y].length (u8s [byteI x, byteI y]) := by
  refine ⟨rfl, .inr ⟨w.heap.size, 2, _, rfl, hb, heap_alloc_new _ _, Nat.le_refl _, by decide, rfl, ?_⟩⟩
  show [Value.int .u8 x, .int .u8 y] = [.int .u8 ((byteI x).toNat : Int), .int .u8 ((byteI y).toNat : Int)]
  rw [byteI_val h1 h2, byteI_val h3 h4]

theorem own7 (w : World) (base : Nat) (a b c d e : Int) (ha : 0 ≤ a ∧ a ≤ 255) (hb' : 0 ≤ b ∧ b ≤ 255) (hc : 0 ≤ c ∧ c ≤ 255) (hd : 0 ≤ d ∧ d ≤ 255) (he : 0 ≤ e ∧ e ≤ 255) (hb : base ≤ w.heap.size) :
    (w.alloc (.cells #[.int .u8 43, .int .u8 14, .int .u8 a, .int .u8 b, .int .u8 c, .int .u8 d, .int .u8 e] 5)).ownsRow base 5 1 (.slice (some ⟨w.heap.size, 0, none⟩) 7 7) 7 (u8s [43, 14, byteI a, byteI b, byteI c, byteI d, byteI e]) := by
  refine ⟨rfl, .inr ⟨w.heap.size, 7, _, rfl, hb, heap_alloc_new _ _, Nat.le_refl _, by decide, rfl, ?_⟩⟩
  show [Value.int .u8 43, .int .u8 14, .int .u8 a, .int .u8 b, .int .u8 c, .int .u8 d, .int .u8 e] = [.int .u8 43, .int .u8 14, .int .u8 ((byteI a).toNat : Int), .int .u8 ((byteI b).toNat : Int), .int .u8 ((byteI c).toNat : Int), .int .u8 ((byteI d).toNat : Int), .int .u8 ((byteI e).toNat : Int)]
  rw [byteI_val ha.1 ha.2, byteI_val hb'.1 hb'.2, byteI_val hc.1 hc.2, byteI_val hd.1 hd.2, byteI_val he.1 he.2]

end Go.Proofs.YtpmidoneoonlcaaGreat

/-
The contracts of reply.Encode and of the reference's EncodeReply, but for device identifications.
-/
namespace Go.Proofs.YtpmidoneoonlcaaGreat
open Go.RowKit

theorem ne_box {W : World} {v v5 : Value} {b : Nat} (hn : NewOr W v v5) (h1 : ∀ k, v.ownBlock = some k → k < b) (h2 : b < W.heap.size) : ∀ j, v5.ownBlock = some j → j ≠ b := by
  intro j hj
  rcases hn with h | ⟨j2, h, hj2⟩
  · rw [hj] at h
    have := h1 _ h.symm
    omega
  · rw [hj] at h
    cases h
    omega

end Go.Proofs.YtpmidoneoonlcaaGreat

/-
The contract of reply.Encode at device identifications.
-/
namespace Go.Proofs.YtpmidoneoonlcaaGreat
open Go.RowKit
end Go.Proofs.YtpmidoneoonlcaaGreat

/-
The contract of the reference's EncodeReply at device identifications.
-/
namespace Go.Proofs.YtpmidoneoonlcaaGreat
open Go.RowKit
end Go.Proofs.YtpmidoneoonlcaaGreat

/-
The contracts of reply.Encode and of the reference's EncodeReply at every valid reply.
-/
namespace Go.Proofs.YtpmidoneoonlcaaGreat
open Go.RowKit
end Go.Proofs.YtpmidoneoonlcaaGreat

/-
The contract of record.appendOutcome at clean outcomes.
-/
namespace Go.Proofs.YtpmidoneoonlcaaGreat
open Go.RowKit

theorem wrap8 {x : Int} (h1 : 0 ≤ x) (h2 : x ≤ 255) : IntKind.u8.wrap x = x := by show x % 256 = x; omega

end Go.Proofs.YtpmidoneoonlcaaGreat

/-
The contract of record.appendOutcome at clean outcomes with a PDU.
-/
namespace Go.Proofs.YtpmidoneoonlcaaGreat
open Go.RowKit
end Go.Proofs.YtpmidoneoonlcaaGreat

/-
The bytes of an outcome, and the contract of record.appendOutcome at every valid outcome.
-/
namespace Go.Proofs.YtpmidoneoonlcaaGreat
open Go.RowKit

theorem pdu_le {fn exc : Int} {data : List UInt8} {code level : Int} {more : Bool} {next : Int} {objs : List Ob} (h : Rp.ok ⟨fn, exc, data, code, level, more, next, objs⟩ = true) : (Rp.pdu ⟨fn, exc, data, code, level, more, next, objs⟩).length ≤ 253 := by
  obtain ⟨hf, h | h | h⟩ := ok_cases h
  · have e : Rp.pdu ⟨fn, exc, data, code, level, more, next, objs⟩ = [byteI (fn + 128), byteI exc] := by unfold Rp.pdu; rw [if_neg h.1]
    rw [e]; simp
  · obtain ⟨rfl, h43, h1, h2⟩ := h
    have e : Rp.pdu ⟨fn, 0, data, code, level, more, next, objs⟩ = byteI fn :: byteI data.length :: data := by unfold Rp.pdu; rw [if_pos rfl, if_neg h43]
    rw [e]; simp; omega
  · obtain ⟨rfl, rfl, rfl, h1, h2, h3, h4, h5, h6, h7⟩ := h
    have e : Rp.pdu ⟨43, 0, [], code, level, more, next, objs⟩ = devHead ⟨43, 0, [], code, level, more, next, objs⟩ ++ encObs objs := by unfold Rp.pdu; rw [if_pos rfl, if_pos rfl]
    obtain ⟨_, hb, _⟩ := objsB_bd h7
    rw [e, List.length_append, encObs_length]
    show 7 + _ ≤ 253
    omega

end Go.Proofs.YtpmidoneoonlcaaGreat

/-
The contracts of record.Encode and of the reference's Encode at every list of outcomes.
-/
namespace Go.Proofs.YtpmidoneoonlcaaGreat
open Go.RowKit

def encErr (l : List Oc) : Int := if 1 ≤ l.length ∧ l.length ≤ 64 then 5 else 4
/-- What Encode leaves. -/
def EncLPost (w : World) (l : List Oc) (r : Ending) (w' : World) : Prop :=
  (okL l = true → EncPost w (encL l) r w') ∧ (okL l = false → r = .returned (.tuple #[.slice none 0 0, .int .i64 (encErr l)]) ∧ Below w.heap.size w w')

theorem oc_enc_le {o : Oc} (h : o.ok = true) : o.enc.length ≤ 256 := by
  rcases oc_forms h with ⟨hv, he⟩ | ⟨hv, hk, h1, h2, he⟩ | ⟨hv, ht, he⟩ | ⟨hv, ht, hx, hr⟩
  · unfold Oc.enc; rw [if_neg (by omega), if_neg (by omega)]; simp
  · unfold Oc.enc; rw [if_pos hv]; simp
  · unfold Oc.enc; rw [if_neg (by omega), if_pos hv, if_pos ht]; simp
  · have := (pdu_le' hr).2
    unfold Oc.enc; rw [if_neg (by omega), if_pos hv, if_neg (by rw [ht]; decide)]; simp; omega

theorem okL_no {l : List Oc} {k : Nat} {x : Oc} (h : l[k]? = some x) (hx : x.ok = false) : okL l = false := by
  cases hs : okL l with
  | false => rfl
  | true =>
    simp only [okL, Bool.and_eq_true, List.all_eq_true] at hs
    have := hs.2 x (List.mem_of_getElem? h)
    rw [hx] at this; cases this
theorem okL_len {l : List Oc} (h : ¬ (1 ≤ l.length ∧ l.length ≤ 64)) : okL l = false := by
  cases hs : okL l with
  | false => rfl
  | true =>
    simp only [okL, Bool.and_eq_true, decide_eq_true_eq] at hs
    exact absurd hs.1 h
theorem okL_yes {l : List Oc} (h : 1 ≤ l.length ∧ l.length ≤ 64) (hk : ∀ (j : Nat) (x : Oc), j < l.length → l[j]? = some x → x.ok = true) : okL l = true := by
  simp only [okL, Bool.and_eq_true, decide_eq_true_eq, List.all_eq_true]
  refine ⟨h, fun x hx => ?_⟩
  obtain ⟨j, hj⟩ := List.getElem?_of_mem hx
  exact hk j x (List.getElem?_eq_some_iff.1 hj).1 hj

theorem EncLPost.yes {w : World} {l : List Oc} {r : Ending} {w' : World} (h : okL l = true) (hp : EncPost w (encL l) r w') : EncLPost w l r w' := ⟨fun _ => hp, fun h2 => absurd (h.symm.trans h2) (by decide)⟩
theorem EncLPost.no {w : World} {l : List Oc} {w' : World} {e : Int} (h : okL l = false) (he : encErr l = e) (hb : Below w.heap.size w w') : EncLPost w l (.returned (.tuple #[.slice none 0 0, .int .i64 e])) w' := ⟨fun h2 => absurd (h.symm.trans h2) (by decide), fun _ => ⟨by rw [he], hb⟩⟩

/-- What is known of an outcome that is handed over by value, in every later world. -/
structure OcIs (w : World) (x : Oc) (da : Option Addr) (dc : Nat) (oa : Option Addr) (oc : Nat) : Prop where
  d : Bs w (.slice da x.reply.data.length dc) x.reply.data
  o : Obs w (.slice oa x.reply.objs.length oc) x.reply.objs
  hi : x.reply.level ≤ 9223372036854775807
  lo : -9223372036854775808 ≤ x.reply.level
theorem OcIs.keep {w w' : World} {x : Oc} {da : Option Addr} {dc : Nat} {oa : Option Addr} {oc : Nat} (h : OcIs w x da dc oa oc) (hb : Below w.heap.size w w') : OcIs w' x da dc oa oc := ⟨h.d.keep hb, h.o.keep hb, h.hi, h.lo⟩

end Go.Proofs.YtpmidoneoonlcaaGreat

/-
The contract of modscanref27.one: the bytes of a valid outcome.
-/
namespace Go.Proofs.YtpmidoneoonlcaaGreat
open Go.RowKit

/-- What a call that answers new bytes leaves. -/
def OnePost (w : World) (l : List UInt8) (r : Ending) (w' : World) : Prop := ∃ a c, r = .returned (.slice a l.length c) ∧ Bs w' (.slice a l.length c) l ∧ Below w.heap.size w w' ∧ ∀ ad, a = some ad → w.heap.size ≤ ad.block

theorem OnePost.of_own {w w' : World} {l : List UInt8} {a : Option Addr} {n c : Nat} (hn : n = l.length) (h : w'.ownsRow w.heap.size 5 1 (.slice a n c) n (u8s l)) (hb : Below w.heap.size w w') : OnePost w l (.returned (.slice a n c)) w' := by
  subst hn
  exact ⟨a, c, rfl, Bs.own h, hb, fun ad had => (h.lt ad.block (by rw [had]; rfl)).1⟩

theorem enc_345 {x : Oc} (h : x.verdict = 3 ∨ x.verdict = 4 ∨ x.verdict = 5) : x.enc = [byteI x.verdict] := by
  unfold Oc.enc; rw [if_neg (by omega), if_neg (by omega)]
theorem enc_2 {x : Oc} (h : x.verdict = 2) : x.enc = [byteI 2] ++ [byteI x.reply.fn, byteI x.reply.exc] := by
  unfold Oc.enc; rw [if_pos h, h]; rfl
theorem enc_1t {x : Oc} (h : x.verdict = 1) (ht : tblB x.reply.fn = true) : x.enc = [byteI 1] ++ [byteI x.reply.fn] := by
  unfold Oc.enc; rw [if_neg (by omega), if_pos h, if_pos ht, h]; rfl
theorem enc_1n {x : Oc} (h : x.verdict = 1) (ht : tblB x.reply.fn = false) : x.enc = [byteI 1] ++ [byteI x.reply.fn] ++ [byteI x.reply.pdu.length] ++ x.reply.pdu := by
  unfold Oc.enc; rw [if_neg (by omega), if_pos h, if_neg (by rw [ht]; decide), h]; rfl

end Go.Proofs.YtpmidoneoonlcaaGreat

/-
The contract of the reference's Encode at every list of outcomes.
-/
namespace Go.Proofs.YtpmidoneoonlcaaGreat
open Go.RowKit
end Go.Proofs.YtpmidoneoonlcaaGreat

/-
The contract of modscanref27.SameOutcomes at two slices that read as the same list.
-/
namespace Go.Proofs.YtpmidoneoonlcaaGreat
open Go.RowKit

theorem same_oc {W : World} {x : Oc} {da : Option Addr} {dc : Nat} {oa : Option Addr} {oc : Nat} {da' : Option Addr} {dc' : Nat} {oa' : Option Addr} {oc' : Nat} (h : OcIs W x da dc oa oc) (h' : OcIs W x da' dc' oa' oc') :
    Calls Tryz.prog 51 #[.agg #[.int .i64 x.verdict, .int .i64 x.reply.fn, .int .i64 x.reply.exc, .slice da x.reply.data.length dc, .int .i64 x.reply.code, .int .i64 x.reply.level, .bool x.reply.more, .int .i64 x.reply.next, .slice oa x.reply.objs.length oc], .agg #[.int .i64 x.verdict, .int .i64 x.reply.fn, .int .i64 x.reply.exc, .slice da' x.reply.data.length dc', .int .i64 x.reply.code, .int .i64 x.reply.level, .bool x.reply.more, .int .i64 x.reply.next, .slice oa' x.reply.objs.length oc']] W fun r w' => r = .returned (.bool true) ∧ Below W.heap.size W w' :=
  sameOc_any x.verdict _ _ _ _ _ _ _ _ x.reply.data x.reply.objs x.verdict _ _ _ _ _ _ _ _ x.reply.data x.reply.objs W h.d h.o h'.d h'.o true (Oc.same_self _)

end Go.Proofs.YtpmidoneoonlcaaGreat

/-
The same contract, which says that the bytes' row is the call's own.
-/
namespace Go.Proofs.YtpmidoneoonlcaaGreat
open Go.RowKit

/-- What Encode leaves: a row of its own. -/
def EncLOwn (w : World) (l : List Oc) (r : Ending) (w' : World) : Prop :=
  (okL l = true → ∃ a c, r = .returned (.tuple #[.slice a (encL l).length c, .int .i64 0]) ∧ w'.ownsRow w.heap.size 5 1 (.slice a (encL l).length c) (encL l).length (u8s (encL l)) ∧ (encL l).length ≤ 20000 ∧ Below w.heap.size w w') ∧ (okL l = false → r = .returned (.tuple #[.slice none 0 0, .int .i64 (encErr l)]) ∧ Below w.heap.size w w')
theorem EncLOwn.no {w : World} {l : List Oc} {w' : World} {e : Int} (h : okL l = false) (he : encErr l = e) (hb : Below w.heap.size w w') : EncLOwn w l (.returned (.tuple #[.slice none 0 0, .int .i64 e])) w' := ⟨fun h2 => absurd (h.symm.trans h2) (by decide), fun _ => ⟨by rw [he], hb⟩⟩
theorem EncLOwn.yes {w : World} {l : List Oc} {w' : World} {bs : List UInt8} {a : Option Addr} {c : Nat} (h : okL l = true) (he : bs = encL l) (ho : w'.ownsRow w.heap.size 5 1 (.slice a bs.length c) bs.length (u8s bs)) (hn : bs.length ≤ 20000) (hb : Below w.heap.size w w') : EncLOwn w l (.returned (.tuple #[.slice a bs.length c, .int .i64 0])) w' := by
  subst he
  exact ⟨fun _ => ⟨a, c, rfl, ho, hn, hb⟩, fun h2 => absurd (h.symm.trans h2) (by decide)⟩

end Go.Proofs.YtpmidoneoonlcaaGreat

/-
What a judged outcome is good for; the frame as an argument; one outcome as a list.
-/
namespace Go.Proofs.YtpmidoneoonlcaaGreat
open Go.RowKit

theorem cellsFr : Tryz.prog.cellsOf 81 = 4 := by kernel_rfl
theorem lst4 {α : Type} {l : List α} (h : l.length = 4) : ∃ a b c d, l = [a, b, c, d] := by
  match l, h with
  | [a, b, c, d], _ => exact ⟨a, b, c, d, rfl⟩

theorem frame_rd {w : World} {cs : List Value} (h : Rd Tryz.prog w 81 cs) : ∃ (ba : Option Addr) (bc : Nat) (b : List UInt8) (f1 f2 fl : Int), cs = [.slice ba b.length bc, .int .i64 f1, .int .i64 f2, .int .i64 fl] ∧ Bs w (.slice ba b.length bc) b := by
  obtain ⟨hl, hf⟩ := h.struct Tryz.underlying81
  rw [cellsFr] at hl
  obtain ⟨c0, c1, c2, c3, rfl⟩ := lst4 hl
  have f0 := hf _ (List.mem_cons_self ..)
  have f1 := hf _ (List.mem_cons_of_mem _ (List.mem_cons_self ..))
  have f2 := hf _ (List.mem_cons_of_mem _ (List.mem_cons_of_mem _ (List.mem_cons_self ..)))
  have f3 := hf _ (List.mem_cons_of_mem _ (List.mem_cons_of_mem _ (List.mem_cons_of_mem _ (List.mem_cons_self ..))))
  simp only [cellsInt, cellsBytes, List.drop_zero, List.drop_succ_cons, List.take_succ_cons, List.take_zero] at f0 f1 f2 f3
  obtain ⟨b, hb⟩ := Bs.of_rd Tryz.underlying45 Tryz.underlying5 cellsU8 f0
  obtain ⟨n1, e1, _⟩ := Rd.int Tryz.underlying3 f1
  obtain ⟨n2, e2, _⟩ := Rd.int Tryz.underlying3 f2
  obtain ⟨n3, e3, _⟩ := Rd.int Tryz.underlying3 f3
  simp only [List.cons.injEq, and_true] at e1 e2 e3
  subst e1; subst e2; subst e3
  obtain ⟨ba, bc, rfl, _⟩ := id hb
  exact ⟨ba, bc, b, n1, n2, n3, rfl, hb⟩

/-- An outcome that can be put down after Strip, and is not too great for it. -/
def Oc.good (o : Oc) : Prop := o.strip.ok = true ∧ o.reply.data.length ≤ 1000 ∧ o.reply.objs.length ≤ 1000 ∧ ∀ (i : Nat) (x : Ob), o.reply.objs[i]? = some x → x.val.length ≤ 1000

theorem rp_ok_sizes {r : Rp} (h : r.ok = true) : r.data.length ≤ 1000 ∧ r.objs.length ≤ 1000 ∧ ∀ (i : Nat) (x : Ob), r.objs[i]? = some x → x.val.length ≤ 1000 := by
  obtain ⟨fn, exc, data, code, level, more, next, objs⟩ := r
  have hs : ∀ {r : Rp}, r.short = true → r.data.length ≤ 1000 ∧ r.objs.length ≤ 1000 ∧ ∀ (i : Nat) (x : Ob), r.objs[i]? = some x → x.val.length ≤ 1000 := by
    intro r hr
    simp only [Rp.short, Rp.plain, Bool.and_eq_true, List.isEmpty_iff] at hr
    rw [hr.1, hr.2.2]
    exact ⟨by simp, by simp, fun i x hx => by simp at hx⟩
  have hp : ∀ {r : Rp}, r.plain = true → r.data.length ≤ 1000 → r.data.length ≤ 1000 ∧ r.objs.length ≤ 1000 ∧ ∀ (i : Nat) (x : Ob), r.objs[i]? = some x → x.val.length ≤ 1000 := by
    intro r hr hd
    simp only [Rp.plain, Bool.and_eq_true, List.isEmpty_iff] at hr
    rw [hr.2]
    exact ⟨hd, by simp, fun i x hx => by simp at hx⟩
  unfold Rp.ok at h
  rw [Bool.and_eq_true] at h
  obtain ⟨_, h⟩ := h
  split at h
  · split at h
    · simp only [Rp.devB, Bool.and_eq_true, List.isEmpty_iff] at h
      obtain ⟨h1, h2, h3⟩ := objsB_bd h.1.2
      have hd : data = [] := h.1.1.1.1.1.1.1
      exact ⟨by rw [hd]; simp, by show objs.length ≤ 1000; omega, fun i x hx => by have := (h3 i x hx).2.2; omega⟩
    · split at h
      · simp only [Bool.and_eq_true, decide_eq_true_eq] at h
        exact hp (r := ⟨fn, exc, data, code, level, more, next, objs⟩) h.2 (by have := h.1.2; show data.length ≤ 1000; omega)
      · simp only [Bool.and_eq_true, decide_eq_true_eq] at h
        exact hp (r := ⟨fn, exc, data, code, level, more, next, objs⟩) h.2 (by have := h.1.2; show data.length ≤ 1000; omega)
  · simp only [Bool.and_eq_true] at h
    exact hs (r := ⟨fn, exc, data, code, level, more, next, objs⟩) h.2

theorem short_zero : Rp.zero.short = true := rfl

theorem good_bare {v : Int} (h : v = 4 ∨ v = 5) : Oc.good ⟨v, Rp.zero⟩ := by
  refine ⟨?_, by show ([] : List UInt8).length ≤ _; simp, by show ([] : List Ob).length ≤ _; simp, fun i x hx => by cases hx⟩
  rcases h with rfl | rfl <;> rfl

theorem good_clean {r : Rp} (h : r.ok = true) (hx : r.exc = 0) : Oc.good ⟨1, r⟩ := by
  obtain ⟨h1, h2, h3⟩ := rp_ok_sizes h
  refine ⟨?_, h1, h2, h3⟩
  unfold Oc.strip
  rw [if_pos (.inl rfl)]
  by_cases ht : tblB r.fn = true
  · rw [if_pos (.inr ht)]
    simp [Oc.ok, hx, ht, Rp.short, Rp.plain]
  · have ht' : tblB r.fn = false := by simpa using ht
    rw [if_neg (fun h => h.elim (fun h => by cases h) ht)]
    simp [Oc.ok, hx, ht', h]

theorem good_exc {r : Rp} (h : r.ok = true) (hx : ¬ r.exc = 0) : Oc.good ⟨2, r⟩ := by
  obtain ⟨h1, h2, h3⟩ := rp_ok_sizes h
  refine ⟨?_, h1, h2, h3⟩
  unfold Oc.strip
  rw [if_pos (.inr rfl), if_pos (.inl rfl)]
  have hk : knownB r.fn = true ∧ 1 ≤ r.exc ∧ r.exc ≤ 255 := by
    unfold Rp.ok at h
    rw [Bool.and_eq_true, if_neg hx] at h
    simp only [Bool.and_eq_true, decide_eq_true_eq] at h
    exact ⟨h.1, h.2.1⟩
  simp [Oc.ok, hx, Rp.ok, hk, Rp.short, Rp.plain]

theorem good_judge (chk : List UInt8 → Bool) (u : Int) (q : Rq) (fl : Int) (b : List UInt8) : Oc.good (judgeB chk u q fl b) := by
  unfold judgeB
  split
  · split
    · rename_i p _ _
      cases hR : readB q p with
      | none => exact good_bare (.inl rfl)
      | some r =>
        have hk := readB_ok hR
        show Oc.good (if r.exc = 6 then ⟨5, Rp.zero⟩ else if r.exc = 0 then ⟨1, r⟩ else ⟨2, r⟩)
        by_cases h6 : r.exc = 6
        · rw [if_pos h6]; exact good_bare (.inr rfl)
        · by_cases h0 : r.exc = 0
          · rw [if_neg h6, if_pos h0]
            exact good_clean hk h0
          · rw [if_neg h6, if_neg h0]
            exact good_exc hk h0
    · exact good_bare (.inl rfl)
  · exact good_bare (.inl rfl)

theorem good_over {q : Rq} {r : Rp} (h : matchB q r = true) : Oc.good (if r.exc = 0 then ⟨1, r⟩ else ⟨2, r⟩) := by
  have hk : r.ok = true := by
    unfold matchB at h
    simp only [Bool.and_eq_true] at h
    exact h.1.1.2
  by_cases h0 : r.exc = 0
  · rw [if_pos h0]; exact good_clean hk h0
  · rw [if_neg h0]; exact good_exc hk h0

theorem strip_level {o : Oc} (h1 : o.reply.level ≤ 9223372036854775807) (h2 : -9223372036854775808 ≤ o.reply.level) : o.strip.reply.level ≤ 9223372036854775807 ∧ -9223372036854775808 ≤ o.strip.reply.level := by
  unfold Oc.strip
  split
  · split
    · exact ⟨by show (0 : Int) ≤ _; decide, by show _ ≤ (0 : Int); decide⟩
    · exact ⟨h1, h2⟩
  · exact ⟨by show (0 : Int) ≤ _; decide, by show _ ≤ (0 : Int); decide⟩

/-- A new block of one outcome is a list of one. -/
theorem Ocs.one {w : World} {p : Nat} {t : TypeId} {fz : Nat × Nat} {x : Oc} {da : Option Addr} {dc : Nat} {oa : Option Addr} {oc : Nat} (h : w.heap[p]? = some (.cells #[.int .i64 x.verdict, .int .i64 x.reply.fn, .int .i64 x.reply.exc, .slice da x.reply.data.length dc, .int .i64 x.reply.code, .int .i64 x.reply.level, .bool x.reply.more, .int .i64 x.reply.next, .slice oa x.reply.objs.length oc] t fz)) (hi : RpIs w x.reply da dc oa oc) :
    Ocs w (.slice (some ⟨p, 0, none⟩) 1 1) [x] := by
  refine ⟨some ⟨p, 0, none⟩, 1, rfl, Nat.le_refl _, by unfold maxLen; exact Nat.le_of_ble_eq_true rfl, (fun h => by cases h), fun _ => ⟨p, 0, rfl, fun i y hy => ?_⟩⟩
  have hi0 : i = 0 := by
    have := (List.getElem?_eq_some_iff.1 hy).1
    simpa using this
  subst hi0
  have hyx : x = y := by simpa using hy
  subst hyx
  refine ⟨_, rfl, ⟨da, dc, oa, oc, rfl, hi.d, hi.o, hi.hi, hi.lo⟩, fun j u hj => ?_⟩
  rw [hpCell h]
  rw [← hj]
  simp

end Go.Proofs.YtpmidoneoonlcaaGreat
