/-
  The contract of request.Encode at valid requests.
-/
import Derived.Test.YtoaajdbjlaffgaaPq
import Derived.Test.YtoaajdbjlaffgaaMbase
import Derived.Test.YtoaajdbjlaffgaaMplain
namespace Go.Proofs.Ytoaajdbjlaffgaa
open Go.RowKit

/-- The PDU of a valid request. -/
def Rq.pdu (q : Rq) : List UInt8 :=
  if q.fn = 17 then [17] else if q.fn = 43 then [43, 14, byteI q.code, byteI q.obj] else [byteI q.fn, byteI (q.addr / 256), byteI (q.addr % 256), byteI (q.qty / 256), byteI (q.qty % 256)]

theorem Rq.pdu_len (q : Rq) : 1 ≤ q.pdu.length ∧ q.pdu.length ≤ 5 := by
  unfold Rq.pdu
  split
  · simp
  · split <;> simp

theorem Bs.newLit (w : World) (l : List UInt8) (A : Array Value) (T : TypeId) (h : A = (u8s l).toArray) (hl : l.length ≤ 1000) : Bs (w.alloc (.cells A T)) (.slice (some ⟨w.heap.size, 0, none⟩) l.length l.length) l := by
  refine Bs.mk (Nat.le_refl _) (by unfold maxLen; omega) (fun i hi => ?_)
  rw [hpCell (hpNew w _), h]
  simp only [Nat.zero_add, List.getElem?_toArray]
  exact u8s_get l i hi

/-- What a call that answers new bytes leaves. -/
def NewBs (w : World) (l : List UInt8) (r : Ending) (w' : World) : Prop :=
  ∃ (a : Option Addr) (c : Nat), r = .returned (.tuple #[.slice a l.length c, .int .i64 0]) ∧ (∀ W, Agree w.heap.size w' W → Bs W (.slice a l.length c) l) ∧ Below w.heap.size w w'

theorem NewBs.lit {w wx : World} {l : List UInt8} {A : Array Value} {T : TypeId} (hb : Below w.heap.size w wx) (h : A = (u8s l).toArray) (hl : l.length ≤ 1000) {n : Nat} (hn : n = l.length) :
    NewBs w l (.returned (.tuple #[.slice (some ⟨wx.heap.size, 0, none⟩) n n, .int .i64 0])) (wx.alloc (.cells A T)) := by
  subst hn
  exact ⟨_, _, rfl, fun W hW => (Bs.newLit wx l A T h hl).agree (fun ad had => by cases had; exact hb.size) hW, bta hb (Nat.le_refl _) _⟩

set_option maxRecDepth 100000 in
set_option maxHeartbeats 3200000 in
theorem reqenc_ok (f a q c o : Int) (hq : Rq.ok ⟨f, a, q, c, o⟩ = true) (w : World) :
    Calls Try.prog 44 #[.agg #[.int .i64 f, .int .i64 a, .int .i64 q, .int .i64 c, .int .i64 o]] w (NewBs w (Rq.pdu ⟨f, a, q, c, o⟩)) := by
  have HQ : Hid (∀ W, Calls Try.prog 43 #[.agg #[.int .i64 f, .int .i64 a, .int .i64 q, .int .i64 c, .int .i64 o]] W fun r w' => r = .returned (.bool true) ∧ Below W.heap.size W w') := fun W => by rw [← hq]; exact pqvalid_any f a q c o W
  have hk : f = 17 ∨ f = 43 ∨ (1 ≤ f ∧ f ≤ 4) := by
    unfold Rq.ok at hq
    simp only at hq
    repeat' split at hq
    all_goals first | omega | cases hq
  rcases hk with rfl | rfl | hk
  · go_enter Try.func44, Try.ntmps44
    go_wp2_with (go_at_call 43; (with_reducible refine (HQ.out _).mono ?_); rintro r w1 ⟨rfl, hb1⟩; have y0 := hpCell (hpKeep (hpNew w _) hb1) 0)
    go_ret2
    exact NewBs.lit (l := [17]) (bt (bal' w _) hb1 (Nat.le_refl _)) rfl (by decide) rfl
  · have hco : 1 ≤ c ∧ c ≤ 3 ∧ 0 ≤ o ∧ o ≤ 255 := by
      unfold Rq.ok at hq
      simp at hq
      omega
    obtain ⟨hc1, hc2, ho1, ho2⟩ := hco
    have HL : Hid (Rq.pdu ⟨43, a, q, c, o⟩ = [43, 14, byteI c, byteI o]) := rfl
    have HV : Hid ((#[.int .u8 43, .int .u8 14, .int .u8 c, .int .u8 o] : Array Value) = (u8s [43, 14, byteI c, byteI o]).toArray) := by
      show _ = _
      simp only [u8s, byteV, List.map_cons, List.map_nil]
      rw [byteI_val (by omega) (by omega), byteI_val ho1 ho2]
      rfl
    clear hq
    go_enter Try.func44, Try.ntmps44
    go_wp2_with (go_at_call 43; (with_reducible refine (HQ.out _).mono ?_); rintro r w1 ⟨rfl, hb1⟩; have y0 := hpCell (hpKeep (hpNew w _) hb1) 0; have y3 := hpCell (hpKeep (hpNew w _) hb1) 3; have y4 := hpCell (hpKeep (hpNew w _) hb1) 4)
    go_ret2
    rw [HL.out]
    exact NewBs.lit (bt (bal' w _) hb1 (Nat.le_refl _)) HV.out (by simp) rfl
  · have hco : 0 ≤ a ∧ a ≤ 65535 ∧ 1 ≤ q ∧ q ≤ 2000 := by
      unfold Rq.ok at hq
      simp only at hq
      rw [if_pos hk] at hq
      simp at hq
      have := (limI_bd f).2
      omega
    obtain ⟨ha1, ha2, hq1, hq2⟩ := hco
    have hf1 : ¬ f = 17 := by omega
    have hf2 : ¬ f = 43 := by omega
    have HL : Hid (Rq.pdu ⟨f, a, q, c, o⟩ = [byteI f, byteI (a / 256), byteI (a % 256), byteI (q / 256), byteI (q % 256)]) := by
      show _ = _
      unfold Rq.pdu
      rw [if_neg hf1, if_neg hf2]
    have HV : Hid ((#[.int .u8 f, .int .u8 (a / 256), .int .u8 (a % 256), .int .u8 (q / 256), .int .u8 (q % 256)] : Array Value) = (u8s [byteI f, byteI (a / 256), byteI (a % 256), byteI (q / 256), byteI (q % 256)]).toArray) := by
      show _ = _
      simp only [u8s, byteV, List.map_cons, List.map_nil]
      rw [byteI_val (by omega) (by omega), byteI_val (by omega) (by omega), byteI_val (by omega) (by omega), byteI_val (by omega) (by omega), byteI_val (by omega) (by omega)]
    have k5 : (f == 17) = false := by rw [beq_eq_false_iff_ne]; omega
    have k6 : (f == 43) = false := by rw [beq_eq_false_iff_ne]; omega
    obtain ⟨hk1, hk2⟩ := hk
    clear hq hf1 hf2
    go_enter Try.func44, Try.ntmps44
    go_wp2_with (go_at_call 43; (with_reducible refine (HQ.out _).mono ?_); rintro r w1 ⟨rfl, hb1⟩; have y0 := hpCell (hpKeep (hpNew w _) hb1) 0; have y1 := hpCell (hpKeep (hpNew w _) hb1) 1; have y2 := hpCell (hpKeep (hpNew w _) hb1) 2)
    go_ret2
    rw [HL.out]
    refine NewBs.lit (bt (bal' w _) hb1 (Nat.le_refl _)) ?_ (by simp) rfl
    rw [← HV.out]

end Go.Proofs.Ytoaajdbjlaffgaa
