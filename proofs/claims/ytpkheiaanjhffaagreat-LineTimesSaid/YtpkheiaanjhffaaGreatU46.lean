/-
  Texts 46 of the claim.
-/
import Derived.Test.YtpkheiaanjhffaaGreatU45
import Derived.Test.YtpkheiaanjhffaaGreatU15
import Derived.Test.YtpkheiaanjhffaaGreatU19
namespace Go.Proofs.YtpkheiaanjhffaaGreat
open Go.RowKit
set_option maxRecDepth 100000 in
set_option maxHeartbeats 3200000 in
theorem lreqenc_ok (f a q c o : Int) (hq : Rq.ok ⟨f, a, q, c, o⟩ = true) (w : World) :
    Calls Tryz.prog 40 #[.agg #[.int .i64 f, .int .i64 a, .int .i64 q, .int .i64 c, .int .i64 o]] w (NewBs w (Rq.pdu ⟨f, a, q, c, o⟩)) := by
  have HQ : Hid (∀ W, Calls Tryz.prog 46 #[.agg #[.int .i64 f, .int .i64 a, .int .i64 q, .int .i64 c, .int .i64 o]] W fun r w' => r = .returned (.bool true) ∧ Below W.heap.size W w') := fun W => by rw [← hq]; exact rqvalid_any f a q c o W
  have hk : f = 17 ∨ f = 43 ∨ (1 ≤ f ∧ f ≤ 4) := by
    unfold Rq.ok at hq
    simp only at hq
    repeat' split at hq
    all_goals first | omega | cases hq
  rcases hk with rfl | rfl | hk
  · go_enter Tryz.func40, Tryz.ntmps40
    go_wp2_with (go_at_call 46; (with_reducible refine (HQ.out _).mono ?_); rintro r w1 ⟨rfl, hb1⟩; have y0 := hpCell (hpKeep (hpNew w _) hb1) 0)
    go_ret2
    exact NewBs.lit (l := [17]) (bt (bal' w _) hb1 (Nat.le_refl _)) rfl (by decide) rfl
  · have hco : 1 ≤ c ∧ c ≤ 3 ∧ 0 ≤ o ∧ o ≤ 255 := by
      unfold Rq.ok at hq
      simp at hq
      omega
    obtain ⟨hc1, hc2, ho1, ho2⟩ := hco
    have HL : Hid (Rq.pdu ⟨43, a, q, c, o⟩ = [43, 14, byteI c, byteI o]) := rfl
    have HV : Hid ((#[.int .u8 43, .int .u8 14, .int .u8 c, .int .u8 o] : Array Value) = (u8s [43, 14, byteI c, byteI o]).toArray) := by
      show _ = _
      simp only [u8s, byteV, List.map_cons, List.map_nil]
      rw [byteI_val (by omega) (by omega), byteI_val ho1 ho2]
      rfl
    clear hq
    go_enter Tryz.func40, Tryz.ntmps40
    go_wp2_with (go_at_call 46; (with_reducible refine (HQ.out _).mono ?_); rintro r w1 ⟨rfl, hb1⟩; have y0 := hpCell (hpKeep (hpNew w _) hb1) 0; have y3 := hpCell (hpKeep (hpNew w _) hb1) 3; have y4 := hpCell (hpKeep (hpNew w _) hb1) 4)
    go_ret2
    rw [HL.out]
    exact NewBs.lit (bt (bal' w _) hb1 (Nat.le_refl _)) HV.out (by simp) rfl
  · have hco : 0 ≤ a ∧ a ≤ 65535 ∧ 1 ≤ q ∧ q ≤ 2000 := by
      unfold Rq.ok at hq
      simp only at hq
      rw [if_pos hk] at hq
      simp at hq
      have := (limI_bd f).2
      omega
    obtain ⟨ha1, ha2, hq1, hq2⟩ := hco
    have hf1 : ¬ f = 17 := by omega
    have hf2 : ¬ f = 43 := by omega
    have HL : Hid (Rq.pdu ⟨f, a, q, c, o⟩ = [byteI f, byteI (a / 256), byteI (a % 256), byteI (q / 256), byteI (q % 256)]) := by
      show _ = _
      unfold Rq.pdu
      rw [if_neg hf1, if_neg hf2]
    have HV : Hid ((#[.int .u8 f, .int .u8 (a / 256), .int .u8 (a % 256), .int .u8 (q / 256), .int .u8 (q % 256)] : Array Value) = (u8s [byteI f, byteI (a / 256), byteI (a % 256), byteI (q / 256), byteI (q % 256)]).toArray) := by
      show _ = _
      simp only [u8s, byteV, List.map_cons, List.map_nil]
      rw [byteI_val (by omega) (by omega), byteI_val (by omega) (by omega), byteI_val (by omega) (by omega), byteI_val (by omega) (by omega), byteI_val (by omega) (by omega)]
    have k5 : (f == 17) = false := by rw [beq_eq_false_iff_ne]; omega
    have k6 : (f == 43) = false := by rw [beq_eq_false_iff_ne]; omega
    obtain ⟨hk1, hk2⟩ := hk
    clear hq hf1 hf2
    go_enter Tryz.func40, Tryz.ntmps40
    go_wp2_with (go_at_call 46; (with_reducible refine (HQ.out _).mono ?_); rintro r w1 ⟨rfl, hb1⟩; have y0 := hpCell (hpKeep (hpNew w _) hb1) 0; have y1 := hpCell (hpKeep (hpNew w _) hb1) 1; have y2 := hpCell (hpKeep (hpNew w _) hb1) 2)
    go_ret2
    rw [HL.out]
    refine NewBs.lit (bt (bal' w _) hb1 (Nat.le_refl _)) ?_ (by simp) rfl
    rw [← HV.out]
def rqFrame (u : Int) (q : Rq) : List UInt8 := aduF (UInt8.ofNat u.toNat) q.pdu
theorem rqFrame_len (u : Int) (q : Rq) : 4 ≤ (rqFrame u q).length ∧ (rqFrame u q).length ≤ 256 := by
  have := Rq.pdu_len q
  unfold rqFrame
  rw [aduF_length]
  omega
theorem split_frame {u : Int} {p : List UInt8} (h1 : 1 ≤ u) (h2 : u ≤ 247) (hl : 1 ≤ p.length) (hl2 : p.length ≤ 253) : splitB crcChk (aduF (UInt8.ofNat u.toNat) p) = some (u, p) := by
  have hal := aduF_length (UInt8.ofNat u.toNat) p
  have hu : ((UInt8.ofNat u.toNat).toNat : Int) = u := by
    rw [UInt8.toNat_ofNat']
    omega
  unfold splitB
  have hd : (aduF (UInt8.ofNat u.toNat) p).getD 0 0 = UInt8.ofNat u.toNat := rfl
  rw [hd, hu, if_pos ⟨by omega, by omega, chk_tail _, h1, h2⟩]
  have : ((aduF (UInt8.ofNat u.toNat) p).take ((aduF (UInt8.ofNat u.toNat) p).length - 2)).drop 1 = p := by
    rw [hal]
    simp [aduF, crcTail]
  rw [this]
theorem busDec_frame (l : List Sl) (bd pa : Int) {u : Int} (h1 : 1 ≤ u) (h2 : u ≤ 247) {q : Rq} (hq : q.ok = true) : busDec l bd pa (rqFrame u q) = if memb l bd pa u l.length = [] then none else some (u, q, memb l bd pa u l.length) := by
  have hp := Rq.pdu_len q
  exact busDec_mb (split_frame h1 h2 (by omega) (by omega)) (rqDec_pdu hq)
set_option maxRecDepth 100000 in
set_option maxHeartbeats 1600000 in
theorem lframe_any (u : Int) (h1 : 1 ≤ u) (h2 : u ≤ 247) (q : Rq) (hq : q.ok = true) (w : World) : Calls Tryz.prog 14 #[.int .i64 u, .agg #[.int .i64 q.fn, .int .i64 q.addr, .int .i64 q.qty, .int .i64 q.code, .int .i64 q.obj]] w (FrPost w (rqFrame u q)) := by
  obtain ⟨pl1, pl2⟩ := Rq.pdu_len q
  have hal := aduF_length (UInt8.ofNat u.toNat) q.pdu
  obtain ⟨F, hF⟩ : ∃ F, rqFrame u q = F := ⟨_, rfl⟩
  have hF2 : aduF (UInt8.ofNat u.toNat) q.pdu = F := hF
  have hu : ((UInt8.ofNat u.toNat).toNat : Int) = u := by
    rw [UInt8.toNat_ofNat']
    omega
  have HE : Hid (∀ X, Calls Tryz.prog 40 #[.agg #[.int .i64 q.fn, .int .i64 q.addr, .int .i64 q.qty, .int .i64 q.code, .int .i64 q.obj]] X (NewBs X q.pdu)) := fun X => lreqenc_ok q.fn q.addr q.qty q.code q.obj hq X
  obtain ⟨pn, hpn⟩ : ∃ n, q.pdu.length = n := ⟨_, rfl⟩
  obtain ⟨fn, hfn⟩ : ∃ n, F.length = n := ⟨_, rfl⟩
  have HB : Hid (∀ X a c, Bs X (.slice a pn c) q.pdu → Calls Tryz.prog 41 #[.int .i64 u, .slice a pn c] X fun r w' => ∃ a c, r = .returned (.tuple #[.slice a fn c, .int .i64 0]) ∧ w'.ownsRow X.heap.size 5 1 (.slice a fn c) fn (u8s F) ∧ Below X.heap.size X w') := fun X a c hb => by
    have e := rbuild_ok (UInt8.ofNat u.toNat) (by omega) (by omega) (.slice a pn c) q.pdu (by omega) (by omega) X hb
    rw [hu] at e
    refine e.mono ?_
    rintro r w' ⟨v', rfl, hown, hb⟩
    obtain ⟨a2, c2, rfl⟩ := own_slice hown
    rw [hF2] at hal hown
    rw [← hal, hfn] at hown ⊢
    exact ⟨a2, c2, rfl, hown, hb⟩
  have HPN := hid hpn
  have HFN := hid hfn
  rw [hF]
  obtain ⟨W1, hW1⟩ : ∃ W, w.alloc (.cells #[.int .i64 q.fn, .int .i64 q.addr, .int .i64 q.qty, .int .i64 q.code, .int .i64 q.obj] 41) = W := ⟨_, rfl⟩
  have hb1 : Below w.heap.size w W1 := by rw [← hW1]; exact bal' w _
  have pQ : W1.heap[w.heap.size]? = some (.cells #[.int .i64 q.fn, .int .i64 q.addr, .int .i64 q.qty, .int .i64 q.code, .int .i64 q.obj] 41) := by rw [← hW1]; exact hpNew w _
  have y0 := hpCell pQ 0
  have y1 := hpCell pQ 1
  have y2 := hpCell pQ 2
  have y3 := hpCell pQ 3
  have y4 := hpCell pQ 4
  have HW1 := hid hW1
  have HB1 := hid hb1
  clear h1 h2 hq hF hF2 hu hal pl1 pl2 hpn hfn hW1 hb1 pQ
  go_enter Tryz.func14, Tryz.ntmps14
  go_upto_region 1 with (fail)
  rw [HW1.out]
  go_wp2_with (first
    | (go_at_call 40; (with_reducible refine (HE.out _).mono ?_); rintro r w2 ⟨ea, ec, rfl, hbs2, hb2⟩; rw [HPN.out] at hbs2 ⊢; have hbs2' := hbs2 _ (Agree.refl _ _))
    | (go_at_call 41; (with_reducible refine (HB.out _ _ _ hbs2').mono ?_); rintro r w3 ⟨fa, fc, rfl, hown, hb3⟩))
  go_ret
  have hB2 := bt HB1.out hb2 (Nat.le_refl _)
  refine ⟨fa, fc, (by rw [HFN.out] <;> rfl), by rw [HFN.out]; exact own_lower hown hB2.size, bt hB2 hb3 (Nat.le_refl _)⟩
def smpS (bd : Int) : Sl := ⟨bd, 0, 7, fun k => if k = 2 then ⟨true, [(10, 10)], 5⟩ else ⟨false, [], 0⟩, 0, [], true, [9, 255]⟩
def SmpC (bd : Int) (p q : Nat) : Array Value := #[.int .i64 bd, .int .i64 0, .int .i64 7, .bool false, .slice none 0 0, .int .i64 0, .bool false, .slice none 0 0, .int .i64 0, .bool true, .slice (some ⟨q, 0, none⟩) 1 1, .int .i64 5, .bool false, .slice none 0 0, .int .i64 0, .int .i64 0, .slice none 0 0, .bool true, .slice (some ⟨p, 0, none⟩) 2 2]
theorem infoTbW : (Tryz.prog.info? 33).map (·.size) = some 3 := by kernel_rfl
structure SmpR (w W : World) (p q : Nat) : Prop where
  P : W.heap[p]? = some (.cells #[.int .u8 9, .int .u8 255] 5)
  Q : W.heap[q]? = some (.cells #[.int .i64 10, .int .i64 10] 130)
  b : Below w.heap.size w W
  lp : w.heap.size ≤ p
  lq : w.heap.size ≤ q
theorem SmpR.slr {w W X : World} {p q : Nat} (h : SmpR w W p q) (hX : Agree w.heap.size W X) (bd : Int) (hbd : wfI bd) : SlR X (smpS bd) (fun k => if k = 2 then .slice (some ⟨q, 0, none⟩) 1 1 else .slice none 0 0) (.slice none 0 0) (.slice (some ⟨p, 0, none⟩) 2 2) := by
  have hp : X.heap[p]? = some (.cells #[.int .u8 9, .int .u8 255] 5) := by rw [hX.block p h.lp (hpLt h.P)]; exact h.P
  have hq : X.heap[q]? = some (.cells #[.int .i64 10, .int .i64 10] 130) := by rw [hX.block q h.lq (hpLt h.Q)]; exact h.Q
  have w0 : wfI 0 := by unfold wfI; omega
  have w5 : wfI 5 := by unfold wfI; omega
  have w7 : wfI 7 := by unfold wfI; omega
  have w10 : wfI 10 := by unfold wfI; omega
  refine ⟨fun k hk => ?_, Obs.nil X, ?_, fun k hk => ?_, w7, w0, hbd, w0⟩
  · by_cases e : k = 2
    · subst e
      refine ⟨some ⟨q, 0, none⟩, 1, rfl, Nat.le_refl 1, (by unfold maxLen; decide), (fun e => by cases e), fun _ => ⟨q, 0, rfl, fun i x hx => ?_⟩⟩
      have hi : i = 0 := by
        have h1 := (List.getElem?_eq_some_iff.1 hx).1
        have h2 : i < 1 := h1
        omega
      subst hi
      have hx' : x = (10, 10) := by
        have h3 : some ((10, 10) : Int × Int) = some x := hx
        injection h3 with h3
        exact h3.symm
      subst hx'
      refine ⟨[.int .i64 10, .int .i64 10], rfl, ⟨rfl, w10, w10⟩, fun j u hj => ?_⟩
      rw [hpCell hq]
      rcases j with _ | _ | j
      · exact hj
      · exact hj
      · cases hj
    · have e1 : ((smpS bd).ts k).rd = [] := by unfold smpS; dsimp only; rw [if_neg e]
      rw [e1]
      rw [if_neg e]
      exact Sls.nil X
  · refine Bs.mk (b := p) (o := 0) (c := 2) (l := [9, 255]) (Nat.le_refl 2) (by unfold maxLen; decide) (fun i hi => ?_)
    rw [hpCell hp]
    have h2 : i < 2 := hi
    rcases (show i = 0 ∨ i = 1 by omega) with rfl | rfl <;> rfl
  · show wfI (if k = 2 then (⟨true, [(10, 10)], 5⟩ : Tbl) else ⟨false, [], 0⟩).most
    split
    · exact w5
    · exact w0
theorem SmpC_slc (bd : Int) (p q : Nat) : SmpC bd p q = SlC (smpS bd) (fun k => if k = 2 then .slice (some ⟨q, 0, none⟩) 1 1 else .slice none 0 0) (.slice none 0 0) (.slice (some ⟨p, 0, none⟩) 2 2) := rfl
def SmpPost (w : World) (r : Ending) (w' : World) : Prop := ∃ p q, r = .returned (.agg (SmpC 9600 p q)) ∧ SmpR w w' p q
set_option maxRecDepth 100000 in
set_option maxHeartbeats 6400000 in
theorem smp_any (w : World) : Calls Tryz.prog 38 #[] w (SmpPost w) := by
  obtain ⟨W1, hW1⟩ : ∃ W, w.alloc (.cells #[.int .i64 0, .int .i64 0, .int .i64 0, .bool false, .slice none 0 0, .int .i64 0, .bool false, .slice none 0 0, .int .i64 0, .bool false, .slice none 0 0, .int .i64 0, .bool false, .slice none 0 0, .int .i64 0, .int .i64 0, .slice none 0 0, .bool false, .slice none 0 0] 38) = W := ⟨_, rfl⟩
  have hb1 : Below w.heap.size w W1 := by rw [← hW1]; exact bal' w _
  have hz1 : W1.heap.size = w.heap.size + 1 := by rw [← hW1]; simp
  have pZ : W1.heap[w.heap.size]? = some (.cells #[.int .i64 0, .int .i64 0, .int .i64 0, .bool false, .slice none 0 0, .int .i64 0, .bool false, .slice none 0 0, .int .i64 0, .bool false, .slice none 0 0, .int .i64 0, .bool false, .slice none 0 0, .int .i64 0, .int .i64 0, .slice none 0 0, .bool false, .slice none 0 0] 38) := by rw [← hW1]; exact hpNew w _
  have HW1 := hid hW1
  have HB1 := hid hb1
  have HZ1 := hid hz1
  have HPZ := hid pZ
  clear hW1 hb1 hz1 pZ
  go_enter Tryz.func38, Tryz.ntmps38
  go_upto_region 1 with (fail)
  rw [HW1.out]
  go_upto_region 2 with (refine wpList_storeW rfl 38 (.tmp 1) (.tmp 4) rfl (W1.heap.size + 1) 0 _ 38 #[.int .i64 9600, .int .i64 0, .int .i64 7, .bool false, .slice none 0 0, .int .i64 0, .bool false, .slice none 0 0, .int .i64 0, .bool false, .slice none 0 0, .int .i64 0, .bool false, .slice none 0 0, .int .i64 0, .int .i64 0, .slice none 0 0, .bool true, .slice (some ⟨W1.heap.size, 0, none⟩) 2 2] rfl rfl (by have h := hpNew (W1.alloc (.cells #[.int .u8 9, .int .u8 255] 5)) (.cells #[.int .i64 0, .int .i64 0, .int .i64 0, .bool false, .slice none 0 0, .int .i64 0, .bool false, .slice none 0 0, .int .i64 0, .bool false, .slice none 0 0, .int .i64 0, .bool false, .slice none 0 0, .int .i64 0, .int .i64 0, .slice none 0 0, .bool false, .slice none 0 0] 38); simpa using h) (by simp) infoSL rfl ?_; intro w2 g2 hk2 hz2)
  dsimp only [Act.put]
  obtain ⟨p, hp⟩ : ∃ n, W1.heap.size = n := ⟨_, rfl⟩
  rw [hp] at g2 hk2 ⊢
  obtain ⟨sb, hsb⟩ : ∃ n, p + 1 = n := ⟨_, rfl⟩
  rw [hsb] at g2 hk2 ⊢
  have gS2 : w2.heap[sb]? = some (.cells #[.int .i64 9600, .int .i64 0, .int .i64 7, .bool false, .slice none 0 0, .int .i64 0, .bool false, .slice none 0 0, .int .i64 0, .bool false, .slice none 0 0, .int .i64 0, .bool false, .slice none 0 0, .int .i64 0, .int .i64 0, .slice none 0 0, .bool true, .slice (some ⟨p, 0, none⟩) 2 2] 38) := g2
  have hab : Below W1.heap.size W1 ((W1.alloc (.cells #[.int .u8 9, .int .u8 255] 5)).alloc (.cells #[.int .i64 0, .int .i64 0, .int .i64 0, .bool false, .slice none 0 0, .int .i64 0, .bool false, .slice none 0 0, .int .i64 0, .bool false, .slice none 0 0, .int .i64 0, .bool false, .slice none 0 0, .int .i64 0, .int .i64 0, .slice none 0 0, .bool false, .slice none 0 0] 38)) := bta (bal' W1 _) (Nat.le_refl _) _
  have gP2 : w2.heap[p]? = some (.cells #[.int .u8 9, .int .u8 255] 5) := hpKeeps (by rw [← hp]; exact hpKeep (hpNew W1 _) (bal' _ _)) hk2 (fun e => by have e' : p = sb := e; omega)
  have gR2 : w2.heap[w.heap.size]? = some (.cells #[.int .i64 0, .int .i64 0, .int .i64 0, .bool false, .slice none 0 0, .int .i64 0, .bool false, .slice none 0 0, .int .i64 0, .bool false, .slice none 0 0, .int .i64 0, .bool false, .slice none 0 0, .int .i64 0, .int .i64 0, .slice none 0 0, .bool false, .slice none 0 0] 38) := hpKeeps (hpKeep HPZ.out hab) hk2 (fun e => by have e' : w.heap.size = sb := e; have := HZ1.out; omega)
  have hb2 : Below w.heap.size w w2 := (bt HB1.out hab (Nat.le_refl _)).trans (hk2.below (by have := hab.size; have := HZ1.out; omega) (fun j hj e => by have := HZ1.out; omega))
  have HB2 := hid hb2
  have HPP : Hid (w.heap.size < p ∧ p < sb) := by have := HZ1.out; show _ ∧ _; omega
  have HP2 := hid gP2
  have HR2 := hid gR2
  have HS2 := hid gS2
  have hgS : (w2.alloc (.cells #[.int .i64 10, .int .i64 10] 130)).heap[sb]? = some (.cells #[.int .i64 9600, .int .i64 0, .int .i64 7, .bool false, .slice none 0 0, .int .i64 0, .bool false, .slice none 0 0, .int .i64 0, .bool false, .slice none 0 0, .int .i64 0, .bool false, .slice none 0 0, .int .i64 0, .int .i64 0, .slice none 0 0, .bool true, .slice (some ⟨p, 0, none⟩) 2 2] 38) := hpKeep gS2 (bal' _ _)
  clear g2 hk2 hz2 hp hsb gS2 hab gP2 gR2 hb2
  go_upto_region 3 with (refine wpList_storeW rfl 33 (.tmp 9) (.tmp 7) rfl sb 9 _ 38 #[.bool true, .slice (some ⟨w2.heap.size, 0, none⟩) 1 1, .int .i64 5] rfl rfl hgS (by simp) infoTbW rfl ?_; intro w3 g3 hk3 hz3)
  dsimp only [Act.put]
  obtain ⟨q, hq⟩ : ∃ n, w2.heap.size = n := ⟨_, rfl⟩
  rw [hq] at g3 ⊢
  have gS3 : w3.heap[sb]? = some (.cells (SmpC 9600 p q) 38) := g3
  have hql : w.heap.size ≤ q ∧ sb < q := by have := HB2.out.size; have := hpLt HS2.out; omega
  have gP3 : w3.heap[p]? = some (.cells #[.int .u8 9, .int .u8 255] 5) := hpKeeps (hpKeep HP2.out (bal' _ _)) hk3 (fun e => by have e' : p = sb := e; have := HPP.out; omega)
  have gQ3 : w3.heap[q]? = some (.cells #[.int .i64 10, .int .i64 10] 130) := hpKeeps (by rw [← hq]; exact hpNew w2 _) hk3 (fun e => by have e' : q = sb := e; omega)
  have gR3 : w3.heap[w.heap.size]? = some (.cells #[.int .i64 0, .int .i64 0, .int .i64 0, .bool false, .slice none 0 0, .int .i64 0, .bool false, .slice none 0 0, .int .i64 0, .bool false, .slice none 0 0, .int .i64 0, .bool false, .slice none 0 0, .int .i64 0, .int .i64 0, .slice none 0 0, .bool false, .slice none 0 0] 38) := hpKeeps (hpKeep HR2.out (bal' _ _)) hk3 (fun e => by have e' : w.heap.size = sb := e; have := HPP.out; omega)
  have hb3 : Below w.heap.size w w3 := (bta HB2.out (Nat.le_refl _) _).trans (hk3.below (by simp; have := HB2.out.size; omega) (fun j hj e => by have := HPP.out; omega))
  obtain ⟨C, hC⟩ : ∃ C, SmpC 9600 p q = C := ⟨_, rfl⟩
  rw [hC] at gS3
  have hcs : C.size = 19 := by rw [← hC]; rfl
  have hi : (Tryz.prog.info? 38).map (·.size) = some C.size := by rw [← hC]; exact infoSL
  have h1c : C.toList.all (·.oneCell') = true := by rw [← hC]; rfl
  have HB3 := hid hb3
  have HP3 := hid gP3
  have HQ3 := hid gQ3
  have HCC := hid hC
  have HQL := hid hql
  clear g3 hk3 hz3 hq hgS hC hb3 gP3 gQ3 hql
  go_wp2_with (first
    | (refine wpList_load_row rfl 38 (.tmp 1) rfl sb rfl 38 C (0, 0) _ gS3 Tryz.underlying38 rfl hi ?_)
    | (refine wpList_storeW rfl 38 (.tmp 0) (.tmp 10) rfl w.heap.size 0 _ 38 C rfl rfl gR3 (by simp [hcs]) hi h1c ?_; intro w8 g8 hk8 hz8))
  have g9 : w8.heap[w.heap.size]? = some (.cells C 38) := by
    rw [g8, List.drop_eq_nil_of_le (by simp [hcs])]
    simp
  refine bodyPost_ret (results_cell_row rfl _ _ w.heap.size 38 C (0, 0) _ rfl g9 Tryz.underlying38 rfl hi) rfl ?_
  obtain ⟨l1, l2⟩ := HPP.out
  obtain ⟨l3, l4⟩ := HQL.out
  refine ⟨p, q, by rw [HCC.out], ⟨hpKeeps HP3.out hk8 (fun e => by have e' : p = w.heap.size := e; omega), hpKeeps HQ3.out hk8 (fun e => by have e' : q = w.heap.size := e; omega), HB3.out.trans (hk8.below HB3.out.size (fun j hj e => by omega)), by omega, l3⟩⟩
theorem LnMade.at {w w' : World} {l : List Sl} {lp : Bool} {ats : List At} {r : Ending} (h : LnMade w l lp ats r w') (hB : BusP l) (ho : ∀ x ∈ ats, x.ok) (hl : lp = true → 0 < ats.length) :
    ∃ g a c a2 c2, r = .returned (.tuple #[.pointer (some ⟨g, 0, none⟩), .int .i64 0]) ∧ LnAt (fun j => j = g) w' g (.slice a l.length c) (.slice a2 ats.length c2) lp Ln.zero ∧ LnG (fun j => j = g) w' a l.length c a2 ats.length c2 l ats lp ∧ w.heap.size ≤ g ∧ Below w.heap.size w w' := by
  obtain ⟨g, a, c, a2, c2, h1, h2, h3, h4, h5⟩ := h
  refine ⟨g, a, c, a2, c2, h1, ⟨.slice none 0 0, .slice none 0 0, [], h3, rfl, fun j hj => ?_, World.ownsRow_nil _ _ _ _, fun j hj => (by cases hj), PnR.nil _ _, rfl⟩, ⟨h4, rfl, rfl, hB, ho, hl⟩, h2, h5⟩
  subst hj
  exact hpLt h3
def awT : At := ⟨100, 0, 0, 0, 0, 0⟩
def awQ : Rq := ⟨3, 12, 1, 0, 0⟩
def lwF : List UInt8 := rqFrame 7 awQ
def awN : Ln := Ln.zero.send [smpS 38400] [awT] false 38400 0 lwF 0
theorem aw_len : lwF.length = 8 := by kernel_rfl
theorem aw_head : awN.pend.head? = some ⟨4433, 7, 0, 287⟩ := by kernel_rfl
theorem aw_plen : awN.pend.length = 7 := by kernel_rfl
theorem aw_pend : ∃ r, awN.pend = ⟨4433, 7, 0, 287⟩ :: r ∧ r.length = 6 := by
  have h1 := aw_head
  have h2 := aw_plen
  cases e : awN.pend with
  | nil => rw [e] at h1; cases h1
  | cons x r =>
    rw [e] at h1 h2
    injection h1 with h1
    subst h1
    exact ⟨r, rfl, by simpa using h2⟩
theorem aw_set : Okset 38400 0 := ⟨by decide, by decide, by decide⟩
theorem smp_val : (smpS 38400).val := by
  have hn : ¬ (0 : Int) < (smpS 38400).lv := by decide
  refine ⟨aw_set, by decide, by decide, fun k hk => ?_, fun _ => rfl, by decide, by decide, fun e => absurd e hn, fun e => absurd e hn, fun e => absurd e hn, fun e => absurd e hn, fun e => absurd e hn⟩
  rcases (show k = 0 ∨ k = 1 ∨ k = 2 ∨ k = 3 by omega) with rfl | rfl | rfl | rfl
  · exact ⟨fun _ => ⟨rfl, rfl⟩, fun e => (by cases e)⟩
  · exact ⟨fun _ => ⟨rfl, rfl⟩, fun e => (by cases e)⟩
  · exact ⟨fun e => (by cases e), fun _ => ⟨by decide, by decide, by decide, by decide⟩⟩
  · exact ⟨fun _ => ⟨rfl, rfl⟩, fun e => (by cases e)⟩
theorem aw_bus : BusP [smpS 38400] := ⟨by decide, fun s hs => by
  have : s = smpS 38400 := by simpa using hs
  subst this
  exact smp_val⟩
theorem aw_tok : awT.ok := by
  unfold awT
  rw [At.ok_mk]
  omega
theorem aw_scr : Scr.ok ⟨[awT], false, []⟩ := by
  refine ⟨by decide, (by rintro ⟨e, _⟩; cases e), by decide, fun i x h => (by cases h), fun x hx => ?_⟩
  have : x = awT := by simpa using hx
  subst this
  exact aw_tok
theorem slvs_one {X : World} {b : Nat} {s : Sl} {rv : Nat → Value} {ov sv : Value} (hR : SlR X s rv ov sv) (h : X.heap[b]? = some (.cells (SlC s rv ov sv) 38)) : Slvs X (.slice (some ⟨b, 0, none⟩) 1 1) [s] := by
  refine ⟨some ⟨b, 0, none⟩, 1, rfl, Nat.le_refl 1, (by unfold maxLen; decide), (fun e => by cases e), fun _ => ⟨b, 0, rfl, fun i x hx => ?_⟩⟩
  have hi : i = 0 := by
    have h1 := (List.getElem?_eq_some_iff.1 hx).1
    have h2 : i < 1 := h1
    omega
  subst hi
  have hx' : x = s := by
    have h3 : some s = some x := hx
    injection h3 with h3
    exact h3.symm
  subst hx'
  refine ⟨(SlC x rv ov sv).toList, rfl, ⟨rv, ov, sv, rfl, hR⟩, fun j u hj => ?_⟩
  rw [hpCell h]
  simpa using hj
theorem ats_one {X : World} {b : Nat} {a : At} (hw : wfAt a) (h : X.heap[b]? = some (.cells a.C 24)) : Ats X (.slice (some ⟨b, 0, none⟩) 1 1) [a] := by
  refine ⟨some ⟨b, 0, none⟩, 1, rfl, Nat.le_refl 1, (by unfold maxLen; decide), (fun e => by cases e), fun _ => ⟨b, 0, rfl, fun i x hx => ?_⟩⟩
  have hi : i = 0 := by
    have h1 := (List.getElem?_eq_some_iff.1 hx).1
    have h2 : i < 1 := h1
    omega
  subst hi
  have hx' : x = a := by
    have h3 : some a = some x := hx
    injection h3 with h3
    exact h3.symm
  subst hx'
  refine ⟨x.C.toList, rfl, ⟨rfl, hw⟩, fun j u hj => ?_⟩
  rw [hpCell h]
  simpa using hj
theorem aw_wf : wfAt awT := by
  unfold wfAt awT wfI
  dsimp only
  omega
end Go.Proofs.YtpkheiaanjhffaaGreat
