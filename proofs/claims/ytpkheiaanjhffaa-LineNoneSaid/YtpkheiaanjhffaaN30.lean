/-
  Texts 30 of the claim.
-/
import Derived.Test.YtpkheiaanjhffaaN29
import Derived.Test.YtpkheiaanjhffaaN16
import Derived.Test.YtpkheiaanjhffaaN09
import Derived.Test.YtpkheiaanjhffaaN21
import Derived.Test.YtpkheiaanjhffaaN17
import Derived.Test.YtpkheiaanjhffaaN19
import Derived.Deep.CutRange
import Derived.Deep.CutBlock
import Derived.Test.YtpkheiaanjhffaaN06
import Derived.Test.YtpkheiaanjhffaaN11
namespace Go.Proofs.Ytpkheiaanjhffaa
open Go.RowKit
theorem ok_known {q : Rq} (h : q.ok = true) : knownB q.fn = true := by
  unfold knownB tblB
  rcases fn_cases h with ⟨h1, h2⟩ | h1 | h1
  · rw [decide_eq_true h1, decide_eq_true h2]; rfl
  · rw [h1]; rfl
  · rw [h1.1]; rfl
theorem AnPost.up {w W : World} {o : Option (List UInt8)} {r : Ending} {w' : World} (hb : Below w.heap.size w W) (h : AnPost W o r w') : AnPost w o r w' := by
  cases o with
  | none => exact ⟨h.1, bt hb h.2 (Nat.le_refl _)⟩
  | some f =>
    obtain ⟨a, c, h1, h2, h3⟩ := h
    exact ⟨a, c, h1, own_lower h2 hb.size, bt hb h3 (Nat.le_refl _)⟩
theorem AnPost.form {w : World} {o : Option (List UInt8)} {r : Ending} {w' : World} (h : AnPost w o r w') : ∃ a n c B, r = .returned (.tuple #[.slice a n c, .bool B]) := by
  cases o with
  | none => exact ⟨none, 0, 0, false, h.1⟩
  | some f => obtain ⟨a, c, h1, -⟩ := h; exact ⟨a, _, c, true, h1⟩
set_option maxRecDepth 100000 in
set_option maxHeartbeats 6400000 in
theorem pbbusy_any (la : Option Addr) (lc ln : Nat) (l : List Sl) (hl : l.length = ln) (hB : BusP l) (bd pa : Int) (f1 : wfI bd) (f2 : wfI pa) (fa : Option Addr) (fn fc : Nat) (f : List UInt8) (w : World) (hL : Slvs w (.slice la ln lc) l) (hf : Bs w (.slice fa fn fc) f) :
    Calls Try.prog 27 #[.slice la ln lc, .agg #[.int .i64 bd, .int .i64 pa], .slice fa fn fc] w (AnPost w (busBusy l bd pa f)) := by
  obtain ⟨W1, hW1⟩ : ∃ W, w.alloc (.cells #[.int .i64 bd, .int .i64 pa] 27) = W := ⟨_, rfl⟩
  have hb1 : Below w.heap.size w W1 := by rw [← hW1]; exact bal' w _
  have pS : W1.heap[w.heap.size]? = some (.cells #[.int .i64 bd, .int .i64 pa] 27) := by rw [← hW1]; exact hpNew w _
  have s0 : ∀ X, Below W1.heap.size W1 X → X.cell? ⟨w.heap.size, 0, none⟩ = some (.int .i64 bd) := fun X h => hpCell (hpKeep pS h) 0
  have s1 : ∀ X, Below W1.heap.size W1 X → X.cell? ⟨w.heap.size, 1, none⟩ = some (.int .i64 pa) := fun X h => hpCell (hpKeep pS h) 1
  have k0 : Below W1.heap.size W1 W1 := Below.refl _ _
  have HPS := hid (pparse_any la lc ln l hl hB bd pa f1 f2 fa fn fc f W1 (hL.keep hb1) (hf.keep hb1))
  have HAN : Hid (∀ X, Below W1.heap.size W1 X → Calls Try.prog 28 #[.slice la ln lc, .agg #[.int .i64 bd, .int .i64 pa], .slice fa fn fc, .int .i64 0] X (AnPost X (busAns l bd pa f 0))) := fun X hX => pbans_any la lc ln l hl hB bd pa f1 f2 fa fn fc f 0 (by decide) (by decide) X (hL.keep (bt hb1 hX (Nat.le_refl _))) (hf.keep (bt hb1 hX (Nat.le_refl _)))
  have HW1 := hid hW1
  have HB1 := hid hb1
  unfold busBusy
  unfold busAns at HAN
  clear hW1 hb1 pS hB hL hf f1 f2 hl
  cases ho : busDec l bd pa f with
  | none =>
    rw [ho] at HPS HAN
    clear ho
    go_enter Try.func27, Try.ntmps27
    go_upto_region 1 with (fail)
    rw [HW1.out]
    go_upto_region 2 with (go_at_call 39; (with_reducible refine HPS.out.mono ?_); rintro r w2 ⟨u2, f2, a2, n2, c2, o2, ma, mn, mc, rfl, hb2⟩)
    obtain ⟨W3, hW3⟩ : ∃ W, w2.alloc (.cells #[.int .i64 f2, .int .i64 a2, .int .i64 n2, .int .i64 c2, .int .i64 o2] 70) = W := ⟨_, rfl⟩
    have hb3 : Below W1.heap.size W1 W3 := by rw [← hW3]; exact bta hb2 (Nat.le_refl _) _
    rw [hW3]
    clear hW3
    go_wp2_with (go_at_call 28; (with_reducible refine (HAN.out _ hb3).mono ?_); rintro r w4 hp; obtain ⟨ra, rn, rc, RB, rfl⟩ := hp.form; have HP := hid hp; clear hp)
    go_ret2
    exact AnPost.up (bt HB1.out hb3 (Nat.le_refl _)) HP.out
  | some o =>
    obtain ⟨u, q, ms⟩ := o
    rw [ho] at HPS HAN
    obtain ⟨u1, u2, hqk, hms, hne⟩ := busDec_some ho
    clear ho hms
    obtain ⟨ml, hml⟩ : ∃ n, ms.length = n := ⟨_, rfl⟩
    have HPS2 : Hid (Calls Try.prog 39 #[.slice la ln lc, .agg #[.int .i64 bd, .int .i64 pa], .slice fa fn fc] W1 fun r w' => ∃ a c, r = .returned (.tuple #[.int .i64 u, .agg #[.int .i64 q.fn, .int .i64 q.addr, .int .i64 q.qty, .int .i64 q.code, .int .i64 q.obj], .slice a ml c, .bool true]) ∧ Below W1.heap.size W1 w') := HPS.out.mono fun r w' h => by
      obtain ⟨a, c, h1, h2, h3⟩ := h
      rw [hml] at h1
      exact ⟨a, c, h1, h3⟩
    have hml0 : 0 < ml := by rw [← hml]; exact List.length_pos_iff.2 hne
    obtain ⟨FR, hFR⟩ : ∃ FR, Option.map (fun o : Int × Rq × List Nat => if o.2.2.length = 1 then frameOf o.1 (mkR o.2.1.fn 6 []) else ansF l 0 o) (some (u, q, ms)) = FR := ⟨_, rfl⟩
    rw [hFR]
    have hFR2 : FR = some (if ml = 1 then frameOf u (mkR q.fn 6 []) else ansF l 0 (u, q, ms)) := by rw [← hFR, ← hml]; rfl
    clear hFR
    by_cases h1 : ml = 1
    · rw [if_pos h1] at hFR2
      obtain ⟨rp, hrp⟩ : ∃ rp, mkR q.fn 6 [] = rp := ⟨_, rfl⟩
      have hok : rp.ok = true := by rw [← hrp]; exact mkR_ok (ok_known hqk) (by decide) (by decide)
      have HBU : Hid (∀ X, Calls Try.prog 40 #[.int .i64 u, .agg #[.int .i64 q.fn, .int .i64 6, .slice none 0 0, .int .i64 0, .int .i64 0, .bool false, .int .i64 0, .slice none 0 0]] X (FrPost X (frameOf u rp))) := fun X => by
        have h := pbuildf_any u u1 u2 rp hok none none 0 0 X (by rw [← hrp]; exact ⟨Bs.nil X, Obs.nil X, (by show (0 : Int) ≤ _; decide), (by show _ ≤ (0 : Int); decide)⟩)
        rw [← hrp] at h ⊢
        exact h
      rw [hrp] at hFR2
      have HFR := hid hFR2
      have g3 : decide ((1 : Int) < (ml : Int)) = false := decide_eq_false (by omega)
      have g4 : ¬ 1 < ml := by omega
      clear HPS HAN hml hFR2 hrp hok u1 u2 hqk hne h1
      go_enter Try.func27, Try.ntmps27
      go_upto_region 1 with (fail)
      rw [HW1.out]
      go_upto_region 2 with (go_at_call 39; (with_reducible refine HPS2.out.mono ?_); rintro r w2 ⟨ma, mc, rfl, hb2⟩)
      go_wp2_with (go_at_call 40; (with_reducible refine (HBU.out _).mono ?_); rintro r w4 ⟨ba, bc, rfl, hown, hb4⟩)
      go_ret2
      rw [HFR.out]
      have hb3 : Below W1.heap.size W1 _ := bta hb2 (Nat.le_refl _) (.cells #[.int .i64 q.fn, .int .i64 q.addr, .int .i64 q.qty, .int .i64 q.code, .int .i64 q.obj] 70)
      have h03 := bt HB1.out hb3 (Nat.le_refl _)
      exact ⟨ba, bc, rfl, own_lower hown h03.size, bt h03 hb4 (Nat.le_refl _)⟩
    · rw [if_neg h1] at hFR2
      have HFR := hid hFR2
      have g3 : decide ((1 : Int) < (ml : Int)) = true := decide_eq_true (by omega)
      have g4 : 1 < ml := by omega
      clear HPS hml hFR2 u1 u2 hqk hne h1
      go_enter Try.func27, Try.ntmps27
      go_upto_region 1 with (fail)
      rw [HW1.out]
      go_upto_region 2 with (go_at_call 39; (with_reducible refine HPS2.out.mono ?_); rintro r w2 ⟨ma, mc, rfl, hb2⟩)
      obtain ⟨W3, hW3⟩ : ∃ W, w2.alloc (.cells #[.int .i64 q.fn, .int .i64 q.addr, .int .i64 q.qty, .int .i64 q.code, .int .i64 q.obj] 70) = W := ⟨_, rfl⟩
      have hb3 : Below W1.heap.size W1 W3 := by rw [← hW3]; exact bta hb2 (Nat.le_refl _) _
      rw [hW3]
      clear hW3
      go_wp2_with (go_at_call 28; (with_reducible refine (HAN.out _ hb3).mono ?_); rintro r w4 hp; obtain ⟨ra, rn, rc, RB, rfl⟩ := hp.form; have HP := hid hp; clear hp)
      go_ret2
      rw [HFR.out]
      exact AnPost.up (bt HB1.out hb3 (Nat.le_refl _)) HP.out
end Go.Proofs.Ytpkheiaanjhffaa

namespace Go.Proofs.Ytpkheiaanjhffaa
open Go.RowKit
end Go.Proofs.Ytpkheiaanjhffaa

namespace Go.Proofs.Ytpkheiaanjhffaa
open Go.RowKit
end Go.Proofs.Ytpkheiaanjhffaa

namespace Go.Proofs.Ytpkheiaanjhffaa
open Go.RowKit
end Go.Proofs.Ytpkheiaanjhffaa

namespace Go.Proofs.Ytpkheiaanjhffaa
open Go.RowKit
structure At where
  lat : Int
  fault : Int
  pos : Int
  mask : Int
  ticks : Int
  value : Int
def At.C (a : At) : Array Value := #[.int .i64 a.lat, .int .i64 a.fault, .int .i64 a.pos, .int .i64 a.mask, .int .i64 a.ticks, .int .i64 a.value]
def At.zero : At := ⟨0, 0, 0, 0, 0, 0⟩
def At.ok (a : At) : Prop := 0 ≤ a.lat ∧ a.lat ≤ 5000000 ∧ 0 ≤ a.value ∧ a.value ≤ 65535 ∧ 0 ≤ a.ticks ∧ a.ticks ≤ 5000000 ∧
  ((a.fault = 0 ∨ a.fault = 1 ∨ a.fault = 2 ∨ a.fault = 5) ∧ a.pos = 0 ∧ a.mask = 0 ∧ a.ticks = 0 ∨
   a.fault = 3 ∧ 0 ≤ a.pos ∧ a.pos ≤ 255 ∧ 1 ≤ a.mask ∧ a.mask ≤ 65535 ∧ a.mask % 256 ≠ 0 ∧ a.ticks = 0 ∨
   a.fault = 4 ∧ a.pos = 0 ∧ a.mask = 0 ∨
   a.fault = 6 ∧ 1 ≤ a.pos ∧ a.pos ≤ 255 ∧ a.mask = 0)
theorem At.ok_mk (lat fault pos mask ticks value : Int) : (At.mk lat fault pos mask ticks value).ok ↔ (0 ≤ lat ∧ lat ≤ 5000000 ∧ 0 ≤ value ∧ value ≤ 65535 ∧ 0 ≤ ticks ∧ ticks ≤ 5000000 ∧
  ((fault = 0 ∨ fault = 1 ∨ fault = 2 ∨ fault = 5) ∧ pos = 0 ∧ mask = 0 ∧ ticks = 0 ∨
   fault = 3 ∧ 0 ≤ pos ∧ pos ≤ 255 ∧ 1 ≤ mask ∧ mask ≤ 65535 ∧ mask % 256 ≠ 0 ∧ ticks = 0 ∨
   fault = 4 ∧ pos = 0 ∧ mask = 0 ∨
   fault = 6 ∧ 1 ≤ pos ∧ pos ≤ 255 ∧ mask = 0)) := Iff.rfl
def AtPost (w : World) (a : At) (r : Ending) (w' : World) : Prop := ∃ V : Bool, r = .returned (.bool V) ∧ Hid (V = true ↔ a.ok) ∧ Below w.heap.size w w'
theorem AtPost.no {w w' : World} {a : At} (h : ¬ a.ok) (hb : Below w.heap.size w w') : AtPost w a (.returned (.bool false)) w' := ⟨false, rfl, ⟨fun e => (by cases e), fun e => absurd e h⟩, hb⟩
theorem AtPost.yes {w w' : World} {a : At} (h : a.ok) (hb : Below w.heap.size w w') : AtPost w a (.returned (.bool true)) w' := ⟨true, rfl, ⟨fun _ => h, fun _ => rfl⟩, hb⟩
theorem infoAT : (Try.prog.info? 47).map (·.size) = some 6 := by kernel_rfl
end Go.Proofs.Ytpkheiaanjhffaa
