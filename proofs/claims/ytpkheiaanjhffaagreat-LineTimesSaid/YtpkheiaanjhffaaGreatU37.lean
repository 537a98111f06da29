/-
  Texts 37 of the claim.
-/
import Derived.Test.YtpkheiaanjhffaaGreatU36
namespace Go.Proofs.YtpkheiaanjhffaaGreat
open Go.RowKit
def RvPost (w : World) (f : List UInt8) (r : Ending) (w' : World) : Prop := ∃ a c, r = .returned (.slice a f.length c) ∧ w'.ownsRow w.heap.size 5 1 (.slice a f.length c) f.length (u8s f) ∧ Below w.heap.size w w'
theorem RvPost.nil {w w' : World} {f : List UInt8} (h : f = []) (hb : Below w.heap.size w w') : RvPost w f (.returned (.slice none 0 0)) w' := by
  subst h
  exact ⟨none, 0, rfl, World.ownsRow_nil _ _ _ _, hb⟩
theorem AnPost.uni {w : World} {o : Option (List UInt8)} {n : Nat} (hn : (o.getD []).length = n) {r : Ending} {w' : World} (h : AnPost w o r w') : ∃ a c B, r = .returned (.tuple #[.slice a n c, .bool B]) ∧ w'.ownsRow w.heap.size 5 1 (.slice a n c) n (u8s (o.getD [])) ∧ Below w.heap.size w w' := by
  subst hn
  cases o with
  | none => exact ⟨none, 0, false, h.1, World.ownsRow_nil _ _ _ _, h.2⟩
  | some f =>
    obtain ⟨a, c, h1, h2, h3⟩ := h
    exact ⟨a, c, true, h1, h2, h3⟩
theorem xor_by (x : UInt8) (m : Nat) (hm : m < 256) : Value.int .u8 (bits .xor .u8 ((x.toNat : Nat) : Int) (m : Int)) = byteV (x ^^^ UInt8.ofNat m) := by
  rw [u8_xor_nat x.toNat m (byte_lt x) hm]
  unfold byteV
  rw [UInt8.toNat_xor, UInt8.toNat_ofNat', Nat.mod_eq_of_lt hm]
structure RyB (w W : World) (g : Nat) (bd pa : Int) (C : Array Value) (la : Option Addr) (ln lc : Nat) : Prop where
  b : Below w.heap.size w W
  z : W.heap.size = w.heap.size + 2
  s : W.heap[w.heap.size]? = some (.cells #[.int .i64 bd, .int .i64 pa] 30)
  a : W.heap[w.heap.size + 1]? = some (.cells C 24)
  c0 : W.cell? ⟨g, 0, none⟩ = some (.slice la ln lc)
set_option maxRecDepth 100000 in
set_option maxHeartbeats 1600000 in
theorem reply_lost (g : Nat) (la : Option Addr) (lc ln : Nat) (bd pa : Int) (fa : Option Addr) (fn fc : Nat) (lat fault pos mask ticks value : Int) (hf : fault = 1 ∨ fault = 2) (w : World) (hc0 : w.cell? ⟨g, 0, none⟩ = some (.slice la ln lc)) :
    Calls Tryz.prog 63 #[.pointer (some ⟨g, 0, none⟩), .agg #[.int .i64 bd, .int .i64 pa], .slice fa fn fc, .agg #[.int .i64 lat, .int .i64 fault, .int .i64 pos, .int .i64 mask, .int .i64 ticks, .int .i64 value]] w (RvPost w []) := by
  obtain ⟨W1, hW1⟩ : ∃ W, (w.alloc (.cells #[.int .i64 bd, .int .i64 pa] 30)).alloc (.cells #[.int .i64 lat, .int .i64 fault, .int .i64 pos, .int .i64 mask, .int .i64 ticks, .int .i64 value] 24) = W := ⟨_, rfl⟩; have HY : Hid (RyB w W1 g bd pa #[.int .i64 lat, .int .i64 fault, .int .i64 pos, .int .i64 mask, .int .i64 ticks, .int .i64 value] la ln lc) := (by have hb : Below w.heap.size w W1 := (by rw [← hW1]; exact bta (bal' w _) (Nat.le_refl _) _); refine ⟨hb, by rw [← hW1]; simp, by rw [← hW1]; exact hpKeep (hpNew w _) (bal' _ _), ?_, cell_keep hb hc0⟩; rw [← hW1]; have h := hpNew (w.alloc (.cells #[.int .i64 bd, .int .i64 pa] 30)) (.cells #[.int .i64 lat, .int .i64 fault, .int .i64 pos, .int .i64 mask, .int .i64 ticks, .int .i64 value] 24); rw [World.size_alloc] at h; exact h); obtain ⟨ab, hab⟩ : ∃ n, w.heap.size + 1 = n := ⟨_, rfl⟩; have HPA : Hid (W1.heap[ab]? = some (.cells #[.int .i64 lat, .int .i64 fault, .int .i64 pos, .int .i64 mask, .int .i64 ticks, .int .i64 value] 24)) := (by rw [← hab]; exact HY.out.a); have HW1 := hid hW1; have HAB := hid hab; clear hW1 hab
  have s0 : ∀ X, Below W1.heap.size W1 X → X.cell? ⟨w.heap.size, 0, none⟩ = some (.int .i64 bd) := (fun X h => hpCell (hpKeep HY.out.s h) 0); have s1 : ∀ X, Below W1.heap.size W1 X → X.cell? ⟨w.heap.size, 1, none⟩ = some (.int .i64 pa) := (fun X h => hpCell (hpKeep HY.out.s h) 1); have a1 : ∀ X, Below W1.heap.size W1 X → X.cell? ⟨ab, 1, none⟩ = some (.int .i64 fault) := (fun X h => hpCell (hpKeep HPA.out h) 1); have a2 : ∀ X, Below W1.heap.size W1 X → X.cell? ⟨ab, 2, none⟩ = some (.int .i64 pos) := (fun X h => hpCell (hpKeep HPA.out h) 2); have a3 : ∀ X, Below W1.heap.size W1 X → X.cell? ⟨ab, 3, none⟩ = some (.int .i64 mask) := (fun X h => hpCell (hpKeep HPA.out h) 3); have a5 : ∀ X, Below W1.heap.size W1 X → X.cell? ⟨ab, 5, none⟩ = some (.int .i64 value) := (fun X h => hpCell (hpKeep HPA.out h) 5); have c0 : ∀ X, Below W1.heap.size W1 X → X.cell? ⟨g, 0, none⟩ = some (.slice la ln lc) := (fun X h => cell_keep h HY.out.c0); have k0 : Below W1.heap.size W1 W1 := Below.refl _ _; have kD : Below W1.heap.size W1 W1.drew := (Below.refl _ _).drew
  clear hc0
  rcases hf with rfl | rfl
  · go_enter Tryz.func63, Tryz.ntmps63
    go_upto_region 1 with (fail)
    rw [HW1.out, HAB.out]
    go_wp2
    go_ret
    exact RvPost.nil rfl HY.out.b
  · go_enter Tryz.func63, Tryz.ntmps63
    go_upto_region 1 with (fail)
    rw [HW1.out, HAB.out]
    go_wp2
    go_ret
    exact RvPost.nil rfl HY.out.b
set_option maxRecDepth 100000 in
set_option maxHeartbeats 3200000 in
theorem reply_busy (g : Nat) (la : Option Addr) (lc ln : Nat) (l : List Sl) (hl : l.length = ln) (hB : BusP l) (bd pa : Int) (f1 : wfI bd) (f2 : wfI pa) (fa : Option Addr) (fn fc : Nat) (f : List UInt8) (lat fault pos mask ticks value : Int) (hf5 : fault = 5) (w : World) (hc0 : w.cell? ⟨g, 0, none⟩ = some (.slice la ln lc)) (hL : Slvs w (.slice la ln lc) l) (hf : Bs w (.slice fa fn fc) f) :
    Calls Tryz.prog 63 #[.pointer (some ⟨g, 0, none⟩), .agg #[.int .i64 bd, .int .i64 pa], .slice fa fn fc, .agg #[.int .i64 lat, .int .i64 fault, .int .i64 pos, .int .i64 mask, .int .i64 ticks, .int .i64 value]] w (RvPost w ((busBusy l bd pa f).getD [])) := by
  obtain ⟨W1, hW1⟩ : ∃ W, (w.alloc (.cells #[.int .i64 bd, .int .i64 pa] 30)).alloc (.cells #[.int .i64 lat, .int .i64 fault, .int .i64 pos, .int .i64 mask, .int .i64 ticks, .int .i64 value] 24) = W := ⟨_, rfl⟩; have HY : Hid (RyB w W1 g bd pa #[.int .i64 lat, .int .i64 fault, .int .i64 pos, .int .i64 mask, .int .i64 ticks, .int .i64 value] la ln lc) := (by have hb : Below w.heap.size w W1 := (by rw [← hW1]; exact bta (bal' w _) (Nat.le_refl _) _); refine ⟨hb, by rw [← hW1]; simp, by rw [← hW1]; exact hpKeep (hpNew w _) (bal' _ _), ?_, cell_keep hb hc0⟩; rw [← hW1]; have h := hpNew (w.alloc (.cells #[.int .i64 bd, .int .i64 pa] 30)) (.cells #[.int .i64 lat, .int .i64 fault, .int .i64 pos, .int .i64 mask, .int .i64 ticks, .int .i64 value] 24); rw [World.size_alloc] at h; exact h); obtain ⟨ab, hab⟩ : ∃ n, w.heap.size + 1 = n := ⟨_, rfl⟩; have HPA : Hid (W1.heap[ab]? = some (.cells #[.int .i64 lat, .int .i64 fault, .int .i64 pos, .int .i64 mask, .int .i64 ticks, .int .i64 value] 24)) := (by rw [← hab]; exact HY.out.a); have HW1 := hid hW1; have HAB := hid hab; clear hW1 hab
  have s0 : ∀ X, Below W1.heap.size W1 X → X.cell? ⟨w.heap.size, 0, none⟩ = some (.int .i64 bd) := (fun X h => hpCell (hpKeep HY.out.s h) 0); have s1 : ∀ X, Below W1.heap.size W1 X → X.cell? ⟨w.heap.size, 1, none⟩ = some (.int .i64 pa) := (fun X h => hpCell (hpKeep HY.out.s h) 1); have a1 : ∀ X, Below W1.heap.size W1 X → X.cell? ⟨ab, 1, none⟩ = some (.int .i64 fault) := (fun X h => hpCell (hpKeep HPA.out h) 1); have a2 : ∀ X, Below W1.heap.size W1 X → X.cell? ⟨ab, 2, none⟩ = some (.int .i64 pos) := (fun X h => hpCell (hpKeep HPA.out h) 2); have a3 : ∀ X, Below W1.heap.size W1 X → X.cell? ⟨ab, 3, none⟩ = some (.int .i64 mask) := (fun X h => hpCell (hpKeep HPA.out h) 3); have a5 : ∀ X, Below W1.heap.size W1 X → X.cell? ⟨ab, 5, none⟩ = some (.int .i64 value) := (fun X h => hpCell (hpKeep HPA.out h) 5); have c0 : ∀ X, Below W1.heap.size W1 X → X.cell? ⟨g, 0, none⟩ = some (.slice la ln lc) := (fun X h => cell_keep h HY.out.c0); have k0 : Below W1.heap.size W1 W1 := Below.refl _ _; have kD : Below W1.heap.size W1 W1.drew := (Below.refl _ _).drew
  have e1 : (fault == 1) = false := b0 (by omega)
  have e2 : (fault == 2) = false := b0 (by omega)
  have e5 : (fault == 5) = true := b1 hf5
  have e3 : (fault == 3) = false := b0 (by omega)
  obtain ⟨rn, hrn⟩ : ∃ n, ((busBusy l bd pa f).getD []).length = n := ⟨_, rfl⟩
  have HAN : Hid (∀ X, Below W1.heap.size W1 X → Calls Tryz.prog 89 #[.slice la ln lc, .agg #[.int .i64 bd, .int .i64 pa], .slice fa fn fc] X fun r w' => ∃ a c B, r = .returned (.tuple #[.slice a rn c, .bool B]) ∧ w'.ownsRow X.heap.size 5 1 (.slice a rn c) rn (u8s ((busBusy l bd pa f).getD [])) ∧ Below X.heap.size X w') := fun X hX => (pbbusy_any la lc ln l hl hB bd pa f1 f2 fa fn fc f X (hL.keep (bt HY.out.b hX (Nat.le_refl _))) (hf.keep (bt HY.out.b hX (Nat.le_refl _)))).mono fun _ _ h => h.uni hrn
  have HRN := hid hrn
  clear hc0 hL hf hB hl f1 f2 hrn hf5
  go_enter Tryz.func63, Tryz.ntmps63
  go_upto_region 1 with (fail)
  rw [HW1.out, HAB.out]
  go_upto_region 8 with (fail)
  refine wp_region_held_drew (S := fun V => Below W1.heap.size W1 V) (by kernel_rfl) kD (fun hH => ?_)
  clear hH
  refine tkE 0 31 rfl rfl ?_; simp only [setS]
  refine tkE 1 32 rfl rfl ?_; simp only [setS]
  refine tkE 2 33 rfl rfl ?_; simp only [setS]
  refine tkE 3 34 rfl rfl ?_; simp only [setS]
  refine tkE 4 35 rfl rfl ?_; simp only [setS]
  refine tkE 5 36 rfl rfl ?_; simp only [setS]
  refine rdyH 6 rfl (fun K hK => ?_); go_simp
  refine (HAN.out _ kD).mono ?_
  rintro r w4 ⟨ra, rc, B, rfl, hown, hb4⟩
  have hB4 := bt kD hb4 (Nat.le_refl _)
  refine hK.out _ _ hB4 (fun hSx => ?_); clear hK K hSx
  refine tkE 7 30 rfl rfl ?_; simp only [setS]
  refine tkE 8 38 rfl rfl ?_; simp only [setS]
  refine tkE 9 39 rfl rfl ?_; simp only [setS]
  refine tkD 10 9 (v := ?_) rfl (by kernel_rfl) (fun _ _ _ h => h) rfl (by rfl) (by assumption) ?_ ?_; rotate_left; (intro w hSw; (try dsimp only at hSw); (try go_simp); try rfl)
  refine wpAnyH_done (by kernel_rfl) ?_ _
  have a1' := a1 _ hB4
  have HOW := hid hown
  clear hown
  go_wp2
  go_ret
  have hz := kD.size
  exact ⟨ra, rc, (by rw [HRN.out] <;> rfl), by rw [HRN.out]; exact own_lower HOW.out (Nat.le_trans HY.out.b.size hz), bt HY.out.b hB4 (Nat.le_refl _)⟩
set_option maxRecDepth 100000 in
set_option maxHeartbeats 3200000 in
theorem reply_plain (g : Nat) (la : Option Addr) (lc ln : Nat) (l : List Sl) (hl : l.length = ln) (hB : BusP l) (bd pa : Int) (f1 : wfI bd) (f2 : wfI pa) (fa : Option Addr) (fn fc : Nat) (f : List UInt8) (lat fault pos mask ticks value : Int) (h1 : ¬ fault = 1) (h2 : ¬ fault = 2) (h5 : ¬ fault = 5) (h3 : ¬ fault = 3) (x0 : 0 ≤ value) (x1 : value ≤ 65535) (w : World) (hc0 : w.cell? ⟨g, 0, none⟩ = some (.slice la ln lc)) (hL : Slvs w (.slice la ln lc) l) (hf : Bs w (.slice fa fn fc) f) :
    Calls Tryz.prog 63 #[.pointer (some ⟨g, 0, none⟩), .agg #[.int .i64 bd, .int .i64 pa], .slice fa fn fc, .agg #[.int .i64 lat, .int .i64 fault, .int .i64 pos, .int .i64 mask, .int .i64 ticks, .int .i64 value]] w (RvPost w ((busAns l bd pa f value).getD [])) := by
  obtain ⟨W1, hW1⟩ : ∃ W, (w.alloc (.cells #[.int .i64 bd, .int .i64 pa] 30)).alloc (.cells #[.int .i64 lat, .int .i64 fault, .int .i64 pos, .int .i64 mask, .int .i64 ticks, .int .i64 value] 24) = W := ⟨_, rfl⟩; have HY : Hid (RyB w W1 g bd pa #[.int .i64 lat, .int .i64 fault, .int .i64 pos, .int .i64 mask, .int .i64 ticks, .int .i64 value] la ln lc) := (by have hb : Below w.heap.size w W1 := (by rw [← hW1]; exact bta (bal' w _) (Nat.le_refl _) _); refine ⟨hb, by rw [← hW1]; simp, by rw [← hW1]; exact hpKeep (hpNew w _) (bal' _ _), ?_, cell_keep hb hc0⟩; rw [← hW1]; have h := hpNew (w.alloc (.cells #[.int .i64 bd, .int .i64 pa] 30)) (.cells #[.int .i64 lat, .int .i64 fault, .int .i64 pos, .int .i64 mask, .int .i64 ticks, .int .i64 value] 24); rw [World.size_alloc] at h; exact h); obtain ⟨ab, hab⟩ : ∃ n, w.heap.size + 1 = n := ⟨_, rfl⟩; have HPA : Hid (W1.heap[ab]? = some (.cells #[.int .i64 lat, .int .i64 fault, .int .i64 pos, .int .i64 mask, .int .i64 ticks, .int .i64 value] 24)) := (by rw [← hab]; exact HY.out.a); have HW1 := hid hW1; have HAB := hid hab; clear hW1 hab
  have s0 : ∀ X, Below W1.heap.size W1 X → X.cell? ⟨w.heap.size, 0, none⟩ = some (.int .i64 bd) := (fun X h => hpCell (hpKeep HY.out.s h) 0); have s1 : ∀ X, Below W1.heap.size W1 X → X.cell? ⟨w.heap.size, 1, none⟩ = some (.int .i64 pa) := (fun X h => hpCell (hpKeep HY.out.s h) 1); have a1 : ∀ X, Below W1.heap.size W1 X → X.cell? ⟨ab, 1, none⟩ = some (.int .i64 fault) := (fun X h => hpCell (hpKeep HPA.out h) 1); have a2 : ∀ X, Below W1.heap.size W1 X → X.cell? ⟨ab, 2, none⟩ = some (.int .i64 pos) := (fun X h => hpCell (hpKeep HPA.out h) 2); have a3 : ∀ X, Below W1.heap.size W1 X → X.cell? ⟨ab, 3, none⟩ = some (.int .i64 mask) := (fun X h => hpCell (hpKeep HPA.out h) 3); have a5 : ∀ X, Below W1.heap.size W1 X → X.cell? ⟨ab, 5, none⟩ = some (.int .i64 value) := (fun X h => hpCell (hpKeep HPA.out h) 5); have c0 : ∀ X, Below W1.heap.size W1 X → X.cell? ⟨g, 0, none⟩ = some (.slice la ln lc) := (fun X h => cell_keep h HY.out.c0); have k0 : Below W1.heap.size W1 W1 := Below.refl _ _; have kD : Below W1.heap.size W1 W1.drew := (Below.refl _ _).drew
  obtain ⟨R, hR⟩ : ∃ R, (busAns l bd pa f value).getD [] = R := ⟨_, rfl⟩; obtain ⟨rn, hrn⟩ : ∃ n, R.length = n := ⟨_, rfl⟩; have HAN : Hid (∀ X, Below W1.heap.size W1 X → Calls Tryz.prog 90 #[.slice la ln lc, .agg #[.int .i64 bd, .int .i64 pa], .slice fa fn fc, .int .i64 value] X fun r w' => ∃ a c B, r = .returned (.tuple #[.slice a rn c, .bool B]) ∧ w'.ownsRow X.heap.size 5 1 (.slice a rn c) rn (u8s R) ∧ Below X.heap.size X w') := (fun X hX => (pbans_any la lc ln l hl hB bd pa f1 f2 fa fn fc f value x0 x1 X (hL.keep (bt HY.out.b hX (Nat.le_refl _))) (hf.keep (bt HY.out.b hX (Nat.le_refl _)))).mono fun _ _ h => by rw [← hR]; exact h.uni (by rw [hR]; exact hrn)); have HRN := hid hrn; have HR := hid hR
  rw [hR]
  have e1 := b0 h1
  have e2 := b0 h2
  have e3 := b0 h3
  have e5 := b0 h5
  clear hc0 hL hf hB hl f1 f2 hrn hR h1 h2 h5 h3 x0 x1
  go_enter Tryz.func63, Tryz.ntmps63
  go_upto_region 1 with (fail)
  rw [HW1.out, HAB.out]
  go_upto_region 3 with (fail)
  refine wp_region_held_drew (S := fun V => Below W1.heap.size W1 V) (by kernel_rfl) kD (fun hH => ?_); clear hH; refine tkE 0 14 rfl rfl ?_; simp only [setS]; refine tkE 1 15 rfl rfl ?_; simp only [setS]; refine tkE 2 16 rfl rfl ?_; simp only [setS]; refine tkE 3 17 rfl rfl ?_; simp only [setS]; refine tkE 4 18 rfl rfl ?_; simp only [setS]; refine tkE 5 19 rfl rfl ?_; simp only [setS]; refine tkE 6 20 rfl rfl ?_; simp only [setS]; refine tkE 7 21 rfl rfl ?_; simp only [setS]; refine rdyH 8 rfl (fun K hK => ?_); go_simp; refine (HAN.out _ kD).mono ?_; rintro r w4 ⟨ra, rc, B, rfl, hown, hb4⟩; have hB4 := bt kD hb4 (Nat.le_refl _); refine hK.out _ _ hB4 (fun hSx => ?_); clear hK K hSx; refine tkE 9 13 rfl rfl ?_; simp only [setS]; refine tkE 10 23 rfl rfl ?_; simp only [setS]; refine tkE 11 24 rfl rfl ?_; simp only [setS]; refine tkD 12 9 (v := ?_) rfl (by kernel_rfl) (fun _ _ _ h => h) rfl (by rfl) (by assumption) ?_ ?_; rotate_left; (intro w hSw; (try dsimp only at hSw); (try go_simp); try rfl); refine wpAnyH_done (by kernel_rfl) ?_ _
  have a1' := a1 _ hB4
  have HOW := hid hown
  clear hown
  go_wp2
  go_ret
  have hz := kD.size
  exact ⟨ra, rc, (by rw [HRN.out] <;> rfl), by rw [HRN.out]; exact own_lower HOW.out (Nat.le_trans HY.out.b.size hz), bt HY.out.b hB4 (Nat.le_refl _)⟩
end Go.Proofs.YtpkheiaanjhffaaGreat
