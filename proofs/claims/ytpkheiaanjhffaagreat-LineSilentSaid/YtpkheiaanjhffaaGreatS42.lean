/-
  Texts 42 of the claim.
-/
import Derived.Test.YtpkheiaanjhffaaGreatS41
import Derived.Deep.CutRange
namespace Go.Proofs.YtpkheiaanjhffaaGreat
open Go.RowKit
set_option maxRecDepth 100000 in
set_option maxHeartbeats 6400000 in
theorem reply_dam (g : Nat) (la : Option Addr) (lc ln : Nat) (l : List Sl) (hl : l.length = ln) (hB : BusP l) (bd pa : Int) (f1 : wfI bd) (f2 : wfI pa) (fa : Option Addr) (fn fc : Nat) (f : List UInt8) (lat fault pos mask ticks value : Int) (h3 : fault = 3) (p0 : 0 ≤ pos) (m0 : 1 ≤ mask) (m1 : mask ≤ 65535) (x0 : 0 ≤ value) (x1 : value ≤ 65535) (w : World) (hc0 : w.cell? ⟨g, 0, none⟩ = some (.slice la ln lc)) (hL : Slvs w (.slice la ln lc) l) (hf : Bs w (.slice fa fn fc) f) :
    Calls Tryz.prog 63 #[.pointer (some ⟨g, 0, none⟩), .agg #[.int .i64 bd, .int .i64 pa], .slice fa fn fc, .agg #[.int .i64 lat, .int .i64 fault, .int .i64 pos, .int .i64 mask, .int .i64 ticks, .int .i64 value]] w (RvPost w (rcvF l ⟨lat, fault, pos, mask, ticks, value⟩ bd pa f)) := by
  obtain ⟨W1, hW1⟩ : ∃ W, (w.alloc (.cells #[.int .i64 bd, .int .i64 pa] 30)).alloc (.cells #[.int .i64 lat, .int .i64 fault, .int .i64 pos, .int .i64 mask, .int .i64 ticks, .int .i64 value] 24) = W := ⟨_, rfl⟩; have HY : Hid (RyB w W1 g bd pa #[.int .i64 lat, .int .i64 fault, .int .i64 pos, .int .i64 mask, .int .i64 ticks, .int .i64 value] la ln lc) := (by have hb : Below w.heap.size w W1 := (by rw [← hW1]; exact bta (bal' w _) (Nat.le_refl _) _); refine ⟨hb, by rw [← hW1]; simp, by rw [← hW1]; exact hpKeep (hpNew w _) (bal' _ _), ?_, cell_keep hb hc0⟩; rw [← hW1]; have h := hpNew (w.alloc (.cells #[.int .i64 bd, .int .i64 pa] 30)) (.cells #[.int .i64 lat, .int .i64 fault, .int .i64 pos, .int .i64 mask, .int .i64 ticks, .int .i64 value] 24); rw [World.size_alloc] at h; exact h); obtain ⟨ab, hab⟩ : ∃ n, w.heap.size + 1 = n := ⟨_, rfl⟩; have HPA : Hid (W1.heap[ab]? = some (.cells #[.int .i64 lat, .int .i64 fault, .int .i64 pos, .int .i64 mask, .int .i64 ticks, .int .i64 value] 24)) := (by rw [← hab]; exact HY.out.a); have HW1 := hid hW1; have HAB := hid hab; clear hW1 hab
  have s0 : ∀ X, Below W1.heap.size W1 X → X.cell? ⟨w.heap.size, 0, none⟩ = some (.int .i64 bd) := (fun X h => hpCell (hpKeep HY.out.s h) 0); have s1 : ∀ X, Below W1.heap.size W1 X → X.cell? ⟨w.heap.size, 1, none⟩ = some (.int .i64 pa) := (fun X h => hpCell (hpKeep HY.out.s h) 1); have a1 : ∀ X, Below W1.heap.size W1 X → X.cell? ⟨ab, 1, none⟩ = some (.int .i64 fault) := (fun X h => hpCell (hpKeep HPA.out h) 1); have a2 : ∀ X, Below W1.heap.size W1 X → X.cell? ⟨ab, 2, none⟩ = some (.int .i64 pos) := (fun X h => hpCell (hpKeep HPA.out h) 2); have a3 : ∀ X, Below W1.heap.size W1 X → X.cell? ⟨ab, 3, none⟩ = some (.int .i64 mask) := (fun X h => hpCell (hpKeep HPA.out h) 3); have a5 : ∀ X, Below W1.heap.size W1 X → X.cell? ⟨ab, 5, none⟩ = some (.int .i64 value) := (fun X h => hpCell (hpKeep HPA.out h) 5); have c0 : ∀ X, Below W1.heap.size W1 X → X.cell? ⟨g, 0, none⟩ = some (.slice la ln lc) := (fun X h => cell_keep h HY.out.c0); have k0 : Below W1.heap.size W1 W1 := Below.refl _ _; have kD : Below W1.heap.size W1 W1.drew := (Below.refl _ _).drew
  obtain ⟨R, hR⟩ : ∃ R, (busAns l bd pa f value).getD [] = R := ⟨_, rfl⟩; obtain ⟨rn, hrn⟩ : ∃ n, R.length = n := ⟨_, rfl⟩; have HAN : Hid (∀ X, Below W1.heap.size W1 X → Calls Tryz.prog 90 #[.slice la ln lc, .agg #[.int .i64 bd, .int .i64 pa], .slice fa fn fc, .int .i64 value] X fun r w' => ∃ a c B, r = .returned (.tuple #[.slice a rn c, .bool B]) ∧ w'.ownsRow X.heap.size 5 1 (.slice a rn c) rn (u8s R) ∧ Below X.heap.size X w') := (fun X hX => (pbans_any la lc ln l hl hB bd pa f1 f2 fa fn fc f value x0 x1 X (hL.keep (bt HY.out.b hX (Nat.le_refl _))) (hf.keep (bt HY.out.b hX (Nat.le_refl _)))).mono fun _ _ h => by rw [← hR]; exact h.uni (by rw [hR]; exact hrn)); have HRN := hid hrn; have HR := hid hR
  have e1 : (fault == 1) = false := b0 (by omega)
  have e2 : (fault == 2) = false := b0 (by omega)
  have e3 : (fault == 3) = true := b1 h3
  have e5 : (fault == 5) = false := b0 (by omega)
  cases ho : busDec l bd pa f with
  | none =>
    have hR0 : R = [] := by rw [← hR]; unfold busAns; rw [ho]; rfl
    have hE : rcvF l ⟨lat, fault, pos, mask, ticks, value⟩ bd pa f = [] := by
      unfold rcvF loneB
      dsimp only
      rw [if_neg (by omega), if_neg (by omega), ho, if_neg (by rintro ⟨_, h⟩; cases h), hR, hR0]
    subst hR0
    have hrn0 : rn = 0 := hrn.symm
    subst hrn0
    rw [hE]
    clear hc0 hL hf hB hl f1 f2 hrn hR h3 x0 x1 hE ho
    go_enter Tryz.func63, Tryz.ntmps63
    go_upto_region 1 with (fail)
    rw [HW1.out, HAB.out]
    go_upto_region 3 with (fail)
    refine wp_region_held_drew (S := fun V => Below W1.heap.size W1 V) (by kernel_rfl) kD (fun hH => ?_); clear hH; refine tkD 0 14 (v := ?_) rfl (by kernel_rfl) (fun _ _ _ h => h) rfl (by rfl) (by assumption) ?_ ?_; rotate_left; (intro w hSw; (try dsimp only at hSw); go_simp; try (with_reducible rfl)); simp only [List.setIfInBounds_toArray, List.set_cons_zero, List.set_cons_succ]; refine tkD 1 15 (v := ?_) rfl (by kernel_rfl) (fun _ _ _ h => h) rfl (by rfl) (by assumption) ?_ ?_; rotate_left; (intro w hSw; (try dsimp only at hSw); go_simp; try (with_reducible rfl)); simp only [List.setIfInBounds_toArray, List.set_cons_zero, List.set_cons_succ]; refine tkD 2 16 (v := ?_) rfl (by kernel_rfl) (fun _ _ _ h => h) rfl (by rfl) (by assumption) ?_ ?_; rotate_left; (intro w hSw; (try dsimp only at hSw); go_simp; try (with_reducible rfl)); simp only [List.setIfInBounds_toArray, List.set_cons_zero, List.set_cons_succ]; refine tkD 3 17 (v := ?_) rfl (by kernel_rfl) (fun _ _ _ h => h) rfl (by rfl) (by assumption) ?_ ?_; rotate_left; (intro w hSw; (try dsimp only at hSw); go_simp; try (with_reducible rfl)); simp only [List.setIfInBounds_toArray, List.set_cons_zero, List.set_cons_succ]; refine tkD 4 18 (v := ?_) rfl (by kernel_rfl) (fun _ _ _ h => h) rfl (by rfl) (by assumption) ?_ ?_; rotate_left; (intro w hSw; (try dsimp only at hSw); go_simp; try (with_reducible rfl)); simp only [List.setIfInBounds_toArray, List.set_cons_zero, List.set_cons_succ]; refine tkD 5 19 (v := ?_) rfl (by kernel_rfl) (fun _ _ _ h => h) rfl (by rfl) (by assumption) ?_ ?_; rotate_left; (intro w hSw; (try dsimp only at hSw); go_simp; try (with_reducible rfl)); simp only [List.setIfInBounds_toArray, List.set_cons_zero, List.set_cons_succ]; refine tkD 6 20 (v := ?_) rfl (by kernel_rfl) (fun _ _ _ h => h) rfl (by rfl) (by assumption) ?_ ?_; rotate_left; (intro w hSw; (try dsimp only at hSw); go_simp; try (with_reducible rfl)); simp only [List.setIfInBounds_toArray, List.set_cons_zero, List.set_cons_succ]; refine tkD 7 21 (v := ?_) rfl (by kernel_rfl) (fun _ _ _ h => h) rfl (by rfl) (by assumption) ?_ ?_; rotate_left; (intro w hSw; (try dsimp only at hSw); go_simp; try (with_reducible rfl)); simp only [List.setIfInBounds_toArray, List.set_cons_zero, List.set_cons_succ]; refine wpAnyH_ready (rs := [8]) (by kernel_rfl) (by simp) ?_; refine AllReadyH.cons rfl (fun K hK => ?_) AllReadyH.nil; go_simp; refine (HAN.out _ kD).mono ?_; rintro r w4 ⟨ra, rc, B, rfl, hown, hb4⟩; have hB4 := bt kD hb4 (Nat.le_refl _); refine hK.out _ _ hB4 (fun hSx => ?_); clear hK K hSx; refine tkD 9 13 (v := ?_) rfl (by kernel_rfl) (fun _ _ _ h => h) rfl (by rfl) (by assumption) ?_ ?_; rotate_left; (intro w hSw; (try dsimp only at hSw); go_simp; try (with_reducible rfl)); simp only [List.setIfInBounds_toArray, List.set_cons_zero, List.set_cons_succ]; refine tkD 10 23 (v := ?_) rfl (by kernel_rfl) (fun _ _ _ h => h) rfl (by rfl) (by assumption) ?_ ?_; rotate_left; (intro w hSw; (try dsimp only at hSw); go_simp; try (with_reducible rfl)); simp only [List.setIfInBounds_toArray, List.set_cons_zero, List.set_cons_succ]; refine tkD 11 24 (v := ?_) rfl (by kernel_rfl) (fun _ _ _ h => h) rfl (by rfl) (by assumption) ?_ ?_; rotate_left; (intro w hSw; (try dsimp only at hSw); go_simp; try (with_reducible rfl)); simp only [List.setIfInBounds_toArray, List.set_cons_zero, List.set_cons_succ]; refine tkD 12 9 (v := ?_) rfl (by kernel_rfl) (fun _ _ _ h => h) rfl (by rfl) (by assumption) ?_ ?_; rotate_left; (intro w hSw; (try dsimp only at hSw); (try go_simp); try rfl); refine wpAnyH_done (by kernel_rfl) ?_ _
    have a1' := a1 _ hB4
    have HOW := hid hown
    clear hown
    go_wp2
    go_ret
    have hz := kD.size
    exact ⟨ra, rc, rfl, own_lower HOW.out (Nat.le_trans HY.out.b.size hz), bt HY.out.b hB4 (Nat.le_refl _)⟩
  | some o =>
    obtain ⟨V, hV⟩ : ∃ V, decide (o.2.2.length = 1) = V := ⟨_, rfl⟩
    have hE : rcvF l ⟨lat, fault, pos, mask, ticks, value⟩ bd pa f = if V = true then damL ⟨lat, fault, pos, mask, ticks, value⟩ R else R := by
      have hl1 : loneB l bd pa f = V := by unfold loneB; rw [ho]; exact hV
      unfold rcvF
      dsimp only
      rw [if_neg (by omega), if_neg (by omega), hR]
      cases V with
      | false => rw [if_neg (by rw [hl1]; rintro ⟨_, h⟩; cases h), if_neg (by decide)]
      | true => rw [if_pos ⟨h3, hl1⟩, if_pos rfl]
    have hbl : 5 ≤ rn ∧ rn ≤ 256 := by
      rw [← hrn, ← hR]
      unfold busAns
      rw [ho]
      exact ansF_len hB ho value
    have HSG : Hid (∀ X, Below W1.heap.size W1 X → Calls Tryz.prog 91 #[.pointer (some ⟨g, 0, none⟩), .agg #[.int .i64 bd, .int .i64 pa], .slice fa fn fc] X (BoolPost X V)) := fun X hX => single_any g la lc ln l hl hB bd pa f1 f2 fa fn fc f o ho V hV X (cell_keep hX HY.out.c0) (hL.keep (bt HY.out.b hX (Nat.le_refl _))) (hf.keep (bt HY.out.b hX (Nat.le_refl _)))
    rw [hE]
    obtain ⟨rb1, rb2⟩ := hbl
    have gl : decide ((0 : Int) < (rn : Int)) = true := decide_eq_true (by omega)
    have gl2 : 0 < rn := by omega
    clear hc0 hL hf hB hl f1 f2 hrn hR h3 x0 x1 hE ho hV
    cases V with
    | false =>
      rw [if_neg (by decide)]
      go_enter Tryz.func63, Tryz.ntmps63
      go_upto_region 1 with (fail)
      rw [HW1.out, HAB.out]
      go_upto_region 3 with (fail)
      refine wp_region_held_drew (S := fun V => Below W1.heap.size W1 V) (by kernel_rfl) kD (fun hH => ?_); clear hH; refine tkD 0 14 (v := ?_) rfl (by kernel_rfl) (fun _ _ _ h => h) rfl (by rfl) (by assumption) ?_ ?_; rotate_left; (intro w hSw; (try dsimp only at hSw); go_simp; try (with_reducible rfl)); simp only [List.setIfInBounds_toArray, List.set_cons_zero, List.set_cons_succ]; refine tkD 1 15 (v := ?_) rfl (by kernel_rfl) (fun _ _ _ h => h) rfl (by rfl) (by assumption) ?_ ?_; rotate_left; (intro w hSw; (try dsimp only at hSw); go_simp; try (with_reducible rfl)); simp only [List.setIfInBounds_toArray, List.set_cons_zero, List.set_cons_succ]; refine tkD 2 16 (v := ?_) rfl (by kernel_rfl) (fun _ _ _ h => h) rfl (by rfl) (by assumption) ?_ ?_; rotate_left; (intro w hSw; (try dsimp only at hSw); go_simp; try (with_reducible rfl)); simp only [List.setIfInBounds_toArray, List.set_cons_zero, List.set_cons_succ]; refine tkD 3 17 (v := ?_) rfl (by kernel_rfl) (fun _ _ _ h => h) rfl (by rfl) (by assumption) ?_ ?_; rotate_left; (intro w hSw; (try dsimp only at hSw); go_simp; try (with_reducible rfl)); simp only [List.setIfInBounds_toArray, List.set_cons_zero, List.set_cons_succ]; refine tkD 4 18 (v := ?_) rfl (by kernel_rfl) (fun _ _ _ h => h) rfl (by rfl) (by assumption) ?_ ?_; rotate_left; (intro w hSw; (try dsimp only at hSw); go_simp; try (with_reducible rfl)); simp only [List.setIfInBounds_toArray, List.set_cons_zero, List.set_cons_succ]; refine tkD 5 19 (v := ?_) rfl (by kernel_rfl) (fun _ _ _ h => h) rfl (by rfl) (by assumption) ?_ ?_; rotate_left; (intro w hSw; (try dsimp only at hSw); go_simp; try (with_reducible rfl)); simp only [List.setIfInBounds_toArray, List.set_cons_zero, List.set_cons_succ]; refine tkD 6 20 (v := ?_) rfl (by kernel_rfl) (fun _ _ _ h => h) rfl (by rfl) (by assumption) ?_ ?_; rotate_left; (intro w hSw; (try dsimp only at hSw); go_simp; try (with_reducible rfl)); simp only [List.setIfInBounds_toArray, List.set_cons_zero, List.set_cons_succ]; refine tkD 7 21 (v := ?_) rfl (by kernel_rfl) (fun _ _ _ h => h) rfl (by rfl) (by assumption) ?_ ?_; rotate_left; (intro w hSw; (try dsimp only at hSw); go_simp; try (with_reducible rfl)); simp only [List.setIfInBounds_toArray, List.set_cons_zero, List.set_cons_succ]; refine wpAnyH_ready (rs := [8]) (by kernel_rfl) (by simp) ?_; refine AllReadyH.cons rfl (fun K hK => ?_) AllReadyH.nil; go_simp; refine (HAN.out _ kD).mono ?_; rintro r w4 ⟨ra, rc, B, rfl, hown, hb4⟩; have hB4 := bt kD hb4 (Nat.le_refl _); refine hK.out _ _ hB4 (fun hSx => ?_); clear hK K hSx; refine tkD 9 13 (v := ?_) rfl (by kernel_rfl) (fun _ _ _ h => h) rfl (by rfl) (by assumption) ?_ ?_; rotate_left; (intro w hSw; (try dsimp only at hSw); go_simp; try (with_reducible rfl)); simp only [List.setIfInBounds_toArray, List.set_cons_zero, List.set_cons_succ]; refine tkD 10 23 (v := ?_) rfl (by kernel_rfl) (fun _ _ _ h => h) rfl (by rfl) (by assumption) ?_ ?_; rotate_left; (intro w hSw; (try dsimp only at hSw); go_simp; try (with_reducible rfl)); simp only [List.setIfInBounds_toArray, List.set_cons_zero, List.set_cons_succ]; refine tkD 11 24 (v := ?_) rfl (by kernel_rfl) (fun _ _ _ h => h) rfl (by rfl) (by assumption) ?_ ?_; rotate_left; (intro w hSw; (try dsimp only at hSw); go_simp; try (with_reducible rfl)); simp only [List.setIfInBounds_toArray, List.set_cons_zero, List.set_cons_succ]; refine tkD 12 9 (v := ?_) rfl (by kernel_rfl) (fun _ _ _ h => h) rfl (by rfl) (by assumption) ?_ ?_; rotate_left; (intro w hSw; (try dsimp only at hSw); (try go_simp); try rfl); refine wpAnyH_done (by kernel_rfl) ?_ _
      have a1' := a1 _ hB4
      have s0' := s0 _ hB4
      have s1' := s1 _ hB4
      have HOW := hid hown
      clear hown
      go_wp2_with (go_at_call 91; (with_reducible refine (HSG.out _ hB4).mono ?_); rintro r w5 ⟨rfl, hb5⟩)
      go_ret
      have hz := kD.size
      exact ⟨ra, rc, (by rw [HRN.out] <;> rfl), by rw [HRN.out]; exact own_lower (own_keeps (F := fun _ => False) HOW.out (Keeps.of_below hb5) (fun _ _ e => e)) (Nat.le_trans HY.out.b.size hz), bt (bt HY.out.b hB4 (Nat.le_refl _)) hb5 (Nat.le_refl _)⟩
    | true =>
      rw [if_pos rfl]
      obtain ⟨D, hD⟩ : ∃ D, damL ⟨lat, fault, pos, mask, ticks, value⟩ R = D := ⟨_, rfl⟩
      rw [hD]
      obtain ⟨p, hp⟩ : ∃ p, pos.toNat % rn = p := ⟨_, rfl⟩
      have hpl : p < rn := by rw [← hp]; exact Nat.mod_lt _ gl2
      have r2 : pos % (rn : Int) = (p : Int) := by rw [← hp, Int.natCast_emod, Int.toNat_of_nonneg p0]
      have r1 : pos.tmod (rn : Int) = (p : Int) := by rw [Int.tmod_eq_emod_of_nonneg p0, r2]
      have r3 : ¬ (rn : Int) = 0 := by omega
      have r4 : (0 : Int) ≤ (p : Int) := by omega
      have r5 : (p : Int) < (rn : Int) := by omega
      obtain ⟨n1, hn1⟩ : ∃ n, mask.toNat % 256 = n := ⟨_, rfl⟩
      obtain ⟨n2, hn2⟩ : ∃ n, mask.toNat / 256 = n := ⟨_, rfl⟩
      have n1l : n1 < 256 := by omega
      have n2l : n2 < 256 := by omega
      have u1 : IntKind.u8.wrap mask = (n1 : Int) := by rw [IntKind.wrap_u8, ← hn1]; omega
      have u2 : IntKind.u8.wrap (mask / 256) = (n2 : Int) := by rw [IntKind.wrap_u8, ← hn2]; omega
      have HD := hid hD
      have HPN := hid (And.intro hp (And.intro hn1 hn2))
      clear hD hp hn1 hn2
      go_enter Tryz.func63, Tryz.ntmps63
      go_upto_region 1 with (fail)
      rw [HW1.out, HAB.out]
      go_upto_region 3 with (fail)
      refine wp_region_held_drew (S := fun V => Below W1.heap.size W1 V) (by kernel_rfl) kD (fun hH => ?_); clear hH; refine tkD 0 14 (v := ?_) rfl (by kernel_rfl) (fun _ _ _ h => h) rfl (by rfl) (by assumption) ?_ ?_; rotate_left; (intro w hSw; (try dsimp only at hSw); go_simp; try (with_reducible rfl)); simp only [List.setIfInBounds_toArray, List.set_cons_zero, List.set_cons_succ]; refine tkD 1 15 (v := ?_) rfl (by kernel_rfl) (fun _ _ _ h => h) rfl (by rfl) (by assumption) ?_ ?_; rotate_left; (intro w hSw; (try dsimp only at hSw); go_simp; try (with_reducible rfl)); simp only [List.setIfInBounds_toArray, List.set_cons_zero, List.set_cons_succ]; refine tkD 2 16 (v := ?_) rfl (by kernel_rfl) (fun _ _ _ h => h) rfl (by rfl) (by assumption) ?_ ?_; rotate_left; (intro w hSw; (try dsimp only at hSw); go_simp; try (with_reducible rfl)); simp only [List.setIfInBounds_toArray, List.set_cons_zero, List.set_cons_succ]; refine tkD 3 17 (v := ?_) rfl (by kernel_rfl) (fun _ _ _ h => h) rfl (by rfl) (by assumption) ?_ ?_; rotate_left; (intro w hSw; (try dsimp only at hSw); go_simp; try (with_reducible rfl)); simp only [List.setIfInBounds_toArray, List.set_cons_zero, List.set_cons_succ]; refine tkD 4 18 (v := ?_) rfl (by kernel_rfl) (fun _ _ _ h => h) rfl (by rfl) (by assumption) ?_ ?_; rotate_left; (intro w hSw; (try dsimp only at hSw); go_simp; try (with_reducible rfl)); simp only [List.setIfInBounds_toArray, List.set_cons_zero, List.set_cons_succ]; refine tkD 5 19 (v := ?_) rfl (by kernel_rfl) (fun _ _ _ h => h) rfl (by rfl) (by assumption) ?_ ?_; rotate_left; (intro w hSw; (try dsimp only at hSw); go_simp; try (with_reducible rfl)); simp only [List.setIfInBounds_toArray, List.set_cons_zero, List.set_cons_succ]; refine tkD 6 20 (v := ?_) rfl (by kernel_rfl) (fun _ _ _ h => h) rfl (by rfl) (by assumption) ?_ ?_; rotate_left; (intro w hSw; (try dsimp only at hSw); go_simp; try (with_reducible rfl)); simp only [List.setIfInBounds_toArray, List.set_cons_zero, List.set_cons_succ]; refine tkD 7 21 (v := ?_) rfl (by kernel_rfl) (fun _ _ _ h => h) rfl (by rfl) (by assumption) ?_ ?_; rotate_left; (intro w hSw; (try dsimp only at hSw); go_simp; try (with_reducible rfl)); simp only [List.setIfInBounds_toArray, List.set_cons_zero, List.set_cons_succ]; refine wpAnyH_ready (rs := [8]) (by kernel_rfl) (by simp) ?_; refine AllReadyH.cons rfl (fun K hK => ?_) AllReadyH.nil; go_simp; refine (HAN.out _ kD).mono ?_; rintro r w4 ⟨ra, rc, B, rfl, hown, hb4⟩; have hB4 := bt kD hb4 (Nat.le_refl _); refine hK.out _ _ hB4 (fun hSx => ?_); clear hK K hSx; refine tkD 9 13 (v := ?_) rfl (by kernel_rfl) (fun _ _ _ h => h) rfl (by rfl) (by assumption) ?_ ?_; rotate_left; (intro w hSw; (try dsimp only at hSw); go_simp; try (with_reducible rfl)); simp only [List.setIfInBounds_toArray, List.set_cons_zero, List.set_cons_succ]; refine tkD 10 23 (v := ?_) rfl (by kernel_rfl) (fun _ _ _ h => h) rfl (by rfl) (by assumption) ?_ ?_; rotate_left; (intro w hSw; (try dsimp only at hSw); go_simp; try (with_reducible rfl)); simp only [List.setIfInBounds_toArray, List.set_cons_zero, List.set_cons_succ]; refine tkD 11 24 (v := ?_) rfl (by kernel_rfl) (fun _ _ _ h => h) rfl (by rfl) (by assumption) ?_ ?_; rotate_left; (intro w hSw; (try dsimp only at hSw); go_simp; try (with_reducible rfl)); simp only [List.setIfInBounds_toArray, List.set_cons_zero, List.set_cons_succ]; refine tkD 12 9 (v := ?_) rfl (by kernel_rfl) (fun _ _ _ h => h) rfl (by rfl) (by assumption) ?_ ?_; rotate_left; (intro w hSw; (try dsimp only at hSw); (try go_simp); try rfl); refine wpAnyH_done (by kernel_rfl) ?_ _
      have a1' := a1 _ hB4
      have s0' := s0 _ hB4
      have s1' := s1 _ hB4
      have HOW := hid hown
      clear hown
      go_upto_region 10 with (go_at_call 91; (with_reducible refine (HSG.out _ hB4).mono ?_); rintro r w5 ⟨rfl, hb5⟩)
      have hB5 : Below W1.heap.size W1 w5 := bt hB4 hb5 (Nat.le_refl _)
      have hz := kD.size
      have HO5 : Hid (w5.ownsRow w.heap.size 5 1 (.slice ra rn rc) rn (u8s R)) := own_lower (own_keeps (F := fun _ => False) HOW.out (Keeps.of_below hb5) (fun _ _ e => e)) (Nat.le_trans HY.out.b.size hz)
      obtain ⟨gb, cap, hv1, hgb, -, -⟩ := own_shapeR HO5.out gl2
      simp only [Value.slice.injEq, true_and] at hv1
      obtain ⟨rfl, rfl⟩ := hv1
      have hcl := ownb_cellZ HO5.out p hpl
      have hfz := HO5.out.frozenAt p
      have a3' := a3 _ hB5
      have a2' := a2 _ hB5
      clear a1' s0' s1'
      go_upto_region 12 with (fail)
      go_region
      obtain ⟨W6, hW6⟩ : ∃ W, (w5.setCell ⟨gb, p, none⟩ (.int .u8 (bits .xor .u8 (((R[p]?.getD 0).toNat : Nat) : Int) (n1 : Int)))).drew = W := ⟨_, rfl⟩
      have hxv : (Value.int .u8 (bits .xor .u8 (((R[p]?.getD 0).toNat : Nat) : Int) (n1 : Int))) = byteV ((R.getD p 0) ^^^ UInt8.ofNat n1) := xor_by (R.getD p 0) n1 n1l
      have h56 : Keeps (· = gb) w5 W6 := by rw [← hW6]; exact (ks1 (p := gb) (Keeps.refl _ w5) p _).trans (Keeps.of_below (F := fun _ => False) (Below.refl _ _).drew) (fun _ _ e => e.elim)
      have HO6 : Hid (W6.ownsRow w.heap.size 5 1 (.slice (some ⟨gb, 0, none⟩) rn rc) rn (u8s (xorB1 R p n1))) := by
        have h := (HO5.out.stored p (byteV ((R.getD p 0) ^^^ UInt8.ofNat n1))).1
        rw [u8s_setZ] at h
        show World.ownsRow _ _ _ _ _ _ _
        rw [← hW6, hxv]
        exact own_keeps (F := fun _ => False) h (Keeps.of_below (Below.refl _ _).drew) (fun _ _ e => e)
      have HB6 : Hid (Below w.heap.size w W6) := (HY.out.b.trans (hB5.mono HY.out.b.size)).trans (h56.below (by have := HY.out.b.size; have := hB5.size; omega) (fun j hj e => by omega))
      have hab : ab < W1.heap.size := hpLt HPA.out
      have habn : ¬ ab = gb := by have := HAB.out; have h1 := HO5.out.lt gb rfl; have := (HOW.out.lt gb rfl).1; have := HY.out.z; have := kD.size; omega
      have a3' : W6.cell? ⟨ab, 3, none⟩ = some (.int .i64 mask) := hpCell (hpKeeps (hpKeep HPA.out hB5) h56 habn) 3
      rw [hW6]
      clear hW6 h56 hxv hcl hfz a2' HO5
      obtain ⟨q, hq⟩ : ∃ q, p + 1 = q := ⟨_, rfl⟩
      have t1 : IntKind.i64.wrap ((p : Int) + 1) = (q : Int) := (IntWalk.i64_in _ (by omega)).trans (by omega)
      by_cases hqn : q < rn
      · have t2 : (q : Int) < (rn : Int) := by omega
        have t3 : (0 : Int) ≤ (q : Int) := by omega
        have hcl := ownb_cellZ HO6.out q hqn
        have hfz := HO6.out.frozenAt q
        have HQ := hid hq
        have HQN := hid hqn
        clear hq hqn
        go_upto_region 14 with (fail)
        go_region
        have hxv : (Value.int .u8 (bits .xor .u8 ((((xorB1 R p n1)[q]?.getD 0).toNat : Nat) : Int) (n2 : Int))) = byteV (((xorB1 R p n1).getD q 0) ^^^ UInt8.ofNat n2) := xor_by ((xorB1 R p n1).getD q 0) n2 n2l
        obtain ⟨W7, hW7⟩ : ∃ W, (W6.setCell ⟨gb, q, none⟩ (.int .u8 (bits .xor .u8 ((((xorB1 R p n1)[q]?.getD 0).toNat : Nat) : Int) (n2 : Int)))).drew = W := ⟨_, rfl⟩
        have h67 : Keeps (· = gb) W6 W7 := by rw [← hW7]; exact (ks1 (p := gb) (Keeps.refl _ W6) q _).trans (Keeps.of_below (F := fun _ => False) (Below.refl _ _).drew) (fun _ _ e => e.elim)
        have HO7 : Hid (W7.ownsRow w.heap.size 5 1 (.slice (some ⟨gb, 0, none⟩) rn rc) rn (u8s (xorB1 (xorB1 R p n1) q n2))) := by
          have h := (HO6.out.stored q (byteV (((xorB1 R p n1).getD q 0) ^^^ UInt8.ofNat n2))).1
          rw [u8s_setZ] at h
          show World.ownsRow _ _ _ _ _ _ _
          rw [← hW7, hxv]
          exact own_keeps (F := fun _ => False) h (Keeps.of_below (Below.refl _ _).drew) (fun _ _ e => e)
        have HB7 : Hid (Below w.heap.size w W7) := HB6.out.trans (h67.below HB6.out.size (fun j hj e => by have := (HO6.out.lt gb rfl).1; omega))
        rw [hW7]
        clear hW7 h67 hxv
        go_wp2
        go_ret
        have hd : xorB1 (xorB1 R p n1) q n2 = D := by
          obtain ⟨e1, e2, e3⟩ := HPN.out
          rw [← HD.out]
          unfold damL
          dsimp only
          rw [HRN.out, e1, if_pos (by rw [HQ.out]; exact HQN.out), e2, e3, HQ.out]
        have hl2 : D.length = rn := by rw [← hd, xorB1_len, xorB1_len, HRN.out]
        exact ⟨some ⟨gb, 0, none⟩, rc, (by rw [hl2] <;> rfl), (by rw [hl2, ← hd]; exact HO7.out), HB7.out⟩
      · have t2 : ¬ (q : Int) < (rn : Int) := by omega
        have HQ := hid hq
        have HQN := hid hqn
        clear hq hqn
        go_wp2
        go_ret
        have hd : xorB1 R p n1 = D := by
          obtain ⟨e1, e2, e3⟩ := HPN.out
          rw [← HD.out]
          unfold damL
          dsimp only
          rw [HRN.out, e1, if_neg (by rw [HQ.out]; exact HQN.out), e2]
        have hl2 : D.length = rn := by rw [← hd, xorB1_len, HRN.out]
        exact ⟨some ⟨gb, 0, none⟩, rc, (by rw [hl2] <;> rfl), (by rw [hl2, ← hd]; exact HO6.out), HB6.out⟩
theorem reply_any (g : Nat) (la : Option Addr) (lc ln : Nat) (l : List Sl) (hl : l.length = ln) (hB : BusP l) (bd pa : Int) (f1 : wfI bd) (f2 : wfI pa) (fa : Option Addr) (fn fc : Nat) (f : List UInt8) (a : At) (ha : a.ok) (w : World) (hc0 : w.cell? ⟨g, 0, none⟩ = some (.slice la ln lc)) (hL : Slvs w (.slice la ln lc) l) (hf : Bs w (.slice fa fn fc) f) :
    Calls Tryz.prog 63 #[.pointer (some ⟨g, 0, none⟩), .agg #[.int .i64 bd, .int .i64 pa], .slice fa fn fc, .agg a.C] w (RvPost w (rcvF l a bd pa f)) := by
  obtain ⟨b1, b2, b3, b4, b5, b6⟩ := At.ok_bd ha
  obtain ⟨lat, fault, pos, mask, ticks, value⟩ := a
  rw [At.ok_mk] at ha
  dsimp only at b1 b2 b3 b4 b5 b6
  by_cases h12 : fault = 1 ∨ fault = 2
  · have e : rcvF l ⟨lat, fault, pos, mask, ticks, value⟩ bd pa f = [] := by unfold rcvF; rw [if_pos h12]
    rw [e]
    exact reply_lost g la lc ln bd pa fa fn fc lat fault pos mask ticks value h12 w hc0
  · by_cases h5 : fault = 5
    · have e : rcvF l ⟨lat, fault, pos, mask, ticks, value⟩ bd pa f = (busBusy l bd pa f).getD [] := by unfold rcvF; rw [if_neg h12, if_pos h5]
      rw [e]
      exact reply_busy g la lc ln l hl hB bd pa f1 f2 fa fn fc f lat fault pos mask ticks value h5 w hc0 hL hf
    · by_cases h3 : fault = 3
      · exact reply_dam g la lc ln l hl hB bd pa f1 f2 fa fn fc f lat fault pos mask ticks value h3 (by omega) (by omega) (by omega) b3 b4 w hc0 hL hf
      · have e : rcvF l ⟨lat, fault, pos, mask, ticks, value⟩ bd pa f = (busAns l bd pa f value).getD [] := by unfold rcvF; rw [if_neg h12, if_neg h5, if_neg (fun h => h3 h.1)]
        rw [e]
        exact reply_plain g la lc ln l hl hB bd pa f1 f2 fa fn fc f lat fault pos mask ticks value (fun h => h12 (.inl h)) (fun h => h12 (.inr h)) h5 h3 b3 b4 w hc0 hL hf
end Go.Proofs.YtpkheiaanjhffaaGreat
