/-
  Texts 49 of the claim.
-/
import Derived.Test.YtpkheiaanjhffaaGreatS48
namespace Go.Proofs.YtpkheiaanjhffaaGreat
open Go.RowKit
set_option maxRecDepth 100000 in
set_option maxHeartbeats 800000 in
theorem pframe_ok (b p : Int) (h : Hid (Okset b p)) (n : Nat) (hn : n ≤ 256) (w : World) :
    Calls Tryz.prog 60 #[.agg #[.int .i64 b, .int .i64 p], .int .i64 (n : Int)] w fun r w' => r = .returned (.int .i64 (frameT b n)) ∧ Below w.heap.size w w' := by
  obtain ⟨t1, t2, _, _, t5, t6⟩ := time_bd h.out
  obtain ⟨C, hC⟩ : ∃ C, charT b = C := ⟨_, rfl⟩
  have HCH : Hid (∀ W, Calls Tryz.prog 84 #[.agg #[.int .i64 b, .int .i64 p]] W fun r w' => r = .returned (.int .i64 C) ∧ Below W.heap.size W w') := fun W => by rw [← hC]; exact char_ok b p h W
  have HF : Hid (frameT b n = (n : Int) * C) := by show _ = _; unfold frameT; rw [hC]
  rw [hC] at t1 t2
  have hm : (0 : Int) ≤ (n : Int) * C := Int.mul_nonneg (by omega) (by omega)
  have hm2 : (n : Int) * C ≤ 256 * 9167 := Int.mul_le_mul (by omega) t2 (by omega) (by decide)
  have s1 : IntKind.i64.wrap ((n : Int) * C) = (n : Int) * C := IntWalk.i64_in _ (by omega)
  clear hC
  go_enter Tryz.func60, Tryz.ntmps60
  go_wp2_with (go_at_call 84; (with_reducible refine (HCH.out _).mono ?_); rintro r w1 ⟨rfl, hb1⟩)
  go_ret
  exact ⟨by rw [HF.out]; rfl, bt (bal' w _) hb1 (Nat.le_refl _)⟩
structure LnG (P : Nat → Prop) (w : World) (la : Option Addr) (ln lc : Nat) (aa : Option Addr) (an ac : Nat) (l : List Sl) (ats : List At) (lp : Bool) : Prop where
  rd : ∀ X, Keeps P w X → Slvs X (.slice la ln lc) l ∧ Ats X (.slice aa an ac) ats
  ln_ : l.length = ln
  an_ : ats.length = an
  bus : BusP l
  ok : ∀ x ∈ ats, x.ok
  lp_ : lp = true → 0 < an
theorem LnG.next {P Q : Nat → Prop} {w w' : World} {la : Option Addr} {ln lc : Nat} {aa : Option Addr} {an ac : Nat} {l : List Sl} {ats : List At} {lp : Bool} (h : LnG P w la ln lc aa an ac l ats lp) (hk : Keeps P w w') (hq : ∀ j, j < w.heap.size → Q j → P j) : LnG Q w' la ln lc aa an ac l ats lp :=
  ⟨fun X hX => h.rd X (hk.trans hX hq), h.ln_, h.an_, h.bus, h.ok, h.lp_⟩
def SdPost (P : Nat → Prop) (w : World) (g : Nat) (sv av : Value) (lp : Bool) (s : Ln) (e : Int) (r : Ending) (w' : World) : Prop := r = .returned (.tuple #[.int .i64 e, .int .i64 0]) ∧ LnAt (GrowP P w w') w' g sv av lp s ∧ Keeps P w w'
end Go.Proofs.YtpkheiaanjhffaaGreat
