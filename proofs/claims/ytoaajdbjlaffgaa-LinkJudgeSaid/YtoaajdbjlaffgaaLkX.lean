/-
  The walk of modscanlaw19.Awake.
-/
import Derived.Test.YtoaajdbjlaffgaaLkW
import Derived.Deep.RegionHeldLaw
namespace Go.Proofs.Ytoaajdbjlaffgaa
open Go.RowKit

set_option maxRecDepth 100000 in
set_option maxHeartbeats 12800000 in
theorem lkawake_any (w : World) : Calls Try.prog 9 #[] w fun r w' => r = .returned (.bool true) ∧ Below w.heap.size w w' := by
  have hset : Hid (Okset 9600 0) := ⟨by decide, by decide, by decide⟩
  have HN := hid (lknew_ok 9600 0 1 1000 0 hset (by decide) (by decide) (by decide) (by decide) (by decide) (by decide) w)
  have hdr : 0 ≤ drainT 9600 1000 0 ∧ drainT 9600 1000 0 ≤ 10000000 := by
    obtain ⟨t1, t2, _, _, t5, t6⟩ := time_bd hset.out
    unfold drainT
    omega
  have HDR := hid hdr
  have ss : Hid (∀ (W : World) (v : Value) (l : List UInt8), Bs W v l → (convert 24 9 v).run Try.prog W = .ok (.string ⟨l.toArray⟩) W) := fun W v l h => run_str Try.underlying24 Try.underlying5 h _ Try.underlying9
  clear hdr
  go_enter Try.func9, Try.ntmps9
  go_wp2_with fail
  refine HN.out.mono ?_
  rintro r w1 ⟨g, rfl, hg, hl1, hb1⟩
  have HL1 := hid hl1
  have HBG := hid (lkbegin_ok g _ 5 17 0 0 0 0 0 w1 hl1 (.inl rfl) (by decide) (by decide) (by decide) (by decide) (by decide))
  clear hl1
  go_wp2_with fail
  refine HBG.out.mono ?_
  rintro r w2 ⟨fa, fc, rfl, hl2, hfr2, hfa2, hk2⟩
  have HA2 : Hid (AwR w g 0 [] ((Lk.new 9600 0 1 1000 0).begun 5 ⟨17, 0, 0, 0, 0⟩ 0 fa 4 fc) w2) := by
    refine ⟨⟨hl2, ⟨World.ownsRow_nil _ _ _ _, rfl⟩, hfr2, fun ad had => ?_, hb1.trans (hk2.below hb1.size (fun k hk e => by omega)), hg, hset.out, by show (0 : Int) ≤ 1000; decide, by show (1000 : Int) ≤ _; decide, HDR.out.1, by have := HDR.out.2; show drainT 9600 1000 0 ≤ _; omega, by show (0 : Int) ≤ 0; decide, by show (0 : Int) ≤ _; decide, by decide⟩, rfl, rfl, rfl, rfl, HDR.out.2, by show (0 : Int) ≤ 0; decide, by show (0 : Int) ≤ _; decide, fun _ => rfl, fun h => by cases h⟩
    have h1 := hfa2 ad had
    have h2 := HL1.out.lt
    have had' : fa = some ad := had
    subst had'
    obtain ⟨b', o', hab, hcell⟩ := hfr2.byte (i := 0) (by decide)
    cases hab
    exact ⟨cell_lt hcell, by show b' ≠ g; have h1' : w1.heap.size ≤ b' := h1; omega, by intro h; cases h⟩
  clear hl2 hfr2 hfa2 hk2 hb1 hg HL1 HDR
  go_wp2
  go_loopw [3] (fun i wr => ∃ (k : Nat) (l : List Int) (s : Lk), k ≤ 2 ∧ i = .int .i64 k ∧ Hid (AwR w g k l s wr)) (fun i _ => 2 - (intOf i).toNat)
  case atStart => exact ⟨0, _, _, by omega, rfl, HA2⟩
  case round =>
    obtain ⟨k, l, s, hk, rfl, hA⟩ := hrel
    by_cases hlt : k < 2
    · have hkl : (k : Int) < 2 := by omega
      obtain ⟨hB, hlk, r1, r2, r3, r4, r5, r6, r7, _⟩ := hA.out
      have HAC := hid (action_send g s awF wr hB.at_ (r7 hlt) hB.fr (by rw [awF_len]; decide))
      have HSP : Hid (∀ k, (Value.slice s.sa s.sn s.sc).ownBlock = some k → k < wr.heap.size) := fun k h => (hB.seen.own.lt k h).2
      have hgl := hB.at_.lt
      have HB := hid hB
      have HLK := hid hlk
      have HR := hid (show s.cnt = k ∧ s.re = 1 ∧ s.ti = 1000 ∧ s.dr ≤ 10000000 ∧ 0 ≤ s.now ∧ s.now ≤ 100000000 * (k : Int) from ⟨r1, r2, r3, r4, r5, r6⟩)
      have HP1 := hid (r7 hlt)
      have hn2 : s.now ≤ 100000000 := by omega
      clear hB hlk r1 r2 r3 r4 r6 r7
      go_wp2_with fail
      refine HAC.out.mono ?_
      rintro r w3 ⟨a, c, rfl, hab, hb3⟩
      rw [awF_len] at hab ⊢
      obtain ⟨hla, hac, hcm⟩ := hab.capOf
      obtain ⟨bb, bo, rfl, _⟩ := hab.byte (i := 0) (by omega)
      unfold maxLen at hcm
      obtain ⟨W4, hW4⟩ : ∃ W, w3.alloc (.cells #[.int .i64 1, .int .i64 s.now, .slice (some ⟨bb, bo, none⟩) 4 c] 54) = W := ⟨_, rfl⟩
      have p4 : W4.heap[w3.heap.size]? = some (.cells #[.int .i64 1, .int .i64 s.now, .slice (some ⟨bb, bo, none⟩) 4 c] 54) := by rw [← hW4]; exact hpNew w3 _
      have hb4 : Below w3.heap.size w3 W4 := by rw [← hW4]; exact bal' w3 _
      have hbe : Below w3.heap.size w3 (W4.alloc (.cells #[.int .u8 5, .int .u8 17] 5)).drew := (bta hb4 (Nat.le_refl _) _).drew
      have HE := hid ((HB.out.below hb3).below hbe)
      have PE : Hid ((W4.alloc (.cells #[.int .u8 5, .int .u8 17] 5)).drew.heap[w3.heap.size]? = some (.cells #[.int .i64 1, .int .i64 s.now, .slice (some ⟨bb, bo, none⟩) 4 c] 54)) := hpKeep p4 (bal' W4 _).drew
      have HBF : Hid (∀ W, Below w3.heap.size w3 W → Bs W (.slice (some ⟨bb, bo, none⟩) 2 c) [5, 17]) := fun W hW => (hab.keep hW).takeS (k := 2) (by omega)
      have kD4 : Below w3.heap.size w3 W4.drew := hb4.drew
      have v1 := ss.out W4.drew _ _ (HBF.out _ kD4)
      have v2 := ss.out _ _ _ (HBF.out _ hbe)
      have hlit : Bs (W4.alloc (.cells #[.int .u8 5, .int .u8 17] 5)).drew (.slice (some ⟨W4.heap.size, 0, none⟩) 2 2) [5, 17] := (Bs.newLit W4 [5, 17] _ _ rfl (by decide)).keep (Below.refl _ _).drew
      have v3 := ss.out _ _ _ hlit
      have hpg : w3.heap.size ≠ g := by have := hb3.size; omega
      have HPG := hid hpg
      have hsp : (Value.slice s.sa s.sn s.sc).ownBlock ≠ some w3.heap.size := fun h => by
        have h1 := HSP.out _ h
        have h2 := hb3.size
        omega
      have HSPN := hid hsp
      have HS1 := hid (step_sent HE.out HP1.out HR.out.2.2.2.2.1 (by omega) (by have := HR.out.1; omega) PE.out hpg)
      have HS2 : Hid (∀ W l' s', AwB w g l' awF s' W → (l' = l ∧ ∃ rx, s' = s.sent (s.now + 100) rx) → W.heap[w3.heap.size]? = some (.cells #[.int .i64 1, .int .i64 s.now, .slice (some ⟨bb, bo, none⟩) 4 c] 54) → Calls Try.prog 26 #[.pointer (some ⟨g, 0, none⟩)] W (Step0 w g awF w3.heap.size (.cells #[.int .i64 1, .int .i64 s.now, .slice (some ⟨bb, bo, none⟩) 4 c] 54) fun l'' s'' => l'' = List.replicate (k + 1) 3 ∧ ∃ rx sa sc, s'' = (s.sent (s.now + 100) rx).drains sa sc)) := by
        rintro W l' s' h ⟨rfl, rx, rfl⟩ hp
        refine (step_wait h rfl (by show 0 ≤ s.now + 100; have := HR.out.2.2.2.2.1; omega) (by show s.now + 100 ≤ _; omega) (by rw [HLK.out, List.length_replicate]; omega) hp HPG.out HSPN.out).mono ?_
        rintro r w' ⟨rfl, l'', s'', hB', ⟨rfl, sa, sc, rfl⟩, hq⟩
        exact ⟨rfl, _, _, hB', ⟨by rw [HLK.out]; exact replicate_snoc3 k, rx, sa, sc, rfl⟩, hq⟩
      have HS3 : Hid (∀ W l' s', AwB w g l' awF s' W → (l' = List.replicate (k + 1) 3 ∧ ∃ rx sa sc, s' = (s.sent (s.now + 100) rx).drains sa sc) → W.heap[w3.heap.size]? = some (.cells #[.int .i64 1, .int .i64 s.now, .slice (some ⟨bb, bo, none⟩) 4 c] 54) → Calls Try.prog 26 #[.pointer (some ⟨g, 0, none⟩)] W (Step0 w g awF w3.heap.size (.cells #[.int .i64 1, .int .i64 s.now, .slice (some ⟨bb, bo, none⟩) 4 c] 54) (AwFin (k + 1)))) := by
        rintro W l' s' h ⟨hl', rx, sa, sc, he⟩ hp
        exact aw_last h hlt hl' he HR.out hp HPG.out
      have kS : PaS w3.heap.size (.cells #[.int .i64 1, .int .i64 s.now, .slice (some ⟨bb, bo, none⟩) 4 c] 54) W4.drew := p4
      have kE : PaS w3.heap.size (.cells #[.int .i64 1, .int .i64 s.now, .slice (some ⟨bb, bo, none⟩) 4 c] 54) (W4.alloc (.cells #[.int .u8 5, .int .u8 17] 5)).drew := PE.out
      have z0 : ∀ W, PaS w3.heap.size (.cells #[.int .i64 1, .int .i64 s.now, .slice (some ⟨bb, bo, none⟩) 4 c] 54) W → W.cell? ⟨w3.heap.size, 0, none⟩ = some (.int .i64 1) := fun W h => hpCell (id h : W.heap[w3.heap.size]? = _) 0
      have z1 : ∀ W, PaS w3.heap.size (.cells #[.int .i64 1, .int .i64 s.now, .slice (some ⟨bb, bo, none⟩) 4 c] 54) W → W.cell? ⟨w3.heap.size, 1, none⟩ = some (.int .i64 s.now) := fun W h => hpCell (id h : W.heap[w3.heap.size]? = _) 1
      have z2 : ∀ W, PaS w3.heap.size (.cells #[.int .i64 1, .int .i64 s.now, .slice (some ⟨bb, bo, none⟩) 4 c] 54) W → W.cell? ⟨w3.heap.size, 2, none⟩ = some (.slice (some ⟨bb, bo, none⟩) 4 c) := fun W h => hpCell (id h : W.heap[w3.heap.size]? = _) 2
      have u1 : IntKind.i64.wrap (s.now + 100) = s.now + 100 := IntWalk.i64_in _ (by omega)
      have hc2 : 2 ≤ c := by omega
      have hc2' : (2 : Int) ≤ (c : Int) := by omega
      have HW4 := hid hW4
      clear hab hla hac p4 hb4 hbe hlit hpg hsp hW4 hn2 kD4
      go_upto_region 8 with (fail)
      rw [HW4.out]
      go_region_held_law (fun W => PaS w3.heap.size (.cells #[.int .i64 1, .int .i64 s.now, .slice (some ⟨bb, bo, none⟩) 4 c] 54) W) ((with_reducible (first | exact kS | exact kE | assumption))) (first
        | (go_at_call 22; (with_reducible refine HS1.out.mono ?_); rintro r w5 ⟨rfl, l5, s5, hB5, hq5, hP5⟩; have hS5 : PaS w3.heap.size (.cells #[.int .i64 1, .int .i64 s.now, .slice (some ⟨bb, bo, none⟩) 4 c] 54) w5 := hP5)
        | (go_at_call 26; (with_reducible refine (HS3.out _ _ _ hB6 hq6 hP6).mono ?_); rintro r w7 ⟨rfl, l7, s7, hB7, hq7, hP7⟩; have hS7 : PaS w3.heap.size (.cells #[.int .i64 1, .int .i64 s.now, .slice (some ⟨bb, bo, none⟩) 4 c] 54) w7 := hP7)
        | (go_at_call 26; (with_reducible refine (HS2.out _ _ _ hB5 hq5 hP5).mono ?_); rintro r w6 ⟨rfl, l6, s6, hB6, hq6, hP6⟩; have hS6 : PaS w3.heap.size (.cells #[.int .i64 1, .int .i64 s.now, .slice (some ⟨bb, bo, none⟩) 4 c] 54) w6 := hP6))
      all_goals
        obtain ⟨f1, f2, f3, f4, f5, f6, f7, f8, f9⟩ := hq7
        have HQ7 : Hid (AwR w g (k + 1) l7 s7 w7) := ⟨hB7, f1, f2, f3, f4, f5, f6, f7, f8, f9⟩
        clear f1 f2 f3 f4 f5 f6 f7 f8 f9 hB7 hB6 hB5 hP5 hP6 hP7 hS5 hS6 hS7 hq5 hq6 v1 v2 v3 z0 z1 z2 kS kE u1
        go_wp2
        go_roundw
        case rel => exact ⟨k + 1, l7, s7, by omega, by go_num, HQ7⟩
        case measure => simp [intOf]; omega
    · obtain rfl : k = 2 := by omega
      obtain ⟨hB, _, r1, _, _, _, _, _, _, r8⟩ := hA.out
      obtain ⟨s0, rfl⟩ := r8 rfl
      have HB := hid hB
      have R1 := hid r1
      have HO := hid (outcome_bare g s0 3 wr hB.at_)
      clear hB r1 r8
      go_wp2_with fail
      refine HO.out.mono ?_
      rintro r w3 ⟨rfl, hb3⟩
      have HAT : Hid (∀ X, Calls Try.prog 29 #[.pointer (some ⟨g, 0, none⟩)] (w3.alloc X) fun r w' => r = .returned (.int .i64 2) ∧ w3.alloc X = w') := fun X => by
        have h := attempts_any g (s0.silent 3) (w3.alloc X) ((HB.out.at_.keep hb3).keep (bal' _ _))
        rw [R1.out] at h
        exact h
      go_wp2_with (go_at_call 29; (with_reducible refine (HAT.out _).mono ?_); rintro r w4 ⟨rfl, rfl⟩)
      go_ret
      exact ⟨rfl, bta (bt HB.out.bel hb3 (Nat.le_refl _)) (Nat.le_refl _) _⟩

end Go.Proofs.Ytoaajdbjlaffgaa
