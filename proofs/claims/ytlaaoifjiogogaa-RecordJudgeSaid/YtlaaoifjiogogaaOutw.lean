/-
  The contract of the reader's method outcome.
-/
import Derived.Test.YtlaaoifjiogogaaOutc
import Derived.Test.YtlaaoifjiogogaaDecR
namespace Go.Proofs.Ytlaaoifjiogogaa
open Go.RowKit

set_option maxRecDepth 100000 in
set_option maxHeartbeats 12800000 in
theorem outcome_any {w0 w : World} {p : Nat} {a : Option Addr} {c : Nat} {rest : List UInt8} (h : RS w0 w p a c rest false)
    (HDEC : Hid (∀ (a : Option Addr) (n c : Nat) (b : List UInt8) (w : World), Bs w (.slice a n c) b → Calls Try.prog 92 #[.slice a n c] w (DecPost w (Rp.dec b)))) :
    Calls Try.prog 52 #[.pointer (some ⟨p, 0, none⟩)] w (OutPost w0 w p rest) := by
  have hp := hpLt h.blk
  have hpz : ¬ w.heap.size = p := by omega
  have hpz' : ¬ p = w.heap.size := by omega
  have HNU := hid (number_all (h.keeps (bal'' w (.cells #[.int .i64 0, .int .i64 0, .int .i64 0, .slice none 0 0, .int .i64 0, .int .i64 0, .bool false, .int .i64 0, .slice none 0 0] 27))))
  clear h
  go_enter Try.func52, Try.ntmps52
  go_wp2_with fail
  refine HNU.out.mono ?_
  rintro r w1 ⟨v, a1, c1, t1, b1, rfl, hv, hs1, hk1, hor1⟩
  have gZ1 : w1.heap[w.heap.size]? = some (.cells #[.int .i64 0, .int .i64 0, .int .i64 0, .slice none 0 0, .int .i64 0, .int .i64 0, .bool false, .int .i64 0, .slice none 0 0] 27) := hpKeeps (hpNew w _) hk1 hpz
  have hlt1 := hpLt gZ1
  have hlp1 := hpLt hs1.blk
  have hkw1 : Keeps (· = p) w w1 := (Keeps.of_below (bal'' w _)).trans hk1 (fun _ _ h => h)
  have H1 := hid hor1
  have HS1 := hid hs1
  clear hor1 hs1 hk1
  go_upto_block 0 with (fail)
  go_cut [] from 4 to 61 (fun wc => OutRel w0 w p rest w1.heap.size wc)
  case first =>
    have hlB : ¬ w1.heap.size = p := by omega
    have hlB' : ¬ p = w1.heap.size := by omega
    by_cases hv2 : v = 2
    · subst hv2
      obtain ⟨hl0, rfl, ht1, hg0⟩ : 1 ≤ rest.length ∧ b1 = false ∧ t1 = rest.drop 1 ∧ (rest.getD 0 0).toNat = 2 := by
        rcases H1.out with ⟨_, h1, h2, h3, h4⟩ | ⟨_, _, h4⟩
        · exact ⟨h1, h2, h3, h4.symm⟩
        · cases h4
      have HC := hid ht1
      have HG := hid hg0
      have HL := hid hl0
      have HN2 := hid (number_all (HS1.out.keeps (bal'' w1 (.cells #[.int .i64 2, .int .i64 0, .int .i64 0, .slice none 0 0, .int .i64 0, .int .i64 0, .bool false, .int .i64 0, .slice none 0 0] 27))))
      clear ht1 hg0 hl0 H1
      go_wp2_with fail
      refine HN2.out.mono ?_
      rintro r w2 ⟨z2, a2, c2, t2, b2, rfl, hz2, hs2, hk2, hor2⟩
      have gB2 : w2.heap[w1.heap.size]? = some (.cells #[.int .i64 2, .int .i64 0, .int .i64 0, .slice none 0 0, .int .i64 0, .int .i64 0, .bool false, .int .i64 0, .slice none 0 0] 27) := hpKeeps (hpNew w1 _) hk2 hlB
      have gZ2 : w2.heap[w.heap.size]? = some (.cells #[.int .i64 0, .int .i64 0, .int .i64 0, .slice none 0 0, .int .i64 0, .int .i64 0, .bool false, .int .i64 0, .slice none 0 0] 27) := hpKeeps (hpKeep gZ1 (bal'' w1 _)) hk2 hpz
      have hkw2 : Keeps (· = p) w w2 := (hkw1.trans (Keeps.of_below (F := (· = p)) (bal'' w1 _)) (fun _ _ h => h)).trans hk2 (fun _ _ h => h)
      have H2 := hid hor2
      have HN3 := hid (number_all hs2)
      clear hor2 hs2 hk2 HN2
      go_wp2_with fail
      refine HN3.out.mono ?_
      rintro r w3 ⟨z3, a3, c3, t3, b3, rfl, hz3, hs3, hk3, hor3⟩
      have gB3 : w3.heap[w1.heap.size]? = some (.cells #[.int .i64 2, .int .i64 0, .int .i64 0, .slice none 0 0, .int .i64 0, .int .i64 0, .bool false, .int .i64 0, .slice none 0 0] 27) := hpKeeps gB2 hk3 hlB
      have gZ3 : w3.heap[w.heap.size]? = some (.cells #[.int .i64 0, .int .i64 0, .int .i64 0, .slice none 0 0, .int .i64 0, .int .i64 0, .bool false, .int .i64 0, .slice none 0 0] 27) := hpKeeps gZ2 hk3 hpz
      have hkw3 : Keeps (· = p) w w3 := hkw2.trans hk3 (fun _ _ h => h)
      have q1 : w3.cell? ⟨w1.heap.size, 1, none⟩ = some (.int .i64 0) := hpCell gB3 1
      have y1 : w3.frozen? ⟨w1.heap.size, 1, none⟩ = false := hpFree gB3 1
      have q2 : w3.cell? ⟨w1.heap.size, 2, none⟩ = some (.int .i64 0) := hpCell gB3 2
      have y2 : w3.frozen? ⟨w1.heap.size, 2, none⟩ = false := hpFree gB3 2
      have hlow := hs3.low
      have HREL : Hid (OutRel w0 w p rest w1.heap.size ((w3.setCell ⟨w1.heap.size, 1, none⟩ (.int .i64 z2)).setCell ⟨w1.heap.size, 2, none⟩ (.int .i64 z3))) := by
        refine ⟨⟨2, Rp.shortOf z2 z3⟩, none, none, 0, 0, a3, c3, t3, b3, ?_, ?_, hlt1, hs3.of (by rw [hpOther hlB', hpOther hlB']) ((hs3.bel.setCell (by show w0.heap.size ≤ w1.heap.size; omega) _).setCell (by show w0.heap.size ≤ w1.heap.size; omega) _), ?_, fun W _ => OcIs.short 2 z2 z3, ?_⟩
        · rw [hpSet (hpSet gB3 1 _) 2 _]; rfl
        · rw [hpOther (by omega), hpOther (by omega)]; exact gZ3
        · exact (hkw3.trans ((Keeps.refl (· = w1.heap.size) w3).set _ _ rfl) (fun i hi e => by omega)).trans ((Keeps.refl (· = w1.heap.size) _).set _ _ rfl) (fun i hi e => by omega)
        · rcases chain2 (by simp) HL.out HC.out HG.out H2.out hor3 with h | ⟨h1, h2⟩
          · exact .inl h
          · exact .inr ⟨h1, h2⟩
      clear gB3 gZ3 gB2 gZ2 hs3 hk3 hor3 hkw3 hkw2
      go_wp2
      go_meet
      case rel => exact HREL.out
    · by_cases hv1 : v = 1
      · subst hv1
        obtain ⟨hl0, rfl, ht1, hg0⟩ : 1 ≤ rest.length ∧ b1 = false ∧ t1 = rest.drop 1 ∧ (rest.getD 0 0).toNat = 1 := by
          rcases H1.out with ⟨_, h1, h2, h3, h4⟩ | ⟨_, _, h4⟩
          · exact ⟨h1, h2, h3, h4.symm⟩
          · cases h4
        have HC := hid ht1
        have HG := hid hg0
        have HL := hid hl0
        have HN2 := hid (number_all (HS1.out.keeps (bal'' w1 (.cells #[.int .i64 1, .int .i64 0, .int .i64 0, .slice none 0 0, .int .i64 0, .int .i64 0, .bool false, .int .i64 0, .slice none 0 0] 27))))
        clear ht1 hg0 hl0 H1 hv2
        go_wp2_with fail
        refine HN2.out.mono ?_
        rintro r w2 ⟨z2, a2, c2, t2, b2, rfl, hz2, hs2, hk2, hor2⟩
        have gB2 : w2.heap[w1.heap.size]? = some (.cells #[.int .i64 1, .int .i64 0, .int .i64 0, .slice none 0 0, .int .i64 0, .int .i64 0, .bool false, .int .i64 0, .slice none 0 0] 27) := hpKeeps (hpNew w1 _) hk2 hlB
        have gZ2 : w2.heap[w.heap.size]? = some (.cells #[.int .i64 0, .int .i64 0, .int .i64 0, .slice none 0 0, .int .i64 0, .int .i64 0, .bool false, .int .i64 0, .slice none 0 0] 27) := hpKeeps (hpKeep gZ1 (bal'' w1 _)) hk2 hpz
        have hkw2 : Keeps (· = p) w w2 := (hkw1.trans (Keeps.of_below (F := (· = p)) (bal'' w1 _)) (fun _ _ h => h)).trans hk2 (fun _ _ h => h)
        have q1 : w2.cell? ⟨w1.heap.size, 1, none⟩ = some (.int .i64 0) := hpCell gB2 1
        have y1 : w2.frozen? ⟨w1.heap.size, 1, none⟩ = false := hpFree gB2 1
        have hlow := hs2.low
        have gBX : (w2.setCell ⟨w1.heap.size, 1, none⟩ (.int .i64 z2)).heap[w1.heap.size]? = some (.cells #[.int .i64 1, .int .i64 z2, .int .i64 0, .slice none 0 0, .int .i64 0, .int .i64 0, .bool false, .int .i64 0, .slice none 0 0] 27) := by rw [hpSet gB2 1 _]; rfl
        have gZX : (w2.setCell ⟨w1.heap.size, 1, none⟩ (.int .i64 z2)).heap[w.heap.size]? = some (.cells #[.int .i64 0, .int .i64 0, .int .i64 0, .slice none 0 0, .int .i64 0, .int .i64 0, .bool false, .int .i64 0, .slice none 0 0] 27) := by rw [hpOther (by omega)]; exact gZ2
        have hsX : RS w0 (w2.setCell ⟨w1.heap.size, 1, none⟩ (.int .i64 z2)) p a2 c2 t2 b2 := hs2.of (by rw [hpOther hlB']) (hs2.bel.setCell (by show w0.heap.size ≤ w1.heap.size; omega) _)
        have hkX : Keeps (· = p) w (w2.setCell ⟨w1.heap.size, 1, none⟩ (.int .i64 z2)) := hkw2.trans ((Keeps.refl (· = w1.heap.size) w2).set _ _ rfl) (fun i hi e => by omega)
        have H2 := hid hor2
        obtain ⟨T, hT⟩ : ∃ T, tblB (z2 : Int) = T := ⟨_, rfl⟩
        have HT : Hid (∀ W, Calls Try.prog 41 #[.int .i64 z2] W fun r w' => r = .returned (.bool T) ∧ W = w') := fun W => by rw [← hT]; exact isTable_any _ W
        cases T with
        | true =>
          have HREL : Hid (OutRel w0 w p rest w1.heap.size (w2.setCell ⟨w1.heap.size, 1, none⟩ (.int .i64 z2))) := by
            obtain ⟨d1, d2, d3⟩ := chain1t HL.out HC.out HG.out H2.out hT
            exact ⟨⟨1, Rp.shortOf z2 0⟩, none, none, 0, 0, a2, c2, t2, b2, gBX, gZX, hlt1, hsX, hkX, fun W _ => OcIs.short 1 z2 0, .inr ⟨d1, .inl ⟨d2, d3⟩⟩⟩
          clear gB2 gZ2 gBX gZX hsX hkX hs2 hk2 hor2 hkw2 hT
          go_wp2_with (go_at_call 41; (with_reducible refine (HT.out _).mono ?_); rintro r w3 ⟨rfl, rfl⟩)
          go_meet
          case rel => exact HREL.out
        | false =>
          have HN3 := hid (number_all hsX)
          have HT2 := hid hT
          have HZX := hid gZX
          have HBX := hid gBX
          have HKX := hid hkX
          clear gB2 gZ2 gBX gZX hsX hkX hs2 hk2 hor2 hkw2 hT
          go_wp2_with fail
          refine (HT.out _).mono ?_
          rintro r w3 ⟨rfl, rfl⟩
          go_wp2_with fail
          refine HN3.out.mono ?_
          rintro r w3 ⟨z3, a3, c3, t3, b3, rfl, hz3, hs3, hk3, hor3⟩
          have H3 := hid hor3
          have HN4 := hid (take_all hs3 z3 hz3)
          have HK3 := hid hk3
          clear hs3 hk3 hor3
          go_wp2_with fail
          refine HN4.out.mono ?_
          rintro r w4 ⟨ya, yc, Y, a4, c4, t4, b4, rfl, hY, hs4, hk4, hor4⟩
          have gB4 : w4.heap[w1.heap.size]? = some (.cells #[.int .i64 1, .int .i64 z2, .int .i64 0, .slice none 0 0, .int .i64 0, .int .i64 0, .bool false, .int .i64 0, .slice none 0 0] 27) := hpKeeps (hpKeeps HBX.out HK3.out hlB) hk4 hlB
          have gZ4 : w4.heap[w.heap.size]? = some (.cells #[.int .i64 0, .int .i64 0, .int .i64 0, .slice none 0 0, .int .i64 0, .int .i64 0, .bool false, .int .i64 0, .slice none 0 0] 27) := hpKeeps (hpKeeps HZX.out HK3.out hpz) hk4 hpz
          have hkw4 : Keeps (· = p) w w4 := (HKX.out.trans HK3.out (fun _ _ h => h)).trans hk4 (fun _ _ h => h)
          have HCH := hid (chain1 (by simp) HL.out HC.out HG.out H2.out H3.out hor4 HT2.out)
          have HD := hid (HDEC.out ya z3 yc Y w4 hY)
          have hlt4 := hpLt gB4
          have hlp4 := hpLt hs4.blk
          have HB4 := hid gB4
          have HZ4 := hid gZ4
          have HS4 := hid hs4
          have HK4 := hid hkw4
          clear gB4 gZ4 hs4 hk4 hkw4 hor4 hY HN3 HN4 HBX HZX HKX HT
          go_wp2_with fail
          refine HD.out.mono ?_
          rintro r w5 hp5
          rcases hp5 with ⟨x, da, dc, oa, oc, ho, rfl, hx, hb5⟩ | ⟨e, he1, he2, ho, rfl, hb5⟩
          · have HS := hid ho
            have HX := hid hx
            have hb45 := hb5
            have gBW : ∀ W, Below w5.heap.size w5 W → W.heap[w1.heap.size]? = some (.cells #[.int .i64 1, .int .i64 z2, .int .i64 0, .slice none 0 0, .int .i64 0, .int .i64 0, .bool false, .int .i64 0, .slice none 0 0] 27) := fun W h => hpKeep (hpKeep HB4.out hb5) h
            have gZW : ∀ W, Below w5.heap.size w5 W → W.heap[w.heap.size]? = some (.cells #[.int .i64 0, .int .i64 0, .int .i64 0, .slice none 0 0, .int .i64 0, .int .i64 0, .bool false, .int .i64 0, .slice none 0 0] 27) := fun W h => hpKeep (hpKeep HZ4.out hb5) h
            have hs5 := HS4.out.keeps hb5
            have p1 : ∀ W, Below w5.heap.size w5 W → W.cell? ⟨p, 1, none⟩ = some (.bool b4) := fun W h => hpCell (hpKeep hs5.blk h) 1
            have y1' : ∀ W, Below w5.heap.size w5 W → W.frozen? ⟨p, 1, none⟩ = false := fun W h => hpFree (hpKeep hs5.blk h) 1
            have kA : ∀ X, Below w5.heap.size w5 (w5.alloc X) := fun X => bal'' w5 X
            have hlt5 := hb5.size
            obtain ⟨b5, hb5e⟩ : ∃ b5 : Bool, (b4 || (x.fn != (z2 : Int))) = b5 := ⟨_, rfl⟩
            have hw5p : ¬ w5.heap.size = p := by omega
            have gX6 : ∀ u, ((w5.alloc (.cells #[.int .i64 x.fn, .int .i64 x.exc, .slice da x.data.length dc, .int .i64 x.code, .int .i64 x.level, .bool x.more, .int .i64 x.next, .slice oa x.objs.length oc] 25)).setCell ⟨p, 1, none⟩ (.bool u)).heap[w5.heap.size]? = some (.cells #[.int .i64 x.fn, .int .i64 x.exc, .slice da x.data.length dc, .int .i64 x.code, .int .i64 x.level, .bool x.more, .int .i64 x.next, .slice oa x.objs.length oc] 25 (0, 0)) := fun u => by rw [hpOther hw5p]; exact hpNew w5 _
            have gB7 : ∀ u, ((w5.alloc (.cells #[.int .i64 x.fn, .int .i64 x.exc, .slice da x.data.length dc, .int .i64 x.code, .int .i64 x.level, .bool x.more, .int .i64 x.next, .slice oa x.objs.length oc] 25)).setCell ⟨p, 1, none⟩ (.bool u)).heap[w1.heap.size]? = some (.cells #[.int .i64 1, .int .i64 z2, .int .i64 0, .slice none 0 0, .int .i64 0, .int .i64 0, .bool false, .int .i64 0, .slice none 0 0] 27) := fun u => by rw [hpOther hlB]; exact gBW _ (kA _)
            have HREL : Hid (∀ w8, w8.heap[w1.heap.size]? = some (.cells #[.int .i64 1, .int .i64 x.fn, .int .i64 x.exc, .slice da x.data.length dc, .int .i64 x.code, .int .i64 x.level, .bool x.more, .int .i64 x.next, .slice oa x.objs.length oc] 27) → Keeps (· = w1.heap.size) ((w5.alloc (.cells #[.int .i64 x.fn, .int .i64 x.exc, .slice da x.data.length dc, .int .i64 x.code, .int .i64 x.level, .bool x.more, .int .i64 x.next, .slice oa x.objs.length oc] 25)).setCell ⟨p, 1, none⟩ (.bool b5)) w8 → OutRel w0 w p rest w1.heap.size w8) := by
              intro w8 g8 hk8
              have hs7 := (hs5.keeps (kA (.cells #[.int .i64 x.fn, .int .i64 x.exc, .slice da x.data.length dc, .int .i64 x.code, .int .i64 x.level, .bool x.more, .int .i64 x.next, .slice oa x.objs.length oc] 25))).setB b5
              have hlow := hs7.low
              refine ⟨⟨1, x⟩, da, oa, dc, oc, a4, c4, t4, b5, g8, ?_, hlt1, hs7.of (hk8.block p (hpLt hs7.blk) hlB') (hs7.bel.trans (hk8.below hs7.bel.size (fun k hk e => by omega))), ?_, fun W hW => ?_, ?_⟩
              · rw [hk8.block _ (by simp [World.setCell]; omega) (by omega), hpOther hpz]; exact gZW _ (kA _)
              · exact (((HK4.out.trans (Keeps.of_below (F := (· = p)) hb45) (fun _ _ h => h)).trans (Keeps.of_below (F := (· = p)) (kA _)) (fun _ _ h => h)).trans setK (fun _ _ h => h)).trans hk8 (fun i hi e => by omega)
              · have hA : Agree w4.heap.size w5 W := (((Agree.of_below (kA _)).trans (Agree.of_keeps (B := w4.heap.size) setK (fun k e => by omega))).trans (Agree.of_keeps hk8 (fun k e => by omega))).trans (hW.mono (by omega))
                have hx' := HX.out W hA
                exact ⟨hx'.d, hx'.o, hx'.hi, hx'.lo⟩
              · rcases HCH.out with ⟨h1, h2⟩ | ⟨h1, h2⟩
                · rw [h1] at hb5e
                  exact .inl ⟨hb5e.symm, h2⟩
                · rw [HS.out] at h2
                  replace h2 : ocP rest = if x.fn = (z2 : Int) ∧ x.exc = 0 then some (⟨1, x⟩, t4) else none := h2
                  rw [h1, Bool.false_or] at hb5e
                  obtain ⟨d1, _⟩ := dec_some HS.out
                  by_cases hfn : x.fn = (z2 : Int)
                  · have hb0 : b5 = false := by rw [← hb5e, bne_eq_false_iff_eq]; exact hfn
                    have hok : Oc.ok ⟨1, x⟩ = (x.exc == 0) := by
                      rw [Oc.ok_1 rfl]
                      show (x.exc == 0 && if tblB x.fn = true then x.short else x.ok) = _
                      rw [hfn, HT2.out, if_neg (by decide), d1, Bool.and_true]
                    by_cases hxx : x.exc = 0
                    · rw [if_pos ⟨hfn, hxx⟩] at h2
                      exact .inr ⟨hb0, .inl ⟨by rw [hok, hxx]; rfl, h2⟩⟩
                    · rw [if_neg (fun h => hxx h.2)] at h2
                      exact .inr ⟨hb0, .inr ⟨by rw [hok, beq_eq_false_iff_ne]; exact hxx, h2⟩⟩
                  · rw [if_neg (fun h => hfn h.1)] at h2
                    exact .inl ⟨by rw [← hb5e, bne_iff_ne]; exact hfn, h2⟩
            have gXb := gX6 b5
            have gBb := gB7 b5
            clear hb5 hx ho hs5 gBW gZW gX6 gB7
            obtain ⟨e0, e1, e2, e3, e4, e5, e6, e7⟩ : ((w5.alloc (.cells #[.int .i64 x.fn, .int .i64 x.exc, .slice da x.data.length dc, .int .i64 x.code, .int .i64 x.level, .bool x.more, .int .i64 x.next, .slice oa x.objs.length oc] 25)).setCell ⟨p, 1, none⟩ (.bool b5)).cell? ⟨w5.heap.size, 0, none⟩ = some (.int .i64 x.fn) ∧ ((w5.alloc (.cells #[.int .i64 x.fn, .int .i64 x.exc, .slice da x.data.length dc, .int .i64 x.code, .int .i64 x.level, .bool x.more, .int .i64 x.next, .slice oa x.objs.length oc] 25)).setCell ⟨p, 1, none⟩ (.bool b5)).cell? ⟨w5.heap.size, 1, none⟩ = some (.int .i64 x.exc) ∧ ((w5.alloc (.cells #[.int .i64 x.fn, .int .i64 x.exc, .slice da x.data.length dc, .int .i64 x.code, .int .i64 x.level, .bool x.more, .int .i64 x.next, .slice oa x.objs.length oc] 25)).setCell ⟨p, 1, none⟩ (.bool b5)).cell? ⟨w5.heap.size, 2, none⟩ = some (.slice da x.data.length dc) ∧ ((w5.alloc (.cells #[.int .i64 x.fn, .int .i64 x.exc, .slice da x.data.length dc, .int .i64 x.code, .int .i64 x.level, .bool x.more, .int .i64 x.next, .slice oa x.objs.length oc] 25)).setCell ⟨p, 1, none⟩ (.bool b5)).cell? ⟨w5.heap.size, 3, none⟩ = some (.int .i64 x.code) ∧ ((w5.alloc (.cells #[.int .i64 x.fn, .int .i64 x.exc, .slice da x.data.length dc, .int .i64 x.code, .int .i64 x.level, .bool x.more, .int .i64 x.next, .slice oa x.objs.length oc] 25)).setCell ⟨p, 1, none⟩ (.bool b5)).cell? ⟨w5.heap.size, 4, none⟩ = some (.int .i64 x.level) ∧ ((w5.alloc (.cells #[.int .i64 x.fn, .int .i64 x.exc, .slice da x.data.length dc, .int .i64 x.code, .int .i64 x.level, .bool x.more, .int .i64 x.next, .slice oa x.objs.length oc] 25)).setCell ⟨p, 1, none⟩ (.bool b5)).cell? ⟨w5.heap.size, 5, none⟩ = some (.bool x.more) ∧ ((w5.alloc (.cells #[.int .i64 x.fn, .int .i64 x.exc, .slice da x.data.length dc, .int .i64 x.code, .int .i64 x.level, .bool x.more, .int .i64 x.next, .slice oa x.objs.length oc] 25)).setCell ⟨p, 1, none⟩ (.bool b5)).cell? ⟨w5.heap.size, 6, none⟩ = some (.int .i64 x.next) ∧ ((w5.alloc (.cells #[.int .i64 x.fn, .int .i64 x.exc, .slice da x.data.length dc, .int .i64 x.code, .int .i64 x.level, .bool x.more, .int .i64 x.next, .slice oa x.objs.length oc] 25)).setCell ⟨p, 1, none⟩ (.bool b5)).cell? ⟨w5.heap.size, 7, none⟩ = some (.slice oa x.objs.length oc) := ⟨hpCell gXb 0, hpCell gXb 1, hpCell gXb 2, hpCell gXb 3, hpCell gXb 4, hpCell gXb 5, hpCell gXb 6, hpCell gXb 7⟩
            clear gXb
            cases b4 with
            | true =>
              obtain rfl : b5 = true := by rw [← hb5e]; rfl
              clear hb5e
              go_wp2_with (refine wpList_storeW rfl 25 (.tmp 61) (.tmp 60) rfl w1.heap.size 1 _ _ (#[.int .i64 x.fn, .int .i64 x.exc, .slice da x.data.length dc, .int .i64 x.code, .int .i64 x.level, .bool x.more, .int .i64 x.next, .slice oa x.objs.length oc]) rfl rfl gBb (by simp) (by kernel_rfl) (by rfl) ?_; intro w8 g8 hk8 hz8)
              go_meet
              case rel => exact HREL.out w8 g8 hk8
            | false =>
              rw [Bool.false_or] at hb5e
              cases b5 with
              | true =>
                go_wp2_with (refine wpList_storeW rfl 25 (.tmp 61) (.tmp 60) rfl w1.heap.size 1 _ _ (#[.int .i64 x.fn, .int .i64 x.exc, .slice da x.data.length dc, .int .i64 x.code, .int .i64 x.level, .bool x.more, .int .i64 x.next, .slice oa x.objs.length oc]) rfl rfl gBb (by simp) (by kernel_rfl) (by rfl) ?_; intro w8 g8 hk8 hz8)
                go_meet
                case rel => exact HREL.out w8 g8 hk8
              | false =>
                go_wp2_with (refine wpList_storeW rfl 25 (.tmp 61) (.tmp 60) rfl w1.heap.size 1 _ _ (#[.int .i64 x.fn, .int .i64 x.exc, .slice da x.data.length dc, .int .i64 x.code, .int .i64 x.level, .bool x.more, .int .i64 x.next, .slice oa x.objs.length oc]) rfl rfl gBb (by simp) (by kernel_rfl) (by rfl) ?_; intro w8 g8 hk8 hz8)
                go_meet
                case rel => exact HREL.out w8 g8 hk8
          · have HS := hid ho
            have hb45 := hb5
            have gBW : ∀ W, Below w5.heap.size w5 W → W.heap[w1.heap.size]? = some (.cells #[.int .i64 1, .int .i64 z2, .int .i64 0, .slice none 0 0, .int .i64 0, .int .i64 0, .bool false, .int .i64 0, .slice none 0 0] 27) := fun W h => hpKeep (hpKeep HB4.out hb5) h
            have gZW : ∀ W, Below w5.heap.size w5 W → W.heap[w.heap.size]? = some (.cells #[.int .i64 0, .int .i64 0, .int .i64 0, .slice none 0 0, .int .i64 0, .int .i64 0, .bool false, .int .i64 0, .slice none 0 0] 27) := fun W h => hpKeep (hpKeep HZ4.out hb5) h
            have hs5 := HS4.out.keeps hb5
            have p1 : ∀ W, Below w5.heap.size w5 W → W.cell? ⟨p, 1, none⟩ = some (.bool b4) := fun W h => hpCell (hpKeep hs5.blk h) 1
            have y1' : ∀ W, Below w5.heap.size w5 W → W.frozen? ⟨p, 1, none⟩ = false := fun W h => hpFree (hpKeep hs5.blk h) 1
            have kA : ∀ X, Below w5.heap.size w5 (w5.alloc X) := fun X => bal'' w5 X
            have hlt5 := hb5.size
            have he0 : (e != 0) = true := by rw [bne_iff_ne]; omega
            have hw5p : ¬ w5.heap.size = p := by omega
            have gXb : ((w5.alloc (.cells #[.int .i64 0, .int .i64 0, .slice none 0 0, .int .i64 0, .int .i64 0, .bool false, .int .i64 0, .slice none 0 0] 25)).setCell ⟨p, 1, none⟩ (.bool true)).heap[w5.heap.size]? = some (.cells #[.int .i64 0, .int .i64 0, .slice none 0 0, .int .i64 0, .int .i64 0, .bool false, .int .i64 0, .slice none 0 0] 25 (0, 0)) := by rw [hpOther hw5p]; exact hpNew w5 _
            have gBb : ((w5.alloc (.cells #[.int .i64 0, .int .i64 0, .slice none 0 0, .int .i64 0, .int .i64 0, .bool false, .int .i64 0, .slice none 0 0] 25)).setCell ⟨p, 1, none⟩ (.bool true)).heap[w1.heap.size]? = some (.cells #[.int .i64 1, .int .i64 z2, .int .i64 0, .slice none 0 0, .int .i64 0, .int .i64 0, .bool false, .int .i64 0, .slice none 0 0] 27) := by rw [hpOther hlB]; exact gBW _ (kA _)
            have HREL : Hid (∀ w8, w8.heap[w1.heap.size]? = some (.cells #[.int .i64 1, .int .i64 0, .int .i64 0, .slice none 0 0, .int .i64 0, .int .i64 0, .bool false, .int .i64 0, .slice none 0 0] 27) → Keeps (· = w1.heap.size) ((w5.alloc (.cells #[.int .i64 0, .int .i64 0, .slice none 0 0, .int .i64 0, .int .i64 0, .bool false, .int .i64 0, .slice none 0 0] 25)).setCell ⟨p, 1, none⟩ (.bool true)) w8 → OutRel w0 w p rest w1.heap.size w8) := by
              intro w8 g8 hk8
              have hs7 := (hs5.keeps (kA (.cells #[.int .i64 0, .int .i64 0, .slice none 0 0, .int .i64 0, .int .i64 0, .bool false, .int .i64 0, .slice none 0 0] 25))).setB true
              have hlow := hs7.low
              refine ⟨⟨1, Rp.zero⟩, none, none, 0, 0, a4, c4, t4, true, g8, ?_, hlt1, hs7.of (hk8.block p (hpLt hs7.blk) hlB') (hs7.bel.trans (hk8.below hs7.bel.size (fun k hk e => by omega))), ?_, fun W hW => OcIs.short 1 0 0, ?_⟩
              · rw [hk8.block _ (by simp [World.setCell]; omega) (by omega), hpOther hpz]; exact gZW _ (kA _)
              · exact (((HK4.out.trans (Keeps.of_below (F := (· = p)) hb45) (fun _ _ h => h)).trans (Keeps.of_below (F := (· = p)) (kA _)) (fun _ _ h => h)).trans setK (fun _ _ h => h)).trans hk8 (fun i hi e => by omega)
              · rcases HCH.out with ⟨h1, h2⟩ | ⟨h1, h2⟩
                · exact .inl ⟨rfl, h2⟩
                · rw [HS.out] at h2
                  exact .inl ⟨rfl, h2⟩
            clear hb5 ho hs5 gBW gZW
            obtain ⟨e0, e1, e2, e3, e4, e5, e6, e7⟩ : ((w5.alloc (.cells #[.int .i64 0, .int .i64 0, .slice none 0 0, .int .i64 0, .int .i64 0, .bool false, .int .i64 0, .slice none 0 0] 25)).setCell ⟨p, 1, none⟩ (.bool true)).cell? ⟨w5.heap.size, 0, none⟩ = some (.int .i64 0) ∧ ((w5.alloc (.cells #[.int .i64 0, .int .i64 0, .slice none 0 0, .int .i64 0, .int .i64 0, .bool false, .int .i64 0, .slice none 0 0] 25)).setCell ⟨p, 1, none⟩ (.bool true)).cell? ⟨w5.heap.size, 1, none⟩ = some (.int .i64 0) ∧ ((w5.alloc (.cells #[.int .i64 0, .int .i64 0, .slice none 0 0, .int .i64 0, .int .i64 0, .bool false, .int .i64 0, .slice none 0 0] 25)).setCell ⟨p, 1, none⟩ (.bool true)).cell? ⟨w5.heap.size, 2, none⟩ = some (.slice none 0 0) ∧ ((w5.alloc (.cells #[.int .i64 0, .int .i64 0, .slice none 0 0, .int .i64 0, .int .i64 0, .bool false, .int .i64 0, .slice none 0 0] 25)).setCell ⟨p, 1, none⟩ (.bool true)).cell? ⟨w5.heap.size, 3, none⟩ = some (.int .i64 0) ∧ ((w5.alloc (.cells #[.int .i64 0, .int .i64 0, .slice none 0 0, .int .i64 0, .int .i64 0, .bool false, .int .i64 0, .slice none 0 0] 25)).setCell ⟨p, 1, none⟩ (.bool true)).cell? ⟨w5.heap.size, 4, none⟩ = some (.int .i64 0) ∧ ((w5.alloc (.cells #[.int .i64 0, .int .i64 0, .slice none 0 0, .int .i64 0, .int .i64 0, .bool false, .int .i64 0, .slice none 0 0] 25)).setCell ⟨p, 1, none⟩ (.bool true)).cell? ⟨w5.heap.size, 5, none⟩ = some (.bool false) ∧ ((w5.alloc (.cells #[.int .i64 0, .int .i64 0, .slice none 0 0, .int .i64 0, .int .i64 0, .bool false, .int .i64 0, .slice none 0 0] 25)).setCell ⟨p, 1, none⟩ (.bool true)).cell? ⟨w5.heap.size, 6, none⟩ = some (.int .i64 0) ∧ ((w5.alloc (.cells #[.int .i64 0, .int .i64 0, .slice none 0 0, .int .i64 0, .int .i64 0, .bool false, .int .i64 0, .slice none 0 0] 25)).setCell ⟨p, 1, none⟩ (.bool true)).cell? ⟨w5.heap.size, 7, none⟩ = some (.slice none 0 0) := ⟨hpCell gXb 0, hpCell gXb 1, hpCell gXb 2, hpCell gXb 3, hpCell gXb 4, hpCell gXb 5, hpCell gXb 6, hpCell gXb 7⟩
            clear gXb
            cases b4 with
            | true =>
              go_wp2_with (refine wpList_storeW rfl 25 (.tmp 61) (.tmp 60) rfl w1.heap.size 1 _ _ (#[.int .i64 0, .int .i64 0, .slice none 0 0, .int .i64 0, .int .i64 0, .bool false, .int .i64 0, .slice none 0 0]) rfl rfl gBb (by simp) (by kernel_rfl) (by rfl) ?_; intro w8 g8 hk8 hz8)
              go_meet
              case rel => exact HREL.out w8 g8 hk8
            | false =>
              go_wp2_with (refine wpList_storeW rfl 25 (.tmp 61) (.tmp 60) rfl w1.heap.size 1 _ _ (#[.int .i64 0, .int .i64 0, .slice none 0 0, .int .i64 0, .int .i64 0, .bool false, .int .i64 0, .slice none 0 0]) rfl rfl gBb (by simp) (by kernel_rfl) (by rfl) ?_; intro w8 g8 hk8 hz8)
              go_meet
              case rel => exact HREL.out w8 g8 hk8
      · have t2 : ((v : Int) == 2) = false := by rw [beq_eq_false_iff_ne]; omega
        have t1' : ((v : Int) == 1) = false := by rw [beq_eq_false_iff_ne]; omega
        have HREL : Hid (OutRel w0 w p rest w1.heap.size (w1.alloc (.cells #[.int .i64 v, .int .i64 0, .int .i64 0, .slice none 0 0, .int .i64 0, .int .i64 0, .bool false, .int .i64 0, .slice none 0 0] 27))) := by
          refine ⟨⟨v, Rp.zero⟩, none, none, 0, 0, a1, c1, t1, b1, hpNew w1 _, hpKeep gZ1 (bal'' w1 _), hlt1, HS1.out.keeps (bal'' w1 _), hkw1.trans (Keeps.of_below (F := (· = p)) (bal'' w1 _)) (fun _ _ h => h), fun W _ => OcIs.short v 0 0, ?_⟩
          rcases H1.out with ⟨_, hl, rfl, rfl, rfl⟩ | ⟨hl, rfl, rfl⟩
          · cases rest with
            | nil => simp at hl
            | cons x t =>
              have hx : ((x :: t).getD 0 0).toNat = x.toNat := rfl
              rw [hx] at hv1 hv2
              rcases ocP_other (v := x) (t := t) (by omega) (by omega) with h | h
              · exact .inr ⟨rfl, .inl h⟩
              · exact .inr ⟨rfl, .inr h⟩
          · refine .inl ⟨rfl, ?_⟩
            rcases hl with h | h
            · cases h
            · rw [List.eq_nil_of_length_eq_zero (l := rest) (by omega)]; rfl
        go_wp2
        go_meet
        case rel => exact HREL.out
  case rest =>
    obtain ⟨o, da, oa, dc, oc, a, c, t, bad, gB, gZ, hBz, hrs, hk, HI, hor⟩ := hcut
    clear H1 HS1 hkw1 gZ1 hlp1 HNU HDEC
    obtain ⟨B, hBe⟩ : ∃ B, w1.heap.size = B := ⟨_, rfl⟩
    rw [hBe] at gB hBz HI ⊢
    clear hBe
    have hpc := hpLt hrs.blk
    have hBp : ¬ p = B := by omega
    have hBp' : ¬ B = p := by omega
    have HIs := hid HI
    have HK := hid hk
    have HR := hid hrs
    have hpB : p < wc.heap.size := hpc
    have p1 : ∀ W, Below wc.heap.size wc W → W.cell? ⟨p, 1, none⟩ = some (.bool bad) := fun W h => hpCell (hpKeep hrs.blk h) 1
    have z1 : ∀ W, Below wc.heap.size wc W → W.frozen? ⟨p, 1, none⟩ = false := fun W h => hpFree (hpKeep hrs.blk h) 1
    have k0 : Below wc.heap.size wc wc := Below.refl _ _
    cases bad with
    | true =>
      have HN : Hid (ocP rest = none) := by
        rcases hor with h | h
        · exact h.2
        · cases h.1
      have gB2 : (wc.setCell ⟨p, 1, none⟩ (.bool true)).heap[B]? = some (.cells #[.int .i64 o.verdict, .int .i64 o.reply.fn, .int .i64 o.reply.exc, .slice da o.reply.data.length dc, .int .i64 o.reply.code, .int .i64 o.reply.level, .bool o.reply.more, .int .i64 o.reply.next, .slice oa o.reply.objs.length oc] 27 (0, 0)) := by rw [hpOther hBp']; exact gB
      have gZ2 : (wc.setCell ⟨p, 1, none⟩ (.bool true)).heap[w.heap.size]? = some (.cells #[.int .i64 0, .int .i64 0, .int .i64 0, .slice none 0 0, .int .i64 0, .int .i64 0, .bool false, .int .i64 0, .slice none 0 0] 27) := by rw [hpOther (by omega)]; exact gZ
      clear hor hrs HI hk gB gZ
      obtain ⟨e0, e1, e2, e3, e4, e5, e6, e7, e8⟩ : (wc.setCell ⟨p, 1, none⟩ (.bool true)).cell? ⟨B, 0, none⟩ = some (.int .i64 o.verdict) ∧ (wc.setCell ⟨p, 1, none⟩ (.bool true)).cell? ⟨B, 1, none⟩ = some (.int .i64 o.reply.fn) ∧ (wc.setCell ⟨p, 1, none⟩ (.bool true)).cell? ⟨B, 2, none⟩ = some (.int .i64 o.reply.exc) ∧ (wc.setCell ⟨p, 1, none⟩ (.bool true)).cell? ⟨B, 3, none⟩ = some (.slice da o.reply.data.length dc) ∧ (wc.setCell ⟨p, 1, none⟩ (.bool true)).cell? ⟨B, 4, none⟩ = some (.int .i64 o.reply.code) ∧ (wc.setCell ⟨p, 1, none⟩ (.bool true)).cell? ⟨B, 5, none⟩ = some (.int .i64 o.reply.level) ∧ (wc.setCell ⟨p, 1, none⟩ (.bool true)).cell? ⟨B, 6, none⟩ = some (.bool o.reply.more) ∧ (wc.setCell ⟨p, 1, none⟩ (.bool true)).cell? ⟨B, 7, none⟩ = some (.int .i64 o.reply.next) ∧ (wc.setCell ⟨p, 1, none⟩ (.bool true)).cell? ⟨B, 8, none⟩ = some (.slice oa o.reply.objs.length oc) := ⟨hpCell gB2 0, hpCell gB2 1, hpCell gB2 2, hpCell gB2 3, hpCell gB2 4, hpCell gB2 5, hpCell gB2 6, hpCell gB2 7, hpCell gB2 8⟩
      clear gB2
      go_wp2_with (refine wpList_storeW rfl 27 (.tmp 2) (.tmp 74) rfl w.heap.size 0 _ _ (#[.int .i64 o.verdict, .int .i64 o.reply.fn, .int .i64 o.reply.exc, .slice da o.reply.data.length dc, .int .i64 o.reply.code, .int .i64 o.reply.level, .bool o.reply.more, .int .i64 o.reply.next, .slice oa o.reply.objs.length oc]) rfl rfl gZ2 (by simp) (by kernel_rfl) (by rfl) ?_; intro w4 g4 hk4 hz4)
      obtain ⟨q0, q1, q2, q3, q4, q5, q6, q7, q8⟩ : w4.cell? ⟨w.heap.size, 0, none⟩ = some (.int .i64 o.verdict) ∧ w4.cell? ⟨w.heap.size, 1, none⟩ = some (.int .i64 o.reply.fn) ∧ w4.cell? ⟨w.heap.size, 2, none⟩ = some (.int .i64 o.reply.exc) ∧ w4.cell? ⟨w.heap.size, 3, none⟩ = some (.slice da o.reply.data.length dc) ∧ w4.cell? ⟨w.heap.size, 4, none⟩ = some (.int .i64 o.reply.code) ∧ w4.cell? ⟨w.heap.size, 5, none⟩ = some (.int .i64 o.reply.level) ∧ w4.cell? ⟨w.heap.size, 6, none⟩ = some (.bool o.reply.more) ∧ w4.cell? ⟨w.heap.size, 7, none⟩ = some (.int .i64 o.reply.next) ∧ w4.cell? ⟨w.heap.size, 8, none⟩ = some (.slice oa o.reply.objs.length oc) := ⟨hpCell g4 0, hpCell g4 1, hpCell g4 2, hpCell g4 3, hpCell g4 4, hpCell g4 5, hpCell g4 6, hpCell g4 7, hpCell g4 8⟩
      refine bodyPost_ret (v := .agg #[.int .i64 o.verdict, .int .i64 o.reply.fn, .int .i64 o.reply.exc, .slice da o.reply.data.length dc, .int .i64 o.reply.code, .int .i64 o.reply.level, .bool o.reply.more, .int .i64 o.reply.next, .slice oa o.reply.objs.length oc]) (by simp [results, Try.results52, go_sem, q0, q1, q2, q3, q4, q5, q6, q7, q8]) rfl ?_
      exact out_end (B := B) (wc := wc) hp (by omega) HK.out HIs.out setK (HR.out.setB true) hk4 (.inr ⟨rfl, HN.out⟩)
    | false =>
      obtain ⟨V, hV⟩ : ∃ V, o.ok = V := ⟨_, rfl⟩
      have HOR : Hid ((V = true ∧ ocP rest = some (o, t)) ∨ (V = false ∧ ocP rest = none)) := by
        rcases hor with h | h
        · cases h.1
        · rw [hV] at h; exact h.2
      have HV : Hid (∀ W, Below wc.heap.size wc W → Calls Try.prog 15 #[.agg #[.int .i64 o.verdict, .int .i64 o.reply.fn, .int .i64 o.reply.exc, .slice da o.reply.data.length dc, .int .i64 o.reply.code, .int .i64 o.reply.level, .bool o.reply.more, .int .i64 o.reply.next, .slice oa o.reply.objs.length oc]] W fun r w' => r = .returned (.bool V) ∧ Below W.heap.size W w') := fun W hW => valid_oc (HIs.out W (Agree.of_below hW)) V hV
      obtain ⟨e0, e1, e2, e3, e4, e5, e6, e7, e8⟩ : wc.cell? ⟨B, 0, none⟩ = some (.int .i64 o.verdict) ∧ wc.cell? ⟨B, 1, none⟩ = some (.int .i64 o.reply.fn) ∧ wc.cell? ⟨B, 2, none⟩ = some (.int .i64 o.reply.exc) ∧ wc.cell? ⟨B, 3, none⟩ = some (.slice da o.reply.data.length dc) ∧ wc.cell? ⟨B, 4, none⟩ = some (.int .i64 o.reply.code) ∧ wc.cell? ⟨B, 5, none⟩ = some (.int .i64 o.reply.level) ∧ wc.cell? ⟨B, 6, none⟩ = some (.bool o.reply.more) ∧ wc.cell? ⟨B, 7, none⟩ = some (.int .i64 o.reply.next) ∧ wc.cell? ⟨B, 8, none⟩ = some (.slice oa o.reply.objs.length oc) := ⟨hpCell gB 0, hpCell gB 1, hpCell gB 2, hpCell gB 3, hpCell gB 4, hpCell gB 5, hpCell gB 6, hpCell gB 7, hpCell gB 8⟩
      have GB := hid gB
      have GZ := hid gZ
      clear hor hV gB gZ hrs HI hk
      go_wp2_with fail
      refine (HV.out _ k0).mono ?_
      rintro r w5 ⟨rfl, hb5⟩
      clear e0 e1 e2 e3 e4 e5 e6 e7 e8
      cases V with
      | true =>
        have gB2 : (w5.setCell ⟨p, 1, none⟩ (.bool false)).heap[B]? = some (.cells #[.int .i64 o.verdict, .int .i64 o.reply.fn, .int .i64 o.reply.exc, .slice da o.reply.data.length dc, .int .i64 o.reply.code, .int .i64 o.reply.level, .bool o.reply.more, .int .i64 o.reply.next, .slice oa o.reply.objs.length oc] 27 (0, 0)) := by rw [hpOther hBp']; exact hpKeep GB.out hb5
        have gZ2 : (w5.setCell ⟨p, 1, none⟩ (.bool false)).heap[w.heap.size]? = some (.cells #[.int .i64 0, .int .i64 0, .int .i64 0, .slice none 0 0, .int .i64 0, .int .i64 0, .bool false, .int .i64 0, .slice none 0 0] 27) := by rw [hpOther (by omega)]; exact hpKeep GZ.out hb5
        obtain ⟨e0, e1, e2, e3, e4, e5, e6, e7, e8⟩ : (w5.setCell ⟨p, 1, none⟩ (.bool false)).cell? ⟨B, 0, none⟩ = some (.int .i64 o.verdict) ∧ (w5.setCell ⟨p, 1, none⟩ (.bool false)).cell? ⟨B, 1, none⟩ = some (.int .i64 o.reply.fn) ∧ (w5.setCell ⟨p, 1, none⟩ (.bool false)).cell? ⟨B, 2, none⟩ = some (.int .i64 o.reply.exc) ∧ (w5.setCell ⟨p, 1, none⟩ (.bool false)).cell? ⟨B, 3, none⟩ = some (.slice da o.reply.data.length dc) ∧ (w5.setCell ⟨p, 1, none⟩ (.bool false)).cell? ⟨B, 4, none⟩ = some (.int .i64 o.reply.code) ∧ (w5.setCell ⟨p, 1, none⟩ (.bool false)).cell? ⟨B, 5, none⟩ = some (.int .i64 o.reply.level) ∧ (w5.setCell ⟨p, 1, none⟩ (.bool false)).cell? ⟨B, 6, none⟩ = some (.bool o.reply.more) ∧ (w5.setCell ⟨p, 1, none⟩ (.bool false)).cell? ⟨B, 7, none⟩ = some (.int .i64 o.reply.next) ∧ (w5.setCell ⟨p, 1, none⟩ (.bool false)).cell? ⟨B, 8, none⟩ = some (.slice oa o.reply.objs.length oc) := ⟨hpCell gB2 0, hpCell gB2 1, hpCell gB2 2, hpCell gB2 3, hpCell gB2 4, hpCell gB2 5, hpCell gB2 6, hpCell gB2 7, hpCell gB2 8⟩
        have HS : Hid (ocP rest = some (o, t)) := by
          rcases HOR.out with h | h
          · exact h.2
          · cases h.1
        clear gB2 HOR
        go_wp2_with (refine wpList_storeW rfl 27 (.tmp 2) (.tmp 74) rfl w.heap.size 0 _ _ (#[.int .i64 o.verdict, .int .i64 o.reply.fn, .int .i64 o.reply.exc, .slice da o.reply.data.length dc, .int .i64 o.reply.code, .int .i64 o.reply.level, .bool o.reply.more, .int .i64 o.reply.next, .slice oa o.reply.objs.length oc]) rfl rfl gZ2 (by simp) (by kernel_rfl) (by rfl) ?_; intro w4 g4 hk4 hz4)
        obtain ⟨q0, q1, q2, q3, q4, q5, q6, q7, q8⟩ : w4.cell? ⟨w.heap.size, 0, none⟩ = some (.int .i64 o.verdict) ∧ w4.cell? ⟨w.heap.size, 1, none⟩ = some (.int .i64 o.reply.fn) ∧ w4.cell? ⟨w.heap.size, 2, none⟩ = some (.int .i64 o.reply.exc) ∧ w4.cell? ⟨w.heap.size, 3, none⟩ = some (.slice da o.reply.data.length dc) ∧ w4.cell? ⟨w.heap.size, 4, none⟩ = some (.int .i64 o.reply.code) ∧ w4.cell? ⟨w.heap.size, 5, none⟩ = some (.int .i64 o.reply.level) ∧ w4.cell? ⟨w.heap.size, 6, none⟩ = some (.bool o.reply.more) ∧ w4.cell? ⟨w.heap.size, 7, none⟩ = some (.int .i64 o.reply.next) ∧ w4.cell? ⟨w.heap.size, 8, none⟩ = some (.slice oa o.reply.objs.length oc) := ⟨hpCell g4 0, hpCell g4 1, hpCell g4 2, hpCell g4 3, hpCell g4 4, hpCell g4 5, hpCell g4 6, hpCell g4 7, hpCell g4 8⟩
        refine bodyPost_ret (v := .agg #[.int .i64 o.verdict, .int .i64 o.reply.fn, .int .i64 o.reply.exc, .slice da o.reply.data.length dc, .int .i64 o.reply.code, .int .i64 o.reply.level, .bool o.reply.more, .int .i64 o.reply.next, .slice oa o.reply.objs.length oc]) (by simp [results, Try.results52, go_sem, q0, q1, q2, q3, q4, q5, q6, q7, q8]) rfl ?_
        exact out_end (B := B) (wc := wc) hp (by omega) HK.out HIs.out ((Keeps.of_below hb5).trans setK (fun _ _ e => e)) ((HR.out.keeps hb5).setB false) hk4 (.inl ⟨rfl, HS.out⟩)
      | false =>
        have gB2 : (w5.setCell ⟨p, 1, none⟩ (.bool true)).heap[B]? = some (.cells #[.int .i64 o.verdict, .int .i64 o.reply.fn, .int .i64 o.reply.exc, .slice da o.reply.data.length dc, .int .i64 o.reply.code, .int .i64 o.reply.level, .bool o.reply.more, .int .i64 o.reply.next, .slice oa o.reply.objs.length oc] 27 (0, 0)) := by rw [hpOther hBp']; exact hpKeep GB.out hb5
        have gZ2 : (w5.setCell ⟨p, 1, none⟩ (.bool true)).heap[w.heap.size]? = some (.cells #[.int .i64 0, .int .i64 0, .int .i64 0, .slice none 0 0, .int .i64 0, .int .i64 0, .bool false, .int .i64 0, .slice none 0 0] 27) := by rw [hpOther (by omega)]; exact hpKeep GZ.out hb5
        obtain ⟨e0, e1, e2, e3, e4, e5, e6, e7, e8⟩ : (w5.setCell ⟨p, 1, none⟩ (.bool true)).cell? ⟨B, 0, none⟩ = some (.int .i64 o.verdict) ∧ (w5.setCell ⟨p, 1, none⟩ (.bool true)).cell? ⟨B, 1, none⟩ = some (.int .i64 o.reply.fn) ∧ (w5.setCell ⟨p, 1, none⟩ (.bool true)).cell? ⟨B, 2, none⟩ = some (.int .i64 o.reply.exc) ∧ (w5.setCell ⟨p, 1, none⟩ (.bool true)).cell? ⟨B, 3, none⟩ = some (.slice da o.reply.data.length dc) ∧ (w5.setCell ⟨p, 1, none⟩ (.bool true)).cell? ⟨B, 4, none⟩ = some (.int .i64 o.reply.code) ∧ (w5.setCell ⟨p, 1, none⟩ (.bool true)).cell? ⟨B, 5, none⟩ = some (.int .i64 o.reply.level) ∧ (w5.setCell ⟨p, 1, none⟩ (.bool true)).cell? ⟨B, 6, none⟩ = some (.bool o.reply.more) ∧ (w5.setCell ⟨p, 1, none⟩ (.bool true)).cell? ⟨B, 7, none⟩ = some (.int .i64 o.reply.next) ∧ (w5.setCell ⟨p, 1, none⟩ (.bool true)).cell? ⟨B, 8, none⟩ = some (.slice oa o.reply.objs.length oc) := ⟨hpCell gB2 0, hpCell gB2 1, hpCell gB2 2, hpCell gB2 3, hpCell gB2 4, hpCell gB2 5, hpCell gB2 6, hpCell gB2 7, hpCell gB2 8⟩
        have HN : Hid (ocP rest = none) := by
          rcases HOR.out with h | h
          · cases h.1
          · exact h.2
        clear gB2 HOR
        go_wp2_with (refine wpList_storeW rfl 27 (.tmp 2) (.tmp 74) rfl w.heap.size 0 _ _ (#[.int .i64 o.verdict, .int .i64 o.reply.fn, .int .i64 o.reply.exc, .slice da o.reply.data.length dc, .int .i64 o.reply.code, .int .i64 o.reply.level, .bool o.reply.more, .int .i64 o.reply.next, .slice oa o.reply.objs.length oc]) rfl rfl gZ2 (by simp) (by kernel_rfl) (by rfl) ?_; intro w4 g4 hk4 hz4)
        obtain ⟨q0, q1, q2, q3, q4, q5, q6, q7, q8⟩ : w4.cell? ⟨w.heap.size, 0, none⟩ = some (.int .i64 o.verdict) ∧ w4.cell? ⟨w.heap.size, 1, none⟩ = some (.int .i64 o.reply.fn) ∧ w4.cell? ⟨w.heap.size, 2, none⟩ = some (.int .i64 o.reply.exc) ∧ w4.cell? ⟨w.heap.size, 3, none⟩ = some (.slice da o.reply.data.length dc) ∧ w4.cell? ⟨w.heap.size, 4, none⟩ = some (.int .i64 o.reply.code) ∧ w4.cell? ⟨w.heap.size, 5, none⟩ = some (.int .i64 o.reply.level) ∧ w4.cell? ⟨w.heap.size, 6, none⟩ = some (.bool o.reply.more) ∧ w4.cell? ⟨w.heap.size, 7, none⟩ = some (.int .i64 o.reply.next) ∧ w4.cell? ⟨w.heap.size, 8, none⟩ = some (.slice oa o.reply.objs.length oc) := ⟨hpCell g4 0, hpCell g4 1, hpCell g4 2, hpCell g4 3, hpCell g4 4, hpCell g4 5, hpCell g4 6, hpCell g4 7, hpCell g4 8⟩
        refine bodyPost_ret (v := .agg #[.int .i64 o.verdict, .int .i64 o.reply.fn, .int .i64 o.reply.exc, .slice da o.reply.data.length dc, .int .i64 o.reply.code, .int .i64 o.reply.level, .bool o.reply.more, .int .i64 o.reply.next, .slice oa o.reply.objs.length oc]) (by simp [results, Try.results52, go_sem, q0, q1, q2, q3, q4, q5, q6, q7, q8]) rfl ?_
        exact out_end (B := B) (wc := wc) hp (by omega) HK.out HIs.out ((Keeps.of_below hb5).trans setK (fun _ _ e => e)) ((HR.out.keeps hb5).setB true) hk4 (.inr ⟨rfl, HN.out⟩)

end Go.Proofs.Ytlaaoifjiogogaa
