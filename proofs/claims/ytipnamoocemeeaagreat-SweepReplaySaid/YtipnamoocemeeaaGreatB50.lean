/-
  Texts 50 of the claim.
-/
import Derived.Test.YtipnamoocemeeaaGreatB49
import Derived.Test.YtipnamoocemeeaaGreatB44
import Derived.Test.YtipnamoocemeeaaGreatB04
import Derived.Deep.RegionHeld3
import Derived.Deep.CutBlock
import Derived.Deep.CutRange
/-
  The contract of modscanref27.read (over that of DecodeReply).
-/
namespace Go.Proofs.YtipnamoocemeeaaGreat
open Go.RowKit

theorem run_pre {P : Program} {t e : TypeId} {i5 : TypeInfo} (ht : P.underlying t = some (.slice e)) (hi : P.info? e = some i5) (a : Option Addr) (n c k : Nat) (hkc : k ≤ c) (w : World) :
    (Instr.slice t (.slice a n c) none (some (.int .i64 k)) none).run P w = .ok (.slice a k c) w := by
  have h := cutA_zero a c
  unfold cutA at h
  simp [Instr.slice, Instr.sliceBounds, Instr.sliceBound, run_underlying ht, asIntOf, sizeOf, typeInfo, hi, hkc]
  simpa using h

theorem heldR {w0 W W' : World} {A : Option Addr} {n c : Nat} {l : List UInt8} (hB : Bs w0 (.slice A n c) l) (h : Below w0.heap.size w0 W ∧ (convert 50 9 (.slice A n c)).run Tryz.prog W = .ok (.string ⟨l.toArray⟩) W) (hb : Below W.heap.size W W') :
    Below w0.heap.size w0 W' ∧ (convert 50 9 (.slice A n c)).run Tryz.prog W' = .ok (.string ⟨l.toArray⟩) W' :=
  ⟨bt h.1 hb (Nat.le_refl _), run_str Tryz.underlying50 Tryz.underlying5 (hB.keep (bt h.1 hb (Nat.le_refl _))) _ Tryz.underlying9⟩

/-- What holds where the ways through the switch meet. -/
def RdRel (w : World) (b : List UInt8) (n : Nat) (wc : World) : Prop :=
  ∃ (o : Oc) (da oa : Option Addr) (dc oc : Nat), wc.heap[w.heap.size + 1]? = some (.cells #[.int .i64 o.verdict, .int .i64 o.reply.fn, .int .i64 o.reply.exc, .slice da o.reply.data.length dc, .int .i64 o.reply.code, .int .i64 o.reply.level, .bool o.reply.more, .int .i64 o.reply.next, .slice oa o.reply.objs.length oc] 55 (0, 0)) ∧ wc.heap[w.heap.size]? = some (.cells #[.int .i64 0, .int .i64 0, .int .i64 0, .slice none 0 0, .int .i64 0, .int .i64 0, .bool false, .int .i64 0, .slice none 0 0] 55) ∧ Below w.heap.size w wc ∧
    (∀ W, Agree (w.heap.size + 1 + 1) wc W → OcIs W o da dc oa oc) ∧ ReadIs b o n

set_option maxRecDepth 100000 in
set_option maxHeartbeats 12800000 in
theorem rread_any (a : Option Addr) (n c : Nat) (b : List UInt8) (w : World) (hb : Bs w (.slice a n c) b)
    (HDEC : Hid (∀ (a : Option Addr) (n c : Nat) (b : List UInt8) (w : World), Bs w (.slice a n c) b → Calls Tryz.prog 106 #[.slice a n c] w (DecPost w (Rp.dec b)))) :
    Calls Tryz.prog 63 #[.slice a n c] w (ReadPost w b) := by
  obtain ⟨i5, hi, hz0, hz1, hz2⟩ := info_parts infoB
  obtain ⟨hbn, hnc, hcm⟩ := hb.capOf
  unfold maxLen at hcm
  cases b with
  | nil =>
    obtain rfl : n = 0 := hbn.symm
    clear hb hbn
    go_enter Tryz.func63, Tryz.ntmps63
    go_wp2
    refine bodyPost_ret (v := .tuple #[.agg #[.int .i64 0, .int .i64 0, .int .i64 0, .slice none 0 0, .int .i64 0, .int .i64 0, .bool false, .int .i64 0, .slice none 0 0], .int .i64 0]) (by simp [results, Tryz.results63, go_sem]) rfl ?_
    exact .inr ⟨rfl, rfl, bal'' w _⟩
  | cons v t =>
    have hn1 : 1 ≤ n := by rw [← hbn]; simp
    have hn0 : ¬ n = 0 := by omega
    have hn0' : ((n : Int) == 0) = false := by rw [beq_eq_false_iff_ne]; omega
    obtain ⟨blk, off, rfl, y0⟩ := hb.byte (i := 0) (by omega)
    have hby : ∀ i, i < n → w.cell? ⟨blk, off + i, none⟩ = some (.int .u8 (bAt (v :: t) i)) := fun i hi => by
      obtain ⟨b', o', ha, hc⟩ := hb.byte (i := i) hi
      cases ha; exact hc
    have c0 : ∀ W, Below w.heap.size w W → W.cell? ⟨blk, off, none⟩ = some (.int .u8 (v.toNat : Int)) := fun W h => cell_keep h y0
    have kA : ∀ X, Below w.heap.size w (w.alloc X) := fun X => bal'' w X
    have kB : ∀ X Y, Below w.heap.size w ((w.alloc X).alloc Y) := fun X Y => bta (bal'' w X) (Nat.le_refl _) Y
    have hv255 := v.toNat_lt
    obtain ⟨vz, hvz⟩ : ∃ vz : Nat, v.toNat = vz := ⟨_, rfl⟩
    rw [hvz] at c0 hv255
    have u0 : IntKind.i64.wrap (vz : Int) = (vz : Int) := IntWalk.i64_in _ (by omega)
    have HVZ := hid hvz
    have HBN := hid hbn
    have HB := hid hb
    have HBY := hid hby
    have HLT := hid (show t.length + 1 = n by simpa using hbn)
    clear hvz hbn hb hby y0
    go_enter Tryz.func63, Tryz.ntmps63
    go_upto_block 0 with (fail)
    go_cut [5] from 6 to 86 (fun s5 wc => ∃ m : Nat, s5 = .int .i64 m ∧ RdRel w (v :: t) m wc)
    case first =>
      by_cases h2 : vz = 2
      · subst h2
        have hv2 : (v.toNat : Int) = 2 := by have := HVZ.out; omega
        by_cases hn3 : n < 3
        · have HREL : Hid (RdRel w (v :: t) 1 ((w.alloc (.cells #[.int .i64 0, .int .i64 0, .int .i64 0, .slice none 0 0, .int .i64 0, .int .i64 0, .bool false, .int .i64 0, .slice none 0 0] 55)).alloc (.cells #[.int .i64 2, .int .i64 0, .int .i64 0, .slice none 0 0, .int .i64 0, .int .i64 0, .bool false, .int .i64 0, .slice none 0 0] 55))) :=
            ⟨⟨2, Rp.zero⟩, none, none, 0, 0, by have := hpNew (w.alloc (.cells #[.int .i64 0, .int .i64 0, .int .i64 0, .slice none 0 0, .int .i64 0, .int .i64 0, .bool false, .int .i64 0, .slice none 0 0] 55)) (.cells #[.int .i64 2, .int .i64 0, .int .i64 0, .slice none 0 0, .int .i64 0, .int .i64 0, .bool false, .int .i64 0, .slice none 0 0] 55); rwa [show (w.alloc (.cells #[.int .i64 0, .int .i64 0, .int .i64 0, .slice none 0 0, .int .i64 0, .int .i64 0, .bool false, .int .i64 0, .slice none 0 0] 55)).heap.size = w.heap.size + 1 by simp] at this, by rw [Below.heap_alloc _ _ _ (by simp)]; exact hpNew _ _, kB _ _, fun W _ => OcIs.short 2 0 0, readIs_2s hv2 (by have := HLT.out; omega)⟩
          go_wp2
          go_meet
          case rel => exact ⟨1, rfl, HREL.out⟩
        · obtain ⟨f, x, u, rfl⟩ : ∃ f x u, t = f :: x :: u := by
            have := HLT.out
            match t, this with
            | f :: x :: u, _ => exact ⟨f, x, u, rfl⟩
            | [], this => simp at this; omega
            | [_], this => simp at this; omega
          have c1 : ∀ W, Below w.heap.size w W → W.cell? ⟨blk, off + 1, none⟩ = some (.int .u8 (f.toNat : Int)) := fun W h => cell_keep h (HBY.out 1 (by omega))
          have c2 : ∀ W, Below w.heap.size w W → W.cell? ⟨blk, off + 2, none⟩ = some (.int .u8 (x.toNat : Int)) := fun W h => cell_keep h (HBY.out 2 (by omega))
          have hf := f.toNat_lt
          have hx := x.toNat_lt
          have HREL : Hid (RdRel w (v :: f :: x :: u) 3 ((w.alloc (.cells #[.int .i64 0, .int .i64 0, .int .i64 0, .slice none 0 0, .int .i64 0, .int .i64 0, .bool false, .int .i64 0, .slice none 0 0] 55)).alloc (.cells #[.int .i64 2, .int .i64 (f.toNat : Int), .int .i64 (x.toNat : Int), .slice none 0 0, .int .i64 0, .int .i64 0, .bool false, .int .i64 0, .slice none 0 0] 55)).drew) :=
            ⟨⟨2, Rp.shortOf (f.toNat : Int) (x.toNat : Int)⟩, none, none, 0, 0, (heap2 w _ _).2, (heap2 w _ _).1, (kB _ _).drew, fun W _ => OcIs.short 2 _ _, readIs_2 hv2⟩
          have j1 : 1 < n := by omega
          have j2 : 2 < n := by omega
          have j1' : (1 : Int) < (n : Int) := by omega
          have j2' : (2 : Int) < (n : Int) := by omega
          generalize f.toNat = fz at *
          generalize x.toNat = xz at *
          have uf : IntKind.i64.wrap (fz : Int) = (fz : Int) := IntWalk.i64_in _ (by omega)
          have ux : IntKind.i64.wrap (xz : Int) = (xz : Int) := IntWalk.i64_in _ (by omega)
          go_wp2_with fail
          go_region_held3 (fun W => Below w.heap.size w W) (((try refine btd ?_); first | exact kB _ _ | (refine Below.setCell (by assumption) ?_ _; show w.heap.size ≤ w.heap.size + 1; omega))) (fail)
          go_wp2
          go_meet
          case rel => exact ⟨3, rfl, HREL.out⟩
      · by_cases h1 : vz = 1
        · subst h1
          have hv1 : (v.toNat : Int) = 1 := by have := HVZ.out; omega
          by_cases hn2 : n < 2
          · have HREL : Hid (RdRel w (v :: t) 1 ((w.alloc (.cells #[.int .i64 0, .int .i64 0, .int .i64 0, .slice none 0 0, .int .i64 0, .int .i64 0, .bool false, .int .i64 0, .slice none 0 0] 55)).alloc (.cells #[.int .i64 1, .int .i64 0, .int .i64 0, .slice none 0 0, .int .i64 0, .int .i64 0, .bool false, .int .i64 0, .slice none 0 0] 55))) :=
              ⟨⟨1, Rp.zero⟩, none, none, 0, 0, (heap2 w _ _).2, (heap2 w _ _).1, kB _ _, fun W _ => OcIs.short 1 0 0, readIs_1s hv1 (.inl (by have := HLT.out; omega))⟩
            have hn3 : n < 3 := by omega
            go_wp2
            go_meet
            case rel => exact ⟨1, rfl, HREL.out⟩
          · obtain ⟨f, u, rfl⟩ : ∃ f u, t = f :: u := by
              have := HLT.out
              match t, this with
              | f :: u, _ => exact ⟨f, u, rfl⟩
              | [], this => simp at this; omega
            have c1 : ∀ W, Below w.heap.size w W → W.cell? ⟨blk, off + 1, none⟩ = some (.int .u8 (f.toNat : Int)) := fun W h => cell_keep h (HBY.out 1 (by omega))
            have hf := f.toNat_lt
            have hlu : u.length + 2 = n := by have := HLT.out; simp at this; omega
            obtain ⟨fz, hfz⟩ : ∃ fz : Nat, f.toNat = fz := ⟨_, rfl⟩
            rw [hfz] at c1 hf
            have HFZ := hid hfz
            clear hfz
            have uf : IntKind.i64.wrap (fz : Int) = (fz : Int) := IntWalk.i64_in _ (by omega)
            by_cases h4 : fz ≤ 4
            · have HREL : Hid (RdRel w (v :: f :: u) 2 ((w.alloc (.cells #[.int .i64 0, .int .i64 0, .int .i64 0, .slice none 0 0, .int .i64 0, .int .i64 0, .bool false, .int .i64 0, .slice none 0 0] 55)).alloc (.cells #[.int .i64 1, .int .i64 fz, .int .i64 0, .slice none 0 0, .int .i64 0, .int .i64 0, .bool false, .int .i64 0, .slice none 0 0] 55))) :=
                ⟨⟨1, Rp.shortOf fz 0⟩, none, none, 0, 0, (heap2 w _ _).2, (heap2 w _ _).1, kB _ _, fun W _ => OcIs.short 1 fz 0, by have := readIs_1t (u := u) hv1 (f := f) (by have := HFZ.out; omega); rwa [HFZ.out] at this⟩
              go_wp2
              go_meet
              case rel => exact ⟨2, rfl, HREL.out⟩
            · have hf4 : ¬ (f.toNat : Int) ≤ 4 := by have := HFZ.out; omega
              have h4' : 4 < fz := by omega
              by_cases hn3 : n < 3
              · have HREL : Hid (RdRel w (v :: f :: u) 1 ((w.alloc (.cells #[.int .i64 0, .int .i64 0, .int .i64 0, .slice none 0 0, .int .i64 0, .int .i64 0, .bool false, .int .i64 0, .slice none 0 0] 55)).alloc (.cells #[.int .i64 1, .int .i64 0, .int .i64 0, .slice none 0 0, .int .i64 0, .int .i64 0, .bool false, .int .i64 0, .slice none 0 0] 55))) :=
                  ⟨⟨1, Rp.zero⟩, none, none, 0, 0, (heap2 w _ _).2, (heap2 w _ _).1, kB _ _, fun W _ => OcIs.short 1 0 0, readIs_1s hv1 (.inr ⟨by simp; omega, hf4⟩)⟩
                replace hf4 := hid hf4
                go_wp2
                go_meet
                case rel => exact ⟨1, rfl, HREL.out⟩
              · obtain ⟨k, s, rfl⟩ : ∃ k s, u = k :: s := by
                  match u, hlu with
                  | k :: s, _ => exact ⟨k, s, rfl⟩
                  | [], hlu => simp at hlu; omega
                have c2 : ∀ W, Below w.heap.size w W → W.cell? ⟨blk, off + 2, none⟩ = some (.int .u8 (k.toNat : Int)) := fun W h => cell_keep h (HBY.out 2 (by omega))
                have hk := k.toNat_lt
                have hls : s.length + 3 = n := by simp at hlu; omega
                obtain ⟨kz, hkz⟩ : ∃ kz : Nat, k.toNat = kz := ⟨_, rfl⟩
                rw [hkz] at c2 hk
                have HKZ := hid hkz
                have uk : IntKind.i64.wrap (kz : Int) = (kz : Int) := IntWalk.i64_in _ (by omega)
                by_cases hkl : (n : Int) - 3 < (kz : Int)
                · have HREL : Hid (RdRel w (v :: f :: k :: s) 1 ((w.alloc (.cells #[.int .i64 0, .int .i64 0, .int .i64 0, .slice none 0 0, .int .i64 0, .int .i64 0, .bool false, .int .i64 0, .slice none 0 0] 55)).alloc (.cells #[.int .i64 1, .int .i64 0, .int .i64 0, .slice none 0 0, .int .i64 0, .int .i64 0, .bool false, .int .i64 0, .slice none 0 0] 55))) :=
                    ⟨⟨1, Rp.zero⟩, none, none, 0, 0, (heap2 w _ _).2, (heap2 w _ _).1, kB _ _, fun W _ => OcIs.short 1 0 0, readIs_1l hv1 hf4 (by omega)⟩
                  replace hf4 := hid hf4
                  clear hkz
                  go_wp2
                  go_meet
                  case rel => exact ⟨1, rfl, HREL.out⟩
                · obtain ⟨Y0, hY0⟩ : ∃ x, cutA (some ⟨blk, off, none⟩) c 3 = x := ⟨_, rfl⟩
                  have hcut : ∀ W, (Instr.slice 50 (.slice (some ⟨blk, off, none⟩) n c) (some (.int .i64 3)) (some (.int .i64 (3 + (kz : Int)))) none).run Tryz.prog W = .ok (.slice Y0 kz (c - 3)) W := fun W => by
                    have h := run_cut (P := Tryz.prog) Tryz.underlying50 hi hz1 (some ⟨blk, off, none⟩) n c 3 (3 + kz) (by omega) (by omega) W
                    rw [hY0, show 3 + kz - 3 = kz by omega, show ((3 + kz : Nat) : Int) = 3 + (kz : Int) by omega] at h
                    exact h
                  have hY : Bs w (.slice Y0 kz (c - 3)) (s.take kz) := by
                    have h := HB.out.cut (i := 3) (k := 3 + kz) (by omega) (by omega)
                    rw [hY0, show 3 + kz - 3 = kz by omega] at h
                    have e : ((v :: f :: k :: s).take (3 + kz)).drop 3 = s.take kz := by
                      rw [Nat.add_comm]; rfl
                    rwa [e] at h
                  have HD := hid (HDEC.out Y0 kz (c - 3) (s.take kz) ((w.alloc (.cells #[.int .i64 0, .int .i64 0, .int .i64 0, .slice none 0 0, .int .i64 0, .int .i64 0, .bool false, .int .i64 0, .slice none 0 0] 55)).alloc (.cells #[.int .i64 1, .int .i64 0, .int .i64 0, .slice none 0 0, .int .i64 0, .int .i64 0, .bool false, .int .i64 0, .slice none 0 0] 55)) (hY.keep (kB _ _)))
                  have HKB := hid (kB (.cells #[.int .i64 0, .int .i64 0, .int .i64 0, .slice none 0 0, .int .i64 0, .int .i64 0, .bool false, .int .i64 0, .slice none 0 0] 55) (.cells #[.int .i64 1, .int .i64 0, .int .i64 0, .slice none 0 0, .int .i64 0, .int .i64 0, .bool false, .int .i64 0, .slice none 0 0] 55))
                  have HHP := hid (heap2 w (.cells #[.int .i64 0, .int .i64 0, .int .i64 0, .slice none 0 0, .int .i64 0, .int .i64 0, .bool false, .int .i64 0, .slice none 0 0] 55) (.cells #[.int .i64 1, .int .i64 0, .int .i64 0, .slice none 0 0, .int .i64 0, .int .i64 0, .bool false, .int .i64 0, .slice none 0 0] 55))
                  have HS1 : Hid (∀ x, Rp.dec (s.take kz) = some x → ReadIs (v :: f :: k :: s) ⟨1, x⟩ (3 + kz)) := fun x hd => by
                    have := readIs_1d (v := v) (f := f) (k := k) (s := s) (x := x) hv1 hf4 (by omega) (by rw [hkz]; exact hd)
                    rwa [hkz] at this
                  have HS2 : Hid (Rp.dec (s.take kz) = none → ReadIs (v :: f :: k :: s) ⟨1, Rp.zero⟩ (3 + kz)) := fun hd => by
                    have := readIs_1n (v := v) (f := f) (k := k) (s := s) hv1 hf4 (by omega) (by rw [hkz]; exact hd)
                    rwa [hkz] at this
                  replace hf4 := hid hf4
                  clear hkz hY hY0
                  go_wp2_with fail
                  refine HD.out.mono ?_
                  rintro r w5 hp5
                  rcases hp5 with ⟨x, da, dc, oa, oc, ho, rfl, hx', hb5⟩ | ⟨e, he1, he2, ho, rfl, hb5⟩
                  · have gB5 := hpKeep HHP.out.2 hb5
                    have gZ5 := hpKeep HHP.out.1 hb5
                    have hbw5 := bt HKB.out hb5 (Nat.le_refl _)
                    have HX := hid hx'
                    have HRI := hid (HS1.out x ho)
                    clear hx' hb5 ho
                    go_wp2_with (refine wpList_storeW rfl 53 (.tmp 86) (.tmp 84) rfl (w.heap.size + 1) 1 _ _ (#[.int .i64 x.fn, .int .i64 x.exc, .slice da x.data.length dc, .int .i64 x.code, .int .i64 x.level, .bool x.more, .int .i64 x.next, .slice oa x.objs.length oc]) rfl rfl gB5 (by simp) (by kernel_rfl) (by rfl) ?_; intro w8 g8 hk8 hz8)
                    go_meet
                    case rel =>
                      refine ⟨3 + kz, by go_num, ⟨1, x⟩, da, oa, dc, oc, g8, hpKeeps gZ5 hk8 (by omega), hbw5.trans (hk8.below hbw5.size (fun k hk e => by omega)), fun W hW => ?_, HRI.out⟩
                      have hx := HX.out W ((Agree.of_keeps hk8 (fun k e => by simp; omega)).trans (hW.mono (by simp)))
                      exact ⟨hx.d, hx.o, hx.hi, hx.lo⟩
                  · have gB5 := hpKeep HHP.out.2 hb5
                    have gZ5 := hpKeep HHP.out.1 hb5
                    have hbw5 := bt HKB.out hb5 (Nat.le_refl _)
                    have HRI := hid (HS2.out ho)
                    clear hb5 ho
                    go_wp2_with (refine wpList_storeW rfl 53 (.tmp 86) (.tmp 84) rfl (w.heap.size + 1) 1 _ _ (#[.int .i64 0, .int .i64 0, .slice none 0 0, .int .i64 0, .int .i64 0, .bool false, .int .i64 0, .slice none 0 0]) rfl rfl gB5 (by simp) (by kernel_rfl) (by rfl) ?_; intro w8 g8 hk8 hz8)
                    go_meet
                    case rel => exact ⟨3 + kz, by go_num, ⟨1, Rp.zero⟩, none, none, 0, 0, g8, hpKeeps gZ5 hk8 (by omega), hbw5.trans (hk8.below hbw5.size (fun k hk e => by omega)), fun W _ => OcIs.short 1 0 0, HRI.out⟩
        · have hw2 : (v.toNat : Int) ≠ 2 := by have := HVZ.out; omega
          have hw1 : (v.toNat : Int) ≠ 1 := by have := HVZ.out; omega
          have g2 : ((vz : Int) == 2) = false := by rw [beq_eq_false_iff_ne]; omega
          have g1 : ((vz : Int) == 1) = false := by rw [beq_eq_false_iff_ne]; omega
          have HREL : Hid (RdRel w (v :: t) 1 ((w.alloc (.cells #[.int .i64 0, .int .i64 0, .int .i64 0, .slice none 0 0, .int .i64 0, .int .i64 0, .bool false, .int .i64 0, .slice none 0 0] 55)).alloc (.cells #[.int .i64 vz, .int .i64 0, .int .i64 0, .slice none 0 0, .int .i64 0, .int .i64 0, .bool false, .int .i64 0, .slice none 0 0] 55))) :=
            ⟨⟨vz, Rp.zero⟩, none, none, 0, 0, by have := hpNew (w.alloc (.cells #[.int .i64 0, .int .i64 0, .int .i64 0, .slice none 0 0, .int .i64 0, .int .i64 0, .bool false, .int .i64 0, .slice none 0 0] 55)) (.cells #[.int .i64 vz, .int .i64 0, .int .i64 0, .slice none 0 0, .int .i64 0, .int .i64 0, .bool false, .int .i64 0, .slice none 0 0] 55); rwa [show (w.alloc (.cells #[.int .i64 0, .int .i64 0, .int .i64 0, .slice none 0 0, .int .i64 0, .int .i64 0, .bool false, .int .i64 0, .slice none 0 0] 55)).heap.size = w.heap.size + 1 by simp] at this, by rw [Below.heap_alloc _ _ _ (by simp)]; exact hpNew _ _, kB _ _, fun W _ => OcIs.short vz 0 0, by have := readIs_other (t := t) hw2 hw1; rwa [HVZ.out] at this⟩
          go_wp2
          go_meet
          case rel => exact ⟨1, rfl, HREL.out⟩
    case rest =>
      obtain ⟨m, rfl, o, da, oa, dc, oc, gB, gZ, hbc, HI, hm, hor⟩ := hcut
      have hmn : m ≤ n := by have := HBN.out; omega
      have hmc : m ≤ c := by omega
      have HTK := hid ((HB.out.takeS hmn).keep hbc)
      have hpre : ∀ W, (Instr.slice 50 (.slice (some ⟨blk, off, none⟩) n c) none (some (.int .i64 m)) none).run Tryz.prog W = .ok (.slice (some ⟨blk, off, none⟩) m c) W := fun W => run_pre Tryz.underlying50 hi _ n c m hmc W
      have HBL : Hid (m = (v :: t).length - ((v :: t).drop m).length) := by show m = _; rw [List.length_drop]; omega
      obtain ⟨L, hL⟩ : ∃ L, (v :: t).take m = L := ⟨_, rfl⟩
      rw [hL] at HTK hor
      have HS0 : Hid (Below wc.heap.size wc wc.drew ∧ (convert 50 9 (.slice (some ⟨blk, off, none⟩) m c)).run Tryz.prog wc.drew = .ok (.string ⟨L.toArray⟩) wc.drew) := ⟨(Below.refl _ _).drew, run_str Tryz.underlying50 Tryz.underlying5 (HTK.out.keep (Below.refl _ _).drew) _ Tryz.underlying9⟩
      have ss : Hid (∀ (W : World) (v : Value) (l : List UInt8), Bs W v l → (convert 50 9 v).run Tryz.prog W = .ok (.string ⟨l.toArray⟩) W) := fun W v l h => run_str Tryz.underlying50 Tryz.underlying5 h _ Tryz.underlying9
      have hm0 : (0 : Int) ≤ (m : Int) := by omega
      have hmc' : (m : Int) ≤ (c : Int) := by omega
      obtain ⟨V, hV⟩ : ∃ V, o.ok = V := ⟨_, rfl⟩
      have HV : Hid (∀ W, Below wc.heap.size wc W → Calls Tryz.prog 22 #[.agg #[.int .i64 o.verdict, .int .i64 o.reply.fn, .int .i64 o.reply.exc, .slice da o.reply.data.length dc, .int .i64 o.reply.code, .int .i64 o.reply.level, .bool o.reply.more, .int .i64 o.reply.next, .slice oa o.reply.objs.length oc]] W fun r w' => r = .returned (.bool V) ∧ Below W.heap.size W w') := fun W hW => rvalid_oc (HI W (Agree.of_below hW)) V hV
      have HIS := hid HI
      have GB := hid gB
      have GZ := hid gZ
      have HBC := hid hbc
      have q0 : ∀ W, Below wc.heap.size wc W → W.cell? ⟨w.heap.size + 1, 0, none⟩ = some (.int .i64 o.verdict) := fun W h => hpCell (hpKeep gB h) 0
      have q1 : ∀ W, Below wc.heap.size wc W → W.cell? ⟨w.heap.size + 1, 1, none⟩ = some (.int .i64 o.reply.fn) := fun W h => hpCell (hpKeep gB h) 1
      have q2 : ∀ W, Below wc.heap.size wc W → W.cell? ⟨w.heap.size + 1, 2, none⟩ = some (.int .i64 o.reply.exc) := fun W h => hpCell (hpKeep gB h) 2
      have q3 : ∀ W, Below wc.heap.size wc W → W.cell? ⟨w.heap.size + 1, 3, none⟩ = some (.slice da o.reply.data.length dc) := fun W h => hpCell (hpKeep gB h) 3
      have q4 : ∀ W, Below wc.heap.size wc W → W.cell? ⟨w.heap.size + 1, 4, none⟩ = some (.int .i64 o.reply.code) := fun W h => hpCell (hpKeep gB h) 4
      have q5 : ∀ W, Below wc.heap.size wc W → W.cell? ⟨w.heap.size + 1, 5, none⟩ = some (.int .i64 o.reply.level) := fun W h => hpCell (hpKeep gB h) 5
      have q6 : ∀ W, Below wc.heap.size wc W → W.cell? ⟨w.heap.size + 1, 6, none⟩ = some (.bool o.reply.more) := fun W h => hpCell (hpKeep gB h) 6
      have q7 : ∀ W, Below wc.heap.size wc W → W.cell? ⟨w.heap.size + 1, 7, none⟩ = some (.int .i64 o.reply.next) := fun W h => hpCell (hpKeep gB h) 7
      have q8 : ∀ W, Below wc.heap.size wc W → W.cell? ⟨w.heap.size + 1, 8, none⟩ = some (.slice oa o.reply.objs.length oc) := fun W h => hpCell (hpKeep gB h) 8
      clear gB gZ hbc HI hm hL c0 kA kB HBY HDEC HVZ HBN HB HLT u0
      rcases hor with ⟨hk, hn⟩ | ⟨hk, he, hs⟩ | ⟨hk, he, hn⟩
      · obtain rfl : V = false := by rw [← hV]; exact hk
        replace hn := hid hn
        clear hV hk
        have kd : Below wc.heap.size wc wc.drew := (Below.refl _ _).drew
        go_wp2_with fail
        refine wp_region_held_drew (S := fun W => Below wc.heap.size wc W) (by kernel_rfl) kd (fun hHeld => ?_)
        clear hHeld
        refine wpAnyH_ready (rs := [0]) (by kernel_rfl) (by simp) ?_
        refine AllReadyH.cons rfl (fun K hK => ?_) AllReadyH.nil
        go_simp
        refine hK.out _ _ kd (fun hHeld => ?_)
        clear hK K hHeld
        refine wpAnyH_ready (rs := [1]) (by kernel_rfl) (by simp) ?_
        refine AllReadyH.cons rfl (fun K hK => ?_) AllReadyH.nil
        go_simp
        go_wp2_with (go_at_call 22; refine (HV.out _ kd).mono ?_; rintro r w5 ⟨rfl, hb5⟩)
        refine hK.out _ _ (bt kd hb5 (Nat.le_refl _)) (fun hHeld => ?_)
        clear hK K hHeld
        have hbz := bt kd hb5 (Nat.le_refl _)
        refine wpAnyH_ready (rs := [2]) (by kernel_rfl) (by simp) ?_
        refine AllReadyH.cons rfl (fun K hK => ?_) AllReadyH.nil
        go_simp
        refine hK.out _ _ hbz (fun hHeld => ?_)
        clear hK K hHeld
        refine wpAnyH_ready (rs := [3]) (by kernel_rfl) (by simp) ?_
        refine AllReadyH.cons rfl (fun K hK => ?_) AllReadyH.nil
        go_simp
        refine hK.out _ _ hbz (fun hHeld => ?_)
        clear hK K hHeld
        refine wpAnyH_take (i := 7) (v := undef) rfl (by kernel_rfl) (by kernel_rfl) (by kernel_rfl) (fun _ _ _ h => h) (Or.inr ⟨by rfl, rfl⟩) hbz ?_
        refine wpAnyH_take (i := 8) (v := undef) rfl (by kernel_rfl) (by kernel_rfl) (by kernel_rfl) (fun _ _ _ h => h) (Or.inr ⟨by rfl, rfl⟩) hbz ?_
        refine wpAnyH_take (i := 9) (v := undef) rfl (by kernel_rfl) (by kernel_rfl) (by kernel_rfl) (fun _ _ _ h => h) (Or.inr ⟨by rfl, rfl⟩) hbz ?_
        refine wpAnyH_take (i := 10) (v := undef) rfl (by kernel_rfl) (by kernel_rfl) (by kernel_rfl) (fun _ _ _ h => h) (Or.inr ⟨by rfl, rfl⟩) hbz ?_
        refine wpAnyH_take (i := 4) (v := undef) rfl (by kernel_rfl) (by kernel_rfl) (by kernel_rfl) (fun _ _ _ h => h) (Or.inr ⟨by rfl, rfl⟩) hbz ?_
        refine wpAnyH_ready (rs := [5]) (by kernel_rfl) (by simp) ?_
        refine AllReadyH.cons rfl (fun K hK => ?_) AllReadyH.nil
        go_simp
        refine hK.out _ _ hbz (fun hHeld => ?_)
        clear hK K hHeld
        refine wpAnyH_ready (rs := [6]) (by kernel_rfl) (by simp) ?_
        refine AllReadyH.cons rfl (fun K hK => ?_) AllReadyH.nil
        go_simp
        refine hK.out _ _ hbz (fun hHeld => ?_)
        clear hK K hHeld
        refine wpAnyH_ready (rs := [11]) (by kernel_rfl) (by simp) ?_
        refine AllReadyH.cons rfl (fun K hK => ?_) AllReadyH.nil
        go_simp
        refine hK.out _ _ hbz (fun hHeld => ?_)
        clear hK K hHeld
        refine wpAnyH_ready (rs := [12]) (by kernel_rfl) (by simp) ?_
        refine AllReadyH.cons rfl (fun K hK => ?_) AllReadyH.nil
        go_simp
        refine hK.out _ _ hbz (fun hHeld => ?_)
        clear hK K hHeld
        refine wpAnyH_done (by kernel_rfl) ?_ _
        clear hb5
        have gZ5 := hpKeep GZ.out hbz
        have hbw := bt HBC.out hbz (Nat.le_refl _)
        clear q0 q1 q2 q3 q4 q5 q6 q7 q8
        go_wp2_with (refine wpList_storeW rfl 55 (.tmp 2) (.tmp 100) rfl w.heap.size 0 _ _ (#[.int .i64 0, .int .i64 0, .int .i64 0, .slice none 0 0, .int .i64 0, .int .i64 0, .bool false, .int .i64 0, .slice none 0 0]) rfl rfl gZ5 (by simp) (by kernel_rfl) (by rfl) ?_; intro w4 g4 hk4 hz4)
        obtain ⟨q0, q1, q2, q3, q4, q5, q6, q7, q8⟩ : w4.cell? ⟨w.heap.size, 0, none⟩ = some (.int .i64 0) ∧ w4.cell? ⟨w.heap.size, 1, none⟩ = some (.int .i64 0) ∧ w4.cell? ⟨w.heap.size, 2, none⟩ = some (.int .i64 0) ∧ w4.cell? ⟨w.heap.size, 3, none⟩ = some (.slice none 0 0) ∧ w4.cell? ⟨w.heap.size, 4, none⟩ = some (.int .i64 0) ∧ w4.cell? ⟨w.heap.size, 5, none⟩ = some (.int .i64 0) ∧ w4.cell? ⟨w.heap.size, 6, none⟩ = some (.bool false) ∧ w4.cell? ⟨w.heap.size, 7, none⟩ = some (.int .i64 0) ∧ w4.cell? ⟨w.heap.size, 8, none⟩ = some (.slice none 0 0) := ⟨hpCell g4 0, hpCell g4 1, hpCell g4 2, hpCell g4 3, hpCell g4 4, hpCell g4 5, hpCell g4 6, hpCell g4 7, hpCell g4 8⟩
        refine bodyPost_ret (v := .tuple #[.agg #[.int .i64 0, .int .i64 0, .int .i64 0, .slice none 0 0, .int .i64 0, .int .i64 0, .bool false, .int .i64 0, .slice none 0 0], .int .i64 0]) (by simp [results, Tryz.results63, go_sem, q0, q1, q2, q3, q4, q5, q6, q7, q8]) rfl ?_
        exact .inr ⟨hn.out, rfl, hbw.trans (hk4.below hbw.size (fun k hk e => by omega))⟩
      · obtain rfl : V = true := by rw [← hV]; exact hk
        have HO : Hid (∀ W, Below wc.heap.size wc W → Calls Tryz.prog 62 #[.agg #[.int .i64 o.verdict, .int .i64 o.reply.fn, .int .i64 o.reply.exc, .slice da o.reply.data.length dc, .int .i64 o.reply.code, .int .i64 o.reply.level, .bool o.reply.more, .int .i64 o.reply.next, .slice oa o.reply.objs.length oc]] W (OnePost W L)) := fun W hW => by rw [← he]; exact rone_any (HIS.out W (Agree.of_below hW)) hk
        replace hs := hid hs
        clear hV hk he
        go_wp2_with fail
        go_region_held (fun W => Below wc.heap.size wc W ∧ (convert 50 9 (.slice (some ⟨blk, off, none⟩) m c)).run Tryz.prog W = .ok (.string ⟨L.toArray⟩) W) ((first | exact HS0.out | assumption | exact heldR HTK.out (by assumption) (by assumption))) (first | (go_at_call 22; (with_reducible refine (HV.out _ (And.left (by assumption))).mono ?_); rintro r w5 ⟨rfl, hb5⟩) | (go_at_call 62; (with_reducible refine (HO.out _ (And.left (by assumption))).mono ?_); rintro r w6 ⟨a6, c6, rfl, hB6, hb6, _⟩; have e6 := ss.out _ _ _ hB6))
        have hbz : Below wc.heap.size wc w6 := And.left (by assumption)
        have gZ5 := hpKeep GZ.out hbz
        have hbw := bt HBC.out hbz (Nat.le_refl _)
        have gB5 := hpKeep GB.out hbz
        clear q0 q1 q2 q3 q4 q5 q6 q7 q8
        obtain ⟨e0, e1, e2, e3, e4, e5, e6, e7, e8⟩ : w6.cell? ⟨(w.heap.size + 1), 0, none⟩ = some (.int .i64 o.verdict) ∧ w6.cell? ⟨(w.heap.size + 1), 1, none⟩ = some (.int .i64 o.reply.fn) ∧ w6.cell? ⟨(w.heap.size + 1), 2, none⟩ = some (.int .i64 o.reply.exc) ∧ w6.cell? ⟨(w.heap.size + 1), 3, none⟩ = some (.slice da o.reply.data.length dc) ∧ w6.cell? ⟨(w.heap.size + 1), 4, none⟩ = some (.int .i64 o.reply.code) ∧ w6.cell? ⟨(w.heap.size + 1), 5, none⟩ = some (.int .i64 o.reply.level) ∧ w6.cell? ⟨(w.heap.size + 1), 6, none⟩ = some (.bool o.reply.more) ∧ w6.cell? ⟨(w.heap.size + 1), 7, none⟩ = some (.int .i64 o.reply.next) ∧ w6.cell? ⟨(w.heap.size + 1), 8, none⟩ = some (.slice oa o.reply.objs.length oc) := ⟨hpCell gB5 0, hpCell gB5 1, hpCell gB5 2, hpCell gB5 3, hpCell gB5 4, hpCell gB5 5, hpCell gB5 6, hpCell gB5 7, hpCell gB5 8⟩
        go_wp2_with (refine wpList_storeW rfl 55 (.tmp 2) (.tmp 101) rfl w.heap.size 0 _ _ (#[.int .i64 o.verdict, .int .i64 o.reply.fn, .int .i64 o.reply.exc, .slice da o.reply.data.length dc, .int .i64 o.reply.code, .int .i64 o.reply.level, .bool o.reply.more, .int .i64 o.reply.next, .slice oa o.reply.objs.length oc]) rfl rfl gZ5 (by simp) (by kernel_rfl) (by rfl) ?_; intro w4 g4 hk4 hz4)
        obtain ⟨q0, q1, q2, q3, q4, q5, q6, q7, q8⟩ : w4.cell? ⟨w.heap.size, 0, none⟩ = some (.int .i64 o.verdict) ∧ w4.cell? ⟨w.heap.size, 1, none⟩ = some (.int .i64 o.reply.fn) ∧ w4.cell? ⟨w.heap.size, 2, none⟩ = some (.int .i64 o.reply.exc) ∧ w4.cell? ⟨w.heap.size, 3, none⟩ = some (.slice da o.reply.data.length dc) ∧ w4.cell? ⟨w.heap.size, 4, none⟩ = some (.int .i64 o.reply.code) ∧ w4.cell? ⟨w.heap.size, 5, none⟩ = some (.int .i64 o.reply.level) ∧ w4.cell? ⟨w.heap.size, 6, none⟩ = some (.bool o.reply.more) ∧ w4.cell? ⟨w.heap.size, 7, none⟩ = some (.int .i64 o.reply.next) ∧ w4.cell? ⟨w.heap.size, 8, none⟩ = some (.slice oa o.reply.objs.length oc) := ⟨hpCell g4 0, hpCell g4 1, hpCell g4 2, hpCell g4 3, hpCell g4 4, hpCell g4 5, hpCell g4 6, hpCell g4 7, hpCell g4 8⟩
        refine bodyPost_ret (v := .tuple #[.agg #[.int .i64 o.verdict, .int .i64 o.reply.fn, .int .i64 o.reply.exc, .slice da o.reply.data.length dc, .int .i64 o.reply.code, .int .i64 o.reply.level, .bool o.reply.more, .int .i64 o.reply.next, .slice oa o.reply.objs.length oc], .int .i64 m]) (by simp [results, Tryz.results63, go_sem, q0, q1, q2, q3, q4, q5, q6, q7, q8]) rfl ?_
        refine .inl ⟨o, (v :: t).drop m, da, oa, dc, oc, hs.out, by rw [← HBL.out], fun W hW => HIS.out W (((Agree.of_below hbz).trans (Agree.of_keeps hk4 (fun k e => by omega))).trans (hW.mono (by omega))), hbw.trans (hk4.below hbw.size (fun k hk e => by omega))⟩
      · obtain rfl : V = true := by rw [← hV]; exact hk
        have hne := str_ne he
        obtain ⟨E, hE⟩ : ∃ E, o.enc = E := ⟨_, rfl⟩
        have HO : Hid (∀ W, Below wc.heap.size wc W → Calls Tryz.prog 62 #[.agg #[.int .i64 o.verdict, .int .i64 o.reply.fn, .int .i64 o.reply.exc, .slice da o.reply.data.length dc, .int .i64 o.reply.code, .int .i64 o.reply.level, .bool o.reply.more, .int .i64 o.reply.next, .slice oa o.reply.objs.length oc]] W (OnePost W E)) := fun W hW => by rw [← hE]; exact rone_any (HIS.out W (Agree.of_below hW)) hk
        rw [hE] at hne
        have hEL : (E == L) = false := by
          rw [beq_eq_false_iff_ne]
          intro e
          exact hne (by rw [e])
        replace hn := hid hn
        clear hV hk he hE
        go_wp2_with fail
        go_region_held (fun W => Below wc.heap.size wc W ∧ (convert 50 9 (.slice (some ⟨blk, off, none⟩) m c)).run Tryz.prog W = .ok (.string ⟨L.toArray⟩) W) ((first | exact HS0.out | assumption | exact heldR HTK.out (by assumption) (by assumption))) (first | (go_at_call 22; (with_reducible refine (HV.out _ (And.left (by assumption))).mono ?_); rintro r w5 ⟨rfl, hb5⟩) | (go_at_call 62; (with_reducible refine (HO.out _ (And.left (by assumption))).mono ?_); rintro r w6 ⟨a6, c6, rfl, hB6, hb6, _⟩; have e6 := ss.out _ _ _ hB6))
        have hbz : Below wc.heap.size wc w6 := And.left (by assumption)
        have gZ5 := hpKeep GZ.out hbz
        have hbw := bt HBC.out hbz (Nat.le_refl _)
        clear q0 q1 q2 q3 q4 q5 q6 q7 q8
        go_wp2_with (refine wpList_storeW rfl 55 (.tmp 2) (.tmp 100) rfl w.heap.size 0 _ _ (#[.int .i64 0, .int .i64 0, .int .i64 0, .slice none 0 0, .int .i64 0, .int .i64 0, .bool false, .int .i64 0, .slice none 0 0]) rfl rfl gZ5 (by simp) (by kernel_rfl) (by rfl) ?_; intro w4 g4 hk4 hz4)
        obtain ⟨q0, q1, q2, q3, q4, q5, q6, q7, q8⟩ : w4.cell? ⟨w.heap.size, 0, none⟩ = some (.int .i64 0) ∧ w4.cell? ⟨w.heap.size, 1, none⟩ = some (.int .i64 0) ∧ w4.cell? ⟨w.heap.size, 2, none⟩ = some (.int .i64 0) ∧ w4.cell? ⟨w.heap.size, 3, none⟩ = some (.slice none 0 0) ∧ w4.cell? ⟨w.heap.size, 4, none⟩ = some (.int .i64 0) ∧ w4.cell? ⟨w.heap.size, 5, none⟩ = some (.int .i64 0) ∧ w4.cell? ⟨w.heap.size, 6, none⟩ = some (.bool false) ∧ w4.cell? ⟨w.heap.size, 7, none⟩ = some (.int .i64 0) ∧ w4.cell? ⟨w.heap.size, 8, none⟩ = some (.slice none 0 0) := ⟨hpCell g4 0, hpCell g4 1, hpCell g4 2, hpCell g4 3, hpCell g4 4, hpCell g4 5, hpCell g4 6, hpCell g4 7, hpCell g4 8⟩
        refine bodyPost_ret (v := .tuple #[.agg #[.int .i64 0, .int .i64 0, .int .i64 0, .slice none 0 0, .int .i64 0, .int .i64 0, .bool false, .int .i64 0, .slice none 0 0], .int .i64 0]) (by simp [results, Tryz.results63, go_sem, q0, q1, q2, q3, q4, q5, q6, q7, q8]) rfl ?_
        exact .inr ⟨hn.out, rfl, hbw.trans (hk4.below hbw.size (fun k hk e => by omega))⟩

end Go.Proofs.YtipnamoocemeeaaGreat
