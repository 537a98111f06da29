/-
  The contract of modscanref27.SameOutcomes at two slices that read as the same list.
-/
import Derived.Test.YtlaaoifjiogogaaEncL
import Derived.Test.YtlaaoifjiogogaaRecH
import Derived.Deep.RegionHeld3
namespace Go.Proofs.Ytlaaoifjiogogaa
open Go.RowKit

theorem same_oc {W : World} {x : Oc} {da : Option Addr} {dc : Nat} {oa : Option Addr} {oc : Nat} {da' : Option Addr} {dc' : Nat} {oa' : Option Addr} {oc' : Nat} (h : OcIs W x da dc oa oc) (h' : OcIs W x da' dc' oa' oc') :
    Calls Try.prog 13 #[.agg #[.int .i64 x.verdict, .int .i64 x.reply.fn, .int .i64 x.reply.exc, .slice da x.reply.data.length dc, .int .i64 x.reply.code, .int .i64 x.reply.level, .bool x.reply.more, .int .i64 x.reply.next, .slice oa x.reply.objs.length oc], .agg #[.int .i64 x.verdict, .int .i64 x.reply.fn, .int .i64 x.reply.exc, .slice da' x.reply.data.length dc', .int .i64 x.reply.code, .int .i64 x.reply.level, .bool x.reply.more, .int .i64 x.reply.next, .slice oa' x.reply.objs.length oc']] W fun r w' => r = .returned (.bool true) ∧ Below W.heap.size W w' :=
  sameOc_any x.verdict _ _ _ _ _ _ _ _ x.reply.data x.reply.objs x.verdict _ _ _ _ _ _ _ _ x.reply.data x.reply.objs W h.d h.o h'.d h'.o true (Oc.same_self _)

set_option maxRecDepth 100000 in
set_option maxHeartbeats 6400000 in
theorem sameL_any (v1 v2 : Value) (l : List Oc) (w : World) (h1 : Ocs w v1 l) (h2 : Ocs w v2 l) :
    Calls Try.prog 21 #[v1, v2] w fun r w' => r = .returned (.bool true) ∧ Below w.heap.size w w' := by
  obtain ⟨a1, c1, rfl, _⟩ := id h1
  obtain ⟨a2, c2, rfl, _⟩ := id h2
  obtain ⟨-, hnc1, hcm1, hel1⟩ := h1.get
  obtain ⟨-, hnc2, hcm2, hel2⟩ := h2.get
  unfold maxLen at hcm1 hcm2
  have HE1 := hid hel1
  have HE2 := hid hel2
  obtain ⟨N, hN⟩ : ∃ N, l.length = N := ⟨_, rfl⟩
  rw [hN] at hnc1 hnc2 ⊢
  have hln := hid hN
  clear h1 h2 hN hel1 hel2
  go_enter Try.func21, Try.ntmps21
  go_wp2_with fail
  go_loopw [5] (fun i wr => ∃ k : Nat, k ≤ N ∧ i = .int .i64 k ∧ Below w.heap.size w wr) (fun i _ => N - (intOf i).toNat)
  case atStart => exact ⟨0, Nat.zero_le _, rfl, Below.refl _ _⟩
  case round =>
    obtain ⟨k, hk, rfl, hbw⟩ := hrel
    by_cases hlt : k < N
    · obtain ⟨x, hgx⟩ := get_some hln.out hlt
      obtain ⟨b, o, da, dc, oa, oc, rfl, ⟨p0, p1, p2, p3, p4, p5, p6, p7, p8⟩, hd, hob, hlv⟩ := HE1.out k x hgx
      obtain ⟨b', o', da', dc', oa', oc', rfl, ⟨p0', p1', p2', p3', p4', p5', p6', p7', p8'⟩, hd', hob', hlv'⟩ := HE2.out k x hgx
      have e0 : ∀ W, Below w.heap.size w W → W.cell? ⟨b, o + k * 9, none⟩ = _ := fun W h => cell_keep h p0
      have e1 : ∀ W, Below w.heap.size w W → W.cell? ⟨b, o + k * 9 + 1, none⟩ = _ := fun W h => cell_keep h p1
      have e2 : ∀ W, Below w.heap.size w W → W.cell? ⟨b, o + k * 9 + 2, none⟩ = _ := fun W h => cell_keep h p2
      have e3 : ∀ W, Below w.heap.size w W → W.cell? ⟨b, o + k * 9 + 3, none⟩ = _ := fun W h => cell_keep h p3
      have e4 : ∀ W, Below w.heap.size w W → W.cell? ⟨b, o + k * 9 + 4, none⟩ = _ := fun W h => cell_keep h p4
      have e5 : ∀ W, Below w.heap.size w W → W.cell? ⟨b, o + k * 9 + 5, none⟩ = _ := fun W h => cell_keep h p5
      have e6 : ∀ W, Below w.heap.size w W → W.cell? ⟨b, o + k * 9 + 6, none⟩ = _ := fun W h => cell_keep h p6
      have e7 : ∀ W, Below w.heap.size w W → W.cell? ⟨b, o + k * 9 + 7, none⟩ = _ := fun W h => cell_keep h p7
      have e8 : ∀ W, Below w.heap.size w W → W.cell? ⟨b, o + k * 9 + 8, none⟩ = _ := fun W h => cell_keep h p8
      have e0' : ∀ W, Below w.heap.size w W → W.cell? ⟨b', o' + k * 9, none⟩ = _ := fun W h => cell_keep h p0'
      have e1' : ∀ W, Below w.heap.size w W → W.cell? ⟨b', o' + k * 9 + 1, none⟩ = _ := fun W h => cell_keep h p1'
      have e2' : ∀ W, Below w.heap.size w W → W.cell? ⟨b', o' + k * 9 + 2, none⟩ = _ := fun W h => cell_keep h p2'
      have e3' : ∀ W, Below w.heap.size w W → W.cell? ⟨b', o' + k * 9 + 3, none⟩ = _ := fun W h => cell_keep h p3'
      have e4' : ∀ W, Below w.heap.size w W → W.cell? ⟨b', o' + k * 9 + 4, none⟩ = _ := fun W h => cell_keep h p4'
      have e5' : ∀ W, Below w.heap.size w W → W.cell? ⟨b', o' + k * 9 + 5, none⟩ = _ := fun W h => cell_keep h p5'
      have e6' : ∀ W, Below w.heap.size w W → W.cell? ⟨b', o' + k * 9 + 6, none⟩ = _ := fun W h => cell_keep h p6'
      have e7' : ∀ W, Below w.heap.size w W → W.cell? ⟨b', o' + k * 9 + 7, none⟩ = _ := fun W h => cell_keep h p7'
      have e8' : ∀ W, Below w.heap.size w W → W.cell? ⟨b', o' + k * 9 + 8, none⟩ = _ := fun W h => cell_keep h p8'
      clear p0 p1 p2 p3 p4 p5 p6 p7 p8 p0' p1' p2' p3' p4' p5' p6' p7' p8'
      have HX := hid (OcIs.mk hd hob hlv.1 hlv.2)
      have HX' := hid (OcIs.mk hd' hob' hlv'.1 hlv'.2)
      have HS : Hid (∀ W, Below w.heap.size w W → Calls Try.prog 13 #[.agg #[.int .i64 x.verdict, .int .i64 x.reply.fn, .int .i64 x.reply.exc, .slice da x.reply.data.length dc, .int .i64 x.reply.code, .int .i64 x.reply.level, .bool x.reply.more, .int .i64 x.reply.next, .slice oa x.reply.objs.length oc], .agg #[.int .i64 x.verdict, .int .i64 x.reply.fn, .int .i64 x.reply.exc, .slice da' x.reply.data.length dc', .int .i64 x.reply.code, .int .i64 x.reply.level, .bool x.reply.more, .int .i64 x.reply.next, .slice oa' x.reply.objs.length oc']] W fun r w' => r = .returned (.bool true) ∧ Below W.heap.size W w') := fun W hW => same_oc (HX.out.keep hW) (HX'.out.keep hW)
      clear hd hob hlv hd' hob' hlv' hgx HX HX'
      have hk0 : (0 : Int) ≤ (k : Int) := by omega
      have hkl : (k : Int) < (N : Int) := by omega
      generalize x.reply.data.length = dn at *
      generalize x.reply.objs.length = on at *
      go_wp2_with fail
      go_region_held3 (fun W => Below w.heap.size w W) ((first | exact hbw.drew | exact bt (by assumption) (by assumption) (Nat.le_refl _))) (first | (go_at_call 13; (with_reducible refine (HS.out _ (by assumption)).mono ?_); rintro r w5 ⟨rfl, hb5⟩))
      go_wp2
      go_roundw
      case rel => exact ⟨k + 1, by omega, by go_num, by assumption⟩
      case measure => simp [intOf]; omega
    · obtain rfl : k = N := by omega
      go_wp2
      go_ret
      exact ⟨rfl, hbw⟩

end Go.Proofs.Ytlaaoifjiogogaa
