/-
  The contract of the reference's Encode at every list of outcomes.
-/
import Derived.Test.YtlaaoifjiogogaaOne
namespace Go.Proofs.Ytlaaoifjiogogaa
open Go.RowKit

set_option maxRecDepth 100000 in
set_option maxHeartbeats 6400000 in
theorem refEncode_any (v : Value) (l : List Oc) (w : World) (ho : Ocs w v l) : Calls Try.prog 19 #[v] w (EncLPost w l) := by
  obtain ⟨i5, hi, hz0, hz1, hz2⟩ := info_parts infoB
  obtain ⟨a, c, rfl, _⟩ := id ho
  obtain ⟨-, hnc, hcm, hel⟩ := ho.get
  unfold maxLen at hcm
  have HEL := hid hel
  obtain ⟨N, hN⟩ : ∃ N, l.length = N := ⟨_, rfl⟩
  rw [hN] at hnc ⊢
  have hln := hid hN
  by_cases hr : 1 ≤ N ∧ N ≤ 64
  · have HE5 : Hid (encErr l = 5) := by show _ = _; unfold encErr; rw [if_pos (by omega)]
    obtain ⟨hr1, hr2⟩ := hr
    have hN0 : N ≠ 0 := by omega
    have hu : IntKind.u8.wrap (N : Int) = (N : Int) := by show (N : Int) % 256 = N; omega
    have hO1 := hid (own1 w w.heap.size N (by omega) (by omega) (Nat.le_refl _))
    clear ho hN hel
    go_enter Try.func19, Try.ntmps19
    go_wp2_with fail
    go_loopw [4, 5] (fun bv idx wr => ∃ (k : Nat) (bs : List UInt8) (ba : Option Addr) (bc : Nat), k ≤ N ∧ idx = .int .i64 k ∧ bv = .slice ba bs.length bc ∧ bs.length ≤ 1 + 256 * k ∧ Hid (wr.ownsRow w.heap.size 5 1 (.slice ba bs.length bc) bs.length (u8s bs)) ∧ Hid (bs = byteI N :: encAll (l.take k)) ∧ Hid (∀ (j : Nat) (x : Oc), j < k → l[j]? = some x → x.ok = true) ∧ Below w.heap.size w wr) (fun _ idx _ => N - (intOf idx).toNat)
    case atStart => exact ⟨0, [byteI N], some ⟨w.heap.size, 0, none⟩, 1, by omega, rfl, rfl, by simp, hO1.out, rfl, fun j x h => by omega, bal' w _⟩
    case round =>
      obtain ⟨k, bs, ba, bc, hk, rfl, rfl, hbl, hown, hbs, hall, hbw⟩ := hrel
      by_cases hlt : k < N
      · obtain ⟨x, hgx⟩ := get_some hln.out hlt
        obtain ⟨b, o, da, dc, oa, oc, rfl, ⟨p0, p1, p2, p3, p4, p5, p6, p7, p8⟩, hd, hob, hlv⟩ := HEL.out k x hgx
        have e0 : ∀ W, Below w.heap.size w W → W.cell? ⟨b, o + k * 9, none⟩ = _ := fun W h => cell_keep h p0
        have e1 : ∀ W, Below w.heap.size w W → W.cell? ⟨b, o + k * 9 + 1, none⟩ = _ := fun W h => cell_keep h p1
        have e2 : ∀ W, Below w.heap.size w W → W.cell? ⟨b, o + k * 9 + 2, none⟩ = _ := fun W h => cell_keep h p2
        have e3 : ∀ W, Below w.heap.size w W → W.cell? ⟨b, o + k * 9 + 3, none⟩ = _ := fun W h => cell_keep h p3
        have e4 : ∀ W, Below w.heap.size w W → W.cell? ⟨b, o + k * 9 + 4, none⟩ = _ := fun W h => cell_keep h p4
        have e5 : ∀ W, Below w.heap.size w W → W.cell? ⟨b, o + k * 9 + 5, none⟩ = _ := fun W h => cell_keep h p5
        have e6 : ∀ W, Below w.heap.size w W → W.cell? ⟨b, o + k * 9 + 6, none⟩ = _ := fun W h => cell_keep h p6
        have e7 : ∀ W, Below w.heap.size w W → W.cell? ⟨b, o + k * 9 + 7, none⟩ = _ := fun W h => cell_keep h p7
        have e8 : ∀ W, Below w.heap.size w W → W.cell? ⟨b, o + k * 9 + 8, none⟩ = _ := fun W h => cell_keep h p8
        clear p0 p1 p2 p3 p4 p5 p6 p7 p8
        have HX := hid (OcIs.mk hd hob hlv.1 hlv.2)
        obtain ⟨V, hV⟩ : ∃ V, x.ok = V := ⟨_, rfl⟩
        have HV : Hid (∀ W, Below w.heap.size w W → Calls Try.prog 16 #[.agg #[.int .i64 x.verdict, .int .i64 x.reply.fn, .int .i64 x.reply.exc, .slice da x.reply.data.length dc, .int .i64 x.reply.code, .int .i64 x.reply.level, .bool x.reply.more, .int .i64 x.reply.next, .slice oa x.reply.objs.length oc]] W fun r w' => r = .returned (.bool V) ∧ Below W.heap.size W w') := fun W hW => rvalid_oc (HX.out.keep hW) V hV
        have HA : Hid (V = true → ∀ W, Below w.heap.size w W → Calls Try.prog 50 #[.agg #[.int .i64 x.verdict, .int .i64 x.reply.fn, .int .i64 x.reply.exc, .slice da x.reply.data.length dc, .int .i64 x.reply.code, .int .i64 x.reply.level, .bool x.reply.more, .int .i64 x.reply.next, .slice oa x.reply.objs.length oc]] W (OnePost W x.enc)) := fun h W hW => rone_any (HX.out.keep hW) (hV.trans h)
        have HNO := hid (fun h : V = false => okL_no hgx (hV.trans h))
        have HLE := hid (fun h : V = true => oc_enc_le (hV.trans h))
        have HTK := hid (take_succ_snoc hgx)
        have HST := hid (show V = true → ∀ (j : Nat) (u : Oc), j < k + 1 → l[j]? = some u → u.ok = true from fun hs j u hj hu => by
          by_cases hjk : j = k
          · subst hjk; rw [hgx] at hu; cases hu; exact hV.trans hs
          · exact hall.out j u (by omega) hu)
        clear hd hob hlv hgx hV hall HX
        have hkl : (k : Int) < (N : Int) := by omega
        have hsz := hbw.size
        generalize x.reply.data.length = dn at *
        generalize x.reply.objs.length = on at *
        go_wp2_with fail
        refine (HV.out _ hbw).mono ?_
        rintro r w3 ⟨rfl, hb3⟩
        cases V with
        | false =>
          have HF := hid (HNO.out rfl)
          go_wp2
          go_ret2
          exact EncLPost.no HF.out HE5.out (bt hbw hb3 (Nat.le_refl _))
        | true =>
          have hb4 : Below w.heap.size w w3 := bt hbw hb3 (Nat.le_refl _)
          have HO3 : Hid (w3.ownsRow w.heap.size 5 1 (.slice ba bs.length bc) bs.length (u8s bs)) := own_keeps hown.out (Keeps.of_below (F := fun _ => False) hb3) (fun _ _ f => f)
          have HLE2 := HLE.out rfl
          have HS2 := hid (HST.out rfl)
          clear hb3 hown
          go_wp2_with fail
          refine (HA.out (by trivial) _ hb4).mono ?_
          rintro r w5 ⟨a5, c5, rfl, hB5, hb5, _⟩
          have HO5 := hid (own_keeps HO3.out (Keeps.of_below (F := fun _ => False) hb5) (fun _ _ f => f))
          have hb6 : Below w.heap.size w w5 := bt hb4 hb5 (Nat.le_refl _)
          have HB5 : Hid (bs ++ x.enc = byteI N :: encAll (l.take (k + 1))) := by show _ = _; rw [HTK.out, encAll_snoc, hbs.out]; rfl
          have HL5 := hid (show (bs ++ x.enc).length = bs.length + x.enc.length from List.length_append)
          have HBB := hid hB5
          have hw5 := hb6.size
          clear hb5 hbs hB5
          go_wp2_with (at_builtin; refine wpList_app rfl (.tmp 30) (.tmp 35) 22 rfl w.heap.size 5 i5 Try.underlying22 hi hz0 hz1 hz2 _ bs rfl HO5.out _ x.enc rfl HBB.out (by omega) hw5 ?c3)
          case c3 =>
            intro v6 w6 hown6 hgr6
            have hb7 := hb6.grown hgr6 hw5 (fun k hk => (HO5.out.lt k hk).1)
            obtain ⟨a6, c6, rfl⟩ := own_slice hown6
            rw [← HL5.out] at hown6
            have HO6 := hid hown6
            clear hown6 hgr6
            go_wp2
            go_roundw
            case rel => exact ⟨k + 1, bs ++ x.enc, a6, c6, by omega, by go_num, by rw [HL5.out], by rw [HL5.out]; omega, HO6.out, HB5.out, HS2.out, hb7⟩
            case measure => simp [intOf]; omega
      · obtain rfl : k = N := by omega
        have HB := hid (Bs.own hown.out)
        have HLO := hid hown.out.lt
        have HOK := hid (okL_yes (l := l) (by have := hln.out; omega) (fun j x hj hx => hall.out j x (by have := hln.out; omega) hx))
        have HEQ : Hid (bs = encL l) := by
          show bs = _
          rw [hbs.out, List.take_of_length_le (by have := hln.out; omega)]
          unfold encL
          rw [hln.out]
        clear hown hbs hall
        go_wp2
        go_ret2
        exact EncLPost.yes HOK.out (by rw [← HEQ.out]; exact ⟨ba, bc, rfl, HB.out, hbw, fun ad h => (HLO.out ad.block (by rw [h]; rfl)).1⟩)
  · have HE4 : Hid (encErr l = 4) := by show _ = _; unfold encErr; rw [if_neg (by omega)]
    have HF := hid (okL_len (l := l) (by omega))
    rcases (show N = 0 ∨ 64 < N by omega) with rfl | h64
    · clear ho hN hel hr
      go_enter Try.func19, Try.ntmps19
      go_wp2
      go_ret2
      exact EncLPost.no HF.out HE4.out (Below.refl _ _)
    · have hN0 : N ≠ 0 := by omega
      clear ho hN hel hr
      go_enter Try.func19, Try.ntmps19
      go_wp2
      go_ret2
      exact EncLPost.no HF.out HE4.out (Below.refl _ _)

end Go.Proofs.Ytlaaoifjiogogaa
