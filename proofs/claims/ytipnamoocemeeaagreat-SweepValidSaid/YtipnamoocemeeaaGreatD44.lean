/-
  Texts 44 of the claim.
-/
import Derived.Test.YtipnamoocemeeaaGreatD35
import Derived.Test.YtipnamoocemeeaaGreatD40
import Derived.Test.YtipnamoocemeeaaGreatD26
namespace Go.Proofs.YtipnamoocemeeaaGreat
open Go.RowKit
theorem three_ok (x : Int) (h : x = 2 ∨ x = 4 ∨ x = 5) (w : World) : Calls Tryz.prog 123 #[.int .i64 x] w fun r w' => r = .returned (.bool true) ∧ w = w' := by
  rcases h with rfl | rfl | rfl
  · go_enter Tryz.func123, Tryz.ntmps123
    go_wp2
    go_ret
    exact ⟨rfl, rfl⟩
  · go_enter Tryz.func123, Tryz.ntmps123
    go_wp2
    go_ret
    exact ⟨rfl, rfl⟩
  · go_enter Tryz.func123, Tryz.ntmps123
    go_wp2
    go_ret
    exact ⟨rfl, rfl⟩
def KdPost (w : World) (r : Ending) (w' : World) : Prop := ∃ a n c, r = .returned (.tuple #[.slice a n c, .bool true]) ∧ Below w.heap.size w w'
set_option maxRecDepth 100000 in
set_option maxHeartbeats 12800000 in
theorem kinds_ok (mp : List (Int × Int)) (hsp : SpV mp) (N : Int) (hN : N ≤ 512) (hsum : sumR mp = N) (v : Value) (w : World) (hr : Spn 0 w v mp) : Calls Tryz.prog 149 #[v, .int .i64 N] w (KdPost w) := by
  obtain ⟨va, vc, rfl⟩ := own_slice hr
  obtain ⟨n, hn⟩ : ∃ n, mp.length = n := ⟨_, rfl⟩
  have hn512 : n ≤ 512 := by
    have h6 := sumR_len mp (fun p hp => (hsp.1 p hp).1)
    omega
  have HR := hid hr
  have HN := hid hn
  have HSP := hid hsp
  have HSM := hid hsum
  rw [hn]
  obtain ⟨iI, hiI, hzI0, hzI1, hzI2⟩ := info_parts infoInt
  clear hr hn hsp hsum
  go_enter Tryz.func149, Tryz.ntmps149
  go_wp2
  go_loopw [6, 7, 8] (fun ov iv jv wr => ∃ (i : Nat) (m : Nat) (a : Option Addr) (c : Nat) (xs : List Value), i ≤ n ∧ iv = .int .i64 (i : Int) ∧ ov = .slice a m c ∧ Hid ((m : Int) = sumR (mp.take i)) ∧ Hid (wr.ownsRow w.heap.size 3 1 (.slice a m c) m xs) ∧ Below w.heap.size w wr) (fun _ iv _ _ => n - (intOf iv).toNat)
  case atStart => exact ⟨0, 0, none, 0, [], Nat.zero_le _, rfl, rfl, rfl, World.ownsRow_nil _ _ _ _, Below.refl _ _⟩
  case round =>
    obtain ⟨i, m, a, c, xs, hi, rfl, rfl, hm, hown, hbw⟩ := hrel
    have hii : (0 : Int) ≤ (i : Int) := Int.natCast_nonneg _
    have hpt := sumR_part mp i (fun x hx => (HSP.out.1 x hx).1)
    have hm512 : (m : Int) ≤ 512 := by have := hm.out; have := HSM.out; omega
    by_cases hlt : i < n
    · have hil : (i : Int) < (n : Int) := by omega
      obtain ⟨p, hp⟩ : ∃ p, mp[i]? = some p := ⟨_, List.getElem?_eq_getElem (by rw [HN.out]; exact hlt)⟩
      obtain ⟨g, cap, hv, y0, y1⟩ := HR.out.at hp
      cases hv
      obtain ⟨q1, q2, q3⟩ := HSP.out.1 p (List.mem_of_getElem? hp)
      have hpt2 := sumR_part mp (i + 1) (fun x hx => (HSP.out.1 x hx).1)
      have hst := sumR_take hp
      obtain ⟨pc, pk⟩ := p
      dsimp only at y0 y1 q1 q2 q3 hst
      obtain ⟨t, ht⟩ : ∃ t : Nat, pc = (t : Int) := ⟨pc.toNat, by omega⟩
      subst ht
      have hle : (m : Int) + (t : Int) ≤ N := by have := hm.out; have := HSM.out; omega
      have HNX : Hid (((m + t : Nat) : Int) = sumR (mp.take (i + 1))) := by show _ = _; have := hm.out; omega
      have sw : IntKind.i64.wrap (N - (m : Int)) = N - (m : Int) := IntWalk.i64_in _ (by omega)
      have d1 : decide ((t : Int) < 1) = false := decide_eq_false (by omega)
      have d2 : decide (N - (m : Int) < (t : Int)) = false := decide_eq_false (by omega)
      have z0 : ∀ X, Below w.heap.size w X → X.cell? ⟨g, i * 2, none⟩ = some (.int .i64 (t : Int)) := fun X h => cell_keep h y0
      have z1 : ∀ X, Below w.heap.size w X → X.cell? ⟨g, i * 2 + 1, none⟩ = some (.int .i64 pk) := fun X h => cell_keep h y1
      have hOW := hid hown.out
      have htN : (t : Int) ≤ 512 := by omega
      clear hpt hpt2 hst hp q1 q2 q3 hle y1 hm hown
      clear y0
      go_upto_region 8 with (fail)
      clear d1 d2 sw
      go_loopw [6, 8] (fun ov jv wq => ∃ (j : Nat) (a2 : Option Addr) (c2 : Nat) (xs2 : List Value), j ≤ t ∧ jv = .int .i64 (j : Int) ∧ ov = .slice a2 (m + j) c2 ∧ Hid (wq.ownsRow w.heap.size 3 1 (.slice a2 (m + j) c2) (m + j) xs2) ∧ Below w.heap.size w wq) (fun _ jv _ => t - (intOf jv).toNat)
      case atStart => exact ⟨0, a, c, xs, Nat.zero_le _, rfl, rfl, hOW.out, hbw⟩
      case round =>
        obtain ⟨j, a2, c2, xs2, hj, rfl, rfl, hown2, hbq⟩ := hrel
        have hji : (0 : Int) ≤ (j : Int) := Int.natCast_nonneg _
        by_cases hjt : j < t
        · have hjl : (j : Int) < (t : Int) := by omega
          obtain ⟨M, hM⟩ : ∃ M, m + j = M := ⟨_, rfl⟩
          rw [hM] at hown2 ⊢
          have hM2 : m + (j + 1) = M + 1 := by omega
          have hown3 : (wr.alloc (.cells #[.int .i64 pk] 3)).ownsRow w.heap.size 3 1 (.slice a2 M c2) M xs2 := own_keeps (F := fun _ => False) hown2.out (Keeps.of_below (bal' _ _)) (fun _ _ e => e)
          have hcl : ∀ j u, ([.int .i64 pk] : List Value)[j]? = some u → (wr.alloc (.cells #[.int .i64 pk] 3)).cell? ((⟨wr.heap.size, 0, none⟩ : Addr).add j) = some u := fun j u hj => hpRowAt2 (hpNew wr _) j u hj
          have hz : w.heap.size ≤ (wr.alloc (.cells #[.int .i64 pk] 3)).heap.size := by have := hbq.size; simp; omega
          have hkm : M + 1 ≤ maxLen := by unfold maxLen; omega
          have hkb : (M + 1) * 8 ≤ 140737488355328 := by omega
          have HM2 := hid hM2
          clear hM hM2
          go_wp2_with (at_builtin; refine wpList_appN rfl (.tmp 42) (.tmp 48) 136 rfl w.heap.size 3 iI _ 1 8 Tryz.underlying136 hiI hzI0 hzI1 hzI2 rfl (by decide) (.slice a2 M c2) M xs2 rfl hown3 ⟨wr.heap.size, 0, none⟩ 1 1 [.int .i64 pk] rfl rfl hcl (fun u hu => (List.mem_singleton.1 hu) ▸ rfl) hkm hkb hz ?_; intro v13 w13 hown13 hgr13 hnew13; obtain ⟨a13, c13, rfl⟩ := own_slice hown13)
          have hb13 : Below w.heap.size w w13 := by
            have h1 : Below w.heap.size w (wr.alloc (.cells #[.int .i64 pk] 3)) := bta hbq (Nat.le_refl _) _
            exact h1.trans ((Keeps.of_grown hgr13 (F := fun j => (Value.slice a2 M c2).ownBlock = some j) (fun j e => e)).below h1.size (fun j hj e => by have := (hown3.lt j e).1; omega))
          have hown14 : Hid (∃ xs3, w13.ownsRow w.heap.size 3 1 (.slice a13 (m + (j + 1)) c13) (m + (j + 1)) xs3) := by
            show ∃ _, _
            rw [HM2.out]
            exact ⟨_, hown13⟩
          have HE : Hid (Value.slice a13 (M + 1) c13 = .slice a13 (m + (j + 1)) c13) := by show _ = _; rw [HM2.out]
          obtain ⟨xs3, hx3⟩ := hown14.out
          have HX3 := hid hx3
          clear hown13 hx3 hown14
          go_roundw
          case rel => exact ⟨j + 1, a13, c13, xs3, by omega, by go_num, HE.out, HX3.out, hb13⟩
          case measure => simp [intOf]; omega
        · obtain rfl : j = t := by omega
          have HOE := hid hown2.out
          clear hown2
          go_wp2
          go_roundw
          case rel => exact ⟨i + 1, m + j, a2, c2, xs2, by omega, by go_num, rfl, HNX.out, HOE.out, hbq⟩
          case measure => simp [intOf]; omega
    · obtain rfl : i = n := by omega
      have hmN : (m : Int) = N := by
        have h1 := hm.out
        rw [List.take_of_length_le (by rw [HN.out]; exact Nat.le_refl _), HSM.out] at h1
        exact h1
      subst hmN
      clear hpt hm hown
      go_wp2
      refine bodyPost_ret (v := .tuple #[.slice a m c, .bool true]) (by simp [results, Tryz.results149, go_sem]) rfl ?_
      exact ⟨a, m, c, rfl, hbw⟩
set_option maxRecDepth 100000 in
set_option maxHeartbeats 12800000 in
theorem rtable_ok (k : Nat) (hk : k < 4) (wn : Int × Int) (hwn : wn.2 ≤ 512) (t : Tb) (h : TbV k wn t) (v : Value) (w : World) (hr : Spn 0 w v t.map) :
    Calls Tryz.prog 124 #[.agg #[.int .i64 t.st, .int .i64 t.most, v], .int .i64 (k : Int), .agg #[.int .i64 wn.1, .int .i64 wn.2]] w (BoolPost w true) := by
  obtain ⟨va, vc, rfl⟩ := own_slice hr
  obtain ⟨w1, w2⟩ := wn
  obtain ⟨st, mo, mp⟩ := t
  unfold TbV at h
  dsimp only at h hr hwn ⊢
  obtain ⟨n, hn⟩ : ∃ n, mp.length = n := ⟨_, rfl⟩
  obtain ⟨W0, hW0⟩ : ∃ W, (w.alloc (.cells #[.int .i64 st, .int .i64 mo, .slice va n vc] 88)).alloc (.cells #[.int .i64 w1, .int .i64 w2] 24) = W := ⟨_, rfl⟩
  have hb0 : Below w.heap.size w W0 := by rw [← hW0]; exact bta (bal' w _) (Nat.le_refl _) _
  have pt : W0.heap[w.heap.size]? = some (.cells #[.int .i64 st, .int .i64 mo, .slice va n vc] 88) := by rw [← hW0]; exact hpKeep (hpNew w _) (bal' _ _)
  have pw : W0.heap[w.heap.size + 1]? = some (.cells #[.int .i64 w1, .int .i64 w2] 24) := by rw [← hW0]; have h := hpNew (w.alloc (.cells #[.int .i64 st, .int .i64 mo, .slice va n vc] 88)) (.cells #[.int .i64 w1, .int .i64 w2] 24); rw [World.size_alloc] at h; exact h
  have r1 : ∀ X, Below W0.heap.size W0 X → X.cell? ⟨w.heap.size + 1, 1, none⟩ = some (.int .i64 w2) := fun X h => hpCell (hpKeep pw h) 1
  have t0 : ∀ X, Below W0.heap.size W0 X → X.cell? ⟨w.heap.size, 0, none⟩ = some (.int .i64 st) := fun X h => hpCell (hpKeep pt h) 0
  have t1 : ∀ X, Below W0.heap.size W0 X → X.cell? ⟨w.heap.size, 1, none⟩ = some (.int .i64 mo) := fun X h => hpCell (hpKeep pt h) 1
  have t2 : ∀ X, Below W0.heap.size W0 X → X.cell? ⟨w.heap.size, 2, none⟩ = some (.slice va n vc) := fun X h => hpCell (hpKeep pt h) 2
  have hrr : Below W0.heap.size W0 W0 := Below.refl _ _
  have HR := hid hr
  have HN := hid hn
  have HW0 := hid hW0
  have HB0 := hid hb0
  rw [hn]
  clear hr hW0 hb0 pw pt
  rcases h with ⟨rfl, h1, rfl, h2⟩ | ⟨h0, h1, rfl, h2⟩ | ⟨rfl, h1, h2, h3, h4, h5⟩
  · subst h1
    have hz : n = 0 := by rw [← hn, h2]; rfl
    subst hz
    clear hn h2 HR HN
    go_enter Tryz.func124, Tryz.ntmps124
    go_upto_region 1 with (fail)
    rw [HW0.out]
    go_wp2
    go_ret
    exact ⟨rfl, HB0.out⟩
  · have hz : n = 0 := by rw [← hn, h2]; rfl
    subst hz
    have HS : Hid (∀ X, Calls Tryz.prog 123 #[.int .i64 st] X fun r w' => r = .returned (.bool true) ∧ X = w') := fun X => three_ok st (.inr h0) X
    have g1 : (st != 2) = true := by rw [bne_iff_ne]; omega
    have g3 : (w2 == 0) = false := by rw [beq_eq_false_iff_ne]; exact h1
    clear hn h2 HR HN h0 h1
    go_enter Tryz.func124, Tryz.ntmps124
    go_upto_region 1 with (fail)
    rw [HW0.out]
    go_wp2_with (go_at_call 123; (with_reducible refine (HS.out _).mono ?_); rintro r w2 ⟨rfl, rfl⟩)
    go_ret
    exact ⟨rfl, HB0.out⟩
  · have HSP := hid h4
    have hn512 : n ≤ 512 := by
      have h6 := sumR_len mp (fun p hp => (h4.1 p hp).1)
      omega
    have g3 : (w2 == 0) = false := by rw [beq_eq_false_iff_ne]; omega
    have d1 : decide (mo < 1) = false := decide_eq_false (by omega)
    have d2 : decide (limI ((k : Int) + 1) < mo) = false := decide_eq_false (by omega)
    have sw1 : IntKind.i64.wrap ((k : Int) + 1) = (k : Int) + 1 := IntWalk.i64_in _ (by omega)
    have HLM : Hid (∀ X, Calls Tryz.prog 113 #[.int .i64 ((k : Int) + 1)] X fun r w' => r = .returned (.int .i64 (limI ((k : Int) + 1))) ∧ X = w') := fun X => rlimit_any _ X
    have HKD : Hid (∀ X, Below w.heap.size w X → Calls Tryz.prog 149 #[.slice va n vc, .int .i64 w2] X (KdPost X)) := fun X hX => kinds_ok mp h4 w2 hwn h5 _ X (by rw [← hn]; exact HR.out.keep hX)
    clear hn h1 h2 h3 h4 h5 hwn
    generalize limI ((k : Int) + 1) = lim at *
    have u1 : W0.cell? ⟨w.heap.size, 1, none⟩ = some (.int .i64 mo) := t1 W0 hrr
    go_enter Tryz.func124, Tryz.ntmps124
    go_upto_region 1 with (fail)
    rw [HW0.out]
    go_upto_region 5 with (fail)
    go_quiet ((go_at_call 113; with_reducible exact Calls.quiet_of_same (v := .int .i64 lim) ((HLM.out _).mono fun _ _ h => ⟨h.1, h.2.symm⟩)))
    have hq : Below W0.heap.size W0 (W0.drewN nq) := below_drewN (Below.refl _ _) _
    clear u1 d1 d2
    go_wp2
    go_loopw [7] (fun iv wr => ∃ i : Nat, i ≤ n ∧ iv = .int .i64 (i : Int) ∧ Below W0.heap.size W0 wr) (fun iv _ => n - (intOf iv).toNat)
    case atStart => exact ⟨0, Nat.zero_le _, rfl, hq⟩
    case round =>
      obtain ⟨i, hi, rfl, hbr⟩ := hrel
      have hii : (0 : Int) ≤ (i : Int) := Int.natCast_nonneg _
      have hbw : Below w.heap.size w wr := bt HB0.out hbr (Nat.le_refl _)
      have u2 : wr.cell? ⟨w.heap.size, 2, none⟩ = some (.slice va n vc) := t2 wr hbr
      by_cases hlt : i < n
      · have hil : (i : Int) < (n : Int) := by omega
        obtain ⟨p, hp⟩ : ∃ p, mp[i]? = some p := ⟨_, List.getElem?_eq_getElem (by rw [HN.out]; exact hlt)⟩
        obtain ⟨g, cap, hv, y0, y1⟩ := (HR.out.keep hbw).at hp
        cases hv
        obtain ⟨q1, q2, q3⟩ := HSP.out.1 p (List.mem_of_getElem? hp)
        obtain ⟨pc, pk⟩ := p
        dsimp only at y0 y1 q1 q2 q3
        have c1 : decide (pk < 1) = false := decide_eq_false (by omega)
        have c3 : decide (3 < pk) = false := decide_eq_false (by omega)
        have HP := hid hp
        have HBR := hid hbr
        clear hp q1 q2 q3 y0
        by_cases h0 : 0 < i
        rotate_left
        · have d0 : decide ((0 : Int) < (i : Int)) = false := decide_eq_false (by omega)
          have d0n : decide (0 < i) = false := decide_eq_false h0
          clear h0
          go_upto_region 10 with (fail)
          go_quiet (fail)
          go_wp2
          go_roundw
          case rel => exact ⟨i + 1, by omega, by go_num, below_drewN HBR.out _⟩
          case measure => simp [intOf]; omega
        · obtain ⟨m, hm⟩ : ∃ m, i = m + 1 := ⟨i - 1, by omega⟩
          obtain ⟨q, hq⟩ : ∃ q, mp[m]? = some q := ⟨_, List.getElem?_eq_getElem (by rw [HN.out]; omega)⟩
          obtain ⟨g', cap', hv', -, yq⟩ := (HR.out.keep hbw).at hq
          obtain rfl : g = g' := by
            have e := hv'
            rw [HN.out] at e
            cases e
            rfl
          have hne := HSP.out.2 m q _ hq (by rw [← hm]; exact HP.out)
          obtain ⟨qk, hqk⟩ : ∃ z, q.2 = z := ⟨_, rfl⟩
          rw [hqk] at yq hne
          dsimp only at hne
          have gne : (qk == pk) = false := by rw [beq_eq_false_iff_ne]; exact hne
          have sw3 : IntKind.i64.wrap ((i : Int) - 1) = (m : Int) := (IntWalk.i64_in _ (by omega)).trans (by omega)
          have hml : (m : Int) < (n : Int) := by omega
          have hmi : (0 : Int) ≤ (m : Int) := Int.natCast_nonneg _
          have d0 : decide ((0 : Int) < (i : Int)) = true := decide_eq_true (by omega)
          have d0n : decide (0 < i) = true := decide_eq_true h0
          clear hv' hq hqk hne h0 hm
          go_upto_region 10 with (fail)
          go_quiet (fail)
          go_wp2
          go_roundw
          case rel => exact ⟨i + 1, by omega, by go_num, below_drewN HBR.out _⟩
          case measure => simp [intOf]; omega
      · obtain rfl : i = n := by omega
        clear hlt
        go_wp2_with (go_at_call 149; (with_reducible refine (HKD.out _ hbw).mono ?_); rintro r w5 ⟨a5, n5, c5, rfl, hb5⟩)
        go_ret
        exact ⟨rfl, bt hbw hb5 (Nat.le_refl _)⟩
end Go.Proofs.YtipnamoocemeeaaGreat
