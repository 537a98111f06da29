/-
  Runs of numbers: the contracts of Append and Runs.
-/
import Derived.Test.YtliblgmpclefgaaRnb
import Derived.Deep.RegionHeld3
namespace Go.Proofs.Ytliblgmpclefgaa
open Go.RowKit

def pushAll (l m : List (Int × Int)) : List (Int × Int) := m.foldl (fun a p => pushR a p.1 p.2) l
theorem pushAll_ok : ∀ (m l : List (Int × Int)), RnOk l → (∀ p ∈ m, 1 ≤ p.1) → sumR l + sumR m ≤ 1024 → RnOk (pushAll l m) ∧ sumR (pushAll l m) = sumR l + sumR m
  | [], l, h, _, _ => ⟨h, by simp [pushAll, sumR]⟩
  | p :: m, l, h, hp, hs => by
    have h1 := hp p (List.mem_cons_self ..)
    have h2 := sumR_len m (fun q hq => hp q (List.mem_cons_of_mem _ hq))
    simp only [sumR] at hs
    obtain ⟨h3, h4⟩ := pushAll_ok m (pushR l p.1 p.2) (pushR_ok h h1 (by omega)) (fun q hq => hp q (List.mem_cons_of_mem _ hq)) (by rw [pushR_sum]; omega)
    refine ⟨h3, ?_⟩
    show sumR (pushAll (pushR l p.1 p.2) m) = _
    rw [h4, pushR_sum]
    simp only [sumR]
    omega
theorem pushAll_part {l m : List (Int × Int)} (h : RnOk l) (hm : RnOk m) (hs : sumR l + sumR m ≤ 1024) (k : Nat) : RnOk (pushAll l (m.take k)) :=
  (pushAll_ok (m.take k) l h (fun p hp => hm.pos p (List.mem_of_mem_take hp)) (by have := (hm.part k).2; omega)).1
theorem pushAll_snoc (l m : List (Int × Int)) (p : Int × Int) : pushAll l (m ++ [p]) = pushR (pushAll l m) p.1 p.2 := by unfold pushAll; rw [List.foldl_append]; rfl

def AppdPost (w : World) (l : List (Int × Int)) (r : Ending) (w' : World) : Prop := ∃ v, r = .returned (.agg #[v]) ∧ Rns w.heap.size w' v l ∧ Below w.heap.size w w'

set_option maxRecDepth 100000 in
set_option maxHeartbeats 6400000 in
theorem rappend_any (v vm : Value) (l m : List (Int × Int)) (w : World) (hr : Rns 0 w v l) (hrm : Rns 0 w vm m) (hl : RnOk l) (hm : RnOk m) (hs : sumR l + sumR m ≤ 1024) :
    Calls Try.prog 132 #[.agg #[v], .agg #[vm]] w (AppdPost w (pushAll l m)) := by
  obtain ⟨W0, hW0⟩ : ∃ W, ((w.alloc (.cells #[v] 148)).alloc (.cells #[vm] 148)).alloc (.cells #[.slice none 0 0] 148) = W := ⟨_, rfl⟩
  have hb0 : Below w.heap.size w W0 := by rw [← hW0]; exact bta (bta (bal' w _) (Nat.le_refl _) _) (Nat.le_refl _) _
  have hz0 : W0.heap.size = w.heap.size + 3 := by rw [← hW0]; simp
  have pA : W0.heap[w.heap.size]? = some (.cells #[v] 148) := by rw [← hW0]; exact hpKeep (hpKeep (hpNew w _) (bal' _ _)) (bal' _ _)
  have pB : W0.heap[w.heap.size + 1]? = some (.cells #[vm] 148) := by
    rw [← hW0]
    refine hpKeep ?_ (bal' _ _)
    have := hpNew (w.alloc (.cells #[v] 148)) (.cells #[vm] 148)
    simpa using this
  have pC : W0.heap[w.heap.size + 1 + 1]? = some (.cells #[.slice none 0 0] 148) := by
    rw [← hW0]
    have := hpNew ((w.alloc (.cells #[v] 148)).alloc (.cells #[vm] 148)) (.cells #[.slice none 0 0] 148)
    simpa using this
  have a0 : ∀ X, Below W0.heap.size W0 X → X.cell? ⟨w.heap.size, 0, none⟩ = some v := fun X h => hpCell (hpKeep pA h) 0
  have b0' : ∀ X, Below W0.heap.size W0 X → X.cell? ⟨w.heap.size + 1, 0, none⟩ = some vm := fun X h => hpCell (hpKeep pB h) 0
  have k0 : Below W0.heap.size W0 W0 := Below.refl _ _
  have a00 := a0 W0 k0
  obtain ⟨s, hsl⟩ : ∃ s, sumR l = s := ⟨_, rfl⟩
  have hs0 : 0 ≤ s := by have := sumR_len l hl.pos; omega
  have hs1 : s ≤ 1024 := by have := hl.sum; omega
  have sw : IntKind.i64.wrap (65536 - s) = 65536 - s := IntWalk.i64_in _ (by omega)
  have HCL : Hid (Calls Try.prog 101 #[v] W0 fun r w' => ∃ v', r = .returned v' ∧ Rns W0.heap.size w' v' l ∧ Below W0.heap.size W0 w') := cloneR_any v l W0 (hr.keep hb0) (by have := hl.len; omega)
  have HLN : Hid (∀ X, Below W0.heap.size W0 X → Calls Try.prog 100 #[.agg #[v]] X fun r w' => r = .returned (.int .i64 s) ∧ Below X.heap.size X w') := fun X h => by rw [← hsl]; exact rlen_any v l X (hr.keep (bt hb0 h (Nat.le_refl _))) hl
  have HPT : Hid (∀ X, Below W0.heap.size W0 X → Calls Try.prog 134 #[.agg #[vm], .int .i64 0, .int .i64 (65536 - s)] X fun r w' => ∃ a c, r = .returned (.slice a m.length c) ∧ Rns X.heap.size w' (.slice a m.length c) m ∧ Below X.heap.size X w') := fun X h => by
    refine (rpart_any vm m (65536 - s) X (hrm.keep (bt hb0 h (Nat.le_refl _))) hm (by have := hm.sum; omega)).mono ?_
    rintro r w' ⟨v', rfl, h1, h2⟩
    obtain ⟨a, c, rfl⟩ := h1.slice
    exact ⟨a, c, rfl, h1, h2⟩
  have HW0 := hid hW0
  have HB0 := hid hb0
  have HZ0 := hid hz0
  have PC := hid pC
  have HRM := hid hrm
  have HL := hid hl
  have HMO := hid hm
  have HSS := hid hs
  obtain ⟨n, hN⟩ : ∃ n, m.length = n := ⟨_, rfl⟩
  have HN := hid hN
  have hn : n ≤ 1024 := by have := hm.len; omega
  rw [hN] at HPT
  clear hW0 hb0 hz0 pA pB pC hr hrm hl hm hs hsl hN
  go_enter Try.func132, Try.ntmps132
  go_upto_region 1 with (fail)
  rw [HW0.out]
  go_upto_region 2 with (go_at_call 101; (with_reducible refine HCL.out.mono ?_); rintro r w1 ⟨v1, rfl, hr1, hb1⟩)
  have HR1 := hid hr1
  have kD : Below W0.heap.size W0 w1.drew := hb1.drew
  clear hr1
  go_region_held3 (fun X => Below W0.heap.size W0 X) ((first | exact kD | assumption)) (first | (go_at_call 100; (with_reducible refine (HLN.out _ (by assumption)).mono ?_); rintro r w2 ⟨rfl, hb2⟩; have hB2 := bt (by assumption) hb2 (Nat.le_refl _)) | (go_at_call 134; (with_reducible refine (HPT.out _ (by assumption)).mono ?_); rintro r w3 ⟨pa, pc, rfl, hr3, hb3⟩; have hB3 := bt (by assumption) hb3 (Nat.le_refl _)))
  have hb13 : Below w1.heap.size w1 w3 := bt (Below.refl _ _).drew (bt hb2 hb3 (Nat.le_refl _)) (Nat.le_refl _)
  have HR3 : Hid (Rns W0.heap.size w3 v1 l) := HR1.out.keep hb13
  have HP3 : Hid (Rns 0 w3 (.slice pa n pc) m) := own_lower hr3 (Nat.zero_le _)
  have hne : ∀ j, v1.ownBlock = some j → (Value.slice pa n pc).ownBlock ≠ some j := fun j h1 h2 => by
    have e1 := (HR1.out.lt j h1).2
    have e2 := (hr3.lt j h2).1
    have := hb2.size
    simp at this
    omega
  have HB3 := hid hB3
  have HNE := hid hne
  clear hr3 a0 b0' k0 a00 kD hb1 hb2 hB2 hb3 hB3 hb13 hne
  go_wp2
  go_loopw [5, 17] (fun ov iv wr => ∃ k : Nat, k ≤ n ∧ iv = .int .i64 k ∧ Hid (Rns W0.heap.size wr ov (pushAll l (m.take k))) ∧ Hid (Rns 0 wr (.slice pa n pc) m) ∧ Below W0.heap.size W0 wr ∧ Hid (∀ j, ov.ownBlock = some j → (Value.slice pa n pc).ownBlock ≠ some j)) (fun _ iv _ => n - (intOf iv).toNat)
  case atStart => exact ⟨0, Nat.zero_le _, rfl, HR3.out, HP3.out, HB3.out, HNE.out⟩
  case round =>
    obtain ⟨k, hk, rfl, hro, hrp, hbw, hne⟩ := hrel
    by_cases hlt : k < n
    · obtain ⟨p, hp⟩ := gs (l := m) HN.out hlt
      obtain ⟨g, cap, hv, d0, d1, _⟩ := hrp.out.at hp
      rw [HN.out] at hv
      simp only [Value.slice.injEq, true_and] at hv
      obtain ⟨rfl, rfl⟩ := hv
      have hp1 := HMO.out.pos p (List.mem_of_getElem? hp)
      have hp2 : p.1 ≤ 1024 := by
        have h1 := HMO.out.part (k + 1)
        have h0 := HMO.out.part k
        have h2 := HMO.out.sum
        rw [List.take_add_one, hp, sumR_append] at h1
        have h3 : sumR (some p).toList = p.1 + 0 := rfl
        rw [h3] at h1
        omega
      have HOK : Hid (RnOk (pushAll l (m.take k))) := pushAll_part HL.out HMO.out HSS.out k
      have HNX : Hid (pushAll l (m.take (k + 1)) = pushR (pushAll l (m.take k)) p.1 p.2) := by show _ = _; rw [take_succ_snoc hp, pushAll_snoc]
      obtain ⟨c, hc⟩ : ∃ c, p.1 = c := ⟨_, rfl⟩
      obtain ⟨x, hx⟩ : ∃ x, p.2 = x := ⟨_, rfl⟩
      rw [hc] at d0 hp1 hp2 HNX
      rw [hx] at d1 HNX
      have hsz := hbw.size
      have HPU : Hid (Calls Try.prog 135 #[u5, .agg #[.int .i64 c, .int .i64 x]] (wr.alloc (.cells #[.int .i64 c, .int .i64 x] 153)) (PushPost W0.heap.size (wr.alloc (.cells #[.int .i64 c, .int .i64 x] 153)) u5 (pushAll l (m.take (k + 1))))) := by
        rw [HNX.out]
        exact rpush_any _ _ _ c x _ (hro.out.keep (bal' _ _)) (by simp; omega) HOK.out hp1 hp2
      have hki : (0 : Int) ≤ (k : Int) := Int.natCast_nonneg _
      have hkl : (k : Int) < (n : Int) := by omega
      clear hp hc hx hp1 hp2
      go_wp2_with (go_at_call 135; (with_reducible refine HPU.out.mono ?_); rintro r w5 ⟨v5, rfl, hr5, hk5, hn5⟩)
      have hb5 : Below W0.heap.size W0 w5 := (bta hbw (Nat.le_refl _) _).trans (hk5.below (by simp; omega) (fun j hj e => by have := (hro.out.lt j e).1; omega))
      have hp5 : Hid (Rns 0 w5 (.slice (some ⟨g, 0, none⟩) n pc) m) := (hrp.out.keep (bal' wr _)).keeps hk5 (fun j h1 h2 => hne.out j h2 h1)
      have hne5 : Hid (∀ j, v5.ownBlock = some j → (Value.slice (some ⟨g, 0, none⟩) n pc).ownBlock ≠ some j) := fun j h1 h2 => by
        rcases hn5 j h1 with h3 | h3
        · exact hne.out j h3 h2
        · have := (hrp.out.lt j h2).2
          simp at h3
          omega
      have HR5 := hid hr5
      clear hr5 hk5 hn5
      go_roundw
      case rel => exact ⟨k + 1, by omega, by go_num, HR5.out, hp5.out, hb5, hne5.out⟩
      case measure => simp [intOf]; omega
    · obtain rfl : k = n := by omega
      have HE : Hid (Rns w.heap.size wr u5 (pushAll l m)) := by
        have h := hro.out
        rw [List.take_of_length_le (by rw [HN.out]; exact Nat.le_refl _)] at h
        exact own_lower h HB0.out.size
      have hpc := hpKeep PC.out hbw
      have z0 : wr.cell? ⟨w.heap.size + 1 + 1, 0, none⟩ = some (.slice none 0 0) := hpCell hpc 0
      have zf : wr.frozen? ⟨w.heap.size + 1 + 1, 0, none⟩ = false := hpFree hpc 0
      have hne2 : Hid (∀ j, u5.ownBlock = some j → j ≠ w.heap.size + 1 + 1) := fun j h1 e => by have := (hro.out.lt j h1).1; have := HZ0.out; omega
      clear hro hrp hne
      obtain ⟨ua, uc, rfl⟩ := HE.out.slice
      go_wp2
      refine bodyPost_ret (v := .agg #[.slice ua (pushAll l m).length uc]) (by simp [results, Try.results132, go_sem, z0]) rfl ?_
      have hk := (Keeps.refl (· = w.heap.size + 1 + 1) wr).set ⟨w.heap.size + 1 + 1, 0, none⟩ (.slice ua (pushAll l m).length uc) rfl
      exact ⟨_, rfl, HE.out.keeps hk (fun j h1 e => hne2.out j h1 e), (bt HB0.out hbw (Nat.le_refl _)).setCell (p := ⟨w.heap.size + 1 + 1, 0, none⟩) (by show w.heap.size ≤ w.heap.size + 1 + 1; omega) _⟩

set_option maxHeartbeats 1600000 in
theorem rruns_any (v : Value) (l : List (Int × Int)) (w : World) (hv : Rns 0 w v l) (hl : l.length ≤ 1000000) :
    Calls Try.prog 99 #[.agg #[v]] w fun r w' => ∃ v', r = .returned v' ∧ Rns w.heap.size w' v' l ∧ Below w.heap.size w w' := by
  have HC := hid (cloneR_any v l (w.alloc (.cells #[v] 148)) (hv.keep (bal' w _)) hl)
  clear hv
  go_enter Try.func99, Try.ntmps99
  go_wp2_with (go_at_call 101; (with_reducible refine HC.out.mono ?_); rintro r w1 ⟨v1, rfl, hr1, hb1⟩)
  go_ret
  exact ⟨v1, rfl, own_lower hr1 (by simp), bt (bal' w _) hb1 (Nat.le_refl _)⟩

end Go.Proofs.Ytliblgmpclefgaa
