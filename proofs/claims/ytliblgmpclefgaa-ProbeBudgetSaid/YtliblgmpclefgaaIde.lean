/-
  The contract of the identification's Result.
-/
import Derived.Test.YtliblgmpclefgaaIdd
namespace Go.Proofs.Ytliblgmpclefgaa
open Go.RowKit

/-- What Result answers. -/
def IdRes (w : World) (st lv : Int) (l : List Ob) (r : Ending) (w' : World) : Prop :=
  ∃ oa oc, r = .returned (.tuple #[.int .i64 st, .int .i64 lv, .slice oa l.length oc]) ∧ (∀ W', Agree w.heap.size w' W' → Obs W' (.slice oa l.length oc) l) ∧ Below w.heap.size w w'

theorem IdAt.reads {P : Nat → Prop} {W : World} {g : Nat} {x : Idn} {v : Value} {cs : List Value} (h : IdAt P W g x v cs) : Obs W v x.objs := Obs.of_csl h.own (CsL.mono (fun _ _ hz => hz.q) _ _ h.obs) rfl

set_option maxRecDepth 100000 in
set_option maxHeartbeats 6400000 in
theorem iresult_any {P : Nat → Prop} {w : World} {g : Nat} {x : Idn} {v : Value} {cs : List Value} (h : IdAt P w g x v cs) (hx : x.fin) (lv : Int) (l : List Ob) (hl : Hid (lv = if x.st = 2 then x.level else 0)) (hL : Hid (l = if x.st = 2 then x.objs else [])) :
    Calls Try.prog 55 #[.pointer (some ⟨g, 0, none⟩)] w (IdRes w x.st lv l) := by
  have HAT := hid h.at_
  have c0 : ∀ W, Below w.heap.size w W → W.cell? ⟨g, 0, none⟩ = some (.int .i64 x.st) := fun W h => hpCell (hpKeep HAT.out h) 0
  have c1 : ∀ W, Below w.heap.size w W → W.cell? ⟨g, 1, none⟩ = some (.int .i64 x.level) := fun W h => hpCell (hpKeep HAT.out h) 1
  have c2 : ∀ W, Below w.heap.size w W → W.cell? ⟨g, 2, none⟩ = some v := fun W h => hpCell (hpKeep HAT.out h) 2
  have c0' := c0 w (Below.refl _ _)
  have c2' := c2 w (Below.refl _ _)
  have HO := hid h.reads
  obtain ⟨va, vc, rfl⟩ := own_slice h.own
  have HX := hid hx
  clear h hx
  by_cases h2 : x.st = 2
  · have d2 : (x.st != 2) = false := by rw [bne_eq_false_iff_eq]; exact h2
    have HLV : Hid (lv = x.level) := by show _ = _; rw [hl.out, if_pos h2]
    obtain rfl : l = x.objs := by rw [hL.out, if_pos h2]
    clear h2 hl hL
    obtain ⟨n, hN⟩ : ∃ n, x.objs.length = n := ⟨_, rfl⟩
    have HN := hid hN
    have hn : n ≤ 1280 := by have := HX.out.ob; omega
    rw [hN] at c2 c2'
    clear hN
    go_enter Try.func55, Try.ntmps55
    go_wp2
    clear c0' c2'
    go_loopw [4, 23] (fun ov iv wr => ∃ (k : Nat) (oa : Option Addr) (oc : Nat) (cs : List Value), k ≤ n ∧ iv = .int .i64 k ∧ ov = .slice oa k oc ∧ Hid (wr.ownsRow w.heap.size 69 2 (.slice oa k oc) k cs) ∧ Hid (CsL 2 (ObQF (DevF w.heap.size (.slice oa k oc)) wr) cs (x.objs.take k)) ∧ Below w.heap.size w wr) (fun _ iv _ => n - (intOf iv).toNat)
    case atStart => exact ⟨0, none, 0, [], Nat.zero_le _, rfl, rfl, World.ownsRow_nil _ _ _ _, rfl, Below.refl _ _⟩
    case round =>
      obtain ⟨k, oa, oc, cs', hk, rfl, rfl, hown, hcs, hbw⟩ := hrel
      by_cases hlt : k < n
      · obtain ⟨z, hgx⟩ := get_some (l := x.objs) rfl (by rw [HN.out]; exact hlt)
        obtain ⟨b, o, cc, hv, _, _, hcell⟩ := (HO.out.keep hbw).at (by rintro e; rw [e] at hgx; simp at hgx)
        simp only [Value.slice.injEq, HN.out, true_and] at hv
        obtain ⟨rfl, rfl⟩ := hv
        obtain ⟨z1, vv, z2, hvv⟩ := hcell k z hgx
        obtain ⟨xa, xc, rfl, _⟩ := id hvv
        have hzl : z.val.length ≤ 300 := HX.out.vs z (List.mem_of_getElem? hgx)
        have HGX := hid hgx
        have HVV := hid hvv
        clear hcell hvv hgx
        obtain ⟨q, hq⟩ : ∃ q, z.val.length = q := ⟨_, rfl⟩
        have HQ := hid hq
        rw [hq] at z2 HVV hzl
        obtain ⟨zi, hzi⟩ : ∃ q, z.id = q := ⟨_, rfl⟩
        have HZI := hid hzi
        rw [hzi] at z1
        obtain ⟨WX, hWX⟩ : ∃ W, wr.alloc (.cells #[.int .i64 zi, .slice xa q xc] 69) = W := ⟨_, rfl⟩
        have hbx : Below wr.heap.size wr WX := by rw [← hWX]; exact bal' _ _
        have px : WX.heap[wr.heap.size]? = some (.cells #[.int .i64 zi, .slice xa q xc] 69) := by rw [← hWX]; exact hpNew _ _
        have x0 : ∀ X, Below WX.heap.size WX X → X.cell? ⟨wr.heap.size, 0, none⟩ = some (.int .i64 zi) := fun X h => hpCell (hpKeep px h) 0
        have x1 : ∀ X, Below WX.heap.size WX X → X.cell? ⟨wr.heap.size, 1, none⟩ = some (.slice xa q xc) := fun X h => hpCell (hpKeep px h) 1
        have k0 : Below WX.heap.size WX WX := Below.refl _ _
        have kd : Below WX.heap.size WX WX.drew := (Below.refl _ _).drew
        have kA : ∀ W X, Below WX.heap.size WX W → Below WX.heap.size WX (W.alloc X) := fun W X h => bta h (Nat.le_refl _) X
        have HCL : Hid (∀ X, Below WX.heap.size WX X → Calls Try.prog 46 #[.slice xa q xc] X fun r w' => ∃ v', r = .returned v' ∧ w'.ownsRow X.heap.size 5 1 v' q (u8s z.val) ∧ Below X.heap.size X w') := fun X hX => by
          have h := clone_any (.slice xa q xc) z.val X (HVV.out.keep (bt hbx hX (Nat.le_refl _))) (by omega)
          rw [HQ.out] at h
          exact h
        obtain ⟨iO, hiO, hzO0, hzO1, hzO2⟩ := info_parts infoOb
        have hki : (0 : Int) ≤ (k : Int) := Int.natCast_nonneg _
        have hkl : (k : Int) < (n : Int) := by omega
        have HBX := hid hbx
        have hszr := hbw.size
        have HO' := hid hown.out
        clear hq hzi px hbx hown
        go_upto_region 8 with (fail)
        go_region_law (first
          | (refine step_appN rfl (.tmp 27) (.tmp 34) 37 rfl w.heap.size 69 iO _ 2 32 Try.underlying37 hiO hzO0 hzO1 hzO2 rfl (by decide) (.slice oa k oc) k cs' rfl HO5.out ⟨w5.heap.size, 0, none⟩ 1 1 [.int .i64 zi, .slice a5 q c5] rfl rfl (newsNew w5 [.int .i64 zi, .slice a5 q c5] _) (by intro u hu; simp at hu; rcases hu with rfl | rfl <;> rfl) (by unfold maxLen; omega) (by omega) (by have := hb5.size; simp; omega) ?_; intro v6 w6 hown6 hgr6 hnew6; obtain ⟨a6, c6, rfl⟩ := own_slice hown6)
          | (go_wp2_with (go_at_call 46; refine (HCL.out _ kd).mono ?_; rintro r w5 ⟨v5, rfl, hown5, hbel5⟩; obtain ⟨a5, c5, rfl⟩ := own_slice hown5; have hb5x : Below WX.heap.size WX w5 := bt kd hbel5 (Nat.le_refl _); have hb5 : Below wr.heap.size wr w5 := bt HBX.out hb5x (Nat.le_refl _); have HO5 := hid ((own_keeps HO'.out (Keeps.of_below (F := fun _ => False) hb5) (fun _ _ f => f)).alloc (.cells #[.int .i64 zi, .slice a5 q c5] 69)))))
        all_goals
          have hS := devStep (B := w.heap.size) (y0 := zi) hszr HO'.out hcs.out hb5 HQ.out (own_lower hown5 HBX.out.size) hgr6 hnew6
          have HC7 : Hid (CsL 2 (ObQF (DevF w.heap.size (.slice a6 (k + 1) c6)) w6) (cs' ++ [.int .i64 zi, .slice a5 q c5]) (x.objs.take (k + 1))) := by
            rw [take_succ_snoc HGX.out, show z = ⟨zi, z.val⟩ by rw [← HZI.out]]
            exact hS.1
          have HO7 := hid hown6
          have hb7 : Below w.heap.size w w6 := hbw.trans ⟨hS.2.1.os, hS.2.1.tape, hS.2.1.output, hS.2.1.size, fun i hi => hS.2.2 i hi⟩
          clear hS hown6 hgr6 hnew6
          go_wp2
          go_roundw
          case rel => exact ⟨k + 1, a6, c6, _, by omega, by go_num, rfl, HO7.out, HC7.out, hb7⟩
          case measure => simp [intOf]; omega
      · obtain rfl : k = n := by omega
        have e0 := c0 wr hbw
        have e1 := c1 wr hbw
        have HT : Hid (x.objs.take k = x.objs) := List.take_of_length_le (by rw [HN.out]; exact Nat.le_refl _)
        have HEND : Hid (∀ W', Agree w.heap.size wr W' → Obs W' (.slice oa x.objs.length oc) x.objs) := fun W' hW => by
          have h1 := hcs.out
          rw [HT.out] at h1
          rw [HN.out]
          exact Obs.of_csl (own_agree (B := w.heap.size) hown.out (Nat.le_refl _) hW) (CsL.mono (fun r x h => ObQF.agree (B := w.heap.size) (Nat.le_refl _) hW r x h) _ _ h1) HN.out
        clear hown hcs
        go_wp2_with (fail)
        go_quiet (fail)
        go_wp2
        refine bodyPost_ret (v := .tuple #[.int .i64 x.st, .int .i64 x.level, .slice oa k oc]) (by simp [results, Try.results55, go_sem]) rfl ?_
        refine ⟨oa, oc, by rw [HLV.out, HN.out], fun W' hW => HEND.out W' ⟨hW.size, hW.block⟩, below_drewN hbw _⟩
  · have d2 : (x.st != 2) = true := by rw [bne_iff_ne]; exact h2
    obtain rfl : lv = 0 := by rw [hl.out, if_neg h2]
    obtain rfl : l = [] := by rw [hL.out, if_neg h2]
    clear h2 hl hL c1 c2 c2'
    go_enter Try.func55, Try.ntmps55
    go_wp2
    refine bodyPost_ret (v := .tuple #[.int .i64 x.st, .int .i64 0, .slice none 0 0]) (by simp [results, Try.results55, go_sem]) rfl ?_
    exact ⟨none, 0, rfl, fun _ _ => Obs.nil _, Below.refl _ _⟩

end Go.Proofs.Ytliblgmpclefgaa
