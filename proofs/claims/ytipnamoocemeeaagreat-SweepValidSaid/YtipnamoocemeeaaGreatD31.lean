/-
  Texts 31 of the claim.
-/
import Derived.Test.YtipnamoocemeeaaGreatD30
import Derived.Test.YtipnamoocemeeaaGreatD17
import Derived.Test.YtipnamoocemeeaaGreatD28
namespace Go.Proofs.YtipnamoocemeeaaGreat
open Go.RowKit
theorem CfC_win {c : Cf} {sv : Value} (j : Nat) (v : Value) (h : (#[.int .i64 (c.win 0).1, .int .i64 (c.win 0).2, .int .i64 (c.win 1).1, .int .i64 (c.win 1).2, .int .i64 (c.win 2).1, .int .i64 (c.win 2).2, .int .i64 (c.win 3).1, .int .i64 (c.win 3).2] : Array Value).toList[j]? = some v) : (CfC c sv)[6 + j]? = some v := by
  have e : (CfC c sv).toList.drop 6 = (#[.int .i64 (c.win 0).1, .int .i64 (c.win 0).2, .int .i64 (c.win 1).1, .int .i64 (c.win 1).2, .int .i64 (c.win 2).1, .int .i64 (c.win 2).2, .int .i64 (c.win 3).1, .int .i64 (c.win 3).2] : Array Value).toList ++ [.int .i64 c.ev, .int .i64 c.st] := rfl
  have h2 : ((CfC c sv).toList.drop 6)[j]? = some v := by
    rw [e, List.getElem?_append_left (List.getElem?_eq_some_iff.1 h).1]
    exact h
  rw [List.getElem?_drop] at h2
  simpa using h2
def SnPost (w : World) (c : Cf) (E : Int) (r : Ending) (w' : World) : Prop :=
  ((E ≠ 0 ∧ r = .returned (.tuple #[.pointer none, .int .i64 E])) ∨ (E = 0 ∧ ∃ g, r = .returned (.tuple #[.pointer (some ⟨g, 0, none⟩), .int .i64 0]) ∧ SwAt (Grw (fun _ => False) w w') w' g c Sp.ini)) ∧ Below w.heap.size w w'
theorem SwAt.ini {w w1 w2 X w4 : World} {c : Cf} (hu : 1 ≤ c.units) {a2 : Option Addr} {c2 : Nat} {gp : Nat} (h01 : w.heap.size ≤ w1.heap.size) (h02 : w1.heap.size ≤ w2.heap.size) (hrd : ∀ W', Agree w1.heap.size w2 W' → Rgs W' (.slice a2 c.sets.length c2) c.sets) (h2X : Agree w1.heap.size w2 X) (hX4 : Below X.heap.size X w4) (hp : PbAt (Grw (fun _ => False) X w4) w4 gp c.win Pb0) :
    SwAt (Grw (fun _ => False) w (w4.alloc (.cells (SwC c (.slice a2 c.sets.length c2) (.pointer (some ⟨gp, 0, none⟩)) (.slice none 0 0) 0 0) 96))) (w4.alloc (.cells (SwC c (.slice a2 c.sets.length c2) (.pointer (some ⟨gp, 0, none⟩)) (.slice none 0 0) 0 0) 96)) w4.heap.size c Sp.ini := by
  obtain ⟨O, hO⟩ : ∃ O, Obj.cells (SwC c (.slice a2 c.sets.length c2) (.pointer (some ⟨gp, 0, none⟩)) (.slice none 0 0) 0 0) 96 = O := ⟨_, rfl⟩
  have hgp : Grw (fun _ => False) X w4 gp := by obtain ⟨_, _, _, _, _, _, h, _⟩ := hp; exact h
  have hz : (w4.alloc O).heap.size = w4.heap.size + 1 := by simp
  have h12 := h2X.size
  have h4 := hX4.size
  have h42 : Agree w1.heap.size w2 (w4.alloc O) := (h2X.trans (Agree.of_below hX4)).trans (Agree.of_below (bal' _ _))
  rw [hO]
  refine ⟨fun j => j = w4.heap.size ∨ Grw (fun _ => False) X w4 j, Grw (fun _ => False) X w4, .slice a2 c.sets.length c2, .pointer (some ⟨gp, 0, none⟩), none, 0, [], .inl rfl, fun j hj => ?_, fun j hj => ?_, fun j hj => ⟨.inr hj, ?_⟩, fun j hj => (by cases hj), by rw [← hO]; exact hpNew _ _, fun W' hW => hrd W' ⟨Nat.le_trans h42.size hW.size, fun k hk hl => ?_⟩, World.ownsRow_nil _ _ _ _, rfl, fun _ => ⟨gp, rfl, hgp, hp.keep (F := fun _ => False) (Keeps.of_below (bal' w4 O)) (fun _ _ e => e.elim)⟩, fun h => ?_⟩
  · rcases hj with rfl | e | e
    · exact .inr ⟨by omega, by omega⟩
    · exact e.elim
    · exact .inr ⟨by omega, by omega⟩
  · rcases hj with e | e
    · exact e.elim
    · exact e.2
  · rcases hj with e | e
    · exact e.elim
    · omega
  · rw [hW.block k (by omega) (fun e => ?_), h42.block k hk hl]
    rcases e with (e | e | e) | e
    · omega
    · exact e
    · omega
    · exact e (.inr ⟨by omega, by omega⟩)
  · have : c.units ≤ 0 := h
    omega
set_option maxRecDepth 100000 in
set_option maxHeartbeats 6400000 in
theorem swnew_any (c : Cf) (sv : Value) (w : World) (hs : Rgs w sv c.sets) (hl6 : c.sets.length ≤ 1000000) (E : Int) (hE : Hid (chkE c = E)) :
    Calls Tryz.prog 9 #[.agg (CfC c sv)] w (SnPost w c E) := by
  obtain ⟨sa, sc, rfl⟩ := hs.slc
  obtain ⟨C, hC⟩ : ∃ C, CfC c (.slice sa c.sets.length sc) = C := ⟨_, rfl⟩
  have hi : (Tryz.prog.info? 27).map (·.size) = some C.size := by rw [← hC]; exact infoCf
  rw [hC]
  obtain ⟨W0, hW0⟩ : ∃ W, w.alloc (.cells C 27) = W := ⟨_, rfl⟩
  have hb0 : Below w.heap.size w W0 := by rw [← hW0]; exact bal' w _
  have hz0 : W0.heap.size = w.heap.size + 1 := by rw [← hW0]; simp
  have p0 : W0.heap[w.heap.size]? = some (.cells C 27) := by rw [← hW0]; exact hpNew w _
  have HCK : Hid (Calls Tryz.prog 41 #[.agg C] W0 (IntPost W0 E)) := by rw [← hC]; exact ccheck_any c _ W0 (hs.keep hb0) E hE
  have HW0 := hid hW0
  have HB0 := hid hb0
  have HZ0 := hid hz0
  have P0 := hid p0
  have HS := hid hs
  have HC := hid hC
  clear hW0 hb0 hz0 hs hC
  by_cases he : E = 0
  · have hc0 : chkE c = 0 := by rw [hE.out]; exact he
    have hok := Cf.ok_of hc0
    have HOK := hid hok
    subst he
    obtain ⟨n, hn⟩ : ∃ n, c.sets.length = n := ⟨_, rfl⟩
    have c0 : ∀ X, Below W0.heap.size W0 X → X.cell? ⟨w.heap.size, 0, none⟩ = some (.slice sa n sc) := fun X h => by rw [hpCell (hpKeep P0.out h), ← HC.out, ← hn]; rfl
    have f0 : ∀ X, Below W0.heap.size W0 X → X.frozen? ⟨w.heap.size, 0, none⟩ = false := fun X h => hpFree (hpKeep P0.out h) 0
    have HCL : Hid (∀ X, Below W0.heap.size W0 X → Calls Tryz.prog 42 #[.slice sa n sc] X (CloneSPost X c.sets)) := fun X hX => by
      rw [← hn]
      exact cloneS_any _ c.sets X (HS.out.keep (bt HB0.out hX (Nat.le_refl _))) hl6
    have HND : Hid (∀ X, Calls Tryz.prog 43 #[.agg #[.int .i64 (c.win 0).1, .int .i64 (c.win 0).2, .int .i64 (c.win 1).1, .int .i64 (c.win 1).2, .int .i64 (c.win 2).1, .int .i64 (c.win 2).2, .int .i64 (c.win 3).1, .int .i64 (c.win 3).2]] X fun r w' => ∃ g : Nat, r = .returned (.pointer (some ⟨g, 0, none⟩)) ∧ X.heap.size ≤ g ∧ PbAt (Grw (fun _ => False) X w') w' g c.win ⟨.test, Dv.zero, 0⟩ ∧ Below X.heap.size X w') := fun X => pnew_ok c.win HOK.out.win X
    have HN := hid hn
    clear hok hc0 hE hn
    go_enter Tryz.func9, Tryz.ntmps9
    go_upto_region 1 with (fail)
    rw [HW0.out]
    go_upto_region 5 with (first
      | (refine wpList_load_row rfl 27 (.tmp 1) rfl w.heap.size rfl 27 C (0, 0) _ p0 Tryz.underlying27 rfl hi ?_)
      | (go_at_call 41; (with_reducible refine HCK.out.mono ?_); rintro r w1 ⟨rfl, hb1⟩)
      | (go_at_call 42; (with_reducible refine (HCL.out _ hb1).mono ?_); rintro r w2 ⟨a2, c2, rfl, hrd, hb2⟩; have c0' := c0 w2 (bt hb1 hb2 (Nat.le_refl _)); have f0' := f0 w2 (bt hb1 hb2 (Nat.le_refl _))))
    obtain ⟨W3, hW3⟩ : ∃ W, w2.setCell ⟨w.heap.size, 0, none⟩ (.slice a2 c.sets.length c2) = W := ⟨_, rfl⟩
    have hb12 := bt hb1 hb2 (Nat.le_refl _)
    have p3 : W3.heap[w.heap.size]? = some (.cells (CfC c (.slice a2 c.sets.length c2)) 27) := by
      have h := hpKeep P0.out hb12
      rw [← HC.out] at h
      rw [← hW3]
      exact hpSetP h rfl
    have hk3 : Keeps (· = w.heap.size) w2 W3 := by rw [← hW3]; exact ks1 (Keeps.refl _ _) _ _
    have hz1 := hb1.size
    have hz0 := HZ0.out
    have hag3 : Agree w1.heap.size w2 W3 := Agree.of_keeps hk3 (fun k e => by omega)
    have HB3 : Hid (Below w.heap.size w W3) := (bt HB0.out hb12 (Nat.le_refl _)).trans (hk3.below (by have := HB0.out.size; have := hb12.size; omega) (fun j hj e => by omega))
    rw [hW3]
    have HAG := hid hag3
    have HRD := hid hrd
    have H01 : Hid (w.heap.size ≤ w1.heap.size) := by show _ ≤ _; omega
    have H02 : Hid (w1.heap.size ≤ w2.heap.size) := hb2.size
    have kD : Below W3.heap.size W3 W3.drew := (Below.refl _ _).drew
    have HR1 : Hid (∀ X, Below W3.heap.size W3 X → ∀ j v, (#[(.slice a2 c.sets.length c2), .int .i64 c.fi, .int .i64 c.la, .int .i64 c.re, .int .i64 c.ti, .int .i64 c.de, .int .i64 (c.win 0).1, .int .i64 (c.win 0).2, .int .i64 (c.win 1).1, .int .i64 (c.win 1).2, .int .i64 (c.win 2).1, .int .i64 (c.win 2).2, .int .i64 (c.win 3).1, .int .i64 (c.win 3).2, .int .i64 c.ev, .int .i64 c.st] : Array Value).toList[j]? = some v → X.cell? ((⟨w.heap.size, 0, none⟩ : Addr).add j) = some v) := fun X hX => hpRowAt2 (hpKeep p3 hX)
    have HR2 : Hid (∀ X, Below W3.heap.size W3 X → ∀ j v, (#[.int .i64 (c.win 0).1, .int .i64 (c.win 0).2, .int .i64 (c.win 1).1, .int .i64 (c.win 1).2, .int .i64 (c.win 2).1, .int .i64 (c.win 2).2, .int .i64 (c.win 3).1, .int .i64 (c.win 3).2] : Array Value).toList[j]? = some v → X.cell? ((⟨w.heap.size, 6, none⟩ : Addr).add j) = some v) := fun X hX j v hj => by
      have e : (⟨w.heap.size, 6, none⟩ : Addr).add j = ⟨w.heap.size, 6 + j, none⟩ := by unfold Addr.add; split <;> simp_all
      rw [e, hpCell (hpKeep p3 hX)]
      exact CfC_win j v hj
    clear c0 f0 c0' f0' hW3 p3 hk3 hag3 hrd hb1 hb2 hb12 hz1 hz0 HCL HCK p0
    refine wp_region_held_drew (S := fun V => Below W3.heap.size W3 V) (by kernel_rfl) kD (fun hH => ?_)
    clear hH
    refine tkD 0 14 (v := .agg #[(.slice a2 c.sets.length c2), .int .i64 c.fi, .int .i64 c.la, .int .i64 c.re, .int .i64 c.ti, .int .i64 c.de, .int .i64 (c.win 0).1, .int .i64 (c.win 0).2, .int .i64 (c.win 1).1, .int .i64 (c.win 1).2, .int .i64 (c.win 2).1, .int .i64 (c.win 2).2, .int .i64 (c.win 3).1, .int .i64 (c.win 3).2, .int .i64 c.ev, .int .i64 c.st]) rfl (by kernel_rfl) (fun _ _ _ h => h) rfl (by rfl) (by assumption) (fun X hX => run_load_rowS 27 (.tmp 1) rfl ⟨w.heap.size, 0, none⟩ rfl #[(.slice a2 c.sets.length c2), .int .i64 c.fi, .int .i64 c.la, .int .i64 c.re, .int .i64 c.ti, .int .i64 c.de, .int .i64 (c.win 0).1, .int .i64 (c.win 0).2, .int .i64 (c.win 1).1, .int .i64 (c.win 1).2, .int .i64 (c.win 2).1, .int .i64 (c.win 2).2, .int .i64 (c.win 3).1, .int .i64 (c.win 3).2, .int .i64 c.ev, .int .i64 c.st] _ (HR1.out X hX) Tryz.underlying27 rfl infoCf) ?_; simp only [List.setIfInBounds_toArray, List.set_cons_zero, List.set_cons_succ]
    refine tkD 1 15 (v := ?_) rfl (by kernel_rfl) (fun _ _ _ h => h) rfl (by rfl) (by assumption) ?_ ?_; rotate_left; (intro w hSw; (try dsimp only at hSw); go_simp; try (with_reducible rfl)); simp only [List.setIfInBounds_toArray, List.set_cons_zero, List.set_cons_succ]
    refine tkD 2 16 (v := .agg #[.int .i64 (c.win 0).1, .int .i64 (c.win 0).2, .int .i64 (c.win 1).1, .int .i64 (c.win 1).2, .int .i64 (c.win 2).1, .int .i64 (c.win 2).2, .int .i64 (c.win 3).1, .int .i64 (c.win 3).2]) rfl (by kernel_rfl) (fun _ _ _ h => h) rfl (by rfl) (by assumption) (fun X hX => run_load_rowS 25 (.tmp 15) rfl ⟨w.heap.size, 6, none⟩ rfl #[.int .i64 (c.win 0).1, .int .i64 (c.win 0).2, .int .i64 (c.win 1).1, .int .i64 (c.win 1).2, .int .i64 (c.win 2).1, .int .i64 (c.win 2).2, .int .i64 (c.win 3).1, .int .i64 (c.win 3).2] _ (HR2.out X hX) Tryz.underlying25 rfl infoW) ?_; simp only [List.setIfInBounds_toArray, List.set_cons_zero, List.set_cons_succ]
    refine wpAnyH_ready (rs := [3]) (by kernel_rfl) (by simp) ?_; refine AllReadyH.cons rfl (fun K hK => ?_) AllReadyH.nil
    go_simp
    refine (HND.out _).mono ?_
    rintro r w4 ⟨gp, rfl, hgp, hp4, hb4⟩
    have hB4 := bt kD hb4 (Nat.le_refl _)
    have HP4 := hid hp4
    have HB4 := hid hb4
    refine hK.out _ _ hB4 (fun hS1 => ?_)
    clear hK K hgp hp4
    refine tkD 4 18 (v := ?_) rfl (by kernel_rfl) (fun _ _ _ h => h) rfl (by rfl) (by assumption) ?_ ?_; rotate_left; (intro w hSw; (try dsimp only at hSw); go_simp; try (with_reducible rfl)); simp only [List.setIfInBounds_toArray, List.set_cons_zero, List.set_cons_succ]
    refine wpAnyH_ready (rs := [5]) (by kernel_rfl) (by simp) ?_; refine AllReadyH.cons rfl (fun K hK => ?_) AllReadyH.nil
    go_simp
    refine hK.out _ _ (bta hB4 (Nat.le_refl _) _) (fun hS2 => ?_)
    clear hK K hS1
    refine tkD 6 2 (v := ?_) rfl (by kernel_rfl) (fun _ _ _ h => h) rfl (by rfl) (by assumption) ?_ ?_; rotate_left; (intro w hSw; (try dsimp only at hSw); go_simp; try (with_reducible rfl)); simp only [List.setIfInBounds_toArray, List.set_cons_zero, List.set_cons_succ]
    refine tkD 7 3 (v := ?_) rfl (by kernel_rfl) (fun _ _ _ h => h) rfl (by rfl) (by assumption) ?_ ?_; rotate_left; (intro w hSw; (try dsimp only at hSw); go_simp; try (with_reducible rfl)); simp only [List.setIfInBounds_toArray, List.set_cons_zero, List.set_cons_succ]
    refine wpAnyH_done (by kernel_rfl) ?_ _
    go_wp2
    refine bodyPost_ret (v := .tuple #[.pointer (some ⟨w4.heap.size, 0, none⟩), .int .i64 0]) (by simp [results, Tryz.results9, go_sem]) rfl ?_
    refine ⟨.inr ⟨rfl, w4.heap.size, rfl, ?_⟩, bt HB3.out (bta hB4 (Nat.le_refl _) _) (Nat.le_refl _)⟩
    exact SwAt.ini (HOK.out.units_bd.1) H01.out H02.out HRD.out (HAG.out.trans (Agree.of_below (Below.refl W3.heap.size W3).drew)) HB4.out HP4.out
  · have g1 : (E != 0) = true := by rw [bne_iff_ne]; exact he
    have HE := hid he
    clear he hE
    go_enter Tryz.func9, Tryz.ntmps9
    go_upto_region 1 with (fail)
    rw [HW0.out]
    go_wp2_with (first
      | (refine wpList_load_row rfl 27 (.tmp 1) rfl w.heap.size rfl 27 C (0, 0) _ p0 Tryz.underlying27 rfl hi ?_)
      | (go_at_call 41; (with_reducible refine HCK.out.mono ?_); rintro r w1 ⟨rfl, hb1⟩))
    refine bodyPost_ret (v := .tuple #[.pointer none, .int .i64 E]) (by simp [results, Tryz.results9, go_sem]) rfl ?_
    exact ⟨.inl ⟨HE.out, rfl⟩, bt HB0.out hb1 (Nat.le_refl _)⟩
end Go.Proofs.YtipnamoocemeeaaGreat

namespace Go.Proofs.YtipnamoocemeeaaGreat
open Go.RowKit
theorem DvF_one {w : World} {f : Fd} {ov sv : Value} {mv : Nat → Value} (h : DvRd w f.d ov sv mv) : (DvF f ov sv mv).toList.all (·.oneCell') = true := by
  have h1 := DvC_one h
  have e : (DvC f.d ov sv mv).toList = [.int .i64 0, .int .i64 0] ++ (DvF f ov sv mv).toList.drop 2 := rfl
  have e2 : (DvF f ov sv mv).toList = [.int .i64 f.set, .int .i64 f.unit] ++ (DvF f ov sv mv).toList.drop 2 := rfl
  rw [e, List.all_append] at h1
  rw [e2, List.all_append]
  simp only [Bool.and_eq_true] at h1 ⊢
  exact ⟨rfl, h1.2⟩
theorem infoDv : (Tryz.prog.info? 91).map (fun i => (i.zero, i.size, i.bytes)) = some (some (.agg #[.int .i64 0, .int .i64 0, .int .i64 0, .int .i64 0, .int .i64 0, .slice none 0 0, .int .i64 0, .slice none 0 0, .int .i64 0, .int .i64 0, .slice none 0 0, .int .i64 0, .int .i64 0, .slice none 0 0, .int .i64 0, .int .i64 0, .slice none 0 0, .int .i64 0, .int .i64 0, .slice none 0 0, .string ⟨#[]⟩]), 21, 272) := by kernel_rfl
theorem SwS.app {P M Q : Nat → Prop} {W w5 w6 : World} {g : Nat} {c : Cf} {x : Sp} {sv pv : Value} {fa a6 : Option Addr} {fc c6 : Nat} {cs : List Value} (h : SwS P M Q W g c x sv pv fa fc cs)
    {f : Fd} {ov dv : Value} {mv : Nat → Value} (hd : RdSt (SwF M P) W f.d ov dv mv) (hb5 : Below W.heap.size W w5)
    (hgr : w5.grownBy w6 (Value.slice fa x.fd.length fc).ownBlock) (hnew : NewOr w5 (.slice fa x.fd.length fc) (.slice a6 (x.fd.length + 1) c6))
    (hown : w6.ownsRow 0 91 21 (.slice a6 (x.fd.length + 1) c6) (x.fd.length + 1) (cs ++ (DvF f ov dv mv).toList)) :
    ∃ M', SwS (Grw P W w6) M' Q (w6.setCell ⟨g, 18, none⟩ (.slice a6 (x.fd.length + 1) c6)) g c { x with fd := x.fd ++ [f] } sv pv a6 c6 (cs ++ (DvF f ov dv mv).toList) ∧ Keeps M W (w6.setCell ⟨g, 18, none⟩ (.slice a6 (x.fd.length + 1) c6)) ∧ (∀ j, j < W.heap.size → M' j → M j) := by
  have hgl : g < W.heap.size := hpLt h.at_
  have hrow := h.rw_
  have h56 : Keeps (fun j => (Value.slice fa x.fd.length fc).ownBlock = some j) w5 w6 := Keeps.of_grown hgr (fun k hk => hk)
  have hk6 : Keeps (fun j => (Value.slice fa x.fd.length fc).ownBlock = some j) W w6 := (Keeps.of_below hb5).trans h56 (fun _ _ e => e)
  have hks : Keeps (fun j => j = g) w6 (w6.setCell ⟨g, 18, none⟩ (.slice a6 (x.fd.length + 1) c6)) := (Keeps.refl _ _).set _ _ rfl
  have hkM : Keeps M W (w6.setCell ⟨g, 18, none⟩ (.slice a6 (x.fd.length + 1) c6)) := (hk6.mono (fun j _ e => (hrow j e).1)).trans (hks.mono (fun j _ e => by subst e; exact h.mg)) (fun _ _ e => e)
  have hz5 := hb5.size
  have hz6 := h56.size
  have hzS : (w6.setCell ⟨g, 18, none⟩ (.slice a6 (x.fd.length + 1) c6)).heap.size = w6.heap.size := by simp
  have hkF : Keeps (SwF M P) W (w6.setCell ⟨g, 18, none⟩ (.slice a6 (x.fd.length + 1) c6)) := hkM.mono (fun j _ e => .inl e)
  have hnewb : ∀ j, (Value.slice a6 (x.fd.length + 1) c6).ownBlock = some j → ((Value.slice fa x.fd.length fc).ownBlock = some j ∨ (W.heap.size ≤ j ∧ j < w6.heap.size)) := fun j hj => by
    rcases hnew with e | ⟨i, e, e2⟩
    · exact .inl (by rw [← e]; exact hj)
    · rw [hj] at e
      cases e
      have := (hown.lt j hj).2
      exact .inr ⟨by omega, this⟩
  have hg6 : SwI w6 g c sv pv (.slice fa x.fd.length fc) x.at_ x.cnt := hpKeeps h.at_ hk6 (fun e => (hrow g e).2.1 rfl)
  have hSF : ∀ j, j < W.heap.size → SwF (fun j => M j ∨ (Value.slice a6 (x.fd.length + 1) c6).ownBlock = some j) (Grw P W w6) j → SwF M P j := fun j hj e => by
    rcases e with (e | e) | e
    · exact .inl e
    · rcases hnewb j e with e2 | e2
      · exact .inl (hrow j e2).1
      · omega
    · exact .inr (fun hp => e (.inl hp))
  refine ⟨fun j => M j ∨ (Value.slice a6 (x.fd.length + 1) c6).ownBlock = some j, ⟨.inl h.mg, fun j hj => ?_, fun j hj => ?_, fun j hj => ⟨.inl (h.qm j hj).1, (h.qm j hj).2⟩, fun j hj => ?_, ?_, fun W' hW => h.st W' (hkF.trans hW (fun j hj e => hSF j hj e)), ?_, ?_, fun hl => ?_, h.no⟩, hkM, fun j hj e => ?_⟩
  · rcases hj with e | e
    · exact .inl (h.mp j e)
    · rcases hnewb j e with e2 | e2
      · exact .inl (h.mp j (hrow j e2).1)
      · exact .inr e2
  · rw [hzS]
    rcases hj with e | e
    · have := h.pl j e
      omega
    · exact e.2
  · rw [show ({ x with fd := x.fd ++ [f] } : Sp).fd.length = x.fd.length + 1 by simp] at hj
    rcases hnewb j hj with e | e
    · exact ⟨.inl (hrow j e).1, (hrow j e).2⟩
    · exact ⟨.inr hj, by omega, fun hq => by have := h.pl j (h.mp j (h.qm j hq).1); omega⟩
  · show SwI _ g c sv pv (.slice a6 (x.fd ++ [f]).length c6) x.at_ x.cnt
    rw [List.length_append]
    exact hpSetP hg6 rfl
  · show World.ownsRow _ 0 _ 21 (.slice a6 (x.fd ++ [f]).length c6) (x.fd ++ [f]).length _
    rw [List.length_append]
    exact own_keeps hown hks (fun j hj e => by
      subst e
      rcases hnewb j hj with e2 | e2
      · exact (hrow j e2).2.1 rfl
      · omega)
  · exact CsL.app _ _ (CsL.mono (fun r y hy => DvQ.keeps hkF (fun _ _ e => e) hSF r y hy) _ _ h.dv) [f] _ ⟨(DvF f ov dv mv).toList, [], by simp, rfl, ⟨ov, dv, mv, rfl, hd.keeps hkF (fun _ _ e => e) hSF⟩, rfl⟩
  · obtain ⟨gp, e1, e2, e3⟩ := h.pr hl
    exact ⟨gp, e1, e2, e3.keep hk6 (fun j _ e hq => (hrow j e).2.2 hq) |>.keep hks (fun j _ e hq => (h.qm j hq).2 e)⟩
  · rcases e with e | e
    · exact e
    · rcases hnewb j e with e2 | e2
      · exact (hrow j e2).1
      · omega
end Go.Proofs.YtipnamoocemeeaaGreat

namespace Go.Proofs.YtipnamoocemeeaaGreat
open Go.RowKit
theorem SwS.to {P M Q Q' : Nat → Prop} {W W' : World} {g : Nat} {c : Cf} {x : Sp} {sv pv pv' : Value} {fa : Option Addr} {fc : Nat} {cs : List Value} (h : SwS P M Q W g c x sv pv fa fc cs) (hk : Keeps (fun j => j = g ∨ Q j) W W') {at' : Nat} {pb' : Pb} {cnt' : Int}
    (hI : SwI W' g c sv pv' (.slice fa x.fd.length fc) at' cnt') (hQ : ∀ j, Q' j → Q j ∨ (W.heap.size ≤ j ∧ j < W'.heap.size)) (hpr : at' < c.units → ∃ gp, pv' = .pointer (some ⟨gp, 0, none⟩) ∧ Q' gp ∧ PbAt Q' W' gp c.win pb') (hno : c.units ≤ at' → pv' = .pointer none) :
    SwS (Grw P W W') (fun j => j = g ∨ (Value.slice fa x.fd.length fc).ownBlock = some j ∨ Q' j) Q' W' g c ⟨at', pb', x.fd, cnt'⟩ sv pv' fa fc cs ∧ Keeps M W W' ∧ (∀ j, j < W.heap.size → (j = g ∨ (Value.slice fa x.fd.length fc).ownBlock = some j ∨ Q' j) → M j) := by
  have hgl : g < W.heap.size := hpLt h.at_
  have hrow := h.rw_
  have hkM : Keeps M W W' := hk.mono (fun j _ e => by
    rcases e with e | e
    · subst e; exact h.mg
    · exact (h.qm j e).1)
  have hkF : Keeps (SwF M P) W W' := hkM.mono (fun j _ e => .inl e)
  have hMM : ∀ j, j < W.heap.size → (j = g ∨ (Value.slice fa x.fd.length fc).ownBlock = some j ∨ Q' j) → M j := fun j hj e => by
    rcases e with e | e | e
    · subst e; exact h.mg
    · exact (hrow j e).1
    · rcases hQ j e with e2 | e2
      · exact (h.qm j e2).1
      · omega
  have hSF : ∀ j, j < W.heap.size → SwF (fun j => j = g ∨ (Value.slice fa x.fd.length fc).ownBlock = some j ∨ Q' j) (Grw P W W') j → SwF M P j := fun j hj e => by
    rcases e with e | e
    · exact .inl (hMM j hj e)
    · exact .inr (fun hp => e (.inl hp))
  have hz := hk.size
  refine ⟨⟨.inl rfl, fun j hj => ?_, fun j hj => ?_, fun j hj => ⟨.inr (.inr hj), ?_⟩, fun j hj => ⟨.inr (.inl hj), (hrow j hj).2.1, fun e => ?_⟩, hI, fun W2 hW => h.st W2 (hkF.trans hW (fun j hj e => hSF j hj e)), own_keeps h.own hk (fun j hj e => ?_), CsL.mono (fun r y hy => DvQ.keeps hkF (fun _ _ e => e) hSF r y hy) _ _ h.dv, hpr, hno⟩, hkM, hMM⟩
  · rcases hj with e | e | e
    · subst e; exact .inl (h.mp _ h.mg)
    · exact .inl (h.mp _ (hrow j e).1)
    · rcases hQ j e with e2 | e2
      · exact .inl (h.mp _ (h.qm j e2).1)
      · exact .inr e2
  · rcases hj with e | e
    · have := h.pl j e
      omega
    · exact e.2
  · intro e2
    subst e2
    rcases hQ j hj with e | e
    · exact (h.qm j e).2 rfl
    · omega
  · rcases hQ j e with e2 | e2
    · exact (hrow j hj).2.2 e2
    · have := h.pl j (h.mp j (hrow j hj).1)
      omega
  · rcases e with e | e
    · exact (hrow j hj).2.1 e
    · exact (hrow j hj).2.2 e
end Go.Proofs.YtipnamoocemeeaaGreat
