/-
  Texts 13 of the claim.
-/
import Derived.Test.YtipnamoocemeeaaGreatD12
namespace Go.Proofs.YtipnamoocemeeaaGreat
open Go.RowKit
theorem PbI.setTab {W : World} {g : Nat} {win : Nat → Int × Int} {pr af : Value} {d : Dv} {ov sv : Value} {mv : Nat → Value} {q : Int} (h : PbI W g win pr af d ov sv mv q) {k : Nat} (hk : k < 4) (s m : Int) :
    PbI ((W.setCell ⟨g, 18 + k * 3, none⟩ (.int .i64 s)).setCell ⟨g, 18 + k * 3 + 1, none⟩ (.int .i64 m)) g win pr af (d.tab k { d.ts k with st := s, most := m }) ov sv mv q := by
  refine hpSetP (hpSetP h rfl) ?_
  match k, hk with
  | 0, _ => rfl
  | 1, _ => rfl
  | 2, _ => rfl
  | 3, _ => rfl
def updV (mv : Nat → Value) (k : Nat) (u : Value) : Nat → Value := fun i => if i = k then u else mv i
theorem PbI.setMap {W : World} {g : Nat} {win : Nat → Int × Int} {pr af : Value} {d : Dv} {ov sv : Value} {mv : Nat → Value} {q : Int} (h : PbI W g win pr af d ov sv mv q) {k : Nat} (hk : k < 4) (l : List (Int × Int)) (u : Value) :
    PbI (W.setCell ⟨g, 18 + k * 3 + 2, none⟩ u) g win pr af (d.tab k { d.ts k with map := l }) ov sv (updV mv k u) q := by
  refine hpSetP h ?_
  match k, hk with
  | 0, _ => rfl
  | 1, _ => rfl
  | 2, _ => rfl
  | 3, _ => rfl
theorem PbI.mapc {W : World} {g : Nat} {win : Nat → Int × Int} {pr af : Value} {d : Dv} {ov sv : Value} {mv : Nat → Value} {q : Int} (h : PbI W g win pr af d ov sv mv q) {k : Nat} (hk : k < 4) :
    W.cell? ⟨g, 18 + k * 3 + 2, none⟩ = some (mv k) := by
  rw [hpCell h]
  match k, hk with
  | 0, _ => rfl
  | 1, _ => rfl
  | 2, _ => rfl
  | 3, _ => rfl
theorem Dv.tab_map (d : Dv) (k : Nat) (s m : Int) (i : Nat) : ((d.tab k { d.ts k with st := s, most := m }).ts i).map = (d.ts i).map := by
  show (if i = k then { d.ts k with st := s, most := m } else d.ts i).map = _
  split
  · rename_i e
    rw [e]
  · rfl
theorem Dv.tab_most (d : Dv) (k : Nat) (t : Tb) : (d.tab k t).ts k = t := by
  show (if k = k then t else d.ts k) = t
  rw [if_pos rfl]
def aftS (win : Nat → Int × Int) (k : Nat) (s : Sr) (d : Dv) : Ph × Dv :=
  let d1 := d.tab k { d.ts k with st := s.st, most := s.most }
  if s.st = 2 then (.map k (Mp.new ((k : Int) + 1) (win k).1 (win k).2 (minI s.most (win k).2)), d1) else meas win (4 - (k + 1)) d1
set_option maxRecDepth 100000 in
set_option maxHeartbeats 3200000 in
theorem af_seek (P Q : Nat → Prop) (g b bp bk bs : Nat) (win : Nat → Int × Int) (hw : WinOk win) (pr af : Value) (d : Dv) (ov sv : Value) (mv : Nat → Value) (q : Int) (w : World) (h : PbI w g win pr af d ov sv mv q) (hrd : RdSt (FQ P Q g) w d ov sv mv) (k : Nat) (hk : k < 4) (hc : ¬ (win k).2 = 0) (s : Sr) (hS : SrAt w b s) (hmo : s.st = 2 → 1 ≤ s.most)
    (hbp : w.heap[bp]? = some (.cells #[.pointer (some ⟨g, 0, none⟩)] 93)) (hbk : w.heap[bk]? = some (.cells #[.int .i64 (k : Int)] 3)) (hbs : w.heap[bs]? = some (.cells #[.pointer (some ⟨b, 0, none⟩)] 221)) (hpg : bp ≠ g) (hkg : bk ≠ g) (ph : Ph) (d' : Dv) (hm : Hid (aftS win k s d = (ph, d'))) :
    Calls Tryz.prog 167 #[.pointer (some ⟨bp, 0, none⟩), .pointer (some ⟨bk, 0, none⟩), .pointer (some ⟨bs, 0, none⟩)] w (AfPost P Q w g win q ph d') := by
  have hgl : g < w.heap.size := hpLt h
  have x0 : ∀ X, Keeps (· = g) w X → X.cell? ⟨bp, 0, none⟩ = some (.pointer (some ⟨g, 0, none⟩)) := fun X k => hpCell (hpKeeps hbp k hpg) 0
  have x1 : ∀ X, Keeps (· = g) w X → X.cell? ⟨bk, 0, none⟩ = some (.int .i64 (k : Int)) := fun X h => hpCell (hpKeeps hbk h hkg) 0
  have x2 : w.cell? ⟨bs, 0, none⟩ = some (.pointer (some ⟨b, 0, none⟩)) := hpCell hbs 0
  have k0 : Keeps (· = g) w w := Keeps.refl _ _
  have x0' := x0 w k0
  have x1' := x1 w k0
  have hki : (0 : Int) ≤ (k : Int) := Int.natCast_nonneg _
  have hkl : (k : Int) < 4 := by omega
  have sw : IntKind.i64.wrap ((k : Int) + 1) = (k : Int) + 1 := IntWalk.i64_in _ (by omega)
  have HRS : Hid (∀ n, Calls Tryz.prog 168 #[.pointer (some ⟨b, 0, none⟩)] (w.drewN n) fun r w' => r = .returned (.tuple #[.int .i64 s.st, .int .i64 s.most]) ∧ Below (w.drewN n).heap.size (w.drewN n) w') := fun n => sresult_any b s _ (hS.keep (below_drewN (Below.refl _ _) _))
  obtain ⟨d1, hd1⟩ : ∃ e, d.tab k { d.ts k with st := s.st, most := s.most } = e := ⟨_, rfl⟩
  have HD1 := hid hd1
  have HRD := hid hrd
  have H := hid h
  clear h hrd hS hbp hbk hbs
  by_cases h2 : s.st = 2
  · have dd := b1 h2
    have HPH : Hid (ph = .map k (Mp.new ((k : Int) + 1) (win k).1 (win k).2 (minI s.most (win k).2)) ∧ d' = d1) := by
      have h := hm.out
      unfold aftS at h
      simp only [if_pos h2] at h
      exact ⟨(Prod.mk.inj h).1.symm, by rw [← hd1]; exact (Prod.mk.inj h).2.symm⟩
    have hmo' := hmo h2
    have HEX : Hid (∀ X, PbI X g win pr af d1 ov sv mv q → Calls Tryz.prog 169 #[.pointer (some ⟨g, 0, none⟩), .int .i64 (k : Int)] X fun r w' => r = .returned (.tuple #[]) ∧ StepTo X g win ov sv mv q ph d' w') := fun X hX => by
      have hh := explore_any g win hw pr af d1 ov sv mv q k hk X hX hc (by rw [← hd1, Dv.tab_most]; exact hmo')
      rw [HPH.out.1, HPH.out.2]
      have e : (d1.ts k).most = s.most := by rw [← hd1, Dv.tab_most]
      rw [e] at hh
      exact hh
    have HDS : Hid (d'.objs = d.objs ∧ d'.sd = d.sd ∧ ∀ i, (d'.ts i).map = (d.ts i).map) := by
      show _ ∧ _
      rw [HPH.out.2, ← hd1]
      exact ⟨rfl, rfl, Dv.tab_map d k _ _⟩
    clear h2 hm hmo hmo' hd1 HPH
    go_enter Tryz.func167, Tryz.ntmps167
    go_upto_region 0 with (fail)
    go_quiet (fail)
    go_upto_region 2 with (go_at_call 168; (with_reducible refine (HRS.out _).mono ?_); rintro r w2 ⟨rfl, hb2⟩; have hB2 : Below w.heap.size w w2 := bt (below_drewN (Below.refl _ _) _) hb2 (Nat.le_refl _); have hK2 : Keeps (· = g) w w2 := Keeps.of_below hB2; have hp2 := H.out.keep hB2; have c1 := hp2.tst hk; have c2 := hp2.most hk; have f1 : w2.frozen? ⟨g, 18 + k * 3, none⟩ = false := hpFree hp2 _; have f2 : w2.frozen? ⟨g, 18 + k * 3 + 1, none⟩ = false := hpFree hp2 _)
    have hp3 := hp2.setTab hk s.st s.most
    rw [HD1.out] at hp3
    have hK3 : Keeps (· = g) w ((w2.setCell ⟨g, 18 + k * 3, none⟩ (.int .i64 s.st)).setCell ⟨g, 18 + k * 3 + 1, none⟩ (.int .i64 s.most)) := ks1 (ks1 hK2 _ _) _ _
    generalize (w2.setCell ⟨g, 18 + k * 3, none⟩ (.int .i64 s.st)).setCell ⟨g, 18 + k * 3 + 1, none⟩ (.int .i64 s.most) = W3 at *
    have y0 := x0 W3 hK3
    have y1 := x1 W3 hK3
    have y2 : W3.cell? ⟨g, 18 + k * 3, none⟩ = some (.int .i64 s.st) := by rw [hp3.tst hk, ← HD1.out, Dv.tab_most]
    go_wp2_with (go_at_call 169; (with_reducible refine (HEX.out _ hp3).mono ?_); rintro r w4 ⟨rfl, hs4⟩)
    go_end0
    refine ⟨rfl, W3, ov, sv, mv, hK3.size, ?_, hs4, hK3.trans hs4.2 (fun _ _ e => e)⟩
    exact (af_old HRD.out hK3).num HDS.out.1 HDS.out.2.1 HDS.out.2.2
  · have dd := b0 h2
    have HPH : Hid (meas win (4 - (k + 1)) d1 = (ph, d')) := by
      have h := hm.out
      unfold aftS at h
      simp only [if_neg h2] at h
      show _ = _
      rw [← hd1]
      exact h
    have HME : Hid (∀ X, PbI X g win pr af d1 ov sv mv q → Calls Tryz.prog 159 #[.pointer (some ⟨g, 0, none⟩), .int .i64 ((k : Int) + 1)] X fun r w' => r = .returned (.tuple #[]) ∧ StepTo X g win ov sv mv q ph d' w') := fun X hX => by
      have hh := measure_any g win pr af d1 ov sv mv q (k + 1) (by omega) X hX ph d' HPH.out
      rw [show ((k + 1 : Nat) : Int) = (k : Int) + 1 by omega] at hh
      exact hh
    have HDS : Hid (d'.objs = d.objs ∧ d'.sd = d.sd ∧ ∀ i, (d'.ts i).map = (d.ts i).map) := by
      obtain ⟨a, b, c⟩ := meas_same win _ _ _ _ HPH.out
      refine ⟨a.trans ?_, b.trans ?_, fun i => (c i).trans ?_⟩
      · rw [← hd1]; rfl
      · rw [← hd1]; rfl
      · rw [← hd1]; exact Dv.tab_map d k _ _ i
    clear h2 hm hmo hd1 HPH
    go_enter Tryz.func167, Tryz.ntmps167
    go_upto_region 0 with (fail)
    go_quiet (fail)
    go_upto_region 2 with (go_at_call 168; (with_reducible refine (HRS.out _).mono ?_); rintro r w2 ⟨rfl, hb2⟩; have hB2 : Below w.heap.size w w2 := bt (below_drewN (Below.refl _ _) _) hb2 (Nat.le_refl _); have hK2 : Keeps (· = g) w w2 := Keeps.of_below hB2; have hp2 := H.out.keep hB2; have c1 := hp2.tst hk; have c2 := hp2.most hk; have f1 : w2.frozen? ⟨g, 18 + k * 3, none⟩ = false := hpFree hp2 _; have f2 : w2.frozen? ⟨g, 18 + k * 3 + 1, none⟩ = false := hpFree hp2 _)
    have hp3 := hp2.setTab hk s.st s.most
    rw [HD1.out] at hp3
    have hK3 : Keeps (· = g) w ((w2.setCell ⟨g, 18 + k * 3, none⟩ (.int .i64 s.st)).setCell ⟨g, 18 + k * 3 + 1, none⟩ (.int .i64 s.most)) := ks1 (ks1 hK2 _ _) _ _
    generalize (w2.setCell ⟨g, 18 + k * 3, none⟩ (.int .i64 s.st)).setCell ⟨g, 18 + k * 3 + 1, none⟩ (.int .i64 s.most) = W3 at *
    have y0 := x0 W3 hK3
    have y1 := x1 W3 hK3
    have y2 : W3.cell? ⟨g, 18 + k * 3, none⟩ = some (.int .i64 s.st) := by rw [hp3.tst hk, ← HD1.out, Dv.tab_most]
    go_wp2_with (go_at_call 159; (with_reducible refine (HME.out _ hp3).mono ?_); rintro r w4 ⟨rfl, hs4⟩)
    go_end0
    refine ⟨rfl, W3, ov, sv, mv, hK3.size, ?_, hs4, hK3.trans hs4.2 (fun _ _ e => e)⟩
    exact (af_old HRD.out hK3).num HDS.out.1 HDS.out.2.1 HDS.out.2.2
def aftM (win : Nat → Int × Int) (k : Nat) (l : List (Int × Int)) (d : Dv) : Ph × Dv := meas win (4 - (k + 1)) (d.tab k { d.ts k with map := l })
theorem Dv.tab_mapk (d : Dv) (k : Nat) (l : List (Int × Int)) (i : Nat) : ((d.tab k { d.ts k with map := l }).ts i).map = if i = k then l else (d.ts i).map := by
  show (if i = k then { d.ts k with map := l } else d.ts i).map = _
  split <;> rfl
set_option maxRecDepth 100000 in
set_option maxHeartbeats 3200000 in
theorem af_map (P Q R : Nat → Prop) (g b bp bk bm : Nat) (win : Nat → Int × Int) (pr af : Value) (d : Dv) (ov sv : Value) (mv : Nat → Value) (q : Int) (w : World) (h : PbI w g win pr af d ov sv mv q) (hrd : RdSt (FQ P Q g) w d ov sv mv) (k : Nat) (hk : k < 4) (m : Mp) (v : Value) (qq : Int) (hM : MpAt R w b m v qq) (hmk : m.ok) (hr : m.rest = 0)
    (hbp : w.heap[bp]? = some (.cells #[.pointer (some ⟨g, 0, none⟩)] 93)) (hbk : w.heap[bk]? = some (.cells #[.int .i64 (k : Int)] 3)) (hbm : w.heap[bm]? = some (.cells #[.pointer (some ⟨b, 0, none⟩)] 226)) (hpg : bp ≠ g) (hkg : bk ≠ g) (hmg : bm ≠ g) (ph : Ph) (d' : Dv) (l : List (Int × Int)) (hl : Hid (rle m.ks = l)) (hm : Hid (aftM win k l d = (ph, d'))) :
    Calls Tryz.prog 171 #[.pointer (some ⟨bm, 0, none⟩), .pointer (some ⟨bp, 0, none⟩), .pointer (some ⟨bk, 0, none⟩)] w (AfPost P Q w g win q ph d') := by
  have hgl : g < w.heap.size := hpLt h
  have x0 : ∀ X, Keeps (· = g) w X → X.cell? ⟨bp, 0, none⟩ = some (.pointer (some ⟨g, 0, none⟩)) := fun X k => hpCell (hpKeeps hbp k hpg) 0
  have x1 : ∀ X, Keeps (· = g) w X → X.cell? ⟨bk, 0, none⟩ = some (.int .i64 (k : Int)) := fun X h => hpCell (hpKeeps hbk h hkg) 0
  have x2 : ∀ X, Keeps (· = g) w X → X.cell? ⟨bm, 0, none⟩ = some (.pointer (some ⟨b, 0, none⟩)) := fun X h => hpCell (hpKeeps hbm h hmg) 0
  have k0 : Keeps (· = g) w w := Keeps.refl _ _
  have kD : Keeps (· = g) w w.drew := Keeps.of_below (Below.refl _ _).drew
  have kS : ∀ X a, Keeps (· = g) w X → Keeps (· = g) w (X.setCell ⟨g, 18 + k * 3 + 2, none⟩ a) := fun X a h => ks1 h _ _
  have hki : (0 : Int) ≤ (k : Int) := Int.natCast_nonneg _
  have hkl : (k : Int) < 4 := by omega
  have sw : IntKind.i64.wrap ((k : Int) + 1) = (k : Int) + 1 := IntWalk.i64_in _ (by omega)
  have HRS : Hid (Calls Tryz.prog 172 #[.pointer (some ⟨b, 0, none⟩)] w.drew (SpansPost w.drew l)) := mspans_any (hM.grow (Below.refl _ _).drew R (fun _ e => e)) hmk hr l hl
  obtain ⟨d1, hd1⟩ : ∃ e, d.tab k { d.ts k with map := l } = e := ⟨_, rfl⟩
  have HD1 := hid hd1
  have HRD := hid hrd
  have H := hid h
  have HPH : Hid (meas win (4 - (k + 1)) d1 = (ph, d')) := by show _ = _; rw [← hd1]; exact hm.out
  have HME : Hid (∀ X mv', PbI X g win pr af d1 ov sv mv' q → Calls Tryz.prog 159 #[.pointer (some ⟨g, 0, none⟩), .int .i64 ((k : Int) + 1)] X fun r w' => r = .returned (.tuple #[]) ∧ StepTo X g win ov sv mv' q ph d' w') := fun X mv' hX => by
    have hh := measure_any g win pr af d1 ov sv mv' q (k + 1) (by omega) X hX ph d' HPH.out
    rw [show ((k + 1 : Nat) : Int) = (k : Int) + 1 by omega] at hh
    exact hh
  have HDS : Hid (d'.objs = d.objs ∧ d'.sd = d.sd ∧ ∀ i, (d'.ts i).map = if i = k then l else (d.ts i).map) := by
    obtain ⟨a, b, c⟩ := meas_same win _ _ _ _ HPH.out
    refine ⟨a.trans ?_, b.trans ?_, fun i => (c i).trans ?_⟩
    · rw [← hd1]; rfl
    · rw [← hd1]; rfl
    · rw [← hd1]; exact Dv.tab_mapk d k l i
  clear h hrd hM hmk hr hbp hbk hbm hm hl hd1 HPH
  go_enter Tryz.func171, Tryz.ntmps171
  go_upto_region 0 with (fail)
  go_region_held3 (fun X => Keeps (· = g) w X) ((with_reducible (first | exact kD | assumption | exact k0 | exact kS _ _ hK2)))
    ((go_at_call 172; (with_reducible refine HRS.out.mono ?_); rintro r w2 ⟨a2, k2, rfl, hr2, hb2⟩; have hB2 : Below w.heap.size w w2 := bt (Below.refl _ _).drew hb2 (Nat.le_refl _); have hK2 : Keeps (· = g) w w2 := Keeps.of_below hB2; have hp2 := H.out.keep hB2; have c1 := hp2.mapc hk; have f1 : w2.frozen? ⟨g, 18 + k * 3 + 2, none⟩ = false := hpFree hp2 _))
  all_goals
    have hp3 := hp2.setMap hk l (.slice a2 l.length k2)
    rw [HD1.out] at hp3
    have hK23 : Keeps (· = g) w2 (w2.setCell ⟨g, 18 + k * 3 + 2, none⟩ (.slice a2 l.length k2)) := ks1 (Keeps.refl _ _) _ _
    have hK3 := kS _ (.slice a2 l.length k2) hK2
    have HR2 := hid hr2
    clear hr2
    generalize w2.setCell ⟨g, 18 + k * 3 + 2, none⟩ (.slice a2 l.length k2) = W3 at *
    have y0 := x0 W3 hK3
    have y1 := x1 W3 hK3
    go_wp2_with (go_at_call 159; (with_reducible refine (HME.out _ _ hp3).mono ?_); rintro r w4 ⟨rfl, hs4⟩)
    go_end0
    refine ⟨rfl, W3, ov, sv, updV mv k (.slice a2 l.length k2), hK3.size, ?_, hs4, hK3.trans hs4.2 (fun _ _ e => e)⟩
    intro W' hW'
    have hold := HRD.out W' ((hK3.mono (G := FQ P Q g) (fun _ _ e => .inr (.inr e))).trans hW' (fun _ _ e => e.2))
    refine ⟨by rw [HDS.out.1]; exact hold.1, by rw [HDS.out.2.1]; exact hold.2.1, fun i hi => ?_⟩
    rw [HDS.out.2.2 i]
    by_cases hik : i = k
    · subst hik
      rw [if_pos rfl, show updV mv i (.slice a2 l.length k2) i = .slice a2 l.length k2 from if_pos rfl]
      refine Spn.keeps (F := fun j => j < w.heap.size) (own_lower (own_keeps HR2.out hK23 (fun j hj e => ?_)) (Nat.zero_le _)) (hW'.mono (fun _ _ e => e.1)) (fun j hj e => ?_)
      · have := (HR2.out.lt j hj).1
        simp at this
        omega
      · have := (HR2.out.lt j hj).1
        simp at this
        omega
    · rw [if_neg hik, show updV mv k (.slice a2 l.length k2) i = mv i from if_neg hik]
      exact hold.2.2 i hi
end Go.Proofs.YtipnamoocemeeaaGreat
