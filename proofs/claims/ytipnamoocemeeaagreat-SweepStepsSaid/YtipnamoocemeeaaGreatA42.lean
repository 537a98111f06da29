/-
  Texts 42 of the claim.
-/
import Derived.Test.YtipnamoocemeeaaGreatA41
/-
  The reference's probe: Feed in a search.
-/
namespace Go.Proofs.YtipnamoocemeeaaGreat
open Go.RowKit


/-- Of the tables that are still to come nothing is known. -/
def Ph.at : Ph → Nat
  | .seek k _ => k
  | .map k _ => k + 1
  | .done => 4
  | _ => 0
def Pb.tidy (p : Pb) : Prop := ∀ i, p.ph.at ≤ i → (p.d.ts i).most = 0
theorem meas_tidy {win : Nat → Int × Int} : ∀ (n : Nat), n ≤ 4 → ∀ {d : Dv} {ph : Ph} {d' : Dv}, meas win n d = (ph, d') → (∀ i, 4 - n ≤ i → (d.ts i).most = 0) → ∀ i, ph.at ≤ i → (d'.ts i).most = 0
  | 0, _, d, ph, d', h, hd => by
    have h1 := (Prod.mk.inj h).1
    have h2 := (Prod.mk.inj h).2
    subst h1 h2
    exact hd
  | n + 1, hn, d, ph, d', h, hd => by
    unfold meas at h
    split at h
    · refine meas_tidy n (by omega) h (fun i hi => ?_)
      unfold Dv.tab
      dsimp only
      split
      · rename_i e
        exact hd _ (by omega)
      · exact hd i (by omega)
    · have h1 := (Prod.mk.inj h).1
      have h2 := (Prod.mk.inj h).2
      subst h1 h2
      exact fun i hi => hd i (by have : 3 - n ≤ i := hi; omega)
theorem Dv.tab_other (d : Dv) (k : Nat) (t : Tb) {i : Nat} (h : i ≠ k) : (d.tab k t).ts i = d.ts i := if_neg h
theorem Pb.step_tidy {win : Nat → Int × Int} {p : Pb} (hp : p.ph.ok win) (h : p.tidy) (O : Oc) : Pb.tidy (p.feed win O) := by
  obtain ⟨ph, d, q⟩ := p
  show ∀ i, (Pb.step win ⟨ph, d, q⟩ O).1.at ≤ i → ((Pb.step win ⟨ph, d, q⟩ O).2.ts i).most = 0
  cases ph with
  | test =>
    intro i hi
    exact h i (Nat.zero_le _)
  | ident x =>
    unfold Pb.step
    dsimp only
    split
    · exact fun i hi => h i hi
    · exact fun i hi => h i hi
  | server => exact meas_tidy 4 (Nat.le_refl _) rfl (fun i _ => h i (Nat.zero_le _))
  | seek k s =>
    obtain ⟨hk, -⟩ := hp
    unfold Pb.step
    dsimp only
    split
    · exact fun i hi => h i hi
    · unfold aftS
      dsimp only
      have hd : ∀ i, k + 1 ≤ i → ((d.tab k { d.ts k with st := (s.feed O.verdict O.reply.exc).st, most := (s.feed O.verdict O.reply.exc).most }).ts i).most = 0 := fun i hi => by
        rw [Dv.tab_other _ _ _ (by omega)]
        exact h i (by show k ≤ i; omega)
      split
      · exact hd
      · exact meas_tidy (4 - (k + 1)) (by omega) rfl (fun i hi => hd i (by omega))
  | map k m =>
    obtain ⟨hk, -⟩ := hp
    unfold Pb.step
    dsimp only
    split
    · refine meas_tidy (4 - (k + 1)) (by omega) rfl (fun i hi => ?_)
      rw [Dv.tab_other _ _ _ (by omega)]
      exact h i (by show k + 1 ≤ i; omega)
    · exact fun i hi => h i hi
  | done => exact fun i hi => h i hi

theorem RqI.setTab {W : World} {g : Nat} {win : Nat → Int × Int} {st : Int} {iV sV mV : Value} {d : Dv} {ov sv : Value} {mv : Nat → Value} {q : Int} (h : RqI W g win st iV sV mV d ov sv mv q) {k : Nat} (hk : k < 4) (s m : Int) :
    RqI ((W.setCell ⟨g, 20 + k * 3, none⟩ (.int .i64 s)).setCell ⟨g, 20 + k * 3 + 1, none⟩ (.int .i64 m)) g win st iV sV mV (d.tab k { d.ts k with st := s, most := m }) ov sv mv q := by
  refine hpSetP (hpSetP h rfl) ?_
  match k, hk with
  | 0, _ => rfl
  | 1, _ => rfl
  | 2, _ => rfl
  | 3, _ => rfl

/-- What stands while the tables are written. -/
structure RqS (g b : Nat) (win : Nat → Int × Int) (st : Int) (iV sV : Value) (ov sv : Value) (mv : Nat → Value) (q : Int) (y : Sr) (X : World) : Prop where
  hi : ∃ mV d', RqI X g win st iV sV mV d' ov sv mv q
  hs : SqAt X b y

set_option maxRecDepth 100000 in
set_option maxHeartbeats 12800000 in
theorem rpf_seek {P Q : Nat → Prop} {W0 w : World} {g : Nat} {win : Nat → Int × Int} {k : Nat} {s : Sr} {d : Dv} {q st : Int} {iV sV mV ov sv : Value} {mv : Nat → Value} (hb : P g ∧ W0.heap.size ≤ g ∧ ∀ j, j < W0.heap.size → P j) (hBW : Below W0.heap.size W0 w) (hs : RqSt P Q W0 w g win ⟨.seek k s, d, q⟩ st iV sV mV ov sv mv) (q0 : 0 ≤ q) (q1 : q ≤ 1000000) (hwo : WinOk win) (hok : (Ph.seek k s).ok win) (hti : Pb.tidy ⟨.seek k s, d, q⟩)
    (O : Oc) (da : Option Addr) (dc : Nat) (oa : Option Addr) (oc : Nat) (p' : Pb) (hp' : Hid (p' = Pb.feed win ⟨.seek k s, d, q⟩ O)) :
    Calls Tryz.prog 57 #[.pointer (some ⟨g, 0, none⟩), .agg #[.int .i64 O.verdict, .int .i64 O.reply.fn, .int .i64 O.reply.exc, .slice da O.reply.data.length dc, .int .i64 O.reply.code, .int .i64 O.reply.level, .bool O.reply.more, .int .i64 O.reply.next, .slice oa O.reply.objs.length oc]] w (RqFd P W0 w g win p') := by
  have h := hs.2.1
  obtain ⟨hst, hk4, b, hsv, hqb, hsq⟩ := hs.2.2.2
  obtain ⟨-, hwk, hsg, hs0, hsl⟩ := hok
  have hrd := hs.2.2.1
  obtain ⟨WB, hWB⟩ : ∃ W, w.alloc (.cells #[.int .i64 O.verdict, .int .i64 O.reply.fn, .int .i64 O.reply.exc, .slice da O.reply.data.length dc, .int .i64 O.reply.code, .int .i64 O.reply.level, .bool O.reply.more, .int .i64 O.reply.next, .slice oa O.reply.objs.length oc] 55) = W := ⟨_, rfl⟩; have hbB : Below w.heap.size w WB := (by rw [← hWB]; exact bal' w _); have pB : WB.heap[w.heap.size]? = some (.cells #[.int .i64 O.verdict, .int .i64 O.reply.fn, .int .i64 O.reply.exc, .slice da O.reply.data.length dc, .int .i64 O.reply.code, .int .i64 O.reply.level, .bool O.reply.more, .int .i64 O.reply.next, .slice oa O.reply.objs.length oc] 55) := (by rw [← hWB]; exact hpNew w _); have hgl : g < w.heap.size := hpLt h; have hB := h.keep hbB; have cB : WB.cell? ⟨g, 8, none⟩ = some (.int .i64 st) := hB.step; have cQ : WB.cell? ⟨g, 33, none⟩ = some (.int .i64 q) := hpCell hB 33; have fQ : WB.frozen? ⟨g, 33, none⟩ = false := hpFree hB 33; have sQ : IntKind.i64.wrap (q + 1) = q + 1 := IntWalk.i64_in _ (by omega); obtain ⟨W1, hW1⟩ : ∃ W, WB.setCell ⟨g, 33, none⟩ (.int .i64 (q + 1)) = W := ⟨_, rfl⟩; have hk1 : Keeps (· = g) WB W1 := (by rw [← hW1]; exact ks1 (Keeps.refl _ _) _ _); have h1 : RqI W1 g win st iV sV mV d ov sv mv (q + 1) := (by rw [← hW1]; exact hB.setQ _); have o1 : W1.heap[w.heap.size]? = some (.cells #[.int .i64 O.verdict, .int .i64 O.reply.fn, .int .i64 O.reply.exc, .slice da O.reply.data.length dc, .int .i64 O.reply.code, .int .i64 O.reply.level, .bool O.reply.more, .int .i64 O.reply.next, .slice oa O.reply.objs.length oc] 55) := hpKeeps pB hk1 (fun e => by omega); have c8 := h1.step; have HKW : Hid (Keeps (· = g) w W1) := (Keeps.of_below hbB).trans hk1 (fun _ _ e => e); have HWB := hid hWB; have HW1 := hid hW1; have H1 := hid h1; obtain ⟨T, hT⟩ : ∃ T, st - 3 = T := ⟨_, rfl⟩; have sT : IntKind.i64.wrap (st - 3) = T := (by rw [IntWalk.i64_in _ (by omega)]; exact hT); obtain ⟨kk, hkk⟩ : ∃ kk, IntKind.i64.wrap (T.tdiv 2) = kk := ⟨_, rfl⟩
  subst hsv
  have hbg := (hs.1 b hqb).2.2.1
  have hbl := (hs.1 b hqb).2.2.2
  have hwb : w.heap.size ≠ b := by omega
  have o0 : ∀ X, Keeps (· = b) W1 X → X.cell? ⟨w.heap.size, 0, none⟩ = some (.int .i64 O.verdict) := (fun X h => hpCell (hpKeeps o1 h hwb) 0); have o1' : ∀ X, Keeps (· = b) W1 X → X.cell? ⟨w.heap.size, 1, none⟩ = some (.int .i64 O.reply.fn) := (fun X h => hpCell (hpKeeps o1 h hwb) 1); have o2 : ∀ X, Keeps (· = b) W1 X → X.cell? ⟨w.heap.size, 2, none⟩ = some (.int .i64 O.reply.exc) := (fun X h => hpCell (hpKeeps o1 h hwb) 2); have o3 : ∀ X, Keeps (· = b) W1 X → X.cell? ⟨w.heap.size, 3, none⟩ = some (.slice da O.reply.data.length dc) := (fun X h => hpCell (hpKeeps o1 h hwb) 3); have o4 : ∀ X, Keeps (· = b) W1 X → X.cell? ⟨w.heap.size, 4, none⟩ = some (.int .i64 O.reply.code) := (fun X h => hpCell (hpKeeps o1 h hwb) 4); have o5 : ∀ X, Keeps (· = b) W1 X → X.cell? ⟨w.heap.size, 5, none⟩ = some (.int .i64 O.reply.level) := (fun X h => hpCell (hpKeeps o1 h hwb) 5); have o6 : ∀ X, Keeps (· = b) W1 X → X.cell? ⟨w.heap.size, 6, none⟩ = some (.bool O.reply.more) := (fun X h => hpCell (hpKeeps o1 h hwb) 6); have o7 : ∀ X, Keeps (· = b) W1 X → X.cell? ⟨w.heap.size, 7, none⟩ = some (.int .i64 O.reply.next) := (fun X h => hpCell (hpKeeps o1 h hwb) 7); have o8 : ∀ X, Keeps (· = b) W1 X → X.cell? ⟨w.heap.size, 8, none⟩ = some (.slice oa O.reply.objs.length oc) := (fun X h => hpCell (hpKeeps o1 h hwb) 8); have k0 : Keeps (· = b) W1 W1 := Keeps.refl _ _; have kD : Keeps (· = b) W1 W1.drew := Keeps.of_below (Below.refl _ _).drew
  have x10 : ∀ X, Keeps (· = b) W1 X → X.cell? ⟨g, 10, none⟩ = some (.pointer (some ⟨b, 0, none⟩)) := fun X h => hpCell (hpKeeps h1 h (fun e => hbg e.symm)) 10
  have hsq1 : SqAt W1.drew b s := hpKeeps hsq (HKW.out.trans (Keeps.of_below (F := fun _ => False) (Below.refl _ _).drew) (fun _ _ e => e.elim)) hbg
  obtain ⟨y, hy⟩ : ∃ y, s.feed O.verdict O.reply.exc = y := ⟨_, rfl⟩
  have hyo := Sr.feed_ok hsg hs0 hsl O.verdict O.reply.exc
  rw [hy] at hyo
  have HYO := hid hyo
  have HFD : Hid (Calls Tryz.prog 97 #[.pointer (some ⟨b, 0, none⟩), .agg #[.int .i64 O.verdict, .int .i64 O.reply.fn, .int .i64 O.reply.exc, .slice da O.reply.data.length dc, .int .i64 O.reply.code, .int .i64 O.reply.level, .bool O.reply.more, .int .i64 O.reply.next, .slice oa O.reply.objs.length oc]] W1.drew (SqFed W1.drew b y)) := by
    rw [← hy]
    exact rsfeed_any b s hsg.ok hs0 O.verdict O.reply.exc _ _ _ _ _ _ _ W1.drew hsq1
  have HPP : Hid (p' = if y.st = 0 then ⟨.seek k y, d, q + 1⟩ else ⟨(aftS win k y d).1, (aftS win k y d).2, q + 1⟩) := by
    show _ = _
    rw [hp'.out, ← hy]
    unfold Pb.feed Pb.step
    dsimp only
    split <;> rfl
  have HTI : Hid ((d.ts k).most = 0) := hti k (Nat.le_refl _)
  have HEN : Hid (∀ (Q' : Nat → Prop) (w7 : World) (st' : Int) (sV' mV' : Value) (ph : Ph) (d' : Dv), p' = ⟨ph, d', q + 1⟩ → Keeps (fun j => j = b ∨ j = g) w w7 → (∀ j, Q' j → (Q j ∨ w.heap.size ≤ j) ∧ j < w7.heap.size) → (d'.objs = d.objs ∧ d'.sd = d.sd ∧ ∀ i, (d'.ts i).map = (d.ts i).map) → RqI w7 g win st' iV sV' mV' d' ov sv mv (q + 1) → RqPh Q' W0 w7 st' iV sV' mV' (q + 1) ph → RqFd P W0 w g win p' (.returned (.int .i64 0)) w7) := fun Q' w7 st' sV' mV' ph d' e hk hQ' hds hi hp => by
    subst e
    have hk' : Keeps (fun j => Q j ∨ j = g) w w7 := hk.mono (fun j _ e => by rcases e with e | e; exact .inl (by rw [e]; exact hqb); exact .inr e)
    exact RqSt.fed hb hBW hs hk' Q' hQ' hi ((hrd.go hk' (fun j e => (hQ' j e).1)).num hds.1 hds.2.1 hds.2.2) hp
  have HBG := hid hbg
  have HQL : Hid (∀ j, Q j → j < w.heap.size) := fun j e => (hs.1 j e).2.2.2
  have HQB := hid hqb
  have HBL := hid hbl
  have HGL := hid hgl
  have HST := hid hst
  have HWO := hid hwo
  have HWK := hid hwk
  have hki : (0 : Int) ≤ (k : Int) := Int.natCast_nonneg _
  have hkl : (k : Int) < 4 := by omega
  have hkk2 : kk = (k : Int) := by rw [← hkk, Int.tdiv_eq_ediv_of_nonneg (by omega), IntWalk.i64_in _ (by omega)]; omega
  subst hkk2
  have d0 : (st == 0) = false := b0 (by omega)
  have d1 : (st == 1) = false := b0 (by omega)
  have d2 : (st == 2) = false := b0 (by omega)
  have d11 : (st == 11) = false := b0 (by omega)
  have sm : (T.tmod 2 == 0) = true := b1 (by rw [Int.tmod_eq_emod_of_nonneg (by omega)]; omega)
  clear hb hBW hs hrd hp' hWB hbB pB hB hW1 hk1 h1 h hT o1 hsg hs0 hsl hyo hsq hsq1 hwo hwk hy hst hti hqb
  go_enter Tryz.func57, Tryz.ntmps57; go_upto_region 1 with (fail); rw [HWB.out]; go_upto_region 4 with (fail); rw [HW1.out]; clear cB cQ fQ sQ HWB HW1
  go_upto_region 24 with (fail)
  go_region_held3 (fun X => Keeps (· = b) W1 X) ((with_reducible (first | exact kD | assumption | exact k0)))
    ((go_at_call 97; (with_reducible refine HFD.out.mono ?_); rintro r w5 ⟨rfl, hq5, hk5⟩; have hK5 : Keeps (· = b) W1 w5 := kD.trans hk5 (fun _ _ e => e)))
  have h5 : RqI w5 g win st iV (.pointer (some ⟨b, 0, none⟩)) mV d ov sv mv (q + 1) := hpKeeps H1.out hK5 (fun e => HBG.out e.symm)
  have c10 : w5.cell? ⟨g, 10, none⟩ = some (.pointer (some ⟨b, 0, none⟩)) := hpCell h5 10
  have y4 : w5.cell? ⟨b, 4, none⟩ = some (.int .i64 y.st) := hq5.cell 4
  have hkw5 : Keeps (fun j => j = b ∨ j = g) w w5 := (HKW.out.mono (fun j _ e => .inr e)).trans hK5 (fun j _ e => .inl e)
  have HK := hid hkw5
  have H5 := hid h5
  have HQ5 := hid hq5
  clear x10 o0 o1' o2 o3 o4 o5 o6 o7 o8 k0 kD hK5 hk5 h5 hq5 c8 HFD H1 hkw5 HKW
  by_cases hy0 : y.st = 0
  · have e0 : (y.st == 2) = false := b0 (by omega)
    have e1 : (y.st != 0) = false := by rw [bne_eq_false_iff_eq]; exact hy0
    have HE : Hid (p' = ⟨.seek k y, d, q + 1⟩) := by show _ = _; rw [HPP.out, if_pos hy0]
    clear hy0 HPP
    go_wp2
    go_ret
    exact HEN.out Q w5 st _ mV _ d HE.out HK.out (fun j e => ⟨.inl e, by have := HQL.out j e; have := HK.out.size; omega⟩) ⟨rfl, rfl, fun _ => rfl⟩ H5.out ⟨HST.out, by omega, b, rfl, HQB.out, HQ5.out⟩
  · by_cases hy2 : y.st = 2
    · have e0 : (y.st == 2) = true := b1 hy2
      obtain ⟨D1, hD1⟩ : ∃ e, d.tab k { d.ts k with st := y.st, most := y.most } = e := ⟨_, rfl⟩
      obtain ⟨MM, hMM⟩ : ∃ m, minI y.lo (win k).2 = m := ⟨_, rfl⟩
      have hfin := HYO.out.fin hy2
      have hlo : y.most = y.lo := by unfold Sr.most; rw [if_pos hy2]
      have hwk4 := HWO.out k hk4
      have hMb : 1 ≤ MM ∧ MM ≤ 2000 := by have := HWK.out; rw [← hMM]; unfold minI; split <;> omega
      have HE : Hid (p' = ⟨.map k (Mp.new ((k : Int) + 1) (win k).1 (win k).2 MM), D1, q + 1⟩) := by
        show _ = _
        rw [HPP.out, if_neg hy0]
        unfold aftS
        simp only [if_pos hy2]
        rw [hD1, hlo, hMM]
      have HNM : Hid (∀ X, Calls Tryz.prog 99 #[.int .i64 ((k : Int) + 1), .agg #[.int .i64 (win k).1, .int .i64 (win k).2], .int .i64 MM] X fun r w' => ∃ g' : Nat, r = .returned (.pointer (some ⟨g', 0, none⟩)) ∧ X.heap.size ≤ g' ∧ RmC w' g' (Mp.new ((k : Int) + 1) (win k).1 (win k).2 MM) (.slice none 0 0) 0 ∧ Below X.heap.size X w') := fun X => rmnew_any _ _ _ _ (by omega) (by omega) (by have := HWK.out; omega) (by omega) (by omega) (by omega) hMb.1 hMb.2 X
      have m1 : ∀ ts T W, (Builtin.min_ ts T #[.int .i64 y.lo, .int .i64 (win k).2]).run Tryz.prog W = .ok (.int .i64 MM) W := bmin Tryz.prog y.lo (win k).2 MM (by rw [← hMM]; rfl)
      have HDS : Hid (D1.objs = d.objs ∧ D1.sd = d.sd ∧ ∀ i, (D1.ts i).map = (d.ts i).map) := by
        rw [← hD1]
        exact ⟨rfl, rfl, Dv.tab_map d k _ _⟩
      have HD1 := hid hD1
      have sw : IntKind.i64.wrap ((k : Int) + 1) = (k : Int) + 1 := IntWalk.i64_in _ (by omega)
      have z10 : ∀ X, RqS g b win st iV (.pointer (some ⟨b, 0, none⟩)) ov sv mv (q + 1) y X → X.cell? ⟨g, 10, none⟩ = some (.pointer (some ⟨b, 0, none⟩)) := fun X ⟨⟨_, _, h⟩, _⟩ => hpCell h 10
      have zb1 : ∀ X, RqS g b win st iV (.pointer (some ⟨b, 0, none⟩)) ov sv mv (q + 1) y X → X.cell? ⟨b, 1, none⟩ = some (.int .i64 y.lo) := fun X ⟨_, h⟩ => h.cell 1
      have zc : ∀ X, RqS g b win st iV (.pointer (some ⟨b, 0, none⟩)) ov sv mv (q + 1) y X → X.cell? ⟨g, k * 2 + 1, none⟩ = some (.int .i64 (win k).2) := fun X ⟨⟨_, _, h⟩, _⟩ => h.count hk4
      have zf : ∀ X, RqS g b win st iV (.pointer (some ⟨b, 0, none⟩)) ov sv mv (q + 1) y X → X.cell? ⟨g, k * 2, none⟩ = some (.int .i64 (win k).1) := fun X ⟨⟨_, _, h⟩, _⟩ => h.first hk4
      have k0 : RqS g b win st iV (.pointer (some ⟨b, 0, none⟩)) ov sv mv (q + 1) y w5 := ⟨⟨_, _, H5.out⟩, HQ5.out⟩
      have kD : RqS g b win st iV (.pointer (some ⟨b, 0, none⟩)) ov sv mv (q + 1) y w5.drew := ⟨⟨_, _, H5.out.keep (Below.refl _ _).drew⟩, HQ5.out.keep (Below.refl _ _).drew⟩
      have HRS : Hid (Calls Tryz.prog 98 #[.pointer (some ⟨b, 0, none⟩)] w5.drew fun r w' => r = .returned (.tuple #[.int .i64 y.st, .int .i64 y.most]) ∧ Below w5.drew.heap.size w5.drew w') := rsresult_any b y _ kD.hs
      have HY2 := hid hy2
      have hgb : g ≠ b := fun e => HBG.out e.symm
      clear hy0 hy2 HPP hD1 hMM hfin hlo hwk4 hMb
      go_upto_region 26 with (fail)
      clear c10 y4
      go_cut [] from 173 to 194 (fun wc => Hid (RqI wc g win st iV (.pointer (some ⟨b, 0, none⟩)) mV D1 ov sv mv (q + 1) ∧ Keeps (· = g) w5 wc ∧ SqAt wc b y))
      case first =>
        go_region_held3 (fun X => RqS g b win st iV (.pointer (some ⟨b, 0, none⟩)) ov sv mv (q + 1) y X) ((with_reducible (first | exact kD | assumption | exact k0 | exact kS1 _ _ | exact kS2 _ _ _)))
          ((go_at_call 98; (with_reducible refine HRS.out.mono ?_); rintro r w6 ⟨rfl, hb6⟩; have hB6 : Below w5.heap.size w5 w6 := bt (Below.refl _ _).drew hb6 (Nat.le_refl _); have h6 := H5.out.keep hB6; have hq6 := HQ5.out.keep hB6; have kW : RqS g b win st iV (.pointer (some ⟨b, 0, none⟩)) ov sv mv (q + 1) y w6 := ⟨⟨_, _, h6⟩, hq6⟩; have c20 := h6.tst hk4; have f20 : w6.frozen? ⟨g, 20 + k * 3, none⟩ = false := hpFree h6 _; have c21 := h6.tmost hk4; have f21 : w6.frozen? ⟨g, 20 + k * 3 + 1, none⟩ = false := hpFree h6 _; have hS1 : ∀ a, RqS g b win st iV (.pointer (some ⟨b, 0, none⟩)) ov sv mv (q + 1) y (w6.setCell ⟨g, 20 + k * 3, none⟩ (.int .i64 a)) := (fun a => ⟨⟨_, _, h6.setTst hk4 a⟩, (hpOther (fun e => hgb e.symm)).trans hq6⟩); have hS2 : ∀ a c, RqS g b win st iV (.pointer (some ⟨b, 0, none⟩)) ov sv mv (q + 1) y ((w6.setCell ⟨g, 20 + k * 3, none⟩ (.int .i64 a)).setCell ⟨g, 20 + k * 3 + 1, none⟩ (.int .i64 c)) := (fun a c => ⟨⟨_, _, h6.setTab hk4 a c⟩, (hpOther (fun e => hgb e.symm)).trans ((hpOther (fun e => hgb e.symm)).trans hq6)⟩); have kS1 := hS1 y.st; have kS2 := hS2 y.st y.most))
        all_goals
          go_wp2
          go_meet
          case rel =>
            have hx := h6.setTab hk4 y.st y.most
            rw [HD1.out] at hx
            exact ⟨hx, ks1 (ks1 (Keeps.of_below hB6) _ _) _ _, (hpOther (fun e => hgb e.symm)).trans ((hpOther (fun e => hgb e.symm)).trans hq6)⟩
      case rest =>
        obtain ⟨W6, hW6⟩ : ∃ W, W = wc := ⟨_, rfl⟩
        subst hW6
        obtain ⟨hc1, hc2, hc3⟩ := hcut.out
        have k0' : RqS g b win st iV (.pointer (some ⟨b, 0, none⟩)) ov sv mv (q + 1) y W6 := ⟨⟨_, _, hc1⟩, hc3⟩
        have kD' : RqS g b win st iV (.pointer (some ⟨b, 0, none⟩)) ov sv mv (q + 1) y W6.drew := ⟨⟨_, _, hc1.keep (Below.refl _ _).drew⟩, hc3.keep (Below.refl _ _).drew⟩
        have C1 := hid hc1
        have C2 := hid hc2
        have C3 := hid hc3
        clear hc1 hc2 hc3 hcut k0 kD HRS
        go_upto_region 27 with (fail)
        go_cut [] from 195 to 221 (fun wd => Hid (∃ g7 : Nat, W6.heap.size ≤ g7 ∧ g7 < wd.heap.size ∧ RqI wd g win st iV (.pointer (some ⟨b, 0, none⟩)) (.pointer (some ⟨g7, 0, none⟩)) D1 ov sv mv (q + 1) ∧ Keeps (· = g) W6 wd ∧ RmC wd g7 (Mp.new ((k : Int) + 1) (win k).1 (win k).2 MM) (.slice none 0 0) 0))
        case first =>
          go_region_held3 (fun X => RqS g b win st iV (.pointer (some ⟨b, 0, none⟩)) ov sv mv (q + 1) y X) ((with_reducible (first | exact kD' | assumption | exact k0' | exact kS1 _)))
            ((go_at_call 99; (with_reducible refine (HNM.out _).mono ?_); rintro r w7 ⟨g7, rfl, hg7, hm7, hb7⟩; have hB7 : Below W6.heap.size W6 w7 := bt (Below.refl _ _).drew hb7 (Nat.le_refl _); have h7 := C1.out.keep hB7; have hq7 := C3.out.keep hB7; have kW : RqS g b win st iV (.pointer (some ⟨b, 0, none⟩)) ov sv mv (q + 1) y w7 := ⟨⟨_, _, h7⟩, hq7⟩; have c11 : w7.cell? ⟨g, 11, none⟩ = some mV := hpCell h7 11; have f11 : w7.frozen? ⟨g, 11, none⟩ = false := hpFree h7 11; have kS1 : ∀ a, RqS g b win st iV (.pointer (some ⟨b, 0, none⟩)) ov sv mv (q + 1) y (w7.setCell ⟨g, 11, none⟩ a) := (fun a => ⟨⟨_, _, h7.setM a⟩, (hpOther (fun e => hgb e.symm)).trans hq7⟩)))
          all_goals
            go_wp2
            go_meet
            case rel =>
              have hg7l : g7 < w7.heap.size := hpLt hm7
              have hgl6 : g < W6.heap.size := hpLt C1.out
              exact ⟨g7, hg7, by simpa using hg7l, h7.setM _, ks1 (Keeps.of_below hB7) _ _, (hpOther (by have : W6.heap.size ≤ g7 := hg7; omega)).trans hm7⟩
        case rest =>
          obtain ⟨W7, hW7⟩ : ∃ W, W = wc := ⟨_, rfl⟩
          subst hW7
          obtain ⟨g7, hg7, hl7, hi7, hk7, hm7⟩ := hcut.out
          have c8 := hi7.step
          have f8 : W7.frozen? ⟨g, 8, none⟩ = false := hpFree hi7 8
          obtain ⟨st1, hst1⟩ : ∃ s, st + 1 = s := ⟨_, rfl⟩
          have sw8 : IntKind.i64.wrap (st + 1) = st1 := by rw [IntWalk.i64_in _ (by have := HST.out; omega)]; exact hst1
          have HS1 := hid hst1
          have I7 := hid hi7
          have K7 := hid hk7
          have M7 := hid hm7
          clear hst1 hi7 hk7 hm7 hcut z10 zb1 zc zf k0' kD' HNM m1
          go_wp2
          go_ret
          have hkw : Keeps (fun j => j = b ∨ j = g) w W7 := ((HK.out.trans C2.out (fun j _ e => .inr e)).trans K7.out (fun j _ e => .inr e))
          have hz1 := HK.out.size
          have hz2 := C2.out.size
          have hgw := HGL.out
          refine HEN.out (· = g7) (W7.setCell ⟨g, 8, none⟩ (.int .i64 st1)) st1 _ _ _ D1 HE.out (hkw.set _ _ (.inr rfl)) (fun j e => ?_) HDS.out (I7.out.setStep st1) ?_
          · subst e
            exact ⟨.inr (by omega), by simpa using hl7⟩
          · exact ⟨by have := HST.out; have := HS1.out; omega, by omega, g7, .slice none 0 0, 0, rfl, rfl, (fun j hj => nomatch hj), ⟨(hpOther (by omega)).trans M7.out, World.ownsRow_nil _ _ _ _, (fun j hj => nomatch hj)⟩, Int.le_refl _, by omega⟩
    · have e0 : (y.st == 2) = false := b0 hy2
      have e1 : (y.st != 0) = true := by rw [bne_iff_ne]; exact hy0
      obtain ⟨D1, hD1⟩ : ∃ e, d.tab k { d.ts k with st := y.st, most := y.most } = e := ⟨_, rfl⟩
      have hmo : y.most = 0 := by unfold Sr.most; rw [if_neg hy2]
      have hD1' : d.tab k { d.ts k with st := y.st } = D1 := by
        rw [← hD1, hmo, ← HTI.out]
      obtain ⟨⟨ph, d'⟩, hph⟩ : ∃ x : Ph × Dv, meas win (4 - (k + 1)) D1 = x := ⟨_, rfl⟩
      have HE : Hid (p' = ⟨ph, d', q + 1⟩) := by
        show _ = _
        rw [HPP.out, if_neg hy0]
        unfold aftS
        simp only [if_neg hy2]
        rw [hD1, hph]
      have HDS : Hid (d'.objs = d.objs ∧ d'.sd = d.sd ∧ ∀ i, (d'.ts i).map = (d.ts i).map) := by
        obtain ⟨a, b, c⟩ := meas_same win _ _ _ _ hph
        refine ⟨a.trans ?_, b.trans ?_, fun i => (c i).trans ?_⟩
        · rw [← hD1]; rfl
        · rw [← hD1]; rfl
        · rw [← hD1]; exact Dv.tab_map d k _ _ i
      have c20 := H5.out.tst hk4
      have f20 : w5.frozen? ⟨g, 20 + k * 3, none⟩ = false := hpFree H5.out _
      have HD1' := hid hD1'
      have HPH := hid hph
      clear hy0 hy2 HPP hD1 hmo hD1' hph
      go_upto_region 30 with (fail)
      go_cut [] from 237 to 250 (fun wc => Hid (RqI wc g win st iV (.pointer (some ⟨b, 0, none⟩)) mV D1 ov sv mv (q + 1) ∧ Keeps (· = g) w5 wc))
      case first =>
        go_region
        all_goals
          go_wp2
          go_meet
          case rel =>
            have hx := (H5.out.setTst hk4 y.st).keep (Below.refl _ _).drew
            rw [HD1'.out] at hx
            exact ⟨hx, (ks1 (Keeps.refl _ _) _ _).trans (Keeps.of_below (F := fun _ => False) (Below.refl _ _).drew) (fun _ _ e => e.elim)⟩
      case rest =>
        obtain ⟨W6, hW6⟩ : ∃ W, W = wc := ⟨_, rfl⟩
        subst hW6
        obtain ⟨hc1, hc2⟩ := hcut.out
        have c8 := hc1.step
        obtain ⟨st2, hst2⟩ : ∃ s, st + 2 = s := ⟨_, rfl⟩
        have sw8 : IntKind.i64.wrap (st + 2) = st2 := by rw [IntWalk.i64_in _ (by have := HST.out; omega)]; exact hst2
        have HTO := hid (rto_tab W6 g hc1 HWO.out (k + 1) (by omega) st2 (by have := HST.out; omega) ph d' HPH.out)
        have C2 := hid hc2
        clear hst2 hc1 hc2 hcut c10 y4 c20 f20
        go_wp2_with (go_at_call 93; (with_reducible refine HTO.out.mono ?_); rintro r w7 ⟨rfl, ⟨st7, sv7, hi7, hn7⟩, hk7⟩)
        go_ret
        have hkw : Keeps (fun j => j = b ∨ j = g) w w7 := ((HK.out.trans C2.out (fun j _ e => .inr e)).trans hk7 (fun j _ e => .inr e))
        have hz1 := HK.out.size
        have hz2 := C2.out.size
        cases ph with
        | seek k' s' =>
          obtain ⟨n1, n2, b7, n3, n4, n5, n6⟩ := hn7
          exact HEN.out (· = b7) w7 st7 sv7 mV _ d' HE.out hkw (fun j e => by subst e; exact ⟨.inr (by omega), n5⟩) HDS.out hi7 ⟨n1, n2, b7, n3, rfl, n6⟩
        | done => exact HEN.out (fun _ => False) w7 st7 sv7 mV _ d' HE.out hkw (fun j e => e.elim) HDS.out hi7 hn7
        | test => exact hn7.elim
        | ident x => exact hn7.elim
        | server => exact hn7.elim
        | map k' m' => exact hn7.elim

end Go.Proofs.YtipnamoocemeeaaGreat
