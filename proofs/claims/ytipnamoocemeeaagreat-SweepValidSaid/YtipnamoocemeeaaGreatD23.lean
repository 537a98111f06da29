/-
  Texts 23 of the claim.
-/
import Derived.Test.YtipnamoocemeeaaGreatD11
import Derived.Laws.Rows
namespace Go.Proofs.YtipnamoocemeeaaGreat
open Go.RowKit
def DvC (d : Dv) (ov sv : Value) (mv : Nat → Value) : Array Value := #[.int .i64 0, .int .i64 0, .int .i64 d.st, .int .i64 d.idn, .int .i64 d.lv, ov, .int .i64 d.srv, sv, .int .i64 (d.ts 0).st, .int .i64 (d.ts 0).most, mv 0, .int .i64 (d.ts 1).st, .int .i64 (d.ts 1).most, mv 1, .int .i64 (d.ts 2).st, .int .i64 (d.ts 2).most, mv 2, .int .i64 (d.ts 3).st, .int .i64 (d.ts 3).most, mv 3, .string ByteArray.empty]
structure Dv.small (d : Dv) : Prop where
  ob : d.objs.length ≤ 1280
  vs : ∀ y ∈ d.objs, y.val.length ≤ 300
  sd : d.sd.length ≤ 300
  mp : ∀ k, k < 4 → (d.ts k).map.length ≤ 1024
def ClPost (w : World) (d : Dv) (r : Ending) (w' : World) : Prop :=
  ∃ ov sv mv, r = .returned (.agg (DvC d ov sv mv)) ∧ (∀ W', Agree w.heap.size w' W' → DvRd W' d ov sv mv) ∧ Below w.heap.size w w'
def DvI (W : World) (b : Nat) (d : Dv) (ov sv : Value) (mv : Nat → Value) : Prop := W.heap[b]? = some (.cells (DvC d ov sv mv) 91)
theorem DvI.mapc {W : World} {b : Nat} {d : Dv} {ov sv : Value} {mv : Nat → Value} (h : DvI W b d ov sv mv) {k : Nat} (hk : k < 4) : W.cell? ⟨b, 8 + k * 3 + 2, none⟩ = some (mv k) := by
  rw [hpCell h]
  match k, hk with
  | 0, _ => rfl
  | 1, _ => rfl
  | 2, _ => rfl
  | 3, _ => rfl
theorem DvI.setMap {W : World} {b : Nat} {d : Dv} {ov sv : Value} {mv : Nat → Value} (h : DvI W b d ov sv mv) {k : Nat} (hk : k < 4) (u : Value) : DvI (W.setCell ⟨b, 8 + k * 3 + 2, none⟩ u) b d ov sv (fun i => if i = k then u else mv i) := by
  refine hpSetP h ?_
  match k, hk with
  | 0, _ => rfl
  | 1, _ => rfl
  | 2, _ => rfl
  | 3, _ => rfl
theorem DvI.setObjs {W : World} {b : Nat} {d : Dv} {ov sv : Value} {mv : Nat → Value} (h : DvI W b d ov sv mv) (u : Value) : DvI (W.setCell ⟨b, 5, none⟩ u) b d u sv mv := hpSetP h rfl
theorem DvI.setData {W : World} {b : Nat} {d : Dv} {ov sv : Value} {mv : Nat → Value} (h : DvI W b d ov sv mv) (u : Value) : DvI (W.setCell ⟨b, 7, none⟩ u) b d ov u mv := hpSetP h rfl
def ElS (W : World) (b : Nat) (zi : Int) (v : Value) : Prop := W.heap[b]? = some (.cells #[.int .i64 zi, v] 156)
theorem ElS.keep {W X : World} {b : Nat} {zi : Int} {v : Value} (h : ElS W b zi v) (hb : Below W.heap.size W X) : ElS X b zi v := hpKeep h hb
theorem infoSpn : (Tryz.prog.info? 192).map (fun i => (i.zero, i.size, i.bytes)) = some (some (.agg #[.int .i64 0, .int .i64 0]), 2, 16) := by kernel_rfl
theorem wpList_spn {w : World} {ops : Array Oper} {rest : List Oper} {o : Oper} {a : Act} {Q : Exit → Act → World → Prop} (hgd : o.guard = none) (s x : Operand)
    (ho : o.op = .call { callee := .builtin .append, args := #[s, x], argTypes := #[86, 86] }) (base : Nat) (v : Value) (hs : a.eval s = v) (hown : w.ownsRow base 192 2 v 0 []) (y : Value) (hx : a.eval x = y) (l : List (Int × Int)) (hy : w.ownsRow 0 192 2 y l.length (rcs l)) (hl : l.length ≤ 1024) (hbase : base ≤ w.heap.size)
    (h : ∀ a' c' w', w'.ownsRow base 192 2 (.slice a' l.length c') l.length (rcs l) → w.grownBy w' v.ownBlock → wpList Tryz.prog ops Q rest (a.put o.dst (.slice a' l.length c')) w') : wpList Tryz.prog ops Q (o :: rest) a w := by
  obtain ⟨iS, hiS, hzS0, hzS1, hzS2⟩ := info_parts infoSpn
  rcases id hy.2 with ⟨rfl, h0⟩ | ⟨g, cap, cur, rfl, hg, _, hnc, hcm, _⟩
  · have hl0 : l = [] := List.eq_nil_of_length_eq_zero h0
    subst hl0
    obtain ⟨a', c', rfl⟩ := own_slice hown
    exact wpList_append_own_none hgd s x _ ho base _ iS 2 Tryz.underlying86 hiS _ 0 [] hs hown hx (h a' c' w hown (World.grownBy.refl _ _))
  · refine wpList_appN hgd s x _ ho base _ iS _ 2 16 Tryz.underlying86 hiS hzS0 hzS1 hzS2 rfl (by decide) v 0 [] hs hown ⟨g, 0, none⟩ l.length cap (rcs l) hx (rcs_len l) ?_ (rcs_one l) (by unfold maxLen; omega) (by omega) hbase ?_
    · intro j u hj
      have e1 : (⟨g, 0, none⟩ : Addr).add j = ⟨g, j, none⟩ := by unfold Addr.add; split <;> simp_all
      have hjl := (List.getElem?_eq_some_iff.1 hj).1
      rw [rcs_len] at hjl
      rw [e1, hy.cellAt _ hjl]
      exact hj
    · intro v' w' hown' hgr' _
      obtain ⟨a', c', rfl⟩ := own_slice hown'
      have h2 : w'.ownsRow base 192 2 (.slice a' (0 + l.length) c') l.length (rcs l) := by simpa using hown'
      rw [Nat.zero_add] at h2 ⊢
      exact h a' c' w' h2 hgr'
set_option maxRecDepth 100000 in
set_option maxHeartbeats 6400000 in
theorem clone_dev (d : Dv) (hd : d.small) (ov sv : Value) (mv : Nat → Value) (w : World) (hr : DvRd w d ov sv mv) :
    Calls Tryz.prog 53 #[.agg (DvC d ov sv mv)] w (ClPost w d) := by
  obtain ⟨va, vc, rfl, -⟩ := id hr.1
  obtain ⟨sa, sc, rfl, -⟩ := id hr.2.1
  obtain ⟨n, hN⟩ : ∃ n, d.objs.length = n := ⟨_, rfl⟩
  obtain ⟨sn, hSN⟩ : ∃ n, d.sd.length = n := ⟨_, rfl⟩
  rw [hN, hSN] at hr ⊢
  obtain ⟨W0, hW0⟩ : ∃ W, (w.alloc (.cells #[.int .i64 0, .int .i64 0, .int .i64 d.st, .int .i64 d.idn, .int .i64 d.lv, .slice va n vc, .int .i64 d.srv, .slice sa sn sc, .int .i64 (d.ts 0).st, .int .i64 (d.ts 0).most, mv 0, .int .i64 (d.ts 1).st, .int .i64 (d.ts 1).most, mv 1, .int .i64 (d.ts 2).st, .int .i64 (d.ts 2).most, mv 2, .int .i64 (d.ts 3).st, .int .i64 (d.ts 3).most, mv 3, .string ByteArray.empty] 91)).alloc (.cells #[.int .i64 0, .int .i64 0, .int .i64 0, .int .i64 0, .int .i64 0, .slice none 0 0, .int .i64 0, .slice none 0 0, .int .i64 0, .int .i64 0, .slice none 0 0, .int .i64 0, .int .i64 0, .slice none 0 0, .int .i64 0, .int .i64 0, .slice none 0 0, .int .i64 0, .int .i64 0, .slice none 0 0, .string ⟨#[]⟩] 91) = W := ⟨_, rfl⟩
  have hb0 : Below w.heap.size w W0 := by rw [← hW0]; exact bta (bal' w _) (Nat.le_refl _) _
  have hz0 : W0.heap.size = w.heap.size + 2 := by rw [← hW0]; simp
  have pA : DvI W0 w.heap.size d (.slice va n vc) (.slice sa sn sc) mv := by rw [← hW0]; exact hpKeep (hpNew w _) (bal' _ _)
  have pB : W0.heap[w.heap.size + 1]? = some (.cells #[.int .i64 0, .int .i64 0, .int .i64 0, .int .i64 0, .int .i64 0, .slice none 0 0, .int .i64 0, .slice none 0 0, .int .i64 0, .int .i64 0, .slice none 0 0, .int .i64 0, .int .i64 0, .slice none 0 0, .int .i64 0, .int .i64 0, .slice none 0 0, .int .i64 0, .int .i64 0, .slice none 0 0, .string ⟨#[]⟩] 91) := by
    rw [← hW0]
    have := hpNew (w.alloc (.cells #[.int .i64 0, .int .i64 0, .int .i64 d.st, .int .i64 d.idn, .int .i64 d.lv, .slice va n vc, .int .i64 d.srv, .slice sa sn sc, .int .i64 (d.ts 0).st, .int .i64 (d.ts 0).most, mv 0, .int .i64 (d.ts 1).st, .int .i64 (d.ts 1).most, mv 1, .int .i64 (d.ts 2).st, .int .i64 (d.ts 2).most, mv 2, .int .i64 (d.ts 3).st, .int .i64 (d.ts 3).most, mv 3, .string ByteArray.empty] 91)) (.cells #[.int .i64 0, .int .i64 0, .int .i64 0, .int .i64 0, .int .i64 0, .slice none 0 0, .int .i64 0, .slice none 0 0, .int .i64 0, .int .i64 0, .slice none 0 0, .int .i64 0, .int .i64 0, .slice none 0 0, .int .i64 0, .int .i64 0, .slice none 0 0, .int .i64 0, .int .i64 0, .slice none 0 0, .string ⟨#[]⟩] 91)
    simpa using this
  have c5 : W0.cell? ⟨w.heap.size, 5, none⟩ = some (.slice va n vc) := hpCell pA 5
  have HO := hid (hr.1.keep hb0)
  have HS := hid hr.2.1
  have HM : Hid (∀ k, k < 4 → Spn 0 w (mv k) (d.ts k).map) := hr.2.2
  have HX := hid hd
  have HN := hid hN
  have HSN := hid hSN
  have hn : n ≤ 1280 := by have := hd.ob; omega
  have hsn : sn ≤ 300 := by have := hd.sd; omega
  have HW0 := hid hW0
  have HB0 := hid hb0
  have HZ0 := hid hz0
  have PA := hid pA
  have PB := hid pB
  clear hW0 hb0 hz0 pA pB hr hd hN hSN
  show Calls _ _ #[.agg #[.int .i64 0, .int .i64 0, .int .i64 d.st, .int .i64 d.idn, .int .i64 d.lv, .slice va n vc, .int .i64 d.srv, .slice sa sn sc, .int .i64 (d.ts 0).st, .int .i64 (d.ts 0).most, mv 0, .int .i64 (d.ts 1).st, .int .i64 (d.ts 1).most, mv 1, .int .i64 (d.ts 2).st, .int .i64 (d.ts 2).most, mv 2, .int .i64 (d.ts 3).st, .int .i64 (d.ts 3).most, mv 3, .string ByteArray.empty]] w _
  obtain ⟨i5, hi, hz0, hz1, hz2⟩ := info_parts infoB
  obtain ⟨iO, hiO, hzO0, hzO1, hzO2⟩ := info_parts infoOb
  go_enter Tryz.func53, Tryz.ntmps53
  go_upto_region 1 with (fail)
  rw [HW0.out]
  go_wp2
  clear c5
  go_loopw [3, 10] (fun ov iv wr => ∃ (k : Nat) (oa : Option Addr) (oc : Nat) (cs : List Value), k ≤ n ∧ iv = .int .i64 k ∧ ov = .slice oa k oc ∧ Hid (wr.ownsRow W0.heap.size 156 2 (.slice oa k oc) k cs) ∧ Hid (CsL 2 (ObQF (DevF W0.heap.size (.slice oa k oc)) wr) cs (d.objs.take k)) ∧ Below W0.heap.size W0 wr) (fun _ iv _ => n - (intOf iv).toNat)
  case atStart => exact ⟨0, none, 0, [], Nat.zero_le _, rfl, rfl, World.ownsRow_nil _ _ _ _, rfl, Below.refl _ _⟩
  case round =>
    obtain ⟨k, oa, oc, cs', hk, rfl, rfl, hown, hcs, hbw⟩ := hrel
    by_cases hlt : k < n
    · obtain ⟨z, hgx⟩ := get_some (l := d.objs) rfl (by rw [HN.out]; exact hlt)
      obtain ⟨b, o, cc, hv, _, _, hcell⟩ := (HO.out.keep hbw).at (by rintro e; rw [e] at hgx; simp at hgx)
      simp only [Value.slice.injEq, HN.out, true_and] at hv
      obtain ⟨rfl, rfl⟩ := hv
      obtain ⟨z1, vv, z2, hvv⟩ := hcell k z hgx
      obtain ⟨xa, xc, rfl, _⟩ := id hvv
      have hzl : z.val.length ≤ 300 := HX.out.vs z (List.mem_of_getElem? hgx)
      have HGX := hid hgx
      have HVV := hid hvv
      clear hcell hvv hgx
      obtain ⟨q, hq⟩ : ∃ q, z.val.length = q := ⟨_, rfl⟩
      have HQ := hid hq
      rw [hq] at z2 HVV hzl
      obtain ⟨zi, hzi⟩ : ∃ q, z.id = q := ⟨_, rfl⟩
      have HZI := hid hzi
      rw [hzi] at z1
      obtain ⟨WX, hWX⟩ : ∃ W, wr.alloc (.cells #[.int .i64 zi, .slice xa q xc] 156) = W := ⟨_, rfl⟩
      have hbx : Below wr.heap.size wr WX := by rw [← hWX]; exact bal' _ _
      have px : WX.heap[wr.heap.size]? = some (.cells #[.int .i64 zi, .slice xa q xc] 156) := by rw [← hWX]; exact hpNew _ _
      have x0 : ∀ X, ElS X wr.heap.size zi (.slice xa q xc) → X.cell? ⟨wr.heap.size, 0, none⟩ = some (.int .i64 zi) := fun X h => hpCell h 0
      have x1 : ∀ X, ElS X wr.heap.size zi (.slice xa q xc) → X.cell? ⟨wr.heap.size, 1, none⟩ = some (.slice xa q xc) := fun X h => hpCell h 1
      have k0 : ElS WX wr.heap.size zi (.slice xa q xc) := px
      have kd : ElS WX.drew wr.heap.size zi (.slice xa q xc) := k0.keep (Below.refl _ _).drew
      have kA : ∀ o, Below WX.heap.size WX (WX.alloc o).drew := fun o => (bal' WX o).drew
      have kE : ∀ o, ElS (WX.alloc o).drew wr.heap.size zi (.slice xa q xc) := fun o => k0.keep (kA o)
      have kN : (Value.slice oa k oc).ownBlock ≠ some wr.heap.size := fun e => by have := (hown.out.lt _ e).2; omega
      have HVX : Hid (∀ X, Below WX.heap.size WX X → Bs X (.slice xa q xc) z.val) := fun X hX => HVV.out.keep (bt hbx hX (Nat.le_refl _))
      have HOWN : Hid ((WX.alloc (.cells #[] 5)).drew.ownsRow WX.heap.size 5 1 (.slice (some ⟨WX.heap.size, 0, none⟩) 0 0) ([] : List UInt8).length (u8s [])) := World.ownsRow_made WX #[] 0 (Nat.le_refl _) (by decide) rfl
      have hki : (0 : Int) ≤ (k : Int) := Int.natCast_nonneg _
      have hkl : (k : Int) < (n : Int) := by omega
      have HBX := hid hbx
      have hszr := hbw.size
      have HO' := hid hown.out
      have hqs : ([] : List UInt8).length + z.val.length ≤ 140737488355328 := by rw [hq]; simp; omega
      clear hq hzi px hbx hown
      go_upto_region 5 with (fail)
      go_region_held3 (fun X => ElS X wr.heap.size zi (.slice xa q xc)) ((with_reducible (first | exact kd | exact k0 | assumption | exact kE _ | exact kF _)))
        ((first
          | (refine step_appB rfl (.tmp 17) (.tmp 19) 50 rfl WX.heap.size 5 i5 Tryz.underlying50 hi hz0 hz1 hz2 (.slice (some ⟨WX.heap.size, 0, none⟩) 0 0) [] rfl HOWN.out (.slice xa q xc) z.val rfl (HVX.out _ (kA _)) hqs (by simp) ?_; intro v5 w5 hown5 hgr5 _; have hb5x : Below WX.heap.size WX w5 := (kA _).grown hgr5 (by simp) (fun k hk => by cases hk; exact Nat.le_refl _); have kE5 := k0.keep hb5x; have kF := (fun o => kE5.keep (bal' w5 o)); replace hown5 : w5.ownsRow WX.heap.size 5 1 v5 q (u8s z.val) := (by rw [← HQ.out]; simpa using hown5); obtain ⟨a5, c5, rfl⟩ := own_slice hown5; have hb5 : Below wr.heap.size wr w5 := bt HBX.out hb5x (Nat.le_refl _); have HO5 := hid ((own_keeps HO'.out (Keeps.of_below (F := fun _ => False) hb5) (fun _ _ f => f)).alloc (.cells #[.int .i64 zi, .slice a5 q c5] 156)))
          | (refine step_appN rfl (.tmp 14) (.tmp 22) 51 rfl W0.heap.size 156 iO _ 2 32 Tryz.underlying51 hiO hzO0 hzO1 hzO2 rfl (by decide) (.slice oa k oc) k cs' rfl HO5.out ⟨w5.heap.size, 0, none⟩ 1 1 [.int .i64 zi, .slice a5 q c5] rfl rfl (newsNew w5 [.int .i64 zi, .slice a5 q c5] _) (by intro u hu; simp at hu; rcases hu with rfl | rfl <;> rfl) (by unfold maxLen; omega) (by omega) (by have := hb5.size; simp; omega) ?_; intro v6 w6 hown6 hgr6 hnew6; obtain ⟨a6, c6, rfl⟩ := own_slice hown6; have kE6 : ElS w6 wr.heap.size zi (.slice xa q xc) := hpKeeps (kF _) (Keeps.of_grown (F := fun j => (Value.slice oa k oc).ownBlock = some j) hgr6 (fun _ h => h)) kN; have hS := devStep (B := W0.heap.size) (y0 := zi) hszr HO'.out hcs.out hb5 HQ.out (own_lower hown5 HBX.out.size) hgr6 hnew6)))
      all_goals
        have HC7 : Hid (CsL 2 (ObQF (DevF W0.heap.size (.slice a6 (k + 1) c6)) w6) (cs' ++ [.int .i64 zi, .slice a5 q c5]) (d.objs.take (k + 1))) := by
          rw [take_succ_snoc HGX.out, show z = ⟨zi, z.val⟩ by rw [← HZI.out]]
          exact hS.1
        have HO7 := hid hown6
        have hb7 : Below W0.heap.size W0 w6 := hbw.trans ⟨hS.2.1.os, hS.2.1.tape, hS.2.1.output, hS.2.1.size, fun i hi => hS.2.2 i hi⟩
        clear hS hown6 hgr6 hnew6
        go_wp2
        go_roundw
        case rel => exact ⟨k + 1, a6, c6, _, by omega, by go_num, rfl, HO7.out, HC7.out, hb7⟩
        case measure => simp [intOf]; omega
    · obtain rfl : k = n := by omega
      have hz := HZ0.out
      have hsw := hbw.size
      have hb := bt HB0.out hbw (Nat.le_refl _)
      have pA5 : DvI wr w.heap.size d (.slice va k vc) (.slice sa sn sc) mv := hpKeep PA.out hbw
      have pC := pA5.setObjs (.slice oa k oc)
      have c5 : wr.cell? ⟨w.heap.size, 5, none⟩ = some (.slice va k vc) := hpCell pA5 5
      have f5 : wr.frozen? ⟨w.heap.size, 5, none⟩ = false := hpFree pA5 5
      have hkc : Keeps (· = w.heap.size) wr (wr.setCell ⟨w.heap.size, 5, none⟩ (.slice oa k oc)) := ks1 (Keeps.refl _ _) _ _
      have hagc : Agree (w.heap.size + 2) wr (wr.setCell ⟨w.heap.size, 5, none⟩ (.slice oa k oc)) := Agree.of_keeps hkc (fun j e => by omega)
      have hbc : Below w.heap.size w (wr.setCell ⟨w.heap.size, 5, none⟩ (.slice oa k oc)) := hb.trans (hkc.below (by omega) (fun j hj e => by omega))
      have HRO : Hid (∀ W', Agree (w.heap.size + 2) wr W' → Obs W' (.slice oa k oc) d.objs) := fun W' hW => by
        have h1 := hcs.out
        rw [List.take_of_length_le (by rw [HN.out]; exact Nat.le_refl _)] at h1
        exact Obs.of_csl (own_agree (B := w.heap.size + 2) hown.out (by omega) hW) (CsL.mono (fun r x h => ObQF.agree (B := w.heap.size + 2) (by omega) hW r x h) _ _ h1) HN.out
      have hsz5 : (wr.setCell ⟨w.heap.size, 5, none⟩ (.slice oa k oc)).heap.size = wr.heap.size := by simp
      have HPBC : Hid ((wr.setCell ⟨w.heap.size, 5, none⟩ (.slice oa k oc)).heap[w.heap.size + 1]? = some (.cells #[.int .i64 0, .int .i64 0, .int .i64 0, .int .i64 0, .int .i64 0, .slice none 0 0, .int .i64 0, .slice none 0 0, .int .i64 0, .int .i64 0, .slice none 0 0, .int .i64 0, .int .i64 0, .slice none 0 0, .int .i64 0, .int .i64 0, .slice none 0 0, .int .i64 0, .int .i64 0, .slice none 0 0, .string ⟨#[]⟩] 91)) := (hpOther (by omega)).trans (hpKeep PB.out hbw)
      go_upto_region 8 with (fail)
      generalize wr.setCell ⟨w.heap.size, 5, none⟩ (.slice oa k oc) = Wc at *
      have c7 : ∀ o, (Wc.alloc o).cell? ⟨w.heap.size, 7, none⟩ = some (.slice sa sn sc) := fun o => hpCell (hpKeep pC (bal' Wc o)) 7
      have hsd : Bs (Wc.alloc (.cells #[] 5)) (.slice sa sn sc) d.sd := HS.out.keep (bta hbc (Nat.le_refl _) _)
      have hown7 : (Wc.alloc (.cells #[] 5)).ownsRow Wc.heap.size 5 1 (.slice (some ⟨Wc.heap.size, 0, none⟩) 0 0) ([] : List UInt8).length (u8s []) := World.ownsRow_made Wc #[] 0 (Nat.le_refl _) (by decide) rfl
      have hqs : ([] : List UInt8).length + d.sd.length ≤ 140737488355328 := by rw [HSN.out]; simp; omega
      have HPC := hid pC
      have HBC := hid hbc
      have HAGC := hid hagc
      have hszc : w.heap.size + 2 ≤ Wc.heap.size := by omega
      clear pA5 pC c5 f5 hkc hbc hagc hb hz hsw hown hcs hsz5 hbw
      go_wp2_with (at_builtin; refine wpList_appB rfl (.tmp 27) (.tmp 29) 50 rfl Wc.heap.size 5 i5 Tryz.underlying50 hi hz0 hz1 hz2 (.slice (some ⟨Wc.heap.size, 0, none⟩) 0 0) [] rfl hown7 (.slice sa sn sc) d.sd rfl hsd hqs (by simp) ?c3)
      case c3 =>
        intro v7 w7 hown8 hgr8 _
        have hk7 : Keeps (fun j => j = Wc.heap.size) Wc w7 := (Keeps.of_below (bal' Wc (.cells #[] 5))).trans (Keeps.of_grown (F := fun j => j = Wc.heap.size) hgr8 (fun j hj => by cases hj; rfl)) (fun _ _ e => e)
        have hb7 : Below Wc.heap.size Wc w7 := hk7.below (Nat.le_refl _) (fun j hj e => by omega)
        obtain ⟨a7, k7, rfl⟩ := own_slice hown8
        have p7 : DvI w7 w.heap.size d (.slice oa k oc) (.slice sa sn sc) mv := hpKeep HPC.out hb7
        have c77 : w7.cell? ⟨w.heap.size, 7, none⟩ = some (.slice sa sn sc) := hpCell p7 7
        have f77 : w7.frozen? ⟨w.heap.size, 7, none⟩ = false := hpFree p7 7
        replace hown8 : w7.ownsRow Wc.heap.size 5 1 (.slice a7 d.sd.length k7) d.sd.length (u8s d.sd) := by simpa using hown8
        have pD := p7.setData (.slice a7 d.sd.length k7)
        have hkD : Keeps (· = w.heap.size) w7 (w7.setCell ⟨w.heap.size, 7, none⟩ (.slice a7 d.sd.length k7)) := ks1 (Keeps.refl _ _) _ _
        have hbD : Below w.heap.size w (w7.setCell ⟨w.heap.size, 7, none⟩ (.slice a7 d.sd.length k7)) := (bt HBC.out hb7 (by omega)).trans (hkD.below (by have := hb7.size; omega) (fun j hj e => by omega))
        have HRD : Hid (∀ W', Agree (w.heap.size + 2) (w7.setCell ⟨w.heap.size, 7, none⟩ (.slice a7 d.sd.length k7)) W' → Obs W' (.slice oa k oc) d.objs ∧ Bs W' (.slice a7 d.sd.length k7) d.sd) := fun W' hW => by
          have hag := (Agree.of_keeps (B := w.heap.size + 2) hkD (fun j e => by omega)).trans hW
          refine ⟨HRO.out W' ((HAGC.out.trans ?_).trans hag), ?_⟩
          · exact Agree.of_below hb7
          · exact Bs.own (own_agree (B := w.heap.size + 2) hown8 hszc hag)
        have pBD : (w7.setCell ⟨w.heap.size, 7, none⟩ (.slice a7 d.sd.length k7)).heap[w.heap.size + 1]? = some (.cells #[.int .i64 0, .int .i64 0, .int .i64 0, .int .i64 0, .int .i64 0, .slice none 0 0, .int .i64 0, .slice none 0 0, .int .i64 0, .int .i64 0, .slice none 0 0, .int .i64 0, .int .i64 0, .slice none 0 0, .int .i64 0, .int .i64 0, .slice none 0 0, .int .i64 0, .int .i64 0, .slice none 0 0, .string ⟨#[]⟩] 91) := (hpOther (by omega)).trans (hpKeep HPBC.out hb7)
        go_wp2
        generalize w7.setCell ⟨w.heap.size, 7, none⟩ (.slice a7 d.sd.length k7) = Wd at *
        have HPD := hid pD
        have HBD := hid hbD
        have HPB := hid pBD
        clear c77 f77 hown8 p7 hk7 hb7 hgr8 hkD hbD pD pBD hown7 hqs hsd c7 HRO HAGC HBC HPC HPBC
        obtain ⟨iS, hiS, hzS0, hzS1, hzS2⟩ := info_parts infoSpn
        go_loopw [32] (fun iv wr => ∃ (k2 : Nat) (mv1 : Nat → Value), k2 ≤ 4 ∧ iv = .int .i64 k2 ∧ Hid (DvI wr w.heap.size d (.slice oa k oc) (.slice a7 d.sd.length k7) mv1) ∧ Hid (wr.heap[w.heap.size + 1]? = some (.cells #[.int .i64 0, .int .i64 0, .int .i64 0, .int .i64 0, .int .i64 0, .slice none 0 0, .int .i64 0, .slice none 0 0, .int .i64 0, .int .i64 0, .slice none 0 0, .int .i64 0, .int .i64 0, .slice none 0 0, .int .i64 0, .int .i64 0, .slice none 0 0, .int .i64 0, .int .i64 0, .slice none 0 0, .string ⟨#[]⟩] 91)) ∧ Hid (∀ W', Agree (w.heap.size + 2) wr W' → Obs W' (.slice oa k oc) d.objs ∧ Bs W' (.slice a7 d.sd.length k7) d.sd ∧ ∀ j, j < k2 → Spn 0 W' (mv1 j) (d.ts j).map) ∧ Hid (∀ j, k2 ≤ j → mv1 j = mv j) ∧ Below w.heap.size w wr) (fun iv _ => 4 - (intOf iv).toNat)
        case atStart => exact ⟨0, mv, by omega, rfl, HPD.out, HPB.out, fun W' hW => ⟨(HRD.out W' hW).1, (HRD.out W' hW).2, fun j hj => by omega⟩, fun j _ => rfl, HBD.out⟩
        case round =>
          obtain ⟨k2, mv1, hk2, rfl, hpd, hpz, hrd, hmv, hbw⟩ := hrel
          by_cases hlt : k2 < 4
          · have hkl : (k2 : Int) < 4 := by omega
            have hki : (0 : Int) ≤ (k2 : Int) := Int.natCast_nonneg _
            obtain ⟨ma, mc, hmm⟩ := (HM.out k2 hlt).slice
            have hm1 : mv1 k2 = mv k2 := hmv.out k2 (Nat.le_refl _)
            obtain ⟨ml, hml⟩ : ∃ l, (d.ts k2).map = l := ⟨_, rfl⟩
            have HML := hid hml
            have hsz := hbw.size
            have hsp : (wr.alloc (.cells #[] 192)).ownsRow 0 192 2 (mv k2) ml.length (rcs ml) := by rw [← hml]; exact (HM.out k2 hlt).keep (bta hbw (Nat.le_refl _) _)
            have hmll : ml.length ≤ 1024 := by rw [← hml]; exact HX.out.mp k2 hlt
            rw [hml] at hmm
            rw [hmm] at hsp hm1
            have hown9 : (wr.alloc (.cells #[] 192)).ownsRow wr.heap.size 192 2 (.slice (some ⟨wr.heap.size, 0, none⟩) 0 0) 0 [] := World.ownsRow_made wr #[] 0 (Nat.le_refl _) (by decide) rfl
            have cm : ∀ o, (wr.alloc o).cell? ⟨w.heap.size, 8 + k2 * 3 + 2, none⟩ = some (.slice ma ml.length mc) := fun o => cell_keep (bal' wr o) (by rw [hpd.out.mapc hlt, hm1])
            clear hm1 hmm hml
            generalize hnl : ml.length = nl at *
            have HNL := hid hnl
            go_wp2_with (at_builtin; refine wpList_spn rfl (.tmp 36) (.tmp 41) rfl wr.heap.size (.slice (some ⟨wr.heap.size, 0, none⟩) 0 0) rfl hown9 (.slice ma nl mc) rfl ml (by rw [HNL.out]; exact hsp) (by rw [HNL.out]; exact hmll) (by simp) ?c5)
            case c5 =>
              intro a9 c9 w9 hown10 hgr10
              have hk9 : Keeps (fun j => j = wr.heap.size) wr w9 := (Keeps.of_below (bal' wr (.cells #[] 192))).trans (Keeps.of_grown (F := fun j => j = wr.heap.size) hgr10 (fun j hj => by cases hj; rfl)) (fun _ _ e => e)
              have hb9 : Below wr.heap.size wr w9 := hk9.below (Nat.le_refl _) (fun j hj e => by omega)
              have p9 : DvI w9 w.heap.size d (.slice oa k oc) (.slice a7 d.sd.length k7) mv1 := hpKeep hpd.out hb9
              have c9' : w9.cell? ⟨w.heap.size, 8 + k2 * 3 + 2, none⟩ = some (mv1 k2) := p9.mapc hlt
              have f9 : w9.frozen? ⟨w.heap.size, 8 + k2 * 3 + 2, none⟩ = false := hpFree p9 _
              have pS := p9.setMap hlt (.slice a9 nl c9)
              rw [← HNL.out] at pS
              have hwl : w.heap.size + 1 < wr.heap.size := hpLt hpz.out
              have hkS : Keeps (· = w.heap.size) w9 (w9.setCell ⟨w.heap.size, 8 + k2 * 3 + 2, none⟩ (.slice a9 nl c9)) := ks1 (Keeps.refl _ _) _ _
              have HNX : Hid (∀ W', Agree (w.heap.size + 2) (w9.setCell ⟨w.heap.size, 8 + k2 * 3 + 2, none⟩ (.slice a9 nl c9)) W' → Obs W' (.slice oa k oc) d.objs ∧ Bs W' (.slice a7 d.sd.length k7) d.sd ∧ ∀ j, j < k2 + 1 → Spn 0 W' ((fun i => if i = k2 then (.slice a9 nl c9) else mv1 i) j) (d.ts j).map) := fun W' hW => by
                have hag9 := (Agree.of_keeps (B := w.heap.size + 2) hkS (fun j e => by omega)).trans hW
                obtain ⟨h1, h2, h3⟩ := hrd.out W' ((Agree.of_below hb9).trans hag9)
                refine ⟨h1, h2, fun j hj => ?_⟩
                by_cases hjk : j = k2
                · subst hjk
                  show Spn 0 W' (if j = j then (.slice a9 nl c9) else mv1 j) (d.ts j).map
                  rw [if_pos rfl]
                  show W'.ownsRow 0 192 2 (.slice a9 nl c9) (d.ts j).map.length (rcs (d.ts j).map)
                  rw [HML.out, HNL.out]
                  exact own_lower (own_agree (base := wr.heap.size) (B := w.heap.size + 2) hown10 (by omega) hag9) (Nat.zero_le _)
                · show Spn 0 W' (if j = k2 then (.slice a9 nl c9) else mv1 j) (d.ts j).map
                  rw [if_neg hjk]
                  exact h3 j (by omega)
              have HMV2 : Hid (∀ j, k2 + 1 ≤ j → (fun i => if i = k2 then (.slice a9 nl c9) else mv1 i) j = mv j) := fun j hj => by
                show (if j = k2 then _ else mv1 j) = mv j
                rw [if_neg (by omega)]
                exact hmv.out j (by omega)
              have HPS := hid pS
              have HZS : Hid ((w9.setCell ⟨w.heap.size, 8 + k2 * 3 + 2, none⟩ (.slice a9 nl c9)).heap[w.heap.size + 1]? = some (.cells #[.int .i64 0, .int .i64 0, .int .i64 0, .int .i64 0, .int .i64 0, .slice none 0 0, .int .i64 0, .slice none 0 0, .int .i64 0, .int .i64 0, .slice none 0 0, .int .i64 0, .int .i64 0, .slice none 0 0, .int .i64 0, .int .i64 0, .slice none 0 0, .int .i64 0, .int .i64 0, .slice none 0 0, .string ⟨#[]⟩] 91)) := (hpOther (by omega)).trans (hpKeep hpz.out hb9)
              have hbS : Below w.heap.size w (w9.setCell ⟨w.heap.size, 8 + k2 * 3 + 2, none⟩ (.slice a9 nl c9)) := (bt hbw hb9 (Nat.le_refl _)).trans (hkS.below (by have := hb9.size; omega) (fun j hj e => by omega))
              rw [HNL.out] at HPS
              go_wp2
              go_roundw
              case rel => exact ⟨k2 + 1, _, by omega, by go_num, HPS.out, HZS.out, HNX.out, HMV2.out, hbS⟩
              case measure => simp [intOf]; omega
          · obtain rfl : k2 = 4 := by omega
            obtain ⟨-, -, hsp⟩ := hrd.out wr (Agree.refl _ _)
            obtain ⟨m0a, m0c, hm0⟩ := (hsp 0 (by decide)).slice
            obtain ⟨m1a, m1c, hm1⟩ := (hsp 1 (by decide)).slice
            obtain ⟨m2a, m2c, hm2⟩ := (hsp 2 (by decide)).slice
            obtain ⟨m3a, m3c, hm3⟩ := (hsp 3 (by decide)).slice
            have h1 : (DvC d (.slice oa k oc) (.slice a7 d.sd.length k7) mv1).toList.all (·.oneCell') = true := by
              unfold DvC
              rw [hm0, hm1, hm2, hm3]
              rfl
            have HPD2 := hid hpd.out
            obtain ⟨CC, hCC⟩ : ∃ C, DvC d (.slice oa k oc) (.slice a7 d.sd.length k7) mv1 = C := ⟨_, rfl⟩
            have hcs : CC.size = 21 := by rw [← hCC]; rfl
            have hPD : wr.heap[w.heap.size]? = some (.cells CC 91) := by rw [← hCC]; exact hpd.out
            rw [hCC] at h1
            have hi21 : (Tryz.prog.info? 91).map (·.size) = some CC.size := by rw [hcs]; kernel_rfl
            have HCC := hid hCC
            have HPZ := hid hpz.out
            clear hsp hm0 hm1 hm2 hm3 hCC
            go_wp2_with (first
              | (refine wpList_load_row rfl 91 (.tmp 1) rfl w.heap.size rfl 91 CC (0, 0) _ hPD Tryz.underlying91 rfl hi21 ?_)
              | (refine wpList_storeW rfl 91 (.tmp 2) (.tmp 47) rfl (w.heap.size + 1) 0 _ 91 CC rfl rfl HPZ.out (by simp [hcs]) hi21 h1 ?_; intro w8 g8 hk8 hz8))
            have g9 : w8.heap[w.heap.size + 1]? = some (.cells CC 91) := by
              rw [g8, List.drop_eq_nil_of_le (by simp [hcs])]
              simp
            refine bodyPost_ret (results_cell_row rfl _ _ (w.heap.size + 1) 91 CC (0, 0) _ rfl g9 Tryz.underlying91 rfl hi21) rfl ?_
            refine ⟨.slice oa k oc, .slice a7 d.sd.length k7, mv1, ?_, fun W' hW => ?_, ?_⟩
            · rw [HCC.out]
            · have hag : Agree (w.heap.size + 2) wr W' := (Agree.of_keeps hk8 (fun j e => by omega)).trans ⟨hW.size, fun j hj hl => hW.block j (by omega) hl⟩
              exact hrd.out W' hag
            · exact hbw.trans (hk8.below (by have := hbw.size; omega) (fun j hj e => by omega))
end Go.Proofs.YtipnamoocemeeaaGreat
