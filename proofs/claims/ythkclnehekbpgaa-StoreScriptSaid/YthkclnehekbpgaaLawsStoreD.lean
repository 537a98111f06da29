/-
  The walk of the law StoreScript.
-/
import Derived.Test.YthkclnehekbpgaaLawsStoreC
import Derived.Test.YthkclnehekbpgaaRead
import Derived.Deep.CutRange
import Derived.Deep.CutBlock
import Derived.Deep.RegionHeldLaw
namespace Go.Proofs.Ythkclnehekbpgaa
open Go.RowKit

theorem cellsOp : Try.prog.cellsOf 43 = 3 := by kernel_rfl
theorem cellsInt : Try.prog.cellsOf 3 = 1 := by kernel_rfl
theorem cellsByte : Try.prog.cellsOf 5 = 1 := by kernel_rfl
theorem cellsBytes : Try.prog.cellsOf 26 = 1 := by kernel_rfl

theorem list3 {α : Type} {l : List α} (h : l.length = 3) : ∃ a b c, l = [a, b, c] := by
  match l, h with
  | [a, b, c], _ => exact ⟨a, b, c, rfl⟩

/-- What a script's calls read as. -/
theorem ops_rd {w : World} {a : Option Addr} {len cap : Nat} (h : Rd Try.prog w 40 [.slice a len cap]) :
    len ≤ cap ∧ cap ≤ maxLen ∧ ∀ i, i < len → ∃ b o k n v x, a = some ⟨b, o, none⟩ ∧ w.cell? ⟨b, o + i * 3, none⟩ = some (.int .i64 k) ∧ w.cell? ⟨b, o + i * 3 + 1, none⟩ = some (.int .i64 n) ∧
      w.cell? ⟨b, o + i * 3 + 2, none⟩ = some v ∧ (Lit.int .i64 k).wf = true ∧ (Lit.int .i64 n).wf = true ∧ Bs w v x := by
  rcases h.slice Try.underlying40 with h | ⟨ad, len', cap', h, hl, hm, hel⟩
  · cases h; exact ⟨Nat.le_refl _, Nat.zero_le _, fun i hi => by omega⟩
  · cases h
    refine ⟨hl, hm, fun i hi => ?_⟩
    obtain ⟨ds, hd, hcell, hr⟩ := hel i hi
    rw [cellsOp] at hd hcell
    obtain ⟨d0, d1, d2, rfl⟩ := list3 hd
    obtain ⟨_, hf⟩ := hr.struct Try.underlying43
    have f0 := hf _ (List.mem_cons_self ..)
    have f1 := hf _ (List.mem_cons_of_mem _ (List.mem_cons_self ..))
    have f2 := hf _ (List.mem_cons_of_mem _ (List.mem_cons_of_mem _ (List.mem_cons_self ..)))
    simp only [cellsInt, cellsBytes, List.drop_zero, List.drop_succ_cons, List.take_succ_cons, List.take_zero] at f0 f1 f2
    obtain ⟨k, hk, wk⟩ := Rd.int Try.underlying3 f0
    obtain ⟨n, hn, wn⟩ := Rd.int Try.underlying3 f1
    obtain ⟨x, hx⟩ := Bs.of_rd Try.underlying26 Try.underlying5 cellsByte f2
    simp only [List.cons.injEq, and_true] at hk hn
    subst hk; subst hn
    have c0 := hcell 0 (by omega)
    have c1 := hcell 1 (by omega)
    have c2 := hcell 2 (by omega)
    have hs2 : ad = ⟨ad.block, ad.off, none⟩ := by
      obtain ⟨es, he, hcell0, _⟩ := hel 0 (by omega)
      rw [cellsOp] at he hcell0
      obtain ⟨e0, e1, e2, rfl⟩ := list3 he
      have h0 := hcell0 0 (by omega)
      exact spot_of (v := e0) (by simpa [Addr.add] using h0)
    refine ⟨ad.block, ad.off, k, n, d2, x, by rw [← hs2], ?_, ?_, ?_, wk, wn, hx⟩
    · rw [hs2, add_lit, add_lit] at c0; simpa using c0
    · rw [hs2, add_lit, add_lit] at c1; simpa [Nat.add_assoc] using c1
    · rw [hs2, add_lit, add_lit] at c2; simpa [Nat.add_assoc] using c2

/-- What holds at the head of a round: the store and the law's own bytes hold the same, apart from one another. -/
structure Same (w0 wr : World) (k : Nat) (bs : List UInt8) (v vb : Value) : Prop where
  le : bs.length ≤ k
  st : St wr w0.heap.size w0.heap.size k bs v
  own : wr.ownsRow w0.heap.size 5 1 vb bs.length (u8s bs)
  ne : vb.ownBlock ≠ some w0.heap.size
  ap : ∀ j, vb.ownBlock = some j → v.ownBlock ≠ some j
  bel : Below w0.heap.size w0 wr

theorem Same.later {w0 wr w' : World} {k : Nat} {bs : List UInt8} {v vb : Value} (h : Same w0 wr k bs v vb) (hb : Below wr.heap.size wr w') : Same w0 w' k bs v vb :=
  ⟨h.le, h.st.below hb, own_keeps (F := fun _ => False) h.own (Keeps.of_below hb) (fun _ _ f => f), h.ne, h.ap, bt h.bel hb (Nat.le_refl _)⟩

theorem StF_low {w0 wr : World} {k : Nat} {bs : List UInt8} {v vb : Value} (h : Same w0 wr k bs v vb) : ∀ j, j < w0.heap.size → ¬ StF w0.heap.size v j := by
  intro j hj
  rintro (h1 | h1)
  · omega
  · have := (h.st.own.lt j h1).1
    omega

/-- Behind a call that has changed the store: the law's own bytes are as they were. -/
theorem Same.moved {w0 wr w' : World} {k : Nat} {bs : List UInt8} {v vb : Value} (h : Same w0 wr k bs v vb) (hk : Keeps (StF w0.heap.size v) wr w') :
    w'.ownsRow w0.heap.size 5 1 vb bs.length (u8s bs) ∧ Below w0.heap.size w0 w' := by
  refine ⟨own_keeps h.own hk ?_, h.bel.trans (hk.below h.bel.size (StF_low h))⟩
  intro j hj
  rintro (h1 | h1)
  · exact h.ne (h1 ▸ hj)
  · exact h.ap j hj h1

/-- The law's own bytes written anew, behind all that there was. -/
theorem Same.anew {w0 w1 w2 : World} {k : Nat} {bs' : List UInt8} {v' vb' : Value} (hs : St w1 w0.heap.size w0.heap.size k bs' v') (hle : bs'.length ≤ k) (hb1 : Below w0.heap.size w0 w1) (hb : Below w1.heap.size w1 w2)
    (hown : w2.ownsRow w1.heap.size 5 1 vb' bs'.length (u8s bs')) : Same w0 w2 k bs' v' vb' := by
  refine ⟨hle, hs.below hb, own_lower hown hb1.size, ?_, ?_, bt hb1 hb (Nat.le_refl _)⟩
  · intro e
    have h1 := (hown.lt _ e).1
    have h2 := hs.lt
    omega
  · intro j hj e
    have h1 := (hown.lt _ hj).1
    have h2 := (hs.own.lt _ e).2
    omega

/-- A shorter reach into the same own cells. -/
theorem own_cutA {w : World} {base : Nat} {e : TypeId} {a : Option Addr} {n cap m : Nat} {xs : List Value} (h : w.ownsRow base e 1 (.slice a n cap) n xs) (hm : m ≤ n) :
    w.ownsRow base e 1 (.slice a m cap) m (xs.take m) ∧ n ≤ cap := by
  obtain ⟨hl, ⟨h1, h2⟩ | ⟨g, cap', cur, hv, hb, hh, hnc, hcm, hcs, ht⟩⟩ := id h
  · simp only [Value.slice.injEq] at h1
    obtain ⟨rfl, hn, rfl⟩ := h1
    have hm0 : m = 0 := by omega
    subst hm0
    exact ⟨by simpa using World.ownsRow_nil _ _ _ _, by omega⟩
  · simp only [Value.slice.injEq, true_and] at hv
    obtain ⟨rfl, rfl⟩ := hv
    exact ⟨own_cut h hm, hnc⟩

theorem Same.cut {w0 wr w' : World} {k m : Nat} {bs : List UInt8} {v v' : Value} {a : Option Addr} {c : Nat} (h : Same w0 wr k bs v (.slice a bs.length c)) (hm : m ≤ bs.length)
    (hs : St w' w0.heap.size w0.heap.size k (bs.take m) v') (hk : Keeps (StF w0.heap.size v) wr w') (hb : v'.ownBlock = v.ownBlock) : Same w0 w' k (bs.take m) v' (.slice a m c) := by
  obtain ⟨hown, hbel⟩ := h.moved hk
  have hl : (bs.take m).length = m := by simp; omega
  have hob : (Value.slice a m c).ownBlock = (Value.slice a bs.length c).ownBlock := by cases a <;> rfl
  refine ⟨by have := h.le; omega, hs, ?_, by rw [hob]; exact h.ne, fun j hj => by rw [hb]; exact h.ap j (hob ▸ hj), hbel⟩
  have h1 := (own_cutA hown hm).1
  rw [hl, show u8s (bs.take m) = (u8s bs).take m by simp [u8s, List.map_take]]
  exact h1

/-- What the test at a round's end needs of a world. -/
theorem heldS {w0 W W' : World} {k n : Nat} {bs : List UInt8} {v : Value} {a : Option Addr} {c : Nat}
    (h : (convert 26 9 (.slice a n c)).run Try.prog W = .ok (.string ⟨bs.toArray⟩) W ∧ Same w0 W k bs v (.slice a n c)) (hb : Below W.heap.size W W') :
    (convert 26 9 (.slice a n c)).run Try.prog W' = .ok (.string ⟨bs.toArray⟩) W' ∧ Same w0 W' k bs v (.slice a n c) :=
  ⟨run_str Try.underlying26 Try.underlying5 (Bs.own (h.2.later hb).own) _ Try.underlying9, h.2.later hb⟩

set_option maxRecDepth 100000 in
set_option maxHeartbeats 32000000 in
theorem Walk.storeScript (c : Int) (w : World) (_wc : (Lit.int .i64 c).wf = true) (a : Option Addr) (len cap : Nat) (hr : Rd Try.prog w 40 [.slice a len cap]) :
    Calls Try.prog 6 #[.int .i64 c, .slice a len cap] w fun r w' => r = .returned (.bool true) ∧ Below w.heap.size w w' := by
  obtain ⟨i5, hi, hz0, hz1, hz2⟩ := info_parts infoB
  obtain ⟨hlc, hcm, hops⟩ := ops_rd hr
  unfold maxLen at hcm
  have HOP := hid hops
  obtain ⟨k, hk⟩ := Int.eq_ofNat_of_zero_le (Int.emod_nonneg c (show (60 : Int) ≠ 0 by omega))
  have hk2 := Int.emod_lt_of_pos c (show 0 < (60 : Int) by omega)
  have HM : Hid (∀ W, Calls Try.prog 29 #[.int .i64 c, .int .i64 60] W fun r w' => r = .returned (.int .i64 k) ∧ W = w') := fun W => by
    rw [← hk]; exact mod_any c 60 (by omega) (by omega) _wc W
  have hkN : k < 60 := by omega
  have ss : Hid (∀ (W : World) (v : Value) (l : List UInt8), Bs W v l → (convert 26 9 v).run Try.prog W = .ok (.string ⟨l.toArray⟩) W) := fun W v l h => run_str Try.underlying26 Try.underlying5 h _ Try.underlying9
  clear hk hk2 hops hr
  go_enter Try.func6, Try.ntmps6
  go_wp2_with (first | (go_at_call 29; (with_reducible refine (HM.out _).mono ?_); rintro r w1 ⟨rfl, rfl⟩) | (go_at_call 25; refine (new_ok k (by omega) _ w.heap.size (Nat.le_refl _)).mono ?_; rintro r w1 ⟨rfl, hs, hbel, hlt⟩) | fail)
  go_loopw [6, 7, 8, 9, 10] (fun vb i _ _ _ wr => ∃ (q : Nat) (bs : List UInt8) (v : Value), q ≤ len ∧ q ≤ 30 ∧ i = .int .i64 q ∧ Same w wr k bs v vb) (fun _ i _ _ _ _ => 30 - (intOf i).toNat)
  case atStart => exact ⟨0, [], _, by omega, by omega, rfl, Nat.zero_le _, hs, World.ownsRow_nil _ _ _ _, by simp [Value.ownBlock], by simp [Value.ownBlock], hbel⟩
  case round =>
    clear hs hbel hlt
    obtain ⟨q, bs, v, hq1, hq2, rfl, hsame⟩ := hrel
    by_cases hin : q < len ∧ q < 30
    · obtain ⟨hq, hq3⟩ := hin
      obtain ⟨b, o, kk, n, xv, x, rfl, hc0, hc1, hc2, wk, wn, hx⟩ := HOP.out q hq
      have hbel := hsame.bel
      have HC1 := hid hc1
      replace hc0 : wr.cell? ⟨b, o + q * 3, none⟩ = some (.int .i64 kk) := by rw [hbel.cell (cell_lt hc0)]; exact hc0
      replace hc1 : wr.cell? ⟨b, o + q * 3 + 1, none⟩ = some (.int .i64 n) := by rw [hbel.cell (cell_lt hc1)]; exact hc1
      replace hc2 : wr.cell? ⟨b, o + q * 3 + 2, none⟩ = some xv := by rw [hbel.cell (cell_lt hc2)]; exact hc2
      obtain ⟨ax, cx, rfl, hxc, _⟩ := id hx
      have HB := hid (bytes_sh ax x.length cx 20 20 rfl (by decide) hxc wr)
      obtain ⟨y, hyl, hy⟩ : ∃ y : List UInt8, y.length = min 20 x.length ∧ Bs w (.slice ax y.length cx) y := by
        have h := (bs_take hx (min 20 x.length) (by omega)).1
        exact ⟨x.take (min 20 x.length), by simp, by rw [show (x.take (min 20 x.length)).length = min 20 x.length by simp]; exact h⟩
      rw [← hyl] at HB
      have hy20 : y.length ≤ 20 := by omega
      have hyc : y.length ≤ cx := by omega
      clear hx hyl hxc
      have HMk : Hid (∀ W, Calls Try.prog 29 #[.int .i64 kk, .int .i64 3] W fun r w' => r = .returned (.int .i64 (kk % 3)) ∧ W = w') := fun W => mod_any kk 3 (by omega) (by omega) wk W
      obtain ⟨a6, c6, rfl⟩ := own_slice hsame.own
      have hbk := hsame.le
      have HS := hid hsame
      have HY := hid hy
      clear hsame hbel hy
      obtain ⟨kind, hkind, hkd1, hkd2⟩ : ∃ kind : Int, kk % 3 = kind ∧ 0 ≤ kind ∧ kind < 3 := ⟨_, rfl, Int.emod_nonneg _ (by decide), Int.emod_lt_of_pos _ (by decide)⟩
      rw [hkind] at HMk
      clear hkind
      go_upto_block 2 with (first | (go_at_call 24; (with_reducible refine HB.out.mono ?_); rintro r w1 ⟨rfl, rfl⟩) | (go_at_call 29; (with_reducible refine (HMk.out _).mono ?_); rintro r w1 ⟨rfl, rfl⟩) | fail)
      go_cut [6, 9, 10] from 17 to 142 (fun s6 s9 s10 wc => ∃ (bz : List UInt8) (v4 : Value) (a7 : Option Addr) (c7 : Nat) (e : Int), s6 = .slice a7 bz.length c7 ∧ s9 = .int .i64 e ∧ s10 = .int .i64 e ∧ Same w wc k bz v4 (.slice a7 bz.length c7))
      case first =>
        rcases (show kind = 0 ∨ kind = 1 ∨ kind = 2 by omega) with rfl | rfl | rfl
        · by_cases hroom : (y.length : Int) ≤ (k : Int) - bs.length
          · have hroom2 : ¬ ((k : Int) - bs.length < y.length) := by omega
            go_wp2_with fail
            refine (append_ok _ _ _ _ _ _ HS.out.st hbk (by omega) _ y (HY.out.below HS.out.bel (Nat.le_refl _)) hroom).mono ?_
            rintro r w4 ⟨rfl, v4, hs4, hk4, hn4⟩
            obtain ⟨hown4, hbel4⟩ := HS.out.moved hk4
            have hb6 := Bs.own hown4
            go_wp2_with (at_builtin; refine wpList_app rfl _ _ 26 rfl w4.heap.size 5 i5 Try.underlying26 hi hz0 hz1 hz2 (.slice none 0 0) [] rfl (World.ownsRow_nil _ _ _ _) _ bs rfl hb6 ?_ ?_ ?_)
            any_goals first | omega | exact Nat.le_refl _ | (simp; omega)
            intro v5 w5 hown5 hgr5
            have hbel5 := (Below.refl w4.heap.size w4).grown hgr5 (Nat.le_refl _) (by intro k hk; simp [Value.ownBlock] at hk)
            replace hown5 : w5.ownsRow w4.heap.size 5 1 v5 bs.length (u8s bs) := by simpa using hown5
            have hy5 := HY.out.below (bt hbel4 hbel5 (Nat.le_refl _)) (Nat.le_refl _)
            go_wp2_with (at_builtin; refine wpList_app rfl _ _ 26 rfl w4.heap.size 5 i5 Try.underlying26 hi hz0 hz1 hz2 v5 bs rfl hown5 _ y rfl hy5 ?_ ?_ ?_)
            any_goals first | omega | exact hbel5.size | (simp; omega)
            intro v6 w6 hown6 hgr6
            have hbel6 := hbel5.grown hgr6 hbel5.size (fun b hb => (hown5.lt b hb).1)
            have hS : Same w w6 k (bs ++ y) v4 v6 := Same.anew hs4 (by simp; omega) hbel4 hbel6 (by rw [List.length_append]; exact hown6)
            obtain ⟨a7, c7, rfl⟩ := own_slice hown6
            have hlz := hid ((List.length_append : (bs ++ y).length = bs.length + y.length))
            replace hS := hid hS
            clear hown6 hown5 hgr6 hgr5 hy5 hb6 hown4 hk4 hs4 hn4
            go_wp2
            go_meet
            case rel => exact ⟨bs ++ y, v4, a7, c7, 0, by rw [hlz.out], rfl, rfl, by rw [hlz.out]; exact hS.out⟩
          · have hroom2 : (k : Int) - bs.length < y.length := by omega
            clear hroom
            go_wp2_with fail
            refine (append_full _ _ _ _ _ _ HS.out.st hbk (by omega) _ y (HY.out.below HS.out.bel (Nat.le_refl _)) hroom2).mono ?_
            rintro r w4 ⟨rfl, hbel4⟩
            go_wp2
            go_meet
            case rel => exact ⟨bs, v, a6, c6, 11, rfl, rfl, rfl, HS.out.later hbel4⟩
        · by_cases hroom : (y.length : Int) ≤ (k : Int) - bs.length
          · have hroom2 : ¬ ((k : Int) - bs.length < y.length) := by omega
            obtain ⟨kt, hkt, hkt2⟩ : ∃ kt : Nat, max 0 (min n (y.length : Int)) = kt ∧ kt ≤ y.length := ⟨(max 0 (min n (y.length : Int))).toNat, by omega, by omega⟩
            have HT := hid (show tornBy y n = y.take kt by unfold tornBy; rw [hkt]; rfl)
            have hyk := (bs_take HY.out kt hkt2).1
            have hktc : kt ≤ cx := by omega
            have hk3 : (y.take kt).length = kt := by simp; omega
            have HK3 := hid hk3
            have HKT := hid hkt
            clear hkt
            go_wp2_with fail
            refine (tear_ok _ _ _ _ _ _ HS.out.st hbk (by omega) _ y (HY.out.below HS.out.bel (Nat.le_refl _)) n hroom).mono ?_
            rintro r w4 ⟨rfl, v4, hs4, hk4, hn4⟩
            rw [HT.out] at hs4
            obtain ⟨hown4, hbel4⟩ := HS.out.moved hk4
            have hb6 := Bs.own hown4
            have hyk4 := hyk.below hbel4 (Nat.le_refl _)
            replace hs4 := hid hs4
            replace hown4 := hid hown4
            clear hyk hk4 hn4 HT
            have hc1w : w4.cell? ⟨b, o + q * 3 + 1, none⟩ = some (.int .i64 n) := by rw [hbel4.cell (cell_lt HC1.out)]; exact HC1.out
            go_wp2_with fail
            rcases (show (n < y.length ∧ 0 < n ∧ n.toNat = kt) ∨ (n < y.length ∧ ¬ 0 < n ∧ kt = 0) ∨ (¬ n < y.length ∧ (0 : Int) < y.length ∧ kt = y.length) ∨ (¬ n < y.length ∧ ¬ (0 : Int) < y.length ∧ kt = 0) by have := HKT.out; omega) with ⟨d1, d2, d3⟩ | ⟨d1, d2, d3⟩ | ⟨d1, d2, d3⟩ | ⟨d1, d2, d3⟩
            all_goals
              first
                | (have hyk5 : Bs w4 (.slice ax n.toNat cx) (y.take kt) := by rw [d3]; exact hyk4)
                | (have hyk5 : Bs w4 (.slice ax 0 cx) (y.take kt) := by rw [d3] at hyk4 ⊢; exact hyk4)
                | (have hyk5 : Bs w4 (.slice ax y.length cx) (y.take kt) := by rw [d3] at hyk4 ⊢; exact hyk4)
              try (have z0 : n.toNat ≤ cx := by omega)
              replace d3 := hid d3
              have z1 : (0 : Int) ≤ (cx : Int) := by omega
              have z2 : (y.length : Int) ≤ (cx : Int) := by omega
              have z3 : (0 : Int) ≤ (y.length : Int) := by omega
              try (have z4 : n ≤ (cx : Int) := by omega)
              try (have z5 : (0 : Int) ≤ n := by omega)
              go_region_held_law (fun W => W.cell? ⟨b, o + q * 3 + 1, none⟩ = some (.int .i64 n)) ((first | exact hc1w | assumption | exact cell_keep hbel5 hc1w | exact cell_keep hbel6 hc1w))
                ((first
                | (refine step_appB rfl (.const (.slice none 0 0)) (.tmp 102) 26 rfl w4.heap.size 5 i5 Try.underlying26 hi hz0 hz1 hz2 (.slice none 0 0) [] rfl (World.ownsRow_nil _ _ _ _) _ bs rfl hb6 (by simp; omega) (Nat.le_refl _) ?_; intro v5 w5 hown5 hgr5 _; have hbel5 : Below w4.heap.size w4 w5 := (Below.refl w4.heap.size w4).drew.grown hgr5 (Nat.le_refl _) (fun k hk => by cases hk); replace hown5 : w5.ownsRow w4.heap.size 5 1 v5 bs.length (u8s bs) := by simpa using hown5)
                | (refine step_appB rfl (.tmp 103) (.tmp 114) 26 rfl w4.heap.size 5 i5 Try.underlying26 hi hz0 hz1 hz2 v5 bs rfl hown5 _ (y.take kt) rfl (hyk5.below hbel5 (Nat.le_refl _)) (by rw [HK3.out]; omega) hbel5.size ?_; intro v6 w6 hown6 hgr6 _; have hbel6 := hbel5.grown hgr6 hbel5.size (fun b hb => (hown5.lt b hb).1))))
              all_goals
                try simp only [List.getElem_toArray, List.getElem_cons_succ, List.getElem_cons_zero, List.setIfInBounds_toArray, List.set_cons_zero, List.set_cons_succ]
                rw [hk3] at hown6
                have hlz := hid (show (bs ++ y.take kt).length = bs.length + kt by rw [List.length_append, hk3])
                have hS : Same w w6 k (bs ++ y.take kt) v4 v6 := Same.anew hs4.out (by rw [hlz.out]; omega) hbel4 hbel6 (by rw [hlz.out]; exact hown6)
                obtain ⟨a7, c7, rfl⟩ := own_slice hown6
                replace hS := hid hS
                clear hown6 hown5 hgr6 hgr5 hb6 hs4 hown4 hyk4 hyk5
                go_wp2
                go_meet
                case rel => exact ⟨bs ++ y.take kt, v4, a7, c7, 0, by rw [hlz.out], rfl, rfl, by rw [hlz.out]; exact hS.out⟩
          · have hroom2 : (k : Int) - bs.length < y.length := by omega
            clear hroom
            go_wp2_with fail
            refine (tear_full _ _ _ _ _ _ HS.out.st hbk (by omega) _ y (HY.out.below HS.out.bel (Nat.le_refl _)) n hroom2).mono ?_
            rintro r w4 ⟨rfl, hbel4⟩
            go_wp2
            go_meet
            case rel => exact ⟨bs, v, a6, c6, 11, rfl, rfl, rfl, HS.out.later hbel4⟩
        · by_cases hn0 : n < 0
          · go_wp2_with fail
            refine (truncate_no _ _ _ _ _ _ HS.out.st n (.inl hn0)).mono ?_
            rintro r w4 ⟨rfl, rfl⟩
            go_wp2
            go_meet
            case rel => exact ⟨bs, v, a6, c6, 3, rfl, rfl, rfl, HS.out⟩
          · by_cases hn1 : (bs.length : Int) < n
            · go_wp2_with fail
              refine (truncate_no _ _ _ _ _ _ HS.out.st n (.inr hn1)).mono ?_
              rintro r w4 ⟨rfl, rfl⟩
              go_wp2
              go_meet
              case rel => exact ⟨bs, v, a6, c6, 3, rfl, rfl, rfl, HS.out⟩
            · obtain ⟨m, rfl⟩ := Int.eq_ofNat_of_zero_le (show 0 ≤ n by omega)
              have hm : m ≤ bs.length := by omega
              have hmc : m ≤ c6 := by have := (own_cutA HS.out.own hm).2; omega
              go_wp2_with fail
              refine (truncate_ok _ _ _ _ _ _ HS.out.st m hm).mono ?_
              rintro r w4 ⟨rfl, v4, hs4, hk4, hn4⟩
              have hbel4 := (HS.out.moved hk4).2
              have hc1w : w4.cell? ⟨b, o + q * 3 + 1, none⟩ = some (.int .i64 m) := by rw [hbel4.cell (cell_lt HC1.out)]; exact HC1.out
              have hS := hid (HS.out.cut hm hs4 hk4 hn4)
              have hlz := hid (show (bs.take m).length = m by simp; omega)
              clear hs4 hk4 hn4
              go_wp2
              go_meet
              case rel => exact ⟨bs.take m, v4, a6, c6, 0, by rw [hlz.out], rfl, rfl, by rw [hlz.out]; exact hS.out⟩
      case rest =>
        obtain ⟨bz, v4, a7, c7, e, rfl, rfl, rfl, hS⟩ := hcut
        have hle := hS.le
        have h0 : (convert 26 9 (.slice a7 bz.length c7)).run Try.prog wc.drew = .ok (.string ⟨bz.toArray⟩) wc.drew ∧ Same w wc.drew k bz v4 (.slice a7 bz.length c7) := ⟨ss.out _ _ _ (Bs.own (hS.later (bdr' _)).own), hS.later (bdr' _)⟩
        have H0 := hid h0
        clear hS h0
        have hwr : IntKind.i64.wrap ((k : Int) - (bz.length : Int)) = (k : Int) - (bz.length : Int) := IntWalk.i64_in _ (by omega)
        go_wp2_with fail
        go_region_held (fun W => (convert 26 9 (.slice a7 bz.length c7)).run Try.prog W = .ok (.string ⟨bz.toArray⟩) W ∧ Same w W k bz v4 (.slice a7 bz.length c7)) ((first | exact H0.out | assumption | exact heldS (by assumption) (by assumption)))
          (first
            | (go_at_call 27; (refine (sbytes_any _ w.heap.size w.heap.size k bz v4 (Same.st (And.right (by assumption))) (by omega)).mono ?_); rintro r w7 ⟨v7, rfl, hown7, hbel7⟩; have e7 := ss.out _ _ _ (Bs.own hown7))
            | (go_at_call 32; (refine (len_any _ w.heap.size w.heap.size k bz v4 (Same.st (And.right (by assumption)))).mono ?_); rintro r w8 ⟨rfl, rfl⟩)
            | (go_at_call 33; (refine (room_any _ w.heap.size w.heap.size k bz v4 (Same.st (And.right (by assumption))) hle (by omega)).mono ?_); rintro r w9 ⟨rfl, hbel9⟩))
        all_goals
          go_wp2
          go_roundw
          case rel => exact ⟨q + 1, bz, v4, by omega, by omega, by go_num, And.right (by assumption)⟩
          case measure => simp [intOf]; omega
    · have hbel := hsame.bel
      clear hsame
      rcases (show (q < len ∧ q = 30) ∨ ¬ q < len by omega) with ⟨hq, rfl⟩ | hq
      · go_wp2_with (first | (go_at_call 28; (with_reducible refine (stawake_any _).mono ?_); rintro r w6 ⟨rfl, hbel6⟩) | fail)
        go_ret
        exact ⟨rfl, bt hbel hbel6 (Nat.le_refl _)⟩
      · go_wp2_with (first | (go_at_call 28; (with_reducible refine (stawake_any _).mono ?_); rintro r w6 ⟨rfl, hbel6⟩) | fail)
        go_ret
        exact ⟨rfl, bt hbel hbel6 (Nat.le_refl _)⟩

end Go.Proofs.Ythkclnehekbpgaa
