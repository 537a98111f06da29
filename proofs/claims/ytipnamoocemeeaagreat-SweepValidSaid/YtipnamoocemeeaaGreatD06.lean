/-
  Texts 6 of the claim.
-/
import Derived.Test.YtipnamoocemeeaaGreatD04
import Derived.Test.YtipnamoocemeeaaGreatD05
import Derived.Deep.RegionLaw
import Derived.Deep.RegionHeld3
namespace Go.Proofs.YtipnamoocemeeaaGreat
open Go.RowKit
def rcs : List (Int × Int) → List Value
  | [] => []
  | p :: l => .int .i64 p.1 :: .int .i64 p.2 :: rcs l
def sumR : List (Int × Int) → Int
  | [] => 0
  | p :: l => p.1 + sumR l
theorem rcs_append : ∀ (l k : List (Int × Int)), rcs (l ++ k) = rcs l ++ rcs k
  | [], _ => rfl
  | p :: l, k => by simp [rcs, rcs_append l k]
theorem rcs_len : ∀ l : List (Int × Int), (rcs l).length = l.length * 2
  | [] => rfl
  | p :: l => by simp [rcs, rcs_len l]; omega
theorem rcs_one : ∀ (l : List (Int × Int)), ∀ u ∈ rcs l, u.oneCell' = true
  | [], u, h => by cases h
  | p :: l, u, h => by
    simp only [rcs, List.mem_cons] at h
    rcases h with rfl | rfl | h
    · rfl
    · rfl
    · exact rcs_one l u h
theorem rcs_get : ∀ (l : List (Int × Int)) (i : Nat) (p : Int × Int), l[i]? = some p → (rcs l)[i * 2]? = some (.int .i64 p.1) ∧ (rcs l)[i * 2 + 1]? = some (.int .i64 p.2)
  | [], i, p, h => by simp at h
  | q :: l, 0, p, h => by
    simp at h
    subst h
    exact ⟨rfl, rfl⟩
  | q :: l, i + 1, p, h => by
    have h1 : l[i]? = some p := by simpa using h
    obtain ⟨h2, h3⟩ := rcs_get l i p h1
    refine ⟨?_, ?_⟩
    · rw [show (i + 1) * 2 = i * 2 + 1 + 1 by omega]; simpa [rcs] using h2
    · rw [show (i + 1) * 2 + 1 = i * 2 + 1 + 1 + 1 by omega]; simpa [rcs] using h3
theorem sumR_append : ∀ (l k : List (Int × Int)), sumR (l ++ k) = sumR l + sumR k
  | [], k => by simp [sumR]
  | p :: l, k => by simp only [List.cons_append, sumR, sumR_append l k]; omega
structure RnOk (l : List (Int × Int)) : Prop where
  pos : ∀ p ∈ l, 1 ≤ p.1
  sum : sumR l ≤ 1024
theorem sumR_len : ∀ (l : List (Int × Int)), (∀ p ∈ l, 1 ≤ p.1) → (l.length : Int) ≤ sumR l
  | [], _ => Int.le_refl _
  | p :: l, h => by
    have h1 := h p (List.mem_cons_self ..)
    have h2 := sumR_len l (fun q hq => h q (List.mem_cons_of_mem _ hq))
    simp only [sumR, List.length_cons]
    omega
theorem RnOk.len {l : List (Int × Int)} (h : RnOk l) : l.length ≤ 1024 := by have := sumR_len l h.pos; have := h.sum; omega
theorem RnOk.nil : RnOk [] := ⟨(fun p h => (by cases h)), (by decide)⟩
theorem RnOk.part {l : List (Int × Int)} (h : RnOk l) (k : Nat) : 0 ≤ sumR (l.take k) ∧ sumR (l.take k) ≤ sumR l := by
  have e : sumR l = sumR (l.take k) + sumR (l.drop k) := by rw [← sumR_append, List.take_append_drop]
  have h1 := sumR_len (l.take k) (fun p hp => h.pos p (List.mem_of_mem_take hp))
  have h2 := sumR_len (l.drop k) (fun p hp => h.pos p (List.mem_of_mem_drop hp))
  omega
def Rns (base : Nat) (w : World) (v : Value) (l : List (Int × Int)) : Prop := w.ownsRow base 237 2 v l.length (rcs l)
theorem Rns.nil (base : Nat) (w : World) : Rns base w (.slice none 0 0) [] := World.ownsRow_nil _ _ _ _
theorem Rns.at {base : Nat} {w : World} {v : Value} {l : List (Int × Int)} (h : Rns base w v l) {k : Nat} {p : Int × Int} (hp : l[k]? = some p) :
    ∃ g cap, v = .slice (some ⟨g, 0, none⟩) l.length cap ∧ w.cell? ⟨g, k * 2, none⟩ = some (.int .i64 p.1) ∧ w.cell? ⟨g, k * 2 + 1, none⟩ = some (.int .i64 p.2) ∧ w.frozen? ⟨g, k * 2, none⟩ = false := by
  have hk := (List.getElem?_eq_some_iff.1 hp).1
  have h' : w.ownsRow base 237 2 v l.length (rcs l) := h
  rcases h.2 with ⟨_, h0⟩ | ⟨g, cap, cur, hv, hg, _, hnc, hcm, _⟩
  · omega
  · subst hv
    obtain ⟨h2, h3⟩ := rcs_get l k p hp
    exact ⟨g, cap, rfl, by rw [h'.cellAt _ (by omega)]; exact h2, by rw [h'.cellAt _ (by omega)]; exact h3, h'.frozenAt _⟩
theorem Rns.keep {base : Nat} {w w' : World} {v : Value} {l : List (Int × Int)} (h : Rns base w v l) (hb : Below w.heap.size w w') : Rns base w' v l := own_keeps (F := fun _ => False) h (Keeps.of_below hb) (fun _ _ f => f)
theorem Rns.keeps {F : Nat → Prop} {base : Nat} {w w' : World} {v : Value} {l : List (Int × Int)} (h : Rns base w v l) (hk : Keeps F w w') (hn : ∀ k, v.ownBlock = some k → ¬ F k) : Rns base w' v l := own_keeps h hk hn
theorem Rns.slice {base : Nat} {w : World} {v : Value} {l : List (Int × Int)} (h : Rns base w v l) : ∃ a c, v = .slice a l.length c := own_slice h
theorem gs {α : Type} {l : List α} {k n : Nat} (h : l.length = n) (hk : k < n) : ∃ x, l[k]? = some x := ⟨l[k], List.getElem?_eq_getElem (by omega)⟩
set_option maxRecDepth 100000 in
set_option maxHeartbeats 1600000 in
theorem rlen_any (v : Value) (l : List (Int × Int)) (w : World) (hr : Rns 0 w v l) (hl : RnOk l) :
    Calls Tryz.prog 175 #[.agg #[v]] w fun r w' => r = .returned (.int .i64 (sumR l)) ∧ Below w.heap.size w w' := by
  obtain ⟨va, vc, rfl⟩ := hr.slice
  obtain ⟨n, hN⟩ : ∃ n, l.length = n := ⟨_, rfl⟩
  rw [hN] at hr
  have HR := hid hr
  have HN := hid hN
  have HL := hid hl
  have hn : n ≤ 1024 := by have := hl.len; omega
  rw [hN]
  clear hr hl hN
  go_enter Tryz.func175, Tryz.ntmps175
  go_wp2
  have hb0 : Below w.heap.size w (w.alloc (.cells #[.slice va n vc] 232)) := bal' w _
  generalize w.alloc (.cells #[.slice va n vc] 232) = W at *
  go_loopw [3, 9] (fun sv iv wr => ∃ k : Nat, k ≤ n ∧ iv = .int .i64 k ∧ sv = .int .i64 (sumR (l.take k)) ∧ Below w.heap.size w wr) (fun _ iv _ => n - (intOf iv).toNat)
  case atStart => exact ⟨0, Nat.zero_le _, rfl, rfl, hb0⟩
  case round =>
    obtain ⟨k, hk, rfl, rfl, hbw⟩ := hrel
    by_cases hlt : k < n
    · obtain ⟨p, hp⟩ := gs (l := l) HN.out hlt
      obtain ⟨g, cap, hv, d1, d2, _⟩ := (HR.out.keep hbw).at hp
      rw [HN.out] at hv
      simp only [Value.slice.injEq, true_and] at hv
      obtain ⟨rfl, rfl⟩ := hv
      have HS : Hid (sumR (l.take (k + 1)) = sumR (l.take k) + p.1) := by
        show _ = _
        rw [List.take_add_one, hp, sumR_append]
        show _ + (p.1 + 0) = _
        omega
      have hs1 := HL.out.part (k + 1)
      have hs0 := HL.out.part k
      have hsm := HL.out.sum
      rw [HS.out] at hs1
      generalize sumR (l.take k) = s at *
      have sw : IntKind.i64.wrap (s + p.1) = s + p.1 := IntWalk.i64_in _ (by omega)
      have hki : (0 : Int) ≤ (k : Int) := Int.natCast_nonneg _
      have hkl : (k : Int) < (n : Int) := by omega
      clear hp hs1 hs0 hsm
      go_wp2
      go_roundw
      case rel => exact ⟨k + 1, by omega, by go_num, by rw [HS.out], bta hbw (Nat.le_refl _) _⟩
      case measure => simp [intOf]; omega
    · obtain rfl : k = n := by omega
      have HT : Hid (sumR (l.take k) = sumR l) := by show _ = _; rw [List.take_of_length_le (by rw [HN.out]; exact Nat.le_refl _)]
      go_wp2
      go_ret
      exact ⟨(by rw [HT.out]; rfl), hbw⟩
theorem infoR : (Tryz.prog.info? 237).map (fun i => (i.zero, i.size, i.bytes)) = some (some (.agg #[.int .i64 0, .int .i64 0]), 2, 16) := by kernel_rfl
set_option maxHeartbeats 1600000 in
theorem cloneR_any (v : Value) (l : List (Int × Int)) (w : World) (hv : Rns 0 w v l) (hl : l.length ≤ 1000000) :
    Calls Tryz.prog 176 #[v] w fun r w' => ∃ v', r = .returned v' ∧ Rns w.heap.size w' v' l ∧ Below w.heap.size w w' := by
  obtain ⟨i5, hi, hz0, hz1, hz2⟩ := info_parts infoR
  have hq := Lib.run_eql_slice_nil (P := Tryz.prog)
  have hv' : w.ownsRow 0 237 2 v l.length (rcs l) := hv
  rcases hv.2 with ⟨rfl, h0⟩ | ⟨g, cap, cur, rfl, hg, _, hnc, hcm, _⟩
  · have : l = [] := List.eq_nil_of_length_eq_zero h0
    subst this
    clear hv hv'
    go_enter Tryz.func176, Tryz.ntmps176
    go_wp2
    go_ret
    exact ⟨_, rfl, Rns.nil _ _, Below.refl _ _⟩
  · have HV := hid hv'
    have hcell' : Hid (∀ j u, (rcs l)[j]? = some u → (w.alloc (.cells #[] 237)).cell? ((⟨g, 0, none⟩ : Addr).add j) = some u) := fun j u hj => by
      have e1 : (⟨g, 0, none⟩ : Addr).add j = ⟨g, j, none⟩ := by unfold Addr.add; split <;> simp_all
      have hjl := (List.getElem?_eq_some_iff.1 hj).1
      rw [rcs_len] at hjl
      rw [e1]
      refine cell_keep (bal' w _) ?_
      rw [HV.out.cellAt _ hjl]
      exact hj
    have HL := hid (rcs_len l)
    have H1 := hid (rcs_one l)
    obtain ⟨n, hN⟩ : ∃ n, l.length = n := ⟨_, rfl⟩
    have HN := hid hN
    rw [hN] at hl HL hnc ⊢
    unfold maxLen at hcm
    clear hv hv' HV hN
    go_enter Tryz.func176, Tryz.ntmps176
    go_wp2_with (at_builtin; refine wpList_appN rfl _ _ 230 rfl w.heap.size 237 i5 _ 2 16 Tryz.underlying230 hi hz0 hz1 hz2 rfl (by decide) _ 0 [] rfl (World.ownsRow_made _ _ _ (Nat.le_refl _) (by decide) rfl) ⟨g, 0, none⟩ n cap (rcs l) rfl HL.out hcell'.out H1.out (by unfold maxLen; omega) (by omega) (by simp) ?c3)
    case c3 =>
      intro v' w1 hown hgr _
      have hbel := (bal' w (.cells #[] 237)).grown hgr (bal' w (.cells #[] 237)).size (by intro k hk; simp [Value.ownBlock] at hk; omega)
      have hown' : Hid (Rns w.heap.size w1 v' l) := by show w1.ownsRow _ _ _ _ _ _; rw [HN.out]; simpa using hown
      clear hgr hown
      go_wp2
      go_ret
      exact ⟨_, rfl, hown'.out, hbel⟩
set_option maxHeartbeats 1600000 in
theorem rnew0_any (u : Int) (w : World) :
    Calls Tryz.prog 208 #[.int .i64 0, .int .i64 u] w fun r w' => r = .returned (.agg #[.slice none 0 0]) ∧ Below w.heap.size w w' := by
  go_enter Tryz.func208, Tryz.ntmps208
  go_wp2
  refine bodyPost_ret (v := .agg #[.slice none 0 0]) (by simp [results, Tryz.results208, go_sem]) rfl ⟨rfl, ?_⟩
  first | exact bal' w _ | exact (bal' w _).setCell (Nat.le_refl _) _
set_option maxHeartbeats 1600000 in
theorem rnew_any (n u : Int) (hn : 1 ≤ n) (hn2 : n ≤ 65536) (w : World) :
    Calls Tryz.prog 208 #[.int .i64 n, .int .i64 u] w fun r w' => ∃ v, r = .returned (.agg #[v]) ∧ Rns w.heap.size w' v [(n, u)] ∧ Below w.heap.size w w' := by
  go_enter Tryz.func208, Tryz.ntmps208
  go_wp2
  refine bodyPost_ret (v := .agg #[.slice (some ⟨w.heap.size + 1, 0, none⟩) 1 1]) (by simp [results, Tryz.results208, go_sem]) rfl ⟨_, rfl, ?_, bta (bal' w _) (Nat.le_refl _) _⟩
  refine ⟨rfl, .inr ⟨w.heap.size + 1, 1, #[.int .i64 n, .int .i64 u], rfl, by omega, ?_, Nat.le_refl _, by decide, rfl, rfl⟩⟩
  have := hpNew (w.alloc (.cells #[.slice (some ⟨w.heap.size + 1, 0, none⟩) 1 1] 232)) (.cells #[.int .i64 n, .int .i64 u] 237)
  simpa using this
end Go.Proofs.YtipnamoocemeeaaGreat
namespace Go.Proofs.YtipnamoocemeeaaGreat
open Go.RowKit
def pushR (l : List (Int × Int)) (n u : Int) : List (Int × Int) :=
  match l.getLast? with
  | some p => if p.2 = u then l.dropLast ++ [(p.1 + n, u)] else l ++ [(n, u)]
  | none => [(n, u)]
theorem bmin (P : Program) (x y m : Int) (e : (if y < x then y else x) = m) (ts : Array TypeId) (T : TypeId) (W : World) : (Builtin.min_ ts T #[.int .i64 x, .int .i64 y]).run P W = .ok (.int .i64 m) W := by
  subst e
  simp [Builtin.min_, Builtin.min2]
theorem bmax (P : Program) (x y m : Int) (e : (if x < y then y else x) = m) (ts : Array TypeId) (T : TypeId) (W : World) : (Builtin.max_ ts T #[.int .i64 x, .int .i64 y]).run P W = .ok (.int .i64 m) W := by
  subst e
  simp [Builtin.max_, Builtin.max2]
set_option maxRecDepth 100000 in
set_option maxHeartbeats 3200000 in
theorem rpart_any (v : Value) (l : List (Int × Int)) (tz : Int) (w : World) (hr : Rns 0 w v l) (hl : RnOk l) (hto : sumR l ≤ tz) :
    Calls Tryz.prog 209 #[.agg #[v], .int .i64 0, .int .i64 tz] w fun r w' => ∃ v', r = .returned v' ∧ Rns w.heap.size w' v' l ∧ Below w.heap.size w w' := by
  obtain ⟨i5, hi, hz0, hz1, hz2⟩ := info_parts infoR
  obtain ⟨va, vc, rfl⟩ := hr.slice
  obtain ⟨n, hN⟩ : ∃ n, l.length = n := ⟨_, rfl⟩
  rw [hN] at hr
  have HR := hid hr
  have HN := hid hN
  have HL := hid hl
  have hn : n ≤ 1024 := by have := hl.len; omega
  have HTO := hid hto
  rw [hN]
  clear hr hl hN hto
  go_enter Tryz.func209, Tryz.ntmps209
  go_wp2
  have hb0 : Below w.heap.size w (w.alloc (.cells #[.slice va n vc] 232)) := bal' w _
  generalize w.alloc (.cells #[.slice va n vc] 232) = W at *
  go_loopw [7, 8, 11, 15] (fun ov sv _ iv wr => ∃ (k : Nat) (oa : Option Addr) (oc : Nat), k ≤ n ∧ iv = .int .i64 k ∧ sv = .int .i64 (sumR (l.take k)) ∧ ov = .slice oa k oc ∧ Hid (wr.ownsRow w.heap.size 237 2 (.slice oa k oc) k (rcs (l.take k))) ∧ Below w.heap.size w wr) (fun _ _ _ iv _ => n - (intOf iv).toNat)
  case atStart => exact ⟨0, none, 0, Nat.zero_le _, rfl, rfl, rfl, World.ownsRow_nil _ _ _ _, hb0⟩
  case round =>
    obtain ⟨k, oa, oc, hk, rfl, rfl, rfl, hown, hbw⟩ := hrel
    by_cases hlt : k < n
    · obtain ⟨p, hp⟩ := gs (l := l) HN.out hlt
      obtain ⟨g, cap, hv, d1, d2, _⟩ := (HR.out.keep hbw).at hp
      rw [HN.out] at hv
      simp only [Value.slice.injEq, true_and] at hv
      obtain ⟨rfl, rfl⟩ := hv
      have HS : Hid (sumR (l.take (k + 1)) = sumR (l.take k) + p.1) := by
        show _ = _
        rw [List.take_add_one, hp, sumR_append]
        show _ + (p.1 + 0) = _
        omega
      have HC : Hid (rcs (l.take (k + 1)) = rcs (l.take k) ++ [.int .i64 p.1, .int .i64 p.2]) := by
        show _ = _
        rw [List.take_add_one, hp, rcs_append]
        rfl
      have hs1 := HL.out.part (k + 1)
      have hs0 := HL.out.part k
      have hsm := HL.out.sum
      have hp1 := HL.out.pos p (List.mem_of_getElem? hp)
      have hto' := HTO.out
      rw [HS.out] at hs1
      generalize sumR (l.take k) = s at *
      obtain ⟨c, hc⟩ : ∃ c, p.1 = c := ⟨_, rfl⟩
      rw [hc] at hs1 hp1 HS HC d1
      have sw : IntKind.i64.wrap (s + c) = s + c := IntWalk.i64_in _ (by omega)
      have m1 : ∀ ts T W, (Builtin.min_ ts T #[.int .i64 tz, .int .i64 (s + c)]).run Tryz.prog W = .ok (.int .i64 (s + c)) W := bmin Tryz.prog tz (s + c) (s + c) (by split <;> omega)
      have m2 : ∀ ts T W, (Builtin.max_ ts T #[.int .i64 0, .int .i64 s]).run Tryz.prog W = .ok (.int .i64 s) W := bmax Tryz.prog 0 s s (by split <;> omega)
      have sw2 : s + c - s = c := by omega
      have swc : IntKind.i64.wrap c = c := IntWalk.i64_in _ (by omega)
      have hcp : 0 < c := by omega
      have hle : s + c ≤ tz := by omega
      have hs00 : 0 ≤ s := hs0.1
      have hki : (0 : Int) ≤ (k : Int) := Int.natCast_nonneg _
      have hkl : (k : Int) < (n : Int) := by omega
      have hsz := hbw.size
      clear hp hs1 hs0 hsm hc hto' hp1
      go_wp2_with (at_builtin; refine wpList_appN rfl _ _ 230 rfl w.heap.size 237 i5 _ 2 16 Tryz.underlying230 hi hz0 hz1 hz2 rfl (by decide) (.slice oa k oc) k (rcs (l.take k)) rfl ((hown.out.alloc _).alloc _) ⟨wr.heap.size + 1, 0, none⟩ 1 1 [.int .i64 c, .int .i64 p.2] rfl rfl (by have := newsNew (wr.alloc (.cells #[.int .i64 c, .int .i64 p.2] 237)) [.int .i64 c, .int .i64 p.2] 237; simpa using this) (by intro u hu; simp at hu; rcases hu with rfl | rfl <;> rfl) (by unfold maxLen; omega) (by omega) (by simp; omega) ?c3)
      case c3 =>
        intro v6 w6 hown6 hgr6 _
        obtain ⟨a6, c6, rfl⟩ := own_slice hown6
        have HO6 : Hid (w6.ownsRow w.heap.size 237 2 (.slice a6 (k + 1) c6) (k + 1) (rcs (l.take (k + 1)))) := by show w6.ownsRow _ _ _ _ _ _; rw [HC.out]; exact hown6
        have hb6 : Below w.heap.size w w6 := (bta (bta hbw (Nat.le_refl _) _) (Nat.le_refl _) _).grown hgr6 (by simp; omega) (fun j hj => (hown.out.lt j hj).1)
        have hbx : w6.cell? ⟨wr.heap.size, 0, none⟩ = some (.int .i64 c) := by
          have h0 : ((wr.alloc (.cells #[.int .i64 c, .int .i64 p.2] 237)).alloc (.cells #[.int .i64 c, .int .i64 p.2] 237)).heap[wr.heap.size]? = some (.cells #[.int .i64 c, .int .i64 p.2] 237) := hpKeep (hpNew wr _) (bal' _ _)
          exact hpCell (hpKeeps (F := fun j => (Value.slice oa k oc).ownBlock = some j) h0 (Keeps.of_grown hgr6 (fun _ hk => hk)) (fun e => by have := (hown.out.lt _ e).2; omega)) 0
        clear hown6 hgr6
        go_wp2
        go_roundw
        case rel => exact ⟨k + 1, a6, c6, by omega, by go_num, by rw [HS.out], rfl, HO6.out, hb6⟩
        case measure => simp [intOf]; omega
    · obtain rfl : k = n := by omega
      have HT : Hid (l.take k = l) := List.take_of_length_le (by rw [HN.out]; exact Nat.le_refl _)
      have HE : Hid (Rns w.heap.size wr (.slice oa k oc) l) := by
        have := hown.out
        rw [HT.out] at this
        show wr.ownsRow _ _ _ _ _ _
        rw [HN.out]
        exact this
      clear hown
      go_wp2
      go_ret
      exact ⟨_, rfl, HE.out, hbw⟩
theorem snocC {α : Type} (l : List α) : l = [] ∨ ∃ i p, l = i ++ [p] := by
  rcases List.eq_nil_or_concat l with h | ⟨i, p, h⟩
  · exact .inl h
  · exact .inr ⟨i, p, by rw [h, List.concat_eq_append]⟩
theorem pushR_nil (n u : Int) : pushR [] n u = [(n, u)] := rfl
theorem pushR_same (l : List (Int × Int)) (p : Int × Int) (n u : Int) (h : p.2 = u) : pushR (l ++ [p]) n u = l ++ [(p.1 + n, u)] := by simp [pushR, h]
theorem pushR_other (l : List (Int × Int)) (p : Int × Int) (n u : Int) (h : p.2 ≠ u) : pushR (l ++ [p]) n u = l ++ [p] ++ [(n, u)] := by simp [pushR, h]
theorem pushR_sum (l : List (Int × Int)) (n u : Int) : sumR (pushR l n u) = sumR l + n := by
  rcases snocC l with rfl | ⟨i, p, rfl⟩
  · simp [pushR, sumR]
  · by_cases h : p.2 = u
    · rw [pushR_same _ _ _ _ h, sumR_append, sumR_append]
      simp only [sumR]
      omega
    · rw [pushR_other _ _ _ _ h, sumR_append]
      simp only [sumR]
      omega
theorem pushR_ok {l : List (Int × Int)} (h : RnOk l) {n u : Int} (hn : 1 ≤ n) (hs : sumR l + n ≤ 1024) : RnOk (pushR l n u) := by
  refine ⟨?_, by rw [pushR_sum]; exact hs⟩
  intro q hq
  rcases snocC l with rfl | ⟨i, p, rfl⟩
  · rw [pushR_nil] at hq
    simp at hq
    subst hq
    exact hn
  · by_cases hu : p.2 = u
    · rw [pushR_same _ _ _ _ hu] at hq
      rcases List.mem_append.1 hq with hq | hq
      · exact h.pos q (List.mem_append_left _ hq)
      · simp at hq
        subst hq
        have := h.pos p (List.mem_append_right _ (List.mem_cons_self ..))
        show 1 ≤ p.1 + n
        omega
    · rw [pushR_other _ _ _ _ hu] at hq
      rcases List.mem_append.1 hq with hq | hq
      · exact h.pos q hq
      · simp at hq
        subst hq
        exact hn
def PushPost (base : Nat) (w : World) (v : Value) (l' : List (Int × Int)) (r : Ending) (w' : World) : Prop :=
  ∃ v', r = .returned v' ∧ Rns base w' v' l' ∧ Keeps (fun j => v.ownBlock = some j) w w' ∧ ∀ j, v'.ownBlock = some j → v.ownBlock = some j ∨ w.heap.size ≤ j
theorem PushPost.app {base : Nat} {w W6 : World} {v v6 : Value} {l l' : List (Int × Int)} {n u : Int} (h6 : W6.ownsRow base 237 2 v6 (l.length + 1) (rcs l ++ [.int .i64 n, .int .i64 u])) (he : l' = l ++ [(n, u)])
    {W1 : World} {Y : Obj} (hb1 : Below w.heap.size w W1) (hgr : (W1.alloc Y).grownBy W6 v.ownBlock) (hnew : NewOr (W1.alloc Y) v v6) : PushPost base w v l' (.returned v6) W6 := by
  subst he
  refine ⟨v6, rfl, ?_, (Keeps.of_below (bta hb1 (Nat.le_refl _) Y)).trans (Keeps.of_grown hgr (fun _ hk => hk)) (fun _ _ e => e), fun j hj => ?_⟩
  · show W6.ownsRow _ _ _ _ _ _
    rw [List.length_append, rcs_append]
    exact h6
  · rcases hnew with h1 | ⟨i, h1, h2⟩
    · exact .inl (by rw [← h1]; exact hj)
    · rw [hj] at h1
      cases h1
      simp at h2
      have := hb1.size
      exact .inr (by omega)
set_option maxRecDepth 100000 in
set_option maxHeartbeats 3200000 in
theorem rpush_any (base : Nat) (v : Value) (l : List (Int × Int)) (n u : Int) (w : World) (hr : Rns base w v l) (hb : base ≤ w.heap.size) (hl : RnOk l) (hn : 1 ≤ n) (hn2 : n ≤ 1024) :
    Calls Tryz.prog 210 #[v, .agg #[.int .i64 n, .int .i64 u]] w (PushPost base w v (pushR l n u)) := by
  obtain ⟨i5, hi, hz0, hz1, hz2⟩ := info_parts infoR
  have hlen := hl.len
  have hnb : Below w.heap.size w (w.alloc (.cells #[.int .i64 n, .int .i64 u] 237)) := bal' w _
  rcases snocC l with rfl | ⟨i, p, hlp⟩
  · obtain ⟨va, vc, rfl⟩ := hr.slice
    have HR : Hid (w.ownsRow base 237 2 (.slice va 0 vc) 0 []) := hr
    clear hr
    show Calls _ _ #[.slice va 0 vc, _] _ _
    rw [pushR_nil]
    go_enter Tryz.func210, Tryz.ntmps210
    go_upto_region 4 with (fail)
    go_quiet (fail)
    have hb1 : Below w.heap.size w ((w.alloc (.cells #[.int .i64 n, .int .i64 u] 237)).drewN nq) := below_drewN hnb _; have pb1 : ((w.alloc (.cells #[.int .i64 n, .int .i64 u] 237)).drewN nq).heap[w.heap.size]? = some (.cells #[.int .i64 n, .int .i64 u] 237) := hpKeep (hpNew w _) (below_drewN (Below.refl _ _) _); generalize (w.alloc (.cells #[.int .i64 n, .int .i64 u] 237)).drewN nq = W1 at *; have x0 : W1.cell? ⟨w.heap.size, 0, none⟩ = some (.int .i64 n) := hpCell pb1 0; have x1 : W1.cell? ⟨w.heap.size, 1, none⟩ = some (.int .i64 u) := hpCell pb1 1; have hs1 := hb1.size
    have HO1 : Hid (W1.ownsRow base 237 2 (.slice va 0 vc) 0 []) := own_keeps (F := fun _ => False) HR.out (Keeps.of_below hb1) (fun _ _ f => f)
    go_wp2_with (at_builtin; refine wpList_appN rfl _ _ 230 rfl base 237 i5 _ 2 16 Tryz.underlying230 hi hz0 hz1 hz2 rfl (by decide) (.slice va 0 vc) 0 [] rfl (HO1.out.alloc _) ⟨W1.heap.size, 0, none⟩ 1 1 [.int .i64 n, .int .i64 u] rfl rfl (newsNew W1 [.int .i64 n, .int .i64 u] _) (by intro u hu; simp at hu; rcases hu with rfl | rfl <;> rfl) (by unfold maxLen; omega) (by omega) (by simp; omega) ?c3)
    case c3 =>
      intro v6 w6 hown6 hgr6 hnew6
      have HE : Hid (PushPost base w (.slice va 0 vc) [(n, u)] (.returned v6) w6) := PushPost.app (l := []) hown6 rfl hb1 hgr6 hnew6
      clear hown6 hgr6 hnew6
      go_wp2
      go_ret
      exact HE.out
  · subst hlp
    obtain ⟨va, vc, rfl⟩ := hr.slice
    obtain ⟨g, cap, hv, d0, d1, df⟩ := hr.at (k := i.length) (p := p) (by simp)
    obtain ⟨k, hk⟩ : ∃ k, i.length = k := ⟨_, rfl⟩
    obtain ⟨m, hm⟩ : ∃ m, (i ++ [p]).length = m := ⟨_, rfl⟩
    have hmk : m = k + 1 := by rw [← hm, List.length_append, hk]; rfl
    have hsum := hl.sum
    have hp1 := hl.pos p (List.mem_append_right _ (List.mem_cons_self ..))
    have hps : p.1 ≤ 1024 := by
      have h1 := (hl.part i.length).1
      rw [List.take_left] at h1
      rw [sumR_append] at hsum
      simp only [sumR] at hsum
      omega
    rw [hm] at hv hr hlen ⊢
    rw [hk] at d0 d1 df
    simp only [Value.slice.injEq, true_and] at hv
    obtain ⟨rfl, rfl⟩ := hv
    have HR : Hid (w.ownsRow base 237 2 (.slice (some ⟨g, 0, none⟩) m vc) m (rcs (i ++ [p]))) := by have h : w.ownsRow _ _ _ _ _ _ := hr; rw [hm] at h; exact h
    have hgl := (HR.out.lt g rfl).2
    have HM := hid hm
    have HK := hid hk
    have sl : IntKind.i64.wrap ((m : Int) - 1) = (k : Int) := by rw [IntWalk.i64_in _ (by omega)]; omega
    have hk0 : (0 : Int) ≤ (k : Int) := Int.natCast_nonneg _
    have hkm : (k : Int) < (m : Int) := by omega
    have HDF := hid df
    obtain ⟨c, hc⟩ : ∃ c, p.1 = c := ⟨_, rfl⟩
    obtain ⟨x, hx⟩ : ∃ x, p.2 = x := ⟨_, rfl⟩
    have HP := hid (show p = (c, x) by rw [← hc, ← hx])
    rw [hc] at d0 hp1 hps
    rw [hx] at d1
    have HD0 := hid d0
    have e0 := cell_keep hnb d0
    have e1 := cell_keep hnb d1
    clear hr hm hk hl d0 d1 hsum hmk df
    by_cases hu : x = u
    · have du := b1 hu
      have HPU : Hid (pushR (i ++ [p]) n u = i ++ [(c + n, u)]) := by show _ = _; rw [pushR_same _ _ _ _ (by rw [hx]; exact hu), hc]
      have sw : IntKind.i64.wrap (c + n) = c + n := IntWalk.i64_in _ (by omega)
      clear hc hx
      rw [HPU.out]
      go_enter Tryz.func210, Tryz.ntmps210
      go_upto_region 4 with (fail)
      go_quiet (fail)
      have hb1 : Below w.heap.size w ((w.alloc (.cells #[.int .i64 n, .int .i64 u] 237)).drewN nq) := below_drewN hnb _; have pb1 : ((w.alloc (.cells #[.int .i64 n, .int .i64 u] 237)).drewN nq).heap[w.heap.size]? = some (.cells #[.int .i64 n, .int .i64 u] 237) := hpKeep (hpNew w _) (below_drewN (Below.refl _ _) _); generalize (w.alloc (.cells #[.int .i64 n, .int .i64 u] 237)).drewN nq = W1 at *; have x0 : W1.cell? ⟨w.heap.size, 0, none⟩ = some (.int .i64 n) := hpCell pb1 0; have x1 : W1.cell? ⟨w.heap.size, 1, none⟩ = some (.int .i64 u) := hpCell pb1 1; have hs1 := hb1.size
      have y0 : W1.cell? ⟨g, k * 2, none⟩ = some (.int .i64 c) := cell_keep hb1 HD0.out
      have yf : W1.frozen? ⟨g, k * 2, none⟩ = false := by rw [hb1.frozen (p := ⟨g, k * 2, none⟩) hgl]; exact HDF.out
      have HE : Hid (∀ W2, Below W1.heap.size W1 W2 → PushPost base w (.slice (some ⟨g, 0, none⟩) m vc) (i ++ [(c + n, u)]) (.returned (.slice (some ⟨g, 0, none⟩) m vc)) (W2.setCell ⟨g, k * 2, none⟩ (.int .i64 (c + n)))) := fun W2 h2 => by
        have hb2 := bt hb1 h2 (Nat.le_refl _)
        have ho2 : W2.ownsRow base 237 2 (.slice (some ⟨g, 0, none⟩) m vc) m (rcs (i ++ [p])) := own_keeps (F := fun _ => False) HR.out (Keeps.of_below hb2) (fun _ _ f => f)
        refine ⟨_, rfl, ?_, ((Keeps.of_below hb2).set _ _ rfl), fun j hj => .inl hj⟩
        have ho3 := (ho2.stored (k * 2) (.int .i64 (c + n))).1
        have e : (rcs (i ++ [p])).set (k * 2) (.int .i64 (c + n)) = rcs (i ++ [(c + n, u)]) := by
          rw [rcs_append, rcs_append, List.set_append_right _ _ (by rw [rcs_len, HK.out]; exact Nat.le_refl _), rcs_len, HK.out, Nat.sub_self, HP.out, hu]
          rfl
        rw [e] at ho3
        show World.ownsRow _ _ _ _ _ _ _
        rw [show (i ++ [(c + n, u)]).length = m by rw [← HM.out]; simp]
        exact ho3
      go_upto_region 5 with (fail)
      go_region
      all_goals
        go_wp2
        go_ret
        first
          | exact HE.out _ (Below.refl _ _)
          | exact HE.out _ (Below.refl _ _).drew
          | exact HE.out _ (below_drewN (Below.refl _ _) _)
    · have du := b0 hu
      have HPU : Hid (pushR (i ++ [p]) n u = i ++ [p] ++ [(n, u)]) := by show _ = _; rw [pushR_other _ _ _ _ (by rw [hx]; exact hu)]
      clear hc hx
      rw [HPU.out]
      go_enter Tryz.func210, Tryz.ntmps210
      go_upto_region 4 with (fail)
      go_quiet (fail)
      have hb1 : Below w.heap.size w ((w.alloc (.cells #[.int .i64 n, .int .i64 u] 237)).drewN nq) := below_drewN hnb _; have pb1 : ((w.alloc (.cells #[.int .i64 n, .int .i64 u] 237)).drewN nq).heap[w.heap.size]? = some (.cells #[.int .i64 n, .int .i64 u] 237) := hpKeep (hpNew w _) (below_drewN (Below.refl _ _) _); generalize (w.alloc (.cells #[.int .i64 n, .int .i64 u] 237)).drewN nq = W1 at *; have x0 : W1.cell? ⟨w.heap.size, 0, none⟩ = some (.int .i64 n) := hpCell pb1 0; have x1 : W1.cell? ⟨w.heap.size, 1, none⟩ = some (.int .i64 u) := hpCell pb1 1; have hs1 := hb1.size
      have HO1 : Hid (W1.ownsRow base 237 2 (.slice (some ⟨g, 0, none⟩) m vc) m (rcs (i ++ [p]))) := own_keeps (F := fun _ => False) HR.out (Keeps.of_below hb1) (fun _ _ f => f)
      go_wp2_with (at_builtin; refine wpList_appN rfl _ _ 230 rfl base 237 i5 _ 2 16 Tryz.underlying230 hi hz0 hz1 hz2 rfl (by decide) (.slice (some ⟨g, 0, none⟩) m vc) m (rcs (i ++ [p])) rfl (HO1.out.alloc _) ⟨W1.heap.size, 0, none⟩ 1 1 [.int .i64 n, .int .i64 u] rfl rfl (newsNew W1 [.int .i64 n, .int .i64 u] _) (by intro u hu; simp at hu; rcases hu with rfl | rfl <;> rfl) (by unfold maxLen; omega) (by omega) (by simp; omega) ?c3)
      case c3 =>
        intro v6 w6 hown6 hgr6 hnew6
        have HE : Hid (PushPost base w (.slice (some ⟨g, 0, none⟩) m vc) (i ++ [p] ++ [(n, u)]) (.returned v6) w6) := PushPost.app (l := i ++ [p]) (by rw [HM.out]; exact hown6) rfl hb1 hgr6 hnew6
        clear hown6 hgr6 hnew6
        go_wp2
        go_ret
        exact HE.out
end Go.Proofs.YtipnamoocemeeaaGreat
namespace Go.Proofs.YtipnamoocemeeaaGreat
open Go.RowKit
def pushAll (l m : List (Int × Int)) : List (Int × Int) := m.foldl (fun a p => pushR a p.1 p.2) l
theorem pushAll_ok : ∀ (m l : List (Int × Int)), RnOk l → (∀ p ∈ m, 1 ≤ p.1) → sumR l + sumR m ≤ 1024 → RnOk (pushAll l m) ∧ sumR (pushAll l m) = sumR l + sumR m
  | [], l, h, _, _ => ⟨h, by simp [pushAll, sumR]⟩
  | p :: m, l, h, hp, hs => by
    have h1 := hp p (List.mem_cons_self ..)
    have h2 := sumR_len m (fun q hq => hp q (List.mem_cons_of_mem _ hq))
    simp only [sumR] at hs
    obtain ⟨h3, h4⟩ := pushAll_ok m (pushR l p.1 p.2) (pushR_ok h h1 (by omega)) (fun q hq => hp q (List.mem_cons_of_mem _ hq)) (by rw [pushR_sum]; omega)
    refine ⟨h3, ?_⟩
    show sumR (pushAll (pushR l p.1 p.2) m) = _
    rw [h4, pushR_sum]
    simp only [sumR]
    omega
theorem pushAll_part {l m : List (Int × Int)} (h : RnOk l) (hm : RnOk m) (hs : sumR l + sumR m ≤ 1024) (k : Nat) : RnOk (pushAll l (m.take k)) :=
  (pushAll_ok (m.take k) l h (fun p hp => hm.pos p (List.mem_of_mem_take hp)) (by have := (hm.part k).2; omega)).1
theorem pushAll_snoc (l m : List (Int × Int)) (p : Int × Int) : pushAll l (m ++ [p]) = pushR (pushAll l m) p.1 p.2 := by unfold pushAll; rw [List.foldl_append]; rfl
def AppdPost (w : World) (l : List (Int × Int)) (r : Ending) (w' : World) : Prop := ∃ v, r = .returned (.agg #[v]) ∧ Rns w.heap.size w' v l ∧ Below w.heap.size w w'
set_option maxRecDepth 100000 in
set_option maxHeartbeats 6400000 in
theorem rappend_any (v vm : Value) (l m : List (Int × Int)) (w : World) (hr : Rns 0 w v l) (hrm : Rns 0 w vm m) (hl : RnOk l) (hm : RnOk m) (hs : sumR l + sumR m ≤ 1024) :
    Calls Tryz.prog 207 #[.agg #[v], .agg #[vm]] w (AppdPost w (pushAll l m)) := by
  obtain ⟨W0, hW0⟩ : ∃ W, ((w.alloc (.cells #[v] 232)).alloc (.cells #[vm] 232)).alloc (.cells #[.slice none 0 0] 232) = W := ⟨_, rfl⟩
  have hb0 : Below w.heap.size w W0 := by rw [← hW0]; exact bta (bta (bal' w _) (Nat.le_refl _) _) (Nat.le_refl _) _
  have hz0 : W0.heap.size = w.heap.size + 3 := by rw [← hW0]; simp
  have pA : W0.heap[w.heap.size]? = some (.cells #[v] 232) := by rw [← hW0]; exact hpKeep (hpKeep (hpNew w _) (bal' _ _)) (bal' _ _)
  have pB : W0.heap[w.heap.size + 1]? = some (.cells #[vm] 232) := by
    rw [← hW0]
    refine hpKeep ?_ (bal' _ _)
    have := hpNew (w.alloc (.cells #[v] 232)) (.cells #[vm] 232)
    simpa using this
  have pC : W0.heap[w.heap.size + 1 + 1]? = some (.cells #[.slice none 0 0] 232) := by
    rw [← hW0]
    have := hpNew ((w.alloc (.cells #[v] 232)).alloc (.cells #[vm] 232)) (.cells #[.slice none 0 0] 232)
    simpa using this
  have a0 : ∀ X, Below W0.heap.size W0 X → X.cell? ⟨w.heap.size, 0, none⟩ = some v := fun X h => hpCell (hpKeep pA h) 0
  have b0' : ∀ X, Below W0.heap.size W0 X → X.cell? ⟨w.heap.size + 1, 0, none⟩ = some vm := fun X h => hpCell (hpKeep pB h) 0
  have k0 : Below W0.heap.size W0 W0 := Below.refl _ _
  have a00 := a0 W0 k0
  obtain ⟨s, hsl⟩ : ∃ s, sumR l = s := ⟨_, rfl⟩
  have hs0 : 0 ≤ s := by have := sumR_len l hl.pos; omega
  have hs1 : s ≤ 1024 := by have := hl.sum; omega
  have sw : IntKind.i64.wrap (65536 - s) = 65536 - s := IntWalk.i64_in _ (by omega)
  have HCL : Hid (Calls Tryz.prog 176 #[v] W0 fun r w' => ∃ v', r = .returned v' ∧ Rns W0.heap.size w' v' l ∧ Below W0.heap.size W0 w') := cloneR_any v l W0 (hr.keep hb0) (by have := hl.len; omega)
  have HLN : Hid (∀ X, Below W0.heap.size W0 X → Calls Tryz.prog 175 #[.agg #[v]] X fun r w' => r = .returned (.int .i64 s) ∧ Below X.heap.size X w') := fun X h => by rw [← hsl]; exact rlen_any v l X (hr.keep (bt hb0 h (Nat.le_refl _))) hl
  have HPT : Hid (∀ X, Below W0.heap.size W0 X → Calls Tryz.prog 209 #[.agg #[vm], .int .i64 0, .int .i64 (65536 - s)] X fun r w' => ∃ a c, r = .returned (.slice a m.length c) ∧ Rns X.heap.size w' (.slice a m.length c) m ∧ Below X.heap.size X w') := fun X h => by
    refine (rpart_any vm m (65536 - s) X (hrm.keep (bt hb0 h (Nat.le_refl _))) hm (by have := hm.sum; omega)).mono ?_
    rintro r w' ⟨v', rfl, h1, h2⟩
    obtain ⟨a, c, rfl⟩ := h1.slice
    exact ⟨a, c, rfl, h1, h2⟩
  have HW0 := hid hW0
  have HB0 := hid hb0
  have HZ0 := hid hz0
  have PC := hid pC
  have HRM := hid hrm
  have HL := hid hl
  have HMO := hid hm
  have HSS := hid hs
  obtain ⟨n, hN⟩ : ∃ n, m.length = n := ⟨_, rfl⟩
  have HN := hid hN
  have hn : n ≤ 1024 := by have := hm.len; omega
  rw [hN] at HPT
  clear hW0 hb0 hz0 pA pB pC hr hrm hl hm hs hsl hN
  go_enter Tryz.func207, Tryz.ntmps207
  go_upto_region 1 with (fail)
  rw [HW0.out]
  go_upto_region 2 with (go_at_call 176; (with_reducible refine HCL.out.mono ?_); rintro r w1 ⟨v1, rfl, hr1, hb1⟩)
  have HR1 := hid hr1
  have kD : Below W0.heap.size W0 w1.drew := hb1.drew
  clear hr1
  go_region_held3 (fun X => Below W0.heap.size W0 X) ((first | exact kD | assumption)) (first | (go_at_call 175; (with_reducible refine (HLN.out _ (by assumption)).mono ?_); rintro r w2 ⟨rfl, hb2⟩; have hB2 := bt (by assumption) hb2 (Nat.le_refl _)) | (go_at_call 209; (with_reducible refine (HPT.out _ (by assumption)).mono ?_); rintro r w3 ⟨pa, pc, rfl, hr3, hb3⟩; have hB3 := bt (by assumption) hb3 (Nat.le_refl _)))
  have hb13 : Below w1.heap.size w1 w3 := bt (Below.refl _ _).drew (bt hb2 hb3 (Nat.le_refl _)) (Nat.le_refl _)
  have HR3 : Hid (Rns W0.heap.size w3 v1 l) := HR1.out.keep hb13
  have HP3 : Hid (Rns 0 w3 (.slice pa n pc) m) := own_lower hr3 (Nat.zero_le _)
  have hne : ∀ j, v1.ownBlock = some j → (Value.slice pa n pc).ownBlock ≠ some j := fun j h1 h2 => by
    have e1 := (HR1.out.lt j h1).2
    have e2 := (hr3.lt j h2).1
    have := hb2.size
    simp at this
    omega
  have HB3 := hid hB3
  have HNE := hid hne
  clear hr3 a0 b0' k0 a00 kD hb1 hb2 hB2 hb3 hB3 hb13 hne
  go_wp2
  go_loopw [5, 17] (fun ov iv wr => ∃ k : Nat, k ≤ n ∧ iv = .int .i64 k ∧ Hid (Rns W0.heap.size wr ov (pushAll l (m.take k))) ∧ Hid (Rns 0 wr (.slice pa n pc) m) ∧ Below W0.heap.size W0 wr ∧ Hid (∀ j, ov.ownBlock = some j → (Value.slice pa n pc).ownBlock ≠ some j)) (fun _ iv _ => n - (intOf iv).toNat)
  case atStart => exact ⟨0, Nat.zero_le _, rfl, HR3.out, HP3.out, HB3.out, HNE.out⟩
  case round =>
    obtain ⟨k, hk, rfl, hro, hrp, hbw, hne⟩ := hrel
    by_cases hlt : k < n
    · obtain ⟨p, hp⟩ := gs (l := m) HN.out hlt
      obtain ⟨g, cap, hv, d0, d1, _⟩ := hrp.out.at hp
      rw [HN.out] at hv
      simp only [Value.slice.injEq, true_and] at hv
      obtain ⟨rfl, rfl⟩ := hv
      have hp1 := HMO.out.pos p (List.mem_of_getElem? hp)
      have hp2 : p.1 ≤ 1024 := by
        have h1 := HMO.out.part (k + 1)
        have h0 := HMO.out.part k
        have h2 := HMO.out.sum
        rw [List.take_add_one, hp, sumR_append] at h1
        have h3 : sumR (some p).toList = p.1 + 0 := rfl
        rw [h3] at h1
        omega
      have HOK : Hid (RnOk (pushAll l (m.take k))) := pushAll_part HL.out HMO.out HSS.out k
      have HNX : Hid (pushAll l (m.take (k + 1)) = pushR (pushAll l (m.take k)) p.1 p.2) := by show _ = _; rw [take_succ_snoc hp, pushAll_snoc]
      obtain ⟨c, hc⟩ : ∃ c, p.1 = c := ⟨_, rfl⟩
      obtain ⟨x, hx⟩ : ∃ x, p.2 = x := ⟨_, rfl⟩
      rw [hc] at d0 hp1 hp2 HNX
      rw [hx] at d1 HNX
      have hsz := hbw.size
      have HPU : Hid (Calls Tryz.prog 210 #[u5, .agg #[.int .i64 c, .int .i64 x]] (wr.alloc (.cells #[.int .i64 c, .int .i64 x] 237)) (PushPost W0.heap.size (wr.alloc (.cells #[.int .i64 c, .int .i64 x] 237)) u5 (pushAll l (m.take (k + 1))))) := by
        rw [HNX.out]
        exact rpush_any _ _ _ c x _ (hro.out.keep (bal' _ _)) (by simp; omega) HOK.out hp1 hp2
      have hki : (0 : Int) ≤ (k : Int) := Int.natCast_nonneg _
      have hkl : (k : Int) < (n : Int) := by omega
      clear hp hc hx hp1 hp2
      go_wp2_with (go_at_call 210; (with_reducible refine HPU.out.mono ?_); rintro r w5 ⟨v5, rfl, hr5, hk5, hn5⟩)
      have hb5 : Below W0.heap.size W0 w5 := (bta hbw (Nat.le_refl _) _).trans (hk5.below (by simp; omega) (fun j hj e => by have := (hro.out.lt j e).1; omega))
      have hp5 : Hid (Rns 0 w5 (.slice (some ⟨g, 0, none⟩) n pc) m) := (hrp.out.keep (bal' wr _)).keeps hk5 (fun j h1 h2 => hne.out j h2 h1)
      have hne5 : Hid (∀ j, v5.ownBlock = some j → (Value.slice (some ⟨g, 0, none⟩) n pc).ownBlock ≠ some j) := fun j h1 h2 => by
        rcases hn5 j h1 with h3 | h3
        · exact hne.out j h3 h2
        · have := (hrp.out.lt j h2).2
          simp at h3
          omega
      have HR5 := hid hr5
      clear hr5 hk5 hn5
      go_roundw
      case rel => exact ⟨k + 1, by omega, by go_num, HR5.out, hp5.out, hb5, hne5.out⟩
      case measure => simp [intOf]; omega
    · obtain rfl : k = n := by omega
      have HE : Hid (Rns w.heap.size wr u5 (pushAll l m)) := by
        have h := hro.out
        rw [List.take_of_length_le (by rw [HN.out]; exact Nat.le_refl _)] at h
        exact own_lower h HB0.out.size
      have hpc := hpKeep PC.out hbw
      have z0 : wr.cell? ⟨w.heap.size + 1 + 1, 0, none⟩ = some (.slice none 0 0) := hpCell hpc 0
      have zf : wr.frozen? ⟨w.heap.size + 1 + 1, 0, none⟩ = false := hpFree hpc 0
      have hne2 : Hid (∀ j, u5.ownBlock = some j → j ≠ w.heap.size + 1 + 1) := fun j h1 e => by have := (hro.out.lt j h1).1; have := HZ0.out; omega
      clear hro hrp hne
      obtain ⟨ua, uc, rfl⟩ := HE.out.slice
      go_wp2
      refine bodyPost_ret (v := .agg #[.slice ua (pushAll l m).length uc]) (by simp [results, Tryz.results207, go_sem, z0]) rfl ?_
      have hk := (Keeps.refl (· = w.heap.size + 1 + 1) wr).set ⟨w.heap.size + 1 + 1, 0, none⟩ (.slice ua (pushAll l m).length uc) rfl
      exact ⟨_, rfl, HE.out.keeps hk (fun j h1 e => hne2.out j h1 e), (bt HB0.out hbw (Nat.le_refl _)).setCell (p := ⟨w.heap.size + 1 + 1, 0, none⟩) (by show w.heap.size ≤ w.heap.size + 1 + 1; omega) _⟩
set_option maxHeartbeats 1600000 in
theorem rruns_any (v : Value) (l : List (Int × Int)) (w : World) (hv : Rns 0 w v l) (hl : l.length ≤ 1000000) :
    Calls Tryz.prog 174 #[.agg #[v]] w fun r w' => ∃ v', r = .returned v' ∧ Rns w.heap.size w' v' l ∧ Below w.heap.size w w' := by
  have HC := hid (cloneR_any v l (w.alloc (.cells #[v] 232)) (hv.keep (bal' w _)) hl)
  clear hv
  go_enter Tryz.func174, Tryz.ntmps174
  go_wp2_with (go_at_call 176; (with_reducible refine HC.out.mono ?_); rintro r w1 ⟨v1, rfl, hr1, hb1⟩)
  go_ret
  exact ⟨v1, rfl, own_lower hr1 (by simp), bt (bal' w _) hb1 (Nat.le_refl _)⟩
end Go.Proofs.YtipnamoocemeeaaGreat
