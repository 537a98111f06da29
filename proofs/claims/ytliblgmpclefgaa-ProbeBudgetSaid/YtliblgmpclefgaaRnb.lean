/-
  Runs of numbers: the contracts of part and push.
-/
import Derived.Test.YtliblgmpclefgaaRna
import Derived.Deep.RegionLaw
namespace Go.Proofs.Ytliblgmpclefgaa
open Go.RowKit

/-- One run more. -/
def pushR (l : List (Int × Int)) (n u : Int) : List (Int × Int) :=
  match l.getLast? with
  | some p => if p.2 = u then l.dropLast ++ [(p.1 + n, u)] else l ++ [(n, u)]
  | none => [(n, u)]

theorem bmin (P : Program) (x y m : Int) (e : (if y < x then y else x) = m) (ts : Array TypeId) (T : TypeId) (W : World) : (Builtin.min_ ts T #[.int .i64 x, .int .i64 y]).run P W = .ok (.int .i64 m) W := by
  subst e
  simp [Builtin.min_, Builtin.min2]
theorem bmax (P : Program) (x y m : Int) (e : (if x < y then y else x) = m) (ts : Array TypeId) (T : TypeId) (W : World) : (Builtin.max_ ts T #[.int .i64 x, .int .i64 y]).run P W = .ok (.int .i64 m) W := by
  subst e
  simp [Builtin.max_, Builtin.max2]

set_option maxRecDepth 100000 in
set_option maxHeartbeats 3200000 in
theorem rpart_any (v : Value) (l : List (Int × Int)) (tz : Int) (w : World) (hr : Rns 0 w v l) (hl : RnOk l) (hto : sumR l ≤ tz) :
    Calls Try.prog 134 #[.agg #[v], .int .i64 0, .int .i64 tz] w fun r w' => ∃ v', r = .returned v' ∧ Rns w.heap.size w' v' l ∧ Below w.heap.size w w' := by
  obtain ⟨i5, hi, hz0, hz1, hz2⟩ := info_parts infoR
  obtain ⟨va, vc, rfl⟩ := hr.slice
  obtain ⟨n, hN⟩ : ∃ n, l.length = n := ⟨_, rfl⟩
  rw [hN] at hr
  have HR := hid hr
  have HN := hid hN
  have HL := hid hl
  have hn : n ≤ 1024 := by have := hl.len; omega
  have HTO := hid hto
  rw [hN]
  clear hr hl hN hto
  go_enter Try.func134, Try.ntmps134
  go_wp2
  have hb0 : Below w.heap.size w (w.alloc (.cells #[.slice va n vc] 148)) := bal' w _
  generalize w.alloc (.cells #[.slice va n vc] 148) = W at *
  go_loopw [7, 8, 11, 15] (fun ov sv _ iv wr => ∃ (k : Nat) (oa : Option Addr) (oc : Nat), k ≤ n ∧ iv = .int .i64 k ∧ sv = .int .i64 (sumR (l.take k)) ∧ ov = .slice oa k oc ∧ Hid (wr.ownsRow w.heap.size 153 2 (.slice oa k oc) k (rcs (l.take k))) ∧ Below w.heap.size w wr) (fun _ _ _ iv _ => n - (intOf iv).toNat)
  case atStart => exact ⟨0, none, 0, Nat.zero_le _, rfl, rfl, rfl, World.ownsRow_nil _ _ _ _, hb0⟩
  case round =>
    obtain ⟨k, oa, oc, hk, rfl, rfl, rfl, hown, hbw⟩ := hrel
    by_cases hlt : k < n
    · obtain ⟨p, hp⟩ := gs (l := l) HN.out hlt
      obtain ⟨g, cap, hv, d1, d2, _⟩ := (HR.out.keep hbw).at hp
      rw [HN.out] at hv
      simp only [Value.slice.injEq, true_and] at hv
      obtain ⟨rfl, rfl⟩ := hv
      have HS : Hid (sumR (l.take (k + 1)) = sumR (l.take k) + p.1) := by
        show _ = _
        rw [List.take_add_one, hp, sumR_append]
        show _ + (p.1 + 0) = _
        omega
      have HC : Hid (rcs (l.take (k + 1)) = rcs (l.take k) ++ [.int .i64 p.1, .int .i64 p.2]) := by
        show _ = _
        rw [List.take_add_one, hp, rcs_append]
        rfl
      have hs1 := HL.out.part (k + 1)
      have hs0 := HL.out.part k
      have hsm := HL.out.sum
      have hp1 := HL.out.pos p (List.mem_of_getElem? hp)
      have hto' := HTO.out
      rw [HS.out] at hs1
      generalize sumR (l.take k) = s at *
      obtain ⟨c, hc⟩ : ∃ c, p.1 = c := ⟨_, rfl⟩
      rw [hc] at hs1 hp1 HS HC d1
      have sw : IntKind.i64.wrap (s + c) = s + c := IntWalk.i64_in _ (by omega)
      have m1 : ∀ ts T W, (Builtin.min_ ts T #[.int .i64 tz, .int .i64 (s + c)]).run Try.prog W = .ok (.int .i64 (s + c)) W := bmin Try.prog tz (s + c) (s + c) (by split <;> omega)
      have m2 : ∀ ts T W, (Builtin.max_ ts T #[.int .i64 0, .int .i64 s]).run Try.prog W = .ok (.int .i64 s) W := bmax Try.prog 0 s s (by split <;> omega)
      have sw2 : s + c - s = c := by omega
      have swc : IntKind.i64.wrap c = c := IntWalk.i64_in _ (by omega)
      have hcp : 0 < c := by omega
      have hle : s + c ≤ tz := by omega
      have hs00 : 0 ≤ s := hs0.1
      have hki : (0 : Int) ≤ (k : Int) := Int.natCast_nonneg _
      have hkl : (k : Int) < (n : Int) := by omega
      have hsz := hbw.size
      clear hp hs1 hs0 hsm hc hto' hp1
      go_wp2_with (at_builtin; refine wpList_appN rfl _ _ 146 rfl w.heap.size 153 i5 _ 2 16 Try.underlying146 hi hz0 hz1 hz2 rfl (by decide) (.slice oa k oc) k (rcs (l.take k)) rfl ((hown.out.alloc _).alloc _) ⟨wr.heap.size + 1, 0, none⟩ 1 1 [.int .i64 c, .int .i64 p.2] rfl rfl (by have := newsNew (wr.alloc (.cells #[.int .i64 c, .int .i64 p.2] 153)) [.int .i64 c, .int .i64 p.2] 153; simpa using this) (by intro u hu; simp at hu; rcases hu with rfl | rfl <;> rfl) (by unfold maxLen; omega) (by omega) (by simp; omega) ?c3)
      case c3 =>
        intro v6 w6 hown6 hgr6 _
        obtain ⟨a6, c6, rfl⟩ := own_slice hown6
        have HO6 : Hid (w6.ownsRow w.heap.size 153 2 (.slice a6 (k + 1) c6) (k + 1) (rcs (l.take (k + 1)))) := by show w6.ownsRow _ _ _ _ _ _; rw [HC.out]; exact hown6
        have hb6 : Below w.heap.size w w6 := (bta (bta hbw (Nat.le_refl _) _) (Nat.le_refl _) _).grown hgr6 (by simp; omega) (fun j hj => (hown.out.lt j hj).1)
        have hbx : w6.cell? ⟨wr.heap.size, 0, none⟩ = some (.int .i64 c) := by
          have h0 : ((wr.alloc (.cells #[.int .i64 c, .int .i64 p.2] 153)).alloc (.cells #[.int .i64 c, .int .i64 p.2] 153)).heap[wr.heap.size]? = some (.cells #[.int .i64 c, .int .i64 p.2] 153) := hpKeep (hpNew wr _) (bal' _ _)
          exact hpCell (hpKeeps (F := fun j => (Value.slice oa k oc).ownBlock = some j) h0 (Keeps.of_grown hgr6 (fun _ hk => hk)) (fun e => by have := (hown.out.lt _ e).2; omega)) 0
        clear hown6 hgr6
        go_wp2
        go_roundw
        case rel => exact ⟨k + 1, a6, c6, by omega, by go_num, by rw [HS.out], rfl, HO6.out, hb6⟩
        case measure => simp [intOf]; omega
    · obtain rfl : k = n := by omega
      have HT : Hid (l.take k = l) := List.take_of_length_le (by rw [HN.out]; exact Nat.le_refl _)
      have HE : Hid (Rns w.heap.size wr (.slice oa k oc) l) := by
        have := hown.out
        rw [HT.out] at this
        show wr.ownsRow _ _ _ _ _ _
        rw [HN.out]
        exact this
      clear hown
      go_wp2
      go_ret
      exact ⟨_, rfl, HE.out, hbw⟩

theorem snocC {α : Type} (l : List α) : l = [] ∨ ∃ i p, l = i ++ [p] := by
  rcases List.eq_nil_or_concat l with h | ⟨i, p, h⟩
  · exact .inl h
  · exact .inr ⟨i, p, by rw [h, List.concat_eq_append]⟩
theorem pushR_nil (n u : Int) : pushR [] n u = [(n, u)] := rfl
theorem pushR_same (l : List (Int × Int)) (p : Int × Int) (n u : Int) (h : p.2 = u) : pushR (l ++ [p]) n u = l ++ [(p.1 + n, u)] := by simp [pushR, h]
theorem pushR_other (l : List (Int × Int)) (p : Int × Int) (n u : Int) (h : p.2 ≠ u) : pushR (l ++ [p]) n u = l ++ [p] ++ [(n, u)] := by simp [pushR, h]
theorem pushR_sum (l : List (Int × Int)) (n u : Int) : sumR (pushR l n u) = sumR l + n := by
  rcases snocC l with rfl | ⟨i, p, rfl⟩
  · simp [pushR, sumR]
  · by_cases h : p.2 = u
    · rw [pushR_same _ _ _ _ h, sumR_append, sumR_append]
      simp only [sumR]
      omega
    · rw [pushR_other _ _ _ _ h, sumR_append]
      simp only [sumR]
      omega
theorem pushR_ok {l : List (Int × Int)} (h : RnOk l) {n u : Int} (hn : 1 ≤ n) (hs : sumR l + n ≤ 1024) : RnOk (pushR l n u) := by
  refine ⟨?_, by rw [pushR_sum]; exact hs⟩
  intro q hq
  rcases snocC l with rfl | ⟨i, p, rfl⟩
  · rw [pushR_nil] at hq
    simp at hq
    subst hq
    exact hn
  · by_cases hu : p.2 = u
    · rw [pushR_same _ _ _ _ hu] at hq
      rcases List.mem_append.1 hq with hq | hq
      · exact h.pos q (List.mem_append_left _ hq)
      · simp at hq
        subst hq
        have := h.pos p (List.mem_append_right _ (List.mem_cons_self ..))
        show 1 ≤ p.1 + n
        omega
    · rw [pushR_other _ _ _ _ hu] at hq
      rcases List.mem_append.1 hq with hq | hq
      · exact h.pos q hq
      · simp at hq
        subst hq
        exact hn

/-- What push leaves. -/
def PushPost (base : Nat) (w : World) (v : Value) (l' : List (Int × Int)) (r : Ending) (w' : World) : Prop :=
  ∃ v', r = .returned v' ∧ Rns base w' v' l' ∧ Keeps (fun j => v.ownBlock = some j) w w' ∧ ∀ j, v'.ownBlock = some j → v.ownBlock = some j ∨ w.heap.size ≤ j

/-- The end where a run is appended. -/
theorem PushPost.app {base : Nat} {w W6 : World} {v v6 : Value} {l l' : List (Int × Int)} {n u : Int} (h6 : W6.ownsRow base 153 2 v6 (l.length + 1) (rcs l ++ [.int .i64 n, .int .i64 u])) (he : l' = l ++ [(n, u)])
    {W1 : World} {Y : Obj} (hb1 : Below w.heap.size w W1) (hgr : (W1.alloc Y).grownBy W6 v.ownBlock) (hnew : NewOr (W1.alloc Y) v v6) : PushPost base w v l' (.returned v6) W6 := by
  subst he
  refine ⟨v6, rfl, ?_, (Keeps.of_below (bta hb1 (Nat.le_refl _) Y)).trans (Keeps.of_grown hgr (fun _ hk => hk)) (fun _ _ e => e), fun j hj => ?_⟩
  · show W6.ownsRow _ _ _ _ _ _
    rw [List.length_append, rcs_append]
    exact h6
  · rcases hnew with h1 | ⟨i, h1, h2⟩
    · exact .inl (by rw [← h1]; exact hj)
    · rw [hj] at h1
      cases h1
      simp at h2
      have := hb1.size
      exact .inr (by omega)

set_option maxRecDepth 100000 in
set_option maxHeartbeats 3200000 in
theorem rpush_any (base : Nat) (v : Value) (l : List (Int × Int)) (n u : Int) (w : World) (hr : Rns base w v l) (hb : base ≤ w.heap.size) (hl : RnOk l) (hn : 1 ≤ n) (hn2 : n ≤ 1024) :
    Calls Try.prog 135 #[v, .agg #[.int .i64 n, .int .i64 u]] w (PushPost base w v (pushR l n u)) := by
  obtain ⟨i5, hi, hz0, hz1, hz2⟩ := info_parts infoR
  have hlen := hl.len
  have hnb : Below w.heap.size w (w.alloc (.cells #[.int .i64 n, .int .i64 u] 153)) := bal' w _
  rcases snocC l with rfl | ⟨i, p, hlp⟩
  · obtain ⟨va, vc, rfl⟩ := hr.slice
    have HR : Hid (w.ownsRow base 153 2 (.slice va 0 vc) 0 []) := hr
    clear hr
    show Calls _ _ #[.slice va 0 vc, _] _ _
    rw [pushR_nil]
    go_enter Try.func135, Try.ntmps135
    go_upto_region 4 with (fail)
    go_quiet (fail)
    have hb1 : Below w.heap.size w ((w.alloc (.cells #[.int .i64 n, .int .i64 u] 153)).drewN nq) := below_drewN hnb _; have pb1 : ((w.alloc (.cells #[.int .i64 n, .int .i64 u] 153)).drewN nq).heap[w.heap.size]? = some (.cells #[.int .i64 n, .int .i64 u] 153) := hpKeep (hpNew w _) (below_drewN (Below.refl _ _) _); generalize (w.alloc (.cells #[.int .i64 n, .int .i64 u] 153)).drewN nq = W1 at *; have x0 : W1.cell? ⟨w.heap.size, 0, none⟩ = some (.int .i64 n) := hpCell pb1 0; have x1 : W1.cell? ⟨w.heap.size, 1, none⟩ = some (.int .i64 u) := hpCell pb1 1; have hs1 := hb1.size
    have HO1 : Hid (W1.ownsRow base 153 2 (.slice va 0 vc) 0 []) := own_keeps (F := fun _ => False) HR.out (Keeps.of_below hb1) (fun _ _ f => f)
    go_wp2_with (at_builtin; refine wpList_appN rfl _ _ 146 rfl base 153 i5 _ 2 16 Try.underlying146 hi hz0 hz1 hz2 rfl (by decide) (.slice va 0 vc) 0 [] rfl (HO1.out.alloc _) ⟨W1.heap.size, 0, none⟩ 1 1 [.int .i64 n, .int .i64 u] rfl rfl (newsNew W1 [.int .i64 n, .int .i64 u] _) (by intro u hu; simp at hu; rcases hu with rfl | rfl <;> rfl) (by unfold maxLen; omega) (by omega) (by simp; omega) ?c3)
    case c3 =>
      intro v6 w6 hown6 hgr6 hnew6
      have HE : Hid (PushPost base w (.slice va 0 vc) [(n, u)] (.returned v6) w6) := PushPost.app (l := []) hown6 rfl hb1 hgr6 hnew6
      clear hown6 hgr6 hnew6
      go_wp2
      go_ret
      exact HE.out
  · subst hlp
    obtain ⟨va, vc, rfl⟩ := hr.slice
    obtain ⟨g, cap, hv, d0, d1, df⟩ := hr.at (k := i.length) (p := p) (by simp)
    obtain ⟨k, hk⟩ : ∃ k, i.length = k := ⟨_, rfl⟩
    obtain ⟨m, hm⟩ : ∃ m, (i ++ [p]).length = m := ⟨_, rfl⟩
    have hmk : m = k + 1 := by rw [← hm, List.length_append, hk]; rfl
    have hsum := hl.sum
    have hp1 := hl.pos p (List.mem_append_right _ (List.mem_cons_self ..))
    have hps : p.1 ≤ 1024 := by
      have h1 := (hl.part i.length).1
      rw [List.take_left] at h1
      rw [sumR_append] at hsum
      simp only [sumR] at hsum
      omega
    rw [hm] at hv hr hlen ⊢
    rw [hk] at d0 d1 df
    simp only [Value.slice.injEq, true_and] at hv
    obtain ⟨rfl, rfl⟩ := hv
    have HR : Hid (w.ownsRow base 153 2 (.slice (some ⟨g, 0, none⟩) m vc) m (rcs (i ++ [p]))) := by have h : w.ownsRow _ _ _ _ _ _ := hr; rw [hm] at h; exact h
    have hgl := (HR.out.lt g rfl).2
    have HM := hid hm
    have HK := hid hk
    have sl : IntKind.i64.wrap ((m : Int) - 1) = (k : Int) := by rw [IntWalk.i64_in _ (by omega)]; omega
    have hk0 : (0 : Int) ≤ (k : Int) := Int.natCast_nonneg _
    have hkm : (k : Int) < (m : Int) := by omega
    have HDF := hid df
    obtain ⟨c, hc⟩ : ∃ c, p.1 = c := ⟨_, rfl⟩
    obtain ⟨x, hx⟩ : ∃ x, p.2 = x := ⟨_, rfl⟩
    have HP := hid (show p = (c, x) by rw [← hc, ← hx])
    rw [hc] at d0 hp1 hps
    rw [hx] at d1
    have HD0 := hid d0
    have e0 := cell_keep hnb d0
    have e1 := cell_keep hnb d1
    clear hr hm hk hl d0 d1 hsum hmk df
    by_cases hu : x = u
    · have du := b1 hu
      have HPU : Hid (pushR (i ++ [p]) n u = i ++ [(c + n, u)]) := by show _ = _; rw [pushR_same _ _ _ _ (by rw [hx]; exact hu), hc]
      have sw : IntKind.i64.wrap (c + n) = c + n := IntWalk.i64_in _ (by omega)
      clear hc hx
      rw [HPU.out]
      go_enter Try.func135, Try.ntmps135
      go_upto_region 4 with (fail)
      go_quiet (fail)
      have hb1 : Below w.heap.size w ((w.alloc (.cells #[.int .i64 n, .int .i64 u] 153)).drewN nq) := below_drewN hnb _; have pb1 : ((w.alloc (.cells #[.int .i64 n, .int .i64 u] 153)).drewN nq).heap[w.heap.size]? = some (.cells #[.int .i64 n, .int .i64 u] 153) := hpKeep (hpNew w _) (below_drewN (Below.refl _ _) _); generalize (w.alloc (.cells #[.int .i64 n, .int .i64 u] 153)).drewN nq = W1 at *; have x0 : W1.cell? ⟨w.heap.size, 0, none⟩ = some (.int .i64 n) := hpCell pb1 0; have x1 : W1.cell? ⟨w.heap.size, 1, none⟩ = some (.int .i64 u) := hpCell pb1 1; have hs1 := hb1.size
      have y0 : W1.cell? ⟨g, k * 2, none⟩ = some (.int .i64 c) := cell_keep hb1 HD0.out
      have yf : W1.frozen? ⟨g, k * 2, none⟩ = false := by rw [hb1.frozen (p := ⟨g, k * 2, none⟩) hgl]; exact HDF.out
      have HE : Hid (∀ W2, Below W1.heap.size W1 W2 → PushPost base w (.slice (some ⟨g, 0, none⟩) m vc) (i ++ [(c + n, u)]) (.returned (.slice (some ⟨g, 0, none⟩) m vc)) (W2.setCell ⟨g, k * 2, none⟩ (.int .i64 (c + n)))) := fun W2 h2 => by
        have hb2 := bt hb1 h2 (Nat.le_refl _)
        have ho2 : W2.ownsRow base 153 2 (.slice (some ⟨g, 0, none⟩) m vc) m (rcs (i ++ [p])) := own_keeps (F := fun _ => False) HR.out (Keeps.of_below hb2) (fun _ _ f => f)
        refine ⟨_, rfl, ?_, ((Keeps.of_below hb2).set _ _ rfl), fun j hj => .inl hj⟩
        have ho3 := (ho2.stored (k * 2) (.int .i64 (c + n))).1
        have e : (rcs (i ++ [p])).set (k * 2) (.int .i64 (c + n)) = rcs (i ++ [(c + n, u)]) := by
          rw [rcs_append, rcs_append, List.set_append_right _ _ (by rw [rcs_len, HK.out]; exact Nat.le_refl _), rcs_len, HK.out, Nat.sub_self, HP.out, hu]
          rfl
        rw [e] at ho3
        show World.ownsRow _ _ _ _ _ _ _
        rw [show (i ++ [(c + n, u)]).length = m by rw [← HM.out]; simp]
        exact ho3
      go_upto_region 5 with (fail)
      go_region
      all_goals
        go_wp2
        go_ret
        first
          | exact HE.out _ (Below.refl _ _)
          | exact HE.out _ (Below.refl _ _).drew
          | exact HE.out _ (below_drewN (Below.refl _ _) _)
    · have du := b0 hu
      have HPU : Hid (pushR (i ++ [p]) n u = i ++ [p] ++ [(n, u)]) := by show _ = _; rw [pushR_other _ _ _ _ (by rw [hx]; exact hu)]
      clear hc hx
      rw [HPU.out]
      go_enter Try.func135, Try.ntmps135
      go_upto_region 4 with (fail)
      go_quiet (fail)
      have hb1 : Below w.heap.size w ((w.alloc (.cells #[.int .i64 n, .int .i64 u] 153)).drewN nq) := below_drewN hnb _; have pb1 : ((w.alloc (.cells #[.int .i64 n, .int .i64 u] 153)).drewN nq).heap[w.heap.size]? = some (.cells #[.int .i64 n, .int .i64 u] 153) := hpKeep (hpNew w _) (below_drewN (Below.refl _ _) _); generalize (w.alloc (.cells #[.int .i64 n, .int .i64 u] 153)).drewN nq = W1 at *; have x0 : W1.cell? ⟨w.heap.size, 0, none⟩ = some (.int .i64 n) := hpCell pb1 0; have x1 : W1.cell? ⟨w.heap.size, 1, none⟩ = some (.int .i64 u) := hpCell pb1 1; have hs1 := hb1.size
      have HO1 : Hid (W1.ownsRow base 153 2 (.slice (some ⟨g, 0, none⟩) m vc) m (rcs (i ++ [p]))) := own_keeps (F := fun _ => False) HR.out (Keeps.of_below hb1) (fun _ _ f => f)
      go_wp2_with (at_builtin; refine wpList_appN rfl _ _ 146 rfl base 153 i5 _ 2 16 Try.underlying146 hi hz0 hz1 hz2 rfl (by decide) (.slice (some ⟨g, 0, none⟩) m vc) m (rcs (i ++ [p])) rfl (HO1.out.alloc _) ⟨W1.heap.size, 0, none⟩ 1 1 [.int .i64 n, .int .i64 u] rfl rfl (newsNew W1 [.int .i64 n, .int .i64 u] _) (by intro u hu; simp at hu; rcases hu with rfl | rfl <;> rfl) (by unfold maxLen; omega) (by omega) (by simp; omega) ?c3)
      case c3 =>
        intro v6 w6 hown6 hgr6 hnew6
        have HE : Hid (PushPost base w (.slice (some ⟨g, 0, none⟩) m vc) (i ++ [p] ++ [(n, u)]) (.returned v6) w6) := PushPost.app (l := i ++ [p]) (by rw [HM.out]; exact hown6) rfl hb1 hgr6 hnew6
        clear hown6 hgr6 hnew6
        go_wp2
        go_ret
        exact HE.out

end Go.Proofs.Ytliblgmpclefgaa
