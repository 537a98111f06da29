/-
  Texts 3 of the claim.
-/
import Derived.Test.YtipnamoocemeeaaGreatD02
import Derived.Deep.DeepCutAuto
import Derived.Deep.QuietTactic
import Derived.BigQuiet
namespace Go.Proofs.YtipnamoocemeeaaGreat
open Go.RowKit
theorem rises_no {l : List Ob} {k : Nat} {x : Ob} (h : l[k]? = some x) (hb : ¬ (lastId (-1) (l.take k) < x.id ∧ x.id ≤ 255)) : rises (-1) l = false := by
  cases hx : rises (-1) l with
  | false => rfl
  | true =>
    exfalso
    apply hb
    have e : l = l.take (k + 1) ++ l.drop (k + 1) := (List.take_append_drop _ _).symm
    rw [e] at hx
    have h3 := rises_pre _ _ _ hx
    rw [take_succ_snoc h, rises_snoc] at h3
    simp only [Bool.and_eq_true, decide_eq_true_eq] at h3
    exact ⟨h3.1.2, h3.2⟩
theorem lastId_ge (l : List Ob) : ∀ (last : Int), rises last l = true → last ≤ lastId last l := by
  induction l with
  | nil => intro last _; exact Int.le_refl _
  | cons a l ih =>
    intro last h
    simp only [rises, Bool.and_eq_true, decide_eq_true_eq] at h
    have := ih a.id h.2
    simp only [lastId]
    omega
theorem Obs.open_ {w : World} {v : Value} {l : List Ob} (h : Obs w v l) :
    ∃ a n c, v = .slice a n c ∧ l.length = n ∧ n ≤ 9223372036854775807 ∧ n ≤ c ∧ c ≤ 9223372036854775807 ∧
      ∀ (k : Nat) (x : Ob), l[k]? = some x → ∃ b o xa xc, a = some ⟨b, o, none⟩ ∧ w.cell? ⟨b, o + k * 2, none⟩ = some (.int .i64 x.id) ∧ w.cell? ⟨b, o + k * 2 + 1, none⟩ = some (.slice xa x.val.length xc) ∧ Bs w (.slice xa x.val.length xc) x.val := by
  obtain ⟨a, c, hv, h1, h2, h3, h4⟩ := h
  unfold maxLen at h2
  refine ⟨a, l.length, c, hv, rfl, by omega, h1, h2, fun k x hx => ?_⟩
  obtain ⟨b, o, ha, hc⟩ := h4 (by rintro rfl; simp at hx)
  obtain ⟨c1, vv, c2, hb⟩ := hc k x hx
  obtain ⟨xa, xc, rfl, _⟩ := id hb
  exact ⟨b, o, xa, xc, ha, c1, c2, hb⟩
theorem get_some {α : Type} {l : List α} {k n : Nat} (h : l.length = n) (hk : k < n) : ∃ x, l[k]? = some x := ⟨l[k], List.getElem?_eq_getElem (by omega)⟩
set_option maxRecDepth 100000 in
set_option maxHeartbeats 3200000 in
theorem rising_any (v : Value) (l : List Ob) (w : World) (ho : Obs w v l) :
    Calls Tryz.prog 103 #[v] w fun r w' => r = .returned (.bool (rises (-1) l)) ∧ Below w.heap.size w w' := by
  obtain ⟨a, n, c, rfl, hln, hn, hnc, hcm, hel⟩ := ho.open_
  clear ho
  replace hel := hid hel
  replace hln := hid hln
  go_enter Tryz.func103, Tryz.ntmps103
  go_wp2
  go_loopw [3] (fun i wr => ∃ k : Nat, k ≤ n ∧ i = .int .i64 k ∧ Hid (rises (-1) (l.take k) = true) ∧ Below w.heap.size w wr) (fun i _ => n - (intOf i).toNat)
  case atStart => exact ⟨0, Nat.zero_le _, rfl, rfl, Below.refl _ _⟩
  case round =>
    obtain ⟨k, hk, rfl, hri, hbw⟩ := hrel
    by_cases hlt : k < n
    · obtain ⟨x, hgx⟩ := get_some hln.out hlt
      obtain ⟨b, o, xa, xc, rfl, d1, _, _⟩ := hel.out k x hgx
      replace d1 := cell_keep hbw d1
      have HNO := hid (rises_no hgx)
      have HSN : Hid (rises (-1) (l.take (k + 1)) = (decide (lastId (-1) (l.take k) < x.id) && decide (x.id ≤ 255))) := by
        show rises (-1) (l.take (k + 1)) = _
        rw [take_succ_snoc hgx, rises_snoc, hri.out, Bool.true_and]
      have hge := lastId_ge _ _ hri.out
      have hprev : (k = 0 ∧ lastId (-1) (l.take k) = -1) ∨ ∃ j : Nat, k = j + 1 ∧ wr.cell? ⟨b, o + j * 2, none⟩ = some (.int .i64 (lastId (-1) (l.take k))) := by
        cases k with
        | zero => exact .inl ⟨rfl, rfl⟩
        | succ j =>
          refine .inr ⟨j, rfl, ?_⟩
          obtain ⟨y, hgj⟩ := get_some (k := j) hln.out (by omega)
          obtain ⟨b', o', xa, xc, ha, d1, _, _⟩ := hel.out j y hgj
          cases ha
          rw [take_succ_snoc hgj, lastId_snoc]
          exact cell_keep hbw d1
      clear hgx
      generalize x.id = xi at *
      generalize lastId (-1) (l.take k) = la at *
      have hkl : (k : Int) < (n : Int) := by omega
      rcases hprev with ⟨rfl, rfl⟩ | ⟨j, rfl, d0⟩
      · simp only [Nat.zero_mul, Nat.add_zero] at d1
        rcases (show xi < 0 ∨ (0 ≤ xi ∧ 255 < xi) ∨ (0 ≤ xi ∧ xi ≤ 255) by omega) with h | ⟨h, h'⟩ | ⟨h, h'⟩
        · have HF := hid (HNO.out (by omega))
          go_wp2
          go_quiet (fail)
          go_wp2
          go_ret
          exact ⟨by rw [HF.out]; rfl, below_drewN hbw _⟩
        · have HF := hid (HNO.out (by omega))
          have e1 : decide (xi < 0) = false := by simp; omega
          go_wp2
          go_quiet (fail)
          go_wp2
          go_ret
          exact ⟨by rw [HF.out]; rfl, below_drewN hbw _⟩
        · have e1 : decide (xi < 0) = false := by simp; omega
          have e2 : decide (255 < xi) = false := by simp; omega
          go_wp2
          go_quiet (fail)
          go_wp2
          go_roundw
          case rel => exact ⟨0 + 1, by omega, by go_num, by show _ = _; rw [HSN.out]; simp; omega, below_drewN hbw _⟩
          case measure => simp [intOf]; omega
      · have hj0 : (0 : Int) ≤ (j : Int) := Int.natCast_nonneg _
        have hj1 : (j : Int) + 1 - 1 = (j : Int) := by omega
        rcases (show xi < 0 ∨ (0 ≤ xi ∧ 255 < xi) ∨ (0 ≤ xi ∧ xi ≤ 255 ∧ xi ≤ la) ∨ (0 ≤ xi ∧ xi ≤ 255 ∧ la < xi) by omega) with h | ⟨h, h'⟩ | ⟨h, h', h''⟩ | ⟨h, h', h''⟩
        · have HF := hid (HNO.out (by omega))
          go_wp2
          go_quiet (fail)
          go_wp2
          go_ret
          exact ⟨by rw [HF.out]; rfl, below_drewN hbw _⟩
        · have HF := hid (HNO.out (by omega))
          have e1 : decide (xi < 0) = false := by simp; omega
          go_wp2
          go_quiet (fail)
          go_wp2
          go_ret
          exact ⟨by rw [HF.out]; rfl, below_drewN hbw _⟩
        · have HF := hid (HNO.out (by omega))
          have e1 : decide (xi < 0) = false := by simp; omega
          have e2 : decide (255 < xi) = false := by simp; omega
          go_wp2
          go_quiet (fail)
          go_wp2
          go_ret
          exact ⟨by rw [HF.out]; rfl, below_drewN hbw _⟩
        · have e1 : decide (xi < 0) = false := by simp; omega
          have e2 : decide (255 < xi) = false := by simp; omega
          have e3 : decide (xi ≤ la) = false := by simp; omega
          go_wp2
          go_quiet (fail)
          go_wp2
          go_roundw
          case rel => exact ⟨j + 1 + 1, by omega, by go_num, by show _ = _; rw [HSN.out]; simp; omega, below_drewN hbw _⟩
          case measure => simp [intOf]; omega
    · obtain rfl : k = n := by omega
      have HF : Hid (rises (-1) l = true) := by
        have h1 := hri.out
        rw [← hln.out, List.take_length] at h1
        exact h1
      go_wp2
      go_ret
      exact ⟨by rw [HF.out]; rfl, hbw⟩
end Go.Proofs.YtipnamoocemeeaaGreat
namespace Go.Proofs.YtipnamoocemeeaaGreat
open Go.RowKit
theorem sameObs_len : ∀ (a b : List Ob), sameObs a b = true → a.length = b.length
  | [], [], _ => rfl
  | x :: a, y :: b, h => by
    simp only [sameObs, Bool.and_eq_true] at h
    simp [sameObs_len a b h.2]
  | [], _ :: _, h => by simp [sameObs] at h
  | _ :: _, [], h => by simp [sameObs] at h
theorem sameObs_get : ∀ (a b : List Ob) (k : Nat) (x y : Ob), sameObs a b = true → a[k]? = some x → b[k]? = some y → x.same y = true
  | [], _, k, x, y, _, h, _ => by simp at h
  | _ :: _, [], k, x, y, _, _, h => by simp at h
  | u :: a, v :: b, 0, x, y, h, h1, h2 => by
    simp only [sameObs, Bool.and_eq_true] at h
    simp at h1 h2
    subst h1; subst h2
    exact h.1
  | u :: a, v :: b, k + 1, x, y, h, h1, h2 => by
    simp only [sameObs, Bool.and_eq_true] at h
    exact sameObs_get a b k x y h.2 (by simpa using h1) (by simpa using h2)
theorem sameObs_all : ∀ (a b : List Ob), a.length = b.length → (∀ (k : Nat) (x y : Ob), a[k]? = some x → b[k]? = some y → x.same y = true) → sameObs a b = true
  | [], [], _, _ => rfl
  | x :: a, y :: b, h, hk => by
    simp only [sameObs, Bool.and_eq_true]
    exact ⟨hk 0 x y rfl rfl, sameObs_all a b (by simpa using h) (fun k x y h1 h2 => hk (k + 1) x y (by simpa using h1) (by simpa using h2))⟩
  | [], _ :: _, h, _ => by simp at h
  | _ :: _, [], h, _ => by simp at h
theorem sameObs_no {a b : List Ob} {k : Nat} {x y : Ob} (h1 : a[k]? = some x) (h2 : b[k]? = some y) (h : x.same y = false) : sameObs a b = false := by
  cases hx : sameObs a b with
  | false => rfl
  | true => rw [sameObs_get a b k x y hx h1 h2] at h; cases h
theorem sameObs_nolen {a b : List Ob} (h : ¬ a.length = b.length) : sameObs a b = false := by
  cases hx : sameObs a b with
  | false => rfl
  | true => exact absurd (sameObs_len a b hx) h
set_option maxRecDepth 100000 in
set_option maxHeartbeats 3200000 in
theorem sameObjects_any (v1 v2 : Value) (l1 l2 : List Ob) (w : World) (h1 : Obs w v1 l1) (h2 : Obs w v2 l2) (V : Bool) (hV : Hid (sameObs l1 l2 = V)) :
    Calls Tryz.prog 90 #[v1, v2] w fun r w' => r = .returned (.bool V) ∧ Below w.heap.size w w' := by
  obtain ⟨a1, n1, c1, rfl, hl1, hn1, hnc1, hcm1, hel1⟩ := h1.open_
  obtain ⟨a2, n2, c2, rfl, hl2, hn2, hnc2, hcm2, hel2⟩ := h2.open_
  clear h1 h2
  replace hel1 := hid hel1
  replace hel2 := hid hel2
  have ss : Hid (∀ (W : World) (v : Value) (l : List UInt8), Bs W v l → (convert 50 9 v).run Tryz.prog W = .ok (.string ⟨l.toArray⟩) W) := fun W v l h => run_str Tryz.underlying50 Tryz.underlying5 h _ Tryz.underlying9
  by_cases hnn : n1 = n2
  · subst hnn
    replace hl1 := hid hl1
    replace hl2 := hid hl2
    go_enter Tryz.func90, Tryz.ntmps90
    go_wp2
    go_loopw [5] (fun i wr => ∃ k : Nat, k ≤ n1 ∧ i = .int .i64 k ∧ Hid (∀ (j : Nat) (x y : Ob), j < k → l1[j]? = some x → l2[j]? = some y → x.same y = true) ∧ Below w.heap.size w wr) (fun i _ => n1 - (intOf i).toNat)
    case atStart => exact ⟨0, Nat.zero_le _, rfl, fun j x y h => by omega, Below.refl _ _⟩
    case round =>
      obtain ⟨k, hk, rfl, hri, hbw⟩ := hrel
      by_cases hlt : k < n1
      · obtain ⟨x, hgx⟩ := get_some hl1.out hlt
        obtain ⟨y, hgy⟩ := get_some hl2.out hlt
        obtain ⟨b1, o1, xa, xc, rfl, d1, e1, q1⟩ := hel1.out k x hgx
        obtain ⟨b2, o2, ya, yc, rfl, d2, e2, q2⟩ := hel2.out k y hgy
        replace d1 := cell_keep hbw d1
        replace d2 := cell_keep hbw d2
        replace e1 := cell_keep hbw e1
        replace e2 := cell_keep hbw e2
        replace q1 := q1.keep hbw
        replace q2 := q2.keep hbw
        have s1 : ∀ n, (convert 50 9 (.slice xa x.val.length xc)).run Tryz.prog (wr.drewN n) = .ok (.string ⟨x.val.toArray⟩) (wr.drewN n) := fun n => ss.out (wr.drewN n) _ _ q1
        have s2 : ∀ n, (convert 50 9 (.slice ya y.val.length yc)).run Tryz.prog (wr.drewN n) = .ok (.string ⟨y.val.toArray⟩) (wr.drewN n) := fun n => ss.out (wr.drewN n) _ _ q2
        have HNO := hid (sameObs_no hgx hgy)
        have HSM : Hid (x.same y = (x.id == y.id && x.val == y.val)) := rfl
        have HST := hid (show x.same y = true → ∀ (j : Nat) (u v : Ob), j < k + 1 → l1[j]? = some u → l2[j]? = some v → u.same v = true from fun hs j u v hj hu hv => by
          by_cases hjk : j = k
          · subst hjk
            rw [hgx] at hu
            rw [hgy] at hv
            cases hu; cases hv
            exact hs
          · exact hri.out j u v (by omega) hu hv)
        clear hgx hgy q1 q2 hri
        have hki : (0 : Int) ≤ (k : Int) := Int.natCast_nonneg _
        have hkl : (k : Int) < (n1 : Int) := by omega
        by_cases hid1 : x.id = y.id
        · by_cases hval : x.val = y.val
          · have HT := hid (HST.out (by rw [HSM.out]; simp only [hid1, hval, beq_self_eq_true, Bool.and_self]))
            have t1 : (x.id != y.id) = false := by rw [hid1]; simp
            have t2 : (x.val == y.val) = true := by simpa using hval
            replace hid1 := hid hid1
            replace hval := hid hval
            go_wp2
            go_quiet (fail)
            go_wp2
            go_roundw
            case rel => exact ⟨k + 1, by omega, by go_num, HT.out, below_drewN hbw _⟩
            case measure => simp [intOf]; omega
          · have HF := hid (HNO.out (by rw [HSM.out, hid1]; simp [hval]))
            have t1 : (x.id != y.id) = false := by rw [hid1]; simp
            have t2 : (x.val == y.val) = false := by simpa using hval
            replace hid1 := hid hid1
            replace hval := hid hval
            go_wp2
            go_quiet (fail)
            go_wp2
            go_ret
            exact ⟨by rw [← hV.out, HF.out]; rfl, below_drewN hbw _⟩
        · have HF := hid (HNO.out (by rw [HSM.out]; simp [hid1]))
          have t1 : (x.id != y.id) = true := by simpa using hid1
          replace hid1 := hid hid1
          go_wp2
          go_quiet (fail)
          go_wp2
          go_ret
          exact ⟨by rw [← hV.out, HF.out]; rfl, below_drewN hbw _⟩
      · obtain rfl : k = n1 := by omega
        have HF : Hid (sameObs l1 l2 = true) := sameObs_all l1 l2 (by rw [hl1.out, hl2.out]) fun j x y hx hy => hri.out j x y (by have := (List.getElem?_eq_some_iff.1 hx).1; have := hl1.out; omega) hx hy
        go_wp2
        go_ret
        exact ⟨by rw [← hV.out, HF.out]; rfl, hbw⟩
  · have HF := hid (sameObs_nolen (a := l1) (b := l2) (by rw [hl1, hl2]; exact hnn))
    have t1 : ((n1 : Int) != (n2 : Int)) = true := by rw [bne_iff_ne]; omega
    have t2 : ((n1 : Int) == (n2 : Int)) = false := by rw [beq_eq_false_iff_ne]; omega
    go_enter Tryz.func90, Tryz.ntmps90
    go_wp2
    go_ret
    exact ⟨by rw [← hV.out, HF.out]; rfl, Below.refl _ _⟩
end Go.Proofs.YtipnamoocemeeaaGreat
namespace Go.Proofs.YtipnamoocemeeaaGreat
open Go.RowKit
end Go.Proofs.YtipnamoocemeeaaGreat

namespace Go.Proofs.YtipnamoocemeeaaGreat
open Go.RowKit
structure Rq where
  fn : Int
  addr : Int
  qty : Int
  code : Int
  obj : Int
def Rq.ok (q : Rq) : Bool :=
  if 1 ≤ q.fn ∧ q.fn ≤ 4 then decide (0 ≤ q.addr) && decide (1 ≤ q.qty) && decide (q.qty ≤ limI q.fn) && decide (q.addr ≤ 65536 - q.qty) && q.code == 0 && q.obj == 0
  else if q.fn = 17 then q.addr == 0 && q.qty == 0 && q.code == 0 && q.obj == 0
  else if q.fn = 43 then q.addr == 0 && q.qty == 0 && decide (1 ≤ q.code) && decide (q.code ≤ 3) && decide (0 ≤ q.obj) && decide (q.obj ≤ 255)
  else false
theorem limI_bd (f : Int) : 0 ≤ limI f ∧ limI f ≤ 2000 := by unfold limI; repeat' split <;> omega
set_option maxHeartbeats 800000 in
theorem rlimit_any (f : Int) (w : World) :
    Calls Tryz.prog 113 #[.int .i64 f] w fun r w' => r = .returned (.int .i64 (limI f)) ∧ w = w' := by
  rcases tbl_cases f with h | ⟨h0, h1, h2, h3, h4⟩
  · rcases h with rfl | rfl | rfl | rfl
    all_goals
      go_enter Tryz.func113, Tryz.ntmps113
      go_wp2
      go_ret
      exact ⟨rfl, rfl⟩
  · have hl : limI f = 0 := by
      rw [beq_eq_false_iff_ne] at h1 h2 h3 h4
      unfold limI
      rw [if_neg (by omega), if_neg (by omega)]
    replace hl := hid hl
    go_enter Tryz.func113, Tryz.ntmps113
    go_wp2
    go_ret
    exact ⟨by rw [hl.out]; rfl, rfl⟩
set_option maxRecDepth 100000 in
set_option maxHeartbeats 3200000 in
theorem rqvalid_tab (f a q c o : Int) (h1 : 1 ≤ f) (h4 : f ≤ 4) (w : World) :
    Calls Tryz.prog 115 #[.agg #[.int .i64 f, .int .i64 a, .int .i64 q, .int .i64 c, .int .i64 o]] w fun r w' => r = .returned (.bool (Rq.ok ⟨f, a, q, c, o⟩)) ∧ Below w.heap.size w w' := by
  obtain ⟨L, hL⟩ : ∃ L, limI f = L := ⟨_, rfl⟩
  have hL2 : L ≤ 2000 := by rw [← hL]; exact (limI_bd f).2
  have HLM : Hid (∀ W, Calls Tryz.prog 113 #[.int .i64 f] W fun r w' => r = .returned (.int .i64 L) ∧ W = w') := fun W => by rw [← hL]; exact rlimit_any f W
  obtain ⟨V, hV⟩ : ∃ V, Rq.ok ⟨f, a, q, c, o⟩ = V := ⟨_, rfl⟩
  rw [hV]
  unfold Rq.ok at hV
  rw [if_pos ⟨h1, h4⟩] at hV
  simp only at hV
  rw [hL] at hV
  replace hV := hid hV
  have hbd : 1 ≤ q → q ≤ L → IntKind.i64.wrap (65536 - q) = 65536 - q := fun _ _ => IntWalk.i64_in _ (by omega)
  have HB : Hid (∀ X, Below w.heap.size w (w.alloc X)) := fun X => bal' w X
  have hf := (show f = 1 ∨ f = 2 ∨ f = 3 ∨ f = 4 by omega)
  clear hL h1 h4
  rcases (show ¬ 0 ≤ a ∨ (0 ≤ a ∧ ¬ 1 ≤ q) ∨ (0 ≤ a ∧ 1 ≤ q ∧ ¬ q ≤ L) ∨ (0 ≤ a ∧ 1 ≤ q ∧ q ≤ L ∧ ¬ a ≤ 65536 - q) ∨ (0 ≤ a ∧ 1 ≤ q ∧ q ≤ L ∧ a ≤ 65536 - q ∧ ¬ c = 0) ∨ (0 ≤ a ∧ 1 ≤ q ∧ q ≤ L ∧ a ≤ 65536 - q ∧ c = 0) by omega) with g1 | ⟨g1, g2⟩ | ⟨g1, g2, g3⟩ | ⟨g1, g2, g3, g4⟩ | ⟨g1, g2, g3, g4, g5⟩ | ⟨g1, g2, g3, g4, g5⟩
  · have d1 : decide (0 ≤ a) = false := decide_eq_false g1
    have e : V = false := by rw [← hV.out, d1]; simp
    clear hV hbd g1
    subst e
    rcases hf with rfl | rfl | rfl | rfl
    all_goals
      go_enter Tryz.func115, Tryz.ntmps115
      go_wp2_with fail; go_quiet ((go_at_call 113; exact Calls.quiet_of_same ((HLM.out _).mono fun _ _ h => ⟨h.1, h.2.symm⟩))); go_wp2; go_ret
      exact ⟨rfl, below_drewN (HB.out _) _⟩
  · have d1 : decide (0 ≤ a) = true := decide_eq_true g1
    have d2 : decide (1 ≤ q) = false := decide_eq_false g2
    have e : V = false := by rw [← hV.out, d2]; simp
    clear hV hbd g1 g2
    subst e
    rcases hf with rfl | rfl | rfl | rfl
    all_goals
      go_enter Tryz.func115, Tryz.ntmps115
      go_wp2_with fail; go_quiet ((go_at_call 113; exact Calls.quiet_of_same ((HLM.out _).mono fun _ _ h => ⟨h.1, h.2.symm⟩))); go_wp2; go_ret
      exact ⟨rfl, below_drewN (HB.out _) _⟩
  · have d1 : decide (0 ≤ a) = true := decide_eq_true g1
    have d2 : decide (1 ≤ q) = true := decide_eq_true g2
    have d3 : decide (q ≤ L) = false := decide_eq_false g3
    have e : V = false := by rw [← hV.out, d3]; simp
    clear hV hbd g1 g2 g3
    subst e
    rcases hf with rfl | rfl | rfl | rfl
    all_goals
      go_enter Tryz.func115, Tryz.ntmps115
      go_wp2_with fail; go_quiet ((go_at_call 113; exact Calls.quiet_of_same ((HLM.out _).mono fun _ _ h => ⟨h.1, h.2.symm⟩))); go_wp2; go_ret
      exact ⟨rfl, below_drewN (HB.out _) _⟩
  · have d1 : decide (0 ≤ a) = true := decide_eq_true g1
    have d2 : decide (1 ≤ q) = true := decide_eq_true g2
    have d3 : decide (q ≤ L) = true := decide_eq_true g3
    have d4 : decide (a ≤ 65536 - q) = false := decide_eq_false g4
    have w4 := hbd g2 g3
    have e : V = false := by rw [← hV.out, d4]; simp
    clear hV hbd g1 g2 g3 g4
    subst e
    rcases hf with rfl | rfl | rfl | rfl
    all_goals
      go_enter Tryz.func115, Tryz.ntmps115
      go_wp2_with fail; go_quiet ((go_at_call 113; exact Calls.quiet_of_same ((HLM.out _).mono fun _ _ h => ⟨h.1, h.2.symm⟩))); go_wp2; go_ret
      exact ⟨rfl, below_drewN (HB.out _) _⟩
  · have d1 : decide (0 ≤ a) = true := decide_eq_true g1
    have d2 : decide (1 ≤ q) = true := decide_eq_true g2
    have d3 : decide (q ≤ L) = true := decide_eq_true g3
    have d4 : decide (a ≤ 65536 - q) = true := decide_eq_true g4
    have d5 : (c == 0) = false := by simpa using g5
    have w4 := hbd g2 g3
    have e : V = false := by rw [← hV.out, d5]; simp
    clear hV hbd g1 g2 g3 g4 g5
    subst e
    rcases hf with rfl | rfl | rfl | rfl
    all_goals
      go_enter Tryz.func115, Tryz.ntmps115
      go_wp2_with fail; go_quiet ((go_at_call 113; exact Calls.quiet_of_same ((HLM.out _).mono fun _ _ h => ⟨h.1, h.2.symm⟩))); go_wp2; go_ret
      exact ⟨rfl, below_drewN (HB.out _) _⟩
  · subst g5
    have d1 : decide (0 ≤ a) = true := decide_eq_true g1
    have d2 : decide (1 ≤ q) = true := decide_eq_true g2
    have d3 : decide (q ≤ L) = true := decide_eq_true g3
    have d4 : decide (a ≤ 65536 - q) = true := decide_eq_true g4
    have w4 := hbd g2 g3
    have e : (o == 0) = V := by rw [← hV.out, d1, d2, d3, d4]; simp
    have e' := hid e
    clear hV hbd g1 g2 g3 g4 e
    rcases hf with rfl | rfl | rfl | rfl
    all_goals
      go_enter Tryz.func115, Tryz.ntmps115
      go_wp2_with fail; go_quiet ((go_at_call 113; exact Calls.quiet_of_same ((HLM.out _).mono fun _ _ h => ⟨h.1, h.2.symm⟩))); go_wp2; go_ret
      exact ⟨ret_bool e'.out, below_drewN (HB.out _) _⟩
set_option maxRecDepth 100000 in
set_option maxHeartbeats 3200000 in
theorem rqvalid_any (f a q c o : Int) (w : World) :
    Calls Tryz.prog 115 #[.agg #[.int .i64 f, .int .i64 a, .int .i64 q, .int .i64 c, .int .i64 o]] w fun r w' => r = .returned (.bool (Rq.ok ⟨f, a, q, c, o⟩)) ∧ Below w.heap.size w w' := by
  by_cases h : 1 ≤ f ∧ f ≤ 4
  · exact rqvalid_tab f a q c o h.1 h.2 w
  · obtain ⟨V, hV⟩ : ∃ V, Rq.ok ⟨f, a, q, c, o⟩ = V := ⟨_, rfl⟩
    rw [hV]
    unfold Rq.ok at hV
    rw [if_neg h] at hV
    simp only at hV
    have HB : Hid (∀ X, Below w.heap.size w (w.alloc X)) := fun X => bal' w X
    by_cases h17 : f = 17
    · subst h17
      rw [if_pos rfl] at hV
      replace hV := hid hV
      clear h
      go_enter Tryz.func115, Tryz.ntmps115
      go_wp2
      all_goals
        go_ret
        refine ⟨ret_bool ?_, HB.out _⟩
        rw [← hV.out]
        first | rfl | (rw [Bool.eq_iff_iff]; simp; done) | (rw [Bool.eq_iff_iff]; simp; omega)
    · rw [if_neg h17] at hV
      by_cases h43 : f = 43
      · subst h43
        rw [if_pos rfl] at hV
        replace hV := hid hV
        clear h h17
        go_enter Tryz.func115, Tryz.ntmps115
        go_wp2
        all_goals
          go_ret
          refine ⟨ret_bool ?_, HB.out _⟩
          rw [← hV.out]
          first | rfl | (rw [Bool.eq_iff_iff]; simp [*]; done) | (rw [Bool.eq_iff_iff]; simp; omega)
      · rw [if_neg h43] at hV
        subst hV
        have k1 : (f == 1) = false := by rw [beq_eq_false_iff_ne]; omega
        have k2 : (f == 2) = false := by rw [beq_eq_false_iff_ne]; omega
        have k3 : (f == 3) = false := by rw [beq_eq_false_iff_ne]; omega
        have k4 : (f == 4) = false := by rw [beq_eq_false_iff_ne]; omega
        have k5 : (f == 17) = false := by rw [beq_eq_false_iff_ne]; omega
        have k6 : (f == 43) = false := by rw [beq_eq_false_iff_ne]; omega
        clear h h17 h43
        go_enter Tryz.func115, Tryz.ntmps115
        go_wp2
        go_ret
        exact ⟨rfl, HB.out _⟩
end Go.Proofs.YtipnamoocemeeaaGreat
