/-
  Texts 3 of the claim.
-/
import Derived.Test.YtipnamoocemeeaaGreatC02
import Derived.Deep.DeepCutAuto
import Derived.Deep.QuietTactic
import Derived.BigQuiet
/-
  Several texts of this claim in one file.
-/
/-
The contracts of the reference's ValidReply and of what it calls.
-/
namespace Go.Proofs.YtipnamoocemeeaaGreat
open Go.RowKit
/-- A slice of objects, opened: its elements one by one. -/
theorem Obs.open_ {w : World} {v : Value} {l : List Ob} (h : Obs w v l) :
    ∃ a n c, v = .slice a n c ∧ l.length = n ∧ n ≤ 9223372036854775807 ∧ n ≤ c ∧ c ≤ 9223372036854775807 ∧
      ∀ (k : Nat) (x : Ob), l[k]? = some x → ∃ b o xa xc, a = some ⟨b, o, none⟩ ∧ w.cell? ⟨b, o + k * 2, none⟩ = some (.int .i64 x.id) ∧ w.cell? ⟨b, o + k * 2 + 1, none⟩ = some (.slice xa x.val.length xc) ∧ Bs w (.slice xa x.val.length xc) x.val := by
  obtain ⟨a, c, hv, h1, h2, h3, h4⟩ := h
  unfold maxLen at h2
  refine ⟨a, l.length, c, hv, rfl, by omega, h1, h2, fun k x hx => ?_⟩
  obtain ⟨b, o, ha, hc⟩ := h4 (by rintro rfl; simp at hx)
  obtain ⟨c1, vv, c2, hb⟩ := hc k x hx
  obtain ⟨xa, xc, rfl, _⟩ := id hb
  exact ⟨b, o, xa, xc, ha, c1, c2, hb⟩

theorem get_some {α : Type} {l : List α} {k n : Nat} (h : l.length = n) (hk : k < n) : ∃ x, l[k]? = some x := ⟨l[k], List.getElem?_eq_getElem (by omega)⟩

end Go.Proofs.YtipnamoocemeeaaGreat

/-
The contracts of the reference's comparisons of replies and outcomes, and of the cuts.
-/
namespace Go.Proofs.YtipnamoocemeeaaGreat
open Go.RowKit

theorem sameObs_len : ∀ (a b : List Ob), sameObs a b = true → a.length = b.length
  | [], [], _ => rfl
  | x :: a, y :: b, h => by
    simp only [sameObs, Bool.and_eq_true] at h
    simp [sameObs_len a b h.2]
  | [], _ :: _, h => by simp [sameObs] at h
  | _ :: _, [], h => by simp [sameObs] at h
theorem sameObs_get : ∀ (a b : List Ob) (k : Nat) (x y : Ob), sameObs a b = true → a[k]? = some x → b[k]? = some y → x.same y = true
  | [], _, k, x, y, _, h, _ => by simp at h
  | _ :: _, [], k, x, y, _, _, h => by simp at h
  | u :: a, v :: b, 0, x, y, h, h1, h2 => by
    simp only [sameObs, Bool.and_eq_true] at h
    simp at h1 h2
    subst h1; subst h2
    exact h.1
  | u :: a, v :: b, k + 1, x, y, h, h1, h2 => by
    simp only [sameObs, Bool.and_eq_true] at h
    exact sameObs_get a b k x y h.2 (by simpa using h1) (by simpa using h2)
theorem sameObs_all : ∀ (a b : List Ob), a.length = b.length → (∀ (k : Nat) (x y : Ob), a[k]? = some x → b[k]? = some y → x.same y = true) → sameObs a b = true
  | [], [], _, _ => rfl
  | x :: a, y :: b, h, hk => by
    simp only [sameObs, Bool.and_eq_true]
    exact ⟨hk 0 x y rfl rfl, sameObs_all a b (by simpa using h) (fun k x y h1 h2 => hk (k + 1) x y (by simpa using h1) (by simpa using h2))⟩
  | [], _ :: _, h, _ => by simp at h
  | _ :: _, [], h, _ => by simp at h
theorem sameObs_no {a b : List Ob} {k : Nat} {x y : Ob} (h1 : a[k]? = some x) (h2 : b[k]? = some y) (h : x.same y = false) : sameObs a b = false := by
  cases hx : sameObs a b with
  | false => rfl
  | true => rw [sameObs_get a b k x y hx h1 h2] at h; cases h
theorem sameObs_nolen {a b : List Ob} (h : ¬ a.length = b.length) : sameObs a b = false := by
  cases hx : sameObs a b with
  | false => rfl
  | true => exact absurd (sameObs_len a b hx) h

set_option maxRecDepth 100000 in
set_option maxHeartbeats 3200000 in
theorem sameObjects_any (v1 v2 : Value) (l1 l2 : List Ob) (w : World) (h1 : Obs w v1 l1) (h2 : Obs w v2 l2) (V : Bool) (hV : Hid (sameObs l1 l2 = V)) :
    Calls Tryz.prog 90 #[v1, v2] w fun r w' => r = .returned (.bool V) ∧ Below w.heap.size w w' := by
  obtain ⟨a1, n1, c1, rfl, hl1, hn1, hnc1, hcm1, hel1⟩ := h1.open_
  obtain ⟨a2, n2, c2, rfl, hl2, hn2, hnc2, hcm2, hel2⟩ := h2.open_
  clear h1 h2
  replace hel1 := hid hel1
  replace hel2 := hid hel2
  have ss : Hid (∀ (W : World) (v : Value) (l : List UInt8), Bs W v l → (convert 50 9 v).run Tryz.prog W = .ok (.string ⟨l.toArray⟩) W) := fun W v l h => run_str Tryz.underlying50 Tryz.underlying5 h _ Tryz.underlying9
  by_cases hnn : n1 = n2
  · subst hnn
    replace hl1 := hid hl1
    replace hl2 := hid hl2
    go_enter Tryz.func90, Tryz.ntmps90
    go_wp2
    go_loopw [5] (fun i wr => ∃ k : Nat, k ≤ n1 ∧ i = .int .i64 k ∧ Hid (∀ (j : Nat) (x y : Ob), j < k → l1[j]? = some x → l2[j]? = some y → x.same y = true) ∧ Below w.heap.size w wr) (fun i _ => n1 - (intOf i).toNat)
    case atStart => exact ⟨0, Nat.zero_le _, rfl, fun j x y h => by omega, Below.refl _ _⟩
    case round =>
      obtain ⟨k, hk, rfl, hri, hbw⟩ := hrel
      by_cases hlt : k < n1
      · obtain ⟨x, hgx⟩ := get_some hl1.out hlt
        obtain ⟨y, hgy⟩ := get_some hl2.out hlt
        obtain ⟨b1, o1, xa, xc, rfl, d1, e1, q1⟩ := hel1.out k x hgx
        obtain ⟨b2, o2, ya, yc, rfl, d2, e2, q2⟩ := hel2.out k y hgy
        replace d1 := cell_keep hbw d1
        replace d2 := cell_keep hbw d2
        replace e1 := cell_keep hbw e1
        replace e2 := cell_keep hbw e2
        replace q1 := q1.keep hbw
        replace q2 := q2.keep hbw
        have s1 : ∀ n, (convert 50 9 (.slice xa x.val.length xc)).run Tryz.prog (wr.drewN n) = .ok (.string ⟨x.val.toArray⟩) (wr.drewN n) := fun n => ss.out (wr.drewN n) _ _ q1
        have s2 : ∀ n, (convert 50 9 (.slice ya y.val.length yc)).run Tryz.prog (wr.drewN n) = .ok (.string ⟨y.val.toArray⟩) (wr.drewN n) := fun n => ss.out (wr.drewN n) _ _ q2
        have HNO := hid (sameObs_no hgx hgy)
        have HSM : Hid (x.same y = (x.id == y.id && x.val == y.val)) := rfl
        have HST := hid (show x.same y = true → ∀ (j : Nat) (u v : Ob), j < k + 1 → l1[j]? = some u → l2[j]? = some v → u.same v = true from fun hs j u v hj hu hv => by
          by_cases hjk : j = k
          · subst hjk
            rw [hgx] at hu
            rw [hgy] at hv
            cases hu; cases hv
            exact hs
          · exact hri.out j u v (by omega) hu hv)
        clear hgx hgy q1 q2 hri
        have hki : (0 : Int) ≤ (k : Int) := Int.natCast_nonneg _
        have hkl : (k : Int) < (n1 : Int) := by omega
        by_cases hid1 : x.id = y.id
        · by_cases hval : x.val = y.val
          · have HT := hid (HST.out (by rw [HSM.out]; simp only [hid1, hval, beq_self_eq_true, Bool.and_self]))
            have t1 : (x.id != y.id) = false := by rw [hid1]; simp
            have t2 : (x.val == y.val) = true := by simpa using hval
            replace hid1 := hid hid1
            replace hval := hid hval
            go_wp2
            go_quiet (fail)
            go_wp2
            go_roundw
            case rel => exact ⟨k + 1, by omega, by go_num, HT.out, below_drewN hbw _⟩
            case measure => simp [intOf]; omega
          · have HF := hid (HNO.out (by rw [HSM.out, hid1]; simp [hval]))
            have t1 : (x.id != y.id) = false := by rw [hid1]; simp
            have t2 : (x.val == y.val) = false := by simpa using hval
            replace hid1 := hid hid1
            replace hval := hid hval
            go_wp2
            go_quiet (fail)
            go_wp2
            go_ret
            exact ⟨by rw [← hV.out, HF.out]; rfl, below_drewN hbw _⟩
        · have HF := hid (HNO.out (by rw [HSM.out]; simp [hid1]))
          have t1 : (x.id != y.id) = true := by simpa using hid1
          replace hid1 := hid hid1
          go_wp2
          go_quiet (fail)
          go_wp2
          go_ret
          exact ⟨by rw [← hV.out, HF.out]; rfl, below_drewN hbw _⟩
      · obtain rfl : k = n1 := by omega
        have HF : Hid (sameObs l1 l2 = true) := sameObs_all l1 l2 (by rw [hl1.out, hl2.out]) fun j x y hx hy => hri.out j x y (by have := (List.getElem?_eq_some_iff.1 hx).1; have := hl1.out; omega) hx hy
        go_wp2
        go_ret
        exact ⟨by rw [← hV.out, HF.out]; rfl, hbw⟩
  · have HF := hid (sameObs_nolen (a := l1) (b := l2) (by rw [hl1, hl2]; exact hnn))
    have t1 : ((n1 : Int) != (n2 : Int)) = true := by rw [bne_iff_ne]; omega
    have t2 : ((n1 : Int) == (n2 : Int)) = false := by rw [beq_eq_false_iff_ne]; omega
    go_enter Tryz.func90, Tryz.ntmps90
    go_wp2
    go_ret
    exact ⟨by rw [← hV.out, HF.out]; rfl, Below.refl _ _⟩

end Go.Proofs.YtipnamoocemeeaaGreat

/-
The contracts of the reference's comparisons of replies and outcomes, of the cuts, and of Strip.
-/
namespace Go.Proofs.YtipnamoocemeeaaGreat
open Go.RowKit

set_option maxRecDepth 100000 in
set_option maxHeartbeats 3200000 in
theorem same_any (f1 x1 : Int) (dv1 : Value) (c1 l1 : Int) (m1 : Bool) (n1 : Int) (ov1 : Value) (d1 : List UInt8) (o1 : List Ob) (f2 x2 : Int) (dv2 : Value) (c2 l2 : Int) (m2 : Bool) (n2 : Int) (ov2 : Value) (d2 : List UInt8) (o2 : List Ob) (w : World)
    (hd1 : Bs w dv1 d1) (ho1 : Obs w ov1 o1) (hd2 : Bs w dv2 d2) (ho2 : Obs w ov2 o2) (V : Bool) (hV : Hid (Rp.same ⟨f1, x1, d1, c1, l1, m1, n1, o1⟩ ⟨f2, x2, d2, c2, l2, m2, n2, o2⟩ = V)) :
    Calls Tryz.prog 59 #[.agg #[.int .i64 f1, .int .i64 x1, dv1, .int .i64 c1, .int .i64 l1, .bool m1, .int .i64 n1, ov1], .agg #[.int .i64 f2, .int .i64 x2, dv2, .int .i64 c2, .int .i64 l2, .bool m2, .int .i64 n2, ov2]] w fun r w' => r = .returned (.bool V) ∧ Below w.heap.size w w' := by
  have ss : Hid (∀ (W : World) (v : Value) (l : List UInt8), Bs W v l → (convert 50 9 v).run Tryz.prog W = .ok (.string ⟨l.toArray⟩) W) := fun W v l h => run_str Tryz.underlying50 Tryz.underlying5 h _ Tryz.underlying9
  have HD1 := hid hd1
  have HD2 := hid hd2
  have HO1 := hid ho1
  have HO2 := hid ho2
  have HS : Hid (Rp.same ⟨f1, x1, d1, c1, l1, m1, n1, o1⟩ ⟨f2, x2, d2, c2, l2, m2, n2, o2⟩ = (f1 == f2 && x1 == x2 && d1 == d2 && c1 == c2 && l1 == l2 && m1 == m2 && n1 == n2 && sameObs o1 o2)) := rfl
  have hV2 : Hid ((f1 == f2 && x1 == x2 && d1 == d2 && c1 == c2 && l1 == l2 && m1 == m2 && n1 == n2 && sameObs o1 o2) = V) := HS.out ▸ hV.out
  clear HS hV
  have B2 : ∀ X Y : Obj, Below w.heap.size w ((w.alloc X).alloc Y) := fun X Y => (bal' w X).alloc (by simp) Y
  replace B2 := hid B2
  have hconv : ∀ X Y : Obj, (convert 50 9 dv1).run Tryz.prog ((w.alloc X).alloc Y) = .ok (.string ⟨d1.toArray⟩) ((w.alloc X).alloc Y) := fun X Y => ss.out _ _ _ (HD1.out.keep (B2.out X Y))
  have hconv2 : ∀ X Y : Obj, (convert 50 9 dv2).run Tryz.prog ((w.alloc X).alloc Y) = .ok (.string ⟨d2.toArray⟩) ((w.alloc X).alloc Y) := fun X Y => ss.out _ _ _ (HD2.out.keep (B2.out X Y))
  have HSO : Hid (∀ X Y : Obj, Calls Tryz.prog 90 #[ov1, ov2] ((w.alloc X).alloc Y) fun r w' => r = .returned (.bool (sameObs o1 o2)) ∧ Below ((w.alloc X).alloc Y).heap.size ((w.alloc X).alloc Y) w') := fun X Y => sameObjects_any _ _ o1 o2 _ (HO1.out.keep (B2.out X Y)) (HO2.out.keep (B2.out X Y)) _ rfl
  clear hd1 hd2 ho1 ho2
  generalize sameObs o1 o2 = so at *
  go_enter Tryz.func59, Tryz.ntmps59
  go_wp2_with (first | (go_at_call 90; (with_reducible refine (HSO.out _ _).mono ?_); rintro r w1 ⟨rfl, hb1⟩))
  all_goals
    go_ret
    refine ⟨ret_bool ?_, by first | exact B2.out _ _ | exact bt (B2.out _ _) (by assumption) (Nat.le_refl _)⟩
    rw [← hV2.out]
    first | (simp [*]; done) | rfl

end Go.Proofs.YtipnamoocemeeaaGreat

/-
  Requests: the plain rule, and the contracts of the reference's Limit and Valid and of the helper Make.
-/
namespace Go.Proofs.YtipnamoocemeeaaGreat
open Go.RowKit

structure Rq where
  fn : Int
  addr : Int
  qty : Int
  code : Int
  obj : Int

def Rq.ok (q : Rq) : Bool :=
  if 1 ≤ q.fn ∧ q.fn ≤ 4 then decide (0 ≤ q.addr) && decide (1 ≤ q.qty) && decide (q.qty ≤ limI q.fn) && decide (q.addr ≤ 65536 - q.qty) && q.code == 0 && q.obj == 0
  else if q.fn = 17 then q.addr == 0 && q.qty == 0 && q.code == 0 && q.obj == 0
  else if q.fn = 43 then q.addr == 0 && q.qty == 0 && decide (1 ≤ q.code) && decide (q.code ≤ 3) && decide (0 ≤ q.obj) && decide (q.obj ≤ 255)
  else false

theorem limI_bd (f : Int) : 0 ≤ limI f ∧ limI f ≤ 2000 := by unfold limI; repeat' split <;> omega

end Go.Proofs.YtipnamoocemeeaaGreat
