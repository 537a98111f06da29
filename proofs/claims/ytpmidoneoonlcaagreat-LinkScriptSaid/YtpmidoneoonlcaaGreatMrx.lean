/-
  Several texts of this claim in one file.
-/
import Derived.Test.YtpmidoneoonlcaaGreatTim
import Derived.Deep.OwnRows
import Derived.Deep.QuietTactic
import Derived.BigQuiet
import Derived.Test.YtpmidoneoonlcaaGreatMlk
import Derived.Deep.RegionLaw
import Derived.Deep.RegionHeld3
/-
The reference's settings and times at a valid setting.
-/
namespace Go.Proofs.YtpmidoneoonlcaaGreat
open Go.RowKit

set_option maxRecDepth 100000 in
set_option maxHeartbeats 800000 in
theorem rbauds_any (w : World) : Calls Tryz.prog 19 #[] w fun r w' => (∃ b c, r = .returned (.slice (some ⟨b, 0, none⟩) 8 c) ∧ 8 ≤ c ∧ ∀ i, i < 8 → w'.cell? ⟨b, i, none⟩ = some (.int .i64 (baudL.getD i 0))) ∧ Below w.heap.size w w' := by
  go_enter Tryz.func19, Tryz.ntmps19
  go_wp2
  go_ret
  refine ⟨⟨w.heap.size, _, rfl, Nat.le_refl _, fun i hi => ?_⟩, bal' w _⟩
  rw [hpCell (hpNew w _)]
  rcases (show i = 0 ∨ i = 1 ∨ i = 2 ∨ i = 3 ∨ i = 4 ∨ i = 5 ∨ i = 6 ∨ i = 7 by omega) with rfl | rfl | rfl | rfl | rfl | rfl | rfl | rfl <;> rfl

/-- All valid settings. -/
def allS : List (Int × Int) := baudL.flatMap fun b => [(b, 0), (b, 1), (b, 2)]
def setV : List (Int × Int) → List Value
  | [] => []
  | x :: l => .int .i64 x.1 :: .int .i64 x.2 :: setV l
theorem setV_append (l k : List (Int × Int)) : setV (l ++ k) = setV l ++ setV k := by
  induction l with
  | nil => rfl
  | cons x l ih => simp [setV, ih]
theorem setV_length (l : List (Int × Int)) : (setV l).length = l.length * 2 := by
  induction l with
  | nil => rfl
  | cons x l ih => simp [setV, ih]; omega
theorem setV_get : ∀ (l : List (Int × Int)) (i : Nat) (x : Int × Int), l[i]? = some x → (setV l)[i * 2]? = some (.int .i64 x.1) ∧ (setV l)[i * 2 + 1]? = some (.int .i64 x.2)
  | [], i, x, h => by simp at h
  | y :: l, 0, x, h => by
    simp at h
    subst h
    exact ⟨rfl, rfl⟩
  | y :: l, i + 1, x, h => by
    have := setV_get l i x (by simpa using h)
    rw [show (i + 1) * 2 = i * 2 + 2 by omega]
    exact this
theorem allS_len : allS.length = 24 := by decide
theorem allS_step : ∀ k, k < 8 → ∀ q, q < 3 → allS.take (3 * k + q + 1) = allS.take (3 * k + q) ++ [(baudL.getD k 0, (q : Int))] := by decide
theorem allS_ok {x : Int × Int} (h : x ∈ allS) : Okset x.1 x.2 := by
  have h2 : ∀ x ∈ allS, x.1 ∈ baudL ∧ 0 ≤ x.2 ∧ x.2 ≤ 2 := by decide
  exact ⟨(h2 x h).1, (h2 x h).2.1, (h2 x h).2.2⟩
theorem allS_mem {b p : Int} (h : Okset b p) : (b, p) ∈ allS := by
  have h1 := h.mem
  have hp : p = 0 ∨ p = 1 ∨ p = 2 := by have := h.lo; have := h.hi; omega
  simp [baudL] at h1
  rcases h1 with rfl | rfl | rfl | rfl | rfl | rfl | rfl | rfl <;> rcases hp with rfl | rfl | rfl <;> decide

theorem infoS : (Tryz.prog.info? 24).map (fun i => (i.zero, i.size, i.bytes)) = some (some (.agg #[.int .i64 0, .int .i64 0]), 2, 16) := by kernel_rfl

def AllPost (w : World) (r : Ending) (w' : World) : Prop := ∃ v, r = .returned v ∧ w'.ownsRow w.heap.size 24 2 v 24 (setV allS) ∧ Below w.heap.size w w'

set_option maxRecDepth 100000 in
set_option maxHeartbeats 3200000 in
theorem rall_any (w : World) : Calls Tryz.prog 4 #[] w (AllPost w) := by
  obtain ⟨i5, hi, hz0, hz1, hz2⟩ := info_parts infoS
  go_enter Tryz.func4, Tryz.ntmps4
  go_wp2_with fail
  refine (rbauds_any w).mono ?_
  rintro r w1 ⟨⟨b, c, rfl, hc8, hcell⟩, hb1⟩
  have HC := hid hcell
  clear hcell
  have hs1 := hb1.size
  go_wp2
  go_loopw [1, 3, 4] (fun v i _ wr => ∃ k : Nat, k ≤ 8 ∧ i = .int .i64 k ∧ wr.ownsRow w1.heap.size 24 2 v (3 * k) (setV (allS.take (3 * k))) ∧ Below w1.heap.size w1 wr) (fun _ i _ _ => 8 - (intOf i).toNat)
  case atStart => exact ⟨0, by omega, rfl, World.ownsRow_nil _ _ _ _, Below.refl _ _⟩
  case round =>
    obtain ⟨k, hk, rfl, hown, hbr⟩ := hrel
    by_cases hlt : k < 8
    · have hkl : (k : Int) < 8 := by omega
      have HO := hid hown
      clear hown
      obtain ⟨wo, rfl⟩ : ∃ wo : World, wo = wr := ⟨_, rfl⟩
      go_wp2
      go_loopw [1, 4] (fun v q wr => ∃ j : Nat, j ≤ 3 ∧ q = .int .i64 j ∧ wr.ownsRow w1.heap.size 24 2 v (3 * k + j) (setV (allS.take (3 * k + j))) ∧ Below w1.heap.size w1 wr) (fun _ q _ => 3 - (intOf q).toNat)
      case atStart => exact ⟨0, by omega, rfl, HO.out, hbr⟩
      case round =>
        obtain ⟨j, hj, rfl, hown, hbj⟩ := hrel
        by_cases hjt : j < 3
        · have hjl : (j : Int) < 3 := by omega
          have hcb := cell_keep hbj (HC.out k hlt)
          have HS := hid (allS_step k hlt j hjt)
          have hsz := hbj.size
          generalize hE : baudL.getD k 0 = bd at *
          go_wp2_with (at_builtin; refine wpList_appN rfl _ _ 25 rfl w1.heap.size 24 i5 _ 2 16 Tryz.underlying25 hi hz0 hz1 hz2 rfl (by decide) _ (3 * k + j) _ rfl (hown.alloc _) ⟨wr.heap.size, 0, none⟩ 1 1 [.int .i64 bd, .int .i64 (j : Int)] rfl rfl (newsNew wr [.int .i64 bd, .int .i64 (j : Int)] _) (by intro u hu; simp at hu; rcases hu with rfl | rfl <;> rfl) (by unfold maxLen; omega) (by omega) (by simp; omega) ?c1)
          case c1 =>
            intro v' w2 hown2 hgr _
            have hbel : Below w1.heap.size w1 w2 := (bta hbj (Nat.le_refl _) _).grown hgr (bta hbj (Nat.le_refl _) _).size (fun k hk => (hown.lt k hk).1)
            have HO2 : Hid (w2.ownsRow w1.heap.size 24 2 v' (3 * k + (j + 1)) (setV (allS.take (3 * k + (j + 1))))) := by
              rw [← Nat.add_assoc, HS.out, setV_append]
              exact hown2
            clear hown2 hgr
            go_wp2
            go_roundw
            case rel => exact ⟨j + 1, by omega, by go_num, HO2.out, hbel⟩
            case measure => simp [intOf]; omega
        · obtain rfl : j = 3 := by omega
          have HO2 := hid hown
          clear hown
          go_wp2
          go_roundw
          case rel => exact ⟨k + 1, by omega, by go_num, HO2.out, hbj⟩
          case measure => simp [intOf]; omega
    · obtain rfl : k = 8 := by omega
      go_wp2
      go_ret
      refine ⟨_, rfl, own_lower hown hs1, bt hb1 hbr (Nat.le_refl _)⟩

/-- A row of settings, element by element. -/
theorem own_setting {w : World} {base : Nat} {E : TypeId} {v : Value} {n : Nat} {l : List (Int × Int)} (h : w.ownsRow base E 2 v n (setV l)) (hl : l ≠ []) : ∃ g c, v = .slice (some ⟨g, 0, none⟩) n c ∧ n ≤ c ∧ c ≤ maxLen ∧ ∀ i x, l[i]? = some x → w.cell? ⟨g, i * 2, none⟩ = some (.int .i64 x.1) ∧ w.cell? ⟨g, i * 2 + 1, none⟩ = some (.int .i64 x.2) := by
  obtain ⟨hlen, h | ⟨g, cap, cur, hv, hb, hh, hnc, hcm, hcs, ht⟩⟩ := h
  · obtain ⟨rfl, h0⟩ := h
    rw [setV_length, h0] at hlen
    exact absurd (List.eq_nil_of_length_eq_zero (by omega)) hl
  · refine ⟨g, cap, hv, hnc, hcm, fun i x hx => ?_⟩
    have hi := (List.getElem?_eq_some_iff.1 hx).1
    have hs := setV_length l
    obtain ⟨h1, h2⟩ := setV_get l i x hx
    have hc : ∀ j, j < l.length * 2 → w.cell? ⟨g, j, none⟩ = (setV l)[j]? := by
      intro j hj
      have := take_get ht j (by omega)
      simp only [World.cell?, hh, Option.isSome_none]
      exact this
    exact ⟨by rw [hc _ (by omega)]; exact h1, by rw [hc _ (by omega)]; exact h2⟩

set_option maxRecDepth 100000 in
set_option maxHeartbeats 3200000 in
theorem rvalid_ok (b p : Int) (h : Hid (Okset b p)) (w : World) :
    Calls Tryz.prog 23 #[.agg #[.int .i64 b, .int .i64 p]] w fun r w' => r = .returned (.bool true) ∧ Below w.heap.size w w' := by
  have HM := hid (allS_mem h.out)
  go_enter Tryz.func23, Tryz.ntmps23
  go_wp2_with fail
  refine (rall_any _).mono ?_
  rintro r w1 ⟨v, rfl, hown, hb1⟩
  obtain ⟨g, c, rfl, hnc, hcm, hel⟩ := own_setting hown (by decide)
  have HE := hid hel
  have q0 := hpCell (hpKeep (hpNew w _) hb1) 0
  have q1 := hpCell (hpKeep (hpNew w _) hb1) 1
  unfold maxLen at hcm
  have hbw := bt (bal' w _) hb1 (Nat.le_refl _)
  clear hel hown hb1
  go_wp2
  go_loopw [4] (fun i wr => ∃ k : Nat, k ≤ 24 ∧ i = .int .i64 k ∧ Hid (∀ j, j < k → allS[j]? ≠ some (b, p)) ∧ ∃ n, wr = w1.drewN n) (fun i _ => 24 - (intOf i).toNat)
  case atStart => exact ⟨0, by omega, rfl, fun j hj => absurd hj (by omega), 0, rfl⟩
  case round =>
    obtain ⟨k, hk, rfl, hno, nd, rfl⟩ := hrel
    by_cases hlt : k < 24
    · have hkl : (k : Int) < 24 := by omega
      obtain ⟨x, hgx⟩ : ∃ x, allS[k]? = some x := ⟨_, List.getElem?_eq_getElem (show k < allS.length by rw [allS_len]; exact hlt)⟩
      obtain ⟨e0, e1⟩ := HE.out k x hgx
      have HG := hid hgx
      clear hgx
      obtain ⟨x1, x2⟩ := x
      by_cases hx : x1 = b ∧ x2 = p
      · obtain ⟨d1, d2⟩ : (x1 == b) = true ∧ (x2 == p) = true := ⟨by rw [beq_iff_eq]; exact hx.1, by rw [beq_iff_eq]; exact hx.2⟩
        clear hx
        go_wp2
        go_quiet (fail)
        go_wp2
        go_ret
        exact ⟨rfl, below_drewN (below_drewN hbw _) _⟩
      · have HN : Hid (∀ j, j < k + 1 → allS[j]? ≠ some (b, p)) := by
          intro j hj e
          by_cases hjk : j = k
          · subst hjk
            rw [HG.out] at e
            cases e
            exact hx ⟨rfl, rfl⟩
          · exact hno.out j (by omega) e
        rcases (show (x1 == b) = false ∨ ((x1 == b) = true ∧ (x2 == p) = false) by
          by_cases h1 : x1 = b
          · exact .inr ⟨by rw [beq_iff_eq]; exact h1, by rw [beq_eq_false_iff_ne]; exact fun h2 => hx ⟨h1, h2⟩⟩
          · exact .inl (by rw [beq_eq_false_iff_ne]; exact h1)) with d1 | ⟨d1, d2⟩
        all_goals
          clear hx
          go_wp2
          go_quiet (fail)
          go_wp2
          go_roundw
          case rel => exact ⟨k + 1, by omega, by go_num, HN, nd + nq, rfl⟩
          case measure => simp [intOf]; omega
    · exfalso
      obtain rfl : k = 24 := by omega
      obtain ⟨j, hj⟩ := List.getElem?_of_mem HM.out
      exact hno.out j (by have := (List.getElem?_eq_some_iff.1 hj).1; rw [allS_len] at this; exact this) hj

set_option maxHeartbeats 800000 in
theorem rup_any (a b : Int) (h1 : 1 ≤ b) (h2 : b ≤ 115200) (h3 : 0 ≤ a) (h4 : a ≤ 38500000) (w : World) :
    Calls Tryz.prog 63 #[.int .i64 a, .int .i64 b] w fun r w' => r = .returned (.int .i64 (upI a b)) ∧ w = w' := by
  go_enter Tryz.func63, Tryz.ntmps63
  go_wp2
  go_ret
  exact ⟨rfl, rfl⟩

set_option maxRecDepth 100000 in
set_option maxHeartbeats 800000 in
theorem rchar_ok (b p : Int) (h : Hid (Okset b p)) (w : World) :
    Calls Tryz.prog 37 #[.agg #[.int .i64 b, .int .i64 p]] w fun r w' => r = .returned (.int .i64 (charT b)) ∧ Below w.heap.size w w' := by
  have HU : Hid (∀ W, Calls Tryz.prog 63 #[.int .i64 11000000, .int .i64 b] W fun r w' => r = .returned (.int .i64 (charT b)) ∧ W = w') := fun W => rup_any _ b (by have := h.out.bd; omega) (by have := h.out.bd; omega) (by decide) (by decide) W
  go_enter Tryz.func37, Tryz.ntmps37
  go_wp2_with (first | (go_at_call 23; (with_reducible refine (rvalid_ok b p h _).mono ?_); rintro r w1 ⟨rfl, hb1⟩; have y0 := hpCell (hpKeep (hpNew w _) hb1) 0) | (go_at_call 63; (with_reducible refine (HU.out _).mono ?_); rintro r w2 ⟨rfl, rfl⟩))
  go_ret
  exact ⟨rfl, bt (bal' w _) hb1 (Nat.le_refl _)⟩

set_option maxRecDepth 100000 in
set_option maxHeartbeats 800000 in
theorem rt35_ok (b p : Int) (h : Hid (Okset b p)) (w : World) :
    Calls Tryz.prog 36 #[.agg #[.int .i64 b, .int .i64 p]] w fun r w' => r = .returned (.int .i64 (t35T b)) ∧ Below w.heap.size w w' := by
  by_cases hs : 19200 < b
  · have HT : Hid (t35T b = 1750) := if_pos hs
    go_enter Tryz.func36, Tryz.ntmps36
    go_wp2_with (first | (go_at_call 23; (with_reducible refine (rvalid_ok b p h _).mono ?_); rintro r w1 ⟨rfl, hb1⟩; have y0 := hpCell (hpKeep (hpNew w _) hb1) 0) | fail)
    go_ret
    exact ⟨by rw [HT.out]; rfl, bt (bal' w _) hb1 (Nat.le_refl _)⟩
  · have HT : Hid (t35T b = upI 38500000 b) := if_neg hs
    have HU : Hid (∀ W, Calls Tryz.prog 63 #[.int .i64 38500000, .int .i64 b] W fun r w' => r = .returned (.int .i64 (upI 38500000 b)) ∧ W = w') := fun W => rup_any _ b (by have := h.out.bd; omega) (by have := h.out.bd; omega) (by decide) (by decide) W
    go_enter Tryz.func36, Tryz.ntmps36
    go_wp2_with (first | (go_at_call 23; (with_reducible refine (rvalid_ok b p h _).mono ?_); rintro r w1 ⟨rfl, hb1⟩; have y0 := hpCell (hpKeep (hpNew w _) hb1) 0) | (go_at_call 63; (with_reducible refine (HU.out _).mono ?_); rintro r w2 ⟨rfl, rfl⟩))
    go_ret
    exact ⟨by rw [HT.out]; rfl, bt (bal' w _) hb1 (Nat.le_refl _)⟩

def frameT (b : Int) (n : Nat) : Int := n * charT b
end Go.Proofs.YtpmidoneoonlcaaGreat

/-
A receiver in memory, and the contracts of its small methods.
-/
namespace Go.Proofs.YtpmidoneoonlcaaGreat
open Go.RowKit

/-- What a receiver holds. -/
structure Rx where
  ch : Int
  t15 : Int
  t35 : Int
  bs : List UInt8
  f1 : Int
  f2 : Int
  fl : Int
  act : Bool
  la : Int
  id : Int

def Rx.cells (x : Rx) (a : Option Addr) (n c : Nat) : Array Value :=
  #[.int .i64 x.ch, .int .i64 x.t15, .int .i64 x.t35, .slice a n c, .int .i64 x.f1, .int .i64 x.f2, .int .i64 x.fl, .bool x.act, .int .i64 x.la, .int .i64 x.id]

/-- A receiver's block. -/
def RxAt (w : World) (g : Nat) (x : Rx) (a : Option Addr) (n c : Nat) : Prop := w.heap[g]? = some (.cells (x.cells a n c) 101)

theorem RxAt.keep {w w' : World} {g : Nat} {x : Rx} {a : Option Addr} {n c : Nat} (h : RxAt w g x a n c) (hb : Below w.heap.size w w') : RxAt w' g x a n c := hpKeep h hb
theorem RxAt.keeps {w w' : World} {F : Nat → Prop} {g : Nat} {x : Rx} {a : Option Addr} {n c : Nat} (h : RxAt w g x a n c) (hk : Keeps F w w') (hn : ¬ F g) : RxAt w' g x a n c := hpKeeps h hk hn
theorem RxAt.cell {w : World} {g : Nat} {x : Rx} {a : Option Addr} {n c : Nat} (h : RxAt w g x a n c) (i : Nat) : w.cell? ⟨g, i, none⟩ = (x.cells a n c)[i]? := hpCell h i
theorem RxAt.free {w : World} {g : Nat} {x : Rx} {a : Option Addr} {n c : Nat} (h : RxAt w g x a n c) (i : Nat) : w.frozen? ⟨g, i, none⟩ = false := hpFree h i
theorem RxAt.lt {w : World} {g : Nat} {x : Rx} {a : Option Addr} {n c : Nat} (h : RxAt w g x a n c) : g < w.heap.size := hpLt h

def Rx.empty (x : Rx) : Rx := { x with bs := [], f1 := 0, f2 := 0, fl := 0, act := false }

/-- What take leaves. -/
def RxTaken (w : World) (g : Nat) (x : Rx) (a : Option Addr) (n c : Nat) (r : Ending) (w' : World) : Prop :=
  r = .returned (.agg #[.slice a n c, .int .i64 x.f1, .int .i64 x.f2, .int .i64 x.fl]) ∧ RxAt w' g x.empty none 0 0 ∧ Keeps (· = g) w w'

set_option maxRecDepth 100000 in
set_option maxHeartbeats 3200000 in
theorem rxtake_any (g : Nat) (x : Rx) (a : Option Addr) (n c : Nat) (w : World) (hx : RxAt w g x a n c) :
    Calls Tryz.prog 64 #[.pointer (some ⟨g, 0, none⟩)] w (RxTaken w g x a n c) := by
  have hg := hx.lt
  have c3 : w.cell? ⟨g, 3, none⟩ = some (.slice a n c) := hx.cell 3
  have c4 : w.cell? ⟨g, 4, none⟩ = some (.int .i64 x.f1) := hx.cell 4
  have c5 : w.cell? ⟨g, 5, none⟩ = some (.int .i64 x.f2) := hx.cell 5
  have c6 : w.cell? ⟨g, 6, none⟩ = some (.int .i64 x.fl) := hx.cell 6
  have c7 : w.cell? ⟨g, 7, none⟩ = some (.bool x.act) := hx.cell 7
  have f3 : w.frozen? ⟨g, 3, none⟩ = false := hx.free 3
  have f4 : w.frozen? ⟨g, 4, none⟩ = false := hx.free 4
  have f5 : w.frozen? ⟨g, 5, none⟩ = false := hx.free 5
  have f6 : w.frozen? ⟨g, 6, none⟩ = false := hx.free 6
  have f7 : w.frozen? ⟨g, 7, none⟩ = false := hx.free 7
  have HX := hid hx
  clear hx
  go_enter Tryz.func64, Tryz.ntmps64
  go_wp2
  refine bodyPost_ret (v := .agg #[.slice a n c, .int .i64 x.f1, .int .i64 x.f2, .int .i64 x.fl]) (by simp [results, Tryz.results64, go_sem]) rfl ?_
  refine ⟨rfl, ?_, ?_⟩
  · refine RxAt.keep (RxAt.keep ?_ (bal' _ _)) (bal' _ _)
    refine hpSetE (c := #[.int .i64 x.ch, .int .i64 x.t15, .int .i64 x.t35, .slice none 0 0, .int .i64 0, .int .i64 0, .int .i64 0, .bool x.act, .int .i64 x.la, .int .i64 x.id]) ?_ rfl
    refine hpSetE (c := #[.int .i64 x.ch, .int .i64 x.t15, .int .i64 x.t35, .slice none 0 0, .int .i64 0, .int .i64 0, .int .i64 x.fl, .bool x.act, .int .i64 x.la, .int .i64 x.id]) ?_ rfl
    refine hpSetE (c := #[.int .i64 x.ch, .int .i64 x.t15, .int .i64 x.t35, .slice none 0 0, .int .i64 0, .int .i64 x.f2, .int .i64 x.fl, .bool x.act, .int .i64 x.la, .int .i64 x.id]) ?_ rfl
    refine hpSetE (c := #[.int .i64 x.ch, .int .i64 x.t15, .int .i64 x.t35, .slice none 0 0, .int .i64 x.f1, .int .i64 x.f2, .int .i64 x.fl, .bool x.act, .int .i64 x.la, .int .i64 x.id]) ?_ rfl
    exact hpSetE HX.out rfl
  · exact ((kset' (kset' (kset' (kset' (kset' (Keeps.refl _ _) _ _) _ _) _ _) _ _) _ _).trans (Keeps.of_below (bal' _ _)) (fun _ _ h => h)).trans (Keeps.of_below (bal' _ _)) (fun _ _ h => h)

/-- Where no frame is being received there is no deadline. -/
theorem rxdead_no (g : Nat) (x : Rx) (a : Option Addr) (n c : Nat) (w : World) (hx : RxAt w g x a n c) (ha : x.act = false) :
    Calls Tryz.prog 41 #[.pointer (some ⟨g, 0, none⟩)] w fun r w' => r = .returned (.tuple #[.int .i64 0, .bool false]) ∧ w = w' := by
  have c7 : w.cell? ⟨g, 7, none⟩ = some (.bool false) := by rw [hx.cell 7]; simp [Rx.cells, ha]
  clear hx ha
  go_enter Tryz.func41, Tryz.ntmps41
  go_wp2
  go_ret2
  exact ⟨rfl, rfl⟩

/-- The deadline of a frame that is being received. -/
theorem rxdead_yes (g : Nat) (x : Rx) (a : Option Addr) (n c : Nat) (w : World) (hx : RxAt w g x a n c) (ha : x.act = true) (h1 : 0 ≤ x.la) (h2 : x.la ≤ 1152921504606846976) (h3 : 0 ≤ x.t35) (h4 : x.t35 ≤ 40000) (h5 : 0 ≤ x.ch) (h6 : x.ch ≤ 40000) :
    Calls Tryz.prog 41 #[.pointer (some ⟨g, 0, none⟩)] w fun r w' => r = .returned (.tuple #[.int .i64 (x.la + x.t35 + x.ch), .bool true]) ∧ Below w.heap.size w w' := by
  have c7 : w.cell? ⟨g, 7, none⟩ = some (.bool true) := by rw [hx.cell 7]; simp [Rx.cells, ha]
  have c0 : w.cell? ⟨g, 0, none⟩ = some (.int .i64 x.ch) := hx.cell 0
  have c2 : w.cell? ⟨g, 2, none⟩ = some (.int .i64 x.t35) := hx.cell 2
  have c8 : w.cell? ⟨g, 8, none⟩ = some (.int .i64 x.la) := hx.cell 8
  have s1 : IntKind.i64.wrap (x.la + x.t35) = x.la + x.t35 := IntWalk.i64_in _ (by omega)
  have s2 : IntKind.i64.wrap (x.la + x.t35 + x.ch) = x.la + x.t35 + x.ch := IntWalk.i64_in _ (by omega)
  clear hx ha
  go_enter Tryz.func41, Tryz.ntmps41
  go_wp2
  go_quiet (fail)
  go_wp2
  go_ret2
  exact ⟨rfl, below_drewN (Below.refl _ _) _⟩

end Go.Proofs.YtpmidoneoonlcaaGreat

/-
The contract of a receiver's add.
-/
namespace Go.Proofs.YtpmidoneoonlcaaGreat
open Go.RowKit

def orI (a b : Int) : Int := bits .or .i64 a b
def andI (a b : Int) : Int := bits .and .i64 a b
def gapF (x : Rx) (sil : Int) : Int := if x.act = true ∧ x.t15 < sil then orI x.fl 4 else x.fl
def Rx.opened (x : Rx) (t sil : Int) : Rx := { x with act := true, f1 := if x.act = true then x.f1 else t, fl := gapF x sil }
def Rx.add (x : Rx) (t : Int) (v : UInt8) (fl sil : Int) : Rx :=
  { x with act := true, f1 := if x.act = true then x.f1 else t, f2 := t, la := t,
           bs := if x.bs.length < 256 then x.bs ++ [v] else x.bs,
           fl := orI (if x.bs.length < 256 then gapF x sil else orI (gapF x sil) 8) (andI fl 3) }

/-- What add leaves. -/
def RxAdded (w : World) (g : Nat) (base : Nat) (x y : Rx) (a : Option Addr) (c : Nat) (r : Ending) (w' : World) : Prop :=
  ∃ a' c', r = .returned (.tuple #[]) ∧ RxAt w' g y a' y.bs.length c' ∧ w'.ownsRow base 5 1 (.slice a' y.bs.length c') y.bs.length (u8s y.bs) ∧ NewOr w (.slice a x.bs.length c) (.slice a' y.bs.length c') ∧ Keeps (fun j => j = g ∨ (Value.slice a x.bs.length c).ownBlock = some j) w w'

theorem RxAdded.fin {w W : World} {g base : Nat} {x y : Rx} {a a' : Option Addr} {c c' : Nat} {v : UInt8} (hb : y.bs = x.bs ++ [v]) (h1 : RxAt W g y a' y.bs.length c')
    (h2 : W.ownsRow base 5 1 (.slice a' (x.bs.length + 1) c') (x.bs.length + 1) (u8s (x.bs ++ [v]))) (h3 : NewOr w (.slice a x.bs.length c) (.slice a' (x.bs.length + 1) c')) (h4 : Keeps (fun j => j = g ∨ (Value.slice a x.bs.length c).ownBlock = some j) w W) :
    RxAdded w g base x y a c (.returned (.tuple #[])) W := by
  have hl : y.bs.length = x.bs.length + 1 := by rw [hb]; simp
  refine ⟨a', c', rfl, h1, ?_, ?_, h4⟩
  · rw [hl, hb]; exact h2
  · rw [hl]; exact h3

set_option maxRecDepth 100000 in
set_option maxHeartbeats 6400000 in
theorem rxadd_short (g base : Nat) (x : Rx) (a : Option Addr) (c : Nat) (t : Int) (v : UInt8) (fl sil : Int) (w : World) (hx : RxAt w g x a x.bs.length c) (hown : w.ownsRow base 5 1 (.slice a x.bs.length c) x.bs.length (u8s x.bs)) (hg : g < base) (hb : base ≤ w.heap.size) (hn : x.bs.length < 256) :
    Calls Tryz.prog 65 #[.pointer (some ⟨g, 0, none⟩), .agg #[.int .i64 t, .int .u8 (v.toNat : Int), .int .i64 fl], .int .i64 sil] w (RxAdded w g base x (x.add t v fl sil) a c) := by
  obtain ⟨i5, hi, hz0, hz1, hz2⟩ := info_parts infoB
  have hgw : g < w.heap.size := hx.lt
  have HX := hid hx
  have OW := hid hown
  have HAP : Hid (∀ k, (Value.slice a x.bs.length c).ownBlock = some k → base ≤ k ∧ k < w.heap.size) := fun k h => hown.lt k h
  have HAD : Hid (∀ (W : World) a' c', RxAt W g { x.opened t sil with bs := x.bs ++ [v], fl := orI (gapF x sil) (andI fl 3), f2 := t, la := t } a' (x.bs.length + 1) c' → RxAt W g (x.add t v fl sil) a' (x.add t v fl sil).bs.length c') := by
    intro W a' c' h
    have e1 : x.add t v fl sil = { x.opened t sil with bs := x.bs ++ [v], fl := orI (gapF x sil) (andI fl 3), f2 := t, la := t } := by
      unfold Rx.add Rx.opened
      rw [if_pos hn, if_pos hn]
    rw [e1]
    have e2 : (x.bs ++ [v]).length = x.bs.length + 1 := by simp
    show RxAt W g _ a' (x.bs ++ [v]).length c'
    rw [e2]
    exact h
  have HAL : Hid ((x.add t v fl sil).bs = x.bs ++ [v]) := if_pos hn
  clear hx hown
  rcases (show x.act = false ∨ (x.act = true ∧ x.t15 < sil) ∨ (x.act = true ∧ ¬ x.t15 < sil) by
    cases x.act with
    | false => exact .inl rfl
    | true => by_cases h : x.t15 < sil
              · exact .inr (.inl ⟨rfl, h⟩)
              · exact .inr (.inr ⟨rfl, h⟩)) with h1 | ⟨h1, h2⟩ | ⟨h1, h2⟩
  · have ho : Hid (x.opened t sil = { x with act := true, f1 := t }) := by
      show _ = _
      unfold Rx.opened gapF
      rw [h1]
      simp
    have c7 : w.cell? ⟨g, 7, none⟩ = some (.bool false) := by rw [HX.out.cell 7]; simp [Rx.cells, h1]
    have c4 : w.cell? ⟨g, 4, none⟩ = some (.int .i64 x.f1) := RxAt.cell HX.out 4
    have c3 : w.cell? ⟨g, 3, none⟩ = some (.slice a x.bs.length c) := RxAt.cell HX.out 3
    have f4 : w.frozen? ⟨g, 4, none⟩ = false := RxAt.free HX.out 4
    have f7 : w.frozen? ⟨g, 7, none⟩ = false := RxAt.free HX.out 7
    have hn' : decide (x.bs.length < 256) = true := decide_eq_true hn
    clear h1
    go_enter Tryz.func65, Tryz.ntmps65
    go_upto_region 8 with (fail)
    obtain ⟨W1, hW1⟩ : ∃ W, W = World.alloc ((w.setCell ⟨g, 7, none⟩ (.bool true)).setCell ⟨g, 4, none⟩ (.int .i64 t)) (.cells #[.int .i64 t, .int .u8 (v.toNat : Int), .int .i64 fl] 37) := ⟨_, rfl⟩
    rw [← hW1]
    have lx : RxAt W1 g (x.opened t sil) a x.bs.length c := by rw [hW1, ho.out]; exact RxAt.keep (hpSetE (hpSetE HX.out rfl) rfl) (bal' _ _)
    have k1 : Keeps (· = g) w W1 := by rw [hW1]; exact (kset' (kset' (Keeps.refl _ _) _ _) _ _).trans (Keeps.of_below (bal' _ _)) (fun _ _ h => h)
    have p1 : W1.heap[w.heap.size]? = some (.cells #[.int .i64 t, .int .u8 (v.toNat : Int), .int .i64 fl] 37) := by rw [hW1]; have := hpNew ((w.setCell ⟨g, 7, none⟩ (.bool true)).setCell ⟨g, 4, none⟩ (.int .i64 t)) (.cells #[.int .i64 t, .int .u8 (v.toNat : Int), .int .i64 fl] 37); simpa using this
    clear c3 c4 c7 f4 f7
    have own1 := hid (own_keeps OW.out k1 (fun k hk e => by have h1 := (HAP.out k hk).1; have h2 : k = g := e; omega))
    have hs1 : w.heap.size < W1.heap.size := hpLt p1
    have c3 : W1.cell? ⟨g, 3, none⟩ = some (.slice a x.bs.length c) := lx.cell 3
    have cA3 : ∀ X, (W1.alloc X).cell? ⟨g, 3, none⟩ = some (.slice a x.bs.length c) := fun X => (lx.keep (bal' _ X)).cell 3
    have W3c : Hid ((W1.alloc (.cells #[.int .u8 (v.toNat : Int)] 5)).cell? ⟨g, 3, none⟩ = some (.slice a x.bs.length c)) := (lx.keep (bal' _ _)).cell 3
    have e1 : W1.cell? ⟨w.heap.size, 1, none⟩ = some (.int .u8 (v.toNat : Int)) := hpCell p1 1
    have hgo : Hid (some g ≠ (Value.slice a x.bs.length c).ownBlock) := fun h => by have := (HAP.out g h.symm).1; omega
    have hpo : Hid (some w.heap.size ≠ (Value.slice a x.bs.length c).ownBlock) := fun h => by have := (HAP.out _ h.symm).2; omega
    have hg1 : g < W1.heap.size := by omega
    have HB2 : Hid (∀ w2, (W1.alloc (.cells #[.int .u8 (v.toNat : Int)] 5)).drew.grownBy w2 (Value.slice a x.bs.length c).ownBlock → RxAt w2 g (x.opened t sil) a x.bs.length c ∧ w2.heap[w.heap.size]? = some (.cells #[.int .i64 t, .int .u8 (v.toNat : Int), .int .i64 fl] 37)) := fun w2 h =>
      ⟨(h.block g (by show g < (W1.alloc _).heap.size; simp; omega) hgo.out).trans (lx.keep (bal' _ _).drew), (h.block w.heap.size (by show w.heap.size < (W1.alloc _).heap.size; simp; omega) hpo.out).trans (hpKeep p1 (bal' _ _).drew)⟩
    have LX := hid lx
    have K1 := hid k1
    clear lx k1 p1 hW1
    go_region_law (refine step_appN rfl (.tmp 46) (.tmp 49) 45 rfl base 5 i5 (.int .u8 0) 1 1 Tryz.underlying45 hi hz0 hz1 hz2 rfl (by decide) (.slice a x.bs.length c) x.bs.length (u8s x.bs) rfl (own1.out.alloc _) ⟨W1.heap.size, 0, none⟩ 1 1 [.int .u8 (v.toNat : Int)] rfl rfl (newsNew W1 [.int .u8 (v.toNat : Int)] _) (by intro u hu; simp at hu; subst hu; rfl) (by unfold maxLen; omega) (by omega) (by simp; omega) ?_; intro v' w2 hown2 hgr hnew; obtain ⟨a', c', rfl⟩ := own_slice hown2; have y3 : w2.cell? ⟨g, 3, none⟩ = some (.slice a x.bs.length c) := (HB2.out w2 hgr).1.cell 3; have z3 : w2.frozen? ⟨g, 3, none⟩ = false := (HB2.out w2 hgr).1.free 3)
    all_goals
      have hb2 := HB2.out w2 hgr
      obtain ⟨W3, hW3⟩ : ∃ W, W = w2.setCell ⟨g, 3, none⟩ (.slice a' (x.bs.length + 1) c') := ⟨_, rfl⟩
      rw [← hW3]
      have l3 : RxAt W3 g { x.opened t sil with bs := x.bs ++ [v] } a' (x.bs.length + 1) c' := by rw [hW3]; exact hpSetE hb2.1 rfl
      have p3 : W3.heap[w.heap.size]? = some (.cells #[.int .i64 t, .int .u8 (v.toNat : Int), .int .i64 fl] 37) := by rw [hW3]; exact (hpOther (by omega)).trans hb2.2
      have k3 : Hid (Keeps (fun j => j = g ∨ (Value.slice a x.bs.length c).ownBlock = some j) w W3) := by
        show Keeps _ _ _
        rw [hW3]
        exact ((K1.out.mono (fun k _ h => Or.inl h)).trans ((Keeps.of_below (bal' W1 (.cells #[.int .u8 (v.toNat : Int)] 5)).drew).trans (Keeps.of_grown (F := fun j => j = g ∨ (Value.slice a x.bs.length c).ownBlock = some j) hgr (fun k hk => .inr hk)) (fun _ _ h => h)) (fun _ _ h => h)).set ⟨g, 3, none⟩ _ (.inl rfl)
      have o3 : Hid (W3.ownsRow base 5 1 (.slice a' (x.bs.length + 1) c') (x.bs.length + 1) (u8s (x.bs ++ [v]))) := by
        show World.ownsRow _ _ _ _ _ _ _
        rw [hW3, u8s_append]
        exact own_keeps hown2 (setK (p := g)) (fun k hk e => by have h1 := (hown2.lt k hk).1; have h2 : k = g := e; omega)
      have n3 : Hid (NewOr w (.slice a x.bs.length c) (.slice a' (x.bs.length + 1) c')) := by
        rcases hnew with h | ⟨j, h, hj⟩
        · exact .inl h
        · refine .inr ⟨j, h, ?_⟩
          have hj' : (W1.alloc (.cells #[.int .u8 (v.toNat : Int)] 5)).heap.size ≤ j := hj
          simp at hj'
          omega
      have c6 : W3.cell? ⟨g, 6, none⟩ = some (.int .i64 (gapF x sil)) := l3.cell 6
      have c5 : W3.cell? ⟨g, 5, none⟩ = some (.int .i64 x.f2) := l3.cell 5
      have c8 : W3.cell? ⟨g, 8, none⟩ = some (.int .i64 x.la) := l3.cell 8
      have f6 := l3.free 6
      have f5 := l3.free 5
      have f8 := l3.free 8
      have q0 : W3.cell? ⟨w.heap.size, 0, none⟩ = some (.int .i64 t) := hpCell p3 0
      have q2 : W3.cell? ⟨w.heap.size, 2, none⟩ = some (.int .i64 fl) := hpCell p3 2
      have L3 := hid l3
      clear hb2 hW3 l3 p3 hown2 hgr hnew y3 z3 c3 cA3 e1 W3c own1 HB2
      go_wp2
      go_region
      all_goals
        go_wp2
        go_end0
        have hk4 : Keeps (· = g) W3 (((W3.setCell ⟨g, 6, none⟩ (.int .i64 (bits .or .i64 (gapF x sil) (bits .and .i64 fl 3)))).setCell ⟨g, 5, none⟩ (.int .i64 t)).setCell ⟨g, 8, none⟩ (.int .i64 t)) := kset' (kset' (kset' (Keeps.refl _ _) _ _) _ _) _ _
        have hl4 := HAD.out _ a' c' (hpSetE (hpSetE (hpSetE L3.out rfl) rfl) rfl : RxAt (((W3.setCell ⟨g, 6, none⟩ (.int .i64 (bits .or .i64 (gapF x sil) (bits .and .i64 fl 3)))).setCell ⟨g, 5, none⟩ (.int .i64 t)).setCell ⟨g, 8, none⟩ (.int .i64 t)) g _ a' (x.bs.length + 1) c')
        have ho4 := own_keeps o3.out hk4 (fun k hk e => by have h1 := (o3.out.lt k hk).1; have h2 : k = g := e; omega)
        first
          | exact RxAdded.fin HAL.out hl4 ho4 n3.out (k3.out.trans hk4 (fun _ _ h => .inl h))
          | exact RxAdded.fin (W := World.drew _) HAL.out hl4 (own_keeps (F := fun _ => False) ho4 (Keeps.of_below (Below.refl _ _).drew) (fun _ _ f => f)) n3.out ((k3.out.trans hk4 (fun _ _ h => .inl h)).trans (Keeps.of_below (Below.refl _ _).drew) (fun _ _ h => h))
  · have ho : Hid (x.opened t sil = { x with act := true, fl := orI x.fl 4 }) := by
      show _ = _
      unfold Rx.opened gapF
      rw [if_pos h1, if_pos ⟨h1, h2⟩]
    have HXT : Hid (RxAt w g { x with act := true } a x.bs.length c) := by
      have h3 := HX.out
      unfold RxAt Rx.cells at h3
      rw [h1] at h3
      exact h3
    have c7 : w.cell? ⟨g, 7, none⟩ = some (.bool true) := HXT.out.cell 7
    have c1 : w.cell? ⟨g, 1, none⟩ = some (.int .i64 x.t15) := RxAt.cell HX.out 1
    have c3 : w.cell? ⟨g, 3, none⟩ = some (.slice a x.bs.length c) := RxAt.cell HX.out 3
    have c6 : w.cell? ⟨g, 6, none⟩ = some (.int .i64 x.fl) := RxAt.cell HX.out 6
    have f6 : w.frozen? ⟨g, 6, none⟩ = false := RxAt.free HX.out 6
    have hn' : decide (x.bs.length < 256) = true := decide_eq_true hn
    have d2 : decide (x.t15 < sil) = true := decide_eq_true h2
    clear h1
    go_enter Tryz.func65, Tryz.ntmps65
    go_upto_region 8 with (fail)
    obtain ⟨W1, hW1⟩ : ∃ W, W = World.alloc (w.setCell ⟨g, 6, none⟩ (.int .i64 (bits .or .i64 x.fl 4))) (.cells #[.int .i64 t, .int .u8 (v.toNat : Int), .int .i64 fl] 37) := ⟨_, rfl⟩
    rw [← hW1]
    have lx : RxAt W1 g (x.opened t sil) a x.bs.length c := by rw [hW1, ho.out]; exact RxAt.keep (hpSetE HXT.out rfl) (bal' _ _)
    have k1 : Keeps (· = g) w W1 := by rw [hW1]; exact (kset' (Keeps.refl _ _) _ _).trans (Keeps.of_below (bal' _ _)) (fun _ _ h => h)
    have p1 : W1.heap[w.heap.size]? = some (.cells #[.int .i64 t, .int .u8 (v.toNat : Int), .int .i64 fl] 37) := by rw [hW1]; have := hpNew (w.setCell ⟨g, 6, none⟩ (.int .i64 (bits .or .i64 x.fl 4))) (.cells #[.int .i64 t, .int .u8 (v.toNat : Int), .int .i64 fl] 37); simpa using this
    clear c1 c3 c6 c7 f6
    have own1 := hid (own_keeps OW.out k1 (fun k hk e => by have h1 := (HAP.out k hk).1; have h2 : k = g := e; omega))
    have hs1 : w.heap.size < W1.heap.size := hpLt p1
    have c3 : W1.cell? ⟨g, 3, none⟩ = some (.slice a x.bs.length c) := lx.cell 3
    have cA3 : ∀ X, (W1.alloc X).cell? ⟨g, 3, none⟩ = some (.slice a x.bs.length c) := fun X => (lx.keep (bal' _ X)).cell 3
    have W3c : Hid ((W1.alloc (.cells #[.int .u8 (v.toNat : Int)] 5)).cell? ⟨g, 3, none⟩ = some (.slice a x.bs.length c)) := (lx.keep (bal' _ _)).cell 3
    have e1 : W1.cell? ⟨w.heap.size, 1, none⟩ = some (.int .u8 (v.toNat : Int)) := hpCell p1 1
    have hgo : Hid (some g ≠ (Value.slice a x.bs.length c).ownBlock) := fun h => by have := (HAP.out g h.symm).1; omega
    have hpo : Hid (some w.heap.size ≠ (Value.slice a x.bs.length c).ownBlock) := fun h => by have := (HAP.out _ h.symm).2; omega
    have hg1 : g < W1.heap.size := by omega
    have HB2 : Hid (∀ w2, (W1.alloc (.cells #[.int .u8 (v.toNat : Int)] 5)).drew.grownBy w2 (Value.slice a x.bs.length c).ownBlock → RxAt w2 g (x.opened t sil) a x.bs.length c ∧ w2.heap[w.heap.size]? = some (.cells #[.int .i64 t, .int .u8 (v.toNat : Int), .int .i64 fl] 37)) := fun w2 h =>
      ⟨(h.block g (by show g < (W1.alloc _).heap.size; simp; omega) hgo.out).trans (lx.keep (bal' _ _).drew), (h.block w.heap.size (by show w.heap.size < (W1.alloc _).heap.size; simp; omega) hpo.out).trans (hpKeep p1 (bal' _ _).drew)⟩
    have LX := hid lx
    have K1 := hid k1
    clear lx k1 p1 hW1
    go_region_law (refine step_appN rfl (.tmp 46) (.tmp 49) 45 rfl base 5 i5 (.int .u8 0) 1 1 Tryz.underlying45 hi hz0 hz1 hz2 rfl (by decide) (.slice a x.bs.length c) x.bs.length (u8s x.bs) rfl (own1.out.alloc _) ⟨W1.heap.size, 0, none⟩ 1 1 [.int .u8 (v.toNat : Int)] rfl rfl (newsNew W1 [.int .u8 (v.toNat : Int)] _) (by intro u hu; simp at hu; subst hu; rfl) (by unfold maxLen; omega) (by omega) (by simp; omega) ?_; intro v' w2 hown2 hgr hnew; obtain ⟨a', c', rfl⟩ := own_slice hown2; have y3 : w2.cell? ⟨g, 3, none⟩ = some (.slice a x.bs.length c) := (HB2.out w2 hgr).1.cell 3; have z3 : w2.frozen? ⟨g, 3, none⟩ = false := (HB2.out w2 hgr).1.free 3)
    all_goals
      have hb2 := HB2.out w2 hgr
      obtain ⟨W3, hW3⟩ : ∃ W, W = w2.setCell ⟨g, 3, none⟩ (.slice a' (x.bs.length + 1) c') := ⟨_, rfl⟩
      rw [← hW3]
      have l3 : RxAt W3 g { x.opened t sil with bs := x.bs ++ [v] } a' (x.bs.length + 1) c' := by rw [hW3]; exact hpSetE hb2.1 rfl
      have p3 : W3.heap[w.heap.size]? = some (.cells #[.int .i64 t, .int .u8 (v.toNat : Int), .int .i64 fl] 37) := by rw [hW3]; exact (hpOther (by omega)).trans hb2.2
      have k3 : Hid (Keeps (fun j => j = g ∨ (Value.slice a x.bs.length c).ownBlock = some j) w W3) := by
        show Keeps _ _ _
        rw [hW3]
        exact ((K1.out.mono (fun k _ h => Or.inl h)).trans ((Keeps.of_below (bal' W1 (.cells #[.int .u8 (v.toNat : Int)] 5)).drew).trans (Keeps.of_grown (F := fun j => j = g ∨ (Value.slice a x.bs.length c).ownBlock = some j) hgr (fun k hk => .inr hk)) (fun _ _ h => h)) (fun _ _ h => h)).set ⟨g, 3, none⟩ _ (.inl rfl)
      have o3 : Hid (W3.ownsRow base 5 1 (.slice a' (x.bs.length + 1) c') (x.bs.length + 1) (u8s (x.bs ++ [v]))) := by
        show World.ownsRow _ _ _ _ _ _ _
        rw [hW3, u8s_append]
        exact own_keeps hown2 (setK (p := g)) (fun k hk e => by have h1 := (hown2.lt k hk).1; have h2 : k = g := e; omega)
      have n3 : Hid (NewOr w (.slice a x.bs.length c) (.slice a' (x.bs.length + 1) c')) := by
        rcases hnew with h | ⟨j, h, hj⟩
        · exact .inl h
        · refine .inr ⟨j, h, ?_⟩
          have hj' : (W1.alloc (.cells #[.int .u8 (v.toNat : Int)] 5)).heap.size ≤ j := hj
          simp at hj'
          omega
      have c6 : W3.cell? ⟨g, 6, none⟩ = some (.int .i64 (gapF x sil)) := l3.cell 6
      have c5 : W3.cell? ⟨g, 5, none⟩ = some (.int .i64 x.f2) := l3.cell 5
      have c8 : W3.cell? ⟨g, 8, none⟩ = some (.int .i64 x.la) := l3.cell 8
      have f6 := l3.free 6
      have f5 := l3.free 5
      have f8 := l3.free 8
      have q0 : W3.cell? ⟨w.heap.size, 0, none⟩ = some (.int .i64 t) := hpCell p3 0
      have q2 : W3.cell? ⟨w.heap.size, 2, none⟩ = some (.int .i64 fl) := hpCell p3 2
      have L3 := hid l3
      clear hb2 hW3 l3 p3 hown2 hgr hnew y3 z3 c3 cA3 e1 W3c own1 HB2
      go_wp2
      go_region
      all_goals
        go_wp2
        go_end0
        have hk4 : Keeps (· = g) W3 (((W3.setCell ⟨g, 6, none⟩ (.int .i64 (bits .or .i64 (gapF x sil) (bits .and .i64 fl 3)))).setCell ⟨g, 5, none⟩ (.int .i64 t)).setCell ⟨g, 8, none⟩ (.int .i64 t)) := kset' (kset' (kset' (Keeps.refl _ _) _ _) _ _) _ _
        have hl4 := HAD.out _ a' c' (hpSetE (hpSetE (hpSetE L3.out rfl) rfl) rfl : RxAt (((W3.setCell ⟨g, 6, none⟩ (.int .i64 (bits .or .i64 (gapF x sil) (bits .and .i64 fl 3)))).setCell ⟨g, 5, none⟩ (.int .i64 t)).setCell ⟨g, 8, none⟩ (.int .i64 t)) g _ a' (x.bs.length + 1) c')
        have ho4 := own_keeps o3.out hk4 (fun k hk e => by have h1 := (o3.out.lt k hk).1; have h2 : k = g := e; omega)
        first
          | exact RxAdded.fin HAL.out hl4 ho4 n3.out (k3.out.trans hk4 (fun _ _ h => .inl h))
          | exact RxAdded.fin (W := World.drew _) HAL.out hl4 (own_keeps (F := fun _ => False) ho4 (Keeps.of_below (Below.refl _ _).drew) (fun _ _ f => f)) n3.out ((k3.out.trans hk4 (fun _ _ h => .inl h)).trans (Keeps.of_below (Below.refl _ _).drew) (fun _ _ h => h))
  · have ho : Hid (x.opened t sil = { x with act := true }) := by
      show _ = _
      unfold Rx.opened gapF
      rw [if_pos h1, if_neg (fun h => h2 h.2)]
    have HXT : Hid (RxAt w g { x with act := true } a x.bs.length c) := by
      have h3 := HX.out
      unfold RxAt Rx.cells at h3
      rw [h1] at h3
      exact h3
    have c7 : w.cell? ⟨g, 7, none⟩ = some (.bool true) := HXT.out.cell 7
    have c1 : w.cell? ⟨g, 1, none⟩ = some (.int .i64 x.t15) := RxAt.cell HX.out 1
    have c3 : w.cell? ⟨g, 3, none⟩ = some (.slice a x.bs.length c) := RxAt.cell HX.out 3
    have hn' : decide (x.bs.length < 256) = true := decide_eq_true hn
    have d2 : decide (x.t15 < sil) = false := decide_eq_false h2
    clear h1
    go_enter Tryz.func65, Tryz.ntmps65
    go_upto_region 8 with (fail)
    obtain ⟨W1, hW1⟩ : ∃ W, W = World.alloc (w) (.cells #[.int .i64 t, .int .u8 (v.toNat : Int), .int .i64 fl] 37) := ⟨_, rfl⟩
    rw [← hW1]
    have lx : RxAt W1 g (x.opened t sil) a x.bs.length c := by rw [hW1, ho.out]; exact RxAt.keep (HXT.out) (bal' _ _)
    have k1 : Keeps (· = g) w W1 := by rw [hW1]; exact (Keeps.refl _ _).trans (Keeps.of_below (bal' _ _)) (fun _ _ h => h)
    have p1 : W1.heap[w.heap.size]? = some (.cells #[.int .i64 t, .int .u8 (v.toNat : Int), .int .i64 fl] 37) := by rw [hW1]; have := hpNew (w) (.cells #[.int .i64 t, .int .u8 (v.toNat : Int), .int .i64 fl] 37); simpa using this
    clear c1 c3 c7
    have own1 := hid (own_keeps OW.out k1 (fun k hk e => by have h1 := (HAP.out k hk).1; have h2 : k = g := e; omega))
    have hs1 : w.heap.size < W1.heap.size := hpLt p1
    have c3 : W1.cell? ⟨g, 3, none⟩ = some (.slice a x.bs.length c) := lx.cell 3
    have cA3 : ∀ X, (W1.alloc X).cell? ⟨g, 3, none⟩ = some (.slice a x.bs.length c) := fun X => (lx.keep (bal' _ X)).cell 3
    have W3c : Hid ((W1.alloc (.cells #[.int .u8 (v.toNat : Int)] 5)).cell? ⟨g, 3, none⟩ = some (.slice a x.bs.length c)) := (lx.keep (bal' _ _)).cell 3
    have e1 : W1.cell? ⟨w.heap.size, 1, none⟩ = some (.int .u8 (v.toNat : Int)) := hpCell p1 1
    have hgo : Hid (some g ≠ (Value.slice a x.bs.length c).ownBlock) := fun h => by have := (HAP.out g h.symm).1; omega
    have hpo : Hid (some w.heap.size ≠ (Value.slice a x.bs.length c).ownBlock) := fun h => by have := (HAP.out _ h.symm).2; omega
    have hg1 : g < W1.heap.size := by omega
    have HB2 : Hid (∀ w2, (W1.alloc (.cells #[.int .u8 (v.toNat : Int)] 5)).drew.grownBy w2 (Value.slice a x.bs.length c).ownBlock → RxAt w2 g (x.opened t sil) a x.bs.length c ∧ w2.heap[w.heap.size]? = some (.cells #[.int .i64 t, .int .u8 (v.toNat : Int), .int .i64 fl] 37)) := fun w2 h =>
      ⟨(h.block g (by show g < (W1.alloc _).heap.size; simp; omega) hgo.out).trans (lx.keep (bal' _ _).drew), (h.block w.heap.size (by show w.heap.size < (W1.alloc _).heap.size; simp; omega) hpo.out).trans (hpKeep p1 (bal' _ _).drew)⟩
    have LX := hid lx
    have K1 := hid k1
    clear lx k1 p1 hW1
    go_region_law (refine step_appN rfl (.tmp 46) (.tmp 49) 45 rfl base 5 i5 (.int .u8 0) 1 1 Tryz.underlying45 hi hz0 hz1 hz2 rfl (by decide) (.slice a x.bs.length c) x.bs.length (u8s x.bs) rfl (own1.out.alloc _) ⟨W1.heap.size, 0, none⟩ 1 1 [.int .u8 (v.toNat : Int)] rfl rfl (newsNew W1 [.int .u8 (v.toNat : Int)] _) (by intro u hu; simp at hu; subst hu; rfl) (by unfold maxLen; omega) (by omega) (by simp; omega) ?_; intro v' w2 hown2 hgr hnew; obtain ⟨a', c', rfl⟩ := own_slice hown2; have y3 : w2.cell? ⟨g, 3, none⟩ = some (.slice a x.bs.length c) := (HB2.out w2 hgr).1.cell 3; have z3 : w2.frozen? ⟨g, 3, none⟩ = false := (HB2.out w2 hgr).1.free 3)
    all_goals
      have hb2 := HB2.out w2 hgr
      obtain ⟨W3, hW3⟩ : ∃ W, W = w2.setCell ⟨g, 3, none⟩ (.slice a' (x.bs.length + 1) c') := ⟨_, rfl⟩
      rw [← hW3]
      have l3 : RxAt W3 g { x.opened t sil with bs := x.bs ++ [v] } a' (x.bs.length + 1) c' := by rw [hW3]; exact hpSetE hb2.1 rfl
      have p3 : W3.heap[w.heap.size]? = some (.cells #[.int .i64 t, .int .u8 (v.toNat : Int), .int .i64 fl] 37) := by rw [hW3]; exact (hpOther (by omega)).trans hb2.2
      have k3 : Hid (Keeps (fun j => j = g ∨ (Value.slice a x.bs.length c).ownBlock = some j) w W3) := by
        show Keeps _ _ _
        rw [hW3]
        exact ((K1.out.mono (fun k _ h => Or.inl h)).trans ((Keeps.of_below (bal' W1 (.cells #[.int .u8 (v.toNat : Int)] 5)).drew).trans (Keeps.of_grown (F := fun j => j = g ∨ (Value.slice a x.bs.length c).ownBlock = some j) hgr (fun k hk => .inr hk)) (fun _ _ h => h)) (fun _ _ h => h)).set ⟨g, 3, none⟩ _ (.inl rfl)
      have o3 : Hid (W3.ownsRow base 5 1 (.slice a' (x.bs.length + 1) c') (x.bs.length + 1) (u8s (x.bs ++ [v]))) := by
        show World.ownsRow _ _ _ _ _ _ _
        rw [hW3, u8s_append]
        exact own_keeps hown2 (setK (p := g)) (fun k hk e => by have h1 := (hown2.lt k hk).1; have h2 : k = g := e; omega)
      have n3 : Hid (NewOr w (.slice a x.bs.length c) (.slice a' (x.bs.length + 1) c')) := by
        rcases hnew with h | ⟨j, h, hj⟩
        · exact .inl h
        · refine .inr ⟨j, h, ?_⟩
          have hj' : (W1.alloc (.cells #[.int .u8 (v.toNat : Int)] 5)).heap.size ≤ j := hj
          simp at hj'
          omega
      have c6 : W3.cell? ⟨g, 6, none⟩ = some (.int .i64 (gapF x sil)) := l3.cell 6
      have c5 : W3.cell? ⟨g, 5, none⟩ = some (.int .i64 x.f2) := l3.cell 5
      have c8 : W3.cell? ⟨g, 8, none⟩ = some (.int .i64 x.la) := l3.cell 8
      have f6 := l3.free 6
      have f5 := l3.free 5
      have f8 := l3.free 8
      have q0 : W3.cell? ⟨w.heap.size, 0, none⟩ = some (.int .i64 t) := hpCell p3 0
      have q2 : W3.cell? ⟨w.heap.size, 2, none⟩ = some (.int .i64 fl) := hpCell p3 2
      have L3 := hid l3
      clear hb2 hW3 l3 p3 hown2 hgr hnew y3 z3 c3 cA3 e1 W3c own1 HB2
      go_wp2
      go_region
      all_goals
        go_wp2
        go_end0
        have hk4 : Keeps (· = g) W3 (((W3.setCell ⟨g, 6, none⟩ (.int .i64 (bits .or .i64 (gapF x sil) (bits .and .i64 fl 3)))).setCell ⟨g, 5, none⟩ (.int .i64 t)).setCell ⟨g, 8, none⟩ (.int .i64 t)) := kset' (kset' (kset' (Keeps.refl _ _) _ _) _ _) _ _
        have hl4 := HAD.out _ a' c' (hpSetE (hpSetE (hpSetE L3.out rfl) rfl) rfl : RxAt (((W3.setCell ⟨g, 6, none⟩ (.int .i64 (bits .or .i64 (gapF x sil) (bits .and .i64 fl 3)))).setCell ⟨g, 5, none⟩ (.int .i64 t)).setCell ⟨g, 8, none⟩ (.int .i64 t)) g _ a' (x.bs.length + 1) c')
        have ho4 := own_keeps o3.out hk4 (fun k hk e => by have h1 := (o3.out.lt k hk).1; have h2 : k = g := e; omega)
        first
          | exact RxAdded.fin HAL.out hl4 ho4 n3.out (k3.out.trans hk4 (fun _ _ h => .inl h))
          | exact RxAdded.fin (W := World.drew _) HAL.out hl4 (own_keeps (F := fun _ => False) ho4 (Keeps.of_below (Below.refl _ _).drew) (fun _ _ f => f)) n3.out ((k3.out.trans hk4 (fun _ _ h => .inl h)).trans (Keeps.of_below (Below.refl _ _).drew) (fun _ _ h => h))

end Go.Proofs.YtpmidoneoonlcaaGreat

/-
The contracts of a receiver's Char and Idle.
-/
namespace Go.Proofs.YtpmidoneoonlcaaGreat
open Go.RowKit

def Rx.sil (x : Rx) (t : Int) : Int := if x.la < t - x.ch then t - x.ch - x.la else 0
def Rx.ends (x : Rx) (t : Int) : Bool := x.act && decide (x.t35 ≤ x.sil t)
def Rx.char (x : Rx) (t : Int) (v : UInt8) (fl : Int) : Rx := (if x.ends t = true then x.empty else x).add t v fl (x.sil t)

/-- What Char leaves. -/
def RxCharred (w : World) (g : Nat) (base : Nat) (x y : Rx) (a : Option Addr) (c : Nat) (V : Bool) (r : Ending) (w' : World) : Prop :=
  ∃ a' c' a2 n2 c2 z1 z2 z3, r = .returned (.tuple #[.agg #[.slice a2 n2 c2, .int .i64 z1, .int .i64 z2, .int .i64 z3], .bool V, .int .i64 0]) ∧ RxAt w' g y a' y.bs.length c' ∧ w'.ownsRow base 5 1 (.slice a' y.bs.length c') y.bs.length (u8s y.bs) ∧
    (∀ k, (Value.slice a' y.bs.length c').ownBlock = some k → (Value.slice a x.bs.length c).ownBlock = some k ∨ w.heap.size ≤ k) ∧ Keeps (fun j => j = g ∨ (Value.slice a x.bs.length c).ownBlock = some j) w w'

set_option maxRecDepth 100000 in
set_option maxHeartbeats 6400000 in
theorem rxchar_ok (g base : Nat) (x : Rx) (a : Option Addr) (c : Nat) (t : Int) (v : UInt8) (fl : Int) (w : World) (hx : RxAt w g x a x.bs.length c) (hown : w.ownsRow base 5 1 (.slice a x.bs.length c) x.bs.length (u8s x.bs)) (hg : g < base) (hb : base ≤ w.heap.size) (hn : x.bs.length < 256)
    (h1 : 0 ≤ x.la) (h2 : x.la ≤ t) (h3 : x.id ≤ t) (h4 : t ≤ 1152921504606846976) (h5 : 0 ≤ x.ch) (h6 : x.ch ≤ 40000) (V : Bool) (hV : Hid (x.ends t = V)) :
    Calls Tryz.prog 39 #[.pointer (some ⟨g, 0, none⟩), .agg #[.int .i64 t, .int .u8 (v.toNat : Int), .int .i64 fl]] w (RxCharred w g base x (x.char t v fl) a c V) := by
  have c0 : w.cell? ⟨g, 0, none⟩ = some (.int .i64 x.ch) := hx.cell 0
  have c2 : w.cell? ⟨g, 2, none⟩ = some (.int .i64 x.t35) := hx.cell 2
  have c7 : w.cell? ⟨g, 7, none⟩ = some (.bool x.act) := hx.cell 7
  have c8 : w.cell? ⟨g, 8, none⟩ = some (.int .i64 x.la) := hx.cell 8
  have c9 : w.cell? ⟨g, 9, none⟩ = some (.int .i64 x.id) := hx.cell 9
  have d0 : decide (t < 0) = false := decide_eq_false (by omega)
  have d1 : decide (t < x.la) = false := decide_eq_false (by omega)
  have d2 : decide (t < x.id) = false := decide_eq_false (by omega)
  have d3 : decide (1152921504606846976 < t) = false := decide_eq_false (by omega)
  have s1 : IntKind.i64.wrap (t - x.ch) = t - x.ch := IntWalk.i64_in _ (by omega)
  have s2 : IntKind.i64.wrap (t - x.ch - x.la) = t - x.ch - x.la := IntWalk.i64_in _ (by omega)
  have hgw := hx.lt
  have HX := hid hx
  have HO := hid hown
  clear hx hown
  obtain ⟨S, hS⟩ : ∃ S, x.sil t = S := ⟨_, rfl⟩
  have HS : Hid ((if x.la < t - x.ch then t - x.ch - x.la else 0) = S) := hS
  have HS2 := hid hS
  clear hS
  go_enter Tryz.func39, Tryz.ntmps39
  go_wp2_with fail
  go_quiet (fail)
  go_wp2_with fail
  go_region
  rw [HS.out]
  obtain ⟨W0, hW0⟩ : ∃ W, W = World.drewN ((w.alloc (.cells #[.int .i64 t, .int .u8 (v.toNat : Int), .int .i64 fl] 37)).alloc (.cells #[.slice none 0 0, .int .i64 0, .int .i64 0, .int .i64 0] 81)) (nq + 1) := ⟨_, rfl⟩
  rw [← hW0]
  have hb0 : Below w.heap.size w W0 := by rw [hW0]; exact below_drewN (bta (bal' w _) (Nat.le_refl _) _) _
  have hz0 : W0.heap.size = w.heap.size + 2 := by rw [hW0]; simp
  have p0 : W0.heap[w.heap.size]? = some (.cells #[.int .i64 t, .int .u8 (v.toNat : Int), .int .i64 fl] 37) := by rw [hW0]; exact hpKeep (hpNew w _) (below_drewN (bal' _ _) _)
  have p1 : W0.heap[w.heap.size + 1]? = some (.cells #[.slice none 0 0, .int .i64 0, .int .i64 0, .int .i64 0] 81) := by
    rw [hW0]
    have := hpNew (w.alloc (.cells #[.int .i64 t, .int .u8 (v.toNat : Int), .int .i64 fl] 37)) (.cells #[.slice none 0 0, .int .i64 0, .int .i64 0, .int .i64 0] 81)
    simpa using this
  have e0 : W0.cell? ⟨w.heap.size, 0, none⟩ = some (.int .i64 t) := hpCell p0 0
  have e1 : W0.cell? ⟨w.heap.size, 1, none⟩ = some (.int .u8 (v.toNat : Int)) := hpCell p0 1
  have e2 : W0.cell? ⟨w.heap.size, 2, none⟩ = some (.int .i64 fl) := hpCell p0 2
  have x2 : W0.cell? ⟨g, 2, none⟩ = some (.int .i64 x.t35) := (HX.out.keep hb0).cell 2
  have x7 : W0.cell? ⟨g, 7, none⟩ = some (.bool x.act) := (HX.out.keep hb0).cell 7
  have HX0 := hid (HX.out.keep hb0)
  have HO0 := hid (own_keeps (F := fun _ => False) HO.out (Keeps.of_below hb0) (fun _ _ f => f))
  have hg0 : g < W0.heap.size := by omega
  have hg1 : w.heap.size < W0.heap.size := by omega
  have hg2 : w.heap.size + 1 < W0.heap.size := by omega
  have P1 := hid p1
  have P0 := hid p0
  have B0 := hid hb0
  have Z0 := hid hz0
  clear c0 c2 c7 c8 c9 hW0 p0 p1 hb0 hz0
  cases V with
  | false =>
    have hY : Hid (x.char t v fl = x.add t v fl S) := by
      show _ = _
      unfold Rx.char
      rw [hV.out, HS2.out]
      rfl
    have HAD := hid (fun W h o b => rxadd_short g base x a c t v fl S W h o hg b hn)
    rcases (show x.act = false ∨ (x.act = true ∧ decide (x.t35 ≤ S) = false) by
      have h := hV.out
      unfold Rx.ends at h
      rw [HS2.out] at h
      cases hx : x.act with
      | false => exact .inl rfl
      | true => rw [hx] at h; exact .inr ⟨rfl, by simpa using h⟩) with d4 | ⟨d4, d5⟩
    all_goals
      rw [d4] at x7
      clear d4
      go_wp2_with fail
      obtain ⟨W1, hW1⟩ : ∃ W, W = W0.alloc (.cells #[.slice none 0 0, .int .i64 0, .int .i64 0, .int .i64 0] 81) := ⟨_, rfl⟩
      rw [← hW1]
      have hb1 : Below W0.heap.size W0 W1 := by rw [hW1]; exact bal' _ _
      have p2 : W1.heap[W0.heap.size]? = some (.cells #[.slice none 0 0, .int .i64 0, .int .i64 0, .int .i64 0] 81) := by
        rw [hW1]
        exact hpNew _ _
      have HC := hid (HAD.out W1 (HX0.out.keep hb1) (own_keeps (F := fun _ => False) HO0.out (Keeps.of_below hb1) (fun _ _ f => f)) (Nat.le_trans hb (Nat.le_trans B0.out.size hb1.size)))
      clear hW1 e0 e1 e2 x2 x7
      refine HC.out.mono ?_
      rintro r w2 ⟨a', c', rfl, hx2, ho2, hn2, hk2⟩
      have hk3 : ∀ k, w.heap.size ≤ k → ¬ (k = g ∨ (Value.slice a x.bs.length c).ownBlock = some k) := fun k hk e => by
        rcases e with e | e
        · omega
        · have := (HO.out.lt k e).2
          omega
      have p1 := hpKeeps (hpKeep P1.out hb1) hk2 (hk3 _ (by omega))
      have p3 := hpKeeps p2 hk2 (hk3 _ (by have := Z0.out; omega))
      have hne : W0.heap.size ≠ w.heap.size + 1 := by omega
      have HX2 := hid hx2
      have HO2 := hid ho2
      have HN2 : Hid (∀ k, (Value.slice a' (x.add t v fl S).bs.length c').ownBlock = some k → (Value.slice a x.bs.length c).ownBlock = some k ∨ w.heap.size + 2 ≤ k) := fun k hk => by
        rcases hn2 with h | ⟨j, h, hj⟩
        · exact .inl (h ▸ hk)
        · rw [h] at hk
          cases hk
          have := hb1.size
          have := Z0.out
          exact .inr (by omega)
      have HK2 : Hid (Keeps (fun j => j = g ∨ (Value.slice a x.bs.length c).ownBlock = some j) w w2) := ((Keeps.of_below B0.out).trans (Keeps.of_below hb1) (fun _ _ h => h)).trans hk2 (fun _ _ h => h)
      have HK3 := hid hk3
      have hs2 : w.heap.size + 1 < w2.heap.size := hpLt p1
      obtain ⟨u0, u1, u2, u3⟩ : w2.cell? ⟨W0.heap.size, 0, none⟩ = some (.slice none 0 0) ∧ w2.cell? ⟨W0.heap.size, 1, none⟩ = some (.int .i64 0) ∧ w2.cell? ⟨W0.heap.size, 2, none⟩ = some (.int .i64 0) ∧ w2.cell? ⟨W0.heap.size, 3, none⟩ = some (.int .i64 0) := ⟨hpCell p3 0, hpCell p3 1, hpCell p3 2, hpCell p3 3⟩
      obtain ⟨y0, y1, y2, y3⟩ : w2.cell? ⟨w.heap.size + 1, 0, none⟩ = some (.slice none 0 0) ∧ w2.cell? ⟨w.heap.size + 1, 1, none⟩ = some (.int .i64 0) ∧ w2.cell? ⟨w.heap.size + 1, 2, none⟩ = some (.int .i64 0) ∧ w2.cell? ⟨w.heap.size + 1, 3, none⟩ = some (.int .i64 0) := ⟨hpCell p1 0, hpCell p1 1, hpCell p1 2, hpCell p1 3⟩; obtain ⟨z0, z1, z2, z3⟩ : w2.frozen? ⟨w.heap.size + 1, 0, none⟩ = false ∧ w2.frozen? ⟨w.heap.size + 1, 1, none⟩ = false ∧ w2.frozen? ⟨w.heap.size + 1, 2, none⟩ = false ∧ w2.frozen? ⟨w.heap.size + 1, 3, none⟩ = false := ⟨hpFree p1 0, hpFree p1 1, hpFree p1 2, hpFree p1 3⟩
      go_wp2
      obtain ⟨W5, hW5⟩ : ∃ W, W = (((w2.setCell ⟨w.heap.size + 1, 0, none⟩ (.slice none 0 0)).setCell ⟨w.heap.size + 1, 1, none⟩ (.int .i64 0)).setCell ⟨w.heap.size + 1, 2, none⟩ (.int .i64 0)).setCell ⟨w.heap.size + 1, 3, none⟩ (.int .i64 0) := ⟨_, rfl⟩; rw [← hW5]; have m5 := hpSet (hpSet (hpSet (hpSet p1 0 (.slice none 0 0)) 1 (.int .i64 0)) 2 (.int .i64 0)) 3 (.int .i64 0); rw [← hW5] at m5; obtain ⟨q0, q1, q2, q3⟩ : W5.cell? ⟨w.heap.size + 1, 0, none⟩ = some (.slice none 0 0) ∧ W5.cell? ⟨w.heap.size + 1, 1, none⟩ = some (.int .i64 0) ∧ W5.cell? ⟨w.heap.size + 1, 2, none⟩ = some (.int .i64 0) ∧ W5.cell? ⟨w.heap.size + 1, 3, none⟩ = some (.int .i64 0) := ⟨hpCell m5 0, hpCell m5 1, hpCell m5 2, hpCell m5 3⟩; have hk5 : Keeps (· = w.heap.size + 1) w2 W5 := by rw [hW5]; exact kset' (kset' (kset' (kset' (Keeps.refl _ _) _ _) _ _) _ _) _ _
      clear u0 u1 u2 u3 y0 y1 y2 y3 z0 z1 z2 z3 hW5 p1 p3
      refine bodyPost_ret (v := .tuple #[.agg #[.slice none 0 0, .int .i64 0, .int .i64 0, .int .i64 0], .bool false, .int .i64 0]) (by simp [results, Tryz.results39, go_sem, q0, q1, q2, q3]) rfl ?_
      rw [hY.out]
      exact ⟨a', c', _, _, _, _, _, _, rfl, HX2.out.keeps hk5 (fun e => by omega), own_keeps HO2.out hk5 (fun k hk e => by
        have e' : k = w.heap.size + 1 := e
        subst e'
        rcases HN2.out _ hk with h | h
        · have := (HO.out.lt _ h).2
          omega
        · omega), fun k hk => (HN2.out k hk).imp id (fun h => by omega), HK2.out.trans (hk5.mono (fun k hk e => e)) (fun k hk e => by have e' : k = w.heap.size + 1 := e; omega)⟩
  | true =>
    have hY : Hid (x.char t v fl = x.empty.add t v fl S) := by
      show _ = _
      unfold Rx.char
      rw [hV.out, HS2.out]
      rfl
    have HAD := hid (fun W h o b => rxadd_short g base x.empty none 0 t v fl S W h o hg b (Nat.zero_lt_succ _))
    obtain ⟨d4, d5⟩ : x.act = true ∧ decide (x.t35 ≤ S) = true := by
      have h := hV.out
      unfold Rx.ends at h
      rw [HS2.out] at h
      simpa using h
    rw [d4] at x7
    clear d4
    go_wp2_with fail
    obtain ⟨W1, hW1⟩ : ∃ W, W = W0.alloc (.cells #[.slice none 0 0, .int .i64 0, .int .i64 0, .int .i64 0] 81) := ⟨_, rfl⟩
    rw [← hW1]
    have hb1 : Below W0.heap.size W0 W1 := by rw [hW1]; exact bal' _ _
    have p2 : W1.heap[W0.heap.size]? = some (.cells #[.slice none 0 0, .int .i64 0, .int .i64 0, .int .i64 0] 81) := by
      rw [hW1]
      exact hpNew _ _
    have hb1w := bt B0.out hb1 (Nat.le_refl _)
    have HT := hid (rxtake_any g x a x.bs.length c W1 (HX0.out.keep hb1))
    clear hW1 e0 e1 e2 x2 x7
    refine HT.out.mono ?_
    rintro r w1 ⟨rfl, hx1, hk1⟩
    have p0 := hpKeeps (hpKeep P0.out hb1) hk1 (fun e => by have e' : w.heap.size = g := e; omega)
    have p1 := hpKeeps (hpKeep P1.out hb1) hk1 (fun e => by have e' : w.heap.size + 1 = g := e; omega)
    have p3 := hpKeeps p2 hk1 (fun e => by have e' : W0.heap.size = g := e; omega)
    have hz1 := Nat.le_trans hb1.size hk1.size
    have hl3 := hpLt p3
    obtain ⟨e0, e1, e2⟩ : w1.cell? ⟨w.heap.size, 0, none⟩ = some (.int .i64 t) ∧ w1.cell? ⟨w.heap.size, 1, none⟩ = some (.int .u8 (v.toNat : Int)) ∧ w1.cell? ⟨w.heap.size, 2, none⟩ = some (.int .i64 fl) := ⟨hpCell p0 0, hpCell p0 1, hpCell p0 2⟩
    obtain ⟨u0, u1, u2, u3⟩ : w1.cell? ⟨W0.heap.size, 0, none⟩ = some (.slice none 0 0) ∧ w1.cell? ⟨W0.heap.size, 1, none⟩ = some (.int .i64 0) ∧ w1.cell? ⟨W0.heap.size, 2, none⟩ = some (.int .i64 0) ∧ w1.cell? ⟨W0.heap.size, 3, none⟩ = some (.int .i64 0) := ⟨hpCell p3 0, hpCell p3 1, hpCell p3 2, hpCell p3 3⟩
    obtain ⟨v0, v1, v2, v3⟩ : w1.frozen? ⟨W0.heap.size, 0, none⟩ = false ∧ w1.frozen? ⟨W0.heap.size, 1, none⟩ = false ∧ w1.frozen? ⟨W0.heap.size, 2, none⟩ = false ∧ w1.frozen? ⟨W0.heap.size, 3, none⟩ = false := ⟨hpFree p3 0, hpFree p3 1, hpFree p3 2, hpFree p3 3⟩
    have hne0 : W0.heap.size ≠ w.heap.size := by omega
    have HX1 := hid hx1
    have HP1 := hid p1
    have HP3 := hid p3
    have HK1 := hid hk1
    clear hx1 hk1 p1 p3 p0 p2
    go_wp2_with fail
    obtain ⟨W6, hW6⟩ : ∃ W, W = (((w1.setCell ⟨W0.heap.size, 0, none⟩ (.slice a x.bs.length c)).setCell ⟨W0.heap.size, 1, none⟩ (.int .i64 x.f1)).setCell ⟨W0.heap.size, 2, none⟩ (.int .i64 x.f2)).setCell ⟨W0.heap.size, 3, none⟩ (.int .i64 x.fl) := ⟨_, rfl⟩
    rw [← hW6]
    have hk6 : Keeps (· = W0.heap.size) w1 W6 := by rw [hW6]; exact kset' (kset' (kset' (kset' (Keeps.refl _ _) _ _) _ _) _ _) _ _
    have p6 : W6.heap[W0.heap.size]? = some (.cells #[.slice a x.bs.length c, .int .i64 x.f1, .int .i64 x.f2, .int .i64 x.fl] 81) := by rw [hW6]; exact hpSet (hpSet (hpSet (hpSet HP3.out 0 _) 1 _) 2 _) 3 _
    have hk7 : Keeps (· = g) w W6 := ((Keeps.of_below hb1w).trans HK1.out (fun _ _ h => h)).trans (hk6.mono (fun k hk e => e)) (fun k hk e => by have e' : k = W0.heap.size := e; omega)
    have hz6 := hk6.size
    have HC := hid (HAD.out W6 (HX1.out.keeps hk6 (fun e => by have e' : g = W0.heap.size := e; omega)) (World.ownsRow_nil _ _ _ _) (by omega))
    have p1 := hpKeeps HP1.out hk6 (fun e => by have e' : w.heap.size + 1 = W0.heap.size := e; omega)
    have HP1' := hid p1
    clear hW6 u0 u1 u2 u3 v0 v1 v2 v3 e0 e1 e2 p1
    refine HC.out.mono ?_
    rintro r w2 ⟨a', c', rfl, hx2, ho2, hn2, hk2⟩
    have hk2' : Keeps (· = g) W6 w2 := hk2.mono (fun k hk e => e.elim id (fun h => by cases h))
    have p1 := hpKeeps HP1'.out hk2' (fun e => by have e' : w.heap.size + 1 = g := e; omega)
    have p3 := hpKeeps p6 hk2' (fun e => by have e' : W0.heap.size = g := e; omega)
    have hne : W0.heap.size ≠ w.heap.size + 1 := by omega
    have HX2 := hid hx2
    have HO2 := hid ho2
    have HN2 : Hid (∀ k, (Value.slice a' (x.empty.add t v fl S).bs.length c').ownBlock = some k → w.heap.size + 2 ≤ k) := fun k hk => by
      rcases hn2 with h | ⟨j, h, hj⟩
      · rw [h] at hk; cases hk
      · rw [h] at hk
        cases hk
        have := Z0.out
        omega
    have HK2 : Hid (Keeps (· = g) w w2) := hk7.trans hk2' (fun _ _ h => h)
    have hs2 : w.heap.size + 1 < w2.heap.size := hpLt p1
    obtain ⟨u0, u1, u2, u3⟩ : w2.cell? ⟨W0.heap.size, 0, none⟩ = some (.slice a x.bs.length c) ∧ w2.cell? ⟨W0.heap.size, 1, none⟩ = some (.int .i64 x.f1) ∧ w2.cell? ⟨W0.heap.size, 2, none⟩ = some (.int .i64 x.f2) ∧ w2.cell? ⟨W0.heap.size, 3, none⟩ = some (.int .i64 x.fl) := ⟨hpCell p3 0, hpCell p3 1, hpCell p3 2, hpCell p3 3⟩
    obtain ⟨y0, y1, y2, y3⟩ : w2.cell? ⟨w.heap.size + 1, 0, none⟩ = some (.slice none 0 0) ∧ w2.cell? ⟨w.heap.size + 1, 1, none⟩ = some (.int .i64 0) ∧ w2.cell? ⟨w.heap.size + 1, 2, none⟩ = some (.int .i64 0) ∧ w2.cell? ⟨w.heap.size + 1, 3, none⟩ = some (.int .i64 0) := ⟨hpCell p1 0, hpCell p1 1, hpCell p1 2, hpCell p1 3⟩; obtain ⟨z0, z1, z2, z3⟩ : w2.frozen? ⟨w.heap.size + 1, 0, none⟩ = false ∧ w2.frozen? ⟨w.heap.size + 1, 1, none⟩ = false ∧ w2.frozen? ⟨w.heap.size + 1, 2, none⟩ = false ∧ w2.frozen? ⟨w.heap.size + 1, 3, none⟩ = false := ⟨hpFree p1 0, hpFree p1 1, hpFree p1 2, hpFree p1 3⟩
    clear p6 hk6 hk7 hx2 ho2 hn2 hk2 hk2'
    go_wp2
    obtain ⟨W5, hW5⟩ : ∃ W, W = (((w2.setCell ⟨w.heap.size + 1, 0, none⟩ (.slice a x.bs.length c)).setCell ⟨w.heap.size + 1, 1, none⟩ (.int .i64 x.f1)).setCell ⟨w.heap.size + 1, 2, none⟩ (.int .i64 x.f2)).setCell ⟨w.heap.size + 1, 3, none⟩ (.int .i64 x.fl) := ⟨_, rfl⟩; rw [← hW5]; have m5 := hpSet (hpSet (hpSet (hpSet p1 0 (.slice a x.bs.length c)) 1 (.int .i64 x.f1)) 2 (.int .i64 x.f2)) 3 (.int .i64 x.fl); rw [← hW5] at m5; obtain ⟨q0, q1, q2, q3⟩ : W5.cell? ⟨w.heap.size + 1, 0, none⟩ = some (.slice a x.bs.length c) ∧ W5.cell? ⟨w.heap.size + 1, 1, none⟩ = some (.int .i64 x.f1) ∧ W5.cell? ⟨w.heap.size + 1, 2, none⟩ = some (.int .i64 x.f2) ∧ W5.cell? ⟨w.heap.size + 1, 3, none⟩ = some (.int .i64 x.fl) := ⟨hpCell m5 0, hpCell m5 1, hpCell m5 2, hpCell m5 3⟩; have hk5 : Keeps (· = w.heap.size + 1) w2 W5 := by rw [hW5]; exact kset' (kset' (kset' (kset' (Keeps.refl _ _) _ _) _ _) _ _) _ _
    clear u0 u1 u2 u3 y0 y1 y2 y3 z0 z1 z2 z3 hW5 p1 p3
    refine bodyPost_ret (v := .tuple #[.agg #[.slice a x.bs.length c, .int .i64 x.f1, .int .i64 x.f2, .int .i64 x.fl], .bool true, .int .i64 0]) (by simp [results, Tryz.results39, go_sem, q0, q1, q2, q3]) rfl ?_
    rw [hY.out]
    exact ⟨a', c', _, _, _, _, _, _, rfl, HX2.out.keeps hk5 (fun e => by omega), own_keeps HO2.out hk5 (fun k hk e => by
      have e' : k = w.heap.size + 1 := e
      subst e'
      have := HN2.out _ hk
      omega), fun k hk => .inr (by have := HN2.out k hk; omega), (HK2.out.mono (fun k hk e => .inl e)).trans (hk5.mono (fun k hk e => e)) (fun k hk e => by have e' : k = w.heap.size + 1 := e; omega)⟩

/-- What Idle leaves where the frame has ended. -/
def RxIdled (w : World) (g : Nat) (x : Rx) (a : Option Addr) (n c : Nat) (tick : Int) (r : Ending) (w' : World) : Prop :=
  r = .returned (.tuple #[.agg #[.slice a n c, .int .i64 x.f1, .int .i64 x.f2, .int .i64 x.fl], .bool true]) ∧ RxAt w' g { x.empty with id := tick } none 0 0 ∧ Keeps (· = g) w w'

set_option maxRecDepth 100000 in
set_option maxHeartbeats 6400000 in
theorem rxidle_ok (g : Nat) (x : Rx) (a : Option Addr) (n c : Nat) (tick : Int) (w : World) (hx : RxAt w g x a n c) (ha : x.act = true) (h1 : 0 ≤ x.la) (h2 : x.la ≤ 1152921504606846976) (h3 : 0 ≤ x.t35) (h4 : x.t35 ≤ 40000) (h5 : 0 ≤ x.ch) (h6 : x.ch ≤ 40000) (h7 : x.id ≤ tick) (h8 : x.la + x.t35 + x.ch ≤ tick) (h9 : tick ≤ 1152921504606846976) :
    Calls Tryz.prog 44 #[.pointer (some ⟨g, 0, none⟩), .int .i64 tick] w (RxIdled w g x a n c tick) := by
  have c8 : w.cell? ⟨g, 8, none⟩ = some (.int .i64 x.la) := hx.cell 8
  have c9 : w.cell? ⟨g, 9, none⟩ = some (.int .i64 x.id) := hx.cell 9
  have f9 : w.frozen? ⟨g, 9, none⟩ = false := hx.free 9
  have d0 : decide (tick < 0) = false := decide_eq_false (by omega)
  have d1 : decide (tick < x.la) = false := decide_eq_false (by omega)
  have d2 : decide (tick < x.id) = false := decide_eq_false (by omega)
  have d3 : decide (1152921504606846976 < tick) = false := decide_eq_false (by omega)
  have d4 : decide (tick < x.la + x.t35 + x.ch) = false := decide_eq_false (by omega)
  have hgw := hx.lt
  have HX := hid hx
  clear hx
  go_enter Tryz.func44, Tryz.ntmps44
  go_wp2_with fail
  obtain ⟨W1, hW1⟩ : ∃ W, W = (w.setCell ⟨g, 9, none⟩ (.int .i64 tick)).alloc (.cells #[.slice none 0 0, .int .i64 0, .int .i64 0, .int .i64 0] 81) := ⟨_, rfl⟩
  rw [← hW1]
  have hx1 : RxAt W1 g { x with id := tick } a n c := by rw [hW1]; exact RxAt.keep (hpSetE HX.out rfl) (bal' _ _)
  have p1 : W1.heap[w.heap.size]? = some (.cells #[.slice none 0 0, .int .i64 0, .int .i64 0, .int .i64 0] 81) := by
    rw [hW1]
    have := hpNew (w.setCell ⟨g, 9, none⟩ (.int .i64 tick)) (.cells #[.slice none 0 0, .int .i64 0, .int .i64 0, .int .i64 0] 81)
    simpa using this
  have hk1 : Keeps (· = g) w W1 := by rw [hW1]; exact (kset' (Keeps.refl _ _) _ _).trans (Keeps.of_below (bal' _ _)) (fun _ _ h => h)
  have HD := hid (rxdead_yes g _ a n c W1 hx1 ha h1 h2 h3 h4 h5 h6)
  have HX1 := hid hx1
  have HP1 := hid p1
  have HK1 := hid hk1
  clear hW1 hx1 p1 hk1 c8 c9 f9 d0 d1 d2 d3 ha h7 h8 h9
  refine HD.out.mono ?_
  rintro r w2 ⟨rfl, hb2⟩
  have HT := hid (rxtake_any g _ a n c w2 (HX1.out.keep hb2))
  go_wp2_with fail
  refine HT.out.mono ?_
  rintro r w3 ⟨rfl, hx3, hk3⟩
  have hz := HK1.out.size
  have p3 := hpKeeps (hpKeep HP1.out hb2) hk3 (fun e => by have e' : w.heap.size = g := e; omega)
  obtain ⟨y0, y1, y2, y3⟩ : w3.cell? ⟨w.heap.size, 0, none⟩ = some (.slice none 0 0) ∧ w3.cell? ⟨w.heap.size, 1, none⟩ = some (.int .i64 0) ∧ w3.cell? ⟨w.heap.size, 2, none⟩ = some (.int .i64 0) ∧ w3.cell? ⟨w.heap.size, 3, none⟩ = some (.int .i64 0) := ⟨hpCell p3 0, hpCell p3 1, hpCell p3 2, hpCell p3 3⟩
  obtain ⟨z0, z1, z2, z3⟩ : w3.frozen? ⟨w.heap.size, 0, none⟩ = false ∧ w3.frozen? ⟨w.heap.size, 1, none⟩ = false ∧ w3.frozen? ⟨w.heap.size, 2, none⟩ = false ∧ w3.frozen? ⟨w.heap.size, 3, none⟩ = false := ⟨hpFree p3 0, hpFree p3 1, hpFree p3 2, hpFree p3 3⟩
  have HX3 := hid hx3
  have HK3 : Hid (Keeps (· = g) w w3) := (HK1.out.trans (Keeps.of_below hb2) (fun _ _ h => h)).trans hk3 (fun _ _ h => h)
  clear hx3 hk3
  go_wp2
  obtain ⟨W5, hW5⟩ : ∃ W, W = (((w3.setCell ⟨w.heap.size, 0, none⟩ (.slice a n c)).setCell ⟨w.heap.size, 1, none⟩ (.int .i64 x.f1)).setCell ⟨w.heap.size, 2, none⟩ (.int .i64 x.f2)).setCell ⟨w.heap.size, 3, none⟩ (.int .i64 x.fl) := ⟨_, rfl⟩
  rw [← hW5]
  have m5 : W5.heap[w.heap.size]? = some (.cells #[.slice a n c, .int .i64 x.f1, .int .i64 x.f2, .int .i64 x.fl] 81) := by rw [hW5]; exact hpSet (hpSet (hpSet (hpSet p3 0 _) 1 _) 2 _) 3 _
  obtain ⟨q0, q1, q2, q3⟩ : W5.cell? ⟨w.heap.size, 0, none⟩ = some (.slice a n c) ∧ W5.cell? ⟨w.heap.size, 1, none⟩ = some (.int .i64 x.f1) ∧ W5.cell? ⟨w.heap.size, 2, none⟩ = some (.int .i64 x.f2) ∧ W5.cell? ⟨w.heap.size, 3, none⟩ = some (.int .i64 x.fl) := ⟨hpCell m5 0, hpCell m5 1, hpCell m5 2, hpCell m5 3⟩
  have hk5 : Keeps (· = w.heap.size) w3 W5 := by rw [hW5]; exact kset' (kset' (kset' (kset' (Keeps.refl _ _) _ _) _ _) _ _) _ _
  clear y0 y1 y2 y3 z0 z1 z2 z3 hW5 p3 m5
  refine bodyPost_ret (v := .tuple #[.agg #[.slice a n c, .int .i64 x.f1, .int .i64 x.f2, .int .i64 x.fl], .bool true]) (by simp [results, Tryz.results44, go_sem, q0, q1, q2, q3]) rfl ?_
  exact ⟨rfl, HX3.out.keeps hk5 (fun e => by have e' : g = w.heap.size := e; omega), HK3.out.trans (hk5.mono (fun k hk e => e)) (fun k hk e => by have e' : k = w.heap.size := e; omega)⟩

end Go.Proofs.YtpmidoneoonlcaaGreat
