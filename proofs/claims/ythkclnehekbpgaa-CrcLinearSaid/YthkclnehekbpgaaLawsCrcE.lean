/-
  The walk of the law CrcLinear.
-/
import Derived.Test.YthkclnehekbpgaaLawsCrcB
import Derived.Test.YthkclnehekbpgaaFlip
import Derived.BigRegion
import Derived.Deep.RegionHeld3
import Derived.StillTailTactics
import Derived.Deep.OwnRows
import Derived.Test.YthkclnehekbpgaaZeros
import Derived.Test.YthkclnehekbpgaaClone
namespace Go.Proofs.Ythkclnehekbpgaa
open Go.RowKit

/-- Two byte strings added bit by bit. -/
def xorL (a b : List UInt8) : List UInt8 := List.zipWith (fun x y => x ^^^ y) a b

theorem upd_xor (s t : Nat) (x y : UInt8) : crcUpd (s ^^^ t) (x ^^^ y).toNat = crcUpd s x.toNat ^^^ crcUpd t y.toNat := by
  unfold crcUpd
  rw [← steps_xor, UInt8.toNat_xor]
  congr 1
  rw [Nat.xor_assoc, Nat.xor_assoc]
  congr 1
  rw [← Nat.xor_assoc, Nat.xor_comm t, Nat.xor_assoc]

theorem ext_xor : ∀ (a b : List UInt8) (s t : Nat), a.length = b.length → crcExt s a ^^^ crcExt t b = crcExt (s ^^^ t) (xorL a b)
  | [], [], s, t, _ => rfl
  | x :: a, y :: b, s, t, h => by
    have e1 : crcExt s (x :: a) = crcExt (crcUpd s x.toNat) a := rfl
    have e2 : crcExt t (y :: b) = crcExt (crcUpd t y.toNat) b := rfl
    have e3 : crcExt (s ^^^ t) (xorL (x :: a) (y :: b)) = crcExt (crcUpd (s ^^^ t) (x ^^^ y).toNat) (xorL a b) := rfl
    rw [e1, e2, e3, upd_xor]
    exact ext_xor a b _ _ (by simpa using h)
  | [], y :: b, _, _, h => by simp at h
  | x :: a, [], _, _, h => by simp at h

theorem u8_xor3 (x y c : UInt8) : (x ^^^ c) ^^^ (y ^^^ c) = x ^^^ y := by
  apply UInt8.toNat_inj.1
  simp only [UInt8.toNat_xor]
  rw [Nat.xor_assoc, Nat.xor_comm y.toNat, ← Nat.xor_assoc c.toNat, Nat.xor_self, Nat.zero_xor]

theorem xorL_3 : ∀ (a b c : List UInt8), a.length = c.length → b.length = c.length → xorL (xorL a c) (xorL b c) = xorL a b
  | [], [], [], _, _ => rfl
  | x :: a, y :: b, z :: c, h, k => by
    have e : xorL (xorL (x :: a) (z :: c)) (xorL (y :: b) (z :: c)) = ((x ^^^ z) ^^^ (y ^^^ z)) :: xorL (xorL a c) (xorL b c) := rfl
    rw [e, u8_xor3, xorL_3 a b c (by simpa using h) (by simpa using k)]
    rfl
  | _ :: _, _, [], h, _ => by simp at h
  | [], _, _ :: _, h, _ => by simp at h
  | _, _ :: _, [], _, k => by simp at k
  | _, [], _ :: _, _, k => by simp at k

theorem linear (a b c : List UInt8) (h : a.length = c.length) (k : b.length = c.length) :
    crcExt 65535 (xorL a c) ^^^ crcExt 65535 (xorL b c) = crcExt 65535 a ^^^ crcExt 65535 b := by
  rw [ext_xor _ _ _ _ (by simp [xorL]; omega), ext_xor _ _ _ _ (by omega), xorL_3 a b c h k]

/-- Where the sum stands behind k rounds: the rest is still zero. -/
def xorAt (a c : List UInt8) (k : Nat) : List UInt8 := xorL (a.take k) (c.take k) ++ List.replicate (a.length - k) 0

theorem xorAt_step (a c : List UInt8) (k : Nat) (h : a.length = c.length) (hk : k < a.length) :
    (xorAt a c k).set k (a.getD k 0 ^^^ c.getD k 0) = xorAt a c (k + 1) := by
  unfold xorAt
  have e1 : (xorL (a.take k) (c.take k)).length = k := by simp [xorL]; omega
  rw [List.set_append_right _ _ (by omega), e1, Nat.sub_self]
  obtain ⟨m, hm⟩ : ∃ m, a.length - k = m + 1 := ⟨a.length - k - 1, by omega⟩
  rw [hm, show a.length - (k + 1) = m by omega]
  have e2 : xorL (a.take (k + 1)) (c.take (k + 1)) = xorL (a.take k) (c.take k) ++ [a.getD k 0 ^^^ c.getD k 0] := by
    unfold xorL
    rw [List.take_succ_eq_append_getElem hk, List.take_succ_eq_append_getElem (by omega : k < c.length), List.zipWith_append (by simp; omega)]
    simp [List.getD, hk, (by omega : k < c.length)]
  rw [e2]
  simp [List.replicate_succ]

theorem xorAt_zero (a c : List UInt8) : xorAt a c 0 = List.replicate a.length 0 := by simp [xorAt, xorL]
theorem xorAt_all (a c : List UInt8) (h : a.length = c.length) : xorAt a c a.length = xorL a c := by
  unfold xorAt
  rw [List.take_length, h, List.take_length]
  simp
theorem xorAt_length (a c : List UInt8) (h : a.length = c.length) (k : Nat) (hk : k ≤ a.length) : (xorAt a c k).length = a.length := by
  simp [xorAt, xorL]; omega

theorem u16_xor_val (s t : Nat) (hs : s < 65536) (ht : t < 65536) : bits .xor .u16 (s : Int) (t : Int) = ((s ^^^ t : Nat) : Int) := u16_xor_nat s t hs ht

theorem Bs.cellk {w : World} {aa : Option Addr} {n ca : Nat} {l : List UInt8} (h : Bs w (.slice aa n ca) l) {k : Nat} (hk : k < n) : ∃ b o, aa = some ⟨b, o, none⟩ ∧ w.cell? ⟨b, o + k, none⟩ = some (.int .u8 ((l.getD k 0).toNat : Int)) := by
  obtain ⟨a, c, hv, h1, h2, h3, h4⟩ := h
  cases hv
  obtain ⟨b, o, ha, hc⟩ := h4 (by rintro rfl; simp at hk)
  exact ⟨b, o, ha, hc k hk⟩

theorem xor_u8 (a X : UInt8) : Value.int .u8 (bits .xor .u8 (a.toNat : Int) (X.toNat : Int)) = byteV (a ^^^ X) := by
  rw [u8_xor_nat a.toNat X.toNat (byte_lt a) (byte_lt X)]
  unfold byteV
  rw [UInt8.toNat_xor]

theorem min4 (P : Program) (x y z u m1 m2 m3 : Int) (e1 : (if y < x then y else x) = m1) (e2 : (if z < m1 then z else m1) = m2) (e3 : (if u < m2 then u else m2) = m3) (ts : Array TypeId) (T : TypeId) (W : World) :
    (Builtin.min_ ts T #[.int .i64 x, .int .i64 y, .int .i64 z, .int .i64 u]).run P W = .ok (.int .i64 m3) W := by
  subst e1; subst e2; subst e3
  simp [Builtin.min_, Builtin.min2]

theorem own_made0 (w : World) (base n : Nat) (hb : base ≤ w.heap.size) (hn : n ≤ 64) :
    (w.alloc (.cells (madeCells #[.int .u8 0] n) 5)).ownsRow base 5 1 (.slice (some ⟨w.heap.size, 0, none⟩) n n) n (u8s (List.replicate n 0)) := by
  refine ⟨by simp, .inr ⟨w.heap.size, n, _, rfl, hb, heap_alloc_new _ _, Nat.le_refl _, by unfold maxLen; omega, by simp [size_madeCells], ?_⟩⟩
  rw [made_one, Nat.mul_one, List.take_of_length_le (by simp)]
  simp [u8s, byteV]

set_option maxRecDepth 100000 in
set_option maxHeartbeats 6400000 in
theorem Walk.crcLinear (va : Value) (la : List UInt8) (w : World) (ha : Bs w va la) (vb : Value) (lb : List UInt8) (hb : Bs w vb lb) (vc : Value) (lc : List UInt8) (hc : Bs w vc lc) :
    Calls Try.prog 14 #[va, vb, vc] w fun r w' => r = .returned (.bool true) ∧ Below w.heap.size w w' := by
  have h1 := ha.len
  have h2 := hb.len
  have h3 := hc.len
  unfold maxLen at h1 h2 h3
  obtain ⟨aa, ca, rfl, hca, hca2, _⟩ := id ha
  obtain ⟨ab, cb, rfl, hcb, hcb2, _⟩ := id hb
  obtain ⟨ac, cc, rfl, hcc, hcc2, _⟩ := id hc
  unfold maxLen at hca2 hcb2 hcc2
  obtain ⟨m1, m2, n, e1, e2, e3, hn64, hna, hnb, hnc⟩ : ∃ (m1 m2 : Int) (n : Nat), (if (lb.length : Int) < (la.length : Int) then (lb.length : Int) else (la.length : Int)) = m1 ∧ (if (lc.length : Int) < m1 then (lc.length : Int) else m1) = m2 ∧ (if (64 : Int) < m2 then (64 : Int) else m2) = (n : Int) ∧ n ≤ 64 ∧ n ≤ la.length ∧ n ≤ lb.length ∧ n ≤ lc.length := by
    refine ⟨_, _, min (min (min lb.length la.length) lc.length) 64, rfl, rfl, ?_, by omega, by omega, by omega, by omega⟩
    split <;> split <;> split <;> omega
  have HA := hid (bs_take ha n hna).1
  have HB := hid (bs_take hb n hnb).1
  have HC := hid (bs_take hc n hnc).1
  have la1 : (la.take n).length = n := by simp; omega
  have lb1 : (lb.take n).length = n := by simp; omega
  have lc1 : (lc.take n).length = n := by simp; omega
  have hnca : n ≤ ca := by omega
  have hncb : n ≤ cb := by omega
  have hmk := run_make_row' (P := Try.prog) 26 5 (.int .u8 0) 1 Try.underlying26 infoB rfl .i64 .i64 n (by omega) (by omega)
  clear ha hb hc
  generalize la.take n = a at *
  generalize lb.take n = b at *
  generalize lc.take n = c at *
  generalize la.length = na at *
  generalize lb.length = nb at *
  generalize lc.length = nc at *
  have HL := hid (linear a b c (by omega) (by omega))
  have HSA := hid (fun k hk => xorAt_step a c k (by omega) hk)
  have HSB := hid (fun k hk => xorAt_step b c k (by omega) hk)
  have HZA := hid (xorAt_zero a c)
  have HZB := hid (xorAt_zero b c)
  have HEA := hid (xorAt_all a c (by omega))
  have HEB := hid (xorAt_all b c (by omega))
  rw [la1] at HSA HZA HEA
  rw [lb1] at HSB HZB HEB
  have LA := hid la1
  have LB := hid lb1
  have LC := hid lc1
  clear la1 lb1 lc1
  have hmin : ∀ W : World, (Builtin.min_ #[3, 3, 3, 3] 3 #[.int .i64 na, .int .i64 nb, .int .i64 nc, .int .i64 64]).run Try.prog W = .ok (.int .i64 n) W := by
    intro W
    exact min4 _ _ _ _ _ _ _ _ e1 e2 e3 _ _ _
  clear e1 e2 e3
  go_enter Try.func14, Try.ntmps14
  go_wp2
  go_region
  · go_wp2
    have hx0 : (w.alloc (.cells (madeCells #[.int .u8 0] n) 5)).ownsRow w.heap.size 5 1 (.slice (some ⟨w.heap.size, 0, none⟩) n n) n (u8s (List.replicate n 0)) := own_made0 w _ n (Nat.le_refl _) hn64
    have hy1 : ((w.alloc (.cells (madeCells #[.int .u8 0] n) 5)).alloc (.cells (madeCells #[.int .u8 0] n) 5)).ownsRow w.heap.size 5 1 (.slice (some ⟨w.heap.size + 1, 0, none⟩) n n) n (u8s (List.replicate n 0)) := by
      have h := own_made0 (w.alloc (.cells (madeCells #[.int .u8 0] n) 5)) w.heap.size n (by simp) hn64
      rwa [show (w.alloc (.cells (madeCells #[.int .u8 0] n) 5)).heap.size = w.heap.size + 1 by simp] at h
    have hx1 := hx0.alloc (.cells (madeCells #[.int .u8 0] n) 5)
    have hbel : Below w.heap.size w ((w.alloc (.cells (madeCells #[.int .u8 0] n) 5)).alloc (.cells (madeCells #[.int .u8 0] n) 5)) := (bal' w _).alloc (by simp) _
    rw [← HZA.out] at hx1
    rw [← HZB.out] at hy1
    go_loopw [10] (fun i wr => ∃ k : Nat, k ≤ n ∧ i = .int .i64 k ∧ wr.ownsRow w.heap.size 5 1 (.slice (some ⟨w.heap.size, 0, none⟩) n n) n (u8s (xorAt a c k)) ∧ wr.ownsRow w.heap.size 5 1 (.slice (some ⟨w.heap.size + 1, 0, none⟩) n n) n (u8s (xorAt b c k)) ∧ Below w.heap.size w wr) (fun i _ => n - (intOf i).toNat)
    case atStart => exact ⟨0, Nat.zero_le _, rfl, hx1, hy1, hbel.drew⟩
    case round =>
      clear hx0 hx1 hy1 hbel
      obtain ⟨k, hk, rfl, hox, hoy, hbw⟩ := hrel
      by_cases hlt : k < n
      · obtain ⟨ba, oa, rfl, da⟩ := HA.out.cellk hlt
        obtain ⟨bb, ob, rfl, db⟩ := HB.out.cellk hlt
        obtain ⟨bc, oc, rfl, dc⟩ := HC.out.cellk hlt
        have la1 := cell_lt da
        have lb1 := cell_lt db
        have lc1 := cell_lt dc
        replace da := cell_keep hbw da
        replace db := cell_keep hbw db
        replace dc := cell_keep hbw dc
        have dx := ownb_cell hox k hlt
        have dy := ownb_cell hoy k hlt
        have fx := hox.frozenAt k
        have fy := hoy.frozenAt k
        have sx := hox.stored k (byteV (a.getD k 0 ^^^ c.getD k 0))
        have sy1 := hoy.kept sx.2 (.inr (by simp [Value.ownBlock]))
        have sy := sy1.stored k (byteV (b.getD k 0 ^^^ c.getD k 0))
        have sx2 := sx.1.kept sy.2 (.inr (by simp [Value.ownBlock]))
        have HBE := hid ((hbw.setCell (p := ⟨w.heap.size, k, none⟩) (Nat.le_refl _) (byteV (a.getD k 0 ^^^ c.getD k 0))).setCell (p := ⟨w.heap.size + 1, k, none⟩) (Nat.le_succ _) (byteV (b.getD k 0 ^^^ c.getD k 0)))
        have sx3 := sx2
        have sy3 := sy.1
        rw [u8s_set, HSA.out k hlt] at sx3
        rw [u8s_set, HSB.out k hlt] at sy3
        replace sx3 := hid sx3
        replace sy3 := hid sy3
        have E1 := hid (xor_u8 (a.getD k 0) (c.getD k 0))
        have E2 := hid (xor_u8 (b.getD k 0) (c.getD k 0))
        clear sx sy1 sy sx2 hox hoy
        generalize a.getD k 0 = xa at *
        generalize b.getD k 0 = xb at *
        generalize c.getD k 0 = xc at *
        have hki : (0 : Int) ≤ (k : Int) := Int.natCast_nonneg _
        have hkl : (k : Int) < (n : Int) := by omega
        go_wp2
        go_region
        all_goals
          go_wp2
          go_roundw
          case rel =>
            rw [E1.out, E2.out]
            exact ⟨k + 1, by omega, by go_num, sx3.out, sy3.out, HBE.out.drew⟩
          case measure => simp [intOf]; omega
      · obtain rfl : k = n := by omega
        rw [HEA.out] at hox
        rw [HEB.out] at hoy
        have bx := hid (Bs.own hox)
        have by_ := hid (Bs.own hoy)
        clear hox hoy
        have S1 : Hid (∀ W, Below wr.heap.size wr W → Calls Try.prog 35 #[.slice aa k ca] W fun r w' => r = .returned (.int .u16 (crcExt 65535 a)) ∧ W = w') := fun W hW => sum_any _ _ W ((HA.out.keep hbw).keep hW)
        have S2 : Hid (∀ W, Below wr.heap.size wr W → Calls Try.prog 35 #[.slice ab k cb] W fun r w' => r = .returned (.int .u16 (crcExt 65535 b)) ∧ W = w') := fun W hW => sum_any _ _ W ((HB.out.keep hbw).keep hW)
        have S3 : Hid (∀ W, Below wr.heap.size wr W → Calls Try.prog 35 #[.slice (some ⟨w.heap.size, 0, none⟩) k k] W fun r w' => r = .returned (.int .u16 (crcExt 65535 (xorL a c))) ∧ W = w') := fun W hW => sum_any _ _ W (bx.out.keep hW)
        have S4 : Hid (∀ W, Below wr.heap.size wr W → Calls Try.prog 35 #[.slice (some ⟨w.heap.size + 1, 0, none⟩) k k] W fun r w' => r = .returned (.int .u16 (crcExt 65535 (xorL b c))) ∧ W = w') := fun W hW => sum_any _ _ W (by_.out.keep hW)
        have t1 := crcExt_lt a (show 65535 < 65536 by decide)
        have t2 := crcExt_lt b (show 65535 < 65536 by decide)
        have t3 := crcExt_lt (xorL a c) (show 65535 < 65536 by decide)
        have t4 := crcExt_lt (xorL b c) (show 65535 < 65536 by decide)
        have E := hid (show (bits .xor .u16 (crcExt 65535 a : Int) (crcExt 65535 b : Int) == bits .xor .u16 (crcExt 65535 (xorL a c) : Int) (crcExt 65535 (xorL b c) : Int)) = true by
          rw [u16_xor_nat _ _ t1 t2, u16_xor_nat _ _ t3 t4, HL.out]; simp)
        generalize crcExt 65535 a = s1 at *
        generalize crcExt 65535 b = s2 at *
        generalize crcExt 65535 (xorL a c) = s3 at *
        generalize crcExt 65535 (xorL b c) = s4 at *
        have E' := E.out
        go_wp2_with fail
        go_region_held (fun W => Below wr.heap.size wr W) ((first | exact (Below.refl _ _).drew | exact Below.refl _ _ | assumption | exact bt (by assumption) (by assumption) (Nat.le_refl _)))
          (first
            | (go_at_call 34; (with_reducible refine (crawake_any _).mono ?_); rintro r w4 ⟨rfl, hbel4⟩)
            | (go_at_call 35; (with_reducible refine (S1.out _ (by assumption)).mono ?_); rintro r w5 ⟨rfl, rfl⟩)
            | (go_at_call 35; (with_reducible refine (S2.out _ (by assumption)).mono ?_); rintro r w5 ⟨rfl, rfl⟩)
            | (go_at_call 35; (with_reducible refine (S3.out _ (by assumption)).mono ?_); rintro r w5 ⟨rfl, rfl⟩)
            | (go_at_call 35; (with_reducible refine (S4.out _ (by assumption)).mono ?_); rintro r w5 ⟨rfl, rfl⟩))
        all_goals
          go_wp2
          go_ret
          exact ⟨rfl, bt hbw (by assumption) (Nat.le_refl _)⟩
  · go_wp2
    have hx0 : (w.alloc (.cells (madeCells #[.int .u8 0] n) 5)).ownsRow w.heap.size 5 1 (.slice (some ⟨w.heap.size, 0, none⟩) n n) n (u8s (List.replicate n 0)) := own_made0 w _ n (Nat.le_refl _) hn64
    have hy1 : ((w.alloc (.cells (madeCells #[.int .u8 0] n) 5)).alloc (.cells (madeCells #[.int .u8 0] n) 5)).ownsRow w.heap.size 5 1 (.slice (some ⟨w.heap.size + 1, 0, none⟩) n n) n (u8s (List.replicate n 0)) := by
      have h := own_made0 (w.alloc (.cells (madeCells #[.int .u8 0] n) 5)) w.heap.size n (by simp) hn64
      rwa [show (w.alloc (.cells (madeCells #[.int .u8 0] n) 5)).heap.size = w.heap.size + 1 by simp] at h
    have hx1 := hx0.alloc (.cells (madeCells #[.int .u8 0] n) 5)
    have hbel : Below w.heap.size w ((w.alloc (.cells (madeCells #[.int .u8 0] n) 5)).alloc (.cells (madeCells #[.int .u8 0] n) 5)) := (bal' w _).alloc (by simp) _
    rw [← HZB.out] at hx1
    rw [← HZA.out] at hy1
    go_loopw [10] (fun i wr => ∃ k : Nat, k ≤ n ∧ i = .int .i64 k ∧ wr.ownsRow w.heap.size 5 1 (.slice (some ⟨w.heap.size + 1, 0, none⟩) n n) n (u8s (xorAt a c k)) ∧ wr.ownsRow w.heap.size 5 1 (.slice (some ⟨w.heap.size, 0, none⟩) n n) n (u8s (xorAt b c k)) ∧ Below w.heap.size w wr) (fun i _ => n - (intOf i).toNat)
    case atStart => exact ⟨0, Nat.zero_le _, rfl, hy1, hx1, hbel.drew⟩
    case round =>
      clear hx0 hx1 hy1 hbel
      obtain ⟨k, hk, rfl, hox, hoy, hbw⟩ := hrel
      by_cases hlt : k < n
      · obtain ⟨ba, oa, rfl, da⟩ := HA.out.cellk hlt
        obtain ⟨bb, ob, rfl, db⟩ := HB.out.cellk hlt
        obtain ⟨bc, oc, rfl, dc⟩ := HC.out.cellk hlt
        have la1 := cell_lt da
        have lb1 := cell_lt db
        have lc1 := cell_lt dc
        replace da := cell_keep hbw da
        replace db := cell_keep hbw db
        replace dc := cell_keep hbw dc
        have dx := ownb_cell hox k hlt
        have dy := ownb_cell hoy k hlt
        have fx := hox.frozenAt k
        have fy := hoy.frozenAt k
        have sx := hox.stored k (byteV (a.getD k 0 ^^^ c.getD k 0))
        have sy1 := hoy.kept sx.2 (.inr (by simp [Value.ownBlock]))
        have sy := sy1.stored k (byteV (b.getD k 0 ^^^ c.getD k 0))
        have sx2 := sx.1.kept sy.2 (.inr (by simp [Value.ownBlock]))
        have HBE := hid ((hbw.setCell (p := ⟨w.heap.size + 1, k, none⟩) (Nat.le_succ _) (byteV (a.getD k 0 ^^^ c.getD k 0))).setCell (p := ⟨w.heap.size, k, none⟩) (Nat.le_refl _) (byteV (b.getD k 0 ^^^ c.getD k 0)))
        have sx3 := sx2
        have sy3 := sy.1
        rw [u8s_set, HSA.out k hlt] at sx3
        rw [u8s_set, HSB.out k hlt] at sy3
        replace sx3 := hid sx3
        replace sy3 := hid sy3
        have E1 := hid (xor_u8 (a.getD k 0) (c.getD k 0))
        have E2 := hid (xor_u8 (b.getD k 0) (c.getD k 0))
        clear sx sy1 sy sx2 hox hoy
        generalize a.getD k 0 = xa at *
        generalize b.getD k 0 = xb at *
        generalize c.getD k 0 = xc at *
        have hki : (0 : Int) ≤ (k : Int) := Int.natCast_nonneg _
        have hkl : (k : Int) < (n : Int) := by omega
        go_wp2
        go_region
        all_goals
          go_wp2
          go_roundw
          case rel =>
            rw [E1.out, E2.out]
            exact ⟨k + 1, by omega, by go_num, sx3.out, sy3.out, HBE.out.drew⟩
          case measure => simp [intOf]; omega
      · obtain rfl : k = n := by omega
        rw [HEA.out] at hox
        rw [HEB.out] at hoy
        have bx := hid (Bs.own hox)
        have by_ := hid (Bs.own hoy)
        clear hox hoy
        have S1 : Hid (∀ W, Below wr.heap.size wr W → Calls Try.prog 35 #[.slice aa k ca] W fun r w' => r = .returned (.int .u16 (crcExt 65535 a)) ∧ W = w') := fun W hW => sum_any _ _ W ((HA.out.keep hbw).keep hW)
        have S2 : Hid (∀ W, Below wr.heap.size wr W → Calls Try.prog 35 #[.slice ab k cb] W fun r w' => r = .returned (.int .u16 (crcExt 65535 b)) ∧ W = w') := fun W hW => sum_any _ _ W ((HB.out.keep hbw).keep hW)
        have S3 : Hid (∀ W, Below wr.heap.size wr W → Calls Try.prog 35 #[.slice (some ⟨w.heap.size + 1, 0, none⟩) k k] W fun r w' => r = .returned (.int .u16 (crcExt 65535 (xorL a c))) ∧ W = w') := fun W hW => sum_any _ _ W (bx.out.keep hW)
        have S4 : Hid (∀ W, Below wr.heap.size wr W → Calls Try.prog 35 #[.slice (some ⟨w.heap.size, 0, none⟩) k k] W fun r w' => r = .returned (.int .u16 (crcExt 65535 (xorL b c))) ∧ W = w') := fun W hW => sum_any _ _ W (by_.out.keep hW)
        have t1 := crcExt_lt a (show 65535 < 65536 by decide)
        have t2 := crcExt_lt b (show 65535 < 65536 by decide)
        have t3 := crcExt_lt (xorL a c) (show 65535 < 65536 by decide)
        have t4 := crcExt_lt (xorL b c) (show 65535 < 65536 by decide)
        have E := hid (show (bits .xor .u16 (crcExt 65535 a : Int) (crcExt 65535 b : Int) == bits .xor .u16 (crcExt 65535 (xorL a c) : Int) (crcExt 65535 (xorL b c) : Int)) = true by
          rw [u16_xor_nat _ _ t1 t2, u16_xor_nat _ _ t3 t4, HL.out]; simp)
        generalize crcExt 65535 a = s1 at *
        generalize crcExt 65535 b = s2 at *
        generalize crcExt 65535 (xorL a c) = s3 at *
        generalize crcExt 65535 (xorL b c) = s4 at *
        have E' := E.out
        go_wp2_with fail
        go_region_held (fun W => Below wr.heap.size wr W) ((first | exact (Below.refl _ _).drew | exact Below.refl _ _ | assumption | exact bt (by assumption) (by assumption) (Nat.le_refl _)))
          (first
            | (go_at_call 34; (with_reducible refine (crawake_any _).mono ?_); rintro r w4 ⟨rfl, hbel4⟩)
            | (go_at_call 35; (with_reducible refine (S1.out _ (by assumption)).mono ?_); rintro r w5 ⟨rfl, rfl⟩)
            | (go_at_call 35; (with_reducible refine (S2.out _ (by assumption)).mono ?_); rintro r w5 ⟨rfl, rfl⟩)
            | (go_at_call 35; (with_reducible refine (S3.out _ (by assumption)).mono ?_); rintro r w5 ⟨rfl, rfl⟩)
            | (go_at_call 35; (with_reducible refine (S4.out _ (by assumption)).mono ?_); rintro r w5 ⟨rfl, rfl⟩))
        all_goals
          go_wp2
          go_ret
          exact ⟨rfl, bt hbw (by assumption) (Nat.le_refl _)⟩

end Go.Proofs.Ythkclnehekbpgaa
