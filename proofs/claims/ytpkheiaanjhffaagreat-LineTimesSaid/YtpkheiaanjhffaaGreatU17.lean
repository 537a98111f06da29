/-
  Texts 17 of the claim.
-/
import Derived.Test.YtpkheiaanjhffaaGreatRows
import Derived.Test.YtpkheiaanjhffaaGreatU01
namespace Go.Proofs.YtpkheiaanjhffaaGreat
open Go.RowKit
def byteBits (x : UInt8) : List Bool := (List.range 8).map fun k => x.toNat.testBit k
def bitsOf (l : List UInt8) : List Bool := l.flatMap byteBits
def bls (l : List Bool) : List Value := l.map .bool
theorem bls_length (l : List Bool) : (bls l).length = l.length := by simp [bls]
theorem bls_append (l k : List Bool) : bls (l ++ k) = bls l ++ bls k := by simp [bls]
theorem byte_lt8 (x : UInt8) : x.toNat < 256 := x.toNat_lt
theorem byteBits_length (x : UInt8) : (byteBits x).length = 8 := by simp [byteBits]
theorem bitsOf_length (l : List UInt8) : (bitsOf l).length = 8 * l.length := by
  induction l with
  | nil => rfl
  | cons x l ih => simp only [bitsOf, List.flatMap_cons, List.length_append, byteBits_length, List.length_cons] at *; omega
def bitsTo (l : List UInt8) (k j : Nat) : List Bool := bitsOf (l.take k) ++ (byteBits (l.getD k 0)).take j
theorem bitsTo_succ (l : List UInt8) (k j : Nat) (hj : j < 8) : bitsTo l k (j + 1) = bitsTo l k j ++ [(l.getD k 0).toNat.testBit j] := by
  unfold bitsTo
  rw [List.append_assoc, List.take_succ_eq_append_getElem (by rw [byteBits_length]; exact hj)]
  simp [byteBits]
theorem bitsTo_byte (l : List UInt8) (k : Nat) (hk : k < l.length) : bitsTo l k 8 = bitsTo l (k + 1) 0 := by
  unfold bitsTo
  have h8 : (byteBits (l.getD k 0)).take 8 = byteBits (l.getD k 0) := List.take_of_length_le (by rw [byteBits_length]; exact Nat.le_refl 8)
  rw [h8, List.take_succ_eq_append_getElem hk]
  simp [bitsOf, List.getD, hk, -List.take_append_getElem]
theorem bitsTo_all (l : List UInt8) : bitsTo l l.length 0 = bitsOf l := by simp [bitsTo]
theorem info4 : (Tryz.prog.info? 4).map (fun i => (i.zero, i.size, i.bytes)) = some (some (.bool false), 1, 1) := by kernel_rfl
theorem shift_bit (x : Nat) (j : Nat) : x / 2 ^ j % 2 = (x.testBit j).toNat := by
  rw [Nat.testBit_eq_decide_div_mod_eq]
  rcases Nat.mod_two_eq_zero_or_one (x / 2 ^ j) with h | h <;> simp [h]
set_option maxRecDepth 100000 in
set_option maxHeartbeats 800000 in
theorem bits_any (v : Value) (l : List UInt8) (w : World) (hv : Bs w v l) (hl : l.length ≤ 1000) :
    Calls Tryz.prog 109 #[v] w fun r w' => ∃ v', r = .returned v' ∧ w'.ownsRow w.heap.size 4 1 v' (8 * l.length) (bls (bitsOf l)) ∧ Below w.heap.size w w' := by
  obtain ⟨i4, hi, hz0, hz1, hz2⟩ := info_parts info4
  have hv2 := hv
  obtain ⟨a, c, rfl, hc, hcm, hac, _⟩ := hv2
  unfold maxLen at hcm
  have HV := hid hv
  clear hv
  go_enter Tryz.func109, Tryz.ntmps109
  go_wp2
  go_loopw [3, 4, 5] (fun v i _ wr => ∃ k : Nat, k ≤ l.length ∧ i = .int .i64 k ∧ wr.ownsRow w.heap.size 4 1 v (8 * k) (bls (bitsTo l k 0)) ∧ Below w.heap.size w wr) (fun _ i _ _ => l.length - (intOf i).toNat)
  case atStart => exact ⟨0, Nat.zero_le _, rfl, by simpa [bitsTo, bitsOf, bls] using World.ownsRow_nil _ _ _ _, Below.refl _ _⟩
  case round =>
    obtain ⟨k, hk, rfl, hown, hbel⟩ := hrel
    by_cases hlt : k < l.length
    · go_wp2
      obtain ⟨wo, hwo⟩ : ∃ wo : World, wo = wr := ⟨_, rfl⟩
      subst hwo
      go_loopw [3, 5] (fun v j wr => ∃ q : Nat, q ≤ 8 ∧ j = .int .u64 q ∧ wr.ownsRow w.heap.size 4 1 v (8 * k + q) (bls (bitsTo l k q)) ∧ Below w.heap.size w wr) (fun _ j _ => 8 - (intOf j).toNat)
      case atStart => exact ⟨0, by omega, rfl, hown, hbel⟩
      case round =>
        clear hown hbel
        obtain ⟨q, hq, rfl, hown, hbel⟩ := hrel
        by_cases hql : q < 8
        · obtain ⟨b, o, rfl, hcell⟩ : ∃ b o, a = some ⟨b, o, none⟩ ∧ wr.cell? ⟨b, o + k, none⟩ = some (.int .u8 ((l.getD k 0).toNat : Int)) := by
            obtain ⟨b, o, c', hv, _, _, hcell⟩ := HV.out.at (by rintro rfl; simp at hlt)
            simp at hv
            exact ⟨b, o, hv.1, by rw [hbel.cell (cell_lt (hcell k hlt))]; exact hcell k hlt⟩
          have hx := byte_lt8 (l.getD k 0)
          have HB := hid (bitsTo_succ l k q hql)
          generalize (l.getD k 0).toNat = x at *
          have hbit : (bits .and .u8 ((x : Int) / 2 ^ q) 1 == 1) = x.testBit q := by
            have hlt2 : x / 2 ^ q < 256 := Nat.lt_of_le_of_lt (Nat.div_le_self _ _) hx
            have h := u8_and_nat (x / 2 ^ q) 1 hlt2 (by omega)
            rw [nat_mask1, shift_bit] at h
            have h2 : (((x / 2 ^ q : Nat)) : Int) = (x : Int) / 2 ^ q := by simp
            rw [h2] at h
            rw [show (1 : Int) = ((1 : Nat) : Int) from rfl, h]
            cases x.testBit q <;> rfl
          go_wp2_with (at_builtin; refine wpList_append_own _ rfl _ _ 165 rfl w.heap.size 4 i4 (.bool false) 1 1 Tryz.underlying165 hi hz0 hz1 hz2 rfl (by decide) _ _ _ rfl (hown.alloc _) ⟨wr.heap.size, 0, none⟩ 1 1 [.bool (x.testBit q)] rfl rfl ?c1 ?c2 ?c3 ?c4 ?c5 ?c6)
          case c1 => exact cell_one_new _ _ _
          case c2 => intro u hu; simp at hu; subst hu; rfl
          case c3 => unfold maxLen; omega
          case c4 => omega
          case c5 => have := hbel.size; simp; omega
          case c6 =>
            intro v' w1 hown1 hgr _
            have hb1 : Below w.heap.size w (wr.alloc (.cells #[.bool (x.testBit q)] 4)) := hbel.alloc hbel.size _
            have hbel1 := hb1.grown hgr hb1.size (fun b hb => (hown.lt b hb).1)
            have HO : Hid (w1.ownsRow w.heap.size 4 1 v' (8 * k + (q + 1)) (bls (bitsTo l k (q + 1)))) := by
              rw [HB.out, bls_append]; exact hid hown1
            clear hown1 hown hgr hbel hb1 hcell hbit
            go_wp2
            go_roundw
            case rel => exact ⟨q + 1, by omega, by go_num, HO.out, hbel1⟩
            case measure => simp [intOf]; omega
        · have hq8 : q = 8 := by omega
          subst hq8
          have HO : Hid (wr.ownsRow w.heap.size 4 1 u3 (8 * (k + 1)) (bls (bitsTo l (k + 1) 0))) := by
            rw [← bitsTo_byte l k hlt]; exact hid hown
          clear hown
          go_wp2
          go_roundw
          case rel => exact ⟨k + 1, by omega, by go_num, HO.out, hbel⟩
          case measure => simp [intOf]; omega
    · have hk2 : k = l.length := by omega
      subst hk2
      go_wp2
      go_ret
      exact ⟨_, rfl, by rw [← bitsTo_all]; exact hown, hbel⟩
def bflip (m : List Bool) (i : Nat) : List Bool := m.set i (!(m.getD i false))
theorem bflip_length (m : List Bool) (i : Nat) : (bflip m i).length = m.length := by simp [bflip]
def bflips (m : List Bool) : Nat → List Bool
  | 0 => m
  | k + 1 => bflip (bflips m k) k
theorem bflips_length (m : List Bool) (k : Nat) : (bflips m k).length = m.length := by
  induction k with
  | zero => rfl
  | succ k ih => rw [bflips, bflip_length, ih]
def divStep (m : List Bool) (i : Nat) : List Bool := if m.getD i false then bflip (bflip (bflip m (i + 1)) (i + 14)) (i + 16) else m
theorem divStep_length (m : List Bool) (i : Nat) : (divStep m i).length = m.length := by unfold divStep; split <;> simp [bflip_length]
def divs (m : List Bool) : Nat → List Bool
  | 0 => m
  | k + 1 => divStep (divs m k) k
theorem divs_length (m : List Bool) (k : Nat) : (divs m k).length = m.length := by
  induction k with
  | zero => rfl
  | succ k ih => rw [divs, divStep_length, ih]
def numOf (b : Nat → Bool) : Nat → Nat
  | 0 => 0
  | k + 1 => if b k then numOf b k ||| 2 ^ k else numOf b k
theorem numOf_lt (b : Nat → Bool) (k : Nat) : numOf b k < 2 ^ k := by
  induction k with
  | zero => simp [numOf]
  | succ k ih =>
    have h2 : 2 ^ k < 2 ^ (k + 1) := Nat.pow_lt_pow_right (by decide) (by omega)
    rw [numOf]
    split
    · exact Nat.or_lt_two_pow (by omega) h2
    · omega
def divM (l : List UInt8) : List Bool := divs (bflips (bitsOf l ++ List.replicate 16 false) 16) (8 * l.length)
theorem divM_length (l : List UInt8) : (divM l).length = 8 * l.length + 16 := by
  rw [divM, divs_length, bflips_length]
  simp [bitsOf_length]
def divSum (l : List UInt8) : Nat := numOf (fun k => (divM l).getD (8 * l.length + k) false) 16
theorem bls_get (m : List Bool) (i : Nat) (h : i < m.length) : (bls m)[i]? = some (.bool (m.getD i false)) := by
  simp [bls, List.getD, h]
theorem bls_set (m : List Bool) (i : Nat) (b : Bool) : (bls m).set i (.bool b) = bls (m.set i b) := by
  simp [bls, List.map_set]
theorem own_cell {w : World} {base : Nat} {e : TypeId} {g n cap : Nat} {m : List Bool} (h : w.ownsRow base e 1 (.slice (some ⟨g, 0, none⟩) n cap) n (bls m)) (i : Nat) (hi : i < n) :
    w.cell? ⟨g, i, none⟩ = some (.bool (m.getD i false)) := by
  have hl : m.length = n := by simpa [bls_length] using h.1
  rw [h.cellAt i (by omega), bls_get m i (by omega)]
theorem own_flip {w : World} {base : Nat} {e : TypeId} {g n cap : Nat} {m : List Bool} (h : w.ownsRow base e 1 (.slice (some ⟨g, 0, none⟩) n cap) n (bls m)) (i : Nat) :
    (w.setCell ⟨g, i, none⟩ (.bool (!(m.getD i false)))).ownsRow base e 1 (.slice (some ⟨g, 0, none⟩) n cap) n (bls (bflip m i)) := by
  rw [bflip, ← bls_set]
  exact (h.stored i _).1
set_option maxRecDepth 100000 in
set_option maxHeartbeats 1600000 in
theorem rsum_any (v : Value) (l : List UInt8) (w : World) (hv : Bs w v l) (hl : l.length ≤ 1000) :
    Calls Tryz.prog 93 #[v] w fun r w' => r = .returned (.int .u16 (divSum l)) ∧ Below w.heap.size w w' := by
  obtain ⟨i4, hi, hz0, hz1, hz2⟩ := info_parts info4
  go_enter Tryz.func93, Tryz.ntmps93
  go_wp2_with (first | (go_at_call 109; refine (bits_any _ _ _ hv hl).mono ?_; rintro r w1 ⟨v1, rfl, hown, hbel⟩) | (at_builtin; refine wpList_zeros rfl _ _ 165 3 rfl w.heap.size 4 i4 (.bool false) 1 Tryz.underlying165 Tryz.underlying3 hi hz0 hz1 hz2 rfl rfl _ _ _ rfl hown 16 rfl (by decide) ?c1 ?c2 ?c3 ?c4))
  case c1 => unfold maxLen; omega
  case c2 => omega
  case c3 => exact hbel.size
  case c4 =>
    intro g cap w2 hcap hcm hg hown2 hgr
    have hbel2 := hbel.grown hgr hbel.size (fun b hb => (hown.lt b hb).1)
    replace hown2 : w2.ownsRow w.heap.size 4 1 (.slice (some ⟨g, 0, none⟩) (8 * l.length + 16) cap) (8 * l.length + 16) (bls (bitsOf l ++ List.replicate 16 false)) := by
      simpa [bls] using hown2
    clear hown hbel hgr
    have hml := divM_length l
    have hm0 : (bitsOf l ++ List.replicate 16 false).length = 8 * l.length + 16 := by simp [bitsOf_length]
    unfold maxLen at hcm
    go_wp2
    go_loopw [4] (fun i wr => ∃ k : Nat, k ≤ 16 ∧ i = .int .i64 k ∧ wr.ownsRow w.heap.size 4 1 (.slice (some ⟨g, 0, none⟩) (8 * l.length + 16) cap) (8 * l.length + 16) (bls (bflips (bitsOf l ++ List.replicate 16 false) k)) ∧ Below w.heap.size w wr) (fun i _ => 16 - (intOf i).toNat)
    case atStart => exact ⟨0, by omega, rfl, hown2, hbel2⟩
    case round =>
      clear hown2 hbel2
      obtain ⟨k, hk, rfl, hown, hbel⟩ := hrel
      by_cases hlt : k < 16
      · have hc := own_cell hown k (by omega)
        have hf := hown.frozenAt k
        have HO := hid (own_flip hown k)
        have HB := hid (hbel.setCell (p := ⟨g, k, none⟩) hg (.bool (!((bflips (bitsOf l ++ List.replicate 16 false) k).getD k false))))
        clear hown hbel
        generalize (bflips (bitsOf l ++ List.replicate 16 false) k).getD k false = x at *
        go_wp2
        go_roundw
        case rel => exact ⟨k + 1, by omega, by go_num, HO.out, HB.out⟩
        case measure => simp [intOf]; omega
      · have hk16 : k = 16 := by omega
        subst hk16
        go_wp2
        go_loopw [5] (fun i wr => ∃ k : Nat, k ≤ 8 * l.length ∧ i = .int .i64 k ∧ wr.ownsRow w.heap.size 4 1 (.slice (some ⟨g, 0, none⟩) (8 * l.length + 16) cap) (8 * l.length + 16) (bls (divs (bflips (bitsOf l ++ List.replicate 16 false) 16) k)) ∧ Below w.heap.size w wr) (fun i _ => 8 * l.length - (intOf i).toNat)
        case atStart => exact ⟨0, by omega, rfl, hown, hbel⟩
        case round =>
          clear hown hbel
          obtain ⟨k, hk, rfl, hown, hbel⟩ := hrel
          by_cases hlt : k < 8 * l.length
          · have hc := own_cell hown k (by omega)
            have hd : divs (bflips (bitsOf l ++ List.replicate 16 false) 16) (k + 1) = divStep (divs (bflips (bitsOf l ++ List.replicate 16 false) 16) k) k := rfl
            generalize divs (bflips (bitsOf l ++ List.replicate 16 false) 16) k = m at *
            unfold divStep at hd
            by_cases hx : m.getD k false = true
            · rw [if_pos hx] at hd
              rw [hx] at hc
              have hc1 := own_cell hown (k + 1) (by omega)
              have hf1 := hown.frozenAt (k + 1)
              have O1 := own_flip hown (k + 1)
              have B1 := hbel.setCell (p := ⟨g, k + 1, none⟩) hg (.bool (!(m.getD (k + 1) false)))
              have hc2 := own_cell O1 (k + 14) (by omega)
              have hf2 := O1.frozenAt (k + 14)
              have O2 := own_flip O1 (k + 14)
              have B2 := B1.setCell (p := ⟨g, k + 14, none⟩) hg (.bool (!((bflip m (k + 1)).getD (k + 14) false)))
              have hc3 := own_cell O2 (k + 16) (by omega)
              have hf3 := O2.frozenAt (k + 16)
              have O3 := hid (own_flip O2 (k + 16))
              have B3 := hid (B2.setCell (p := ⟨g, k + 16, none⟩) hg (.bool (!((bflip (bflip m (k + 1)) (k + 14)).getD (k + 16) false))))
              have HD := hid hd
              clear hown hbel O1 O2 B1 B2 hd hx
              generalize (bflip (bflip m (k + 1)) (k + 14)).getD (k + 16) false = x3 at *
              generalize (bflip m (k + 1)).getD (k + 14) false = x2 at *
              generalize m.getD (k + 1) false = x1 at *
              go_wp2
              go_roundw
              case rel => exact ⟨k + 1, by omega, by go_num, by rw [HD.out]; exact O3.out, B3.out⟩
              case measure => simp [intOf]; omega
            · have hx2 : m.getD k false = false := by simpa using hx
              rw [if_neg hx] at hd
              rw [hx2] at hc
              have HD := hid hd
              have HO := hid hown
              clear hd hx hx2 hown
              go_wp2
              go_roundw
              case rel => exact ⟨k + 1, by omega, by go_num, by rw [HD.out]; exact HO.out, hbel⟩
              case measure => simp [intOf]; omega
          · have hk8 : k = 8 * l.length := by omega
            subst hk8
            have hown2 : wr.ownsRow w.heap.size 4 1 (.slice (some ⟨g, 0, none⟩) (8 * l.length + 16) cap) (8 * l.length + 16) (bls (divM l)) := hown
            clear hown
            go_wp2
            go_loopw [6, 7] (fun o i wr' => wr' = wr ∧ ∃ k : Nat, k ≤ 16 ∧ i = .int .i64 k ∧ o = .int .u16 (numOf (fun k => (divM l).getD (8 * l.length + k) false) k)) (fun _ i _ => 16 - (intOf i).toNat)
            case atStart => exact ⟨rfl, 0, by omega, rfl, rfl⟩
            case round =>
              obtain ⟨rfl, k, hk, rfl, rfl⟩ := hrel
              by_cases hlt : k < 16
              · have hc := own_cell hown2 (8 * l.length + k) (by omega)
                have hn : numOf (fun k => (divM l).getD (8 * l.length + k) false) (k + 1) = if (divM l).getD (8 * l.length + k) false then numOf (fun k => (divM l).getD (8 * l.length + k) false) k ||| 2 ^ k else numOf (fun k => (divM l).getD (8 * l.length + k) false) k := rfl
                have hnl := numOf_lt (fun k => (divM l).getD (8 * l.length + k) false) k
                have hpk : 2 ^ k < 65536 := Nat.pow_lt_pow_right (show 1 < 2 by decide) hlt
                have HO := hid hown2
                clear hown2
                generalize (divM l).getD (8 * l.length + k) false = x at *
                generalize numOf (fun k => (divM l).getD (8 * l.length + k) false) k = n at *
                have HN := hid hn
                clear hn
                cases x with
                | true =>
                  go_wp2
                  go_roundw
                  case rel =>
                    refine ⟨trivial, k + 1, by omega, by go_num, ?_⟩
                    have hw : IntKind.u16.wrap (2 ^ k) = ((2 ^ k : Nat) : Int) := by
                      rw [IntKind.wrap_u16, show (2 : Int) ^ k = ((2 ^ k : Nat) : Int) by simp]
                      omega
                    rw [HN.out, if_pos rfl, hw, u16_or_nat n (2 ^ k) (by omega) hpk]
                  case measure => simp [intOf]; omega
                | false =>
                  go_wp2
                  go_roundw
                  case rel => exact ⟨trivial, k + 1, by omega, by go_num, by rw [HN.out]; rfl⟩
                  case measure => simp [intOf]; omega
              · have hk16 : k = 16 := by omega
                subst hk16
                clear hown2
                go_wp2
                go_ret
                exact ⟨rfl, hbel⟩
theorem divSum_lt (l : List UInt8) : divSum l < 65536 := numOf_lt _ 16
def tail2 (s : Nat) : List UInt8 := [UInt8.ofNat s, UInt8.ofNat (s / 256)]
theorem info5' : (Tryz.prog.info? 5).map (fun i => (i.zero, i.size, i.bytes)) = some (some (.int .u8 0), 1, 1) := by kernel_rfl
theorem tail_bs (w : World) (s : Nat) (hs : s < 65536) : Bs (w.alloc (.cells #[.int .u8 ((s : Int) % 256), .int .u8 ((s : Int) / 256)] 5)) (.slice (some ⟨w.heap.size, 0, none⟩) 2 2) (tail2 s) := by
  refine Bs.mk (l := tail2 s) (Nat.le_refl 2) (by unfold maxLen; decide) ?_
  intro i hi
  rw [World.cell?_alloc_at _ _ _ _ rfl]
  match i, hi with
  | 0, _ => simp [tail2]
  | 1, _ => simp [tail2]; omega
set_option maxRecDepth 100000 in
set_option maxHeartbeats 800000 in
theorem rappend_any (v : Value) (l : List UInt8) (w : World) (hv : Bs w v l) (hl : l.length ≤ 1000) :
    Calls Tryz.prog 69 #[v] w fun r w' => ∃ v', r = .returned v' ∧ w'.ownsRow w.heap.size 5 1 v' (l.length + 2) (u8s (l ++ tail2 (divSum l))) ∧ Below w.heap.size w w' := by
  obtain ⟨i5, hi, hz0, hz1, hz2⟩ := info_parts info5'
  have hs := divSum_lt l
  have HS := hid (rsum_any v l w hv hl)
  generalize divSum l = s at *
  have HV := hid hv
  clear hv
  go_enter Tryz.func69, Tryz.ntmps69
  go_wp2_with (first | (go_at_call 93; refine HS.out.mono ?_; rintro r w1 ⟨rfl, hbel⟩) | (at_builtin; refine wpList_app rfl _ _ 36 rfl w.heap.size 5 i5 Tryz.underlying36 hi hz0 hz1 hz2 (.slice none 0 0) [] rfl (World.ownsRow_nil _ _ _ _) v l rfl (HV.out.keep hbel) ?c1 ?c2 ?c3))
  case c1 => simp; omega
  case c2 => exact hbel.size
  case c3 =>
    intro v1 w2 hown hgr
    have hbel2 := hbel.grown hgr hbel.size (by intro k hk; simp [Value.ownBlock] at hk)
    replace hown : w2.ownsRow w.heap.size 5 1 v1 l.length (u8s l) := by simpa using hown
    clear hgr hbel
    have ha : bits .and .u16 (s : Int) 255 = (s : Int) % 256 := by
      have h := u16_and_nat s 255 hs (by omega)
      rw [nat_mask8] at h
      rw [show (255 : Int) = ((255 : Nat) : Int) from rfl, h]
      omega
    have ht := tail_bs w2 s hs
    go_wp2_with (at_builtin; refine wpList_app rfl _ _ 36 rfl w.heap.size 5 i5 Tryz.underlying36 hi hz0 hz1 hz2 v1 l rfl (hown.alloc _) _ (tail2 s) rfl ht ?d1 ?d2 ?d3)
    case d1 => simp [tail2]; omega
    case d2 => have := hbel2.size; simp; omega
    case d3 =>
      intro v2 w3 hown3 hgr3
      have hb := hbel2.alloc hbel2.size (.cells #[.int .u8 ((s : Int) % 256), .int .u8 ((s : Int) / 256)] 5)
      have hbel3 := hb.grown hgr3 hb.size (fun b hb => (hown.lt b hb).1)
      clear hown ht ha hgr3 hb
      go_wp2
      go_ret
      exact ⟨_, rfl, hown3, hbel3⟩
end Go.Proofs.YtpkheiaanjhffaaGreat
