/-
  Texts 20 of the claim.
-/
import Derived.Test.YtipnamoocemeeaaGreatB04
/-
  The contracts of the reference's Size and ValidReply.
-/
namespace Go.Proofs.YtipnamoocemeeaaGreat
open Go.RowKit

/-- What Size answers: above 246 just where the objects are too long. -/
def SizeOk (l : List Ob) (r : Ending) : Prop := ∃ s : Nat, r = .returned (.int .i64 s) ∧ (s ≤ 246 ↔ obSize l ≤ 246)

/-- Where Size stands behind k rounds. -/
def SizeAt (l : List Ob) (k s : Nat) : Prop := s ≤ 600 ∧ (s ≤ 246 → s = obSize (l.take k)) ∧ (246 < s → 246 < obSize l)

theorem SizeAt.step {l : List Ob} {k s : Nat} {x : Ob} (h : SizeAt l k s) (hs : s ≤ 246) (hx : l[k]? = some x) (m : Nat) (hm : m = min x.val.length 300) : SizeAt l (k + 1) (s + (2 + m)) := by
  obtain ⟨h1, h2, h3⟩ := h
  have e : obSize (l.take (k + 1)) = obSize (l.take k) + (2 + x.val.length) := by rw [take_succ_snoc hx, obSize_snoc]
  have h4 := obSize_pre (l.drop (k + 1)) (l.take (k + 1))
  rw [List.take_append_drop] at h4
  have h5 := h2 hs
  refine ⟨by omega, fun h => by omega, fun h => by omega⟩

set_option maxRecDepth 100000 in
set_option maxHeartbeats 3200000 in
theorem size_any (v : Value) (l : List Ob) (w : World) (ho : Obs w v l) :
    Calls Tryz.prog 104 #[v] w fun r w' => SizeOk l r ∧ w = w' := by
  obtain ⟨a, n, c, rfl, hln, hn, hnc, hcm, hel⟩ := ho.open_
  clear ho
  replace hel := hid hel
  replace hln := hid hln
  go_enter Tryz.func104, Tryz.ntmps104
  go_wp2
  go_loop [3, 4] (fun sv i => ∃ k s : Nat, k ≤ n ∧ i = .int .i64 k ∧ sv = .int .i64 s ∧ SizeAt l k s) (fun _ i => n - (intOf i).toNat)
  case atStart => exact ⟨0, 0, Nat.zero_le _, rfl, rfl, by omega, fun _ => rfl, fun h => by omega⟩
  case round =>
    obtain ⟨k, s, hk, rfl, rfl, hsz⟩ := hrel
    have hs6 := hsz.1
    replace hsz := hid hsz
    by_cases hlt : k < n
    · by_cases hs : s ≤ 246
      · obtain ⟨x, hgx⟩ := get_some hln.out hlt
        obtain ⟨b, o, xa, xc, rfl, _, d2, hb⟩ := hel.out k x hgx
        have hxm := hb.len
        unfold maxLen at hxm
        obtain ⟨m, hm⟩ : ∃ m, m = min x.val.length 300 := ⟨_, rfl⟩
        have HST := hid (hsz.out.step hs hgx m hm)
        have hkl : (k : Int) < (n : Int) := by omega
        clear hgx hb
        generalize x.val.length = xn at *
        have hmm : (if (300 : Int) < (xn : Int) then (300 : Int) else (xn : Int)) = (m : Int) := by split <;> omega
        have hm3 : m ≤ 300 := by omega
        replace hm := hid hm
        go_wp2
        go_round
        case rel => exact ⟨k + 1, s + (2 + m), by omega, by go_num, by go_num, HST.out⟩
        case measure => simp [intOf]; omega
      · have HF : Hid (SizeOk l (.returned (.int .i64 s))) := ⟨s, rfl, by have := hsz.out.2.2 (by omega); omega⟩
        go_wp2
        go_ret
        exact ⟨HF.out, rfl⟩
    · obtain rfl : k = n := by omega
      have HF : Hid (SizeOk l (.returned (.int .i64 s))) := by
        refine ⟨s, rfl, ?_⟩
        have h2 := hsz.out.2.1
        have h3 := hsz.out.2.2
        rw [← hln.out, List.take_length] at h2
        omega
      go_wp2
      go_ret
      exact ⟨HF.out, rfl⟩


set_option maxRecDepth 100000 in
set_option maxHeartbeats 3200000 in
theorem vreply_exc (w : World) (fn exc : Int) (a2 a : Option Addr) (n c2 m c : Nat) (code level : Int) (more : Bool) (next : Int) (hk : knownB fn = true) (hx : ¬ exc = 0) :
    Calls Tryz.prog 60 #[.agg #[.int .i64 fn, .int .i64 exc, .slice a2 n c2, .int .i64 code, .int .i64 level, .bool more, .int .i64 next, .slice a m c]] w fun r w' => r = .returned (.bool (decide (1 ≤ exc) && decide (exc ≤ 255) && (decide (n = 0) && (code == 0 && level == 0 && !more && next == 0 && decide (m = 0))))) ∧ Below w.heap.size w w' := by
  have HKN : Hid (∀ W, Calls Tryz.prog 102 #[.int .i64 fn] W fun r w' => r = .returned (.bool true) ∧ W = w') := fun W => by rw [← hk]; exact function_any _ W
  clear hk
  obtain ⟨pb, hpb0⟩ : ∃ pb, pb = (code == 0 && level == 0 && !more && next == 0 && decide (m = 0)) := ⟨_, rfl⟩
  have hpb := hid hpb0
  clear hpb0
  rw [← hpb.out]
  have h1 : (exc == 0) = false := by simpa using hx
  have h2 : (exc != 0) = true := by simpa using hx
  have hB : Hid (Below w.heap.size w (w.alloc (.cells #[.int .i64 fn, .int .i64 exc, .slice a2 n c2, .int .i64 code, .int .i64 level, .bool more, .int .i64 next, .slice a m c] 53))) := bal' w _
  go_enter Tryz.func60, Tryz.ntmps60
  go_upto_region 3 with (first | (go_at_call 102; (with_reducible refine (HKN.out _).mono ?_); rintro r w1 ⟨rfl, rfl⟩))
  go_cut [0, 3] (fun s0 s3 wc => s0 = .agg #[.int .i64 fn, .int .i64 exc, .slice a2 n c2, .int .i64 code, .int .i64 level, .bool more, .int .i64 next, .slice a m c] ∧ s3 = .bool pb ∧ wc = (w.alloc (.cells #[.int .i64 fn, .int .i64 exc, .slice a2 n c2, .int .i64 code, .int .i64 level, .bool more, .int .i64 next, .slice a m c] 53)))
  case first =>
    go_wp2
    all_goals
      go_meet
      case rel => exact ⟨by simp [*], by first | (rw [hpb.out]; done) | (rw [hpb.out]; simp [*]; done) | (rw [hpb.out]; congr 1; done) | (rw [hpb.out]; congr 1; rw [Bool.eq_iff_iff]; simp [*]; done) | (rw [hpb.out]; congr 1; rw [Bool.eq_iff_iff]; simp [*]; omega), by simp [*]⟩
  case rest =>
    obtain ⟨rfl, rfl, rfl⟩ := hcut
    rcases (show ¬ 1 ≤ exc ∨ (1 ≤ exc ∧ ¬ exc ≤ 255) ∨ (1 ≤ exc ∧ exc ≤ 255) by omega) with h | ⟨h, h'⟩ | ⟨h, h'⟩
    · have d1 : decide (1 ≤ exc) = false := decide_eq_false h
      go_wp2
      go_ret
      exact ⟨by first | rfl | (rw [d1]; rfl), hB.out⟩
    · have d1 : decide (exc ≤ 255) = false := decide_eq_false h'
      go_wp2
      go_ret
      exact ⟨by first | rfl | (rw [d1, Bool.and_false]; rfl), hB.out⟩
    · have d1 : decide (1 ≤ exc) = true := decide_eq_true h
      have d2 : decide (exc ≤ 255) = true := decide_eq_true h'
      cases pb
      all_goals
        go_wp2
        go_ret
        refine ⟨ret_bool ?_, hB.out⟩
        first | rfl | (simp; done) | (rw [Bool.eq_iff_iff]; simp; done) | (rw [Bool.eq_iff_iff]; simp; omega)

set_option maxRecDepth 100000 in
set_option maxHeartbeats 3200000 in
theorem vreply_tbl (w : World) (fn : Int) (a2 a : Option Addr) (n c2 m c : Nat) (code level : Int) (more : Bool) (next : Int) (hk : knownB fn = true) (h4 : fn ≤ 4) :
    Calls Tryz.prog 60 #[.agg #[.int .i64 fn, .int .i64 0, .slice a2 n c2, .int .i64 code, .int .i64 level, .bool more, .int .i64 next, .slice a m c]] w fun r w' => r = .returned (.bool (decide (1 ≤ n) && decide (n ≤ 250) && (code == 0 && level == 0 && !more && next == 0 && decide (m = 0)))) ∧ Below w.heap.size w w' := by
  have HKN : Hid (∀ W, Calls Tryz.prog 102 #[.int .i64 fn] W fun r w' => r = .returned (.bool true) ∧ W = w') := fun W => by rw [← hk]; exact function_any _ W
  clear hk
  obtain ⟨pb, hpb0⟩ : ∃ pb, pb = (code == 0 && level == 0 && !more && next == 0 && decide (m = 0)) := ⟨_, rfl⟩
  have hpb := hid hpb0
  clear hpb0
  rw [← hpb.out]
  have hB : Hid (Below w.heap.size w (w.alloc (.cells #[.int .i64 fn, .int .i64 0, .slice a2 n c2, .int .i64 code, .int .i64 level, .bool more, .int .i64 next, .slice a m c] 53))) := bal' w _
  go_enter Tryz.func60, Tryz.ntmps60
  go_upto_region 3 with (first | (go_at_call 102; (with_reducible refine (HKN.out _).mono ?_); rintro r w1 ⟨rfl, rfl⟩))
  go_cut [0, 3] (fun s0 s3 wc => s0 = .agg #[.int .i64 fn, .int .i64 0, .slice a2 n c2, .int .i64 code, .int .i64 level, .bool more, .int .i64 next, .slice a m c] ∧ s3 = .bool pb ∧ wc = (w.alloc (.cells #[.int .i64 fn, .int .i64 0, .slice a2 n c2, .int .i64 code, .int .i64 level, .bool more, .int .i64 next, .slice a m c] 53)))
  case first =>
    go_wp2
    all_goals
      go_meet
      case rel => exact ⟨by simp [*], by first | (rw [hpb.out]; done) | (rw [hpb.out]; simp [*]; done) | (rw [hpb.out]; congr 1; done) | (rw [hpb.out]; congr 1; rw [Bool.eq_iff_iff]; simp [*]; done) | (rw [hpb.out]; congr 1; rw [Bool.eq_iff_iff]; simp [*]; omega), by simp [*]⟩
  case rest =>
    obtain ⟨rfl, rfl, rfl⟩ := hcut
    cases pb with
    | false =>
      go_wp2
      go_ret
      exact ⟨by first | rfl | (rw [Bool.and_false]; rfl), hB.out⟩
    | true =>
      by_cases h : 1 ≤ n
      · have d1 : decide (1 ≤ n) = true := decide_eq_true h
        go_wp2
        go_ret
        refine ⟨ret_bool ?_, hB.out⟩
        try rw [d1, Bool.true_and, Bool.and_true]
        first | rfl | (simp; done) | (rw [Bool.eq_iff_iff]; simp; done) | (rw [Bool.eq_iff_iff]; simp; omega)
      · have d1 : decide (1 ≤ n) = false := decide_eq_false h
        go_wp2
        go_ret
        exact ⟨by first | rfl | (rw [d1]; rfl), hB.out⟩

set_option maxRecDepth 100000 in
set_option maxHeartbeats 3200000 in
theorem vreply_srv (w : World) (a2 a : Option Addr) (n c2 m c : Nat) (code level : Int) (more : Bool) (next : Int)  :
    Calls Tryz.prog 60 #[.agg #[.int .i64 17, .int .i64 0, .slice a2 n c2, .int .i64 code, .int .i64 level, .bool more, .int .i64 next, .slice a m c]] w fun r w' => r = .returned (.bool (decide (1 ≤ n) && decide (n ≤ 251) && (code == 0 && level == 0 && !more && next == 0 && decide (m = 0)))) ∧ Below w.heap.size w w' := by
  have HKN : Hid (∀ W, Calls Tryz.prog 102 #[.int .i64 17] W fun r w' => r = .returned (.bool true) ∧ W = w') := fun W => by rw [← (show knownB 17 = true from rfl)]; exact function_any _ W
  obtain ⟨pb, hpb0⟩ : ∃ pb, pb = (code == 0 && level == 0 && !more && next == 0 && decide (m = 0)) := ⟨_, rfl⟩
  have hpb := hid hpb0
  clear hpb0
  rw [← hpb.out]
  have hB : Hid (Below w.heap.size w (w.alloc (.cells #[.int .i64 17, .int .i64 0, .slice a2 n c2, .int .i64 code, .int .i64 level, .bool more, .int .i64 next, .slice a m c] 53))) := bal' w _
  go_enter Tryz.func60, Tryz.ntmps60
  go_upto_region 3 with (first | (go_at_call 102; (with_reducible refine (HKN.out _).mono ?_); rintro r w1 ⟨rfl, rfl⟩))
  go_cut [0, 3] (fun s0 s3 wc => s0 = .agg #[.int .i64 17, .int .i64 0, .slice a2 n c2, .int .i64 code, .int .i64 level, .bool more, .int .i64 next, .slice a m c] ∧ s3 = .bool pb ∧ wc = (w.alloc (.cells #[.int .i64 17, .int .i64 0, .slice a2 n c2, .int .i64 code, .int .i64 level, .bool more, .int .i64 next, .slice a m c] 53)))
  case first =>
    go_wp2
    all_goals
      go_meet
      case rel => exact ⟨by simp [*], by first | (rw [hpb.out]; done) | (rw [hpb.out]; simp [*]; done) | (rw [hpb.out]; congr 1; done) | (rw [hpb.out]; congr 1; rw [Bool.eq_iff_iff]; simp [*]; done) | (rw [hpb.out]; congr 1; rw [Bool.eq_iff_iff]; simp [*]; omega), by simp [*]⟩
  case rest =>
    obtain ⟨rfl, rfl, rfl⟩ := hcut
    cases pb with
    | false =>
      go_wp2
      go_ret
      exact ⟨by first | rfl | (rw [Bool.and_false]; rfl), hB.out⟩
    | true =>
      by_cases h : 1 ≤ n
      · have d1 : decide (1 ≤ n) = true := decide_eq_true h
        go_wp2
        go_ret
        refine ⟨ret_bool ?_, hB.out⟩
        try rw [d1, Bool.true_and, Bool.and_true]
        first | rfl | (simp; done) | (rw [Bool.eq_iff_iff]; simp; done) | (rw [Bool.eq_iff_iff]; simp; omega)
      · have d1 : decide (1 ≤ n) = false := decide_eq_false h
        go_wp2
        go_ret
        exact ⟨by first | rfl | (rw [d1]; rfl), hB.out⟩

end Go.Proofs.YtipnamoocemeeaaGreat

/-
  Several texts of this claim in one file.
-/
/-
The contract of the reference's ValidReply: device identifications, part 1.
-/
namespace Go.Proofs.YtipnamoocemeeaaGreat
open Go.RowKit

set_option maxRecDepth 100000 in
set_option maxHeartbeats 6400000 in
theorem vreply_dev1 (w : World) (a2 a : Option Addr) (n c2 m c : Nat) (code level : Int) (more : Bool) (next : Int) (hb : ¬ n = 0 ∨ (n = 0 ∧ code < 1) ∨ (n = 0 ∧ 1 ≤ code ∧ 3 < code)) :
    Calls Tryz.prog 60 #[.agg #[.int .i64 43, .int .i64 0, .slice a2 n c2, .int .i64 code, .int .i64 level, .bool more, .int .i64 next, .slice a m c]] w fun r w' => r = .returned (.bool false) ∧ Below w.heap.size w w' := by
  have HKN : Hid (∀ W, Calls Tryz.prog 102 #[.int .i64 43] W fun r w' => r = .returned (.bool true) ∧ W = w') := fun W => by rw [← (show knownB 43 = true from rfl)]; exact function_any _ W
  obtain ⟨pb, hpb0⟩ : ∃ pb, pb = (code == 0 && level == 0 && !more && next == 0 && decide (m = 0)) := ⟨_, rfl⟩
  have hpb := hid hpb0
  clear hpb0
  have hB : ∀ n, Hid (Below w.heap.size w (w.alloc (.cells #[.int .i64 43, .int .i64 0, .slice a2 n c2, .int .i64 code, .int .i64 level, .bool more, .int .i64 next, .slice a m c] 53))) := fun n => bal' w _
  go_enter Tryz.func60, Tryz.ntmps60
  go_upto_region 3 with (first | (go_at_call 102; (with_reducible refine (HKN.out _).mono ?_); rintro r w1 ⟨rfl, rfl⟩))
  go_cut [0, 3] (fun s0 s3 wc => s0 = .agg #[.int .i64 43, .int .i64 0, .slice a2 n c2, .int .i64 code, .int .i64 level, .bool more, .int .i64 next, .slice a m c] ∧ s3 = .bool pb ∧ wc = (w.alloc (.cells #[.int .i64 43, .int .i64 0, .slice a2 n c2, .int .i64 code, .int .i64 level, .bool more, .int .i64 next, .slice a m c] 53)))
  case first =>
    go_wp2
    all_goals
      go_meet
      case rel => exact ⟨by simp [*], by first | (rw [hpb.out]; done) | (rw [hpb.out]; simp [*]; done) | (rw [hpb.out]; congr 1; done) | (rw [hpb.out]; congr 1; rw [Bool.eq_iff_iff]; simp [*]; done) | (rw [hpb.out]; congr 1; rw [Bool.eq_iff_iff]; simp [*]; omega), by simp [*]⟩
  case rest =>
    obtain ⟨rfl, rfl, rfl⟩ := hcut
    rcases hb with h | ⟨rfl, h⟩ | ⟨rfl, h, h'⟩
    all_goals
      rcases lv_cases level with ⟨l1, l2, _⟩ | ⟨l1, l2, _⟩ | ⟨_, l1 | l1 | l1⟩
      all_goals
        go_wp2
        go_ret
        exact ⟨rfl, (hB _).out⟩

end Go.Proofs.YtipnamoocemeeaaGreat

/-
The contract of the reference's ValidReply: device identifications, part 2.
-/
namespace Go.Proofs.YtipnamoocemeeaaGreat
open Go.RowKit

set_option maxRecDepth 100000 in
set_option maxHeartbeats 3200000 in
theorem vreply_dev2 (w : World) (a2 a : Option Addr) (n c2 m c : Nat) (code level : Int) (more : Bool) (next : Int) (h0 : n = 0) (c1 : 1 ≤ code) (c2' : code ≤ 3) (hl : level < 1 ∨ (3 < level ∧ level ≤ 128) ∨ 131 < level) :
    Calls Tryz.prog 60 #[.agg #[.int .i64 43, .int .i64 0, .slice a2 n c2, .int .i64 code, .int .i64 level, .bool more, .int .i64 next, .slice a m c]] w fun r w' => r = .returned (.bool false) ∧ Below w.heap.size w w' := by
  subst h0
  have HKN : Hid (∀ W, Calls Tryz.prog 102 #[.int .i64 43] W fun r w' => r = .returned (.bool true) ∧ W = w') := fun W => by rw [← (show knownB 43 = true from rfl)]; exact function_any _ W
  obtain ⟨pb, hpb0⟩ : ∃ pb, pb = (code == 0 && level == 0 && !more && next == 0 && decide (m = 0)) := ⟨_, rfl⟩
  have hpb := hid hpb0
  clear hpb0
  have hB : Hid (Below w.heap.size w (w.alloc (.cells #[.int .i64 43, .int .i64 0, .slice a2 0 c2, .int .i64 code, .int .i64 level, .bool more, .int .i64 next, .slice a m c] 53))) := bal' w _
  go_enter Tryz.func60, Tryz.ntmps60
  go_upto_region 3 with (first | (go_at_call 102; (with_reducible refine (HKN.out _).mono ?_); rintro r w1 ⟨rfl, rfl⟩))
  go_cut [0, 3] (fun s0 s3 wc => s0 = .agg #[.int .i64 43, .int .i64 0, .slice a2 0 c2, .int .i64 code, .int .i64 level, .bool more, .int .i64 next, .slice a m c] ∧ s3 = .bool pb ∧ wc = (w.alloc (.cells #[.int .i64 43, .int .i64 0, .slice a2 0 c2, .int .i64 code, .int .i64 level, .bool more, .int .i64 next, .slice a m c] 53)))
  case first =>
    go_wp2
    all_goals
      go_meet
      case rel => exact ⟨by simp [*], by first | (rw [hpb.out]; done) | (rw [hpb.out]; simp [*]; done) | (rw [hpb.out]; congr 1; done) | (rw [hpb.out]; congr 1; rw [Bool.eq_iff_iff]; simp [*]; done) | (rw [hpb.out]; congr 1; rw [Bool.eq_iff_iff]; simp [*]; omega), by simp [*]⟩
  case rest =>
    obtain ⟨rfl, rfl, rfl⟩ := hcut
    rcases hl with l1 | l1 | l1
    all_goals
      go_wp2
      go_ret
      exact ⟨rfl, hB.out⟩

end Go.Proofs.YtipnamoocemeeaaGreat
