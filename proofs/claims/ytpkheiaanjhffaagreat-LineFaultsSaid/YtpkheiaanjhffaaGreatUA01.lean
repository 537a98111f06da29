/-
  Texts A1 of the claim.
-/
import Derived.WalkKit
import Derived.WalkSpells
import Derived.WalkLawsBesides
import Derived.Laws.AppendOwnNone
import Derived.Carry
import Derived.OpenShut
import Derived.StillTailTactics
import Derived.Deep.MidRow
import Derived.ProofKit
import Derived.Test.YtpkheiaanjhffaaGreatRows
import Derived.Test.YtpkheiaanjhffaaGreatU01
import Derived.Deep.OwnRows
import Derived.Test.YtpkheiaanjhffaaGreatU02
import Derived.Deep.QuietTactic
import Derived.BigQuiet
import Derived.Deep.RegionHeld3
import Derived.Outline
import Derived.Test.YtpkheiaanjhffaaGreatU03
import Derived.Test.YtpkheiaanjhffaaGreatU04
import Derived.Deep.CutRange
import Derived.Test.YtpkheiaanjhffaaGreatU07
import Derived.Deep.RegionLaw
import Derived.Deep.CutBlock
namespace Go.Proofs.YtpkheiaanjhffaaGreat
open Go.RowKit
theorem run_str {P : Program} {w : World} {src e : TypeId} (hs : P.underlying src = some (.slice e)) (he : P.underlying e = some (.int .u8)) {v : Value} {l : List UInt8} (h : Bs w v l)
    (dst : TypeId) (hd : P.underlying dst = some .string) : (convert src dst v).run P w = .ok (.string ⟨l.toArray⟩) w := by
  obtain ⟨ad, c, rfl, h1, h2, h3, h4⟩ := h
  by_cases hn : l = []
  · subst hn
    cases ad with
    | none => exact run_convert_bytes_nil (P := P) w src e hs he 0 c dst hd
    | some ad =>
      show (convert src dst (.slice (some ad) 0 c)).run P w = _
      rw [run_convert_bytes_string w src dst e (some ad) 0 c hs he hd, run_bytesToString w ad 0 c [] (by simp [loadCells, loadCellsFrom])]
      rfl
  · obtain ⟨b, off, rfl, hc⟩ := h4 hn
    have := run_convert_bytes_arg (P := P) w src e hs he b off l.length c (l.map fun x => (x.toNat : Int)) (by simp) (fun i hi => by rw [hc i hi]; simp [List.getD, hi]) dst hd
    rw [this]
    have e1 : strOfNums (l.map fun x => (x.toNat : Int)) = ⟨l.toArray⟩ := by
      simp [strOfNums, Function.comp_def]
    rw [e1]
theorem made_one (z : Value) (n : Nat) : (madeCells #[z] n).toList = List.replicate n z := by
  apply List.ext_getElem
  · simp [size_madeCells]
  · intro i h1 h2
    simp [madeCells, Nat.mod_one]
theorem wpList_appB {P : Program} {w : World} {ops : Array Oper} {rest : List Oper} {o : Oper} {a : Act} {Q : Exit → Act → World → Prop} (hgd : o.guard = none) (s x : Operand) (t : TypeId)
    (ho : o.op = .call { callee := .builtin .append, args := #[s, x], argTypes := #[t, t] })
    (base : Nat) (e : TypeId) (i : TypeInfo) (ht : P.underlying t = some (.slice e)) (hi : P.info? e = some i) (hz : i.zero = some (.int .u8 0))
    (hsize : i.size = 1) (hby : i.bytes = 1)
    (v : Value) (xs : List UInt8) (hs : a.eval s = v) (hown : w.ownsRow base e 1 v xs.length (u8s xs))
    (y : Value) (ys : List UInt8) (hx : a.eval x = y) (hy : Bs w y ys) (hlen : xs.length + ys.length ≤ 140737488355328) (hbase : base ≤ w.heap.size)
    (h : ∀ v' w', w'.ownsRow base e 1 v' (xs.length + ys.length) (u8s (xs ++ ys)) → w.grownBy w' v.ownBlock → NewOr w v v' → wpList P ops Q rest (a.put o.dst v') w') : wpList P ops Q (o :: rest) a w := by
  obtain ⟨ad, c, rfl, h1, h2, h3, h4⟩ := hy
  by_cases hn : ys = []
  · subst hn
    cases ad with
    | none =>
      obtain rfl := h3 rfl
      exact wpList_append_own_none hgd s x t ho base e i 1 ht hi v xs.length (u8s xs) hs hown hx (h v w (by simpa using hown) (World.grownBy.refl _ _) (.inl rfl))
    | some ad =>
      exact wpList_appN hgd s x t ho base e i _ 1 1 ht hi hz hsize hby rfl (by decide) v xs.length (u8s xs) hs hown ad 0 c [] hx rfl (by simp) (by simp) (by unfold maxLen; simp at hlen; omega) (by simp at hlen; omega) hbase
        (fun v' w' p q r => h v' w' (by simpa using p) q r)
  · obtain ⟨b, off, rfl, hc⟩ := h4 hn
    refine wpList_appN hgd s x t ho base e i _ 1 1 ht hi hz hsize hby rfl (by decide) v xs.length (u8s xs) hs hown ⟨b, off, none⟩ ys.length c (u8s ys) hx (by simp) ?_ (one_u8s ys) (by unfold maxLen; omega) (by omega) hbase
        (fun v' w' p q r => h v' w' (by rw [u8s_append]; exact p) q r)
    intro j u hj
    have hjl : j < ys.length := by
      have := (List.getElem?_eq_some_iff.1 hj).1
      simpa using this
    rw [u8s_get ys j hjl] at hj
    have e1 : (⟨b, off, none⟩ : Addr).add j = ⟨b, off + j, none⟩ := by unfold Addr.add; split <;> simp_all
    rw [e1, hc j hjl]
    exact hj
theorem cutA_zero (a : Option Addr) (c : Nat) : cutA a c 0 = a := by
  unfold cutA
  split
  · rfl
  · cases a with
    | none => rfl
    | some ad => cases ad; simp [Addr.add]
theorem Bs.takeS {w : World} {a : Option Addr} {n c : Nat} {l : List UInt8} (h : Bs w (.slice a n c) l) {k : Nat} (hk : k ≤ n) : Bs w (.slice a k c) (l.take k) := by
  have := h.cut (Nat.zero_le k) hk
  rwa [cutA_zero, List.drop_zero, Nat.sub_zero, Nat.sub_zero] at this
section
variable {P : Program} {w : World} {t : TypeId} {cs : List Value}
end
open Go.RowKit
section
variable {α : Type} {sz : Nat} {R : World → List Value → α → Prop}
end
open Go.RowKit
set_option maxHeartbeats 800000 in
theorem function_any (f : Int) (w : World) : Calls Tryz.prog 71 #[.int .i64 f] w fun r w' => r = .returned (.bool (knownB f)) ∧ w = w' := by
  go_enter Tryz.func71, Tryz.ntmps71
  go_wp2
  all_goals
    go_ret
    exact ⟨ret_bool (by first | (simp [knownB, tblB, *]; done) | (rw [Bool.eq_iff_iff]; simp [knownB, tblB, *]; omega) | (rw [Bool.eq_iff_iff]; simp [knownB, tblB]; omega)), rfl⟩
theorem lv_cases (level : Int) : (1 ≤ level ∧ level ≤ 3 ∧ lvB level = true) ∨ (129 ≤ level ∧ level ≤ 131 ∧ lvB level = true) ∨ (lvB level = false ∧ (level < 1 ∨ (3 < level ∧ level ≤ 128) ∨ 131 < level)) := by
  unfold lvB
  rcases (show (1 ≤ level ∧ level ≤ 3) ∨ (129 ≤ level ∧ level ≤ 131) ∨ (level < 1 ∨ (3 < level ∧ level ≤ 128) ∨ 131 < level) by omega) with h | h | h
  · exact .inl ⟨h.1, h.2, by simp [h]⟩
  · exact .inr (.inl ⟨h.1, h.2, by simp [h]⟩)
  · refine .inr (.inr ⟨?_, h⟩)
    cases hx : (decide (1 ≤ level) && decide (level ≤ 3) || decide (129 ≤ level) && decide (level ≤ 131)) with
    | false => rfl
    | true => simp at hx; omega
def SizeOk (l : List Ob) (r : Ending) : Prop := ∃ s : Nat, r = .returned (.int .i64 s) ∧ (s ≤ 246 ↔ obSize l ≤ 246)
def SizeAt (l : List Ob) (k s : Nat) : Prop := s ≤ 600 ∧ (s ≤ 246 → s = obSize (l.take k)) ∧ (246 < s → 246 < obSize l)
theorem SizeAt.step {l : List Ob} {k s : Nat} {x : Ob} (h : SizeAt l k s) (hs : s ≤ 246) (hx : l[k]? = some x) (m : Nat) (hm : m = min x.val.length 300) : SizeAt l (k + 1) (s + (2 + m)) := by
  obtain ⟨h1, h2, h3⟩ := h
  have e : obSize (l.take (k + 1)) = obSize (l.take k) + (2 + x.val.length) := by rw [take_succ_snoc hx, obSize_snoc]
  have h4 := obSize_pre (l.drop (k + 1)) (l.take (k + 1))
  rw [List.take_append_drop] at h4
  have h5 := h2 hs
  refine ⟨by omega, fun h => by omega, fun h => by omega⟩
set_option maxRecDepth 100000 in
set_option maxHeartbeats 3200000 in
theorem size_any (v : Value) (l : List Ob) (w : World) (ho : Obs w v l) :
    Calls Tryz.prog 72 #[v] w fun r w' => SizeOk l r ∧ w = w' := by
  obtain ⟨a, n, c, rfl, hln, hn, hnc, hcm, hel⟩ := ho.open_
  clear ho
  replace hel := hid hel
  replace hln := hid hln
  go_enter Tryz.func72, Tryz.ntmps72
  go_wp2
  go_loop [3, 4] (fun sv i => ∃ k s : Nat, k ≤ n ∧ i = .int .i64 k ∧ sv = .int .i64 s ∧ SizeAt l k s) (fun _ i => n - (intOf i).toNat)
  case atStart => exact ⟨0, 0, Nat.zero_le _, rfl, rfl, by omega, fun _ => rfl, fun h => by omega⟩
  case round =>
    obtain ⟨k, s, hk, rfl, rfl, hsz⟩ := hrel
    have hs6 := hsz.1
    replace hsz := hid hsz
    by_cases hlt : k < n
    · by_cases hs : s ≤ 246
      · obtain ⟨x, hgx⟩ := get_some hln.out hlt
        obtain ⟨b, o, xa, xc, rfl, _, d2, hb⟩ := hel.out k x hgx
        have hxm := hb.len
        unfold maxLen at hxm
        obtain ⟨m, hm⟩ : ∃ m, m = min x.val.length 300 := ⟨_, rfl⟩
        have HST := hid (hsz.out.step hs hgx m hm)
        have hkl : (k : Int) < (n : Int) := by omega
        clear hgx hb
        generalize x.val.length = xn at *
        have hmm : (if (300 : Int) < (xn : Int) then (300 : Int) else (xn : Int)) = (m : Int) := by split <;> omega
        have hm3 : m ≤ 300 := by omega
        replace hm := hid hm
        go_wp2
        go_round
        case rel => exact ⟨k + 1, s + (2 + m), by omega, by go_num, by go_num, HST.out⟩
        case measure => simp [intOf]; omega
      · have HF : Hid (SizeOk l (.returned (.int .i64 s))) := ⟨s, rfl, by have := hsz.out.2.2 (by omega); omega⟩
        go_wp2
        go_ret
        exact ⟨HF.out, rfl⟩
    · obtain rfl : k = n := by omega
      have HF : Hid (SizeOk l (.returned (.int .i64 s))) := by
        refine ⟨s, rfl, ?_⟩
        have h2 := hsz.out.2.1
        have h3 := hsz.out.2.2
        rw [← hln.out, List.take_length] at h2
        omega
      go_wp2
      go_ret
      exact ⟨HF.out, rfl⟩
set_option maxRecDepth 100000 in
set_option maxHeartbeats 3200000 in
theorem vreply_exc (w : World) (fn exc : Int) (a2 a : Option Addr) (n c2 m c : Nat) (code level : Int) (more : Bool) (next : Int) (hk : knownB fn = true) (hx : ¬ exc = 0) :
    Calls Tryz.prog 45 #[.agg #[.int .i64 fn, .int .i64 exc, .slice a2 n c2, .int .i64 code, .int .i64 level, .bool more, .int .i64 next, .slice a m c]] w fun r w' => r = .returned (.bool (decide (1 ≤ exc) && decide (exc ≤ 255) && (decide (n = 0) && (code == 0 && level == 0 && !more && next == 0 && decide (m = 0))))) ∧ Below w.heap.size w w' := by
  have HKN : Hid (∀ W, Calls Tryz.prog 71 #[.int .i64 fn] W fun r w' => r = .returned (.bool true) ∧ W = w') := fun W => by rw [← hk]; exact function_any _ W
  clear hk
  obtain ⟨pb, hpb0⟩ : ∃ pb, pb = (code == 0 && level == 0 && !more && next == 0 && decide (m = 0)) := ⟨_, rfl⟩
  have hpb := hid hpb0
  clear hpb0
  rw [← hpb.out]
  have h1 : (exc == 0) = false := by simpa using hx
  have h2 : (exc != 0) = true := by simpa using hx
  have hB : Hid (Below w.heap.size w (w.alloc (.cells #[.int .i64 fn, .int .i64 exc, .slice a2 n c2, .int .i64 code, .int .i64 level, .bool more, .int .i64 next, .slice a m c] 57))) := bal' w _
  go_enter Tryz.func45, Tryz.ntmps45
  go_upto_region 3 with (first | (go_at_call 71; (with_reducible refine (HKN.out _).mono ?_); rintro r w1 ⟨rfl, rfl⟩))
  go_cut [0, 3] (fun s0 s3 wc => s0 = .agg #[.int .i64 fn, .int .i64 exc, .slice a2 n c2, .int .i64 code, .int .i64 level, .bool more, .int .i64 next, .slice a m c] ∧ s3 = .bool pb ∧ wc = (w.alloc (.cells #[.int .i64 fn, .int .i64 exc, .slice a2 n c2, .int .i64 code, .int .i64 level, .bool more, .int .i64 next, .slice a m c] 57)))
  case first =>
    go_wp2
    all_goals
      go_meet
      case rel => exact ⟨by simp [*], by first | (rw [hpb.out]; done) | (rw [hpb.out]; simp [*]; done) | (rw [hpb.out]; congr 1; done) | (rw [hpb.out]; congr 1; rw [Bool.eq_iff_iff]; simp [*]; done) | (rw [hpb.out]; congr 1; rw [Bool.eq_iff_iff]; simp [*]; omega), by simp [*]⟩
  case rest =>
    obtain ⟨rfl, rfl, rfl⟩ := hcut
    rcases (show ¬ 1 ≤ exc ∨ (1 ≤ exc ∧ ¬ exc ≤ 255) ∨ (1 ≤ exc ∧ exc ≤ 255) by omega) with h | ⟨h, h'⟩ | ⟨h, h'⟩
    · have d1 : decide (1 ≤ exc) = false := decide_eq_false h
      go_wp2
      go_ret
      exact ⟨by first | rfl | (rw [d1]; rfl), hB.out⟩
    · have d1 : decide (exc ≤ 255) = false := decide_eq_false h'
      go_wp2
      go_ret
      exact ⟨by first | rfl | (rw [d1, Bool.and_false]; rfl), hB.out⟩
    · have d1 : decide (1 ≤ exc) = true := decide_eq_true h
      have d2 : decide (exc ≤ 255) = true := decide_eq_true h'
      cases pb
      all_goals
        go_wp2
        go_ret
        refine ⟨ret_bool ?_, hB.out⟩
        first | rfl | (simp; done) | (rw [Bool.eq_iff_iff]; simp; done) | (rw [Bool.eq_iff_iff]; simp; omega)
set_option maxRecDepth 100000 in
set_option maxHeartbeats 3200000 in
theorem vreply_tbl (w : World) (fn : Int) (a2 a : Option Addr) (n c2 m c : Nat) (code level : Int) (more : Bool) (next : Int) (hk : knownB fn = true) (h4 : fn ≤ 4) :
    Calls Tryz.prog 45 #[.agg #[.int .i64 fn, .int .i64 0, .slice a2 n c2, .int .i64 code, .int .i64 level, .bool more, .int .i64 next, .slice a m c]] w fun r w' => r = .returned (.bool (decide (1 ≤ n) && decide (n ≤ 250) && (code == 0 && level == 0 && !more && next == 0 && decide (m = 0)))) ∧ Below w.heap.size w w' := by
  have HKN : Hid (∀ W, Calls Tryz.prog 71 #[.int .i64 fn] W fun r w' => r = .returned (.bool true) ∧ W = w') := fun W => by rw [← hk]; exact function_any _ W
  clear hk
  obtain ⟨pb, hpb0⟩ : ∃ pb, pb = (code == 0 && level == 0 && !more && next == 0 && decide (m = 0)) := ⟨_, rfl⟩
  have hpb := hid hpb0
  clear hpb0
  rw [← hpb.out]
  have hB : Hid (Below w.heap.size w (w.alloc (.cells #[.int .i64 fn, .int .i64 0, .slice a2 n c2, .int .i64 code, .int .i64 level, .bool more, .int .i64 next, .slice a m c] 57))) := bal' w _
  go_enter Tryz.func45, Tryz.ntmps45
  go_upto_region 3 with (first | (go_at_call 71; (with_reducible refine (HKN.out _).mono ?_); rintro r w1 ⟨rfl, rfl⟩))
  go_cut [0, 3] (fun s0 s3 wc => s0 = .agg #[.int .i64 fn, .int .i64 0, .slice a2 n c2, .int .i64 code, .int .i64 level, .bool more, .int .i64 next, .slice a m c] ∧ s3 = .bool pb ∧ wc = (w.alloc (.cells #[.int .i64 fn, .int .i64 0, .slice a2 n c2, .int .i64 code, .int .i64 level, .bool more, .int .i64 next, .slice a m c] 57)))
  case first =>
    go_wp2
    all_goals
      go_meet
      case rel => exact ⟨by simp [*], by first | (rw [hpb.out]; done) | (rw [hpb.out]; simp [*]; done) | (rw [hpb.out]; congr 1; done) | (rw [hpb.out]; congr 1; rw [Bool.eq_iff_iff]; simp [*]; done) | (rw [hpb.out]; congr 1; rw [Bool.eq_iff_iff]; simp [*]; omega), by simp [*]⟩
  case rest =>
    obtain ⟨rfl, rfl, rfl⟩ := hcut
    cases pb with
    | false =>
      go_wp2
      go_ret
      exact ⟨by first | rfl | (rw [Bool.and_false]; rfl), hB.out⟩
    | true =>
      by_cases h : 1 ≤ n
      · have d1 : decide (1 ≤ n) = true := decide_eq_true h
        go_wp2
        go_ret
        refine ⟨ret_bool ?_, hB.out⟩
        try rw [d1, Bool.true_and, Bool.and_true]
        first | rfl | (simp; done) | (rw [Bool.eq_iff_iff]; simp; done) | (rw [Bool.eq_iff_iff]; simp; omega)
      · have d1 : decide (1 ≤ n) = false := decide_eq_false h
        go_wp2
        go_ret
        exact ⟨by first | rfl | (rw [d1]; rfl), hB.out⟩
set_option maxRecDepth 100000 in
set_option maxHeartbeats 3200000 in
theorem vreply_srv (w : World) (a2 a : Option Addr) (n c2 m c : Nat) (code level : Int) (more : Bool) (next : Int)  :
    Calls Tryz.prog 45 #[.agg #[.int .i64 17, .int .i64 0, .slice a2 n c2, .int .i64 code, .int .i64 level, .bool more, .int .i64 next, .slice a m c]] w fun r w' => r = .returned (.bool (decide (1 ≤ n) && decide (n ≤ 251) && (code == 0 && level == 0 && !more && next == 0 && decide (m = 0)))) ∧ Below w.heap.size w w' := by
  have HKN : Hid (∀ W, Calls Tryz.prog 71 #[.int .i64 17] W fun r w' => r = .returned (.bool true) ∧ W = w') := fun W => by rw [← (show knownB 17 = true from rfl)]; exact function_any _ W
  obtain ⟨pb, hpb0⟩ : ∃ pb, pb = (code == 0 && level == 0 && !more && next == 0 && decide (m = 0)) := ⟨_, rfl⟩
  have hpb := hid hpb0
  clear hpb0
  rw [← hpb.out]
  have hB : Hid (Below w.heap.size w (w.alloc (.cells #[.int .i64 17, .int .i64 0, .slice a2 n c2, .int .i64 code, .int .i64 level, .bool more, .int .i64 next, .slice a m c] 57))) := bal' w _
  go_enter Tryz.func45, Tryz.ntmps45
  go_upto_region 3 with (first | (go_at_call 71; (with_reducible refine (HKN.out _).mono ?_); rintro r w1 ⟨rfl, rfl⟩))
  go_cut [0, 3] (fun s0 s3 wc => s0 = .agg #[.int .i64 17, .int .i64 0, .slice a2 n c2, .int .i64 code, .int .i64 level, .bool more, .int .i64 next, .slice a m c] ∧ s3 = .bool pb ∧ wc = (w.alloc (.cells #[.int .i64 17, .int .i64 0, .slice a2 n c2, .int .i64 code, .int .i64 level, .bool more, .int .i64 next, .slice a m c] 57)))
  case first =>
    go_wp2
    all_goals
      go_meet
      case rel => exact ⟨by simp [*], by first | (rw [hpb.out]; done) | (rw [hpb.out]; simp [*]; done) | (rw [hpb.out]; congr 1; done) | (rw [hpb.out]; congr 1; rw [Bool.eq_iff_iff]; simp [*]; done) | (rw [hpb.out]; congr 1; rw [Bool.eq_iff_iff]; simp [*]; omega), by simp [*]⟩
  case rest =>
    obtain ⟨rfl, rfl, rfl⟩ := hcut
    cases pb with
    | false =>
      go_wp2
      go_ret
      exact ⟨by first | rfl | (rw [Bool.and_false]; rfl), hB.out⟩
    | true =>
      by_cases h : 1 ≤ n
      · have d1 : decide (1 ≤ n) = true := decide_eq_true h
        go_wp2
        go_ret
        refine ⟨ret_bool ?_, hB.out⟩
        try rw [d1, Bool.true_and, Bool.and_true]
        first | rfl | (simp; done) | (rw [Bool.eq_iff_iff]; simp; done) | (rw [Bool.eq_iff_iff]; simp; omega)
      · have d1 : decide (1 ≤ n) = false := decide_eq_false h
        go_wp2
        go_ret
        exact ⟨by first | rfl | (rw [d1]; rfl), hB.out⟩
set_option maxRecDepth 100000 in
set_option maxHeartbeats 6400000 in
theorem vreply_dev1 (w : World) (a2 a : Option Addr) (n c2 m c : Nat) (code level : Int) (more : Bool) (next : Int) (hb : ¬ n = 0 ∨ (n = 0 ∧ code < 1) ∨ (n = 0 ∧ 1 ≤ code ∧ 3 < code)) :
    Calls Tryz.prog 45 #[.agg #[.int .i64 43, .int .i64 0, .slice a2 n c2, .int .i64 code, .int .i64 level, .bool more, .int .i64 next, .slice a m c]] w fun r w' => r = .returned (.bool false) ∧ Below w.heap.size w w' := by
  have HKN : Hid (∀ W, Calls Tryz.prog 71 #[.int .i64 43] W fun r w' => r = .returned (.bool true) ∧ W = w') := fun W => by rw [← (show knownB 43 = true from rfl)]; exact function_any _ W
  obtain ⟨pb, hpb0⟩ : ∃ pb, pb = (code == 0 && level == 0 && !more && next == 0 && decide (m = 0)) := ⟨_, rfl⟩
  have hpb := hid hpb0
  clear hpb0
  have hB : ∀ n, Hid (Below w.heap.size w (w.alloc (.cells #[.int .i64 43, .int .i64 0, .slice a2 n c2, .int .i64 code, .int .i64 level, .bool more, .int .i64 next, .slice a m c] 57))) := fun n => bal' w _
  go_enter Tryz.func45, Tryz.ntmps45
  go_upto_region 3 with (first | (go_at_call 71; (with_reducible refine (HKN.out _).mono ?_); rintro r w1 ⟨rfl, rfl⟩))
  go_cut [0, 3] (fun s0 s3 wc => s0 = .agg #[.int .i64 43, .int .i64 0, .slice a2 n c2, .int .i64 code, .int .i64 level, .bool more, .int .i64 next, .slice a m c] ∧ s3 = .bool pb ∧ wc = (w.alloc (.cells #[.int .i64 43, .int .i64 0, .slice a2 n c2, .int .i64 code, .int .i64 level, .bool more, .int .i64 next, .slice a m c] 57)))
  case first =>
    go_wp2
    all_goals
      go_meet
      case rel => exact ⟨by simp [*], by first | (rw [hpb.out]; done) | (rw [hpb.out]; simp [*]; done) | (rw [hpb.out]; congr 1; done) | (rw [hpb.out]; congr 1; rw [Bool.eq_iff_iff]; simp [*]; done) | (rw [hpb.out]; congr 1; rw [Bool.eq_iff_iff]; simp [*]; omega), by simp [*]⟩
  case rest =>
    obtain ⟨rfl, rfl, rfl⟩ := hcut
    rcases hb with h | ⟨rfl, h⟩ | ⟨rfl, h, h'⟩
    all_goals
      rcases lv_cases level with ⟨l1, l2, _⟩ | ⟨l1, l2, _⟩ | ⟨_, l1 | l1 | l1⟩
      all_goals
        go_wp2
        go_ret
        exact ⟨rfl, (hB _).out⟩
set_option maxRecDepth 100000 in
set_option maxHeartbeats 3200000 in
theorem vreply_dev2 (w : World) (a2 a : Option Addr) (n c2 m c : Nat) (code level : Int) (more : Bool) (next : Int) (h0 : n = 0) (c1 : 1 ≤ code) (c2' : code ≤ 3) (hl : level < 1 ∨ (3 < level ∧ level ≤ 128) ∨ 131 < level) :
    Calls Tryz.prog 45 #[.agg #[.int .i64 43, .int .i64 0, .slice a2 n c2, .int .i64 code, .int .i64 level, .bool more, .int .i64 next, .slice a m c]] w fun r w' => r = .returned (.bool false) ∧ Below w.heap.size w w' := by
  subst h0
  have HKN : Hid (∀ W, Calls Tryz.prog 71 #[.int .i64 43] W fun r w' => r = .returned (.bool true) ∧ W = w') := fun W => by rw [← (show knownB 43 = true from rfl)]; exact function_any _ W
  obtain ⟨pb, hpb0⟩ : ∃ pb, pb = (code == 0 && level == 0 && !more && next == 0 && decide (m = 0)) := ⟨_, rfl⟩
  have hpb := hid hpb0
  clear hpb0
  have hB : Hid (Below w.heap.size w (w.alloc (.cells #[.int .i64 43, .int .i64 0, .slice a2 0 c2, .int .i64 code, .int .i64 level, .bool more, .int .i64 next, .slice a m c] 57))) := bal' w _
  go_enter Tryz.func45, Tryz.ntmps45
  go_upto_region 3 with (first | (go_at_call 71; (with_reducible refine (HKN.out _).mono ?_); rintro r w1 ⟨rfl, rfl⟩))
  go_cut [0, 3] (fun s0 s3 wc => s0 = .agg #[.int .i64 43, .int .i64 0, .slice a2 0 c2, .int .i64 code, .int .i64 level, .bool more, .int .i64 next, .slice a m c] ∧ s3 = .bool pb ∧ wc = (w.alloc (.cells #[.int .i64 43, .int .i64 0, .slice a2 0 c2, .int .i64 code, .int .i64 level, .bool more, .int .i64 next, .slice a m c] 57)))
  case first =>
    go_wp2
    all_goals
      go_meet
      case rel => exact ⟨by simp [*], by first | (rw [hpb.out]; done) | (rw [hpb.out]; simp [*]; done) | (rw [hpb.out]; congr 1; done) | (rw [hpb.out]; congr 1; rw [Bool.eq_iff_iff]; simp [*]; done) | (rw [hpb.out]; congr 1; rw [Bool.eq_iff_iff]; simp [*]; omega), by simp [*]⟩
  case rest =>
    obtain ⟨rfl, rfl, rfl⟩ := hcut
    rcases hl with l1 | l1 | l1
    all_goals
      go_wp2
      go_ret
      exact ⟨rfl, hB.out⟩
set_option maxRecDepth 100000 in
set_option maxHeartbeats 12800000 in
theorem vreply_dev3 (w : World) (a2 : Option Addr) (c2 : Nat) (code level : Int) (more : Bool) (next : Int) (ov : Value) (objs : List Ob) (ho : Obs w ov objs) (c1 : 1 ≤ code) (c2' : code ≤ 3) (hl : (1 ≤ level ∧ level ≤ 3) ∨ (129 ≤ level ∧ level ≤ 131)) (V : Bool) (hV : Hid ((decide (0 ≤ next) && decide (next ≤ 255) && (rises (-1) objs && decide (obSize objs ≤ 246)) && (if more then !objs.isEmpty && decide (lastId (-1) objs < next) else next == 0)) = V)) :
    Calls Tryz.prog 45 #[.agg #[.int .i64 43, .int .i64 0, .slice a2 0 c2, .int .i64 code, .int .i64 level, .bool more, .int .i64 next, ov]] w fun r w' => r = .returned (.bool V) ∧ Below w.heap.size w w' := by
  have HKN : Hid (∀ W, Calls Tryz.prog 71 #[.int .i64 43] W fun r w' => r = .returned (.bool true) ∧ W = w') := fun W => by rw [← (show knownB 43 = true from rfl)]; exact function_any _ W
  obtain ⟨a, m, c, rfl, hlm, hm, hmc, hcm, hel⟩ := ho.open_
  have HO := hid ho
  clear ho
  obtain ⟨pb, hpb0⟩ : ∃ pb, pb = (code == 0 && level == 0 && !more && next == 0 && decide (m = 0)) := ⟨_, rfl⟩
  have hpb := hid hpb0
  clear hpb0
  have HRI : Hid (∀ W, Below w.heap.size w W → Calls Tryz.prog 68 #[.slice a m c] W fun r w' => r = .returned (.bool (rises (-1) objs)) ∧ Below W.heap.size W w') := fun W h => rising_any _ _ W (HO.out.keep h)
  have HSZ : Hid (∀ W, Below w.heap.size w W → Calls Tryz.prog 72 #[.slice a m c] W fun r w' => SizeOk objs r ∧ W = w') := fun W h => size_any _ _ W (HO.out.keep h)
  have hlast : m = 0 ∨ ∃ j b o, m = j + 1 ∧ a = some ⟨b, o, none⟩ ∧ w.cell? ⟨b, o + j * 2, none⟩ = some (.int .i64 (lastId (-1) objs)) := by
    cases m with
    | zero => exact .inl rfl
    | succ j =>
      obtain ⟨y, hgj⟩ := get_some (k := j) hlm (by omega)
      obtain ⟨b', o', xa, xc, ha, d1, _, _⟩ := hel j y hgj
      have e : lastId (-1) objs = y.id := by
        have : objs = objs.take (j + 1) := by rw [← hlm, List.take_length]
        rw [this, take_succ_snoc hgj, lastId_snoc]
      exact .inr ⟨j, b', o', rfl, ha, by rw [e]; exact d1⟩
  have HEO : Hid (objs.isEmpty = decide (m = 0)) := by
    show objs.isEmpty = decide (m = 0)
    rw [← hlm]
    cases objs <;> simp
  clear hel hlm
  have HC5 : Hid ((w.alloc (.cells #[.int .i64 43, .int .i64 0, .slice a2 0 c2, .int .i64 code, .int .i64 level, .bool more, .int .i64 next, .slice a m c] 57)).cell? ⟨w.heap.size, 5, none⟩ = some (.bool more)) := by show (w.alloc (.cells #[.int .i64 43, .int .i64 0, .slice a2 0 c2, .int .i64 code, .int .i64 level, .bool more, .int .i64 next, .slice a m c] 57)).cell? _ = _; rw [World.cell?_alloc_at _ _ _ _ rfl]; rfl
  have HC6 : Hid ((w.alloc (.cells #[.int .i64 43, .int .i64 0, .slice a2 0 c2, .int .i64 code, .int .i64 level, .bool more, .int .i64 next, .slice a m c] 57)).cell? ⟨w.heap.size, 6, none⟩ = some (.int .i64 next)) := by show (w.alloc (.cells #[.int .i64 43, .int .i64 0, .slice a2 0 c2, .int .i64 code, .int .i64 level, .bool more, .int .i64 next, .slice a m c] 57)).cell? _ = _; rw [World.cell?_alloc_at _ _ _ _ rfl]; rfl
  have HC7 : Hid ((w.alloc (.cells #[.int .i64 43, .int .i64 0, .slice a2 0 c2, .int .i64 code, .int .i64 level, .bool more, .int .i64 next, .slice a m c] 57)).cell? ⟨w.heap.size, 7, none⟩ = some (.slice a m c)) := by show (w.alloc (.cells #[.int .i64 43, .int .i64 0, .slice a2 0 c2, .int .i64 code, .int .i64 level, .bool more, .int .i64 next, .slice a m c] 57)).cell? _ = _; rw [World.cell?_alloc_at _ _ _ _ rfl]; rfl
  obtain ⟨ro, hro0⟩ : ∃ ro, rises (-1) objs = ro := ⟨_, rfl⟩
  have hro := hid hro0
  rw [hro0] at HRI
  obtain ⟨os, hos0⟩ : ∃ os, obSize objs = os := ⟨_, rfl⟩
  have HOS := hid hos0
  obtain ⟨la, hla0⟩ : ∃ la, lastId (-1) objs = la := ⟨_, rfl⟩
  have hla := hid hla0
  rw [hla0] at hlast
  clear hro0 hos0 hla0
  rcases hl with ⟨l1, l2⟩ | ⟨l1, l2⟩
  all_goals
    go_enter Tryz.func45, Tryz.ntmps45
    go_upto_region 3 with (first | (go_at_call 71; (with_reducible refine (HKN.out _).mono ?_); rintro r w1 ⟨rfl, rfl⟩))
    go_cut [0, 3] (fun s0 s3 wc => s0 = .agg #[.int .i64 43, .int .i64 0, .slice a2 0 c2, .int .i64 code, .int .i64 level, .bool more, .int .i64 next, .slice a m c] ∧ s3 = .bool pb ∧ wc = (w.alloc (.cells #[.int .i64 43, .int .i64 0, .slice a2 0 c2, .int .i64 code, .int .i64 level, .bool more, .int .i64 next, .slice a m c] 57)))
    case first =>
      go_wp2
      all_goals
        go_meet
        case rel => exact ⟨by simp [*], by first | (rw [hpb.out]; done) | (rw [hpb.out]; simp [*]; done) | (rw [hpb.out]; congr 1; done) | (rw [hpb.out]; congr 1; rw [Bool.eq_iff_iff]; simp [*]; done) | (rw [hpb.out]; congr 1; rw [Bool.eq_iff_iff]; simp [*]; omega), by simp [*]⟩
    case rest =>
      obtain ⟨rfl, rfl, rfl⟩ := hcut
      cases ro with
      | false =>
        go_wp2_with (first | (go_at_call 68; (with_reducible refine (HRI.out _ (bal' w _)).mono ?_); rintro r w1 ⟨rfl, hb1⟩; have hc5 := cell_keep hb1 HC5.out; have hc6 := cell_keep hb1 HC6.out; have hc7 := cell_keep hb1 HC7.out) | (go_at_call 72; (with_reducible refine (HSZ.out _ (bt (bal' w _) hb1 (Nat.le_refl _))).mono ?_); rintro r w2 ⟨⟨s, rfl, hs⟩, rfl⟩; rw [HOS.out] at hs; first | (have hs1 : s ≤ 246 := by omega) | (have hs1 : 246 < s := by omega); clear hs))
        go_ret
        refine ⟨ret_bool ?_, by first | exact below_drewN (bt (bal' w _) (by assumption) (Nat.le_refl _)) _ | exact bt (bal' w _) (by assumption) (Nat.le_refl _) | exact bal' w _⟩
        rw [← hV.out, hro.out, HOS.out, hla.out]
        simp
      | true =>
        by_cases ho1 : os ≤ 246
        · have e1 : decide (os ≤ 246) = true := decide_eq_true ho1
          rcases (show next < 0 ∨ (0 ≤ next ∧ 255 < next) ∨ (0 ≤ next ∧ next ≤ 255) by omega) with h | ⟨h, h'⟩ | ⟨h, h'⟩
          · have e2 : decide (0 ≤ next) = false := decide_eq_false (by omega)
            go_wp2_with (first | (go_at_call 68; (with_reducible refine (HRI.out _ (bal' w _)).mono ?_); rintro r w1 ⟨rfl, hb1⟩; have hc5 := cell_keep hb1 HC5.out; have hc6 := cell_keep hb1 HC6.out; have hc7 := cell_keep hb1 HC7.out) | (go_at_call 72; (with_reducible refine (HSZ.out _ (bt (bal' w _) hb1 (Nat.le_refl _))).mono ?_); rintro r w2 ⟨⟨s, rfl, hs⟩, rfl⟩; rw [HOS.out] at hs; first | (have hs1 : s ≤ 246 := by omega) | (have hs1 : 246 < s := by omega); clear hs))
            go_ret
            refine ⟨ret_bool ?_, by first | exact below_drewN (bt (bal' w _) (by assumption) (Nat.le_refl _)) _ | exact bt (bal' w _) (by assumption) (Nat.le_refl _) | exact bal' w _⟩
            rw [← hV.out, hro.out, HOS.out, hla.out]
            rw [e2]
            simp
          · have e2 : decide (next ≤ 255) = false := decide_eq_false (by omega)
            go_wp2_with (first | (go_at_call 68; (with_reducible refine (HRI.out _ (bal' w _)).mono ?_); rintro r w1 ⟨rfl, hb1⟩; have hc5 := cell_keep hb1 HC5.out; have hc6 := cell_keep hb1 HC6.out; have hc7 := cell_keep hb1 HC7.out) | (go_at_call 72; (with_reducible refine (HSZ.out _ (bt (bal' w _) hb1 (Nat.le_refl _))).mono ?_); rintro r w2 ⟨⟨s, rfl, hs⟩, rfl⟩; rw [HOS.out] at hs; first | (have hs1 : s ≤ 246 := by omega) | (have hs1 : 246 < s := by omega); clear hs))
            go_ret
            refine ⟨ret_bool ?_, by first | exact below_drewN (bt (bal' w _) (by assumption) (Nat.le_refl _)) _ | exact bt (bal' w _) (by assumption) (Nat.le_refl _) | exact bal' w _⟩
            rw [← hV.out, hro.out, HOS.out, hla.out]
            rw [e2]
            simp
          · have e2 : decide (0 ≤ next) = true := decide_eq_true h
            have e3 : decide (next ≤ 255) = true := decide_eq_true h'
            cases more with
            | false =>
              go_wp2_with (first | (go_at_call 68; (with_reducible refine (HRI.out _ (bal' w _)).mono ?_); rintro r w1 ⟨rfl, hb1⟩; have hc5 := cell_keep hb1 HC5.out; have hc6 := cell_keep hb1 HC6.out; have hc7 := cell_keep hb1 HC7.out) | (go_at_call 72; (with_reducible refine (HSZ.out _ (bt (bal' w _) hb1 (Nat.le_refl _))).mono ?_); rintro r w2 ⟨⟨s, rfl, hs⟩, rfl⟩; rw [HOS.out] at hs; first | (have hs1 : s ≤ 246 := by omega) | (have hs1 : 246 < s := by omega); clear hs))
              go_ret
              refine ⟨ret_bool ?_, by first | exact below_drewN (bt (bal' w _) (by assumption) (Nat.le_refl _)) _ | exact bt (bal' w _) (by assumption) (Nat.le_refl _) | exact bal' w _⟩
              rw [← hV.out, hro.out, HOS.out, hla.out]
              rw [e1, e2, e3]
              simp
            | true =>
              rcases hlast with rfl | ⟨j, b, o, rfl, rfl, hd0⟩
              · go_wp2_with (first | (go_at_call 68; (with_reducible refine (HRI.out _ (bal' w _)).mono ?_); rintro r w1 ⟨rfl, hb1⟩; have hc5 := cell_keep hb1 HC5.out; have hc6 := cell_keep hb1 HC6.out; have hc7 := cell_keep hb1 HC7.out) | (go_at_call 72; (with_reducible refine (HSZ.out _ (bt (bal' w _) hb1 (Nat.le_refl _))).mono ?_); rintro r w2 ⟨⟨s, rfl, hs⟩, rfl⟩; rw [HOS.out] at hs; first | (have hs1 : s ≤ 246 := by omega) | (have hs1 : 246 < s := by omega); clear hs))
                go_quiet (fail)
                go_wp2
                go_ret
                refine ⟨ret_bool ?_, by first | exact below_drewN (bt (bal' w _) (by assumption) (Nat.le_refl _)) _ | exact bt (bal' w _) (by assumption) (Nat.le_refl _) | exact bal' w _⟩
                rw [← hV.out, hro.out, HOS.out, hla.out]
                rw [HEO.out]
                simp
              · go_wp2_with (first | (go_at_call 68; (with_reducible refine (HRI.out _ (bal' w _)).mono ?_); rintro r w1 ⟨rfl, hb1⟩; have hc5 := cell_keep hb1 HC5.out; have hc6 := cell_keep hb1 HC6.out; have hc7 := cell_keep hb1 HC7.out) | (go_at_call 72; (with_reducible refine (HSZ.out _ (bt (bal' w _) hb1 (Nat.le_refl _))).mono ?_); rintro r w2 ⟨⟨s, rfl, hs⟩, rfl⟩; rw [HOS.out] at hs; first | (have hs1 : s ≤ 246 := by omega) | (have hs1 : 246 < s := by omega); clear hs))
                have hd1 := cell_keep hb1 (cell_keep (bal' w _) hd0)
                have hj0 : (0 : Int) ≤ (j : Int) := Int.natCast_nonneg _
                go_quiet (fail)
                go_wp2
                go_ret
                refine ⟨ret_bool ?_, by first | exact below_drewN (bt (bal' w _) (by assumption) (Nat.le_refl _)) _ | exact bt (bal' w _) (by assumption) (Nat.le_refl _) | exact bal' w _⟩
                rw [← hV.out, hro.out, HOS.out, hla.out]
                rw [HEO.out, e1, e2, e3]
                simp
        · have e1 : decide (os ≤ 246) = false := decide_eq_false ho1
          go_wp2_with (first | (go_at_call 68; (with_reducible refine (HRI.out _ (bal' w _)).mono ?_); rintro r w1 ⟨rfl, hb1⟩; have hc5 := cell_keep hb1 HC5.out; have hc6 := cell_keep hb1 HC6.out; have hc7 := cell_keep hb1 HC7.out) | (go_at_call 72; (with_reducible refine (HSZ.out _ (bt (bal' w _) hb1 (Nat.le_refl _))).mono ?_); rintro r w2 ⟨⟨s, rfl, hs⟩, rfl⟩; rw [HOS.out] at hs; first | (have hs1 : s ≤ 246 := by omega) | (have hs1 : 246 < s := by omega); clear hs))
          go_ret
          refine ⟨ret_bool ?_, by first | exact below_drewN (bt (bal' w _) (by assumption) (Nat.le_refl _)) _ | exact bt (bal' w _) (by assumption) (Nat.le_refl _) | exact bal' w _⟩
          rw [← hV.out, hro.out, HOS.out, hla.out]
          rw [e1]
          simp
theorem isEmpty_len {α : Type} (l : List α) : l.isEmpty = decide (l.length = 0) := by cases l <;> simp
set_option maxRecDepth 100000 in
set_option maxHeartbeats 1600000 in
theorem vreply_any (fn exc : Int) (dv : Value) (code level : Int) (more : Bool) (next : Int) (ov : Value) (data : List UInt8) (objs : List Ob) (w : World) (hd : Bs w dv data) (ho : Obs w ov objs) (V : Bool) (hV : Hid (Rp.ok ⟨fn, exc, data, code, level, more, next, objs⟩ = V)) :
    Calls Tryz.prog 45 #[.agg #[.int .i64 fn, .int .i64 exc, dv, .int .i64 code, .int .i64 level, .bool more, .int .i64 next, ov]] w fun r w' => r = .returned (.bool V) ∧ Below w.heap.size w w' := by
  have hV0 : Rp.ok ⟨fn, exc, data, code, level, more, next, objs⟩ = V := hV.out
  have HO := ho
  obtain ⟨a2, c2, rfl, _⟩ := hd
  obtain ⟨a, c, rfl, _⟩ := ho
  have hpl : Rp.plain ⟨fn, exc, data, code, level, more, next, objs⟩ = (code == 0 && level == 0 && !more && next == 0 && decide (objs.length = 0)) := by rw [← isEmpty_len]; rfl
  cases hk : knownB fn with
  | false =>
    have : V = false := by rw [← hV0]; simp [Rp.ok, hk]
    subst this
    have HKN : Hid (∀ W, Calls Tryz.prog 71 #[.int .i64 fn] W fun r w' => r = .returned (.bool false) ∧ W = w') := fun W => by rw [← hk]; exact function_any _ W
    clear hV0 hk hpl
    go_enter Tryz.func45, Tryz.ntmps45
    go_wp2_with (first | (go_at_call 71; (with_reducible refine (HKN.out _).mono ?_); rintro r w1 ⟨rfl, rfl⟩))
    go_ret
    exact ⟨rfl, bal' _ _⟩
  | true =>
    by_cases hx : exc = 0
    · subst hx
      have hok : Rp.ok ⟨fn, 0, data, code, level, more, next, objs⟩ = (if fn = 43 then Rp.devB ⟨fn, 0, data, code, level, more, next, objs⟩ else if fn = 17 then decide (1 ≤ data.length) && decide (data.length ≤ 251) && Rp.plain ⟨fn, 0, data, code, level, more, next, objs⟩ else decide (1 ≤ data.length) && decide (data.length ≤ 250) && Rp.plain ⟨fn, 0, data, code, level, more, next, objs⟩) := by
        unfold Rp.ok; rw [hk]; rfl
      rw [hok] at hV0
      by_cases h43 : fn = 43
      · subst h43
        rw [if_pos rfl] at hV0
        by_cases hb : data.length = 0 ∧ 1 ≤ code ∧ code ≤ 3
        · obtain ⟨hb1, hb2, hb3⟩ := hb
          have hdata : data = [] := List.eq_nil_of_length_eq_zero hb1
          subst hdata
          have hdv : Rp.devB ⟨43, 0, [], code, level, more, next, objs⟩ = (lvB level && (decide (0 ≤ next) && decide (next ≤ 255) && (rises (-1) objs && decide (obSize objs ≤ 246)) && (if more then !objs.isEmpty && decide (lastId (-1) objs < next) else next == 0))) := by
            simp [Rp.devB, objsB, hb2, hb3, Bool.and_assoc]
          rcases lv_cases level with ⟨l1, l2, l3⟩ | ⟨l1, l2, l3⟩ | ⟨l3, l1⟩
          · exact vreply_dev3 w a2 c2 code level more next _ objs HO hb2 hb3 (.inl ⟨l1, l2⟩) V (by show _ = V; rw [← hV0, hdv, l3, Bool.true_and])
          · exact vreply_dev3 w a2 c2 code level more next _ objs HO hb2 hb3 (.inr ⟨l1, l2⟩) V (by show _ = V; rw [← hV0, hdv, l3, Bool.true_and])
          · have : V = false := by rw [← hV0, hdv, l3, Bool.false_and]
            subst this
            exact vreply_dev2 w a2 a 0 c2 objs.length c code level more next rfl hb2 hb3 l1
        · have : V = false := by
            rw [← hV0]
            cases hx : Rp.devB ⟨43, 0, data, code, level, more, next, objs⟩ with
            | false => rfl
            | true =>
              exfalso; apply hb
              simp only [Rp.devB, Bool.and_eq_true, decide_eq_true_eq, List.isEmpty_iff] at hx
              obtain ⟨⟨⟨⟨⟨⟨⟨h1, h2⟩, h3⟩, _⟩, _⟩, _⟩, _⟩, _⟩ := hx
              exact ⟨by rw [h1]; rfl, h2, h3⟩
          subst this
          exact vreply_dev1 w a2 a data.length c2 objs.length c code level more next (by omega)
      · rw [if_neg h43] at hV0
        by_cases h17 : fn = 17
        · subst h17
          rw [if_pos rfl, hpl] at hV0
          rw [← hV0]
          exact vreply_srv w a2 a data.length c2 objs.length c code level more next
        · rw [if_neg h17, hpl] at hV0
          rw [← hV0]
          refine vreply_tbl w fn a2 a data.length c2 objs.length c code level more next hk ?_
          unfold knownB tblB at hk
          simp at hk
          omega
    · have hok : Rp.ok ⟨fn, exc, data, code, level, more, next, objs⟩ = (decide (1 ≤ exc) && decide (exc ≤ 255) && (decide (data.length = 0) && Rp.plain ⟨fn, exc, data, code, level, more, next, objs⟩)) := by
        unfold Rp.ok Rp.short; rw [hk, if_neg hx, isEmpty_len]; rfl
      rw [hok, hpl] at hV0
      rw [← hV0]
      exact vreply_exc w fn exc a2 a data.length c2 objs.length c code level more next hk hx
def RowR (w : World) (sz : Nat) (y : Value) (m : Nat) (news : List Value) : Prop :=
  ∃ a c, y = .slice a m c ∧ news.length = m * sz ∧ (a = none → m = 0 ∧ c = 0) ∧ ∀ ad, a = some ad → ∀ (j : Nat) u, news[j]? = some u → w.cell? (ad.add j) = some u
theorem step_appR {P : Program} {w : World} {ops : Array Oper} {o : Oper} {a : Act} {K : Act → World → Prop} {Q : Exit → Act → World → Prop} {E : Prop} (hgd : o.guard = none) (s x : Operand) (t : TypeId)
    (ho : o.op = .call { callee := .builtin .append, args := #[s, x], argTypes := #[t, t] })
    (base : Nat) (e : TypeId) (i : TypeInfo) (z : Value) (size bytes : Nat) (ht : P.underlying t = some (.slice e)) (hi : P.info? e = some i) (hz : i.zero = some z)
    (hsize : i.size = size) (hby : i.bytes = bytes) (hzs : z.cells.size = size) (hsz : 0 < size)
    (v : Value) (n : Nat) (xs : List Value) (hs : a.eval s = v) (hown : w.ownsRow base e size v n xs)
    (y : Value) (m : Nat) (news : List Value) (hx : a.eval x = y) (hy : RowR w size y m news) (h1 : ∀ u ∈ news, u.oneCell' = true)
    (h63 : n + m ≤ maxLen) (hbytes : (n + m) * bytes ≤ 140737488355328) (hbase : base ≤ w.heap.size)
    (h : ∀ v' w', w'.ownsRow base e size v' (n + m) (xs ++ news) → w.grownBy w' v.ownBlock → NewOr w v v' → K (a.put o.dst v') w') :
    if Region.wanted o (yielded ops a.tmps) = true then Oper.wp P o a w K Q else E := by
  obtain ⟨ad, c, rfl, hl, hn, hc⟩ := hy
  cases ad with
  | some ad => exact step_appN hgd s x t ho base e i z size bytes ht hi hz hsize hby hzs hsz v n xs hs hown ad m c news hx hl (hc ad rfl) h1 h63 hbytes hbase h
  | none =>
    obtain ⟨rfl, rfl⟩ := hn rfl
    obtain rfl : news = [] := List.eq_nil_of_length_eq_zero (by simpa using hl)
    have hw : Region.wanted o (yielded ops a.tmps) = true := by simp [Region.wanted, hgd]
    rw [if_pos hw]
    subst hsize
    have hrun := run_append_owned_none (P := P) (w := w) base t o.type e i i.size ht hi v n xs hown
    unfold Oper.wp execOp
    simp only [ho, resolve, invoke, builtin, Sem.run_bind, Sem.run_pure, Result.andThen_ok, List.map_toArray, List.map_cons, List.map_nil, hs, hx, hrun]
    exact h v w (by simpa using hown) (World.grownBy.refl _ _) (.inl rfl)
theorem RowR.own {w : World} {base : Nat} {e : TypeId} {size : Nat} {v : Value} {n : Nat} {xs : List Value} (h : w.ownsRow base e size v n xs) : RowR w size v n xs := by
  rcases id h.2 with ⟨rfl, rfl⟩ | ⟨g, cap, cur, rfl, _⟩
  · exact ⟨none, 0, rfl, h.1, fun _ => ⟨rfl, rfl⟩, fun ad e => nomatch e⟩
  · refine ⟨some ⟨g, 0, none⟩, cap, rfl, h.1, (fun e => nomatch e), fun ad e j u hj => ?_⟩
    cases e
    exact h.cells (g := g) rfl j u hj
theorem RowR.keep {w w' : World} {sz : Nat} {y : Value} {m : Nat} {news : List Value} (h : RowR w sz y m news) (hb : Below w.heap.size w w') : RowR w' sz y m news := by
  obtain ⟨a, c, h1, h2, h3, h4⟩ := h
  exact ⟨a, c, h1, h2, h3, fun ad e j u hj => cell_keep hb (h4 ad e j u hj)⟩
def dA : Dv := { Dv.zero with st := 1 }
end Go.Proofs.YtpkheiaanjhffaaGreat
