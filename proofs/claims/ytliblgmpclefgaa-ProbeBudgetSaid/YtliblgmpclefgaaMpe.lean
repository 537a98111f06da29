/-
  The program's map: the contracts of Spans and New.
-/
import Derived.Test.YtliblgmpclefgaaMpd
namespace Go.Proofs.Ytliblgmpclefgaa
open Go.RowKit

/-- The row of spans. -/
def Spn (base : Nat) (w : World) (v : Value) (l : List (Int × Int)) : Prop := w.ownsRow base 114 2 v l.length (rcs l)
theorem Spn.nil (base : Nat) (w : World) : Spn base w (.slice none 0 0) [] := World.ownsRow_nil _ _ _ _
theorem Spn.keep {base : Nat} {w w' : World} {v : Value} {l : List (Int × Int)} (h : Spn base w v l) (hb : Below w.heap.size w w') : Spn base w' v l := own_keeps (F := fun _ => False) h (Keeps.of_below hb) (fun _ _ f => f)
theorem Spn.keeps {F : Nat → Prop} {base : Nat} {w w' : World} {v : Value} {l : List (Int × Int)} (h : Spn base w v l) (hk : Keeps F w w') (hn : ∀ k, v.ownBlock = some k → ¬ F k) : Spn base w' v l := own_keeps h hk hn
theorem Spn.slice {base : Nat} {w : World} {v : Value} {l : List (Int × Int)} (h : Spn base w v l) : ∃ a c, v = .slice a l.length c := own_slice h
theorem infoSp : (Try.prog.info? 114).map (fun i => (i.zero, i.size, i.bytes)) = some (some (.agg #[.int .i64 0, .int .i64 0]), 2, 16) := by kernel_rfl

def SpansPost (w : World) (l : List (Int × Int)) (r : Ending) (w' : World) : Prop := ∃ a c, r = .returned (.tuple #[.slice a l.length c, .bool true]) ∧ Spn w.heap.size w' (.slice a l.length c) l ∧ Below w.heap.size w w'

set_option maxRecDepth 100000 in
set_option maxHeartbeats 3200000 in
theorem mspans_any {P : Nat → Prop} {w : World} {g : Nat} {m : Mp} {v : Value} {q : Int} (h : MpAt P w g m v q) (hm : m.ok) (hr : m.rest = 0) (l : List (Int × Int)) (hl : Hid (rle m.ks = l)) :
    Calls Try.prog 94 #[.pointer (some ⟨g, 0, none⟩)] w (SpansPost w l) := by
  obtain ⟨i5, hi, hz0, hz1, hz2⟩ := info_parts infoSp
  have HAT := hid h.at_
  have HRN := hid hm.rn
  rw [hl.out] at HRN
  have HEN1 : Hid (Calls Try.prog 98 #[.pointer (some ⟨g, 0, none⟩)] w (BoolPost w true)) := mended_any h hm _ (decide_eq_true hr)
  have c7 : ∀ X, Below w.heap.size w X → X.cell? ⟨g, 7, none⟩ = some v := fun X k => hpCell (hpKeep HAT.out k) 7
  have HRU : Hid (∀ X, Below w.heap.size w X → Calls Try.prog 99 #[.agg #[v]] X fun r w' => ∃ a c, r = .returned (.slice a l.length c) ∧ Rns X.heap.size w' (.slice a l.length c) l ∧ Below X.heap.size X w') := fun X hX => by
    have hown := h.own
    rw [hl.out] at hown
    refine (rruns_any v l X (hown.keep hX) (by have := HRN.out.len; omega)).mono ?_
    rintro r w' ⟨v', rfl, h1, h2⟩
    obtain ⟨a, c, rfl⟩ := h1.slice
    exact ⟨a, c, rfl, h1, h2⟩
  clear h hm hr hl
  obtain ⟨n, hN⟩ : ∃ n, l.length = n := ⟨_, rfl⟩
  have HN := hid hN
  have hn : n ≤ 1024 := by have := HRN.out.len; omega
  rw [hN] at HRU
  clear hN
  go_enter Try.func94, Try.ntmps94
  go_wp2_with (first | (go_at_call 98; (with_reducible refine HEN1.out.mono ?_); rintro r w1 ⟨rfl, hb1⟩) | (go_at_call 99; (with_reducible refine (HRU.out w1 hb1).mono ?_); rintro r w2 ⟨va, vc, rfl, hr2, hb2⟩))
  have HR2 : Hid (Rns 0 w2 (.slice va n vc) l) := own_lower hr2 (Nat.zero_le _)
  have hB2 := bt hb1 hb2 (Nat.le_refl _)
  clear hr2 c7 hb1 hb2
  go_loopw [4, 20] (fun ov iv wr => ∃ (k : Nat) (oa : Option Addr) (oc : Nat), k ≤ n ∧ iv = .int .i64 k ∧ ov = .slice oa k oc ∧ Hid (wr.ownsRow w2.heap.size 114 2 (.slice oa k oc) k (rcs (l.take k))) ∧ Below w2.heap.size w2 wr) (fun _ iv _ => n - (intOf iv).toNat)
  case atStart => exact ⟨0, none, 0, Nat.zero_le _, rfl, rfl, World.ownsRow_nil _ _ _ _, Below.refl _ _⟩
  case round =>
    obtain ⟨k, oa, oc, hk, rfl, rfl, hown, hbw⟩ := hrel
    by_cases hlt : k < n
    · obtain ⟨p, hp⟩ := gs (l := l) HN.out hlt
      obtain ⟨g', cap, hv, d1, d2, _⟩ := (HR2.out.keep hbw).at hp
      rw [HN.out] at hv
      simp only [Value.slice.injEq, true_and] at hv
      obtain ⟨rfl, rfl⟩ := hv
      have HC : Hid (rcs (l.take (k + 1)) = rcs (l.take k) ++ [.int .i64 p.1, .int .i64 p.2]) := by
        show _ = _
        rw [List.take_add_one, hp, rcs_append]
        rfl
      obtain ⟨c, hc⟩ : ∃ c, p.1 = c := ⟨_, rfl⟩
      rw [hc] at HC d1
      obtain ⟨x, hx⟩ : ∃ x, p.2 = x := ⟨_, rfl⟩
      rw [hx] at HC d2
      have hki : (0 : Int) ≤ (k : Int) := Int.natCast_nonneg _
      have hkl : (k : Int) < (n : Int) := by omega
      have hsz := hbw.size
      have hsz2 := hB2.size
      have q1 := hpNew wr (.cells #[.int .i64 c, .int .i64 x] 153)
      have q2 := hpCell q1 0
      have q3 := hpCell q1 1
      clear hp hc hx q1
      go_wp2_with (at_builtin; refine wpList_appN rfl _ _ 39 rfl w2.heap.size 114 i5 _ 2 16 Try.underlying39 hi hz0 hz1 hz2 rfl (by decide) (.slice oa k oc) k (rcs (l.take k)) rfl ((hown.out.alloc _).alloc _) ⟨wr.heap.size + 1, 0, none⟩ 1 1 [.int .i64 c, .int .i64 x] rfl rfl (by have := newsNew (wr.alloc (.cells #[.int .i64 c, .int .i64 x] 153)) [.int .i64 c, .int .i64 x] 114; simpa using this) (by intro u hu; simp at hu; rcases hu with rfl | rfl <;> rfl) (by unfold maxLen; omega) (by omega) (by simp; omega) ?c3)
      case c3 =>
        intro v6 w6 hown6 hgr6 _
        obtain ⟨a6, c6, rfl⟩ := own_slice hown6
        have HO6 : Hid (w6.ownsRow w2.heap.size 114 2 (.slice a6 (k + 1) c6) (k + 1) (rcs (l.take (k + 1)))) := by show w6.ownsRow _ _ _ _ _ _; rw [HC.out]; exact hown6
        have hb6 : Below w2.heap.size w2 w6 := (bta (bta hbw (Nat.le_refl _) _) (Nat.le_refl _) _).grown hgr6 (by simp; omega) (fun j hj => (hown.out.lt j hj).1)
        clear hown6 hgr6
        go_wp2
        go_roundw
        case rel => exact ⟨k + 1, a6, c6, by omega, by go_num, rfl, HO6.out, hb6⟩
        case measure => simp [intOf]; omega
    · obtain rfl : k = n := by omega
      have HT : Hid (l.take k = l) := List.take_of_length_le (by rw [HN.out]; exact Nat.le_refl _)
      have HE : Hid (Spn w.heap.size wr (.slice oa k oc) l) := by
        have := own_lower hown.out hB2.size
        rw [HT.out] at this
        show wr.ownsRow _ _ _ _ _ _
        rw [HN.out]
        exact this
      clear hown
      go_wp2
      refine bodyPost_ret (v := .tuple #[.slice oa k oc, .bool true]) (by simp [results, Try.results94, go_sem]) rfl ?_
      exact ⟨oa, oc, by rw [HN.out], by rw [HN.out]; exact HE.out, bt hB2 hbw (Nat.le_refl _)⟩

def Mp.new (tb first cnt most : Int) : Mp := ⟨tb, first, cnt, most, 0, 0, 0, []⟩
theorem Mp.new_ok {tb first cnt most : Int} (t0 : 1 ≤ tb) (t1 : tb ≤ 4) (c0 : 1 ≤ cnt) (c1 : cnt ≤ 512) (f0 : 0 ≤ first) (f1 : first ≤ 65536 - cnt) (m0 : 1 ≤ most) (m1 : most ≤ 2000) : (Mp.new tb first cnt most).ok :=
  ⟨t0, t1, c0, c1, f0, f1, m0, m1, (by show (0 : Int) ≤ cnt; omega), fun e => absurd (show (0 : Int) = 2 from e) (by decide)⟩
set_option maxRecDepth 100000 in
set_option maxHeartbeats 3200000 in
theorem mnew_any (tb first cnt most : Int) (t0 : 1 ≤ tb) (t1 : tb ≤ 4) (c0 : 1 ≤ cnt) (c1 : cnt ≤ 512) (f0 : 0 ≤ first) (f1 : first ≤ 65536 - cnt) (m0 : 1 ≤ most) (m1 : most ≤ 2000) (w : World) :
    Calls Try.prog 92 #[.int .i64 tb, .agg #[.int .i64 first, .int .i64 cnt], .int .i64 most] w fun r w' => ∃ g : Nat, r = .returned (.pointer (some ⟨g, 0, none⟩)) ∧ w.heap.size ≤ g ∧ MpAt (Grw (fun _ => False) w w') w' g (Mp.new tb first cnt most) (.slice none 0 0) 0 ∧ Below w.heap.size w w' := by
  have a1 : ¬ tb < 1 := by omega
  have a2 : ¬ 4 < tb := by omega
  have a3 : ¬ cnt < 1 := by omega
  have a4 : ¬ 512 < cnt := by omega
  have a5 : ¬ first < 0 := by omega
  have a6 : ¬ 65536 - cnt < first := by omega
  have a7 : ¬ most < 1 := by omega
  have a8 : ¬ 2000 < most := by omega
  have sw : IntKind.i64.wrap (65536 - cnt) = 65536 - cnt := IntWalk.i64_in _ (by omega)
  clear t0 t1 c0 c1 f0 f1 m0 m1
  go_enter Try.func92, Try.ntmps92
  go_wp2
  go_ret
  refine ⟨w.heap.size + 1, rfl, by omega, ⟨?_, Rns.nil _ _, .inr (by simp), fun j hj => by cases hj⟩, bta (bal' w _) (Nat.le_refl _) _⟩
  have := hpNew (w.alloc (.cells #[.int .i64 first, .int .i64 cnt] 23)) (.cells #[.int .i64 (Mp.new tb first cnt most).tb, .int .i64 (Mp.new tb first cnt most).first, .int .i64 (Mp.new tb first cnt most).cnt, .int .i64 (Mp.new tb first cnt most).most, .int .i64 (Mp.new tb first cnt most).mode, .int .i64 (Mp.new tb first cnt most).lo, .int .i64 (Mp.new tb first cnt most).hi, (.slice none 0 0), .int .i64 0] 150)
  simpa [Mp.new] using this

end Go.Proofs.Ytliblgmpclefgaa
