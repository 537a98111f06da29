/-
  The contracts of the reference's Size and ValidReply.
-/
import Derived.Test.YtliblgmpclefgaaGreatMrecb
namespace Go.Proofs.YtliblgmpclefgaaGreat
open Go.RowKit

/-- What Size answers: above 246 just where the objects are too long. -/
def SizeOk (l : List Ob) (r : Ending) : Prop := ∃ s : Nat, r = .returned (.int .i64 s) ∧ (s ≤ 246 ↔ obSize l ≤ 246)

/-- Where Size stands behind k rounds. -/
def SizeAt (l : List Ob) (k s : Nat) : Prop := s ≤ 600 ∧ (s ≤ 246 → s = obSize (l.take k)) ∧ (246 < s → 246 < obSize l)

theorem SizeAt.step {l : List Ob} {k s : Nat} {x : Ob} (h : SizeAt l k s) (hs : s ≤ 246) (hx : l[k]? = some x) (m : Nat) (hm : m = min x.val.length 300) : SizeAt l (k + 1) (s + (2 + m)) := by
  obtain ⟨h1, h2, h3⟩ := h
  have e : obSize (l.take (k + 1)) = obSize (l.take k) + (2 + x.val.length) := by rw [take_succ_snoc hx, obSize_snoc]
  have h4 := obSize_pre (l.drop (k + 1)) (l.take (k + 1))
  rw [List.take_append_drop] at h4
  have h5 := h2 hs
  refine ⟨by omega, fun h => by omega, fun h => by omega⟩

set_option maxRecDepth 100000 in
set_option maxHeartbeats 3200000 in
theorem size_any (v : Value) (l : List Ob) (w : World) (ho : Obs w v l) :
    Calls Tryz.prog 67 #[v] w fun r w' => SizeOk l r ∧ w = w' := by
  obtain ⟨a, n, c, rfl, hln, hn, hnc, hcm, hel⟩ := ho.open_
  clear ho
  replace hel := hid hel
  replace hln := hid hln
  go_enter Tryz.func67, Tryz.ntmps67
  go_wp2
  go_loop [3, 4] (fun sv i => ∃ k s : Nat, k ≤ n ∧ i = .int .i64 k ∧ sv = .int .i64 s ∧ SizeAt l k s) (fun _ i => n - (intOf i).toNat)
  case atStart => exact ⟨0, 0, Nat.zero_le _, rfl, rfl, by omega, fun _ => rfl, fun h => by omega⟩
  case round =>
    obtain ⟨k, s, hk, rfl, rfl, hsz⟩ := hrel
    have hs6 := hsz.1
    replace hsz := hid hsz
    by_cases hlt : k < n
    · by_cases hs : s ≤ 246
      · obtain ⟨x, hgx⟩ := get_some hln.out hlt
        obtain ⟨b, o, xa, xc, rfl, _, d2, hb⟩ := hel.out k x hgx
        have hxm := hb.len
        unfold maxLen at hxm
        obtain ⟨m, hm⟩ : ∃ m, m = min x.val.length 300 := ⟨_, rfl⟩
        have HST := hid (hsz.out.step hs hgx m hm)
        have hkl : (k : Int) < (n : Int) := by omega
        clear hgx hb
        generalize x.val.length = xn at *
        have hmm : (if (300 : Int) < (xn : Int) then (300 : Int) else (xn : Int)) = (m : Int) := by split <;> omega
        have hm3 : m ≤ 300 := by omega
        replace hm := hid hm
        go_wp2
        go_round
        case rel => exact ⟨k + 1, s + (2 + m), by omega, by go_num, by go_num, HST.out⟩
        case measure => simp [intOf]; omega
      · have HF : Hid (SizeOk l (.returned (.int .i64 s))) := ⟨s, rfl, by have := hsz.out.2.2 (by omega); omega⟩
        go_wp2
        go_ret
        exact ⟨HF.out, rfl⟩
    · obtain rfl : k = n := by omega
      have HF : Hid (SizeOk l (.returned (.int .i64 s))) := by
        refine ⟨s, rfl, ?_⟩
        have h2 := hsz.out.2.1
        have h3 := hsz.out.2.2
        rw [← hln.out, List.take_length] at h2
        omega
      go_wp2
      go_ret
      exact ⟨HF.out, rfl⟩


end Go.Proofs.YtliblgmpclefgaaGreat
