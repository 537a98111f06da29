/-
  The program's map: the contracts of learn, halve, Next.
-/
import Derived.Test.YtliblgmpclefgaaMpa
import Derived.Test.YtliblgmpclefgaaIde
namespace Go.Proofs.Ytliblgmpclefgaa
open Go.RowKit

theorem rnew01_any (n u : Int) (hn : 0 ≤ n) (hn2 : n ≤ 65536) (w : World) :
    Calls Try.prog 133 #[.int .i64 n, .int .i64 u] w fun r w' => ∃ v, r = .returned (.agg #[v]) ∧ Rns w.heap.size w' v (if n = 0 then [] else [(n, u)]) ∧ Below w.heap.size w w' := by
  by_cases h : n = 0
  · subst h
    refine (rnew0_any u w).mono ?_
    rintro r w' ⟨rfl, hb⟩
    exact ⟨_, rfl, Rns.nil _ _, hb⟩
  · rw [if_neg h]
    exact rnew_any n u (by omega) hn2 w

/-- What a step of the map leaves. -/
def MpFed (P : Nat → Prop) (w : World) (g : Nat) (y : Mp) (w' : World) : Prop := (∃ v q, MpAt (Grw P w w') w' g y v q) ∧ Keeps (· = g) w w'
theorem MpAt.grow {P : Nat → Prop} {w w' : World} {g : Nat} {m : Mp} {v : Value} {q : Int} (h : MpAt P w g m v q) (hb : Below w.heap.size w w') (Q : Nat → Prop) (hQ : ∀ j, P j → Q j) : MpAt Q w' g m v q :=
  ⟨hpKeep h.at_ hb, h.own.keep hb, hQ _ h.pg, fun j hj => ⟨hQ _ (h.pv j hj).1, (h.pv j hj).2⟩⟩
/-- A cell other than the row's has changed. -/
theorem MpAt.cell_set {P : Nat → Prop} {W : World} {g : Nat} {m : Mp} {v : Value} {q : Int} (h : MpAt P W g m v q) (i : Nat) (u : Value) (y : Mp) (q' : Int) (e : (#[.int .i64 m.tb, .int .i64 m.first, .int .i64 m.cnt, .int .i64 m.most, .int .i64 m.mode, .int .i64 m.lo, .int .i64 m.hi, v, .int .i64 q] : Array Value).setIfInBounds i u = #[.int .i64 y.tb, .int .i64 y.first, .int .i64 y.cnt, .int .i64 y.most, .int .i64 y.mode, .int .i64 y.lo, .int .i64 y.hi, v, .int .i64 q']) (hk : y.ks = m.ks) :
    MpAt P (W.setCell ⟨g, i, none⟩ u) g y v q' := by
  have hk2 : Keeps (· = g) W (W.setCell ⟨g, i, none⟩ u) := (Keeps.refl _ _).set _ _ rfl
  refine ⟨hpSetP h.at_ e, ?_, h.pg, h.pv⟩
  rw [hk]
  exact h.own.keeps hk2 (fun k hk e => (h.pv k hk).2 e)

theorem learn_eq (m : Mp) (n k mo : Int) (hn : 0 ≤ n) : rle (m.learn n k mo).ks = pushAll (rle m.ks) (if n = 0 then [] else [(n, k)]) := by
  show rle (m.ks ++ List.replicate n.toNat k) = _
  rw [rle_rep]
  by_cases h : n = 0
  · subst h
    rfl
  · rw [if_neg (by omega), if_neg h]
    show _ = pushR (rle m.ks) n k
    rw [Int.toNat_of_nonneg hn]

set_option maxRecDepth 100000 in
set_option maxHeartbeats 1600000 in
theorem mlearn_any {P : Nat → Prop} {w : World} {g : Nat} {m : Mp} {v : Value} {q : Int} (h : MpAt P w g m v q) (n k mo : Int) (hn : 0 ≤ n) (hl : (m.ks.length : Int) + n ≤ 512) (y : Mp) (hy : y = m.learn n k mo) :
    Calls Try.prog 131 #[.pointer (some ⟨g, 0, none⟩), .int .i64 n, .int .i64 k, .int .i64 mo] w fun r w' => r = .returned (.tuple #[]) ∧ MpFed P w g y w' := by
  have HAT := hid h.at_
  have hrn : RnOk (rle m.ks) := rle_ok _ (by omega)
  have c7 : ∀ X, Below w.heap.size w X → X.cell? ⟨g, 7, none⟩ = some v := fun X k => hpCell (hpKeep HAT.out k) 7
  have f7 : ∀ X, Below w.heap.size w X → X.frozen? ⟨g, 7, none⟩ = false := fun X k => hpFree (hpKeep HAT.out k) 7
  have HNW : Hid (∀ X, Calls Try.prog 133 #[.int .i64 n, .int .i64 k] X fun r w' => ∃ v, r = .returned (.agg #[v]) ∧ Rns X.heap.size w' v (if n = 0 then [] else [(n, k)]) ∧ Below X.heap.size X w') := fun X => rnew01_any n k hn (by omega) X
  have HAP : Hid (∀ vm X, Below w.heap.size w X → Rns 0 X vm (if n = 0 then [] else [(n, k)]) → Calls Try.prog 132 #[.agg #[v], .agg #[vm]] X (AppdPost X (rle y.ks))) := fun vm X hX hr => by
    rw [hy, learn_eq m n k mo hn]
    have hs := rle_sum m.ks
    refine rappend_any v vm _ _ X (h.own.keep hX) hr hrn ?_ ?_
    · split
      · exact RnOk.nil
      · exact ⟨fun p hp => by simp at hp; subst hp; show 1 ≤ n; omega, by show n + 0 ≤ 1024; omega⟩
    · split
      · show _ + 0 ≤ _
        omega
      · show _ + (n + 0) ≤ _
        omega
  have H := hid h
  have HY := hid hy
  have k0 : Below w.heap.size w w := Below.refl _ _
  have kD : Below w.heap.size w w.drew := (Below.refl _ _).drew
  clear h hn hl hrn hy
  go_enter Try.func131, Try.ntmps131
  go_upto_region 0 with (fail)
  go_region_with (first | (go_at_call 133; (with_reducible refine (HNW.out _).mono ?_); rintro r w2 ⟨v2, rfl, hr2, hb2⟩; have hB2 := bt kD hb2 (Nat.le_refl _); have hr20 : Rns 0 w2 v2 (if n = 0 then [] else [(n, k)]) := own_lower hr2 (Nat.zero_le _)) | (go_at_call 132; (with_reducible refine (HAP.out v2 w2 hB2 hr20).mono ?_); rintro r w3 ⟨v3, rfl, hr3, hb3⟩; obtain ⟨a3, k3, rfl⟩ := hr3.slice; have hB3 := bt hB2 hb3 (Nat.le_refl _); have y7 := f7 w3 hB3))
  all_goals
    have hHR := hid hr3
    have hK : Keeps (· = g) w (w3.setCell ⟨g, 7, none⟩ (.slice a3 (rle y.ks).length k3)) := ks1 (Keeps.of_below hB3) _ _
    have p4 := hpSet (hpKeep H.out.at_ hB3) 7 (.slice a3 (rle y.ks).length k3)
    have z4 := hpCell p4 4
    have f4 := hpFree p4 4
    go_wp2
    go_end0
    have hB : Below w.heap.size w w3 := hB3
    have hk4 : Keeps (· = g) w3 ((w3.setCell ⟨g, 7, none⟩ (.slice a3 (rle y.ks).length k3)).setCell ⟨g, 4, none⟩ (.int .i64 mo)) := ks1 (ks1 (Keeps.refl _ _) _ _) _ _
    have hge : ∀ j, (Value.slice a3 (rle y.ks).length k3).ownBlock = some j → w.heap.size ≤ j ∧ j < w3.heap.size := fun j hj => by
      have h1 := hr3.lt j hj
      have h2 := hB2.size
      omega
    have hgl := H.out.lt
    refine ⟨rfl, ⟨.slice a3 (rle y.ks).length k3, q, ?_, ?_, .inl H.out.pg, fun j hj => ?_⟩, ks1 hK _ _⟩
    · have hy := HY.out
      subst hy
      exact hpSetP p4 rfl
    · exact Rns.keeps (own_lower hr3 (Nat.zero_le _)) hk4 (fun j hj e => by have := (hge j hj).1; omega)
    · have h1 := hge j hj
      exact ⟨.inr (by simp; omega), by omega⟩

theorem MpFed.from {P : Nat → Prop} {w w2 w1 : World} {g : Nat} {y : Mp} (hk : Keeps (· = g) w w2) (h : MpFed P w2 g y w1) : MpFed P w g y w1 := by
  obtain ⟨⟨v, q, h1⟩, h2⟩ := h
  refine ⟨⟨v, q, h1.at_, h1.own, ?_, fun j hj => ⟨?_, (h1.pv j hj).2⟩⟩, hk.trans h2 (fun _ _ e => e)⟩
  · rcases h1.pg with h | h
    · exact .inl h
    · exact .inr ⟨Nat.le_trans hk.size h.1, h.2⟩
  · rcases (h1.pv j hj).1 with h | h
    · exact .inl h
    · exact .inr ⟨Nat.le_trans hk.size h.1, h.2⟩
theorem MpFed.trans {P : Nat → Prop} {w w1 w3 : World} {g : Nat} {y z : Mp} (h1 : MpFed P w g y w1) (h : MpFed (Grw P w w1) w1 g z w3) : MpFed P w g z w3 := by
  obtain ⟨⟨v, q, h3⟩, h4⟩ := h
  have hs := h1.2.size
  have hs4 := h4.size
  have hQ : ∀ j, Grw (Grw P w w1) w1 w3 j → Grw P w w3 j := fun j hj => by
    rcases hj with (hj | hj) | hj
    · exact .inl hj
    · exact .inr ⟨hj.1, by omega⟩
    · exact .inr ⟨by omega, hj.2⟩
  exact ⟨⟨v, q, h3.at_, h3.own, hQ _ h3.pg, fun j hj => ⟨hQ _ (h3.pv j hj).1, (h3.pv j hj).2⟩⟩, h1.2.trans h4 (fun _ _ e => e)⟩
theorem MpFed.of {P : Nat → Prop} {w w' : World} {g : Nat} {y : Mp} {v : Value} {q : Int} (h : MpAt P w' g y v q) (hk : Keeps (· = g) w w') : MpFed P w g y w' :=
  ⟨⟨v, q, h.at_, h.own, .inl h.pg, fun j hj => ⟨.inl (h.pv j hj).1, (h.pv j hj).2⟩⟩, hk⟩

/-- What the half of a search tells. -/
def Mp.halved (m : Mp) (p n : Bool) : Mp :=
  if p then (if m.hi = m.size + 1 then ({ m with lo := m.size }.learn m.size 1 0).learn 1 2 0 else { m with lo := m.size })
  else if n then (if m.size = m.lo + 1 then ({ m with hi := m.size }.learn m.lo 1 0).learn 1 2 0 else { m with hi := m.size })
  else m.learn m.lo 1 0
def EndPost (P : Nat → Prop) (w : World) (g : Nat) (y : Mp) (r : Ending) (w' : World) : Prop := r = .returned (.tuple #[]) ∧ MpFed P w g y w'
theorem Mp.ok.half {m : Mp} (_h : m.ok) (h2 : m.mode = 2) : m.size = (m.lo + m.hi) / 2 := by unfold Mp.size; rw [if_neg (by omega), if_pos h2]
theorem Mp.learn_len (m : Mp) (n k mo : Int) (hn : 0 ≤ n) : ((m.learn n k mo).ks.length : Int) = m.ks.length + n := by
  show ((m.ks ++ List.replicate n.toNat k).length : Int) = _
  rw [List.length_append, List.length_replicate]
  omega

set_option maxRecDepth 100000 in
set_option maxHeartbeats 3200000 in
theorem mhalve_p {P : Nat → Prop} {w : World} {g : Nat} {m : Mp} {v : Value} {q : Int} (h : MpAt P w g m v q) (hm : m.ok) (h2 : m.mode = 2) (n : Bool) (N : Int) (hN : m.size = N) (y : Mp) (hy : y = m.halved true n) :
    Calls Try.prog 130 #[.pointer (some ⟨g, 0, none⟩), .int .i64 N, .bool true, .bool n] w (EndPost P w g y) := by
  have hse := hm.se h2
  have hsz := hm.half h2
  rw [hN] at hsz
  have hc1 := hm.c1
  unfold Mp.rest at hse
  have n0 : 0 ≤ N := by omega
  have n1 : N ≤ 512 := by omega
  have f5 : w.frozen? ⟨g, 5, none⟩ = false := hpFree h.at_ 5
  have c5 : w.cell? ⟨g, 5, none⟩ = some (.int .i64 m.lo) := hpCell h.at_ 5
  have c6 : w.cell? ⟨g, 6, none⟩ = some (.int .i64 m.hi) := hpCell h.at_ 6
  have sw : IntKind.i64.wrap (N + 1) = N + 1 := IntWalk.i64_in _ (by omega)
  have hA : MpAt P (w.setCell ⟨g, 5, none⟩ (.int .i64 N)) g { m with lo := N } v q := h.cell_set 5 _ _ _ rfl rfl
  have hk : Keeps (· = g) w (w.setCell ⟨g, 5, none⟩ (.int .i64 N)) := ks1 (Keeps.refl _ _) _ _
  unfold Mp.halved at hy
  rw [if_pos rfl, hN] at hy
  by_cases hd : m.hi = N + 1
  · rw [if_pos hd] at hy
    have d := b1 hd
    have HL1 : Hid (∀ k, Calls Try.prog 131 #[.pointer (some ⟨g, 0, none⟩), .int .i64 N, .int .i64 1, .int .i64 0] ((w.setCell ⟨g, 5, none⟩ (.int .i64 N)).drewN k) (EndPost P ((w.setCell ⟨g, 5, none⟩ (.int .i64 N)).drewN k) g ({ m with lo := N }.learn N 1 0))) := fun k => mlearn_any (hA.grow (below_drewN (Below.refl _ _) _) P (fun _ e => e)) N 1 0 n0 (by show (m.ks.length : Int) + N ≤ 512; omega) _ rfl
    have hll := Mp.learn_len { m with lo := N } N 1 0 n0
    have HL2 : Hid (∀ P w v q, MpAt P w g ({ m with lo := N }.learn N 1 0) v q → Calls Try.prog 131 #[.pointer (some ⟨g, 0, none⟩), .int .i64 1, .int .i64 2, .int .i64 0] w (EndPost P w g y)) := fun P w v q h => mlearn_any h 1 2 0 (by decide) (by rw [hll]; show (m.ks.length : Int) + N + 1 ≤ 512; omega) y hy
    have HK := hid hk
    clear h hm h2 hN hy hse hsz hc1 hd hA hk hll
    go_enter Try.func130, Try.ntmps130
    go_wp2
    go_quiet (fail)
    go_wp2_with (first | (go_at_call 131; (with_reducible refine (HL1.out _).mono ?_); rintro r w3 ⟨rfl, hF3⟩; obtain ⟨⟨v3, q3, hA3⟩, hk3⟩ := id hF3) | (go_at_call 131; (with_reducible refine (HL2.out _ _ _ _ hA3).mono ?_); rintro r w4 ⟨rfl, hF4⟩))
    go_end0
    exact ⟨rfl, (MpFed.from (HK.out.trans (Keeps.of_below (below_drewN (Below.refl _ _) _)) (fun _ _ e => e)) (hF3.trans hF4))⟩
  · rw [if_neg hd] at hy
    have d := b0 hd
    have HA := hid hA
    have HK := hid hk
    have HY := hid hy
    clear h hm h2 hN hy hse hsz hc1 hd hA hk
    go_enter Try.func130, Try.ntmps130
    go_wp2
    go_quiet (fail)
    go_wp2
    go_end0
    rw [HY.out]
    exact ⟨rfl, MpFed.of (HA.out.grow (below_drewN (Below.refl _ _) _) P (fun _ e => e)) (HK.out.trans (Keeps.of_below (below_drewN (Below.refl _ _) _)) (fun _ _ e => e))⟩

set_option maxRecDepth 100000 in
set_option maxHeartbeats 3200000 in
theorem mhalve_n {P : Nat → Prop} {w : World} {g : Nat} {m : Mp} {v : Value} {q : Int} (h : MpAt P w g m v q) (hm : m.ok) (h2 : m.mode = 2) (N : Int) (hN : m.size = N) (y : Mp) (hy : y = m.halved false true) :
    Calls Try.prog 130 #[.pointer (some ⟨g, 0, none⟩), .int .i64 N, .bool false, .bool true] w (EndPost P w g y) := by
  have hse := hm.se h2
  have hsz := hm.half h2
  rw [hN] at hsz
  have hc1 := hm.c1
  unfold Mp.rest at hse
  have n0 : 0 ≤ m.lo := by omega
  have n1 : m.lo ≤ 512 := by omega
  have f6 : w.frozen? ⟨g, 6, none⟩ = false := hpFree h.at_ 6
  have c5 : w.cell? ⟨g, 5, none⟩ = some (.int .i64 m.lo) := hpCell h.at_ 5
  have c6 : w.cell? ⟨g, 6, none⟩ = some (.int .i64 m.hi) := hpCell h.at_ 6
  have sw : IntKind.i64.wrap (m.lo + 1) = m.lo + 1 := IntWalk.i64_in _ (by omega)
  have hA : MpAt P (w.setCell ⟨g, 6, none⟩ (.int .i64 N)) g { m with hi := N } v q := h.cell_set 6 _ _ _ rfl rfl
  have hk : Keeps (· = g) w (w.setCell ⟨g, 6, none⟩ (.int .i64 N)) := ks1 (Keeps.refl _ _) _ _
  unfold Mp.halved at hy
  rw [if_neg (by decide), if_pos rfl, hN] at hy
  by_cases hd : N = m.lo + 1
  · rw [if_pos hd] at hy
    have d := b1 hd
    have HL1 : Hid (∀ k, Calls Try.prog 131 #[.pointer (some ⟨g, 0, none⟩), .int .i64 m.lo, .int .i64 1, .int .i64 0] ((w.setCell ⟨g, 6, none⟩ (.int .i64 N)).drewN k) (EndPost P ((w.setCell ⟨g, 6, none⟩ (.int .i64 N)).drewN k) g ({ m with hi := N }.learn m.lo 1 0))) := fun k => mlearn_any (hA.grow (below_drewN (Below.refl _ _) _) P (fun _ e => e)) m.lo 1 0 n0 (by show (m.ks.length : Int) + m.lo ≤ 512; omega) _ rfl
    have hll := Mp.learn_len { m with hi := N } m.lo 1 0 n0
    have HL2 : Hid (∀ P w v q, MpAt P w g ({ m with hi := N }.learn m.lo 1 0) v q → Calls Try.prog 131 #[.pointer (some ⟨g, 0, none⟩), .int .i64 1, .int .i64 2, .int .i64 0] w (EndPost P w g y)) := fun P w v q h => mlearn_any h 1 2 0 (by decide) (by rw [hll]; show (m.ks.length : Int) + m.lo + 1 ≤ 512; omega) y hy
    have HK := hid hk
    clear h hm h2 hN hy hse hsz hc1 hd hA hk hll
    go_enter Try.func130, Try.ntmps130
    go_wp2
    go_quiet (fail)
    go_wp2_with (first | (go_at_call 131; (with_reducible refine (HL1.out _).mono ?_); rintro r w3 ⟨rfl, hF3⟩; obtain ⟨⟨v3, q3, hA3⟩, hk3⟩ := id hF3) | (go_at_call 131; (with_reducible refine (HL2.out _ _ _ _ hA3).mono ?_); rintro r w4 ⟨rfl, hF4⟩))
    go_end0
    exact ⟨rfl, (MpFed.from (HK.out.trans (Keeps.of_below (below_drewN (Below.refl _ _) _)) (fun _ _ e => e)) (hF3.trans hF4))⟩
  · rw [if_neg hd] at hy
    have d := b0 hd
    have HA := hid hA
    have HK := hid hk
    have HY := hid hy
    clear h hm h2 hN hy hse hsz hc1 hd hA hk
    go_enter Try.func130, Try.ntmps130
    go_wp2
    go_quiet (fail)
    go_wp2
    go_end0
    rw [HY.out]
    exact ⟨rfl, MpFed.of (HA.out.grow (below_drewN (Below.refl _ _) _) P (fun _ e => e)) (HK.out.trans (Keeps.of_below (below_drewN (Below.refl _ _) _)) (fun _ _ e => e))⟩

set_option maxRecDepth 100000 in
set_option maxHeartbeats 3200000 in
theorem mhalve_o {P : Nat → Prop} {w : World} {g : Nat} {m : Mp} {v : Value} {q : Int} (h : MpAt P w g m v q) (hm : m.ok) (h2 : m.mode = 2) (N : Int) (y : Mp) (hy : y = m.halved false false) :
    Calls Try.prog 130 #[.pointer (some ⟨g, 0, none⟩), .int .i64 N, .bool false, .bool false] w (EndPost P w g y) := by
  have hse := hm.se h2
  have hc1 := hm.c1
  unfold Mp.rest at hse
  have c5 : w.cell? ⟨g, 5, none⟩ = some (.int .i64 m.lo) := hpCell h.at_ 5
  have HL1 : Hid (Calls Try.prog 131 #[.pointer (some ⟨g, 0, none⟩), .int .i64 m.lo, .int .i64 1, .int .i64 0] w (EndPost P w g y)) := mlearn_any h m.lo 1 0 hse.1 (by omega) _ hy
  clear h hm h2 hy hse hc1
  go_enter Try.func130, Try.ntmps130
  go_wp2_with (go_at_call 131; (with_reducible refine HL1.out.mono ?_); rintro r w3 ⟨rfl, hF3⟩)
  first | go_end0 | (refine bodyPost_ret (results_none rfl _ _ _) rfl ?_)
  exact ⟨rfl, hF3⟩

theorem mhalve_any {P : Nat → Prop} {w : World} {g : Nat} {m : Mp} {v : Value} {q : Int} (h : MpAt P w g m v q) (hm : m.ok) (h2 : m.mode = 2) (p n : Bool) (N : Int) (hN : m.size = N) (y : Mp) (hy : y = m.halved p n) :
    Calls Try.prog 130 #[.pointer (some ⟨g, 0, none⟩), .int .i64 N, .bool p, .bool n] w (EndPost P w g y) := by
  cases p
  · cases n
    · exact mhalve_o h hm h2 N y hy
    · exact mhalve_n h hm h2 N hN y hy
  · exact mhalve_p h hm h2 n N hN y hy

end Go.Proofs.Ytliblgmpclefgaa
