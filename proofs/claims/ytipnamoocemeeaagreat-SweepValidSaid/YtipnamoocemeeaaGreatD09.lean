/-
  Texts 9 of the claim.
-/
import Derived.Test.YtipnamoocemeeaaGreatD07
import Derived.Test.YtipnamoocemeeaaGreatD08
namespace Go.Proofs.YtipnamoocemeeaaGreat
open Go.RowKit
theorem rnew01_any (n u : Int) (hn : 0 ≤ n) (hn2 : n ≤ 65536) (w : World) :
    Calls Tryz.prog 208 #[.int .i64 n, .int .i64 u] w fun r w' => ∃ v, r = .returned (.agg #[v]) ∧ Rns w.heap.size w' v (if n = 0 then [] else [(n, u)]) ∧ Below w.heap.size w w' := by
  by_cases h : n = 0
  · subst h
    refine (rnew0_any u w).mono ?_
    rintro r w' ⟨rfl, hb⟩
    exact ⟨_, rfl, Rns.nil _ _, hb⟩
  · rw [if_neg h]
    exact rnew_any n u (by omega) hn2 w
def MpFed (P : Nat → Prop) (w : World) (g : Nat) (y : Mp) (w' : World) : Prop := (∃ v q, MpAt (Grw P w w') w' g y v q) ∧ Keeps (· = g) w w'
theorem MpAt.grow {P : Nat → Prop} {w w' : World} {g : Nat} {m : Mp} {v : Value} {q : Int} (h : MpAt P w g m v q) (hb : Below w.heap.size w w') (Q : Nat → Prop) (hQ : ∀ j, P j → Q j) : MpAt Q w' g m v q :=
  ⟨hpKeep h.at_ hb, h.own.keep hb, hQ _ h.pg, fun j hj => ⟨hQ _ (h.pv j hj).1, (h.pv j hj).2⟩⟩
theorem MpAt.cell_set {P : Nat → Prop} {W : World} {g : Nat} {m : Mp} {v : Value} {q : Int} (h : MpAt P W g m v q) (i : Nat) (u : Value) (y : Mp) (q' : Int) (e : (#[.int .i64 m.tb, .int .i64 m.first, .int .i64 m.cnt, .int .i64 m.most, .int .i64 m.mode, .int .i64 m.lo, .int .i64 m.hi, v, .int .i64 q] : Array Value).setIfInBounds i u = #[.int .i64 y.tb, .int .i64 y.first, .int .i64 y.cnt, .int .i64 y.most, .int .i64 y.mode, .int .i64 y.lo, .int .i64 y.hi, v, .int .i64 q']) (hk : y.ks = m.ks) :
    MpAt P (W.setCell ⟨g, i, none⟩ u) g y v q' := by
  have hk2 : Keeps (· = g) W (W.setCell ⟨g, i, none⟩ u) := (Keeps.refl _ _).set _ _ rfl
  refine ⟨hpSetP h.at_ e, ?_, h.pg, h.pv⟩
  rw [hk]
  exact h.own.keeps hk2 (fun k hk e => (h.pv k hk).2 e)
theorem learn_eq (m : Mp) (n k mo : Int) (hn : 0 ≤ n) : rle (m.learn n k mo).ks = pushAll (rle m.ks) (if n = 0 then [] else [(n, k)]) := by
  show rle (m.ks ++ List.replicate n.toNat k) = _
  rw [rle_rep]
  by_cases h : n = 0
  · subst h
    rfl
  · rw [if_neg (by omega), if_neg h]
    show _ = pushR (rle m.ks) n k
    rw [Int.toNat_of_nonneg hn]
set_option maxRecDepth 100000 in
set_option maxHeartbeats 1600000 in
theorem mlearn_any {P : Nat → Prop} {w : World} {g : Nat} {m : Mp} {v : Value} {q : Int} (h : MpAt P w g m v q) (n k mo : Int) (hn : 0 ≤ n) (hl : (m.ks.length : Int) + n ≤ 512) (y : Mp) (hy : y = m.learn n k mo) :
    Calls Tryz.prog 206 #[.pointer (some ⟨g, 0, none⟩), .int .i64 n, .int .i64 k, .int .i64 mo] w fun r w' => r = .returned (.tuple #[]) ∧ MpFed P w g y w' := by
  have HAT := hid h.at_
  have hrn : RnOk (rle m.ks) := rle_ok _ (by omega)
  have c7 : ∀ X, Below w.heap.size w X → X.cell? ⟨g, 7, none⟩ = some v := fun X k => hpCell (hpKeep HAT.out k) 7
  have f7 : ∀ X, Below w.heap.size w X → X.frozen? ⟨g, 7, none⟩ = false := fun X k => hpFree (hpKeep HAT.out k) 7
  have HNW : Hid (∀ X, Calls Tryz.prog 208 #[.int .i64 n, .int .i64 k] X fun r w' => ∃ v, r = .returned (.agg #[v]) ∧ Rns X.heap.size w' v (if n = 0 then [] else [(n, k)]) ∧ Below X.heap.size X w') := fun X => rnew01_any n k hn (by omega) X
  have HAP : Hid (∀ vm X, Below w.heap.size w X → Rns 0 X vm (if n = 0 then [] else [(n, k)]) → Calls Tryz.prog 207 #[.agg #[v], .agg #[vm]] X (AppdPost X (rle y.ks))) := fun vm X hX hr => by
    rw [hy, learn_eq m n k mo hn]
    have hs := rle_sum m.ks
    refine rappend_any v vm _ _ X (h.own.keep hX) hr hrn ?_ ?_
    · split
      · exact RnOk.nil
      · exact ⟨fun p hp => by simp at hp; subst hp; show 1 ≤ n; omega, by show n + 0 ≤ 1024; omega⟩
    · split
      · show _ + 0 ≤ _
        omega
      · show _ + (n + 0) ≤ _
        omega
  have H := hid h
  have HY := hid hy
  have k0 : Below w.heap.size w w := Below.refl _ _
  have kD : Below w.heap.size w w.drew := (Below.refl _ _).drew
  clear h hn hl hrn hy
  go_enter Tryz.func206, Tryz.ntmps206
  go_upto_region 0 with (fail)
  go_region_with (first | (go_at_call 208; (with_reducible refine (HNW.out _).mono ?_); rintro r w2 ⟨v2, rfl, hr2, hb2⟩; have hB2 := bt kD hb2 (Nat.le_refl _); have hr20 : Rns 0 w2 v2 (if n = 0 then [] else [(n, k)]) := own_lower hr2 (Nat.zero_le _)) | (go_at_call 207; (with_reducible refine (HAP.out v2 w2 hB2 hr20).mono ?_); rintro r w3 ⟨v3, rfl, hr3, hb3⟩; obtain ⟨a3, k3, rfl⟩ := hr3.slice; have hB3 := bt hB2 hb3 (Nat.le_refl _); have y7 := f7 w3 hB3))
  all_goals
    have hHR := hid hr3
    have hK : Keeps (· = g) w (w3.setCell ⟨g, 7, none⟩ (.slice a3 (rle y.ks).length k3)) := ks1 (Keeps.of_below hB3) _ _
    have p4 := hpSet (hpKeep H.out.at_ hB3) 7 (.slice a3 (rle y.ks).length k3)
    have z4 := hpCell p4 4
    have f4 := hpFree p4 4
    go_wp2
    go_end0
    have hB : Below w.heap.size w w3 := hB3
    have hk4 : Keeps (· = g) w3 ((w3.setCell ⟨g, 7, none⟩ (.slice a3 (rle y.ks).length k3)).setCell ⟨g, 4, none⟩ (.int .i64 mo)) := ks1 (ks1 (Keeps.refl _ _) _ _) _ _
    have hge : ∀ j, (Value.slice a3 (rle y.ks).length k3).ownBlock = some j → w.heap.size ≤ j ∧ j < w3.heap.size := fun j hj => by
      have h1 := hr3.lt j hj
      have h2 := hB2.size
      omega
    have hgl := H.out.lt
    refine ⟨rfl, ⟨.slice a3 (rle y.ks).length k3, q, ?_, ?_, .inl H.out.pg, fun j hj => ?_⟩, ks1 hK _ _⟩
    · have hy := HY.out
      subst hy
      exact hpSetP p4 rfl
    · exact Rns.keeps (own_lower hr3 (Nat.zero_le _)) hk4 (fun j hj e => by have := (hge j hj).1; omega)
    · have h1 := hge j hj
      exact ⟨.inr (by simp; omega), by omega⟩
theorem MpFed.from {P : Nat → Prop} {w w2 w1 : World} {g : Nat} {y : Mp} (hk : Keeps (· = g) w w2) (h : MpFed P w2 g y w1) : MpFed P w g y w1 := by
  obtain ⟨⟨v, q, h1⟩, h2⟩ := h
  refine ⟨⟨v, q, h1.at_, h1.own, ?_, fun j hj => ⟨?_, (h1.pv j hj).2⟩⟩, hk.trans h2 (fun _ _ e => e)⟩
  · rcases h1.pg with h | h
    · exact .inl h
    · exact .inr ⟨Nat.le_trans hk.size h.1, h.2⟩
  · rcases (h1.pv j hj).1 with h | h
    · exact .inl h
    · exact .inr ⟨Nat.le_trans hk.size h.1, h.2⟩
theorem MpFed.trans {P : Nat → Prop} {w w1 w3 : World} {g : Nat} {y z : Mp} (h1 : MpFed P w g y w1) (h : MpFed (Grw P w w1) w1 g z w3) : MpFed P w g z w3 := by
  obtain ⟨⟨v, q, h3⟩, h4⟩ := h
  have hs := h1.2.size
  have hs4 := h4.size
  have hQ : ∀ j, Grw (Grw P w w1) w1 w3 j → Grw P w w3 j := fun j hj => by
    rcases hj with (hj | hj) | hj
    · exact .inl hj
    · exact .inr ⟨hj.1, by omega⟩
    · exact .inr ⟨by omega, hj.2⟩
  exact ⟨⟨v, q, h3.at_, h3.own, hQ _ h3.pg, fun j hj => ⟨hQ _ (h3.pv j hj).1, (h3.pv j hj).2⟩⟩, h1.2.trans h4 (fun _ _ e => e)⟩
theorem MpFed.of {P : Nat → Prop} {w w' : World} {g : Nat} {y : Mp} {v : Value} {q : Int} (h : MpAt P w' g y v q) (hk : Keeps (· = g) w w') : MpFed P w g y w' :=
  ⟨⟨v, q, h.at_, h.own, .inl h.pg, fun j hj => ⟨.inl (h.pv j hj).1, (h.pv j hj).2⟩⟩, hk⟩
def Mp.halved (m : Mp) (p n : Bool) : Mp :=
  if p then (if m.hi = m.size + 1 then ({ m with lo := m.size }.learn m.size 1 0).learn 1 2 0 else { m with lo := m.size })
  else if n then (if m.size = m.lo + 1 then ({ m with hi := m.size }.learn m.lo 1 0).learn 1 2 0 else { m with hi := m.size })
  else m.learn m.lo 1 0
def EndPost (P : Nat → Prop) (w : World) (g : Nat) (y : Mp) (r : Ending) (w' : World) : Prop := r = .returned (.tuple #[]) ∧ MpFed P w g y w'
theorem Mp.ok.half {m : Mp} (_h : m.ok) (h2 : m.mode = 2) : m.size = (m.lo + m.hi) / 2 := by unfold Mp.size; rw [if_neg (by omega), if_pos h2]
theorem Mp.learn_len (m : Mp) (n k mo : Int) (hn : 0 ≤ n) : ((m.learn n k mo).ks.length : Int) = m.ks.length + n := by
  show ((m.ks ++ List.replicate n.toNat k).length : Int) = _
  rw [List.length_append, List.length_replicate]
  omega
set_option maxRecDepth 100000 in
set_option maxHeartbeats 3200000 in
theorem mhalve_p {P : Nat → Prop} {w : World} {g : Nat} {m : Mp} {v : Value} {q : Int} (h : MpAt P w g m v q) (hm : m.ok) (h2 : m.mode = 2) (n : Bool) (N : Int) (hN : m.size = N) (y : Mp) (hy : y = m.halved true n) :
    Calls Tryz.prog 205 #[.pointer (some ⟨g, 0, none⟩), .int .i64 N, .bool true, .bool n] w (EndPost P w g y) := by
  have hse := hm.se h2
  have hsz := hm.half h2
  rw [hN] at hsz
  have hc1 := hm.c1
  unfold Mp.rest at hse
  have n0 : 0 ≤ N := by omega
  have n1 : N ≤ 512 := by omega
  have f5 : w.frozen? ⟨g, 5, none⟩ = false := hpFree h.at_ 5
  have c5 : w.cell? ⟨g, 5, none⟩ = some (.int .i64 m.lo) := hpCell h.at_ 5
  have c6 : w.cell? ⟨g, 6, none⟩ = some (.int .i64 m.hi) := hpCell h.at_ 6
  have sw : IntKind.i64.wrap (N + 1) = N + 1 := IntWalk.i64_in _ (by omega)
  have hA : MpAt P (w.setCell ⟨g, 5, none⟩ (.int .i64 N)) g { m with lo := N } v q := h.cell_set 5 _ _ _ rfl rfl
  have hk : Keeps (· = g) w (w.setCell ⟨g, 5, none⟩ (.int .i64 N)) := ks1 (Keeps.refl _ _) _ _
  unfold Mp.halved at hy
  rw [if_pos rfl, hN] at hy
  by_cases hd : m.hi = N + 1
  · rw [if_pos hd] at hy
    have d := b1 hd
    have HL1 : Hid (∀ k, Calls Tryz.prog 206 #[.pointer (some ⟨g, 0, none⟩), .int .i64 N, .int .i64 1, .int .i64 0] ((w.setCell ⟨g, 5, none⟩ (.int .i64 N)).drewN k) (EndPost P ((w.setCell ⟨g, 5, none⟩ (.int .i64 N)).drewN k) g ({ m with lo := N }.learn N 1 0))) := fun k => mlearn_any (hA.grow (below_drewN (Below.refl _ _) _) P (fun _ e => e)) N 1 0 n0 (by show (m.ks.length : Int) + N ≤ 512; omega) _ rfl
    have hll := Mp.learn_len { m with lo := N } N 1 0 n0
    have HL2 : Hid (∀ P w v q, MpAt P w g ({ m with lo := N }.learn N 1 0) v q → Calls Tryz.prog 206 #[.pointer (some ⟨g, 0, none⟩), .int .i64 1, .int .i64 2, .int .i64 0] w (EndPost P w g y)) := fun P w v q h => mlearn_any h 1 2 0 (by decide) (by rw [hll]; show (m.ks.length : Int) + N + 1 ≤ 512; omega) y hy
    have HK := hid hk
    clear h hm h2 hN hy hse hsz hc1 hd hA hk hll
    go_enter Tryz.func205, Tryz.ntmps205
    go_wp2
    go_quiet (fail)
    go_wp2_with (first | (go_at_call 206; (with_reducible refine (HL1.out _).mono ?_); rintro r w3 ⟨rfl, hF3⟩; obtain ⟨⟨v3, q3, hA3⟩, hk3⟩ := id hF3) | (go_at_call 206; (with_reducible refine (HL2.out _ _ _ _ hA3).mono ?_); rintro r w4 ⟨rfl, hF4⟩))
    go_end0
    exact ⟨rfl, (MpFed.from (HK.out.trans (Keeps.of_below (below_drewN (Below.refl _ _) _)) (fun _ _ e => e)) (hF3.trans hF4))⟩
  · rw [if_neg hd] at hy
    have d := b0 hd
    have HA := hid hA
    have HK := hid hk
    have HY := hid hy
    clear h hm h2 hN hy hse hsz hc1 hd hA hk
    go_enter Tryz.func205, Tryz.ntmps205
    go_wp2
    go_quiet (fail)
    go_wp2
    go_end0
    rw [HY.out]
    exact ⟨rfl, MpFed.of (HA.out.grow (below_drewN (Below.refl _ _) _) P (fun _ e => e)) (HK.out.trans (Keeps.of_below (below_drewN (Below.refl _ _) _)) (fun _ _ e => e))⟩
set_option maxRecDepth 100000 in
set_option maxHeartbeats 3200000 in
theorem mhalve_n {P : Nat → Prop} {w : World} {g : Nat} {m : Mp} {v : Value} {q : Int} (h : MpAt P w g m v q) (hm : m.ok) (h2 : m.mode = 2) (N : Int) (hN : m.size = N) (y : Mp) (hy : y = m.halved false true) :
    Calls Tryz.prog 205 #[.pointer (some ⟨g, 0, none⟩), .int .i64 N, .bool false, .bool true] w (EndPost P w g y) := by
  have hse := hm.se h2
  have hsz := hm.half h2
  rw [hN] at hsz
  have hc1 := hm.c1
  unfold Mp.rest at hse
  have n0 : 0 ≤ m.lo := by omega
  have n1 : m.lo ≤ 512 := by omega
  have f6 : w.frozen? ⟨g, 6, none⟩ = false := hpFree h.at_ 6
  have c5 : w.cell? ⟨g, 5, none⟩ = some (.int .i64 m.lo) := hpCell h.at_ 5
  have c6 : w.cell? ⟨g, 6, none⟩ = some (.int .i64 m.hi) := hpCell h.at_ 6
  have sw : IntKind.i64.wrap (m.lo + 1) = m.lo + 1 := IntWalk.i64_in _ (by omega)
  have hA : MpAt P (w.setCell ⟨g, 6, none⟩ (.int .i64 N)) g { m with hi := N } v q := h.cell_set 6 _ _ _ rfl rfl
  have hk : Keeps (· = g) w (w.setCell ⟨g, 6, none⟩ (.int .i64 N)) := ks1 (Keeps.refl _ _) _ _
  unfold Mp.halved at hy
  rw [if_neg (by decide), if_pos rfl, hN] at hy
  by_cases hd : N = m.lo + 1
  · rw [if_pos hd] at hy
    have d := b1 hd
    have HL1 : Hid (∀ k, Calls Tryz.prog 206 #[.pointer (some ⟨g, 0, none⟩), .int .i64 m.lo, .int .i64 1, .int .i64 0] ((w.setCell ⟨g, 6, none⟩ (.int .i64 N)).drewN k) (EndPost P ((w.setCell ⟨g, 6, none⟩ (.int .i64 N)).drewN k) g ({ m with hi := N }.learn m.lo 1 0))) := fun k => mlearn_any (hA.grow (below_drewN (Below.refl _ _) _) P (fun _ e => e)) m.lo 1 0 n0 (by show (m.ks.length : Int) + m.lo ≤ 512; omega) _ rfl
    have hll := Mp.learn_len { m with hi := N } m.lo 1 0 n0
    have HL2 : Hid (∀ P w v q, MpAt P w g ({ m with hi := N }.learn m.lo 1 0) v q → Calls Tryz.prog 206 #[.pointer (some ⟨g, 0, none⟩), .int .i64 1, .int .i64 2, .int .i64 0] w (EndPost P w g y)) := fun P w v q h => mlearn_any h 1 2 0 (by decide) (by rw [hll]; show (m.ks.length : Int) + m.lo + 1 ≤ 512; omega) y hy
    have HK := hid hk
    clear h hm h2 hN hy hse hsz hc1 hd hA hk hll
    go_enter Tryz.func205, Tryz.ntmps205
    go_wp2
    go_quiet (fail)
    go_wp2_with (first | (go_at_call 206; (with_reducible refine (HL1.out _).mono ?_); rintro r w3 ⟨rfl, hF3⟩; obtain ⟨⟨v3, q3, hA3⟩, hk3⟩ := id hF3) | (go_at_call 206; (with_reducible refine (HL2.out _ _ _ _ hA3).mono ?_); rintro r w4 ⟨rfl, hF4⟩))
    go_end0
    exact ⟨rfl, (MpFed.from (HK.out.trans (Keeps.of_below (below_drewN (Below.refl _ _) _)) (fun _ _ e => e)) (hF3.trans hF4))⟩
  · rw [if_neg hd] at hy
    have d := b0 hd
    have HA := hid hA
    have HK := hid hk
    have HY := hid hy
    clear h hm h2 hN hy hse hsz hc1 hd hA hk
    go_enter Tryz.func205, Tryz.ntmps205
    go_wp2
    go_quiet (fail)
    go_wp2
    go_end0
    rw [HY.out]
    exact ⟨rfl, MpFed.of (HA.out.grow (below_drewN (Below.refl _ _) _) P (fun _ e => e)) (HK.out.trans (Keeps.of_below (below_drewN (Below.refl _ _) _)) (fun _ _ e => e))⟩
set_option maxRecDepth 100000 in
set_option maxHeartbeats 3200000 in
theorem mhalve_o {P : Nat → Prop} {w : World} {g : Nat} {m : Mp} {v : Value} {q : Int} (h : MpAt P w g m v q) (hm : m.ok) (h2 : m.mode = 2) (N : Int) (y : Mp) (hy : y = m.halved false false) :
    Calls Tryz.prog 205 #[.pointer (some ⟨g, 0, none⟩), .int .i64 N, .bool false, .bool false] w (EndPost P w g y) := by
  have hse := hm.se h2
  have hc1 := hm.c1
  unfold Mp.rest at hse
  have c5 : w.cell? ⟨g, 5, none⟩ = some (.int .i64 m.lo) := hpCell h.at_ 5
  have HL1 : Hid (Calls Tryz.prog 206 #[.pointer (some ⟨g, 0, none⟩), .int .i64 m.lo, .int .i64 1, .int .i64 0] w (EndPost P w g y)) := mlearn_any h m.lo 1 0 hse.1 (by omega) _ hy
  clear h hm h2 hy hse hc1
  go_enter Tryz.func205, Tryz.ntmps205
  go_wp2_with (go_at_call 206; (with_reducible refine HL1.out.mono ?_); rintro r w3 ⟨rfl, hF3⟩)
  first | go_end0 | (refine bodyPost_ret (results_none rfl _ _ _) rfl ?_)
  exact ⟨rfl, hF3⟩
theorem mhalve_any {P : Nat → Prop} {w : World} {g : Nat} {m : Mp} {v : Value} {q : Int} (h : MpAt P w g m v q) (hm : m.ok) (h2 : m.mode = 2) (p n : Bool) (N : Int) (hN : m.size = N) (y : Mp) (hy : y = m.halved p n) :
    Calls Tryz.prog 205 #[.pointer (some ⟨g, 0, none⟩), .int .i64 N, .bool p, .bool n] w (EndPost P w g y) := by
  cases p
  · cases n
    · exact mhalve_o h hm h2 N y hy
    · exact mhalve_n h hm h2 N hN y hy
  · exact mhalve_p h hm h2 n N hN y hy
end Go.Proofs.YtipnamoocemeeaaGreat
namespace Go.Proofs.YtipnamoocemeeaaGreat
open Go.RowKit
def Mp.ask (m : Mp) : Rq := if m.rest = 0 then ⟨0, 0, 0, 0, 0⟩ else ⟨m.tb, m.first + m.ks.length, m.size, 0, 0⟩
set_option maxRecDepth 100000 in
set_option maxHeartbeats 3200000 in
theorem mnext_any {P : Nat → Prop} {w : World} {g : Nat} {m : Mp} {v : Value} {q : Int} (h : MpAt P w g m v q) (hm : m.ok) (Q : Rq) (V : Bool) (hq : Hid (Q = m.ask)) (hV : Hid (V = !decide (m.rest = 0))) :
    Calls Tryz.prog 202 #[.pointer (some ⟨g, 0, none⟩)] w (AskPost w Q V) := by
  obtain ⟨W0, hW0⟩ : ∃ W, w.alloc (.cells #[.int .i64 0, .int .i64 0, .int .i64 0, .int .i64 0, .int .i64 0] 39) = W := ⟨_, rfl⟩
  have hb0 : Below w.heap.size w W0 := by rw [← hW0]; exact bal' w _
  have p0 : W0.heap[w.heap.size]? = some (.cells #[.int .i64 0, .int .i64 0, .int .i64 0, .int .i64 0, .int .i64 0] 39) := by rw [← hW0]; exact hpNew w _
  have hgl := h.lt
  have hgn : g ≠ w.heap.size := by omega
  have HAT := hid h.at_
  obtain ⟨s, hs⟩ : ∃ s : Int, (m.ks.length : Int) = s := ⟨_, rfl⟩
  obtain ⟨N, hN⟩ : ∃ N, m.size = N := ⟨_, rfl⟩
  have HEN : Hid (∀ X, Below w.heap.size w X → Calls Tryz.prog 173 #[.pointer (some ⟨g, 0, none⟩)] X (BoolPost X (decide (m.rest = 0)))) := fun X hX => mended_any (h.grow hX P (fun _ e => e)) hm _ rfl
  have HLN : Hid (∀ X, Below w.heap.size w X → Calls Tryz.prog 175 #[.agg #[v]] X (IntPost X s)) := fun X hX => by rw [← hs, ← rle_sum]; exact rlen_any v (rle m.ks) X (h.own.keep hX) hm.rn
  have HSZ : Hid (∀ X, Below w.heap.size w X → Calls Tryz.prog 204 #[.pointer (some ⟨g, 0, none⟩)] X (IntPost X N)) := fun X hX => msize_any (h.grow hX P (fun _ e => e)) hm N hN
  have k0 : Below w.heap.size w W0 := hb0
  by_cases hr : m.rest = 0
  · have z0 : ∀ X, Below W0.heap.size W0 X → X.cell? ⟨w.heap.size, 0, none⟩ = some (.int .i64 0) := fun X k => hpCell (hpKeep p0 k) 0
    have z1 : ∀ X, Below W0.heap.size W0 X → X.cell? ⟨w.heap.size, 1, none⟩ = some (.int .i64 0) := fun X k => hpCell (hpKeep p0 k) 1
    have z2 : ∀ X, Below W0.heap.size W0 X → X.cell? ⟨w.heap.size, 2, none⟩ = some (.int .i64 0) := fun X k => hpCell (hpKeep p0 k) 2
    have z3 : ∀ X, Below W0.heap.size W0 X → X.cell? ⟨w.heap.size, 3, none⟩ = some (.int .i64 0) := fun X k => hpCell (hpKeep p0 k) 3
    have z4 : ∀ X, Below W0.heap.size W0 X → X.cell? ⟨w.heap.size, 4, none⟩ = some (.int .i64 0) := fun X k => hpCell (hpKeep p0 k) 4
    have y0 : ∀ X, Below W0.heap.size W0 X → ∀ i, X.frozen? ⟨w.heap.size, i, none⟩ = false := fun X k i => hpFree (hpKeep p0 k) i
    have HE : Hid (Q = ⟨0, 0, 0, 0, 0⟩ ∧ V = false) := ⟨by rw [hq.out]; unfold Mp.ask; rw [if_pos hr], by rw [hV.out, decide_eq_true hr]; rfl⟩
    have HEN1 : Hid (Calls Tryz.prog 173 #[.pointer (some ⟨g, 0, none⟩)] W0 (BoolPost W0 true)) := by have := HEN.out W0 k0; rw [decide_eq_true hr] at this; exact this
    have HW0 := hid hW0
    have HB0 := hid hb0
    clear hW0 hb0 p0 h hm hq hV HEN HLN HSZ hs hN hr
    go_enter Tryz.func202, Tryz.ntmps202
    go_upto_region 1 with (fail)
    rw [HW0.out]
    go_wp2_with (go_at_call 173; (with_reducible refine HEN1.out.mono ?_); rintro r w2 ⟨rfl, hb2⟩; have x0 := z0 _ hb2; have x1 := z1 _ hb2; have x2 := z2 _ hb2; have x3 := z3 _ hb2; have x4 := z4 _ hb2; have v0 := y0 _ hb2 0; have v1 := y0 _ hb2 1; have v2 := y0 _ hb2 2; have v3 := y0 _ hb2 3; have v4 := y0 _ hb2 4)
    refine bodyPost_ret (v := .tuple #[.agg #[.int .i64 0, .int .i64 0, .int .i64 0, .int .i64 0, .int .i64 0], .bool false]) (by simp [results, Tryz.results202, go_sem, x0, x1, x2, x3, x4]) rfl ⟨by rw [HE.out.1, HE.out.2], ?_⟩
    exact (((((bt HB0.out hb2 (Nat.le_refl _)).setCell (p := ⟨w.heap.size, 0, none⟩) (Nat.le_refl _) _).setCell (p := ⟨w.heap.size, 1, none⟩) (Nat.le_refl _) _).setCell (p := ⟨w.heap.size, 2, none⟩) (Nat.le_refl _) _).setCell (p := ⟨w.heap.size, 3, none⟩) (Nat.le_refl _) _).setCell (p := ⟨w.heap.size, 4, none⟩) (Nat.le_refl _) _
  · have HE : Hid (Q = ⟨m.tb, m.first + s, N, 0, 0⟩ ∧ V = true) := ⟨by rw [hq.out]; unfold Mp.ask; rw [if_neg hr, hs, hN], by rw [hV.out, decide_eq_false hr]; rfl⟩
    have HEN1 : Hid (Calls Tryz.prog 173 #[.pointer (some ⟨g, 0, none⟩)] W0 (BoolPost W0 false)) := by have := HEN.out W0 k0; rw [decide_eq_false hr] at this; exact this
    have sw : IntKind.i64.wrap (m.first + s) = m.first + s := IntWalk.i64_in _ (by have := hm.f0; have := hm.f1; have := hm.kl; have := hm.c1; have := hm.c0; omega)
    have HW0 := hid hW0
    have HB0 := hid hb0
    have P0 := hid p0
    clear hW0 hb0 p0 h hm hq hV HEN hs hN hr
    go_enter Tryz.func202, Tryz.ntmps202
    go_upto_region 1 with (fail)
    rw [HW0.out]
    go_upto_region 3 with (go_at_call 173; (with_reducible refine HEN1.out.mono ?_); rintro r w2 ⟨rfl, hb2⟩)
    have c0 : ∀ X, Below w.heap.size w X → X.cell? ⟨g, 0, none⟩ = some (.int .i64 m.tb) := fun X k => hpCell (hpKeep HAT.out k) 0
    have c1 : ∀ X, Below w.heap.size w X → X.cell? ⟨g, 1, none⟩ = some (.int .i64 m.first) := fun X k => hpCell (hpKeep HAT.out k) 1
    have c7 : ∀ X, Below w.heap.size w X → X.cell? ⟨g, 7, none⟩ = some v := fun X k => hpCell (hpKeep HAT.out k) 7
    have hB2 : Below w.heap.size w w2 := bt HB0.out hb2 (Nat.le_refl _)
    have kD : Below w.heap.size w w2.drew := hB2.drew
    have kC : Below W0.heap.size W0 w2.drew := hb2.drew
    have p2 : ∀ X, Below W0.heap.size W0 X → X.heap[w.heap.size]? = some (.cells #[.int .i64 0, .int .i64 0, .int .i64 0, .int .i64 0, .int .i64 0] 39) := fun X k => hpKeep P0.out k
    have kL : ∀ X, Below w.heap.size w X → Below w.heap.size w (((((X.setCell ⟨w.heap.size, 0, none⟩ (.int .i64 m.tb)).setCell ⟨w.heap.size, 1, none⟩ (.int .i64 (m.first + s))).setCell ⟨w.heap.size, 2, none⟩ (.int .i64 N)).setCell ⟨w.heap.size, 3, none⟩ (.int .i64 0)).setCell ⟨w.heap.size, 4, none⟩ (.int .i64 0)) := fun X k => ((((k.setCell (p := ⟨w.heap.size, 0, none⟩) (Nat.le_refl _) _).setCell (p := ⟨w.heap.size, 1, none⟩) (Nat.le_refl _) _).setCell (p := ⟨w.heap.size, 2, none⟩) (Nat.le_refl _) _).setCell (p := ⟨w.heap.size, 3, none⟩) (Nat.le_refl _) _).setCell (p := ⟨w.heap.size, 4, none⟩) (Nat.le_refl _) _
    clear k0
    go_region_held3 (fun X => Below w.heap.size w X) ((with_reducible (first | exact kD | assumption | exact kL _ hBL))) (first
      | (go_at_call 175; (with_reducible refine (HLN.out w2.drew kD).mono ?_); rintro r w4 ⟨rfl, hb4⟩; have hB4 := bt kD hb4 (Nat.le_refl _); have hC4 := bt kC hb4 (Nat.le_refl _))
      | (go_at_call 204; (with_reducible refine (HSZ.out w2.drew kD).mono ?_); rintro r w5 ⟨rfl, hb5⟩; have hB5 := bt kD hb5 (Nat.le_refl _); have hC5 := bt kC hb5 (Nat.le_refl _))
      | (go_at_call 175; (with_reducible refine (HLN.out w5 hB5).mono ?_); rintro r w4 ⟨rfl, hb4⟩; have hBL := bt hB5 hb4 (Nat.le_refl _); have hCL := p2 _ (bt hC5 hb4 (Nat.le_refl _)); have x0 := hpCell hCL 0; have x1 := hpCell hCL 1; have x2 := hpCell hCL 2; have x3 := hpCell hCL 3; have x4 := hpCell hCL 4; have v0 := hpFree hCL 0; have v1 := hpFree hCL 1; have v2 := hpFree hCL 2; have v3 := hpFree hCL 3; have v4 := hpFree hCL 4)
      | (go_at_call 204; (with_reducible refine (HSZ.out w4 hB4).mono ?_); rintro r w5 ⟨rfl, hb5⟩; have hBL := bt hB4 hb5 (Nat.le_refl _); have hCL := p2 _ (bt hC4 hb5 (Nat.le_refl _)); have x0 := hpCell hCL 0; have x1 := hpCell hCL 1; have x2 := hpCell hCL 2; have x3 := hpCell hCL 3; have x4 := hpCell hCL 4; have v0 := hpFree hCL 0; have v1 := hpFree hCL 1; have v2 := hpFree hCL 2; have v3 := hpFree hCL 3; have v4 := hpFree hCL 4))
    all_goals
      go_wp2_with (fail)
      refine bodyPost_ret (v := .tuple #[.agg #[.int .i64 m.tb, .int .i64 (m.first + s), .int .i64 N, .int .i64 0, .int .i64 0], .bool true]) (by simp [results, Tryz.results202, go_sem, x0, x1, x2, x3, x4]) rfl ⟨by rw [HE.out.1, HE.out.2], ?_⟩
      exact kL _ hBL
end Go.Proofs.YtipnamoocemeeaaGreat
namespace Go.Proofs.YtipnamoocemeeaaGreat
open Go.RowKit
def MpFeed (P : Nat → Prop) (w : World) (g : Nat) (y : Mp) (r : Ending) (w' : World) : Prop := r = .returned (.int .i64 0) ∧ MpFed P w g y w'
set_option maxRecDepth 100000 in
set_option maxHeartbeats 6400000 in
theorem mfeed_seek {P : Nat → Prop} {w : World} {g : Nat} {m : Mp} {v : Value} {q : Int} (h : MpAt P w g m v q) (hm : m.ok) (hr : ¬ m.rest = 0) (h2 : m.mode = 2) (vd x : Int) (f d c l mm n ob : Value) (y : Mp) (hy : y = m.halved (decide (vd = 1)) (decide (vd = 2 ∧ x = 2))) :
    Calls Tryz.prog 201 #[.pointer (some ⟨g, 0, none⟩), .agg #[.int .i64 vd, f, .int .i64 x, d, c, l, mm, n, ob]] w (MpFeed P w g y) := by
  have dm := b1 h2
  have hH2 := hid h2
  have hd : ((vd == 1) = true ∧ decide (vd = 1) = true) ∨ (decide (vd = 1) = false ∧ (vd == 1) = false ∧ (vd == 2) = true ∧ (x == 2) = true ∧ decide (vd = 2 ∧ x = 2) = true) ∨ (decide (vd = 1) = false ∧ (vd == 1) = false ∧ (vd == 2) = true ∧ (x == 2) = false ∧ decide (vd = 2 ∧ x = 2) = false) ∨ (decide (vd = 1) = false ∧ (vd == 1) = false ∧ (vd == 2) = false ∧ decide (vd = 2 ∧ x = 2) = false) := by
    by_cases h1 : vd = 1
    · exact .inl ⟨b1 h1, decide_eq_true h1⟩
    · by_cases h2 : vd = 2
      · by_cases h3 : x = 2
        · exact .inr (.inl ⟨decide_eq_false h1, b0 h1, b1 h2, b1 h3, decide_eq_true ⟨h2, h3⟩⟩)
        · exact .inr (.inr (.inl ⟨decide_eq_false h1, b0 h1, b1 h2, b0 h3, decide_eq_false (fun e => h3 e.2)⟩))
      · exact .inr (.inr (.inr ⟨decide_eq_false h1, b0 h1, b0 h2, decide_eq_false (fun e => h2 e.1)⟩))
  clear h2
  obtain ⟨W0, hW0⟩ : ∃ W, w.alloc (.cells #[.int .i64 vd, f, .int .i64 x, d, c, l, mm, n, ob] 55) = W := ⟨_, rfl⟩; have hb0 : Below w.heap.size w W0 := (by rw [← hW0]; exact bal' w _); have p0 : W0.heap[w.heap.size]? = some (.cells #[.int .i64 vd, f, .int .i64 x, d, c, l, mm, n, ob] 55) := (by rw [← hW0]; exact hpNew w _); have hgl := h.lt; have hgn : g ≠ w.heap.size := (by omega); obtain ⟨q', sw⟩ : ∃ q', IntKind.i64.wrap (q + 1) = q' := ⟨_, rfl⟩; obtain ⟨N, hN⟩ : ∃ N, m.size = N := ⟨_, rfl⟩; have HEN1 : Hid (Calls Tryz.prog 173 #[.pointer (some ⟨g, 0, none⟩)] W0 (BoolPost W0 false)) := (mended_any (h.grow hb0 P (fun _ e => e)) hm _ (decide_eq_false hr)); have c8 : ∀ X, Below W0.heap.size W0 X → X.cell? ⟨g, 8, none⟩ = some (.int .i64 q) := (fun X k => hpCell (hpKeep h.at_ (bt hb0 k (Nat.le_refl _))) 8); have f8 : ∀ X, Below W0.heap.size W0 X → X.frozen? ⟨g, 8, none⟩ = false := (fun X k => hpFree (hpKeep h.at_ (bt hb0 k (Nat.le_refl _))) 8); have HW0 := hid hW0; have HB0 := hid hb0; have P0 := hid p0; have H := hid h; have HM := hid hm; have HN := hid hN; clear hW0 hb0 p0 h hm hr hN
  rcases hd with ⟨d1, t1⟩ | ⟨t1, d1, d2, d3, t2⟩ | ⟨t1, d1, d2, d3, t2⟩ | ⟨t1, d1, d2, t2⟩
  · have d23 : ((vd == 2) = false) ∨ ((vd == 2) = true ∧ (x == 2) = false) ∨ ((vd == 2) = true ∧ (x == 2) = true) := by cases vd == 2 <;> cases x == 2 <;> simp
    rcases d23 with d2 | ⟨d2, d3⟩ | ⟨d2, d3⟩
    all_goals
      rw [t1] at hy
      have HHV : Hid (∀ n X, MpAt P X g m v q' → Calls Tryz.prog 205 #[.pointer (some ⟨g, 0, none⟩), .int .i64 N, .bool true, .bool n] X (EndPost P X g y)) := fun n X hX => mhalve_any hX HM.out hH2.out true n N HN.out y (by rw [hy]; unfold Mp.halved; rw [if_pos rfl, if_pos rfl])
      clear hy t1
      go_enter Tryz.func201, Tryz.ntmps201; go_upto_region 1 with (fail); rw [HW0.out]; go_upto_region 6 with (go_at_call 173; (with_reducible refine HEN1.out.mono ?_); rintro r w1 ⟨rfl, hb1⟩); have hA8 : MpAt P (w1.setCell ⟨g, 8, none⟩ (.int .i64 q')) g m v q' := (H.out.grow (bt HB0.out hb1 (Nat.le_refl _)) P (fun _ e => e)).cell_set 8 _ m q' rfl rfl; have p8 : (w1.setCell ⟨g, 8, none⟩ (.int .i64 q')).heap[w.heap.size]? = some (.cells #[.int .i64 vd, f, .int .i64 x, d, c, l, mm, n, ob] 55) := (hpOther (Ne.symm hgn)).trans (hpKeep P0.out hb1); have hk8 : Keeps (· = g) w (w1.setCell ⟨g, 8, none⟩ (.int .i64 q')) := ks1 (Keeps.of_below (bt HB0.out hb1 (Nat.le_refl _))) _ _; clear c8 f8; generalize w1.setCell ⟨g, 8, none⟩ (.int .i64 q') = W8 at *; have e0 : W8.cell? ⟨w.heap.size, 0, none⟩ = some (.int .i64 vd) := hpCell p8 0; have e2 : W8.cell? ⟨w.heap.size, 2, none⟩ = some (.int .i64 x) := hpCell p8 2; have c4 : ∀ X, Below W8.heap.size W8 X → X.cell? ⟨g, 4, none⟩ = some (.int .i64 m.mode) := (fun X k => hpCell (hpKeep hA8.at_ k) 4); have HSZ : Hid (Calls Tryz.prog 204 #[.pointer (some ⟨g, 0, none⟩)] W8 (IntPost W8 N)) := (msize_any hA8 HM.out N HN.out); have HP8 := hid p8; have HA8 := hid hA8; have HK8 := hid hk8; clear p8 hA8 hk8; go_upto_region 10 with (go_at_call 204; (with_reducible refine HSZ.out.mono ?_); rintro r w9 ⟨rfl, hb9⟩); have HA9 : Hid (MpAt P w9 g m v q') := HA8.out.grow hb9 P (fun _ e => e); have hk9 : Keeps (· = g) w w9 := HK8.out.trans (Keeps.of_below hb9) (fun _ _ e => e)
      go_wp2_with (go_at_call 205; (with_reducible refine (HHV.out _ _ HA9.out).mono ?_); rintro r w5 ⟨rfl, hF5⟩)
      go_ret
      exact ⟨rfl, hF5.from hk9⟩
  · rw [t1, t2] at hy
    have HHV : Hid (∀ X, MpAt P X g m v q' → Calls Tryz.prog 205 #[.pointer (some ⟨g, 0, none⟩), .int .i64 N, .bool false, .bool true] X (EndPost P X g y)) := fun X hX => mhalve_any hX HM.out hH2.out false true N HN.out y hy
    clear hy t1 t2
    go_enter Tryz.func201, Tryz.ntmps201; go_upto_region 1 with (fail); rw [HW0.out]; go_upto_region 6 with (go_at_call 173; (with_reducible refine HEN1.out.mono ?_); rintro r w1 ⟨rfl, hb1⟩); have hA8 : MpAt P (w1.setCell ⟨g, 8, none⟩ (.int .i64 q')) g m v q' := (H.out.grow (bt HB0.out hb1 (Nat.le_refl _)) P (fun _ e => e)).cell_set 8 _ m q' rfl rfl; have p8 : (w1.setCell ⟨g, 8, none⟩ (.int .i64 q')).heap[w.heap.size]? = some (.cells #[.int .i64 vd, f, .int .i64 x, d, c, l, mm, n, ob] 55) := (hpOther (Ne.symm hgn)).trans (hpKeep P0.out hb1); have hk8 : Keeps (· = g) w (w1.setCell ⟨g, 8, none⟩ (.int .i64 q')) := ks1 (Keeps.of_below (bt HB0.out hb1 (Nat.le_refl _))) _ _; clear c8 f8; generalize w1.setCell ⟨g, 8, none⟩ (.int .i64 q') = W8 at *; have e0 : W8.cell? ⟨w.heap.size, 0, none⟩ = some (.int .i64 vd) := hpCell p8 0; have e2 : W8.cell? ⟨w.heap.size, 2, none⟩ = some (.int .i64 x) := hpCell p8 2; have c4 : ∀ X, Below W8.heap.size W8 X → X.cell? ⟨g, 4, none⟩ = some (.int .i64 m.mode) := (fun X k => hpCell (hpKeep hA8.at_ k) 4); have HSZ : Hid (Calls Tryz.prog 204 #[.pointer (some ⟨g, 0, none⟩)] W8 (IntPost W8 N)) := (msize_any hA8 HM.out N HN.out); have HP8 := hid p8; have HA8 := hid hA8; have HK8 := hid hk8; clear p8 hA8 hk8; go_upto_region 10 with (go_at_call 204; (with_reducible refine HSZ.out.mono ?_); rintro r w9 ⟨rfl, hb9⟩); have HA9 : Hid (MpAt P w9 g m v q') := HA8.out.grow hb9 P (fun _ e => e); have hk9 : Keeps (· = g) w w9 := HK8.out.trans (Keeps.of_below hb9) (fun _ _ e => e)
    go_wp2_with (go_at_call 205; (with_reducible refine (HHV.out _ HA9.out).mono ?_); rintro r w5 ⟨rfl, hF5⟩)
    go_ret
    exact ⟨rfl, hF5.from hk9⟩
  all_goals
    rw [t1, t2] at hy
    have HHV : Hid (∀ X, MpAt P X g m v q' → Calls Tryz.prog 205 #[.pointer (some ⟨g, 0, none⟩), .int .i64 N, .bool false, .bool false] X (EndPost P X g y)) := fun X hX => mhalve_any hX HM.out hH2.out false false N HN.out y hy
    clear hy t1 t2
    go_enter Tryz.func201, Tryz.ntmps201; go_upto_region 1 with (fail); rw [HW0.out]; go_upto_region 6 with (go_at_call 173; (with_reducible refine HEN1.out.mono ?_); rintro r w1 ⟨rfl, hb1⟩); have hA8 : MpAt P (w1.setCell ⟨g, 8, none⟩ (.int .i64 q')) g m v q' := (H.out.grow (bt HB0.out hb1 (Nat.le_refl _)) P (fun _ e => e)).cell_set 8 _ m q' rfl rfl; have p8 : (w1.setCell ⟨g, 8, none⟩ (.int .i64 q')).heap[w.heap.size]? = some (.cells #[.int .i64 vd, f, .int .i64 x, d, c, l, mm, n, ob] 55) := (hpOther (Ne.symm hgn)).trans (hpKeep P0.out hb1); have hk8 : Keeps (· = g) w (w1.setCell ⟨g, 8, none⟩ (.int .i64 q')) := ks1 (Keeps.of_below (bt HB0.out hb1 (Nat.le_refl _))) _ _; clear c8 f8; generalize w1.setCell ⟨g, 8, none⟩ (.int .i64 q') = W8 at *; have e0 : W8.cell? ⟨w.heap.size, 0, none⟩ = some (.int .i64 vd) := hpCell p8 0; have e2 : W8.cell? ⟨w.heap.size, 2, none⟩ = some (.int .i64 x) := hpCell p8 2; have c4 : ∀ X, Below W8.heap.size W8 X → X.cell? ⟨g, 4, none⟩ = some (.int .i64 m.mode) := (fun X k => hpCell (hpKeep hA8.at_ k) 4); have HSZ : Hid (Calls Tryz.prog 204 #[.pointer (some ⟨g, 0, none⟩)] W8 (IntPost W8 N)) := (msize_any hA8 HM.out N HN.out); have HP8 := hid p8; have HA8 := hid hA8; have HK8 := hid hk8; clear p8 hA8 hk8; go_upto_region 10 with (go_at_call 204; (with_reducible refine HSZ.out.mono ?_); rintro r w9 ⟨rfl, hb9⟩); have HA9 : Hid (MpAt P w9 g m v q') := HA8.out.grow hb9 P (fun _ e => e); have hk9 : Keeps (· = g) w w9 := HK8.out.trans (Keeps.of_below hb9) (fun _ _ e => e)
    go_wp2_with (go_at_call 205; (with_reducible refine (HHV.out _ HA9.out).mono ?_); rintro r w5 ⟨rfl, hF5⟩)
    go_ret
    exact ⟨rfl, hF5.from hk9⟩
set_option maxRecDepth 100000 in
set_option maxHeartbeats 6400000 in
theorem mfeed_else {P : Nat → Prop} {w : World} {g : Nat} {m : Mp} {v : Value} {q : Int} (h : MpAt P w g m v q) (hm : m.ok) (hr : ¬ m.rest = 0) (h2 : ¬ m.mode = 2) (vd x : Int) (f d c l mm n ob : Value) (y : Mp)
    (hy : y = if vd = 1 then m.learn m.size 1 1 else if vd = 2 ∧ x = 2 then (if 1 < m.size then { m with mode := 2, lo := 0, hi := m.size } else m.learn 1 2 0) else if 1 < m.size then { m with mode := 0 } else m.learn 1 3 0) :
    Calls Tryz.prog 201 #[.pointer (some ⟨g, 0, none⟩), .agg #[.int .i64 vd, f, .int .i64 x, d, c, l, mm, n, ob]] w (MpFeed P w g y) := by
  have dm := b0 h2
  have hR : 1 ≤ m.rest := by have := hm.kl; unfold Mp.rest at *; omega
  have hsz : 1 ≤ m.size ∧ m.size ≤ m.rest := by
    unfold Mp.size
    have := hm.m0
    split
    · split <;> omega
    · omega
  have HR : Hid (1 ≤ m.rest) := hR
  have HS := hid hsz
  have hlen : (m.ks.length : Int) + m.rest ≤ 512 := by have := hm.c1; unfold Mp.rest; omega
  have HLEN := hid hlen
  clear h2 hR hsz hlen
  by_cases h1 : vd = 1
  · rw [if_pos h1] at hy
    have d1 := b1 h1
    clear h1
    have hd : ((vd == 2) = false) ∨ ((vd == 2) = true ∧ (x == 2) = false) ∨ ((vd == 2) = true ∧ (x == 2) = true) := by cases vd == 2 <;> cases x == 2 <;> simp
    obtain ⟨W0, hW0⟩ : ∃ W, w.alloc (.cells #[.int .i64 vd, f, .int .i64 x, d, c, l, mm, n, ob] 55) = W := ⟨_, rfl⟩; have hb0 : Below w.heap.size w W0 := (by rw [← hW0]; exact bal' w _); have p0 : W0.heap[w.heap.size]? = some (.cells #[.int .i64 vd, f, .int .i64 x, d, c, l, mm, n, ob] 55) := (by rw [← hW0]; exact hpNew w _); have hgl := h.lt; have hgn : g ≠ w.heap.size := (by omega); obtain ⟨q', sw⟩ : ∃ q', IntKind.i64.wrap (q + 1) = q' := ⟨_, rfl⟩; obtain ⟨N, hN⟩ : ∃ N, m.size = N := ⟨_, rfl⟩; have HEN1 : Hid (Calls Tryz.prog 173 #[.pointer (some ⟨g, 0, none⟩)] W0 (BoolPost W0 false)) := (mended_any (h.grow hb0 P (fun _ e => e)) hm _ (decide_eq_false hr)); have c8 : ∀ X, Below W0.heap.size W0 X → X.cell? ⟨g, 8, none⟩ = some (.int .i64 q) := (fun X k => hpCell (hpKeep h.at_ (bt hb0 k (Nat.le_refl _))) 8); have f8 : ∀ X, Below W0.heap.size W0 X → X.frozen? ⟨g, 8, none⟩ = false := (fun X k => hpFree (hpKeep h.at_ (bt hb0 k (Nat.le_refl _))) 8); have HW0 := hid hW0; have HB0 := hid hb0; have P0 := hid p0; have H := hid h; have HM := hid hm; have HN := hid hN; clear hW0 hb0 p0 h hm hr hN
    have HLE : Hid (∀ X, MpAt P X g m v q' → Calls Tryz.prog 206 #[.pointer (some ⟨g, 0, none⟩), .int .i64 N, .int .i64 1, .int .i64 1] X (EndPost P X g y)) := fun X hX => mlearn_any hX N 1 1 (by have := HS.out; have := HN.out; omega) (by have := HS.out; have := HN.out; have := HLEN.out; omega) y (by rw [hy, HN.out])
    clear hy
    rcases hd with d2 | ⟨d2, d3⟩ | ⟨d2, d3⟩
    all_goals
      go_enter Tryz.func201, Tryz.ntmps201; go_upto_region 1 with (fail); rw [HW0.out]; go_upto_region 6 with (go_at_call 173; (with_reducible refine HEN1.out.mono ?_); rintro r w1 ⟨rfl, hb1⟩); have hA8 : MpAt P (w1.setCell ⟨g, 8, none⟩ (.int .i64 q')) g m v q' := (H.out.grow (bt HB0.out hb1 (Nat.le_refl _)) P (fun _ e => e)).cell_set 8 _ m q' rfl rfl; have p8 : (w1.setCell ⟨g, 8, none⟩ (.int .i64 q')).heap[w.heap.size]? = some (.cells #[.int .i64 vd, f, .int .i64 x, d, c, l, mm, n, ob] 55) := (hpOther (Ne.symm hgn)).trans (hpKeep P0.out hb1); have hk8 : Keeps (· = g) w (w1.setCell ⟨g, 8, none⟩ (.int .i64 q')) := ks1 (Keeps.of_below (bt HB0.out hb1 (Nat.le_refl _))) _ _; clear c8 f8; generalize w1.setCell ⟨g, 8, none⟩ (.int .i64 q') = W8 at *; have e0 : W8.cell? ⟨w.heap.size, 0, none⟩ = some (.int .i64 vd) := hpCell p8 0; have e2 : W8.cell? ⟨w.heap.size, 2, none⟩ = some (.int .i64 x) := hpCell p8 2; have c4 : ∀ X, Below W8.heap.size W8 X → X.cell? ⟨g, 4, none⟩ = some (.int .i64 m.mode) := (fun X k => hpCell (hpKeep hA8.at_ k) 4); have HSZ : Hid (Calls Tryz.prog 204 #[.pointer (some ⟨g, 0, none⟩)] W8 (IntPost W8 N)) := (msize_any hA8 HM.out N HN.out); have HP8 := hid p8; have HA8 := hid hA8; have HK8 := hid hk8; clear p8 hA8 hk8; go_upto_region 10 with (go_at_call 204; (with_reducible refine HSZ.out.mono ?_); rintro r w9 ⟨rfl, hb9⟩); have HA9 : Hid (MpAt P w9 g m v q') := HA8.out.grow hb9 P (fun _ e => e); have hk9 : Keeps (· = g) w w9 := HK8.out.trans (Keeps.of_below hb9) (fun _ _ e => e)
      go_wp2_with (go_at_call 206; (with_reducible refine (HLE.out _ HA9.out).mono ?_); rintro r w5 ⟨rfl, hF5⟩)
      go_ret
      exact ⟨rfl, hF5.from hk9⟩
  · rw [if_neg h1] at hy
    have d1 := b0 h1
    clear h1
    by_cases hn : vd = 2 ∧ x = 2
    · rw [if_pos hn] at hy
      have d2 := b1 hn.1
      have d3 := b1 hn.2
      clear hn
      by_cases hs : 1 < m.size
      · rw [if_pos hs] at hy
        have HSS := hid hs
        clear hs
        obtain ⟨W0, hW0⟩ : ∃ W, w.alloc (.cells #[.int .i64 vd, f, .int .i64 x, d, c, l, mm, n, ob] 55) = W := ⟨_, rfl⟩; have hb0 : Below w.heap.size w W0 := (by rw [← hW0]; exact bal' w _); have p0 : W0.heap[w.heap.size]? = some (.cells #[.int .i64 vd, f, .int .i64 x, d, c, l, mm, n, ob] 55) := (by rw [← hW0]; exact hpNew w _); have hgl := h.lt; have hgn : g ≠ w.heap.size := (by omega); obtain ⟨q', sw⟩ : ∃ q', IntKind.i64.wrap (q + 1) = q' := ⟨_, rfl⟩; obtain ⟨N, hN⟩ : ∃ N, m.size = N := ⟨_, rfl⟩; have HEN1 : Hid (Calls Tryz.prog 173 #[.pointer (some ⟨g, 0, none⟩)] W0 (BoolPost W0 false)) := (mended_any (h.grow hb0 P (fun _ e => e)) hm _ (decide_eq_false hr)); have c8 : ∀ X, Below W0.heap.size W0 X → X.cell? ⟨g, 8, none⟩ = some (.int .i64 q) := (fun X k => hpCell (hpKeep h.at_ (bt hb0 k (Nat.le_refl _))) 8); have f8 : ∀ X, Below W0.heap.size W0 X → X.frozen? ⟨g, 8, none⟩ = false := (fun X k => hpFree (hpKeep h.at_ (bt hb0 k (Nat.le_refl _))) 8); have HW0 := hid hW0; have HB0 := hid hb0; have P0 := hid p0; have H := hid h; have HM := hid hm; have HN := hid hN; clear hW0 hb0 p0 h hm hr hN
        have ds : 1 < N := by have := HSS.out; have := HN.out; omega
        rw [HN.out] at hy
        have HY := hid hy
        clear hy
        go_enter Tryz.func201, Tryz.ntmps201; go_upto_region 1 with (fail); rw [HW0.out]; go_upto_region 6 with (go_at_call 173; (with_reducible refine HEN1.out.mono ?_); rintro r w1 ⟨rfl, hb1⟩); have hA8 : MpAt P (w1.setCell ⟨g, 8, none⟩ (.int .i64 q')) g m v q' := (H.out.grow (bt HB0.out hb1 (Nat.le_refl _)) P (fun _ e => e)).cell_set 8 _ m q' rfl rfl; have p8 : (w1.setCell ⟨g, 8, none⟩ (.int .i64 q')).heap[w.heap.size]? = some (.cells #[.int .i64 vd, f, .int .i64 x, d, c, l, mm, n, ob] 55) := (hpOther (Ne.symm hgn)).trans (hpKeep P0.out hb1); have hk8 : Keeps (· = g) w (w1.setCell ⟨g, 8, none⟩ (.int .i64 q')) := ks1 (Keeps.of_below (bt HB0.out hb1 (Nat.le_refl _))) _ _; clear c8 f8; generalize w1.setCell ⟨g, 8, none⟩ (.int .i64 q') = W8 at *; have e0 : W8.cell? ⟨w.heap.size, 0, none⟩ = some (.int .i64 vd) := hpCell p8 0; have e2 : W8.cell? ⟨w.heap.size, 2, none⟩ = some (.int .i64 x) := hpCell p8 2; have c4 : ∀ X, Below W8.heap.size W8 X → X.cell? ⟨g, 4, none⟩ = some (.int .i64 m.mode) := (fun X k => hpCell (hpKeep hA8.at_ k) 4); have HSZ : Hid (Calls Tryz.prog 204 #[.pointer (some ⟨g, 0, none⟩)] W8 (IntPost W8 N)) := (msize_any hA8 HM.out N HN.out); have HP8 := hid p8; have HA8 := hid hA8; have HK8 := hid hk8; clear p8 hA8 hk8; go_upto_region 10 with (go_at_call 204; (with_reducible refine HSZ.out.mono ?_); rintro r w9 ⟨rfl, hb9⟩); have HA9 : Hid (MpAt P w9 g m v q') := HA8.out.grow hb9 P (fun _ e => e); have hk9 : Keeps (· = g) w w9 := HK8.out.trans (Keeps.of_below hb9) (fun _ _ e => e)
        have f9 : ∀ i, w9.frozen? ⟨g, i, none⟩ = false := fun i => hpFree HA9.out.at_ i
        have c9 := hpCell HA9.out.at_
        have f94 := f9 4
        have f95 := f9 5
        have f96 := f9 6
        have c94 : w9.cell? ⟨g, 4, none⟩ = some (.int .i64 m.mode) := c9 4
        have c95 : w9.cell? ⟨g, 5, none⟩ = some (.int .i64 m.lo) := c9 5
        have c96 : w9.cell? ⟨g, 6, none⟩ = some (.int .i64 m.hi) := c9 6
        clear f9 c9
        go_wp2
        go_ret
        refine ⟨rfl, ?_⟩
        rw [HY.out]
        exact MpFed.of (((HA9.out.cell_set 4 (.int .i64 2) { m with mode := 2 } q' rfl rfl).cell_set 5 (.int .i64 0) { m with mode := 2, lo := 0 } q' rfl rfl).cell_set 6 (.int .i64 N) { m with mode := 2, lo := 0, hi := N } q' rfl rfl) (ks1 (ks1 (ks1 hk9 _ _) _ _) _ _)
      · rw [if_neg hs] at hy
        have HSS := hid hs
        clear hs
        obtain ⟨W0, hW0⟩ : ∃ W, w.alloc (.cells #[.int .i64 vd, f, .int .i64 x, d, c, l, mm, n, ob] 55) = W := ⟨_, rfl⟩; have hb0 : Below w.heap.size w W0 := (by rw [← hW0]; exact bal' w _); have p0 : W0.heap[w.heap.size]? = some (.cells #[.int .i64 vd, f, .int .i64 x, d, c, l, mm, n, ob] 55) := (by rw [← hW0]; exact hpNew w _); have hgl := h.lt; have hgn : g ≠ w.heap.size := (by omega); obtain ⟨q', sw⟩ : ∃ q', IntKind.i64.wrap (q + 1) = q' := ⟨_, rfl⟩; obtain ⟨N, hN⟩ : ∃ N, m.size = N := ⟨_, rfl⟩; have HEN1 : Hid (Calls Tryz.prog 173 #[.pointer (some ⟨g, 0, none⟩)] W0 (BoolPost W0 false)) := (mended_any (h.grow hb0 P (fun _ e => e)) hm _ (decide_eq_false hr)); have c8 : ∀ X, Below W0.heap.size W0 X → X.cell? ⟨g, 8, none⟩ = some (.int .i64 q) := (fun X k => hpCell (hpKeep h.at_ (bt hb0 k (Nat.le_refl _))) 8); have f8 : ∀ X, Below W0.heap.size W0 X → X.frozen? ⟨g, 8, none⟩ = false := (fun X k => hpFree (hpKeep h.at_ (bt hb0 k (Nat.le_refl _))) 8); have HW0 := hid hW0; have HB0 := hid hb0; have P0 := hid p0; have H := hid h; have HM := hid hm; have HN := hid hN; clear hW0 hb0 p0 h hm hr hN
        have ds : ¬ 1 < N := by have := HSS.out; have := HN.out; omega
        have HLE : Hid (∀ X, MpAt P X g m v q' → Calls Tryz.prog 206 #[.pointer (some ⟨g, 0, none⟩), .int .i64 1, .int .i64 2, .int .i64 0] X (EndPost P X g y)) := fun X hX => mlearn_any hX 1 2 0 (by decide) (by have := HLEN.out; have := HR.out; omega) y hy
        clear hy
        go_enter Tryz.func201, Tryz.ntmps201; go_upto_region 1 with (fail); rw [HW0.out]; go_upto_region 6 with (go_at_call 173; (with_reducible refine HEN1.out.mono ?_); rintro r w1 ⟨rfl, hb1⟩); have hA8 : MpAt P (w1.setCell ⟨g, 8, none⟩ (.int .i64 q')) g m v q' := (H.out.grow (bt HB0.out hb1 (Nat.le_refl _)) P (fun _ e => e)).cell_set 8 _ m q' rfl rfl; have p8 : (w1.setCell ⟨g, 8, none⟩ (.int .i64 q')).heap[w.heap.size]? = some (.cells #[.int .i64 vd, f, .int .i64 x, d, c, l, mm, n, ob] 55) := (hpOther (Ne.symm hgn)).trans (hpKeep P0.out hb1); have hk8 : Keeps (· = g) w (w1.setCell ⟨g, 8, none⟩ (.int .i64 q')) := ks1 (Keeps.of_below (bt HB0.out hb1 (Nat.le_refl _))) _ _; clear c8 f8; generalize w1.setCell ⟨g, 8, none⟩ (.int .i64 q') = W8 at *; have e0 : W8.cell? ⟨w.heap.size, 0, none⟩ = some (.int .i64 vd) := hpCell p8 0; have e2 : W8.cell? ⟨w.heap.size, 2, none⟩ = some (.int .i64 x) := hpCell p8 2; have c4 : ∀ X, Below W8.heap.size W8 X → X.cell? ⟨g, 4, none⟩ = some (.int .i64 m.mode) := (fun X k => hpCell (hpKeep hA8.at_ k) 4); have HSZ : Hid (Calls Tryz.prog 204 #[.pointer (some ⟨g, 0, none⟩)] W8 (IntPost W8 N)) := (msize_any hA8 HM.out N HN.out); have HP8 := hid p8; have HA8 := hid hA8; have HK8 := hid hk8; clear p8 hA8 hk8; go_upto_region 10 with (go_at_call 204; (with_reducible refine HSZ.out.mono ?_); rintro r w9 ⟨rfl, hb9⟩); have HA9 : Hid (MpAt P w9 g m v q') := HA8.out.grow hb9 P (fun _ e => e); have hk9 : Keeps (· = g) w w9 := HK8.out.trans (Keeps.of_below hb9) (fun _ _ e => e)
        go_wp2_with (go_at_call 206; (with_reducible refine (HLE.out _ HA9.out).mono ?_); rintro r w5 ⟨rfl, hF5⟩)
        go_ret
        exact ⟨rfl, hF5.from hk9⟩
    · rw [if_neg hn] at hy
      have hd : ((vd == 2) = false) ∨ ((vd == 2) = true ∧ (x == 2) = false) := by
        by_cases h2 : vd = 2
        · exact .inr ⟨b1 h2, b0 (fun e => hn ⟨h2, e⟩)⟩
        · exact .inl (b0 h2)
      clear hn
      by_cases hs : 1 < m.size
      · rw [if_pos hs] at hy
        have HSS := hid hs
        clear hs
        obtain ⟨W0, hW0⟩ : ∃ W, w.alloc (.cells #[.int .i64 vd, f, .int .i64 x, d, c, l, mm, n, ob] 55) = W := ⟨_, rfl⟩; have hb0 : Below w.heap.size w W0 := (by rw [← hW0]; exact bal' w _); have p0 : W0.heap[w.heap.size]? = some (.cells #[.int .i64 vd, f, .int .i64 x, d, c, l, mm, n, ob] 55) := (by rw [← hW0]; exact hpNew w _); have hgl := h.lt; have hgn : g ≠ w.heap.size := (by omega); obtain ⟨q', sw⟩ : ∃ q', IntKind.i64.wrap (q + 1) = q' := ⟨_, rfl⟩; obtain ⟨N, hN⟩ : ∃ N, m.size = N := ⟨_, rfl⟩; have HEN1 : Hid (Calls Tryz.prog 173 #[.pointer (some ⟨g, 0, none⟩)] W0 (BoolPost W0 false)) := (mended_any (h.grow hb0 P (fun _ e => e)) hm _ (decide_eq_false hr)); have c8 : ∀ X, Below W0.heap.size W0 X → X.cell? ⟨g, 8, none⟩ = some (.int .i64 q) := (fun X k => hpCell (hpKeep h.at_ (bt hb0 k (Nat.le_refl _))) 8); have f8 : ∀ X, Below W0.heap.size W0 X → X.frozen? ⟨g, 8, none⟩ = false := (fun X k => hpFree (hpKeep h.at_ (bt hb0 k (Nat.le_refl _))) 8); have HW0 := hid hW0; have HB0 := hid hb0; have P0 := hid p0; have H := hid h; have HM := hid hm; have HN := hid hN; clear hW0 hb0 p0 h hm hr hN
        have ds : 1 < N := by have := HSS.out; have := HN.out; omega
        have HY := hid hy
        clear hy
        rcases hd with d2 | ⟨d2, d3⟩
        all_goals
          go_enter Tryz.func201, Tryz.ntmps201; go_upto_region 1 with (fail); rw [HW0.out]; go_upto_region 6 with (go_at_call 173; (with_reducible refine HEN1.out.mono ?_); rintro r w1 ⟨rfl, hb1⟩); have hA8 : MpAt P (w1.setCell ⟨g, 8, none⟩ (.int .i64 q')) g m v q' := (H.out.grow (bt HB0.out hb1 (Nat.le_refl _)) P (fun _ e => e)).cell_set 8 _ m q' rfl rfl; have p8 : (w1.setCell ⟨g, 8, none⟩ (.int .i64 q')).heap[w.heap.size]? = some (.cells #[.int .i64 vd, f, .int .i64 x, d, c, l, mm, n, ob] 55) := (hpOther (Ne.symm hgn)).trans (hpKeep P0.out hb1); have hk8 : Keeps (· = g) w (w1.setCell ⟨g, 8, none⟩ (.int .i64 q')) := ks1 (Keeps.of_below (bt HB0.out hb1 (Nat.le_refl _))) _ _; clear c8 f8; generalize w1.setCell ⟨g, 8, none⟩ (.int .i64 q') = W8 at *; have e0 : W8.cell? ⟨w.heap.size, 0, none⟩ = some (.int .i64 vd) := hpCell p8 0; have e2 : W8.cell? ⟨w.heap.size, 2, none⟩ = some (.int .i64 x) := hpCell p8 2; have c4 : ∀ X, Below W8.heap.size W8 X → X.cell? ⟨g, 4, none⟩ = some (.int .i64 m.mode) := (fun X k => hpCell (hpKeep hA8.at_ k) 4); have HSZ : Hid (Calls Tryz.prog 204 #[.pointer (some ⟨g, 0, none⟩)] W8 (IntPost W8 N)) := (msize_any hA8 HM.out N HN.out); have HP8 := hid p8; have HA8 := hid hA8; have HK8 := hid hk8; clear p8 hA8 hk8; go_upto_region 10 with (go_at_call 204; (with_reducible refine HSZ.out.mono ?_); rintro r w9 ⟨rfl, hb9⟩); have HA9 : Hid (MpAt P w9 g m v q') := HA8.out.grow hb9 P (fun _ e => e); have hk9 : Keeps (· = g) w w9 := HK8.out.trans (Keeps.of_below hb9) (fun _ _ e => e)
          have f94 : w9.frozen? ⟨g, 4, none⟩ = false := hpFree HA9.out.at_ 4
          have c94 : w9.cell? ⟨g, 4, none⟩ = some (.int .i64 m.mode) := hpCell HA9.out.at_ 4
          go_wp2
          go_ret
          refine ⟨rfl, ?_⟩
          rw [HY.out]
          exact MpFed.of (HA9.out.cell_set 4 (.int .i64 0) { m with mode := 0 } q' rfl rfl) (ks1 hk9 _ _)
      · rw [if_neg hs] at hy
        have HSS := hid hs
        clear hs
        obtain ⟨W0, hW0⟩ : ∃ W, w.alloc (.cells #[.int .i64 vd, f, .int .i64 x, d, c, l, mm, n, ob] 55) = W := ⟨_, rfl⟩; have hb0 : Below w.heap.size w W0 := (by rw [← hW0]; exact bal' w _); have p0 : W0.heap[w.heap.size]? = some (.cells #[.int .i64 vd, f, .int .i64 x, d, c, l, mm, n, ob] 55) := (by rw [← hW0]; exact hpNew w _); have hgl := h.lt; have hgn : g ≠ w.heap.size := (by omega); obtain ⟨q', sw⟩ : ∃ q', IntKind.i64.wrap (q + 1) = q' := ⟨_, rfl⟩; obtain ⟨N, hN⟩ : ∃ N, m.size = N := ⟨_, rfl⟩; have HEN1 : Hid (Calls Tryz.prog 173 #[.pointer (some ⟨g, 0, none⟩)] W0 (BoolPost W0 false)) := (mended_any (h.grow hb0 P (fun _ e => e)) hm _ (decide_eq_false hr)); have c8 : ∀ X, Below W0.heap.size W0 X → X.cell? ⟨g, 8, none⟩ = some (.int .i64 q) := (fun X k => hpCell (hpKeep h.at_ (bt hb0 k (Nat.le_refl _))) 8); have f8 : ∀ X, Below W0.heap.size W0 X → X.frozen? ⟨g, 8, none⟩ = false := (fun X k => hpFree (hpKeep h.at_ (bt hb0 k (Nat.le_refl _))) 8); have HW0 := hid hW0; have HB0 := hid hb0; have P0 := hid p0; have H := hid h; have HM := hid hm; have HN := hid hN; clear hW0 hb0 p0 h hm hr hN
        have ds : ¬ 1 < N := by have := HSS.out; have := HN.out; omega
        have HLE : Hid (∀ X, MpAt P X g m v q' → Calls Tryz.prog 206 #[.pointer (some ⟨g, 0, none⟩), .int .i64 1, .int .i64 3, .int .i64 0] X (EndPost P X g y)) := fun X hX => mlearn_any hX 1 3 0 (by decide) (by have := HLEN.out; have := HR.out; omega) y hy
        clear hy
        rcases hd with d2 | ⟨d2, d3⟩
        all_goals
          go_enter Tryz.func201, Tryz.ntmps201; go_upto_region 1 with (fail); rw [HW0.out]; go_upto_region 6 with (go_at_call 173; (with_reducible refine HEN1.out.mono ?_); rintro r w1 ⟨rfl, hb1⟩); have hA8 : MpAt P (w1.setCell ⟨g, 8, none⟩ (.int .i64 q')) g m v q' := (H.out.grow (bt HB0.out hb1 (Nat.le_refl _)) P (fun _ e => e)).cell_set 8 _ m q' rfl rfl; have p8 : (w1.setCell ⟨g, 8, none⟩ (.int .i64 q')).heap[w.heap.size]? = some (.cells #[.int .i64 vd, f, .int .i64 x, d, c, l, mm, n, ob] 55) := (hpOther (Ne.symm hgn)).trans (hpKeep P0.out hb1); have hk8 : Keeps (· = g) w (w1.setCell ⟨g, 8, none⟩ (.int .i64 q')) := ks1 (Keeps.of_below (bt HB0.out hb1 (Nat.le_refl _))) _ _; clear c8 f8; generalize w1.setCell ⟨g, 8, none⟩ (.int .i64 q') = W8 at *; have e0 : W8.cell? ⟨w.heap.size, 0, none⟩ = some (.int .i64 vd) := hpCell p8 0; have e2 : W8.cell? ⟨w.heap.size, 2, none⟩ = some (.int .i64 x) := hpCell p8 2; have c4 : ∀ X, Below W8.heap.size W8 X → X.cell? ⟨g, 4, none⟩ = some (.int .i64 m.mode) := (fun X k => hpCell (hpKeep hA8.at_ k) 4); have HSZ : Hid (Calls Tryz.prog 204 #[.pointer (some ⟨g, 0, none⟩)] W8 (IntPost W8 N)) := (msize_any hA8 HM.out N HN.out); have HP8 := hid p8; have HA8 := hid hA8; have HK8 := hid hk8; clear p8 hA8 hk8; go_upto_region 10 with (go_at_call 204; (with_reducible refine HSZ.out.mono ?_); rintro r w9 ⟨rfl, hb9⟩); have HA9 : Hid (MpAt P w9 g m v q') := HA8.out.grow hb9 P (fun _ e => e); have hk9 : Keeps (· = g) w w9 := HK8.out.trans (Keeps.of_below hb9) (fun _ _ e => e)
          go_wp2_with (go_at_call 206; (with_reducible refine (HLE.out _ HA9.out).mono ?_); rintro r w5 ⟨rfl, hF5⟩)
          go_ret
          exact ⟨rfl, hF5.from hk9⟩
theorem mfeed_any {P : Nat → Prop} {w : World} {g : Nat} {m : Mp} {v : Value} {q : Int} (h : MpAt P w g m v q) (hm : m.ok) (hr : ¬ m.rest = 0) (vd x : Int) (f d c l mm n ob : Value) :
    Calls Tryz.prog 201 #[.pointer (some ⟨g, 0, none⟩), .agg #[.int .i64 vd, f, .int .i64 x, d, c, l, mm, n, ob]] w (MpFeed P w g (m.feed vd x)) := by
  by_cases h2 : m.mode = 2
  · refine mfeed_seek h hm hr h2 vd x f d c l mm n ob _ ?_
    unfold Mp.feed Mp.halved
    rw [if_pos h2]
    by_cases h1 : vd = 1 <;> by_cases h3 : vd = 2 ∧ x = 2 <;> simp [h1, h3]
  · refine mfeed_else h hm hr h2 vd x f d c l mm n ob _ ?_
    unfold Mp.feed
    rw [if_neg h2]
theorem Mp.size_bd {m : Mp} (h : m.ok) (hr : ¬ m.rest = 0) : 1 ≤ m.size ∧ m.size ≤ m.rest := by
  have hR : 1 ≤ m.rest := by have := h.kl; unfold Mp.rest at *; omega
  have := h.m0
  unfold Mp.size
  split
  · split <;> omega
  · split
    · rename_i h2
      have := h.se h2
      omega
    · omega
theorem Mp.ok.learn_ok {m : Mp} (h : m.ok) {n k mo : Int} (hn : 0 ≤ n) (hr : n ≤ m.rest) (hmo : mo ≠ 2) : (m.learn n k mo).ok := by
  refine ⟨h.t0, h.t1, h.c0, h.c1, h.f0, h.f1, h.m0, h.m1, ?_, fun e => absurd e hmo⟩
  rw [Mp.learn_len _ _ _ _ hn]
  show _ ≤ m.cnt
  unfold Mp.rest at hr
  omega
theorem Mp.learn_rest (m : Mp) (n k mo : Int) (hn : 0 ≤ n) : (m.learn n k mo).rest = m.rest - n := by
  unfold Mp.rest
  rw [Mp.learn_len _ _ _ _ hn]
  show m.cnt - _ = _
  omega
theorem Mp.feed_ok {m : Mp} (h : m.ok) (hr : ¬ m.rest = 0) (vd x : Int) : (m.feed vd x).ok := by
  have hsz := Mp.size_bd h hr
  unfold Mp.feed
  split
  · rename_i h2
    have hse := h.se h2
    have hhf := h.half h2
    have hlo : Mp.ok { m with lo := m.size, mode := 0 } := ⟨h.t0, h.t1, h.c0, h.c1, h.f0, h.f1, h.m0, h.m1, h.kl, fun e => absurd (show (0 : Int) = 2 from e) (by decide)⟩
    have hhi : Mp.ok { m with hi := m.size, mode := 0 } := ⟨h.t0, h.t1, h.c0, h.c1, h.f0, h.f1, h.m0, h.m1, h.kl, fun e => absurd (show (0 : Int) = 2 from e) (by decide)⟩
    split
    · split
      · have h1 : Mp.ok ({ m with lo := m.size, mode := 0 }.learn m.size 1 0) := hlo.learn_ok (by omega) (by show m.size ≤ m.rest; omega) (by decide)
        have h3 := Mp.learn_rest { m with lo := m.size, mode := 0 } m.size 1 0 (by omega)
        exact h1.learn_ok (n := 1) (k := 2) (mo := 0) (by decide) (by rw [h3]; show 1 ≤ m.rest - m.size; omega) (by decide)
      · exact ⟨h.t0, h.t1, h.c0, h.c1, h.f0, h.f1, h.m0, h.m1, h.kl, fun _ => ⟨by show 0 ≤ m.size; omega, by show m.size + 2 ≤ m.hi; omega, hse.2.2⟩⟩
    · split
      · split
        · have h1 : Mp.ok ({ m with hi := m.size, mode := 0 }.learn m.lo 1 0) := hhi.learn_ok (by omega) (by show m.lo ≤ m.rest; omega) (by decide)
          have h3 := Mp.learn_rest { m with hi := m.size, mode := 0 } m.lo 1 0 (by omega)
          exact h1.learn_ok (n := 1) (k := 2) (mo := 0) (by decide) (by rw [h3]; show 1 ≤ m.rest - m.lo; omega) (by decide)
        · exact ⟨h.t0, h.t1, h.c0, h.c1, h.f0, h.f1, h.m0, h.m1, h.kl, fun _ => ⟨hse.1, by show m.lo + 2 ≤ m.size; omega, by show m.size ≤ m.rest; omega⟩⟩
      · exact h.learn_ok hse.1 (by omega) (by decide)
  · split
    · exact h.learn_ok (by omega) (by omega) (by decide)
    · split
      · split
        · exact ⟨h.t0, h.t1, h.c0, h.c1, h.f0, h.f1, h.m0, h.m1, h.kl, fun _ => ⟨by show (0 : Int) ≤ 0; decide, by show (0 : Int) + 2 ≤ m.size; omega, by show m.size ≤ m.rest; omega⟩⟩
        · exact h.learn_ok (by decide) (by omega) (by decide)
      · split
        · exact ⟨h.t0, h.t1, h.c0, h.c1, h.f0, h.f1, h.m0, h.m1, h.kl, fun e => absurd (show (0 : Int) = 2 from e) (by decide)⟩
        · exact h.learn_ok (by decide) (by omega) (by decide)
end Go.Proofs.YtipnamoocemeeaaGreat
namespace Go.Proofs.YtipnamoocemeeaaGreat
open Go.RowKit
def Spn (base : Nat) (w : World) (v : Value) (l : List (Int × Int)) : Prop := w.ownsRow base 192 2 v l.length (rcs l)
theorem Spn.nil (base : Nat) (w : World) : Spn base w (.slice none 0 0) [] := World.ownsRow_nil _ _ _ _
theorem Spn.keep {base : Nat} {w w' : World} {v : Value} {l : List (Int × Int)} (h : Spn base w v l) (hb : Below w.heap.size w w') : Spn base w' v l := own_keeps (F := fun _ => False) h (Keeps.of_below hb) (fun _ _ f => f)
theorem Spn.keeps {F : Nat → Prop} {base : Nat} {w w' : World} {v : Value} {l : List (Int × Int)} (h : Spn base w v l) (hk : Keeps F w w') (hn : ∀ k, v.ownBlock = some k → ¬ F k) : Spn base w' v l := own_keeps h hk hn
theorem Spn.slice {base : Nat} {w : World} {v : Value} {l : List (Int × Int)} (h : Spn base w v l) : ∃ a c, v = .slice a l.length c := own_slice h
theorem infoSp : (Tryz.prog.info? 192).map (fun i => (i.zero, i.size, i.bytes)) = some (some (.agg #[.int .i64 0, .int .i64 0]), 2, 16) := by kernel_rfl
def SpansPost (w : World) (l : List (Int × Int)) (r : Ending) (w' : World) : Prop := ∃ a c, r = .returned (.tuple #[.slice a l.length c, .bool true]) ∧ Spn w.heap.size w' (.slice a l.length c) l ∧ Below w.heap.size w w'
set_option maxRecDepth 100000 in
set_option maxHeartbeats 3200000 in
theorem mspans_any {P : Nat → Prop} {w : World} {g : Nat} {m : Mp} {v : Value} {q : Int} (h : MpAt P w g m v q) (hm : m.ok) (hr : m.rest = 0) (l : List (Int × Int)) (hl : Hid (rle m.ks = l)) :
    Calls Tryz.prog 172 #[.pointer (some ⟨g, 0, none⟩)] w (SpansPost w l) := by
  obtain ⟨i5, hi, hz0, hz1, hz2⟩ := info_parts infoSp
  have HAT := hid h.at_
  have HRN := hid hm.rn
  rw [hl.out] at HRN
  have HEN1 : Hid (Calls Tryz.prog 173 #[.pointer (some ⟨g, 0, none⟩)] w (BoolPost w true)) := mended_any h hm _ (decide_eq_true hr)
  have c7 : ∀ X, Below w.heap.size w X → X.cell? ⟨g, 7, none⟩ = some v := fun X k => hpCell (hpKeep HAT.out k) 7
  have HRU : Hid (∀ X, Below w.heap.size w X → Calls Tryz.prog 174 #[.agg #[v]] X fun r w' => ∃ a c, r = .returned (.slice a l.length c) ∧ Rns X.heap.size w' (.slice a l.length c) l ∧ Below X.heap.size X w') := fun X hX => by
    have hown := h.own
    rw [hl.out] at hown
    refine (rruns_any v l X (hown.keep hX) (by have := HRN.out.len; omega)).mono ?_
    rintro r w' ⟨v', rfl, h1, h2⟩
    obtain ⟨a, c, rfl⟩ := h1.slice
    exact ⟨a, c, rfl, h1, h2⟩
  clear h hm hr hl
  obtain ⟨n, hN⟩ : ∃ n, l.length = n := ⟨_, rfl⟩
  have HN := hid hN
  have hn : n ≤ 1024 := by have := HRN.out.len; omega
  rw [hN] at HRU
  clear hN
  go_enter Tryz.func172, Tryz.ntmps172
  go_wp2_with (first | (go_at_call 173; (with_reducible refine HEN1.out.mono ?_); rintro r w1 ⟨rfl, hb1⟩) | (go_at_call 174; (with_reducible refine (HRU.out w1 hb1).mono ?_); rintro r w2 ⟨va, vc, rfl, hr2, hb2⟩))
  have HR2 : Hid (Rns 0 w2 (.slice va n vc) l) := own_lower hr2 (Nat.zero_le _)
  have hB2 := bt hb1 hb2 (Nat.le_refl _)
  clear hr2 c7 hb1 hb2
  go_loopw [4, 20] (fun ov iv wr => ∃ (k : Nat) (oa : Option Addr) (oc : Nat), k ≤ n ∧ iv = .int .i64 k ∧ ov = .slice oa k oc ∧ Hid (wr.ownsRow w2.heap.size 192 2 (.slice oa k oc) k (rcs (l.take k))) ∧ Below w2.heap.size w2 wr) (fun _ iv _ => n - (intOf iv).toNat)
  case atStart => exact ⟨0, none, 0, Nat.zero_le _, rfl, rfl, World.ownsRow_nil _ _ _ _, Below.refl _ _⟩
  case round =>
    obtain ⟨k, oa, oc, hk, rfl, rfl, hown, hbw⟩ := hrel
    by_cases hlt : k < n
    · obtain ⟨p, hp⟩ := gs (l := l) HN.out hlt
      obtain ⟨g', cap, hv, d1, d2, _⟩ := (HR2.out.keep hbw).at hp
      rw [HN.out] at hv
      simp only [Value.slice.injEq, true_and] at hv
      obtain ⟨rfl, rfl⟩ := hv
      have HC : Hid (rcs (l.take (k + 1)) = rcs (l.take k) ++ [.int .i64 p.1, .int .i64 p.2]) := by
        show _ = _
        rw [List.take_add_one, hp, rcs_append]
        rfl
      obtain ⟨c, hc⟩ : ∃ c, p.1 = c := ⟨_, rfl⟩
      rw [hc] at HC d1
      obtain ⟨x, hx⟩ : ∃ x, p.2 = x := ⟨_, rfl⟩
      rw [hx] at HC d2
      have hki : (0 : Int) ≤ (k : Int) := Int.natCast_nonneg _
      have hkl : (k : Int) < (n : Int) := by omega
      have hsz := hbw.size
      have hsz2 := hB2.size
      have q1 := hpNew wr (.cells #[.int .i64 c, .int .i64 x] 237)
      have q2 := hpCell q1 0
      have q3 := hpCell q1 1
      clear hp hc hx q1
      go_wp2_with (at_builtin; refine wpList_appN rfl _ _ 86 rfl w2.heap.size 192 i5 _ 2 16 Tryz.underlying86 hi hz0 hz1 hz2 rfl (by decide) (.slice oa k oc) k (rcs (l.take k)) rfl ((hown.out.alloc _).alloc _) ⟨wr.heap.size + 1, 0, none⟩ 1 1 [.int .i64 c, .int .i64 x] rfl rfl (by have := newsNew (wr.alloc (.cells #[.int .i64 c, .int .i64 x] 237)) [.int .i64 c, .int .i64 x] 192; simpa using this) (by intro u hu; simp at hu; rcases hu with rfl | rfl <;> rfl) (by unfold maxLen; omega) (by omega) (by simp; omega) ?c3)
      case c3 =>
        intro v6 w6 hown6 hgr6 _
        obtain ⟨a6, c6, rfl⟩ := own_slice hown6
        have HO6 : Hid (w6.ownsRow w2.heap.size 192 2 (.slice a6 (k + 1) c6) (k + 1) (rcs (l.take (k + 1)))) := by show w6.ownsRow _ _ _ _ _ _; rw [HC.out]; exact hown6
        have hb6 : Below w2.heap.size w2 w6 := (bta (bta hbw (Nat.le_refl _) _) (Nat.le_refl _) _).grown hgr6 (by simp; omega) (fun j hj => (hown.out.lt j hj).1)
        clear hown6 hgr6
        go_wp2
        go_roundw
        case rel => exact ⟨k + 1, a6, c6, by omega, by go_num, rfl, HO6.out, hb6⟩
        case measure => simp [intOf]; omega
    · obtain rfl : k = n := by omega
      have HT : Hid (l.take k = l) := List.take_of_length_le (by rw [HN.out]; exact Nat.le_refl _)
      have HE : Hid (Spn w.heap.size wr (.slice oa k oc) l) := by
        have := own_lower hown.out hB2.size
        rw [HT.out] at this
        show wr.ownsRow _ _ _ _ _ _
        rw [HN.out]
        exact this
      clear hown
      go_wp2
      refine bodyPost_ret (v := .tuple #[.slice oa k oc, .bool true]) (by simp [results, Tryz.results172, go_sem]) rfl ?_
      exact ⟨oa, oc, by rw [HN.out], by rw [HN.out]; exact HE.out, bt hB2 hbw (Nat.le_refl _)⟩
def Mp.new (tb first cnt most : Int) : Mp := ⟨tb, first, cnt, most, 0, 0, 0, []⟩
theorem Mp.new_ok {tb first cnt most : Int} (t0 : 1 ≤ tb) (t1 : tb ≤ 4) (c0 : 1 ≤ cnt) (c1 : cnt ≤ 512) (f0 : 0 ≤ first) (f1 : first ≤ 65536 - cnt) (m0 : 1 ≤ most) (m1 : most ≤ 2000) : (Mp.new tb first cnt most).ok :=
  ⟨t0, t1, c0, c1, f0, f1, m0, m1, (by show (0 : Int) ≤ cnt; omega), fun e => absurd (show (0 : Int) = 2 from e) (by decide)⟩
set_option maxRecDepth 100000 in
set_option maxHeartbeats 3200000 in
theorem mnew_any (tb first cnt most : Int) (t0 : 1 ≤ tb) (t1 : tb ≤ 4) (c0 : 1 ≤ cnt) (c1 : cnt ≤ 512) (f0 : 0 ≤ first) (f1 : first ≤ 65536 - cnt) (m0 : 1 ≤ most) (m1 : most ≤ 2000) (w : World) :
    Calls Tryz.prog 170 #[.int .i64 tb, .agg #[.int .i64 first, .int .i64 cnt], .int .i64 most] w fun r w' => ∃ g : Nat, r = .returned (.pointer (some ⟨g, 0, none⟩)) ∧ w.heap.size ≤ g ∧ MpAt (Grw (fun _ => False) w w') w' g (Mp.new tb first cnt most) (.slice none 0 0) 0 ∧ Below w.heap.size w w' := by
  have a1 : ¬ tb < 1 := by omega
  have a2 : ¬ 4 < tb := by omega
  have a3 : ¬ cnt < 1 := by omega
  have a4 : ¬ 512 < cnt := by omega
  have a5 : ¬ first < 0 := by omega
  have a6 : ¬ 65536 - cnt < first := by omega
  have a7 : ¬ most < 1 := by omega
  have a8 : ¬ 2000 < most := by omega
  have sw : IntKind.i64.wrap (65536 - cnt) = 65536 - cnt := IntWalk.i64_in _ (by omega)
  clear t0 t1 c0 c1 f0 f1 m0 m1
  go_enter Tryz.func170, Tryz.ntmps170
  go_wp2
  go_ret
  refine ⟨w.heap.size + 1, rfl, by omega, ⟨?_, Rns.nil _ _, .inr (by simp), fun j hj => by cases hj⟩, bta (bal' w _) (Nat.le_refl _) _⟩
  have := hpNew (w.alloc (.cells #[.int .i64 first, .int .i64 cnt] 24)) (.cells #[.int .i64 (Mp.new tb first cnt most).tb, .int .i64 (Mp.new tb first cnt most).first, .int .i64 (Mp.new tb first cnt most).cnt, .int .i64 (Mp.new tb first cnt most).most, .int .i64 (Mp.new tb first cnt most).mode, .int .i64 (Mp.new tb first cnt most).lo, .int .i64 (Mp.new tb first cnt most).hi, (.slice none 0 0), .int .i64 0] 234)
  simpa [Mp.new] using this
end Go.Proofs.YtipnamoocemeeaaGreat
