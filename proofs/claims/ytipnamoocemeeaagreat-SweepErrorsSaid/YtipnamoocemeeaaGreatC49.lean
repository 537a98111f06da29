/-
  Texts 49 of the claim.
-/
import Derived.Test.YtipnamoocemeeaaGreatC47
import Derived.Test.YtipnamoocemeeaaGreatC48
import Derived.StringKeys
/-
  Databases: profile.Valid and modscanmake.Profiles.
-/
namespace Go.Proofs.YtipnamoocemeeaaGreat
open Go.RowKit Go.Maps Go.WideMaps
theorem pcond_any (k id tab f cnt n : Int) (va : Option Addr) (ln vc : Nat) (val : List UInt8) (w : World) (hval : Bs w (.slice va ln vc) val) (hln : val.length = ln) (hm : ln ≤ 9223372036854775807) (V : Bool) (hV : Hid (V = true ↔ CdP k id ln tab f cnt n)) (hcb : cnt ≤ 9223372036854775807) :
    Calls Tryz.prog 109 #[.agg #[.int .i64 k, .int .i64 id, .slice va ln vc, .int .i64 tab, .int .i64 f, .int .i64 cnt, .int .i64 n]] w (BoolPost w V) := by
  by_cases k1 : k = 1
  · subst k1; exact pcond_a id tab f cnt n va ln vc val w hval hln hm V hV
  by_cases k2 : k = 2
  · subst k2; exact pcond_b id tab f cnt n va ln vc val w hval hln hm V hV
  by_cases k3 : k = 3
  · subst k3; exact pcond_c id tab f cnt n va ln vc val w hval hln hm V hV
  by_cases k4 : k = 4
  · subst k4; exact pcond_d id tab f cnt n va ln vc val w hval hln hm V hV hcb
  by_cases k5 : k = 5
  · subst k5; exact pcond_e id tab f cnt n va ln vc val w hval hln hm V hV
  exact pcond_f k id tab f cnt n va ln vc val w hval hln hm V hV (beq_eq_false_iff_ne.2 k1) (beq_eq_false_iff_ne.2 k2) (beq_eq_false_iff_ne.2 k3) (beq_eq_false_iff_ne.2 k4) (beq_eq_false_iff_ne.2 k5) ⟨k1, k2, k3, k4, k5⟩
/-- One profile, one condition, in every later world. -/
theorem Dbs.at {w : World} {a : Option Addr} {n c : Nat} {l : List Pf} (h : Dbs w (.slice a n c) l) {i : Nat} {p : Pf} (hp : l[i]? = some p) :
    ∃ b o va vc, a = some ⟨b, o, none⟩ ∧ Sls 7 CdR w (.slice va p.cs.length vc) p.cs ∧ p.name.size ≤ maxLen ∧ ∀ W, Below w.heap.size w W → W.cell? ⟨b, o + i * 2, none⟩ = some (.string p.name) ∧ W.cell? ⟨b, o + i * 2 + 1, none⟩ = some (.slice va p.cs.length vc) := by
  obtain ⟨-, -, -, hel⟩ := Sls.get h
  obtain ⟨b, o, ha, r, hr, ⟨v, rfl, hv, hs⟩, hc⟩ := hel i p hp
  obtain ⟨va, vc, rfl, -⟩ := id hv
  exact ⟨b, o, va, vc, ha, hv, hs, fun W hW => ⟨cell_keep hW (hc 0 _ rfl), cell_keep hW (hc 1 _ rfl)⟩⟩
theorem cds_at {w : World} {a : Option Addr} {n c : Nat} {l : List Cd} (h : Sls 7 CdR w (.slice a n c) l) {i : Nat} {x : Cd} (hx : l[i]? = some x) :
    ∃ b o va vc, a = some ⟨b, o, none⟩ ∧ Bs w (.slice va x.val.length vc) x.val ∧ ((-9223372036854775808 ≤ x.f ∧ x.f ≤ 9223372036854775807) ∧ (-9223372036854775808 ≤ x.cnt ∧ x.cnt ≤ 9223372036854775807)) ∧
      ∀ j u, (#[.int .i64 x.kind, .int .i64 x.id, .slice va x.val.length vc, .int .i64 x.tab, .int .i64 x.f, .int .i64 x.cnt, .int .i64 x.n] : Array Value).toList[j]? = some u → w.cell? ⟨b, o + i * 7 + j, none⟩ = some u := by
  obtain ⟨-, -, -, hel⟩ := Sls.get h
  obtain ⟨b, o, ha, r, hr, ⟨va, vc, rfl, hb, h1, h2⟩, hc⟩ := hel i x hx
  exact ⟨b, o, va, vc, ha, hb, ⟨h1, h2⟩, hc⟩
theorem pwithin_any (x a b : Int) (w : World) (V : Bool) (hV : (decide (a ≤ x) && decide (x ≤ b)) = V) : Calls Tryz.prog 108 #[.int .i64 x, .int .i64 a, .int .i64 b] w (BoolPost w V) := by
  subst hV
  by_cases h : a ≤ x
  · have g : decide (a ≤ x) = true := decide_eq_true h
    rw [g]
    clear h
    go_enter Tryz.func108, Tryz.ntmps108
    go_wp2
    go_ret
    exact ⟨rfl, Below.refl _ _⟩
  · have g : decide (a ≤ x) = false := decide_eq_false h
    rw [g]
    clear h
    go_enter Tryz.func108, Tryz.ntmps108
    go_wp2
    go_ret
    exact ⟨rfl, Below.refl _ _⟩
theorem zeroB (w : World) : (zeroValue 4).run Tryz.prog w = .ok (.bool false) w := by kernel_rfl
theorem NmC_zero (l : List Pf) : NmC l 0 = .map [] := by unfold NmC; rw [List.take_zero]; rfl
theorem NmC_succ (l : List Pf) (k : Nat) (p : Pf) (h : l[k]? = some p) : NmC l (k + 1) = (NmC l k).put (nmLit p.name) (.lit (.bool true)) := by
  unfold NmC
  rw [take_succ_snoc h, List.foldl_append]
  rfl
/-- Whether a name was there before. -/
theorem nm_look {w : World} {b k : Nat} {l : List Pf} {s : ByteArray} (h : w.ownsMap Tryz.prog 9 (plainElem Tryz.prog 4) b k (NmC l k)) (hs : s.size ≤ maxLen) (C : Bool) (hC : C = true ↔ ∃ q ∈ l.take k, nmLit q.name = nmLit s) :
    (Instr.lookup 177 (.map (some b)) (.string s) false).run Tryz.prog w = .ok (.bool C) w := by
  have hkey : keyOf Tryz.prog 9 (.string s) = some (nmLit s) := keyOf_string_mk Tryz.underlying9 hs
  obtain ⟨v, ps, hrun, hv⟩ := h.lookup (string_keyed Tryz.underlying9) Tryz.underlying177 (zeroB w) (plainElem_bool Tryz.underlying4 false) hkey
  have ha : (NmC l k).atKey (nmLit s) (.lit (.bool false)) = .lit (.bool C) := by
    cases C with
    | true => exact nmC_yes _ (by unfold nmLit; trivial) _ _ _ isMap_empty (hC.1 rfl)
    | false =>
      refine (nmC_no _ _ _ _ (fun p hp e => ?_)).trans rfl
      exact Bool.noConfusion (hC.2 ⟨p, hp, e⟩)
  rw [ha] at hv
  have e : v = .bool C := by
    cases v <;> simp [plainElem, Tryz.underlying4] at hv
    rw [hv.1]
  rw [hrun, e]

set_option maxRecDepth 100000 in
set_option maxHeartbeats 6400000 in
theorem pvalid_w (a : Option Addr) (c : Nat) (l : List Pf) (n : Nat) (w : World) (hn : l.length = n) (hl : Dbs w (.slice a n c) l) (V : Bool) (hV : V = true ↔ DbP l) :
    Calls Tryz.prog 65 #[.slice a n c] w (BoolPost w V) := by
  have hmm := @run_makeMap Tryz.prog
  have hnm : n ≤ maxLen := by rw [← hn]; exact Sls.len hl
  have hn64 : n ≤ 9223372036854775807 := by unfold maxLen at hnm; omega
  have HN := hid hn
  have HF : Hid (¬ DbP l → V = false) := fun h => by
    cases e : V with
    | false => rfl
    | true => exact absurd (hV.1 e) h
  have HT := hid hV.2
  have HL := hid hl
  clear hV hn hl
  go_enter Tryz.func65, Tryz.ntmps65
  go_wp2
  go_loopw [11] (fun iv wr => ∃ k : Nat, k ≤ n ∧ iv = .int .i64 (k : Int) ∧ wr.ownsMap Tryz.prog 9 (plainElem Tryz.prog 4) w.heap.size k (NmC l k) ∧ Hid (DbK l k) ∧ Below w.heap.size w wr) (fun iv _ => n - (intOf iv).toNat)
  case atStart => exact ⟨0, Nat.zero_le _, rfl, by rw [NmC_zero]; exact World.ownsMap_made _ _ _ _, DbK.zero l, bal' w _⟩
  case round =>
    obtain ⟨k, hk, rfl, hown, hdb, hbw⟩ := hrel
    have hki : (0 : Int) ≤ (k : Int) := Int.natCast_nonneg _
    have hlw := hown.lt
    by_cases hlt : k < n
    · have hkl : (k : Int) < (n : Int) := by omega
      have hkM : k < maxLen := by omega
      obtain ⟨p, hp⟩ : ∃ p, l[k]? = some p := ⟨_, List.getElem?_eq_getElem (by rw [HN.out]; exact hlt)⟩
      obtain ⟨b, o, va, vc, rfl, hcs, hps, hcl⟩ := HL.out.at hp
      obtain ⟨y0, y1⟩ := hcl wr hbw
      obtain ⟨B1, hB1⟩ : ∃ B : Bool, (B = true ↔ NameP p.name) := by
        by_cases h : NameP p.name
        · exact ⟨true, fun _ => h, fun _ => rfl⟩
        · exact ⟨false, fun e => (by cases e), fun e => absurd e h⟩
      obtain ⟨C, hC⟩ : ∃ C : Bool, (C = true ↔ ∃ q ∈ l.take k, nmLit q.name = nmLit p.name) := by
        by_cases h : ∃ q ∈ l.take k, nmLit q.name = nmLit p.name
        · exact ⟨true, fun _ => h, fun _ => rfl⟩
        · exact ⟨false, fun e => (by cases e), fun e => absurd e h⟩
      obtain ⟨cn, hcn⟩ : ∃ n, p.cs.length = n := ⟨_, rfl⟩
      have hcn64 : cn ≤ 9223372036854775807 := by have := Sls.len hcs; rw [hcn] at this; unfold maxLen at this; omega
      obtain ⟨nm, hnm2⟩ : ∃ s, p.name = s := ⟨_, rfl⟩
      obtain ⟨D, hD⟩ : ∃ D, (decide (1 ≤ (cn : Int)) && decide ((cn : Int) ≤ 8)) = D := ⟨_, rfl⟩
      rw [hnm2] at y0 hps
      rw [hcn] at y1
      have HPN : Hid (∀ X, Calls Tryz.prog 107 #[.string nm] X (BoolPost X B1)) := fun X => pname_any nm hps B1 (by rw [← hnm2]; exact hB1) X
      have HWI : Hid (∀ X, Calls Tryz.prog 108 #[.int .i64 (cn : Int), .int .i64 1, .int .i64 8] X (BoolPost X D)) := fun X => pwithin_any (cn : Int) 1 8 X D hD
      have HNM := hid hnm2
      have HCN := hid hcn
      have HDD := hid hD
      have HB1 := hid hB1
      have HC := hid hC
      have HP := hid hp
      have HCS := hid hcs
      have HKY : Hid (keyOf Tryz.prog 9 (.string nm) = some (nmLit nm)) := keyOf_string_mk Tryz.underlying9 hps
      have HPS := hid hps
      clear hnm2 hcn hD hB1 hC hp hcs hcl hps
      go_upto_region 5 with (fail)
      obtain ⟨W1, hW1⟩ : ∃ W, wr.alloc (.cells #[.string nm, .slice va cn vc] 122) = W := ⟨_, rfl⟩
      have hb1 : Below w.heap.size w W1 := by rw [← hW1]; exact bta hbw (Nat.le_refl _) _
      have p1 : W1.heap[wr.heap.size]? = some (.cells #[.string nm, .slice va cn vc] 122) := by rw [← hW1]; exact hpNew wr _
      have x0 : ∀ X, Below W1.heap.size W1 X → X.cell? ⟨wr.heap.size, 0, none⟩ = some (.string nm) := fun X h => hpCell (hpKeep p1 h) 0
      have x1 : ∀ X, Below W1.heap.size W1 X → X.cell? ⟨wr.heap.size, 1, none⟩ = some (.slice va cn vc) := fun X h => hpCell (hpKeep p1 h) 1
      have hown1 : W1.ownsMap Tryz.prog 9 (plainElem Tryz.prog 4) w.heap.size k (NmC l k) := by rw [← hW1]; exact hown.alloc _
      have HLK : Hid (∀ X, Below W1.heap.size W1 X → (Instr.lookup 177 (.map (some w.heap.size)) (.string nm) false).run Tryz.prog X = .ok (.bool C) X) := fun X h => nm_look (own_below hown1 h) HPS.out C (by rw [← HNM.out]; exact HC.out)
      have HOW := hid hown1
      have HB := hid hb1
      have r1 : Below W1.heap.size W1 W1 := Below.refl _ _
      rw [hW1]
      clear hW1 hown hown1 hb1 p1 y0 y1 hmm
      generalize wr.heap.size = pb at *
      cases B1 with
      | false =>
        have HE := hid (HF.out (fun h => by
          have h2 := (h.2.1 k p (by rw [HN.out]; exact hlt) HP.out).1
          exact Bool.noConfusion (HB1.out.2 h2)))
        go_wp2_with (go_at_call 107; (with_reducible refine (HPN.out _).mono ?_); rintro r w2 ⟨rfl, hb2⟩)
        go_ret
        exact ⟨by rw [HE.out] <;> rfl, bt HB.out hb2 (Nat.le_refl _)⟩
      | true =>
      cases C with
      | true =>
        have HE := hid (HF.out (fun h => by
          obtain ⟨q, hq, e⟩ := HC.out.1 rfl
          obtain ⟨i, hi, e2⟩ := List.mem_iff_getElem.1 hq
          rw [List.length_take] at hi
          rw [List.getElem_take] at e2
          have e3 : l[i]? = some q := by rw [List.getElem?_eq_getElem (by omega), e2]
          exact h.2.2 i k q p (by omega) (by rw [HN.out]; exact hlt) e3 HP.out (nmLit_inj e)))
        go_wp2_with (go_at_call 107; (with_reducible refine (HPN.out _).mono ?_); rintro r w2 ⟨rfl, hb2⟩; have hlk := HLK.out _ hb2)
        go_ret
        exact ⟨by rw [HE.out] <;> rfl, bt HB.out hb2 (Nat.le_refl _)⟩
      | false =>
      cases D with
      | false =>
        have HE := hid (HF.out (fun h => by
          have h2 := (h.2.1 k p (by rw [HN.out]; exact hlt) HP.out).2
          have h3 := HDD.out
          rw [HCN.out] at h2
          rw [decide_eq_true (show 1 ≤ (cn : Int) by omega), decide_eq_true (show (cn : Int) ≤ 8 by omega)] at h3
          cases h3))
        go_wp2_with (first
          | (go_at_call 107; (with_reducible refine (HPN.out _).mono ?_); rintro r w2 ⟨rfl, hb2⟩; have hlk := HLK.out _ hb2)
          | (go_at_call 108; (with_reducible refine (HWI.out _).mono ?_); rintro r w3 ⟨rfl, hb3⟩))
        go_ret
        exact ⟨by rw [HE.out] <;> rfl, bt HB.out (bt hb2 hb3 (Nat.le_refl _)) (Nat.le_refl _)⟩
      | true =>
        have HCB : Hid (1 ≤ cn ∧ cn ≤ 8) := by
          have h3 := HDD.out
          simp only [Bool.and_eq_true, decide_eq_true_eq] at h3
          show _ ∧ _
          omega
        go_upto_region 8 with (first
          | (go_at_call 107; (with_reducible refine (HPN.out _).mono ?_); rintro r w2 ⟨rfl, hb2⟩; have hlk := HLK.out _ hb2)
          | (go_at_call 108; (with_reducible refine (HWI.out _).mono ?_); rintro r w3 ⟨rfl, hb3⟩; have hb13 := bt hb2 hb3 (Nat.le_refl _); have hown3 := own_below HOW.out hb13)
          | (at_mapUpdate; refine wpList_mapUpdate_own _ rfl _ _ _ 177 rfl 9 4 (string_keyed Tryz.underlying9) Tryz.underlying177 (plainElem (H := Unit) Tryz.prog 4) w.heap.size k _ rfl hown3 hkM _ _ (nmLit nm) rfl rfl HKY.out _ [] (plainElem_bool Tryz.underlying4 true) ?_; intro w4 hown4 hg4))
        have hkg : Keeps (fun j => w.heap.size = j) w3 w4 := Keeps.of_grown hg4 (fun j e => by cases e; rfl)
        have c1 : w4.cell? ⟨pb, 1, none⟩ = some (.slice va cn vc) := hkg.cell (x1 w3 hb13) (fun e => by have e : w.heap.size = pb := e; omega)
        have hb4 : Below w.heap.size w w4 := by
          have h3 := bt HB.out hb13 (Nat.le_refl _)
          exact h3.trans (hkg.below h3.size (fun j hj e => by omega))
        have hown5 : w4.ownsMap Tryz.prog 9 (plainElem Tryz.prog 4) w.heap.size (k + 1) (NmC l (k + 1)) := by
          rw [NmC_succ l k p HP.out, HNM.out]
          exact hown4
        have HO5 := hid hown5
        have HB4 := hid hb4
        clear hown3 hown4 hg4 hkg hb4 hown5 x0 x1 hb2 hb3 hb13 hlk r1 HPN HWI HLK HOW HKY
        go_wp2
        go_loopw [38] (fun jv wq => ∃ m : Nat, m ≤ cn ∧ jv = .int .i64 (m : Int) ∧ Hid (∀ j x, j < m → p.cs[j]? = some x → x.P) ∧ Below w4.heap.size w4 wq) (fun jv _ => cn - (intOf jv).toNat)
        case atStart => exact ⟨0, Nat.zero_le _, rfl, fun j x hj => absurd hj (Nat.not_lt_zero _), Below.refl _ _⟩
        case round =>
          obtain ⟨m, hm, rfl, hall, hbq⟩ := hrel
          have hmi : (0 : Int) ≤ (m : Int) := Int.natCast_nonneg _
          by_cases hmt : m < cn
          · have hml : (m : Int) < (cn : Int) := by omega
            obtain ⟨x, hx⟩ : ∃ x, p.cs[m]? = some x := ⟨_, List.getElem?_eq_getElem (by rw [HCN.out]; exact hmt)⟩
            have hbwq : Below w.heap.size w wr := bt HB4.out hbq (Nat.le_refl _)
            have hcs2 := Sls.keep CdR.keep HCS.out hbwq
            rw [HCN.out] at hcs2
            obtain ⟨b2, o2, xa, xc, rfl, hxv, hxb, hxc⟩ := cds_at hcs2 hx
            obtain ⟨z, hz⟩ : ∃ z, (⟨x.kind, x.id, x.val, x.tab, x.f, x.cnt, x.n⟩ : Cd) = z := ⟨_, rfl⟩
            have y0 : wr.cell? ⟨b2, o2 + m * 7, none⟩ = some (.int .i64 x.kind) := hxc 0 _ rfl
            have y1 : wr.cell? ⟨b2, o2 + m * 7 + 1, none⟩ = some (.int .i64 x.id) := hxc 1 _ rfl
            have y2 : wr.cell? ⟨b2, o2 + m * 7 + 2, none⟩ = some (.slice xa x.val.length xc) := hxc 2 _ rfl
            have y3 : wr.cell? ⟨b2, o2 + m * 7 + 3, none⟩ = some (.int .i64 x.tab) := hxc 3 _ rfl
            have y4 : wr.cell? ⟨b2, o2 + m * 7 + 4, none⟩ = some (.int .i64 x.f) := hxc 4 _ rfl
            have y5 : wr.cell? ⟨b2, o2 + m * 7 + 5, none⟩ = some (.int .i64 x.cnt) := hxc 5 _ rfl
            have y6 : wr.cell? ⟨b2, o2 + m * 7 + 6, none⟩ = some (.int .i64 x.n) := hxc 6 _ rfl
            obtain ⟨xn, hxn⟩ : ∃ n, x.val.length = n := ⟨_, rfl⟩
            have hx64 : xn ≤ 9223372036854775807 := by have := hxv.len; rw [hxn] at this; unfold maxLen at this; omega
            obtain ⟨B, hB⟩ : ∃ B : Bool, (B = true ↔ x.P) := by
              by_cases h : x.P
              · exact ⟨true, fun _ => h, fun _ => rfl⟩
              · exact ⟨false, fun e => (by cases e), fun e => absurd e h⟩
            rw [hxn] at y2 hxv
            have HPC : Hid (∀ X, Below wr.heap.size wr X → Calls Tryz.prog 109 #[.agg #[.int .i64 x.kind, .int .i64 x.id, .slice xa xn xc, .int .i64 x.tab, .int .i64 x.f, .int .i64 x.cnt, .int .i64 x.n]] X (BoolPost X B)) := fun X hX =>
              pcond_any x.kind x.id x.tab x.f x.cnt x.n xa xn xc x.val X (hxv.keep hX) hxn hx64 B (by rw [← hxn]; exact hB) hxb.2.2
            have HBB := hid hB
            have HX := hid hx
            have HBWQ := hid hbwq
            clear hxc hcs2 hxv hxb hxn hB hx hz hbwq z
            generalize x.kind = x1 at *
            generalize x.id = x2 at *
            generalize x.tab = x3 at *
            generalize x.f = x4 at *
            generalize x.cnt = x5 at *
            generalize x.n = x6 at *
            go_upto_region 11 with (fail)
            obtain ⟨W2, hW2⟩ : ∃ W, wr.alloc (.cells #[.int .i64 x1, .int .i64 x2, .slice xa xn xc, .int .i64 x3, .int .i64 x4, .int .i64 x5, .int .i64 x6] 124) = W := ⟨_, rfl⟩
            have p2 : W2.heap[wr.heap.size]? = some (.cells #[.int .i64 x1, .int .i64 x2, .slice xa xn xc, .int .i64 x3, .int .i64 x4, .int .i64 x5, .int .i64 x6] 124) := by rw [← hW2]; exact hpNew wr _
            have hb2 : Below wr.heap.size wr W2 := by rw [← hW2]; exact bal' wr _
            rw [hW2]
            have z0 : W2.cell? ⟨wr.heap.size, 0, none⟩ = some (.int .i64 x1) := hpCell p2 0
            have z1 : W2.cell? ⟨wr.heap.size, 1, none⟩ = some (.int .i64 x2) := hpCell p2 1
            have z2 : W2.cell? ⟨wr.heap.size, 2, none⟩ = some (.slice xa xn xc) := hpCell p2 2
            have z3 : W2.cell? ⟨wr.heap.size, 3, none⟩ = some (.int .i64 x3) := hpCell p2 3
            have z4 : W2.cell? ⟨wr.heap.size, 4, none⟩ = some (.int .i64 x4) := hpCell p2 4
            have z5 : W2.cell? ⟨wr.heap.size, 5, none⟩ = some (.int .i64 x5) := hpCell p2 5
            have z6 : W2.cell? ⟨wr.heap.size, 6, none⟩ = some (.int .i64 x6) := hpCell p2 6
            have HPC2 := hid (HPC.out W2 hb2)
            clear hW2 p2 y0 y1 y2 y3 y4 y5 y6 HPC
            cases B with
            | false =>
              have HE := hid (HF.out (fun h => by
                have h2 := (h.2.1 k p (by rw [HN.out]; exact hlt) HP.out).2.2.2 x (List.mem_of_getElem? HX.out)
                exact Bool.noConfusion (HBB.out.2 h2)))
              go_wp2_with (go_at_call 109; (with_reducible refine HPC2.out.mono ?_); rintro r w5 ⟨rfl, hb5⟩)
              go_ret
              exact ⟨by rw [HE.out] <;> rfl, bt HBWQ.out (bt hb2 hb5 (Nat.le_refl _)) (Nat.le_refl _)⟩
            | true =>
              have HA2 : Hid (∀ j y, j < m + 1 → p.cs[j]? = some y → y.P) := fun j y hj hy => by
                by_cases e : j = m
                · subst e
                  rw [HX.out] at hy
                  cases hy
                  exact HBB.out.1 rfl
                · exact hall.out j y (by omega) hy
              go_wp2_with (go_at_call 109; (with_reducible refine HPC2.out.mono ?_); rintro r w5 ⟨rfl, hb5⟩)
              go_roundw
              case rel => exact ⟨m + 1, by omega, by go_num, HA2.out, bt hbq (bt hb2 hb5 (Nat.le_refl _)) (Nat.le_refl _)⟩
              case measure => simp [intOf]; omega
          · obtain rfl : m = cn := by omega
            have HD2 : Hid (DbK l (k + 1)) := hdb.out.next HP.out ⟨HB1.out.1 (by trivial), by rw [HCN.out]; exact HCB.out.1, by rw [HCN.out]; exact HCB.out.2, fun x hx => by
              obtain ⟨j, hj, e⟩ := List.mem_iff_getElem.1 hx
              exact hall.out j x (by rw [← HCN.out]; exact hj) (by rw [List.getElem?_eq_getElem hj, e])⟩ (fun i q hi hq e => by
              refine Bool.noConfusion (HC.out.2 ⟨q, ?_, by rw [e]⟩)
              refine List.mem_of_getElem? (i := i) ?_
              rw [List.getElem?_take, if_pos hi]
              exact hq)
            have HB5 := hid (bt HB4.out hbq (Nat.le_refl _))
            have HO6 := hid (own_below HO5.out hbq)
            clear hall
            go_wp2
            go_roundw
            case rel => exact ⟨k + 1, by omega, by go_num, HO6.out, HD2.out, HB5.out⟩
            case measure => simp [intOf]; omega
    · obtain rfl : k = n := by omega
      have HVD : Hid (V = decide ((k : Int) ≤ 16)) := by
        show _ = _
        by_cases e : k ≤ 16
        · rw [HT.out ⟨by rw [HN.out]; exact e, by rw [HN.out]; exact hdb.out⟩, decide_eq_true (by omega)]
        · rw [HF.out (fun h => e (by have := h.1; rw [HN.out] at this; exact this)), decide_eq_false (by omega)]
      clear hdb hown hmm
      go_wp2
      go_ret
      exact ⟨by rw [HVD.out] <;> rfl, hbw⟩
theorem pvalid_any (l : List Pf) : ∃ V : Bool, (V = true ↔ DbP l) ∧ ∀ (w : World) (v : Value), Dbs w v l → Calls Tryz.prog 65 #[v] w (BoolPost w V) := by
  by_cases h : DbP l
  · refine ⟨true, ⟨fun _ => h, fun _ => rfl⟩, fun w v hv => ?_⟩
    obtain ⟨a, c, rfl, -⟩ := id hv
    exact pvalid_w a c l _ w rfl hv true ⟨fun _ => h, fun _ => rfl⟩
  · refine ⟨false, ⟨fun e => (by cases e), fun e => absurd e h⟩, fun w v hv => ?_⟩
    obtain ⟨a, c, rfl, -⟩ := id hv
    exact pvalid_w a c l _ w rfl hv false ⟨fun e => (by cases e), fun e => absurd e h⟩

end Go.Proofs.YtipnamoocemeeaaGreat
