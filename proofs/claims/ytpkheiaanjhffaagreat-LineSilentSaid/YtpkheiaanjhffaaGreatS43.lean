/-
  Texts 43 of the claim.
-/
import Derived.Test.YtpkheiaanjhffaaGreatS40
import Derived.Test.YtpkheiaanjhffaaGreatS06
namespace Go.Proofs.YtpkheiaanjhffaaGreat
open Go.RowKit
theorem setW_one : ∀ (l : List (Int × Int)), ∀ u ∈ setV l, u.oneCell' = true
  | [], u, hu => by cases hu
  | x :: l, u, hu => by
    simp only [setV, List.mem_cons] at hu
    rcases hu with rfl | rfl | hu
    · rfl
    · rfl
    · exact setW_one l u hu
theorem setW_csl {w : World} : ∀ (l : List (Int × Int)), (∀ x ∈ l, wfI x.1 ∧ wfI x.2) → CsL 2 (RgR w) (setV l) l
  | [], _ => rfl
  | x :: l, h => ⟨[.int .i64 x.1, .int .i64 x.2], setV l, rfl, rfl, ⟨rfl, (h x (List.mem_cons_self ..)).1, (h x (List.mem_cons_self ..)).2⟩, setW_csl l (fun y hy => h y (List.mem_cons_of_mem _ hy))⟩
theorem Rgs.wfW {w : World} {v : Value} {l : List (Int × Int)} (h : Rgs w v l) : ∀ x ∈ l, wfI x.1 ∧ wfI x.2 := fun x hx => by
  obtain ⟨i, hi⟩ := List.getElem?_of_mem hx
  obtain ⟨b, o, c, _, w1, w2, _⟩ := h.at hi
  exact ⟨w1, w2⟩
theorem Rgs.rowW {w : World} {b o n c : Nat} {l : List (Int × Int)} (h : Rgs w (.slice (some ⟨b, o, none⟩) n c) l) : ∀ j u, (setV l)[j]? = some u → w.cell? ⟨b, o + j, none⟩ = some u := by
  intro j u hj
  have hjl := (List.getElem?_eq_some_iff.1 hj).1
  rw [setV_length] at hjl
  obtain ⟨x, hx⟩ := gs (l := l) rfl (show j / 2 < l.length by omega)
  obtain ⟨b', o', c', hv, -, -, hcl⟩ := h.at hx
  simp only [Value.slice.injEq, Option.some.injEq, Addr.mk.injEq, and_true] at hv
  obtain ⟨⟨rfl, rfl⟩, -, -⟩ := hv
  obtain ⟨e0, e1⟩ := hcl w (Below.refl _ _)
  obtain ⟨s0, s1⟩ := setV_get l (j / 2) x hx
  rcases Nat.mod_two_eq_zero_or_one j with e | e
  · have ej : j = j / 2 * 2 := by omega
    rw [ej] at hj ⊢
    rw [s0] at hj
    cases hj
    exact e0
  · have ej : j = j / 2 * 2 + 1 := by omega
    rw [ej] at hj ⊢
    rw [s1] at hj
    cases hj
    exact e1
theorem infoRgW : (Tryz.prog.info? 130).map (fun i => (i.zero, i.size, i.bytes)) = some (some (.agg #[.int .i64 0, .int .i64 0]), 2, 16) := by kernel_rfl
theorem infoAtW : (Tryz.prog.info? 24).map (fun i => (i.zero, i.size, i.bytes)) = some (some (.agg #[.int .i64 0, .int .i64 0, .int .i64 0, .int .i64 0, .int .i64 0, .int .i64 0]), 6, 48) := by kernel_rfl
def atV : List At → List Value
  | [] => []
  | x :: l => x.C.toList ++ atV l
theorem atV_len : ∀ l, (atV l).length = l.length * 6
  | [] => rfl
  | x :: l => by
    show (x.C.toList ++ atV l).length = _
    rw [List.length_append, atV_len l, List.length_cons]
    show 6 + _ = _
    omega
theorem atV_one : ∀ (l : List At), ∀ u ∈ atV l, u.oneCell' = true
  | [], u, hu => by cases hu
  | x :: l, u, hu => by
    rcases List.mem_append.1 hu with hu | hu
    · have : u ∈ [Value.int .i64 x.lat, .int .i64 x.fault, .int .i64 x.pos, .int .i64 x.mask, .int .i64 x.ticks, .int .i64 x.value] := hu
      simp only [List.mem_cons, List.not_mem_nil, or_false] at this
      rcases this with rfl | rfl | rfl | rfl | rfl | rfl <;> rfl
    · exact atV_one l u hu
def wfAt (x : At) : Prop := wfI x.lat ∧ wfI x.fault ∧ wfI x.pos ∧ wfI x.mask ∧ wfI x.ticks ∧ wfI x.value
theorem atV_csl {w : World} : ∀ (l : List At), (∀ x ∈ l, wfAt x) → CsL 6 (AtR w) (atV l) l
  | [], _ => rfl
  | x :: l, h => ⟨x.C.toList, atV l, rfl, rfl, ⟨rfl, h x List.mem_cons_self⟩, atV_csl l (fun y hy => h y (List.mem_cons_of_mem _ hy))⟩
theorem atV_get : ∀ {l : List At} {i : Nat} {x : At}, l[i]? = some x → ∀ r, r < 6 → (atV l)[i * 6 + r]? = x.C.toList[r]?
  | [], i, x, h, _, _ => by cases h
  | y :: l, 0, x, h, r, hr => by
    injection h with h
    subst h
    show (y.C.toList ++ atV l)[0 * 6 + r]? = _
    rw [Nat.zero_mul, Nat.zero_add, List.getElem?_append_left (show r < 6 from hr)]
  | y :: l, i + 1, x, h, r, hr => by
    show (y.C.toList ++ atV l)[(i + 1) * 6 + r]? = _
    rw [List.getElem?_append_right (show 6 ≤ _ by omega), show (i + 1) * 6 + r - y.C.toList.length = i * 6 + r by show (i + 1) * 6 + r - 6 = _; omega]
    exact atV_get (by simpa using h) r hr
theorem Ats.wfW {w : World} {v : Value} {l : List At} (h : Ats w v l) : ∀ x ∈ l, wfAt x := fun x hx => by
  obtain ⟨i, hi⟩ := List.getElem?_of_mem hx
  obtain ⟨a, c, rfl, h1, h2, h3, h4⟩ := h
  obtain ⟨b, o, rfl, hel⟩ := h4 (by rintro rfl; simp at hi)
  obtain ⟨r, hr, ⟨-, hw⟩, hc⟩ := hel i x hi
  exact hw
theorem Ats.rowW {w : World} {b o n c : Nat} {l : List At} (h : Ats w (.slice (some ⟨b, o, none⟩) n c) l) : ∀ j u, (atV l)[j]? = some u → w.cell? ⟨b, o + j, none⟩ = some u := by
  intro j u hj
  have hjl := (List.getElem?_eq_some_iff.1 hj).1
  rw [atV_len] at hjl
  obtain ⟨a, c', hv, h1, h2, h3, h4⟩ := h
  simp only [Value.slice.injEq] at hv
  obtain ⟨rfl, rfl, rfl⟩ := hv
  obtain ⟨b', o', e, hel⟩ := h4 (by rintro rfl; simp at hjl)
  cases e
  obtain ⟨i, r, hr, rfl⟩ : ∃ i r, r < 6 ∧ j = i * 6 + r := ⟨j / 6, j % 6, Nat.mod_lt _ (by decide), by omega⟩
  obtain ⟨x, hx⟩ := gs (l := l) rfl (show i < l.length by omega)
  obtain ⟨r', hr', ⟨rfl, -⟩, hc⟩ := hel i x hx
  rw [atV_get hx r hr] at hj
  rw [← Nat.add_assoc]
  exact hc r u hj
def CloneRgPost (w : World) (l : List (Int × Int)) (r : Ending) (w' : World) : Prop := ∃ a c, r = .returned (.slice a l.length c) ∧ w'.ownsRow w.heap.size 130 2 (.slice a l.length c) l.length (setV l) ∧ Below w.heap.size w w'
theorem CloneRgPost.own {w w' : World} {l : List (Int × Int)} {v : Value} {n : Nat} {cs : List Value} (hcs : cs = setV l) (hn : n = l.length) (h : w'.ownsRow w.heap.size 130 2 v n cs) (hb : Below w.heap.size w w') : CloneRgPost w l (.returned v) w' := by
  subst hcs hn
  obtain ⟨a, c, rfl⟩ := own_slice h
  exact ⟨a, c, rfl, h, hb⟩
set_option maxRecDepth 100000 in
set_option maxHeartbeats 1600000 in
theorem cloneRg_any (v : Value) (l : List (Int × Int)) (w : World) (hv : Rgs w v l) (hl : l.length ≤ 1000000) : Calls Tryz.prog 80 #[v] w (CloneRgPost w l) := by
  obtain ⟨i5, hi, hz0, hz1, hz2⟩ := info_parts infoRgW
  obtain ⟨a, c, rfl, hc, hcm, hac, h4⟩ := id hv
  unfold maxLen at hcm
  have hq := Lib.run_eql_slice_nil (P := Tryz.prog)
  cases a with
  | none =>
    obtain rfl := hac rfl
    have hl0 : l.length = 0 := by omega
    have : l = [] := List.eq_nil_of_length_eq_zero hl0
    subst this
    clear hv h4
    go_enter Tryz.func80, Tryz.ntmps80
    go_wp2
    go_ret
    exact CloneRgPost.own (cs := []) (n := 0) rfl rfl (World.ownsRow_nil _ _ _ _) (Below.refl _ _)
  | some a =>
    by_cases hne : l = []
    · subst hne
      clear hv h4
      go_enter Tryz.func80, Tryz.ntmps80
      go_wp2_with (at_builtin; refine wpList_appN rfl _ _ 31 rfl w.heap.size 130 i5 _ 2 16 Tryz.underlying31 hi hz0 hz1 hz2 rfl (by decide) _ 0 [] rfl (World.ownsRow_made _ _ _ (Nat.le_refl _) (by decide) rfl) a 0 c [] rfl rfl (by simp) (by simp) (by unfold maxLen; omega) (by omega) (by simp) ?c3)
      case c3 =>
        intro v' w1 hown hgr _
        have hbel := (bal' w (.cells #[] 130)).grown hgr (bal' w (.cells #[] 130)).size (by intro k hk; simp [Value.ownBlock] at hk; omega)
        have HOWN := hid hown
        clear hgr hown
        go_wp2
        go_ret
        exact CloneRgPost.own (cs := []) (n := 0) rfl rfl (by simpa using HOWN.out) hbel
    · obtain ⟨b, o, hab, -⟩ := h4 hne
      cases hab
      have hcell : Hid (∀ j u, (setV l)[j]? = some u → (w.alloc (.cells #[] 130)).cell? ((⟨b, o, none⟩ : Addr).add j) = some u) := fun j u hj => by
        have e1 : (⟨b, o, none⟩ : Addr).add j = ⟨b, o + j, none⟩ := by unfold Addr.add; split <;> simp_all
        rw [e1]
        exact cell_keep (bal' w _) (hv.rowW j u hj)
      have HL : Hid ((setV l).length = l.length * 2) := setV_length l
      have H1 : Hid (∀ u ∈ setV l, u.oneCell' = true) := setW_one l
      clear hv h4 hne
      go_enter Tryz.func80, Tryz.ntmps80
      go_wp2_with (at_builtin; refine wpList_appN rfl _ _ 31 rfl w.heap.size 130 i5 _ 2 16 Tryz.underlying31 hi hz0 hz1 hz2 rfl (by decide) _ 0 [] rfl (World.ownsRow_made _ _ _ (Nat.le_refl _) (by decide) rfl) ⟨b, o, none⟩ l.length c (setV l) rfl HL.out hcell.out H1.out (by unfold maxLen; omega) (by omega) (by simp) ?c3)
      case c3 =>
        intro v' w1 hown hgr _
        have hbel := (bal' w (.cells #[] 130)).grown hgr (bal' w (.cells #[] 130)).size (by intro k hk; simp [Value.ownBlock] at hk; omega)
        have HOWN := hid (show w1.ownsRow w.heap.size 130 2 v' l.length (setV l) by simpa using hown)
        clear hgr hown
        go_wp2
        go_ret
        exact CloneRgPost.own rfl rfl HOWN.out hbel
def CloneAtPost (w : World) (l : List At) (r : Ending) (w' : World) : Prop := ∃ a c, r = .returned (.slice a l.length c) ∧ w'.ownsRow w.heap.size 24 6 (.slice a l.length c) l.length (atV l) ∧ Below w.heap.size w w'
theorem CloneAtPost.own {w w' : World} {l : List At} {v : Value} {n : Nat} {cs : List Value} (hcs : cs = atV l) (hn : n = l.length) (h : w'.ownsRow w.heap.size 24 6 v n cs) (hb : Below w.heap.size w w') : CloneAtPost w l (.returned v) w' := by
  subst hcs hn
  obtain ⟨a, c, rfl⟩ := own_slice h
  exact ⟨a, c, rfl, h, hb⟩
set_option maxRecDepth 100000 in
set_option maxHeartbeats 1600000 in
theorem cloneAt_any (v : Value) (l : List At) (w : World) (hv : Ats w v l) (hl : l.length ≤ 1000000) : Calls Tryz.prog 55 #[v] w (CloneAtPost w l) := by
  obtain ⟨i5, hi, hz0, hz1, hz2⟩ := info_parts infoAtW
  obtain ⟨a, c, rfl, hc, hcm, hac, h4⟩ := id hv
  unfold maxLen at hcm
  have hq := Lib.run_eql_slice_nil (P := Tryz.prog)
  cases a with
  | none =>
    obtain rfl := hac rfl
    have hl0 : l.length = 0 := by omega
    have : l = [] := List.eq_nil_of_length_eq_zero hl0
    subst this
    clear hv h4
    go_enter Tryz.func55, Tryz.ntmps55
    go_wp2
    go_ret
    exact CloneAtPost.own (cs := []) (n := 0) rfl rfl (World.ownsRow_nil _ _ _ _) (Below.refl _ _)
  | some a =>
    by_cases hne : l = []
    · subst hne
      clear hv h4
      go_enter Tryz.func55, Tryz.ntmps55
      go_wp2_with (at_builtin; refine wpList_appN rfl _ _ 65 rfl w.heap.size 24 i5 _ 6 48 Tryz.underlying65 hi hz0 hz1 hz2 rfl (by decide) _ 0 [] rfl (World.ownsRow_made _ _ _ (Nat.le_refl _) (by decide) rfl) a 0 c [] rfl rfl (by simp) (by simp) (by unfold maxLen; omega) (by omega) (by simp) ?c3)
      case c3 =>
        intro v' w1 hown hgr _
        have hbel := (bal' w (.cells #[] 24)).grown hgr (bal' w (.cells #[] 24)).size (by intro k hk; simp [Value.ownBlock] at hk; omega)
        have HOWN := hid hown
        clear hgr hown
        go_wp2
        go_ret
        exact CloneAtPost.own (cs := []) (n := 0) rfl rfl (by simpa using HOWN.out) hbel
    · obtain ⟨b, o, hab, -⟩ := h4 hne
      cases hab
      have hcell : Hid (∀ j u, (atV l)[j]? = some u → (w.alloc (.cells #[] 24)).cell? ((⟨b, o, none⟩ : Addr).add j) = some u) := fun j u hj => by
        have e1 : (⟨b, o, none⟩ : Addr).add j = ⟨b, o + j, none⟩ := by unfold Addr.add; split <;> simp_all
        rw [e1]
        exact cell_keep (bal' w _) (hv.rowW j u hj)
      have HL : Hid ((atV l).length = l.length * 6) := atV_len l
      have H1 : Hid (∀ u ∈ atV l, u.oneCell' = true) := atV_one l
      clear hv h4 hne
      go_enter Tryz.func55, Tryz.ntmps55
      go_wp2_with (at_builtin; refine wpList_appN rfl _ _ 65 rfl w.heap.size 24 i5 _ 6 48 Tryz.underlying65 hi hz0 hz1 hz2 rfl (by decide) _ 0 [] rfl (World.ownsRow_made _ _ _ (Nat.le_refl _) (by decide) rfl) ⟨b, o, none⟩ l.length c (atV l) rfl HL.out hcell.out H1.out (by unfold maxLen; omega) (by omega) (by simp) ?c3)
      case c3 =>
        intro v' w1 hown hgr _
        have hbel := (bal' w (.cells #[] 24)).grown hgr (bal' w (.cells #[] 24)).size (by intro k hk; simp [Value.ownBlock] at hk; omega)
        have HOWN := hid (show w1.ownsRow w.heap.size 24 6 v' l.length (atV l) by simpa using hown)
        clear hgr hown
        go_wp2
        go_ret
        exact CloneAtPost.own rfl rfl HOWN.out hbel
end Go.Proofs.YtpkheiaanjhffaaGreat
