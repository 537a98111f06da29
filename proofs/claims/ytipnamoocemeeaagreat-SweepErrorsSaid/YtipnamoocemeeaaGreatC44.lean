/-
  Texts 44 of the claim.
-/
import Derived.Test.YtipnamoocemeeaaGreatC42
import Derived.Test.YtipnamoocemeeaaGreatC43
/-
  SweepErrors: a sweep that hears nothing, and the row of its outcomes. An append leaves the old row as it was.
-/
namespace Go.Proofs.YtipnamoocemeeaaGreat
open Go.RowKit
/-- The old row still reads behind an append to it. -/
theorem append_old {P : Program} {w : World} {base : Nat} {t ty e : TypeId} {i : TypeInfo} {z : Value} {size bytes : Nat} (ht : P.underlying t = some (.slice e)) (hi : P.info? e = some i) (hz : i.zero = some z)
    (hsize : i.size = size) (hby : i.bytes = bytes)
    {v : Value} {n : Nat} {xs : List Value} (hown : w.ownsRow base e size v n xs)
    {a : Addr} {m c : Nat} {news : List Value} (hl : news.length = m * size) (hnews : ∀ j u, news[j]? = some u → w.cell? (a.add j) = some u) (h1 : ∀ u ∈ news, u.oneCell' = true)
    (h63 : n + m ≤ maxLen) (hbytes : (n + m) * bytes ≤ 140737488355328) {v' : Value} {w' : World}
    (hr : (Builtin.append_ #[t, t] ty #[v, .slice (some a) m c]).run P w = .ok v' w') : w'.ownsRow base e size v n xs := by
  rcases hown.2 with ⟨rfl, rfl⟩ | ⟨g, cap, cur, rfl, hbg, hg, hnc, hcm, hcs, htake⟩
  · have hx : xs = [] := List.eq_nil_of_length_eq_zero (by simpa using hown.1)
    subst hx
    exact World.ownsRow_nil _ _ _ _
  · subst hsize
    by_cases hroom : n + m ≤ cap
    · have hfit : n * i.size + news.length ≤ cur.size := by rw [hl, hcs, ← Nat.add_mul]; exact Nat.mul_le_mul_right _ hroom
      have hr2 := run_append_room (P := P) w t ty e i ht hi g n cap cur hg a m c news hl hnews h1 hroom hfit
      rw [hr] at hr2
      cases hr2
      have hx : xs.length = n * i.size := hown.1
      refine ⟨hown.1, .inr ⟨g, cap, _, rfl, hbg, setRow_heap w g cur _ e _ hg, hnc, hcm, ?_, ?_⟩⟩
      · simp only [List.size_toArray, List.length_append, List.length_take, List.length_drop, Array.length_toList]
        omega
      · rw [htake, List.append_assoc, ← hx]
        exact List.take_left
    · have holds : ∀ j u, xs[j]? = some u → w.cell? ((⟨g, 0, none⟩ : Addr).add j) = some u := hown.cells (g := g) rfl
      subst hby
      simp only [maxLen] at h63
      have hr2 := run_append_grow (P := P) w t ty e i z ht hi hz ⟨g, 0, none⟩ n cap xs hown.1 holds a m c news hl hnews (by omega) (by omega) (growslice_fits (by omega) hbytes)
      rw [hr] at hr2
      cases hr2
      exact own_keeps (F := fun _ => False) hown (Keeps.of_below ((Below.refl _ _).drew.alloc (Nat.le_refl _) _)) (fun _ _ e => e)

/-- The same as a step of a statement whose order is open. -/
theorem step_appO {P : Program} {w : World} {ops : Array Oper} {op : Oper} {a : Act} {K : Act → World → Prop} {Q : Exit → Act → World → Prop} {E : Prop} (hgd : op.guard = none) (s x : Operand) (t : TypeId)
    (ho : op.op = .call { callee := .builtin .append, args := #[s, x], argTypes := #[t, t] })
    (base : Nat) (e : TypeId) (i : TypeInfo) (z : Value) (size bytes : Nat) (ht : P.underlying t = some (.slice e)) (hi : P.info? e = some i) (hz : i.zero = some z)
    (hsize : i.size = size) (hby : i.bytes = bytes) (hzs : z.cells.size = size) (hsz : 0 < size)
    (v : Value) (n : Nat) (xs : List Value) (hs : a.eval s = v) (hown : w.ownsRow base e size v n xs)
    (ad : Addr) (m c : Nat) (news : List Value) (hx : a.eval x = .slice (some ad) m c) (hl : news.length = m * size) (hnews : ∀ j u, news[j]? = some u → w.cell? (ad.add j) = some u) (h1 : ∀ u ∈ news, u.oneCell' = true)
    (h63 : n + m ≤ maxLen) (hbytes : (n + m) * bytes ≤ 140737488355328) (hbase : base ≤ w.heap.size)
    (h : ∀ v' w', w'.ownsRow base e size v' (n + m) (xs ++ news) → w.grownBy w' v.ownBlock → NewOr w v v' → w'.ownsRow base e size v n xs → K (a.put op.dst v') w') :
    if Region.wanted op (yielded ops a.tmps) = true then Oper.wp P op a w K Q else E := by
  rw [if_pos (by simp [Region.wanted, hgd])]
  obtain ⟨v', w', hr, h2, h3, _⟩ := run_append_own (P := P) w base t op.type e i z size bytes ht hi hz hsize hby hzs hsz v n xs hown ad m c news hl hnews h1 h63 hbytes hbase
  have h4 := append_where ht hi hz hsize hby hzs hsz hown hl hnews h1 h63 hbytes hr
  have h5 := append_old ht hi hz hsize hby hown hl hnews h1 h63 hbytes hr
  unfold Oper.wp execOp
  simp only [ho, resolve, invoke, builtin, Sem.run_bind, Sem.run_pure, Result.andThen_ok, List.map_toArray, List.map_cons, List.map_nil, hs, hx, hr]
  exact h v' w' h2 h3 h4 h5

/-- A sweep that has heard nothing k times. -/
def swX (k : Nat) : Sp := ⟨k, Pb0, [], k⟩
theorem swX_open (c : Cf) (k : Nat) (h : k < c.units) : (swX k).done c = false := by
  unfold Sp.done
  rw [decide_eq_false_iff_not]
  show ¬ c.units ≤ k
  omega
theorem swX_shut (c : Cf) : (swX c.units).done c = true := by
  unfold Sp.done
  rw [decide_eq_true_eq]
  exact Nat.le_refl _
theorem swX_feed (c : Cf) (k : Nat) (h : k < c.units) : (swX k).feed c (oN 3) = swX (k + 1) := by
  unfold Sp.feed
  rw [if_neg (by rw [swX_open c k h]; decide)]
  rfl
theorem swX_gd (c : Cf) (hw : WinOk c.win) : ∀ k, k ≤ c.units → SpGd c (swX k) k
  | 0, _ => SpGd.ini c
  | k + 1, h => by
    rw [← swX_feed c k (by omega)]
    exact (swX_gd c hw k (by omega)).feed hw (oN_fit 3)
theorem swX_run (c : Cf) : ∀ k, k ≤ c.units → feedsE c Sp.ini (List.replicate k (oN 3)) = some (swX k)
  | 0, _ => rfl
  | k + 1, h => by
    rw [List.replicate_succ', feedsE_snoc (swX_run c k (by omega)), if_neg (by rw [swX_open c k (by omega)]; decide), swX_feed c k (by omega)]
theorem swX_over (c : Cf) (O : Oc) : feedsE c Sp.ini (List.replicate c.units (oN 3) ++ [O]) = none := by
  rw [feedsE_snoc (swX_run c _ (Nat.le_refl _)), if_pos (swX_shut c)]
/-- The cells of m silent outcomes. -/
def silC : Nat → List Value
  | 0 => []
  | m + 1 => silC m ++ (#[.int .i64 3, .int .i64 0, .int .i64 0, .slice none 0 0, .int .i64 0, .int .i64 0, .bool false, .int .i64 0, .slice none 0 0] : Array Value).toList
theorem silC_len : ∀ m, (silC m).length = m * 9
  | 0 => rfl
  | m + 1 => by
    show (silC m ++ _).length = _
    rw [List.length_append, silC_len m]
    show m * 9 + 9 = _
    omega
theorem silC_get : ∀ (m k j : Nat), k < m → j < 9 → (silC m)[k * 9 + j]? = (#[.int .i64 3, .int .i64 0, .int .i64 0, .slice none 0 0, .int .i64 0, .int .i64 0, .bool false, .int .i64 0, .slice none 0 0] : Array Value).toList[j]?
  | 0, _, _, h, _ => absurd h (Nat.not_lt_zero _)
  | m + 1, k, j, h, hj => by
    show (silC m ++ (#[.int .i64 3, .int .i64 0, .int .i64 0, .slice none 0 0, .int .i64 0, .int .i64 0, .bool false, .int .i64 0, .slice none 0 0] : Array Value).toList)[k * 9 + j]? = _
    have hl := silC_len m
    by_cases e : k = m
    · subst e
      rw [List.getElem?_append_right (by omega), hl]
      congr 1
      omega
    · rw [List.getElem?_append_left (by omega)]
      exact silC_get m k j (by omega) hj
theorem oN_row (W : World) : OcR W (#[.int .i64 3, .int .i64 0, .int .i64 0, .slice none 0 0, .int .i64 0, .int .i64 0, .bool false, .int .i64 0, .slice none 0 0] : Array Value).toList (oN 3) := ⟨none, 0, none, 0, rfl, Bs.nil _, Obs.nil _, by show (0 : Int) ≤ _; decide, by show _ ≤ (0 : Int); decide⟩
theorem silC_rows (W : World) : ∀ m, CsL 9 (OcR W) (silC m) (List.replicate m (oN 3))
  | 0 => rfl
  | m + 1 => by
    rw [List.replicate_succ']
    exact CsL.snoc rfl (oN_row W) _ _ (silC_rows W m)
theorem ocn_one : ∀ u ∈ (#[.int .i64 3, .int .i64 0, .int .i64 0, .slice none 0 0, .int .i64 0, .int .i64 0, .bool false, .int .i64 0, .slice none 0 0] : Array Value).toList, u.oneCell' = true := by
  intro u hu
  simp only [List.mem_cons, List.not_mem_nil, or_false] at hu
  rcases hu with rfl | rfl | rfl | rfl | rfl | rfl | rfl | rfl | rfl <;> rfl

/-- The sweep that has heard nothing k times, and a row of m silent outcomes. -/
structure SeRel (w : World) (P : Nat → Prop) (wr : World) (g : Nat) (c : Cf) (k m : Nat) (v : Value) : Prop where
  a : SwAt P wr g c (swX k)
  lo : ∀ j, P j → w.heap.size ≤ j ∧ j < wr.heap.size
  own : wr.ownsRow w.heap.size 55 9 v m (silC m)
  dn : ∀ j, v.ownBlock = some j → ¬ P j
  bel : Below w.heap.size w wr
theorem SeRel.keep {w : World} {P : Nat → Prop} {wr W : World} {g : Nat} {c : Cf} {k m : Nat} {v : Value} (h : SeRel w P wr g c k m v) (hb : Below wr.heap.size wr W) : SeRel w P W g c k m v :=
  ⟨h.a.keep (F := fun _ => False) (Keeps.of_below hb) (fun _ _ e => e.elim), fun j hj => ⟨(h.lo j hj).1, Nat.lt_of_lt_of_le (h.lo j hj).2 hb.size⟩, own_keeps (F := fun _ => False) h.own (Keeps.of_below hb) (fun _ _ e => e), h.dn, bt h.bel hb (Nat.le_refl _)⟩
theorem SeRel.ocs {w : World} {P : Nat → Prop} {wr : World} {g : Nat} {c : Cf} {k m : Nat} {v : Value} (h : SeRel w P wr g c k m v) : Ocs wr v (List.replicate m (oN 3)) :=
  Sls.of_own h.own (silC_rows wr m) (List.length_replicate ..)
theorem SeRel.at {w : World} {P : Nat → Prop} {wr : World} {g : Nat} {c : Cf} {k m n : Nat} {a : Option Addr} {cc : Nat} (h : SeRel w P wr g c k m (.slice a n cc)) (i : Nat) (hi : i < m) : n = m ∧ ∃ b, a = some ⟨b, 0, none⟩ ∧ ∀ j u, j < 9 → (#[.int .i64 3, .int .i64 0, .int .i64 0, .slice none 0 0, .int .i64 0, .int .i64 0, .bool false, .int .i64 0, .slice none 0 0] : Array Value).toList[j]? = some u → wr.cell? ⟨b, i * 9 + j, none⟩ = some u := by
  obtain ⟨hn, b, ha, hc⟩ := own_cells h.own (by omega)
  refine ⟨hn, b, ha, fun j u hj hu => ?_⟩
  have h2 := hc (i * 9 + j) u (by rw [silC_get m i j hi hj]; exact hu)
  have e : (⟨b, 0, none⟩ : Addr).add (i * 9 + j) = ⟨b, i * 9 + j, none⟩ := by unfold Addr.add; split <;> simp_all
  rw [e] at h2
  exact h2
/-- The row bears one outcome more. -/
theorem SeRel.app {w : World} {P : Nat → Prop} {wr w6 w7 : World} {g : Nat} {c : Cf} {k m : Nat} {v v7 : Value} (h : SeRel w P wr g c k m v) (hb : Below wr.heap.size wr w6) (hgr : w6.grownBy w7 v.ownBlock) (hnew : NewOr w6 v v7)
    (hown7 : w7.ownsRow w.heap.size 55 9 v7 (m + 1) (silC m ++ (#[.int .i64 3, .int .i64 0, .int .i64 0, .slice none 0 0, .int .i64 0, .int .i64 0, .bool false, .int .i64 0, .slice none 0 0] : Array Value).toList)) : SeRel w P w7 g c k (m + 1) v7 := by
  have z6 := hb.size
  have hkg : Keeps (fun j => v.ownBlock = some j) w6 w7 := Keeps.of_grown hgr (fun j e => e)
  have z7 := hkg.size
  have hvlt : ∀ j, v.ownBlock = some j → w.heap.size ≤ j ∧ j < wr.heap.size := fun j hj => h.own.lt j hj
  refine ⟨(h.keep hb).a.keep hkg (fun j _ e hP => h.dn j e hP), fun j hj => ?_, hown7, fun j hj hP => ?_, ?_⟩
  · have := h.lo j hj; omega
  · rcases hnew with e | ⟨i, e, e2⟩
    · exact h.dn j (by rw [← e]; exact hj) hP
    · rw [hj] at e
      cases e
      have := (h.lo j hP).2
      omega
  · have b6 := bt h.bel hb (Nat.le_refl _)
    exact b6.trans (hkg.below b6.size (fun j hj e => by have := (hvlt j e).1; omega))
/-- The old row goes on to be read behind an append to it. -/
theorem SeRel.old {w : World} {P : Nat → Prop} {wr w6 w7 : World} {g : Nat} {c : Cf} {k m : Nat} {v : Value} (h : SeRel w P wr g c k m v) (hb : Below wr.heap.size wr w6) (hgr : w6.grownBy w7 v.ownBlock)
    (hold : w7.ownsRow w.heap.size 55 9 v m (silC m)) : SeRel w P w7 g c k m v := by
  have z6 := hb.size
  have hkg : Keeps (fun j => v.ownBlock = some j) w6 w7 := Keeps.of_grown hgr (fun j e => e)
  have z7 := hkg.size
  have hvlt : ∀ j, v.ownBlock = some j → w.heap.size ≤ j ∧ j < wr.heap.size := fun j hj => h.own.lt j hj
  refine ⟨(h.keep hb).a.keep hkg (fun j _ e hP => h.dn j e hP), fun j hj => ?_, hold, h.dn, ?_⟩
  · have := h.lo j hj; omega
  · have b6 := bt h.bel hb (Nat.le_refl _)
    exact b6.trans (hkg.below b6.size (fun j hj e => by have := (hvlt j e).1; omega))
/-- The sweep hears nothing once more. -/
theorem SeRel.fed {w : World} {P : Nat → Prop} {wr w' : World} {g : Nat} {c : Cf} {k m : Nat} {v : Value} (h : SeRel w P wr g c k m v) (hs : SwAt (Grw P wr w') w' g c (swX (k + 1))) (hk : Keeps P wr w') : SeRel w (Grw P wr w') w' g c (k + 1) m v := by
  have z := hk.size
  refine ⟨hs, fun j hj => ?_, own_keeps h.own hk (fun j e hP => h.dn j e hP), fun j hj hP => ?_, h.bel.trans (hk.below h.bel.size (fun j hj e => by have := (h.lo j e).1; omega))⟩
  · rcases hj with e | e
    · have := h.lo j e; omega
    · have := h.bel.size; omega
  · rcases hP with e | e
    · exact h.dn j hj e
    · have := (h.own.lt j hj).2; omega

end Go.Proofs.YtipnamoocemeeaaGreat
