/-
  Plain lemmas for every program: a frame that names the blocks that may have changed, and an append that also tells where its result lies.
-/
import Derived.Test.YtlaaoifjiogogaaBase
import Derived.Test.YtlaaoifjiogogaaZeros
import Derived.StillTailTactics
namespace Go.Proofs.Ytlaaoifjiogogaa
open Go.RowKit

/-- Of the blocks that were there, only those of F may have changed. -/
structure Keeps (F : Nat → Prop) (w w' : World) : Prop where
  os : w'.os = w.os
  tape : w'.tape = w.tape
  output : w'.output = w.output
  size : w.heap.size ≤ w'.heap.size
  block : ∀ k, k < w.heap.size → ¬ F k → w'.heap[k]? = w.heap[k]?

theorem Keeps.refl (F : Nat → Prop) (w : World) : Keeps F w w := ⟨rfl, rfl, rfl, Nat.le_refl _, fun _ _ _ => rfl⟩
theorem Keeps.of_below {F : Nat → Prop} {w w' : World} (h : Below w.heap.size w w') : Keeps F w w' := ⟨h.os, h.tape, h.output, h.size, fun k hk _ => h.block k hk⟩
theorem Keeps.below {F : Nat → Prop} {w w' : World} {B : Nat} (h : Keeps F w w') (hB : B ≤ w.heap.size) (hF : ∀ k, k < B → ¬ F k) : Below B w w' :=
  ⟨h.os, h.tape, h.output, h.size, fun k hk => h.block k (Nat.lt_of_lt_of_le hk hB) (hF k hk)⟩
theorem Keeps.of_grown {F : Nat → Prop} {w w' : World} {row : Option Nat} (h : w.grownBy w' row) (hF : ∀ k, row = some k → F k) : Keeps F w w' :=
  ⟨h.os, h.tape, h.output, h.size, fun k hk hn => h.block k hk (fun e => hn (hF k e.symm))⟩
theorem Keeps.trans {F G : Nat → Prop} {a b c : World} (h : Keeps F a b) (k : Keeps G b c) (hG : ∀ i, i < a.heap.size → G i → F i) : Keeps F a c :=
  ⟨k.os.trans h.os, k.tape.trans h.tape, k.output.trans h.output, Nat.le_trans h.size k.size,
    fun i hi hn => (k.block i (Nat.lt_of_lt_of_le hi h.size) (fun g => hn (hG i hi g))).trans (h.block i hi hn)⟩
theorem Keeps.set {F : Nat → Prop} {a w : World} (h : Keeps F a w) (p : Addr) (v : Value) (hp : F p.block) : Keeps F a (w.setCell p v) :=
  ⟨h.os, h.tape, h.output, by simp [World.setCell]; exact h.size, fun i hi hn => by
    rw [Below.heap_setCell _ _ _ _ (by rintro rfl; exact hn hp)]; exact h.block i hi hn⟩
theorem Keeps.mono {F G : Nat → Prop} {a w : World} (h : Keeps F a w) (hG : ∀ k, k < a.heap.size → F k → G k) : Keeps G a w :=
  ⟨h.os, h.tape, h.output, h.size, fun i hi hn => h.block i hi (fun f => hn (hG i hi f))⟩
theorem Keeps.cell {F : Nat → Prop} {w w' : World} (h : Keeps F w w') {p : Addr} {v : Value} (hc : w.cell? p = some v) (hp : ¬ F p.block) : w'.cell? p = some v := by
  rw [World.cell?_of_block (w := w) (h.block p.block (cell_lt hc) hp)]; exact hc

/-- A row keeps if its block is not among those that may have changed. -/
theorem own_keeps {w w' : World} {F : Nat → Prop} {base : Nat} {e : TypeId} {size : Nat} {v : Value} {n : Nat} {xs : List Value} (h : w.ownsRow base e size v n xs) (hk : Keeps F w w')
    (hn : ∀ k, v.ownBlock = some k → ¬ F k) : w'.ownsRow base e size v n xs := by
  obtain ⟨hl, h | ⟨g, cap, cur, hv, hg, hh, r⟩⟩ := h
  · exact ⟨hl, .inl h⟩
  · refine ⟨hl, .inr ⟨g, cap, cur, hv, hg, ?_, r⟩⟩
    have hlt : g < w.heap.size := (Array.getElem?_eq_some_iff.1 hh).1
    rw [hk.block g hlt (hn g (by rw [hv]; rfl))]
    exact hh

theorem Bs.keeps {w w' : World} {F : Nat → Prop} {v : Value} {l : List UInt8} (h : Bs w v l) (hk : Keeps F w w') (hn : ∀ k, v.ownBlock = some k → ¬ F k) : Bs w' v l := by
  obtain ⟨a, c, hv, h1, h2, h3, h4⟩ := h
  refine ⟨a, c, hv, h1, h2, h3, fun hl => ?_⟩
  obtain ⟨b, o, ha, hc⟩ := h4 hl
  exact ⟨b, o, ha, fun i hi => hk.cell (hc i hi) (hn b (by rw [hv, ha]; rfl))⟩

theorem own_slice {w : World} {base : Nat} {e : TypeId} {size : Nat} {v : Value} {n : Nat} {xs : List Value} (h : w.ownsRow base e size v n xs) : ∃ a c, v = .slice a n c := by
  obtain ⟨hl, ⟨hv, hn⟩ | ⟨g, cap, cur, hv, _⟩⟩ := h
  · exact ⟨none, 0, by rw [hv, hn]⟩
  · exact ⟨_, _, hv⟩

/-- Where the result of an append lies: where the row lay, or in a new block. -/
def NewOr (w : World) (v v' : Value) : Prop := v'.ownBlock = v.ownBlock ∨ ∃ k, v'.ownBlock = some k ∧ w.heap.size ≤ k

theorem append_where {P : Program} {w : World} {base : Nat} {t ty e : TypeId} {i : TypeInfo} {z : Value} {size bytes : Nat} (ht : P.underlying t = some (.slice e)) (hi : P.info? e = some i) (hz : i.zero = some z)
    (hsize : i.size = size) (hby : i.bytes = bytes) (hzs : z.cells.size = size) (hsz : 0 < size)
    {v : Value} {n : Nat} {xs : List Value} (hown : w.ownsRow base e size v n xs)
    {a : Addr} {m c : Nat} {news : List Value} (hl : news.length = m * size) (hnews : ∀ j u, news[j]? = some u → w.cell? (a.add j) = some u) (h1 : ∀ u ∈ news, u.oneCell' = true)
    (h63 : n + m ≤ maxLen) (hbytes : (n + m) * bytes ≤ 140737488355328) {v' : Value} {w' : World}
    (hr : (Builtin.append_ #[t, t] ty #[v, .slice (some a) m c]).run P w = .ok v' w') : NewOr w v v' := by
  rcases hown.2 with ⟨rfl, rfl⟩ | ⟨g, cap, cur, rfl, hbg, hg, hnc, hcm, hcs, htake⟩
  · have hx : xs = [] := List.eq_nil_of_length_eq_zero (by simpa using hown.1)
    subst hx
    obtain ⟨v2, w2, hr2, h2, _⟩ := run_append_own (P := P) w w.heap.size t ty e i z size bytes ht hi hz hsize hby hzs hsz (.slice none 0 0) 0 [] (World.ownsRow_nil _ _ _ _) a m c news hl hnews h1 h63 hbytes (Nat.le_refl _)
    rw [hr] at hr2
    cases hr2
    rcases h2.2 with ⟨rfl, _⟩ | ⟨g, cap, cur, rfl, hg, _⟩
    · exact .inl rfl
    · exact .inr ⟨g, rfl, hg⟩
  · subst hsize
    by_cases hroom : n + m ≤ cap
    · have hfit : n * i.size + news.length ≤ cur.size := by rw [hl, hcs, ← Nat.add_mul]; exact Nat.mul_le_mul_right _ hroom
      have hr2 := run_append_room (P := P) w t ty e i ht hi g n cap cur hg a m c news hl hnews h1 hroom hfit
      rw [hr] at hr2
      cases hr2
      exact .inl rfl
    · have holds : ∀ j u, xs[j]? = some u → w.cell? ((⟨g, 0, none⟩ : Addr).add j) = some u := hown.cells (g := g) rfl
      subst hby
      simp only [maxLen] at h63
      have hr2 := run_append_grow (P := P) w t ty e i z ht hi hz ⟨g, 0, none⟩ n cap xs hown.1 holds a m c news hl hnews (by omega) (by omega) (growslice_fits (by omega) hbytes)
      rw [hr] at hr2
      cases hr2
      exact .inr ⟨_, rfl, Nat.le_refl _⟩

theorem wpList_appN {P : Program} {w : World} {ops : Array Oper} {rest : List Oper} {o : Oper} {a : Act} {Q : Exit → Act → World → Prop} (hgd : o.guard = none) (s x : Operand) (t : TypeId)
    (ho : o.op = .call { callee := .builtin .append, args := #[s, x], argTypes := #[t, t] })
    (base : Nat) (e : TypeId) (i : TypeInfo) (z : Value) (size bytes : Nat) (ht : P.underlying t = some (.slice e)) (hi : P.info? e = some i) (hz : i.zero = some z)
    (hsize : i.size = size) (hby : i.bytes = bytes) (hzs : z.cells.size = size) (hsz : 0 < size)
    (v : Value) (n : Nat) (xs : List Value) (hs : a.eval s = v) (hown : w.ownsRow base e size v n xs)
    (ad : Addr) (m c : Nat) (news : List Value) (hx : a.eval x = .slice (some ad) m c) (hl : news.length = m * size) (hnews : ∀ j u, news[j]? = some u → w.cell? (ad.add j) = some u) (h1 : ∀ u ∈ news, u.oneCell' = true)
    (h63 : n + m ≤ maxLen) (hbytes : (n + m) * bytes ≤ 140737488355328) (hbase : base ≤ w.heap.size)
    (h : ∀ v' w', w'.ownsRow base e size v' (n + m) (xs ++ news) → w.grownBy w' v.ownBlock → NewOr w v v' → wpList P ops Q rest (a.put o.dst v') w') : wpList P ops Q (o :: rest) a w := by
  refine wpList_plain hgd fun K hK => ?_
  obtain ⟨v', w', hr, h2, h3, _⟩ := run_append_own (P := P) w base t o.type e i z size bytes ht hi hz hsize hby hzs hsz v n xs hown ad m c news hl hnews h1 h63 hbytes hbase
  have h4 := append_where ht hi hz hsize hby hzs hsz hown hl hnews h1 h63 hbytes hr
  unfold Oper.wp execOp
  simp only [ho, resolve, invoke, builtin, Sem.run_bind, Sem.run_pure, Result.andThen_ok, List.map_toArray, List.map_cons, List.map_nil, hs, hx, hr]
  exact hK _ _ (h v' w' h2 h3 h4)

/-- 'append(s, x...)' of bytes, onto a row of the call's own: where the result lies, too. -/
theorem wpList_appB {P : Program} {w : World} {ops : Array Oper} {rest : List Oper} {o : Oper} {a : Act} {Q : Exit → Act → World → Prop} (hgd : o.guard = none) (s x : Operand) (t : TypeId)
    (ho : o.op = .call { callee := .builtin .append, args := #[s, x], argTypes := #[t, t] })
    (base : Nat) (e : TypeId) (i : TypeInfo) (ht : P.underlying t = some (.slice e)) (hi : P.info? e = some i) (hz : i.zero = some (.int .u8 0))
    (hsize : i.size = 1) (hby : i.bytes = 1)
    (v : Value) (xs : List UInt8) (hs : a.eval s = v) (hown : w.ownsRow base e 1 v xs.length (u8s xs))
    (y : Value) (ys : List UInt8) (hx : a.eval x = y) (hy : Bs w y ys) (hlen : xs.length + ys.length ≤ 140737488355328) (hbase : base ≤ w.heap.size)
    (h : ∀ v' w', w'.ownsRow base e 1 v' (xs.length + ys.length) (u8s (xs ++ ys)) → w.grownBy w' v.ownBlock → NewOr w v v' → wpList P ops Q rest (a.put o.dst v') w') : wpList P ops Q (o :: rest) a w := by
  obtain ⟨ad, c, rfl, h1, h2, h3, h4⟩ := hy
  by_cases hn : ys = []
  · subst hn
    cases ad with
    | none =>
      obtain rfl := h3 rfl
      exact wpList_append_own_none hgd s x t ho base e i 1 ht hi v xs.length (u8s xs) hs hown hx (h v w (by simpa using hown) (World.grownBy.refl _ _) (.inl rfl))
    | some ad =>
      exact wpList_appN hgd s x t ho base e i _ 1 1 ht hi hz hsize hby rfl (by decide) v xs.length (u8s xs) hs hown ad 0 c [] hx rfl (by simp) (by simp) (by unfold maxLen; simp at hlen; omega) (by simp at hlen; omega) hbase
        (fun v' w' p q r => h v' w' (by simpa using p) q r)
  · obtain ⟨b, off, rfl, hc⟩ := h4 hn
    refine wpList_appN hgd s x t ho base e i _ 1 1 ht hi hz hsize hby rfl (by decide) v xs.length (u8s xs) hs hown ⟨b, off, none⟩ ys.length c (u8s ys) hx (by simp) ?_ (one_u8s ys) (by unfold maxLen; omega) (by omega) hbase
        (fun v' w' p q r => h v' w' (by rw [u8s_append]; exact p) q r)
    intro j u hj
    have hjl : j < ys.length := by
      have := (List.getElem?_eq_some_iff.1 hj).1
      simpa using this
    rw [u8s_get ys j hjl] at hj
    have e1 : (⟨b, off, none⟩ : Addr).add j = ⟨b, off + j, none⟩ := by unfold Addr.add; split <;> simp_all
    rw [e1, hc j hjl]
    exact hj

/-- The same, as a step of a statement whose order is open. -/
theorem step_appB {P : Program} {w : World} {ops : Array Oper} {o : Oper} {a : Act} {K : Act → World → Prop} {Q : Exit → Act → World → Prop} {E : Prop} (hgd : o.guard = none) (s x : Operand) (t : TypeId)
    (ho : o.op = .call { callee := .builtin .append, args := #[s, x], argTypes := #[t, t] })
    (base : Nat) (e : TypeId) (i : TypeInfo) (ht : P.underlying t = some (.slice e)) (hi : P.info? e = some i) (hz : i.zero = some (.int .u8 0))
    (hsize : i.size = 1) (hby : i.bytes = 1)
    (v : Value) (xs : List UInt8) (hs : a.eval s = v) (hown : w.ownsRow base e 1 v xs.length (u8s xs))
    (y : Value) (ys : List UInt8) (hx : a.eval x = y) (hy : Bs w y ys) (hlen : xs.length + ys.length ≤ 140737488355328) (hbase : base ≤ w.heap.size)
    (h : ∀ v' w', w'.ownsRow base e 1 v' (xs.length + ys.length) (u8s (xs ++ ys)) → w.grownBy w' v.ownBlock → NewOr w v v' → K (a.put o.dst v') w') :
    if Region.wanted o (yielded ops a.tmps) = true then Oper.wp P o a w K Q else E := by
  have hw : Region.wanted o (yielded ops a.tmps) = true := by simp [Region.wanted, hgd]
  rw [if_pos hw]
  obtain ⟨ad, c, rfl, h1, h2, h3, h4⟩ := hy
  unfold Oper.wp
  have fin : ∀ v' w', (Builtin.append_ #[t, t] o.type #[v, .slice ad ys.length c]).run P w = .ok v' w' → w'.ownsRow base e 1 v' (xs.length + ys.length) (u8s (xs ++ ys)) → w.grownBy w' v.ownBlock → NewOr w v v' →
      o.upon P a K Q ((execOp a.eval o).run P w) := by
    intro v' w' hr h2 h3 h4
    unfold execOp
    simp only [ho, resolve, invoke, builtin, Sem.run_bind, Sem.run_pure, Result.andThen_ok, List.map_toArray, List.map_cons, List.map_nil, hs, hx, hr]
    exact h v' w' h2 h3 h4
  by_cases hn : ys = []
  · subst hn
    cases ad with
    | none =>
      obtain rfl := h3 rfl
      have hrun := run_append_owned_none (P := P) (w := w) base t o.type e i 1 ht hi v xs.length (u8s xs) hown
      exact fin v w hrun (by simpa using hown) (World.grownBy.refl _ _) (.inl rfl)
    | some ad =>
      obtain ⟨v', w', hr, g2, g3, _⟩ := run_append_own (P := P) w base t o.type e i _ 1 1 ht hi hz hsize hby rfl (by decide) v xs.length (u8s xs) hown ad 0 c [] rfl (by simp) (by simp) (by unfold maxLen; simp at hlen; omega) (by simp at hlen; omega) hbase
      have g4 := append_where ht hi hz hsize hby rfl (by decide) hown (m := 0) (news := []) rfl (by simp) (by simp) (by unfold maxLen; simp at hlen; omega) (by simp at hlen; omega) hr
      exact fin v' w' hr (by simpa using g2) g3 g4
  · obtain ⟨b, off, rfl, hc⟩ := h4 hn
    have hnews : ∀ j u, (u8s ys)[j]? = some u → w.cell? ((⟨b, off, none⟩ : Addr).add j) = some u := by
      intro j u hj
      have hjl : j < ys.length := by
        have := (List.getElem?_eq_some_iff.1 hj).1
        simpa using this
      rw [u8s_get ys j hjl] at hj
      have e1 : (⟨b, off, none⟩ : Addr).add j = ⟨b, off + j, none⟩ := by unfold Addr.add; split <;> simp_all
      rw [e1, hc j hjl]
      exact hj
    obtain ⟨v', w', hr, g2, g3, _⟩ := run_append_own (P := P) w base t o.type e i _ 1 1 ht hi hz hsize hby rfl (by decide) v xs.length (u8s xs) hown ⟨b, off, none⟩ ys.length c (u8s ys) (by simp) hnews (one_u8s ys) (by unfold maxLen; omega) (by omega) hbase
    have g4 := append_where ht hi hz hsize hby rfl (by decide) hown (by simp) hnews (one_u8s ys) (by unfold maxLen; omega) (by omega) hr
    exact fin v' w' hr (by rw [u8s_append]; exact g2) g3 g4

end Go.Proofs.Ytlaaoifjiogogaa
