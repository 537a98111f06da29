/-
  Plain lemmas for every program: blocks and their cells; an append of elements of any size as a step of a statement whose order is open.
-/
import Derived.Test.YtlaaoifjiogogaaObj
import Derived.Deep.MidRow
namespace Go.Proofs.Ytlaaoifjiogogaa
open Go.RowKit

theorem hpCell {w : World} {b : Nat} {c : Array Value} {t : TypeId} {fz : Nat × Nat} (h : w.heap[b]? = some (.cells c t fz)) (i : Nat) : w.cell? ⟨b, i, none⟩ = c[i]? := by simp [World.cell?, h]
theorem hpFree {w : World} {b : Nat} {c : Array Value} {t : TypeId} (h : w.heap[b]? = some (.cells c t (0, 0))) (i : Nat) : w.frozen? ⟨b, i, none⟩ = false := by simp [World.frozen?, h]
theorem hpSet {w : World} {b : Nat} {c : Array Value} {t : TypeId} {fz : Nat × Nat} (h : w.heap[b]? = some (.cells c t fz)) (i : Nat) (u : Value) :
    (w.setCell ⟨b, i, none⟩ u).heap[b]? = some (.cells (c.setIfInBounds i u) t fz) := by
  simp [World.setCell, Array.getElem?_modify, h]
theorem hpOther {w : World} {b k i : Nat} {u : Value} (h : k ≠ b) : (w.setCell ⟨b, i, none⟩ u).heap[k]? = w.heap[k]? := Below.heap_setCell _ _ _ _ h
theorem hpLt {w : World} {b : Nat} {o : Obj} (h : w.heap[b]? = some o) : b < w.heap.size := (Array.getElem?_eq_some_iff.1 h).1
theorem hpNew (w : World) (o : Obj) : (w.alloc o).heap[w.heap.size]? = some o := heap_alloc_new _ _
theorem hpKeep {w w' : World} {b : Nat} {o : Obj} (h : w.heap[b]? = some o) (hb : Below w.heap.size w w') : w'.heap[b]? = some o := by rw [hb.block _ (hpLt h)]; exact h
theorem hpKeeps {w w' : World} {F : Nat → Prop} {b : Nat} {o : Obj} (h : w.heap[b]? = some o) (hk : Keeps F w w') (hn : ¬ F b) : w'.heap[b]? = some o := by rw [hk.block _ (hpLt h) hn]; exact h

theorem Bs.keepF {w w' : World} {F : Nat → Prop} {a : Option Addr} {n c : Nat} {l : List UInt8} (h : Bs w (.slice a n c) l) (hk : Keeps F w w') (hn : ∀ ad, a = some ad → ¬ F ad.block) : Bs w' (.slice a n c) l := by
  obtain ⟨a', c', hv, h1, h2, h3, h4⟩ := h
  cases hv
  refine ⟨a, c, rfl, h1, h2, h3, fun hl => ?_⟩
  obtain ⟨b, o, ha, hc⟩ := h4 hl
  exact ⟨b, o, ha, fun i hi => hk.cell (hc i hi) (show ¬ F b from hn _ ha)⟩

theorem Bs.blockLt {w : World} {a : Option Addr} {n c : Nat} {l : List UInt8} (h : Bs w (.slice a n c) l) (hl : l ≠ []) : ∀ ad, a = some ad → ad.block < w.heap.size := by
  obtain ⟨a', c', hv, h1, h2, h3, h4⟩ := h
  cases hv
  obtain ⟨b, o, ha, hc⟩ := h4 hl
  intro ad had
  rw [ha] at had
  cases had
  exact cell_lt (hc 0 (by cases l with | nil => exact absurd rfl hl | cons x l => simp))

/-- An append of elements, as a step of a statement whose order is open. -/
theorem step_appN {P : Program} {w : World} {ops : Array Oper} {o : Oper} {a : Act} {K : Act → World → Prop} {Q : Exit → Act → World → Prop} {E : Prop} (hgd : o.guard = none) (s x : Operand) (t : TypeId)
    (ho : o.op = .call { callee := .builtin .append, args := #[s, x], argTypes := #[t, t] })
    (base : Nat) (e : TypeId) (i : TypeInfo) (z : Value) (size bytes : Nat) (ht : P.underlying t = some (.slice e)) (hi : P.info? e = some i) (hz : i.zero = some z)
    (hsize : i.size = size) (hby : i.bytes = bytes) (hzs : z.cells.size = size) (hsz : 0 < size)
    (v : Value) (n : Nat) (xs : List Value) (hs : a.eval s = v) (hown : w.ownsRow base e size v n xs)
    (ad : Addr) (m c : Nat) (news : List Value) (hx : a.eval x = .slice (some ad) m c) (hl : news.length = m * size) (hnews : ∀ j u, news[j]? = some u → w.cell? (ad.add j) = some u) (h1 : ∀ u ∈ news, u.oneCell' = true)
    (h63 : n + m ≤ maxLen) (hbytes : (n + m) * bytes ≤ 140737488355328) (hbase : base ≤ w.heap.size)
    (h : ∀ v' w', w'.ownsRow base e size v' (n + m) (xs ++ news) → w.grownBy w' v.ownBlock → NewOr w v v' → K (a.put o.dst v') w') :
    if Region.wanted o (yielded ops a.tmps) = true then Oper.wp P o a w K Q else E := by
  have hw : Region.wanted o (yielded ops a.tmps) = true := by simp [Region.wanted, hgd]
  rw [if_pos hw]
  obtain ⟨v', w', hr, h2, h3, _⟩ := run_append_own (P := P) w base t o.type e i z size bytes ht hi hz hsize hby hzs hsz v n xs hown ad m c news hl hnews h1 h63 hbytes hbase
  have h4 := append_where ht hi hz hsize hby hzs hsz hown hl hnews h1 h63 hbytes hr
  unfold Oper.wp execOp
  simp only [ho, resolve, invoke, builtin, Sem.run_bind, Sem.run_pure, Result.andThen_ok, List.map_toArray, List.map_cons, List.map_nil, hs, hx, hr]
  exact h v' w' h2 h3 h4

theorem hpSetCells (b : Nat) (t : TypeId) (fz : Nat × Nat) : ∀ (vs : List Value) (o : Nat) (w : World) (c : Array Value), w.heap[b]? = some (.cells c t fz) → o + vs.length ≤ c.size →
    (w.setCells b o vs).heap[b]? = some (.cells (c.toList.take o ++ vs ++ c.toList.drop (o + vs.length)).toArray t fz)
  | [], o, w, c, h, _ => by
    show w.heap[b]? = _
    rw [h]
    simp
  | v :: r, o, w, c, h, hl => by
    have h1 := hpSet h o v
    have h2 := hpSetCells b t fz r (o + 1) (w.setCell ⟨b, o, none⟩ v) _ h1 (by simp at hl ⊢; omega)
    show ((w.setCell ⟨b, o, none⟩ v).setCells b (o + 1) r).heap[b]? = _
    rw [h2]
    have hlt : o < c.toList.length := by simp at hl ⊢; omega
    have e : ((c.setIfInBounds o v).toList.take (o + 1) ++ r ++ (c.setIfInBounds o v).toList.drop (o + 1 + r.length)) = (c.toList.take o ++ v :: r ++ c.toList.drop (o + (v :: r).length)) := by
      rw [Array.toList_setIfInBounds, List.take_set, List.drop_set_of_lt (by omega), List.length_cons, show o + 1 + r.length = o + (r.length + 1) by omega]
      congr 1
      rw [List.take_succ_eq_append_getElem hlt, List.set_append_right _ _ (by simp; omega)]
      simp
      rw [show o - min o c.size = 0 by simp at hlt; omega]
      rfl
    rw [e]

theorem keepsCells (b : Nat) : ∀ (vs : List Value) (o : Nat) (w : World), Keeps (· = b) w (w.setCells b o vs) ∧ (w.setCells b o vs).heap.size = w.heap.size
  | [], o, w => ⟨Keeps.refl _ _, rfl⟩
  | v :: r, o, w => by
    obtain ⟨h1, h2⟩ := keepsCells b r (o + 1) (w.setCell ⟨b, o, none⟩ v)
    refine ⟨Keeps.trans ((Keeps.refl _ _).set ⟨b, o, none⟩ v rfl) h1 (fun _ _ h => h), ?_⟩
    show ((w.setCell ⟨b, o, none⟩ v).setCells b (o + 1) r).heap.size = _
    rw [h2]
    simp [World.setCell]

/-- A whole structure stored into a block that is known whole: behind it the world is a letter again. -/
theorem wpList_storeW {P : Program} {w : World} {ops : Array Oper} {rest : List Oper} {op : Oper} {a : Act} {Q : Exit → Act → World → Prop} (hgd : op.guard = none) (ty : TypeId) (x y : Operand) (ho : op.op = .store ty x y)
    (p o : Nat) (old : Array Value) (t : TypeId) (cells : Array Value) (hx : a.eval x = .pointer (some ⟨p, o, none⟩)) (hy : a.eval y = .agg cells)
    (hb : w.heap[p]? = some (.cells old t (0, 0))) (hsz : o + cells.size ≤ old.size) (hi : (P.info? ty).map (·.size) = some cells.size) (h1 : cells.toList.all (·.oneCell') = true)
    (h : ∀ w', w'.heap[p]? = some (.cells (old.toList.take o ++ cells.toList ++ old.toList.drop (o + cells.toList.length)).toArray t (0, 0)) → Keeps (· = p) w w' → w'.heap.size = w.heap.size → wpList P ops Q rest (a.put op.dst undef) w') :
    wpList P ops Q (op :: rest) a w := by
  refine wpList_store_mid hgd ty x y ho p o cells hx hy (fun j hj => ?_) hi (by rw [← Array.all_toList]; exact h1) ?_
  · refine ⟨?_, hpFree hb _⟩
    rw [hpCell hb]
    simp
    omega
  · obtain ⟨k1, k2⟩ := keepsCells p cells.toList o w
    exact h _ (hpSetCells p t (0, 0) cells.toList o w old hb (by simpa using hsz)) k1 k2

theorem newsNew (w : World) (cs : List Value) (t : TypeId) : ∀ j u, cs[j]? = some u → (w.alloc (.cells cs.toArray t)).cell? ((⟨w.heap.size, 0, none⟩ : Addr).add j) = some u := by
  intro j u h
  have e : (⟨w.heap.size, 0, none⟩ : Addr).add j = ⟨w.heap.size, j, none⟩ := by unfold Addr.add; split <;> simp_all
  rw [e, hpCell (hpNew w _)]
  simpa using h

/-- Two worlds that agree in the blocks from B on. -/
structure Agree (B : Nat) (w W : World) : Prop where
  size : w.heap.size ≤ W.heap.size
  block : ∀ k, B ≤ k → k < w.heap.size → W.heap[k]? = w.heap[k]?
theorem Agree.refl (B : Nat) (w : World) : Agree B w w := ⟨Nat.le_refl _, fun _ _ _ => rfl⟩
theorem Agree.of_keeps {B : Nat} {F : Nat → Prop} {w W : World} (h : Keeps F w W) (hF : ∀ k, F k → k < B) : Agree B w W :=
  ⟨h.size, fun k hk hl => h.block k hl (fun f => by have := hF k f; omega)⟩
theorem Agree.of_below {B : Nat} {w W : World} (h : Below w.heap.size w W) : Agree B w W := ⟨h.size, fun k _ hl => h.block k hl⟩
theorem Agree.trans {B : Nat} {w W X : World} (h : Agree B w W) (k : Agree B W X) : Agree B w X :=
  ⟨Nat.le_trans h.size k.size, fun i hi hl => (k.block i hi (Nat.lt_of_lt_of_le hl h.size)).trans (h.block i hi hl)⟩
theorem Agree.mono {B C : Nat} {w W : World} (h : Agree B w W) (hB : B ≤ C) : Agree C w W := ⟨h.size, fun k hk hl => h.block k (Nat.le_trans hB hk) hl⟩
theorem Bs.agree {B : Nat} {w W : World} {a : Option Addr} {n c : Nat} {l : List UInt8} (h : Bs w (.slice a n c) l) (ha : ∀ ad, a = some ad → B ≤ ad.block) (hW : Agree B w W) : Bs W (.slice a n c) l := by
  obtain ⟨a', c', hv, h1, h2, h3, h4⟩ := h
  cases hv
  refine ⟨a, c, rfl, h1, h2, h3, fun hl => ?_⟩
  obtain ⟨b, o, hb, hc⟩ := h4 hl
  refine ⟨b, o, hb, fun i hi => ?_⟩
  rw [World.cell?_of_block (w := w) (hW.block b (ha _ hb) (cell_lt (hc i hi)))]
  exact hc i hi
theorem own_agree {B base : Nat} {w W : World} {e : TypeId} {size : Nat} {v : Value} {n : Nat} {xs : List Value} (h : w.ownsRow base e size v n xs) (hB : B ≤ base) (hW : Agree B w W) : W.ownsRow base e size v n xs := by
  obtain ⟨hl, h | ⟨g, cap, cur, hv, hg, hh, r⟩⟩ := h
  · exact ⟨hl, .inl h⟩
  · exact ⟨hl, .inr ⟨g, cap, cur, hv, hg, by rw [hW.block g (Nat.le_trans hB hg) (Array.getElem?_eq_some_iff.1 hh).1]; exact hh, r⟩⟩

end Go.Proofs.Ytlaaoifjiogogaa
