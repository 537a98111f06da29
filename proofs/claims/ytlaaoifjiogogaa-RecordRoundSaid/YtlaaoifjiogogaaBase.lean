/-
  Plain lemmas over the model's worlds, for every program: slices of bytes that read as a list, and what an append onto a row of the call's own leaves.
-/
import Derived.WalkKit
import Derived.WalkSpells
import Derived.WalkLawsBesides
import Derived.Laws.AppendOwnNone
import Derived.Carry
import Derived.OpenShut
namespace Go.Proofs.Ytlaaoifjiogogaa
open Go.RowKit

theorem ret_int {k : IntKind} {a b : Int} (h : a = b) : Ending.returned (.int k a) = .returned (.int k b) := by rw [h]
theorem ret_bool {a b : Bool} (h : a = b) : Ending.returned (.bool a) = .returned (.bool b) := by rw [h]
theorem hid {p : Prop} (h : p) : Hid p := h

theorem bt {B : Nat} {w w1 w2 : World} (h : Below B w w1) (k : Below w1.heap.size w1 w2) (hB : B ≤ w.heap.size) : Below B w w2 :=
  h.trans (k.mono (Nat.le_trans hB h.size))

theorem bta {B : Nat} {w w1 : World} (h : Below B w w1) (hB : B ≤ w.heap.size) (o : Obj) : Below B w (w1.alloc o) := h.alloc (Nat.le_trans hB h.size) o
theorem btd {B : Nat} {w w1 : World} (h : Below B w w1) : Below B w w1.drew := h.drew
theorem bel_kept {w w1 w2 : World} {B : Nat} (h : Below B w w1) (k : Below w1.heap.size w1 w2) (hB : B ≤ w1.heap.size) : Below B w w2 :=
  h.trans (k.mono hB)

/-- A byte's value in a cell. -/
def byteV (x : UInt8) : Value := .int .u8 (x.toNat : Int)
def u8s (l : List UInt8) : List Value := l.map byteV

@[simp] theorem u8s_length (l : List UInt8) : (u8s l).length = l.length := by simp [u8s]
theorem u8s_append (l k : List UInt8) : u8s (l ++ k) = u8s l ++ u8s k := by simp [u8s]
theorem u8s_get (l : List UInt8) (i : Nat) (h : i < l.length) : (u8s l)[i]? = some (.int .u8 ((l.getD i 0).toNat : Int)) := by
  simp [u8s, byteV, h, List.getD]

/-- A slice of bytes that reads as a list. -/
def Bs (w : World) (v : Value) (l : List UInt8) : Prop :=
  ∃ a c, v = .slice a l.length c ∧ l.length ≤ c ∧ c ≤ maxLen ∧ (a = none → c = 0) ∧
    (l ≠ [] → ∃ b o, a = some ⟨b, o, none⟩ ∧ ∀ i, i < l.length → w.cell? ⟨b, o + i, none⟩ = some (.int .u8 ((l.getD i 0).toNat : Int)))

theorem Bs.nil (w : World) : Bs w (.slice none 0 0) [] := ⟨none, 0, rfl, Nat.le_refl _, Nat.zero_le _, fun _ => rfl, fun h => absurd rfl h⟩

theorem Bs.len {w : World} {v : Value} {l : List UInt8} (h : Bs w v l) : l.length ≤ maxLen := by
  obtain ⟨a, c, _, h1, h2, _⟩ := h; exact Nat.le_trans h1 h2

theorem cell_lt {w : World} {p : Addr} {v : Value} (h : w.cell? p = some v) : p.block < w.heap.size := World.block_lt_of_cell? w p h

theorem cell_keep {w1 w2 : World} {p : Addr} {v : Value} (hb : Below w1.heap.size w1 w2) (h : w1.cell? p = some v) : w2.cell? p = some v := by
  rw [hb.cell (cell_lt h)]; exact h

theorem Bs.below {w w' : World} {v : Value} {l : List UInt8} {B : Nat} (h : Bs w v l) (hb : Below B w w') (hB : w.heap.size ≤ B) : Bs w' v l := by
  obtain ⟨a, c, hv, h1, h2, h3, h4⟩ := h
  refine ⟨a, c, hv, h1, h2, h3, fun hl => ?_⟩
  obtain ⟨b, o, ha, hc⟩ := h4 hl
  refine ⟨b, o, ha, fun i hi => ?_⟩
  have hlt := cell_lt (hc i hi)
  rw [hb.cell (p := ⟨b, o + i, none⟩) (Nat.lt_of_lt_of_le hlt hB)]
  exact hc i hi

theorem Bs.keep {w w' : World} {v : Value} {l : List UInt8} (h : Bs w v l) (hb : Below w.heap.size w w') : Bs w' v l := h.below hb (Nat.le_refl _)

theorem take_get {α : Type} {cur : Array α} {n : Nat} {xs : List α} (h : cur.toList.take n = xs) (i : Nat) (hi : i < xs.length) : cur[i]? = xs[i]? := by
  subst h
  have : i < n := by simp at hi; omega
  simp [this]

theorem Bs.own {w : World} {base : Nat} {E : TypeId} {v : Value} {l : List UInt8} {n : Nat} (h : w.ownsRow base E 1 v n (u8s l)) : Bs w v l := by
  obtain ⟨hlen, h | ⟨g, cap, cur, hv, hb, hh, hnc, hcm, hcs, ht⟩⟩ := h
  · obtain ⟨rfl, rfl⟩ := h
    have : l = [] := by simpa using hlen
    subst this
    exact Bs.nil w
  · have hn : n = l.length := by simpa using hlen.symm
    subst hn
    refine ⟨_, _, hv, hnc, hcm, fun h => by simp at h, fun hl => ⟨g, 0, rfl, fun i hi => ?_⟩⟩
    simp only [World.cell?, hh, Nat.zero_add, Option.isSome_none]
    rw [← u8s_get l i hi]
    exact take_get (by simpa using ht) i (by simpa using hi)

/-- The tail of a row that has elements. -/
theorem Bs.at {w : World} {v : Value} {l : List UInt8} (h : Bs w v l) (hl : l ≠ []) :
    ∃ b o c, v = .slice (some ⟨b, o, none⟩) l.length c ∧ l.length ≤ c ∧ c ≤ maxLen ∧ ∀ i, i < l.length → w.cell? ⟨b, o + i, none⟩ = some (.int .u8 ((l.getD i 0).toNat : Int)) := by
  obtain ⟨a, c, hv, h1, h2, h3, h4⟩ := h
  obtain ⟨b, o, rfl, hc⟩ := h4 hl
  exact ⟨b, o, c, hv, h1, h2, hc⟩

theorem Bs.mk {w : World} {b o c : Nat} {l : List UInt8} (h1 : l.length ≤ c) (h2 : c ≤ maxLen) (hc : ∀ i, i < l.length → w.cell? ⟨b, o + i, none⟩ = some (.int .u8 ((l.getD i 0).toNat : Int))) :
    Bs w (.slice (some ⟨b, o, none⟩) l.length c) l := ⟨_, _, rfl, h1, h2, fun h => by simp at h, fun _ => ⟨b, o, rfl, hc⟩⟩

theorem one_u8s (l : List UInt8) : ∀ u ∈ u8s l, u.oneCell' = true := by
  intro u hu
  simp only [u8s, List.mem_map] at hu
  obtain ⟨x, _, rfl⟩ := hu
  rfl

/-- 'append(s, x...)' onto a row of the call's own, from whatever slice of bytes. -/
theorem wpList_app {P : Program} {w : World} {ops : Array Oper} {rest : List Oper} {o : Oper} {a : Act} {Q : Exit → Act → World → Prop} (hgd : o.guard = none) (s x : Operand) (t : TypeId)
    (ho : o.op = .call { callee := .builtin .append, args := #[s, x], argTypes := #[t, t] })
    (base : Nat) (e : TypeId) (i : TypeInfo) (ht : P.underlying t = some (.slice e)) (hi : P.info? e = some i) (hz : i.zero = some (.int .u8 0))
    (hsize : i.size = 1) (hby : i.bytes = 1)
    (v : Value) (xs : List UInt8) (hs : a.eval s = v) (hown : w.ownsRow base e 1 v xs.length (u8s xs))
    (y : Value) (ys : List UInt8) (hx : a.eval x = y) (hy : Bs w y ys) (hlen : xs.length + ys.length ≤ 140737488355328) (hbase : base ≤ w.heap.size)
    (h : ∀ v' w', w'.ownsRow base e 1 v' (xs.length + ys.length) (u8s (xs ++ ys)) → w.grownBy w' v.ownBlock → wpList P ops Q rest (a.put o.dst v') w') : wpList P ops Q (o :: rest) a w := by
  obtain ⟨ad, c, rfl, h1, h2, h3, h4⟩ := hy
  by_cases hn : ys = []
  · subst hn
    cases ad with
    | none =>
      obtain rfl := h3 rfl
      exact wpList_append_own_none hgd s x t ho base e i 1 ht hi v xs.length (u8s xs) hs hown hx (h v w (by simpa using hown) (World.grownBy.refl _ _))
    | some ad =>
      exact wpList_append_own w hgd s x t ho base e i _ 1 1 ht hi hz hsize hby rfl (by decide) v xs.length (u8s xs) hs hown ad 0 c [] hx rfl (by simp) (by simp) (by unfold maxLen; simp at hlen; omega) (by simp at hlen; omega) hbase
        (fun v' w' p q _ => h v' w' (by simpa using p) q)
  · obtain ⟨b, off, rfl, hc⟩ := h4 hn
    refine wpList_append_own w hgd s x t ho base e i _ 1 1 ht hi hz hsize hby rfl (by decide) v xs.length (u8s xs) hs hown ⟨b, off, none⟩ ys.length c (u8s ys) hx (by simp) ?_ (one_u8s ys) (by unfold maxLen; omega) (by omega) hbase
        (fun v' w' p q _ => h v' w' (by rw [u8s_append]; exact p) q)
    intro j u hj
    have hjl : j < ys.length := by
      have := (List.getElem?_eq_some_iff.1 hj).1
      simpa using this
    rw [u8s_get ys j hjl] at hj
    have e1 : (⟨b, off, none⟩ : Addr).add j = ⟨b, off + j, none⟩ := by unfold Addr.add; split <;> simp_all
    rw [e1, hc j hjl]
    exact hj

/-- A byte slice turned to a string. -/
theorem run_str {P : Program} {w : World} {src e : TypeId} (hs : P.underlying src = some (.slice e)) (he : P.underlying e = some (.int .u8)) {v : Value} {l : List UInt8} (h : Bs w v l)
    (dst : TypeId) (hd : P.underlying dst = some .string) : (convert src dst v).run P w = .ok (.string ⟨l.toArray⟩) w := by
  obtain ⟨ad, c, rfl, h1, h2, h3, h4⟩ := h
  by_cases hn : l = []
  · subst hn
    cases ad with
    | none => exact run_convert_bytes_nil (P := P) w src e hs he 0 c dst hd
    | some ad =>
      show (convert src dst (.slice (some ad) 0 c)).run P w = _
      rw [run_convert_bytes_string w src dst e (some ad) 0 c hs he hd, run_bytesToString w ad 0 c [] (by simp [loadCells, loadCellsFrom])]
      rfl
  · obtain ⟨b, off, rfl, hc⟩ := h4 hn
    have := run_convert_bytes_arg (P := P) w src e hs he b off l.length c (l.map fun x => (x.toNat : Int)) (by simp) (fun i hi => by rw [hc i hi]; simp [List.getD, hi]) dst hd
    rw [this]
    have e1 : strOfNums (l.map fun x => (x.toNat : Int)) = ⟨l.toArray⟩ := by
      simp [strOfNums, Function.comp_def]
    rw [e1]

/-- What an argument of type []byte reads as. -/
theorem Bs.row {w : World} {a : Option Addr} {len cap : Nat} {zs : List Int}
    (h : (a = none ∧ len = 0 ∧ cap = 0 ∧ zs = []) ∨
      ∃ x, a = some x ∧ len ≤ cap ∧ cap ≤ maxLen ∧ zs.length = cap ∧ (∀ i, i < zs.length → w.cell? (x.add i) = some (.int .u8 (zs.getD i 0))) ∧ ∀ n ∈ zs, (Lit.int .u8 n).wf = true) :
    ∃ l, Bs w (.slice a len cap) l ∧ l.length = len := by
  rcases h with ⟨rfl, rfl, rfl, rfl⟩ | ⟨x, rfl, hl, hm, hz, hc, hw⟩
  · exact ⟨[], Bs.nil w, rfl⟩
  · refine ⟨(zs.take len).map fun n => UInt8.ofNat n.toNat, ?_, by simp; omega⟩
    have e1 : ((zs.take len).map fun n => UInt8.ofNat n.toNat).length = len := by simp; omega
    refine ⟨some x, cap, by rw [e1], by omega, hm, fun h => by simp at h, fun hne => ?_⟩
    have hpos : 0 < len := by
      rcases Nat.eq_zero_or_pos len with h | h
      · subst h; simp at hne
      · exact h
    obtain ⟨b, off, spot⟩ := x
    have h0 := hc 0 (by omega)
    have hspot : spot = none := by simpa [Addr.add] using World.cell?_spot h0
    subst hspot
    refine ⟨b, off, rfl, fun i hi => ?_⟩
    rw [e1] at hi
    have e2 : (⟨b, off, none⟩ : Addr).add i = ⟨b, off + i, none⟩ := by unfold Addr.add; split <;> simp_all
    have h3 := hc i (by omega)
    rw [e2] at h3
    rw [h3]
    have hi' : i < zs.length := by omega
    have hwi := hw zs[i] (List.getElem_mem hi')
    have hb := bounds_u8 hwi
    have e3 : (((zs.take len).map fun n => UInt8.ofNat n.toNat).getD i 0).toNat = zs[i].toNat := by
      simp [List.getD, hi, hi']
      omega
    rw [e3]
    simp [List.getD, hi']
    omega

end Go.Proofs.Ytlaaoifjiogogaa
