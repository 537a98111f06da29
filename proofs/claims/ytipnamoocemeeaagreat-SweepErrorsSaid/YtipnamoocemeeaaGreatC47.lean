/-
  Texts 47 of the claim.
-/
import Derived.Test.YtipnamoocemeeaaGreatC46
import Derived.Test.YtipnamoocemeeaaGreatC22
import Derived.Test.YtipnamoocemeeaaGreatC45
import Derived.Maps.OwnOps
import Derived.Maps.Views
/-
  Databases of profiles that came in, read.
-/
namespace Go.Proofs.YtipnamoocemeeaaGreat
open Go.RowKit

/-- A condition and a profile, plain. -/
structure Cd where
  kind : Int
  id : Int
  val : List UInt8
  tab : Int
  f : Int
  cnt : Int
  n : Int
structure Pf where
  name : ByteArray
  cs : List Cd
def CdR (w : World) (r : List Value) (c : Cd) : Prop := ∃ a cc, r = (#[.int .i64 c.kind, .int .i64 c.id, .slice a c.val.length cc, .int .i64 c.tab, .int .i64 c.f, .int .i64 c.cnt, .int .i64 c.n] : Array Value).toList ∧ Bs w (.slice a c.val.length cc) c.val ∧ (-9223372036854775808 ≤ c.f ∧ c.f ≤ 9223372036854775807) ∧ (-9223372036854775808 ≤ c.cnt ∧ c.cnt ≤ 9223372036854775807)
def PfR (w : World) (r : List Value) (p : Pf) : Prop := ∃ v, r = [.string p.name, v] ∧ Sls 7 CdR w v p.cs ∧ p.name.size ≤ maxLen
def Dbs (w : World) (v : Value) (l : List Pf) : Prop := Sls 2 PfR w v l
theorem CdR.keep (w w' : World) (r : List Value) (x : Cd) (h : CdR w r x) (hb : Below w.heap.size w w') : CdR w' r x := by
  obtain ⟨a, cc, e, h1, h2⟩ := h
  exact ⟨a, cc, e, h1.keep hb, h2⟩
theorem PfR.keep (w w' : World) (r : List Value) (x : Pf) (h : PfR w r x) (hb : Below w.heap.size w w') : PfR w' r x := by
  obtain ⟨v, e, h1, h2⟩ := h
  exact ⟨v, e, Sls.keep CdR.keep h1 hb, h2⟩
theorem Dbs.keep {w w' : World} {v : Value} {l : List Pf} (h : Dbs w v l) (hb : Below w.heap.size w w') : Dbs w' v l := Sls.keep PfR.keep h hb
theorem cellsCd : Tryz.prog.cellsOf 124 = 7 := by kernel_rfl
theorem cellsPf : Tryz.prog.cellsOf 122 = 2 := by kernel_rfl
theorem cellsStr : Tryz.prog.cellsOf 9 = 1 := by kernel_rfl
theorem cellsCds : Tryz.prog.cellsOf 120 = 1 := by kernel_rfl
theorem cellsBys : Tryz.prog.cellsOf 50 = 1 := by kernel_rfl
theorem lst7' {α : Type} {l : List α} (h : l.length = 7) : ∃ a b c d e f g, l = [a, b, c, d, e, f, g] := by
  match l, h with
  | [a, b, c, d, e, f, g], _ => exact ⟨a, b, c, d, e, f, g, rfl⟩
theorem cd_rd {w : World} {cs : List Value} (h : Rd Tryz.prog w 124 cs) : ∃ x, CdR w cs x := by
  obtain ⟨hl, hf⟩ := h.struct Tryz.underlying124
  rw [cellsCd] at hl
  obtain ⟨c0, c1, c2, c3, c4, c5, c6, rfl⟩ := lst7' hl
  have f0 := hf _ (List.mem_cons_self ..)
  have f1 := hf _ (List.mem_cons_of_mem _ (List.mem_cons_self ..))
  have f2 := hf _ (List.mem_cons_of_mem _ (List.mem_cons_of_mem _ (List.mem_cons_self ..)))
  have f3 := hf _ (List.mem_cons_of_mem _ (List.mem_cons_of_mem _ (List.mem_cons_of_mem _ (List.mem_cons_self ..))))
  have f4 := hf _ (List.mem_cons_of_mem _ (List.mem_cons_of_mem _ (List.mem_cons_of_mem _ (List.mem_cons_of_mem _ (List.mem_cons_self ..)))))
  have f5 := hf _ (List.mem_cons_of_mem _ (List.mem_cons_of_mem _ (List.mem_cons_of_mem _ (List.mem_cons_of_mem _ (List.mem_cons_of_mem _ (List.mem_cons_self ..))))))
  simp only [cellsInt, cellsBys, cellsRg, List.drop_zero, List.drop_succ_cons, List.take_succ_cons, List.take_zero] at f0 f1 f2 f3 f4 f5
  obtain ⟨b0, e0, -⟩ := int_rd f0
  obtain ⟨b1, e1, -⟩ := int_rd f1
  obtain ⟨l, hb⟩ := Bs.of_rd Tryz.underlying50 Tryz.underlying5 (by kernel_rfl) f2
  obtain ⟨b3, e3, -⟩ := int_rd f3
  obtain ⟨x4, e4, w4, w5⟩ := rg_rd f4
  obtain ⟨b5, e5, -⟩ := int_rd f5
  obtain ⟨a, cc, rfl, -⟩ := id hb
  simp only [List.cons.injEq, and_true] at e0 e1 e3 e4 e5
  subst e0 e1 e3 e5
  obtain ⟨rfl, rfl⟩ := e4
  exact ⟨⟨b0, b1, l, b3, x4.1, x4.2, b5⟩, a, cc, rfl, hb, w4, w5⟩
theorem pf_rd {w : World} {cs : List Value} (h : Rd Tryz.prog w 122 cs) : ∃ x, PfR w cs x := by
  obtain ⟨hl, hf⟩ := h.struct Tryz.underlying122
  rw [cellsPf] at hl
  obtain ⟨c0, c1, rfl⟩ := lst2 hl
  have f0 := hf _ (List.mem_cons_self ..)
  have f1 := hf _ (List.mem_cons_of_mem _ (List.mem_cons_self ..))
  simp only [cellsStr, cellsCds, List.drop_zero, List.drop_succ_cons, List.take_succ_cons, List.take_zero] at f0 f1
  obtain ⟨s, e0, hs⟩ := Rd.string Tryz.underlying9 f0
  obtain ⟨l, hl2⟩ := Sls.of_rd (R := CdR) Tryz.underlying120 cellsCd (by decide) (fun _ h => cd_rd h) f1
  simp only [List.cons.injEq, and_true] at e0
  subst e0
  exact ⟨⟨s, l⟩, c1, rfl, hl2, hs⟩
theorem db_rd {w : World} {v : Value} (h : Rd Tryz.prog w 67 [v]) : ∃ l, Dbs w v l :=
  Sls.of_rd (R := PfR) Tryz.underlying67 cellsPf (by decide) (fun _ h => pf_rd h) h

end Go.Proofs.YtipnamoocemeeaaGreat

/-
  Databases: profile.Valid and modscanref31.Valid answer alike.
-/
namespace Go.Proofs.YtipnamoocemeeaaGreat
open Go.RowKit Go.Maps
def Cd.P (c : Cd) : Prop := CdP c.kind c.id c.val.length c.tab c.f c.cnt c.n
def Pf.P (p : Pf) : Prop := NameP p.name ∧ 1 ≤ p.cs.length ∧ p.cs.length ≤ 8 ∧ ∀ c ∈ p.cs, c.P
/-- The first k are valid, and their names differ. -/
def DbK (l : List Pf) (k : Nat) : Prop := (∀ i p, i < k → l[i]? = some p → p.P) ∧ ∀ i j p q, i < j → j < k → l[i]? = some p → l[j]? = some q → p.name ≠ q.name
/-- A valid database. -/
def DbP (l : List Pf) : Prop := l.length ≤ 16 ∧ DbK l l.length
theorem DbK.zero (l : List Pf) : DbK l 0 := ⟨fun _ _ h => absurd h (Nat.not_lt_zero _), fun _ _ _ _ _ h => absurd h (Nat.not_lt_zero _)⟩
theorem DbK.mono {l : List Pf} {k m : Nat} (h : DbK l m) (hm : k ≤ m) : DbK l k := ⟨fun i p hi => h.1 i p (by omega), fun i j p q hij hj => h.2 i j p q hij (by omega)⟩
theorem DbK.next {l : List Pf} {k : Nat} {p : Pf} (h : DbK l k) (hp : l[k]? = some p) (hP : p.P) (hn : ∀ i q, i < k → l[i]? = some q → q.name ≠ p.name) : DbK l (k + 1) := by
  refine ⟨fun i q hi hq => ?_, fun i j q r hij hj hq hr => ?_⟩
  · by_cases e : i = k
    · subst e
      rw [hp] at hq
      cases hq
      exact hP
    · exact h.1 i q (by omega) hq
  · by_cases e : j = k
    · subst e
      rw [hp] at hr
      cases hr
      exact hn i q hij hq
    · exact h.2 i j q r hij (by omega) hq hr
/-- The names of the first k, as the map's datum. -/
def nmLit (s : ByteArray) : Lit := .string s.data.toList
def NmC (l : List Pf) (k : Nat) : DataW Unit := (l.take k).foldl (fun m p => m.put (nmLit p.name) (.lit (.bool true))) (.map [])
theorem nmC_no (kl : Lit) (z : DataW Unit) : ∀ (l : List Pf) (m : DataW Unit), (∀ p ∈ l, nmLit p.name ≠ kl) → (l.foldl (fun m p => m.put (nmLit p.name) (.lit (.bool true))) m).atKey kl z = m.atKey kl z
  | [], _, _ => rfl
  | p :: l, m, h => by
    show (l.foldl (fun m p => m.put (nmLit p.name) (.lit (.bool true))) (m.put (nmLit p.name) (.lit (.bool true)))).atKey kl z = _
    rw [nmC_no kl z l _ (fun q hq => h q (List.mem_cons_of_mem _ hq))]
    exact atKey_put_other (fun e => h p List.mem_cons_self e.symm) _ _
theorem nmC_yes (kl : Lit) (hk : WideAt.IsKeyLit kl) (z : DataW Unit) : ∀ (l : List Pf) (m : DataW Unit), IsMap m → (∃ p ∈ l, nmLit p.name = kl) → (l.foldl (fun m p => m.put (nmLit p.name) (.lit (.bool true))) m).atKey kl z = .lit (.bool true)
  | [], _, _, h => by
    obtain ⟨p, hp, _⟩ := h
    cases hp
  | p :: l, m, hm, h => by
    show (l.foldl (fun m p => m.put (nmLit p.name) (.lit (.bool true))) (m.put (nmLit p.name) (.lit (.bool true)))).atKey kl z = _
    by_cases e : ∃ q ∈ l, nmLit q.name = kl
    · exact nmC_yes kl hk z l _ (hm.put _ _) e
    · rw [nmC_no kl z l _ (fun q hq hn => e ⟨q, hq, hn⟩)]
      obtain ⟨q, hq, hn⟩ := h
      rcases List.mem_cons.1 hq with rfl | hq
      · rw [hn]
        exact atKey_put_same hm hk _ _
      · exact absurd ⟨q, hq, hn⟩ e
theorem own_below {P : Program} {k : TypeId} {R : Value → Option (DataW Unit × List MemPlace)} {b n : Nat} {D : DataW Unit} {w w' : World} (h : w.ownsMap P k R b n D) (hb : Below w.heap.size w w') : w'.ownsMap P k R b n D := by
  have hlt := h.lt
  obtain ⟨es, clock, h1, F, hs, hD⟩ := h
  exact ⟨es, clock, (hb.block b hlt).trans h1, F, hs, hD⟩
theorem nmLit_inj {a b : ByteArray} (h : nmLit a = nmLit b) : a = b := by
  unfold nmLit at h
  injection h with h
  exact ByteArray.ext (Array.toList_inj.1 h)

end Go.Proofs.YtipnamoocemeeaaGreat
