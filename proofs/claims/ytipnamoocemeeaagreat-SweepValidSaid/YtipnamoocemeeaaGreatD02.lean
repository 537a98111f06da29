/-
  Texts 2 of the claim.
-/
import Derived.Test.YtipnamoocemeeaaGreatD01
import Derived.Deep.OwnRows
import Derived.Test.YtipnamoocemeeaaGreatRows
import Derived.Deep.QuietTactic
import Derived.BigQuiet
import Derived.Deep.RegionHeld3
import Derived.Outline
namespace Go.Proofs.YtipnamoocemeeaaGreat
structure Ob where
  id : Int
  val : List UInt8
structure Rp where
  fn : Int
  exc : Int
  data : List UInt8
  code : Int
  level : Int
  more : Bool
  next : Int
  objs : List Ob
structure Oc where
  verdict : Int
  reply : Rp
def Rp.zero : Rp := ⟨0, 0, [], 0, 0, false, 0, []⟩
def Ob.same (a b : Ob) : Bool := a.id == b.id && a.val == b.val
def sameObs : List Ob → List Ob → Bool
  | [], [] => true
  | a :: l, b :: k => a.same b && sameObs l k
  | _, _ => false
def Rp.same (a b : Rp) : Bool := a.fn == b.fn && a.exc == b.exc && a.data == b.data && a.code == b.code && a.level == b.level && a.more == b.more && a.next == b.next && sameObs a.objs b.objs
def Oc.same (a b : Oc) : Bool := a.verdict == b.verdict && a.reply.same b.reply
theorem Ob.same_self (a : Ob) : a.same a = true := by simp [Ob.same]
theorem sameObs_self : ∀ l : List Ob, sameObs l l = true
  | [] => rfl
  | a :: l => by simp [sameObs, a.same_self, sameObs_self l]
theorem Rp.same_self (a : Rp) : a.same a = true := by simp [Rp.same, sameObs_self]
theorem Oc.same_self (a : Oc) : a.same a = true := by simp [Oc.same, Rp.same_self]
def tblB (f : Int) : Bool := decide (1 ≤ f) && decide (f ≤ 4)
def knownB (f : Int) : Bool := tblB f || f == 17 || f == 43
def Rp.plain (r : Rp) : Bool := r.code == 0 && r.level == 0 && !r.more && r.next == 0 && r.objs.isEmpty
def Rp.short (r : Rp) : Bool := r.data.isEmpty && r.plain
def rises (last : Int) : List Ob → Bool
  | [] => true
  | x :: l => decide (last < x.id) && decide (x.id ≤ 255) && rises x.id l
def obSize : List Ob → Nat
  | [] => 0
  | x :: l => 2 + x.val.length + obSize l
def lastId (last : Int) : List Ob → Int
  | [] => last
  | x :: l => lastId x.id l
def lvB (level : Int) : Bool := (decide (1 ≤ level) && decide (level ≤ 3)) || (decide (129 ≤ level) && decide (level ≤ 131))
def objsB (l : List Ob) : Bool := rises (-1) l && decide (obSize l ≤ 246)
def Rp.devB (r : Rp) : Bool :=
  r.data.isEmpty && decide (1 ≤ r.code) && decide (r.code ≤ 3) && lvB r.level && decide (0 ≤ r.next) && decide (r.next ≤ 255) && objsB r.objs &&
    (if r.more then !r.objs.isEmpty && decide (lastId (-1) r.objs < r.next) else r.next == 0)
def Rp.ok (r : Rp) : Bool :=
  knownB r.fn &&
    if r.exc = 0 then
      (if r.fn = 43 then r.devB else if r.fn = 17 then decide (1 ≤ r.data.length) && decide (r.data.length ≤ 251) && r.plain else decide (1 ≤ r.data.length) && decide (r.data.length ≤ 250) && r.plain)
    else decide (1 ≤ r.exc) && decide (r.exc ≤ 255) && r.short
def Oc.ok (o : Oc) : Bool :=
  if o.verdict = 3 ∨ o.verdict = 4 ∨ o.verdict = 5 then o.reply.fn == 0 && o.reply.exc == 0 && o.reply.short
  else if o.verdict = 2 then !(o.reply.exc == 0) && o.reply.ok
  else if o.verdict = 1 then (o.reply.exc == 0) && (if tblB o.reply.fn then o.reply.short else o.reply.ok)
  else false
end Go.Proofs.YtipnamoocemeeaaGreat
namespace Go.Proofs.YtipnamoocemeeaaGreat
def byteI (x : Int) : UInt8 := UInt8.ofNat x.toNat
theorem byteI_val {x : Int} (h1 : 0 ≤ x) (h2 : x ≤ 255) : ((byteI x).toNat : Int) = x := by
  unfold byteI
  rw [UInt8.toNat_ofNat']
  omega
def encObs : List Ob → List UInt8
  | [] => []
  | x :: l => byteI x.id :: byteI x.val.length :: (x.val ++ encObs l)
def devHead (r : Rp) : List UInt8 := [43, 14, byteI r.code, byteI r.level, byteI (if r.more then 255 else 0), byteI r.next, byteI r.objs.length]
def Rp.pdu (r : Rp) : List UInt8 :=
  if r.exc = 0 then (if r.fn = 43 then devHead r ++ encObs r.objs else byteI r.fn :: byteI r.data.length :: r.data) else [byteI (r.fn + 128), byteI r.exc]
def Oc.enc (o : Oc) : List UInt8 :=
  byteI o.verdict :: (if o.verdict = 2 then [byteI o.reply.fn, byteI o.reply.exc] else if o.verdict = 1 then byteI o.reply.fn :: (if tblB o.reply.fn then [] else byteI o.reply.pdu.length :: o.reply.pdu) else [])
end Go.Proofs.YtipnamoocemeeaaGreat
namespace Go.Proofs.YtipnamoocemeeaaGreat
theorem byteI_toNat {n : Nat} (h : n ≤ 255) : (byteI (n : Int)).toNat = n := by
  have := byteI_val (x := (n : Int)) (by omega) (by omega)
  omega
end Go.Proofs.YtipnamoocemeeaaGreat
namespace Go.Proofs.YtipnamoocemeeaaGreat
end Go.Proofs.YtipnamoocemeeaaGreat

namespace Go.Proofs.YtipnamoocemeeaaGreat
open Go.RowKit
end Go.Proofs.YtipnamoocemeeaaGreat
namespace Go.Proofs.YtipnamoocemeeaaGreat
open Go.RowKit
def Obs (w : World) (v : Value) (l : List Ob) : Prop :=
  ∃ a c, v = .slice a l.length c ∧ l.length ≤ c ∧ c ≤ maxLen ∧ (a = none → c = 0) ∧
    (l ≠ [] → ∃ b o, a = some ⟨b, o, none⟩ ∧ ∀ i x, l[i]? = some x → w.cell? ⟨b, o + i * 2, none⟩ = some (.int .i64 x.id) ∧ ∃ v, w.cell? ⟨b, o + i * 2 + 1, none⟩ = some v ∧ Bs w v x.val)
theorem Obs.nil (w : World) : Obs w (.slice none 0 0) [] := ⟨none, 0, rfl, Nat.le_refl _, Nat.zero_le _, fun _ => rfl, fun h => absurd rfl h⟩
theorem Obs.keep {w w' : World} {v : Value} {l : List Ob} (h : Obs w v l) (hb : Below w.heap.size w w') : Obs w' v l := by
  obtain ⟨a, c, hv, h1, h2, h3, h4⟩ := h
  refine ⟨a, c, hv, h1, h2, h3, fun hl => ?_⟩
  obtain ⟨b, o, ha, hc⟩ := h4 hl
  refine ⟨b, o, ha, fun i x hx => ?_⟩
  obtain ⟨c1, v, c2, hv⟩ := hc i x hx
  exact ⟨cell_keep hb c1, v, cell_keep hb c2, hv.keep hb⟩
theorem Obs.len {w : World} {v : Value} {l : List Ob} (h : Obs w v l) : l.length ≤ maxLen := by
  obtain ⟨a, c, _, h1, h2, _⟩ := h; exact Nat.le_trans h1 h2
theorem Obs.at {w : World} {v : Value} {l : List Ob} (h : Obs w v l) (hl : l ≠ []) :
    ∃ b o c, v = .slice (some ⟨b, o, none⟩) l.length c ∧ l.length ≤ c ∧ c ≤ maxLen ∧ ∀ i x, l[i]? = some x → w.cell? ⟨b, o + i * 2, none⟩ = some (.int .i64 x.id) ∧ ∃ v, w.cell? ⟨b, o + i * 2 + 1, none⟩ = some v ∧ Bs w v x.val := by
  obtain ⟨a, c, hv, h1, h2, h3, h4⟩ := h
  obtain ⟨b, o, rfl, hc⟩ := h4 hl
  exact ⟨b, o, c, hv, h1, h2, hc⟩
def limI (f : Int) : Int := if f = 1 ∨ f = 2 then 2000 else if f = 3 ∨ f = 4 then 125 else 0
theorem tbl_cases (f : Int) : (f = 1 ∨ f = 2 ∨ f = 3 ∨ f = 4) ∨ (tblB f = false ∧ (f == 1) = false ∧ (f == 2) = false ∧ (f == 3) = false ∧ (f == 4) = false) := by
  by_cases h : f = 1 ∨ f = 2 ∨ f = 3 ∨ f = 4
  · exact .inl h
  · refine .inr ⟨?_, ?_, ?_, ?_, ?_⟩
    · unfold tblB
      cases hx : (decide (1 ≤ f) && decide (f ≤ 4)) with
      | false => rfl
      | true => simp at hx; omega
    all_goals (rw [beq_eq_false_iff_ne]; omega)
set_option maxHeartbeats 800000 in
theorem limit_any (f : Int) (w : World) : Calls Tryz.prog 148 #[.int .i64 f] w fun r w' => r = .returned (.int .i64 (limI f)) ∧ w = w' := by
  rcases tbl_cases f with h | ⟨h0, h1, h2, h3, h4⟩
  · rcases h with rfl | rfl | rfl | rfl
    all_goals
      go_enter Tryz.func148, Tryz.ntmps148
      go_wp2
      go_ret
      exact ⟨rfl, rfl⟩
  · have hl : limI f = 0 := by
      rw [beq_eq_false_iff_ne] at h1 h2 h3 h4
      unfold limI
      rw [if_neg (by omega), if_neg (by omega)]
    replace hl := hid hl
    go_enter Tryz.func148, Tryz.ntmps148
    go_wp2
    go_ret
    exact ⟨by rw [hl.out]; rfl, rfl⟩
end Go.Proofs.YtipnamoocemeeaaGreat
namespace Go.Proofs.YtipnamoocemeeaaGreat
open Go.RowKit
theorem cellsU8 : Tryz.prog.cellsOf 5 = 1 := by kernel_rfl
theorem cellsInt : Tryz.prog.cellsOf 3 = 1 := by kernel_rfl
theorem cellsBool : Tryz.prog.cellsOf 4 = 1 := by kernel_rfl
theorem cellsBytes : Tryz.prog.cellsOf 50 = 1 := by kernel_rfl
theorem cellsObs : Tryz.prog.cellsOf 51 = 1 := by kernel_rfl
theorem cellsOb : Tryz.prog.cellsOf 156 = 2 := by kernel_rfl
theorem lst2 {α : Type} {l : List α} (h : l.length = 2) : ∃ a b, l = [a, b] := by
  match l, h with
  | [a, b], _ => exact ⟨a, b, rfl⟩
theorem list_of {α : Type} (n : Nat) (P : Nat → α → Prop) (h : ∀ i, i < n → ∃ x, P i x) : ∃ l : List α, l.length = n ∧ ∀ i x, l[i]? = some x → P i x := by
  induction n with
  | zero => exact ⟨[], rfl, fun i x hx => by simp at hx⟩
  | succ n ih =>
    obtain ⟨l, hl, hp⟩ := ih (fun i hi => h i (by omega))
    obtain ⟨x, hx⟩ := h n (by omega)
    refine ⟨l ++ [x], by simp [hl], fun i y hy => ?_⟩
    by_cases hi : i < n
    · rw [List.getElem?_append_left (by omega)] at hy; exact hp i y hy
    · have hlt := (List.getElem?_eq_some_iff.1 hy).1
      have : i = n := by simp at hlt; omega
      subst this
      rw [List.getElem?_append_right (by omega), hl] at hy
      simp at hy
      subst hy
      exact hx
theorem Obs.of_rd {w : World} {v : Value} (h : Rd Tryz.prog w 51 [v]) : ∃ l, Obs w v l := by
  rcases h.slice Tryz.underlying51 with h | ⟨a, len, cap, h, hl, hm, hel⟩
  · cases h; exact ⟨[], Obs.nil w⟩
  · cases h
    have hb : ∀ i, i < len → ∃ x : Ob, w.cell? (a.add (i * 2)) = some (.int .i64 x.id) ∧ ∃ v, w.cell? ((a.add (i * 2)).add 1) = some v ∧ Bs w v x.val := by
      intro i hi
      obtain ⟨ds, hd, hcell, hr⟩ := hel i hi
      rw [cellsOb] at hd hcell
      obtain ⟨d0, d1, rfl⟩ := lst2 hd
      obtain ⟨_, hf⟩ := hr.struct Tryz.underlying156
      have f0 := hf _ (List.mem_cons_self ..)
      have f1 := hf _ (List.mem_cons_of_mem _ (List.mem_cons_self ..))
      simp only [cellsInt, cellsBytes, List.drop_zero, List.drop_succ_cons, List.take_succ_cons, List.take_zero] at f0 f1
      obtain ⟨k, hk, _⟩ := Rd.int Tryz.underlying3 f0
      obtain ⟨x, hx⟩ := Bs.of_rd Tryz.underlying50 Tryz.underlying5 cellsU8 f1
      simp only [List.cons.injEq, and_true] at hk
      subst hk
      have c0 := hcell 0 (by omega)
      have c1 := hcell 1 (by omega)
      exact ⟨⟨k, x⟩, by simpa [Addr.add] using c0, d1, c1, hx⟩
    obtain ⟨l, hll, hlp⟩ := list_of len _ hb
    refine ⟨l, some a, cap, by rw [hll], by omega, hm, fun h => by simp at h, fun hne => ?_⟩
    have hpos : 0 < len := by
      rcases Nat.eq_zero_or_pos len with h | h
      · exfalso; apply hne; exact List.eq_nil_of_length_eq_zero (by omega)
      · exact h
    obtain ⟨x0, hx0⟩ : ∃ x, l[0]? = some x := ⟨l[0], List.getElem?_eq_getElem (by omega)⟩
    have hs2 : a = ⟨a.block, a.off, none⟩ := by
      have := (hlp 0 x0 hx0).1
      exact spot_of (v := .int .i64 x0.id) (by simpa [Addr.add] using this)
    refine ⟨a.block, a.off, by rw [← hs2], fun i x hx => ?_⟩
    obtain ⟨h1, vv, h2, h3⟩ := hlp i x hx
    rw [hs2, add_lit] at h1
    rw [hs2, add_lit, add_lit] at h2
    exact ⟨h1, vv, h2, h3⟩
end Go.Proofs.YtipnamoocemeeaaGreat

namespace Go.Proofs.YtipnamoocemeeaaGreat
open Go.RowKit
theorem rises_snoc (x : Ob) : ∀ (l : List Ob) (last : Int), rises last (l ++ [x]) = (rises last l && decide (lastId last l < x.id) && decide (x.id ≤ 255))
  | [], last => by show (decide _ && decide _ && true) = (true && decide _ && decide _); rw [Bool.and_true, Bool.true_and]; rfl
  | a :: l, last => by
    show (decide _ && decide _ && rises a.id (l ++ [x])) = (decide _ && decide _ && rises a.id l && decide (lastId a.id l < x.id) && decide (x.id ≤ 255))
    rw [rises_snoc x l a.id]
    simp only [Bool.and_assoc]
theorem lastId_snoc (x : Ob) : ∀ (l : List Ob) (last : Int), lastId last (l ++ [x]) = x.id
  | [], last => rfl
  | a :: l, last => by simp [lastId, lastId_snoc x l]
theorem obSize_snoc (x : Ob) : ∀ (l : List Ob), obSize (l ++ [x]) = obSize l + (2 + x.val.length)
  | [] => by simp [obSize]
  | a :: l => by simp [obSize, obSize_snoc x l]; omega
theorem rises_pre (k : List Ob) : ∀ (l : List Ob) (last : Int), rises last (l ++ k) = true → rises last l = true
  | [], last, _ => rfl
  | a :: l, last, h => by
    simp only [List.cons_append, rises, Bool.and_eq_true] at h ⊢
    exact ⟨h.1, rises_pre k l _ h.2⟩
theorem obSize_pre (k : List Ob) : ∀ (l : List Ob), obSize l ≤ obSize (l ++ k)
  | [] => Nat.zero_le _
  | a :: l => by have := obSize_pre k l; simp [obSize]; omega
theorem take_succ_snoc {α : Type} {l : List α} {k : Nat} {x : α} (h : l[k]? = some x) : l.take (k + 1) = l.take k ++ [x] := by
  rw [List.take_add_one, h]; rfl
end Go.Proofs.YtipnamoocemeeaaGreat
