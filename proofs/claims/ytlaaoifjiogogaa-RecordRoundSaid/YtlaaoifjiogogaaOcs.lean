/-
  Slices of outcomes that read as lists, and the contract of modscanmake.Outcomes.
-/
import Derived.Test.YtlaaoifjiogogaaSls
import Derived.Test.YtlaaoifjiogogaaRecRd
import Derived.Test.YtlaaoifjiogogaaRecL
namespace Go.Proofs.Ytlaaoifjiogogaa
open Go.RowKit

/-- Nine cells that hold an outcome. -/
def OcR (w : World) (cs : List Value) (x : Oc) : Prop := ∃ da dc oa oc, cs = [.int .i64 x.verdict, .int .i64 x.reply.fn, .int .i64 x.reply.exc, .slice da x.reply.data.length dc, .int .i64 x.reply.code, .int .i64 x.reply.level, .bool x.reply.more, .int .i64 x.reply.next, .slice oa x.reply.objs.length oc] ∧
  Bs w (.slice da x.reply.data.length dc) x.reply.data ∧ Obs w (.slice oa x.reply.objs.length oc) x.reply.objs ∧ x.reply.level ≤ 9223372036854775807 ∧ -9223372036854775808 ≤ x.reply.level

theorem OcR.keep (w w' : World) (r : List Value) (x : Oc) (h : OcR w r x) (hb : Below w.heap.size w w') : OcR w' r x := by
  obtain ⟨da, dc, oa, oc, h1, h2, h3, h4⟩ := h
  exact ⟨da, dc, oa, oc, h1, h2.keep hb, h3.keep hb, h4⟩

def Ocs (w : World) (v : Value) (l : List Oc) : Prop := Sls 9 OcR w v l

theorem Ocs.keep {w w' : World} {v : Value} {l : List Oc} (h : Ocs w v l) (hb : Below w.heap.size w w') : Ocs w' v l := Sls.keep OcR.keep h hb

theorem ocR_rd {w : World} {cs : List Value} (h : Rd Try.prog w 27 cs) : ∃ x, OcR w cs x := by
  obtain ⟨v, r, rs, rfl, da, dc, oa, oc, rfl, h1, h2, h3, h4⟩ := oc_rd h
  exact ⟨⟨v, r⟩, da, dc, oa, oc, rfl, h1, h2, h3, h4⟩

theorem ocs_rd {w : World} {v : Value} (h : Rd Try.prog w 33 [v]) : ∃ l, Ocs w v l :=
  Sls.of_rd Try.underlying33 cellsOc (by decide) (fun _ h => ocR_rd h) h

/-- The cells of outcome number k. -/
def OcAt (w : World) (b o : Nat) (x : Oc) (da : Option Addr) (dc : Nat) (oa : Option Addr) (oc : Nat) : Prop :=
  w.cell? ⟨b, o, none⟩ = some (.int .i64 x.verdict) ∧ w.cell? ⟨b, o + 1, none⟩ = some (.int .i64 x.reply.fn) ∧ w.cell? ⟨b, o + 1 + 1, none⟩ = some (.int .i64 x.reply.exc) ∧
  w.cell? ⟨b, o + 1 + 2, none⟩ = some (.slice da x.reply.data.length dc) ∧ w.cell? ⟨b, o + 1 + 3, none⟩ = some (.int .i64 x.reply.code) ∧ w.cell? ⟨b, o + 1 + 4, none⟩ = some (.int .i64 x.reply.level) ∧
  w.cell? ⟨b, o + 1 + 5, none⟩ = some (.bool x.reply.more) ∧ w.cell? ⟨b, o + 1 + 6, none⟩ = some (.int .i64 x.reply.next) ∧ w.cell? ⟨b, o + 1 + 7, none⟩ = some (.slice oa x.reply.objs.length oc)

theorem Ocs.get {w : World} {a : Option Addr} {n c : Nat} {l : List Oc} (h : Ocs w (.slice a n c) l) :
    l.length = n ∧ n ≤ c ∧ c ≤ maxLen ∧ ∀ i x, l[i]? = some x → ∃ b o da dc oa oc, a = some ⟨b, o, none⟩ ∧ OcAt w b (o + i * 9) x da dc oa oc ∧
      Bs w (.slice da x.reply.data.length dc) x.reply.data ∧ Obs w (.slice oa x.reply.objs.length oc) x.reply.objs ∧ x.reply.level ≤ 9223372036854775807 ∧ -9223372036854775808 ≤ x.reply.level := by
  obtain ⟨h1, h2, h3, h4⟩ := Sls.get h
  refine ⟨h1, h2, h3, fun i x hx => ?_⟩
  obtain ⟨b, o, ha, r, hr, ⟨da, dc, oa, oc, hc, h5⟩, h6⟩ := h4 i x hx
  subst hc
  exact ⟨b, o, da, dc, oa, oc, ha, ⟨h6 0 _ rfl, h6 1 _ rfl, h6 2 _ rfl, h6 3 _ rfl, h6 4 _ rfl, h6 5 _ rfl, h6 6 _ rfl, h6 7 _ rfl, h6 8 _ rfl⟩, h5⟩

/-- Few and small outcomes. -/
def smallOcs (l : List Oc) (n : Int) : Bool := l.all (fun o => o.reply.small) && decide ((l.length : Int) ≤ n)

theorem smallOcs_no {l : List Oc} {n : Int} {k : Nat} {x : Oc} (h : l[k]? = some x) (hx : x.reply.small = false) : smallOcs l n = false := by
  cases hs : smallOcs l n with
  | false => rfl
  | true =>
    simp only [smallOcs, Bool.and_eq_true, List.all_eq_true] at hs
    have := hs.1 x (List.mem_of_getElem? h)
    rw [hx] at this; cases this

set_option maxRecDepth 100000 in
set_option maxHeartbeats 3200000 in
theorem mocs_any (v : Value) (l : List Oc) (n : Int) (w : World) (ho : Ocs w v l) (V : Bool) (hV : Hid (smallOcs l n = V)) :
    Calls Try.prog 17 #[v, .int .i64 n] w fun r w' => r = .returned (.bool V) ∧ Below w.heap.size w w' := by
  obtain ⟨a, c, rfl, _⟩ := id ho
  obtain ⟨-, hnc, hcm, hel⟩ := ho.get
  unfold maxLen at hcm
  replace hel := hid hel
  obtain ⟨N, hN⟩ : ∃ N, l.length = N := ⟨_, rfl⟩
  rw [hN] at hnc ⊢
  have hln := hid hN
  clear ho hN
  go_enter Try.func17, Try.ntmps17
  go_wp2
  go_loopw [5] (fun i wr => ∃ k : Nat, k ≤ N ∧ i = .int .i64 k ∧ Hid (∀ (j : Nat) (x : Oc), j < k → l[j]? = some x → x.reply.small = true) ∧ Below w.heap.size w wr) (fun i _ => N - (intOf i).toNat)
  case atStart => exact ⟨0, Nat.zero_le _, rfl, fun j x h => by omega, Below.refl _ _⟩
  case round =>
    obtain ⟨k, hk, rfl, hri, hbw⟩ := hrel
    by_cases hlt : k < N
    · obtain ⟨x, hgx⟩ := get_some hln.out hlt
      obtain ⟨b, o, da, dc, oa, oc, rfl, ⟨p0, p1, p2, p3, p4, p5, p6, p7, p8⟩, hd, hob, _⟩ := hel.out k x hgx
      have e1 := cell_keep hbw p1
      have e2 := cell_keep hbw p2
      have e3 := cell_keep hbw p3
      have e4 := cell_keep hbw p4
      have e5 := cell_keep hbw p5
      have e6 := cell_keep hbw p6
      have e7 := cell_keep hbw p7
      have e8 := cell_keep hbw p8
      have hkl : (k : Int) < (N : Int) := by omega
      have HNO := hid (smallOcs_no (n := n) hgx)
      have HST := hid (show x.reply.small = true → ∀ (j : Nat) (u : Oc), j < k + 1 → l[j]? = some u → u.reply.small = true from fun hs j u hj hu => by
        by_cases hjk : j = k
        · subst hjk; rw [hgx] at hu; cases hu; exact hs
        · exact hri.out j u (by omega) hu)
      obtain ⟨S, hS⟩ : ∃ S, x.reply.small = S := ⟨_, rfl⟩
      have HC : Hid (Calls Try.prog 10 #[.agg #[.int .i64 x.reply.fn, .int .i64 x.reply.exc, .slice da x.reply.data.length dc, .int .i64 x.reply.code, .int .i64 x.reply.level, .bool x.reply.more, .int .i64 x.reply.next, .slice oa x.reply.objs.length oc]] wr fun r w' => r = .returned (.bool S) ∧ Below wr.heap.size wr w') := mreply_any _ _ _ _ _ _ _ _ x.reply.data x.reply.objs wr (hd.keep hbw) (hob.keep hbw) S hS
      clear p0 p1 p2 p3 p4 p5 p6 p7 p8 hd hob hri hgx
      rw [hS] at HNO HST
      clear hS
      generalize x.reply.data.length = dn at *
      generalize x.reply.objs.length = on at *
      cases S with
      | true =>
        have hSt := hid (HST.out rfl)
        go_wp2_with (go_at_call 10; (with_reducible refine HC.out.mono ?_); rintro r w1 ⟨rfl, hb1⟩)
        go_roundw
        case rel => exact ⟨k + 1, by omega, by go_num, hSt.out, bt hbw hb1 (Nat.le_refl _)⟩
        case measure => simp [intOf]; omega
      | false =>
        have HF := hid (HNO.out rfl)
        go_wp2_with (go_at_call 10; (with_reducible refine HC.out.mono ?_); rintro r w1 ⟨rfl, hb1⟩)
        go_ret
        exact ⟨by rw [← hV.out, HF.out]; rfl, bt hbw hb1 (Nat.le_refl _)⟩
    · obtain rfl : k = N := by omega
      have HF : Hid (V = decide ((k : Int) ≤ n)) := by
        show V = _
        rw [← hV.out]
        unfold smallOcs
        rw [hln.out, show (l.all fun o => o.reply.small) = true from by
          rw [List.all_eq_true]
          intro x hx
          obtain ⟨j, hj⟩ := List.getElem?_of_mem hx
          exact hri.out j x (by have := (List.getElem?_eq_some_iff.1 hj).1; have := hln.out; omega) hj, Bool.true_and]
      go_wp2
      go_ret
      exact ⟨by rw [HF.out]; rfl, hbw⟩

end Go.Proofs.Ytlaaoifjiogogaa
