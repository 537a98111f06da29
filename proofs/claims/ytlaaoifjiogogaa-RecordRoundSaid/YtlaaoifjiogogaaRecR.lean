/-
  The bytes of an outcome, and the contract of record.appendOutcome at every valid outcome.
-/
import Derived.Test.YtlaaoifjiogogaaRecQ
namespace Go.Proofs.Ytlaaoifjiogogaa
open Go.RowKit

theorem pdu_le {fn exc : Int} {data : List UInt8} {code level : Int} {more : Bool} {next : Int} {objs : List Ob} (h : Rp.ok ⟨fn, exc, data, code, level, more, next, objs⟩ = true) : (Rp.pdu ⟨fn, exc, data, code, level, more, next, objs⟩).length ≤ 253 := by
  obtain ⟨hf, h | h | h⟩ := ok_cases h
  · have e : Rp.pdu ⟨fn, exc, data, code, level, more, next, objs⟩ = [byteI (fn + 128), byteI exc] := by unfold Rp.pdu; rw [if_neg h.1]
    rw [e]; simp
  · obtain ⟨rfl, h43, h1, h2⟩ := h
    have e : Rp.pdu ⟨fn, 0, data, code, level, more, next, objs⟩ = byteI fn :: byteI data.length :: data := by unfold Rp.pdu; rw [if_pos rfl, if_neg h43]
    rw [e]; simp; omega
  · obtain ⟨rfl, rfl, rfl, h1, h2, h3, h4, h5, h6, h7⟩ := h
    have e : Rp.pdu ⟨43, 0, [], code, level, more, next, objs⟩ = devHead ⟨43, 0, [], code, level, more, next, objs⟩ ++ encObs objs := by unfold Rp.pdu; rw [if_pos rfl, if_pos rfl]
    obtain ⟨_, hb, _⟩ := objsB_bd h7
    rw [e, List.length_append, encObs_length]
    show 7 + _ ≤ 253
    omega

theorem appOc_any (v fn exc : Int) (code level : Int) (more : Bool) (next : Int) (data : List UInt8) (objs : List Ob) (da oa : Option Addr) (dc oc : Nat) (ba : Option Addr) (bc : Nat) (bs : List UInt8) (base : Nat) (w : World) (hown : w.ownsRow base 5 1 (.slice ba bs.length bc) bs.length (u8s bs)) (hbase : base ≤ w.heap.size) (hlen : bs.length ≤ 1000000)
    (w0 : World) (hb0 : Below w0.heap.size w0 w) (hbase0 : w0.heap.size ≤ base) (hd : Bs w0 (.slice da data.length dc) data) (ho : Obs w0 (.slice oa objs.length oc) objs) (hl : level ≤ 9223372036854775807) (hl2 : -9223372036854775808 ≤ level) (hk : Oc.ok ⟨v, ⟨fn, exc, data, code, level, more, next, objs⟩⟩ = true) :
    Calls Try.prog 49 #[.slice ba bs.length bc, .agg #[.int .i64 v, .int .i64 fn, .int .i64 exc, .slice da data.length dc, .int .i64 code, .int .i64 level, .bool more, .int .i64 next, .slice oa objs.length oc]] w (AppPost base w (bs ++ Oc.enc ⟨v, ⟨fn, exc, data, code, level, more, next, objs⟩⟩)) := by
  rcases verdict_cases v with h | rfl | rfl | ⟨h, _⟩
  · have e : Oc.enc ⟨v, ⟨fn, exc, data, code, level, more, next, objs⟩⟩ = [byteI v] := by
      unfold Oc.enc
      rw [if_neg (show ¬ v = 2 by omega), if_neg (show ¬ v = 1 by omega)]
    rw [e]
    exact appOc_silent v fn exc code level more next da oa data.length dc objs.length oc ba bc bs base w hown hbase hlen h
  · rw [Oc.ok_2 rfl] at hk
    simp only [Bool.and_eq_true, Bool.not_eq_true', beq_eq_false_iff_ne] at hk
    obtain ⟨hx, hr⟩ := hk
    obtain ⟨⟨f1, f2⟩, h | h | h⟩ := ok_cases hr
    · exact appOc_exc fn exc code level more next da oa data.length dc objs.length oc ba bc bs base w hown hbase hlen (by omega) (by omega) (by omega) (by omega)
    · exact absurd h.1 hx
    · exact absurd h.1 hx
  · rw [Oc.ok_1 rfl] at hk
    simp only [Bool.and_eq_true, beq_iff_eq] at hk
    obtain ⟨hx, hr⟩ := hk
    cases ht : tblB fn with
    | true =>
      have e : Oc.enc ⟨1, ⟨fn, exc, data, code, level, more, next, objs⟩⟩ = [byteI 1, byteI fn] := by
        unfold Oc.enc
        rw [if_neg (show ¬ (1 : Int) = 2 by decide), if_pos rfl, if_pos ht]
      rw [e]
      exact appOc_tab fn exc code level more next data objs da oa dc oc ba bc bs base w hown hbase hlen ht
    | false =>
      have e : bs ++ Oc.enc ⟨1, ⟨fn, exc, data, code, level, more, next, objs⟩⟩ = bs ++ [byteI 1, byteI fn] ++ [byteI (Rp.pdu ⟨fn, exc, data, code, level, more, next, objs⟩).length] ++ Rp.pdu ⟨fn, exc, data, code, level, more, next, objs⟩ := by
        unfold Oc.enc
        rw [if_neg (show ¬ (1 : Int) = 2 by decide), if_pos rfl, if_neg (by rw [ht]; decide)]
        simp
      rw [if_neg (by rw [ht]; decide)] at hr
      rw [e]
      exact appOc_pdu fn exc code level more next data objs da oa dc oc ba bc bs base w hown hbase hlen ht w0 hb0 hbase0 hd ho hl hl2 hr (pdu_le hr)
  · rw [Oc.ok_no h] at hk
    cases hk

end Go.Proofs.Ytlaaoifjiogogaa
