/-
  The contracts of reply.Encode and of the reference's EncodeReply at every valid reply.
-/
import Derived.Test.YtlaaoifjiogogaaPduC
import Derived.Test.YtlaaoifjiogogaaPduD
namespace Go.Proofs.Ytlaaoifjiogogaa
open Go.RowKit

theorem enc_any (fn exc : Int) (code level : Int) (more : Bool) (next : Int) (data : List UInt8) (objs : List Ob) (da oa : Option Addr) (dc oc : Nat) (w : World) (hd : Bs w (.slice da data.length dc) data) (ho : Obs w (.slice oa objs.length oc) objs) (hl : level ≤ 9223372036854775807) (hl2 : -9223372036854775808 ≤ level) (hk : Rp.ok ⟨fn, exc, data, code, level, more, next, objs⟩ = true) :
    Calls Try.prog 89 #[.agg #[.int .i64 fn, .int .i64 exc, .slice da data.length dc, .int .i64 code, .int .i64 level, .bool more, .int .i64 next, .slice oa objs.length oc]] w (EncPost w (Rp.pdu ⟨fn, exc, data, code, level, more, next, objs⟩)) := by
  obtain ⟨hf, h | h | h⟩ := ok_cases hk
  · obtain ⟨hx, h1, h2⟩ := h
    have e : Rp.pdu ⟨fn, exc, data, code, level, more, next, objs⟩ = [byteI (fn + 128), byteI exc] := by unfold Rp.pdu; rw [if_neg hx]
    rw [e]
    exact enc_exc fn exc code level more next data objs da oa dc oc w hd ho hl hl2 hk hf ⟨h1, h2⟩
  · obtain ⟨rfl, h43, h1, h2⟩ := h
    have e : Rp.pdu ⟨fn, 0, data, code, level, more, next, objs⟩ = byteI fn :: byteI data.length :: data := by unfold Rp.pdu; rw [if_pos rfl, if_neg h43]
    rw [e]
    exact enc_data fn code level more next data objs da oa dc oc w hd ho hl hl2 hk ⟨hf.1, h1⟩ h2
  · obtain ⟨rfl, rfl, rfl, h1, h2, h3, h4, h5, h6, h7⟩ := h
    have e : Rp.pdu ⟨43, 0, [], code, level, more, next, objs⟩ = devHead ⟨43, 0, [], code, level, more, next, objs⟩ ++ encObs objs := by unfold Rp.pdu; rw [if_pos rfl, if_pos rfl]
    rw [e]
    exact enc_dev code level more next objs da oa dc oc w hd ho hk h1 h2 h3 h4 h5 h6 h7 _ rfl

theorem renc_any (fn exc : Int) (code level : Int) (more : Bool) (next : Int) (data : List UInt8) (objs : List Ob) (da oa : Option Addr) (dc oc : Nat) (w : World) (hd : Bs w (.slice da data.length dc) data) (ho : Obs w (.slice oa objs.length oc) objs) (hk : Rp.ok ⟨fn, exc, data, code, level, more, next, objs⟩ = true) :
    Calls Try.prog 90 #[.agg #[.int .i64 fn, .int .i64 exc, .slice da data.length dc, .int .i64 code, .int .i64 level, .bool more, .int .i64 next, .slice oa objs.length oc]] w (EncPost w (Rp.pdu ⟨fn, exc, data, code, level, more, next, objs⟩)) := by
  obtain ⟨hf, h | h | h⟩ := ok_cases hk
  · obtain ⟨hx, h1, h2⟩ := h
    have e : Rp.pdu ⟨fn, exc, data, code, level, more, next, objs⟩ = [byteI (fn + 128), byteI exc] := by unfold Rp.pdu; rw [if_neg hx]
    rw [e]
    exact renc_exc fn exc code level more next data objs da oa dc oc w hd ho hk hf ⟨h1, h2⟩
  · obtain ⟨rfl, h43, h1, h2⟩ := h
    have e : Rp.pdu ⟨fn, 0, data, code, level, more, next, objs⟩ = byteI fn :: byteI data.length :: data := by unfold Rp.pdu; rw [if_pos rfl, if_neg h43]
    rw [e]
    exact renc_data fn code level more next data objs da oa dc oc w hd ho hk ⟨hf.1, h1⟩ h2
  · obtain ⟨rfl, rfl, rfl, h1, h2, h3, h4, h5, h6, h7⟩ := h
    have e : Rp.pdu ⟨43, 0, [], code, level, more, next, objs⟩ = devHead ⟨43, 0, [], code, level, more, next, objs⟩ ++ encObs objs := by unfold Rp.pdu; rw [if_pos rfl, if_pos rfl]
    rw [e]
    exact renc_dev code level more next objs da oa dc oc w hd ho hk h1 h2 h3 h4 h5 h6 h7 _ rfl

end Go.Proofs.Ytlaaoifjiogogaa
