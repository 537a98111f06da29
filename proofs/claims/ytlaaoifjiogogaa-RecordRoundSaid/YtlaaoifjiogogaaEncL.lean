/-
  The contracts of record.Encode and of the reference's Encode at every list of outcomes.
-/
import Derived.Test.YtlaaoifjiogogaaOcs
import Derived.Test.YtlaaoifjiogogaaRecR
import Derived.Test.YtlaaoifjiogogaaCodec2
namespace Go.Proofs.Ytlaaoifjiogogaa
open Go.RowKit

def encErr (l : List Oc) : Int := if 1 ≤ l.length ∧ l.length ≤ 64 then 5 else 4
/-- What Encode leaves. -/
def EncLPost (w : World) (l : List Oc) (r : Ending) (w' : World) : Prop :=
  (okL l = true → EncPost w (encL l) r w') ∧ (okL l = false → r = .returned (.tuple #[.slice none 0 0, .int .i64 (encErr l)]) ∧ Below w.heap.size w w')

theorem oc_enc_le {o : Oc} (h : o.ok = true) : o.enc.length ≤ 256 := by
  rcases oc_forms h with ⟨hv, he⟩ | ⟨hv, hk, h1, h2, he⟩ | ⟨hv, ht, he⟩ | ⟨hv, ht, hx, hr⟩
  · unfold Oc.enc; rw [if_neg (by omega), if_neg (by omega)]; simp
  · unfold Oc.enc; rw [if_pos hv]; simp
  · unfold Oc.enc; rw [if_neg (by omega), if_pos hv, if_pos ht]; simp
  · have := (pdu_le' hr).2
    unfold Oc.enc; rw [if_neg (by omega), if_pos hv, if_neg (by rw [ht]; decide)]; simp; omega

theorem okL_no {l : List Oc} {k : Nat} {x : Oc} (h : l[k]? = some x) (hx : x.ok = false) : okL l = false := by
  cases hs : okL l with
  | false => rfl
  | true =>
    simp only [okL, Bool.and_eq_true, List.all_eq_true] at hs
    have := hs.2 x (List.mem_of_getElem? h)
    rw [hx] at this; cases this
theorem okL_len {l : List Oc} (h : ¬ (1 ≤ l.length ∧ l.length ≤ 64)) : okL l = false := by
  cases hs : okL l with
  | false => rfl
  | true =>
    simp only [okL, Bool.and_eq_true, decide_eq_true_eq] at hs
    exact absurd hs.1 h
theorem okL_yes {l : List Oc} (h : 1 ≤ l.length ∧ l.length ≤ 64) (hk : ∀ (j : Nat) (x : Oc), j < l.length → l[j]? = some x → x.ok = true) : okL l = true := by
  simp only [okL, Bool.and_eq_true, decide_eq_true_eq, List.all_eq_true]
  refine ⟨h, fun x hx => ?_⟩
  obtain ⟨j, hj⟩ := List.getElem?_of_mem hx
  exact hk j x (List.getElem?_eq_some_iff.1 hj).1 hj

theorem EncLPost.yes {w : World} {l : List Oc} {r : Ending} {w' : World} (h : okL l = true) (hp : EncPost w (encL l) r w') : EncLPost w l r w' := ⟨fun _ => hp, fun h2 => absurd (h.symm.trans h2) (by decide)⟩
theorem EncLPost.no {w : World} {l : List Oc} {w' : World} {e : Int} (h : okL l = false) (he : encErr l = e) (hb : Below w.heap.size w w') : EncLPost w l (.returned (.tuple #[.slice none 0 0, .int .i64 e])) w' := ⟨fun h2 => absurd (h.symm.trans h2) (by decide), fun _ => ⟨by rw [he], hb⟩⟩

/-- What is known of an outcome that is handed over by value, in every later world. -/
structure OcIs (w : World) (x : Oc) (da : Option Addr) (dc : Nat) (oa : Option Addr) (oc : Nat) : Prop where
  d : Bs w (.slice da x.reply.data.length dc) x.reply.data
  o : Obs w (.slice oa x.reply.objs.length oc) x.reply.objs
  hi : x.reply.level ≤ 9223372036854775807
  lo : -9223372036854775808 ≤ x.reply.level
theorem OcIs.keep {w w' : World} {x : Oc} {da : Option Addr} {dc : Nat} {oa : Option Addr} {oc : Nat} (h : OcIs w x da dc oa oc) (hb : Below w.heap.size w w') : OcIs w' x da dc oa oc := ⟨h.d.keep hb, h.o.keep hb, h.hi, h.lo⟩

theorem valid_oc {W : World} {x : Oc} {da : Option Addr} {dc : Nat} {oa : Option Addr} {oc : Nat} (h : OcIs W x da dc oa oc) (V : Bool) (hV : x.ok = V) :
    Calls Try.prog 15 #[.agg #[.int .i64 x.verdict, .int .i64 x.reply.fn, .int .i64 x.reply.exc, .slice da x.reply.data.length dc, .int .i64 x.reply.code, .int .i64 x.reply.level, .bool x.reply.more, .int .i64 x.reply.next, .slice oa x.reply.objs.length oc]] W fun r w' => r = .returned (.bool V) ∧ Below W.heap.size W w' :=
  validOc_any x.verdict _ _ _ _ _ _ _ _ x.reply.data x.reply.objs W h.d h.o h.hi h.lo V hV
theorem rvalid_oc {W : World} {x : Oc} {da : Option Addr} {dc : Nat} {oa : Option Addr} {oc : Nat} (h : OcIs W x da dc oa oc) (V : Bool) (hV : x.ok = V) :
    Calls Try.prog 16 #[.agg #[.int .i64 x.verdict, .int .i64 x.reply.fn, .int .i64 x.reply.exc, .slice da x.reply.data.length dc, .int .i64 x.reply.code, .int .i64 x.reply.level, .bool x.reply.more, .int .i64 x.reply.next, .slice oa x.reply.objs.length oc]] W fun r w' => r = .returned (.bool V) ∧ Below W.heap.size W w' :=
  rvalidOc_any x.verdict _ _ _ _ _ _ _ _ x.reply.data x.reply.objs W h.d h.o V hV
theorem app_oc {w0 W : World} {x : Oc} {da : Option Addr} {dc : Nat} {oa : Option Addr} {oc : Nat} (h : OcIs w0 x da dc oa oc) (hk : x.ok = true) (hb : Below w0.heap.size w0 W) (ba : Option Addr) (bc : Nat) (bs : List UInt8) (hown : W.ownsRow w0.heap.size 5 1 (.slice ba bs.length bc) bs.length (u8s bs)) (hlen : bs.length ≤ 1000000) :
    Calls Try.prog 49 #[.slice ba bs.length bc, .agg #[.int .i64 x.verdict, .int .i64 x.reply.fn, .int .i64 x.reply.exc, .slice da x.reply.data.length dc, .int .i64 x.reply.code, .int .i64 x.reply.level, .bool x.reply.more, .int .i64 x.reply.next, .slice oa x.reply.objs.length oc]] W (AppPost w0.heap.size W (bs ++ x.enc)) :=
  appOc_any x.verdict x.reply.fn x.reply.exc x.reply.code x.reply.level x.reply.more x.reply.next x.reply.data x.reply.objs da oa dc oc ba bc bs w0.heap.size W hown hb.size hlen w0 hb (Nat.le_refl _) h.d h.o h.hi h.lo hk

set_option maxRecDepth 100000 in
set_option maxHeartbeats 6400000 in
theorem recEncode_any (v : Value) (l : List Oc) (w : World) (ho : Ocs w v l) : Calls Try.prog 18 #[v] w (EncLPost w l) := by
  obtain ⟨a, c, rfl, _⟩ := id ho
  obtain ⟨-, hnc, hcm, hel⟩ := ho.get
  unfold maxLen at hcm
  have HEL := hid hel
  obtain ⟨N, hN⟩ : ∃ N, l.length = N := ⟨_, rfl⟩
  rw [hN] at hnc ⊢
  have hln := hid hN
  by_cases hr : 1 ≤ N ∧ N ≤ 64
  · have HE5 : Hid (encErr l = 5) := by show _ = _; unfold encErr; rw [if_pos (by omega)]
    obtain ⟨hr1, hr2⟩ := hr
    have hN0 : N ≠ 0 := by omega
    have hu : IntKind.u8.wrap (N : Int) = (N : Int) := by show (N : Int) % 256 = N; omega
    have hO1 := hid (own1 w w.heap.size N (by omega) (by omega) (Nat.le_refl _))
    clear ho hN hel
    go_enter Try.func18, Try.ntmps18
    go_wp2_with fail
    go_loopw [4, 21] (fun bv idx wr => ∃ (k : Nat) (bs : List UInt8) (ba : Option Addr) (bc : Nat), k ≤ N ∧ idx = .int .i64 k ∧ bv = .slice ba bs.length bc ∧ bs.length ≤ 1 + 256 * k ∧ Hid (wr.ownsRow w.heap.size 5 1 (.slice ba bs.length bc) bs.length (u8s bs)) ∧ Hid (bs = byteI N :: encAll (l.take k)) ∧ Hid (∀ (j : Nat) (x : Oc), j < k → l[j]? = some x → x.ok = true) ∧ Below w.heap.size w wr) (fun _ idx _ => N - (intOf idx).toNat)
    case atStart => exact ⟨0, [byteI N], some ⟨w.heap.size, 0, none⟩, 1, by omega, rfl, rfl, by simp, hO1.out, rfl, fun j x h => by omega, bal' w _⟩
    case round =>
      obtain ⟨k, bs, ba, bc, hk, rfl, rfl, hbl, hown, hbs, hall, hbw⟩ := hrel
      by_cases hlt : k < N
      · obtain ⟨x, hgx⟩ := get_some hln.out hlt
        obtain ⟨b, o, da, dc, oa, oc, rfl, ⟨p0, p1, p2, p3, p4, p5, p6, p7, p8⟩, hd, hob, hlv⟩ := HEL.out k x hgx
        have e0 := cell_keep hbw p0
        have e1 := cell_keep hbw p1
        have e2 : wr.cell? ⟨b, o + k * 9 + 2, none⟩ = _ := cell_keep hbw p2
        have e3 : wr.cell? ⟨b, o + k * 9 + 3, none⟩ = _ := cell_keep hbw p3
        have e4 : wr.cell? ⟨b, o + k * 9 + 4, none⟩ = _ := cell_keep hbw p4
        have e5 : wr.cell? ⟨b, o + k * 9 + 5, none⟩ = _ := cell_keep hbw p5
        have e6 : wr.cell? ⟨b, o + k * 9 + 6, none⟩ = _ := cell_keep hbw p6
        have e7 : wr.cell? ⟨b, o + k * 9 + 7, none⟩ = _ := cell_keep hbw p7
        have e8 : wr.cell? ⟨b, o + k * 9 + 8, none⟩ = _ := cell_keep hbw p8
        clear p0 p1 p2 p3 p4 p5 p6 p7 p8
        have HX := hid (OcIs.mk hd hob hlv.1 hlv.2)
        obtain ⟨V, hV⟩ : ∃ V, x.ok = V := ⟨_, rfl⟩
        have HV : Hid (∀ W, Below w.heap.size w W → Calls Try.prog 15 #[.agg #[.int .i64 x.verdict, .int .i64 x.reply.fn, .int .i64 x.reply.exc, .slice da x.reply.data.length dc, .int .i64 x.reply.code, .int .i64 x.reply.level, .bool x.reply.more, .int .i64 x.reply.next, .slice oa x.reply.objs.length oc]] W fun r w' => r = .returned (.bool V) ∧ Below W.heap.size W w') := fun W hW => valid_oc (HX.out.keep hW) V hV
        have HA : Hid (V = true → ∀ W, Below w.heap.size w W → W.ownsRow w.heap.size 5 1 (.slice ba bs.length bc) bs.length (u8s bs) → Calls Try.prog 49 #[.slice ba bs.length bc, .agg #[.int .i64 x.verdict, .int .i64 x.reply.fn, .int .i64 x.reply.exc, .slice da x.reply.data.length dc, .int .i64 x.reply.code, .int .i64 x.reply.level, .bool x.reply.more, .int .i64 x.reply.next, .slice oa x.reply.objs.length oc]] W (AppPost w.heap.size W (bs ++ x.enc))) := fun h W hW ho => app_oc HX.out (hV.trans h) hW ba bc bs ho (by omega)
        have HNO := hid (fun h : V = false => okL_no hgx (hV.trans h))
        have HLE := hid (fun h : V = true => oc_enc_le (hV.trans h))
        have HTK := hid (take_succ_snoc hgx)
        have HST := hid (show V = true → ∀ (j : Nat) (u : Oc), j < k + 1 → l[j]? = some u → u.ok = true from fun hs j u hj hu => by
          by_cases hjk : j = k
          · subst hjk; rw [hgx] at hu; cases hu; exact hV.trans hs
          · exact hall.out j u (by omega) hu)
        clear hd hob hlv hgx hV hall HX
        have hkl : (k : Int) < (N : Int) := by omega
        have hsz := hbw.size
        generalize x.reply.data.length = dn at *
        generalize x.reply.objs.length = on at *
        go_wp2_with fail
        refine (HV.out _ (bta hbw (Nat.le_refl _) _)).mono ?_
        rintro r w3 ⟨rfl, hb3⟩
        cases V with
        | false =>
          have HF := hid (HNO.out rfl)
          go_wp2
          go_ret2
          exact EncLPost.no HF.out HE5.out (bt (bta hbw (Nat.le_refl _) _) hb3 (Nat.le_refl _))
        | true =>
          have hgx3 : w3.heap[wr.heap.size]? = some (.cells #[.int .i64 x.verdict, .int .i64 x.reply.fn, .int .i64 x.reply.exc, .slice da dn dc, .int .i64 x.reply.code, .int .i64 x.reply.level, .bool x.reply.more, .int .i64 x.reply.next, .slice oa on oc] 27 (0, 0)) := by rw [hb3.block _ (by simp)]; exact heap_alloc_new _ _
          have q0 : w3.cell? ⟨wr.heap.size, 0, none⟩ = some (.int .i64 x.verdict) := cell_heap hgx3 0
          have q1 : w3.cell? ⟨wr.heap.size, 1, none⟩ = some (.int .i64 x.reply.fn) := cell_heap hgx3 1
          have q2 : w3.cell? ⟨wr.heap.size, 2, none⟩ = some (.int .i64 x.reply.exc) := cell_heap hgx3 2
          have q3 : w3.cell? ⟨wr.heap.size, 3, none⟩ = some (.slice da dn dc) := cell_heap hgx3 3
          have q4 : w3.cell? ⟨wr.heap.size, 4, none⟩ = some (.int .i64 x.reply.code) := cell_heap hgx3 4
          have q5 : w3.cell? ⟨wr.heap.size, 5, none⟩ = some (.int .i64 x.reply.level) := cell_heap hgx3 5
          have q6 : w3.cell? ⟨wr.heap.size, 6, none⟩ = some (.bool x.reply.more) := cell_heap hgx3 6
          have q7 : w3.cell? ⟨wr.heap.size, 7, none⟩ = some (.int .i64 x.reply.next) := cell_heap hgx3 7
          have q8 : w3.cell? ⟨wr.heap.size, 8, none⟩ = some (.slice oa on oc) := cell_heap hgx3 8
          have hb4 : Below w.heap.size w w3 := bt (bta hbw (Nat.le_refl _) _) hb3 (Nat.le_refl _)
          have HO3 : Hid (w3.ownsRow w.heap.size 5 1 (.slice ba bs.length bc) bs.length (u8s bs)) := own_keeps (hown.out.alloc _) (Keeps.of_below (F := fun _ => False) hb3) (fun _ _ f => f)
          have HLE2 := HLE.out rfl
          have HS2 := hid (HST.out rfl)
          clear hgx3 hb3 hown
          go_wp2_with fail
          refine (HA.out (by trivial) _ hb4 HO3.out).mono ?_
          rintro r w5 ⟨a5, c5, rfl, hown5, hb5⟩
          have HO5 := hid hown5
          have hb6 : Below w.heap.size w w5 := hb4.trans hb5
          have HB5 : Hid (bs ++ x.enc = byteI N :: encAll (l.take (k + 1))) := by show _ = _; rw [HTK.out, encAll_snoc, hbs.out]; rfl
          have HL5 := hid (show (bs ++ x.enc).length = bs.length + x.enc.length from List.length_append)
          clear hown5 hb5 hbs
          go_wp2
          go_roundw
          case rel => exact ⟨k + 1, bs ++ x.enc, a5, c5, by omega, by go_num, by rw [HL5.out], by rw [HL5.out]; omega, HO5.out, HB5.out, HS2.out, hb6⟩
          case measure => simp [intOf]; omega
      · obtain rfl : k = N := by omega
        have HB := hid (Bs.own hown.out)
        have HLO := hid hown.out.lt
        have HOK := hid (okL_yes (l := l) (by have := hln.out; omega) (fun j x hj hx => hall.out j x (by have := hln.out; omega) hx))
        have HEQ : Hid (bs = encL l) := by
          show bs = _
          rw [hbs.out, List.take_of_length_le (by have := hln.out; omega)]
          unfold encL
          rw [hln.out]
        clear hown hbs hall
        go_wp2
        go_ret2
        exact EncLPost.yes HOK.out (by rw [← HEQ.out]; exact ⟨ba, bc, rfl, HB.out, hbw, fun ad h => (HLO.out ad.block (by rw [h]; rfl)).1⟩)
  · have HE4 : Hid (encErr l = 4) := by show _ = _; unfold encErr; rw [if_neg (by omega)]
    have HF := hid (okL_len (l := l) (by omega))
    rcases (show N = 0 ∨ 64 < N by omega) with rfl | h64
    · clear ho hN hel hr
      go_enter Try.func18, Try.ntmps18
      go_wp2
      go_ret2
      exact EncLPost.no HF.out HE4.out (Below.refl _ _)
    · have hN0 : N ≠ 0 := by omega
      clear ho hN hel hr
      go_enter Try.func18, Try.ntmps18
      go_wp2
      go_ret2
      exact EncLPost.no HF.out HE4.out (Below.refl _ _)

end Go.Proofs.Ytlaaoifjiogogaa
