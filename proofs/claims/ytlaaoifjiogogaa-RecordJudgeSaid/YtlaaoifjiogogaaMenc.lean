/-
  Several texts of this claim in one file.
-/
import Derived.Test.YtlaaoifjiogogaaMrech
import Derived.Test.YtlaaoifjiogogaaMpdue
import Derived.Test.YtlaaoifjiogogaaMplain
import Derived.Deep.RegionHeld3
/-
The contracts of record.Encode and of the reference's Encode at every list of outcomes.
-/
namespace Go.Proofs.Ytlaaoifjiogogaa
open Go.RowKit

def encErr (l : List Oc) : Int := if 1 ≤ l.length ∧ l.length ≤ 64 then 5 else 4
/-- What Encode leaves. -/
def EncLPost (w : World) (l : List Oc) (r : Ending) (w' : World) : Prop :=
  (okL l = true → EncPost w (encL l) r w') ∧ (okL l = false → r = .returned (.tuple #[.slice none 0 0, .int .i64 (encErr l)]) ∧ Below w.heap.size w w')

theorem oc_enc_le {o : Oc} (h : o.ok = true) : o.enc.length ≤ 256 := by
  rcases oc_forms h with ⟨hv, he⟩ | ⟨hv, hk, h1, h2, he⟩ | ⟨hv, ht, he⟩ | ⟨hv, ht, hx, hr⟩
  · unfold Oc.enc; rw [if_neg (by omega), if_neg (by omega)]; simp
  · unfold Oc.enc; rw [if_pos hv]; simp
  · unfold Oc.enc; rw [if_neg (by omega), if_pos hv, if_pos ht]; simp
  · have := (pdu_le' hr).2
    unfold Oc.enc; rw [if_neg (by omega), if_pos hv, if_neg (by rw [ht]; decide)]; simp; omega

theorem okL_no {l : List Oc} {k : Nat} {x : Oc} (h : l[k]? = some x) (hx : x.ok = false) : okL l = false := by
  cases hs : okL l with
  | false => rfl
  | true =>
    simp only [okL, Bool.and_eq_true, List.all_eq_true] at hs
    have := hs.2 x (List.mem_of_getElem? h)
    rw [hx] at this; cases this
theorem okL_len {l : List Oc} (h : ¬ (1 ≤ l.length ∧ l.length ≤ 64)) : okL l = false := by
  cases hs : okL l with
  | false => rfl
  | true =>
    simp only [okL, Bool.and_eq_true, decide_eq_true_eq] at hs
    exact absurd hs.1 h
theorem okL_yes {l : List Oc} (h : 1 ≤ l.length ∧ l.length ≤ 64) (hk : ∀ (j : Nat) (x : Oc), j < l.length → l[j]? = some x → x.ok = true) : okL l = true := by
  simp only [okL, Bool.and_eq_true, decide_eq_true_eq, List.all_eq_true]
  refine ⟨h, fun x hx => ?_⟩
  obtain ⟨j, hj⟩ := List.getElem?_of_mem hx
  exact hk j x (List.getElem?_eq_some_iff.1 hj).1 hj

theorem EncLPost.yes {w : World} {l : List Oc} {r : Ending} {w' : World} (h : okL l = true) (hp : EncPost w (encL l) r w') : EncLPost w l r w' := ⟨fun _ => hp, fun h2 => absurd (h.symm.trans h2) (by decide)⟩
theorem EncLPost.no {w : World} {l : List Oc} {w' : World} {e : Int} (h : okL l = false) (he : encErr l = e) (hb : Below w.heap.size w w') : EncLPost w l (.returned (.tuple #[.slice none 0 0, .int .i64 e])) w' := ⟨fun h2 => absurd (h.symm.trans h2) (by decide), fun _ => ⟨by rw [he], hb⟩⟩

/-- What is known of an outcome that is handed over by value, in every later world. -/
structure OcIs (w : World) (x : Oc) (da : Option Addr) (dc : Nat) (oa : Option Addr) (oc : Nat) : Prop where
  d : Bs w (.slice da x.reply.data.length dc) x.reply.data
  o : Obs w (.slice oa x.reply.objs.length oc) x.reply.objs
  hi : x.reply.level ≤ 9223372036854775807
  lo : -9223372036854775808 ≤ x.reply.level
theorem OcIs.keep {w w' : World} {x : Oc} {da : Option Addr} {dc : Nat} {oa : Option Addr} {oc : Nat} (h : OcIs w x da dc oa oc) (hb : Below w.heap.size w w') : OcIs w' x da dc oa oc := ⟨h.d.keep hb, h.o.keep hb, h.hi, h.lo⟩

theorem valid_oc {W : World} {x : Oc} {da : Option Addr} {dc : Nat} {oa : Option Addr} {oc : Nat} (h : OcIs W x da dc oa oc) (V : Bool) (hV : x.ok = V) :
    Calls Try.prog 15 #[.agg #[.int .i64 x.verdict, .int .i64 x.reply.fn, .int .i64 x.reply.exc, .slice da x.reply.data.length dc, .int .i64 x.reply.code, .int .i64 x.reply.level, .bool x.reply.more, .int .i64 x.reply.next, .slice oa x.reply.objs.length oc]] W fun r w' => r = .returned (.bool V) ∧ Below W.heap.size W w' :=
  validOc_any x.verdict _ _ _ _ _ _ _ _ x.reply.data x.reply.objs W h.d h.o h.hi h.lo V hV
theorem rvalid_oc {W : World} {x : Oc} {da : Option Addr} {dc : Nat} {oa : Option Addr} {oc : Nat} (h : OcIs W x da dc oa oc) (V : Bool) (hV : x.ok = V) :
    Calls Try.prog 16 #[.agg #[.int .i64 x.verdict, .int .i64 x.reply.fn, .int .i64 x.reply.exc, .slice da x.reply.data.length dc, .int .i64 x.reply.code, .int .i64 x.reply.level, .bool x.reply.more, .int .i64 x.reply.next, .slice oa x.reply.objs.length oc]] W fun r w' => r = .returned (.bool V) ∧ Below W.heap.size W w' :=
  rvalidOc_any x.verdict _ _ _ _ _ _ _ _ x.reply.data x.reply.objs W h.d h.o V hV
theorem app_oc {w0 W : World} {x : Oc} {da : Option Addr} {dc : Nat} {oa : Option Addr} {oc : Nat} (h : OcIs w0 x da dc oa oc) (hk : x.ok = true) (hb : Below w0.heap.size w0 W) (ba : Option Addr) (bc : Nat) (bs : List UInt8) (hown : W.ownsRow w0.heap.size 5 1 (.slice ba bs.length bc) bs.length (u8s bs)) (hlen : bs.length ≤ 1000000) :
    Calls Try.prog 49 #[.slice ba bs.length bc, .agg #[.int .i64 x.verdict, .int .i64 x.reply.fn, .int .i64 x.reply.exc, .slice da x.reply.data.length dc, .int .i64 x.reply.code, .int .i64 x.reply.level, .bool x.reply.more, .int .i64 x.reply.next, .slice oa x.reply.objs.length oc]] W (AppPost w0.heap.size W (bs ++ x.enc)) :=
  appOc_any x.verdict x.reply.fn x.reply.exc x.reply.code x.reply.level x.reply.more x.reply.next x.reply.data x.reply.objs da oa dc oc ba bc bs w0.heap.size W hown hb.size hlen w0 hb (Nat.le_refl _) h.d h.o h.hi h.lo hk

set_option maxRecDepth 100000 in
set_option maxHeartbeats 6400000 in
theorem recEncode_any (v : Value) (l : List Oc) (w : World) (ho : Ocs w v l) : Calls Try.prog 18 #[v] w (EncLPost w l) := by
  obtain ⟨a, c, rfl, _⟩ := id ho
  obtain ⟨-, hnc, hcm, hel⟩ := ho.get
  unfold maxLen at hcm
  have HEL := hid hel
  obtain ⟨N, hN⟩ : ∃ N, l.length = N := ⟨_, rfl⟩
  rw [hN] at hnc ⊢
  have hln := hid hN
  by_cases hr : 1 ≤ N ∧ N ≤ 64
  · have HE5 : Hid (encErr l = 5) := by show _ = _; unfold encErr; rw [if_pos (by omega)]
    obtain ⟨hr1, hr2⟩ := hr
    have hN0 : N ≠ 0 := by omega
    have hu : IntKind.u8.wrap (N : Int) = (N : Int) := by show (N : Int) % 256 = N; omega
    have hO1 := hid (own1 w w.heap.size N (by omega) (by omega) (Nat.le_refl _))
    clear ho hN hel
    go_enter Try.func18, Try.ntmps18
    go_wp2_with fail
    go_loopw [4, 21] (fun bv idx wr => ∃ (k : Nat) (bs : List UInt8) (ba : Option Addr) (bc : Nat), k ≤ N ∧ idx = .int .i64 k ∧ bv = .slice ba bs.length bc ∧ bs.length ≤ 1 + 256 * k ∧ Hid (wr.ownsRow w.heap.size 5 1 (.slice ba bs.length bc) bs.length (u8s bs)) ∧ Hid (bs = byteI N :: encAll (l.take k)) ∧ Hid (∀ (j : Nat) (x : Oc), j < k → l[j]? = some x → x.ok = true) ∧ Below w.heap.size w wr) (fun _ idx _ => N - (intOf idx).toNat)
    case atStart => exact ⟨0, [byteI N], some ⟨w.heap.size, 0, none⟩, 1, by omega, rfl, rfl, by simp, hO1.out, rfl, fun j x h => by omega, bal' w _⟩
    case round =>
      obtain ⟨k, bs, ba, bc, hk, rfl, rfl, hbl, hown, hbs, hall, hbw⟩ := hrel
      by_cases hlt : k < N
      · obtain ⟨x, hgx⟩ := get_some hln.out hlt
        obtain ⟨b, o, da, dc, oa, oc, rfl, ⟨p0, p1, p2, p3, p4, p5, p6, p7, p8⟩, hd, hob, hlv⟩ := HEL.out k x hgx
        have e0 := cell_keep hbw p0
        have e1 := cell_keep hbw p1
        have e2 : wr.cell? ⟨b, o + k * 9 + 2, none⟩ = _ := cell_keep hbw p2
        have e3 : wr.cell? ⟨b, o + k * 9 + 3, none⟩ = _ := cell_keep hbw p3
        have e4 : wr.cell? ⟨b, o + k * 9 + 4, none⟩ = _ := cell_keep hbw p4
        have e5 : wr.cell? ⟨b, o + k * 9 + 5, none⟩ = _ := cell_keep hbw p5
        have e6 : wr.cell? ⟨b, o + k * 9 + 6, none⟩ = _ := cell_keep hbw p6
        have e7 : wr.cell? ⟨b, o + k * 9 + 7, none⟩ = _ := cell_keep hbw p7
        have e8 : wr.cell? ⟨b, o + k * 9 + 8, none⟩ = _ := cell_keep hbw p8
        clear p0 p1 p2 p3 p4 p5 p6 p7 p8
        have HX := hid (OcIs.mk hd hob hlv.1 hlv.2)
        obtain ⟨V, hV⟩ : ∃ V, x.ok = V := ⟨_, rfl⟩
        have HV : Hid (∀ W, Below w.heap.size w W → Calls Try.prog 15 #[.agg #[.int .i64 x.verdict, .int .i64 x.reply.fn, .int .i64 x.reply.exc, .slice da x.reply.data.length dc, .int .i64 x.reply.code, .int .i64 x.reply.level, .bool x.reply.more, .int .i64 x.reply.next, .slice oa x.reply.objs.length oc]] W fun r w' => r = .returned (.bool V) ∧ Below W.heap.size W w') := fun W hW => valid_oc (HX.out.keep hW) V hV
        have HA : Hid (V = true → ∀ W, Below w.heap.size w W → W.ownsRow w.heap.size 5 1 (.slice ba bs.length bc) bs.length (u8s bs) → Calls Try.prog 49 #[.slice ba bs.length bc, .agg #[.int .i64 x.verdict, .int .i64 x.reply.fn, .int .i64 x.reply.exc, .slice da x.reply.data.length dc, .int .i64 x.reply.code, .int .i64 x.reply.level, .bool x.reply.more, .int .i64 x.reply.next, .slice oa x.reply.objs.length oc]] W (AppPost w.heap.size W (bs ++ x.enc))) := fun h W hW ho => app_oc HX.out (hV.trans h) hW ba bc bs ho (by omega)
        have HNO := hid (fun h : V = false => okL_no hgx (hV.trans h))
        have HLE := hid (fun h : V = true => oc_enc_le (hV.trans h))
        have HTK := hid (take_succ_snoc hgx)
        have HST := hid (show V = true → ∀ (j : Nat) (u : Oc), j < k + 1 → l[j]? = some u → u.ok = true from fun hs j u hj hu => by
          by_cases hjk : j = k
          · subst hjk; rw [hgx] at hu; cases hu; exact hV.trans hs
          · exact hall.out j u (by omega) hu)
        clear hd hob hlv hgx hV hall HX
        have hkl : (k : Int) < (N : Int) := by omega
        have hsz := hbw.size
        generalize x.reply.data.length = dn at *
        generalize x.reply.objs.length = on at *
        go_wp2_with fail
        refine (HV.out _ (bta hbw (Nat.le_refl _) _)).mono ?_
        rintro r w3 ⟨rfl, hb3⟩
        cases V with
        | false =>
          have HF := hid (HNO.out rfl)
          go_wp2
          go_ret2
          exact EncLPost.no HF.out HE5.out (bt (bta hbw (Nat.le_refl _) _) hb3 (Nat.le_refl _))
        | true =>
          have hgx3 : w3.heap[wr.heap.size]? = some (.cells #[.int .i64 x.verdict, .int .i64 x.reply.fn, .int .i64 x.reply.exc, .slice da dn dc, .int .i64 x.reply.code, .int .i64 x.reply.level, .bool x.reply.more, .int .i64 x.reply.next, .slice oa on oc] 27 (0, 0)) := by rw [hb3.block _ (by simp)]; exact heap_alloc_new _ _
          have q0 : w3.cell? ⟨wr.heap.size, 0, none⟩ = some (.int .i64 x.verdict) := cell_heap hgx3 0
          have q1 : w3.cell? ⟨wr.heap.size, 1, none⟩ = some (.int .i64 x.reply.fn) := cell_heap hgx3 1
          have q2 : w3.cell? ⟨wr.heap.size, 2, none⟩ = some (.int .i64 x.reply.exc) := cell_heap hgx3 2
          have q3 : w3.cell? ⟨wr.heap.size, 3, none⟩ = some (.slice da dn dc) := cell_heap hgx3 3
          have q4 : w3.cell? ⟨wr.heap.size, 4, none⟩ = some (.int .i64 x.reply.code) := cell_heap hgx3 4
          have q5 : w3.cell? ⟨wr.heap.size, 5, none⟩ = some (.int .i64 x.reply.level) := cell_heap hgx3 5
          have q6 : w3.cell? ⟨wr.heap.size, 6, none⟩ = some (.bool x.reply.more) := cell_heap hgx3 6
          have q7 : w3.cell? ⟨wr.heap.size, 7, none⟩ = some (.int .i64 x.reply.next) := cell_heap hgx3 7
          have q8 : w3.cell? ⟨wr.heap.size, 8, none⟩ = some (.slice oa on oc) := cell_heap hgx3 8
          have hb4 : Below w.heap.size w w3 := bt (bta hbw (Nat.le_refl _) _) hb3 (Nat.le_refl _)
          have HO3 : Hid (w3.ownsRow w.heap.size 5 1 (.slice ba bs.length bc) bs.length (u8s bs)) := own_keeps (hown.out.alloc _) (Keeps.of_below (F := fun _ => False) hb3) (fun _ _ f => f)
          have HLE2 := HLE.out rfl
          have HS2 := hid (HST.out rfl)
          clear hgx3 hb3 hown
          go_wp2_with fail
          refine (HA.out (by trivial) _ hb4 HO3.out).mono ?_
          rintro r w5 ⟨a5, c5, rfl, hown5, hb5⟩
          have HO5 := hid hown5
          have hb6 : Below w.heap.size w w5 := hb4.trans hb5
          have HB5 : Hid (bs ++ x.enc = byteI N :: encAll (l.take (k + 1))) := by show _ = _; rw [HTK.out, encAll_snoc, hbs.out]; rfl
          have HL5 := hid (show (bs ++ x.enc).length = bs.length + x.enc.length from List.length_append)
          clear hown5 hb5 hbs
          go_wp2
          go_roundw
          case rel => exact ⟨k + 1, bs ++ x.enc, a5, c5, by omega, by go_num, by rw [HL5.out], by rw [HL5.out]; omega, HO5.out, HB5.out, HS2.out, hb6⟩
          case measure => simp [intOf]; omega
      · obtain rfl : k = N := by omega
        have HB := hid (Bs.own hown.out)
        have HLO := hid hown.out.lt
        have HOK := hid (okL_yes (l := l) (by have := hln.out; omega) (fun j x hj hx => hall.out j x (by have := hln.out; omega) hx))
        have HEQ : Hid (bs = encL l) := by
          show bs = _
          rw [hbs.out, List.take_of_length_le (by have := hln.out; omega)]
          unfold encL
          rw [hln.out]
        clear hown hbs hall
        go_wp2
        go_ret2
        exact EncLPost.yes HOK.out (by rw [← HEQ.out]; exact ⟨ba, bc, rfl, HB.out, hbw, fun ad h => (HLO.out ad.block (by rw [h]; rfl)).1⟩)
  · have HE4 : Hid (encErr l = 4) := by show _ = _; unfold encErr; rw [if_neg (by omega)]
    have HF := hid (okL_len (l := l) (by omega))
    rcases (show N = 0 ∨ 64 < N by omega) with rfl | h64
    · clear ho hN hel hr
      go_enter Try.func18, Try.ntmps18
      go_wp2
      go_ret2
      exact EncLPost.no HF.out HE4.out (Below.refl _ _)
    · have hN0 : N ≠ 0 := by omega
      clear ho hN hel hr
      go_enter Try.func18, Try.ntmps18
      go_wp2
      go_ret2
      exact EncLPost.no HF.out HE4.out (Below.refl _ _)

end Go.Proofs.Ytlaaoifjiogogaa

/-
The contract of modscanref27.one: the bytes of a valid outcome.
-/
namespace Go.Proofs.Ytlaaoifjiogogaa
open Go.RowKit

/-- What a call that answers new bytes leaves. -/
def OnePost (w : World) (l : List UInt8) (r : Ending) (w' : World) : Prop := ∃ a c, r = .returned (.slice a l.length c) ∧ Bs w' (.slice a l.length c) l ∧ Below w.heap.size w w' ∧ ∀ ad, a = some ad → w.heap.size ≤ ad.block

theorem OnePost.of_own {w w' : World} {l : List UInt8} {a : Option Addr} {n c : Nat} (hn : n = l.length) (h : w'.ownsRow w.heap.size 5 1 (.slice a n c) n (u8s l)) (hb : Below w.heap.size w w') : OnePost w l (.returned (.slice a n c)) w' := by
  subst hn
  exact ⟨a, c, rfl, Bs.own h, hb, fun ad had => (h.lt ad.block (by rw [had]; rfl)).1⟩

theorem enc_345 {x : Oc} (h : x.verdict = 3 ∨ x.verdict = 4 ∨ x.verdict = 5) : x.enc = [byteI x.verdict] := by
  unfold Oc.enc; rw [if_neg (by omega), if_neg (by omega)]
theorem enc_2 {x : Oc} (h : x.verdict = 2) : x.enc = [byteI 2] ++ [byteI x.reply.fn, byteI x.reply.exc] := by
  unfold Oc.enc; rw [if_pos h, h]; rfl
theorem enc_1t {x : Oc} (h : x.verdict = 1) (ht : tblB x.reply.fn = true) : x.enc = [byteI 1] ++ [byteI x.reply.fn] := by
  unfold Oc.enc; rw [if_neg (by omega), if_pos h, if_pos ht, h]; rfl
theorem enc_1n {x : Oc} (h : x.verdict = 1) (ht : tblB x.reply.fn = false) : x.enc = [byteI 1] ++ [byteI x.reply.fn] ++ [byteI x.reply.pdu.length] ++ x.reply.pdu := by
  unfold Oc.enc; rw [if_neg (by omega), if_pos h, if_neg (by rw [ht]; decide), h]; rfl

set_option maxRecDepth 100000 in
set_option maxHeartbeats 6400000 in
theorem rone_any {w : World} {x : Oc} {da : Option Addr} {dc : Nat} {oa : Option Addr} {oc : Nat} (h : OcIs w x da dc oa oc) (hk : x.ok = true) :
    Calls Try.prog 50 #[.agg #[.int .i64 x.verdict, .int .i64 x.reply.fn, .int .i64 x.reply.exc, .slice da x.reply.data.length dc, .int .i64 x.reply.code, .int .i64 x.reply.level, .bool x.reply.more, .int .i64 x.reply.next, .slice oa x.reply.objs.length oc]] w (OnePost w x.enc) := by
  obtain ⟨i5, hi, hz0, hz1, hz2⟩ := info_parts infoB
  rcases oc_forms hk with ⟨hv, he⟩ | ⟨hv, hkn, h1, h2, he⟩ | ⟨hv, ht, he⟩ | ⟨hv, ht, hx, hr⟩
  · rw [enc_345 hv]
    have t1 : (x.verdict == 2) = false := by rw [beq_eq_false_iff_ne]; omega
    have t2 : (x.verdict == 1) = false := by rw [beq_eq_false_iff_ne]; omega
    have hw8 : IntKind.u8.wrap x.verdict = x.verdict := by rcases hv with h | h | h <;> rw [h] <;> rfl
    have HO := hid (own1 (w.alloc (.cells #[.int .i64 x.verdict, .int .i64 x.reply.fn, .int .i64 x.reply.exc, .slice da x.reply.data.length dc, .int .i64 x.reply.code, .int .i64 x.reply.level, .bool x.reply.more, .int .i64 x.reply.next, .slice oa x.reply.objs.length oc] 27)) w.heap.size x.verdict (by omega) (by omega) (by simp))
    have hwz : (w.alloc (.cells #[.int .i64 x.verdict, .int .i64 x.reply.fn, .int .i64 x.reply.exc, .slice da x.reply.data.length dc, .int .i64 x.reply.code, .int .i64 x.reply.level, .bool x.reply.more, .int .i64 x.reply.next, .slice oa x.reply.objs.length oc] 27)).heap.size = w.heap.size + 1 := by simp
    rw [hwz] at HO
    clear h he hv hwz hk
    generalize x.reply.data.length = dn at *
    generalize x.reply.objs.length = on at *
    go_enter Try.func50, Try.ntmps50
    go_wp2
    go_ret
    exact OnePost.of_own rfl HO.out (b2 w _ _)
  · rw [enc_2 hv]
    have hf := known_bd hkn
    have u1 : IntKind.u8.wrap x.reply.fn = x.reply.fn := by show _ % 256 = _; omega
    have u2 : IntKind.u8.wrap x.reply.exc = x.reply.exc := by show _ % 256 = _; omega
    have HO := hid ((own1 (w.alloc (.cells #[.int .i64 x.verdict, .int .i64 x.reply.fn, .int .i64 x.reply.exc, .slice da x.reply.data.length dc, .int .i64 x.reply.code, .int .i64 x.reply.level, .bool x.reply.more, .int .i64 x.reply.next, .slice oa x.reply.objs.length oc] 27)) w.heap.size 2 (by omega) (by omega) (by simp)).alloc (.cells #[.int .u8 x.reply.fn, .int .u8 x.reply.exc] 5))
    have HB := hid (bs2 ((w.alloc (.cells #[.int .i64 x.verdict, .int .i64 x.reply.fn, .int .i64 x.reply.exc, .slice da x.reply.data.length dc, .int .i64 x.reply.code, .int .i64 x.reply.level, .bool x.reply.more, .int .i64 x.reply.next, .slice oa x.reply.objs.length oc] 27)).alloc (.cells #[.int .u8 2] 5)) (w.heap.size + 1 + 1) x.reply.fn x.reply.exc (by omega) (by omega) (by omega) (by omega) (by simp))
    have HBE := hid (b3 w (.cells #[.int .i64 x.verdict, .int .i64 x.reply.fn, .int .i64 x.reply.exc, .slice da x.reply.data.length dc, .int .i64 x.reply.code, .int .i64 x.reply.level, .bool x.reply.more, .int .i64 x.reply.next, .slice oa x.reply.objs.length oc] 27) (.cells #[.int .u8 2] 5) (.cells #[.int .u8 x.reply.fn, .int .u8 x.reply.exc] 5))
    have hwz : (w.alloc (.cells #[.int .i64 x.verdict, .int .i64 x.reply.fn, .int .i64 x.reply.exc, .slice da x.reply.data.length dc, .int .i64 x.reply.code, .int .i64 x.reply.level, .bool x.reply.more, .int .i64 x.reply.next, .slice oa x.reply.objs.length oc] 27)).heap.size = w.heap.size + 1 := by simp
    rw [hwz] at HO
    have hv' := hv
    rw [hv'] at HO HB HBE
    clear h he hk hwz hkn hv'
    generalize x.reply.data.length = dn at *
    generalize x.reply.objs.length = on at *
    generalize hvv : x.verdict = vv at *
    clear hvv
    subst hv
    go_enter Try.func50, Try.ntmps50
    go_wp2_with (at_builtin; refine wpList_app rfl _ _ 22 rfl w.heap.size 5 i5 Try.underlying22 hi hz0 hz1 hz2 _ [byteI 2] rfl HO.out _ [byteI x.reply.fn, byteI x.reply.exc] rfl HB.out (by simp) ?c2 ?c3)
    case c2 => first | omega | exact HBE.out.size
    case c3 =>
      intro v2 w2 hown2 hgr2
      have hb2 := HBE.out.grown hgr2 HBE.out.size (fun k hk => by cases hk; exact Nat.le_succ _)
      obtain ⟨a2, c2, rfl⟩ := own_slice hown2
      have HX := hid hown2
      have HY := hid hb2
      clear hown2 hgr2 hb2
      go_wp2
      go_ret
      exact OnePost.of_own rfl HX.out HY.out
  · rw [enc_1t hv ht]
    have hf := tblB_bd ht
    have hf4 : ¬ (4 < x.reply.fn) := by omega
    have u1 : IntKind.u8.wrap x.reply.fn = x.reply.fn := by show _ % 256 = _; omega
    have HO := hid ((own1 (w.alloc (.cells #[.int .i64 x.verdict, .int .i64 x.reply.fn, .int .i64 x.reply.exc, .slice da x.reply.data.length dc, .int .i64 x.reply.code, .int .i64 x.reply.level, .bool x.reply.more, .int .i64 x.reply.next, .slice oa x.reply.objs.length oc] 27)) w.heap.size 1 (by omega) (by omega) (by simp)).alloc (.cells #[.int .u8 x.reply.fn] 5))
    have HB := hid (bs1 ((w.alloc (.cells #[.int .i64 x.verdict, .int .i64 x.reply.fn, .int .i64 x.reply.exc, .slice da x.reply.data.length dc, .int .i64 x.reply.code, .int .i64 x.reply.level, .bool x.reply.more, .int .i64 x.reply.next, .slice oa x.reply.objs.length oc] 27)).alloc (.cells #[.int .u8 1] 5)) (w.heap.size + 1 + 1) x.reply.fn (by omega) (by omega) (by simp))
    have HBE := hid (b3 w (.cells #[.int .i64 x.verdict, .int .i64 x.reply.fn, .int .i64 x.reply.exc, .slice da x.reply.data.length dc, .int .i64 x.reply.code, .int .i64 x.reply.level, .bool x.reply.more, .int .i64 x.reply.next, .slice oa x.reply.objs.length oc] 27) (.cells #[.int .u8 1] 5) (.cells #[.int .u8 x.reply.fn] 5))
    have hwz : (w.alloc (.cells #[.int .i64 x.verdict, .int .i64 x.reply.fn, .int .i64 x.reply.exc, .slice da x.reply.data.length dc, .int .i64 x.reply.code, .int .i64 x.reply.level, .bool x.reply.more, .int .i64 x.reply.next, .slice oa x.reply.objs.length oc] 27)).heap.size = w.heap.size + 1 := by simp
    rw [hwz] at HO
    have hv' := hv
    rw [hv'] at HO HB HBE
    have HG : Hid ((((w.alloc (.cells #[.int .i64 1, .int .i64 x.reply.fn, .int .i64 x.reply.exc, .slice da x.reply.data.length dc, .int .i64 x.reply.code, .int .i64 x.reply.level, .bool x.reply.more, .int .i64 x.reply.next, .slice oa x.reply.objs.length oc] 27)).alloc (.cells #[.int .u8 1] 5)).alloc (.cells #[.int .u8 x.reply.fn] 5)).heap[w.heap.size]? = some (.cells #[.int .i64 1, .int .i64 x.reply.fn, .int .i64 x.reply.exc, .slice da x.reply.data.length dc, .int .i64 x.reply.code, .int .i64 x.reply.level, .bool x.reply.more, .int .i64 x.reply.next, .slice oa x.reply.objs.length oc] 27)) := (heap3 w _ _ _).1
    clear h he hk hwz hv'
    generalize x.reply.data.length = dn at *
    generalize x.reply.objs.length = on at *
    generalize hvv : x.verdict = vv at *
    clear hvv
    subst hv
    go_enter Try.func50, Try.ntmps50
    go_wp2_with (at_builtin; refine wpList_app rfl _ _ 22 rfl w.heap.size 5 i5 Try.underlying22 hi hz0 hz1 hz2 _ [byteI 1] rfl HO.out _ [byteI x.reply.fn] rfl HB.out (by simp) ?c2 ?c3)
    case c2 => first | omega | exact HBE.out.size
    case c3 =>
      intro v2 w2 hown2 hgr2
      have hb2 := HBE.out.grown hgr2 HBE.out.size (fun k hk => by cases hk; exact Nat.le_succ _)
      have hg2 : w2.heap[w.heap.size]? = some (.cells #[.int .i64 1, .int .i64 x.reply.fn, .int .i64 x.reply.exc, .slice da dn dc, .int .i64 x.reply.code, .int .i64 x.reply.level, .bool x.reply.more, .int .i64 x.reply.next, .slice oa on oc] 27) := by
        rw [hgr2.block _ (by simp; omega) (fun e => absurd (show w.heap.size = w.heap.size + 1 from Option.some.inj e) (by omega))]; exact HG.out
      have p1 : w2.cell? ⟨w.heap.size, 1, none⟩ = some (.int .i64 x.reply.fn) := cell_heap hg2 1
      obtain ⟨a2, c2, rfl⟩ := own_slice hown2
      have HX := hid hown2
      have HY := hid hb2
      clear hown2 hgr2 hb2 hg2
      go_wp2
      go_ret
      exact OnePost.of_own rfl HX.out HY.out
  · rw [enc_1n hv ht]
    have hf4 : 4 < x.reply.fn ∧ x.reply.fn ≤ 43 := by
      have h1 := (ok_cases (fn := x.reply.fn) (exc := x.reply.exc) (data := x.reply.data) (code := x.reply.code) (level := x.reply.level) (more := x.reply.more) (next := x.reply.next) (objs := x.reply.objs) hr).1
      have h2 : ¬ (1 ≤ x.reply.fn ∧ x.reply.fn ≤ 4) := fun h => by rw [tblB_iff.2 h] at ht; cases ht
      omega
    obtain ⟨f4, f43⟩ := hf4
    have u1 : IntKind.u8.wrap x.reply.fn = x.reply.fn := by show _ % 256 = _; omega
    have hpd := (pdu_le' hr).2
    have hup : IntKind.u8.wrap (x.reply.pdu.length : Int) = (x.reply.pdu.length : Int) := by show _ % 256 = _; omega
    have HEN : Hid (∀ W, Below w.heap.size w W → Calls Try.prog 90 #[.agg #[.int .i64 x.reply.fn, .int .i64 x.reply.exc, .slice da x.reply.data.length dc, .int .i64 x.reply.code, .int .i64 x.reply.level, .bool x.reply.more, .int .i64 x.reply.next, .slice oa x.reply.objs.length oc]] W (EncPost W x.reply.pdu)) := fun W hW => renc_any x.reply.fn x.reply.exc x.reply.code x.reply.level x.reply.more x.reply.next x.reply.data x.reply.objs da oa dc oc W (h.keep hW).d (h.keep hW).o hr
    have HO := hid ((own1 (w.alloc (.cells #[.int .i64 x.verdict, .int .i64 x.reply.fn, .int .i64 x.reply.exc, .slice da x.reply.data.length dc, .int .i64 x.reply.code, .int .i64 x.reply.level, .bool x.reply.more, .int .i64 x.reply.next, .slice oa x.reply.objs.length oc] 27)) w.heap.size 1 (by omega) (by omega) (by simp)).alloc (.cells #[.int .u8 x.reply.fn] 5))
    have HB := hid (bs1 ((w.alloc (.cells #[.int .i64 x.verdict, .int .i64 x.reply.fn, .int .i64 x.reply.exc, .slice da x.reply.data.length dc, .int .i64 x.reply.code, .int .i64 x.reply.level, .bool x.reply.more, .int .i64 x.reply.next, .slice oa x.reply.objs.length oc] 27)).alloc (.cells #[.int .u8 1] 5)) (w.heap.size + 1 + 1) x.reply.fn (by omega) (by omega) (by simp))
    have HBE := hid (b3 w (.cells #[.int .i64 x.verdict, .int .i64 x.reply.fn, .int .i64 x.reply.exc, .slice da x.reply.data.length dc, .int .i64 x.reply.code, .int .i64 x.reply.level, .bool x.reply.more, .int .i64 x.reply.next, .slice oa x.reply.objs.length oc] 27) (.cells #[.int .u8 1] 5) (.cells #[.int .u8 x.reply.fn] 5))
    have hwz : (w.alloc (.cells #[.int .i64 x.verdict, .int .i64 x.reply.fn, .int .i64 x.reply.exc, .slice da x.reply.data.length dc, .int .i64 x.reply.code, .int .i64 x.reply.level, .bool x.reply.more, .int .i64 x.reply.next, .slice oa x.reply.objs.length oc] 27)).heap.size = w.heap.size + 1 := by simp
    rw [hwz] at HO
    have hv' := hv
    rw [hv'] at HO HB HBE
    have HG : Hid ((((w.alloc (.cells #[.int .i64 1, .int .i64 x.reply.fn, .int .i64 x.reply.exc, .slice da x.reply.data.length dc, .int .i64 x.reply.code, .int .i64 x.reply.level, .bool x.reply.more, .int .i64 x.reply.next, .slice oa x.reply.objs.length oc] 27)).alloc (.cells #[.int .u8 1] 5)).alloc (.cells #[.int .u8 x.reply.fn] 5)).heap[w.heap.size]? = some (.cells #[.int .i64 1, .int .i64 x.reply.fn, .int .i64 x.reply.exc, .slice da x.reply.data.length dc, .int .i64 x.reply.code, .int .i64 x.reply.level, .bool x.reply.more, .int .i64 x.reply.next, .slice oa x.reply.objs.length oc] 27)) := (heap3 w _ _ _).1
    clear h hk hwz hv' hr ht hx
    generalize x.reply.data.length = dn at *
    generalize x.reply.objs.length = on at *
    generalize x.reply.pdu = pd at *
    generalize hvv : x.verdict = vv at *
    clear hvv
    subst hv
    go_enter Try.func50, Try.ntmps50
    go_wp2_with (at_builtin; refine wpList_appB rfl (.tmp 29) (.tmp 34) 22 rfl w.heap.size 5 i5 Try.underlying22 hi hz0 hz1 hz2 _ [byteI 1] rfl HO.out _ [byteI x.reply.fn] rfl HB.out (by simp) ?c2 ?c3)
    case c2 => first | omega | exact HBE.out.size
    case c3 =>
      intro v2 w2 hown2 hgr2 hnew2
      have hb2 := HBE.out.grown hgr2 HBE.out.size (fun k hk => by cases hk; exact Nat.le_succ _)
      have hg2 : w2.heap[w.heap.size]? = some (.cells #[.int .i64 1, .int .i64 x.reply.fn, .int .i64 x.reply.exc, .slice da dn dc, .int .i64 x.reply.code, .int .i64 x.reply.level, .bool x.reply.more, .int .i64 x.reply.next, .slice oa on oc] 27) := by
        rw [hgr2.block _ (by simp; omega) (fun e => absurd (show w.heap.size = w.heap.size + 1 from Option.some.inj e) (by omega))]; exact HG.out
      have p1 : w2.cell? ⟨w.heap.size, 1, none⟩ = some (.int .i64 x.reply.fn) := cell_heap hg2 1
      have p2 : w2.cell? ⟨w.heap.size, 2, none⟩ = some (.int .i64 x.reply.exc) := cell_heap hg2 2
      have p3 : w2.cell? ⟨w.heap.size, 3, none⟩ = some (.slice da dn dc) := cell_heap hg2 3
      have p4 : w2.cell? ⟨w.heap.size, 4, none⟩ = some (.int .i64 x.reply.code) := cell_heap hg2 4
      have p5 : w2.cell? ⟨w.heap.size, 5, none⟩ = some (.int .i64 x.reply.level) := cell_heap hg2 5
      have p6 : w2.cell? ⟨w.heap.size, 6, none⟩ = some (.bool x.reply.more) := cell_heap hg2 6
      have p7 : w2.cell? ⟨w.heap.size, 7, none⟩ = some (.int .i64 x.reply.next) := cell_heap hg2 7
      have p8 : w2.cell? ⟨w.heap.size, 8, none⟩ = some (.slice oa on oc) := cell_heap hg2 8
      obtain ⟨a2, c2, rfl⟩ := own_slice hown2
      have HX : Hid (w2.ownsRow w.heap.size 5 1 (.slice a2 (1 + 1) c2) (1 + 1) (u8s ([byteI 1] ++ [byteI x.reply.fn]))) := hown2
      have HL2 := hid hown2.lt
      have hsz2 := hb2.size
      have HB2 := hid hb2
      clear hown2 hgr2 hb2 hg2 hnew2
      go_wp2_with fail
      refine (HEN.out _ HB2.out).mono ?_
      rintro r w4 ⟨a4, c4, rfl, hb4, hbel4, ha4⟩
      have HA4 := hid ha4
      clear ha4
      have hsz4 := hbel4.size
      have HO4 := hid ((own_keeps HX.out (Keeps.of_below (F := fun _ => False) hbel4) (fun _ _ f => f)).alloc (.cells #[.int .u8 pd.length] 5))
      have HB4 := hid (bs1 w4 w4.heap.size pd.length (by omega) (by omega) rfl)
      have HY4 : Hid (Below w.heap.size w (w4.alloc (.cells #[.int .u8 pd.length] 5))) := (HB2.out.trans (hbel4.mono (by omega))).alloc (by omega) _
      have HP4 := hid (hb4.keep (bal' w4 (.cells #[.int .u8 pd.length] 5)))
      clear hb4 hbel4
      go_wp2_with (at_builtin; refine wpList_appB rfl (.tmp 46) (.tmp 50) 22 rfl w.heap.size 5 i5 Try.underlying22 hi hz0 hz1 hz2 _ ([byteI 1] ++ [byteI x.reply.fn]) rfl HO4.out _ [byteI pd.length] rfl HB4.out ?e1 ?e2 ?e3)
      case e1 => simp
      case e2 => simp; omega
      case e3 =>
        intro v5 w5 hown5 hgr5 _
        have hb5 := HY4.out.grown hgr5 (by simp; omega) (fun k hk => (HL2.out k hk).1)
        have hP5 : Bs w5 (.slice a4 pd.length c4) pd := HP4.out.keepsN (Keeps.of_grown (F := fun k => (Value.slice a2 (1 + 1) c2).ownBlock = some k) hgr5 (fun k hk => hk)) (fun _ ad had hF => by
          have h1 := HA4.out ad had
          have h2 := (HL2.out _ hF).2
          omega)
        obtain ⟨a5, c5, rfl⟩ := own_slice hown5
        have HP5 := hid hP5
        have HB5 := hid hb5
        have HL5 := hid hown5.lt
        have HO5 := hid hown5
        have hw5 : w.heap.size ≤ w5.heap.size := HB5.out.size
        clear hown5 hgr5 hP5 hb5
        go_wp2_with (at_builtin; refine wpList_app rfl (.tmp 51) (.tmp 52) 22 rfl w.heap.size 5 i5 Try.underlying22 hi hz0 hz1 hz2 _ ([byteI 1] ++ [byteI x.reply.fn] ++ [byteI pd.length]) rfl HO5.out _ pd rfl HP5.out ?f1 ?f2 ?f3)
        case f1 => simp; omega
        case f2 => exact hw5
        case f3 =>
          intro v6 w6 hown6 hgr6
          have hb6 := HB5.out.grown hgr6 hw5 (fun k hk => (HL5.out k hk).1)
          obtain ⟨a6, c6, rfl⟩ := own_slice hown6
          have HO6 := hid hown6
          have HB6 := hid hb6
          have HN := hid (show ([byteI 1] ++ [byteI x.reply.fn] ++ [byteI pd.length]).length + pd.length = ([byteI 1] ++ [byteI x.reply.fn] ++ [byteI pd.length] ++ pd).length by simp; omega)
          clear hown6 hgr6 hb6
          go_wp2
          go_ret
          exact OnePost.of_own HN.out HO6.out HB6.out

end Go.Proofs.Ytlaaoifjiogogaa

/-
The contract of the reference's Encode at every list of outcomes.
-/
namespace Go.Proofs.Ytlaaoifjiogogaa
open Go.RowKit

set_option maxRecDepth 100000 in
set_option maxHeartbeats 6400000 in
theorem refEncode_any (v : Value) (l : List Oc) (w : World) (ho : Ocs w v l) : Calls Try.prog 19 #[v] w (EncLPost w l) := by
  obtain ⟨i5, hi, hz0, hz1, hz2⟩ := info_parts infoB
  obtain ⟨a, c, rfl, _⟩ := id ho
  obtain ⟨-, hnc, hcm, hel⟩ := ho.get
  unfold maxLen at hcm
  have HEL := hid hel
  obtain ⟨N, hN⟩ : ∃ N, l.length = N := ⟨_, rfl⟩
  rw [hN] at hnc ⊢
  have hln := hid hN
  by_cases hr : 1 ≤ N ∧ N ≤ 64
  · have HE5 : Hid (encErr l = 5) := by show _ = _; unfold encErr; rw [if_pos (by omega)]
    obtain ⟨hr1, hr2⟩ := hr
    have hN0 : N ≠ 0 := by omega
    have hu : IntKind.u8.wrap (N : Int) = (N : Int) := by show (N : Int) % 256 = N; omega
    have hO1 := hid (own1 w w.heap.size N (by omega) (by omega) (Nat.le_refl _))
    clear ho hN hel
    go_enter Try.func19, Try.ntmps19
    go_wp2_with fail
    go_loopw [4, 5] (fun bv idx wr => ∃ (k : Nat) (bs : List UInt8) (ba : Option Addr) (bc : Nat), k ≤ N ∧ idx = .int .i64 k ∧ bv = .slice ba bs.length bc ∧ bs.length ≤ 1 + 256 * k ∧ Hid (wr.ownsRow w.heap.size 5 1 (.slice ba bs.length bc) bs.length (u8s bs)) ∧ Hid (bs = byteI N :: encAll (l.take k)) ∧ Hid (∀ (j : Nat) (x : Oc), j < k → l[j]? = some x → x.ok = true) ∧ Below w.heap.size w wr) (fun _ idx _ => N - (intOf idx).toNat)
    case atStart => exact ⟨0, [byteI N], some ⟨w.heap.size, 0, none⟩, 1, by omega, rfl, rfl, by simp, hO1.out, rfl, fun j x h => by omega, bal' w _⟩
    case round =>
      obtain ⟨k, bs, ba, bc, hk, rfl, rfl, hbl, hown, hbs, hall, hbw⟩ := hrel
      by_cases hlt : k < N
      · obtain ⟨x, hgx⟩ := get_some hln.out hlt
        obtain ⟨b, o, da, dc, oa, oc, rfl, ⟨p0, p1, p2, p3, p4, p5, p6, p7, p8⟩, hd, hob, hlv⟩ := HEL.out k x hgx
        have e0 : ∀ W, Below w.heap.size w W → W.cell? ⟨b, o + k * 9, none⟩ = _ := fun W h => cell_keep h p0
        have e1 : ∀ W, Below w.heap.size w W → W.cell? ⟨b, o + k * 9 + 1, none⟩ = _ := fun W h => cell_keep h p1
        have e2 : ∀ W, Below w.heap.size w W → W.cell? ⟨b, o + k * 9 + 2, none⟩ = _ := fun W h => cell_keep h p2
        have e3 : ∀ W, Below w.heap.size w W → W.cell? ⟨b, o + k * 9 + 3, none⟩ = _ := fun W h => cell_keep h p3
        have e4 : ∀ W, Below w.heap.size w W → W.cell? ⟨b, o + k * 9 + 4, none⟩ = _ := fun W h => cell_keep h p4
        have e5 : ∀ W, Below w.heap.size w W → W.cell? ⟨b, o + k * 9 + 5, none⟩ = _ := fun W h => cell_keep h p5
        have e6 : ∀ W, Below w.heap.size w W → W.cell? ⟨b, o + k * 9 + 6, none⟩ = _ := fun W h => cell_keep h p6
        have e7 : ∀ W, Below w.heap.size w W → W.cell? ⟨b, o + k * 9 + 7, none⟩ = _ := fun W h => cell_keep h p7
        have e8 : ∀ W, Below w.heap.size w W → W.cell? ⟨b, o + k * 9 + 8, none⟩ = _ := fun W h => cell_keep h p8
        clear p0 p1 p2 p3 p4 p5 p6 p7 p8
        have HX := hid (OcIs.mk hd hob hlv.1 hlv.2)
        obtain ⟨V, hV⟩ : ∃ V, x.ok = V := ⟨_, rfl⟩
        have HV : Hid (∀ W, Below w.heap.size w W → Calls Try.prog 16 #[.agg #[.int .i64 x.verdict, .int .i64 x.reply.fn, .int .i64 x.reply.exc, .slice da x.reply.data.length dc, .int .i64 x.reply.code, .int .i64 x.reply.level, .bool x.reply.more, .int .i64 x.reply.next, .slice oa x.reply.objs.length oc]] W fun r w' => r = .returned (.bool V) ∧ Below W.heap.size W w') := fun W hW => rvalid_oc (HX.out.keep hW) V hV
        have HA : Hid (V = true → ∀ W, Below w.heap.size w W → Calls Try.prog 50 #[.agg #[.int .i64 x.verdict, .int .i64 x.reply.fn, .int .i64 x.reply.exc, .slice da x.reply.data.length dc, .int .i64 x.reply.code, .int .i64 x.reply.level, .bool x.reply.more, .int .i64 x.reply.next, .slice oa x.reply.objs.length oc]] W (OnePost W x.enc)) := fun h W hW => rone_any (HX.out.keep hW) (hV.trans h)
        have HNO := hid (fun h : V = false => okL_no hgx (hV.trans h))
        have HLE := hid (fun h : V = true => oc_enc_le (hV.trans h))
        have HTK := hid (take_succ_snoc hgx)
        have HST := hid (show V = true → ∀ (j : Nat) (u : Oc), j < k + 1 → l[j]? = some u → u.ok = true from fun hs j u hj hu => by
          by_cases hjk : j = k
          · subst hjk; rw [hgx] at hu; cases hu; exact hV.trans hs
          · exact hall.out j u (by omega) hu)
        clear hd hob hlv hgx hV hall HX
        have hkl : (k : Int) < (N : Int) := by omega
        have hsz := hbw.size
        generalize x.reply.data.length = dn at *
        generalize x.reply.objs.length = on at *
        go_wp2_with fail
        refine (HV.out _ hbw).mono ?_
        rintro r w3 ⟨rfl, hb3⟩
        cases V with
        | false =>
          have HF := hid (HNO.out rfl)
          go_wp2
          go_ret2
          exact EncLPost.no HF.out HE5.out (bt hbw hb3 (Nat.le_refl _))
        | true =>
          have hb4 : Below w.heap.size w w3 := bt hbw hb3 (Nat.le_refl _)
          have HO3 : Hid (w3.ownsRow w.heap.size 5 1 (.slice ba bs.length bc) bs.length (u8s bs)) := own_keeps hown.out (Keeps.of_below (F := fun _ => False) hb3) (fun _ _ f => f)
          have HLE2 := HLE.out rfl
          have HS2 := hid (HST.out rfl)
          clear hb3 hown
          go_wp2_with fail
          refine (HA.out (by trivial) _ hb4).mono ?_
          rintro r w5 ⟨a5, c5, rfl, hB5, hb5, _⟩
          have HO5 := hid (own_keeps HO3.out (Keeps.of_below (F := fun _ => False) hb5) (fun _ _ f => f))
          have hb6 : Below w.heap.size w w5 := bt hb4 hb5 (Nat.le_refl _)
          have HB5 : Hid (bs ++ x.enc = byteI N :: encAll (l.take (k + 1))) := by show _ = _; rw [HTK.out, encAll_snoc, hbs.out]; rfl
          have HL5 := hid (show (bs ++ x.enc).length = bs.length + x.enc.length from List.length_append)
          have HBB := hid hB5
          have hw5 := hb6.size
          clear hb5 hbs hB5
          go_wp2_with (at_builtin; refine wpList_app rfl (.tmp 30) (.tmp 35) 22 rfl w.heap.size 5 i5 Try.underlying22 hi hz0 hz1 hz2 _ bs rfl HO5.out _ x.enc rfl HBB.out (by omega) hw5 ?c3)
          case c3 =>
            intro v6 w6 hown6 hgr6
            have hb7 := hb6.grown hgr6 hw5 (fun k hk => (HO5.out.lt k hk).1)
            obtain ⟨a6, c6, rfl⟩ := own_slice hown6
            rw [← HL5.out] at hown6
            have HO6 := hid hown6
            clear hown6 hgr6
            go_wp2
            go_roundw
            case rel => exact ⟨k + 1, bs ++ x.enc, a6, c6, by omega, by go_num, by rw [HL5.out], by rw [HL5.out]; omega, HO6.out, HB5.out, HS2.out, hb7⟩
            case measure => simp [intOf]; omega
      · obtain rfl : k = N := by omega
        have HB := hid (Bs.own hown.out)
        have HLO := hid hown.out.lt
        have HOK := hid (okL_yes (l := l) (by have := hln.out; omega) (fun j x hj hx => hall.out j x (by have := hln.out; omega) hx))
        have HEQ : Hid (bs = encL l) := by
          show bs = _
          rw [hbs.out, List.take_of_length_le (by have := hln.out; omega)]
          unfold encL
          rw [hln.out]
        clear hown hbs hall
        go_wp2
        go_ret2
        exact EncLPost.yes HOK.out (by rw [← HEQ.out]; exact ⟨ba, bc, rfl, HB.out, hbw, fun ad h => (HLO.out ad.block (by rw [h]; rfl)).1⟩)
  · have HE4 : Hid (encErr l = 4) := by show _ = _; unfold encErr; rw [if_neg (by omega)]
    have HF := hid (okL_len (l := l) (by omega))
    rcases (show N = 0 ∨ 64 < N by omega) with rfl | h64
    · clear ho hN hel hr
      go_enter Try.func19, Try.ntmps19
      go_wp2
      go_ret2
      exact EncLPost.no HF.out HE4.out (Below.refl _ _)
    · have hN0 : N ≠ 0 := by omega
      clear ho hN hel hr
      go_enter Try.func19, Try.ntmps19
      go_wp2
      go_ret2
      exact EncLPost.no HF.out HE4.out (Below.refl _ _)

end Go.Proofs.Ytlaaoifjiogogaa

/-
The contract of modscanref27.SameOutcomes at two slices that read as the same list.
-/
namespace Go.Proofs.Ytlaaoifjiogogaa
open Go.RowKit

theorem same_oc {W : World} {x : Oc} {da : Option Addr} {dc : Nat} {oa : Option Addr} {oc : Nat} {da' : Option Addr} {dc' : Nat} {oa' : Option Addr} {oc' : Nat} (h : OcIs W x da dc oa oc) (h' : OcIs W x da' dc' oa' oc') :
    Calls Try.prog 13 #[.agg #[.int .i64 x.verdict, .int .i64 x.reply.fn, .int .i64 x.reply.exc, .slice da x.reply.data.length dc, .int .i64 x.reply.code, .int .i64 x.reply.level, .bool x.reply.more, .int .i64 x.reply.next, .slice oa x.reply.objs.length oc], .agg #[.int .i64 x.verdict, .int .i64 x.reply.fn, .int .i64 x.reply.exc, .slice da' x.reply.data.length dc', .int .i64 x.reply.code, .int .i64 x.reply.level, .bool x.reply.more, .int .i64 x.reply.next, .slice oa' x.reply.objs.length oc']] W fun r w' => r = .returned (.bool true) ∧ Below W.heap.size W w' :=
  sameOc_any x.verdict _ _ _ _ _ _ _ _ x.reply.data x.reply.objs x.verdict _ _ _ _ _ _ _ _ x.reply.data x.reply.objs W h.d h.o h'.d h'.o true (Oc.same_self _)

set_option maxRecDepth 100000 in
set_option maxHeartbeats 6400000 in
theorem sameL_any (v1 v2 : Value) (l : List Oc) (w : World) (h1 : Ocs w v1 l) (h2 : Ocs w v2 l) :
    Calls Try.prog 21 #[v1, v2] w fun r w' => r = .returned (.bool true) ∧ Below w.heap.size w w' := by
  obtain ⟨a1, c1, rfl, _⟩ := id h1
  obtain ⟨a2, c2, rfl, _⟩ := id h2
  obtain ⟨-, hnc1, hcm1, hel1⟩ := h1.get
  obtain ⟨-, hnc2, hcm2, hel2⟩ := h2.get
  unfold maxLen at hcm1 hcm2
  have HE1 := hid hel1
  have HE2 := hid hel2
  obtain ⟨N, hN⟩ : ∃ N, l.length = N := ⟨_, rfl⟩
  rw [hN] at hnc1 hnc2 ⊢
  have hln := hid hN
  clear h1 h2 hN hel1 hel2
  go_enter Try.func21, Try.ntmps21
  go_wp2_with fail
  go_loopw [5] (fun i wr => ∃ k : Nat, k ≤ N ∧ i = .int .i64 k ∧ Below w.heap.size w wr) (fun i _ => N - (intOf i).toNat)
  case atStart => exact ⟨0, Nat.zero_le _, rfl, Below.refl _ _⟩
  case round =>
    obtain ⟨k, hk, rfl, hbw⟩ := hrel
    by_cases hlt : k < N
    · obtain ⟨x, hgx⟩ := get_some hln.out hlt
      obtain ⟨b, o, da, dc, oa, oc, rfl, ⟨p0, p1, p2, p3, p4, p5, p6, p7, p8⟩, hd, hob, hlv⟩ := HE1.out k x hgx
      obtain ⟨b', o', da', dc', oa', oc', rfl, ⟨p0', p1', p2', p3', p4', p5', p6', p7', p8'⟩, hd', hob', hlv'⟩ := HE2.out k x hgx
      have e0 : ∀ W, Below w.heap.size w W → W.cell? ⟨b, o + k * 9, none⟩ = _ := fun W h => cell_keep h p0
      have e1 : ∀ W, Below w.heap.size w W → W.cell? ⟨b, o + k * 9 + 1, none⟩ = _ := fun W h => cell_keep h p1
      have e2 : ∀ W, Below w.heap.size w W → W.cell? ⟨b, o + k * 9 + 2, none⟩ = _ := fun W h => cell_keep h p2
      have e3 : ∀ W, Below w.heap.size w W → W.cell? ⟨b, o + k * 9 + 3, none⟩ = _ := fun W h => cell_keep h p3
      have e4 : ∀ W, Below w.heap.size w W → W.cell? ⟨b, o + k * 9 + 4, none⟩ = _ := fun W h => cell_keep h p4
      have e5 : ∀ W, Below w.heap.size w W → W.cell? ⟨b, o + k * 9 + 5, none⟩ = _ := fun W h => cell_keep h p5
      have e6 : ∀ W, Below w.heap.size w W → W.cell? ⟨b, o + k * 9 + 6, none⟩ = _ := fun W h => cell_keep h p6
      have e7 : ∀ W, Below w.heap.size w W → W.cell? ⟨b, o + k * 9 + 7, none⟩ = _ := fun W h => cell_keep h p7
      have e8 : ∀ W, Below w.heap.size w W → W.cell? ⟨b, o + k * 9 + 8, none⟩ = _ := fun W h => cell_keep h p8
      have e0' : ∀ W, Below w.heap.size w W → W.cell? ⟨b', o' + k * 9, none⟩ = _ := fun W h => cell_keep h p0'
      have e1' : ∀ W, Below w.heap.size w W → W.cell? ⟨b', o' + k * 9 + 1, none⟩ = _ := fun W h => cell_keep h p1'
      have e2' : ∀ W, Below w.heap.size w W → W.cell? ⟨b', o' + k * 9 + 2, none⟩ = _ := fun W h => cell_keep h p2'
      have e3' : ∀ W, Below w.heap.size w W → W.cell? ⟨b', o' + k * 9 + 3, none⟩ = _ := fun W h => cell_keep h p3'
      have e4' : ∀ W, Below w.heap.size w W → W.cell? ⟨b', o' + k * 9 + 4, none⟩ = _ := fun W h => cell_keep h p4'
      have e5' : ∀ W, Below w.heap.size w W → W.cell? ⟨b', o' + k * 9 + 5, none⟩ = _ := fun W h => cell_keep h p5'
      have e6' : ∀ W, Below w.heap.size w W → W.cell? ⟨b', o' + k * 9 + 6, none⟩ = _ := fun W h => cell_keep h p6'
      have e7' : ∀ W, Below w.heap.size w W → W.cell? ⟨b', o' + k * 9 + 7, none⟩ = _ := fun W h => cell_keep h p7'
      have e8' : ∀ W, Below w.heap.size w W → W.cell? ⟨b', o' + k * 9 + 8, none⟩ = _ := fun W h => cell_keep h p8'
      clear p0 p1 p2 p3 p4 p5 p6 p7 p8 p0' p1' p2' p3' p4' p5' p6' p7' p8'
      have HX := hid (OcIs.mk hd hob hlv.1 hlv.2)
      have HX' := hid (OcIs.mk hd' hob' hlv'.1 hlv'.2)
      have HS : Hid (∀ W, Below w.heap.size w W → Calls Try.prog 13 #[.agg #[.int .i64 x.verdict, .int .i64 x.reply.fn, .int .i64 x.reply.exc, .slice da x.reply.data.length dc, .int .i64 x.reply.code, .int .i64 x.reply.level, .bool x.reply.more, .int .i64 x.reply.next, .slice oa x.reply.objs.length oc], .agg #[.int .i64 x.verdict, .int .i64 x.reply.fn, .int .i64 x.reply.exc, .slice da' x.reply.data.length dc', .int .i64 x.reply.code, .int .i64 x.reply.level, .bool x.reply.more, .int .i64 x.reply.next, .slice oa' x.reply.objs.length oc']] W fun r w' => r = .returned (.bool true) ∧ Below W.heap.size W w') := fun W hW => same_oc (HX.out.keep hW) (HX'.out.keep hW)
      clear hd hob hlv hd' hob' hlv' hgx HX HX'
      have hk0 : (0 : Int) ≤ (k : Int) := by omega
      have hkl : (k : Int) < (N : Int) := by omega
      generalize x.reply.data.length = dn at *
      generalize x.reply.objs.length = on at *
      go_wp2_with fail
      go_region_held3 (fun W => Below w.heap.size w W) ((first | exact hbw.drew | exact bt (by assumption) (by assumption) (Nat.le_refl _))) (first | (go_at_call 13; (with_reducible refine (HS.out _ (by assumption)).mono ?_); rintro r w5 ⟨rfl, hb5⟩))
      go_wp2
      go_roundw
      case rel => exact ⟨k + 1, by omega, by go_num, by assumption⟩
      case measure => simp [intOf]; omega
    · obtain rfl : k = N := by omega
      go_wp2
      go_ret
      exact ⟨rfl, hbw⟩

end Go.Proofs.Ytlaaoifjiogogaa

/-
The same contract, which says that the bytes' row is the call's own.
-/
namespace Go.Proofs.Ytlaaoifjiogogaa
open Go.RowKit

/-- What Encode leaves: a row of its own. -/
def EncLOwn (w : World) (l : List Oc) (r : Ending) (w' : World) : Prop :=
  (okL l = true → ∃ a c, r = .returned (.tuple #[.slice a (encL l).length c, .int .i64 0]) ∧ w'.ownsRow w.heap.size 5 1 (.slice a (encL l).length c) (encL l).length (u8s (encL l)) ∧ (encL l).length ≤ 20000 ∧ Below w.heap.size w w') ∧ (okL l = false → r = .returned (.tuple #[.slice none 0 0, .int .i64 (encErr l)]) ∧ Below w.heap.size w w')
theorem EncLOwn.no {w : World} {l : List Oc} {w' : World} {e : Int} (h : okL l = false) (he : encErr l = e) (hb : Below w.heap.size w w') : EncLOwn w l (.returned (.tuple #[.slice none 0 0, .int .i64 e])) w' := ⟨fun h2 => absurd (h.symm.trans h2) (by decide), fun _ => ⟨by rw [he], hb⟩⟩
theorem EncLOwn.yes {w : World} {l : List Oc} {w' : World} {bs : List UInt8} {a : Option Addr} {c : Nat} (h : okL l = true) (he : bs = encL l) (ho : w'.ownsRow w.heap.size 5 1 (.slice a bs.length c) bs.length (u8s bs)) (hn : bs.length ≤ 20000) (hb : Below w.heap.size w w') : EncLOwn w l (.returned (.tuple #[.slice a bs.length c, .int .i64 0])) w' := by
  subst he
  exact ⟨fun _ => ⟨a, c, rfl, ho, hn, hb⟩, fun h2 => absurd (h.symm.trans h2) (by decide)⟩

set_option maxRecDepth 100000 in
set_option maxHeartbeats 6400000 in
theorem refEncode_own (v : Value) (l : List Oc) (w : World) (ho : Ocs w v l) : Calls Try.prog 19 #[v] w (EncLOwn w l) := by
  obtain ⟨i5, hi, hz0, hz1, hz2⟩ := info_parts infoB
  obtain ⟨a, c, rfl, _⟩ := id ho
  obtain ⟨-, hnc, hcm, hel⟩ := ho.get
  unfold maxLen at hcm
  have HEL := hid hel
  obtain ⟨N, hN⟩ : ∃ N, l.length = N := ⟨_, rfl⟩
  rw [hN] at hnc ⊢
  have hln := hid hN
  by_cases hr : 1 ≤ N ∧ N ≤ 64
  · have HE5 : Hid (encErr l = 5) := by show _ = _; unfold encErr; rw [if_pos (by omega)]
    obtain ⟨hr1, hr2⟩ := hr
    have hN0 : N ≠ 0 := by omega
    have hu : IntKind.u8.wrap (N : Int) = (N : Int) := by show (N : Int) % 256 = N; omega
    have hO1 := hid (own1 w w.heap.size N (by omega) (by omega) (Nat.le_refl _))
    clear ho hN hel
    go_enter Try.func19, Try.ntmps19
    go_wp2_with fail
    go_loopw [4, 5] (fun bv idx wr => ∃ (k : Nat) (bs : List UInt8) (ba : Option Addr) (bc : Nat), k ≤ N ∧ idx = .int .i64 k ∧ bv = .slice ba bs.length bc ∧ bs.length ≤ 1 + 256 * k ∧ Hid (wr.ownsRow w.heap.size 5 1 (.slice ba bs.length bc) bs.length (u8s bs)) ∧ Hid (bs = byteI N :: encAll (l.take k)) ∧ Hid (∀ (j : Nat) (x : Oc), j < k → l[j]? = some x → x.ok = true) ∧ Below w.heap.size w wr) (fun _ idx _ => N - (intOf idx).toNat)
    case atStart => exact ⟨0, [byteI N], some ⟨w.heap.size, 0, none⟩, 1, by omega, rfl, rfl, by simp, hO1.out, rfl, fun j x h => by omega, bal' w _⟩
    case round =>
      obtain ⟨k, bs, ba, bc, hk, rfl, rfl, hbl, hown, hbs, hall, hbw⟩ := hrel
      by_cases hlt : k < N
      · obtain ⟨x, hgx⟩ := get_some hln.out hlt
        obtain ⟨b, o, da, dc, oa, oc, rfl, ⟨p0, p1, p2, p3, p4, p5, p6, p7, p8⟩, hd, hob, hlv⟩ := HEL.out k x hgx
        have e0 : ∀ W, Below w.heap.size w W → W.cell? ⟨b, o + k * 9, none⟩ = _ := fun W h => cell_keep h p0
        have e1 : ∀ W, Below w.heap.size w W → W.cell? ⟨b, o + k * 9 + 1, none⟩ = _ := fun W h => cell_keep h p1
        have e2 : ∀ W, Below w.heap.size w W → W.cell? ⟨b, o + k * 9 + 2, none⟩ = _ := fun W h => cell_keep h p2
        have e3 : ∀ W, Below w.heap.size w W → W.cell? ⟨b, o + k * 9 + 3, none⟩ = _ := fun W h => cell_keep h p3
        have e4 : ∀ W, Below w.heap.size w W → W.cell? ⟨b, o + k * 9 + 4, none⟩ = _ := fun W h => cell_keep h p4
        have e5 : ∀ W, Below w.heap.size w W → W.cell? ⟨b, o + k * 9 + 5, none⟩ = _ := fun W h => cell_keep h p5
        have e6 : ∀ W, Below w.heap.size w W → W.cell? ⟨b, o + k * 9 + 6, none⟩ = _ := fun W h => cell_keep h p6
        have e7 : ∀ W, Below w.heap.size w W → W.cell? ⟨b, o + k * 9 + 7, none⟩ = _ := fun W h => cell_keep h p7
        have e8 : ∀ W, Below w.heap.size w W → W.cell? ⟨b, o + k * 9 + 8, none⟩ = _ := fun W h => cell_keep h p8
        clear p0 p1 p2 p3 p4 p5 p6 p7 p8
        have HX := hid (OcIs.mk hd hob hlv.1 hlv.2)
        obtain ⟨V, hV⟩ : ∃ V, x.ok = V := ⟨_, rfl⟩
        have HV : Hid (∀ W, Below w.heap.size w W → Calls Try.prog 16 #[.agg #[.int .i64 x.verdict, .int .i64 x.reply.fn, .int .i64 x.reply.exc, .slice da x.reply.data.length dc, .int .i64 x.reply.code, .int .i64 x.reply.level, .bool x.reply.more, .int .i64 x.reply.next, .slice oa x.reply.objs.length oc]] W fun r w' => r = .returned (.bool V) ∧ Below W.heap.size W w') := fun W hW => rvalid_oc (HX.out.keep hW) V hV
        have HA : Hid (V = true → ∀ W, Below w.heap.size w W → Calls Try.prog 50 #[.agg #[.int .i64 x.verdict, .int .i64 x.reply.fn, .int .i64 x.reply.exc, .slice da x.reply.data.length dc, .int .i64 x.reply.code, .int .i64 x.reply.level, .bool x.reply.more, .int .i64 x.reply.next, .slice oa x.reply.objs.length oc]] W (OnePost W x.enc)) := fun h W hW => rone_any (HX.out.keep hW) (hV.trans h)
        have HNO := hid (fun h : V = false => okL_no hgx (hV.trans h))
        have HLE := hid (fun h : V = true => oc_enc_le (hV.trans h))
        have HTK := hid (take_succ_snoc hgx)
        have HST := hid (show V = true → ∀ (j : Nat) (u : Oc), j < k + 1 → l[j]? = some u → u.ok = true from fun hs j u hj hu => by
          by_cases hjk : j = k
          · subst hjk; rw [hgx] at hu; cases hu; exact hV.trans hs
          · exact hall.out j u (by omega) hu)
        clear hd hob hlv hgx hV hall HX
        have hkl : (k : Int) < (N : Int) := by omega
        have hsz := hbw.size
        generalize x.reply.data.length = dn at *
        generalize x.reply.objs.length = on at *
        go_wp2_with fail
        refine (HV.out _ hbw).mono ?_
        rintro r w3 ⟨rfl, hb3⟩
        cases V with
        | false =>
          have HF := hid (HNO.out rfl)
          go_wp2
          go_ret2
          exact EncLOwn.no HF.out HE5.out (bt hbw hb3 (Nat.le_refl _))
        | true =>
          have hb4 : Below w.heap.size w w3 := bt hbw hb3 (Nat.le_refl _)
          have HO3 : Hid (w3.ownsRow w.heap.size 5 1 (.slice ba bs.length bc) bs.length (u8s bs)) := own_keeps hown.out (Keeps.of_below (F := fun _ => False) hb3) (fun _ _ f => f)
          have HLE2 := HLE.out rfl
          have HS2 := hid (HST.out rfl)
          clear hb3 hown
          go_wp2_with fail
          refine (HA.out (by trivial) _ hb4).mono ?_
          rintro r w5 ⟨a5, c5, rfl, hB5, hb5, _⟩
          have HO5 := hid (own_keeps HO3.out (Keeps.of_below (F := fun _ => False) hb5) (fun _ _ f => f))
          have hb6 : Below w.heap.size w w5 := bt hb4 hb5 (Nat.le_refl _)
          have HB5 : Hid (bs ++ x.enc = byteI N :: encAll (l.take (k + 1))) := by show _ = _; rw [HTK.out, encAll_snoc, hbs.out]; rfl
          have HL5 := hid (show (bs ++ x.enc).length = bs.length + x.enc.length from List.length_append)
          have HBB := hid hB5
          have hw5 := hb6.size
          clear hb5 hbs hB5
          go_wp2_with (at_builtin; refine wpList_app rfl (.tmp 30) (.tmp 35) 22 rfl w.heap.size 5 i5 Try.underlying22 hi hz0 hz1 hz2 _ bs rfl HO5.out _ x.enc rfl HBB.out (by omega) hw5 ?c3)
          case c3 =>
            intro v6 w6 hown6 hgr6
            have hb7 := hb6.grown hgr6 hw5 (fun k hk => (HO5.out.lt k hk).1)
            obtain ⟨a6, c6, rfl⟩ := own_slice hown6
            rw [← HL5.out] at hown6
            have HO6 := hid hown6
            clear hown6 hgr6
            go_wp2
            go_roundw
            case rel => exact ⟨k + 1, bs ++ x.enc, a6, c6, by omega, by go_num, by rw [HL5.out], by rw [HL5.out]; omega, HO6.out, HB5.out, HS2.out, hb7⟩
            case measure => simp [intOf]; omega
      · obtain rfl : k = N := by omega
        have HOW := hid hown.out
        have HOK := hid (okL_yes (l := l) (by have := hln.out; omega) (fun j x hj hx => hall.out j x (by have := hln.out; omega) hx))
        have HEQ : Hid (bs = encL l) := by
          show bs = _
          rw [hbs.out, List.take_of_length_le (by have := hln.out; omega)]
          unfold encL
          rw [hln.out]
        clear hown hbs hall
        go_wp2
        go_ret2
        exact EncLOwn.yes HOK.out HEQ.out HOW.out (by omega) hbw
  · have HE4 : Hid (encErr l = 4) := by show _ = _; unfold encErr; rw [if_neg (by omega)]
    have HF := hid (okL_len (l := l) (by omega))
    rcases (show N = 0 ∨ 64 < N by omega) with rfl | h64
    · clear ho hN hel hr
      go_enter Try.func19, Try.ntmps19
      go_wp2
      go_ret2
      exact EncLOwn.no HF.out HE4.out (Below.refl _ _)
    · have hN0 : N ≠ 0 := by omega
      clear ho hN hel hr
      go_enter Try.func19, Try.ntmps19
      go_wp2
      go_ret2
      exact EncLOwn.no HF.out HE4.out (Below.refl _ _)

end Go.Proofs.Ytlaaoifjiogogaa
