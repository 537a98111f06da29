/-
  The contract of modscanref27.one: the bytes of a valid outcome.
-/
import Derived.Test.YtlaaoifjiogogaaEncL
namespace Go.Proofs.Ytlaaoifjiogogaa
open Go.RowKit

/-- What a call that answers new bytes leaves. -/
def OnePost (w : World) (l : List UInt8) (r : Ending) (w' : World) : Prop := ∃ a c, r = .returned (.slice a l.length c) ∧ Bs w' (.slice a l.length c) l ∧ Below w.heap.size w w' ∧ ∀ ad, a = some ad → w.heap.size ≤ ad.block

theorem OnePost.of_own {w w' : World} {l : List UInt8} {a : Option Addr} {n c : Nat} (hn : n = l.length) (h : w'.ownsRow w.heap.size 5 1 (.slice a n c) n (u8s l)) (hb : Below w.heap.size w w') : OnePost w l (.returned (.slice a n c)) w' := by
  subst hn
  exact ⟨a, c, rfl, Bs.own h, hb, fun ad had => (h.lt ad.block (by rw [had]; rfl)).1⟩

theorem enc_345 {x : Oc} (h : x.verdict = 3 ∨ x.verdict = 4 ∨ x.verdict = 5) : x.enc = [byteI x.verdict] := by
  unfold Oc.enc; rw [if_neg (by omega), if_neg (by omega)]
theorem enc_2 {x : Oc} (h : x.verdict = 2) : x.enc = [byteI 2] ++ [byteI x.reply.fn, byteI x.reply.exc] := by
  unfold Oc.enc; rw [if_pos h, h]; rfl
theorem enc_1t {x : Oc} (h : x.verdict = 1) (ht : tblB x.reply.fn = true) : x.enc = [byteI 1] ++ [byteI x.reply.fn] := by
  unfold Oc.enc; rw [if_neg (by omega), if_pos h, if_pos ht, h]; rfl
theorem enc_1n {x : Oc} (h : x.verdict = 1) (ht : tblB x.reply.fn = false) : x.enc = [byteI 1] ++ [byteI x.reply.fn] ++ [byteI x.reply.pdu.length] ++ x.reply.pdu := by
  unfold Oc.enc; rw [if_neg (by omega), if_pos h, if_neg (by rw [ht]; decide), h]; rfl

set_option maxRecDepth 100000 in
set_option maxHeartbeats 6400000 in
theorem rone_any {w : World} {x : Oc} {da : Option Addr} {dc : Nat} {oa : Option Addr} {oc : Nat} (h : OcIs w x da dc oa oc) (hk : x.ok = true) :
    Calls Try.prog 50 #[.agg #[.int .i64 x.verdict, .int .i64 x.reply.fn, .int .i64 x.reply.exc, .slice da x.reply.data.length dc, .int .i64 x.reply.code, .int .i64 x.reply.level, .bool x.reply.more, .int .i64 x.reply.next, .slice oa x.reply.objs.length oc]] w (OnePost w x.enc) := by
  obtain ⟨i5, hi, hz0, hz1, hz2⟩ := info_parts infoB
  rcases oc_forms hk with ⟨hv, he⟩ | ⟨hv, hkn, h1, h2, he⟩ | ⟨hv, ht, he⟩ | ⟨hv, ht, hx, hr⟩
  · rw [enc_345 hv]
    have t1 : (x.verdict == 2) = false := by rw [beq_eq_false_iff_ne]; omega
    have t2 : (x.verdict == 1) = false := by rw [beq_eq_false_iff_ne]; omega
    have hw8 : IntKind.u8.wrap x.verdict = x.verdict := by rcases hv with h | h | h <;> rw [h] <;> rfl
    have HO := hid (own1 (w.alloc (.cells #[.int .i64 x.verdict, .int .i64 x.reply.fn, .int .i64 x.reply.exc, .slice da x.reply.data.length dc, .int .i64 x.reply.code, .int .i64 x.reply.level, .bool x.reply.more, .int .i64 x.reply.next, .slice oa x.reply.objs.length oc] 27)) w.heap.size x.verdict (by omega) (by omega) (by simp))
    have hwz : (w.alloc (.cells #[.int .i64 x.verdict, .int .i64 x.reply.fn, .int .i64 x.reply.exc, .slice da x.reply.data.length dc, .int .i64 x.reply.code, .int .i64 x.reply.level, .bool x.reply.more, .int .i64 x.reply.next, .slice oa x.reply.objs.length oc] 27)).heap.size = w.heap.size + 1 := by simp
    rw [hwz] at HO
    clear h he hv hwz hk
    generalize x.reply.data.length = dn at *
    generalize x.reply.objs.length = on at *
    go_enter Try.func50, Try.ntmps50
    go_wp2
    go_ret
    exact OnePost.of_own rfl HO.out (b2 w _ _)
  · rw [enc_2 hv]
    have hf := known_bd hkn
    have u1 : IntKind.u8.wrap x.reply.fn = x.reply.fn := by show _ % 256 = _; omega
    have u2 : IntKind.u8.wrap x.reply.exc = x.reply.exc := by show _ % 256 = _; omega
    have HO := hid ((own1 (w.alloc (.cells #[.int .i64 x.verdict, .int .i64 x.reply.fn, .int .i64 x.reply.exc, .slice da x.reply.data.length dc, .int .i64 x.reply.code, .int .i64 x.reply.level, .bool x.reply.more, .int .i64 x.reply.next, .slice oa x.reply.objs.length oc] 27)) w.heap.size 2 (by omega) (by omega) (by simp)).alloc (.cells #[.int .u8 x.reply.fn, .int .u8 x.reply.exc] 5))
    have HB := hid (bs2 ((w.alloc (.cells #[.int .i64 x.verdict, .int .i64 x.reply.fn, .int .i64 x.reply.exc, .slice da x.reply.data.length dc, .int .i64 x.reply.code, .int .i64 x.reply.level, .bool x.reply.more, .int .i64 x.reply.next, .slice oa x.reply.objs.length oc] 27)).alloc (.cells #[.int .u8 2] 5)) (w.heap.size + 1 + 1) x.reply.fn x.reply.exc (by omega) (by omega) (by omega) (by omega) (by simp))
    have HBE := hid (b3 w (.cells #[.int .i64 x.verdict, .int .i64 x.reply.fn, .int .i64 x.reply.exc, .slice da x.reply.data.length dc, .int .i64 x.reply.code, .int .i64 x.reply.level, .bool x.reply.more, .int .i64 x.reply.next, .slice oa x.reply.objs.length oc] 27) (.cells #[.int .u8 2] 5) (.cells #[.int .u8 x.reply.fn, .int .u8 x.reply.exc] 5))
    have hwz : (w.alloc (.cells #[.int .i64 x.verdict, .int .i64 x.reply.fn, .int .i64 x.reply.exc, .slice da x.reply.data.length dc, .int .i64 x.reply.code, .int .i64 x.reply.level, .bool x.reply.more, .int .i64 x.reply.next, .slice oa x.reply.objs.length oc] 27)).heap.size = w.heap.size + 1 := by simp
    rw [hwz] at HO
    have hv' := hv
    rw [hv'] at HO HB HBE
    clear h he hk hwz hkn hv'
    generalize x.reply.data.length = dn at *
    generalize x.reply.objs.length = on at *
    generalize hvv : x.verdict = vv at *
    clear hvv
    subst hv
    go_enter Try.func50, Try.ntmps50
    go_wp2_with (at_builtin; refine wpList_app rfl _ _ 22 rfl w.heap.size 5 i5 Try.underlying22 hi hz0 hz1 hz2 _ [byteI 2] rfl HO.out _ [byteI x.reply.fn, byteI x.reply.exc] rfl HB.out (by simp) ?c2 ?c3)
    case c2 => first | omega | exact HBE.out.size
    case c3 =>
      intro v2 w2 hown2 hgr2
      have hb2 := HBE.out.grown hgr2 HBE.out.size (fun k hk => by cases hk; exact Nat.le_succ _)
      obtain ⟨a2, c2, rfl⟩ := own_slice hown2
      have HX := hid hown2
      have HY := hid hb2
      clear hown2 hgr2 hb2
      go_wp2
      go_ret
      exact OnePost.of_own rfl HX.out HY.out
  · rw [enc_1t hv ht]
    have hf := tblB_bd ht
    have hf4 : ¬ (4 < x.reply.fn) := by omega
    have u1 : IntKind.u8.wrap x.reply.fn = x.reply.fn := by show _ % 256 = _; omega
    have HO := hid ((own1 (w.alloc (.cells #[.int .i64 x.verdict, .int .i64 x.reply.fn, .int .i64 x.reply.exc, .slice da x.reply.data.length dc, .int .i64 x.reply.code, .int .i64 x.reply.level, .bool x.reply.more, .int .i64 x.reply.next, .slice oa x.reply.objs.length oc] 27)) w.heap.size 1 (by omega) (by omega) (by simp)).alloc (.cells #[.int .u8 x.reply.fn] 5))
    have HB := hid (bs1 ((w.alloc (.cells #[.int .i64 x.verdict, .int .i64 x.reply.fn, .int .i64 x.reply.exc, .slice da x.reply.data.length dc, .int .i64 x.reply.code, .int .i64 x.reply.level, .bool x.reply.more, .int .i64 x.reply.next, .slice oa x.reply.objs.length oc] 27)).alloc (.cells #[.int .u8 1] 5)) (w.heap.size + 1 + 1) x.reply.fn (by omega) (by omega) (by simp))
    have HBE := hid (b3 w (.cells #[.int .i64 x.verdict, .int .i64 x.reply.fn, .int .i64 x.reply.exc, .slice da x.reply.data.length dc, .int .i64 x.reply.code, .int .i64 x.reply.level, .bool x.reply.more, .int .i64 x.reply.next, .slice oa x.reply.objs.length oc] 27) (.cells #[.int .u8 1] 5) (.cells #[.int .u8 x.reply.fn] 5))
    have hwz : (w.alloc (.cells #[.int .i64 x.verdict, .int .i64 x.reply.fn, .int .i64 x.reply.exc, .slice da x.reply.data.length dc, .int .i64 x.reply.code, .int .i64 x.reply.level, .bool x.reply.more, .int .i64 x.reply.next, .slice oa x.reply.objs.length oc] 27)).heap.size = w.heap.size + 1 := by simp
    rw [hwz] at HO
    have hv' := hv
    rw [hv'] at HO HB HBE
    have HG : Hid ((((w.alloc (.cells #[.int .i64 1, .int .i64 x.reply.fn, .int .i64 x.reply.exc, .slice da x.reply.data.length dc, .int .i64 x.reply.code, .int .i64 x.reply.level, .bool x.reply.more, .int .i64 x.reply.next, .slice oa x.reply.objs.length oc] 27)).alloc (.cells #[.int .u8 1] 5)).alloc (.cells #[.int .u8 x.reply.fn] 5)).heap[w.heap.size]? = some (.cells #[.int .i64 1, .int .i64 x.reply.fn, .int .i64 x.reply.exc, .slice da x.reply.data.length dc, .int .i64 x.reply.code, .int .i64 x.reply.level, .bool x.reply.more, .int .i64 x.reply.next, .slice oa x.reply.objs.length oc] 27)) := (heap3 w _ _ _).1
    clear h he hk hwz hv'
    generalize x.reply.data.length = dn at *
    generalize x.reply.objs.length = on at *
    generalize hvv : x.verdict = vv at *
    clear hvv
    subst hv
    go_enter Try.func50, Try.ntmps50
    go_wp2_with (at_builtin; refine wpList_app rfl _ _ 22 rfl w.heap.size 5 i5 Try.underlying22 hi hz0 hz1 hz2 _ [byteI 1] rfl HO.out _ [byteI x.reply.fn] rfl HB.out (by simp) ?c2 ?c3)
    case c2 => first | omega | exact HBE.out.size
    case c3 =>
      intro v2 w2 hown2 hgr2
      have hb2 := HBE.out.grown hgr2 HBE.out.size (fun k hk => by cases hk; exact Nat.le_succ _)
      have hg2 : w2.heap[w.heap.size]? = some (.cells #[.int .i64 1, .int .i64 x.reply.fn, .int .i64 x.reply.exc, .slice da dn dc, .int .i64 x.reply.code, .int .i64 x.reply.level, .bool x.reply.more, .int .i64 x.reply.next, .slice oa on oc] 27) := by
        rw [hgr2.block _ (by simp; omega) (fun e => absurd (show w.heap.size = w.heap.size + 1 from Option.some.inj e) (by omega))]; exact HG.out
      have p1 : w2.cell? ⟨w.heap.size, 1, none⟩ = some (.int .i64 x.reply.fn) := cell_heap hg2 1
      obtain ⟨a2, c2, rfl⟩ := own_slice hown2
      have HX := hid hown2
      have HY := hid hb2
      clear hown2 hgr2 hb2 hg2
      go_wp2
      go_ret
      exact OnePost.of_own rfl HX.out HY.out
  · rw [enc_1n hv ht]
    have hf4 : 4 < x.reply.fn ∧ x.reply.fn ≤ 43 := by
      have h1 := (ok_cases (fn := x.reply.fn) (exc := x.reply.exc) (data := x.reply.data) (code := x.reply.code) (level := x.reply.level) (more := x.reply.more) (next := x.reply.next) (objs := x.reply.objs) hr).1
      have h2 : ¬ (1 ≤ x.reply.fn ∧ x.reply.fn ≤ 4) := fun h => by rw [tblB_iff.2 h] at ht; cases ht
      omega
    obtain ⟨f4, f43⟩ := hf4
    have u1 : IntKind.u8.wrap x.reply.fn = x.reply.fn := by show _ % 256 = _; omega
    have hpd := (pdu_le' hr).2
    have hup : IntKind.u8.wrap (x.reply.pdu.length : Int) = (x.reply.pdu.length : Int) := by show _ % 256 = _; omega
    have HEN : Hid (∀ W, Below w.heap.size w W → Calls Try.prog 90 #[.agg #[.int .i64 x.reply.fn, .int .i64 x.reply.exc, .slice da x.reply.data.length dc, .int .i64 x.reply.code, .int .i64 x.reply.level, .bool x.reply.more, .int .i64 x.reply.next, .slice oa x.reply.objs.length oc]] W (EncPost W x.reply.pdu)) := fun W hW => renc_any x.reply.fn x.reply.exc x.reply.code x.reply.level x.reply.more x.reply.next x.reply.data x.reply.objs da oa dc oc W (h.keep hW).d (h.keep hW).o hr
    have HO := hid ((own1 (w.alloc (.cells #[.int .i64 x.verdict, .int .i64 x.reply.fn, .int .i64 x.reply.exc, .slice da x.reply.data.length dc, .int .i64 x.reply.code, .int .i64 x.reply.level, .bool x.reply.more, .int .i64 x.reply.next, .slice oa x.reply.objs.length oc] 27)) w.heap.size 1 (by omega) (by omega) (by simp)).alloc (.cells #[.int .u8 x.reply.fn] 5))
    have HB := hid (bs1 ((w.alloc (.cells #[.int .i64 x.verdict, .int .i64 x.reply.fn, .int .i64 x.reply.exc, .slice da x.reply.data.length dc, .int .i64 x.reply.code, .int .i64 x.reply.level, .bool x.reply.more, .int .i64 x.reply.next, .slice oa x.reply.objs.length oc] 27)).alloc (.cells #[.int .u8 1] 5)) (w.heap.size + 1 + 1) x.reply.fn (by omega) (by omega) (by simp))
    have HBE := hid (b3 w (.cells #[.int .i64 x.verdict, .int .i64 x.reply.fn, .int .i64 x.reply.exc, .slice da x.reply.data.length dc, .int .i64 x.reply.code, .int .i64 x.reply.level, .bool x.reply.more, .int .i64 x.reply.next, .slice oa x.reply.objs.length oc] 27) (.cells #[.int .u8 1] 5) (.cells #[.int .u8 x.reply.fn] 5))
    have hwz : (w.alloc (.cells #[.int .i64 x.verdict, .int .i64 x.reply.fn, .int .i64 x.reply.exc, .slice da x.reply.data.length dc, .int .i64 x.reply.code, .int .i64 x.reply.level, .bool x.reply.more, .int .i64 x.reply.next, .slice oa x.reply.objs.length oc] 27)).heap.size = w.heap.size + 1 := by simp
    rw [hwz] at HO
    have hv' := hv
    rw [hv'] at HO HB HBE
    have HG : Hid ((((w.alloc (.cells #[.int .i64 1, .int .i64 x.reply.fn, .int .i64 x.reply.exc, .slice da x.reply.data.length dc, .int .i64 x.reply.code, .int .i64 x.reply.level, .bool x.reply.more, .int .i64 x.reply.next, .slice oa x.reply.objs.length oc] 27)).alloc (.cells #[.int .u8 1] 5)).alloc (.cells #[.int .u8 x.reply.fn] 5)).heap[w.heap.size]? = some (.cells #[.int .i64 1, .int .i64 x.reply.fn, .int .i64 x.reply.exc, .slice da x.reply.data.length dc, .int .i64 x.reply.code, .int .i64 x.reply.level, .bool x.reply.more, .int .i64 x.reply.next, .slice oa x.reply.objs.length oc] 27)) := (heap3 w _ _ _).1
    clear h hk hwz hv' hr ht hx
    generalize x.reply.data.length = dn at *
    generalize x.reply.objs.length = on at *
    generalize x.reply.pdu = pd at *
    generalize hvv : x.verdict = vv at *
    clear hvv
    subst hv
    go_enter Try.func50, Try.ntmps50
    go_wp2_with (at_builtin; refine wpList_appB rfl (.tmp 29) (.tmp 34) 22 rfl w.heap.size 5 i5 Try.underlying22 hi hz0 hz1 hz2 _ [byteI 1] rfl HO.out _ [byteI x.reply.fn] rfl HB.out (by simp) ?c2 ?c3)
    case c2 => first | omega | exact HBE.out.size
    case c3 =>
      intro v2 w2 hown2 hgr2 hnew2
      have hb2 := HBE.out.grown hgr2 HBE.out.size (fun k hk => by cases hk; exact Nat.le_succ _)
      have hg2 : w2.heap[w.heap.size]? = some (.cells #[.int .i64 1, .int .i64 x.reply.fn, .int .i64 x.reply.exc, .slice da dn dc, .int .i64 x.reply.code, .int .i64 x.reply.level, .bool x.reply.more, .int .i64 x.reply.next, .slice oa on oc] 27) := by
        rw [hgr2.block _ (by simp; omega) (fun e => absurd (show w.heap.size = w.heap.size + 1 from Option.some.inj e) (by omega))]; exact HG.out
      have p1 : w2.cell? ⟨w.heap.size, 1, none⟩ = some (.int .i64 x.reply.fn) := cell_heap hg2 1
      have p2 : w2.cell? ⟨w.heap.size, 2, none⟩ = some (.int .i64 x.reply.exc) := cell_heap hg2 2
      have p3 : w2.cell? ⟨w.heap.size, 3, none⟩ = some (.slice da dn dc) := cell_heap hg2 3
      have p4 : w2.cell? ⟨w.heap.size, 4, none⟩ = some (.int .i64 x.reply.code) := cell_heap hg2 4
      have p5 : w2.cell? ⟨w.heap.size, 5, none⟩ = some (.int .i64 x.reply.level) := cell_heap hg2 5
      have p6 : w2.cell? ⟨w.heap.size, 6, none⟩ = some (.bool x.reply.more) := cell_heap hg2 6
      have p7 : w2.cell? ⟨w.heap.size, 7, none⟩ = some (.int .i64 x.reply.next) := cell_heap hg2 7
      have p8 : w2.cell? ⟨w.heap.size, 8, none⟩ = some (.slice oa on oc) := cell_heap hg2 8
      obtain ⟨a2, c2, rfl⟩ := own_slice hown2
      have HX : Hid (w2.ownsRow w.heap.size 5 1 (.slice a2 (1 + 1) c2) (1 + 1) (u8s ([byteI 1] ++ [byteI x.reply.fn]))) := hown2
      have HL2 := hid hown2.lt
      have hsz2 := hb2.size
      have HB2 := hid hb2
      clear hown2 hgr2 hb2 hg2 hnew2
      go_wp2_with fail
      refine (HEN.out _ HB2.out).mono ?_
      rintro r w4 ⟨a4, c4, rfl, hb4, hbel4, ha4⟩
      have HA4 := hid ha4
      clear ha4
      have hsz4 := hbel4.size
      have HO4 := hid ((own_keeps HX.out (Keeps.of_below (F := fun _ => False) hbel4) (fun _ _ f => f)).alloc (.cells #[.int .u8 pd.length] 5))
      have HB4 := hid (bs1 w4 w4.heap.size pd.length (by omega) (by omega) rfl)
      have HY4 : Hid (Below w.heap.size w (w4.alloc (.cells #[.int .u8 pd.length] 5))) := (HB2.out.trans (hbel4.mono (by omega))).alloc (by omega) _
      have HP4 := hid (hb4.keep (bal' w4 (.cells #[.int .u8 pd.length] 5)))
      clear hb4 hbel4
      go_wp2_with (at_builtin; refine wpList_appB rfl (.tmp 46) (.tmp 50) 22 rfl w.heap.size 5 i5 Try.underlying22 hi hz0 hz1 hz2 _ ([byteI 1] ++ [byteI x.reply.fn]) rfl HO4.out _ [byteI pd.length] rfl HB4.out ?e1 ?e2 ?e3)
      case e1 => simp
      case e2 => simp; omega
      case e3 =>
        intro v5 w5 hown5 hgr5 _
        have hb5 := HY4.out.grown hgr5 (by simp; omega) (fun k hk => (HL2.out k hk).1)
        have hP5 : Bs w5 (.slice a4 pd.length c4) pd := HP4.out.keepsN (Keeps.of_grown (F := fun k => (Value.slice a2 (1 + 1) c2).ownBlock = some k) hgr5 (fun k hk => hk)) (fun _ ad had hF => by
          have h1 := HA4.out ad had
          have h2 := (HL2.out _ hF).2
          omega)
        obtain ⟨a5, c5, rfl⟩ := own_slice hown5
        have HP5 := hid hP5
        have HB5 := hid hb5
        have HL5 := hid hown5.lt
        have HO5 := hid hown5
        have hw5 : w.heap.size ≤ w5.heap.size := HB5.out.size
        clear hown5 hgr5 hP5 hb5
        go_wp2_with (at_builtin; refine wpList_app rfl (.tmp 51) (.tmp 52) 22 rfl w.heap.size 5 i5 Try.underlying22 hi hz0 hz1 hz2 _ ([byteI 1] ++ [byteI x.reply.fn] ++ [byteI pd.length]) rfl HO5.out _ pd rfl HP5.out ?f1 ?f2 ?f3)
        case f1 => simp; omega
        case f2 => exact hw5
        case f3 =>
          intro v6 w6 hown6 hgr6
          have hb6 := HB5.out.grown hgr6 hw5 (fun k hk => (HL5.out k hk).1)
          obtain ⟨a6, c6, rfl⟩ := own_slice hown6
          have HO6 := hid hown6
          have HB6 := hid hb6
          have HN := hid (show ([byteI 1] ++ [byteI x.reply.fn] ++ [byteI pd.length]).length + pd.length = ([byteI 1] ++ [byteI x.reply.fn] ++ [byteI pd.length] ++ pd).length by simp; omega)
          clear hown6 hgr6 hb6
          go_wp2
          go_ret
          exact OnePost.of_own HN.out HO6.out HB6.out

end Go.Proofs.Ytlaaoifjiogogaa
