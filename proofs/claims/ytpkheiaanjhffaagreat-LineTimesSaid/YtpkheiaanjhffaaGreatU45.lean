/-
  Texts 45 of the claim.
-/
import Derived.Test.YtpkheiaanjhffaaGreatU44
namespace Go.Proofs.YtpkheiaanjhffaaGreat
open Go.RowKit
theorem infoEvW : (Tryz.prog.info? 48).map (·.size) = some 3 := by kernel_rfl
theorem infoChW : (Tryz.prog.info? 116).map (·.size) = some 4 := by kernel_rfl
theorem atts_any {P : Nat → Prop} {w : World} {g : Nat} {sv av : Value} {lp : Bool} {s : Ln} (h : LnAt P w g sv av lp s) : Calls Tryz.prog 32 #[.pointer (some ⟨g, 0, none⟩)] w fun r w' => r = .returned (.int .i64 (s.sent.length : Int)) ∧ w = w' := by
  obtain ⟨tv, pv, cs, h⟩ := h
  obtain ⟨ta, tc, rfl⟩ := own_slice h.sn
  have c4 : w.cell? ⟨g, 4, none⟩ = some (.slice ta s.sent.length tc) := hpCell h.at_ 4
  obtain ⟨n, hn⟩ : ∃ n, s.sent.length = n := ⟨_, rfl⟩
  rw [hn] at c4 ⊢
  clear h hn
  go_enter Tryz.func32, Tryz.ntmps32
  go_wp2
  go_ret
  exact ⟨rfl, rfl⟩
theorem waits_any {P : Nat → Prop} {w : World} {g : Nat} {sv av : Value} {lp : Bool} {s : Ln} (h : LnAt P w g sv av lp s) : Calls Tryz.prog 33 #[.pointer (some ⟨g, 0, none⟩)] w fun r w' => r = .returned (.int .i64 (s.pend.length : Int)) ∧ w = w' := by
  obtain ⟨tv, pv, cs, h⟩ := h
  obtain ⟨ta, tc, rfl, -⟩ := h.pn.len
  have c4 : w.cell? ⟨g, 5, none⟩ = some (.slice ta s.pend.length tc) := hpCell h.at_ 5
  obtain ⟨n, hn⟩ : ∃ n, s.pend.length = n := ⟨_, rfl⟩
  rw [hn] at c4 ⊢
  clear h hn
  go_enter Tryz.func33, Tryz.ntmps33
  go_wp2
  go_ret
  exact ⟨rfl, rfl⟩
set_option maxRecDepth 100000 in
set_option maxHeartbeats 3200000 in
theorem next_none {P : Nat → Prop} {w : World} {g : Nat} {sv av : Value} {lp : Bool} {s : Ln} (h : LnAt P w g sv av lp s) (limit : Int) (hd : s.due limit = false) : Calls Tryz.prog 27 #[.pointer (some ⟨g, 0, none⟩), .int .i64 limit] w fun r w' => r = .returned (.tuple #[.agg #[.int .i64 0, .int .u8 0, .int .i64 0], .bool false]) ∧ Below w.heap.size w w' := by
  obtain ⟨tv, pv, cs, h⟩ := h
  obtain ⟨W1, hW1⟩ : ∃ W, w.alloc (.cells #[.int .i64 0, .int .u8 0, .int .i64 0] 48) = W := ⟨_, rfl⟩
  have hb1 : Below w.heap.size w W1 := by rw [← hW1]; exact bal' w _
  have c5 : W1.cell? ⟨g, 5, none⟩ = some pv := hpCell (hpKeep h.at_ hb1) 5
  have pZ : W1.heap[w.heap.size]? = some (.cells #[.int .i64 0, .int .u8 0, .int .i64 0] 48) := by rw [← hW1]; exact hpNew w _
  have HW1 := hid hW1
  have HB1 := hid hb1
  cases hp : s.pend with
  | nil =>
    obtain ⟨pa, pc, e, -⟩ := h.pn.len
    rw [hp] at e
    subst e
    replace c5 : W1.cell? ⟨g, 5, none⟩ = some (.slice pa 0 pc) := c5
    clear h hW1 hb1 hd hp
    go_enter Tryz.func27, Tryz.ntmps27
    go_upto_region 1 with (fail)
    rw [HW1.out]
    go_wp2_with (refine wpList_storeW rfl 48 (.tmp 4) (.tmp 29) rfl w.heap.size 0 _ 48 #[.int .i64 0, .int .u8 0, .int .i64 0] rfl rfl pZ (by simp) infoEvW rfl ?_; intro w8 g8 hk8 hz8)
    have g9 : w8.heap[w.heap.size]? = some (.cells #[.int .i64 0, .int .u8 0, .int .i64 0] 48) := g8
    refine bodyPost_ret (results_ct_row rfl _ _ w.heap.size 48 _ (0, 0) _ rfl g9 Tryz.underlying48 rfl infoEvW) rfl ?_
    exact ⟨rfl, HB1.out.trans (hk8.below HB1.out.size (fun j hj e => by omega))⟩
  | cons x r =>
    have hx : decide (limit < x.at_) = true := by
      unfold Ln.due at hd
      rw [hp] at hd
      dsimp only at hd
      have := of_decide_eq_false hd
      exact decide_eq_true (by omega)
    have hpn := h.pn
    rw [hp] at hpn
    rcases hpn with ⟨_, e⟩ | ⟨pg, po, pc, N, rfl, hat, h3, h4, h5, h6⟩
    · cases e
    · have y0 : W1.cell? ⟨pg, po, none⟩ = some (.int .i64 x.at_) := cell_keep hb1 (hat.cell (j := 0) rfl)
      obtain ⟨n, hn⟩ : ∃ n, (x :: r).length = n := ⟨_, rfl⟩
      have hn0 : 0 < n := by rw [← hn]; exact Nat.succ_pos _
      have hn1 : (0 : Int) < (n : Int) := by omega
      have hn2 : ¬ n = 0 := by omega
      have hn3 : ((n : Int) == 0) = false := b0 (by omega)
      rw [hn] at c5
      clear h hW1 hb1 hd hp hat h3 h4 h5 h6 hn
      go_enter Tryz.func27, Tryz.ntmps27
      go_upto_region 1 with (fail)
      rw [HW1.out]
      go_wp2_with (refine wpList_storeW rfl 48 (.tmp 4) (.tmp 29) rfl w.heap.size 0 _ 48 #[.int .i64 0, .int .u8 0, .int .i64 0] rfl rfl pZ (by simp) infoEvW rfl ?_; intro w8 g8 hk8 hz8)
      have g9 : w8.heap[w.heap.size]? = some (.cells #[.int .i64 0, .int .u8 0, .int .i64 0] 48) := g8
      refine bodyPost_ret (results_ct_row rfl _ _ w.heap.size 48 _ (0, 0) _ rfl g9 Tryz.underlying48 rfl infoEvW) rfl ?_
      exact ⟨rfl, HB1.out.trans (hk8.below HB1.out.size (fun j hj e => by omega))⟩
theorem run_dropPnW {P : Nat → Prop} {w : World} {v : Value} {x : Ch} {l : List Ch} (h : PnR P w v (x :: l)) :
    ∃ v', (∀ W, (Instr.slice 111 v (some (.int .i64 1)) none none).run Tryz.prog W = .ok v' W) ∧ PnR P w v' l := by
  rcases h with ⟨_, e⟩ | ⟨g, o, c, N, rfl, hat, h3, h4, h5, h6⟩
  · cases e
  · obtain ⟨i, hi, hz0, hz1, hz2⟩ := info_parts infoCh
    have hle := hat.le
    rw [List.length_cons] at h3 hle
    have h2 : ¬ ((l.length : Int) + 1 < 1) := by omega
    obtain ⟨cc, hc, hcs, hcr⟩ := hat.h
    by_cases hc1 : c = 1
    · subst hc1
      have hl0 : l = [] := List.eq_nil_of_length_eq_zero (by omega)
      subst hl0
      refine ⟨.slice (some ⟨g, o, none⟩) 0 0, fun W => ?_, .inr ⟨g, o, 0, N, rfl, ⟨⟨cc, hc, hcs, fun j u hj => by cases hj⟩, by show o + 0 * 4 ≤ N; omega⟩, Nat.le_refl _, Nat.zero_le _, by omega, h6⟩⟩
      simp [Instr.slice, Instr.sliceBounds, Instr.sliceBound, run_underlying Tryz.underlying111, asIntOf, sizeOf, typeInfo, hi]
    · refine ⟨.slice (some ⟨g, o + 4, none⟩) l.length (c - 1), fun W => ?_, .inr ⟨g, o + 4, c - 1, N, rfl, ⟨⟨cc, hc, hcs, fun j u hj => ?_⟩, by omega⟩, by omega, by omega, by omega, h6⟩⟩
      · simp [Instr.slice, Instr.sliceBounds, Instr.sliceBound, run_underlying Tryz.underlying111, asIntOf, sizeOf, typeInfo, hi, hz1, Addr.add, hc1, h2]
      · have := hcr (4 + j) u (by
          show (chC x ++ chV l)[4 + j]? = some u
          rw [List.getElem?_append_right (show 4 ≤ 4 + j by omega), show 4 + j - (chC x).length = j by show 4 + j - 4 = j; omega]
          exact hj)
        rw [← Nat.add_assoc] at this
        exact this
set_option maxRecDepth 100000 in
set_option maxHeartbeats 6400000 in
theorem next_some {P : Nat → Prop} {w : World} {g : Nat} {sv av : Value} {lp : Bool} {s : Ln} (h : LnAt P w g sv av lp s) (hok : s.ok) (x : Ch) (r : List Ch) (hp : s.pend = x :: r) (limit : Int) (hx : x.at_ ≤ limit) :
    Calls Tryz.prog 27 #[.pointer (some ⟨g, 0, none⟩), .int .i64 limit] w fun e w' => e = .returned (.tuple #[.agg #[.int .i64 x.at_, .int .u8 x.val, .int .i64 (s.ev x).fl], .bool true]) ∧ LnAt (GrowP P w w') w' g sv av lp (s.next x r) ∧ Keeps P w w' := by
  obtain ⟨tv, pv, cs, h⟩ := h
  obtain ⟨W1, hW1⟩ : ∃ W, w.alloc (.cells #[.int .i64 0, .int .u8 0, .int .i64 0] 48) = W := ⟨_, rfl⟩
  have hb1 : Below w.heap.size w W1 := by rw [← hW1]; exact bal' w _
  have hz1 : W1.heap.size = w.heap.size + 1 := by rw [← hW1]; simp
  have pZ : W1.heap[w.heap.size]? = some (.cells #[.int .i64 0, .int .u8 0, .int .i64 0] 48) := by rw [← hW1]; exact hpNew w _
  have hxk := hok.ch x (by rw [hp]; exact List.mem_cons_self)
  have hpn := h.pn.own'
  rw [hp] at hpn
  obtain ⟨v', hdrop, hpn'⟩ := run_dropPnW hpn
  obtain ⟨pa', pc', e', -⟩ := hpn'.len
  subst e'
  have hpe := h.pn
  rw [hp] at hpe
  rcases hpe with ⟨_, e⟩ | ⟨pg, po, pc, N, rfl, hat, -⟩
  · cases e
  obtain ⟨n, hn⟩ : ∃ n, (x :: r).length = n := ⟨_, rfl⟩
  obtain ⟨m, hm⟩ : ∃ n, r.length = n := ⟨_, rfl⟩
  have hn0 : 0 < n := by rw [← hn]; exact Nat.succ_pos _
  have hn1 : (0 : Int) < (n : Int) := by omega
  have hn2 : ¬ n = 0 := by omega
  have hn3 : ((n : Int) == 0) = false := b0 (by omega)
  have hat_ := h.at_
  rw [hn] at hat_ hdrop
  rw [hm] at hdrop hpn'
  have HH := hid h
  have hl1 : decide (limit < x.at_) = false := decide_eq_false (by omega)
  obtain ⟨XC, hXC⟩ : ∃ C : Array Value, (#[.int .i64 x.at_, .int .u8 x.val, .int .i64 x.fl, .int .i64 x.du] : Array Value) = C := ⟨_, rfl⟩
  have hxi : (Tryz.prog.info? 116).map (·.size) = some XC.size := by rw [← hXC]; exact infoChW
  have hxs : XC.size = 4 := by rw [← hXC]; rfl
  have hx1 : XC.toList.all (·.oneCell') = true := by rw [← hXC]; rfl
  have hrow : ∀ X, Below W1.heap.size W1 X → ∀ j u, XC.toList[j]? = some u → X.cell? ((⟨pg, po, none⟩ : Addr).add j) = some u := fun X hX j u hj => by
    rw [Addr.add_lit]
    rw [← hXC] at hj
    exact cell_keep hX (cell_keep hb1 (hat.cell (j := j) (by
      show (chC x ++ chV r)[j]? = some u
      rw [List.getElem?_append_left (show j < (chC x).length from (List.getElem?_eq_some_iff.1 hj).1)]
      exact hj)))
  have y0 : W1.cell? ⟨pg, po, none⟩ = some (.int .i64 x.at_) := cell_keep hb1 (hat.cell (j := 0) rfl)
  have c5 : W1.cell? ⟨g, 5, none⟩ = some (.slice (some ⟨pg, po, none⟩) n pc) := hpCell (hpKeep hat_ hb1) 5
  have f5 : ∀ X, Below W1.heap.size W1 X → X.frozen? ⟨g, 5, none⟩ = false := fun X hX => hpFree (hpKeep (hpKeep hat_ hb1) hX) 5
  have c5' : ∀ X, Below W1.heap.size W1 X → X.cell? ⟨g, 5, none⟩ = some (.slice (some ⟨pg, po, none⟩) n pc) := fun X hX => hpCell (hpKeep (hpKeep hat_ hb1) hX) 5
  have HROW := hid (hrow W1 (Below.refl _ _))
  have HAT := hid hat_
  have HB1 := hid hb1
  have HW1 := hid hW1
  have HZ1 := hid hz1
  have HPZ := hid pZ
  have HPN := hid hpn'
  have HXK := hid hxk
  have HOK := hid hok
  have HXC := hid hXC
  have HP := hid hp
  have HMN := hid (And.intro hn hm)
  clear h hok hat hpn hpn' hrow hat_ hb1 hW1 hz1 pZ hp hxk hXC hn hm hx
  go_enter Tryz.func27, Tryz.ntmps27
  go_upto_region 1 with (fail)
  rw [HW1.out]
  go_upto_region 4 with (first
    | (refine wpList_load_at rfl 116 (.tmp 34) rfl ⟨pg, po, none⟩ rfl XC _ HROW.out Tryz.underlying116 rfl hxi ?_)
    | (refine wpList_storeW rfl 116 (.tmp 6) (.tmp 35) rfl W1.heap.size 0 _ 116 XC rfl rfl (hpNew W1 _) (by simp [hxs]) hxi hx1 ?_; intro w3 g3 hk3 hz3; obtain ⟨p3, hb3⟩ := var_new (by rw [hxs]; rfl) g3 hk3; have c5x := c5' _ hb3; have f5x := f5 _ hb3))
  dsimp only [Act.put]
  go_upto_region 5 with (fail)
  obtain ⟨W4, hW4⟩ : ∃ W, w3.setCell ⟨g, 5, none⟩ (.slice pa' m pc') = W := ⟨_, rfl⟩
  obtain ⟨cb, hcb⟩ : ∃ n, W1.heap.size = n := ⟨_, rfl⟩
  rw [hcb] at p3
  rw [hW4, hcb]
  have hg3 := hpKeep (hpKeep HAT.out HB1.out) hb3
  have hgl : g < w.heap.size := hpLt HAT.out
  have hgc : ¬ cb = g := by have := HZ1.out; omega
  have hk34 : Keeps (· = g) w3 W4 := by rw [← hW4]; exact ks1 (Keeps.refl (· = g) w3) 5 _
  have pG4 : W4.heap[g]? = some (.cells (LnC sv av lp (.slice none 0 0) tv (.slice pa' m pc') s.free s.heard s.last) 113) := by rw [← hW4]; exact hpSet hg3 5 _
  have pC4 : W4.heap[cb]? = some (.cells #[.int .i64 x.at_, .int .u8 x.val, .int .i64 0, .int .i64 x.du] 116) := by
    have := hpKeeps p3 hk34 hgc
    rw [← HXC.out, HXK.out.fl] at this
    exact this
  have hw3 : Below w.heap.size w w3 := bt HB1.out hb3 (Nat.le_refl _)
  have HK4 : Hid (Keeps (· = g) w W4) := (Keeps.of_below (F := (· = g)) hw3).trans hk34 (fun _ _ e => e)
  have HE4 : Hid (W4.heap[w.heap.size]? = some (.cells #[.int .i64 0, .int .u8 0, .int .i64 0] 48)) := hpKeeps (hpKeep HPZ.out hb3) hk34 (fun e => by have e' : w.heap.size = g := e; omega)
  have HCB : Hid (w.heap.size < cb ∧ cb < W4.heap.size ∧ w.heap.size + 1 = cb) := by
    have := HZ1.out
    have := hpLt pC4
    show _ ∧ _ ∧ _
    omega
  have HGC := hid hgc
  have HG4 := hid pG4
  have HC4 := hid pC4
  clear hW4 hcb p3 hg3 hk34 pG4 pC4 hw3 c5x f5x hb3 y0 c5 c5' f5 hdrop hgc hgl
  obtain ⟨fl, hfl⟩ : ∃ y, (s.ev x).fl = y := ⟨_, rfl⟩
  obtain ⟨xat, hxat⟩ : ∃ y, x.at_ = y := ⟨_, rfl⟩
  obtain ⟨hd, hhd⟩ : ∃ y, s.heard = y := ⟨_, rfl⟩
  obtain ⟨lst, hlst⟩ : ∃ y, s.last = y := ⟨_, rfl⟩
  obtain ⟨du, hdu⟩ : ∃ y, x.du = y := ⟨_, rfl⟩
  obtain ⟨fre, hfre⟩ : ∃ y, s.free = y := ⟨_, rfl⟩
  obtain ⟨z, hz⟩ : ∃ y, lst + du = y := ⟨_, rfl⟩
  have hflE : fl = if hd = true ∧ xat < z then 2 else 0 := by rw [← hfl, ← hz, ← hhd, ← hxat, ← hlst, ← hdu]; rfl
  obtain ⟨B, hB⟩ : ∃ B : Bool, (B = true ↔ hd = true ∧ xat < z) := bool_is
  obtain ⟨u0, u1⟩ : 96 ≤ du ∧ du ≤ 9167 := by rw [← hdu]; exact ⟨HXK.out.d0, HXK.out.d1⟩
  obtain ⟨u2, u3⟩ : 0 ≤ lst ∧ lst ≤ topT + 33554432 := by rw [← hlst]; exact ⟨HOK.out.l0, HOK.out.l1⟩
  have etop : topT = 1152921504606846976 := rfl
  rw [etop] at u3
  have v1 : IntKind.i64.wrap (lst + du) = z := (IntWalk.i64_in _ (by omega)).trans hz
  rw [hfre, hhd, hlst] at HG4
  rw [hxat, hdu] at HC4
  rw [hxat]
  have h7 : W4.cell? ⟨g, 7, none⟩ = some (.bool hd) := hpCell HG4.out 7
  have h8 : W4.cell? ⟨g, 8, none⟩ = some (.int .i64 lst) := hpCell HG4.out 8
  have e0 : W4.cell? ⟨cb, 0, none⟩ = some (.int .i64 xat) := hpCell HC4.out 0
  have e3 : W4.cell? ⟨cb, 3, none⟩ = some (.int .i64 du) := hpCell HC4.out 3
  have HBB := hid hB
  have HFL := hid hflE
  have HEQ := hid (And.intro hfl (And.intro hxat (And.intro hhd (And.intro hlst (And.intro hdu hfre)))))
  clear hB hflE hfl hxat hhd hlst hdu hfre hz u0 u1 u2 u3 etop
  go_cut [60] from 44 to 60 (fun s60 wc => s60 = .bool B ∧ Below W4.heap.size W4 wc)
  case first =>
    cases hd with
    | false =>
      have HTE : Hid (B = false) := by cases B with
        | false => rfl
        | true => exact absurd (HBB.out.1 rfl).1 Bool.noConfusion
      clear HBB HFL HEQ
      go_quiet (fail)
      go_wp2
      go_meet
      case rel => exact ⟨by rw [HTE.out], below_drewN (Below.refl _ _) _⟩
    | true =>
      by_cases hlt : xat < z
      · have HTE : Hid (B = true) := HBB.out.2 ⟨rfl, hlt⟩
        have g1 : decide (xat < z) = true := decide_eq_true hlt
        clear HBB HFL HEQ hlt
        go_quiet (fail)
        go_wp2
        go_meet
        case rel => exact ⟨by rw [HTE.out], below_drewN (Below.refl _ _) _⟩
      · have HTE : Hid (B = false) := by cases B with
          | false => rfl
          | true => exact absurd (HBB.out.1 rfl).2 hlt
        have g1 : decide (xat < z) = false := decide_eq_false hlt
        clear HBB HFL HEQ hlt
        go_quiet (fail)
        go_wp2
        go_meet
        case rel => exact ⟨by rw [HTE.out], below_drewN (Below.refl _ _) _⟩
  case rest =>
  obtain ⟨rfl, hbc⟩ := hcut
  have e2 : wc.cell? ⟨cb, 2, none⟩ = some (.int .i64 0) := hpCell (hpKeep HC4.out hbc) 2
  have f2 : wc.frozen? ⟨cb, 2, none⟩ = false := hpFree (hpKeep HC4.out hbc) 2
  have o1 : bits .or .i64 0 2 = 2 := by decide
  have HBC := hid hbc
  clear h7 h8 e0 e3 v1 hbc
  go_upto_if 60 with (fail)
  go_cut [] from 60 to 66 (fun wd => Hid (wd.heap[cb]? = some (.cells #[.int .i64 xat, .int .u8 x.val, .int .i64 fl, .int .i64 du] 116) ∧ Keeps (· = cb) W4 wd))
  case first =>
    cases B with
    | false =>
      have HE : Hid (fl = 0) := by show _ = _; rw [HFL.out, if_neg (fun h => by have := HBB.out.2 h; cases this)]
      clear HBB HFL
      go_wp2
      go_meet
      case rel => rw [HE.out]; exact ⟨hpKeep HC4.out HBC.out, Keeps.of_below HBC.out⟩
    | true =>
      have HE : Hid (fl = 2) := by show _ = _; rw [HFL.out, if_pos (HBB.out.1 rfl)]
      clear HBB HFL
      go_wp2
      go_meet
      case rel => rw [HE.out]; exact ⟨hpSet (hpKeep HC4.out HBC.out) 2 _, (Keeps.of_below (F := (· = cb)) HBC.out).trans (ks1 (Keeps.refl (· = cb) wc) 2 _) (fun _ _ e => e)⟩
  case rest =>
  have HMD := hcut
  clear e2 f2 o1 HBC HBB
  have HGD := hid (hpKeeps HG4.out HMD.out.2 (fun e => HGC.out e.symm))
  have h7 : wc.cell? ⟨g, 7, none⟩ = some (.bool hd) := hpCell HGD.out 7
  have h8 : wc.cell? ⟨g, 8, none⟩ = some (.int .i64 lst) := hpCell HGD.out 8
  have q7 : wc.frozen? ⟨g, 7, none⟩ = false := hpFree HGD.out 7
  have q8 : wc.frozen? ⟨g, 8, none⟩ = false := hpFree HGD.out 8
  have e0 : wc.cell? ⟨cb, 0, none⟩ = some (.int .i64 xat) := hpCell HMD.out.1 0
  go_upto_region 7 with (fail)
  go_region
  obtain ⟨W7, hW7⟩ : ∃ W, ((wc.setCell ⟨g, 7, none⟩ (.bool true)).setCell ⟨g, 8, none⟩ (.int .i64 xat)).drew = W := ⟨_, rfl⟩
  have hk7 : Keeps (· = g) wc W7 := by rw [← hW7]; exact (ks1 (ks1 (Keeps.refl (· = g) wc) 7 _) 8 _).trans (Keeps.of_below (F := (· = g)) (Below.refl _ _).drew) (fun _ _ e => e)
  have pG7 : W7.heap[g]? = some (.cells (LnC sv av lp (.slice none 0 0) tv (.slice pa' m pc') fre true xat) 113) := by rw [← hW7]; exact hpSet (hpSet HGD.out 7 _) 8 _
  have pC7 := hpKeeps HMD.out.1 hk7 HGC.out
  rw [hW7]
  have HK7 := hid hk7
  have HG7 := hid pG7
  have HC7 := hid pC7
  have r6 : W7.cell? ⟨g, 6, none⟩ = some (.int .i64 fre) := hpCell pG7 6
  have r8 : W7.cell? ⟨g, 8, none⟩ = some (.int .i64 xat) := hpCell pG7 8
  have w6 : W7.frozen? ⟨g, 6, none⟩ = false := hpFree pG7 6
  obtain ⟨mx, hmx⟩ : ∃ y, max fre xat = y := ⟨_, rfl⟩
  have m1 : (if fre < xat then xat else fre) = mx := by rw [← hmx]; omega
  have HMX := hid hmx
  clear hk7 pG7 pC7 hW7 h7 h8 q7 q8 e0 hmx
  go_upto_region 8 with (fail)
  go_region
  obtain ⟨W8, hW8⟩ : ∃ W, (W7.setCell ⟨g, 6, none⟩ (.int .i64 mx)).drew = W := ⟨_, rfl⟩
  have hk8 : Keeps (· = g) W7 W8 := by rw [← hW8]; exact (ks1 (Keeps.refl (· = g) W7) 6 _).trans (Keeps.of_below (F := (· = g)) (Below.refl _ _).drew) (fun _ _ e => e)
  have pG8 : W8.heap[g]? = some (.cells (LnC sv av lp (.slice none 0 0) tv (.slice pa' m pc') mx true xat) 113) := by rw [← hW8]; exact hpSet HG7.out 6 _
  have pC8 := hpKeeps HC7.out hk8 HGC.out
  have hgl : g < w.heap.size := hpLt HAT.out
  have hcbl := HCB.out
  have pE8 : W8.heap[w.heap.size]? = some (.cells #[.int .i64 0, .int .u8 0, .int .i64 0] 48) := hpKeeps (hpKeeps (hpKeeps HE4.out HMD.out.2 (fun e => by have e' : w.heap.size = cb := e; omega)) HK7.out (fun e => by have e' : w.heap.size = g := e; omega)) hk8 (fun e => by have e' : w.heap.size = g := e; omega)
  have hrow8 : ∀ j u, (#[.int .i64 xat, .int .u8 x.val, .int .i64 fl] : Array Value).toList[j]? = some u → W8.cell? ((⟨cb, 0, none⟩ : Addr).add j) = some u := fun j u hj => by
    rw [Addr.add_lit, Nat.zero_add, hpCell pC8]
    rcases j with _ | _ | _ | j
    · exact hj
    · exact hj
    · exact hj
    · cases hj
  rw [hW8]
  have HK8 := hid hk8
  have HG8 := hid pG8
  clear hW8 hk8 pG8 pC8 r6 r8 w6 m1
  go_wp2_with (first
    | (refine wpList_load_at rfl 48 (.tmp 88) rfl ⟨cb, 0, none⟩ rfl #[.int .i64 xat, .int .u8 x.val, .int .i64 fl] _ hrow8 Tryz.underlying48 rfl infoEvW ?_)
    | (refine wpList_storeW rfl 48 (.tmp 4) (.tmp 89) rfl w.heap.size 0 _ 48 #[.int .i64 xat, .int .u8 x.val, .int .i64 fl] rfl rfl pE8 (by simp) infoEvW rfl ?_; intro w9 g9 hk9 hz9))
  have p9 : w9.heap[w.heap.size]? = some (.cells #[.int .i64 xat, .int .u8 x.val, .int .i64 fl] 48) := g9
  refine bodyPost_ret (results_ct_row rfl _ _ w.heap.size 48 _ (0, 0) _ rfl p9 Tryz.underlying48 rfl infoEvW) rfl ?_
  obtain ⟨q1, q2, q3, q4, q5, q6⟩ := HEQ.out
  obtain ⟨n1, n2⟩ := HMN.out
  have hpg := (HH.out.pn.blk pg rfl)
  have h49 : Keeps (fun j => j = g ∨ w.heap.size ≤ j) W4 w9 := (((HMD.out.2.mono (fun j _ e => .inr (by omega))).trans (HK7.out.mono (fun j _ e => .inl e)) (fun _ _ e => e)).trans (HK8.out.mono (fun j _ e => .inl e)) (fun _ _ e => e)).trans (hk9.mono (fun j _ e => .inr (by omega))) (fun _ _ e => e)
  have hkg : Keeps (· = g) w w9 := HK4.out.trans h49 (fun j hj e => by
    rcases e with e | e
    · exact e
    · omega)
  obtain ⟨a1, a2⟩ := HH.out.chg (s' := s.next x r) (pv' := .slice pa' m pc') (hkg.mono (fun j _ e => .inl e)) (by
    have h9 := hpKeeps HG8.out hk9 (fun e => by have e' : g = w.heap.size := e; omega)
    show w9.heap[g]? = some (.cells (LnC sv av lp (.slice none 0 0) tv (.slice pa' m pc') (max s.free x.at_) true x.at_) 113)
    rw [q6, q2, HMX.out]
    exact h9) rfl ((HPN.out.keeps hkg (fun j hj e => by
      have e1 : pg = j := by injection hj
      exact hpg.1 (e1.trans e))).mono (fun j hj => .inl hj))
  refine ⟨?_, ⟨_, _, _, a1⟩, a2⟩
  rw [q1, q2]
  rfl
end Go.Proofs.YtpkheiaanjhffaaGreat
