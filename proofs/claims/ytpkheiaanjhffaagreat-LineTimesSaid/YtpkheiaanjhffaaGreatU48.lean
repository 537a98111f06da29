/-
  Texts 48 of the claim.
-/
import Derived.Test.YtpkheiaanjhffaaGreatU47
import Derived.Deep.CutRange
import Derived.Test.YtpkheiaanjhffaaGreatU19
import Derived.Test.YtpkheiaanjhffaaGreatU26
namespace Go.Proofs.YtpkheiaanjhffaaGreat
open Go.RowKit
set_option maxRecDepth 100000 in
set_option maxHeartbeats 12800000 in
theorem one_any (la : Option Addr) (lc ln : Nat) (l : List Sl) (hl : l.length = ln) (hB : BusP l) (a : At) (ha : a.ok) (hwa : wfAt a) (bd pa : Int) (hset : Hid (Okset bd pa)) (f1 : wfI bd) (f2 : wfI pa) (fa : Option Addr) (fn fc : Nat) (f : List UInt8) (n1 : 1 ≤ fn) (n2 : fn ≤ 256) (tick : Int) (t0 : 0 ≤ tick) (t1 : tick ≤ 1000000000)
    (w : World) (hL : Slvs w (.slice la ln lc) l) (hf : Bs w (.slice fa fn fc) f) :
    Calls Tryz.prog 13 #[.slice la ln lc, .agg a.C, .agg #[.int .i64 bd, .int .i64 pa], .slice fa fn fc, .int .i64 tick] w (RcvdPost w (tick + frameT bd fn) (newsF l a bd pa f tick)) := by
  obtain ⟨i5, hi, hz0, hz1, hz2⟩ := info_parts infoEvN
  have hfn : f.length = fn := hf.capOf.1
  obtain ⟨C, hC⟩ : ∃ C, a.C = C := ⟨_, rfl⟩
  rw [hC]
  have hcs : C.size = 6 := by rw [← hC]; rfl
  have hi6 : (Tryz.prog.info? 24).map (·.size) = some C.size := by rw [← hC]; exact infoAT
  have hfold := atFold a C hC
  have etop : topT = 1152921504606846976 := rfl
  obtain ⟨news, hnews⟩ : ∃ n, newsF l a bd pa f tick = n := ⟨_, rfl⟩
  obtain ⟨nn, hnn⟩ : ∃ n, news.length = n := ⟨_, rfl⟩
  have hnl : nn ≤ 256 := by rw [← hnn, ← hnews]; unfold newsF; rw [chsN_len]; exact rcvF_len hB a bd pa f
  have hwl : f.length ≤ 256 := by omega
  have hnk : ∀ x ∈ news, ChOk x := by rw [← hnews]; exact newsF_ok hB hset.out ha hwl t0 (by omega)
  obtain ⟨q1, q2, q3, q4, q5, q6⟩ := At.ok_bd ha
  obtain ⟨u1, u2, -⟩ := time_bd hset.out
  have hasc : ascL news := by rw [← hnews]; exact chsN_asc (by omega) q5 _ _
  have hfl : ∀ (k : Nat) x y, 0 < k → news[k]? = some x → news[k - 1]? = some y → ¬ x.at_ < y.at_ + x.du := fun k x y hk hx hy => by
    rw [← hnews] at hx hy
    unfold newsF at hx hy
    obtain ⟨_, rfl⟩ := chsN_at hx
    obtain ⟨_, rfl⟩ := chsN_at hy
    have := chAt_lt (st := begT bd a tick f.length) (show 0 ≤ charT bd by omega) q5 (show k - 1 < k by omega) ((rcvF l a bd pa f).getD (k - 1) 0) ((rcvF l a bd pa f).getD k 0)
    show ¬ _ < _ + charT bd
    omega
  have hle : ∀ x ∈ news, x.at_ ≤ 1152921504606846976 := fun x hx => by
    rw [← hnews] at hx
    unfold newsF at hx
    obtain ⟨i, hi2⟩ := List.getElem?_of_mem hx
    obtain ⟨hi3, rfl⟩ := chsN_at hi2
    have hb := begT_bd hset.out ha tick hwl
    have hr := rcvF_len hB a bd pa f
    have h1 : ((i : Int) + 1) * charT bd ≤ 256 * 9167 := Int.mul_le_mul (by omega) u2 (by omega) (by omega)
    unfold chAt
    dsimp only
    generalize ((i : Int) + 1) * charT bd = m at h1 ⊢
    split <;> omega
  have hat : atOf [a] false 0 = a := atOf_in (j := 0) rfl rfl (.inr (Nat.succ_pos 0))
  have hsend : (Ln.zero.send l [a] false bd pa f tick).pend = news := by
    show (newsF l (atOf [a] false 0) bd pa f tick).foldl putL [] = news
    rw [hat, hnews]
    exact puts_asc hasc
  have hzok : (Ln.zero.send l [a] false bd pa f tick).ok := Ln.zero_ok.send hB (fun x hx => by rw [List.mem_singleton.1 hx]; exact ha) false hset.out hwl t0 (by omega)
  obtain ⟨en, hen⟩ : ∃ e, tick + frameT bd fn = e := ⟨_, rfl⟩
  have hse : Ln.zero.sendE fn tick = 0 := by
    unfold Ln.sendE
    rw [if_neg (by omega), if_neg (by omega), if_neg (by show ¬ tick < 0; omega)]
  obtain ⟨W1, hW1⟩ : ∃ W, (w.alloc (.cells C 24)).alloc (.cells #[.int .i64 bd, .int .i64 pa] 30) = W := ⟨_, rfl⟩
  have hb1 : Below w.heap.size w W1 := by rw [← hW1]; exact bta (bal' w _) (Nat.le_refl _) _
  have hz1' : W1.heap.size = w.heap.size + 2 := by rw [← hW1]; simp
  have pA : W1.heap[w.heap.size]? = some (.cells C 24) := by rw [← hW1]; exact hpKeep (hpNew w _) (bal' _ _)
  obtain ⟨sb, hsb⟩ : ∃ n, w.heap.size + 1 = n := ⟨_, rfl⟩
  have pS : W1.heap[sb]? = some (.cells #[.int .i64 bd, .int .i64 pa] 30) := by
    rw [← hsb, ← hW1]
    have h := hpNew (w.alloc (.cells C 24)) (.cells #[.int .i64 bd, .int .i64 pa] 30)
    simpa using h
  have hX : Below W1.heap.size W1 (W1.alloc (.cells C 24)) := bal' W1 _
  have HNC : Hid (Calls Tryz.prog 25 #[.slice la ln lc, .agg #[.slice (some ⟨W1.heap.size, 0, none⟩) 1 1, .bool false, .slice none 0 0]] (W1.alloc (.cells C 24)) (LnMade (W1.alloc (.cells C 24)) l false [a])) :=
    lnew_ok l ⟨[a], false, []⟩ la ln lc _ _ _ hl (hL.keep (bt hb1 hX (Nat.le_refl _))) (ats_one hwa (by rw [hC]; exact hpNew W1 _)) (Sls.nil _) hB ⟨by show 1 ≤ 4096; decide, (by rintro ⟨e, _⟩; cases e), by show 0 ≤ 8; decide, fun i x h => (by cases h), fun x hx => by rw [List.mem_singleton.1 hx]; exact ha⟩
  have HSD : Hid (∀ w5 g a5 c5 a2 c2, Below w.heap.size w w5 → LnAt (fun j => j = g) w5 g (.slice a5 l.length c5) (.slice a2 [a].length c2) false Ln.zero → LnG (fun j => j = g) w5 a5 l.length c5 a2 [a].length c2 l [a] false → w.heap.size ≤ g → Calls Tryz.prog 30 #[.pointer (some ⟨g, 0, none⟩), .agg #[.int .i64 bd, .int .i64 pa], .slice fa fn fc, .int .i64 tick] w5 (SdPost (fun j => j = g) w5 g (.slice a5 l.length c5) (.slice a2 [a].length c2) false (Ln.zero.send l [a] false bd pa f tick) en)) := fun w5 g a5 c5 a2 c2 hb5 h5 hG5 hg => by
    rw [← hen]
    exact send_go h5 Ln.zero_ok hG5 bd pa hset f1 f2 fa fn fc f (fun X hX => hf.keep ((Below.trans hb5 (hX.below hb5.size (fun j hj e => by omega))))) tick hse (by decide) (by decide)
  have HMA : Hid (∀ x ∈ [a], x.ok) := fun x hx => by rw [List.mem_singleton.1 hx]; exact ha
  have HBB := hid hB
  have HSE := hid hsend
  have HZO := hid hzok
  have HNK := hid hnk
  have HFL := hid hfl
  have HLE := hid hle
  have HNN := hid hnn
  have HNL := hid hnl
  have HB1 := hid hb1
  have HX := hid hX
  have HW1 := hid hW1
  have HSB := hid hsb
  have HPS := hid pS
  rw [hen, hnews]
  clear hl hB ha hwa hset f1 f2 n1 n2 t0 t1 hL hf hfn hC etop hnews hnn hnl hwl hnk q1 q2 q3 q4 q5 q6 u1 u2 hasc hfl hle hat hsend hzok hen hse hW1 hb1 hz1' hsb pS hX
  go_enter Tryz.func13, Tryz.ntmps13
  go_upto_region 1 with (fail)
  rw [HW1.out, HSB.out]
  go_upto_region 2 with (first
    | (refine wpList_load_row rfl 24 (.tmp 6) rfl w.heap.size rfl 24 C (0, 0) _ pA Tryz.underlying24 rfl hi6 ?_)
    | (go_at_call 25; (with_reducible refine HNC.out.mono ?_); rintro r w5 hm5; obtain ⟨g, a5, c5, a2, c2, rfl, hat5, hG5, hgl5, hb5⟩ := hm5.at HBB.out HMA.out (fun e => (by cases e))))
  have hB5 : Below w.heap.size w w5 := (HB1.out.trans (HX.out.mono HB1.out.size)).trans (hb5.mono (by have := HB1.out.size; have := HX.out.size; omega))
  have hgw : w.heap.size ≤ g := by have := HB1.out.size; have := HX.out.size; omega
  have HSD5 := hid (HSD.out w5 g a5 c5 a2 c2 hB5 hat5 hG5 hgw)
  have p5 := hpKeep (hpKeep HPS.out HX.out) hb5
  have y0 : w5.cell? ⟨sb, 0, none⟩ = some (.int .i64 bd) := hpCell p5 0
  have y1 : w5.cell? ⟨sb, 1, none⟩ = some (.int .i64 pa) := hpCell p5 1
  have HB5 := hid hB5
  have HGW := hid hgw
  have HAT5 := hid hat5
  clear hm5 hat5 hG5 hgl5 hb5 hB5 hgw p5 HSD HNC pA hfold hcs hi6
  go_upto_region 5 with (go_at_call 30; (with_reducible refine HSD5.out.mono ?_); rintro r w6 ⟨rfl, hat6, hk6⟩)
  have HR0 : Hid (OneR w w6 g (.slice a5 l.length c5) (.slice a2 [a].length c2) false news 0 (GrowP (fun j => j = g) w5 w6) (Ln.zero.send l [a] false bd pa f tick) (.slice none 0 0)) := by
    have z5 := HB5.out.size
    exact ⟨hat6, fun j hj => (by
      rcases hj with e | e
      · have := HGW.out
        omega
      · omega), World.ownsRow_nil _ _ _ _, fun j hj => (by cases hj), HB5.out.trans (hk6.below HB5.out.size (fun j hj e => by have := HGW.out; omega)), HZO.out, HSE.out, fun _ => rfl, fun y h => (by omega)⟩
  clear y0 y1 HSD5 hat6 hk6 HAT5
  go_upto_region 7 with (fail)
  go_loopw [17, 18] (fun ov kv wr => ∃ (k : Nat) (P : Nat → Prop) (s : Ln), k ≤ nn ∧ kv = .int .i64 (k : Int) ∧ Hid (OneR w wr g (.slice a5 l.length c5) (.slice a2 [a].length c2) false news k P s ov)) (fun _ kv _ => nn + 1 - (intOf kv).toNat)
  case atStart => exact ⟨0, _, _, Nat.zero_le _, rfl, HR0.out⟩
  case round =>
    clear HR0
    obtain ⟨k, P, s, hk, rfl, hr⟩ := hrel
    have hk3 : (k : Int) < 300 := by have := HNL.out; omega
    have hk0 : (0 : Int) ≤ (k : Int) := Int.natCast_nonneg _
    obtain ⟨oa, oc, hov⟩ := own_slice hr.out.own
    by_cases hlt : k < nn
    · obtain ⟨x, hx⟩ := gs (l := news) HNN.out hlt
      have hpd := hr.out.pd
      rw [List.drop_eq_getElem_cons (List.getElem?_eq_some_iff.1 hx).1, (List.getElem?_eq_some_iff.1 hx).2] at hpd
      have hxm := List.mem_of_getElem? hx
      have hfx : (s.ev x).fl = 0 := by
        show (if s.heard = true ∧ x.at_ < s.last + x.du then 2 else 0 : Int) = 0
        by_cases e : k = 0
        · rw [if_neg (fun h => by rw [hr.out.h0 e] at h; cases h.1)]
        · obtain ⟨y, hy⟩ := gs (l := news) HNN.out (show k - 1 < nn by omega)
          have h1 := HFL.out k x y (by omega) hx hy
          have h2 := hr.out.h1 y (by omega) hy
          rw [if_neg (fun h => by have := h.2; omega)]
      have HNX := hid (next_some hr.out.ln hr.out.ok x _ hpd 1152921504606846976 (HLE.out x hxm))
      rw [hfx] at HNX
      have HX' := hid hx
      have HLT := hid hlt
      have hkm : k ≤ 256 := by have := HNL.out; omega
      clear hx hpd hxm hfx hlt
      subst hov
      go_upto_region 11 with (first
        | (go_at_call 27; (with_reducible refine HNX.out.mono ?_); rintro r w2 ⟨rfl, hat2, hk2⟩)
        | (refine wpList_storeW rfl 48 (.tmp 19) (.tmp 50) rfl w2.heap.size 0 _ 48 #[.int .i64 x.at_, .int .u8 x.val, .int .i64 0] rfl rfl (hpNew w2 _) (by simp) infoEvW rfl ?_; intro w3 g3 hk3 hz3))
      obtain ⟨p3, hb3⟩ := var_new (by rfl) g3 hk3
      have hb23 : Below w2.heap.size w2 (w3.alloc (.cells #[.int .i64 x.at_, .int .u8 x.val, .int .i64 0] 48)) := hb3.trans ((bal' w3 _).mono hb3.size)
      have hol : ∀ j, (Value.slice oa k oc).ownBlock = some j → ¬ P j := hr.out.ap
      have hown2 := own_keeps (own_keeps hr.out.own hk2 hol) (Keeps.of_below (F := fun _ => False) hb23) (fun _ _ e => e)
      have hn3 : (w3.alloc (.cells #[.int .i64 x.at_, .int .u8 x.val, .int .i64 0] 48)).heap[w3.heap.size]? = some (.cells #[.int .i64 x.at_, .int .u8 x.val, .int .i64 0] 48) := hpNew w3 _
      have HAT2 := hid hat2
      have HK2 := hid hk2
      have HB23 := hid hb23
      have hbz : w.heap.size ≤ (w3.alloc (.cells #[.int .i64 x.at_, .int .u8 x.val, .int .i64 0] 48)).heap.size := by have := hr.out.b.size; have := hk2.size; have := hb23.size; omega
      clear g3 hk3 hz3 hb3 hb23 hol hat2 hk2 HNX
      go_wp2_with (first
        | (refine wpList_load_row rfl 48 (.tmp 19) rfl w2.heap.size rfl 48 #[.int .i64 x.at_, .int .u8 x.val, .int .i64 0] (0, 0) _ p3 Tryz.underlying48 rfl infoEvW ?_)
        | (at_builtin; refine wpList_appN rfl _ _ 43 rfl w.heap.size 48 i5 _ 3 24 Tryz.underlying43 hi hz0 hz1 hz2 rfl (by decide) (.slice oa k oc) k (evL (news.take k)) rfl hown2 ⟨w3.heap.size, 0, none⟩ 1 1 (evC x) rfl rfl (fun j u hj => rowAtW hn3 j u hj) (by intro u hu; unfold evC at hu; simp only [List.mem_cons, List.not_mem_nil, or_false] at hu; rcases hu with rfl | rfl | rfl <;> rfl) (by unfold maxLen; omega) (by omega) hbz ?_; intro v4 w4 hown4 hgr4 hnew4; have HR4 := hid (hr.out.step HX'.out HAT2.out HK2.out HB23.out hgr4 hown4 hnew4); clear hown4 hgr4 hnew4))
      go_roundw
      case rel => exact ⟨k + 1, _, _, by have := HLT.out; omega, by go_num, HR4.out⟩
      case measure => have := HLT.out; simp [intOf]; omega
    · obtain rfl : k = nn := by omega
      have hpd := hr.out.pd
      rw [List.drop_eq_nil_of_le (by rw [HNN.out]; exact Nat.le_refl _)] at hpd
      have HNX := hid (next_none hr.out.ln 1152921504606846976 (by unfold Ln.due; rw [hpd]))
      subst hov
      clear hpd hlt
      go_wp2_with (first
        | (go_at_call 27; (with_reducible refine HNX.out.mono ?_); rintro r w2 ⟨rfl, hb2⟩)
        | (refine wpList_storeW rfl 48 (.tmp 19) (.tmp 50) rfl w2.heap.size 0 _ 48 #[.int .i64 0, .int .u8 0, .int .i64 0] rfl rfl (hpNew w2 _) (by simp) infoEvW rfl ?_; intro w3 g3 hk3 hz3))
      obtain ⟨p3, hb3⟩ := var_new (by rfl) g3 hk3
      refine bodyPost_ret (results_tmp3 rfl _ _ _) rfl ?_
      have ho := own_keeps (own_keeps hr.out.own (Keeps.of_below (F := fun _ => False) hb2) (fun _ _ e => e)) (Keeps.of_below (F := fun _ => False) hb3) (fun _ _ e => e)
      have hta : news.take k = news := List.take_of_length_le (by rw [HNN.out]; exact Nat.le_refl _)
      rw [hta] at ho
      exact ⟨oa, oc, by rw [HNN.out]; rfl, by rw [HNN.out]; exact ho, bt (bt hr.out.b hb2 (Nat.le_refl _)) hb3 (Nat.le_refl _)⟩
theorem cellsAtW : Tryz.prog.cellsOf 24 = 6 := by kernel_rfl
theorem lst6W {α : Type} {l : List α} (h : l.length = 6) : ∃ a b c d e f, l = [a, b, c, d, e, f] := by
  match l, h with
  | [a, b, c, d, e, f], _ => exact ⟨a, b, c, d, e, f, rfl⟩
theorem at_rd {w : World} {cs : Array Value} (h : Rd Tryz.prog w 24 cs.toList) : ∃ a : At, cs = a.C ∧ wfAt a := by
  obtain ⟨hl, hf⟩ := h.struct Tryz.underlying24
  rw [cellsAtW] at hl
  obtain ⟨cl⟩ := cs
  obtain ⟨c0, c1, c2, c3, c4, c5, rfl⟩ := lst6W hl
  have f0 := hf _ (List.mem_cons_self ..)
  have f1 := hf _ (List.mem_cons_of_mem _ (List.mem_cons_self ..))
  have f2 := hf _ (List.mem_cons_of_mem _ (List.mem_cons_of_mem _ (List.mem_cons_self ..)))
  have f3 := hf _ (List.mem_cons_of_mem _ (List.mem_cons_of_mem _ (List.mem_cons_of_mem _ (List.mem_cons_self ..))))
  have f4 := hf _ (List.mem_cons_of_mem _ (List.mem_cons_of_mem _ (List.mem_cons_of_mem _ (List.mem_cons_of_mem _ (List.mem_cons_self ..)))))
  have f5 := hf _ (List.mem_cons_of_mem _ (List.mem_cons_of_mem _ (List.mem_cons_of_mem _ (List.mem_cons_of_mem _ (List.mem_cons_of_mem _ (List.mem_cons_self ..))))))
  simp only [cellsInt, List.drop_zero, List.drop_succ_cons, List.take_succ_cons, List.take_zero] at f0 f1 f2 f3 f4 f5
  obtain ⟨a0, rfl, w0⟩ := int_rd f0
  obtain ⟨a1, rfl, w1⟩ := int_rd f1
  obtain ⟨a2, rfl, w2⟩ := int_rd f2
  obtain ⟨a3, rfl, w3⟩ := int_rd f3
  obtain ⟨a4, rfl, w4⟩ := int_rd f4
  obtain ⟨a5, rfl, w5⟩ := int_rd f5
  exact ⟨⟨a0, a1, a2, a3, a4, a5⟩, rfl, w0, w1, w2, w3, w4, w5⟩
theorem ratt_w (a : At) (V : Bool) (hV : V = true ↔ a.ok) (w : World) : Calls Tryz.prog 9 #[.agg a.C] w (BoolPost w V) :=
  (ratt_any a w).mono fun r w' ⟨B, h1, h2, h3⟩ => by
    have e : B = V := by
      cases B <;> cases V
      · rfl
      · exact absurd (h2.out.2 (hV.1 rfl)) Bool.noConfusion
      · exact absurd (hV.2 (h2.out.1 rfl)) Bool.noConfusion
      · rfl
    subst e
    exact ⟨h1, h3⟩
theorem memb_self {l : List Sl} {n : Nat} {s : Sl} (h : l[n]? = some s) : ∀ k, n < k → n ∈ memb l s.bd s.pa s.un k
  | 0, hk => absurd hk (Nat.not_lt_zero _)
  | k + 1, hk => by
    show n ∈ memb l s.bd s.pa s.un k ++ _
    by_cases e : n = k
    · subst e
      refine List.mem_append_right _ ?_
      rw [h]
      dsimp only
      have hm : isMb s.bd s.pa s.un s = true := by unfold isMb; simp
      rw [if_pos hm]
      exact List.mem_singleton.2 rfl
    · exact List.mem_append_left _ (memb_self h k (by omega))
theorem memb_ne {l : List Sl} {n : Nat} {s : Sl} (h : l[n]? = some s) : memb l s.bd s.pa s.un l.length ≠ [] := fun e => by
  have := memb_self h l.length (List.getElem?_eq_some_iff.1 h).1
  rw [e] at this
  cases this
theorem rcvF_some {l : List Sl} (hB : BusP l) {n : Nat} {s : Sl} (h : l[n]? = some s) {q : Rq} (hq : q.ok = true) {a : At} (hf : ¬ (a.fault = 1 ∨ a.fault = 2)) : 5 ≤ (rcvF l a s.bd s.pa (rqFrame s.un q)).length := by
  have hv := hB.2 s (List.mem_of_getElem? h)
  have hd := busDec_frame l s.bd s.pa hv.un.1 hv.un.2 hq
  rw [if_neg (memb_ne h)] at hd
  have ha := fun x => (ansF_len hB hd x).1
  have e1 : ∀ x, 5 ≤ ((busAns l s.bd s.pa (rqFrame s.un q) x).getD []).length := fun x => by
    unfold busAns
    rw [hd]
    exact ha x
  unfold rcvF
  rw [if_neg hf]
  split
  · unfold busBusy
    rw [hd]
    show 5 ≤ (if _ then _ else _ : List UInt8).length
    split
    · exact (frameOf_len s.un (mkR_ok (ok_known hq) (by decide) (by decide))).1
    · exact ha 0
  · split
    · rw [damL_len]
      exact e1 _
    · exact e1 _
structure PickS (l : List Sl) (n : Nat) (x : Sl) : Prop where
  at_ : l[n]? = some x
  set : Okset x.bd x.pa
  un : 1 ≤ x.un ∧ x.un ≤ 247
theorem pickS {l : List Sl} (hB : BusP l) {n : Nat} {x : Sl} (h : l[n]? = some x) : PickS l n x := ⟨h, (hB.2 x (List.mem_of_getElem? h)).set, (hB.2 x (List.mem_of_getElem? h)).un⟩
end Go.Proofs.YtpkheiaanjhffaaGreat
