/-
  Texts A5 of the claim.
-/
import Derived.Test.YtpkheiaanjhffaaGreatU14
import Derived.Test.YtpkheiaanjhffaaGreatUA01
import Derived.Test.YtpkheiaanjhffaaGreatUA03
import Derived.Test.YtpkheiaanjhffaaGreatUA02
import Derived.Test.YtpkheiaanjhffaaGreatU08
import Derived.Test.YtpkheiaanjhffaaGreatU19
import Derived.Test.YtpkheiaanjhffaaGreatU26
import Derived.Test.YtpkheiaanjhffaaGreatU48
import Derived.Test.YtpkheiaanjhffaaGreatUA04
namespace Go.Proofs.YtpkheiaanjhffaaGreat
open Go.RowKit
theorem infoSM : (Tryz.prog.info? 38).map (·.size) = some 19 := by kernel_rfl
set_option maxRecDepth 100000 in
set_option maxHeartbeats 12800000 in
theorem ranswer_ex (s : Sl) (rv : Nat → Value) (ov sv : Value) (q : Rq) (x : Int) (x0 : 0 ≤ x) (x1 : x ≤ 65535) (w : World) (hR : SlR w s rv ov sv) (hv : s.val) (hq : q.ok = true) :
    Calls Tryz.prog 18 #[.agg (SlC s rv ov sv), .agg #[.int .i64 q.fn, .int .i64 q.addr, .int .i64 q.qty, .int .i64 q.code, .int .i64 q.obj], .int .i64 x] w (RepPost w (s.ans q x)) := by
  obtain ⟨C, hC⟩ : ∃ C, SlC s rv ov sv = C := ⟨_, rfl⟩
  have hcs : C.size = 19 := by rw [← hC]; rfl
  have hi19 : (Tryz.prog.info? 38).map (·.size) = some C.size := by rw [hcs]; exact infoSM
  rw [hC]
  obtain ⟨rp, hrp⟩ : ∃ rp, s.ans q x = rp := ⟨_, rfl⟩
  rw [hrp]
  have HRA := hid hrp
  clear hrp
  obtain ⟨W1, hW1⟩ : ∃ W, ((w.alloc (.cells C 38)).alloc (.cells #[.int .i64 q.fn, .int .i64 q.addr, .int .i64 q.qty, .int .i64 q.code, .int .i64 q.obj] 41)).alloc (.cells #[.int .i64 0, .int .i64 0, .slice none 0 0, .int .i64 0, .int .i64 0, .bool false, .int .i64 0, .slice none 0 0] 57) = W := ⟨_, rfl⟩
  have hz1 : W1.heap.size = w.heap.size + 3 := by rw [← hW1]; simp
  have hb1 : Below w.heap.size w W1 := by rw [← hW1]; exact bta (bta (bal' w _) (Nat.le_refl _) _) (Nat.le_refl _) _
  have pS : W1.heap[w.heap.size]? = some (.cells C 38) := by rw [← hW1]; exact hpKeep (hpKeep (hpNew w _) (bal' _ _)) (bal' _ _)
  have pQ : W1.heap[w.heap.size + 1]? = some (.cells #[.int .i64 q.fn, .int .i64 q.addr, .int .i64 q.qty, .int .i64 q.code, .int .i64 q.obj] 41) := by rw [← hW1]; refine hpKeep ?_ (bal' _ _); have h := hpNew (w.alloc (.cells C 38)) (.cells #[.int .i64 q.fn, .int .i64 q.addr, .int .i64 q.qty, .int .i64 q.code, .int .i64 q.obj] 41); rw [World.size_alloc] at h; exact h
  have pZ : W1.heap[w.heap.size + 2]? = some (.cells #[.int .i64 0, .int .i64 0, .slice none 0 0, .int .i64 0, .int .i64 0, .bool false, .int .i64 0, .slice none 0 0] 57) := by rw [← hW1]; have h := hpNew ((w.alloc (.cells C 38)).alloc (.cells #[.int .i64 q.fn, .int .i64 q.addr, .int .i64 q.qty, .int .i64 q.code, .int .i64 q.obj] 41)) (.cells #[.int .i64 0, .int .i64 0, .slice none 0 0, .int .i64 0, .int .i64 0, .bool false, .int .i64 0, .slice none 0 0] 57); rw [World.size_alloc, World.size_alloc] at h; exact h
  obtain ⟨zb, hzb⟩ : ∃ n, w.heap.size + 2 = n := ⟨_, rfl⟩
  have E2 : Hid (w.heap.size + 1 + 1 = zb) := hzb
  have EZ := hid hzb
  rw [hzb] at pZ
  have kk0 : Keeps (· = zb) W1 W1 := Keeps.refl _ _
  have hnS : ¬ w.heap.size = zb := by omega
  have hnQ : ¬ w.heap.size + 1 = zb := by omega
  have q0 : ∀ X, Keeps (· = zb) W1 X → X.cell? ⟨w.heap.size + 1, 0, none⟩ = some (.int .i64 q.fn) := fun X h => hpCell (hpKeeps pQ h hnQ) 0
  have q1 : ∀ X, Keeps (· = zb) W1 X → X.cell? ⟨w.heap.size + 1, 1, none⟩ = some (.int .i64 q.addr) := fun X h => hpCell (hpKeeps pQ h hnQ) 1
  have q2 : ∀ X, Keeps (· = zb) W1 X → X.cell? ⟨w.heap.size + 1, 2, none⟩ = some (.int .i64 q.qty) := fun X h => hpCell (hpKeeps pQ h hnQ) 2
  have q3 : ∀ X, Keeps (· = zb) W1 X → X.cell? ⟨w.heap.size + 1, 3, none⟩ = some (.int .i64 q.code) := fun X h => hpCell (hpKeeps pQ h hnQ) 3
  have q4 : ∀ X, Keeps (· = zb) W1 X → X.cell? ⟨w.heap.size + 1, 4, none⟩ = some (.int .i64 q.obj) := fun X h => hpCell (hpKeeps pQ h hnQ) 4
  have HVS : Hid (Calls Tryz.prog 37 #[.agg C] W1 (BoolPost W1 true)) := by
    have h := rslave_any s rv ov sv W1 (hR.keep hb1)
    rw [hC] at h
    exact h.mono fun _ _ ⟨V, h1, h2, h3⟩ => ⟨by rw [h1, h2.out.2 hv], h3⟩
  have HVQ : Hid (∀ X, Calls Tryz.prog 46 #[.agg #[.int .i64 q.fn, .int .i64 q.addr, .int .i64 q.qty, .int .i64 q.code, .int .i64 q.obj]] X (BoolPost X true)) := fun X => by
    have h := rqvalid_any q.fn q.addr q.qty q.code q.obj X
    have e : Rq.ok ⟨q.fn, q.addr, q.qty, q.code, q.obj⟩ = true := hq
    rw [e] at h
    exact h
  have PS := hid pS
  have PQ := hid pQ
  have PZ := hid pZ
  have HW1 := hid hW1
  have HB1 := hid hb1
  have HZ1 := hid hz1
  have HC := hid hC
  have HR := hid hR
  have HV := hid hv
  have HQ := hid hq
  have u0 : ¬ x < 0 := by omega
  have u1 : ¬ 65535 < x := by omega
  have HX : Hid (0 ≤ x ∧ x ≤ 65535) := ⟨x0, x1⟩
  clear hW1 hb1 hz1 hC pS pQ pZ hR hv x0 x1 hzb
  have hfn := fn_cases hq
  clear hq
  go_enter Tryz.func18, Tryz.ntmps18
  go_upto_region 1 with (fail)
  rw [HW1.out, E2.out]
  go_upto_region 3 with (first
    | (refine wpList_load_row rfl 38 (.tmp 3) rfl w.heap.size rfl 38 C (0, 0) _ PS.out Tryz.underlying38 rfl hi19 ?_)
    | (go_at_call 37; (with_reducible refine HVS.out.mono ?_); rintro r w2 ⟨rfl, hb2⟩; have kk2 : Keeps (· = zb) W1 w2 := Keeps.of_below hb2)
    | (go_at_call 46; (with_reducible refine (HVQ.out _).mono ?_); rintro r w3 ⟨rfl, hb3⟩; have kk3 : Keeps (· = zb) W1 w3 := kk2.trans (Keeps.of_below hb3) (fun _ _ e => e)))
  have hb13 : Below W1.heap.size W1 w3 := bt hb2 hb3 (Nat.le_refl _)
  have HB3 := hid (bt HB1.out hb13 (Nat.le_refl _))
  have pZ3 : w3.heap[zb]? = some (.cells #[.int .i64 0, .int .i64 0, .slice none 0 0, .int .i64 0, .int .i64 0, .bool false, .int .i64 0, .slice none 0 0] 57) := hpKeep PZ.out hb13
  have pS3 : w3.heap[w.heap.size]? = some (.cells C 38) := hpKeep PS.out hb13
  have HB13 := hid hb13
  have HPZ := hid pZ3
  have HPS := hid pS3
  have hz3 : W1.heap.size ≤ w3.heap.size := hb13.size
  have HZ3 : Hid (zb < w3.heap.size ∧ w.heap.size < w3.heap.size) := by have := HZ1.out; have := EZ.out; show _ ∧ _; omega
  clear hb13 hb2 hb3 pZ3 pS3 kk2 kk0 hz3 u0 u1 HVS HVQ
  rcases hfn with ⟨f1, f2⟩ | hf | ⟨hf, hc1, hc3⟩
  · -- a table
    obtain ⟨k, hk⟩ : ∃ k : Nat, q.fn = (k : Int) + 1 := ⟨(q.fn - 1).toNat, by omega⟩
    have h4 : k < 4 := by omega
    have s1 : IntKind.i64.wrap (q.fn - 1) = (k : Int) := (IntWalk.i64_in _ (by omega)).trans (by omega)
    have hki : (0 : Int) ≤ (k : Int) := Int.natCast_nonneg _
    have hkl : (k : Int) < 4 := by omega
    have t0 : ∀ X, Keeps (· = zb) W1 X → X.cell? ⟨w.heap.size, 3 + k * 3, none⟩ = some (.bool (s.ts k).sup) := fun X h => (SlC_tab s rv ov sv (by rw [HC.out]; exact hpKeeps PS.out h hnS) h4).1
    have t1 : ∀ X, Keeps (· = zb) W1 X → X.cell? ⟨w.heap.size, 3 + k * 3 + 1, none⟩ = some (rv k) := fun X h => (SlC_tab s rv ov sv (by rw [HC.out]; exact hpKeeps PS.out h hnS) h4).2.1
    have t2 : ∀ X, Keeps (· = zb) W1 X → X.cell? ⟨w.heap.size, 3 + k * 3 + 2, none⟩ = some (.int .i64 (s.ts k).most) := fun X h => (SlC_tab s rv ov sv (by rw [HC.out]; exact hpKeeps PS.out h hnS) h4).2.2
    have kD : Keeps (· = zb) W1 w3.drew := kk3.trans (Keeps.of_below (F := fun _ => False) (Below.refl _ _).drew) (fun _ _ e => e.elim)
    have HTB : Hid (Calls Tryz.prog 47 #[.agg #[.bool (s.ts k).sup, rv k, .int .i64 (s.ts k).most], .agg #[.int .i64 q.fn, .int .i64 q.addr, .int .i64 q.qty, .int .i64 q.code, .int .i64 q.obj], .int .i64 x] w3.drew (RepPost w3.drew rp)) := by
      have h := rtable_ans (s.ts k) (rv k) q HQ.out ⟨f1, f2⟩ x HX.out.1 HX.out.2 w3.drew ((HR.out.rg k h4).keep (bt HB3.out (Below.refl _ _).drew (Nat.le_refl _))) (fun hs => ((HV.out.tb k h4).2 hs).2.1)
      rw [← HRA.out, Sl.ans_tab hk h4, Tbl.ans_mk]
      exact h.mono fun _ _ h => h.rep
    have HK := hid hk
    clear hk
    go_upto_region 4 with (fail)
    refine wp_region_held_drew (S := fun V => Keeps (· = zb) W1 V) (by kernel_rfl) kD (fun hH => ?_)
    refine tkE 0 27 rfl rfl ?_; simp only [setS]
    refine tkE 1 28 rfl rfl ?_; simp only [setS]
    refine tkE 2 29 rfl rfl ?_; simp only [setS]
    refine tkE 3 30 rfl rfl ?_; simp only [setS]
    refine tkE 4 31 rfl rfl ?_; simp only [setS]
    refine tkE 5 32 rfl rfl ?_; simp only [setS]
    refine tkE 6 33 rfl rfl ?_; simp only [setS]
    refine tkE 7 34 rfl rfl ?_; simp only [setS]
    clear hH
    refine rdyH 8 rfl (fun K hK => ?_)
    go_simp
    refine HTB.out.mono ?_
    rintro r w5 ⟨da, dc, oa, oc, rfl, hrd, hb5⟩
    have kk5 : Keeps (· = zb) W1 w5 := kD.trans (Keeps.of_below hb5) (fun _ _ e => e)
    refine hK.out _ _ kk5 (fun hS7 => ?_)
    clear hK K
    have hpz5 := hpKeep HPZ.out ((Below.refl w3.heap.size w3).drew.trans hb5)
    refine rdyH 9 rfl (fun K hK => ?_)
    refine step_storeW rfl 57 (.tmp 6) (.tmp 35) rfl zb 0 _ 57 #[.int .i64 rp.fn, .int .i64 rp.exc, .slice da rp.data.length dc, .int .i64 rp.code, .int .i64 rp.level, .bool rp.more, .int .i64 rp.next, .slice oa rp.objs.length oc] rfl rfl hpz5 (by simp) info8 rfl ?_
    intro w8 g8 hk8 hz8
    have kk8 : Keeps (· = zb) W1 w8 := kk5.trans hk8 (fun _ _ e => e)
    refine hK.out _ _ kk8 (fun hS9 => ?_)
    clear hK K hS9 hS7 t0 t1 t2 q0 q1 q2 q3 q4
    refine wpAnyH_done (by kernel_rfl) ?_ _
    have g9 : w8.heap[zb]? = some (.cells #[.int .i64 rp.fn, .int .i64 rp.exc, .slice da rp.data.length dc, .int .i64 rp.code, .int .i64 rp.level, .bool rp.more, .int .i64 rp.next, .slice oa rp.objs.length oc] 57) := g8
    clear g8
    go_wp2
    refine bodyPost_ret (results_cell_row rfl _ _ (zb) 57 _ (0, 0) _ rfl g9 Tryz.underlying57 rfl info8) rfl ?_
    exact RepPost.stored (w5 := w3.drew) hrd hb5 (bt HB3.out (Below.refl _ _).drew (Nat.le_refl _)) (by have := EZ.out; omega) (by have := HZ3.out; show zb < w3.heap.size; omega) hk8
  · -- the server's identification
    have q0' : w3.cell? ⟨w.heap.size + 1, 0, none⟩ = some (.int .i64 17) := by rw [q0 w3 kk3, hf]
    have t17 : w3.cell? ⟨w.heap.size, 17, none⟩ = some (.bool s.hs) := by have := HPS.out; rw [← HC.out] at this; exact hpCell this 17
    have t18 : w3.cell? ⟨w.heap.size, 18, none⟩ = some sv := by have := HPS.out; rw [← HC.out] at this; exact hpCell this 18
    have HF := hid hf
    have HRS : Hid (rp = s.srvA) := by show _ = _; rw [← HRA.out]; exact Sl.ans_srv hf x
    clear q0 q1 q2 q3 q4 hf
    have pz := HPZ.out
    cases hs : s.hs with
    | false =>
      rw [hs] at t17
      go_wp2_with (refine wpList_storeW rfl 57 (.tmp 6) (.tmp 45) rfl zb 0 _ 57 #[.int .i64 17, .int .i64 1, .slice none 0 0, .int .i64 0, .int .i64 0, .bool false, .int .i64 0, .slice none 0 0] rfl rfl pz (by simp) info8 rfl ?_; intro w8 g8 hk8 hz8)
      have g9 : w8.heap[zb]? = some (.cells #[.int .i64 17, .int .i64 1, .slice none 0 0, .int .i64 0, .int .i64 0, .bool false, .int .i64 0, .slice none 0 0] 57) := g8
      refine bodyPost_ret (results_cell_row rfl _ _ (zb) 57 _ (0, 0) _ rfl g9 Tryz.underlying57 rfl info8) rfl ?_
      have e : s.srvA = mkR 17 1 [] := by unfold Sl.srvA; rw [if_neg (by rw [hs]; decide)]
      rw [HRS.out, e]
      exact RepPost.stored (rp := mkR 17 1 []) (w5 := w3) (da := none) (dc := 0) (oa := none) (oc := 0) (fun W _ => ⟨Bs.nil W, Obs.nil W, (by show (0 : Int) ≤ _; decide), (by show _ ≤ (0 : Int); decide)⟩) (Below.refl _ _) HB3.out (by have := EZ.out; omega) HZ3.out.1 hk8
    | true =>
      rw [hs] at t17
      obtain ⟨sa, sc, rfl, -⟩ := id HR.out.sd
      have HBS : Hid (Bs w3 (.slice sa s.sd.length sc) s.sd) := HR.out.sd.keep HB3.out
      have hsl := HV.out.sl
      obtain ⟨iU, hiU, hzU0, hzU1, hzU2⟩ := info_parts infoB
      obtain ⟨sn, hsn⟩ : ∃ n, s.sd.length = n := ⟨_, rfl⟩
      have HSN := hid hsn
      rw [hsn] at t18 HBS hsl
      clear hsn
      go_wp2_with (first
        | (at_builtin; refine wpList_appB rfl (.const (.slice none 0 0)) (.tmp 47) 36 rfl w3.heap.size 5 iU Tryz.underlying36 hiU hzU0 hzU1 hzU2 (.slice none 0 0) [] rfl (World.ownsRow_nil _ _ _ _) (.slice sa sn sc) s.sd rfl HBS.out (by have := HSN.out; simp only [List.length_nil]; omega) (Nat.le_refl _) ?_; intro v5 w5 hown5 hgr5 hnew5; simp only [List.length_nil, Nat.zero_add, List.nil_append] at hown5; obtain ⟨a5, c5, rfl⟩ := own_slice hown5; have hb5 : Below w3.heap.size w3 w5 := (Below.refl _ _).grown hgr5 (Nat.le_refl _) (fun k hk => nomatch hk); have pz5 := hpKeep pz hb5)
        | (refine wpList_storeW rfl 57 (.tmp 6) (.tmp 49) rfl zb 0 _ 57 #[.int .i64 17, .int .i64 0, .slice a5 s.sd.length c5, .int .i64 0, .int .i64 0, .bool false, .int .i64 0, .slice none 0 0] rfl rfl pz5 (by simp) info8 rfl ?_; intro w8 g8 hk8 hz8))
      have g9 : w8.heap[zb]? = some (.cells #[.int .i64 17, .int .i64 0, .slice a5 s.sd.length c5, .int .i64 0, .int .i64 0, .bool false, .int .i64 0, .slice none 0 0] 57) := g8
      refine bodyPost_ret (results_cell_row rfl _ _ (zb) 57 _ (0, 0) _ rfl g9 Tryz.underlying57 rfl info8) rfl ?_
      rw [HRS.out]
      exact srv_rep (w3 := w3) hs hown5 hb5 HB3.out (by have := EZ.out; omega) HZ3.out.1 hk8
  · -- the device's identification
    have q0' : w3.cell? ⟨w.heap.size + 1, 0, none⟩ = some (.int .i64 43) := by rw [q0 w3 kk3, hf]
    have pq := hpKeep PQ.out HB13.out
    have ps := HPS.out
    have pz := HPZ.out
    have HF := hid hf
    have hi5 : (Tryz.prog.info? 41).map (·.size) = some 5 := by kernel_rfl
    clear q0 q1 q2 q3 q4
    have HDV : Hid (Calls Tryz.prog 48 #[.agg C, .agg #[.int .i64 q.fn, .int .i64 q.addr, .int .i64 q.qty, .int .i64 q.code, .int .i64 q.obj]] w3 (RepPost w3 rp)) := by
      rw [← HRA.out, Sl.ans_dev hf, hf]
      by_cases h0 : s.lv = 0
      · have h := rdev_no s rv ov sv q.addr q.qty q.code q.obj w3 (HR.out.keep HB3.out) h0
        rw [HC.out] at h
        exact h.mono fun _ _ h => dev_rep HV.out.lv (.inl ⟨h0, h⟩)
      · have hl := HV.out.lv
        have hl0 : 0 < s.lv := by omega
        obtain ⟨c, hc⟩ : ∃ c : Nat, q.code = (c : Int) := ⟨q.code.toNat, by omega⟩
        have h := rdev_sel s rv ov sv q.addr q.qty q.obj c (by omega) (by omega) w3 (HR.out.keep HB3.out) hl0 (HV.out.on hl0).1 (fun y hy => by obtain ⟨i, hi⟩ := List.getElem?_of_mem hy; have := HV.out.vl hl0 i y hi; omega)
        rw [HC.out] at h
        rw [hc]
        refine h.mono fun _ _ h => dev_rep hl (.inr ⟨h0, ?_⟩)
        rw [hc]
        exact h
    clear hf hc1 hc3
    go_wp2_with (first
      | (refine wpList_load_row rfl 38 (.tmp 3) rfl w.heap.size rfl 38 C (0, 0) _ ps Tryz.underlying38 rfl hi19 ?_)
      | (refine wpList_load_row rfl 41 (.tmp 4) rfl (w.heap.size + 1) rfl 41 #[.int .i64 q.fn, .int .i64 q.addr, .int .i64 q.qty, .int .i64 q.code, .int .i64 q.obj] (0, 0) _ pq Tryz.underlying41 rfl hi5 ?_)
      | (go_at_call 48; (with_reducible refine HDV.out.mono ?_); rintro r w5 ⟨da, dc, oa, oc, rfl, hrd, hb5⟩; have pz5 := hpKeep pz hb5)
      | (refine wpList_storeW rfl 57 (.tmp 6) (.tmp 41) rfl zb 0 _ 57 #[.int .i64 rp.fn, .int .i64 rp.exc, .slice da rp.data.length dc, .int .i64 rp.code, .int .i64 rp.level, .bool rp.more, .int .i64 rp.next, .slice oa rp.objs.length oc] rfl rfl pz5 (by simp) info8 rfl ?_; intro w8 g8 hk8 hz8))
    have g9 : w8.heap[zb]? = some (.cells #[.int .i64 rp.fn, .int .i64 rp.exc, .slice da rp.data.length dc, .int .i64 rp.code, .int .i64 rp.level, .bool rp.more, .int .i64 rp.next, .slice oa rp.objs.length oc] 57) := g8
    refine bodyPost_ret (results_cell_row rfl _ _ (zb) 57 _ (0, 0) _ rfl g9 Tryz.underlying57 rfl info8) rfl ?_
    exact RepPost.stored hrd hb5 HB3.out (by have := EZ.out; omega) HZ3.out.1 hk8
theorem bit_xorB1 (f : List UInt8) {p m : Nat} (hp : p < f.length) (hm : m < 256) (k : Nat) : bitAt (xorB1 f p m) k = (bitAt f k ^^ (decide (k / 8 = p) && m.testBit (k % 8))) := by
  unfold bitAt xorB1
  by_cases e : k / 8 = p
  · rw [decide_eq_true e, Bool.true_and, e]
    have h1 : (f.set p (f.getD p 0 ^^^ UInt8.ofNat m)).getD p 0 = f.getD p 0 ^^^ UInt8.ofNat m := by simp [List.getD_eq_getElem?_getD, hp]
    rw [h1, UInt8.toNat_xor, Nat.testBit_xor]
    have h2 : (UInt8.ofNat m).toNat = m := by simp; omega
    rw [h2]
  · rw [decide_eq_false e, Bool.false_and, Bool.xor_false]
    have h1 : (f.set p (f.getD p 0 ^^^ UInt8.ofNat m)).getD (k / 8) 0 = f.getD (k / 8) 0 := by simp [List.getD_eq_getElem?_getD, Ne.symm e]
    rw [h1]
theorem low_bit : ∀ m, m < 256 → m ≠ 0 → ∃ t, t < 8 ∧ m.testBit t = true ∧ ∀ u, u < t → m.testBit u = false := by
  intro m hm h0
  have H : ∀ m : Fin 256, m.val ≠ 0 → ∃ t : Fin 8, m.val.testBit t.val = true ∧ ∀ u : Fin 8, u.val < t.val → m.val.testBit u.val = false := by decide +kernel
  obtain ⟨t, h1, h2⟩ := H ⟨m, hm⟩ h0
  exact ⟨t.val, t.isLt, h1, fun u hu => h2 ⟨u, by have := t.isLt; omega⟩ hu⟩
theorem dmg_gen {f g : List UInt8} (hf : crcChk f = true) (hl : g.length = f.length) {p m1 m2 : Nat} (hp : p < f.length) (h1 : m1 ≠ 0) (h2 : m1 < 256)
    (hb : ∀ k, bitAt g k = (bitAt f k ^^ ((decide (k / 8 = p) && m1.testBit (k % 8)) ^^ (decide (k / 8 = p + 1) && m2.testBit (k % 8))))) : crcChk g = false := by
  obtain ⟨t, t1, t2, t3⟩ := low_bit m1 h2 h1
  refine chk_err f g (fun k => (decide (k / 8 = p) && m1.testBit (k % 8)) ^^ (decide (k / 8 = p + 1) && m2.testBit (k % 8))) hl ((chk_iff f).1 hf).2 (fun k _ => hb k) (burst_ne _ (8 * p + t) _ (by omega) (fun k hk => ?_) ?_ (fun k hk => ?_))
  · by_cases e : k / 8 = p
    · have e1 := t3 (k % 8) (by omega)
      have e2 : ¬ k / 8 = p + 1 := by omega
      simp only [e1, decide_eq_false e2, Bool.and_false, Bool.false_and, Bool.xor_self]
    · have e2 : ¬ k / 8 = p + 1 := by omega
      simp only [decide_eq_false e, decide_eq_false e2, Bool.false_and, Bool.xor_self]
  · have e1 : (8 * p + t) / 8 = p := by omega
    have e2 : (8 * p + t) % 8 = t := by omega
    have e3 : ¬ p = p + 1 := by omega
    simp only [e1, e2, t2, decide_eq_false e3, decide_true, Bool.false_and, Bool.and_true, Bool.xor_false]
  · have e1 : ¬ k / 8 = p := by omega
    have e2 : ¬ k / 8 = p + 1 := by omega
    simp only [decide_eq_false e1, decide_eq_false e2, Bool.false_and, Bool.xor_self]
theorem dmg_one {f : List UInt8} (hf : crcChk f = true) {p m : Nat} (hp : p < f.length) (h1 : m ≠ 0) (h2 : m < 256) : crcChk (xorB1 f p m) = false :=
  dmg_gen (m2 := 0) hf (xorB1_len _ _ _) hp h1 h2 fun k => by
    rw [bit_xorB1 f hp h2, Nat.zero_testBit, Bool.and_false, Bool.xor_false]
theorem dmg_two {f : List UInt8} (hf : crcChk f = true) {p m n : Nat} (hp : p + 1 < f.length) (h1 : m ≠ 0) (h2 : m < 256) (h3 : n < 256) : crcChk (xorB1 (xorB1 f p m) (p + 1) n) = false :=
  dmg_gen (p := p) (m1 := m) (m2 := n) hf (by rw [xorB1_len, xorB1_len]) (by omega) h1 h2 fun k => by
    rw [bit_xorB1 _ (by rw [xorB1_len]; exact hp) h3, bit_xorB1 f (by omega) h2, Bool.xor_assoc]
theorem damL_chk {f : List UInt8} (hf : crcChk f = true) (h0 : 0 < f.length) {a : At} (h1 : 1 ≤ a.mask) (h2 : a.mask ≤ 65535) (h3 : a.mask % 256 ≠ 0) : crcChk (damL a f) = false := by
  have hp : a.pos.toNat % f.length < f.length := Nat.mod_lt _ h0
  have e1 : a.mask.toNat % 256 ≠ 0 := by omega
  have e2 : a.mask.toNat % 256 < 256 := Nat.mod_lt _ (by decide)
  have e3 : a.mask.toNat / 256 < 256 := by omega
  unfold damL
  split
  case isTrue h => exact dmg_two hf h e1 e2 e3
  case isFalse h => exact dmg_one hf hp e1 e2
theorem flipL_chk {f : List UInt8} (hf : crcChk f = true) (h0 : 0 < f.length) : crcChk (flipL f) = false :=
  dmg_one (p := f.length - 1) (m := 255) hf (by omega) (by decide) (by decide)
theorem frameOf_chk (u : Int) (rp : Rp) : crcChk (frameOf u rp) = true := chk_tail _
theorem frameOf_split {u : Int} (u1 : 1 ≤ u) (u2 : u ≤ 247) {rp : Rp} (h : rp.ok = true) : splitB crcChk (frameOf u rp) = some (u, rp.pdu) := by
  obtain ⟨n1, n2⟩ := frameOf_len u h
  have e0 : (frameOf u rp).getD 0 0 = UInt8.ofNat u.toNat := rfl
  have e1 := byteU u1 u2
  unfold splitB
  rw [e0, e1, if_pos ⟨by omega, n2, frameOf_chk u rp, u1, u2⟩]
  have hl : (frameOf u rp).length = rp.pdu.length + 3 := aduF_length _ _
  have e2 : (List.take ((frameOf u rp).length - 2) (frameOf u rp)).drop 1 = rp.pdu := by
    rw [hl]
    show List.drop 1 (List.take (rp.pdu.length + 3 - 2) ((UInt8.ofNat u.toNat :: rp.pdu) ++ crcTail (UInt8.ofNat u.toNat :: rp.pdu))) = _
    rw [List.take_append_of_le_length (by simp), List.take_of_length_le (by simp)]
    rfl
  rw [e2]
theorem rcvF_split {l : List Sl} (hB : BusP l) {n : Nat} {s : Sl} (h : l[n]? = some s) {q : Rq} (hq : q.ok = true) {a : At} (ha : a.ok) (hf : ¬ (a.fault = 1 ∨ a.fault = 2)) :
    if 1 < (memb l s.bd s.pa s.un l.length).length ∨ a.fault = 3 then crcChk (rcvF l a s.bd s.pa (rqFrame s.un q)) = false
    else splitB crcChk (rcvF l a s.bd s.pa (rqFrame s.un q)) = some (s.un, (if a.fault = 5 then mkR q.fn 6 [] else s.ans q a.value).pdu) := by
  have hv := hB.2 s (List.mem_of_getElem? h)
  have hd := busDec_frame l s.bd s.pa hv.un.1 hv.un.2 hq
  have hne := memb_ne h
  rw [if_neg hne] at hd
  have hms := memb_self h l.length (List.getElem?_eq_some_iff.1 h).1
  generalize hm : memb l s.bd s.pa s.un l.length = ms at *
  unfold rcvF loneB busBusy busAns
  rw [if_neg hf, hd]
  show if 1 < ms.length ∨ a.fault = 3 then crcChk (if a.fault = 5 then (if ms.length = 1 then frameOf s.un (mkR q.fn 6 []) else ansF l 0 (s.un, q, ms)) else if a.fault = 3 ∧ decide (ms.length = 1) = true then damL a (ansF l a.value (s.un, q, ms)) else ansF l a.value (s.un, q, ms)) = false
    else splitB crcChk (if a.fault = 5 then (if ms.length = 1 then frameOf s.un (mkR q.fn 6 []) else ansF l 0 (s.un, q, ms)) else if a.fault = 3 ∧ decide (ms.length = 1) = true then damL a (ansF l a.value (s.un, q, ms)) else ansF l a.value (s.un, q, ms)) = _
  have hlen : 0 < ms.length := List.length_pos_iff.2 hne
  have hmem : ∀ j ∈ ms, ∃ t, l[j]? = some t ∧ t.val := fun j hj => by
    rw [← hm] at hj
    obtain ⟨t, ht, -⟩ := memb_mem hj
    exact ⟨t, ht, hB.2 t (List.mem_of_getElem? ht)⟩
  cases ms with
  | nil => exact absurd rfl hne
  | cons j ms =>
    obtain ⟨t, ht, hvt⟩ := hmem j List.mem_cons_self
    have hans : ∀ x, (t.ans q x).ok = true := fun x => Sl.ans_ok hvt hq x
    by_cases hone : ms = []
    · subst hone
      have hj : n = j := by simpa using hms
      subst hj
      rw [h] at ht
      injection ht with ht
      subst ht
      have eA : ∀ x, ansF l x (s.un, q, [n]) = frameOf s.un (s.ans q x) := fun x => by
        show (match l[n]? with | none => [] | some s' => if ([] : List Nat) = [] then frameOf s.un (s'.ans q x) else _) = _
        rw [h]
        rfl
      rw [eA, eA]
      by_cases h3 : a.fault = 3
      · rw [if_pos (Or.inr h3), if_neg (by omega), if_pos ⟨h3, rfl⟩]
        obtain ⟨m1, m2, m3⟩ : 1 ≤ a.mask ∧ a.mask ≤ 65535 ∧ a.mask % 256 ≠ 0 := by
          have := ha.2.2.2.2.2.2
          omega
        exact damL_chk (frameOf_chk _ _) (by have := (frameOf_len s.un (hans a.value)).1; omega) m1 m2 m3
      · rw [if_neg (by intro e; rcases e with e | e; exact absurd e (Nat.lt_irrefl 1); exact h3 e)]
        by_cases h5 : a.fault = 5
        · rw [if_pos h5, if_pos h5, if_pos (show [n].length = 1 from rfl)]
          exact frameOf_split hv.un.1 hv.un.2 (mkR_ok (ok_known hq) (by decide) (by decide))
        · rw [if_neg h5, if_neg h5, if_neg (fun e => h3 e.1)]
          exact frameOf_split hv.un.1 hv.un.2 (hans a.value)
    · have hl2 : 1 < (j :: ms).length := by
        have := List.length_pos_iff.2 hone
        show 1 < ms.length + 1
        omega
      have eA : ∀ x, ansF l x (s.un, q, j :: ms) = flipL (frameOf s.un (t.ans q x)) := fun x => by
        show (match l[j]? with | none => [] | some s' => if ms = [] then frameOf s.un (s'.ans q x) else flipL (frameOf s.un (s'.ans q x))) = _
        rw [ht]
        show (if ms = [] then _ else _) = _
        rw [if_neg hone]
      have eF : ∀ x, crcChk (flipL (frameOf s.un (t.ans q x))) = false := fun x => flipL_chk (frameOf_chk _ _) (by have := (frameOf_len s.un (hans x)).1; omega)
      have e1 : ¬ (j :: ms).length = 1 := by omega
      rw [if_pos (Or.inl hl2), eA, eA, if_neg e1, decide_eq_false e1, if_neg (fun e : a.fault = 3 ∧ false = true => by cases e.2)]
      split <;> exact eF _
end Go.Proofs.YtpkheiaanjhffaaGreat
