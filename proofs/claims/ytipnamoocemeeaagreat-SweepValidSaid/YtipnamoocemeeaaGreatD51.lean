/-
  Texts 51 of the claim.
-/
import Derived.Test.YtipnamoocemeeaaGreatD40
import Derived.Test.YtipnamoocemeeaaGreatD27
import Derived.Test.YtipnamoocemeeaaGreatD48
import Derived.Test.YtipnamoocemeeaaGreatD50
import Derived.Test.YtipnamoocemeeaaGreatD20
import Derived.Deep.RegionHeldLaw
import Derived.Deep.RegionHeld
namespace Go.Proofs.YtipnamoocemeeaaGreat
open Go.RowKit
def AwPost (w : World) (l : List Sl) (ms : List Nat) (q : Rq) (r : Ending) (w' : World) : Prop :=
  ∃ (O : Oc) (da : Option Addr) (dc : Nat) (oa : Option Addr) (oc : Nat), r = .returned (.agg #[.int .i64 O.verdict, .int .i64 O.reply.fn, .int .i64 O.reply.exc, .slice da O.reply.data.length dc, .int .i64 O.reply.code, .int .i64 O.reply.level, .bool O.reply.more, .int .i64 O.reply.next, .slice oa O.reply.objs.length oc]) ∧ O.jr ∧ (O.verdict = 1 → ∃ j s, ms = [j] ∧ l[j]? = some s ∧ Ans s q O ∧ RpJ s O.reply) ∧ (∀ W, Agree w.heap.size w' W → RpIs W O.reply da dc oa oc) ∧ Below w.heap.size w w'
theorem oN_jr (v : Int) (h0 : 1 < v) (h1 : v ≤ 5) : (oN v).jr := ⟨oN_fit v, by show 1 ≤ v; omega, h1, fun e => by have e : v = 1 := e; omega, fun e => by have e : v = 1 := e; omega, fun e => by have e : v = 1 := e; omega⟩
theorem Sl.val_ids {s : Sl} (h : s.val) (h0 : 0 < s.lv) : ∀ y ∈ s.objs, 0 ≤ y.id ∧ y.id ≤ 255 ∧ y.val.length ≤ 244 := fun y hy => by
  obtain ⟨i, hi⟩ := List.getElem?_of_mem hy
  have h1 := h.vl h0 i y hi
  obtain ⟨h3, h4⟩ := rises_ordF _ _ (h.ri h0)
  have h2 := h4 y hy
  have h5 := (ordF_lt _ _ h3 y hy).1
  omega
theorem AnsR.jr {s : Sl} {q : Rq} {rp : Rp} (hv : s.val) (h : AnsR s q rp) : Oc.jr ⟨vOf rp, rp⟩ := by
  have h0 : ∀ y ∈ rp.objs, 0 < s.lv := fun y hy => by
    by_cases e : 0 < s.lv
    · exact e
    · have hl := hv.lv
      have h2 := hv.l0 (by omega)
      have h3 := h.j.ob y hy
      rw [List.eq_nil_of_length_eq_zero h2] at h3
      cases h3
  refine ⟨h.fit, ?_, ?_, fun _ y hy => ?_, fun e1 e2 => ?_, fun _ => h.j.sd⟩
  · show 1 ≤ vOf rp; unfold vOf; split <;> decide
  · show vOf rp ≤ 5; unfold vOf; split <;> decide
  · exact (Sl.val_ids hv (h0 y hy) y (h.j.ob y hy)).2
  · have e1 : vOf rp = 1 := e1
    have e3 : rp.exc = 0 := by
      unfold vOf at e1
      by_cases e : rp.exc = 0
      · exact e
      · rw [if_neg e] at e1; exact absurd e1 (by decide)
    obtain ⟨h1, h2⟩ := h.j.lv e2 e3
    have hl := hv.lv
    show 1 ≤ rp.level ∧ rp.level ≤ 3
    omega
theorem own_one {w : World} {B : Nat} {T : TypeId} {a : Option Addr} {c : Nat} {v : Value} (h : w.ownsRow B T 1 (.slice a 1 c) 1 [v]) : ∃ b, a = some ⟨b, 0, none⟩ ∧ w.cell? ⟨b, 0, none⟩ = some v := by
  obtain ⟨hl, ⟨_, h0⟩ | ⟨g, cap, cur, hv, -, hh, -, -, -, ht⟩⟩ := h
  · cases h0
  · cases hv
    refine ⟨g, rfl, ?_⟩
    rw [hpCell hh]
    have h2 : (cur.toList.take 1)[0]? = some v := by rw [Nat.one_mul] at ht; rw [ht]; rfl
    rw [List.getElem?_take] at h2
    simpa using h2
def AwMid (w2 : World) (s : Sl) (q : Rq) (v : Value) (wc : World) : Prop :=
  ∃ (pb : Nat) (rp : Rp) (da : Option Addr) (dc : Nat) (oa : Option Addr) (oc : Nat), v = .pointer (some ⟨pb, 0, none⟩) ∧ wc.heap[pb]? = some (.cells #[.int .i64 rp.fn, .int .i64 rp.exc, .slice da rp.data.length dc, .int .i64 rp.code, .int .i64 rp.level, .bool rp.more, .int .i64 rp.next, .slice oa rp.objs.length oc] 53) ∧ w2.heap.size ≤ pb ∧ AnsR s q rp ∧ (∀ W, Agree w2.heap.size wc W → RpIs W rp da dc oa oc) ∧ Below w2.heap.size w2 wc
theorem Agree.of_out {y3 y5 W : World} {B b pb : Nat} (hk : Keeps (· = pb) y3 y5) (h : pb < B ∨ y3.heap.size ≤ pb) (hb : b ≤ B) (hW : Agree b y5 W) : Agree B y3 W :=
  ⟨Nat.le_trans hk.size hW.size, fun k hkB hl => (hW.block k (by omega) (Nat.lt_of_lt_of_le hl hk.size)).trans (hk.block k hl (fun e => by have e : k = pb := e; omega))⟩
theorem info8q : (Tryz.prog.info? 53).map (·.size) = some 8 := by kernel_rfl
theorem info9r : (Tryz.prog.info? 55).map (·.size) = some 9 := by kernel_rfl
set_option maxRecDepth 100000 in
set_option maxHeartbeats 6400000 in
theorem answer_any (l : List Sl) (hP : BusP l) (a : Option Addr) (c n : Nat) (hn : l.length = n) (bd pa un : Int) (h1 : wfI bd) (h2 : wfI pa) (q : Rq) (hq : q.ok = true) (ms : List Nat) (hms : memb l bd pa un n = ms)
    (hd : ∀ j s, ms = [j] → l[j]? = some s → q.fn = 43 → q.code = 3 ∧ (0 < s.lv → fromO q.obj s.objs ≠ [])) (w : World) (hl : Slvs w (.slice a n c) l) :
    Calls Tryz.prog 37 #[.slice a n c, .agg #[.int .i64 bd, .int .i64 pa], .int .i64 un, .agg #[.int .i64 q.fn, .int .i64 q.addr, .int .i64 q.qty, .int .i64 q.code, .int .i64 q.obj]] w (AwPost w l ms q) := by
  obtain ⟨W1, hW1⟩ : ∃ W, ((w.alloc (.cells #[.int .i64 bd, .int .i64 pa] 82)).alloc (.cells #[.int .i64 q.fn, .int .i64 q.addr, .int .i64 q.qty, .int .i64 q.code, .int .i64 q.obj] 39)).alloc (.cells #[.int .i64 0, .int .i64 0, .int .i64 0, .slice none 0 0, .int .i64 0, .int .i64 0, .bool false, .int .i64 0, .slice none 0 0] 55) = W := ⟨_, rfl⟩
  have hz1 : W1.heap.size = w.heap.size + 3 := by rw [← hW1]; simp
  have hb1 : Below w.heap.size w W1 := by rw [← hW1]; exact bta (bta (bal' w _) (Nat.le_refl _) _) (Nat.le_refl _) _
  have pS : W1.heap[w.heap.size]? = some (.cells #[.int .i64 bd, .int .i64 pa] 82) := by rw [← hW1]; exact hpKeep (hpKeep (hpNew w _) (bal' _ _)) (bal' _ _)
  have pQ : W1.heap[w.heap.size + 1]? = some (.cells #[.int .i64 q.fn, .int .i64 q.addr, .int .i64 q.qty, .int .i64 q.code, .int .i64 q.obj] 39) := by rw [← hW1]; refine hpKeep ?_ (bal' _ _); have h := hpNew (w.alloc (.cells #[.int .i64 bd, .int .i64 pa] 82)) (.cells #[.int .i64 q.fn, .int .i64 q.addr, .int .i64 q.qty, .int .i64 q.code, .int .i64 q.obj] 39); rw [World.size_alloc] at h; exact h
  have pZ : W1.heap[w.heap.size + 2]? = some (.cells #[.int .i64 0, .int .i64 0, .int .i64 0, .slice none 0 0, .int .i64 0, .int .i64 0, .bool false, .int .i64 0, .slice none 0 0] 55) := by rw [← hW1]; have h := hpNew ((w.alloc (.cells #[.int .i64 bd, .int .i64 pa] 82)).alloc (.cells #[.int .i64 q.fn, .int .i64 q.addr, .int .i64 q.qty, .int .i64 q.code, .int .i64 q.obj] 39)) (.cells #[.int .i64 0, .int .i64 0, .int .i64 0, .slice none 0 0, .int .i64 0, .int .i64 0, .bool false, .int .i64 0, .slice none 0 0] 55); rw [World.size_alloc, World.size_alloc] at h; exact h
  have s0 : W1.cell? ⟨w.heap.size, 0, none⟩ = some (.int .i64 bd) := hpCell pS 0
  have s1 : W1.cell? ⟨w.heap.size, 1, none⟩ = some (.int .i64 pa) := hpCell pS 1
  have HMB : Hid (Calls Tryz.prog 72 #[.slice a n c, .agg #[.int .i64 bd, .int .i64 pa], .int .i64 un] W1 (MbPost W1 ms)) := by rw [← hms]; exact rmemb_any a c l n W1 hn (by have := hP.1; omega) (hl.keep hb1) bd pa un h1 h2
  have HW1 := hid hW1
  have HB1 := hid hb1
  have HZ1 := hid hz1
  have HL := hid (hl.keep hb1)
  have PQ := hid pQ
  have PZ := hid pZ
  have HP := hid hP
  have HMS := hid hms
  have HD := hid hd
  have HQ := hid hq
  have HN := hid hn
  clear hW1 hb1 hz1 hl pS pQ hP hms hd hq hn
  go_enter Tryz.func37, Tryz.ntmps37
  go_upto_region 1 with (fail)
  rw [HW1.out]
  go_upto_region 2 with (go_at_call 72; (with_reducible refine HMB.out.mono ?_); rintro r w2 ⟨a2, c2, rfl, hown2, hb2⟩)
  clear s0 s1
  have pz2 : w2.heap[w.heap.size + 2]? = some (.cells #[.int .i64 0, .int .i64 0, .int .i64 0, .slice none 0 0, .int .i64 0, .int .i64 0, .bool false, .int .i64 0, .slice none 0 0] 55) := hpKeep PZ.out hb2
  have HB2 := hid (bt HB1.out hb2 (Nat.le_refl _))
  rcases ms with _ | ⟨j, _ | ⟨j2, rest⟩⟩
  · go_wp2_with (refine wpList_storeW rfl 55 (.tmp 8) (.tmp 18) rfl (w.heap.size + 2) 0 _ 55 #[.int .i64 3, .int .i64 0, .int .i64 0, .slice none 0 0, .int .i64 0, .int .i64 0, .bool false, .int .i64 0, .slice none 0 0] rfl rfl pz2 (by simp) info9r rfl ?_; intro w3 g3 hk3 hz3)
    have g3' : w3.heap[w.heap.size + 2]? = some (.cells #[.int .i64 3, .int .i64 0, .int .i64 0, .slice none 0 0, .int .i64 0, .int .i64 0, .bool false, .int .i64 0, .slice none 0 0] 55) := g3
    have q0 := hpCell g3' 0
    have q1 := hpCell g3' 1
    have q2 := hpCell g3' 2
    have q3 := hpCell g3' 3
    have q4 := hpCell g3' 4
    have q5 := hpCell g3' 5
    have q6 := hpCell g3' 6
    have q7 := hpCell g3' 7
    have q8 := hpCell g3' 8
    refine bodyPost_ret (v := .agg #[.int .i64 3, .int .i64 0, .int .i64 0, .slice none 0 0, .int .i64 0, .int .i64 0, .bool false, .int .i64 0, .slice none 0 0]) (by simp [results, Tryz.results37, go_sem, q0, q1, q2, q3, q4, q5, q6, q7, q8]) rfl ?_
    exact ⟨oN 3, none, 0, none, 0, rfl, oN_jr 3 (by decide) (by decide), fun e => absurd (show (3 : Int) = 1 from e) (by decide), fun W _ => ⟨Bs.nil _, Obs.nil _, by show (0 : Int) ≤ _; decide, by show _ ≤ (0 : Int); decide⟩, HB2.out.trans (hk3.below HB2.out.size (fun j hj e => by omega))⟩
  · have hjm : j ∈ memb l bd pa un n := by rw [HMS.out]; exact List.mem_singleton.2 rfl
    obtain ⟨s, hs, -⟩ := memb_mem hjm
    have hjn : j < n := by rw [← HN.out]; exact (List.getElem?_eq_some_iff.1 hs).1
    have hown3 : w2.ownsRow W1.heap.size 3 1 (.slice a2 1 c2) 1 [.int .i64 (j : Int)] := hown2
    obtain ⟨g2, rfl, hc2⟩ := own_one hown3
    obtain ⟨b, o, rv, ov, sv, rfl, hR, hc⟩ := (HL.out.keep hb2).at hs
    obtain ⟨C, hC⟩ : ∃ C, SlC s rv ov sv = C := ⟨_, rfl⟩
    have hi : (Tryz.prog.info? 133).map (·.size) = some C.size := by rw [← hC]; exact info19
    have HRW : Hid (∀ X, Below w2.heap.size w2 X → ∀ k v, C.toList[k]? = some v → X.cell? ((⟨b, o + j * 19, none⟩ : Addr).add k) = some v) := fun X hX k v hk => by
      have e : (⟨b, o + j * 19, none⟩ : Addr).add k = ⟨b, o + j * 19 + k, none⟩ := by unfold Addr.add; split <;> simp_all
      rw [e]
      exact cell_keep hX (hc k v (by rw [hC]; simpa using hk))
    have HAN : Hid (∀ X, Below w2.heap.size w2 X → Calls Tryz.prog 73 #[.agg C, .agg #[.int .i64 q.fn, .int .i64 q.addr, .int .i64 q.qty, .int .i64 q.code, .int .i64 q.obj], .int .i64 0] X (AnsPost X s q)) := fun X hX => by
      rw [← hC]
      exact ranswer_ok s rv ov sv q 0 (by decide) (by decide) X (hR.keep hX) (HP.out.2 s (List.mem_of_getElem? hs)) HQ.out (HD.out j s rfl hs)
    have z0 : ∀ X, Below w2.heap.size w2 X → X.cell? ⟨w.heap.size + 1, 0, none⟩ = some (.int .i64 q.fn) := fun X h => hpCell (hpKeep (hpKeep PQ.out hb2) h) 0
    have z1 : ∀ X, Below w2.heap.size w2 X → X.cell? ⟨w.heap.size + 1, 1, none⟩ = some (.int .i64 q.addr) := fun X h => hpCell (hpKeep (hpKeep PQ.out hb2) h) 1
    have z2 : ∀ X, Below w2.heap.size w2 X → X.cell? ⟨w.heap.size + 1, 2, none⟩ = some (.int .i64 q.qty) := fun X h => hpCell (hpKeep (hpKeep PQ.out hb2) h) 2
    have z3 : ∀ X, Below w2.heap.size w2 X → X.cell? ⟨w.heap.size + 1, 3, none⟩ = some (.int .i64 q.code) := fun X h => hpCell (hpKeep (hpKeep PQ.out hb2) h) 3
    have z4 : ∀ X, Below w2.heap.size w2 X → X.cell? ⟨w.heap.size + 1, 4, none⟩ = some (.int .i64 q.obj) := fun X h => hpCell (hpKeep (hpKeep PQ.out hb2) h) 4
    have x0 : ∀ X, Below w2.heap.size w2 X → X.cell? ⟨g2, 0, none⟩ = some (.int .i64 (j : Int)) := fun X h => cell_keep h hc2
    have hjl : (j : Int) < (n : Int) := by omega
    have hj0 : (0 : Int) ≤ (j : Int) := Int.natCast_nonneg _
    have dj : decide (j < n) = true := decide_eq_true hjn
    have HS := hid hs
    have HSV := hid (HP.out.2 s (List.mem_of_getElem? hs))
    have kD : Below w2.heap.size w2 w2.drew := (Below.refl _ _).drew
    clear hjm hown2 hown3 hc2 hR hc hC hs pZ HMB HL
    go_upto_region 6 with (fail)
    go_cut [10] from 23 to 30 (fun s10 wc => AwMid w2 s q s10 wc)
    case first =>
      have HEND : Hid (∀ (y y3 y5 : World) (pb : Nat) (rp : Rp) (da : Option Addr) (dc : Nat) (oa : Option Addr) (oc : Nat), w2.heap.size ≤ y.heap.size → (∀ W, Agree y.heap.size y3 W → RpIs W rp da dc oa oc) → (pb < y.heap.size ∨ y3.heap.size ≤ pb) → w2.heap.size ≤ pb → Keeps (· = pb) y3 y5 → AnsR s q rp → y5.heap[pb]? = some (.cells #[.int .i64 rp.fn, .int .i64 rp.exc, .slice da rp.data.length dc, .int .i64 rp.code, .int .i64 rp.level, .bool rp.more, .int .i64 rp.next, .slice oa rp.objs.length oc] 53) → Below w2.heap.size w2 y5 → AwMid w2 s q (.pointer (some ⟨pb, 0, none⟩)) y5) := fun y y3 y5 pb rp da dc oa oc e1 e2 e3 e4 e5 e6 e7 e8 =>
        ⟨pb, rp, da, dc, oa, oc, rfl, e7, e4, e6, fun W hW => e2 W (Agree.of_out e5 e3 e1 hW), e8⟩
      refine wp_region_held_drew (S := fun V => Below w2.heap.size w2 V) (by kernel_rfl) kD (fun hH => ?_)
      clear hH
      refine tkD 0 23 (v := ?_) rfl (by kernel_rfl) (fun _ _ _ h => h) rfl (by rfl) (by assumption) ?_ ?_; rotate_left; (intro w hSw; (try dsimp only at hSw); go_simp; try (with_reducible rfl)); simp only [List.setIfInBounds_toArray, List.set_cons_zero, List.set_cons_succ]
      refine tkD 1 24 (v := ?_) rfl (by kernel_rfl) (fun _ _ _ h => h) rfl (by rfl) (by assumption) ?_ ?_; rotate_left; (intro w hSw; (try dsimp only at hSw); go_simp; try (with_reducible rfl)); simp only [List.setIfInBounds_toArray, List.set_cons_zero, List.set_cons_succ]
      refine tkD 2 25 (v := ?_) rfl (by kernel_rfl) (fun _ _ _ h => h) rfl (by rfl) (by assumption) ?_ ?_; rotate_left; (intro w hSw; (try dsimp only at hSw); go_simp; try (with_reducible rfl)); simp only [List.setIfInBounds_toArray, List.set_cons_zero, List.set_cons_succ]
      refine tkD 3 26 (v := ?_) rfl (by kernel_rfl) (fun _ _ _ h => h) rfl (by rfl) (by assumption) ?_ ?_; rotate_left; (intro w hSw; (try dsimp only at hSw); go_simp; try (with_reducible rfl)); simp only [List.setIfInBounds_toArray, List.set_cons_zero, List.set_cons_succ]
      refine tkD 4 27 (v := ?_) rfl (by kernel_rfl) (fun _ _ _ h => h) rfl (by rfl) (by assumption) ?_ ?_; rotate_left; (intro w hSw; (try dsimp only at hSw); go_simp; try (with_reducible rfl)); simp only [List.setIfInBounds_toArray, List.set_cons_zero, List.set_cons_succ]
      refine tkD 5 28 (v := .agg C) rfl (by kernel_rfl) (fun _ _ _ h => h) rfl (by rfl) (by assumption) (fun X hX => run_load_rowS 133 (.tmp 27) rfl ⟨b, o + j * 19, none⟩ rfl C _ (HRW.out X hX) Tryz.underlying133 rfl hi) ?_; simp only [List.setIfInBounds_toArray, List.set_cons_zero, List.set_cons_succ]
      refine tkD 6 29 (v := ?_) rfl (by kernel_rfl) (fun _ _ _ h => h) rfl (by rfl) (by assumption) ?_ ?_; rotate_left; (intro w hSw; (try dsimp only at hSw); go_simp; try (with_reducible rfl)); simp only [List.setIfInBounds_toArray, List.set_cons_zero, List.set_cons_succ]
      refine wpAnyH_ready (rs := [7, 8]) (by kernel_rfl) (by simp) ?_
      refine AllReadyH.cons rfl (fun K hK => ?_) (AllReadyH.cons rfl (fun K hK => ?_) AllReadyH.nil)
      · go_simp
        refine (HAN.out _ kD).mono ?_
        rintro r y3 ⟨rp, da, dc, oa, oc, rfl, hans, hrd, hy3⟩
        have hB3 := bt kD hy3 (Nat.le_refl _)
        refine hK.out _ _ hB3 (fun hSx => ?_); clear hK K hSx
        refine wpAnyH_ready (rs := [8]) (by kernel_rfl) (by simp) ?_; refine AllReadyH.cons rfl (fun K hK => ?_) AllReadyH.nil; go_simp
        have hB4 : Below w2.heap.size w2 (y3.alloc (.cells #[.int .i64 0, .int .i64 0, .slice none 0 0, .int .i64 0, .int .i64 0, .bool false, .int .i64 0, .slice none 0 0] 53)) := bta hB3 (Nat.le_refl _) _
        refine hK.out _ _ hB4 (fun hSx => ?_); clear hK K hSx
        refine wpAnyH_ready (rs := [9]) (by kernel_rfl) (by simp) ?_
        refine AllReadyH.cons rfl (fun K hK => ?_) AllReadyH.nil
        refine step_storeW rfl 53 (.tmp 10) (.tmp 30) rfl y3.heap.size 0 _ 53 #[.int .i64 rp.fn, .int .i64 rp.exc, .slice da rp.data.length dc, .int .i64 rp.code, .int .i64 rp.level, .bool rp.more, .int .i64 rp.next, .slice oa rp.objs.length oc] rfl rfl (hpNew y3 (.cells #[.int .i64 0, .int .i64 0, .slice none 0 0, .int .i64 0, .int .i64 0, .bool false, .int .i64 0, .slice none 0 0] 53)) (by simp) info8q rfl ?_
        intro y5 g5 hk5 hz5
        have g5' : y5.heap[y3.heap.size]? = some (.cells #[.int .i64 rp.fn, .int .i64 rp.exc, .slice da rp.data.length dc, .int .i64 rp.code, .int .i64 rp.level, .bool rp.more, .int .i64 rp.next, .slice oa rp.objs.length oc] 53) := g5
        have hB5 : Below w2.heap.size w2 y5 := hB4.trans (hk5.below hB4.size (fun i hi e => by have := hB3.size; omega))
        have hkk : Keeps (· = y3.heap.size) y3 y5 := (Keeps.of_below (F := (· = y3.heap.size)) (bal' y3 (.cells #[.int .i64 0, .int .i64 0, .slice none 0 0, .int .i64 0, .int .i64 0, .bool false, .int .i64 0, .slice none 0 0] 53))).trans hk5 (fun _ _ e => e)
        have hend := hid (HEND.out _ _ _ _ _ _ _ _ _ kD.size hrd (.inr (Nat.le_refl _)) hB3.size hkk hans g5' hB5)
        refine hK.out _ _ hB5 (fun hSx => ?_)
        clear hK K hSx
        refine wpAnyH_done (by kernel_rfl) ?_ _
        go_wp2
        go_meet
        case rel => exact hend.out
      · go_simp
        have hB4 : Below w2.heap.size w2 (w2.alloc (.cells #[.int .i64 0, .int .i64 0, .slice none 0 0, .int .i64 0, .int .i64 0, .bool false, .int .i64 0, .slice none 0 0] 53)).drew := (bal' w2 _).drew
        refine hK.out _ _ hB4 (fun hSx => ?_); clear hK K hSx
        refine wpAnyH_ready (rs := [7]) (by kernel_rfl) (by simp) ?_; refine AllReadyH.cons rfl (fun K hK => ?_) AllReadyH.nil; go_simp
        refine (HAN.out _ hB4).mono ?_
        rintro r y3 ⟨rp, da, dc, oa, oc, rfl, hans, hrd, hy3⟩
        have hB3 := bt hB4 hy3 (Nat.le_refl _)
        have p3 : y3.heap[w2.heap.size]? = some (.cells #[.int .i64 0, .int .i64 0, .slice none 0 0, .int .i64 0, .int .i64 0, .bool false, .int .i64 0, .slice none 0 0] 53) := hpKeep (w := (w2.alloc (.cells #[.int .i64 0, .int .i64 0, .slice none 0 0, .int .i64 0, .int .i64 0, .bool false, .int .i64 0, .slice none 0 0] 53)).drew) (hpNew w2 _) hy3
        refine hK.out _ _ hB3 (fun hSx => ?_); clear hK K hSx
        refine wpAnyH_ready (rs := [9]) (by kernel_rfl) (by simp) ?_
        refine AllReadyH.cons rfl (fun K hK => ?_) AllReadyH.nil
        refine step_storeW rfl 53 (.tmp 10) (.tmp 30) rfl w2.heap.size 0 _ 53 #[.int .i64 rp.fn, .int .i64 rp.exc, .slice da rp.data.length dc, .int .i64 rp.code, .int .i64 rp.level, .bool rp.more, .int .i64 rp.next, .slice oa rp.objs.length oc] rfl rfl p3 (by simp) info8q rfl ?_
        intro y5 g5 hk5 hz5
        have g5' : y5.heap[w2.heap.size]? = some (.cells #[.int .i64 rp.fn, .int .i64 rp.exc, .slice da rp.data.length dc, .int .i64 rp.code, .int .i64 rp.level, .bool rp.more, .int .i64 rp.next, .slice oa rp.objs.length oc] 53) := g5
        have hB5 : Below w2.heap.size w2 y5 := hB3.trans (hk5.below hB3.size (fun i hi e => by omega))
        have hzz : w2.heap.size < (w2.alloc (.cells #[.int .i64 0, .int .i64 0, .slice none 0 0, .int .i64 0, .int .i64 0, .bool false, .int .i64 0, .slice none 0 0] 53)).drew.heap.size := by show _ < (w2.alloc (.cells #[.int .i64 0, .int .i64 0, .slice none 0 0, .int .i64 0, .int .i64 0, .bool false, .int .i64 0, .slice none 0 0] 53)).heap.size; simp
        have hend := hid (HEND.out _ _ _ _ _ _ _ _ _ hB4.size hrd (.inl hzz) (Nat.le_refl _) hk5 hans g5' hB5)
        refine hK.out _ _ hB5 (fun hSx => ?_)
        clear hK K hSx
        refine wpAnyH_done (by kernel_rfl) ?_ _
        go_wp2
        go_meet
        case rel => exact hend.out
    case rest =>
      obtain ⟨W5, hW5⟩ : ∃ W, W = wc := ⟨_, rfl⟩
      subst hW5
      obtain ⟨pb, rp, da, dc, oa, oc, rfl, hpb, hpl, hans, hrd, hB5⟩ := hcut
      have hzw : w.heap.size + 3 ≤ w2.heap.size := by have e1 := HZ1.out; have e2 := hb2.size; omega
      have hB6 : Below w.heap.size w W5 := bt HB2.out hB5 (Nat.le_refl _)
      have pz5 : W5.heap[w.heap.size + 2]? = some (.cells #[.int .i64 0, .int .i64 0, .int .i64 0, .slice none 0 0, .int .i64 0, .int .i64 0, .bool false, .int .i64 0, .slice none 0 0] 55) := hpKeep pz2 hB5
      have e0 : W5.cell? ⟨pb, 0, none⟩ = some (.int .i64 rp.fn) := hpCell hpb 0
      have e1 : W5.cell? ⟨pb, 1, none⟩ = some (.int .i64 rp.exc) := hpCell hpb 1
      have e2 : W5.cell? ⟨pb, 2, none⟩ = some (.slice da rp.data.length dc) := hpCell hpb 2
      have e3 : W5.cell? ⟨pb, 3, none⟩ = some (.int .i64 rp.code) := hpCell hpb 3
      have e4 : W5.cell? ⟨pb, 4, none⟩ = some (.int .i64 rp.level) := hpCell hpb 4
      have e5 : W5.cell? ⟨pb, 5, none⟩ = some (.bool rp.more) := hpCell hpb 5
      have e6 : W5.cell? ⟨pb, 6, none⟩ = some (.int .i64 rp.next) := hpCell hpb 6
      have e7 : W5.cell? ⟨pb, 7, none⟩ = some (.slice oa rp.objs.length oc) := hpCell hpb 7
      by_cases hx : rp.exc = 0
      · have g1 : (rp.exc != 0) = false := by rw [bne_eq_false_iff_eq]; exact hx
        have HXX := hid hx
        clear hx z0 z1 z2 z3 z4 x0
        go_wp2_with (refine wpList_storeW rfl 55 (.tmp 8) (.tmp 37) rfl (w.heap.size + 2) 0 _ 55 #[.int .i64 1, .int .i64 rp.fn, .int .i64 rp.exc, .slice da rp.data.length dc, .int .i64 rp.code, .int .i64 rp.level, .bool rp.more, .int .i64 rp.next, .slice oa rp.objs.length oc] rfl rfl pz5 (by simp) info9r rfl ?_; intro w6 g6 hk6 hz6)
        have g6' : w6.heap[w.heap.size + 2]? = some (.cells #[.int .i64 1, .int .i64 rp.fn, .int .i64 rp.exc, .slice da rp.data.length dc, .int .i64 rp.code, .int .i64 rp.level, .bool rp.more, .int .i64 rp.next, .slice oa rp.objs.length oc] 55) := g6
        have q0 := hpCell g6' 0
        have q1 := hpCell g6' 1
        have q2 := hpCell g6' 2
        have q3 := hpCell g6' 3
        have q4 := hpCell g6' 4
        have q5 := hpCell g6' 5
        have q6 := hpCell g6' 6
        have q7 := hpCell g6' 7
        have q8 := hpCell g6' 8
        refine bodyPost_ret (v := .agg #[.int .i64 1, .int .i64 rp.fn, .int .i64 rp.exc, .slice da rp.data.length dc, .int .i64 rp.code, .int .i64 rp.level, .bool rp.more, .int .i64 rp.next, .slice oa rp.objs.length oc]) (by simp [results, Tryz.results37, go_sem, q0, q1, q2, q3, q4, q5, q6, q7, q8]) rfl ?_
        have ev : vOf rp = 1 := by unfold vOf; rw [if_pos HXX.out]
        have hjr := hans.jr HSV.out
        have han := hans.ans
        rw [ev] at hjr han
        exact ⟨⟨1, rp⟩, da, dc, oa, oc, rfl, hjr, fun _ => ⟨j, s, rfl, HS.out, han, hans.j⟩, fun W hW => hrd W (((Agree.of_keeps hk6 (fun k e => by have e : k = w.heap.size + 2 := e; omega)).trans (hW.mono (by omega)))), hB6.trans (hk6.below hB6.size (fun i hi e => by omega))⟩
      · have g1 : (rp.exc != 0) = true := by rw [bne_iff_ne]; exact hx
        have HXX := hid hx
        clear hx z0 z1 z2 z3 z4 x0
        go_wp2_with (refine wpList_storeW rfl 55 (.tmp 8) (.tmp 35) rfl (w.heap.size + 2) 0 _ 55 #[.int .i64 2, .int .i64 rp.fn, .int .i64 rp.exc, .slice da rp.data.length dc, .int .i64 rp.code, .int .i64 rp.level, .bool rp.more, .int .i64 rp.next, .slice oa rp.objs.length oc] rfl rfl pz5 (by simp) info9r rfl ?_; intro w6 g6 hk6 hz6)
        have g6' : w6.heap[w.heap.size + 2]? = some (.cells #[.int .i64 2, .int .i64 rp.fn, .int .i64 rp.exc, .slice da rp.data.length dc, .int .i64 rp.code, .int .i64 rp.level, .bool rp.more, .int .i64 rp.next, .slice oa rp.objs.length oc] 55) := g6
        have q0 := hpCell g6' 0
        have q1 := hpCell g6' 1
        have q2 := hpCell g6' 2
        have q3 := hpCell g6' 3
        have q4 := hpCell g6' 4
        have q5 := hpCell g6' 5
        have q6 := hpCell g6' 6
        have q7 := hpCell g6' 7
        have q8 := hpCell g6' 8
        refine bodyPost_ret (v := .agg #[.int .i64 2, .int .i64 rp.fn, .int .i64 rp.exc, .slice da rp.data.length dc, .int .i64 rp.code, .int .i64 rp.level, .bool rp.more, .int .i64 rp.next, .slice oa rp.objs.length oc]) (by simp [results, Tryz.results37, go_sem, q0, q1, q2, q3, q4, q5, q6, q7, q8]) rfl ?_
        have ev : vOf rp = 2 := by unfold vOf; rw [if_neg HXX.out]
        have hjr := hans.jr HSV.out
        have han := hans.ans
        rw [ev] at hjr han
        exact ⟨⟨2, rp⟩, da, dc, oa, oc, rfl, hjr, fun _ => ⟨j, s, rfl, HS.out, han, hans.j⟩, fun W hW => hrd W (((Agree.of_keeps hk6 (fun k e => by have e : k = w.heap.size + 2 := e; omega)).trans (hW.mono (by omega)))), hB6.trans (hk6.below hB6.size (fun i hi e => by omega))⟩
  · obtain ⟨N, hN⟩ : ∃ N, (j :: j2 :: rest).length = N := ⟨_, rfl⟩
    have hN2 : 1 < N := by rw [← hN]; show 1 < rest.length + 1 + 1; omega
    rw [hN]
    have g1 : ((N : Int) == 0) = false := by rw [beq_eq_false_iff_ne]; omega
    have g2 : decide ((1 : Int) < (N : Int)) = true := decide_eq_true (by omega)
    clear hN hN2
    go_wp2_with (refine wpList_storeW rfl 55 (.tmp 8) (.tmp 22) rfl (w.heap.size + 2) 0 _ 55 #[.int .i64 4, .int .i64 0, .int .i64 0, .slice none 0 0, .int .i64 0, .int .i64 0, .bool false, .int .i64 0, .slice none 0 0] rfl rfl pz2 (by simp) info9r rfl ?_; intro w3 g3 hk3 hz3)
    have g3' : w3.heap[w.heap.size + 2]? = some (.cells #[.int .i64 4, .int .i64 0, .int .i64 0, .slice none 0 0, .int .i64 0, .int .i64 0, .bool false, .int .i64 0, .slice none 0 0] 55) := g3
    have q0 := hpCell g3' 0
    have q1 := hpCell g3' 1
    have q2 := hpCell g3' 2
    have q3 := hpCell g3' 3
    have q4 := hpCell g3' 4
    have q5 := hpCell g3' 5
    have q6 := hpCell g3' 6
    have q7 := hpCell g3' 7
    have q8 := hpCell g3' 8
    refine bodyPost_ret (v := .agg #[.int .i64 4, .int .i64 0, .int .i64 0, .slice none 0 0, .int .i64 0, .int .i64 0, .bool false, .int .i64 0, .slice none 0 0]) (by simp [results, Tryz.results37, go_sem, q0, q1, q2, q3, q4, q5, q6, q7, q8]) rfl ?_
    exact ⟨oN 4, none, 0, none, 0, rfl, oN_jr 4 (by decide) (by decide), fun e => absurd (show (4 : Int) = 1 from e) (by decide), fun W _ => ⟨Bs.nil _, Obs.nil _, by show (0 : Int) ≤ _; decide, by show _ ≤ (0 : Int); decide⟩, HB2.out.trans (hk3.below HB2.out.size (fun j hj e => by omega))⟩
end Go.Proofs.YtipnamoocemeeaaGreat
