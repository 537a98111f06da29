/-
  Texts A3 of the claim.
-/
import Derived.Test.YtpkheiaanjhffaaGreatU07
import Derived.Test.YtpkheiaanjhffaaGreatUA02
import Derived.Test.YtpkheiaanjhffaaGreatUA01
import Derived.Deep.RegionHeldLaw
import Derived.Deep.CutRange
import Derived.BigQuiet
import Derived.Test.YtpkheiaanjhffaaGreatU08
namespace Go.Proofs.YtpkheiaanjhffaaGreat
open Go.RowKit
def DvAx (w W2 : World) (acc : List Ob) (ln : Nat) (v : Value) (W : World) : Prop := ∃ cs, W.ownsRow W2.heap.size 103 2 v ln cs ∧ CsL 2 (ObQ w) cs acc ∧ Below W2.heap.size W2 W
theorem Obs.takeS {w : World} {a : Option Addr} {n c m : Nat} {l : List Ob} (h : Obs w (.slice a n c) l) (hm : m ≤ n) : Obs w (.slice a m c) (l.take m) := by
  obtain ⟨a', c', hv, h1, h2, h3, h4⟩ := h
  cases hv
  have e : (l.take m).length = m := by rw [List.length_take]; omega
  refine ⟨a, c, by rw [e], by omega, h2, h3, fun hl => ?_⟩
  obtain ⟨b, o, ha, hc⟩ := h4 (by rintro rfl; simp at hl)
  refine ⟨b, o, ha, fun i x hx => hc i x ?_⟩
  rw [List.getElem?_take] at hx
  split at hx
  · exact hx
  · cases hx
theorem run_takeO {P : Program} {t e : TypeId} {i5 : TypeInfo} (ht : P.underlying t = some (.slice e)) (hi : P.info? e = some i5) (g n c k : Nat) (hkc : k ≤ c) (w : World) :
    (Instr.slice t (.slice (some ⟨g, 0, none⟩) n c) none (some (.int .i64 k)) none).run P w = .ok (.slice (some ⟨g, 0, none⟩) k c) w := by
  have h2 : ((0 : Int) ≤ (k : Int) ∧ (k : Int) ≤ (c : Int)) := by omega
  simp [Instr.slice, Instr.sliceBounds, Instr.sliceBound, run_underlying ht, asIntOf, sizeOf, typeInfo, hi, h2, hkc, Addr.add]
theorem Bs.rowR {w : World} {v : Value} {l : List UInt8} (h : Bs w v l) : RowR w 1 v l.length (u8s l) := by
  obtain ⟨a, c, rfl, h1, h2, h3, h4⟩ := h
  refine ⟨a, c, rfl, by simp, fun e => ?_, fun ad e j u hj => ?_⟩
  · have := h3 e
    omega
  · have hjl : j < l.length := by have := (List.getElem?_eq_some_iff.1 hj).1; simpa using this
    obtain ⟨b, o, ha, hc⟩ := h4 (by rintro rfl; simp at hjl)
    rw [ha] at e
    cases e
    have e1 : (⟨b, o, none⟩ : Addr).add j = ⟨b, o + j, none⟩ := by unfold Addr.add; split <;> simp_all
    rw [e1, hc j hjl, ← u8s_get l j hjl]
    exact hj
theorem obSize_one {l : List Ob} {m : Nat} (h : ∀ y ∈ l, y.val.length ≤ 100) (h1 : ¬ obSize (l.take m) ≤ 246) (hm : 1 ≤ m) : 2 ≤ m := by
  by_cases e : m = 1
  · subst e
    exfalso
    apply h1
    cases l with
    | nil => simp [obSize]
    | cons a l =>
      have := h a (List.mem_cons_self ..)
      simp [obSize]
      omega
  · omega
set_option maxRecDepth 100000 in
set_option maxHeartbeats 6400000 in
theorem rdev_no (s : Sl) (rv : Nat → Value) (ov sv : Value) (ad qt co ob : Int) (w : World) (hR : SlR w s rv ov sv) (hlv : s.lv = 0) :
    Calls Tryz.prog 48 #[.agg (SlC s rv ov sv), .agg #[.int .i64 43, .int .i64 ad, .int .i64 qt, .int .i64 co, .int .i64 ob]] w (TabPostD w 43 1 []) := by
  obtain ⟨oa, oc, rfl, -⟩ := id hR.ob; obtain ⟨sa, sc, rfl, -⟩ := id hR.sd; obtain ⟨on, hon⟩ : ∃ n, s.objs.length = n := ⟨_, rfl⟩; obtain ⟨sn, hsn⟩ : ∃ n, s.sd.length = n := ⟨_, rfl⟩; rw [hon, hsn] at hR ⊢; obtain ⟨H, hH⟩ : ∃ H, s.hs = H := ⟨_, rfl⟩; have hSL : SlC s rv (.slice oa on oc) (.slice sa sn sc) = #[.int .i64 s.bd, .int .i64 s.pa, .int .i64 s.un, .bool (s.ts 0).sup, rv 0, .int .i64 (s.ts 0).most, .bool (s.ts 1).sup, rv 1, .int .i64 (s.ts 1).most, .bool (s.ts 2).sup, rv 2, .int .i64 (s.ts 2).most, .bool (s.ts 3).sup, rv 3, .int .i64 (s.ts 3).most, .int .i64 s.lv, .slice oa on oc, .bool H, .slice sa sn sc] := (by unfold SlC; rw [hH]); rw [hSL]; obtain ⟨W1, hW1⟩ : ∃ W, (((w.alloc (.cells #[.int .i64 s.bd, .int .i64 s.pa, .int .i64 s.un, .bool (s.ts 0).sup, rv 0, .int .i64 (s.ts 0).most, .bool (s.ts 1).sup, rv 1, .int .i64 (s.ts 1).most, .bool (s.ts 2).sup, rv 2, .int .i64 (s.ts 2).most, .bool (s.ts 3).sup, rv 3, .int .i64 (s.ts 3).most, .int .i64 s.lv, .slice oa on oc, .bool H, .slice sa sn sc] 38)).alloc (.cells #[.int .i64 43, .int .i64 ad, .int .i64 qt, .int .i64 co, .int .i64 ob] 41)).alloc (.cells (#[.int .i64 0, .int .i64 0, .slice none 0 0, .int .i64 0, .int .i64 0, .bool false, .int .i64 0, .slice none 0 0]) 57)).alloc (.cells (#[.int .i64 43, .int .i64 0, .slice none 0 0, .int .i64 0, .int .i64 0, .bool false, .int .i64 0, .slice none 0 0]) 57) = W := ⟨_, rfl⟩; have hz1 : W1.heap.size = w.heap.size + 4 := (by rw [← hW1]; simp); have hb1 : Below w.heap.size w W1 := (by rw [← hW1]; exact bta (bta (bta (bal' w _) (Nat.le_refl _) _) (Nat.le_refl _) _) (Nat.le_refl _) _); have pS : W1.heap[w.heap.size]? = some (.cells (SlC s rv (.slice oa on oc) (.slice sa sn sc)) 38) := (by rw [hSL, ← hW1]; exact hpKeep (hpKeep (hpKeep (hpNew w _) (bal' _ _)) (bal' _ _)) (bal' _ _)); have pQ : W1.heap[w.heap.size + 1]? = some (.cells #[.int .i64 43, .int .i64 ad, .int .i64 qt, .int .i64 co, .int .i64 ob] 41) := (by rw [← hW1]; refine hpKeep (hpKeep ?_ (bal' _ _)) (bal' _ _); have h := hpNew (w.alloc (.cells #[.int .i64 s.bd, .int .i64 s.pa, .int .i64 s.un, .bool (s.ts 0).sup, rv 0, .int .i64 (s.ts 0).most, .bool (s.ts 1).sup, rv 1, .int .i64 (s.ts 1).most, .bool (s.ts 2).sup, rv 2, .int .i64 (s.ts 2).most, .bool (s.ts 3).sup, rv 3, .int .i64 (s.ts 3).most, .int .i64 s.lv, .slice oa on oc, .bool H, .slice sa sn sc] 38)) (.cells #[.int .i64 43, .int .i64 ad, .int .i64 qt, .int .i64 co, .int .i64 ob] 41); rw [World.size_alloc] at h; exact h); have pZ : W1.heap[w.heap.size + 2]? = some (.cells (#[.int .i64 0, .int .i64 0, .slice none 0 0, .int .i64 0, .int .i64 0, .bool false, .int .i64 0, .slice none 0 0]) 57) := (by rw [← hW1]; refine hpKeep ?_ (bal' _ _); have h := hpNew ((w.alloc (.cells #[.int .i64 s.bd, .int .i64 s.pa, .int .i64 s.un, .bool (s.ts 0).sup, rv 0, .int .i64 (s.ts 0).most, .bool (s.ts 1).sup, rv 1, .int .i64 (s.ts 1).most, .bool (s.ts 2).sup, rv 2, .int .i64 (s.ts 2).most, .bool (s.ts 3).sup, rv 3, .int .i64 (s.ts 3).most, .int .i64 s.lv, .slice oa on oc, .bool H, .slice sa sn sc] 38)).alloc (.cells #[.int .i64 43, .int .i64 ad, .int .i64 qt, .int .i64 co, .int .i64 ob] 41)) (.cells (#[.int .i64 0, .int .i64 0, .slice none 0 0, .int .i64 0, .int .i64 0, .bool false, .int .i64 0, .slice none 0 0]) 57); rw [World.size_alloc, World.size_alloc] at h; exact h); have pR : W1.heap[w.heap.size + 3]? = some (.cells (DvqC 0 0 0 false 0 (.slice none 0 0)) 57) := (by rw [← hW1]; have h := hpNew (((w.alloc (.cells #[.int .i64 s.bd, .int .i64 s.pa, .int .i64 s.un, .bool (s.ts 0).sup, rv 0, .int .i64 (s.ts 0).most, .bool (s.ts 1).sup, rv 1, .int .i64 (s.ts 1).most, .bool (s.ts 2).sup, rv 2, .int .i64 (s.ts 2).most, .bool (s.ts 3).sup, rv 3, .int .i64 (s.ts 3).most, .int .i64 s.lv, .slice oa on oc, .bool H, .slice sa sn sc] 38)).alloc (.cells #[.int .i64 43, .int .i64 ad, .int .i64 qt, .int .i64 co, .int .i64 ob] 41)).alloc (.cells (#[.int .i64 0, .int .i64 0, .slice none 0 0, .int .i64 0, .int .i64 0, .bool false, .int .i64 0, .slice none 0 0]) 57)) (.cells (#[.int .i64 43, .int .i64 0, .slice none 0 0, .int .i64 0, .int .i64 0, .bool false, .int .i64 0, .slice none 0 0]) 57); rw [World.size_alloc, World.size_alloc, World.size_alloc] at h; exact h); obtain ⟨zb, hzb⟩ : ∃ n, w.heap.size + 2 = n := ⟨_, rfl⟩; obtain ⟨rb, hrb⟩ : ∃ n, w.heap.size + 3 = n := ⟨_, rfl⟩; have E3 : Hid (w.heap.size + 1 + 1 + 1 = rb) := hrb; have E2 : Hid (w.heap.size + 1 + 1 = zb) := hzb; rw [hzb] at pZ; rw [hrb] at pR; have ERB := hid hrb; have EZB := hid hzb
  have t15 : W1.cell? ⟨w.heap.size, 15, none⟩ = some (.int .i64 0) := by rw [← hlv]; exact hpCell pS 15
  have f1 : W1.frozen? ⟨rb, 1, none⟩ = false := hpFree pR 1
  have r1 : W1.cell? ⟨rb, 1, none⟩ = some (.int .i64 0) := hpCell pR 1
  have HW1 := hid hW1
  have HB1 := hid hb1
  have HZ1 := hid hz1
  have pR2 : (W1.setCell ⟨rb, 1, none⟩ (.int .i64 1)).heap[rb]? = some (.cells (DvqC 1 0 0 false 0 (.slice none 0 0)) 57) := hpSetP pR rfl
  have pZ2 : (W1.setCell ⟨rb, 1, none⟩ (.int .i64 1)).heap[zb]? = some (.cells (#[.int .i64 0, .int .i64 0, .slice none 0 0, .int .i64 0, .int .i64 0, .bool false, .int .i64 0, .slice none 0 0]) 57) := (hpOther (by omega)).trans pZ
  have hk2 : Keeps (fun j => w.heap.size ≤ j) W1 (W1.setCell ⟨rb, 1, none⟩ (.int .i64 1)) := (Keeps.refl _ _).set _ _ (by show w.heap.size ≤ rb; omega)
  obtain ⟨C, hC⟩ : ∃ C : Array Value, DvqC 1 0 0 false 0 (.slice none 0 0) = C := ⟨_, rfl⟩
  have hcs : C.size = 8 := by rw [← hC]; rfl
  have hi8 : (Tryz.prog.info? 57).map (·.size) = some C.size := by rw [hcs]; exact info8
  have h1c : C.toList.all (·.oneCell') = true := by rw [← hC]; rfl
  rw [hC] at pR2
  have HC := hid hC
  have HP2 := hid (And.intro pR2 (And.intro pZ2 hk2))
  clear hC hW1 hb1 hz1 pS pQ pZ pR hon hsn hSL hH hzb hrb hlv hR pR2 pZ2 hk2
  go_enter Tryz.func48, Tryz.ntmps48
  go_upto_region 2 with (fail)
  rw [HW1.out, E3.out, E2.out]
  go_upto_region 4 with (fail)
  obtain ⟨pR2, pZ2, hk2⟩ := HP2.out
  generalize W1.setCell ⟨rb, 1, none⟩ (.int .i64 1) = W2 at *
  have HK2 := hid hk2
  clear t15 f1 r1 hk2 HP2
  go_wp2_with (first | (refine wpList_load_row rfl 57 (.tmp 5) rfl (rb) rfl 57 C (0, 0) _ pR2 Tryz.underlying57 rfl hi8 ?_) | (refine wpList_storeW rfl 57 (.tmp 4) (.tmp 16) rfl (zb) 0 _ 57 C rfl rfl pZ2 (by simp [hcs]) hi8 h1c ?_; intro w8 g8 hk8 hz8))
  have g9 : w8.heap[zb]? = some (.cells C 57) := by rw [g8, List.drop_eq_nil_of_le (by simp [hcs])]; simp
  refine bodyPost_ret (results_cell_row rfl _ _ (zb) 57 C (0, 0) _ rfl g9 Tryz.underlying57 rfl hi8) rfl ?_
  exact TabPost.exc HB1.out (by have := HZ1.out; omega) HK2.out (hk8.mono (fun j _ e => by have := EZB.out; omega)) HC.out.symm
set_option maxRecDepth 100000 in
set_option maxHeartbeats 12800000 in
theorem rdev_sel (s : Sl) (rv : Nat → Value) (ov sv : Value) (ad qt ob : Int) (c : Nat) (hc1 : 1 ≤ c) (hc3 : c ≤ 3) (w : World) (hR : SlR w s rv ov sv) (hlv : 0 < s.lv) (hon16 : s.objs.length ≤ 16) (hvl : ∀ y ∈ s.objs, y.val.length ≤ 100) :
    Calls Tryz.prog 48 #[.agg (SlC s rv ov sv), .agg #[.int .i64 43, .int .i64 ad, .int .i64 qt, .int .i64 (c : Int), .int .i64 ob]] w (DvPy w s (c : Int) (selO s.objs ob (grI (c : Int)))) := by
  obtain ⟨oa, oc, rfl, -⟩ := id hR.ob; obtain ⟨sa, sc, rfl, -⟩ := id hR.sd; obtain ⟨on, hon⟩ : ∃ n, s.objs.length = n := ⟨_, rfl⟩; obtain ⟨sn, hsn⟩ : ∃ n, s.sd.length = n := ⟨_, rfl⟩; rw [hon, hsn] at hR ⊢; obtain ⟨H, hH⟩ : ∃ H, s.hs = H := ⟨_, rfl⟩; have hSL : SlC s rv (.slice oa on oc) (.slice sa sn sc) = #[.int .i64 s.bd, .int .i64 s.pa, .int .i64 s.un, .bool (s.ts 0).sup, rv 0, .int .i64 (s.ts 0).most, .bool (s.ts 1).sup, rv 1, .int .i64 (s.ts 1).most, .bool (s.ts 2).sup, rv 2, .int .i64 (s.ts 2).most, .bool (s.ts 3).sup, rv 3, .int .i64 (s.ts 3).most, .int .i64 s.lv, .slice oa on oc, .bool H, .slice sa sn sc] := (by unfold SlC; rw [hH]); rw [hSL]; obtain ⟨W1, hW1⟩ : ∃ W, (((w.alloc (.cells #[.int .i64 s.bd, .int .i64 s.pa, .int .i64 s.un, .bool (s.ts 0).sup, rv 0, .int .i64 (s.ts 0).most, .bool (s.ts 1).sup, rv 1, .int .i64 (s.ts 1).most, .bool (s.ts 2).sup, rv 2, .int .i64 (s.ts 2).most, .bool (s.ts 3).sup, rv 3, .int .i64 (s.ts 3).most, .int .i64 s.lv, .slice oa on oc, .bool H, .slice sa sn sc] 38)).alloc (.cells #[.int .i64 43, .int .i64 ad, .int .i64 qt, .int .i64 (c : Int), .int .i64 ob] 41)).alloc (.cells (#[.int .i64 0, .int .i64 0, .slice none 0 0, .int .i64 0, .int .i64 0, .bool false, .int .i64 0, .slice none 0 0]) 57)).alloc (.cells (#[.int .i64 43, .int .i64 0, .slice none 0 0, .int .i64 0, .int .i64 0, .bool false, .int .i64 0, .slice none 0 0]) 57) = W := ⟨_, rfl⟩; have hz1 : W1.heap.size = w.heap.size + 4 := (by rw [← hW1]; simp); have hb1 : Below w.heap.size w W1 := (by rw [← hW1]; exact bta (bta (bta (bal' w _) (Nat.le_refl _) _) (Nat.le_refl _) _) (Nat.le_refl _) _); have pS : W1.heap[w.heap.size]? = some (.cells (SlC s rv (.slice oa on oc) (.slice sa sn sc)) 38) := (by rw [hSL, ← hW1]; exact hpKeep (hpKeep (hpKeep (hpNew w _) (bal' _ _)) (bal' _ _)) (bal' _ _)); have pQ : W1.heap[w.heap.size + 1]? = some (.cells #[.int .i64 43, .int .i64 ad, .int .i64 qt, .int .i64 (c : Int), .int .i64 ob] 41) := (by rw [← hW1]; refine hpKeep (hpKeep ?_ (bal' _ _)) (bal' _ _); have h := hpNew (w.alloc (.cells #[.int .i64 s.bd, .int .i64 s.pa, .int .i64 s.un, .bool (s.ts 0).sup, rv 0, .int .i64 (s.ts 0).most, .bool (s.ts 1).sup, rv 1, .int .i64 (s.ts 1).most, .bool (s.ts 2).sup, rv 2, .int .i64 (s.ts 2).most, .bool (s.ts 3).sup, rv 3, .int .i64 (s.ts 3).most, .int .i64 s.lv, .slice oa on oc, .bool H, .slice sa sn sc] 38)) (.cells #[.int .i64 43, .int .i64 ad, .int .i64 qt, .int .i64 (c : Int), .int .i64 ob] 41); rw [World.size_alloc] at h; exact h); have pZ : W1.heap[w.heap.size + 2]? = some (.cells (#[.int .i64 0, .int .i64 0, .slice none 0 0, .int .i64 0, .int .i64 0, .bool false, .int .i64 0, .slice none 0 0]) 57) := (by rw [← hW1]; refine hpKeep ?_ (bal' _ _); have h := hpNew ((w.alloc (.cells #[.int .i64 s.bd, .int .i64 s.pa, .int .i64 s.un, .bool (s.ts 0).sup, rv 0, .int .i64 (s.ts 0).most, .bool (s.ts 1).sup, rv 1, .int .i64 (s.ts 1).most, .bool (s.ts 2).sup, rv 2, .int .i64 (s.ts 2).most, .bool (s.ts 3).sup, rv 3, .int .i64 (s.ts 3).most, .int .i64 s.lv, .slice oa on oc, .bool H, .slice sa sn sc] 38)).alloc (.cells #[.int .i64 43, .int .i64 ad, .int .i64 qt, .int .i64 (c : Int), .int .i64 ob] 41)) (.cells (#[.int .i64 0, .int .i64 0, .slice none 0 0, .int .i64 0, .int .i64 0, .bool false, .int .i64 0, .slice none 0 0]) 57); rw [World.size_alloc, World.size_alloc] at h; exact h); have pR : W1.heap[w.heap.size + 3]? = some (.cells (DvqC 0 0 0 false 0 (.slice none 0 0)) 57) := (by rw [← hW1]; have h := hpNew (((w.alloc (.cells #[.int .i64 s.bd, .int .i64 s.pa, .int .i64 s.un, .bool (s.ts 0).sup, rv 0, .int .i64 (s.ts 0).most, .bool (s.ts 1).sup, rv 1, .int .i64 (s.ts 1).most, .bool (s.ts 2).sup, rv 2, .int .i64 (s.ts 2).most, .bool (s.ts 3).sup, rv 3, .int .i64 (s.ts 3).most, .int .i64 s.lv, .slice oa on oc, .bool H, .slice sa sn sc] 38)).alloc (.cells #[.int .i64 43, .int .i64 ad, .int .i64 qt, .int .i64 (c : Int), .int .i64 ob] 41)).alloc (.cells (#[.int .i64 0, .int .i64 0, .slice none 0 0, .int .i64 0, .int .i64 0, .bool false, .int .i64 0, .slice none 0 0]) 57)) (.cells (#[.int .i64 43, .int .i64 0, .slice none 0 0, .int .i64 0, .int .i64 0, .bool false, .int .i64 0, .slice none 0 0]) 57); rw [World.size_alloc, World.size_alloc, World.size_alloc] at h; exact h); obtain ⟨zb, hzb⟩ : ∃ n, w.heap.size + 2 = n := ⟨_, rfl⟩; obtain ⟨rb, hrb⟩ : ∃ n, w.heap.size + 3 = n := ⟨_, rfl⟩; have E3 : Hid (w.heap.size + 1 + 1 + 1 = rb) := hrb; have E2 : Hid (w.heap.size + 1 + 1 = zb) := hzb; rw [hzb] at pZ; rw [hrb] at pR; have ERB := hid hrb; have EZB := hid hzb
  have t15 : ∀ X, Below W1.heap.size W1 X → X.cell? ⟨w.heap.size, 15, none⟩ = some (.int .i64 s.lv) := fun X h => hpCell (hpKeep pS h) 15
  have t16 : ∀ X, Below W1.heap.size W1 X → X.cell? ⟨w.heap.size, 16, none⟩ = some (.slice oa on oc) := fun X h => hpCell (hpKeep pS h) 16
  have q3 : ∀ X, Below W1.heap.size W1 X → X.cell? ⟨w.heap.size + 1, 3, none⟩ = some (.int .i64 (c : Int)) := fun X h => hpCell (hpKeep pQ h) 3
  have q4 : ∀ X, Below W1.heap.size W1 X → X.cell? ⟨w.heap.size + 1, 4, none⟩ = some (.int .i64 ob) := fun X h => hpCell (hpKeep pQ h) 4
  have d0 : (s.lv == 0) = false := b0 (by omega)
  have k0 : Below W1.heap.size W1 W1 := Below.refl _ _
  have kA : ∀ X, Below W1.heap.size W1 (W1.alloc X) := fun X => bal' _ _
  have HW1 := hid hW1
  have HB1 := hid hb1
  have HZ1 := hid hz1
  have PZ := hid pZ
  have PR := hid pR
  have HON := hid hon
  have HR := hid hR
  have HVL := hid hvl
  obtain ⟨L, hL⟩ : ∃ L, grI (c : Int) = L := ⟨_, rfl⟩
  rw [hL]
  have x4 : (W1.alloc (.cells #[.int .i64 0, .int .i64 2, .int .i64 127, .int .i64 255] 3)).cell? ⟨W1.heap.size, c, none⟩ = some (.int .i64 L) := by
    rw [hpCell (hpNew W1 _), ← hL]
    rcases (show c = 1 ∨ c = 2 ∨ c = 3 by omega) with rfl | rfl | rfl <;> rfl
  have ci0 : (0 : Int) ≤ (c : Int) := Int.natCast_nonneg _
  have ci4 : (c : Int) < 4 := by omega
  rw [hon] at hon16
  obtain ⟨iO, hiO, hzO0, hzO1, hzO2⟩ := info_parts infoOb
  clear hW1 hb1 hz1 pS pQ pZ pR hon hsn hSL hH hzb hrb hlv hR hvl hL hc1 hc3
  go_enter Tryz.func48, Tryz.ntmps48
  go_upto_region 2 with (fail)
  rw [HW1.out, E3.out, E2.out]
  go_upto_region 6 with (fail)
  obtain ⟨W2, hW2⟩ : ∃ W, W1.alloc (.cells #[.int .i64 0, .int .i64 2, .int .i64 127, .int .i64 255] 3) = W := ⟨_, rfl⟩
  rw [hW2]
  have hb2 : Below W1.heap.size W1 W2 := by rw [← hW2]; exact bal' _ _
  have hz2 : W2.heap.size = W1.heap.size + 1 := by rw [← hW2]; simp
  have HZ2 := hid hz2
  have HB2 := hid hb2
  have S0 : Hid (DvAx w W2 [] 0 (.slice none 0 0) W2) := ⟨[], World.ownsRow_nil _ _ _ _, rfl, Below.refl _ _⟩
  clear hW2 hz2 d0 hb2 kA x4 ci0 ci4
  go_wp2_with fail
  go_loopw [7, 8] (fun lv iv wr => ∃ (k : Nat) (acc : List Ob) (ln : Nat) (la : Option Addr) (lc : Nat), lv = .slice la ln lc ∧ iv = .int .i64 (k : Int) ∧ k ≤ on ∧ ln ≤ k ∧ Hid (acc.length = ln) ∧ Hid (acc = selO (s.objs.take k) ob L) ∧ Hid (DvAx w W2 acc ln (.slice la ln lc) wr)) (fun _ iv _ => on - (intOf iv).toNat)
  case atStart => exact ⟨0, [], 0, none, 0, rfl, rfl, Nat.zero_le _, Nat.le_refl _, rfl, rfl, S0.out⟩
  case round =>
    obtain ⟨k, acc, ln, la, lc, rfl, rfl, hk, hlk, hal, hacc, hA⟩ := hrel
    have hki : (0 : Int) ≤ (k : Int) := Int.natCast_nonneg _
    obtain ⟨cs, hown, hcs, hbw⟩ := hA.out
    have hbR : Below W1.heap.size W1 wr := bt HB2.out hbw (Nat.le_refl _)
    have HBR := hid hbR
    by_cases hlt : k < on
    · obtain ⟨x, hx⟩ := gs (l := s.objs) HON.out hlt
      obtain ⟨a', n', c', hv', -, -, -, -, hel⟩ := HR.out.ob.open_
      simp only [Value.slice.injEq] at hv'
      obtain ⟨rfl, rfl, rfl⟩ := hv'
      obtain ⟨b, o, xa, xc, rfl, z0, z1, hxb⟩ := hel k x hx
      have hBw : Below w.heap.size w wr := bt HB1.out hbR (Nat.le_refl _)
      have y0 : wr.cell? ⟨b, o + k * 2, none⟩ = some (.int .i64 x.id) := cell_keep hBw z0
      have y1 : wr.cell? ⟨b, o + k * 2 + 1, none⟩ = some (.slice xa x.val.length xc) := cell_keep hBw z1
      have hkl : (k : Int) < (on : Int) := by omega
      have HX := hid hx
      have HXQ : Hid (ObQ w [.int .i64 x.id, .slice xa x.val.length xc] x) := ⟨xa, xc, rfl, hxb⟩
      clear hel hx hxb z0 z1
      obtain ⟨xn, hxn⟩ : ∃ n, x.val.length = n := ⟨_, rfl⟩
      obtain ⟨xi, hxi⟩ : ∃ n, x.id = n := ⟨_, rfl⟩
      rw [hxn] at y1 HXQ
      rw [hxi] at y0 HXQ
      have HXI := hid hxi
      clear hxn hxi
      by_cases hge : ob ≤ xi ∧ xi ≤ L
      · have d1 : decide (ob ≤ xi) = true := decide_eq_true hge.1
        have d2 : decide (xi ≤ L) = true := decide_eq_true hge.2
        have HF : Hid (acc ++ [x] = selO (s.objs.take (k + 1)) ob L) := by show _ = _; rw [hacc.out, selO_yes HX.out (by rw [HXI.out]; exact hge.1) (by rw [HXI.out]; exact hge.2)]
        clear hge
        go_upto_region 10 with (fail)
        go_quiet (fail)
        have kN : ∀ n, Below W1.heap.size W1 (wr.drewN n) := fun n => below_drewN hbR n
        have y0N : ∀ n, (wr.drewN n).cell? ⟨b, o + k * 2, none⟩ = some (.int .i64 xi) := fun n => cell_keep (below_drewN (Below.refl wr.heap.size wr) n) y0
        have y1N : ∀ n, (wr.drewN n).cell? ⟨b, o + k * 2 + 1, none⟩ = some (.slice xa xn xc) := fun n => cell_keep (below_drewN (Below.refl wr.heap.size wr) n) y1
        have HOWN := hid hown
        have HCS := hid hcs
        clear hown hcs hbR
        go_wp2_with (at_builtin; refine wpList_appN rfl _ _ 35 rfl W2.heap.size 103 iO _ 2 32 Tryz.underlying35 hiO hzO0 hzO1 hzO2 rfl (by decide) (.slice la ln lc) ln cs rfl (HOWN.out.alloc _) ⟨wr.heap.size, 0, none⟩ 1 1 [.int .i64 xi, .slice xa xn xc] rfl rfl (newsNew _ [.int .i64 xi, .slice xa xn xc] _) (by intro u hu; simp at hu; rcases hu with rfl | rfl <;> rfl) (by unfold maxLen; omega) (by omega) (by have := hbw.size; simp; omega) ?c3)
        case c3 =>
          intro v6 w6 hown6 hgr6 hnew6
          obtain ⟨a6, c6, rfl⟩ := own_slice hown6
          have hb6 : Below W2.heap.size W2 w6 := (bta (below_drewN hbw _) (Nat.le_refl _) _).grown hgr6 (by have := hbw.size; simp; omega) (fun j hj => (HOWN.out.lt j hj).1)
          have HA6 : Hid (DvAx w W2 (acc ++ [x]) (ln + 1) (.slice a6 (ln + 1) c6) w6) := ⟨_, hown6, CsL.app _ _ HCS.out [x] _ ⟨_, [], rfl, rfl, HXQ.out, rfl⟩, hb6⟩
          have HAL : Hid ((acc ++ [x]).length = ln + 1) := by show _ = _; rw [List.length_append, hal.out]; rfl
          clear hown6 hgr6 hnew6 hb6
          go_wp2
          go_roundw
          case rel => exact ⟨k + 1, acc ++ [x], ln + 1, a6, c6, rfl, by go_num, by omega, by omega, HAL.out, HF.out, HA6.out⟩
          case measure => simp [intOf]; omega
      · by_cases hg1 : ob ≤ xi
        · have d1 : decide (ob ≤ xi) = true := decide_eq_true hg1
          have d2 : decide (xi ≤ L) = false := decide_eq_false (fun e => hge ⟨hg1, e⟩)
          have HF : Hid (acc = selO (s.objs.take (k + 1)) ob L) := by show _ = _; rw [hacc.out, selO_no HX.out (by rw [HXI.out]; exact hge)]
          have HA6 : Hid (∀ n, DvAx w W2 acc ln (.slice la ln lc) (wr.drewN n)) := fun n => ⟨cs, own_keeps (F := fun _ => False) hown (Keeps.of_below (below_drewN (Below.refl _ _) _)) (fun _ _ e => e), hcs, below_drewN hbw _⟩
          clear hge hg1 hown hcs
          go_upto_region 10 with (fail)
          go_quiet (fail)
          go_wp2
          go_roundw
          case rel => exact ⟨k + 1, acc, ln, la, lc, rfl, by go_num, by omega, by omega, hal.out, HF.out, HA6.out _⟩
          case measure => simp [intOf]; omega
        · have d1 : decide (ob ≤ xi) = false := decide_eq_false hg1
          have HF : Hid (acc = selO (s.objs.take (k + 1)) ob L) := by show _ = _; rw [hacc.out, selO_no HX.out (by rw [HXI.out]; exact hge)]
          have HA6 : Hid (∀ n, DvAx w W2 acc ln (.slice la ln lc) (wr.drewN n)) := fun n => ⟨cs, own_keeps (F := fun _ => False) hown (Keeps.of_below (below_drewN (Below.refl _ _) _)) (fun _ _ e => e), hcs, below_drewN hbw _⟩
          clear hge hg1 hown hcs
          go_upto_region 10 with (fail)
          go_quiet (fail)
          go_wp2
          go_roundw
          case rel => exact ⟨k + 1, acc, ln, la, lc, rfl, by go_num, by omega, by omega, hal.out, HF.out, HA6.out _⟩
          case measure => simp [intOf]; omega
    · obtain rfl : k = on := by omega
      have hL : selO s.objs ob L = acc := by rw [hacc.out, List.take_of_length_le (by rw [HON.out]; exact Nat.le_refl _)]
      have HLL := hid hL
      rw [hL]
      by_cases hl0 : ln = 0
      · have he : acc = [] := List.length_eq_zero_iff.1 (by rw [hal.out]; exact hl0)
        have f1 : wr.frozen? ⟨rb, 1, none⟩ = false := hpFree (hpKeep PR.out hbR) 1
        have r1 : wr.cell? ⟨rb, 1, none⟩ = some (.int .i64 0) := hpCell (hpKeep PR.out hbR) 1
        have pR2 : (wr.setCell ⟨rb, 1, none⟩ (.int .i64 2)).heap[rb]? = some (.cells (DvqC 2 0 0 false 0 (.slice none 0 0)) 57) := hpSetP (hpKeep PR.out hbR) rfl
        have pZ2 : (wr.setCell ⟨rb, 1, none⟩ (.int .i64 2)).heap[zb]? = some (.cells (#[.int .i64 0, .int .i64 0, .slice none 0 0, .int .i64 0, .int .i64 0, .bool false, .int .i64 0, .slice none 0 0]) 57) := (hpOther (by have := ERB.out; have := EZB.out; omega)).trans (hpKeep PZ.out hbR)
        have hk2 : Keeps (fun j => w.heap.size ≤ j) W1 (wr.setCell ⟨rb, 1, none⟩ (.int .i64 2)) := (Keeps.of_below hbR).set _ _ (by show w.heap.size ≤ rb; have := ERB.out; omega)
        obtain ⟨C, hC⟩ : ∃ C : Array Value, DvqC 2 0 0 false 0 (.slice none 0 0) = C := ⟨_, rfl⟩
        have hcs8 : C.size = 8 := by rw [← hC]; rfl
        have hi8 : (Tryz.prog.info? 57).map (·.size) = some C.size := by rw [hcs8]; exact info8
        have h1c : C.toList.all (·.oneCell') = true := by rw [← hC]; rfl
        rw [hC] at pR2
        have HC := hid hC
        have HE := hid he
        have HP2 := hid (And.intro pR2 (And.intro pZ2 hk2))
        subst hl0
        clear hC pR2 pZ2 hk2 hown hcs hA hacc S0 he hL
        go_upto_region 14 with (fail)
        obtain ⟨pR2, pZ2, hk2⟩ := HP2.out
        generalize wr.setCell ⟨rb, 1, none⟩ (.int .i64 2) = W3 at *
        have HK2 := hid hk2
        clear f1 r1 hk2 HP2 t15 t16 q3 q4 k0
        go_wp2_with (first | (refine wpList_load_row rfl 57 (.tmp 5) rfl (rb) rfl 57 C (0, 0) _ pR2 Tryz.underlying57 rfl hi8 ?_) | (refine wpList_storeW rfl 57 (.tmp 4) (.tmp 60) rfl (zb) 0 _ 57 C rfl rfl pZ2 (by simp [hcs8]) hi8 h1c ?_; intro w8 g8 hk8 hz8))
        have g9 : w8.heap[zb]? = some (.cells C 57) := by rw [g8, List.drop_eq_nil_of_le (by simp [hcs8])]; simp
        refine bodyPost_ret (results_cell_row rfl _ _ (zb) 57 C (0, 0) _ rfl g9 Tryz.underlying57 rfl hi8) rfl ?_
        exact .inl ⟨by rw [HLL.out]; exact HE.out, TabPost.exc HB1.out (by have := HZ1.out; omega) HK2.out (hk8.mono (fun j _ e => by have := EZB.out; omega)) HC.out.symm⟩
      have hln1 : 1 ≤ ln := by omega
      have HNE : Hid (acc ≠ []) := fun e => by have := hal.out; rw [e] at this; exact hl0 this.symm
      clear hl0
      have hsub : ∀ y ∈ acc, y ∈ s.objs := fun y hy => by
        rw [← hL] at hy
        exact (List.mem_filter.1 hy).1
      have HSUB := hid hsub
      obtain ⟨g, cap, hv, hg, hnc, hcm⟩ := own_shapeR hown (by omega)
      simp only [Value.slice.injEq, true_and] at hv
      obtain ⟨rfl, rfl⟩ := hv
      have hBw : Below w.heap.size w wr := bt HB1.out hbR (Nat.le_refl _)
      have HOB : Hid (Obs wr (.slice (some ⟨g, 0, none⟩) ln lc) acc) := Obs.of_csl hown (CsL.mono (fun r y hy => by obtain ⟨a, c, h1, h2⟩ := hy; exact ⟨a, c, h1, h2.keep hBw⟩) _ _ hcs) hal.out
      have HCS := hid hcs
      have HGL : Hid (rb < g ∧ g < wr.heap.size) := ⟨by have := ERB.out; have := HZ1.out; have := HZ2.out; omega, (hown.lt g rfl).2⟩
      have PZ3 : Hid (wr.heap[zb]? = some (.cells (#[.int .i64 0, .int .i64 0, .slice none 0 0, .int .i64 0, .int .i64 0, .bool false, .int .i64 0, .slice none 0 0]) 57)) := hpKeep PZ.out hbR
      have HEL : Hid (∀ k x, acc[k]? = some x → ∃ xa xc, wr.cell? ⟨g, k * 2, none⟩ = some (.int .i64 x.id) ∧ wr.cell? ⟨g, k * 2 + 1, none⟩ = some (.slice xa x.val.length xc) ∧ Bs w (.slice xa x.val.length xc) x.val) := fun k x hx => by
        obtain ⟨r, -, ⟨xa, xc, rfl, hb⟩, hr⟩ := CsL.get _ _ hcs k x hx
        have hkl : k < ln := by have h1 := (List.getElem?_eq_some_iff.1 hx).1; have h2 := hal.out; omega
        exact ⟨xa, xc, by rw [hown.cellAt _ (by omega)]; exact hr 0 _ rfl, by rw [hown.cellAt _ (by omega)]; exact hr 1 _ rfl, hb⟩
      have HV1 : Hid (∀ y ∈ acc, y.val.length ≤ 100) := fun y hy => HVL.out y (HSUB.out y hy)
      have hlnb : ln ≤ 16 := by omega
      have hlcb : ln ≤ lc := hnc
      have HBW := hid hBw
      have d5 : ((ln : Int) == 0) = false := b0 (by omega)
      have t15' := t15 wr hbR
      have t16' := t16 wr hbR
      have q3' := q3 wr hbR
      have P3 : Hid (wr.heap[rb]? = some (.cells (DvqC 0 0 0 false 0 (.slice none 0 0)) 57)) := hpKeep PR.out hbR
      have r3 : wr.cell? ⟨rb, 3, none⟩ = some (.int .i64 0) := hpCell P3.out 3
      have r4 : wr.cell? ⟨rb, 4, none⟩ = some (.int .i64 0) := hpCell P3.out 4
      have f3 : wr.frozen? ⟨rb, 3, none⟩ = false := hpFree P3.out 3
      have f4 : wr.frozen? ⟨rb, 4, none⟩ = false := hpFree P3.out 4
      clear hL hsub hown hcs hA hg hnc hcm hBw t15 t16 q3 q4 k0 hacc hlk S0
      go_wp2_with fail
      go_loopw [9] (fun nv wi => ∃ m : Nat, 1 ≤ m ∧ m ≤ ln ∧ nv = .int .i64 (m : Int) ∧ Hid (m = ln ∨ ¬ obSize (acc.take (m + 1)) ≤ 246) ∧ wr = wi) (fun nv _ => (intOf nv).toNat)
      case atStart => exact ⟨ln, hln1, Nat.le_refl _, rfl, .inl rfl, rfl⟩
      case round =>
        obtain ⟨m, hm1, hm2, rfl, hmx, rfl⟩ := hrel
        have hmi : (0 : Int) ≤ (m : Int) := Int.natCast_nonneg _
        have hcut : ∀ W, (Instr.slice 35 (.slice (some ⟨g, 0, none⟩) ln lc) none (some (.int .i64 (m : Int))) none).run Tryz.prog W = .ok (.slice (some ⟨g, 0, none⟩) m lc) W := fun W => run_takeO Tryz.underlying35 hiO g ln lc m (by omega) W
        have HSZ : Hid (Calls Tryz.prog 72 #[.slice (some ⟨g, 0, none⟩) m lc] wr fun r w' => SizeOk (acc.take m) r ∧ wr = w') := size_any _ _ wr (HOB.out.takeS hm2)
        by_cases hsz : obSize (acc.take m) ≤ 246
        · have HDZ : Hid (∀ sz : Nat, (sz ≤ 246 ↔ obSize (acc.take m) ≤ 246) → ¬ (246 : Int) < (sz : Int)) := fun sz h => by have := h.2 hsz; omega
          have HFI : Hid (m = fitN 246 acc) := fitN_is hsz (by have := hal.out; omega) (hmx.out.elim (fun h => .inl (by have := hal.out; omega)) .inr)
          clear hsz
          go_upto_region 18 with (go_at_call 72; (with_reducible refine HSZ.out.mono ?_); rintro r w2 ⟨⟨sz, rfl, hsz2⟩, rfl⟩; have dz := HDZ.out sz hsz2; clear hsz2)
          go_region
          obtain ⟨W4, hW4⟩ : ∃ W, ((wr.setCell ⟨rb, 3, none⟩ (.int .i64 (c : Int))).setCell ⟨rb, 4, none⟩ (.int .i64 s.lv)).drew = W := ⟨_, rfl⟩
          rw [hW4]
          have hk4 : Keeps (fun j => j = rb) wr W4 := by rw [← hW4]; exact (ks1 (ks1 (Keeps.refl _ _) _ _) _ _).trans (Keeps.of_below (F := fun _ => False) (Below.refl _ _).drew) (fun _ _ e => e.elim)
          have p4 : W4.heap[rb]? = some (.cells (DvqC 0 (c : Int) s.lv false 0 (.slice none 0 0)) 57) := by rw [← hW4]; exact hpKeep (hpSetP (hpSetP P3.out rfl) rfl) (Below.refl _ _).drew
          have B4 : Hid (DvB W4 rb (c : Int) s.lv acc 0 (.slice none 0 0) [] W4) := ⟨p4, World.ownsRow_nil _ _ _ _, rfl, Keeps.refl _ _⟩
          have HK4 := hid hk4
          have hrb4 : rb < W4.heap.size := hpLt p4
          have HM := hid (And.intro hm1 hm2)
          clear t15' q3' r3 r4 f3 f4 hW4 hk4 p4 hcut
          go_wp2_with fail
          obtain ⟨wo, rfl⟩ : ∃ wo : World, wo = wr := ⟨_, rfl⟩
          go_loopw [10] (fun iv wi => ∃ (k : Nat) (oa : Option Addr) (oc : Nat) (cs : List Value), iv = .int .i64 (k : Int) ∧ k ≤ m ∧ Hid (DvB W4 rb (c : Int) s.lv acc k (.slice oa k oc) cs wi)) (fun iv _ => m - (intOf iv).toNat)
          case atStart => exact ⟨0, none, 0, [], rfl, Nat.zero_le _, B4.out⟩
          case round =>
            obtain ⟨k, oa, oc, cs, rfl, hk, hB⟩ := hrel
            have hki : (0 : Int) ≤ (k : Int) := Int.natCast_nonneg _
            have hkW : Hid (Keeps (fun j => j = rb) wo wr) := HK4.out.trans hB.out.kp (fun _ _ e => e)
            have hgr : ¬ g = rb := by have := HGL.out; omega
            have hszi := hB.out.kp.size
            by_cases hlt : k < m
            · obtain ⟨x, hx⟩ := gs (l := acc) hal.out (by omega : k < ln)
              obtain ⟨xa, xc, z0, z1, hxb⟩ := HEL.out k x hx
              have y0 : ∀ X, Below wr.heap.size wr X → X.cell? ⟨g, k * 2, none⟩ = some (.int .i64 x.id) := fun X h => cell_keep h (hkW.out.cell z0 hgr)
              have y1 : ∀ X, Below wr.heap.size wr X → X.cell? ⟨g, k * 2 + 1, none⟩ = some (.slice xa x.val.length xc) := fun X h => cell_keep h (hkW.out.cell z1 hgr)
              have e7 : ∀ X, Below wr.heap.size wr X → X.cell? ⟨rb, 7, none⟩ = some (.slice oa k oc) := fun X h => hpCell (hpKeep hB.out.r h) 7
              have hxi : Bs wr (.slice xa x.val.length xc) x.val := hxb.keep (HBW.out.trans (hkW.out.below HBW.out.size (fun j hj e => by have := ERB.out; omega)))
              have HRX : Hid (∀ X, Below wr.heap.size wr X → RowR X 1 (.slice xa x.val.length xc) x.val.length (u8s x.val)) := fun X h => (Bs.rowR hxi).keep h
              have hvl := HV1.out x (List.mem_of_getElem? hx)
              obtain ⟨iU, hiU, hzU0, hzU1, hzU2⟩ := info_parts infoB
              have k0 : Below wr.heap.size wr wr := Below.refl _ _
              have kd : Below wr.heap.size wr wr.drew := (Below.refl _ _).drew
              have kA : ∀ W X, Below wr.heap.size wr W → Below wr.heap.size wr (W.alloc X) := fun W X h => bta h (Nat.le_refl _) X
              have HX := hid hx
              have HOW := hid hB.out.own
              have hkl : (k : Int) < (m : Int) := by omega
              have hkn : (k : Int) < (ln : Int) := by omega
              clear z0 z1 hxb hxi hx
              obtain ⟨xn, hxn⟩ : ∃ n, x.val.length = n := ⟨_, rfl⟩
              obtain ⟨xi, hxi⟩ : ∃ n, x.id = n := ⟨_, rfl⟩
              rw [hxn] at y1 HRX hvl
              rw [hxi] at y0
              have HXN := hid hxn
              have HXI := hid hxi
              have HON : Hid (∀ u ∈ u8s x.val, u.oneCell' = true) := one_u8s x.val
              clear hxn hxi
              go_upto_region 22 with (fail)
              go_region_law (first
                | (refine step_appR rfl (.const (.slice none 0 0)) (.tmp 92) 36 rfl wr.heap.size 5 iU _ 1 1 Tryz.underlying36 hiU hzU0 hzU1 hzU2 rfl (by decide) (.slice none 0 0) 0 [] rfl (World.ownsRow_nil _ _ _ _) (.slice xa xn xc) xn (u8s x.val) rfl (HRX.out _ kd) HON.out (by unfold maxLen; omega) (by omega) kd.size ?_; intro v5 w5 hown5 hgr5 hnew5; rw [Nat.zero_add, List.nil_append] at hown5; obtain ⟨a5, c5, rfl⟩ := own_slice hown5; have hb5 : Below wr.heap.size wr w5 := kd.grown hgr5 kd.size (fun k hk => nomatch hk); have HO5 := hid ((own_keeps HOW.out (Keeps.of_below (F := fun _ => False) hb5) (fun _ _ f => f)).alloc (.cells #[.int .i64 xi, .slice a5 xn c5] 103)))
                | (refine step_appN rfl (.tmp 82) (.tmp 95) 35 rfl W4.heap.size 103 iO _ 2 32 Tryz.underlying35 hiO hzO0 hzO1 hzO2 rfl (by decide) (.slice oa k oc) k cs rfl HO5.out ⟨w5.heap.size, 0, none⟩ 1 1 [.int .i64 xi, .slice a5 xn c5] rfl rfl (newsNew w5 [.int .i64 xi, .slice a5 xn c5] _) (by intro u hu; simp at hu; rcases hu with rfl | rfl <;> rfl) (by unfold maxLen; omega) (by omega) (by have := hb5.size; simp; omega) ?_; intro v6 w6 hown6 hgr6 hnew6; obtain ⟨a6, c6, rfl⟩ := own_slice hown6; have hS := hid (DvB.step hB.out hrb4 HX.out hb5 HXN.out hown5 hgr6 hnew6 (by rw [HXI.out]; exact hown6)); have hr6 := DvB.old hB.out hrb4 hb5 hgr6; have e7 : w6.cell? ⟨rb, 7, none⟩ = some (.slice oa k oc) := hpCell hr6 7; have z7 : w6.frozen? ⟨rb, 7, none⟩ = false := hpFree hr6 7))
              all_goals
                clear hown5 hgr5 hnew5 hown6 hgr6 hnew6 hr6 hb5 y0 y1 kA
                go_wp2
                go_roundw
                case rel => exact ⟨k + 1, a6, c6, _, by go_num, by omega, hS.out⟩
                case measure => simp [intOf]; omega
            · obtain rfl : k = m := by omega
              have hzr : ¬ zb = rb := by have := EZB.out; have := ERB.out; omega
              have pZ5 : wr.heap[zb]? = some (.cells (#[.int .i64 0, .int .i64 0, .slice none 0 0, .int .i64 0, .int .i64 0, .bool false, .int .i64 0, .slice none 0 0]) 57) := hpKeeps PZ3.out hkW.out hzr
              have pR5 := hB.out.r
              have hbel4 : Below w.heap.size w W4 := HBW.out.trans (HK4.out.below HBW.out.size (fun j hj e => by have := ERB.out; omega))
              have HBE := hid hbel4
              have hz4 : zb < W4.heap.size := by have := EZB.out; have := ERB.out; omega
              have r5 : wr.cell? ⟨rb, 5, none⟩ = some (.bool false) := hpCell pR5 5
              have r6 : wr.cell? ⟨rb, 6, none⟩ = some (.int .i64 0) := hpCell pR5 6
              have f5 : wr.frozen? ⟨rb, 5, none⟩ = false := hpFree pR5 5
              have f6 : wr.frozen? ⟨rb, 6, none⟩ = false := hpFree pR5 6
              by_cases hmore : k < ln
              · obtain ⟨x, hx⟩ := gs (l := acc) hal.out hmore
                obtain ⟨xa, xc, z0, -, -⟩ := HEL.out k x hx
                obtain ⟨xi, hxi⟩ : ∃ n, x.id = n := ⟨_, rfl⟩
                have y0 : wr.cell? ⟨g, k * 2, none⟩ = some (.int .i64 xi) := by rw [← hxi]; exact hkW.out.cell z0 hgr
                have HXI : Hid (∀ y, acc[k]? = some y → xi = y.id) := fun y hy => by
                  rw [hx] at hy
                  cases hy
                  exact hxi.symm
                have hkn : (k : Int) < (ln : Int) := by omega
                have HKN := hid hmore
                obtain ⟨W5, hW5⟩ : ∃ W, ((wr.setCell ⟨rb, 5, none⟩ (.bool true)).setCell ⟨rb, 6, none⟩ (.int .i64 xi)).drew = W := ⟨_, rfl⟩
                obtain ⟨C, hC⟩ : ∃ C : Array Value, DvqC 0 (c : Int) s.lv true xi (.slice oa k oc) = C := ⟨_, rfl⟩
                have hcs : C.size = 8 := by rw [← hC]; rfl
                have hi8 : (Tryz.prog.info? 57).map (·.size) = some C.size := by rw [hcs]; exact info8
                have h1c : C.toList.all (·.oneCell') = true := by rw [← hC]; rfl
                have p5 : W5.heap[rb]? = some (.cells C 57) := by rw [← hW5, ← hC]; exact hpKeep (hpSetP (hpSetP pR5 rfl) rfl) (Below.refl _ _).drew
                have hk5 : Keeps (fun j => j = rb) wr W5 := by rw [← hW5]; exact (ks1 (ks1 (Keeps.refl _ _) _ _) _ _).trans (Keeps.of_below (F := fun _ => False) (Below.refl _ _).drew) (fun _ _ e => e.elim)
                have pZ6 := hpKeeps pZ5 hk5 hzr
                have HK5 := hid hk5
                have HC := hid hC
                have HW5 := hid hW5
                clear hx z0 hxi hmore hC hk5 hW5
                go_upto_region 24 with (fail)
                go_region
                rw [HW5.out]
                clear r5 r6 f5 f6 y0
                go_wp2_with (first | (refine wpList_load_row rfl 57 (.tmp 5) rfl (rb) rfl 57 C (0, 0) _ p5 Tryz.underlying57 rfl hi8 ?_) | (refine wpList_storeW rfl 57 (.tmp 4) (.tmp 109) rfl (zb) 0 _ 57 C rfl rfl pZ6 (by simp [hcs]) hi8 h1c ?_; intro w8 g8 hk8 hz8))
                have g9 : w8.heap[zb]? = some (.cells C 57) := by rw [g8, List.drop_eq_nil_of_le (by simp [hcs])]; simp
                refine bodyPost_ret (results_cell_row rfl _ _ (zb) 57 C (0, 0) _ rfl g9 Tryz.underlying57 rfl hi8) rfl ?_
                rw [HLL.out]
                refine .inr ⟨HNE.out, ?_⟩
                exact DvB.ends hB.out hrb4 hz4 ((HK5.out.mono (G := fun j => j = rb ∨ j = zb) (fun j _ e => .inl e)).trans (hk8.mono (G := fun j => j = rb ∨ j = zb) (fun j _ e => .inr e)) (fun _ _ e => e)) HBE.out (by have := ERB.out; omega) (by have := EZB.out; omega) HM.out.1 (by have := HKN.out; have := hal.out; omega) HXI.out (fun e => by have := HKN.out; have := hal.out; omega) HFI.out (by rw [← HC.out, decide_eq_true (by have := HKN.out; have := hal.out; omega)])
              · have hkn : ¬ (k : Int) < (ln : Int) := by omega
                have HKN := hid hmore
                obtain ⟨C, hC⟩ : ∃ C : Array Value, DvqC 0 (c : Int) s.lv false 0 (.slice oa k oc) = C := ⟨_, rfl⟩
                have hcs : C.size = 8 := by rw [← hC]; rfl
                have hi8 : (Tryz.prog.info? 57).map (·.size) = some C.size := by rw [hcs]; exact info8
                have h1c : C.toList.all (·.oneCell') = true := by rw [← hC]; rfl
                rw [hC] at pR5
                have HC := hid hC
                clear hmore hC r5 r6 f5 f6
                go_wp2_with (first | (refine wpList_load_row rfl 57 (.tmp 5) rfl (rb) rfl 57 C (0, 0) _ pR5 Tryz.underlying57 rfl hi8 ?_) | (refine wpList_storeW rfl 57 (.tmp 4) (.tmp 109) rfl (zb) 0 _ 57 C rfl rfl pZ5 (by simp [hcs]) hi8 h1c ?_; intro w8 g8 hk8 hz8))
                have g9 : w8.heap[zb]? = some (.cells C 57) := by rw [g8, List.drop_eq_nil_of_le (by simp [hcs])]; simp
                refine bodyPost_ret (results_cell_row rfl _ _ (zb) 57 C (0, 0) _ rfl g9 Tryz.underlying57 rfl hi8) rfl ?_
                rw [HLL.out]
                refine .inr ⟨HNE.out, ?_⟩
                exact DvB.ends hB.out hrb4 hz4 (hk8.mono (G := fun j => j = rb ∨ j = zb) (fun j _ e => .inr e)) HBE.out (by have := ERB.out; omega) (by have := EZB.out; omega) HM.out.1 (by have := hal.out; omega) (fun y hy => by have := (List.getElem?_eq_some_iff.1 hy).1; have := HKN.out; have := hal.out; omega) (fun _ => rfl) HFI.out (by rw [← HC.out, decide_eq_false (by have := HKN.out; have := hal.out; omega)])
        · have hm3 := obSize_one HV1.out hsz hm1
          have HDZ : Hid (∀ sz : Nat, (sz ≤ 246 ↔ obSize (acc.take m) ≤ 246) → (246 : Int) < (sz : Int)) := fun sz h => by
            by_cases e : sz ≤ 246
            · exact absurd (h.1 e) hsz
            · omega
          have s1 : IntKind.i64.wrap ((m : Int) - 1) = ((m - 1 : Nat) : Int) := (IntWalk.i64_in _ (by omega)).trans (by omega)
          have HSX := hid hsz
          clear hsz
          go_wp2_with (go_at_call 72; (with_reducible refine HSZ.out.mono ?_); rintro r w2 ⟨⟨sz, rfl, hsz2⟩, rfl⟩; have dz := HDZ.out sz hsz2; clear hsz2)
          go_roundw
          case rel => exact ⟨m - 1, by omega, by omega, rfl, .inr (by rw [show m - 1 + 1 = m by omega]; exact HSX.out), trivial⟩
          case measure => simp [intOf]; omega
end Go.Proofs.YtpkheiaanjhffaaGreat
