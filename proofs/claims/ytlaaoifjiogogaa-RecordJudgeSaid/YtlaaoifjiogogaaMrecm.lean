/-
  Several texts of this claim in one file.
-/
import Derived.Test.YtlaaoifjiogogaaMrech
import Derived.Test.YtlaaoifjiogogaaMbase
import Derived.StillTailTactics
import Derived.Test.YtlaaoifjiogogaaMplain
/-
The contract of record.Strip where everything is kept.
-/
namespace Go.Proofs.Ytlaaoifjiogogaa
open Go.RowKit

/-- The blocks that the loop over the copied objects, and what stands behind it, may change. -/
def DeepF (w : World) (v2 : Value) : Nat → Prop := fun k => v2.ownBlock = some k ∨ k = w.heap.size + 1 ∨ k = w.heap.size + 1 + 1

/-- Where the loop over the copied objects stands. -/
def DeepRel (w wr : World) (A B C : Obj) (v2 : Value) (objs : List Ob) (a1 : Option Addr) (c1 : Nat) (data : List UInt8) : Prop :=
  wr.heap[w.heap.size]? = some A ∧ wr.heap[w.heap.size + 1]? = some B ∧ wr.heap[w.heap.size + 1 + 1]? = some C ∧
    (∃ cs, wr.ownsRow (w.heap.size + 3) 87 2 v2 objs.length cs ∧ ObCg (DeepF w v2) wr cs objs) ∧ Bs wr (.slice a1 data.length c1) data ∧ (data ≠ [] → ∀ ad, a1 = some ad → ¬ DeepF w v2 ad.block) ∧ Below w.heap.size w wr

theorem DeepRel.step {w wr w5 : World} {A B C : Obj} {g cap : Nat} {objs : List Ob} {a1 : Option Addr} {c1 : Nat} {data : List UInt8} (h : DeepRel w wr A B C (.slice (some ⟨g, 0, none⟩) objs.length cap) objs a1 c1 data)
    (hb : Below wr.heap.size wr w5) {k : Nat} {x : Ob} (hx : objs[k]? = some x) {E : TypeId} {a5 : Option Addr} {c5 : Nat} (hown5 : w5.ownsRow wr.heap.size E 1 (.slice a5 x.val.length c5) x.val.length (u8s x.val)) :
    DeepRel w (w5.setCell ⟨g, k * 2 + 1, none⟩ (.slice a5 x.val.length c5)) A B C (.slice (some ⟨g, 0, none⟩) objs.length cap) objs a1 c1 data := by
  obtain ⟨gA, gB, gC, ⟨cs, hown, hcg⟩, hbs, hbf, hbw⟩ := h
  have hg := hown.lt g rfl
  have hszw := hbw.size
  have sz : ∀ k c, wr.heap[k]? = some c → k < wr.heap.size := fun k c hc => (Array.getElem?_eq_some_iff.1 hc).1
  have lA := sz _ _ gA
  have lB := sz _ _ gB
  have lC := sz _ _ gC
  have hk : Keeps (fun k => k = g) w5 (w5.setCell ⟨g, k * 2 + 1, none⟩ (.slice a5 x.val.length c5)) := (Keeps.refl _ _).set _ _ rfl
  have hkF : ∀ k, k = g → DeepF w (.slice (some ⟨g, 0, none⟩) objs.length cap) k := fun k hk => .inl (by rw [hk]; rfl)
  have hown' := own_keeps hown (Keeps.of_below (F := fun _ => False) hb) (fun _ _ f => f)
  have hcg' := hcg.keeps (Keeps.of_below (F := fun _ => False) hb) (fun _ f => f.elim)
  have hF5 : x.val ≠ [] → ∀ ad, a5 = some ad → ¬ DeepF w (.slice (some ⟨g, 0, none⟩) objs.length cap) ad.block := fun _ ad had hF => by
    have h5 := (hown5.lt ad.block (by rw [had]; rfl)).1
    rcases hF with e | e | e
    · simp [Value.ownBlock] at e; omega
    · omega
    · omega
  refine ⟨by rw [heap_setO (by omega), hb.block _ lA]; exact gA, by rw [heap_setO (by omega), hb.block _ lB]; exact gB, by rw [heap_setO (by omega), hb.block _ lC]; exact gC, ⟨cs.set (k * 2 + 1) (.slice a5 x.val.length c5), (hown'.stored _ _).1, ?_⟩, ?_, hbf, ?_⟩
  · exact (hcg'.set hx (Bs.own hown5) hF5).keeps hk hkF
  · exact (hbs.keep hb).keepsN hk (fun hl ad had e => hbf hl ad had (hkF _ e))
  · exact (bt hbw hb (Nat.le_refl _)).setCell (p := ⟨g, k * 2 + 1, none⟩) (by show w.heap.size ≤ g; omega) _

set_option maxRecDepth 100000 in
set_option maxHeartbeats 12800000 in
theorem strip_deep (fn exc : Int) (code level : Int) (more : Bool) (next : Int) (data : List UInt8) (objs : List Ob) (da oa : Option Addr) (dc oc : Nat) (w : World) (hd : Bs w (.slice da data.length dc) data) (ho : Obs w (.slice oa objs.length oc) objs) (ht : tblB fn = false)
    (hs1 : data.length ≤ 1000) (hs2 : objs.length ≤ 1000) (hs3 : Hid (∀ (i : Nat) (x : Ob), objs[i]? = some x → x.val.length ≤ 1000)) :
    Calls Try.prog 12 #[.agg #[.int .i64 1, .int .i64 fn, .int .i64 exc, .slice da data.length dc, .int .i64 code, .int .i64 level, .bool more, .int .i64 next, .slice oa objs.length oc]] w (OcPost w (Oc.strip ⟨1, ⟨fn, exc, data, code, level, more, next, objs⟩⟩)) := by
  have HE := hid (Oc.strip_all (v := 1) (r := ⟨fn, exc, data, code, level, more, next, objs⟩) rfl ht)
  have HT : Hid (∀ W, Calls Try.prog 41 #[.int .i64 fn] W fun r w' => r = .returned (.bool false) ∧ W = w') := fun W => by rw [← ht]; exact isTable_any _ _
  have HD := hid hd
  have HO := hid ho
  obtain ⟨hA, hB, hC⟩ := heap3 w (.cells #[.int .i64 1, .int .i64 fn, .int .i64 exc, .slice da data.length dc, .int .i64 code, .int .i64 level, .bool more, .int .i64 next, .slice oa objs.length oc] 27) (.cells #[.int .i64 0, .int .i64 0, .int .i64 0, .slice none 0 0, .int .i64 0, .int .i64 0, .bool false, .int .i64 0, .slice none 0 0] 27) (.cells #[.int .i64 fn, .int .i64 exc, .slice da data.length dc, .int .i64 code, .int .i64 level, .bool more, .int .i64 next, .slice oa objs.length oc] 25)
  have hbel0 := b3 w (.cells #[.int .i64 1, .int .i64 fn, .int .i64 exc, .slice da data.length dc, .int .i64 code, .int .i64 level, .bool more, .int .i64 next, .slice oa objs.length oc] 27) (.cells #[.int .i64 0, .int .i64 0, .int .i64 0, .slice none 0 0, .int .i64 0, .int .i64 0, .bool false, .int .i64 0, .slice none 0 0] 27) (.cells #[.int .i64 fn, .int .i64 exc, .slice da data.length dc, .int .i64 code, .int .i64 level, .bool more, .int .i64 next, .slice oa objs.length oc] 25)
  have hsz0 : w.heap.size + 3 ≤ (((w.alloc (.cells #[.int .i64 1, .int .i64 fn, .int .i64 exc, .slice da data.length dc, .int .i64 code, .int .i64 level, .bool more, .int .i64 next, .slice oa objs.length oc] 27)).alloc (.cells #[.int .i64 0, .int .i64 0, .int .i64 0, .slice none 0 0, .int .i64 0, .int .i64 0, .bool false, .int .i64 0, .slice none 0 0] 27)).alloc (.cells #[.int .i64 fn, .int .i64 exc, .slice da data.length dc, .int .i64 code, .int .i64 level, .bool more, .int .i64 next, .slice oa objs.length oc] 25)).heap.size := by simp
  have hcl1 := hid (clone_any (.slice da data.length dc) data (((w.alloc (.cells #[.int .i64 1, .int .i64 fn, .int .i64 exc, .slice da data.length dc, .int .i64 code, .int .i64 level, .bool more, .int .i64 next, .slice oa objs.length oc] 27)).alloc (.cells #[.int .i64 0, .int .i64 0, .int .i64 0, .slice none 0 0, .int .i64 0, .int .i64 0, .bool false, .int .i64 0, .slice none 0 0] 27)).alloc (.cells #[.int .i64 fn, .int .i64 exc, .slice da data.length dc, .int .i64 code, .int .i64 level, .bool more, .int .i64 next, .slice oa objs.length oc] 25)) (HD.out.keep hbel0) (by omega))
  have hA' := hid hA
  have hB' := hid hB
  have hC' := hid hC
  have hbel0' := hid hbel0
  clear hd ho hA hB hC ht
  go_enter Try.func12, Try.ntmps12
  go_wp2_with (first | (go_at_call 41; (with_reducible refine (HT.out _).mono ?_); rintro r w0 ⟨rfl, rfl⟩))
  refine hcl1.out.mono ?_
  rintro r w1 ⟨v1, rfl, hown1, hbel1⟩
  obtain ⟨a1, c1, rfl⟩ := own_slice hown1
  have gA : w1.heap[w.heap.size]? = some (.cells #[.int .i64 1, .int .i64 fn, .int .i64 exc, .slice da data.length dc, .int .i64 code, .int .i64 level, .bool more, .int .i64 next, .slice oa objs.length oc] 27) := by rw [hbel1.block _ (by omega)]; exact hA'.out
  have gB : w1.heap[w.heap.size + 1]? = some (.cells #[.int .i64 0, .int .i64 0, .int .i64 0, .slice none 0 0, .int .i64 0, .int .i64 0, .bool false, .int .i64 0, .slice none 0 0] 27) := by rw [hbel1.block _ (by omega)]; exact hB'.out
  have gC : w1.heap[w.heap.size + 1 + 1]? = some (.cells #[.int .i64 fn, .int .i64 exc, .slice da data.length dc, .int .i64 code, .int .i64 level, .bool more, .int .i64 next, .slice oa objs.length oc] 25) := by rw [hbel1.block _ (by omega)]; exact hC'.out
  have hbs1 := Bs.own hown1
  have hbw1 := bt hbel0'.out hbel1 (Nat.le_refl _)
  have hsz1 := hbel1.size
  have hf1 := free_heap gC 2
  have hc1 := cell_heap gC 2
  have hf1' := free_heap gC 7
  have hc1' := cell_heap gC 7
  replace hc1 : w1.cell? ⟨w.heap.size + 1 + 1, 2, none⟩ = some (.slice da data.length dc) := hc1
  replace hc1' : w1.cell? ⟨w.heap.size + 1 + 1, 7, none⟩ = some (.slice oa objs.length oc) := hc1'
  have hbw1' : Below w.heap.size w (w1.setCell ⟨w.heap.size + 1 + 1, 2, none⟩ (.slice a1 data.length c1)) := hbw1.setCell (p := ⟨w.heap.size + 1 + 1, 2, none⟩) (by show w.heap.size ≤ w.heap.size + 1 + 1; omega) _
  have hsz1' : w.heap.size + 3 ≤ (w1.setCell ⟨w.heap.size + 1 + 1, 2, none⟩ (.slice a1 data.length c1)).heap.size := by simp [World.setCell]; omega
  have HCO := hid (cloneO_any (.slice oa objs.length oc) objs w (w1.setCell ⟨w.heap.size + 1 + 1, 2, none⟩ (.slice a1 data.length c1)) HO.out hbw1' (by omega))
  have gA1 : (w1.setCell ⟨w.heap.size + 1 + 1, 2, none⟩ (.slice a1 data.length c1)).heap[w.heap.size]? = some (.cells #[.int .i64 1, .int .i64 fn, .int .i64 exc, .slice da data.length dc, .int .i64 code, .int .i64 level, .bool more, .int .i64 next, .slice oa objs.length oc] 27) := by rw [heap_setO (by omega)]; exact gA
  have gB1 : (w1.setCell ⟨w.heap.size + 1 + 1, 2, none⟩ (.slice a1 data.length c1)).heap[w.heap.size + 1]? = some (.cells #[.int .i64 0, .int .i64 0, .int .i64 0, .slice none 0 0, .int .i64 0, .int .i64 0, .bool false, .int .i64 0, .slice none 0 0] 27) := by rw [heap_setO (by omega)]; exact gB
  have gC1 : (w1.setCell ⟨w.heap.size + 1 + 1, 2, none⟩ (.slice a1 data.length c1)).heap[w.heap.size + 1 + 1]? = some (.cells #[.int .i64 fn, .int .i64 exc, .slice a1 data.length c1, .int .i64 code, .int .i64 level, .bool more, .int .i64 next, .slice oa objs.length oc] 25) := heap_setR gC 2 _
  have hbs1' : Bs (w1.setCell ⟨w.heap.size + 1 + 1, 2, none⟩ (.slice a1 data.length c1)) (.slice a1 data.length c1) data := hbs1.keepsN (F := fun k => k = w.heap.size + 1 + 1) ((Keeps.refl _ _).set _ _ rfl) (fun hl ad had e => by
    have := (hown1.lt ad.block (by rw [had]; rfl)).1
    omega)
  have hid1 := hid hbs1'
  have hid6 : Hid (data ≠ [] → ∀ ad, a1 = some ad → ad.block ≠ w.heap.size + 1 + 1 ∧ ad.block ≠ w.heap.size + 1 ∧ ad.block < (w1.setCell ⟨w.heap.size + 1 + 1, 2, none⟩ (.slice a1 data.length c1)).heap.size) := fun hl ad had => by
    have := (hown1.lt ad.block (by rw [had]; rfl)).1
    exact ⟨by omega, by omega, by simp [World.setCell]; exact (hown1.lt ad.block (by rw [had]; rfl)).2⟩
  have hid2 := hid gA1
  have hid3 := hid gB1
  have hid4 := hid gC1
  have hid5 := hid hbw1'
  clear hbs1 hbs1' gA1 gB1 gC1 gA gB gC hbw1 hbw1' hown1 hbel1 hsz1 hA' hB' hC' hbel0' hcl1 hsz0
  go_wp2_with fail
  refine HCO.out.mono ?_
  rintro r w2 ⟨v2, cs, rfl, hown2, hcs2, hbel2⟩
  obtain ⟨a2, c2, rfl⟩ := own_slice hown2
  have gA2 : w2.heap[w.heap.size]? = some (.cells #[.int .i64 1, .int .i64 fn, .int .i64 exc, .slice da data.length dc, .int .i64 code, .int .i64 level, .bool more, .int .i64 next, .slice oa objs.length oc] 27) := by rw [hbel2.block _ (by omega)]; exact hid2.out
  have gB2 : w2.heap[w.heap.size + 1]? = some (.cells #[.int .i64 0, .int .i64 0, .int .i64 0, .slice none 0 0, .int .i64 0, .int .i64 0, .bool false, .int .i64 0, .slice none 0 0] 27) := by rw [hbel2.block _ (by omega)]; exact hid3.out
  have gC2 : w2.heap[w.heap.size + 1 + 1]? = some (.cells #[.int .i64 fn, .int .i64 exc, .slice a1 data.length c1, .int .i64 code, .int .i64 level, .bool more, .int .i64 next, .slice oa objs.length oc] 25) := by rw [hbel2.block _ (by omega)]; exact hid4.out
  have hf2 : w2.frozen? ⟨w.heap.size + 1 + 1, 7, none⟩ = false := free_heap gC2 7
  have hc2 : w2.cell? ⟨w.heap.size + 1 + 1, 7, none⟩ = some (.slice oa objs.length oc) := cell_heap gC2 7
  have hst : DeepRel w (w2.setCell ⟨w.heap.size + 1 + 1, 7, none⟩ (.slice a2 objs.length c2)) (.cells #[.int .i64 1, .int .i64 fn, .int .i64 exc, .slice da data.length dc, .int .i64 code, .int .i64 level, .bool more, .int .i64 next, .slice oa objs.length oc] 27) (.cells #[.int .i64 0, .int .i64 0, .int .i64 0, .slice none 0 0, .int .i64 0, .int .i64 0, .bool false, .int .i64 0, .slice none 0 0] 27) (.cells #[.int .i64 fn, .int .i64 exc, .slice a1 data.length c1, .int .i64 code, .int .i64 level, .bool more, .int .i64 next, .slice a2 objs.length c2] 25) (.slice a2 objs.length c2) objs a1 c1 data := by
    have hk : Keeps (fun k => k = w.heap.size + 1 + 1) w2 (w2.setCell ⟨w.heap.size + 1 + 1, 7, none⟩ (.slice a2 objs.length c2)) := (Keeps.refl _ _).set _ _ rfl
    have hne : ∀ k, (Value.slice a2 objs.length c2).ownBlock = some k → ¬ k = w.heap.size + 1 + 1 := fun k hk' e => by
      have := (hown2.lt k hk').1
      omega
    refine ⟨by rw [heap_setO (by omega)]; exact gA2, by rw [heap_setO (by omega)]; exact gB2, heap_setR gC2 7 _, ⟨cs, own_keeps (own_lower hown2 (by omega)) hk hne, ?_⟩, ?_, ?_, ?_⟩
    · have h1 : Below w.heap.size w w2 := bt hid5.out hbel2 (Nat.le_refl _)
      have h2 : ObCg (DeepF w (.slice a2 objs.length c2)) w2 cs objs := ObCg.of hcs2 h1 (fun k hk' hF => by
        rcases hF with h | h | h
        · have := (hown2.lt k h).1; omega
        · omega
        · omega)
      exact h2.keeps hk (fun k hk' => .inr (.inr hk'))
    · exact (hid1.out.keep hbel2).keepsN hk (fun hl ad had e => (hid6.out hl ad had).1 e)
    · intro hl ad had hF
      obtain ⟨q1, q2, q3⟩ := hid6.out hl ad had
      rcases hF with e | e | e
      · have := (hown2.lt _ e).1; omega
      · exact q2 e
      · exact q1 e
    · exact (bt hid5.out hbel2 (Nat.le_refl _)).setCell (p := ⟨w.heap.size + 1 + 1, 7, none⟩) (by show w.heap.size ≤ w.heap.size + 1 + 1; omega) _
  replace hst := hid hst
  clear hid1 hid2 hid3 hid4 hid5 hid6 gA2 gB2 gC2 hcs2 hbel2 hown2 hsz1' HCO
  go_wp2_with fail
  clear hf2 hc2
  go_loopw [18] (fun idx wr => ∃ k : Nat, k ≤ objs.length ∧ idx = .int .i64 k ∧ Hid (DeepRel w wr (.cells #[.int .i64 1, .int .i64 fn, .int .i64 exc, .slice da data.length dc, .int .i64 code, .int .i64 level, .bool more, .int .i64 next, .slice oa objs.length oc] 27) (.cells #[.int .i64 0, .int .i64 0, .int .i64 0, .slice none 0 0, .int .i64 0, .int .i64 0, .bool false, .int .i64 0, .slice none 0 0] 27) (.cells #[.int .i64 fn, .int .i64 exc, .slice a1 data.length c1, .int .i64 code, .int .i64 level, .bool more, .int .i64 next, .slice a2 objs.length c2] 25) (.slice a2 objs.length c2) objs a1 c1 data)) (fun idx _ => objs.length - (intOf idx).toNat)
  case atStart => exact ⟨0, Nat.zero_le _, rfl, hst.out⟩
  case round =>
    clear hst
    obtain ⟨k, hk, rfl, hrel⟩ := hrel
    by_cases hlt : k < objs.length
    · obtain ⟨x, hgx⟩ := get_some rfl hlt
      obtain ⟨gA, gB, gC, ⟨cs', hown, hcg⟩, hbs, hbf, hbw⟩ := hrel.out
      obtain ⟨g, cap, hv, hg, hnc, hcm⟩ := own_shapeR hown (by omega)
      simp only [Value.slice.injEq, true_and] at hv
      obtain ⟨rfl, rfl⟩ := hv
      obtain ⟨_, xa, xc, hx2, hxb, _⟩ := hcg.2 k x hgx
      have e1 : wr.cell? ⟨w.heap.size + 1 + 1, 7, none⟩ = some (.slice (some ⟨g, 0, none⟩) objs.length c2) := cell_heap gC 7
      have e2 : wr.cell? ⟨g, k * 2 + 1, none⟩ = some (.slice xa x.val.length xc) := by rw [hown.cellAt _ (by omega)]; exact hx2
      have e3 : wr.frozen? ⟨g, k * 2 + 1, none⟩ = false := hown.frozenAt _
      have hgl := (hown.lt g rfl).2
      have hxl := hs3.out k x hgx
      have HCL : Hid (∀ W, Below wr.heap.size wr W → Calls Try.prog 42 #[.slice xa x.val.length xc] W fun r w' => ∃ v', r = .returned v' ∧ w'.ownsRow W.heap.size 5 1 v' x.val.length (u8s x.val) ∧ Below W.heap.size W w') := fun W hW => clone_any _ x.val W (hxb.keep hW) (by omega)
      have HX := hid hgx
      clear gA gB gC hown hcg hbs hbf hbw hgx hx2 hxb
      have hkl : (k : Int) < (objs.length : Int) := by omega
      have hk0 : (0 : Int) ≤ (k : Int) := Int.natCast_nonneg _
      go_wp2_with fail
      go_region_with (go_at_call 42; refine (HCL.out _ (Below.refl _ _).drew).mono ?_; rintro r w5 ⟨v5, rfl, hown5, hbel5⟩; obtain ⟨a5, c5, rfl⟩ := own_slice hown5; have hf5 : w5.frozen? ⟨g, k * 2 + 1, none⟩ = false := (by rw [hbel5.frozen (p := ⟨g, k * 2 + 1, none⟩) hgl]; exact e3); have e1' : w5.cell? ⟨w.heap.size + 1 + 1, 7, none⟩ = some (.slice (some ⟨g, 0, none⟩) objs.length c2) := cell_keep (w1 := wr.drew) hbel5 e1; have e2' : w5.cell? ⟨g, k * 2 + 1, none⟩ = some (.slice xa x.val.length xc) := cell_keep (w1 := wr.drew) hbel5 e2)
      all_goals
        have HN : Hid (DeepRel w (w5.setCell ⟨g, k * 2 + 1, none⟩ (.slice a5 x.val.length c5)) (.cells #[.int .i64 1, .int .i64 fn, .int .i64 exc, .slice da data.length dc, .int .i64 code, .int .i64 level, .bool more, .int .i64 next, .slice oa objs.length oc] 27) (.cells #[.int .i64 0, .int .i64 0, .int .i64 0, .slice none 0 0, .int .i64 0, .int .i64 0, .bool false, .int .i64 0, .slice none 0 0] 27) (.cells #[.int .i64 fn, .int .i64 exc, .slice a1 data.length c1, .int .i64 code, .int .i64 level, .bool more, .int .i64 next, .slice (some ⟨g, 0, none⟩) objs.length c2] 25) (.slice (some ⟨g, 0, none⟩) objs.length c2) objs a1 c1 data) := hrel.out.step (w5 := w5) (show Below wr.heap.size wr w5 from (Below.refl _ _).drew.trans hbel5) HX.out hown5
        go_wp2
        go_roundw
        case rel => exact ⟨k + 1, by omega, by go_num, HN.out⟩
        case measure => simp [intOf]; omega
    · obtain ⟨gA, gB, gC, ⟨cs', hown, hcg⟩, hbs, hbf, hbw⟩ := hrel.out
      have pA0 : wr.cell? ⟨w.heap.size, 0, none⟩ = some (.int .i64 1) := cell_heap gA 0
      have pC0 : wr.cell? ⟨w.heap.size + 1 + 1, 0, none⟩ = some (.int .i64 fn) := cell_heap gC 0
      have pC1 : wr.cell? ⟨w.heap.size + 1 + 1, 1, none⟩ = some (.int .i64 exc) := cell_heap gC 1
      have pC2 : wr.cell? ⟨w.heap.size + 1 + 1, 2, none⟩ = some (.slice a1 data.length c1) := cell_heap gC 2
      have pC3 : wr.cell? ⟨w.heap.size + 1 + 1, 3, none⟩ = some (.int .i64 code) := cell_heap gC 3
      have pC4 : wr.cell? ⟨w.heap.size + 1 + 1, 4, none⟩ = some (.int .i64 level) := cell_heap gC 4
      have pC5 : wr.cell? ⟨w.heap.size + 1 + 1, 5, none⟩ = some (.bool more) := cell_heap gC 5
      have pC6 : wr.cell? ⟨w.heap.size + 1 + 1, 6, none⟩ = some (.int .i64 next) := cell_heap gC 6
      have pC7 : wr.cell? ⟨w.heap.size + 1 + 1, 7, none⟩ = some (.slice a2 objs.length c2) := cell_heap gC 7
      have pB0 : wr.cell? ⟨w.heap.size + 1, 0, none⟩ = some (.int .i64 0) := cell_heap gB 0
      have pF0 : wr.frozen? ⟨w.heap.size + 1, 0, none⟩ = false := free_heap gB 0
      have pB1 : wr.cell? ⟨w.heap.size + 1, 1, none⟩ = some (.int .i64 0) := cell_heap gB 1
      have pF1 : wr.frozen? ⟨w.heap.size + 1, 1, none⟩ = false := free_heap gB 1
      have pB2 : wr.cell? ⟨w.heap.size + 1, 2, none⟩ = some (.int .i64 0) := cell_heap gB 2
      have pF2 : wr.frozen? ⟨w.heap.size + 1, 2, none⟩ = false := free_heap gB 2
      have pB3 : wr.cell? ⟨w.heap.size + 1, 3, none⟩ = some (.slice none 0 0) := cell_heap gB 3
      have pF3 : wr.frozen? ⟨w.heap.size + 1, 3, none⟩ = false := free_heap gB 3
      have pB4 : wr.cell? ⟨w.heap.size + 1, 4, none⟩ = some (.int .i64 0) := cell_heap gB 4
      have pF4 : wr.frozen? ⟨w.heap.size + 1, 4, none⟩ = false := free_heap gB 4
      have pB5 : wr.cell? ⟨w.heap.size + 1, 5, none⟩ = some (.int .i64 0) := cell_heap gB 5
      have pF5 : wr.frozen? ⟨w.heap.size + 1, 5, none⟩ = false := free_heap gB 5
      have pB6 : wr.cell? ⟨w.heap.size + 1, 6, none⟩ = some (.bool false) := cell_heap gB 6
      have pF6 : wr.frozen? ⟨w.heap.size + 1, 6, none⟩ = false := free_heap gB 6
      have pB7 : wr.cell? ⟨w.heap.size + 1, 7, none⟩ = some (.int .i64 0) := cell_heap gB 7
      have pF7 : wr.frozen? ⟨w.heap.size + 1, 7, none⟩ = false := free_heap gB 7
      have pB8 : wr.cell? ⟨w.heap.size + 1, 8, none⟩ = some (.slice none 0 0) := cell_heap gB 8
      have pF8 : wr.frozen? ⟨w.heap.size + 1, 8, none⟩ = false := free_heap gB 8
      have HR := hid hrel.out
      clear gA gB gC hown hcg hbs hbf hbw hrel
      go_wp2
      have hk : Keeps (fun k => k = w.heap.size + 1) wr (((((((((wr.setCell ⟨w.heap.size + 1, 0, none⟩ (.int .i64 1)).setCell ⟨w.heap.size + 1, 1, none⟩ (.int .i64 fn)).setCell ⟨w.heap.size + 1, 2, none⟩ (.int .i64 exc)).setCell ⟨w.heap.size + 1, 3, none⟩ (.slice a1 data.length c1)).setCell ⟨w.heap.size + 1, 4, none⟩ (.int .i64 code)).setCell ⟨w.heap.size + 1, 5, none⟩ (.int .i64 level)).setCell ⟨w.heap.size + 1, 6, none⟩ (.bool more)).setCell ⟨w.heap.size + 1, 7, none⟩ (.int .i64 next)).setCell ⟨w.heap.size + 1, 8, none⟩ (.slice a2 objs.length c2)) := by
        repeat (refine Keeps.set ?_ _ _ rfl)
        exact Keeps.refl _ _
      obtain ⟨_, gB', _, ⟨cs', hown, hcg⟩, hbs, hbf, hbw⟩ := HR.out
      have hne : ∀ k, (Value.slice a2 objs.length c2).ownBlock = some k → ¬ k = w.heap.size + 1 := fun k hk' e => by
        have := (hown.lt k hk').1
        omega
      have r1 : Bs (((((((((wr.setCell ⟨w.heap.size + 1, 0, none⟩ (.int .i64 1)).setCell ⟨w.heap.size + 1, 1, none⟩ (.int .i64 fn)).setCell ⟨w.heap.size + 1, 2, none⟩ (.int .i64 exc)).setCell ⟨w.heap.size + 1, 3, none⟩ (.slice a1 data.length c1)).setCell ⟨w.heap.size + 1, 4, none⟩ (.int .i64 code)).setCell ⟨w.heap.size + 1, 5, none⟩ (.int .i64 level)).setCell ⟨w.heap.size + 1, 6, none⟩ (.bool more)).setCell ⟨w.heap.size + 1, 7, none⟩ (.int .i64 next)).setCell ⟨w.heap.size + 1, 8, none⟩ (.slice a2 objs.length c2)) (.slice a1 data.length c1) data := hbs.keepsN hk (fun hl ad had e => hbf hl ad had (.inr (.inl e)))
      have r2 : Obs (((((((((wr.setCell ⟨w.heap.size + 1, 0, none⟩ (.int .i64 1)).setCell ⟨w.heap.size + 1, 1, none⟩ (.int .i64 fn)).setCell ⟨w.heap.size + 1, 2, none⟩ (.int .i64 exc)).setCell ⟨w.heap.size + 1, 3, none⟩ (.slice a1 data.length c1)).setCell ⟨w.heap.size + 1, 4, none⟩ (.int .i64 code)).setCell ⟨w.heap.size + 1, 5, none⟩ (.int .i64 level)).setCell ⟨w.heap.size + 1, 6, none⟩ (.bool more)).setCell ⟨w.heap.size + 1, 7, none⟩ (.int .i64 next)).setCell ⟨w.heap.size + 1, 8, none⟩ (.slice a2 objs.length c2)) (.slice a2 objs.length c2) objs := Obs.of_own (own_keeps hown hk hne) (hcg.keeps hk (fun k e => .inr (.inl e))).cs rfl
      have r3 : Below w.heap.size w (((((((((wr.setCell ⟨w.heap.size + 1, 0, none⟩ (.int .i64 1)).setCell ⟨w.heap.size + 1, 1, none⟩ (.int .i64 fn)).setCell ⟨w.heap.size + 1, 2, none⟩ (.int .i64 exc)).setCell ⟨w.heap.size + 1, 3, none⟩ (.slice a1 data.length c1)).setCell ⟨w.heap.size + 1, 4, none⟩ (.int .i64 code)).setCell ⟨w.heap.size + 1, 5, none⟩ (.int .i64 level)).setCell ⟨w.heap.size + 1, 6, none⟩ (.bool more)).setCell ⟨w.heap.size + 1, 7, none⟩ (.int .i64 next)).setCell ⟨w.heap.size + 1, 8, none⟩ (.slice a2 objs.length c2)) := by
        repeat (refine Below.setCell ?_ (by show w.heap.size ≤ w.heap.size + 1; omega) _)
        exact hbw
      have gW : (((((((((wr.setCell ⟨w.heap.size + 1, 0, none⟩ (.int .i64 1)).setCell ⟨w.heap.size + 1, 1, none⟩ (.int .i64 fn)).setCell ⟨w.heap.size + 1, 2, none⟩ (.int .i64 exc)).setCell ⟨w.heap.size + 1, 3, none⟩ (.slice a1 data.length c1)).setCell ⟨w.heap.size + 1, 4, none⟩ (.int .i64 code)).setCell ⟨w.heap.size + 1, 5, none⟩ (.int .i64 level)).setCell ⟨w.heap.size + 1, 6, none⟩ (.bool more)).setCell ⟨w.heap.size + 1, 7, none⟩ (.int .i64 next)).setCell ⟨w.heap.size + 1, 8, none⟩ (.slice a2 objs.length c2)).heap[w.heap.size + 1]? = some (.cells #[.int .i64 1, .int .i64 fn, .int .i64 exc, .slice a1 data.length c1, .int .i64 code, .int .i64 level, .bool more, .int .i64 next, .slice a2 objs.length c2] 27 (0, 0)) := heap_setR (heap_setR (heap_setR (heap_setR (heap_setR (heap_setR (heap_setR (heap_setR (heap_setR gB' 0 _) 1 _) 2 _) 3 _) 4 _) 5 _) 6 _) 7 _) 8 _
      have q0 : (((((((((wr.setCell ⟨w.heap.size + 1, 0, none⟩ (.int .i64 1)).setCell ⟨w.heap.size + 1, 1, none⟩ (.int .i64 fn)).setCell ⟨w.heap.size + 1, 2, none⟩ (.int .i64 exc)).setCell ⟨w.heap.size + 1, 3, none⟩ (.slice a1 data.length c1)).setCell ⟨w.heap.size + 1, 4, none⟩ (.int .i64 code)).setCell ⟨w.heap.size + 1, 5, none⟩ (.int .i64 level)).setCell ⟨w.heap.size + 1, 6, none⟩ (.bool more)).setCell ⟨w.heap.size + 1, 7, none⟩ (.int .i64 next)).setCell ⟨w.heap.size + 1, 8, none⟩ (.slice a2 objs.length c2)).cell? ⟨w.heap.size + 1, 0, none⟩ = some (.int .i64 1) := cell_heap gW 0
      have q1 : (((((((((wr.setCell ⟨w.heap.size + 1, 0, none⟩ (.int .i64 1)).setCell ⟨w.heap.size + 1, 1, none⟩ (.int .i64 fn)).setCell ⟨w.heap.size + 1, 2, none⟩ (.int .i64 exc)).setCell ⟨w.heap.size + 1, 3, none⟩ (.slice a1 data.length c1)).setCell ⟨w.heap.size + 1, 4, none⟩ (.int .i64 code)).setCell ⟨w.heap.size + 1, 5, none⟩ (.int .i64 level)).setCell ⟨w.heap.size + 1, 6, none⟩ (.bool more)).setCell ⟨w.heap.size + 1, 7, none⟩ (.int .i64 next)).setCell ⟨w.heap.size + 1, 8, none⟩ (.slice a2 objs.length c2)).cell? ⟨w.heap.size + 1, 1, none⟩ = some (.int .i64 fn) := cell_heap gW 1
      have q2 : (((((((((wr.setCell ⟨w.heap.size + 1, 0, none⟩ (.int .i64 1)).setCell ⟨w.heap.size + 1, 1, none⟩ (.int .i64 fn)).setCell ⟨w.heap.size + 1, 2, none⟩ (.int .i64 exc)).setCell ⟨w.heap.size + 1, 3, none⟩ (.slice a1 data.length c1)).setCell ⟨w.heap.size + 1, 4, none⟩ (.int .i64 code)).setCell ⟨w.heap.size + 1, 5, none⟩ (.int .i64 level)).setCell ⟨w.heap.size + 1, 6, none⟩ (.bool more)).setCell ⟨w.heap.size + 1, 7, none⟩ (.int .i64 next)).setCell ⟨w.heap.size + 1, 8, none⟩ (.slice a2 objs.length c2)).cell? ⟨w.heap.size + 1, 2, none⟩ = some (.int .i64 exc) := cell_heap gW 2
      have q3 : (((((((((wr.setCell ⟨w.heap.size + 1, 0, none⟩ (.int .i64 1)).setCell ⟨w.heap.size + 1, 1, none⟩ (.int .i64 fn)).setCell ⟨w.heap.size + 1, 2, none⟩ (.int .i64 exc)).setCell ⟨w.heap.size + 1, 3, none⟩ (.slice a1 data.length c1)).setCell ⟨w.heap.size + 1, 4, none⟩ (.int .i64 code)).setCell ⟨w.heap.size + 1, 5, none⟩ (.int .i64 level)).setCell ⟨w.heap.size + 1, 6, none⟩ (.bool more)).setCell ⟨w.heap.size + 1, 7, none⟩ (.int .i64 next)).setCell ⟨w.heap.size + 1, 8, none⟩ (.slice a2 objs.length c2)).cell? ⟨w.heap.size + 1, 3, none⟩ = some (.slice a1 data.length c1) := cell_heap gW 3
      have q4 : (((((((((wr.setCell ⟨w.heap.size + 1, 0, none⟩ (.int .i64 1)).setCell ⟨w.heap.size + 1, 1, none⟩ (.int .i64 fn)).setCell ⟨w.heap.size + 1, 2, none⟩ (.int .i64 exc)).setCell ⟨w.heap.size + 1, 3, none⟩ (.slice a1 data.length c1)).setCell ⟨w.heap.size + 1, 4, none⟩ (.int .i64 code)).setCell ⟨w.heap.size + 1, 5, none⟩ (.int .i64 level)).setCell ⟨w.heap.size + 1, 6, none⟩ (.bool more)).setCell ⟨w.heap.size + 1, 7, none⟩ (.int .i64 next)).setCell ⟨w.heap.size + 1, 8, none⟩ (.slice a2 objs.length c2)).cell? ⟨w.heap.size + 1, 4, none⟩ = some (.int .i64 code) := cell_heap gW 4
      have q5 : (((((((((wr.setCell ⟨w.heap.size + 1, 0, none⟩ (.int .i64 1)).setCell ⟨w.heap.size + 1, 1, none⟩ (.int .i64 fn)).setCell ⟨w.heap.size + 1, 2, none⟩ (.int .i64 exc)).setCell ⟨w.heap.size + 1, 3, none⟩ (.slice a1 data.length c1)).setCell ⟨w.heap.size + 1, 4, none⟩ (.int .i64 code)).setCell ⟨w.heap.size + 1, 5, none⟩ (.int .i64 level)).setCell ⟨w.heap.size + 1, 6, none⟩ (.bool more)).setCell ⟨w.heap.size + 1, 7, none⟩ (.int .i64 next)).setCell ⟨w.heap.size + 1, 8, none⟩ (.slice a2 objs.length c2)).cell? ⟨w.heap.size + 1, 5, none⟩ = some (.int .i64 level) := cell_heap gW 5
      have q6 : (((((((((wr.setCell ⟨w.heap.size + 1, 0, none⟩ (.int .i64 1)).setCell ⟨w.heap.size + 1, 1, none⟩ (.int .i64 fn)).setCell ⟨w.heap.size + 1, 2, none⟩ (.int .i64 exc)).setCell ⟨w.heap.size + 1, 3, none⟩ (.slice a1 data.length c1)).setCell ⟨w.heap.size + 1, 4, none⟩ (.int .i64 code)).setCell ⟨w.heap.size + 1, 5, none⟩ (.int .i64 level)).setCell ⟨w.heap.size + 1, 6, none⟩ (.bool more)).setCell ⟨w.heap.size + 1, 7, none⟩ (.int .i64 next)).setCell ⟨w.heap.size + 1, 8, none⟩ (.slice a2 objs.length c2)).cell? ⟨w.heap.size + 1, 6, none⟩ = some (.bool more) := cell_heap gW 6
      have q7 : (((((((((wr.setCell ⟨w.heap.size + 1, 0, none⟩ (.int .i64 1)).setCell ⟨w.heap.size + 1, 1, none⟩ (.int .i64 fn)).setCell ⟨w.heap.size + 1, 2, none⟩ (.int .i64 exc)).setCell ⟨w.heap.size + 1, 3, none⟩ (.slice a1 data.length c1)).setCell ⟨w.heap.size + 1, 4, none⟩ (.int .i64 code)).setCell ⟨w.heap.size + 1, 5, none⟩ (.int .i64 level)).setCell ⟨w.heap.size + 1, 6, none⟩ (.bool more)).setCell ⟨w.heap.size + 1, 7, none⟩ (.int .i64 next)).setCell ⟨w.heap.size + 1, 8, none⟩ (.slice a2 objs.length c2)).cell? ⟨w.heap.size + 1, 7, none⟩ = some (.int .i64 next) := cell_heap gW 7
      have q8 : (((((((((wr.setCell ⟨w.heap.size + 1, 0, none⟩ (.int .i64 1)).setCell ⟨w.heap.size + 1, 1, none⟩ (.int .i64 fn)).setCell ⟨w.heap.size + 1, 2, none⟩ (.int .i64 exc)).setCell ⟨w.heap.size + 1, 3, none⟩ (.slice a1 data.length c1)).setCell ⟨w.heap.size + 1, 4, none⟩ (.int .i64 code)).setCell ⟨w.heap.size + 1, 5, none⟩ (.int .i64 level)).setCell ⟨w.heap.size + 1, 6, none⟩ (.bool more)).setCell ⟨w.heap.size + 1, 7, none⟩ (.int .i64 next)).setCell ⟨w.heap.size + 1, 8, none⟩ (.slice a2 objs.length c2)).cell? ⟨w.heap.size + 1, 8, none⟩ = some (.slice a2 objs.length c2) := cell_heap gW 8
      clear pA0 pC0 pC1 pC2 pC3 pC4 pC5 pC6 pC7 pB0 pB1 pB2 pB3 pB4 pB5 pB6 pB7 pB8 pF0 pF1 pF2 pF3 pF4 pF5 pF6 pF7 pF8 gW hk
      generalize (((((((((wr.setCell ⟨w.heap.size + 1, 0, none⟩ (.int .i64 1)).setCell ⟨w.heap.size + 1, 1, none⟩ (.int .i64 fn)).setCell ⟨w.heap.size + 1, 2, none⟩ (.int .i64 exc)).setCell ⟨w.heap.size + 1, 3, none⟩ (.slice a1 data.length c1)).setCell ⟨w.heap.size + 1, 4, none⟩ (.int .i64 code)).setCell ⟨w.heap.size + 1, 5, none⟩ (.int .i64 level)).setCell ⟨w.heap.size + 1, 6, none⟩ (.bool more)).setCell ⟨w.heap.size + 1, 7, none⟩ (.int .i64 next)).setCell ⟨w.heap.size + 1, 8, none⟩ (.slice a2 objs.length c2)) = WF at *
      refine bodyPost_ret (v := .agg #[.int .i64 1, .int .i64 fn, .int .i64 exc, .slice a1 data.length c1, .int .i64 code, .int .i64 level, .bool more, .int .i64 next, .slice a2 objs.length c2]) ?_ rfl ?_
      · simp [results, Try.results12, go_sem, q0, q1, q2, q3, q4, q5, q6, q7, q8]
      · rw [HE.out]
        exact ⟨_, rfl, ⟨_, _, _, _, rfl, r1, r2⟩, r3⟩

end Go.Proofs.Ytlaaoifjiogogaa

/-
The contract of record.appendOutcome at short outcomes, and of record.Encode over any contract of appendOutcome.
-/
namespace Go.Proofs.Ytlaaoifjiogogaa
open Go.RowKit

/-- What a call that appends leaves. -/
def AppPost (base : Nat) (w : World) (l : List UInt8) (r : Ending) (w' : World) : Prop := ∃ a c, r = .returned (.slice a l.length c) ∧ w'.ownsRow base 5 1 (.slice a l.length c) l.length (u8s l) ∧ Below base w w'

theorem bs1 (W : World) (n : Nat) (x : Int) (h1 : 0 ≤ x) (h2 : x ≤ 255) (hn : n = W.heap.size) : Bs (W.alloc (.cells #[.int .u8 x] 5)) (.slice (some ⟨n, 0, none⟩) 1 1) [byteI x] := by
  subst hn
  refine Bs.mk (l := [byteI x]) (Nat.le_refl 1) (by unfold maxLen; decide) fun i hi => ?_
  have : i = 0 := by simp at hi; omega
  subst this
  rw [World.cell?_alloc_at _ _ _ _ rfl]
  show some (Value.int .u8 x) = some (.int .u8 ((byteI x).toNat : Int))
  rw [byteI_val h1 h2]
theorem bs2 (W : World) (n : Nat) (x y : Int) (h1 : 0 ≤ x) (h2 : x ≤ 255) (h3 : 0 ≤ y) (h4 : y ≤ 255) (hn : n = W.heap.size) : Bs (W.alloc (.cells #[.int .u8 x, .int .u8 y] 5)) (.slice (some ⟨n, 0, none⟩) 2 2) [byteI x, byteI y] := by
  subst hn
  refine Bs.mk (l := [byteI x, byteI y]) (Nat.le_refl 2) (by unfold maxLen; decide) fun i hi => ?_
  rw [World.cell?_alloc_at _ _ _ _ rfl]
  match i, hi with
  | 0, _ => show some (Value.int .u8 x) = some (.int .u8 ((byteI x).toNat : Int)); rw [byteI_val h1 h2]
  | 1, _ => show some (Value.int .u8 y) = some (.int .u8 ((byteI y).toNat : Int)); rw [byteI_val h3 h4]

set_option maxRecDepth 100000 in
set_option maxHeartbeats 3200000 in
theorem appOc_silent (v fn exc : Int) (code level : Int) (more : Bool) (next : Int) (da oa : Option Addr) (dn dc on oc : Nat) (ba : Option Addr) (bc : Nat) (bs : List UInt8) (base : Nat) (w : World) (hown : w.ownsRow base 5 1 (.slice ba bs.length bc) bs.length (u8s bs)) (hbase : base ≤ w.heap.size) (hlen : bs.length ≤ 1000000) (hv : v = 3 ∨ v = 4 ∨ v = 5) :
    Calls Try.prog 49 #[.slice ba bs.length bc, .agg #[.int .i64 v, .int .i64 fn, .int .i64 exc, .slice da dn dc, .int .i64 code, .int .i64 level, .bool more, .int .i64 next, .slice oa on oc]] w (AppPost base w (bs ++ [byteI v])) := by
  obtain ⟨i5, hi, hz0, hz1, hz2⟩ := info_parts infoB
  have hv1 : 0 ≤ v := by omega
  have hv2 : v ≤ 255 := by omega
  have t1 : (v == 2) = false := by rw [beq_eq_false_iff_ne]; omega
  have t2 : (v != 1) = true := by rw [bne_iff_ne]; omega
  have hw8 : IntKind.u8.wrap v = v := by rcases hv with rfl | rfl | rfl <;> rfl
  have HO := hid (((hown.alloc (.cells #[.int .i64 v, .int .i64 fn, .int .i64 exc, .slice da dn dc, .int .i64 code, .int .i64 level, .bool more, .int .i64 next, .slice oa on oc] 27)).alloc (.cells #[.int .u8 v] 5)))
  have HB := hid (bs1 (w.alloc (.cells #[.int .i64 v, .int .i64 fn, .int .i64 exc, .slice da dn dc, .int .i64 code, .int .i64 level, .bool more, .int .i64 next, .slice oa on oc] 27)) (w.heap.size + 1) v hv1 hv2 (by simp))
  have hbel : Below base w ((w.alloc (.cells #[.int .i64 v, .int .i64 fn, .int .i64 exc, .slice da dn dc, .int .i64 code, .int .i64 level, .bool more, .int .i64 next, .slice oa on oc] 27)).alloc (.cells #[.int .u8 v] 5)) := (b2 w _ _).mono hbase
  have HBE := hid hbel
  have HLT := hid hown.lt
  have hbox : ((w.alloc (.cells #[.int .i64 v, .int .i64 fn, .int .i64 exc, .slice da dn dc, .int .i64 code, .int .i64 level, .bool more, .int .i64 next, .slice oa on oc] 27)).alloc (.cells #[.int .u8 v] 5)).heap[w.heap.size]? = some (.cells #[.int .i64 v, .int .i64 fn, .int .i64 exc, .slice da dn dc, .int .i64 code, .int .i64 level, .bool more, .int .i64 next, .slice oa on oc] 27) := by
    rw [Below.heap_alloc _ _ _ (by simp)]; exact heap_alloc_new _ _
  have HBX := hid hbox
  clear hown hbel hv hbox
  go_enter Try.func49, Try.ntmps49
  go_wp2_with (at_builtin; refine wpList_app rfl _ _ 22 rfl base 5 i5 Try.underlying22 hi hz0 hz1 hz2 (.slice ba bs.length bc) bs rfl HO.out _ [byteI v] rfl HB.out ?c1 ?c2 ?c3)
  case c1 => simp; omega
  case c2 => simp; omega
  case c3 =>
    intro v1 w2 hown2 hgr2
    have hb2 := HBE.out.grown hgr2 (by simp; omega) (fun k hk => (HLT.out k hk).1)
    have hg0 : w2.heap[w.heap.size]? = some (.cells #[.int .i64 v, .int .i64 fn, .int .i64 exc, .slice da dn dc, .int .i64 code, .int .i64 level, .bool more, .int .i64 next, .slice oa on oc] 27) := by
      rw [hgr2.block _ (by simp; omega) (fun e => by have := (HLT.out _ e.symm).2; omega)]; exact HBX.out
    have p0 : w2.cell? ⟨w.heap.size, 0, none⟩ = some (.int .i64 v) := cell_heap hg0 0
    clear hg0
    obtain ⟨a1, c1, rfl⟩ := own_slice hown2
    have HX := hid hown2
    have HY := hid hb2
    have hll := hid (show (bs ++ [byteI v]).length = bs.length + 1 by simp)
    clear hown2 hgr2 hb2
    go_wp2
    go_ret
    exact ⟨a1, c1, by rw [hll.out]; rfl, by rw [hll.out]; exact HX.out, HY.out⟩

set_option maxRecDepth 100000 in
set_option maxHeartbeats 6400000 in
theorem appOc_exc (fn exc : Int) (code level : Int) (more : Bool) (next : Int) (da oa : Option Addr) (dn dc on oc : Nat) (ba : Option Addr) (bc : Nat) (bs : List UInt8) (base : Nat) (w : World) (hown : w.ownsRow base 5 1 (.slice ba bs.length bc) bs.length (u8s bs)) (hbase : base ≤ w.heap.size) (hlen : bs.length ≤ 1000000) (f1 : 0 ≤ fn) (f2 : fn ≤ 255) (e1 : 0 ≤ exc) (e2 : exc ≤ 255) :
    Calls Try.prog 49 #[.slice ba bs.length bc, .agg #[.int .i64 2, .int .i64 fn, .int .i64 exc, .slice da dn dc, .int .i64 code, .int .i64 level, .bool more, .int .i64 next, .slice oa on oc]] w (AppPost base w (bs ++ [byteI 2, byteI fn, byteI exc])) := by
  obtain ⟨i5, hi, hz0, hz1, hz2⟩ := info_parts infoB
  have HO := hid (((hown.alloc (.cells #[.int .i64 2, .int .i64 fn, .int .i64 exc, .slice da dn dc, .int .i64 code, .int .i64 level, .bool more, .int .i64 next, .slice oa on oc] 27)).alloc (.cells #[.int .u8 2] 5)))
  have HB := hid (bs1 (w.alloc (.cells #[.int .i64 2, .int .i64 fn, .int .i64 exc, .slice da dn dc, .int .i64 code, .int .i64 level, .bool more, .int .i64 next, .slice oa on oc] 27)) (w.heap.size + 1) 2 (by decide) (by decide) (by simp))
  have hbel : Below base w ((w.alloc (.cells #[.int .i64 2, .int .i64 fn, .int .i64 exc, .slice da dn dc, .int .i64 code, .int .i64 level, .bool more, .int .i64 next, .slice oa on oc] 27)).alloc (.cells #[.int .u8 2] 5)) := (b2 w _ _).mono hbase
  have HBE := hid hbel
  have HLT := hid hown.lt
  have hbox : ((w.alloc (.cells #[.int .i64 2, .int .i64 fn, .int .i64 exc, .slice da dn dc, .int .i64 code, .int .i64 level, .bool more, .int .i64 next, .slice oa on oc] 27)).alloc (.cells #[.int .u8 2] 5)).heap[w.heap.size]? = some (.cells #[.int .i64 2, .int .i64 fn, .int .i64 exc, .slice da dn dc, .int .i64 code, .int .i64 level, .bool more, .int .i64 next, .slice oa on oc] 27) := by
    rw [Below.heap_alloc _ _ _ (by simp)]; exact heap_alloc_new _ _
  have HBX := hid hbox
  clear hown hbel hbox
  go_enter Try.func49, Try.ntmps49
  go_wp2_with (at_builtin; refine wpList_app rfl (.tmp 7) (.tmp 11) 22 rfl base 5 i5 Try.underlying22 hi hz0 hz1 hz2 (.slice ba bs.length bc) bs rfl HO.out _ [byteI 2] rfl HB.out ?c1 ?c2 ?c3)
  case c1 => simp; omega
  case c2 => simp; omega
  case c3 =>
    intro v1 w2 hown2 hgr2
    have hb2 := HBE.out.grown hgr2 (by simp; omega) (fun k hk => (HLT.out k hk).1)
    have hg0 : w2.heap[w.heap.size]? = some (.cells #[.int .i64 2, .int .i64 fn, .int .i64 exc, .slice da dn dc, .int .i64 code, .int .i64 level, .bool more, .int .i64 next, .slice oa on oc] 27) := by
      rw [hgr2.block _ (by simp; omega) (fun e => by have := (HLT.out _ e.symm).2; omega)]; exact HBX.out
    have p0 : w2.cell? ⟨w.heap.size, 0, none⟩ = some (.int .i64 2) := cell_heap hg0 0
    have p1 : w2.cell? ⟨w.heap.size, 1, none⟩ = some (.int .i64 fn) := cell_heap hg0 1
    have p2 : w2.cell? ⟨w.heap.size, 2, none⟩ = some (.int .i64 exc) := cell_heap hg0 2
    obtain ⟨a1, c1, rfl⟩ := own_slice hown2
    have hsz2 := hb2.size
    have hw1 : IntKind.u8.wrap fn = fn := by show fn % 256 = fn; omega
    have hw2 : IntKind.u8.wrap exc = exc := by show exc % 256 = exc; omega
    have hown2' : w2.ownsRow base 5 1 (.slice a1 (bs.length + 1) c1) (bs ++ [byteI 2]).length (u8s (bs ++ [byteI 2])) := by
      rw [show (bs ++ [byteI 2]).length = bs.length + 1 by simp]; exact hown2
    have HO2 := hid (hown2'.alloc (.cells #[.int .u8 fn, .int .u8 exc] 5))
    have HL2 := hid hown2.lt
    have HB2 := hid (bs2 w2 w2.heap.size fn exc f1 f2 e1 e2 rfl)
    have HBE2 := hid (hb2.alloc (by omega) (.cells #[.int .u8 fn, .int .u8 exc] 5))
    have hll2 : (bs ++ [byteI 2]).length = bs.length + 1 := by simp
    have HLL := hid hll2
    clear hown2 hown2' hgr2 hb2 hg0 hll2
    go_wp2_with (at_builtin; refine wpList_app rfl (.tmp 17) (.tmp 26) 22 rfl base 5 i5 Try.underlying22 hi hz0 hz1 hz2 (.slice a1 (bs.length + 1) c1) (bs ++ [byteI 2]) rfl HO2.out _ [byteI fn, byteI exc] rfl HB2.out ?d1 ?d2 ?d3)
    case d1 => rw [HLL.out]; simp; omega
    case d2 => simp; omega
    case d3 =>
      intro v3 w3 hown3 hgr3
      have hb3 := HBE2.out.grown hgr3 (by simp; omega) (fun k hk => (HL2.out k hk).1)
      obtain ⟨a3, c3, rfl⟩ := own_slice hown3
      have HX := hid hown3
      have HY := hid hb3
      have hll := hid (show (bs ++ [byteI 2, byteI fn, byteI exc]).length = bs.length + 1 + 2 by simp)
      clear hown3 hgr3 hb3
      go_wp2
      go_ret
      exact ⟨a3, c3, by rw [hll.out]; rfl, by rw [hll.out]; exact HX.out, HY.out⟩

end Go.Proofs.Ytlaaoifjiogogaa

/-
The contract of record.Encode at one outcome, and the check that the statements on records begin with.
-/
namespace Go.Proofs.Ytlaaoifjiogogaa
open Go.RowKit

/-- What Encode leaves where it answers. -/
def EncPost (w : World) (l : List UInt8) (r : Ending) (w' : World) : Prop := ∃ a c, r = .returned (.tuple #[.slice a l.length c, .int .i64 0]) ∧ Bs w' (.slice a l.length c) l ∧ Below w.heap.size w w' ∧ ∀ ad, a = some ad → w.heap.size ≤ ad.block

theorem own1 (w : World) (base : Nat) (x : Int) (h1 : 0 ≤ x) (h2 : x ≤ 255) (hb : base ≤ w.heap.size) :
    (w.alloc (.cells #[.int .u8 x] 5)).ownsRow base 5 1 (.slice (some ⟨w.heap.size, 0, none⟩) 1 1) 1 (u8s [byteI x]) := by
  refine ⟨rfl, .inr ⟨w.heap.size, 1, _, rfl, hb, heap_alloc_new _ _, Nat.le_refl _, by decide, rfl, ?_⟩⟩
  show [Value.int .u8 x] = [.int .u8 ((byteI x).toNat : Int)]
  rw [byteI_val h1 h2]

set_option maxRecDepth 100000 in
set_option maxHeartbeats 6400000 in
theorem encode1 (v fn exc : Int) (code level : Int) (more : Bool) (next : Int) (da oa : Option Addr) (dn dc on oc : Nat) (bk : Nat) (w : World) (hcell : w.heap[bk]? = some (.cells #[.int .i64 v, .int .i64 fn, .int .i64 exc, .slice da dn dc, .int .i64 code, .int .i64 level, .bool more, .int .i64 next, .slice oa on oc] 27 (0, 0))) (enc : List UInt8) (_henc : enc.length ≤ 1000)
    (HV : Hid (∀ W, Below w.heap.size w W → Calls Try.prog 15 #[.agg #[.int .i64 v, .int .i64 fn, .int .i64 exc, .slice da dn dc, .int .i64 code, .int .i64 level, .bool more, .int .i64 next, .slice oa on oc]] W fun r w' => r = .returned (.bool true) ∧ Below W.heap.size W w'))
    (HA : Hid (∀ W ba bc (bs : List UInt8), W.ownsRow w.heap.size 5 1 (.slice ba bs.length bc) bs.length (u8s bs) → w.heap.size ≤ W.heap.size → bs.length ≤ 1000000 → Calls Try.prog 49 #[.slice ba bs.length bc, .agg #[.int .i64 v, .int .i64 fn, .int .i64 exc, .slice da dn dc, .int .i64 code, .int .i64 level, .bool more, .int .i64 next, .slice oa on oc]] W (AppPost w.heap.size W (bs ++ enc)))) :
    Calls Try.prog 18 #[.slice (some ⟨bk, 0, none⟩) 1 1] w (EncPost w (byteI 1 :: enc)) := by
  have HC := hid hcell
  have hO1 := hid (own1 w w.heap.size 1 (by decide) (by decide) (Nat.le_refl _))
  clear hcell
  go_enter Try.func18, Try.ntmps18
  go_wp2_with fail
  go_loopw [4, 21] (fun bv idx wr => ∃ (k : Nat) (bs : List UInt8) (ba : Option Addr) (bc : Nat), k ≤ 1 ∧ idx = .int .i64 k ∧ bv = .slice ba bs.length bc ∧ Hid (wr.ownsRow w.heap.size 5 1 (.slice ba bs.length bc) bs.length (u8s bs)) ∧ Hid (bs = if k = 0 then [byteI 1] else byteI 1 :: enc) ∧ Below w.heap.size w wr) (fun _ idx _ => 1 - (intOf idx).toNat)
  case atStart => exact ⟨0, [byteI 1], some ⟨w.heap.size, 0, none⟩, 1, by omega, rfl, rfl, hO1.out, rfl, bal' w _⟩
  case round =>
    obtain ⟨k, bs, ba, bc, hk, rfl, rfl, hown, hbs, hbw⟩ := hrel
    rcases (show k = 0 ∨ k = 1 by omega) with rfl | rfl
    · obtain rfl : bs = [byteI 1] := hbs.out
      have hgr : wr.heap[bk]? = some (.cells #[.int .i64 v, .int .i64 fn, .int .i64 exc, .slice da dn dc, .int .i64 code, .int .i64 level, .bool more, .int .i64 next, .slice oa on oc] 27 (0, 0)) := by rw [hbw.block _ (Array.getElem?_eq_some_iff.1 HC.out).1]; exact HC.out
      have p0 : wr.cell? ⟨bk, 0, none⟩ = some (.int .i64 v) := cell_heap hgr 0
      have p1 : wr.cell? ⟨bk, 1, none⟩ = some (.int .i64 fn) := cell_heap hgr 1
      have p2 : wr.cell? ⟨bk, 2, none⟩ = some (.int .i64 exc) := cell_heap hgr 2
      have p3 : wr.cell? ⟨bk, 3, none⟩ = some (.slice da dn dc) := cell_heap hgr 3
      have p4 : wr.cell? ⟨bk, 4, none⟩ = some (.int .i64 code) := cell_heap hgr 4
      have p5 : wr.cell? ⟨bk, 5, none⟩ = some (.int .i64 level) := cell_heap hgr 5
      have p6 : wr.cell? ⟨bk, 6, none⟩ = some (.bool more) := cell_heap hgr 6
      have p7 : wr.cell? ⟨bk, 7, none⟩ = some (.int .i64 next) := cell_heap hgr 7
      have p8 : wr.cell? ⟨bk, 8, none⟩ = some (.slice oa on oc) := cell_heap hgr 8
      clear hgr
      have hsz := hbw.size
      go_wp2_with fail
      refine (HV.out _ (bta hbw (Nat.le_refl _) _)).mono ?_
      rintro r w3 ⟨rfl, hb3⟩
      have hgx : (wr.alloc (.cells #[.int .i64 v, .int .i64 fn, .int .i64 exc, .slice da dn dc, .int .i64 code, .int .i64 level, .bool more, .int .i64 next, .slice oa on oc] 27)).heap[wr.heap.size]? = some (.cells #[.int .i64 v, .int .i64 fn, .int .i64 exc, .slice da dn dc, .int .i64 code, .int .i64 level, .bool more, .int .i64 next, .slice oa on oc] 27 (0, 0)) := heap_alloc_new _ _
      have hgx3 : w3.heap[wr.heap.size]? = some (.cells #[.int .i64 v, .int .i64 fn, .int .i64 exc, .slice da dn dc, .int .i64 code, .int .i64 level, .bool more, .int .i64 next, .slice oa on oc] 27 (0, 0)) := by rw [hb3.block _ (by simp)]; exact hgx
      have q0 : w3.cell? ⟨wr.heap.size, 0, none⟩ = some (.int .i64 v) := cell_heap hgx3 0
      have q1 : w3.cell? ⟨wr.heap.size, 1, none⟩ = some (.int .i64 fn) := cell_heap hgx3 1
      have q2 : w3.cell? ⟨wr.heap.size, 2, none⟩ = some (.int .i64 exc) := cell_heap hgx3 2
      have q3 : w3.cell? ⟨wr.heap.size, 3, none⟩ = some (.slice da dn dc) := cell_heap hgx3 3
      have q4 : w3.cell? ⟨wr.heap.size, 4, none⟩ = some (.int .i64 code) := cell_heap hgx3 4
      have q5 : w3.cell? ⟨wr.heap.size, 5, none⟩ = some (.int .i64 level) := cell_heap hgx3 5
      have q6 : w3.cell? ⟨wr.heap.size, 6, none⟩ = some (.bool more) := cell_heap hgx3 6
      have q7 : w3.cell? ⟨wr.heap.size, 7, none⟩ = some (.int .i64 next) := cell_heap hgx3 7
      have q8 : w3.cell? ⟨wr.heap.size, 8, none⟩ = some (.slice oa on oc) := cell_heap hgx3 8
      have hb4 : Below w.heap.size w w3 := bt (bta hbw (Nat.le_refl _) _) hb3 (Nat.le_refl _)
      have HO3 : Hid (w3.ownsRow w.heap.size 5 1 (.slice ba [byteI 1].length bc) [byteI 1].length (u8s [byteI 1])) := own_keeps (hown.out.alloc _) (Keeps.of_below (F := fun _ => False) hb3) (fun _ _ f => f)
      clear hgx hgx3 hb3 hown hbs
      go_wp2_with fail
      refine (HA.out _ _ _ [byteI 1] HO3.out hb4.size (by simp)).mono ?_
      rintro r w5 ⟨a5, c5, rfl, hown5, hb5⟩
      have HO5 := hid hown5
      have hb6 : Below w.heap.size w w5 := hb4.trans hb5
      clear hown5 hb5
      go_wp2
      go_roundw
      case rel => exact ⟨1, [byteI 1] ++ enc, a5, c5, by omega, by go_num, rfl, HO5.out, by show _ = _; rfl, hb6⟩
      case measure => simp [intOf]
    · obtain rfl : bs = byteI 1 :: enc := hbs.out
      have HB := hid (Bs.own hown.out)
      have HLO := hid hown.out.lt
      clear hown hbs
      go_wp2
      go_ret2
      exact ⟨ba, bc, rfl, HB.out, hbw, fun ad h => (HLO.out ad.block (by rw [h]; rfl)).1⟩

set_option maxRecDepth 100000 in
set_option maxHeartbeats 3200000 in
theorem recawake_any (w : World) : Calls Try.prog 11 #[] w fun r w' => r = .returned (.bool true) ∧ Below w.heap.size w w' := by
  have ss : Hid (∀ (W : World) (v : Value) (l : List UInt8), Bs W v l → (convert 22 9 v).run Try.prog W = .ok (.string ⟨l.toArray⟩) W) := fun W v l h => run_str Try.underlying22 Try.underlying5 h _ Try.underlying9
  have E1 : Hid (∀ W : World, Calls Try.prog 18 #[.slice (some ⟨W.heap.size, 0, none⟩) 1 1] (W.alloc (.cells #[.int .i64 3, .int .i64 0, .int .i64 0, .slice none 0 0, .int .i64 0, .int .i64 0, .bool false, .int .i64 0, .slice none 0 0] 27)) (EncPost (W.alloc (.cells #[.int .i64 3, .int .i64 0, .int .i64 0, .slice none 0 0, .int .i64 0, .int .i64 0, .bool false, .int .i64 0, .slice none 0 0] 27)) [1, 3])) := fun W =>
    encode1 3 0 0 0 0 false 0 none none 0 0 0 0 W.heap.size _ (heap_alloc_new _ _) [byteI 3] (by decide)
      (fun W' _ => validOc_any 3 0 0 _ 0 0 false 0 _ [] [] W' (Bs.nil W') (Obs.nil W') (by decide) (by decide) true (by show _ = true; rfl))
      (fun W' ba bc bs h1 h2 h3 => appOc_silent 3 0 0 0 0 false 0 none none 0 0 0 0 ba bc bs _ W' h1 h2 h3 (.inl rfl))
  have E2 : Hid (∀ (W : World) (n : Nat), n = W.heap.size → Calls Try.prog 18 #[.slice (some ⟨n, 0, none⟩) 1 1] (W.alloc (.cells #[.int .i64 2, .int .i64 3, .int .i64 2, .slice none 0 0, .int .i64 0, .int .i64 0, .bool false, .int .i64 0, .slice none 0 0] 27)) (EncPost (W.alloc (.cells #[.int .i64 2, .int .i64 3, .int .i64 2, .slice none 0 0, .int .i64 0, .int .i64 0, .bool false, .int .i64 0, .slice none 0 0] 27)) [1, 2, 3, 2])) := fun W n hn => by
    subst hn
    exact encode1 2 3 2 0 0 false 0 none none 0 0 0 0 W.heap.size _ (heap_alloc_new _ _) [byteI 2, byteI 3, byteI 2] (by decide)
      (fun W' _ => validOc_any 2 3 2 _ 0 0 false 0 _ [] [] W' (Bs.nil W') (Obs.nil W') (by decide) (by decide) true (by show _ = true; rfl))
      (fun W' ba bc bs h1 h2 h3 => appOc_exc 3 2 0 0 false 0 none none 0 0 0 0 ba bc bs _ W' h1 h2 h3 (by decide) (by decide) (by decide) (by decide))
  have B1 : Hid (∀ (W : World) (n : Nat), n = W.heap.size → Bs (W.alloc (.cells #[.int .u8 1, .int .u8 3] 5)) (.slice (some ⟨n, 0, none⟩) 2 2) [1, 3]) := fun W n h => bs2 W n 1 3 (by decide) (by decide) (by decide) (by decide) h
  have B2 : Hid (∀ (W : World) (n : Nat), n = W.heap.size → Bs (W.alloc (.cells #[.int .u8 1, .int .u8 2, .int .u8 3, .int .u8 2] 5)) (.slice (some ⟨n, 0, none⟩) 4 4) [1, 2, 3, 2]) := fun W n h => by
    subst h
    refine Bs.mk (l := [1, 2, 3, 2]) (Nat.le_refl 4) (by unfold maxLen; decide) fun i hi => ?_
    rw [World.cell?_alloc_at _ _ _ _ rfl]
    match i, hi with
    | 0, _ => rfl
    | 1, _ => rfl
    | 2, _ => rfl
    | 3, _ => rfl
  go_enter Try.func11, Try.ntmps11
  go_wp2_with fail
  refine (E1.out _).mono ?_
  rintro r w1 ⟨a1, c1, rfl, hb1, hbel1, _⟩
  have HB1 := hid hb1
  clear hb1
  go_wp2_with fail
  refine (E2.out _ _ rfl).mono ?_
  rintro r w2 ⟨a2, c2, rfl, hb2, hbel2, _⟩
  have k1 := HB1.out.keep (bt (bal' w1 _) hbel2 (Nat.le_refl _))
  have e1 := ss.out _ _ _ k1
  have e2 := ss.out _ _ _ (B1.out w2 _ rfl)
  have e3 := ss.out _ _ _ (hb2.keep (bal' w2 (.cells #[.int .u8 1, .int .u8 3] 5)))
  have e4 := ss.out _ _ _ (B2.out (w2.alloc (.cells #[.int .u8 1, .int .u8 3] 5)) (w2.heap.size + 1) (by simp))
  clear k1 hb2
  simp only [List.length_cons, List.length_nil, Nat.zero_add] at e1 e2 e3 e4
  go_wp2
  go_ret
  refine ⟨rfl, ?_⟩
  repeat (first | exact Below.refl _ _ | refine btd ?_ | refine bta ?_ (Nat.le_refl _) _ | refine bt ?_ (by assumption) (Nat.le_refl _))

end Go.Proofs.Ytlaaoifjiogogaa
