/-
  The contract of record.Strip where everything is kept.
-/
import Derived.Test.YtlaaoifjiogogaaRecL
import Derived.Test.YtlaaoifjiogogaaZeros
import Derived.StillTailTactics
namespace Go.Proofs.Ytlaaoifjiogogaa
open Go.RowKit

/-- The blocks that the loop over the copied objects, and what stands behind it, may change. -/
def DeepF (w : World) (v2 : Value) : Nat → Prop := fun k => v2.ownBlock = some k ∨ k = w.heap.size + 1 ∨ k = w.heap.size + 1 + 1

/-- Where the loop over the copied objects stands. -/
def DeepRel (w wr : World) (A B C : Obj) (v2 : Value) (objs : List Ob) (a1 : Option Addr) (c1 : Nat) (data : List UInt8) : Prop :=
  wr.heap[w.heap.size]? = some A ∧ wr.heap[w.heap.size + 1]? = some B ∧ wr.heap[w.heap.size + 1 + 1]? = some C ∧
    (∃ cs, wr.ownsRow (w.heap.size + 3) 87 2 v2 objs.length cs ∧ ObCg (DeepF w v2) wr cs objs) ∧ Bs wr (.slice a1 data.length c1) data ∧ (data ≠ [] → ∀ ad, a1 = some ad → ¬ DeepF w v2 ad.block) ∧ Below w.heap.size w wr

theorem DeepRel.step {w wr w5 : World} {A B C : Obj} {g cap : Nat} {objs : List Ob} {a1 : Option Addr} {c1 : Nat} {data : List UInt8} (h : DeepRel w wr A B C (.slice (some ⟨g, 0, none⟩) objs.length cap) objs a1 c1 data)
    (hb : Below wr.heap.size wr w5) {k : Nat} {x : Ob} (hx : objs[k]? = some x) {E : TypeId} {a5 : Option Addr} {c5 : Nat} (hown5 : w5.ownsRow wr.heap.size E 1 (.slice a5 x.val.length c5) x.val.length (u8s x.val)) :
    DeepRel w (w5.setCell ⟨g, k * 2 + 1, none⟩ (.slice a5 x.val.length c5)) A B C (.slice (some ⟨g, 0, none⟩) objs.length cap) objs a1 c1 data := by
  obtain ⟨gA, gB, gC, ⟨cs, hown, hcg⟩, hbs, hbf, hbw⟩ := h
  have hg := hown.lt g rfl
  have hszw := hbw.size
  have sz : ∀ k c, wr.heap[k]? = some c → k < wr.heap.size := fun k c hc => (Array.getElem?_eq_some_iff.1 hc).1
  have lA := sz _ _ gA
  have lB := sz _ _ gB
  have lC := sz _ _ gC
  have hk : Keeps (fun k => k = g) w5 (w5.setCell ⟨g, k * 2 + 1, none⟩ (.slice a5 x.val.length c5)) := (Keeps.refl _ _).set _ _ rfl
  have hkF : ∀ k, k = g → DeepF w (.slice (some ⟨g, 0, none⟩) objs.length cap) k := fun k hk => .inl (by rw [hk]; rfl)
  have hown' := own_keeps hown (Keeps.of_below (F := fun _ => False) hb) (fun _ _ f => f)
  have hcg' := hcg.keeps (Keeps.of_below (F := fun _ => False) hb) (fun _ f => f.elim)
  have hF5 : x.val ≠ [] → ∀ ad, a5 = some ad → ¬ DeepF w (.slice (some ⟨g, 0, none⟩) objs.length cap) ad.block := fun _ ad had hF => by
    have h5 := (hown5.lt ad.block (by rw [had]; rfl)).1
    rcases hF with e | e | e
    · simp [Value.ownBlock] at e; omega
    · omega
    · omega
  refine ⟨by rw [heap_setO (by omega), hb.block _ lA]; exact gA, by rw [heap_setO (by omega), hb.block _ lB]; exact gB, by rw [heap_setO (by omega), hb.block _ lC]; exact gC, ⟨cs.set (k * 2 + 1) (.slice a5 x.val.length c5), (hown'.stored _ _).1, ?_⟩, ?_, hbf, ?_⟩
  · exact (hcg'.set hx (Bs.own hown5) hF5).keeps hk hkF
  · exact (hbs.keep hb).keepsN hk (fun hl ad had e => hbf hl ad had (hkF _ e))
  · exact (bt hbw hb (Nat.le_refl _)).setCell (p := ⟨g, k * 2 + 1, none⟩) (by show w.heap.size ≤ g; omega) _

set_option maxRecDepth 100000 in
set_option maxHeartbeats 12800000 in
theorem strip_deep (fn exc : Int) (code level : Int) (more : Bool) (next : Int) (data : List UInt8) (objs : List Ob) (da oa : Option Addr) (dc oc : Nat) (w : World) (hd : Bs w (.slice da data.length dc) data) (ho : Obs w (.slice oa objs.length oc) objs) (ht : tblB fn = false)
    (hs1 : data.length ≤ 300) (hs2 : objs.length ≤ 40) (hs3 : Hid (∀ (i : Nat) (x : Ob), objs[i]? = some x → x.val.length ≤ 300)) :
    Calls Try.prog 12 #[.agg #[.int .i64 1, .int .i64 fn, .int .i64 exc, .slice da data.length dc, .int .i64 code, .int .i64 level, .bool more, .int .i64 next, .slice oa objs.length oc]] w (OcPost w (Oc.strip ⟨1, ⟨fn, exc, data, code, level, more, next, objs⟩⟩)) := by
  have HE := hid (Oc.strip_all (v := 1) (r := ⟨fn, exc, data, code, level, more, next, objs⟩) rfl ht)
  have HT : Hid (∀ W, Calls Try.prog 41 #[.int .i64 fn] W fun r w' => r = .returned (.bool false) ∧ W = w') := fun W => by rw [← ht]; exact isTable_any _ _
  have HD := hid hd
  have HO := hid ho
  obtain ⟨hA, hB, hC⟩ := heap3 w (.cells #[.int .i64 1, .int .i64 fn, .int .i64 exc, .slice da data.length dc, .int .i64 code, .int .i64 level, .bool more, .int .i64 next, .slice oa objs.length oc] 27) (.cells #[.int .i64 0, .int .i64 0, .int .i64 0, .slice none 0 0, .int .i64 0, .int .i64 0, .bool false, .int .i64 0, .slice none 0 0] 27) (.cells #[.int .i64 fn, .int .i64 exc, .slice da data.length dc, .int .i64 code, .int .i64 level, .bool more, .int .i64 next, .slice oa objs.length oc] 25)
  have hbel0 := b3 w (.cells #[.int .i64 1, .int .i64 fn, .int .i64 exc, .slice da data.length dc, .int .i64 code, .int .i64 level, .bool more, .int .i64 next, .slice oa objs.length oc] 27) (.cells #[.int .i64 0, .int .i64 0, .int .i64 0, .slice none 0 0, .int .i64 0, .int .i64 0, .bool false, .int .i64 0, .slice none 0 0] 27) (.cells #[.int .i64 fn, .int .i64 exc, .slice da data.length dc, .int .i64 code, .int .i64 level, .bool more, .int .i64 next, .slice oa objs.length oc] 25)
  have hsz0 : w.heap.size + 3 ≤ (((w.alloc (.cells #[.int .i64 1, .int .i64 fn, .int .i64 exc, .slice da data.length dc, .int .i64 code, .int .i64 level, .bool more, .int .i64 next, .slice oa objs.length oc] 27)).alloc (.cells #[.int .i64 0, .int .i64 0, .int .i64 0, .slice none 0 0, .int .i64 0, .int .i64 0, .bool false, .int .i64 0, .slice none 0 0] 27)).alloc (.cells #[.int .i64 fn, .int .i64 exc, .slice da data.length dc, .int .i64 code, .int .i64 level, .bool more, .int .i64 next, .slice oa objs.length oc] 25)).heap.size := by simp
  have hcl1 := hid (clone_any (.slice da data.length dc) data (((w.alloc (.cells #[.int .i64 1, .int .i64 fn, .int .i64 exc, .slice da data.length dc, .int .i64 code, .int .i64 level, .bool more, .int .i64 next, .slice oa objs.length oc] 27)).alloc (.cells #[.int .i64 0, .int .i64 0, .int .i64 0, .slice none 0 0, .int .i64 0, .int .i64 0, .bool false, .int .i64 0, .slice none 0 0] 27)).alloc (.cells #[.int .i64 fn, .int .i64 exc, .slice da data.length dc, .int .i64 code, .int .i64 level, .bool more, .int .i64 next, .slice oa objs.length oc] 25)) (HD.out.keep hbel0) (by omega))
  have hA' := hid hA
  have hB' := hid hB
  have hC' := hid hC
  have hbel0' := hid hbel0
  clear hd ho hA hB hC ht
  go_enter Try.func12, Try.ntmps12
  go_wp2_with (first | (go_at_call 41; (with_reducible refine (HT.out _).mono ?_); rintro r w0 ⟨rfl, rfl⟩))
  refine hcl1.out.mono ?_
  rintro r w1 ⟨v1, rfl, hown1, hbel1⟩
  obtain ⟨a1, c1, rfl⟩ := own_slice hown1
  have gA : w1.heap[w.heap.size]? = some (.cells #[.int .i64 1, .int .i64 fn, .int .i64 exc, .slice da data.length dc, .int .i64 code, .int .i64 level, .bool more, .int .i64 next, .slice oa objs.length oc] 27) := by rw [hbel1.block _ (by omega)]; exact hA'.out
  have gB : w1.heap[w.heap.size + 1]? = some (.cells #[.int .i64 0, .int .i64 0, .int .i64 0, .slice none 0 0, .int .i64 0, .int .i64 0, .bool false, .int .i64 0, .slice none 0 0] 27) := by rw [hbel1.block _ (by omega)]; exact hB'.out
  have gC : w1.heap[w.heap.size + 1 + 1]? = some (.cells #[.int .i64 fn, .int .i64 exc, .slice da data.length dc, .int .i64 code, .int .i64 level, .bool more, .int .i64 next, .slice oa objs.length oc] 25) := by rw [hbel1.block _ (by omega)]; exact hC'.out
  have hbs1 := Bs.own hown1
  have hbw1 := bt hbel0'.out hbel1 (Nat.le_refl _)
  have hsz1 := hbel1.size
  have hf1 := free_heap gC 2
  have hc1 := cell_heap gC 2
  have hf1' := free_heap gC 7
  have hc1' := cell_heap gC 7
  replace hc1 : w1.cell? ⟨w.heap.size + 1 + 1, 2, none⟩ = some (.slice da data.length dc) := hc1
  replace hc1' : w1.cell? ⟨w.heap.size + 1 + 1, 7, none⟩ = some (.slice oa objs.length oc) := hc1'
  have hbw1' : Below w.heap.size w (w1.setCell ⟨w.heap.size + 1 + 1, 2, none⟩ (.slice a1 data.length c1)) := hbw1.setCell (p := ⟨w.heap.size + 1 + 1, 2, none⟩) (by show w.heap.size ≤ w.heap.size + 1 + 1; omega) _
  have hsz1' : w.heap.size + 3 ≤ (w1.setCell ⟨w.heap.size + 1 + 1, 2, none⟩ (.slice a1 data.length c1)).heap.size := by simp [World.setCell]; omega
  have HCO := hid (cloneO_any (.slice oa objs.length oc) objs w (w1.setCell ⟨w.heap.size + 1 + 1, 2, none⟩ (.slice a1 data.length c1)) HO.out hbw1' (by omega))
  have gA1 : (w1.setCell ⟨w.heap.size + 1 + 1, 2, none⟩ (.slice a1 data.length c1)).heap[w.heap.size]? = some (.cells #[.int .i64 1, .int .i64 fn, .int .i64 exc, .slice da data.length dc, .int .i64 code, .int .i64 level, .bool more, .int .i64 next, .slice oa objs.length oc] 27) := by rw [heap_setO (by omega)]; exact gA
  have gB1 : (w1.setCell ⟨w.heap.size + 1 + 1, 2, none⟩ (.slice a1 data.length c1)).heap[w.heap.size + 1]? = some (.cells #[.int .i64 0, .int .i64 0, .int .i64 0, .slice none 0 0, .int .i64 0, .int .i64 0, .bool false, .int .i64 0, .slice none 0 0] 27) := by rw [heap_setO (by omega)]; exact gB
  have gC1 : (w1.setCell ⟨w.heap.size + 1 + 1, 2, none⟩ (.slice a1 data.length c1)).heap[w.heap.size + 1 + 1]? = some (.cells #[.int .i64 fn, .int .i64 exc, .slice a1 data.length c1, .int .i64 code, .int .i64 level, .bool more, .int .i64 next, .slice oa objs.length oc] 25) := heap_setR gC 2 _
  have hbs1' : Bs (w1.setCell ⟨w.heap.size + 1 + 1, 2, none⟩ (.slice a1 data.length c1)) (.slice a1 data.length c1) data := hbs1.keepsN (F := fun k => k = w.heap.size + 1 + 1) ((Keeps.refl _ _).set _ _ rfl) (fun hl ad had e => by
    have := (hown1.lt ad.block (by rw [had]; rfl)).1
    omega)
  have hid1 := hid hbs1'
  have hid6 : Hid (data ≠ [] → ∀ ad, a1 = some ad → ad.block ≠ w.heap.size + 1 + 1 ∧ ad.block ≠ w.heap.size + 1 ∧ ad.block < (w1.setCell ⟨w.heap.size + 1 + 1, 2, none⟩ (.slice a1 data.length c1)).heap.size) := fun hl ad had => by
    have := (hown1.lt ad.block (by rw [had]; rfl)).1
    exact ⟨by omega, by omega, by simp [World.setCell]; exact (hown1.lt ad.block (by rw [had]; rfl)).2⟩
  have hid2 := hid gA1
  have hid3 := hid gB1
  have hid4 := hid gC1
  have hid5 := hid hbw1'
  clear hbs1 hbs1' gA1 gB1 gC1 gA gB gC hbw1 hbw1' hown1 hbel1 hsz1 hA' hB' hC' hbel0' hcl1 hsz0
  go_wp2_with fail
  refine HCO.out.mono ?_
  rintro r w2 ⟨v2, cs, rfl, hown2, hcs2, hbel2⟩
  obtain ⟨a2, c2, rfl⟩ := own_slice hown2
  have gA2 : w2.heap[w.heap.size]? = some (.cells #[.int .i64 1, .int .i64 fn, .int .i64 exc, .slice da data.length dc, .int .i64 code, .int .i64 level, .bool more, .int .i64 next, .slice oa objs.length oc] 27) := by rw [hbel2.block _ (by omega)]; exact hid2.out
  have gB2 : w2.heap[w.heap.size + 1]? = some (.cells #[.int .i64 0, .int .i64 0, .int .i64 0, .slice none 0 0, .int .i64 0, .int .i64 0, .bool false, .int .i64 0, .slice none 0 0] 27) := by rw [hbel2.block _ (by omega)]; exact hid3.out
  have gC2 : w2.heap[w.heap.size + 1 + 1]? = some (.cells #[.int .i64 fn, .int .i64 exc, .slice a1 data.length c1, .int .i64 code, .int .i64 level, .bool more, .int .i64 next, .slice oa objs.length oc] 25) := by rw [hbel2.block _ (by omega)]; exact hid4.out
  have hf2 : w2.frozen? ⟨w.heap.size + 1 + 1, 7, none⟩ = false := free_heap gC2 7
  have hc2 : w2.cell? ⟨w.heap.size + 1 + 1, 7, none⟩ = some (.slice oa objs.length oc) := cell_heap gC2 7
  have hst : DeepRel w (w2.setCell ⟨w.heap.size + 1 + 1, 7, none⟩ (.slice a2 objs.length c2)) (.cells #[.int .i64 1, .int .i64 fn, .int .i64 exc, .slice da data.length dc, .int .i64 code, .int .i64 level, .bool more, .int .i64 next, .slice oa objs.length oc] 27) (.cells #[.int .i64 0, .int .i64 0, .int .i64 0, .slice none 0 0, .int .i64 0, .int .i64 0, .bool false, .int .i64 0, .slice none 0 0] 27) (.cells #[.int .i64 fn, .int .i64 exc, .slice a1 data.length c1, .int .i64 code, .int .i64 level, .bool more, .int .i64 next, .slice a2 objs.length c2] 25) (.slice a2 objs.length c2) objs a1 c1 data := by
    have hk : Keeps (fun k => k = w.heap.size + 1 + 1) w2 (w2.setCell ⟨w.heap.size + 1 + 1, 7, none⟩ (.slice a2 objs.length c2)) := (Keeps.refl _ _).set _ _ rfl
    have hne : ∀ k, (Value.slice a2 objs.length c2).ownBlock = some k → ¬ k = w.heap.size + 1 + 1 := fun k hk' e => by
      have := (hown2.lt k hk').1
      omega
    refine ⟨by rw [heap_setO (by omega)]; exact gA2, by rw [heap_setO (by omega)]; exact gB2, heap_setR gC2 7 _, ⟨cs, own_keeps (own_lower hown2 (by omega)) hk hne, ?_⟩, ?_, ?_, ?_⟩
    · have h1 : Below w.heap.size w w2 := bt hid5.out hbel2 (Nat.le_refl _)
      have h2 : ObCg (DeepF w (.slice a2 objs.length c2)) w2 cs objs := ObCg.of hcs2 h1 (fun k hk' hF => by
        rcases hF with h | h | h
        · have := (hown2.lt k h).1; omega
        · omega
        · omega)
      exact h2.keeps hk (fun k hk' => .inr (.inr hk'))
    · exact (hid1.out.keep hbel2).keepsN hk (fun hl ad had e => (hid6.out hl ad had).1 e)
    · intro hl ad had hF
      obtain ⟨q1, q2, q3⟩ := hid6.out hl ad had
      rcases hF with e | e | e
      · have := (hown2.lt _ e).1; omega
      · exact q2 e
      · exact q1 e
    · exact (bt hid5.out hbel2 (Nat.le_refl _)).setCell (p := ⟨w.heap.size + 1 + 1, 7, none⟩) (by show w.heap.size ≤ w.heap.size + 1 + 1; omega) _
  replace hst := hid hst
  clear hid1 hid2 hid3 hid4 hid5 hid6 gA2 gB2 gC2 hcs2 hbel2 hown2 hsz1' HCO
  go_wp2_with fail
  clear hf2 hc2
  go_loopw [18] (fun idx wr => ∃ k : Nat, k ≤ objs.length ∧ idx = .int .i64 k ∧ Hid (DeepRel w wr (.cells #[.int .i64 1, .int .i64 fn, .int .i64 exc, .slice da data.length dc, .int .i64 code, .int .i64 level, .bool more, .int .i64 next, .slice oa objs.length oc] 27) (.cells #[.int .i64 0, .int .i64 0, .int .i64 0, .slice none 0 0, .int .i64 0, .int .i64 0, .bool false, .int .i64 0, .slice none 0 0] 27) (.cells #[.int .i64 fn, .int .i64 exc, .slice a1 data.length c1, .int .i64 code, .int .i64 level, .bool more, .int .i64 next, .slice a2 objs.length c2] 25) (.slice a2 objs.length c2) objs a1 c1 data)) (fun idx _ => objs.length - (intOf idx).toNat)
  case atStart => exact ⟨0, Nat.zero_le _, rfl, hst.out⟩
  case round =>
    clear hst
    obtain ⟨k, hk, rfl, hrel⟩ := hrel
    by_cases hlt : k < objs.length
    · obtain ⟨x, hgx⟩ := get_some rfl hlt
      obtain ⟨gA, gB, gC, ⟨cs', hown, hcg⟩, hbs, hbf, hbw⟩ := hrel.out
      obtain ⟨g, cap, hv, hg, hnc, hcm⟩ := own_shapeR hown (by omega)
      simp only [Value.slice.injEq, true_and] at hv
      obtain ⟨rfl, rfl⟩ := hv
      obtain ⟨_, xa, xc, hx2, hxb, _⟩ := hcg.2 k x hgx
      have e1 : wr.cell? ⟨w.heap.size + 1 + 1, 7, none⟩ = some (.slice (some ⟨g, 0, none⟩) objs.length c2) := cell_heap gC 7
      have e2 : wr.cell? ⟨g, k * 2 + 1, none⟩ = some (.slice xa x.val.length xc) := by rw [hown.cellAt _ (by omega)]; exact hx2
      have e3 : wr.frozen? ⟨g, k * 2 + 1, none⟩ = false := hown.frozenAt _
      have hgl := (hown.lt g rfl).2
      have hxl := hs3.out k x hgx
      have HCL : Hid (∀ W, Below wr.heap.size wr W → Calls Try.prog 42 #[.slice xa x.val.length xc] W fun r w' => ∃ v', r = .returned v' ∧ w'.ownsRow W.heap.size 5 1 v' x.val.length (u8s x.val) ∧ Below W.heap.size W w') := fun W hW => clone_any _ x.val W (hxb.keep hW) (by omega)
      have HX := hid hgx
      clear gA gB gC hown hcg hbs hbf hbw hgx hx2 hxb
      have hkl : (k : Int) < (objs.length : Int) := by omega
      have hk0 : (0 : Int) ≤ (k : Int) := Int.natCast_nonneg _
      go_wp2_with fail
      go_region_with (go_at_call 42; refine (HCL.out _ (Below.refl _ _).drew).mono ?_; rintro r w5 ⟨v5, rfl, hown5, hbel5⟩; obtain ⟨a5, c5, rfl⟩ := own_slice hown5; have hf5 : w5.frozen? ⟨g, k * 2 + 1, none⟩ = false := (by rw [hbel5.frozen (p := ⟨g, k * 2 + 1, none⟩) hgl]; exact e3); have e1' : w5.cell? ⟨w.heap.size + 1 + 1, 7, none⟩ = some (.slice (some ⟨g, 0, none⟩) objs.length c2) := cell_keep (w1 := wr.drew) hbel5 e1; have e2' : w5.cell? ⟨g, k * 2 + 1, none⟩ = some (.slice xa x.val.length xc) := cell_keep (w1 := wr.drew) hbel5 e2)
      all_goals
        have HN : Hid (DeepRel w (w5.setCell ⟨g, k * 2 + 1, none⟩ (.slice a5 x.val.length c5)) (.cells #[.int .i64 1, .int .i64 fn, .int .i64 exc, .slice da data.length dc, .int .i64 code, .int .i64 level, .bool more, .int .i64 next, .slice oa objs.length oc] 27) (.cells #[.int .i64 0, .int .i64 0, .int .i64 0, .slice none 0 0, .int .i64 0, .int .i64 0, .bool false, .int .i64 0, .slice none 0 0] 27) (.cells #[.int .i64 fn, .int .i64 exc, .slice a1 data.length c1, .int .i64 code, .int .i64 level, .bool more, .int .i64 next, .slice (some ⟨g, 0, none⟩) objs.length c2] 25) (.slice (some ⟨g, 0, none⟩) objs.length c2) objs a1 c1 data) := hrel.out.step (w5 := w5) (show Below wr.heap.size wr w5 from (Below.refl _ _).drew.trans hbel5) HX.out hown5
        go_wp2
        go_roundw
        case rel => exact ⟨k + 1, by omega, by go_num, HN.out⟩
        case measure => simp [intOf]; omega
    · obtain ⟨gA, gB, gC, ⟨cs', hown, hcg⟩, hbs, hbf, hbw⟩ := hrel.out
      have pA0 : wr.cell? ⟨w.heap.size, 0, none⟩ = some (.int .i64 1) := cell_heap gA 0
      have pC0 : wr.cell? ⟨w.heap.size + 1 + 1, 0, none⟩ = some (.int .i64 fn) := cell_heap gC 0
      have pC1 : wr.cell? ⟨w.heap.size + 1 + 1, 1, none⟩ = some (.int .i64 exc) := cell_heap gC 1
      have pC2 : wr.cell? ⟨w.heap.size + 1 + 1, 2, none⟩ = some (.slice a1 data.length c1) := cell_heap gC 2
      have pC3 : wr.cell? ⟨w.heap.size + 1 + 1, 3, none⟩ = some (.int .i64 code) := cell_heap gC 3
      have pC4 : wr.cell? ⟨w.heap.size + 1 + 1, 4, none⟩ = some (.int .i64 level) := cell_heap gC 4
      have pC5 : wr.cell? ⟨w.heap.size + 1 + 1, 5, none⟩ = some (.bool more) := cell_heap gC 5
      have pC6 : wr.cell? ⟨w.heap.size + 1 + 1, 6, none⟩ = some (.int .i64 next) := cell_heap gC 6
      have pC7 : wr.cell? ⟨w.heap.size + 1 + 1, 7, none⟩ = some (.slice a2 objs.length c2) := cell_heap gC 7
      have pB0 : wr.cell? ⟨w.heap.size + 1, 0, none⟩ = some (.int .i64 0) := cell_heap gB 0
      have pF0 : wr.frozen? ⟨w.heap.size + 1, 0, none⟩ = false := free_heap gB 0
      have pB1 : wr.cell? ⟨w.heap.size + 1, 1, none⟩ = some (.int .i64 0) := cell_heap gB 1
      have pF1 : wr.frozen? ⟨w.heap.size + 1, 1, none⟩ = false := free_heap gB 1
      have pB2 : wr.cell? ⟨w.heap.size + 1, 2, none⟩ = some (.int .i64 0) := cell_heap gB 2
      have pF2 : wr.frozen? ⟨w.heap.size + 1, 2, none⟩ = false := free_heap gB 2
      have pB3 : wr.cell? ⟨w.heap.size + 1, 3, none⟩ = some (.slice none 0 0) := cell_heap gB 3
      have pF3 : wr.frozen? ⟨w.heap.size + 1, 3, none⟩ = false := free_heap gB 3
      have pB4 : wr.cell? ⟨w.heap.size + 1, 4, none⟩ = some (.int .i64 0) := cell_heap gB 4
      have pF4 : wr.frozen? ⟨w.heap.size + 1, 4, none⟩ = false := free_heap gB 4
      have pB5 : wr.cell? ⟨w.heap.size + 1, 5, none⟩ = some (.int .i64 0) := cell_heap gB 5
      have pF5 : wr.frozen? ⟨w.heap.size + 1, 5, none⟩ = false := free_heap gB 5
      have pB6 : wr.cell? ⟨w.heap.size + 1, 6, none⟩ = some (.bool false) := cell_heap gB 6
      have pF6 : wr.frozen? ⟨w.heap.size + 1, 6, none⟩ = false := free_heap gB 6
      have pB7 : wr.cell? ⟨w.heap.size + 1, 7, none⟩ = some (.int .i64 0) := cell_heap gB 7
      have pF7 : wr.frozen? ⟨w.heap.size + 1, 7, none⟩ = false := free_heap gB 7
      have pB8 : wr.cell? ⟨w.heap.size + 1, 8, none⟩ = some (.slice none 0 0) := cell_heap gB 8
      have pF8 : wr.frozen? ⟨w.heap.size + 1, 8, none⟩ = false := free_heap gB 8
      have HR := hid hrel.out
      clear gA gB gC hown hcg hbs hbf hbw hrel
      go_wp2
      have hk : Keeps (fun k => k = w.heap.size + 1) wr (((((((((wr.setCell ⟨w.heap.size + 1, 0, none⟩ (.int .i64 1)).setCell ⟨w.heap.size + 1, 1, none⟩ (.int .i64 fn)).setCell ⟨w.heap.size + 1, 2, none⟩ (.int .i64 exc)).setCell ⟨w.heap.size + 1, 3, none⟩ (.slice a1 data.length c1)).setCell ⟨w.heap.size + 1, 4, none⟩ (.int .i64 code)).setCell ⟨w.heap.size + 1, 5, none⟩ (.int .i64 level)).setCell ⟨w.heap.size + 1, 6, none⟩ (.bool more)).setCell ⟨w.heap.size + 1, 7, none⟩ (.int .i64 next)).setCell ⟨w.heap.size + 1, 8, none⟩ (.slice a2 objs.length c2)) := by
        repeat (refine Keeps.set ?_ _ _ rfl)
        exact Keeps.refl _ _
      obtain ⟨_, gB', _, ⟨cs', hown, hcg⟩, hbs, hbf, hbw⟩ := HR.out
      have hne : ∀ k, (Value.slice a2 objs.length c2).ownBlock = some k → ¬ k = w.heap.size + 1 := fun k hk' e => by
        have := (hown.lt k hk').1
        omega
      have r1 : Bs (((((((((wr.setCell ⟨w.heap.size + 1, 0, none⟩ (.int .i64 1)).setCell ⟨w.heap.size + 1, 1, none⟩ (.int .i64 fn)).setCell ⟨w.heap.size + 1, 2, none⟩ (.int .i64 exc)).setCell ⟨w.heap.size + 1, 3, none⟩ (.slice a1 data.length c1)).setCell ⟨w.heap.size + 1, 4, none⟩ (.int .i64 code)).setCell ⟨w.heap.size + 1, 5, none⟩ (.int .i64 level)).setCell ⟨w.heap.size + 1, 6, none⟩ (.bool more)).setCell ⟨w.heap.size + 1, 7, none⟩ (.int .i64 next)).setCell ⟨w.heap.size + 1, 8, none⟩ (.slice a2 objs.length c2)) (.slice a1 data.length c1) data := hbs.keepsN hk (fun hl ad had e => hbf hl ad had (.inr (.inl e)))
      have r2 : Obs (((((((((wr.setCell ⟨w.heap.size + 1, 0, none⟩ (.int .i64 1)).setCell ⟨w.heap.size + 1, 1, none⟩ (.int .i64 fn)).setCell ⟨w.heap.size + 1, 2, none⟩ (.int .i64 exc)).setCell ⟨w.heap.size + 1, 3, none⟩ (.slice a1 data.length c1)).setCell ⟨w.heap.size + 1, 4, none⟩ (.int .i64 code)).setCell ⟨w.heap.size + 1, 5, none⟩ (.int .i64 level)).setCell ⟨w.heap.size + 1, 6, none⟩ (.bool more)).setCell ⟨w.heap.size + 1, 7, none⟩ (.int .i64 next)).setCell ⟨w.heap.size + 1, 8, none⟩ (.slice a2 objs.length c2)) (.slice a2 objs.length c2) objs := Obs.of_own (own_keeps hown hk hne) (hcg.keeps hk (fun k e => .inr (.inl e))).cs rfl
      have r3 : Below w.heap.size w (((((((((wr.setCell ⟨w.heap.size + 1, 0, none⟩ (.int .i64 1)).setCell ⟨w.heap.size + 1, 1, none⟩ (.int .i64 fn)).setCell ⟨w.heap.size + 1, 2, none⟩ (.int .i64 exc)).setCell ⟨w.heap.size + 1, 3, none⟩ (.slice a1 data.length c1)).setCell ⟨w.heap.size + 1, 4, none⟩ (.int .i64 code)).setCell ⟨w.heap.size + 1, 5, none⟩ (.int .i64 level)).setCell ⟨w.heap.size + 1, 6, none⟩ (.bool more)).setCell ⟨w.heap.size + 1, 7, none⟩ (.int .i64 next)).setCell ⟨w.heap.size + 1, 8, none⟩ (.slice a2 objs.length c2)) := by
        repeat (refine Below.setCell ?_ (by show w.heap.size ≤ w.heap.size + 1; omega) _)
        exact hbw
      have gW : (((((((((wr.setCell ⟨w.heap.size + 1, 0, none⟩ (.int .i64 1)).setCell ⟨w.heap.size + 1, 1, none⟩ (.int .i64 fn)).setCell ⟨w.heap.size + 1, 2, none⟩ (.int .i64 exc)).setCell ⟨w.heap.size + 1, 3, none⟩ (.slice a1 data.length c1)).setCell ⟨w.heap.size + 1, 4, none⟩ (.int .i64 code)).setCell ⟨w.heap.size + 1, 5, none⟩ (.int .i64 level)).setCell ⟨w.heap.size + 1, 6, none⟩ (.bool more)).setCell ⟨w.heap.size + 1, 7, none⟩ (.int .i64 next)).setCell ⟨w.heap.size + 1, 8, none⟩ (.slice a2 objs.length c2)).heap[w.heap.size + 1]? = some (.cells #[.int .i64 1, .int .i64 fn, .int .i64 exc, .slice a1 data.length c1, .int .i64 code, .int .i64 level, .bool more, .int .i64 next, .slice a2 objs.length c2] 27 (0, 0)) := heap_setR (heap_setR (heap_setR (heap_setR (heap_setR (heap_setR (heap_setR (heap_setR (heap_setR gB' 0 _) 1 _) 2 _) 3 _) 4 _) 5 _) 6 _) 7 _) 8 _
      have q0 : (((((((((wr.setCell ⟨w.heap.size + 1, 0, none⟩ (.int .i64 1)).setCell ⟨w.heap.size + 1, 1, none⟩ (.int .i64 fn)).setCell ⟨w.heap.size + 1, 2, none⟩ (.int .i64 exc)).setCell ⟨w.heap.size + 1, 3, none⟩ (.slice a1 data.length c1)).setCell ⟨w.heap.size + 1, 4, none⟩ (.int .i64 code)).setCell ⟨w.heap.size + 1, 5, none⟩ (.int .i64 level)).setCell ⟨w.heap.size + 1, 6, none⟩ (.bool more)).setCell ⟨w.heap.size + 1, 7, none⟩ (.int .i64 next)).setCell ⟨w.heap.size + 1, 8, none⟩ (.slice a2 objs.length c2)).cell? ⟨w.heap.size + 1, 0, none⟩ = some (.int .i64 1) := cell_heap gW 0
      have q1 : (((((((((wr.setCell ⟨w.heap.size + 1, 0, none⟩ (.int .i64 1)).setCell ⟨w.heap.size + 1, 1, none⟩ (.int .i64 fn)).setCell ⟨w.heap.size + 1, 2, none⟩ (.int .i64 exc)).setCell ⟨w.heap.size + 1, 3, none⟩ (.slice a1 data.length c1)).setCell ⟨w.heap.size + 1, 4, none⟩ (.int .i64 code)).setCell ⟨w.heap.size + 1, 5, none⟩ (.int .i64 level)).setCell ⟨w.heap.size + 1, 6, none⟩ (.bool more)).setCell ⟨w.heap.size + 1, 7, none⟩ (.int .i64 next)).setCell ⟨w.heap.size + 1, 8, none⟩ (.slice a2 objs.length c2)).cell? ⟨w.heap.size + 1, 1, none⟩ = some (.int .i64 fn) := cell_heap gW 1
      have q2 : (((((((((wr.setCell ⟨w.heap.size + 1, 0, none⟩ (.int .i64 1)).setCell ⟨w.heap.size + 1, 1, none⟩ (.int .i64 fn)).setCell ⟨w.heap.size + 1, 2, none⟩ (.int .i64 exc)).setCell ⟨w.heap.size + 1, 3, none⟩ (.slice a1 data.length c1)).setCell ⟨w.heap.size + 1, 4, none⟩ (.int .i64 code)).setCell ⟨w.heap.size + 1, 5, none⟩ (.int .i64 level)).setCell ⟨w.heap.size + 1, 6, none⟩ (.bool more)).setCell ⟨w.heap.size + 1, 7, none⟩ (.int .i64 next)).setCell ⟨w.heap.size + 1, 8, none⟩ (.slice a2 objs.length c2)).cell? ⟨w.heap.size + 1, 2, none⟩ = some (.int .i64 exc) := cell_heap gW 2
      have q3 : (((((((((wr.setCell ⟨w.heap.size + 1, 0, none⟩ (.int .i64 1)).setCell ⟨w.heap.size + 1, 1, none⟩ (.int .i64 fn)).setCell ⟨w.heap.size + 1, 2, none⟩ (.int .i64 exc)).setCell ⟨w.heap.size + 1, 3, none⟩ (.slice a1 data.length c1)).setCell ⟨w.heap.size + 1, 4, none⟩ (.int .i64 code)).setCell ⟨w.heap.size + 1, 5, none⟩ (.int .i64 level)).setCell ⟨w.heap.size + 1, 6, none⟩ (.bool more)).setCell ⟨w.heap.size + 1, 7, none⟩ (.int .i64 next)).setCell ⟨w.heap.size + 1, 8, none⟩ (.slice a2 objs.length c2)).cell? ⟨w.heap.size + 1, 3, none⟩ = some (.slice a1 data.length c1) := cell_heap gW 3
      have q4 : (((((((((wr.setCell ⟨w.heap.size + 1, 0, none⟩ (.int .i64 1)).setCell ⟨w.heap.size + 1, 1, none⟩ (.int .i64 fn)).setCell ⟨w.heap.size + 1, 2, none⟩ (.int .i64 exc)).setCell ⟨w.heap.size + 1, 3, none⟩ (.slice a1 data.length c1)).setCell ⟨w.heap.size + 1, 4, none⟩ (.int .i64 code)).setCell ⟨w.heap.size + 1, 5, none⟩ (.int .i64 level)).setCell ⟨w.heap.size + 1, 6, none⟩ (.bool more)).setCell ⟨w.heap.size + 1, 7, none⟩ (.int .i64 next)).setCell ⟨w.heap.size + 1, 8, none⟩ (.slice a2 objs.length c2)).cell? ⟨w.heap.size + 1, 4, none⟩ = some (.int .i64 code) := cell_heap gW 4
      have q5 : (((((((((wr.setCell ⟨w.heap.size + 1, 0, none⟩ (.int .i64 1)).setCell ⟨w.heap.size + 1, 1, none⟩ (.int .i64 fn)).setCell ⟨w.heap.size + 1, 2, none⟩ (.int .i64 exc)).setCell ⟨w.heap.size + 1, 3, none⟩ (.slice a1 data.length c1)).setCell ⟨w.heap.size + 1, 4, none⟩ (.int .i64 code)).setCell ⟨w.heap.size + 1, 5, none⟩ (.int .i64 level)).setCell ⟨w.heap.size + 1, 6, none⟩ (.bool more)).setCell ⟨w.heap.size + 1, 7, none⟩ (.int .i64 next)).setCell ⟨w.heap.size + 1, 8, none⟩ (.slice a2 objs.length c2)).cell? ⟨w.heap.size + 1, 5, none⟩ = some (.int .i64 level) := cell_heap gW 5
      have q6 : (((((((((wr.setCell ⟨w.heap.size + 1, 0, none⟩ (.int .i64 1)).setCell ⟨w.heap.size + 1, 1, none⟩ (.int .i64 fn)).setCell ⟨w.heap.size + 1, 2, none⟩ (.int .i64 exc)).setCell ⟨w.heap.size + 1, 3, none⟩ (.slice a1 data.length c1)).setCell ⟨w.heap.size + 1, 4, none⟩ (.int .i64 code)).setCell ⟨w.heap.size + 1, 5, none⟩ (.int .i64 level)).setCell ⟨w.heap.size + 1, 6, none⟩ (.bool more)).setCell ⟨w.heap.size + 1, 7, none⟩ (.int .i64 next)).setCell ⟨w.heap.size + 1, 8, none⟩ (.slice a2 objs.length c2)).cell? ⟨w.heap.size + 1, 6, none⟩ = some (.bool more) := cell_heap gW 6
      have q7 : (((((((((wr.setCell ⟨w.heap.size + 1, 0, none⟩ (.int .i64 1)).setCell ⟨w.heap.size + 1, 1, none⟩ (.int .i64 fn)).setCell ⟨w.heap.size + 1, 2, none⟩ (.int .i64 exc)).setCell ⟨w.heap.size + 1, 3, none⟩ (.slice a1 data.length c1)).setCell ⟨w.heap.size + 1, 4, none⟩ (.int .i64 code)).setCell ⟨w.heap.size + 1, 5, none⟩ (.int .i64 level)).setCell ⟨w.heap.size + 1, 6, none⟩ (.bool more)).setCell ⟨w.heap.size + 1, 7, none⟩ (.int .i64 next)).setCell ⟨w.heap.size + 1, 8, none⟩ (.slice a2 objs.length c2)).cell? ⟨w.heap.size + 1, 7, none⟩ = some (.int .i64 next) := cell_heap gW 7
      have q8 : (((((((((wr.setCell ⟨w.heap.size + 1, 0, none⟩ (.int .i64 1)).setCell ⟨w.heap.size + 1, 1, none⟩ (.int .i64 fn)).setCell ⟨w.heap.size + 1, 2, none⟩ (.int .i64 exc)).setCell ⟨w.heap.size + 1, 3, none⟩ (.slice a1 data.length c1)).setCell ⟨w.heap.size + 1, 4, none⟩ (.int .i64 code)).setCell ⟨w.heap.size + 1, 5, none⟩ (.int .i64 level)).setCell ⟨w.heap.size + 1, 6, none⟩ (.bool more)).setCell ⟨w.heap.size + 1, 7, none⟩ (.int .i64 next)).setCell ⟨w.heap.size + 1, 8, none⟩ (.slice a2 objs.length c2)).cell? ⟨w.heap.size + 1, 8, none⟩ = some (.slice a2 objs.length c2) := cell_heap gW 8
      clear pA0 pC0 pC1 pC2 pC3 pC4 pC5 pC6 pC7 pB0 pB1 pB2 pB3 pB4 pB5 pB6 pB7 pB8 pF0 pF1 pF2 pF3 pF4 pF5 pF6 pF7 pF8 gW hk
      generalize (((((((((wr.setCell ⟨w.heap.size + 1, 0, none⟩ (.int .i64 1)).setCell ⟨w.heap.size + 1, 1, none⟩ (.int .i64 fn)).setCell ⟨w.heap.size + 1, 2, none⟩ (.int .i64 exc)).setCell ⟨w.heap.size + 1, 3, none⟩ (.slice a1 data.length c1)).setCell ⟨w.heap.size + 1, 4, none⟩ (.int .i64 code)).setCell ⟨w.heap.size + 1, 5, none⟩ (.int .i64 level)).setCell ⟨w.heap.size + 1, 6, none⟩ (.bool more)).setCell ⟨w.heap.size + 1, 7, none⟩ (.int .i64 next)).setCell ⟨w.heap.size + 1, 8, none⟩ (.slice a2 objs.length c2)) = WF at *
      refine bodyPost_ret (v := .agg #[.int .i64 1, .int .i64 fn, .int .i64 exc, .slice a1 data.length c1, .int .i64 code, .int .i64 level, .bool more, .int .i64 next, .slice a2 objs.length c2]) ?_ rfl ?_
      · simp [results, Try.results12, go_sem, q0, q1, q2, q3, q4, q5, q6, q7, q8]
      · rw [HE.out]
        exact ⟨_, rfl, ⟨_, _, _, _, rfl, r1, r2⟩, r3⟩

end Go.Proofs.Ytlaaoifjiogogaa
