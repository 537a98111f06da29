/-
  The contracts of a link's Action while it sends, and of Outcome behind a silent transaction.
-/
import Derived.Test.YtoaajdbjlaffgaaLkQ
namespace Go.Proofs.Ytoaajdbjlaffgaa
open Go.RowKit

/-- What Action answers while the link sends. -/
def LkAct (w : World) (s : Lk) (F : List UInt8) (r : Ending) (w' : World) : Prop :=
  ∃ (a : Option Addr) (c : Nat), r = .returned (.agg #[.int .i64 1, .int .i64 s.now, .slice a F.length c]) ∧ Bs w' (.slice a F.length c) F ∧ Below w.heap.size w w'

def ActS (W1 : World) (p : Nat) (t : Int) (W : World) : Prop := Below W1.heap.size W1 W ∨ ∃ X a n c, Below W1.heap.size W1 X ∧ W = ((X.setCell ⟨p, 0, none⟩ (.int .i64 1)).setCell ⟨p, 1, none⟩ (.int .i64 t)).setCell ⟨p, 2, none⟩ (.slice a n c)
theorem ActS.cell {W1 W : World} {g p : Nat} {t : Int} {s : Lk} (h : ActS W1 p t W) (hl : LkAt W1 g s) (hg : g ≠ p) (i : Nat) : W.cell? ⟨g, i, none⟩ = s.cells[i]? := by
  rcases h with h | ⟨X, a, n, c, h, rfl⟩
  · exact (hl.keep h).cell i
  · have hk : Keeps (· = p) X (((X.setCell ⟨p, 0, none⟩ (.int .i64 1)).setCell ⟨p, 1, none⟩ (.int .i64 t)).setCell ⟨p, 2, none⟩ (.slice a n c)) := kset' (kset' (kset' (Keeps.refl _ _) _ _) _ _) _ _
    exact ((hl.keep h).keeps hk hg).cell i

set_option maxRecDepth 100000 in
set_option maxHeartbeats 3200000 in
theorem action_send (g : Nat) (s : Lk) (F : List UInt8) (w : World) (hl : LkAt w g s) (hph : s.ph = 1) (hfr : Bs w (.slice s.fa s.fn s.fc) F) (hF : F.length ≤ 1000) :
    Calls Try.prog 20 #[.pointer (some ⟨g, 0, none⟩)] w (LkAct w s F) := by
  have hg := hl.lt
  obtain ⟨W1, hW1⟩ : ∃ W, w.alloc (.cells #[.int .i64 0, .int .i64 0, .slice none 0 0] 54) = W := ⟨_, rfl⟩
  have hb1 : Below w.heap.size w W1 := by rw [← hW1]; exact bal' w _
  have g1 : W1.heap[w.heap.size]? = some (.cells #[.int .i64 0, .int .i64 0, .slice none 0 0] 54) := by rw [← hW1]; exact hpNew w _
  have l1 := hl.keep hb1
  have c5 : W1.cell? ⟨g, 5, none⟩ = some (.int .i64 1) := by rw [l1.cell 5]; simp [Lk.cells, hph]
  have hgp : g ≠ w.heap.size := by omega
  have c13 : ∀ W, ActS W1 w.heap.size s.now W → W.cell? ⟨g, 13, none⟩ = some (.int .i64 s.now) := fun W h => h.cell l1 hgp 13
  have c12 : ∀ W, ActS W1 w.heap.size s.now W → W.cell? ⟨g, 12, none⟩ = some (.slice s.fa s.fn s.fc) := fun W h => h.cell l1 hgp 12
  have kD : Below W1.heap.size W1 W1.drew := (Below.refl _ _).drew
  have kS : ActS W1 w.heap.size s.now W1.drew := .inl kD
  have HCL : Hid (∀ W, Below W1.heap.size W1 W → Calls Try.prog 46 #[.slice s.fa s.fn s.fc] W fun r w' => ∃ a c, r = .returned (.slice a F.length c) ∧ w'.ownsRow W.heap.size 5 1 (.slice a F.length c) F.length (u8s F) ∧ Below W.heap.size W w') := fun W hW => by
    refine (clone_any _ F W ((hfr.keep hb1).keep hW) (by omega)).mono ?_
    rintro r w' ⟨v', rfl, hown, hb⟩
    obtain ⟨a, c, rfl⟩ := own_slice hown
    exact ⟨a, c, rfl, hown, hb⟩
  have HR : ∀ X a n c, Below W1.heap.size W1 X → ActS W1 w.heap.size s.now (((X.setCell ⟨w.heap.size, 0, none⟩ (.int .i64 1)).setCell ⟨w.heap.size, 1, none⟩ (.int .i64 s.now)).setCell ⟨w.heap.size, 2, none⟩ (.slice a n c)) := fun X a n c h => .inr ⟨X, a, n, c, h, rfl⟩
  have HW1 := hid hW1
  have HB1 := hid hb1
  have G1 := hid g1
  clear hl hph hfr hW1 hb1 l1 g1 hF
  go_enter Try.func20, Try.ntmps20
  go_upto_region 1 with (fail)
  rw [HW1.out]
  go_wp2
  go_region_held3 (fun W => ActS W1 w.heap.size s.now W) ((with_reducible (first | exact kS | assumption | exact HR _ _ _ _ hBL))) ((go_at_call 46; (with_reducible refine (HCL.out W1.drew kD).mono ?_); rintro r w2 ⟨a, c, rfl, hown, hb2⟩; have hBL := bt kD hb2 (Nat.le_refl _); have hSL : ActS W1 w.heap.size s.now w2 := .inl hBL; have gz := hpKeep G1.out hBL; have z0 := hpCell gz 0; have z1 := hpCell gz 1; have z2 := hpCell gz 2; have y0 := hpFree gz 0; have y1 := hpFree gz 1; have y2 := hpFree gz 2))
  have m3 := hpSet (hpSet (hpSet gz 0 (.int .i64 1)) 1 (.int .i64 s.now)) 2 (.slice a F.length c)
  obtain ⟨q0, q1, q2⟩ : (((w2.setCell ⟨w.heap.size, 0, none⟩ (.int .i64 1)).setCell ⟨w.heap.size, 1, none⟩ (.int .i64 s.now)).setCell ⟨w.heap.size, 2, none⟩ (.slice a F.length c)).cell? ⟨w.heap.size, 0, none⟩ = some (.int .i64 1) ∧ (((w2.setCell ⟨w.heap.size, 0, none⟩ (.int .i64 1)).setCell ⟨w.heap.size, 1, none⟩ (.int .i64 s.now)).setCell ⟨w.heap.size, 2, none⟩ (.slice a F.length c)).cell? ⟨w.heap.size, 1, none⟩ = some (.int .i64 s.now) ∧ (((w2.setCell ⟨w.heap.size, 0, none⟩ (.int .i64 1)).setCell ⟨w.heap.size, 1, none⟩ (.int .i64 s.now)).setCell ⟨w.heap.size, 2, none⟩ (.slice a F.length c)).cell? ⟨w.heap.size, 2, none⟩ = some (.slice a F.length c) := ⟨hpCell m3 0, hpCell m3 1, hpCell m3 2⟩
  obtain ⟨W5, hW5⟩ : ∃ W, W = ((w2.setCell ⟨w.heap.size, 0, none⟩ (.int .i64 1)).setCell ⟨w.heap.size, 1, none⟩ (.int .i64 s.now)).setCell ⟨w.heap.size, 2, none⟩ (.slice a F.length c) := ⟨_, rfl⟩
  rw [← hW5] at q0 q1 q2 ⊢
  have HW5 := hid hW5
  have hlt : w.heap.size < W1.heap.size := (Array.getElem?_eq_some_iff.1 G1.out).1
  clear hW5 m3 z0 z1 z2 y0 y1 y2 gz c13 c12 HR
  go_wp2
  refine bodyPost_ret (v := .agg #[.int .i64 1, .int .i64 s.now, .slice a F.length c]) (by simp [results, Try.results20, go_sem, q0, q1, q2]) rfl ?_
  have hk : Keeps (· = w.heap.size) w2 W5 := by rw [HW5.out]; exact kset' (kset' (kset' (Keeps.refl _ _) _ _) _ _) _ _
  refine ⟨a, c, rfl, ?_, ?_⟩
  · exact (Bs.own hown).keepF hk (fun ad had e => by
      have h1 := (hown.lt ad.block (by rw [had]; rfl)).1
      have h2 : ad.block = w.heap.size := e
      have h3 : W1.heap.size ≤ ad.block := h1
      omega)
  · have hbw := bt HB1.out hBL (Nat.le_refl _)
    exact hbw.trans (hk.below hbw.size (fun k hk e => by omega))

end Go.Proofs.Ytoaajdbjlaffgaa
