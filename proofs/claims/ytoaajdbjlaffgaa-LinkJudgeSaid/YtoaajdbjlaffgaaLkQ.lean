/-
  The contracts of a link's Silence while it waits or drains, and of Attempts.
-/
import Derived.Test.YtoaajdbjlaffgaaLkR
namespace Go.Proofs.Ytoaajdbjlaffgaa
open Go.RowKit

def LkDrained (w : World) (g : Nat) (s : Lk) (l : List Int) (v : Int) (r : Ending) (w' : World) : Prop :=
  ∃ (sa : Option Addr) (sc : Nat), r = .returned (.int .i64 0) ∧ LkAt w' g (s.drains sa sc) ∧ SeenAt w' g (s.drains sa sc) (l ++ [v]) ∧ NewOr w (.slice s.sa s.sn s.sc) (.slice sa (s.sn + 1) sc) ∧ Keeps (fun j => j = g ∨ (Value.slice s.sa s.sn s.sc).ownBlock = some j) w w'

set_option maxRecDepth 100000 in
set_option maxHeartbeats 3200000 in
theorem silence_wait (g : Nat) (s : Lk) (l : List Int) (w : World) (hl : LkAt w g s) (hs : SeenAt w g s l) (hph : s.ph = 2) (hn : s.sn ≤ 1000) (he1 : 0 ≤ s.en) (he2 : s.en ≤ 1152921504606846976) (hd1 : 0 ≤ s.dr) (hd2 : s.dr ≤ 100000000) :
    Calls Try.prog 26 #[.pointer (some ⟨g, 0, none⟩)] w (LkDrained w g s l 3) := by
  have HJ := hid (judged_bad g s l 3 w hl hs rfl rfl hn he1 he2 hd1 hd2)
  have HLI := hid (listens_yes g s w hl (.inl hph))
  have c5 : w.cell? ⟨g, 5, none⟩ = some (.int .i64 2) := by rw [hl.cell 5]; simp [Lk.cells, hph]
  clear hl hs hph hn he1 he2 hd1 hd2
  go_enter Try.func26, Try.ntmps26
  go_wp2_with (first | (go_at_call 52; (with_reducible refine HLI.out.mono ?_); rintro r w1 ⟨rfl, rfl⟩) | (go_at_call 54; (with_reducible refine HJ.out.mono ?_); rintro r w2 ⟨sa, sc, rfl, hl2, hs2, hn2, hk2⟩))
  go_ret
  exact ⟨sa, sc, rfl, hl2, hs2, hn2, hk2⟩

def LkAgainE (w : World) (g : Nat) (s' : Lk) (r : Ending) (w' : World) : Prop := r = .returned (.int .i64 0) ∧ LkAt w' g s' ∧ Keeps (· = g) w w'

set_option maxRecDepth 100000 in
set_option maxHeartbeats 3200000 in
theorem silence_more (g : Nat) (s : Lk) (w : World) (hl : LkAt w g s) (hph : s.ph = 4) (hc : s.cnt ≤ s.re) :
    Calls Try.prog 26 #[.pointer (some ⟨g, 0, none⟩)] w (LkAgainE w g { s with now := s.til, ph := 1 }) := by
  have l1 : LkAt (w.setCell ⟨g, 13, none⟩ (.int .i64 s.til)) g { s with now := s.til } := hpSetE hl rfl
  have HR := hid (repeat_more g _ _ l1 hc)
  have HLI := hid (listens_yes g s w hl (.inr (.inr hph)))
  have c5 : w.cell? ⟨g, 5, none⟩ = some (.int .i64 4) := by rw [hl.cell 5]; simp [Lk.cells, hph]
  have c15 : w.cell? ⟨g, 15, none⟩ = some (.int .i64 s.til) := hl.cell 15
  have c13 : w.cell? ⟨g, 13, none⟩ = some (.int .i64 s.now) := hl.cell 13
  have f13 := hl.free 13
  have HK : Hid (Keeps (· = g) w (w.setCell ⟨g, 13, none⟩ (.int .i64 s.til))) := kset' (Keeps.refl _ _) _ _
  clear hl hph hc l1
  go_enter Try.func26, Try.ntmps26
  go_wp2_with (first | (go_at_call 52; (with_reducible refine HLI.out.mono ?_); rintro r w1 ⟨rfl, rfl⟩) | (go_at_call 57; (with_reducible refine HR.out.mono ?_); rintro r w2 ⟨rfl, hl2, hk2⟩))
  go_ret
  exact ⟨rfl, hl2, HK.out.trans hk2 (fun _ _ h => h)⟩

set_option maxRecDepth 100000 in
set_option maxHeartbeats 3200000 in
theorem silence_done (g : Nat) (s : Lk) (l : List Int) (w : World) (hl : LkAt w g s) (hs : SeenAt w g s l) (hb : BadL l) (hph : s.ph = 4) (hc : ¬ s.cnt ≤ s.re) :
    Calls Try.prog 26 #[.pointer (some ⟨g, 0, none⟩)] w (LkAgainE w g (Lk.silent { s with now := s.til } (sumV l))) := by
  have l1 : LkAt (w.setCell ⟨g, 13, none⟩ (.int .i64 s.til)) g { s with now := s.til } := hpSetE hl rfl
  have hk : Keeps (· = g) w (w.setCell ⟨g, 13, none⟩ (.int .i64 s.til)) := kset' (Keeps.refl _ _) _ _
  have hs1 : SeenAt (w.setCell ⟨g, 13, none⟩ (.int .i64 s.til)) g { s with now := s.til } l := ⟨own_keeps hs.own hk (fun k hk e => by
    have h1 := (hs.own.lt k hk).1
    have h2 : k = g := e
    omega), hs.len⟩
  have HR := hid (repeat_done g _ l _ l1 hs1 hb hc)
  have HLI := hid (listens_yes g s w hl (.inr (.inr hph)))
  have c5 : w.cell? ⟨g, 5, none⟩ = some (.int .i64 4) := by rw [hl.cell 5]; simp [Lk.cells, hph]
  have c15 : w.cell? ⟨g, 15, none⟩ = some (.int .i64 s.til) := hl.cell 15
  have c13 : w.cell? ⟨g, 13, none⟩ = some (.int .i64 s.now) := hl.cell 13
  have f13 := hl.free 13
  have HK := hid hk
  clear hl hph hc l1 hs hs1 hb hk
  go_enter Try.func26, Try.ntmps26
  go_wp2_with (first | (go_at_call 52; (with_reducible refine HLI.out.mono ?_); rintro r w1 ⟨rfl, rfl⟩) | (go_at_call 57; (with_reducible refine HR.out.mono ?_); rintro r w2 ⟨rfl, hl2, hk2⟩))
  go_ret
  exact ⟨rfl, hl2, HK.out.trans hk2 (fun _ _ h => h)⟩

set_option maxRecDepth 100000 in
set_option maxHeartbeats 800000 in
theorem attempts_any (g : Nat) (s : Lk) (w : World) (hl : LkAt w g s) :
    Calls Try.prog 29 #[.pointer (some ⟨g, 0, none⟩)] w fun r w' => r = .returned (.int .i64 s.cnt) ∧ w = w' := by
  have c18 : w.cell? ⟨g, 18, none⟩ = some (.int .i64 s.cnt) := hl.cell 18
  clear hl
  go_enter Try.func29, Try.ntmps29
  go_wp2
  go_ret
  exact ⟨rfl, rfl⟩

end Go.Proofs.Ytoaajdbjlaffgaa
