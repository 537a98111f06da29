/-
  The contracts of adu.Split and of both ways to build a frame, in one form.
-/
import Derived.Test.YtpmidoneoonlcaaGreatSplR
import Derived.Test.YtpmidoneoonlcaaGreatRef05
import Derived.Test.YtpmidoneoonlcaaGreatMbase
namespace Go.Proofs.YtpmidoneoonlcaaGreat
open Go.RowKit

theorem rchkB_eq : rchkB = crcChk := by
  funext l
  exact rchk_eq l

theorem SplitPost.own {w w' : World} {u : Int} {v : Value} {n : Nat} {p : List UInt8} {e : TypeId} {o : Option (Int × List UInt8)} (hn : p.length = n) (ho : o = some (u, p)) (hown : w'.ownsRow w.heap.size e 1 v n (u8s p)) (hb : Below w.heap.size w w') :
    SplitPost w o (.returned (.tuple #[.int .i64 u, v, .int .i64 0])) w' := by
  subst hn
  have hbs := Bs.own hown
  have hlt := hown.lt
  obtain ⟨a3, c3, rfl, _⟩ := id hbs
  exact ⟨u, a3, _, c3, 0, rfl, hb, .inl ⟨rfl, p, ho, fun W hW => hbs.agree (fun ad had => (hlt ad.block (by rw [had]; rfl)).1) hW⟩⟩

theorem psplit_any (a : Option Addr) (n c : Nat) (l : List UInt8) (w : World) (hb : Bs w (.slice a n c) l) :
    Calls Tryz.prog 67 #[.slice a n c] w (SplitPost w (splitB crcChk l)) := by
  by_cases h1 : l.length < 4 ∨ 256 < l.length
  · refine (split_len _ l h1 w hb).mono ?_
    rintro r w' ⟨rfl, rfl⟩
    exact SplitPost.err (by unfold splitB; rw [if_neg (by omega)]) _ _ _ _ _ (by decide) (Below.refl _ _)
  · cases hc : crcChk l with
    | false =>
      refine (split_crc _ l (by omega) (by omega) hc w hb).mono ?_
      rintro r w' ⟨rfl, h⟩
      exact SplitPost.err (by unfold splitB; rw [if_neg (fun h => by rw [hc] at h; cases h.2.2.1)]) _ _ _ _ _ (by decide) h
    | true =>
      by_cases h2 : ((l.getD 0 0).toNat : Int) < 1 ∨ 247 < ((l.getD 0 0).toNat : Int)
      · refine (split_range _ l (by omega) (by omega) hc h2 w hb).mono ?_
        rintro r w' ⟨rfl, h⟩
        exact SplitPost.err (by unfold splitB; rw [if_neg (fun h => by omega)]) _ _ _ _ _ (by decide) h
      · refine (split_ok _ l (by omega) (by omega) hc (by omega) (by omega) w hb).mono ?_
        rintro r w' ⟨v', rfl, hown, h⟩
        exact SplitPost.own (by simp [aduP]; omega) (by unfold splitB; rw [if_pos ⟨by omega, by omega, hc, by omega, by omega⟩]; rfl) hown h

/-- The frame of a unit and a PDU, if there is one. -/
def buildB (u : Int) (p : List UInt8) : Option (List UInt8) := if 1 ≤ u ∧ u ≤ 247 ∧ 1 ≤ p.length ∧ p.length ≤ 253 then some (aduF (UInt8.ofNat u.toNat) p) else none

/-- What Build answers: the frame is the call's own. -/
def BuildPost (w : World) (o : Option (List UInt8)) (r : Ending) (w' : World) : Prop :=
  ∃ (a : Option Addr) (c : Nat) (e : Int) (f : List UInt8), r = .returned (.tuple #[.slice a f.length c, .int .i64 e]) ∧ w'.ownsRow w.heap.size 5 1 (.slice a f.length c) f.length (u8s f) ∧ Below w.heap.size w w' ∧ ((e = 0 ∧ o = some f) ∨ (e ≠ 0 ∧ o = none ∧ f = []))

theorem BuildPost.err {w : World} {o : Option (List UInt8)} (ho : o = none) (e : Int) (he : e ≠ 0) : BuildPost w o (.returned (.tuple #[.slice none 0 0, .int .i64 e])) w :=
  ⟨none, 0, e, [], rfl, World.ownsRow_nil _ _ _ _, Below.refl _ _, .inr ⟨he, ho, rfl⟩⟩

theorem BuildPost.own {w w' : World} {o : Option (List UInt8)} {v : Value} {n : Nat} {f : List UInt8} (hn : f.length = n) (ho : o = some f) (hown : w'.ownsRow w.heap.size 5 1 v n (u8s f)) (hb : Below w.heap.size w w') :
    BuildPost w o (.returned (.tuple #[v, .int .i64 0])) w' := by
  subst hn
  obtain ⟨a3, c3, rfl, _⟩ := id (Bs.own hown)
  exact ⟨a3, c3, 0, f, rfl, hown, hb, .inl ⟨rfl, ho⟩⟩

theorem byteU {u : Int} (h1 : 1 ≤ u) (h2 : u ≤ 247) : ((UInt8.ofNat u.toNat).toNat : Int) = u := by
  rw [UInt8.toNat_ofNat']; omega

theorem pbuild_any (u : Int) (a : Option Addr) (n c : Nat) (p : List UInt8) (w : World) (hb : Bs w (.slice a n c) p) :
    Calls Tryz.prog 30 #[.int .i64 u, .slice a n c] w (BuildPost w (buildB u p)) := by
  by_cases h1 : u < 1 ∨ 247 < u
  · refine (build_range u h1 _ w).mono ?_
    rintro r w' ⟨rfl, rfl⟩
    exact BuildPost.err (by unfold buildB; rw [if_neg (by omega)]) 3 (by decide)
  · by_cases h2 : p.length < 1 ∨ 253 < p.length
    · refine (build_len u (by omega) (by omega) _ p h2 w hb).mono ?_
      rintro r w' ⟨rfl, rfl⟩
      exact BuildPost.err (by unfold buildB; rw [if_neg (by omega)]) 4 (by decide)
    · have hx := byteU (u := u) (by omega) (by omega)
      have := build_ok (UInt8.ofNat u.toNat) (by omega) (by omega) _ p (by omega) (by omega) w hb
      rw [hx] at this
      refine this.mono ?_
      rintro r w' ⟨v', rfl, hown, h⟩
      exact BuildPost.own (aduF_length _ _) (by unfold buildB; rw [if_pos ⟨by omega, by omega, by omega, by omega⟩]) hown h

theorem rbuild_any (u : Int) (a : Option Addr) (n c : Nat) (p : List UInt8) (w : World) (hb : Bs w (.slice a n c) p) :
    Calls Tryz.prog 87 #[.int .i64 u, .slice a n c] w (BuildPost w (buildB u p)) := by
  by_cases h1 : u < 1 ∨ 247 < u
  · refine (rbuild_range u h1 _ w).mono ?_
    rintro r w' ⟨rfl, rfl⟩
    exact BuildPost.err (by unfold buildB; rw [if_neg (by omega)]) 3 (by decide)
  · by_cases h2 : p.length < 1 ∨ 253 < p.length
    · refine (rbuild_len u (by omega) (by omega) _ p h2 w hb).mono ?_
      rintro r w' ⟨rfl, rfl⟩
      exact BuildPost.err (by unfold buildB; rw [if_neg (by omega)]) 4 (by decide)
    · have hx := byteU (u := u) (by omega) (by omega)
      have := rbuild_ok (UInt8.ofNat u.toNat) (by omega) (by omega) _ p (by omega) (by omega) w hb
      rw [hx] at this
      refine this.mono ?_
      rintro r w' ⟨v', rfl, hown, h⟩
      exact BuildPost.own (aduF_length _ _) (by unfold buildB; rw [if_pos ⟨by omega, by omega, by omega, by omega⟩]) hown h

end Go.Proofs.YtpmidoneoonlcaaGreat
