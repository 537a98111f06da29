/-
  Texts 19 of the claim.
-/
import Derived.Test.YtipnamoocemeeaaGreatC18
import Derived.Test.YtipnamoocemeeaaGreatC03
/-
  A probe of the program: the contracts of Next and Queries.
-/
namespace Go.Proofs.YtipnamoocemeeaaGreat
open Go.RowKit
def Ph.isDone : Ph → Bool
  | .done => true
  | _ => false
theorem IdAt.cell {P : Nat → Prop} {W : World} {g : Nat} {x : Idn} {v : Value} {cs : List Value} (h : IdAt P W g x v cs) : W.heap[g]? = some (.cells #[.int .i64 x.st, .int .i64 x.level, v, .int .i64 x.next, .int .i64 x.cnt] 213) := h.at_
theorem PbAt.keep {P : Nat → Prop} {w w' : World} {g : Nat} {win : Nat → Int × Int} {p : Pb} {F : Nat → Prop} (h : PbAt P w g win p) (hk : Keeps F w w') (hF : ∀ j, j < w.heap.size → F j → ¬ P j) : PbAt P w' g win p := by
  obtain ⟨Q, pr, af, ov, sv, mv, hP, hQ, hpb, hrd, hpr⟩ := h
  have hgl : g < w.heap.size := hpLt hpb
  have hk' : Keeps (FQ P Q g) w w' := hk.mono (fun j hj e => .inl (hF j hj e))
  have hst : ∀ {b o}, St (FQ P Q g) w b o → St (FQ P Q g) w' b o := fun h W hW => h W (hk'.trans hW (fun _ _ e => e))
  have hkQ : Keeps (fun j => ¬ P j) w w' := hk.mono hF
  refine ⟨Q, pr, af, ov, sv, mv, hP, fun j hj => ⟨(hQ j hj).1, (hQ j hj).2.1, by have := (hQ j hj).2.2; have := hk.size; omega⟩, hpKeeps hpb hkQ (fun e => e hP), hrd.keeps hk' (fun _ _ e => e) (fun _ _ e => e), ?_⟩
  match p.ph, hpr with
  | .done, hpr => exact hpr
  | .test, hpr =>
    obtain ⟨b, bp, h1, h2, hQb, ho, hbp⟩ := hpr
    exact ⟨b, bp, h1, h2, hQb, hpKeeps ho hkQ (fun e => e (hQ b hQb).1), hst hbp⟩
  | .server, hpr =>
    obtain ⟨b, bp, bq, h1, h2, hQb, ho, hbp, hbq⟩ := hpr
    exact ⟨b, bp, bq, h1, h2, hQb, hpKeeps ho hkQ (fun e => e (hQ b hQb).1), hst hbp, hst hbq⟩
  | .ident x, hpr =>
    obtain ⟨b, v, cs, bi, bp, h1, h2, hI, hbp, hbi⟩ := hpr
    exact ⟨b, v, cs, bi, bp, h1, h2, hI.stay hkQ (fun j hj e => e (hQ j hj).1), hst hbp, hst hbi⟩
  | .seek k s, hpr =>
    obtain ⟨b, bp, bk, bs, h1, h2, hk4, hQb, hS, hbp, hbk, hbs⟩ := hpr
    exact ⟨b, bp, bk, bs, h1, h2, hk4, hQb, hpKeeps hS hkQ (fun e => e (hQ b hQb).1), hst hbp, hst hbk, hst hbs⟩
  | .map k m, hpr =>
    obtain ⟨b, v, qq, bm, bp, bk, h1, h2, hk4, hM, hbp, hbk, hbm⟩ := hpr
    exact ⟨b, v, qq, bm, bp, bk, h1, h2, hk4, ⟨hpKeeps hM.at_ hkQ (fun e => e (hQ b hM.pg).1), hM.own.keeps hkQ (fun j hj e => e (hQ j (hM.pv j hj).1).1), hM.pg, hM.pv⟩, hst hbp, hst hbk, hst hbm⟩

end Go.Proofs.YtipnamoocemeeaaGreat

/-
  The contracts of the reference's Size and ValidReply.
-/
namespace Go.Proofs.YtipnamoocemeeaaGreat
open Go.RowKit
end Go.Proofs.YtipnamoocemeeaaGreat

/-
  Several texts of this claim in one file.
-/
/-
The contract of the reference's ValidReply: device identifications, part 1.
-/
namespace Go.Proofs.YtipnamoocemeeaaGreat
open Go.RowKit
end Go.Proofs.YtipnamoocemeeaaGreat

/-
The contract of the reference's ValidReply: device identifications, part 2.
-/
namespace Go.Proofs.YtipnamoocemeeaaGreat
open Go.RowKit
end Go.Proofs.YtipnamoocemeeaaGreat

/-
  The contract of the reference's ValidReply: device identifications, part 3.
-/
namespace Go.Proofs.YtipnamoocemeeaaGreat
open Go.RowKit
end Go.Proofs.YtipnamoocemeeaaGreat
