/-
  Texts 50 of the claim.
-/
import Derived.Test.YtipnamoocemeeaaGreatA47
import Derived.Test.YtipnamoocemeeaaGreatA44
/-
  Rows of found devices, read; a sweep's row.
-/
namespace Go.Proofs.YtipnamoocemeeaaGreat
open Go.RowKit

/-- The cells of a found device, read in a world. -/
def FdR (W : World) (r : List Value) (f : Fd) : Prop := ∃ ov sv mv, r = (DvF f ov sv mv).toList ∧ DvRd W f.d ov sv mv
/-- A row of found devices. -/
def Fds (W : World) (v : Value) (l : List Fd) : Prop := Sls 21 FdR W v l
theorem DvRd.below {w w' : World} {d : Dv} {ov sv : Value} {mv : Nat → Value} (h : DvRd w d ov sv mv) (hb : Below w.heap.size w w') : DvRd w' d ov sv mv :=
  ⟨h.1.keep hb, h.2.1.keep hb, fun k hk => (h.2.2 k hk).keep hb⟩
theorem FdR.keep (w w' : World) (r : List Value) (x : Fd) (h : FdR w r x) (hb : Below w.heap.size w w') : FdR w' r x := by
  obtain ⟨ov, sv, mv, e, hr⟩ := h
  exact ⟨ov, sv, mv, e, hr.below hb⟩
theorem Fds.keep {w w' : World} {v : Value} {l : List Fd} (h : Fds w v l) (hb : Below w.heap.size w w') : Fds w' v l := Sls.keep FdR.keep h hb
theorem Fds.of_q {F : Nat → Prop} {W : World} {v : Value} {cs : List Value} {l : List Fd} (ho : W.ownsRow 0 91 21 v l.length cs) (hd : CsL 21 (DvQ F W) cs l) : Fds W v l :=
  Sls.of_own ho (CsL.mono (fun r f h => by
    obtain ⟨ov, sv, mv, e, hr⟩ := h
    exact ⟨ov, sv, mv, e, hr W (Keeps.refl _ _)⟩) _ _ hd) rfl
theorem SwS.fds {P M Q : Nat → Prop} {W : World} {g : Nat} {c : Cf} {x : Sp} {sv pv : Value} {fa : Option Addr} {fc : Nat} {cs : List Value} (h : SwS P M Q W g c x sv pv fa fc cs) : Fds W (.slice fa x.fd.length fc) x.fd := Fds.of_q h.own h.dv
theorem RsS.fds {P M Q : Nat → Prop} {W0 W : World} {g : Nat} {c : Cf} {x : Sp} {sv pv : Value} {fa : Option Addr} {fc : Nat} {cs : List Value} (h : RsS P M Q W0 W g c x sv pv fa fc cs) : Fds W (.slice fa x.fd.length fc) x.fd := Fds.of_q h.own h.dv
theorem Fds.slc {W : World} {v : Value} {l : List Fd} (h : Fds W v l) : ∃ a c, v = .slice a l.length c := by
  obtain ⟨a, c, e, _⟩ := h
  exact ⟨a, c, e⟩
/-- The cells of the row's i-th device. -/
theorem Fds.at {W : World} {a : Option Addr} {n c : Nat} {l : List Fd} (h : Fds W (.slice a n c) l) {i : Nat} {f : Fd} (hi : l[i]? = some f) :
    ∃ b o ov sv mv, a = some ⟨b, o, none⟩ ∧ DvRd W f.d ov sv mv ∧ ∀ X, Below W.heap.size W X → ∀ j u, (DvF f ov sv mv).toList[j]? = some u → X.cell? ((⟨b, o + i * 21, none⟩ : Addr).add j) = some u := by
  obtain ⟨-, -, -, hel⟩ := Sls.get h
  obtain ⟨b, o, ha, r, -, ⟨ov, sv, mv, rfl, hr⟩, hc⟩ := hel i f hi
  refine ⟨b, o, ov, sv, mv, ha, hr, fun X hX j u hj => ?_⟩
  have e : (⟨b, o + i * 21, none⟩ : Addr).add j = ⟨b, o + i * 21 + j, none⟩ := by unfold Addr.add; split <;> simp_all
  rw [e]
  exact cell_keep hX (hc j u hj)

end Go.Proofs.YtipnamoocemeeaaGreat
