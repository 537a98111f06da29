/-
  The walks of the laws on the store.
-/
import Derived.Test.YthkclnehekbpgaaStore
import Derived.Deep.RegionHeld3
namespace Go.Proofs.Ythkclnehekbpgaa
open Go.RowKit

theorem bdr' (w : World) : Below w.heap.size w w.drew := (Below.refl _ _).drew

theorem Bs.lit {w : World} {n : Nat} (l : List UInt8) (A : Array Value) (T : TypeId) (k : Nat) (hn : n = w.heap.size) (hA : A = (u8s l).toArray) (hk : k = l.length) (hl : l.length ≤ 1000) :
    Bs (w.alloc (.cells A T)) (.slice (some ⟨n, 0, none⟩) k k) l := by
  subst hn; subst hk
  refine Bs.mk (Nat.le_refl _) (by unfold maxLen; omega) fun i hi => ?_
  rw [World.cell?_alloc_at _ _ _ _ rfl, hA, ← u8s_get l i hi]
  simp

set_option maxRecDepth 100000 in
set_option maxHeartbeats 1600000 in
theorem stawake_any (w : World) :
    Calls Try.prog 28 #[] w fun r w' => r = .returned (.bool true) ∧ Below w.heap.size w w' := by
  go_enter Try.func28, Try.ntmps28
  go_wp2_with (first | (go_at_call 25; refine (new_ok 4 (by decide) _ w.heap.size (Nat.le_refl _)).mono ?_; rintro r w1 ⟨rfl, hs, hbel, hlt⟩) | fail)
  have b1 : Hid (∀ (W : World) (n : Nat), n = W.heap.size → Bs (W.alloc (.cells #[.int .u8 1, .int .u8 2, .int .u8 3] 5)) (.slice (some ⟨n, 0, none⟩) 3 3) [1, 2, 3]) := fun W n h => Bs.lit [1, 2, 3] _ _ 3 h rfl rfl (by decide)
  have b2 : Hid (∀ (W : World) (n : Nat), n = W.heap.size → Bs (W.alloc (.cells #[.int .u8 4, .int .u8 5] 5)) (.slice (some ⟨n, 0, none⟩) 2 2) [4, 5]) := fun W n h => Bs.lit [4, 5] _ _ 2 h rfl rfl (by decide)
  have ss : ∀ (W : World) (v : Value) (l : List UInt8), Bs W v l → (convert 26 9 v).run Try.prog W = .ok (.string ⟨l.toArray⟩) W := fun W v l h => run_str Try.underlying26 Try.underlying5 h _ Try.underlying9
  replace ss := hid ss
  go_region_with (first | (go_at_call 26; (with_reducible refine (append_ok _ w.heap.size w.heap.size 4 [] (.slice none 0 0) (St.below (St.below hs (bal' _ _)) (bdr' _)) (by decide) (by decide) _ [1, 2, 3] ((b1.out _ _ rfl).keep (bdr' _)) (by decide)).mono ?_); rintro r w2 ⟨rfl, v2, hs2, hk2, hn2⟩) | (go_at_call 26; (with_reducible refine (append_full _ w.heap.size w.heap.size 4 _ _ (St.below hs2 (bal' _ _)) (by decide) (by decide) _ [4, 5] (b2.out _ _ rfl) (by decide)).mono ?_); rintro r w3 ⟨rfl, hbel3⟩; have e7 := ss.out _ _ _ (b1.out w3 _ rfl)) | (go_at_call 27; (refine (sbytes_any _ w.heap.size w.heap.size 4 ([] ++ [1, 2, 3]) v2 (by repeat (first | assumption | refine St.below ?_ (bdr' _) | refine St.below ?_ (bal' _ _) | refine St.below ?_ (by assumption))) (by decide)).mono ?_); rintro r w4 ⟨v4, rfl, hown4, hbel4⟩; have e4 := ss.out _ _ _ (Bs.own hown4); have e4b : ∀ o, _ := fun o => ss.out _ _ _ ((Bs.own hown4).keep (bal' w4 o)); have e5 := ss.out _ _ _ (b1.out w4 _ rfl); try have e6 := ss.out _ _ _ ((b1.out w3 _ rfl).keep hbel4)) | (go_at_call 33; (refine (room_any _ w.heap.size w.heap.size 4 ([] ++ [1, 2, 3]) v2 (by repeat (first | assumption | refine St.below ?_ (bdr' _) | refine St.below ?_ (bal' _ _) | refine St.below ?_ (by assumption))) (by decide) (by decide)).mono ?_); rintro r w5 ⟨rfl, hbel5⟩) | (fail))
  all_goals
    have hx1 : Below w.heap.size w (w1.alloc (.cells #[.int .u8 1, .int .u8 2, .int .u8 3] 5)).drew := btd (bta hbel (Nat.le_refl _) _)
    have hx2 := hx1.trans (hk2.below (B := w.heap.size) hx1.size (fun k hk => by rintro (h | h); (omega); (simp [Value.ownBlock] at h)))
    replace hx2 := hid hx2
    go_wp2
    go_ret
    refine ⟨rfl, ?_⟩
    repeat (first | exact hx2.out | refine btd ?_ | refine bta ?_ (Nat.le_refl _) _ | refine bt ?_ (by assumption) (Nat.le_refl _))

end Go.Proofs.Ythkclnehekbpgaa
