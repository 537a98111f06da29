/-
  The walks of the laws StoreNew, StoreOwn.
-/
import Derived.Test.YthkclnehekbpgaaLawsStore
import Derived.Test.YthkclnehekbpgaaMake
namespace Go.Proofs.Ythkclnehekbpgaa
open Go.RowKit

set_option maxHeartbeats 1600000 in
theorem Walk.storeNew (c : Int) (_wc : (Lit.int .i64 c).wf = true) (n : Int) (_wn : (Lit.int .i64 n).wf = true) (v : Value) (l : List UInt8) (w : World) (hv : Bs w v l) :
    Calls Try.prog 7 #[.int .i64 c, .int .i64 n, v] w fun r w' => r = .returned (.bool true) ∧ Below w.heap.size w w' := by
  by_cases h0 : 0 ≤ c
  · by_cases h1 : c ≤ 1000000
    · obtain ⟨k, rfl⟩ := Int.eq_ofNat_of_zero_le h0
      have hk : k ≤ 1000000 := by omega
      clear hv _wn _wc
      go_enter Try.func7, Try.ntmps7
      go_wp2_with (first | (go_at_call 25; refine (new_ok k hk _ w.heap.size (Nat.le_refl _)).mono ?_; rintro r w1 ⟨rfl, hs, hbel, hlt⟩) | (go_at_call 28; (with_reducible refine (stawake_any _).mono ?_); rintro r w2 ⟨rfl, hbel2⟩) | (go_at_call 32; refine (len_any _ _ _ _ _ _ (hs.below hbel2)).mono ?_; rintro r w3 ⟨rfl, rfl⟩) | (go_at_call 33; refine (room_any _ _ _ _ _ _ (hs.below hbel2) (by simp) hk).mono ?_; rintro r w3 ⟨rfl, hbel3⟩) | fail)
      go_ret
      refine ⟨rfl, ?_⟩
      exact bt (bt hbel hbel2 (Nat.le_refl _)) hbel3 (Nat.le_refl _)
    · have hc : 1000000 < c := by omega
      clear _wn _wc
      go_enter Try.func7, Try.ntmps7
      go_wp2_with (first | (go_at_call 25; refine (new_no c (.inr hc) _).mono ?_; rintro r w1 ⟨rfl, rfl⟩) | (go_at_call 28; (with_reducible refine (stawake_any _).mono ?_); rintro r w2 ⟨rfl, hbel2⟩; have hv2 := hv.keep hbel2; have N1 := hid (nil_all w2); have N2 := hid (nil_more w2 v l hv2 n)) | (go_at_call 26; (with_reducible refine N2.out.1.mono ?_); rintro r w3 ⟨rfl, rfl⟩) | (go_at_call 30; (with_reducible refine N2.out.2.1.mono ?_); rintro r w3 ⟨rfl, rfl⟩) | (go_at_call 31; (with_reducible refine N2.out.2.2.mono ?_); rintro r w3 ⟨rfl, rfl⟩) | (go_at_call 27; (with_reducible refine N1.out.2.2.mono ?_); rintro r w3 ⟨rfl, rfl⟩) | (go_at_call 32; (with_reducible refine N1.out.2.1.mono ?_); rintro r w3 ⟨rfl, rfl⟩) | (go_at_call 33; (with_reducible refine N1.out.1.mono ?_); rintro r w3 ⟨rfl, rfl⟩) | fail)
      go_ret
      exact ⟨rfl, hbel2⟩
  · have hc : c < 0 := by omega
    clear _wn _wc
    go_enter Try.func7, Try.ntmps7
    go_wp2_with (first | (go_at_call 25; refine (new_no c (.inl hc) _).mono ?_; rintro r w1 ⟨rfl, rfl⟩) | (go_at_call 28; (with_reducible refine (stawake_any _).mono ?_); rintro r w2 ⟨rfl, hbel2⟩; have hv2 := hv.keep hbel2; have N1 := hid (nil_all w2); have N2 := hid (nil_more w2 v l hv2 n)) | (go_at_call 26; (with_reducible refine N2.out.1.mono ?_); rintro r w3 ⟨rfl, rfl⟩) | (go_at_call 30; (with_reducible refine N2.out.2.1.mono ?_); rintro r w3 ⟨rfl, rfl⟩) | (go_at_call 31; (with_reducible refine N2.out.2.2.mono ?_); rintro r w3 ⟨rfl, rfl⟩) | (go_at_call 27; (with_reducible refine N1.out.2.2.mono ?_); rintro r w3 ⟨rfl, rfl⟩) | (go_at_call 32; (with_reducible refine N1.out.2.1.mono ?_); rintro r w3 ⟨rfl, rfl⟩) | (go_at_call 33; (with_reducible refine N1.out.1.mono ?_); rintro r w3 ⟨rfl, rfl⟩) | fail)
    go_ret
    exact ⟨rfl, hbel2⟩

end Go.Proofs.Ythkclnehekbpgaa
