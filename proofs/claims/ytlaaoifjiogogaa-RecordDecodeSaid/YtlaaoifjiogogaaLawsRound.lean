/-
  The walk of the law RecordRound.
-/
import Derived.Test.YtlaaoifjiogogaaMdecl
import Derived.Test.YtlaaoifjiogogaaDecT
import Derived.Test.YtlaaoifjiogogaaMenc
namespace Go.Proofs.Ytlaaoifjiogogaa
open Go.RowKit

theorem encErr_bd (l : List Oc) : 4 ≤ encErr l ∧ encErr l ≤ 5 := by unfold encErr; split <;> omega

set_option maxRecDepth 100000 in
set_option maxHeartbeats 12800000 in
theorem Walk.recordRound {w : World} (a : Option Addr) (len cap : Nat) (hr : Rd Try.prog w 33 [.slice a len cap]) :
    Calls Try.prog 4 #[.slice a len cap] w fun r w' => r = .returned (.bool true) ∧ Below w.heap.size w w' := by
  obtain ⟨l, hl⟩ := ocs_rd hr
  clear hr
  have HL := hid hl
  obtain ⟨V, hV⟩ : ∃ V, smallOcs l 70 = V := ⟨_, rfl⟩
  have HM := hid (mocs_any (.slice a len cap) l 70 w hl V hV)
  have ss : Hid (∀ (W : World) (v : Value) (l : List UInt8), Bs W v l → (convert 22 9 v).run Try.prog W = .ok (.string ⟨l.toArray⟩) W) := fun W v l h => run_str Try.underlying22 Try.underlying5 h _ Try.underlying9
  clear hl hV
  go_enter Try.func4, Try.ntmps4
  go_wp2_with fail
  refine HM.out.mono ?_
  rintro r w1 ⟨rfl, hb1⟩
  cases V with
  | false =>
    go_wp2_with (go_at_call 11; (with_reducible refine (recawake_any _).mono ?_); rintro r w2 ⟨rfl, hb2⟩)
    go_ret
    exact ⟨rfl, bt hb1 hb2 (Nat.le_refl _)⟩
  | true =>
    go_wp2_with fail
    refine (recEncode_any _ l w1 (HL.out.keep hb1)).mono ?_
    rintro r w2 hp2
    cases hok : okL l with
    | false =>
      obtain ⟨rfl, hb2⟩ := hp2.2 hok
      have HOK := hid hok
      have hbw2 := bt hb1 hb2 (Nat.le_refl _)
      obtain ⟨e, he⟩ : ∃ e, encErr l = e := ⟨_, rfl⟩
      have hbd := encErr_bd l
      rw [he] at hbd ⊢
      replace he := hid he
      obtain ⟨hbd1, hbd2⟩ := hbd
      have he0 : (e != 0) = true := by rw [bne_iff_ne]; omega
      have hee : (e != e) = false := by simp
      clear hp2 hok hb1 hb2
      go_wp2_with fail
      refine (refEncode_any _ l w2 (HL.out.keep hbw2)).mono ?_
      rintro r w3 hp3
      obtain ⟨rfl, hb3⟩ := hp3.2 HOK.out
      rw [he.out]
      have e1 := ss.out w3 _ _ (Bs.nil w3)
      have hbw3 := bt hbw2 hb3 (Nat.le_refl _)
      clear hp3 hb3 hbw2
      go_wp2_with (go_at_call 11; (with_reducible refine (recawake_any _).mono ?_); rintro r w4 ⟨rfl, hb4⟩)
      go_ret
      exact ⟨rfl, bt hbw3 hb4 (Nat.le_refl _)⟩
    | true =>
      obtain ⟨a2, c2, rfl, hB2, hb2, _⟩ := hp2.1 hok
      have HOK := hid hok
      have HD := hid (decL_enc hok)
      have hbw2 := bt hb1 hb2 (Nat.le_refl _)
      have HB2 := hid hB2
      clear hp2 hok hb1 hb2 hB2
      go_wp2_with fail
      refine (refEncode_any _ l w2 (HL.out.keep hbw2)).mono ?_
      rintro r w3 hp3
      obtain ⟨a3, c3, rfl, hB3, hb3, _⟩ := hp3.1 HOK.out
      have e1 := ss.out w3 _ _ (HB2.out.keep hb3)
      have e2 := ss.out w3 _ _ hB3
      have hbw3 := bt hbw2 hb3 (Nat.le_refl _)
      have HB3 := hid (HB2.out.keep hb3)
      clear hp3 hb3 hbw2 hB3 HB2
      generalize hL : encL l = L at *
      replace hL := hid hL
      go_wp2_with fail
      refine (recDecode_any _ _ _ L w3 HB3.out (hid fun a n c b w h => rdec_any a n c b w h)).mono ?_
      rintro r w4 hp4
      rcases hp4 with ⟨m, v, hm, rfl, hO, hb4⟩ | ⟨hm, _⟩
      · rw [HD.out] at hm
        cases hm
        have hbw4 := bt hbw3 hb4 (Nat.le_refl _)
        have HO := hid hO
        clear hO hb4 e1 e2
        obtain ⟨va, vc, rfl, _⟩ := id HO.out
        go_wp2_with fail
        refine (recawake_any _).mono ?_
        rintro r w5 ⟨rfl, hb5⟩
        have hbw5 := bt hbw4 hb5 (Nat.le_refl _)
        have HO5 := hid (HO.out.keep hb5)
        clear hb5
        go_wp2_with fail
        refine (sameL_any _ _ l w5 (HL.out.keep hbw5) HO5.out).mono ?_
        rintro r w6 ⟨rfl, hb6⟩
        go_wp2
        go_ret
        exact ⟨rfl, bt hbw5 hb6 (Nat.le_refl _)⟩
      · rw [HD.out] at hm
        cases hm

end Go.Proofs.Ytlaaoifjiogogaa
