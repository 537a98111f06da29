/-
  Texts 33 of the claim.
-/
import Derived.Test.YtipnamoocemeeaaGreatD32
import Derived.Test.YtipnamoocemeeaaGreatD31
import Derived.Test.YtipnamoocemeeaaGreatD26
import Derived.Deep.CutBlock
import Derived.Deep.CutRange
namespace Go.Proofs.YtipnamoocemeeaaGreat
open Go.RowKit
theorem SwS.fed {P M Q : Nat → Prop} {W W2 : World} {g gp : Nat} {c : Cf} {x : Sp} {sv : Value} {fa : Option Addr} {fc : Nat} {cs : List Value} (h : SwS P M Q W g c x sv (.pointer (some ⟨gp, 0, none⟩)) fa fc cs) (hlt : x.at_ < c.units) {p : Pb}
    (hf : PbFed Q (W.setCell ⟨g, 19, none⟩ (.int .i64 (x.cnt + 1))) gp c.win p W2) :
    ∃ M', SwS (Grw P W W2) M' (Grw Q (W.setCell ⟨g, 19, none⟩ (.int .i64 (x.cnt + 1))) W2) W2 g c { x with pb := p, cnt := x.cnt + 1 } sv (.pointer (some ⟨gp, 0, none⟩)) fa fc cs ∧ Keeps M W W2 ∧ (∀ j, j < W.heap.size → M' j → M j) := by
  obtain ⟨W1, hW1⟩ : ∃ X, W.setCell ⟨g, 19, none⟩ (.int .i64 (x.cnt + 1)) = X := ⟨_, rfl⟩
  have hk1 : Keeps (· = g) W W1 := by rw [← hW1]; exact (Keeps.refl _ _).set _ _ rfl
  have hz1 : W1.heap.size = W.heap.size := by rw [← hW1]; simp
  have h1 : SwI W1 g c sv (.pointer (some ⟨gp, 0, none⟩)) (.slice fa x.fd.length fc) x.at_ (x.cnt + 1) := by
    rw [← hW1]
    exact hpSetP (C := SwC c sv (.pointer (some ⟨gp, 0, none⟩)) (.slice fa x.fd.length fc) x.at_ (x.cnt + 1)) (i := 19) (u := .int .i64 (x.cnt + 1)) h.at_ rfl
  rw [hW1] at hf ⊢
  obtain ⟨hp, hk2⟩ := hf
  have hk : Keeps (fun j => j = g ∨ Q j) W W2 := (hk1.mono (fun j _ e => .inl e)).trans (hk2.mono (fun j _ e => .inr e)) (fun _ _ e => e)
  have hI : SwI W2 g c sv (.pointer (some ⟨gp, 0, none⟩)) (.slice fa x.fd.length fc) x.at_ (x.cnt + 1) := hpKeeps h1 hk2 (fun e => (h.qm g e).2 rfl)
  have hq : Grw Q W1 W2 gp := by obtain ⟨_, _, _, _, _, _, h, _⟩ := hp; exact h
  obtain ⟨a1, a2, a3⟩ := h.to (Q' := Grw Q W1 W2) (at' := x.at_) (pb' := p) (cnt' := x.cnt + 1) (pv' := .pointer (some ⟨gp, 0, none⟩)) hk hI (fun j e => by
    rcases e with e | e
    · exact .inl e
    · exact .inr ⟨by omega, e.2⟩) (fun _ => ⟨gp, rfl, hq, hp⟩) (fun hl => by omega)
  exact ⟨_, a1, a2, a3⟩
end Go.Proofs.YtipnamoocemeeaaGreat

namespace Go.Proofs.YtipnamoocemeeaaGreat
open Go.RowKit
end Go.Proofs.YtipnamoocemeeaaGreat

namespace Go.Proofs.YtipnamoocemeeaaGreat
open Go.RowKit
def FdR (W : World) (r : List Value) (f : Fd) : Prop := ∃ ov sv mv, r = (DvF f ov sv mv).toList ∧ DvRd W f.d ov sv mv
def Fds (W : World) (v : Value) (l : List Fd) : Prop := Sls 21 FdR W v l
theorem DvRd.below {w w' : World} {d : Dv} {ov sv : Value} {mv : Nat → Value} (h : DvRd w d ov sv mv) (hb : Below w.heap.size w w') : DvRd w' d ov sv mv :=
  ⟨h.1.keep hb, h.2.1.keep hb, fun k hk => (h.2.2 k hk).keep hb⟩
theorem FdR.keep (w w' : World) (r : List Value) (x : Fd) (h : FdR w r x) (hb : Below w.heap.size w w') : FdR w' r x := by
  obtain ⟨ov, sv, mv, e, hr⟩ := h
  exact ⟨ov, sv, mv, e, hr.below hb⟩
theorem Fds.keep {w w' : World} {v : Value} {l : List Fd} (h : Fds w v l) (hb : Below w.heap.size w w') : Fds w' v l := Sls.keep FdR.keep h hb
theorem Fds.of_q {F : Nat → Prop} {W : World} {v : Value} {cs : List Value} {l : List Fd} (ho : W.ownsRow 0 91 21 v l.length cs) (hd : CsL 21 (DvQ F W) cs l) : Fds W v l :=
  Sls.of_own ho (CsL.mono (fun r f h => by
    obtain ⟨ov, sv, mv, e, hr⟩ := h
    exact ⟨ov, sv, mv, e, hr W (Keeps.refl _ _)⟩) _ _ hd) rfl
theorem SwS.fds {P M Q : Nat → Prop} {W : World} {g : Nat} {c : Cf} {x : Sp} {sv pv : Value} {fa : Option Addr} {fc : Nat} {cs : List Value} (h : SwS P M Q W g c x sv pv fa fc cs) : Fds W (.slice fa x.fd.length fc) x.fd := Fds.of_q h.own h.dv
theorem Fds.slc {W : World} {v : Value} {l : List Fd} (h : Fds W v l) : ∃ a c, v = .slice a l.length c := by
  obtain ⟨a, c, e, _⟩ := h
  exact ⟨a, c, e⟩
theorem Fds.at {W : World} {a : Option Addr} {n c : Nat} {l : List Fd} (h : Fds W (.slice a n c) l) {i : Nat} {f : Fd} (hi : l[i]? = some f) :
    ∃ b o ov sv mv, a = some ⟨b, o, none⟩ ∧ DvRd W f.d ov sv mv ∧ ∀ X, Below W.heap.size W X → ∀ j u, (DvF f ov sv mv).toList[j]? = some u → X.cell? ((⟨b, o + i * 21, none⟩ : Addr).add j) = some u := by
  obtain ⟨-, -, -, hel⟩ := Sls.get h
  obtain ⟨b, o, ha, r, -, ⟨ov, sv, mv, rfl, hr⟩, hc⟩ := hel i f hi
  refine ⟨b, o, ov, sv, mv, ha, hr, fun X hX j u hj => ?_⟩
  have e : (⟨b, o + i * 21, none⟩ : Addr).add j = ⟨b, o + i * 21 + j, none⟩ := by unfold Addr.add; split <;> simp_all
  rw [e]
  exact cell_keep hX (hc j u hj)
end Go.Proofs.YtipnamoocemeeaaGreat

namespace Go.Proofs.YtipnamoocemeeaaGreat
open Go.RowKit
structure AgQ (F : Nat → Prop) (W W' : World) : Prop where
  size : W.heap.size ≤ W'.heap.size
  block : ∀ j, j < W.heap.size → ¬ F j → W'.heap[j]? = W.heap[j]?
theorem AgQ.of_keeps {F : Nat → Prop} {W W' : World} (h : Keeps F W W') : AgQ F W W' := ⟨h.size, h.block⟩
theorem AgQ.trans {F G : Nat → Prop} {a b c : World} (h : AgQ F a b) (k : AgQ G b c) (hG : ∀ j, j < a.heap.size → G j → F j) : AgQ F a c :=
  ⟨Nat.le_trans h.size k.size, fun j hj hn => (k.block j (Nat.lt_of_lt_of_le hj h.size) (fun e => hn (hG j hj e))).trans (h.block j hj hn)⟩
def DvA (F : Nat → Prop) (W : World) (r : List Value) (f : Fd) : Prop := ∃ ov sv mv, r = (DvF f ov sv mv).toList ∧ ∀ W', AgQ F W W' → DvRd W' f.d ov sv mv
theorem DvA.keeps {F G H : Nat → Prop} {W W' : World} (hk : Keeps H W W') (h1 : ∀ j, j < W.heap.size → H j → F j) (h2 : ∀ j, j < W.heap.size → G j → F j) (r : List Value) (f : Fd) (h : DvA F W r f) : DvA G W' r f := by
  obtain ⟨ov, sv, mv, e, hr⟩ := h
  exact ⟨ov, sv, mv, e, fun W2 h2' => hr W2 ((AgQ.of_keeps (hk.mono h1)).trans h2' h2)⟩
theorem devsStep {B k : Nat} {wr w4 w5 w6 : World} {oa a6 : Option Addr} {oc c6 : Nat} {cs' : List Value} {l : List Fd} {f : Fd} {ov dv : Value} {mv : Nat → Value} (hB : B ≤ wr.heap.size) (hown : wr.ownsRow B 91 21 (.slice oa k oc) k cs') (hcs : CsL 21 (DvA (DevF B (.slice oa k oc)) wr) cs' l)
    (hb4 : Below wr.heap.size wr w4) (hb5 : Below w4.heap.size w4 w5) (hr5 : ∀ W', Agree w4.heap.size w5 W' → DvRd W' f.d ov dv mv) {O : Obj} (hgr : (w5.alloc O).grownBy w6 (Value.slice oa k oc).ownBlock) (hnew : NewOr (w5.alloc O) (.slice oa k oc) (.slice a6 (k + 1) c6)) :
    CsL 21 (DvA (DevF B (.slice a6 (k + 1) c6)) w6) (cs' ++ (DvF f ov dv mv).toList) (l ++ [f]) ∧ Below B wr w6 := by
  have hz4 := hb4.size
  have hz5 := hb5.size
  have hb6 : Below wr.heap.size wr (w5.alloc O) := bta (bt hb4 hb5 (Nat.le_refl _)) (Nat.le_refl _) _
  have hza : (w5.alloc O).heap.size = w5.heap.size + 1 := by simp
  have hkg : Keeps (fun j => (Value.slice oa k oc).ownBlock = some j) (w5.alloc O) w6 := Keeps.of_grown hgr (fun j h => h)
  have hk : Keeps (fun j => (Value.slice oa k oc).ownBlock = some j) wr w6 := (Keeps.of_below hb6).trans hkg (fun _ _ e => e)
  have hz6 := hkg.size
  have hob : ∀ j, (Value.slice a6 (k + 1) c6).ownBlock = some j → ((Value.slice oa k oc).ownBlock = some j ∨ w5.heap.size + 1 ≤ j) := fun j hj => by
    rcases hnew with e | ⟨i, e, e2⟩
    · exact .inl (by rw [← e]; exact hj)
    · rw [hj] at e
      cases e
      exact .inr (by omega)
  have hcs2 : CsL 21 (DvA (DevF B (.slice a6 (k + 1) c6)) w6) cs' l := CsL.mono (fun r x h => DvA.keeps (F := DevF B (.slice oa k oc)) hk (fun j _ e => .inl e) (fun j hj e => by
    rcases e with e | e
    · rcases hob j e with e2 | e2
      · exact .inl e2
      · omega
    · exact .inr e) r x h) _ _ hcs
  have hnewr : DvA (DevF B (.slice a6 (k + 1) c6)) w6 (DvF f ov dv mv).toList f := ⟨ov, dv, mv, rfl, fun W' hW => hr5 W' ⟨by have := hW.size; omega, fun j hj hl => by
    have h1 : ¬ (Value.slice oa k oc).ownBlock = some j := fun e => by have := (hown.lt j e).2; omega
    rw [hW.block j (by omega) (fun e => by
      rcases e with e | e
      · rcases hob j e with e2 | e2
        · exact h1 e2
        · omega
      · omega), hkg.block j (by omega) h1, (bal' w5 O).block j hl]⟩⟩
  exact ⟨CsL.snoc rfl hnewr l _ hcs2, hk.below hB (fun j hj e => by have := (hown.lt j e).1; omega)⟩
def FdsO (B : Nat) (W : World) (v : Value) (l : List Fd) : Prop := ∃ cs, W.ownsRow B 91 21 v l.length cs ∧ CsL 21 (FdR W) cs l
theorem FdsO.fds {B : Nat} {W : World} {v : Value} {l : List Fd} (h : FdsO B W v l) : Fds W v l := by
  obtain ⟨cs, h1, h2⟩ := h
  exact Sls.of_own h1 h2 rfl
theorem FdsO.keep {B : Nat} {w w' : World} {v : Value} {l : List Fd} (h : FdsO B w v l) (hb : Below w.heap.size w w') : FdsO B w' v l := by
  obtain ⟨cs, h1, h2⟩ := h
  exact ⟨cs, own_keeps (F := fun _ => False) h1 (Keeps.of_below hb) (fun _ _ e => e), CsL.mono (fun r x hx => FdR.keep _ _ r x hx hb) _ _ h2⟩
theorem FdsO.at {B : Nat} {W : World} {a : Option Addr} {n c : Nat} {l : List Fd} (h : FdsO B W (.slice a n c) l) {i : Nat} {f : Fd} (hi : l[i]? = some f) :
    ∃ b ov sv mv, a = some ⟨b, 0, none⟩ ∧ DvRd W f.d ov sv mv ∧ (∀ j u, (DvF f ov sv mv).toList[j]? = some u → W.cell? ⟨b, i * 21 + j, none⟩ = some u) ∧ ∀ k, W.frozen? ⟨b, k, none⟩ = false := by
  obtain ⟨cs, ⟨hl, h1⟩, h2⟩ := h
  have hil := (List.getElem?_eq_some_iff.1 hi).1
  rcases h1 with ⟨_, h0⟩ | ⟨g, cap, cur, hv, -, hh, -, -, -, ht⟩
  · omega
  · obtain ⟨r, hr1, ⟨ov, sv, mv, rfl, hr⟩, hr2⟩ := CsL.get _ _ h2 i f hi
    cases hv
    refine ⟨g, ov, sv, mv, rfl, hr, fun j u hj => ?_, fun k => hpFree hh k⟩
    have h3 := hr2 j u hj
    rw [← ht, List.getElem?_take] at h3
    rw [hpCell hh]
    split at h3
    · simpa using h3
    · cases h3
def FdsPost (w : World) (l : List Fd) (r : Ending) (w' : World) : Prop :=
  ∃ v, r = .returned v ∧ (∀ W', Agree w.heap.size w' W' → FdsO w.heap.size W' v l) ∧ Below w.heap.size w w'
set_option maxRecDepth 100000 in
theorem dvFoldF (f : Fd) (ov sv : Value) (mv : Nat → Value) (C : Array Value) (hC : DvF f ov sv mv = C) : Array.foldl (fun (cs : Array Value) (x : Value × Nat) => cs.setIfInBounds x.snd x.fst) #[.int .i64 0, .int .i64 0, .int .i64 0, .int .i64 0, .int .i64 0, .slice none 0 0, .int .i64 0, .slice none 0 0, .int .i64 0, .int .i64 0, .slice none 0 0, .int .i64 0, .int .i64 0, .slice none 0 0, .int .i64 0, .int .i64 0, .slice none 0 0, .int .i64 0, .int .i64 0, .slice none 0 0, .string ⟨#[]⟩] C.zipIdx 0 C.size = C := by
  subst hC
  kernel_rfl
set_option maxRecDepth 100000 in
set_option maxHeartbeats 6400000 in
theorem swdevs_any {P : Nat → Prop} {w : World} {g : Nat} {c : Cf} {x : Sp} (h : SwAt P w g c x) (hf : ∀ f ∈ x.fd, f.d.small) (hm : x.fd.length ≤ 1000000) :
    Calls Tryz.prog 17 #[.pointer (some ⟨g, 0, none⟩)] w (FdsPost w x.fd) := by
  obtain ⟨M, Q, sv, pv, fa, fc, cs0, hs⟩ := h
  have c18 : w.cell? ⟨g, 18, none⟩ = some (.slice fa x.fd.length fc) := hpCell hs.at_ 18
  have HROW := hid hs.fds
  obtain ⟨l, hl⟩ : ∃ l, x.fd = l := ⟨_, rfl⟩
  rw [hl] at hf hm c18 HROW ⊢
  clear hl hs
  obtain ⟨n, hn⟩ : ∃ n, l.length = n := ⟨_, rfl⟩
  rw [hn] at hm c18 HROW
  have HN := hid hn
  have HF := hid hf
  obtain ⟨i5, hi, hz0, hz1, hz2⟩ := info_parts infoDv
  clear hn hf
  go_enter Tryz.func17, Tryz.ntmps17
  go_wp2
  clear c18
  go_loopw [3, 13] (fun ov iv wr => ∃ (k : Nat) (oa : Option Addr) (oc : Nat) (cs : List Value), k ≤ n ∧ iv = .int .i64 k ∧ ov = .slice oa k oc ∧ Hid (wr.ownsRow w.heap.size 91 21 (.slice oa k oc) k cs) ∧ Hid (CsL 21 (DvA (DevF w.heap.size (.slice oa k oc)) wr) cs (l.take k)) ∧ Below w.heap.size w wr) (fun _ iv _ => n - (intOf iv).toNat)
  case atStart => exact ⟨0, none, 0, [], Nat.zero_le _, rfl, rfl, World.ownsRow_nil _ _ _ _, rfl, Below.refl _ _⟩
  case round =>
    obtain ⟨k, oa, oc, cs', hk, rfl, rfl, hown, hcs, hbw⟩ := hrel
    by_cases hlt : k < n
    · obtain ⟨f, hgx⟩ := get_some (l := l) rfl (by rw [HN.out]; exact hlt)
      obtain ⟨b, o, ov, dv, mv, rfl, hr, hcl⟩ := Fds.at HROW.out hgx
      obtain ⟨DF, hDF⟩ : ∃ C, DvF f ov dv mv = C := ⟨_, rfl⟩
      have hDs : DF.size = 21 := by rw [← hDF]; rfl
      have hDi : (Tryz.prog.info? 91).map (·.size) = some DF.size := by rw [hDs]; exact info21
      have hone : DF.toList.all (·.oneCell') = true := by rw [← hDF]; exact DvF_one hr
      have hsm := HF.out f (List.mem_of_getElem? hgx)
      have HCL : Hid (∀ X, Below w.heap.size w X → Calls Tryz.prog 53 #[.agg DF] X (FlPost X f)) := fun X hX => by rw [← hDF]; exact clone_fd f hsm ov dv mv X (hr.below hX)
      rw [hDF] at hcl
      have hck := hcl wr hbw
      have hki : (0 : Int) ≤ (k : Int) := Int.natCast_nonneg _
      have hkl : (k : Int) < (n : Int) := by omega
      have HDS := hid hDs
      have HGX := hid hgx
      have HBW := hid hbw
      clear hcl hr hDF hsm hDs hgx
      go_upto_region 8 with (first
        | (refine wpList_load_at rfl 91 (.tmp 15) rfl ⟨b, o + k * 21, none⟩ rfl DF _ hck Tryz.underlying91 rfl hDi ?_)
        | (refine wpList_storeW rfl 91 (.tmp 5) (.tmp 16) rfl wr.heap.size 0 _ 91 DF rfl rfl (hpNew wr (.cells #[.int .i64 0, .int .i64 0, .int .i64 0, .int .i64 0, .int .i64 0, .slice none 0 0, .int .i64 0, .slice none 0 0, .int .i64 0, .int .i64 0, .slice none 0 0, .int .i64 0, .int .i64 0, .slice none 0 0, .int .i64 0, .int .i64 0, .slice none 0 0, .int .i64 0, .int .i64 0, .slice none 0 0, .string ⟨#[]⟩] 91)) (by simp [HDS.out]) hDi hone ?_; intro w4 g4 hk4 hz4; have g4' : w4.heap[wr.heap.size]? = some (.cells DF 91) := (by rw [g4, List.drop_eq_nil_of_le (by simp [HDS.out])]; simp); have hb4 : Below wr.heap.size wr w4 := (bal' wr (.cells #[.int .i64 0, .int .i64 0, .int .i64 0, .int .i64 0, .int .i64 0, .slice none 0 0, .int .i64 0, .slice none 0 0, .int .i64 0, .int .i64 0, .slice none 0 0, .int .i64 0, .int .i64 0, .slice none 0 0, .int .i64 0, .int .i64 0, .slice none 0 0, .int .i64 0, .int .i64 0, .slice none 0 0, .string ⟨#[]⟩] 91)).trans (hk4.below (by simp) (fun j hj e => by omega)); have HB4 := hid hb4)
        | (refine wpList_load_row rfl 91 (.tmp 5) rfl wr.heap.size rfl 91 DF (0, 0) _ g4' Tryz.underlying91 rfl hDi ?_)
        | (go_at_call 53; (with_reducible refine (HCL.out _ (bt HBW.out HB4.out (Nat.le_refl _))).mono ?_); rintro r w5 ⟨ov5, dv5, mv5, rfl, hr5, hb5⟩; obtain ⟨D5, hD5⟩ : ∃ C, DvF f ov5 dv5 mv5 = C := ⟨_, rfl⟩; have hfold := dvFoldF f ov5 dv5 mv5 D5 hD5; have hs5 : D5.size = 21 := (by rw [← hD5]; rfl); have hone5 : ∀ u ∈ D5.toList, u.oneCell' = true := (by rw [← hD5]; exact List.all_eq_true.1 (DvF_one (hr5 w5 (Agree.refl _ _)))); rw [hs5] at hfold; rw [hD5]; have HFO := hid hfold; have HON := hid hone5; have HS5 := hid hs5; have HR5 := hid hr5; have HB5 := hid hb5; have HD5 := hid hD5; clear hD5 hfold hone5 hr5 hb5)
        | (at_builtin; rw [HFO.out]; refine wpList_appN rfl (.tmp 17) (.tmp 20) 44 rfl w.heap.size 91 i5 _ 21 272 Tryz.underlying44 hi hz0 hz1 hz2 rfl (by decide) (.slice oa k oc) k cs' rfl ((own_keeps (F := fun _ => False) hown.out (Keeps.of_below (bta (bt HB4.out HB5.out (Nat.le_refl _)) (Nat.le_refl _) _)) (fun _ _ e => e))) ⟨w5.heap.size, 0, none⟩ 1 1 D5.toList rfl (by rw [Array.length_toList, HS5.out]) (fun j u hj => hpRowAt2 (hpNew w5 (.cells D5 91)) j u hj) HON.out (by unfold maxLen; omega) (by omega) (by have := HBW.out.size; have := HB4.out.size; have := HB5.out.size; simp; omega) ?_; intro v6 w6 hown6 hgr6 hnew6; obtain ⟨a6, c6, rfl⟩ := own_slice hown6; have HO6 := hid hown6; have HG6 := hid hgr6; have HN6 := hid hnew6; clear hown6 hgr6 hnew6))
      have hstep := devsStep HBW.out.size hown.out hcs.out HB4.out HB5.out HR5.out HG6.out HN6.out
      have HC7 : Hid (CsL 21 (DvA (DevF w.heap.size (.slice a6 (k + 1) c6)) w6) (cs' ++ D5.toList) (l.take (k + 1))) := by
        show CsL _ _ _ _
        rw [take_succ_snoc HGX.out, ← HD5.out]
        exact hstep.1
      have hb7 : Below w.heap.size w w6 := HBW.out.trans hstep.2
      clear hstep
      go_wp2
      go_roundw
      case rel => exact ⟨k + 1, a6, c6, _, by omega, by go_num, rfl, HO6.out, HC7.out, hb7⟩
      case measure => simp [intOf]; omega
    · obtain rfl : k = n := by omega
      have HRD : Hid (∀ W', Agree w.heap.size wr W' → FdsO w.heap.size W' (.slice oa k oc) l) := fun W' hW => by
        have h1 := hcs.out
        rw [List.take_of_length_le (by rw [HN.out]; exact Nat.le_refl _)] at h1
        refine ⟨cs', by rw [HN.out]; exact own_agree (B := w.heap.size) hown.out (Nat.le_refl _) hW, CsL.mono (fun r x h => by
          obtain ⟨ov, sv, mv, e, hr⟩ := h
          exact ⟨ov, sv, mv, e, hr W' ⟨hW.size, fun j hj hn => hW.block j (by
            by_cases e2 : w.heap.size ≤ j
            · exact e2
            · exact absurd (Or.inr (by omega)) hn) hj⟩⟩) _ _ h1⟩
      clear hcs hown
      go_wp2
      go_ret
      exact ⟨_, rfl, HRD.out, hbw⟩
end Go.Proofs.YtipnamoocemeeaaGreat
