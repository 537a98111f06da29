/-
  Texts 42 of the claim.
-/
import Derived.Test.YtpkheiaanjhffaaGreatU38
import Derived.Test.YtpkheiaanjhffaaGreatU41
namespace Go.Proofs.YtpkheiaanjhffaaGreat
open Go.RowKit
theorem infoSn : (Tryz.prog.info? 123).map (fun i => (i.zero, i.size, i.bytes)) = some (some (.agg #[.int .i64 0, .int .i64 0, .slice none 0 0]), 3, 40) := by kernel_rfl
theorem PnR.blk {P : Nat → Prop} {W : World} {v : Value} {l : List Ch} (h : PnR P W v l) : ∀ j, v.ownBlock = some j → P j := fun j hj => by
  rcases h with ⟨rfl, _⟩ | ⟨g, o, c, N, rfl, h2, h3, h4, h5, h6⟩
  · cases hj
  · injection hj with hj
    subst hj
    exact h6
theorem PnR.own' {P : Nat → Prop} {W : World} {v : Value} {l : List Ch} (h : PnR P W v l) : PnR (fun j => v.ownBlock = some j) W v l := by
  rcases h with h | ⟨g, o, c, N, rfl, h2, h3, h4, h5, h6⟩
  · exact .inl h
  · exact .inr ⟨g, o, c, N, rfl, h2, h3, h4, h5, rfl⟩
def SnQ (F : Nat → Prop) (W : World) (r : List Value) (x : (Int × Int) × List UInt8) : Prop := ∃ a c, r = [.int .i64 x.1.1, .int .i64 x.1.2, .slice a x.2.length c] ∧ ∀ X, Keeps F W X → Bs X (.slice a x.2.length c) x.2
theorem SnQ.keeps {F G H : Nat → Prop} {W W' : World} (hk : Keeps H W W') (h1 : ∀ j, j < W.heap.size → H j → F j) (h2 : ∀ j, j < W.heap.size → G j → F j) (r : List Value) (x : (Int × Int) × List UInt8) (h : SnQ F W r x) : SnQ G W' r x := by
  obtain ⟨a, c, e, hr⟩ := h
  exact ⟨a, c, e, fun X hX => hr X ((hk.mono h1).trans hX h2)⟩
def LnF (P : Nat → Prop) (g : Nat) (tv pv : Value) (j : Nat) : Prop := j = g ∨ tv.ownBlock = some j ∨ pv.ownBlock = some j ∨ ¬ P j
structure LnS (P : Nat → Prop) (W : World) (g : Nat) (sv av : Value) (lp : Bool) (s : Ln) (tv pv : Value) (cs : List Value) : Prop where
  at_ : W.heap[g]? = some (.cells (LnC sv av lp (.slice none 0 0) tv pv s.free s.heard s.last) 113)
  pg : P g
  pl : ∀ j, P j → j < W.heap.size
  sn : W.ownsRow 0 123 3 tv s.sent.length cs
  tb : ∀ j, tv.ownBlock = some j → j ≠ g ∧ P j
  pn : PnR (fun j => j ≠ g ∧ tv.ownBlock ≠ some j ∧ P j) W pv s.pend
  sc : CsL 3 (SnQ (LnF P g tv pv) W) cs s.sent
def LnAt (P : Nat → Prop) (W : World) (g : Nat) (sv av : Value) (lp : Bool) (s : Ln) : Prop := ∃ tv pv cs, LnS P W g sv av lp s tv pv cs
theorem LnS.keep {P F : Nat → Prop} {W X : World} {g : Nat} {sv av : Value} {lp : Bool} {s : Ln} {tv pv : Value} {cs : List Value} (h : LnS P W g sv av lp s tv pv cs) (hk : Keeps F W X) (hn : ∀ j, P j → ¬ F j) : LnS P X g sv av lp s tv pv cs :=
  ⟨hpKeeps h.at_ hk (hn g h.pg), h.pg, fun j hj => Nat.lt_of_lt_of_le (h.pl j hj) hk.size, own_keeps h.sn hk (fun j hj => hn j (h.tb j hj).2), h.tb, h.pn.keeps hk (fun j hj => hn j hj.2.2),
    CsL.mono (fun r y hy => SnQ.keeps hk (fun j _ e => .inr (.inr (.inr (fun hp => hn j hp e)))) (fun _ _ e => e) r y hy) _ _ h.sc⟩
theorem LnS.keepB {P : Nat → Prop} {W X : World} {g : Nat} {sv av : Value} {lp : Bool} {s : Ln} {tv pv : Value} {cs : List Value} (h : LnS P W g sv av lp s tv pv cs) (hb : Below W.heap.size W X) : LnS P X g sv av lp s tv pv cs := h.keep (F := fun _ => False) (Keeps.of_below hb) (fun _ _ e => e)
theorem LnAt.keep {P F : Nat → Prop} {W X : World} {g : Nat} {sv av : Value} {lp : Bool} {s : Ln} (h : LnAt P W g sv av lp s) (hk : Keeps F W X) (hn : ∀ j, P j → ¬ F j) : LnAt P X g sv av lp s := by
  obtain ⟨tv, pv, cs, h⟩ := h
  exact ⟨tv, pv, cs, h.keep hk hn⟩
theorem LnS.chg {P : Nat → Prop} {W W' : World} {g : Nat} {sv av : Value} {lp : Bool} {s s' : Ln} {tv pv pv' : Value} {cs : List Value} (h : LnS P W g sv av lp s tv pv cs)
    (hk : Keeps (fun j => j = g ∨ pv.ownBlock = some j) W W') (h' : W'.heap[g]? = some (.cells (LnC sv av lp (.slice none 0 0) tv pv' s'.free s'.heard s'.last) 113)) (hs : s'.sent = s.sent)
    (pn' : PnR (fun j => pv.ownBlock = some j ∨ (W.heap.size ≤ j ∧ j < W'.heap.size)) W' pv' s'.pend) : LnS (GrowP P W W') W' g sv av lp s' tv pv' cs ∧ Keeps P W W' := by
  have hgl : g < W.heap.size := hpLt h.at_
  have hpv := h.pn.blk
  refine ⟨⟨h', .inl h.pg, fun j hj => hj.lt h.pl hk.size, ?_, fun j hj => ⟨(h.tb j hj).1, .inl (h.tb j hj).2⟩, pn'.mono (fun j hj => ?_), ?_⟩, hk.mono (fun j _ e => ?_)⟩
  · rw [hs]
    exact own_keeps h.sn hk (fun j hj e => by
      rcases e with e | e
      · exact (h.tb j hj).1 e
      · exact (hpv j e).2.1 hj)
  · rcases hj with e | ⟨e, e2⟩
    · obtain ⟨a, b, c⟩ := hpv j e
      exact ⟨a, b, .inl c⟩
    · exact ⟨by omega, fun e3 => by have := h.pl j (h.tb j e3).2; omega, .inr ⟨e, e2⟩⟩
  · rw [hs]
    refine CsL.mono (fun r y hy => SnQ.keeps hk (fun j _ e => ?_) (fun j hj e => ?_) r y hy) _ _ h.sc
    · rcases e with e | e
      · exact .inl e
      · exact .inr (.inr (.inl e))
    · rcases e with e | e | e | e
      · exact .inl e
      · exact .inr (.inl e)
      · rcases pn'.blk j e with e | e
        · exact .inr (.inr (.inl e))
        · omega
      · exact .inr (.inr (.inr (fun hp => e (.inl hp))))
  · rcases e with e | e
    · subst e
      exact h.pg
    · exact (hpv j e).2.2
theorem LnS.sentMore {P : Nat → Prop} {W W' : World} {g : Nat} {sv av : Value} {lp : Bool} {s : Ln} {tv pv tv' : Value} {cs : List Value} (h : LnS P W g sv av lp s tv pv cs) {fr : Int} {x : (Int × Int) × List UInt8} {a : Option Addr} {c : Nat}
    (hk : Keeps (fun j => j = g ∨ tv.ownBlock = some j) W W') (h' : W'.heap[g]? = some (.cells (LnC sv av lp (.slice none 0 0) tv' pv fr s.heard s.last) 113))
    (ho : W'.ownsRow 0 123 3 tv' (s.sent.length + 1) (cs ++ [.int .i64 x.1.1, .int .i64 x.1.2, .slice a x.2.length c])) (hnew : ∀ j, tv'.ownBlock = some j → tv.ownBlock = some j ∨ (W.heap.size ≤ j ∧ j < W'.heap.size))
    (hb : ∀ X, Keeps (fun j => j < W.heap.size ∨ tv'.ownBlock = some j) W' X → Bs X (.slice a x.2.length c) x.2) :
    LnS (GrowP P W W') W' g sv av lp { s with sent := s.sent ++ [x], free := fr } tv' pv (cs ++ [.int .i64 x.1.1, .int .i64 x.1.2, .slice a x.2.length c]) ∧ Keeps P W W' := by
  have hgl : g < W.heap.size := hpLt h.at_
  have hpv := h.pn.blk
  have hF : ∀ j, j < W.heap.size → LnF (GrowP P W W') g tv' pv j → LnF P g tv pv j := fun j hj e => by
    rcases e with e | e | e | e
    · exact .inl e
    · rcases hnew j e with e | e
      · exact .inr (.inl e)
      · omega
    · exact .inr (.inr (.inl e))
    · exact .inr (.inr (.inr (fun hp => e (.inl hp))))
  refine ⟨⟨h', .inl h.pg, fun j hj => hj.lt h.pl hk.size, ?_, fun j hj => ?_, (h.pn.keeps hk (fun j hj e => ?_)).mono (fun j hj => ⟨hj.1, fun e => ?_, .inl hj.2.2⟩), ?_⟩, hk.mono (fun j _ e => ?_)⟩
  · show World.ownsRow _ 0 _ 3 tv' (s.sent ++ [x]).length _
    rw [List.length_append]
    exact ho
  · rcases hnew j hj with e | e
    · exact ⟨(h.tb j e).1, .inl (h.tb j e).2⟩
    · exact ⟨by omega, .inr e⟩
  · rcases e with e | e
    · exact hj.1 e
    · exact hj.2.1 e
  · rcases hnew j e with e | e
    · exact hj.2.1 e
    · have := h.pl j hj.2.2
      omega
  · refine CsL.app _ _ (CsL.mono (fun r y hy => SnQ.keeps hk (fun j _ e => ?_) hF r y hy) _ _ h.sc) [x] _ ⟨_, [], (List.append_nil _).symm, rfl, ⟨a, c, rfl, fun X hX => hb X (hX.mono (fun j hj e => ?_))⟩, rfl⟩
    · rcases e with e | e
      · exact .inl e
      · exact .inr (.inl e)
    · by_cases hjl : j < W.heap.size
      · exact .inl hjl
      · rcases e with e | e | e | e
        · omega
        · exact .inr e
        · have := h.pl j (hpv j e).2.2
          omega
        · exact absurd (.inr ⟨by omega, hj⟩) e
  · rcases e with e | e
    · subst e
      exact h.pg
    · exact (h.tb j e).2
set_option maxRecDepth 100000 in
set_option maxHeartbeats 1600000 in
theorem ins_zero (a : Option Addr) (c : Nat) (cf : Value) (w : World) : Calls Tryz.prog 114 #[.slice a 0 c, .int .i64 0, .int .i64 0, cf] w fun r w' => r = .returned (.tuple #[]) ∧ w = w' := by
  go_enter Tryz.func114, Tryz.ntmps114
  go_upto_region 1 with (fail)
  go_loopw [8] (fun v wr => v = .int .i64 1 ∧ w = wr) (fun _ _ => 0)
  case atStart => exact ⟨rfl, rfl⟩
  case round =>
    obtain ⟨rfl, rfl⟩ := hrel
    go_wp2
    go_end0
    exact ⟨rfl, rfl⟩
set_option maxRecDepth 100000 in
set_option maxHeartbeats 1600000 in
theorem stable_zero (a : Option Addr) (c : Nat) (cf : Value) (w : World) : Calls Tryz.prog 101 #[.slice a 0 c, .int .i64 0, cf] w fun r w' => r = .returned (.tuple #[]) ∧ w = w' := by
  have HI : Hid (∀ X, Calls Tryz.prog 114 #[.slice a 0 c, .int .i64 0, .int .i64 0, cf] X fun r w' => r = .returned (.tuple #[]) ∧ X = w') := ins_zero a c cf
  go_enter Tryz.func101, Tryz.ntmps101
  go_upto_region 2 with (fail)
  go_loopw [7, 8] (fun av bv wr => av = .int .i64 0 ∧ bv = .int .i64 20 ∧ w = wr) (fun _ _ _ => 0)
  case atStart => exact ⟨rfl, rfl, rfl⟩
  case round =>
    obtain ⟨rfl, rfl, rfl⟩ := hrel
    go_upto_region 7 with (go_at_call 114; (with_reducible refine (HI.out _).mono ?_); rintro r w2 ⟨rfl, rfl⟩)
    go_loopw [6, 7, 8, 9] (fun sv _ _ _ wr => sv = .int .i64 20 ∧ w = wr) (fun _ _ _ _ _ => 0)
    case atStart => exact ⟨rfl, rfl⟩
    case round =>
      obtain ⟨rfl, rfl⟩ := hrel
      go_wp2
      go_end0
      exact ⟨rfl, rfl⟩
theorem sort_zero (a : Option Addr) (c : Nat) (cf : Value) (w : World) : Calls Tryz.prog 86 #[.slice a 0 c, cf] w fun r w' => r = .returned (.tuple #[]) ∧ w = w' := by
  have HS := hid (stable_zero a c cf w)
  go_enter Tryz.func86, Tryz.ntmps86
  go_wp2_with (go_at_call 101; (with_reducible refine HS.out.mono ?_); rintro r w2 ⟨rfl, rfl⟩)
  go_end0
  exact ⟨rfl, rfl⟩
def SoPost (w : World) (v : Value) (l : List Ch) (r : Ending) (w' : World) : Prop := r = .returned (.tuple #[]) ∧ PnR (fun j => v.ownBlock = some j) w' v l ∧ Keeps (fun j => v.ownBlock = some j) w w'
theorem sort_pn {P : Nat → Prop} {w : World} {v : Value} {p news : List Ch} (h : PnR P w v (p ++ news)) (hp : ascL p) (hl : (p ++ news).length ≤ 100000000) : Calls Tryz.prog 86 #[v, .func (.func 87) #[] #[]] w (SoPost w v (news.foldl putL p)) := by
  obtain ⟨l, hln⟩ : ∃ l, p ++ news = l := ⟨_, rfl⟩
  have hlen : (news.foldl putL p).length = l.length := by rw [puts_len, ← hln, List.length_append]
  rw [hln] at h hl
  by_cases hz : l.length = 0
  · have hl0 : l = [] := List.eq_nil_of_length_eq_zero hz
    have hk0 : news.foldl putL p = [] := List.eq_nil_of_length_eq_zero (by omega)
    rw [hk0]
    subst hl0
    have h2 := h.own'
    obtain ⟨a, c, rfl, -⟩ := h.len
    refine (sort_zero a c _ w).mono ?_
    rintro r w' ⟨rfl, rfl⟩
    exact ⟨rfl, h2, Keeps.refl _ _⟩
  · rcases h with ⟨_, e⟩ | ⟨g, o, c, N, rfl, hat, h3, h4, h5, h6⟩
    · rw [e] at hz
      exact absurd rfl hz
    · refine (sortst_any g o l.length N c (rowK l) (by omega) hl (rowK_ord l) w hat.ck).mono ?_
      rintro r w' ⟨t', rfl, s1, s2, s3, s4⟩
      have hs : SrtL (p ++ news) (listK l.length t') := by
        rw [hln]
        exact ⟨t', s1, s2, rfl⟩
      have he := hs.putsOn hp
      refine ⟨rfl, .inr ⟨g, o, c, N, by rw [hlen], by rw [← he]; exact s3.pn, by rw [hlen]; exact h3, h4, h5, rfl⟩, s4.mono (fun j _ e => by subst e; rfl)⟩
end Go.Proofs.YtpkheiaanjhffaaGreat
