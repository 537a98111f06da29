/-
  Texts 26 of the claim.
-/
import Derived.Test.YtipnamoocemeeaaGreatD17
import Derived.Test.YtipnamoocemeeaaGreatD08
import Derived.Deep.RegionWith
import Derived.StillTailTactics
import Derived.Test.YtipnamoocemeeaaGreatD16
import Derived.Test.YtipnamoocemeeaaGreatD23
import Derived.Test.YtipnamoocemeeaaGreatD25
import Derived.Test.YtipnamoocemeeaaGreatD04
import Derived.Test.YtipnamoocemeeaaGreatD15
import Derived.BigQuiet
import Derived.Test.YtipnamoocemeeaaGreatD20
import Derived.Deep.RegionLaw
import Derived.Deep.CutRange
import Derived.Deep.CutBlock
import Derived.Test.YtipnamoocemeeaaGreatD18
import Derived.Test.YtipnamoocemeeaaGreatD22
namespace Go.Proofs.YtipnamoocemeeaaGreat
open Go.RowKit
end Go.Proofs.YtipnamoocemeeaaGreat

namespace Go.Proofs.YtipnamoocemeeaaGreat
open Go.RowKit
end Go.Proofs.YtipnamoocemeeaaGreat

namespace Go.Proofs.YtipnamoocemeeaaGreat
open Go.RowKit
theorem rle_len (ks : List Int) (h : ks.length ≤ 1024) : (rle ks).length ≤ 1024 := (rle_ok ks h).len
theorem small_meas {win : Nat → Int × Int} {n : Nat} {d : Dv} (h : d.small) : (meas win n d).2.small := by
  obtain ⟨a, b, c⟩ := meas_same win n d _ _ rfl
  refine ⟨by rw [a]; exact h.ob, by rw [a]; exact h.vs, by rw [b]; exact h.sd, fun k hk => by rw [c]; exact h.mp k hk⟩
theorem small_tab {d : Dv} (h : d.small) (k : Nat) (t : Tb) (ht : t.map.length ≤ 1024) : (d.tab k t).small := by
  refine ⟨h.ob, h.vs, h.sd, fun i hi => ?_⟩
  show (if i = k then t else d.ts i).map.length ≤ 1024
  split
  · exact ht
  · exact h.mp i hi
theorem Pb.step_small {win : Nat → Int × Int} {p : Pb} (hok : p.ph.ok win) {O : Oc} (hO : O.fit) (h : p.d.small) : (p.step win O).2.small := by
  unfold Pb.step
  split
  · exact ⟨h.ob, h.vs, h.sd, h.mp⟩
  · rename_i x e
    rw [e] at hok
    have hf := Idn.feed_fin hok.1 hO
    split
    · exact h
    · refine ⟨?_, ?_, h.sd, h.mp⟩
      · show (if (x.feed O).st = 2 then (x.feed O).objs else []).length ≤ 1280
        split
        · exact hf.ob
        · exact Nat.zero_le _
      · intro y hy
        have hy' : y ∈ (if (x.feed O).st = 2 then (x.feed O).objs else []) := hy
        split at hy'
        · exact hf.vs y hy'
        · cases hy'
  · refine small_meas ⟨h.ob, h.vs, ?_, h.mp⟩
    show (srvData O).length ≤ 300
    unfold srvData
    split
    · exact hO.data
    · exact Nat.zero_le _
  · rename_i k s e
    rw [e] at hok
    split
    · exact h
    · unfold aftS
      dsimp only
      split
      · exact small_tab h k _ (h.mp k hok.1)
      · exact small_meas (small_tab h k _ (h.mp k hok.1))
  · rename_i k m e
    rw [e] at hok
    have hm := Mp.feed_ok hok.2.1 hok.2.2 O.verdict O.reply.exc
    split
    · unfold aftM
      exact small_meas (small_tab h k _ (rle_len _ (by have := hm.kl; have := hm.c1; omega)))
    · exact h
  · exact h
theorem Dv.zero_small : Dv.zero.small := ⟨Nat.zero_le _, fun y h => (by cases h), Nat.zero_le _, fun _ _ => Nat.zero_le _⟩
theorem pfed_good {win : Nat → Int × Int} (hw : WinOk win) {p : Pb} (hok : p.ph.ok win) (hs : p.d.small) (hq0 : 0 ≤ p.q) {O : Oc} (hO : O.fit) {p' : Pb} (hp : p' = if p.ph.isDone then p else p.feed win O) : p'.ph.ok win ∧ p'.d.small ∧ 0 ≤ p'.q ∧ p'.q ≤ p.q + 1 := by
  subst hp
  split
  · exact ⟨hok, hs, hq0, by omega⟩
  · exact ⟨Pb.step_ok hw hok hO, Pb.step_small hok hO hs, by show 0 ≤ p.q + 1; omega, Int.le_refl _⟩
end Go.Proofs.YtipnamoocemeeaaGreat

namespace Go.Proofs.YtipnamoocemeeaaGreat
open Go.RowKit
end Go.Proofs.YtipnamoocemeeaaGreat

namespace Go.Proofs.YtipnamoocemeeaaGreat
open Go.RowKit
theorem lastId_take {l : List Ob} {k : Nat} {x : Ob} (h : l[k]? = some x) (la : Int) : lastId la (l.take (k + 1)) = x.id := by rw [take_succ_snoc h, lastId_snoc]
end Go.Proofs.YtipnamoocemeeaaGreat
namespace Go.Proofs.YtipnamoocemeeaaGreat
open Go.RowKit
def RowR (w : World) (sz : Nat) (y : Value) (m : Nat) (news : List Value) : Prop :=
  ∃ a c, y = .slice a m c ∧ news.length = m * sz ∧ (a = none → m = 0 ∧ c = 0) ∧ ∀ ad, a = some ad → ∀ (j : Nat) u, news[j]? = some u → w.cell? (ad.add j) = some u
theorem step_appR {P : Program} {w : World} {ops : Array Oper} {o : Oper} {a : Act} {K : Act → World → Prop} {Q : Exit → Act → World → Prop} {E : Prop} (hgd : o.guard = none) (s x : Operand) (t : TypeId)
    (ho : o.op = .call { callee := .builtin .append, args := #[s, x], argTypes := #[t, t] })
    (base : Nat) (e : TypeId) (i : TypeInfo) (z : Value) (size bytes : Nat) (ht : P.underlying t = some (.slice e)) (hi : P.info? e = some i) (hz : i.zero = some z)
    (hsize : i.size = size) (hby : i.bytes = bytes) (hzs : z.cells.size = size) (hsz : 0 < size)
    (v : Value) (n : Nat) (xs : List Value) (hs : a.eval s = v) (hown : w.ownsRow base e size v n xs)
    (y : Value) (m : Nat) (news : List Value) (hx : a.eval x = y) (hy : RowR w size y m news) (h1 : ∀ u ∈ news, u.oneCell' = true)
    (h63 : n + m ≤ maxLen) (hbytes : (n + m) * bytes ≤ 140737488355328) (hbase : base ≤ w.heap.size)
    (h : ∀ v' w', w'.ownsRow base e size v' (n + m) (xs ++ news) → w.grownBy w' v.ownBlock → NewOr w v v' → K (a.put o.dst v') w') :
    if Region.wanted o (yielded ops a.tmps) = true then Oper.wp P o a w K Q else E := by
  obtain ⟨ad, c, rfl, hl, hn, hc⟩ := hy
  cases ad with
  | some ad => exact step_appN hgd s x t ho base e i z size bytes ht hi hz hsize hby hzs hsz v n xs hs hown ad m c news hx hl (hc ad rfl) h1 h63 hbytes hbase h
  | none =>
    obtain ⟨rfl, rfl⟩ := hn rfl
    obtain rfl : news = [] := List.eq_nil_of_length_eq_zero (by simpa using hl)
    have hw : Region.wanted o (yielded ops a.tmps) = true := by simp [Region.wanted, hgd]
    rw [if_pos hw]
    subst hsize
    have hrun := run_append_owned_none (P := P) (w := w) base t o.type e i i.size ht hi v n xs hown
    unfold Oper.wp execOp
    simp only [ho, resolve, invoke, builtin, Sem.run_bind, Sem.run_pure, Result.andThen_ok, List.map_toArray, List.map_cons, List.map_nil, hs, hx, hrun]
    exact h v w (by simpa using hown) (World.grownBy.refl _ _) (.inl rfl)
theorem RowR.own {w : World} {base : Nat} {e : TypeId} {size : Nat} {v : Value} {n : Nat} {xs : List Value} (h : w.ownsRow base e size v n xs) : RowR w size v n xs := by
  rcases id h.2 with ⟨rfl, rfl⟩ | ⟨g, cap, cur, rfl, _⟩
  · exact ⟨none, 0, rfl, h.1, fun _ => ⟨rfl, rfl⟩, fun ad e => nomatch e⟩
  · refine ⟨some ⟨g, 0, none⟩, cap, rfl, h.1, (fun e => nomatch e), fun ad e j u hj => ?_⟩
    cases e
    exact h.cells (g := g) rfl j u hj
theorem RowR.keep {w w' : World} {sz : Nat} {y : Value} {m : Nat} {news : List Value} (h : RowR w sz y m news) (hb : Below w.heap.size w w') : RowR w' sz y m news := by
  obtain ⟨a, c, h1, h2, h3, h4⟩ := h
  exact ⟨a, c, h1, h2, h3, fun ad e j u hj => cell_keep hb (h4 ad e j u hj)⟩
theorem CsL.app {α : Type} {sz : Nat} {Q : List Value → α → Prop} : ∀ (l : List α) (cs : List Value), CsL sz Q cs l → ∀ (l' : List α) (cs' : List Value), CsL sz Q cs' l' → CsL sz Q (cs ++ cs') (l ++ l')
  | [], cs, h, l', cs', h' => by obtain rfl : cs = [] := h; exact h'
  | x :: l, cs, h, l', cs', h' => by
    obtain ⟨r, k, rfl, h1, h2, h3⟩ := h
    exact ⟨r, k ++ cs', by simp, h1, h2, CsL.app l k h3 l' cs' h'⟩
end Go.Proofs.YtipnamoocemeeaaGreat
namespace Go.Proofs.YtipnamoocemeeaaGreat
open Go.RowKit
end Go.Proofs.YtipnamoocemeeaaGreat
namespace Go.Proofs.YtipnamoocemeeaaGreat
open Go.RowKit
end Go.Proofs.YtipnamoocemeeaaGreat
namespace Go.Proofs.YtipnamoocemeeaaGreat
open Go.RowKit
end Go.Proofs.YtipnamoocemeeaaGreat

namespace Go.Proofs.YtipnamoocemeeaaGreat
open Go.RowKit
theorem infoInt : (Tryz.prog.info? 3).map (fun i => (i.zero, i.size, i.bytes)) = some (some (.int .i64 0), 1, 8) := by kernel_rfl
end Go.Proofs.YtipnamoocemeeaaGreat
namespace Go.Proofs.YtipnamoocemeeaaGreat
open Go.RowKit
end Go.Proofs.YtipnamoocemeeaaGreat
namespace Go.Proofs.YtipnamoocemeeaaGreat
open Go.RowKit
end Go.Proofs.YtipnamoocemeeaaGreat

namespace Go.Proofs.YtipnamoocemeeaaGreat
open Go.RowKit
end Go.Proofs.YtipnamoocemeeaaGreat
namespace Go.Proofs.YtipnamoocemeeaaGreat
open Go.RowKit
end Go.Proofs.YtipnamoocemeeaaGreat
namespace Go.Proofs.YtipnamoocemeeaaGreat
open Go.RowKit
end Go.Proofs.YtipnamoocemeeaaGreat
namespace Go.Proofs.YtipnamoocemeeaaGreat
open Go.RowKit
end Go.Proofs.YtipnamoocemeeaaGreat

namespace Go.Proofs.YtipnamoocemeeaaGreat
open Go.RowKit
def Ph.at : Ph → Nat
  | .seek k _ => k
  | .map k _ => k + 1
  | .done => 4
  | _ => 0
def Pb.tidy (p : Pb) : Prop := ∀ i, p.ph.at ≤ i → (p.d.ts i).most = 0
theorem meas_tidy {win : Nat → Int × Int} : ∀ (n : Nat), n ≤ 4 → ∀ {d : Dv} {ph : Ph} {d' : Dv}, meas win n d = (ph, d') → (∀ i, 4 - n ≤ i → (d.ts i).most = 0) → ∀ i, ph.at ≤ i → (d'.ts i).most = 0
  | 0, _, d, ph, d', h, hd => by
    have h1 := (Prod.mk.inj h).1
    have h2 := (Prod.mk.inj h).2
    subst h1 h2
    exact hd
  | n + 1, hn, d, ph, d', h, hd => by
    unfold meas at h
    split at h
    · refine meas_tidy n (by omega) h (fun i hi => ?_)
      unfold Dv.tab
      dsimp only
      split
      · rename_i e
        exact hd _ (by omega)
      · exact hd i (by omega)
    · have h1 := (Prod.mk.inj h).1
      have h2 := (Prod.mk.inj h).2
      subst h1 h2
      exact fun i hi => hd i (by have : 3 - n ≤ i := hi; omega)
theorem Dv.tab_other (d : Dv) (k : Nat) (t : Tb) {i : Nat} (h : i ≠ k) : (d.tab k t).ts i = d.ts i := if_neg h
theorem Pb.step_tidy {win : Nat → Int × Int} {p : Pb} (hp : p.ph.ok win) (h : p.tidy) (O : Oc) : Pb.tidy (p.feed win O) := by
  obtain ⟨ph, d, q⟩ := p
  show ∀ i, (Pb.step win ⟨ph, d, q⟩ O).1.at ≤ i → ((Pb.step win ⟨ph, d, q⟩ O).2.ts i).most = 0
  cases ph with
  | test =>
    intro i hi
    exact h i (Nat.zero_le _)
  | ident x =>
    unfold Pb.step
    dsimp only
    split
    · exact fun i hi => h i hi
    · exact fun i hi => h i hi
  | server => exact meas_tidy 4 (Nat.le_refl _) rfl (fun i _ => h i (Nat.zero_le _))
  | seek k s =>
    obtain ⟨hk, -⟩ := hp
    unfold Pb.step
    dsimp only
    split
    · exact fun i hi => h i hi
    · unfold aftS
      dsimp only
      have hd : ∀ i, k + 1 ≤ i → ((d.tab k { d.ts k with st := (s.feed O.verdict O.reply.exc).st, most := (s.feed O.verdict O.reply.exc).most }).ts i).most = 0 := fun i hi => by
        rw [Dv.tab_other _ _ _ (by omega)]
        exact h i (by show k ≤ i; omega)
      split
      · exact hd
      · exact meas_tidy (4 - (k + 1)) (by omega) rfl (fun i hi => hd i (by omega))
  | map k m =>
    obtain ⟨hk, -⟩ := hp
    unfold Pb.step
    dsimp only
    split
    · refine meas_tidy (4 - (k + 1)) (by omega) rfl (fun i hi => ?_)
      rw [Dv.tab_other _ _ _ (by omega)]
      exact h i (by show k + 1 ≤ i; omega)
    · exact fun i hi => h i hi
  | done => exact fun i hi => h i hi
end Go.Proofs.YtipnamoocemeeaaGreat

namespace Go.Proofs.YtipnamoocemeeaaGreat
open Go.RowKit
end Go.Proofs.YtipnamoocemeeaaGreat

namespace Go.Proofs.YtipnamoocemeeaaGreat
open Go.RowKit
end Go.Proofs.YtipnamoocemeeaaGreat

namespace Go.Proofs.YtipnamoocemeeaaGreat
open Go.RowKit
structure SpGd (c : Cf) (x : Sp) (k : Nat) : Prop where
  at1 : x.at_ ≤ c.units
  ok : x.pb.ph.ok c.win
  nd : x.pb.ph.isDone = false
  small : x.pb.d.small
  tidy : x.pb.tidy
  q0 : 0 ≤ x.pb.q
  q1 : x.pb.q ≤ k
  fl : x.fd.length ≤ x.at_
  fs : ∀ f ∈ x.fd, f.d.small
  c0 : 0 ≤ x.cnt
  c1 : x.cnt ≤ k
theorem Pb0_tidy : Pb0.tidy := fun _ _ => rfl
theorem SpGd.ini (c : Cf) : SpGd c Sp.ini 0 := ⟨Nat.zero_le _, trivial, rfl, Dv.zero_small, Pb0_tidy, Int.le_refl _, Int.le_refl _, Nat.le_refl _, fun f h => (by cases h), Int.le_refl _, Int.le_refl _⟩
theorem SpGd.up {c : Cf} {x : Sp} {k m : Nat} (h : SpGd c x k) (hm : k ≤ m) : SpGd c x m :=
  ⟨h.at1, h.ok, h.nd, h.small, h.tidy, h.q0, by have := h.q1; omega, h.fl, h.fs, h.c0, by have := h.c1; omega⟩
theorem SpGd.fed {c : Cf} {x : Sp} {k : Nat} (hw : WinOk c.win) (h : SpGd c x k) {O : Oc} (hO : O.fit) : (x.pb.feed c.win O).ph.ok c.win ∧ (x.pb.feed c.win O).d.small ∧ 0 ≤ (x.pb.feed c.win O).q ∧ (x.pb.feed c.win O).q ≤ x.pb.q + 1 ∧ (x.pb.feed c.win O).tidy := by
  obtain ⟨a1, a2, a3, a4⟩ := pfed_good (p' := x.pb.feed c.win O) hw h.ok h.small h.q0 hO (by rw [h.nd]; rfl)
  exact ⟨a1, a2, a3, a4, Pb.step_tidy h.ok h.tidy O⟩
theorem SpGd.feed {c : Cf} {x : Sp} {k : Nat} (hw : WinOk c.win) (h : SpGd c x k) {O : Oc} (hO : O.fit) : SpGd c (x.feed c O) (k + 1) := by
  unfold Sp.feed
  split
  · exact h.up (Nat.le_succ _)
  · rename_i hd
    have hlt : x.at_ < c.units := by
      unfold Sp.done at hd
      simp only [decide_eq_true_eq] at hd
      omega
    obtain ⟨a1, a2, a3, a4, a5⟩ := h.fed hw hO
    have q1 := h.q1
    have c0 := h.c0
    have c1 := h.c1
    have fl := h.fl
    unfold Sp.next
    split
    · refine ⟨hlt, trivial, rfl, Dv.zero_small, Pb0_tidy, Int.le_refl _, ?_, ?_, fun f hf => ?_, ?_, ?_⟩
      · show (0 : Int) ≤ _
        omega
      · show (x.fd ++ _).length ≤ x.at_ + 1
        rw [List.length_append]
        split
        · simp; omega
        · simp; omega
      · rcases List.mem_append.1 hf with e | e
        · exact h.fs f e
        · split at e
          · cases e
          · rw [List.mem_singleton] at e
            subst e
            exact a2
      · show 0 ≤ x.cnt + 1
        omega
      · show x.cnt + 1 ≤ _
        omega
    · rename_i hnd
      refine ⟨h.at1, a1, ?_, a2, a5, a3, ?_, h.fl, h.fs, ?_, ?_⟩
      · show (x.pb.feed c.win O).ph.isDone = false
        cases e : (x.pb.feed c.win O).ph.isDone
        · rfl
        · exact absurd e hnd
      · show (x.pb.feed c.win O).q ≤ _
        omega
      · show 0 ≤ x.cnt + 1
        omega
      · show x.cnt + 1 ≤ _
        omega
end Go.Proofs.YtipnamoocemeeaaGreat
