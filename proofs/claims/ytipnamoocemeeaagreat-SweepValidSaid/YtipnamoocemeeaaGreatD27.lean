/-
  Texts 27 of the claim.
-/
import Derived.Test.YtipnamoocemeeaaGreatD26
namespace Go.Proofs.YtipnamoocemeeaaGreat
open Go.RowKit
structure Oc.jr (O : Oc) : Prop where
  fit : O.fit
  v0 : 1 ≤ O.verdict
  v1 : O.verdict ≤ 5
  ids : O.verdict = 1 → ∀ y ∈ O.reply.objs, y.id ≤ 255 ∧ y.val.length ≤ 244
  lv : O.verdict = 1 → O.reply.fn = 43 → 1 ≤ O.reply.level ∧ O.reply.level ≤ 3
  sd : O.verdict = 1 → O.reply.data.length ≤ 251
def IdV (idn lv : Int) (objs : List Ob) : Prop :=
  (idn = 2 ∧ 1 ≤ lv ∧ lv ≤ 3 ∧ objs ≠ [] ∧ ordF (-1) objs = true ∧ ∀ y ∈ objs, y.id ≤ 255 ∧ y.val.length ≤ 244) ∨ ((idn = 4 ∨ idn = 5) ∧ lv = 0 ∧ objs = [])
def SrvV (srv : Int) (sd : List UInt8) : Prop := (srv = 2 ∧ 1 ≤ sd.length ∧ sd.length ≤ 251) ∨ ((srv = 4 ∨ srv = 5) ∧ sd = [])
def AdjR (l : List (Int × Int)) : Prop := ∀ j a b, l[j]? = some a → l[j + 1]? = some b → a.2 ≠ b.2
def SpV (l : List (Int × Int)) : Prop := (∀ x ∈ l, 1 ≤ x.1 ∧ 1 ≤ x.2 ∧ x.2 ≤ 3) ∧ AdjR l
def TbV (k : Nat) (w : Int × Int) (t : Tb) : Prop :=
  (t.st = 6 ∧ w.2 = 0 ∧ t.most = 0 ∧ t.map = []) ∨ ((t.st = 4 ∨ t.st = 5) ∧ ¬ w.2 = 0 ∧ t.most = 0 ∧ t.map = []) ∨
  (t.st = 2 ∧ 0 < w.2 ∧ 1 ≤ t.most ∧ t.most ≤ limI ((k : Int) + 1) ∧ SpV t.map ∧ sumR t.map = w.2)
def Dv.val (win : Nat → Int × Int) (d : Dv) : Prop :=
  (∃ s : Int, (s = 1 ∨ s = 3 ∨ s = 4) ∧ d = { Dv.zero with st := s }) ∨ (d.st = 2 ∧ IdV d.idn d.lv d.objs ∧ SrvV d.srv d.sd ∧ ∀ i, i < 4 → TbV i (win i) (d.ts i))
def DvP (win : Nat → Int × Int) (k : Nat) (d : Dv) : Prop :=
  d.st = 2 ∧ IdV d.idn d.lv d.objs ∧ SrvV d.srv d.sd ∧ (∀ i, i < k → TbV i (win i) (d.ts i)) ∧ ∀ i, k ≤ i → d.ts i = ⟨0, 0, []⟩
structure IdW (x : Idn) : Prop where
  o : ordF (-1) x.objs = true
  la : lastId (-1) x.objs < x.next
  vs : ∀ y ∈ x.objs, y.id ≤ 255 ∧ y.val.length ≤ 244
def SrW (k : Nat) (s : Sr) : Prop := s.hi ≤ limI ((k : Int) + 1) + 1
def KsV (ks : List Int) : Prop := ∀ k ∈ ks, 1 ≤ k ∧ k ≤ 3
structure MpW (k : Nat) (m : Mp) : Prop where
  tb : m.tb = (k : Int) + 1
  mo : m.most ≤ limI ((k : Int) + 1)
  hi : m.mode = 2 → m.hi ≤ m.most
def DvW (win : Nat → Int × Int) : Ph → Dv → Prop
  | .test, d => d = Dv.zero
  | .ident x, d => d = { Dv.zero with st := 2 } ∧ IdW x
  | .server, d => d.st = 2 ∧ IdV d.idn d.lv d.objs ∧ ∀ i, d.ts i = ⟨0, 0, []⟩
  | .seek k s, d => DvP win k d ∧ SrW k s
  | .map k m, d => d.st = 2 ∧ IdV d.idn d.lv d.objs ∧ SrvV d.srv d.sd ∧ (∀ i, i < k → TbV i (win i) (d.ts i)) ∧ (∀ i, k < i → d.ts i = ⟨0, 0, []⟩) ∧ (∃ mo : Int, d.ts k = ⟨2, mo, []⟩ ∧ 1 ≤ mo ∧ mo ≤ limI ((k : Int) + 1)) ∧ KsV m.ks ∧ m.cnt = (win k).2 ∧ MpW k m
  | .done, d => Dv.val win d
theorem AdjR.snoc {l : List (Int × Int)} {q : Int × Int} (h : AdjR l) (hq : ∀ p, l.getLast? = some p → p.2 ≠ q.2) : AdjR (l ++ [q]) := by
  intro j a b ha hb
  have hj : j + 1 < (l ++ [q]).length := (List.getElem?_eq_some_iff.1 hb).1
  rw [List.length_append] at hj
  have hj : j < l.length := by simpa using hj
  rw [List.getElem?_append_left hj] at ha
  by_cases e : j + 1 < l.length
  · rw [List.getElem?_append_left e] at hb
    exact h j a b ha hb
  · have e2 : j + 1 = l.length := by omega
    rw [List.getElem?_append_right (by omega), e2] at hb
    simp only [Nat.sub_self, List.getElem?_cons_zero, Option.some.injEq] at hb
    subst hb
    refine hq a ?_
    rw [List.getLast?_eq_getElem?, show l.length - 1 = j by omega]
    exact ha
theorem AdjR.pre {l : List (Int × Int)} {q : Int × Int} (h : AdjR (l ++ [q])) : AdjR l := by
  intro j a b ha hb
  have hj : j + 1 < l.length := (List.getElem?_eq_some_iff.1 hb).1
  exact h j a b (by rw [List.getElem?_append_left (by omega)]; exact ha) (by rw [List.getElem?_append_left hj]; exact hb)
theorem AdjR.end {l : List (Int × Int)} {q : Int × Int} (h : AdjR (l ++ [q])) (p : Int × Int) (hp : l.getLast? = some p) : p.2 ≠ q.2 := by
  rw [List.getLast?_eq_getElem?] at hp
  have hl : l.length - 1 < l.length := (List.getElem?_eq_some_iff.1 hp).1
  refine h (l.length - 1) p q (by rw [List.getElem?_append_left hl]; exact hp) ?_
  rw [List.getElem?_append_right (by omega), show l.length - 1 + 1 - l.length = 0 by omega]
  rfl
theorem SpV.push {l : List (Int × Int)} (h : SpV l) (u : Int) (h1 : 1 ≤ u) (h2 : u ≤ 3) : SpV (pushR l 1 u) := by
  obtain ⟨hm, ha⟩ := h
  rcases snocC l with rfl | ⟨i, p, rfl⟩
  · refine ⟨fun x hx => ?_, fun j a b hj hk => ?_⟩
    · have hx : x ∈ [((1 : Int), u)] := hx
      rw [List.mem_singleton] at hx
      subst hx
      exact ⟨by show (1 : Int) ≤ 1; decide, h1, h2⟩
    · have hk : [((1 : Int), u)][j + 1]? = some b := hk
      simp at hk
  · by_cases e : p.2 = u
    · rw [pushR_same _ _ _ _ e]
      have hp := hm p (List.mem_append_right _ (List.mem_singleton.2 rfl))
      refine ⟨fun x hx => ?_, ha.pre.snoc (fun q hq => ?_)⟩
      · rcases List.mem_append.1 hx with hx | hx
        · exact hm x (List.mem_append_left _ hx)
        · rw [List.mem_singleton] at hx
          subst hx
          exact ⟨by show 1 ≤ p.1 + 1; omega, h1, h2⟩
      · have := ha.end q hq
        rw [e] at this
        exact this
    · rw [pushR_other _ _ _ _ e]
      refine ⟨fun x hx => ?_, ha.snoc (fun q hq => ?_)⟩
      · rcases List.mem_append.1 hx with hx | hx
        · exact hm x hx
        · rw [List.mem_singleton] at hx
          subst hx
          exact ⟨by show (1 : Int) ≤ 1; decide, h1, h2⟩
      · rw [List.getLast?_concat] at hq
        cases hq
        exact e
theorem rle_val : ∀ (n : Nat) (ks : List Int), ks.length = n → KsV ks → SpV (rle ks) ∧ sumR (rle ks) = (ks.length : Int)
  | 0, ks, hn, _ => by
    obtain rfl := List.eq_nil_of_length_eq_zero hn
    exact ⟨⟨fun x hx => (by cases hx), fun j a b hj => by simp [rle] at hj⟩, rfl⟩
  | n + 1, ks, hn, hk => by
    rcases snocC ks with rfl | ⟨i, p, rfl⟩
    · cases hn
    · rw [List.length_append] at hn
      have hn : i.length = n := by simpa using hn
      obtain ⟨h1, h2⟩ := rle_val n i hn (fun k hk2 => hk k (List.mem_append_left _ hk2))
      have hp := hk p (List.mem_append_right _ (List.mem_singleton.2 rfl))
      rw [rle_snoc]
      refine ⟨h1.push p hp.1 hp.2, ?_⟩
      rw [pushR_sum, h2, List.length_append]
      rfl
theorem KsV.learn {m : Mp} (h : KsV m.ks) (n k mo : Int) (h1 : 1 ≤ k) (h2 : k ≤ 3) : KsV (m.learn n k mo).ks := by
  intro y hy
  have hy : y ∈ m.ks ++ List.replicate n.toNat k := hy
  rcases List.mem_append.1 hy with hy | hy
  · exact h y hy
  · rw [(List.mem_replicate.1 hy).2]
    exact ⟨h1, h2⟩
theorem KsV.feed {m : Mp} (h : KsV m.ks) (v x : Int) : KsV (m.feed v x).ks ∧ (m.feed v x).cnt = m.cnt := by
  unfold Mp.feed
  repeat' split
  · exact ⟨KsV.learn (KsV.learn (m := { m with lo := m.size }) h _ 1 _ (by decide) (by decide)) _ 2 _ (by decide) (by decide), rfl⟩
  · exact ⟨h, rfl⟩
  · exact ⟨KsV.learn (KsV.learn (m := { m with hi := m.size }) h _ 1 _ (by decide) (by decide)) _ 2 _ (by decide) (by decide), rfl⟩
  · exact ⟨h, rfl⟩
  · exact ⟨KsV.learn h _ 1 _ (by decide) (by decide), rfl⟩
  · exact ⟨KsV.learn h _ 1 _ (by decide) (by decide), rfl⟩
  · exact ⟨h, rfl⟩
  · exact ⟨KsV.learn h _ 2 _ (by decide) (by decide), rfl⟩
  · exact ⟨h, rfl⟩
  · exact ⟨KsV.learn h _ 3 _ (by decide) (by decide), rfl⟩
theorem MpW.feed {k : Nat} {m : Mp} (hok : m.ok) (h : MpW k m) (v x : Int) : MpW k (m.feed v x) := by
  have ht := h.tb
  have hm := h.mo
  unfold Mp.feed
  split
  · rename_i e
    have h2 := hok.se e
    have h3 := h.hi e
    have hz : m.size ≤ m.hi := by
      unfold Mp.size
      rw [if_neg (by omega), if_pos e]
      omega
    repeat' split
    · exact ⟨ht, hm, fun e => absurd (show (0 : Int) = 2 from e) (by decide)⟩
    · exact ⟨ht, hm, fun _ => h3⟩
    · exact ⟨ht, hm, fun e => absurd (show (0 : Int) = 2 from e) (by decide)⟩
    · exact ⟨ht, hm, fun _ => by show m.size ≤ m.most; omega⟩
    · exact ⟨ht, hm, fun e => absurd (show (0 : Int) = 2 from e) (by decide)⟩
  · rename_i e
    split
    · exact ⟨ht, hm, fun e => absurd (show (1 : Int) = 2 from e) (by decide)⟩
    · split
      · split
        · rename_i e4
          refine ⟨ht, hm, fun _ => ?_⟩
          show m.size ≤ m.most
          unfold Mp.size at e4 ⊢
          by_cases e1 : m.mode = 1
          · rw [if_pos e1]
            split <;> omega
          · rw [if_neg e1, if_neg e] at e4
            omega
        · exact ⟨ht, hm, fun e => absurd (show (0 : Int) = 2 from e) (by decide)⟩
      · split
        · exact ⟨ht, hm, fun e => absurd (show (0 : Int) = 2 from e) (by decide)⟩
        · exact ⟨ht, hm, fun e => absurd (show (0 : Int) = 2 from e) (by decide)⟩
theorem minI_le (a b : Int) : minI a b ≤ a := by
  unfold minI
  split <;> omega
theorem Sr.feed_val {k : Nat} {s : Sr} (h : s.good) (hst : s.st = 0) (hw : SrW k s) (v x : Int) :
    SrW k (s.feed v x) ∧ ((s.feed v x).st = 2 → (s.feed v x).most ≤ limI ((k : Int) + 1)) ∧ ((s.feed v x).st = 0 ∨ (s.feed v x).st = 2 ∨ (s.feed v x).st = 4 ∨ (s.feed v x).st = 5) := by
  have h2 := h.gap
  have hw : s.hi ≤ limI ((k : Int) + 1) + 1 := hw
  have hq : s.qty < s.hi := by
    have := h.lo0
    unfold Sr.qty
    split <;> omega
  unfold Sr.feed Sr.took
  split
  · unfold Sr.met
    split
    · rename_i hm
      have hm2 : s.hi = s.qty + 1 := hm.2
      exact ⟨hw, fun _ => by unfold Sr.most; rw [if_pos rfl]; show s.qty ≤ _; omega, .inr (.inl rfl)⟩
    · exact ⟨hw, fun e => absurd (hst.symm.trans e) (by decide), .inl hst⟩
  · split
    · unfold Sr.met
      rw [if_neg (fun e => absurd e.1 (by show ¬ (5 : Int) = 0; decide))]
      exact ⟨hw, fun e => absurd (show (5 : Int) = 2 from e) (by decide), .inr (.inr (.inr rfl))⟩
    · split
      · unfold Sr.met
        split
        · rename_i hm
          have hm2 : s.qty = s.lo + 1 := hm.2
          exact ⟨by show s.qty ≤ _; omega, fun _ => by unfold Sr.most; rw [if_pos rfl]; show s.lo ≤ _; omega, .inr (.inl rfl)⟩
        · exact ⟨by show s.qty ≤ _; omega, fun e => absurd (hst.symm.trans e) (by decide), .inl hst⟩
      · unfold Sr.met
        rw [if_neg (fun e => absurd e.1 (by show ¬ (4 : Int) = 0; decide))]
        exact ⟨hw, fun e => absurd (show (4 : Int) = 2 from e) (by decide), .inr (.inr (.inl rfl))⟩
theorem ordF_app : ∀ (l m : List Ob) (la : Int), ordF la (l ++ m) = (ordF la l && ordF (lastId la l) m)
  | [], m, la => by simp [ordF, lastId]
  | a :: l, m, la => by
    simp only [List.cons_append, ordF, lastId]
    rw [ordF_app l m a.id, Bool.and_assoc]
theorem lastId_app : ∀ (l m : List Ob) (la : Int), lastId la (l ++ m) = lastId (lastId la l) m
  | [], m, la => rfl
  | a :: l, m, la => by
    simp only [List.cons_append, lastId]
    exact lastId_app l m a.id
theorem lastId_any : ∀ (l : List Ob) (a b : Int), l ≠ [] → lastId a l = lastId b l
  | [], _, _, h => absurd rfl h
  | _ :: _, _, _, _ => rfl
theorem ordF_down : ∀ (l : List Ob) (a b : Int), b ≤ a → ordF a l = true → ordF b l = true
  | [], _, _, _, _ => rfl
  | x :: l, a, b, hb, h => by
    simp only [ordF, Bool.and_eq_true, decide_eq_true_eq] at h ⊢
    exact ⟨by omega, h.2⟩
theorem Idn.feed_val {x : Idn} (hx : IdW x) {O : Oc} (hO : O.jr) : ((x.feed O).st = 0 → IdW (x.feed O)) ∧ (¬ (x.feed O).st = 0 → IdV (x.feed O).st (if (x.feed O).st = 2 then (x.feed O).level else 0) (if (x.feed O).st = 2 then (x.feed O).objs else [])) := by
  unfold Idn.feed
  split
  · exact ⟨fun e => absurd (show (5 : Int) = 0 from e) (by decide), fun _ => .inr ⟨.inr rfl, rfl, rfl⟩⟩
  · split
    · exact ⟨fun e => absurd (show (4 : Int) = 0 from e) (by decide), fun _ => .inr ⟨.inl rfl, rfl, rfl⟩⟩
    · rename_i hb
      obtain ⟨h1, h2, h3, h4⟩ := Idn.bad_no (by simpa using hb)
      have h3 : O.reply.ordB x.next = true := h3
      simp only [Rp.ordB, Bool.and_eq_true, Bool.not_eq_true', Bool.or_eq_true, decide_eq_true_eq, List.isEmpty_eq_false_iff] at h3
      obtain ⟨g1, g2, g3⟩ := h3
      have hla := hx.la
      have ho : ordF (-1) (x.objs ++ O.reply.objs) = true := by
        rw [ordF_app, hx.o, Bool.true_and]
        exact ordF_down _ _ _ (by omega) g1
      have hvs : ∀ y ∈ x.objs ++ O.reply.objs, y.id ≤ 255 ∧ y.val.length ≤ 244 := fun y hy => by
        rcases List.mem_append.1 hy with hy | hy
        · exact hx.vs y hy
        · exact hO.ids h1 y hy
      obtain ⟨l1, l2⟩ := hO.lv h1 h2
      cases hm : O.reply.more with
      | true =>
        rw [if_pos rfl]
        rcases g3 with g3 | g3
        · rw [hm] at g3; cases g3
        by_cases hc : x.cnt + 1 = 32
        · rw [if_pos hc]
          exact ⟨fun e => absurd (show (4 : Int) = 0 from e) (by decide), fun _ => .inr ⟨.inl rfl, rfl, rfl⟩⟩
        · rw [if_neg hc]
          refine ⟨fun _ => ⟨ho, ?_, hvs⟩, fun e => absurd rfl e⟩
          show lastId (-1) (x.objs ++ O.reply.objs) < O.reply.next
          rw [lastId_app, lastId_any _ _ (x.next - 1) g2]
          exact g3
      | false =>
        rw [if_neg (by decide)]
        refine ⟨fun e => absurd (show (2 : Int) = 0 from e) (by decide), fun _ => .inl ⟨rfl, ?_, ?_, ?_, ?_, ?_⟩⟩
        · show 1 ≤ (if (2 : Int) = 2 then O.reply.level else 0)
          rw [if_pos rfl]; exact l1
        · show (if (2 : Int) = 2 then O.reply.level else 0) ≤ 3
          rw [if_pos rfl]; exact l2
        · show (if (2 : Int) = 2 then x.objs ++ O.reply.objs else []) ≠ []
          rw [if_pos rfl]
          intro e
          exact g2 (List.append_eq_nil_iff.1 e).2
        · show ordF (-1) (if (2 : Int) = 2 then x.objs ++ O.reply.objs else []) = true
          rw [if_pos rfl]; exact ho
        · show ∀ y ∈ (if (2 : Int) = 2 then x.objs ++ O.reply.objs else []), _
          rw [if_pos rfl]; exact hvs
theorem Dv.tab_at (d : Dv) (k : Nat) (t : Tb) (i : Nat) : (d.tab k t).ts i = if i = k then t else d.ts i := rfl
theorem meas_val {win : Nat → Int × Int} : ∀ (n : Nat), n ≤ 4 → ∀ (d : Dv), DvP win (4 - n) d → DvW win (meas win n d).1 (meas win n d).2
  | 0, _, d, h => .inr ⟨h.1, h.2.1, h.2.2.1, h.2.2.2.1⟩
  | n + 1, hn, d, h => by
    obtain ⟨h1, h2, h3, h4, h5⟩ := h
    show DvW win (if (win (3 - n)).2 = 0 then meas win n (d.tab (3 - n) { d.ts (3 - n) with st := 6 }) else (.seek (3 - n) (Sr.new ((3 - n : Nat) + 1)), d)).1 (if (win (3 - n)).2 = 0 then meas win n (d.tab (3 - n) { d.ts (3 - n) with st := 6 }) else (.seek (3 - n) (Sr.new ((3 - n : Nat) + 1)), d)).2
    split
    · rename_i hz
      refine meas_val n (by omega) _ ⟨h1, h2, h3, fun i hi => ?_, fun i hi => ?_⟩
      · rw [Dv.tab_at]
        split
        · rename_i e
          subst e
          rw [h5 (3 - n) (by omega)]
          exact .inl ⟨rfl, hz, rfl, rfl⟩
        · exact h4 i (by omega)
      · rw [Dv.tab_at, if_neg (by omega)]
        exact h5 i (by omega)
    · exact ⟨⟨h1, h2, h3, fun i hi => h4 i (by omega), fun i hi => h5 i (by omega)⟩, Int.le_refl _⟩
theorem DvW.step {win : Nat → Int × Int} {p : Pb} {O : Oc} (hok : p.ph.ok win) (h : DvW win p.ph p.d) (hO : O.jr) : DvW win (p.step win O).1 (p.step win O).2 := by
  obtain ⟨ph, d, q⟩ := p
  cases ph with
  | test =>
    have h : d = Dv.zero := h
    subst h
    show DvW win (if stateOf O.verdict = 2 then .ident Idn.new else .done) { Dv.zero with st := stateOf O.verdict }
    have h0 := hO.v0
    have h1 := hO.v1
    split
    · rename_i e
      rw [e]
      exact ⟨rfl, ⟨rfl, by decide, fun y hy => (by cases hy)⟩⟩
    · rename_i e
      refine .inl ⟨stateOf O.verdict, ?_, rfl⟩
      have hv : O.verdict = 1 ∨ O.verdict = 2 ∨ O.verdict = 3 ∨ O.verdict = 4 ∨ O.verdict = 5 := by omega
      rcases hv with hv | hv | hv | hv | hv <;> rw [hv] at e ⊢
      · exact absurd rfl e
      · exact absurd rfl e
      · exact .inl rfl
      · exact .inr (.inl rfl)
      · exact .inr (.inr rfl)
  | ident x =>
    obtain ⟨rfl, hx⟩ := h
    obtain ⟨f1, f2⟩ := Idn.feed_val hx hO
    show DvW win (if (x.feed O).st = 0 then (Ph.ident (x.feed O), _) else (Ph.server, _)).1 (if (x.feed O).st = 0 then (Ph.ident (x.feed O), _) else (Ph.server, _)).2
    split
    · rename_i e
      exact ⟨rfl, f1 e⟩
    · rename_i e
      exact ⟨rfl, f2 e, fun i => rfl⟩
  | server =>
    obtain ⟨h1, h2, h3⟩ := h
    refine meas_val 4 (Nat.le_refl _) _ ⟨h1, h2, ?_, fun i hi => absurd hi (Nat.not_lt_zero _), fun i _ => h3 i⟩
    show SrvV (srvSt O) (srvData O)
    unfold srvSt srvData
    by_cases e : O.verdict = 1 ∧ O.reply.fn = 17 ∧ 0 < O.reply.data.length
    · rw [if_pos e, if_pos e]
      exact .inl ⟨rfl, e.2.2, hO.sd e.1⟩
    · rw [if_neg e, if_neg e]
      split
      · exact .inr ⟨.inr rfl, rfl⟩
      · exact .inr ⟨.inl rfl, rfl⟩
  | seek k s =>
    obtain ⟨hP, hs⟩ := h
    obtain ⟨k4, hwk, hg, hst, hf⟩ := hok
    obtain ⟨h1, h2, h3, h4, h5⟩ := id hP
    obtain ⟨f1, f2, f3⟩ := Sr.feed_val hg hst hs O.verdict O.reply.exc
    have f4 := (Sr.feed_ok hg hst hf O.verdict O.reply.exc).fin
    show DvW win (if (s.feed O.verdict O.reply.exc).st = 0 then (Ph.seek k (s.feed O.verdict O.reply.exc), d) else aftS win k (s.feed O.verdict O.reply.exc) d).1 (if (s.feed O.verdict O.reply.exc).st = 0 then (Ph.seek k (s.feed O.verdict O.reply.exc), d) else aftS win k (s.feed O.verdict O.reply.exc) d).2
    generalize s.feed O.verdict O.reply.exc = y at *
    split
    · exact ⟨hP, f1⟩
    · rename_i e
      unfold aftS
      dsimp only
      split
      · rename_i e2
        have hf2 := f4 e2
        refine ⟨h1, h2, h3, fun i hi => ?_, fun i hi => ?_, ⟨y.most, ?_, hf2.1, f2 e2⟩, fun z hz => (by cases hz), rfl, ⟨rfl, Int.le_trans (minI_le _ _) (f2 e2), fun e => absurd (show (0 : Int) = 2 from e) (by decide)⟩⟩
        · show TbV i (win i) ((d.tab k { d.ts k with st := y.st, most := y.most }).ts i)
          rw [Dv.tab_at, if_neg (by omega)]
          exact h4 i hi
        · show (d.tab k { d.ts k with st := y.st, most := y.most }).ts i = _
          rw [Dv.tab_at, if_neg (by omega)]
          exact h5 i (by omega)
        · show (d.tab k { d.ts k with st := y.st, most := y.most }).ts k = _
          rw [Dv.tab_at, if_pos rfl, h5 k (Nat.le_refl _), e2]
      · rename_i e2
        refine meas_val (4 - (k + 1)) (by omega) _ ⟨h1, h2, h3, fun i hi => ?_, fun i hi => ?_⟩
        · show TbV i (win i) ((d.tab k { d.ts k with st := y.st, most := y.most }).ts i)
          rw [Dv.tab_at]
          split
          · rename_i e3
            subst e3
            rw [h5 _ (Nat.le_refl _)]
            refine .inr (.inl ⟨?_, hwk, ?_, rfl⟩)
            · show y.st = 4 ∨ y.st = 5
              rcases f3 with f3 | f3 | f3 | f3
              · exact absurd f3 e
              · exact absurd f3 e2
              · exact .inl f3
              · exact .inr f3
            · show y.most = 0
              unfold Sr.most
              rw [if_neg e2]
          · exact h4 i (by omega)
        · show (d.tab k { d.ts k with st := y.st, most := y.most }).ts i = _
          rw [Dv.tab_at, if_neg (by omega)]
          exact h5 i (by omega)
  | map k m =>
    obtain ⟨h1, h2, h3, h4, h5, ⟨mo, h6, h7, h8⟩, h9, h10, h11⟩ := h
    obtain ⟨k4, hmk, hr⟩ := hok
    obtain ⟨f1, f2⟩ := h9.feed O.verdict O.reply.exc
    have f3 := h11.feed hmk O.verdict O.reply.exc
    show DvW win (if (m.feed O.verdict O.reply.exc).rest = 0 then aftM win k (rle (m.feed O.verdict O.reply.exc).ks) d else (Ph.map k (m.feed O.verdict O.reply.exc), d)).1 (if (m.feed O.verdict O.reply.exc).rest = 0 then aftM win k (rle (m.feed O.verdict O.reply.exc).ks) d else (Ph.map k (m.feed O.verdict O.reply.exc), d)).2
    generalize m.feed O.verdict O.reply.exc = y at *
    split
    · rename_i e
      have e : y.cnt - (y.ks.length : Int) = 0 := e
      obtain ⟨g1, g2⟩ := rle_val _ y.ks rfl f1
      unfold aftM
      refine meas_val (4 - (k + 1)) (by omega) _ ⟨h1, h2, h3, fun i hi => ?_, fun i hi => ?_⟩
      · show TbV i (win i) ((d.tab k { d.ts k with map := rle y.ks }).ts i)
        rw [Dv.tab_at]
        split
        · rename_i e3
          subst e3
          rw [h6]
          have hc := hmk.c0
          refine .inr (.inr ⟨rfl, by omega, h7, h8, g1, ?_⟩)
          show sumR (rle y.ks) = (win i).2
          omega
        · exact h4 i (by omega)
      · show (d.tab k { d.ts k with map := rle y.ks }).ts i = _
        rw [Dv.tab_at, if_neg (by omega)]
        exact h5 i (by omega)
    · exact ⟨h1, h2, h3, h4, h5, ⟨mo, h6, h7, h8⟩, f1, f2.trans h10, f3⟩
  | done => exact h
theorem place_lt {c : Cf} (hn : 1 ≤ c.n) {a b : Nat} (h : a < b) : c.pSet a < c.pSet b ∨ (c.pSet a = c.pSet b ∧ c.pUnit a < c.pUnit b) := by
  unfold Cf.pSet Cf.pUnit
  have ha : (a : Int) < (b : Int) := by omega
  have h1 := Int.mul_ediv_add_emod (a : Int) c.n
  have h2 := Int.mul_ediv_add_emod (b : Int) c.n
  have h3 := Int.emod_nonneg (a : Int) (show c.n ≠ 0 by omega)
  have h4 := Int.emod_nonneg (b : Int) (show c.n ≠ 0 by omega)
  have h5 := Int.emod_lt_of_pos (a : Int) (show 0 < c.n by omega)
  have h6 := Int.emod_lt_of_pos (b : Int) (show 0 < c.n by omega)
  by_cases e : (a : Int) / c.n = (b : Int) / c.n
  · refine .inr ⟨e, ?_⟩
    rw [e] at h1
    omega
  · left
    have h7 : (a : Int) / c.n ≤ (b : Int) / c.n := Int.ediv_le_ediv (by omega) (by omega)
    omega
def FdV (c : Cf) (n : Nat) (f : Fd) : Prop := (∃ a, a < n ∧ f.set = c.pSet a ∧ f.unit = c.pUnit a) ∧ f.d.val c.win ∧ ¬ f.d.st = 1
def FdLt (f g : Fd) : Prop := f.set < g.set ∨ (f.set = g.set ∧ f.unit < g.unit)
structure FdsV (c : Cf) (n : Nat) (l : List Fd) : Prop where
  one : ∀ f ∈ l, FdV c n f
  ord : ∀ i f g, l[i]? = some f → l[i + 1]? = some g → FdLt f g
theorem FdsV.up {c : Cf} {n m : Nat} {l : List Fd} (h : FdsV c n l) (hm : n ≤ m) : FdsV c m l :=
  ⟨fun f hf => by obtain ⟨⟨a, h1, h2⟩, h3⟩ := h.one f hf; exact ⟨⟨a, by omega, h2⟩, h3⟩, h.ord⟩
theorem FdsV.snoc {c : Cf} (hn : 1 ≤ c.n) {n : Nat} {l : List Fd} (h : FdsV c n l) {d : Dv} (hd : d.val c.win) (h1 : ¬ d.st = 1) : FdsV c (n + 1) (l ++ [⟨c.pSet n, c.pUnit n, d⟩]) := by
  refine ⟨fun f hf => ?_, fun i f g hi hj => ?_⟩
  · rcases List.mem_append.1 hf with hf | hf
    · exact (h.up (Nat.le_succ n)).one f hf
    · rw [List.mem_singleton] at hf
      subst hf
      exact ⟨⟨n, Nat.lt_succ_self _, rfl, rfl⟩, hd, h1⟩
  · have hl : i + 1 < (l ++ [(⟨c.pSet n, c.pUnit n, d⟩ : Fd)]).length := (List.getElem?_eq_some_iff.1 hj).1
    rw [List.length_append] at hl
    have hl : i < l.length := by simpa using hl
    rw [List.getElem?_append_left hl] at hi
    by_cases e : i + 1 < l.length
    · rw [List.getElem?_append_left e] at hj
      exact h.ord i f g hi hj
    · have e2 : i + 1 = l.length := by omega
      rw [List.getElem?_append_right (by omega), e2] at hj
      simp only [Nat.sub_self, List.getElem?_cons_zero, Option.some.injEq] at hj
      subst hj
      obtain ⟨⟨a, ha, e3, e4⟩, -⟩ := h.one f (List.mem_of_getElem? hi)
      rcases place_lt hn ha with hp | ⟨hp, hq⟩
      · exact .inl (by rw [e3]; exact hp)
      · exact .inr ⟨by rw [e3]; exact hp, by rw [e4]; exact hq⟩
structure SvI (c : Cf) (x : Sp) : Prop where
  pb : DvW c.win x.pb.ph x.pb.d
  fd : FdsV c x.at_ x.fd
theorem SvI.ini (c : Cf) : SvI c Sp.ini := ⟨rfl, ⟨fun f hf => (by cases hf), fun i f g hf => by simp [Sp.ini] at hf⟩⟩
theorem SvI.feed {c : Cf} (hn : 1 ≤ c.n) {x : Sp} {k : Nat} (hg : SpGd c x k) (h : SvI c x) {O : Oc} (hO : O.jr) : SvI c (x.feed c O) := by
  unfold Sp.feed
  split
  · exact h
  · have hs := DvW.step hg.ok h.pb hO
    have hph : (x.pb.feed c.win O).ph = (x.pb.step c.win O).1 := rfl
    have hd : (x.pb.feed c.win O).d = (x.pb.step c.win O).2 := rfl
    rw [← hph, ← hd] at hs
    generalize x.pb.feed c.win O = p at *
    unfold Sp.next
    split
    · rename_i e
      have hv : p.d.val c.win := by
        cases hp : p.ph with
        | done => rw [hp] at hs; exact hs
        | _ => rw [hp] at e; cases e
      refine ⟨rfl, ?_⟩
      show FdsV c (x.at_ + 1) (x.fd ++ (if p.d.st = 1 then [] else [⟨c.pSet x.at_, c.pUnit x.at_, p.d⟩]))
      split
      · rw [List.append_nil]
        exact h.fd.up (Nat.le_succ _)
      · rename_i h1
        exact h.fd.snoc hn hv h1
    · exact ⟨hs, h.fd⟩
end Go.Proofs.YtipnamoocemeeaaGreat
