/-
  Replies and outcomes as plain data, and what the chapters on replies and records say of them. No program in sight.
-/
import Derived.Test.YtlaaoifjiogogaaBase
namespace Go.Proofs.Ytlaaoifjiogogaa

/-- An identification object. -/
structure Ob where
  id : Int
  val : List UInt8

/-- A reply. -/
structure Rp where
  fn : Int
  exc : Int
  data : List UInt8
  code : Int
  level : Int
  more : Bool
  next : Int
  objs : List Ob

/-- An outcome. -/
structure Oc where
  verdict : Int
  reply : Rp

def Rp.zero : Rp := ⟨0, 0, [], 0, 0, false, 0, []⟩

def Ob.same (a b : Ob) : Bool := a.id == b.id && a.val == b.val
def sameObs : List Ob → List Ob → Bool
  | [], [] => true
  | a :: l, b :: k => a.same b && sameObs l k
  | _, _ => false
def Rp.same (a b : Rp) : Bool := a.fn == b.fn && a.exc == b.exc && a.data == b.data && a.code == b.code && a.level == b.level && a.more == b.more && a.next == b.next && sameObs a.objs b.objs
def Oc.same (a b : Oc) : Bool := a.verdict == b.verdict && a.reply.same b.reply

theorem Ob.same_self (a : Ob) : a.same a = true := by simp [Ob.same]
theorem sameObs_self : ∀ l : List Ob, sameObs l l = true
  | [] => rfl
  | a :: l => by simp [sameObs, a.same_self, sameObs_self l]
theorem Rp.same_self (a : Rp) : a.same a = true := by simp [Rp.same, sameObs_self]
theorem Oc.same_self (a : Oc) : a.same a = true := by simp [Oc.same, Rp.same_self]

def tblB (f : Int) : Bool := decide (1 ≤ f) && decide (f ≤ 4)
def knownB (f : Int) : Bool := tblB f || f == 17 || f == 43
def Rp.plain (r : Rp) : Bool := r.code == 0 && r.level == 0 && !r.more && r.next == 0 && r.objs.isEmpty
def Rp.short (r : Rp) : Bool := r.data.isEmpty && r.plain

/-- The identifiers rise from the last one on, and none is above 255. -/
def rises (last : Int) : List Ob → Bool
  | [] => true
  | x :: l => decide (last < x.id) && decide (x.id ≤ 255) && rises x.id l
def obSize : List Ob → Nat
  | [] => 0
  | x :: l => 2 + x.val.length + obSize l
def lastId (last : Int) : List Ob → Int
  | [] => last
  | x :: l => lastId x.id l
def lvB (level : Int) : Bool := (decide (1 ≤ level) && decide (level ≤ 3)) || (decide (129 ≤ level) && decide (level ≤ 131))
def objsB (l : List Ob) : Bool := rises (-1) l && decide (obSize l ≤ 246)
def Rp.devB (r : Rp) : Bool :=
  r.data.isEmpty && decide (1 ≤ r.code) && decide (r.code ≤ 3) && lvB r.level && decide (0 ≤ r.next) && decide (r.next ≤ 255) && objsB r.objs &&
    (if r.more then !r.objs.isEmpty && decide (lastId (-1) r.objs < r.next) else r.next == 0)
def Rp.ok (r : Rp) : Bool :=
  knownB r.fn &&
    if r.exc = 0 then
      (if r.fn = 43 then r.devB else if r.fn = 17 then decide (1 ≤ r.data.length) && decide (r.data.length ≤ 251) && r.plain else decide (1 ≤ r.data.length) && decide (r.data.length ≤ 250) && r.plain)
    else decide (1 ≤ r.exc) && decide (r.exc ≤ 255) && r.short

def Oc.strip (o : Oc) : Oc :=
  ⟨o.verdict, if o.verdict = 1 ∨ o.verdict = 2 then (if o.verdict = 2 ∨ tblB o.reply.fn = true then ⟨o.reply.fn, o.reply.exc, [], 0, 0, false, 0, []⟩ else o.reply) else Rp.zero⟩

def Oc.ok (o : Oc) : Bool :=
  if o.verdict = 3 ∨ o.verdict = 4 ∨ o.verdict = 5 then o.reply.fn == 0 && o.reply.exc == 0 && o.reply.short
  else if o.verdict = 2 then !(o.reply.exc == 0) && o.reply.ok
  else if o.verdict = 1 then (o.reply.exc == 0) && (if tblB o.reply.fn then o.reply.short else o.reply.ok)
  else false

theorem Oc.strip_strip (o : Oc) : o.strip.strip = o.strip := by
  unfold Oc.strip
  by_cases h1 : o.verdict = 1 ∨ o.verdict = 2
  · by_cases h2 : o.verdict = 2 ∨ tblB o.reply.fn = true
    · simp [h1, h2]
    · simp [h1, h2]
  · simp [h1]

end Go.Proofs.Ytlaaoifjiogogaa
