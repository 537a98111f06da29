/-
 Texts 18 of the claim.
-/
import Derived.Test.YtoaoejaodhedaaaGreatE17
import Derived.Test.YtoaoejaodhedaaaGreatE16
import Derived.Deep.RegionHeld3
import Derived.Test.YtoaoejaodhedaaaGreatE15
import Derived.Test.YtoaoejaodhedaaaGreatE05
namespace Go.Proofs.YtoaoejaodhedaaaGreat
open Go.RowKit
def readB (q:Rq) (b:List UInt8):Option Rp:=
 if q.ok=true then (match Rp.dec b with|some r=>if r.fn=q.fn∧matchB q r=true then some r else none|none=>none) else none
theorem readB_ok {q:Rq} {b:List UInt8} {r:Rp} (h:readB q b=some r):r.ok=true:=by
 unfold readB at h
 split at h
 ·split at h
  ·split at h
   ·cases h
    rename_i h2
    have:=h2.2
    unfold matchB at this
    simp only[Bool.and_eq_true] at this
    exact this.1.1.2
   ·cases h
  ·cases h
 ·cases h
def RdOne (w:World) (o:Option Rp) (r:Ending) (w':World):Prop:=
 ∃(x:Rp) (da:Option Addr) (dc:Nat) (oa:Option Addr) (oc:Nat) (e:Int),r=.returned (.tuple #[.agg #[.int .i64 x.fn,.int .i64 x.exc,.slice da x.data.length dc,.int .i64 x.code,.int .i64 x.level,.bool x.more,.int .i64 x.next,.slice oa x.objs.length oc],.int .i64 e])∧Below w.heap.size w w'∧(∀W,Agree w.heap.size w' W→RpIs W x da dc oa oc)∧
  ((e=0∧o=some x)∨(e≠0∧1≤e∧e≤17∧o=none∧x=Rp.zero∧da=none∧dc=0∧oa=none∧oc=0))
theorem RpIs.zero (w:World):RpIs w Rp.zero none 0 none 0:=⟨Bs.nil _,Obs.nil _,by decide,by decide⟩
theorem DecPost.one {w:World} {o:Option Rp} {r:Ending} {w':World} (h:DecPost w o r w'):RdOne w o r w':=by
 rcases h with⟨x,da,dc,oa,oc,h1,h2,h3,h4⟩|⟨e,h1,h2,h3,h4,h5⟩
 ·exact ⟨x,da,dc,oa,oc,0,h2,h4,h3,.inl ⟨rfl,h1⟩⟩
 ·exact ⟨Rp.zero,none,0,none,0,e,h4,h5,fun W _=>RpIs.zero W,.inr ⟨by omega,h1,h2,h3,rfl,rfl,rfl,rfl,rfl⟩⟩
theorem RdOne.err {w:World} {o:Option Rp} {w':World} (ho:o=none) (e:Int) (h1:1≤e) (h2:e≤17) (hb:Below w.heap.size w w'):
  RdOne w o (.returned (.tuple #[.agg #[.int .i64 0,.int .i64 0,.slice none 0 0,.int .i64 0,.int .i64 0,.bool false,.int .i64 0,.slice none 0 0],.int .i64 e])) w':=
 ⟨Rp.zero,none,0,none,0,e,rfl,hb,fun W _=>RpIs.zero W,.inr ⟨by omega,h1,h2,ho,rfl,rfl,rfl,rfl,rfl⟩⟩
theorem Agree.of_new {B:Nat} {w W:World} {X:Obj} (h:Keeps (· =w.heap.size) (w.alloc X) W):Agree B w W:=
 ⟨Nat.le_trans (bal' w X).size h.size,fun k _ hl=>by rw[h.block k (Nat.lt_of_lt_of_le hl (bal' w X).size) (by omega),(bal' w X).block k hl]⟩
def judgeR:Option Rp→Oc
 |some r=>if r.exc=6 then ⟨5,Rp.zero⟩ else if r.exc=0 then ⟨1,r⟩ else ⟨2,r⟩
 |none=>⟨4,Rp.zero⟩
def judgeB (chk:List UInt8→Bool) (unit:Int) (q:Rq) (flags:Int) (l:List UInt8):Oc:=
 match splitB chk l with
 |some (u,p)=>if flags=0∧u=unit then judgeR (readB q p) else ⟨4,Rp.zero⟩
 |none=>⟨4,Rp.zero⟩
def OcOne (w:World) (o:Oc) (r:Ending) (w':World):Prop:=
 ∃(da:Option Addr) (dc:Nat) (oa:Option Addr) (oc:Nat),r=.returned (.agg #[.int .i64 o.verdict,.int .i64 o.reply.fn,.int .i64 o.reply.exc,.slice da o.reply.data.length dc,.int .i64 o.reply.code,.int .i64 o.reply.level,.bool o.reply.more,.int .i64 o.reply.next,.slice oa o.reply.objs.length oc])∧(∀W,Agree w.heap.size w' W→RpIs W o.reply da dc oa oc)∧Below w.heap.size w w'
theorem OcOne.bare {w w':World} {o:Oc} (v:Int) (ho:o=⟨v,Rp.zero⟩) (hb:Below w.heap.size w w'):
  OcOne w o (.returned (.agg #[.int .i64 v,.int .i64 0,.int .i64 0,.slice none 0 0,.int .i64 0,.int .i64 0,.bool false,.int .i64 0,.slice none 0 0])) w':=by
 subst ho
 exact⟨none,0,none,0,rfl,fun W _=>RpIs.zero W,hb⟩
end Go.Proofs.YtoaoejaodhedaaaGreat
