/-
 Texts 35 of the claim.
-/
import Derived.Test.YtoaoejaodhedaaaGreatE34
namespace Go.Proofs.YtoaoejaodhedaaaGreat
open Go.RowKit
set_option maxHeartbeats 3200000
set_option maxRecDepth 100000
def Refused (w:World) (e:Int) (r:Ending) (w':World):Prop:=r=.returned (.int .i64 e)∧Below w.heap.size w w'
theorem begin_range (g:Nat) (s:Lk) (unit qf qa qq qc qo tick:Int) (w:World) (hl:LkAt w g s) (hph:s.ph=0∨s.ph=5) (hr:¬(1≤unit∧unit≤247∧s.now≤tick∧tick≤1152921504606846976)):
  Calls Tryz.prog 73 #[.pointer (some ⟨g,0,none⟩),.int .i64 unit,.agg #[.int .i64 qf,.int .i64 qa,.int .i64 qq,.int .i64 qc,.int .i64 qo],.int .i64 tick] w (Refused w 3):=by
 have hg:=hl.lt
 have c5:w.cell? ⟨g,5,none⟩=some (.int .i64 0)∨w.cell? ⟨g,5,none⟩=some (.int .i64 5):=by
  rw[hl.cell 5]
  rcases hph with h|h
  ·left;simp [Lk.cells,h]
  ·right;simp [Lk.cells,h]
 have c13:w.cell? ⟨g,13,none⟩=some (.int .i64 s.now):=hl.cell 13
 obtain⟨V,hV⟩:∃V,(decide (1≤unit)&&decide (unit≤247))=V:=⟨_,rfl⟩
 obtain⟨V',hV'⟩:∃V',(decide (s.now≤tick)&&decide (tick≤1152921504606846976))=V':=⟨_,rfl⟩
 have hd:V=false∨(V=true∧V'=false):=by
  cases V with
  |false=>exact .inl rfl
  |true=>
   refine .inr ⟨rfl,?_⟩
   cases V' with
   |false=>rfl
   |true=>simp at hV hV';omega
 replace hV:=hid hV
 replace hV':=hid hV'
 clear hl hph hr
 rcases hd with rfl|⟨rfl,rfl⟩<;>rcases c5 with c5|c5
 all_goals
  go_enter Tryz.func73,Tryz.ntmps73
  go_wp2_with (first|(go_at_call 104;(with_reducible refine(within_any unit 1 247 _ _ hV).mono ?_);rintro r wi ⟨rfl,rfl⟩)|(go_at_call 104;(with_reducible refine(within_any tick s.now 1152921504606846976 _ _ hV').mono ?_);rintro r wi ⟨rfl,rfl⟩))
  go_ret
  exact⟨rfl,bal' w _⟩
theorem begin_form (g:Nat) (s:Lk) (unit qf qa qq qc qo tick:Int) (w:World) (hl:LkAt w g s) (hph:s.ph=0∨s.ph=5) (h1:1≤unit) (h2:unit≤247) (h3:s.now≤tick) (h4:tick≤1152921504606846976) (hq:Rq.ok ⟨qf,qa,qq,qc,qo⟩=false):
  Calls Tryz.prog 73 #[.pointer (some ⟨g,0,none⟩),.int .i64 unit,.agg #[.int .i64 qf,.int .i64 qa,.int .i64 qq,.int .i64 qc,.int .i64 qo],.int .i64 tick] w (Refused w 5):=by
 have hg:=hl.lt
 have c5:w.cell? ⟨g,5,none⟩=some (.int .i64 0)∨w.cell? ⟨g,5,none⟩=some (.int .i64 5):=by
  rw[hl.cell 5]
  rcases hph with h|h
  ·left;simp [Lk.cells,h]
  ·right;simp [Lk.cells,h]
 have c13:w.cell? ⟨g,13,none⟩=some (.int .i64 s.now):=hl.cell 13
 have V1:Hid ((decide (1≤unit)&&decide (unit≤247))=true):=by show _=_;rw[decide_eq_true h1,decide_eq_true h2];rfl
 have V2:Hid ((decide (s.now≤tick)&&decide (tick≤1152921504606846976))=true):=by show _=_;rw[decide_eq_true h3,decide_eq_true h4];rfl
 have HQ:Hid (∀W,Calls Tryz.prog 121 #[.agg #[.int .i64 qf,.int .i64 qa,.int .i64 qq,.int .i64 qc,.int .i64 qo]] W fun r w'=>r=.returned (.bool false)∧Below W.heap.size W w'):=fun W=>by rw[←hq];exact pqvalid_any qf qa qq qc qo W
 clear hl hph h1 h2 h3 h4 hq
 rcases c5 with c5|c5
 all_goals
  go_enter Tryz.func73,Tryz.ntmps73
  go_wp2_with (first|(go_at_call 104;(with_reducible refine(within_any unit 1 247 _ true V1).mono ?_);rintro r wi ⟨rfl,rfl⟩)|(go_at_call 104;(with_reducible refine(within_any tick s.now 1152921504606846976 _ true V2).mono ?_);rintro r wi ⟨rfl,rfl⟩)|(go_at_call 121;(with_reducible refine(HQ.out _).mono ?_);rintro r w1 ⟨rfl,hb1⟩))
  go_ret
  exact⟨rfl,bt (bal' w _) hb1 (Nat.le_refl _)⟩
end Go.Proofs.YtoaoejaodhedaaaGreat
