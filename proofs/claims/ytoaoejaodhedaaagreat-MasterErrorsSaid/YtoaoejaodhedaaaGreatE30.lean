/-
 Texts 30 of the claim.
-/
import Derived.Test.YtoaoejaodhedaaaGreatE16
import Derived.Test.YtoaoejaodhedaaaGreatE13
namespace Go.Proofs.YtoaoejaodhedaaaGreat
open Go.RowKit
set_option maxHeartbeats 3200000
set_option maxRecDepth 100000
def PHead (w:World) (V1 V2:Bool) (qf qa qq qc qo fn exc:Int) (da:Option Addr) (dn dc:Nat) (code level:Int) (more:Bool) (next:Int) (oa:Option Addr) (on oc:Nat):Prop:=
 (∀W,Calls Tryz.prog 121 #[.agg #[.int .i64 qf,.int .i64 qa,.int .i64 qq,.int .i64 qc,.int .i64 qo]] W fun r w'=>r=.returned (.bool V1)∧Below W.heap.size W w')∧
 (∀W,Below w.heap.size w W→Calls Tryz.prog 197 #[.agg #[.int .i64 fn,.int .i64 exc,.slice da dn dc,.int .i64 code,.int .i64 level,.bool more,.int .i64 next,.slice oa on oc]] W fun r w'=>r=.returned (.bool V2)∧Below W.heap.size W w')
theorem pmatA (w:World) (V1 V2:Bool) (qf qa qq qc qo fn exc:Int) (da:Option Addr) (dn dc:Nat) (code level:Int) (more:Bool) (next:Int) (oa:Option Addr) (on oc:Nat)
  (H:Hid (PHead w V1 V2 qf qa qq qc qo fn exc da dn dc code level more next oa on oc)) (hv:V1=false∨V2=false∨¬qf=fn):
  Calls Tryz.prog 177 #[.agg #[.int .i64 qf,.int .i64 qa,.int .i64 qq,.int .i64 qc,.int .i64 qo],.agg #[.int .i64 fn,.int .i64 exc,.slice da dn dc,.int .i64 code,.int .i64 level,.bool more,.int .i64 next,.slice oa on oc]] w fun r w'=>r=.returned (.bool false)∧Below w.heap.size w w':=by
 have kB:∀X Y,Below w.heap.size w ((w.alloc X).alloc Y):=fun X Y=>bta (bal' w X) (Nat.le_refl _) Y
 have HH:=hid (show ((w.alloc (.cells #[.int .i64 qf,.int .i64 qa,.int .i64 qq,.int .i64 qc,.int .i64 qo] 45)).alloc (.cells #[.int .i64 fn,.int .i64 exc,.slice da dn dc,.int .i64 code,.int .i64 level,.bool more,.int .i64 next,.slice oa on oc] 53)).heap[w.heap.size]?=some (.cells #[.int .i64 qf,.int .i64 qa,.int .i64 qq,.int .i64 qc,.int .i64 qo] 45)∧((w.alloc (.cells #[.int .i64 qf,.int .i64 qa,.int .i64 qq,.int .i64 qc,.int .i64 qo] 45)).alloc (.cells #[.int .i64 fn,.int .i64 exc,.slice da dn dc,.int .i64 code,.int .i64 level,.bool more,.int .i64 next,.slice oa on oc] 53)).heap[w.heap.size+1]?=some (.cells #[.int .i64 fn,.int .i64 exc,.slice da dn dc,.int .i64 code,.int .i64 level,.bool more,.int .i64 next,.slice oa on oc] 53) from ⟨hpKeep (hpNew w _) (bal' _ _),by have:=hpNew (w.alloc (.cells #[.int .i64 qf,.int .i64 qa,.int .i64 qq,.int .i64 qc,.int .i64 qo] 45)) (.cells #[.int .i64 fn,.int .i64 exc,.slice da dn dc,.int .i64 code,.int .i64 level,.bool more,.int .i64 next,.slice oa on oc] 53);simpa using this⟩)
 have hcs:(V1=false)∨(V1=true∧V2=false)∨(V1=true∧V2=true∧(qf !=fn)=true):=by
  cases V1 with
  |false=>exact .inl rfl
  |true=>
   cases V2 with
   |false=>exact .inr (.inl ⟨rfl,rfl⟩)
   |true=>exact .inr (.inr ⟨rfl,rfl,by rcases hv with h|h|h<;>first|(cases h;done)|simpa using h⟩)
 clear hv
 rcases hcs with rfl|⟨rfl,rfl⟩|⟨rfl,rfl,hne⟩
 ·go_enter Tryz.func177,Tryz.ntmps177
  go_wp2_with fail
  refine(H.out.1 _).mono ?_
  rintro r w1 ⟨rfl,hb1⟩
  go_wp2
  go_ret
  exact⟨rfl,bt (kB _ _) hb1 (Nat.le_refl _)⟩
 all_goals
  go_enter Tryz.func177,Tryz.ntmps177
  go_wp2_with fail
  refine(H.out.1 _).mono ?_
  rintro r w1 ⟨rfl,hb1⟩
  have gQ:=hpKeep HH.out.1 hb1
  have gR:=hpKeep HH.out.2 hb1
  have hbw1:=bt (kB _ _) hb1 (Nat.le_refl _)
  obtain⟨e0,e1,e2,e3,e4,e5,e6,e7⟩:w1.cell? ⟨(w.heap.size+1),0,none⟩=some (.int .i64 fn)∧w1.cell? ⟨(w.heap.size+1),1,none⟩=some (.int .i64 exc)∧w1.cell? ⟨(w.heap.size+1),2,none⟩=some (.slice da dn dc)∧w1.cell? ⟨(w.heap.size+1),3,none⟩=some (.int .i64 code)∧w1.cell? ⟨(w.heap.size+1),4,none⟩=some (.int .i64 level)∧w1.cell? ⟨(w.heap.size+1),5,none⟩=some (.bool more)∧w1.cell? ⟨(w.heap.size+1),6,none⟩=some (.int .i64 next)∧w1.cell? ⟨(w.heap.size+1),7,none⟩=some (.slice oa on oc):=⟨hpCell gR 0,hpCell gR 1,hpCell gR 2,hpCell gR 3,hpCell gR 4,hpCell gR 5,hpCell gR 6,hpCell gR 7⟩
  clear hb1 kB
  go_wp2_with fail
  refine(H.out.2 _ hbw1).mono ?_
  rintro r w2 ⟨rfl,hb2⟩
  have y0:w2.cell? ⟨w.heap.size,0,none⟩=some (.int .i64 qf):=hpCell (hpKeep gQ hb2) 0
  have y1:w2.cell? ⟨w.heap.size+1,0,none⟩=some (.int .i64 fn):=hpCell (hpKeep gR hb2) 0
  have hbw2:=bt hbw1 hb2 (Nat.le_refl _)
  clear e0 e1 e2 e3 e4 e5 e6 e7 gQ gR
  go_wp2
  go_ret
  exact⟨rfl,hbw2⟩
theorem pmat_exc (w:World) (qa qq qc qo fn exc:Int) (da:Option Addr) (dn dc:Nat) (code level:Int) (more:Bool) (next:Int) (oa:Option Addr) (on oc:Nat)
  (H:Hid (PHead w true true fn qa qq qc qo fn exc da dn dc code level more next oa on oc)) (hx:(exc !=0)=true):
  Calls Tryz.prog 177 #[.agg #[.int .i64 fn,.int .i64 qa,.int .i64 qq,.int .i64 qc,.int .i64 qo],.agg #[.int .i64 fn,.int .i64 exc,.slice da dn dc,.int .i64 code,.int .i64 level,.bool more,.int .i64 next,.slice oa on oc]] w fun r w'=>r=.returned (.bool true)∧Below w.heap.size w w':=by
 have kB:∀X Y,Below w.heap.size w ((w.alloc X).alloc Y):=fun X Y=>bta (bal' w X) (Nat.le_refl _) Y
 have HH:=hid (show ((w.alloc (.cells #[.int .i64 fn,.int .i64 qa,.int .i64 qq,.int .i64 qc,.int .i64 qo] 45)).alloc (.cells #[.int .i64 fn,.int .i64 exc,.slice da dn dc,.int .i64 code,.int .i64 level,.bool more,.int .i64 next,.slice oa on oc] 53)).heap[w.heap.size]?=some (.cells #[.int .i64 fn,.int .i64 qa,.int .i64 qq,.int .i64 qc,.int .i64 qo] 45)∧((w.alloc (.cells #[.int .i64 fn,.int .i64 qa,.int .i64 qq,.int .i64 qc,.int .i64 qo] 45)).alloc (.cells #[.int .i64 fn,.int .i64 exc,.slice da dn dc,.int .i64 code,.int .i64 level,.bool more,.int .i64 next,.slice oa on oc] 53)).heap[w.heap.size+1]?=some (.cells #[.int .i64 fn,.int .i64 exc,.slice da dn dc,.int .i64 code,.int .i64 level,.bool more,.int .i64 next,.slice oa on oc] 53) from ⟨hpKeep (hpNew w _) (bal' _ _),by have:=hpNew (w.alloc (.cells #[.int .i64 fn,.int .i64 qa,.int .i64 qq,.int .i64 qc,.int .i64 qo] 45)) (.cells #[.int .i64 fn,.int .i64 exc,.slice da dn dc,.int .i64 code,.int .i64 level,.bool more,.int .i64 next,.slice oa on oc] 53);simpa using this⟩)
 go_enter Tryz.func177,Tryz.ntmps177
 go_wp2_with fail
 refine(H.out.1 _).mono ?_
 rintro r w1 ⟨rfl,hb1⟩
 have gQ1:=hpKeep HH.out.1 hb1
 have gR1:=hpKeep HH.out.2 hb1
 have hbw1:=bt (kB _ _) hb1 (Nat.le_refl _)
 obtain⟨e0,e1,e2,e3,e4,e5,e6,e7⟩:w1.cell? ⟨(w.heap.size+1),0,none⟩=some (.int .i64 fn)∧w1.cell? ⟨(w.heap.size+1),1,none⟩=some (.int .i64 exc)∧w1.cell? ⟨(w.heap.size+1),2,none⟩=some (.slice da dn dc)∧w1.cell? ⟨(w.heap.size+1),3,none⟩=some (.int .i64 code)∧w1.cell? ⟨(w.heap.size+1),4,none⟩=some (.int .i64 level)∧w1.cell? ⟨(w.heap.size+1),5,none⟩=some (.bool more)∧w1.cell? ⟨(w.heap.size+1),6,none⟩=some (.int .i64 next)∧w1.cell? ⟨(w.heap.size+1),7,none⟩=some (.slice oa on oc):=⟨hpCell gR1 0,hpCell gR1 1,hpCell gR1 2,hpCell gR1 3,hpCell gR1 4,hpCell gR1 5,hpCell gR1 6,hpCell gR1 7⟩
 clear hb1 kB
 go_wp2_with fail
 refine(H.out.2 _ hbw1).mono ?_
 rintro r w2 ⟨rfl,hb2⟩
 have gQ:=hpKeep gQ1 hb2
 have gR:=hpKeep gR1 hb2
 have hbw2:=bt hbw1 hb2 (Nat.le_refl _)
 clear e0 e1 e2 e3 e4 e5 e6 e7 gQ1 gR1 hbw1 hb2
 obtain⟨e0,e1,e2,e3,e4,e5,e6,e7⟩:w2.cell? ⟨(w.heap.size+1),0,none⟩=some (.int .i64 fn)∧w2.cell? ⟨(w.heap.size+1),1,none⟩=some (.int .i64 exc)∧w2.cell? ⟨(w.heap.size+1),2,none⟩=some (.slice da dn dc)∧w2.cell? ⟨(w.heap.size+1),3,none⟩=some (.int .i64 code)∧w2.cell? ⟨(w.heap.size+1),4,none⟩=some (.int .i64 level)∧w2.cell? ⟨(w.heap.size+1),5,none⟩=some (.bool more)∧w2.cell? ⟨(w.heap.size+1),6,none⟩=some (.int .i64 next)∧w2.cell? ⟨(w.heap.size+1),7,none⟩=some (.slice oa on oc):=⟨hpCell gR 0,hpCell gR 1,hpCell gR 2,hpCell gR 3,hpCell gR 4,hpCell gR 5,hpCell gR 6,hpCell gR 7⟩
 obtain⟨y0,y1,y2,y3,y4⟩:w2.cell? ⟨w.heap.size,0,none⟩=some (.int .i64 fn)∧w2.cell? ⟨w.heap.size,1,none⟩=some (.int .i64 qa)∧w2.cell? ⟨w.heap.size,2,none⟩=some (.int .i64 qq)∧w2.cell? ⟨w.heap.size,3,none⟩=some (.int .i64 qc)∧w2.cell? ⟨w.heap.size,4,none⟩=some (.int .i64 qo):=⟨hpCell gQ 0,hpCell gQ 1,hpCell gQ 2,hpCell gQ 3,hpCell gQ 4⟩
 clear gQ gR
 go_wp2
 go_ret
 exact⟨rfl,hbw2⟩
theorem pmat_srv (w:World) (qa qq qc qo:Int) (da:Option Addr) (dn dc:Nat) (code level:Int) (more:Bool) (next:Int) (oa:Option Addr) (on oc:Nat)
  (H:Hid (PHead w true true 17 qa qq qc qo 17 0 da dn dc code level more next oa on oc)):
  Calls Tryz.prog 177 #[.agg #[.int .i64 17,.int .i64 qa,.int .i64 qq,.int .i64 qc,.int .i64 qo],.agg #[.int .i64 17,.int .i64 0,.slice da dn dc,.int .i64 code,.int .i64 level,.bool more,.int .i64 next,.slice oa on oc]] w fun r w'=>r=.returned (.bool true)∧Below w.heap.size w w':=by
 have kB:∀X Y,Below w.heap.size w ((w.alloc X).alloc Y):=fun X Y=>bta (bal' w X) (Nat.le_refl _) Y
 have HH:=hid (show ((w.alloc (.cells #[.int .i64 17,.int .i64 qa,.int .i64 qq,.int .i64 qc,.int .i64 qo] 45)).alloc (.cells #[.int .i64 17,.int .i64 0,.slice da dn dc,.int .i64 code,.int .i64 level,.bool more,.int .i64 next,.slice oa on oc] 53)).heap[w.heap.size]?=some (.cells #[.int .i64 17,.int .i64 qa,.int .i64 qq,.int .i64 qc,.int .i64 qo] 45)∧((w.alloc (.cells #[.int .i64 17,.int .i64 qa,.int .i64 qq,.int .i64 qc,.int .i64 qo] 45)).alloc (.cells #[.int .i64 17,.int .i64 0,.slice da dn dc,.int .i64 code,.int .i64 level,.bool more,.int .i64 next,.slice oa on oc] 53)).heap[w.heap.size+1]?=some (.cells #[.int .i64 17,.int .i64 0,.slice da dn dc,.int .i64 code,.int .i64 level,.bool more,.int .i64 next,.slice oa on oc] 53) from ⟨hpKeep (hpNew w _) (bal' _ _),by have:=hpNew (w.alloc (.cells #[.int .i64 17,.int .i64 qa,.int .i64 qq,.int .i64 qc,.int .i64 qo] 45)) (.cells #[.int .i64 17,.int .i64 0,.slice da dn dc,.int .i64 code,.int .i64 level,.bool more,.int .i64 next,.slice oa on oc] 53);simpa using this⟩)
 go_enter Tryz.func177,Tryz.ntmps177
 go_wp2_with fail
 refine(H.out.1 _).mono ?_
 rintro r w1 ⟨rfl,hb1⟩
 have gQ1:=hpKeep HH.out.1 hb1
 have gR1:=hpKeep HH.out.2 hb1
 have hbw1:=bt (kB _ _) hb1 (Nat.le_refl _)
 obtain⟨e0,e1,e2,e3,e4,e5,e6,e7⟩:w1.cell? ⟨(w.heap.size+1),0,none⟩=some (.int .i64 17)∧w1.cell? ⟨(w.heap.size+1),1,none⟩=some (.int .i64 0)∧w1.cell? ⟨(w.heap.size+1),2,none⟩=some (.slice da dn dc)∧w1.cell? ⟨(w.heap.size+1),3,none⟩=some (.int .i64 code)∧w1.cell? ⟨(w.heap.size+1),4,none⟩=some (.int .i64 level)∧w1.cell? ⟨(w.heap.size+1),5,none⟩=some (.bool more)∧w1.cell? ⟨(w.heap.size+1),6,none⟩=some (.int .i64 next)∧w1.cell? ⟨(w.heap.size+1),7,none⟩=some (.slice oa on oc):=⟨hpCell gR1 0,hpCell gR1 1,hpCell gR1 2,hpCell gR1 3,hpCell gR1 4,hpCell gR1 5,hpCell gR1 6,hpCell gR1 7⟩
 clear hb1 kB
 go_wp2_with fail
 refine(H.out.2 _ hbw1).mono ?_
 rintro r w2 ⟨rfl,hb2⟩
 have gQ:=hpKeep gQ1 hb2
 have gR:=hpKeep gR1 hb2
 have hbw2:=bt hbw1 hb2 (Nat.le_refl _)
 clear e0 e1 e2 e3 e4 e5 e6 e7 gQ1 gR1 hbw1 hb2
 obtain⟨e0,e1,e2,e3,e4,e5,e6,e7⟩:w2.cell? ⟨(w.heap.size+1),0,none⟩=some (.int .i64 17)∧w2.cell? ⟨(w.heap.size+1),1,none⟩=some (.int .i64 0)∧w2.cell? ⟨(w.heap.size+1),2,none⟩=some (.slice da dn dc)∧w2.cell? ⟨(w.heap.size+1),3,none⟩=some (.int .i64 code)∧w2.cell? ⟨(w.heap.size+1),4,none⟩=some (.int .i64 level)∧w2.cell? ⟨(w.heap.size+1),5,none⟩=some (.bool more)∧w2.cell? ⟨(w.heap.size+1),6,none⟩=some (.int .i64 next)∧w2.cell? ⟨(w.heap.size+1),7,none⟩=some (.slice oa on oc):=⟨hpCell gR 0,hpCell gR 1,hpCell gR 2,hpCell gR 3,hpCell gR 4,hpCell gR 5,hpCell gR 6,hpCell gR 7⟩
 obtain⟨y0,y1,y2,y3,y4⟩:w2.cell? ⟨w.heap.size,0,none⟩=some (.int .i64 17)∧w2.cell? ⟨w.heap.size,1,none⟩=some (.int .i64 qa)∧w2.cell? ⟨w.heap.size,2,none⟩=some (.int .i64 qq)∧w2.cell? ⟨w.heap.size,3,none⟩=some (.int .i64 qc)∧w2.cell? ⟨w.heap.size,4,none⟩=some (.int .i64 qo):=⟨hpCell gQ 0,hpCell gQ 1,hpCell gQ 2,hpCell gQ 3,hpCell gQ 4⟩
 clear gQ gR
 go_wp2
 go_ret
 exact⟨rfl,hbw2⟩
theorem pmat_reg3 (w:World) (qa qq qc qo:Int) (da:Option Addr) (dn dc:Nat) (code level:Int) (more:Bool) (next:Int) (oa:Option Addr) (on oc:Nat)
  (H:Hid (PHead w true true 3 qa qq qc qo 3 0 da dn dc code level more next oa on oc)) (h1:1≤qq) (h2:qq≤2000) (V:Bool) (hV:Hid (((dn:Int)==2*qq)=V)):
  Calls Tryz.prog 177 #[.agg #[.int .i64 3,.int .i64 qa,.int .i64 qq,.int .i64 qc,.int .i64 qo],.agg #[.int .i64 3,.int .i64 0,.slice da dn dc,.int .i64 code,.int .i64 level,.bool more,.int .i64 next,.slice oa on oc]] w fun r w'=>r=.returned (.bool V)∧Below w.heap.size w w':=by
 have kB:∀X Y,Below w.heap.size w ((w.alloc X).alloc Y):=fun X Y=>bta (bal' w X) (Nat.le_refl _) Y
 have HH:=hid (show ((w.alloc (.cells #[.int .i64 3,.int .i64 qa,.int .i64 qq,.int .i64 qc,.int .i64 qo] 45)).alloc (.cells #[.int .i64 3,.int .i64 0,.slice da dn dc,.int .i64 code,.int .i64 level,.bool more,.int .i64 next,.slice oa on oc] 53)).heap[w.heap.size]?=some (.cells #[.int .i64 3,.int .i64 qa,.int .i64 qq,.int .i64 qc,.int .i64 qo] 45)∧((w.alloc (.cells #[.int .i64 3,.int .i64 qa,.int .i64 qq,.int .i64 qc,.int .i64 qo] 45)).alloc (.cells #[.int .i64 3,.int .i64 0,.slice da dn dc,.int .i64 code,.int .i64 level,.bool more,.int .i64 next,.slice oa on oc] 53)).heap[w.heap.size+1]?=some (.cells #[.int .i64 3,.int .i64 0,.slice da dn dc,.int .i64 code,.int .i64 level,.bool more,.int .i64 next,.slice oa on oc] 53) from ⟨hpKeep (hpNew w _) (bal' _ _),by have:=hpNew (w.alloc (.cells #[.int .i64 3,.int .i64 qa,.int .i64 qq,.int .i64 qc,.int .i64 qo] 45)) (.cells #[.int .i64 3,.int .i64 0,.slice da dn dc,.int .i64 code,.int .i64 level,.bool more,.int .i64 next,.slice oa on oc] 53);simpa using this⟩)
 go_enter Tryz.func177,Tryz.ntmps177
 go_wp2_with fail
 refine(H.out.1 _).mono ?_
 rintro r w1 ⟨rfl,hb1⟩
 have gQ1:=hpKeep HH.out.1 hb1
 have gR1:=hpKeep HH.out.2 hb1
 have hbw1:=bt (kB _ _) hb1 (Nat.le_refl _)
 obtain⟨e0,e1,e2,e3,e4,e5,e6,e7⟩:w1.cell? ⟨(w.heap.size+1),0,none⟩=some (.int .i64 3)∧w1.cell? ⟨(w.heap.size+1),1,none⟩=some (.int .i64 0)∧w1.cell? ⟨(w.heap.size+1),2,none⟩=some (.slice da dn dc)∧w1.cell? ⟨(w.heap.size+1),3,none⟩=some (.int .i64 code)∧w1.cell? ⟨(w.heap.size+1),4,none⟩=some (.int .i64 level)∧w1.cell? ⟨(w.heap.size+1),5,none⟩=some (.bool more)∧w1.cell? ⟨(w.heap.size+1),6,none⟩=some (.int .i64 next)∧w1.cell? ⟨(w.heap.size+1),7,none⟩=some (.slice oa on oc):=⟨hpCell gR1 0,hpCell gR1 1,hpCell gR1 2,hpCell gR1 3,hpCell gR1 4,hpCell gR1 5,hpCell gR1 6,hpCell gR1 7⟩
 clear hb1 kB
 go_wp2_with fail
 refine(H.out.2 _ hbw1).mono ?_
 rintro r w2 ⟨rfl,hb2⟩
 have gQ:=hpKeep gQ1 hb2
 have gR:=hpKeep gR1 hb2
 have hbw2:=bt hbw1 hb2 (Nat.le_refl _)
 clear e0 e1 e2 e3 e4 e5 e6 e7 gQ1 gR1 hbw1 hb2
 obtain⟨e0,e1,e2,e3,e4,e5,e6,e7⟩:w2.cell? ⟨(w.heap.size+1),0,none⟩=some (.int .i64 3)∧w2.cell? ⟨(w.heap.size+1),1,none⟩=some (.int .i64 0)∧w2.cell? ⟨(w.heap.size+1),2,none⟩=some (.slice da dn dc)∧w2.cell? ⟨(w.heap.size+1),3,none⟩=some (.int .i64 code)∧w2.cell? ⟨(w.heap.size+1),4,none⟩=some (.int .i64 level)∧w2.cell? ⟨(w.heap.size+1),5,none⟩=some (.bool more)∧w2.cell? ⟨(w.heap.size+1),6,none⟩=some (.int .i64 next)∧w2.cell? ⟨(w.heap.size+1),7,none⟩=some (.slice oa on oc):=⟨hpCell gR 0,hpCell gR 1,hpCell gR 2,hpCell gR 3,hpCell gR 4,hpCell gR 5,hpCell gR 6,hpCell gR 7⟩
 obtain⟨y0,y1,y2,y3,y4⟩:w2.cell? ⟨w.heap.size,0,none⟩=some (.int .i64 3)∧w2.cell? ⟨w.heap.size,1,none⟩=some (.int .i64 qa)∧w2.cell? ⟨w.heap.size,2,none⟩=some (.int .i64 qq)∧w2.cell? ⟨w.heap.size,3,none⟩=some (.int .i64 qc)∧w2.cell? ⟨w.heap.size,4,none⟩=some (.int .i64 qo):=⟨hpCell gQ 0,hpCell gQ 1,hpCell gQ 2,hpCell gQ 3,hpCell gQ 4⟩
 clear gQ gR
 go_wp2
 go_ret
 exact⟨ret_bool hV.out,hbw2⟩
theorem pmat_reg4 (w:World) (qa qq qc qo:Int) (da:Option Addr) (dn dc:Nat) (code level:Int) (more:Bool) (next:Int) (oa:Option Addr) (on oc:Nat)
  (H:Hid (PHead w true true 4 qa qq qc qo 4 0 da dn dc code level more next oa on oc)) (h1:1≤qq) (h2:qq≤2000) (V:Bool) (hV:Hid (((dn:Int)==2*qq)=V)):
  Calls Tryz.prog 177 #[.agg #[.int .i64 4,.int .i64 qa,.int .i64 qq,.int .i64 qc,.int .i64 qo],.agg #[.int .i64 4,.int .i64 0,.slice da dn dc,.int .i64 code,.int .i64 level,.bool more,.int .i64 next,.slice oa on oc]] w fun r w'=>r=.returned (.bool V)∧Below w.heap.size w w':=by
 have kB:∀X Y,Below w.heap.size w ((w.alloc X).alloc Y):=fun X Y=>bta (bal' w X) (Nat.le_refl _) Y
 have HH:=hid (show ((w.alloc (.cells #[.int .i64 4,.int .i64 qa,.int .i64 qq,.int .i64 qc,.int .i64 qo] 45)).alloc (.cells #[.int .i64 4,.int .i64 0,.slice da dn dc,.int .i64 code,.int .i64 level,.bool more,.int .i64 next,.slice oa on oc] 53)).heap[w.heap.size]?=some (.cells #[.int .i64 4,.int .i64 qa,.int .i64 qq,.int .i64 qc,.int .i64 qo] 45)∧((w.alloc (.cells #[.int .i64 4,.int .i64 qa,.int .i64 qq,.int .i64 qc,.int .i64 qo] 45)).alloc (.cells #[.int .i64 4,.int .i64 0,.slice da dn dc,.int .i64 code,.int .i64 level,.bool more,.int .i64 next,.slice oa on oc] 53)).heap[w.heap.size+1]?=some (.cells #[.int .i64 4,.int .i64 0,.slice da dn dc,.int .i64 code,.int .i64 level,.bool more,.int .i64 next,.slice oa on oc] 53) from ⟨hpKeep (hpNew w _) (bal' _ _),by have:=hpNew (w.alloc (.cells #[.int .i64 4,.int .i64 qa,.int .i64 qq,.int .i64 qc,.int .i64 qo] 45)) (.cells #[.int .i64 4,.int .i64 0,.slice da dn dc,.int .i64 code,.int .i64 level,.bool more,.int .i64 next,.slice oa on oc] 53);simpa using this⟩)
 go_enter Tryz.func177,Tryz.ntmps177
 go_wp2_with fail
 refine(H.out.1 _).mono ?_
 rintro r w1 ⟨rfl,hb1⟩
 have gQ1:=hpKeep HH.out.1 hb1
 have gR1:=hpKeep HH.out.2 hb1
 have hbw1:=bt (kB _ _) hb1 (Nat.le_refl _)
 obtain⟨e0,e1,e2,e3,e4,e5,e6,e7⟩:w1.cell? ⟨(w.heap.size+1),0,none⟩=some (.int .i64 4)∧w1.cell? ⟨(w.heap.size+1),1,none⟩=some (.int .i64 0)∧w1.cell? ⟨(w.heap.size+1),2,none⟩=some (.slice da dn dc)∧w1.cell? ⟨(w.heap.size+1),3,none⟩=some (.int .i64 code)∧w1.cell? ⟨(w.heap.size+1),4,none⟩=some (.int .i64 level)∧w1.cell? ⟨(w.heap.size+1),5,none⟩=some (.bool more)∧w1.cell? ⟨(w.heap.size+1),6,none⟩=some (.int .i64 next)∧w1.cell? ⟨(w.heap.size+1),7,none⟩=some (.slice oa on oc):=⟨hpCell gR1 0,hpCell gR1 1,hpCell gR1 2,hpCell gR1 3,hpCell gR1 4,hpCell gR1 5,hpCell gR1 6,hpCell gR1 7⟩
 clear hb1 kB
 go_wp2_with fail
 refine(H.out.2 _ hbw1).mono ?_
 rintro r w2 ⟨rfl,hb2⟩
 have gQ:=hpKeep gQ1 hb2
 have gR:=hpKeep gR1 hb2
 have hbw2:=bt hbw1 hb2 (Nat.le_refl _)
 clear e0 e1 e2 e3 e4 e5 e6 e7 gQ1 gR1 hbw1 hb2
 obtain⟨e0,e1,e2,e3,e4,e5,e6,e7⟩:w2.cell? ⟨(w.heap.size+1),0,none⟩=some (.int .i64 4)∧w2.cell? ⟨(w.heap.size+1),1,none⟩=some (.int .i64 0)∧w2.cell? ⟨(w.heap.size+1),2,none⟩=some (.slice da dn dc)∧w2.cell? ⟨(w.heap.size+1),3,none⟩=some (.int .i64 code)∧w2.cell? ⟨(w.heap.size+1),4,none⟩=some (.int .i64 level)∧w2.cell? ⟨(w.heap.size+1),5,none⟩=some (.bool more)∧w2.cell? ⟨(w.heap.size+1),6,none⟩=some (.int .i64 next)∧w2.cell? ⟨(w.heap.size+1),7,none⟩=some (.slice oa on oc):=⟨hpCell gR 0,hpCell gR 1,hpCell gR 2,hpCell gR 3,hpCell gR 4,hpCell gR 5,hpCell gR 6,hpCell gR 7⟩
 obtain⟨y0,y1,y2,y3,y4⟩:w2.cell? ⟨w.heap.size,0,none⟩=some (.int .i64 4)∧w2.cell? ⟨w.heap.size,1,none⟩=some (.int .i64 qa)∧w2.cell? ⟨w.heap.size,2,none⟩=some (.int .i64 qq)∧w2.cell? ⟨w.heap.size,3,none⟩=some (.int .i64 qc)∧w2.cell? ⟨w.heap.size,4,none⟩=some (.int .i64 qo):=⟨hpCell gQ 0,hpCell gQ 1,hpCell gQ 2,hpCell gQ 3,hpCell gQ 4⟩
 clear gQ gR
 go_wp2
 go_ret
 exact⟨ret_bool hV.out,hbw2⟩
theorem z29_1 {p:Prop} (h:p:=by
 have HH:=hid (show ((w.alloc (.cells #[.int .i64 1,.int .i64 qa,.int .i64 qq,.int .i64 qc,.int .i64 qo] 45)).alloc (.cells #[.int .i64 1,.int .i64 0,.slice da dn dc,.int .i64 code,.int .i64 level,.bool more,.int .i64 next,.slice oa on oc] 53)).heap[w.heap.size]?=some (.cells #[.int .i64 1,.int .i64 qa,.int .i64 qq,.int .i64 qc,.int .i64 qo] 45)∧((w.alloc (.cells #[.int .i64 1,.int .i64 qa,.int .i64 qq,.int .i64 qc,.int .i64 qo] 45)).alloc (.cells #[.int .i64 1,.int .i64 0,.slice da dn dc,.int .i64 code,.int .i64 level,.bool more,.int .i64 next,.slice oa on oc] 53)).heap[w.heap.size+1]?=some (.cells #[.int .i64 1,.int .i64 0,.slice da dn dc,.int .i64 code,.int .i64 level,.bool more,.int .i64 next,.slice oa on oc] 53) from ⟨hpKeep (hpNew w _) (bal' _ _),by have:=hpNew (w.alloc (.cells #[.int .i64 1,.int .i64 qa,.int .i64 qq,.int .i64 qc,.int .i64 qo] 45)) (.cells #[.int .i64 1,.int .i64 0,.slice da dn dc,.int .i64 code,.int .i64 level,.bool more,.int .i64 next,.slice oa on oc] 53);simpa using this⟩)
 go_enter Tryz.func177,Tryz.ntmps177
 go_wp2_with fail
 refine(H.out.1 _).mono ?_
 rintro r w1 ⟨rfl,hb1⟩
 have gQ1:=hpKeep HH.out.1 hb1
 have gR1:=hpKeep HH.out.2 hb1
 have hbw1:=bt (kB _ _) hb1 (Nat.le_refl _)
 obtain⟨e0,e1,e2,e3,e4,e5,e6,e7⟩:w1.cell? ⟨(w.heap.size+1),0,none⟩=some (.int .i64 1)∧w1.cell? ⟨(w.heap.size+1),1,none⟩=some (.int .i64 0)∧w1.cell? ⟨(w.heap.size+1),2,none⟩=some (.slice da dn dc)∧w1.cell? ⟨(w.heap.size+1),3,none⟩=some (.int .i64 code)∧w1.cell? ⟨(w.heap.size+1),4,none⟩=some (.int .i64 level)∧w1.cell? ⟨(w.heap.size+1),5,none⟩=some (.bool more)∧w1.cell? ⟨(w.heap.size+1),6,none⟩=some (.int .i64 next)∧w1.cell? ⟨(w.heap.size+1),7,none⟩=some (.slice oa on oc):=⟨hpCell gR1 0,hpCell gR1 1,hpCell gR1 2,hpCell gR1 3,hpCell gR1 4,hpCell gR1 5,hpCell gR1 6,hpCell gR1 7⟩
 clear hb1 kB
 go_wp2_with fail
 refine(H.out.2 _ hbw1).mono ?_
 rintro r w2 ⟨rfl,hb2⟩
 have gQ:=hpKeep gQ1 hb2
 have gR:=hpKeep gR1 hb2
 have hbw2:=bt hbw1 hb2 (Nat.le_refl _)
 clear e0 e1 e2 e3 e4 e5 e6 e7 gQ1 gR1 hbw1 hb2
 obtain⟨e0,e1,e2,e3,e4,e5,e6,e7⟩:w2.cell? ⟨(w.heap.size+1),0,none⟩=some (.int .i64 1)∧w2.cell? ⟨(w.heap.size+1),1,none⟩=some (.int .i64 0)∧w2.cell? ⟨(w.heap.size+1),2,none⟩=some (.slice da dn dc)∧w2.cell? ⟨(w.heap.size+1),3,none⟩=some (.int .i64 code)∧w2.cell? ⟨(w.heap.size+1),4,none⟩=some (.int .i64 level)∧w2.cell? ⟨(w.heap.size+1),5,none⟩=some (.bool more)∧w2.cell? ⟨(w.heap.size+1),6,none⟩=some (.int .i64 next)∧w2.cell? ⟨(w.heap.size+1),7,none⟩=some (.slice oa on oc):=⟨hpCell gR 0,hpCell gR 1,hpCell gR 2,hpCell gR 3,hpCell gR 4,hpCell gR 5,hpCell gR 6,hpCell gR 7⟩
 obtain⟨y0,y1,y2,y3,y4⟩:w2.cell? ⟨w.heap.size,0,none⟩=some (.int .i64 1)∧w2.cell? ⟨w.heap.size,1,none⟩=some (.int .i64 qa)∧w2.cell? ⟨w.heap.size,2,none⟩=some (.int .i64 qq)∧w2.cell? ⟨w.heap.size,3,none⟩=some (.int .i64 qc)∧w2.cell? ⟨w.heap.size,4,none⟩=some (.int .i64 qo):=⟨hpCell gQ 0,hpCell gQ 1,hpCell gQ 2,hpCell gQ 3,hpCell gQ 4⟩
 clear gQ gR
 go_wp2
 go_ret
 exact⟨rfl,hbw2⟩):p:=h
theorem pmat_bitn1 (w:World) (qa qq qc qo:Int) (da:Option Addr) (dn dc:Nat) (code level:Int) (more:Bool) (next:Int) (oa:Option Addr) (on oc:Nat)
  (H:Hid (PHead w true true 1 qa qq qc qo 1 0 da dn dc code level more next oa on oc)) (h1:1≤qq) (h2:qq≤2000) (hn:((dn:Int) !=(qq+7)/8)=true):
  Calls Tryz.prog 177 #[.agg #[.int .i64 1,.int .i64 qa,.int .i64 qq,.int .i64 qc,.int .i64 qo],.agg #[.int .i64 1,.int .i64 0,.slice da dn dc,.int .i64 code,.int .i64 level,.bool more,.int .i64 next,.slice oa on oc]] w fun r w'=>r=.returned (.bool false)∧Below w.heap.size w w':=by
 have kB:∀X Y,Below w.heap.size w ((w.alloc X).alloc Y):=fun X Y=>bta (bal' w X) (Nat.le_refl _) Y
 exact z29_1
theorem pmat_bitz1 (w:World) (qa qq qc qo:Int) (da:Option Addr) (dn dc:Nat) (code level:Int) (more:Bool) (next:Int) (oa:Option Addr) (on oc:Nat)
  (H:Hid (PHead w true true 1 qa qq qc qo 1 0 da dn dc code level more next oa on oc)) (h1:1≤qq) (h2:qq≤2000) (hn:((dn:Int) !=(qq+7)/8)=false) (hz:qq.tmod 8=0):
  Calls Tryz.prog 177 #[.agg #[.int .i64 1,.int .i64 qa,.int .i64 qq,.int .i64 qc,.int .i64 qo],.agg #[.int .i64 1,.int .i64 0,.slice da dn dc,.int .i64 code,.int .i64 level,.bool more,.int .i64 next,.slice oa on oc]] w fun r w'=>r=.returned (.bool true)∧Below w.heap.size w w':=by
 have kB:∀X Y,Below w.heap.size w ((w.alloc X).alloc Y):=fun X Y=>bta (bal' w X) (Nat.le_refl _) Y
 exact z29_1
theorem pmat_bits1 (w:World) (qa qq qc qo:Int) (b o dn dc:Nat) (code level:Int) (more:Bool) (next:Int) (oa:Option Addr) (on oc:Nat)
  (H:Hid (PHead w true true 1 qa qq qc qo 1 0 (some ⟨b,o,none⟩) dn dc code level more next oa on oc)) (h1:1≤qq) (h2:qq≤2000) (hn:((dn:Int) !=(qq+7)/8)=false) (s:Nat) (hz:qq.tmod 8=s) (hs:1≤s) (hs2:s≤7) (hs3:((s:Int)==0)=false) (ha:1≤dn) (x:Int) (hx:∀W,Below w.heap.size w W→W.cell? ⟨b,o+(dn-1),none⟩=some (.int .u8 x)) (V:Bool) (hV:Hid ((x/2^s==0)=V)):
  Calls Tryz.prog 177 #[.agg #[.int .i64 1,.int .i64 qa,.int .i64 qq,.int .i64 qc,.int .i64 qo],.agg #[.int .i64 1,.int .i64 0,.slice (some ⟨b,o,none⟩) dn dc,.int .i64 code,.int .i64 level,.bool more,.int .i64 next,.slice oa on oc]] w fun r w'=>r=.returned (.bool V)∧Below w.heap.size w w':=by
 have z1:IntKind.i64.wrap ((dn:Int)-1)=(dn:Int)-1:=IntWalk.i64_in _ (by rw[bne_eq_false_iff_eq] at hn;omega)
 have kB:∀X Y,Below w.heap.size w ((w.alloc X).alloc Y):=fun X Y=>bta (bal' w X) (Nat.le_refl _) Y
 have HH:=hid (show ((w.alloc (.cells #[.int .i64 1,.int .i64 qa,.int .i64 qq,.int .i64 qc,.int .i64 qo] 45)).alloc (.cells #[.int .i64 1,.int .i64 0,.slice (some ⟨b,o,none⟩) dn dc,.int .i64 code,.int .i64 level,.bool more,.int .i64 next,.slice oa on oc] 53)).heap[w.heap.size]?=some (.cells #[.int .i64 1,.int .i64 qa,.int .i64 qq,.int .i64 qc,.int .i64 qo] 45)∧((w.alloc (.cells #[.int .i64 1,.int .i64 qa,.int .i64 qq,.int .i64 qc,.int .i64 qo] 45)).alloc (.cells #[.int .i64 1,.int .i64 0,.slice (some ⟨b,o,none⟩) dn dc,.int .i64 code,.int .i64 level,.bool more,.int .i64 next,.slice oa on oc] 53)).heap[w.heap.size+1]?=some (.cells #[.int .i64 1,.int .i64 0,.slice (some ⟨b,o,none⟩) dn dc,.int .i64 code,.int .i64 level,.bool more,.int .i64 next,.slice oa on oc] 53) from ⟨hpKeep (hpNew w _) (bal' _ _),by have:=hpNew (w.alloc (.cells #[.int .i64 1,.int .i64 qa,.int .i64 qq,.int .i64 qc,.int .i64 qo] 45)) (.cells #[.int .i64 1,.int .i64 0,.slice (some ⟨b,o,none⟩) dn dc,.int .i64 code,.int .i64 level,.bool more,.int .i64 next,.slice oa on oc] 53);simpa using this⟩)
 go_enter Tryz.func177,Tryz.ntmps177
 go_wp2_with fail
 refine(H.out.1 _).mono ?_
 rintro r w1 ⟨rfl,hb1⟩
 have gQ1:=hpKeep HH.out.1 hb1
 have gR1:=hpKeep HH.out.2 hb1
 have hbw1:=bt (kB _ _) hb1 (Nat.le_refl _)
 obtain⟨e0,e1,e2,e3,e4,e5,e6,e7⟩:w1.cell? ⟨(w.heap.size+1),0,none⟩=some (.int .i64 1)∧w1.cell? ⟨(w.heap.size+1),1,none⟩=some (.int .i64 0)∧w1.cell? ⟨(w.heap.size+1),2,none⟩=some (.slice (some ⟨b,o,none⟩) dn dc)∧w1.cell? ⟨(w.heap.size+1),3,none⟩=some (.int .i64 code)∧w1.cell? ⟨(w.heap.size+1),4,none⟩=some (.int .i64 level)∧w1.cell? ⟨(w.heap.size+1),5,none⟩=some (.bool more)∧w1.cell? ⟨(w.heap.size+1),6,none⟩=some (.int .i64 next)∧w1.cell? ⟨(w.heap.size+1),7,none⟩=some (.slice oa on oc):=⟨hpCell gR1 0,hpCell gR1 1,hpCell gR1 2,hpCell gR1 3,hpCell gR1 4,hpCell gR1 5,hpCell gR1 6,hpCell gR1 7⟩
 clear hb1 kB
 go_wp2_with fail
 refine(H.out.2 _ hbw1).mono ?_
 rintro r w2 ⟨rfl,hb2⟩
 have gQ:=hpKeep gQ1 hb2
 have gR:=hpKeep gR1 hb2
 have hbw2:=bt hbw1 hb2 (Nat.le_refl _)
 clear e0 e1 e2 e3 e4 e5 e6 e7 gQ1 gR1 hbw1 hb2
 obtain⟨e0,e1,e2,e3,e4,e5,e6,e7⟩:w2.cell? ⟨(w.heap.size+1),0,none⟩=some (.int .i64 1)∧w2.cell? ⟨(w.heap.size+1),1,none⟩=some (.int .i64 0)∧w2.cell? ⟨(w.heap.size+1),2,none⟩=some (.slice (some ⟨b,o,none⟩) dn dc)∧w2.cell? ⟨(w.heap.size+1),3,none⟩=some (.int .i64 code)∧w2.cell? ⟨(w.heap.size+1),4,none⟩=some (.int .i64 level)∧w2.cell? ⟨(w.heap.size+1),5,none⟩=some (.bool more)∧w2.cell? ⟨(w.heap.size+1),6,none⟩=some (.int .i64 next)∧w2.cell? ⟨(w.heap.size+1),7,none⟩=some (.slice oa on oc):=⟨hpCell gR 0,hpCell gR 1,hpCell gR 2,hpCell gR 3,hpCell gR 4,hpCell gR 5,hpCell gR 6,hpCell gR 7⟩
 obtain⟨y0,y1,y2,y3,y4⟩:w2.cell? ⟨w.heap.size,0,none⟩=some (.int .i64 1)∧w2.cell? ⟨w.heap.size,1,none⟩=some (.int .i64 qa)∧w2.cell? ⟨w.heap.size,2,none⟩=some (.int .i64 qq)∧w2.cell? ⟨w.heap.size,3,none⟩=some (.int .i64 qc)∧w2.cell? ⟨w.heap.size,4,none⟩=some (.int .i64 qo):=⟨hpCell gQ 0,hpCell gQ 1,hpCell gQ 2,hpCell gQ 3,hpCell gQ 4⟩
 clear gQ gR
 have hx2:=hx _ hbw2
 go_wp2
 go_ret
 exact⟨ret_bool hV.out,hbw2⟩
theorem z29_2 {p:Prop} (h:p:=by
 have HH:=hid (show ((w.alloc (.cells #[.int .i64 2,.int .i64 qa,.int .i64 qq,.int .i64 qc,.int .i64 qo] 45)).alloc (.cells #[.int .i64 2,.int .i64 0,.slice da dn dc,.int .i64 code,.int .i64 level,.bool more,.int .i64 next,.slice oa on oc] 53)).heap[w.heap.size]?=some (.cells #[.int .i64 2,.int .i64 qa,.int .i64 qq,.int .i64 qc,.int .i64 qo] 45)∧((w.alloc (.cells #[.int .i64 2,.int .i64 qa,.int .i64 qq,.int .i64 qc,.int .i64 qo] 45)).alloc (.cells #[.int .i64 2,.int .i64 0,.slice da dn dc,.int .i64 code,.int .i64 level,.bool more,.int .i64 next,.slice oa on oc] 53)).heap[w.heap.size+1]?=some (.cells #[.int .i64 2,.int .i64 0,.slice da dn dc,.int .i64 code,.int .i64 level,.bool more,.int .i64 next,.slice oa on oc] 53) from ⟨hpKeep (hpNew w _) (bal' _ _),by have:=hpNew (w.alloc (.cells #[.int .i64 2,.int .i64 qa,.int .i64 qq,.int .i64 qc,.int .i64 qo] 45)) (.cells #[.int .i64 2,.int .i64 0,.slice da dn dc,.int .i64 code,.int .i64 level,.bool more,.int .i64 next,.slice oa on oc] 53);simpa using this⟩)
 go_enter Tryz.func177,Tryz.ntmps177
 go_wp2_with fail
 refine(H.out.1 _).mono ?_
 rintro r w1 ⟨rfl,hb1⟩
 have gQ1:=hpKeep HH.out.1 hb1
 have gR1:=hpKeep HH.out.2 hb1
 have hbw1:=bt (kB _ _) hb1 (Nat.le_refl _)
 obtain⟨e0,e1,e2,e3,e4,e5,e6,e7⟩:w1.cell? ⟨(w.heap.size+1),0,none⟩=some (.int .i64 2)∧w1.cell? ⟨(w.heap.size+1),1,none⟩=some (.int .i64 0)∧w1.cell? ⟨(w.heap.size+1),2,none⟩=some (.slice da dn dc)∧w1.cell? ⟨(w.heap.size+1),3,none⟩=some (.int .i64 code)∧w1.cell? ⟨(w.heap.size+1),4,none⟩=some (.int .i64 level)∧w1.cell? ⟨(w.heap.size+1),5,none⟩=some (.bool more)∧w1.cell? ⟨(w.heap.size+1),6,none⟩=some (.int .i64 next)∧w1.cell? ⟨(w.heap.size+1),7,none⟩=some (.slice oa on oc):=⟨hpCell gR1 0,hpCell gR1 1,hpCell gR1 2,hpCell gR1 3,hpCell gR1 4,hpCell gR1 5,hpCell gR1 6,hpCell gR1 7⟩
 clear hb1 kB
 go_wp2_with fail
 refine(H.out.2 _ hbw1).mono ?_
 rintro r w2 ⟨rfl,hb2⟩
 have gQ:=hpKeep gQ1 hb2
 have gR:=hpKeep gR1 hb2
 have hbw2:=bt hbw1 hb2 (Nat.le_refl _)
 clear e0 e1 e2 e3 e4 e5 e6 e7 gQ1 gR1 hbw1 hb2
 obtain⟨e0,e1,e2,e3,e4,e5,e6,e7⟩:w2.cell? ⟨(w.heap.size+1),0,none⟩=some (.int .i64 2)∧w2.cell? ⟨(w.heap.size+1),1,none⟩=some (.int .i64 0)∧w2.cell? ⟨(w.heap.size+1),2,none⟩=some (.slice da dn dc)∧w2.cell? ⟨(w.heap.size+1),3,none⟩=some (.int .i64 code)∧w2.cell? ⟨(w.heap.size+1),4,none⟩=some (.int .i64 level)∧w2.cell? ⟨(w.heap.size+1),5,none⟩=some (.bool more)∧w2.cell? ⟨(w.heap.size+1),6,none⟩=some (.int .i64 next)∧w2.cell? ⟨(w.heap.size+1),7,none⟩=some (.slice oa on oc):=⟨hpCell gR 0,hpCell gR 1,hpCell gR 2,hpCell gR 3,hpCell gR 4,hpCell gR 5,hpCell gR 6,hpCell gR 7⟩
 obtain⟨y0,y1,y2,y3,y4⟩:w2.cell? ⟨w.heap.size,0,none⟩=some (.int .i64 2)∧w2.cell? ⟨w.heap.size,1,none⟩=some (.int .i64 qa)∧w2.cell? ⟨w.heap.size,2,none⟩=some (.int .i64 qq)∧w2.cell? ⟨w.heap.size,3,none⟩=some (.int .i64 qc)∧w2.cell? ⟨w.heap.size,4,none⟩=some (.int .i64 qo):=⟨hpCell gQ 0,hpCell gQ 1,hpCell gQ 2,hpCell gQ 3,hpCell gQ 4⟩
 clear gQ gR
 go_wp2
 go_ret
 exact⟨rfl,hbw2⟩):p:=h
theorem pmat_bitn2 (w:World) (qa qq qc qo:Int) (da:Option Addr) (dn dc:Nat) (code level:Int) (more:Bool) (next:Int) (oa:Option Addr) (on oc:Nat)
  (H:Hid (PHead w true true 2 qa qq qc qo 2 0 da dn dc code level more next oa on oc)) (h1:1≤qq) (h2:qq≤2000) (hn:((dn:Int) !=(qq+7)/8)=true):
  Calls Tryz.prog 177 #[.agg #[.int .i64 2,.int .i64 qa,.int .i64 qq,.int .i64 qc,.int .i64 qo],.agg #[.int .i64 2,.int .i64 0,.slice da dn dc,.int .i64 code,.int .i64 level,.bool more,.int .i64 next,.slice oa on oc]] w fun r w'=>r=.returned (.bool false)∧Below w.heap.size w w':=by
 have kB:∀X Y,Below w.heap.size w ((w.alloc X).alloc Y):=fun X Y=>bta (bal' w X) (Nat.le_refl _) Y
 exact z29_2
theorem pmat_bitz2 (w:World) (qa qq qc qo:Int) (da:Option Addr) (dn dc:Nat) (code level:Int) (more:Bool) (next:Int) (oa:Option Addr) (on oc:Nat)
  (H:Hid (PHead w true true 2 qa qq qc qo 2 0 da dn dc code level more next oa on oc)) (h1:1≤qq) (h2:qq≤2000) (hn:((dn:Int) !=(qq+7)/8)=false) (hz:qq.tmod 8=0):
  Calls Tryz.prog 177 #[.agg #[.int .i64 2,.int .i64 qa,.int .i64 qq,.int .i64 qc,.int .i64 qo],.agg #[.int .i64 2,.int .i64 0,.slice da dn dc,.int .i64 code,.int .i64 level,.bool more,.int .i64 next,.slice oa on oc]] w fun r w'=>r=.returned (.bool true)∧Below w.heap.size w w':=by
 have kB:∀X Y,Below w.heap.size w ((w.alloc X).alloc Y):=fun X Y=>bta (bal' w X) (Nat.le_refl _) Y
 exact z29_2
theorem pmat_bits2 (w:World) (qa qq qc qo:Int) (b o dn dc:Nat) (code level:Int) (more:Bool) (next:Int) (oa:Option Addr) (on oc:Nat)
  (H:Hid (PHead w true true 2 qa qq qc qo 2 0 (some ⟨b,o,none⟩) dn dc code level more next oa on oc)) (h1:1≤qq) (h2:qq≤2000) (hn:((dn:Int) !=(qq+7)/8)=false) (s:Nat) (hz:qq.tmod 8=s) (hs:1≤s) (hs2:s≤7) (hs3:((s:Int)==0)=false) (ha:1≤dn) (x:Int) (hx:∀W,Below w.heap.size w W→W.cell? ⟨b,o+(dn-1),none⟩=some (.int .u8 x)) (V:Bool) (hV:Hid ((x/2^s==0)=V)):
  Calls Tryz.prog 177 #[.agg #[.int .i64 2,.int .i64 qa,.int .i64 qq,.int .i64 qc,.int .i64 qo],.agg #[.int .i64 2,.int .i64 0,.slice (some ⟨b,o,none⟩) dn dc,.int .i64 code,.int .i64 level,.bool more,.int .i64 next,.slice oa on oc]] w fun r w'=>r=.returned (.bool V)∧Below w.heap.size w w':=by
 have z1:IntKind.i64.wrap ((dn:Int)-1)=(dn:Int)-1:=IntWalk.i64_in _ (by rw[bne_eq_false_iff_eq] at hn;omega)
 have kB:∀X Y,Below w.heap.size w ((w.alloc X).alloc Y):=fun X Y=>bta (bal' w X) (Nat.le_refl _) Y
 have HH:=hid (show ((w.alloc (.cells #[.int .i64 2,.int .i64 qa,.int .i64 qq,.int .i64 qc,.int .i64 qo] 45)).alloc (.cells #[.int .i64 2,.int .i64 0,.slice (some ⟨b,o,none⟩) dn dc,.int .i64 code,.int .i64 level,.bool more,.int .i64 next,.slice oa on oc] 53)).heap[w.heap.size]?=some (.cells #[.int .i64 2,.int .i64 qa,.int .i64 qq,.int .i64 qc,.int .i64 qo] 45)∧((w.alloc (.cells #[.int .i64 2,.int .i64 qa,.int .i64 qq,.int .i64 qc,.int .i64 qo] 45)).alloc (.cells #[.int .i64 2,.int .i64 0,.slice (some ⟨b,o,none⟩) dn dc,.int .i64 code,.int .i64 level,.bool more,.int .i64 next,.slice oa on oc] 53)).heap[w.heap.size+1]?=some (.cells #[.int .i64 2,.int .i64 0,.slice (some ⟨b,o,none⟩) dn dc,.int .i64 code,.int .i64 level,.bool more,.int .i64 next,.slice oa on oc] 53) from ⟨hpKeep (hpNew w _) (bal' _ _),by have:=hpNew (w.alloc (.cells #[.int .i64 2,.int .i64 qa,.int .i64 qq,.int .i64 qc,.int .i64 qo] 45)) (.cells #[.int .i64 2,.int .i64 0,.slice (some ⟨b,o,none⟩) dn dc,.int .i64 code,.int .i64 level,.bool more,.int .i64 next,.slice oa on oc] 53);simpa using this⟩)
 go_enter Tryz.func177,Tryz.ntmps177
 go_wp2_with fail
 refine(H.out.1 _).mono ?_
 rintro r w1 ⟨rfl,hb1⟩
 have gQ1:=hpKeep HH.out.1 hb1
 have gR1:=hpKeep HH.out.2 hb1
 have hbw1:=bt (kB _ _) hb1 (Nat.le_refl _)
 obtain⟨e0,e1,e2,e3,e4,e5,e6,e7⟩:w1.cell? ⟨(w.heap.size+1),0,none⟩=some (.int .i64 2)∧w1.cell? ⟨(w.heap.size+1),1,none⟩=some (.int .i64 0)∧w1.cell? ⟨(w.heap.size+1),2,none⟩=some (.slice (some ⟨b,o,none⟩) dn dc)∧w1.cell? ⟨(w.heap.size+1),3,none⟩=some (.int .i64 code)∧w1.cell? ⟨(w.heap.size+1),4,none⟩=some (.int .i64 level)∧w1.cell? ⟨(w.heap.size+1),5,none⟩=some (.bool more)∧w1.cell? ⟨(w.heap.size+1),6,none⟩=some (.int .i64 next)∧w1.cell? ⟨(w.heap.size+1),7,none⟩=some (.slice oa on oc):=⟨hpCell gR1 0,hpCell gR1 1,hpCell gR1 2,hpCell gR1 3,hpCell gR1 4,hpCell gR1 5,hpCell gR1 6,hpCell gR1 7⟩
 clear hb1 kB
 go_wp2_with fail
 refine(H.out.2 _ hbw1).mono ?_
 rintro r w2 ⟨rfl,hb2⟩
 have gQ:=hpKeep gQ1 hb2
 have gR:=hpKeep gR1 hb2
 have hbw2:=bt hbw1 hb2 (Nat.le_refl _)
 clear e0 e1 e2 e3 e4 e5 e6 e7 gQ1 gR1 hbw1 hb2
 obtain⟨e0,e1,e2,e3,e4,e5,e6,e7⟩:w2.cell? ⟨(w.heap.size+1),0,none⟩=some (.int .i64 2)∧w2.cell? ⟨(w.heap.size+1),1,none⟩=some (.int .i64 0)∧w2.cell? ⟨(w.heap.size+1),2,none⟩=some (.slice (some ⟨b,o,none⟩) dn dc)∧w2.cell? ⟨(w.heap.size+1),3,none⟩=some (.int .i64 code)∧w2.cell? ⟨(w.heap.size+1),4,none⟩=some (.int .i64 level)∧w2.cell? ⟨(w.heap.size+1),5,none⟩=some (.bool more)∧w2.cell? ⟨(w.heap.size+1),6,none⟩=some (.int .i64 next)∧w2.cell? ⟨(w.heap.size+1),7,none⟩=some (.slice oa on oc):=⟨hpCell gR 0,hpCell gR 1,hpCell gR 2,hpCell gR 3,hpCell gR 4,hpCell gR 5,hpCell gR 6,hpCell gR 7⟩
 obtain⟨y0,y1,y2,y3,y4⟩:w2.cell? ⟨w.heap.size,0,none⟩=some (.int .i64 2)∧w2.cell? ⟨w.heap.size,1,none⟩=some (.int .i64 qa)∧w2.cell? ⟨w.heap.size,2,none⟩=some (.int .i64 qq)∧w2.cell? ⟨w.heap.size,3,none⟩=some (.int .i64 qc)∧w2.cell? ⟨w.heap.size,4,none⟩=some (.int .i64 qo):=⟨hpCell gQ 0,hpCell gQ 1,hpCell gQ 2,hpCell gQ 3,hpCell gQ 4⟩
 clear gQ gR
 have hx2:=hx _ hbw2
 go_wp2
 go_ret
 exact⟨ret_bool hV.out,hbw2⟩
theorem pmat_devn (w:World) (qa qq qc qo:Int) (da:Option Addr) (dn dc:Nat) (code level:Int) (more:Bool) (next:Int) (oa:Option Addr) (on oc:Nat)
  (H:Hid (PHead w true true 43 qa qq qc qo 43 0 da dn dc code level more next oa on oc)) (hn:(code==qc)=false):
  Calls Tryz.prog 177 #[.agg #[.int .i64 43,.int .i64 qa,.int .i64 qq,.int .i64 qc,.int .i64 qo],.agg #[.int .i64 43,.int .i64 0,.slice da dn dc,.int .i64 code,.int .i64 level,.bool more,.int .i64 next,.slice oa on oc]] w fun r w'=>r=.returned (.bool false)∧Below w.heap.size w w':=by
 have kB:∀X Y,Below w.heap.size w ((w.alloc X).alloc Y):=fun X Y=>bta (bal' w X) (Nat.le_refl _) Y
 have HH:=hid (show ((w.alloc (.cells #[.int .i64 43,.int .i64 qa,.int .i64 qq,.int .i64 qc,.int .i64 qo] 45)).alloc (.cells #[.int .i64 43,.int .i64 0,.slice da dn dc,.int .i64 code,.int .i64 level,.bool more,.int .i64 next,.slice oa on oc] 53)).heap[w.heap.size]?=some (.cells #[.int .i64 43,.int .i64 qa,.int .i64 qq,.int .i64 qc,.int .i64 qo] 45)∧((w.alloc (.cells #[.int .i64 43,.int .i64 qa,.int .i64 qq,.int .i64 qc,.int .i64 qo] 45)).alloc (.cells #[.int .i64 43,.int .i64 0,.slice da dn dc,.int .i64 code,.int .i64 level,.bool more,.int .i64 next,.slice oa on oc] 53)).heap[w.heap.size+1]?=some (.cells #[.int .i64 43,.int .i64 0,.slice da dn dc,.int .i64 code,.int .i64 level,.bool more,.int .i64 next,.slice oa on oc] 53) from ⟨hpKeep (hpNew w _) (bal' _ _),by have:=hpNew (w.alloc (.cells #[.int .i64 43,.int .i64 qa,.int .i64 qq,.int .i64 qc,.int .i64 qo] 45)) (.cells #[.int .i64 43,.int .i64 0,.slice da dn dc,.int .i64 code,.int .i64 level,.bool more,.int .i64 next,.slice oa on oc] 53);simpa using this⟩)
 go_enter Tryz.func177,Tryz.ntmps177
 go_wp2_with fail
 refine(H.out.1 _).mono ?_
 rintro r w1 ⟨rfl,hb1⟩
 have gQ1:=hpKeep HH.out.1 hb1
 have gR1:=hpKeep HH.out.2 hb1
 have hbw1:=bt (kB _ _) hb1 (Nat.le_refl _)
 obtain⟨e0,e1,e2,e3,e4,e5,e6,e7⟩:w1.cell? ⟨(w.heap.size+1),0,none⟩=some (.int .i64 43)∧w1.cell? ⟨(w.heap.size+1),1,none⟩=some (.int .i64 0)∧w1.cell? ⟨(w.heap.size+1),2,none⟩=some (.slice da dn dc)∧w1.cell? ⟨(w.heap.size+1),3,none⟩=some (.int .i64 code)∧w1.cell? ⟨(w.heap.size+1),4,none⟩=some (.int .i64 level)∧w1.cell? ⟨(w.heap.size+1),5,none⟩=some (.bool more)∧w1.cell? ⟨(w.heap.size+1),6,none⟩=some (.int .i64 next)∧w1.cell? ⟨(w.heap.size+1),7,none⟩=some (.slice oa on oc):=⟨hpCell gR1 0,hpCell gR1 1,hpCell gR1 2,hpCell gR1 3,hpCell gR1 4,hpCell gR1 5,hpCell gR1 6,hpCell gR1 7⟩
 clear hb1 kB
 go_wp2_with fail
 refine(H.out.2 _ hbw1).mono ?_
 rintro r w2 ⟨rfl,hb2⟩
 have gQ:=hpKeep gQ1 hb2
 have gR:=hpKeep gR1 hb2
 have hbw2:=bt hbw1 hb2 (Nat.le_refl _)
 clear e0 e1 e2 e3 e4 e5 e6 e7 gQ1 gR1 hbw1 hb2
 obtain⟨e0,e1,e2,e3,e4,e5,e6,e7⟩:w2.cell? ⟨(w.heap.size+1),0,none⟩=some (.int .i64 43)∧w2.cell? ⟨(w.heap.size+1),1,none⟩=some (.int .i64 0)∧w2.cell? ⟨(w.heap.size+1),2,none⟩=some (.slice da dn dc)∧w2.cell? ⟨(w.heap.size+1),3,none⟩=some (.int .i64 code)∧w2.cell? ⟨(w.heap.size+1),4,none⟩=some (.int .i64 level)∧w2.cell? ⟨(w.heap.size+1),5,none⟩=some (.bool more)∧w2.cell? ⟨(w.heap.size+1),6,none⟩=some (.int .i64 next)∧w2.cell? ⟨(w.heap.size+1),7,none⟩=some (.slice oa on oc):=⟨hpCell gR 0,hpCell gR 1,hpCell gR 2,hpCell gR 3,hpCell gR 4,hpCell gR 5,hpCell gR 6,hpCell gR 7⟩
 obtain⟨y0,y1,y2,y3,y4⟩:w2.cell? ⟨w.heap.size,0,none⟩=some (.int .i64 43)∧w2.cell? ⟨w.heap.size,1,none⟩=some (.int .i64 qa)∧w2.cell? ⟨w.heap.size,2,none⟩=some (.int .i64 qq)∧w2.cell? ⟨w.heap.size,3,none⟩=some (.int .i64 qc)∧w2.cell? ⟨w.heap.size,4,none⟩=some (.int .i64 qo):=⟨hpCell gQ 0,hpCell gQ 1,hpCell gQ 2,hpCell gQ 3,hpCell gQ 4⟩
 clear gQ gR
 go_wp2
 go_ret
 exact⟨rfl,hbw2⟩
end Go.Proofs.YtoaoejaodhedaaaGreat
