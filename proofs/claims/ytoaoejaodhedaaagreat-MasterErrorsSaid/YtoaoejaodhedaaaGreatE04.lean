/-
 Texts 4 of the claim.
-/
import Derived.Test.YtoaoejaodhedaaaGreatE03
import Derived.Deep.DeepCutAuto
import Derived.Deep.QuietTactic
import Derived.BigQuiet
import Derived.Test.YtoaoejaodhedaaaGreatE01
import Derived.Test.YtoaoejaodhedaaaGreatE02
import Derived.Deep.RegionLaw
import Derived.Deep.RegionHeld3
import Derived.Deep.CutRange
import Derived.Test.YtoaoejaodhedaaaGreatRows
import Derived.Laws.EntriesVeiled
namespace Go.Proofs.YtoaoejaodhedaaaGreat
open Go.RowKit
set_option maxHeartbeats 3200000
set_option maxRecDepth 100000
theorem Obs.open_ {w:World} {v:Value} {l:List Ob} (h:Obs w v l):
  ∃a n c,v=.slice a n c∧l.length=n∧n≤9223372036854775807∧n≤c∧c≤9223372036854775807∧
   ∀(k:Nat) (x:Ob),l[k]?=some x→∃b o xa xc,a=some ⟨b,o,none⟩∧w.cell? ⟨b,o+k*2,none⟩=some (.int .i64 x.id)∧w.cell? ⟨b,o+k*2+1,none⟩=some (.slice xa x.val.length xc)∧Bs w (.slice xa x.val.length xc) x.val:=by
 obtain⟨a,c,hv,h1,h2,h3,h4⟩:=h
 unfold maxLen at h2
 refine⟨a,l.length,c,hv,rfl,by omega,h1,h2,fun k x hx=>?_⟩
 obtain⟨b,o,ha,hc⟩:=h4 (by rintro rfl;simp at hx)
 obtain⟨c1,vv,c2,hb⟩:=hc k x hx
 obtain⟨xa,xc,rfl,_⟩:=id hb
 exact⟨b,o,xa,xc,ha,c1,c2,hb⟩
theorem get_some {α:Type} {l:List α} {k n:Nat} (h:l.length=n) (hk:k<n):∃x,l[k]?=some x:=⟨l[k],List.getElem?_eq_getElem (by omega)⟩
structure Rq where
 fn:Int
 addr:Int
 qty:Int
 code:Int
 obj:Int
def Rq.ok (q:Rq):Bool:=
 if 1≤q.fn∧q.fn≤4 then decide (0≤q.addr)&&decide (1≤q.qty)&&decide (q.qty≤limI q.fn)&&decide (q.addr≤65536-q.qty)&&q.code==0&&q.obj==0
 else if q.fn=17 then q.addr==0&&q.qty==0&&q.code==0&&q.obj==0
 else if q.fn=43 then q.addr==0&&q.qty==0&&decide (1≤q.code)&&decide (q.code≤3)&&decide (0≤q.obj)&&decide (q.obj≤255)
 else false
theorem limI_bd (f:Int):0≤limI f∧limI f≤2000:=by unfold limI;repeat' split<;>omega
theorem rlimit_any (f:Int) (w:World):
  Calls Tryz.prog 79 #[.int .i64 f] w fun r w'=>r=.returned (.int .i64 (limI f))∧w=w':=by
 rcases tbl_cases f with h|⟨h0,h1,h2,h3,h4⟩
 ·rcases h with rfl|rfl|rfl|rfl
  all_goals
   go_enter Tryz.func79,Tryz.ntmps79
   go_wp2
   go_ret
   exact⟨rfl,rfl⟩
 ·have hl:limI f=0:=by
   rw[beq_eq_false_iff_ne] at h1 h2 h3 h4
   unfold limI
   rw[if_neg (by omega),if_neg (by omega)]
  replace hl:=hid hl
  go_enter Tryz.func79,Tryz.ntmps79
  go_wp2
  go_ret
  exact⟨by rw[hl.out];rfl,rfl⟩
theorem rqvalid_tab (f a q c o:Int) (h1:1≤f) (h4:f≤4) (w:World):
  Calls Tryz.prog 30 #[.agg #[.int .i64 f,.int .i64 a,.int .i64 q,.int .i64 c,.int .i64 o]] w fun r w'=>r=.returned (.bool (Rq.ok ⟨f,a,q,c,o⟩))∧Below w.heap.size w w':=by
 obtain⟨L,hL⟩:∃L,limI f=L:=⟨_,rfl⟩
 have hL2:L≤2000:=by rw[←hL];exact(limI_bd f).2
 have HLM:Hid (∀W,Calls Tryz.prog 79 #[.int .i64 f] W fun r w'=>r=.returned (.int .i64 L)∧W=w'):=fun W=>by rw[←hL];exact rlimit_any f W
 obtain⟨V,hV⟩:∃V,Rq.ok ⟨f,a,q,c,o⟩=V:=⟨_,rfl⟩
 rw[hV]
 unfold Rq.ok at hV
 rw[if_pos ⟨h1,h4⟩] at hV
 simp only at hV
 rw[hL] at hV
 replace hV:=hid hV
 have hbd:1≤q→q≤L→IntKind.i64.wrap (65536-q)=65536-q:=fun _ _=>IntWalk.i64_in _ (by omega)
 have HB:Hid (∀X,Below w.heap.size w (w.alloc X)):=fun X=>bal' w X
 have hf:=(show f=1∨f=2∨f=3∨f=4 by omega)
 clear hL h1 h4
 rcases (show ¬0≤a∨(0≤a∧¬1≤q)∨(0≤a∧1≤q∧¬q≤L)∨(0≤a∧1≤q∧q≤L∧¬a≤65536-q)∨(0≤a∧1≤q∧q≤L∧a≤65536-q∧¬c=0)∨(0≤a∧1≤q∧q≤L∧a≤65536-q∧c=0) by omega) with g1|⟨g1,g2⟩|⟨g1,g2,g3⟩|⟨g1,g2,g3,g4⟩|⟨g1,g2,g3,g4,g5⟩|⟨g1,g2,g3,g4,g5⟩
 ·have d1:decide (0≤a)=false:=decide_eq_false g1
  have e:V=false:=by rw[←hV.out,d1];simp
  clear hV hbd g1
  subst e
  rcases hf with rfl|rfl|rfl|rfl
  all_goals
   go_enter Tryz.func30,Tryz.ntmps30
   go_wp2_with fail;go_quiet ((go_at_call 79;exact Calls.quiet_of_same ((HLM.out _).mono fun _ _ h=>⟨h.1,h.2.symm⟩)));go_wp2;go_ret
   exact⟨rfl,below_drewN (HB.out _) _⟩
 ·have d1:decide (0≤a)=true:=decide_eq_true g1
  have d2:decide (1≤q)=false:=decide_eq_false g2
  have e:V=false:=by rw[←hV.out,d2];simp
  clear hV hbd g1 g2
  subst e
  rcases hf with rfl|rfl|rfl|rfl
  all_goals
   go_enter Tryz.func30,Tryz.ntmps30
   go_wp2_with fail;go_quiet ((go_at_call 79;exact Calls.quiet_of_same ((HLM.out _).mono fun _ _ h=>⟨h.1,h.2.symm⟩)));go_wp2;go_ret
   exact⟨rfl,below_drewN (HB.out _) _⟩
 ·have d1:decide (0≤a)=true:=decide_eq_true g1
  have d2:decide (1≤q)=true:=decide_eq_true g2
  have d3:decide (q≤L)=false:=decide_eq_false g3
  have e:V=false:=by rw[←hV.out,d3];simp
  clear hV hbd g1 g2 g3
  subst e
  rcases hf with rfl|rfl|rfl|rfl
  all_goals
   go_enter Tryz.func30,Tryz.ntmps30
   go_wp2_with fail;go_quiet ((go_at_call 79;exact Calls.quiet_of_same ((HLM.out _).mono fun _ _ h=>⟨h.1,h.2.symm⟩)));go_wp2;go_ret
   exact⟨rfl,below_drewN (HB.out _) _⟩
 ·have d1:decide (0≤a)=true:=decide_eq_true g1
  have d2:decide (1≤q)=true:=decide_eq_true g2
  have d3:decide (q≤L)=true:=decide_eq_true g3
  have d4:decide (a≤65536-q)=false:=decide_eq_false g4
  have w4:=hbd g2 g3
  have e:V=false:=by rw[←hV.out,d4];simp
  clear hV hbd g1 g2 g3 g4
  subst e
  rcases hf with rfl|rfl|rfl|rfl
  all_goals
   go_enter Tryz.func30,Tryz.ntmps30
   go_wp2_with fail;go_quiet ((go_at_call 79;exact Calls.quiet_of_same ((HLM.out _).mono fun _ _ h=>⟨h.1,h.2.symm⟩)));go_wp2;go_ret
   exact⟨rfl,below_drewN (HB.out _) _⟩
 ·have d1:decide (0≤a)=true:=decide_eq_true g1
  have d2:decide (1≤q)=true:=decide_eq_true g2
  have d3:decide (q≤L)=true:=decide_eq_true g3
  have d4:decide (a≤65536-q)=true:=decide_eq_true g4
  have d5:(c==0)=false:=by simpa using g5
  have w4:=hbd g2 g3
  have e:V=false:=by rw[←hV.out,d5];simp
  clear hV hbd g1 g2 g3 g4 g5
  subst e
  rcases hf with rfl|rfl|rfl|rfl
  all_goals
   go_enter Tryz.func30,Tryz.ntmps30
   go_wp2_with fail;go_quiet ((go_at_call 79;exact Calls.quiet_of_same ((HLM.out _).mono fun _ _ h=>⟨h.1,h.2.symm⟩)));go_wp2;go_ret
   exact⟨rfl,below_drewN (HB.out _) _⟩
 ·subst g5
  have d1:decide (0≤a)=true:=decide_eq_true g1
  have d2:decide (1≤q)=true:=decide_eq_true g2
  have d3:decide (q≤L)=true:=decide_eq_true g3
  have d4:decide (a≤65536-q)=true:=decide_eq_true g4
  have w4:=hbd g2 g3
  have e:(o==0)=V:=by rw[←hV.out,d1,d2,d3,d4];simp
  have e':=hid e
  clear hV hbd g1 g2 g3 g4 e
  rcases hf with rfl|rfl|rfl|rfl
  all_goals
   go_enter Tryz.func30,Tryz.ntmps30
   go_wp2_with fail;go_quiet ((go_at_call 79;exact Calls.quiet_of_same ((HLM.out _).mono fun _ _ h=>⟨h.1,h.2.symm⟩)));go_wp2;go_ret
   exact⟨ret_bool e'.out,below_drewN (HB.out _) _⟩
theorem rqvalid_any (f a q c o:Int) (w:World):
  Calls Tryz.prog 30 #[.agg #[.int .i64 f,.int .i64 a,.int .i64 q,.int .i64 c,.int .i64 o]] w fun r w'=>r=.returned (.bool (Rq.ok ⟨f,a,q,c,o⟩))∧Below w.heap.size w w':=by
 by_cases h:1≤f∧f≤4
 ·exact rqvalid_tab f a q c o h.1 h.2 w
 ·obtain ⟨V,hV⟩:∃V,Rq.ok ⟨f,a,q,c,o⟩=V:=⟨_,rfl⟩
  rw[hV]
  unfold Rq.ok at hV
  rw[if_neg h] at hV
  simp only at hV
  have HB:Hid (∀X,Below w.heap.size w (w.alloc X)):=fun X=>bal' w X
  by_cases h17:f=17
  ·subst h17
   rw[if_pos rfl] at hV
   replace hV:=hid hV
   clear h
   go_enter Tryz.func30,Tryz.ntmps30
   go_wp2
   all_goals
    go_ret
    refine⟨ret_bool ?_,HB.out _⟩
    rw[←hV.out]
    first|rfl|(rw[Bool.eq_iff_iff];simp;done)|(rw[Bool.eq_iff_iff];simp;omega)
  ·rw [if_neg h17] at hV
   by_cases h43:f=43
   ·subst h43
    rw[if_pos rfl] at hV
    replace hV:=hid hV
    clear h h17
    go_enter Tryz.func30,Tryz.ntmps30
    go_wp2
    all_goals
     go_ret
     refine⟨ret_bool ?_,HB.out _⟩
     rw[←hV.out]
     first|rfl|(rw[Bool.eq_iff_iff];simp [*];done)|(rw[Bool.eq_iff_iff];simp;omega)
   ·rw [if_neg h43] at hV
    subst hV
    have k1:(f==1)=false:=by rw[beq_eq_false_iff_ne];omega
    have k2:(f==2)=false:=by rw[beq_eq_false_iff_ne];omega
    have k3:(f==3)=false:=by rw[beq_eq_false_iff_ne];omega
    have k4:(f==4)=false:=by rw[beq_eq_false_iff_ne];omega
    have k5:(f==17)=false:=by rw[beq_eq_false_iff_ne];omega
    have k6:(f==43)=false:=by rw[beq_eq_false_iff_ne];omega
    clear h h17 h43
    go_enter Tryz.func30,Tryz.ntmps30
    go_wp2
    go_ret
    exact⟨rfl,HB.out _⟩
theorem ks1 {p:Nat} {w w1:World} (h:Keeps (· =p) w w1) (i:Nat) (u:Value):Keeps (· =p) w (w1.setCell ⟨p,i,none⟩ u):=Keeps.set (F:=(· =p)) h ⟨p,i,none⟩ u rfl
theorem hpSetP {w:World} {b:Nat} {c C:Array Value} {t:TypeId} {fz:Nat×Nat} {i:Nat} {u:Value} (h:w.heap[b]?=some (.cells c t fz)) (e:c.setIfInBounds i u=C):
 (w.setCell ⟨b,i,none⟩ u).heap[b]?=some (.cells C t fz):=by rw[hpSet h i u,e]
theorem b1 {a b:Int} (h:a=b):(a==b)=true:=by rw[beq_iff_eq];exact h
theorem b0 {a b:Int} (h:¬a=b):(a==b)=false:=by rw[beq_eq_false_iff_ne];exact h
structure RpIs (w:World) (x:Rp) (da:Option Addr) (dc:Nat) (oa:Option Addr) (oc:Nat):Prop where
 d:Bs w (.slice da x.data.length dc) x.data
 o:Obs w (.slice oa x.objs.length oc) x.objs
 hi:x.level≤9223372036854775807
 lo: -9223372036854775808≤x.level
theorem RpIs.keep {w w':World} {x:Rp} {da:Option Addr} {dc:Nat} {oa:Option Addr} {oc:Nat} (h:RpIs w x da dc oa oc) (hb:Below w.heap.size w w'):RpIs w' x da dc oa oc:=⟨h.d.keep hb,h.o.keep hb,h.hi,h.lo⟩
def DecPost (w:World) (o:Option Rp) (r:Ending) (w':World):Prop:=
 (∃x da dc oa oc,o=some x∧r=.returned (.tuple #[.agg #[.int .i64 x.fn,.int .i64 x.exc,.slice da x.data.length dc,.int .i64 x.code,.int .i64 x.level,.bool x.more,.int .i64 x.next,.slice oa x.objs.length oc],.int .i64 0])∧(∀W,Agree w.heap.size w' W→RpIs W x da dc oa oc)∧Below w.heap.size w w')∨
 (∃e:Int,1≤e∧e≤17∧o=none∧r=.returned (.tuple #[.agg #[.int .i64 0,.int .i64 0,.slice none 0 0,.int .i64 0,.int .i64 0,.bool false,.int .i64 0,.slice none 0 0],.int .i64 e])∧Below w.heap.size w w')
theorem DecPost.err {w:World} {o:Option Rp} {w':World} (ho:o=none) (e:Int) (h1:1≤e) (h2:e≤17) (hb:Below w.heap.size w w'):
 DecPost w o (.returned (.tuple #[.agg #[.int .i64 0,.int .i64 0,.slice none 0 0,.int .i64 0,.int .i64 0,.bool false,.int .i64 0,.slice none 0 0],.int .i64 e])) w':=.inr ⟨e,h1,h2,ho,rfl,hb⟩
theorem DecPost.is {w:World} {o:Option Rp} {w':World} {x:Rp} {da:Option Addr} {dc:Nat} {oa:Option Addr} {oc:Nat} (ho:o=some x) (hx:∀W,Agree w.heap.size w' W→RpIs W x da dc oa oc) (hb:Below w.heap.size w w'):
 DecPost w o (.returned (.tuple #[.agg #[.int .i64 x.fn,.int .i64 x.exc,.slice da x.data.length dc,.int .i64 x.code,.int .i64 x.level,.bool x.more,.int .i64 x.next,.slice oa x.objs.length oc],.int .i64 0])) w':=.inl ⟨x,da,dc,oa,oc,ho,rfl,hx,hb⟩
def ObQ (w:World) (r:List Value) (x:Ob):Prop:=∃a c,r=[.int .i64 x.id,.slice a x.val.length c]∧Bs w (.slice a x.val.length c) x.val
theorem ObQ.keep {w w':World} (hb:Below w.heap.size w w') (r:List Value) (x:Ob) (h:ObQ w r x):ObQ w' r x:=by
 obtain⟨a,c,h1,h2⟩:=h
 exact⟨a,c,h1,h2.keep hb⟩
theorem Obs.of_csl {w:World} {base:Nat} {E:TypeId} {v:Value} {n:Nat} {cs:List Value} {l:List Ob} (h:w.ownsRow base E 2 v n cs) (hc:CsL 2 (ObQ w) cs l) (hn:l.length=n):Obs w v l:=by
 obtain⟨a,c,hv,h1,h2,h3,h4⟩:=Sls.of_own h hc hn
 refine⟨a,c,hv,h1,h2,h3,fun hl=>?_⟩
 obtain⟨b,o,ha,hel⟩:=h4 hl
 refine⟨b,o,ha,fun i x hx=>?_⟩
 obtain⟨r,_,⟨xa,xc,rfl,hb⟩,hr⟩:=hel i x hx
 exact⟨hr 0 _ rfl,_,hr 1 _ rfl,hb⟩
theorem infoOb:(Tryz.prog.info? 165).map (fun i=>(i.zero,i.size,i.bytes))=some (some (.agg #[.int .i64 0,.slice none 0 0]),2,32):=by kernel_rfl
theorem bal'' (w:World) (o:Obj):Below w.heap.size w (w.alloc o):=(Below.refl _ _).alloc (Nat.le_refl _) _
def ObQF (F:Nat→Prop) (w:World) (r:List Value) (x:Ob):Prop:=∃a c,r=[.int .i64 x.id,.slice a x.val.length c]∧Bs w (.slice a x.val.length c) x.val∧∀ad,a=some ad→¬F ad.block∧ad.block<w.heap.size
theorem ObQF.q {F:Nat→Prop} {w:World} (r:List Value) (x:Ob) (h:ObQF F w r x):ObQ w r x:=by
 obtain⟨a,c,h1,h2,_⟩:=h
 exact⟨a,c,h1,h2⟩
theorem ObQF.keeps {F F2:Nat→Prop} {w w':World} (hk:Keeps F w w') (h2:∀j,j<w.heap.size→F2 j→F j) (r:List Value) (x:Ob) (h:ObQF F w r x):ObQF F2 w' r x:=by
 obtain⟨a,c,h1,h3,h4⟩:=h
 refine⟨a,c,h1,h3.keepF hk (fun ad had=>(h4 ad had).1),fun ad had=>?_⟩
 obtain⟨h5,h6⟩:=h4 ad had
 exact⟨fun h=>h5 (h2 _ h6 h),Nat.lt_of_lt_of_le h6 hk.size⟩
def DevF (B:Nat) (v:Value) (j:Nat):Prop:=v.ownBlock=some j∨j<B
theorem ObQF.agree {B C:Nat} {v:Value} {w W:World} (hB:B≤C) (hW:Agree B w W) (r:List Value) (x:Ob) (h:ObQF (DevF C v) w r x):ObQ W r x:=by
 obtain⟨a,c,h1,h2,h3⟩:=h
 refine⟨a,c,h1,h2.agree (fun ad had=>?_) hW⟩
 have:=(h3 ad had).1
 exact Nat.le_trans hB (Nat.le_of_not_lt (fun h=>this (.inr h)))
theorem devStep {B:Nat} {wr w5 w6:World} {E U:TypeId} {X:Obj} {v v6:Value} {k q:Nat} {cs:List Value} {acc:List Ob} {y0:Int} {a5:Option Addr} {c5:Nat} {Y:List UInt8}
  (hB:B≤wr.heap.size) (hown:wr.ownsRow B E 2 v k cs) (hcs:CsL 2 (ObQF (DevF B v) wr) cs acc) (hb5:Below wr.heap.size wr w5)
  (hY:Y.length=q) (hown5:w5.ownsRow wr.heap.size U 1 (.slice a5 q c5) q (u8s Y)) (hgr:(w5.alloc X).grownBy w6 v.ownBlock) (hnew:NewOr (w5.alloc X) v v6):
  CsL 2 (ObQF (DevF B v6) w6) (cs++[.int .i64 y0,.slice a5 q c5]) (acc++[⟨y0,Y⟩])∧Keeps (DevF B v) wr w6∧(∀i,i<B→w6.heap[i]?=wr.heap[i]?):=by
 have hK1:Keeps (DevF B v) wr (w5.alloc X):=Keeps.of_below (bta hb5 (Nat.le_refl _) X)
 have hK2:Keeps (fun j=>v.ownBlock=some j) (w5.alloc X) w6:=Keeps.of_grown hgr (fun k hk=>hk)
 have hK:Keeps (DevF B v) wr w6:=hK1.trans hK2 (fun i _ h=>.inl h)
 have hvlt:∀j,v.ownBlock=some j→B≤j∧j<wr.heap.size:=fun j hj=>hown.lt j hj
 have hF2:∀j,j<wr.heap.size→DevF B v6 j→DevF B v j:=by
  intro j hj h
  rcases h with h|h
  ·rcases hnew with h1|⟨i,h1,h2⟩
   ·exact .inl (by rw[←h1];exact h)
   ·rw [h] at h1
    cases h1
    have:=hb5.size
    simp at h2
    omega
  ·exact .inr h
 refine⟨?_,hK,fun i hi=>?_⟩
 ·refine CsL.snoc (sz:=2) rfl ?_ acc cs (CsL.mono (fun r x h=>ObQF.keeps hK hF2 r x h) acc cs hcs)
  refine⟨a5,c5,by show _=[Value.int .i64 y0,.slice a5 Y.length c5];rw[hY],?_,fun ad had=>?_⟩
  ·show Bs w6 (.slice a5 Y.length c5) Y
   rw[hY]
   have hb:Bs (w5.alloc X) (.slice a5 q c5) Y:=by
    subst hY
    exact(Bs.own hown5).keep (bal'' w5 X)
   exact hb.keepF hK2 (fun ad had h=>by
    have h1:=(hown5.lt ad.block (by rw[had];rfl)).1
    have h2:=(hvlt _ h).2
    omega)
  ·have h1:=hown5.lt ad.block (by rw[had];rfl)
   refine⟨fun h=>?_,Nat.lt_of_lt_of_le h1.2 (Nat.le_trans (by simp) hK2.size)⟩
   rcases h with h|h
   ·rcases hnew with h2|⟨i,h2,h3⟩
    ·rw [h] at h2
     have:=(hvlt _ h2.symm).2
     omega
    ·rw [h] at h2
     cases h2
     simp at h3
     omega
   ·omega
 ·have h1:(w5.alloc X).heap[i]?=wr.heap[i]?:=(bta hb5 (Nat.le_refl _) X).block i (by omega)
  rw[←h1]
  refine hK2.block i (by have:=hb5.size;simp;omega) (fun h=>?_)
  have:=(hvlt _ h).1
  omega
theorem gs {α:Type} {l:List α} {k n:Nat} (h:l.length=n) (hk:k<n):∃x,l[k]?=some x:=⟨l[k],List.getElem?_eq_getElem (by omega)⟩
def pushR (l:List (Int×Int)) (n u:Int):List (Int×Int):=
 match l.getLast? with
 |some p=>if p.2=u then l.dropLast++[(p.1+n,u)] else l++[(n,u)]
 |none=>[(n,u)]
def rle (ks:List Int):List (Int×Int):=ks.foldl (fun a k=>pushR a 1 k) []
def BoolPost (w:World) (V:Bool) (r:Ending) (w':World):Prop:=r=.returned (.bool V)∧Below w.heap.size w w'
def IntPost (w:World) (V:Int) (r:Ending) (w':World):Prop:=r=.returned (.int .i64 V)∧Below w.heap.size w w'
def ordF (last:Int):List Ob→Bool
 |[]=>true
 |x::l=>decide (last<x.id)&&ordF x.id l
structure Oc.fit (o:Oc):Prop where
 objs:o.reply.objs.length≤40
 vals:∀y∈o.reply.objs,y.val.length≤300
 data:o.reply.data.length≤300
 next:o.reply.next≤9223372036854775807
structure Tb where
 st:Int
 most:Int
 map:List (Int×Int)
structure Dv where
 st:Int
 idn:Int
 lv:Int
 objs:List Ob
 srv:Int
 sd:List UInt8
 ts:Nat→Tb
def Dv.zero:Dv:=⟨0,0,0,[],0,[],fun _=>⟨0,0,[]⟩⟩
def WinOk (win:Nat→Int×Int):Prop:=∀k,k<4→0≤(win k).2∧(win k).2≤512∧0≤(win k).1∧(win k).1≤65536- (win k).2
theorem Keeps.setNew {F:Nat→Prop} {a w:World} (h:Keeps F a w) (p:Addr) (v:Value) (hp:a.heap.size≤p.block):Keeps F a (w.setCell p v):=
 ⟨h.os,h.tape,h.output,by simp [World.setCell];exact h.size,fun i hi hn=>by
  rw[Below.heap_setCell _ _ _ _ (by rintro rfl;omega)];exact h.block i hi hn⟩
end Go.Proofs.YtoaoejaodhedaaaGreat
