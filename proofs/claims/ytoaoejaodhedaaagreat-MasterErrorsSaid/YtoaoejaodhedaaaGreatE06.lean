/-
 Texts 6 of the claim.
-/
import Derived.Test.YtoaoejaodhedaaaGreatRows
import Derived.Test.YtoaoejaodhedaaaGreatE01
import Derived.Test.YtoaoejaodhedaaaGreatE05
import Derived.Test.YtoaoejaodhedaaaGreatE04
import Derived.Deep.QuietTactic
import Derived.BigQuiet
import Derived.Deep.RegionHeld3
import Derived.Deep.OwnRows
namespace Go.Proofs.YtoaoejaodhedaaaGreat
open Go.RowKit
set_option maxHeartbeats 3200000
set_option maxRecDepth 100000
def IdxI (V:Bool) (r:Ending):Prop:=∃i:Int,r=.returned (.int .i64 i)∧(0≤i↔V=true)
theorem idxI_any (v:Value) (l:List Int) (x:Int) (w:World) (hl:Ns w v l) (V:Bool) (hV:Hid (l.any (fun y=>decide (x=y))=V)):
  Calls Tryz.prog 178 #[v,.int .i64 x] w fun r w'=>IdxI V r∧w=w':=by
 have HL:=hid hl
 obtain⟨⟨a,c,rfl,hnc,hcm,hac,hel⟩,_⟩:=hl
 unfold maxLen at hcm
 obtain⟨n,hn⟩:∃n,l.length=n:=⟨_,rfl⟩
 have hcell:∀k,k<n→∃b o,a=some ⟨b,o,none⟩∧w.cell? ⟨b,o+k,none⟩=some (.int .i64 (l.getD k 0)):=by
  intro k hk
  obtain⟨b,o,ha,hc⟩:=hel (by rintro rfl;simp at hn;omega)
  exact⟨b,o,ha,hc k (by omega)⟩
 have hst:∀k,k<n→l.take (k+1)=l.take k++[l.getD k 0]:=by
  intro k hk
  rw[List.take_succ_eq_append_getElem (by omega)]
  simp [List.getD,hn,hk]
 have HFIN:=hid (show l.take n=l by rw[←hn,List.take_length])
 have HST:=hid hst
 have HCE:=hid hcell
 rw[hn] at hnc ⊢
 clear hel hst hcell hac hn HL
 go_enter Tryz.func178,Tryz.ntmps178
 go_wp2
 go_loop [8] (fun i=>∃k:Nat,k≤n∧i=.int .i64 k∧Hid ((l.take k).any (fun y=>decide (x=y))=false)) (fun i=>n- (intOf i).toNat)
 case atStart=>exact⟨0,Nat.zero_le _,rfl,rfl⟩
 case round=>
  obtain⟨k,hk,rfl,hno⟩:=hrel
  by_cases hlt:k<n
  ·obtain ⟨b,o,rfl,hc⟩:=HCE.out k hlt
   have HS:=hid (HST.out k hlt)
   have hkl:(k:Int)<(n:Int):=by omega
   generalize l.getD k 0=y at*
   by_cases hx:x=y
   ·have d:(x==y)=true:=by rw[beq_iff_eq];exact hx
    have HF:Hid (V=true):=by
     show _=_
     rw[←hV.out]
     refine List.any_eq_true.2 ⟨y,?_,decide_eq_true hx⟩
     have:y∈l.take (k+1):=by rw[HS.out];simp
     exact List.mem_of_mem_take this
    clear hx
    go_wp2
    go_ret
    exact⟨⟨k,rfl,⟨fun _=>HF.out,fun _=>Int.natCast_nonneg _⟩⟩,rfl⟩
   ·have d:(x==y)=false:=by rw[beq_eq_false_iff_ne];exact hx
    have HN:Hid ((l.take (k+1)).any (fun y=>decide (x=y))=false):=by
     show _=_
     rw[HS.out,List.any_append,hno.out]
     simp [hx]
    clear hx
    go_wp2
    go_round
    case rel=>exact⟨k+1,by omega,by go_num,HN⟩
    case measure=>simp [intOf];omega
  ·obtain rfl:k=n:=by omega
   have HF:Hid (V=false):=by
    have h1:=hno.out
    rw[HFIN.out] at h1
    show _=_
    rw[←hV.out,h1]
   go_wp2
   go_ret
   exact⟨⟨-1,rfl,⟨fun h=>absurd h (by decide),fun h=>by rw[HF.out] at h;cases h⟩⟩,rfl⟩
theorem contI_any (v:Value) (l:List Int) (x:Int) (w:World) (hl:Ns w v l) (V:Bool) (hV:Hid (l.any (fun y=>decide (x=y))=V)):
  Calls Tryz.prog 148 #[v,.int .i64 x] w fun r w'=>r=.returned (.bool V)∧w=w':=by
 have HI:=hid (idxI_any v l x w hl V hV)
 obtain⟨⟨a,c,rfl,_⟩,_⟩:=hl
 clear hV
 go_enter Tryz.func148,Tryz.ntmps148
 go_wp2_with fail
 refine HI.out.mono ?_
 rintro r w1 ⟨⟨i,rfl,hi⟩,rfl⟩
 have HV:Hid (decide (0≤i)=V):=by
  show _=_
  cases V with
  |true=>exact decide_eq_true (hi.2 rfl)
  |false=>exact decide_eq_false (fun h=>by cases hi.1 h)
 clear hi
 go_wp2
 go_ret
 exact⟨ret_bool HV.out,rfl⟩
def baudL:List Int:=[1200,2400,4800,9600,19200,38400,57600,115200]
structure Okset (b p:Int):Prop where
 mem:b∈baudL
 lo:0≤p
 hi:p≤2
theorem Okset.bd {b p:Int} (h:Okset b p):1200≤b∧b≤115200:=by
 have:=h.mem
 simp [baudL] at this
 omega
theorem bauds_any (w:World):Calls Tryz.prog 153 #[] w fun r w'=>(∃a n c,r=.returned (.slice a n c)∧Ns w' (.slice a n c) baudL)∧Below w.heap.size w w':=by
 go_enter Tryz.func153,Tryz.ntmps153
 go_wp2
 go_ret
 refine⟨⟨_,_,_,rfl,⟨_,8,rfl,by decide,by unfold maxLen;exact Nat.le_of_ble_eq_true rfl,(fun h=>by cases h),fun _=>⟨w.heap.size,0,rfl,fun i hi=>?_⟩⟩,?_⟩,bal' w _⟩
 ·rw [hpCell (hpNew w _)]
  have:i<8:=hi
  rcases (show i=0∨i=1∨i=2∨i=3∨i=4∨i=5∨i=6∨i=7 by omega) with rfl|rfl|rfl|rfl|rfl|rfl|rfl|rfl<;>rfl
 ·intro n hn
  simp [baudL] at hn
  rcases hn with rfl|rfl|rfl|rfl|rfl|rfl|rfl|rfl<;>rfl
theorem svalid_ok (b p:Int) (h:Okset b p) (w:World):
  Calls Tryz.prog 120 #[.agg #[.int .i64 b,.int .i64 p]] w fun r w'=>r=.returned (.bool true)∧Below w.heap.size w w':=by
 have HV:Hid (baudL.any (fun y=>decide (b=y))=true):=List.any_eq_true.2 ⟨b,h.mem,decide_eq_true rfl⟩
 obtain⟨W0,hW0⟩:∃W,w.alloc (.cells #[.int .i64 b,.int .i64 p] 61)=W:=⟨_,rfl⟩
 have g0:W0.heap[w.heap.size]?=some (.cells #[.int .i64 b,.int .i64 p] 61):=by rw[←hW0];exact hpNew w _
 have HB:Hid (Below w.heap.size w W0):=by show Below _ _ _;rw[←hW0];exact bal' w _
 have c0:∀W,Below W0.heap.size W0 W→W.cell? ⟨w.heap.size,0,none⟩=some (.int .i64 b):=fun W hW=>hpCell (hpKeep g0 hW) 0
 have c1:∀W,Below W0.heap.size W0 W→W.cell? ⟨w.heap.size,1,none⟩=some (.int .i64 p):=fun W hW=>hpCell (hpKeep g0 hW) 1
 have d1:decide (0≤p)=true:=decide_eq_true h.lo
 have d2:decide (p≤2)=true:=decide_eq_true h.hi
 have kD:Below W0.heap.size W0 W0.drew:=(Below.refl _ _).drew
 have HW0:=hid hW0
 clear h g0 hW0
 go_enter Tryz.func120,Tryz.ntmps120
 go_wp2_with fail
 rw[HW0.out]
 go_region_held3 (fun W=>Below W0.heap.size W0 W) ((with_reducible (first|exact kD|exact bt kD hb2 (Nat.le_refl _)|assumption))) (first|(go_at_call 153;(with_reducible refine(bauds_any _).mono ?_);rintro r w2 ⟨⟨a2,n2,c2,rfl,hN⟩,hb2⟩)|(go_at_call 148;(with_reducible refine(contI_any _ _ _ _ hN true HV).mono ?_);rintro r w3 ⟨rfl,rfl⟩))
 go_wp2
 go_ret
 exact⟨rfl,bt HB.out (bt kD hb2 (Nat.le_refl _)) (Nat.le_refl _)⟩
def upI (a b:Int):Int:=(a+b-1)/b
theorem up_any (a b:Int) (h1:1≤b) (h2:b≤115200) (h3:0≤a) (h4:a≤38500000) (w:World):
  Calls Tryz.prog 158 #[.int .i64 a,.int .i64 b] w fun r w'=>r=.returned (.int .i64 (upI a b))∧w=w':=by
 go_enter Tryz.func158,Tryz.ntmps158
 go_wp2
 go_ret
 exact⟨rfl,rfl⟩
def charT (b:Int):Int:=upI 11000000 b
def t15T (b:Int):Int:=if 19200<b then 750 else upI 16500000 b
def t35T (b:Int):Int:=if 19200<b then 1750 else upI 38500000 b
theorem time_bd {b p:Int} (h:Okset b p):96≤charT b∧charT b≤9167∧750≤t15T b∧t15T b≤13750∧1750≤t35T b∧t35T b≤32084:=by
 have:=h.mem
 simp [baudL] at this
 rcases this with rfl|rfl|rfl|rfl|rfl|rfl|rfl|rfl<;>decide
theorem char_ok (b p:Int) (h:Hid (Okset b p)) (w:World):
  Calls Tryz.prog 128 #[.agg #[.int .i64 b,.int .i64 p]] w fun r w'=>r=.returned (.int .i64 (charT b))∧Below w.heap.size w w':=by
 have HU:Hid (∀W,Calls Tryz.prog 158 #[.int .i64 11000000,.int .i64 b] W fun r w'=>r=.returned (.int .i64 (charT b))∧W=w'):=fun W=>up_any _ b (by have:=h.out.bd;omega) (by have:=h.out.bd;omega) (by decide) (by decide) W
 go_enter Tryz.func128,Tryz.ntmps128
 go_wp2_with (first|(go_at_call 120;(with_reducible refine(svalid_ok b p h.out _).mono ?_);rintro r w1 ⟨rfl,hb1⟩;have y0:=hpCell (hpKeep (hpNew w _) hb1) 0)|(go_at_call 158;(with_reducible refine(HU.out _).mono ?_);rintro r w2 ⟨rfl,rfl⟩))
 go_ret
 exact⟨rfl,bt (bal' w _) hb1 (Nat.le_refl _)⟩
theorem z05_1 {p:Prop} (h:p:=by
 go_wp2_with (first|(go_at_call 120;(with_reducible refine(svalid_ok b p h.out _).mono ?_);rintro r w1 ⟨rfl,hb1⟩;have y0:=hpCell (hpKeep (hpNew w _) hb1) 0)|(go_at_call 158;(with_reducible refine(HU.out _).mono ?_);rintro r w2 ⟨rfl,rfl⟩))
 go_ret
 exact⟨by rw[HT.out];rfl,bt (bal' w _) hb1 (Nat.le_refl _)⟩):p:=h
theorem t35_ok (b p:Int) (h:Hid (Okset b p)) (w:World):
  Calls Tryz.prog 125 #[.agg #[.int .i64 b,.int .i64 p]] w fun r w'=>r=.returned (.int .i64 (t35T b))∧Below w.heap.size w w':=by
 by_cases hs:19200<b
 ·have HT:Hid (t35T b=1750):=if_pos hs
  go_enter Tryz.func125,Tryz.ntmps125
  go_wp2_with (first|(go_at_call 120;(with_reducible refine(svalid_ok b p h.out _).mono ?_);rintro r w1 ⟨rfl,hb1⟩;have y0:=hpCell (hpKeep (hpNew w _) hb1) 0)|fail)
  go_ret
  exact⟨by rw[HT.out];rfl,bt (bal' w _) hb1 (Nat.le_refl _)⟩
 ·have HT:Hid (t35T b=upI 38500000 b):=if_neg hs
  have HU:Hid (∀W,Calls Tryz.prog 158 #[.int .i64 38500000,.int .i64 b] W fun r w'=>r=.returned (.int .i64 (upI 38500000 b))∧W=w'):=fun W=>up_any _ b (by have:=h.out.bd;omega) (by have:=h.out.bd;omega) (by decide) (by decide) W
  go_enter Tryz.func125,Tryz.ntmps125
  exact z05_1
theorem t15_ok (b p:Int) (h:Hid (Okset b p)) (w:World):
  Calls Tryz.prog 165 #[.agg #[.int .i64 b,.int .i64 p]] w fun r w'=>r=.returned (.int .i64 (t15T b))∧Below w.heap.size w w':=by
 by_cases hs:19200<b
 ·have HT:Hid (t15T b=750):=if_pos hs
  go_enter Tryz.func165,Tryz.ntmps165
  go_wp2_with (first|(go_at_call 120;(with_reducible refine(svalid_ok b p h.out _).mono ?_);rintro r w1 ⟨rfl,hb1⟩;have y0:=hpCell (hpKeep (hpNew w _) hb1) 0)|fail)
  go_ret
  exact⟨by rw[HT.out];rfl,bt (bal' w _) hb1 (Nat.le_refl _)⟩
 ·have HT:Hid (t15T b=upI 16500000 b):=if_neg hs
  have HU:Hid (∀W,Calls Tryz.prog 158 #[.int .i64 16500000,.int .i64 b] W fun r w'=>r=.returned (.int .i64 (upI 16500000 b))∧W=w'):=fun W=>up_any _ b (by have:=h.out.bd;omega) (by have:=h.out.bd;omega) (by decide) (by decide) W
  go_enter Tryz.func165,Tryz.ntmps165
  exact z05_1
theorem tposs_ok (n:Int) (h1:0≤n) (h2:n≤5000000) (w:World):
  Calls Tryz.prog 100 #[.int .i64 n] w fun r w'=>r=.returned (.bool true)∧w=w':=by
 go_enter Tryz.func100,Tryz.ntmps100
 go_wp2
 go_ret
 exact⟨rfl,rfl⟩
def drainT (b timeout delay:Int):Int:=2*t35T b+timeout+delay+257*charT b
theorem drain_ok (b p x y:Int) (h:Hid (Okset b p)) (hx1:0≤x) (hx2:x≤5000000) (hy1:0≤y) (hy2:y≤5000000) (w:World):
  Calls Tryz.prog 101 #[.agg #[.int .i64 b,.int .i64 p],.int .i64 x,.int .i64 y] w fun r w'=>r=.returned (.int .i64 (drainT b x y))∧Below w.heap.size w w':=by
 obtain⟨t1,t2,_,_,t5,t6⟩:=time_bd h.out
 obtain⟨C,hC⟩:∃C,charT b=C:=⟨_,rfl⟩
 obtain⟨T,hT⟩:∃T,t35T b=T:=⟨_,rfl⟩
 have HCH:Hid (∀W,Calls Tryz.prog 128 #[.agg #[.int .i64 b,.int .i64 p]] W fun r w'=>r=.returned (.int .i64 C)∧Below W.heap.size W w'):=fun W=>by rw[←hC];exact char_ok b p h W
 have HT3:Hid (∀W,Calls Tryz.prog 125 #[.agg #[.int .i64 b,.int .i64 p]] W fun r w'=>r=.returned (.int .i64 T)∧Below W.heap.size W w'):=fun W=>by rw[←hT];exact t35_ok b p h W
 have HD:Hid (drainT b x y=2*T+x+y+257*C):=by show _=_;rw[←hC,←hT];rfl
 rw[hC] at t1 t2
 rw[hT] at t5 t6
 have s1:IntKind.i64.wrap (2*T)=2*T:=IntWalk.i64_in _ (by omega)
 have s2:IntKind.i64.wrap (2*T+x)=2*T+x:=IntWalk.i64_in _ (by omega)
 have s3:IntKind.i64.wrap (2*T+x+y)=2*T+x+y:=IntWalk.i64_in _ (by omega)
 have s4:IntKind.i64.wrap (257*C)=257*C:=IntWalk.i64_in _ (by omega)
 have s5:IntKind.i64.wrap (2*T+x+y+257*C)=2*T+x+y+257*C:=IntWalk.i64_in _ (by omega)
 clear hC hT
 go_enter Tryz.func101,Tryz.ntmps101
 go_wp2_with (first|(go_at_call 120;(with_reducible refine(svalid_ok b p h.out _).mono ?_);rintro r w1 ⟨rfl,hb1⟩;have g0:=hpKeep (hpNew w _) hb1)|(go_at_call 100;(with_reducible refine(tposs_ok x hx1 hx2 _).mono ?_);rintro r w2 ⟨rfl,rfl⟩)|(go_at_call 100;(with_reducible refine(tposs_ok y hy1 hy2 _).mono ?_);rintro r w2 ⟨rfl,rfl⟩))
 have c0:∀W,Below w1.heap.size w1 W→W.cell? ⟨w.heap.size,0,none⟩=some (.int .i64 b):=fun W hW=>hpCell (hpKeep g0 hW) 0
 have c1:∀W,Below w1.heap.size w1 W→W.cell? ⟨w.heap.size,1,none⟩=some (.int .i64 p):=fun W hW=>hpCell (hpKeep g0 hW) 1
 have kD:Below w1.heap.size w1 w1.drew:=(Below.refl _ _).drew
 have hbw1:=bt (bal' w _) hb1 (Nat.le_refl _)
 clear g0 hb1
 go_region_held3 (fun W=>Below w1.heap.size w1 W) ((first|exact kD|exact bt (by assumption) hb5 (Nat.le_refl _)|exact bt (by assumption) hb4 (Nat.le_refl _))) (first|(go_at_call 128;(with_reducible refine(HCH.out _).mono ?_);rintro r w4 ⟨rfl,hb4⟩)|(go_at_call 125;(with_reducible refine(HT3.out _).mono ?_);rintro r w5 ⟨rfl,hb5⟩))
 all_goals
  go_wp2
  go_ret
  refine⟨by rw[HD.out];rfl,?_⟩
  first|exact bt hbw1 (bt (bt kD hb5 (Nat.le_refl _)) hb4 (Nat.le_refl _)) (Nat.le_refl _)|exact bt hbw1 (bt (bt kD hb4 (Nat.le_refl _)) hb5 (Nat.le_refl _)) (Nat.le_refl _)
theorem within_any (n a b:Int) (w:World) (V:Bool) (hV:Hid ((decide (a≤n)&&decide (n≤b))=V)):
  Calls Tryz.prog 104 #[.int .i64 n,.int .i64 a,.int .i64 b] w fun r w'=>r=.returned (.bool V)∧w=w':=by
 have hV0:=hV.out
 by_cases h:a≤n
 ·have d1:decide (a≤n)=true:=decide_eq_true h
  rw[d1,Bool.true_and] at hV0
  have HV:=hid hV0
  clear hV0 hV h
  go_enter Tryz.func104,Tryz.ntmps104
  go_wp2
  go_ret
  exact⟨ret_bool HV.out,rfl⟩
 ·have d1:decide (a≤n)=false:=decide_eq_false h
  rw[d1,Bool.false_and] at hV0
  subst hV0
  clear hV h
  go_enter Tryz.func104,Tryz.ntmps104
  go_wp2
  go_ret
  exact⟨rfl,rfl⟩
theorem rbauds_any (w:World):Calls Tryz.prog 173 #[] w fun r w'=>(∃b c,r=.returned (.slice (some ⟨b,0,none⟩) 8 c)∧8≤c∧∀i,i<8→w'.cell? ⟨b,i,none⟩=some (.int .i64 (baudL.getD i 0)))∧Below w.heap.size w w':=by
 go_enter Tryz.func173,Tryz.ntmps173
 go_wp2
 go_ret
 refine⟨⟨w.heap.size,_,rfl,Nat.le_refl _,fun i hi=>?_⟩,bal' w _⟩
 rw[hpCell (hpNew w _)]
 rcases (show i=0∨i=1∨i=2∨i=3∨i=4∨i=5∨i=6∨i=7 by omega) with rfl|rfl|rfl|rfl|rfl|rfl|rfl|rfl<;>rfl
def allS:List (Int×Int):=baudL.flatMap fun b=>[(b,0),(b,1),(b,2)]
def setV:List (Int×Int)→List Value
 |[]=>[]
 |x::l=>.int .i64 x.1::.int .i64 x.2::setV l
theorem setV_append (l k:List (Int×Int)):setV (l++k)=setV l++setV k:=by
 induction l with
 |nil=>rfl
 |cons x l ih=>simp [setV,ih]
theorem setV_length (l:List (Int×Int)):(setV l).length=l.length*2:=by
 induction l with
 |nil=>rfl
 |cons x l ih=>simp [setV,ih];omega
theorem setV_get:∀(l:List (Int×Int)) (i:Nat) (x:Int×Int),l[i]?=some x→(setV l)[i*2]?=some (.int .i64 x.1)∧(setV l)[i*2+1]?=some (.int .i64 x.2)
 |[],i,x,h=>by simp at h
 |y::l,0,x,h=>by
  simp at h
  subst h
  exact⟨rfl,rfl⟩
 |y::l,i+1,x,h=>by
  have:=setV_get l i x (by simpa using h)
  rw[show (i+1)*2=i*2+2 by omega]
  exact this
theorem allS_len:allS.length=24:=by decide
theorem allS_step:∀k,k<8→∀q,q<3→allS.take (3*k+q+1)=allS.take (3*k+q)++[(baudL.getD k 0,(q:Int))]:=by decide
theorem allS_ok {x:Int×Int} (h:x∈allS):Okset x.1 x.2:=by
 have h2:∀x∈allS,x.1∈baudL∧0≤x.2∧x.2≤2:=by decide
 exact⟨(h2 x h).1,(h2 x h).2.1,(h2 x h).2.2⟩
theorem allS_mem {b p:Int} (h:Okset b p):(b,p)∈allS:=by
 have h1:=h.mem
 have hp:p=0∨p=1∨p=2:=by have:=h.lo;have:=h.hi;omega
 simp [baudL] at h1
 rcases h1 with rfl|rfl|rfl|rfl|rfl|rfl|rfl|rfl<;>rcases hp with rfl|rfl|rfl<;>decide
theorem infoS:(Tryz.prog.info? 61).map (fun i=>(i.zero,i.size,i.bytes))=some (some (.agg #[.int .i64 0,.int .i64 0]),2,16):=by kernel_rfl
def AllPost (w:World) (r:Ending) (w':World):Prop:=∃v,r=.returned v∧w'.ownsRow w.heap.size 61 2 v 24 (setV allS)∧Below w.heap.size w w'
theorem rall_any (w:World):Calls Tryz.prog 141 #[] w (AllPost w):=by
 obtain⟨i5,hi,hz0,hz1,hz2⟩:=info_parts infoS
 go_enter Tryz.func141,Tryz.ntmps141
 go_wp2_with fail
 refine(rbauds_any w).mono ?_
 rintro r w1 ⟨⟨b,c,rfl,hc8,hcell⟩,hb1⟩
 have HC:=hid hcell
 clear hcell
 have hs1:=hb1.size
 go_wp2
 go_loopw [1,3,4] (fun v i _ wr=>∃k:Nat,k≤8∧i=.int .i64 k∧wr.ownsRow w1.heap.size 61 2 v (3*k) (setV (allS.take (3*k)))∧Below w1.heap.size w1 wr) (fun _ i _ _=>8- (intOf i).toNat)
 case atStart=>exact⟨0,by omega,rfl,World.ownsRow_nil _ _ _ _,Below.refl _ _⟩
 case round=>
  obtain⟨k,hk,rfl,hown,hbr⟩:=hrel
  by_cases hlt:k<8
  ·have hkl:(k:Int)<8:=by omega
   have HO:=hid hown
   clear hown
   obtain⟨wo,rfl⟩:∃wo:World,wo=wr:=⟨_,rfl⟩
   go_wp2
   go_loopw [1,4] (fun v q wr=>∃j:Nat,j≤3∧q=.int .i64 j∧wr.ownsRow w1.heap.size 61 2 v (3*k+j) (setV (allS.take (3*k+j)))∧Below w1.heap.size w1 wr) (fun _ q _=>3- (intOf q).toNat)
   case atStart=>exact⟨0,by omega,rfl,HO.out,hbr⟩
   case round=>
    obtain⟨j,hj,rfl,hown,hbj⟩:=hrel
    by_cases hjt:j<3
    ·have hjl:(j:Int)<3:=by omega
     have hcb:=cell_keep hbj (HC.out k hlt)
     have HS:=hid (allS_step k hlt j hjt)
     have hsz:=hbj.size
     generalize hE:baudL.getD k 0=bd at*
     go_wp2_with (at_builtin;refine wpList_appN rfl _ _ 22 rfl w1.heap.size 61 i5 _ 2 16 Tryz.underlying22 hi hz0 hz1 hz2 rfl (by decide) _ (3*k+j) _ rfl (hown.alloc _) ⟨wr.heap.size,0,none⟩ 1 1 [.int .i64 bd,.int .i64 (j:Int)] rfl rfl (newsNew wr [.int .i64 bd,.int .i64 (j:Int)] _) (by intro u hu;simp at hu;rcases hu with rfl|rfl<;>rfl) (by unfold maxLen;omega) (by omega) (by simp;omega) ?c1)
     case c1=>
      intro v' w2 hown2 hgr _
      have hbel:Below w1.heap.size w1 w2:=(bta hbj (Nat.le_refl _) _).grown hgr (bta hbj (Nat.le_refl _) _).size (fun k hk=>(hown.lt k hk).1)
      have HO2:Hid (w2.ownsRow w1.heap.size 61 2 v' (3*k+(j+1)) (setV (allS.take (3*k+(j+1))))):=by
       rw[←Nat.add_assoc,HS.out,setV_append]
       exact hown2
      clear hown2 hgr
      go_wp2
      go_roundw
      case rel=>exact⟨j+1,by omega,by go_num,HO2.out,hbel⟩
      case measure=>simp [intOf];omega
    ·obtain rfl:j=3:=by omega
     have HO2:=hid hown
     clear hown
     go_wp2
     go_roundw
     case rel=>exact⟨k+1,by omega,by go_num,HO2.out,hbj⟩
     case measure=>simp [intOf];omega
  ·obtain rfl:k=8:=by omega
   go_wp2
   go_ret
   refine⟨_,rfl,own_lower hown hs1,bt hb1 hbr (Nat.le_refl _)⟩
theorem own_setting {w:World} {base:Nat} {E:TypeId} {v:Value} {n:Nat} {l:List (Int×Int)} (h:w.ownsRow base E 2 v n (setV l)) (hl:l≠[]):∃g c,v=.slice (some ⟨g,0,none⟩) n c∧n≤c∧c≤maxLen∧∀i x,l[i]?=some x→w.cell? ⟨g,i*2,none⟩=some (.int .i64 x.1)∧w.cell? ⟨g,i*2+1,none⟩=some (.int .i64 x.2):=by
 obtain⟨hlen,h|⟨g,cap,cur,hv,hb,hh,hnc,hcm,hcs,ht⟩⟩:=h
 ·obtain ⟨rfl,h0⟩:=h
  rw[setV_length,h0] at hlen
  exact absurd (List.eq_nil_of_length_eq_zero (by omega)) hl
 ·refine ⟨g,cap,hv,hnc,hcm,fun i x hx=>?_⟩
  have hi:=(List.getElem?_eq_some_iff.1 hx).1
  have hs:=setV_length l
  obtain⟨h1,h2⟩:=setV_get l i x hx
  have hc:∀j,j<l.length*2→w.cell? ⟨g,j,none⟩=(setV l)[j]?:=by
   intro j hj
   have:=take_get ht j (by omega)
   simp only[World.cell?,hh,Option.isSome_none]
   exact this
  exact⟨by rw[hc _ (by omega)];exact h1,by rw[hc _ (by omega)];exact h2⟩
def frameT (b:Int) (n:Nat):Int:=n*charT b
structure Tbl where
 sup:Bool
 rd:List (Int×Int)
 most:Int
structure Sl where
 bd:Int
 pa:Int
 un:Int
 ts:Nat→Tbl
 lv:Int
 objs:List Ob
 hs:Bool
 sd:List UInt8
def inR (rd:List (Int×Int)) (a:Int):Bool:=rd.any (fun r=>decide (r.1≤a)&&decide (a-r.1<r.2))
def kindAt (rd:List (Int×Int)) (a:Int):Int:=if inR rd a=true then 1 else 2
def kindsOf (rd:List (Int×Int)) (a:Int):Nat→List Int
 |0=>[]
 |n+1=>kindsOf rd a n++[kindAt rd (a+(n:Nat))]
def allR (rd:List (Int×Int)) (a:Int) (n:Nat):Prop:=∀i:Nat,i<n→inR rd (a+(i:Nat))=true
structure Sl.ok (s:Sl):Prop where
 tb:∀k,k<4→(s.ts k).sup=true→1≤(s.ts k).most∧(s.ts k).most≤limI ((k:Nat)+1)
 lv:0≤s.lv
 ob:0<s.lv→s.objs≠[]∧s.objs.length≤16∧ordF (-1) s.objs=true∧∀y∈s.objs,y.id≤255
 sd:s.hs=true→0<s.sd.length
def Tbl.truth (t:Tbl) (w:Int×Int):Tb:=if w.2=0 then ⟨6,0,[]⟩ else if t.sup=true then ⟨2,t.most,rle (kindsOf t.rd w.1 w.2.toNat)⟩ else ⟨5,0,[]⟩
def Sl.d1:Dv:={Dv.zero with st:=2}
def Sl.d2 (s:Sl):Dv:={Sl.d1 with idn:=if 0<s.lv then 2 else 5,lv:=if 0<s.lv then s.lv else 0,objs:=if 0<s.lv then s.objs else []}
def Sl.d3 (s:Sl):Dv:={s.d2 with srv:=if s.hs=true then 2 else 5,sd:=if s.hs=true then s.sd else []}
def Sl.dk (s:Sl) (win:Nat→Int×Int) (k:Nat):Dv:={s.d3 with ts:=fun i=>if i<k then (s.ts i).truth (win i) else ⟨0,0,[]⟩}
theorem cellsRg:Tryz.prog.cellsOf 24=2:=by kernel_rfl
def RgR (_:World) (cs:List Value) (x:Int×Int):Prop:=cs=[.int .i64 x.1,.int .i64 x.2]∧wfI x.1∧wfI x.2
def Rgs (w:World) (v:Value) (l:List (Int×Int)):Prop:=Sls 2 RgR w v l
theorem Rgs.keep {w w':World} {v:Value} {l:List (Int×Int)} (h:Rgs w v l) (hb:Below w.heap.size w w'):Rgs w' v l:=Sls.keep (fun _ _ _ _ h _=>h) h hb
theorem int_rd {w:World} {v:Value} (h:Rd Tryz.prog w 3 [v]):∃n:Int,v=.int .i64 n∧wfI n:=by
 obtain⟨n,e,hw⟩:=Rd.int Tryz.underlying3 h
 simp only[List.cons.injEq,and_true] at e
 have hb:=bounds_i64 hw
 exact⟨n,e,by unfold wfI;omega⟩
theorem rg_rd {w:World} {cs:List Value} (h:Rd Tryz.prog w 24 cs):∃x,RgR w cs x:=by
 obtain⟨hl,hf⟩:=h.struct Tryz.underlying24
 rw[cellsRg] at hl
 obtain⟨c0,c1,rfl⟩:=lst2 hl
 have f0:=hf _ (List.mem_cons_self ..)
 have f1:=hf _ (List.mem_cons_of_mem _ (List.mem_cons_self ..))
 simp only[cellsInt,List.drop_zero,List.drop_succ_cons,List.take_succ_cons,List.take_zero] at f0 f1
 obtain⟨a,rfl,w0⟩:=int_rd f0
 obtain⟨b,rfl,w1⟩:=int_rd f1
 exact⟨(a,b),rfl,w0,w1⟩
def SlC (s:Sl) (rv:Nat→Value) (ov sv:Value):Array Value:=
 #[.int .i64 s.bd,.int .i64 s.pa,.int .i64 s.un,.bool (s.ts 0).sup,rv 0,.int .i64 (s.ts 0).most,.bool (s.ts 1).sup,rv 1,.int .i64 (s.ts 1).most,.bool (s.ts 2).sup,rv 2,.int .i64 (s.ts 2).most,.bool (s.ts 3).sup,rv 3,.int .i64 (s.ts 3).most,.int .i64 s.lv,ov,.bool s.hs,sv]
structure SlR (w:World) (s:Sl) (rv:Nat→Value) (ov sv:Value):Prop where
 rg:∀k,k<4→Rgs w (rv k) (s.ts k).rd
 ob:Obs w ov s.objs
 sd:Bs w sv s.sd
 mo:∀k,k<4→wfI (s.ts k).most
 un:wfI s.un
 lv:wfI s.lv
 bd:wfI s.bd
 pa:wfI s.pa
theorem SlR.keep {w w':World} {s:Sl} {rv:Nat→Value} {ov sv:Value} (h:SlR w s rv ov sv) (hb:Below w.heap.size w w'):SlR w' s rv ov sv:=
 ⟨fun k hk=>(h.rg k hk).keep hb,h.ob.keep hb,h.sd.keep hb,h.mo,h.un,h.lv,h.bd,h.pa⟩
def mk4 {α:Type} (a b c d:α):Nat→α
 |0=>a
 |1=>b
 |2=>c
 |_=>d
def rgsFrom (e:Int):List (Int×Int)→Bool
 |[]=>true
 |r::l=> !(decide (r.1≤e)||decide (r.1<0)||decide (65536≤r.1)||decide (r.2<1)||decide (65536-r.1<r.2))&&rgsFrom (r.1+r.2) l
def rgOk (e:Int) (x:Int×Int):Prop:=¬x.1≤e∧¬x.1<0∧¬65536≤x.1∧¬x.2<1∧¬65536-x.1<x.2
theorem rgsFrom_ok {e:Int} {x:Int×Int} {l:List (Int×Int)} (h:rgOk e x):rgsFrom e (x::l)=rgsFrom (x.1+x.2) l:=by
 obtain⟨h1,h2,h3,h4,h5⟩:=h
 simp only[rgsFrom,decide_eq_false h1,decide_eq_false h2,decide_eq_false h3,decide_eq_false h4,decide_eq_false h5]
 rfl
theorem rgsFrom_bad {e:Int} {x:Int×Int} {l:List (Int×Int)} (h:¬rgOk e x):rgsFrom e (x::l)=false:=by
 cases hh:rgsFrom e (x::l) with
 |false=>rfl
 |true=>
  exfalso
  simp only[rgsFrom,Bool.and_eq_true,Bool.not_eq_true',Bool.or_eq_false_iff,decide_eq_false_iff_not] at hh
  obtain⟨⟨⟨⟨⟨h1,h2⟩,h3⟩,h4⟩,h5⟩,_⟩:=hh
  exact h ⟨h1,h2,h3,h4,h5⟩
theorem badR {e:Int} {x:Int×Int} (h:¬rgOk e x):x.1≤e∨(¬x.1≤e∧x.1<0)∨(¬x.1≤e∧¬x.1<0∧65536≤x.1)∨(¬x.1≤e∧¬x.1<0∧¬65536≤x.1∧x.2<1)∨(¬x.1≤e∧¬x.1<0∧¬65536≤x.1∧¬x.2<1∧65536-x.1<x.2):=by
 unfold rgOk at h
 omega
theorem Rgs.at {w:World} {v:Value} {l:List (Int×Int)} (h:Rgs w v l) {k:Nat} {x:Int×Int} (hx:l[k]?=some x):
  ∃b o c,v=.slice (some ⟨b,o,none⟩) l.length c∧wfI x.1∧wfI x.2∧∀W,Below w.heap.size w W→W.cell? ⟨b,o+k*2,none⟩=some (.int .i64 x.1)∧W.cell? ⟨b,o+k*2+1,none⟩=some (.int .i64 x.2):=by
 obtain⟨a,c,rfl,h1,h2,h3,h4⟩:=h
 obtain⟨b,o,rfl,hel⟩:=h4 (by rintro rfl;simp at hx)
 obtain⟨r,hr,⟨rfl,w1,w2⟩,hc⟩:=hel k x hx
 exact⟨b,o,c,rfl,w1,w2,fun W hW=>⟨cell_keep hW (hc 0 _ rfl),cell_keep hW (hc 1 _ rfl)⟩⟩
theorem rgsFrom_mem {e:Int}:∀{l:List (Int×Int)},rgsFrom e l=true→∀x∈l,0≤x.1∧x.1<65536∧1≤x.2∧x.2≤65536-x.1
 |[],_,x,hx=>by cases hx
 |r::l,h,x,hx=>by
  by_cases hg:rgOk e r
  ·rw [rgsFrom_ok hg] at h
   rcases List.mem_cons.1 hx with rfl|hx
   ·obtain ⟨h1,h2,h3,h4,h5⟩:=hg
    omega
   ·exact rgsFrom_mem h x hx
  ·rw [rgsFrom_bad hg] at h
   cases h
def SetPost (w:World) (b p:Int) (r:Ending) (w':World):Prop:=∃V:Bool,r=.returned (.bool V)∧Hid (V=true↔Okset b p)∧Below w.heap.size w w'
theorem SetPost.mk {w w':World} {b p:Int} (V:Bool) (h:V=true↔Okset b p) (hb:Below w.heap.size w w'):SetPost w b p (.returned (.bool V)) w':=⟨V,rfl,h,hb⟩
theorem rvalid_set (b p:Int) (w:World):Calls Tryz.prog 93 #[.agg #[.int .i64 b,.int .i64 p]] w (SetPost w b p):=by
 go_enter Tryz.func93,Tryz.ntmps93
 go_wp2_with fail
 refine(rall_any _).mono ?_
 rintro r w1 ⟨v,rfl,hown,hb1⟩
 obtain⟨g,c,rfl,hnc,hcm,hel⟩:=own_setting hown (by decide)
 have HE:=hid hel
 have q0:=hpCell (hpKeep (hpNew w _) hb1) 0
 have q1:=hpCell (hpKeep (hpNew w _) hb1) 1
 unfold maxLen at hcm
 have hbw:=bt (bal' w _) hb1 (Nat.le_refl _)
 clear hel hown hb1
 go_wp2
 go_loopw [4] (fun i wr=>∃k:Nat,k≤24∧i=.int .i64 k∧Hid (∀j,j<k→allS[j]?≠some (b,p))∧∃n,wr=w1.drewN n) (fun i _=>24- (intOf i).toNat)
 case atStart=>exact⟨0,by omega,rfl,fun j hj=>absurd hj (by omega),0,rfl⟩
 case round=>
  obtain⟨k,hk,rfl,hno,nd,rfl⟩:=hrel
  by_cases hlt:k<24
  ·have hkl:(k:Int)<24:=by omega
   obtain⟨x,hgx⟩:∃x,allS[k]?=some x:=⟨_,List.getElem?_eq_getElem (show k<allS.length by rw[allS_len];exact hlt)⟩
   obtain⟨e0,e1⟩:=HE.out k x hgx
   have HG:=hid hgx
   clear hgx
   obtain⟨x1,x2⟩:=x
   by_cases hx:x1=b∧x2=p
   ·obtain ⟨d1,d2⟩:(x1==b)=true∧(x2==p)=true:=⟨by rw[beq_iff_eq];exact hx.1,by rw[beq_iff_eq];exact hx.2⟩
    have HXX:=hid hx
    clear hx
    go_wp2
    go_quiet (fail)
    go_wp2
    go_ret
    exact SetPost.mk true ⟨fun _=>by have:=allS_ok (List.mem_of_getElem? HG.out);rw[←HXX.out.1,←HXX.out.2];exact this,fun _=>rfl⟩ (below_drewN (below_drewN hbw _) _)
   ·have HN:Hid (∀j,j<k+1→allS[j]?≠some (b,p)):=by
     intro j hj e
     by_cases hjk:j=k
     ·subst hjk
      rw[HG.out] at e
      cases e
      exact hx ⟨rfl,rfl⟩
     ·exact hno.out j (by omega) e
    rcases (show (x1==b)=false∨((x1==b)=true∧(x2==p)=false) by
     by_cases h1:x1=b
     ·exact .inr ⟨by rw[beq_iff_eq];exact h1,by rw[beq_eq_false_iff_ne];exact fun h2=>hx ⟨h1,h2⟩⟩
     ·exact .inl (by rw[beq_eq_false_iff_ne];exact h1)) with d1|⟨d1,d2⟩
    all_goals
     clear hx
     go_wp2
     go_quiet (fail)
     go_wp2
     go_roundw
     case rel=>exact⟨k+1,by omega,by go_num,HN,nd+nq,rfl⟩
     case measure=>simp [intOf];omega
  ·obtain rfl:k=24:=by omega
   go_wp2
   go_ret
   refine SetPost.mk false ⟨fun e=>(by cases e),fun h=>?_⟩ (below_drewN hbw _)
   obtain⟨j,hj⟩:=List.getElem?_of_mem (allS_mem h)
   exact absurd hj (hno.out j (by have:=(List.getElem?_eq_some_iff.1 hj).1;rw[allS_len] at this;exact this))
end Go.Proofs.YtoaoejaodhedaaaGreat
