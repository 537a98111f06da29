import Derived.Test.YtoaoejaodhedaaaGreatQ03
namespace Go.Proofs.YtoaoejaodhedaaaGreat
open Go.RowKit
set_option maxHeartbeats 6400000
set_option maxRecDepth 100000
def IdxI (V:Bool) (r:Ending):Prop:=∃i:Int,r=.returned (.int .i64 i)∧(0≤i↔V=true)
theorem idxI_any (v:Value) (l:List Int) (x:Int) (w:World) (hl:Ns w v l) (V:Bool) (hV:Hid (l.any (fun y=>decide (x=y))=V)):
  Calls Tryz.prog 178 #[v,.int .i64 x] w fun r w'=>IdxI V r∧w=w':=by
 have HL:=bC hl;obtain⟨⟨a,c,rfl,hnc,hcm,hac,hel⟩,_⟩:=hl;unfold maxLen at hcm;obtain⟨n,hn⟩:=gE l.length;have hcell:∀k,k<n→∃b o,a=some ⟨b,o,none⟩∧w.cell? ⟨b,o+k,none⟩=some (.int .i64 (l.getD k 0)):=by
  intro k hk;obtain⟨b,o,ha,hc⟩:=hel (by rintro rfl;simp at hn;omega);exact⟨b,o,ha,hc k (by omega)⟩
 have hst:∀k,k<n→l.take (k+1)=l.take k++[l.getD k 0]:=by
  intro k hk;rw[List.take_succ_eq_append_getElem (by omega)];simp [List.getD,hn,hk]
 have HFIN:=bC (show l.take n=l by rw[←hn,List.take_length]);have HST:=bC hst;have HCE:=bC hcell;rw[hn] at hnc ⊢;clear hel hst hcell hac hn HL;go_enter Tryz.func178,Tryz.ntmps178;go_wp2;go_loop [8] (fun i=>∃k:Nat,k≤n∧i=.int .i64 k∧Hid ((l.take k).any (fun y=>decide (x=y))=false)) (fun i=>n- (intOf i).toNat)
 case atStart=>exact⟨0,Nat.zero_le _,rfl,rfl⟩
 case round=>
  obtain⟨k,hk,rfl,hno⟩:=hrel;by_cases hlt:k<n
  ·obtain ⟨b,o,rfl,hc⟩:=HCE.out k hlt
   have HS:=bC (HST.out k hlt);have hkl:(k:Int)<(n:Int):=by omega
   generalize l.getD k 0=y at*;by_cases hx:x=y
   ·have d:(x==y)=true:=by rw[beq_iff_eq];exact hx
    have HF:Hid (V=true):=by
     show _=_;rw[←hV.out];refine List.any_eq_true.2 ⟨y,?_,decide_eq_true hx⟩;have:y∈l.take (k+1):=by rw[HS.out];simp
     exact List.mem_of_mem_take this
    clear hx;go_wp2;go_ret;exact⟨⟨k,rfl,⟨fun _=>HF.out,fun _=>Int.natCast_nonneg _⟩⟩,rfl⟩
   ·have d:(x==y)=false:=by rw[beq_eq_false_iff_ne];exact hx
    have HN:Hid ((l.take (k+1)).any (fun y=>decide (x=y))=false):=by
     show _=_;rw[HS.out,List.any_append,hno.out];simp [hx]
    clear hx;go_wp2;go_round
    case rel=>exact⟨k+1,by omega,by go_num,HN⟩
    case measure=>simp [intOf];omega
  ·obtain rfl:k=n:=by omega
   have HF:Hid (V=false):=by
    have h1:=hno.out;rw[HFIN.out] at h1;show _=_;rw[←hV.out,h1]
   go_wp2;go_ret;exact⟨⟨-1,rfl,⟨fun h=>absurd h (by decide),fun h=>by rw[HF.out] at h;cases h⟩⟩,rfl⟩
theorem contI_any (v:Value) (l:List Int) (x:Int) (w:World) (hl:Ns w v l) (V:Bool) (hV:Hid (l.any (fun y=>decide (x=y))=V)):
  Calls Tryz.prog 148 #[v,.int .i64 x] w fun r w'=>r=.returned (.bool V)∧w=w':=by
 have HI:=bC (idxI_any v l x w hl V hV);obtain⟨⟨a,c,rfl,_⟩,_⟩:=hl;clear hV;go_enter Tryz.func148,Tryz.ntmps148;go_wp2_with fail;refine HI.out.mono ?_;rintro r w1 ⟨⟨i,rfl,hi⟩,rfl⟩;have HV:Hid (decide (0≤i)=V):=by
  show _=_;cases V with
  |true=>exact decide_eq_true (hi.2 rfl)
  |false=>exact decide_eq_false (fun h=>by cases hi.1 h)
 clear hi;go_wp2;go_ret;exact⟨bO HV.out,rfl⟩
def baudL:List Int:=[1200,2400,4800,9600,19200,38400,57600,115200]
structure Okset (b p:Int):Prop where
 mem:b∈baudL
 lo:0≤p
 hi:p≤2
theorem Okset.bd {b p:Int} (h:Okset b p):1200≤b∧b≤115200:=by
 have:=h.mem;simp [baudL] at this;omega
theorem bauds_any (w:World):Calls Tryz.prog 153 #[] w fun r w'=>(∃a n c,r=.returned (.slice a n c)∧Ns w' (.slice a n c) baudL)∧Below w.heap.size w w':=by
 go_enter Tryz.func153,Tryz.ntmps153;go_wp2;go_ret;refine⟨⟨_,_,_,rfl,⟨_,8,rfl,by decide,by unfold maxLen;exact Nat.le_of_ble_eq_true rfl,(fun h=>by cases h),fun _=>⟨w.heap.size,0,rfl,fun i hi=>?_⟩⟩,?_⟩,bH w _⟩
 ·rw [bA (bI w _)]
  have:i<8:=hi;rcases (show i=0∨i=1∨i=2∨i=3∨i=4∨i=5∨i=6∨i=7 by omega) with rfl|rfl|rfl|rfl|rfl|rfl|rfl|rfl<;>rfl
 ·intro n hn
  simp [baudL] at hn;rcases hn with rfl|rfl|rfl|rfl|rfl|rfl|rfl|rfl<;>rfl
theorem svalid_ok (b p:Int) (h:Okset b p) (w:World):
  Calls Tryz.prog 120 #[.agg #[.int .i64 b,.int .i64 p]] w fun r w'=>r=.returned (.bool true)∧Below w.heap.size w w':=by
 have HV:Hid (baudL.any (fun y=>decide (b=y))=true):=List.any_eq_true.2 ⟨b,h.mem,decide_eq_true rfl⟩;obtain⟨W0,hW0⟩:∃W,w.alloc (.cells #[.int .i64 b,.int .i64 p] 61)=W:=⟨_,rfl⟩
 have g0:W0.heap[w.heap.size]?=some (.cells #[.int .i64 b,.int .i64 p] 61):=by rw[←hW0];exact bI w _
 have HB:Hid (Below w.heap.size w W0):=by show Below _ _ _;rw[←hW0];exact bH w _
 have c0:=cF g0 0 rfl;have c1:=cF g0 1 rfl;have d1:decide (0≤p)=true:=decide_eq_true h.lo;have d2:decide (p≤2)=true:=decide_eq_true h.hi;have kD:Below W0.heap.size W0 W0.drew:=(Below.refl _ _).drew;have HW0:=bC hW0;clear h g0 hW0;go_enter Tryz.func120,Tryz.ntmps120;go_wp2_with fail;rw[HW0.out];go_region_held3 (fun W=>Below W0.heap.size W0 W) ((with_reducible (first|exact kD|exact bU kD hb2|assumption))) (first|(go_at_call 153;(with_reducible refine(bauds_any _).mono ?_);rintro r w2 ⟨⟨a2,n2,c2,rfl,hN⟩,hb2⟩)|(go_at_call 148;(with_reducible refine(contI_any _ _ _ _ hN true HV).mono ?_);rintro r w3 ⟨rfl,rfl⟩));go_wp2;go_ret;exact⟨rfl,bU HB.out (bU kD hb2)⟩
def upI (a b:Int):Int:=(a+b-1)/b
theorem up_any (a b:Int) (h1:1≤b) (h2:b≤115200) (h3:0≤a) (h4:a≤38500000) (w:World):
  Calls Tryz.prog 158 #[.int .i64 a,.int .i64 b] w fun r w'=>r=.returned (.int .i64 (upI a b))∧w=w':=by
 go_enter Tryz.func158,Tryz.ntmps158;go_wp2;go_ret;exact⟨rfl,rfl⟩
def charT (b:Int):Int:=upI 11000000 b
def t15T (b:Int):Int:=if 19200<b then 750 else upI 16500000 b
def t35T (b:Int):Int:=if 19200<b then 1750 else upI 38500000 b
theorem time_bd {b p:Int} (h:Okset b p):96≤charT b∧charT b≤9167∧750≤t15T b∧t15T b≤13750∧1750≤t35T b∧t35T b≤32084:=by
 have:=h.mem;simp [baudL] at this;rcases this with rfl|rfl|rfl|rfl|rfl|rfl|rfl|rfl<;>decide
theorem char_ok (b p:Int) (h:Hid (Okset b p)) (w:World):
  Calls Tryz.prog 128 #[.agg #[.int .i64 b,.int .i64 p]] w fun r w'=>r=.returned (.int .i64 (charT b))∧Below w.heap.size w w':=by
 have HU:Hid (∀W,Calls Tryz.prog 158 #[.int .i64 11000000,.int .i64 b] W fun r w'=>r=.returned (.int .i64 (charT b))∧W=w'):=fun W=>up_any _ b (by have:=h.out.bd;omega) (by have:=h.out.bd;omega) (by decide) (by decide) W
 go_enter Tryz.func128,Tryz.ntmps128;go_wp2_with (first|(go_at_call 120;(with_reducible refine(svalid_ok b p h.out _).mono ?_);rintro r w1 ⟨rfl,hb1⟩;have y0:=bA (bB (bI w _) hb1) 0)|(go_at_call 158;(with_reducible refine(HU.out _).mono ?_);rintro r w2 ⟨rfl,rfl⟩));go_ret;exact⟨rfl,bU (bH w _) hb1⟩
theorem z03_1 {p:Prop} (h:p:=by
 go_wp2_with (first|(go_at_call 120;(with_reducible refine(svalid_ok b p h.out _).mono ?_);rintro r w1 ⟨rfl,hb1⟩;have y0:=bA (bB (bI w _) hb1) 0)|(go_at_call 158;(with_reducible refine(HU.out _).mono ?_);rintro r w2 ⟨rfl,rfl⟩))
 go_ret
 exact⟨by rw[HT.out];rfl,bU (bH w _) hb1⟩):p:=h
theorem t35_ok (b p:Int) (h:Hid (Okset b p)) (w:World):
  Calls Tryz.prog 125 #[.agg #[.int .i64 b,.int .i64 p]] w fun r w'=>r=.returned (.int .i64 (t35T b))∧Below w.heap.size w w':=by
 by_cases hs:19200<b
 ·have HT:Hid (t35T b=1750):=if_pos hs
  go_enter Tryz.func125,Tryz.ntmps125;go_wp2_with (first|(go_at_call 120;(with_reducible refine(svalid_ok b p h.out _).mono ?_);rintro r w1 ⟨rfl,hb1⟩;have y0:=bA (bB (bI w _) hb1) 0)|fail);go_ret;exact⟨by rw[HT.out];rfl,bU (bH w _) hb1⟩
 ·have HT:Hid (t35T b=upI 38500000 b):=if_neg hs
  have HU:Hid (∀W,Calls Tryz.prog 158 #[.int .i64 38500000,.int .i64 b] W fun r w'=>r=.returned (.int .i64 (upI 38500000 b))∧W=w'):=fun W=>up_any _ b (by have:=h.out.bd;omega) (by have:=h.out.bd;omega) (by decide) (by decide) W
  go_enter Tryz.func125,Tryz.ntmps125;exact z03_1
theorem t15_ok (b p:Int) (h:Hid (Okset b p)) (w:World):
  Calls Tryz.prog 165 #[.agg #[.int .i64 b,.int .i64 p]] w fun r w'=>r=.returned (.int .i64 (t15T b))∧Below w.heap.size w w':=by
 by_cases hs:19200<b
 ·have HT:Hid (t15T b=750):=if_pos hs
  go_enter Tryz.func165,Tryz.ntmps165;go_wp2_with (first|(go_at_call 120;(with_reducible refine(svalid_ok b p h.out _).mono ?_);rintro r w1 ⟨rfl,hb1⟩;have y0:=bA (bB (bI w _) hb1) 0)|fail);go_ret;exact⟨by rw[HT.out];rfl,bU (bH w _) hb1⟩
 ·have HT:Hid (t15T b=upI 16500000 b):=if_neg hs
  have HU:Hid (∀W,Calls Tryz.prog 158 #[.int .i64 16500000,.int .i64 b] W fun r w'=>r=.returned (.int .i64 (upI 16500000 b))∧W=w'):=fun W=>up_any _ b (by have:=h.out.bd;omega) (by have:=h.out.bd;omega) (by decide) (by decide) W
  go_enter Tryz.func165,Tryz.ntmps165;exact z03_1
theorem tposs_ok (n:Int) (h1:0≤n) (h2:n≤5000000) (w:World):
  Calls Tryz.prog 100 #[.int .i64 n] w fun r w'=>r=.returned (.bool true)∧w=w':=by
 go_enter Tryz.func100,Tryz.ntmps100;go_wp2;go_ret;exact⟨rfl,rfl⟩
def drainT (b timeout delay:Int):Int:=2*t35T b+timeout+delay+257*charT b
theorem drain_ok (b p x y:Int) (h:Hid (Okset b p)) (hx1:0≤x) (hx2:x≤5000000) (hy1:0≤y) (hy2:y≤5000000) (w:World):
  Calls Tryz.prog 101 #[.agg #[.int .i64 b,.int .i64 p],.int .i64 x,.int .i64 y] w fun r w'=>r=.returned (.int .i64 (drainT b x y))∧Below w.heap.size w w':=by
 obtain⟨t1,t2,_,_,t5,t6⟩:=time_bd h.out;obtain⟨C,hC⟩:=gE (charT b);obtain⟨T,hT⟩:=gE (t35T b);have HCH:Hid (∀W,Calls Tryz.prog 128 #[.agg #[.int .i64 b,.int .i64 p]] W fun r w'=>r=.returned (.int .i64 C)∧Below W.heap.size W w'):=fun W=>by rw[←hC];exact char_ok b p h W
 have HT3:Hid (∀W,Calls Tryz.prog 125 #[.agg #[.int .i64 b,.int .i64 p]] W fun r w'=>r=.returned (.int .i64 T)∧Below W.heap.size W w'):=fun W=>by rw[←hT];exact t35_ok b p h W
 have HD:Hid (drainT b x y=2*T+x+y+257*C):=by show _=_;rw[←hC,←hT];rfl
 rw[hC] at t1 t2;rw[hT] at t5 t6;have s1:IntKind.i64.wrap (2*T)=2*T:=IntWalk.i64_in _ (by omega);have s2:IntKind.i64.wrap (2*T+x)=2*T+x:=IntWalk.i64_in _ (by omega);have s3:IntKind.i64.wrap (2*T+x+y)=2*T+x+y:=IntWalk.i64_in _ (by omega);have s4:IntKind.i64.wrap (257*C)=257*C:=IntWalk.i64_in _ (by omega);have s5:IntKind.i64.wrap (2*T+x+y+257*C)=2*T+x+y+257*C:=IntWalk.i64_in _ (by omega);clear hC hT;go_enter Tryz.func101,Tryz.ntmps101;go_wp2_with (first|(go_at_call 120;(with_reducible refine(svalid_ok b p h.out _).mono ?_);rintro r w1 ⟨rfl,hb1⟩;have g0:=bB (bI w _) hb1)|(go_at_call 100;(with_reducible refine(tposs_ok x hx1 hx2 _).mono ?_);rintro r w2 ⟨rfl,rfl⟩)|(go_at_call 100;(with_reducible refine(tposs_ok y hy1 hy2 _).mono ?_);rintro r w2 ⟨rfl,rfl⟩));have c0:∀W,Below w1.heap.size w1 W→W.cell? ⟨w.heap.size,0,none⟩=some (.int .i64 b):=fun W hW=>bA (bB g0 hW) 0
 have c1:∀W,Below w1.heap.size w1 W→W.cell? ⟨w.heap.size,1,none⟩=some (.int .i64 p):=fun W hW=>bA (bB g0 hW) 1
 have kD:Below w1.heap.size w1 w1.drew:=(Below.refl _ _).drew;have hbw1:=bU (bH w _) hb1;clear g0 hb1;go_region_held3 (fun W=>Below w1.heap.size w1 W) ((first|exact kD|exact bU (by assumption) hb5|exact bU (by assumption) hb4)) (first|(go_at_call 128;(with_reducible refine(HCH.out _).mono ?_);rintro r w4 ⟨rfl,hb4⟩)|(go_at_call 125;(with_reducible refine(HT3.out _).mono ?_);rintro r w5 ⟨rfl,hb5⟩))
 all_goals
  go_wp2;go_ret;refine⟨by rw[HD.out];rfl,?_⟩
  first|exact bU hbw1 (bU (bU kD hb5) hb4)|exact bU hbw1 (bU (bU kD hb4) hb5)
theorem within_any (n a b:Int) (w:World) (V:Bool) (hV:Hid ((decide (a≤n)&&decide (n≤b))=V)):
  Calls Tryz.prog 104 #[.int .i64 n,.int .i64 a,.int .i64 b] w fun r w'=>r=.returned (.bool V)∧w=w':=by
 have hV0:=hV.out;by_cases h:a≤n
 ·have d1:decide (a≤n)=true:=decide_eq_true h
  rw[d1,Bool.true_and] at hV0;have HV:=bC hV0;clear hV0 hV h;go_enter Tryz.func104,Tryz.ntmps104;go_wp2;go_ret;exact⟨bO HV.out,rfl⟩
 ·have d1:decide (a≤n)=false:=decide_eq_false h
  rw[d1,Bool.false_and] at hV0;subst hV0;clear hV h;go_enter Tryz.func104,Tryz.ntmps104;go_wp2;go_ret;exact⟨rfl,rfl⟩
theorem rbauds_any (w:World):Calls Tryz.prog 173 #[] w fun r w'=>(∃b c,r=.returned (.slice (some ⟨b,0,none⟩) 8 c)∧8≤c∧∀i,i<8→w'.cell? ⟨b,i,none⟩=some (.int .i64 (baudL.getD i 0)))∧Below w.heap.size w w':=by
 go_enter Tryz.func173,Tryz.ntmps173;go_wp2;go_ret;refine⟨⟨w.heap.size,_,rfl,Nat.le_refl _,fun i hi=>?_⟩,bH w _⟩;rw[bA (bI w _)];rcases (show i=0∨i=1∨i=2∨i=3∨i=4∨i=5∨i=6∨i=7 by omega) with rfl|rfl|rfl|rfl|rfl|rfl|rfl|rfl<;>rfl
def allS:List (Int×Int):=baudL.flatMap fun b=>[(b,0),(b,1),(b,2)]
def setV:List (Int×Int)→List Value
 |[]=>[]
 |x::l=>.int .i64 x.1::.int .i64 x.2::setV l
theorem setV_append (l k:List (Int×Int)):setV (l++k)=setV l++setV k:=by
 induction l with
 |nil=>rfl
 |cons x l ih=>simp [setV,ih]
theorem setV_length (l:List (Int×Int)):(setV l).length=l.length*2:=by
 induction l with
 |nil=>rfl
 |cons x l ih=>simp [setV,ih];omega
theorem setV_get:∀(l:List (Int×Int)) (i:Nat) (x:Int×Int),l[i]?=some x→(setV l)[i*2]?=some (.int .i64 x.1)∧(setV l)[i*2+1]?=some (.int .i64 x.2)
 |[],i,x,h=>by simp at h
 |y::l,0,x,h=>by
  simp at h;subst h;exact⟨rfl,rfl⟩
 |y::l,i+1,x,h=>by
  have:=setV_get l i x (by simpa using h);rw[show (i+1)*2=i*2+2 by omega];exact this
theorem allS_len:allS.length=24:=by decide
theorem allS_step:∀k,k<8→∀q,q<3→allS.take (3*k+q+1)=allS.take (3*k+q)++[(baudL.getD k 0,(q:Int))]:=by decide
theorem allS_ok {x:Int×Int} (h:x∈allS):Okset x.1 x.2:=by
 have h2:∀x∈allS,x.1∈baudL∧0≤x.2∧x.2≤2:=by decide
 exact⟨(h2 x h).1,(h2 x h).2.1,(h2 x h).2.2⟩
theorem allS_mem {b p:Int} (h:Okset b p):(b,p)∈allS:=by
 have h1:=h.mem;have hp:p=0∨p=1∨p=2:=by have:=h.lo;have:=h.hi;omega
 simp [baudL] at h1;rcases h1 with rfl|rfl|rfl|rfl|rfl|rfl|rfl|rfl<;>rcases hp with rfl|rfl|rfl<;>decide
theorem infoS:(Tryz.prog.info? 61).map (fun i=>(i.zero,i.size,i.bytes))=some (some (.agg #[.int .i64 0,.int .i64 0]),2,16):=by kernel_rfl
def AllPost (w:World) (r:Ending) (w':World):Prop:=∃v,r=.returned v∧w'.ownsRow w.heap.size 61 2 v 24 (setV allS)∧Below w.heap.size w w'
theorem rall_any (w:World):Calls Tryz.prog 141 #[] w (AllPost w):=by
 obtain⟨i5,hi,hz0,hz1,hz2⟩:=info_parts infoS;go_enter Tryz.func141,Tryz.ntmps141;go_wp2_with fail;refine(rbauds_any w).mono ?_;rintro r w1 ⟨⟨b,c,rfl,hc8,hcell⟩,hb1⟩;have HC:=bC hcell;clear hcell;have hs1:=hb1.size;go_wp2;go_loopw [1,3,4] (fun v i _ wr=>∃k:Nat,k≤8∧i=.int .i64 k∧wr.ownsRow w1.heap.size 61 2 v (3*k) (setV (allS.take (3*k)))∧Below w1.heap.size w1 wr) (fun _ i _ _=>8- (intOf i).toNat)
 case atStart=>exact⟨0,by omega,rfl,World.ownsRow_nil _ _ _ _,Below.refl _ _⟩
 case round=>
  obtain⟨k,hk,rfl,hown,hbr⟩:=hrel;by_cases hlt:k<8
  ·have hkl:(k:Int)<8:=by omega
   have HO:=bC hown;clear hown;obtain⟨wo,rfl⟩:∃wo:World,wo=wr:=⟨_,rfl⟩
   go_wp2;go_loopw [1,4] (fun v q wr=>∃j:Nat,j≤3∧q=.int .i64 j∧wr.ownsRow w1.heap.size 61 2 v (3*k+j) (setV (allS.take (3*k+j)))∧Below w1.heap.size w1 wr) (fun _ q _=>3- (intOf q).toNat)
   case atStart=>exact⟨0,by omega,rfl,HO.out,hbr⟩
   case round=>
    obtain⟨j,hj,rfl,hown,hbj⟩:=hrel;by_cases hjt:j<3
    ·have hjl:(j:Int)<3:=by omega
     have hcb:=bD hbj (HC.out k hlt);have HS:=bC (allS_step k hlt j hjt);have hsz:=hbj.size;generalize hE:baudL.getD k 0=bd at*;go_wp2_with (at_builtin;refine bZ rfl _ _ 22 rfl w1.heap.size 61 i5 _ 2 16 Tryz.underlying22 hi hz0 hz1 hz2 rfl (by decide) _ (3*k+j) _ rfl (hown.alloc _) ⟨wr.heap.size,0,none⟩ 1 1 [.int .i64 bd,.int .i64 (j:Int)] rfl rfl (newsNew wr [.int .i64 bd,.int .i64 (j:Int)] _) (by intro u hu;simp at hu;rcases hu with rfl|rfl<;>rfl) (by unfold maxLen;omega) (by omega) (by simp;omega) ?c1)
     case c1=>
      intro v' w2 hown2 hgr _;have hbel:Below w1.heap.size w1 w2:=(cJ hbj (Nat.le_refl _) _).grown hgr (cJ hbj (Nat.le_refl _) _).size (fun k hk=>(hown.lt k hk).1);have HO2:Hid (w2.ownsRow w1.heap.size 61 2 v' (3*k+(j+1)) (setV (allS.take (3*k+(j+1))))):=by
       rw[←Nat.add_assoc,HS.out,setV_append];exact hown2
      clear hown2 hgr;go_wp2;go_roundw
      case rel=>exact⟨j+1,by omega,by go_num,HO2.out,hbel⟩
      case measure=>simp [intOf];omega
    ·obtain rfl:j=3:=by omega
     have HO2:=bC hown;clear hown;go_wp2;go_roundw
     case rel=>exact⟨k+1,by omega,by go_num,HO2.out,hbj⟩
     case measure=>simp [intOf];omega
  ·obtain rfl:k=8:=by omega
   go_wp2;go_ret;refine⟨_,rfl,bQ hown hs1,bU hb1 hbr⟩
theorem own_setting {w:World} {base:Nat} {E:TypeId} {v:Value} {n:Nat} {l:List (Int×Int)} (h:w.ownsRow base E 2 v n (setV l)) (hl:l≠[]):∃g c,v=.slice (some ⟨g,0,none⟩) n c∧n≤c∧c≤maxLen∧∀i x,l[i]?=some x→w.cell? ⟨g,i*2,none⟩=some (.int .i64 x.1)∧w.cell? ⟨g,i*2+1,none⟩=some (.int .i64 x.2):=by
 obtain⟨hlen,h|⟨g,cap,cur,hv,hb,hh,hnc,hcm,hcs,ht⟩⟩:=h
 ·obtain ⟨rfl,h0⟩:=h
  rw[setV_length,h0] at hlen;exact absurd (List.eq_nil_of_length_eq_zero (by omega)) hl
 ·refine ⟨g,cap,hv,hnc,hcm,fun i x hx=>?_⟩
  have hi:=(List.getElem?_eq_some_iff.1 hx).1;have hs:=setV_length l;obtain⟨h1,h2⟩:=setV_get l i x hx;have hc:∀j,j<l.length*2→w.cell? ⟨g,j,none⟩=(setV l)[j]?:=by
   intro j hj;have:=take_get ht j (by omega);simp only[World.cell?,hh,Option.isSome_none];exact this
  exact⟨by rw[hc _ (by omega)];exact h1,by rw[hc _ (by omega)];exact h2⟩
def frameT (b:Int) (n:Nat):Int:=n*charT b
structure Tbl where
 sup:Bool
 rd:List (Int×Int)
 most:Int
structure Sl where
 bd:Int
 pa:Int
 un:Int
 ts:Nat→Tbl
 lv:Int
 objs:List Ob
 hs:Bool
 sd:List UInt8
def inR (rd:List (Int×Int)) (a:Int):Bool:=rd.any (fun r=>decide (r.1≤a)&&decide (a-r.1<r.2))
def allR (rd:List (Int×Int)) (a:Int) (n:Nat):Prop:=∀i:Nat,i<n→inR rd (a+(i:Nat))=true
theorem cellsRgs:Tryz.prog.cellsOf 63=1:=by kernel_rfl
theorem cellsRg:Tryz.prog.cellsOf 24=2:=by kernel_rfl
theorem cellsTb:Tryz.prog.cellsOf 65=3:=by kernel_rfl
theorem cellsTb4:Tryz.prog.cellsOf 66=12:=by kernel_rfl
theorem cellsSt:Tryz.prog.cellsOf 61=2:=by kernel_rfl
theorem cellsSl:Tryz.prog.cellsOf 68=19:=by kernel_rfl
def RgR (_:World) (cs:List Value) (x:Int×Int):Prop:=cs=[.int .i64 x.1,.int .i64 x.2]∧wfI x.1∧wfI x.2
def Rgs (w:World) (v:Value) (l:List (Int×Int)):Prop:=Sls 2 RgR w v l
theorem Rgs.keep {w w':World} {v:Value} {l:List (Int×Int)} (h:Rgs w v l) (hb:Below w.heap.size w w'):Rgs w' v l:=Sls.keep (fun _ _ _ _ h _=>h) h hb
theorem int_rd {w:World} {v:Value} (h:Rd Tryz.prog w 3 [v]):∃n:Int,v=.int .i64 n∧wfI n:=by
 obtain⟨n,e,hw⟩:=Rd.int Tryz.underlying3 h;simp only[List.cons.injEq,and_true] at e;have hb:=bounds_i64 hw;exact⟨n,e,by unfold wfI;omega⟩
theorem bool_rd {w:World} {v:Value} (h:Rd Tryz.prog w 4 [v]):∃b:Bool,v=.bool b:=by
 obtain⟨b,e⟩:=Rd.bool Tryz.underlying4 h;simp only[List.cons.injEq,and_true] at e;exact⟨b,e⟩
theorem rg_rd {w:World} {cs:List Value} (h:Rd Tryz.prog w 24 cs):∃x,RgR w cs x:=by
 obtain⟨hl,hf⟩:=h.struct Tryz.underlying24;rw[cellsRg] at hl;obtain⟨c0,c1,rfl⟩:=lst2 hl;have f0:=hf _ (List.mem_cons_self ..);have f1:=hf _ (List.mem_cons_of_mem _ (List.mem_cons_self ..));simp only[cellsInt,List.drop_zero,List.drop_succ_cons,List.take_succ_cons,List.take_zero] at f0 f1;obtain⟨a,rfl,w0⟩:=int_rd f0;obtain⟨b,rfl,w1⟩:=int_rd f1;exact⟨(a,b),rfl,w0,w1⟩
theorem rgs_rd {w:World} {v:Value} (h:Rd Tryz.prog w 63 [v]):∃l,Rgs w v l:=
 Sls.of_rd (R:=RgR) Tryz.underlying63 cellsRg (by decide) (fun _ h=>rg_rd h) h
theorem lst3 {α:Type} {l:List α} (h:l.length=3):∃a b c,l=[a,b,c]:=by
 match l,h with
 |[a,b,c],_=>exact⟨a,b,c,rfl⟩
theorem lst19 {α:Type} {l:List α} (h:l.length=19):∃a b c d e f g i j k m n o p q r s t u,l=[a,b,c,d,e,f,g,i,j,k,m,n,o,p,q,r,s,t,u]:=by
 match l,h with
 |[a,b,c,d,e,f,g,i,j,k,m,n,o,p,q,r,s,t,u],_=>exact⟨a,b,c,d,e,f,g,i,j,k,m,n,o,p,q,r,s,t,u,rfl⟩
theorem tb_rd {w:World} {cs:List Value} (h:Rd Tryz.prog w 65 cs):∃(t:Tbl) (v:Value),cs=[.bool t.sup,v,.int .i64 t.most]∧Rgs w v t.rd∧wfI t.most:=by
 obtain⟨hl,hf⟩:=h.struct Tryz.underlying65;rw[cellsTb] at hl;obtain⟨c0,c1,c2,rfl⟩:=lst3 hl;have f0:=hf _ (List.mem_cons_self ..);have f1:=hf _ (List.mem_cons_of_mem _ (List.mem_cons_self ..));have f2:=hf _ (List.mem_cons_of_mem _ (List.mem_cons_of_mem _ (List.mem_cons_self ..)));simp only[cellsInt,cellsBool,cellsRgs,List.drop_zero,List.drop_succ_cons,List.take_succ_cons,List.take_zero] at f0 f1 f2;obtain⟨a,rfl⟩:=bool_rd f0;obtain⟨l,hr⟩:=rgs_rd f1;obtain⟨b,rfl,w1⟩:=int_rd f2;exact⟨⟨a,l,b⟩,c1,rfl,hr,w1⟩
def SlC (s:Sl) (rv:Nat→Value) (ov sv:Value):Array Value:=
 #[.int .i64 s.bd,.int .i64 s.pa,.int .i64 s.un,.bool (s.ts 0).sup,rv 0,.int .i64 (s.ts 0).most,.bool (s.ts 1).sup,rv 1,.int .i64 (s.ts 1).most,.bool (s.ts 2).sup,rv 2,.int .i64 (s.ts 2).most,.bool (s.ts 3).sup,rv 3,.int .i64 (s.ts 3).most,.int .i64 s.lv,ov,.bool s.hs,sv]
structure SlR (w:World) (s:Sl) (rv:Nat→Value) (ov sv:Value):Prop where
 rg:∀k,k<4→Rgs w (rv k) (s.ts k).rd
 ob:Obs w ov s.objs
 sd:Bs w sv s.sd
 mo:∀k,k<4→wfI (s.ts k).most
 un:wfI s.un
 lv:wfI s.lv
 bd:wfI s.bd
 pa:wfI s.pa
theorem SlR.keep {w w':World} {s:Sl} {rv:Nat→Value} {ov sv:Value} (h:SlR w s rv ov sv) (hb:Below w.heap.size w w'):SlR w' s rv ov sv:=
 ⟨fun k hk=>(h.rg k hk).keep hb,h.ob.keep hb,h.sd.keep hb,h.mo,h.un,h.lv,h.bd,h.pa⟩
def mk4 {α:Type} (a b c d:α):Nat→α
 |0=>a
 |1=>b
 |2=>c
 |_=>d
theorem sl_rd {w:World} {cs:Array Value} (h:Rd Tryz.prog w 68 cs.toList):∃s rv ov sv,cs=SlC s rv ov sv∧SlR w s rv ov sv:=by
 obtain⟨hl,hf⟩:=h.struct Tryz.underlying68;rw[cellsSl] at hl;obtain⟨cl⟩:=cs;obtain⟨c0,c1,c2,c3,c4,c5,c6,c7,c8,c9,c10,c11,c12,c13,c14,c15,c16,c17,c18,rfl⟩:=lst19 hl;have f0:=hf _ (List.mem_cons_self ..);have f1:=hf _ (List.mem_cons_of_mem _ (List.mem_cons_self ..));have f2:=hf _ (List.mem_cons_of_mem _ (List.mem_cons_of_mem _ (List.mem_cons_self ..)));have f3:=hf _ (List.mem_cons_of_mem _ (List.mem_cons_of_mem _ (List.mem_cons_of_mem _ (List.mem_cons_self ..))));have f4:=hf _ (List.mem_cons_of_mem _ (List.mem_cons_of_mem _ (List.mem_cons_of_mem _ (List.mem_cons_of_mem _ (List.mem_cons_self ..)))));have f5:=hf _ (List.mem_cons_of_mem _ (List.mem_cons_of_mem _ (List.mem_cons_of_mem _ (List.mem_cons_of_mem _ (List.mem_cons_of_mem _ (List.mem_cons_self ..))))));have f6:=hf _ (List.mem_cons_of_mem _ (List.mem_cons_of_mem _ (List.mem_cons_of_mem _ (List.mem_cons_of_mem _ (List.mem_cons_of_mem _ (List.mem_cons_of_mem _ (List.mem_cons_self ..)))))));simp only[cellsInt,cellsBool,cellsBytes,cellsObs,cellsSt,cellsTb4,List.drop_zero,List.drop_succ_cons,List.take_succ_cons,List.take_zero] at f0 f1 f2 f3 f4 f5 f6;obtain⟨hl0,g0⟩:=f0.struct Tryz.underlying61;have s0:=g0 _ (List.mem_cons_self ..);have s1:=g0 _ (List.mem_cons_of_mem _ (List.mem_cons_self ..));simp only[cellsInt,List.drop_zero,List.drop_succ_cons,List.take_succ_cons,List.take_zero] at s0 s1;obtain⟨b0,rfl,w0⟩:=int_rd s0;obtain⟨b1,rfl,w1⟩:=int_rd s1;obtain⟨b2,rfl,w2⟩:=int_rd f1;obtain⟨hl2,g2⟩:=f2.array Tryz.underlying66;have t0:=g2 0 (by decide);have t1:=g2 1 (by decide);have t2:=g2 2 (by decide);have t3:=g2 3 (by decide);simp only[cellsTb,Nat.zero_mul,Nat.reduceMul,List.drop_zero,List.drop_succ_cons,List.take_succ_cons,List.take_zero] at t0 t1 t2 t3;obtain⟨x0,v0,e0,r0,m0⟩:=tb_rd t0;obtain⟨x1,v1,e1,r1,m1⟩:=tb_rd t1;obtain⟨x2,v2,e2,r2,m2⟩:=tb_rd t2;obtain⟨x3,v3,e3,r3,m3⟩:=tb_rd t3;obtain⟨b3,rfl,w3⟩:=int_rd f3;obtain⟨os,ho⟩:=Obs.of_rd f4;obtain⟨b5,rfl⟩:=bool_rd f5;obtain⟨ds,hd⟩:=Bs.of_rd Tryz.underlying50 Tryz.underlying5 cellsU8 f6;simp only[List.cons.injEq,and_true] at e0 e1 e2 e3;obtain⟨rfl,rfl,rfl⟩:=e0;obtain⟨rfl,rfl,rfl⟩:=e1;obtain⟨rfl,rfl,rfl⟩:=e2;obtain⟨rfl,rfl,rfl⟩:=e3;refine⟨⟨b0,b1,b2,mk4 x0 x1 x2 x3,b3,os,b5,ds⟩,mk4 _ _ _ _,_,_,rfl,fun k hk=>?_,ho,hd,fun k hk=>?_,w2,w3,w0,w1⟩
 ·match k,hk with
  |0,_=>exact r0
  |1,_=>exact r1
  |2,_=>exact r2
  |3,_=>exact r3
 ·match k,hk with
  |0,_=>exact m0
  |1,_=>exact m1
  |2,_=>exact m2
  |3,_=>exact m3
def rgsFrom (e:Int):List (Int×Int)→Bool
 |[]=>true
 |r::l=> !(decide (r.1≤e)||decide (r.1<0)||decide (65536≤r.1)||decide (r.2<1)||decide (65536-r.1<r.2))&&rgsFrom (r.1+r.2) l
def rgOk (e:Int) (x:Int×Int):Prop:=¬x.1≤e∧¬x.1<0∧¬65536≤x.1∧¬x.2<1∧¬65536-x.1<x.2
theorem rgsFrom_ok {e:Int} {x:Int×Int} {l:List (Int×Int)} (h:rgOk e x):rgsFrom e (x::l)=rgsFrom (x.1+x.2) l:=by
 obtain⟨h1,h2,h3,h4,h5⟩:=h;simp only[rgsFrom,decide_eq_false h1,decide_eq_false h2,decide_eq_false h3,decide_eq_false h4,decide_eq_false h5];rfl
theorem rgsFrom_bad {e:Int} {x:Int×Int} {l:List (Int×Int)} (h:¬rgOk e x):rgsFrom e (x::l)=false:=by
 cases hh:rgsFrom e (x::l) with
 |false=>rfl
 |true=>
  exfalso;simp only[rgsFrom,Bool.and_eq_true,Bool.not_eq_true',Bool.or_eq_false_iff,decide_eq_false_iff_not] at hh;obtain⟨⟨⟨⟨⟨h1,h2⟩,h3⟩,h4⟩,h5⟩,_⟩:=hh;exact h ⟨h1,h2,h3,h4,h5⟩
theorem badR {e:Int} {x:Int×Int} (h:¬rgOk e x):x.1≤e∨(¬x.1≤e∧x.1<0)∨(¬x.1≤e∧¬x.1<0∧65536≤x.1)∨(¬x.1≤e∧¬x.1<0∧¬65536≤x.1∧x.2<1)∨(¬x.1≤e∧¬x.1<0∧¬65536≤x.1∧¬x.2<1∧65536-x.1<x.2):=by
 unfold rgOk at h;omega
theorem Rgs.at {w:World} {v:Value} {l:List (Int×Int)} (h:Rgs w v l) {k:Nat} {x:Int×Int} (hx:l[k]?=some x):
  ∃b o c,v=.slice (some ⟨b,o,none⟩) l.length c∧wfI x.1∧wfI x.2∧∀W,Below w.heap.size w W→W.cell? ⟨b,o+k*2,none⟩=some (.int .i64 x.1)∧W.cell? ⟨b,o+k*2+1,none⟩=some (.int .i64 x.2):=by
 obtain⟨a,c,rfl,h1,h2,h3,h4⟩:=h;obtain⟨b,o,rfl,hel⟩:=h4 (by rintro rfl;simp at hx);obtain⟨r,hr,⟨rfl,w1,w2⟩,hc⟩:=hel k x hx;exact⟨b,o,c,rfl,w1,w2,fun W hW=>⟨bD hW (hc 0 _ rfl),bD hW (hc 1 _ rfl)⟩⟩
theorem rgs_valid (v:Value) (l:List (Int×Int)) (w:World) (hl:Rgs w v l) (V:Bool) (hV:Hid (rgsFrom (-1) l=V)):
  Calls Tryz.prog 94 #[v] w (BoolPost w V):=by
 have HL:=bC hl;obtain⟨a,c,rfl,hnc,hcm,-⟩:=id hl;obtain⟨n,hn⟩:=gE l.length;have HN:=bC hn;rw[hn] at hnc ⊢;clear hl hn;go_enter Tryz.func94,Tryz.ntmps94;go_wp2_with fail;go_loopw [3,4] (fun ev iv wr=>∃(k:Nat) (e:Int),k≤n∧ev=.int .i64 e∧iv=.int .i64 (k:Int)∧-1≤e∧e≤65536∧Hid (rgsFrom e (l.drop k)=V)∧Below w.heap.size w wr) (fun _ iv _=>n- (intOf iv).toNat)
 case atStart=>exact⟨0,-1,Nat.zero_le _,rfl,rfl,by decide,by decide,hV.out,Below.refl _ _⟩
 case round=>
  obtain⟨k,e,hk,rfl,rfl,he0,he1,hv,hbw⟩:=hrel;have hki:(0:Int)≤(k:Int):=Int.natCast_nonneg _;have hnn:n≤9223372036854775807:=by unfold maxLen at hcm;omega
  by_cases hlt:k<n
  ·obtain ⟨x,hx⟩:=gs (l:=l) HN.out hlt
   obtain⟨b,o,c',hv',w1,w2,hcl⟩:=HL.out.at hx;rw[HN.out] at hv';simp only[Value.slice.injEq,true_and] at hv';obtain⟨rfl,rfl⟩:=hv';have hkl:(k:Int)<(n:Int):=by omega
   obtain⟨y0,y1⟩:=hcl wr hbw;have hdr:l.drop k=x::l.drop (k+1):=by
    rw[List.drop_eq_getElem_cons (by have:=HN.out;omega)];congr 1;rw[List.getElem?_eq_getElem (by have:=HN.out;omega)] at hx;exact Option.some.inj hx
   have hve:=hv.out;rw[hdr] at hve;obtain⟨xf,xc⟩:=x;dsimp only at y0 y1 w1 w2;by_cases hg:rgOk e (xf,xc)
   ·rw [rgsFrom_ok hg] at hve
    obtain⟨h1,h2,h3,h4,h5⟩:=hg;dsimp only at h1 h2 h3 h4 h5 hve;have a1:decide (xf≤e)=false:=decide_eq_false h1;have a2:decide (xf<0)=false:=decide_eq_false h2;have a3:decide (65536≤xf)=false:=decide_eq_false h3;have a4:decide (xc<1)=false:=decide_eq_false h4;obtain⟨f,hf⟩:∃f,65536-xf=f:=⟨_,rfl⟩
    have a5:decide (f<xc)=false:=decide_eq_false (by omega);have s1:IntKind.i64.wrap (65536-xf)=f:=(IntWalk.i64_in _ (by omega)).trans hf;obtain⟨e2,he2⟩:∃e,xf+xc=e:=⟨_,rfl⟩
    have s2:IntKind.i64.wrap (xf+xc)=e2:=(IntWalk.i64_in _ (by omega)).trans he2;have hb2: -1≤e2∧e2≤65536:=by omega
    rw[he2] at hve;have HVE:=bC hve;clear h1 h2 h3 h4 h5 hf he2 hve hv hx hdr hcl w1 w2;go_upto_region 5 with(fail)
    go_quiet (fail);have hbq:Below w.heap.size w (wr.drewN nq):=below_drewN hbw _;have y0':(wr.drewN nq).cell? ⟨b,o+k*2,none⟩=some (.int .i64 xf):=bD (below_drewN (Below.refl _ _) _) y0;have y1':(wr.drewN nq).cell? ⟨b,o+k*2+1,none⟩=some (.int .i64 xc):=bD (below_drewN (Below.refl _ _) _) y1;generalize wr.drewN nq=wq at*;go_upto_region 7 with(fail)
    go_quiet (fail);go_wp2;go_roundw
    case rel=>exact⟨k+1,e2,by omega,rfl,by go_num,hb2.1,hb2.2,HVE.out,below_drewN hbq _⟩
    case measure=>simp [intOf];omega
   ·rw [rgsFrom_bad hg] at hve
    have HV:Hid (V=false):=hve.symm;have hb:=badR hg;dsimp only at hb;clear hg hve hv hx hdr hcl;rcases hb with h1|⟨h1,h2⟩|⟨h1,h2,h3⟩|⟨h1,h2,h3,h4⟩|⟨h1,h2,h3,h4,h5⟩
    ·have a1:decide (xf≤e)=true:=decide_eq_true h1
     clear h1;go_upto_region 5 with(fail);go_quiet (fail);go_wp2;go_ret;exact⟨bO HV.out.symm,below_drewN hbw _⟩
    ·have a1:decide (xf≤e)=false:=decide_eq_false h1
     have a2:decide (xf<0)=true:=decide_eq_true h2;clear h1 h2;go_upto_region 5 with(fail);go_quiet (fail);go_wp2;go_ret;exact⟨bO HV.out.symm,below_drewN hbw _⟩
    ·have a1:decide (xf≤e)=false:=decide_eq_false h1
     have a2:decide (xf<0)=false:=decide_eq_false h2;have a3:decide (65536≤xf)=true:=decide_eq_true h3;clear h1 h2 h3;go_upto_region 5 with(fail);go_quiet (fail);go_wp2;go_ret;exact⟨bO HV.out.symm,below_drewN hbw _⟩
    ·have a1:decide (xf≤e)=false:=decide_eq_false h1
     have a2:decide (xf<0)=false:=decide_eq_false h2;have a3:decide (65536≤xf)=false:=decide_eq_false h3;have a4:decide (xc<1)=true:=decide_eq_true h4;clear h1 h2 h3 h4;go_upto_region 5 with(fail);go_quiet (fail);go_wp2;go_ret;exact⟨bO HV.out.symm,below_drewN hbw _⟩
    ·have a1:decide (xf≤e)=false:=decide_eq_false h1
     have a2:decide (xf<0)=false:=decide_eq_false h2;have a3:decide (65536≤xf)=false:=decide_eq_false h3;have a4:decide (xc<1)=false:=decide_eq_false h4;obtain⟨f,hf⟩:∃f,65536-xf=f:=⟨_,rfl⟩
     have a5:decide (f<xc)=true:=decide_eq_true (by omega);have s1:IntKind.i64.wrap (65536-xf)=f:=(IntWalk.i64_in _ (by omega)).trans hf;clear h1 h2 h3 h4 h5 hf;go_upto_region 5 with(fail);go_quiet (fail);go_wp2;go_ret;exact⟨bO HV.out.symm,below_drewN hbw _⟩
  ·obtain rfl:k=n:=by omega
   have HV:Hid (true=V):=by
    have h1:=hv.out;rw[List.drop_eq_nil_of_le (by rw[HN.out];exact Nat.le_refl _)] at h1;exact h1
   clear hv;go_wp2;go_ret;exact⟨bO HV.out,hbw⟩
theorem rgsFrom_mem {e:Int}:∀{l:List (Int×Int)},rgsFrom e l=true→∀x∈l,0≤x.1∧x.1<65536∧1≤x.2∧x.2≤65536-x.1
 |[],_,x,hx=>by cases hx
 |r::l,h,x,hx=>by
  by_cases hg:rgOk e r
  ·rw [rgsFrom_ok hg] at h
   rcases List.mem_cons.1 hx with rfl|hx
   ·obtain ⟨h1,h2,h3,h4,h5⟩:=hg
    omega
   ·exact rgsFrom_mem h x hx
  ·rw [rgsFrom_bad hg] at h
   cases h
def SetPost (w:World) (b p:Int) (r:Ending) (w':World):Prop:=∃V:Bool,r=.returned (.bool V)∧Hid (V=true↔Okset b p)∧Below w.heap.size w w'
theorem SetPost.mk {w w':World} {b p:Int} (V:Bool) (h:V=true↔Okset b p) (hb:Below w.heap.size w w'):SetPost w b p (.returned (.bool V)) w':=⟨V,rfl,h,hb⟩
theorem rvalid_set (b p:Int) (w:World):Calls Tryz.prog 93 #[.agg #[.int .i64 b,.int .i64 p]] w (SetPost w b p):=by
 go_enter Tryz.func93,Tryz.ntmps93;go_wp2_with fail;refine(rall_any _).mono ?_;rintro r w1 ⟨v,rfl,hown,hb1⟩;obtain⟨g,c,rfl,hnc,hcm,hel⟩:=own_setting hown (by decide);have HE:=bC hel;have q0:=bA (bB (bI w _) hb1) 0;have q1:=bA (bB (bI w _) hb1) 1;unfold maxLen at hcm;have hbw:=bU (bH w _) hb1;clear hel hown hb1;go_wp2;go_loopw [4] (fun i wr=>∃k:Nat,k≤24∧i=.int .i64 k∧Hid (∀j,j<k→allS[j]?≠some (b,p))∧∃n,wr=w1.drewN n) (fun i _=>24- (intOf i).toNat)
 case atStart=>exact⟨0,by omega,rfl,fun j hj=>absurd hj (by omega),0,rfl⟩
 case round=>
  obtain⟨k,hk,rfl,hno,nd,rfl⟩:=hrel;by_cases hlt:k<24
  ·have hkl:(k:Int)<24:=by omega
   obtain⟨x,hgx⟩:∃x,allS[k]?=some x:=⟨_,List.getElem?_eq_getElem (show k<allS.length by rw[allS_len];exact hlt)⟩
   obtain⟨e0,e1⟩:=HE.out k x hgx;have HG:=bC hgx;clear hgx;obtain⟨x1,x2⟩:=x;by_cases hx:x1=b∧x2=p
   ·obtain ⟨d1,d2⟩:(x1==b)=true∧(x2==p)=true:=⟨by rw[beq_iff_eq];exact hx.1,by rw[beq_iff_eq];exact hx.2⟩
    have HXX:=bC hx;clear hx;go_wp2;go_quiet (fail);go_wp2;go_ret;exact SetPost.mk true ⟨fun _=>by have:=allS_ok (List.mem_of_getElem? HG.out);rw[←HXX.out.1,←HXX.out.2];exact this,fun _=>rfl⟩ (below_drewN (below_drewN hbw _) _)
   ·have HN:Hid (∀j,j<k+1→allS[j]?≠some (b,p)):=by
     intro j hj e;by_cases hjk:j=k
     ·subst hjk
      rw[HG.out] at e;cases e;exact hx ⟨rfl,rfl⟩
     ·exact hno.out j (by omega) e
    rcases (show (x1==b)=false∨((x1==b)=true∧(x2==p)=false) by
     by_cases h1:x1=b
     ·exact .inr ⟨by rw[beq_iff_eq];exact h1,by rw[beq_eq_false_iff_ne];exact fun h2=>hx ⟨h1,h2⟩⟩
     ·exact .inl (by rw[beq_eq_false_iff_ne];exact h1)) with d1|⟨d1,d2⟩
    all_goals
     clear hx;go_wp2;go_quiet (fail);go_wp2;go_roundw
     case rel=>exact⟨k+1,by omega,by go_num,HN,nd+nq,rfl⟩
     case measure=>simp [intOf];omega
  ·obtain rfl:k=24:=by omega
   go_wp2;go_ret;refine SetPost.mk false ⟨fun e=>(by cases e),fun h=>?_⟩ (below_drewN hbw _);obtain⟨j,hj⟩:=List.getElem?_of_mem (allS_mem h);exact absurd hj (hno.out j (by have:=(List.getElem?_eq_some_iff.1 hj).1;rw[allS_len] at this;exact this))
abbrev bY:=@within_any
abbrev cK:=@time_bd
abbrev cM:=@int_rd
end Go.Proofs.YtoaoejaodhedaaaGreat
