import Derived.Test.YtoaoejaodhedaaaGreatQ05
namespace Go.Proofs.YtoaoejaodhedaaaGreat
open Go.RowKit
set_option maxHeartbeats 12800000
set_option maxRecDepth 100000
def okS (x:Int×Int):Bool:=baudL.any (fun y=>decide (x.1=y))&&decide (0≤x.2)&&decide (x.2≤2)
theorem okS_iff {x:Int×Int}:okS x=true↔Okset x.1 x.2:=by
 unfold okS;simp only[Bool.and_eq_true,decide_eq_true_eq,List.any_eq_true];refine⟨fun ⟨⟨⟨y,h,e⟩,h2⟩,h3⟩=>⟨by rw[e];exact h,h2,h3⟩,fun h=>⟨⟨⟨x.1,h.mem,rfl⟩,h.lo⟩,h.hi⟩⟩
def lessS (a b:Int×Int):Bool:=decide (a.1<b.1)||(a.1==b.1&&decide (a.2<b.2))
def stepS (p:Option (Int×Int)) (x:Int×Int):Bool:=match p with|none=>true|some y=>lessS y x
def setsB:Option (Int×Int)→List (Int×Int)→Bool
 |_,[]=>true
 |p,x::l=>(okS x&&stepS p x)&&setsB (some x) l
def lastS:Option (Int×Int)→List (Int×Int)→Option (Int×Int)
 |p,[]=>p
 |_,x::l=>lastS (some x) l
theorem setsB_snoc (x:Int×Int):∀(l:List (Int×Int)) (p:Option (Int×Int)),setsB p (l++[x])=(setsB p l&&(okS x&&stepS (lastS p l) x))
 |[],p=>by show ((okS x&&stepS p x)&&true)=(true&&_);rw[Bool.and_true,Bool.true_and];rfl
 |a::l,p=>by
  show ((okS a&&stepS p a)&&setsB (some a) (l++[x]))=(((okS a&&stepS p a)&&setsB (some a) l)&&(okS x&&stepS (lastS (some a) l) x));rw[setsB_snoc x l (some a),Bool.and_assoc (okS a&&stepS p a)]
theorem lastS_snoc (x:Int×Int):∀(l:List (Int×Int)) (p:Option (Int×Int)),lastS p (l++[x])=some x
 |[],_=>rfl
 |a::l,_=>lastS_snoc x l (some a)
theorem setsB_pre (k:List (Int×Int)):∀(l:List (Int×Int)) (p:Option (Int×Int)),setsB p (l++k)=true→setsB p l=true
 |[],p,_=>rfl
 |a::l,p,h=>by
  simp only[List.cons_append,setsB,Bool.and_eq_true] at h ⊢;exact⟨h.1,setsB_pre k l _ h.2⟩
theorem setsB_no {l:List (Int×Int)} {k:Nat} {x:Int×Int} (h:l[k]?=some x) (hb:(okS x&&stepS (lastS none (l.take k)) x)=false):setsB none l=false:=by
 cases hx:setsB none l with
 |false=>rfl
 |true=>
  exfalso;have h3:setsB none (l.take (k+1))=true:=setsB_pre (l.drop (k+1)) _ _ (by rw[List.take_append_drop];exact hx);rw[bT h,setsB_snoc,hb] at h3;simp at h3
def setB (l:List (Int×Int)):Bool:=setsB none l&&(decide (1≤l.length)&&decide (l.length≤6))
theorem lastS_at {l:List (Int×Int)} {k:Nat} {y:Int×Int} (h:l[k]?=some y):lastS none (l.take (k+1))=some y:=by rw[bT h,lastS_snoc]
def cmpI (a b:Int):Int:=if a<b then -1 else if b<a then 1 else 0
theorem isnan_any (a:Int) (w:World):Calls Tryz.prog 184 #[.int .i64 a] w fun r w'=>r=.returned (.bool false)∧w=w':=by
 have g1:(a !=a)=false:=by rw[bne_eq_false_iff_eq]
 go_enter Tryz.func184,Tryz.ntmps184;go_wp2;go_ret;exact⟨rfl,rfl⟩
theorem cmp_any (a b:Int) (w:World):Calls Tryz.prog 161 #[.int .i64 a,.int .i64 b] w fun r w'=>r=.returned (.int .i64 (cmpI a b))∧w=w':=by
 have HN:=bC (fun (x:Int) (X:World)=>isnan_any x X);by_cases h:a<b
 ·have HE:Hid (cmpI a b=-1):=if_pos h
  go_enter Tryz.func161,Tryz.ntmps161;go_wp2_with (go_at_call 184;(with_reducible refine(HN.out _ _).mono ?_);rintro r w1 ⟨rfl,rfl⟩);go_ret;exact⟨by rw[HE.out];rfl,rfl⟩
 ·by_cases h2:b<a
  ·have HE:Hid (cmpI a b=1):=by show _=_;unfold cmpI;rw[if_neg h,if_pos h2]
   go_enter Tryz.func161,Tryz.ntmps161;go_wp2_with (go_at_call 184;(with_reducible refine(HN.out _ _).mono ?_);rintro r w1 ⟨rfl,rfl⟩);go_ret;exact⟨by rw[HE.out];rfl,rfl⟩
  ·have HE:Hid (cmpI a b=0):=by show _=_;unfold cmpI;rw[if_neg h,if_neg h2]
   go_enter Tryz.func161,Tryz.ntmps161;go_wp2_with (go_at_call 184;(with_reducible refine(HN.out _ _).mono ?_);rintro r w1 ⟨rfl,rfl⟩);go_ret;exact⟨by rw[HE.out];rfl,rfl⟩
def orCmp (a b:Int):Int:=if a=0 then b else a
theorem or_two (a b:Int) (p c:Nat) (w:World) (h0:w.cell? ⟨p,0,none⟩=some (.int .i64 a)) (h1:w.cell? ⟨p,1,none⟩=some (.int .i64 b)):Calls Tryz.prog 174 #[.slice (some ⟨p,0,none⟩) 2 c] w fun r w'=>r=.returned (.int .i64 (orCmp a b))∧w=w':=by
 by_cases ha:a=0
 ·have g1:(a !=0)=false:=by rw[bne_eq_false_iff_eq];exact ha
  have HE:Hid (orCmp a b=b):=if_pos ha;by_cases hb:b=0
  ·have g2:(b !=0)=false:=by rw[bne_eq_false_iff_eq];exact hb
   have HB:=bC hb;clear ha hb;go_enter Tryz.func174,Tryz.ntmps174;go_wp2;go_loopw [5,8] (fun _ iv wr=>(iv=.int .i64 0∧w=wr)∨(iv=.int .i64 1∧w=wr)∨(iv=.int .i64 2∧w=wr)) (fun _ iv _=>2- (intOf iv).toNat)
   case atStart=>exact .inl ⟨rfl,rfl⟩
   case round=>
    rcases hrel with⟨rfl,rfl⟩|⟨rfl,rfl⟩|⟨rfl,rfl⟩
    ·go_wp2
     go_roundw
     case rel=>exact .inr (.inl ⟨rfl,trivial⟩)
     case measure=>simp [intOf]
    ·go_wp2
     go_roundw
     case rel=>exact .inr (.inr ⟨rfl,trivial⟩)
     case measure=>simp [intOf]
    ·go_wp2
     go_ret;exact⟨by rw[HE.out,HB.out];rfl,rfl⟩
  ·have g2:(b !=0)=true:=by rw[bne_iff_ne];exact hb
   clear ha hb;go_enter Tryz.func174,Tryz.ntmps174;go_wp2;go_loopw [5,8] (fun _ iv wr=>(iv=.int .i64 0∧w=wr)∨(iv=.int .i64 1∧w=wr)) (fun _ iv _=>2- (intOf iv).toNat)
   case atStart=>exact .inl ⟨rfl,rfl⟩
   case round=>
    rcases hrel with⟨rfl,rfl⟩|⟨rfl,rfl⟩
    ·go_wp2
     go_roundw
     case rel=>exact .inr ⟨rfl,trivial⟩
     case measure=>simp [intOf]
    ·go_wp2
     go_ret;exact⟨by rw[HE.out];rfl,rfl⟩
 ·have g1:(a !=0)=true:=by rw[bne_iff_ne];exact ha
  have HE:Hid (orCmp a b=a):=if_neg ha;clear ha;go_enter Tryz.func174,Tryz.ntmps174;go_wp2;go_loopw [5,8] (fun _ iv wr=>iv=.int .i64 0∧w=wr) (fun _ iv _=>2- (intOf iv).toNat)
  case atStart=>exact⟨rfl,rfl⟩
  case round=>
   obtain⟨rfl,rfl⟩:=hrel;go_wp2;go_ret;exact⟨by rw[HE.out];rfl,rfl⟩
theorem cmpS (a b:Int×Int):orCmp (cmpI a.1 b.1) (cmpI a.2 b.2)<0↔lessS a b=true:=by
 unfold orCmp cmpI lessS;simp only[Bool.or_eq_true,Bool.and_eq_true,decide_eq_true_eq,beq_iff_eq]
 repeat' split
 all_goals omega
theorem compare_any (a b:Int×Int) (w:World):
  Calls Tryz.prog 143 #[.agg #[.int .i64 a.1,.int .i64 a.2],.agg #[.int .i64 b.1,.int .i64 b.2]] w fun r w'=>∃c:Int,r=.returned (.int .i64 c)∧(c<0↔lessS a b=true)∧Below w.heap.size w w':=by
 have HCS:=bC (cmpS a b);obtain⟨a0,a1⟩:=a;obtain⟨b0,b1⟩:=b;dsimp only;obtain⟨W1,hW1⟩:∃W,(w.alloc (.cells #[.int .i64 a0,.int .i64 a1] 61)).alloc (.cells #[.int .i64 b0,.int .i64 b1] 61)=W:=⟨_,rfl⟩
 have hb1:Below w.heap.size w W1:=by rw[←hW1];exact cJ (bH w _) (Nat.le_refl _) _
 have pA:W1.heap[w.heap.size]?=some (.cells #[.int .i64 a0,.int .i64 a1] 61):=by rw[←hW1];exact bB (bI w _) (bH _ _)
 have pB:W1.heap[w.heap.size+1]?=some (.cells #[.int .i64 b0,.int .i64 b1] 61):=by
  rw[←hW1];have h:=bI (w.alloc (.cells #[.int .i64 a0,.int .i64 a1] 61)) (.cells #[.int .i64 b0,.int .i64 b1] 61);rw[World.size_alloc] at h;exact h
 have y0:=cF pA 0 rfl;have y1:=cF pA 1 rfl;have z0:=cF pB 0 rfl;have z1:=cF pB 1 rfl;have kD:Below W1.heap.size W1 W1.drew:=(Below.refl _ _).drew;obtain⟨c0,hc0⟩:=gE (cmpI a0 b0);obtain⟨c1,hc1⟩:=gE (cmpI a1 b1);have HM0:Hid (∀X,Calls Tryz.prog 161 #[.int .i64 a0,.int .i64 b0] X fun r w'=>r=.returned (.int .i64 c0)∧X=w'):=fun X=>by rw[←hc0];exact cmp_any a0 b0 X
 have HM1:Hid (∀X,Calls Tryz.prog 161 #[.int .i64 a1,.int .i64 b1] X fun r w'=>r=.returned (.int .i64 c1)∧X=w'):=fun X=>by rw[←hc1];exact cmp_any a1 b1 X
 have HO:Hid (Calls Tryz.prog 174 #[.slice (some ⟨W1.heap.size,0,none⟩) 2 2] ((W1.alloc (.cells #[.int .i64 c0,.int .i64 c1] 3)).drew) fun r w'=>r=.returned (.int .i64 (orCmp c0 c1))∧((W1.alloc (.cells #[.int .i64 c0,.int .i64 c1] 3)).drew)=w'):=or_two c0 c1 _ 2 _ (bA (bB (bI _ _) (Below.refl _ _).drew) 0) (bA (bB (bI _ _) (Below.refl _ _).drew) 1);have HC0:=bC (And.intro hc0 hc1);have HW1:=bC hW1;have HB1:=bC hb1;have kA:∀X,Below W1.heap.size W1 ((W1.alloc X).drew):=fun X=>(bH W1 X).drew
 clear hW1 hb1 pA pB hc0 hc1;go_enter Tryz.func143,Tryz.ntmps143;go_upto_region 1 with(fail)
 rw[HW1.out];go_region_held3 (fun X=>Below W1.heap.size W1 X) ((with_reducible (first|exact kD|exact kA _|assumption))) (first
  |(go_at_call 161;(with_reducible refine(HM0.out _).mono ?_);rintro r w2 ⟨rfl,rfl⟩)
  |(go_at_call 161;(with_reducible refine(HM1.out _).mono ?_);rintro r w2 ⟨rfl,rfl⟩)
  |(go_at_call 174;(with_reducible refine HO.out.mono ?_);rintro r w2 ⟨rfl,rfl⟩))
 all_goals
  go_wp2;go_ret;exact⟨orCmp c0 c1,rfl,by rw[←HC0.out.1,←HC0.out.2];exact HCS.out,bU HB1.out (kA _)⟩
theorem less_any (a b:Int×Int) (w:World) (V:Bool) (hV:Hid (lessS a b=V)):
  Calls Tryz.prog 130 #[.agg #[.int .i64 a.1,.int .i64 a.2],.agg #[.int .i64 b.1,.int .i64 b.2]] w (BoolPost w V):=by
 obtain⟨a0,a1⟩:=a;obtain⟨b0,b1⟩:=b;dsimp only;have hv:=hV.out;unfold lessS at hv;dsimp only at hv;have hb:Below w.heap.size w ((w.alloc (.cells #[.int .i64 a0,.int .i64 a1] 61)).alloc (.cells #[.int .i64 b0,.int .i64 b1] 61)):=cJ (bH w _) (Nat.le_refl _) _;have HB:=bC hb;clear hb;by_cases h1:a0<b0
 ·have HE:Hid (V=true):=by show _=_;rw[←hv,decide_eq_true h1];rfl
  clear hv hV;go_enter Tryz.func130,Tryz.ntmps130;go_wp2;go_ret;exact⟨by rw[HE.out];rfl,HB.out⟩
 ·by_cases h2:a0=b0
  ·have g1:(a0==b0)=true:=by rw[beq_iff_eq];exact h2
   by_cases h3:a1<b1
   ·have HE:Hid (V=true):=by show _=_;rw[←hv,g1,decide_eq_true h3,decide_eq_false h1];rfl
    clear hv hV h2;go_enter Tryz.func130,Tryz.ntmps130;go_wp2;go_ret;exact⟨by rw[HE.out];rfl,HB.out⟩
   ·have HE:Hid (V=false):=by show _=_;rw[←hv,g1,decide_eq_false h3,decide_eq_false h1];rfl
    clear hv hV h2;go_enter Tryz.func130,Tryz.ntmps130;go_wp2;go_ret;exact⟨by rw[HE.out];rfl,HB.out⟩
  ·have g1:(a0==b0)=false:=by rw[beq_eq_false_iff_ne];exact h2
   have HE:Hid (V=false):=by show _=_;rw[←hv,g1,decide_eq_false h1];rfl
   clear hv hV h2;go_enter Tryz.func130,Tryz.ntmps130;go_wp2;go_ret;exact⟨by rw[HE.out];rfl,HB.out⟩
theorem rvalid_s (x:Int×Int) (w:World) (V:Bool) (hV:Hid (okS x=V)):Calls Tryz.prog 93 #[.agg #[.int .i64 x.1,.int .i64 x.2]] w (BoolPost w V):=
 (rvalid_set x.1 x.2 w).mono fun _ _ ⟨U,h1,h2,h3⟩=>⟨by
  rw[h1]
  have e:U=V:=by
   have h4:=okS_iff (x:=x)
   have h5:=h2.out
   have h6:=hV.out
   cases U<;>cases V<;>simp_all
  rw[e],h3⟩
theorem z06_1 {p:Prop} (h:p:=by
 clear hv hm h1 h2
 go_enter Tryz.func120,Tryz.ntmps120
 go_wp2_with fail
 rw[HW0.out]
 refine wp_region_held_drew (S:=fun V=>Below W0.heap.size W0 V) (by kernel_rfl) kD (fun hH=>?_);clear hH;refine tG 1 4 ?_;refine tG 2 5 ?_;refine bM 0 rfl (fun K hK=>?_);go_simp;refine(bauds_any _).mono ?_;rintro r w2 ⟨⟨a2,n2,cc2,rfl,hN⟩,hb2⟩;have hB2:=bU kD hb2;refine hK.out _ _ hB2 (fun hS2=>?_);clear hK K;refine bM 3 rfl (fun K hK=>?_);go_simp;refine(contI_any _ _ _ _ hN true HV).mono ?_;rintro r w3 ⟨rfl,rfl⟩;refine hK.out _ _ hB2 (fun hS3=>?_);clear hK K hS2;refine tG 4 7 ?_
 refine tG 5 8 ?_
 refine tG 6 9 ?_
 refine tG 7 10 ?_
 refine tG 8 11 ?_
 refine tG 9 12 ?_
 refine tG 10 13 ?_
 refine tG 11 14 ?_
 refine tG 12 15 ?_
 refine tG 13 16 ?_
 refine tG 14 2 ?_;refine wpAnyH_done (by kernel_rfl) ?_ _;go_wp2;go_ret;exact⟨bO HE.out,bU HB.out hB2⟩):p:=h
theorem svalid_any (b p:Int) (w:World) (V:Bool) (hV:Hid (okS (b,p)=V)):
  Calls Tryz.prog 120 #[.agg #[.int .i64 b,.int .i64 p]] w (BoolPost w V):=by
 have hv:=hV.out;unfold okS at hv;dsimp only at hv;obtain⟨W0,hW0⟩:∃W,w.alloc (.cells #[.int .i64 b,.int .i64 p] 61)=W:=⟨_,rfl⟩;have g0:W0.heap[w.heap.size]?=some (.cells #[.int .i64 b,.int .i64 p] 61):=(by rw[←hW0];exact bI w _);have HB:Hid (Below w.heap.size w W0):=(by show Below _ _ _;rw[←hW0];exact bH w _);have c0:=cF g0 0 rfl;have c1:=cF g0 1 rfl;have kD:Below W0.heap.size W0 W0.drew:=(Below.refl _ _).drew;have HW0:=bC hW0;clear g0 hW0 hV;cases hm:baudL.any (fun y=>decide (b=y)) with
 |false=>
  have HV:Hid (baudL.any (fun y=>decide (b=y))=false):=hm;have HE:Hid (false=V):=by rw[hm] at hv;exact hv
  clear hv hm;go_enter Tryz.func120,Tryz.ntmps120;go_wp2_with fail;rw[HW0.out];refine wp_region_held_drew (S:=fun V=>Below W0.heap.size W0 V) (by kernel_rfl) kD (fun hH=>?_);clear hH;refine tG 1 4 ?_;refine tG 2 5 ?_;refine bM 0 rfl (fun K hK=>?_);go_simp;refine(bauds_any _).mono ?_;rintro r w2 ⟨⟨a2,n2,cc2,rfl,hN⟩,hb2⟩;have hB2:=bU kD hb2;refine hK.out _ _ hB2 (fun hS2=>?_);clear hK K;refine bM 3 rfl (fun K hK=>?_);go_simp;refine(contI_any _ _ _ _ hN false HV).mono ?_;rintro r w3 ⟨rfl,rfl⟩;refine hK.out _ _ hB2 (fun hS3=>?_);clear hK K hS2;refine tG 4 7 ?_;refine tU 5 8 ?_;refine tU 6 9 ?_;refine tU 7 10 ?_;refine tG 8 11 ?_;refine tG 9 12 ?_;refine tU 10 13 ?_;refine tU 11 14 ?_;refine tU 12 15 ?_;refine tG 13 16 ?_;refine tG 14 2 ?_;refine wpAnyH_done (by kernel_rfl) ?_ _;go_wp2;go_ret;exact⟨bO HE.out,bU HB.out hB2⟩
 |true=>
  have HV:Hid (baudL.any (fun y=>decide (b=y))=true):=hm;by_cases h1:0≤p
  ·have d1:decide (0≤p)=true:=decide_eq_true h1
   by_cases h2:p≤2
   ·have d2:decide (p≤2)=true:=decide_eq_true h2
    have HE:Hid (true=V):=by rw[hm,d1,d2] at hv;exact hv
    exact z06_1
   ·have d2:decide (p≤2)=false:=decide_eq_false h2
    have HE:Hid (false=V):=by rw[hm,d1,d2] at hv;exact hv
    exact z06_1
  ·have d1:decide (0≤p)=false:=decide_eq_false h1
   have HE:Hid (false=V):=by rw[hm,d1] at hv;exact hv
   clear hv hm h1;go_enter Tryz.func120,Tryz.ntmps120;go_wp2_with fail;rw[HW0.out];refine wp_region_held_drew (S:=fun V=>Below W0.heap.size W0 V) (by kernel_rfl) kD (fun hH=>?_);clear hH;refine tG 1 4 ?_;refine tG 2 5 ?_;refine bM 0 rfl (fun K hK=>?_);go_simp;refine(bauds_any _).mono ?_;rintro r w2 ⟨⟨a2,n2,cc2,rfl,hN⟩,hb2⟩;have hB2:=bU kD hb2;refine hK.out _ _ hB2 (fun hS2=>?_);clear hK K;refine bM 3 rfl (fun K hK=>?_);go_simp;refine(contI_any _ _ _ _ hN true HV).mono ?_;rintro r w3 ⟨rfl,rfl⟩;refine hK.out _ _ hB2 (fun hS3=>?_);clear hK K hS2;refine tG 4 7 ?_;refine tG 5 8 ?_;refine tG 6 9 ?_;refine tG 7 10 ?_;refine tG 8 11 ?_;refine tG 9 12 ?_;refine tU 10 13 ?_;refine tU 11 14 ?_;refine tU 12 15 ?_;refine tG 13 16 ?_;refine tG 14 2 ?_;refine wpAnyH_done (by kernel_rfl) ?_ _;go_wp2;go_ret;exact⟨bO HE.out,bU HB.out hB2⟩
theorem slist_any (v:Value) (l:List (Int×Int)) (w:World) (hl:Rgs w v l) (V:Bool) (hV:Hid (setB l=V)):
  Calls Tryz.prog 99 #[v] w (BoolPost w V):=by
 have HL:=bC hl;obtain⟨a,c,rfl,hnc,hcm,-⟩:=id hl;obtain⟨n,hn⟩:=gE l.length;have HN:=bC hn;rw[hn] at hnc ⊢;clear hl hn;have hnn:n≤9223372036854775807:=by unfold maxLen at hcm;omega
 go_enter Tryz.func99,Tryz.ntmps99;go_wp2_with fail;go_loopw [3,4,7] (fun _ _ iv wr=>∃k:Nat,k≤n∧iv=.int .i64 (k:Int)∧Hid (setsB none (l.take k)=true)∧Below w.heap.size w wr) (fun _ _ iv _=>n- (intOf iv).toNat)
 case atStart=>exact⟨0,Nat.zero_le _,rfl,rfl,Below.refl _ _⟩
 case round=>
  obtain⟨k,hk,rfl,hst,hbw⟩:=hrel;have hki:(0:Int)≤(k:Int):=Int.natCast_nonneg _;by_cases hlt:k<n
  ·obtain ⟨x,hx⟩:=gs (l:=l) HN.out hlt;obtain⟨b,o,c',hv',w1,w2,hcl⟩:=HL.out.at hx;rw[HN.out] at hv';simp only[Value.slice.injEq,true_and] at hv';obtain⟨rfl,rfl⟩:=hv'
   have hkl:(k:Int)<(n:Int):=by omega
   obtain⟨y0,y1⟩:=hcl wr hbw;have HNO:=bC (fun e=>setsB_no (l:=l) (k:=k) (x:=x) hx e);have HSN:Hid (setsB none (l.take (k+1))=(okS x&&stepS (lastS none (l.take k)) x)):=by
    show _=_;rw[bT hx,setsB_snoc,hst.out,Bool.true_and]
   obtain⟨x0,x1⟩:=x;dsimp only at y0 y1;obtain⟨WX,hWX,hbx,px⟩:=alQ wr (.cells #[.int .i64 x0,.int .i64 x1] 61);have z0:=cF px 0 rfl;have z1:=cF px 1 rfl;have kD:Below WX.heap.size WX WX.drew:=(Below.refl _ _).drew;have HBW:Hid (Below w.heap.size w WX):=bU hbw hbx;have HWX:=bC hWX;cases hok:okS (x0,x1) with
   |false=>
    have HV:Hid (∀X,Calls Tryz.prog 120 #[.agg #[.int .i64 x0,.int .i64 x1]] X (BoolPost X false)):=fun X=>svalid_any x0 x1 X false hok
    have HE:Hid (V=false):=by
     show _=_;rw[←hV.out];unfold setB;rw[HNO.out (by rw[hok];rfl)];rfl
    clear hcl hx hWX px hbx hst hok w1 w2;go_upto_region 4 with(fail)
    rw[HWX.out];clear y0 y1;refine wp_region_held_drew (S:=fun V=>Below WX.heap.size WX V) (by kernel_rfl) kD (fun hH=>?_);clear hH;refine tG 0 12 ?_;refine bM 1 rfl (fun K hK=>?_);go_simp;refine(HV.out _).mono ?_;rintro r w5 ⟨rfl,hb5⟩;have hB5:=bU kD hb5;refine hK.out _ _ hB5 (fun hS7=>?_);clear hK K;refine tG 2 14 ?_;refine tG 3 15 ?_;refine tU 4 16 ?_;refine tU 5 17 ?_;refine tU 6 18 ?_;refine tU 7 19 ?_;refine tU 8 20 ?_;refine tU 9 21 ?_;refine tU 10 22 ?_;refine tU 11 23 ?_;refine tU 12 24 ?_;refine tU 13 25 ?_;refine tU 14 26 ?_;refine tU 15 27 ?_;refine tG 16 28 ?_;refine wpAnyH_done (by kernel_rfl) ?_ _;go_wp2;go_ret;exact⟨by rw[HE.out];rfl,bU HBW.out hB5⟩
   |true=>
    have HV:Hid (∀X,Calls Tryz.prog 120 #[.agg #[.int .i64 x0,.int .i64 x1]] X (BoolPost X true)):=fun X=>svalid_any x0 x1 X true hok
    by_cases hk0:k=0
    ·have HS2:Hid (setsB none (l.take (k+1))=true):=by show _=_;rw[HSN.out,hok,hk0];rfl
     have hgt:¬(0:Int)<(k:Int):=by omega
     have HK0:=bC hk0;clear hcl hx hWX px hbx hst hok w1 w2 hk0;go_upto_region 4 with(fail)
     rw[HWX.out];clear y0 y1;refine wp_region_held_drew (S:=fun V=>Below WX.heap.size WX V) (by kernel_rfl) kD (fun hH=>?_);clear hH;refine tG 0 12 ?_;refine bM 1 rfl (fun K hK=>?_);go_simp;refine(HV.out _).mono ?_;rintro r w5 ⟨rfl,hb5⟩;have hB5:=bU kD hb5;refine hK.out _ _ hB5 (fun hS7=>?_);clear hK K;obtain rfl:k=0:=HK0.out;refine tG 2 14 ?_;refine tG 3 15 ?_;refine tG 4 16 ?_;refine tG 5 17 ?_;refine tG 6 18 ?_;refine tU 7 19 ?_;refine tU 8 20 ?_;refine tU 9 21 ?_;refine tU 10 22 ?_;refine tU 11 23 ?_;refine tU 12 24 ?_;refine tU 13 25 ?_;refine tU 14 26 ?_;refine tG 15 27 ?_;refine tG 16 28 ?_;refine wpAnyH_done (by kernel_rfl) ?_ _;go_wp2;go_roundw
     case rel=>exact⟨0+1,by omega,by go_num,HS2.out,bU HBW.out hB5⟩
     case measure=>simp [intOf];omega
    ·obtain ⟨j,hj⟩:∃j,k=j+1:=⟨k-1,by omega⟩
     obtain⟨p,hp⟩:=gs (l:=l) HN.out (show j<n by omega);obtain⟨b',o',c2,hv2,w3,w4,hcl2⟩:=HL.out.at hp;rw[HN.out] at hv2;simp only[Value.slice.injEq,Option.some.injEq,Addr.mk.injEq,true_and,and_true] at hv2;obtain⟨⟨rfl,rfl⟩,rfl⟩:=hv2;have hls:lastS none (l.take k)=some p:=by rw[hj];exact lastS_at hp
     obtain⟨p0,p1⟩:=p;have q0:∀X,Below WX.heap.size WX X→X.cell? ⟨b,o+j*2,none⟩=some (.int .i64 p0):=fun X h=>(hcl2 X (bU HBW.out h)).1
     have q1:∀X,Below WX.heap.size WX X→X.cell? ⟨b,o+j*2+1,none⟩=some (.int .i64 p1):=fun X h=>(hcl2 X (bU HBW.out h)).2
     have sw:IntKind.i64.wrap ((k:Int)-1)=(j:Int):=(IntWalk.i64_in _ (by omega)).trans (by omega);have hji:(0:Int)≤(j:Int):=Int.natCast_nonneg _;have hjl:(j:Int)<(n:Int):=by omega
     have hdk:decide ((0:Int)<(k:Int))=true:=decide_eq_true (by omega);have hdn:decide (0<k)=true:=decide_eq_true (by omega);have HC:Hid (∀X,Calls Tryz.prog 143 #[.agg #[.int .i64 p0,.int .i64 p1],.agg #[.int .i64 x0,.int .i64 x1]] X fun r w'=>∃c:Int,r=.returned (.int .i64 c)∧(c<0↔lessS (p0,p1) (x0,x1)=true)∧Below X.heap.size X w'):=fun X=>compare_any (p0,p1) (x0,x1) X
     have hstp:stepS (lastS none (l.take k)) (x0,x1)=lessS (p0,p1) (x0,x1):=by rw[hls];rfl
     have HSN2:Hid (setsB none (l.take (k+1))=lessS (p0,p1) (x0,x1)):=by show _=_;rw[HSN.out,hok,hstp];rfl
     have HNO2:Hid (lessS (p0,p1) (x0,x1)=false→setsB none l=false):=fun e=>HNO.out (by rw[hstp,e,hok];rfl)
     clear hcl hcl2 hx hp hWX px hbx hst hok w1 w2 w3 w4 hls hstp hj hk0 HSN HNO;cases hls:lessS (p0,p1) (x0,x1) with
     |false=>
      have HE:Hid (V=false):=by
       show _=_;rw[←hV.out];unfold setB;rw[HNO2.out hls];rfl
      have HCN:Hid (∀c:Int,(c<0↔lessS (p0,p1) (x0,x1)=true)→decide ((0:Int)≤c)=true):=fun c h=>decide_eq_true (by have h2:=fun e=>h.1 e;rw[hls] at h2;by_cases e:c<0;exact absurd (h2 e) (by decide);omega)
      clear hls;go_upto_region 4 with(fail)
      rw[HWX.out];clear y0 y1;refine wp_region_held_drew (S:=fun V=>Below WX.heap.size WX V) (by kernel_rfl) kD (fun hH=>?_);clear hH;refine tG 0 12 ?_;refine bM 1 rfl (fun K hK=>?_);go_simp;refine(HV.out _).mono ?_;rintro r w5 ⟨rfl,hb5⟩;have hB5:=bU kD hb5;refine hK.out _ _ hB5 (fun hS7=>?_);clear hK K;refine tG 2 14 ?_;refine tG 3 15 ?_;refine tG 4 16 ?_;refine tG 5 17 ?_;refine tG 6 18 ?_;refine tG 7 19 ?_;refine tG 8 20 ?_;refine tG 9 21 ?_;refine tG 10 22 ?_;refine tG 11 23 ?_;refine tG 12 24 ?_;refine bM 13 rfl (fun K hK=>?_);go_simp;refine(HC.out _).mono ?_;rintro r w6 ⟨cc,rfl,hcc,hb6⟩;have hd0:=HCN.out cc hcc;have hB6:=bU hB5 hb6;refine hK.out _ _ hB6 (fun hS8=>?_);clear hK K hS7 hcc;refine tG 14 26 ?_;refine tG 15 27 ?_;refine tG 16 28 ?_;refine wpAnyH_done (by kernel_rfl) ?_ _;go_wp2;go_ret;exact⟨by rw[HE.out];rfl,bU HBW.out hB6⟩
     |true=>
      have HS2:Hid (setsB none (l.take (k+1))=true):=by show _=_;rw[HSN2.out,hls]
      have HCN:Hid (∀c:Int,(c<0↔lessS (p0,p1) (x0,x1)=true)→decide ((0:Int)≤c)=false):=fun c h=>decide_eq_false (by have h2:=h.2 hls;omega)
      clear hls;go_upto_region 4 with(fail)
      rw[HWX.out];clear y0 y1;refine wp_region_held_drew (S:=fun V=>Below WX.heap.size WX V) (by kernel_rfl) kD (fun hH=>?_);clear hH;refine tG 0 12 ?_;refine bM 1 rfl (fun K hK=>?_);go_simp;refine(HV.out _).mono ?_;rintro r w5 ⟨rfl,hb5⟩;have hB5:=bU kD hb5;refine hK.out _ _ hB5 (fun hS7=>?_);clear hK K;refine tG 2 14 ?_;refine tG 3 15 ?_;refine tG 4 16 ?_;refine tG 5 17 ?_;refine tG 6 18 ?_;refine tG 7 19 ?_;refine tG 8 20 ?_;refine tG 9 21 ?_;refine tG 10 22 ?_;refine tG 11 23 ?_;refine tG 12 24 ?_;refine bM 13 rfl (fun K hK=>?_);go_simp;refine(HC.out _).mono ?_;rintro r w6 ⟨cc,rfl,hcc,hb6⟩;have hd0:=HCN.out cc hcc;have hB6:=bU hB5 hb6;refine hK.out _ _ hB6 (fun hS8=>?_);clear hK K hS7 hcc;refine tG 14 26 ?_;refine tG 15 27 ?_;refine tG 16 28 ?_;refine wpAnyH_done (by kernel_rfl) ?_ _;go_wp2;go_roundw
      case rel=>exact⟨k+1,by omega,by go_num,HS2.out,bU HBW.out hB6⟩
      case measure=>simp [intOf];omega
  ·obtain rfl:k=n:=by omega
   have HT:Hid (setB l=(decide (1≤k)&&decide (k≤6))):=by
    show _=_;have h1:=hst.out;rw[List.take_of_length_le (by rw[HN.out];exact Nat.le_refl _)] at h1;unfold setB;rw[h1,HN.out,Bool.true_and]
   clear hst;by_cases h1:1≤k
   ·by_cases h2:k≤6
    ·have HE:Hid (V=true):=by show _=_;rw[←hV.out,HT.out,decide_eq_true h1,decide_eq_true h2];rfl
     have d1:(1:Int)≤(k:Int):=by omega
     have d2:(k:Int)≤6:=by omega
     go_wp2;go_ret;exact⟨by rw[HE.out];rfl,hbw⟩
    ·have HE:Hid (V=false):=by show _=_;rw[←hV.out,HT.out,decide_eq_true h1,decide_eq_false h2];rfl
     have d1:(1:Int)≤(k:Int):=by omega
     have d2:¬(k:Int)≤6:=by omega
     go_wp2;go_ret;exact⟨by rw[HE.out];rfl,hbw⟩
   ·have HE:Hid (V=false):=by show _=_;rw[←hV.out,HT.out,decide_eq_false h1];rfl
    have d1:¬(1:Int)≤(k:Int):=by omega
    go_wp2;go_ret;exact⟨by rw[HE.out];rfl,hbw⟩
theorem rlist_any (v:Value) (l:List (Int×Int)) (w:World) (hl:Rgs w v l) (V:Bool) (hV:Hid (setB l=V)):
  Calls Tryz.prog 76 #[v] w (BoolPost w V):=by
 have HL:=bC hl;obtain⟨a,c,rfl,hnc,hcm,-⟩:=id hl;obtain⟨n,hn⟩:=gE l.length;have HN:=bC hn;rw[hn] at hnc ⊢;clear hl hn;have hnn:n≤9223372036854775807:=by unfold maxLen at hcm;omega
 go_enter Tryz.func76,Tryz.ntmps76;go_wp2_with fail;go_loopw [3] (fun iv wr=>∃k:Nat,k≤n∧k≤7∧iv=.int .i64 (k:Int)∧Hid (setsB none (l.take k)=true)∧Below w.heap.size w wr) (fun iv _=>n- (intOf iv).toNat)
 case atStart=>exact⟨0,Nat.zero_le _,Nat.zero_le _,rfl,rfl,Below.refl _ _⟩
 case round=>
  obtain⟨k,hk,hk7,rfl,hst,hbw⟩:=hrel;have hki:(0:Int)≤(k:Int):=Int.natCast_nonneg _;by_cases hlt:k<n∧k≤6
  ·obtain ⟨hlt,hk6⟩:=hlt
   obtain⟨x,hx⟩:=gs (l:=l) HN.out hlt;obtain⟨b,o,c',hv',w1,w2,hcl⟩:=HL.out.at hx;rw[HN.out] at hv';simp only[Value.slice.injEq,true_and] at hv';obtain⟨rfl,rfl⟩:=hv';have hkl:(k:Int)<(n:Int):=by omega
   have hk6i:(k:Int)≤6:=by omega
   have HNO:=bC (fun e=>setsB_no (l:=l) (k:=k) (x:=x) hx e);have HSN:Hid (setsB none (l.take (k+1))=(okS x&&stepS (lastS none (l.take k)) x)):=by
    show _=_;rw[bT hx,setsB_snoc,hst.out,Bool.true_and]
   obtain⟨x0,x1⟩:=x;dsimp only at hcl;have y0:∀X,Below wr.heap.size wr X→X.cell? ⟨b,o+k*2,none⟩=some (.int .i64 x0):=fun X h=>(hcl X (bU hbw h)).1
   have y1:∀X,Below wr.heap.size wr X→X.cell? ⟨b,o+k*2+1,none⟩=some (.int .i64 x1):=fun X h=>(hcl X (bU hbw h)).2
   have kD:Below wr.heap.size wr wr.drew:=(Below.refl _ _).drew;have HBW:=bC hbw;cases hok:okS (x0,x1) with
   |false=>
    have HV:Hid (∀X,Calls Tryz.prog 93 #[.agg #[.int .i64 x0,.int .i64 x1]] X (BoolPost X false)):=fun X=>rvalid_s (x0,x1) X false hok
    have HE:Hid (V=false):=by
     show _=_;rw[←hV.out];unfold setB;rw[HNO.out (by rw[hok];rfl)];rfl
    clear hcl hx hst hok w1 w2;go_upto_region 4 with(fail)
    refine wp_region_held_drew (S:=fun V=>Below wr.heap.size wr V) (by kernel_rfl) kD (fun hH=>?_);clear hH;refine tG 0 14 ?_;refine tG 1 15 ?_;refine tG 2 16 ?_;refine tG 3 17 ?_;refine bM 4 rfl (fun K hK=>?_);go_simp;refine(HV.out _).mono ?_;rintro r w5 ⟨rfl,hb5⟩;have hB5:=bU kD hb5;refine hK.out _ _ hB5 (fun hS7=>?_);clear hK K;refine tG 5 19 ?_;refine tG 6 20 ?_;refine tU 7 21 ?_;refine tU 8 22 ?_;refine tU 9 23 ?_;refine tU 10 24 ?_;refine tU 11 25 ?_;refine tU 12 26 ?_;refine tU 13 27 ?_;refine tU 14 28 ?_;refine tU 15 29 ?_;refine tU 16 30 ?_;refine tU 17 31 ?_;refine tU 18 32 ?_;refine tU 19 33 ?_;refine tU 20 34 ?_;refine tU 21 35 ?_;refine tG 22 36 ?_;refine wpAnyH_done (by kernel_rfl) ?_ _;go_wp2;go_ret;exact⟨by rw[HE.out];rfl,bU HBW.out hB5⟩
   |true=>
    have HV:Hid (∀X,Calls Tryz.prog 93 #[.agg #[.int .i64 x0,.int .i64 x1]] X (BoolPost X true)):=fun X=>rvalid_s (x0,x1) X true hok
    by_cases hk0:k=0
    ·have HS2:Hid (setsB none (l.take (k+1))=true):=by show _=_;rw[HSN.out,hok,hk0];rfl
     have hdk:decide ((0:Int)<(k:Int))=false:=decide_eq_false (by omega);have hdn:decide (0<k)=false:=decide_eq_false (by omega);clear hcl hx hst hok w1 w2 hk0;go_upto_region 4 with(fail)
     refine wp_region_held_drew (S:=fun V=>Below wr.heap.size wr V) (by kernel_rfl) kD (fun hH=>?_);clear hH;refine tG 0 14 ?_;refine tG 1 15 ?_;refine tG 2 16 ?_;refine tG 3 17 ?_;refine bM 4 rfl (fun K hK=>?_);go_simp;refine(HV.out _).mono ?_;rintro r w5 ⟨rfl,hb5⟩;have hB5:=bU kD hb5;refine hK.out _ _ hB5 (fun hS7=>?_);clear hK K;refine tG 5 19 ?_;refine tG 6 20 ?_;refine tG 7 21 ?_;refine tG 8 22 ?_;refine tG 9 23 ?_;refine tU 10 24 ?_;refine tU 11 25 ?_;refine tU 12 26 ?_;refine tU 13 27 ?_;refine tU 14 28 ?_;refine tU 15 29 ?_;refine tU 16 30 ?_;refine tU 17 31 ?_;refine tU 18 32 ?_;refine tU 19 33 ?_;refine tU 20 34 ?_;refine tG 21 35 ?_;refine tG 22 36 ?_;refine wpAnyH_done (by kernel_rfl) ?_ _;go_wp2;go_roundw
     case rel=>exact⟨k+1,by omega,by omega,by go_num,HS2.out,bU HBW.out hB5⟩
     case measure=>simp [intOf];omega
    ·obtain ⟨j,hj⟩:∃j,k=j+1:=⟨k-1,by omega⟩
     obtain⟨p,hp⟩:=gs (l:=l) HN.out (show j<n by omega);obtain⟨b',o',c2,hv2,w3,w4,hcl2⟩:=HL.out.at hp;rw[HN.out] at hv2;simp only[Value.slice.injEq,Option.some.injEq,Addr.mk.injEq,true_and,and_true] at hv2;obtain⟨⟨rfl,rfl⟩,rfl⟩:=hv2;have hls:lastS none (l.take k)=some p:=by rw[hj];exact lastS_at hp
     obtain⟨p0,p1⟩:=p;have q0:∀X,Below wr.heap.size wr X→X.cell? ⟨b,o+j*2,none⟩=some (.int .i64 p0):=fun X h=>(hcl2 X (bU HBW.out h)).1
     have q1:∀X,Below wr.heap.size wr X→X.cell? ⟨b,o+j*2+1,none⟩=some (.int .i64 p1):=fun X h=>(hcl2 X (bU HBW.out h)).2
     have sw:IntKind.i64.wrap ((k:Int)-1)=(j:Int):=(IntWalk.i64_in _ (by omega)).trans (by omega);have hji:(0:Int)≤(j:Int):=Int.natCast_nonneg _;have hjl:(j:Int)<(n:Int):=by omega
     have hdk:decide ((0:Int)<(k:Int))=true:=decide_eq_true (by omega);have hdn:decide (0<k)=true:=decide_eq_true (by omega);have hstp:stepS (lastS none (l.take k)) (x0,x1)=lessS (p0,p1) (x0,x1):=by rw[hls];rfl
     have HSN2:Hid (setsB none (l.take (k+1))=lessS (p0,p1) (x0,x1)):=by show _=_;rw[HSN.out,hok,hstp];rfl
     have HNO2:Hid (lessS (p0,p1) (x0,x1)=false→setsB none l=false):=fun e=>HNO.out (by rw[hstp,e,hok];rfl)
     clear hcl hcl2 hx hp hst hok w1 w2 w3 w4 hls hstp hj hk0 HSN HNO;cases hls:lessS (p0,p1) (x0,x1) with
     |false=>
      have HE:Hid (V=false):=by
       show _=_;rw[←hV.out];unfold setB;rw[HNO2.out hls];rfl
      have HC:Hid (∀X,Calls Tryz.prog 130 #[.agg #[.int .i64 p0,.int .i64 p1],.agg #[.int .i64 x0,.int .i64 x1]] X (BoolPost X false)):=fun X=>less_any (p0,p1) (x0,x1) X false hls
      clear hls;go_upto_region 4 with(fail)
      refine wp_region_held_drew (S:=fun V=>Below wr.heap.size wr V) (by kernel_rfl) kD (fun hH=>?_);clear hH;refine tG 0 14 ?_;refine tG 1 15 ?_;refine tG 2 16 ?_;refine tG 3 17 ?_;refine bM 4 rfl (fun K hK=>?_);go_simp;refine(HV.out _).mono ?_;rintro r w5 ⟨rfl,hb5⟩;have hB5:=bU kD hb5;refine hK.out _ _ hB5 (fun hS7=>?_);clear hK K;refine tG 5 19 ?_;refine tG 6 20 ?_;refine tG 7 21 ?_;refine tG 8 22 ?_;refine tG 9 23 ?_;refine tG 10 24 ?_;refine tG 11 25 ?_;refine tG 12 26 ?_;refine tG 13 27 ?_;refine tG 14 28 ?_;refine tG 15 29 ?_;refine tG 16 30 ?_;refine tG 17 31 ?_;refine tG 18 32 ?_;refine bM 19 rfl (fun K hK=>?_);go_simp;refine(HC.out _).mono ?_;rintro r w6 ⟨rfl,hb6⟩;have hB6:=bU hB5 hb6;refine hK.out _ _ hB6 (fun hS8=>?_);clear hK K hS7;refine tG 20 34 ?_;refine tG 21 35 ?_;refine tG 22 36 ?_;refine wpAnyH_done (by kernel_rfl) ?_ _;go_wp2;go_ret;exact⟨by rw[HE.out];rfl,bU HBW.out hB6⟩
     |true=>
      have HS2:Hid (setsB none (l.take (k+1))=true):=by show _=_;rw[HSN2.out,hls]
      have HC:Hid (∀X,Calls Tryz.prog 130 #[.agg #[.int .i64 p0,.int .i64 p1],.agg #[.int .i64 x0,.int .i64 x1]] X (BoolPost X true)):=fun X=>less_any (p0,p1) (x0,x1) X true hls
      clear hls;go_upto_region 4 with(fail)
      refine wp_region_held_drew (S:=fun V=>Below wr.heap.size wr V) (by kernel_rfl) kD (fun hH=>?_);clear hH;refine tG 0 14 ?_;refine tG 1 15 ?_;refine tG 2 16 ?_;refine tG 3 17 ?_;refine bM 4 rfl (fun K hK=>?_);go_simp;refine(HV.out _).mono ?_;rintro r w5 ⟨rfl,hb5⟩;have hB5:=bU kD hb5;refine hK.out _ _ hB5 (fun hS7=>?_);clear hK K;refine tG 5 19 ?_;refine tG 6 20 ?_;refine tG 7 21 ?_;refine tG 8 22 ?_;refine tG 9 23 ?_;refine tG 10 24 ?_;refine tG 11 25 ?_;refine tG 12 26 ?_;refine tG 13 27 ?_;refine tG 14 28 ?_;refine tG 15 29 ?_;refine tG 16 30 ?_;refine tG 17 31 ?_;refine tG 18 32 ?_;refine bM 19 rfl (fun K hK=>?_);go_simp;refine(HC.out _).mono ?_;rintro r w6 ⟨rfl,hb6⟩;have hB6:=bU hB5 hb6;refine hK.out _ _ hB6 (fun hS8=>?_);clear hK K hS7;refine tG 20 34 ?_;refine tG 21 35 ?_;refine tG 22 36 ?_;refine wpAnyH_done (by kernel_rfl) ?_ _;go_wp2;go_roundw
      case rel=>exact⟨k+1,by omega,by omega,by go_num,HS2.out,bU HBW.out hB6⟩
      case measure=>simp [intOf];omega
  ·by_cases h2:n≤6
   ·obtain rfl:k=n:=by omega
    have HT:Hid (setB l=(decide (1≤k)&&decide (k≤6))):=by
     show _=_;have h1:=hst.out;rw[List.take_of_length_le (by rw[HN.out];exact Nat.le_refl _)] at h1;unfold setB;rw[h1,HN.out,Bool.true_and]
    clear hst hlt;have d2:(k:Int)≤6:=by omega
    by_cases h1:1≤k
    ·have HE:Hid (V=true):=by show _=_;rw[←hV.out,HT.out,decide_eq_true h1,decide_eq_true h2];rfl
     have d1:(1:Int)≤(k:Int):=by omega
     go_wp2;go_ret;exact⟨by rw[HE.out];rfl,hbw⟩
    ·have HE:Hid (V=false):=by show _=_;rw[←hV.out,HT.out,decide_eq_false h1];rfl
     have d1:¬(1:Int)≤(k:Int):=by omega
     go_wp2;go_ret;exact⟨by rw[HE.out];rfl,hbw⟩
   ·have HE:Hid (V=false):=by
     show _=_;rw[←hV.out];unfold setB;rw[HN.out,decide_eq_false h2,Bool.and_false,Bool.and_false]
    obtain rfl:k=7:=by omega
    have d1:(1:Int)≤(n:Int):=by omega
    have d2:¬(n:Int)≤6:=by omega
    clear hlt hst;by_cases h8:n=7
    ·subst h8
     go_wp2;go_ret;exact⟨by rw[HE.out];rfl,hbw⟩
    ·have d3:((7:Nat):Int)<(n:Int):=by omega
     go_wp2;go_ret;exact⟨by rw[HE.out];rfl,hbw⟩
structure Cf where
 sets:List (Int×Int)
 fi:Int
 la:Int
 re:Int
 ti:Int
 de:Int
 win:Nat→Int×Int
 ev:Int
 st:Int
def CfC (c:Cf) (sv:Value):Array Value:=#[sv,.int .i64 c.fi,.int .i64 c.la,.int .i64 c.re,.int .i64 c.ti,.int .i64 c.de,.int .i64 (c.win 0).1,.int .i64 (c.win 0).2,.int .i64 (c.win 1).1,.int .i64 (c.win 1).2,.int .i64 (c.win 2).1,.int .i64 (c.win 2).2,.int .i64 (c.win 3).1,.int .i64 (c.win 3).2,.int .i64 c.ev,.int .i64 c.st]
def inB (n a b:Int):Bool:=decide (a≤n)&&decide (n≤b)
def rangeB (c:Cf):Bool:=inB c.fi 1 c.la&&(decide (c.la≤247)&&(inB c.re 0 5&&(inB c.ti 1 5000000&&(inB c.de 0 5000000&&(inB c.ev 1 64&&inB c.st 0 1000000)))))
def cntB (win:Nat→Int×Int):Nat→Bool
 |0=>true
 |k+1=>cntB win k&&inB (win k).2 0 512
def ordB4 (win:Nat→Int×Int):Nat→Bool
 |0=>true
 |k+1=>ordB4 win k&&inB (win k).1 0 (if 0<(win k).2 then 65536- (win k).2 else 0)
theorem cntB_no {win:Nat→Int×Int} {k:Nat} (h:inB (win k).2 0 512=false):∀n,k<n→cntB win n=false
 |0,h2=>absurd h2 (Nat.not_lt_zero _)
 |n+1,h2=>by
  show (cntB win n&&inB (win n).2 0 512)=false;by_cases e:k=n
  ·subst e;rw[h,Bool.and_false]
  ·rw [cntB_no h n (by omega),Bool.false_and]
theorem ordB4_no {win:Nat→Int×Int} {k:Nat} (h:inB (win k).1 0 (if 0<(win k).2 then 65536- (win k).2 else 0)=false):∀n,k<n→ordB4 win n=false
 |0,h2=>absurd h2 (Nat.not_lt_zero _)
 |n+1,h2=>by
  show (ordB4 win n&&inB (win n).1 0 (if 0<(win n).2 then 65536- (win n).2 else 0))=false;by_cases e:k=n
  ·subst e;rw[h,Bool.and_false]
  ·rw [ordB4_no h n (by omega),Bool.false_and]
theorem cntB_at {win:Nat→Int×Int}:∀n,cntB win n=true→∀k,k<n→inB (win k).2 0 512=true
 |0,_,k,h2=>absurd h2 (Nat.not_lt_zero _)
 |n+1,h,k,h2=>by
  have h:(cntB win n&&inB (win n).2 0 512)=true:=h;rw[Bool.and_eq_true] at h;by_cases e:k=n
  ·subst e;exact h.2
  ·exact cntB_at n h.1 k (by omega)
def winE (win:Nat→Int×Int):Int:=if cntB win 4=true then (if ordB4 win 4=true then 0 else 7) else 4
def chkE (c:Cf):Int:=if setB c.sets=true then (if rangeB c=true then winE c.win else 3) else 5
theorem inB_iff {n a b:Int}:inB n a b=true↔a≤n∧n≤b:=by unfold inB;simp only[Bool.and_eq_true,decide_eq_true_eq]
theorem cwithin_any (n a b:Int) (w:World) (V:Bool) (hV:Hid (inB n a b=V)):Calls Tryz.prog 119 #[.int .i64 n,.int .i64 a,.int .i64 b] w fun r w'=>r=.returned (.bool V)∧w=w':=by
 have hv:=hV.out;unfold inB at hv;by_cases h:a≤n
 ·by_cases h2:n≤b
  ·have HE:Hid (true=V):=by rw[decide_eq_true h,decide_eq_true h2] at hv;exact hv
   clear hv hV;go_enter Tryz.func119,Tryz.ntmps119;go_wp2;go_ret;exact⟨by rw[←HE.out];rfl,rfl⟩
  ·have HE:Hid (false=V):=by rw[decide_eq_true h,decide_eq_false h2] at hv;exact hv
   clear hv hV;go_enter Tryz.func119,Tryz.ntmps119;go_wp2;go_ret;exact⟨by rw[←HE.out];rfl,rfl⟩
 ·have HE:Hid (false=V):=by rw[decide_eq_false h] at hv;exact hv
  clear hv hV;go_enter Tryz.func119,Tryz.ntmps119;go_wp2;go_ret;exact⟨by rw[←HE.out];rfl,rfl⟩
theorem z06_2 {p:Prop} (h:p:=by
 clear hrb
 go_wp2_with (first|(go_at_call 119;(with_reducible refine(Hb1.out _).mono ?_);rintro r w9 ⟨rfl,rfl⟩)|(go_at_call 119;(with_reducible refine(Hb3.out _).mono ?_);rintro r w9 ⟨rfl,rfl⟩)|(go_at_call 119;(with_reducible refine(Hb4.out _).mono ?_);rintro r w9 ⟨rfl,rfl⟩)|(go_at_call 119;(with_reducible refine(Hb5.out _).mono ?_);rintro r w9 ⟨rfl,rfl⟩)|(go_at_call 119;(with_reducible refine(Hb6.out _).mono ?_);rintro r w9 ⟨rfl,rfl⟩)|(go_at_call 119;(with_reducible refine(Hb7.out _).mono ?_);rintro r w9 ⟨rfl,rfl⟩))
 go_meet
 case rel=>exact⟨by rw[←HE.out];rfl,rfl⟩):p:=h
theorem z06_3 {p:Prop} (h:p:=by
 subst hm
 cases V with
 |false=>
  have HF:=bC (HE.out rfl)
  go_wp2_with (go_at_call 119;(with_reducible refine(HC.out _).mono ?_);rintro r w2 ⟨rfl,rfl⟩)
  go_ret
  exact⟨by rw[←HF.out];rfl,bU HB0.out (cJ hbw (Nat.le_refl _) _)⟩
 |true=>
  have HM:=bC (HN.out rfl)
  go_wp2_with (go_at_call 119;(with_reducible refine(HC.out _).mono ?_);rintro r w2 ⟨rfl,rfl⟩)
  go_roundw
  case rel=>
   repeat apply Exists.intro
   refine⟨?_,rfl⟩
   exact⟨k+1,by omega,by go_num,HM.out,cJ hbw (Nat.le_refl _) _⟩
  case measure=>simp [intOf];omega):p:=h
theorem ccheck_any (c:Cf) (sv:Value) (w:World) (hs:Rgs w sv c.sets) (E:Int) (hE:Hid (chkE c=E)):
  Calls Tryz.prog 70 #[.agg (CfC c sv)] w (IntPost w E):=by
 show Calls _ _ #[.agg #[sv,.int .i64 c.fi,.int .i64 c.la,.int .i64 c.re,.int .i64 c.ti,.int .i64 c.de,.int .i64 (c.win 0).1,.int .i64 (c.win 0).2,.int .i64 (c.win 1).1,.int .i64 (c.win 1).2,.int .i64 (c.win 2).1,.int .i64 (c.win 2).2,.int .i64 (c.win 3).1,.int .i64 (c.win 3).2,.int .i64 c.ev,.int .i64 c.st]] w _;obtain⟨W0,hW0,hb0,p0⟩:=alQ w (.cells #[sv,.int .i64 c.fi,.int .i64 c.la,.int .i64 c.re,.int .i64 c.ti,.int .i64 c.de,.int .i64 (c.win 0).1,.int .i64 (c.win 0).2,.int .i64 (c.win 1).1,.int .i64 (c.win 1).2,.int .i64 (c.win 2).1,.int .i64 (c.win 2).2,.int .i64 (c.win 3).1,.int .i64 (c.win 3).2,.int .i64 c.ev,.int .i64 c.st] 27);have x0:=cF p0 0 rfl;have x1:=cF p0 1 rfl;have x2:=cF p0 2 rfl;have x3:=cF p0 3 rfl;have x4:=cF p0 4 rfl;have x5:=cF p0 5 rfl;have x14:=cF p0 14 rfl;have x15:=cF p0 15 rfl;have x6:=cF p0 6 rfl;have x7:=cF p0 7 rfl;have x8:=cF p0 8 rfl;have x9:=cF p0 9 rfl;have x10:=cF p0 10 rfl;have x11:=cF p0 11 rfl;have x12:=cF p0 12 rfl;have x13:=cF p0 13 rfl;have k0:Below W0.heap.size W0 W0:=Below.refl _ _;have HI:Hid (∀(n a b:Int) (X:World) (V:Bool),Hid (inB n a b=V)→Calls Tryz.prog 119 #[.int .i64 n,.int .i64 a,.int .i64 b] X fun r w'=>r=.returned (.bool V)∧X=w'):=fun n a b X V h=>cwithin_any n a b X V h
 obtain⟨S,hS⟩:=gE (setB c.sets);have HSL:Hid (Calls Tryz.prog 99 #[sv] W0 (BoolPost W0 S)):=slist_any sv c.sets W0 (hs.keep hb0) S hS;have hee:=hE.out;unfold chkE at hee;rw[hS] at hee;have HW0:=bC hW0;have HB0:=bC hb0;clear hW0 hb0 p0 hs hS hE;cases S with
 |false=>
  have HE:Hid ((5:Int)=E):=by rw[if_neg (by decide)] at hee;exact hee
  clear hee x1 x2 x3 x4 x5 x6 x7 x8 x9 x10 x11 x12 x13 x14 x15;go_enter Tryz.func70,Tryz.ntmps70;go_upto_region 1 with(fail)
  rw[HW0.out];go_wp2_with (go_at_call 99;(with_reducible refine HSL.out.mono ?_);rintro r w1 ⟨rfl,hb1⟩);go_ret;exact⟨by rw[←HE.out];rfl,bU HB0.out hb1⟩
 |true=>
  rw[if_pos rfl] at hee;have HEE:=bC hee;clear hee;obtain⟨RB,hRB⟩:=gE (rangeB c);rw[hRB] at HEE;have HRB:=bC hRB;clear hRB;go_enter Tryz.func70,Tryz.ntmps70;go_upto_region 1 with(fail)
  rw[HW0.out];go_upto_region 3 with(go_at_call 99;(with_reducible refine HSL.out.mono ?_);rintro r w1 ⟨rfl,hb1⟩)
  go_cut [52] from 12 to 52 (fun q wc=>q=.bool (!RB)∧w1=wc)
  case first=>
   have hrb:=HRB.out;unfold rangeB at hrb;clear x0 x6 x7 x8 x9 x10 x11 x12 x13 HSL HEE;cases hb1:inB c.fi 1 c.la with
   |false=>
    have Hb1:Hid (∀X,Calls Tryz.prog 119 #[.int .i64 (c.fi),.int .i64 (1),.int .i64 (c.la)] X fun r w'=>r=.returned (.bool false)∧X=w'):=fun X=>HI.out _ _ _ X false hb1
    have HE:Hid (false=RB):=by rw[hb1] at hrb;exact hrb
    clear hrb;go_wp2_with (first|(go_at_call 119;(with_reducible refine(Hb1.out _).mono ?_);rintro r w9 ⟨rfl,rfl⟩));go_meet
    case rel=>exact⟨by rw[←HE.out];rfl,rfl⟩
   |true=>
   have Hb1:Hid (∀X,Calls Tryz.prog 119 #[.int .i64 (c.fi),.int .i64 (1),.int .i64 (c.la)] X fun r w'=>r=.returned (.bool true)∧X=w'):=fun X=>HI.out _ _ _ X true hb1
   by_cases hb2:247<c.la
   ·have h2f:decide (c.la≤247)=false:=decide_eq_false (by omega)
    have HE:Hid (false=RB):=by rw[hb1,h2f] at hrb;exact hrb
    clear hrb;go_wp2_with (first|(go_at_call 119;(with_reducible refine(Hb1.out _).mono ?_);rintro r w9 ⟨rfl,rfl⟩));go_meet
    case rel=>exact⟨by rw[←HE.out];rfl,rfl⟩
   have h2t:decide (c.la≤247)=true:=decide_eq_true (by omega);have h2n:decide (247<c.la)=false:=decide_eq_false (by omega);cases hb3:inB c.re 0 5 with
   |false=>
    have Hb3:Hid (∀X,Calls Tryz.prog 119 #[.int .i64 (c.re),.int .i64 (0),.int .i64 (5)] X fun r w'=>r=.returned (.bool false)∧X=w'):=fun X=>HI.out _ _ _ X false hb3
    have HE:Hid (false=RB):=by rw[hb1,h2t,hb3] at hrb;exact hrb
    clear hrb;go_wp2_with (first|(go_at_call 119;(with_reducible refine(Hb1.out _).mono ?_);rintro r w9 ⟨rfl,rfl⟩)|(go_at_call 119;(with_reducible refine(Hb3.out _).mono ?_);rintro r w9 ⟨rfl,rfl⟩));go_meet
    case rel=>exact⟨by rw[←HE.out];rfl,rfl⟩
   |true=>
   have Hb3:Hid (∀X,Calls Tryz.prog 119 #[.int .i64 (c.re),.int .i64 (0),.int .i64 (5)] X fun r w'=>r=.returned (.bool true)∧X=w'):=fun X=>HI.out _ _ _ X true hb3
   cases hb4:inB c.ti 1 5000000 with
   |false=>
    have Hb4:Hid (∀X,Calls Tryz.prog 119 #[.int .i64 (c.ti),.int .i64 (1),.int .i64 (5000000)] X fun r w'=>r=.returned (.bool false)∧X=w'):=fun X=>HI.out _ _ _ X false hb4
    have HE:Hid (false=RB):=by rw[hb1,h2t,hb3,hb4] at hrb;exact hrb
    clear hrb;go_wp2_with (first|(go_at_call 119;(with_reducible refine(Hb1.out _).mono ?_);rintro r w9 ⟨rfl,rfl⟩)|(go_at_call 119;(with_reducible refine(Hb3.out _).mono ?_);rintro r w9 ⟨rfl,rfl⟩)|(go_at_call 119;(with_reducible refine(Hb4.out _).mono ?_);rintro r w9 ⟨rfl,rfl⟩));go_meet
    case rel=>exact⟨by rw[←HE.out];rfl,rfl⟩
   |true=>
   have Hb4:Hid (∀X,Calls Tryz.prog 119 #[.int .i64 (c.ti),.int .i64 (1),.int .i64 (5000000)] X fun r w'=>r=.returned (.bool true)∧X=w'):=fun X=>HI.out _ _ _ X true hb4
   cases hb5:inB c.de 0 5000000 with
   |false=>
    have Hb5:Hid (∀X,Calls Tryz.prog 119 #[.int .i64 (c.de),.int .i64 (0),.int .i64 (5000000)] X fun r w'=>r=.returned (.bool false)∧X=w'):=fun X=>HI.out _ _ _ X false hb5
    have HE:Hid (false=RB):=by rw[hb1,h2t,hb3,hb4,hb5] at hrb;exact hrb
    clear hrb;go_wp2_with (first|(go_at_call 119;(with_reducible refine(Hb1.out _).mono ?_);rintro r w9 ⟨rfl,rfl⟩)|(go_at_call 119;(with_reducible refine(Hb3.out _).mono ?_);rintro r w9 ⟨rfl,rfl⟩)|(go_at_call 119;(with_reducible refine(Hb4.out _).mono ?_);rintro r w9 ⟨rfl,rfl⟩)|(go_at_call 119;(with_reducible refine(Hb5.out _).mono ?_);rintro r w9 ⟨rfl,rfl⟩));go_meet
    case rel=>exact⟨by rw[←HE.out];rfl,rfl⟩
   |true=>
   have Hb5:Hid (∀X,Calls Tryz.prog 119 #[.int .i64 (c.de),.int .i64 (0),.int .i64 (5000000)] X fun r w'=>r=.returned (.bool true)∧X=w'):=fun X=>HI.out _ _ _ X true hb5
   cases hb6:inB c.ev 1 64 with
   |false=>
    have Hb6:Hid (∀X,Calls Tryz.prog 119 #[.int .i64 (c.ev),.int .i64 (1),.int .i64 (64)] X fun r w'=>r=.returned (.bool false)∧X=w'):=fun X=>HI.out _ _ _ X false hb6
    have HE:Hid (false=RB):=by rw[hb1,h2t,hb3,hb4,hb5,hb6] at hrb;exact hrb
    clear hrb;go_wp2_with (first|(go_at_call 119;(with_reducible refine(Hb1.out _).mono ?_);rintro r w9 ⟨rfl,rfl⟩)|(go_at_call 119;(with_reducible refine(Hb3.out _).mono ?_);rintro r w9 ⟨rfl,rfl⟩)|(go_at_call 119;(with_reducible refine(Hb4.out _).mono ?_);rintro r w9 ⟨rfl,rfl⟩)|(go_at_call 119;(with_reducible refine(Hb5.out _).mono ?_);rintro r w9 ⟨rfl,rfl⟩)|(go_at_call 119;(with_reducible refine(Hb6.out _).mono ?_);rintro r w9 ⟨rfl,rfl⟩));go_meet
    case rel=>exact⟨by rw[←HE.out];rfl,rfl⟩
   |true=>
   have Hb6:Hid (∀X,Calls Tryz.prog 119 #[.int .i64 (c.ev),.int .i64 (1),.int .i64 (64)] X fun r w'=>r=.returned (.bool true)∧X=w'):=fun X=>HI.out _ _ _ X true hb6
   cases hb7:inB c.st 0 1000000 with
   |false=>
    have Hb7:Hid (∀X,Calls Tryz.prog 119 #[.int .i64 (c.st),.int .i64 (0),.int .i64 (1000000)] X fun r w'=>r=.returned (.bool false)∧X=w'):=fun X=>HI.out _ _ _ X false hb7
    have HE:Hid (false=RB):=by rw[hb1,h2t,hb3,hb4,hb5,hb6,hb7] at hrb;exact hrb
    exact z06_2
   |true=>
   have Hb7:Hid (∀X,Calls Tryz.prog 119 #[.int .i64 (c.st),.int .i64 (0),.int .i64 (1000000)] X fun r w'=>r=.returned (.bool true)∧X=w'):=fun X=>HI.out _ _ _ X true hb7
   have HE:Hid (true=RB):=by rw[hb1,h2t,hb3,hb4,hb5,hb6,hb7] at hrb;exact hrb
   exact z06_2
  case rest=>
   obtain⟨rfl,rfl⟩:=hcut;cases RB with
   |false=>
    have HE:Hid ((3:Int)=E):=by have:=HEE.out;rw[if_neg (by decide)] at this;exact this
    clear x0 x1 x2 x3 x4 x5 x6 x7 x8 x9 x10 x11 x12 x13 x14 x15;go_wp2;go_ret;exact⟨by rw[←HE.out];rfl,bU HB0.out hb1⟩
   |true=>
    have HW:Hid (winE c.win=E):=by have:=HEE.out;rw[if_pos rfl] at this;exact this
    clear x0 x1 x2 x3 x4 x5 x14 x15 HSL HEE;go_wp2_with fail;go_loopw [55] (fun iv wr=>∃k:Nat,k≤4∧iv=.int .i64 k∧Hid (cntB c.win k=true)∧Below W0.heap.size W0 wr) (fun iv _=>4- (intOf iv).toNat)
    case atStart=>exact⟨0,by omega,rfl,rfl,hb1⟩
    case round=>
     obtain⟨k,hk,rfl,hcb,hbw⟩:=hrel;by_cases hlt:k<4
     ·have hki:(0:Int)≤(k:Int):=Int.natCast_nonneg _
      have hkl:(k:Int)<4:=by omega
      have hix:=win_index c.win k hlt;clear x6 x7 x8 x9 x10 x11 x12 x13;obtain⟨V,hV⟩:=gE (inB (c.win k).2 0 512);have HV:=bC hV;clear hV;have HC:Hid (∀X,Calls Tryz.prog 119 #[.int .i64 (c.win k).2,.int .i64 0,.int .i64 512] X fun r w'=>r=.returned (.bool V)∧X=w'):=fun X=>HI.out _ _ _ X V HV
      cases V with
      |false=>
       have HE:Hid ((4:Int)=E):=by
        have h:=HW.out;unfold winE at h;rw[cntB_no HV.out 4 hlt,if_neg (by decide)] at h;exact h
       go_wp2_with (go_at_call 119;(with_reducible refine(HC.out _).mono ?_);rintro r w2 ⟨rfl,rfl⟩);go_ret;exact⟨by rw[←HE.out];rfl,bU HB0.out (cJ hbw (Nat.le_refl _) _)⟩
      |true=>
       have HN:Hid (cntB c.win (k+1)=true):=by show (cntB c.win k&&inB (c.win k).2 0 512)=true;rw[hcb.out,HV.out];rfl
       go_wp2_with (go_at_call 119;(with_reducible refine(HC.out _).mono ?_);rintro r w2 ⟨rfl,rfl⟩);go_roundw
       case rel=>
        repeat apply Exists.intro
        refine⟨?_,rfl⟩;exact⟨k+1,by omega,by go_num,HN.out,cJ hbw (Nat.le_refl _) _⟩
       case measure=>simp [intOf];omega
     ·obtain rfl:k=4:=by omega
      have HCB:=bC hcb.out;go_wp2_with fail;go_loopw [6,7,65] (fun _ _ iv wr'=>∃k:Nat,k≤4∧iv=.int .i64 k∧Hid (ordB4 c.win k=true)∧Below W0.heap.size W0 wr') (fun _ _ iv _=>4- (intOf iv).toNat)
      case atStart=>exact⟨0,by omega,rfl,rfl,hbw⟩
      case round=>
       obtain⟨k,hk,rfl,hob,hbw⟩:=hrel;clear x6 x7 x8 x9 x10 x11 x12 x13;by_cases hlt:k<4
       ·have hki:(0:Int)≤(k:Int):=Int.natCast_nonneg _
        have hkl:(k:Int)<4:=by omega
        have hix:=win_index c.win k hlt;have hcn:=inB_iff.1 (cntB_at 4 HCB.out k hlt);obtain⟨m,hm⟩:∃m,(if 0<(c.win k).2 then 65536- (c.win k).2 else 0)=m:=⟨_,rfl⟩
        obtain⟨V,hV⟩:∃V,inB (c.win k).1 0 (if 0<(c.win k).2 then 65536- (c.win k).2 else 0)=V:=⟨_,rfl⟩
        have HVV:=bC hV;have HC:Hid (∀X,Calls Tryz.prog 119 #[.int .i64 (c.win k).1,.int .i64 0,.int .i64 m] X fun r w'=>r=.returned (.bool V)∧X=w'):=fun X=>HI.out _ _ _ X V (by rw[←hm];exact hV)
        have sw:IntKind.i64.wrap (65536- (c.win k).2)=65536- (c.win k).2:=IntWalk.i64_in _ (by omega);have HE:Hid (V=false→(7:Int)=E):=fun e=>by
         subst e;have h:=HW.out;unfold winE at h;rw[HCB.out,if_pos rfl,ordB4_no HVV.out 4 hlt,if_neg (by decide)] at h;exact h
        have HN:Hid (V=true→ordB4 c.win (k+1)=true):=fun e=>by
         subst e;show (ordB4 c.win k&&inB (c.win k).1 0 (if 0<(c.win k).2 then 65536- (c.win k).2 else 0))=true;rw[hob.out,HVV.out];rfl
        clear hV hcn;by_cases hc:0<(c.win k).2
        ·rw [if_pos hc] at hm
         exact z06_3
        ·rw [if_neg hc] at hm
         exact z06_3
       ·obtain rfl:k=4:=by omega
        have HE:Hid ((0:Int)=E):=by
         have h:=HW.out;unfold winE at h;rw[HCB.out,if_pos rfl,hob.out,if_pos rfl] at h;exact h
        go_wp2;go_ret;exact⟨by rw[←HE.out];rfl,bU HB0.out hbw⟩
theorem rin_any (n a b:Int) (w:World) (V:Bool) (hV:Hid (inB n a b=V)):Calls Tryz.prog 77 #[.int .i64 n,.int .i64 a,.int .i64 b] w fun r w'=>r=.returned (.bool V)∧w=w':=by
 have hv:=hV.out;unfold inB at hv;by_cases h:a≤n
 ·by_cases h2:n≤b
  ·have HE:Hid (true=V):=by rw[decide_eq_true h,decide_eq_true h2] at hv;exact hv
   clear hv hV;go_enter Tryz.func77,Tryz.ntmps77;go_wp2;go_ret;exact⟨by rw[←HE.out];rfl,rfl⟩
  ·have HE:Hid (false=V):=by rw[decide_eq_true h,decide_eq_false h2] at hv;exact hv
   clear hv hV;go_enter Tryz.func77,Tryz.ntmps77;go_wp2;go_ret;exact⟨by rw[←HE.out];rfl,rfl⟩
 ·have HE:Hid (false=V):=by rw[decide_eq_false h] at hv;exact hv
  clear hv hV;go_enter Tryz.func77,Tryz.ntmps77;go_wp2;go_ret;exact⟨by rw[←HE.out];rfl,rfl⟩
theorem rwindows_any (win:Nat→Int×Int) (w:World) (E:Int) (hE:Hid (winE win=E)):
  Calls Tryz.prog 78 #[.agg #[.int .i64 (win 0).1,.int .i64 (win 0).2,.int .i64 (win 1).1,.int .i64 (win 1).2,.int .i64 (win 2).1,.int .i64 (win 2).2,.int .i64 (win 3).1,.int .i64 (win 3).2]] w (IntPost w E):=by
 obtain⟨W1,hW1⟩:∃W,w.alloc (.cells #[.int .i64 (win 0).1,.int .i64 (win 0).2,.int .i64 (win 1).1,.int .i64 (win 1).2,.int .i64 (win 2).1,.int .i64 (win 2).2,.int .i64 (win 3).1,.int .i64 (win 3).2] 25)=W:=⟨_,rfl⟩
 have hb1:Below w.heap.size w W1:=by rw[←hW1];exact bH w _
 have p1:WgI W1 w.heap.size win:=by rw[←hW1];exact bI w _
 have HW1:=bC hW1;have HB1:=bC hb1;have P1:=bC p1;have HI:Hid (∀(n a b:Int) (X:World) (V:Bool),Hid (inB n a b=V)→Calls Tryz.prog 77 #[.int .i64 n,.int .i64 a,.int .i64 b] X fun r w'=>r=.returned (.bool V)∧X=w'):=fun n a b X V h=>rin_any n a b X V h
 clear hW1 hb1 p1;go_enter Tryz.func78,Tryz.ntmps78;go_upto_region 1 with(fail)
 rw[HW1.out];go_wp2_with fail;go_loopw [3] (fun iv wr=>∃k:Nat,k≤4∧iv=.int .i64 (k:Int)∧Hid (cntB win k=true)∧Below W1.heap.size W1 wr) (fun iv _=>4- (intOf iv).toNat)
 case atStart=>exact⟨0,by omega,rfl,rfl,Below.refl _ _⟩
 case round=>
  obtain⟨k,hk,rfl,hcb,hbw⟩:=hrel;have hki:(0:Int)≤(k:Int):=Int.natCast_nonneg _;by_cases hlt:k<4
  ·have hkl:(k:Int)<4:=by omega
   have y1:wr.cell? ⟨w.heap.size,k*2+1,none⟩=some (.int .i64 (win k).2):=WgI.count (bB P1.out hbw) hlt;obtain⟨V,hV⟩:=gE (inB (win k).2 0 512);have HV:=bC hV;clear hV;have HC:Hid (∀X,Calls Tryz.prog 77 #[.int .i64 (win k).2,.int .i64 0,.int .i64 512] X fun r w'=>r=.returned (.bool V)∧X=w'):=fun X=>HI.out _ _ _ X V HV
   cases V with
   |false=>
    have HE:Hid ((4:Int)=E):=by
     have h:=hE.out;unfold winE at h;rw[cntB_no HV.out 4 hlt,if_neg (by decide)] at h;exact h
    go_wp2_with (go_at_call 77;(with_reducible refine(HC.out _).mono ?_);rintro r w2 ⟨rfl,rfl⟩);go_ret;exact⟨by rw[←HE.out];rfl,bU HB1.out hbw⟩
   |true=>
    have HN:Hid (cntB win (k+1)=true):=by show (cntB win k&&inB (win k).2 0 512)=true;rw[hcb.out,HV.out];rfl
    go_wp2_with (go_at_call 77;(with_reducible refine(HC.out _).mono ?_);rintro r w2 ⟨rfl,rfl⟩);go_roundw
    case rel=>exact⟨k+1,by omega,by go_num,HN.out,hbw⟩
    case measure=>simp [intOf];omega
  ·obtain rfl:k=4:=by omega
   have HCB:=bC hcb.out;clear hcb;go_wp2_with fail;go_loopw [4] (fun iv wr=>∃k:Nat,k≤4∧iv=.int .i64 (k:Int)∧Hid (ordB4 win k=true)∧Below W1.heap.size W1 wr) (fun iv _=>4- (intOf iv).toNat)
   case atStart=>exact⟨0,by omega,rfl,rfl,hbw⟩
   case round=>
    clear hbw;obtain⟨k,hk,rfl,hob,hbw⟩:=hrel;have hki:(0:Int)≤(k:Int):=Int.natCast_nonneg _;by_cases hlt:k<4
    ·have hkl:(k:Int)<4:=by omega
     have y1:wr.cell? ⟨w.heap.size,k*2+1,none⟩=some (.int .i64 (win k).2):=WgI.count (bB P1.out hbw) hlt;have y0:wr.cell? ⟨w.heap.size,k*2,none⟩=some (.int .i64 (win k).1):=WgI.first (bB P1.out hbw) hlt;have hcn:=inB_iff.1 (cntB_at 4 HCB.out k hlt);obtain⟨m,hm⟩:∃m,(if 0<(win k).2 then 65536- (win k).2 else 0)=m:=⟨_,rfl⟩
     obtain⟨V,hV⟩:∃V,inB (win k).1 0 (if 0<(win k).2 then 65536- (win k).2 else 0)=V:=⟨_,rfl⟩
     have HVV:=bC hV;have HE:Hid (V=false→(7:Int)=E):=fun e=>by
      subst e;have h:=hE.out;unfold winE at h;rw[HCB.out,if_pos rfl,ordB4_no HVV.out 4 hlt,if_neg (by decide)] at h;exact h
     have HN:Hid (V=true→ordB4 win (k+1)=true):=fun e=>by
      subst e;show (ordB4 win k&&inB (win k).1 0 (if 0<(win k).2 then 65536- (win k).2 else 0))=true;rw[hob.out,HVV.out];rfl
     by_cases hc:(win k).2=0
     ·have d1:=b1 hc
      have d3:decide (0<(win k).2)=false:=decide_eq_false (by omega);have hVm:V=decide ((win k).1=0):=by
       rw[←hV,if_neg (by omega)];unfold inB;by_cases e:(win k).1=0
       ·rw [e];rfl
       ·rw [decide_eq_false e]
        by_cases e2:0≤(win k).1
        ·rw [decide_eq_true e2,decide_eq_false (by omega)];rfl
        ·rw [decide_eq_false e2];rfl
      by_cases he:(win k).1=0
      ·have d2:((win k).1 !=0)=false:=by rw[bne_eq_false_iff_eq];exact he
       have HVT:Hid (V=true):=by rw[hVm,decide_eq_true he];rfl
       clear hc hm hV hVm he hcn;go_upto_region 9 with(fail)
       go_quiet (fail);go_wp2;go_roundw
       case rel=>exact⟨k+1,by omega,by go_num,HN.out HVT.out,below_drewN hbw _⟩
       case measure=>simp [intOf];omega
      ·have d2:((win k).1 !=0)=true:=by rw[bne_iff_ne];exact he
       have HVF:Hid (V=false):=by rw[hVm,decide_eq_false he];rfl
       clear hc hm hV hVm he hcn;go_upto_region 9 with(fail)
       go_quiet (fail);go_wp2;go_ret;exact⟨by rw[←HE.out HVF.out];rfl,bU HB1.out (below_drewN hbw _)⟩
     ·have hc2:0<(win k).2:=by omega
      have d1:=b0 hc;have d3:decide (0<(win k).2)=true:=decide_eq_true hc2;rw[if_pos hc2] at hm hV;rw[hm] at hV;have sw:IntKind.i64.wrap (65536- (win k).2)=m:=(IntWalk.i64_in _ (by omega)).trans hm;have HC:Hid (∀X,Calls Tryz.prog 77 #[.int .i64 (win k).1,.int .i64 0,.int .i64 m] X fun r w'=>r=.returned (.bool V)∧X=w'):=fun X=>HI.out _ _ _ X V hV
      clear hc hc2 hm hV hcn;have y1':∀X,Below wr.heap.size wr X→X.cell? ⟨w.heap.size,k*2+1,none⟩=some (.int .i64 (win k).2):=fun X h=>bD h y1
      have y0':∀X,Below wr.heap.size wr X→X.cell? ⟨w.heap.size,k*2,none⟩=some (.int .i64 (win k).1):=fun X h=>bD h y0
      have kD:Below wr.heap.size wr wr.drew:=(Below.refl _ _).drew;clear y0 y1;go_upto_region 9 with(fail)
      go_cut [50] from 19 to 50 (fun s50 wc=>s50=.bool (!V)∧Below wr.heap.size wr wc)
      case first=>
       refine wp_region_held_drew (S:=fun V=>Below wr.heap.size wr V) (by kernel_rfl) kD (fun hH=>?_);refine tG 0 19 ?_;refine tG 1 20 ?_;refine tG 2 21 ?_;refine tG 3 22 ?_;refine tG 4 23 ?_;refine tG 5 24 ?_;refine tU 6 25 ?_;refine tU 7 26 ?_;refine tU 8 27 ?_;refine tU 9 28 ?_;refine tU 10 29 ?_;refine tG 11 30 ?_;refine tG 12 31 ?_;refine tG 13 32 ?_;refine tG 14 33 ?_;refine tG 15 34 ?_;refine tG 16 35 ?_;refine tG 17 36 ?_;refine tG 18 37 ?_;refine tG 19 38 ?_;refine tG 20 39 ?_;refine tG 21 40 ?_;refine tG 22 41 ?_;refine tG 23 42 ?_;refine tG 24 43 ?_;refine tG 25 44 ?_;refine tG 26 45 ?_;refine tG 27 46 ?_;clear hH;refine wpAnyH_ready (rs:=[28]) (by kernel_rfl) (by simp) ?_;refine AllReadyH.cons rfl (fun K hK=>?_) AllReadyH.nil;go_simp;refine(HC.out _).mono ?_;rintro r w2 ⟨rfl,rfl⟩;refine hK.out _ _ kD (fun hSx=>?_);clear hK K hSx;refine tG 29 48 ?_;refine tG 30 49 ?_;refine tG 31 50 ?_;refine wpAnyH_done (by kernel_rfl) ?_ _;go_wp2;go_meet
       case rel=>exact⟨rfl,kD⟩
      case rest=>
       obtain⟨rfl,hbc⟩:=hcut;have hbw2:=bU hbw hbc;clear y0' y1' kD;cases V with
       |true=>
        have HM:=bC (HN.out rfl);go_wp2;go_roundw
        case rel=>exact⟨k+1,by omega,by go_num,HM.out,hbw2⟩
        case measure=>simp [intOf];omega
       |false=>
        have HF:=bC (HE.out rfl);go_wp2;go_ret;exact⟨by rw[←HF.out];rfl,bU HB1.out hbw2⟩
    ·obtain rfl:k=4:=by omega
     have HE:Hid ((0:Int)=E):=by
      have h:=hE.out;unfold winE at h;rw[HCB.out,if_pos rfl,hob.out,if_pos rfl] at h;exact h
     go_wp2;go_ret;exact⟨by rw[←HE.out];rfl,bU HB1.out hbw⟩
theorem z06_4 {p:Prop} (h:p:=by
 clear hrb
 go_wp2_with (first|(go_at_call 77;(with_reducible refine(Hb3.out _).mono ?_);rintro r w9 ⟨rfl,rfl⟩)|(go_at_call 77;(with_reducible refine(Hb4.out _).mono ?_);rintro r w9 ⟨rfl,rfl⟩)|(go_at_call 77;(with_reducible refine(Hb5.out _).mono ?_);rintro r w9 ⟨rfl,rfl⟩)|(go_at_call 77;(with_reducible refine(Hb6.out _).mono ?_);rintro r w9 ⟨rfl,rfl⟩)|(go_at_call 77;(with_reducible refine(Hb7.out _).mono ?_);rintro r w9 ⟨rfl,rfl⟩))
 go_meet
 case rel=>exact⟨by rw[←HE.out];rfl,rfl⟩):p:=h
theorem rcfcheck_any (c:Cf) (sv:Value) (w:World) (hs:Rgs w sv c.sets) (E:Int) (hE:Hid (chkE c=E)):
  Calls Tryz.prog 29 #[.agg (CfC c sv)] w (IntPost w E):=by
 show Calls _ _ #[.agg #[sv,.int .i64 c.fi,.int .i64 c.la,.int .i64 c.re,.int .i64 c.ti,.int .i64 c.de,.int .i64 (c.win 0).1,.int .i64 (c.win 0).2,.int .i64 (c.win 1).1,.int .i64 (c.win 1).2,.int .i64 (c.win 2).1,.int .i64 (c.win 2).2,.int .i64 (c.win 3).1,.int .i64 (c.win 3).2,.int .i64 c.ev,.int .i64 c.st]] w _;obtain⟨W0,hW0,hb0,p0⟩:=alQ w (.cells #[sv,.int .i64 c.fi,.int .i64 c.la,.int .i64 c.re,.int .i64 c.ti,.int .i64 c.de,.int .i64 (c.win 0).1,.int .i64 (c.win 0).2,.int .i64 (c.win 1).1,.int .i64 (c.win 1).2,.int .i64 (c.win 2).1,.int .i64 (c.win 2).2,.int .i64 (c.win 3).1,.int .i64 (c.win 3).2,.int .i64 c.ev,.int .i64 c.st] 27);have x0:=cF p0 0 rfl;have x1:=cF p0 1 rfl;have x2:=cF p0 2 rfl;have x3:=cF p0 3 rfl;have x4:=cF p0 4 rfl;have x5:=cF p0 5 rfl;have x14:=cF p0 14 rfl;have x15:=cF p0 15 rfl;have x6:=cF p0 6 rfl;have x7:=cF p0 7 rfl;have x8:=cF p0 8 rfl;have x9:=cF p0 9 rfl;have x10:=cF p0 10 rfl;have x11:=cF p0 11 rfl;have x12:=cF p0 12 rfl;have x13:=cF p0 13 rfl;have k0:Below W0.heap.size W0 W0:=Below.refl _ _;have HI:Hid (∀(n a b:Int) (X:World) (V:Bool),Hid (inB n a b=V)→Calls Tryz.prog 77 #[.int .i64 n,.int .i64 a,.int .i64 b] X fun r w'=>r=.returned (.bool V)∧X=w'):=fun n a b X V h=>rin_any n a b X V h
 obtain⟨S,hS⟩:=gE (setB c.sets);have HSL:Hid (Calls Tryz.prog 76 #[sv] W0 (BoolPost W0 S)):=rlist_any sv c.sets W0 (hs.keep hb0) S hS;have hee:=hE.out;unfold chkE at hee;rw[hS] at hee;have HW0:=bC hW0;have HB0:=bC hb0;clear hW0 hb0 p0 hs hS hE;cases S with
 |false=>
  have HE:Hid ((5:Int)=E):=by rw[if_neg (by decide)] at hee;exact hee
  clear hee x1 x2 x3 x4 x5 x6 x7 x8 x9 x10 x11 x12 x13 x14 x15;go_enter Tryz.func29,Tryz.ntmps29;go_upto_region 1 with(fail)
  rw[HW0.out];go_wp2_with (go_at_call 76;(with_reducible refine HSL.out.mono ?_);rintro r w1 ⟨rfl,hb1⟩);go_ret;exact⟨by rw[←HE.out];rfl,bU HB0.out hb1⟩
 |true=>
  rw[if_pos rfl] at hee;have HEE:=bC hee;clear hee;obtain⟨RB,hRB⟩:=gE (rangeB c);rw[hRB] at HEE;have HRB:=bC hRB;clear hRB;go_enter Tryz.func29,Tryz.ntmps29;go_upto_region 1 with(fail)
  rw[HW0.out];go_upto_region 3 with(go_at_call 76;(with_reducible refine HSL.out.mono ?_);rintro r w1 ⟨rfl,hb1⟩)
  go_cut [51] from 7 to 51 (fun q wc=>q=.bool (!RB)∧w1=wc)
  case first=>
   have hrb:=HRB.out;unfold rangeB at hrb;clear x0 x6 x7 x8 x9 x10 x11 x12 x13 HSL HEE;by_cases ha:c.fi<1
   ·have h1f:inB c.fi 1 c.la=false:=by unfold inB;rw[decide_eq_false (by omega)];rfl
    have HE:Hid (false=RB):=by rw[h1f] at hrb;exact hrb
    clear hrb;go_wp2_with fail;go_meet
    case rel=>exact⟨by rw[←HE.out];rfl,rfl⟩
   by_cases hb:c.la<c.fi
   ·have h1f:inB c.fi 1 c.la=false:=by unfold inB;rw[decide_eq_false (by omega:¬c.fi≤c.la),Bool.and_false]
    have HE:Hid (false=RB):=by rw[h1f] at hrb;exact hrb
    clear hrb;go_wp2_with fail;go_meet
    case rel=>exact⟨by rw[←HE.out];rfl,rfl⟩
   have h1t:inB c.fi 1 c.la=true:=inB_iff.2 ⟨by omega,by omega⟩;by_cases hc:247<c.la
   ·have h2f:decide (c.la≤247)=false:=decide_eq_false (by omega)
    have HE:Hid (false=RB):=by rw[h1t,h2f] at hrb;exact hrb
    clear hrb;go_wp2_with fail;go_meet
    case rel=>exact⟨by rw[←HE.out];rfl,rfl⟩
   have h2t:decide (c.la≤247)=true:=decide_eq_true (by omega);have h2n:decide (247<c.la)=false:=decide_eq_false (by omega);cases hb3:inB c.re 0 5 with
   |false=>
    have Hb3:Hid (∀X,Calls Tryz.prog 77 #[.int .i64 (c.re),.int .i64 (0),.int .i64 (5)] X fun r w'=>r=.returned (.bool false)∧X=w'):=fun X=>HI.out _ _ _ X false hb3
    have HE:Hid (false=RB):=by rw[h1t,h2t,hb3] at hrb;exact hrb
    clear hrb;go_wp2_with (first|(go_at_call 77;(with_reducible refine(Hb3.out _).mono ?_);rintro r w9 ⟨rfl,rfl⟩));go_meet
    case rel=>exact⟨by rw[←HE.out];rfl,rfl⟩
   |true=>
   have Hb3:Hid (∀X,Calls Tryz.prog 77 #[.int .i64 (c.re),.int .i64 (0),.int .i64 (5)] X fun r w'=>r=.returned (.bool true)∧X=w'):=fun X=>HI.out _ _ _ X true hb3
   cases hb4:inB c.ti 1 5000000 with
   |false=>
    have Hb4:Hid (∀X,Calls Tryz.prog 77 #[.int .i64 (c.ti),.int .i64 (1),.int .i64 (5000000)] X fun r w'=>r=.returned (.bool false)∧X=w'):=fun X=>HI.out _ _ _ X false hb4
    have HE:Hid (false=RB):=by rw[h1t,h2t,hb3,hb4] at hrb;exact hrb
    clear hrb;go_wp2_with (first|(go_at_call 77;(with_reducible refine(Hb3.out _).mono ?_);rintro r w9 ⟨rfl,rfl⟩)|(go_at_call 77;(with_reducible refine(Hb4.out _).mono ?_);rintro r w9 ⟨rfl,rfl⟩));go_meet
    case rel=>exact⟨by rw[←HE.out];rfl,rfl⟩
   |true=>
   have Hb4:Hid (∀X,Calls Tryz.prog 77 #[.int .i64 (c.ti),.int .i64 (1),.int .i64 (5000000)] X fun r w'=>r=.returned (.bool true)∧X=w'):=fun X=>HI.out _ _ _ X true hb4
   cases hb5:inB c.de 0 5000000 with
   |false=>
    have Hb5:Hid (∀X,Calls Tryz.prog 77 #[.int .i64 (c.de),.int .i64 (0),.int .i64 (5000000)] X fun r w'=>r=.returned (.bool false)∧X=w'):=fun X=>HI.out _ _ _ X false hb5
    have HE:Hid (false=RB):=by rw[h1t,h2t,hb3,hb4,hb5] at hrb;exact hrb
    clear hrb;go_wp2_with (first|(go_at_call 77;(with_reducible refine(Hb3.out _).mono ?_);rintro r w9 ⟨rfl,rfl⟩)|(go_at_call 77;(with_reducible refine(Hb4.out _).mono ?_);rintro r w9 ⟨rfl,rfl⟩)|(go_at_call 77;(with_reducible refine(Hb5.out _).mono ?_);rintro r w9 ⟨rfl,rfl⟩));go_meet
    case rel=>exact⟨by rw[←HE.out];rfl,rfl⟩
   |true=>
   have Hb5:Hid (∀X,Calls Tryz.prog 77 #[.int .i64 (c.de),.int .i64 (0),.int .i64 (5000000)] X fun r w'=>r=.returned (.bool true)∧X=w'):=fun X=>HI.out _ _ _ X true hb5
   cases hb6:inB c.ev 1 64 with
   |false=>
    have Hb6:Hid (∀X,Calls Tryz.prog 77 #[.int .i64 (c.ev),.int .i64 (1),.int .i64 (64)] X fun r w'=>r=.returned (.bool false)∧X=w'):=fun X=>HI.out _ _ _ X false hb6
    have HE:Hid (false=RB):=by rw[h1t,h2t,hb3,hb4,hb5,hb6] at hrb;exact hrb
    clear hrb;go_wp2_with (first|(go_at_call 77;(with_reducible refine(Hb3.out _).mono ?_);rintro r w9 ⟨rfl,rfl⟩)|(go_at_call 77;(with_reducible refine(Hb4.out _).mono ?_);rintro r w9 ⟨rfl,rfl⟩)|(go_at_call 77;(with_reducible refine(Hb5.out _).mono ?_);rintro r w9 ⟨rfl,rfl⟩)|(go_at_call 77;(with_reducible refine(Hb6.out _).mono ?_);rintro r w9 ⟨rfl,rfl⟩));go_meet
    case rel=>exact⟨by rw[←HE.out];rfl,rfl⟩
   |true=>
   have Hb6:Hid (∀X,Calls Tryz.prog 77 #[.int .i64 (c.ev),.int .i64 (1),.int .i64 (64)] X fun r w'=>r=.returned (.bool true)∧X=w'):=fun X=>HI.out _ _ _ X true hb6
   cases hb7:inB c.st 0 1000000 with
   |false=>
    have Hb7:Hid (∀X,Calls Tryz.prog 77 #[.int .i64 (c.st),.int .i64 (0),.int .i64 (1000000)] X fun r w'=>r=.returned (.bool false)∧X=w'):=fun X=>HI.out _ _ _ X false hb7
    have HE:Hid (false=RB):=by rw[h1t,h2t,hb3,hb4,hb5,hb6,hb7] at hrb;exact hrb
    exact z06_4
   |true=>
   have Hb7:Hid (∀X,Calls Tryz.prog 77 #[.int .i64 (c.st),.int .i64 (0),.int .i64 (1000000)] X fun r w'=>r=.returned (.bool true)∧X=w'):=fun X=>HI.out _ _ _ X true hb7
   have HE:Hid (true=RB):=by rw[h1t,h2t,hb3,hb4,hb5,hb6,hb7] at hrb;exact hrb
   exact z06_4
  case rest=>
   obtain⟨rfl,rfl⟩:=hcut;cases RB with
   |false=>
    have HE:Hid ((3:Int)=E):=by have:=HEE.out;rw[if_neg (by decide)] at this;exact this
    clear x0 x1 x2 x3 x4 x5 x6 x7 x8 x9 x10 x11 x12 x13 x14 x15;go_wp2;go_ret;exact⟨by rw[←HE.out];rfl,bU HB0.out hb1⟩
   |true=>
    have HW:Hid (winE c.win=E):=by have:=HEE.out;rw[if_pos rfl] at this;exact this
    have HWI:Hid (∀X,Calls Tryz.prog 78 #[.agg #[.int .i64 (c.win 0).1,.int .i64 (c.win 0).2,.int .i64 (c.win 1).1,.int .i64 (c.win 1).2,.int .i64 (c.win 2).1,.int .i64 (c.win 2).2,.int .i64 (c.win 3).1,.int .i64 (c.win 3).2]] X (IntPost X E)):=fun X=>rwindows_any c.win X E HW
    clear x0 x1 x2 x3 x4 x5 x14 x15 HSL HEE;go_wp2_with (go_at_call 78;(with_reducible refine(HWI.out _).mono ?_);rintro r w4 ⟨rfl,hb4⟩);go_ret;exact⟨rfl,bU (bU HB0.out hb1) hb4⟩
end Go.Proofs.YtoaoejaodhedaaaGreat
