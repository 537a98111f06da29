import Derived.Test.YtoaoejaodhedaaaGreatQ31
namespace Go.Proofs.YtoaoejaodhedaaaGreat
open Go.RowKit
set_option maxHeartbeats 3200000
set_option maxRecDepth 100000
def Refused (w:World) (e:Int) (r:Ending) (w':World):Prop:=r=.returned (.int .i64 e)∧Below w.heap.size w w'
theorem begin_range (g:Nat) (s:Lk) (unit qf qa qq qc qo tick:Int) (w:World) (hl:LkAt w g s) (hph:s.ph=0∨s.ph=5) (hr:¬(1≤unit∧unit≤247∧s.now≤tick∧tick≤1152921504606846976)):
  Calls Tryz.prog 73 #[.pointer (some ⟨g,0,none⟩),.int .i64 unit,.agg #[.int .i64 qf,.int .i64 qa,.int .i64 qq,.int .i64 qc,.int .i64 qo],.int .i64 tick] w (Refused w 3):=by
 have hg:=hl.lt;have c5:w.cell? ⟨g,5,none⟩=some (.int .i64 0)∨w.cell? ⟨g,5,none⟩=some (.int .i64 5):=by
  rw[hl.cell 5];rcases hph with h|h
  ·left;simp [Lk.cells,h]
  ·right;simp [Lk.cells,h]
 have c13:w.cell? ⟨g,13,none⟩=some (.int .i64 s.now):=hl.cell 13;obtain⟨V,hV⟩:∃V,(decide (1≤unit)&&decide (unit≤247))=V:=⟨_,rfl⟩
 obtain⟨V',hV'⟩:∃V',(decide (s.now≤tick)&&decide (tick≤1152921504606846976))=V':=⟨_,rfl⟩
 have hd:V=false∨(V=true∧V'=false):=by
  cases V with
  |false=>exact .inl rfl
  |true=>
   refine .inr ⟨rfl,?_⟩;cases V' with
   |false=>rfl
   |true=>simp at hV hV';omega
 replace hV:=bC hV;replace hV':=bC hV';clear hl hph hr;rcases hd with rfl|⟨rfl,rfl⟩<;>rcases c5 with c5|c5
 all_goals
  go_enter Tryz.func73,Tryz.ntmps73;go_wp2_with (first|(go_at_call 104;(with_reducible refine(bY unit 1 247 _ _ hV).mono ?_);rintro r wi ⟨rfl,rfl⟩)|(go_at_call 104;(with_reducible refine(bY tick s.now 1152921504606846976 _ _ hV').mono ?_);rintro r wi ⟨rfl,rfl⟩));go_ret;exact⟨rfl,bH w _⟩
theorem begin_form (g:Nat) (s:Lk) (unit qf qa qq qc qo tick:Int) (w:World) (hl:LkAt w g s) (hph:s.ph=0∨s.ph=5) (h1:1≤unit) (h2:unit≤247) (h3:s.now≤tick) (h4:tick≤1152921504606846976) (hq:Rq.ok ⟨qf,qa,qq,qc,qo⟩=false):
  Calls Tryz.prog 73 #[.pointer (some ⟨g,0,none⟩),.int .i64 unit,.agg #[.int .i64 qf,.int .i64 qa,.int .i64 qq,.int .i64 qc,.int .i64 qo],.int .i64 tick] w (Refused w 5):=by
 have hg:=hl.lt;have c5:w.cell? ⟨g,5,none⟩=some (.int .i64 0)∨w.cell? ⟨g,5,none⟩=some (.int .i64 5):=by
  rw[hl.cell 5];rcases hph with h|h
  ·left;simp [Lk.cells,h]
  ·right;simp [Lk.cells,h]
 have c13:w.cell? ⟨g,13,none⟩=some (.int .i64 s.now):=hl.cell 13;have V1:Hid ((decide (1≤unit)&&decide (unit≤247))=true):=by show _=_;rw[decide_eq_true h1,decide_eq_true h2];rfl
 have V2:Hid ((decide (s.now≤tick)&&decide (tick≤1152921504606846976))=true):=by show _=_;rw[decide_eq_true h3,decide_eq_true h4];rfl
 have HQ:Hid (∀W,Calls Tryz.prog 121 #[.agg #[.int .i64 qf,.int .i64 qa,.int .i64 qq,.int .i64 qc,.int .i64 qo]] W fun r w'=>r=.returned (.bool false)∧Below W.heap.size W w'):=fun W=>by rw[←hq];exact cO qf qa qq qc qo W
 clear hl hph h1 h2 h3 h4 hq;rcases c5 with c5|c5
 all_goals
  go_enter Tryz.func73,Tryz.ntmps73;go_wp2_with (first|(go_at_call 104;(with_reducible refine(bY unit 1 247 _ true V1).mono ?_);rintro r wi ⟨rfl,rfl⟩)|(go_at_call 104;(with_reducible refine(bY tick s.now 1152921504606846976 _ true V2).mono ?_);rintro r wi ⟨rfl,rfl⟩)|(go_at_call 121;(with_reducible refine(HQ.out _).mono ?_);rintro r w1 ⟨rfl,hb1⟩));go_ret;exact⟨rfl,bU (bH w _) hb1⟩
theorem wrap_nat (v:BitVec 64):BitVec.ofInt 64 (IntKind.wrap .i64 (v.toNat:Int))=v:=by
 apply BitVec.eq_of_toNat_eq;rw[BitVec.toNat_ofInt];have h:=v.isLt;simp only[IntKind.wrap,IntKind.signed,IntKind.bits,Bool.true_and];split<;>omega
theorem ofInt_orI (a b:Int):BitVec.ofInt 64 (orI a b)=BitVec.ofInt 64 a|||BitVec.ofInt 64 b:=wrap_nat _
theorem ofInt_andI (a b:Int):BitVec.ofInt 64 (andI a b)=BitVec.ofInt 64 a&&&BitVec.ofInt 64 b:=wrap_nat _
def Z (a:Int):Prop:=BitVec.ofInt 64 a=0#64
theorem Z_or (a b:Int):Z (orI a b)↔Z a∧Z b:=by unfold Z;rw[ofInt_orI];exact BitVec.or_eq_zero_iff
theorem or_zero (a b:Int):orI a b=0↔Z a∧Z b:=by
 constructor
 ·intro h
  rw[←Z_or,h];rfl
 ·rintro ⟨h1,h2⟩
  unfold Z at h1 h2;show IntKind.wrap .i64 ((BitVec.ofInt 64 a|||BitVec.ofInt 64 b).toNat:Int)=0;rw[h1,h2];rfl
theorem and_zero (a b:Int):andI a b=0↔BitVec.ofInt 64 a&&&BitVec.ofInt 64 b=0#64:=by
 constructor
 ·intro h
  rw[←ofInt_andI,h];rfl
 ·intro h
  show IntKind.wrap .i64 ((BitVec.ofInt 64 a&&&BitVec.ofInt 64 b).toNat:Int)=0;rw[h];rfl
theorem Z_and3 (f:Int):Z (andI f 3)↔andI f 1=0∧andI f 2=0:=by
 unfold Z;rw[ofInt_andI,and_zero,and_zero];have e:BitVec.ofInt 64 3=BitVec.ofInt 64 1|||BitVec.ofInt 64 2:=by decide+kernel
 rw[e,BitVec.and_or_distrib_left];exact BitVec.or_eq_zero_iff
structure Ev where
 t:Int
 v:UInt8
 fl:Int
def evAt (l:List Ev) (i:Nat):Ev:=l.getD i ⟨0,0,0⟩
def silE (ch:Int) (l:List Ev) (i:Nat):Int:=if (evAt l (i-1)).t<(evAt l i).t-ch then (evAt l i).t-ch- (evAt l (i-1)).t else 0
def gapN (ch t15:Int) (l:List Ev):Nat→Bool
 |0=>false
 |n+1=>gapN ch t15 l n||(decide (0<n)&&decide (t15<silE ch l n))
def parB (l:List Ev):Bool:=l.any fun e=>andI e.fl 1 !=0
def fraB (l:List Ev):Bool:=l.any fun e=>andI e.fl 2 !=0
def clearB (ch t15:Int) (l:List Ev):Bool:= !(parB l||fraB l||gapN ch t15 l l.length||decide (256<l.length))
theorem evAt_old {l:List Ev} {e:Ev} {i:Nat} (h:i<l.length):evAt (l++[e]) i=evAt l i:=by
 unfold evAt;rw[List.getD_eq_getElem?_getD,List.getD_eq_getElem?_getD,List.getElem?_append_left h]
theorem evAt_new (l:List Ev) (e:Ev):evAt (l++[e]) l.length=e:=by
 unfold evAt;rw[List.getD_eq_getElem?_getD,List.getElem?_append_right (Nat.le_refl _),Nat.sub_self];rfl
theorem silE_old {ch:Int} {l:List Ev} {e:Ev} {i:Nat} (h:i<l.length):silE ch (l++[e]) i=silE ch l i:=by
 unfold silE;rw[evAt_old h,evAt_old (by omega)]
theorem gapN_old {ch t15:Int} {l:List Ev} {e:Ev}:∀n,n≤l.length→gapN ch t15 (l++[e]) n=gapN ch t15 l n
 |0,_=>rfl
 |n+1,h=>by
  show (gapN ch t15 (l++[e]) n||_)=(gapN ch t15 l n||_);rw[gapN_old n (by omega),silE_old (by omega)]
structure RxFor (b:Int) (l:List Ev) (x:Rx):Prop where
 ch:x.ch=charT b
 t15:x.t15=t15T b
 t35:x.t35=t35T b
 bs:x.bs=(l.map (·.v)).take 256
 act:x.act= !l.isEmpty
 la:l≠[]→x.la=(evAt l (l.length-1)).t
 fl:x.fl=0↔clearB (charT b) (t15T b) l=true
 z:Z x.fl↔x.fl=0
theorem RxFor.sil {b:Int} {l:List Ev} {x:Rx} (h:RxFor b l x) (hl:l≠[]) (e:Ev):x.sil e.t=silE (charT b) (l++[e]) l.length:=by
 have hp:0<l.length:=List.length_pos_iff.2 hl;unfold Rx.sil silE;rw[h.ch,h.la hl,evAt_new,evAt_old (by omega)]
theorem RxFor.ends {b:Int} {l:List Ev} {x:Rx} (h:RxFor b l x) (e:Ev):x.ends e.t=(decide (0<l.length)&&decide (t35T b≤silE (charT b) (l++[e]) l.length)):=by
 unfold Rx.ends;rw[h.act,h.t35];cases l with
 |nil=>rfl
 |cons y l=>
  rw[h.sil (by simp) e];simp
theorem clear_snoc (ch t15:Int) (l:List Ev) (e:Ev):clearB ch t15 (l++[e])=true↔l.length<256∧clearB ch t15 l=true∧(decide (0<l.length)&&decide (t15<silE ch (l++[e]) l.length))=false∧andI e.fl 1=0∧andI e.fl 2=0:=by
 unfold clearB;have e1:gapN ch t15 (l++[e]) (l++[e]).length=(gapN ch t15 l l.length||(decide (0<l.length)&&decide (t15<silE ch (l++[e]) l.length))):=by
  rw[List.length_append];show (gapN _ _ (l++[e]) l.length||_)=_;rw[gapN_old l.length (Nat.le_refl _)]
 rw[e1];generalize (decide (0<l.length)&&decide (t15<silE ch (l++[e]) l.length))=G;generalize gapN ch t15 l l.length=G1;have e2:parB (l++[e])=(parB l||andI e.fl 1 !=0):=by unfold parB;simp
 have e3:fraB (l++[e])=(fraB l||andI e.fl 2 !=0):=by unfold fraB;simp
 have e4:(l++[e]).length=l.length+1:=by simp
 rw[e2,e3,e4];generalize parB l=P;generalize fraB l=F;by_cases hn:l.length<256
 ·rw [decide_eq_false (show ¬256<l.length+1 by omega),decide_eq_false (show ¬256<l.length by omega)]
  cases P<;>cases F<;>cases G1<;>cases G<;>simp [hn]
 ·rw [decide_eq_true (show 256<l.length+1 by omega)]
  simp [hn]
theorem RxFor.snoc {b:Int} {l:List Ev} {x:Rx} (h:RxFor b l x) (e:Ev) (he:x.ends e.t=false):RxFor b (l++[e]) (x.char e.t e.v e.fl):=by
 have hlen:x.bs.length=min 256 l.length:=by rw[h.bs,List.length_take,List.length_map]
 have hsh:x.bs.length<256↔l.length<256:=by omega
 have hc:x.char e.t e.v e.fl=x.add e.t e.v e.fl (x.sil e.t):=by unfold Rx.char;rw[he];rfl
 have hfl:(x.char e.t e.v e.fl).fl=orI (if l.length<256 then gapF x (x.sil e.t) else orI (gapF x (x.sil e.t)) 8) (andI e.fl 3):=by
  rw[hc];show orI (if x.bs.length<256 then _ else _) _=_;by_cases hn:l.length<256
  ·rw [if_pos hn,if_pos (hsh.2 hn)]
  ·rw [if_neg hn,if_neg (fun k=>hn (hsh.1 k))]
 have hbs:(x.char e.t e.v e.fl).bs=((l++[e]).map (·.v)).take 256:=by
  rw[hc];show (if x.bs.length<256 then x.bs++[e.v] else x.bs)=_;by_cases hn:l.length<256
  ·rw [if_pos (hsh.2 hn),h.bs,List.map_append,List.take_of_length_le (by rw[List.length_map];omega),List.take_of_length_le (by rw[List.length_append,List.length_map];show l.length+1≤256;omega)]
   rfl
  ·rw [if_neg (fun k=>hn (hsh.1 k)),h.bs,List.map_append,List.take_append_of_le_length (by rw[List.length_map];omega)]
 have hg:Z (gapF x (x.sil e.t))↔Z x.fl∧(decide (0<l.length)&&decide (t15T b<silE (charT b) (l++[e]) l.length))=false:=by
  unfold gapF;rw[h.act,h.t15];cases l with
  |nil=>simp
  |cons y l=>
   rw[h.sil (by simp) e];have z4:¬Z 4:=by unfold Z;decide+kernel
   by_cases hs:t15T b<silE (charT b) (y::l++[e]) (y::l).length
   ·rw [if_pos ⟨by simp,hs⟩,Z_or]
    simp [z4];intro _;exact hs
   ·rw [if_neg (fun k=>hs k.2)]
    simp;intro _;exact Int.not_lt.1 hs
 have hz:Z (x.char e.t e.v e.fl).fl↔(x.char e.t e.v e.fl).fl=0:=by rw[hfl,or_zero,Z_or]
 refine⟨(Rx.char_ch x e.t e.v e.fl).trans h.ch,(Rx.char_t15 x e.t e.v e.fl).trans h.t15,(Rx.char_t35 x e.t e.v e.fl).trans h.t35,hbs,?_,?_,?_,hz⟩
 ·rw [hc];cases l<;>rfl
 ·intro _
  rw[hc,List.length_append];show e.t=_;rw[show l.length+[e].length-1=l.length from by simp,evAt_new]
 ·rw [hfl,or_zero,Z_and3,clear_snoc]
  by_cases hn:l.length<256
  ·rw [if_pos hn,hg,h.z,h.fl,and_assoc]
   exact⟨fun k=>⟨hn,k⟩,fun k=>k.2⟩
  ·have z8:¬Z 8:=by unfold Z;decide+kernel
   rw[if_neg hn,Z_or];exact⟨fun k=>absurd k.1.2 z8,fun k=>absurd k.1 hn⟩
theorem judge_flags (chk:List UInt8→Bool) (u:Int) (q:Rq) {f f':Int} (h:f=0↔f'=0) (l:List UInt8):judgeB chk u q f l=judgeB chk u q f' l:=by
 unfold judgeB;cases splitB chk l with
 |none=>rfl
 |some y=>
  show (if f=0∧y.1=u then _ else _)=(if f'=0∧y.1=u then _ else _);by_cases hf:f=0
  ·rw [hf,h.1 hf]
  ·rw [if_neg (fun k=>hf k.1),if_neg (fun k=>hf (h.2 k.1))]
structure Tx where
 b:Int
 p:Int
 re:Int
 ti:Int
 de:Int
 ph:Int
 un:Int
 q:Rq
 now:Int
 en:Int
 til:Int
 last:Int
 cnt:Int
 bad:Bool
 late:Bool
 ev:List Ev
 out:Oc
def Tx.hears (x:Tx):Prop:=x.ph=2∨x.ph=3∨x.ph=4
def Tx.drainTo (x:Tx) (before:Int):Int:=if before<x.en+drainT x.b x.ti x.de then x.en+drainT x.b x.ti x.de else before
def Tx.begun (x:Tx) (unit:Int) (q:Rq) (tick:Int):Tx:={x with ph:=1,un:=unit,q:=q,now:=tick,cnt:=0,bad:=false,late:=false,out:=Oc.zero}
def Tx.sent (x:Tx) (e:Int):Tx:={x with ph:=2,en:=e,til:=e+t35T x.b+x.ti+charT x.b,last:=0,ev:=[],cnt:=x.cnt+1}
def Tx.noted (x:Tx) (e:Ev):Tx:={x with last:=e.t}
def Tx.heard (x:Tx) (e:Ev):Tx:={x with last:=e.t,ev:=x.ev++[e],ph:=3,til:=e.t+t35T x.b+charT x.b}
def Tx.cut (x:Tx) (e:Ev):Tx:={x with last:=e.t,ev:=x.ev++[e],bad:=true,ph:=4,til:=x.drainTo e.t}
def Tx.splits (x:Tx) (e:Ev):Bool:=decide (0<x.ev.length)&&decide (t35T x.b≤silE (charT x.b) (x.ev++[e]) x.ev.length)
def Tx.waited (x:Tx):Tx:={x with ph:=4,til:=x.drainTo x.til}
def Tx.judged (x:Tx):Oc:=judgeB crcChk x.un x.q (if clearB (charT x.b) (t15T x.b) x.ev=true then 0 else 1) ((x.ev.map (·.v)).take 256)
def Tx.good (x:Tx):Tx:={x with now:=x.til,ph:=5,out:=x.judged}
def Tx.wrong (x:Tx):Tx:={x with now:=x.til,bad:=x.bad||x.judged.verdict==4,late:=x.late||x.judged.verdict==5,ph:=4,til:=x.drainTo x.til}
def Tx.again (x:Tx):Tx:={x with now:=x.til,ph:=1}
def Tx.over (x:Tx):Tx:={x with now:=x.til,ph:=5,out:=⟨if x.bad=true then 4 else if x.late=true then 5 else 3,Rp.zero⟩}
def tb (k:Nat):Int:=600000000000000000+15000000*(k+1)
def Tx.live (x:Tx):Prop:=1≤x.ph∧x.ph≤4
structure Tx.ok (x:Tx) (k:Nat):Prop where
 set:Okset x.b x.p
 re0:0≤x.re
 re1:x.re≤5
 ti0:1≤x.ti
 ti1:x.ti≤5000000
 de0:0≤x.de
 de1:x.de≤5000000
 ph0:0≤x.ph
 ph1:x.ph≤5
 cnt0:0≤x.cnt
 cnt1:x.cnt≤x.re+1
 cntS:x.ph=1→x.cnt≤x.re
 now0:0≤x.now
 now1:x.now≤tb k
 hear:x.hears→0≤x.en∧x.en≤tb k∧0≤x.til∧x.til≤tb k∧0≤x.last
 ev2:x.ph=2→x.ev=[]
 ev3:x.ph=3→x.ev≠[]∧x.til=x.last+t35T x.b+charT x.b∧x.last=(evAt x.ev (x.ev.length-1)).t
 req:x.live→1≤x.un∧x.un≤247∧x.q.ok=true
 out:x.live→x.out=Oc.zero
theorem tb_step (k:Nat):tb (k+1)=tb k+15000000:=by unfold tb;omega
theorem tb_max {k:Nat} (h:k≤1000000000):tb k≤615000015000000000:=by unfold tb;omega
theorem Tx.hears.live {x:Tx} (h:x.hears):x.live:=by unfold Tx.hears at h;unfold Tx.live;omega
theorem Tx.ok.mono {x:Tx} {k:Nat} (h:x.ok k):x.ok (k+1):=by
 have e:=tb_step k;exact{h with
  now1:=by have:=h.now1;omega
  hear:=fun hh=>by obtain⟨a,b,c,d,f⟩:=h.hear hh;exact⟨a,by omega,c,by omega,f⟩}
theorem drainT_bd {b p x y:Int} (h:Okset b p) (hx0:0≤x) (hx:x≤5000000) (hy0:0≤y) (hy:y≤5000000):0≤drainT b x y∧drainT b x y≤12500000:=by
 obtain⟨t1,t2,_,_,t5,t6⟩:=cK h;unfold drainT;omega
theorem Tx.ok.drainTo {x:Tx} {k:Nat} (h:x.ok k) (hh:x.hears) {t:Int} (h0:0≤t) (h1:t≤tb k):0≤x.drainTo t∧x.drainTo t≤tb (k+1):=by
 obtain⟨d0,d1⟩:=drainT_bd h.set (by have:=h.ti0;omega) h.ti1 h.de0 h.de1;obtain⟨a,b,c,d,f⟩:=h.hear hh;have e:=tb_step k;unfold Tx.drainTo;split<;>omega
theorem Tx.ok.begun {x:Tx} {k:Nat} (h:x.ok k) {unit tick:Int} {q:Rq} (hq:q.ok=true) (h1:1≤unit) (h2:unit≤247) (h3:x.now≤tick) (h4:tick≤tb (k+1)):(x.begun unit q tick).ok (k+1):=by
 have e:=tb_step k;have n0:=h.now0;have n1:=h.now1;exact{
  set:=h.set,re0:=h.re0,re1:=h.re1,ti0:=h.ti0,ti1:=h.ti1,de0:=h.de0,de1:=h.de1
  ph0:=by show (0:Int)≤1;decide
  ph1:=by show (1:Int)≤5;decide
  cnt0:=by show (0:Int)≤0;decide
  cnt1:=by have:=h.re0;show (0:Int)≤x.re+1;omega
  cntS:=fun _=>h.re0
  now0:=by show 0≤tick;omega
  now1:=by show tick≤_;omega
  hear:=fun hh=>by rcases hh with e|e|e<;>exact absurd e (by show ¬(1:Int)=_;decide)
  ev2:=fun e=>absurd e (by show ¬(1:Int)=_;decide)
  ev3:=fun e=>absurd e (by show ¬(1:Int)=_;decide)
  req:=fun _=>⟨h1,h2,hq⟩
  out:=fun _=>rfl}
theorem Tx.ok.sent {x:Tx} {k:Nat} (h:x.ok k) (hp:x.ph=1) {e:Int} (h3:x.now≤e) (h4:e≤x.now+4000000):(x.sent e).ok (k+1):=by
 have es:=tb_step k;have n0:=h.now0;have n1:=h.now1;have i0:=h.ti0;have i1:=h.ti1;obtain⟨t1,t2,_,_,t5,t6⟩:=cK h.set;have hl:x.live:=by unfold Tx.live;omega
 exact{
  set:=h.set,re0:=h.re0,re1:=h.re1,ti0:=h.ti0,ti1:=h.ti1,de0:=h.de0,de1:=h.de1
  ph0:=by show (0:Int)≤2;decide
  ph1:=by show (2:Int)≤5;decide
  cnt0:=by have:=h.cnt0;show (0:Int)≤x.cnt+1;omega
  cnt1:=by have:=h.cntS hp;show x.cnt+1≤x.re+1;omega
  cntS:=fun e=>absurd e (by show ¬(2:Int)=_;decide)
  now0:=n0
  now1:=by show x.now≤_;omega
  hear:=fun _=>⟨by show 0≤e;omega,by show e≤_;omega,by show 0≤e+t35T x.b+x.ti+charT x.b;omega,by show e+t35T x.b+x.ti+charT x.b≤_;omega,Int.le_refl _⟩
  ev2:=fun _=>rfl
  ev3:=fun e=>absurd e (by show ¬(2:Int)=_;decide)
  req:=fun _=>h.req hl
  out:=fun _=>h.out hl}
theorem Tx.ok.noted {x:Tx} {k:Nat} (h:x.ok k) (hp:x.ph=2∨x.ph=4) {e:Ev} (h0:0≤e.t):(x.noted e).ok (k+1):=by
 have hm:=h.mono;exact{hm with
  hear:=fun hh=>by obtain⟨a,b,c,d,f⟩:=hm.hear hh;exact⟨a,b,c,d,h0⟩
  ev3:=fun e=>by have e':x.ph=3:=e;omega}
theorem Tx.ok.heard {x:Tx} {k:Nat} (h:x.ok k) (hp:x.ph=2∨x.ph=3) {e:Ev} (h0:0≤e.t) (h1:e.t≤x.til):(x.heard e).ok (k+1):=by
 have es:=tb_step k;have hh:x.hears:=hp.elim .inl (fun h=>.inr (.inl h));obtain⟨a,b,c,d,f⟩:=h.hear hh;obtain⟨t1,t2,_,_,t5,t6⟩:=cK h.set;have n1:=h.now1;exact{
  set:=h.set,re0:=h.re0,re1:=h.re1,ti0:=h.ti0,ti1:=h.ti1,de0:=h.de0,de1:=h.de1
  ph0:=by show (0:Int)≤3;decide
  ph1:=by show (3:Int)≤5;decide
  cnt0:=h.cnt0
  cnt1:=h.cnt1
  cntS:=fun e=>absurd e (by show ¬(3:Int)=_;decide)
  now0:=h.now0
  now1:=by show x.now≤_;omega
  hear:=fun _=>⟨a,by show x.en≤_;omega,by show 0≤e.t+t35T x.b+charT x.b;omega,by show e.t+t35T x.b+charT x.b≤_;omega,h0⟩
  ev2:=fun e=>absurd e (by show ¬(3:Int)=_;decide)
  ev3:=fun _=>⟨by show x.ev++[e]≠[];simp,rfl,by show e.t=(evAt (x.ev++[e]) ((x.ev++[e]).length-1)).t;rw[show (x.ev++[e]).length-1=x.ev.length from by simp,evAt_new]⟩
  req:=fun _=>h.req hh.live
  out:=fun _=>h.out hh.live}
theorem Tx.ok.drains {x y:Tx} {k:Nat} (h:x.ok k) (hh:x.hears) {t:Int} (h0:0≤t) (h1:t≤tb k) (e1:y.b=x.b) (e2:y.p=x.p) (e3:y.re=x.re) (e4:y.ti=x.ti) (e5:y.de=x.de) (e6:y.ph=4) (e7:y.un=x.un) (e8:y.q=x.q) (e9:y.now=x.now∨y.now=x.til) (e10:y.en=x.en) (e11:y.til=x.drainTo t) (e12:0≤y.last) (e13:y.cnt=x.cnt) (e15:y.out=x.out):y.ok (k+1):=by
 have es:=tb_step k;obtain⟨a,b,c,d,f⟩:=h.hear hh;obtain⟨d0,d1⟩:=h.drainTo hh h0 h1;have n0:=h.now0;have n1:=h.now1;exact{
  set:=by rw[e1,e2];exact h.set
  re0:=by rw[e3];exact h.re0
  re1:=by rw[e3];exact h.re1
  ti0:=by rw[e4];exact h.ti0
  ti1:=by rw[e4];exact h.ti1
  de0:=by rw[e5];exact h.de0
  de1:=by rw[e5];exact h.de1
  ph0:=by omega
  ph1:=by omega
  cnt0:=by rw[e13];exact h.cnt0
  cnt1:=by rw[e13,e3];exact h.cnt1
  cntS:=fun e=>by omega
  now0:=by omega
  now1:=by omega
  hear:=fun _=>by rw[e10,e11];exact⟨a,by omega,d0,d1,e12⟩
  ev2:=fun e=>by omega
  ev3:=fun e=>by omega
  req:=fun _=>by rw[e7,e8];exact h.req hh.live
  out:=fun _=>by rw[e15];exact h.out hh.live}
theorem Tx.ok.cut {x:Tx} {k:Nat} (h:x.ok k) (hh:x.hears) {e:Ev} (h0:0≤e.t) (h1:e.t≤x.til):(x.cut e).ok (k+1):=
 h.drains hh h0 (by have:=(h.hear hh).2.2.2.1;omega) rfl rfl rfl rfl rfl rfl rfl rfl (.inl rfl) rfl rfl h0 rfl rfl
theorem Tx.ok.waited {x:Tx} {k:Nat} (h:x.ok k) (hh:x.hears):x.waited.ok (k+1):=by
 obtain⟨a,b,c,d,f⟩:=h.hear hh;exact h.drains hh c d rfl rfl rfl rfl rfl rfl rfl rfl (.inl rfl) rfl rfl f rfl rfl
theorem Tx.ok.wrong {x:Tx} {k:Nat} (h:x.ok k) (hh:x.hears):x.wrong.ok (k+1):=by
 obtain⟨a,b,c,d,f⟩:=h.hear hh;exact h.drains hh c d rfl rfl rfl rfl rfl rfl rfl rfl (.inr rfl) rfl rfl f rfl rfl
theorem Tx.ok.ended {x y:Tx} {k:Nat} (h:x.ok k) (hh:x.hears) (e1:y.b=x.b) (e2:y.p=x.p) (e3:y.re=x.re) (e4:y.ti=x.ti) (e5:y.de=x.de) (e6:y.ph=5) (e9:y.now=x.til) (e13:y.cnt=x.cnt):y.ok (k+1):=by
 have es:=tb_step k;obtain⟨a,b,c,d,f⟩:=h.hear hh;exact{
  set:=by rw[e1,e2];exact h.set
  re0:=by rw[e3];exact h.re0
  re1:=by rw[e3];exact h.re1
  ti0:=by rw[e4];exact h.ti0
  ti1:=by rw[e4];exact h.ti1
  de0:=by rw[e5];exact h.de0
  de1:=by rw[e5];exact h.de1
  ph0:=by omega
  ph1:=by omega
  cnt0:=by rw[e13];exact h.cnt0
  cnt1:=by rw[e13,e3];exact h.cnt1
  cntS:=fun e=>by omega
  now0:=by omega
  now1:=by omega
  hear:=fun e=>by unfold Tx.hears at e;omega
  ev2:=fun e=>by omega
  ev3:=fun e=>by omega
  req:=fun e=>by unfold Tx.live at e;omega
  out:=fun e=>by unfold Tx.live at e;omega}
theorem Tx.ok.good {x:Tx} {k:Nat} (h:x.ok k) (hh:x.hears):x.good.ok (k+1):=h.ended hh rfl rfl rfl rfl rfl rfl rfl rfl
theorem Tx.ok.over {x:Tx} {k:Nat} (h:x.ok k) (hh:x.hears):x.over.ok (k+1):=h.ended hh rfl rfl rfl rfl rfl rfl rfl rfl
theorem Tx.ok.again {x:Tx} {k:Nat} (h:x.ok k) (hh:x.hears) (hc:x.cnt≤x.re):x.again.ok (k+1):=by
 have es:=tb_step k;obtain⟨a,b,c,d,f⟩:=h.hear hh;exact{
  set:=h.set,re0:=h.re0,re1:=h.re1,ti0:=h.ti0,ti1:=h.ti1,de0:=h.de0,de1:=h.de1
  ph0:=by show (0:Int)≤1;decide
  ph1:=by show (1:Int)≤5;decide
  cnt0:=h.cnt0
  cnt1:=h.cnt1
  cntS:=fun _=>hc
  now0:=c
  now1:=by show x.til≤_;omega
  hear:=fun hh=>by rcases hh with e|e|e<;>exact absurd e (by show ¬(1:Int)=_;decide)
  ev2:=fun e=>absurd e (by show ¬(1:Int)=_;decide)
  ev3:=fun e=>absurd e (by show ¬(1:Int)=_;decide)
  req:=fun _=>h.req hh.live
  out:=fun _=>h.out hh.live}
def Tx.new (b p re ti de:Int):Tx:=⟨b,p,re,ti,de,0,0,Rq.zero,0,0,0,0,0,false,false,[],Oc.zero⟩
theorem Tx.ok.new {b p re ti de:Int} (h:Okset b p) (h1:0≤re) (h2:re≤5) (h3:1≤ti) (h4:ti≤5000000) (h5:0≤de) (h6:de≤5000000):(Tx.new b p re ti de).ok 0:=
 {set:=h,re0:=h1,re1:=h2,ti0:=h3,ti1:=h4,de0:=h5,de1:=h6
  ph0:=by show (0:Int)≤0;decide
  ph1:=by show (0:Int)≤5;decide
  cnt0:=by show (0:Int)≤0;decide
  cnt1:=by show (0:Int)≤re+1;omega
  cntS:=fun _=>h1
  now0:=by show (0:Int)≤0;decide
  now1:=by show (0:Int)≤_;unfold tb;omega
  hear:=fun hh=>by rcases hh with e|e|e<;>exact absurd e (by show ¬(0:Int)=_;decide)
  ev2:=fun e=>absurd e (by show ¬(0:Int)=_;decide)
  ev3:=fun e=>absurd e (by show ¬(0:Int)=_;decide)
  req:=fun e=>absurd e.1 (by show ¬(1:Int)≤0;decide)
  out:=fun e=>absurd e.1 (by show ¬(1:Int)≤0;decide)}
def Grow (P:Nat→Prop) (W w':World) (j:Nat):Prop:=P j∨(W.heap.size≤j∧j<w'.heap.size)
structure SeenIs (x:Tx) (l:List Int):Prop where
 vals:∀v∈l,v=3∨v=4∨v=5
 bad:4∈l↔x.bad=true
 late:5∈l↔x.late=true
 four:x.ph=4→l≠[]
 len:(l.length:Int)≤x.cnt
 less:x.ph=2∨x.ph=3→(l.length:Int)<x.cnt
def PkRx (g:Nat) (P:Nat→Prop) (x:Tx) (s:Lk) (W:World):Prop:=
 ∃rg r a c,RxIn W g rg s r a c∧RxFor x.b x.ev r∧(∀j,(Value.slice s.sa s.sn s.sc).ownBlock=some j→j<rg)∧(∀ad,s.fa=some ad→ad.block<rg)∧P rg∧∀j,(Value.slice a r.bs.length c).ownBlock=some j→P j
structure PK (g k:Nat) (P:Nat→Prop) (x:Tx) (s:Lk) (W:World):Prop where
 at_:LkAt W g s
 ok:x.ok k
 b:s.b=x.b
 p:s.p=x.p
 re:s.re=x.re
 ti:s.ti=x.ti
 dr:s.dr=drainT x.b x.ti x.de
 ph:s.ph=x.ph
 un:s.un=x.un
 q:s.q=x.q
 now:s.now=x.now
 cnt:s.cnt=x.cnt
 en:x.hears→s.en=x.en∧s.til=x.til∧s.la=x.last
 pin:∀j,P j→j<W.heap.size
 pg:P g
 seen:x.live→∃l,SeenAt W g s l∧SeenIs x l
 sp:∀j,(Value.slice s.sa s.sn s.sc).ownBlock=some j→P j
 fr:x.live→Bs W (.slice s.fa s.fn s.fc) (aduF (UInt8.ofNat x.un.toNat) x.q.pdu)
 fra:∀ad,s.fa=some ad→g<ad.block∧P ad.block∧(Value.slice s.sa s.sn s.sc).ownBlock≠some ad.block
 rx:x.ph=2∨x.ph=3→PkRx g P x s W
 out:x.ph=5→s.o=x.out∧∀W',W.heap.size≤W'.heap.size→(∀j,P j→W'.heap[j]?=W.heap[j]?)→OutIs W' s
theorem PK.keeps {g k:Nat} {P Q:Nat→Prop} {x:Tx} {s:Lk} {W W':World} (h:PK g k P x s W) (hk:Keeps Q W W') (hd:∀j,P j→¬Q j):PK g k P x s W':=
 {h with
  at_:=h.at_.keeps hk (hd _ h.pg)
  pin:=fun j hj=>Nat.lt_of_lt_of_le (h.pin j hj) hk.size
  seen:=fun hl=>by
   obtain⟨l,hs,hi⟩:=h.seen hl
   exact⟨l,⟨bF hs.own hk (fun j hj=>hd j (h.sp j hj)),hs.len⟩,hi⟩
  fr:=fun hl=>(h.fr hl).keepF hk (fun ad had=>hd _ (h.fra ad had).2.1)
  rx:=fun hp=>by
   obtain⟨rg,r,a,c,h1,h2,h3,h4,h5,h6⟩:=h.rx hp
   exact⟨rg,r,a,c,{h1 with at_:=h1.at_.keeps hk (hd _ h5),own:=bF h1.own hk (fun j hj=>hd j (h6 j hj))},h2,h3,h4,h5,h6⟩
  out:=fun hp=>⟨(h.out hp).1,fun V hV hj=>(h.out hp).2 V (Nat.le_trans hk.size hV) (fun j pj=>(hj j pj).trans (hk.block j (h.pin j pj) (hd j pj)))⟩}
theorem PK.wider {g k:Nat} {P Q:Nat→Prop} {x:Tx} {s:Lk} {W:World} (h:PK g k P x s W) (hq:∀j,P j→Q j) (hl:∀j,Q j→j<W.heap.size):PK g k Q x s W:=
 {h with
  pin:=hl
  pg:=hq _ h.pg
  sp:=fun j hj=>hq j (h.sp j hj)
  fra:=fun ad had=>⟨(h.fra ad had).1,hq _ (h.fra ad had).2.1,(h.fra ad had).2.2⟩
  rx:=fun hp=>by
   obtain⟨rg,r,a,c,h1,h2,h3,h4,h5,h6⟩:=h.rx hp
   exact⟨rg,r,a,c,h1,h2,h3,h4,hq _ h5,fun j hj=>hq j (h6 j hj)⟩
  out:=fun hp=>⟨(h.out hp).1,fun V hV hj=>(h.out hp).2 V hV (fun j pj=>hj j (hq j pj))⟩}
theorem PK.later {g k:Nat} {P:Nat→Prop} {x:Tx} {s:Lk} {W:World} (h:PK g k P x s W):PK g (k+1) P x s W:={h with ok:=h.ok.mono}
theorem Grow.lt {P:Nat→Prop} {W w':World} {j:Nat} (h:Grow P W w' j) (hp:∀j,P j→j<W.heap.size) (hs:W.heap.size≤w'.heap.size):j<w'.heap.size:=by
 rcases h with h|h
 ·exact Nat.lt_of_lt_of_le (hp j h) hs
 ·exact h.2
def PStep (g k:Nat) (P:Nat→Prop) (y:Tx) (e:Int) (W:World) (r:Ending) (w':World):Prop:=
 ∃s',r=.returned (.int .i64 e)∧PK g k (Grow P W w') y s' w'∧Keeps P W w'
theorem PK.refused {g k:Nat} {P:Nat→Prop} {x:Tx} {s:Lk} {W w':World} {e:Int} {r:Ending} (h:PK g k P x s W) (hr:Refused W e r w'):PStep g (k+1) P x e W r w':=by
 obtain⟨rfl,hb⟩:=hr;have h1:PK g k P x s w':=h.keeps (Q:=fun _=>False) (Keeps.of_below hb) (fun _ _ f=>f);exact⟨s,rfl,(h1.wider (fun j=>.inl) (fun j hj=>hj.lt h.pin hb.size)).later,Keeps.of_below hb⟩
structure Tx.like (x y:Tx):Prop where
 b:y.b=x.b
 p:y.p=x.p
 re:y.re=x.re
 ti:y.ti=x.ti
 de:y.de=x.de
 un:y.un=x.un
 q:y.q=x.q
theorem PK.next {g k:Nat} {P G:Nat→Prop} {x y:Tx} {s s':Lk} {W W':World} (h:PK g k P x s W) (hlv:x.live) (hk:Keeps G W W') (hG:∀j,j<W.heap.size→G j→P j) (hf:∀ad,s.fa=some ad→¬G ad.block) (hok:y.ok (k+1)) (hl:LkAt W' g s') (ls:s.like s') (lx:x.like y) (ph:s'.ph=y.ph) (now:s'.now=y.now) (cnt:s'.cnt=y.cnt)
    (en:y.hears→s'.en=y.en∧s'.til=y.til∧s'.la=y.last) (seen:y.live→∃l,SeenAt W' g s' l∧SeenIs y l) (sp:∀j,(Value.slice s'.sa s'.sn s'.sc).ownBlock=some j→Grow P W W' j) (sf:∀ad,s.fa=some ad→(Value.slice s'.sa s'.sn s'.sc).ownBlock≠some ad.block)
    (rx:y.ph=2∨y.ph=3→PkRx g (Grow P W W') y s' W') (out:y.ph=5→s'.o=y.out∧∀V,W'.heap.size≤V.heap.size→(∀j,Grow P W W' j→V.heap[j]?=W'.heap[j]?)→OutIs V s'):PK g (k+1) (Grow P W W') y s' W'∧Keeps P W W':=
  ⟨{
     at_:=hl
     ok:=hok
     b:=by rw[ls.b,lx.b,h.b]
     p:=by rw[ls.p,lx.p,h.p]
     re:=by rw[ls.re,lx.re,h.re]
     ti:=by rw[ls.ti,lx.ti,h.ti]
     dr:=by rw[ls.dr,lx.b,lx.ti,lx.de,h.dr]
     ph:=ph
     un:=by rw[ls.un,lx.un,h.un]
     q:=by rw[ls.q,lx.q,h.q]
     now:=now
     cnt:=cnt
     en:=en
     pin:=fun j hj=>hj.lt h.pin hk.size
     pg:=.inl h.pg
     seen:=seen
     sp:=sp
     fr:=fun _=>by
       rw[ls.fa,ls.fn,ls.fc,lx.un,lx.q]
       exact(h.fr hlv).keepF hk hf
     fra:=fun ad had=>by
       rw[ls.fa] at had
       exact⟨(h.fra ad had).1,.inl (h.fra ad had).2.1,sf ad had⟩
     rx:=rx
     out:=out},hk.mono hG⟩
theorem RxIn.selfP {W W':World} {g rg:Nat} {s:Lk} {x:Rx} {a:Option Addr} {c:Nat} (h:RxIn W g rg s x a c) (hk:Keeps (· =g) W W') {t:Int} (ht:s.la≤t):RxIn W' g rg {s with la:=t} x a c:=
 {h with
  at_:=h.at_.keeps hk (fun e=>by have:=h.low;have e':rg=g:=e;omega)
  own:=bF h.own hk (fun k hk' e=>by have h1:=(h.own.lt k hk').1;have:=h.low;have e':k=g:=e;omega)
  la1:=Int.le_trans h.la1 ht}
theorem SeenAt.self {W W':World} {g:Nat} {s s':Lk} {l:List Int} (h:SeenAt W g s l) (hk:Keeps (· =g) W W') (e1:s'.sa=s.sa) (e2:s'.sn=s.sn) (e3:s'.sc=s.sc):SeenAt W' g s' l:=by
 refine⟨?_,by rw[e2];exact h.len⟩;rw[e1,e2,e3];exact bF h.own hk (fun k hk' e=>by have h1:=(h.own.lt k hk').1;have e':k=g:=e;omega)
theorem PK.notg {g k:Nat} {P:Nat→Prop} {x:Tx} {s:Lk} {W:World} (h:PK g k P x s W) (ad:Addr) (had:s.fa=some ad):¬(ad.block=g):=by have:=(h.fra ad had).1;omega
theorem pk_sent {g k:Nat} {P:Nat→Prop} {x:Tx} {s:Lk} {W:World} (h:PK g k P x s W) (hp:x.ph=1) (hk:k≤1000000000) (e:Int) (h3:x.now≤e) (h4:e≤x.now+4000000):
  Calls Tryz.prog 75 #[.pointer (some ⟨g,0,none⟩),.int .i64 e] W (PStep g (k+1) P (x.sent e) 0 W):=by
 have hlv:x.live:=by unfold Tx.live;omega
 have hset:Okset s.b s.p:=by rw[h.b,h.p];exact h.ok.set
 obtain⟨t1,t2,_,_,t5,t6⟩:=cK hset;have n0:=h.ok.now0;have n1:=h.ok.now1;have tm:=tb_max hk;have q1:=h.ok.ti0;have q2:=h.ok.ti1;have q3:=h.ok.cnt0;have q4:=h.ok.cnt1;have q5:=h.ok.re1;have p1:=h.ph;have p2:=h.now;have p3:=h.ti;have p4:=h.cnt;refine(lksent_ok g s e W h.at_ (by omega) (by omega) (by omega) (by omega) hset (by omega) (by omega) (by omega) (by omega)).mono ?_;rintro r w' ⟨rg,rfl,hl,hrg,hrx,hkk⟩;obtain⟨l,hs,hi⟩:=h.seen hlv;have hrl:=cI hrx;obtain⟨o1,o2⟩:=h.next (y:=x.sent e) (s':=s.sent e (.pointer (some ⟨rg,0,none⟩))) hlv hkk (fun j _ e=>by have e':j=g:=e;rw[e'];exact h.pg) h.notg (h.ok.sent hp h3 h4) hl ⟨rfl,rfl,rfl,rfl,rfl,rfl,rfl,rfl,rfl,rfl⟩ ⟨rfl,rfl,rfl,rfl,rfl,rfl,rfl⟩ rfl h.now (by show s.cnt+1=x.cnt+1;rw[h.cnt])
  (fun _=>⟨rfl,by show e+t35T s.b+s.ti+charT s.b=e+t35T x.b+x.ti+charT x.b;rw[h.b,h.ti],rfl⟩)
  (fun _=>⟨l,hs.self hkk rfl rfl rfl,{vals:=hi.vals,bad:=hi.bad,late:=hi.late,four:=fun e=>absurd e (by show ¬(2:Int)=4;decide),len:=by have:=hi.len;show (l.length:Int)≤x.cnt+1;omega,less:=fun _=>by have:=hi.len;show (l.length:Int)<x.cnt+1;omega}⟩)
  (fun j hj=>.inl (h.sp j hj)) (fun ad had=>(h.fra ad had).2.2)
  (fun _=>⟨rg,⟨charT s.b,t15T s.b,t35T s.b,[],0,0,0,false,0,0⟩,none,0,
   {rx:=rfl,at_:=hrx,own:=World.ownsRow_nil _ _ _ _,low:=Nat.lt_of_lt_of_le h.at_.lt hrg,la0:=by show (0:Int)≤0;decide,la1:=by show (0:Int)≤0;decide,idz:=by show (0:Int)≤0;decide,ch0:=by show 0≤charT s.b;omega,ch1:=by show charT s.b≤_;omega,tq0:=by show 0≤t35T s.b;omega,tq1:=by show t35T s.b≤_;omega},
   {ch:=by show charT s.b=charT x.b;rw[h.b],t15:=by show t15T s.b=t15T x.b;rw[h.b],t35:=by show t35T s.b=t35T x.b;rw[h.b],bs:=rfl,act:=rfl,la:=fun e=>absurd rfl e,fl:=⟨fun _=>rfl,fun _=>rfl⟩,z:=⟨fun _=>rfl,fun _=>rfl⟩},
   fun j hj=>Nat.lt_of_lt_of_le (h.pin j (h.sp j hj)) hrg,fun ad had=>Nat.lt_of_lt_of_le (h.pin _ (h.fra ad had).2.1) hrg,.inr ⟨hrg,hrl⟩,fun j hj=>by cases hj⟩)
  (fun e=>absurd e (by show ¬(2:Int)=5;decide))
 exact⟨_,rfl,o1,o2⟩
theorem pk_begin {g k:Nat} {P:Nat→Prop} {x:Tx} {s:Lk} {W:World} (h:PK g k P x s W) (hp:x.ph=0∨x.ph=5) (hk:k≤1000000000) (unit qf qa qq qc qo tick:Int) (h1:1≤unit) (h2:unit≤247) (h3:x.now≤tick) (h4:tick≤tb (k+1)) (hq:Rq.ok ⟨qf,qa,qq,qc,qo⟩=true):
  Calls Tryz.prog 73 #[.pointer (some ⟨g,0,none⟩),.int .i64 unit,.agg #[.int .i64 qf,.int .i64 qa,.int .i64 qq,.int .i64 qc,.int .i64 qo],.int .i64 tick] W (PStep g (k+1) P (x.begun unit ⟨qf,qa,qq,qc,qo⟩ tick) 0 W):=by
 have p1:=h.ph;have p2:=h.now;have n1:=h.ok.now1;have tm:=tb_max hk;have tm1:=tb_step k;refine(lkbegin_ok g s unit qf qa qq qc qo tick W h.at_ (by omega) h1 h2 (by omega) (by omega) hq).mono ?_;rintro r w' ⟨fa,fc,rfl,hl,hfr,hfa,hkk⟩;have hg:=h.at_.lt;refine⟨s.begun unit ⟨qf,qa,qq,qc,qo⟩ tick fa (aduF (UInt8.ofNat unit.toNat) (Rq.pdu ⟨qf,qa,qq,qc,qo⟩)).length fc,rfl,?_,hkk.mono (fun j _ e=>by have e':j=g:=e;rw[e'];exact h.pg)⟩;exact
 {at_:=hl
  ok:=h.ok.begun hq h1 h2 h3 h4
  b:=h.b
  p:=h.p
  re:=h.re
  ti:=h.ti
  dr:=h.dr
  ph:=rfl
  un:=rfl
  q:=rfl
  now:=rfl
  cnt:=rfl
  en:=fun e=>by rcases e with e|e|e<;>exact absurd e (by show ¬(1:Int)=_;decide)
  pin:=fun j hj=>hj.lt h.pin hkk.size
  pg:=.inl h.pg
  seen:=fun _=>⟨[],⟨World.ownsRow_nil _ _ _ _,rfl⟩,{vals:=fun v hv=>(by cases hv),bad:=⟨fun e=>(by cases e),fun e=>(by cases e)⟩,late:=⟨fun e=>(by cases e),fun e=>(by cases e)⟩,four:=fun e=>absurd e (by show ¬(1:Int)=4;decide),len:=Int.le_refl _,less:=fun e=>(by rcases e with e|e<;>exact absurd e (by show ¬(1:Int)=_;decide))}⟩
  sp:=fun j hj=>by cases hj
  fr:=fun _=>hfr
  fra:=fun ad had=>by
   have e1:=hfa ad had
   refine⟨by omega,.inr ⟨e1,?_⟩,fun e=>by cases e⟩
   obtain⟨a',c',hv,_,_,_,h4⟩:=hfr
   have had':fa=some ad:=had
   cases hv
   obtain⟨b,o,ha,hc⟩:=h4 (by have e:=cD (UInt8.ofNat unit.toNat) (Rq.pdu ⟨qf,qa,qq,qc,qo⟩);intro e';rw[e'] at e;exact absurd e (by simp))
   rw[ha] at had'
   cases had'
   exact cell_lt (hc 0 (by have e:=cD (UInt8.ofNat unit.toNat) (Rq.pdu ⟨qf,qa,qq,qc,qo⟩);omega))
  rx:=fun e=>by rcases e with e|e<;>exact absurd e (by show ¬(1:Int)=_;decide)
  out:=fun e=>absurd e (by show ¬(1:Int)=5;decide)}
theorem PK.noted {g k:Nat} {P:Nat→Prop} {x:Tx} {s:Lk} {W W':World} (h:PK g k P x s W) (hp:x.ph=2∨x.ph=4) {e:Ev} (h0:0≤e.t) (hla:s.la≤e.t) (hl:LkAt W' g {s with la:=e.t}) (hk:Keeps (· =g) W W'):PK g (k+1) (Grow P W W') (x.noted e) {s with la:=e.t} W'∧Keeps P W W':=by
 have hh:x.hears:=hp.elim .inl (fun h=>.inr (.inr h));obtain⟨l,hs,hi⟩:=h.seen hh.live;obtain⟨e1,e2,e3⟩:=h.en hh;exact h.next (y:=x.noted e) hh.live hk (fun j _ e=>by have e':j=g:=e;rw[e'];exact h.pg) h.notg (h.ok.noted hp h0) hl ⟨rfl,rfl,rfl,rfl,rfl,rfl,rfl,rfl,rfl,rfl⟩ ⟨rfl,rfl,rfl,rfl,rfl,rfl,rfl⟩ h.ph h.now h.cnt
  (fun _=>⟨e1,e2,rfl⟩)
  (fun _=>⟨l,hs.self hk rfl rfl rfl,{vals:=hi.vals,bad:=hi.bad,late:=hi.late,four:=hi.four,len:=hi.len,less:=hi.less}⟩)
  (fun j hj=>.inl (h.sp j hj)) (fun ad had=>(h.fra ad had).2.2)
  (fun hr=>by
   obtain⟨rg,r,a,c,h1,h2,h3,h4,h5,h6⟩:=h.rx hr
   exact⟨rg,r,a,c,h1.selfP hk hla,h2,h3,h4,.inl h5,fun j hj=>.inl (h6 j hj)⟩)
  (fun e=>by have e':x.ph=5:=e;omega)
theorem PK.drained {g k:Nat} {P G:Nat→Prop} {x y:Tx} {s s1:Lk} {W W':World} (h:PK g k P x s W) (hp:x.ph=2∨x.ph=3) {l:List Int} (hi:SeenIs x l) {v:Int} (hv:v=3∨v=4∨v=5) {sa:Option Addr} {sc:Nat} (hl:LkAt W' g (s1.drains sa sc)) (hs':SeenAt W' g (s1.drains sa sc) (l++[v])) (hn:NewOr W (.slice s.sa s.sn s.sc) (.slice sa (s.sn+1) sc)) (hk:Keeps G W W') (hG:∀j,j<W.heap.size→G j→P j) (hf:∀ad,s.fa=some ad→¬G ad.block)
  (ls:s.like s1) (lsn:s1.sn=s.sn) (lcnt:s1.cnt=s.cnt) (len:s1.en=s.en) (lx:x.like y) (xcnt:y.cnt=x.cnt) (xen:y.en=x.en) (xph:y.ph=4) (hok:y.ok (k+1)) (now:s1.now=y.now) (til:y.til=x.drainTo s1.til) (last:s1.la=y.last) (bad:y.bad=(x.bad||v==4)) (late:y.late=(x.late||v==5)):PK g (k+1) (Grow P W W') y (s1.drains sa sc) W'∧Keeps P W W':=by
 have hh:x.hears:=hp.elim .inl (fun h=>.inr (.inl h));obtain⟨e1,e2,e3⟩:=h.en hh;have hll:=hi.less hp;refine h.next (y:=y) hh.live hk hG hf hok hl ⟨ls.b,ls.p,ls.re,ls.ti,ls.dr,ls.fa,ls.fn,ls.fc,ls.un,ls.q⟩ lx xph.symm now (by show s1.cnt=y.cnt;rw[lcnt,xcnt,h.cnt]) ?_ ?_ ?_ ?_ ?_ ?_
 ·intro _
  refine⟨by show s1.en=y.en;rw[len,xen,e1],?_,last⟩;show (if s1.til<s1.en+s1.dr then s1.en+s1.dr else s1.til)=y.til;rw[til,len,ls.dr,h.dr,e1];rfl
 ·intro _
  refine⟨l++[v],hs',{vals:=fun u hu=>?_,bad:=?_,late:=?_,four:=fun _=>by simp,len:=by rw[xcnt];simp;omega,less:=fun e=>by omega}⟩
  ·rcases List.mem_append.1 hu with hu|hu
   ·exact hi.vals u hu
   ·rw [List.mem_singleton.1 hu];exact hv
  ·rw [bad,List.mem_append,hi.bad,List.mem_singleton]
   cases x.bad<;>simp<;>exact eq_comm
  ·rw [late,List.mem_append,hi.late,List.mem_singleton]
   cases x.late<;>simp<;>exact eq_comm
 ·intro j hj
  have hj':(Value.slice sa (s.sn+1) sc).ownBlock=some j:=by rw[←lsn];exact hj
  have hj2:=(hs'.own.lt j hj).2;rcases hn with e|⟨i,e,hi'⟩
  ·exact .inl (h.sp j (by rw[←e];exact hj'))
  ·rw [e] at hj'
   cases hj';exact .inr ⟨hi',hj2⟩
 ·intro ad had e
  have e':(Value.slice sa (s.sn+1) sc).ownBlock=some ad.block:=by rw[←lsn];exact e
  rcases hn with e2|⟨i,e2,hi'⟩
  ·exact (h.fra ad had).2.2 (by rw[←e2];exact e')
  ·rw [e2] at e'
   cases e';have:=h.pin _ (h.fra ad had).2.1;omega
 ·intro e;omega
 ·intro e;omega
def Tx.chrE (x:Tx) (e:Ev):Int:=if 0≤e.t∧e.t≤x.til then (if e.t<x.last then 7 else 0) else 3
def Tx.chr (x:Tx) (e:Ev):Tx:=
 if 0≤e.t∧e.t≤x.til∧x.last≤e.t then
  (if x.ph=3∨(x.ph=2∧x.en<e.t) then (if x.splits e=true then x.cut e else x.heard e) else x.noted e)
 else x
def Tx.sil (x:Tx):Tx:=
 if x.ph=2 then x.waited else if x.ph=3 then (if x.judged.verdict=1∨x.judged.verdict=2 then x.good else x.wrong) else if x.cnt≤x.re then x.again else x.over
theorem PK.same {g k:Nat} {P:Nat→Prop} {x:Tx} {s:Lk} {W W':World} (h:PK g k P x s W) (hh:x.hears) (hl:LkAt W' g s) (hk:Keeps (· =g) W W'):PK g (k+1) (Grow P W W') x s W'∧Keeps P W W':=by
 obtain⟨l,hs,hi⟩:=h.seen hh.live;exact h.next (y:=x) hh.live hk (fun j _ e=>by have e':j=g:=e;rw[e'];exact h.pg) h.notg h.ok.mono hl ⟨rfl,rfl,rfl,rfl,rfl,rfl,rfl,rfl,rfl,rfl⟩ ⟨rfl,rfl,rfl,rfl,rfl,rfl,rfl⟩ h.ph h.now h.cnt h.en
  (fun _=>⟨l,hs.self hk rfl rfl rfl,hi⟩)
  (fun j hj=>.inl (h.sp j hj)) (fun ad had=>(h.fra ad had).2.2)
  (fun hr=>by
   obtain⟨rg,r,a,c,h1,h2,h3,h4,h5,h6⟩:=h.rx hr
   exact⟨rg,r,a,c,h1.selfP hk (t:=s.la) (Int.le_refl _),h2,h3,h4,.inl h5,fun j hj=>.inl (h6 j hj)⟩)
  (fun e=>by unfold Tx.hears at hh;omega)
theorem pk_char {g k:Nat} {P:Nat→Prop} {x:Tx} {s:Lk} {W:World} (h:PK g k P x s W) (hh:x.hears) (hk:k≤1000000000) (e:Ev):
  Calls Tryz.prog 62 #[.pointer (some ⟨g,0,none⟩),.agg #[.int .i64 e.t,.int .u8 (e.v.toNat:Int),.int .i64 e.fl]] W (PStep g (k+1) P (x.chr e) (x.chrE e) W):=by
 obtain⟨t,v,fl⟩:=e;obtain⟨e1,e2,e3⟩:=h.en hh;obtain⟨b0,b1,b2,b3,b4⟩:=h.ok.hear hh;have tm:=tb_max hk;have p1:=h.ph;have hsh:s.hears:=by unfold Tx.hears at hh;unfold Lk.hears;omega
 by_cases hr:0≤t∧t≤s.til
 ·have hr':0≤t∧t≤x.til:=by rw[←e2];exact hr
  by_cases ho:t<s.la
  ·have hE:x.chrE ⟨t,v,fl⟩=7:=by unfold Tx.chrE;rw[if_pos hr',if_pos (by show t<x.last;omega)]
   have hX:x.chr ⟨t,v,fl⟩=x:=by unfold Tx.chr;rw[if_neg (fun e=>by have e':x.last≤t:=e.2.2;omega)]
   rw[hE,hX];refine(lkchar_order g s t v fl W h.at_ hsh hr ho).mono ?_;rintro r w' ⟨rfl,hl,hkk⟩;exact⟨_,rfl,h.same hh hl hkk⟩
  ·have hE:x.chrE ⟨t,v,fl⟩=0:=by unfold Tx.chrE;rw[if_pos hr',if_neg (by show ¬t<x.last;omega)]
   rw[hE];have hc:0≤t∧t≤x.til∧x.last≤t:=⟨hr'.1,hr'.2,by omega⟩
   by_cases hd:x.ph=3∨(x.ph=2∧x.en<t)
   ·have hp:x.ph=2∨x.ph=3:=by omega
    obtain⟨rg,r,a,c,hx,hf,hsr,hfr,hprg,hpa⟩:=h.rx hp;obtain⟨l,hs,hi⟩:=h.seen hh.live;have hen:=hf.ends ⟨t,v,fl⟩;have hsp:x.splits ⟨t,v,fl⟩=r.ends t:=hen.symm;have hlow:=hx.low;obtain⟨t1,t2,_,_,t5,t6⟩:=cK h.ok.set;cases he:r.ends t with
    |false=>
     have hX:x.chr ⟨t,v,fl⟩=x.heard ⟨t,v,fl⟩:=by unfold Tx.chr;rw[if_pos hc,if_pos hd,if_neg (by rw[hsp,he];decide)]
     rw[hX];refine(lkchar_hear g rg s r a c t v fl W h.at_ hx hr (by omega) (by omega) (by omega) he).mono ?_;rintro rr w' ⟨a',c',rfl,hl,hx',ho',hn',hkk⟩;have hrc:=hf.ch;have hrt:=hf.t35;obtain⟨o1,o2⟩:=h.next (y:=x.heard ⟨t,v,fl⟩) (s':=s.heard r t) hh.live hkk (fun j _ e=>by
       rcases e with e|e|e
       ·rw [e];exact h.pg
       ·rw [e];exact hprg
       ·exact hpa j e) (fun ad had e=>by
       have f1:=h.notg ad had
       have f2:=hfr ad had
       rcases e with e|e|e
       ·exact f1 e
       ·omega
       ·have:=(hx.own.lt _ e).1;omega) (h.ok.heard hp hr'.1 hr'.2) hl ⟨rfl,rfl,rfl,rfl,rfl,rfl,rfl,rfl,rfl,rfl⟩ ⟨rfl,rfl,rfl,rfl,rfl,rfl,rfl⟩ rfl h.now h.cnt
      (fun _=>⟨e1,by show t+r.t35+r.ch=t+t35T x.b+charT x.b;rw[hrc,hrt],rfl⟩)
      (fun _=>⟨l,⟨bF hs.own hkk (fun j hj e=>by
        have f1:=(hs.own.lt j hj).1
        have f2:=hsr j hj
        rcases e with e|e|e
        ·omega
        ·omega
        ·have:=(hx.own.lt j e).1;omega),hs.len⟩,{vals:=hi.vals,bad:=hi.bad,late:=hi.late,four:=fun e=>absurd e (by show ¬(3:Int)=4;decide),len:=hi.len,less:=fun _=>hi.less hp}⟩)
      (fun j hj=>.inl (h.sp j hj)) (fun ad had=>(h.fra ad had).2.2)
      (fun _=>⟨rg,r.char t v fl,a',c',{rx:=hx.rx,at_:=hx',own:=ho',low:=hlow,la0:=by rw[Rx.char_la];exact hr.1,la1:=by rw[Rx.char_la];exact Int.le_refl _,idz:=by rw[Rx.char_id];exact hx.idz,ch0:=by rw[Rx.char_ch];exact hx.ch0,ch1:=by rw[Rx.char_ch];exact hx.ch1,tq0:=by rw[Rx.char_t35];exact hx.tq0,tq1:=by rw[Rx.char_t35];exact hx.tq1},
       hf.snoc ⟨t,v,fl⟩ he,hsr,hfr,.inl hprg,fun j hj=>by
        have f1:=(ho'.lt j hj).2
        rcases hn' j hj with e|e
        ·exact .inl (hpa j e)
        ·exact .inr ⟨e,f1⟩⟩)
      (fun e=>absurd e (by show ¬(3:Int)=5;decide))
     exact⟨_,rfl,o1,o2⟩
    |true=>
     have hX:x.chr ⟨t,v,fl⟩=x.cut ⟨t,v,fl⟩:=by unfold Tx.chr;rw[if_pos hc,if_pos hd,if_pos (by rw[hsp,he])]
     rw[hX];obtain⟨d0,d1⟩:=drainT_bd h.ok.set (by have:=h.ok.ti0;omega) h.ok.ti1 h.ok.de0 h.ok.de1;have hdr:=h.dr;have hll:=hi.less hp;have hc1:=h.ok.cnt1;have hre:=h.ok.re1;have hsl:=hs.len;refine(lkchar_end g rg s r a c l t v fl W h.at_ hx hs hsr (by omega) (by omega) (by omega) (by omega) (by omega) hr (by omega) (by omega) (by omega) he).mono ?_;rintro rr w' ⟨sa,sc,rfl,hl,hs',hn,hkk⟩;obtain⟨o1,o2⟩:=h.drained (y:=x.cut ⟨t,v,fl⟩) (s1:={s with la:=t,ph:=3,til:=t}) hp hi (.inr (.inl rfl)) hl hs' hn hkk (fun j _ e=>by
       rcases e with e|e|e|e
       ·rw [e];exact h.pg
       ·rw [e];exact hprg
       ·exact hpa j e
       ·exact h.sp j e) (fun ad had e=>by
       have f1:=h.notg ad had
       have f2:=hfr ad had
       rcases e with e|e|e|e
       ·exact f1 e
       ·omega
       ·have:=(hx.own.lt _ e).1;omega
       ·exact (h.fra ad had).2.2 e) ⟨rfl,rfl,rfl,rfl,rfl,rfl,rfl,rfl,rfl,rfl⟩ rfl rfl rfl ⟨rfl,rfl,rfl,rfl,rfl,rfl,rfl⟩ rfl rfl rfl (h.ok.cut hh hr'.1 hr'.2) h.now rfl rfl (by show true=_;simp) (by show x.late=_;simp)
     exact⟨_,rfl,o1,o2⟩
   ·have hp:x.ph=2∨x.ph=4:=by unfold Tx.hears at hh;omega
    have hX:x.chr ⟨t,v,fl⟩=x.noted ⟨t,v,fl⟩:=by unfold Tx.chr;rw[if_pos hc,if_neg hd]
    rw[hX];refine(lkchar_drop g s t v fl W h.at_ hr (by omega) (by omega)).mono ?_;rintro r w' ⟨rfl,hl,hkk⟩;exact⟨_,rfl,h.noted hp (e:=⟨t,v,fl⟩) hr.1 (by show s.la≤t;omega) hl hkk⟩
 ·have hr':¬(0≤t∧t≤x.til):=by rw[←e2];exact hr
  have hE:x.chrE ⟨t,v,fl⟩=3:=by unfold Tx.chrE;rw[if_neg hr']
  have hX:x.chr ⟨t,v,fl⟩=x:=by unfold Tx.chr;rw[if_neg (fun e=>hr' ⟨e.1,e.2.1⟩)]
  rw[hE,hX];refine(lkchar_range g s t v fl W h.at_ hsh hr).mono ?_;rintro r w' ⟨rfl,hl,hkk⟩;exact⟨_,rfl,h.same hh hl hkk⟩
theorem RxFor.judge {x:Tx} {r:Rx} (hf:RxFor x.b x.ev r):judgeB crcChk x.un x.q r.fl r.bs=x.judged:=by
 unfold Tx.judged;rw[hf.bs];refine judge_flags _ _ _ ?_ _;rw[hf.fl];cases clearB (charT x.b) (t15T x.b) x.ev<;>simp
theorem pk_silence {g k:Nat} {P:Nat→Prop} {x:Tx} {s:Lk} {W:World} (h:PK g k P x s W) (hh:x.hears) (hk:k≤1000000000):
  Calls Tryz.prog 63 #[.pointer (some ⟨g,0,none⟩)] W (PStep g (k+1) P x.sil 0 W):=by
 obtain⟨e1,e2,e3⟩:=h.en hh;obtain⟨b0,b1,b2,b3,b4⟩:=h.ok.hear hh;have tm:=tb_max hk;have p1:=h.ph;obtain⟨l,hs,hi⟩:=h.seen hh.live;obtain⟨d0,d1⟩:=drainT_bd h.ok.set (by have:=h.ok.ti0;omega) h.ok.ti1 h.ok.de0 h.ok.de1;have hdr:=h.dr;have hll:=hi.len;have hc1:=h.ok.cnt1;have hre:=h.ok.re1;have hsl:=hs.len;have hcnt:=h.cnt;have hree:=h.re;rcases hh with hp|hp|hp
 ·have hX:x.sil=x.waited:=by unfold Tx.sil;rw[if_pos hp]
  rw[hX];refine(silence_wait g s l W h.at_ hs (by omega) (by omega) (by omega) (by omega) (by omega) (by omega)).mono ?_;rintro r w' ⟨sa,sc,rfl,hl,hs',hn,hkk⟩;obtain⟨o1,o2⟩:=h.drained (y:=x.waited) (s1:=s) (.inl hp) hi (.inl rfl) hl hs' hn hkk (fun j _ e=>by
    rcases e with e|e
    ·rw [e];exact h.pg
    ·exact h.sp j e) (fun ad had e=>by
    rcases e with e|e
    ·exact h.notg ad had e
    ·exact (h.fra ad had).2.2 e) (Lk.like.refl s) rfl rfl rfl ⟨rfl,rfl,rfl,rfl,rfl,rfl,rfl⟩ rfl rfl rfl (h.ok.waited (.inl hp)) h.now (by show x.drainTo x.til=_;rw[e2]) e3 (by show x.bad=_;simp) (by show x.late=_;simp)
  exact⟨_,rfl,o1,o2⟩
 ·obtain ⟨rg,r,a,c,hx,hf,hsr,hfr,hprg,hpa⟩:=h.rx (.inr hp)
  obtain⟨v1,v2,v3⟩:=h.ok.ev3 hp;have hact:r.act=true:=by
   rw[hf.act];cases hev:x.ev with
   |nil=>exact absurd hev v1
   |cons _ _=>rfl
  have hla:=hf.la v1;have hrc:=hf.ch;have hrt:=hf.t35;have hlow:=hx.low;have hO:judgeB crcChk s.un s.q r.fl r.bs=x.judged:=by rw[h.un,h.q];exact hf.judge
  have hsm:=judge_small crcChk s.un s.q r.fl r.bs;have hvd:=judge_verdict crcChk s.un s.q r.fl r.bs;rw[hO] at hsm hvd;by_cases hv:x.judged.verdict=1∨x.judged.verdict=2
  ·have hX:x.sil=x.good:=by unfold Tx.sil;rw[if_neg (by omega),if_pos hp,if_pos hv]
   rw[hX];refine(silence_good g rg s r a c x.judged W h.at_ hx (by omega) hact (by omega) (by omega) hO hv).mono ?_;rintro rr w' ⟨da,dc,oa,oc,rfl,hl,ho,hkk⟩;obtain⟨o1,o2⟩:=h.next (y:=x.good) (s':=Lk.doneWith {s with now:=s.til} x.judged da dc oa oc) (Tx.hears.live (.inr (.inl hp))) hkk (fun j _ e=>by
     rcases e with e|e
     ·rw [e];exact h.pg
     ·rw [e];exact hprg) (fun ad had e=>by
     have f2:=hfr ad had
     rcases e with e|e
     ·exact h.notg ad had e
     ·omega) (h.ok.good (.inr (.inl hp))) hl ⟨rfl,rfl,rfl,rfl,rfl,rfl,rfl,rfl,rfl,rfl⟩ ⟨rfl,rfl,rfl,rfl,rfl,rfl,rfl⟩ rfl e2 h.cnt
    (fun e=>by rcases e with e|e|e<;>exact absurd e (by show ¬(5:Int)=_;decide))
    (fun e=>absurd e.2 (by show ¬(5:Int)≤4;decide))
    (fun j hj=>.inl (h.sp j hj)) (fun ad had=>(h.fra ad had).2.2)
    (fun e=>by rcases e with e|e<;>exact absurd e (by show ¬(5:Int)=_;decide))
    (fun _=>⟨rfl,fun V hV hj=>⟨ho V ⟨hV,fun j j1 j2=>hj j (.inr ⟨j1,j2⟩)⟩,rfl,rfl,hsm⟩⟩)
   exact⟨_,rfl,o1,o2⟩
  ·have hv':x.judged.verdict=4∨x.judged.verdict=5:=by omega
   have hX:x.sil=x.wrong:=by unfold Tx.sil;rw[if_neg (by omega),if_pos hp,if_neg hv]
   rw[hX];refine(silence_bad g rg s r a c l x.judged W h.at_ hx (by omega) hact (by omega) (by omega) hs hsr hO (by rw[beq_eq_false_iff_ne];omega) (by rw[beq_eq_false_iff_ne];omega) (by omega) (by omega) (by omega) (by omega) (by omega)).mono ?_;rintro rr w' ⟨sa,sc,rfl,hl,hs',hn,hkk⟩;obtain⟨o1,o2⟩:=h.drained (y:=x.wrong) (s1:={s with now:=s.til}) (.inr hp) hi (.inr hv') hl hs' hn hkk (fun j _ e=>by
     rcases e with e|e|e
     ·rw [e];exact h.pg
     ·rw [e];exact hprg
     ·exact h.sp j e) (fun ad had e=>by
     have f2:=hfr ad had
     rcases e with e|e|e
     ·exact h.notg ad had e
     ·omega
     ·exact (h.fra ad had).2.2 e) ⟨rfl,rfl,rfl,rfl,rfl,rfl,rfl,rfl,rfl,rfl⟩ rfl rfl rfl ⟨rfl,rfl,rfl,rfl,rfl,rfl,rfl⟩ rfl rfl rfl (h.ok.wrong (.inr (.inl hp))) e2 (by show x.drainTo x.til=x.drainTo s.til;rw[e2]) e3 rfl rfl
   exact⟨_,rfl,o1,o2⟩
 ·have hself:∀(j:Nat),j<W.heap.size→j=g→P j:=fun j _ e=>by rw[e];exact h.pg
  by_cases hc:x.cnt≤x.re
  ·have hX:x.sil=x.again:=by unfold Tx.sil;rw[if_neg (by omega),if_neg (by omega),if_pos hc]
   rw[hX];refine(silence_more g s W h.at_ (by omega) (by omega)).mono ?_;rintro r w' ⟨rfl,hl,hkk⟩;obtain⟨o1,o2⟩:=h.next (y:=x.again) (s':={s with now:=s.til,ph:=1}) (Tx.hears.live (.inr (.inr hp))) hkk hself h.notg (h.ok.again (.inr (.inr hp)) hc) hl ⟨rfl,rfl,rfl,rfl,rfl,rfl,rfl,rfl,rfl,rfl⟩ ⟨rfl,rfl,rfl,rfl,rfl,rfl,rfl⟩ rfl e2 h.cnt
    (fun e=>by rcases e with e|e|e<;>exact absurd e (by show ¬(1:Int)=_;decide))
    (fun _=>⟨l,hs.self hkk rfl rfl rfl,{vals:=hi.vals,bad:=hi.bad,late:=hi.late,four:=fun e=>absurd e (by show ¬(1:Int)=4;decide),len:=hi.len,less:=fun e=>(by rcases e with e|e<;>exact absurd e (by show ¬(1:Int)=_;decide))}⟩)
    (fun j hj=>.inl (h.sp j hj)) (fun ad had=>(h.fra ad had).2.2)
    (fun e=>by rcases e with e|e<;>exact absurd e (by show ¬(1:Int)=_;decide))
    (fun e=>absurd e (by show ¬(1:Int)=5;decide))
   exact⟨_,rfl,o1,o2⟩
  ·have hX:x.sil=x.over:=by unfold Tx.sil;rw[if_neg (by omega),if_neg (by omega),if_neg hc]
   rw[hX];refine(silence_done g s l W h.at_ hs ⟨hi.four hp,hi.vals⟩ (by omega) (by omega)).mono ?_;rintro r w' ⟨rfl,hl,hkk⟩;have hsum:sumV l=if x.bad=true then 4 else if x.late=true then 5 else 3:=by
    unfold sumV;have i1:=hi.bad;have i2:=hi.late;by_cases j1:4∈l
    ·rw [if_pos j1,if_pos (i1.1 j1)]
    ·rw [if_neg j1,if_neg (fun e=>j1 (i1.2 e))]
     by_cases j2:5∈l
     ·rw [if_pos j2,if_pos (i2.1 j2)]
     ·rw [if_neg j2,if_neg (fun e=>j2 (i2.2 e))]
   obtain⟨o1,o2⟩:=h.next (y:=x.over) (s':=Lk.silent {s with now:=s.til} (sumV l)) (Tx.hears.live (.inr (.inr hp))) hkk hself h.notg (h.ok.over (.inr (.inr hp))) hl ⟨rfl,rfl,rfl,rfl,rfl,rfl,rfl,rfl,rfl,rfl⟩ ⟨rfl,rfl,rfl,rfl,rfl,rfl,rfl⟩ rfl e2 h.cnt
    (fun e=>by rcases e with e|e|e<;>exact absurd e (by show ¬(5:Int)=_;decide))
    (fun e=>absurd e.2 (by show ¬(5:Int)≤4;decide))
    (fun j hj=>.inl (h.sp j hj)) (fun ad had=>(h.fra ad had).2.2)
    (fun e=>by rcases e with e|e<;>exact absurd e (by show ¬(5:Int)=_;decide))
    (fun _=>⟨by show (⟨sumV l,Rp.zero⟩:Oc)=⟨_,_⟩;rw[hsum],fun V _ _=>RpIs.zeroIs V _ _⟩)
   exact⟨_,rfl,o1,o2⟩
theorem pk_begin_range {g k:Nat} {P:Nat→Prop} {x:Tx} {s:Lk} {W:World} (h:PK g k P x s W) (hp:x.ph=0∨x.ph=5) (unit qf qa qq qc qo tick:Int) (hr:¬(1≤unit∧unit≤247∧x.now≤tick∧tick≤1152921504606846976)):
  Calls Tryz.prog 73 #[.pointer (some ⟨g,0,none⟩),.int .i64 unit,.agg #[.int .i64 qf,.int .i64 qa,.int .i64 qq,.int .i64 qc,.int .i64 qo],.int .i64 tick] W (PStep g (k+1) P x 3 W):=
 (begin_range g s unit qf qa qq qc qo tick W h.at_ (by have:=h.ph;omega) (by have:=h.now;omega)).mono fun _ _ hr=>h.refused hr
theorem pk_begin_form {g k:Nat} {P:Nat→Prop} {x:Tx} {s:Lk} {W:World} (h:PK g k P x s W) (hp:x.ph=0∨x.ph=5) (unit qf qa qq qc qo tick:Int) (h1:1≤unit) (h2:unit≤247) (h3:x.now≤tick) (h4:tick≤1152921504606846976) (hq:Rq.ok ⟨qf,qa,qq,qc,qo⟩=false):
  Calls Tryz.prog 73 #[.pointer (some ⟨g,0,none⟩),.int .i64 unit,.agg #[.int .i64 qf,.int .i64 qa,.int .i64 qq,.int .i64 qc,.int .i64 qo],.int .i64 tick] W (PStep g (k+1) P x 5 W):=
 (begin_form g s unit qf qa qq qc qo tick W h.at_ (by have:=h.ph;omega) h1 h2 (by have:=h.now;omega) h4 hq).mono fun _ _ hr=>h.refused hr
theorem PK.new {g:Nat} {b p re ti de:Int} {W W':World} (hset:Okset b p) (h1:0≤re) (h2:re≤5) (h3:1≤ti) (h4:ti≤5000000) (h5:0≤de) (h6:de≤5000000) (hl:LkAt W' g (Lk.new b p re ti de)) (hg:W.heap.size≤g):PK g 0 (Grow (fun _=>False) W W') (Tx.new b p re ti de) (Lk.new b p re ti de) W':=
 {at_:=hl
  ok:=Tx.ok.new hset h1 h2 h3 h4 h5 h6
  b:=rfl,p:=rfl,re:=rfl,ti:=rfl,dr:=rfl,ph:=rfl,un:=rfl,q:=rfl,now:=rfl,cnt:=rfl
  en:=fun e=>by rcases e with e|e|e<;>exact absurd e (by show ¬(0:Int)=_;decide)
  pin:=fun j hj=>by rcases hj with hj|hj;exact hj.elim;exact hj.2
  pg:=.inr ⟨hg,hl.lt⟩
  seen:=fun e=>absurd e.1 (by show ¬(1:Int)≤0;decide)
  sp:=fun j hj=>by cases hj
  fr:=fun e=>absurd e.1 (by show ¬(1:Int)≤0;decide)
  fra:=fun ad had=>by cases had
  rx:=fun e=>by rcases e with e|e<;>exact absurd e (by show ¬(0:Int)=_;decide)
  out:=fun e=>absurd e (by show ¬(0:Int)=5;decide)}
end Go.Proofs.YtoaoejaodhedaaaGreat
