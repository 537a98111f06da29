import Derived.Test.YtoaoejaodhedaaaGreatT27
namespace Go.Proofs.YtoaoejaodhedaaaGreat
open Go.RowKit
open Option renaming none→J,some→M
open Value renaming int→N
open IntKind renaming i64→U
set_option maxHeartbeats 3200000
set_option maxRecDepth 100000
variable {b e f f' p t tick unit v:Int} {l:List Int} {s s':Lk} {c g i j k rg sc:Nat} {G P Q:Nat→Prop} {a sa:Option Addr} {x:Rx} {W W' w':World}
def tz (w:World) (e:Int) (r:Ending) (w':World):Prop:=r=.returned (N U e)∧Below w.heap.size w w'
theorem vx (g:Nat) (s:Lk) (unit F E A C y tick:Int) (w:World) (m:LkAt w g s) (u:s.ph=0∨s.ph=5) (z:¬(1≤unit∧unit≤247∧s.now≤tick∧tick≤1152921504606846976)):
  Calls Tryz.prog 73 #[.pointer (M ⟨g,0,J⟩),N U unit,.agg #[N U F,N U E,N U A,N U C,N U y],N U tick] w (tz w 3):=by
 have K:=m.lt;have q:w.cell? ⟨g,5,J⟩=M (N U 0)∨w.cell? ⟨g,5,J⟩=M (N U 5):=by
  rw[m.cell 5];rcases u with h|h
  ·left;simp [Lk.cells,h]
  ·right;simp [Lk.cells,h]
 have I:w.cell? ⟨g,13,J⟩=M (N U s.now):=m.cell 13;obtain⟨V,n⟩:∃V,(decide (1≤unit)&&decide (unit≤247))=V:=⟨_,rfl⟩
 obtain⟨d,o⟩:∃d,(decide (s.now≤tick)&&decide (tick≤1152921504606846976))=d:=⟨_,rfl⟩
 have B:V=false∨(V=true∧d=false):=by
  cases V with
  |false=>exact .inl rfl
  |true=>
   refine .inr ⟨rfl,?_⟩;cases d with
   |false=>rfl
   |true=>simp at n o;omega
 replace n:=hid n;replace o:=hid o;clear m u z;rcases B with rfl|⟨rfl,rfl⟩<;>rcases q with q|q
 all_goals
  go_enter Tryz.func73,Tryz.ntmps73;go_wp2_with (first|(go_at_call 104;(with_reducible refine(bh unit 1 247 _ _ n).mono ?_);rintro r D ⟨rfl,rfl⟩)|(go_at_call 104;(with_reducible refine(bh tick s.now 1152921504606846976 _ _ o).mono ?_);rintro r D ⟨rfl,rfl⟩));go_ret;exact⟨rfl,bal' w _⟩
theorem zA (g:Nat) (s:Lk) (unit u q n o d tick:Int) (w:World) (m:LkAt w g s) (F:s.ph=0∨s.ph=5) (C:1≤unit) (A:unit≤247) (E:s.now≤tick) (D:tick≤1152921504606846976) (B:Rq.ok ⟨u,q,n,o,d⟩=false):
  Calls Tryz.prog 73 #[.pointer (M ⟨g,0,J⟩),N U unit,.agg #[N U u,N U q,N U n,N U o,N U d],N U tick] w (tz w 5):=by
 have S:=m.lt;have z:w.cell? ⟨g,5,J⟩=M (N U 0)∨w.cell? ⟨g,5,J⟩=M (N U 5):=by
  rw[m.cell 5];rcases F with h|h
  ·left;simp [Lk.cells,h]
  ·right;simp [Lk.cells,h]
 have R:w.cell? ⟨g,13,J⟩=M (N U s.now):=m.cell 13;have K:Hid ((decide (1≤unit)&&decide (unit≤247))=true):=by show _=_;rw[decide_eq_true C,decide_eq_true A];rfl
 have I:Hid ((decide (s.now≤tick)&&decide (tick≤1152921504606846976))=true):=by show _=_;rw[decide_eq_true E,decide_eq_true D];rfl
 have L:Hid (∀W,Calls Tryz.prog 121 #[.agg #[N U u,N U q,N U n,N U o,N U d]] W fun r w'=>r=.returned (.bool false)∧Below W.heap.size W w'):=fun W=>by rw[←B];exact b9 u q n o d W
 clear m F C A E D B;rcases z with z|z
 all_goals
  go_enter Tryz.func73,Tryz.ntmps73;go_wp2_with (first|(go_at_call 104;(with_reducible refine(bh unit 1 247 _ true K).mono ?_);rintro r O ⟨rfl,rfl⟩)|(go_at_call 104;(with_reducible refine(bh tick s.now 1152921504606846976 _ true I).mono ?_);rintro r O ⟨rfl,rfl⟩)|(go_at_call 121;(with_reducible refine(L.out _).mono ?_);rintro r w1 ⟨rfl,y⟩));go_ret;exact⟨rfl,bt (bal' w _) y (Nat.le_refl _)⟩
theorem wV (v:BitVec 64):BitVec.ofInt 64 (IntKind.wrap .i64 (v.toNat:Int))=v:=by
 apply BitVec.eq_of_toNat_eq;rw[BitVec.toNat_ofInt];have h:=v.isLt;simp only[IntKind.wrap,IntKind.signed,IntKind.bits,Bool.true_and];split<;>omega
theorem Dh (a b:Int):BitVec.ofInt 64 (Aw a b)=BitVec.ofInt 64 a|||BitVec.ofInt 64 b:=wV _
theorem pW (a b:Int):BitVec.ofInt 64 (gg a b)=BitVec.ofInt 64 a&&&BitVec.ofInt 64 b:=wV _
def Z (a:Int):Prop:=BitVec.ofInt 64 a=0#64
theorem KY (a b:Int):Z (Aw a b)↔Z a∧Z b:=by unfold Z;rw[Dh];exact BitVec.or_eq_zero_iff
theorem or_zero (a b:Int):Aw a b=0↔Z a∧Z b:=by
 constructor
 ·intro h
  rw[←KY,h];rfl
 ·rintro ⟨m,d⟩
  unfold Z at m d;show IntKind.wrap .i64 ((BitVec.ofInt 64 a|||BitVec.ofInt 64 b).toNat:Int)=0;rw[m,d];rfl
theorem and_zero (a b:Int):gg a b=0↔BitVec.ofInt 64 a&&&BitVec.ofInt 64 b=0#64:=by
 constructor
 ·intro h
  rw[←pW,h];rfl
 ·intro h
  show IntKind.wrap .i64 ((BitVec.ofInt 64 a&&&BitVec.ofInt 64 b).toNat:Int)=0;rw[h];rfl
theorem Qy (f:Int):Z (gg f 3)↔gg f 1=0∧gg f 2=0:=by
 unfold Z;rw[pW,and_zero,and_zero];have e:BitVec.ofInt 64 3=BitVec.ofInt 64 1|||BitVec.ofInt 64 2:=by decide+kernel
 rw[e,BitVec.and_or_distrib_left];exact BitVec.or_eq_zero_iff
structure Ev where
 t:Int
 v:UInt8
 fl:Int
def mD (l:List Ev) (i:Nat):Ev:=l.getD i ⟨0,0,0⟩
def kF (ch:Int) (l:List Ev) (i:Nat):Int:=if (mD l (i-1)).t<(mD l i).t-ch then (mD l i).t-ch- (mD l (i-1)).t else 0
def qX (ch t15:Int) (l:List Ev):Nat→Bool
 |0=>false
 |n+1=>qX ch t15 l n||(decide (0<n)&&decide (t15<kF ch l n))
def Gv (l:List Ev):Bool:=l.any fun e=>gg e.fl 1 !=0
def Hz (l:List Ev):Bool:=l.any fun e=>gg e.fl 2 !=0
def ic (ch t15:Int) (l:List Ev):Bool:= !(Gv l||Hz l||qX ch t15 l l.length||decide (256<l.length))
theorem lS {l:List Ev} {e:Ev} (h:i<l.length):mD (l++[e]) i=mD l i:=by
 unfold mD;rw[List.getD_eq_getElem?_getD,List.getD_eq_getElem?_getD,List.getElem?_append_left h]
theorem jd (l:List Ev) (e:Ev):mD (l++[e]) l.length=e:=by
 unfold mD;rw[List.getD_eq_getElem?_getD,List.getElem?_append_right (Nat.le_refl _),Nat.sub_self];rfl
theorem GB {ch:Int} {l:List Ev} {e:Ev} (h:i<l.length):kF ch (l++[e]) i=kF ch l i:=by
 unfold kF;rw[lS h,lS (by omega)]
theorem xy {ch t15:Int} {l:List Ev} {e:Ev}:∀n,n≤l.length→qX ch t15 (l++[e]) n=qX ch t15 l n
 |0,_=>rfl
 |n+1,h=>by
  show (qX ch t15 (l++[e]) n||_)=(qX ch t15 l n||_);rw[xy n (by omega),GB (by omega)]
structure j8 (b:Int) (l:List Ev) (x:Rx):Prop where
 ch:x.ch=charT b
 t15:x.t15=ed b
 t35:x.t35=bq b
 bs:x.bs=(l.map (·.v)).take 256
 act:x.act= !l.isEmpty
 la:l≠[]→x.la=(mD l (l.length-1)).t
 fl:x.fl=0↔ic (charT b) (ed b) l=true
 z:Z x.fl↔x.fl=0
theorem j8.bR {b:Int} {l:List Ev} {x:Rx} (h:j8 b l x) (d:l≠[]) (e:Ev):x.bR e.t=kF (charT b) (l++[e]) l.length:=by
 have m:0<l.length:=List.length_pos_iff.2 d;unfold Rx.bR kF;rw[h.ch,h.la d,jd,lS (by omega)]
theorem j8.ends {b:Int} {l:List Ev} {x:Rx} (h:j8 b l x) (e:Ev):x.ends e.t=(decide (0<l.length)&&decide (bq b≤kF (charT b) (l++[e]) l.length)):=by
 unfold Rx.ends;rw[h.act,h.t35];cases l with
 |nil=>rfl
 |cons y l=>
  rw[h.bR (by simp) e];simp
theorem ku (ch t15:Int) (l:List Ev) (e:Ev):ic ch t15 (l++[e])=true↔l.length<256∧ic ch t15 l=true∧(decide (0<l.length)&&decide (t15<kF ch (l++[e]) l.length))=false∧gg e.fl 1=0∧gg e.fl 2=0:=by
 unfold ic;have r:qX ch t15 (l++[e]) (l++[e]).length=(qX ch t15 l l.length||(decide (0<l.length)&&decide (t15<kF ch (l++[e]) l.length))):=by
  rw[List.length_append];show (qX _ _ (l++[e]) l.length||_)=_;rw[xy l.length (Nat.le_refl _)]
 rw[r];generalize (decide (0<l.length)&&decide (t15<kF ch (l++[e]) l.length))=G;generalize qX ch t15 l l.length=n;have m:Gv (l++[e])=(Gv l||gg e.fl 1 !=0):=by unfold Gv;simp
 have o:Hz (l++[e])=(Hz l||gg e.fl 2 !=0):=by unfold Hz;simp
 have q:(l++[e]).length=l.length+1:=by simp
 rw[m,o,q];generalize Gv l=P;generalize Hz l=F;by_cases d:l.length<256
 ·rw [decide_eq_false (show ¬256<l.length+1 by omega),decide_eq_false (show ¬256<l.length by omega)]
  cases P<;>cases F<;>cases n<;>cases G<;>simp [d]
 ·rw [decide_eq_true (show 256<l.length+1 by omega)]
  simp [d]
theorem j8.snoc {l:List Ev} (h:j8 b l x) (e:Ev) (he:x.ends e.t=false):j8 b (l++[e]) (x.char e.t e.v e.fl):=by
 have hlen:x.bs.length=min 256 l.length:=by rw[h.bs,List.length_take,List.length_map]
 have m:x.bs.length<256↔l.length<256:=by omega
 have n:x.char e.t e.v e.fl=x.add e.t e.v e.fl (x.bR e.t):=by unfold Rx.char;rw[he];rfl
 have o:(x.char e.t e.v e.fl).fl=Aw (if l.length<256 then jf x (x.bR e.t) else Aw (jf x (x.bR e.t)) 8) (gg e.fl 3):=by
  rw[n];show Aw (if x.bs.length<256 then _ else _) _=_;by_cases d:l.length<256
  ·rw [if_pos d,if_pos (m.2 d)]
  ·rw [if_neg d,if_neg (fun k=>d (m.1 k))]
 have w:(x.char e.t e.v e.fl).bs=((l++[e]).map (·.v)).take 256:=by
  rw[n];show (if x.bs.length<256 then x.bs++[e.v] else x.bs)=_;by_cases d:l.length<256
  ·rw [if_pos (m.2 d),h.bs,List.map_append,List.take_of_length_le (by rw[List.length_map];omega),List.take_of_length_le (by rw[List.length_append,List.length_map];show l.length+1≤256;omega)]
   rfl
  ·rw [if_neg (fun k=>d (m.1 k)),h.bs,List.map_append,List.take_append_of_le_length (by rw[List.length_map];omega)]
 have r:Z (jf x (x.bR e.t))↔Z x.fl∧(decide (0<l.length)&&decide (ed b<kF (charT b) (l++[e]) l.length))=false:=by
  unfold jf;rw[h.act,h.t15];cases l with
  |nil=>simp
  |cons y l=>
   rw[h.bR (by simp) e];have q:¬Z 4:=by unfold Z;decide+kernel
   by_cases hs:ed b<kF (charT b) (y::l++[e]) (y::l).length
   ·rw [if_pos ⟨by simp,hs⟩,KY]
    simp [q];intro _;exact hs
   ·rw [if_neg (fun k=>hs k.2)]
    simp;intro _;exact Int.not_lt.1 hs
 have z:Z (x.char e.t e.v e.fl).fl↔(x.char e.t e.v e.fl).fl=0:=by rw[o,or_zero,KY]
 refine⟨(Rx.jG x e.t e.v e.fl).trans h.ch,(Rx.Ez x e.t e.v e.fl).trans h.t15,(Rx.gK x e.t e.v e.fl).trans h.t35,w,?_,?_,?_,z⟩
 ·rw [n];cases l<;>rfl
 ·intro _
  rw[n,List.length_append];show e.t=_;rw[show l.length+[e].length-1=l.length from by simp,jd]
 ·rw [o,or_zero,Qy,ku]
  by_cases d:l.length<256
  ·rw [if_pos d,r,h.z,h.fl,and_assoc]
   exact⟨fun k=>⟨d,k⟩,fun k=>k.2⟩
  ·have u:¬Z 8:=by unfold Z;decide+kernel
   rw[if_neg d,KY];exact⟨fun k=>absurd k.1.2 u,fun k=>absurd k.1 d⟩
theorem vE (iM:List UInt8→Bool) (u:Int) (q:Rq) (h:f=0↔f'=0) (l:List UInt8):aT iM u q f l=aT iM u q f' l:=by
 unfold aT;cases bk iM l with
 |none=>rfl
 |some y=>
  show (if f=0∧y.1=u then _ else _)=(if f'=0∧y.1=u then _ else _);by_cases d:f=0
  ·rw [d,h.1 d]
  ·rw [if_neg (fun k=>d k.1),if_neg (fun k=>d (h.2 k.1))]
structure Tx where
 b:Int
 p:Int
 re:Int
 ti:Int
 de:Int
 ph:Int
 un:Int
 q:Rq
 now:Int
 en:Int
 til:Int
 last:Int
 bg:Int
 bad:Bool
 late:Bool
 ev:List Ev
 out:Oc
def Tx.aP (x:Tx):Prop:=x.ph=2∨x.ph=3∨x.ph=4
def Tx.aH (x:Tx) (before:Int):Int:=if before<x.en+cu x.b x.ti x.de then x.en+cu x.b x.ti x.de else before
def Tx.begun (x:Tx) (unit:Int) (q:Rq) (tick:Int):Tx:={x with ph:=1,un:=unit,q:=q,now:=tick,bg:=0,bad:=false,late:=false,out:=Oc.zero}
def Tx.aA (x:Tx) (e:Int):Tx:={x with ph:=2,en:=e,til:=e+bq x.b+x.ti+charT x.b,last:=0,ev:=[],bg:=x.bg+1}
def Tx.my (x:Tx) (e:Ev):Tx:={x with last:=e.t}
def Tx.heard (x:Tx) (e:Ev):Tx:={x with last:=e.t,ev:=x.ev++[e],ph:=3,til:=e.t+bq x.b+charT x.b}
def Tx.cut (x:Tx) (e:Ev):Tx:={x with last:=e.t,ev:=x.ev++[e],bad:=true,ph:=4,til:=x.aH e.t}
def Tx.splits (x:Tx) (e:Ev):Bool:=decide (0<x.ev.length)&&decide (bq x.b≤kF (charT x.b) (x.ev++[e]) x.ev.length)
def Tx.waited (x:Tx):Tx:={x with ph:=4,til:=x.aH x.til}
def Tx.bz (x:Tx):Oc:=aT aw x.un x.q (if ic (charT x.b) (ed x.b) x.ev=true then 0 else 1) ((x.ev.map (·.v)).take 256)
def Tx.nX (x:Tx):Tx:={x with now:=x.til,ph:=5,out:=x.bz}
def Tx.nT (x:Tx):Tx:={x with now:=x.til,bad:=x.bad||x.bz.verdict==4,late:=x.late||x.bz.verdict==5,ph:=4,til:=x.aH x.til}
def Tx.again (x:Tx):Tx:={x with now:=x.til,ph:=1}
def Tx.zY (x:Tx):Tx:={x with now:=x.til,ph:=5,out:=⟨if x.bad=true then 4 else if x.late=true then 5 else 3,Rp.zero⟩}
def tb (k:Nat):Int:=600000000000000000+15000000*(k+1)
def Tx.live (x:Tx):Prop:=1≤x.ph∧x.ph≤4
structure Tx.ok (x:Tx) (k:Nat):Prop where
 set:aU x.b x.p
 rq:0≤x.re
 qS:x.re≤5
 mW:1≤x.ti
 oj:x.ti≤5000000
 oy:0≤x.de
 o7:x.de≤5000000
 IJ:0≤x.ph
 zl:x.ph≤5
 ni:0≤x.bg
 lD:x.bg≤x.re+1
 wE:x.ph=1→x.bg≤x.re
 gI:0≤x.now
 gh:x.now≤tb k
 gd:x.aP→0≤x.en∧x.en≤tb k∧0≤x.til∧x.til≤tb k∧0≤x.last
 OB:x.ph=2→x.ev=[]
 LF:x.ph=3→x.ev≠[]∧x.til=x.last+bq x.b+charT x.b∧x.last=(mD x.ev (x.ev.length-1)).t
 EA:x.live→1≤x.un∧x.un≤247∧x.q.ok=true
 out:x.live→x.out=Oc.zero
theorem eZ (k:Nat):tb (k+1)=tb k+15000000:=by unfold tb;omega
theorem tL (h:k≤1000000000):tb k≤615000015000000000:=by unfold tb;omega
theorem Tx.aP.live {x:Tx} (h:x.aP):x.live:=by unfold Tx.aP at h;unfold Tx.live;omega
theorem Tx.ok.mono {x:Tx} (h:x.ok k):x.ok (k+1):=by
 have e:=eZ k;exact{h with
  gh:=by have:=h.gh;omega
  gd:=fun m=>by obtain⟨a,b,c,d,f⟩:=h.gd m;exact⟨a,by omega,c,by omega,f⟩}
theorem ng {x y:Int} (h:aU b p) (m:0≤x) (n:x≤5000000) (d:0≤y) (o:y≤5000000):0≤cu b x y∧cu b x y≤12500000:=by
 obtain⟨t1,t2,_,_,t5,t6⟩:=bV h;unfold cu;omega
theorem Tx.ok.aH {x:Tx} {k:Nat} (h:x.ok k) (m:x.aP) {t:Int} (o:0≤t) (n:t≤tb k):0≤x.aH t∧x.aH t≤tb (k+1):=by
 obtain⟨d0,d1⟩:=ng h.set (by have:=h.mW;omega) h.oj h.oy h.o7;obtain⟨a,b,c,d,f⟩:=h.gd m;have e:=eZ k;unfold Tx.aH;split<;>omega
theorem Tx.ok.begun {x:Tx} (h:x.ok k) {q:Rq} (d:q.ok=true) (m:1≤unit) (n:unit≤247) (u:x.now≤tick) (r:tick≤tb (k+1)):(x.begun unit q tick).ok (k+1):=by
 have e:=eZ k;have n0:=h.gI;have n1:=h.gh;exact{
  set:=h.set,rq:=h.rq,qS:=h.qS,mW:=h.mW,oj:=h.oj,oy:=h.oy,o7:=h.o7
  IJ:=by show (0:Int)≤1;decide
  zl:=by show (1:Int)≤5;decide
  ni:=by show (0:Int)≤0;decide
  lD:=by have:=h.rq;show (0:Int)≤x.re+1;omega
  wE:=fun _=>h.rq
  gI:=by show 0≤tick;omega
  gh:=by show tick≤_;omega
  gd:=fun o=>by rcases o with e|e|e<;>exact absurd e (by show ¬(1:Int)=_;decide)
  OB:=fun e=>absurd e (by show ¬(1:Int)=_;decide)
  LF:=fun e=>absurd e (by show ¬(1:Int)=_;decide)
  EA:=fun _=>⟨m,n,d⟩
  out:=fun _=>rfl}
theorem Tx.ok.aA {x:Tx} (h:x.ok k) (m:x.ph=1) (o:x.now≤e) (n:e≤x.now+4000000):(x.aA e).ok (k+1):=by
 have es:=eZ k;have n0:=h.gI;have n1:=h.gh;have i0:=h.mW;have i1:=h.oj;obtain⟨t1,t2,_,_,t5,t6⟩:=bV h.set;have d:x.live:=by unfold Tx.live;omega
 exact{
  set:=h.set,rq:=h.rq,qS:=h.qS,mW:=h.mW,oj:=h.oj,oy:=h.oy,o7:=h.o7
  IJ:=by show (0:Int)≤2;decide
  zl:=by show (2:Int)≤5;decide
  ni:=by have:=h.ni;show (0:Int)≤x.bg+1;omega
  lD:=by have:=h.wE m;show x.bg+1≤x.re+1;omega
  wE:=fun e=>absurd e (by show ¬(2:Int)=_;decide)
  gI:=n0
  gh:=by show x.now≤_;omega
  gd:=fun _=>⟨by show 0≤e;omega,by show e≤_;omega,by show 0≤e+bq x.b+x.ti+charT x.b;omega,by show e+bq x.b+x.ti+charT x.b≤_;omega,Int.le_refl _⟩
  OB:=fun _=>rfl
  LF:=fun e=>absurd e (by show ¬(2:Int)=_;decide)
  EA:=fun _=>h.EA d
  out:=fun _=>h.out d}
theorem Tx.ok.my {x:Tx} (h:x.ok k) (o:x.ph=2∨x.ph=4) {e:Ev} (m:0≤e.t):(x.my e).ok (k+1):=by
 have hm:=h.mono;exact{hm with
  gd:=fun n=>by obtain⟨a,b,c,d,f⟩:=hm.gd n;exact⟨a,b,c,d,m⟩
  LF:=fun e=>by have q:x.ph=3:=e;omega}
theorem Tx.ok.heard {x:Tx} (h:x.ok k) (n:x.ph=2∨x.ph=3) {e:Ev} (o:0≤e.t) (q:e.t≤x.til):(x.heard e).ok (k+1):=by
 have es:=eZ k;have m:x.aP:=n.elim .inl (fun h=>.inr (.inl h));obtain⟨a,b,c,d,f⟩:=h.gd m;obtain⟨t1,t2,_,_,t5,t6⟩:=bV h.set;have n1:=h.gh;exact{
  set:=h.set,rq:=h.rq,qS:=h.qS,mW:=h.mW,oj:=h.oj,oy:=h.oy,o7:=h.o7
  IJ:=by show (0:Int)≤3;decide
  zl:=by show (3:Int)≤5;decide
  ni:=h.ni
  lD:=h.lD
  wE:=fun e=>absurd e (by show ¬(3:Int)=_;decide)
  gI:=h.gI
  gh:=by show x.now≤_;omega
  gd:=fun _=>⟨a,by show x.en≤_;omega,by show 0≤e.t+bq x.b+charT x.b;omega,by show e.t+bq x.b+charT x.b≤_;omega,o⟩
  OB:=fun e=>absurd e (by show ¬(3:Int)=_;decide)
  LF:=fun _=>⟨by show x.ev++[e]≠[];simp,rfl,by show e.t=(mD (x.ev++[e]) ((x.ev++[e]).length-1)).t;rw[show (x.ev++[e]).length-1=x.ev.length from by simp,jd]⟩
  EA:=fun _=>h.EA m.live
  out:=fun _=>h.out m.live}
theorem Tx.ok.cL {x y:Tx} (h:x.ok k) (m:x.aP) (I:0≤t) (F:t≤tb k) (C:y.b=x.b) (B:y.p=x.p) (r:y.re=x.re) (z:y.ti=x.ti) (A:y.de=x.de) (K:y.ph=4) (E:y.un=x.un) (D:y.q=x.q) (J:y.now=x.now∨y.now=x.til) (n:y.en=x.en) (u:y.til=x.aH t) (o:0≤y.last) (w:y.bg=x.bg) (q:y.out=x.out):y.ok (k+1):=by
 have es:=eZ k;obtain⟨a,b,c,d,f⟩:=h.gd m;obtain⟨d0,d1⟩:=h.aH m I F;have n0:=h.gI;have n1:=h.gh;exact{
  set:=by rw[C,B];exact h.set
  rq:=by rw[r];exact h.rq
  qS:=by rw[r];exact h.qS
  mW:=by rw[z];exact h.mW
  oj:=by rw[z];exact h.oj
  oy:=by rw[A];exact h.oy
  o7:=by rw[A];exact h.o7
  IJ:=by omega
  zl:=by omega
  ni:=by rw[w];exact h.ni
  lD:=by rw[w,r];exact h.lD
  wE:=fun e=>by omega
  gI:=by omega
  gh:=by omega
  gd:=fun _=>by rw[n,u];exact⟨a,by omega,d0,d1,o⟩
  OB:=fun e=>by omega
  LF:=fun e=>by omega
  EA:=fun _=>by rw[E,D];exact h.EA m.live
  out:=fun _=>by rw[q];exact h.out m.live}
theorem Tx.ok.cut {x:Tx} (h:x.ok k) (m:x.aP) {e:Ev} (d:0≤e.t) (n:e.t≤x.til):(x.cut e).ok (k+1):=
 h.cL m d (by have:=(h.gd m).2.2.2.1;omega) rfl rfl rfl rfl rfl rfl rfl rfl (.inl rfl) rfl rfl d rfl rfl
theorem Tx.ok.waited {x:Tx} (h:x.ok k) (m:x.aP):x.waited.ok (k+1):=by
 obtain⟨a,b,c,d,f⟩:=h.gd m;exact h.cL m c d rfl rfl rfl rfl rfl rfl rfl rfl (.inl rfl) rfl rfl f rfl rfl
theorem Tx.ok.nT {x:Tx} (h:x.ok k) (m:x.aP):x.nT.ok (k+1):=by
 obtain⟨a,b,c,d,f⟩:=h.gd m;exact h.cL m c d rfl rfl rfl rfl rfl rfl rfl rfl (.inr rfl) rfl rfl f rfl rfl
theorem Tx.ok.ended {x y:Tx} (h:x.ok k) (w:x.aP) (u:y.b=x.b) (r:y.p=x.p) (m:y.re=x.re) (o:y.ti=x.ti) (q:y.de=x.de) (z:y.ph=5) (A:y.now=x.til) (n:y.bg=x.bg):y.ok (k+1):=by
 have es:=eZ k;obtain⟨a,b,c,d,f⟩:=h.gd w;exact{
  set:=by rw[u,r];exact h.set
  rq:=by rw[m];exact h.rq
  qS:=by rw[m];exact h.qS
  mW:=by rw[o];exact h.mW
  oj:=by rw[o];exact h.oj
  oy:=by rw[q];exact h.oy
  o7:=by rw[q];exact h.o7
  IJ:=by omega
  zl:=by omega
  ni:=by rw[n];exact h.ni
  lD:=by rw[n,m];exact h.lD
  wE:=fun e=>by omega
  gI:=by omega
  gh:=by omega
  gd:=fun e=>by unfold Tx.aP at e;omega
  OB:=fun e=>by omega
  LF:=fun e=>by omega
  EA:=fun e=>by unfold Tx.live at e;omega
  out:=fun e=>by unfold Tx.live at e;omega}
theorem Tx.ok.nX {x:Tx} (h:x.ok k) (d:x.aP):x.nX.ok (k+1):=h.ended d rfl rfl rfl rfl rfl rfl rfl rfl
theorem Tx.ok.zY {x:Tx} (h:x.ok k) (d:x.aP):x.zY.ok (k+1):=h.ended d rfl rfl rfl rfl rfl rfl rfl rfl
theorem Tx.ok.again {x:Tx} (h:x.ok k) (m:x.aP) (n:x.bg≤x.re):x.again.ok (k+1):=by
 have es:=eZ k;obtain⟨a,b,c,d,f⟩:=h.gd m;exact{
  set:=h.set,rq:=h.rq,qS:=h.qS,mW:=h.mW,oj:=h.oj,oy:=h.oy,o7:=h.o7
  IJ:=by show (0:Int)≤1;decide
  zl:=by show (1:Int)≤5;decide
  ni:=h.ni
  lD:=h.lD
  wE:=fun _=>n
  gI:=c
  gh:=by show x.til≤_;omega
  gd:=fun m=>by rcases m with e|e|e<;>exact absurd e (by show ¬(1:Int)=_;decide)
  OB:=fun e=>absurd e (by show ¬(1:Int)=_;decide)
  LF:=fun e=>absurd e (by show ¬(1:Int)=_;decide)
  EA:=fun _=>h.EA m.live
  out:=fun _=>h.out m.live}
def Tx.new (b p re ti de:Int):Tx:=⟨b,p,re,ti,de,0,0,Rq.zero,0,0,0,0,0,false,false,[],Oc.zero⟩
theorem Tx.ok.new {re ti de:Int} (h:aU b p) (d:0≤re) (q:re≤5) (r:1≤ti) (m:ti≤5000000) (n:0≤de) (o:de≤5000000):(Tx.new b p re ti de).ok 0:=
 {set:=h,rq:=d,qS:=q,mW:=r,oj:=m,oy:=n,o7:=o
  IJ:=by show (0:Int)≤0;decide
  zl:=by show (0:Int)≤5;decide
  ni:=by show (0:Int)≤0;decide
  lD:=by show (0:Int)≤re+1;omega
  wE:=fun _=>d
  gI:=by show (0:Int)≤0;decide
  gh:=by show (0:Int)≤_;unfold tb;omega
  gd:=fun u=>by rcases u with e|e|e<;>exact absurd e (by show ¬(0:Int)=_;decide)
  OB:=fun e=>absurd e (by show ¬(0:Int)=_;decide)
  LF:=fun e=>absurd e (by show ¬(0:Int)=_;decide)
  EA:=fun e=>absurd e.1 (by show ¬(1:Int)≤0;decide)
  out:=fun e=>absurd e.1 (by show ¬(1:Int)≤0;decide)}
def iK (P:Nat→Prop) (W w':World) (j:Nat):Prop:=P j∨(W.heap.size≤j∧j<w'.heap.size)
structure Ae (x:Tx) (l:List Int):Prop where
 lH:∀v∈l,v=3∨v=4∨v=5
 bad:4∈l↔x.bad=true
 late:5∈l↔x.late=true
 four:x.ph=4→l≠[]
 len:(l.length:Int)≤x.bg
 less:x.ph=2∨x.ph=3→(l.length:Int)<x.bg
def Vx (g:Nat) (P:Nat→Prop) (x:Tx) (s:Lk) (W:World):Prop:=
 ∃rg r a c,vC W g rg s r a c∧j8 x.b x.ev r∧(∀j,(Value.slice s.sa s.sn s.sc).ownBlock=M j→j<rg)∧(∀ad,s.fa=M ad→ad.block<rg)∧P rg∧∀j,(Value.slice a r.bs.length c).ownBlock=M j→P j
structure PK (g k:Nat) (P:Nat→Prop) (x:Tx) (s:Lk) (W:World):Prop where
 at_:LkAt W g s
 ok:x.ok k
 b:s.b=x.b
 p:s.p=x.p
 re:s.re=x.re
 ti:s.ti=x.ti
 dr:s.dr=cu x.b x.ti x.de
 ph:s.ph=x.ph
 un:s.un=x.un
 q:s.q=x.q
 now:s.now=x.now
 bg:s.bg=x.bg
 en:x.aP→s.en=x.en∧s.til=x.til∧s.la=x.last
 yT:∀j,P j→j<W.heap.size
 pg:P g
 seen:x.live→∃l,SeenAt W g s l∧Ae x l
 sp:∀j,(Value.slice s.sa s.sn s.sc).ownBlock=M j→P j
 fr:x.live→Bs W (.slice s.fa s.fn s.fc) (fj (UInt8.ofNat x.un.toNat) x.q.bE)
 oD:∀ad,s.fa=M ad→g<ad.block∧P ad.block∧(Value.slice s.sa s.sn s.sc).ownBlock≠some ad.block
 rx:x.ph=2∨x.ph=3→Vx g P x s W
 out:x.ph=5→s.o=x.out∧∀W',W.heap.size≤W'.heap.size→(∀j,P j→W'.heap[j]?=W.heap[j]?)→BF W' s
theorem PK.keeps {g k:Nat} {P Q:Nat→Prop} {x:Tx} {s:Lk} {W W':World} (h:PK g k P x s W) (d:Keeps Q W W') (n:∀j,P j→¬Q j):PK g k P x s W':=
 {h with
  at_:=h.at_.keeps d (n _ h.pg)
  yT:=fun j m=>Nat.lt_of_lt_of_le (h.yT j m) d.size
  seen:=fun q=>by
   obtain⟨l,hs,hi⟩:=h.seen q
   exact⟨l,⟨own_keeps hs.own d (fun j m=>n j (h.sp j m)),hs.len⟩,hi⟩
  fr:=fun q=>(h.fr q).qi d (fun B A=>n _ (h.oD B A).2.1)
  rx:=fun o=>by
   obtain⟨rg,r,a,c,w,C,F,E,y,z⟩:=h.rx o
   exact⟨rg,r,a,c,{w with at_:=w.at_.keeps d (n _ y),own:=own_keeps w.own d (fun j m=>n j (z j m))},C,F,E,y,z⟩
  out:=fun o=>⟨(h.out o).1,fun V D m=>(h.out o).2 V (Nat.le_trans d.size D) (fun j u=>(m j u).trans (d.block j (h.yT j u) (n j u)))⟩}
theorem PK.Az {x:Tx} (h:PK g k P x s W) (d:∀j,P j→Q j) (w:∀j,Q j→j<W.heap.size):PK g k Q x s W:=
 {h with
  yT:=w
  pg:=d _ h.pg
  sp:=fun j m=>d j (h.sp j m)
  oD:=fun q o=>⟨(h.oD q o).1,d _ (h.oD q o).2.1,(h.oD q o).2.2⟩
  rx:=fun n=>by
   obtain⟨rg,r,a,c,A,y,E,B,C,D⟩:=h.rx n
   exact⟨rg,r,a,c,A,y,E,B,d _ C,fun j m=>d j (D j m)⟩
  out:=fun n=>⟨(h.out n).1,fun V z m=>(h.out n).2 V z (fun j u=>m j (d j u))⟩}
theorem PK.Gs {x:Tx} (h:PK g k P x s W):PK g (k+1) P x s W:={h with ok:=h.ok.mono}
theorem iK.lt (h:iK P W w' j) (d:∀j,P j→j<W.heap.size) (hs:W.heap.size≤w'.heap.size):j<w'.heap.size:=by
 rcases h with h|h
 ·exact Nat.lt_of_lt_of_le (d j h) hs
 ·exact h.2
def j9 (g k:Nat) (P:Nat→Prop) (y:Tx) (e:Int) (W:World) (r:Ending) (w':World):Prop:=
 ∃s',r=.returned (N U e)∧PK g k (iK P W w') y s' w'∧Keeps P W w'
theorem PK.refused {x:Tx} {r:Ending} (h:PK g k P x s W) (m:tz W e r w'):j9 g (k+1) P x e W r w':=by
 obtain⟨rfl,d⟩:=m;have n:PK g k P x s w':=h.keeps (Q:=fun _=>False) (Keeps.af d) (fun _ _ f=>f);exact⟨s,rfl,(n.Az (fun j=>.inl) (fun j o=>o.lt h.yT d.size)).Gs,Keeps.af d⟩
structure Tx.pL (x y:Tx):Prop where
 b:y.b=x.b
 p:y.p=x.p
 re:y.re=x.re
 ti:y.ti=x.ti
 de:y.de=x.de
 un:y.un=x.un
 q:y.q=x.q
theorem PK.next {x y:Tx} (h:PK g k P x s W) (A:x.live) (o:Keeps G W W') (z:∀j,j<W.heap.size→G j→P j) (w:∀m,s.fa=M m→¬G m.block) (r:y.ok (k+1)) (u:LkAt W' g s') (ls:s.pL s') (d:x.pL y) (ph:s'.ph=y.ph) (now:s'.now=y.now) (bg:s'.bg=y.bg)
    (en:y.aP→s'.en=y.en∧s'.til=y.til∧s'.la=y.last) (seen:y.live→∃l,SeenAt W' g s' l∧Ae y l) (sp:∀j,(Value.slice s'.sa s'.sn s'.sc).ownBlock=M j→iK P W W' j) (B:∀m,s.fa=M m→(Value.slice s'.sa s'.sn s'.sc).ownBlock≠some m.block)
    (rx:y.ph=2∨y.ph=3→Vx g (iK P W W') y s' W') (out:y.ph=5→s'.o=y.out∧∀V,W'.heap.size≤V.heap.size→(∀j,iK P W W' j→V.heap[j]?=W'.heap[j]?)→BF V s'):PK g (k+1) (iK P W W') y s' W'∧Keeps P W W':=
  ⟨{
     at_:=u
     ok:=r
     b:=by rw[ls.b,d.b,h.b]
     p:=by rw[ls.p,d.p,h.p]
     re:=by rw[ls.re,d.re,h.re]
     ti:=by rw[ls.ti,d.ti,h.ti]
     dr:=by rw[ls.dr,d.b,d.ti,d.de,h.dr]
     ph:=ph
     un:=by rw[ls.un,d.un,h.un]
     q:=by rw[ls.q,d.q,h.q]
     now:=now
     bg:=bg
     en:=en
     yT:=fun j C=>C.lt h.yT o.size
     pg:=.inl h.pg
     seen:=seen
     sp:=sp
     fr:=fun _=>by
       rw[ls.fa,ls.fn,ls.fc,d.un,d.q]
       exact(h.fr A).qi o w
     oD:=fun m n=>by
       rw[ls.fa] at n
       exact⟨(h.oD m n).1,.inl (h.oD m n).2.1,B m n⟩
     rx:=rx
     out:=out},o.mono z⟩
theorem vC.M3 (h:vC W g rg s x a c) (d:Keeps (· =g) W W') (n:s.la≤t):vC W' g rg {s with la:=t} x a c:=
 {h with
  at_:=h.at_.keeps d (fun e=>by have:=h.low;have o:rg=g:=e;omega)
  own:=own_keeps h.own d (fun k m e=>by have q:=(h.own.lt k m).1;have:=h.low;have o:k=g:=e;omega)
  RI:=Int.le_trans h.RI n}
theorem SeenAt.self (h:SeenAt W g s l) (n:Keeps (· =g) W W') (o:s'.sa=s.sa) (d:s'.sn=s.sn) (q:s'.sc=s.sc):SeenAt W' g s' l:=by
 refine⟨?_,by rw[d];exact h.len⟩;rw[o,d,q];exact own_keeps h.own n (fun k m e=>by have r:=(h.own.lt k m).1;have u:k=g:=e;omega)
theorem PK.rz {x:Tx} (h:PK g k P x s W) (d:Addr) (m:s.fa=M d):¬(d.block=g):=by have:=(h.oD d m).1;omega
theorem Jj {x:Tx} (h:PK g k P x s W) (B:x.ph=1) (E:k≤1000000000) (e:Int) (K:x.now≤e) (I:e≤x.now+4000000):
  Calls Tryz.prog 75 #[.pointer (M ⟨g,0,J⟩),N U e] W (j9 g (k+1) P (x.aA e) 0 W):=by
 have u:x.live:=by unfold Tx.live;omega
 have q:aU s.b s.p:=by rw[h.b,h.p];exact h.ok.set
 obtain⟨t1,t2,_,_,t5,t6⟩:=bV q;have n0:=h.ok.gI;have n1:=h.ok.gh;have X:=tL E;have R:=h.ok.mW;have T:=h.ok.oj;have Y:=h.ok.ni;have q4:=h.ok.lD;have V:=h.ok.qS;have Z:=h.ph;have p2:=h.now;have O:=h.ti;have S:=h.bg;refine(DG g s e W h.at_ (by omega) (by omega) (by omega) (by omega) q (by omega) (by omega) (by omega) (by omega)).mono ?_;rintro r w' ⟨rg,rfl,C,m,w,A⟩;obtain⟨l,hs,hi⟩:=h.seen u;have D:=hpLt w;obtain⟨F,o2⟩:=h.next (y:=x.aA e) (s':=s.aA e (.pointer (M ⟨rg,0,J⟩))) u A (fun j _ e=>by have L:j=g:=e;rw[L];exact h.pg) h.rz (h.ok.aA B K I) C ⟨rfl,rfl,rfl,rfl,rfl,rfl,rfl,rfl,rfl,rfl⟩ ⟨rfl,rfl,rfl,rfl,rfl,rfl,rfl⟩ rfl h.now (by show s.bg+1=x.bg+1;rw[h.bg])
  (fun _=>⟨rfl,by show e+bq s.b+s.ti+charT s.b=e+bq x.b+x.ti+charT x.b;rw[h.b,h.ti],rfl⟩)
  (fun _=>⟨l,hs.self A rfl rfl rfl,{lH:=hi.lH,bad:=hi.bad,late:=hi.late,four:=fun e=>absurd e (by show ¬(2:Int)=4;decide),len:=by have:=hi.len;show (l.length:Int)≤x.bg+1;omega,less:=fun _=>by have:=hi.len;show (l.length:Int)<x.bg+1;omega}⟩)
  (fun j d=>.inl (h.sp j d)) (fun o n=>(h.oD o n).2.2)
  (fun _=>⟨rg,⟨charT s.b,ed s.b,bq s.b,[],0,0,0,false,0,0⟩,none,0,
   {rx:=rfl,at_:=w,own:=World.ownsRow_nil _ _ _ _,low:=Nat.lt_of_lt_of_le h.at_.lt m,Mg:=by show (0:Int)≤0;decide,RI:=by show (0:Int)≤0;decide,Qq:=by show (0:Int)≤0;decide,I2:=by show 0≤charT s.b;omega,Nk:=by show charT s.b≤_;omega,MK:=by show 0≤bq s.b;omega,RW:=by show bq s.b≤_;omega},
   {ch:=by show charT s.b=charT x.b;rw[h.b],t15:=by show ed s.b=ed x.b;rw[h.b],t35:=by show bq s.b=bq x.b;rw[h.b],bs:=rfl,act:=rfl,la:=fun e=>absurd rfl e,fl:=⟨fun _=>rfl,fun _=>rfl⟩,z:=⟨fun _=>rfl,fun _=>rfl⟩},
   fun j d=>Nat.lt_of_lt_of_le (h.yT j (h.sp j d)) m,fun o n=>Nat.lt_of_lt_of_le (h.yT _ (h.oD o n).2.1) m,.inr ⟨m,D⟩,fun j d=>by cases d⟩)
  (fun e=>absurd e (by show ¬(2:Int)=5;decide))
 exact⟨_,rfl,F,o2⟩
theorem ED {x:Tx} (h:PK g k P x s W) (hp:x.ph=0∨x.ph=5) (T:k≤1000000000) (unit u n d m w tick:Int) (D:1≤unit) (I:unit≤247) (Z:x.now≤tick) (z:tick≤tb (k+1)) (K:Rq.ok ⟨u,n,d,m,w⟩=true):
  Calls Tryz.prog 73 #[.pointer (M ⟨g,0,J⟩),N U unit,.agg #[N U u,N U n,N U d,N U m,N U w],N U tick] W (j9 g (k+1) P (x.begun unit ⟨u,n,d,m,w⟩ tick) 0 W):=by
 have p1:=h.ph;have p2:=h.now;have n1:=h.ok.gh;have tm:=tL T;have R:=eZ k;refine(zO g s unit u n d m w tick W h.at_ (by omega) D I (by omega) (by omega) K).mono ?_;rintro r w' ⟨fa,fc,rfl,S,O,V,L⟩;have hg:=h.at_.lt;refine⟨s.begun unit ⟨u,n,d,m,w⟩ tick fa (fj (UInt8.ofNat unit.toNat) (Rq.bE ⟨u,n,d,m,w⟩)).length fc,rfl,?_,L.mono (fun j _ e=>by have y:j=g:=e;rw[y];exact h.pg)⟩;exact
 {at_:=S
  ok:=h.ok.begun K D I Z z
  b:=h.b
  p:=h.p
  re:=h.re
  ti:=h.ti
  dr:=h.dr
  ph:=rfl
  un:=rfl
  q:=rfl
  now:=rfl
  bg:=rfl
  en:=fun e=>by rcases e with e|e|e<;>exact absurd e (by show ¬(1:Int)=_;decide)
  yT:=fun j B=>B.lt h.yT L.size
  pg:=.inl h.pg
  seen:=fun _=>⟨[],⟨World.ownsRow_nil _ _ _ _,rfl⟩,{lH:=fun v A=>(by cases A),bad:=⟨fun e=>(by cases e),fun e=>(by cases e)⟩,late:=⟨fun e=>(by cases e),fun e=>(by cases e)⟩,four:=fun e=>absurd e (by show ¬(1:Int)=4;decide),len:=Int.le_refl _,less:=fun e=>(by rcases e with e|e<;>exact absurd e (by show ¬(1:Int)=_;decide))}⟩
  sp:=fun j B=>by cases B
  fr:=fun _=>O
  oD:=fun E C=>by
   have e1:=V E C
   refine⟨by omega,.inr ⟨e1,?_⟩,fun e=>by cases e⟩
   obtain⟨a',c',A,_,_,_,z⟩:=O
   have F:fa=M E:=C
   cases A
   obtain⟨b,o,X,Y⟩:=z (by have e:=bp (UInt8.ofNat unit.toNat) (Rq.bE ⟨u,n,d,m,w⟩);intro y;rw[y] at e;exact absurd e (by simp))
   rw[X] at F
   cases F
   exact fg (Y 0 (by have e:=bp (UInt8.ofNat unit.toNat) (Rq.bE ⟨u,n,d,m,w⟩);omega))
  rx:=fun e=>by rcases e with e|e<;>exact absurd e (by show ¬(1:Int)=_;decide)
  out:=fun e=>absurd e (by show ¬(1:Int)=5;decide)}
theorem PK.my {g k:Nat} {P:Nat→Prop} {x:Tx} {s:Lk} {W W':World} (h:PK g k P x s W) (q:x.ph=2∨x.ph=4) {e:Ev} (J:0≤e.t) (I:s.la≤e.t) (D:LkAt W' g {s with la:=e.t}) (d:Keeps (· =g) W W'):PK g (k+1) (iK P W W') (x.my e) {s with la:=e.t} W'∧Keeps P W W':=by
 have m:x.aP:=q.elim .inl (fun h=>.inr (.inr h));obtain⟨l,hs,hi⟩:=h.seen m.live;obtain⟨M,C,N⟩:=h.en m;exact h.next (y:=x.my e) m.live d (fun j _ e=>by have o:j=g:=e;rw[o];exact h.pg) h.rz (h.ok.my q J) D ⟨rfl,rfl,rfl,rfl,rfl,rfl,rfl,rfl,rfl,rfl⟩ ⟨rfl,rfl,rfl,rfl,rfl,rfl,rfl⟩ h.ph h.now h.bg
  (fun _=>⟨M,C,rfl⟩)
  (fun _=>⟨l,hs.self d rfl rfl rfl,{lH:=hi.lH,bad:=hi.bad,late:=hi.late,four:=hi.four,len:=hi.len,less:=hi.less}⟩)
  (fun j n=>.inl (h.sp j n)) (fun E w=>(h.oD E w).2.2)
  (fun u=>by
   obtain⟨rg,r,a,c,z,F,L,K,A,B⟩:=h.rx u
   exact⟨rg,r,a,c,z.M3 d I,F,L,K,.inl A,fun j n=>.inl (B j n)⟩)
  (fun e=>by have o:x.ph=5:=e;omega)
theorem PK.uH {x y:Tx} {s1:Lk} (h:PK g k P x s W) (F:x.ph=2∨x.ph=3) (hi:Ae x l) (U:v=3∨v=4∨v=5) (O:LkAt W' g (s1.cL sa sc)) (D:SeenAt W' g (s1.cL sa sc) (l++[v])) (I:cZ W (.slice s.sa s.sn s.sc) (.slice sa (s.sn+1) sc)) (R:Keeps G W W') (L:∀j,j<W.heap.size→G j→P j) (S:∀d,s.fa=M d→¬G d.block)
  (ls:s.pL s1) (m:s1.sn=s.sn) (q:s1.bg=s.bg) (len:s1.en=s.en) (T:x.pL y) (E:y.bg=x.bg) (r:y.en=x.en) (w:y.ph=4) (N:y.ok (k+1)) (now:s1.now=y.now) (til:y.til=x.aH s1.til) (last:s1.la=y.last) (bad:y.bad=(x.bad||v==4)) (late:y.late=(x.late||v==5)):PK g (k+1) (iK P W W') y (s1.cL sa sc) W'∧Keeps P W W':=by
 have J:x.aP:=F.elim .inl (fun h=>.inr (.inl h));obtain⟨K,n,X⟩:=h.en J;have Y:=hi.less F;refine h.next (y:=y) J.live R L S N O ⟨ls.b,ls.p,ls.re,ls.ti,ls.dr,ls.fa,ls.fn,ls.fc,ls.un,ls.q⟩ T w.symm now (by show s1.bg=y.bg;rw[q,E,h.bg]) ?_ ?_ ?_ ?_ ?_ ?_
 ·intro _
  refine⟨by show s1.en=y.en;rw[len,r,K],?_,last⟩;show (if s1.til<s1.en+s1.dr then s1.en+s1.dr else s1.til)=y.til;rw[til,len,ls.dr,h.dr,K];rfl
 ·intro _
  refine⟨l++[v],D,{lH:=fun u hu=>?_,bad:=?_,late:=?_,four:=fun _=>by simp,len:=by rw[E];simp;omega,less:=fun e=>by omega}⟩
  ·rcases List.mem_append.1 hu with hu|hu
   ·exact hi.lH u hu
   ·rw [List.mem_singleton.1 hu];exact U
  ·rw [bad,List.mem_append,hi.bad,List.mem_singleton]
   cases x.bad<;>simp<;>exact eq_comm
  ·rw [late,List.mem_append,hi.late,List.mem_singleton]
   cases x.late<;>simp<;>exact eq_comm
 ·intro j A
  have o:(Value.slice sa (s.sn+1) sc).ownBlock=M j:=by rw[←m];exact A
  have V:=(D.own.lt j A).2;rcases I with e|⟨i,e,C⟩
  ·exact .inl (h.sp j (by rw[←e];exact o))
  ·rw [e] at o
   cases o;exact .inr ⟨C,V⟩
 ·intro d B e
  have z:(Value.slice sa (s.sn+1) sc).ownBlock=M d.block:=by rw[←m];exact e
  rcases I with n|⟨i,n,C⟩
  ·exact (h.oD d B).2.2 (by rw[←n];exact z)
  ·rw [n] at z
   cases z;have:=h.yT _ (h.oD d B).2.1;omega
 ·intro e;omega
 ·intro e;omega
def Tx.vU (x:Tx) (e:Ev):Int:=if 0≤e.t∧e.t≤x.til then (if e.t<x.last then 7 else 0) else 3
def Tx.ll (x:Tx) (e:Ev):Tx:=
 if 0≤e.t∧e.t≤x.til∧x.last≤e.t then
  (if x.ph=3∨(x.ph=2∧x.en<e.t) then (if x.splits e=true then x.cut e else x.heard e) else x.my e)
 else x
def Tx.bR (x:Tx):Tx:=
 if x.ph=2 then x.waited else if x.ph=3 then (if x.bz.verdict=1∨x.bz.verdict=2 then x.nX else x.nT) else if x.bg≤x.re then x.again else x.zY
theorem PK.same {x:Tx} (h:PK g k P x s W) (n:x.aP) (u:LkAt W' g s) (m:Keeps (· =g) W W'):PK g (k+1) (iK P W W') x s W'∧Keeps P W W':=by
 obtain⟨l,hs,hi⟩:=h.seen n.live;exact h.next (y:=x) n.live m (fun j _ e=>by have F:j=g:=e;rw[F];exact h.pg) h.rz h.ok.mono u ⟨rfl,rfl,rfl,rfl,rfl,rfl,rfl,rfl,rfl,rfl⟩ ⟨rfl,rfl,rfl,rfl,rfl,rfl,rfl⟩ h.ph h.now h.bg h.en
  (fun _=>⟨l,hs.self m rfl rfl rfl,hi⟩)
  (fun j d=>.inl (h.sp j d)) (fun w q=>(h.oD w q).2.2)
  (fun o=>by
   obtain⟨rg,r,a,c,A,z,E,B,C,D⟩:=h.rx o
   exact⟨rg,r,a,c,A.M3 m (t:=s.la) (Int.le_refl _),z,E,B,.inl C,fun j d=>.inl (D j d)⟩)
  (fun e=>by unfold Tx.aP at n;omega)
theorem LC {x:Tx} (h:PK g k P x s W) (u:x.aP) (hk:k≤1000000000) (e:Ev):
  Calls Tryz.prog 62 #[.pointer (M ⟨g,0,J⟩),.agg #[N U e.t,N .u8 (e.v.toNat:Int),N U e.fl]] W (j9 g (k+1) P (x.ll e) (x.vU e) W):=by
 obtain⟨t,v,fl⟩:=e;obtain⟨e1,Z,e3⟩:=h.en u;obtain⟨b0,b1,b2,b3,b4⟩:=h.ok.gd u;have tm:=tL hk;have p1:=h.ph;have Y:s.aP:=by unfold Tx.aP at u;unfold Lk.aP;omega
 by_cases n:0≤t∧t≤s.til
 ·have u7:0≤t∧t≤x.til:=by rw[←Z];exact n
  by_cases ho:t<s.la
  ·have E:x.vU ⟨t,v,fl⟩=7:=by unfold Tx.vU;rw[if_pos u7,if_pos (by show t<x.last;omega)]
   have q:x.ll ⟨t,v,fl⟩=x:=by unfold Tx.ll;rw[if_neg (fun e=>by have e':x.last≤t:=e.2.2;omega)]
   rw[E,q];refine(uc g s t v fl W h.at_ Y n ho).mono ?_;rintro r w' ⟨rfl,o,m⟩;exact⟨_,rfl,h.same u o m⟩
  ·have E:x.vU ⟨t,v,fl⟩=0:=by unfold Tx.vU;rw[if_pos u7,if_neg (by show ¬t<x.last;omega)]
   rw[E];have V:0≤t∧t≤x.til∧x.last≤t:=⟨u7.1,u7.2,by omega⟩
   by_cases I:x.ph=3∨(x.ph=2∧x.en<t)
   ·have C:x.ph=2∨x.ph=3:=by omega
    obtain⟨rg,r,a,c,d,F,A,K,L,S⟩:=h.rx C;obtain⟨l,hs,hi⟩:=h.seen u.live;have N0:=F.ends ⟨t,v,fl⟩;have X:x.splits ⟨t,v,fl⟩=r.ends t:=N0.symm;have VE:=d.low;obtain⟨t1,t2,_,_,t5,t6⟩:=bV h.ok.set;cases he:r.ends t with
    |false=>
     have q:x.ll ⟨t,v,fl⟩=x.heard ⟨t,v,fl⟩:=by unfold Tx.ll;rw[if_pos V,if_pos I,if_neg (by rw[X,he];decide)]
     rw[q];refine(vz g rg s r a c t v fl W h.at_ d n (by omega) (by omega) (by omega) he).mono ?_;rintro rr w' ⟨a',c',rfl,o,Ml,D,Dw,m⟩;have R:=F.ch;have O:=F.t35;obtain⟨T,o2⟩:=h.next (y:=x.heard ⟨t,v,fl⟩) (s':=s.heard r t) u.live m (fun j _ e=>by
       rcases e with e|e|e
       ·rw [e];exact h.pg
       ·rw [e];exact L
       ·exact S j e) (fun z w e=>by
       have f1:=h.rz z w
       have f2:=K z w
       rcases e with e|e|e
       ·exact f1 e
       ·omega
       ·have:=(d.own.lt _ e).1;omega) (h.ok.heard C u7.1 u7.2) o ⟨rfl,rfl,rfl,rfl,rfl,rfl,rfl,rfl,rfl,rfl⟩ ⟨rfl,rfl,rfl,rfl,rfl,rfl,rfl⟩ rfl h.now h.bg
      (fun _=>⟨e1,by show t+r.t35+r.ch=t+bq x.b+charT x.b;rw[R,O],rfl⟩)
      (fun _=>⟨l,⟨own_keeps hs.own m (fun j B e=>by
        have f1:=(hs.own.lt j B).1
        have f2:=A j B
        rcases e with e|e|e
        ·omega
        ·omega
        ·have:=(d.own.lt j e).1;omega),hs.len⟩,{lH:=hi.lH,bad:=hi.bad,late:=hi.late,four:=fun e=>absurd e (by show ¬(3:Int)=4;decide),len:=hi.len,less:=fun _=>hi.less C}⟩)
      (fun j B=>.inl (h.sp j B)) (fun z w=>(h.oD z w).2.2)
      (fun _=>⟨rg,r.char t v fl,a',c',{rx:=d.rx,at_:=Ml,own:=D,low:=VE,Mg:=by rw[Rx.mj];exact n.1,RI:=by rw[Rx.mj];exact Int.le_refl _,Qq:=by rw[Rx.KG];exact d.Qq,I2:=by rw[Rx.jG];exact d.I2,Nk:=by rw[Rx.jG];exact d.Nk,MK:=by rw[Rx.gK];exact d.MK,RW:=by rw[Rx.gK];exact d.RW},
       F.snoc ⟨t,v,fl⟩ he,A,K,.inl L,fun j B=>by
        have f1:=(D.lt j B).2
        rcases Dw j B with e|e
        ·exact .inl (S j e)
        ·exact .inr ⟨e,f1⟩⟩)
      (fun e=>absurd e (by show ¬(3:Int)=5;decide))
     exact⟨_,rfl,T,o2⟩
    |true=>
     have q:x.ll ⟨t,v,fl⟩=x.cut ⟨t,v,fl⟩:=by unfold Tx.ll;rw[if_pos V,if_pos I,if_pos (by rw[X,he])]
     rw[q];obtain⟨d0,d1⟩:=ng h.ok.set (by have:=h.ok.mW;omega) h.ok.oj h.ok.oy h.ok.o7;have BT:=h.dr;have oZ:=hi.less C;have lj:=h.ok.lD;have mB:=h.ok.qS;have Sd:=hs.len;refine(Af g rg s r a c l t v fl W h.at_ d hs A (by omega) (by omega) (by omega) (by omega) (by omega) n (by omega) (by omega) (by omega) he).mono ?_;rintro rr w' ⟨sa,sc,rfl,o,Jc,hn,m⟩;obtain⟨T,o2⟩:=h.uH (y:=x.cut ⟨t,v,fl⟩) (s1:={s with la:=t,ph:=3,til:=t}) C hi (.inr (.inl rfl)) o Jc hn m (fun j _ e=>by
       rcases e with e|e|e|e
       ·rw [e];exact h.pg
       ·rw [e];exact L
       ·exact S j e
       ·exact h.sp j e) (fun z w e=>by
       have f1:=h.rz z w
       have f2:=K z w
       rcases e with e|e|e|e
       ·exact f1 e
       ·omega
       ·have:=(d.own.lt _ e).1;omega
       ·exact (h.oD z w).2.2 e) ⟨rfl,rfl,rfl,rfl,rfl,rfl,rfl,rfl,rfl,rfl⟩ rfl rfl rfl ⟨rfl,rfl,rfl,rfl,rfl,rfl,rfl⟩ rfl rfl rfl (h.ok.cut u u7.1 u7.2) h.now rfl rfl (by show true=_;simp) (by show x.late=_;simp)
     exact⟨_,rfl,T,o2⟩
   ·have C:x.ph=2∨x.ph=4:=by unfold Tx.aP at u;omega
    have q:x.ll ⟨t,v,fl⟩=x.my ⟨t,v,fl⟩:=by unfold Tx.ll;rw[if_pos V,if_neg I]
    rw[q];refine(vy g s t v fl W h.at_ n (by omega) (by omega)).mono ?_;rintro r w' ⟨rfl,o,m⟩;exact⟨_,rfl,h.my C (e:=⟨t,v,fl⟩) n.1 (by show s.la≤t;omega) o m⟩
 ·have u7:¬(0≤t∧t≤x.til):=by rw[←Z];exact n
  have E:x.vU ⟨t,v,fl⟩=3:=by unfold Tx.vU;rw[if_neg u7]
  have q:x.ll ⟨t,v,fl⟩=x:=by unfold Tx.ll;rw[if_neg (fun e=>u7 ⟨e.1,e.2.1⟩)]
  rw[E,q];refine(tE g s t v fl W h.at_ Y n).mono ?_;rintro r w' ⟨rfl,o,m⟩;exact⟨_,rfl,h.same u o m⟩
theorem j8.A7 {x:Tx} {r:Rx} (d:j8 x.b x.ev r):aT aw x.un x.q r.fl r.bs=x.bz:=by
 unfold Tx.bz;rw[d.bs];refine vE _ _ _ ?_ _;rw[d.fl];cases ic (charT x.b) (ed x.b) x.ev<;>simp
theorem Am {x:Tx} (h:PK g k P x s W) (F:x.aP) (hk:k≤1000000000):
  Calls Tryz.prog 63 #[.pointer (M ⟨g,0,J⟩)] W (j9 g (k+1) P x.bR 0 W):=by
 obtain⟨e1,B,X⟩:=h.en F;obtain⟨b0,b1,b2,b3,b4⟩:=h.ok.gd F;have tm:=tL hk;have p1:=h.ph;obtain⟨l,hs,hi⟩:=h.seen F.live;obtain⟨d0,d1⟩:=ng h.ok.set (by have:=h.ok.mW;omega) h.ok.oj h.ok.oy h.ok.o7;have BT:=h.dr;have oZ:=hi.len;have lj:=h.ok.lD;have mB:=h.ok.qS;have Sd:=hs.len;have P4:=h.bg;have ao:=h.re;rcases F with d|d|d
 ·have w:x.bR=x.waited:=by unfold Tx.bR;rw[if_pos d]
  rw[w];refine(tj g s l W h.at_ hs (by omega) (by omega) (by omega) (by omega) (by omega) (by omega)).mono ?_;rintro r w' ⟨sa,sc,rfl,q,O,L,o⟩;obtain⟨u,o2⟩:=h.uH (y:=x.waited) (s1:=s) (.inl d) hi (.inl rfl) q O L o (fun j _ e=>by
    rcases e with e|e
    ·rw [e];exact h.pg
    ·exact h.sp j e) (fun n m e=>by
    rcases e with e|e
    ·exact h.rz n m e
    ·exact (h.oD n m).2.2 e) (Lk.pL.refl s) rfl rfl rfl ⟨rfl,rfl,rfl,rfl,rfl,rfl,rfl⟩ rfl rfl rfl (h.ok.waited (.inl d)) h.now (by show x.aH x.til=_;rw[B]) X (by show x.bad=_;simp) (by show x.late=_;simp)
  exact⟨_,rfl,u,o2⟩
 ·obtain ⟨rg,r,a,c,S,E,I,Z,U,I6⟩:=h.rx (.inr d)
  obtain⟨v1,v2,v3⟩:=h.ok.LF d;have Y:r.act=true:=by
   rw[E.act];cases Uh:x.ev with
   |nil=>exact absurd Uh v1
   |cons _ _=>rfl
  have DD:=E.la v1;have ak:=E.ch;have ab:=E.t35;have VE:=S.low;have K:aT aw s.un s.q r.fl r.bs=x.bz:=by rw[h.un,h.q];exact E.A7
  have D:=xV aw s.un s.q r.fl r.bs;have Lr:=q9 aw s.un s.q r.fl r.bs;rw[K] at D Lr;by_cases N:x.bz.verdict=1∨x.bz.verdict=2
  ·have w:x.bR=x.nX:=by unfold Tx.bR;rw[if_neg (by omega),if_pos d,if_pos N]
   rw[w];refine(uJ g rg s r a c x.bz W h.at_ S (by omega) Y (by omega) (by omega) K N).mono ?_;rintro rr w' ⟨da,dc,oa,oc,rfl,q,ho,o⟩;obtain⟨u,o2⟩:=h.next (y:=x.nX) (s':=Lk.gN {s with now:=s.til} x.bz da dc oa oc) (Tx.aP.live (.inr (.inl d))) o (fun j _ e=>by
     rcases e with e|e
     ·rw [e];exact h.pg
     ·rw [e];exact U) (fun n m e=>by
     have f2:=Z n m
     rcases e with e|e
     ·exact h.rz n m e
     ·omega) (h.ok.nX (.inr (.inl d))) q ⟨rfl,rfl,rfl,rfl,rfl,rfl,rfl,rfl,rfl,rfl⟩ ⟨rfl,rfl,rfl,rfl,rfl,rfl,rfl⟩ rfl B h.bg
    (fun e=>by rcases e with e|e|e<;>exact absurd e (by show ¬(5:Int)=_;decide))
    (fun e=>absurd e.2 (by show ¬(5:Int)≤4;decide))
    (fun j z=>.inl (h.sp j z)) (fun n m=>(h.oD n m).2.2)
    (fun e=>by rcases e with e|e<;>exact absurd e (by show ¬(5:Int)=_;decide))
    (fun _=>⟨rfl,fun V hV z=>⟨ho V ⟨hV,fun j C A=>z j (.inr ⟨C,A⟩)⟩,rfl,rfl,D⟩⟩)
   exact⟨_,rfl,u,o2⟩
  ·have dE:x.bz.verdict=4∨x.bz.verdict=5:=by omega
   have w:x.bR=x.nT:=by unfold Tx.bR;rw[if_neg (by omega),if_pos d,if_neg N]
   rw[w];refine(vN g rg s r a c l x.bz W h.at_ S (by omega) Y (by omega) (by omega) hs I K (by rw[beq_eq_false_iff_ne];omega) (by rw[beq_eq_false_iff_ne];omega) (by omega) (by omega) (by omega) (by omega) (by omega)).mono ?_;rintro rr w' ⟨sa,sc,rfl,q,O,L,o⟩;obtain⟨u,o2⟩:=h.uH (y:=x.nT) (s1:={s with now:=s.til}) (.inr d) hi (.inr dE) q O L o (fun j _ e=>by
     rcases e with e|e|e
     ·rw [e];exact h.pg
     ·rw [e];exact U
     ·exact h.sp j e) (fun n m e=>by
     have f2:=Z n m
     rcases e with e|e|e
     ·exact h.rz n m e
     ·omega
     ·exact (h.oD n m).2.2 e) ⟨rfl,rfl,rfl,rfl,rfl,rfl,rfl,rfl,rfl,rfl⟩ rfl rfl rfl ⟨rfl,rfl,rfl,rfl,rfl,rfl,rfl⟩ rfl rfl rfl (h.ok.nT (.inr (.inl d))) B (by show x.aH x.til=x.aH s.til;rw[B]) X rfl rfl
   exact⟨_,rfl,u,o2⟩
 ·have T:∀(j:Nat),j<W.heap.size→j=g→P j:=fun j _ e=>by rw[e];exact h.pg
  by_cases R:x.bg≤x.re
  ·have w:x.bR=x.again:=by unfold Tx.bR;rw[if_neg (by omega),if_neg (by omega),if_pos R]
   rw[w];refine(tY g s W h.at_ (by omega) (by omega)).mono ?_;rintro r w' ⟨rfl,q,o⟩;obtain⟨u,o2⟩:=h.next (y:=x.again) (s':={s with now:=s.til,ph:=1}) (Tx.aP.live (.inr (.inr d))) o T h.rz (h.ok.again (.inr (.inr d)) R) q ⟨rfl,rfl,rfl,rfl,rfl,rfl,rfl,rfl,rfl,rfl⟩ ⟨rfl,rfl,rfl,rfl,rfl,rfl,rfl⟩ rfl B h.bg
    (fun e=>by rcases e with e|e|e<;>exact absurd e (by show ¬(1:Int)=_;decide))
    (fun _=>⟨l,hs.self o rfl rfl rfl,{lH:=hi.lH,bad:=hi.bad,late:=hi.late,four:=fun e=>absurd e (by show ¬(1:Int)=4;decide),len:=hi.len,less:=fun e=>(by rcases e with e|e<;>exact absurd e (by show ¬(1:Int)=_;decide))}⟩)
    (fun j z=>.inl (h.sp j z)) (fun n m=>(h.oD n m).2.2)
    (fun e=>by rcases e with e|e<;>exact absurd e (by show ¬(1:Int)=_;decide))
    (fun e=>absurd e (by show ¬(1:Int)=5;decide))
   exact⟨_,rfl,u,o2⟩
  ·have w:x.bR=x.zY:=by unfold Tx.bR;rw[if_neg (by omega),if_neg (by omega),if_neg R]
   rw[w];refine(uO g s l W h.at_ hs ⟨hi.four d,hi.lH⟩ (by omega) (by omega)).mono ?_;rintro r w' ⟨rfl,q,o⟩;have Yu:nh l=if x.bad=true then 4 else if x.late=true then 5 else 3:=by
    unfold nh;have i1:=hi.bad;have i2:=hi.late;by_cases C:4∈l
    ·rw [if_pos C,if_pos (i1.1 C)]
    ·rw [if_neg C,if_neg (fun e=>C (i1.2 e))]
     by_cases A:5∈l
     ·rw [if_pos A,if_pos (i2.1 A)]
     ·rw [if_neg A,if_neg (fun e=>A (i2.2 e))]
   obtain⟨u,o2⟩:=h.next (y:=x.zY) (s':=Lk.mQ {s with now:=s.til} (nh l)) (Tx.aP.live (.inr (.inr d))) o T h.rz (h.ok.zY (.inr (.inr d))) q ⟨rfl,rfl,rfl,rfl,rfl,rfl,rfl,rfl,rfl,rfl⟩ ⟨rfl,rfl,rfl,rfl,rfl,rfl,rfl⟩ rfl B h.bg
    (fun e=>by rcases e with e|e|e<;>exact absurd e (by show ¬(5:Int)=_;decide))
    (fun e=>absurd e.2 (by show ¬(5:Int)≤4;decide))
    (fun j z=>.inl (h.sp j z)) (fun n m=>(h.oD n m).2.2)
    (fun e=>by rcases e with e|e<;>exact absurd e (by show ¬(5:Int)=_;decide))
    (fun _=>⟨by show (⟨nh l,Rp.zero⟩:Oc)=⟨_,_⟩;rw[Yu],fun V _ _=>dG.QB V _ _⟩)
   exact⟨_,rfl,u,o2⟩
theorem pC {x:Tx} (h:PK g k P x s W) (u:x.ph=0∨x.ph=5) (unit r q o n d tick:Int) (m:¬(1≤unit∧unit≤247∧x.now≤tick∧tick≤1152921504606846976)):
  Calls Tryz.prog 73 #[.pointer (M ⟨g,0,J⟩),N U unit,.agg #[N U r,N U q,N U o,N U n,N U d],N U tick] W (j9 g (k+1) P x 3 W):=
 (vx g s unit r q o n d tick W h.at_ (by have:=h.ph;omega) (by have:=h.now;omega)).mono fun _ _ m=>h.refused m
theorem ry {x:Tx} (h:PK g k P x s W) (A:x.ph=0∨x.ph=5) (unit q o n m d tick:Int) (w:1≤unit) (z:unit≤247) (B:x.now≤tick) (y:tick≤1152921504606846976) (u:Rq.ok ⟨q,o,n,m,d⟩=false):
  Calls Tryz.prog 73 #[.pointer (M ⟨g,0,J⟩),N U unit,.agg #[N U q,N U o,N U n,N U m,N U d],N U tick] W (j9 g (k+1) P x 5 W):=
 (zA g s unit q o n m d tick W h.at_ (by have:=h.ph;omega) w z (by have:=h.now;omega) y u).mono fun _ _ r=>h.refused r
theorem PK.new {g:Nat} {b p re ti de:Int} {W W':World} (z:aU b p) (u:0≤re) (o:re≤5) (B:1≤ti) (w:ti≤5000000) (y:0≤de) (A:de≤5000000) (m:LkAt W' g (Lk.new b p re ti de)) (r:W.heap.size≤g):PK g 0 (iK (fun _=>False) W W') (Tx.new b p re ti de) (Lk.new b p re ti de) W':=
 {at_:=m
  ok:=Tx.ok.new z u o B w y A
  b:=rfl,p:=rfl,re:=rfl,ti:=rfl,dr:=rfl,ph:=rfl,un:=rfl,q:=rfl,now:=rfl,bg:=rfl
  en:=fun e=>by rcases e with e|e|e<;>exact absurd e (by show ¬(0:Int)=_;decide)
  yT:=fun j d=>by rcases d with d|d;exact d.elim;exact d.2
  pg:=.inr ⟨r,m.lt⟩
  seen:=fun e=>absurd e.1 (by show ¬(1:Int)≤0;decide)
  sp:=fun j d=>by cases d
  fr:=fun e=>absurd e.1 (by show ¬(1:Int)≤0;decide)
  oD:=fun C n=>by cases n
  rx:=fun e=>by rcases e with e|e<;>exact absurd e (by show ¬(0:Int)=_;decide)
  out:=fun e=>absurd e (by show ¬(0:Int)=5;decide)}
