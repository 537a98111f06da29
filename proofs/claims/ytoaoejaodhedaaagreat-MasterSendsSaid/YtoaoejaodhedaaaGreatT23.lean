import Derived.Test.YtoaoejaodhedaaaGreatT12
import Derived.Deep.RegionWith
namespace Go.Proofs.YtoaoejaodhedaaaGreat
open Go.RowKit
open Value renaming slice→J,int→Z
open Option renaming none→N,some→U
open IntKind renaming i64→Y
open Obj renaming cells→K
open Ending renaming returned→O
set_option maxHeartbeats 6400000
set_option maxRecDepth 100000
variable {v:Int} {l:List Int} {b g i n p:Nat} {W3 w w' w1:World}
def Nb (w:World) (b:Int) (r:Ending) (w':World):Prop:=
 ∃g:Nat,r=O (.tuple #[.pointer (U ⟨g,0,N⟩),Z Y 0])∧w.heap.size≤g∧w'.heap[g]?=U (K #[Z Y (charT b),Z Y (ed b),Z Y (bq b),J none 0 0,Z Y 0,Z Y 0,Z Y 0,.bool false,Z Y 0,Z Y 0] 209)∧Below w.heap.size w w'
theorem EK (b p:Int) (h:Hid (aU b p)) (w:World):
  Calls Tryz.prog 129 #[.agg #[Z Y b,Z Y p]] w (Nb w b):=by
 obtain⟨C,k⟩:=gE (charT b);obtain⟨F,hF⟩:=gE (ed b);obtain⟨T,o⟩:=gE (bq b);have t:Hid (∀W,Calls Tryz.prog 128 #[.agg #[Z Y b,Z Y p]] W fun r w'=>r=O (Z Y C)∧Below W.heap.size W w'):=fun W=>by rw[←k];exact mf b p h W
 have s:Hid (∀W,Calls Tryz.prog 125 #[.agg #[Z Y b,Z Y p]] W fun r w'=>r=O (Z Y T)∧Below W.heap.size W w'):=fun W=>by rw[←o];exact ux b p h W
 have m:Hid (∀W,Calls Tryz.prog 165 #[.agg #[Z Y b,Z Y p]] W fun r w'=>r=O (Z Y F)∧Below W.heap.size W w'):=fun W=>by rw[←hF];exact OJ b p h W
 have y:Hid (∀r w',(∃g:Nat,r=O (.tuple #[.pointer (U ⟨g,0,N⟩),Z Y 0])∧w.heap.size≤g∧w'.heap[g]?=U (K #[Z Y C,Z Y F,Z Y T,J none 0 0,Z Y 0,Z Y 0,Z Y 0,.bool false,Z Y 0,Z Y 0] 209)∧Below w.heap.size w w')→Nb w b r w'):=by
  intro r w' u;subst k hF o;exact u
 clear k hF o;go_enter Tryz.func129,Tryz.ntmps129;go_wp2_with (first|(go_at_call 120;(with_reducible refine(svalid_ok b p h.out _).mono ?_);rintro r w1 ⟨rfl,f⟩;have q:=hpKeep (hpNew w _) f)|fail);have c0:=cF q 0 rfl
 have c1:=cF q 1 rfl
 have j:Below w1.heap.size w1 w1.drew:=(Below.refl _ _).drew;have a:=bt (bal' w _) f (Nat.le_refl _);clear q f;go_region_held3 (fun W=>Below w1.heap.size w1 W) ((first|exact j|exact bt (by assumption) c (Nat.le_refl _)|exact bt (by assumption) d (Nat.le_refl _)|exact bt (by assumption) e (Nat.le_refl _)|exact bta (by assumption) (Nat.le_refl _) _)) (first|(go_at_call 128;(with_reducible refine(t.out _).mono ?_);rintro r D ⟨rfl,e⟩)|(go_at_call 125;(with_reducible refine(s.out _).mono ?_);rintro r w5 ⟨rfl,d⟩)|(go_at_call 165;(with_reducible refine(m.out _).mono ?_);rintro r B ⟨rfl,c⟩))
 all_goals
  go_wp2;go_ret2;refine y.out _ _ ⟨_,rfl,?_,hpNew _ _,?_⟩
  ·have E:=a.size
   have z:=e.size;have A:=d.size;have x:=c.size;simp at z A x;omega
  ·first
    |exact bt a (bta (bt (bt (bt j e (Nat.le_refl _)) d (Nat.le_refl _)) c (Nat.le_refl _)) (Nat.le_refl _) _) (Nat.le_refl _)
    |exact bt a (bta (bt (bt (bt j e (Nat.le_refl _)) c (Nat.le_refl _)) d (Nat.le_refl _)) (Nat.le_refl _) _) (Nat.le_refl _)
    |exact bt a (bta (bt (bt (bt j d (Nat.le_refl _)) e (Nat.le_refl _)) c (Nat.le_refl _)) (Nat.le_refl _) _) (Nat.le_refl _)
    |exact bt a (bta (bt (bt (bt j d (Nat.le_refl _)) c (Nat.le_refl _)) e (Nat.le_refl _)) (Nat.le_refl _) _) (Nat.le_refl _)
    |exact bt a (bta (bt (bt (bt j c (Nat.le_refl _)) e (Nat.le_refl _)) d (Nat.le_refl _)) (Nat.le_refl _) _) (Nat.le_refl _)
    |exact bt a (bta (bt (bt (bt j c (Nat.le_refl _)) d (Nat.le_refl _)) e (Nat.le_refl _)) (Nat.le_refl _) _) (Nat.le_refl _)
structure Lk where
 b:Int
 p:Int
 re:Int
 ti:Int
 dr:Int
 ph:Int
 un:Int
 q:Rq
 fa:Option Addr
 fn:Nat
 fc:Nat
 now:Int
 en:Int
 til:Int
 la:Int
 rx:Value
 bg:Int
 sa:Option Addr
 sn:Nat
 sc:Nat
 o:Oc
 da:Option Addr
 dn:Nat
 dc:Nat
 oa:Option Addr
 on:Nat
 oc:Nat
def Lk.cells (s:Lk):Array Value:=
 #[Z Y s.b,Z Y s.p,Z Y s.re,Z Y s.ti,Z Y s.dr,Z Y s.ph,Z Y s.un,Z Y s.q.fn,Z Y s.q.addr,Z Y s.q.aF,Z Y s.q.code,Z Y s.q.obj,
  .slice s.fa s.fn s.fc,Z Y s.now,Z Y s.en,Z Y s.til,Z Y s.la,s.rx,Z Y s.bg,.slice s.sa s.sn s.sc,
  Z Y s.o.verdict,Z Y s.o.ae.fn,Z Y s.o.ae.ar,.slice s.da s.dn s.dc,Z Y s.o.ae.code,Z Y s.o.ae.level,.bool s.o.ae.more,Z Y s.o.ae.next,.slice s.oa s.on s.oc]
def LkAt (w:World) (g:Nat) (s:Lk):Prop:=w.heap[g]?=U (K s.cells 177)
theorem LkAt.ah {s:Lk} (h:LkAt w g s) (a:Below w.heap.size w w'):LkAt w' g s:=hpKeep h a
theorem LkAt.keeps {F:Nat→Prop} {s:Lk} (h:LkAt w g s) (c:Keeps F w w') (a:¬F g):LkAt w' g s:=hpKeeps h c a
theorem LkAt.cell {s:Lk} (h:LkAt w g s) (i:Nat):w.cell? ⟨g,i,N⟩=s.cells[i]?:=hpCell h i
theorem LkAt.free {s:Lk} (h:LkAt w g s) (i:Nat):w.frozen? ⟨g,i,N⟩=false:=hpFree h i
theorem LkAt.lt {s:Lk} (h:LkAt w g s):g<w.heap.size:=hpLt h
def Oc.zero:Oc:=⟨0,Rp.zero⟩
def Rq.zero:Rq:=⟨0,0,0,0,0⟩
def Lk.new (b p re ti de:Int):Lk:=⟨b,p,re,ti,cu b ti de,0,0,Rq.zero,none,0,0,0,0,0,0,.pointer none,0,none,0,0,Oc.zero,none,0,0,none,0,0⟩
def GA (w:World) (s:Lk) (r:Ending) (w':World):Prop:=
 ∃g:Nat,r=O (.tuple #[.pointer (U ⟨g,0,N⟩),Z Y 0])∧w.heap.size≤g∧LkAt w' g s∧Below w.heap.size w w'
theorem EP (b p re ti de:Int) (h:Hid (aU b p)) (t:0≤re) (u:re≤5) (x:1≤ti) (q:ti≤5000000) (f:0≤de) (j:de≤5000000) (w:World):
  Calls Tryz.prog 72 #[.agg #[Z Y b,Z Y p],Z Y re,Z Y ti,Z Y de] w (GA w (Lk.new b p re ti de)):=by
 obtain⟨D,m⟩:=gE (cu b ti de);have d:Hid (∀W,Calls Tryz.prog 101 #[.agg #[Z Y b,Z Y p],Z Y ti,Z Y de] W fun r w'=>r=O (Z Y D)∧Below W.heap.size W w'):=fun W=>by rw[←m];exact vr b p ti de h (by omega) q f j W
 have B:Hid ((decide (0≤re)&&decide (re≤5))=true):=by show _=_;rw[decide_eq_true t,decide_eq_true u];rfl
 have y:Hid ((decide (1≤ti)&&decide (ti≤5000000))=true):=by show _=_;rw[decide_eq_true x,decide_eq_true q];rfl
 have A:Hid ((decide (0≤de)&&decide (de≤5000000))=true):=by show _=_;rw[decide_eq_true f,decide_eq_true j];rfl
 have E:Hid (∀r w',(∃g:Nat,r=O (.tuple #[.pointer (U ⟨g,0,N⟩),Z Y 0])∧w.heap.size≤g∧w'.heap[g]?=U (K #[Z Y b,Z Y p,Z Y re,Z Y ti,Z Y D,Z Y 0,Z Y 0,Z Y 0,Z Y 0,Z Y 0,Z Y 0,Z Y 0,J none 0 0,Z Y 0,Z Y 0,Z Y 0,Z Y 0,.pointer none,Z Y 0,J none 0 0,Z Y 0,Z Y 0,Z Y 0,J none 0 0,Z Y 0,Z Y 0,.bool false,Z Y 0,J none 0 0] 177)∧Below w.heap.size w w')→GA w (Lk.new b p re ti de) r w'):=by
  intro r w' z;subst m;exact z
 clear m t u x q f j;go_enter Tryz.func72,Tryz.ntmps72;go_wp2_with (first|(go_at_call 120;(with_reducible refine(svalid_ok b p h.out _).mono ?_);rintro r w1 ⟨rfl,c⟩;have k:=hpKeep (hpNew w _) c)|(go_at_call 104;(with_reducible refine(bh re 0 5 _ true B).mono ?_);rintro r s ⟨rfl,rfl⟩)|(go_at_call 104;(with_reducible refine(bh ti 1 5000000 _ true y).mono ?_);rintro r s ⟨rfl,rfl⟩)|(go_at_call 104;(with_reducible refine(bh de 0 5000000 _ true A).mono ?_);rintro r s ⟨rfl,rfl⟩));have c0:=cF k 0 rfl
 have c1:=cF k 1 rfl
 have o:Below w1.heap.size w1 w1.drew:=(Below.refl _ _).drew;have a:=bt (bal' w _) c (Nat.le_refl _);clear k c;go_region_held3 (fun W=>Below w1.heap.size w1 W) ((first|exact o|exact bt o e (Nat.le_refl _)|exact bta (by assumption) (Nat.le_refl _) _)) ((go_at_call 101;(with_reducible refine(d.out _).mono ?_);rintro r F ⟨rfl,e⟩))
 all_goals
  go_wp2;go_ret2;refine E.out _ _ ⟨_,rfl,?_,hpNew _ _,?_⟩
  ·have G:=a.size
   have C:=e.size;simp at C;omega
  ·exact bt a (bta (bt o e (Nat.le_refl _)) (Nat.le_refl _) _) (Nat.le_refl _)
theorem hpSetE {c C:Array Value} {t:TypeId} {a:Nat×Nat} {u:Value} (h:w.heap[b]?=U (K c t a)) (e:c.setIfInBounds i u=C):
 (w.setCell ⟨b,i,N⟩ u).heap[b]?=U (K C t a):=by rw[hpSet h i u,e]
theorem sZ {o:Option Obj} (h:w.heap[b]?=o):w.drew.heap[b]?=o:=h
theorem kset' (h:Keeps (· =p) w w1) (i:Nat) (u:Value):Keeps (· =p) w (w1.setCell ⟨p,i,N⟩ u):=Keeps.set (F:=(· =p)) h ⟨p,i,N⟩ u rfl
theorem sr (h:Keeps (· =p) w w1):Keeps (· =p) w w1.drew:=h.trans (Keeps.af (Below.refl _ _).drew) (fun _ _ h=>h)
def Lk.begun (s:Lk) (unit:Int) (q:Rq) (tick:Int) (fa:Option Addr) (fn fc:Nat):Lk:=
 {s with ph:=1,un:=unit,q:=q,now:=tick,fa:=fa,fn:=fn,fc:=fc,bg:=0,sa:=none,sn:=0,sc:=0,o:=Oc.zero,da:=none,dn:=0,dc:=0,oa:=none,on:=0,oc:=0}
def B8 (w:World) (g:Nat) (s:Lk) (unit:Int) (q:Rq) (tick:Int) (r:Ending) (w':World):Prop:=
 ∃(fa:Option Addr) (fc:Nat),r=O (Z Y 0)∧LkAt w' g (s.begun unit q tick fa (fj (UInt8.ofNat unit.toNat) q.bE).length fc)∧Bs w' (.slice fa (fj (UInt8.ofNat unit.toNat) q.bE).length fc) (fj (UInt8.ofNat unit.toNat) q.bE)∧(∀ad,fa=U ad→w.heap.size≤ad.block)∧Keeps (· =g) w w'
theorem zO (g:Nat) (s:Lk) (unit:Int) (j k m o q tick:Int) (w:World) (L:LkAt w g s) (dV:s.ph=0∨s.ph=5) (T:1≤unit) (h2:unit≤247) (h3:s.now≤tick) (h4:tick≤1152921504606846976) (hq:Rq.ok ⟨j,k,m,o,q⟩=true):
  Calls Tryz.prog 73 #[.pointer (U ⟨g,0,N⟩),Z Y unit,.agg #[Z Y j,Z Y k,Z Y m,Z Y o,Z Y q],Z Y tick] w (B8 w g s unit ⟨j,k,m,o,q⟩ tick):=by
 have V1:Hid ((decide (1≤unit)&&decide (unit≤247))=true):=by show _=_;rw[decide_eq_true T,decide_eq_true h2];rfl
 have V2:Hid ((decide (s.now≤tick)&&decide (tick≤1152921504606846976))=true):=by show _=_;rw[decide_eq_true h3,decide_eq_true h4];rfl
 have HQ:Hid (∀W,Calls Tryz.prog 121 #[.agg #[Z Y j,Z Y k,Z Y m,Z Y o,Z Y q]] W fun r w'=>r=O (.bool true)∧Below W.heap.size W w'):=fun W=>by rw[←hq];exact b9 j k m o q W
 have HE:Hid (∀W,Calls Tryz.prog 122 #[.agg #[Z Y j,Z Y k,Z Y m,Z Y o,Z Y q]] W (qy W (Rq.bE ⟨j,k,m,o,q⟩))):=fun W=>C2 j k m o q hq W
 obtain⟨I,S⟩:=Rq.lF ⟨j,k,m,o,q⟩;have X:Hid (∀W a c p,Bs W (J a p.length c) p→1≤p.length→p.length≤253→Calls Tryz.prog 123 #[Z Y unit,J a p.length c] W (fun r w'=>∃fa fc,r=O (.tuple #[.slice fa (fj (UInt8.ofNat unit.toNat) p).length fc,Z Y 0])∧Bs w' (.slice fa (fj (UInt8.ofNat unit.toNat) p).length fc) (fj (UInt8.ofNat unit.toNat) p)∧(∀t,fa=U t→W.heap.size≤t.block)∧Below W.heap.size W w')):=by
  intro W a c p hp Q Qo;refine(qe unit a _ c p W hp).mono ?_;rintro r w' ⟨fa,fc,e,f,rfl,u,hb,B⟩;have M0:lf unit p=U (fj (UInt8.ofNat unit.toNat) p):=if_pos ⟨T,h2,Q,Qo⟩;rcases B with⟨rfl,B⟩|⟨_,B,_⟩
  ·rw [M0] at B
   cases B;exact⟨fa,fc,rfl,Bs.own u,fun t x=>(u.lt t.block (by rw[x];rfl)).1,hb⟩
  ·rw [M0] at B;cases B
 have hg:=L.lt;generalize hF:fj (UInt8.ofNat unit.toNat)=F at*;obtain⟨P,hP⟩:∃P,Rq.bE ⟨j,k,m,o,q⟩=P:=⟨_,rfl⟩
 rw[hP] at HE I S;have HL:=hid L;have HF:=hid hF;have Se:=hid hP;have kA:Below w.heap.size w (w.alloc (K #[Z Y j,Z Y k,Z Y m,Z Y o,Z Y q] 45)):=bal' w _;have l0:=L.ah kA;have Ux:(w.alloc (K #[Z Y j,Z Y k,Z Y m,Z Y o,Z Y q] 45)).cell? ⟨g,13,N⟩=U (Z Y s.now):=l0.cell 13;have ab:g≠w.heap.size:=by omega
 have G:((w.alloc (K #[Z Y j,Z Y k,Z Y m,Z Y o,Z Y q] 45)).cell? ⟨g,5,N⟩=U (Z Y 0))∨((w.alloc (K #[Z Y j,Z Y k,Z Y m,Z Y o,Z Y q] 45)).cell? ⟨g,5,N⟩=U (Z Y 5)):=by
  have h5:=l0.cell 5;rcases dV with h|h
  ·left;rw[h5];simp [Lk.cells,h]
  ·right;rw[h5];simp [Lk.cells,h]
 clear L hq hF hP dV T h2 h3 h4 l0;rcases G with G|G
 all_goals
  go_enter Tryz.func73,Tryz.ntmps73;go_wp2_with (first|(go_at_call 104;(with_reducible refine(bh unit 1 247 _ true V1).mono ?_);rintro r wi ⟨rfl,rfl⟩)|(go_at_call 104;(with_reducible refine(bh tick s.now 1152921504606846976 _ true V2).mono ?_);rintro r wi ⟨rfl,rfl⟩));refine(HQ.out _).mono ?_;rintro r w1 ⟨rfl,A⟩;have V:=hpKeep (hpNew w _) A;obtain⟨y0,y1,y2,y3,y4⟩:=kA5 V
  have C:=bt kA A (Nat.le_refl _);clear G Ux A;go_wp2_with fail;refine(HE.out _).mono ?_;rintro r w2 ⟨pa,pc,rfl,S6,y⟩;have M:=hpKeep V y;have E:=bt C y (Nat.le_refl _);have Lp:=hid (S6 w2 (ay.refl _ _));clear y0 y1 y2 y3 y4 V S6 y;go_wp2_with fail;refine(X.out _ _ _ _ Lp.out I (by omega)).mono ?_;rintro r w3 ⟨fa,fc,rfl,R8,yl,z⟩;have g3:=hpKeep M z;have V7:=bt E z (Nat.le_refl _);have d:=HL.out.ah V7;have R:=hid R8;have D:Hid (∀t,fa=U t→w.heap.size<t.block):=fun t x=>Nat.lt_of_lt_of_le (Nat.lt_of_lt_of_le (by have:=(Array.getElem?_eq_some_iff.1 M).1;exact this) (Nat.le_refl _)) (yl t x)
  obtain⟨y0,y1,y2,y3,y4⟩:=kA5 g3
  clear M g3 R8 yl z Lp;have G:=cG d 5 rfl;have f5:=hpFree d 5;have c6:=cG d 6 rfl;have f6:=hpFree d 6;have c7:=cG d 7 rfl;have f7:=hpFree d 7;have c8:=cG d 8 rfl;have f8:=hpFree d 8;have c9:=cG d 9 rfl;have f9:=hpFree d 9;have Lt:=cG d 10 rfl;have f10:=hpFree d 10;have Nu:=cG d 11 rfl;have f11:=hpFree d 11;have uS:=cG d 12 rfl;have f12:=hpFree d 12;have oM:=cG d 13 rfl;have f13:=hpFree d 13;have C7:=cG d 18 rfl;have f18:=hpFree d 18;have Ed:=cG d 19 rfl;have f19:=hpFree d 19;have Jf:=cG d 20 rfl;have f20:=hpFree d 20;have Ju:=cG d 21 rfl;have f21:=hpFree d 21;have Je:=cG d 22 rfl;have f22:=hpFree d 22;have LK:=cG d 23 rfl;have f23:=hpFree d 23;have FX:=cG d 24 rfl;have f24:=hpFree d 24;have Jb:=cG d 25 rfl;have f25:=hpFree d 25;have Lq:=cG d 26 rfl;have f26:=hpFree d 26;have U5:=cG d 27 rfl;have f27:=hpFree d 27;have Uu:=cG d 28 rfl;have f28:=hpFree d 28;go_wp2_with fail;go_region
  all_goals
   go_wp2;go_ret;unfold B8;rw[Se.out,HF.out];refine⟨fa,fc,rfl,?_,?_,?_,?_⟩
   ·unfold LkAt
    refine sZ ?_;show _=U (Obj.cells #[Z Y s.b,Z Y s.p,Z Y s.re,Z Y s.ti,Z Y s.dr,Z Y 1,Z Y unit,Z Y j,Z Y k,Z Y m,Z Y o,Z Y q,.slice fa (F P).length fc,Z Y tick,Z Y s.en,Z Y s.til,Z Y s.la,s.rx,Z Y 0,J none 0 0,Z Y 0,Z Y 0,Z Y 0,J none 0 0,Z Y 0,Z Y 0,.bool false,Z Y 0,J none 0 0] 177);refine hpSetE (c:=#[Z Y s.b,Z Y s.p,Z Y s.re,Z Y s.ti,Z Y s.dr,Z Y s.ph,Z Y unit,Z Y j,Z Y k,Z Y m,Z Y o,Z Y q,.slice fa (F P).length fc,Z Y tick,Z Y s.en,Z Y s.til,Z Y s.la,s.rx,Z Y 0,J none 0 0,Z Y 0,Z Y 0,Z Y 0,J none 0 0,Z Y 0,Z Y 0,.bool false,Z Y 0,J none 0 0]) ?_ rfl;refine hpSetE (c:=#[Z Y s.b,Z Y s.p,Z Y s.re,Z Y s.ti,Z Y s.dr,Z Y s.ph,Z Y unit,Z Y j,Z Y k,Z Y m,Z Y o,Z Y q,.slice fa (F P).length fc,Z Y tick,Z Y s.en,Z Y s.til,Z Y s.la,s.rx,Z Y 0,J none 0 0,Z Y 0,Z Y 0,Z Y 0,J none 0 0,Z Y 0,Z Y 0,.bool false,Z Y 0,.slice s.oa s.on s.oc]) ?_ rfl;refine hpSetE (c:=#[Z Y s.b,Z Y s.p,Z Y s.re,Z Y s.ti,Z Y s.dr,Z Y s.ph,Z Y unit,Z Y j,Z Y k,Z Y m,Z Y o,Z Y q,.slice fa (F P).length fc,Z Y tick,Z Y s.en,Z Y s.til,Z Y s.la,s.rx,Z Y 0,J none 0 0,Z Y 0,Z Y 0,Z Y 0,J none 0 0,Z Y 0,Z Y 0,.bool false,Z Y s.o.ae.next,.slice s.oa s.on s.oc]) ?_ rfl;refine hpSetE (c:=#[Z Y s.b,Z Y s.p,Z Y s.re,Z Y s.ti,Z Y s.dr,Z Y s.ph,Z Y unit,Z Y j,Z Y k,Z Y m,Z Y o,Z Y q,.slice fa (F P).length fc,Z Y tick,Z Y s.en,Z Y s.til,Z Y s.la,s.rx,Z Y 0,J none 0 0,Z Y 0,Z Y 0,Z Y 0,J none 0 0,Z Y 0,Z Y 0,.bool s.o.ae.more,Z Y s.o.ae.next,.slice s.oa s.on s.oc]) ?_ rfl;refine hpSetE (c:=#[Z Y s.b,Z Y s.p,Z Y s.re,Z Y s.ti,Z Y s.dr,Z Y s.ph,Z Y unit,Z Y j,Z Y k,Z Y m,Z Y o,Z Y q,.slice fa (F P).length fc,Z Y tick,Z Y s.en,Z Y s.til,Z Y s.la,s.rx,Z Y 0,J none 0 0,Z Y 0,Z Y 0,Z Y 0,J none 0 0,Z Y 0,Z Y s.o.ae.level,.bool s.o.ae.more,Z Y s.o.ae.next,.slice s.oa s.on s.oc]) ?_ rfl;refine hpSetE (c:=#[Z Y s.b,Z Y s.p,Z Y s.re,Z Y s.ti,Z Y s.dr,Z Y s.ph,Z Y unit,Z Y j,Z Y k,Z Y m,Z Y o,Z Y q,.slice fa (F P).length fc,Z Y tick,Z Y s.en,Z Y s.til,Z Y s.la,s.rx,Z Y 0,J none 0 0,Z Y 0,Z Y 0,Z Y 0,J none 0 0,Z Y s.o.ae.code,Z Y s.o.ae.level,.bool s.o.ae.more,Z Y s.o.ae.next,.slice s.oa s.on s.oc]) ?_ rfl;refine hpSetE (c:=#[Z Y s.b,Z Y s.p,Z Y s.re,Z Y s.ti,Z Y s.dr,Z Y s.ph,Z Y unit,Z Y j,Z Y k,Z Y m,Z Y o,Z Y q,.slice fa (F P).length fc,Z Y tick,Z Y s.en,Z Y s.til,Z Y s.la,s.rx,Z Y 0,J none 0 0,Z Y 0,Z Y 0,Z Y 0,.slice s.da s.dn s.dc,Z Y s.o.ae.code,Z Y s.o.ae.level,.bool s.o.ae.more,Z Y s.o.ae.next,.slice s.oa s.on s.oc]) ?_ rfl;refine hpSetE (c:=#[Z Y s.b,Z Y s.p,Z Y s.re,Z Y s.ti,Z Y s.dr,Z Y s.ph,Z Y unit,Z Y j,Z Y k,Z Y m,Z Y o,Z Y q,.slice fa (F P).length fc,Z Y tick,Z Y s.en,Z Y s.til,Z Y s.la,s.rx,Z Y 0,J none 0 0,Z Y 0,Z Y 0,Z Y s.o.ae.ar,.slice s.da s.dn s.dc,Z Y s.o.ae.code,Z Y s.o.ae.level,.bool s.o.ae.more,Z Y s.o.ae.next,.slice s.oa s.on s.oc]) ?_ rfl;refine hpSetE (c:=#[Z Y s.b,Z Y s.p,Z Y s.re,Z Y s.ti,Z Y s.dr,Z Y s.ph,Z Y unit,Z Y j,Z Y k,Z Y m,Z Y o,Z Y q,.slice fa (F P).length fc,Z Y tick,Z Y s.en,Z Y s.til,Z Y s.la,s.rx,Z Y 0,J none 0 0,Z Y 0,Z Y s.o.ae.fn,Z Y s.o.ae.ar,.slice s.da s.dn s.dc,Z Y s.o.ae.code,Z Y s.o.ae.level,.bool s.o.ae.more,Z Y s.o.ae.next,.slice s.oa s.on s.oc]) ?_ rfl;refine hpSetE (c:=#[Z Y s.b,Z Y s.p,Z Y s.re,Z Y s.ti,Z Y s.dr,Z Y s.ph,Z Y unit,Z Y j,Z Y k,Z Y m,Z Y o,Z Y q,.slice fa (F P).length fc,Z Y tick,Z Y s.en,Z Y s.til,Z Y s.la,s.rx,Z Y 0,J none 0 0,Z Y s.o.verdict,Z Y s.o.ae.fn,Z Y s.o.ae.ar,.slice s.da s.dn s.dc,Z Y s.o.ae.code,Z Y s.o.ae.level,.bool s.o.ae.more,Z Y s.o.ae.next,.slice s.oa s.on s.oc]) ?_ rfl;refine hpSetE (c:=#[Z Y s.b,Z Y s.p,Z Y s.re,Z Y s.ti,Z Y s.dr,Z Y s.ph,Z Y unit,Z Y j,Z Y k,Z Y m,Z Y o,Z Y q,.slice fa (F P).length fc,Z Y tick,Z Y s.en,Z Y s.til,Z Y s.la,s.rx,Z Y 0,.slice s.sa s.sn s.sc,Z Y s.o.verdict,Z Y s.o.ae.fn,Z Y s.o.ae.ar,.slice s.da s.dn s.dc,Z Y s.o.ae.code,Z Y s.o.ae.level,.bool s.o.ae.more,Z Y s.o.ae.next,.slice s.oa s.on s.oc]) ?_ rfl;refine hpSetE (c:=#[Z Y s.b,Z Y s.p,Z Y s.re,Z Y s.ti,Z Y s.dr,Z Y s.ph,Z Y unit,Z Y j,Z Y k,Z Y m,Z Y o,Z Y q,.slice fa (F P).length fc,Z Y tick,Z Y s.en,Z Y s.til,Z Y s.la,s.rx,Z Y s.bg,.slice s.sa s.sn s.sc,Z Y s.o.verdict,Z Y s.o.ae.fn,Z Y s.o.ae.ar,.slice s.da s.dn s.dc,Z Y s.o.ae.code,Z Y s.o.ae.level,.bool s.o.ae.more,Z Y s.o.ae.next,.slice s.oa s.on s.oc]) ?_ rfl;refine hpSetE (c:=#[Z Y s.b,Z Y s.p,Z Y s.re,Z Y s.ti,Z Y s.dr,Z Y s.ph,Z Y unit,Z Y j,Z Y k,Z Y m,Z Y o,Z Y q,.slice fa (F P).length fc,Z Y s.now,Z Y s.en,Z Y s.til,Z Y s.la,s.rx,Z Y s.bg,.slice s.sa s.sn s.sc,Z Y s.o.verdict,Z Y s.o.ae.fn,Z Y s.o.ae.ar,.slice s.da s.dn s.dc,Z Y s.o.ae.code,Z Y s.o.ae.level,.bool s.o.ae.more,Z Y s.o.ae.next,.slice s.oa s.on s.oc]) ?_ rfl;refine hpSetE (c:=#[Z Y s.b,Z Y s.p,Z Y s.re,Z Y s.ti,Z Y s.dr,Z Y s.ph,Z Y unit,Z Y j,Z Y k,Z Y m,Z Y o,Z Y s.q.obj,.slice fa (F P).length fc,Z Y s.now,Z Y s.en,Z Y s.til,Z Y s.la,s.rx,Z Y s.bg,.slice s.sa s.sn s.sc,Z Y s.o.verdict,Z Y s.o.ae.fn,Z Y s.o.ae.ar,.slice s.da s.dn s.dc,Z Y s.o.ae.code,Z Y s.o.ae.level,.bool s.o.ae.more,Z Y s.o.ae.next,.slice s.oa s.on s.oc]) ?_ rfl;refine hpSetE (c:=#[Z Y s.b,Z Y s.p,Z Y s.re,Z Y s.ti,Z Y s.dr,Z Y s.ph,Z Y unit,Z Y j,Z Y k,Z Y m,Z Y s.q.code,Z Y s.q.obj,.slice fa (F P).length fc,Z Y s.now,Z Y s.en,Z Y s.til,Z Y s.la,s.rx,Z Y s.bg,.slice s.sa s.sn s.sc,Z Y s.o.verdict,Z Y s.o.ae.fn,Z Y s.o.ae.ar,.slice s.da s.dn s.dc,Z Y s.o.ae.code,Z Y s.o.ae.level,.bool s.o.ae.more,Z Y s.o.ae.next,.slice s.oa s.on s.oc]) ?_ rfl;refine hpSetE (c:=#[Z Y s.b,Z Y s.p,Z Y s.re,Z Y s.ti,Z Y s.dr,Z Y s.ph,Z Y unit,Z Y j,Z Y k,Z Y s.q.aF,Z Y s.q.code,Z Y s.q.obj,.slice fa (F P).length fc,Z Y s.now,Z Y s.en,Z Y s.til,Z Y s.la,s.rx,Z Y s.bg,.slice s.sa s.sn s.sc,Z Y s.o.verdict,Z Y s.o.ae.fn,Z Y s.o.ae.ar,.slice s.da s.dn s.dc,Z Y s.o.ae.code,Z Y s.o.ae.level,.bool s.o.ae.more,Z Y s.o.ae.next,.slice s.oa s.on s.oc]) ?_ rfl;refine hpSetE (c:=#[Z Y s.b,Z Y s.p,Z Y s.re,Z Y s.ti,Z Y s.dr,Z Y s.ph,Z Y unit,Z Y j,Z Y s.q.addr,Z Y s.q.aF,Z Y s.q.code,Z Y s.q.obj,.slice fa (F P).length fc,Z Y s.now,Z Y s.en,Z Y s.til,Z Y s.la,s.rx,Z Y s.bg,.slice s.sa s.sn s.sc,Z Y s.o.verdict,Z Y s.o.ae.fn,Z Y s.o.ae.ar,.slice s.da s.dn s.dc,Z Y s.o.ae.code,Z Y s.o.ae.level,.bool s.o.ae.more,Z Y s.o.ae.next,.slice s.oa s.on s.oc]) ?_ rfl;refine hpSetE (c:=#[Z Y s.b,Z Y s.p,Z Y s.re,Z Y s.ti,Z Y s.dr,Z Y s.ph,Z Y unit,Z Y s.q.fn,Z Y s.q.addr,Z Y s.q.aF,Z Y s.q.code,Z Y s.q.obj,.slice fa (F P).length fc,Z Y s.now,Z Y s.en,Z Y s.til,Z Y s.la,s.rx,Z Y s.bg,.slice s.sa s.sn s.sc,Z Y s.o.verdict,Z Y s.o.ae.fn,Z Y s.o.ae.ar,.slice s.da s.dn s.dc,Z Y s.o.ae.code,Z Y s.o.ae.level,.bool s.o.ae.more,Z Y s.o.ae.next,.slice s.oa s.on s.oc]) ?_ rfl;refine hpSetE (c:=#[Z Y s.b,Z Y s.p,Z Y s.re,Z Y s.ti,Z Y s.dr,Z Y s.ph,Z Y s.un,Z Y s.q.fn,Z Y s.q.addr,Z Y s.q.aF,Z Y s.q.code,Z Y s.q.obj,.slice fa (F P).length fc,Z Y s.now,Z Y s.en,Z Y s.til,Z Y s.la,s.rx,Z Y s.bg,.slice s.sa s.sn s.sc,Z Y s.o.verdict,Z Y s.o.ae.fn,Z Y s.o.ae.ar,.slice s.da s.dn s.dc,Z Y s.o.ae.code,Z Y s.o.ae.level,.bool s.o.ae.more,Z Y s.o.ae.next,.slice s.oa s.on s.oc]) ?_ rfl;refine hpSetE (c:=#[Z Y s.b,Z Y s.p,Z Y s.re,Z Y s.ti,Z Y s.dr,Z Y s.ph,Z Y s.un,Z Y s.q.fn,Z Y s.q.addr,Z Y s.q.aF,Z Y s.q.code,Z Y s.q.obj,.slice s.fa s.fn s.fc,Z Y s.now,Z Y s.en,Z Y s.til,Z Y s.la,s.rx,Z Y s.bg,.slice s.sa s.sn s.sc,Z Y s.o.verdict,Z Y s.o.ae.fn,Z Y s.o.ae.ar,.slice s.da s.dn s.dc,Z Y s.o.ae.code,Z Y s.o.ae.level,.bool s.o.ae.more,Z Y s.o.ae.next,.slice s.oa s.on s.oc]) ?_ rfl;exact d
   ·refine R.out.qi (F:=(· =g)) ?_ (fun t x h=>by have:=D.out t x;have h':t.block=g:=h;omega)
    refine sr ?_
    repeat (with_reducible refine kset' ?_ _ _)
    exact Keeps.refl _ _
   ·exact fun t x=>Nat.le_of_lt (D.out t x)
   ·refine sr ?_
    repeat (with_reducible refine kset' ?_ _ _)
    exact Keeps.af V7
def Lk.aA (s:Lk) (en:Int) (rx:Value):Lk:={s with ph:=2,bg:=s.bg+1,en:=en,la:=0,til:=en+bq s.b+s.ti+charT s.b,rx:=rx}
def QS (w:World) (g:Nat) (s:Lk) (en:Int) (r:Ending) (w':World):Prop:=
 ∃rg:Nat,r=O (Z Y 0)∧LkAt w' g (s.aA en (.pointer (U ⟨rg,0,N⟩)))∧w.heap.size≤rg∧w'.heap[rg]?=U (K #[Z Y (charT s.b),Z Y (ed s.b),Z Y (bq s.b),J none 0 0,Z Y 0,Z Y 0,Z Y 0,.bool false,Z Y 0,Z Y 0] 209)∧Keeps (· =g) w w'
def iG (W8:World) (g:Nat) (v:Value) (W:World):Prop:=Below W8.heap.size W8 W∨∃X,Below W8.heap.size W8 X∧W=X.setCell ⟨g,15,N⟩ v
theorem iG.cell {a W:World} {g:Nat} {v:Value} {s:Lk} (h:iG a g v W) (c:LkAt a g s) (i:Nat) (hi:i≠15):W.cell? ⟨g,i,N⟩=s.cells[i]?:=by
 rcases h with h|⟨X,h,rfl⟩
 ·exact (c.ah h).cell i
 ·rw [hpCell (hpSet (c.ah h) 15 v) i]
  simp [Ne.symm hi]
theorem DG (g:Nat) (s:Lk) (en:Int) (w:World) (c:LkAt w g s) (dV:s.ph=1) (h0:0≤s.now) (L:s.now≤en) (h2:en≤1152921504606846976) (B:Hid (aU s.b s.p)) (h3:0≤s.ti) (h4:s.ti≤5000000) (h5:0≤s.bg) (h6:s.bg≤1000):
  Calls Tryz.prog 75 #[.pointer (U ⟨g,0,N⟩),Z Y en] w (QS w g s en):=by
 have V2:Hid ((decide (s.now≤en)&&decide (en≤1152921504606846976))=true):=by show _=_;rw[decide_eq_true L,decide_eq_true h2];rfl
 obtain⟨t1,t2,_,_,t5,t6⟩:=bV B.out;obtain⟨C,j⟩:=gE (charT s.b);obtain⟨T,m⟩:=gE (bq s.b);have R:Hid (∀W,Calls Tryz.prog 128 #[.agg #[Z Y s.b,Z Y s.p]] W fun r w'=>r=O (Z Y C)∧Below W.heap.size W w'):=fun W=>by rw[←j];exact mf s.b s.p B W
 have M:Hid (∀W,Calls Tryz.prog 125 #[.agg #[Z Y s.b,Z Y s.p]] W fun r w'=>r=O (Z Y T)∧Below W.heap.size W w'):=fun W=>by rw[←m];exact ux s.b s.p B W
 rw[j] at t1 t2;rw[m] at t5 t6;have HC:=hid j;have HT:=hid m;have hg:=c.lt;have c5:w.cell? ⟨g,5,N⟩=U (Z Y 1):=by rw[c.cell 5];simp [Lk.cells,dV]
 have f5:=c.free 5;have oM:=cG c 13 rfl;have E:=cG c 14 rfl;have Bj:=cG c 16 rfl;have C7:=cG c 18 rfl;have f14:=hpFree c 14;have f16:=hpFree c 16;have f18:=hpFree c 18;obtain⟨a,y⟩:∃W,W=((w.setCell ⟨g,18,N⟩ (Z Y (s.bg+1))).setCell ⟨g,14,N⟩ (Z Y en)).setCell ⟨g,16,N⟩ (Z Y 0):=⟨_,rfl⟩
 have l8:LkAt a g {s with bg:=s.bg+1,en:=en,la:=0}:=by
  rw[y];exact hpSetE (hpSetE (hpSetE c rfl) rfl) rfl
 have k8:Keeps (· =g) w a:=by rw[y];exact kset' (kset' (kset' (Keeps.refl _ _) _ _) _ _) _ _
 have s1:IntKind.i64.wrap (en+T)=en+T:=IntWalk.i64_in _ (by omega);have s2:IntKind.i64.wrap (en+T+s.ti)=en+T+s.ti:=IntWalk.i64_in _ (by omega);have s3:IntKind.i64.wrap (en+T+s.ti+C)=en+T+s.ti+C:=IntWalk.i64_in _ (by omega);have k:=hid l8;have G:=hid y;clear c j m y l8;go_enter Tryz.func75,Tryz.ntmps75;go_upto_region 9 with(first|(go_at_call 104;(with_reducible refine(bh en s.now 1152921504606846976 _ true V2).mono ?_);rintro r wi ⟨rfl,rfl⟩)|fail)
 rw[←G.out];clear c5 f5 oM E Bj C7 f14 f16 f18;obtain⟨v,hv⟩:∃v:Value,v=Z Y (en+T+s.ti+C):=⟨_,rfl⟩
 have c0:∀W,iG a g v W→W.cell? ⟨g,0,N⟩=U (Z Y s.b):=fun W h=>h.cell k.out 0 (by decide)
 have c1:∀W,iG a g v W→W.cell? ⟨g,1,N⟩=U (Z Y s.p):=fun W h=>h.cell k.out 1 (by decide)
 have c3:∀W,iG a g v W→W.cell? ⟨g,3,N⟩=U (Z Y s.ti):=fun W h=>h.cell k.out 3 (by decide)
 have e:∀W,Below a.heap.size a W→W.cell? ⟨g,15,N⟩=U (Z Y s.til):=fun W h=>(k.out.ah h).cell 15
 have f15:∀W,Below a.heap.size a W→W.frozen? ⟨g,15,N⟩=false:=fun W h=>(k.out.ah h).free 15
 have I:Below a.heap.size a a.drew:=(Below.refl _ _).drew;have kS:iG a g v a.drew:=.inl I;have z:∀X,Below a.heap.size a X→iG a g v (X.setCell ⟨g,15,N⟩ (Z Y (en+T+s.ti+C))):=fun X h=>.inr ⟨X,h,by rw[hv]⟩
 clear V2 hv;go_region_held3 (fun W=>iG a g v W) ((with_reducible (first|exact kS|assumption|exact z _ d))) (first
  |(go_at_call 128;(with_reducible refine(R.out a.drew).mono ?_);rintro r A ⟨rfl,J⟩;have t:=bt I J (Nat.le_refl _);have ab:iG a g v A:=.inl t)
  |(go_at_call 125;(with_reducible refine(M.out a.drew).mono ?_);rintro r w5 ⟨rfl,f⟩;have x:=bt I f (Nat.le_refl _);have ad:iG a g v w5:=.inl x)
  |(go_at_call 128;(with_reducible refine(R.out w5).mono ?_);rintro r A ⟨rfl,J⟩;have d:=bt x J (Nat.le_refl _);have yD:iG a g v A:=.inl d;have Sr:=e _ d;have o:=f15 _ d)
  |(go_at_call 125;(with_reducible refine(M.out A).mono ?_);rintro r w5 ⟨rfl,f⟩;have d:=bt t f (Nat.le_refl _);have yD:iG a g v w5:=.inl d;have Sr:=e _ d;have o:=f15 _ d))
 all_goals
  have Q:LkAt _ g {s with bg:=s.bg+1,en:=en,la:=0,til:=en+T+s.ti+C}:=hpSetE (u:=Z Y (en+T+s.ti+C)) (i:=15) (k.out.ah d) rfl;have S:Keeps (· =g) w _:=kset' (k8.trans (Keeps.af d) (fun _ _ h=>h)) 15 (Z Y (en+T+s.ti+C));have e0:=c0 _ (z _ d);have e1:=c1 _ (z _ d);clear c0 c1 c3 e f15 Sr o z kS;go_wp2_with fail;refine(EK s.b s.p B _).mono ?_;rintro r w7 ⟨rg,rfl,P,V,kK⟩;have q:=Q.ah kK;have k7:=S.trans (Keeps.af kK) (fun _ _ h=>h);have c17:=cG q 17 rfl;have f17:=hpFree q 17;have c5:=cG q 5 rfl;have f5:=hpFree q 5;have K:w.heap.size≤rg:=by
   have L:=S.size;exact Nat.le_trans L P
  have PC:=hid V;have D:=hid q;clear e0 e1 Q V P;go_wp2;go_ret;have j:=HC.out;have m:=HT.out;subst j m;refine⟨rg,rfl,hpSetE (hpSetE D.out rfl) rfl,K,?_,kset' (kset' k7 _ _) _ _⟩;exact hpKeeps PC.out (F:=(· =g)) (kset' (kset' (Keeps.refl _ _) _ _) _ _) (fun h=>by have h':rg=g:=h;omega)
def dQ (l:List Int):List Value:=l.map (Z Y)
structure SeenAt (w:World) (g:Nat) (s:Lk) (l:List Int):Prop where
 own:w.ownsRow (g+1) 3 1 (.slice s.sa s.sn s.sc) s.sn (dQ l)
 len:l.length=s.sn
theorem NX:(Tryz.prog.info? 3).map (fun i=>(i.zero,i.size,i.bytes))=U (U (Z Y 0),1,8):=by kernel_rfl
theorem SeenAt.apart {s:Lk} (h:SeenAt w g s l):(Value.slice s.sa s.sn s.sc).ownBlock≠some g:=by
 intro e;have:=(h.own.lt g e).1;omega
def Lk.cL (s:Lk) (sa:Option Addr) (sc:Nat):Lk:={s with ph:=4,til:=(if s.til<s.en+s.dr then s.en+s.dr else s.til),sa:=sa,sn:=s.sn+1,sc:=sc}
def o0 (w:World) (g:Nat) (s:Lk) (l:List Int) (v:Int) (r:Ending) (w':World):Prop:=
 ∃(sa:Option Addr) (sc:Nat),r=O (.tuple #[])∧LkAt w' g (s.cL sa sc)∧SeenAt w' g (s.cL sa sc) (l++[v])∧cZ w (.slice s.sa s.sn s.sc) (J sa (s.sn+1) sc)∧Keeps (fun j=>j=g∨(Value.slice s.sa s.sn s.sc).ownBlock=U j) w w'
theorem judged_bad (g:Nat) (s:Lk) (l:List Int) (v:Int) (w:World) (Q:LkAt w g s) (hs:SeenAt w g s l) (kz:(v==1)=false) (xl:(v==2)=false) (hn:s.sn≤1000) (ad:0≤s.en) (ao:s.en≤1152921504606846976) (ak:0≤s.dr) (ab:s.dr≤100000000):
  Calls Tryz.prog 106 #[.pointer (U ⟨g,0,N⟩),.agg #[Z Y v,Z Y 0,Z Y 0,J none 0 0,Z Y 0,Z Y 0,.bool false,Z Y 0,J none 0 0]] w (o0 w g s l v):=by
 obtain⟨i5,hi,R,P,L⟩:=info_parts NX;have hg:=Q.lt;obtain⟨W0,q⟩:∃W,w.alloc (K #[Z Y v,Z Y 0,Z Y 0,J none 0 0,Z Y 0,Z Y 0,.bool false,Z Y 0,J none 0 0] 55)=W:=⟨_,rfl⟩
 have g0:W0.heap[w.heap.size]?=U (K #[Z Y v,Z Y 0,Z Y 0,J none 0 0,Z Y 0,Z Y 0,.bool false,Z Y 0,J none 0 0] 55):=by rw[←q];exact hpNew w _
 have cy:Below w.heap.size w W0:=by rw[←q];exact bal' w _
 have GS:W0.heap.size=w.heap.size+1:=by rw[←q];simp
 have PF:W0.ownsRow (g+1) 3 1 (.slice s.sa s.sn s.sc) s.sn (dQ l):=by rw[←q];exact hs.own.alloc _
 have l0:=Q.ah cy;have A:=hid l0;have HS:=hid hs;have B:=hid q;have x0:=cG g0 0 rfl;have Ed:=cG l0 19 rfl;have av:g+1≤W0.heap.size:=by omega
 have O:=hid GS;clear Q hs q GS;go_enter Tryz.func106,Tryz.ntmps106;go_upto_region 1 with(fail)
 rw[B.out];go_wp2;have T:=hid PF;have Om:∀X,(W0.alloc X).cell? ⟨g,19,N⟩=U (.slice s.sa s.sn s.sc):=fun X=>(A.out.ah (bal' _ X)).cell 19
 have U2:Hid ((W0.alloc (K #[Z Y v] 3)).cell? ⟨g,19,N⟩=U (.slice s.sa s.sn s.sc)):=(A.out.ah (bal' _ _)).cell 19;have C:Hid (U g≠(Value.slice s.sa s.sn s.sc).ownBlock):=fun h=>HS.out.apart h.symm
 have Vm:Hid (∀c,(W0.alloc (K #[Z Y v] 3)).drew.grownBy c (Value.slice s.sa s.sn s.sc).ownBlock→c.frozen? ⟨g,19,N⟩=false):=fun c h=>by
  have hb:c.heap[g]?=(W0.alloc (K #[Z Y v] 3)).heap[g]?:=h.block g (by show g<(W0.alloc _).heap.size;simp;omega) C.out;exact hpFree (hb.trans (A.out.ah (bal' _ _))) 19
 go_region_law (refine step_appN rfl (.tmp 23) (.tmp 26) 58 rfl (g+1) 3 i5 (Z Y 0) 1 8 Tryz.underlying58 hi R P L rfl (by decide) (.slice s.sa s.sn s.sc) s.sn (dQ l) rfl (T.out.alloc _) ⟨W0.heap.size,0,N⟩ 1 1 [Z Y v] rfl rfl (dP W0 [Z Y v] _) (by intro u hu;simp at hu;subst hu;rfl) (by unfold maxLen;omega) (by omega) (by simp;omega) ?_;intro v' c a x S;obtain⟨o,m,rfl⟩:=own_slice a;have Tu:c.cell? ⟨g,19,N⟩=U (.slice s.sa s.sn s.sc):=x.cell (U2.out) C.out;have I:=Vm.out c x)
 all_goals
  have r:c.heap[g]?=U (K s.cells 177):=(x.block g (by show g<(W0.alloc _).heap.size;simp;omega) C.out).trans (A.out.ah (bal' _ _).drew);have d:LkAt (c.setCell ⟨g,19,N⟩ (J o (s.sn+1) m)) g {s with sa:=o,sn:=s.sn+1,sc:=m}:=hpSetE r rfl;obtain⟨W3,f⟩:∃W,W=c.setCell ⟨g,19,N⟩ (J o (s.sn+1) m):=⟨_,rfl⟩
  rw[←f] at d ⊢;have K8:=hid d;have C4:=hid f;have E:W3.cell? ⟨g,15,N⟩=U (Z Y s.til):=d.cell 15;have D:W3.cell? ⟨g,14,N⟩=U (Z Y s.en):=d.cell 14;have c4:W3.cell? ⟨g,4,N⟩=U (Z Y s.dr):=d.cell 4;have c5:W3.cell? ⟨g,5,N⟩=U (Z Y s.ph):=d.cell 5;have f15:=d.free 15;have f5:=d.free 5;have s1:IntKind.i64.wrap (s.en+s.dr)=s.en+s.dr:=IntWalk.i64_in _ (by omega);obtain⟨M,V⟩:∃M,(if s.til<s.en+s.dr then s.en+s.dr else s.til)=M:=⟨_,rfl⟩
  have HM:=hid V;clear r Tu I x0 Ed Om f d U2;go_wp2;go_region
  all_goals
   go_wp2;go_end0;have hm:=HM.out;subst hm;have k1:Keeps (fun j=>j=g∨(Value.slice s.sa s.sn s.sc).ownBlock=U j) w W3:=by
    refine(Keeps.af (bt cy (bal' W0 (K #[Z Y v] 3)).drew (Nat.le_refl _))).trans ?_ (fun _ _ h=>h);rw[C4.out];exact(Keeps.bJ (F:=fun j=>j=g∨(Value.slice s.sa s.sn s.sc).ownBlock=U j) x (fun k z=>.inr z)).set ⟨g,19,N⟩ _ (.inl rfl)
   have o1:W3.ownsRow (g+1) 3 1 (J o (s.sn+1) m) (s.sn+1) (dQ (l++[v])):=by
    rw[C4.out];have:dQ (l++[v])=dQ l++[Z Y v]:=by simp [dQ]
    rw[this];exact own_keeps a (J4 (p:=g)) (fun k z e=>by
     have h1:=(a.lt k z).1
     have h2:k=g:=e
     omega)
   have n1:cZ w (.slice s.sa s.sn s.sc) (J o (s.sn+1) m):=by
    rcases S with h|⟨j,h,hj⟩
    ·exact .inl h
    ·refine .inr ⟨j,h,?_⟩
     have Lc:(W0.alloc (K #[Z Y v] 3)).heap.size≤j:=hj;simp at Lc;have:=O.out;omega
   have LM:=hid n1;have G:=hid o1;have y:=hid k1;clear E D c4 c5 f15 f5 s1 V a x S o1 k1 n1 T Vm;refine⟨o,m,rfl,?_,⟨?_,?_⟩,LM.out,?_⟩
   ·unfold LkAt
    first
     |exact sZ (hpSetE (hpSetE K8.out rfl) rfl)
     |exact hpSetE (hpSetE K8.out rfl) rfl
   ·have t:∀k,(Value.slice o (s.sn+1) m).ownBlock=U k→¬(fun j=>j=g) k:=fun k z e=>by
     have h1:=(G.out.lt k z).1;have h2:k=g:=e;omega
    first
     |exact own_keeps G.out (sr (kset' (kset' (Keeps.refl _ _) _ _) _ _)) t
     |exact own_keeps G.out (kset' (kset' (Keeps.refl _ _) _ _) _ _) t
   ·show (l++[v]).length=s.sn+1
    rw[List.length_append,HS.out.len];rfl
   ·first
     |exact y.out.trans (sr (kset' (kset' (Keeps.refl (· =g) W3) _ _) _ _)) (fun _ _ h=>.inl h)
     |exact y.out.trans (kset' (kset' (Keeps.refl (· =g) W3) _ _) _ _) (fun _ _ h=>.inl h)
theorem bO (g:Nat) (s:Lk) (w:World) (c:LkAt w g s) (d:s.ph=2∨s.ph=3∨s.ph=4):
  Calls Tryz.prog 103 #[.pointer (U ⟨g,0,N⟩)] w fun r w'=>r=O (.bool true)∧w=w':=by
 have a:w.cell? ⟨g,5,N⟩=U (Z Y 2)∨w.cell? ⟨g,5,N⟩=U (Z Y 3)∨w.cell? ⟨g,5,N⟩=U (Z Y 4):=by
  rw[c.cell 5];rcases d with h|h|h
  ·left;simp [Lk.cells,h]
  ·right;left;simp [Lk.cells,h]
  ·right;right;simp [Lk.cells,h]
 clear c d;rcases a with a|a|a
 all_goals
  go_enter Tryz.func103,Tryz.ntmps103;go_wp2;go_ret;exact⟨rfl,rfl⟩
def Bd (w:World) (g:Nat) (s':Lk) (r:Ending) (w':World):Prop:=r=O (.tuple #[])∧LkAt w' g s'∧Keeps (· =g) w w'
theorem xT (g:Nat) (s:Lk) (w:World) (a:LkAt w g s) (c:s.bg≤s.re):
  Calls Tryz.prog 110 #[.pointer (U ⟨g,0,N⟩)] w (Bd w g {s with ph:=1}):=by
 have j:w.cell? ⟨g,18,N⟩=U (Z Y s.bg):=a.cell 18;have c2:w.cell? ⟨g,2,N⟩=U (Z Y s.re):=a.cell 2;have d:decide (s.bg≤s.re)=true:=decide_eq_true c;have e:∀n,LkAt (w.drewN n) g s:=fun n=>a
 have f:w.cell? ⟨g,5,N⟩=U (Z Y s.ph):=a.cell 5;have f5:w.frozen? ⟨g,5,N⟩=false:=a.free 5;clear a;go_enter Tryz.func110,Tryz.ntmps110;go_wp2;go_quiet (fail);go_wp2
 all_goals
  refine bodyPost_ret (results_none rfl _ _ _) rfl ?_;exact⟨rfl,hpSetE (e _) rfl,kset' (Keeps.af (below_drewN (Below.refl _ _) _)) _ _⟩
def nh (l:List Int):Int:=if 4∈l then 4 else if 5∈l then 5 else 3
def Tp (l:List Int):Prop:=l≠[]∧∀v∈l,v=3∨v=4∨v=5
theorem Ns.own {base:Nat} {E:TypeId} {v:Value} (h:w.ownsRow base E 1 v n (dQ l)) (hw:∀n∈l,(Lit.int .i64 n).wf=true):Ns w v l:=by
 obtain⟨hlen,h|⟨g,cap,cur,k,q,m,a,f,d,c⟩⟩:=h
 ·obtain ⟨rfl,rfl⟩:=h
  have:l=[]:=by simpa [dQ] using hlen
  subst this;exact Ns.nil w
 ·have e:n=l.length:=by simpa [dQ] using hlen.symm
  subst e;refine⟨⟨_,_,k,a,f,fun h=>by simp at h,fun o=>⟨g,0,rfl,fun i hi=>?_⟩⟩,hw⟩;simp only[World.cell?,m,Nat.zero_add,Option.isSome_none];have j:cur[i]?=(dQ l)[i]?:=gw (by simpa using c) i (by simpa [dQ] using hi);rw[j];simp [dQ,List.getD,hi]
def Lk.mQ (s:Lk) (v:Int):Lk:={s with ph:=5,o:=⟨v,Rp.zero⟩,da:=none,dn:=0,dc:=0,oa:=none,on:=0,oc:=0}
theorem ix {s:Lk} (h:LkAt W3 g {s with ph:=5}):LkAt (((((((((W3.setCell ⟨g,20,N⟩ (Z Y v)).setCell ⟨g,21,N⟩ (Z Y 0)).setCell ⟨g,22,N⟩ (Z Y 0)).setCell ⟨g,23,N⟩ (J none 0 0)).setCell ⟨g,24,N⟩ (Z Y 0)).setCell ⟨g,25,N⟩ (Z Y 0)).setCell ⟨g,26,N⟩ (.bool false)).setCell ⟨g,27,N⟩ (Z Y 0)).setCell ⟨g,28,N⟩ (J none 0 0)) g (s.mQ v):=by
 unfold LkAt;show _=U (Obj.cells #[Z Y s.b,Z Y s.p,Z Y s.re,Z Y s.ti,Z Y s.dr,Z Y 5,Z Y s.un,Z Y s.q.fn,Z Y s.q.addr,Z Y s.q.aF,Z Y s.q.code,Z Y s.q.obj,.slice s.fa s.fn s.fc,Z Y s.now,Z Y s.en,Z Y s.til,Z Y s.la,s.rx,Z Y s.bg,.slice s.sa s.sn s.sc,Z Y v,Z Y 0,Z Y 0,J none 0 0,Z Y 0,Z Y 0,.bool false,Z Y 0,J none 0 0] 177);refine hpSetE (c:=#[Z Y s.b,Z Y s.p,Z Y s.re,Z Y s.ti,Z Y s.dr,Z Y 5,Z Y s.un,Z Y s.q.fn,Z Y s.q.addr,Z Y s.q.aF,Z Y s.q.code,Z Y s.q.obj,.slice s.fa s.fn s.fc,Z Y s.now,Z Y s.en,Z Y s.til,Z Y s.la,s.rx,Z Y s.bg,.slice s.sa s.sn s.sc,Z Y v,Z Y 0,Z Y 0,J none 0 0,Z Y 0,Z Y 0,.bool false,Z Y 0,.slice s.oa s.on s.oc]) ?_ rfl;refine hpSetE (c:=#[Z Y s.b,Z Y s.p,Z Y s.re,Z Y s.ti,Z Y s.dr,Z Y 5,Z Y s.un,Z Y s.q.fn,Z Y s.q.addr,Z Y s.q.aF,Z Y s.q.code,Z Y s.q.obj,.slice s.fa s.fn s.fc,Z Y s.now,Z Y s.en,Z Y s.til,Z Y s.la,s.rx,Z Y s.bg,.slice s.sa s.sn s.sc,Z Y v,Z Y 0,Z Y 0,J none 0 0,Z Y 0,Z Y 0,.bool false,Z Y s.o.ae.next,.slice s.oa s.on s.oc]) ?_ rfl;refine hpSetE (c:=#[Z Y s.b,Z Y s.p,Z Y s.re,Z Y s.ti,Z Y s.dr,Z Y 5,Z Y s.un,Z Y s.q.fn,Z Y s.q.addr,Z Y s.q.aF,Z Y s.q.code,Z Y s.q.obj,.slice s.fa s.fn s.fc,Z Y s.now,Z Y s.en,Z Y s.til,Z Y s.la,s.rx,Z Y s.bg,.slice s.sa s.sn s.sc,Z Y v,Z Y 0,Z Y 0,J none 0 0,Z Y 0,Z Y 0,.bool s.o.ae.more,Z Y s.o.ae.next,.slice s.oa s.on s.oc]) ?_ rfl;refine hpSetE (c:=#[Z Y s.b,Z Y s.p,Z Y s.re,Z Y s.ti,Z Y s.dr,Z Y 5,Z Y s.un,Z Y s.q.fn,Z Y s.q.addr,Z Y s.q.aF,Z Y s.q.code,Z Y s.q.obj,.slice s.fa s.fn s.fc,Z Y s.now,Z Y s.en,Z Y s.til,Z Y s.la,s.rx,Z Y s.bg,.slice s.sa s.sn s.sc,Z Y v,Z Y 0,Z Y 0,J none 0 0,Z Y 0,Z Y s.o.ae.level,.bool s.o.ae.more,Z Y s.o.ae.next,.slice s.oa s.on s.oc]) ?_ rfl;refine hpSetE (c:=#[Z Y s.b,Z Y s.p,Z Y s.re,Z Y s.ti,Z Y s.dr,Z Y 5,Z Y s.un,Z Y s.q.fn,Z Y s.q.addr,Z Y s.q.aF,Z Y s.q.code,Z Y s.q.obj,.slice s.fa s.fn s.fc,Z Y s.now,Z Y s.en,Z Y s.til,Z Y s.la,s.rx,Z Y s.bg,.slice s.sa s.sn s.sc,Z Y v,Z Y 0,Z Y 0,J none 0 0,Z Y s.o.ae.code,Z Y s.o.ae.level,.bool s.o.ae.more,Z Y s.o.ae.next,.slice s.oa s.on s.oc]) ?_ rfl;refine hpSetE (c:=#[Z Y s.b,Z Y s.p,Z Y s.re,Z Y s.ti,Z Y s.dr,Z Y 5,Z Y s.un,Z Y s.q.fn,Z Y s.q.addr,Z Y s.q.aF,Z Y s.q.code,Z Y s.q.obj,.slice s.fa s.fn s.fc,Z Y s.now,Z Y s.en,Z Y s.til,Z Y s.la,s.rx,Z Y s.bg,.slice s.sa s.sn s.sc,Z Y v,Z Y 0,Z Y 0,.slice s.da s.dn s.dc,Z Y s.o.ae.code,Z Y s.o.ae.level,.bool s.o.ae.more,Z Y s.o.ae.next,.slice s.oa s.on s.oc]) ?_ rfl;refine hpSetE (c:=#[Z Y s.b,Z Y s.p,Z Y s.re,Z Y s.ti,Z Y s.dr,Z Y 5,Z Y s.un,Z Y s.q.fn,Z Y s.q.addr,Z Y s.q.aF,Z Y s.q.code,Z Y s.q.obj,.slice s.fa s.fn s.fc,Z Y s.now,Z Y s.en,Z Y s.til,Z Y s.la,s.rx,Z Y s.bg,.slice s.sa s.sn s.sc,Z Y v,Z Y 0,Z Y s.o.ae.ar,.slice s.da s.dn s.dc,Z Y s.o.ae.code,Z Y s.o.ae.level,.bool s.o.ae.more,Z Y s.o.ae.next,.slice s.oa s.on s.oc]) ?_ rfl;refine hpSetE (c:=#[Z Y s.b,Z Y s.p,Z Y s.re,Z Y s.ti,Z Y s.dr,Z Y 5,Z Y s.un,Z Y s.q.fn,Z Y s.q.addr,Z Y s.q.aF,Z Y s.q.code,Z Y s.q.obj,.slice s.fa s.fn s.fc,Z Y s.now,Z Y s.en,Z Y s.til,Z Y s.la,s.rx,Z Y s.bg,.slice s.sa s.sn s.sc,Z Y v,Z Y s.o.ae.fn,Z Y s.o.ae.ar,.slice s.da s.dn s.dc,Z Y s.o.ae.code,Z Y s.o.ae.level,.bool s.o.ae.more,Z Y s.o.ae.next,.slice s.oa s.on s.oc]) ?_ rfl;refine hpSetE (c:=#[Z Y s.b,Z Y s.p,Z Y s.re,Z Y s.ti,Z Y s.dr,Z Y 5,Z Y s.un,Z Y s.q.fn,Z Y s.q.addr,Z Y s.q.aF,Z Y s.q.code,Z Y s.q.obj,.slice s.fa s.fn s.fc,Z Y s.now,Z Y s.en,Z Y s.til,Z Y s.la,s.rx,Z Y s.bg,.slice s.sa s.sn s.sc,Z Y s.o.verdict,Z Y s.o.ae.fn,Z Y s.o.ae.ar,.slice s.da s.dn s.dc,Z Y s.o.ae.code,Z Y s.o.ae.level,.bool s.o.ae.more,Z Y s.o.ae.next,.slice s.oa s.on s.oc]) ?_ rfl;exact h
theorem iC (h:Keeps (· =g) w W3):Keeps (· =g) w (((((((((W3.setCell ⟨g,20,N⟩ (Z Y v)).setCell ⟨g,21,N⟩ (Z Y 0)).setCell ⟨g,22,N⟩ (Z Y 0)).setCell ⟨g,23,N⟩ (J none 0 0)).setCell ⟨g,24,N⟩ (Z Y 0)).setCell ⟨g,25,N⟩ (Z Y 0)).setCell ⟨g,26,N⟩ (.bool false)).setCell ⟨g,27,N⟩ (Z Y 0)).setCell ⟨g,28,N⟩ (J none 0 0)):=by
 have d:=kset' h 20 (Z Y v);have j:=kset' d 21 (Z Y 0);have a:=kset' j 22 (Z Y 0);have m:=kset' a 23 (J none 0 0);have o:=kset' m 24 (Z Y 0);have f:=kset' o 25 (Z Y 0);have c:=kset' f 26 (.bool false);have k:=kset' c 27 (Z Y 0);have e:=kset' k 28 (J none 0 0);exact e
theorem vD (g:Nat) (s:Lk) (l:List Int) (w:World) (o:LkAt w g s) (hs:SeenAt w g s l) (L:Tp l) (T:¬s.bg≤s.re):
  Calls Tryz.prog 110 #[.pointer (U ⟨g,0,N⟩)] w (Bd w g (s.mQ (nh l))):=by
 have C7:w.cell? ⟨g,18,N⟩=U (Z Y s.bg):=o.cell 18;have c2:w.cell? ⟨g,2,N⟩=U (Z Y s.re):=o.cell 2;have d:decide (s.bg≤s.re)=false:=decide_eq_false T;have P:∀n,LkAt (w.drewN n) g s:=fun n=>o
 have c5:w.cell? ⟨g,5,N⟩=U (Z Y s.ph):=o.cell 5;have f5:w.frozen? ⟨g,5,N⟩=false:=o.free 5;have DY:Hid (Ns w (.slice s.sa s.sn s.sc) l):=Ns.own hs.own (fun v E=>by rcases L.2 v E with rfl|rfl|rfl<;>rfl);have hg:=o.lt;have Q:=hid hs;have D:=hid L;clear o hs T L;go_enter Tryz.func110,Tryz.ntmps110;go_wp2;go_quiet (fail);go_wp2;obtain⟨W3,f⟩:∃W,W=((w.drewN nq).setCell ⟨g,5,N⟩ (Z Y 5)).alloc (K #[Z Y 4,Z Y 5,Z Y 3] 3):=⟨_,rfl⟩
 rw[←f];have a:LkAt W3 g {s with ph:=5}:=by
  rw[f];exact LkAt.ah (hpSetE (P nq) rfl) (bal' _ _)
 have C:Keeps (· =g) w W3:=by
  rw[f];exact(kset' (Keeps.af (below_drewN (Below.refl _ _) _)) 5 _).trans (Keeps.af (bal' _ _)) (fun _ _ h=>h)
 have B:W3.heap[w.heap.size]?=U (K #[Z Y 4,Z Y 5,Z Y 3] 3):=by
  rw[f];have h:=hpNew ((w.drewN nq).setCell ⟨g,5,N⟩ (Z Y 5)) (K #[Z Y 4,Z Y 5,Z Y 3] 3);have e:((w.drewN nq).setCell ⟨g,5,N⟩ (Z Y 5)).heap.size=w.heap.size:=by simp
  rw[e] at h;exact h
 have x0:=cG B 0 rfl;have x1:=cG B 1 rfl;have x2:=cG B 2 rfl;have R:=own_keeps Q.out.own C (fun k S e=>by
  have J:=(Q.out.own.lt k S).1
  have j:k=g:=e
  omega)
 have I:Hid (Ns W3 (.slice s.sa s.sn s.sc) l):=Ns.own R (fun v E=>by rcases D.out.2 v E with rfl|rfl|rfl<;>rfl);have Ed:W3.cell? ⟨g,19,N⟩=U (.slice s.sa s.sn s.sc):=a.cell 19;have Jf:=cG a 20 rfl;have f20:=hpFree a 20;have Ju:=cG a 21 rfl;have f21:=hpFree a 21;have Je:=cG a 22 rfl;have f22:=hpFree a 22;have LK:=cG a 23 rfl;have f23:=hpFree a 23;have FX:=cG a 24 rfl;have f24:=hpFree a 24;have Jb:=cG a 25 rfl;have f25:=hpFree a 25;have Lq:=cG a 26 rfl;have f26:=hpFree a 26;have U5:=cG a 27 rfl;have f27:=hpFree a 27;have Uu:=cG a 28 rfl;have f28:=hpFree a 28;have G:=hid a;have M:=hid C;have X:∀x:Int,(l.any (fun y=>decide (x=y))=true)↔x∈l:=by
  intro x;rw[List.any_eq_true];exact⟨fun ⟨y,q,h⟩=>by rw[of_decide_eq_true h];exact q,fun h=>⟨x,h,decide_eq_true rfl⟩⟩
 have t:=hid X;clear f a C B R X C7 c2 c5 f5 P DY;go_loop [21] (fun i=>∃k:Nat,k≤2∧i=Z Y k∧Hid ((1≤k→¬4∈l)∧(2≤k→¬5∈l))) (fun i=>3- (intOf i).toNat)
 case atStart=>exact⟨0,by omega,rfl,(fun h=>absurd h (by decide)),(fun h=>absurd h (by decide))⟩
 case round=>
  obtain⟨k,S,rfl,A⟩:=hrel;rcases (show k=0∨k=1∨k=2 by omega) with rfl|rfl|rfl
  ·obtain ⟨V,m⟩:∃V,l.any (fun y=>decide ((4:Int)=y))=V:=⟨_,rfl⟩
   have c:=hid m;have u:=hid (contI_any _ l 4 W3 I.out V c);clear m;go_wp2_with fail;refine u.out.mono ?_;rintro r O ⟨rfl,rfl⟩;cases V with
   |true=>
    have z:Hid (nh l=4):=if_pos ((t.out 4).1 c.out);go_wp2;refine bodyPost_ret (results_none rfl _ _ _) rfl ?_;rw[z.out];exact⟨rfl,ix G.out,iC M.out⟩
   |false=>
    have F:Hid (¬4∈l):=fun h=>by have:=(t.out 4).2 h;rw[c.out] at this;cases this
    go_wp2;go_round
    case rel=>exact⟨1,by omega,rfl,(fun _=>F.out),(fun h=>absurd h (by decide))⟩
    case measure=>simp [intOf]
  ·obtain ⟨V,m⟩:∃V,l.any (fun y=>decide ((5:Int)=y))=V:=⟨_,rfl⟩
   have c:=hid m;have u:=hid (contI_any _ l 5 W3 I.out V c);clear m;go_wp2_with fail;refine u.out.mono ?_;rintro r O ⟨rfl,rfl⟩;cases V with
   |true=>
    have z:Hid (nh l=5):=by
     have J:=(t.out 5).1 c.out;have j:=A.out;show nh l=_;unfold nh;rw[if_neg (j.1 (by decide)),if_pos J]
    go_wp2;refine bodyPost_ret (results_none rfl _ _ _) rfl ?_;rw[z.out];exact⟨rfl,ix G.out,iC M.out⟩
   |false=>
    have F:Hid (¬5∈l):=fun h=>by have:=(t.out 5).2 h;rw[c.out] at this;cases this
    have H4:=hid (A.out.1 (by decide));go_wp2;go_round
    case rel=>exact⟨2,by omega,rfl,(fun _=>H4.out),(fun _=>F.out)⟩
    case measure=>simp [intOf]
  ·obtain ⟨V,m⟩:∃V,l.any (fun y=>decide ((3:Int)=y))=V:=⟨_,rfl⟩
   have c:=hid m;have u:=hid (contI_any _ l 3 W3 I.out V c);clear m;go_wp2_with fail;refine u.out.mono ?_;rintro r O ⟨rfl,rfl⟩;cases V with
   |true=>
    have z:Hid (nh l=3):=by
     have J:=(t.out 3).1 c.out;have j:=A.out;show nh l=_;unfold nh;rw[if_neg (j.1 (by decide)),if_neg (j.2 (by decide))]
    go_wp2;refine bodyPost_ret (results_none rfl _ _ _) rfl ?_;rw[z.out];exact⟨rfl,ix G.out,iC M.out⟩
   |false=>
    exfalso;obtain⟨y,q⟩:=List.exists_mem_of_ne_nil l D.out.1;have j:=A.out;rcases D.out.2 y q with rfl|rfl|rfl
    ·have:=(t.out 3).2 q;rw[c.out] at this;cases this
    ·exact j.1 (by decide) q
    ·exact j.2 (by decide) q
def D1 (w:World) (g:Nat) (s:Lk) (l:List Int) (v:Int) (r:Ending) (w':World):Prop:=
 ∃(sa:Option Addr) (sc:Nat),r=O (Z Y 0)∧LkAt w' g (s.cL sa sc)∧SeenAt w' g (s.cL sa sc) (l++[v])∧cZ w (.slice s.sa s.sn s.sc) (J sa (s.sn+1) sc)∧Keeps (fun j=>j=g∨(Value.slice s.sa s.sn s.sc).ownBlock=U j) w w'
theorem tj (g:Nat) (s:Lk) (l:List Int) (w:World) (f:LkAt w g s) (hs:SeenAt w g s l) (k:s.ph=2) (m:s.sn≤1000) (c:0≤s.en) (a:s.en≤1152921504606846976) (e:0≤s.dr) (d:s.dr≤100000000):
  Calls Tryz.prog 63 #[.pointer (U ⟨g,0,N⟩)] w (D1 w g s l 3):=by
 have q:=hid (judged_bad g s l 3 w f hs rfl rfl m c a e d);have o:=hid (bO g s w f (.inl k));have z:w.cell? ⟨g,5,N⟩=U (Z Y 2):=by rw[f.cell 5];simp [Lk.cells,k]
 clear f hs k m c a e d;go_enter Tryz.func63,Tryz.ntmps63;go_wp2_with (first|(go_at_call 103;(with_reducible refine o.out.mono ?_);rintro r w1 ⟨rfl,rfl⟩)|(go_at_call 106;(with_reducible refine q.out.mono ?_);rintro r y ⟨sa,sc,rfl,t,u,x,j⟩));go_ret;exact⟨sa,sc,rfl,t,u,x,j⟩
def xN (w:World) (g:Nat) (s':Lk) (r:Ending) (w':World):Prop:=r=O (Z Y 0)∧LkAt w' g s'∧Keeps (· =g) w w'
theorem tY (g:Nat) (s:Lk) (w:World) (a:LkAt w g s) (d:s.ph=4) (e:s.bg≤s.re):
  Calls Tryz.prog 63 #[.pointer (U ⟨g,0,N⟩)] w (xN w g {s with now:=s.til,ph:=1}):=by
 have l1:LkAt (w.setCell ⟨g,13,N⟩ (Z Y s.til)) g {s with now:=s.til}:=hpSetE a rfl;have m:=hid (xT g _ _ l1 e);have f:=hid (bO g s w a (.inr (.inr d)));have u:w.cell? ⟨g,5,N⟩=U (Z Y 4):=by rw[a.cell 5];simp [Lk.cells,d]
 have j:w.cell? ⟨g,15,N⟩=U (Z Y s.til):=a.cell 15;have t:w.cell? ⟨g,13,N⟩=U (Z Y s.now):=a.cell 13;have f13:=a.free 13;have o:Hid (Keeps (· =g) w (w.setCell ⟨g,13,N⟩ (Z Y s.til))):=kset' (Keeps.refl _ _) _ _;clear a d e l1;go_enter Tryz.func63,Tryz.ntmps63;go_wp2_with (first|(go_at_call 103;(with_reducible refine f.out.mono ?_);rintro r w1 ⟨rfl,rfl⟩)|(go_at_call 110;(with_reducible refine m.out.mono ?_);rintro r q ⟨rfl,k,c⟩));go_ret;exact⟨rfl,k,o.out.trans c (fun _ _ h=>h)⟩
theorem uO (g:Nat) (s:Lk) (l:List Int) (w:World) (a:LkAt w g s) (hs:SeenAt w g s l) (m:Tp l) (f:s.ph=4) (o:¬s.bg≤s.re):
  Calls Tryz.prog 63 #[.pointer (U ⟨g,0,N⟩)] w (xN w g (Lk.mQ {s with now:=s.til} (nh l))):=by
 have l1:LkAt (w.setCell ⟨g,13,N⟩ (Z Y s.til)) g {s with now:=s.til}:=hpSetE a rfl;have c:Keeps (· =g) w (w.setCell ⟨g,13,N⟩ (Z Y s.til)):=kset' (Keeps.refl _ _) _ _;have j:SeenAt (w.setCell ⟨g,13,N⟩ (Z Y s.til)) g {s with now:=s.til} l:=⟨own_keeps hs.own c (fun k c e=>by
  have C:=(hs.own.lt k c).1
  have B:k=g:=e
  omega),hs.len⟩
 have x:=hid (vD g _ l _ l1 j m o);have q:=hid (bO g s w a (.inr (.inr f)));have D:w.cell? ⟨g,5,N⟩=U (Z Y 4):=by rw[a.cell 5];simp [Lk.cells,f]
 have t:w.cell? ⟨g,15,N⟩=U (Z Y s.til):=a.cell 15;have A:w.cell? ⟨g,13,N⟩=U (Z Y s.now):=a.cell 13;have f13:=a.free 13;have y:=hid c;clear a f o l1 hs j m c;go_enter Tryz.func63,Tryz.ntmps63;go_wp2_with (first|(go_at_call 103;(with_reducible refine q.out.mono ?_);rintro r w1 ⟨rfl,rfl⟩)|(go_at_call 110;(with_reducible refine x.out.mono ?_);rintro r z ⟨rfl,u,d⟩));go_ret;exact⟨rfl,u,y.out.trans d (fun _ _ h=>h)⟩
def UZ (w:World) (s:Lk) (F:List UInt8) (r:Ending) (w':World):Prop:=
 ∃(a:Option Addr) (c:Nat),r=O (.agg #[Z Y 1,Z Y s.now,J a F.length c])∧Bs w' (J a F.length c) F∧Below w.heap.size w w'
def lM (W1:World) (p:Nat) (t:Int) (W:World):Prop:=Below W1.heap.size W1 W∨∃X a n c,Below W1.heap.size W1 X∧W=((X.setCell ⟨p,0,N⟩ (Z Y 1)).setCell ⟨p,1,N⟩ (Z Y t)).setCell ⟨p,2,N⟩ (J a n c)
theorem lM.cell {d W:World} {g p:Nat} {t:Int} {s:Lk} (h:lM d p t W) (e:LkAt d g s) (f:g≠p) (i:Nat):W.cell? ⟨g,i,N⟩=s.cells[i]?:=by
 rcases h with h|⟨X,a,n,c,h,rfl⟩
 ·exact (e.ah h).cell i
 ·have j:Keeps (· =p) X (((X.setCell ⟨p,0,N⟩ (Z Y 1)).setCell ⟨p,1,N⟩ (Z Y t)).setCell ⟨p,2,N⟩ (J a n c)):=kset' (kset' (kset' (Keeps.refl _ _) _ _) _ _) _ _
  exact((e.ah h).keeps j f).cell i
theorem xB (g:Nat) (s:Lk) (F:List UInt8) (w:World) (A:LkAt w g s) (Q:s.ph=1) (T:Bs w (.slice s.fa s.fn s.fc) F) (hF:F.length≤1000):
  Calls Tryz.prog 61 #[.pointer (U ⟨g,0,N⟩)] w (UZ w s F):=by
 have hg:=A.lt;obtain⟨d,G,j,P⟩:=eY w (K #[Z Y 0,Z Y 0,J none 0 0] 136);have l1:=A.ah j;have c5:d.cell? ⟨g,5,N⟩=U (Z Y 1):=by rw[l1.cell 5];simp [Lk.cells,Q]
 have q:g≠w.heap.size:=by omega
 have oM:∀W,lM d w.heap.size s.now W→W.cell? ⟨g,13,N⟩=U (Z Y s.now):=fun W h=>h.cell l1 q 13
 have uS:∀W,lM d w.heap.size s.now W→W.cell? ⟨g,12,N⟩=U (.slice s.fa s.fn s.fc):=fun W h=>h.cell l1 q 12
 have E:Below d.heap.size d d.drew:=(Below.refl _ _).drew;have kS:lM d w.heap.size s.now d.drew:=.inl E;have m7:Hid (∀W,Below d.heap.size d W→Calls Tryz.prog 80 #[.slice s.fa s.fn s.fc] W fun r w'=>∃a c,r=O (J a F.length c)∧w'.ownsRow W.heap.size 5 1 (J a F.length c) F.length (u8s F)∧Below W.heap.size W w'):=fun W hW=>by
  refine(bY _ F W ((T.ah j).ah hW) (by omega)).mono ?_;rintro r w' ⟨v',rfl,f,hb⟩;obtain⟨a,c,rfl⟩:=own_slice f;exact⟨a,c,rfl,f,hb⟩
 have L:∀X a n c,Below d.heap.size d X→lM d w.heap.size s.now (((X.setCell ⟨w.heap.size,0,N⟩ (Z Y 1)).setCell ⟨w.heap.size,1,N⟩ (Z Y s.now)).setCell ⟨w.heap.size,2,N⟩ (J a n c)):=fun X a n c h=>.inr ⟨X,a,n,c,h,rfl⟩
 have y:=hid G;have C:=hid j;have S:=hid P;clear A Q T G j l1 P hF;go_enter Tryz.func61,Tryz.ntmps61;go_upto_region 1 with(fail)
 rw[y.out];go_wp2;go_region_held3 (fun W=>lM d w.heap.size s.now W) ((with_reducible (first|exact kS|assumption|exact L _ _ _ _ u))) ((go_at_call 80;(with_reducible refine(m7.out d.drew E).mono ?_);rintro r x ⟨a,c,rfl,f,z⟩;have u:=bt E z (Nat.le_refl _);have yD:lM d w.heap.size s.now x:=.inl u;have m:=hpKeep S.out u;have z0:=hpCell m 0;have z1:=hpCell m 1;have z2:=hpCell m 2;have y0:=hpFree m 0;have y1:=hpFree m 1;have y2:=hpFree m 2));have R:=hpSet (hpSet (hpSet m 0 (Z Y 1)) 1 (Z Y s.now)) 2 (J a F.length c);obtain⟨V,I,M⟩:=ZB R
 obtain⟨W5,o⟩:∃W,W=((x.setCell ⟨w.heap.size,0,N⟩ (Z Y 1)).setCell ⟨w.heap.size,1,N⟩ (Z Y s.now)).setCell ⟨w.heap.size,2,N⟩ (J a F.length c):=⟨_,rfl⟩
 rw[←o] at V I M ⊢;have Rg:=hid o;have ab:w.heap.size<d.heap.size:=(Array.getElem?_eq_some_iff.1 S.out).1;clear o R z0 z1 z2 y0 y1 y2 m oM uS L;go_wp2;refine bodyPost_ret (v:=.agg #[Z Y 1,Z Y s.now,J a F.length c]) (by simp [results,Tryz.results61,go_sem,V,I,M]) rfl ?_;have B:Keeps (· =w.heap.size) x W5:=by rw[Rg.out];exact kset' (kset' (kset' (Keeps.refl _ _) _ _) _ _) _ _
 refine⟨a,c,rfl,?_,?_⟩
 ·exact (Bs.own f).qi B (fun D bC e=>by
   have h1:=(f.lt D.block (by rw[bC];rfl)).1
   have h2:D.block=w.heap.size:=e
   have h3:d.heap.size≤D.block:=h1
   omega)
 ·have t:=bt C.out u (Nat.le_refl _)
  exact t.trans (B.below t.size (fun k B e=>by omega))
