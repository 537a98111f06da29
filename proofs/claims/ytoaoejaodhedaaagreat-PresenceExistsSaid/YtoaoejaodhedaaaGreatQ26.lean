import Derived.Test.YtoaoejaodhedaaaGreatQ12
import Derived.Deep.RegionWith
namespace Go.Proofs.YtoaoejaodhedaaaGreat
open Go.RowKit
set_option maxHeartbeats 6400000
set_option maxRecDepth 100000
def RxNew (w:World) (b:Int) (r:Ending) (w':World):Prop:=
 ∃g:Nat,r=.returned (.tuple #[.pointer (some ⟨g,0,none⟩),.int .i64 0])∧w.heap.size≤g∧w'.heap[g]?=some (.cells #[.int .i64 (charT b),.int .i64 (t15T b),.int .i64 (t35T b),.slice none 0 0,.int .i64 0,.int .i64 0,.int .i64 0,.bool false,.int .i64 0,.int .i64 0] 209)∧Below w.heap.size w w'
theorem rxnew_ok (b p:Int) (h:Hid (Okset b p)) (w:World):
  Calls Tryz.prog 129 #[.agg #[.int .i64 b,.int .i64 p]] w (RxNew w b):=by
 obtain⟨C,hC⟩:=gE (charT b);obtain⟨F,hF⟩:=gE (t15T b);obtain⟨T,hT⟩:=gE (t35T b);have HCH:Hid (∀W,Calls Tryz.prog 128 #[.agg #[.int .i64 b,.int .i64 p]] W fun r w'=>r=.returned (.int .i64 C)∧Below W.heap.size W w'):=fun W=>by rw[←hC];exact char_ok b p h W
 have HT3:Hid (∀W,Calls Tryz.prog 125 #[.agg #[.int .i64 b,.int .i64 p]] W fun r w'=>r=.returned (.int .i64 T)∧Below W.heap.size W w'):=fun W=>by rw[←hT];exact t35_ok b p h W
 have HT1:Hid (∀W,Calls Tryz.prog 165 #[.agg #[.int .i64 b,.int .i64 p]] W fun r w'=>r=.returned (.int .i64 F)∧Below W.heap.size W w'):=fun W=>by rw[←hF];exact t15_ok b p h W
 have HP:Hid (∀r w',(∃g:Nat,r=.returned (.tuple #[.pointer (some ⟨g,0,none⟩),.int .i64 0])∧w.heap.size≤g∧w'.heap[g]?=some (.cells #[.int .i64 C,.int .i64 F,.int .i64 T,.slice none 0 0,.int .i64 0,.int .i64 0,.int .i64 0,.bool false,.int .i64 0,.int .i64 0] 209)∧Below w.heap.size w w')→RxNew w b r w'):=by
  intro r w' hh;subst hC hF hT;exact hh
 clear hC hF hT;go_enter Tryz.func129,Tryz.ntmps129;go_wp2_with (first|(go_at_call 120;(with_reducible refine(svalid_ok b p h.out _).mono ?_);rintro r w1 ⟨rfl,hb1⟩;have g0:=bB (bI w _) hb1)|fail);have c0:∀W,Below w1.heap.size w1 W→W.cell? ⟨w.heap.size,0,none⟩=some (.int .i64 b):=fun W hW=>bA (bB g0 hW) 0
 have c1:∀W,Below w1.heap.size w1 W→W.cell? ⟨w.heap.size,1,none⟩=some (.int .i64 p):=fun W hW=>bA (bB g0 hW) 1
 have kD:Below w1.heap.size w1 w1.drew:=(Below.refl _ _).drew;have hbw1:=bU (bH w _) hb1;clear g0 hb1;go_region_held3 (fun W=>Below w1.heap.size w1 W) ((first|exact kD|exact bU (by assumption) hb6|exact bU (by assumption) hb5|exact bU (by assumption) hb4|exact cJ (by assumption) (Nat.le_refl _) _)) (first|(go_at_call 128;(with_reducible refine(HCH.out _).mono ?_);rintro r w4 ⟨rfl,hb4⟩)|(go_at_call 125;(with_reducible refine(HT3.out _).mono ?_);rintro r w5 ⟨rfl,hb5⟩)|(go_at_call 165;(with_reducible refine(HT1.out _).mono ?_);rintro r w6 ⟨rfl,hb6⟩))
 all_goals
  go_wp2;go_ret2;refine HP.out _ _ ⟨_,rfl,?_,bI _ _,?_⟩
  ·have e1:=hbw1.size
   have e4:=hb4.size;have e5:=hb5.size;have e6:=hb6.size;simp at e4 e5 e6;omega
  ·first
    |exact bU hbw1 (cJ (bU (bU (bU kD hb4) hb5) hb6) (Nat.le_refl _) _)
    |exact bU hbw1 (cJ (bU (bU (bU kD hb4) hb6) hb5) (Nat.le_refl _) _)
    |exact bU hbw1 (cJ (bU (bU (bU kD hb5) hb4) hb6) (Nat.le_refl _) _)
    |exact bU hbw1 (cJ (bU (bU (bU kD hb5) hb6) hb4) (Nat.le_refl _) _)
    |exact bU hbw1 (cJ (bU (bU (bU kD hb6) hb4) hb5) (Nat.le_refl _) _)
    |exact bU hbw1 (cJ (bU (bU (bU kD hb6) hb5) hb4) (Nat.le_refl _) _)
structure Lk where
 b:Int
 p:Int
 re:Int
 ti:Int
 dr:Int
 ph:Int
 un:Int
 q:Rq
 fa:Option Addr
 fn:Nat
 fc:Nat
 now:Int
 en:Int
 til:Int
 la:Int
 rx:Value
 cnt:Int
 sa:Option Addr
 sn:Nat
 sc:Nat
 o:Oc
 da:Option Addr
 dn:Nat
 dc:Nat
 oa:Option Addr
 on:Nat
 oc:Nat
def Lk.cells (s:Lk):Array Value:=
 #[.int .i64 s.b,.int .i64 s.p,.int .i64 s.re,.int .i64 s.ti,.int .i64 s.dr,.int .i64 s.ph,.int .i64 s.un,.int .i64 s.q.fn,.int .i64 s.q.addr,.int .i64 s.q.qty,.int .i64 s.q.code,.int .i64 s.q.obj,
  .slice s.fa s.fn s.fc,.int .i64 s.now,.int .i64 s.en,.int .i64 s.til,.int .i64 s.la,s.rx,.int .i64 s.cnt,.slice s.sa s.sn s.sc,
  .int .i64 s.o.verdict,.int .i64 s.o.reply.fn,.int .i64 s.o.reply.exc,.slice s.da s.dn s.dc,.int .i64 s.o.reply.code,.int .i64 s.o.reply.level,.bool s.o.reply.more,.int .i64 s.o.reply.next,.slice s.oa s.on s.oc]
def LkAt (w:World) (g:Nat) (s:Lk):Prop:=w.heap[g]?=some (.cells s.cells 177)
theorem LkAt.keep {w w':World} {g:Nat} {s:Lk} (h:LkAt w g s) (hb:Below w.heap.size w w'):LkAt w' g s:=bB h hb
theorem LkAt.keeps {w w':World} {F:Nat→Prop} {g:Nat} {s:Lk} (h:LkAt w g s) (hk:Keeps F w w') (hn:¬F g):LkAt w' g s:=bG h hk hn
theorem LkAt.cell {w:World} {g:Nat} {s:Lk} (h:LkAt w g s) (i:Nat):w.cell? ⟨g,i,none⟩=s.cells[i]?:=bA h i
theorem LkAt.free {w:World} {g:Nat} {s:Lk} (h:LkAt w g s) (i:Nat):w.frozen? ⟨g,i,none⟩=false:=bJ h i
theorem LkAt.lt {w:World} {g:Nat} {s:Lk} (h:LkAt w g s):g<w.heap.size:=cI h
def Oc.zero:Oc:=⟨0,Rp.zero⟩
def Rq.zero:Rq:=⟨0,0,0,0,0⟩
def Lk.new (b p re ti de:Int):Lk:=⟨b,p,re,ti,drainT b ti de,0,0,Rq.zero,none,0,0,0,0,0,0,.pointer none,0,none,0,0,Oc.zero,none,0,0,none,0,0⟩
def LkNew (w:World) (s:Lk) (r:Ending) (w':World):Prop:=
 ∃g:Nat,r=.returned (.tuple #[.pointer (some ⟨g,0,none⟩),.int .i64 0])∧w.heap.size≤g∧LkAt w' g s∧Below w.heap.size w w'
theorem lknew_ok (b p re ti de:Int) (h:Hid (Okset b p)) (h1:0≤re) (h2:re≤5) (h3:1≤ti) (h4:ti≤5000000) (h5:0≤de) (h6:de≤5000000) (w:World):
  Calls Tryz.prog 72 #[.agg #[.int .i64 b,.int .i64 p],.int .i64 re,.int .i64 ti,.int .i64 de] w (LkNew w (Lk.new b p re ti de)):=by
 obtain⟨D,hD⟩:=gE (drainT b ti de);have HDR:Hid (∀W,Calls Tryz.prog 101 #[.agg #[.int .i64 b,.int .i64 p],.int .i64 ti,.int .i64 de] W fun r w'=>r=.returned (.int .i64 D)∧Below W.heap.size W w'):=fun W=>by rw[←hD];exact drain_ok b p ti de h (by omega) h4 h5 h6 W
 have V1:Hid ((decide (0≤re)&&decide (re≤5))=true):=by show _=_;rw[decide_eq_true h1,decide_eq_true h2];rfl
 have V2:Hid ((decide (1≤ti)&&decide (ti≤5000000))=true):=by show _=_;rw[decide_eq_true h3,decide_eq_true h4];rfl
 have V3:Hid ((decide (0≤de)&&decide (de≤5000000))=true):=by show _=_;rw[decide_eq_true h5,decide_eq_true h6];rfl
 have HP:Hid (∀r w',(∃g:Nat,r=.returned (.tuple #[.pointer (some ⟨g,0,none⟩),.int .i64 0])∧w.heap.size≤g∧w'.heap[g]?=some (.cells #[.int .i64 b,.int .i64 p,.int .i64 re,.int .i64 ti,.int .i64 D,.int .i64 0,.int .i64 0,.int .i64 0,.int .i64 0,.int .i64 0,.int .i64 0,.int .i64 0,.slice none 0 0,.int .i64 0,.int .i64 0,.int .i64 0,.int .i64 0,.pointer none,.int .i64 0,.slice none 0 0,.int .i64 0,.int .i64 0,.int .i64 0,.slice none 0 0,.int .i64 0,.int .i64 0,.bool false,.int .i64 0,.slice none 0 0] 177)∧Below w.heap.size w w')→LkNew w (Lk.new b p re ti de) r w'):=by
  intro r w' hh;subst hD;exact hh
 clear hD h1 h2 h3 h4 h5 h6;go_enter Tryz.func72,Tryz.ntmps72;go_wp2_with (first|(go_at_call 120;(with_reducible refine(svalid_ok b p h.out _).mono ?_);rintro r w1 ⟨rfl,hb1⟩;have g0:=bB (bI w _) hb1)|(go_at_call 104;(with_reducible refine(bY re 0 5 _ true V1).mono ?_);rintro r wi ⟨rfl,rfl⟩)|(go_at_call 104;(with_reducible refine(bY ti 1 5000000 _ true V2).mono ?_);rintro r wi ⟨rfl,rfl⟩)|(go_at_call 104;(with_reducible refine(bY de 0 5000000 _ true V3).mono ?_);rintro r wi ⟨rfl,rfl⟩));have c0:∀W,Below w1.heap.size w1 W→W.cell? ⟨w.heap.size,0,none⟩=some (.int .i64 b):=fun W hW=>bA (bB g0 hW) 0
 have c1:∀W,Below w1.heap.size w1 W→W.cell? ⟨w.heap.size,1,none⟩=some (.int .i64 p):=fun W hW=>bA (bB g0 hW) 1
 have kD:Below w1.heap.size w1 w1.drew:=(Below.refl _ _).drew;have hbw1:=bU (bH w _) hb1;clear g0 hb1;go_region_held3 (fun W=>Below w1.heap.size w1 W) ((first|exact kD|exact bU kD hb4|exact cJ (by assumption) (Nat.le_refl _) _)) ((go_at_call 101;(with_reducible refine(HDR.out _).mono ?_);rintro r w4 ⟨rfl,hb4⟩))
 all_goals
  go_wp2;go_ret2;refine HP.out _ _ ⟨_,rfl,?_,bI _ _,?_⟩
  ·have e1:=hbw1.size
   have e4:=hb4.size;simp at e4;omega
  ·exact bU hbw1 (cJ (bU kD hb4) (Nat.le_refl _) _)
theorem hpSetE {w:World} {b:Nat} {c C:Array Value} {t:TypeId} {fz:Nat×Nat} {i:Nat} {u:Value} (h:w.heap[b]?=some (.cells c t fz)) (e:c.setIfInBounds i u=C):
 (w.setCell ⟨b,i,none⟩ u).heap[b]?=some (.cells C t fz):=by rw[bX h i u,e]
theorem hpDrewE {w:World} {b:Nat} {o:Option Obj} (h:w.heap[b]?=o):w.drew.heap[b]?=o:=h
theorem kset' {p:Nat} {w w1:World} (h:Keeps (· =p) w w1) (i:Nat) (u:Value):Keeps (· =p) w (w1.setCell ⟨p,i,none⟩ u):=Keeps.set (F:=(· =p)) h ⟨p,i,none⟩ u rfl
theorem kdrew {p:Nat} {w w1:World} (h:Keeps (· =p) w w1):Keeps (· =p) w w1.drew:=h.trans (Keeps.of_below (Below.refl _ _).drew) (fun _ _ h=>h)
def Lk.begun (s:Lk) (unit:Int) (q:Rq) (tick:Int) (fa:Option Addr) (fn fc:Nat):Lk:=
 {s with ph:=1,un:=unit,q:=q,now:=tick,fa:=fa,fn:=fn,fc:=fc,cnt:=0,sa:=none,sn:=0,sc:=0,o:=Oc.zero,da:=none,dn:=0,dc:=0,oa:=none,on:=0,oc:=0}
def LkBegun (w:World) (g:Nat) (s:Lk) (unit:Int) (q:Rq) (tick:Int) (r:Ending) (w':World):Prop:=
 ∃(fa:Option Addr) (fc:Nat),r=.returned (.int .i64 0)∧LkAt w' g (s.begun unit q tick fa (aduF (UInt8.ofNat unit.toNat) q.pdu).length fc)∧Bs w' (.slice fa (aduF (UInt8.ofNat unit.toNat) q.pdu).length fc) (aduF (UInt8.ofNat unit.toNat) q.pdu)∧(∀ad,fa=some ad→w.heap.size≤ad.block)∧Keeps (· =g) w w'
theorem lkbegin_ok (g:Nat) (s:Lk) (unit:Int) (qf qa qq qc qo tick:Int) (w:World) (hl:LkAt w g s) (hph:s.ph=0∨s.ph=5) (h1:1≤unit) (h2:unit≤247) (h3:s.now≤tick) (h4:tick≤1152921504606846976) (hq:Rq.ok ⟨qf,qa,qq,qc,qo⟩=true):
  Calls Tryz.prog 73 #[.pointer (some ⟨g,0,none⟩),.int .i64 unit,.agg #[.int .i64 qf,.int .i64 qa,.int .i64 qq,.int .i64 qc,.int .i64 qo],.int .i64 tick] w (LkBegun w g s unit ⟨qf,qa,qq,qc,qo⟩ tick):=by
 have V1:Hid ((decide (1≤unit)&&decide (unit≤247))=true):=by show _=_;rw[decide_eq_true h1,decide_eq_true h2];rfl
 have V2:Hid ((decide (s.now≤tick)&&decide (tick≤1152921504606846976))=true):=by show _=_;rw[decide_eq_true h3,decide_eq_true h4];rfl
 have HQ:Hid (∀W,Calls Tryz.prog 121 #[.agg #[.int .i64 qf,.int .i64 qa,.int .i64 qq,.int .i64 qc,.int .i64 qo]] W fun r w'=>r=.returned (.bool true)∧Below W.heap.size W w'):=fun W=>by rw[←hq];exact cO qf qa qq qc qo W
 have HE:Hid (∀W,Calls Tryz.prog 122 #[.agg #[.int .i64 qf,.int .i64 qa,.int .i64 qq,.int .i64 qc,.int .i64 qo]] W (NewBs W (Rq.pdu ⟨qf,qa,qq,qc,qo⟩))):=fun W=>reqenc_ok qf qa qq qc qo hq W
 obtain⟨pl1,pl2⟩:=Rq.pdu_len ⟨qf,qa,qq,qc,qo⟩;have HBL:Hid (∀W a c p,Bs W (.slice a p.length c) p→1≤p.length→p.length≤253→Calls Tryz.prog 123 #[.int .i64 unit,.slice a p.length c] W (fun r w'=>∃fa fc,r=.returned (.tuple #[.slice fa (aduF (UInt8.ofNat unit.toNat) p).length fc,.int .i64 0])∧Bs w' (.slice fa (aduF (UInt8.ofNat unit.toNat) p).length fc) (aduF (UInt8.ofNat unit.toNat) p)∧(∀ad,fa=some ad→W.heap.size≤ad.block)∧Below W.heap.size W w')):=by
  intro W a c p hp hp1 hp2;refine(pbuild_any unit a _ c p W hp).mono ?_;rintro r w' ⟨fa,fc,e,f,rfl,hown,hb,hc⟩;have hbb:buildB unit p=some (aduF (UInt8.ofNat unit.toNat) p):=if_pos ⟨h1,h2,hp1,hp2⟩;rcases hc with⟨rfl,hc⟩|⟨_,hc,_⟩
  ·rw [hbb] at hc
   cases hc;exact⟨fa,fc,rfl,Bs.own hown,fun ad had=>(hown.lt ad.block (by rw[had];rfl)).1,hb⟩
  ·rw [hbb] at hc;cases hc
 have hg:=hl.lt;generalize hF:aduF (UInt8.ofNat unit.toNat)=F at*;obtain⟨P,hP⟩:∃P,Rq.pdu ⟨qf,qa,qq,qc,qo⟩=P:=⟨_,rfl⟩
 rw[hP] at HE pl1 pl2;have HL:=bC hl;have HF:=bC hF;have HPP:=bC hP;have kA:Below w.heap.size w (w.alloc (.cells #[.int .i64 qf,.int .i64 qa,.int .i64 qq,.int .i64 qc,.int .i64 qo] 45)):=bH w _;have l0:=hl.keep kA;have l0now:(w.alloc (.cells #[.int .i64 qf,.int .i64 qa,.int .i64 qq,.int .i64 qc,.int .i64 qo] 45)).cell? ⟨g,13,none⟩=some (.int .i64 s.now):=l0.cell 13;have hgne:g≠w.heap.size:=by omega
 have c5:((w.alloc (.cells #[.int .i64 qf,.int .i64 qa,.int .i64 qq,.int .i64 qc,.int .i64 qo] 45)).cell? ⟨g,5,none⟩=some (.int .i64 0))∨((w.alloc (.cells #[.int .i64 qf,.int .i64 qa,.int .i64 qq,.int .i64 qc,.int .i64 qo] 45)).cell? ⟨g,5,none⟩=some (.int .i64 5)):=by
  have h5:=l0.cell 5;rcases hph with h|h
  ·left;rw[h5];simp [Lk.cells,h]
  ·right;rw[h5];simp [Lk.cells,h]
 clear hl hq hF hP hph h1 h2 h3 h4 l0;rcases c5 with c5|c5
 all_goals
  go_enter Tryz.func73,Tryz.ntmps73;go_wp2_with (first|(go_at_call 104;(with_reducible refine(bY unit 1 247 _ true V1).mono ?_);rintro r wi ⟨rfl,rfl⟩)|(go_at_call 104;(with_reducible refine(bY tick s.now 1152921504606846976 _ true V2).mono ?_);rintro r wi ⟨rfl,rfl⟩));refine(HQ.out _).mono ?_;rintro r w1 ⟨rfl,hb1⟩;have g1:=bB (bI w _) hb1;obtain⟨y0,y1,y2,y3,y4⟩:w1.cell? ⟨w.heap.size,0,none⟩=some (.int .i64 qf)∧w1.cell? ⟨w.heap.size,1,none⟩=some (.int .i64 qa)∧w1.cell? ⟨w.heap.size,2,none⟩=some (.int .i64 qq)∧w1.cell? ⟨w.heap.size,3,none⟩=some (.int .i64 qc)∧w1.cell? ⟨w.heap.size,4,none⟩=some (.int .i64 qo):=⟨bA g1 0,bA g1 1,bA g1 2,bA g1 3,bA g1 4⟩
  have hbw1:=bU kA hb1;clear c5 l0now hb1;go_wp2_with fail;refine(HE.out _).mono ?_;rintro r w2 ⟨pa,pc,rfl,hpb,hb2⟩;have g2:=bB g1 hb2;have hbw2:=bU hbw1 hb2;have HPB:=bC (hpb w2 (Agree.refl _ _));clear y0 y1 y2 y3 y4 g1 hpb hb2;go_wp2_with fail;refine(HBL.out _ _ _ _ HPB.out pl1 (by omega)).mono ?_;rintro r w3 ⟨fa,fc,rfl,hfb,hfa,hb3⟩;have g3:=bB g2 hb3;have hbw3:=bU hbw2 hb3;have l3:=HL.out.keep hbw3;have HFB:=bC hfb;have HFA:Hid (∀ad,fa=some ad→w.heap.size<ad.block):=fun ad had=>Nat.lt_of_lt_of_le (Nat.lt_of_lt_of_le (by have:=(Array.getElem?_eq_some_iff.1 g2).1;exact this) (Nat.le_refl _)) (hfa ad had)
  obtain⟨y0,y1,y2,y3,y4⟩:w3.cell? ⟨w.heap.size,0,none⟩=some (.int .i64 qf)∧w3.cell? ⟨w.heap.size,1,none⟩=some (.int .i64 qa)∧w3.cell? ⟨w.heap.size,2,none⟩=some (.int .i64 qq)∧w3.cell? ⟨w.heap.size,3,none⟩=some (.int .i64 qc)∧w3.cell? ⟨w.heap.size,4,none⟩=some (.int .i64 qo):=⟨bA g3 0,bA g3 1,bA g3 2,bA g3 3,bA g3 4⟩
  clear g2 g3 hfb hfa hb3 HPB;have c5:w3.cell? ⟨g,5,none⟩=some (.int .i64 s.ph):=bA l3 5;have f5:w3.frozen? ⟨g,5,none⟩=false:=bJ l3 5;have c6:w3.cell? ⟨g,6,none⟩=some (.int .i64 s.un):=bA l3 6;have f6:w3.frozen? ⟨g,6,none⟩=false:=bJ l3 6;have c7:w3.cell? ⟨g,7,none⟩=some (.int .i64 s.q.fn):=bA l3 7;have f7:w3.frozen? ⟨g,7,none⟩=false:=bJ l3 7;have c8:w3.cell? ⟨g,8,none⟩=some (.int .i64 s.q.addr):=bA l3 8;have f8:w3.frozen? ⟨g,8,none⟩=false:=bJ l3 8;have c9:w3.cell? ⟨g,9,none⟩=some (.int .i64 s.q.qty):=bA l3 9;have f9:w3.frozen? ⟨g,9,none⟩=false:=bJ l3 9;have c10:w3.cell? ⟨g,10,none⟩=some (.int .i64 s.q.code):=bA l3 10;have f10:w3.frozen? ⟨g,10,none⟩=false:=bJ l3 10;have c11:w3.cell? ⟨g,11,none⟩=some (.int .i64 s.q.obj):=bA l3 11;have f11:w3.frozen? ⟨g,11,none⟩=false:=bJ l3 11;have c12:w3.cell? ⟨g,12,none⟩=some (.slice s.fa s.fn s.fc):=bA l3 12;have f12:w3.frozen? ⟨g,12,none⟩=false:=bJ l3 12;have c13:w3.cell? ⟨g,13,none⟩=some (.int .i64 s.now):=bA l3 13;have f13:w3.frozen? ⟨g,13,none⟩=false:=bJ l3 13;have c18:w3.cell? ⟨g,18,none⟩=some (.int .i64 s.cnt):=bA l3 18;have f18:w3.frozen? ⟨g,18,none⟩=false:=bJ l3 18;have c19:w3.cell? ⟨g,19,none⟩=some (.slice s.sa s.sn s.sc):=bA l3 19;have f19:w3.frozen? ⟨g,19,none⟩=false:=bJ l3 19;have c20:w3.cell? ⟨g,20,none⟩=some (.int .i64 s.o.verdict):=bA l3 20;have f20:w3.frozen? ⟨g,20,none⟩=false:=bJ l3 20;have c21:w3.cell? ⟨g,21,none⟩=some (.int .i64 s.o.reply.fn):=bA l3 21;have f21:w3.frozen? ⟨g,21,none⟩=false:=bJ l3 21;have c22:w3.cell? ⟨g,22,none⟩=some (.int .i64 s.o.reply.exc):=bA l3 22;have f22:w3.frozen? ⟨g,22,none⟩=false:=bJ l3 22;have c23:w3.cell? ⟨g,23,none⟩=some (.slice s.da s.dn s.dc):=bA l3 23;have f23:w3.frozen? ⟨g,23,none⟩=false:=bJ l3 23;have c24:w3.cell? ⟨g,24,none⟩=some (.int .i64 s.o.reply.code):=bA l3 24;have f24:w3.frozen? ⟨g,24,none⟩=false:=bJ l3 24;have c25:w3.cell? ⟨g,25,none⟩=some (.int .i64 s.o.reply.level):=bA l3 25;have f25:w3.frozen? ⟨g,25,none⟩=false:=bJ l3 25;have c26:w3.cell? ⟨g,26,none⟩=some (.bool s.o.reply.more):=bA l3 26;have f26:w3.frozen? ⟨g,26,none⟩=false:=bJ l3 26;have c27:w3.cell? ⟨g,27,none⟩=some (.int .i64 s.o.reply.next):=bA l3 27;have f27:w3.frozen? ⟨g,27,none⟩=false:=bJ l3 27;have c28:w3.cell? ⟨g,28,none⟩=some (.slice s.oa s.on s.oc):=bA l3 28;have f28:w3.frozen? ⟨g,28,none⟩=false:=bJ l3 28;go_wp2_with fail;go_region
  all_goals
   go_wp2;go_ret;unfold LkBegun;rw[HPP.out,HF.out];refine⟨fa,fc,rfl,?_,?_,?_,?_⟩
   ·unfold LkAt
    refine hpDrewE ?_;show _=some (Obj.cells #[.int .i64 s.b,.int .i64 s.p,.int .i64 s.re,.int .i64 s.ti,.int .i64 s.dr,.int .i64 1,.int .i64 unit,.int .i64 qf,.int .i64 qa,.int .i64 qq,.int .i64 qc,.int .i64 qo,.slice fa (F P).length fc,.int .i64 tick,.int .i64 s.en,.int .i64 s.til,.int .i64 s.la,s.rx,.int .i64 0,.slice none 0 0,.int .i64 0,.int .i64 0,.int .i64 0,.slice none 0 0,.int .i64 0,.int .i64 0,.bool false,.int .i64 0,.slice none 0 0] 177);refine hpSetE (c:=#[.int .i64 s.b,.int .i64 s.p,.int .i64 s.re,.int .i64 s.ti,.int .i64 s.dr,.int .i64 s.ph,.int .i64 unit,.int .i64 qf,.int .i64 qa,.int .i64 qq,.int .i64 qc,.int .i64 qo,.slice fa (F P).length fc,.int .i64 tick,.int .i64 s.en,.int .i64 s.til,.int .i64 s.la,s.rx,.int .i64 0,.slice none 0 0,.int .i64 0,.int .i64 0,.int .i64 0,.slice none 0 0,.int .i64 0,.int .i64 0,.bool false,.int .i64 0,.slice none 0 0]) ?_ rfl;refine hpSetE (c:=#[.int .i64 s.b,.int .i64 s.p,.int .i64 s.re,.int .i64 s.ti,.int .i64 s.dr,.int .i64 s.ph,.int .i64 unit,.int .i64 qf,.int .i64 qa,.int .i64 qq,.int .i64 qc,.int .i64 qo,.slice fa (F P).length fc,.int .i64 tick,.int .i64 s.en,.int .i64 s.til,.int .i64 s.la,s.rx,.int .i64 0,.slice none 0 0,.int .i64 0,.int .i64 0,.int .i64 0,.slice none 0 0,.int .i64 0,.int .i64 0,.bool false,.int .i64 0,.slice s.oa s.on s.oc]) ?_ rfl;refine hpSetE (c:=#[.int .i64 s.b,.int .i64 s.p,.int .i64 s.re,.int .i64 s.ti,.int .i64 s.dr,.int .i64 s.ph,.int .i64 unit,.int .i64 qf,.int .i64 qa,.int .i64 qq,.int .i64 qc,.int .i64 qo,.slice fa (F P).length fc,.int .i64 tick,.int .i64 s.en,.int .i64 s.til,.int .i64 s.la,s.rx,.int .i64 0,.slice none 0 0,.int .i64 0,.int .i64 0,.int .i64 0,.slice none 0 0,.int .i64 0,.int .i64 0,.bool false,.int .i64 s.o.reply.next,.slice s.oa s.on s.oc]) ?_ rfl;refine hpSetE (c:=#[.int .i64 s.b,.int .i64 s.p,.int .i64 s.re,.int .i64 s.ti,.int .i64 s.dr,.int .i64 s.ph,.int .i64 unit,.int .i64 qf,.int .i64 qa,.int .i64 qq,.int .i64 qc,.int .i64 qo,.slice fa (F P).length fc,.int .i64 tick,.int .i64 s.en,.int .i64 s.til,.int .i64 s.la,s.rx,.int .i64 0,.slice none 0 0,.int .i64 0,.int .i64 0,.int .i64 0,.slice none 0 0,.int .i64 0,.int .i64 0,.bool s.o.reply.more,.int .i64 s.o.reply.next,.slice s.oa s.on s.oc]) ?_ rfl;refine hpSetE (c:=#[.int .i64 s.b,.int .i64 s.p,.int .i64 s.re,.int .i64 s.ti,.int .i64 s.dr,.int .i64 s.ph,.int .i64 unit,.int .i64 qf,.int .i64 qa,.int .i64 qq,.int .i64 qc,.int .i64 qo,.slice fa (F P).length fc,.int .i64 tick,.int .i64 s.en,.int .i64 s.til,.int .i64 s.la,s.rx,.int .i64 0,.slice none 0 0,.int .i64 0,.int .i64 0,.int .i64 0,.slice none 0 0,.int .i64 0,.int .i64 s.o.reply.level,.bool s.o.reply.more,.int .i64 s.o.reply.next,.slice s.oa s.on s.oc]) ?_ rfl;refine hpSetE (c:=#[.int .i64 s.b,.int .i64 s.p,.int .i64 s.re,.int .i64 s.ti,.int .i64 s.dr,.int .i64 s.ph,.int .i64 unit,.int .i64 qf,.int .i64 qa,.int .i64 qq,.int .i64 qc,.int .i64 qo,.slice fa (F P).length fc,.int .i64 tick,.int .i64 s.en,.int .i64 s.til,.int .i64 s.la,s.rx,.int .i64 0,.slice none 0 0,.int .i64 0,.int .i64 0,.int .i64 0,.slice none 0 0,.int .i64 s.o.reply.code,.int .i64 s.o.reply.level,.bool s.o.reply.more,.int .i64 s.o.reply.next,.slice s.oa s.on s.oc]) ?_ rfl;refine hpSetE (c:=#[.int .i64 s.b,.int .i64 s.p,.int .i64 s.re,.int .i64 s.ti,.int .i64 s.dr,.int .i64 s.ph,.int .i64 unit,.int .i64 qf,.int .i64 qa,.int .i64 qq,.int .i64 qc,.int .i64 qo,.slice fa (F P).length fc,.int .i64 tick,.int .i64 s.en,.int .i64 s.til,.int .i64 s.la,s.rx,.int .i64 0,.slice none 0 0,.int .i64 0,.int .i64 0,.int .i64 0,.slice s.da s.dn s.dc,.int .i64 s.o.reply.code,.int .i64 s.o.reply.level,.bool s.o.reply.more,.int .i64 s.o.reply.next,.slice s.oa s.on s.oc]) ?_ rfl;refine hpSetE (c:=#[.int .i64 s.b,.int .i64 s.p,.int .i64 s.re,.int .i64 s.ti,.int .i64 s.dr,.int .i64 s.ph,.int .i64 unit,.int .i64 qf,.int .i64 qa,.int .i64 qq,.int .i64 qc,.int .i64 qo,.slice fa (F P).length fc,.int .i64 tick,.int .i64 s.en,.int .i64 s.til,.int .i64 s.la,s.rx,.int .i64 0,.slice none 0 0,.int .i64 0,.int .i64 0,.int .i64 s.o.reply.exc,.slice s.da s.dn s.dc,.int .i64 s.o.reply.code,.int .i64 s.o.reply.level,.bool s.o.reply.more,.int .i64 s.o.reply.next,.slice s.oa s.on s.oc]) ?_ rfl;refine hpSetE (c:=#[.int .i64 s.b,.int .i64 s.p,.int .i64 s.re,.int .i64 s.ti,.int .i64 s.dr,.int .i64 s.ph,.int .i64 unit,.int .i64 qf,.int .i64 qa,.int .i64 qq,.int .i64 qc,.int .i64 qo,.slice fa (F P).length fc,.int .i64 tick,.int .i64 s.en,.int .i64 s.til,.int .i64 s.la,s.rx,.int .i64 0,.slice none 0 0,.int .i64 0,.int .i64 s.o.reply.fn,.int .i64 s.o.reply.exc,.slice s.da s.dn s.dc,.int .i64 s.o.reply.code,.int .i64 s.o.reply.level,.bool s.o.reply.more,.int .i64 s.o.reply.next,.slice s.oa s.on s.oc]) ?_ rfl;refine hpSetE (c:=#[.int .i64 s.b,.int .i64 s.p,.int .i64 s.re,.int .i64 s.ti,.int .i64 s.dr,.int .i64 s.ph,.int .i64 unit,.int .i64 qf,.int .i64 qa,.int .i64 qq,.int .i64 qc,.int .i64 qo,.slice fa (F P).length fc,.int .i64 tick,.int .i64 s.en,.int .i64 s.til,.int .i64 s.la,s.rx,.int .i64 0,.slice none 0 0,.int .i64 s.o.verdict,.int .i64 s.o.reply.fn,.int .i64 s.o.reply.exc,.slice s.da s.dn s.dc,.int .i64 s.o.reply.code,.int .i64 s.o.reply.level,.bool s.o.reply.more,.int .i64 s.o.reply.next,.slice s.oa s.on s.oc]) ?_ rfl;refine hpSetE (c:=#[.int .i64 s.b,.int .i64 s.p,.int .i64 s.re,.int .i64 s.ti,.int .i64 s.dr,.int .i64 s.ph,.int .i64 unit,.int .i64 qf,.int .i64 qa,.int .i64 qq,.int .i64 qc,.int .i64 qo,.slice fa (F P).length fc,.int .i64 tick,.int .i64 s.en,.int .i64 s.til,.int .i64 s.la,s.rx,.int .i64 0,.slice s.sa s.sn s.sc,.int .i64 s.o.verdict,.int .i64 s.o.reply.fn,.int .i64 s.o.reply.exc,.slice s.da s.dn s.dc,.int .i64 s.o.reply.code,.int .i64 s.o.reply.level,.bool s.o.reply.more,.int .i64 s.o.reply.next,.slice s.oa s.on s.oc]) ?_ rfl;refine hpSetE (c:=#[.int .i64 s.b,.int .i64 s.p,.int .i64 s.re,.int .i64 s.ti,.int .i64 s.dr,.int .i64 s.ph,.int .i64 unit,.int .i64 qf,.int .i64 qa,.int .i64 qq,.int .i64 qc,.int .i64 qo,.slice fa (F P).length fc,.int .i64 tick,.int .i64 s.en,.int .i64 s.til,.int .i64 s.la,s.rx,.int .i64 s.cnt,.slice s.sa s.sn s.sc,.int .i64 s.o.verdict,.int .i64 s.o.reply.fn,.int .i64 s.o.reply.exc,.slice s.da s.dn s.dc,.int .i64 s.o.reply.code,.int .i64 s.o.reply.level,.bool s.o.reply.more,.int .i64 s.o.reply.next,.slice s.oa s.on s.oc]) ?_ rfl;refine hpSetE (c:=#[.int .i64 s.b,.int .i64 s.p,.int .i64 s.re,.int .i64 s.ti,.int .i64 s.dr,.int .i64 s.ph,.int .i64 unit,.int .i64 qf,.int .i64 qa,.int .i64 qq,.int .i64 qc,.int .i64 qo,.slice fa (F P).length fc,.int .i64 s.now,.int .i64 s.en,.int .i64 s.til,.int .i64 s.la,s.rx,.int .i64 s.cnt,.slice s.sa s.sn s.sc,.int .i64 s.o.verdict,.int .i64 s.o.reply.fn,.int .i64 s.o.reply.exc,.slice s.da s.dn s.dc,.int .i64 s.o.reply.code,.int .i64 s.o.reply.level,.bool s.o.reply.more,.int .i64 s.o.reply.next,.slice s.oa s.on s.oc]) ?_ rfl;refine hpSetE (c:=#[.int .i64 s.b,.int .i64 s.p,.int .i64 s.re,.int .i64 s.ti,.int .i64 s.dr,.int .i64 s.ph,.int .i64 unit,.int .i64 qf,.int .i64 qa,.int .i64 qq,.int .i64 qc,.int .i64 s.q.obj,.slice fa (F P).length fc,.int .i64 s.now,.int .i64 s.en,.int .i64 s.til,.int .i64 s.la,s.rx,.int .i64 s.cnt,.slice s.sa s.sn s.sc,.int .i64 s.o.verdict,.int .i64 s.o.reply.fn,.int .i64 s.o.reply.exc,.slice s.da s.dn s.dc,.int .i64 s.o.reply.code,.int .i64 s.o.reply.level,.bool s.o.reply.more,.int .i64 s.o.reply.next,.slice s.oa s.on s.oc]) ?_ rfl;refine hpSetE (c:=#[.int .i64 s.b,.int .i64 s.p,.int .i64 s.re,.int .i64 s.ti,.int .i64 s.dr,.int .i64 s.ph,.int .i64 unit,.int .i64 qf,.int .i64 qa,.int .i64 qq,.int .i64 s.q.code,.int .i64 s.q.obj,.slice fa (F P).length fc,.int .i64 s.now,.int .i64 s.en,.int .i64 s.til,.int .i64 s.la,s.rx,.int .i64 s.cnt,.slice s.sa s.sn s.sc,.int .i64 s.o.verdict,.int .i64 s.o.reply.fn,.int .i64 s.o.reply.exc,.slice s.da s.dn s.dc,.int .i64 s.o.reply.code,.int .i64 s.o.reply.level,.bool s.o.reply.more,.int .i64 s.o.reply.next,.slice s.oa s.on s.oc]) ?_ rfl;refine hpSetE (c:=#[.int .i64 s.b,.int .i64 s.p,.int .i64 s.re,.int .i64 s.ti,.int .i64 s.dr,.int .i64 s.ph,.int .i64 unit,.int .i64 qf,.int .i64 qa,.int .i64 s.q.qty,.int .i64 s.q.code,.int .i64 s.q.obj,.slice fa (F P).length fc,.int .i64 s.now,.int .i64 s.en,.int .i64 s.til,.int .i64 s.la,s.rx,.int .i64 s.cnt,.slice s.sa s.sn s.sc,.int .i64 s.o.verdict,.int .i64 s.o.reply.fn,.int .i64 s.o.reply.exc,.slice s.da s.dn s.dc,.int .i64 s.o.reply.code,.int .i64 s.o.reply.level,.bool s.o.reply.more,.int .i64 s.o.reply.next,.slice s.oa s.on s.oc]) ?_ rfl;refine hpSetE (c:=#[.int .i64 s.b,.int .i64 s.p,.int .i64 s.re,.int .i64 s.ti,.int .i64 s.dr,.int .i64 s.ph,.int .i64 unit,.int .i64 qf,.int .i64 s.q.addr,.int .i64 s.q.qty,.int .i64 s.q.code,.int .i64 s.q.obj,.slice fa (F P).length fc,.int .i64 s.now,.int .i64 s.en,.int .i64 s.til,.int .i64 s.la,s.rx,.int .i64 s.cnt,.slice s.sa s.sn s.sc,.int .i64 s.o.verdict,.int .i64 s.o.reply.fn,.int .i64 s.o.reply.exc,.slice s.da s.dn s.dc,.int .i64 s.o.reply.code,.int .i64 s.o.reply.level,.bool s.o.reply.more,.int .i64 s.o.reply.next,.slice s.oa s.on s.oc]) ?_ rfl;refine hpSetE (c:=#[.int .i64 s.b,.int .i64 s.p,.int .i64 s.re,.int .i64 s.ti,.int .i64 s.dr,.int .i64 s.ph,.int .i64 unit,.int .i64 s.q.fn,.int .i64 s.q.addr,.int .i64 s.q.qty,.int .i64 s.q.code,.int .i64 s.q.obj,.slice fa (F P).length fc,.int .i64 s.now,.int .i64 s.en,.int .i64 s.til,.int .i64 s.la,s.rx,.int .i64 s.cnt,.slice s.sa s.sn s.sc,.int .i64 s.o.verdict,.int .i64 s.o.reply.fn,.int .i64 s.o.reply.exc,.slice s.da s.dn s.dc,.int .i64 s.o.reply.code,.int .i64 s.o.reply.level,.bool s.o.reply.more,.int .i64 s.o.reply.next,.slice s.oa s.on s.oc]) ?_ rfl;refine hpSetE (c:=#[.int .i64 s.b,.int .i64 s.p,.int .i64 s.re,.int .i64 s.ti,.int .i64 s.dr,.int .i64 s.ph,.int .i64 s.un,.int .i64 s.q.fn,.int .i64 s.q.addr,.int .i64 s.q.qty,.int .i64 s.q.code,.int .i64 s.q.obj,.slice fa (F P).length fc,.int .i64 s.now,.int .i64 s.en,.int .i64 s.til,.int .i64 s.la,s.rx,.int .i64 s.cnt,.slice s.sa s.sn s.sc,.int .i64 s.o.verdict,.int .i64 s.o.reply.fn,.int .i64 s.o.reply.exc,.slice s.da s.dn s.dc,.int .i64 s.o.reply.code,.int .i64 s.o.reply.level,.bool s.o.reply.more,.int .i64 s.o.reply.next,.slice s.oa s.on s.oc]) ?_ rfl;refine hpSetE (c:=#[.int .i64 s.b,.int .i64 s.p,.int .i64 s.re,.int .i64 s.ti,.int .i64 s.dr,.int .i64 s.ph,.int .i64 s.un,.int .i64 s.q.fn,.int .i64 s.q.addr,.int .i64 s.q.qty,.int .i64 s.q.code,.int .i64 s.q.obj,.slice s.fa s.fn s.fc,.int .i64 s.now,.int .i64 s.en,.int .i64 s.til,.int .i64 s.la,s.rx,.int .i64 s.cnt,.slice s.sa s.sn s.sc,.int .i64 s.o.verdict,.int .i64 s.o.reply.fn,.int .i64 s.o.reply.exc,.slice s.da s.dn s.dc,.int .i64 s.o.reply.code,.int .i64 s.o.reply.level,.bool s.o.reply.more,.int .i64 s.o.reply.next,.slice s.oa s.on s.oc]) ?_ rfl;exact l3
   ·refine HFB.out.keepF (F:=(· =g)) ?_ (fun ad had h=>by have:=HFA.out ad had;have h':ad.block=g:=h;omega)
    refine kdrew ?_
    repeat (with_reducible refine kset' ?_ _ _)
    exact Keeps.refl _ _
   ·exact fun ad had=>Nat.le_of_lt (HFA.out ad had)
   ·refine kdrew ?_
    repeat (with_reducible refine kset' ?_ _ _)
    exact Keeps.of_below hbw3
def Lk.sent (s:Lk) (en:Int) (rx:Value):Lk:={s with ph:=2,cnt:=s.cnt+1,en:=en,la:=0,til:=en+t35T s.b+s.ti+charT s.b,rx:=rx}
def LkSent (w:World) (g:Nat) (s:Lk) (en:Int) (r:Ending) (w':World):Prop:=
 ∃rg:Nat,r=.returned (.int .i64 0)∧LkAt w' g (s.sent en (.pointer (some ⟨rg,0,none⟩)))∧w.heap.size≤rg∧w'.heap[rg]?=some (.cells #[.int .i64 (charT s.b),.int .i64 (t15T s.b),.int .i64 (t35T s.b),.slice none 0 0,.int .i64 0,.int .i64 0,.int .i64 0,.bool false,.int .i64 0,.int .i64 0] 209)∧Keeps (· =g) w w'
def SentS (W8:World) (g:Nat) (v:Value) (W:World):Prop:=Below W8.heap.size W8 W∨∃X,Below W8.heap.size W8 X∧W=X.setCell ⟨g,15,none⟩ v
theorem SentS.cell {W8 W:World} {g:Nat} {v:Value} {s:Lk} (h:SentS W8 g v W) (hl:LkAt W8 g s) (i:Nat) (hi:i≠15):W.cell? ⟨g,i,none⟩=s.cells[i]?:=by
 rcases h with h|⟨X,h,rfl⟩
 ·exact (hl.keep h).cell i
 ·rw [bA (bX (hl.keep h) 15 v) i]
  simp [Ne.symm hi]
theorem lksent_ok (g:Nat) (s:Lk) (en:Int) (w:World) (hl:LkAt w g s) (hph:s.ph=1) (h0:0≤s.now) (h1:s.now≤en) (h2:en≤1152921504606846976) (hset:Hid (Okset s.b s.p)) (h3:0≤s.ti) (h4:s.ti≤5000000) (h5:0≤s.cnt) (h6:s.cnt≤1000):
  Calls Tryz.prog 75 #[.pointer (some ⟨g,0,none⟩),.int .i64 en] w (LkSent w g s en):=by
 have V2:Hid ((decide (s.now≤en)&&decide (en≤1152921504606846976))=true):=by show _=_;rw[decide_eq_true h1,decide_eq_true h2];rfl
 obtain⟨t1,t2,_,_,t5,t6⟩:=cK hset.out;obtain⟨C,hC⟩:=gE (charT s.b);obtain⟨T,hT⟩:=gE (t35T s.b);have HCH:Hid (∀W,Calls Tryz.prog 128 #[.agg #[.int .i64 s.b,.int .i64 s.p]] W fun r w'=>r=.returned (.int .i64 C)∧Below W.heap.size W w'):=fun W=>by rw[←hC];exact char_ok s.b s.p hset W
 have HT3:Hid (∀W,Calls Tryz.prog 125 #[.agg #[.int .i64 s.b,.int .i64 s.p]] W fun r w'=>r=.returned (.int .i64 T)∧Below W.heap.size W w'):=fun W=>by rw[←hT];exact t35_ok s.b s.p hset W
 rw[hC] at t1 t2;rw[hT] at t5 t6;have HC:=bC hC;have HT:=bC hT;have hg:=hl.lt;have c5:w.cell? ⟨g,5,none⟩=some (.int .i64 1):=by rw[hl.cell 5];simp [Lk.cells,hph]
 have f5:=hl.free 5;have c13:w.cell? ⟨g,13,none⟩=some (.int .i64 s.now):=bA hl 13;have c14:w.cell? ⟨g,14,none⟩=some (.int .i64 s.en):=bA hl 14;have c16:w.cell? ⟨g,16,none⟩=some (.int .i64 s.la):=bA hl 16;have c18:w.cell? ⟨g,18,none⟩=some (.int .i64 s.cnt):=bA hl 18;have f14:w.frozen? ⟨g,14,none⟩=false:=bJ hl 14;have f16:w.frozen? ⟨g,16,none⟩=false:=bJ hl 16;have f18:w.frozen? ⟨g,18,none⟩=false:=bJ hl 18;obtain⟨W8,hW8⟩:∃W,W=((w.setCell ⟨g,18,none⟩ (.int .i64 (s.cnt+1))).setCell ⟨g,14,none⟩ (.int .i64 en)).setCell ⟨g,16,none⟩ (.int .i64 0):=⟨_,rfl⟩
 have l8:LkAt W8 g {s with cnt:=s.cnt+1,en:=en,la:=0}:=by
  rw[hW8];exact hpSetE (hpSetE (hpSetE hl rfl) rfl) rfl
 have k8:Keeps (· =g) w W8:=by rw[hW8];exact kset' (kset' (kset' (Keeps.refl _ _) _ _) _ _) _ _
 have s1:IntKind.i64.wrap (en+T)=en+T:=IntWalk.i64_in _ (by omega);have s2:IntKind.i64.wrap (en+T+s.ti)=en+T+s.ti:=IntWalk.i64_in _ (by omega);have s3:IntKind.i64.wrap (en+T+s.ti+C)=en+T+s.ti+C:=IntWalk.i64_in _ (by omega);have HL8:=bC l8;have HW8:=bC hW8;clear hl hC hT hW8 l8;go_enter Tryz.func75,Tryz.ntmps75;go_upto_region 9 with(first|(go_at_call 104;(with_reducible refine(bY en s.now 1152921504606846976 _ true V2).mono ?_);rintro r wi ⟨rfl,rfl⟩)|fail)
 rw[←HW8.out];clear c5 f5 c13 c14 c16 c18 f14 f16 f18;obtain⟨v,hv⟩:∃v:Value,v=.int .i64 (en+T+s.ti+C):=⟨_,rfl⟩
 have c0:∀W,SentS W8 g v W→W.cell? ⟨g,0,none⟩=some (.int .i64 s.b):=fun W h=>h.cell HL8.out 0 (by decide)
 have c1:∀W,SentS W8 g v W→W.cell? ⟨g,1,none⟩=some (.int .i64 s.p):=fun W h=>h.cell HL8.out 1 (by decide)
 have c3:∀W,SentS W8 g v W→W.cell? ⟨g,3,none⟩=some (.int .i64 s.ti):=fun W h=>h.cell HL8.out 3 (by decide)
 have c15:∀W,Below W8.heap.size W8 W→W.cell? ⟨g,15,none⟩=some (.int .i64 s.til):=fun W h=>(HL8.out.keep h).cell 15
 have f15:∀W,Below W8.heap.size W8 W→W.frozen? ⟨g,15,none⟩=false:=fun W h=>(HL8.out.keep h).free 15
 have kD:Below W8.heap.size W8 W8.drew:=(Below.refl _ _).drew;have kS:SentS W8 g v W8.drew:=.inl kD;have HR:∀X,Below W8.heap.size W8 X→SentS W8 g v (X.setCell ⟨g,15,none⟩ (.int .i64 (en+T+s.ti+C))):=fun X h=>.inr ⟨X,h,by rw[hv]⟩
 clear V2 hv;go_region_held3 (fun W=>SentS W8 g v W) ((with_reducible (first|exact kS|assumption|exact HR _ hBL))) (first
  |(go_at_call 128;(with_reducible refine(HCH.out W8.drew).mono ?_);rintro r w4 ⟨rfl,hb4⟩;have hB4:=bU kD hb4;have hS4:SentS W8 g v w4:=.inl hB4)
  |(go_at_call 125;(with_reducible refine(HT3.out W8.drew).mono ?_);rintro r w5 ⟨rfl,hb5⟩;have hB5:=bU kD hb5;have hS5:SentS W8 g v w5:=.inl hB5)
  |(go_at_call 128;(with_reducible refine(HCH.out w5).mono ?_);rintro r w4 ⟨rfl,hb4⟩;have hBL:=bU hB5 hb4;have hSL:SentS W8 g v w4:=.inl hBL;have z15:=c15 _ hBL;have y15:=f15 _ hBL)
  |(go_at_call 125;(with_reducible refine(HT3.out w4).mono ?_);rintro r w5 ⟨rfl,hb5⟩;have hBL:=bU hB4 hb5;have hSL:SentS W8 g v w5:=.inl hBL;have z15:=c15 _ hBL;have y15:=f15 _ hBL))
 all_goals
  have l9:LkAt _ g {s with cnt:=s.cnt+1,en:=en,la:=0,til:=en+T+s.ti+C}:=hpSetE (u:=.int .i64 (en+T+s.ti+C)) (i:=15) (HL8.out.keep hBL) rfl;have k9:Keeps (· =g) w _:=kset' (k8.trans (Keeps.of_below hBL) (fun _ _ h=>h)) 15 (.int .i64 (en+T+s.ti+C));have e0:=c0 _ (HR _ hBL);have e1:=c1 _ (HR _ hBL);clear c0 c1 c3 c15 f15 z15 y15 HR kS;go_wp2_with fail;refine(rxnew_ok s.b s.p hset _).mono ?_;rintro r w7 ⟨rg,rfl,hrg,hrx,hb7⟩;have l7:=l9.keep hb7;have k7:=k9.trans (Keeps.of_below hb7) (fun _ _ h=>h);have c17:w7.cell? ⟨g,17,none⟩=some s.rx:=bA l7 17;have f17:w7.frozen? ⟨g,17,none⟩=false:=bJ l7 17;have c5:w7.cell? ⟨g,5,none⟩=some (.int .i64 s.ph):=bA l7 5;have f5:w7.frozen? ⟨g,5,none⟩=false:=bJ l7 5;have hrg':w.heap.size≤rg:=by
   have h1:=k9.size;exact Nat.le_trans h1 hrg
  have HRX:=bC hrx;have HL7:=bC l7;clear e0 e1 l9 hrx hrg;go_wp2;go_ret;have hC:=HC.out;have hT:=HT.out;subst hC hT;refine⟨rg,rfl,hpSetE (hpSetE HL7.out rfl) rfl,hrg',?_,kset' (kset' k7 _ _) _ _⟩;exact bG HRX.out (F:=(· =g)) (kset' (kset' (Keeps.refl _ _) _ _) _ _) (fun h=>by have h':rg=g:=h;omega)
def intsV (l:List Int):List Value:=l.map (.int .i64)
structure SeenAt (w:World) (g:Nat) (s:Lk) (l:List Int):Prop where
 own:w.ownsRow (g+1) 3 1 (.slice s.sa s.sn s.sc) s.sn (intsV l)
 len:l.length=s.sn
theorem infoI:(Tryz.prog.info? 3).map (fun i=>(i.zero,i.size,i.bytes))=some (some (.int .i64 0),1,8):=by kernel_rfl
theorem SeenAt.apart {w:World} {g:Nat} {s:Lk} {l:List Int} (h:SeenAt w g s l):(Value.slice s.sa s.sn s.sc).ownBlock≠some g:=by
 intro e;have:=(h.own.lt g e).1;omega
def Lk.drains (s:Lk) (sa:Option Addr) (sc:Nat):Lk:={s with ph:=4,til:=(if s.til<s.en+s.dr then s.en+s.dr else s.til),sa:=sa,sn:=s.sn+1,sc:=sc}
def LkDrains (w:World) (g:Nat) (s:Lk) (l:List Int) (v:Int) (r:Ending) (w':World):Prop:=
 ∃(sa:Option Addr) (sc:Nat),r=.returned (.tuple #[])∧LkAt w' g (s.drains sa sc)∧SeenAt w' g (s.drains sa sc) (l++[v])∧NewOr w (.slice s.sa s.sn s.sc) (.slice sa (s.sn+1) sc)∧Keeps (fun j=>j=g∨(Value.slice s.sa s.sn s.sc).ownBlock=some j) w w'
theorem judged_bad (g:Nat) (s:Lk) (l:List Int) (v:Int) (w:World) (hl:LkAt w g s) (hs:SeenAt w g s l) (hv1:(v==1)=false) (hv2:(v==2)=false) (hn:s.sn≤1000) (he1:0≤s.en) (he2:s.en≤1152921504606846976) (hd1:0≤s.dr) (hd2:s.dr≤100000000):
  Calls Tryz.prog 106 #[.pointer (some ⟨g,0,none⟩),.agg #[.int .i64 v,.int .i64 0,.int .i64 0,.slice none 0 0,.int .i64 0,.int .i64 0,.bool false,.int .i64 0,.slice none 0 0]] w (LkDrains w g s l v):=by
 obtain⟨i5,hi,hz0,hz1,hz2⟩:=info_parts infoI;have hg:=hl.lt;obtain⟨W0,hW0⟩:∃W,w.alloc (.cells #[.int .i64 v,.int .i64 0,.int .i64 0,.slice none 0 0,.int .i64 0,.int .i64 0,.bool false,.int .i64 0,.slice none 0 0] 55)=W:=⟨_,rfl⟩
 have g0:W0.heap[w.heap.size]?=some (.cells #[.int .i64 v,.int .i64 0,.int .i64 0,.slice none 0 0,.int .i64 0,.int .i64 0,.bool false,.int .i64 0,.slice none 0 0] 55):=by rw[←hW0];exact bI w _
 have hb0:Below w.heap.size w W0:=by rw[←hW0];exact bH w _
 have hsz0:W0.heap.size=w.heap.size+1:=by rw[←hW0];simp
 have own0:W0.ownsRow (g+1) 3 1 (.slice s.sa s.sn s.sc) s.sn (intsV l):=by rw[←hW0];exact hs.own.alloc _
 have l0:=hl.keep hb0;have HL0:=bC l0;have HS:=bC hs;have HW0:=bC hW0;have x0:=cG g0 0 rfl;have c19:W0.cell? ⟨g,19,none⟩=some (.slice s.sa s.sn s.sc):=bA l0 19;have hgb:g+1≤W0.heap.size:=by omega
 have HSZ:=bC hsz0;clear hl hs hW0 hsz0;go_enter Tryz.func106,Tryz.ntmps106;go_upto_region 1 with(fail)
 rw[HW0.out];go_wp2;have OWN:=bC own0;have cA19:∀X,(W0.alloc X).cell? ⟨g,19,none⟩=some (.slice s.sa s.sn s.sc):=fun X=>(HL0.out.keep (bH _ X)).cell 19
 have W19:Hid ((W0.alloc (.cells #[.int .i64 v] 3)).cell? ⟨g,19,none⟩=some (.slice s.sa s.sn s.sc)):=(HL0.out.keep (bH _ _)).cell 19;have HAP:Hid (some g≠(Value.slice s.sa s.sn s.sc).ownBlock):=fun h=>HS.out.apart h.symm
 have HFZ:Hid (∀w2,(W0.alloc (.cells #[.int .i64 v] 3)).drew.grownBy w2 (Value.slice s.sa s.sn s.sc).ownBlock→w2.frozen? ⟨g,19,none⟩=false):=fun w2 h=>by
  have hb:w2.heap[g]?=(W0.alloc (.cells #[.int .i64 v] 3)).heap[g]?:=h.block g (by show g<(W0.alloc _).heap.size;simp;omega) HAP.out;exact bJ (hb.trans (HL0.out.keep (bH _ _))) 19
 go_region_law (refine step_appN rfl (.tmp 23) (.tmp 26) 58 rfl (g+1) 3 i5 (.int .i64 0) 1 8 Tryz.underlying58 hi hz0 hz1 hz2 rfl (by decide) (.slice s.sa s.sn s.sc) s.sn (intsV l) rfl (OWN.out.alloc _) ⟨W0.heap.size,0,none⟩ 1 1 [.int .i64 v] rfl rfl (newsNew W0 [.int .i64 v] _) (by intro u hu;simp at hu;subst hu;rfl) (by unfold maxLen;omega) (by omega) (by simp;omega) ?_;intro v' w2 hown hgr hnew;obtain⟨sa',sc',rfl⟩:=bN hown;have y19:w2.cell? ⟨g,19,none⟩=some (.slice s.sa s.sn s.sc):=hgr.cell (W19.out) HAP.out;have z19:=HFZ.out w2 hgr)
 all_goals
  have hb2:w2.heap[g]?=some (.cells s.cells 177):=(hgr.block g (by show g<(W0.alloc _).heap.size;simp;omega) HAP.out).trans (HL0.out.keep (bH _ _).drew);have l3:LkAt (w2.setCell ⟨g,19,none⟩ (.slice sa' (s.sn+1) sc')) g {s with sa:=sa',sn:=s.sn+1,sc:=sc'}:=hpSetE hb2 rfl;obtain⟨W3,hW3⟩:∃W,W=w2.setCell ⟨g,19,none⟩ (.slice sa' (s.sn+1) sc'):=⟨_,rfl⟩
  rw[←hW3] at l3 ⊢;have HL3:=bC l3;have HW3:=bC hW3;have c15:W3.cell? ⟨g,15,none⟩=some (.int .i64 s.til):=l3.cell 15;have c14:W3.cell? ⟨g,14,none⟩=some (.int .i64 s.en):=l3.cell 14;have c4:W3.cell? ⟨g,4,none⟩=some (.int .i64 s.dr):=l3.cell 4;have c5:W3.cell? ⟨g,5,none⟩=some (.int .i64 s.ph):=l3.cell 5;have f15:=l3.free 15;have f5:=l3.free 5;have s1:IntKind.i64.wrap (s.en+s.dr)=s.en+s.dr:=IntWalk.i64_in _ (by omega);obtain⟨M,hM⟩:∃M,(if s.til<s.en+s.dr then s.en+s.dr else s.til)=M:=⟨_,rfl⟩
  have HM:=bC hM;clear hb2 y19 z19 x0 c19 cA19 hW3 l3 W19;go_wp2;go_region
  all_goals
   go_wp2;go_end0;have hm:=HM.out;subst hm;have k1:Keeps (fun j=>j=g∨(Value.slice s.sa s.sn s.sc).ownBlock=some j) w W3:=by
    refine(Keeps.of_below (bU hb0 (bH W0 (.cells #[.int .i64 v] 3)).drew)).trans ?_ (fun _ _ h=>h);rw[HW3.out];exact(Keeps.of_grown (F:=fun j=>j=g∨(Value.slice s.sa s.sn s.sc).ownBlock=some j) hgr (fun k hk=>.inr hk)).set ⟨g,19,none⟩ _ (.inl rfl)
   have o1:W3.ownsRow (g+1) 3 1 (.slice sa' (s.sn+1) sc') (s.sn+1) (intsV (l++[v])):=by
    rw[HW3.out];have:intsV (l++[v])=intsV l++[.int .i64 v]:=by simp [intsV]
    rw[this];exact bF hown (setK (p:=g)) (fun k hk e=>by
     have h1:=(hown.lt k hk).1
     have h2:k=g:=e
     omega)
   have n1:NewOr w (.slice s.sa s.sn s.sc) (.slice sa' (s.sn+1) sc'):=by
    rcases hnew with h|⟨j,h,hj⟩
    ·exact .inl h
    ·refine .inr ⟨j,h,?_⟩
     have hj':(W0.alloc (.cells #[.int .i64 v] 3)).heap.size≤j:=hj;simp at hj';have:=HSZ.out;omega
   have HN1:=bC n1;have HO1:=bC o1;have HK1:=bC k1;clear c15 c14 c4 c5 f15 f5 s1 hM hown hgr hnew o1 k1 n1 OWN HFZ;refine⟨sa',sc',rfl,?_,⟨?_,?_⟩,HN1.out,?_⟩
   ·unfold LkAt
    first
     |exact hpDrewE (hpSetE (hpSetE HL3.out rfl) rfl)
     |exact hpSetE (hpSetE HL3.out rfl) rfl
   ·have hk2:∀k,(Value.slice sa' (s.sn+1) sc').ownBlock=some k→¬(fun j=>j=g) k:=fun k hk e=>by
     have h1:=(HO1.out.lt k hk).1;have h2:k=g:=e;omega
    first
     |exact bF HO1.out (kdrew (kset' (kset' (Keeps.refl _ _) _ _) _ _)) hk2
     |exact bF HO1.out (kset' (kset' (Keeps.refl _ _) _ _) _ _) hk2
   ·show (l++[v]).length=s.sn+1
    rw[List.length_append,HS.out.len];rfl
   ·first
     |exact HK1.out.trans (kdrew (kset' (kset' (Keeps.refl (· =g) W3) _ _) _ _)) (fun _ _ h=>.inl h)
     |exact HK1.out.trans (kset' (kset' (Keeps.refl (· =g) W3) _ _) _ _) (fun _ _ h=>.inl h)
theorem listens_yes (g:Nat) (s:Lk) (w:World) (hl:LkAt w g s) (hph:s.ph=2∨s.ph=3∨s.ph=4):
  Calls Tryz.prog 103 #[.pointer (some ⟨g,0,none⟩)] w fun r w'=>r=.returned (.bool true)∧w=w':=by
 have c5:w.cell? ⟨g,5,none⟩=some (.int .i64 2)∨w.cell? ⟨g,5,none⟩=some (.int .i64 3)∨w.cell? ⟨g,5,none⟩=some (.int .i64 4):=by
  rw[hl.cell 5];rcases hph with h|h|h
  ·left;simp [Lk.cells,h]
  ·right;left;simp [Lk.cells,h]
  ·right;right;simp [Lk.cells,h]
 clear hl hph;rcases c5 with c5|c5|c5
 all_goals
  go_enter Tryz.func103,Tryz.ntmps103;go_wp2;go_ret;exact⟨rfl,rfl⟩
def LkAgain (w:World) (g:Nat) (s':Lk) (r:Ending) (w':World):Prop:=r=.returned (.tuple #[])∧LkAt w' g s'∧Keeps (· =g) w w'
theorem repeat_more (g:Nat) (s:Lk) (w:World) (hl:LkAt w g s) (hc:s.cnt≤s.re):
  Calls Tryz.prog 110 #[.pointer (some ⟨g,0,none⟩)] w (LkAgain w g {s with ph:=1}):=by
 have c18:w.cell? ⟨g,18,none⟩=some (.int .i64 s.cnt):=hl.cell 18;have c2:w.cell? ⟨g,2,none⟩=some (.int .i64 s.re):=hl.cell 2;have d:decide (s.cnt≤s.re)=true:=decide_eq_true hc;have hn:∀n,LkAt (w.drewN n) g s:=fun n=>hl
 have c5:w.cell? ⟨g,5,none⟩=some (.int .i64 s.ph):=hl.cell 5;have f5:w.frozen? ⟨g,5,none⟩=false:=hl.free 5;clear hl;go_enter Tryz.func110,Tryz.ntmps110;go_wp2;go_quiet (fail);go_wp2
 all_goals
  refine bodyPost_ret (results_none rfl _ _ _) rfl ?_;exact⟨rfl,hpSetE (hn _) rfl,kset' (Keeps.of_below (below_drewN (Below.refl _ _) _)) _ _⟩
def sumV (l:List Int):Int:=if 4∈l then 4 else if 5∈l then 5 else 3
def BadL (l:List Int):Prop:=l≠[]∧∀v∈l,v=3∨v=4∨v=5
theorem Ns.own {w:World} {base:Nat} {E:TypeId} {v:Value} {l:List Int} {n:Nat} (h:w.ownsRow base E 1 v n (intsV l)) (hw:∀n∈l,(Lit.int .i64 n).wf=true):Ns w v l:=by
 obtain⟨hlen,h|⟨g,cap,cur,hv,hb,hh,hnc,hcm,hcs,ht⟩⟩:=h
 ·obtain ⟨rfl,rfl⟩:=h
  have:l=[]:=by simpa [intsV] using hlen
  subst this;exact Ns.nil w
 ·have hn:n=l.length:=by simpa [intsV] using hlen.symm
  subst hn;refine⟨⟨_,_,hv,hnc,hcm,fun h=>by simp at h,fun hl=>⟨g,0,rfl,fun i hi=>?_⟩⟩,hw⟩;simp only[World.cell?,hh,Nat.zero_add,Option.isSome_none];have h1:cur[i]?=(intsV l)[i]?:=take_get (by simpa using ht) i (by simpa [intsV] using hi);rw[h1];simp [intsV,List.getD,hi]
def Lk.silent (s:Lk) (v:Int):Lk:={s with ph:=5,o:=⟨v,Rp.zero⟩,da:=none,dn:=0,dc:=0,oa:=none,on:=0,oc:=0}
theorem silent_chain {W3:World} {g:Nat} {s:Lk} {v:Int} (h:LkAt W3 g {s with ph:=5}):LkAt (((((((((W3.setCell ⟨g,20,none⟩ (.int .i64 v)).setCell ⟨g,21,none⟩ (.int .i64 0)).setCell ⟨g,22,none⟩ (.int .i64 0)).setCell ⟨g,23,none⟩ (.slice none 0 0)).setCell ⟨g,24,none⟩ (.int .i64 0)).setCell ⟨g,25,none⟩ (.int .i64 0)).setCell ⟨g,26,none⟩ (.bool false)).setCell ⟨g,27,none⟩ (.int .i64 0)).setCell ⟨g,28,none⟩ (.slice none 0 0)) g (s.silent v):=by
 unfold LkAt;show _=some (Obj.cells #[.int .i64 s.b,.int .i64 s.p,.int .i64 s.re,.int .i64 s.ti,.int .i64 s.dr,.int .i64 5,.int .i64 s.un,.int .i64 s.q.fn,.int .i64 s.q.addr,.int .i64 s.q.qty,.int .i64 s.q.code,.int .i64 s.q.obj,.slice s.fa s.fn s.fc,.int .i64 s.now,.int .i64 s.en,.int .i64 s.til,.int .i64 s.la,s.rx,.int .i64 s.cnt,.slice s.sa s.sn s.sc,.int .i64 v,.int .i64 0,.int .i64 0,.slice none 0 0,.int .i64 0,.int .i64 0,.bool false,.int .i64 0,.slice none 0 0] 177);refine hpSetE (c:=#[.int .i64 s.b,.int .i64 s.p,.int .i64 s.re,.int .i64 s.ti,.int .i64 s.dr,.int .i64 5,.int .i64 s.un,.int .i64 s.q.fn,.int .i64 s.q.addr,.int .i64 s.q.qty,.int .i64 s.q.code,.int .i64 s.q.obj,.slice s.fa s.fn s.fc,.int .i64 s.now,.int .i64 s.en,.int .i64 s.til,.int .i64 s.la,s.rx,.int .i64 s.cnt,.slice s.sa s.sn s.sc,.int .i64 v,.int .i64 0,.int .i64 0,.slice none 0 0,.int .i64 0,.int .i64 0,.bool false,.int .i64 0,.slice s.oa s.on s.oc]) ?_ rfl;refine hpSetE (c:=#[.int .i64 s.b,.int .i64 s.p,.int .i64 s.re,.int .i64 s.ti,.int .i64 s.dr,.int .i64 5,.int .i64 s.un,.int .i64 s.q.fn,.int .i64 s.q.addr,.int .i64 s.q.qty,.int .i64 s.q.code,.int .i64 s.q.obj,.slice s.fa s.fn s.fc,.int .i64 s.now,.int .i64 s.en,.int .i64 s.til,.int .i64 s.la,s.rx,.int .i64 s.cnt,.slice s.sa s.sn s.sc,.int .i64 v,.int .i64 0,.int .i64 0,.slice none 0 0,.int .i64 0,.int .i64 0,.bool false,.int .i64 s.o.reply.next,.slice s.oa s.on s.oc]) ?_ rfl;refine hpSetE (c:=#[.int .i64 s.b,.int .i64 s.p,.int .i64 s.re,.int .i64 s.ti,.int .i64 s.dr,.int .i64 5,.int .i64 s.un,.int .i64 s.q.fn,.int .i64 s.q.addr,.int .i64 s.q.qty,.int .i64 s.q.code,.int .i64 s.q.obj,.slice s.fa s.fn s.fc,.int .i64 s.now,.int .i64 s.en,.int .i64 s.til,.int .i64 s.la,s.rx,.int .i64 s.cnt,.slice s.sa s.sn s.sc,.int .i64 v,.int .i64 0,.int .i64 0,.slice none 0 0,.int .i64 0,.int .i64 0,.bool s.o.reply.more,.int .i64 s.o.reply.next,.slice s.oa s.on s.oc]) ?_ rfl;refine hpSetE (c:=#[.int .i64 s.b,.int .i64 s.p,.int .i64 s.re,.int .i64 s.ti,.int .i64 s.dr,.int .i64 5,.int .i64 s.un,.int .i64 s.q.fn,.int .i64 s.q.addr,.int .i64 s.q.qty,.int .i64 s.q.code,.int .i64 s.q.obj,.slice s.fa s.fn s.fc,.int .i64 s.now,.int .i64 s.en,.int .i64 s.til,.int .i64 s.la,s.rx,.int .i64 s.cnt,.slice s.sa s.sn s.sc,.int .i64 v,.int .i64 0,.int .i64 0,.slice none 0 0,.int .i64 0,.int .i64 s.o.reply.level,.bool s.o.reply.more,.int .i64 s.o.reply.next,.slice s.oa s.on s.oc]) ?_ rfl;refine hpSetE (c:=#[.int .i64 s.b,.int .i64 s.p,.int .i64 s.re,.int .i64 s.ti,.int .i64 s.dr,.int .i64 5,.int .i64 s.un,.int .i64 s.q.fn,.int .i64 s.q.addr,.int .i64 s.q.qty,.int .i64 s.q.code,.int .i64 s.q.obj,.slice s.fa s.fn s.fc,.int .i64 s.now,.int .i64 s.en,.int .i64 s.til,.int .i64 s.la,s.rx,.int .i64 s.cnt,.slice s.sa s.sn s.sc,.int .i64 v,.int .i64 0,.int .i64 0,.slice none 0 0,.int .i64 s.o.reply.code,.int .i64 s.o.reply.level,.bool s.o.reply.more,.int .i64 s.o.reply.next,.slice s.oa s.on s.oc]) ?_ rfl;refine hpSetE (c:=#[.int .i64 s.b,.int .i64 s.p,.int .i64 s.re,.int .i64 s.ti,.int .i64 s.dr,.int .i64 5,.int .i64 s.un,.int .i64 s.q.fn,.int .i64 s.q.addr,.int .i64 s.q.qty,.int .i64 s.q.code,.int .i64 s.q.obj,.slice s.fa s.fn s.fc,.int .i64 s.now,.int .i64 s.en,.int .i64 s.til,.int .i64 s.la,s.rx,.int .i64 s.cnt,.slice s.sa s.sn s.sc,.int .i64 v,.int .i64 0,.int .i64 0,.slice s.da s.dn s.dc,.int .i64 s.o.reply.code,.int .i64 s.o.reply.level,.bool s.o.reply.more,.int .i64 s.o.reply.next,.slice s.oa s.on s.oc]) ?_ rfl;refine hpSetE (c:=#[.int .i64 s.b,.int .i64 s.p,.int .i64 s.re,.int .i64 s.ti,.int .i64 s.dr,.int .i64 5,.int .i64 s.un,.int .i64 s.q.fn,.int .i64 s.q.addr,.int .i64 s.q.qty,.int .i64 s.q.code,.int .i64 s.q.obj,.slice s.fa s.fn s.fc,.int .i64 s.now,.int .i64 s.en,.int .i64 s.til,.int .i64 s.la,s.rx,.int .i64 s.cnt,.slice s.sa s.sn s.sc,.int .i64 v,.int .i64 0,.int .i64 s.o.reply.exc,.slice s.da s.dn s.dc,.int .i64 s.o.reply.code,.int .i64 s.o.reply.level,.bool s.o.reply.more,.int .i64 s.o.reply.next,.slice s.oa s.on s.oc]) ?_ rfl;refine hpSetE (c:=#[.int .i64 s.b,.int .i64 s.p,.int .i64 s.re,.int .i64 s.ti,.int .i64 s.dr,.int .i64 5,.int .i64 s.un,.int .i64 s.q.fn,.int .i64 s.q.addr,.int .i64 s.q.qty,.int .i64 s.q.code,.int .i64 s.q.obj,.slice s.fa s.fn s.fc,.int .i64 s.now,.int .i64 s.en,.int .i64 s.til,.int .i64 s.la,s.rx,.int .i64 s.cnt,.slice s.sa s.sn s.sc,.int .i64 v,.int .i64 s.o.reply.fn,.int .i64 s.o.reply.exc,.slice s.da s.dn s.dc,.int .i64 s.o.reply.code,.int .i64 s.o.reply.level,.bool s.o.reply.more,.int .i64 s.o.reply.next,.slice s.oa s.on s.oc]) ?_ rfl;refine hpSetE (c:=#[.int .i64 s.b,.int .i64 s.p,.int .i64 s.re,.int .i64 s.ti,.int .i64 s.dr,.int .i64 5,.int .i64 s.un,.int .i64 s.q.fn,.int .i64 s.q.addr,.int .i64 s.q.qty,.int .i64 s.q.code,.int .i64 s.q.obj,.slice s.fa s.fn s.fc,.int .i64 s.now,.int .i64 s.en,.int .i64 s.til,.int .i64 s.la,s.rx,.int .i64 s.cnt,.slice s.sa s.sn s.sc,.int .i64 s.o.verdict,.int .i64 s.o.reply.fn,.int .i64 s.o.reply.exc,.slice s.da s.dn s.dc,.int .i64 s.o.reply.code,.int .i64 s.o.reply.level,.bool s.o.reply.more,.int .i64 s.o.reply.next,.slice s.oa s.on s.oc]) ?_ rfl;exact h
theorem silent_keeps {w W3:World} {g:Nat} {v:Int} (h:Keeps (· =g) w W3):Keeps (· =g) w (((((((((W3.setCell ⟨g,20,none⟩ (.int .i64 v)).setCell ⟨g,21,none⟩ (.int .i64 0)).setCell ⟨g,22,none⟩ (.int .i64 0)).setCell ⟨g,23,none⟩ (.slice none 0 0)).setCell ⟨g,24,none⟩ (.int .i64 0)).setCell ⟨g,25,none⟩ (.int .i64 0)).setCell ⟨g,26,none⟩ (.bool false)).setCell ⟨g,27,none⟩ (.int .i64 0)).setCell ⟨g,28,none⟩ (.slice none 0 0)):=by
 have k0:=kset' h 20 (.int .i64 v);have k1:=kset' k0 21 (.int .i64 0);have k2:=kset' k1 22 (.int .i64 0);have k3:=kset' k2 23 (.slice none 0 0);have k4:=kset' k3 24 (.int .i64 0);have k5:=kset' k4 25 (.int .i64 0);have k6:=kset' k5 26 (.bool false);have k7:=kset' k6 27 (.int .i64 0);have k8:=kset' k7 28 (.slice none 0 0);exact k8
theorem repeat_done (g:Nat) (s:Lk) (l:List Int) (w:World) (hl:LkAt w g s) (hs:SeenAt w g s l) (hb:BadL l) (hc:¬s.cnt≤s.re):
  Calls Tryz.prog 110 #[.pointer (some ⟨g,0,none⟩)] w (LkAgain w g (s.silent (sumV l))):=by
 have c18:w.cell? ⟨g,18,none⟩=some (.int .i64 s.cnt):=hl.cell 18;have c2:w.cell? ⟨g,2,none⟩=some (.int .i64 s.re):=hl.cell 2;have d:decide (s.cnt≤s.re)=false:=decide_eq_false hc;have hn:∀n,LkAt (w.drewN n) g s:=fun n=>hl
 have c5:w.cell? ⟨g,5,none⟩=some (.int .i64 s.ph):=hl.cell 5;have f5:w.frozen? ⟨g,5,none⟩=false:=hl.free 5;have HNS:Hid (Ns w (.slice s.sa s.sn s.sc) l):=Ns.own hs.own (fun v hv=>by rcases hb.2 v hv with rfl|rfl|rfl<;>rfl);have hg:=hl.lt;have HS:=bC hs;have HB:=bC hb;clear hl hs hc hb;go_enter Tryz.func110,Tryz.ntmps110;go_wp2;go_quiet (fail);go_wp2;obtain⟨W3,hW3⟩:∃W,W=((w.drewN nq).setCell ⟨g,5,none⟩ (.int .i64 5)).alloc (.cells #[.int .i64 4,.int .i64 5,.int .i64 3] 3):=⟨_,rfl⟩
 rw[←hW3];have l3:LkAt W3 g {s with ph:=5}:=by
  rw[hW3];exact LkAt.keep (hpSetE (hn nq) rfl) (bH _ _)
 have k3:Keeps (· =g) w W3:=by
  rw[hW3];exact(kset' (Keeps.of_below (below_drewN (Below.refl _ _) _)) 5 _).trans (Keeps.of_below (bH _ _)) (fun _ _ h=>h)
 have p3:W3.heap[w.heap.size]?=some (.cells #[.int .i64 4,.int .i64 5,.int .i64 3] 3):=by
  rw[hW3];have h:=bI ((w.drewN nq).setCell ⟨g,5,none⟩ (.int .i64 5)) (.cells #[.int .i64 4,.int .i64 5,.int .i64 3] 3);have e:((w.drewN nq).setCell ⟨g,5,none⟩ (.int .i64 5)).heap.size=w.heap.size:=by simp
  rw[e] at h;exact h
 have x0:=cG p3 0 rfl;have x1:=cG p3 1 rfl;have x2:=cG p3 2 rfl;have own3:=bF HS.out.own k3 (fun k hk e=>by
  have h1:=(HS.out.own.lt k hk).1
  have h2:k=g:=e
  omega)
 have HN3:Hid (Ns W3 (.slice s.sa s.sn s.sc) l):=Ns.own own3 (fun v hv=>by rcases HB.out.2 v hv with rfl|rfl|rfl<;>rfl);have c19:W3.cell? ⟨g,19,none⟩=some (.slice s.sa s.sn s.sc):=l3.cell 19;have c20:W3.cell? ⟨g,20,none⟩=some (.int .i64 s.o.verdict):=bA l3 20;have f20:W3.frozen? ⟨g,20,none⟩=false:=bJ l3 20;have c21:W3.cell? ⟨g,21,none⟩=some (.int .i64 s.o.reply.fn):=bA l3 21;have f21:W3.frozen? ⟨g,21,none⟩=false:=bJ l3 21;have c22:W3.cell? ⟨g,22,none⟩=some (.int .i64 s.o.reply.exc):=bA l3 22;have f22:W3.frozen? ⟨g,22,none⟩=false:=bJ l3 22;have c23:W3.cell? ⟨g,23,none⟩=some (.slice s.da s.dn s.dc):=bA l3 23;have f23:W3.frozen? ⟨g,23,none⟩=false:=bJ l3 23;have c24:W3.cell? ⟨g,24,none⟩=some (.int .i64 s.o.reply.code):=bA l3 24;have f24:W3.frozen? ⟨g,24,none⟩=false:=bJ l3 24;have c25:W3.cell? ⟨g,25,none⟩=some (.int .i64 s.o.reply.level):=bA l3 25;have f25:W3.frozen? ⟨g,25,none⟩=false:=bJ l3 25;have c26:W3.cell? ⟨g,26,none⟩=some (.bool s.o.reply.more):=bA l3 26;have f26:W3.frozen? ⟨g,26,none⟩=false:=bJ l3 26;have c27:W3.cell? ⟨g,27,none⟩=some (.int .i64 s.o.reply.next):=bA l3 27;have f27:W3.frozen? ⟨g,27,none⟩=false:=bJ l3 27;have c28:W3.cell? ⟨g,28,none⟩=some (.slice s.oa s.on s.oc):=bA l3 28;have f28:W3.frozen? ⟨g,28,none⟩=false:=bJ l3 28;have HL3:=bC l3;have HK3:=bC k3;have hany:∀x:Int,(l.any (fun y=>decide (x=y))=true)↔x∈l:=by
  intro x;rw[List.any_eq_true];exact⟨fun ⟨y,hy,h⟩=>by rw[of_decide_eq_true h];exact hy,fun h=>⟨x,h,decide_eq_true rfl⟩⟩
 have HANY:=bC hany;clear hW3 l3 k3 p3 own3 hany c18 c2 c5 f5 hn HNS;go_loop [21] (fun i=>∃k:Nat,k≤2∧i=.int .i64 k∧Hid ((1≤k→¬4∈l)∧(2≤k→¬5∈l))) (fun i=>3- (intOf i).toNat)
 case atStart=>exact⟨0,by omega,rfl,(fun h=>absurd h (by decide)),(fun h=>absurd h (by decide))⟩
 case round=>
  obtain⟨k,hk,rfl,hno⟩:=hrel;rcases (show k=0∨k=1∨k=2 by omega) with rfl|rfl|rfl
  ·obtain ⟨V,hV⟩:∃V,l.any (fun y=>decide ((4:Int)=y))=V:=⟨_,rfl⟩
   have HV:=bC hV;have HC:=bC (contI_any _ l 4 W3 HN3.out V HV);clear hV;go_wp2_with fail;refine HC.out.mono ?_;rintro r w4 ⟨rfl,rfl⟩;cases V with
   |true=>
    have HE:Hid (sumV l=4):=if_pos ((HANY.out 4).1 HV.out);go_wp2;refine bodyPost_ret (results_none rfl _ _ _) rfl ?_;rw[HE.out];exact⟨rfl,silent_chain HL3.out,silent_keeps HK3.out⟩
   |false=>
    have HX:Hid (¬4∈l):=fun h=>by have:=(HANY.out 4).2 h;rw[HV.out] at this;cases this
    go_wp2;go_round
    case rel=>exact⟨1,by omega,rfl,(fun _=>HX.out),(fun h=>absurd h (by decide))⟩
    case measure=>simp [intOf]
  ·obtain ⟨V,hV⟩:∃V,l.any (fun y=>decide ((5:Int)=y))=V:=⟨_,rfl⟩
   have HV:=bC hV;have HC:=bC (contI_any _ l 5 W3 HN3.out V HV);clear hV;go_wp2_with fail;refine HC.out.mono ?_;rintro r w4 ⟨rfl,rfl⟩;cases V with
   |true=>
    have HE:Hid (sumV l=5):=by
     have h1:=(HANY.out 5).1 HV.out;have h2:=hno.out;show sumV l=_;unfold sumV;rw[if_neg (h2.1 (by decide)),if_pos h1]
    go_wp2;refine bodyPost_ret (results_none rfl _ _ _) rfl ?_;rw[HE.out];exact⟨rfl,silent_chain HL3.out,silent_keeps HK3.out⟩
   |false=>
    have HX:Hid (¬5∈l):=fun h=>by have:=(HANY.out 5).2 h;rw[HV.out] at this;cases this
    have H4:=bC (hno.out.1 (by decide));go_wp2;go_round
    case rel=>exact⟨2,by omega,rfl,(fun _=>H4.out),(fun _=>HX.out)⟩
    case measure=>simp [intOf]
  ·obtain ⟨V,hV⟩:∃V,l.any (fun y=>decide ((3:Int)=y))=V:=⟨_,rfl⟩
   have HV:=bC hV;have HC:=bC (contI_any _ l 3 W3 HN3.out V HV);clear hV;go_wp2_with fail;refine HC.out.mono ?_;rintro r w4 ⟨rfl,rfl⟩;cases V with
   |true=>
    have HE:Hid (sumV l=3):=by
     have h1:=(HANY.out 3).1 HV.out;have h2:=hno.out;show sumV l=_;unfold sumV;rw[if_neg (h2.1 (by decide)),if_neg (h2.2 (by decide))]
    go_wp2;refine bodyPost_ret (results_none rfl _ _ _) rfl ?_;rw[HE.out];exact⟨rfl,silent_chain HL3.out,silent_keeps HK3.out⟩
   |false=>
    exfalso;obtain⟨y,hy⟩:=List.exists_mem_of_ne_nil l HB.out.1;have h2:=hno.out;rcases HB.out.2 y hy with rfl|rfl|rfl
    ·have:=(HANY.out 3).2 hy;rw[HV.out] at this;cases this
    ·exact h2.1 (by decide) hy
    ·exact h2.2 (by decide) hy
def LkDrained (w:World) (g:Nat) (s:Lk) (l:List Int) (v:Int) (r:Ending) (w':World):Prop:=
 ∃(sa:Option Addr) (sc:Nat),r=.returned (.int .i64 0)∧LkAt w' g (s.drains sa sc)∧SeenAt w' g (s.drains sa sc) (l++[v])∧NewOr w (.slice s.sa s.sn s.sc) (.slice sa (s.sn+1) sc)∧Keeps (fun j=>j=g∨(Value.slice s.sa s.sn s.sc).ownBlock=some j) w w'
theorem silence_wait (g:Nat) (s:Lk) (l:List Int) (w:World) (hl:LkAt w g s) (hs:SeenAt w g s l) (hph:s.ph=2) (hn:s.sn≤1000) (he1:0≤s.en) (he2:s.en≤1152921504606846976) (hd1:0≤s.dr) (hd2:s.dr≤100000000):
  Calls Tryz.prog 63 #[.pointer (some ⟨g,0,none⟩)] w (LkDrained w g s l 3):=by
 have HJ:=bC (judged_bad g s l 3 w hl hs rfl rfl hn he1 he2 hd1 hd2);have HLI:=bC (listens_yes g s w hl (.inl hph));have c5:w.cell? ⟨g,5,none⟩=some (.int .i64 2):=by rw[hl.cell 5];simp [Lk.cells,hph]
 clear hl hs hph hn he1 he2 hd1 hd2;go_enter Tryz.func63,Tryz.ntmps63;go_wp2_with (first|(go_at_call 103;(with_reducible refine HLI.out.mono ?_);rintro r w1 ⟨rfl,rfl⟩)|(go_at_call 106;(with_reducible refine HJ.out.mono ?_);rintro r w2 ⟨sa,sc,rfl,hl2,hs2,hn2,hk2⟩));go_ret;exact⟨sa,sc,rfl,hl2,hs2,hn2,hk2⟩
def LkAgainE (w:World) (g:Nat) (s':Lk) (r:Ending) (w':World):Prop:=r=.returned (.int .i64 0)∧LkAt w' g s'∧Keeps (· =g) w w'
theorem silence_more (g:Nat) (s:Lk) (w:World) (hl:LkAt w g s) (hph:s.ph=4) (hc:s.cnt≤s.re):
  Calls Tryz.prog 63 #[.pointer (some ⟨g,0,none⟩)] w (LkAgainE w g {s with now:=s.til,ph:=1}):=by
 have l1:LkAt (w.setCell ⟨g,13,none⟩ (.int .i64 s.til)) g {s with now:=s.til}:=hpSetE hl rfl;have HR:=bC (repeat_more g _ _ l1 hc);have HLI:=bC (listens_yes g s w hl (.inr (.inr hph)));have c5:w.cell? ⟨g,5,none⟩=some (.int .i64 4):=by rw[hl.cell 5];simp [Lk.cells,hph]
 have c15:w.cell? ⟨g,15,none⟩=some (.int .i64 s.til):=hl.cell 15;have c13:w.cell? ⟨g,13,none⟩=some (.int .i64 s.now):=hl.cell 13;have f13:=hl.free 13;have HK:Hid (Keeps (· =g) w (w.setCell ⟨g,13,none⟩ (.int .i64 s.til))):=kset' (Keeps.refl _ _) _ _;clear hl hph hc l1;go_enter Tryz.func63,Tryz.ntmps63;go_wp2_with (first|(go_at_call 103;(with_reducible refine HLI.out.mono ?_);rintro r w1 ⟨rfl,rfl⟩)|(go_at_call 110;(with_reducible refine HR.out.mono ?_);rintro r w2 ⟨rfl,hl2,hk2⟩));go_ret;exact⟨rfl,hl2,HK.out.trans hk2 (fun _ _ h=>h)⟩
theorem silence_done (g:Nat) (s:Lk) (l:List Int) (w:World) (hl:LkAt w g s) (hs:SeenAt w g s l) (hb:BadL l) (hph:s.ph=4) (hc:¬s.cnt≤s.re):
  Calls Tryz.prog 63 #[.pointer (some ⟨g,0,none⟩)] w (LkAgainE w g (Lk.silent {s with now:=s.til} (sumV l))):=by
 have l1:LkAt (w.setCell ⟨g,13,none⟩ (.int .i64 s.til)) g {s with now:=s.til}:=hpSetE hl rfl;have hk:Keeps (· =g) w (w.setCell ⟨g,13,none⟩ (.int .i64 s.til)):=kset' (Keeps.refl _ _) _ _;have hs1:SeenAt (w.setCell ⟨g,13,none⟩ (.int .i64 s.til)) g {s with now:=s.til} l:=⟨bF hs.own hk (fun k hk e=>by
  have h1:=(hs.own.lt k hk).1
  have h2:k=g:=e
  omega),hs.len⟩
 have HR:=bC (repeat_done g _ l _ l1 hs1 hb hc);have HLI:=bC (listens_yes g s w hl (.inr (.inr hph)));have c5:w.cell? ⟨g,5,none⟩=some (.int .i64 4):=by rw[hl.cell 5];simp [Lk.cells,hph]
 have c15:w.cell? ⟨g,15,none⟩=some (.int .i64 s.til):=hl.cell 15;have c13:w.cell? ⟨g,13,none⟩=some (.int .i64 s.now):=hl.cell 13;have f13:=hl.free 13;have HK:=bC hk;clear hl hph hc l1 hs hs1 hb hk;go_enter Tryz.func63,Tryz.ntmps63;go_wp2_with (first|(go_at_call 103;(with_reducible refine HLI.out.mono ?_);rintro r w1 ⟨rfl,rfl⟩)|(go_at_call 110;(with_reducible refine HR.out.mono ?_);rintro r w2 ⟨rfl,hl2,hk2⟩));go_ret;exact⟨rfl,hl2,HK.out.trans hk2 (fun _ _ h=>h)⟩
def LkAct (w:World) (s:Lk) (F:List UInt8) (r:Ending) (w':World):Prop:=
 ∃(a:Option Addr) (c:Nat),r=.returned (.agg #[.int .i64 1,.int .i64 s.now,.slice a F.length c])∧Bs w' (.slice a F.length c) F∧Below w.heap.size w w'
def ActS (W1:World) (p:Nat) (t:Int) (W:World):Prop:=Below W1.heap.size W1 W∨∃X a n c,Below W1.heap.size W1 X∧W=((X.setCell ⟨p,0,none⟩ (.int .i64 1)).setCell ⟨p,1,none⟩ (.int .i64 t)).setCell ⟨p,2,none⟩ (.slice a n c)
theorem ActS.cell {W1 W:World} {g p:Nat} {t:Int} {s:Lk} (h:ActS W1 p t W) (hl:LkAt W1 g s) (hg:g≠p) (i:Nat):W.cell? ⟨g,i,none⟩=s.cells[i]?:=by
 rcases h with h|⟨X,a,n,c,h,rfl⟩
 ·exact (hl.keep h).cell i
 ·have hk:Keeps (· =p) X (((X.setCell ⟨p,0,none⟩ (.int .i64 1)).setCell ⟨p,1,none⟩ (.int .i64 t)).setCell ⟨p,2,none⟩ (.slice a n c)):=kset' (kset' (kset' (Keeps.refl _ _) _ _) _ _) _ _
  exact((hl.keep h).keeps hk hg).cell i
theorem action_send (g:Nat) (s:Lk) (F:List UInt8) (w:World) (hl:LkAt w g s) (hph:s.ph=1) (hfr:Bs w (.slice s.fa s.fn s.fc) F) (hF:F.length≤1000):
  Calls Tryz.prog 61 #[.pointer (some ⟨g,0,none⟩)] w (LkAct w s F):=by
 have hg:=hl.lt;obtain⟨W1,hW1,hb1,g1⟩:=alQ w (.cells #[.int .i64 0,.int .i64 0,.slice none 0 0] 136);have l1:=hl.keep hb1;have c5:W1.cell? ⟨g,5,none⟩=some (.int .i64 1):=by rw[l1.cell 5];simp [Lk.cells,hph]
 have hgp:g≠w.heap.size:=by omega
 have c13:∀W,ActS W1 w.heap.size s.now W→W.cell? ⟨g,13,none⟩=some (.int .i64 s.now):=fun W h=>h.cell l1 hgp 13
 have c12:∀W,ActS W1 w.heap.size s.now W→W.cell? ⟨g,12,none⟩=some (.slice s.fa s.fn s.fc):=fun W h=>h.cell l1 hgp 12
 have kD:Below W1.heap.size W1 W1.drew:=(Below.refl _ _).drew;have kS:ActS W1 w.heap.size s.now W1.drew:=.inl kD;have HCL:Hid (∀W,Below W1.heap.size W1 W→Calls Tryz.prog 80 #[.slice s.fa s.fn s.fc] W fun r w'=>∃a c,r=.returned (.slice a F.length c)∧w'.ownsRow W.heap.size 5 1 (.slice a F.length c) F.length (u8s F)∧Below W.heap.size W w'):=fun W hW=>by
  refine(cL _ F W ((hfr.keep hb1).keep hW) (by omega)).mono ?_;rintro r w' ⟨v',rfl,hown,hb⟩;obtain⟨a,c,rfl⟩:=bN hown;exact⟨a,c,rfl,hown,hb⟩
 have HR:∀X a n c,Below W1.heap.size W1 X→ActS W1 w.heap.size s.now (((X.setCell ⟨w.heap.size,0,none⟩ (.int .i64 1)).setCell ⟨w.heap.size,1,none⟩ (.int .i64 s.now)).setCell ⟨w.heap.size,2,none⟩ (.slice a n c)):=fun X a n c h=>.inr ⟨X,a,n,c,h,rfl⟩
 have HW1:=bC hW1;have HB1:=bC hb1;have G1:=bC g1;clear hl hph hfr hW1 hb1 l1 g1 hF;go_enter Tryz.func61,Tryz.ntmps61;go_upto_region 1 with(fail)
 rw[HW1.out];go_wp2;go_region_held3 (fun W=>ActS W1 w.heap.size s.now W) ((with_reducible (first|exact kS|assumption|exact HR _ _ _ _ hBL))) ((go_at_call 80;(with_reducible refine(HCL.out W1.drew kD).mono ?_);rintro r w2 ⟨a,c,rfl,hown,hb2⟩;have hBL:=bU kD hb2;have hSL:ActS W1 w.heap.size s.now w2:=.inl hBL;have gz:=bB G1.out hBL;have z0:=bA gz 0;have z1:=bA gz 1;have z2:=bA gz 2;have y0:=bJ gz 0;have y1:=bJ gz 1;have y2:=bJ gz 2));have m3:=bX (bX (bX gz 0 (.int .i64 1)) 1 (.int .i64 s.now)) 2 (.slice a F.length c);obtain⟨q0,q1,q2⟩:(((w2.setCell ⟨w.heap.size,0,none⟩ (.int .i64 1)).setCell ⟨w.heap.size,1,none⟩ (.int .i64 s.now)).setCell ⟨w.heap.size,2,none⟩ (.slice a F.length c)).cell? ⟨w.heap.size,0,none⟩=some (.int .i64 1)∧(((w2.setCell ⟨w.heap.size,0,none⟩ (.int .i64 1)).setCell ⟨w.heap.size,1,none⟩ (.int .i64 s.now)).setCell ⟨w.heap.size,2,none⟩ (.slice a F.length c)).cell? ⟨w.heap.size,1,none⟩=some (.int .i64 s.now)∧(((w2.setCell ⟨w.heap.size,0,none⟩ (.int .i64 1)).setCell ⟨w.heap.size,1,none⟩ (.int .i64 s.now)).setCell ⟨w.heap.size,2,none⟩ (.slice a F.length c)).cell? ⟨w.heap.size,2,none⟩=some (.slice a F.length c):=⟨bA m3 0,bA m3 1,bA m3 2⟩
 obtain⟨W5,hW5⟩:∃W,W=((w2.setCell ⟨w.heap.size,0,none⟩ (.int .i64 1)).setCell ⟨w.heap.size,1,none⟩ (.int .i64 s.now)).setCell ⟨w.heap.size,2,none⟩ (.slice a F.length c):=⟨_,rfl⟩
 rw[←hW5] at q0 q1 q2 ⊢;have HW5:=bC hW5;have hlt:w.heap.size<W1.heap.size:=(Array.getElem?_eq_some_iff.1 G1.out).1;clear hW5 m3 z0 z1 z2 y0 y1 y2 gz c13 c12 HR;go_wp2;refine bodyPost_ret (v:=.agg #[.int .i64 1,.int .i64 s.now,.slice a F.length c]) (by simp [results,Tryz.results61,go_sem,q0,q1,q2]) rfl ?_;have hk:Keeps (· =w.heap.size) w2 W5:=by rw[HW5.out];exact kset' (kset' (kset' (Keeps.refl _ _) _ _) _ _) _ _
 refine⟨a,c,rfl,?_,?_⟩
 ·exact (Bs.own hown).keepF hk (fun ad had e=>by
   have h1:=(hown.lt ad.block (by rw[had];rfl)).1
   have h2:ad.block=w.heap.size:=e
   have h3:W1.heap.size≤ad.block:=h1
   omega)
 ·have hbw:=bU HB1.out hBL
  exact hbw.trans (hk.below hbw.size (fun k hk e=>by omega))
abbrev bL:=@kset'
abbrev bS:=@hpSetE
end Go.Proofs.YtoaoejaodhedaaaGreat
