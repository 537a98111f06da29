import Derived.Test.YtoaoejaodhedaaaGreatT23
namespace Go.Proofs.YtoaoejaodhedaaaGreat
open Go.RowKit
open Value renaming slice→J,int→U
open Option renaming none→M,some→N
open IntKind renaming i64→Z
open Obj renaming cells→Y
set_option maxHeartbeats 6400000
set_option maxRecDepth 100000
variable {c g n:Nat} {a:Option Addr} {w w':World}
structure Rx where
 ch:Int
 t15:Int
 t35:Int
 bs:List UInt8
 f1:Int
 f2:Int
 fl:Int
 act:Bool
 la:Int
 id:Int
def Rx.cells (x:Rx) (a:Option Addr) (n c:Nat):Array Value:=
 #[U Z x.ch,U Z x.t15,U Z x.t35,J a n c,U Z x.f1,U Z x.f2,U Z x.fl,.bool x.act,U Z x.la,U Z x.id]
def RxAt (w:World) (g:Nat) (x:Rx) (a:Option Addr) (n c:Nat):Prop:=w.heap[g]?=N (Y (x.cells a n c) 209)
theorem RxAt.ah {x:Rx} (h:RxAt w g x a n c) (b:Below w.heap.size w w'):RxAt w' g x a n c:=hpKeep h b
theorem RxAt.keeps {F:Nat→Prop} {x:Rx} (h:RxAt w g x a n c) (d:Keeps F w w') (b:¬F g):RxAt w' g x a n c:=hpKeeps h d b
theorem RxAt.cell {x:Rx} (h:RxAt w g x a n c) (i:Nat):w.cell? ⟨g,i,M⟩=(x.cells a n c)[i]?:=hpCell h i
theorem RxAt.free {x:Rx} (h:RxAt w g x a n c) (i:Nat):w.frozen? ⟨g,i,M⟩=false:=hpFree h i
theorem RxAt.lt {x:Rx} (h:RxAt w g x a n c):g<w.heap.size:=hpLt h
def Rx.empty (x:Rx):Rx:={x with bs:=[],f1:=0,f2:=0,fl:=0,act:=false}
def LN (w:World) (g:Nat) (x:Rx) (a:Option Addr) (n c:Nat) (r:Ending) (w':World):Prop:=
 r=.returned (.agg #[J a n c,U Z x.f1,U Z x.f2,U Z x.fl])∧RxAt w' g x.empty none 0 0∧Keeps (· =g) w w'
theorem qm (g:Nat) (x:Rx) (a:Option Addr) (n c:Nat) (w:World) (b:RxAt w g x a n c):
  Calls Tryz.prog 144 #[.pointer (N ⟨g,0,M⟩)] w (LN w g x a n c):=by
 have e:=b.lt;have c3:w.cell? ⟨g,3,M⟩=N (J a n c):=b.cell 3;have c4:w.cell? ⟨g,4,M⟩=N (U Z x.f1):=b.cell 4;have j:w.cell? ⟨g,5,M⟩=N (U Z x.f2):=b.cell 5;have i:w.cell? ⟨g,6,M⟩=N (U Z x.fl):=b.cell 6;have f:w.cell? ⟨g,7,M⟩=N (.bool x.act):=b.cell 7;have f3:w.frozen? ⟨g,3,M⟩=false:=b.free 3;have f4:w.frozen? ⟨g,4,M⟩=false:=b.free 4;have f5:w.frozen? ⟨g,5,M⟩=false:=b.free 5;have f6:w.frozen? ⟨g,6,M⟩=false:=b.free 6;have f7:w.frozen? ⟨g,7,M⟩=false:=b.free 7;have d:=hid b;clear b;go_enter Tryz.func144,Tryz.ntmps144;go_wp2;refine bodyPost_ret (v:=.agg #[J a n c,U Z x.f1,U Z x.f2,U Z x.fl]) (by simp [results,Tryz.results144,go_sem]) rfl ?_;refine⟨rfl,?_,?_⟩
 ·refine RxAt.ah (RxAt.ah ?_ (bal' _ _)) (bal' _ _)
  refine hpSetE (c:=#[U Z x.ch,U Z x.t15,U Z x.t35,J none 0 0,U Z 0,U Z 0,U Z 0,.bool x.act,U Z x.la,U Z x.id]) ?_ rfl;refine hpSetE (c:=#[U Z x.ch,U Z x.t15,U Z x.t35,J none 0 0,U Z 0,U Z 0,U Z x.fl,.bool x.act,U Z x.la,U Z x.id]) ?_ rfl;refine hpSetE (c:=#[U Z x.ch,U Z x.t15,U Z x.t35,J none 0 0,U Z 0,U Z x.f2,U Z x.fl,.bool x.act,U Z x.la,U Z x.id]) ?_ rfl;refine hpSetE (c:=#[U Z x.ch,U Z x.t15,U Z x.t35,J none 0 0,U Z x.f1,U Z x.f2,U Z x.fl,.bool x.act,U Z x.la,U Z x.id]) ?_ rfl;exact hpSetE d.out rfl
 ·exact ((kset' (kset' (kset' (kset' (kset' (Keeps.refl _ _) _ _) _ _) _ _) _ _) _ _).trans (Keeps.af (bal' _ _)) (fun _ _ h=>h)).trans (Keeps.af (bal' _ _)) (fun _ _ h=>h)
theorem rxdead_yes (g:Nat) (x:Rx) (a:Option Addr) (n c:Nat) (w:World) (b:RxAt w g x a n c) (d:x.act=true) (j:0≤x.la) (e:x.la≤1152921504606846976) (o:0≤x.t35) (k:x.t35≤40000) (l:0≤x.ch) (m:x.ch≤40000):
  Calls Tryz.prog 107 #[.pointer (N ⟨g,0,M⟩)] w fun r w'=>r=.returned (.tuple #[U Z (x.la+x.t35+x.ch),.bool true])∧Below w.heap.size w w':=by
 have i:w.cell? ⟨g,7,M⟩=N (.bool true):=by rw[b.cell 7];simp [Rx.cells,d]
 have c0:w.cell? ⟨g,0,M⟩=N (U Z x.ch):=b.cell 0;have c2:w.cell? ⟨g,2,M⟩=N (U Z x.t35):=b.cell 2;have f:w.cell? ⟨g,8,M⟩=N (U Z x.la):=b.cell 8;have s1:IntKind.i64.wrap (x.la+x.t35)=x.la+x.t35:=IntWalk.i64_in _ (by omega);have s2:IntKind.i64.wrap (x.la+x.t35+x.ch)=x.la+x.t35+x.ch:=IntWalk.i64_in _ (by omega);clear b d;go_enter Tryz.func107,Tryz.ntmps107;go_wp2;go_quiet (fail);go_wp2;go_ret2;exact⟨rfl,below_drewN (Below.refl _ _) _⟩
def Aw (a b:Int):Int:=bits .or .i64 a b
def gg (a b:Int):Int:=bits .and .i64 a b
def jf (x:Rx) (bR:Int):Int:=if x.act=true∧x.t15<bR then Aw x.fl 4 else x.fl
def Rx.opened (x:Rx) (t bR:Int):Rx:={x with act:=true,f1:=if x.act=true then x.f1 else t,fl:=jf x bR}
def Rx.add (x:Rx) (t:Int) (v:UInt8) (fl bR:Int):Rx:=
  {x with act:=true,f1:=if x.act=true then x.f1 else t,f2:=t,la:=t,
           bs:=if x.bs.length<256 then x.bs++[v] else x.bs,
           fl:=Aw (if x.bs.length<256 then jf x bR else Aw (jf x bR) 8) (gg fl 3)}
def KZ (w:World) (g:Nat) (base:Nat) (x y:Rx) (a:Option Addr) (c:Nat) (r:Ending) (w':World):Prop:=
 ∃a' c',r=.returned (.tuple #[])∧RxAt w' g y a' y.bs.length c'∧w'.ownsRow base 5 1 (J a' y.bs.length c') y.bs.length (u8s y.bs)∧cZ w (J a x.bs.length c) (J a' y.bs.length c')∧Keeps (fun j=>j=g∨(Value.slice a x.bs.length c).ownBlock=N j) w w'
structure Er (w:World) (g base:Nat) (x:Rx) (a:Option Addr) (c:Nat) (t:Int) (v:UInt8) (fl bR:Int) (a':Option Addr) (c':Nat) (W:World):Prop where
 at_:RxAt W g {x.opened t bR with bs:=(x.add t v fl bR).bs,fl:=if x.bs.length<256 then jf x bR else Aw (jf x bR) 8} a' (x.add t v fl bR).bs.length c'
 own:W.ownsRow base 5 1 (.slice a' (x.add t v fl bR).bs.length c') (x.add t v fl bR).bs.length (u8s (x.add t v fl bR).bs)
 new:cZ w (J a x.bs.length c) (.slice a' (x.add t v fl bR).bs.length c')
 kp:Keeps (fun j=>j=g∨(Value.slice a x.bs.length c).ownBlock=N j) w W
 ev:W.heap[w.heap.size]?=N (Y #[U Z t,U .u8 (v.toNat:Int),U Z fl] 132)
theorem sM (g base:Nat) (x:Rx) (a:Option Addr) (c:Nat) (t:Int) (v:UInt8) (fl bR:Int) (w:World) (hx:RxAt w g x a x.bs.length c) (s:w.ownsRow base 5 1 (J a x.bs.length c) x.bs.length (u8s x.bs)) (hg:g<base) (hb:base≤w.heap.size):
    Calls Tryz.prog 145 #[.pointer (N ⟨g,0,M⟩),.agg #[U Z t,U .u8 (v.toNat:Int),U Z fl],U Z bR] w (KZ w g base x (x.add t v fl bR) a c):=by
  obtain⟨i5,hi,aX,ao,ad⟩:=info_parts fS;have J1:g<w.heap.size:=hx.lt;obtain⟨W0,V⟩:∃W,w.alloc (Y #[U Z t,U .u8 (v.toNat:Int),U Z fl] 132)=W:=⟨_,rfl⟩
  have cy:Below w.heap.size w W0:=by rw[←V];exact bal' w _
  have Xy:W0.heap.size=w.heap.size+1:=by rw[←V];simp
  have p0:W0.heap[w.heap.size]?=N (Y #[U Z t,U .u8 (v.toNat:Int),U Z fl] 132):=by rw[←V];exact hpNew w _
  have b:=hx.ah cy;have D9:Hid (∀k,(Value.slice a x.bs.length c).ownBlock=N k→base≤k∧k<w.heap.size):=fun k h=>s.lt k h
  have HX:=hid b;have OW:=hid (own_keeps (F:=fun _=>False) s (Keeps.af cy) (fun _ _ e=>e));have ab:=hid V;have ak:=hid cy;have P0:=hid p0;have HZ:=hid Xy;have c7:W0.cell? ⟨g,7,M⟩=N (.bool x.act):=b.cell 7;have c1:W0.cell? ⟨g,1,M⟩=N (U Z x.t15):=b.cell 1;have c6:W0.cell? ⟨g,6,M⟩=N (U Z x.fl):=b.cell 6;have e0:=cG p0 0 rfl;have c4:W0.cell? ⟨g,4,M⟩=N (U Z x.f1):=b.cell 4;have f4:=b.free 4;have f6:=b.free 6;have f7:=b.free 7;clear hx s b V cy p0 Xy;go_enter Tryz.func145,Tryz.ntmps145;go_upto_region 1 with(fail)
  rw[ab.out];go_upto_if 14 with(fail)
  go_cut [] from 13 to 36 (fun wc=>Hid (RxAt wc g (x.opened t bR) a x.bs.length c∧wc.heap[w.heap.size]?=N (Y #[U Z t,U .u8 (v.toNat:Int),U Z fl] 132)∧Keeps (· =g) W0 wc))
  case first=>
    have I:=HX.out;unfold RxAt Rx.cells at I;cases jq:x.act with
    |false=>
      have L:Hid (x.opened t bR={x with act:=true,f1:=t}):=by
        show _=_;unfold Rx.opened jf;rw[jq];simp
      clear jq I;go_wp2;go_meet
      case rel=>
        show _∧_∧_;rw[L.out];exact⟨hpSetE (hpSetE HX.out rfl) rfl,hpKeeps P0.out (kset' (kset' (Keeps.refl (· =g) _) _ _) _ _) (fun e=>by have e':w.heap.size=g:=e;omega),kset' (kset' (Keeps.refl (· =g) _) _ _) _ _⟩
    |true=>
      rw[jq] at I;have T:Hid (RxAt W0 g {x with act:=true} a x.bs.length c):=I;by_cases y:x.t15<bR
      · have L:Hid (x.opened t bR={x with act:=true,fl:=Aw x.fl 4}):=by
          show _=_;unfold Rx.opened jf;rw[if_pos jq,if_pos ⟨jq,y⟩]
        have d2:decide (x.t15<bR)=true:=decide_eq_true y;clear jq I y;go_wp2;go_meet
        case rel=>
          show _∧_∧_;rw[L.out];exact⟨hpSetE T.out rfl,hpKeeps P0.out (kset' (Keeps.refl (· =g) _) _ _) (fun e=>by have e':w.heap.size=g:=e;omega),kset' (Keeps.refl (· =g) _) _ _⟩
      · have L:Hid (x.opened t bR={x with act:=true}):=by
          show _=_;unfold Rx.opened jf;rw[if_pos jq,if_neg (fun h=>y h.2)]
        have d2:decide (x.t15<bR)=false:=decide_eq_false y;clear jq I y;go_wp2;go_meet
        case rel=>
          show _∧_∧_;rw[L.out];exact⟨T.out,P0.out,Keeps.refl _ _⟩
  case rest=>
  obtain⟨d,FC⟩:∃W,W=wc:=⟨_,rfl⟩
  subst FC;have r:=hcut;clear c7 c1 c4 c6 e0 f4 f6 f7;have KC:=hid (own_keeps OW.out r.out.2.2 (fun k z e=>by have h1:=(D9.out k z).1;have y:k=g:=e;omega));have b:RxAt d g (x.opened t bR) a x.bs.length c:=r.out.1;have D:=r.out.2.1;have ye:w.heap.size<d.heap.size:=hpLt D;have K1:Hid (Keeps (· =g) w d):=(Keeps.af ak.out).trans r.out.2.2 (fun _ _ e=>e);have c3:d.cell? ⟨g,3,M⟩=N (J a x.bs.length c):=b.cell 3;have HL:=hid b;have uW:=hid D;go_upto_if 41 with(fail)
  go_cut [] from 39 to 60 (fun wd=>∃i m,Hid (Er w g base x a c t v fl bR i m wd))
  case first=>
    by_cases G:x.bs.length<256
    · have Dw:decide (x.bs.length<256)=true:=decide_eq_true G
      have E:Hid ((x.add t v fl bR).bs=x.bs++[v]):=if_pos G;have aY:∀X,(d.alloc X).cell? ⟨g,3,M⟩=N (J a x.bs.length c):=fun X=>(b.ah (bal' _ X)).cell 3
      have a2:Hid ((d.alloc (Y #[U .u8 (v.toNat:Int)] 5)).cell? ⟨g,3,M⟩=N (J a x.bs.length c)):=(b.ah (bal' _ _)).cell 3;have e1:=cG D 1 rfl;have av:Hid (N g≠(Value.slice a x.bs.length c).ownBlock):=fun h=>by have:=(D9.out g h.symm).1;omega
      have WU:Hid (N w.heap.size≠(Value.slice a x.bs.length c).ownBlock):=fun h=>by have:=(D9.out _ h.symm).2;omega
      have a3:g<d.heap.size:=by omega
      have fC:Hid (∀l,(d.alloc (Y #[U .u8 (v.toNat:Int)] 5)).drew.grownBy l (Value.slice a x.bs.length c).ownBlock→RxAt l g (x.opened t bR) a x.bs.length c∧l.heap[w.heap.size]?=N (Y #[U Z t,U .u8 (v.toNat:Int),U Z fl] 132)):=fun l h=>
        ⟨(h.block g (by show g<(d.alloc _).heap.size;simp;omega) av.out).trans (b.ah (bal' _ _).drew),(h.block w.heap.size (by show w.heap.size<(d.alloc _).heap.size;simp;omega) WU.out).trans (hpKeep D (bal' _ _).drew)⟩
      clear b D;go_upto_region 8 with(fail)
      go_region_law (refine step_appN rfl (.tmp 46) (.tmp 49) 50 rfl base 5 i5 (U .u8 0) 1 1 Tryz.underlying50 hi aX ao ad rfl (by decide) (J a x.bs.length c) x.bs.length (u8s x.bs) rfl (KC.out.alloc _) ⟨d.heap.size,0,M⟩ 1 1 [U .u8 (v.toNat:Int)] rfl rfl (dP d [U .u8 (v.toNat:Int)] _) (by intro u hu;simp at hu;subst hu;rfl) (by unfold maxLen;omega) (by omega) (by simp;omega) ?_;intro v' l bX S fW;obtain⟨i,m,rfl⟩:=own_slice bX;have y3:l.cell? ⟨g,3,M⟩=N (J a x.bs.length c):=(fC.out l S).1.cell 3;have z3:l.frozen? ⟨g,3,M⟩=false:=(fC.out l S).1.free 3)
      all_goals
        have A:=fC.out l S;have O:Keeps (fun j=>j=g∨(Value.slice a x.bs.length c).ownBlock=N j) w l:=((K1.out.mono (fun k _ h=>Or.inl h)).trans ((Keeps.af (bal' d (Y #[U .u8 (v.toNat:Int)] 5)).drew).trans (Keeps.bJ (F:=fun j=>j=g∨(Value.slice a x.bs.length c).ownBlock=N j) S (fun k z=>.inr z)) (fun _ _ h=>h)) (fun _ _ h=>h))
        have n3:cZ w (J a x.bs.length c) (J i (x.bs.length+1) m):=by
          rcases fW with h|⟨j,h,hj⟩
          · exact .inl h
          · refine .inr ⟨j,h,?_⟩
            have Lc:(d.alloc (Y #[U .u8 (v.toNat:Int)] 5)).heap.size≤j:=hj;simp at Lc;omega
        have o:Hid (∀X,X=l.setCell ⟨g,3,M⟩ (J i (x.bs.length+1) m)∨X=(l.setCell ⟨g,3,M⟩ (J i (x.bs.length+1) m)).drew→Er w g base x a c t v fl bR i m X):=by
          have hl:(x.bs++[v]).length=x.bs.length+1:=by simp
          have q:Er w g base x a c t v fl bR i m (l.setCell ⟨g,3,M⟩ (J i (x.bs.length+1) m)):=by
            refine⟨?_,?_,?_,?_,?_⟩
            · rw[E.out,hl,if_pos G]
              exact hpSetE A.1 rfl
            · rw[E.out,hl,dF]
              exact own_keeps bX (J4 (p:=g)) (fun k z e=>by have h1:=(bX.lt k z).1;have y:k=g:=e;omega)
            · rw[E.out,hl]
              exact n3
            · exact O.set ⟨g,3,M⟩ _ (.inl rfl)
            · exact(hpOther (by omega)).trans A.2
          intro X hX;rcases hX with rfl|rfl
          · exact q
          · exact⟨q.at_,q.own,q.new,q.kp.trans (Keeps.af (Below.refl _ _).drew) (fun _ _ e=>e),q.ev⟩
        clear A O n3 bX S fW y3 z3 c3 aY e1;go_wp2;go_meet
        case rel=>exact⟨i,m,o.out _ (by first|exact .inl rfl|exact .inr rfl)⟩
    · have Dw:decide (x.bs.length<256)=false:=decide_eq_false G
      have E:Hid ((x.add t v fl bR).bs=x.bs):=if_neg G;have c6:d.cell? ⟨g,6,M⟩=N (U Z (jf x bR)):=b.cell 6;have f6:=b.free 6;clear b D;go_wp2;go_meet
      case rel=>
        refine⟨a,c,?_,?_,?_,?_,?_⟩
        · rw[E.out,if_neg G]
          exact hpSetE HL.out rfl
        · rw[E.out]
          exact own_keeps KC.out (J4 (p:=g)) (fun k z e=>by have h1:=(D9.out k z).1;have y:k=g:=e;omega)
        · rw[E.out]
          exact .inl rfl
        · exact(K1.out.mono (fun k _ h=>Or.inl h)).set ⟨g,6,M⟩ _ (.inl rfl)
        · exact(hpOther (by omega)).trans uW.out
  case rest=>
  obtain⟨i,m,o⟩:=hcut;have B:=o.out.at_;have c6:wc.cell? ⟨g,6,M⟩=N (U Z (if x.bs.length<256 then jf x bR else Aw (jf x bR) 8)):=B.cell 6;obtain⟨F0,ZK⟩:∃F,(if x.bs.length<256 then jf x bR else Aw (jf x bR) 8)=F:=⟨_,rfl⟩
  rw[ZK] at c6;have c5:wc.cell? ⟨g,5,M⟩=N (U Z x.f2):=B.cell 5;have c8:wc.cell? ⟨g,8,M⟩=N (U Z x.la):=B.cell 8;have f6:=B.free 6;have f5:=B.free 5;have f8:=B.free 8;have q0:wc.cell? ⟨w.heap.size,0,M⟩=N (U Z t):=hpCell o.out.ev 0;have q2:wc.cell? ⟨w.heap.size,2,M⟩=N (U Z fl):=hpCell o.out.ev 2;have P:=hid ZK;clear B ZK c3 KC r uW HL b D;go_wp2;go_region
  all_goals
    go_wp2;go_end0;obtain⟨W4,K⟩:∃W,((wc.setCell ⟨g,6,M⟩ (U Z (bits .or .i64 F0 (bits .and .i64 fl 3)))).setCell ⟨g,5,M⟩ (U Z t)).setCell ⟨g,8,M⟩ (U Z t)=W:=⟨_,rfl⟩
    have C:Keeps (· =g) wc W4:=by rw[←K];exact kset' (kset' (kset' (Keeps.refl _ _) _ _) _ _) _ _
    have Q:RxAt W4 g (x.add t v fl bR) i (x.add t v fl bR).bs.length m:=by
      have e1:x.add t v fl bR={x.opened t bR with bs:=(x.add t v fl bR).bs,fl:=Aw F0 (gg fl 3),f2:=t,la:=t}:=by
        rw[←P.out];rfl
      have h:=o.out.at_;rw[P.out] at h;have h4:RxAt W4 g {x.opened t bR with bs:=(x.add t v fl bR).bs,fl:=Aw F0 (gg fl 3),f2:=t,la:=t} i (x.add t v fl bR).bs.length m:=by rw[←K];exact hpSetE (hpSetE (hpSetE h rfl) rfl) rfl
      rw[←e1] at h4;exact h4
    have R:=own_keeps o.out.own C (fun k z e=>by have h1:=(o.out.own.lt k z).1;have y:k=g:=e;omega)
    first
      |(rw[K];exact⟨i,m,rfl,Q,R,o.out.new,o.out.kp.trans C (fun _ _ h=>.inl h)⟩)
      | (refine⟨i,m,rfl,?_,?_,o.out.new,?_⟩
         · exact K▸Q
         · exact K▸own_keeps (F:=fun _=>False) R (Keeps.af (Below.refl _ _).drew) (fun _ _ f=>f)
         · exact K▸(o.out.kp.trans C (fun _ _ h=>.inl h)).trans (Keeps.af (Below.refl _ _).drew) (fun _ _ h=>h))
def Rx.bR (x:Rx) (t:Int):Int:=if x.la<t-x.ch then t-x.ch-x.la else 0
def Rx.ends (x:Rx) (t:Int):Bool:=x.act&&decide (x.t35≤x.bR t)
def Rx.char (x:Rx) (t:Int) (v:UInt8) (fl:Int):Rx:=(if x.ends t=true then x.empty else x).add t v fl (x.bR t)
def RxCharred (w:World) (g:Nat) (base:Nat) (x y:Rx) (a:Option Addr) (c:Nat) (V:Bool) (r:Ending) (w':World):Prop:=
 ∃a' c' a2 n2 c2 z1 z2 z3,r=.returned (.tuple #[.agg #[J a2 n2 c2,U Z z1,U Z z2,U Z z3],.bool V,U Z 0])∧RxAt w' g y a' y.bs.length c'∧w'.ownsRow base 5 1 (J a' y.bs.length c') y.bs.length (u8s y.bs)∧
  (∀k,(Value.slice a' y.bs.length c').ownBlock=N k→(Value.slice a x.bs.length c).ownBlock=N k∨w.heap.size≤k)∧Keeps (fun j=>j=g∨(Value.slice a x.bs.length c).ownBlock=N j) w w'
theorem rxchar_ok (g base:Nat) (x:Rx) (a:Option Addr) (c:Nat) (t:Int) (v:UInt8) (fl:Int) (w:World) (z:RxAt w g x a x.bs.length c) (C:w.ownsRow base 5 1 (J a x.bs.length c) x.bs.length (u8s x.bs)) (hg:g<base) (hb:base≤w.heap.size)
  (h1:0≤x.la) (h2:x.la≤t) (h3:x.id≤t) (h4:t≤1152921504606846976) (h5:0≤x.ch) (h6:x.ch≤40000) (V:Bool) (hV:Hid (x.ends t=V)):
  Calls Tryz.prog 105 #[.pointer (N ⟨g,0,M⟩),.agg #[U Z t,U .u8 (v.toNat:Int),U Z fl]] w (RxCharred w g base x (x.char t v fl) a c V):=by
 have c0:w.cell? ⟨g,0,M⟩=N (U Z x.ch):=z.cell 0;have c2:w.cell? ⟨g,2,M⟩=N (U Z x.t35):=z.cell 2;have c7:w.cell? ⟨g,7,M⟩=N (.bool x.act):=z.cell 7;have c8:w.cell? ⟨g,8,M⟩=N (U Z x.la):=z.cell 8;have c9:w.cell? ⟨g,9,M⟩=N (U Z x.id):=z.cell 9;have d0:decide (t<0)=false:=decide_eq_false (by omega);have d1:decide (t<x.la)=false:=decide_eq_false (by omega);have d2:decide (t<x.id)=false:=decide_eq_false (by omega);have d3:decide (1152921504606846976<t)=false:=decide_eq_false (by omega);have s1:IntKind.i64.wrap (t-x.ch)=t-x.ch:=IntWalk.i64_in _ (by omega);have s2:IntKind.i64.wrap (t-x.ch-x.la)=t-x.ch-x.la:=IntWalk.i64_in _ (by omega);have J1:=z.lt;have HX:=hid z;have HO:=hid C;clear z C;obtain⟨S,hS⟩:=gE (x.bR t);have HS:Hid ((if x.la<t-x.ch then t-x.ch-x.la else 0)=S):=hS;have A:=hid hS;clear hS;go_enter Tryz.func105,Tryz.ntmps105;go_wp2_with fail;go_quiet (fail);go_wp2_with fail;go_region;rw[HS.out];obtain⟨W0,P⟩:∃W,W=World.drewN ((w.alloc (Y #[U Z t,U .u8 (v.toNat:Int),U Z fl] 132)).alloc (Y #[J none 0 0,U Z 0,U Z 0,U Z 0] 179)) (nq+1):=⟨_,rfl⟩
 rw[←P];have O:Below w.heap.size w W0:=by rw[P];exact below_drewN (bta (bal' w _) (Nat.le_refl _) _) _
 have ab:W0.heap.size=w.heap.size+2:=by rw[P];simp
 have D:W0.heap[w.heap.size]?=N (Y #[U Z t,U .u8 (v.toNat:Int),U Z fl] 132):=by rw[P];exact hpKeep (hpNew w _) (below_drewN (bal' _ _) _)
 have l:W0.heap[w.heap.size+1]?=N (Y #[J none 0 0,U Z 0,U Z 0,U Z 0] 179):=by
  rw[P];have:=hpNew (w.alloc (Y #[U Z t,U .u8 (v.toNat:Int),U Z fl] 132)) (Y #[J none 0 0,U Z 0,U Z 0,U Z 0] 179);simpa using this
 have e0:=cG D 0 rfl;have e1:=cG D 1 rfl;have e2:=cG D 2 rfl;have x2:W0.cell? ⟨g,2,M⟩=N (U Z x.t35):=(HX.out.ah O).cell 2;have x7:W0.cell? ⟨g,7,M⟩=N (.bool x.act):=(HX.out.ah O).cell 7;have Q:=hid (HX.out.ah O);have ao:=hid (own_keeps (F:=fun _=>False) HO.out (Keeps.af O) (fun _ _ f=>f));have Ub:g<W0.heap.size:=by omega
 have a2:w.heap.size<W0.heap.size:=by omega
 have Ta:w.heap.size+1<W0.heap.size:=by omega
 have P1:=hid l;have P0:=hid D;have B0:=hid O;have Z0:=hid ab;clear c0 c2 c7 c8 c9 P D l O ab;cases V with
 |false=>
  have hY:Hid (x.char t v fl=x.add t v fl S):=by
   show _=_;unfold Rx.char;rw[hV.out,A.out];rfl
  have GX:=hid (fun W h o b=>sM g base x a c t v fl S W h o hg b);rcases (show x.act=false∨(x.act=true∧decide (x.t35≤S)=false) by
   have h:=hV.out
   unfold Rx.ends at h
   rw[A.out] at h
   cases z:x.act with
   |false=>exact .inl rfl
   |true=>rw[z] at h;exact .inr ⟨rfl,by simpa using h⟩) with d4|⟨d4,d5⟩
  all_goals
   rw[d4] at x7;clear d4;go_wp2_with fail;obtain⟨E,B⟩:∃W,W=W0.alloc (Y #[J none 0 0,U Z 0,U Z 0,U Z 0] 179):=⟨_,rfl⟩
   rw[←B];have d:Below W0.heap.size W0 E:=by rw[B];exact bal' _ _
   have p2:E.heap[W0.heap.size]?=N (Y #[J none 0 0,U Z 0,U Z 0,U Z 0] 179):=by
    rw[B];exact hpNew _ _
   have HC:=hid (GX.out E (Q.out.ah d) (own_keeps (F:=fun _=>False) ao.out (Keeps.af d) (fun _ _ f=>f)) (Nat.le_trans hb (Nat.le_trans B0.out.size d.size)));clear B e0 e1 e2 x2 x7;refine HC.out.mono ?_;rintro r y ⟨T,c',rfl,tI,Gg,iL,q⟩;have G:∀k,w.heap.size≤k→¬(k=g∨(Value.slice a x.bs.length c).ownBlock=N k):=fun k i e=>by
    rcases e with e|e
    ·omega
    ·have:=(HO.out.lt k e).2
     omega
   have l:=hpKeeps (hpKeep P1.out d) q (G _ (by omega));have u:=hpKeeps p2 q (G _ (by have:=Z0.out;omega));have db:W0.heap.size≠w.heap.size+1:=by omega
   have I:=hid tI;have EF:=hid Gg;have Tg:Hid (∀k,(Value.slice T (x.add t v fl S).bs.length c').ownBlock=N k→(Value.slice a x.bs.length c).ownBlock=N k∨w.heap.size+2≤k):=fun k i=>by
    rcases iL with h|⟨j,h,hj⟩
    ·exact .inl (h▸i)
    ·rw [h] at i
     cases i;have:=d.size;have:=Z0.out;exact .inr (by omega)
   have K:Hid (Keeps (fun j=>j=g∨(Value.slice a x.bs.length c).ownBlock=N j) w y):=((Keeps.af B0.out).trans (Keeps.af d) (fun _ _ h=>h)).trans q (fun _ _ h=>h);have Hi:=hid G;have yz:w.heap.size+1<y.heap.size:=hpLt l;obtain⟨u0,u1,u2,u3⟩:=JU u
   obtain⟨y0,y1,y2,y3⟩:=JU l;obtain⟨z0,z1,z2,z3⟩:=Xb l
   go_wp2;obtain⟨W5,m⟩:∃W,W=(((y.setCell ⟨w.heap.size+1,0,M⟩ (J none 0 0)).setCell ⟨w.heap.size+1,1,M⟩ (U Z 0)).setCell ⟨w.heap.size+1,2,M⟩ (U Z 0)).setCell ⟨w.heap.size+1,3,M⟩ (U Z 0):=⟨_,rfl⟩;rw[←m];have m5:=hpSet (hpSet (hpSet (hpSet l 0 (J none 0 0)) 1 (U Z 0)) 2 (U Z 0)) 3 (U Z 0);rw[←m] at m5;obtain⟨q0,q1,q2,q3⟩:=JU m5;have p:Keeps (· =w.heap.size+1) y W5:=by rw[m];exact kset' (kset' (kset' (kset' (Keeps.refl _ _) _ _) _ _) _ _) _ _
   clear u0 u1 u2 u3 y0 y1 y2 y3 z0 z1 z2 z3 m l u;refine bodyPost_ret (v:=.tuple #[.agg #[J none 0 0,U Z 0,U Z 0,U Z 0],.bool false,U Z 0]) (by simp [results,Tryz.results105,go_sem,q0,q1,q2,q3]) rfl ?_;rw[hY.out];exact⟨T,c',_,_,_,_,_,_,rfl,I.out.keeps p (fun e=>by omega),own_keeps EF.out p (fun k i e=>by
    have s:k=w.heap.size+1:=e
    subst s
    rcases Tg.out _ i with h|h
    ·have:=(HO.out.lt _ h).2
     omega
    ·omega),fun k i=>(Tg.out k i).imp id (fun h=>by omega),K.out.trans (p.mono (fun k i e=>e)) (fun k i e=>by have s:k=w.heap.size+1:=e;omega)⟩
 |true=>
  have hY:Hid (x.char t v fl=x.empty.add t v fl S):=by
   show _=_;unfold Rx.char;rw[hV.out,A.out];rfl
  have GX:=hid (fun W h o b=>sM g base x.empty none 0 t v fl S W h o hg b);obtain⟨d4,d5⟩:x.act=true∧decide (x.t35≤S)=true:=by
   have h:=hV.out;unfold Rx.ends at h;rw[A.out] at h;simpa using h
  rw[d4] at x7;clear d4;go_wp2_with fail;obtain⟨E,B⟩:∃W,W=W0.alloc (Y #[J none 0 0,U Z 0,U Z 0,U Z 0] 179):=⟨_,rfl⟩
  rw[←B];have d:Below W0.heap.size W0 E:=by rw[B];exact bal' _ _
  have p2:E.heap[W0.heap.size]?=N (Y #[J none 0 0,U Z 0,U Z 0,U Z 0] 179):=by
   rw[B];exact hpNew _ _
  have YD:=bt B0.out d (Nat.le_refl _);have HT:=hid (qm g x a x.bs.length c E (Q.out.ah d));clear B e0 e1 e2 x2 x7;refine HT.out.mono ?_;rintro r w1 ⟨rfl,yR,L⟩;have D:=hpKeeps (hpKeep P0.out d) L (fun e=>by have s:w.heap.size=g:=e;omega);have l:=hpKeeps (hpKeep P1.out d) L (fun e=>by have s:w.heap.size+1=g:=e;omega);have u:=hpKeeps p2 L (fun e=>by have s:W0.heap.size=g:=e;omega);have aY:=Nat.le_trans d.size L.size;have aX:=hpLt u;obtain⟨e0,e1,e2⟩:=ZB D
  obtain⟨u0,u1,u2,u3⟩:=JU u
  obtain⟨v0,v1,v2,v3⟩:=Xb u
  have QC:W0.heap.size≠w.heap.size:=by omega
  have Ps:=hid yR;have uW:=hid l;have Ua:=hid u;have av:=hid L;clear yR L l u D p2;go_wp2_with fail;obtain⟨R,mF⟩:∃W,W=(((w1.setCell ⟨W0.heap.size,0,M⟩ (J a x.bs.length c)).setCell ⟨W0.heap.size,1,M⟩ (U Z x.f1)).setCell ⟨W0.heap.size,2,M⟩ (U Z x.f2)).setCell ⟨W0.heap.size,3,M⟩ (U Z x.fl):=⟨_,rfl⟩
  rw[←mF];have jX:Keeps (· =W0.heap.size) w1 R:=by rw[mF];exact kset' (kset' (kset' (kset' (Keeps.refl _ _) _ _) _ _) _ _) _ _
  have p6:R.heap[W0.heap.size]?=N (Y #[J a x.bs.length c,U Z x.f1,U Z x.f2,U Z x.fl] 179):=by rw[mF];exact hpSet (hpSet (hpSet (hpSet Ua.out 0 _) 1 _) 2 _) 3 _
  have X:Keeps (· =g) w R:=((Keeps.af YD).trans av.out (fun _ _ h=>h)).trans (jX.mono (fun k i e=>e)) (fun k i e=>by have s:k=W0.heap.size:=e;omega);have a3:=jX.size;have HC:=hid (GX.out R (Ps.out.keeps jX (fun e=>by have s:g=W0.heap.size:=e;omega)) (World.ownsRow_nil _ _ _ _) (by omega));have l:=hpKeeps uW.out jX (fun e=>by have s:w.heap.size+1=W0.heap.size:=e;omega);have ad:=hid l;clear mF u0 u1 u2 u3 v0 v1 v2 v3 e0 e1 e2 l;refine HC.out.mono ?_;rintro r y ⟨T,c',rfl,tI,Gg,iL,q⟩;have JK:Keeps (· =g) R y:=q.mono (fun k i e=>e.elim id (fun h=>by cases h));have l:=hpKeeps ad.out JK (fun e=>by have s:w.heap.size+1=g:=e;omega);have u:=hpKeeps p6 JK (fun e=>by have s:W0.heap.size=g:=e;omega);have db:W0.heap.size≠w.heap.size+1:=by omega
  have I:=hid tI;have EF:=hid Gg;have Tg:Hid (∀k,(Value.slice T (x.empty.add t v fl S).bs.length c').ownBlock=N k→w.heap.size+2≤k):=fun k i=>by
   rcases iL with h|⟨j,h,hj⟩
   ·rw [h] at i;cases i
   ·rw [h] at i
    cases i;have:=Z0.out;omega
  have K:Hid (Keeps (· =g) w y):=X.trans JK (fun _ _ h=>h);have yz:w.heap.size+1<y.heap.size:=hpLt l;obtain⟨u0,u1,u2,u3⟩:=JU u
  obtain⟨y0,y1,y2,y3⟩:=JU l;obtain⟨z0,z1,z2,z3⟩:=Xb l
  clear p6 jX X tI Gg iL q JK;go_wp2;obtain⟨W5,m⟩:∃W,W=(((y.setCell ⟨w.heap.size+1,0,M⟩ (J a x.bs.length c)).setCell ⟨w.heap.size+1,1,M⟩ (U Z x.f1)).setCell ⟨w.heap.size+1,2,M⟩ (U Z x.f2)).setCell ⟨w.heap.size+1,3,M⟩ (U Z x.fl):=⟨_,rfl⟩;rw[←m];have m5:=hpSet (hpSet (hpSet (hpSet l 0 (J a x.bs.length c)) 1 (U Z x.f1)) 2 (U Z x.f2)) 3 (U Z x.fl);rw[←m] at m5;obtain⟨q0,q1,q2,q3⟩:=JU m5;have p:Keeps (· =w.heap.size+1) y W5:=by rw[m];exact kset' (kset' (kset' (kset' (Keeps.refl _ _) _ _) _ _) _ _) _ _
  clear u0 u1 u2 u3 y0 y1 y2 y3 z0 z1 z2 z3 m l u;refine bodyPost_ret (v:=.tuple #[.agg #[J a x.bs.length c,U Z x.f1,U Z x.f2,U Z x.fl],.bool true,U Z 0]) (by simp [results,Tryz.results105,go_sem,q0,q1,q2,q3]) rfl ?_;rw[hY.out];exact⟨T,c',_,_,_,_,_,_,rfl,I.out.keeps p (fun e=>by omega),own_keeps EF.out p (fun k i e=>by
   have s:k=w.heap.size+1:=e
   subst s
   have:=Tg.out _ i
   omega),fun k i=>.inr (by have:=Tg.out k i;omega),(K.out.mono (fun k i e=>.inl e)).trans (p.mono (fun k i e=>e)) (fun k i e=>by have s:k=w.heap.size+1:=e;omega)⟩
def tZ (w:World) (g:Nat) (x:Rx) (a:Option Addr) (n c:Nat) (tick:Int) (r:Ending) (w':World):Prop:=
 r=.returned (.tuple #[.agg #[J a n c,U Z x.f1,U Z x.f2,U Z x.fl],.bool true])∧RxAt w' g {x.empty with id:=tick} none 0 0∧Keeps (· =g) w w'
theorem sm (g:Nat) (x:Rx) (a:Option Addr) (n c:Nat) (tick:Int) (w:World) (i:RxAt w g x a n c) (A:x.act=true) (Q:0≤x.la) (h2:x.la≤1152921504606846976) (h3:0≤x.t35) (h4:x.t35≤40000) (S:0≤x.ch) (T:x.ch≤40000) (h7:x.id≤tick) (L:x.la+x.t35+x.ch≤tick) (G:tick≤1152921504606846976):
  Calls Tryz.prog 108 #[.pointer (N ⟨g,0,M⟩),U Z tick] w (tZ w g x a n c tick):=by
 have K:w.cell? ⟨g,8,M⟩=N (U Z x.la):=i.cell 8;have D:w.cell? ⟨g,9,M⟩=N (U Z x.id):=i.cell 9;have f9:w.frozen? ⟨g,9,M⟩=false:=i.free 9;have d0:decide (tick<0)=false:=decide_eq_false (by omega);have d1:decide (tick<x.la)=false:=decide_eq_false (by omega);have d2:decide (tick<x.id)=false:=decide_eq_false (by omega);have d3:decide (1152921504606846976<tick)=false:=decide_eq_false (by omega);have d4:decide (tick<x.la+x.t35+x.ch)=false:=decide_eq_false (by omega);have J1:=i.lt;have I:=hid i;clear i;go_enter Tryz.func108,Tryz.ntmps108;go_wp2_with fail;obtain⟨q,l⟩:∃W,W=(w.setCell ⟨g,9,M⟩ (U Z tick)).alloc (Y #[J none 0 0,U Z 0,U Z 0,U Z 0] 179):=⟨_,rfl⟩
 rw[←l];have t:RxAt q g {x with id:=tick} a n c:=by rw[l];exact RxAt.ah (hpSetE I.out rfl) (bal' _ _)
 have z:q.heap[w.heap.size]?=N (Y #[J none 0 0,U Z 0,U Z 0,U Z 0] 179):=by
  rw[l];have:=hpNew (w.setCell ⟨g,9,M⟩ (U Z tick)) (Y #[J none 0 0,U Z 0,U Z 0,U Z 0] 179);simpa using this
 have y:Keeps (· =g) w q:=by rw[l];exact(kset' (Keeps.refl _ _) _ _).trans (Keeps.af (bal' _ _)) (fun _ _ h=>h)
 have HD:=hid (rxdead_yes g _ a n c q t A Q h2 h3 h4 S T);have V:=hid t;have uW:=hid z;have o:=hid y;clear l t z y K D f9 d0 d1 d2 d3 A h7 L G;refine HD.out.mono ?_;rintro r E ⟨rfl,d⟩;have O:=hid (qm g _ a n c E (V.out.ah d));go_wp2_with fail;refine O.out.mono ?_;rintro r w3 ⟨rfl,j,f⟩;have hz:=o.out.size;have p:=hpKeeps (hpKeep uW.out d) f (fun e=>by have C:w.heap.size=g:=e;omega);obtain⟨y0,y1,y2,y3⟩:=JU p
 obtain⟨z0,z1,z2,R⟩:=Xb p
 have s:=hid j;have Hi:Hid (Keeps (· =g) w w3):=(o.out.trans (Keeps.af d) (fun _ _ h=>h)).trans f (fun _ _ h=>h);clear j f;go_wp2;obtain⟨u,b⟩:∃W,W=(((w3.setCell ⟨w.heap.size,0,M⟩ (J a n c)).setCell ⟨w.heap.size,1,M⟩ (U Z x.f1)).setCell ⟨w.heap.size,2,M⟩ (U Z x.f2)).setCell ⟨w.heap.size,3,M⟩ (U Z x.fl):=⟨_,rfl⟩
 rw[←b];have B:u.heap[w.heap.size]?=N (Y #[J a n c,U Z x.f1,U Z x.f2,U Z x.fl] 179):=by rw[b];exact hpSet (hpSet (hpSet (hpSet p 0 _) 1 _) 2 _) 3 _
 obtain⟨q0,F,P,q3⟩:=JU B
 have m:Keeps (· =w.heap.size) w3 u:=by rw[b];exact kset' (kset' (kset' (kset' (Keeps.refl _ _) _ _) _ _) _ _) _ _
 clear y0 y1 y2 y3 z0 z1 z2 R b p B;refine bodyPost_ret (v:=.tuple #[.agg #[J a n c,U Z x.f1,U Z x.f2,U Z x.fl],.bool true]) (by simp [results,Tryz.results108,go_sem,q0,F,P,q3]) rfl ?_;exact⟨rfl,s.out.keeps m (fun e=>by have C:g=w.heap.size:=e;omega),Hi.out.trans (m.mono (fun k X e=>e)) (fun k X e=>by have C:k=w.heap.size:=e;omega)⟩
