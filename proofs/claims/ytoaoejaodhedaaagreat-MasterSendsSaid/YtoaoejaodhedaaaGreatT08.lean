import Derived.Test.YtoaoejaodhedaaaGreatT06
import Derived.Test.YtoaoejaodhedaaaGreatT07
import Derived.DeepKeys
namespace Go.Proofs.YtoaoejaodhedaaaGreat
open Go.RowKit
open Value renaming slice→J,int→U
open Option renaming none→M,some→N
open IntKind renaming i64→Z
set_option maxHeartbeats 6400000
set_option maxRecDepth 100000
variable {lv n pa un:Int} {l:List Ob} {b c i j k:Nat} {p:Prop} {v:Value} {w w':World} {t:iP}
def TvPost (w:World) (t:iP) (k:Nat) (r:Ending) (w':World):Prop:=∃V:Bool,r=.returned (.bool V)∧Hid (V=true↔t.val k)∧Below w.heap.size w w'
theorem TvPost.no (h:¬t.val k) (a:Below w.heap.size w w'):TvPost w t k (.returned (.bool false)) w':=⟨false,rfl,⟨fun e=>(by cases e),fun e=>absurd e h⟩,a⟩
theorem TvPost.yes (h:t.val k) (a:Below w.heap.size w w'):TvPost w t k (.returned (.bool true)) w':=⟨true,rfl,⟨fun _=>h,fun _=>rfl⟩,a⟩
theorem Mk (h:p:=by
 refine tG 8 25 ?_
 refine tG 9 26 ?_
 refine tU 10 27 ?_
 refine tU 11 28 ?_
 refine tU 12 29 ?_
 refine tG 13 30 ?_
 refine tG 14 31 ?_
 refine tU 15 32 ?_
 refine tU 16 33 ?_
 refine tU 17 34 ?_
 refine tU 18 35 ?_
 refine tU 19 36 ?_
 refine tG 20 37 ?_
 refine tG 21 4 ?_
 refine wpAnyH_done (by kernel_rfl) ?_ _
 go_wp2
 go_ret
 exact TvPost.no HV.out (bt HB1.out hB5 (Nat.le_refl _))):p:=h
theorem Ah (t:iP) (rv:Value) (k:Nat) (w:World) (T:dw w rv t.rd):
  Calls Tryz.prog 150 #[U Z ((k:Int)+1),.agg #[.bool t.sup,rv,U Z t.al]] w (TvPost w t k):=by
 obtain⟨ra,rc,kg,-⟩:=id T;obtain⟨D,R⟩:=gE t.rd.length;rw[R] at kg;subst kg;obtain⟨s,Y,E,O⟩:=eY w (.cells #[.bool t.sup,J ra D rc,U Z t.al] 65);have t0:=cF O 0 rfl;have t1:=cF O 1 rfl;have t2:=cF O 2 rfl;have k0:Below s.heap.size s s:=Below.refl _ _;have u:Below s.heap.size s s.drew:=(Below.refl _ _).drew;have Q:=hid R;have g:=hid Y;have HB1:=hid E;have F:Hid (∀X,Below s.heap.size s X→Calls Tryz.prog 180 #[J ra D rc] X (aj X (aG (-1) t.rd))):=fun X h=>mU _ t.rd X (T.ah (bt E h (Nat.le_refl _))) _ rfl
 have A:Hid (∀X,Calls Tryz.prog 155 #[U Z ((k:Int)+1)] X fun r w'=>r=.returned (U Z (cN ((k:Int)+1)))∧X=w'):=fun X=>gJ _ X
 obtain⟨mo,W⟩:=gE t.al;rw[W] at t2 g ⊢;have I:=hid W;clear Y E O T R W;cases hs:t.sup with
 |false=>
  rw[hs] at t0 g;have C:=hid hs;clear F A u hs;by_cases y:D=0
  ·have d1:((D:Int)==0)=true:=b1 (by omega)
   by_cases x:mo=0
   ·have d2:(mo==0)=true:=b1 x
    have HV:Hid (t.val k):=⟨fun _=>⟨by rw[Q.out];exact y,by rw[I.out];exact x⟩,fun e=>by rw[C.out] at e;cases e⟩
    clear y x;go_enter Tryz.func150,Tryz.ntmps150;go_upto_region 1 with(fail)
    rw[g.out];go_wp2;go_ret;exact TvPost.yes HV.out HB1.out
   ·have d2:(mo==0)=false:=b0 x
    have HV:Hid (¬t.val k):=fun h=>x (by rw[←I.out];exact(h.1 C.out).2)
    clear y x;go_enter Tryz.func150,Tryz.ntmps150;go_upto_region 1 with(fail)
    rw[g.out];go_wp2;go_ret;exact TvPost.no HV.out HB1.out
  ·have d1:((D:Int)==0)=false:=b0 (by omega)
   have HV:Hid (¬t.val k):=fun h=>y (by rw[←Q.out];exact(h.1 C.out).1)
   clear y;go_enter Tryz.func150,Tryz.ntmps150;go_upto_region 1 with(fail)
   rw[g.out];go_wp2;go_ret;exact TvPost.no HV.out HB1.out
 |true=>
  rw[hs] at t0 g;have C:=hid hs;clear hs;obtain⟨B,N⟩:∃B,aG (-1) t.rd=B:=⟨_,rfl⟩
  rw[N] at F;cases B with
  |false=>
   have HV:Hid (¬t.val k):=fun h=>by have:=(h.2 C.out).2.1;rw[N] at this;cases this
   clear N;go_enter Tryz.func150,Tryz.ntmps150;go_upto_region 1 with(fail)
   rw[g.out];go_upto_region 3 with(fail)
   refine wp_region_held_drew (S:=fun V=>Below s.heap.size s V) (by kernel_rfl) u (fun z=>?_);clear z;refine tG 0 17 ?_;refine tG 1 18 ?_;refine rdyH 2 rfl (fun K m=>?_);go_simp;refine(F.out _ u).mono ?_;rintro r w5 ⟨rfl,o⟩;have hB5:=bt u o (Nat.le_refl _);refine m.out _ _ hB5 (fun f=>?_);clear m K f;refine tG 3 20 ?_;refine tU 4 21 ?_;refine tU 5 22 ?_;refine tU 6 23 ?_;refine tU 7 24 ?_;exact Mk
  |true=>
   have fC:=hid N;clear N;by_cases y:D≤32
   ·have d1:decide ((D:Int)≤32)=true:=decide_eq_true (by omega)
    by_cases x:1≤mo
    ·have d2:decide (1≤mo)=true:=decide_eq_true x
     obtain⟨L,M⟩:∃L,cN ((k:Int)+1)=L:=⟨_,rfl⟩
     rw[M] at A;by_cases G:mo≤L
     ·have d3:decide (mo≤L)=true:=decide_eq_true G
      have HV:Hid (t.val k):=⟨fun e=>(by rw[C.out] at e;cases e),fun _=>⟨by rw[Q.out];exact y,fC.out,by rw[I.out];exact x,by rw[I.out,M];exact G⟩⟩
      clear y x G M;go_enter Tryz.func150,Tryz.ntmps150;go_upto_region 1 with(fail)
      rw[g.out];go_upto_region 3 with(fail)
      refine wp_region_held_drew (S:=fun V=>Below s.heap.size s V) (by kernel_rfl) u (fun z=>?_);clear z;refine tG 0 17 ?_;refine tG 1 18 ?_;refine rdyH 2 rfl (fun K m=>?_);go_simp;refine(F.out _ u).mono ?_;rintro r w5 ⟨rfl,o⟩;have hB5:=bt u o (Nat.le_refl _);refine m.out _ _ hB5 (fun f=>?_);clear m K f;refine tG 3 20 ?_;refine tG 4 21 ?_;refine tG 5 22 ?_;refine tG 6 23 ?_;refine tG 7 24 ?_;refine tG 8 25 ?_;refine tG 9 26 ?_;refine tG 10 27 ?_;refine tG 11 28 ?_;refine tG 12 29 ?_;refine tG 13 30 ?_;refine tG 14 31 ?_;refine tG 15 32 ?_;refine tG 16 33 ?_;refine tG 17 34 ?_;refine rdyH 18 rfl (fun K m=>?_);go_simp;refine(A.out _).mono ?_;rintro r w6 ⟨rfl,rfl⟩;refine m.out _ _ hB5 (fun f=>?_);clear m K f;refine tG 19 36 ?_;refine tG 20 37 ?_;refine tG 21 4 ?_;refine wpAnyH_done (by kernel_rfl) ?_ _;go_wp2;go_ret;exact TvPost.yes HV.out (bt HB1.out hB5 (Nat.le_refl _))
     ·have d3:decide (mo≤L)=false:=decide_eq_false G
      have HV:Hid (¬t.val k):=fun h=>G (by have:=(h.2 C.out).2.2.2;rw[I.out,M] at this;exact this)
      clear y x G M;go_enter Tryz.func150,Tryz.ntmps150;go_upto_region 1 with(fail)
      rw[g.out];go_upto_region 3 with(fail)
      refine wp_region_held_drew (S:=fun V=>Below s.heap.size s V) (by kernel_rfl) u (fun z=>?_);clear z;refine tG 0 17 ?_;refine tG 1 18 ?_;refine rdyH 2 rfl (fun K m=>?_);go_simp;refine(F.out _ u).mono ?_;rintro r w5 ⟨rfl,o⟩;have hB5:=bt u o (Nat.le_refl _);refine m.out _ _ hB5 (fun f=>?_);clear m K f;refine tG 3 20 ?_;refine tG 4 21 ?_;refine tG 5 22 ?_;refine tG 6 23 ?_;refine tG 7 24 ?_;refine tG 8 25 ?_;refine tG 9 26 ?_;refine tG 10 27 ?_;refine tG 11 28 ?_;refine tG 12 29 ?_;refine tG 13 30 ?_;refine tG 14 31 ?_;refine tG 15 32 ?_;refine tG 16 33 ?_;refine tG 17 34 ?_;refine rdyH 18 rfl (fun K m=>?_);go_simp;refine(A.out _).mono ?_;rintro r w6 ⟨rfl,rfl⟩;refine m.out _ _ hB5 (fun f=>?_);clear m K f;refine tG 19 36 ?_;refine tG 20 37 ?_;refine tG 21 4 ?_;refine wpAnyH_done (by kernel_rfl) ?_ _;go_wp2;go_ret;exact TvPost.no HV.out (bt HB1.out hB5 (Nat.le_refl _))
    ·have d2:decide (1≤mo)=false:=decide_eq_false x
     have HV:Hid (¬t.val k):=fun h=>x (by have:=(h.2 C.out).2.2.1;rw[I.out] at this;exact this)
     clear y x;go_enter Tryz.func150,Tryz.ntmps150;go_upto_region 1 with(fail)
     rw[g.out];go_upto_region 3 with(fail)
     refine wp_region_held_drew (S:=fun V=>Below s.heap.size s V) (by kernel_rfl) u (fun z=>?_);clear z;refine tG 0 17 ?_;refine tG 1 18 ?_;refine rdyH 2 rfl (fun K m=>?_);go_simp;refine(F.out _ u).mono ?_;rintro r w5 ⟨rfl,o⟩;have hB5:=bt u o (Nat.le_refl _);refine m.out _ _ hB5 (fun f=>?_);clear m K f;refine tG 3 20 ?_;refine tG 4 21 ?_;refine tG 5 22 ?_;refine tG 6 23 ?_;refine tG 7 24 ?_;refine tG 8 25 ?_;refine tG 9 26 ?_;refine tG 10 27 ?_;refine tG 11 28 ?_;refine tG 12 29 ?_;refine tG 13 30 ?_;refine tG 14 31 ?_;refine tU 15 32 ?_;refine tU 16 33 ?_;refine tU 17 34 ?_;refine tU 18 35 ?_;refine tU 19 36 ?_;refine tG 20 37 ?_;refine tG 21 4 ?_;refine wpAnyH_done (by kernel_rfl) ?_ _;go_wp2;go_ret;exact TvPost.no HV.out (bt HB1.out hB5 (Nat.le_refl _))
   ·have d1:decide ((D:Int)≤32)=false:=decide_eq_false (by omega)
    have HV:Hid (¬t.val k):=fun h=>y (by have:=(h.2 C.out).1;rw[Q.out] at this;exact this)
    clear y;go_enter Tryz.func150,Tryz.ntmps150;go_upto_region 1 with(fail)
    rw[g.out];go_upto_region 3 with(fail)
    refine wp_region_held_drew (S:=fun V=>Below s.heap.size s V) (by kernel_rfl) u (fun z=>?_);clear z;refine tG 0 17 ?_;refine tG 1 18 ?_;refine rdyH 2 rfl (fun K m=>?_);go_simp;refine(F.out _ u).mono ?_;rintro r w5 ⟨rfl,o⟩;have hB5:=bt u o (Nat.le_refl _);refine m.out _ _ hB5 (fun f=>?_);clear m K f;refine tG 3 20 ?_;refine tG 4 21 ?_;refine tG 5 22 ?_;refine tG 6 23 ?_;refine tG 7 24 ?_;exact Mk
theorem lK (c:Int) (w:World):Calls Tryz.prog 179 #[U Z c] w fun r w'=>r=.returned (U Z (kU c))∧w=w':=by
 unfold kU;by_cases a:c=1
 ·have d1:(c==1)=true:=b1 a
  rw[if_pos a];clear a;go_enter Tryz.func179,Tryz.ntmps179;go_wp2;go_ret;exact⟨rfl,rfl⟩
 ·have d1:(c==1)=false:=b0 a
  rw[if_neg a];clear a;by_cases d:c=2
  ·have d2:(c==2)=true:=b1 d
   rw[if_pos d];clear d;go_enter Tryz.func179,Tryz.ntmps179;go_wp2;go_ret;exact⟨rfl,rfl⟩
  ·have d2:(c==2)=false:=b0 d
   rw[if_neg d];clear d;go_enter Tryz.func179,Tryz.ntmps179;go_wp2;go_ret;exact⟨rfl,rfl⟩
structure ns (lv:Int) (l:List Ob) (i:Nat) (x:Ob):Prop where
 lo:i≤2→x.id=(i:Int)
 hi:2<i→∀y,l[i-1]?=N y→y.id<x.id
 gr:x.id≤kU lv
 vl:x.val.length≤64
theorem jK:∀(l:List Ob) (a:Int),aQ a l=true↔∀(i:Nat) (x:Ob),l[i]?=N x→x.id≤255∧(i=0→a<x.id)∧(0<i→∀y,l[i-1]?=N y→y.id<x.id)
 |[],a=>⟨fun _ i x h=>(by rw[List.getElem?_nil] at h;cases h),fun _=>rfl⟩
 |z::l,a=>by
  have o:=jK l z.id;constructor
  ·intro h i x f
   simp only[aQ,Bool.and_eq_true,decide_eq_true_eq] at h;cases i with
   |zero=>
    cases f;exact⟨h.1.2,fun _=>h.1.1,fun e=>absurd e (Nat.lt_irrefl 0)⟩
   |succ i=>
    rw[List.getElem?_cons_succ] at f;obtain⟨m,g,s⟩:=o.1 h.2 i x f;refine⟨m,fun e=>by omega,fun _ y d=>?_⟩;cases i with
    |zero=>cases d;exact g rfl
    |succ i=>
     rw[show i+1+1-1=i+1 by omega,List.getElem?_cons_succ] at d;exact s (by omega) y (by rw[show i+1-1=i by omega];exact d)
  ·intro h
   simp only[aQ,Bool.and_eq_true,decide_eq_true_eq];obtain⟨m,g,-⟩:=h 0 z rfl;refine⟨⟨g rfl,m⟩,o.2 fun i x f=>?_⟩;obtain⟨r,-,q⟩:=h (i+1) x (by rw[List.getElem?_cons_succ];exact f);refine⟨r,fun e=>?_,fun e y d=>?_⟩
   ·subst e
    exact q (by omega) z rfl
   ·refine q (by omega) y ?_
    obtain⟨j,rfl⟩:∃j,i=j+1:=⟨i-1,by omega⟩
    rw[show j+1+1-1=j+1 by omega,List.getElem?_cons_succ];exact d
theorem Qd (c:Int):kU c≤255:=by
 unfold kU;split
 ·decide
 ·split<;>decide
structure GK (lv:Int) (l:List Ob):Prop where
 on:l.length≤16∧3≤l.length
 ri:aQ (-1) l=true
 o2:∀x,l[2]?=N x→x.id=2
 top:∀x,l[l.length-1]?=N x→(lv=1→x.id≤2)∧(lv=2→x.id≤127)
 vl:∀(i:Nat) (x:Ob),l[i]?=N x→x.val.length≤64
theorem H9 (h:aQ (-1) l=true) (o:i≤j) {x y:Ob} (d:l[i]?=N x) (a:l[j]?=N y):x.id≤y.id:=by
 induction j generalizing y with
 |zero=>
  obtain rfl:i=0:=by omega
  rw[d] at a;cases a;exact Int.le_refl _
 |succ j ih=>
  by_cases e:i=j+1
  ·subst e
   rw[d] at a;cases a;exact Int.le_refl _
  ·have g:j<l.length:=by have:=(List.getElem?_eq_some_iff.1 a).1;omega
   obtain⟨z,f⟩:=gs (l:=l) rfl g;have m:=ih (by omega) f;have q:=((jK l (-1)).1 h (j+1) y a).2.2 (by omega) z (by rw[show j+1-1=j by omega];exact f);omega
theorem Hb (C:l.length≤16) (D:3≤l.length):GK lv l↔∀(i:Nat) (x:Ob),l[i]?=N x→ns lv l i x:=by
 constructor
 ·intro h i x a
  have d:=(jK l (-1)).1 h.ri;obtain⟨s,q⟩:=gs (l:=l) (k:=0) rfl (by omega);obtain⟨u,o⟩:=gs (l:=l) (k:=1) rfl (by omega);obtain⟨r,m⟩:=gs (l:=l) (k:=2) rfl (by omega);have E:=h.o2 r m;have a0:=(d 0 s q).2.1 rfl;have a1:=(d 1 u o).2.2 (by omega) s q;have F:=(d 2 r m).2.2 (by omega) u o;refine⟨fun hi=>?_,fun hi y f=>(d i x a).2.2 (by omega) y f,?_,h.vl i x a⟩
  ·match i,hi with
   |0,_=>rw[q] at a;cases a;show x.id=0;omega
   |1,_=>rw[o] at a;cases a;show x.id=1;omega
   |2,_=>rw[m] at a;cases a;show x.id=2;omega
  ·have G:=(List.getElem?_eq_some_iff.1 a).1
   obtain⟨z,g⟩:=gs (l:=l) (k:=l.length-1) rfl (by omega);have B:=H9 h.ri (show i≤l.length-1 by omega) a g;obtain⟨t1,t2⟩:=h.top z g;have A:=(d _ z g).1;unfold kU;split
   ·have:=t1 (by assumption);omega
   ·split
    ·have:=t2 (by assumption);omega
    ·omega
 ·intro h
  refine⟨⟨C,D⟩,(jK l (-1)).2 fun i x a=>?_,fun x a=>(h 2 x a).lo (by omega),fun x a=>?_,fun i x a=>(h i x a).vl⟩
  ·have hs:=h i x a
   refine⟨Int.le_trans hs.gr (Qd _),fun e=>?_,fun hi y f=>?_⟩
   ·subst e
    have:=hs.lo (by omega);omega
   ·by_cases e:2<i
    ·exact hs.hi e y f
    ·have B:=hs.lo (by omega)
     have A:=(h (i-1) y f).lo (by omega);omega
  ·have:=(h _ x a).gr
   unfold kU at this;refine⟨fun e=>?_,fun e=>?_⟩
   ·rw [if_pos e] at this;exact this
   ·rw [if_neg (by omega),if_pos e] at this;exact this
def dO (lv:Int) (l:List Ob):Prop:=if lv=0 then l.length=0 else (1≤lv∧lv≤3∧GK lv l)
theorem Sl.Ki {s:Sl}:s.val↔aU s.bd s.pa∧1≤s.un∧s.un≤247∧dO s.lv s.ag∧(∀k,k<4→(s.ts k).val k)∧(s.hs=true→1≤s.sd.length∧s.sd.length≤64)∧(s.hs=false→s.sd.length=0):=by
 unfold dO;constructor
 ·intro h
  refine⟨h.set,h.un.1,h.un.2,?_,h.tb,fun e=>⟨h.sv.1 e,h.sl⟩,fun e=>?_⟩
  ·split
   ·exact h.l0 (by assumption)
   ·have:=h.lv
    exact⟨by omega,this.2,h.on (by omega),h.ri (by omega),h.o2 (by omega),h.top (by omega),h.vl (by omega)⟩
  ·have:=h.sv
   rw[e] at this;have:=mt this.2 (by decide);omega
 ·rintro ⟨m,u,r,d,q,f,g⟩
  have o:0≤s.lv∧s.lv≤3:=by
   split at d
   ·omega
   ·omega
  have a:0<s.lv→GK s.lv s.ag:=fun e=>by
   rw[if_neg (by omega)] at d;exact d.2.2
  refine⟨m,⟨u,r⟩,o,q,fun e=>?_,⟨fun e=>(f e).1,fun e=>?_⟩,?_,fun e=>(a e).on,fun e=>(a e).ri,fun e=>(a e).o2,fun e=>(a e).top,fun e=>(a e).vl⟩
  ·rw [if_pos e] at d
   exact d
  ·cases hh:s.hs with
   |true=>rfl
   |false=>have:=g hh;omega
  ·cases hh:s.hs with
   |true=>exact(f hh).2
   |false=>have:=g hh;omega
def nA (w:World) (r:List Value) (s:Sl):Prop:=∃rv ov sv,r=(SlC s rv ov sv).toList∧nO w s rv ov sv
def dm (w:World) (v:Value) (l:List Sl):Prop:=gY 19 nA w v l
theorem nA.ah (w w':World) (r:List Value) (x:Sl) (h:nA w r x) (a:Below w.heap.size w w'):nA w' r x:=by
 obtain⟨f,d,sv,e,h⟩:=h;exact⟨f,d,sv,e,h.ah a⟩
theorem dm.ah {w w':World} {v:Value} {l:List Sl} (h:dm w v l) (a:Below w.heap.size w w'):dm w' v l:=gY.ah nA.ah h a
theorem FB {cs:List Value} (h:Rd Tryz.prog w 68 cs):∃x,nA w cs x:=by
 obtain⟨s,f,a,sv,e,d⟩:=UW (cs:=cs.toArray) (by simpa using h);exact⟨s,f,a,sv,by rw[←e],d⟩
theorem JP (h:Rd Tryz.prog w 28 [v]):∃l,dm w v l:=
 gY.jz (R:=nA) Tryz.underlying28 BW (by decide) (fun _ h=>FB h) h
theorem dm.at {a:Option Addr} {n:Nat} {l:List Sl} (h:dm w (J a n c) l) {s:Sl} (hi:l[i]?=N s):
  ∃b o e d sv,a=N ⟨b,o,M⟩∧nO w s e d sv∧∀j u,(SlC s e d sv)[j]?=N u→w.cell? ⟨b,o+i*19+j,M⟩=N u:=by
 obtain⟨-,-,-,q⟩:=gY.get h;obtain⟨b,o,g,r,y,⟨e,d,sv,rfl,f⟩,m⟩:=q i s hi;exact⟨b,o,e,d,sv,g,f,fun j u x=>m j u (by simpa using x)⟩
theorem dm.KH {l:List Sl} (h:dm w v l):∃a c,v=J a l.length c:=by
 obtain⟨a,c,e,-⟩:=h;exact⟨a,c,e⟩
theorem Ge (s:Sl) (a:Nat→Value) (d sv:Value) (e:k<4):(SlC s a d sv)[3+k*3+1]?=N (a k):=by
 match k,e with
 |0,_=>rfl
 |1,_=>rfl
 |2,_=>rfl
 |3,_=>rfl
def gx (l:List Sl):Prop:=∀s∈l,oN s
theorem rU (a:Option Addr) (c:Nat) (l:List Sl) (n:Int) (w:World) (ln:Nat) (O:l.length=ln) (P:dm w (J a ln c) l) (f:Bool) (R:f=true↔(gx l∧(l.length:Int)≤n)):
  Calls Tryz.prog 45 #[J a ln c,U Z n] w (EJ w f):=by
 have ao:ln≤9223372036854775807:=by have:=gY.len P;rw[O] at this;unfold maxLen at this;omega
 have HL:=hid P;have d:=hid O;have HF:Hid (¬(gx l∧(l.length:Int)≤n)→f=false):=fun h=>by
  cases e:f with
  |false=>rfl
  |true=>exact absurd (R.1 e) h
 have HT:=hid R.2;clear R P O;go_enter Tryz.func45,Tryz.ntmps45;go_wp2_with fail;go_loopw [5,6] (fun K z wr=>∃i:Nat,i≤ln∧K=U Z (i:Int)∧Hid (∀j s,j<i→l[j]?=N s→oN s)∧w=wr) (fun K _ _=>ln- (intOf K).toNat)
 case atStart=>exact⟨0,Nat.zero_le _,rfl,fun j s y=>absurd y (Nat.not_lt_zero _),rfl⟩
 case round=>
  obtain⟨i,hi,rfl,F,rfl⟩:=hrel;have av:(0:Int)≤(i:Int):=Int.natCast_nonneg _;by_cases m:i<ln
  ·have te:(i:Int)<(ln:Int):=by omega
   obtain⟨s,hs⟩:∃s,l[i]?=N s:=⟨_,List.getElem?_eq_getElem (by rw[d.out];exact m)⟩
   obtain⟨b,o,W,ov,sv,rfl,u,A⟩:=HL.out.at hs;obtain⟨oa,oc,rfl,-⟩:=id u.ob;obtain⟨sa,sc,rfl,-⟩:=id u.sd;obtain⟨V,Q⟩:=gE (fq s.ag);have x:Hid (Calls Tryz.prog 91 #[J oa s.ag.length oc] w fun r w'=>r=.returned (.bool V)∧w=w'):=wM _ s.ag w u.ob V Q;have S:w.cell? ⟨b,o+i*19+16,M⟩=N (J oa s.ag.length oc):=A 16 _ rfl;have X:w.cell? ⟨b,o+i*19+18,M⟩=N (J sa s.sd.length sc):=A 18 _ rfl;obtain⟨on,iZ⟩:=gE s.ag.length;obtain⟨sn,B⟩:=gE s.sd.length;rw[iZ] at x S;rw[B] at X;have Xh:=hid Q;have eV:=hid B;have HR:=hid u;have HC:=hid A;have Y:=hid hs;have G:Hid (¬oN s→f=false):=fun h=>HF.out (fun e=>h (e.1 s (List.mem_of_getElem? Y.out)))
   clear u A hs Q iZ B;cases V with
   |false=>
    have q:=hid (G.out (fun h=>by have:=h.1;rw[Xh.out] at this;cases this));go_wp2_with (go_at_call 91;(with_reducible refine x.out.mono ?_);rintro r w2 ⟨rfl,rfl⟩);go_ret;exact⟨by rw[q.out];rfl,rfl⟩
   |true=>
    by_cases ad:80<(sn:Int)
    ·have q:=hid (G.out (fun h=>by have:=h.2.1;rw[eV.out] at this;omega))
     go_wp2_with (go_at_call 91;(with_reducible refine x.out.mono ?_);rintro r w2 ⟨rfl,rfl⟩);go_ret;exact⟨by rw[q.out];rfl,rfl⟩
    ·go_upto_region 7 with(go_at_call 91;(with_reducible refine x.out.mono ?_);rintro r w2 ⟨rfl,rfl⟩)
     clear S X;go_loopw [6] (fun z wr=>∃k:Nat,k≤4∧z=U Z (k:Int)∧Hid (∀i,i<k→(s.ts i).rd.length≤40)∧w=wr) (fun z _=>4- (intOf z).toNat)
     case atStart=>exact⟨0,by omega,rfl,fun i hi=>absurd hi (by omega),rfl⟩
     case round=>
      obtain⟨k,hk,rfl,g,rfl⟩:=hrel;have ab:(0:Int)≤(k:Int):=Int.natCast_nonneg _;by_cases I:k<4
      ·have ak:(k:Int)<4:=by omega
       obtain⟨ra,rc,T,-⟩:=id (HR.out.rg k I);obtain⟨rn,C⟩:=gE ((s.ts k).rd.length);have ct:w.cell? ⟨b,o+i*19+3+k*3+1,M⟩=N (J ra rn rc):=by
        have:=HC.out (3+k*3+1) (W k) (Ge s W _ _ I);rw[show o+i*19+(3+k*3+1)=o+i*19+3+k*3+1 by omega] at this;rw[T,C] at this;exact this
       have rX:=hid C;clear T C;by_cases hr:40<(rn:Int)
       ·have q:=hid (G.out (fun h=>by have:=h.2.2 k I;rw[rX.out] at this;omega))
        go_wp2;go_ret;exact⟨by rw[q.out];rfl,rfl⟩
       ·have Gl:Hid (∀i,i<k+1→(s.ts i).rd.length≤40):=fun i hi=>by
         by_cases e:i=k
         ·subst e;rw[rX.out];omega
         ·exact g.out i (by omega)
        go_wp2;go_roundw
        case rel=>exact⟨k+1,by omega,by go_num,Gl.out,trivial⟩
        case measure=>simp [intOf];omega
      ·obtain rfl:k=4:=by omega
       have E:Hid (∀j t,j<i+1→l[j]?=N t→oN t):=fun j t y D=>by
        by_cases e:j=i
        ·subst e
         rw[Y.out] at D;cases D;exact⟨Xh.out,by rw[eV.out];omega,g.out⟩
        ·exact F.out j t (by omega) D
       go_wp2;go_roundw
       case rel=>exact⟨i+1,by omega,by go_num,E.out,trivial⟩
       case measure=>simp [intOf];omega
  ·obtain rfl:i=ln:=by omega
   have te:¬(i:Int)<(i:Int):=Int.lt_irrefl _;have L:Hid (gx l):=fun s hs=>by
    obtain⟨j,y,e⟩:=List.mem_iff_getElem.1 hs;exact F.out j s (by have:=d.out;omega) (by rw[List.getElem?_eq_getElem y,e])
   have IX:Hid (f=decide ((i:Int)≤n)):=by
    show _=_;by_cases e:(i:Int)≤n
    ·rw [HT.out ⟨L.out,by rw[d.out];exact e⟩,decide_eq_true e]
    ·rw [HF.out (fun h=>e (by have:=h.2;rw[d.out] at this;exact this)),decide_eq_false e]
   clear F hi m;go_wp2;go_ret;exact⟨by rw[IX.out]<;>rfl,rfl⟩
theorem vR (l:List Sl) (n:Int):∃V:Bool,(V=true↔(gx l∧(l.length:Int)≤n))∧∀(w:World) (v:Value),dm w v l→Calls Tryz.prog 45 #[v,U Z n] w (EJ w V):=by
 by_cases h:gx l∧(l.length:Int)≤n
 ·refine ⟨true,⟨fun _=>h,fun _=>rfl⟩,fun w v d=>?_⟩
  obtain⟨a,c,rfl⟩:=d.KH;exact rU a c l n w _ rfl d true ⟨fun _=>h,fun _=>rfl⟩
 ·refine ⟨false,⟨fun e=>(by cases e),fun e=>absurd e h⟩,fun w v d=>?_⟩
  obtain⟨a,c,rfl⟩:=d.KH;exact rU a c l n w _ rfl d false ⟨fun e=>(by cases e),fun e=>absurd e h⟩
theorem tf {C:Array Value} {t:TypeId} {a:Nat×Nat} (h:w.heap[b]?=N (.cells C t a)) (j:Nat) (v:Value) (d:C.toList[j]?=N v):w.cell? ((⟨b,0,M⟩:Addr).add j)=N v:=by
 have e:(⟨b,0,M⟩:Addr).add j=⟨b,j,M⟩:=by unfold Addr.add;split<;>simp_all
 rw[e,hpCell h];simpa using d
theorem bU:∃B:Bool,(B=true↔p):=by
 by_cases h:p
 ·exact ⟨true,fun _=>h,fun _=>rfl⟩
 ·exact ⟨false,fun e=>(by cases e),fun e=>absurd e h⟩
theorem wpList_load_atH {P:Program} {ops:Array Oper} {rest:List Oper} {o:Oper} {a:Act} {Q:Exit→Act→World→Prop} (hw:Region.wanted o (yielded ops a.tmps)=true) (ty:TypeId) (x:Operand) (g:o.op=.load ty x)
  (e:Addr) (q:a.eval x=.pointer (N e)) (cs:Array Value) (d:TypeDesc) (m:∀j v,cs.toList[j]?=N v→w.cell? (e.add j)=N v)
  (hu:P.underlying ty=N d) (f:(match d with|.struct _|.array _ _=>true|_=>false)=true) (hi:(P.info? ty).map (·.size)=N cs.size)
  (h:wpList P ops Q rest (a.put o.dst (.agg cs)) w):wpList P ops Q (o::rest) a w:=
 wpList_step fun K r=>by
  rw[if_pos hw];unfold Oper.wp execOp;simp only[g,q,Instr.loadAt,Instr.sureAddr,Sem.run_bind,Sem.run_pure,Result.andThen_ok,dU w e ty cs d m hu f hi];exact r _ _ h
def cW (l:List Sl):Prop:=l.length≤16∧∀s∈l,s.val
theorem Hk (s:Sl) (d:Nat→Value) (a sv:Value) (V:Bool) (f:V=true↔s.val) (w:World) (g:nO w s d a sv):Calls Tryz.prog 53 #[.agg (SlC s d a sv)] w (aj w V):=
 (o9 s d a sv w g).mono fun r w' ⟨B,h1,h2,h3⟩=>by
  have e:B=V:=by
   cases B<;>cases V
   ·rfl
   ·exact absurd (h2.out.2 (f.1 rfl)) Bool.noConfusion
   ·exact absurd (f.2 (h2.out.1 rfl)) Bool.noConfusion
   ·rfl
  subst e;exact⟨h1,h3⟩
theorem Ry:(Tryz.prog.info? 68).map (·.size)=N 19:=by kernel_rfl
theorem OV (a:Option Addr) (c:Nat) (l:List Sl) (n:Nat) (w:World) (O:l.length=n) (I:dm w (J a n c) l) (V:Bool) (D:V=true↔cW l):
  Calls Tryz.prog 46 #[J a n c] w (aj w V):=by
 have m:=hid O;have S:Hid (¬cW l→V=false):=fun h=>by
  cases e:V with
  |false=>rfl
  |true=>exact absurd (D.1 e) h
 have HT:=hid D.2;have HL:=hid I;clear D O I;go_enter Tryz.func46,Tryz.ntmps46;go_wp2;go_loopw [3] (fun E wr=>∃k:Nat,k≤n∧k≤16∧E=U Z (k:Int)∧Hid (∀i s,i<k→l[i]?=N s→s.val)∧Below w.heap.size w wr) (fun E _=>n- (intOf E).toNat)
 case atStart=>exact⟨0,Nat.zero_le _,Nat.zero_le _,rfl,fun i s hi=>absurd hi (Nat.not_lt_zero _),Below.refl _ _⟩
 case round=>
  obtain⟨k,hk,z,rfl,y,d⟩:=hrel;have X:(0:Int)≤(k:Int):=Int.natCast_nonneg _;by_cases F:k<n
  ·have ab:(k:Int)<(n:Int):=by omega
   by_cases Nf:16≤(k:Int)
   ·have g:=hid (S.out (fun h=>by have:=h.1;rw[m.out] at this;omega))
    go_wp2_with fail;go_ret;exact⟨by rw[g.out]<;>rfl,d⟩
   obtain⟨s,hs⟩:∃s,l[k]?=N s:=⟨_,List.getElem?_eq_getElem (by rw[m.out];exact F)⟩
   obtain⟨b,o,P,K,sv,rfl,T,Q⟩:=(HL.out.ah d).at hs;obtain⟨B,A⟩:=bU (p:=s.val);have u9:=hid (Hk s P K sv B A wr T);obtain⟨C,q⟩:=gE (SlC s P K sv);have hi:(Tryz.prog.info? 68).map (·.size)=N C.size:=by rw[←q];exact Ry
   have G:∀j v,C.toList[j]?=N v→wr.cell? ((⟨b,o+k*19,M⟩:Addr).add j)=N v:=fun j v u=>by
    have e:(⟨b,o+k*19,M⟩:Addr).add j=⟨b,o+k*19+j,M⟩:=by unfold Addr.add;split<;>simp_all
    rw[e];exact Q j v (by rw[q];simpa using u)
   rw[q] at u9;have L:=hid A;have R:=hid hs;clear T Q q A hs;cases B with
   |false=>
    have g:=hid (S.out (fun h=>Bool.noConfusion (L.out.2 (h.2 s (List.mem_of_getElem? R.out)))));go_wp2_with (first
     |(refine wpList_load_atH (by rfl) 68 (.tmp 15) rfl ⟨b,o+k*19,M⟩ rfl C _ G Tryz.underlying68 rfl hi ?_)
     |(go_at_call 53;(with_reducible refine u9.out.mono ?_);rintro r W ⟨rfl,f⟩))
    go_ret;exact⟨by rw[g.out]<;>rfl,bt d f (Nat.le_refl _)⟩
   |true=>
    have Y:Hid (∀i t,i<k+1→l[i]?=N t→t.val):=fun i t hi x=>by
     by_cases e:i=k
     ·subst e
      rw[R.out] at x;cases x;exact L.out.1 rfl
     ·exact y.out i t (by omega) x
    go_wp2_with (first
     |(refine wpList_load_atH (by rfl) 68 (.tmp 15) rfl ⟨b,o+k*19,M⟩ rfl C _ G Tryz.underlying68 rfl hi ?_)
     |(go_at_call 53;(with_reducible refine u9.out.mono ?_);rintro r W ⟨rfl,f⟩))
    go_roundw
    case rel=>exact⟨k+1,by omega,by omega,by go_num,Y.out,bt d f (Nat.le_refl _)⟩
    case measure=>simp [intOf];omega
  ·obtain rfl:k=n:=by omega
   have g:=hid (HT.out ⟨by rw[m.out];exact z,fun s hs=>by
    obtain⟨j,u,e⟩:=List.mem_iff_getElem.1 hs
    exact y.out j s (by rw[←m.out];exact u) (by rw[List.getElem?_eq_getElem u,e])⟩)
   clear y;go_wp2;go_ret;exact⟨by rw[g.out]<;>rfl,d⟩
theorem Ik (l:List Sl):∃V:Bool,(V=true↔cW l)∧∀(w:World) (v:Value),dm w v l→Calls Tryz.prog 46 #[v] w (aj w V):=by
 obtain⟨V,d⟩:=bU (p:=cW l);refine⟨V,d,fun w v e=>?_⟩;obtain⟨a,c,rfl⟩:=e.KH;exact OV a c l _ w rfl e V d
theorem IT (h:bT n):(Lit.int .i64 n).wf=true:=by
 have d:IntKind.i64.min=-9223372036854775808:=by decide
 have a:IntKind.i64.max=9223372036854775807:=by decide
 simp only[Lit.wf,d,a,Bool.and_eq_true,decide_eq_true_eq];exact h
theorem sT (a b c d:Int) (f1:bT a) (f2:bT b) (f3:bT c) (f4:bT d) (B:Bool) (hB:B=true↔a=c∧b=d) (X:World):
  (binOp .eql 61 (.agg #[.int .i64 a,.int .i64 b]) (.agg #[.int .i64 c,.int .i64 d])).run Tryz.prog X=.ok (.bool B) X:=by
 have w1:(Lit.int .i64 a).wf=true:=IT f1;have w2:(Lit.int .i64 b).wf=true:=IT f2;have w3:(Lit.int .i64 c).wf=true:=IT f3;have w4:(Lit.int .i64 d).wf=true:=IT f4;have hk:Tryz.prog.keyTypeAt 3 61=true:=by kernel_rfl
 have hf:(Value.agg #[.int .i64 a,.int .i64 b]).formed Tryz.prog 61=true:=by kernel_rfl
 have hg:(Value.agg #[.int .i64 c,.int .i64 d]).formed Tryz.prog 61=true:=by kernel_rfl
 have c1:Tryz.prog.cellsOf 61=2:=by kernel_rfl
 have c2:Tryz.prog.cellsOf 3=1:=by kernel_rfl
 have ha:Tryz.prog.keyLits 5 61 (Value.agg #[.int .i64 a,.int .i64 b]).cells.toList=some [.int .i64 a,.int .i64 b]:=by
  simp [Program.keyLits,Tryz.underlying61,Tryz.underlying3,w1,w2,c1,c2,Value.cells]
 have hb:Tryz.prog.keyLits 5 61 (Value.agg #[.int .i64 c,.int .i64 d]).cells.toList=some [.int .i64 c,.int .i64 d]:=by
  simp [Program.keyLits,Tryz.underlying61,Tryz.underlying3,w3,w4,c1,c2,Value.cells]
 obtain⟨r,hr,hi⟩:=run_equalIn_deep (P:=Tryz.prog) 9997 3 61 hk X 5 5 _ _ _ _ hf hg ha hb;have e:r=B:=by
  have h2:r=true↔a=c∧b=d:=by rw[hi];simp
  cases r<;>cases B
  ·rfl
  ·exact absurd (h2.2 (hB.1 rfl)) Bool.noConfusion
  ·exact absurd (hB.2 (h2.1 rfl)) Bool.noConfusion
  ·rfl
 subst e;simp only[binOp];simp [Op.equal,Op.maxDepth,hr]
def nZ (bd pa un:Int) (s:Sl):Bool:=decide (s.bd=bd∧s.pa=pa)&&decide (s.un=un)
def bF (l:List Sl) (bd pa un:Int):Nat→List Nat
 |0=>[]
 |k+1=>bF l bd pa un k++(match l[k]? with|some s=>if nZ bd pa un s=true then [k] else []|none=>[])
theorem xQ {l:List Sl} {bd:Int} {s:Sl} (hs:l[k]?=N s) (h:nZ bd pa un s=true):bF l bd pa un (k+1)=bF l bd pa un k++[k]:=by
 show _++(match l[k]? with|some s=>if nZ bd pa un s=true then [k] else []|none=>[])=_;rw[hs];dsimp only;rw[if_pos h]
theorem oQ {l:List Sl} {bd:Int} {s:Sl} (hs:l[k]?=N s) (h:nZ bd pa un s=false):bF l bd pa un (k+1)=bF l bd pa un k:=by
 show _++(match l[k]? with|some s=>if nZ bd pa un s=true then [k] else []|none=>[])=_;rw[hs];dsimp only;rw[if_neg (by rw[h];decide),List.append_nil]
theorem fu {l:List Sl} {bd pa un:Int}:∀{k j:Nat},j∈bF l bd pa un k→∃s,l[j]?=N s∧nZ bd pa un s=true
 |0,j,h=>by cases h
 |k+1,j,h=>by
  rcases List.mem_append.1 h with h|h
  ·exact fu h
  ·cases hs:l[k]? with
   |none=>rw[hs] at h;cases h
   |some s=>
    rw[hs] at h;dsimp only at h;split at h
    ·rw [List.mem_singleton] at h
     subst h;exact⟨s,hs,by assumption⟩
    ·cases h
def tB (w:World) (ms:List Nat) (r:Ending) (w':World):Prop:=
 ∃a c,r=.returned (J a ms.length c)∧w'.ownsRow w.heap.size 3 1 (J a ms.length c) ms.length (ms.map fun i:Nat=>U Z (i:Int))∧Below w.heap.size w w'
theorem NL (h:p:=by
 go_upto_region 5 with(fail)
 go_quiet (fail)
 go_wp2
 go_roundw
 case rel=>exact⟨k+1,b,m,cc,by omega,by go_num,rfl,by show _=_;rw[HNO.out];exact hmb.out,by omega,by rw[HNO.out];exact own_keeps (F:=fun _=>False) hown.out (Keeps.af (below_drewN (Below.refl _ _) _)) (fun _ _ e=>e),below_drewN HBW.out _⟩
 case measure=>simp [intOf];omega):p:=h
theorem sL (a:Option Addr) (c:Nat) (l:List Sl) (n:Nat) (w:World) (hn:l.length=n) (UU:n≤16) (hl:dm w (J a n c) l) (bd pa un:Int) (A:bT bd) (x:bT pa):
  Calls Tryz.prog 17 #[J a n c,.agg #[U Z bd,U Z pa],U Z un] w (tB w (bF l bd pa un n)):=by
 have HN:=hid hn;have HL:=hid hl;have I:=hid A;have jy:=hid x;obtain⟨W0,D⟩:∃W,w.alloc (.cells #[U Z bd,U Z pa] 61)=W:=⟨_,rfl⟩
 have cy:Below w.heap.size w W0:=by rw[←D];exact bal' w _
 have B:W0.heap.size=w.heap.size+1:=by rw[←D];simp
 have p0:W0.heap[w.heap.size]?=N (.cells #[U Z bd,U Z pa] 61):=by rw[←D];exact hpNew w _
 have K:=hid D;have R:=hid cy;have yt:=hid B;have P0:=hid p0;clear hn hl A x D cy B p0;go_enter Tryz.func17,Tryz.ntmps17;go_upto_region 2 with(fail)
 rw[K.out];go_wp2;go_loopw [7,8] (fun dv O wr=>∃(k:Nat) (b:Option Addr) (m cc:Nat),k≤n∧O=U Z (k:Int)∧dv=J b m cc∧Hid ((bF l bd pa un k).length=m)∧m≤k∧Hid (wr.ownsRow W0.heap.size 3 1 (J b m cc) m ((bF l bd pa un k).map fun i:Nat=>U Z (i:Int)))∧Below W0.heap.size W0 wr) (fun _ O _=>n- (intOf O).toNat)
 case atStart=>exact⟨0,none,0,0,Nat.zero_le _,rfl,rfl,rfl,Nat.le_refl _,World.ownsRow_nil _ _ _ _,Below.refl _ _⟩
 case round=>
  obtain⟨k,b,m,cc,hk,rfl,rfl,hmb,ao,hown,f⟩:=hrel;have ab:(0:Int)≤(k:Int):=Int.natCast_nonneg _;have Q:=bt R.out f (Nat.le_refl _);by_cases T:k<n
  ·have ak:(k:Int)<(n:Int):=by omega
   obtain⟨s,hs⟩:∃s,l[k]?=N s:=⟨_,List.getElem?_eq_getElem (by rw[HN.out];exact T)⟩
   obtain⟨b2,o,rv,ov,sv,rfl,V,G⟩:=(HL.out.ah Q).at hs;have y0:wr.cell? ⟨b2,o+k*19,M⟩=N (U Z s.bd):=G 0 _ rfl;have y1:wr.cell? ⟨b2,o+k*19+1,M⟩=N (U Z s.pa):=G 1 _ rfl;have y2:wr.cell? ⟨b2,o+k*19+2,M⟩=N (U Z s.un):=G 2 _ rfl;have x0:wr.cell? ⟨w.heap.size,0,M⟩=N (U Z bd):=hpCell (hpKeep P0.out f) 0;have x1:wr.cell? ⟨w.heap.size,1,M⟩=N (U Z pa):=hpCell (hpKeep P0.out f) 1;obtain⟨y,E⟩:=bU (p:=s.bd=bd∧s.pa=pa);have heq:∀X,(binOp .eql 61 (.agg #[U Z s.bd,U Z s.pa]) (.agg #[U Z bd,U Z pa])).run Tryz.prog X=.ok (.bool y) X:=fun X=>sT _ _ _ _ V.bd V.pa I.out jy.out y E X
   have S:Hid (nZ bd pa un s=(y&&decide (s.un=un))):=by
    show (decide (s.bd=bd∧s.pa=pa)&&_)=_;congr 1;cases y
    ·exact decide_eq_false (fun h=>Bool.noConfusion (E.2 h))
    ·exact decide_eq_true (E.1 rfl)
   have P:=hid hs;have HBW:=hid f;clear V G E hs Q;generalize s.bd=sb at*;generalize s.pa=sp at*;generalize s.un=z at*;cases y with
   |false=>
    have HNO:=hid (oQ P.out (bd:=bd) (pa:=pa) (un:=un) (by rw[S.out];rfl));exact NL
   |true=>
    by_cases hu:z=un
    ·have GY:=hid (xQ P.out (bd:=bd) (pa:=pa) (un:=un) (by rw[S.out,decide_eq_true hu];rfl))
     subst hu;go_upto_region 5 with(fail)
     go_quiet (fail);have bX:(wr.drewN nq).ownsRow W0.heap.size 3 1 (J b m cc) m ((bF l bd pa z k).map fun i:Nat=>U Z (i:Int)):=own_keeps (F:=fun _=>False) hown.out (Keeps.af (below_drewN (Below.refl _ _) _)) (fun _ _ e=>e);have q:Below W0.heap.size W0 (wr.drewN nq):=below_drewN HBW.out _;clear y0 y1 y2 x0 x1 heq;generalize wr.drewN nq=r at*;obtain⟨iI,L,Pa,PH,Qk⟩:=info_parts AM;have d:(r.alloc (.cells #[U Z (k:Int)] 3)).ownsRow W0.heap.size 3 1 (J b m cc) m ((bF l bd pa z k).map fun i:Nat=>U Z (i:Int)):=own_keeps (F:=fun _=>False) bX (Keeps.af (bal' _ _)) (fun _ _ e=>e);have cz:∀j u,([U Z (k:Int)]:List Value)[j]?=N u→(r.alloc (.cells #[U Z (k:Int)] 3)).cell? ((⟨r.heap.size,0,M⟩:Addr).add j)=N u:=fun j u hj=>tf (hpNew r _) j u hj
     have hz:W0.heap.size≤(r.alloc (.cells #[U Z (k:Int)] 3)).heap.size:=by have:=q.size;simp;omega
     have tD:m+1≤maxLen:=by unfold maxLen;omega
     have XJ:(m+1)*8≤140737488355328:=by omega
     go_wp2_with (at_builtin;refine aL rfl (.tmp 31) (.tmp 33) 58 rfl W0.heap.size 3 iI _ 1 8 Tryz.underlying58 L Pa PH Qk rfl (by decide) (J b m cc) m _ rfl d ⟨r.heap.size,0,M⟩ 1 1 [U Z (k:Int)] rfl rfl cz (fun u hu=>(List.mem_singleton.1 hu)▸rfl) tD XJ hz ?_;intro ad fm Y FM QR;obtain⟨ZC,oM,rfl⟩:=own_slice Y);have C:Below W0.heap.size W0 fm:=by
      have A:Below W0.heap.size W0 (r.alloc (.cells #[U Z (k:Int)] 3)):=bta q (Nat.le_refl _) _;exact A.trans ((Keeps.bJ FM (F:=fun j=>(Value.slice b m cc).ownBlock=N j) (fun j e=>e)).below A.size (fun j hj e=>by have:=(d.lt j e).1;omega))
     go_roundw
     case rel=>exact⟨k+1,ZC,m+1,oM,by omega,by go_num,rfl,by show _=_;rw[GY.out,List.length_append,hmb.out];rfl,by omega,by rw[GY.out,List.map_append];exact Y,C⟩
     case measure=>simp [intOf];omega
    ·have HNO:=hid (oQ P.out (bd:=bd) (pa:=pa) (un:=un) (by rw[S.out,decide_eq_false hu];rfl))
     have g1:(z==un)=false:=by rw[beq_eq_false_iff_ne];exact hu
     have g2:decide (z=un)=false:=decide_eq_false hu;exact NL
  ·obtain rfl:k=n:=by omega
   go_wp2;go_ret;have hm:=hmb.out;subst hm;have h:=hown.out;obtain⟨om,x⟩:=h;refine⟨b,cc,rfl,⟨om,?_⟩,Q⟩;rcases x with x|⟨g,cap,cur,hv,hg,h3⟩
   ·exact .inl x
   ·exact .inr ⟨g,cap,cur,hv,by have:=yt.out;omega,h3⟩
