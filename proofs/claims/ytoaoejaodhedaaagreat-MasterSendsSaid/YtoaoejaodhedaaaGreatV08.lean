import Derived.Test.YtoaoejaodhedaaaGreatV07
namespace Go.Proofs.YtoaoejaodhedaaaGreat
open Go.RowKit
open Option renaming none→J,some→N
open Value renaming int→U
open IntKind renaming i64→Y
open Ending renaming returned→O
set_option maxHeartbeats 6400000
set_option maxRecDepth 100000
variable {c:Cf} {f:Fx} {gl gm:Nat} {P PL Q:Nat→Prop} {sv:Value} {w w':World}
structure Lw (c:Cf):Prop where
 ne:1≤c.bj.length
 le:c.bj.length≤6
 set:∀x∈c.bj,aU x.1 x.2
 sb:jV c.bj=true
 rq:0≤c.re
 qS:c.re≤5
 mW:1≤c.ti
 oj:c.ti≤5000000
 oy:0≤c.de
 o7:c.de≤5000000
theorem Eu:∀(l:List (Int×Int)) (p:Option (Int×Int)),cE p l=true→∀x∈l,tS x=true
 |[],_,_,x,hx=>by cases hx
 |a::l,p,h,x,hx=>by
  simp only[cE,Bool.and_eq_true] at h;rcases List.mem_cons.1 hx with e|e
  ·subst e;exact h.1.1
  ·exact Eu l _ h.2 x e
theorem Lw.of (h:oA c=0):Lw c:=by
 unfold oA at h;split at h
 ·rename_i hs
  have g:=hs;unfold jV at hs;simp only[Bool.and_eq_true,decide_eq_true_eq] at hs;split at h
  ·rename_i e
   unfold mR at e;simp only[Bool.and_eq_true,decide_eq_true_eq] at e;obtain⟨-,-,a,b,d,-⟩:=e;have a:=jP.1 a;have b:=jP.1 b;have d:=jP.1 d;exact⟨hs.2.1,hs.2.2,fun x i=>uo.1 (Eu _ _ hs.1 x i),g,a.1,a.2,b.1,b.2,d.1,d.2⟩
  ·omega
 ·omega
def Dg (w:World) (r:Ending) (w':World):Prop:=∃I,r=O (U Y I)∧0≤I∧I≤20000000∧Below w.heap.size w w'
theorem Vt (P:Program) (x y m:Int) (e:(if x<y then y else x)=m) (ts:Array TypeId) (T:TypeId) (W:World):(Builtin.max_ ts T #[U Y x,U Y y]).run P W=.ok (U Y m) W:=by
 subst e;simp [Builtin.max_,Builtin.max2]
theorem Ko (c:Cf) (q:Lw c) (sv:Value) (w:World) (hs:dw w sv c.bj):Calls Tryz.prog 58 #[sv,U Y c.ti,U Y c.de] w (Dg w):=by
 have E:=hid (sG sv c.bj w hs true q.sb);obtain⟨n,hn⟩:=gE c.bj.length;obtain⟨a,cc,rfl,jU,ft,-⟩:=id hs;have L:=hid hn;rw[hn] at E hs jU ⊢;obtain⟨ti,C⟩:=gE c.ti;obtain⟨de,G⟩:=gE c.de;have HC:=hid q;have HS:=hid hs;have d:Hid ((1≤ti∧ti≤5000000)∧0≤de∧de≤5000000):=by rw[←C,←G];exact⟨⟨q.mW,q.oj⟩,q.oy,q.o7⟩
 have N:Hid (∀n,0≤n→n≤5000000→∀X,Calls Tryz.prog 100 #[U Y n] X fun r w'=>r=O (.bool true)∧X=w'):=fun n h1 h2 X=>qG n h1 h2 X
 have CO:Hid (∀X,Calls Tryz.prog 100 #[U Y ti] X fun r w'=>r=O (.bool true)∧X=w'):=N.out ti (by have:=d.out;omega) (by have:=d.out;omega);have KU:Hid (∀X,Calls Tryz.prog 100 #[U Y de] X fun r w'=>r=O (.bool true)∧X=w'):=N.out de (by have:=d.out;omega) (by have:=d.out;omega);rw[C,G];clear q hs jU ft N C G hn;go_enter Tryz.func58,Tryz.ntmps58;go_upto_region 5 with(first
  |(go_at_call 99;(with_reducible refine E.out.mono ?_);rintro r w1 ⟨rfl,A⟩)
  |(go_at_call 100;(first|(with_reducible refine(CO.out _).mono ?_)|(with_reducible refine(KU.out _).mono ?_));rintro r w2 ⟨rfl,rfl⟩))
 have I:=hid A;clear E CO KU A;go_loopw [7,8,26] (fun dv fv iv wr=>∃(D F:Int) (k:Nat),k≤n∧dv=U Y D∧fv=U Y F∧iv=U Y (k:Int)∧Hid ((0≤D∧D≤13000000)∧0≤F∧F≤2400000)∧Below w.heap.size w wr) (fun _ _ iv _=>n- (intOf iv).toNat)
 case atStart=>exact⟨0,0,0,Nat.zero_le _,rfl,rfl,rfl,(by show _∧_;decide),I.out⟩
 case round=>
  obtain⟨D,F,k,hk,rfl,rfl,rfl,u,e⟩:=hrel;have aX:(0:Int)≤(k:Int):=Int.natCast_nonneg _;have J:=hid e;by_cases ao:k<n
  ·obtain ⟨x,hx⟩:=gs (l:=c.bj) L.out ao
   obtain⟨b,o,c',jo,-,-,fO⟩:=HS.out.at hx;rw[L.out] at jo;simp only[Value.slice.injEq,true_and] at jo;obtain⟨rfl,rfl⟩:=jo;have y:Hid (aU x.1 x.2):=HC.out.set x (List.mem_of_getElem? hx);obtain⟨y0,y1⟩:=fO wr e;obtain⟨t,B⟩:=x;dsimp only at y0 y1 y;have ak:(k:Int)<(n:Int):=by omega
   obtain⟨t1,t2,-,-,t5,t6⟩:=bV y.out;have z:=hid (fun X=>vr t B ti de y (by have:=d.out;omega) (by have:=d.out;omega) (by have:=d.out;omega) (by have:=d.out;omega) X);have S:=hid (fun X=>sx t B y 256 (Nat.le_refl _) X);obtain⟨s,i⟩:=gE (cu t ti de);obtain⟨g,j⟩:=gE (aK t 256);rw[i] at z;rw[j] at S;have Z:0≤s∧s≤13000000:=by
    rw[←i];have:=d.out;unfold cu;omega
   have ab:0≤g∧g≤2400000:=by
    rw[←j];unfold aK;omega
   obtain⟨v,m⟩:∃M,(if D<s then s else D)=M:=⟨_,rfl⟩
   obtain⟨M2,p⟩:∃M,(if F<g then g else F)=M:=⟨_,rfl⟩
   have m1:∀ts T W,(Builtin.max_ ts T #[U Y D,U Y s]).run Tryz.prog W=.ok (U Y v) W:=Vt Tryz.prog D s v m;have m2:∀ts T W,(Builtin.max_ ts T #[U Y F,U Y g]).run Tryz.prog W=.ok (U Y M2) W:=Vt Tryz.prog F g M2 p;have HM:Hid ((0≤v∧v≤13000000)∧0≤M2∧M2≤2400000):=by
    have:=u.out;refine⟨?_,?_⟩
    ·rw [←m]
     split<;>omega
    ·rw [←p]
     split<;>omega
   have Cd:Hid (∀X,Calls Tryz.prog 102 #[.agg #[U Y t,U Y B],U Y 256] X fun r w'=>r=O (U Y g)∧Below X.heap.size X w'):=fun X=>S.out X
   have zH:IntKind.i64.wrap ((k:Int)+1)=(k:Int)+1:=IntWalk.i64_in _ (by have:=HC.out.le;rw[L.out] at this;omega);obtain⟨V,Ap,wS,px⟩:=eY wr (.cells #[U Y t,U Y B] 61);have z0:=cF px 0 rfl;have z1:=cF px 1 rfl;have R:=hid Ap;have K:=hid (bt e wS (Nat.le_refl _));clear m p i j Z ab hx fO S t1 t2 t5 t6 y Ap wS px e;go_upto_region 7 with(fail)
   rw[R.out];have kD:Below V.heap.size V V:=Below.refl _ _;go_wp2_with (first
    |(go_at_call 101;(with_reducible refine(z.out _).mono ?_);rintro r w3 ⟨rfl,ad⟩)
    |(go_at_call 102;(with_reducible refine(Cd.out _).mono ?_);rintro r w4 ⟨rfl,dh⟩;have av:=bt ad dh (Nat.le_refl _)))
   go_roundw
   case rel=>exact⟨v,M2,k+1,by omega,rfl,rfl,by go_num,HM.out,bt K.out av (Nat.le_refl _)⟩
   case measure=>simp [intOf];omega
  ·obtain rfl:k=n:=by omega
   have ak:¬(k:Int)<(k:Int):=by omega
   obtain⟨⟨d0,d1⟩,f0,f1⟩:=u.out;have hs:IntKind.i64.wrap (D+F)=D+F:=IntWalk.i64_in _ (by omega);go_wp2;go_ret;exact⟨D+F,rfl,by omega,by omega,J.out⟩
theorem qV:(Tryz.prog.info? 27).map (·.size)=N 16:=by kernel_rfl
def Ft (c:Cf) (lv:Value) (tick:Int) (w:World) (r:Ending) (w':World):Prop:=∃gm sv,r=O (.tuple #[.pointer (N ⟨gm,0,J⟩),U Y 0])∧w.heap.size≤gm∧w'.heap[gm]?=N (.cells #[sv,U Y c.fi,U Y c.la,U Y c.re,U Y c.ti,U Y c.de,U Y (c.aq 0).1,U Y (c.aq 0).2,U Y (c.aq 1).1,U Y (c.aq 1).2,U Y (c.aq 2).1,U Y (c.aq 2).2,U Y (c.aq 3).1,U Y (c.aq 3).2,U Y c.ev,U Y c.st,lv,.pointer none,U Y 0,U Y tick] 129)∧(∀X,Keeps (fun j=>j<w.heap.size∨j=gm) w' X→dw X sv c.bj)∧Below w.heap.size w w'
theorem Ec (c:Cf) (K:oA c=0) (sv:Value) (gl:Nat) (tick:Int) (t0:0≤tick) (t1:tick≤576460752303423488) (w:World) (hs:dw w sv c.bj):
  Calls Tryz.prog 25 #[.agg (yh c sv),.pointer (N ⟨gl,0,J⟩),U Y tick] w (Ft c (.pointer (N ⟨gl,0,J⟩)) tick w):=by
 have Z:=Lw.of K;obtain⟨C,m⟩:=gE (yh c sv);have hi:(Tryz.prog.info? 27).map (·.size)=N C.size:=by rw[←m];exact qV
 obtain⟨W0,u⟩:=gE (w.alloc (.cells C 27));have B:Below w.heap.size w W0:=by rw[←u];exact bal' w _
 have v:W0.heap.size=w.heap.size+1:=by rw[←u];simp
 have y:W0.heap[w.heap.size]?=N (.cells C 27):=by rw[←u];exact hpNew w _
 have vY:Hid (Calls Tryz.prog 70 #[.agg C] W0 (jL W0 0)):=by rw[←m];exact zs c _ W0 (hs.ah B) 0 K
 have c0:∀X,Below W0.heap.size W0 X→X.cell? ⟨w.heap.size,0,J⟩=N sv:=fun X h=>by rw[hpCell (hpKeep y h),←m];rfl
 have f0:∀X,Below W0.heap.size W0 X→X.frozen? ⟨w.heap.size,0,J⟩=false:=fun X h=>hpFree (hpKeep y h) 0
 have td:Hid (∀X,Below W0.heap.size W0 X→Calls Tryz.prog 71 #[sv] X (eF X c.bj)):=fun X o=>DN _ c.bj X (hs.ah (bt B o (Nat.le_refl _))) (by have:=Z.le;omega)
 have F:Hid (∀x∈c.bj,bT x.1∧bT x.2):=hs.Wz;have g1:decide (tick<0)=false:=decide_eq_false (by omega);have g2:decide (576460752303423488<tick)=false:=decide_eq_false (by omega);obtain⟨sa,sn,sc,rfl⟩:∃a n c,sv=.slice a n c:=by
  obtain⟨a,cc,e,-⟩:=id hs;exact⟨a,_,cc,e⟩
 have E:=hid u;have q:=hid B;have Fo:=hid v;have P0:=hid y;have HC:=hid m;rw[m];clear hs m u B v K t0 t1;go_enter Tryz.func25,Tryz.ntmps25;go_upto_region 1 with(fail)
 rw[E.out];go_upto_region 8 with(first
  |(refine wpList_load_row rfl 27 (.tmp 3) rfl w.heap.size rfl 27 C (0,0) _ y Tryz.underlying27 rfl hi ?_)
  |(go_at_call 70;(with_reducible refine vY.out.mono ?_);rintro r w1 ⟨rfl,b⟩;have I:=c0 w1 b)
  |(go_at_call 71;(with_reducible refine(td.out _ b).mono ?_);rintro r z V;obtain⟨t,c2,rfl,T,d⟩:=V.AI F.out;have O:=c0 z (bt b d (Nat.le_refl _));have R:=f0 z (bt b d (Nat.le_refl _))))
 obtain⟨g,i⟩:∃W,z.setCell ⟨w.heap.size,0,J⟩ (.slice t c.bj.length c2)=W:=⟨_,rfl⟩
 have D:=bt b d (Nat.le_refl _);have p3:g.heap[w.heap.size]?=N (.cells #[(.slice t c.bj.length c2),U Y c.fi,U Y c.la,U Y c.re,U Y c.ti,U Y c.de,U Y (c.aq 0).1,U Y (c.aq 0).2,U Y (c.aq 1).1,U Y (c.aq 1).2,U Y (c.aq 2).1,U Y (c.aq 2).2,U Y (c.aq 3).1,U Y (c.aq 3).2,U Y c.ev,U Y c.st] 27):=by
  have h:=hpKeep P0.out D;rw[←HC.out] at h;rw[←i];exact hpSetE h rfl
 have l:Keeps (· =w.heap.size) z g:=by rw[←i];exact ks1 (Keeps.refl _ _) _ _
 have L:=b.size;have M:=d.size;have S:=Fo.out;have A:ay w1.heap.size z g:=ay.dg l (fun k e=>by omega);have s:Hid (Below w.heap.size w g):=(bt q.out D (Nat.le_refl _)).trans (l.below (by have:=q.out.size;have:=D.size;omega) (fun j hj e=>by omega));have p:Hid (∀X,ay w1.heap.size g X→dw X (.slice t c.bj.length c2) c.bj):=fun X o=>T X (A.trans o)
 have G:Hid (w.heap.size≤w1.heap.size):=by show _≤_;omega
 rw[i];obtain⟨n,hn⟩:=gE c.bj.length;rw[hn] at p3 p ⊢;clear hn V c0 f0 I O R i l A T b d D L M S td vY y Z;go_wp2_with (refine wpList_load_row rfl 27 (.tmp 3) rfl w.heap.size rfl 27 #[(.slice t n c2),U Y c.fi,U Y c.la,U Y c.re,U Y c.ti,U Y c.de,U Y (c.aq 0).1,U Y (c.aq 0).2,U Y (c.aq 1).1,U Y (c.aq 1).2,U Y (c.aq 2).1,U Y (c.aq 2).2,U Y (c.aq 3).1,U Y (c.aq 3).2,U Y c.ev,U Y c.st] (0,0) _ p3 Tryz.underlying27 rfl qV ?_);go_ret2;refine⟨g.heap.size,.slice t n c2,rfl,s.out.size,hpNew g _,fun X o=>p.out X ?_,bta s.out (Nat.le_refl _) _⟩;exact⟨Nat.le_trans (bal' g _).size o.size,fun k h1 h2=>(o.block k (by simp;omega) (fun e=>by have e':k<w.heap.size∨k=g.heap.size:=e;have:=G.out;omega)).trans ((bal' g _).block k h2)⟩
theorem lr.start {n:Ln} {tick:Int} (d:cU PL w gl (.slice f.la f.ln f.lc) (.slice f.aa f.an f.ac) f.lp n) (l:IA PL w f.la f.ln f.lc f.aa f.an f.ac f.l f.aC f.lp) (k:n.ok) (sV:oA c=0)
  (o:w.heap.size≤gm) (g:w'.heap[gm]?=N (.cells #[sv,U Y c.fi,U Y c.la,U Y c.re,U Y c.ti,U Y c.de,U Y (c.aq 0).1,U Y (c.aq 0).2,U Y (c.aq 1).1,U Y (c.aq 1).2,U Y (c.aq 2).1,U Y (c.aq 2).2,U Y (c.aq 3).1,U Y (c.aq 3).2,U Y c.ev,U Y c.st,.pointer (N ⟨gl,0,J⟩),.pointer none,U Y 0,U Y tick] 129))
  (p:∀X,Keeps (fun j=>j<w.heap.size∨j=gm) w' X→dw X sv c.bj) (a:Below w.heap.size w w') (x:Tx) (s:Lk):
  lr gm gl 0 0 (fun j=>PL j∨j=gm) PL (fun _=>False) c sv f ⟨n,false,x,0,tick⟩ s w':=by
 have b:=d.Ri;have i:=hpLt g;exact{
   at_:=g
   ln:=d.ah (F:=fun _=>False) (Keeps.af a) (fun _ _ e=>e)
   G:=l.next (Keeps.af a) (fun j q e=>by
    rcases e with e|e
    ·exact e
    ·omega)
   Rj:=k
   pk:=fun e=>by cases e
   Lv:=fun _ e=>e.elim
   Jw:=fun _ _ e=>e
   CS:=fun e=>by have:=b gm e;omega
   JL:=fun e=>e
   pl:=fun j e=>.inl e
   pq:=fun _ e=>e.elim
   pm:=.inr rfl
   yU:=fun j e=>by
    rcases e with e|e
    ·exact Nat.lt_of_lt_of_le (b j e) a.size
    ·rw [e];exact i
   AI:=fun X m=>p X (m.mono (fun j _ e=>by
    rcases e with e|e
    ·exact .inl (b j e)
    ·exact .inr e))
   sV:=sV}
theorem infoRq5:(Tryz.prog.info? 45).map (·.size)=N 5:=by kernel_rfl
theorem nW:(Tryz.prog.info? 61).map (·.size)=N 2:=by kernel_rfl
def MNo (E:Int) (w:World) (r:Ending) (w':World):Prop:=r=O (U Y E)∧Below w.heap.size w w'
def Sf (gm gl:Nat) (P:Nat→Prop) (c:Cf) (sv:Value) (f:Fx) (y:Ms) (kk:Nat) (w:World) (r:Ending) (w':World):Prop:=∃gj k PL Q s,r=O (U Y 0)∧lr gm gl gj k (ax P w w') PL Q c sv f y s w'∧Keeps P w w'∧k≤kk
def bgE (un:Int) (q:Rq):Int:=if 1≤un∧un≤247 then (if q.ok=true then 0 else 5) else 3
theorem yM {gj k:Nat} {y:Ms} {s:Lk} (h:lr gm gl gj k P PL Q c sv f y s w) (hz:Hid ((y.b&&(y.x.kind !=3))=false)) (i:Nat) (F G:Int) (hx:c.bj[i]?=N (F,G)) (un A x C z B:Int) (xg:0≤y.now) (sY:y.now≤600000000000000000) (E:Int) (hE:bgE un ⟨A,x,C,z,B⟩=E):
  Calls Tryz.prog 26 #[.pointer (N ⟨gm,0,J⟩),U Y (i:Int),U Y un,.agg #[U Y A,U Y x,U Y C,U Y z,U Y B]] w fun r w'=>(E≠0→MNo E w r w')∧(E=0→Sf gm gl P c sv f ⟨y.n,true,(Tx.new F G c.re c.ti c.de).begun un ⟨A,x,C,z,B⟩ y.now,i,y.now⟩ 1 w r w'):=by
 have m:=Lw.of h.sV;obtain⟨W0,ep⟩:∃W,w.alloc (.cells #[U Y A,U Y x,U Y C,U Y z,U Y B] 45)=W:=⟨_,rfl⟩
 have fB:Below w.heap.size w W0:=by rw[←ep];exact bal' w _
 have bc:W0.heap.size=w.heap.size+1:=by rw[←ep];simp
 have p0:W0.heap[w.heap.size]?=N (.cells #[U Y A,U Y x,U Y C,U Y z,U Y B] 45):=by rw[←ep];exact hpNew w _
 have h0:=h.bW fB;have Rw:=hid (BQ h0 false hz);have ez:Hid (aU F G):=m.set (F,G) (List.mem_of_getElem? hx);have tt:i<c.bj.length:=(List.getElem?_eq_some_iff.1 hx).1;have a5:Hid (∀X,Calls Tryz.prog 72 #[.agg #[U Y F,U Y G],U Y c.re,U Y c.ti,U Y c.de] X (GA X (Lk.new F G c.re c.ti c.de))):=fun X=>EP F G c.re c.ti c.de ez m.rq m.qS m.mW m.oj m.oy m.o7 X
 obtain⟨b,o,cc,rfl,-,-,fO⟩:=(h.AI w (Keeps.refl _ _)).at hx;obtain⟨n,hn⟩:=gE c.bj.length;obtain⟨now,xh⟩:=gE y.now;obtain⟨re,AG⟩:=gE c.re;obtain⟨ti,E7⟩:=gE c.ti;obtain⟨de,ES⟩:=gE c.de;have rf:=h0.at_;unfold MC at rf;rw[hn,xh,AG,E7,ES] at rf;have HC:=hid fO;have zM:=hid rf;have HG:=hid m;have H0:=hid h0;have H:=hid h;have CX:=hid (And.intro hn (And.intro xh (And.intro AG (And.intro E7 ES))));rw[xh] at xg sY;rw[AG,E7,ES] at a5;have ca:(i:Int)<(n:Int):=by omega
 have b6:(0:Int)≤(i:Int):=Int.natCast_nonneg _;have g1:decide ((i:Int)<0)=false:=decide_eq_false (by omega);have g2:decide ((n:Int)≤(i:Int))=false:=decide_eq_false (by omega);have c0:∀X,Below W0.heap.size W0 X→X.cell? ⟨gm,0,J⟩=N (.slice (N ⟨b,o,J⟩) n cc):=fun X g=>(hpCell (hpKeep zM.out g) 0).trans rfl
 have bK:=hid ep;have ab:=hid fB;have Fo:=hid bc;have P0:=hid p0;have I9:=hid hE;have XR:=ez;clear h h0 rf m ep fB bc p0 fO hn xh AG E7 ES hx tt hE ez;go_enter Tryz.func26,Tryz.ntmps26;go_upto_region 1 with(fail)
 rw[bK.out];go_upto_region 7 with(go_at_call 57;(with_reducible refine Rw.out.mono ?_);rintro r w1 ⟨rfl,Z⟩;have bX:=c0 w1 Z)
 have O:=hid Z;have I3:=hid (hpKeep zM.out Z);have kD:Below w1.heap.size w1 w1.drew:=(Below.refl _ _).drew;have y0:∀X,Below w1.heap.size w1 X→X.cell? ⟨gm,0,J⟩=N (.slice (N ⟨b,o,J⟩) n cc):=fun X g=>(hpCell (hpKeep I3.out g) 0).trans rfl
 have y3:∀X,Below w1.heap.size w1 X→X.cell? ⟨gm,3,J⟩=N (U Y re):=fun X g=>(hpCell (hpKeep I3.out g) 3).trans rfl
 have y4:∀X,Below w1.heap.size w1 X→X.cell? ⟨gm,4,J⟩=N (U Y ti):=fun X g=>(hpCell (hpKeep I3.out g) 4).trans rfl
 have y5:∀X,Below w1.heap.size w1 X→X.cell? ⟨gm,5,J⟩=N (U Y de):=fun X g=>(hpCell (hpKeep I3.out g) 5).trans rfl
 have LZ:Hid (∀X,Below w1.heap.size w1 X→∀j u,(#[U Y F,U Y G]:Array Value).toList[j]?=N u→X.cell? ((⟨b,o+i*2,J⟩:Addr).add j)=N u):=fun X g j u l=>by
  obtain⟨e0,e1⟩:=HC.out X (bt (bt ab.out O.out (Nat.le_refl _)) g (Nat.le_refl _));rw[Addr.add_lit];rcases j with _|_|j
  ·cases l;exact e0
  ·cases l;exact e1
  ·cases l
 clear c0 bX Z Rw;refine wp_region_held_drew (S:=fun V=>Below w1.heap.size w1 V) (by kernel_rfl) kD (fun hH=>?_);clear hH;refine tG 0 32 ?_;refine tG 1 33 ?_;refine tG 2 34 ?_;refine tG 3 35 ?_;refine tG 4 36 ?_;refine tG 5 37 ?_;refine tG 6 38 ?_;refine tkD 7 39 (v:=.agg #[U Y F,U Y G]) rfl (by kernel_rfl) (fun _ _ _ h=>h) rfl (by rfl) (by assumption) (fun X g=>run_load_rowT 61 (.tmp 38) rfl ⟨b,o+i*2,J⟩ rfl #[U Y F,U Y G] _ (LZ.out X g) Tryz.underlying61 rfl nW) ?_;simp only[setS];refine tG 8 40 ?_;refine tG 9 41 ?_;refine tG 10 42 ?_;refine tG 11 43 ?_;refine tG 12 44 ?_;refine tG 13 45 ?_;refine tG 14 46 ?_;refine tG 15 47 ?_;refine tG 16 48 ?_;refine tG 17 49 ?_;refine tG 18 50 ?_;refine tG 19 51 ?_;refine tG 20 52 ?_;refine tG 21 53 ?_;refine tG 22 54 ?_;refine rdyH 23 rfl (fun K hK=>?_);go_simp;refine(a5.out _).mono ?_;rintro r t ⟨g2,rfl,a8,lQ,a6⟩;have L:=bt kD a6 (Nat.le_refl _);refine hK.out _ _ L (fun ak=>?_);clear hK K ak;refine tG 24 31 ?_;refine tG 25 56 ?_;refine tG 26 57 ?_;refine tG 27 9 ?_;refine tG 28 10 ?_;refine wpAnyH_done (by kernel_rfl) ?_ _;obtain⟨LV,QA⟩:=gE (T0 y.b gj);obtain⟨bZ,a2⟩:=gE y.set;rw[QA,a2] at I3;obtain⟨I,ad⟩:∃Q,iK (fun _=>False) w1.drew t=Q:=⟨_,rfl⟩
 have bC:Hid (PK g2 0 I (Tx.new F G re ti de) (Lk.new F G re ti de) t):=by
  have m:=HG.out;obtain⟨e1,e2,e3,e4,e5⟩:=CX.out;rw[←ad,←e3,←e4,←e5];rw[←e3,←e4,←e5] at lQ;exact PK.new (W:=w1.drew) XR.out m.rq m.qS m.mW m.oj m.oy m.o7 lQ a8
 have Vk:Hid (∀j,I j→w1.heap.size≤j):=fun j l=>by
  rw[←ad] at l;rcases l with e|e
  ·exact e.elim
  ·exact e.1
 have nk:=hid L;have D:Hid (w.heap.size+1≤w1.heap.size∧gm<w.heap.size):=⟨by have:=O.out.size;have:=Fo.out;omega,H.out.yU gm H.out.pm⟩
 have av:¬I gm:=fun e=>by have:=Vk.out _ e;have:=D.out;omega
 have ba:¬I w.heap.size:=fun e=>by have:=Vk.out _ e;have:=D.out;omega
 have p2:=hpKeep I3.out L;have pr:=hpKeep (hpKeep P0.out O.out) L;have b4:∀X,Keeps I t X→X.cell? ⟨gm,19,J⟩=N (U Y now):=fun X g=>(hpCell (hpKeeps p2 g av) 19).trans rfl
 have Qn:Hid (∀X,Keeps I t X→∀j u,(#[U Y A,U Y x,U Y C,U Y z,U Y B]:Array Value).toList[j]?=N u→X.cell? ((⟨w.heap.size,0,J⟩:Addr).add j)=N u):=fun X g j u l=>by
  rw[Addr.add_lit,Nat.zero_add,hpCell (hpKeeps pr g ba)];simpa using l
 have aX:Below t.heap.size t t.drew:=(Below.refl _ _).drew;have aY:Keeps I t t.drew:=Keeps.af aX;obtain⟨x',Wy,a7⟩:∃x',(E=0→x'=(Tx.new F G re ti de).begun un ⟨A,x,C,z,B⟩ now)∧Calls Tryz.prog 73 #[.pointer (N ⟨g2,0,J⟩),U Y un,.agg #[U Y A,U Y x,U Y C,U Y z,U Y B],U Y now] t.drew (j9 g2 1 I x' E t.drew):=by
  have hp:=bC.out.keeps (Q:=fun _=>False) (Keeps.af aX) (fun _ _ e=>e);have he:=I9.out;unfold bgE at he;by_cases hu:1≤un∧un≤247
  ·rw [if_pos hu] at he
   cases hq:Rq.ok ⟨A,x,C,z,B⟩ with
   |true=>
    rw[hq,if_pos rfl] at he;subst he;exact⟨_,fun _=>rfl,ED hp (.inl rfl) (by omega) un A x C z B now hu.1 hu.2 xg (by unfold tb;omega) hq⟩
   |false=>
    rw[hq,if_neg (by decide)] at he;subst he;exact⟨_,fun e=>absurd e (by decide),ry hp (.inl rfl) un A x C z B now hu.1 hu.2 xg (by omega) hq⟩
  ·rw [if_neg hu] at he
   subst he;exact⟨_,fun e=>absurd e (by decide),pC hp (.inl rfl) un A x C z B now (fun k=>hu ⟨k.1,k.2.1⟩)⟩
 have Xm:=hid a7;have bQ:=hid Wy;have b5:=hid (And.intro QA a2);clear y0 y3 y4 y5 lQ a8 a6 L kD a7 Wy QA a2 ad xg sY;go_upto_region 10 with(fail)
 refine wp_region_held_drew (S:=fun V=>Keeps I t V) (by kernel_rfl) aY (fun hH=>?_);clear hH;refine tG 0 61 ?_;refine tG 1 62 ?_;refine tkD 2 63 (v:=.agg #[U Y A,U Y x,U Y C,U Y z,U Y B]) rfl (by kernel_rfl) (fun _ _ _ h=>h) rfl (by rfl) (by assumption) (fun X g=>run_load_rowT 45 (.tmp 7) rfl ⟨w.heap.size,0,J⟩ rfl #[U Y A,U Y x,U Y C,U Y z,U Y B] _ (Qn.out X g) Tryz.underlying45 rfl infoRq5) ?_;simp only[setS];refine tG 3 64 ?_;refine tG 4 65 ?_;refine tG 5 66 ?_;refine tG 6 67 ?_;refine rdyH 7 rfl (fun K hK=>?_);go_simp;refine Xm.out.mono ?_;rintro r w3 ⟨s',rfl,bx,bo⟩;have M:Keeps I t w3:=aY.trans bo (fun _ _ e=>e);refine hK.out _ _ M (fun ak=>?_);clear hK K ak;refine tG 8 11 ?_;refine wpAnyH_done (by kernel_rfl) ?_ _;have a3:Hid (Below w.heap.size w w3):=by
  have h1:Below w.heap.size w t:=(ab.out.trans (O.out.mono ab.out.size)).trans (nk.out.mono (by have:=D.out;omega));exact h1.trans (M.below (by have:=nk.out.size;have:=D.out;omega) (fun j l e=>by have:=Vk.out _ e;have:=D.out;omega))
 have p3:=hpKeeps p2 M av;have bA:=hid p3;have bn:=hid bx;have b8:=hid M;have WT:w3.cell? ⟨gm,17,J⟩=N LV:=(hpCell p3 17).trans rfl;have bm:w3.cell? ⟨gm,18,J⟩=N (U Y bZ):=(hpCell p3 18).trans rfl;have f17:=hpFree p3 17;have f18:=hpFree p3 18;clear b4 p2 pr p3 bx bo M aY aX av ba;by_cases VX:E=0
 ·have g5:(E !=0)=false:=by rw[VX];rfl
  have R:=hid VX;clear VX;go_upto_region 14 with(fail)
  obtain⟨W5,T⟩:∃W,(w3.setCell ⟨gm,17,J⟩ (.pointer (N ⟨g2,0,J⟩))).setCell ⟨gm,18,J⟩ (U Y (i:Int))=W:=⟨_,rfl⟩
  rw[T];have rm:Keeps (· =gm) w3 W5:=by rw[←T];exact ks1 (ks1 (Keeps.refl (· =gm) w3) 17 _) 18 _
  have Wv:W5.heap[gm]?=N (.cells (MC c (.slice (N ⟨b,o,J⟩) n cc) gl (T0 true g2) (i:Int) now) 129):=by
   obtain⟨e1,e2,e3,e4,e5⟩:=CX.out;unfold MC;rw[←T,e3,e4,e5];exact hpSetE (hpSetE bA.out rfl) rfl
  have a4:=hid rm;have KX:=hid Wv;clear WT bm f17 f18 T rm Wv;go_wp2;go_ret;refine⟨fun e=>absurd R.out e,fun _=>?_⟩;obtain⟨e1,e2,e3,e4,e5⟩:=CX.out;have ao:=a3.out;have h3:=H.out.base (H.out.bW ao) (Keeps.af ao) (fun j l=>.inl l);rw[e1] at h3;obtain⟨q1,q2⟩:=h3.own (b':=true) (gj':=g2) (k':=1) (x':=x') (s':=s') (st':=(i:Int)) (now':=now) a4.out KX.out (fun _=>bn.out) (fun j l=>by
   have z2:=nk.out.size
   have z0:=D.out
   have b7:w1.heap.size≤j:=by
    rcases l with e|e
    ·exact Vk.out j e
    ·have e':t.heap.size≤j:=e.1
     omega
   have a9:j<w3.heap.size:=bn.out.yT j l
   exact⟨a9,fun e=>by have:=H.out.ln.Ri j e;omega,by omega,.inr ⟨by omega,a9⟩⟩)
  have kq:Keeps P w W5:=(Keeps.af ao).trans q2 (fun j l e=>by
   rcases e with e|e
   ·exact e
   ·omega)
  have h5:=H.out;rw[e1] at h5;refine⟨g2,1,PL,iK I t.drew w3,s',rfl,?_,kq,Nat.le_refl _⟩;rw[e1,e2,e3,e4,e5,←bQ.out R.out];exact h5.base q1 kq (fun j l=>by
   rcases l with e|e
   ·exact .inl e
   ·exact .inr ⟨e.1,by have:=a4.out.size;omega⟩)
 ·have g5:(E !=0)=true:=by rw[bne_iff_ne];exact VX
  have R:=hid VX;clear VX WT bm f17 f18;go_wp2;go_ret;exact⟨fun _=>⟨rfl,a3.out⟩,fun e=>absurd e R.out⟩
