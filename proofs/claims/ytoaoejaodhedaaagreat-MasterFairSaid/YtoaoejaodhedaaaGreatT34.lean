import Derived.Test.YtoaoejaodhedaaaGreatT33
namespace Go.Proofs.YtoaoejaodhedaaaGreat
open Go.RowKit
open Option renaming none→J,some→M
open Value renaming int→U
open IntKind renaming i64→O
set_option maxHeartbeats 12800000
set_option maxRecDepth 100000
variable {c:Cf} {d:Du} {f:Fx} {news p:List Ch} {l:List Sl} {y y0:Ms} {N g gl gm i j k0 kk m n o:Nat} {Dp Wp:Nat→Du→Prop} {t:Nat→Kc} {P P' PX:Nat→Prop} {sc:Sc} {sv:Value} {W X w wc:World}
theorem eO.c0 (h:eO W g o n N t) (hi:i<n):∀X,Below W.heap.size W X→X.cell? ⟨g,o+i*4,J⟩=M (U O (t i).at_):=fun _ a=>cell_keep a (h.at hi).1
theorem eO.c1 (h:eO W g o n N t) (hi:i<n):∀X,Below W.heap.size W X→X.cell? ⟨g,o+i*4+1,J⟩=M (U .u8 (t i).val):=fun _ a=>cell_keep a (h.at hi).2.1
theorem eO.c2 (h:eO W g o n N t) (hi:i<n):∀X,Below W.heap.size W X→X.cell? ⟨g,o+i*4+2,J⟩=M (U O (t i).fl):=fun _ a=>cell_keep a (h.at hi).2.2.1
theorem eO.c3 (h:eO W g o n N t) (hi:i<n):∀X,Below W.heap.size W X→X.cell? ⟨g,o+i*4+3,J⟩=M (U O (t i).du):=fun _ a=>cell_keep a (h.at hi).2.2.2
theorem eO.kb (h:eO W g o n N t) (a:Below W.heap.size W X):eO X g o n N t:=h.keeps (F:=fun _=>False) (Keeps.af a) (fun e=>e)
def Fl (t:Nat→Kc) (n:Nat):Prop:=∀i j,i<j→j<n→¬(t j).at_<(t i).at_
def qC (w:World) (r:Ending) (w':World):Prop:=r=.returned (.tuple #[])∧Below w.heap.size w w'
theorem Ws (h:Fl t n) (a:i<j) (b:j<n) (w:World):Calls Tryz.prog 160 #[.agg #[U O (t j).at_,U .u8 (t j).val,U O (t j).fl,U O (t j).du],.agg #[U O (t i).at_,U .u8 (t i).val,U O (t i).fl,U O (t i).du]] w (mS w false):=by
 have e:=Gt (t j) (t i) w;rw[decide_eq_false (h i j a b)] at e;exact e
theorem Tk (g o n N c:Nat) (t:Nat→Kc) (a b:Nat) (ha:a≤n) (hb:b≤n) (hn:n≤100000000) (ho:Fl t n) (w:World) (h:eO w g o n N t):
  Calls Tryz.prog 202 #[.slice (M ⟨g,o,J⟩) n c,U O (a:Int),U O (b:Int),.func (.func 160) #[] #[]] w (qC w):=by
 have H:=hid h;have HO:=hid ho;have HB:=hid (And.intro ha (And.intro hb hn));obtain⟨a1,v⟩:∃x,a+1=x:=⟨_,rfl⟩
 have aY:IntKind.i64.wrap ((a:Int)+1)=(a1:Int):=(IntWalk.i64_in _ (by omega)).trans (by omega);have B:=hid v;clear h ho ha hb hn v;go_enter Tryz.func202,Tryz.ntmps202;go_wp2_with fail;go_loopw [8] (fun iv wr=>∃i:Nat,a<i∧iv=U O (i:Int)∧Below w.heap.size w wr) (fun iv _=>b- (intOf iv).toNat)
 case atStart=>exact⟨a1,by have:=B.out;omega,rfl,Below.refl _ _⟩
 case round=>
  obtain⟨i,ab,rfl,s⟩:=hrel;obtain⟨b1,b2,b3⟩:=HB.out;by_cases z:i<b
  ·have Ga:(i:Int)<(b:Int):=by omega
   have s2:IntKind.i64.wrap ((i:Int)+1)=((i+1:Nat):Int):=(IntWalk.i64_in _ (by omega)).trans (by omega);have C:=hid s;clear s;go_upto_region 4 with(fail)
   go_loopw [9] (fun jv wi=>jv=U O (i:Int)∧Below w.heap.size w wi) (fun _ _=>0)
   case atStart=>exact⟨rfl,C.out⟩
   case round=>
    obtain⟨rfl,A⟩:=hrel;have e:=hid (H.out.kb A);have g1:decide ((a:Int)<(i:Int))=true:=decide_eq_true (by omega);have ak:a<i:=ab;obtain⟨p,hp⟩:∃p:Nat,i-1=p:=⟨_,rfl⟩
    have s1:IntKind.i64.wrap ((i:Int)-1)=(p:Int):=(IntWalk.i64_in _ (by omega)).trans (by omega);have ao:(0:Int)≤(i:Int):=Int.natCast_nonneg _;have av:(0:Int)≤(p:Int):=Int.natCast_nonneg _;have XO:(i:Int)<(n:Int):=by omega
    have aX:(p:Int)<(n:Int):=by omega
    have D:Hid (∀X,Calls Tryz.prog 160 #[.agg #[U O (t i).at_,U .u8 (t i).val,U O (t i).fl,U O (t i).du],.agg #[U O (t p).at_,U .u8 (t p).val,U O (t p).fl,U O (t p).du]] X (mS X false)):=fun X=>Ws HO.out (by omega) (by omega) X
    have F:=(e.out.c0 (i:=i) (by omega));have G:=(e.out.c1 (i:=i) (by omega));have I:=(e.out.c2 (i:=i) (by omega));have L:=(e.out.c3 (i:=i) (by omega));have Q:=(e.out.c0 (i:=p) (by omega));have R:=(e.out.c1 (i:=p) (by omega));have T:=(e.out.c2 (i:=p) (by omega));have Y:=(e.out.c3 (i:=p) (by omega));have kD:Below wr.heap.size wr wr.drew:=(Below.refl _ _).drew;have Vt:=hid A;have E:=hid z;clear hp A z;go_upto_region 4 with(fail)
    refine wp_region_held_drew (S:=fun V=>Below wr.heap.size wr V) (by kernel_rfl) kD (fun hH=>?_);clear hH;refine tG 0 18 ?_;refine tG 1 19 ?_;refine tG 2 20 ?_;refine tG 3 21 ?_;refine tG 4 22 ?_;refine tG 5 23 ?_;refine tG 6 24 ?_;refine tG 7 25 ?_;refine tG 8 26 ?_;refine tG 9 27 ?_;refine tG 10 28 ?_;refine tG 11 29 ?_;refine tG 12 30 ?_;refine tG 13 31 ?_;refine rdyH 14 rfl (fun K hK=>?_);go_simp;refine(D.out _).mono ?_;rintro r w5 ⟨nn,rfl,AF,ad⟩;have u:=bt kD ad (Nat.le_refl _);refine hK.out _ _ u (fun Z=>?_);clear hK K Z;have dn:decide (nn<0)=false:=AF.out;refine tG 15 33 ?_;refine tG 16 34 ?_;refine wpAnyH_done (by kernel_rfl) ?_ _;clear F G I L Q R T Y;go_wp2;go_roundw
    case rel=>exact⟨i+1,by omega,rfl,bt Vt.out u (Nat.le_refl _)⟩
    case measure=>have:=E.out;simp [intOf];omega
  ·have Ga:¬(i:Int)<(b:Int):=by omega
   go_wp2;go_end0;exact⟨rfl,s⟩
theorem Ud (g o n N c:Nat) (t:Nat→Kc) (a b:Nat) (oE:a+1<b) (hb:b≤n) (hn:n≤100000000) (ho:Fl t n) (w:World) (h:eO w g o n N t):
  Calls Tryz.prog 203 #[.slice (M ⟨g,o,J⟩) n c,U O (a:Int),U O ((a+1:Nat):Int),U O (b:Int),.func (.func 160) #[] #[]] w (qC w):=by
 have H:=hid h;have HO:=hid ho;obtain⟨m,v⟩:∃m,a+1=m:=⟨_,rfl⟩
 have Z:=hid (And.intro oE (And.intro hb (And.intro hn v)));rw[v];have s0:IntKind.i64.wrap ((m:Int)- (a:Int))=1:=(IntWalk.i64_in _ (by omega)).trans (by omega);have s9:IntKind.i64.wrap ((m:Int)-1)=(a:Int):=(IntWalk.i64_in _ (by omega)).trans (by omega);clear h ho oE hb hn v;go_enter Tryz.func203,Tryz.ntmps203;go_upto_region 3 with(fail)
 go_loopw [10,11,12] (fun iv Y _ wr=>∃j:Nat,m≤j∧j≤b∧iv=U O (m:Int)∧Y=U O (j:Int)∧Below w.heap.size w wr) (fun _ Y _ _=>(intOf Y).toNat)
 case atStart=>exact⟨b,by have:=Z.out;omega,Nat.le_refl _,rfl,rfl,Below.refl _ _⟩
 case round=>
  obtain⟨j,aX,ao,rfl,rfl,e⟩:=hrel;obtain⟨b1,b2,b3,b4⟩:=Z.out;have s:=hid (H.out.kb e);by_cases av:m<j
  ·have Ga:(m:Int)<(j:Int):=by omega
   obtain⟨Q,hQ⟩:∃Q:Nat,m+j=Q:=⟨_,rfl⟩
   have s1:IntKind.i64.wrap ((m:Int)+(j:Int))=(Q:Int):=(IntWalk.i64_in _ (by omega)).trans (by omega);have s2:IntKind.u64.wrap (Q:Int)=(Q:Int):=IntWalk.u64_in _ (by omega);obtain⟨h,hh⟩:∃h:Nat,Q/2=h:=⟨_,rfl⟩
   have s3:(Q:Int)/2=(h:Int):=by omega
   have s4:IntKind.i64.wrap (h:Int)=(h:Int):=IntWalk.i64_in _ (by omega);have s5:IntKind.i64.wrap ((h:Int)+1)=((h+1:Nat):Int):=(IntWalk.i64_in _ (by omega)).trans (by omega);have ad:(0:Int)≤(h:Int):=Int.natCast_nonneg _;have KN:m≤h∧h<j:=by omega
   have ak:(h:Int)<(n:Int):=by omega
   have oz:(a:Int)<(n:Int):=by omega
   have ab:(0:Int)≤(a:Int):=Int.natCast_nonneg _;have z:Hid (∀X,Calls Tryz.prog 160 #[.agg #[U O (t h).at_,U .u8 (t h).val,U O (t h).fl,U O (t h).du],.agg #[U O (t a).at_,U .u8 (t a).val,U O (t a).fl,U O (t a).du]] X (mS X false)):=fun X=>Ws HO.out (by omega) (by omega) X
   have B:=(s.out.c0 (i:=h) (by omega));have C:=(s.out.c1 (i:=h) (by omega));have D:=(s.out.c2 (i:=h) (by omega));have E:=(s.out.c3 (i:=h) (by omega));have F:=(s.out.c0 (i:=a) (by omega));have G:=(s.out.c1 (i:=a) (by omega));have I:=(s.out.c2 (i:=a) (by omega));have L:=(s.out.c3 (i:=a) (by omega));have kD:Below wr.heap.size wr wr.drew:=(Below.refl _ _).drew;have A:=hid KN;have u:=hid e;clear hQ hh KN e;go_upto_region 5 with(fail)
   refine wp_region_held_drew (S:=fun V=>Below wr.heap.size wr V) (by kernel_rfl) kD (fun hH=>?_);clear hH;refine tG 0 40 ?_;refine tG 1 41 ?_;refine tG 2 42 ?_;refine tG 3 43 ?_;refine tG 4 44 ?_;refine tG 5 45 ?_;refine tG 6 46 ?_;refine tG 7 47 ?_;refine tG 8 48 ?_;refine rdyH 9 rfl (fun K hK=>?_);go_simp;refine(z.out _).mono ?_;rintro r w5 ⟨nn,rfl,AF,T⟩;have x:=bt kD T (Nat.le_refl _);refine hK.out _ _ x (fun R=>?_);clear hK K R;have dn:decide (nn<0)=false:=AF.out;refine tG 10 50 ?_;refine wpAnyH_done (by kernel_rfl) ?_ _;clear B C D E F G I L;go_wp2;go_roundw
   case rel=>exact⟨h,A.out.1,by have:=A.out;omega,rfl,rfl,bt u.out x (Nat.le_refl _)⟩
   case measure=>have:=A.out;simp [intOf];omega
  ·obtain rfl:m=j:=by omega
   have Ga:¬(m:Int)<(m:Int):=by omega
   have u:=hid e;clear e s;go_wp2;go_loopw [13] (fun kv wi=>kv=U O (a:Int)∧Below w.heap.size w wi) (fun _ _=>0)
   case atStart=>exact⟨rfl,u.out⟩
   case round=>
    obtain⟨rfl,DA⟩:=hrel;have aY:¬(a:Int)<(a:Int):=by omega
    go_wp2;go_end0;exact⟨rfl,DA⟩
theorem Ug (g o n N c:Nat) (t:Nat→Kc) (a m:Nat) (Xo:a+1<m) (hb:m+1≤n) (hn:n≤100000000) (ho:Fl t n) (w:World) (h:eO w g o n N t):
  Calls Tryz.prog 203 #[.slice (M ⟨g,o,J⟩) n c,U O (a:Int),U O (m:Int),U O ((m+1:Nat):Int),.func (.func 160) #[] #[]] w (qC w):=by
 have H:=hid h;have HO:=hid ho;obtain⟨b,v⟩:∃b,m+1=b:=⟨_,rfl⟩
 have HB:=hid (And.intro Xo (And.intro hb (And.intro hn v)));rw[v];obtain⟨D,hD⟩:∃D:Nat,m-a=D:=⟨_,rfl⟩
 have a3:IntKind.i64.wrap ((m:Int)- (a:Int))=(D:Int):=(IntWalk.i64_in _ (by omega)).trans (by omega);have ab:((D:Int)==1)=false:=b0 (by omega);have ad:¬D=1:=by omega
 have s0:IntKind.i64.wrap ((b:Int)- (m:Int))=1:=(IntWalk.i64_in _ (by omega)).trans (by omega);clear h ho Xo hb hn v hD;go_enter Tryz.func203,Tryz.ntmps203;go_upto_region 15 with(fail)
 go_loopw [14,15,16] (fun Z jv _ wr=>∃i:Nat,a≤i∧i≤m∧Z=U O (i:Int)∧jv=U O (m:Int)∧Below w.heap.size w wr) (fun Z _ _ _=>m- (intOf Z).toNat)
 case atStart=>exact⟨a,Nat.le_refl _,by have:=HB.out;omega,rfl,rfl,Below.refl _ _⟩
 case round=>
  obtain⟨i,ao,aY,rfl,rfl,e⟩:=hrel;obtain⟨b1,b2,b3,b4⟩:=HB.out;have s:=hid (H.out.kb e);by_cases a2:i<m
  ·have Ga:(i:Int)<(m:Int):=by omega
   obtain⟨Q,hQ⟩:∃Q:Nat,i+m=Q:=⟨_,rfl⟩
   have s1:IntKind.i64.wrap ((i:Int)+(m:Int))=(Q:Int):=(IntWalk.i64_in _ (by omega)).trans (by omega);have s2:IntKind.u64.wrap (Q:Int)=(Q:Int):=IntWalk.u64_in _ (by omega);obtain⟨h,hh⟩:∃h:Nat,Q/2=h:=⟨_,rfl⟩
   have s3:(Q:Int)/2=(h:Int):=by omega
   have s4:IntKind.i64.wrap (h:Int)=(h:Int):=IntWalk.i64_in _ (by omega);have s5:IntKind.i64.wrap ((h:Int)+1)=((h+1:Nat):Int):=(IntWalk.i64_in _ (by omega)).trans (by omega);have av:(0:Int)≤(h:Int):=Int.natCast_nonneg _;have KN:i≤h∧h<m:=by omega
   have aX:(h:Int)<(n:Int):=by omega
   have oz:(m:Int)<(n:Int):=by omega
   have ak:(0:Int)≤(m:Int):=Int.natCast_nonneg _;have z:Hid (∀X,Calls Tryz.prog 160 #[.agg #[U O (t m).at_,U .u8 (t m).val,U O (t m).fl,U O (t m).du],.agg #[U O (t h).at_,U .u8 (t h).val,U O (t h).fl,U O (t h).du]] X (mS X false)):=fun X=>Ws HO.out (by omega) (by omega) X
   have B:=(s.out.c0 (i:=m) (by omega));have C:=(s.out.c1 (i:=m) (by omega));have E:=(s.out.c2 (i:=m) (by omega));have F:=(s.out.c3 (i:=m) (by omega));have G:=(s.out.c0 (i:=h) (by omega));have I:=(s.out.c1 (i:=h) (by omega));have L:=(s.out.c2 (i:=h) (by omega));have R:=(s.out.c3 (i:=h) (by omega));have kD:Below wr.heap.size wr wr.drew:=(Below.refl _ _).drew;have A:=hid KN;have u:=hid e;clear hQ hh KN e;go_upto_region 17 with(fail)
   refine wp_region_held_drew (S:=fun V=>Below wr.heap.size wr V) (by kernel_rfl) kD (fun hH=>?_);clear hH;refine tG 0 92 ?_;refine tG 1 93 ?_;refine tG 2 94 ?_;refine tG 3 95 ?_;refine tG 4 96 ?_;refine tG 5 97 ?_;refine tG 6 98 ?_;refine tG 7 99 ?_;refine tG 8 100 ?_;refine rdyH 9 rfl (fun K hK=>?_);go_simp;refine(z.out _).mono ?_;rintro r w5 ⟨nn,rfl,AF,Y⟩;have x:=bt kD Y (Nat.le_refl _);refine hK.out _ _ x (fun T=>?_);clear hK K T;have dn:decide (nn<0)=false:=AF.out;refine tG 10 102 ?_;refine tG 11 103 ?_;refine wpAnyH_done (by kernel_rfl) ?_ _;clear B C E F G I L R;go_wp2;go_roundw
   case rel=>exact⟨h+1,by have:=A.out;omega,by have:=A.out;omega,rfl,rfl,bt u.out x (Nat.le_refl _)⟩
   case measure=>have:=A.out;simp [intOf];omega
  ·obtain rfl:i=m:=by omega
   have Ga:¬(i:Int)<(i:Int):=by omega
   have u:=hid e;clear e s;go_wp2;go_loopw [17] (fun kv wi=>kv=U O (i:Int)∧Below w.heap.size w wi) (fun _ _=>0)
   case atStart=>exact⟨rfl,u.out⟩
   case round=>
    obtain⟨rfl,DA⟩:=hrel;have a4:¬(i:Int)<(i:Int):=by omega
    go_wp2;go_end0;exact⟨rfl,DA⟩
theorem Uc (g o n N c:Nat) (t:Nat→Kc) (a m b:Nat) (Xo:a+1<m) (B:m+1<b) (hb:b≤n) (hn:n≤100000000) (ho:Fl t n) (w:World) (h:eO w g o n N t)
  (IH:∀(X:World) (a' m' b':Nat),a'<m'→m'<b'→b'≤n→b'-a'<b-a→eO X g o n N t→Calls Tryz.prog 203 #[.slice (M ⟨g,o,J⟩) n c,U O (a':Int),U O (m':Int),U O (b':Int),.func (.func 160) #[] #[]] X (qC X)):
  Calls Tryz.prog 203 #[.slice (M ⟨g,o,J⟩) n c,U O (a:Int),U O (m:Int),U O (b:Int),.func (.func 160) #[] #[]] w (qC w):=by
 have H:=hid h;have HO:=hid ho;have ak:=hid IH;have HB:=hid (And.intro Xo (And.intro B (And.intro hb hn)));obtain⟨D,hD⟩:∃D:Nat,m-a=D:=⟨_,rfl⟩
 have b5:IntKind.i64.wrap ((m:Int)- (a:Int))=(D:Int):=(IntWalk.i64_in _ (by omega)).trans (by omega);have bx:((D:Int)==1)=false:=b0 (by omega);have bA:¬D=1:=by omega
 obtain⟨E,hE⟩:∃D:Nat,b-m=D:=⟨_,rfl⟩
 have b6:IntKind.i64.wrap ((b:Int)- (m:Int))=(E:Int):=(IntWalk.i64_in _ (by omega)).trans (by omega);have bC:((E:Int)==1)=false:=b0 (by omega);have bK:¬E=1:=by omega
 obtain⟨Qm,a8⟩:∃Q:Nat,a+b=Q:=⟨_,rfl⟩
 have cb:IntKind.i64.wrap ((a:Int)+(b:Int))=(Qm:Int):=(IntWalk.i64_in _ (by omega)).trans (by omega);have cc:IntKind.u64.wrap (Qm:Int)=(Qm:Int):=IntWalk.u64_in _ (by omega);obtain⟨u,bo⟩:∃h:Nat,Qm/2=h:=⟨_,rfl⟩
 have cd:(Qm:Int)/2=(u:Int):=by omega
 have cf:IntKind.i64.wrap (u:Int)=(u:Int):=IntWalk.i64_in _ (by omega);obtain⟨T,AF⟩:∃x:Nat,u+m=x:=⟨_,rfl⟩
 have b7:IntKind.i64.wrap ((u:Int)+(m:Int))=(T:Int):=(IntWalk.i64_in _ (by omega)).trans (by omega);obtain⟨p,hp⟩:∃x:Nat,T-1=x:=⟨_,rfl⟩
 have b8:IntKind.i64.wrap ((T:Int)-1)=(p:Int):=(IntWalk.i64_in _ (by omega)).trans (by omega);obtain⟨lo,v,z,I⟩:∃lo v z:Nat,(u<m→lo=u+m-b∧v=u∧z=m)∧(m≤u→lo=a∧v=m∧z=u):=by
  by_cases e:u<m
  ·exact ⟨u+m-b,u,m,fun _=>⟨rfl,rfl,rfl⟩,fun h=>by omega⟩
  ·exact ⟨a,m,u,fun h=>absurd h e,fun _=>⟨rfl,rfl,rfl⟩⟩
 have F:=hid I;have Y:Hid (a≤lo∧lo≤v∧v≤m∧v≤u∧u+m-lo≤b∧T=u+m∧p+1=T∧a<u∧u<b∧a+b≤2*u+1):=by
  show _∧_;by_cases e:u<m
  ·obtain ⟨e1,G,-⟩:=I.1 e;omega
  ·obtain ⟨e1,G,-⟩:=I.2 (by omega);omega
 have ca:IntKind.i64.wrap ((T:Int)- (v:Int))=(z:Int):=by
  have hr:=Y.out;refine(IntWalk.i64_in _ (by omega)).trans ?_;by_cases e:u<m
  ·obtain ⟨-,G,e3⟩:=I.1 e;omega
  ·obtain ⟨-,G,e3⟩:=I.2 (by omega);omega
 clear h ho IH hD hE AF hp a8 bo;go_enter Tryz.func203,Tryz.ntmps203;go_upto_if 140 with(fail)
 go_cut [20,21] from 140 to 146 (fun bm bn wc=>bm=U O (lo:Int)∧bn=U O (v:Int)∧w=wc)
 case first=>
  by_cases e:u<m
  ·have q1:(u:Int)<(m:Int):=by omega
   obtain⟨e1,G,-⟩:=I.1 e;have q2:IntKind.i64.wrap ((T:Int)- (b:Int))=(lo:Int):=(IntWalk.i64_in _ (by have:=Y.out;have:=HB.out;omega)).trans (by have:=Y.out;have:=HB.out;omega);subst G;clear I e1 Xo B hb hn;go_wp2;go_meet
   case rel=>exact⟨rfl,rfl,rfl⟩
  ·have q1:¬(u:Int)<(m:Int):=by omega
   obtain⟨e1,G,-⟩:=I.2 (by omega);subst e1 G;clear I Xo B hb hn;go_wp2;go_meet
   case rel=>exact⟨rfl,rfl,rfl⟩
 case rest=>
  obtain⟨rfl,rfl,Yn⟩:=hcut;subst Yn;clear I;go_upto_region 33 with(fail)
  go_loopw [20,21,23] (fun iv jv _ wr=>∃s:Nat,lo≤s∧s≤v∧iv=U O (s:Int)∧jv=U O (v:Int)∧Below w.heap.size w wr) (fun iv _ _ _=>v- (intOf iv).toNat)
  case atStart=>exact⟨lo,Nat.le_refl _,Y.out.2.1,rfl,rfl,Below.refl _ _⟩
  case round=>
   obtain⟨s,CD,ad,rfl,rfl,A⟩:=hrel;obtain⟨b1,b2,b3,b4⟩:=HB.out;obtain⟨l1,l2,l3,l4,l5,l6,l7,l8,l9,R⟩:=Y.out;have C:=hid (H.out.kb A);have L:=hid A;by_cases ab:s<v
   ·have Ga:(s:Int)<(v:Int):=by omega
    obtain⟨Q,hQ⟩:∃Q:Nat,s+v=Q:=⟨_,rfl⟩
    have s1:IntKind.i64.wrap ((s:Int)+(v:Int))=(Q:Int):=(IntWalk.i64_in _ (by omega)).trans (by omega);have s2:IntKind.u64.wrap (Q:Int)=(Q:Int):=IntWalk.u64_in _ (by omega);obtain⟨h,hh⟩:∃h:Nat,Q/2=h:=⟨_,rfl⟩
    have s3:(Q:Int)/2=(h:Int):=by omega
    have s4:IntKind.i64.wrap (h:Int)=(h:Int):=IntWalk.i64_in _ (by omega);have s5:IntKind.i64.wrap ((h:Int)+1)=((h+1:Nat):Int):=(IntWalk.i64_in _ (by omega)).trans (by omega);have bX:(0:Int)≤(h:Int):=Int.natCast_nonneg _;have KN:s≤h∧h<v:=by omega
    obtain⟨f,hf⟩:∃f:Nat,p-h=f:=⟨_,rfl⟩
    have s6:IntKind.i64.wrap ((p:Int)- (h:Int))=(f:Int):=(IntWalk.i64_in _ (by omega)).trans (by omega);have bc:h<f∧f<n:=by omega
    have bZ:(h:Int)<(n:Int):=by omega
    have oz:(f:Int)<(n:Int):=by omega
    have bQ:(0:Int)≤(f:Int):=Int.natCast_nonneg _;have av:Hid (∀X,Calls Tryz.prog 160 #[.agg #[U O (t f).at_,U .u8 (t f).val,U O (t f).fl,U O (t f).du],.agg #[U O (t h).at_,U .u8 (t h).val,U O (t h).fl,U O (t h).du]] X (mS X false)):=fun X=>Ws HO.out (by omega) (by omega) X
    have aX:=(C.out.c0 (i:=f) (by omega));have aY:=(C.out.c1 (i:=f) (by omega));have a2:=(C.out.c2 (i:=f) (by omega));have a3:=(C.out.c3 (i:=f) (by omega));have a4:=(C.out.c0 (i:=h) (by omega));have a5:=(C.out.c1 (i:=h) (by omega));have a6:=(C.out.c2 (i:=h) (by omega));have a7:=(C.out.c3 (i:=h) (by omega));have kD:Below wr.heap.size wr wr.drew:=(Below.refl _ _).drew;have Qu:=hid KN;clear hQ hh KN A bc hf l1 l2 l3 l4 l5 l6 l7 l8 l9 R;go_upto_region 35 with(fail)
    refine wp_region_held_drew (S:=fun V=>Below wr.heap.size wr V) (by kernel_rfl) kD (fun hH=>?_);clear hH;refine tG 0 158 ?_;refine tG 1 159 ?_;refine tG 2 160 ?_;refine tG 3 161 ?_;refine tG 4 162 ?_;refine tG 5 163 ?_;refine tG 6 164 ?_;refine tG 7 165 ?_;refine tG 8 166 ?_;refine tG 9 167 ?_;refine tG 10 168 ?_;refine rdyH 11 rfl (fun K hK=>?_);go_simp;refine(av.out _).mono ?_;rintro r w5 ⟨T,rfl,AF,ba⟩;have ao:=bt kD ba (Nat.le_refl _);refine hK.out _ _ ao (fun a9=>?_);clear hK K a9;have dn:decide (T<0)=false:=AF.out;refine tG 12 170 ?_;refine tG 13 171 ?_;refine wpAnyH_done (by kernel_rfl) ?_ _;clear aX aY a2 a3 a4 a5 a6 a7;go_wp2;go_roundw
    case rel=>exact⟨h+1,by have:=Qu.out;omega,by have:=Qu.out;omega,rfl,rfl,bt L.out ao (Nat.le_refl _)⟩
    case measure=>have:=Qu.out;simp [intOf];omega
   ·obtain rfl:s=v:=by omega
    have Ga:¬(s:Int)<(s:Int):=by omega
    by_cases e:u<m
    ·obtain ⟨-,rfl,rfl⟩:=F.out.1 e
     have q1:(s:Int)<(z:Int):=by omega
     have q2:¬(z:Int)<(z:Int):=by omega
     have q3:(a:Int)<(s:Int):=by omega
     have q5:(z:Int)<(b:Int):=by omega
     have HC:=hid (ak.out wr s z b (by omega) (by omega) b3 (by omega) C.out);clear A C l1 l2 l3 l4 l5 l6 l7 l8 l9 R F Y b1 b2 b3 b4 e ab CD ad Xo B hb hn;go_wp2_with (go_at_call 203;(with_reducible refine HC.out.mono ?_);rintro r w2 ⟨rfl,Z⟩);go_end0;exact⟨rfl,bt L.out Z (Nat.le_refl _)⟩
    ·obtain ⟨-,rfl,rfl⟩:=F.out.2 (by omega)
     have q3:(a:Int)<(s:Int):=by omega
     have q4:¬(z:Int)<(z:Int):=by omega
     by_cases G:s<z
     ·have q5:(s:Int)<(z:Int):=by omega
      have HC:=hid (ak.out wr a s z (by omega) G (by omega) (by omega) C.out);clear A C l1 l2 l3 l4 l5 l6 l7 l8 l9 R F Y b1 b2 b3 b4 e G ab CD ad Xo B hb hn;go_wp2_with (go_at_call 203;(with_reducible refine HC.out.mono ?_);rintro r w2 ⟨rfl,Z⟩);go_end0;exact⟨rfl,bt L.out Z (Nat.le_refl _)⟩
     ·have q5:¬(s:Int)<(z:Int):=by omega
      clear A C l1 l2 l3 l4 l5 l6 l7 l8 l9 R F Y b1 b2 b3 b4 e G ab CD ad Xo B hb hn;go_wp2;go_end0;exact⟨rfl,L.out⟩
theorem Y3 (g o n N c:Nat) (t:Nat→Kc) (k:n≤100000000) (q:Fl t n):∀(d a m b:Nat),b-a≤d→a<m→m<b→b≤n→∀w,eO w g o n N t→
  Calls Tryz.prog 203 #[.slice (M ⟨g,o,J⟩) n c,U O (a:Int),U O (m:Int),U O (b:Int),.func (.func 160) #[] #[]] w (qC w):=by
 intro d
 induction d with
 |zero=>intro a m b x z r;omega
 |succ d ih=>
  intro a m b x z r e w h;by_cases u:m=a+1
  ·subst u
   exact Ud g o n N c t a b r e k q w h
  ·by_cases v:b=m+1
   ·subst v
    exact Ug g o n N c t a m (by omega) e k q w h
   ·exact Uc g o n N c t a m b (by omega) (by omega) e k q w h (fun X s A b' B C D F E=>ih s A b' (by omega) B C D X E)
theorem Mh (g o n N c:Nat) (t:Nat→Kc) (Eg:0<n) (L:n≤100000000) (ho:Fl t n) (w:World) (h:eO w g o n N t):
  Calls Tryz.prog 183 #[.slice (M ⟨g,o,J⟩) n c,U O (n:Int),.func (.func 160) #[] #[]] w (qC w):=by
 have HB:=hid (And.intro Eg L);have V:Hid (∀(a b:Nat) (X:World),a≤n→b≤n→Below w.heap.size w X→Calls Tryz.prog 202 #[.slice (M ⟨g,o,J⟩) n c,U O (a:Int),U O (b:Int),.func (.func 160) #[] #[]] X (qC X)):=fun a b X Y Z hX=>Tk g o n N c t a b Y Z L ho X (h.kb hX)
 have I:Hid (∀(a m b:Nat) (X:World),a<m→m<b→b≤n→Below w.heap.size w X→Calls Tryz.prog 203 #[.slice (M ⟨g,o,J⟩) n c,U O (a:Int),U O (m:Int),U O (b:Int),.func (.func 160) #[] #[]] X (qC X)):=fun a m b X Y Z h3 hX=>Y3 g o n N c t L ho _ a m b (Nat.le_refl _) Y Z h3 X (h.kb hX)
 clear h ho L Eg;go_enter Tryz.func183,Tryz.ntmps183;go_upto_region 2 with(fail)
 go_loopw [7,8] (fun C bv wr=>∃a b:Nat,a≤n∧a+20=b∧C=U O (a:Int)∧bv=U O (b:Int)∧Below w.heap.size w wr) (fun C _ _=>n- (intOf C).toNat)
 case atStart=>exact⟨0,20,Nat.zero_le _,rfl,rfl,rfl,Below.refl _ _⟩
 case round=>
  obtain⟨a,b,Q,z,rfl,rfl,k⟩:=hrel;obtain⟨q1,q2⟩:=HB.out;have G:=hid k;by_cases e:b≤n
  ·have S:(b:Int)≤(n:Int):=by omega
   have v:=hid (V.out a b _ Q e k);obtain⟨b2,s⟩:∃x,b+20=x:=⟨_,rfl⟩
   have s1:IntKind.i64.wrap ((b:Int)+20)=(b2:Int):=(IntWalk.i64_in _ (by omega)).trans (by omega);have F:=hid (And.intro z (And.intro e s));clear z s k;go_wp2_with (go_at_call 202;(with_reducible refine v.out.mono ?_);rintro r w2 ⟨rfl,q⟩);go_roundw
   case rel=>exact⟨b,b2,e,F.out.2.2,rfl,rfl,bt G.out q (Nat.le_refl _)⟩
   case measure=>have:=F.out;simp [intOf];omega
  ·have S:¬(b:Int)≤(n:Int):=by omega
   have v:=hid (V.out a n _ Q (Nat.le_refl _) k);clear z e k;go_upto_region 7 with(go_at_call 202;(with_reducible refine v.out.mono ?_);rintro r w2 ⟨rfl,q⟩)
   have od:=hid (bt G.out q (Nat.le_refl _));clear v V Q q;go_loopw [6,7,8,9] (fun sv _ _ _ wr=>∃bs:Nat,20≤bs∧bs≤400000000∧sv=U O (bs:Int)∧Below w.heap.size w wr) (fun sv _ _ _ _=>n- (intOf sv).toNat)
   case atStart=>exact⟨20,by omega,by omega,rfl,od.out⟩
   case round=>
    clear od;obtain⟨bs,ad,ak,rfl,k⟩:=hrel;have T:=hid k;by_cases Ea:bs<n
    ·have DA:(bs:Int)<(n:Int):=by omega
     obtain⟨u,K⟩:∃x,2*bs=x:=⟨_,rfl⟩
     have s2:IntKind.i64.wrap (2*(bs:Int))=(u:Int):=(IntWalk.i64_in _ (by omega)).trans (by omega);have s3:IntKind.i64.wrap ((bs:Int)*2)=(u:Int):=(IntWalk.i64_in _ (by omega)).trans (by omega);have A:=hid (And.intro K (And.intro ad Ea));clear K k;go_upto_region 9 with(fail)
     go_loopw [7,8] (fun C bv wi=>∃a b:Nat,a≤n∧a+u=b∧C=U O (a:Int)∧bv=U O (b:Int)∧Below w.heap.size w wi) (fun C _ _=>n- (intOf C).toNat)
     case atStart=>exact⟨0,u,Nat.zero_le _,Nat.zero_add _,rfl,rfl,T.out⟩
     case round=>
      obtain⟨a,b,Q,z,rfl,rfl,E⟩:=hrel;obtain⟨R,z2,z3⟩:=A.out;have B:=hid E;obtain⟨m,hm⟩:∃x,a+bs=x:=⟨_,rfl⟩
      have s4:IntKind.i64.wrap ((a:Int)+(bs:Int))=(m:Int):=(IntWalk.i64_in _ (by omega)).trans (by omega);obtain⟨b2,s⟩:∃x,b+u=x:=⟨_,rfl⟩
      have s5:IntKind.i64.wrap ((b:Int)+(u:Int))=(b2:Int):=(IntWalk.i64_in _ (by omega)).trans (by omega);by_cases e:b≤n
      ·have S:(b:Int)≤(n:Int):=by omega
       have v:=hid (I.out a m b _ (by omega) (by omega) e E);have F:=hid (And.intro z (And.intro e (And.intro s R)));clear z s hm R z2 z3 E;go_wp2_with (go_at_call 203;(with_reducible refine v.out.mono ?_);rintro r w2 ⟨rfl,q⟩);go_roundw
       case rel=>exact⟨b,b2,e,F.out.2.2.1,rfl,rfl,bt B.out q (Nat.le_refl _)⟩
       case measure=>have:=F.out;have:=A.out;simp [intOf];omega
      ·have S:¬(b:Int)≤(n:Int):=by omega
       by_cases D:m<n
       ·have ab:(m:Int)<(n:Int):=by omega
        have v:=hid (I.out a m n _ (by omega) D (Nat.le_refl _) E);clear z s hm R e D E;go_wp2_with (go_at_call 203;(with_reducible refine v.out.mono ?_);rintro r w2 ⟨rfl,q⟩);go_roundw
        case rel=>exact⟨u,by have:=A.out;omega,by have:=A.out;omega,rfl,bt B.out q (Nat.le_refl _)⟩
        case measure=>have:=A.out;simp [intOf];omega
       ·have ab:¬(m:Int)<(n:Int):=by omega
        clear z s hm R e D E;go_wp2;go_roundw
        case rel=>exact⟨u,by have:=A.out;omega,by have:=A.out;omega,rfl,B.out⟩
        case measure=>have:=A.out;simp [intOf];omega
    ·have DA:¬(bs:Int)<(n:Int):=by omega
     go_wp2;go_end0;exact⟨rfl,k⟩
theorem Me (g o n N c:Nat) (t:Nat→Kc) (e:0<n) (q:n≤100000000) (b:Fl t n) (w:World) (h:eO w g o n N t):
  Calls Tryz.prog 159 #[.slice (M ⟨g,o,J⟩) n c,.func (.func 160) #[] #[]] w (qC w):=by
 have k:=hid (Mh g o n N c t e q b w h);clear b h;go_enter Tryz.func159,Tryz.ntmps159;go_wp2_with (go_at_call 183;(with_reducible refine k.out.mono ?_);rintro r s ⟨rfl,a⟩);go_end0;exact⟨rfl,a⟩
theorem TE {x:Ch} (h:∀y,y∈p→y.at_≤x.at_):putL p x=p++[x]:=by
 induction p with
 |nil=>rfl
 |cons y l ih=>
  have b:=h y (List.mem_cons_self ..);unfold putL;rw[if_neg (by omega),ih (fun z a=>h z (List.mem_cons_of_mem _ a))];rfl
theorem TF (h:oh (p++news)):news.foldl putL p=p++news:=by
 induction news generalizing p with
 |nil=>exact(List.append_nil _).symm
 |cons x l ih=>
  have e:p++x::l=p++[x]++l:=by rw[List.append_assoc];rfl
  show l.foldl putL (putL p x)=_;rw[e] at h;rw[TE (fun y b=>?_),ih h,e];obtain⟨i,hi,a⟩:=List.mem_iff_getElem.1 b;refine h i p.length y x hi ?_ ?_
  ·rw [List.append_assoc,List.getElem?_append_left hi]
   exact List.getElem?_eq_some_iff.2 ⟨hi,a⟩
  ·rw [List.append_assoc,List.getElem?_append_right (Nat.le_refl _),Nat.sub_self]
   rfl
theorem TN {l:List Ch} (h:oh l):Fl (dW l) l.length:=fun i j e k=>by
 have a:=List.getElem?_eq_getElem (show i<l.length by omega);have b:=List.getElem?_eq_getElem k;rw[oC a,oC b];have:=h i j _ _ e a b;omega
theorem Y2 (h:oh (p++news)) (s:(p++news).length≤100000000):kC p news:=fun P w v k=>by
 rw[TF h];have b:=k.QM;obtain⟨l,u⟩:∃l,p++news=l:=⟨_,rfl⟩
 rw[u] at h s k b ⊢;by_cases q:l.length=0
 ·have x:l=[]:=List.eq_nil_of_length_eq_zero q
  subst x;obtain⟨a,c,rfl,-⟩:=b.len;exact(DV a c _ w).mono fun r w' ⟨e1,e2⟩=>⟨e1,e2▸b,e2▸Keeps.refl _ _⟩
 ·rcases k with⟨_,e⟩|⟨g,o,c,N,rfl,z,A,B,C,D⟩
  ·rw [e] at q
   exact absurd rfl q
  ·exact (Me g o l.length N c (dW l) (by omega) s (TN h) w z.ck).mono fun r w' ⟨e1,e2⟩=>⟨e1,b.ah e2,Keeps.af e2⟩
theorem NQ {aC:List At} {bd pa:Int} (e:cW l) (b:∀x∈aC,x.ok) (h:aU bd pa) (lp:Bool) (n:Nat) (f:List UInt8) (tick:Int):kC [] (fM l (cA aC lp n) bd pa f tick):=by
 have a:=oG b lp n;have k:=je e (cA aC lp n) bd pa f;unfold fM;exact Y2 (xL (by have:=bV h;omega) (At.nC a).2.2.2.2.1 _ _) (by rw[List.nil_append,chsN_len];omega)
def nj (gm gl:Nat) (P:Nat→Prop) (c:Cf) (sv:Value) (f:Fx) (y:Ms) (kk:Nat) (W:World):Prop:=
 ∃gj k PL Q s,nV gm gl gj k P PL Q c sv f y s W∧k≤kk
theorem nj.bW {gm gl kk:Nat} {P:Nat→Prop} {c:Cf} {sv:Value} {f:Fx} {y:Ms} {W X:World} (h:nj gm gl P c sv f y kk W) (r:Below W.heap.size W X):nj gm gl P c sv f y kk X:=by
 obtain⟨b,k,a,Q,s,e,q⟩:=h;exact⟨b,k,a,Q,s,e.bW r,q⟩
theorem nj.AR {gm gl kk:Nat} {P:Nat→Prop} {c:Cf} {sv:Value} {f:Fx} {y:Ms} {W:World} (h:nj gm gl P c sv f y kk W):∀j,P j→j<W.heap.size:=by
 obtain⟨e,k,b,Q,s,a,q⟩:=h;exact a.AR
theorem nj.le {a:Nat} (h:nj gm gl P c sv f y kk W) (u:kk≤a):nj gm gl P c sv f y a W:=by
 obtain⟨e,k,b,Q,s,q,r⟩:=h;exact⟨e,k,b,Q,s,q,Nat.le_trans r u⟩
theorem nj.base {gm gl k0 kk:Nat} {P P':Nat→Prop} {c:Cf} {sv:Value} {f:Fx} {y0 y:Ms} {W0 W:World} (r:nj gm gl P c sv f y0 k0 W0) (h:nj gm gl P' c sv f y kk W) (z:Keeps P W0 W) (A:∀j,P' j→ax P W0 W j):nj gm gl (ax P W0 W) c sv f y kk W:=by
 obtain⟨q,B,b,C,s0,u,-⟩:=r;obtain⟨e,k,a,Q,s,v,x⟩:=h;exact⟨e,k,a,Q,s,u.base v z A,x⟩
theorem nj.wide (B:nj gm gl P c sv f y0 k0 wc) (h:nj gm gl P' c sv f y kk W) (C:Keeps P wc W) (E:∀j,P' j→PX j) (D:∀j,PX j→j<W.heap.size) (u:∀j,j<wc.heap.size→PX j→P j):nj gm gl PX c sv f y kk W:=by
 obtain⟨x,F,r,G,s0,b,-⟩:=B;obtain⟨v,k,q,Q,s,z,A⟩:=h;have e:∀Y,Keeps PX W Y→Keeps P wc Y:=fun Y a=>C.trans a u
 exact⟨v,k,q,Q,s,z.Az E D (fun Y a=>⟨b.Ex Y (e Y a),b.G.rd Y (e Y a)⟩),A⟩
theorem nj.T8 {ob:Nat} {W0:World} (G:nj gm gl P c sv f y0 k0 wc) (O:wc.heap.size≤W0.heap.size) (h:nj gm gl (ax P W0 W) c sv f y kk W) (z:Keeps P wc W) (L:wc.heap.size≤ob) (K:¬ax P W0 W ob) (v:Keeps (· =ob) W X) (hs:X.heap.size=W.heap.size):nj gm gl (ax P W0 X) c sv f y kk X∧Keeps P wc X:=by
 have x:Keeps P wc X:=z.trans v (fun j b e=>by have q:j=ob:=e;omega);have I:ax P W0 X=ax P W0 W:=by
  funext j
  unfold ax;rw[hs]
 refine⟨?_,x⟩;rw[I];obtain⟨D,J,B,M,s0,r,-⟩:=G;obtain⟨C,k,A,Q,s,E,F⟩:=h;have u:∀Y,Keeps (ax P W0 W) X Y→Keeps P wc Y:=fun Y a=>x.trans a (fun j b e=>by
  rcases e with e|e
  ·exact e
  ·omega)
 exact⟨C,k,A,Q,s,E.ah v (fun j b e=>K (by have q:j=ob:=e;rw[←q];exact b)) (fun Y a=>⟨r.Ex Y (u Y a),r.G.rd Y (u Y a)⟩),F⟩
def Kd (gm gl:Nat) (P:Nat→Prop) (c:Cf) (sv:Value) (f:Fx) (y:Ms) (kk:Nat) (w:World) (r:Ending) (w':World):Prop:=r=.returned (U O 0)∧nj gm gl (ax P w w') c sv f y kk w'∧Keeps P w w'
theorem IU (h:nj gm gl P c sv f y kk w) (I:(y.b&&(y.x.kind !=3))=false) (i:Nat) (e u:Int) (G:c.bj[i]?=M (e,u)) (un:Int) (q:Rq) (hu:1≤un∧un≤247) (F:q.ok=true) (v:0≤y.now) (Y:y.now≤600000000000000000):
  Calls Tryz.prog 26 #[.pointer (M ⟨gm,0,J⟩),U O (i:Int),U O un,.agg #[U O q.fn,U O q.addr,U O q.aF,U O q.code,U O q.obj]] w (Kd gm gl P c sv f ⟨y.n,true,(Tx.new e u c.re c.ti c.de).begun un q y.now,i,y.now⟩ 1 w):=by
 obtain⟨gj,k,Z,Q,s,D,-⟩:=h;obtain⟨S,L,V,R,T⟩:=q;refine(CU D I i e u G un S L V R T v Y 0 ?_).mono fun r w' E=>?_
 ·unfold bgE
  rw[if_pos hu,if_pos F]
 ·obtain ⟨b,K,a,x,s2,z,A,B,C⟩:=E.2 rfl
  exact⟨z,⟨b,K,a,x,s2,A,C⟩,B⟩
theorem Nz (h:nj gm gl P c sv f y kk w) (x:y.b=false) (z:y.n.pend=[]) (b:0≤y.now) (A:y.now≤600000000000000000):
  Calls Tryz.prog 22 #[.pointer (M ⟨gm,0,J⟩)] w fun r a=>∃now',r=.returned (.tuple #[])∧y.now≤now'∧now'≤y.now+20000000∧nj gm gl (ax P w a) c sv f ⟨y.n,false,y.x,y.set,now'⟩ kk a∧Keeps P w a:=by
 obtain⟨q,k,e,Q,s,u,v⟩:=h;refine(Pd u x z b A).mono fun r a ⟨now',e1,e2,e3,e4,e5⟩=>?_
 exact⟨now',e1,e2,e3,⟨q,k,e,Q,s,e4,v⟩,e5⟩
structure Vq (c:Sc) (Wp Dp:Nat→Du→Prop):Prop where
 zl:∀{m d},Wp m d→d.x.ph=1
 le:∀{m d},Wp m d→(m:Int)≤c.re
 bb:∀{m d},Wp m d→d.x.b=c.bd
 by_:∀{m d},Wp m d→d.x.bytes=c.fr
 se:∀{m d},Wp m d→d.n.j6 c.fr.length d.x.now=0
 pn:∀{m d},Wp m d→d.n.pend.length≤90000000
 sn:∀{m d},Wp m d→d.n.aA.length≤1000000000
 so:∀{m d},Wp m d→kC d.n.pend (fM c.l (cA c.aC c.lp d.n.aA.length) c.bd c.pa c.fr d.x.now)
 mu:∀{m d},Wp m d→(Du.mk (d.n.send c.l c.aC c.lp c.bd c.pa c.fr d.x.now) (d.x.aA (d.x.now+aK c.bd c.fr.length))).mu≤100000000
 next:∀{m d},Wp m d→Wp (m+1) (c.go d)∨Dp (m+1) (c.go d)
 ph5:∀{m d},Dp m d→d.x.ph=5
def QQ (d:Du) (i:Nat):Ms:=⟨d.n,true,d.x,(i:Int),d.x.now⟩
def NP (c:Sc) (d:Du) (i:Nat):Ms:=⟨d.n.send c.l c.aC c.lp c.bd c.pa c.fr d.x.now,true,d.x.aA (d.x.now+aK c.bd c.fr.length),(i:Int),d.x.now+aK c.bd c.fr.length⟩
theorem Ny (a:Vq sc Wp Dp) (h:nj gm gl P c sv f (QQ d i) kk w) (b:Wp m d) (u:c.bj[i]?=M (sc.bd,sc.pa)) (q:f.l=sc.l∧f.aC=sc.aC∧f.lp=sc.lp) (A:kk≤1000000000):
  Calls Tryz.prog 27 #[.pointer (M ⟨gm,0,J⟩)] w (Kd gm gl P c sv f (NP sc d i) (kk+1) w):=by
 obtain⟨x,k,v,Q,s,e,z⟩:=h;obtain⟨f1,f2,f3⟩:=q;refine(IS e rfl (a.zl b) i sc.bd sc.pa u rfl (a.bb b) sc.fr (a.by_ b) (a.se b) (a.pn b) (a.sn b) (by omega) (by rw[f1,f2,f3];exact a.so b)).mono fun r w' ⟨gj2,k2,PL2,Q2,s2,e1,e2,e3,e4⟩=>?_
 rw[f1,f2,f3] at e2;exact⟨e1,⟨gj2,k2,PL2,Q2,s2,e2,by omega⟩,e3⟩
def xb3 (gm gl:Nat) (P:Nat→Prop) (c:Cf) (sv:Value) (f:Fx) (d:Du) (i kk:Nat) (V:Bool) (w:World) (r:Ending) (w':World):Prop:=
 ∃da dc oa oc,r=.returned (.tuple #[.agg #[U O d.x.shown.verdict,U O d.x.shown.ae.fn,U O d.x.shown.ae.ar,.slice da d.x.shown.ae.data.length dc,U O d.x.shown.ae.code,U O d.x.shown.ae.level,.bool d.x.shown.ae.more,U O d.x.shown.ae.next,.slice oa d.x.shown.ae.ag.length oc],.bool V])∧(∀X,ay w.heap.size w' X→dG X d.x.shown.ae da dc oa oc)∧nj gm gl (ax P w w') c sv f (QQ d i) kk w'∧Keeps P w w'
theorem Fh (q:Vq sc Wp Dp) (h:nj gm gl P c sv f (NP sc d i) kk w) (v:Wp m d) (C:kk≤900000000) (V:Bool) (u:decide ((sc.go d).x.ph=5)=V):
  Calls Tryz.prog 23 #[.pointer (M ⟨gm,0,J⟩)] w (xb3 gm gl P c sv f (sc.go d) i (kk+100000000) V w):=by
 obtain⟨b,k,A,Q,s,e,B⟩:=h;have z:=q.mu v;refine(zW e rfl (.inl rfl) (by show k+(Du.mk (d.n.send sc.l sc.aC sc.lp sc.bd sc.pa sc.fr d.x.now) (d.x.aA (d.x.now+aK sc.bd sc.fr.length))).mu≤_;omega)).mono fun r w' ⟨da,dc,oa,oc,k2,PL2,Q2,s2,e1,e2,e3,e4,e5⟩=>?_
 have a:k2≤k+(Du.mk (d.n.send sc.l sc.aC sc.lp sc.bd sc.pa sc.fr d.x.now) (d.x.aA (d.x.now+aK sc.bd sc.fr.length))).mu:=e5;have x:(Du.mk (NP sc d i).n (NP sc d i).x).heard=sc.go d:=rfl;rw[x] at e1 e2 e3;exact⟨da,dc,oa,oc,by rw[e1,u],e2,⟨b,k2,PL2,Q2,s2,e3,by omega⟩,e4⟩
structure Rest (y:Ms) (i:Nat):Prop where
 fin:(y.b&&(y.x.kind !=3))=false
 pend:y.n.pend=[]
 free:y.n.free≤y.now
 last:y.n.last≤y.now
 n0:0≤y.now
 n1:y.now≤20000000+90000000*i
 sn:y.n.aA.length≤6*i
def xbB (c:Cf) (l:List Sl) (s:lg) (x0 x1 u:Int) (q:Rq) (s0:List ((Int×Int)×List UInt8)):Sc:=⟨l,s.aC,s.loop,x0,x1,u,q,c.re,c.ti,c.de,s0⟩
theorem Nv {s:lg} {e k u:Int} {q:Rq} {s0:List ((Int×Int)×List UInt8)} (a:Mr c) (v:cW l) (hs:s.ok) (b:Ee s c.ti c.de) (r:aU e k) (hu:1≤u∧u≤247) (x:q.ok=true):(xbB c l s e k u q s0).ok:=
 ⟨v,hs.2.2.2.2,r,hu.1,hu.2,x,by have:=a.mW;show 0≤c.ti;omega,a.oj,a.oy,a.o7,fun i=>(b.any (by have:=a.mW;omega) a.oy i).1,fun i=>(b.any (by have:=a.mW;omega) a.oy i).2⟩
theorem Ft.start (h:Rest y i) (b:sc.s0=y.n.aA) (e:0≤sc.re):Ft sc 0 y.now ⟨y.n,(Tx.new sc.bd sc.pa sc.re sc.ti sc.de).begun sc.u sc.q y.now⟩:=
 ⟨⟨by rw[b];exact(List.append_nil _).symm,h.pend,h.free,h.last,h.n0,by show y.now≤y.now+_;omega,rfl,rfl,rfl,rfl,rfl,rfl,rfl,rfl⟩,rfl,e,fun _=>⟨rfl,rfl⟩,fun _=>⟨rfl,fun ⟨j,a,_⟩=>absurd a (Nat.not_lt_zero j)⟩,fun _ _ j a=>absurd a (Nat.not_lt_zero j)⟩
theorem Tr.bytes {sc:Sc} {m:Nat} {t0:Int} {d:Du} (h:Tr sc m t0 d) (a:d.x.ph=1):d.x.bytes=sc.fr:=by
 unfold Tx.bytes Sc.fr aO;rw[if_pos a,h.un,h.q]
theorem xar (ok:sc.ok) (b:sc.s0.length≤1000) (t0:Int) (k:t0≤500000000000000000) (q:sc.re≤5):Vq sc (fun m d=>Ft sc m t0 d) (fun m d=>J8 sc m t0 d):=
 {zl:=fun h=>h.ph
  le:=fun h=>h.le
  bb:=fun h=>h.tr.b
  by_:=fun h=>h.tr.bytes h.ph
  se:=fun h=>h.tr.j6 (by have:=h.tr.gh;have:=h.le;omega)
  pn:=fun h=>by rw[h.tr.pend];show 0≤90000000;decide
  sn:=fun {m d} h=>by rw[h.tr.aA,List.length_append,List.length_replicate];have:=h.le;omega
  so:=fun {m d} h=>by
   rw[h.tr.pend]
   exact NQ ok.Bq ok.aC ok.set _ _ _ _
  mu:=fun {m d} h=>by
   have e:=je ok.Bq (cA sc.aC sc.lp d.n.aA.length) sc.bd sc.pa sc.fr
   show ((fM sc.l (cA sc.aC sc.lp d.n.aA.length) sc.bd sc.pa sc.fr d.x.now).foldl putL d.n.pend).length+lG 2≤_
   rw[EG,h.tr.pend]
   unfold fM
   rw[chsN_len]
   have a:lG 2=3:=rfl
   rw[a,List.length_nil]
   omega
  next:=fun h=>h.next ok
  ph5:=fun h=>h.ph}
theorem J8.rest {t0:Int} (h:J8 sc m t0 d) (e:sc.re≤5) (b:t0≤20000000+90000000*i) (a:sc.s0.length≤6*i) (st:Nat):Rest (QQ d st) (i+1):=
 {fin:=by show (true&&(d.x.kind !=3))=false;unfold Tx.kind;rw[if_neg (by rw[h.ph];decide),if_neg (by rw[h.ph];decide),if_pos h.ph];rfl
  pend:=h.tr.pend
  free:=h.tr.free
  last:=h.tr.last
  n0:=h.tr.gI
  n1:=by
   have:=h.tr.gh
   have:=h.le
   show d.x.now≤_
   omega
  sn:=by
   show d.n.aA.length≤_
   rw[h.tr.aA,List.length_append,List.length_replicate]
   have:=h.le
   omega}
theorem TH (s:lg) (a b:Value) (ti de:Int) (w:World) (q:ke w a s.aC) (u:dw w b s.cr) (V:Bool) (k:V=true↔s.ok∧Ee s ti de):Calls Tryz.prog 11 #[.agg #[a,.bool s.loop,b],U O ti,U O de] w (aj w V):=
 (Fj s a b ti de w q u).mono fun r w' ⟨B,h1,h2,h3⟩=>by
  have e:B=V:=by
   cases B<;>cases V
   ·rfl
   ·exact absurd (h2.out.2 (k.1 rfl)) Bool.noConfusion
   ·exact absurd (k.2 (h2.out.1 rfl)) Bool.noConfusion
   ·rfl
  subst e;exact⟨h1,h3⟩
def Idle (gm gl B:Nat) (c:Cf) (l:List Sl) (s:lg) (i:Nat) (W:World):Prop:=∃P sv f y,nj gm gl P c sv f y 1000000000 W∧Rest y i∧(∀j,P j→B≤j)∧f.l=l∧f.aC=s.aC∧f.lp=s.loop
