import Derived.Test.YtoaoejaodhedaaaGreatV03
namespace Go.Proofs.YtoaoejaodhedaaaGreat
open Go.RowKit
open Option renaming none→J
open Value renaming int→M
open IntKind renaming i64→U
set_option maxHeartbeats 12800000
set_option maxRecDepth 100000
variable {N g i j o:Nat} {t:Nat→Kc} {W X:World}
theorem eO.c0 {n:Nat} (h:eO W g o n N t) (hi:i<n):∀X,Below W.heap.size W X→X.cell? ⟨g,o+i*4,J⟩=some (M U (t i).at_):=fun _ a=>cell_keep a (h.at hi).1
theorem eO.c1 {n:Nat} (h:eO W g o n N t) (hi:i<n):∀X,Below W.heap.size W X→X.cell? ⟨g,o+i*4+1,J⟩=some (M .u8 (t i).val):=fun _ a=>cell_keep a (h.at hi).2.1
theorem eO.c2 {n:Nat} (h:eO W g o n N t) (hi:i<n):∀X,Below W.heap.size W X→X.cell? ⟨g,o+i*4+2,J⟩=some (M U (t i).fl):=fun _ a=>cell_keep a (h.at hi).2.2.1
theorem eO.c3 {n:Nat} (h:eO W g o n N t) (hi:i<n):∀X,Below W.heap.size W X→X.cell? ⟨g,o+i*4+3,J⟩=some (M U (t i).du):=fun _ a=>cell_keep a (h.at hi).2.2.2
theorem eO.kb {n:Nat} (h:eO W g o n N t) (a:Below W.heap.size W X):eO X g o n N t:=h.keeps (F:=fun _=>False) (Keeps.af a) (fun e=>e)
def BX (t:Nat→Kc) (n:Nat):Prop:=∀i j,i<j→j<n→¬(t j).at_<(t i).at_
def me (w:World) (r:Ending) (w':World):Prop:=r=.returned (.tuple #[])∧Below w.heap.size w w'
theorem Sq {n:Nat} (h:BX t n) (a:i<j) (b:j<n) (w:World):Calls Tryz.prog 160 #[.agg #[M U (t j).at_,M .u8 (t j).val,M U (t j).fl,M U (t j).du],.agg #[M U (t i).at_,M .u8 (t i).val,M U (t i).fl,M U (t i).du]] w (mS w false):=by
 have e:=Gt (t j) (t i) w;rw[decide_eq_false (h i j a b)] at e;exact e
theorem OO (g o n N c:Nat) (t:Nat→Kc) (a b:Nat) (F:a≤n) (hb:b≤n) (hn:n≤100000000) (G:BX t n) (w:World) (h:eO w g o n N t):
  Calls Tryz.prog 202 #[.slice (some ⟨g,o,J⟩) n c,M U (a:Int),M U (b:Int),.func (.func 160) #[] #[]] w (me w):=by
 have H:=hid h;have HO:=hid G;have HB:=hid (And.intro F (And.intro hb hn));obtain⟨a1,D⟩:∃x,a+1=x:=⟨_,rfl⟩
 have QX:IntKind.i64.wrap ((a:Int)+1)=(a1:Int):=(IntWalk.i64_in _ (by omega)).trans (by omega);have UX:=hid D;clear h G F hb hn D;go_enter Tryz.func202,Tryz.ntmps202;go_wp2_with fail;go_loopw [8] (fun C wr=>∃i:Nat,a<i∧C=M U (i:Int)∧Below w.heap.size w wr) (fun C _=>b- (intOf C).toNat)
 case atStart=>exact⟨a1,by have:=UX.out;omega,rfl,Below.refl _ _⟩
 case round=>
  obtain⟨i,A,rfl,f⟩:=hrel;obtain⟨b1,b2,b3⟩:=HB.out;by_cases m:i<b
  ·have tt:(i:Int)<(b:Int):=by omega
   have s2:IntKind.i64.wrap ((i:Int)+1)=((i+1:Nat):Int):=(IntWalk.i64_in _ (by omega)).trans (by omega);have u:=hid f;clear f;go_upto_region 4 with(fail)
   go_loopw [9] (fun jv wi=>jv=M U (i:Int)∧Below w.heap.size w wi) (fun _ _=>0)
   case atStart=>exact⟨rfl,u.out⟩
   case round=>
    obtain⟨rfl,y⟩:=hrel;have e:=hid (H.out.kb y);have g1:decide ((a:Int)<(i:Int))=true:=decide_eq_true (by omega);have ab:a<i:=A;obtain⟨p,hp⟩:∃p:Nat,i-1=p:=⟨_,rfl⟩
    have s1:IntKind.i64.wrap ((i:Int)-1)=(p:Int):=(IntWalk.i64_in _ (by omega)).trans (by omega);have Ts:(0:Int)≤(i:Int):=Int.natCast_nonneg _;have Lu:(0:Int)≤(p:Int):=Int.natCast_nonneg _;have Zk:(i:Int)<(n:Int):=by omega
    have J2:(p:Int)<(n:Int):=by omega
    have tT:Hid (∀X,Calls Tryz.prog 160 #[.agg #[M U (t i).at_,M .u8 (t i).val,M U (t i).fl,M U (t i).du],.agg #[M U (t p).at_,M .u8 (t p).val,M U (t p).fl,M U (t p).du]] X (mS X false)):=fun X=>Sq HO.out (by omega) (by omega) X
    have Y:=(e.out.c0 (i:=i) (by omega));have L:=(e.out.c1 (i:=i) (by omega));have O:=(e.out.c2 (i:=i) (by omega));have P:=(e.out.c3 (i:=i) (by omega));have Z:=(e.out.c0 (i:=p) (by omega));have Q:=(e.out.c1 (i:=p) (by omega));have R:=(e.out.c2 (i:=p) (by omega));have T:=(e.out.c3 (i:=p) (by omega));have I:Below wr.heap.size wr wr.drew:=(Below.refl _ _).drew;have s:=hid y;have v:=hid m;clear hp y m;go_upto_region 4 with(fail)
    refine wp_region_held_drew (S:=fun V=>Below wr.heap.size wr V) (by kernel_rfl) I (fun hH=>?_);clear hH;refine tG 0 18 ?_;refine tG 1 19 ?_;refine tG 2 20 ?_;refine tG 3 21 ?_;refine tG 4 22 ?_;refine tG 5 23 ?_;refine tG 6 24 ?_;refine tG 7 25 ?_;refine tG 8 26 ?_;refine tG 9 27 ?_;refine tG 10 28 ?_;refine tG 11 29 ?_;refine tG 12 30 ?_;refine tG 13 31 ?_;refine rdyH 14 rfl (fun K E=>?_);go_simp;refine(tT.out _).mono ?_;rintro r w5 ⟨nn,rfl,nK,B⟩;have l:=bt I B (Nat.le_refl _);refine E.out _ _ l (fun z=>?_);clear E K z;have dn:decide (nn<0)=false:=nK.out;refine tG 15 33 ?_;refine tG 16 34 ?_;refine wpAnyH_done (by kernel_rfl) ?_ _;clear Y L O P Z Q R T;go_wp2;go_roundw
    case rel=>exact⟨i+1,by omega,rfl,bt s.out l (Nat.le_refl _)⟩
    case measure=>have:=v.out;simp [intOf];omega
  ·have tt:¬(i:Int)<(b:Int):=by omega
   go_wp2;go_end0;exact⟨rfl,f⟩
theorem Pr (g o n N c:Nat) (t:Nat→Kc) (a b:Nat) (D:a+1<b) (hb:b≤n) (hn:n≤100000000) (C:BX t n) (w:World) (h:eO w g o n N t):
  Calls Tryz.prog 203 #[.slice (some ⟨g,o,J⟩) n c,M U (a:Int),M U ((a+1:Nat):Int),M U (b:Int),.func (.func 160) #[] #[]] w (me w):=by
 have H:=hid h;have Z:=hid C;obtain⟨m,v⟩:∃m,a+1=m:=⟨_,rfl⟩
 have A:=hid (And.intro D (And.intro hb (And.intro hn v)));rw[v];have s0:IntKind.i64.wrap ((m:Int)- (a:Int))=1:=(IntWalk.i64_in _ (by omega)).trans (by omega);have s9:IntKind.i64.wrap ((m:Int)-1)=(a:Int):=(IntWalk.i64_in _ (by omega)).trans (by omega);clear h C D hb hn v;go_enter Tryz.func203,Tryz.ntmps203;go_upto_region 3 with(fail)
 go_loopw [10,11,12] (fun iv z _ wr=>∃j:Nat,m≤j∧j≤b∧iv=M U (m:Int)∧z=M U (j:Int)∧Below w.heap.size w wr) (fun _ z _ _=>(intOf z).toNat)
 case atStart=>exact⟨b,by have:=A.out;omega,Nat.le_refl _,rfl,rfl,Below.refl _ _⟩
 case round=>
  obtain⟨j,av,ak,rfl,rfl,f⟩:=hrel;obtain⟨b1,b2,b3,b4⟩:=A.out;have e:=hid (H.out.kb f);by_cases ao:m<j
  ·have tt:(m:Int)<(j:Int):=by omega
   obtain⟨Q,hQ⟩:∃Q:Nat,m+j=Q:=⟨_,rfl⟩
   have s1:IntKind.i64.wrap ((m:Int)+(j:Int))=(Q:Int):=(IntWalk.i64_in _ (by omega)).trans (by omega);have s2:IntKind.u64.wrap (Q:Int)=(Q:Int):=IntWalk.u64_in _ (by omega);obtain⟨h,hh⟩:∃h:Nat,Q/2=h:=⟨_,rfl⟩
   have s3:(Q:Int)/2=(h:Int):=by omega
   have s4:IntKind.i64.wrap (h:Int)=(h:Int):=IntWalk.i64_in _ (by omega);have s5:IntKind.i64.wrap ((h:Int)+1)=((h+1:Nat):Int):=(IntWalk.i64_in _ (by omega)).trans (by omega);have ab:(0:Int)≤(h:Int):=Int.natCast_nonneg _;have F:m≤h∧h<j:=by omega
   have ad:(h:Int)<(n:Int):=by omega
   have lG:(a:Int)<(n:Int):=by omega
   have QE:(0:Int)≤(a:Int):=Int.natCast_nonneg _;have tT:Hid (∀X,Calls Tryz.prog 160 #[.agg #[M U (t h).at_,M .u8 (t h).val,M U (t h).fl,M U (t h).du],.agg #[M U (t a).at_,M .u8 (t a).val,M U (t a).fl,M U (t a).du]] X (mS X false)):=fun X=>Sq Z.out (by omega) (by omega) X
   have T:=(e.out.c0 (i:=h) (by omega));have G:=(e.out.c1 (i:=h) (by omega));have I:=(e.out.c2 (i:=h) (by omega));have L:=(e.out.c3 (i:=h) (by omega));have Y:=(e.out.c0 (i:=a) (by omega));have O:=(e.out.c1 (i:=a) (by omega));have P:=(e.out.c2 (i:=a) (by omega));have R:=(e.out.c3 (i:=a) (by omega));have E:Below wr.heap.size wr wr.drew:=(Below.refl _ _).drew;have s:=hid F;have l:=hid f;clear hQ hh F f;go_upto_region 5 with(fail)
   refine wp_region_held_drew (S:=fun V=>Below wr.heap.size wr V) (by kernel_rfl) E (fun hH=>?_);clear hH;refine tG 0 40 ?_;refine tG 1 41 ?_;refine tG 2 42 ?_;refine tG 3 43 ?_;refine tG 4 44 ?_;refine tG 5 45 ?_;refine tG 6 46 ?_;refine tG 7 47 ?_;refine tG 8 48 ?_;refine rdyH 9 rfl (fun K B=>?_);go_simp;refine(tT.out _).mono ?_;rintro r w5 ⟨nn,rfl,nK,y⟩;have u:=bt E y (Nat.le_refl _);refine B.out _ _ u (fun x=>?_);clear B K x;have dn:decide (nn<0)=false:=nK.out;refine tG 10 50 ?_;refine wpAnyH_done (by kernel_rfl) ?_ _;clear T G I L Y O P R;go_wp2;go_roundw
   case rel=>exact⟨h,s.out.1,by have:=s.out;omega,rfl,rfl,bt l.out u (Nat.le_refl _)⟩
   case measure=>have:=s.out;simp [intOf];omega
  ·obtain rfl:m=j:=by omega
   have tt:¬(m:Int)<(m:Int):=by omega
   have l:=hid f;clear f e;go_wp2;go_loopw [13] (fun kv wi=>kv=M U (a:Int)∧Below w.heap.size w wi) (fun _ _=>0)
   case atStart=>exact⟨rfl,l.out⟩
   case round=>
    obtain⟨rfl,NA⟩:=hrel;have aX:¬(a:Int)<(a:Int):=by omega
    go_wp2;go_end0;exact⟨rfl,NA⟩
theorem Py (g o n N c:Nat) (t:Nat→Kc) (a m:Nat) (A:a+1<m) (hb:m+1≤n) (hn:n≤100000000) (E:BX t n) (w:World) (h:eO w g o n N t):
  Calls Tryz.prog 203 #[.slice (some ⟨g,o,J⟩) n c,M U (a:Int),M U (m:Int),M U ((m+1:Nat):Int),.func (.func 160) #[] #[]] w (me w):=by
 have H:=hid h;have HO:=hid E;obtain⟨b,u⟩:∃b,m+1=b:=⟨_,rfl⟩
 have B:=hid (And.intro A (And.intro hb (And.intro hn u)));rw[u];obtain⟨D,hD⟩:∃D:Nat,m-a=D:=⟨_,rfl⟩
 have a2:IntKind.i64.wrap ((m:Int)- (a:Int))=(D:Int):=(IntWalk.i64_in _ (by omega)).trans (by omega);have ab:((D:Int)==1)=false:=b0 (by omega);have ad:¬D=1:=by omega
 have s0:IntKind.i64.wrap ((b:Int)- (m:Int))=1:=(IntWalk.i64_in _ (by omega)).trans (by omega);clear h E A hb hn u hD;go_enter Tryz.func203,Tryz.ntmps203;go_upto_region 15 with(fail)
 go_loopw [14,15,16] (fun z jv _ wr=>∃i:Nat,a≤i∧i≤m∧z=M U (i:Int)∧jv=M U (m:Int)∧Below w.heap.size w wr) (fun z _ _ _=>m- (intOf z).toNat)
 case atStart=>exact⟨a,Nat.le_refl _,by have:=B.out;omega,rfl,rfl,Below.refl _ _⟩
 case round=>
  obtain⟨i,ak,aX,rfl,rfl,f⟩:=hrel;obtain⟨b1,b2,b3,b4⟩:=B.out;have e:=hid (H.out.kb f);by_cases aY:i<m
  ·have tt:(i:Int)<(m:Int):=by omega
   obtain⟨Q,hQ⟩:∃Q:Nat,i+m=Q:=⟨_,rfl⟩
   have s1:IntKind.i64.wrap ((i:Int)+(m:Int))=(Q:Int):=(IntWalk.i64_in _ (by omega)).trans (by omega);have s2:IntKind.u64.wrap (Q:Int)=(Q:Int):=IntWalk.u64_in _ (by omega);obtain⟨h,hh⟩:∃h:Nat,Q/2=h:=⟨_,rfl⟩
   have s3:(Q:Int)/2=(h:Int):=by omega
   have s4:IntKind.i64.wrap (h:Int)=(h:Int):=IntWalk.i64_in _ (by omega);have s5:IntKind.i64.wrap ((h:Int)+1)=((h+1:Nat):Int):=(IntWalk.i64_in _ (by omega)).trans (by omega);have ao:(0:Int)≤(h:Int):=Int.natCast_nonneg _;have G:i≤h∧h<m:=by omega
   have av:(h:Int)<(n:Int):=by omega
   have lG:(m:Int)<(n:Int):=by omega
   have QE:(0:Int)≤(m:Int):=Int.natCast_nonneg _;have tT:Hid (∀X,Calls Tryz.prog 160 #[.agg #[M U (t m).at_,M .u8 (t m).val,M U (t m).fl,M U (t m).du],.agg #[M U (t h).at_,M .u8 (t h).val,M U (t h).fl,M U (t h).du]] X (mS X false)):=fun X=>Sq HO.out (by omega) (by omega) X
   have Y:=(e.out.c0 (i:=m) (by omega));have I:=(e.out.c1 (i:=m) (by omega));have L:=(e.out.c2 (i:=m) (by omega));have O:=(e.out.c3 (i:=m) (by omega));have Z:=(e.out.c0 (i:=h) (by omega));have P:=(e.out.c1 (i:=h) (by omega));have R:=(e.out.c2 (i:=h) (by omega));have T:=(e.out.c3 (i:=h) (by omega));have F:Below wr.heap.size wr wr.drew:=(Below.refl _ _).drew;have s:=hid G;have l:=hid f;clear hQ hh G f;go_upto_region 17 with(fail)
   refine wp_region_held_drew (S:=fun V=>Below wr.heap.size wr V) (by kernel_rfl) F (fun hH=>?_);clear hH;refine tG 0 92 ?_;refine tG 1 93 ?_;refine tG 2 94 ?_;refine tG 3 95 ?_;refine tG 4 96 ?_;refine tG 5 97 ?_;refine tG 6 98 ?_;refine tG 7 99 ?_;refine tG 8 100 ?_;refine rdyH 9 rfl (fun K C=>?_);go_simp;refine(tT.out _).mono ?_;rintro r w5 ⟨nn,rfl,nK,y⟩;have v:=bt F y (Nat.le_refl _);refine C.out _ _ v (fun x=>?_);clear C K x;have dn:decide (nn<0)=false:=nK.out;refine tG 10 102 ?_;refine tG 11 103 ?_;refine wpAnyH_done (by kernel_rfl) ?_ _;clear Y I L O Z P R T;go_wp2;go_roundw
   case rel=>exact⟨h+1,by have:=s.out;omega,by have:=s.out;omega,rfl,rfl,bt l.out v (Nat.le_refl _)⟩
   case measure=>have:=s.out;simp [intOf];omega
  ·obtain rfl:i=m:=by omega
   have tt:¬(i:Int)<(i:Int):=by omega
   have l:=hid f;clear f e;go_wp2;go_loopw [17] (fun kv wi=>kv=M U (i:Int)∧Below w.heap.size w wi) (fun _ _=>0)
   case atStart=>exact⟨rfl,l.out⟩
   case round=>
    obtain⟨rfl,NA⟩:=hrel;have a3:¬(i:Int)<(i:Int):=by omega
    go_wp2;go_end0;exact⟨rfl,NA⟩
theorem Pn (g o n N c:Nat) (t:Nat→Kc) (a m b:Nat) (Y:a+1<m) (B:m+1<b) (hb:b≤n) (hn:n≤100000000) (ho:BX t n) (w:World) (h:eO w g o n N t)
  (IH:∀(X:World) (a' m' b':Nat),a'<m'→m'<b'→b'≤n→b'-a'<b-a→eO X g o n N t→Calls Tryz.prog 203 #[.slice (some ⟨g,o,J⟩) n c,M U (a':Int),M U (m':Int),M U (b':Int),.func (.func 160) #[] #[]] X (me X)):
  Calls Tryz.prog 203 #[.slice (some ⟨g,o,J⟩) n c,M U (a:Int),M U (m:Int),M U (b:Int),.func (.func 160) #[] #[]] w (me w):=by
 have H:=hid h;have HO:=hid ho;have Z:=hid IH;have HB:=hid (And.intro Y (And.intro B (And.intro hb hn)));obtain⟨D,hD⟩:∃D:Nat,m-a=D:=⟨_,rfl⟩
 have a8:IntKind.i64.wrap ((m:Int)- (a:Int))=(D:Int):=(IntWalk.i64_in _ (by omega)).trans (by omega);have a2:((D:Int)==1)=false:=b0 (by omega);have a3:¬D=1:=by omega
 obtain⟨E,hE⟩:∃D:Nat,b-m=D:=⟨_,rfl⟩
 have a9:IntKind.i64.wrap ((b:Int)- (m:Int))=(E:Int):=(IntWalk.i64_in _ (by omega)).trans (by omega);have a4:((E:Int)==1)=false:=b0 (by omega);have a5:¬E=1:=by omega
 obtain⟨Qm,ad⟩:∃Q:Nat,a+b=Q:=⟨_,rfl⟩
 have bn:IntKind.i64.wrap ((a:Int)+(b:Int))=(Qm:Int):=(IntWalk.i64_in _ (by omega)).trans (by omega);have bo:IntKind.u64.wrap (Qm:Int)=(Qm:Int):=IntWalk.u64_in _ (by omega);obtain⟨u,aY⟩:∃h:Nat,Qm/2=h:=⟨_,rfl⟩
 have bx:(Qm:Int)/2=(u:Int):=by omega
 have bA:IntKind.i64.wrap (u:Int)=(u:Int):=IntWalk.i64_in _ (by omega);obtain⟨I,nK⟩:∃x:Nat,u+m=x:=⟨_,rfl⟩
 have ba:IntKind.i64.wrap ((u:Int)+(m:Int))=(I:Int):=(IntWalk.i64_in _ (by omega)).trans (by omega);obtain⟨p,hp⟩:∃x:Nat,I-1=x:=⟨_,rfl⟩
 have bc:IntKind.i64.wrap ((I:Int)-1)=(p:Int):=(IntWalk.i64_in _ (by omega)).trans (by omega);obtain⟨lo,y,z,v⟩:∃lo y z:Nat,(u<m→lo=u+m-b∧y=u∧z=m)∧(m≤u→lo=a∧y=m∧z=u):=by
  by_cases e:u<m
  ·exact ⟨u+m-b,u,m,fun _=>⟨rfl,rfl,rfl⟩,fun h=>by omega⟩
  ·exact ⟨a,m,u,fun h=>absurd h e,fun _=>⟨rfl,rfl,rfl⟩⟩
 have C:=hid v;have L:Hid (a≤lo∧lo≤y∧y≤m∧y≤u∧u+m-lo≤b∧I=u+m∧p+1=I∧a<u∧u<b∧a+b≤2*u+1):=by
  show _∧_;by_cases e:u<m
  ·obtain ⟨e1,e2,-⟩:=v.1 e;omega
  ·obtain ⟨e1,e2,-⟩:=v.2 (by omega);omega
 have bm:IntKind.i64.wrap ((I:Int)- (y:Int))=(z:Int):=by
  have hr:=L.out;refine(IntWalk.i64_in _ (by omega)).trans ?_;by_cases e:u<m
  ·obtain ⟨-,e2,e3⟩:=v.1 e;omega
  ·obtain ⟨-,e2,e3⟩:=v.2 (by omega);omega
 clear h ho IH hD hE nK hp ad aY;go_enter Tryz.func203,Tryz.ntmps203;go_upto_if 140 with(fail)
 go_cut [20,21] from 140 to 146 (fun av aX wc=>av=M U (lo:Int)∧aX=M U (y:Int)∧w=wc)
 case first=>
  by_cases e:u<m
  ·have q1:(u:Int)<(m:Int):=by omega
   obtain⟨e1,e2,-⟩:=v.1 e;have q2:IntKind.i64.wrap ((I:Int)- (b:Int))=(lo:Int):=(IntWalk.i64_in _ (by have:=L.out;have:=HB.out;omega)).trans (by have:=L.out;have:=HB.out;omega);subst e2;clear v e1 Y B hb hn;go_wp2;go_meet
   case rel=>exact⟨rfl,rfl,rfl⟩
  ·have q1:¬(u:Int)<(m:Int):=by omega
   obtain⟨e1,e2,-⟩:=v.2 (by omega);subst e1 e2;clear v Y B hb hn;go_wp2;go_meet
   case rel=>exact⟨rfl,rfl,rfl⟩
 case rest=>
  obtain⟨rfl,rfl,TJ⟩:=hcut;subst TJ;clear v;go_upto_region 33 with(fail)
  go_loopw [20,21,23] (fun iv jv _ wr=>∃s:Nat,lo≤s∧s≤y∧iv=M U (s:Int)∧jv=M U (y:Int)∧Below w.heap.size w wr) (fun iv _ _ _=>y- (intOf iv).toNat)
  case atStart=>exact⟨lo,Nat.le_refl _,L.out.2.1,rfl,rfl,Below.refl _ _⟩
  case round=>
   obtain⟨s,vj,T,rfl,rfl,A⟩:=hrel;obtain⟨b1,b2,b3,b4⟩:=HB.out;obtain⟨l1,l2,l3,l4,l5,l6,l7,l8,l9,G⟩:=L.out;have l:=hid (H.out.kb A);have F:=hid A;by_cases R:s<y
   ·have tt:(s:Int)<(y:Int):=by omega
    obtain⟨Q,hQ⟩:∃Q:Nat,s+y=Q:=⟨_,rfl⟩
    have s1:IntKind.i64.wrap ((s:Int)+(y:Int))=(Q:Int):=(IntWalk.i64_in _ (by omega)).trans (by omega);have s2:IntKind.u64.wrap (Q:Int)=(Q:Int):=IntWalk.u64_in _ (by omega);obtain⟨h,hh⟩:∃h:Nat,Q/2=h:=⟨_,rfl⟩
    have s3:(Q:Int)/2=(h:Int):=by omega
    have s4:IntKind.i64.wrap (h:Int)=(h:Int):=IntWalk.i64_in _ (by omega);have s5:IntKind.i64.wrap ((h:Int)+1)=((h+1:Nat):Int):=(IntWalk.i64_in _ (by omega)).trans (by omega);have a6:(0:Int)≤(h:Int):=Int.natCast_nonneg _;have xI:s≤h∧h<y:=by omega
    obtain⟨f,hf⟩:∃f:Nat,p-h=f:=⟨_,rfl⟩
    have s6:IntKind.i64.wrap ((p:Int)- (h:Int))=(f:Int):=(IntWalk.i64_in _ (by omega)).trans (by omega);have Ti:h<f∧f<n:=by omega
    have a7:(h:Int)<(n:Int):=by omega
    have lG:(f:Int)<(n:Int):=by omega
    have QE:(0:Int)≤(f:Int):=Int.natCast_nonneg _;have tT:Hid (∀X,Calls Tryz.prog 160 #[.agg #[M U (t f).at_,M .u8 (t f).val,M U (t f).fl,M U (t f).du],.agg #[M U (t h).at_,M .u8 (t h).val,M U (t h).fl,M U (t h).du]] X (mS X false)):=fun X=>Sq HO.out (by omega) (by omega) X
    have EO:=(l.out.c0 (i:=f) (by omega));have A5:=(l.out.c1 (i:=f) (by omega));have A6:=(l.out.c2 (i:=f) (by omega));have Bb:=(l.out.c3 (i:=f) (by omega));have ER:=(l.out.c0 (i:=h) (by omega));have Bc:=(l.out.c1 (i:=h) (by omega));have Be:=(l.out.c2 (i:=h) (by omega));have Bh:=(l.out.c3 (i:=h) (by omega));have kD:Below wr.heap.size wr wr.drew:=(Below.refl _ _).drew;have O:=hid xI;clear hQ hh xI A Ti hf l1 l2 l3 l4 l5 l6 l7 l8 l9 G;go_upto_region 35 with(fail)
    refine wp_region_held_drew (S:=fun V=>Below wr.heap.size wr V) (by kernel_rfl) kD (fun hH=>?_);clear hH;refine tG 0 158 ?_;refine tG 1 159 ?_;refine tG 2 160 ?_;refine tG 3 161 ?_;refine tG 4 162 ?_;refine tG 5 163 ?_;refine tG 6 164 ?_;refine tG 7 165 ?_;refine tG 8 166 ?_;refine tG 9 167 ?_;refine tG 10 168 ?_;refine rdyH 11 rfl (fun K hK=>?_);go_simp;refine(tT.out _).mono ?_;rintro r w5 ⟨I,rfl,nK,ao⟩;have ab:=bt kD ao (Nat.le_refl _);refine hK.out _ _ ab (fun ak=>?_);clear hK K ak;have dn:decide (I<0)=false:=nK.out;refine tG 12 170 ?_;refine tG 13 171 ?_;refine wpAnyH_done (by kernel_rfl) ?_ _;clear EO A5 A6 Bb ER Bc Be Bh;go_wp2;go_roundw
    case rel=>exact⟨h+1,by have:=O.out;omega,by have:=O.out;omega,rfl,rfl,bt F.out ab (Nat.le_refl _)⟩
    case measure=>have:=O.out;simp [intOf];omega
   ·obtain rfl:s=y:=by omega
    have tt:¬(s:Int)<(s:Int):=by omega
    by_cases e:u<m
    ·obtain ⟨-,rfl,rfl⟩:=C.out.1 e
     have q1:(s:Int)<(z:Int):=by omega
     have q2:¬(z:Int)<(z:Int):=by omega
     have q3:(a:Int)<(s:Int):=by omega
     have q5:(z:Int)<(b:Int):=by omega
     have HC:=hid (Z.out wr s z b (by omega) (by omega) b3 (by omega) l.out);clear A l l1 l2 l3 l4 l5 l6 l7 l8 l9 G C L b1 b2 b3 b4 e R vj T Y B hb hn;go_wp2_with (go_at_call 203;(with_reducible refine HC.out.mono ?_);rintro r w2 ⟨rfl,P⟩);go_end0;exact⟨rfl,bt F.out P (Nat.le_refl _)⟩
    ·obtain ⟨-,rfl,rfl⟩:=C.out.2 (by omega)
     have q3:(a:Int)<(s:Int):=by omega
     have q4:¬(z:Int)<(z:Int):=by omega
     by_cases e2:s<z
     ·have q5:(s:Int)<(z:Int):=by omega
      have HC:=hid (Z.out wr a s z (by omega) e2 (by omega) (by omega) l.out);clear A l l1 l2 l3 l4 l5 l6 l7 l8 l9 G C L b1 b2 b3 b4 e e2 R vj T Y B hb hn;go_wp2_with (go_at_call 203;(with_reducible refine HC.out.mono ?_);rintro r w2 ⟨rfl,P⟩);go_end0;exact⟨rfl,bt F.out P (Nat.le_refl _)⟩
     ·have q5:¬(s:Int)<(z:Int):=by omega
      clear A l l1 l2 l3 l4 l5 l6 l7 l8 l9 G C L b1 b2 b3 b4 e e2 R vj T Y B hb hn;go_wp2;go_end0;exact⟨rfl,F.out⟩
theorem UK (g o n N c:Nat) (t:Nat→Kc) (f:n≤100000000) (k:BX t n):∀(d a m b:Nat),b-a≤d→a<m→m<b→b≤n→∀w,eO w g o n N t→
  Calls Tryz.prog 203 #[.slice (some ⟨g,o,J⟩) n c,M U (a:Int),M U (m:Int),M U (b:Int),.func (.func 160) #[] #[]] w (me w):=by
 intro d
 induction d with
 |zero=>intro a m b q r l;omega
 |succ d ih=>
  intro a m b q r l e w h;by_cases e1:m=a+1
  ·subst e1
   exact Pr g o n N c t a b l e f k w h
  ·by_cases e2:b=m+1
   ·subst e2
    exact Py g o n N c t a m (by omega) e f k w h
   ·exact Pn g o n N c t a m b (by omega) (by omega) e f k w h (fun X p s b' u v x z y=>ih p s b' (by omega) u v x X y)
theorem Hu (g o n N c:Nat) (t:Nat→Kc) (Y:0<n) (E:n≤100000000) (R:BX t n) (w:World) (h:eO w g o n N t):
  Calls Tryz.prog 183 #[.slice (some ⟨g,o,J⟩) n c,M U (n:Int),.func (.func 160) #[] #[]] w (me w):=by
 have Z:=hid (And.intro Y E);have I:Hid (∀(a b:Nat) (X:World),a≤n→b≤n→Below w.heap.size w X→Calls Tryz.prog 202 #[.slice (some ⟨g,o,J⟩) n c,M U (a:Int),M U (b:Int),.func (.func 160) #[] #[]] X (me X)):=fun a b X L O P=>OO g o n N c t a b L O E R X (h.kb P)
 have B:Hid (∀(a m b:Nat) (X:World),a<m→m<b→b≤n→Below w.heap.size w X→Calls Tryz.prog 203 #[.slice (some ⟨g,o,J⟩) n c,M U (a:Int),M U (m:Int),M U (b:Int),.func (.func 160) #[] #[]] X (me X)):=fun a m b X L O h3 P=>UK g o n N c t E R _ a m b (Nat.le_refl _) L O h3 X (h.kb P)
 clear h R E Y;go_enter Tryz.func183,Tryz.ntmps183;go_upto_region 2 with(fail)
 go_loopw [7,8] (fun v bv wr=>∃a b:Nat,a≤n∧a+20=b∧v=M U (a:Int)∧bv=M U (b:Int)∧Below w.heap.size w wr) (fun v _ _=>n- (intOf v).toNat)
 case atStart=>exact⟨0,20,Nat.zero_le _,rfl,rfl,rfl,Below.refl _ _⟩
 case round=>
  obtain⟨a,b,F,q,rfl,rfl,e⟩:=hrel;obtain⟨q1,q2⟩:=Z.out;have A:=hid e;by_cases d:b≤n
  ·have S:(b:Int)≤(n:Int):=by omega
   have p:=hid (I.out a b _ F d e);obtain⟨b2,k⟩:∃x,b+20=x:=⟨_,rfl⟩
   have s1:IntKind.i64.wrap ((b:Int)+20)=(b2:Int):=(IntWalk.i64_in _ (by omega)).trans (by omega);have D:=hid (And.intro q (And.intro d k));clear q k e;go_wp2_with (go_at_call 202;(with_reducible refine p.out.mono ?_);rintro r T ⟨rfl,f⟩);go_roundw
   case rel=>exact⟨b,b2,d,D.out.2.2,rfl,rfl,bt A.out f (Nat.le_refl _)⟩
   case measure=>have:=D.out;simp [intOf];omega
  ·have S:¬(b:Int)≤(n:Int):=by omega
   have p:=hid (I.out a n _ F (Nat.le_refl _) e);clear q d e;go_upto_region 7 with(go_at_call 202;(with_reducible refine p.out.mono ?_);rintro r T ⟨rfl,f⟩)
   have V:=hid (bt A.out f (Nat.le_refl _));clear p I F f;go_loopw [6,7,8,9] (fun sv _ _ _ wr=>∃bs:Nat,20≤bs∧bs≤400000000∧sv=M U (bs:Int)∧Below w.heap.size w wr) (fun sv _ _ _ _=>n- (intOf sv).toNat)
   case atStart=>exact⟨20,by omega,by omega,rfl,V.out⟩
   case round=>
    clear V;obtain⟨bs,Y2,ab,rfl,e⟩:=hrel;have K:=hid e;by_cases yx:bs<n
    ·have NA:(bs:Int)<(n:Int):=by omega
     obtain⟨l,C⟩:∃x,2*bs=x:=⟨_,rfl⟩
     have s2:IntKind.i64.wrap (2*(bs:Int))=(l:Int):=(IntWalk.i64_in _ (by omega)).trans (by omega);have s3:IntKind.i64.wrap ((bs:Int)*2)=(l:Int):=(IntWalk.i64_in _ (by omega)).trans (by omega);have s:=hid (And.intro C (And.intro Y2 yx));clear C e;go_upto_region 9 with(fail)
     go_loopw [7,8] (fun v bv wi=>∃a b:Nat,a≤n∧a+l=b∧v=M U (a:Int)∧bv=M U (b:Int)∧Below w.heap.size w wi) (fun v _ _=>n- (intOf v).toNat)
     case atStart=>exact⟨0,l,Nat.zero_le _,Nat.zero_add _,rfl,rfl,K.out⟩
     case round=>
      obtain⟨a,b,F,q,rfl,rfl,z⟩:=hrel;obtain⟨G,z2,z3⟩:=s.out;have u:=hid z;obtain⟨m,hm⟩:∃x,a+bs=x:=⟨_,rfl⟩
      have s4:IntKind.i64.wrap ((a:Int)+(bs:Int))=(m:Int):=(IntWalk.i64_in _ (by omega)).trans (by omega);obtain⟨b2,k⟩:∃x,b+l=x:=⟨_,rfl⟩
      have s5:IntKind.i64.wrap ((b:Int)+(l:Int))=(b2:Int):=(IntWalk.i64_in _ (by omega)).trans (by omega);by_cases d:b≤n
      ·have S:(b:Int)≤(n:Int):=by omega
       have p:=hid (B.out a m b _ (by omega) (by omega) d z);have D:=hid (And.intro q (And.intro d (And.intro k G)));clear q k hm G z2 z3 z;go_wp2_with (go_at_call 203;(with_reducible refine p.out.mono ?_);rintro r T ⟨rfl,f⟩);go_roundw
       case rel=>exact⟨b,b2,d,D.out.2.2.1,rfl,rfl,bt u.out f (Nat.le_refl _)⟩
       case measure=>have:=D.out;have:=s.out;simp [intOf];omega
      ·have S:¬(b:Int)≤(n:Int):=by omega
       by_cases y:m<n
       ·have Q:(m:Int)<(n:Int):=by omega
        have p:=hid (B.out a m n _ (by omega) y (Nat.le_refl _) z);clear q k hm G d y z;go_wp2_with (go_at_call 203;(with_reducible refine p.out.mono ?_);rintro r T ⟨rfl,f⟩);go_roundw
        case rel=>exact⟨l,by have:=s.out;omega,by have:=s.out;omega,rfl,bt u.out f (Nat.le_refl _)⟩
        case measure=>have:=s.out;simp [intOf];omega
       ·have Q:¬(m:Int)<(n:Int):=by omega
        clear q k hm G d y z;go_wp2;go_roundw
        case rel=>exact⟨l,by have:=s.out;omega,by have:=s.out;omega,rfl,u.out⟩
        case measure=>have:=s.out;simp [intOf];omega
    ·have NA:¬(bs:Int)<(n:Int):=by omega
     go_wp2;go_end0;exact⟨rfl,e⟩
theorem Hq (g o n N c:Nat) (t:Nat→Kc) (f:0<n) (e:n≤100000000) (b:BX t n) (w:World) (h:eO w g o n N t):
  Calls Tryz.prog 159 #[.slice (some ⟨g,o,J⟩) n c,.func (.func 160) #[] #[]] w (me w):=by
 have d:=hid (Hu g o n N c t f e b w h);clear b h;go_enter Tryz.func159,Tryz.ntmps159;go_wp2_with (go_at_call 183;(with_reducible refine d.out.mono ?_);rintro r k ⟨rfl,a⟩);go_end0;exact⟨rfl,a⟩
