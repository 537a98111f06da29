import Derived.Test.YtoaoejaodhedaaaGreatV02
namespace Go.Proofs.YtoaoejaodhedaaaGreat
set_option maxHeartbeats 12800000
set_option maxRecDepth 100000
open Option renaming none→M,some→Y
open Value renaming int→O
open IntKind renaming i64→G
variable {k l news:List Ch} {a b i j:Nat} {t t0:Nat→Kc} {p:Prop} {W:World}
theorem Ep.len (h:Ep l k):k.length=l.length:=by
 obtain⟨t,-,-,rfl⟩:=h.ex;exact Dj _ _
theorem Ep.asc (h:Ep l k):oh k:=by
 obtain⟨t,s,m,rfl⟩:=h.ex;intro i j x y n d c;have f:j<l.length:=by
  have:=(List.getElem?_eq_some_iff.1 c).1;rw[Dj] at this;exact this
 rw[Fc (by omega)] at d;rw[Fc f] at c;injection d with d
 injection c with c
 subst d c;show (t i).at_≤(t j).at_;have g:=s i j (Nat.zero_le _) n f;obtain⟨a,-,o,q⟩:=m.fw i (Nat.zero_le _) (by omega);obtain⟨b,-,b2,b3⟩:=m.fw j (Nat.zero_le _) f;rw[q,b3] at g ⊢;by_cases e:a<b
 ·have:=(vX l a b e b2).1
  by_cases e2:(dW l b).at_<(dW l a).at_
  ·have:=this.1 e2
   omega
  ·omega
 ·by_cases e2:b<a
  ·have:=(vX l b a e2 o).1.2 g
   omega
  ·have:a=b:=by omega
   subst this;omega
theorem Ep.xax {p:List Ch} (c:oh p) (h:Ep (p++news) k):k=news.foldl putL p:=by
 rw[h.xad,List.foldl_append,FU c]
open Go.RowKit
theorem eO.free {g o n N:Nat} (h:eO W g o n N t) (j:Nat):W.frozen? ⟨g,j,M⟩=false:=by
 obtain⟨c,d,-⟩:=h.h;exact hpFree d j
theorem eO.put {g o n N:Nat} (h:eO W g o n N t) (r:j<n) (x:Kc):
  eO ((((W.setCell ⟨g,o+j*4,M⟩ (O G x.at_)).setCell ⟨g,o+j*4+1,M⟩ (O .u8 x.val)).setCell ⟨g,o+j*4+2,M⟩ (O G x.fl)).setCell ⟨g,o+j*4+3,M⟩ (O G x.du)) g o n N (fun i=>if i=j then x else t i):=by
 obtain⟨c,m,d,f⟩:=h.h;have hle:=h.le;refine⟨⟨_,hpSet (hpSet (hpSet (hpSet m _ _) _ _) _ _) _ _,by simpa using d,fun i hi=>?_⟩,h.le⟩;obtain⟨e0,e1,e2,q⟩:=f i hi;simp only[Array.getElem?_setIfInBounds,Array.size_setIfInBounds,d];by_cases e:i=j
 ·subst e
  rw[if_pos rfl];refine⟨?_,?_,?_,?_⟩<;>(repeat' (first|rw[if_pos (by omega)]|rw[if_neg (by omega)]))
 ·rw [if_neg e]
  refine⟨?_,?_,?_,?_⟩<;>(repeat (rw[if_neg (by omega)]))<;>assumption
def yo (w:World) (g o n N:Nat) (t:Nat→Kc) (r:Ending) (w':World):Prop:=r=.returned (.tuple #[])∧eO w' g o n N t∧Keeps (· =g) w w'
theorem KJ (g o n N c:Nat) (t:Nat→Kc) (I:Value) (a b m:Nat) (hm:a+m≤b) (C:b+m≤n) (D:n≤100000000) (w:World) (h:eO w g o n N t):
  Calls Tryz.prog 227 #[.slice (Y ⟨g,o,M⟩) n c,O G (a:Int),O G (b:Int),O G (m:Int),I] w (yo w g o n N (eQ a b m t)):=by
 have H:=hid h;have r:=hid (And.intro hm (And.intro C D));clear h hm C D;go_enter Tryz.func227,Tryz.ntmps227;go_wp2;go_loopw [10] (fun x wr=>∃i:Nat,i≤m∧x=O G (i:Int)∧Hid (eO wr g o n N (eQ a b i t))∧Hid (Keeps (· =g) w wr)) (fun x _=>m- (intOf x).toNat)
 case atStart=>exact⟨0,Nat.zero_le _,rfl,by rw[Hw];exact H.out,Keeps.refl _ _⟩
 case round=>
  obtain⟨i,hi,rfl,d,q⟩:=hrel;have S:(0:Int)≤(i:Int):=Int.natCast_nonneg _;obtain⟨b1,b2,b3⟩:=r.out;by_cases U:i<m
  ·have X:(i:Int)<(m:Int):=by omega
   obtain⟨A,u⟩:∃A:Nat,a+i=A:=⟨_,rfl⟩
   obtain⟨B,v⟩:∃B:Nat,b+i=B:=⟨_,rfl⟩
   have s1:IntKind.i64.wrap ((a:Int)+(i:Int))=(A:Int):=(IntWalk.i64_in _ (by omega)).trans (by omega);have s2:IntKind.i64.wrap ((b:Int)+(i:Int))=(B:Int):=(IntWalk.i64_in _ (by omega)).trans (by omega);have P:(A:Int)<(n:Int):=by omega
   have R:(B:Int)<(n:Int):=by omega
   have K:(0:Int)≤(A:Int):=Int.natCast_nonneg _;have Q:(0:Int)≤(B:Int):=Int.natCast_nonneg _;obtain⟨T,f⟩:=gE (eQ a b i t);rw[f] at d;have V:Hid ((fun k=>if k=B then T A else (fun k=>if k=A then T B else T k) k)=eQ a b (i+1) t):=by
    show _=_;rw[Hv (by omega),f,u,v];have J:T A=t A:=by rw[←f,←u];unfold eQ;rw[if_neg (by omega),if_neg (by omega)]
    have eB:T B=t B:=by rw[←f,←v];unfold eQ;rw[if_neg (by omega),if_neg (by omega)]
    rw[J,eB]
    funext k
    by_cases e1:k=A
    ·subst e1
     rw[if_neg (by omega)];dsimp only;rw[if_pos rfl,if_pos rfl]
    ·by_cases e2:k=B
     ·subst e2
      rw[if_pos rfl,if_neg e1,if_pos rfl]
     ·rw [if_neg e2]
      dsimp only;rw[if_neg e1,if_neg e1,if_neg e2]
   have s:=(d.out.put (j:=A) (by omega) (T B)).put (j:=B) (by omega) (T A);rw[V.out] at s;have z:Keeps (· =g) w _:=q.out.trans (ks1 (ks1 (ks1 (ks1 (ks1 (ks1 (ks1 (ks1 (Keeps.refl (· =g) wr) (o+A*4) (O G (T B).at_)) (o+A*4+1) (O .u8 (T B).val)) (o+A*4+2) (O G (T B).fl)) (o+A*4+3) (O G (T B).du)) (o+B*4) (O G (T A).at_)) (o+B*4+1) (O .u8 (T A).val)) (o+B*4+2) (O G (T A).fl)) (o+B*4+3) (O G (T A).du)) (fun _ _ e=>e);have y:=hid s;have E:=hid z;obtain⟨Z,x1,x2,x3⟩:=d.out.at (i:=A) (by omega);obtain⟨y0,y1,y2,y3⟩:=d.out.at (i:=B) (by omega);have f0:=d.out.free (o+A*4);have f1:=d.out.free (o+A*4+1);have f2:=d.out.free (o+A*4+2);have f3:=d.out.free (o+A*4+3);have f4:=d.out.free (o+B*4);have f5:=d.out.free (o+B*4+1);have f6:=d.out.free (o+B*4+2);have f7:=d.out.free (o+B*4+3);have L:A<B:=by omega
   clear u v f s z;go_upto_region 3 with(fail)
   go_region;go_wp2;go_roundw
   case rel=>exact⟨i+1,by omega,by go_num,y.out.keeps (F:=fun _=>False) (Keeps.af (Below.refl _ _).drew) (fun e=>e),E.out.trans (Keeps.af (F:=fun _=>False) (Below.refl _ _).drew) (fun _ _ e=>e.elim)⟩
   case measure=>simp [intOf];omega
  ·obtain rfl:i=m:=by omega
   go_wp2;go_end0;exact⟨rfl,d.out,q.out⟩
theorem Uq (g o n N c:Nat) (t:Nat→Kc) (Z:Value) (a m b:Nat) (Cg:a<m) (D:m<b) (hb:b≤n) (hn:n≤100000000) (w:World) (h:eO w g o n N t):
  Calls Tryz.prog 220 #[.slice (Y ⟨g,o,M⟩) n c,O G (a:Int),O G (m:Int),O G (b:Int),Z] w (yo w g o n N (fy a m b t)):=by
 have H:=hid h;have K:=hid (And.intro Cg (And.intro D (And.intro hb hn)));have s:Hid (∀(X:World) (T:Nat→Kc) (a b m:Nat),a+m≤b→b+m≤n→eO X g o n N T→Calls Tryz.prog 227 #[.slice (Y ⟨g,o,M⟩) n c,O G (a:Int),O G (b:Int),O G (m:Int),Z] X (yo X g o n N (eQ a b m T))):=fun X T a b m h1 B h3=>KJ g o n N c T Z a b m h1 B hn X h3
 obtain⟨i0,C⟩:∃i:Nat,m-a=i:=⟨_,rfl⟩
 obtain⟨j0,Ts⟩:∃i:Nat,b-m=i:=⟨_,rfl⟩
 have s1:IntKind.i64.wrap ((m:Int)- (a:Int))=(i0:Int):=(IntWalk.i64_in _ (by omega)).trans (by omega);have s2:IntKind.i64.wrap ((b:Int)- (m:Int))=(j0:Int):=(IntWalk.i64_in _ (by omega)).trans (by omega);have P:=hid (And.intro C Ts);obtain⟨R,hR⟩:=gE (fy a m b t);rw[hR];have S:Hid (fy (m-i0) m (m+j0) t=R):=by show _=_;rw[←hR,show m-i0=a by omega,show m+j0=b by omega]
 clear h Cg D hb hn C Ts hR;go_enter Tryz.func220,Tryz.ntmps220;go_wp2;go_loopw [10,11] (fun iv jv wr=>∃(i j:Nat) (T:Nat→Kc),iv=O G (i:Int)∧jv=O G (j:Int)∧0<i∧0<j∧Hid (i≤m∧m+j≤n)∧Hid (fy (m-i) m (m+j) T=R)∧Hid (eO wr g o n N T)∧Hid (Keeps (· =g) w wr)) (fun iv jv _=>(intOf iv).toNat+(intOf jv).toNat)
 case atStart=>exact⟨i0,j0,t,rfl,rfl,by have:=P.out;have:=K.out;omega,by have:=P.out;have:=K.out;omega,⟨by have:=P.out;omega,by have:=P.out;have:=K.out;omega⟩,S.out,H.out,Keeps.refl _ _⟩
 case round=>
  obtain⟨i,j,T,rfl,rfl,hi,hj,As,V,u,v⟩:=hrel;obtain⟨a1,a2⟩:=As.out;obtain⟨b1,b2,b3,b4⟩:=K.out;by_cases e:i=j
  ·subst e
   have g1:((i:Int) !=(i:Int))=false:=by rw[bne_eq_false_iff_eq]
   obtain⟨L,q⟩:∃L:Nat,m-i=L:=⟨_,rfl⟩
   have s3:IntKind.i64.wrap ((m:Int)- (i:Int))=(L:Int):=(IntWalk.i64_in _ (by omega)).trans (by omega);have x:=hid (s.out wr T L m i (by omega) (by omega) u.out);have A:Hid (eQ L m i T=R):=by show _=_;rw[←V.out,←q];exact Um T a1
   clear q;go_wp2_with (go_at_call 227;(with_reducible refine x.out.mono ?_);rintro r w2 ⟨rfl,d,f⟩;have F:=hid d;have E:=hid f;clear d f);go_end0;exact⟨rfl,by rw[←A.out];exact F.out,v.out.trans E.out (fun _ _ e=>e)⟩
  ·have g1:((i:Int) !=(j:Int))=true:=by rw[bne_iff_ne];omega
   have ak:¬(i:Int)=(j:Int):=by omega
   by_cases B:j<i
   ·have g2:decide ((j:Int)<(i:Int))=true:=decide_eq_true (by omega)
    obtain⟨L,q⟩:∃L:Nat,m-i=L:=⟨_,rfl⟩
    have s3:IntKind.i64.wrap ((m:Int)- (i:Int))=(L:Int):=(IntWalk.i64_in _ (by omega)).trans (by omega);obtain⟨I,hI⟩:∃I:Nat,i-j=I:=⟨_,rfl⟩
    have s4:IntKind.i64.wrap ((i:Int)- (j:Int))=(I:Int):=(IntWalk.i64_in _ (by omega)).trans (by omega);have x:=hid (s.out wr T L m j (by omega) (by omega) u.out);have A:Hid (fy (m-I) m (m+j) (eQ L m j T)=R):=by show _=_;rw[←V.out,←q,←hI];exact Uo T a1 B hj
    have ab:0<I:=by omega
    have y:=hid hI;have g3:j<i:=B;clear q hI;go_wp2_with (go_at_call 227;(with_reducible refine x.out.mono ?_);rintro r w2 ⟨rfl,d,f⟩;have F:=hid d;have E:=hid f;clear d f);go_roundw
    case rel=>exact⟨I,j,eQ L m j T,rfl,rfl,ab,hj,⟨by have:=y.out;omega,a2⟩,A.out,F.out,v.out.trans E.out (fun _ _ e=>e)⟩
    case measure=>have:=y.out;simp [intOf];omega
   ·have g2:decide ((j:Int)<(i:Int))=false:=decide_eq_false (by omega)
    have h3:i<j:=by omega
    obtain⟨L,q⟩:∃L:Nat,m-i=L:=⟨_,rfl⟩
    have s3:IntKind.i64.wrap ((m:Int)- (i:Int))=(L:Int):=(IntWalk.i64_in _ (by omega)).trans (by omega);obtain⟨Q,hQ⟩:∃Q:Nat,m+j=Q:=⟨_,rfl⟩
    have s5:IntKind.i64.wrap ((m:Int)+(j:Int))=(Q:Int):=(IntWalk.i64_in _ (by omega)).trans (by omega);obtain⟨U,hU⟩:∃U:Nat,Q-i=U:=⟨_,rfl⟩
    have s6:IntKind.i64.wrap ((Q:Int)- (i:Int))=(U:Int):=(IntWalk.i64_in _ (by omega)).trans (by omega);obtain⟨J,hJ⟩:∃J:Nat,j-i=J:=⟨_,rfl⟩
    have s7:IntKind.i64.wrap ((j:Int)- (i:Int))=(J:Int):=(IntWalk.i64_in _ (by omega)).trans (by omega);have x:=hid (s.out wr T L U i (by omega) (by omega) u.out);have A:Hid (fy (m-i) m (m+J) (eQ L U i T)=R):=by show _=_;rw[←V.out,←q,←hU,←hQ,←hJ];exact Up T a1 h3 hi
    have ad:0<J:=by omega
    have z:=hid hJ;have g3:¬j<i:=B;clear q hQ hU hJ;go_wp2_with (go_at_call 227;(with_reducible refine x.out.mono ?_);rintro r w2 ⟨rfl,d,f⟩;have F:=hid d;have E:=hid f;clear d f);go_roundw
    case rel=>exact⟨i,J,eQ L U i T,rfl,rfl,hi,ad,⟨a1,by have:=z.out;omega⟩,A.out,F.out,v.out.trans E.out (fun _ _ e=>e)⟩
    case measure=>have:=z.out;simp [intOf];omega
def Mh (t:Nat→Kc) (a b:Nat):Prop:=∀i j,a≤i→i<j→j<b→((t j).at_<(t i).at_↔(t j).key<(t i).key)∧(t j).key≠(t i).key
theorem lN.xb7 (f:Mh t0 a b) (h:lN t0 t a i) (hi:i<b):lU t a i (i+1):=
 ⟨h.s,fun x y c d e=>by omega,fun x y c d e o=>by
  obtain⟨x',m,q,n⟩:=h.m.fw x c d
  have g:y=i:=by omega
  subst g
  rw[n,h.o y (.inr (Nat.le_refl _))]
  exact f x' y m (by omega) hi⟩
theorem lN.WK (g:Mh t0 a b) (h:lN t0 t a i) (hi:i<b) (c:a≤j) (d:j≤i) (f:∀k,a≤k→k<j→(t k).key<(t i).key) (m:∀k,j≤k→k<i→(t i).key<(t k).key):
  lN t0 (iU j i t) a (i+1):=by
 obtain⟨e1,e2⟩:=sK (h.xb7 g hi) c d f m;refine⟨e1,?_,fun k e=>(e2.out k e).trans (h.o k (by omega))⟩;refine FD.trans ?_ e2.same;refine h.m.join ((FD.refl t0 i (i+1)).congr fun k n o=>by rw[show k=i by omega];exact h.o i (.inr (Nat.le_refl _))) (by omega) (by omega)
def L9 (w:World) (g o n N:Nat) (t:Nat→Kc) (a b:Nat) (r:Ending) (w':World):Prop:=∃t',r=.returned (.tuple #[])∧lN t t' a b∧eO w' g o n N t'∧Keeps (· =g) w w'
theorem ON (g o n N c:Nat) (t:Nat→Kc) (a b:Nat) (ib:a≤b) (hb:b≤n) (hn:n≤100000000) (ho:Mh t a b) (w:World) (h:eO w g o n N t):
  Calls Tryz.prog 202 #[.slice (Y ⟨g,o,M⟩) n c,O G (a:Int),O G (b:Int),.func (.func 160) #[] #[]] w (L9 w g o n N t a b):=by
 have H:=hid h;have HO:=hid ho;have HB:=hid (And.intro ib (And.intro hb hn));clear h ho ib hb hn;by_cases a5:a<b
 case neg=>
  have QX:IntKind.i64.wrap ((a:Int)+1)=((a+1:Nat):Int):=(IntWalk.i64_in _ (by have:=HB.out;omega)).trans (by omega);have a4:¬a+1<b:=by omega
  have HE:Hid (a=b):=by show a=b;have:=HB.out;omega
  obtain⟨a1,v⟩:∃x,a+1=x:=⟨_,rfl⟩
  rw[v] at QX a4;clear a5 v;go_enter Tryz.func202,Tryz.ntmps202;go_wp2_with fail;go_loopw [8] (fun iv wr=>iv=O G (a1:Int)∧w=wr) (fun _ _=>0)
  case atStart=>exact⟨rfl,rfl⟩
  case round=>
   obtain⟨rfl,rfl⟩:=hrel;have ba:¬(a1:Int)<(b:Int):=by omega
   go_wp2;go_end0;have e:=HE.out;subst e;exact⟨t,rfl,lN.nil t a,H.out,Keeps.refl _ _⟩
 have QX:IntKind.i64.wrap ((a:Int)+1)=((a+1:Nat):Int):=(IntWalk.i64_in _ (by have:=HB.out;omega)).trans (by omega);obtain⟨a1,v⟩:∃x,a+1=x:=⟨_,rfl⟩
 rw[v] at QX;have UX:=hid v;have n6:Hid (lN t t a a1):=by show lN _ _ _ _;rw[←v];exact lN.start t a
 clear v;go_enter Tryz.func202,Tryz.ntmps202;go_wp2_with fail;go_loopw [8] (fun iv wr=>∃(i:Nat) (T:Nat→Kc),a<i∧i≤b∧iv=O G (i:Int)∧Hid (lN t T a i)∧Hid (eO wr g o n N T)∧Hid (Keeps (· =g) w wr)) (fun iv _=>b- (intOf iv).toNat)
 case atStart=>exact⟨a1,t,by have:=UX.out;omega,by have:=UX.out;omega,rfl,n6.out,H.out,Keeps.refl _ _⟩
 case round=>
  obtain⟨i,T,ab,a9,rfl,L,ak,av⟩:=hrel;obtain⟨b1,b2,b3⟩:=HB.out;by_cases A:i<b
  ·have tt:(i:Int)<(b:Int):=by omega
   have HM:Hid (lU T a i (i+1)):=L.out.xb7 HO.out A;have I:=hid ab;go_upto_region 4 with(fail)
   go_loopw [9] (fun jv wi=>∃j:Nat,a≤j∧j≤i∧jv=O G (j:Int)∧Hid (∀k,j≤k→k<i→(T i).key<(T k).key)∧Hid (eO wi g o n N (iU j i T))∧Hid (Keeps (· =g) w wi)) (fun jv _=>(intOf jv).toNat)
   case atStart=>exact⟨i,Nat.le_of_lt ab,Nat.le_refl _,rfl,fun k R Z=>by omega,by rw[BM];exact ak.out,av.out⟩
   case round=>
    obtain⟨j,ad,V8,rfl,hr,u,eC⟩:=hrel;have C:Below wr.heap.size wr wr.drew:=(Below.refl _ _).drew;by_cases ao:a<j
    ·have g1:decide ((a:Int)<(j:Int))=true:=decide_eq_true (by omega)
     have a3:a<j:=ao;obtain⟨p,hp⟩:∃p:Nat,j-1=p:=⟨_,rfl⟩
     have s1:IntKind.i64.wrap ((j:Int)-1)=(p:Int):=(IntWalk.i64_in _ (by omega)).trans (by omega);have B:p+1=j:=by omega
     have Ts:(0:Int)≤(j:Int):=Int.natCast_nonneg _;have Lu:(0:Int)≤(p:Int):=Int.natCast_nonneg _;have Zk:(j:Int)<(n:Int):=by omega
     have J2:(p:Int)<(n:Int):=by omega
     have eJ:iU j i T j=T i:=by unfold iU;rw[if_neg (by omega),if_pos rfl]
     have eP:iU j i T p=T p:=by unfold iU;rw[if_pos (by omega)]
     have J:=HM.out.x p i (by omega) (by omega) (Nat.le_refl _) (by omega);obtain⟨U,D⟩:=gE (iU j i T);rw[D] at eJ eP u;have tT:Hid (∀X,Calls Tryz.prog 160 #[.agg #[O G (U j).at_,O .u8 (U j).val,O G (U j).fl,O G (U j).du],.agg #[O G (U p).at_,O .u8 (U p).val,O G (U p).fl,O G (U p).du]] X (mS X (decide ((U j).at_<(U p).at_)))):=fun X=>Gt (U j) (U p) X
     have cx:∀X,Below wr.heap.size wr X→X.cell? ⟨g,o+j*4,M⟩=Y (O G (U j).at_):=fun X h=>cell_keep h (u.out.at (i:=j) (by omega)).1
     have A5:∀X,Below wr.heap.size wr X→X.cell? ⟨g,o+j*4+1,M⟩=Y (O .u8 (U j).val):=fun X h=>cell_keep h (u.out.at (i:=j) (by omega)).2.1
     have A6:∀X,Below wr.heap.size wr X→X.cell? ⟨g,o+j*4+2,M⟩=Y (O G (U j).fl):=fun X h=>cell_keep h (u.out.at (i:=j) (by omega)).2.2.1
     have Bb:∀X,Below wr.heap.size wr X→X.cell? ⟨g,o+j*4+3,M⟩=Y (O G (U j).du):=fun X h=>cell_keep h (u.out.at (i:=j) (by omega)).2.2.2
     have cy:∀X,Below wr.heap.size wr X→X.cell? ⟨g,o+p*4,M⟩=Y (O G (U p).at_):=fun X h=>cell_keep h (u.out.at (i:=p) (by omega)).1
     have Bc:∀X,Below wr.heap.size wr X→X.cell? ⟨g,o+p*4+1,M⟩=Y (O .u8 (U p).val):=fun X h=>cell_keep h (u.out.at (i:=p) (by omega)).2.1
     have Be:∀X,Below wr.heap.size wr X→X.cell? ⟨g,o+p*4+2,M⟩=Y (O G (U p).fl):=fun X h=>cell_keep h (u.out.at (i:=p) (by omega)).2.2.1
     have Bh:∀X,Below wr.heap.size wr X→X.cell? ⟨g,o+p*4+3,M⟩=Y (O G (U p).du):=fun X h=>cell_keep h (u.out.at (i:=p) (by omega)).2.2.2
     rw[eJ,eP] at tT;have HU:=hid D;have a6:=hid eJ;have a7:=hid eP;have s:=hid (And.intro hp B);rw[eJ] at cx A5 A6 Bb;rw[eP] at cy Bc Be Bh;clear hp D eJ eP;by_cases E:(T i).at_<(T p).at_
     ·have mA:decide ((T i).at_<(T p).at_)=true:=decide_eq_true E
      rw[mA] at tT;have A1:=hid (J.1.1 E);clear E mA J;go_upto_region 4 with(fail)
      refine wp_region_held_drew (S:=fun V=>Below wr.heap.size wr V) (by kernel_rfl) C (fun hH=>?_);clear hH;refine tG 0 18 ?_;refine tG 1 19 ?_;refine tG 2 20 ?_;refine tG 3 21 ?_;refine tG 4 22 ?_;refine tG 5 23 ?_;refine tG 6 24 ?_;refine tG 7 25 ?_;refine tG 8 26 ?_;refine tG 9 27 ?_;refine tG 10 28 ?_;refine tG 11 29 ?_;refine tG 12 30 ?_;refine tG 13 31 ?_;refine rdyH 14 rfl (fun K hK=>?_);go_simp;refine(tT.out _).mono ?_;rintro r w5 ⟨nn,rfl,nK,z⟩;have f:=bt C z (Nat.le_refl _);refine hK.out _ _ f (fun y=>?_);clear hK K y;have dn:decide (nn<0)=true:=nK.out;refine tG 15 33 ?_;refine tG 16 34 ?_;refine wpAnyH_done (by kernel_rfl) ?_ _;clear cx A5 A6 Bb cy Bc Be Bh;have m:Hid (eO w5 g o n N U):=u.out.keeps (F:=fun _=>False) (Keeps.af f) (fun e=>e);have Q:Hid (Keeps (· =g) w w5):=eC.out.trans (Keeps.af (F:=fun _=>False) f) (fun _ _ e=>e.elim);have Ou:=(m.out.put (j:=j) (by omega) (U p)).put (j:=p) (by omega) (U j);have aX:(fun k=>if k=p then U j else (fun k=>if k=j then U p else U k) k)=iU p i T:=by
       rw[←BO (j:=p) (i:=i) T (by omega)];rw[B,HU.out]
       funext k
       by_cases e1:k=p
       ·rw [if_pos e1,if_neg (by omega),if_pos e1]
       ·rw [if_neg e1]
        dsimp only;by_cases e2:k=j
        ·rw [if_pos e2,if_pos e2]
        ·rw [if_neg e2,if_neg e2,if_neg e1]
      rw[aX] at Ou;have rm:Keeps (· =g) w _:=Q.out.trans (ks1 (ks1 (ks1 (ks1 (ks1 (ks1 (ks1 (ks1 (Keeps.refl (· =g) w5) (o+j*4) (O G (U p).at_)) (o+j*4+1) (O .u8 (U p).val)) (o+j*4+2) (O G (U p).fl)) (o+j*4+3) (O G (U p).du)) (o+p*4) (O G (U j).at_)) (o+p*4+1) (O .u8 (U j).val)) (o+p*4+2) (O G (U j).fl)) (o+p*4+3) (O G (U j).du)) (fun _ _ e=>e);have a2:=hid Ou;have aY:=hid rm;obtain⟨x0,x1,x2,x3⟩:=m.out.at (i:=j) (by omega);obtain⟨y0,y1,y2,y3⟩:=m.out.at (i:=p) (by omega);have f0:=m.out.free (o+j*4);have f1:=m.out.free (o+j*4+1);have f2:=m.out.free (o+j*4+2);have f3:=m.out.free (o+j*4+3);have f4:=m.out.free (o+p*4);have f5:=m.out.free (o+p*4+1);have f6:=m.out.free (o+p*4+2);have f7:=m.out.free (o+p*4+3);have a8:p<j:=by omega
      have zf:Hid (∀k,p≤k→k<i→(T i).key<(T k).key):=fun k R Z=>by
       have:=s.out;by_cases e:k=p
       ·subst e
        exact A1.out
       ·exact hr.out k (by omega) Z
      clear Ou rm aX B;go_upto_region 6 with(fail)
      go_region;go_wp2;go_roundw
      case rel=>exact⟨p,by have:=s.out;omega,by have:=s.out;omega,rfl,zf.out,a2.out.keeps (F:=fun _=>False) (Keeps.af (Below.refl _ _).drew) (fun e=>e),aY.out.trans (Keeps.af (F:=fun _=>False) (Below.refl _ _).drew) (fun _ _ e=>e.elim)⟩
      case measure=>have:=s.out;simp [intOf];omega
     ·have mA:decide ((T i).at_<(T p).at_)=false:=decide_eq_false E
      rw[mA] at tT;have A1:Hid ((T p).key<(T i).key):=by
       show _<_;have R:=mt J.1.2 E;have Z:=J.2;omega
      clear E mA J;go_upto_region 4 with(fail)
      refine wp_region_held_drew (S:=fun V=>Below wr.heap.size wr V) (by kernel_rfl) C (fun hH=>?_);clear hH;refine tG 0 18 ?_;refine tG 1 19 ?_;refine tG 2 20 ?_;refine tG 3 21 ?_;refine tG 4 22 ?_;refine tG 5 23 ?_;refine tG 6 24 ?_;refine tG 7 25 ?_;refine tG 8 26 ?_;refine tG 9 27 ?_;refine tG 10 28 ?_;refine tG 11 29 ?_;refine tG 12 30 ?_;refine tG 13 31 ?_;refine rdyH 14 rfl (fun K hK=>?_);go_simp;refine(tT.out _).mono ?_;rintro r w5 ⟨nn,rfl,nK,z⟩;have f:=bt C z (Nat.le_refl _);refine hK.out _ _ f (fun y=>?_);clear hK K y;have dn:decide (nn<0)=false:=nK.out;refine tG 15 33 ?_;refine tG 16 34 ?_;refine wpAnyH_done (by kernel_rfl) ?_ _;clear cx A5 A6 Bb cy Bc Be Bh;have R1:Hid (lN t U a (i+1)):=by
       show lN _ _ _ _;rw[←HU.out];exact L.out.WK HO.out A ad V8 (fun k R Z=>by
        by_cases e:k=p
        ·subst e;exact A1.out
        ·have:=L.out.s k p R (by have:=s.out;omega) (by have:=s.out;omega)
         have:=A1.out
         omega) hr.out
      have m:Hid (eO w5 g o n N U):=u.out.keeps (F:=fun _=>False) (Keeps.af f) (fun e=>e);have Q:Hid (Keeps (· =g) w w5):=eC.out.trans (Keeps.af (F:=fun _=>False) f) (fun _ _ e=>e.elim);go_wp2;go_roundw
      case rel=>exact⟨i+1,U,by have:=I.out;omega,by omega,by go_num,R1.out,m.out,Q.out⟩
      case measure=>simp [intOf];omega
    ·have g1:decide ((a:Int)<(j:Int))=false:=decide_eq_false (by omega)
     have a3:¬a<j:=ao;have R1:Hid (lN t (iU j i T) a (i+1)):=L.out.WK HO.out A ad V8 (fun k R Z=>by omega) hr.out;obtain⟨U,D⟩:=gE (iU j i T);rw[D] at R1 u;clear D;go_upto_region 4 with(fail)
     refine wp_region_held_drew (S:=fun V=>Below wr.heap.size wr V) (by kernel_rfl) C (fun hH=>?_);clear hH;refine tG 0 18 ?_;refine tG 1 19 ?_;refine tG 2 20 ?_;refine tG 3 21 ?_;refine tU 4 22 ?_;refine tU 5 23 ?_;refine tU 6 24 ?_;refine tU 7 25 ?_;refine tU 8 26 ?_;refine tU 9 27 ?_;refine tU 10 28 ?_;refine tU 11 29 ?_;refine tU 12 30 ?_;refine tU 13 31 ?_;refine tU 14 32 ?_;refine tU 15 33 ?_;refine tG 16 34 ?_;refine wpAnyH_done (by kernel_rfl) ?_ _;have m:Hid (eO wr.drew g o n N U):=u.out.keeps (F:=fun _=>False) (Keeps.af C) (fun e=>e);have Q:Hid (Keeps (· =g) w wr.drew):=eC.out.trans (Keeps.af (F:=fun _=>False) C) (fun _ _ e=>e.elim);go_wp2;go_roundw
     case rel=>exact⟨i+1,U,by have:=I.out;omega,by omega,by go_num,R1.out,m.out,Q.out⟩
     case measure=>simp [intOf];omega
  ·obtain rfl:i=b:=by omega
   go_wp2;go_end0;exact⟨T,rfl,L.out,ak.out,av.out⟩
def uX (w:World) (g o n N:Nat) (t:Nat→Kc) (a b:Nat) (r:Ending) (w':World):Prop:=∃t',r=.returned (.tuple #[])∧xab t' a b∧Gr t t' a b∧eO w' g o n N t'∧Keeps (· =g) w w'
theorem PB (h:p:=by
 go_region
 go_wp2
 go_roundw
 case rel=>exact⟨p,by have:=HP.out;omega,by have:=HP.out;omega,rfl,HSW.out.keeps (F:=fun _=>False) (Keeps.af (Below.refl _ _).drew) (fun e=>e),HKS.out.trans (Keeps.af (F:=fun _=>False) (Below.refl _ _).drew) (fun _ _ e=>e.elim)⟩
 case measure=>have:=HP.out;simp [intOf];omega):p:=h
theorem PG (h:p:=by
 go_wp2
 go_roundw
 case rel=>exact⟨h+1,j,by have:=HHB.out;omega,by have:=HHB.out;omega,hjb,rfl,rfl,HLO.out,hhi.out,hck.out.keeps (F:=fun _=>False) (Keeps.af hB5) (fun e=>e),hkp.out.trans (Keeps.af (F:=fun _=>False) hB5) (fun _ _ e=>e.elim)⟩
 case measure=>have:=HHB.out;simp [intOf];omega):p:=h
theorem PI (h:p:=by
 go_wp2
 go_roundw
 case rel=>exact⟨i,h,him,HHB.out.1,by have:=HHB.out;omega,rfl,rfl,hlo.out,HHI.out,hck.out.keeps (F:=fun _=>False) (Keeps.af hB5) (fun e=>e),hkp.out.trans (Keeps.af (F:=fun _=>False) hB5) (fun _ _ e=>e.elim)⟩
 case measure=>have:=HHB.out;simp [intOf];omega):p:=h
theorem Pq (g o n N c:Nat) (t:Nat→Kc) (a b:Nat) (ib:a+1<b) (hb:b≤n) (hn:n≤100000000) (hm:lU t a (a+1) b) (w:World) (h:eO w g o n N t):
  Calls Tryz.prog 203 #[.slice (Y ⟨g,o,M⟩) n c,O G (a:Int),O G ((a+1:Nat):Int),O G (b:Int),.func (.func 160) #[] #[]] w (uX w g o n N t a b):=by
 have H:=hid h;have J:=hid hm;obtain⟨m,Z⟩:∃m,a+1=m:=⟨_,rfl⟩
 have HB:=hid (And.intro ib (And.intro hb (And.intro hn Z)));rw[Z];have s0:IntKind.i64.wrap ((m:Int)- (a:Int))=1:=(IntWalk.i64_in _ (by omega)).trans (by omega);clear h hm ib hb hn Z;go_enter Tryz.func203,Tryz.ntmps203;go_upto_region 3 with(fail)
 go_loopw [10,11,12] (fun iv jv _ wr=>∃i j:Nat,m≤i∧i≤j∧j≤b∧iv=O G (i:Int)∧jv=O G (j:Int)∧Hid (∀k,m≤k→k<i→(t k).key<(t a).key)∧Hid (∀k,j≤k→k<b→(t a).key<(t k).key)∧Hid (eO wr g o n N t)∧Hid (Keeps (· =g) w wr)) (fun iv jv _ _=>(intOf jv).toNat- (intOf iv).toNat)
 case atStart=>exact⟨m,b,Nat.le_refl _,by have:=HB.out;omega,Nat.le_refl _,rfl,rfl,fun k C u=>by omega,fun k C u=>by omega,H.out,Keeps.refl _ _⟩
 case round=>
  obtain⟨i,j,him,As,hjb,rfl,rfl,hlo,hhi,hck,hkp⟩:=hrel;obtain⟨b1,b2,b3,b4⟩:=HB.out;by_cases aY:i<j
  ·have tt:(i:Int)<(j:Int):=by omega
   obtain⟨Q,hQ⟩:∃Q:Nat,i+j=Q:=⟨_,rfl⟩
   have s1:IntKind.i64.wrap ((i:Int)+(j:Int))=(Q:Int):=(IntWalk.i64_in _ (by omega)).trans (by omega);have s2:IntKind.u64.wrap (Q:Int)=(Q:Int):=IntWalk.u64_in _ (by omega);obtain⟨h,hh⟩:∃h:Nat,Q/2=h:=⟨_,rfl⟩
   have s3:(Q:Int)/2=(h:Int):=by omega
   have s4:IntKind.i64.wrap (h:Int)=(h:Int):=IntWalk.i64_in _ (by omega);have s5:IntKind.i64.wrap ((h:Int)+1)=((h+1:Nat):Int):=(IntWalk.i64_in _ (by omega)).trans (by omega);have ak:(0:Int)≤(h:Int):=Int.natCast_nonneg _;have xI:i≤h∧h<j:=by omega
   have ao:(h:Int)<(n:Int):=by omega
   have lG:(a:Int)<(n:Int):=by omega
   have QE:(0:Int)≤(a:Int):=Int.natCast_nonneg _;have B:=J.out.x a h (Nat.le_refl _) (by omega) (by omega) (by omega);have R:Hid (∀X,Calls Tryz.prog 160 #[.agg #[O G (t h).at_,O .u8 (t h).val,O G (t h).fl,O G (t h).du],.agg #[O G (t a).at_,O .u8 (t a).val,O G (t a).fl,O G (t a).du]] X (mS X (decide ((t h).at_<(t a).at_)))):=fun X=>Gt (t h) (t a) X
   have EO:∀X,Below wr.heap.size wr X→X.cell? ⟨g,o+h*4,M⟩=Y (O G (t h).at_):=fun X f=>cell_keep f (hck.out.at (i:=h) (by omega)).1
   have A5:∀X,Below wr.heap.size wr X→X.cell? ⟨g,o+h*4+1,M⟩=Y (O .u8 (t h).val):=fun X f=>cell_keep f (hck.out.at (i:=h) (by omega)).2.1
   have A6:∀X,Below wr.heap.size wr X→X.cell? ⟨g,o+h*4+2,M⟩=Y (O G (t h).fl):=fun X f=>cell_keep f (hck.out.at (i:=h) (by omega)).2.2.1
   have Bb:∀X,Below wr.heap.size wr X→X.cell? ⟨g,o+h*4+3,M⟩=Y (O G (t h).du):=fun X f=>cell_keep f (hck.out.at (i:=h) (by omega)).2.2.2
   have ER:∀X,Below wr.heap.size wr X→X.cell? ⟨g,o+a*4,M⟩=Y (O G (t a).at_):=fun X f=>cell_keep f (hck.out.at (i:=a) (by omega)).1
   have Bc:∀X,Below wr.heap.size wr X→X.cell? ⟨g,o+a*4+1,M⟩=Y (O .u8 (t a).val):=fun X f=>cell_keep f (hck.out.at (i:=a) (by omega)).2.1
   have Be:∀X,Below wr.heap.size wr X→X.cell? ⟨g,o+a*4+2,M⟩=Y (O G (t a).fl):=fun X f=>cell_keep f (hck.out.at (i:=a) (by omega)).2.2.1
   have Bh:∀X,Below wr.heap.size wr X→X.cell? ⟨g,o+a*4+3,M⟩=Y (O G (t a).du):=fun X f=>cell_keep f (hck.out.at (i:=a) (by omega)).2.2.2
   have P:Below wr.heap.size wr wr.drew:=(Below.refl _ _).drew;have HHB:=hid xI;clear hQ hh xI;by_cases z:(t h).at_<(t a).at_
   ·have I:decide ((t h).at_<(t a).at_)=true:=decide_eq_true z
    rw[I] at R;have A:=hid (B.1.1 z);clear z I B;go_upto_region 5 with(fail)
    refine wp_region_held_drew (S:=fun V=>Below wr.heap.size wr V) (by kernel_rfl) P (fun hH=>?_);clear hH;refine tG 0 40 ?_;refine tG 1 41 ?_;refine tG 2 42 ?_;refine tG 3 43 ?_;refine tG 4 44 ?_;refine tG 5 45 ?_;refine tG 6 46 ?_;refine tG 7 47 ?_;refine tG 8 48 ?_;refine rdyH 9 rfl (fun K D=>?_);go_simp;refine(R.out _).mono ?_;rintro r w5 ⟨nn,rfl,nK,y⟩;have hB5:=bt P y (Nat.le_refl _);refine D.out _ _ hB5 (fun v=>?_);clear D K v;have dn:decide (nn<0)=true:=nK.out;refine tG 10 50 ?_;refine wpAnyH_done (by kernel_rfl) ?_ _;clear EO A5 A6 Bb ER Bc Be Bh;have HLO:Hid (∀k,m≤k→k<h+1→(t k).key<(t a).key):=fun k C u=>by
     by_cases e:k=h
     ·subst e
      exact A.out
     ·have:=J.out.r k h (by omega) (by omega) (by have:=HHB.out;omega)
      have:=A.out;omega
    exact PG
   ·have I:decide ((t h).at_<(t a).at_)=false:=decide_eq_false z
    rw[I] at R;have A:Hid ((t a).key<(t h).key):=by
     show _<_;have C:=mt B.1.2 z;have u:=B.2;omega
    clear z I B;go_upto_region 5 with(fail)
    refine wp_region_held_drew (S:=fun V=>Below wr.heap.size wr V) (by kernel_rfl) P (fun hH=>?_);clear hH;refine tG 0 40 ?_;refine tG 1 41 ?_;refine tG 2 42 ?_;refine tG 3 43 ?_;refine tG 4 44 ?_;refine tG 5 45 ?_;refine tG 6 46 ?_;refine tG 7 47 ?_;refine tG 8 48 ?_;refine rdyH 9 rfl (fun K D=>?_);go_simp;refine(R.out _).mono ?_;rintro r w5 ⟨nn,rfl,nK,y⟩;have hB5:=bt P y (Nat.le_refl _);refine D.out _ _ hB5 (fun v=>?_);clear D K v;have dn:decide (nn<0)=false:=nK.out;refine tG 10 50 ?_;refine wpAnyH_done (by kernel_rfl) ?_ _;clear EO A5 A6 Bb ER Bc Be Bh;have HHI:Hid (∀k,h≤k→k<b→(t a).key<(t k).key):=fun k C u=>by
     by_cases e:k=h
     ·subst e
      exact A.out
     ·have:=J.out.r h k (by have:=HHB.out;omega) (by omega) u
      have:=A.out;omega
    exact PI
  ·obtain rfl:i=j:=by omega
   have Fl:Hid (xab (oE a i t) a b∧Gr t (oE a i t) a b):=GV J.out (by omega) hjb (fun k C u=>hlo.out k (by omega) u) hhi.out;obtain⟨L,hL⟩:∃L:Nat,i-1=L:=⟨_,rfl⟩
   have s7:IntKind.i64.wrap ((i:Int)-1)=(L:Int):=(IntWalk.i64_in _ (by omega)).trans (by omega);have CL:Hid (L+1=i∧a≤L∧i≤b∧b≤n∧n≤100000000):=by show _∧_;omega
   clear hL;go_upto_region 9 with(fail)
   obtain⟨wo,T⟩:∃W,W=wr:=⟨_,rfl⟩
   have Jl:Hid (Keeps (· =g) w wo):=by show Keeps _ _ _;rw[T];exact hkp.out
   have I7:Hid (eO wo g o n N t):=by show eO _ _ _ _ _ _;rw[T];exact hck.out
   subst T;go_loopw [13] (fun kv wi=>∃k:Nat,a≤k∧k≤L∧kv=O G (k:Int)∧Hid (eO wi g o n N (oE a (k+1) t))∧Hid (Keeps (· =g) w wi)) (fun kv _=>L- (intOf kv).toNat)
   case atStart=>exact⟨a,Nat.le_refl _,CL.out.2.1,rfl,by rw[Kg];exact I7.out,Jl.out⟩
   case round=>
    obtain⟨k,ab,av,rfl,s,eC⟩:=hrel;obtain⟨l1,l2,l3,l4,l5⟩:=CL.out;by_cases Of:k<L
    ·have aX:(k:Int)<(L:Int):=by omega
     obtain⟨p,hp⟩:∃p:Nat,k+1=p:=⟨_,rfl⟩
     have s8:IntKind.i64.wrap ((k:Int)+1)=(p:Int):=(IntWalk.i64_in _ (by omega)).trans (by omega);have zv:(0:Int)≤(k:Int):=Int.natCast_nonneg _;have Lu:(0:Int)≤(p:Int):=Int.natCast_nonneg _;have QK:(k:Int)<(n:Int):=by omega
     have J2:(p:Int)<(n:Int):=by omega
     obtain⟨U,hU⟩:∃U,oE a (k+1) t=U:=⟨_,rfl⟩
     rw[hU] at s;have Ou:=(s.out.put (j:=k) (by omega) (U p)).put (j:=p) (by omega) (U k);have E:(fun x=>if x=p then U k else (fun x=>if x=k then U p else U x) x)=oE a (p+1) t:=by
      rw[show p+1=k+2 by omega,←Kh (a:=a) (k:=k) t ab,hU,←hp]
      funext x
      by_cases e1:x=k
      ·subst e1
       rw[if_neg (by omega)];dsimp only;rw[if_pos rfl,if_pos rfl]
      ·by_cases e2:x=k+1
       ·rw [if_pos e2,if_neg e1,if_pos e2]
       ·rw [if_neg e2]
        dsimp only;rw[if_neg e1,if_neg e1,if_neg e2]
     rw[E] at Ou;have rm:Keeps (· =g) w _:=eC.out.trans (ks1 (ks1 (ks1 (ks1 (ks1 (ks1 (ks1 (ks1 (Keeps.refl (· =g) wr) (o+k*4) (O G (U p).at_)) (o+k*4+1) (O .u8 (U p).val)) (o+k*4+2) (O G (U p).fl)) (o+k*4+3) (O G (U p).du)) (o+p*4) (O G (U k).at_)) (o+p*4+1) (O .u8 (U k).val)) (o+p*4+2) (O G (U k).fl)) (o+p*4+3) (O G (U k).du)) (fun _ _ e=>e);have HSW:=hid Ou;have HKS:=hid rm;obtain⟨x0,x1,x2,x3⟩:=s.out.at (i:=k) (by omega);obtain⟨y0,y1,y2,y3⟩:=s.out.at (i:=p) (by omega);have f0:=s.out.free (o+k*4);have f1:=s.out.free (o+k*4+1);have f2:=s.out.free (o+k*4+2);have f3:=s.out.free (o+k*4+3);have f4:=s.out.free (o+p*4);have f5:=s.out.free (o+p*4+1);have f6:=s.out.free (o+p*4+2);have f7:=s.out.free (o+p*4+3);have ad:k<p:=by omega
     have HP:=hid hp;clear Ou rm E hp hU;go_upto_region 11 with(fail)
     exact PB
    ·obtain rfl:k=L:=by omega
     go_wp2;go_end0;exact⟨oE a i t,rfl,Fl.out.1,Fl.out.2,by rw[←l1];exact s.out,eC.out⟩
theorem Pt (g o n N c:Nat) (t:Nat→Kc) (a m:Nat) (Cg:a+1<m) (hb:m+1≤n) (hn:n≤100000000) (hm:lU t a m (m+1)) (w:World) (h:eO w g o n N t):
  Calls Tryz.prog 203 #[.slice (Y ⟨g,o,M⟩) n c,O G (a:Int),O G (m:Int),O G ((m+1:Nat):Int),.func (.func 160) #[] #[]] w (uX w g o n N t a (m+1)):=by
 have H:=hid h;have L:=hid hm;obtain⟨b,Og⟩:∃b,m+1=b:=⟨_,rfl⟩
 have HB:=hid (And.intro Cg (And.intro hb (And.intro hn Og)));rw[Og];obtain⟨D,hD⟩:∃D:Nat,m-a=D:=⟨_,rfl⟩
 have a4:IntKind.i64.wrap ((m:Int)- (a:Int))=(D:Int):=(IntWalk.i64_in _ (by omega)).trans (by omega);have ab:((D:Int)==1)=false:=b0 (by omega);have ad:¬D=1:=by omega
 have s0:IntKind.i64.wrap ((b:Int)- (m:Int))=1:=(IntWalk.i64_in _ (by omega)).trans (by omega);clear h hm Cg hb hn Og hD;go_enter Tryz.func203,Tryz.ntmps203;go_upto_region 15 with(fail)
 go_loopw [14,15,16] (fun iv jv _ wr=>∃i j:Nat,a≤i∧i≤j∧j≤m∧iv=O G (i:Int)∧jv=O G (j:Int)∧Hid (∀k,a≤k→k<i→(t k).key<(t m).key)∧Hid (∀k,j≤k→k<m→(t m).key<(t k).key)∧Hid (eO wr g o n N t)∧Hid (Keeps (· =g) w wr)) (fun iv jv _ _=>(intOf jv).toNat- (intOf iv).toNat)
 case atStart=>exact⟨a,m,Nat.le_refl _,by have:=HB.out;omega,Nat.le_refl _,rfl,rfl,fun k B C=>by omega,fun k B C=>by omega,H.out,Keeps.refl _ _⟩
 case round=>
  obtain⟨i,j,him,As,hjb,rfl,rfl,hlo,hhi,hck,hkp⟩:=hrel;obtain⟨b1,b2,b3,b4⟩:=HB.out;by_cases a3:i<j
  ·have tt:(i:Int)<(j:Int):=by omega
   obtain⟨Q,hQ⟩:∃Q:Nat,i+j=Q:=⟨_,rfl⟩
   have s1:IntKind.i64.wrap ((i:Int)+(j:Int))=(Q:Int):=(IntWalk.i64_in _ (by omega)).trans (by omega);have s2:IntKind.u64.wrap (Q:Int)=(Q:Int):=IntWalk.u64_in _ (by omega);obtain⟨h,hh⟩:∃h:Nat,Q/2=h:=⟨_,rfl⟩
   have s3:(Q:Int)/2=(h:Int):=by omega
   have s4:IntKind.i64.wrap (h:Int)=(h:Int):=IntWalk.i64_in _ (by omega);have s5:IntKind.i64.wrap ((h:Int)+1)=((h+1:Nat):Int):=(IntWalk.i64_in _ (by omega)).trans (by omega);have av:(0:Int)≤(h:Int):=Int.natCast_nonneg _;have xI:i≤h∧h<j:=by omega
   have aX:(h:Int)<(n:Int):=by omega
   have lG:(m:Int)<(n:Int):=by omega
   have QE:(0:Int)≤(m:Int):=Int.natCast_nonneg _;have A:=L.out.x h m (by omega) (by omega) (Nat.le_refl _) (by omega);have R:Hid (∀X,Calls Tryz.prog 160 #[.agg #[O G (t m).at_,O .u8 (t m).val,O G (t m).fl,O G (t m).du],.agg #[O G (t h).at_,O .u8 (t h).val,O G (t h).fl,O G (t h).du]] X (mS X (decide ((t m).at_<(t h).at_)))):=fun X=>Gt (t m) (t h) X
   have EO:∀X,Below wr.heap.size wr X→X.cell? ⟨g,o+m*4,M⟩=Y (O G (t m).at_):=fun X f=>cell_keep f (hck.out.at (i:=m) (by omega)).1
   have A5:∀X,Below wr.heap.size wr X→X.cell? ⟨g,o+m*4+1,M⟩=Y (O .u8 (t m).val):=fun X f=>cell_keep f (hck.out.at (i:=m) (by omega)).2.1
   have A6:∀X,Below wr.heap.size wr X→X.cell? ⟨g,o+m*4+2,M⟩=Y (O G (t m).fl):=fun X f=>cell_keep f (hck.out.at (i:=m) (by omega)).2.2.1
   have Bb:∀X,Below wr.heap.size wr X→X.cell? ⟨g,o+m*4+3,M⟩=Y (O G (t m).du):=fun X f=>cell_keep f (hck.out.at (i:=m) (by omega)).2.2.2
   have ER:∀X,Below wr.heap.size wr X→X.cell? ⟨g,o+h*4,M⟩=Y (O G (t h).at_):=fun X f=>cell_keep f (hck.out.at (i:=h) (by omega)).1
   have Bc:∀X,Below wr.heap.size wr X→X.cell? ⟨g,o+h*4+1,M⟩=Y (O .u8 (t h).val):=fun X f=>cell_keep f (hck.out.at (i:=h) (by omega)).2.1
   have Be:∀X,Below wr.heap.size wr X→X.cell? ⟨g,o+h*4+2,M⟩=Y (O G (t h).fl):=fun X f=>cell_keep f (hck.out.at (i:=h) (by omega)).2.2.1
   have Bh:∀X,Below wr.heap.size wr X→X.cell? ⟨g,o+h*4+3,M⟩=Y (O G (t h).du):=fun X f=>cell_keep f (hck.out.at (i:=h) (by omega)).2.2.2
   have P:Below wr.heap.size wr wr.drew:=(Below.refl _ _).drew;have HHB:=hid xI;clear hQ hh xI;by_cases y:(t m).at_<(t h).at_
   ·have J:decide ((t m).at_<(t h).at_)=true:=decide_eq_true y
    rw[J] at R;have z:=hid (A.1.1 y);clear y J A;go_upto_region 17 with(fail)
    refine wp_region_held_drew (S:=fun V=>Below wr.heap.size wr V) (by kernel_rfl) P (fun hH=>?_);clear hH;refine tG 0 92 ?_;refine tG 1 93 ?_;refine tG 2 94 ?_;refine tG 3 95 ?_;refine tG 4 96 ?_;refine tG 5 97 ?_;refine tG 6 98 ?_;refine tG 7 99 ?_;refine tG 8 100 ?_;refine rdyH 9 rfl (fun K E=>?_);go_simp;refine(R.out _).mono ?_;rintro r w5 ⟨nn,rfl,nK,v⟩;have hB5:=bt P v (Nat.le_refl _);refine E.out _ _ hB5 (fun u=>?_);clear E K u;have dn:decide (nn<0)=true:=nK.out;refine tG 10 102 ?_;refine tG 11 103 ?_;refine wpAnyH_done (by kernel_rfl) ?_ _;clear EO A5 A6 Bb ER Bc Be Bh;have HHI:Hid (∀k,h≤k→k<m→(t m).key<(t k).key):=fun k B C=>by
     by_cases e:k=h
     ·subst e
      exact z.out
     ·have:=L.out.l h k (by have:=HHB.out;omega) (by omega) C
      have:=z.out;omega
    exact PI
   ·have J:decide ((t m).at_<(t h).at_)=false:=decide_eq_false y
    rw[J] at R;have z:Hid ((t h).key<(t m).key):=by
     show _<_;have B:=mt A.1.2 y;have C:=A.2;omega
    clear y J A;go_upto_region 17 with(fail)
    refine wp_region_held_drew (S:=fun V=>Below wr.heap.size wr V) (by kernel_rfl) P (fun hH=>?_);clear hH;refine tG 0 92 ?_;refine tG 1 93 ?_;refine tG 2 94 ?_;refine tG 3 95 ?_;refine tG 4 96 ?_;refine tG 5 97 ?_;refine tG 6 98 ?_;refine tG 7 99 ?_;refine tG 8 100 ?_;refine rdyH 9 rfl (fun K E=>?_);go_simp;refine(R.out _).mono ?_;rintro r w5 ⟨nn,rfl,nK,v⟩;have hB5:=bt P v (Nat.le_refl _);refine E.out _ _ hB5 (fun u=>?_);clear E K u;have dn:decide (nn<0)=false:=nK.out;refine tG 10 102 ?_;refine tG 11 103 ?_;refine wpAnyH_done (by kernel_rfl) ?_ _;clear EO A5 A6 Bb ER Bc Be Bh;have HLO:Hid (∀k,a≤k→k<h+1→(t k).key<(t m).key):=fun k B C=>by
     by_cases e:k=h
     ·subst e
      exact z.out
     ·have:=L.out.l k h B (by omega) (by have:=HHB.out;omega)
      have:=z.out;omega
    exact PG
  ·obtain rfl:i=j:=by omega
   have Fl:Hid (xab (iU i m t) a b∧Gr t (iU i m t) a b):=by
    have h:=sK L.out him hjb hlo.out hhi.out;rw[b4] at h;exact h
   have CL:Hid (i≤m∧a≤i∧m<n∧n≤100000000):=by show _∧_;omega
   go_upto_region 21 with(fail)
   obtain⟨wo,T⟩:∃W,W=wr:=⟨_,rfl⟩
   have Jl:Hid (Keeps (· =g) w wo):=by show Keeps _ _ _;rw[T];exact hkp.out
   have I7:Hid (eO wo g o n N t):=by show eO _ _ _ _ _ _;rw[T];exact hck.out
   subst T;go_loopw [17] (fun kv wi=>∃k:Nat,i≤k∧k≤m∧kv=O G (k:Int)∧Hid (eO wi g o n N (iU k m t))∧Hid (Keeps (· =g) w wi)) (fun kv _=>(intOf kv).toNat)
   case atStart=>exact⟨m,CL.out.1,Nat.le_refl _,rfl,by rw[BM];exact I7.out,Jl.out⟩
   case round=>
    obtain⟨k,ao,aY,rfl,s,eC⟩:=hrel;obtain⟨l1,l2,l3,l5⟩:=CL.out;by_cases Of:i<k
    ·have a2:(i:Int)<(k:Int):=by omega
     obtain⟨p,hp⟩:∃p:Nat,k-1=p:=⟨_,rfl⟩
     have s8:IntKind.i64.wrap ((k:Int)-1)=(p:Int):=(IntWalk.i64_in _ (by omega)).trans (by omega);have zv:(0:Int)≤(k:Int):=Int.natCast_nonneg _;have Lu:(0:Int)≤(p:Int):=Int.natCast_nonneg _;have QK:(k:Int)<(n:Int):=by omega
     have J2:(p:Int)<(n:Int):=by omega
     have Z:p+1=k:=by omega
     obtain⟨U,hU⟩:=gE (iU k m t);rw[hU] at s;have Ou:=(s.out.put (j:=k) (by omega) (U p)).put (j:=p) (by omega) (U k);have I:(fun x=>if x=p then U k else (fun x=>if x=k then U p else U x) x)=iU p m t:=by
      rw[←BO (j:=p) (i:=m) t (by omega),Z,hU]
      funext x
      by_cases e1:x=p
      ·rw [if_pos e1,if_neg (by omega),if_pos e1]
      ·rw [if_neg e1]
       dsimp only;by_cases e2:x=k
       ·rw [if_pos e2,if_pos e2]
       ·rw [if_neg e2,if_neg e2,if_neg e1]
     rw[I] at Ou;have rm:Keeps (· =g) w _:=eC.out.trans (ks1 (ks1 (ks1 (ks1 (ks1 (ks1 (ks1 (ks1 (Keeps.refl (· =g) wr) (o+k*4) (O G (U p).at_)) (o+k*4+1) (O .u8 (U p).val)) (o+k*4+2) (O G (U p).fl)) (o+k*4+3) (O G (U p).du)) (o+p*4) (O G (U k).at_)) (o+p*4+1) (O .u8 (U k).val)) (o+p*4+2) (O G (U k).fl)) (o+p*4+3) (O G (U k).du)) (fun _ _ e=>e);have HSW:=hid Ou;have HKS:=hid rm;obtain⟨x0,x1,x2,x3⟩:=s.out.at (i:=k) (by omega);obtain⟨y0,y1,y2,y3⟩:=s.out.at (i:=p) (by omega);have f0:=s.out.free (o+k*4);have f1:=s.out.free (o+k*4+1);have f2:=s.out.free (o+k*4+2);have f3:=s.out.free (o+k*4+3);have f4:=s.out.free (o+p*4);have f5:=s.out.free (o+p*4+1);have f6:=s.out.free (o+p*4+2);have f7:=s.out.free (o+p*4+3);have ak:p<k:=by omega
     have HP:=hid Z;clear Ou rm I hp hU Z;go_upto_region 23 with(fail)
     exact PB
    ·obtain rfl:i=k:=by omega
     go_wp2;go_end0;exact⟨iU i m t,rfl,Fl.out.1,Fl.out.2,s.out,eC.out⟩
