import Derived.Test.YtoaoejaodhedaaaGreatF03
namespace Go.Proofs.YtoaoejaodhedaaaGreat
open Go.RowKit
open Value renaming slice→J,int→O
open Option renaming none→U,some→K
open IntKind renaming i64→G
open Obj renaming cells→H
set_option maxHeartbeats 6400000
set_option maxRecDepth 100000
variable {a e fn t v:Int} {N i k:Nat} {w w':World}
theorem MZ (h:i/8<N) (c:iQ t a v i=0):bL t a v N (i+1)=bL t a v N i:=by
 rw[←jH h,c,Nat.zero_mul,Nat.add_zero];refine List.ext_getElem? fun k=>?_
 rw[List.getElem?_set];by_cases b:i/8=k
 ·subst b
  rw[if_pos rfl,if_pos (by rw[bI];exact h),mE h]
 ·rw [if_neg b]
theorem RO (h:i/8<N) (c:iQ t a v i=1):(bL t a v N i).set (i/8) (UInt8.ofNat (((bL t a v N i)[i/8]?.getD 0).toNat+2^(i%8)))=bL t a v N (i+1):=by
 rw[←jH h,c,Nat.one_mul,mE h];have d:=oK t a v (i/8) (i%8);have f:2^(i%8)≤2^7:=Nat.pow_le_pow_right (by decide) (by omega);have b:(UInt8.ofNat (iB t a v (i/8) (i%8))).toNat=iB t a v (i/8) (i%8):=by rw[UInt8.toNat_ofNat'];exact Nat.mod_eq_of_lt (by omega)
 show List.set _ _ (UInt8.ofNat ((UInt8.ofNat (iB t a v (i/8) (i%8))).toNat+2^(i%8)))=_;rw[b]
theorem ZT {n:Int} (b:n=eo t (a+(i:Nat)) v):(iQ t a v i=1↔n.tmod 2=1)∧(iQ t a v i=0↔¬n.tmod 2=1):=by
 subst b;have h:=(wI t (a+(i:Nat)) v).1;unfold iQ;rw[Int.tmod_eq_emod_of_nonneg h];omega
theorem XE (a n:Int) (j:0≤a) (l:1≤n) (m:a+n≤65536) (w:World):
  Calls Tryz.prog 142 #[.agg #[O G a,O G n]] w (aj w true):=by
 have o:=bal' w (H #[O G a,O G n] 24);obtain⟨f,c⟩:∃f,65536-a=f:=⟨_,rfl⟩
 have s1:IntKind.i64.wrap (65536-a)=f:=(IntWalk.i64_in _ (by omega)).trans c;have a1:0≤a:=j;have d:a<65536:=by omega
 have g:1≤n:=l;have b:n≤f:=by omega
 have d4:decide (n≤f)=true:=decide_eq_true b;clear c m;go_enter Tryz.func142,Tryz.ntmps142;go_wp2;go_ret;exact⟨by first|rfl|(simp [a1,d,g,b]),o⟩
theorem Xn {l:List (Int×Int)} {x:Int×Int} (b:l[k]?=K x) (a:Int):El (l.take (k+1)) a=(El (l.take k) a||(decide (x.1≤a)&&decide (a-x.1<x.2))):=by
 rw[List.take_add_one,b];unfold El;rw[List.any_append];simp
def Dz (w:World) (P:Prop) (r:Ending) (w':World):Prop:=∃V:Bool,r=.returned (.bool V)∧(V=true↔P)∧Below w.heap.size w w'
theorem zZ (v:Value) (l:List (Int×Int)) (jA:aG (-1) l=true) (a n:Int) (Y:0≤a) (y:1≤n) (h2:a+n≤65536) (w:World) (L:dw w v l):
  Calls Tryz.prog 96 #[v,.agg #[O G a,O G n]] w (Dz w (oq l a n.toNat)):=by
 obtain⟨W0,fV,P,p0⟩:=eY w (H #[O G a,O G n] 24);have y0:=cF p0 0 rfl;have y1:=cF p0 1 rfl;have T:Hid (∀X,Calls Tryz.prog 142 #[.agg #[O G a,O G n]] X (aj X true)):=fun X=>XE a n Y y h2 X
 have u:Hid (∀X,Below W0.heap.size W0 X→Calls Tryz.prog 94 #[v] X (aj X true)):=fun X hX=>mT v l X (L.ah (bt P hX (Nat.le_refl _))) true jA
 have HL:=hid (L.ah P);have MS:=hid jA;obtain⟨sa,c,rfl,nE,iN,-⟩:=id L;obtain⟨m,hm⟩:=gE l.length;have S:=hid hm;obtain⟨E,hE⟩:∃e,a+n=e:=⟨_,rfl⟩
 have sE:IntKind.i64.wrap (a+n)=E:=(IntWalk.i64_in _ (by omega)).trans hE;obtain⟨N,hN⟩:=gE n.toNat;have L1:Hid (E=a+(N:Nat)):=by show _=_;omega
 rw[hm] at nE u ⊢;rw[hN];have U:=hid fV;have q:=hid P;have k0:Below W0.heap.size W0 W0:=Below.refl _ _;have H0:=hid Y;have H2:=hid (show E≤65536 by omega);clear L hm jA fV P p0 hE hN Y y h2;go_enter Tryz.func96,Tryz.ntmps96;go_upto_region 1 with(fail)
 rw[U.out];go_upto_region 3 with(first
  |(go_at_call 142;(with_reducible refine(T.out _).mono ?_);rintro r w1 ⟨rfl,C⟩;have uX:=bt k0 C (Nat.le_refl _))
  |(go_at_call 94;(with_reducible refine(u.out _ uX).mono ?_);rintro r w2 ⟨rfl,D⟩;have Z:=bt uX D (Nat.le_refl _)))
 clear C D;go_wp2_with fail;go_loopw [5,6,7] (fun W s6 s7 wr=>∃(j:Nat) (A:Int),W=O G A∧Hid (A=a+(j:Nat))∧j≤N∧Hid (oq l a j)∧Below W0.heap.size W0 wr) (fun W _ _ _=>E.toNat- (intOf W).toNat)
 case atStart=>exact⟨0,a,rfl,(by show _=_;omega),Nat.zero_le _,fun i hi=>by omega,Z⟩
 case round=>
  obtain⟨j,A,rfl,K,hj,n6,F⟩:=hrel;have B:=L1.out;have ak:=H0.out;have ao:=H2.out;have z:=K.out;by_cases ab:j<N
  ·have dA:A<E:=by omega
   have bA:0≤A:=by omega
   have ad:A<65536:=by omega
   have sA:IntKind.i64.wrap (A+1)=A+1:=IntWalk.i64_in _ (by omega);clear B z;go_upto_region 8 with(fail)
   go_loopw [6,7] (fun bv iv wi=>∃(k:Nat) (b:Bool),bv=.bool b∧iv=O G (k:Int)∧k≤m∧Hid (El (l.take k) A=b)∧Below W0.heap.size W0 wi) (fun _ iv _=>m- (intOf iv).toNat)
   case atStart=>exact⟨0,false,rfl,rfl,Nat.zero_le _,rfl,F⟩
   case round=>
    obtain⟨k,b,rfl,rfl,hk,d,g⟩:=hrel;have aX:(0:Int)≤(k:Int):=Int.natCast_nonneg _;have CL:m≤9223372036854775807:=by unfold maxLen at iN;omega
    by_cases JN:k<m
    ·obtain ⟨x,M⟩:=gs (l:=l) S.out JN
     obtain⟨gb,o,c',ny,w1,w2,jU⟩:=HL.out.at M;rw[S.out] at ny;simp only[Value.slice.injEq,true_and] at ny;obtain⟨rfl,rfl⟩:=ny;have aY:(k:Int)<(m:Int):=by omega
     have uK:=jk MS.out x (List.mem_of_getElem? M);obtain⟨x0,x1⟩:=jU _ g;have J:=Xn M A;rw[d.out] at J;obtain⟨p,xc⟩:=x;dsimp only at x0 x1 uK J;obtain⟨e,he⟩:∃e,p+xc=e:=⟨_,rfl⟩
     have s1:IntKind.i64.wrap (p+xc)=e:=(IntWalk.i64_in _ (by omega)).trans he;have EU:decide (A-p<xc)=decide (A<e):=by rw[decide_eq_decide];omega
     rw[EU] at J;have R:=hid J;clear J EU M jU d he uK w1 w2;go_upto_region 10 with(fail)
     cases b with
     |true=>
      have f:Hid (El (l.take (k+1)) A=true):=R.out;go_quiet (fail);go_wp2;go_roundw
      case rel=>exact⟨k+1,true,rfl,by go_num,by omega,f.out,below_drewN g _⟩
      case measure=>simp [intOf];omega
     |false=>
      by_cases I:p≤A
      ·have a1:decide (p≤A)=true:=decide_eq_true I
       by_cases Q:A<e
       ·have V:decide (A<e)=true:=decide_eq_true Q
        have f:Hid (El (l.take (k+1)) A=true):=by show _=_;rw[R.out,a1,V];rfl
        clear I Q;go_quiet (fail);go_wp2;go_roundw
        case rel=>exact⟨k+1,true,rfl,by go_num,by omega,f.out,below_drewN g _⟩
        case measure=>simp [intOf];omega
       ·have V:decide (A<e)=false:=decide_eq_false Q
        have f:Hid (El (l.take (k+1)) A=false):=by show _=_;rw[R.out,a1,V];rfl
        clear I Q;go_quiet (fail);go_wp2;go_roundw
        case rel=>exact⟨k+1,false,rfl,by go_num,by omega,f.out,below_drewN g _⟩
        case measure=>simp [intOf];omega
      ·have a1:decide (p≤A)=false:=decide_eq_false I
       have f:Hid (El (l.take (k+1)) A=false):=by show _=_;rw[R.out,a1];rfl
       clear I;go_quiet (fail);go_wp2;go_roundw
       case rel=>exact⟨k+1,false,rfl,by go_num,by omega,f.out,below_drewN g _⟩
       case measure=>simp [intOf];omega
    ·obtain rfl:k=m:=by omega
     have s:Hid (El l A=b):=by
      have y:=d.out;rw[List.take_of_length_le (by rw[S.out];exact Nat.le_refl _)] at y;exact y
     clear d;cases b with
     |true=>
      have Um:Hid (oq l a (j+1)):=fun i hi=>by
       by_cases e:i=j
       ·rw [e,←K.out];exact s.out
       ·exact n6.out i (by omega)
      go_wp2;go_roundw
      case rel=>exact⟨j+1,A+1,rfl,(by show _=_;have:=K.out;omega),by omega,Um.out,g⟩
      case measure=>simp [intOf];omega
     |false=>
      go_wp2;go_ret;refine⟨false,rfl,⟨fun e=>(by cases e),fun e=>?_⟩,bt q.out g (Nat.le_refl _)⟩;have:=e j ab;rw[←K.out,s.out] at this;exact this
  ·obtain rfl:j=N:=by omega
   have dA:¬A<E:=by omega
   clear B z;go_wp2;go_ret;exact⟨true,rfl,⟨fun _=>n6.out,fun _=>rfl⟩,bt q.out F (Nat.le_refl _)⟩
theorem Lw (t a x:Int) (t0:1≤t) (t1:t≤4) (a0:0≤a) (a1:a<65536) (j:0≤x) (l:x≤65535) (w:World):
  Calls Tryz.prog 97 #[O G t,O G a,O G x] w fun r w'=>∃n:Int,r=.returned (O G n)∧Hid (n=eo t a x)∧0≤n∧n<65536∧w=w':=by
 have b1:¬t<1:=by omega
 have b2:¬4<t:=by omega
 have b3:¬a<0:=by omega
 have m:¬65536≤a:=by omega
 have o:¬x<0:=by omega
 have s:¬65535<x:=by omega
 obtain⟨p,c⟩:∃p,7919*a=p:=⟨_,rfl⟩
 have s1:IntKind.i64.wrap (7919*a)=p:=(IntWalk.i64_in _ (by omega)).trans c;obtain⟨q,d⟩:∃q,x+p=q:=⟨_,rfl⟩
 have s2:IntKind.i64.wrap (x+p)=q:=(IntWalk.i64_in _ (by omega)).trans d;obtain⟨u,hu⟩:∃u,104729*t=u:=⟨_,rfl⟩
 have A:IntKind.i64.wrap (104729*t)=u:=(IntWalk.i64_in _ (by omega)).trans hu;obtain⟨z,f⟩:∃z,q+u=z:=⟨_,rfl⟩
 have B:IntKind.i64.wrap (q+u)=z:=(IntWalk.i64_in _ (by omega)).trans f;obtain⟨y,g⟩:=gE (z.tmod 65536);have b:Hid (y=eo t a x∧0≤y∧y<65536):=by
  show _∧_∧_;rw[←g,Int.tmod_eq_emod_of_nonneg (by omega)];unfold eo;omega
 clear t0 t1 a0 a1 j l c d hu f;go_enter Tryz.func97,Tryz.ntmps97;go_wp2;go_ret;exact⟨y,rfl,b.out.1,b.out.2.1,b.out.2.2,rfl⟩
def TabPost (w:World) (fn e:Int) (r:Ending) (w':World):Prop:=
 ∃(D:List UInt8) (da:Option Addr) (dc:Nat),r=.returned (.agg (#[O G fn,O G e,(J da D.length dc),O G 0,O G 0,.bool false,O G 0,J none 0 0]))∧D.length≤250∧w'.ownsRow w.heap.size 5 1 (J da D.length dc) D.length (u8s D)∧Below w.heap.size w w'
theorem aW.post {D:List UInt8} {r:Ending} (h:aW w fn e D r w'):TabPost w fn e r w':=⟨D,h⟩
theorem TabPost.ar {c d f:World} {C:Array Value} (b:Below w.heap.size w c) (o:w.heap.size+4≤c.heap.size) (g:Keeps (fun j=>w.heap.size≤j) c d) (l:Keeps (fun j=>w.heap.size≤j) d f) (m:C=#[O G fn,O G e,(J none 0 0),O G 0,O G 0,.bool false,O G 0,J none 0 0]):aW w fn e [] (.returned (.agg C)) f:=by
 subst m;exact⟨none,0,rfl,Nat.zero_le _,World.ownsRow_nil _ _ _ _,(b.trans (g.below b.size (fun j n e=>by omega))).trans (l.below (by have:=b.size;have:=g.size;omega) (fun j n e=>by omega))⟩
theorem Pg {p:Prop} (h:p:=by
 go_wp2_with (first|(refine wpList_load_row rfl 53 (.tmp 7) rfl (rb) rfl 53 C (0,0) _ pR2 Tryz.underlying53 rfl hi8 ?_)|(refine wpList_storeW rfl 53 (.tmp 6) (.tmp 39) rfl (zb) 0 _ 53 C rfl rfl pZ2 (by simp [hcs]) hi8 h1c ?_;intro w8 g8 hk8 hz8));have g9:w8.heap[zb]?=some (.cells C 53):=(by rw[g8,List.drop_eq_nil_of_le (by simp [hcs])];simp);refine bodyPost_ret (results_cell_row rfl _ _ (zb) 53 C (0,0) _ rfl g9 Tryz.underlying53 rfl hi8) rfl ?_;exact TabPost.ar HB1.out (by have:=HZ1.out;omega) HK2.out (hk8.mono (fun j _ e=>by have:=EZB.out;omega)) HC.out.symm):p:=h
theorem Aa (t:iP) (rv:Value) (fn l f x:Int) (h0:0≤l) (h1:1≤f) (h2:l+f≤65536) (w:World) (S:dw w rv t.rd) (jA:t.sup=true→aG (-1) t.rd=true) (e:Int)
  (he:(t.sup=false∧e=1)∨(t.sup=true∧t.al<f∧e=3)∨(t.sup=true∧¬t.al<f∧¬oq t.rd l f.toNat∧e=2)):
  Calls Tryz.prog 54 #[.agg #[.bool t.sup,rv,O G t.al],.agg #[O G fn,O G l,O G f,O G 0,O G 0],O G x] w (aW w fn e []):=by
 obtain⟨A,rc,yQ,-⟩:=id S;obtain⟨B,nK⟩:=gE t.rd.length;rw[nK] at yQ;subst yQ;obtain⟨b,q⟩:∃W,(((w.alloc (H #[.bool t.sup,J A B rc,O G t.al] 65)).alloc (H #[O G fn,O G l,O G f,O G 0,O G 0] 45)).alloc (H (#[O G 0,O G 0,(J none 0 0),O G 0,O G 0,.bool false,O G 0,J none 0 0]) 53)).alloc (H (#[O G fn,O G 0,(J none 0 0),O G 0,O G 0,.bool false,O G 0,J none 0 0]) 53)=W:=⟨_,rfl⟩;have F:b.heap.size=w.heap.size+4:=(by rw[←q];simp);have s:Below w.heap.size w b:=(by rw[←q];exact bta (bta (bta (bal' w _) (Nat.le_refl _) _) (Nat.le_refl _) _) (Nat.le_refl _) _);have M:b.heap[w.heap.size]?=K (H #[.bool t.sup,J A B rc,O G t.al] 65):=(by rw[←q];exact hpKeep (hpKeep (hpKeep (hpNew w _) (bal' _ _)) (bal' _ _)) (bal' _ _));have L:b.heap[w.heap.size+1]?=K (H #[O G fn,O G l,O G f,O G 0,O G 0] 45):=(by rw[←q];refine hpKeep (hpKeep ?_ (bal' _ _)) (bal' _ _);simpa using hpNew (w.alloc (H #[.bool t.sup,J A B rc,O G t.al] 65)) (H #[O G fn,O G l,O G f,O G 0,O G 0] 45));have P:b.heap[w.heap.size+2]?=K (H (#[O G 0,O G 0,(J none 0 0),O G 0,O G 0,.bool false,O G 0,J none 0 0]) 53):=(by rw[←q];refine hpKeep ?_ (bal' _ _);simpa using hpNew ((w.alloc (H #[.bool t.sup,J A B rc,O G t.al] 65)).alloc (H #[O G fn,O G l,O G f,O G 0,O G 0] 45)) (H (#[O G 0,O G 0,(J none 0 0),O G 0,O G 0,.bool false,O G 0,J none 0 0]) 53));have z:b.heap[w.heap.size+3]?=K (H (#[O G fn,O G 0,(J none 0 0),O G 0,O G 0,.bool false,O G 0,J none 0 0]) 53):=(by rw[←q];simpa using hpNew (((w.alloc (H #[.bool t.sup,J A B rc,O G t.al] 65)).alloc (H #[O G fn,O G l,O G f,O G 0,O G 0] 45)).alloc (H (#[O G 0,O G 0,(J none 0 0),O G 0,O G 0,.bool false,O G 0,J none 0 0]) 53)) (H (#[O G fn,O G 0,(J none 0 0),O G 0,O G 0,.bool false,O G 0,J none 0 0]) 53));obtain⟨zb,I⟩:∃n,w.heap.size+2=n:=⟨_,rfl⟩;obtain⟨rb,o⟩:∃n,w.heap.size+3=n:=⟨_,rfl⟩;have R:Hid (w.heap.size+1+1+1=rb):=o;have Q:Hid (w.heap.size+1+1=zb):=I;rw[I] at P;rw[o] at z;have FE:=hid o;have EZB:=hid I;have t0:=cF M 0 rfl;have t1:=cF M 1 rfl;have t2:=cF M 2 rfl;have T:=cF L 0 rfl;have Y:=cF L 1 rfl;have Z:=cF L 2 rfl;have r1:=cF z 1 rfl;have f1:∀X,Below b.heap.size b X→X.frozen? ⟨rb,1,U⟩=false:=(fun X h=>hpFree (hpKeep z h) 1);have y:Below b.heap.size b b:=Below.refl _ _;have m:Hid (t.sup=true→∀X,Below b.heap.size b X→Calls Tryz.prog 96 #[J A B rc,.agg #[O G l,O G f]] X (Dz X (oq t.rd l f.toNat))):=fun hs X D=>zZ _ t.rd (jA hs) l f h0 h1 h2 X (S.ah (bt s D (Nat.le_refl _)))
 have g:=hid q;have HB1:=hid s;have HZ1:=hid F;have PZ:=hid P;have PR:=hid z;have u:Hid (∀X (e:Int),Below b.heap.size b X→(X.setCell ⟨rb,1,U⟩ (O G e)).heap[rb]?=K (H (#[O G fn,O G e,(J none 0 0),O G 0,O G 0,.bool false,O G 0,J none 0 0]) 53)∧(X.setCell ⟨rb,1,U⟩ (O G e)).heap[zb]?=K (H (#[O G 0,O G 0,(J none 0 0),O G 0,O G 0,.bool false,O G 0,J none 0 0]) 53)∧Keeps (fun j=>w.heap.size≤j) b (X.setCell ⟨rb,1,U⟩ (O G e))):=fun X e D=>
  ⟨cS (hpKeep z D) rfl,(hpOther (by have:=FE.out;have:=EZB.out;omega)).trans (hpKeep P D),(Keeps.af D).set _ _ (by show w.heap.size≤rb;have:=FE.out;omega)⟩
 clear q s F M L P z S jA h0 h1 h2 nK I o;rcases he with⟨hs,rfl⟩|⟨hs,hm,rfl⟩|⟨hs,hm,ha,rfl⟩
 ·rw [hs] at g t0 ⊢
  clear m hs;go_enter Tryz.func54,Tryz.ntmps54;go_upto_region 2 with(fail)
  rw[g.out,R.out,Q.out];go_upto_region 8 with(fail)
  obtain⟨pR2,pZ2,d⟩:=u.out b 1 y;generalize b.setCell ⟨rb,1,U⟩ (O G 1)=W2 at*;have e1:=cG pR2 1 rfl;have HK2:=hid d;obtain⟨C,c⟩:∃C:Array Value,(#[O G fn,O G 1,(J none 0 0),O G 0,O G 0,.bool false,O G 0,J none 0 0]:Array Value)=C:=⟨_,rfl⟩;have hcs:C.size=8:=(by rw[←c];rfl);have hi8:(Tryz.prog.info? 53).map (·.size)=K C.size:=(by rw[hcs];exact info8);have h1c:C.toList.all (·.oneCell')=true:=(by rw[←c];rfl);rw[c] at pR2;have HC:=hid c;clear c;clear t0 t1 t2 T Y Z r1 f1 y d u;exact Pg
 ·rw [hs] at g t0 ⊢
  clear m hs;go_enter Tryz.func54,Tryz.ntmps54;go_upto_region 2 with(fail)
  rw[g.out,R.out,Q.out];go_upto_region 8 with(fail)
  obtain⟨pR2,pZ2,d⟩:=u.out b 3 y;generalize b.setCell ⟨rb,1,U⟩ (O G 3)=W2 at*;have e1:=cG pR2 1 rfl;have HK2:=hid d;obtain⟨C,c⟩:∃C:Array Value,(#[O G fn,O G 3,(J none 0 0),O G 0,O G 0,.bool false,O G 0,J none 0 0]:Array Value)=C:=⟨_,rfl⟩;have hcs:C.size=8:=(by rw[←c];rfl);have hi8:(Tryz.prog.info? 53).map (·.size)=K C.size:=(by rw[hcs];exact info8);have h1c:C.toList.all (·.oneCell')=true:=(by rw[←c];rfl);rw[c] at pR2;have HC:=hid c;clear c;clear t0 t1 t2 T Y Z r1 f1 y d u;exact Pg
 ·have Pj:=hid (m.out hs)
  rw[hs] at g t0 ⊢;have HA:=hid ha;clear m hs ha;go_enter Tryz.func54,Tryz.ntmps54;go_upto_region 2 with(fail)
  rw[g.out,R.out,Q.out];go_upto_region 7 with(go_at_call 96;(with_reducible refine(Pj.out b y).mono ?_);rintro r w2 ⟨V,rfl,hv,E⟩;obtain rfl:V=false:=(by cases V with|false=>rfl|true=>exact absurd (hv.1 rfl) HA.out);clear hv)
  go_upto_region 8 with(fail)
  obtain⟨pR2,pZ2,d⟩:=u.out w2 2 E;generalize w2.setCell ⟨rb,1,U⟩ (O G 2)=W2 at*;have e1:=cG pR2 1 rfl;have HK2:=hid d;obtain⟨C,c⟩:∃C:Array Value,(#[O G fn,O G 2,(J none 0 0),O G 0,O G 0,.bool false,O G 0,J none 0 0]:Array Value)=C:=⟨_,rfl⟩;have hcs:C.size=8:=(by rw[←c];rfl);have hi8:(Tryz.prog.info? 53).map (·.size)=K C.size:=(by rw[hcs];exact info8);have h1c:C.toList.all (·.oneCell')=true:=(by rw[←c];rfl);rw[c] at pR2;have HC:=hid c;clear c;clear t0 t1 t2 T Y Z r1 f1 y d u E;exact Pg
theorem Pe (n:Int) (c:0≤n) (g:n<65536):∃a b:Int,IntKind.i64.wrap (n.tdiv 256)=a∧n.tmod 256=b∧IntKind.u8.wrap a=a∧IntKind.u8.wrap b=b∧0≤a∧a≤255∧0≤b∧b≤255∧Hid (byteI a=UInt8.ofNat (n.toNat/256)∧byteI b=UInt8.ofNat (n.toNat%256)):=by
 have d:n.tdiv 256=n/256:=Int.tdiv_eq_ediv_of_nonneg c;have f:n.tmod 256=n%256:=Int.tmod_eq_emod_of_nonneg c;refine⟨n/256,n%256,by rw[d,IntWalk.i64_in _ (by omega)],f,?_,?_,by omega,by omega,by omega,by omega,?_,?_⟩
 ·exact IntWalk.u8_in _ (by omega)
 ·exact IntWalk.u8_in _ (by omega)
 ·unfold byteI;congr 1;omega
 ·unfold byteI;congr 1;omega
theorem Jo (t:iP) (rv:Value) (fn f g x:Int) (hf:fn=3∨fn=4) (h0:0≤f) (h1:1≤g) (hq:g≤125) (h2:f+g≤65536) (x0:0≤x) (x1:x≤65535) (w:World) (hl:dw w rv t.rd) (jA:aG (-1) t.rd=true)
  (hs:t.sup=true) (hm:¬t.al<g) (ha:oq t.rd f g.toNat):
  Calls Tryz.prog 54 #[.agg #[.bool t.sup,rv,O G t.al],.agg #[O G fn,O G f,O G g,O G 0,O G 0],O G x] w (aW w fn 0 (iJ fn f x g.toNat)):=by
 obtain⟨R,rc,yQ,-⟩:=id hl;obtain⟨S,nK⟩:=gE t.rd.length;rw[nK] at yQ;subst yQ;obtain⟨d,B⟩:∃W,(((w.alloc (H #[.bool t.sup,J R S rc,O G t.al] 65)).alloc (H #[O G fn,O G f,O G g,O G 0,O G 0] 45)).alloc (H (#[O G 0,O G 0,(J none 0 0),O G 0,O G 0,.bool false,O G 0,J none 0 0]) 53)).alloc (H (#[O G fn,O G 0,(J none 0 0),O G 0,O G 0,.bool false,O G 0,J none 0 0]) 53)=W:=⟨_,rfl⟩;have Q:d.heap.size=w.heap.size+4:=(by rw[←B];simp);have L:Below w.heap.size w d:=(by rw[←B];exact bta (bta (bta (bal' w _) (Nat.le_refl _) _) (Nat.le_refl _) _) (Nat.le_refl _) _);have pT:d.heap[w.heap.size]?=K (H #[.bool t.sup,J R S rc,O G t.al] 65):=(by rw[←B];exact hpKeep (hpKeep (hpKeep (hpNew w _) (bal' _ _)) (bal' _ _)) (bal' _ _));have pQ:d.heap[w.heap.size+1]?=K (H #[O G fn,O G f,O G g,O G 0,O G 0] 45):=(by rw[←B];refine hpKeep (hpKeep ?_ (bal' _ _)) (bal' _ _);simpa using hpNew (w.alloc (H #[.bool t.sup,J R S rc,O G t.al] 65)) (H #[O G fn,O G f,O G g,O G 0,O G 0] 45));have pZ:d.heap[w.heap.size+2]?=K (H (#[O G 0,O G 0,(J none 0 0),O G 0,O G 0,.bool false,O G 0,J none 0 0]) 53):=(by rw[←B];refine hpKeep ?_ (bal' _ _);simpa using hpNew ((w.alloc (H #[.bool t.sup,J R S rc,O G t.al] 65)).alloc (H #[O G fn,O G f,O G g,O G 0,O G 0] 45)) (H (#[O G 0,O G 0,(J none 0 0),O G 0,O G 0,.bool false,O G 0,J none 0 0]) 53));have pR:d.heap[w.heap.size+3]?=K (H (#[O G fn,O G 0,(J none 0 0),O G 0,O G 0,.bool false,O G 0,J none 0 0]) 53):=(by rw[←B];simpa using hpNew (((w.alloc (H #[.bool t.sup,J R S rc,O G t.al] 65)).alloc (H #[O G fn,O G f,O G g,O G 0,O G 0] 45)).alloc (H (#[O G 0,O G 0,(J none 0 0),O G 0,O G 0,.bool false,O G 0,J none 0 0]) 53)) (H (#[O G fn,O G 0,(J none 0 0),O G 0,O G 0,.bool false,O G 0,J none 0 0]) 53));obtain⟨z,lX⟩:∃n,w.heap.size+2=n:=⟨_,rfl⟩;obtain⟨l,y⟩:∃n,w.heap.size+3=n:=⟨_,rfl⟩;have E3:Hid (w.heap.size+1+1+1=l):=y;have E2:Hid (w.heap.size+1+1=z):=lX;rw[lX] at pZ;rw[y] at pR;have FE:=hid y;have a3:=hid lX;have t0:=cF pT 0 rfl;have t1:=cF pT 1 rfl;have t2:=cF pT 2 rfl;have q0:=cF pQ 0 rfl;have q1:=cF pQ 1 rfl;have q2:=cF pQ 2 rfl;have r1:=cF pR 1 rfl;have f1:∀X,Below d.heap.size d X→X.frozen? ⟨l,1,U⟩=false:=(fun X h=>hpFree (hpKeep pR h) 1);have k0:Below d.heap.size d d:=Below.refl _ _;have Pj:Hid (Calls Tryz.prog 96 #[J R S rc,.agg #[O G f,O G g]] d (Dz d (oq t.rd f g.toNat))):=zZ _ t.rd jA f g h0 h1 h2 d (hl.ah L);have a8:Hid (∀(k:Nat) X,(k:Int)<g→Calls Tryz.prog 97 #[O G fn,O G (f+(k:Nat)),O G x] X fun r w'=>∃n:Int,r=.returned (O G n)∧Hid (n=eo fn (f+(k:Nat)) x)∧0≤n∧n<65536∧X=w'):=fun k X hk=>Lw fn (f+(k:Nat)) x (by omega) (by omega) (by omega) (by omega) x0 x1 X
 have T:=hid B;have a5:=hid L;have a9:=hid Q;have PZ:=hid pZ;have PR:=hid pR;have PQ:=hid pQ;have HA:=hid ha;have Uq:=hid (And.intro h0 h2);obtain⟨N,hN⟩:=gE g.toNat;rw[hN];have HN:Hid (g=(N:Nat)∧N≤125):=by show _∧_;omega
 have f2:¬fn≤2:=by omega
 have f3:3≤fn:=by omega
 have aY:l≠z:=by omega
 have aX:¬d.heap.size≤l:=by omega
 have Xl:¬d.heap.size≤z:=by omega
 rw[hs] at T t0 ⊢;have s:=hid (And.intro aY (And.intro aX Xl));clear B L Q pT pQ pZ pR hl jA h0 h1 h2 nK lX y hs ha hf x0 x1 hN hq aY aX Xl;obtain⟨i5,hi,bm,S1,bn⟩:=info_parts fS;go_enter Tryz.func54,Tryz.ntmps54;go_upto_region 2 with(fail)
 rw[T.out,E3.out,E2.out];go_upto_region 8 with(go_at_call 96;(with_reducible refine Pj.out.mono ?_);rintro r w2 ⟨V,rfl,hv,o⟩;obtain rfl:V=true:=hv.2 HA.out;clear hv)
 have bA:w2.cell? ⟨l,1,U⟩=K (O G 0):=r1 w2 o;go_upto_region 10 with(fail)
 have bx:=q0 w2 o;have S0:rI d l z fn [] (J none 0 0) w2:=⟨hpKeep PR.out o,hpKeep PZ.out o,World.ownsRow_nil _ _ _ _,Keeps.af o⟩
 have Yg:=hid S0;clear t0 t1 t2 q1 q2 r1 f1 k0 q0 S0;go_upto_region 12 with(fail)
 have Q0:Hid (∀X,Keeps (fun j=>j=l) d X→X.cell? ⟨w.heap.size+1,0,U⟩=K (O G fn)∧X.cell? ⟨w.heap.size+1,1,U⟩=K (O G f)∧X.cell? ⟨w.heap.size+1,2,U⟩=K (O G g)):=fun X hX=>by
  have:=hpKeeps PQ.out hX (by have:=FE.out;omega);exact⟨hpCell this 0,hpCell this 1,hpCell this 2⟩
 clear bx bA o;go_wp2_with fail;go_loopw [8,9] (fun iv s9 wr=>∃(k:Nat) (D:List UInt8) (da:Option Addr) (dc:Nat),iv=O G (k:Int)∧k≤N∧Hid (D=iJ fn f x k)∧Hid (D.length=2*k)∧Hid (rI d l z fn D (J da D.length dc) wr)) (fun iv _ _=>N- (intOf iv).toNat)
 case atStart=>exact⟨0,[],none,0,rfl,Nat.zero_le _,rfl,rfl,Yg.out⟩
 case round=>
  obtain⟨k,D,da,dc,rfl,hk,ab,Z,c⟩:=hrel;have bX:(0:Int)≤(k:Int):=Int.natCast_nonneg _;have ak:=HN.out.1;have bC:=HN.out.2;obtain⟨q0,q1,q2⟩:=Q0.out wr c.out.kp;by_cases b4:k<N
  ·have dk:(k:Int)<g:=by omega
   obtain⟨A,hA⟩:∃A,f+(k:Int)=A:=⟨_,rfl⟩
   have sA:IntKind.i64.wrap (f+(k:Int))=A:=(IntWalk.i64_in _ (by have:=Uq.out;omega)).trans hA;have vY:=a8.out k wr dk;rw[hA] at vY;have vY:=hid vY;have a4:=hid hA;clear hA ak;go_upto_region 16 with(go_at_call 97;(with_reducible refine vY.out.mono ?_);rintro r w5 ⟨n,rfl,bc,n0,n1,rfl⟩)
   obtain⟨a,b,s1,s2,s3,s4,a0,a1,b0,b1,rV⟩:=Pe n n0 n1;have Pm:Hid (D++[byteI a,byteI b]=iJ fn f x (k+1)):=by show _=_;have e:=bc.out;rw[←a4.out] at e;rw[ab.out,rV.out.1,rV.out.2,e];rfl
   obtain⟨ln,oP⟩:=gE D.length;have OW:Hid (wr.ownsRow d.heap.size 5 1 (J da ln dc) ln (u8s D)):=by have:=c.out.own;rw[oP] at this;exact this
   have r2:wr.cell? ⟨l,2,U⟩=K (J da ln dc):=by have:=hpCell c.out.r 2;rw[oP] at this;exact this
   have b6:=c.out.kp.size;have I:=hid oP;have bZ:ln≤250:=by have:=Z.out;omega
   have a7:Hid (ln=2*k):=by show _=_;have:=Z.out;omega
   have HU:Hid (u8s (D++[byteI a,byteI b])=u8s D++[O .u8 a,O .u8 b]):=by
    show _=_;rw[dF];have e1:((byteI a).toNat:Int)=a:=by
     obtain⟨m,rfl⟩:∃m:Nat,a=(m:Int):=⟨a.toNat,by omega⟩
     rw[fN (by omega)]
    have e2:((byteI b).toNat:Int)=b:=by
     obtain⟨m,rfl⟩:∃m:Nat,b=(m:Int):=⟨b.toNat,by omega⟩
     rw[fN (by omega)]
    show u8s D++[bD (byteI a),bD (byteI b)]=_;unfold bD;rw[e1,e2]
   clear oP n0 n1 Z;go_wp2_with (at_builtin;refine aL rfl _ _ 50 rfl d.heap.size 5 i5 _ 1 1 Tryz.underlying50 hi bm S1 bn rfl (by decide) (J da ln dc) ln (u8s D) rfl (OW.out.alloc _) ⟨wr.heap.size,0,U⟩ 2 2 [O .u8 a,O .u8 b] rfl rfl (dP wr [O .u8 a,O .u8 b] _) (by intro u hu;simp at hu;rcases hu with rfl|rfl<;>rfl) (by unfold maxLen;omega) (by omega) (by simp;omega) ?c3)
   case c3=>
    intro v6 w6 p E qI;have nL:w6.ownsRow d.heap.size 5 1 v6 (ln+2) (u8s (D++[byteI a,byteI b])):=by rw[HU.out];exact p
    have xU:Keeps (fun j=>(Value.slice da ln dc).ownBlock=K j) wr w6:=(Keeps.af (bal' wr _)).trans (Keeps.bJ E (fun _ hk=>hk)) (fun _ _ e=>e);have GG:∀j,(Value.slice da ln dc).ownBlock=K j→d.heap.size≤j:=fun j q=>(OW.out.lt j q).1
    have PB:=hpKeeps c.out.r xU (fun e=>s.out.2.1 (GG _ e));have ao:=hpKeeps c.out.z xU (fun e=>s.out.2.2 (GG _ e));have c6:w6.cell? ⟨l,2,U⟩=K (J da ln dc):=by have:=hpCell PB 2;rw[I.out] at this;exact this
    have f6:=hpFree PB 2;obtain⟨a6,k6,rfl⟩:=own_slice nL;have KW:∀j,(Value.slice a6 (ln+2) k6).ownBlock=K j→j≠l:=fun j q e=>by
     have:=(nL.lt j q).1;exact s.out.2.1 (by rw[←e];exact this)
    have vV:Hid (rI d l z fn (D++[byteI a,byteI b]) (J a6 (ln+2) k6) (w6.setCell ⟨l,2,U⟩ (J a6 (ln+2) k6))):=by
     refine⟨cS PB rfl,(hpOther (fun e=>s.out.1 e.symm)).trans ao,?_,?_⟩
     ·have e:(D++[byteI a,byteI b]).length=ln+2:=by rw[List.length_append,I.out];rfl
      rw[e];exact own_keeps (F:=(· =l)) nL (ks1 (Keeps.refl _ _) _ _) (fun j q e=>KW j q e)
     ·exact (c.out.kp.trans xU (fun j q e=>by have:=GG j e;omega)).set _ _ rfl
    have Kg:Hid ((D++[byteI a,byteI b]).length=ln+2):=by show _=_;rw[List.length_append,I.out];rfl
    clear p nL E qI xU GG PB ao KW;go_wp2;go_roundw
    case rel=>exact⟨k+1,D++[byteI a,byteI b],a6,k6,by go_num,by omega,Pm.out,by show _=_;rw[Kg.out,a7.out];omega,by rw[Kg.out];exact vV.out⟩
    case measure=>simp [intOf];omega
  ·obtain rfl:k=N:=by omega
   have dk:¬(k:Int)<g:=by omega
   clear ak;obtain⟨C,Y⟩:∃C:Array Value,(#[O G fn,O G 0,(J da D.length dc),O G 0,O G 0,.bool false,O G 0,J none 0 0]:Array Value)=C:=⟨_,rfl⟩
   have M:C.size=8:=by rw[←Y];rfl
   have P:(Tryz.prog.info? 53).map (·.size)=K C.size:=by rw[M];exact info8
   have ba:C.toList.all (·.oneCell')=true:=by rw[←Y];rfl
   have a2:=c.out.r;have bo:=c.out.z;rw[Y] at a2;have HC:=hid Y;have HD:Hid (D.length≤250):=by show _≤_;have:=Z.out;omega
   clear Y Z;go_wp2_with (first
    |(refine wpList_load_row rfl 53 (.tmp 7) rfl l rfl 53 C (0,0) _ a2 Tryz.underlying53 rfl P ?_)
    |(refine wpList_storeW rfl 53 (.tmp 6) (.tmp 92) rfl z 0 _ 53 C rfl rfl bo (by simp [M]) P ba ?_;intro w8 g8 av b5))
   have g9:w8.heap[z]?=K (H C 53):=by
    rw[g8,List.drop_eq_nil_of_le (by simp [M])];simp
   refine bodyPost_ret (results_cell_row rfl _ _ z 53 C (0,0) _ rfl g9 Tryz.underlying53 rfl P) rfl ?_;have Q:=a9.out;have bQ:=a3.out;have bK:=FE.out;rw[←ab.out];refine⟨da,dc,by rw[←HC.out],HD.out,?_,?_⟩
   ·exact own_lower (own_keeps c.out.own av (fun j q e=>by have:=(c.out.own.lt j q).1;omega)) (by omega)
   ·exact (a5.out.trans (c.out.kp.below (by omega) (fun j q e=>by omega))).trans (av.below (by have:=c.out.kp.size;omega) (fun j q e=>by omega))
theorem S2 (w:World) (base n:Nat) (b:base≤w.heap.size) (c:n≤250):
  (w.alloc (H (madeCells #[O .u8 0] n) 5)).ownsRow base 5 1 (J (K ⟨w.heap.size,0,U⟩) n n) n (u8s (List.replicate n 0)):=by
 refine⟨by simp,.inr ⟨w.heap.size,n,_,rfl,b,heap_alloc_new _ _,Nat.le_refl _,by unfold maxLen;omega,by simp [size_madeCells],?_⟩⟩;rw[Xt,Nat.mul_one,List.take_of_length_le (by simp)];simp [u8s,bD]
theorem Vd (m j:Nat):Value.int .u8 (((m:Int)+2^j)%256)=bD (UInt8.ofNat (m+2^j)):=by
 unfold bD;rw[UInt8.toNat_ofNat'];simp
theorem Lu (t:iP) (rv:Value) (fn f d x:Int) (hf:fn=1∨fn=2) (h0:0≤f) (h1:1≤d) (hq:d≤2000) (h2:f+d≤65536) (x0:0≤x) (x1:x≤65535) (w:World) (hl:dw w rv t.rd) (jA:aG (-1) t.rd=true)
  (hs:t.sup=true) (hm:¬t.al<d) (ha:oq t.rd f d.toNat):
  Calls Tryz.prog 54 #[.agg #[.bool t.sup,rv,O G t.al],.agg #[O G fn,O G f,O G d,O G 0,O G 0],O G x] w (aW w fn 0 (bL fn f x ((d.toNat+7)/8) d.toNat)):=by
 obtain⟨ra,rc,yQ,-⟩:=id hl;obtain⟨rn,nK⟩:=gE t.rd.length;rw[nK] at yQ;subst yQ;obtain⟨c,z⟩:∃W,(((w.alloc (H #[.bool t.sup,J ra rn rc,O G t.al] 65)).alloc (H #[O G fn,O G f,O G d,O G 0,O G 0] 45)).alloc (H (#[O G 0,O G 0,(J none 0 0),O G 0,O G 0,.bool false,O G 0,J none 0 0]) 53)).alloc (H (#[O G fn,O G 0,(J none 0 0),O G 0,O G 0,.bool false,O G 0,J none 0 0]) 53)=W:=⟨_,rfl⟩;have Z:c.heap.size=w.heap.size+4:=(by rw[←z];simp);have Q:Below w.heap.size w c:=(by rw[←z];exact bta (bta (bta (bal' w _) (Nat.le_refl _) _) (Nat.le_refl _) _) (Nat.le_refl _) _);have pT:c.heap[w.heap.size]?=K (H #[.bool t.sup,J ra rn rc,O G t.al] 65):=(by rw[←z];exact hpKeep (hpKeep (hpKeep (hpNew w _) (bal' _ _)) (bal' _ _)) (bal' _ _));have pQ:c.heap[w.heap.size+1]?=K (H #[O G fn,O G f,O G d,O G 0,O G 0] 45):=(by rw[←z];refine hpKeep (hpKeep ?_ (bal' _ _)) (bal' _ _);simpa using hpNew (w.alloc (H #[.bool t.sup,J ra rn rc,O G t.al] 65)) (H #[O G fn,O G f,O G d,O G 0,O G 0] 45));have pZ:c.heap[w.heap.size+2]?=K (H (#[O G 0,O G 0,(J none 0 0),O G 0,O G 0,.bool false,O G 0,J none 0 0]) 53):=(by rw[←z];refine hpKeep ?_ (bal' _ _);simpa using hpNew ((w.alloc (H #[.bool t.sup,J ra rn rc,O G t.al] 65)).alloc (H #[O G fn,O G f,O G d,O G 0,O G 0] 45)) (H (#[O G 0,O G 0,(J none 0 0),O G 0,O G 0,.bool false,O G 0,J none 0 0]) 53));have pR:c.heap[w.heap.size+3]?=K (H (#[O G fn,O G 0,(J none 0 0),O G 0,O G 0,.bool false,O G 0,J none 0 0]) 53):=(by rw[←z];simpa using hpNew (((w.alloc (H #[.bool t.sup,J ra rn rc,O G t.al] 65)).alloc (H #[O G fn,O G f,O G d,O G 0,O G 0] 45)).alloc (H (#[O G 0,O G 0,(J none 0 0),O G 0,O G 0,.bool false,O G 0,J none 0 0]) 53)) (H (#[O G fn,O G 0,(J none 0 0),O G 0,O G 0,.bool false,O G 0,J none 0 0]) 53));obtain⟨p,lX⟩:∃n,w.heap.size+2=n:=⟨_,rfl⟩;obtain⟨l,u⟩:∃n,w.heap.size+3=n:=⟨_,rfl⟩;have E3:Hid (w.heap.size+1+1+1=l):=u;have E2:Hid (w.heap.size+1+1=p):=lX;rw[lX] at pZ;rw[u] at pR;have FE:=hid u;have a5:=hid lX;have t0:=cF pT 0 rfl;have t1:=cF pT 1 rfl;have t2:=cF pT 2 rfl;have q0:=cF pQ 0 rfl;have q1:=cF pQ 1 rfl;have q2:=cF pQ 2 rfl;have r1:=cF pR 1 rfl;have f1:∀X,Below c.heap.size c X→X.frozen? ⟨l,1,U⟩=false:=(fun X h=>hpFree (hpKeep pR h) 1);have k0:Below c.heap.size c c:=Below.refl _ _;have Pj:Hid (Calls Tryz.prog 96 #[J ra rn rc,.agg #[O G f,O G d]] c (Dz c (oq t.rd f d.toNat))):=zZ _ t.rd jA f d h0 h1 h2 c (hl.ah Q);have a9:Hid (∀(k:Nat) X,(k:Int)<d→Calls Tryz.prog 97 #[O G fn,O G (f+(k:Nat)),O G x] X fun r w'=>∃n:Int,r=.returned (O G n)∧Hid (n=eo fn (f+(k:Nat)) x)∧0≤n∧n<65536∧X=w'):=fun k X hk=>Lw fn (f+(k:Nat)) x (by omega) (by omega) (by omega) (by omega) x0 x1 X
 have ak:=hid z;have a7:=hid Q;have ba:=hid Z;have PZ:=hid pZ;have PR:=hid pR;have PQ:=hid pQ;have HA:=hid ha;have Uq:=hid (And.intro h0 h2);obtain⟨N,hN⟩:=gE d.toNat;rw[hN];have HN:Hid (d=(N:Nat)∧N≤2000):=by show _∧_;omega
 have f2:fn≤2:=by omega
 have f3:¬3≤fn:=by omega
 have aY:l≠p:=by omega
 have aX:¬c.heap.size≤l:=by omega
 have Xl:¬c.heap.size≤p:=by omega
 rw[hs] at ak t0 ⊢;have B:=hid (And.intro aY (And.intro aX Xl));clear z Q Z pT pQ pZ pR hl jA h0 h1 h2 nK lX u hs ha hf x0 x1 hN hq aY aX Xl;obtain⟨i5,hi,cl,S1,cn⟩:=info_parts fS;go_enter Tryz.func54,Tryz.ntmps54;go_upto_region 2 with(fail)
 rw[ak.out,E3.out,E2.out];go_upto_region 8 with(go_at_call 96;(with_reducible refine Pj.out.mono ?_);rintro r o ⟨V,rfl,hv,m⟩;obtain rfl:V=true:=hv.2 HA.out;clear hv)
 have bX:o.cell? ⟨l,1,U⟩=K (O G 0):=r1 o m;go_upto_region 10 with(fail)
 have bK:=q0 o m;have S0:rI c l p fn [] (J none 0 0) o:=⟨hpKeep PR.out m,hpKeep PZ.out m,World.ownsRow_nil _ _ _ _,Keeps.af m⟩
 have y:=hid S0;clear t0 t1 t2 q1 q2 r1 f1 k0 q0 S0;obtain⟨M,hM⟩:∃M:Nat,(N+7)/8=M:=⟨_,rfl⟩
 obtain⟨s,a2⟩:∃s,d+7=s:=⟨_,rfl⟩
 have bZ:IntKind.i64.wrap (d+7)=s:=(IntWalk.i64_in _ (by have:=HN.out;omega)).trans a2;have b4:IntKind.i64.wrap (s.tdiv 8)=(M:Int):=by
  have:=HN.out;rw[Int.tdiv_eq_ediv_of_nonneg (by omega),IntWalk.i64_in _ (by omega)];omega
 have L:M≤250:=by have:=HN.out;omega
 have Ze:=hid hM;have bQ:=(hpCell (hpKeep PQ.out m) 2:o.cell? ⟨w.heap.size+1,2,U⟩=K (O G d))
 have bc:o.cell? ⟨l,2,U⟩=K (J none 0 0):=hpCell y.out.r 2;have b5:o.frozen? ⟨l,2,U⟩=false:=hpFree y.out.r 2;have bx:=run_make_row' (P:=Tryz.prog) 50 5 (O .u8 0) 1 Tryz.underlying50 fS rfl .i64 .i64 M (by omega) (by omega);have a4:c.heap.size≤o.heap.size:=m.size;have a8:Hid (rI c l p fn (List.replicate M 0) (J (K ⟨o.heap.size,0,U⟩) M M) ((o.alloc (H (madeCells #[O .u8 0] M) 5)).setCell ⟨l,2,U⟩ (J (K ⟨o.heap.size,0,U⟩) M M))):=by
  have cj:l<o.heap.size:=hpLt y.out.r;have ho:=S2 o c.heap.size M a4 L;refine⟨cS (hpKeep y.out.r (bal' _ _)) rfl,(hpOther (fun e=>B.out.1 e.symm)).trans (hpKeep y.out.z (bal' _ _)),?_,(y.out.kp.trans (Keeps.af (F:=fun _=>False) (bal' _ _)) (fun _ _ e=>e.elim)).set _ _ rfl⟩;rw[List.length_replicate];exact own_keeps (F:=(· =l)) ho (ks1 (Keeps.refl _ _) _ _) (fun j hj e=>by cases hj;have e':o.heap.size=l:=e;omega)
 have Q0:Hid (∀X,Keeps (fun j=>j=l) c X→X.cell? ⟨w.heap.size+1,0,U⟩=K (O G fn)∧X.cell? ⟨w.heap.size+1,1,U⟩=K (O G f)∧X.cell? ⟨w.heap.size+1,2,U⟩=K (O G d)):=fun X hX=>by
  have:=hpKeeps PQ.out hX (by have:=FE.out;omega);exact⟨hpCell this 0,hpCell this 1,hpCell this 2⟩
 have bm:(o.alloc (H (madeCells #[O .u8 0] M) 5)).cell? ⟨l,2,U⟩=K (J none 0 0):=hpCell (hpKeep y.out.r (bal' _ _)) 2;have b8:(o.alloc (H (madeCells #[O .u8 0] M) 5)).frozen? ⟨l,2,U⟩=false:=hpFree (hpKeep y.out.r (bal' _ _)) 2;clear hM a2 a4;go_upto_region 12 with(fail)
 clear bK bX m bQ bc b5 bZ b4 bm b8 bx;go_wp2_with fail;go_loopw [8,9] (fun iv s9 wr=>∃(k:Nat) (D:List UInt8) (da:Option Addr) (dc:Nat),iv=O G (k:Int)∧k≤N∧Hid (D=bL fn f x M k)∧Hid (D.length=M)∧Hid (rI c l p fn D (J da M dc) wr)) (fun iv _ _=>N- (intOf iv).toNat)
 case atStart=>exact⟨0,List.replicate M 0,_,M,rfl,Nat.zero_le _,(oT fn f x M).symm,List.length_replicate,a8.out⟩
 case round=>
  obtain⟨k,D,da,dc,rfl,hk,I,hD,b⟩:=hrel;have cf:(0:Int)≤(k:Int):=Int.natCast_nonneg _;have ao:=HN.out.1;have ca:=HN.out.2;obtain⟨q0,q1,q2⟩:=Q0.out wr b.out.kp;by_cases cg:k<N
  ·have dk:(k:Int)<d:=by omega
   obtain⟨A,hA⟩:∃A,f+(k:Int)=A:=⟨_,rfl⟩
   have sA:IntKind.i64.wrap (f+(k:Int))=A:=(IntWalk.i64_in _ (by have:=Uq.out;omega)).trans hA;have vY:=a9.out k wr dk;rw[hA] at vY;have vY:=hid vY;have T:k/8<M:=by have:=Ze.out;omega
   have OW:Hid (wr.ownsRow c.heap.size 5 1 (J da M dc) M (u8s D)):=by have:=b.out.own;rw[hD.out] at this;exact this
   obtain⟨g,cap,zM,hg,nE,iN⟩:=cK OW.out (by omega);simp only[Value.slice.injEq,true_and] at zM;obtain⟨rfl,rfl⟩:=zM;have jU:=ey OW.out (k/8) T;have cd:=OW.out.frozenAt (k/8);have r2:wr.cell? ⟨l,2,U⟩=K (J (K ⟨g,0,U⟩) M dc):=hpCell b.out.r 2;have a6:=hid hA;clear hA ao iN nE;go_upto_region 16 with(go_at_call 97;(with_reducible refine vY.out.mono ?_);rintro r w5 ⟨n,rfl,bA,n0,n1,rfl⟩)
   have ab:=hid (ZT (t:=fn) (a:=f) (v:=x) (i:=k) (n:=n) (by rw[a6.out];exact bA.out));by_cases hb:n.tmod 2=1
   ·have d1:(n.tmod 2==1)=true:=b1 hb
    have b7:=hid (ab.out.1.2 hb);clear hb n0 n1;obtain⟨Y,hY⟩:∃Y,UInt8.ofNat ((D[k/8]?.getD 0).toNat+2^(k%8))=Y:=⟨_,rfl⟩
    have E:Hid (Value.int .u8 ((((D[k/8]?.getD 0).toNat:Int)+2^(k%8))%256)=bD Y):=by show _=_;rw[←hY];exact Vd _ _
    have vV:Hid (rI c l p fn (D.set (k/8) Y) (J (K ⟨g,0,U⟩) M dc) (wr.setCell ⟨g,k/8,U⟩ (bD Y))):=by
     have kf:l≠g:=fun e=>B.out.2.1 (by rw[e];exact hg)
     have bo:p≠g:=fun e=>B.out.2.2 (by rw[e];exact hg)
     refine⟨(hpOther kf).trans b.out.r,(hpOther bo).trans b.out.z,?_,?_⟩
     ·have h:=(OW.out.stored (k/8) (bD Y)).1
      rw[gH] at h;rw[List.length_set,hD.out];exact h
     ·exact Keeps.zx b.out.kp ⟨g,k/8,U⟩ _ hg
    have Pm:Hid (D.set (k/8) Y=bL fn f x M (k+1)):=by show _=_;rw[←hY,I.out];exact RO T b7.out
    clear hY;go_upto_region 19 with(fail)
    go_wp2;go_roundw
    case rel=>exact⟨k+1,D.set (k/8) Y,_,_,by go_num,by omega,Pm.out,by show _=_;rw[List.length_set];exact hD.out,by rw[E.out];exact vV.out⟩
    case measure=>simp [intOf];omega
   ·have d1:(n.tmod 2==1)=false:=b0 hb
    have b6:=hid (ab.out.2.2 hb);have Pm:Hid (D=bL fn f x M (k+1)):=by show _=_;rw[MZ T b6.out];exact I.out
    clear hb n0 n1;go_wp2;go_roundw
    case rel=>exact⟨k+1,D,_,_,by go_num,by omega,Pm.out,hD.out,b.out⟩
    case measure=>simp [intOf];omega
  ·obtain rfl:k=N:=by omega
   have dk:¬(k:Int)<d:=by omega
   clear ao;obtain⟨C,hC⟩:∃C:Array Value,(#[O G fn,O G 0,(J da M dc),O G 0,O G 0,.bool false,O G 0,J none 0 0]:Array Value)=C:=⟨_,rfl⟩
   have R:C.size=8:=by rw[←hC];rfl
   have S:(Tryz.prog.info? 53).map (·.size)=K C.size:=by rw[R];exact info8
   have bn:C.toList.all (·.oneCell')=true:=by rw[←hC];rfl
   have a3:=b.out.r;have bC:=b.out.z;rw[hC] at a3;have HC:=hid hC;have Ts:=hid L;clear hC L;go_wp2_with (first
    |(refine wpList_load_row rfl 53 (.tmp 7) rfl l rfl 53 C (0,0) _ a3 Tryz.underlying53 rfl S ?_)
    |(refine wpList_storeW rfl 53 (.tmp 6) (.tmp 92) rfl p 0 _ 53 C rfl rfl bC (by simp [R]) S bn ?_;intro w8 g8 av cp))
   have g9:w8.heap[p]?=K (H C 53):=by
    rw[g8,List.drop_eq_nil_of_le (by simp [R])];simp
   refine bodyPost_ret (results_cell_row rfl _ _ p 53 C (0,0) _ rfl g9 Tryz.underlying53 rfl S) rfl ?_;have Z:=ba.out;have cc:=a5.out;have cb:=FE.out;have q:=hD.out;rw[Ze.out,←I.out];refine⟨da,dc,by rw[←HC.out,q],by rw[q];exact Ts.out,?_,?_⟩
   ·rw [q]
    have:=own_lower (own_keeps b.out.own av (fun j hj e=>by have:=(b.out.own.lt j hj).1;omega)) (by omega:w.heap.size≤c.heap.size);rw[q] at this;exact this
   ·exact (a7.out.trans (b.out.kp.below (by omega) (fun j hj e=>by omega))).trans (av.below (by have:=b.out.kp.size;omega) (fun j hj e=>by omega))
theorem O2 (t:iP) (d:Value) (q:Rq) (n:q.ok=true) (y:1≤q.fn∧q.fn≤4) (x:Int) (z:0≤x) (A:x≤65535) (w:World) (m:dw w d t.rd) (o:t.sup=true→aG (-1) t.rd=true):
  Calls Tryz.prog 54 #[.agg #[.bool t.sup,d,O G t.al],.agg #[O G q.fn,O G q.addr,O G q.aF,O G q.code,O G q.obj],O G x] w (aW w q.fn (t.cC q x).ar (t.cC q x).data):=by
 obtain⟨fn,c,b,co,ob⟩:=q;dsimp only at y ⊢;unfold Rq.ok at n;dsimp only at n;rw[if_pos y] at n;simp only[Bool.and_eq_true,decide_eq_true_eq,beq_iff_eq] at n;obtain⟨⟨⟨⟨⟨f,g⟩,j⟩,B⟩,rfl⟩,rfl⟩:=n;have u:(fn=1∨fn=2)∧b≤2000∨(fn=3∨fn=4)∧b≤125:=by
  unfold cN at j;split at j
  ·exact .inl ⟨by assumption,j⟩
  ·split at j
   ·exact .inr ⟨by assumption,j⟩
   ·omega
 unfold iP.cC;dsimp only;cases hs:t.sup with
 |false=>
  have:=Aa t d fn c b x f g (by omega) w m o 1 (.inl ⟨hs,rfl⟩);rw[hs] at this;exact this
 |true=>
  rw[if_neg (fun e:true=false=>by cases e)];by_cases hm:t.al<b
  ·rw [if_pos hm]
   have:=Aa t d fn c b x f g (by omega) w m o 3 (.inr (.inl ⟨hs,hm,rfl⟩));rw[hs] at this;exact this
  ·rw [if_neg hm]
   by_cases l:oq t.rd c b.toNat
   ·have s:kG t.rd c b.toNat=true:=(qP _ _ _).2 l
    rw[s,if_neg (fun e:true=false=>by cases e)];rcases u with⟨p,r⟩|⟨p,r⟩
    ·rw [if_pos (by omega:fn≤2)]
     have:=Lu t d fn c b x p f g r (by omega) z A w m (o hs) hs hm l;rw[hs] at this;exact this
    ·rw [if_neg (by omega:¬fn≤2)]
     have:=Jo t d fn c b x p f g r (by omega) z A w m (o hs) hs hm l;rw[hs] at this;exact this
   ·have s:kG t.rd c b.toNat=false:=by
     cases e:kG t.rd c b.toNat with
     |false=>rfl
     |true=>exact absurd ((qP _ _ _).1 e) l
    rw[s,if_pos rfl];have:=Aa t d fn c b x f g (by omega) w m o 2 (.inr (.inr ⟨hs,hm,l,rfl⟩));rw[hs] at this;exact this
