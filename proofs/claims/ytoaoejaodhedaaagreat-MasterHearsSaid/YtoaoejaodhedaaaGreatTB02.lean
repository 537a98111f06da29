import Derived.Test.YtoaoejaodhedaaaGreatTB01
namespace Go.Proofs.YtoaoejaodhedaaaGreat
open Go.RowKit
open Value renaming slice→J,int→O
open Option renaming none→U,some→K
open IntKind renaming i64→G
open Obj renaming cells→H
set_option maxHeartbeats 6400000
set_option maxRecDepth 100000
variable {a e fn n t v:Int} {N i k:Nat}
theorem Kg (h:i/8<N) (c:iQ t a v i=0):bL t a v N (i+1)=bL t a v N i:=by
 rw[←jH h,c,Nat.zero_mul,Nat.add_zero];refine List.ext_getElem? fun k=>?_
 rw[List.getElem?_set];by_cases b:i/8=k
 ·subst b
  rw[if_pos rfl,if_pos (by rw[bI];exact h),mE h]
 ·rw [if_neg b]
theorem Oq (h:i/8<N) (c:iQ t a v i=1):(bL t a v N i).set (i/8) (UInt8.ofNat (((bL t a v N i)[i/8]?.getD 0).toNat+2^(i%8)))=bL t a v N (i+1):=by
 rw[←jH h,c,Nat.one_mul,mE h];have d:=oK t a v (i/8) (i%8);have f:2^(i%8)≤2^7:=Nat.pow_le_pow_right (by decide) (by omega);have b:(UInt8.ofNat (iB t a v (i/8) (i%8))).toNat=iB t a v (i/8) (i%8):=by rw[UInt8.toNat_ofNat'];exact Nat.mod_eq_of_lt (by omega)
 show List.set _ _ (UInt8.ofNat ((UInt8.ofNat (iB t a v (i/8) (i%8))).toNat+2^(i%8)))=_;rw[b]
theorem Ww (b:n=eo t (a+(i:Nat)) v):(iQ t a v i=1↔n.tmod 2=1)∧(iQ t a v i=0↔¬n.tmod 2=1):=by
 subst b;have h:=(wI t (a+(i:Nat)) v).1;unfold iQ;rw[Int.tmod_eq_emod_of_nonneg h];omega
theorem TM (a n:Int) (j:0≤a) (l:1≤n) (m:a+n≤65536) (w:World):
  Calls Tryz.prog 142 #[.agg #[O G a,O G n]] w (aj w true):=by
 have o:=bal' w (H #[O G a,O G n] 24);obtain⟨f,c⟩:∃f,65536-a=f:=⟨_,rfl⟩
 have s1:IntKind.i64.wrap (65536-a)=f:=(IntWalk.i64_in _ (by omega)).trans c;have a1:0≤a:=j;have d:a<65536:=by omega
 have g:1≤n:=l;have b:n≤f:=by omega
 have d4:decide (n≤f)=true:=decide_eq_true b;clear c m;go_enter Tryz.func142,Tryz.ntmps142;go_wp2;go_ret;exact⟨by first|rfl|(simp [a1,d,g,b]),o⟩
theorem Th {l:List (Int×Int)} {x:Int×Int} (b:l[k]?=K x) (a:Int):El (l.take (k+1)) a=(El (l.take k) a||(decide (x.1≤a)&&decide (a-x.1<x.2))):=by
 rw[List.take_add_one,b];unfold El;rw[List.any_append];simp
def Bh (w:World) (P:Prop) (r:Ending) (w':World):Prop:=∃V:Bool,r=.returned (.bool V)∧(V=true↔P)∧Below w.heap.size w w'
theorem vQ (v:Value) (l:List (Int×Int)) (V:aG (-1) l=true) (a n:Int) (W:0≤a) (s:1≤n) (h2:a+n≤65536) (w:World) (K:dw w v l):
  Calls Tryz.prog 96 #[v,.agg #[O G a,O G n]] w (Bh w (oq l a n.toNat)):=by
 obtain⟨W0,fo,M,p0⟩:=eY w (H #[O G a,O G n] 24);have y0:=cF p0 0 rfl;have y1:=cF p0 1 rfl;have ZA:Hid (∀X,Calls Tryz.prog 142 #[.agg #[O G a,O G n]] X (aj X true)):=fun X=>TM a n W s h2 X
 have q:Hid (∀X,Below W0.heap.size W0 X→Calls Tryz.prog 94 #[v] X (aj X true)):=fun X hX=>mT v l X (K.ah (bt M hX (Nat.le_refl _))) true V
 have HL:=hid (K.ah M);have Mw:=hid V;obtain⟨sa,c,rfl,lQ,gq,-⟩:=id K;obtain⟨m,hm⟩:=gE l.length;have R:=hid hm;obtain⟨E,hE⟩:∃e,a+n=e:=⟨_,rfl⟩
 have sE:IntKind.i64.wrap (a+n)=E:=(IntWalk.i64_in _ (by omega)).trans hE;obtain⟨N,hN⟩:=gE n.toNat;have JC:Hid (E=a+(N:Nat)):=by show _=_;omega
 rw[hm] at lQ q ⊢;rw[hN];have S:=hid fo;have p:=hid M;have k0:Below W0.heap.size W0 W0:=Below.refl _ _;have H0:=hid W;have H2:=hid (show E≤65536 by omega);clear K hm V fo M p0 hE hN W s h2;go_enter Tryz.func96,Tryz.ntmps96;go_upto_region 1 with(fail)
 rw[S.out];go_upto_region 3 with(first
  |(go_at_call 142;(with_reducible refine(ZA.out _).mono ?_);rintro r w1 ⟨rfl,z⟩;have rC:=bt k0 z (Nat.le_refl _))
  |(go_at_call 94;(with_reducible refine(q.out _ rC).mono ?_);rintro r w2 ⟨rfl,B⟩;have Y:=bt rC B (Nat.le_refl _)))
 clear z B;go_wp2_with fail;go_loopw [5,6,7] (fun U s6 s7 wr=>∃(j:Nat) (A:Int),U=O G A∧Hid (A=a+(j:Nat))∧j≤N∧Hid (oq l a j)∧Below W0.heap.size W0 wr) (fun U _ _ _=>E.toNat- (intOf U).toNat)
 case atStart=>exact⟨0,a,rfl,(by show _=_;omega),Nat.zero_le _,fun i hi=>by omega,Y⟩
 case round=>
  obtain⟨j,A,rfl,J,hj,mw,C⟩:=hrel;have y:=JC.out;have ad:=H0.out;have ak:=H2.out;have u:=J.out;by_cases Z:j<N
  ·have dA:A<E:=by omega
   have bA:0≤A:=by omega
   have ab:A<65536:=by omega
   have sA:IntKind.i64.wrap (A+1)=A+1:=IntWalk.i64_in _ (by omega);clear y u;go_upto_region 8 with(fail)
   go_loopw [6,7] (fun bv iv wi=>∃(k:Nat) (b:Bool),bv=.bool b∧iv=O G (k:Int)∧k≤m∧Hid (El (l.take k) A=b)∧Below W0.heap.size W0 wi) (fun _ iv _=>m- (intOf iv).toNat)
   case atStart=>exact⟨0,false,rfl,rfl,Nat.zero_le _,rfl,C⟩
   case round=>
    obtain⟨k,b,rfl,rfl,hk,I,d⟩:=hrel;have ao:(0:Int)≤(k:Int):=Int.natCast_nonneg _;have AF:m≤9223372036854775807:=by unfold maxLen at gq;omega
    by_cases Gj:k<m
    ·obtain ⟨x,L⟩:=gs (l:=l) R.out Gj
     obtain⟨gb,o,c',lb,w1,w2,iy⟩:=HL.out.at L;rw[R.out] at lb;simp only[Value.slice.injEq,true_and] at lb;obtain⟨rfl,rfl⟩:=lb;have aX:(k:Int)<(m:Int):=by omega
     have qV:=jk Mw.out x (List.mem_of_getElem? L);obtain⟨x0,x1⟩:=iy _ d;have F:=Th L A;rw[I.out] at F;obtain⟨g,xc⟩:=x;dsimp only at x0 x1 qV F;obtain⟨e,he⟩:∃e,g+xc=e:=⟨_,rfl⟩
     have s1:IntKind.i64.wrap (g+xc)=e:=(IntWalk.i64_in _ (by omega)).trans he;have xZ:decide (A-g<xc)=decide (A<e):=by rw[decide_eq_decide];omega
     rw[xZ] at F;have P:=hid F;clear F xZ L iy I he qV w1 w2;go_upto_region 10 with(fail)
     cases b with
     |true=>
      have f:Hid (El (l.take (k+1)) A=true):=P.out;go_quiet (fail);go_wp2;go_roundw
      case rel=>exact⟨k+1,true,rfl,by go_num,by omega,f.out,below_drewN d _⟩
      case measure=>simp [intOf];omega
     |false=>
      by_cases D:g≤A
      ·have a1:decide (g≤A)=true:=decide_eq_true D
       by_cases Q:A<e
       ·have T:decide (A<e)=true:=decide_eq_true Q
        have f:Hid (El (l.take (k+1)) A=true):=by show _=_;rw[P.out,a1,T];rfl
        clear D Q;go_quiet (fail);go_wp2;go_roundw
        case rel=>exact⟨k+1,true,rfl,by go_num,by omega,f.out,below_drewN d _⟩
        case measure=>simp [intOf];omega
       ·have T:decide (A<e)=false:=decide_eq_false Q
        have f:Hid (El (l.take (k+1)) A=false):=by show _=_;rw[P.out,a1,T];rfl
        clear D Q;go_quiet (fail);go_wp2;go_roundw
        case rel=>exact⟨k+1,false,rfl,by go_num,by omega,f.out,below_drewN d _⟩
        case measure=>simp [intOf];omega
      ·have a1:decide (g≤A)=false:=decide_eq_false D
       have f:Hid (El (l.take (k+1)) A=false):=by show _=_;rw[P.out,a1];rfl
       clear D;go_quiet (fail);go_wp2;go_roundw
       case rel=>exact⟨k+1,false,rfl,by go_num,by omega,f.out,below_drewN d _⟩
       case measure=>simp [intOf];omega
    ·obtain rfl:k=m:=by omega
     have VI:Hid (El l A=b):=by
      have s:=I.out;rw[List.take_of_length_le (by rw[R.out];exact Nat.le_refl _)] at s;exact s
     clear I;cases b with
     |true=>
      have Qc:Hid (oq l a (j+1)):=fun i hi=>by
       by_cases e:i=j
       ·rw [e,←J.out];exact VI.out
       ·exact mw.out i (by omega)
      go_wp2;go_roundw
      case rel=>exact⟨j+1,A+1,rfl,(by show _=_;have:=J.out;omega),by omega,Qc.out,d⟩
      case measure=>simp [intOf];omega
     |false=>
      go_wp2;go_ret;refine⟨false,rfl,⟨fun e=>(by cases e),fun e=>?_⟩,bt p.out d (Nat.le_refl _)⟩;have:=e j Z;rw[←J.out,VI.out] at this;exact this
  ·obtain rfl:j=N:=by omega
   have dA:¬A<E:=by omega
   clear y u;go_wp2;go_ret;exact⟨true,rfl,⟨fun _=>mw.out,fun _=>rfl⟩,bt p.out C (Nat.le_refl _)⟩
theorem Jl (t a x:Int) (t0:1≤t) (t1:t≤4) (a0:0≤a) (a1:a<65536) (l:0≤x) (m:x≤65535) (w:World):
  Calls Tryz.prog 97 #[O G t,O G a,O G x] w fun r j=>∃n:Int,r=.returned (O G n)∧Hid (n=eo t a x)∧0≤n∧n<65536∧w=j:=by
 have b1:¬t<1:=by omega
 have b2:¬4<t:=by omega
 have b3:¬a<0:=by omega
 have o:¬65536≤a:=by omega
 have s:¬x<0:=by omega
 have A:¬65535<x:=by omega
 obtain⟨p,c⟩:∃p,7919*a=p:=⟨_,rfl⟩
 have s1:IntKind.i64.wrap (7919*a)=p:=(IntWalk.i64_in _ (by omega)).trans c;obtain⟨q,d⟩:∃q,x+p=q:=⟨_,rfl⟩
 have s2:IntKind.i64.wrap (x+p)=q:=(IntWalk.i64_in _ (by omega)).trans d;obtain⟨u,hu⟩:∃u,104729*t=u:=⟨_,rfl⟩
 have B:IntKind.i64.wrap (104729*t)=u:=(IntWalk.i64_in _ (by omega)).trans hu;obtain⟨z,f⟩:∃z,q+u=z:=⟨_,rfl⟩
 have C:IntKind.i64.wrap (q+u)=z:=(IntWalk.i64_in _ (by omega)).trans f;obtain⟨y,g⟩:=gE (z.tmod 65536);have b:Hid (y=eo t a x∧0≤y∧y<65536):=by
  show _∧_∧_;rw[←g,Int.tmod_eq_emod_of_nonneg (by omega)];unfold eo;omega
 clear t0 t1 a0 a1 l m c d hu f;go_enter Tryz.func97,Tryz.ntmps97;go_wp2;go_ret;exact⟨y,rfl,b.out.1,b.out.2.1,b.out.2.2,rfl⟩
def TabPost (w:World) (fn e:Int) (r:Ending) (w':World):Prop:=
 ∃(D:List UInt8) (da:Option Addr) (dc:Nat),r=.returned (.agg (#[O G fn,O G e,(J da D.length dc),O G 0,O G 0,.bool false,O G 0,J none 0 0]))∧D.length≤250∧w'.ownsRow w.heap.size 5 1 (J da D.length dc) D.length (u8s D)∧Below w.heap.size w w'
theorem TabPost.ar {w c d f:World} {C:Array Value} (b:Below w.heap.size w c) (p:w.heap.size+4≤c.heap.size) (g:Keeps (fun j=>w.heap.size≤j) c d) (l:Keeps (fun j=>w.heap.size≤j) d f) (m:C=#[O G fn,O G e,(J none 0 0),O G 0,O G 0,.bool false,O G 0,J none 0 0]):aW w fn e [] (.returned (.agg C)) f:=by
 subst m;exact⟨none,0,rfl,Nat.zero_le _,World.ownsRow_nil _ _ _ _,(b.trans (g.below b.size (fun j o e=>by omega))).trans (l.below (by have:=b.size;have:=g.size;omega) (fun j o e=>by omega))⟩
theorem Uj {p:Prop} (h:p:=by
 go_wp2_with (first|(refine wpList_load_row rfl 53 (.tmp 7) rfl (rb) rfl 53 C (0,0) _ pR2 Tryz.underlying53 rfl hi8 ?_)|(refine wpList_storeW rfl 53 (.tmp 6) (.tmp 39) rfl (zb) 0 _ 53 C rfl rfl pZ2 (by simp [hcs]) hi8 h1c ?_;intro w8 g8 hk8 hz8));have g9:w8.heap[zb]?=some (.cells C 53):=(by rw[g8,List.drop_eq_nil_of_le (by simp [hcs])];simp);refine bodyPost_ret (results_cell_row rfl _ _ (zb) 53 C (0,0) _ rfl g9 Tryz.underlying53 rfl hi8) rfl ?_;exact TabPost.ar HB1.out (by have:=HZ1.out;omega) HK2.out (hk8.mono (fun j _ e=>by have:=EZB.out;omega)) HC.out.symm):p:=h
theorem vV (t:iP) (rv:Value) (fn l f x:Int) (h0:0≤l) (h1:1≤f) (h2:l+f≤65536) (w:World) (S:dw w rv t.rd) (gU:t.sup=true→aG (-1) t.rd=true) (e:Int)
  (he:(t.sup=false∧e=1)∨(t.sup=true∧t.al<f∧e=3)∨(t.sup=true∧¬t.al<f∧¬oq t.rd l f.toNat∧e=2)):
  Calls Tryz.prog 54 #[.agg #[.bool t.sup,rv,O G t.al],.agg #[O G fn,O G l,O G f,O G 0,O G 0],O G x] w (aW w fn e []):=by
 obtain⟨A,rc,vk,-⟩:=id S;obtain⟨B,lU⟩:=gE t.rd.length;rw[lU] at vk;subst vk;obtain⟨b,q⟩:∃W,(((w.alloc (H #[.bool t.sup,J A B rc,O G t.al] 65)).alloc (H #[O G fn,O G l,O G f,O G 0,O G 0] 45)).alloc (H (#[O G 0,O G 0,(J none 0 0),O G 0,O G 0,.bool false,O G 0,J none 0 0]) 53)).alloc (H (#[O G fn,O G 0,(J none 0 0),O G 0,O G 0,.bool false,O G 0,J none 0 0]) 53)=W:=⟨_,rfl⟩;have F:b.heap.size=w.heap.size+4:=(by rw[←q];simp);have s:Below w.heap.size w b:=(by rw[←q];exact bta (bta (bta (bal' w _) (Nat.le_refl _) _) (Nat.le_refl _) _) (Nat.le_refl _) _);have M:b.heap[w.heap.size]?=K (H #[.bool t.sup,J A B rc,O G t.al] 65):=(by rw[←q];exact hpKeep (hpKeep (hpKeep (hpNew w _) (bal' _ _)) (bal' _ _)) (bal' _ _));have L:b.heap[w.heap.size+1]?=K (H #[O G fn,O G l,O G f,O G 0,O G 0] 45):=(by rw[←q];refine hpKeep (hpKeep ?_ (bal' _ _)) (bal' _ _);simpa using hpNew (w.alloc (H #[.bool t.sup,J A B rc,O G t.al] 65)) (H #[O G fn,O G l,O G f,O G 0,O G 0] 45));have P:b.heap[w.heap.size+2]?=K (H (#[O G 0,O G 0,(J none 0 0),O G 0,O G 0,.bool false,O G 0,J none 0 0]) 53):=(by rw[←q];refine hpKeep ?_ (bal' _ _);simpa using hpNew ((w.alloc (H #[.bool t.sup,J A B rc,O G t.al] 65)).alloc (H #[O G fn,O G l,O G f,O G 0,O G 0] 45)) (H (#[O G 0,O G 0,(J none 0 0),O G 0,O G 0,.bool false,O G 0,J none 0 0]) 53));have z:b.heap[w.heap.size+3]?=K (H (#[O G fn,O G 0,(J none 0 0),O G 0,O G 0,.bool false,O G 0,J none 0 0]) 53):=(by rw[←q];simpa using hpNew (((w.alloc (H #[.bool t.sup,J A B rc,O G t.al] 65)).alloc (H #[O G fn,O G l,O G f,O G 0,O G 0] 45)).alloc (H (#[O G 0,O G 0,(J none 0 0),O G 0,O G 0,.bool false,O G 0,J none 0 0]) 53)) (H (#[O G fn,O G 0,(J none 0 0),O G 0,O G 0,.bool false,O G 0,J none 0 0]) 53));obtain⟨zb,I⟩:∃n,w.heap.size+2=n:=⟨_,rfl⟩;obtain⟨rb,o⟩:∃n,w.heap.size+3=n:=⟨_,rfl⟩;have R:Hid (w.heap.size+1+1+1=rb):=o;have Q:Hid (w.heap.size+1+1=zb):=I;rw[I] at P;rw[o] at z;have Db:=hid o;have EZB:=hid I;have t0:=cF M 0 rfl;have t1:=cF M 1 rfl;have t2:=cF M 2 rfl;have T:=cF L 0 rfl;have Y:=cF L 1 rfl;have Z:=cF L 2 rfl;have r1:=cF z 1 rfl;have f1:∀X,Below b.heap.size b X→X.frozen? ⟨rb,1,U⟩=false:=(fun X h=>hpFree (hpKeep z h) 1);have y:Below b.heap.size b b:=Below.refl _ _;have m:Hid (t.sup=true→∀X,Below b.heap.size b X→Calls Tryz.prog 96 #[J A B rc,.agg #[O G l,O G f]] X (Bh X (oq t.rd l f.toNat))):=fun hs X D=>vQ _ t.rd (gU hs) l f h0 h1 h2 X (S.ah (bt s D (Nat.le_refl _)))
 have g:=hid q;have HB1:=hid s;have HZ1:=hid F;have PZ:=hid P;have PR:=hid z;have u:Hid (∀X (e:Int),Below b.heap.size b X→(X.setCell ⟨rb,1,U⟩ (O G e)).heap[rb]?=K (H (#[O G fn,O G e,(J none 0 0),O G 0,O G 0,.bool false,O G 0,J none 0 0]) 53)∧(X.setCell ⟨rb,1,U⟩ (O G e)).heap[zb]?=K (H (#[O G 0,O G 0,(J none 0 0),O G 0,O G 0,.bool false,O G 0,J none 0 0]) 53)∧Keeps (fun j=>w.heap.size≤j) b (X.setCell ⟨rb,1,U⟩ (O G e))):=fun X e D=>
  ⟨cS (hpKeep z D) rfl,(hpOther (by have:=Db.out;have:=EZB.out;omega)).trans (hpKeep P D),(Keeps.af D).set _ _ (by show w.heap.size≤rb;have:=Db.out;omega)⟩
 clear q s F M L P z S gU h0 h1 h2 lU I o;rcases he with⟨hs,rfl⟩|⟨hs,hm,rfl⟩|⟨hs,hm,ha,rfl⟩
 ·rw [hs] at g t0 ⊢
  clear m hs;go_enter Tryz.func54,Tryz.ntmps54;go_upto_region 2 with(fail)
  rw[g.out,R.out,Q.out];go_upto_region 8 with(fail)
  obtain⟨pR2,pZ2,d⟩:=u.out b 1 y;generalize b.setCell ⟨rb,1,U⟩ (O G 1)=W2 at*;have e1:=cG pR2 1 rfl;have HK2:=hid d;obtain⟨C,c⟩:∃C:Array Value,(#[O G fn,O G 1,(J none 0 0),O G 0,O G 0,.bool false,O G 0,J none 0 0]:Array Value)=C:=⟨_,rfl⟩;have hcs:C.size=8:=(by rw[←c];rfl);have hi8:(Tryz.prog.info? 53).map (·.size)=K C.size:=(by rw[hcs];exact info8);have h1c:C.toList.all (·.oneCell')=true:=(by rw[←c];rfl);rw[c] at pR2;have HC:=hid c;clear c;clear t0 t1 t2 T Y Z r1 f1 y d u;exact Uj
 ·rw [hs] at g t0 ⊢
  clear m hs;go_enter Tryz.func54,Tryz.ntmps54;go_upto_region 2 with(fail)
  rw[g.out,R.out,Q.out];go_upto_region 8 with(fail)
  obtain⟨pR2,pZ2,d⟩:=u.out b 3 y;generalize b.setCell ⟨rb,1,U⟩ (O G 3)=W2 at*;have e1:=cG pR2 1 rfl;have HK2:=hid d;obtain⟨C,c⟩:∃C:Array Value,(#[O G fn,O G 3,(J none 0 0),O G 0,O G 0,.bool false,O G 0,J none 0 0]:Array Value)=C:=⟨_,rfl⟩;have hcs:C.size=8:=(by rw[←c];rfl);have hi8:(Tryz.prog.info? 53).map (·.size)=K C.size:=(by rw[hcs];exact info8);have h1c:C.toList.all (·.oneCell')=true:=(by rw[←c];rfl);rw[c] at pR2;have HC:=hid c;clear c;clear t0 t1 t2 T Y Z r1 f1 y d u;exact Uj
 ·have Mu:=hid (m.out hs)
  rw[hs] at g t0 ⊢;have HA:=hid ha;clear m hs ha;go_enter Tryz.func54,Tryz.ntmps54;go_upto_region 2 with(fail)
  rw[g.out,R.out,Q.out];go_upto_region 7 with(go_at_call 96;(with_reducible refine(Mu.out b y).mono ?_);rintro r w2 ⟨V,rfl,hv,E⟩;obtain rfl:V=false:=(by cases V with|false=>rfl|true=>exact absurd (hv.1 rfl) HA.out);clear hv)
  go_upto_region 8 with(fail)
  obtain⟨pR2,pZ2,d⟩:=u.out w2 2 E;generalize w2.setCell ⟨rb,1,U⟩ (O G 2)=W2 at*;have e1:=cG pR2 1 rfl;have HK2:=hid d;obtain⟨C,c⟩:∃C:Array Value,(#[O G fn,O G 2,(J none 0 0),O G 0,O G 0,.bool false,O G 0,J none 0 0]:Array Value)=C:=⟨_,rfl⟩;have hcs:C.size=8:=(by rw[←c];rfl);have hi8:(Tryz.prog.info? 53).map (·.size)=K C.size:=(by rw[hcs];exact info8);have h1c:C.toList.all (·.oneCell')=true:=(by rw[←c];rfl);rw[c] at pR2;have HC:=hid c;clear c;clear t0 t1 t2 T Y Z r1 f1 y d u E;exact Uj
theorem Mp (n:Int) (c:0≤n) (g:n<65536):∃a b:Int,IntKind.i64.wrap (n.tdiv 256)=a∧n.tmod 256=b∧IntKind.u8.wrap a=a∧IntKind.u8.wrap b=b∧0≤a∧a≤255∧0≤b∧b≤255∧Hid (byteI a=UInt8.ofNat (n.toNat/256)∧byteI b=UInt8.ofNat (n.toNat%256)):=by
 have d:n.tdiv 256=n/256:=Int.tdiv_eq_ediv_of_nonneg c;have f:n.tmod 256=n%256:=Int.tmod_eq_emod_of_nonneg c;refine⟨n/256,n%256,by rw[d,IntWalk.i64_in _ (by omega)],f,?_,?_,by omega,by omega,by omega,by omega,?_,?_⟩
 ·exact IntWalk.u8_in _ (by omega)
 ·exact IntWalk.u8_in _ (by omega)
 ·unfold byteI;congr 1;omega
 ·unfold byteI;congr 1;omega
theorem GG (t:iP) (rv:Value) (fn f g x:Int) (hf:fn=3∨fn=4) (h0:0≤f) (h1:1≤g) (hq:g≤125) (h2:f+g≤65536) (x0:0≤x) (x1:x≤65535) (w:World) (hl:dw w rv t.rd) (gU:aG (-1) t.rd=true)
  (hs:t.sup=true) (hm:¬t.al<g) (ha:oq t.rd f g.toNat):
  Calls Tryz.prog 54 #[.agg #[.bool t.sup,rv,O G t.al],.agg #[O G fn,O G f,O G g,O G 0,O G 0],O G x] w (aW w fn 0 (iJ fn f x g.toNat)):=by
 obtain⟨Q,rc,vk,-⟩:=id hl;obtain⟨R,lU⟩:=gE t.rd.length;rw[lU] at vk;subst vk;obtain⟨d,z⟩:∃W,(((w.alloc (H #[.bool t.sup,J Q R rc,O G t.al] 65)).alloc (H #[O G fn,O G f,O G g,O G 0,O G 0] 45)).alloc (H (#[O G 0,O G 0,(J none 0 0),O G 0,O G 0,.bool false,O G 0,J none 0 0]) 53)).alloc (H (#[O G fn,O G 0,(J none 0 0),O G 0,O G 0,.bool false,O G 0,J none 0 0]) 53)=W:=⟨_,rfl⟩;have P:d.heap.size=w.heap.size+4:=(by rw[←z];simp);have I:Below w.heap.size w d:=(by rw[←z];exact bta (bta (bta (bal' w _) (Nat.le_refl _) _) (Nat.le_refl _) _) (Nat.le_refl _) _);have pT:d.heap[w.heap.size]?=K (H #[.bool t.sup,J Q R rc,O G t.al] 65):=(by rw[←z];exact hpKeep (hpKeep (hpKeep (hpNew w _) (bal' _ _)) (bal' _ _)) (bal' _ _));have pQ:d.heap[w.heap.size+1]?=K (H #[O G fn,O G f,O G g,O G 0,O G 0] 45):=(by rw[←z];refine hpKeep (hpKeep ?_ (bal' _ _)) (bal' _ _);simpa using hpNew (w.alloc (H #[.bool t.sup,J Q R rc,O G t.al] 65)) (H #[O G fn,O G f,O G g,O G 0,O G 0] 45));have pZ:d.heap[w.heap.size+2]?=K (H (#[O G 0,O G 0,(J none 0 0),O G 0,O G 0,.bool false,O G 0,J none 0 0]) 53):=(by rw[←z];refine hpKeep ?_ (bal' _ _);simpa using hpNew ((w.alloc (H #[.bool t.sup,J Q R rc,O G t.al] 65)).alloc (H #[O G fn,O G f,O G g,O G 0,O G 0] 45)) (H (#[O G 0,O G 0,(J none 0 0),O G 0,O G 0,.bool false,O G 0,J none 0 0]) 53));have pR:d.heap[w.heap.size+3]?=K (H (#[O G fn,O G 0,(J none 0 0),O G 0,O G 0,.bool false,O G 0,J none 0 0]) 53):=(by rw[←z];simpa using hpNew (((w.alloc (H #[.bool t.sup,J Q R rc,O G t.al] 65)).alloc (H #[O G fn,O G f,O G g,O G 0,O G 0] 45)).alloc (H (#[O G 0,O G 0,(J none 0 0),O G 0,O G 0,.bool false,O G 0,J none 0 0]) 53)) (H (#[O G fn,O G 0,(J none 0 0),O G 0,O G 0,.bool false,O G 0,J none 0 0]) 53));obtain⟨y,jA⟩:∃n,w.heap.size+2=n:=⟨_,rfl⟩;obtain⟨l,s⟩:∃n,w.heap.size+3=n:=⟨_,rfl⟩;have E3:Hid (w.heap.size+1+1+1=l):=s;have E2:Hid (w.heap.size+1+1=y):=jA;rw[jA] at pZ;rw[s] at pR;have Db:=hid s;have aY:=hid jA;have t0:=cF pT 0 rfl;have t1:=cF pT 1 rfl;have t2:=cF pT 2 rfl;have q0:=cF pQ 0 rfl;have q1:=cF pQ 1 rfl;have q2:=cF pQ 2 rfl;have r1:=cF pR 1 rfl;have f1:∀X,Below d.heap.size d X→X.frozen? ⟨l,1,U⟩=false:=(fun X h=>hpFree (hpKeep pR h) 1);have k0:Below d.heap.size d d:=Below.refl _ _;have Mu:Hid (Calls Tryz.prog 96 #[J Q R rc,.agg #[O G f,O G g]] d (Bh d (oq t.rd f g.toNat))):=vQ _ t.rd gU f g h0 h1 h2 d (hl.ah I);have a4:Hid (∀(k:Nat) X,(k:Int)<g→Calls Tryz.prog 97 #[O G fn,O G (f+(k:Nat)),O G x] X fun r w'=>∃n:Int,r=.returned (O G n)∧Hid (n=eo fn (f+(k:Nat)) x)∧0≤n∧n<65536∧X=w'):=fun k X hk=>Jl fn (f+(k:Nat)) x (by omega) (by omega) (by omega) (by omega) x0 x1 X
 have S:=hid z;have a2:=hid I;have a5:=hid P;have PZ:=hid pZ;have PR:=hid pR;have PQ:=hid pQ;have HA:=hid ha;have Qe:=hid (And.intro h0 h2);obtain⟨N,hN⟩:=gE g.toNat;rw[hN];have HN:Hid (g=(N:Nat)∧N≤125):=by show _∧_;omega
 have f2:¬fn≤2:=by omega
 have f3:3≤fn:=by omega
 have av:l≠y:=by omega
 have ao:¬d.heap.size≤l:=by omega
 have Tc:¬d.heap.size≤y:=by omega
 rw[hs] at S t0 ⊢;have ZG:=hid (And.intro av (And.intro ao Tc));clear z I P pT pQ pZ pR hl gU h0 h1 h2 lU jA s hs ha hf x0 x1 hN hq av ao Tc;obtain⟨i5,hi,a8,O8,a9⟩:=info_parts fS;go_enter Tryz.func54,Tryz.ntmps54;go_upto_region 2 with(fail)
 rw[S.out,E3.out,E2.out];go_upto_region 8 with(go_at_call 96;(with_reducible refine Mu.out.mono ?_);rintro r w2 ⟨V,rfl,hv,o⟩;obtain rfl:V=true:=hv.2 HA.out;clear hv)
 have bc:w2.cell? ⟨l,1,U⟩=K (O G 0):=r1 w2 o;go_upto_region 10 with(fail)
 have YW:=q0 w2 o;have S0:rI d l y fn [] (J none 0 0) w2:=⟨hpKeep PR.out o,hpKeep PZ.out o,World.ownsRow_nil _ _ _ _,Keeps.af o⟩
 have UD:=hid S0;clear t0 t1 t2 q1 q2 r1 f1 k0 q0 S0;go_upto_region 12 with(fail)
 have Q0:Hid (∀X,Keeps (fun j=>j=l) d X→X.cell? ⟨w.heap.size+1,0,U⟩=K (O G fn)∧X.cell? ⟨w.heap.size+1,1,U⟩=K (O G f)∧X.cell? ⟨w.heap.size+1,2,U⟩=K (O G g)):=fun X hX=>by
  have:=hpKeeps PQ.out hX (by have:=Db.out;omega);exact⟨hpCell this 0,hpCell this 1,hpCell this 2⟩
 clear YW bc o;go_wp2_with fail;go_loopw [8,9] (fun iv s9 wr=>∃(k:Nat) (D:List UInt8) (da:Option Addr) (dc:Nat),iv=O G (k:Int)∧k≤N∧Hid (D=iJ fn f x k)∧Hid (D.length=2*k)∧Hid (rI d l y fn D (J da D.length dc) wr)) (fun iv _ _=>N- (intOf iv).toNat)
 case atStart=>exact⟨0,[],none,0,rfl,Nat.zero_le _,rfl,rfl,UD.out⟩
 case round=>
  obtain⟨k,D,da,dc,rfl,hk,Z,Y,c⟩:=hrel;have bA:(0:Int)≤(k:Int):=Int.natCast_nonneg _;have ab:=HN.out.1;have bm:=HN.out.2;obtain⟨q0,q1,q2⟩:=Q0.out wr c.out.kp;by_cases bC:k<N
  ·have dk:(k:Int)<g:=by omega
   obtain⟨A,hA⟩:∃A,f+(k:Int)=A:=⟨_,rfl⟩
   have sA:IntKind.i64.wrap (f+(k:Int))=A:=(IntWalk.i64_in _ (by have:=Qe.out;omega)).trans hA;have tT:=a4.out k wr dk;rw[hA] at tT;have tT:=hid tT;have Zc:=hid hA;clear hA ab;go_upto_region 16 with(go_at_call 97;(with_reducible refine tT.out.mono ?_);rintro r w5 ⟨n,rfl,X8,n0,n1,rfl⟩)
   obtain⟨a,b,s1,s2,s3,s4,a0,a1,b0,b1,oE⟩:=Mp n n0 n1;have Mv:Hid (D++[byteI a,byteI b]=iJ fn f x (k+1)):=by show _=_;have e:=X8.out;rw[←Zc.out] at e;rw[Z.out,oE.out.1,oE.out.2,e];rfl
   obtain⟨ln,lN⟩:=gE D.length;have OW:Hid (wr.ownsRow d.heap.size 5 1 (J da ln dc) ln (u8s D)):=by have:=c.out.own;rw[lN] at this;exact this
   have r2:wr.cell? ⟨l,2,U⟩=K (J da ln dc):=by have:=hpCell c.out.r 2;rw[lN] at this;exact this
   have bQ:=c.out.kp.size;have E:=hid lN;have XX:ln≤250:=by have:=Y.out;omega
   have a3:Hid (ln=2*k):=by show _=_;have:=Y.out;omega
   have HU:Hid (u8s (D++[byteI a,byteI b])=u8s D++[O .u8 a,O .u8 b]):=by
    show _=_;rw[dF];have e1:((byteI a).toNat:Int)=a:=by
     obtain⟨m,rfl⟩:∃m:Nat,a=(m:Int):=⟨a.toNat,by omega⟩
     rw[fN (by omega)]
    have e2:((byteI b).toNat:Int)=b:=by
     obtain⟨m,rfl⟩:∃m:Nat,b=(m:Int):=⟨b.toNat,by omega⟩
     rw[fN (by omega)]
    show u8s D++[bD (byteI a),bD (byteI b)]=_;unfold bD;rw[e1,e2]
   clear lN n0 n1 Y;go_wp2_with (at_builtin;refine aL rfl _ _ 50 rfl d.heap.size 5 i5 _ 1 1 Tryz.underlying50 hi a8 O8 a9 rfl (by decide) (J da ln dc) ln (u8s D) rfl (OW.out.alloc _) ⟨wr.heap.size,0,U⟩ 2 2 [O .u8 a,O .u8 b] rfl rfl (dP wr [O .u8 a,O .u8 b] _) (by intro u hu;simp at hu;rcases hu with rfl|rfl<;>rfl) (by unfold maxLen;omega) (by omega) (by simp;omega) ?c3)
   case c3=>
    intro v6 w6 p B nK;have lY:w6.ownsRow d.heap.size 5 1 v6 (ln+2) (u8s (D++[byteI a,byteI b])):=by rw[HU.out];exact p
    have uX:Keeps (fun j=>(Value.slice da ln dc).ownBlock=K j) wr w6:=(Keeps.af (bal' wr _)).trans (Keeps.bJ B (fun _ hk=>hk)) (fun _ _ e=>e);have En:∀j,(Value.slice da ln dc).ownBlock=K j→d.heap.size≤j:=fun j q=>(OW.out.lt j q).1
    have MS:=hpKeeps c.out.r uX (fun e=>ZG.out.2.1 (En _ e));have Z8:=hpKeeps c.out.z uX (fun e=>ZG.out.2.2 (En _ e));have c6:w6.cell? ⟨l,2,U⟩=K (J da ln dc):=by have:=hpCell MS 2;rw[E.out] at this;exact this
    have f6:=hpFree MS 2;obtain⟨a6,k6,rfl⟩:=own_slice lY;have IG:∀j,(Value.slice a6 (ln+2) k6).ownBlock=K j→j≠l:=fun j q e=>by
     have:=(lY.lt j q).1;exact ZG.out.2.1 (by rw[←e];exact this)
    have tR:Hid (rI d l y fn (D++[byteI a,byteI b]) (J a6 (ln+2) k6) (w6.setCell ⟨l,2,U⟩ (J a6 (ln+2) k6))):=by
     refine⟨cS MS rfl,(hpOther (fun e=>ZG.out.1 e.symm)).trans Z8,?_,?_⟩
     ·have e:(D++[byteI a,byteI b]).length=ln+2:=by rw[List.length_append,E.out];rfl
      rw[e];exact own_keeps (F:=(· =l)) lY (ks1 (Keeps.refl _ _) _ _) (fun j q e=>IG j q e)
     ·exact (c.out.kp.trans uX (fun j q e=>by have:=En j e;omega)).set _ _ rfl
    have H3:Hid ((D++[byteI a,byteI b]).length=ln+2):=by show _=_;rw[List.length_append,E.out];rfl
    clear p lY B nK uX En MS Z8 IG;go_wp2;go_roundw
    case rel=>exact⟨k+1,D++[byteI a,byteI b],a6,k6,by go_num,by omega,Mv.out,by show _=_;rw[H3.out,a3.out];omega,by rw[H3.out];exact tR.out⟩
    case measure=>simp [intOf];omega
  ·obtain rfl:k=N:=by omega
   have dk:¬(k:Int)<g:=by omega
   clear ab;obtain⟨C,T⟩:∃C:Array Value,(#[O G fn,O G 0,(J da D.length dc),O G 0,O G 0,.bool false,O G 0,J none 0 0]:Array Value)=C:=⟨_,rfl⟩
   have L:C.size=8:=by rw[←T];rfl
   have M:(Tryz.prog.info? 53).map (·.size)=K C.size:=by rw[L];exact info8
   have a7:C.toList.all (·.oneCell')=true:=by rw[←T];rfl
   have aX:=c.out.r;have ba:=c.out.z;rw[T] at aX;have HC:=hid T;have HD:Hid (D.length≤250):=by show _≤_;have:=Y.out;omega
   clear T Y;go_wp2_with (first
    |(refine wpList_load_row rfl 53 (.tmp 7) rfl l rfl 53 C (0,0) _ aX Tryz.underlying53 rfl M ?_)
    |(refine wpList_storeW rfl 53 (.tmp 6) (.tmp 92) rfl y 0 _ 53 C rfl rfl ba (by simp [L]) M a7 ?_;intro w8 g8 ak bK))
   have g9:w8.heap[y]?=K (H C 53):=by
    rw[g8,List.drop_eq_nil_of_le (by simp [L])];simp
   refine bodyPost_ret (results_cell_row rfl _ _ y 53 C (0,0) _ rfl g9 Tryz.underlying53 rfl M) rfl ?_;have P:=a5.out;have bx:=aY.out;have bn:=Db.out;rw[←Z.out];refine⟨da,dc,by rw[←HC.out],HD.out,?_,?_⟩
   ·exact own_lower (own_keeps c.out.own ak (fun j q e=>by have:=(c.out.own.lt j q).1;omega)) (by omega)
   ·exact (a2.out.trans (c.out.kp.below (by omega) (fun j q e=>by omega))).trans (ak.below (by have:=c.out.kp.size;omega) (fun j q e=>by omega))
theorem Pe (w:World) (base n:Nat) (b:base≤w.heap.size) (c:n≤250):
  (w.alloc (H (madeCells #[O .u8 0] n) 5)).ownsRow base 5 1 (J (K ⟨w.heap.size,0,U⟩) n n) n (u8s (List.replicate n 0)):=by
 refine⟨by simp,.inr ⟨w.heap.size,n,_,rfl,b,heap_alloc_new _ _,Nat.le_refl _,by unfold maxLen;omega,by simp [size_madeCells],?_⟩⟩;rw[Tq,Nat.mul_one,List.take_of_length_le (by simp)];simp [u8s,bD]
theorem Ri (m j:Nat):Value.int .u8 (((m:Int)+2^j)%256)=bD (UInt8.ofNat (m+2^j)):=by
 unfold bD;rw[UInt8.toNat_ofNat'];simp
theorem I0 (t:iP) (rv:Value) (fn f d x:Int) (hf:fn=1∨fn=2) (h0:0≤f) (h1:1≤d) (hq:d≤2000) (h2:f+d≤65536) (x0:0≤x) (x1:x≤65535) (w:World) (hl:dw w rv t.rd) (gU:aG (-1) t.rd=true)
  (hs:t.sup=true) (hm:¬t.al<d) (ha:oq t.rd f d.toNat):
  Calls Tryz.prog 54 #[.agg #[.bool t.sup,rv,O G t.al],.agg #[O G fn,O G f,O G d,O G 0,O G 0],O G x] w (aW w fn 0 (bL fn f x ((d.toNat+7)/8) d.toNat)):=by
 obtain⟨ra,rc,vk,-⟩:=id hl;obtain⟨rn,lU⟩:=gE t.rd.length;rw[lU] at vk;subst vk;obtain⟨c,z⟩:∃W,(((w.alloc (H #[.bool t.sup,J ra rn rc,O G t.al] 65)).alloc (H #[O G fn,O G f,O G d,O G 0,O G 0] 45)).alloc (H (#[O G 0,O G 0,(J none 0 0),O G 0,O G 0,.bool false,O G 0,J none 0 0]) 53)).alloc (H (#[O G fn,O G 0,(J none 0 0),O G 0,O G 0,.bool false,O G 0,J none 0 0]) 53)=W:=⟨_,rfl⟩;have T:c.heap.size=w.heap.size+4:=(by rw[←z];simp);have L:Below w.heap.size w c:=(by rw[←z];exact bta (bta (bta (bal' w _) (Nat.le_refl _) _) (Nat.le_refl _) _) (Nat.le_refl _) _);have pT:c.heap[w.heap.size]?=K (H #[.bool t.sup,J ra rn rc,O G t.al] 65):=(by rw[←z];exact hpKeep (hpKeep (hpKeep (hpNew w _) (bal' _ _)) (bal' _ _)) (bal' _ _));have pQ:c.heap[w.heap.size+1]?=K (H #[O G fn,O G f,O G d,O G 0,O G 0] 45):=(by rw[←z];refine hpKeep (hpKeep ?_ (bal' _ _)) (bal' _ _);simpa using hpNew (w.alloc (H #[.bool t.sup,J ra rn rc,O G t.al] 65)) (H #[O G fn,O G f,O G d,O G 0,O G 0] 45));have pZ:c.heap[w.heap.size+2]?=K (H (#[O G 0,O G 0,(J none 0 0),O G 0,O G 0,.bool false,O G 0,J none 0 0]) 53):=(by rw[←z];refine hpKeep ?_ (bal' _ _);simpa using hpNew ((w.alloc (H #[.bool t.sup,J ra rn rc,O G t.al] 65)).alloc (H #[O G fn,O G f,O G d,O G 0,O G 0] 45)) (H (#[O G 0,O G 0,(J none 0 0),O G 0,O G 0,.bool false,O G 0,J none 0 0]) 53));have pR:c.heap[w.heap.size+3]?=K (H (#[O G fn,O G 0,(J none 0 0),O G 0,O G 0,.bool false,O G 0,J none 0 0]) 53):=(by rw[←z];simpa using hpNew (((w.alloc (H #[.bool t.sup,J ra rn rc,O G t.al] 65)).alloc (H #[O G fn,O G f,O G d,O G 0,O G 0] 45)).alloc (H (#[O G 0,O G 0,(J none 0 0),O G 0,O G 0,.bool false,O G 0,J none 0 0]) 53)) (H (#[O G fn,O G 0,(J none 0 0),O G 0,O G 0,.bool false,O G 0,J none 0 0]) 53));obtain⟨p,jA⟩:∃n,w.heap.size+2=n:=⟨_,rfl⟩;obtain⟨l,u⟩:∃n,w.heap.size+3=n:=⟨_,rfl⟩;have E3:Hid (w.heap.size+1+1+1=l):=u;have E2:Hid (w.heap.size+1+1=p):=jA;rw[jA] at pZ;rw[u] at pR;have Db:=hid u;have a5:=hid jA;have t0:=cF pT 0 rfl;have t1:=cF pT 1 rfl;have t2:=cF pT 2 rfl;have q0:=cF pQ 0 rfl;have q1:=cF pQ 1 rfl;have q2:=cF pQ 2 rfl;have r1:=cF pR 1 rfl;have f1:∀X,Below c.heap.size c X→X.frozen? ⟨l,1,U⟩=false:=(fun X h=>hpFree (hpKeep pR h) 1);have k0:Below c.heap.size c c:=Below.refl _ _;have Mu:Hid (Calls Tryz.prog 96 #[J ra rn rc,.agg #[O G f,O G d]] c (Bh c (oq t.rd f d.toNat))):=vQ _ t.rd gU f d h0 h1 h2 c (hl.ah L);have a8:Hid (∀(k:Nat) X,(k:Int)<d→Calls Tryz.prog 97 #[O G fn,O G (f+(k:Nat)),O G x] X fun r w'=>∃n:Int,r=.returned (O G n)∧Hid (n=eo fn (f+(k:Nat)) x)∧0≤n∧n<65536∧X=w'):=fun k X hk=>Jl fn (f+(k:Nat)) x (by omega) (by omega) (by omega) (by omega) x0 x1 X
 have ak:=hid z;have a6:=hid L;have a9:=hid T;have PZ:=hid pZ;have PR:=hid pR;have PQ:=hid pQ;have HA:=hid ha;have Qe:=hid (And.intro h0 h2);obtain⟨N,hN⟩:=gE d.toNat;rw[hN];have HN:Hid (d=(N:Nat)∧N≤2000):=by show _∧_;omega
 have f2:fn≤2:=by omega
 have f3:¬3≤fn:=by omega
 have aY:l≠p:=by omega
 have aX:¬c.heap.size≤l:=by omega
 have Tc:¬c.heap.size≤p:=by omega
 rw[hs] at ak t0 ⊢;have ZG:=hid (And.intro aY (And.intro aX Tc));clear z L T pT pQ pZ pR hl gU h0 h1 h2 lU jA u hs ha hf x0 x1 hN hq aY aX Tc;obtain⟨i5,hi,cg,O8,cj⟩:=info_parts fS;go_enter Tryz.func54,Tryz.ntmps54;go_upto_region 2 with(fail)
 rw[ak.out,E3.out,E2.out];go_upto_region 8 with(go_at_call 96;(with_reducible refine Mu.out.mono ?_);rintro r o ⟨V,rfl,hv,m⟩;obtain rfl:V=true:=hv.2 HA.out;clear hv)
 have bK:o.cell? ⟨l,1,U⟩=K (O G 0):=r1 o m;go_upto_region 10 with(fail)
 have YW:=q0 o m;have S0:rI c l p fn [] (J none 0 0) o:=⟨hpKeep PR.out m,hpKeep PZ.out m,World.ownsRow_nil _ _ _ _,Keeps.af m⟩
 have y:=hid S0;clear t0 t1 t2 q1 q2 r1 f1 k0 q0 S0;obtain⟨M,hM⟩:∃M:Nat,(N+7)/8=M:=⟨_,rfl⟩
 obtain⟨s,a2⟩:∃s,d+7=s:=⟨_,rfl⟩
 have bQ:IntKind.i64.wrap (d+7)=s:=(IntWalk.i64_in _ (by have:=HN.out;omega)).trans a2;have bX:IntKind.i64.wrap (s.tdiv 8)=(M:Int):=by
  have:=HN.out;rw[Int.tdiv_eq_ediv_of_nonneg (by omega),IntWalk.i64_in _ (by omega)];omega
 have I:M≤250:=by have:=HN.out;omega
 have Qx:=hid hM;have bC:=(hpCell (hpKeep PQ.out m) 2:o.cell? ⟨w.heap.size+1,2,U⟩=K (O G d))
 have ba:o.cell? ⟨l,2,U⟩=K (J none 0 0):=hpCell y.out.r 2;have bZ:o.frozen? ⟨l,2,U⟩=false:=hpFree y.out.r 2;have bx:=run_make_row' (P:=Tryz.prog) 50 5 (O .u8 0) 1 Tryz.underlying50 fS rfl .i64 .i64 M (by omega) (by omega);have a4:c.heap.size≤o.heap.size:=m.size;have a7:Hid (rI c l p fn (List.replicate M 0) (J (K ⟨o.heap.size,0,U⟩) M M) ((o.alloc (H (madeCells #[O .u8 0] M) 5)).setCell ⟨l,2,U⟩ (J (K ⟨o.heap.size,0,U⟩) M M))):=by
  have cf:l<o.heap.size:=hpLt y.out.r;have ho:=Pe o c.heap.size M a4 I;refine⟨cS (hpKeep y.out.r (bal' _ _)) rfl,(hpOther (fun e=>ZG.out.1 e.symm)).trans (hpKeep y.out.z (bal' _ _)),?_,(y.out.kp.trans (Keeps.af (F:=fun _=>False) (bal' _ _)) (fun _ _ e=>e.elim)).set _ _ rfl⟩;rw[List.length_replicate];exact own_keeps (F:=(· =l)) ho (ks1 (Keeps.refl _ _) _ _) (fun j hj e=>by cases hj;have e':o.heap.size=l:=e;omega)
 have Q0:Hid (∀X,Keeps (fun j=>j=l) c X→X.cell? ⟨w.heap.size+1,0,U⟩=K (O G fn)∧X.cell? ⟨w.heap.size+1,1,U⟩=K (O G f)∧X.cell? ⟨w.heap.size+1,2,U⟩=K (O G d)):=fun X hX=>by
  have:=hpKeeps PQ.out hX (by have:=Db.out;omega);exact⟨hpCell this 0,hpCell this 1,hpCell this 2⟩
 have bc:(o.alloc (H (madeCells #[O .u8 0] M) 5)).cell? ⟨l,2,U⟩=K (J none 0 0):=hpCell (hpKeep y.out.r (bal' _ _)) 2;have b4:(o.alloc (H (madeCells #[O .u8 0] M) 5)).frozen? ⟨l,2,U⟩=false:=hpFree (hpKeep y.out.r (bal' _ _)) 2;clear hM a2 a4;go_upto_region 12 with(fail)
 clear YW bK m bC ba bZ bQ bX bc b4 bx;go_wp2_with fail;go_loopw [8,9] (fun iv s9 wr=>∃(k:Nat) (D:List UInt8) (da:Option Addr) (dc:Nat),iv=O G (k:Int)∧k≤N∧Hid (D=bL fn f x M k)∧Hid (D.length=M)∧Hid (rI c l p fn D (J da M dc) wr)) (fun iv _ _=>N- (intOf iv).toNat)
 case atStart=>exact⟨0,List.replicate M 0,_,M,rfl,Nat.zero_le _,(oT fn f x M).symm,List.length_replicate,a7.out⟩
 case round=>
  obtain⟨k,D,da,dc,rfl,hk,B,hD,b⟩:=hrel;have cc:(0:Int)≤(k:Int):=Int.natCast_nonneg _;have ao:=HN.out.1;have b7:=HN.out.2;obtain⟨q0,q1,q2⟩:=Q0.out wr b.out.kp;by_cases cd:k<N
  ·have dk:(k:Int)<d:=by omega
   obtain⟨A,hA⟩:∃A,f+(k:Int)=A:=⟨_,rfl⟩
   have sA:IntKind.i64.wrap (f+(k:Int))=A:=(IntWalk.i64_in _ (by have:=Qe.out;omega)).trans hA;have tT:=a8.out k wr dk;rw[hA] at tT;have tT:=hid tT;have S:k/8<M:=by have:=Qx.out;omega
   have OW:Hid (wr.ownsRow c.heap.size 5 1 (J da M dc) M (u8s D)):=by have:=b.out.own;rw[hD.out] at this;exact this
   obtain⟨g,cap,vP,hg,lQ,gq⟩:=cK OW.out (by omega);simp only[Value.slice.injEq,true_and] at vP;obtain⟨rfl,rfl⟩:=vP;have iy:=ey OW.out (k/8) S;have cb:=OW.out.frozenAt (k/8);have r2:wr.cell? ⟨l,2,U⟩=K (J (K ⟨g,0,U⟩) M dc):=hpCell b.out.r 2;have Zc:=hid hA;clear hA ao gq lQ;go_upto_region 16 with(go_at_call 97;(with_reducible refine tT.out.mono ?_);rintro r w5 ⟨n,rfl,X8,n0,n1,rfl⟩)
   have ab:=hid (Ww (t:=fn) (a:=f) (v:=x) (i:=k) (n:=n) (by rw[Zc.out];exact X8.out));by_cases Z:n.tmod 2=1
   ·have d1:(n.tmod 2==1)=true:=b1 Z
    have b6:=hid (ab.out.1.2 Z);clear Z n0 n1;obtain⟨Y,hY⟩:∃Y,UInt8.ofNat ((D[k/8]?.getD 0).toNat+2^(k%8))=Y:=⟨_,rfl⟩
    have E:Hid (Value.int .u8 ((((D[k/8]?.getD 0).toNat:Int)+2^(k%8))%256)=bD Y):=by show _=_;rw[←hY];exact Ri _ _
    have tR:Hid (rI c l p fn (D.set (k/8) Y) (J (K ⟨g,0,U⟩) M dc) (wr.setCell ⟨g,k/8,U⟩ (bD Y))):=by
     have iz:l≠g:=fun e=>ZG.out.2.1 (by rw[e];exact hg)
     have bn:p≠g:=fun e=>ZG.out.2.2 (by rw[e];exact hg)
     refine⟨(hpOther iz).trans b.out.r,(hpOther bn).trans b.out.z,?_,?_⟩
     ·have h:=(OW.out.stored (k/8) (bD Y)).1
      rw[gH] at h;rw[List.length_set,hD.out];exact h
     ·exact Keeps.zx b.out.kp ⟨g,k/8,U⟩ _ hg
    have Mv:Hid (D.set (k/8) Y=bL fn f x M (k+1)):=by show _=_;rw[←hY,B.out];exact Oq S b6.out
    clear hY;go_upto_region 19 with(fail)
    go_wp2;go_roundw
    case rel=>exact⟨k+1,D.set (k/8) Y,_,_,by go_num,by omega,Mv.out,by show _=_;rw[List.length_set];exact hD.out,by rw[E.out];exact tR.out⟩
    case measure=>simp [intOf];omega
   ·have d1:(n.tmod 2==1)=false:=b0 Z
    have b5:=hid (ab.out.2.2 Z);have Mv:Hid (D=bL fn f x M (k+1)):=by show _=_;rw[Kg S b5.out];exact B.out
    clear Z n0 n1;go_wp2;go_roundw
    case rel=>exact⟨k+1,D,_,_,by go_num,by omega,Mv.out,hD.out,b.out⟩
    case measure=>simp [intOf];omega
  ·obtain rfl:k=N:=by omega
   have dk:¬(k:Int)<d:=by omega
   clear ao;obtain⟨C,hC⟩:∃C:Array Value,(#[O G fn,O G 0,(J da M dc),O G 0,O G 0,.bool false,O G 0,J none 0 0]:Array Value)=C:=⟨_,rfl⟩
   have Q:C.size=8:=by rw[←hC];rfl
   have R:(Tryz.prog.info? 53).map (·.size)=K C.size:=by rw[Q];exact info8
   have bm:C.toList.all (·.oneCell')=true:=by rw[←hC];rfl
   have a3:=b.out.r;have bA:=b.out.z;rw[hC] at a3;have HC:=hid hC;have Pt:=hid I;clear hC I;go_wp2_with (first
    |(refine wpList_load_row rfl 53 (.tmp 7) rfl l rfl 53 C (0,0) _ a3 Tryz.underlying53 rfl R ?_)
    |(refine wpList_storeW rfl 53 (.tmp 6) (.tmp 92) rfl p 0 _ 53 C rfl rfl bA (by simp [Q]) R bm ?_;intro w8 g8 av cl))
   have g9:w8.heap[p]?=K (H C 53):=by
    rw[g8,List.drop_eq_nil_of_le (by simp [Q])];simp
   refine bodyPost_ret (results_cell_row rfl _ _ p 53 C (0,0) _ rfl g9 Tryz.underlying53 rfl R) rfl ?_;have T:=a9.out;have ca:=a5.out;have b8:=Db.out;have q:=hD.out;rw[Qx.out,←B.out];refine⟨da,dc,by rw[←HC.out,q],by rw[q];exact Pt.out,?_,?_⟩
   ·rw [q]
    have:=own_lower (own_keeps b.out.own av (fun j hj e=>by have:=(b.out.own.lt j hj).1;omega)) (by omega:w.heap.size≤c.heap.size);rw[q] at this;exact this
   ·exact (a6.out.trans (b.out.kp.below (by omega) (fun j hj e=>by omega))).trans (av.below (by have:=b.out.kp.size;omega) (fun j hj e=>by omega))
theorem LH (t:iP) (d:Value) (q:Rq) (p:q.ok=true) (z:1≤q.fn∧q.fn≤4) (x:Int) (A:0≤x) (B:x≤65535) (w:World) (o:dw w d t.rd) (f:t.sup=true→aG (-1) t.rd=true):
  Calls Tryz.prog 54 #[.agg #[.bool t.sup,d,O G t.al],.agg #[O G q.fn,O G q.addr,O G q.aF,O G q.code,O G q.obj],O G x] w (aW w q.fn (t.cC q x).ar (t.cC q x).data):=by
 obtain⟨fn,c,b,co,ob⟩:=q;dsimp only at z ⊢;unfold Rq.ok at p;dsimp only at p;rw[if_pos z] at p;simp only[Bool.and_eq_true,decide_eq_true_eq,beq_iff_eq] at p;obtain⟨⟨⟨⟨⟨g,j⟩,l⟩,C⟩,rfl⟩,rfl⟩:=p;have y:(fn=1∨fn=2)∧b≤2000∨(fn=3∨fn=4)∧b≤125:=by
  unfold cN at l;split at l
  ·exact .inl ⟨by assumption,l⟩
  ·split at l
   ·exact .inr ⟨by assumption,l⟩
   ·omega
 unfold iP.cC;dsimp only;cases hs:t.sup with
 |false=>
  have:=vV t d fn c b x g j (by omega) w o f 1 (.inl ⟨hs,rfl⟩);rw[hs] at this;exact this
 |true=>
  rw[if_neg (fun e:true=false=>by cases e)];by_cases hm:t.al<b
  ·rw [if_pos hm]
   have:=vV t d fn c b x g j (by omega) w o f 3 (.inr (.inl ⟨hs,hm,rfl⟩));rw[hs] at this;exact this
  ·rw [if_neg hm]
   by_cases m:oq t.rd c b.toNat
   ·have u:kG t.rd c b.toNat=true:=(qP _ _ _).2 m
    rw[u,if_neg (fun e:true=false=>by cases e)];rcases y with⟨r,s⟩|⟨r,s⟩
    ·rw [if_pos (by omega:fn≤2)]
     have:=I0 t d fn c b x r g j s (by omega) A B w o (f hs) hs hm m;rw[hs] at this;exact this
    ·rw [if_neg (by omega:¬fn≤2)]
     have:=GG t d fn c b x r g j s (by omega) A B w o (f hs) hs hm m;rw[hs] at this;exact this
   ·have u:kG t.rd c b.toNat=false:=by
     cases e:kG t.rd c b.toNat with
     |false=>rfl
     |true=>exact absurd ((qP _ _ _).1 e) m
    rw[u,if_pos rfl];have:=vV t d fn c b x g j (by omega) w o f 2 (.inr (.inr ⟨hs,hm,m,rfl⟩));rw[hs] at this;exact this
