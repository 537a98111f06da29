import Derived.Test.YtoaoejaodhedaaaGreatT09
import Derived.Test.YtoaoejaodhedaaaGreatT10
namespace Go.Proofs.YtoaoejaodhedaaaGreat
open Go.RowKit
open Value renaming slice→V,int→U
open Option renaming none→J,some→M
open IntKind renaming i64→Z
open Obj renaming cells→K
open Ending renaming returned→O
set_option maxHeartbeats 6400000
set_option maxRecDepth 100000
theorem ig (n:Int) (a:0≤n) (b:n<65536) (w:World):Calls Tryz.prog 206 #[U Z n] w fun r c=>r=O (.bool true)∧w=c:=by
 have d0:decide (0≤n)=true:=decide_eq_true a;have d1:decide (n<65536)=true:=decide_eq_true b;clear a b;go_enter Tryz.func206,Tryz.ntmps206;go_wp2;go_ret;exact⟨rfl,rfl⟩
theorem sJ (t a x:Int) (t0:1≤t) (t1:t≤4) (a0:0≤a) (a1:a<65536) (c:0≤x) (l:x≤65535) (w:World):
  Calls Tryz.prog 223 #[U Z t,U Z a,U Z x] w fun r m=>∃n:Int,r=O (U Z n)∧Hid (n=eo t a x)∧0≤n∧n<65536∧w=m:=by
 have b1:decide (t<1)=false:=decide_eq_false (by omega);have b2:decide (4<t)=false:=decide_eq_false (by omega);have k:=hid (ig a a0 a1);have i:=hid (ig x c (by omega));obtain⟨p,e⟩:∃p,7919*a=p:=⟨_,rfl⟩
 have s1:IntKind.i64.wrap (7919*a)=p:=(IntWalk.i64_in _ (by omega)).trans e;obtain⟨q,f⟩:∃q,x+p=q:=⟨_,rfl⟩
 have s2:IntKind.i64.wrap (x+p)=q:=(IntWalk.i64_in _ (by omega)).trans f;obtain⟨u,hu⟩:∃u,104729*t=u:=⟨_,rfl⟩
 have o:IntKind.i64.wrap (104729*t)=u:=(IntWalk.i64_in _ (by omega)).trans hu;obtain⟨z,d⟩:∃z,q+u=z:=⟨_,rfl⟩
 have s:IntKind.i64.wrap (q+u)=z:=(IntWalk.i64_in _ (by omega)).trans d;obtain⟨y,j⟩:=gE (z.tmod 65536);have b:Hid (y=eo t a x∧0≤y∧y<65536):=by
  show _∧_∧_;rw[←j,Int.tmod_eq_emod_of_nonneg (by omega)];unfold eo;omega
 clear t0 t1 a0 a1 c l e f hu d;go_enter Tryz.func223,Tryz.ntmps223;go_wp2_with (first
  |(go_at_call 206;(with_reducible refine(k.out _).mono ?_);rintro r g ⟨rfl,rfl⟩)
  |(go_at_call 206;(with_reducible refine(i.out _).mono ?_);rintro r g ⟨rfl,rfl⟩))
 go_ret;exact⟨y,rfl,b.out.1,b.out.2.1,b.out.2.2,rfl⟩
def jO (w:World) (fn e:Int) (r:Ending) (w':World):Prop:=r=O (.agg #[U Z fn,U Z e,V none 0 0,U Z 0,U Z 0,.bool false,U Z 0,V none 0 0])∧Below w.heap.size w w'
theorem iE (fn a b co ob e:Int) (w:World):Calls Tryz.prog 209 #[.agg #[U Z fn,U Z a,U Z b,U Z co,U Z ob],U Z e] w (jO w fn e):=by
 have c:=bta (bal' w (K #[U Z fn,U Z a,U Z b,U Z co,U Z ob] 45)) (Nat.le_refl _) (K #[U Z fn,U Z e,V none 0 0,U Z 0,U Z 0,.bool false,U Z 0,V none 0 0] 53);have d:((w.alloc (K #[U Z fn,U Z a,U Z b,U Z co,U Z ob] 45)).alloc (K #[U Z fn,U Z e,V none 0 0,U Z 0,U Z 0,.bool false,U Z 0,V none 0 0] 53)).heap[w.heap.size+1]?=M (K #[U Z fn,U Z e,V none 0 0,U Z 0,U Z 0,.bool false,U Z 0,V none 0 0] 53):=by
  have h:=hpNew (w.alloc (K #[U Z fn,U Z a,U Z b,U Z co,U Z ob] 45)) (K #[U Z fn,U Z e,V none 0 0,U Z 0,U Z 0,.bool false,U Z 0,V none 0 0] 53);rw[World.size_alloc] at h;exact h
 go_enter Tryz.func209,Tryz.ntmps209;go_wp2;refine bodyPost_ret (results_cell_row rfl _ _ (w.heap.size+1) 53 _ (0,0) _ rfl d Tryz.underlying53 rfl info8) rfl ?_;exact⟨rfl,c⟩
theorem aW.no {w b c d:World} {fn e:Int} {f:Nat} (a:Below w.heap.size w b) (k:w.heap.size≤f) (g:Below b.heap.size b c) (i:Keeps (· =f) c d):aW w fn e [] (O (.agg (#[U Z fn,U Z e,(V none 0 0),U Z 0,U Z 0,.bool false,U Z 0,V none 0 0]))) d:=
 ⟨none,0,rfl,Nat.zero_le _,World.ownsRow_nil _ _ _ _,(bt a g (Nat.le_refl _)).trans (i.below (by have:=a.size;have:=g.size;omega) (fun j l e=>by omega))⟩
theorem nf (t:iP) (rv:Value) (fn d b x:Int) (h0:0≤d) (S:1≤b) (Y:d+b≤65536) (w:World) (N:dw w rv t.rd) (R:t.sup=true→aG (-1) t.rd=true) (e:Int)
  (he:(t.sup=false∧e=1)∨(t.sup=true∧t.al<b∧e=3)∨(t.sup=true∧¬t.al<b∧kG t.rd d b.toNat=false∧e=2)):
  Calls Tryz.prog 208 #[.agg #[.bool t.sup,rv,U Z t.al],.agg #[U Z fn,U Z d,U Z b,U Z 0,U Z 0],U Z x] w (aW w fn e []):=by
 obtain⟨p,rc,T,-⟩:=id N;obtain⟨o,Q⟩:=gE t.rd.length;rw[Q] at T;subst T;obtain⟨g,j⟩:∃W,((w.alloc (K #[.bool t.sup,V p o rc,U Z t.al] 65)).alloc (K #[U Z fn,U Z d,U Z b,U Z 0,U Z 0] 45)).alloc (K (#[U Z 0,U Z 0,(V none 0 0),U Z 0,U Z 0,.bool false,U Z 0,V none 0 0]) 53)=W:=⟨_,rfl⟩;have y:g.heap.size=w.heap.size+3:=(by rw[←j];simp);have k:Below w.heap.size w g:=(by rw[←j];exact bta (bta (bal' w _) (Nat.le_refl _) _) (Nat.le_refl _) _);have F:g.heap[w.heap.size]?=M (K #[.bool t.sup,V p o rc,U Z t.al] 65):=(by rw[←j];exact hpKeep (hpKeep (hpNew w _) (bal' _ _)) (bal' _ _));have q:g.heap[w.heap.size+1]?=M (K #[U Z fn,U Z d,U Z b,U Z 0,U Z 0] 45):=(by rw[←j];refine hpKeep ?_ (bal' _ _);simpa using hpNew (w.alloc (K #[.bool t.sup,V p o rc,U Z t.al] 65)) (K #[U Z fn,U Z d,U Z b,U Z 0,U Z 0] 45));have I:g.heap[w.heap.size+2]?=M (K (#[U Z 0,U Z 0,(V none 0 0),U Z 0,U Z 0,.bool false,U Z 0,V none 0 0]) 53):=(by rw[←j];simpa using hpNew ((w.alloc (K #[.bool t.sup,V p o rc,U Z t.al] 65)).alloc (K #[U Z fn,U Z d,U Z b,U Z 0,U Z 0] 45)) (K (#[U Z 0,U Z 0,(V none 0 0),U Z 0,U Z 0,.bool false,U Z 0,V none 0 0]) 53));obtain⟨i,D⟩:∃n,w.heap.size+2=n:=⟨_,rfl⟩;have P:Hid (w.heap.size+1+1=i):=D;rw[D] at I;have m:=hid D;have t0:=cF F 0 rfl;have t1:=cF F 1 rfl;have t2:=cF F 2 rfl;have q0:=cF q 0 rfl;have q1:=cF q 1 rfl;have q2:=cF q 2 rfl;have q3:=cF q 3 rfl;have q4:=cF q 4 rfl;have k0:Below g.heap.size g g:=Below.refl _ _;have E:Hid (t.sup=true→kG t.rd d b.toNat=false→∀X,Below g.heap.size g X→Calls Tryz.prog 222 #[V p o rc,.agg #[U Z d,U Z b]] X (aj X false)):=fun hs G X hX=>ld p o rc t.rd (R hs) d b h0 S Y X (N.ah (bt k hX (Nat.le_refl _))) false G
 have J:Hid (∀X,Calls Tryz.prog 209 #[.agg #[U Z fn,U Z d,U Z b,U Z 0,U Z 0],U Z e] X (jO X fn e)):=fun X=>iE fn d b 0 0 e X
 have c:=hid j;have l:=hid k;have ab:=hid y;have L:=hid I;clear j k y F q I N R h0 S Y Q D;rcases he with⟨hs,rfl⟩|⟨hs,hm,rfl⟩|⟨hs,hm,G,rfl⟩
 ·rw [hs] at c t0 ⊢
  clear E hs;have B:=L.out;go_enter Tryz.func208,Tryz.ntmps208;go_upto_region 1 with(fail)
  rw[c.out,P.out];go_wp2_with (first|(go_at_call 209;(with_reducible refine(J.out _).mono ?_);rintro r w3 ⟨rfl,a⟩;have z:=hpKeep B a)|(refine wpList_storeW rfl 53 (.tmp 6) (.tmp 15) rfl i 0 _ 53 (#[U Z fn,U Z 1,(V none 0 0),U Z 0,U Z 0,.bool false,U Z 0,V none 0 0]) rfl rfl z (by simp) info8 rfl ?_;intro A C f s));have v:A.heap[i]?=M (K (#[U Z fn,U Z 1,(V none 0 0),U Z 0,U Z 0,.bool false,U Z 0,V none 0 0]) 53):=C;refine bodyPost_ret (results_cell_row rfl _ _ i 53 _ (0,0) _ rfl v Tryz.underlying53 rfl info8) rfl ?_;exact aW.no l.out (by have:=m.out;omega) a f
 ·rw [hs] at c t0 ⊢
  clear E hs;have B:=L.out;go_enter Tryz.func208,Tryz.ntmps208;go_upto_region 1 with(fail)
  rw[c.out,P.out];go_wp2_with (first|(go_at_call 209;(with_reducible refine(J.out _).mono ?_);rintro r w3 ⟨rfl,a⟩;have z:=hpKeep B a)|(refine wpList_storeW rfl 53 (.tmp 6) (.tmp 23) rfl i 0 _ 53 (#[U Z fn,U Z 3,(V none 0 0),U Z 0,U Z 0,.bool false,U Z 0,V none 0 0]) rfl rfl z (by simp) info8 rfl ?_;intro A C f s));have v:A.heap[i]?=M (K (#[U Z fn,U Z 3,(V none 0 0),U Z 0,U Z 0,.bool false,U Z 0,V none 0 0]) 53):=C;refine bodyPost_ret (results_cell_row rfl _ _ i 53 _ (0,0) _ rfl v Tryz.underlying53 rfl info8) rfl ?_;exact aW.no l.out (by have:=m.out;omega) a f
 ·have O:=hid (E.out hs G)
  rw[hs] at c t0 ⊢;clear E hs G;go_enter Tryz.func208,Tryz.ntmps208;go_upto_region 1 with(fail)
  rw[c.out,P.out];go_upto_region 6 with(go_at_call 222;(with_reducible refine(O.out _ k0).mono ?_);rintro r w2 ⟨rfl,u⟩;have B:=hpKeep L.out u)
  go_wp2_with (first|(go_at_call 209;(with_reducible refine(J.out _).mono ?_);rintro r w3 ⟨rfl,a⟩;have z:=hpKeep B a)|(refine wpList_storeW rfl 53 (.tmp 6) (.tmp 35) rfl i 0 _ 53 (#[U Z fn,U Z 2,(V none 0 0),U Z 0,U Z 0,.bool false,U Z 0,V none 0 0]) rfl rfl z (by simp) info8 rfl ?_;intro A C f s));have v:A.heap[i]?=M (K (#[U Z fn,U Z 2,(V none 0 0),U Z 0,U Z 0,.bool false,U Z 0,V none 0 0]) 53):=C;refine bodyPost_ret (results_cell_row rfl _ _ i 53 _ (0,0) _ rfl v Tryz.underlying53 rfl info8) rfl ?_;exact aW.no l.out (by have:=m.out;omega) (bt u a (Nat.le_refl _)) f
theorem NT {p:Prop} (h:p:=by
 ·obtain rfl:k=N:=by omega
  have dk:¬(k:Int)<qt:=by omega
  clear hN1
  obtain⟨C,hC⟩:∃C:Array Value,(#[.int .i64 fn,.int .i64 0,(.slice da D.length dc),.int .i64 0,.int .i64 0,.bool false,.int .i64 0,.slice none 0 0]:Array Value)=C:=⟨_,rfl⟩
  have hcs:C.size=8:=by rw[←hC];rfl
  have hi8:(Tryz.prog.info? 53).map (·.size)=some C.size:=by rw[hcs];exact info8
  have h1c:C.toList.all (·.oneCell')=true:=by rw[←hC];rfl
  have pR2:=hst.out.r
  have pZ2:=hst.out.z
  rw[hC] at pR2
  have HC:=hid hC
  have HD:Hid (D.length≤250):=by show _≤_;have:=hD.out;omega
  clear hC
  go_wp2_with (first
   |(refine wpList_load_row rfl 53 (.tmp 7) rfl rb rfl 53 C (0,0) _ pR2 Tryz.underlying53 rfl hi8 ?_)
   |(refine wpList_storeW rfl 53 (.tmp 6) (.tmp 89) rfl zb 0 _ 53 C rfl rfl pZ2 (by simp [hcs]) hi8 h1c ?_;intro w8 g8 hk8 hz8))
  have g9:w8.heap[zb]?=some (.cells C 53):=by
   rw[g8,List.drop_eq_nil_of_le (by simp [hcs])]
   simp
  refine bodyPost_ret (results_cell_row rfl _ _ zb 53 C (0,0) _ rfl g9 Tryz.underlying53 rfl hi8) rfl ?_
  have hz1:=HZ1.out
  have hez:=EZB.out
  have her:=HRL.out
  have hb13:=HB13.out.size
  rw[←hDD.out]
  refine⟨da,dc,by rw[←HC.out],HD.out,?_,?_⟩
  ·exact own_lower (own_keeps hst.out.own hk8 (fun j hj e=>by have:=(hst.out.own.lt j hj).1;omega)) (by omega)
  ·exact ((bt HB1.out HB13.out (Nat.le_refl _)).trans (hst.out.kp.below (by omega) (fun j hj e=>by omega))).trans (hk8.below (by have:=hst.out.kp.size;omega) (fun j hj e=>by omega))):p:=h
theorem xO (t:iP) (rv:Value) (fn a qt x:Int) (hf:fn=3∨fn=4) (h0:0≤a) (h1:1≤qt) (hq:qt≤125) (h2:a+qt≤65536) (x0:0≤x) (x1:x≤65535) (w:World) (hl:dw w rv t.rd) (cg:aG (-1) t.rd=true)
  (hs:t.sup=true) (hm:¬t.al<qt) (ha:kG t.rd a qt.toNat=true):
  Calls Tryz.prog 208 #[.agg #[.bool t.sup,rv,U Z t.al],.agg #[U Z fn,U Z a,U Z qt,U Z 0,U Z 0],U Z x] w (aW w fn 0 (iJ fn a x qt.toNat)):=by
 obtain⟨v,rc,kg,-⟩:=id hl;obtain⟨y,dN⟩:=gE t.rd.length;rw[dN] at kg;subst kg;obtain⟨b,o⟩:∃W,((w.alloc (K #[.bool t.sup,V v y rc,U Z t.al] 65)).alloc (K #[U Z fn,U Z a,U Z qt,U Z 0,U Z 0] 45)).alloc (K (#[U Z 0,U Z 0,(V none 0 0),U Z 0,U Z 0,.bool false,U Z 0,V none 0 0]) 53)=W:=⟨_,rfl⟩;have hz1:b.heap.size=w.heap.size+3:=(by rw[←o];simp);have q:Below w.heap.size w b:=(by rw[←o];exact bta (bta (bal' w _) (Nat.le_refl _) _) (Nat.le_refl _) _);have pT:b.heap[w.heap.size]?=M (K #[.bool t.sup,V v y rc,U Z t.al] 65):=(by rw[←o];exact hpKeep (hpKeep (hpNew w _) (bal' _ _)) (bal' _ _));have m:b.heap[w.heap.size+1]?=M (K #[U Z fn,U Z a,U Z qt,U Z 0,U Z 0] 45):=(by rw[←o];refine hpKeep ?_ (bal' _ _);simpa using hpNew (w.alloc (K #[.bool t.sup,V v y rc,U Z t.al] 65)) (K #[U Z fn,U Z a,U Z qt,U Z 0,U Z 0] 45));have pZ:b.heap[w.heap.size+2]?=M (K (#[U Z 0,U Z 0,(V none 0 0),U Z 0,U Z 0,.bool false,U Z 0,V none 0 0]) 53):=(by rw[←o];simpa using hpNew ((w.alloc (K #[.bool t.sup,V v y rc,U Z t.al] 65)).alloc (K #[U Z fn,U Z a,U Z qt,U Z 0,U Z 0] 45)) (K (#[U Z 0,U Z 0,(V none 0 0),U Z 0,U Z 0,.bool false,U Z 0,V none 0 0]) 53));obtain⟨zb,L⟩:∃n,w.heap.size+2=n:=⟨_,rfl⟩;have E2:Hid (w.heap.size+1+1=zb):=L;rw[L] at pZ;have EZB:=hid L;have t0:=cF pT 0 rfl;have t1:=cF pT 1 rfl;have t2:=cF pT 2 rfl;have B:=cF m 0 rfl;have I:=cF m 1 rfl;have Y:=cF m 2 rfl;have q3:=cF m 3 rfl;have q4:=cF m 4 rfl;have k0:Below b.heap.size b b:=Below.refl _ _;have AV:Hid (Calls Tryz.prog 222 #[V v y rc,.agg #[U Z a,U Z qt]] b (aj b true)):=ld v y rc t.rd cg a qt h0 h1 h2 b (hl.ah q) true ha;have Oj:Hid (∀(k:Nat) X,(k:Int)<qt→Calls Tryz.prog 223 #[U Z fn,U Z (a+(k:Nat)),U Z x] X fun r w'=>∃n:Int,r=O (U Z n)∧Hid (n=eo fn (a+(k:Nat)) x)∧0≤n∧n<65536∧X=w'):=fun k X hk=>sJ fn (a+(k:Nat)) x (by omega) (by omega) (by omega) (by omega) x0 x1 X
 have av:Hid (∀X,Calls Tryz.prog 155 #[U Z fn] X fun r w'=>r=O (U Z 125)∧X=w'):=fun X=>by
  have:=gJ fn X;have e:cN fn=125:=by unfold cN;rw[if_neg (by omega),if_pos (by omega)]
  rw[e] at this;exact this
 have z:=hid o;have HB1:=hid q;have HZ1:=hid hz1;have PZ:=hid pZ;have PQ:=hid m;have GX:=hid (And.intro h0 h2);obtain⟨N,hN⟩:=gE qt.toNat;rw[hN];have HN:Hid (qt=(N:Nat)∧N≤125):=by show _∧_;omega
 rw[hs] at z t0 ⊢;clear o q hz1 pT m pZ hl cg h0 h1 h2 dN L hs ha hf x0 x1 hN hq;obtain⟨i5,hi,aX,DJ,ao⟩:=info_parts fS;go_enter Tryz.func208,Tryz.ntmps208;go_upto_region 1 with(fail)
 rw[z.out,E2.out];go_upto_region 7 with(go_at_call 222;(with_reducible refine AV.out.mono ?_);rintro r E ⟨rfl,d⟩)
 obtain⟨c,g⟩:∃W,E.alloc (K (#[U Z fn,U Z 0,(V none 0 0),U Z 0,U Z 0,.bool false,U Z 0,V none 0 0]) 53)=W:=⟨_,rfl⟩
 have l:Below E.heap.size E c:=by rw[←g];exact bal' _ _
 obtain⟨rb,s⟩:=gE E.heap.size;have Pp:c.heap[rb]?=M (K (#[U Z fn,U Z 0,(V none 0 0),U Z 0,U Z 0,.bool false,U Z 0,V none 0 0]) 53):=by rw[←g,←s];exact hpNew _ _
 have S0:Hid (rI c rb zb fn [] (V none 0 0) c):=⟨Pp,hpKeep (hpKeep PZ.out d) l,World.ownsRow_nil _ _ _ _,Keeps.refl _ _⟩
 have HB13:Hid (Below b.heap.size b c):=bt d l (Nat.le_refl _);have HRL:Hid (rb<c.heap.size∧zb<rb∧b.heap.size≤rb):=⟨hpLt Pp,by have:=d.size;have:=HZ1.out;have:=EZB.out;omega,by have:=d.size;omega⟩
 have qY:=hid s;have C4:=hid g;have Q0:Hid (∀X,Keeps (fun j=>j=rb) c X→X.cell? ⟨w.heap.size+1,0,J⟩=M (U Z fn)∧X.cell? ⟨w.heap.size+1,1,J⟩=M (U Z a)∧X.cell? ⟨w.heap.size+1,2,J⟩=M (U Z qt)):=fun X hX=>by
  have:=hpKeeps (hpKeep PQ.out HB13.out) hX (by have:=HRL.out;have:=EZB.out;omega);exact⟨hpCell this 0,hpCell this 1,hpCell this 2⟩
 have Lg:=B E d;clear g l Pp s t0 t1 t2 B I Y q3 q4 k0;go_upto_region 8 with(fail)
 rw[C4.out,qY.out];obtain⟨B,I,Y⟩:=Q0.out c (Keeps.refl _ _);clear Lg;go_wp2_with fail;clear B I Y;go_loopw [41] (fun iv wr=>∃(k:Nat) (D:List UInt8) (da:Option Addr) (dc:Nat),iv=U Z (k:Int)∧k≤N∧Hid (D=iJ fn a x k)∧Hid (D.length=2*k)∧Hid (rI c rb zb fn D (V da D.length dc) wr)) (fun iv _=>N- (intOf iv).toNat)
 case atStart=>exact⟨0,[],none,0,rfl,Nat.zero_le _,rfl,rfl,S0.out⟩
 case round=>
  obtain⟨k,D,da,dc,rfl,hk,hDD,hD,hst⟩:=hrel;have aY:(0:Int)≤(k:Int):=Int.natCast_nonneg _;have hN1:=HN.out.1;have Zl:=HN.out.2;obtain⟨B,I,Y⟩:=Q0.out wr hst.out.kp;by_cases a3:k<N
  ·have dk:(k:Int)<qt:=by omega
   obtain⟨A,Q⟩:∃A,a+(k:Int)=A:=⟨_,rfl⟩
   have sA:IntKind.i64.wrap (a+(k:Int))=A:=(IntWalk.i64_in _ (by have:=GX.out;omega)).trans Q;have jy:=Oj.out k wr dk;rw[Q] at jy;have jy:=hid jy;have Np:=hid Q;clear Q hN1;go_upto_region 13 with(first
    |(go_at_call 223;(with_reducible refine jy.out.mono ?_);rintro r w5 ⟨n,rfl,KT,n0,n1,rfl⟩)
    |(go_at_call 155;(with_reducible refine(av.out _).mono ?_);rintro r w5 ⟨rfl,rfl⟩))
   obtain⟨ln,dK⟩:=gE D.length;have r2:wr.cell? ⟨rb,2,J⟩=M (V da ln dc):=by have:=hpCell hst.out.r 2;rw[dK] at this;exact this
   have rL:Hid (byteI (n/256)=UInt8.ofNat (n.toNat/256)∧byteI (n%256)=UInt8.ofNat (n.toNat%256)):=by
    refine⟨?_,?_⟩
    ·unfold byteI;congr 1;omega
    ·unfold byteI;congr 1;omega
   have BG:Hid (D++[byteI (n/256),byteI (n%256)]=iJ fn a x (k+1)):=by show _=_;have e:=KT.out;rw[←Np.out] at e;rw[hDD.out,rL.out.1,rL.out.2,e];rfl
   have OW:Hid (wr.ownsRow c.heap.size 5 1 (V da ln dc) ln (u8s D)):=by have:=hst.out.own;rw[dK] at this;exact this
   have a2:=hst.out.kp.size;have G:=hid dK;have J9:ln≤250:=by have:=hD.out;omega
   have ab:Hid (ln=2*k):=by show _=_;have:=hD.out;omega
   have HU:Hid (u8s (D++[byteI (n/256),byteI (n%256)])=u8s D++[U .u8 (n/256),U .u8 (n%256)]):=by
    show _=_;rw[dF];have e1:((byteI (n/256)).toNat:Int)=n/256:=au (by omega) (by omega);have e2:((byteI (n%256)).toNat:Int)=n%256:=au (by omega) (by omega);show u8s D++[bD (byteI (n/256)),bD (byteI (n%256))]=_;unfold bD;rw[e1,e2]
   clear dK;go_wp2_with (at_builtin;refine aL rfl _ _ 50 rfl c.heap.size 5 i5 _ 1 1 Tryz.underlying50 hi aX DJ ao rfl (by decide) (V da ln dc) ln (u8s D) rfl (OW.out.alloc _) ⟨wr.heap.size,0,J⟩ 2 2 [U .u8 (n/256),U .u8 (n%256)] rfl rfl (dP wr [U .u8 (n/256),U .u8 (n%256)] _) (by intro u hu;simp at hu;rcases hu with rfl|rfl<;>rfl) (by unfold maxLen;omega) (by omega) (by simp;omega) ?c3)
   case c3=>
    intro v6 S f i eX;have R:S.ownsRow c.heap.size 5 1 v6 (ln+2) (u8s (D++[byteI (n/256),byteI (n%256)])):=by rw[HU.out];exact f
    have jX:Keeps (fun j=>(Value.slice da ln dc).ownBlock=M j) wr S:=(Keeps.af (bal' wr _)).trans (Keeps.bJ i (fun _ hk=>hk)) (fun _ _ e=>e);have T:∀j,(Value.slice da ln dc).ownBlock=M j→c.heap.size≤j:=fun j hj=>(OW.out.lt j hj).1
    have P:=hpKeeps hst.out.r jX (fun e=>by have:=T _ e;have:=HRL.out.1;omega);have N9:=hpKeeps hst.out.z jX (fun e=>by have:=T _ e;have:=HRL.out;omega);have c6:S.cell? ⟨rb,2,J⟩=M (V da ln dc):=by have:=hpCell P 2;rw[G.out] at this;exact this
    have f6:=hpFree P 2;obtain⟨a6,k6,rfl⟩:=own_slice R;have vZ:∀j,(Value.slice a6 (ln+2) k6).ownBlock=M j→j≠rb:=fun j hj e=>by
     have:=(R.lt j hj).1;have:=HRL.out.1;omega
    have we:Hid ((D++[byteI (n/256),byteI (n%256)]).length=ln+2):=by show _=_;rw[List.length_append,G.out];rfl
    have jC:Hid (rI c rb zb fn (D++[byteI (n/256),byteI (n%256)]) (V a6 (ln+2) k6) (S.setCell ⟨rb,2,J⟩ (V a6 (ln+2) k6))):=by
     refine⟨cS P rfl,(hpOther (fun e=>by have:=HRL.out;omega)).trans N9,?_,?_⟩
     ·rw [we.out]
      exact own_keeps (F:=(· =rb)) R (ks1 (Keeps.refl _ _) _ _) (fun j hj e=>vZ j hj e)
     ·exact (hst.out.kp.trans jX (fun j hj e=>by have:=T j e;omega)).set _ _ rfl
    clear f R i eX jX T P N9 vZ;go_wp2;go_roundw
    case rel=>exact⟨k+1,D++[byteI (n/256),byteI (n%256)],a6,k6,by go_num,by omega,BG.out,by show _=_;rw[we.out,ab.out];omega,by rw[we.out];exact jC.out⟩
    case measure=>simp [intOf];omega
  exact NT
theorem rI.drew {a:World} {c b:Nat} {fn:Int} {D:List UInt8} {v:Value} {W:World} (h:rI a c b fn D v W):rI a c b fn D v W.drew:=
 ⟨hpKeep h.r (Below.refl _ _).drew,hpKeep h.z (Below.refl _ _).drew,own_keeps (F:=fun _=>False) h.own (Keeps.af (Below.refl _ _).drew) (fun _ _ e=>e),h.kp.trans (Keeps.af (F:=fun _=>False) (Below.refl _ _).drew) (fun _ _ e=>e.elim)⟩
theorem yO (t:iP) (rv:Value) (fn a qt x:Int) (hf:fn=1∨fn=2) (h0:0≤a) (z:1≤qt) (hq:qt≤2000) (h2:a+qt≤65536) (x0:0≤x) (x1:x≤65535) (w:World) (hl:dw w rv t.rd) (cg:aG (-1) t.rd=true)
  (hs:t.sup=true) (hm:¬t.al<qt) (ha:kG t.rd a qt.toNat=true):
  Calls Tryz.prog 208 #[.agg #[.bool t.sup,rv,U Z t.al],.agg #[U Z fn,U Z a,U Z qt,U Z 0,U Z 0],U Z x] w (aW w fn 0 (bL fn a x ((qt.toNat+7)/8) qt.toNat)):=by
 obtain⟨R,rc,kg,-⟩:=id hl;obtain⟨S,dN⟩:=gE t.rd.length;rw[dN] at kg;subst kg;obtain⟨d,L⟩:∃W,((w.alloc (K #[.bool t.sup,V R S rc,U Z t.al] 65)).alloc (K #[U Z fn,U Z a,U Z qt,U Z 0,U Z 0] 45)).alloc (K (#[U Z 0,U Z 0,(V none 0 0),U Z 0,U Z 0,.bool false,U Z 0,V none 0 0]) 53)=W:=⟨_,rfl⟩;have hz1:d.heap.size=w.heap.size+3:=(by rw[←L];simp);have P:Below w.heap.size w d:=(by rw[←L];exact bta (bta (bal' w _) (Nat.le_refl _) _) (Nat.le_refl _) _);have pT:d.heap[w.heap.size]?=M (K #[.bool t.sup,V R S rc,U Z t.al] 65):=(by rw[←L];exact hpKeep (hpKeep (hpNew w _) (bal' _ _)) (bal' _ _));have I:d.heap[w.heap.size+1]?=M (K #[U Z fn,U Z a,U Z qt,U Z 0,U Z 0] 45):=(by rw[←L];refine hpKeep ?_ (bal' _ _);simpa using hpNew (w.alloc (K #[.bool t.sup,V R S rc,U Z t.al] 65)) (K #[U Z fn,U Z a,U Z qt,U Z 0,U Z 0] 45));have pZ:d.heap[w.heap.size+2]?=M (K (#[U Z 0,U Z 0,(V none 0 0),U Z 0,U Z 0,.bool false,U Z 0,V none 0 0]) 53):=(by rw[←L];simpa using hpNew ((w.alloc (K #[.bool t.sup,V R S rc,U Z t.al] 65)).alloc (K #[U Z fn,U Z a,U Z qt,U Z 0,U Z 0] 45)) (K (#[U Z 0,U Z 0,(V none 0 0),U Z 0,U Z 0,.bool false,U Z 0,V none 0 0]) 53));obtain⟨zb,cV⟩:∃n,w.heap.size+2=n:=⟨_,rfl⟩;have E2:Hid (w.heap.size+1+1=zb):=cV;rw[cV] at pZ;have EZB:=hid cV;have t0:=cF pT 0 rfl;have t1:=cF pT 1 rfl;have t2:=cF pT 2 rfl;have q0:=cF I 0 rfl;have q1:=cF I 1 rfl;have q2:=cF I 2 rfl;have q3:=cF I 3 rfl;have q4:=cF I 4 rfl;have k0:Below d.heap.size d d:=Below.refl _ _;have AV:Hid (Calls Tryz.prog 222 #[V R S rc,.agg #[U Z a,U Z qt]] d (aj d true)):=ld R S rc t.rd cg a qt h0 z h2 d (hl.ah P) true ha;have Oj:Hid (∀(k:Nat) X,(k:Int)<qt→Calls Tryz.prog 223 #[U Z fn,U Z (a+(k:Nat)),U Z x] X fun r w'=>∃n:Int,r=O (U Z n)∧Hid (n=eo fn (a+(k:Nat)) x)∧0≤n∧n<65536∧X=w'):=fun k X hk=>sJ fn (a+(k:Nat)) x (by omega) (by omega) (by omega) (by omega) x0 x1 X
 have ab:Hid (∀X,Calls Tryz.prog 155 #[U Z fn] X fun r w'=>r=O (U Z 2000)∧X=w'):=fun X=>by
  have:=gJ fn X;have e:cN fn=2000:=by unfold cN;rw[if_pos (by omega)]
  rw[e] at this;exact this
 have ao:=hid L;have HB1:=hid P;have HZ1:=hid hz1;have PZ:=hid pZ;have PQ:=hid I;have GX:=hid (And.intro h0 h2);obtain⟨N,hN⟩:=gE qt.toNat;rw[hN];have HN:Hid (qt=(N:Nat)∧N≤2000):=by show _∧_;omega
 rw[hs] at ao t0 ⊢;clear L P hz1 pT I pZ hl cg h0 z h2 dN cV hs ha hf x0 x1 hN hq;obtain⟨i5,hi,aY,DJ,av⟩:=info_parts fS;go_enter Tryz.func208,Tryz.ntmps208;go_upto_region 1 with(fail)
 rw[ao.out,E2.out];go_upto_region 7 with(go_at_call 222;(with_reducible refine AV.out.mono ?_);rintro r w2 ⟨rfl,f⟩)
 obtain⟨b,s⟩:∃W,w2.alloc (K (#[U Z fn,U Z 0,(V none 0 0),U Z 0,U Z 0,.bool false,U Z 0,V none 0 0]) 53)=W:=⟨_,rfl⟩
 have E:Below w2.heap.size w2 b:=by rw[←s];exact bal' _ _
 obtain⟨rb,B⟩:=gE w2.heap.size;have Pp:b.heap[rb]?=M (K (#[U Z fn,U Z 0,(V none 0 0),U Z 0,U Z 0,.bool false,U Z 0,V none 0 0]) 53):=by rw[←s,←B];exact hpNew _ _
 have S0:Hid (rI b rb zb fn [] (V none 0 0) b):=⟨Pp,hpKeep (hpKeep PZ.out f) E,World.ownsRow_nil _ _ _ _,Keeps.refl _ _⟩
 have HB13:Hid (Below d.heap.size d b):=bt f E (Nat.le_refl _);have HRL:Hid (rb<b.heap.size∧zb<rb∧d.heap.size≤rb):=⟨hpLt Pp,by have:=f.size;have:=HZ1.out;have:=EZB.out;omega,by have:=f.size;omega⟩
 have qY:=hid B;have C4:=hid s;have Q0:Hid (∀X,Keeps (fun j=>j=rb) b X→X.cell? ⟨w.heap.size+1,0,J⟩=M (U Z fn)∧X.cell? ⟨w.heap.size+1,1,J⟩=M (U Z a)∧X.cell? ⟨w.heap.size+1,2,J⟩=M (U Z qt)):=fun X hX=>by
  have:=hpKeeps (hpKeep PQ.out HB13.out) hX (by have:=HRL.out;have:=EZB.out;omega);exact⟨hpCell this 0,hpCell this 1,hpCell this 2⟩
 have Lg:=q0 w2 f;clear s E Pp B t0 t1 t2 q0 q1 q2 q3 q4 k0;go_upto_region 8 with(fail)
 rw[C4.out,qY.out];obtain⟨q0,q1,q2⟩:=Q0.out b (Keeps.refl _ _);clear Lg;go_wp2_with fail;clear q0 q1 q2;go_loopw [41] (fun iv wr=>∃(k:Nat) (D:List UInt8) (da:Option Addr) (dc:Nat),iv=U Z (k:Int)∧k≤N∧Hid (D=bL fn a x ((k+7)/8) k)∧Hid (D.length=(k+7)/8)∧Hid (rI b rb zb fn D (V da D.length dc) wr)) (fun iv _=>N- (intOf iv).toNat)
 case atStart=>exact⟨0,[],none,0,rfl,Nat.zero_le _,(oT fn a x 0).symm,rfl,S0.out⟩
 case round=>
  obtain⟨k,D,da,dc,rfl,hk,hDD,hD,hst⟩:=hrel;have a2:(0:Int)≤(k:Int):=Int.natCast_nonneg _;have hN1:=HN.out.1;have Zl:=HN.out.2;obtain⟨q0,q1,q2⟩:=Q0.out wr hst.out.kp;by_cases a4:k<N
  ·have dk:(k:Int)<qt:=by omega
   obtain⟨A,hA⟩:∃A,a+(k:Int)=A:=⟨_,rfl⟩
   have sA:IntKind.i64.wrap (a+(k:Int))=A:=(IntWalk.i64_in _ (by have:=GX.out;omega)).trans hA;have jy:=Oj.out k wr dk;rw[hA] at jy;have jy:=hid jy;have Np:=hid hA;clear hA hN1;obtain⟨ln,dK⟩:=gE D.length;have r2:wr.cell? ⟨rb,2,J⟩=M (V da ln dc):=by have:=hpCell hst.out.r 2;rw[dK] at this;exact this
   have OW:Hid (wr.ownsRow b.heap.size 5 1 (V da ln dc) ln (u8s D)):=by have:=hst.out.own;rw[dK] at this;exact this
   have a3:=hst.out.kp.size;have q:=hid dK;have i:Hid (ln=(k+7)/8):=by show _=_;have:=hD.out;omega
   have J9:ln≤250:=by have:=i.out;omega
   clear dK;by_cases h8:k%8=0
   ·have d8:((k:Int)%8==0)=true:=b1 (by omega)
    have aX:Hid (bL fn a x ((k+7)/8) k++[0]=bL fn a x ((k+7)/8+1) k):=Ai (by omega);have H8:=hid h8;have HU:Hid (u8s (D++[0])=u8s D++[U .u8 0]):=by show _=_;rw[dF];rfl
    clear h8;go_upto_region 15 with(first
     |(go_at_call 223;(with_reducible refine jy.out.mono ?_);rintro r w5 ⟨n,rfl,KT,n0,n1,rfl⟩)
     |(go_at_call 155;(with_reducible refine(ab.out _).mono ?_);rintro r w5 ⟨rfl,rfl⟩))
    go_wp2_with (at_builtin;refine aL rfl _ _ 50 rfl b.heap.size 5 i5 _ 1 1 Tryz.underlying50 hi aY DJ av rfl (by decide) (V da ln dc) ln (u8s D) rfl (OW.out.alloc _) ⟨wr.heap.size,0,J⟩ 1 1 [U .u8 0] rfl rfl (dP wr [U .u8 0] _) (by intro u hu;simp at hu;subst hu;rfl) (by unfold maxLen;omega) (by omega) (by simp;omega) ?c3)
    case c3=>
     intro v6 w6 o y eX;have dR:w6.ownsRow b.heap.size 5 1 v6 (ln+1) (u8s (D++[0])):=by rw[HU.out];exact o
     have jX:Keeps (fun j=>(Value.slice da ln dc).ownBlock=M j) wr w6:=(Keeps.af (bal' wr _)).trans (Keeps.bJ y (fun _ hk=>hk)) (fun _ _ e=>e);have ru:∀j,(Value.slice da ln dc).ownBlock=M j→b.heap.size≤j:=fun j hj=>(OW.out.lt j hj).1
     have Ay:=hpKeeps hst.out.r jX (fun e=>by have:=ru _ e;have:=HRL.out.1;omega);have N9:=hpKeeps hst.out.z jX (fun e=>by have:=ru _ e;have:=HRL.out;omega);have c6:w6.cell? ⟨rb,2,J⟩=M (V da ln dc):=by have:=hpCell Ay 2;rw[q.out] at this;exact this
     have f6:=hpFree Ay 2;obtain⟨a6,Q,rfl⟩:=own_slice dR;have vZ:∀j,(Value.slice a6 (ln+1) Q).ownBlock=M j→j≠rb:=fun j hj e=>by
      have:=(dR.lt j hj).1;have:=HRL.out.1;omega
     have m:Hid (rI b rb zb fn (D++[0]) (V a6 (ln+1) Q) (w6.setCell ⟨rb,2,J⟩ (V a6 (ln+1) Q))):=by
      refine⟨cS Ay rfl,(hpOther (fun e=>by have:=HRL.out;omega)).trans N9,?_,?_⟩
      ·have e:(D++[0]).length=ln+1:=by rw[List.length_append,q.out];rfl
       rw[e];exact own_keeps (F:=(· =rb)) dR (ks1 (Keeps.refl _ _) _ _) (fun j hj e=>vZ j hj e)
      ·exact (hst.out.kp.trans jX (fun j hj e=>by have:=ru j e;omega)).set _ _ rfl
     have Hc:Hid (D++[0]=bL fn a x (ln+1) k):=by show _=_;rw[hDD.out,aX.out,i.out]
     have v:Hid ((D++[0]).length=ln+1):=by show _=_;rw[List.length_append,q.out];rfl
     have c:Hid (k/8<ln+1∧(k+1+7)/8=ln+1):=by show _∧_;have:=i.out;have:=H8.out;omega
     clear o dR y eX jX ru Ay N9 vZ;go_upto_region 16 with(fail)
     generalize w6.setCell ⟨rb,2,J⟩ (V a6 (ln+1) Q)=w7 at*;clear c6 f6 r2;have l:=m.out.own;rw[v.out] at l;have T:=hpCell m.out.r 2;obtain⟨g,cap,kz,hg,dM,cj⟩:=cK l (by have:=c.out;omega);simp only[Value.slice.injEq,true_and] at kz;obtain⟨rfl,rfl⟩:=kz;have T:w7.cell? ⟨rb,2,J⟩=M (V (M ⟨g,0,J⟩) (ln+1) Q):=T;have cz:=ey l (k/8) c.out.1;have N4:=l.frozenAt (k/8);have tD:=c.out.1;obtain⟨Y,G⟩:∃Y,UInt8.ofNat (iB fn a x (k/8) (k%8)+iQ fn a x k*2^(k%8))=Y:=⟨_,rfl⟩;have EV:Hid (Value.int .u8 (bits .or .u8 ((((D++[0])[k/8]?.getD 0).toNat:Nat):Int) (bits .and .i64 n 1%256*2^(k%8)%256))=bD Y):=(by show _=_;rw[Hc.out,←G];exact Bf c.out.1 (by rw[Np.out];exact KT.out));have BG:Hid ((D++[0]).set (k/8) Y=bL fn a x ((k+1+7)/8) (k+1)):=(by show _=_;rw[c.out.2,Hc.out,←G];exact jH c.out.1);have Qg:Hid (((D++[0]).set (k/8) Y).length=(k+1+7)/8):=(by show _=_;rw[List.length_set,c.out.2];exact v.out);have Qi:Hid (rI b rb zb fn ((D++[0]).set (k/8) Y) (V (M ⟨g,0,J⟩) (ln+1) Q) (w7.setCell ⟨g,k/8,J⟩ (bD Y))):=(by have z:=(l.stored (k/8) (bD Y)).1;rw[gH] at z;refine⟨(hpOther (by have:=HRL.out;omega)).trans m.out.r,(hpOther (by have:=HRL.out;omega)).trans m.out.z,?_,Keeps.zx m.out.kp ⟨g,k/8,J⟩ _ hg⟩;rw[List.length_set,v.out];exact z);clear G dM cj;go_region;go_wp2;go_roundw;(case rel=>exact⟨k+1,(D++[0]).set (k/8) Y,_,Q,by go_num,by omega,BG,Qg,by rw[EV.out,List.length_set,v.out];exact rI.drew Qi.out⟩);(case measure=>simp [intOf];omega)
   ·have d8:((k:Int)%8==0)=false:=b0 (by omega)
    have m:Hid (rI b rb zb fn D (V da ln dc) wr):=by have:=hst.out;rw[q.out] at this;exact this
    have Hc:Hid (D=bL fn a x ln k):=by show _=_;rw[i.out];exact hDD.out
    have v:Hid (D.length=ln):=q.out;have c:Hid (k/8<ln∧(k+1+7)/8=ln):=by show _∧_;have:=i.out;omega
    go_upto_region 16 with(first
     |(go_at_call 223;(with_reducible refine jy.out.mono ?_);rintro r w5 ⟨n,rfl,KT,n0,n1,rfl⟩)
     |(go_at_call 155;(with_reducible refine(ab.out _).mono ?_);rintro r w5 ⟨rfl,rfl⟩))
    clear r2;have l:=m.out.own;rw[v.out] at l;have T:=hpCell m.out.r 2;obtain⟨g,cap,kz,hg,dM,cj⟩:=cK l (by have:=c.out;omega);simp only[Value.slice.injEq,true_and] at kz;obtain⟨rfl,rfl⟩:=kz;have T:wr.cell? ⟨rb,2,J⟩=M (V (M ⟨g,0,J⟩) (ln) dc):=T;have cz:=ey l (k/8) c.out.1;have N4:=l.frozenAt (k/8);have tD:=c.out.1;obtain⟨Y,G⟩:∃Y,UInt8.ofNat (iB fn a x (k/8) (k%8)+iQ fn a x k*2^(k%8))=Y:=⟨_,rfl⟩;have EV:Hid (Value.int .u8 (bits .or .u8 ((((D)[k/8]?.getD 0).toNat:Nat):Int) (bits .and .i64 n 1%256*2^(k%8)%256))=bD Y):=(by show _=_;rw[Hc.out,←G];exact Bf c.out.1 (by rw[Np.out];exact KT.out));have BG:Hid ((D).set (k/8) Y=bL fn a x ((k+1+7)/8) (k+1)):=(by show _=_;rw[c.out.2,Hc.out,←G];exact jH c.out.1);have Qg:Hid (((D).set (k/8) Y).length=(k+1+7)/8):=(by show _=_;rw[List.length_set,c.out.2];exact v.out);have Qi:Hid (rI b rb zb fn ((D).set (k/8) Y) (V (M ⟨g,0,J⟩) (ln) dc) (wr.setCell ⟨g,k/8,J⟩ (bD Y))):=(by have z:=(l.stored (k/8) (bD Y)).1;rw[gH] at z;refine⟨(hpOther (by have:=HRL.out;omega)).trans m.out.r,(hpOther (by have:=HRL.out;omega)).trans m.out.z,?_,Keeps.zx m.out.kp ⟨g,k/8,J⟩ _ hg⟩;rw[List.length_set,v.out];exact z);clear G dM cj;go_region;go_wp2;go_roundw;(case rel=>exact⟨k+1,(D).set (k/8) Y,_,dc,by go_num,by omega,BG,Qg,by rw[EV.out,List.length_set,v.out];exact rI.drew Qi.out⟩);(case measure=>simp [intOf];omega)
  exact NT
