import Derived.Test.YtoaoejaodhedaaaGreatT11
namespace Go.Proofs.YtoaoejaodhedaaaGreat
open Go.RowKit
open Value renaming slice→J,int→U
open Option renaming none→M,some→N
open IntKind renaming i64→Z
open Obj renaming cells→K
open Ending renaming returned→O
set_option maxHeartbeats 3200000
set_option maxRecDepth 100000
variable {b l:List UInt8} {c n:Nat} {w:World}
theorem fK (c:Nat) (l:List UInt8) (x:UInt8):aV c (l++[x])=dS (aV c l) x.toNat:=by simp [aV]
theorem xS (k y:Nat):aE k (2^k*y)=y:=by
 induction k generalizing y with
 |zero=>simp [aE]
 |succ k ih=>
  rw[aE,show 2^(k+1)*y=2^k*(2*y) by rw[Nat.pow_succ,Nat.mul_assoc],ih,sk]
theorem Zv (s x y:Nat):dS (dS s x) y=aE 16 (s^^^x^^^256*y):=by
 have h:=xS 8 y;have a:aE 8 (s^^^x)^^^y=aE 8 (s^^^x^^^256*y):=by
  rw[Df 8 (s^^^x)];rw[show (256:Nat)=2^8 from rfl,h]
 unfold dS;rw[a,←Cj]
theorem yL (x y:Nat) (d:x<256):x^^^256*y=x+256*y:=by
 apply Nat.eq_of_testBit_eq;intro i;rw[Nat.testBit_xor,show x+256*y=2^8*y+x by omega,Nat.testBit_two_pow_mul_add y (show x<2^8 by omega)];rw[show (256:Nat)=2^8 from rfl,Nat.testBit_two_pow_mul];by_cases h:i<8
 ·rw [if_pos h]
  have:¬(8≤i):=by omega
  simp [this]
 ·rw [if_neg h]
  have a:x.testBit i=false:=Nat.testBit_lt_two_pow (Nat.lt_of_lt_of_le (show x<2^8 by omega) (Nat.pow_le_pow_right (by decide) (by omega)));have:8≤i:=by omega
  simp [a,this]
theorem lO (a b:Nat):a^^^b=0↔a=b:=by
 constructor
 ·intro h
  have:=congrArg (· ^^^b) h;simpa [Nat.xor_assoc] using this
 ·rintro rfl;exact Nat.xor_self a
theorem rQ (s x y:Nat) (hs:s<65536) (f:x<256) (i:y<256):dS (dS s x) y=0↔x=s%256∧y=s/256:=by
 rw[Zv,Nat.xor_assoc,yL x y f];have d:s^^^(x+256*y)<65536:=xF hs (by omega);constructor
 ·intro h
  have e:s^^^(x+256*y)=0:=by
   rcases Nat.eq_zero_or_pos (s^^^(x+256*y)) with a|a
   ·exact a
   ·exact absurd h (pt 16 d (by omega))
  have:=(lO _ _).1 e;omega
 ·rintro ⟨a,g⟩
  have:s^^^(x+256*y)=0:=(lO _ _).2 (by omega);rw[this,pU]
theorem QP (l:List UInt8) (h:2≤l.length):l=l.take (l.length-2)++[l.getD (l.length-2) 0,l.getD (l.length-1) 0]:=by
 apply List.ext_getElem
 ·simp;omega
 ·intro i a g
  by_cases hi:i<l.length-2
  ·rw [List.getElem_append_left (by simp;omega)]
   simp
  ·rw [List.getElem_append_right (by simp;omega)]
   simp only[List.length_take,Nat.min_eq_left (Nat.sub_le _ _)];by_cases f:i=l.length-2
   ·subst f;simp [List.getD];rw[List.getElem?_eq_getElem a];rfl
   ·have d:i=l.length-1:=by omega
    subst d;have e:l.length-1- (l.length-2)=1:=by omega
    simp only[e];simp [List.getD];rw[List.getElem?_eq_getElem a];rfl
theorem tq (l:List UInt8):aw l=true↔2≤l.length∧aV 65535 l=0:=by
 unfold aw;by_cases h:2≤l.length
 ·have hs:=gC (l.take (l.length-2)) (show 65535<65536 by decide)
  have e:aV 65535 l=dS (dS (aV 65535 (l.take (l.length-2))) (l.getD (l.length-2) 0).toNat) (l.getD (l.length-1) 0).toNat:=by
   conv=>lhs;rw[QP l h]
   rw[show l.take (l.length-2)++[l.getD (l.length-2) 0,l.getD (l.length-1) 0]=(l.take (l.length-2)++[l.getD (l.length-2) 0])++[l.getD (l.length-1) 0] by simp,fK,fK]
  rw[e,rQ _ _ _ hs (dD _) (dD _)];simp [h]
 ·simp [h]
theorem Dy (l:List UInt8):aV 65535 (l++bM l)=0:=by
 have hs:=gC l (show 65535<65536 by decide);rw[show l++bM l=(l++[UInt8.ofNat (aV 65535 l)])++[UInt8.ofNat (aV 65535 l/256)] by simp [bM],fK,fK];rw[rQ _ _ _ hs (dD _) (dD _)];constructor
 ·simp
 ·simp;omega
theorem wC (l:List UInt8):aw (l++bM l)=true:=(tq _).2 ⟨by simp [bM],Dy l⟩
theorem JA (f g:List UInt8) (e:Nat→Bool) (i:g.length=f.length) (j:aV 65535 f=0) (a:∀p,p<8*f.length→jb g p=(jb f p^^e p))
  (he:bN 0 e (8*f.length)≠0):aw g=false:=by
 have d:aV 65535 g=bN 0 e (8*f.length):=by
  rw[wO,i,jn _ a];have:=CH 65535 0 (jb f) e (8*f.length);rw[Nat.xor_zero] at this;rw[this,←wO,j,Nat.zero_xor]
 cases hc:aw g with
 |false=>rfl
 |true=>exact absurd (d▸((tq g).1 hc).2) he
theorem CZ (e:Nat→Bool) (r:Nat):bN 0 e r=aE r (numOf e r):=by
 have h:=qM 0 (numOf e r) r;rw[Nat.zero_xor,Nat.div_eq_of_lt (xr e r),Nat.xor_zero] at h;rw[h];apply jn;intro p a;rw[sO];simp [a]
theorem Hh (e:Nat→Bool) (a n:Nat) (s:a<n) (m:∀p,p<a→e p=false) (k:e a=true) (g:∀p,a+16≤p→e p=false):bN 0 e n≠0:=by
 obtain⟨r,f,j,o⟩:∃r,0<r∧r≤16∧(a+r=n∨(r=16∧a+r≤n)):=by
  by_cases h:n-a≤16
  ·exact ⟨n-a,by omega,h,.inl (by omega)⟩
  ·exact ⟨16,by omega,by omega,.inr ⟨rfl,by omega⟩⟩
 have d:bN 0 e (a+r)≠0:=by
  rw[mY,nQ 0 e a m,pU,CZ];refine pt r (Nat.lt_of_lt_of_le (xr _ r) (show 2^r≤2^16 from Nat.pow_le_pow_right (by decide) j)) ?_;intro i;have:=sO (fun p=>e (a+p)) r 0;rw[i] at this;simp [f,k] at this
 rcases o with h|⟨h,t⟩
 ·rw [←h];exact d
 ·obtain ⟨q,rfl⟩:∃q,n=a+r+q:=⟨n- (a+r),by omega⟩
  rw[mY,nQ _ _ q (fun p _=>g _ (by omega))];exact pt q (Fi (by decide) e _) d
theorem LX (w:World) (base:Nat) (e:TypeId) (x:UInt8) (a:base≤w.heap.size):
  (w.alloc (K #[U .u8 (x.toNat:Int)] e)).ownsRow base e 1 (J (N ⟨w.heap.size,0,M⟩) 1 1) [x].length (u8s [x]):=
 ⟨rfl,.inr ⟨w.heap.size,1,_,rfl,a,heap_alloc_new _ _,Nat.le_refl _,by decide,rfl,rfl⟩⟩
theorem Bs.cutAt {b o:Nat} (h:Bs w (J (N ⟨b,o,M⟩) n c) l) (k m:Nat) (q:k≤m) (hm:m≤n):
  Bs w (J (N ⟨b,o+k,M⟩) (m-k) (c-k)) ((l.take m).drop k):=by
 obtain⟨v,u,p,t,r,x,j⟩:=h;cases p;have e:((l.take m).drop k).length=m-k:=by simp;omega
 refine⟨_,_,by rw[e],by omega,by omega,fun h=>by simp at h,fun a=>?_⟩;have d:l≠[]:=by rintro rfl;simp at a
 obtain⟨b',s,f,g⟩:=j d;cases f;refine⟨b,o+k,rfl,fun i hi=>?_⟩;rw[e] at hi;rw[Nat.add_assoc,g (k+i) (by omega)];have:((l.take m).drop k).getD i 0=l.getD (k+i) 0:=by simp [List.getD];rw[List.getElem?_take_of_lt (by omega)]
 rw[this]
def fj (x:UInt8) (l:List UInt8):List UInt8:=(x::l)++bM (x::l)
theorem bp (x:UInt8) (l:List UInt8):(fj x l).length=l.length+3:=by simp [fj,bM]
theorem lP (u:Int) (e:1≤u) (d:u≤247) (w:World):
  Calls Tryz.prog 156 #[U Z u] w fun r a=>r=O (.bool true)∧w=a:=by
 go_enter Tryz.func156,Tryz.ntmps156;go_wp2;go_ret;exact⟨rfl,rfl⟩
theorem Ba (u:Int) (a:u<1∨247<u) (w:World):
  Calls Tryz.prog 156 #[U Z u] w fun r d=>r=O (.bool false)∧w=d:=by
 rcases a with a|a
 ·go_enter Tryz.func156,Tryz.ntmps156
  go_wp2;go_ret;exact⟨rfl,rfl⟩
 ·have e:1≤u:=by omega
  have f:decide (u≤247)=false:=by simp;omega
  go_enter Tryz.func156,Tryz.ntmps156;go_wp2;go_ret;exact⟨rfl,rfl⟩
theorem vd (u:Int) (d:u<1∨247<u) (v:Value) (w:World):
  Calls Tryz.prog 123 #[U Z u,v] w fun r a=>r=O (.tuple #[J none 0 0,U Z 3])∧w=a:=by
 go_enter Tryz.func123,Tryz.ntmps123;go_wp2_with (first|(go_at_call 156;refine(Ba _ d _).mono ?_;rintro r w1 ⟨rfl,rfl⟩)|fail);go_ret2;exact⟨rfl,rfl⟩
theorem Co (u:Int) (e:1≤u) (f:u≤247) (v:Value) (l:List UInt8) (d:l.length<1∨253<l.length) (w:World) (i:Bs w v l):
  Calls Tryz.prog 123 #[U Z u,v] w fun r g=>r=O (.tuple #[J none 0 0,U Z 4])∧w=g:=by
 obtain⟨a,c,rfl,_⟩:=i;rcases d with d|d
 ·go_enter Tryz.func123,Tryz.ntmps123
  go_wp2_with (first|(go_at_call 156;refine(lP _ e f _).mono ?_;rintro r w1 ⟨rfl,rfl⟩)|fail);go_ret2;exact⟨rfl,rfl⟩
 ·have j:1≤l.length:=by omega
  go_enter Tryz.func123,Tryz.ntmps123;go_wp2_with (first|(go_at_call 156;refine(lP _ e f _).mono ?_;rintro r w1 ⟨rfl,rfl⟩)|fail);go_ret2;exact⟨rfl,rfl⟩
theorem GO (x:UInt8) (A:1≤(x.toNat:Int)) (D:(x.toNat:Int)≤247) (v:Value) (l:List UInt8) (I:1≤l.length) (F:l.length≤253) (w:World) (j:Bs w v l):
  Calls Tryz.prog 123 #[U Z (x.toNat:Int),v] w fun r q=>∃t,r=O (.tuple #[t,U Z 0])∧q.ownsRow w.heap.size 5 1 t (l.length+3) (u8s (fj x l))∧Below w.heap.size w q:=by
 obtain⟨i5,hi,g,f,i⟩:=info_parts fS;have m:(w.alloc (K #[U .u8 (x.toNat:Int)] 5)).ownsRow w.heap.size 5 1 (J (N ⟨w.heap.size,0,M⟩) 1 1) [x].length (u8s [x]):=LX w w.heap.size _ x (Nat.le_refl _);have s:=j.ah (bal' w (K #[U .u8 (x.toNat:Int)] 5));obtain⟨a,c,rfl,_⟩:=id j;clear j;go_enter Tryz.func123,Tryz.ntmps123;go_wp2_with (first|(go_at_call 156;refine(lP _ A D _).mono ?_;rintro r w1 ⟨rfl,rfl⟩)|(at_builtin;refine im rfl _ _ 50 rfl w.heap.size 5 i5 Tryz.underlying50 hi g f i (J (N ⟨w.heap.size,0,M⟩) 1 1) [x] rfl m _ l rfl s ?c1 ?c2 ?c3))
 any_goals first|omega|(simp;done)|(simp;omega)
 case c3=>
  intro v2 y d u;have p:=(bal' w (K #[U .u8 (x.toNat:Int)] 5)).grown u (bal' w (K #[U .u8 (x.toNat:Int)] 5)).size (by intro k C;simp [Value.ownBlock] at C;omega);have E:Hid (Bs y v2 (x::l)):=Bs.own d;have o:(x::l).length=l.length+1:=rfl;have B:=hid o;clear u d m s o;go_wp2_with (first|(go_at_call 157;refine(zB _ _ _ E.out (by have:=B.out;omega)).mono ?_;rintro r w3 ⟨G,rfl,e,z⟩)|fail);go_ret2;exact⟨_,rfl,own_lower e p.size,bt p z (Nat.le_refl _)⟩
theorem Ds (v:Value) (l:List UInt8) (d:l.length<4∨256<l.length) (w:World) (e:Bs w v l):
  Calls Tryz.prog 146 #[v] w fun r f=>r=O (.tuple #[U Z 0,J none 0 0,U Z 4])∧w=f:=by
 obtain⟨a,c,rfl,_⟩:=e;rcases d with d|d
 ·go_enter Tryz.func146,Tryz.ntmps146
  go_wp2;go_ret3;exact⟨rfl,rfl⟩
 ·have g:4≤l.length:=by omega
  go_enter Tryz.func146,Tryz.ntmps146;go_wp2;go_ret3;exact⟨rfl,rfl⟩
theorem DM (v:Value) (l:List UInt8) (j:4≤l.length) (k:l.length≤256) (e:aw l=false) (w:World) (f:Bs w v l):
  Calls Tryz.prog 146 #[v] w fun r i=>r=O (.tuple #[U Z 0,J none 0 0,U Z 10])∧Below w.heap.size w i:=by
 have d:=hid (m6 v l w f);rw[e] at d;obtain⟨a,c,rfl,_⟩:=f;clear e;go_enter Tryz.func146,Tryz.ntmps146;go_wp2_with (first|(go_at_call 175;refine d.out.mono ?_;rintro r w1 ⟨rfl,g⟩)|fail);go_ret3;exact⟨rfl,g⟩
theorem wg (v:Value) (l:List UInt8) (j:4≤l.length) (q:l.length≤256) (f:aw l=true) (k:((l.getD 0 0).toNat:Int)<1∨247<((l.getD 0 0).toNat:Int)) (w:World) (a:Bs w v l):
  Calls Tryz.prog 146 #[v] w fun r m=>r=O (.tuple #[U Z 0,J none 0 0,U Z 3])∧Below w.heap.size w m:=by
 have e:=hid (m6 v l w a);rw[f] at e;obtain⟨b,o,c,rfl,t,u,d⟩:=a.at (by rintro rfl;simp at j);have g:w.cell? ⟨b,o,M⟩=N (U .u8 ((l.getD 0 0).toNat:Int)):=d 0 (by omega);have y:=dD (l.getD 0 0);generalize (l.getD 0 0).toNat=x at*;clear f d a;have s:0<l.length:=by omega
 go_enter Tryz.func146,Tryz.ntmps146;go_wp2_with (first|(go_at_call 175;refine e.out.mono ?_;rintro r w1 ⟨rfl,i⟩;replace g:=cell_keep i g)|(go_at_call 156;(with_reducible refine(Ba _ k _).mono ?_);rintro r p ⟨rfl,rfl⟩)|fail);go_ret3;exact⟨rfl,i⟩
def Cn (l:List UInt8):List UInt8:=(l.take (l.length-2)).drop 1
theorem FV (v:Value) (l:List UInt8) (m:4≤l.length) (C:l.length≤256) (y:aw l=true) (E:1≤((l.getD 0 0).toNat:Int)) (g:((l.getD 0 0).toNat:Int)≤247) (w:World) (f:Bs w v l):
  Calls Tryz.prog 146 #[v] w fun r s=>∃j,r=O (.tuple #[U Z (l.getD 0 0).toNat,j,U Z 0])∧s.ownsRow w.heap.size 5 1 j (l.length-3) (u8s (Cn l))∧Below w.heap.size w s:=by
 have i:=hid (m6 v l w f);rw[y] at i;obtain⟨b,o,c,rfl,D,B,u⟩:=f.at (by rintro rfl;simp at m);unfold maxLen at B;have q:w.cell? ⟨b,o,M⟩=N (U .u8 ((l.getD 0 0).toNat:Int)):=u 0 (by omega);have k:Hid (Bs w (J (N ⟨b,o+1,M⟩) (l.length-2-1) (c-1)) (Cn l)):=f.cutAt 1 (l.length-2) (by omega) (by omega);have d:(Cn l).length=l.length-3:=by simp [Cn];omega
 obtain⟨n,t⟩:∃n,l.length=n+3:=⟨l.length-3,by omega⟩
 rw[t] at m C D d k i ⊢;rw[show n+3-2-1=n by omega] at k;rw[show n+3-3=n by omega] at d ⊢;generalize (l.getD 0 0).toNat=x at*;generalize Cn l=p at*;have z:=hid d;clear y u f t d;go_enter Tryz.func146,Tryz.ntmps146;go_wp2_with (first|(go_at_call 175;refine i.out.mono ?_;rintro r w1 ⟨rfl,e⟩;replace q:=cell_keep e q)|(go_at_call 156;refine(lP _ E g _).mono ?_;rintro r G ⟨rfl,rfl⟩)|fail);have F:Hid (Bs w1.drew (J (N ⟨b,o+1,M⟩) n (c-1)) p):=k.out.ah e.drew;have Q:IntKind.i64.wrap (x:Int)=x:=IntWalk.i64_in _ (by omega);have L:¬c=1:=by omega
 have I:(0:Int)<(n:Int)+3:=by omega
 have K:IntKind.i64.wrap ((n:Int)+3-2)=(n:Int)+1:=by rw[IntWalk.i64_in _ (by omega)];omega
 have P:(1:Int)≤(n:Int)+1:=by omega
 have R:(n:Int)+1≤(c:Int):=by omega
 go_region_held3 (fun W=>W.cell? ⟨b,o,M⟩=N (U .u8 x)) ((first|assumption|(exact cell_keep (by assumption) (by assumption)))) ((go_at_call 80;refine(bY _ _ _ F.out (by have:=z.out;omega)).mono ?_;rintro r w3 ⟨j,rfl,a,A⟩));go_wp2;go_ret3;exact⟨_,rfl,by rw[z.out] at a;exact own_lower a e.size,bt e.drew A (Nat.le_refl _)⟩
theorem cP.own {w f:World} {u:Int} {v:Value} {n:Nat} {p:List UInt8} {e:TypeId} {o:Option (Int×List UInt8)} (q:p.length=n) (m:o=N (u,p)) (a:f.ownsRow w.heap.size e 1 v n (u8s p)) (r:Below w.heap.size w f):
  cP w o (O (.tuple #[U Z u,v,U Z 0])) f:=by
 subst q;have g:=Bs.own a;have d:=a.lt;obtain⟨i,c3,rfl,_⟩:=id g;exact⟨u,i,_,c3,0,rfl,r,.inl ⟨rfl,p,m,fun W s=>g.kj (fun k j=>(d k.block (by rw[j];rfl)).1) s⟩⟩
theorem kZ (a:Option Addr) (n c:Nat) (l:List UInt8) (w:World) (e:Bs w (J a n c) l):
  Calls Tryz.prog 146 #[J a n c] w (cP w (bk aw l)):=by
 by_cases g:l.length<4∨256<l.length
 ·refine (Ds _ l g w e).mono ?_
  rintro r f ⟨rfl,rfl⟩;exact cP.err (by unfold bk;rw[if_neg (by omega)]) _ _ _ _ _ (by decide) (Below.refl _ _)
 ·cases hc:aw l with
  |false=>
   refine(DM _ l (by omega) (by omega) hc w e).mono ?_;rintro r f ⟨rfl,h⟩;exact cP.err (by unfold bk;rw[if_neg (fun h=>by rw[hc] at h;cases h.2.2.1)]) _ _ _ _ _ (by decide) h
  |true=>
   by_cases i:((l.getD 0 0).toNat:Int)<1∨247<((l.getD 0 0).toNat:Int)
   ·refine (wg _ l (by omega) (by omega) hc i w e).mono ?_
    rintro r f ⟨rfl,h⟩;exact cP.err (by unfold bk;rw[if_neg (fun h=>by omega)]) _ _ _ _ _ (by decide) h
   ·refine (FV _ l (by omega) (by omega) hc (by omega) (by omega) w e).mono ?_
    rintro r f ⟨j,rfl,d,h⟩;exact cP.own (by simp [Cn];omega) (by unfold bk;rw[if_pos ⟨by omega,by omega,hc,by omega,by omega⟩];rfl) d h
def lf (u:Int) (p:List UInt8):Option (List UInt8):=if 1≤u∧u≤247∧1≤p.length∧p.length≤253 then some (fj (UInt8.ofNat u.toNat) p) else none
def dj (w:World) (o:Option (List UInt8)) (r:Ending) (w':World):Prop:=
 ∃(a:Option Addr) (c:Nat) (e:Int) (f:List UInt8),r=O (.tuple #[J a f.length c,U Z e])∧w'.ownsRow w.heap.size 5 1 (J a f.length c) f.length (u8s f)∧Below w.heap.size w w'∧((e=0∧o=N f)∨(e≠0∧o=none∧f=[]))
theorem dj.err {o:Option (List UInt8)} (a:o=none) (e:Int) (he:e≠0):dj w o (O (.tuple #[J none 0 0,U Z e])) w:=
 ⟨none,0,e,[],rfl,World.ownsRow_nil _ _ _ _,Below.refl _ _,.inr ⟨he,a,rfl⟩⟩
theorem dj.own {w d:World} {o:Option (List UInt8)} {v:Value} {n:Nat} {f:List UInt8} (j:f.length=n) (i:o=N f) (a:d.ownsRow w.heap.size 5 1 v n (u8s f)) (e:Below w.heap.size w d):
  dj w o (O (.tuple #[v,U Z 0])) d:=by
 subst j;obtain⟨g,c3,rfl,_⟩:=id (Bs.own a);exact⟨g,c3,0,f,rfl,a,e,.inl ⟨rfl,i⟩⟩
theorem NN {u:Int} (d:1≤u) (a:u≤247):((UInt8.ofNat u.toNat).toNat:Int)=u:=by
 rw[UInt8.toNat_ofNat'];omega
theorem qe (u:Int) (a:Option Addr) (n c:Nat) (p:List UInt8) (w:World) (e:Bs w (J a n c) p):
  Calls Tryz.prog 123 #[U Z u,J a n c] w (dj w (lf u p)):=by
 by_cases g:u<1∨247<u
 ·refine (vd u g _ w).mono ?_
  rintro r f ⟨rfl,rfl⟩;exact dj.err (by unfold lf;rw[if_neg (by omega)]) 3 (by decide)
 ·by_cases j:p.length<1∨253<p.length
  ·refine (Co u (by omega) (by omega) _ p j w e).mono ?_
   rintro r f ⟨rfl,rfl⟩;exact dj.err (by unfold lf;rw[if_neg (by omega)]) 4 (by decide)
  ·have i:=NN (u:=u) (by omega) (by omega)
   have:=GO (UInt8.ofNat u.toNat) (by omega) (by omega) _ p (by omega) (by omega) w e;rw[i] at this;refine this.mono ?_;rintro r f ⟨k,rfl,d,h⟩;exact dj.own (bp _ _) (by unfold lf;rw[if_pos ⟨by omega,by omega,by omega,by omega⟩]) d h
theorem Zs (W:World) (n:Nat) (x y:Int) (a:0≤x) (e:x≤255) (f:0≤y) (d:y≤255) (g:n=W.heap.size):Bs (W.alloc (K #[U .u8 x,U .u8 y] 5)) (J (N ⟨n,0,M⟩) 2 2) [byteI x,byteI y]:=by
 subst g;refine Bs.mk (l:=[byteI x,byteI y]) (Nat.le_refl 2) (by unfold maxLen;decide) fun i hi=>?_
 rw[World.cell?_alloc_at _ _ _ _ rfl]
 match i,hi with
 |0,_=>show some (Value.int .u8 x)=N (U .u8 ((byteI x).toNat:Int));rw[au a e]
 |1,_=>show some (Value.int .u8 y)=N (U .u8 ((byteI y).toNat:Int));rw[au f d]
def gV (w:World) (l:List UInt8) (r:Ending) (w':World):Prop:=∃a c,r=O (.tuple #[J a l.length c,U Z 0])∧Bs w' (J a l.length c) l∧Below w.heap.size w w'∧∀ad,a=N ad→w.heap.size≤ad.block
theorem KC (w:World) (base:Nat) (x:Int) (d:0≤x) (e:x≤255) (a:base≤w.heap.size):
  (w.alloc (K #[U .u8 x] 5)).ownsRow base 5 1 (J (N ⟨w.heap.size,0,M⟩) 1 1) 1 (u8s [byteI x]):=by
 refine⟨rfl,.inr ⟨w.heap.size,1,_,rfl,a,heap_alloc_new _ _,Nat.le_refl _,by decide,rfl,?_⟩⟩;show [Value.int .u8 x]=[U .u8 ((byteI x).toNat:Int)];rw[au d e]
def jY (k a b:Int):Rq:=
 if k%6=4 then ⟨17,0,0,0,0⟩ else if k%6=5 then ⟨43,0,0,1+a%3,b%256⟩
 else ⟨1+k%6,a%(65536- (1+b%cN (1+k%6))+1),1+b%cN (1+k%6),0,0⟩
theorem Gn (k a b:Int) (E:(Lit.int .i64 k).wf=true) (i:(Lit.int .i64 a).wf=true) (o:(Lit.int .i64 b).wf=true) (w:World):
  Calls Tryz.prog 52 #[.int .i64 k,.int .i64 a,.int .i64 b] w fun r d=>r=.returned (.agg #[.int .i64 (jY k a b).fn,.int .i64 (jY k a b).addr,.int .i64 (jY k a b).aF,.int .i64 (jY k a b).code,.int .i64 (jY k a b).obj])∧Below w.heap.size w d:=by
 have A:=Int.emod_nonneg k (show (6:Int)≠0 by decide);have D:=Int.emod_lt_of_pos k (show 0<(6:Int) by decide);have q:Hid (∀W,Calls Tryz.prog 38 #[.int .i64 k,.int .i64 6] W fun r d=>r=.returned (.int .i64 (k%6))∧W=d):=fun W=>fR k 6 (by decide) (by decide) E W
 have g:Hid (∀X:Obj,Below w.heap.size w (w.alloc X)):=fun X=>bal' w X
 obtain⟨R,e⟩:=gE (jY k a b);rw[e];unfold jY at e;obtain⟨m,hm⟩:∃m,k%6=m:=⟨_,rfl⟩
 rw[hm] at A D q e;clear hm E;by_cases p:m=4
 ·subst p
  rw[if_pos rfl] at e;subst e;clear i o A D;go_enter Tryz.func52,Tryz.ntmps52;go_wp2_with (go_at_call 38;(with_reducible refine(q.out _).mono ?_);rintro r w1 ⟨rfl,rfl⟩);exact bodyPost_ret (v:=.agg #[.int .i64 17,.int .i64 0,.int .i64 0,.int .i64 0,.int .i64 0]) (by simp [results,Tryz.results52,go_sem]) rfl ⟨rfl,by repeat (first|exact g.out _|refine Below.setCell ?_ (by simp) _)⟩
 ·rw [if_neg p] at e
  by_cases u:m=5
  ·subst u
   rw[if_pos rfl] at e;subst e;have t:Hid (∀W,Calls Tryz.prog 38 #[.int .i64 a,.int .i64 3] W fun r d=>r=.returned (.int .i64 (a%3))∧W=d):=fun W=>fR a 3 (by decide) (by decide) i W
   have z:Hid (∀W,Calls Tryz.prog 38 #[.int .i64 b,.int .i64 256] W fun r d=>r=.returned (.int .i64 (b%256))∧W=d):=fun W=>fR b 256 (by decide) (by decide) o W
   have a1:=Int.emod_nonneg a (show (3:Int)≠0 by decide);have I:=Int.emod_lt_of_pos a (show 0<(3:Int) by decide);clear i o A D p;generalize a%3=x at*;generalize b%256=y at*;go_enter Tryz.func52,Tryz.ntmps52;go_wp2_with (first|(go_at_call 38;(with_reducible refine(q.out _).mono ?_);rintro r w1 ⟨rfl,rfl⟩)|(go_at_call 38;(with_reducible refine(t.out _).mono ?_);rintro r w1 ⟨rfl,rfl⟩)|(go_at_call 38;(with_reducible refine(z.out _).mono ?_);rintro r w1 ⟨rfl,rfl⟩));exact bodyPost_ret (v:=.agg #[.int .i64 43,.int .i64 0,.int .i64 0,.int .i64 (1+x),.int .i64 y]) (by simp [results,Tryz.results52,go_sem]) rfl ⟨rfl,by repeat (first|exact g.out _|refine Below.setCell ?_ (by simp) _)⟩
  ·rw [if_neg u] at e
   obtain⟨f,C⟩:∃f,1+m=f:=⟨_,rfl⟩
   rw[C] at e;obtain⟨L,s⟩:=gE (cN f);have j:Hid (∀W,Calls Tryz.prog 79 #[.int .i64 f] W fun r d=>r=.returned (.int .i64 L)∧W=d):=fun W=>by rw[←s];exact kI f W
   have B:0<L∧L≤2000:=by
    rw[←s];unfold cN
    repeat' split
    all_goals omega
   rw[s] at e;have b1:=Int.emod_nonneg b (show L≠0 by omega);have b2:=Int.emod_lt_of_pos b B.1;have z:Hid (∀W,Calls Tryz.prog 38 #[.int .i64 b,.int .i64 L] W fun r d=>r=.returned (.int .i64 (b%L))∧W=d):=fun W=>fR b L B.1 (by omega) o W
   have t:Hid (∀W,Calls Tryz.prog 38 #[.int .i64 a,.int .i64 (65536- (1+b%L)+1)] W fun r d=>r=.returned (.int .i64 (a%(65536- (1+b%L)+1)))∧W=d):=fun W=>fR a _ (by omega) (by omega) i W
   subst e;generalize b%L=y at*;generalize a%(65536- (1+y)+1)=x at*;have F:y≤1999:=by omega
   have G:(1+m==5)=false:=by rw[beq_eq_false_iff_ne];omega
   have J:(1+m==6)=false:=by rw[beq_eq_false_iff_ne];omega
   clear i o s B b2;rw[←C] at j ⊢;clear C f p u;go_enter Tryz.func52,Tryz.ntmps52;go_wp2_with (first|(go_at_call 38;(with_reducible refine(q.out _).mono ?_);rintro r w1 ⟨rfl,rfl⟩)|(go_at_call 79;(with_reducible refine(j.out _).mono ?_);rintro r w1 ⟨rfl,rfl⟩)|(go_at_call 38;(with_reducible refine(z.out _).mono ?_);rintro r w1 ⟨rfl,rfl⟩)|(go_at_call 38;(with_reducible refine(t.out _).mono ?_);rintro r w1 ⟨rfl,rfl⟩));exact bodyPost_ret (v:=.agg #[.int .i64 (1+m),.int .i64 x,.int .i64 (1+y),.int .i64 0,.int .i64 0]) (by simp [results,Tryz.results52,go_sem]) rfl ⟨rfl,by repeat (first|exact g.out _|refine Below.setCell ?_ (by simp) _)⟩
def nH (l:List UInt8):Int:=aI l (l.length-1)
def oI (l:List Ob):Int:=(l.head?.map (·.id)).getD 0
def dT (q:Rq) (r:Rp):Bool:=
  q.ok&&r.ok&&q.fn==r.fn&&
    (if r.ar=0 then
      (if q.fn=1∨q.fn=2 then ((r.data.length:Int)==(q.aF+7)/8)&&(q.aF%8==0||(nH r.data)/2^(q.aF%8).toNat==0)
       else if q.fn=3∨q.fn=4 then (r.data.length:Int)==2*q.aF
       else if q.fn=43 then r.code==q.code&&(r.ag.isEmpty||decide (q.obj≤oI r.ag)) else true)
     else true)
theorem cY.gT {a:Option Addr} {l:List Ob} (h:cY w (J a n c) l):l.length=n:=by
 obtain⟨_,_,d,_⟩:=h;cases d;rfl
theorem JF (h:b.length<2∨253<b.length):Rp.dec b=none:=by unfold Rp.dec;rw[if_pos h]
theorem KK (h:¬(b.length<2∨253<b.length)) (a:aR (aI b 0-128)=true):Rp.dec b=if b.length=2∧aI b 1≠0 then some (Rp.lJ (aI b 0-128) (aI b 1)) else none:=by
 unfold Rp.dec;rw[if_neg h,if_pos a]
theorem LY (h:¬(b.length<2∨253<b.length)) (a:aI b 0=43):Rp.dec b=cM b:=by
 unfold Rp.dec;rw[if_neg h,a,if_neg (by decide),if_pos rfl]
theorem Jg (h:¬(b.length<2∨253<b.length)) (d:aR (aI b 0-128)=false) (a:aR (aI b 0)=false):Rp.dec b=none:=by
 unfold Rp.dec;rw[if_neg h,if_neg (by rw[d];decide),if_neg (fun h=>by rw[h] at a;exact absurd a (by decide)),if_neg (fun h=>by rw[h.1] at a;cases a)]
theorem E8 (h:¬(b.length<2∨253<b.length)) (d:aR (aI b 0)=true) (f:aI b 0≠43):
  Rp.dec b=if aI b 1=(b.length:Int)-2 then (if (Rp.eP (aI b 0) (b.drop 2)).ok=true then some (Rp.eP (aI b 0) (b.drop 2)) else none) else none:=by
 have e:aR (aI b 0-128)=false:=kT (by have:=dd d;omega);unfold Rp.dec;rw[if_neg h,if_neg (by rw[e];decide),if_neg f];by_cases a:aI b 1=(b.length:Int)-2
 ·rw [if_pos ⟨d,a⟩,if_pos a]
 ·rw [if_neg (fun h=>a h.2),if_neg a]
theorem Mn {p:Prop} (h:p:=by
 go_enter Tryz.func176,Tryz.ntmps176
 go_wp2
 refine bodyPost_ret (v:=.tuple #[.agg #[.int .i64 0,.int .i64 0,.slice none 0 0,.int .i64 0,.int .i64 0,.bool false,.int .i64 0,.slice none 0 0],.int .i64 4]) (by simp [results,Tryz.results176,go_sem]) rfl ?_
 exact DecPost.err HN.out 4 (by decide) (by decide) (bal'' w _)):p:=h
theorem Te (a:Option Addr) (n c:Nat) (b:List UInt8) (w:World) (d:Bs w (J a n c) b) (h:n<2∨253<n):
  Calls Tryz.prog 176 #[J a n c] w (DecPost w (Rp.dec b)):=by
 obtain⟨e,g,f⟩:=d.gT;unfold maxLen at f;have HN:=hid (JF (b:=b) (by omega));clear d e;rcases h with h|h
 ·exact Mn
 ·have i:¬n<2:=by omega
  exact Mn
theorem TQ (a:Option Addr) (n c:Nat) (b:List UInt8) (w:World) (j:Bs w (J a n c) b) (E:2≤n) (G:n≤253) (q:aR (aI b 0-128)=true):
  Calls Tryz.prog 176 #[J a n c] w (DecPost w (Rp.dec b)):=by
 obtain⟨s,D,y⟩:=j.gT;unfold maxLen at y;have d:=KK (b:=b) (by omega) q;rw[s] at d;obtain⟨jM,off,rfl,y0⟩:=j.byte (i:=0) (by omega);obtain⟨I,u,o,t⟩:=j.byte (i:=1) (by omega);cases o;have c0:∀W,Below w.heap.size w W→W.cell? ⟨jM,off,M⟩=N (U .u8 (aI b 0)):=fun W h=>cell_keep h y0
 have c1:∀W,Below w.heap.size w W→W.cell? ⟨jM,off+1,M⟩=N (U .u8 (aI b 1)):=fun W h=>cell_keep h t
 have B:∀X,Below w.heap.size w (w.alloc X):=fun X=>bal'' w X
 obtain⟨a0,z⟩:=dZ b 0;obtain⟨a1,C⟩:=dZ b 1;have p:Hid (∀W,Calls Tryz.prog 195 #[U Z (aI b 0-128)] W fun r x=>r=O (.bool true)∧W=x):=fun W=>by rw[←q];exact dJ _ W
 have L:¬n<2:=by omega
 have F:¬253<n:=by omega
 clear j s y0 t q;generalize aI b 0=k at*;generalize aI b 1=e at*;have u0:IntKind.i64.wrap k=k:=IntWalk.i64_in _ (by omega);have u1:IntKind.i64.wrap e=e:=IntWalk.i64_in _ (by omega);by_cases f:n=2
 ·subst f
  by_cases g:e=0
  ·have m:Hid (Rp.dec b=none):=by show _=_;rw[d,if_neg (fun h=>h.2 g)]
   clear d;subst g;go_enter Tryz.func176,Tryz.ntmps176;go_wp2_with (go_at_call 195;(with_reducible refine(p.out _).mono ?_);rintro r w1 ⟨rfl,rfl⟩);refine bodyPost_ret (v:=.tuple #[.agg #[U Z 0,U Z 0,J none 0 0,U Z 0,U Z 0,.bool false,U Z 0,J none 0 0],U Z 3]) (by simp [results,Tryz.results176,go_sem]) rfl ?_;exact DecPost.err m.out 3 (by decide) (by decide) (bal'' w _)
  ·have A:Hid (Rp.dec b=N (Rp.lJ (k-128) e)):=by show _=_;rw[d,if_pos ⟨rfl,g⟩]
   have K:(e==0)=false:=by rw[beq_eq_false_iff_ne];exact g
   clear d g;go_enter Tryz.func176,Tryz.ntmps176;go_wp2_with (go_at_call 195;(with_reducible refine(p.out _).mono ?_);rintro r w1 ⟨rfl,rfl⟩);refine bodyPost_ret (v:=.tuple #[.agg #[U Z (k-128),U Z e,J none 0 0,U Z 0,U Z 0,.bool false,U Z 0,J none 0 0],U Z 0]) (by simp [results,Tryz.results176,go_sem]) rfl ?_;exact DecPost.is (da:=none) (dc:=0) (oa:=none) (oc:=0) A.out (fun W _=>⟨Bs.nil _,cY.nil _,by show (0:Int)≤_;decide,by show _≤(0:Int);decide⟩) (bal'' w _)
 ·have m:Hid (Rp.dec b=none):=by show _=_;rw[d,if_neg (fun h=>f h.1)]
  clear d;go_enter Tryz.func176,Tryz.ntmps176;go_wp2_with (go_at_call 195;(with_reducible refine(p.out _).mono ?_);rintro r w1 ⟨rfl,rfl⟩);refine bodyPost_ret (v:=.tuple #[.agg #[U Z 0,U Z 0,J none 0 0,U Z 0,U Z 0,.bool false,U Z 0,J none 0 0],U Z 4]) (by simp [results,Tryz.results176,go_sem]) rfl ?_;exact DecPost.err m.out 4 (by decide) (by decide) (bal'' w _)
theorem St (a:Option Addr) (n c:Nat) (b:List UInt8) (w:World) (f:Bs w (J a n c) b) (x:2≤n) (z:n≤253) (e:aR (aI b 0-128)=false) (d:aR (aI b 0)=false):
  Calls Tryz.prog 176 #[J a n c] w (DecPost w (Rp.dec b)):=by
 obtain⟨o,u,m⟩:=f.gT;unfold maxLen at m;have q:=hid (Jg (b:=b) (by omega) e d);obtain⟨jM,off,rfl,y0⟩:=f.byte (i:=0) (by omega);have c0:∀W,Below w.heap.size w W→W.cell? ⟨jM,off,M⟩=N (U .u8 (aI b 0)):=fun W h=>cell_keep h y0
 have t:∀X,Below w.heap.size w (w.alloc X):=fun X=>bal'' w X
 obtain⟨a0,p⟩:=dZ b 0;have s:Hid (∀W,Calls Tryz.prog 195 #[U Z (aI b 0-128)] W fun r j=>r=O (.bool false)∧W=j):=fun W=>by rw[←e];exact dJ _ W
 have g:Hid (∀W,Calls Tryz.prog 195 #[U Z (aI b 0)] W fun r j=>r=O (.bool false)∧W=j):=fun W=>by rw[←d];exact dJ _ W
 have A:¬n<2:=by omega
 have y:¬253<n:=by omega
 clear f o y0 e d;generalize aI b 0=k at*;have u0:IntKind.i64.wrap k=k:=IntWalk.i64_in _ (by omega);go_enter Tryz.func176,Tryz.ntmps176;go_wp2_with fail;refine(s.out _).mono ?_;rintro r w1 ⟨rfl,rfl⟩;go_wp2_with fail;refine(g.out _).mono ?_;rintro r w1 ⟨rfl,rfl⟩;go_wp2;refine bodyPost_ret (v:=.tuple #[.agg #[U Z 0,U Z 0,J none 0 0,U Z 0,U Z 0,.bool false,U Z 0,J none 0 0],U Z 16]) (by simp [results,Tryz.results176,go_sem]) rfl ?_;exact DecPost.err q.out 16 (by decide) (by decide) (bal'' w _)
theorem T6 (a:Option Addr) (n c:Nat) (b:List UInt8) (w:World) (L:Bs w (J a n c) b) (h2:2≤n) (h3:n≤253) (j:aR (aI b 0)=true) (fL:aI b 0≠43):
  Calls Tryz.prog 176 #[J a n c] w (DecPost w (Rp.dec b)):=by
 obtain⟨i5,hi,a6,ab,a2⟩:=info_parts fS;obtain⟨rG,dM,cj⟩:=L.gT;unfold maxLen at cj;have s:=E8 (b:=b) (by omega) j fL;rw[rG] at s;obtain⟨jM,off,rfl,y0⟩:=L.byte (i:=0) (by omega);obtain⟨Yt,a3,ak,y1⟩:=L.byte (i:=1) (by omega);cases ak;have c0:∀W,Below w.heap.size w W→W.cell? ⟨jM,off,M⟩=N (U .u8 (aI b 0)):=fun W h=>cell_keep h y0
 have c1:∀W,Below w.heap.size w W→W.cell? ⟨jM,off+1,M⟩=N (U .u8 (aI b 1)):=fun W h=>cell_keep h y1
 have kA:∀X,Below w.heap.size w (w.alloc X):=fun X=>bal'' w X
 obtain⟨a0,a7⟩:=dZ b 0;obtain⟨a1,Kt⟩:=dZ b 1;have XJ:=dd j;have HK:Hid (∀W,Calls Tryz.prog 195 #[U Z (aI b 0-128)] W fun r t=>r=O (.bool false)∧W=t):=fun W=>by rw[←kT (f:=aI b 0-128) (by omega)];exact dJ _ W
 have I:Hid (∀W,Calls Tryz.prog 195 #[U Z (aI b 0)] W fun r t=>r=O (.bool true)∧W=t):=fun W=>by rw[←j];exact dJ _ W
 have iL:¬n<2:=by omega
 have OI:¬253<n:=by omega
 obtain⟨R2,OP⟩:∃x,nc (N ⟨jM,off,M⟩) c 2=x:=⟨_,rfl⟩
 have aX:∀W,(Instr.slice 50 (J (N ⟨jM,off,M⟩) n c) (N (U Z 2)) none none).run Tryz.prog W=.ok (J R2 (n-2) (c-2)) W:=fun W=>by rw[←OP];exact qE Tryz.underlying50 hi ab _ n c 2 h2 W
 have A:Bs w (J R2 (n-2) (c-2)) (b.drop 2):=by rw[←OP];exact L.Iy h2
 obtain⟨Y,hY⟩:=gE (b.drop 2);have Rk:Y.length=n-2:=by rw[←hY];simp [rG]
 rw[hY] at A s;have fC:=hid A;have WV:=hid Rk;have m7:Hid (∀W,Below w.heap.size w W→Calls Tryz.prog 80 #[J R2 (n-2) (c-2)] W fun r t=>∃v',r=O v'∧t.ownsRow W.heap.size 5 1 v' (n-2) (u8s Y)∧Below W.heap.size W t):=fun W F=>by
  have h:=bY _ Y W (fC.out.ah F) (by omega);rw[Rk] at h;exact h
 have a4:(aI b 0==43)=false:=by rw[beq_eq_false_iff_ne];exact fL
 clear L rG y0 y1 j fL OP A Rk hY;generalize aI b 0=g at*;generalize aI b 1=G at*;have u0:IntKind.i64.wrap g=g:=IntWalk.i64_in _ (by omega);have u1:IntKind.i64.wrap G=G:=IntWalk.i64_in _ (by omega);by_cases z:G=(n:Int)-2
 ·rw [if_pos z] at s
  have WR:(G !=(n:Int)-2)=false:=by rw[bne_eq_false_iff_eq];exact z
  replace z:=hid z;obtain⟨V,hV⟩:=gE (Rp.ok (Rp.eP g Y));rw[hV] at s;have HD:=hid s;clear s;go_enter Tryz.func176,Tryz.ntmps176;go_wp2_with fail;refine(HK.out _).mono ?_;rintro r w1 ⟨rfl,rfl⟩;go_wp2_with fail;refine(I.out _).mono ?_;rintro r w1 ⟨rfl,rfl⟩;go_wp2_with fail;refine(m7.out _ (kA _)).mono ?_;rintro r w5 ⟨v5,rfl,d,B⟩;obtain⟨u,C,rfl⟩:=own_slice d;have D:w5.heap[w.heap.size]?=N (K #[U Z 0,U Z 0,J none 0 0,U Z 0,U Z 0,.bool false,U Z 0,J none 0 0] 53):=hpKeep (hpNew w _) B;have y:=bt (kA _) B (Nat.le_refl _);have aY:=y.size;have TT:Bs w5 (J u (n-2) C) Y:=by
   have:=WV.out;rw[←this] at d ⊢;exact Bs.own d
  have j4:=hid TT;have ao:=hid d.lt;have HV:Hid (∀X,Calls Tryz.prog 197 #[.agg #[U Z g,U Z 0,J u (n-2) C,U Z 0,U Z 0,.bool false,U Z 0,J none 0 0]] (w5.alloc X) fun r t=>r=O (.bool V)∧Below (w5.alloc X).heap.size (w5.alloc X) t):=fun X=>by
   have h:=eu g 0 (J u (n-2) C) 0 0 false 0 (J none 0 0) Y [] (w5.alloc X) (j4.out.ah (bal'' w5 X)) (cY.nil _) (by decide) (by decide);rw[show Rp.ok ⟨g,0,Y,0,0,false,0,[]⟩=V from hV] at h;exact h
  clear d B TT hV;go_wp2_with fail;refine(HV.out _).mono ?_;rintro r w6 ⟨rfl,o⟩;have QV:w6.heap[w.heap.size]?=N (K #[U Z 0,U Z 0,J none 0 0,U Z 0,U Z 0,.bool false,U Z 0,J none 0 0] 53):=hpKeep (hpKeep D (bal'' w5 _)) o;have p:=hpKeep (hpNew w5 (K #[U Z g,U Z 0,J u (n-2) C,U Z 0,U Z 0,.bool false,U Z 0,J none 0 0] 53)) o;have P:=bt (bta y (Nat.le_refl _) _) o (Nat.le_refl _);have XV:=bt (bal'' w5 _) o (Nat.le_refl _);clear D;cases V with
  |false=>
   have HN:Hid (Rp.dec b=none):=by show _=_;rw[HD.out,if_neg (by decide)]
   go_wp2_with (refine wpList_storeW rfl 53 (.tmp 2) (.tmp 69) rfl w.heap.size 0 _ _ (#[U Z 0,U Z 0,J none 0 0,U Z 0,U Z 0,.bool false,U Z 0,J none 0 0]) rfl rfl QV (by simp) (by kernel_rfl) (by rfl) ?_;intro w4 T m av);obtain⟨q0,Q,q2,q3,R,S,q6,q7⟩:=kA8 T
   refine bodyPost_ret (v:=.tuple #[.agg #[U Z 0,U Z 0,J none 0 0,U Z 0,U Z 0,.bool false,U Z 0,J none 0 0],U Z 5]) (by simp [results,Tryz.results176,go_sem,q0,Q,q2,q3,R,S,q6,q7]) rfl ?_;exact DecPost.err HN.out 5 (by decide) (by decide) (P.trans (m.below P.size (fun k hk e=>by omega)))
  |true=>
   have HS:Hid (Rp.dec b=N (Rp.eP g Y)):=by show _=_;rw[HD.out,if_pos rfl]
   have r0:=cG p 0 rfl;have r1:=cG p 1 rfl;have r2:=cG p 2 rfl;have r3:=cG p 3 rfl;have r4:=cG p 4 rfl;have r5:=cG p 5 rfl;have r6:=cG p 6 rfl;have r7:=cG p 7 rfl;go_wp2_with (refine wpList_storeW rfl 53 (.tmp 2) (.tmp 70) rfl w.heap.size 0 _ _ (#[U Z g,U Z 0,J u (n-2) C,U Z 0,U Z 0,.bool false,U Z 0,J none 0 0]) rfl rfl QV (by simp) (by kernel_rfl) (by rfl) ?_;intro w4 T m av);obtain⟨q0,Q,q2,q3,R,S,q6,q7⟩:=kA8 T
   refine bodyPost_ret (v:=.tuple #[.agg #[U Z g,U Z 0,J u (n-2) C,U Z 0,U Z 0,.bool false,U Z 0,J none 0 0],U Z 0]) (by simp [results,Tryz.results176,go_sem,q0,Q,q2,q3,R,S,q6,q7]) rfl ?_;have Vg:∀q,u=N q→w.heap.size+1≤q.block:=fun q E=>by
    have:=(ao.out q.block (by rw[E];rfl)).1;simp at this;omega
   have uB:∀W,ay w.heap.size w4 W→Bs W (J u (n-2) C) Y:=fun W F=>
    ((j4.out.ah XV).qi m (fun q E e=>by have:=Vg q E;omega)).kj (fun q E=>by have:=Vg q E;omega) F
   rw[←WV.out] at uB ⊢;exact DecPost.is (x:=Rp.eP g Y) (oa:=none) (oc:=0) HS.out (fun W F=>⟨uB W F,cY.nil _,by show (0:Int)≤_;decide,by show _≤(0:Int);decide⟩) (P.trans (m.below P.size (fun k hk e=>by omega)))
 ·have HN:Hid (Rp.dec b=none):=by show _=_;rw[s,if_neg z]
  have WR:(G !=(n:Int)-2)=true:=by rw[bne_iff_ne];exact z
  clear s z;go_enter Tryz.func176,Tryz.ntmps176;go_wp2_with fail;refine(HK.out _).mono ?_;rintro r w1 ⟨rfl,rfl⟩;go_wp2_with fail;refine(I.out _).mono ?_;rintro r w1 ⟨rfl,rfl⟩;go_wp2;refine bodyPost_ret (v:=.tuple #[.agg #[U Z 0,U Z 0,J none 0 0,U Z 0,U Z 0,.bool false,U Z 0,J none 0 0],U Z 17]) (by simp [results,Tryz.results176,go_sem]) rfl ?_;exact DecPost.err HN.out 17 (by decide) (by decide) (bal'' w _)
