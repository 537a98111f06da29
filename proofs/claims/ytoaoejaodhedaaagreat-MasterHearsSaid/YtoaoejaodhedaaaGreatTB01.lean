import Derived.Test.YtoaoejaodhedaaaGreatT05
namespace Go.Proofs.YtoaoejaodhedaaaGreat
open Go.RowKit
open Option renaming some→J
open Value renaming int→M
open IntKind renaming i64→N
open Ending renaming returned→U
theorem NJ {P:Program} {w:World} {src e:TypeId} (hs:P.underlying src=J (.slice e)) (he:P.underlying e=J (.int .u8)) {v:Value} {l:List UInt8} (h:Bs w v l)
  (dst:TypeId) (d:P.underlying dst=J .string):(convert src dst v).run P w=.ok (.string ⟨l.toArray⟩) w:=by
 obtain⟨a,c,rfl,m,n,o,j⟩:=h;by_cases f:l=[]
 ·subst f
  cases a with
  |none=>exact run_convert_bytes_nil (P:=P) w src e hs he 0 c dst d
  |some a=>
   show (convert src dst (.slice (J a) 0 c)).run P w=_;rw[run_convert_bytes_string w src dst e (J a) 0 c hs he d,run_bytesToString w a 0 c [] (by simp [loadCells,loadCellsFrom])];rfl
 ·obtain ⟨b,off,rfl,k⟩:=j f
  have:=run_convert_bytes_arg (P:=P) w src e hs he b off l.length c (l.map fun x=>(x.toNat:Int)) (by simp) (fun i hi=>by rw[k i hi];simp [List.getD,hi]) dst d;rw[this];have g:strOfNums (l.map fun x=>(x.toNat:Int))=⟨l.toArray⟩:=by
   simp [strOfNums,Function.comp_def]
  rw[g]
theorem Tq (z:Value) (n:Nat):(madeCells #[z] n).toList=List.replicate n z:=by
 apply List.ext_getElem
 ·simp [size_madeCells]
 ·intro i a b
  simp [madeCells,Nat.mod_one]
theorem Jo {P:Program} {w:World} {ops:Array Oper} {rest:List Oper} {o:Oper} {a:Act} {Q:Exit→Act→World→Prop} (m:o.guard=none) (s x:Operand) (t:TypeId)
  (z:o.op=.call {callee:=.builtin .append,args:=#[s,x],argTypes:=#[t,t]})
  (base:Nat) (e:TypeId) (i:TypeInfo) (A:P.underlying t=J (.slice e)) (hi:P.info? e=J i) (D:i.zero=J (.int .u8 0))
  (E:i.size=1) (G:i.bytes=1)
  (v:Value) (xs:List UInt8) (hs:a.eval s=v) (d:w.ownsRow base e 1 v xs.length (u8s xs))
  (y:Value) (f:List UInt8) (B:a.eval x=y) (O:Bs w y f) (hlen:xs.length+f.length≤140737488355328) (F:base≤w.heap.size)
  (h:∀g k,k.ownsRow base e 1 g (xs.length+f.length) (u8s (xs++f))→w.grownBy k v.ownBlock→cZ w v g→wpList P ops Q rest (a.put o.dst g) k):wpList P ops Q (o::rest) a w:=by
 obtain⟨l,c,rfl,S,T,L,M⟩:=O;by_cases C:f=[]
 ·subst C
  cases l with
  |none=>
   obtain rfl:=L rfl;exact wpList_append_own_none m s x t z base e i 1 A hi v xs.length (u8s xs) hs d B (h v w (by simpa using d) (World.grownBy.refl _ _) (.inl rfl))
  |some l=>
   exact aL m s x t z base e i _ 1 1 A hi D E G rfl (by decide) v xs.length (u8s xs) hs d l 0 c [] B rfl (by simp) (by simp) (by unfold maxLen;simp at hlen;omega) (by simp at hlen;omega) F
    (fun g k p q r=>h g k (by simpa using p) q r)
 ·obtain ⟨b,off,rfl,N⟩:=M C
  refine aL m s x t z base e i _ 1 1 A hi D E G rfl (by decide) v xs.length (u8s xs) hs d ⟨b,off,none⟩ f.length c (u8s f) B (by simp) ?_ (lR f) (by unfold maxLen;omega) (by omega) F
    (fun g k p q r=>h g k (by rw[dF];exact p) q r)
  intro j u n;have I:j<f.length:=by
   have:=(List.getElem?_eq_some_iff.1 n).1;simpa using this
  rw[gW f j I] at n;have K:(⟨b,off,none⟩:Addr).add j=⟨b,off+j,none⟩:=by unfold Addr.add;split<;>simp_all
  rw[K,N j I];exact n
section
variable {P:Program} {w:World} {t:TypeId} {cs:List Value}
end
open Go.RowKit
section
variable {α:Type} {sz:Nat} {R:World→List Value→α→Prop}
end
open Go.RowKit
set_option maxHeartbeats 3200000
set_option maxRecDepth 100000
def Ob.same (a b:Ob):Bool:=a.id==b.id&&a.val==b.val
def eC:List Ob→List Ob→Bool
 |[],[]=>true
 |a::l,b::k=>a.same b&&eC l k
 |_,_=>false
def Rp.same (a b:Rp):Bool:=a.fn==b.fn&&a.ar==b.ar&&a.data==b.data&&a.code==b.code&&a.level==b.level&&a.more==b.more&&a.next==b.next&&eC a.ag b.ag
theorem Ob.zo (a:Ob):a.same a=true:=by simp [Ob.same]
theorem xU:∀l:List Ob,eC l l=true
 |[]=>rfl
 |a::l=>by simp [eC,a.zo,xU l]
theorem Rp.zo (a:Rp):a.same a=true:=by simp [Rp.same,xU]
theorem Ab:∀(a b:List Ob),eC a b=true→a.length=b.length
 |[],[],_=>rfl
 |x::a,y::b,h=>by
  simp only[eC,Bool.and_eq_true] at h;simp [Ab a b h.2]
 |[],_::_,h=>by simp [eC] at h
 |_::_,[],h=>by simp [eC] at h
theorem Aa:∀(a b:List Ob) (k:Nat) (x y:Ob),eC a b=true→a[k]?=J x→b[k]?=J y→x.same y=true
 |[],_,k,x,y,_,h,_=>by simp at h
 |_::_,[],k,x,y,_,_,h=>by simp at h
 |u::a,v::b,0,x,y,h,h1,h2=>by
  simp only[eC,Bool.and_eq_true] at h;simp at h1 h2;subst h1;subst h2;exact h.1
 |u::a,v::b,k+1,x,y,h,h1,h2=>by
  simp only[eC,Bool.and_eq_true] at h;exact Aa a b k x y h.2 (by simpa using h1) (by simpa using h2)
theorem zZ:∀(a b:List Ob),a.length=b.length→(∀(k:Nat) (x y:Ob),a[k]?=J x→b[k]?=J y→x.same y=true)→eC a b=true
 |[],[],_,_=>rfl
 |x::a,y::b,h,hk=>by
  simp only[eC,Bool.and_eq_true];exact⟨hk 0 x y rfl rfl,zZ a b (by simpa using h) (fun k x y c d=>hk (k+1) x y (by simpa using c) (by simpa using d))⟩
 |[],_::_,h,_=>by simp at h
 |_::_,[],h,_=>by simp at h
theorem L1 {a b:List Ob} {k:Nat} {x y:Ob} (c:a[k]?=J x) (d:b[k]?=J y) (h:x.same y=false):eC a b=false:=by
 cases hx:eC a b with
 |false=>rfl
 |true=>rw[Aa a b k x y hx c d] at h;cases h
theorem EB {a b:List Ob} (h:¬a.length=b.length):eC a b=false:=by
 cases hx:eC a b with
 |false=>rfl
 |true=>exact absurd (Ab a b hx) h
theorem Be (v1 v2:Value) (l1 o:List Ob) (w:World) (T:cY w v1 l1) (X:cY w v2 o) (V:Bool) (C:Hid (eC l1 o=V)):
  Calls Tryz.prog 56 #[v1,v2] w fun r w'=>r=U (.bool V)∧Below w.heap.size w w':=by
 obtain⟨a1,n1,c1,rfl,s,vj,av,ak,p⟩:=T.open_;obtain⟨a2,K,c2,rfl,B,td,aX,ao,q⟩:=X.open_;clear T X;replace p:=hid p;replace q:=hid q;have Z:Hid (∀(W:World) (v:Value) (l:List UInt8),Bs W v l→(convert 50 9 v).run Tryz.prog W=.ok (.string ⟨l.toArray⟩) W):=fun W v l h=>NJ Tryz.underlying50 Tryz.underlying5 h _ Tryz.underlying9
 by_cases O:n1=K
 ·subst O
  replace s:=hid s;replace B:=hid B;go_enter Tryz.func56,Tryz.ntmps56;go_wp2;go_loopw [5] (fun i wr=>∃k:Nat,k≤n1∧i=M N k∧Hid (∀(j:Nat) (x y:Ob),j<k→l1[j]?=J x→o[j]?=J y→x.same y=true)∧Below w.heap.size w wr) (fun i _=>n1- (intOf i).toNat)
  case atStart=>exact⟨0,Nat.zero_le _,rfl,fun j x y h=>by omega,Below.refl _ _⟩
  case round=>
   obtain⟨k,hk,rfl,L,c⟩:=hrel;by_cases A:k<n1
   ·obtain ⟨x,D⟩:=get_some s.out A
    obtain⟨y,e⟩:=get_some B.out A;obtain⟨b1,o1,xa,xc,rfl,d1,Q,E⟩:=p.out k x D;obtain⟨b2,o2,ya,yc,rfl,d2,S,F⟩:=q.out k y e;replace d1:=cell_keep c d1;replace d2:=cell_keep c d2;replace Q:=cell_keep c Q;replace S:=cell_keep c S;replace E:=E.ah c;replace F:=F.ah c;have s1:∀n,(convert 50 9 (.slice xa x.val.length xc)).run Tryz.prog (wr.drewN n)=.ok (.string ⟨x.val.toArray⟩) (wr.drewN n):=fun n=>Z.out (wr.drewN n) _ _ E
    have s2:∀n,(convert 50 9 (.slice ya y.val.length yc)).run Tryz.prog (wr.drewN n)=.ok (.string ⟨y.val.toArray⟩) (wr.drewN n):=fun n=>Z.out (wr.drewN n) _ _ F
    have z:=hid (L1 D e);have m:Hid (x.same y=(x.id==y.id&&x.val==y.val)):=rfl;have rA:=hid (show x.same y=true→∀(j:Nat) (u v:Ob),j<k+1→l1[j]?=J u→o[j]?=J v→u.same v=true from fun hs j u v hj hu I=>by
     by_cases G:j=k
     ·subst G
      rw[D] at hu
      rw[e] at I
      cases hu;cases I
      exact hs
     ·exact L.out j u v (by omega) hu I)
    clear D e E F L;have ab:(0:Int)≤(k:Int):=Int.natCast_nonneg _;have ad:(k:Int)<(n1:Int):=by omega
    by_cases d:x.id=y.id
    ·by_cases f:x.val=y.val
     ·have HT:=hid (rA.out (by rw[m.out];simp only[d,f,beq_self_eq_true,Bool.and_self]))
      have t1:(x.id !=y.id)=false:=by rw[d];simp
      have t2:(x.val==y.val)=true:=by simpa using f
      replace d:=hid d;replace f:=hid f;go_wp2;go_quiet (fail);go_wp2;go_roundw
      case rel=>exact⟨k+1,by omega,by go_num,HT.out,below_drewN c _⟩
      case measure=>simp [intOf];omega
     ·have g:=hid (z.out (by rw[m.out,d];simp [f]))
      have t1:(x.id !=y.id)=false:=by rw[d];simp
      have t2:(x.val==y.val)=false:=by simpa using f
      replace d:=hid d;replace f:=hid f;go_wp2;go_quiet (fail);go_wp2;go_ret;exact⟨by rw[←C.out,g.out];rfl,below_drewN c _⟩
    ·have g:=hid (z.out (by rw[m.out];simp [d]))
     have t1:(x.id !=y.id)=true:=by simpa using d
     replace d:=hid d;go_wp2;go_quiet (fail);go_wp2;go_ret;exact⟨by rw[←C.out,g.out];rfl,below_drewN c _⟩
   ·obtain rfl:k=n1:=by omega
    have g:Hid (eC l1 o=true):=zZ l1 o (by rw[s.out,B.out]) fun j x y Y hy=>L.out j x y (by have:=(List.getElem?_eq_some_iff.1 Y).1;have:=s.out;omega) Y hy
    go_wp2;go_ret;exact⟨by rw[←C.out,g.out];rfl,c⟩
 ·have g:=hid (EB (a:=l1) (b:=o) (by rw[s,B];exact O))
  have t1:((n1:Int) !=(K:Int))=true:=by rw[bne_iff_ne];omega
  have t2:((n1:Int)==(K:Int))=false:=by rw[beq_eq_false_iff_ne];omega
  go_enter Tryz.func56,Tryz.ntmps56;go_wp2;go_ret;exact⟨by rw[←C.out,g.out];rfl,Below.refl _ _⟩
theorem TS (f1 n:Int) (c:Value) (c1 l1:Int) (m1:Bool) (n1:Int) (e:Value) (d1:List UInt8) (b:List Ob) (f2 o:Int) (d:Value) (c2 k:Int) (m2:Bool) (m:Int) (f:Value) (d2:List UInt8) (o2:List Ob) (w:World)
  (g:Bs w c d1) (j:cY w e b) (i:Bs w d d2) (z:cY w f o2) (V:Bool) (A:Hid (Rp.same ⟨f1,n,d1,c1,l1,m1,n1,b⟩ ⟨f2,o,d2,c2,k,m2,m,o2⟩=V)):
  Calls Tryz.prog 21 #[.agg #[M N f1,M N n,c,M N c1,M N l1,.bool m1,M N n1,e],.agg #[M N f2,M N o,d,M N c2,M N k,.bool m2,M N m,f]] w fun r x=>r=U (.bool V)∧Below w.heap.size w x:=by
 have B:Hid (∀(W:World) (v:Value) (l:List UInt8),Bs W v l→(convert 50 9 v).run Tryz.prog W=.ok (.string ⟨l.toArray⟩) W):=fun W v l h=>NJ Tryz.underlying50 Tryz.underlying5 h _ Tryz.underlying9
 have p:=hid g;have q:=hid i;have C:=hid j;have D:=hid z;have y:Hid (Rp.same ⟨f1,n,d1,c1,l1,m1,n1,b⟩ ⟨f2,o,d2,c2,k,m2,m,o2⟩=(f1==f2&&n==o&&d1==d2&&c1==c2&&l1==k&&m1==m2&&n1==m&&eC b o2)):=rfl;have u:Hid ((f1==f2&&n==o&&d1==d2&&c1==c2&&l1==k&&m1==m2&&n1==m&&eC b o2)=V):=y.out▸A.out;clear y A;have a:∀X Y:Obj,Below w.heap.size w ((w.alloc X).alloc Y):=fun X Y=>(bal' w X).alloc (by simp) Y
 replace a:=hid a;have F:∀X Y:Obj,(convert 50 9 c).run Tryz.prog ((w.alloc X).alloc Y)=.ok (.string ⟨d1.toArray⟩) ((w.alloc X).alloc Y):=fun X Y=>B.out _ _ _ (p.out.ah (a.out X Y))
 have G:∀X Y:Obj,(convert 50 9 d).run Tryz.prog ((w.alloc X).alloc Y)=.ok (.string ⟨d2.toArray⟩) ((w.alloc X).alloc Y):=fun X Y=>B.out _ _ _ (q.out.ah (a.out X Y))
 have s:Hid (∀X Y:Obj,Calls Tryz.prog 56 #[e,f] ((w.alloc X).alloc Y) fun r x=>r=U (.bool (eC b o2))∧Below ((w.alloc X).alloc Y).heap.size ((w.alloc X).alloc Y) x):=fun X Y=>Be _ _ b o2 _ (C.out.ah (a.out X Y)) (D.out.ah (a.out X Y)) _ rfl
 clear g i j z;generalize eC b o2=so at*;go_enter Tryz.func21,Tryz.ntmps21;go_wp2_with (first|(go_at_call 56;(with_reducible refine(s.out _ _).mono ?_);rintro r w1 ⟨rfl,E⟩))
 all_goals
  go_ret;refine⟨ret_bool ?_,by first|exact a.out _ _|exact bt (a.out _ _) (by assumption) (Nat.le_refl _)⟩;rw[←u.out]
  first|(simp [*];done)|rfl
theorem IZ (f a q c o:Int) (v:1≤f) (x:f≤4) (w:World):
  Calls Tryz.prog 30 #[.agg #[M N f,M N a,M N q,M N c,M N o]] w fun r u=>r=U (.bool (Rq.ok ⟨f,a,q,c,o⟩))∧Below w.heap.size w u:=by
 obtain⟨L,s⟩:=gE (cN f);have A:L≤2000:=by rw[←s];exact(lT f).2
 have j:Hid (∀W,Calls Tryz.prog 79 #[M N f] W fun r u=>r=U (M N L)∧W=u):=fun W=>by rw[←s];exact kI f W
 obtain⟨V,b⟩:∃V,Rq.ok ⟨f,a,q,c,o⟩=V:=⟨_,rfl⟩
 rw[b];unfold Rq.ok at b;rw[if_pos ⟨v,x⟩] at b;simp only at b;rw[s] at b;replace b:=hid b;have k:1≤q→q≤L→IntKind.i64.wrap (65536-q)=65536-q:=fun _ _=>IntWalk.i64_in _ (by omega)
 have m:Hid (∀X,Below w.heap.size w (w.alloc X)):=fun X=>bal' w X
 have n:=(show f=1∨f=2∨f=3∨f=4 by omega)
 clear s v x;rcases (show ¬0≤a∨(0≤a∧¬1≤q)∨(0≤a∧1≤q∧¬q≤L)∨(0≤a∧1≤q∧q≤L∧¬a≤65536-q)∨(0≤a∧1≤q∧q≤L∧a≤65536-q∧¬c=0)∨(0≤a∧1≤q∧q≤L∧a≤65536-q∧c=0) by omega) with d|⟨d,g⟩|⟨d,g,i⟩|⟨d,g,i,l⟩|⟨d,g,i,l,p⟩|⟨d,g,i,l,p⟩
 ·have d1:decide (0≤a)=false:=decide_eq_false d
  have e:V=false:=by rw[←b.out,d1];simp
  clear b k d;subst e;rcases n with rfl|rfl|rfl|rfl
  all_goals
   go_enter Tryz.func30,Tryz.ntmps30;go_wp2_with fail;go_quiet ((go_at_call 79;exact Calls.quiet_of_same ((j.out _).mono fun _ _ h=>⟨h.1,h.2.symm⟩)));go_wp2;go_ret;exact⟨rfl,below_drewN (m.out _) _⟩
 ·have d1:decide (0≤a)=true:=decide_eq_true d
  have d2:decide (1≤q)=false:=decide_eq_false g;have e:V=false:=by rw[←b.out,d2];simp
  clear b k d g;subst e;rcases n with rfl|rfl|rfl|rfl
  all_goals
   go_enter Tryz.func30,Tryz.ntmps30;go_wp2_with fail;go_quiet ((go_at_call 79;exact Calls.quiet_of_same ((j.out _).mono fun _ _ h=>⟨h.1,h.2.symm⟩)));go_wp2;go_ret;exact⟨rfl,below_drewN (m.out _) _⟩
 ·have d1:decide (0≤a)=true:=decide_eq_true d
  have d2:decide (1≤q)=true:=decide_eq_true g;have d3:decide (q≤L)=false:=decide_eq_false i;have e:V=false:=by rw[←b.out,d3];simp
  clear b k d g i;subst e;rcases n with rfl|rfl|rfl|rfl
  all_goals
   go_enter Tryz.func30,Tryz.ntmps30;go_wp2_with fail;go_quiet ((go_at_call 79;exact Calls.quiet_of_same ((j.out _).mono fun _ _ h=>⟨h.1,h.2.symm⟩)));go_wp2;go_ret;exact⟨rfl,below_drewN (m.out _) _⟩
 ·have d1:decide (0≤a)=true:=decide_eq_true d
  have d2:decide (1≤q)=true:=decide_eq_true g;have d3:decide (q≤L)=true:=decide_eq_true i;have d4:decide (a≤65536-q)=false:=decide_eq_false l;have y:=k g i;have e:V=false:=by rw[←b.out,d4];simp
  clear b k d g i l;subst e;rcases n with rfl|rfl|rfl|rfl
  all_goals
   go_enter Tryz.func30,Tryz.ntmps30;go_wp2_with fail;go_quiet ((go_at_call 79;exact Calls.quiet_of_same ((j.out _).mono fun _ _ h=>⟨h.1,h.2.symm⟩)));go_wp2;go_ret;exact⟨rfl,below_drewN (m.out _) _⟩
 ·have d1:decide (0≤a)=true:=decide_eq_true d
  have d2:decide (1≤q)=true:=decide_eq_true g;have d3:decide (q≤L)=true:=decide_eq_true i;have d4:decide (a≤65536-q)=true:=decide_eq_true l;have d5:(c==0)=false:=by simpa using p
  have y:=k g i;have e:V=false:=by rw[←b.out,d5];simp
  clear b k d g i l p;subst e;rcases n with rfl|rfl|rfl|rfl
  all_goals
   go_enter Tryz.func30,Tryz.ntmps30;go_wp2_with fail;go_quiet ((go_at_call 79;exact Calls.quiet_of_same ((j.out _).mono fun _ _ h=>⟨h.1,h.2.symm⟩)));go_wp2;go_ret;exact⟨rfl,below_drewN (m.out _) _⟩
 ·subst p
  have d1:decide (0≤a)=true:=decide_eq_true d;have d2:decide (1≤q)=true:=decide_eq_true g;have d3:decide (q≤L)=true:=decide_eq_true i;have d4:decide (a≤65536-q)=true:=decide_eq_true l;have y:=k g i;have e:(o==0)=V:=by rw[←b.out,d1,d2,d3,d4];simp
  have z:=hid e;clear b k d g i l e;rcases n with rfl|rfl|rfl|rfl
  all_goals
   go_enter Tryz.func30,Tryz.ntmps30;go_wp2_with fail;go_quiet ((go_at_call 79;exact Calls.quiet_of_same ((j.out _).mono fun _ _ h=>⟨h.1,h.2.symm⟩)));go_wp2;go_ret;exact⟨ret_bool z.out,below_drewN (m.out _) _⟩
theorem IW (f a q c o:Int) (w:World):
  Calls Tryz.prog 30 #[.agg #[M N f,M N a,M N q,M N c,M N o]] w fun r i=>r=U (.bool (Rq.ok ⟨f,a,q,c,o⟩))∧Below w.heap.size w i:=by
 by_cases h:1≤f∧f≤4
 ·exact IZ f a q c o h.1 h.2 w
 ·obtain ⟨V,b⟩:∃V,Rq.ok ⟨f,a,q,c,o⟩=V:=⟨_,rfl⟩
  rw[b];unfold Rq.ok at b;rw[if_neg h] at b;simp only at b;have e:Hid (∀X,Below w.heap.size w (w.alloc X)):=fun X=>bal' w X
  by_cases d:f=17
  ·subst d
   rw[if_pos rfl] at b;replace b:=hid b;clear h;go_enter Tryz.func30,Tryz.ntmps30;go_wp2
   all_goals
    go_ret;refine⟨ret_bool ?_,e.out _⟩;rw[←b.out]
    first|rfl|(rw[Bool.eq_iff_iff];simp;done)|(rw[Bool.eq_iff_iff];simp;omega)
  ·rw [if_neg d] at b
   by_cases g:f=43
   ·subst g
    rw[if_pos rfl] at b;replace b:=hid b;clear h d;go_enter Tryz.func30,Tryz.ntmps30;go_wp2
    all_goals
     go_ret;refine⟨ret_bool ?_,e.out _⟩;rw[←b.out]
     first|rfl|(rw[Bool.eq_iff_iff];simp [*];done)|(rw[Bool.eq_iff_iff];simp;omega)
   ·rw [if_neg g] at b
    subst b;have j:(f==1)=false:=by rw[beq_eq_false_iff_ne];omega
    have k:(f==2)=false:=by rw[beq_eq_false_iff_ne];omega
    have l:(f==3)=false:=by rw[beq_eq_false_iff_ne];omega
    have m:(f==4)=false:=by rw[beq_eq_false_iff_ne];omega
    have n:(f==17)=false:=by rw[beq_eq_false_iff_ne];omega
    have p:(f==43)=false:=by rw[beq_eq_false_iff_ne];omega
    clear h d g;go_enter Tryz.func30,Tryz.ntmps30;go_wp2;go_ret;exact⟨rfl,e.out _⟩
structure Tb where
 st:Int
 al:Int
 map:List (Int×Int)
structure Dv where
 st:Int
 idn:Int
 lv:Int
 ag:List Ob
 srv:Int
 sd:List UInt8
 ts:Nat→Tb
def Dv.zero:Dv:=⟨0,0,0,[],0,[],fun _=>⟨0,0,[]⟩⟩
def FO (l:List Ob) (r:Ending):Prop:=∃s:Nat,r=U (M N s)∧(s≤246↔aB l≤246)
def FK (l:List Ob) (k s:Nat):Prop:=s≤600∧(s≤246→s=aB (l.take k))∧(246<s→246<aB l)
theorem FK.step {l:List Ob} {k s:Nat} {x:Ob} (h:FK l k s) (hs:s≤246) (c:l[k]?=J x) (m:Nat) (hm:m=min x.val.length 300):FK l (k+1) (s+(2+m)):=by
 obtain⟨d,a,f⟩:=h;have e:aB (l.take (k+1))=aB (l.take k)+(2+x.val.length):=by rw[az c,eI]
 have b:=fA (l.drop (k+1)) (l.take (k+1));rw[List.take_append_drop] at b;have g:=a hs;refine⟨by omega,fun h=>by omega,fun h=>by omega⟩
theorem TY (v:Value) (l:List Ob) (w:World) (y:cY w v l):
  Calls Tryz.prog 98 #[v] w fun r G=>FO l r∧w=G:=by
 obtain⟨a,n,c,rfl,e,L,O,I,p⟩:=y.open_;clear y;replace p:=hid p;replace e:=hid e;go_enter Tryz.func98,Tryz.ntmps98;go_wp2;go_loop [3,4] (fun sv i=>∃k s:Nat,k≤n∧i=M N k∧sv=M N s∧FK l k s) (fun _ i=>n- (intOf i).toNat)
 case atStart=>exact⟨0,0,Nat.zero_le _,rfl,rfl,by omega,fun _=>rfl,fun h=>by omega⟩
 case round=>
  obtain⟨k,s,K,rfl,rfl,d⟩:=hrel;have E:=d.1;replace d:=hid d;by_cases g:k<n
  ·by_cases hs:s≤246
   ·obtain ⟨x,q⟩:=get_some e.out g
    obtain⟨b,o,Q,S,rfl,_,d2,u⟩:=p.out k x q;have j:=u.len;unfold maxLen at j;obtain⟨m,hm⟩:∃m,m=min x.val.length 300:=⟨_,rfl⟩
    have F:=hid (d.out.step hs q m hm);have B:(k:Int)<(n:Int):=by omega
    clear q u;generalize x.val.length=z at*;have D:(if (300:Int)<(z:Int) then (300:Int) else (z:Int))=(m:Int):=by split<;>omega
    have C:m≤300:=by omega
    replace hm:=hid hm;go_wp2;go_round
    case rel=>exact⟨k+1,s+(2+m),by omega,by go_num,by go_num,F.out⟩
    case measure=>simp [intOf];omega
   ·have f:Hid (FO l (U (M N s))):=⟨s,rfl,by have:=d.out.2.2 (by omega);omega⟩
    go_wp2;go_ret;exact⟨f.out,rfl⟩
  ·obtain rfl:k=n:=by omega
   have f:Hid (FO l (U (M N s))):=by
    refine⟨s,rfl,?_⟩;have A:=d.out.2.1;have J:=d.out.2.2;rw[←e.out,List.take_length] at A;omega
   go_wp2;go_ret;exact⟨f.out,rfl⟩
def Oo (w:World) (sz:Nat) (y:Value) (m:Nat) (news:List Value):Prop:=
 ∃a c,y=.slice a m c∧news.length=m*sz∧(a=none→m=0∧c=0)∧∀ad,a=J ad→∀(j:Nat) u,news[j]?=J u→w.cell? (ad.add j)=J u
theorem Pm {P:Program} {w:World} {ops:Array Oper} {o:Oper} {a:Act} {K:Act→World→Prop} {Q:Exit→Act→World→Prop} {E:Prop} (j:o.guard=none) (s x:Operand) (t:TypeId)
  (l:o.op=.call {callee:=.builtin .append,args:=#[s,x],argTypes:=#[t,t]})
  (base:Nat) (e:TypeId) (i:TypeInfo) (z:Value) (size bytes:Nat) (p:P.underlying t=J (.slice e)) (hi:P.info? e=J i) (I:i.zero=J z)
  (r:i.size=size) (O:i.bytes=bytes) (B:z.cells.size=size) (N:0<size)
  (v:Value) (n:Nat) (xs:List Value) (hs:a.eval s=v) (b:w.ownsRow base e size v n xs)
  (y:Value) (m:Nat) (news:List Value) (q:a.eval x=y) (G:Oo w size y m news) (C:∀u∈news,u.oneCell'=true)
  (A:n+m≤maxLen) (L:(n+m)*bytes≤140737488355328) (M:base≤w.heap.size)
  (h:∀f g,g.ownsRow base e size f (n+m) (xs++news)→w.grownBy g v.ownBlock→cZ w v f→K (a.put o.dst f) g):
  if Region.wanted o (yielded ops a.tmps)=true then Oper.wp P o a w K Q else E:=by
 obtain⟨d,c,rfl,k,F,D⟩:=G;cases d with
 |some d=>exact step_appN j s x t l base e i z size bytes p hi I r O B N v n xs hs b d m c news q k (D d rfl) C A L M h
 |none=>
  obtain⟨rfl,rfl⟩:=F rfl;obtain rfl:news=[]:=List.eq_nil_of_length_eq_zero (by simpa using k);have hw:Region.wanted o (yielded ops a.tmps)=true:=by simp [Region.wanted,j]
  rw[if_pos hw];subst r;have S:=run_append_owned_none (P:=P) (w:=w) base t o.type e i i.size p hi v n xs b;unfold Oper.wp execOp;simp only[l,resolve,invoke,builtin,Sem.run_bind,Sem.run_pure,Result.andThen_ok,List.map_toArray,List.map_cons,List.map_nil,hs,q,S];exact h v w (by simpa using b) (World.grownBy.refl _ _) (.inl rfl)
theorem Oo.ah {w b:World} {sz:Nat} {y:Value} {m:Nat} {news:List Value} (h:Oo w sz y m news) (l:Below w.heap.size w b):Oo b sz y m news:=by
 obtain⟨a,c,f,g,i,k⟩:=h;exact⟨a,c,f,g,i,fun d e j u n=>cell_keep l (k d e j u n)⟩
def dA:Dv:={Dv.zero with st:=1}
