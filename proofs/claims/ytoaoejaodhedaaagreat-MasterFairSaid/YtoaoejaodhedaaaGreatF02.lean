import Derived.Test.YtoaoejaodhedaaaGreatF01
namespace Go.Proofs.YtoaoejaodhedaaaGreat
open Go.RowKit
open Value renaming int→J
open IntKind renaming i64→M
set_option maxHeartbeats 3200000
set_option maxRecDepth 100000
variable {a b:List Ob}
theorem Cm:∀(a b:List Ob),fy a b=true→a.length=b.length
 |[],[],_=>rfl
 |x::a,y::b,h=>by
  simp only[fy,Bool.and_eq_true] at h;simp [Cm a b h.2]
 |[],_::_,h=>by simp [fy] at h
 |_::_,[],h=>by simp [fy] at h
theorem Cg:∀(a b:List Ob) (k:Nat) (x y:Ob),fy a b=true→a[k]?=some x→b[k]?=some y→x.same y=true
 |[],_,k,x,y,_,h,_=>by simp at h
 |_::_,[],k,x,y,_,_,h=>by simp at h
 |u::a,v::b,0,x,y,h,h1,h2=>by
  simp only[fy,Bool.and_eq_true] at h;simp at h1 h2;subst h1;subst h2;exact h.1
 |u::a,v::b,k+1,x,y,h,h1,h2=>by
  simp only[fy,Bool.and_eq_true] at h;exact Cg a b k x y h.2 (by simpa using h1) (by simpa using h2)
theorem Cd:∀(a b:List Ob),a.length=b.length→(∀(k:Nat) (x y:Ob),a[k]?=some x→b[k]?=some y→x.same y=true)→fy a b=true
 |[],[],_,_=>rfl
 |x::a,y::b,h,hk=>by
  simp only[fy,Bool.and_eq_true];exact⟨hk 0 x y rfl rfl,Cd a b (by simpa using h) (fun k x y c d=>hk (k+1) x y (by simpa using c) (by simpa using d))⟩
 |[],_::_,h,_=>by simp at h
 |_::_,[],h,_=>by simp at h
theorem O5 {k:Nat} {x y:Ob} (c:a[k]?=some x) (d:b[k]?=some y) (h:x.same y=false):fy a b=false:=by
 cases hx:fy a b with
 |false=>rfl
 |true=>rw[Cg a b k x y hx c d] at h;cases h
theorem GV (h:¬a.length=b.length):fy a b=false:=by
 cases hx:fy a b with
 |false=>rfl
 |true=>exact absurd (Cm a b hx) h
theorem Dn (v1 v2:Value) (l1 l2:List Ob) (w:World) (O:cY w v1 l1) (P:cY w v2 l2) (V:Bool) (A:Hid (fy l1 l2=V)):
  Calls Tryz.prog 56 #[v1,v2] w fun r Z=>r=.returned (.bool V)∧Below w.heap.size w Z:=by
 obtain⟨a1,n1,c1,rfl,q,Aj,ak,ab,o⟩:=O.open_;obtain⟨a2,G,c2,rfl,z,vG,ao,ad,p⟩:=P.open_;clear O P;replace o:=hid o;replace p:=hid p;have R:Hid (∀(W:World) (v:Value) (l:List UInt8),Bs W v l→(convert 50 9 v).run Tryz.prog W=.ok (.string ⟨l.toArray⟩) W):=fun W v l h=>QI Tryz.underlying50 Tryz.underlying5 h _ Tryz.underlying9
 by_cases K:n1=G
 ·subst K
  replace q:=hid q;replace z:=hid z;go_enter Tryz.func56,Tryz.ntmps56;go_wp2;go_loopw [5] (fun i wr=>∃k:Nat,k≤n1∧i=J M k∧Hid (∀(j:Nat) (x y:Ob),j<k→l1[j]?=some x→l2[j]?=some y→x.same y=true)∧Below w.heap.size w wr) (fun i _=>n1- (intOf i).toNat)
  case atStart=>exact⟨0,Nat.zero_le _,rfl,fun j x y h=>by omega,Below.refl _ _⟩
  case round=>
   obtain⟨k,hk,rfl,I,c⟩:=hrel;by_cases t:k<n1
   ·obtain ⟨x,D⟩:=get_some q.out t
    obtain⟨y,e⟩:=get_some z.out t;obtain⟨b1,o1,xa,xc,rfl,d1,L,B⟩:=o.out k x D;obtain⟨b2,o2,ya,yc,rfl,d2,N,C⟩:=p.out k y e;replace d1:=cell_keep c d1;replace d2:=cell_keep c d2;replace L:=cell_keep c L;replace N:=cell_keep c N;replace B:=B.ah c;replace C:=C.ah c;have s1:∀n,(convert 50 9 (.slice xa x.val.length xc)).run Tryz.prog (wr.drewN n)=.ok (.string ⟨x.val.toArray⟩) (wr.drewN n):=fun n=>R.out (wr.drewN n) _ _ B
    have s2:∀n,(convert 50 9 (.slice ya y.val.length yc)).run Tryz.prog (wr.drewN n)=.ok (.string ⟨y.val.toArray⟩) (wr.drewN n):=fun n=>R.out (wr.drewN n) _ _ C
    have s:=hid (O5 D e);have m:Hid (x.same y=(x.id==y.id&&x.val==y.val)):=rfl;have Y:=hid (show x.same y=true→∀(j:Nat) (u v:Ob),j<k+1→l1[j]?=some u→l2[j]?=some v→u.same v=true from fun hs j u v hj hu F=>by
     by_cases E:j=k
     ·subst E
      rw[D] at hu
      rw[e] at F
      cases hu;cases F
      exact hs
     ·exact I.out j u v (by omega) hu F)
    clear D e B C I;have T:(0:Int)≤(k:Int):=Int.natCast_nonneg _;have U:(k:Int)<(n1:Int):=by omega
    by_cases d:x.id=y.id
    ·by_cases f:x.val=y.val
     ·have S:=hid (Y.out (by rw[m.out];simp only[d,f,beq_self_eq_true,Bool.and_self]))
      have t1:(x.id !=y.id)=false:=by rw[d];simp
      have t2:(x.val==y.val)=true:=by simpa using f
      replace d:=hid d;replace f:=hid f;go_wp2;go_quiet (fail);go_wp2;go_roundw
      case rel=>exact⟨k+1,by omega,by go_num,S.out,below_drewN c _⟩
      case measure=>simp [intOf];omega
     ·have g:=hid (s.out (by rw[m.out,d];simp [f]))
      have t1:(x.id !=y.id)=false:=by rw[d];simp
      have t2:(x.val==y.val)=false:=by simpa using f
      replace d:=hid d;replace f:=hid f;go_wp2;go_quiet (fail);go_wp2;go_ret;exact⟨by rw[←A.out,g.out];rfl,below_drewN c _⟩
    ·have g:=hid (s.out (by rw[m.out];simp [d]))
     have t1:(x.id !=y.id)=true:=by simpa using d
     replace d:=hid d;go_wp2;go_quiet (fail);go_wp2;go_ret;exact⟨by rw[←A.out,g.out];rfl,below_drewN c _⟩
   ·obtain rfl:k=n1:=by omega
    have g:Hid (fy l1 l2=true):=Cd l1 l2 (by rw[q.out,z.out]) fun j x y Q X=>I.out j x y (by have:=(List.getElem?_eq_some_iff.1 Q).1;have:=q.out;omega) Q X
    go_wp2;go_ret;exact⟨by rw[←A.out,g.out];rfl,c⟩
 ·have g:=hid (GV (a:=l1) (b:=l2) (by rw[q,z];exact K))
  have t1:((n1:Int) !=(G:Int))=true:=by rw[bne_iff_ne];omega
  have t2:((n1:Int)==(G:Int))=false:=by rw[beq_eq_false_iff_ne];omega
  go_enter Tryz.func56,Tryz.ntmps56;go_wp2;go_ret;exact⟨by rw[←A.out,g.out];rfl,Below.refl _ _⟩
theorem XM (f1 o:Int) (e:Value) (c1 l1:Int) (m1:Bool) (n1:Int) (g:Value) (d1:List UInt8) (d:List Ob) (f2 p:Int) (f:Value) (c2 l2:Int) (m2:Bool) (n:Int) (i:Value) (d2:List UInt8) (o2:List Ob) (w:World)
  (j:Bs w e d1) (m:cY w g d) (k:Bs w f d2) (z:cY w i o2) (V:Bool) (A:Hid (Rp.same ⟨f1,o,d1,c1,l1,m1,n1,d⟩ ⟨f2,p,d2,c2,l2,m2,n,o2⟩=V)):
  Calls Tryz.prog 21 #[.agg #[J M f1,J M o,e,J M c1,J M l1,.bool m1,J M n1,g],.agg #[J M f2,J M p,f,J M c2,J M l2,.bool m2,J M n,i]] w fun r x=>r=.returned (.bool V)∧Below w.heap.size w x:=by
 have B:Hid (∀(W:World) (v:Value) (l:List UInt8),Bs W v l→(convert 50 9 v).run Tryz.prog W=.ok (.string ⟨l.toArray⟩) W):=fun W v l h=>QI Tryz.underlying50 Tryz.underlying5 h _ Tryz.underlying9
 have q:=hid j;have s:=hid k;have C:=hid m;have D:=hid z;have y:Hid (Rp.same ⟨f1,o,d1,c1,l1,m1,n1,d⟩ ⟨f2,p,d2,c2,l2,m2,n,o2⟩=(f1==f2&&o==p&&d1==d2&&c1==c2&&l1==l2&&m1==m2&&n1==n&&fy d o2)):=rfl;have u:Hid ((f1==f2&&o==p&&d1==d2&&c1==c2&&l1==l2&&m1==m2&&n1==n&&fy d o2)=V):=y.out▸A.out;clear y A;have c:∀X Y:Obj,Below w.heap.size w ((w.alloc X).alloc Y):=fun X Y=>(bal' w X).alloc (by simp) Y
 replace c:=hid c;have F:∀X Y:Obj,(convert 50 9 e).run Tryz.prog ((w.alloc X).alloc Y)=.ok (.string ⟨d1.toArray⟩) ((w.alloc X).alloc Y):=fun X Y=>B.out _ _ _ (q.out.ah (c.out X Y))
 have G:∀X Y:Obj,(convert 50 9 f).run Tryz.prog ((w.alloc X).alloc Y)=.ok (.string ⟨d2.toArray⟩) ((w.alloc X).alloc Y):=fun X Y=>B.out _ _ _ (s.out.ah (c.out X Y))
 have t:Hid (∀X Y:Obj,Calls Tryz.prog 56 #[g,i] ((w.alloc X).alloc Y) fun r x=>r=.returned (.bool (fy d o2))∧Below ((w.alloc X).alloc Y).heap.size ((w.alloc X).alloc Y) x):=fun X Y=>Dn _ _ d o2 _ (C.out.ah (c.out X Y)) (D.out.ah (c.out X Y)) _ rfl
 clear j k m z;generalize fy d o2=so at*;go_enter Tryz.func21,Tryz.ntmps21;go_wp2_with (first|(go_at_call 56;(with_reducible refine(t.out _ _).mono ?_);rintro r w1 ⟨rfl,E⟩))
 all_goals
  go_ret;refine⟨ret_bool ?_,by first|exact c.out _ _|exact bt (c.out _ _) (by assumption) (Nat.le_refl _)⟩;rw[←u.out]
  first|(simp [*];done)|rfl
theorem Lh (f a q c o:Int) (v:1≤f) (x:f≤4) (w:World):
  Calls Tryz.prog 30 #[.agg #[J M f,J M a,J M q,J M c,J M o]] w fun r u=>r=.returned (.bool (Rq.ok ⟨f,a,q,c,o⟩))∧Below w.heap.size w u:=by
 obtain⟨L,t⟩:=gE (cN f);have A:L≤2000:=by rw[←t];exact(lT f).2
 have k:Hid (∀W,Calls Tryz.prog 79 #[J M f] W fun r u=>r=.returned (J M L)∧W=u):=fun W=>by rw[←t];exact kI f W
 obtain⟨V,d⟩:∃V,Rq.ok ⟨f,a,q,c,o⟩=V:=⟨_,rfl⟩
 rw[d];unfold Rq.ok at d;rw[if_pos ⟨v,x⟩] at d;simp only at d;rw[t] at d;replace d:=hid d;have l:1≤q→q≤L→IntKind.i64.wrap (65536-q)=65536-q:=fun _ _=>IntWalk.i64_in _ (by omega)
 have n:Hid (∀X,Below w.heap.size w (w.alloc X)):=fun X=>bal' w X
 have p:=(show f=1∨f=2∨f=3∨f=4 by omega)
 clear t v x;rcases (show ¬0≤a∨(0≤a∧¬1≤q)∨(0≤a∧1≤q∧¬q≤L)∨(0≤a∧1≤q∧q≤L∧¬a≤65536-q)∨(0≤a∧1≤q∧q≤L∧a≤65536-q∧¬c=0)∨(0≤a∧1≤q∧q≤L∧a≤65536-q∧c=0) by omega) with g|⟨g,i⟩|⟨g,i,j⟩|⟨g,i,j,m⟩|⟨g,i,j,m,s⟩|⟨g,i,j,m,s⟩
 ·have d1:decide (0≤a)=false:=decide_eq_false g
  have e:V=false:=by rw[←d.out,d1];simp
  clear d l g;subst e;rcases p with rfl|rfl|rfl|rfl
  all_goals
   go_enter Tryz.func30,Tryz.ntmps30;go_wp2_with fail;go_quiet ((go_at_call 79;exact Calls.quiet_of_same ((k.out _).mono fun _ _ h=>⟨h.1,h.2.symm⟩)));go_wp2;go_ret;exact⟨rfl,below_drewN (n.out _) _⟩
 ·have d1:decide (0≤a)=true:=decide_eq_true g
  have d2:decide (1≤q)=false:=decide_eq_false i;have e:V=false:=by rw[←d.out,d2];simp
  clear d l g i;subst e;rcases p with rfl|rfl|rfl|rfl
  all_goals
   go_enter Tryz.func30,Tryz.ntmps30;go_wp2_with fail;go_quiet ((go_at_call 79;exact Calls.quiet_of_same ((k.out _).mono fun _ _ h=>⟨h.1,h.2.symm⟩)));go_wp2;go_ret;exact⟨rfl,below_drewN (n.out _) _⟩
 ·have d1:decide (0≤a)=true:=decide_eq_true g
  have d2:decide (1≤q)=true:=decide_eq_true i;have d3:decide (q≤L)=false:=decide_eq_false j;have e:V=false:=by rw[←d.out,d3];simp
  clear d l g i j;subst e;rcases p with rfl|rfl|rfl|rfl
  all_goals
   go_enter Tryz.func30,Tryz.ntmps30;go_wp2_with fail;go_quiet ((go_at_call 79;exact Calls.quiet_of_same ((k.out _).mono fun _ _ h=>⟨h.1,h.2.symm⟩)));go_wp2;go_ret;exact⟨rfl,below_drewN (n.out _) _⟩
 ·have d1:decide (0≤a)=true:=decide_eq_true g
  have d2:decide (1≤q)=true:=decide_eq_true i;have d3:decide (q≤L)=true:=decide_eq_true j;have d4:decide (a≤65536-q)=false:=decide_eq_false m;have y:=l i j;have e:V=false:=by rw[←d.out,d4];simp
  clear d l g i j m;subst e;rcases p with rfl|rfl|rfl|rfl
  all_goals
   go_enter Tryz.func30,Tryz.ntmps30;go_wp2_with fail;go_quiet ((go_at_call 79;exact Calls.quiet_of_same ((k.out _).mono fun _ _ h=>⟨h.1,h.2.symm⟩)));go_wp2;go_ret;exact⟨rfl,below_drewN (n.out _) _⟩
 ·have d1:decide (0≤a)=true:=decide_eq_true g
  have d2:decide (1≤q)=true:=decide_eq_true i;have d3:decide (q≤L)=true:=decide_eq_true j;have d4:decide (a≤65536-q)=true:=decide_eq_true m;have d5:(c==0)=false:=by simpa using s
  have y:=l i j;have e:V=false:=by rw[←d.out,d5];simp
  clear d l g i j m s;subst e;rcases p with rfl|rfl|rfl|rfl
  all_goals
   go_enter Tryz.func30,Tryz.ntmps30;go_wp2_with fail;go_quiet ((go_at_call 79;exact Calls.quiet_of_same ((k.out _).mono fun _ _ h=>⟨h.1,h.2.symm⟩)));go_wp2;go_ret;exact⟨rfl,below_drewN (n.out _) _⟩
 ·subst s
  have d1:decide (0≤a)=true:=decide_eq_true g;have d2:decide (1≤q)=true:=decide_eq_true i;have d3:decide (q≤L)=true:=decide_eq_true j;have d4:decide (a≤65536-q)=true:=decide_eq_true m;have y:=l i j;have e:(o==0)=V:=by rw[←d.out,d1,d2,d3,d4];simp
  have z:=hid e;clear d l g i j m e;rcases p with rfl|rfl|rfl|rfl
  all_goals
   go_enter Tryz.func30,Tryz.ntmps30;go_wp2_with fail;go_quiet ((go_at_call 79;exact Calls.quiet_of_same ((k.out _).mono fun _ _ h=>⟨h.1,h.2.symm⟩)));go_wp2;go_ret;exact⟨ret_bool z.out,below_drewN (n.out _) _⟩
theorem Lf (f a q c o:Int) (w:World):
  Calls Tryz.prog 30 #[.agg #[J M f,J M a,J M q,J M c,J M o]] w fun r j=>r=.returned (.bool (Rq.ok ⟨f,a,q,c,o⟩))∧Below w.heap.size w j:=by
 by_cases h:1≤f∧f≤4
 ·exact Lh f a q c o h.1 h.2 w
 ·obtain ⟨V,d⟩:∃V,Rq.ok ⟨f,a,q,c,o⟩=V:=⟨_,rfl⟩
  rw[d];unfold Rq.ok at d;rw[if_neg h] at d;simp only at d;have g:Hid (∀X,Below w.heap.size w (w.alloc X)):=fun X=>bal' w X
  by_cases e:f=17
  ·subst e
   rw[if_pos rfl] at d;replace d:=hid d;clear h;go_enter Tryz.func30,Tryz.ntmps30;go_wp2
   all_goals
    go_ret;refine⟨ret_bool ?_,g.out _⟩;rw[←d.out]
    first|rfl|(rw[Bool.eq_iff_iff];simp;done)|(rw[Bool.eq_iff_iff];simp;omega)
  ·rw [if_neg e] at d
   by_cases i:f=43
   ·subst i
    rw[if_pos rfl] at d;replace d:=hid d;clear h e;go_enter Tryz.func30,Tryz.ntmps30;go_wp2
    all_goals
     go_ret;refine⟨ret_bool ?_,g.out _⟩;rw[←d.out]
     first|rfl|(rw[Bool.eq_iff_iff];simp [*];done)|(rw[Bool.eq_iff_iff];simp;omega)
   ·rw [if_neg i] at d
    subst d;have k:(f==1)=false:=by rw[beq_eq_false_iff_ne];omega
    have l:(f==2)=false:=by rw[beq_eq_false_iff_ne];omega
    have m:(f==3)=false:=by rw[beq_eq_false_iff_ne];omega
    have n:(f==4)=false:=by rw[beq_eq_false_iff_ne];omega
    have p:(f==17)=false:=by rw[beq_eq_false_iff_ne];omega
    have s:(f==43)=false:=by rw[beq_eq_false_iff_ne];omega
    clear h e i;go_enter Tryz.func30,Tryz.ntmps30;go_wp2;go_ret;exact⟨rfl,g.out _⟩
