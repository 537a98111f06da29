import Derived.Test.YtoaoejaodhedaaaGreatF07
namespace Go.Proofs.YtoaoejaodhedaaaGreat
open Go.RowKit
set_option maxHeartbeats 1600000
variable {N b re:Nat} {ov sv:Value} {X w:World}
theorem XR {s:Sl} {a:Nat→Value} (k:nO X s a ov sv) (h:X.heap[b]?=some (.cells (SlC s a ov sv) 68)):dm X (.slice (some ⟨b,0,none⟩) 1 1) [s]:=by
 refine⟨some ⟨b,0,none⟩,1,rfl,Nat.le_refl 1,(by unfold maxLen;decide),(fun e=>by cases e),fun _=>⟨b,0,rfl,fun i x f=>?_⟩⟩;have hi:i=0:=by
  have g:=(List.getElem?_eq_some_iff.1 f).1;have m:i<1:=g;omega
 subst hi;have d:x=s:=by
  have c:some s=some x:=f;injection c with c
  exact c.symm
 subst d;refine⟨(SlC x a ov sv).toList,rfl,⟨a,ov,sv,rfl,k⟩,fun j u l=>?_⟩;rw[hpCell h];simpa using l
theorem Lk.pL.trans {s t v:Lk} (h:s.pL t) (k:t.pL v):s.pL v:=⟨k.b.trans h.b,k.p.trans h.p,k.re.trans h.re,k.ti.trans h.ti,k.dr.trans h.dr,k.fa.trans h.fa,k.fn.trans h.fn,k.fc.trans h.fc,k.un.trans h.un,k.q.trans h.q⟩
def vA (u:Nat→Bool):Nat→Nat
 |0=>0
 |i+1=>if u i=true then 0 else vA u i+1
theorem QK {u:Nat→Bool} {n:Nat}:∀m,(∀i,i<m→u (n+i)=false)→m≤vA u (n+m)
 |0,_=>Nat.zero_le _
 |m+1,h=>by
  have c:=QK m (fun i hi=>h i (by omega));have a:=h m (by omega);show m+1≤vA u ((n+m)+1);rw[vA,a,if_neg (by decide)];omega
theorem Kq {u:Nat→Bool} (h:∀i,i<N+re+1→vA u (i+1)≤re) {n:Nat} (f:n≤N):∃i,i≤re∧u (n+i)=true:=by
 rcases Classical.em (∃i,i≤re∧u (n+i)=true) with e|e
 ·exact e
 ·have a:=QK (u:=u) (n:=n) (re+1) (fun i hi=>by
   cases h2:u (n+i) with
   |false=>rfl
   |true=>exact absurd ⟨i,by omega,h2⟩ e)
  have c:=h (n+re) (by omega);have d:vA u (n+(re+1))=vA u (n+re+1):=rfl;omega
def Tc (a:At):Bool:=decide (a.fault=0∨a.fault=6∧a.ai≤750)
theorem Lv (a:At):Tc a=true↔NA a:=decide_eq_true_iff
def Ef (s:lg) (re:Nat):Prop:=∀i,i<s.aC.length+re+1→vA (fun j=>Tc (cA s.aC s.loop j)) (i+1)≤re
theorem Ef.any {s:lg} (h:Ef s re) (n:Nat):∃i,i≤re∧NA (cA s.aC s.loop (n+i)):=by
 by_cases l:n≤s.aC.length
 ·obtain ⟨i,c,a⟩:=Kq h l
  exact⟨i,c,(Lv _).1 a⟩
 ·by_cases d:s.aC.length=0∨s.loop=false
  ·refine ⟨0,Nat.zero_le _,?_⟩
   unfold cA;rw[if_pos (by rcases d with e|e;exact .inl e;exact .inr ⟨e,by omega⟩)];exact .inl rfl
  ·have f:0<s.aC.length:=by omega
   have j:=Nat.mod_lt n f;obtain⟨i,c,a⟩:=Kq h (n:=n%s.aC.length) (by omega);refine⟨i,c,?_⟩;have a:=(Lv _).1 a;have g:∀k,¬(s.aC.length=0∨(s.loop=false∧s.aC.length≤k)):=fun k e=>by
    rcases e with e|e
    ·omega
    ·exact d (.inr e.1)
   unfold cA at a ⊢;rw[if_neg (g _)] at a ⊢;rw[Nat.mod_add_mod] at a;exact a
theorem XK (a:At) (w:World):Calls Tryz.prog 49 #[.agg a.C] w (aj w (Tc a)):=by
 obtain⟨bf,fault,pos,mask,ai,value⟩:=a;obtain⟨C,i⟩:=gE ((At.mk bf fault pos mask ai value).C);rw[i];obtain⟨o,p,g,l⟩:=eY w (.cells C 70);have t1:o.cell? ⟨w.heap.size,1,none⟩=some (.int .i64 fault):=by rw[hpCell l 1,←i];rfl
 have t4:o.cell? ⟨w.heap.size,4,none⟩=some (.int .i64 ai):=by rw[hpCell l 4,←i];rfl
 have d:=hid p;have c:=hid g;obtain⟨V,k⟩:∃V,Tc ⟨bf,fault,pos,mask,ai,value⟩=V:=⟨_,rfl⟩
 rw[k];have j:=hid (show (V=true↔fault=0∨fault=6∧ai≤750) from by rw[←k];exact decide_eq_true_iff);have n:Hid ((fault=0∨fault=6∧ai≤750)→V=true):=j.out.2;have m:Hid (¬(fault=0∨fault=6∧ai≤750)→V=false):=fun h=>by
  cases e:V with
  |false=>rfl
  |true=>exact absurd (j.out.1 e) h
 clear p g l i k j;by_cases c1:fault=0
 ·have f:=hid (n.out (.inl c1))
  subst c1;go_enter Tryz.func49,Tryz.ntmps49;go_upto_region 1 with(fail);rw[d.out]
  go_wp2;go_ret;exact⟨by rw[f.out]<;>rfl,c.out⟩
 have q:(fault==0)=false:=b0 c1;by_cases c2:fault=6
 ·subst c2
  by_cases c3:ai≤750
  ·have f:=hid (n.out (.inr ⟨rfl,c3⟩))
   go_enter Tryz.func49,Tryz.ntmps49;go_upto_region 1 with(fail);rw[d.out]
   go_wp2;go_ret;exact⟨by rw[f.out]<;>rfl,c.out⟩
  ·have f:=hid (m.out (by omega))
   go_enter Tryz.func49,Tryz.ntmps49;go_upto_region 1 with(fail);rw[d.out]
   go_wp2;go_ret;exact⟨by rw[f.out]<;>rfl,c.out⟩
 ·have f:=hid (m.out (by omega))
  have r:(fault==6)=false:=b0 c2;go_enter Tryz.func49,Tryz.ntmps49;go_upto_region 1 with(fail);rw[d.out]
  go_wp2;go_ret;exact⟨by rw[f.out]<;>rfl,c.out⟩
def Cf.n (c:Cf):Int:=c.la-c.fi+1
structure Cf.ok (c:Cf):Prop where
 s1:1≤c.bj.length
 s6:c.bj.length≤6
 f1:1≤c.fi
 fl:c.fi≤c.la
 l2:c.la≤247
 aq:xch c.aq
 bj:∀x∈c.bj,tS x=true
theorem Cf.ok.n1 {c:Cf} (h:c.ok):1≤c.n∧c.n≤247:=by unfold Cf.n;have:=h.f1;have:=h.fl;have:=h.l2;omega
theorem Xv {a g e k:Nat} {P d Q:Nat→Prop} {c:Cf} {f:Fx} {y:Ms} {s:Lk} (h:nV a g e k P d Q c sv f y s w):Calls Tryz.prog 28 #[.pointer (some ⟨a,0,none⟩)] w fun r i=>r=.returned (.int .i64 y.now)∧w=i:=by
 have j:w.cell? ⟨a,19,none⟩=some (.int .i64 y.now):=hpCell h.at_ 19;clear h;go_enter Tryz.func28,Tryz.ntmps28;go_wp2;go_ret;exact⟨rfl,rfl⟩
theorem nj.step {i g p n:Nat} {P:Nat→Prop} {c:Cf} {sv:Value} {f:Fx} {y0 y:Ms} {W0 W a:World} (o:nj i g P c sv f y0 p W0) (k:Keeps P W0 W) (h:nj i g (ax (ax P W0 W) W a) c sv f y n a) (d:Keeps (ax P W0 W) W a):nj i g (ax P W0 a) c sv f y n a∧Keeps P W0 a:=by
 have m:Keeps P W0 a:=k.trans d (fun j l e=>by
  rcases e with e|e
  ·exact e
  ·omega)
 exact⟨o.base h m (fun j l=>l.step k.size d.size),m⟩
