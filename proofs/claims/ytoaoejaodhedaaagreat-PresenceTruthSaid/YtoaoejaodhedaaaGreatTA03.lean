import Derived.Test.YtoaoejaodhedaaaGreatTA02
import Derived.Test.YtoaoejaodhedaaaGreatT34
namespace Go.Proofs.YtoaoejaodhedaaaGreat
open Go.RowKit
theorem TR (a:At) (w:World):Calls Tryz.prog 49 #[.agg a.C] w (aj w (Dg a)):=by
 obtain⟨bf,fault,pos,mask,ai,value⟩:=a;obtain⟨C,g⟩:=gE ((At.mk bf fault pos mask ai value).C);rw[g];obtain⟨n,o,f,k⟩:=eY w (.cells C 70);have t1:n.cell? ⟨w.heap.size,1,none⟩=some (.int .i64 fault):=by rw[hpCell k 1,←g];rfl
 have t4:n.cell? ⟨w.heap.size,4,none⟩=some (.int .i64 ai):=by rw[hpCell k 4,←g];rfl
 have c:=hid o;have b:=hid f;obtain⟨V,j⟩:∃V,Dg ⟨bf,fault,pos,mask,ai,value⟩=V:=⟨_,rfl⟩
 rw[j];have i:=hid (show (V=true↔fault=0∨fault=6∧ai≤750) from by rw[←j];exact decide_eq_true_iff);have m:Hid ((fault=0∨fault=6∧ai≤750)→V=true):=i.out.2;have l:Hid (¬(fault=0∨fault=6∧ai≤750)→V=false):=fun h=>by
  cases e:V with
  |false=>rfl
  |true=>exact absurd (i.out.1 e) h
 clear o f k g j i;by_cases c1:fault=0
 ·have d:=hid (m.out (.inl c1))
  subst c1;go_enter Tryz.func49,Tryz.ntmps49;go_upto_region 1 with(fail);rw[c.out]
  go_wp2;go_ret;exact⟨by rw[d.out]<;>rfl,b.out⟩
 have p:(fault==0)=false:=b0 c1;by_cases c2:fault=6
 ·subst c2
  by_cases c3:ai≤750
  ·have d:=hid (m.out (.inr ⟨rfl,c3⟩))
   go_enter Tryz.func49,Tryz.ntmps49;go_upto_region 1 with(fail);rw[c.out]
   go_wp2;go_ret;exact⟨by rw[d.out]<;>rfl,b.out⟩
  ·have d:=hid (l.out (by omega))
   go_enter Tryz.func49,Tryz.ntmps49;go_upto_region 1 with(fail);rw[c.out]
   go_wp2;go_ret;exact⟨by rw[d.out]<;>rfl,b.out⟩
 ·have d:=hid (l.out (by omega))
  have q:(fault==6)=false:=b0 c2;go_enter Tryz.func49,Tryz.ntmps49;go_upto_region 1 with(fail);rw[c.out]
  go_wp2;go_ret;exact⟨by rw[d.out]<;>rfl,b.out⟩
theorem nj.xaq {g d p n:Nat} {P:Nat→Prop} {c:Cf} {sv:Value} {f:Fx} {y0 y:Ms} {wc W0 W a:World} (l:nj g d P c sv f y0 p wc) (q:wc.heap.size≤W0.heap.size) (i:W0.heap.size≤W.heap.size) (o:Keeps P wc W) (h:nj g d (ax (ax P W0 W) W a) c sv f y n a) (m:Keeps (ax P W0 W) W a):nj g d (ax P W0 a) c sv f y n a∧Keeps P wc a:=by
 have k:Keeps P wc a:=o.trans m (fun j b e=>by
  rcases e with e|e
  ·exact e
  ·omega)
 refine⟨l.wide h k (fun j b=>b.step i m.size) (fun j b=>?_) (fun j b e=>?_),k⟩
 ·rcases b with e|e
  ·have:=l.AR j e
   have:=k.size;omega
  ·exact e.2
 ·rcases e with e|e
  ·exact e
  ·omega
