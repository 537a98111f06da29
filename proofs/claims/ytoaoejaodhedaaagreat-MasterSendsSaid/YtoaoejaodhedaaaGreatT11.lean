import Derived.Test.YtoaoejaodhedaaaGreatT10
namespace Go.Proofs.YtoaoejaodhedaaaGreat
open Go.RowKit
open Value renaming slice→J,int→U
open Option renaming none→M,some→N
open IntKind renaming i64→Z
open Obj renaming cells→Y
open Ending renaming returned→K
set_option maxHeartbeats 6400000
set_option maxRecDepth 100000
variable {a b c:Nat} {w w':World}
def zy (w:World) (o:Option Rq) (r:Ending) (w':World):Prop:=
 match o with
 |some q=>r=K (.tuple #[.agg #[U Z q.fn,U Z q.addr,U Z q.aF,U Z q.code,U Z q.obj],U Z 0])∧Below w.heap.size w w'
 |none=>∃e:Int,¬e=0∧r=K (.tuple #[.agg #[U Z 0,U Z 0,U Z 0,U Z 0,U Z 0],U Z e])∧Below w.heap.size w w'
theorem aS:(Tryz.prog.info? 45).map (·.size)=N 5:=by kernel_rfl
theorem uu (f:Int) (w:World):Calls Tryz.prog 154 #[U Z f] w fun r w'=>r=K (.bool (decide (1≤f∧f≤4)))∧w=w':=by
 by_cases d:1≤f
 ·have d1:decide (1≤f)=true:=decide_eq_true d
  by_cases e:f≤4
  ·have d2:decide (f≤4)=true:=decide_eq_true e
   have g:Hid (decide (1≤f∧f≤4)=true):=decide_eq_true ⟨d,e⟩;clear d e;go_enter Tryz.func154,Tryz.ntmps154;go_wp2;go_ret;exact⟨by rw[g.out]<;>rfl,rfl⟩
  ·have d2:decide (f≤4)=false:=decide_eq_false e
   have g:Hid (decide (1≤f∧f≤4)=false):=decide_eq_false (fun h=>e h.2);clear d e;go_enter Tryz.func154,Tryz.ntmps154;go_wp2;go_ret;exact⟨by rw[g.out]<;>rfl,rfl⟩
 ·have d1:decide (1≤f)=false:=decide_eq_false d
  have g:Hid (decide (1≤f∧f≤4)=false):=decide_eq_false (fun h=>d h.1);clear d;go_enter Tryz.func154,Tryz.ntmps154;go_wp2;go_ret;exact⟨by rw[g.out]<;>rfl,rfl⟩
theorem Ck (f:Int) (w:World):Calls Tryz.prog 221 #[U Z f] w fun r w'=>r=K (U Z (nJ f))∧w=w':=by
 have i:=hid (uu f);unfold nJ;by_cases d:1≤f∧f≤4
 ·have d1:decide (1≤f∧f≤4)=true:=decide_eq_true d
  rw[d1] at i;rw[if_pos d];clear d d1;go_enter Tryz.func221,Tryz.ntmps221;go_wp2_with (go_at_call 154;(with_reducible refine(i.out _).mono ?_);rintro r j ⟨rfl,rfl⟩);go_ret;exact⟨rfl,rfl⟩
 ·have d1:decide (1≤f∧f≤4)=false:=decide_eq_false d
  rw[d1] at i;rw[if_neg d];clear d d1;by_cases g:f=17
  ·have k:(f==17)=true:=b1 g
   rw[if_pos g];clear g;go_enter Tryz.func221,Tryz.ntmps221;go_wp2_with (go_at_call 154;(with_reducible refine(i.out _).mono ?_);rintro r j ⟨rfl,rfl⟩);go_ret;exact⟨rfl,rfl⟩
  ·have k:(f==17)=false:=b0 g
   rw[if_neg g];clear g;by_cases e:f=43
   ·have l:(f==43)=true:=b1 e
    rw[if_pos e];clear e;go_enter Tryz.func221,Tryz.ntmps221;go_wp2_with (go_at_call 154;(with_reducible refine(i.out _).mono ?_);rintro r j ⟨rfl,rfl⟩);go_ret;exact⟨rfl,rfl⟩
   ·have l:(f==43)=false:=b0 e
    rw[if_neg e];clear e;go_enter Tryz.func221,Tryz.ntmps221;go_wp2_with (go_at_call 154;(with_reducible refine(i.out _).mono ?_);rintro r j ⟨rfl,rfl⟩);go_ret;exact⟨rfl,rfl⟩
theorem sq (v:Value) (l:List UInt8) (w:World) (hv:Bs w v l) (o:Option Rq) (ho:Hid (ek l=o)):Calls Tryz.prog 204 #[v] w (zy w o):=by
 obtain⟨T,ak⟩:∃W,w.alloc (Y #[U Z 0,U Z 0,U Z 0,U Z 0,U Z 0] 45)=W:=⟨_,rfl⟩
 have D:Below w.heap.size w T:=by rw[←ak];exact bal' w _
 obtain⟨g,cV⟩:=gE w.heap.size;have Sj:T.heap[g]?=N (Y #[U Z 0,U Z 0,U Z 0,U Z 0,U Z 0] 45):=by rw[←ak,←cV];exact hpNew w _
 have HZ:=hid cV;have ad:=hid D;have I:=hid ak;have uW:=hid Sj;obtain⟨n,hn⟩:=gE l.length;have jT:=hv.len;rw[hn] at jT;unfold maxLen at jT;by_cases h0:n=0
 ·have B:Hid (o=none):=by show _=_;rw[←ho.out];unfold ek;rw[if_pos (.inl (by rw[hn];exact h0))]
  have u:Hid (∀d,Keeps (· =g) T d→Below w.heap.size w d):=fun d h=>D.trans (h.below D.size (fun j hj e=>by omega))
  obtain⟨a,c,rfl,-⟩:=id hv;rw[hn,h0];have q:=Sj;clear hv ak D cV Sj hn h0 jT;go_enter Tryz.func204,Tryz.ntmps204;go_upto_region 1 with(fail)
  rw[I.out,HZ.out];go_wp2_with (refine wpList_storeW rfl 45 (.tmp 2) (.tmp 9) rfl g 0 _ 45 #[U Z 0,U Z 0,U Z 0,U Z 0,U Z 0] rfl rfl q (by simp) aS rfl ?_;intro d z f y);have A:d.heap[g]?=N (Y #[U Z 0,U Z 0,U Z 0,U Z 0,U Z 0] 45):=z;refine bodyPost_ret (results_ct_row rfl _ _ g 45 _ (0,0) _ rfl A Tryz.underlying45 rfl aS) rfl ?_;rw[B.out];exact⟨4,by decide,rfl,u.out _ f⟩
 obtain⟨b,off,c,rfl,J9,cj,hc⟩:=hv.at (by intro e;rw[e] at hn;exact h0 hn.symm);rw[hn] at J9 hc ⊢;have gp:(0:Int)<(n:Int):=by omega
 have gn:((n:Int)==0)=false:=b0 (by omega);have zd:Hid (b<w.heap.size):=fg (hc 0 (by omega));have HC:Hid (∀X,Below w.heap.size w X→∀i,i<n→X.cell? ⟨b,off+i,M⟩=N (U .u8 (aI l i))):=fun X hX i hi=>cell_keep hX (hc i hi)
 have c0:T.cell? ⟨b,off,M⟩=N (U .u8 (aI l 0)):=HC.out T D 0 (by omega);have hF:0≤aI l 0∧aI l 0≤255:=by unfold aI;have:=(l.getD 0 0).toNat_lt;omega
 obtain⟨F,ao⟩:=gE (aI l 0);rw[ao] at c0 hF;obtain⟨m,fp⟩:∃W,T.alloc (Y #[U Z F,U Z 0,U Z 0,U Z 0,U Z 0] 45)=W:=⟨_,rfl⟩
 have ab:Below T.heap.size T m:=by rw[←fp];exact bal' T _
 obtain⟨t,Rs⟩:=gE T.heap.size;have E:m.heap[t]?=N (Y #[U Z F,U Z 0,U Z 0,U Z 0,U Z 0] 45):=by rw[←fp,←Rs];exact hpNew T _
 have q0:=hpCell E 0;have q0:m.cell? ⟨t,0,M⟩=N (U Z F):=q0;have jy:=hid fp;have Em:=hid Rs;have mK:=bt D ab (Nat.le_refl _);have O:=hid mK;have q:=hpKeep Sj ab;have u:Hid (∀d,Keeps (· =g) m d→Below w.heap.size w d):=fun d h=>mK.trans (h.below mK.size (fun j hj e=>by omega))
 have CT:=hid ao;have HN:=hid hn;obtain⟨L,hL⟩:∃L:Nat,nJ F=L:=⟨_,rfl⟩
 have P:Hid (∀X,Calls Tryz.prog 221 #[U Z F] X fun r w'=>r=K (U Z (L:Int))∧X=w'):=fun X=>by rw[←hL];exact Ck F X
 have HL:=hid hL;have av:g<t:=by have:=D.size;have:=hpLt Sj;omega
 have aX:=hid av;clear hv ak D cV Sj hn jT hc ao fp ab Rs hL mK av;by_cases h1:L=0
 ·have B:Hid (o=none):=by show _=_;rw[←ho.out];unfold ek;rw[if_pos (.inr (.inl (by rw[CT.out,HL.out];exact h1)))]
  have g1:((L:Int)==0)=true:=b1 (by omega);clear h1;go_enter Tryz.func204,Tryz.ntmps204;go_upto_region 1 with(fail)
  rw[I.out,HZ.out];go_upto_region 4 with(fail)
  rw[jy.out,Em.out];go_wp2_with (first|(go_at_call 221;(with_reducible refine(P.out _).mono ?_);rintro r k ⟨rfl,rfl⟩)|(go_at_call 154;(with_reducible refine(qU.out _).mono ?_);rintro r k ⟨rfl,rfl⟩)|(refine wpList_storeW rfl 45 (.tmp 2) (.tmp 21) rfl g 0 _ 45 #[U Z 0,U Z 0,U Z 0,U Z 0,U Z 0] rfl rfl q (by simp) aS rfl ?_;intro d z f y));have A:d.heap[g]?=N (Y #[U Z 0,U Z 0,U Z 0,U Z 0,U Z 0] 45):=z;refine bodyPost_ret (results_ct_row rfl _ _ g 45 _ (0,0) _ rfl A Tryz.underlying45 rfl aS) rfl ?_;rw[B.out];exact⟨16,by decide,rfl,u.out _ f⟩
 have g1:((L:Int)==0)=false:=b0 (by omega);have j7:1≤n:=by omega
 by_cases h2:n=L
 ·have g2:((n:Int) !=(L:Int))=false:=by rw[bne_eq_false_iff_eq];omega
  have XL:Hid (¬(F=43∧aI l 1≠14)→ek l=if (gf l).ok=false then none else some (gf l)):=fun h=>by
   unfold ek;rw[CT.out,HL.out,HN.out];by_cases e:(gf l).ok=false
   ·rw [if_pos (.inr (.inr (.inr (.inr e)))),if_pos e]
   ·rw [if_neg,if_neg e]
    rintro (e2|e2|e2|e2|e2)
    ·exact h0 e2
    ·exact h1 e2
    ·exact e2 h2
    ·exact h e2
    ·exact e e2
  have hle:L=nJ F:=HL.out.symm;have rH:Hid (∀i,0≤aI l i∧aI l i<256):=fun i=>by have:=dZ l i;omega
  unfold nJ at hle;by_cases h3:1≤F∧F≤4
  ·rw [if_pos h3] at hle
   have h5:n=5:=by omega
   have g3:(F==43)=false:=b0 (by omega);have qU:Hid (∀X,Calls Tryz.prog 154 #[U Z F] X fun r w'=>r=K (.bool true)∧X=w'):=fun X=>by have:=uu F X;rw[decide_eq_true h3] at this;exact this
   have Ek:Hid (gf l=⟨F,aI l 1*256+aI l 2,aI l 3*256+aI l 4,0,0⟩):=by show _=_;unfold gf;rw[CT.out,if_pos h3]
   have uZ:=hid (XL.out (fun e=>by omega));have i1:(1:Int)<(n:Int):=by omega
   have i2:(2:Int)<(n:Int):=by omega
   have i3:(3:Int)<(n:Int):=by omega
   have i4:(4:Int)<(n:Int):=by omega
   have c1:m.cell? ⟨b,off+1,M⟩=N (U .u8 (aI l 1)):=HC.out m O.out 1 (by omega);have c2:m.cell? ⟨b,off+2,M⟩=N (U .u8 (aI l 2)):=HC.out m O.out 2 (by omega);have c3:m.cell? ⟨b,off+3,M⟩=N (U .u8 (aI l 3)):=HC.out m O.out 3 (by omega);have c4:m.cell? ⟨b,off+4,M⟩=N (U .u8 (aI l 4)):=HC.out m O.out 4 (by omega);have d1:=rH.out 1;have d2:=rH.out 2;have d3:=rH.out 3;have d4:=rH.out 4;generalize aI l 1=J at*;generalize aI l 2=s at*;generalize aI l 3=p at*;generalize aI l 4=y4 at*;have s1:IntKind.i64.wrap (J*256)=J*256:=IntWalk.i64_in _ (by omega);have s3:IntKind.i64.wrap (p*256)=p*256:=IntWalk.i64_in _ (by omega);have o1:=Bk J s d1.1 d1.2 d2.1 d2.2;have o3:=Bk p y4 d3.1 d3.2 d4.1 d4.2;have r1:=hpCell E 1;have r2:=hpCell E 2;have f1:=hpFree E 1;have f2:=hpFree E 2;clear h1 h2 h3 hle h5 J9 cj;go_enter Tryz.func204,Tryz.ntmps204;go_upto_region 1 with(fail)
   rw[I.out,HZ.out];go_upto_region 4 with(fail)
   rw[jy.out,Em.out];go_upto_region 12 with(first|(go_at_call 221;(with_reducible refine(P.out _).mono ?_);rintro r k ⟨rfl,rfl⟩)|(go_at_call 154;(with_reducible refine(qU.out _).mono ?_);rintro r k ⟨rfl,rfl⟩))
   go_region;obtain⟨R,C⟩:∃W,((m.setCell ⟨t,1,M⟩ (U Z (J*256+s))).setCell ⟨t,2,M⟩ (U Z (p*256+y4))).drew=W:=⟨_,rfl⟩
   have S:R.heap[t]?=N (Y #[U Z F,U Z (J*256+s),U Z (p*256+y4),U Z 0,U Z 0] 45):=by rw[←C];exact hpKeep (cS (cS E rfl) rfl) (Below.refl _ _).drew
   have G:Keeps (fun j=>j=t) m R:=by rw[←C];exact(ks1 (ks1 (Keeps.refl _ _) _ _) _ _).trans (Keeps.af (F:=fun _=>False) (Below.refl _ _).drew) (fun _ _ e=>e.elim)
   have gM:=hpKeeps q G (by have:=aX.out;omega);have yJ:Below w.heap.size w R:=O.out.trans (G.below O.out.size (fun j hj e=>by have:=ad.out.size;have:=Em.out;omega));have nR:Hid (∀d k,Below R.heap.size R k→Keeps (· =g) k d→Below w.heap.size w d):=fun d k h4 h=>(bt yJ h4 (Nat.le_refl _)).trans (h.below (by have:=yJ.size;have:=h4.size;omega) (fun j hj e=>by have:=HZ.out;omega))
   rw[C];clear C G yJ r1 r2 f1 f2 c0 c1 c2 c3 c4 q0 E q u;obtain⟨V,Q⟩:=gE ((gf l).ok);have qn:Hid (∀X,Calls Tryz.prog 121 #[.agg #[U Z F,U Z (J*256+s),U Z (p*256+y4),U Z 0,U Z 0]] X (aj X V)):=(fun X=>by have h:=b9 F (J*256+s) (p*256+y4) 0 0 X;rw[←Q,Ek.out];exact h);have IX:=hid Q;clear Q;cases V with|false=>(have B:Hid (o=none):=(by show _=_;rw[←ho.out,uZ.out,if_pos IX.out]);go_wp2_with (first|(refine wpList_load_row rfl 45 (.tmp 4) rfl t rfl 45 #[U Z F,U Z (J*256+s),U Z (p*256+y4),U Z 0,U Z 0] (0,0) _ S Tryz.underlying45 rfl aS ?_)|(go_at_call 121;(with_reducible refine(qn.out _).mono ?_);rintro r k ⟨rfl,x⟩;have q:=hpKeep gM x;have u:=hid (fun d h=>nR.out d k x h))|(refine wpList_storeW rfl 45 (.tmp 2) (.tmp 82) rfl g 0 _ 45 #[U Z 0,U Z 0,U Z 0,U Z 0,U Z 0] rfl rfl q (by simp) aS rfl ?_;intro d z f y));have A:d.heap[g]?=N (Y #[U Z 0,U Z 0,U Z 0,U Z 0,U Z 0] 45):=z;refine bodyPost_ret (results_ct_row rfl _ _ g 45 _ (0,0) _ rfl A Tryz.underlying45 rfl aS) rfl ?_;rw[B.out];exact⟨3,by decide,rfl,u.out _ f⟩)|true=>(have B:Hid (o=N (gf l)):=(by show _=_;rw[←ho.out,uZ.out,if_neg (by rw[IX.out];decide)]);go_wp2_with (first|(refine wpList_load_row rfl 45 (.tmp 4) rfl t rfl 45 #[U Z F,U Z (J*256+s),U Z (p*256+y4),U Z 0,U Z 0] (0,0) _ S Tryz.underlying45 rfl aS ?_)|(refine wpList_load_row rfl 45 (.tmp 4) rfl t rfl 45 #[U Z F,U Z (J*256+s),U Z (p*256+y4),U Z 0,U Z 0] (0,0) _ (hpKeep S x) Tryz.underlying45 rfl aS ?_)|(go_at_call 121;(with_reducible refine(qn.out _).mono ?_);rintro r k ⟨rfl,x⟩;have q:=hpKeep gM x;have u:=hid (fun d h=>nR.out d k x h))|(refine wpList_storeW rfl 45 (.tmp 2) (.tmp 83) rfl g 0 _ 45 #[U Z F,U Z (J*256+s),U Z (p*256+y4),U Z 0,U Z 0] rfl rfl q (by simp) aS rfl ?_;intro d z f y));have A:d.heap[g]?=N (Y #[U Z F,U Z (J*256+s),U Z (p*256+y4),U Z 0,U Z 0] 45):=z;refine bodyPost_ret (results_ct_row rfl _ _ g 45 _ (0,0) _ rfl A Tryz.underlying45 rfl aS) rfl ?_;rw[B.out,Ek.out];exact⟨rfl,u.out _ f⟩)
  ·rw [if_neg h3] at hle
   have qU:Hid (∀X,Calls Tryz.prog 154 #[U Z F] X fun r w'=>r=K (.bool false)∧X=w'):=fun X=>by have:=uu F X;rw[decide_eq_false h3] at this;exact this
   by_cases sP:F=17
   ·subst sP
    rw[if_pos rfl] at hle;have h5:n=1:=by omega
    have Ek:Hid (gf l=⟨17,0,0,0,0⟩):=by show _=_;unfold gf;rw[CT.out,if_neg h3,if_neg (by decide)]
    have uZ:=hid (XL.out (fun e=>absurd e.1 (by decide)));have S:=E;have gM:=q;have nR:Hid (∀d k,Below m.heap.size m k→Keeps (· =g) k d→Below w.heap.size w d):=fun d k h4 h=>(bt O.out h4 (Nat.le_refl _)).trans (h.below (by have:=O.out.size;have:=h4.size;omega) (fun j hj e=>by have:=HZ.out;omega))
    clear h1 h2 h3 hle h5 J9 cj u;go_enter Tryz.func204,Tryz.ntmps204;go_upto_region 1 with(fail)
    rw[I.out,HZ.out];go_upto_region 4 with(fail)
    rw[jy.out,Em.out];go_upto_region 15 with(first|(go_at_call 221;(with_reducible refine(P.out _).mono ?_);rintro r k ⟨rfl,rfl⟩)|(go_at_call 154;(with_reducible refine(qU.out _).mono ?_);rintro r k ⟨rfl,rfl⟩))
    clear c0 q0 E q;obtain⟨V,Q⟩:=gE ((gf l).ok);have qn:Hid (∀X,Calls Tryz.prog 121 #[.agg #[U Z 17,U Z 0,U Z 0,U Z 0,U Z 0]] X (aj X V)):=(fun X=>by have h:=b9 17 0 0 0 0 X;rw[←Q,Ek.out];exact h);have IX:=hid Q;clear Q;cases V with|false=>(have B:Hid (o=none):=(by show _=_;rw[←ho.out,uZ.out,if_pos IX.out]);go_wp2_with (first|(refine wpList_load_row rfl 45 (.tmp 4) rfl t rfl 45 #[U Z 17,U Z 0,U Z 0,U Z 0,U Z 0] (0,0) _ S Tryz.underlying45 rfl aS ?_)|(go_at_call 121;(with_reducible refine(qn.out _).mono ?_);rintro r k ⟨rfl,x⟩;have q:=hpKeep gM x;have u:=hid (fun d h=>nR.out d k x h))|(refine wpList_storeW rfl 45 (.tmp 2) (.tmp 82) rfl g 0 _ 45 #[U Z 0,U Z 0,U Z 0,U Z 0,U Z 0] rfl rfl q (by simp) aS rfl ?_;intro d z f y));have A:d.heap[g]?=N (Y #[U Z 0,U Z 0,U Z 0,U Z 0,U Z 0] 45):=z;refine bodyPost_ret (results_ct_row rfl _ _ g 45 _ (0,0) _ rfl A Tryz.underlying45 rfl aS) rfl ?_;rw[B.out];exact⟨3,by decide,rfl,u.out _ f⟩)|true=>(have B:Hid (o=N (gf l)):=(by show _=_;rw[←ho.out,uZ.out,if_neg (by rw[IX.out];decide)]);go_wp2_with (first|(refine wpList_load_row rfl 45 (.tmp 4) rfl t rfl 45 #[U Z 17,U Z 0,U Z 0,U Z 0,U Z 0] (0,0) _ S Tryz.underlying45 rfl aS ?_)|(refine wpList_load_row rfl 45 (.tmp 4) rfl t rfl 45 #[U Z 17,U Z 0,U Z 0,U Z 0,U Z 0] (0,0) _ (hpKeep S x) Tryz.underlying45 rfl aS ?_)|(go_at_call 121;(with_reducible refine(qn.out _).mono ?_);rintro r k ⟨rfl,x⟩;have q:=hpKeep gM x;have u:=hid (fun d h=>nR.out d k x h))|(refine wpList_storeW rfl 45 (.tmp 2) (.tmp 83) rfl g 0 _ 45 #[U Z 17,U Z 0,U Z 0,U Z 0,U Z 0] rfl rfl q (by simp) aS rfl ?_;intro d z f y));have A:d.heap[g]?=N (Y #[U Z 17,U Z 0,U Z 0,U Z 0,U Z 0] 45):=z;refine bodyPost_ret (results_ct_row rfl _ _ g 45 _ (0,0) _ rfl A Tryz.underlying45 rfl aS) rfl ?_;rw[B.out,Ek.out];exact⟨rfl,u.out _ f⟩)
   ·rw [if_neg sP] at hle
    have fL:F=43:=by
     by_cases e:F=43
     ·exact e
     ·rw [if_neg e] at hle;omega
    subst fL;rw[if_pos rfl] at hle;have h5:n=4:=by omega
    have i1:(1:Int)<(n:Int):=by omega
    have i2:(2:Int)<(n:Int):=by omega
    have i3:(3:Int)<(n:Int):=by omega
    have c1:m.cell? ⟨b,off+1,M⟩=N (U .u8 (aI l 1)):=HC.out m O.out 1 (by omega);have c2:m.cell? ⟨b,off+2,M⟩=N (U .u8 (aI l 2)):=HC.out m O.out 2 (by omega);have c3:m.cell? ⟨b,off+3,M⟩=N (U .u8 (aI l 3)):=HC.out m O.out 3 (by omega);have d2:=rH.out 2;have d3:=rH.out 3;by_cases Ej:aI l 1=14
    ·have Ek:Hid (gf l=⟨43,0,0,aI l 2,aI l 3⟩):=by show _=_;unfold gf;rw[CT.out,if_neg h3,if_pos rfl]
     have uZ:=hid (XL.out (fun e=>e.2 Ej));generalize aI l 1=J at*;generalize aI l 2=s at*;generalize aI l 3=p at*;have YR:(J !=14)=false:=by rw[bne_eq_false_iff_eq];exact Ej
     have r3:=hpCell E 3;have r4:=hpCell E 4;have f3:=hpFree E 3;have f4:=hpFree E 4;have u2:IntKind.i64.wrap s=s:=IntWalk.i64_in _ (by omega);have u3:IntKind.i64.wrap p=p:=IntWalk.i64_in _ (by omega);have RM:¬b=t:=by have h1:=fg c1;have h2:=ad.out.size;have:=Em.out;have:=zd.out;omega
     clear h1 h2 h3 hle h5 J9 cj sP Ej;go_enter Tryz.func204,Tryz.ntmps204;go_upto_region 1 with(fail)
     rw[I.out,HZ.out];go_upto_region 4 with(fail)
     rw[jy.out,Em.out];go_upto_region 14 with(first|(go_at_call 221;(with_reducible refine(P.out _).mono ?_);rintro r k ⟨rfl,rfl⟩)|(go_at_call 154;(with_reducible refine(qU.out _).mono ?_);rintro r k ⟨rfl,rfl⟩))
     go_region;obtain⟨R,C⟩:∃W,((m.setCell ⟨t,3,M⟩ (U Z s)).setCell ⟨t,4,M⟩ (U Z p)).drew=W:=⟨_,rfl⟩
     have S:R.heap[t]?=N (Y #[U Z 43,U Z 0,U Z 0,U Z s,U Z p] 45):=by rw[←C];exact hpKeep (cS (cS E rfl) rfl) (Below.refl _ _).drew
     have G:Keeps (fun j=>j=t) m R:=by rw[←C];exact(ks1 (ks1 (Keeps.refl _ _) _ _) _ _).trans (Keeps.af (F:=fun _=>False) (Below.refl _ _).drew) (fun _ _ e=>e.elim)
     have gM:=hpKeeps q G (by have:=aX.out;omega);have yJ:Below w.heap.size w R:=O.out.trans (G.below O.out.size (fun j hj e=>by have:=ad.out.size;have:=Em.out;omega));have nR:Hid (∀d k,Below R.heap.size R k→Keeps (· =g) k d→Below w.heap.size w d):=fun d k h4 h=>(bt yJ h4 (Nat.le_refl _)).trans (h.below (by have:=yJ.size;have:=h4.size;omega) (fun j hj e=>by have:=HZ.out;omega))
     rw[C];clear C G yJ r3 r4 f3 f4 c0 c1 c2 c3 q0 E q u;obtain⟨V,Q⟩:=gE ((gf l).ok);have qn:Hid (∀X,Calls Tryz.prog 121 #[.agg #[U Z 43,U Z 0,U Z 0,U Z s,U Z p]] X (aj X V)):=(fun X=>by have h:=b9 43 0 0 s p X;rw[←Q,Ek.out];exact h);have IX:=hid Q;clear Q;cases V with|false=>(have B:Hid (o=none):=(by show _=_;rw[←ho.out,uZ.out,if_pos IX.out]);go_wp2_with (first|(refine wpList_load_row rfl 45 (.tmp 4) rfl t rfl 45 #[U Z 43,U Z 0,U Z 0,U Z s,U Z p] (0,0) _ S Tryz.underlying45 rfl aS ?_)|(go_at_call 121;(with_reducible refine(qn.out _).mono ?_);rintro r k ⟨rfl,x⟩;have q:=hpKeep gM x;have u:=hid (fun d h=>nR.out d k x h))|(refine wpList_storeW rfl 45 (.tmp 2) (.tmp 82) rfl g 0 _ 45 #[U Z 0,U Z 0,U Z 0,U Z 0,U Z 0] rfl rfl q (by simp) aS rfl ?_;intro d z f y));have A:d.heap[g]?=N (Y #[U Z 0,U Z 0,U Z 0,U Z 0,U Z 0] 45):=z;refine bodyPost_ret (results_ct_row rfl _ _ g 45 _ (0,0) _ rfl A Tryz.underlying45 rfl aS) rfl ?_;rw[B.out];exact⟨3,by decide,rfl,u.out _ f⟩)|true=>(have B:Hid (o=N (gf l)):=(by show _=_;rw[←ho.out,uZ.out,if_neg (by rw[IX.out];decide)]);go_wp2_with (first|(refine wpList_load_row rfl 45 (.tmp 4) rfl t rfl 45 #[U Z 43,U Z 0,U Z 0,U Z s,U Z p] (0,0) _ S Tryz.underlying45 rfl aS ?_)|(refine wpList_load_row rfl 45 (.tmp 4) rfl t rfl 45 #[U Z 43,U Z 0,U Z 0,U Z s,U Z p] (0,0) _ (hpKeep S x) Tryz.underlying45 rfl aS ?_)|(go_at_call 121;(with_reducible refine(qn.out _).mono ?_);rintro r k ⟨rfl,x⟩;have q:=hpKeep gM x;have u:=hid (fun d h=>nR.out d k x h))|(refine wpList_storeW rfl 45 (.tmp 2) (.tmp 83) rfl g 0 _ 45 #[U Z 43,U Z 0,U Z 0,U Z s,U Z p] rfl rfl q (by simp) aS rfl ?_;intro d z f y));have A:d.heap[g]?=N (Y #[U Z 43,U Z 0,U Z 0,U Z s,U Z p] 45):=z;refine bodyPost_ret (results_ct_row rfl _ _ g 45 _ (0,0) _ rfl A Tryz.underlying45 rfl aS) rfl ?_;rw[B.out,Ek.out];exact⟨rfl,u.out _ f⟩)
    ·have YR:(aI l 1 !=14)=true:=by rw[bne_iff_ne];exact Ej
     have B:Hid (o=none):=by
      show _=_;rw[←ho.out];unfold ek;rw[if_pos (.inr (.inr (.inr (.inl ⟨CT.out,Ej⟩))))]
     clear h1 h2 h3 hle h5 J9 cj sP Ej;go_enter Tryz.func204,Tryz.ntmps204;go_upto_region 1 with(fail)
     rw[I.out,HZ.out];go_upto_region 4 with(fail)
     rw[jy.out,Em.out];go_wp2_with (first|(go_at_call 221;(with_reducible refine(P.out _).mono ?_);rintro r k ⟨rfl,rfl⟩)|(go_at_call 154;(with_reducible refine(qU.out _).mono ?_);rintro r k ⟨rfl,rfl⟩)|(refine wpList_storeW rfl 45 (.tmp 2) (.tmp 38) rfl g 0 _ 45 #[U Z 0,U Z 0,U Z 0,U Z 0,U Z 0] rfl rfl q (by simp) aS rfl ?_;intro d z f y));have A:d.heap[g]?=N (Y #[U Z 0,U Z 0,U Z 0,U Z 0,U Z 0] 45):=z;refine bodyPost_ret (results_ct_row rfl _ _ g 45 _ (0,0) _ rfl A Tryz.underlying45 rfl aS) rfl ?_;rw[B.out];exact⟨6,by decide,rfl,u.out _ f⟩
 ·have B:Hid (o=none):=by show _=_;rw[←ho.out];unfold ek;rw[if_pos (.inr (.inr (.inl (by rw[HN.out,CT.out,HL.out];exact h2))))]
  have g2:((n:Int) !=(L:Int))=true:=by rw[bne_iff_ne];omega
  clear h1 h2;go_enter Tryz.func204,Tryz.ntmps204;go_upto_region 1 with(fail)
  rw[I.out,HZ.out];go_upto_region 4 with(fail)
  rw[jy.out,Em.out];go_wp2_with (first|(go_at_call 221;(with_reducible refine(P.out _).mono ?_);rintro r k ⟨rfl,rfl⟩)|(go_at_call 154;(with_reducible refine(qU.out _).mono ?_);rintro r k ⟨rfl,rfl⟩)|(refine wpList_storeW rfl 45 (.tmp 2) (.tmp 27) rfl g 0 _ 45 #[U Z 0,U Z 0,U Z 0,U Z 0,U Z 0] rfl rfl q (by simp) aS rfl ?_;intro d z f y));have A:d.heap[g]?=N (Y #[U Z 0,U Z 0,U Z 0,U Z 0,U Z 0] 45):=z;refine bodyPost_ret (results_ct_row rfl _ _ g 45 _ (0,0) _ rfl A Tryz.underlying45 rfl aS) rfl ?_;rw[B.out];exact⟨4,by decide,rfl,u.out _ f⟩
def numOf (b:Nat→Bool):Nat→Nat
 |0=>0
 |k+1=>if b k then numOf b k|||2^k else numOf b k
theorem xr (b:Nat→Bool) (k:Nat):numOf b k<2^k:=by
 induction k with
 |zero=>simp [numOf]
 |succ k ih=>
  have d:2^k<2^(k+1):=Nat.pow_lt_pow_right (by decide) (by omega);rw[numOf];split
  ·exact Nat.or_lt_two_pow (by omega) d
  ·omega
def bk (iM:List UInt8→Bool) (l:List UInt8):Option (Int×List UInt8):=
 if 4≤l.length∧l.length≤256∧iM l=true∧1≤((l.getD 0 0).toNat:Int)∧((l.getD 0 0).toNat:Int)≤247 then some (((l.getD 0 0).toNat:Int),(l.take (l.length-2)).drop 1) else none
def cP (w:World) (o:Option (Int×List UInt8)) (r:Ending) (w':World):Prop:=
 ∃(u:Int) (a:Option Addr) (n c:Nat) (e:Int),r=K (.tuple #[U Z u,J a n c,U Z e])∧Below w.heap.size w w'∧
  ((e=0∧∃p,o=N (u,p)∧∀W,ay w.heap.size w' W→Bs W (J a n c) p)∨(e≠0∧o=none))
theorem cP.err {o:Option (Int×List UInt8)} (f:o=none) (u:Int) (a:Option Addr) (n c:Nat) (e:Int) (he:e≠0) (d:Below w.heap.size w w'):
 cP w o (K (.tuple #[U Z u,J a n c,U Z e])) w':=⟨u,a,n,c,e,rfl,d,.inr ⟨he,f⟩⟩
def cB (c:Nat):Nat:=if c%2=1 then (c/2)^^^40961 else c/2
def aE:Nat→Nat→Nat
 |0,c=>c
 |k+1,c=>cB (aE k c)
def dS (c b:Nat):Nat:=aE 8 (c^^^b)
def aV (c:Nat) (l:List UInt8):Nat:=l.foldl (fun c x=>dS c x.toNat) c
theorem xF (e:a<65536) (d:b<65536):a^^^b<65536:=Nat.xor_lt_two_pow (n:=16) e d
theorem qH (h:c<65536):cB c<65536:=by
 unfold cB;split
 ·exact xF (by omega) (by omega)
 ·omega
theorem iY (k:Nat) (h:c<65536):aE k c<65536:=by
 induction k with
 |zero=>exact h
 |succ k ih=>exact qH ih
theorem De (h:c<65536) (d:b<256):dS c b<65536:=iY 8 (xF h (by omega))
theorem dD (x:UInt8):x.toNat<256:=x.toNat_lt
theorem gC (l:List UInt8):∀{c:Nat},c<65536→aV c l<65536:=by
 induction l with
 |nil=>intro c h;exact h
 |cons x l ih=>intro c h;exact ih (De h (dD x))
theorem rk (c:Nat) (l k:List UInt8):aV c (l++k)=aV (aV c l) k:=by simp [aV]
theorem gG (c:Nat) (l:List UInt8) (k:Nat) (h:k<l.length):aV c (l.take (k+1))=dS (aV c (l.take k)) (l.getD k 0).toNat:=by
 rw[List.take_succ_eq_append_getElem h,rk];simp [aV,List.getD,h]
theorem GI (a b:Nat):(a^^^b)/2=a/2^^^b/2:=by
 apply Nat.eq_of_testBit_eq;intro i;simp only[Nat.testBit_xor,←Nat.testBit_succ]
theorem nu (c:Nat):cB c=c/2^^^(bif c.testBit 0 then 40961 else 0):=by
 unfold cB;rw[Nat.testBit_zero];by_cases h:c%2=1<;>simp [h]
theorem pf (a b:Nat):cB (a^^^b)=cB a^^^cB b:=by
 rw[nu,nu,nu,GI,Nat.testBit_xor];apply Nat.eq_of_testBit_eq;intro i;cases a.testBit 0<;>cases b.testBit 0<;>simp [Nat.testBit_xor]<;>
  (cases (a/2).testBit i<;>cases (b/2).testBit i<;>cases Nat.testBit 40961 i<;>rfl)
theorem Df (k a b:Nat):aE k (a^^^b)=aE k a^^^aE k b:=by
 induction k with
 |zero=>rfl
 |succ k ih=>rw[aE,ih,pf];rfl
theorem pU (k:Nat):aE k 0=0:=by
 induction k with
 |zero=>rfl
 |succ k ih=>rw[aE,ih];rfl
theorem sk (y:Nat):cB (2*y)=y:=by
 unfold cB;rw[if_neg (by omega)];omega
theorem Ku (h:c<65536) (d:c≠0):cB c≠0:=by
 unfold cB;split
 ·intro he
  have:c/2=40961:=by
   have:=congrArg (· ^^^40961) he;simpa [Nat.xor_assoc] using this
  omega
 ·omega
theorem pt (k:Nat) (h:c<65536) (d:c≠0):aE k c≠0:=by
 induction k with
 |zero=>exact d
 |succ k ih=>exact Ku (iY k h) ih
theorem Cj (j k c:Nat):aE (j+k) c=aE j (aE k c):=by
 induction j with
 |zero=>simp [aE]
 |succ j ih=>rw[Nat.succ_add];simp only[aE,ih]
def bN (c:Nat) (f:Nat→Bool):Nat→Nat
 |0=>c
 |n+1=>cB (bN c f n^^^(f n).toNat)
theorem Fi (h:c<65536) (f:Nat→Bool) (n:Nat):bN c f n<65536:=by
 induction n with
 |zero=>exact h
 |succ n ih=>exact qH (xF ih (by cases f n<;>decide))
theorem jn {f g:Nat→Bool} (n:Nat) (h:∀p,p<n→f p=g p):bN c f n=bN c g n:=by
 induction n with
 |zero=>rfl
 |succ n ih=>rw[bN,bN,ih (fun p d=>h p (by omega)),h n (by omega)]
theorem mY (c:Nat) (f:Nat→Bool) (n m:Nat):bN c f (n+m)=bN (bN c f n) (fun p=>f (n+p)) m:=by
 induction m with
 |zero=>rfl
 |succ m ih=>rw[←Nat.add_assoc,bN,bN,ih]
theorem CH (c d:Nat) (f e:Nat→Bool) (n:Nat):bN (c^^^d) (fun p=>f p^^e p) n=bN c f n^^^bN d e n:=by
 induction n with
 |zero=>rfl
 |succ n ih=>
  rw[bN,bN,bN,ih,←pf];congr 1;apply Nat.eq_of_testBit_eq;intro i;simp only[Nat.testBit_xor];cases hf:f n<;>cases he:e n<;>simp<;>(cases (bN c f n).testBit i<;>cases (bN d e n).testBit i<;>cases Nat.testBit 1 i<;>rfl)
theorem nQ (c:Nat) (f:Nat→Bool) (n:Nat) (h:∀p,p<n→f p=false):bN c f n=aE n c:=by
 induction n with
 |zero=>rfl
 |succ n ih=>rw[bN,ih (fun p d=>h p (by omega)),h n (by omega)];simp [aE]
theorem Cq (y:Nat):y=(y.testBit 0).toNat^^^2*(y/2):=by
 apply Nat.eq_of_testBit_eq;intro i;rw[Nat.testBit_xor];cases i with
 |zero=>simp [Nat.testBit_zero];by_cases h:y%2=1<;>simp [h]
 |succ i=>
  rw[Nat.testBit_succ,Nat.testBit_succ,Nat.testBit_succ];have d:(y.testBit 0).toNat/2=0:=by cases y.testBit 0<;>rfl
  have e:2*(y/2)/2=y/2:=by omega
  rw[d,e];simp
theorem qM (c x k:Nat):aE k (c^^^x)=bN c x.testBit k^^^(x/2^k):=by
 induction k with
 |zero=>simp [aE,bN]
 |succ k ih=>
  have f:(x/2^k).testBit 0=x.testBit k:=by rw[Nat.testBit_zero,Nat.testBit_eq_decide_div_mod_eq]
  have e:x/2^k/2=x/2^(k+1):=by rw[Nat.div_div_eq_div_mul,Nat.pow_succ]
  have d:=Cq (x/2^k);rw[f,e] at d;rw[aE,ih,bN,d,←Nat.xor_assoc,pf,sk]
theorem G7 (c x:Nat) (d:x<256):dS c x=bN c x.testBit 8:=by
 rw[dS,qM,Nat.div_eq_of_lt (by omega)];simp
def jb (l:List UInt8) (p:Nat):Bool:=(l.getD (p/8) 0).toNat.testBit (p%8)
theorem wO (c:Nat) (l:List UInt8):aV c l=bN c (jb l) (8*l.length):=by
 suffices h:∀k,k≤l.length→aV c (l.take k)=bN c (jb l) (8*k) by
  have:=h l.length (Nat.le_refl _)
  rwa [List.take_length] at this
 intro k
 induction k with
 |zero=>intro _;rfl
 |succ k ih=>
  intro e;rw[gG c l k (by omega),ih (by omega),Nat.mul_add,mY,G7 _ _ (dD _)];apply jn;intro p d;unfold jb;rw[show (8*k+p)/8=k by omega,show (8*k+p)%8=p by omega]
theorem sO (b:Nat→Bool) (n k:Nat):(numOf b n).testBit k=(decide (k<n)&&b k):=by
 induction n with
 |zero=>simp [numOf]
 |succ n ih=>
  rw[numOf];by_cases d:b n=true
  ·rw [if_pos d,Nat.testBit_or,ih,Nat.testBit_two_pow]
   by_cases e:k=n
   ·subst e;simp [d]
   ·have g:¬n=k:=fun h=>e h.symm
    by_cases f:k<n<;>simp [g,f]<;>omega
  ·rw [if_neg d,ih]
   by_cases e:k=n
   ·subst e;simp [d]
   ·by_cases f:k<n<;>simp [f]<;>omega
theorem JI (c b:Nat) (g:c<65536) (x:b<256) (w:World):
  Calls Tryz.prog 219 #[.int .u16 c,U .u8 b] w fun r w'=>r=K (.int .u16 (dS c b))∧w=w':=by
 have t:bits .xor .u16 (c:Int) (b:Int)=((c^^^b:Nat):Int):=u16_xor_nat c b g (by omega);go_enter Tryz.func219,Tryz.ntmps219;go_wp2;go_loop [0,5,10] (fun s _ i=>∃k:Nat,k≤8∧i=U Z k∧s=.int .u16 (aE k (c^^^b))) (fun _ _ i=>8- (intOf i).toNat)
 case atStart=>exact⟨0,by omega,rfl,rfl⟩
 case round=>
  obtain⟨k,u,rfl,rfl⟩:=hrel;clear t;have m:=iY k (xF g (show b<65536 by omega));have hs:aE (k+1) (c^^^b)=cB (aE k (c^^^b)):=rfl;generalize f:aE k (c^^^b)=n at*;have p:=hid f;clear f;have y:bits .and .u16 (n:Int) 1=((n%2:Nat):Int):=by
   have:=u16_and_nat n 1 m (by omega);rw[nat_mask1] at this;exact this
  have v:bits .xor .u16 ((n:Int)/2) 40961=((n/2^^^40961:Nat):Int):=u16_xor_nat (n/2) 40961 (by omega) (by omega);have j:=hid hs;clear hs;by_cases q:k<8
  ·by_cases d:n%2=1
   ·have o:(((n%2:Nat):Int)==1)=true:=by rw[d];rfl
    have e:=hid d;clear d;go_wp2;go_round
    case rel=>exact⟨k+1,by omega,by go_num,by rw[j.out,cB,if_pos e.out]⟩
    case measure=>simp [intOf];omega
   ·have o:(((n%2:Nat):Int)==1)=false:=by simp;omega
    have e:=hid d;clear d;go_wp2;go_round
    case rel=>exact⟨k+1,by omega,by go_num,by rw[j.out,cB,if_neg e.out];rfl⟩
    case measure=>simp [intOf];omega
  ·have l:k=8:=by omega
   subst l;go_wp2;go_ret;exact⟨oH (by rw[←p.out];rfl),rfl⟩
theorem MO:(Tryz.prog.info? 5).map (fun i=>(i.zero,i.size,i.bytes))=N (N (U .u8 0),1,1):=by kernel_rfl
theorem Ll (c:Nat) (t:c<65536) (v:Value) (l:List UInt8) (w:World) (f:Bs w v l):
  Calls Tryz.prog 200 #[.int .u16 c,v] w fun r w'=>r=K (.int .u16 (aV c l))∧w=w':=by
 have hlen:=f.len;unfold maxLen at hlen;by_cases e:l=[]
 ·subst e
  obtain⟨a,k,rfl,_⟩:=f;go_enter Tryz.func200,Tryz.ntmps200;go_wp2;go_loop [0,6,9] (fun j _ i=>i=U Z 0∧j=.int .u16 c) (fun _ _ _=>0)
  case atStart=>exact⟨rfl,rfl⟩
  case round=>
   obtain⟨rfl,rfl⟩:=hrel;go_wp2;go_ret;exact⟨rfl,rfl⟩
 ·obtain ⟨b,o,cap,rfl,B,p,m⟩:=f.at e
  clear f;unfold maxLen at p;have A:=hid e;clear e;go_enter Tryz.func200,Tryz.ntmps200;go_wp2;go_loop [0,6,9] (fun j _ i=>∃k:Nat,k≤l.length∧i=U Z k∧j=.int .u16 (aV c (l.take k))) (fun _ _ i=>l.length- (intOf i).toNat)
  case atStart=>exact⟨0,Nat.zero_le _,rfl,rfl⟩
  case round=>
   obtain⟨k,z,rfl,rfl⟩:=hrel;have q:=gC (l.take k) t;by_cases d:k<l.length
   ·have u:=hid (gG c l k d)
    generalize aV c (l.take k)=n at*;have y:=dD (l.getD k 0);have C:=m k d;clear m;generalize (l.getD k 0).toNat=x at*;go_wp2_with (go_at_call 219;refine(JI _ _ q y _).mono ?_;rintro r w' ⟨rfl,rfl⟩);go_round
    case rel=>exact⟨k+1,by omega,by go_num,by rw[u.out]⟩
    case measure=>simp [intOf];omega
   ·have g:k=l.length:=by omega
    subst g;have s:=hid (List.take_length (l:=l));go_wp2;go_ret;exact⟨oH (by first|rfl|rw[s.out]),rfl⟩
theorem AO (v:Value) (l:List UInt8) (w:World) (d:Bs w v l):
  Calls Tryz.prog 181 #[v] w fun r w'=>r=K (.int .u16 (aV 65535 l))∧w=w':=by
 go_enter Tryz.func181,Tryz.ntmps181;go_wp2_with (go_at_call 200;refine(Ll 65535 (by decide) _ _ _ d).mono ?_;rintro r w' ⟨rfl,rfl⟩);go_ret;exact⟨rfl,rfl⟩
theorem Il (n:Nat) (l:0<n) (u:n≤140737488355328) (w:World):
  Calls Tryz.prog 201 #[J none 0 0,U Z n] w fun r w'=>∃g cap,r=K (J (N ⟨g,0,M⟩) 0 cap)∧w'.ownsRow w.heap.size 5 1 (J (N ⟨g,0,M⟩) 0 cap) 0 []∧Below w.heap.size w w':=by
 obtain⟨i5,hi,e,i,f⟩:=info_parts MO;go_enter Tryz.func201,Tryz.ntmps201;go_wp2_with (at_builtin;refine ua rfl _ _ 50 3 rfl w.heap.size 5 i5 (U .u8 0) 1 Tryz.underlying50 Tryz.underlying3 hi e i f rfl rfl _ 0 [] rfl (World.ownsRow_nil _ _ _ _) n rfl l ?c1 ?c2 ?c3 ?c4)
 case c1=>unfold maxLen;omega
 case c2=>omega
 case c3=>exact Nat.le_refl _
 case c4=>
  intro g cap w1 t m s d q;have o:=(Below.refl w.heap.size w).grown q (Nat.le_refl _) (by intro k j;simp [Value.ownBlock] at j);have p:=hid (LP d (Nat.zero_le _));clear d;unfold maxLen at m;go_wp2;go_ret;exact⟨g,cap,rfl,p.out,o⟩
def mX (ls:List (List UInt8)) (k:Nat):List UInt8:=(ls.take k).flatten
def jh (ls:List (List UInt8)) (k:Nat):Nat:=(mX ls k).length
theorem sQ (ls:List (List UInt8)) (k:Nat) (h:k<ls.length):mX ls (k+1)=mX ls k++ls.getD k []:=by
 unfold mX;rw[List.take_succ_eq_append_getElem h];simp [List.getD,h,-List.take_append_getElem]
theorem sI (ls:List (List UInt8)) (k:Nat) (h:k<ls.length):jh ls (k+1)=jh ls k+(ls.getD k []).length:=by
 unfold jh;rw[sQ ls k h,List.length_append]
theorem Hm (ls:List (List UInt8)):mX ls ls.length=ls.flatten:=by simp [mX]
theorem uh (ls:List (List UInt8)) (k:Nat):jh ls k≤jh ls ls.length:=by
 unfold jh;rw[Hm];have:ls.flatten=(ls.take k).flatten++(ls.drop k).flatten:=by rw[←List.flatten_append,List.take_append_drop]
 rw[this];simp [mX]
theorem Ax (g o c:Nat) (vs:List Value) (ls:List (List UInt8)) (w:World) (S:0<jh ls ls.length) (B:jh ls ls.length≤140737488355328) (Y:ls.length≤c) (hc:c≤100)
  (F:∀i,i<ls.length→w.cell? ⟨g,o+i,M⟩=N (vs.getD i undef)) (p:∀i,i<ls.length→Bs w (vs.getD i undef) (ls.getD i [])):
  Calls Tryz.prog 182 #[J (N ⟨g,o,M⟩) ls.length c] w fun r w'=>∃s,r=K s∧w'.ownsRow w.heap.size 5 1 s (jh ls ls.length) (u8s (mX ls ls.length))∧Below w.heap.size w w':=by
 obtain⟨i5,hi,u,t,z⟩:=info_parts MO;have E:=hid p;have D:=hid F;clear p F;go_enter Tryz.func182,Tryz.ntmps182;go_wp2;go_loop [3,5,11] (fun n _ i=>∃k:Nat,k≤ls.length∧i=U Z k∧n=U Z (jh ls k)) (fun _ _ i=>ls.length- (intOf i).toNat)
 case atStart=>exact⟨0,Nat.zero_le _,rfl,rfl⟩
 case round=>
  obtain⟨k,R,rfl,rfl⟩:=hrel;have hle:=uh ls k;by_cases e:k<ls.length
  ·have x:=D.out k e
   obtain⟨a,cp,G,X,h2,_⟩:=E.out k e;have q:=uh ls (k+1);have j:=sI ls k e;rw[j] at q;rw[G] at x;have A:=hid j;clear j G;generalize (ls.getD k []).length=m at*;go_wp2;go_round
   case rel=>exact⟨k+1,by omega,by go_num,by rw[A.out];go_num⟩
   case measure=>simp [intOf];omega
  ·have l:k=ls.length:=by omega
   subst l;go_wp2_with (go_at_call 201;refine(Il _ S B _).mono ?_;rintro r w1 ⟨g1,W,rfl,d,f⟩);go_loopw [6,8,27] (fun v _ i wr=>∃k:Nat,k≤ls.length∧i=U Z k∧wr.ownsRow w.heap.size 5 1 v (jh ls k) (u8s (mX ls k))∧Below w.heap.size w wr) (fun _ _ i _=>ls.length- (intOf i).toNat)
   case atStart=>exact⟨0,Nat.zero_le _,rfl,d,f⟩
   case round=>
    clear d f;obtain⟨k,R,rfl,d,f⟩:=hrel;by_cases e:k<ls.length
    ·have x:wr.cell? ⟨g,o+k,M⟩=N (vs.getD k undef):=by
      have h:=D.out k e;rw[f.cell (fg h)];exact h
     have p:=(E.out k e).ah f;have q:=uh ls (k+1);have j:=sI ls k e;rw[j] at q;have A:=hid j;have V:=hid (sQ ls k e);clear j;generalize vs.getD k undef=y at*;generalize ls.getD k []=O at*;go_wp2_with (at_builtin;refine im rfl _ _ 50 rfl w.heap.size 5 i5 Tryz.underlying50 hi u t z _ (mX ls k) rfl d y O rfl p ?c1 ?c2 ?c3)
     case c1=>unfold jh at q B;omega
     case c2=>exact f.size
     case c3=>
      intro s L C I;have Q:=f.grown I f.size (fun b T=>(d.lt b T).1);have P:Hid (L.ownsRow w.heap.size 5 1 s (jh ls (k+1)) (u8s (mX ls (k+1)))):=by
       rw[A.out,V.out];exact hid C
      clear C d I f p x;go_wp2;go_roundw
      case rel=>exact⟨k+1,by omega,by go_num,P.out,Q⟩
      case measure=>simp [intOf];omega
    ·have l:k=ls.length:=by omega
     subst l;go_wp2;go_ret;exact⟨_,rfl,d,f⟩
def bM (l:List UInt8):List UInt8:=[UInt8.ofNat (aV 65535 l),UInt8.ofNat (aV 65535 l/256)]
theorem qg (w:World) (d o2:Obj):Below w.heap.size w ((w.alloc d).alloc o2):=
 ((Below.refl _ _).alloc (Nat.le_refl _) _).alloc (by simp) _
def Av (w:World) (v:Value) (s:Nat):World:=
 (w.alloc (Y #[U .u8 ((s:Int)%256),U .u8 ((s:Int)/256)] 5)).alloc (Y #[v,J (N ⟨w.heap.size,0,M⟩) 2 2] 50)
theorem yB (w:World) (v:Value) (s:Nat) (ls:List (List UInt8)) (d:ls.length=2):∀i,i<ls.length→
  (Av w v s).cell? ⟨w.heap.size+1,0+i,M⟩=N (([v,J (N ⟨w.heap.size,0,M⟩) 2 2]:List Value).getD i undef):=by
 intro i hi;rw[d] at hi;unfold Av;rw[World.cell?_alloc_at _ _ _ _ (by simp)]
 match i,hi with
 |0,_=>rfl
 |1,_=>rfl
theorem JB (w:World) (v:Value) (s:Nat) (hs:s<65536) (l:List UInt8) (d:Bs w v l):∀i,i<[l,[UInt8.ofNat s,UInt8.ofNat (s/256)]].length→
  Bs (Av w v s) (([v,J (N ⟨w.heap.size,0,M⟩) 2 2]:List Value).getD i undef) ([l,[UInt8.ofNat s,UInt8.ofNat (s/256)]].getD i []):=by
 intro i hi
 match i,hi with
 |0,_=>exact d.ah (qg w _ _)
 |1,_=>
  refine Bs.mk (l:=[UInt8.ofNat s,UInt8.ofNat (s/256)]) (Nat.le_refl 2) (by unfold maxLen;decide) ?_;intro i hi;unfold Av;rw[World.cell?_alloc_past _ _ _ (by simp),World.cell?_alloc_at _ _ _ _ rfl]
  match i,hi with
  |0,_=>simp
  |1,_=>simp;omega
theorem zB (v:Value) (l:List UInt8) (w:World) (g:Bs w v l) (x:l.length≤140737488355326):
  Calls Tryz.prog 157 #[v] w fun r w'=>∃j,r=K j∧w'.ownsRow w.heap.size 5 1 j (l.length+2) (u8s (l++bM l))∧Below w.heap.size w w':=by
 have hs:=gC l (show 65535<65536 by decide);have f:bM l=[UInt8.ofNat (aV 65535 l),UInt8.ofNat (aV 65535 l/256)]:=rfl;have q:=hid (AO v l w g);generalize aV 65535 l=s at*;have i:mX [l,bM l] 2=l++bM l:=by simp [mX]
 have m:jh [l,bM l] 2=l.length+2:=by unfold jh;rw[i,f];simp
 have k:=hid (yB w v s [l,bM l] rfl);have d:=JB w v s hs l g;rw[←f] at d;replace d:=hid d;have o:=hid (Ax (w.heap.size+1) 0 2 [v,J (N ⟨w.heap.size,0,M⟩) 2 2] [l,bM l] (Av w v s) (by show 0<jh [l,bM l] 2;omega) (by show jh [l,bM l] 2≤_;omega) (Nat.le_refl 2) (by decide) k.out d.out);have y:=hid f;have t:=hid i;have n:=hid m;clear f i m k d;have u:=g;obtain⟨a,c,rfl,_⟩:=u;clear g;go_enter Tryz.func157,Tryz.ntmps157;go_wp2_with (first|(go_at_call 181;refine q.out.mono ?_;rintro r w1 ⟨rfl,rfl⟩)|(go_at_call 182;refine o.out.mono ?_;rintro r w1 ⟨j,rfl,e,p⟩));go_ret;refine⟨_,rfl,?_,(qg w _ _).trans (p.mono (by simp [Av];omega))⟩;rw[←t.out,←n.out];exact own_lower e (by simp [Av];omega)
def aw (l:List UInt8):Bool:=decide (2≤l.length)&&((l.getD (l.length-2) 0).toNat==aV 65535 (l.take (l.length-2))%256)&&((l.getD (l.length-1) 0).toNat==aV 65535 (l.take (l.length-2))/256)
theorem Bs.take {w:World} {b o c:Nat} {l:List UInt8} (h:Bs w (J (N ⟨b,o,M⟩) l.length c) l) (k:Nat) (r:k≤l.length):Bs w (J (N ⟨b,o,M⟩) k c) (l.take k):=by
 obtain⟨a,u,q,t,g,p,n⟩:=h;cases q;have e:(l.take k).length=k:=by simp;omega
 refine⟨_,_,by rw[e],by omega,g,p,fun d=>?_⟩;have f:l≠[]:=by rintro rfl;simp at d
 obtain⟨b',s,j,m⟩:=n f;cases j;refine⟨b,o,rfl,fun i hi=>?_⟩;rw[e] at hi;rw[m i (by omega)];have:(l.take k).getD i 0=l.getD i 0:=by simp [List.getD,hi]
 rw[this]
theorem m6 (v:Value) (l:List UInt8) (w:World) (e:Bs w v l):
  Calls Tryz.prog 175 #[v] w fun r w'=>r=K (.bool (aw l))∧Below w.heap.size w w':=by
 have hlen:=e.len;unfold maxLen at hlen;by_cases j:l.length<2
 ·obtain ⟨a,k,rfl,_⟩:=e
  have d:aw l=false:=by unfold aw;simp;omega
  replace d:=hid d;go_enter Tryz.func175,Tryz.ntmps175;go_wp2;go_ret;exact⟨by rw[d.out];rfl,Below.refl _ _⟩
 ·obtain ⟨b,o,c,rfl,u,t,g⟩:=e.at (by rintro rfl;simp at j)
  have i:=hid (AO _ _ w (e.take (l.length-2) (by omega)));have m:=g (l.length-2) (by omega);have p:=g (l.length-1) (by omega);clear g e;unfold maxLen at t;have hs:=gC (l.take (l.length-2)) (show 65535<65536 by decide);have d:aw l=(((l.getD (l.length-2) 0).toNat==aV 65535 (l.take (l.length-2))%256)&&((l.getD (l.length-1) 0).toNat==aV 65535 (l.take (l.length-2))/256)):=by
   unfold aw;rw[decide_eq_true (by omega),Bool.true_and]
  have x:=dD (l.getD (l.length-2) 0);have q:=dD (l.getD (l.length-1) 0);generalize aV 65535 (l.take (l.length-2))=s at*;generalize (l.getD (l.length-2) 0).toNat=y at*;generalize (l.getD (l.length-1) 0).toNat=z at*;replace d:=hid d;obtain⟨n,f⟩:∃n,l.length=n+2:=⟨l.length-2,by omega⟩
  rw[f] at i m p u;rw[f];rw[show n+2-2=n by omega] at i m;rw[show n+2-1=n+1 by omega] at p;clear f j hlen;go_enter Tryz.func175,Tryz.ntmps175;go_wp2_with (first|(go_at_call 181;refine i.out.mono ?_;rintro r w1 ⟨rfl,rfl⟩)|fail)
  all_goals
   go_ret;refine⟨?_,Below.refl _ _⟩;rw[d.out];refine ret_bool ?_;rw[Bool.eq_iff_iff];simp;omega
