import Derived.Test.YtoaoejaodhedaaaGreatT29
namespace Go.Proofs.YtoaoejaodhedaaaGreat
open Go.RowKit
open Value renaming int→J
open IntKind renaming i64→M
open Obj renaming cells→N
set_option maxHeartbeats 3200000
set_option maxRecDepth 100000
variable {a:At} {b c z:Bool} {de f pa t0 ti tick u v:Int} {l:List Sl} {R p:List UInt8} {x:Tx} {w:World}
structure SP (l:List Sl) (a:At) (bd pa u:Int) (q:Rq) (v:Int) (O:Oc):Prop where
 vs:v=0∨v=3∨v=4∨v=5
 v0:v=0→∃j s,bF l bd pa u l.length=[j]∧l[j]?=some s∧O=⟨if (s.cC q a.value).ar=0 then 1 else 2,s.cC q a.value⟩
 none:bF l bd pa u l.length=[]→v=3
 many:1<(bF l bd pa u l.length).length→v=3∨v=4
 SF:a.fault=0∨a.fault=6∧a.ai≤750→bF l bd pa u l.length≠[]→(1<(bF l bd pa u l.length).length→v=4)∧(¬1<(bF l bd pa u l.length).length→v=0)
theorem AI {bd un:Int} {s:Sl} (h:nZ bd pa un s=true):s.bd=bd∧s.pa=pa∧s.un=un:=by
 unfold nZ at h;simp only[Bool.and_eq_true,decide_eq_true_eq] at h;exact⟨h.1.1,h.1.2,h.2⟩
theorem D0 {q:Rq} (h:aw R=false):aT aw u q f R=⟨4,Rp.zero⟩:=by
 unfold aT bk;rw[h,if_neg (fun k=>by cases k.2.2.1)]
theorem ze {q:Rq} (h:bk aw R=some (u,p)):aT aw u q 0 R=eN (eg q p):=by
 unfold aT;rw[h];exact if_pos ⟨rfl,rfl⟩
theorem si {C st T:Int} {a:At} (d:a.fault=6→a.ai≤T) (g:0≤T) (R:List UInt8):∀(m i:Nat),rZ C T (eL C st a i (R.getD i 0)) ((List.range' (i+1) m).map fun j=>eL C st a j (R.getD j 0))
 |0,_=>True.intro
 |m+1,i=>by
  rw[List.range'_succ];refine⟨?_,si d g R m (i+1)⟩;have h:=pK C st a i (R.getD i 0) (R.getD (i+1) 0);show (eL C st a (i+1) (R.getD (i+1) 0)).at_-C-_≤T;rw[h];split
  ·rename_i e
   exact d e.1
  ·exact g
theorem CF (J:cW l) {bd:Int} (u1:1≤u) (u2:u≤247) {q:Rq} (t:q.ok=true) (W:a.ok) {O:Oc} (U:x.un=u) (C:x.q=q)
  (K:dL l a bd pa (aO u q)≠[]) (d:sW x (dL l a bd pa (aO u q)) z v O) (N:a.fault=0∨a.fault=6∧a.ai≤750→z=true):SP l a bd pa u q v O:=by
 have F:=fh l bd pa u1 u2 t;have i:bF l bd pa u l.length≠[]:=fun e=>K (by
  unfold dL cI dC
  rw[F,if_pos e]
  split
  ·rfl
  ·split
   ·rfl
   ·split
    ·rename_i k
     unfold sN at k
     rw[F,if_pos e] at k
     cases k.2
    ·rfl)
 have B:¬(a.fault=1∨a.fault=2):=fun e=>K (by unfold dL;rw[if_pos e])
 obtain⟨j,ms,E⟩:∃j ms,bF l bd pa u l.length=j::ms:=List.exists_cons_of_ne_nil i;obtain⟨s,hs,hm⟩:=fu (l:=l) (bd:=bd) (pa:=pa) (un:=u) (k:=l.length) (j:=j) (by rw[E];exact List.mem_cons_self);obtain⟨X,T,Q⟩:=AI hm;have V:=J.2 s (List.mem_of_getElem? hs);have m:=pd J hs t W B;rw[X,T,Q] at m;unfold sW at d;rw[U,C] at d;by_cases g:1<(bF l bd pa u l.length).length∨a.fault=3
 ·rw [if_pos g] at m
  rw[D0 m] at d;have A:v=4:=by
   rcases d with⟨-,k⟩|⟨-,k⟩
   ·rcases k with⟨k,-⟩|⟨-,k,-⟩
    ·exact absurd k (by decide)
    ·exact k
   ·exact k
  exact⟨.inr (.inr (.inl A)),fun e=>by omega,fun e=>absurd e i,fun _=>.inr A,fun D _=>⟨fun _=>A,fun k=>by rcases g with g|g<;>omega⟩⟩
 ·rw [if_neg g] at m
  have S:ms=[]:=by
   cases ms with
   |nil=>rfl
   |cons y r=>exact absurd (.inl (by rw[E];show 1<r.length+1+1;omega)) g
  subst S;have o:¬1<(bF l bd pa u l.length).length:=fun k=>g (.inl k)
  rw[ze m] at d;by_cases I:a.fault=5
  ·rw [if_pos I,zf t] at d
   have P:v=4∨v=5:=by
    rcases d with⟨-,k⟩|⟨-,k⟩
    ·rcases k with⟨k,-⟩|⟨-,k,-⟩
     ·exact absurd k (by decide)
     ·exact .inr k
    ·exact .inl k
   exact⟨by omega,fun e=>by omega,fun e=>absurd e i,fun k=>absurd k o,fun D _=>by omega⟩
  ·rw [if_neg I,Cp V t a.value] at d
   have M:(if (s.cC q a.value).ar=0 then (1:Int) else 2)=1∨(if (s.cC q a.value).ar=0 then (1:Int) else 2)=2:=by split<;>omega
   rcases d with⟨Y,k⟩|⟨n,k⟩
   ·rcases k with⟨-,G,L⟩|⟨k,-⟩
    ·exact ⟨.inl G,fun _=>⟨j,s,E,hs,L⟩,fun e=>absurd e i,fun k=>absurd k o,fun _ _=>⟨fun k=>absurd k o,fun _=>G⟩⟩
    ·exact absurd M k
   ·exact ⟨.inr (.inr (.inl k)),fun e=>by omega,fun e=>absurd e i,fun k=>absurd k o,fun D _=>by rw[N D] at n;cases n⟩
theorem Jq (A:cW l) {aC:List At} (hA:∀z∈aC,z.ok) (lp:Bool) {bd:Int} (S:aU bd pa) (u1:1≤u) (u2:u≤247) {q:Rq} (F:q.ok=true)
  {n:Ln} (hb:x.b=bd) (hp:x.p=pa) (Qj:x.un=u) (K:x.q=q) (nW:0≤x.ti) (mz:0≤x.de) (T2:n.pend=[]) (X:a=cA aC lp n.aA.length) (vt:a.bf≤x.ti) (ab:a.ai≤x.de) (t0:0≤tick) (T9:n.last≤tick):
  ∃v O,ez (x.aA (tick+aK bd (aO u q).length)) (n.aA++[((bd,pa),aO u q)]) (Du.mk (n.send l aC lp bd pa (aO u q) tick) (x.aA (tick+aK bd (aO u q).length))).heard v O (tick+aK bd (aO u q).length+cu bd x.ti x.de)∧SP l a bd pa u q v O:=by
 subst hb hp;have E:a.ok:=by rw[X];exact oG hA lp _
 obtain⟨a1,a2,a3,a4,a5,a6⟩:=At.nC E;obtain⟨t1,t2,t3,t4,t5,t6⟩:=bV S;have nG:=(jc u q).2;obtain⟨f1,f2⟩:=gD S nG;have Yo:=je A a x.b x.p (aO u q);have OA:=fun Q=>yx (l:=l) A (a:=a) Q (bd:=x.b) (pa:=x.p) u1 u2 F
 generalize I:dL l a x.b x.p (aO u q)=R at*;have y:(n.send l aC lp x.b x.p (aO u q) tick).pend=chsN (charT x.b) (tM x.b a tick (aO u q).length) a R R.length:=by
  show (fM l (cA aC lp n.aA.length) x.b x.p (aO u q) tick).foldl putL n.pend=_;rw[T2,←X];unfold fM;rw[I];exact FU (xL (by omega) (by omega) R R.length)
 have Z:tM x.b a tick (aO u q).length=tick+aK x.b (aO u q).length+bq x.b+a.bf+(if a.fault=4 then a.ai else 0):=rfl;generalize tM x.b a tick (aO u q).length=st at*;generalize N0:tick+aK x.b (aO u q).length=en at*;have Rt:∀c∈chsN (charT x.b) st a R R.length,en+charT x.b≤c.at_∧c.at_+bq x.b+charT x.b≤en+cu x.b x.ti x.de:=fun c hc=>by
  unfold chsN at hc;obtain⟨i,hi,rfl⟩:=List.mem_map.1 hc;have hi:=List.mem_range.1 hi;have g1:charT x.b≤((i:Int)+1)*charT x.b:=by
   have:=Int.mul_le_mul_of_nonneg_right (show (1:Int)≤(i:Int)+1 by omega) (show 0≤charT x.b by omega)
   rwa [Int.one_mul] at this
  have g2:((i:Int)+1)*charT x.b≤256*charT x.b:=Int.mul_le_mul_of_nonneg_right (by omega) (by omega);show en+charT x.b≤st+((i:Int)+1)*charT x.b+(if a.fault=6∧a.pos≤(i:Int) then a.ai else 0)∧st+((i:Int)+1)*charT x.b+(if a.fault=6∧a.pos≤(i:Int) then a.ai else 0)+_+_≤_;rw[Z];unfold cu;generalize ((i:Int)+1)*charT x.b=m at*;split<;>split<;>omega
 have B:∀c r,chsN (charT x.b) st a R R.length=c::r→c.du=charT x.b∧Steps (charT x.b) c r∧c.at_=st+charT x.b+(if a.fault=6∧a.pos≤0 then a.ai else 0)∧(a.fault=0∨a.fault=6∧a.ai≤750→rZ (charT x.b) (ed x.b) c r):=fun c r h=>by
  cases hk:R.length with
  |zero=>
   rw[hk] at h;cases h
  |succ k=>
   rw[hk,rW] at h;injection h with P U
   subst P U;refine⟨rfl,xe a5 R k 0,?_,fun M=>si (fun e=>by omega) (by omega) R k 0⟩;show st+(((0:Nat):Int)+1)*charT x.b+_=_;rw[show (((0:Nat):Int)+1)=1 from rfl,Int.one_mul];rfl
 obtain⟨v,O,Kl,W⟩:=xE (x:=x.aA en) (n:=n.send l aC lp x.b x.p (aO u q) tick) S rfl rfl rfl (by show 0≤en;omega) (by show (0:Int)≤en;omega) nW mz (en+cu x.b x.ti x.de) rfl (by show tick+aK x.b (aO u q).length≤en;omega) (by show n.last≤en;omega)
  (by rw[y,chsN_len];exact Yo) (by rw[y];exact Rt) (fun c r h=>by rw[y] at h;exact⟨(B c r h).1,(B c r h).2.1⟩)
  (fun d C G r' h hg f=>by
   rw[y] at h
   have hlen:=congrArg List.length h
   rw[chsN_len] at hlen
   simp only[List.length_append,List.length_cons,List.length_nil] at hlen
   have Vi:=congrArg (List.map vB) h
   rw[Bo] at Vi
   have g:(chsN (charT x.b) st a R R.length)[d.length]?=some C:=by rw[h];simp
   have o:(chsN (charT x.b) st a R R.length)[d.length+1]?=some G:=by rw[h];simp
   unfold chsN at g o
   rw[List.getElem?_map,List.getElem?_range (by omega)] at g o
   injection g with g
   injection o with o
   have g:eL (charT x.b) st a d.length (R.getD d.length 0)=C:=g
   have o:eL (charT x.b) st a (d.length+1) (R.getD (d.length+1) 0)=G:=o
   have V:=pK (charT x.b) st a d.length (R.getD d.length 0) (R.getD (d.length+1) 0)
   rw[g,o] at V
   have t:bq x.b<G.at_-charT x.b-C.at_:=hg
   rw[V] at t
   have Q:a.fault=6:=by
    rcases Classical.em (a.fault=6) with e|e
    ·exact e
    ·rw [if_neg (fun k=>e k.1)] at t
     omega
   have ht:(d++[C]).map vB=R.take (d.length+1):=by
    rw[Vi,List.map_append (l₂:=G::r')]
    exact(List.take_left' (by simp)).symm
   rw[ht]
   rcases OA Q with e|e
   ·rw [e] at hlen
    simp at hlen
   ·exact DI e (by omega) _ _ f)
 refine⟨v,O,Kl,?_⟩;rw[y] at W;rcases W with⟨J,Tj⟩|⟨c,r,z,T,Ij,N,hz⟩
 ·refine ⟨.inr (.inl J),fun e=>by omega,fun _=>J,fun _=>.inl J,fun M db=>?_⟩
  exfalso;have D:R≠[]:=by
   obtain⟨j,ms,rF⟩:∃j ms,bF l x.b x.p u l.length=j::ms:=List.exists_cons_of_ne_nil db;obtain⟨s,hs,hm⟩:=fu (l:=l) (bd:=x.b) (pa:=x.p) (un:=u) (k:=l.length) (j:=j) (by rw[rF];exact List.mem_cons_self);obtain⟨e1,e2,e3⟩:=AI hm;have Cu:=pd A hs F E (by omega);rw[e1,e2,e3,I] at Cu;intro e;have Y:=Cc A hs F (a:=a) (by omega);rw[e1,e2,e3,I,e] at Y;exact absurd Y (by decide)
  cases hk:R.length with
  |zero=>exact D (List.eq_nil_of_length_eq_zero hk)
  |succ k=>
   have h:=rW (charT x.b) st a R k;rw[←hk] at h;have P:=(B _ _ h).2.2.1;have U:=Tj _ _ h;have L:en+bq x.b+x.ti+charT x.b<(eL (charT x.b) st a 0 (R.getD 0 0)).at_:=U;have ub:a.fault=6→1≤a.pos:=fun e=>by
    have:=E.2.2.2.2.2.2;omega
   rw[P,Z] at L;split at L<;>split at L<;>omega
 ·rw [Bo] at N
  have D:R≠[]:=fun e=>by rw[e] at T;cases T
  rw[←I] at N D;exact CF A u1 u2 F E Qj K D N (fun M=>hz ((B c r T).2.2.2 M))
def NA (a:At):Prop:=a.fault=0∨a.fault=6∧a.ai≤750
structure Sc where
 l:List Sl
 aC:List At
 lp:Bool
 bd:Int
 pa:Int
 u:Int
 q:Rq
 re:Int
 ti:Int
 de:Int
 s0:List ((Int×Int)×List UInt8)
def Sc.ms (c:Sc):List Nat:=bF c.l c.bd c.pa c.u c.l.length
def Sc.at_ (c:Sc) (i:Nat):At:=cA c.aC c.lp (c.s0.length+i)
def Sc.fr (c:Sc):List UInt8:=aO c.u c.q
structure Sc.ok (c:Sc):Prop where
 Bq:cW c.l
 aC:∀z∈c.aC,z.ok
 set:aU c.bd c.pa
 u1:1≤c.u
 u2:c.u≤247
 q:c.q.ok=true
 mW:0≤c.ti
 oj:c.ti≤5000000
 oy:0≤c.de
 o7:c.de≤5000000
 bf:∀i,(cA c.aC c.lp i).bf≤c.ti
 tk:∀i,(cA c.aC c.lp i).ai≤c.de
structure Tr (c:Sc) (m:Nat) (t0:Int) (y:Du):Prop where
 aA:y.n.aA=c.s0++List.replicate m ((c.bd,c.pa),c.fr)
 pend:y.n.pend=[]
 free:y.n.free≤y.x.now
 last:y.n.last≤y.x.now
 gI:0≤y.x.now
 gh:y.x.now≤t0+15000000*m
 b:y.x.b=c.bd
 p:y.x.p=c.pa
 re:y.x.re=c.re
 ti:y.x.ti=c.ti
 de:y.x.de=c.de
 un:y.x.un=c.u
 q:y.x.q=c.q
 bg:y.x.bg=m
structure Ft (c:Sc) (m:Nat) (t0:Int) (y:Du):Prop where
 tr:Tr c m t0 y
 ph:y.x.ph=1
 le:(m:Int)≤c.re
 none:c.ms=[]→y.x.bad=false∧y.x.late=false
 many:1<c.ms.length→y.x.late=false∧((∃i,i<m∧NA (c.at_ i))→y.x.bad=true)
 one:c.ms≠[]→¬1<c.ms.length→∀i,i<m→¬NA (c.at_ i)
structure J8 (c:Sc) (m:Nat) (t0:Int) (y:Du):Prop where
 tr:Tr c m t0 y
 ph:y.x.ph=5
 m1:1≤m
 le:(m:Int)≤c.re+1
 vs:1≤y.x.out.verdict∧y.x.out.verdict≤5
 nX:y.x.out.verdict=1∨y.x.out.verdict=2→∃j s,c.ms=[j]∧c.l[j]?=some s∧y.x.out=⟨if (s.cC c.q (c.at_ (m-1)).value).ar=0 then 1 else 2,s.cC c.q (c.at_ (m-1)).value⟩
 late:y.x.out.verdict=5→c.ms≠[]∧¬1<c.ms.length
 fair:(∃i:Nat,(i:Int)≤c.re∧NA (c.at_ i))→(c.ms=[]→y.x.out.verdict=3)∧(1<c.ms.length→y.x.out.verdict=4)∧(c.ms≠[]→¬1<c.ms.length→y.x.out.verdict=1∨y.x.out.verdict=2)
def Sc.go (c:Sc) (y:Du):Du:=(Du.mk (y.n.send c.l c.aC c.lp c.bd c.pa c.fr y.x.now) (y.x.aA (y.x.now+aK c.bd c.fr.length))).heard
theorem Rh (h:c=(b||v==4)):c=true↔b=true∨v=4:=by
 rw[h,Bool.or_eq_true,beq_iff_eq]
theorem Rn (h:c=(b||v==5)):c=true↔b=true∨v=5:=by
 rw[h,Bool.or_eq_true,beq_iff_eq]
theorem Eu (h:¬b=true):b=false:=by cases b<;>simp_all
theorem Ft.next {c:Sc} (ok:c.ok) {m:Nat} {y:Du} (h:Ft c m t0 y):Ft c (m+1) t0 (c.go y)∨J8 c (m+1) t0 (c.go y):=by
 have d:=h.tr;obtain⟨v,O,g,t⟩:=Jq ok.Bq ok.aC c.lp ok.set ok.u1 ok.u2 ok.q (x:=y.x) (n:=y.n) d.b d.p d.un d.q (by rw[d.ti];exact ok.mW) (by rw[d.de];exact ok.oy) d.pend (a:=c.at_ m)
  (by unfold Sc.at_;rw[d.aA,List.length_append,List.length_replicate]) (by rw[d.ti];exact ok.bf _) (by rw[d.de];exact ok.tk _) (tick:=y.x.now) d.gI d.last
 obtain⟨t1,t2,t3,t4,t5,t6⟩:=bV ok.set;obtain⟨f1,f2⟩:=gD ok.set (jc c.u c.q).2;have rB:y.x.now+aK c.bd c.fr.length≤(c.go y).x.now:=g.gI;have j7:(c.go y).x.now≤y.x.now+aK c.bd c.fr.length+cu c.bd y.x.ti y.x.de:=g.gh;have BT:cu c.bd y.x.ti y.x.de=2*bq c.bd+c.ti+c.de+257*charT c.bd:=by rw[d.ti,d.de];rfl
 have K:Tr c (m+1) t0 (c.go y):=by
  have o1:=ok.oj;have o2:=ok.o7;have o3:=d.gh;have o4:=d.gI;have W:0≤aK c.bd c.fr.length:=f1;have Y:aK c.bd c.fr.length≤2346752:=f2;refine⟨?_,g.pend,g.free,g.last,by omega,by omega,g.lk.b.trans d.b,g.lk.p.trans d.p,g.lk.re.trans d.re,g.lk.ti.trans d.ti,g.lk.de.trans d.de,g.lk.un.trans d.un,g.lk.q.trans d.q,?_⟩
  ·have e:(c.go y).n.aA=y.n.aA++[((c.bd,c.pa),c.fr)]:=g.aA
   rw[e,d.aA,List.append_assoc,←List.replicate_succ']
  ·have e:(c.go y).x.bg=y.x.bg+1:=g.bg
   rw[e,d.bg];rfl
 by_cases C:v=0
 ·obtain ⟨U,A⟩:=g.nX C
  obtain⟨j,s,q,r,N⟩:=t.v0 C;have A:(c.go y).x.out=O:=A;have X:c.ms=[j]:=q;have Q:c.ms.length=1:=by rw[X];rfl
  have o:(c.go y).x.out.verdict=1∨(c.go y).x.out.verdict=2:=by
   rw[A,N];show (if _ then (1:Int) else 2)=1∨(if _ then (1:Int) else 2)=2;split<;>omega
  exact .inr ⟨K,U,by omega,by have:=h.le;omega,by omega,fun _=>⟨j,s,q,r,by rw[A,N];rfl⟩,fun e=>by omega,fun _=>⟨fun e=>(by rw[e] at Q;cases Q),fun e=>by omega,fun _ _=>o⟩⟩
 ·obtain ⟨b1,b2,b3,V⟩:=g.bad C
  have b1:=Rh (b:=y.x.bad) (c:=(c.go y).x.bad) b1;have b2:=Rn (b:=y.x.late) (c:=(c.go y).x.late) b2;have S:(y.x.aA (y.x.now+aK c.bd c.fr.length)).bg=(m:Int)+1:=by show y.x.bg+1=_;rw[d.bg]
  have M:(y.x.aA (y.x.now+aK c.bd c.fr.length)).re=c.re:=d.re;have B:c.ms=[]→(c.go y).x.bad=false∧(c.go y).x.late=false:=fun e=>by
   obtain⟨E,I⟩:=h.none e;have th:=t.none e;exact⟨Eu (fun k=>by rcases b1.1 k with k|k;rw[E] at k;cases k;omega),Eu (fun k=>by rcases b2.1 k with k|k;rw[I] at k;cases k;omega)⟩
  have G:1<c.ms.length→(c.go y).x.late=false∧((∃i,i<m+1∧NA (c.at_ i))→(c.go y).x.bad=true):=fun e=>by
   obtain⟨E,I⟩:=h.many e;have ab:=t.many e;refine⟨Eu (fun k=>by rcases b2.1 k with k|k;rw[E] at k;cases k;omega),fun ⟨i,hi,hu⟩=>b1.2 ?_⟩;by_cases D:i=m
   ·subst D
    exact .inr ((t.SF hu (fun k=>by
     have k':c.ms=[]:=k
     rw[k'] at e
     exact absurd e (by decide))).1 e)
   ·exact .inl (I ⟨i,by omega,hu⟩)
  have P:c.ms≠[]→¬1<c.ms.length→∀i,i<m+1→¬NA (c.at_ i):=fun q r i hi hu=>by
   by_cases D:i=m
   ·subst D
    exact C ((t.SF hu q).2 r)
   ·exact h.one q r i (by omega) hu
  by_cases T:(m:Int)+1≤c.re
  ·have F:(y.x.aA (y.x.now+aK c.bd c.fr.length)).bg≤(y.x.aA (y.x.now+aK c.bd c.fr.length)).re:=by rw[S,M];exact T
   obtain⟨J,-⟩:=b3 F;exact .inl ⟨K,J,by omega,B,G,P⟩
  ·have Z:¬(y.x.aA (y.x.now+aK c.bd c.fr.length)).bg≤(y.x.aA (y.x.now+aK c.bd c.fr.length)).re:=by rw[S,M];exact T
   obtain⟨J,L⟩:=V Z;have L:(c.go y).x.out=⟨if (c.go y).x.bad=true then 4 else if (c.go y).x.late=true then 5 else 3,Rp.zero⟩:=L;have o:(c.go y).x.out.verdict=if (c.go y).x.bad=true then 4 else if (c.go y).x.late=true then 5 else 3:=by rw[L]
   have hle:=h.le;refine .inr ⟨K,J,by omega,by omega,?_,fun e=>?_,fun e=>?_,fun ⟨i,hi,hu⟩=>⟨fun e=>?_,fun e=>?_,fun q r=>absurd hu (P q r i (by omega))⟩⟩
   ·rw [o]
    split
    ·omega
    ·split<;>omega
   ·rw [o] at e
    exfalso;split at e
    ·omega
    ·split at e<;>omega
   ·rw [o] at e
    split at e
    ·omega
    ·rename_i hb
     refine⟨fun k=>?_,fun k=>?_⟩
     ·rw [if_neg (by rw[(B k).2];decide)] at e
      omega
     ·rw [if_neg (by rw[(G k).1];decide)] at e
      omega
   ·rw [o,(B e).1,(B e).2]
    rfl
   ·rw [o,if_pos ((G e).2 ⟨i,by omega,hu⟩)]
theorem Tr.j6 {c:Sc} {m:Nat} {t0:Int} {y:Du} (h:Tr c m t0 y) (g:y.x.now≤600000000000000000):y.n.j6 c.fr.length y.x.now=0:=by
 have e:4≤c.fr.length∧c.fr.length≤256:=jc c.u c.q;have i:=h.gI;have j:=h.free;have d:ia=1152921504606846976:=rfl;unfold Ln.j6;rw[d,if_neg (by omega),if_neg (by omega),if_neg (by omega)]
theorem Ee.any {s:lg} (h:Ee s ti de) (g:0≤ti) (d:0≤de) (i:Nat):(cA s.aC s.loop i).bf≤ti∧(cA s.aC s.loop i).ai≤de:=by
 unfold cA;split
 ·exact ⟨g,d⟩
 ·cases e:s.aC[i%s.aC.length]? with
  |none=>exact⟨g,d⟩
  |some x=>exact h x (List.mem_of_getElem? e)
theorem FG (aa s:Option Addr) (an ac d q:Nat) (lp:Bool) (m:Int) (V:Bool) (k:V=decide ((an:Int)≤m∧d≤12)) (w:World):Calls Tryz.prog 47 #[.agg #[.slice aa an ac,.bool lp,.slice s d q],J M m] w (aj w V):=by
 obtain⟨A,o,i,n⟩:=eY w (N #[.slice aa an ac,.bool lp,.slice s d q] 32);have t0:=cG n 0 rfl;have t2:=cG n 2 rfl;have e:=hid o;have g:=hid i;have y:Hid ((an:Int)≤m→d≤12→V=true):=fun a b=>by rw[k];exact decide_eq_true ⟨a,b⟩
 have r:Hid (¬((an:Int)≤m∧d≤12)→V=false):=fun a=>by rw[k];exact decide_eq_false a
 clear o i n k;by_cases c1:(an:Int)≤m
 ·by_cases c2:d≤12
  ·have j:=hid (y.out c1 c2)
   have c3:(d:Int)≤12:=by omega
   have t:decide ((d:Int)≤12)=true:=decide_eq_true c3;go_enter Tryz.func47,Tryz.ntmps47;go_upto_region 1 with(fail);rw[e.out]
   go_wp2;go_ret;exact⟨by rw[j.out]<;>rfl,g.out⟩
  ·have j:=hid (r.out (by omega))
   have c3:¬(d:Int)≤12:=by omega
   have t:decide ((d:Int)≤12)=false:=decide_eq_false c3;go_enter Tryz.func47,Tryz.ntmps47;go_upto_region 1 with(fail);rw[e.out]
   go_wp2;go_ret;exact⟨by rw[j.out]<;>rfl,g.out⟩
 ·have j:=hid (r.out (by omega))
  have B:decide ((an:Int)≤m)=false:=decide_eq_false c1;go_enter Tryz.func47,Tryz.ntmps47;go_upto_region 1 with(fail);rw[e.out]
  go_wp2;go_ret;exact⟨by rw[j.out]<;>rfl,g.out⟩
theorem Gu (aa:Option Addr) (an ac:Nat) (lp:Bool) (e:Value) (k:Nat) (w:World) (h:an=0∨lp=false∧an≤k):
  Calls Tryz.prog 19 #[.agg #[.slice aa an ac,.bool lp,e],J M (k:Int)] w (qB w At.zero):=by
 by_cases d:an=0
 ·have i:((an:Int)==0)=true:=by rw[d];rfl
  clear h d;go_enter Tryz.func19,Tryz.ntmps19;go_wp2;refine bodyPost_ret (results_cell_row rfl _ _ (w.heap.size+1) 70 #[J M 0,J M 0,J M 0,J M 0,J M 0,J M 0] (0,0) _ rfl (by have h:=hpNew (w.alloc (N #[.slice aa an ac,.bool lp,e] 32)) (N #[J M 0,J M 0,J M 0,J M 0,J M 0,J M 0] 70);rw[World.size_alloc] at h;exact h) Tryz.underlying70 rfl ga) rfl ?_;exact⟨rfl,bta (bal' w _) (Nat.le_refl _) _⟩
 ·obtain ⟨rfl,j⟩:=h.resolve_left d
  have i:((an:Int)==0)=false:=b0 (by omega);have g:(an:Int)≤(k:Int):=by omega
  have m:decide ((an:Int)≤(k:Int))=true:=decide_eq_true g;clear h d;generalize (k:Int)=K at*;go_enter Tryz.func19,Tryz.ntmps19;go_wp2;refine bodyPost_ret (results_cell_row rfl _ _ (w.heap.size+1) 70 #[J M 0,J M 0,J M 0,J M 0,J M 0,J M 0] (0,0) _ rfl (by have h:=hpNew (w.alloc (N #[.slice aa an ac,.bool false,e] 32)) (N #[J M 0,J M 0,J M 0,J M 0,J M 0,J M 0] 70);rw[World.size_alloc] at h;exact h) Tryz.underlying70 rfl ga) rfl ?_;exact⟨rfl,bta (bal' w _) (Nat.le_refl _) _⟩
theorem BJ (aa:Option Addr) (an ac:Nat) (aC:List At) (hn:aC.length=an) (lp:Bool) (O:Value) (k:Nat) (hk:k≤1000000000) (w:World) (hA:ke w (.slice aa an ac) aC):
  Calls Tryz.prog 19 #[.agg #[.slice aa an ac,.bool lp,O],J M (k:Int)] w (qB w (cA aC lp k)):=by
 obtain⟨t,G,B,pS⟩:=eY w (N #[.slice aa an ac,.bool lp,O] 32);obtain⟨m,Q⟩:∃W,t.alloc (N #[J M 0,J M 0,J M 0,J M 0,J M 0,J M 0] 70)=W:=⟨_,rfl⟩
 have n:Below t.heap.size t m:=by rw[←Q];exact bal' t _
 obtain⟨g,E⟩:=gE t.heap.size;have pZ:m.heap[g]?=some (N #[J M 0,J M 0,J M 0,J M 0,J M 0,J M 0] 70):=by rw[←Q,←E];exact hpNew t _
 have hz:w.heap.size<g:=by rw[←E,←G];simp
 have Yr:=hpKeep pS n;have L:Hid (Below w.heap.size w m):=bt B n (Nat.le_refl _);have ZY:¬w.heap.size=g:=by omega
 have s0:∀X,Keeps (· =g) m X→X.cell? ⟨w.heap.size,0,none⟩=some (.slice aa an ac):=fun X h=>hpCell (hpKeeps Yr h ZY) 0
 have s1:∀X,Keeps (· =g) m X→X.cell? ⟨w.heap.size,1,none⟩=some (.bool lp):=fun X h=>hpCell (hpKeeps Yr h ZY) 1
 have Ve:=s0 _ (Keeps.refl _ _);have UC:=s1 _ (Keeps.refl _ _);obtain⟨V,P⟩:=gE (cA aC lp k);rw[P];have SE:(w.alloc (N #[.slice aa an ac,.bool lp,O] 32)).alloc (N #[J M 0,J M 0,J M 0,J M 0,J M 0,J M 0] 70)=m:=by rw[G];exact Q
 have zg:w.heap.size+1=g:=by rw[←E,←G];simp
 have HA:=hid hA;have HN:=hid hn;have HW:=hid SE;have XP:=hid zg;have pH:=hid hz;have PZ:=hid pZ;obtain⟨K,s⟩:∃K:Int,(k:Int)=K:=⟨_,rfl⟩
 have ad:(0:Int)≤K:=by omega
 rw[s];by_cases D:an=0∨(lp=false∧an≤k)
 ·have Y:Hid (V=At.zero):=by
   show _=_;rw[←P];unfold cA;rw[hn,if_pos D]
  rw[Y.out,←s];exact Gu aa an ac lp O k w D
 ·have F:¬an=0:=fun e=>D (.inl e)
  have gz:((an:Int)==0)=false:=b0 (by omega);have aY:(an==0)=false:=beq_eq_false_iff_ne.2 F;obtain⟨j,y⟩:∃j,k%an=j:=⟨_,rfl⟩
  have JH:j<an:=by rw[←y];exact Nat.mod_lt _ (by omega)
  obtain⟨x,hx⟩:=gs hn JH;have HX:=hid hx;have T:lp=true∨k<an:=by
   cases lp with
   |true=>exact .inl rfl
   |false=>
    have e:¬an≤k:=fun e=>D (.inr ⟨rfl,e⟩)
    exact .inr (by omega)
  have Y:Hid (V=x):=by show _=_;rw[←P];exact uD (by rw[hn];exact y.symm) hx (by rw[hn];exact T)
  have r1:K.tmod (an:Int)=(j:Int):=by rw[←s,←y,Int.tmod_eq_emod_of_nonneg (by omega)];exact(Int.natCast_emod k an).symm
  have r2:K%(an:Int)=(j:Int):=by rw[←r1,Int.tmod_eq_emod_of_nonneg ad]
  have r3:¬(an:Int)=0:=by omega
  have r6:(0:Int)≤(j:Int):=by omega
  have r7:(j:Int)<(an:Int):=by omega
  have rl:lp=true∨(lp=false∧decide ((an:Int)≤K)=false∧¬(an:Int)≤K):=by
   rcases T with e|e
   ·exact .inl e
   ·cases lp with
    |true=>exact .inl rfl
    |false=>exact .inr ⟨rfl,decide_eq_false (by omega),by omega⟩
  obtain⟨b,o,c',hv,I⟩:=HA.out.row HX.out;rw[HN.out] at hv;simp only[Value.slice.injEq,true_and] at hv;obtain⟨rfl,rfl⟩:=hv;obtain⟨C,r⟩:=gE x.C;rw[r] at I;have hi:(Tryz.prog.info? 70).map (·.size)=some C.size:=(by rw[←r];exact ga)
  have av:C.toList.all (·.oneCell')=true:=(by rw[←r];rfl)
  have A:C.size=6:=(by rw[←r];rfl)
  have ao:Hid (x.C=C):=r;have ab:b<w.heap.size:=by
   have F:=I w (Below.refl _ _) 0 (J M x.bf) (by rw[←r];rfl);rw[Addr.add_lit] at F;exact World.block_lt_of_cell? _ _ F
  have Gd:Hid (∀X,Keeps (· =g) m X→∀i u,C.toList[i]?=some u→X.cell? ((⟨b,o+j*6,none⟩:Addr).add i)=some u):=fun X hX=>I X (L.out.trans (hX.below L.out.size (fun j y e=>by have:=pH.out;omega)))
  have kD:Keeps (· =g) m m.drew:=Keeps.af (Below.refl _ _).drew;clear G B pS Q n E pZ hz ZY Yr hA P SE zg D y JH hx T s hk r I hn ab;go_enter Tryz.func19,Tryz.ntmps19;go_upto_region 1 with(fail)
  rw[HW.out,XP.out];rcases rl with rfl|⟨rfl,r4,r5⟩<;>
  ·go_upto_region 3 with(fail)
   refine wp_region_held_drew (S:=fun V=>Keeps (· =g) m V) (by kernel_rfl) kD (fun hH=>?_);clear hH;refine tG 0 22 ?_;refine tG 1 23 ?_;refine tG 2 24 ?_;refine tG 3 25 ?_;refine tG 4 26 ?_;refine tG 5 27 ?_;refine tG 6 28 ?_;refine tG 7 29 ?_;refine tkD 8 30 (v:=.agg C) rfl (by kernel_rfl) (fun _ _ _ h=>h) rfl (by rfl) (by assumption) (fun X hX=>bP 70 (.tmp 29) rfl ⟨b,o+j*6,none⟩ rfl C _ (Gd.out X hX) Tryz.underlying70 rfl hi) ?_;simp only[setS];refine rdyH 9 rfl (fun K s=>?_);refine step_storeW rfl 70 (.tmp 4) (.tmp 30) rfl g 0 _ 70 C rfl rfl (hpKeep PZ.out (Below.refl _ _).drew) (by simp [A]) hi av ?_;intro w8 g8 Z aX;have k8:Keeps (· =g) m w8:=kD.trans Z (fun _ _ e=>e);refine s.out _ _ k8 (fun U=>?_);clear s K U;refine wpAnyH_done (by kernel_rfl) ?_ _;have g9:w8.heap[g]?=some (N C 70):=(by rw[g8,List.drop_eq_nil_of_le (by simp [A])];simp)
   go_wp2;refine bodyPost_ret (results_cell_row rfl _ _ g 70 C (0,0) _ rfl g9 Tryz.underlying70 rfl hi) rfl ?_;rw[Y.out];exact⟨by rw[←ao.out],L.out.trans (k8.below L.out.size (fun j y e=>by have:=pH.out;omega))⟩
theorem BO:Tryz.prog.cellsOf 27=16:=by kernel_rfl
theorem ER:Tryz.prog.cellsOf 22=1:=by kernel_rfl
theorem vo:Tryz.prog.cellsOf 61=2:=by kernel_rfl
theorem FA:Tryz.prog.cellsOf 25=8:=by kernel_rfl
theorem Pz {cs:List Value} (h:Rd Tryz.prog w 61 cs):∃x,NG w cs x:=by
 obtain⟨d,e⟩:=h.struct Tryz.underlying61;rw[vo] at d;obtain⟨c0,c1,rfl⟩:=Jv d;have f0:=e _ (List.mem_cons_self ..);have f1:=e _ (List.mem_cons_of_mem _ (List.mem_cons_self ..));simp only[dB,List.drop_zero,List.drop_succ_cons,List.take_succ_cons,List.take_zero] at f0 f1;obtain⟨a,rfl,g⟩:=bl f0;obtain⟨b,rfl,w1⟩:=bl f1;exact⟨(a,b),rfl,g,w1⟩
theorem L8 {v:Value} (h:Rd Tryz.prog w 22 [v]):∃l,dw w v l:=
 gY.jz (R:=NG) Tryz.underlying22 vo (by decide) (fun _ h=>Pz h) h
theorem Tw {α:Type} {l:List α} (h:l.length=16):∃a b c d e f g i j k m n o p q r,l=[a,b,c,d,e,f,g,i,j,k,m,n,o,p,q,r]:=by
 match l,h with
 |[a,b,c,d,e,f,g,i,j,k,m,n,o,p,q,r],_=>exact⟨a,b,c,d,e,f,g,i,j,k,m,n,o,p,q,r,rfl⟩
structure CfW (c:Cf):Prop where
 fi:bT c.fi
 la:bT c.la
theorem V9 {cs:Array Value} (h:Rd Tryz.prog w 27 cs.toList):∃c sv,cs=yh c sv∧dw w sv c.bj∧CfW c:=by
 obtain⟨k,d⟩:=h.struct Tryz.underlying27;rw[BO] at k;obtain⟨G⟩:=cs;obtain⟨c0,c1,c2,c3,c4,T,S,K,J,F,M,I,Q,P,A,B,rfl⟩:=Tw k;have f0:=d _ (List.mem_cons_self ..);have f1:=d _ (List.mem_cons_of_mem _ (List.mem_cons_self ..));have f2:=d _ (List.mem_cons_of_mem _ (List.mem_cons_of_mem _ (List.mem_cons_self ..)));have f3:=d _ (List.mem_cons_of_mem _ (List.mem_cons_of_mem _ (List.mem_cons_of_mem _ (List.mem_cons_self ..))));have f4:=d _ (List.mem_cons_of_mem _ (List.mem_cons_of_mem _ (List.mem_cons_of_mem _ (List.mem_cons_of_mem _ (List.mem_cons_self ..)))));have f5:=d _ (List.mem_cons_of_mem _ (List.mem_cons_of_mem _ (List.mem_cons_of_mem _ (List.mem_cons_of_mem _ (List.mem_cons_of_mem _ (List.mem_cons_self ..))))));have f6:=d _ (List.mem_cons_of_mem _ (List.mem_cons_of_mem _ (List.mem_cons_of_mem _ (List.mem_cons_of_mem _ (List.mem_cons_of_mem _ (List.mem_cons_of_mem _ (List.mem_cons_self ..)))))));have f7:=d _ (List.mem_cons_of_mem _ (List.mem_cons_of_mem _ (List.mem_cons_of_mem _ (List.mem_cons_of_mem _ (List.mem_cons_of_mem _ (List.mem_cons_of_mem _ (List.mem_cons_of_mem _ (List.mem_cons_self ..))))))));have f8:=d _ (List.mem_cons_of_mem _ (List.mem_cons_of_mem _ (List.mem_cons_of_mem _ (List.mem_cons_of_mem _ (List.mem_cons_of_mem _ (List.mem_cons_of_mem _ (List.mem_cons_of_mem _ (List.mem_cons_of_mem _ (List.mem_cons_self ..)))))))));simp only[dB,ER,FA,List.drop_zero,List.drop_succ_cons,List.take_succ_cons,List.take_zero] at f0 f1 f2 f3 f4 f5 f6 f7 f8;obtain⟨l,r⟩:=L8 f0;obtain⟨b1,rfl,w1⟩:=bl f1;obtain⟨b2,rfl,n⟩:=bl f2;obtain⟨b3,rfl,w3⟩:=bl f3;obtain⟨y,rfl,N⟩:=bl f4;obtain⟨o,rfl,w5⟩:=bl f5;obtain⟨L,e⟩:=f6.array Tryz.underlying25;have t0:=e 0 (by decide);have t1:=e 1 (by decide);have t2:=e 2 (by decide);have t3:=e 3 (by decide);simp only[tH,Nat.zero_mul,Nat.reduceMul,List.drop_zero,List.drop_succ_cons,List.take_succ_cons,List.take_zero] at t0 t1 t2 t3;obtain⟨C,m,-,-⟩:=xA t0;obtain⟨E,g,-,-⟩:=xA t1;obtain⟨q,j,-,-⟩:=xA t2;obtain⟨s,i,-,-⟩:=xA t3;obtain⟨t,rfl,U⟩:=bl f7;obtain⟨D,rfl,O⟩:=bl f8;simp only[List.cons.injEq,and_true] at m g j i;obtain⟨rfl,rfl⟩:=m;obtain⟨rfl,rfl⟩:=g;obtain⟨rfl,rfl⟩:=j;obtain⟨rfl,rfl⟩:=i;exact⟨⟨l,b1,b2,b3,y,o,YT C E q s,t,D⟩,c0,rfl,r,w1,n⟩
