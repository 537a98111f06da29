import Derived.Test.YtoaoejaodhedaaaGreatT25
import Derived.Test.YtoaoejaodhedaaaGreatT14
namespace Go.Proofs.YtoaoejaodhedaaaGreat
open Go.RowKit
open Value renaming slice→J,int→U
open Option renaming none→M,some→N
open IntKind renaming i64→Z
open Obj renaming cells→K
open Ending renaming returned→G
set_option maxHeartbeats 6400000
set_option maxRecDepth 100000
theorem yY (id:Int) (i:Option Addr) (c f g:Nat) (a:Int) (w:World) (b:w.cell? ⟨g,4,M⟩=N (U Z a)):
  Calls Tryz.prog 199 #[.agg #[U Z id,J i c f],.pointer (N ⟨g,0,M⟩)] w fun r d=>r=G (.bool (decide (id<a)))∧Below w.heap.size w d:=by
 have c4:∀X,(w.alloc X).cell? ⟨g,4,M⟩=N (U Z a):=fun X=>cell_keep (bal' w X) b
 have e:Hid (∀X,Below w.heap.size w (w.alloc X)):=fun X=>bal' w X
 clear b;go_enter Tryz.func199,Tryz.ntmps199;go_wp2;go_ret;exact⟨rfl,e.out _⟩
def eT (qo:Int) (l:List Ob):Bool:=l.any fun x=>decide (x.id<qo)
theorem Gh (v:Value) (l:List Ob) (w:World) (D:cY w v l) (g:Nat) (f:Int) (O:w.cell? ⟨g,4,M⟩=N (U Z f)) (V:Bool) (E:Hid (eT f l=V)):
  Calls Tryz.prog 218 #[v,.func (.func 199) #[] #[.pointer (N ⟨g,0,M⟩)]] w fun r u=>Bl V r∧Below w.heap.size w u:=by
 obtain⟨a,n,c,rfl,p,T,R,W,t⟩:=D.open_;clear D;replace t:=hid t;replace p:=hid p;go_enter Tryz.func218,Tryz.ntmps218;go_wp2;go_loopw [8] (fun i wr=>∃k:Nat,k≤n∧i=U Z k∧Hid (eT f (l.take k)=false)∧Below w.heap.size w wr) (fun i _=>n- (intOf i).toNat)
 case atStart=>exact⟨0,Nat.zero_le _,rfl,rfl,Below.refl _ _⟩
 case round=>
  obtain⟨k,S,rfl,C,e⟩:=hrel;by_cases z:k<n
  ·obtain ⟨x,q⟩:=get_some p.out z
   obtain⟨b,o,Q,K,rfl,d1,d2,F⟩:=t.out k x q;have P:=F.len;unfold maxLen at P;replace d1:=cell_keep e d1;replace d2:=cell_keep e d2;have I:Hid (Calls Tryz.prog 199 #[.agg #[U Z x.id,J Q x.val.length K],.pointer (N ⟨g,0,M⟩)] wr fun r u=>r=G (.bool (decide (x.id<f)))∧Below wr.heap.size wr u):=yY _ _ _ _ _ _ wr (cell_keep e O);have B:Hid (eT f (l.take (k+1))=decide (x.id<f)):=by
    have m:=C.out;show _=_;unfold eT at m ⊢;rw[az q,List.any_append,m];simp
   have y:Hid (x∈l):=List.mem_of_getElem? q;have L:(k:Int)<(n:Int):=by omega
   clear q F;go_wp2_with fail;refine I.out.mono ?_;rintro r w1 ⟨rfl,j⟩;by_cases s:x.id<f
   ·have d:decide (x.id<f)=true:=decide_eq_true s
    have A:Hid (V=true):=by
     show _=_;rw[←E.out];exact List.any_eq_true.2 ⟨x,y.out,d⟩
    clear s;go_wp2;go_ret;exact⟨⟨k,rfl,⟨fun _=>A.out,fun _=>Int.natCast_nonneg _⟩⟩,bt e j (Nat.le_refl _)⟩
   ·have d:decide (x.id<f)=false:=decide_eq_false s
    rw[d] at B;clear s;go_wp2;go_roundw
    case rel=>exact⟨k+1,by omega,by go_num,B,bt e j (Nat.le_refl _)⟩
    case measure=>simp [intOf];omega
  ·obtain rfl:k=n:=by omega
   have A:Hid (V=false):=by
    have m:=C.out;rw[←p.out,List.take_length] at m;show _=_;rw[←E.out,m]
   go_wp2;go_ret;exact⟨⟨-1,rfl,⟨fun h=>absurd h (by decide),fun h=>by rw[A.out] at h;cases h⟩⟩,e⟩
theorem CQ (v:Value) (l:List Ob) (w:World) (d:cY w v l) (g:Nat) (b:Int) (k:w.cell? ⟨g,4,M⟩=N (U Z b)) (V:Bool) (f:Hid (eT b l=V)):
  Calls Tryz.prog 198 #[v,.func (.func 199) #[] #[.pointer (N ⟨g,0,M⟩)]] w fun r o=>r=G (.bool V)∧Below w.heap.size w o:=by
 have m:=hid (Gh v l w d g b k V f);obtain⟨a,n,c,rfl,_⟩:=d.open_;clear d f;go_enter Tryz.func198,Tryz.ntmps198;go_wp2_with fail;refine m.out.mono ?_;rintro r w1 ⟨⟨i,rfl,hi⟩,e⟩;have j:Hid (decide (0≤i)=V):=by
  show _=_;cases V with
  |true=>exact decide_eq_true (hi.2 rfl)
  |false=>exact decide_eq_false (fun h=>by cases hi.1 h)
 clear hi;go_wp2;go_ret;exact⟨ret_bool j.out,e⟩
theorem rS (a:Int):∀(l:List Ob) (last:Int),aQ last l=true→a≤last→eT a l=false
 |[],_,_,_=>rfl
 |x::l,last,h,hq=>by
  simp only[aQ,Bool.and_eq_true,decide_eq_true_eq] at h;have b:=rS a l x.id h.2 (by omega);unfold eT at b ⊢;rw[List.any_cons,b,decide_eq_false (by omega)];rfl
theorem Ad {l:List Ob} (h:eh l=true) (a:Int):(!eT a l)=(l.isEmpty||decide (a≤oI l)):=by
 unfold eh at h;rw[Bool.and_eq_true] at h
 match l,h.1 with
 |[],_=>rfl
 |x::l,h1=>
  simp only[aQ,Bool.and_eq_true] at h1;show (!eT a (x::l))=(false||decide (a≤x.id));rw[Bool.false_or];by_cases b:a≤x.id
  ·have:=rS a l x.id h1.2 b
   unfold eT at this ⊢;rw[List.any_cons,this,decide_eq_false (by omega),decide_eq_true b];rfl
  ·unfold eT
   rw[List.any_cons,decide_eq_true (by omega:x.id<a),decide_eq_false b];rfl
theorem DB (w:World) (i g d:Int) (da:Option Addr) (dn dc:Nat) (code level:Int) (more:Bool) (next:Int) (oa:Option Addr) (on oc:Nat)
  (H:Hid (fP w true true 43 i g code d 43 0 da dn dc code level more next oa on oc)) (ag:List Ob) (A:cY w (J oa on oc) ag) (V:Bool) (C:Hid (eT d ag=V)):
  Calls Tryz.prog 177 #[.agg #[U Z 43,U Z i,U Z g,U Z code,U Z d],.agg #[U Z 43,U Z 0,J da dn dc,U Z code,U Z level,.bool more,U Z next,J oa on oc]] w fun r B=>r=G (.bool (!V))∧Below w.heap.size w B:=by
 have n:∀X Y,Below w.heap.size w ((w.alloc X).alloc Y):=fun X Y=>bta (bal' w X) (Nat.le_refl _) Y
 have q:=hid (show ((w.alloc (K #[U Z 43,U Z i,U Z g,U Z code,U Z d] 45)).alloc (K #[U Z 43,U Z 0,J da dn dc,U Z code,U Z level,.bool more,U Z next,J oa on oc] 53)).heap[w.heap.size]?=N (K #[U Z 43,U Z i,U Z g,U Z code,U Z d] 45)∧((w.alloc (K #[U Z 43,U Z i,U Z g,U Z code,U Z d] 45)).alloc (K #[U Z 43,U Z 0,J da dn dc,U Z code,U Z level,.bool more,U Z next,J oa on oc] 53)).heap[w.heap.size+1]?=N (K #[U Z 43,U Z 0,J da dn dc,U Z code,U Z level,.bool more,U Z next,J oa on oc] 53) from ⟨hpKeep (hpNew w _) (bal' _ _),by have:=hpNew (w.alloc (K #[U Z 43,U Z i,U Z g,U Z code,U Z d] 45)) (K #[U Z 43,U Z 0,J da dn dc,U Z code,U Z level,.bool more,U Z next,J oa on oc] 53);simpa using this⟩);go_enter Tryz.func177,Tryz.ntmps177;go_wp2_with fail;refine(H.out.1 _).mono ?_;rintro r w1 ⟨rfl,b⟩;have j:=hpKeep q.out.1 b;have f:=hpKeep q.out.2 b;have a:=bt (n _ _) b (Nat.le_refl _);obtain⟨u,m,s,o,x,y,v,t⟩:=kA8 f
 clear b n;go_wp2_with fail;refine(H.out.2 _ a).mono ?_;rintro r z ⟨rfl,c⟩;have p:=hpKeep j c;have l:=hpKeep f c;have e:=bt a c (Nat.le_refl _);clear u m s o x y v t j f a c;obtain⟨u,m,s,o,x,y,v,t⟩:=kA8 l
 obtain⟨y0,I,F,E,D⟩:=kA5 p
 clear p l;go_wp2_with fail;refine(CQ _ ag z (A.ah e) w.heap.size d D V C).mono ?_;rintro r w3 ⟨rfl,k⟩;go_wp2;go_ret;exact⟨rfl,bt e k (Nat.le_refl _)⟩
theorem GH (w:World) (e d b c a fn ar:Int) (da:Option Addr) (dn dc:Nat) (code level:Int) (more:Bool) (next:Int) (oa:Option Addr) (on oc:Nat) (data:List UInt8) (ag:List Ob)
  (i:Bs w (J da dn dc) data) (j:cY w (J oa on oc) ag) (g:level≤9223372036854775807) (k: -9223372036854775808≤level):
  fP w (Rq.ok ⟨e,d,b,c,a⟩) (Rp.ok ⟨fn,ar,data,code,level,more,next,ag⟩) e d b c a fn ar da dn dc code level more next oa on oc:=
 ⟨fun W=>b9 e d b c a W,fun W f=>eu fn ar _ code level more next _ data ag W (i.ah f) (j.ah f) g k⟩
theorem yX (w:World) (d g c f e fn ar:Int) (da:Option Addr) (dn dc:Nat) (code level:Int) (more:Bool) (next:Int) (oa:Option Addr) (on oc:Nat) (data:List UInt8) (ag:List Ob)
  (B:Bs w (J da dn dc) data) (C:cY w (J oa on oc) ag) (P:level≤9223372036854775807) (K: -9223372036854775808≤level):
  Calls Tryz.prog 177 #[.agg #[U Z d,U Z g,U Z c,U Z f,U Z e],.agg #[U Z fn,U Z ar,J da dn dc,U Z code,U Z level,.bool more,U Z next,J oa on oc]] w fun r L=>r=G (.bool (dT ⟨d,g,c,f,e⟩ ⟨fn,ar,data,code,level,more,next,ag⟩))∧Below w.heap.size w L:=by
 have H:=GH w d g c f e fn ar da dn dc code level more next oa on oc data ag B C P K
 obtain⟨V,a⟩:∃V,dT ⟨d,g,c,f,e⟩ ⟨fn,ar,data,code,level,more,next,ag⟩=V:=⟨_,rfl⟩
 rw[a];unfold dT at a;simp only at a;cases h1:Rq.ok ⟨d,g,c,f,e⟩ with
 |false=>
  rw[h1] at H a;simp only[Bool.false_and] at a;subst a;exact EL w _ _ d g c f e fn ar da dn dc code level more next oa on oc H (.inl rfl)
 |true=>
 cases h2:Rp.ok ⟨fn,ar,data,code,level,more,next,ag⟩ with
 |false=>
  rw[h1,h2] at H a;simp only[Bool.and_false,Bool.false_and] at a;subst a;exact EL w _ _ d g c f e fn ar da dn dc code level more next oa on oc H (.inr (.inl rfl))
 |true=>
 rw[h1,h2] at H a;simp only[Bool.true_and] at a;by_cases q:d=fn;rotate_left
 ·have:(d==fn)=false:=by simpa using q
  rw[this,Bool.false_and] at a;subst a;exact EL w _ _ d g c f e fn ar da dn dc code level more next oa on oc H (.inr (.inr q))
 subst q;rw[beq_self_eq_true,Bool.true_and] at a;by_cases p:ar=0;rotate_left
 ·rw [if_neg p] at a
  subst a;exact Ho w g c f e d ar da dn dc code level more next oa on oc H (by simpa using p)
 subst p;rw[if_pos rfl] at a;obtain⟨y,_,_⟩:=B.gT;have S:=C.gT;have Q:d=1∨d=2∨d=3∨d=4∨d=17∨d=43:=by
  unfold Rq.ok at h1;simp only at h1;split at h1
  ·omega
  ·split at h1
   ·omega
   ·split at h1
    ·omega
    ·cases h1
 have z:(1≤d∧d≤4)→1≤c∧c≤2000:=by
  intro h;unfold Rq.ok at h1;simp only at h1;rw[if_pos h] at h1;simp at h1;have:=(lT d).2;omega
 have F:(d=1∨d=2)→∀s:Nat,c%8=s→1≤s→(dn:Int)=(c+7)/8→∃b o,da=N ⟨b,o,M⟩∧1≤dn∧∀W,Below w.heap.size w W→W.cell? ⟨b,o+(dn-1),M⟩=N (U .u8 (nH data)):=by
  intro h s hs u k;have:=z (by omega);have D:1≤dn:=by omega
  obtain⟨b,o,rfl,n⟩:=B.byte (i:=dn-1) (by omega);refine⟨b,o,rfl,D,fun W O=>?_⟩;have:=cell_keep O n;rw[this];unfold nH aI;rw[y]
 have A:1≤c→c.tmod 8=c%8:=fun h=>Int.tmod_eq_emod_of_nonneg (by omega)
 have I:=Int.emod_nonneg c (show (8:Int)≠0 by decide);have T:=Int.emod_lt_of_pos c (show 0<(8:Int) by decide);rcases Q with rfl|rfl|rfl|rfl|rfl|rfl
 ·rw [if_pos (by decide)] at a
  rw[y] at a;obtain⟨j,l⟩:=z (by decide);by_cases k:(dn:Int)=(c+7)/8
  ·have m:((dn:Int) !=(c+7)/8)=false:=by rw[bne_eq_false_iff_eq];exact k
   have t:((dn:Int)==(c+7)/8)=true:=by rw[beq_iff_eq];exact k
   rw[t,Bool.true_and] at a;by_cases v:c%8=0
   ·rw [v] at a
    have:V=true:=by rw[←a];rfl
    subst this;exact Ac w g c f e da dn dc code level more next oa on oc H j l m (by rw[A j];exact v)
   ·obtain ⟨s,hs⟩:=Int.eq_ofNat_of_zero_le I
    have u:1≤s:=by omega
    obtain⟨b,o,rfl,E,p⟩:=F (by decide) s hs u k;have x:((s:Int)==0)=false:=by rw[beq_eq_false_iff_ne];omega
    rw[hs,x,Bool.false_or,Int.toNat_natCast] at a;exact zR w g c f e b o dn dc code level more next oa on oc H j l m s (by rw[A j];exact hs) u (by omega) x E _ p V a
  ·have m:((dn:Int) !=(c+7)/8)=true:=by rw[bne_iff_ne];exact k
   have t:((dn:Int)==(c+7)/8)=false:=by rw[beq_eq_false_iff_ne];exact k
   rw[t,Bool.false_and] at a;subst a;exact Al w g c f e da dn dc code level more next oa on oc H j l m
 ·rw [if_pos (by decide)] at a
  rw[y] at a;obtain⟨j,l⟩:=z (by decide);by_cases k:(dn:Int)=(c+7)/8
  ·have m:((dn:Int) !=(c+7)/8)=false:=by rw[bne_eq_false_iff_eq];exact k
   have t:((dn:Int)==(c+7)/8)=true:=by rw[beq_iff_eq];exact k
   rw[t,Bool.true_and] at a;by_cases v:c%8=0
   ·rw [v] at a
    have:V=true:=by rw[←a];rfl
    subst this;exact zL w g c f e da dn dc code level more next oa on oc H j l m (by rw[A j];exact v)
   ·obtain ⟨s,hs⟩:=Int.eq_ofNat_of_zero_le I
    have u:1≤s:=by omega
    obtain⟨b,o,rfl,E,p⟩:=F (by decide) s hs u k;have x:((s:Int)==0)=false:=by rw[beq_eq_false_iff_ne];omega
    rw[hs,x,Bool.false_or,Int.toNat_natCast] at a;exact zD w g c f e b o dn dc code level more next oa on oc H j l m s (by rw[A j];exact hs) u (by omega) x E _ p V a
  ·have m:((dn:Int) !=(c+7)/8)=true:=by rw[bne_iff_ne];exact k
   have t:((dn:Int)==(c+7)/8)=false:=by rw[beq_eq_false_iff_ne];exact k
   rw[t,Bool.false_and] at a;subst a;exact zp w g c f e da dn dc code level more next oa on oc H j l m
 ·rw [if_neg (by decide),if_pos (by decide)] at a
  rw[y] at a;obtain⟨j,l⟩:=z (by decide);exact Cv w g c f e da dn dc code level more next oa on oc H j l V a
 ·rw [if_neg (by decide),if_pos (by decide)] at a
  rw[y] at a;obtain⟨j,l⟩:=z (by decide);exact Cy w g c f e da dn dc code level more next oa on oc H j l V a
 ·have:V=true:=by rw[←a];rfl
  subst this;exact EW w g c f e da dn dc code level more next oa on oc H
 ·rw [if_neg (by decide),if_neg (by decide),if_pos (by decide)] at a
  cases n:(code==f) with
  |false=>
   rw[n,Bool.false_and] at a;subst a;exact Ce w g c f e da dn dc code level more next oa on oc H n
  |true=>
   rw[n,Bool.true_and] at a;rw[beq_iff_eq] at n;subst n;have R:eh ag=true:=by
    simp only[Rp.ok,Bool.and_eq_true] at h2;have q:=h2.2;rw[if_pos (by decide),if_pos (by decide)] at q;simp only[Rp.lC,Bool.and_eq_true] at q;exact q.1.2
   rw[←Ad R e] at a;rw[←a];exact DB w g c e da dn dc code level more next oa on oc H ag C _ (hid rfl)
theorem VR (a:Option Addr) (n c:Nat) (b:List UInt8) (w:World) (m:Bs w (J a n c) b) (h2:2≤n) (h3:n≤253) (I:aI b 0=43):
  Calls Tryz.prog 176 #[J a n c] w (DecPost w (Rp.dec b)):=by
 obtain⟨V,dM,cj⟩:=m.gT;unfold maxLen at cj;have R:=hid (LY (b:=b) (by omega) I);have HB:=hid m;obtain⟨jM,off,rfl,y0⟩:=m.byte (i:=0) (by omega);have P:w.cell? ⟨jM,off,M⟩=N (U .u8 (aI b 0)):=y0;have c0:∀W,Below w.heap.size w W→W.cell? ⟨jM,off,M⟩=N (U .u8 43):=fun W h=>by rw[←I];exact cell_keep h P
 have O:∀X,Below w.heap.size w (w.alloc X):=fun X=>bal'' w X
 have HK:Hid (∀W,Calls Tryz.prog 195 #[U Z (-85)] W fun r y=>r=G (.bool false)∧W=y):=fun W=>dJ (-85) W
 have t:Hid (∀W,Calls Tryz.prog 195 #[U Z 43] W fun r y=>r=G (.bool true)∧W=y):=fun W=>dJ 43 W
 have iL:¬n<2:=by omega
 have OI:¬253<n:=by omega
 have S:Hid (∀X,Calls Tryz.prog 196 #[J (N ⟨jM,off,M⟩) n c] (w.alloc X) (DecPost (w.alloc X) (cM b))):=fun X=>Md _ n c b _ (HB.out.ah (bal'' w X)) h2 h3
 clear m V y0 P I;go_enter Tryz.func176,Tryz.ntmps176;go_wp2_with fail;refine(HK.out _).mono ?_;rintro r w1 ⟨rfl,rfl⟩;go_wp2_with fail;refine(t.out _).mono ?_;rintro r w1 ⟨rfl,rfl⟩;go_wp2_with fail;refine(S.out _).mono ?_;rintro r w5 Y;rcases Y with⟨x,da,dc,oa,oc,l,rfl,Q,f⟩|⟨e,u,o,l,rfl,f⟩
 ·have HS:Hid (Rp.dec b=N x):=R.out.trans l
  have T:=hid Q;have j:w5.heap[w.heap.size]?=N (K #[U Z 0,U Z 0,J none 0 0,U Z 0,U Z 0,.bool false,U Z 0,J none 0 0] 53):=hpKeep (hpNew w _) f;have d:=bt (O _) f (Nat.le_refl _);clear l Q;go_wp2_with (refine wpList_storeW rfl 53 (.tmp 2) (.tmp 49) rfl w.heap.size 0 _ _ (#[U Z x.fn,U Z x.ar,J da x.data.length dc,U Z x.code,U Z x.level,.bool x.more,U Z x.next,J oa x.ag.length oc]) rfl rfl j (by simp) (by kernel_rfl) (by rfl) ?_;intro w4 z g D);obtain⟨F,p,q,A,L,s,E,C⟩:=kA8 z
  refine bodyPost_ret (v:=.tuple #[.agg #[U Z x.fn,U Z x.ar,J da x.data.length dc,U Z x.code,U Z x.level,.bool x.more,U Z x.next,J oa x.ag.length oc],U Z 0]) (by simp [results,Tryz.results176,go_sem,F,p,q,A,L,s,E,C]) rfl ?_;refine DecPost.is HS.out (fun W hW=>T.out W ?_) (d.trans (g.below d.size (fun k hk e=>by omega)));exact(ay.dg (B:=(w.alloc (K #[U Z 0,U Z 0,J none 0 0,U Z 0,U Z 0,.bool false,U Z 0,J none 0 0] 53)).heap.size) g (fun k e=>by simp;omega)).trans (hW.mono (by simp))
 ·have HN:Hid (Rp.dec b=none):=R.out.trans l
  have j:w5.heap[w.heap.size]?=N (K #[U Z 0,U Z 0,J none 0 0,U Z 0,U Z 0,.bool false,U Z 0,J none 0 0] 53):=hpKeep (hpNew w _) f;have d:=bt (O _) f (Nat.le_refl _);clear l;go_wp2_with (refine wpList_storeW rfl 53 (.tmp 2) (.tmp 49) rfl w.heap.size 0 _ _ (#[U Z 0,U Z 0,J none 0 0,U Z 0,U Z 0,.bool false,U Z 0,J none 0 0]) rfl rfl j (by simp) (by kernel_rfl) (by rfl) ?_;intro w4 z g D);obtain⟨F,p,q,A,L,s,E,C⟩:=kA8 z
  refine bodyPost_ret (v:=.tuple #[.agg #[U Z 0,U Z 0,J none 0 0,U Z 0,U Z 0,.bool false,U Z 0,J none 0 0],U Z e]) (by simp [results,Tryz.results176,go_sem,F,p,q,A,L,s,E,C]) rfl ?_;exact DecPost.err HN.out e u o (d.trans (g.below d.size (fun k hk e=>by omega)))
theorem It (a:Option Addr) (n c:Nat) (b:List UInt8) (w:World) (d:Bs w (J a n c) b):
  Calls Tryz.prog 176 #[J a n c] w (DecPost w (Rp.dec b)):=by
 by_cases h:n<2∨253<n
 ·exact Te a n c b w d h
 ·cases hk:aR (aI b 0-128) with
  |true=>exact TQ a n c b w d (by omega) (by omega) hk
  |false=>
   cases hk2:aR (aI b 0) with
   |false=>exact St a n c b w d (by omega) (by omega) hk hk2
   |true=>
    by_cases e:aI b 0=43
    ·exact VR a n c b w d (by omega) (by omega) e
    ·exact T6 a n c b w d (by omega) (by omega) hk2 e
theorem DE (l p m o q:Int) (a:Option Addr) (n c:Nat) (b:List UInt8) (w:World) (hb:Bs w (J a n c) b):
  Calls Tryz.prog 147 #[.agg #[U Z l,U Z p,U Z m,U Z o,U Z q],J a n c] w (ki w (eg ⟨l,p,m,o,q⟩ b)):=by
 have kB:∀X Y,Below w.heap.size w ((w.alloc X).alloc Y):=fun X Y=>bta (bal' w X) (Nat.le_refl _) Y
 obtain⟨V,hV⟩:∃V,Rq.ok ⟨l,p,m,o,q⟩=V:=⟨_,rfl⟩
 have HQ:Hid (∀W,Calls Tryz.prog 121 #[.agg #[U Z l,U Z p,U Z m,U Z o,U Z q]] W fun r w'=>r=G (.bool V)∧Below W.heap.size W w'):=fun W=>by rw[←hV];exact b9 l p m o q W
 have HH:=hid (show ((w.alloc (K #[U Z l,U Z p,U Z m,U Z o,U Z q] 45)).alloc (K #[U Z 0,U Z 0,J none 0 0,U Z 0,U Z 0,.bool false,U Z 0,J none 0 0] 53)).heap[w.heap.size]?=N (K #[U Z l,U Z p,U Z m,U Z o,U Z q] 45)∧((w.alloc (K #[U Z l,U Z p,U Z m,U Z o,U Z q] 45)).alloc (K #[U Z 0,U Z 0,J none 0 0,U Z 0,U Z 0,.bool false,U Z 0,J none 0 0] 53)).heap[w.heap.size+1]?=N (K #[U Z 0,U Z 0,J none 0 0,U Z 0,U Z 0,.bool false,U Z 0,J none 0 0] 53) from ⟨hpKeep (hpNew w _) (bal' _ _),by have:=hpNew (w.alloc (K #[U Z l,U Z p,U Z m,U Z o,U Z q] 45)) (K #[U Z 0,U Z 0,J none 0 0,U Z 0,U Z 0,.bool false,U Z 0,J none 0 0] 53);simpa using this⟩);have HD:Hid (∀W,Below w.heap.size w W→Calls Tryz.prog 176 #[J a n c] W (ki W (Rp.dec b))):=fun W hW=>(It a n c b W (hb.ah hW)).mono fun _ _ h=>h.one
 clear hb;obtain⟨D,hD⟩:=gE (Rp.dec b);obtain⟨O,u⟩:∃O,eg ⟨l,p,m,o,q⟩ b=O:=⟨_,rfl⟩
 rw[u];unfold eg at u;rw[hV,hD] at u;rw[hD] at HD;cases V with
 |false=>
  rw[if_neg (by decide)] at u;subst u;clear hV hD;go_enter Tryz.func147,Tryz.ntmps147;go_wp2_with fail;refine(HQ.out _).mono ?_;rintro r w1 ⟨rfl,j⟩;have g:=bt (kB _ _) j (Nat.le_refl _);have VH:=hpKeep HH.out.2 j;clear kB j;go_wp2_with (refine wpList_storeW rfl 53 (.tmp 4) (.tmp 11) rfl (w.heap.size+1) 0 _ _ (#[U Z 0,U Z 0,J none 0 0,U Z 0,U Z 0,.bool false,U Z 0,J none 0 0]) rfl rfl VH (by simp) (by kernel_rfl) (by rfl) ?_;intro w4 E f P);obtain⟨I,z,L,M,B,C,Q,F⟩:=kA8 E
  refine bodyPost_ret (v:=.tuple #[.agg #[U Z 0,U Z 0,J none 0 0,U Z 0,U Z 0,.bool false,U Z 0,J none 0 0],U Z 5]) (by simp [results,Tryz.results147,go_sem,I,z,L,M,B,C,Q,F]) rfl ?_;exact ki.err rfl 5 (by decide) (by decide) (g.trans (f.below g.size (fun k hk e=>by omega)))
 |true=>
  rw[if_pos rfl] at u;replace u:=hid u;clear hD;go_enter Tryz.func147,Tryz.ntmps147;go_wp2_with fail;refine(HQ.out _).mono ?_;rintro r w1 ⟨rfl,j⟩;have g:=bt (kB _ _) j (Nat.le_refl _);have VH:=hpKeep HH.out.2 j;have ad:=hpKeep HH.out.1 j;clear kB j;go_wp2_with fail;refine(HD.out _ g).mono ?_;rintro r i ⟨x,da,dc,oa,oc,e,rfl,A,hx,y⟩;have R:=bt g A (Nat.le_refl _);have Wi:=hpKeep VH A;have a3:=hpKeep ad A;have a9:w.heap.size+1<i.heap.size:=(Array.getElem?_eq_some_iff.1 Wi).1;have QO:w.heap.size+1<w1.heap.size:=(Array.getElem?_eq_some_iff.1 VH).1;replace hx:=hid hx;replace y:=hid y;clear VH ad A g;have db:¬(fun k=>k=i.heap.size) (w.heap.size+1):=fun h=>by have h':w.heap.size+1=i.heap.size:=h;omega
  have QC:¬(fun k=>k=i.heap.size) w.heap.size:=fun h=>by have h':w.heap.size=i.heap.size:=h;omega
  have S:Hid (∀X W,Keeps (· =i.heap.size) (i.alloc X) W→Below w.heap.size w W∧ay w1.heap.size i W):=fun X W h=>⟨(bta R (Nat.le_refl _) _).trans (h.below (by have:=R.size;simp;omega) (fun k hk e=>by omega)),ay.Hx h⟩
  have ND:∀X,(i.alloc X).heap[w.heap.size+1]?=N (K #[U Z 0,U Z 0,J none 0 0,U Z 0,U Z 0,.bool false,U Z 0,J none 0 0] 53):=fun X=>hpKeep Wi (bal' _ _)
  have ao:∀X,(i.alloc X).heap[w.heap.size]?=N (K #[U Z l,U Z p,U Z m,U Z o,U Z q] 45):=fun X=>hpKeep a3 (bal' _ _)
  have gX:=hpNew i (K #[U Z 0,U Z 0,J none 0 0,U Z 0,U Z 0,.bool false,U Z 0,J none 0 0] 53);rcases y.out with⟨rfl,ab⟩|⟨he,a6,a7,ak,Xy⟩
  ·obtain ⟨V2,So⟩:∃V2,dT ⟨l,p,m,o,q⟩ x=V2:=⟨_,rfl⟩
   have T:=u.out;rw[ab] at T;simp only at T;rw[So] at T;clear u ab y;by_cases hf:x.fn=l
   ·have aX:(x.fn !=l)=false:=by rw[bne_eq_false_iff_eq];exact hf
    have HM:Hid (∀X W,Keeps (· =i.heap.size) (i.alloc X) W→Calls Tryz.prog 177 #[.agg #[U Z l,U Z p,U Z m,U Z o,U Z q],.agg #[U Z x.fn,U Z x.ar,J da x.data.length dc,U Z x.code,U Z x.level,.bool x.more,U Z x.next,J oa x.ag.length oc]] W fun r w'=>r=G (.bool V2)∧Below W.heap.size W w'):=fun X W h=>by
     have hr:=hx.out W (ay.Hx h);rw[←So];exact yX W l p m o q x.fn x.ar da _ dc x.code x.level x.more x.next oa _ oc x.data x.ag hr.d hr.o hr.hi hr.lo
    have UN:=hid hf;clear hf So;have HS:Hid (O=if V2=true then some x else none):=by
     show _=_;rw[←T];cases V2<;>simp [UN.out]
    clear T;go_wp2_with (first|(refine wpList_storeW rfl 53 (.tmp 6) (.tmp 15) rfl i.heap.size 0 _ _ (#[U Z x.fn,U Z x.ar,J da x.data.length dc,U Z x.code,U Z x.level,.bool x.more,U Z x.next,J oa x.ag.length oc]) rfl rfl gX (by simp) (by kernel_rfl) (by rfl) ?_;intro w3 t d DF;have Si:=hpKeeps (ND _) d db;have KR:=hpKeeps (ao _) d QC;have s:=S.out _ _ d;have c0:=hpCell t 0;have c1:=hpCell t 1;have c2:=hpCell t 2;have c3:=hpCell t 3;have c4:=hpCell t 4;have c5:=hpCell t 5;have c6:=hpCell t 6;have c7:=hpCell t 7;have z0:=hpCell KR 0;have z1:=hpCell KR 1;have z2:=hpCell KR 2;have z3:=hpCell KR 3;have z4:=hpCell KR 4)|fail);refine(HM.out _ _ d).mono ?_;rintro r a8 ⟨rfl,Iu⟩;have av:=hpKeep Si Iu;have a5:=hpKeep t Iu;have aY:=bt s.1 Iu (Nat.le_refl _);have a4:Hid (ay w1.heap.size i a8):=s.2.trans (ay.af Iu);clear c0 c1 c2 c3 c4 c5 c6 c7 z0 z1 z2 z3 z4 Si KR s Iu HM;cases V2 with
    |false=>
     have HN:Hid (O=none):=by show _=_;rw[HS.out];rfl
     clear HS;go_wp2_with (refine wpList_storeW rfl 53 (.tmp 4) (.tmp 34) rfl (w.heap.size+1) 0 _ _ (#[U Z 0,U Z 0,J none 0 0,U Z 0,U Z 0,.bool false,U Z 0,J none 0 0]) rfl rfl av (by simp) (by kernel_rfl) (by rfl) ?_;intro w4 E f P);obtain⟨I,z,L,M,B,C,Q,F⟩:=kA8 E
     refine bodyPost_ret (v:=.tuple #[.agg #[U Z 0,U Z 0,J none 0 0,U Z 0,U Z 0,.bool false,U Z 0,J none 0 0],U Z 17]) (by simp [results,Tryz.results147,go_sem,I,z,L,M,B,C,Q,F]) rfl ?_;exact ki.err HN.out 17 (by decide) (by decide) (aY.trans (f.below aY.size (fun k hk e=>by omega)))
    |true=>
     have a2:Hid (O=N x):=by show _=_;rw[HS.out];rfl
     clear HS;obtain⟨e0,e1,e2,e3,e4,e5,e6,e7⟩:=kA8 a5
     go_wp2_with (refine wpList_storeW rfl 53 (.tmp 4) (.tmp 35) rfl (w.heap.size+1) 0 _ _ (#[U Z x.fn,U Z x.ar,J da x.data.length dc,U Z x.code,U Z x.level,.bool x.more,U Z x.next,J oa x.ag.length oc]) rfl rfl av (by simp) (by kernel_rfl) (by rfl) ?_;intro w4 E f P);clear e0 e1 e2 e3 e4 e5 e6 e7;obtain⟨I,z,L,M,B,C,Q,F⟩:=kA8 E
     refine bodyPost_ret (v:=.tuple #[.agg #[U Z x.fn,U Z x.ar,J da x.data.length dc,U Z x.code,U Z x.level,.bool x.more,U Z x.next,J oa x.ag.length oc],U Z 0]) (by simp [results,Tryz.results147,go_sem,I,z,L,M,B,C,Q,F]) rfl ?_;refine⟨x,da,dc,oa,oc,0,rfl,aY.trans (f.below aY.size (fun k hk e=>by omega)),fun W hW=>?_,.inl ⟨rfl,a2.out⟩⟩;exact hx.out W (a4.out.trans ((ay.dg f (fun k e=>by omega)).trans (hW.mono (by omega))))
   ·have aX:(x.fn !=l)=true:=by rw[bne_iff_ne];exact hf
    have HN:Hid (O=none):=by
     show _=_;rw[←T,if_neg (fun h=>hf h.1)]
    clear hf T So V2;go_wp2_with (first|(refine wpList_storeW rfl 53 (.tmp 6) (.tmp 15) rfl i.heap.size 0 _ _ (#[U Z x.fn,U Z x.ar,J da x.data.length dc,U Z x.code,U Z x.level,.bool x.more,U Z x.next,J oa x.ag.length oc]) rfl rfl gX (by simp) (by kernel_rfl) (by rfl) ?_;intro w3 t d DF;have Si:=hpKeeps (ND _) d db;have aY:=(S.out _ _ d).1;have c0:=hpCell t 0;have z0:=hpCell (hpKeeps (ao _) d QC) 0)|(refine wpList_storeW rfl 53 (.tmp 4) (.tmp 28) rfl (w.heap.size+1) 0 _ _ (#[U Z 0,U Z 0,J none 0 0,U Z 0,U Z 0,.bool false,U Z 0,J none 0 0]) rfl rfl Si (by simp) (by kernel_rfl) (by rfl) ?_;intro w4 E f P));obtain⟨I,z,L,M,B,C,Q,F⟩:=kA8 E
    refine bodyPost_ret (v:=.tuple #[.agg #[U Z 0,U Z 0,J none 0 0,U Z 0,U Z 0,.bool false,U Z 0,J none 0 0],U Z 16]) (by simp [results,Tryz.results147,go_sem,I,z,L,M,B,C,Q,F]) rfl ?_;exact ki.err HN.out 16 (by decide) (by decide) (aY.trans (f.below aY.size (fun k hk e=>by omega)))
  ·have O9:(e !=0)=true:=by rw[bne_iff_ne];exact he
   have HN:Hid (O=none):=by show _=_;rw[←u.out,ak]
   clear he ak y Xy;go_wp2_with (first|(refine wpList_storeW rfl 53 (.tmp 6) (.tmp 15) rfl i.heap.size 0 _ _ (#[U Z x.fn,U Z x.ar,J da x.data.length dc,U Z x.code,U Z x.level,.bool x.more,U Z x.next,J oa x.ag.length oc]) rfl rfl gX (by simp) (by kernel_rfl) (by rfl) ?_;intro w3 t d DF;have Si:=hpKeeps (ND _) d db;have s:=S.out _ _ d)|(refine wpList_storeW rfl 53 (.tmp 4) (.tmp 20) rfl (w.heap.size+1) 0 _ _ (#[U Z 0,U Z 0,J none 0 0,U Z 0,U Z 0,.bool false,U Z 0,J none 0 0]) rfl rfl Si (by simp) (by kernel_rfl) (by rfl) ?_;intro w4 E f P));obtain⟨I,z,L,M,B,C,Q,F⟩:=kA8 E
   refine bodyPost_ret (v:=.tuple #[.agg #[U Z 0,U Z 0,J none 0 0,U Z 0,U Z 0,.bool false,U Z 0,J none 0 0],U Z e]) (by simp [results,Tryz.results147,go_sem,I,z,L,M,B,C,Q,F]) rfl ?_;exact ki.err HN.out e a6 a7 (s.1.trans (f.below s.1.size (fun k hk e=>by omega)))
theorem pF (unit i g d f j:Int) (m:Option Addr) (o n:Nat) (f1 f2 flags:Int) (b:List UInt8) (w:World) (hb:Bs w (J m o n) b):
    Calls Tryz.prog 109 #[U Z unit,.agg #[U Z i,U Z g,U Z d,U Z f,U Z j],.agg #[J m o n,U Z f1,U Z f2,U Z flags]] w (nz w (aT aw unit ⟨i,g,d,f,j⟩ flags b)):=by
  have T:=hid (show Below w.heap.size w ((((w.alloc (K #[U Z i,U Z g,U Z d,U Z f,U Z j] 45)).alloc (K #[J m o n,U Z f1,U Z f2,U Z flags] 179)).alloc (K #[U Z 0,U Z 0,U Z 0,J none 0 0,U Z 0,U Z 0,.bool false,U Z 0,J none 0 0] 55)).alloc (K #[U Z 4,U Z 0,U Z 0,J none 0 0,U Z 0,U Z 0,.bool false,U Z 0,J none 0 0] 55)) from bta (bta (bta (bal' w _) (Nat.le_refl _) _) (Nat.le_refl _) _) (Nat.le_refl _) _);have HH:=hid (show ((((w.alloc (K #[U Z i,U Z g,U Z d,U Z f,U Z j] 45)).alloc (K #[J m o n,U Z f1,U Z f2,U Z flags] 179)).alloc (K #[U Z 0,U Z 0,U Z 0,J none 0 0,U Z 0,U Z 0,.bool false,U Z 0,J none 0 0] 55)).alloc (K #[U Z 4,U Z 0,U Z 0,J none 0 0,U Z 0,U Z 0,.bool false,U Z 0,J none 0 0] 55)).heap[w.heap.size]?=N (K #[U Z i,U Z g,U Z d,U Z f,U Z j] 45)∧((((w.alloc (K #[U Z i,U Z g,U Z d,U Z f,U Z j] 45)).alloc (K #[J m o n,U Z f1,U Z f2,U Z flags] 179)).alloc (K #[U Z 0,U Z 0,U Z 0,J none 0 0,U Z 0,U Z 0,.bool false,U Z 0,J none 0 0] 55)).alloc (K #[U Z 4,U Z 0,U Z 0,J none 0 0,U Z 0,U Z 0,.bool false,U Z 0,J none 0 0] 55)).heap[w.heap.size+1]?=N (K #[J m o n,U Z f1,U Z f2,U Z flags] 179)∧((((w.alloc (K #[U Z i,U Z g,U Z d,U Z f,U Z j] 45)).alloc (K #[J m o n,U Z f1,U Z f2,U Z flags] 179)).alloc (K #[U Z 0,U Z 0,U Z 0,J none 0 0,U Z 0,U Z 0,.bool false,U Z 0,J none 0 0] 55)).alloc (K #[U Z 4,U Z 0,U Z 0,J none 0 0,U Z 0,U Z 0,.bool false,U Z 0,J none 0 0] 55)).heap[w.heap.size+2]?=N (K #[U Z 0,U Z 0,U Z 0,J none 0 0,U Z 0,U Z 0,.bool false,U Z 0,J none 0 0] 55)∧((((w.alloc (K #[U Z i,U Z g,U Z d,U Z f,U Z j] 45)).alloc (K #[J m o n,U Z f1,U Z f2,U Z flags] 179)).alloc (K #[U Z 0,U Z 0,U Z 0,J none 0 0,U Z 0,U Z 0,.bool false,U Z 0,J none 0 0] 55)).alloc (K #[U Z 4,U Z 0,U Z 0,J none 0 0,U Z 0,U Z 0,.bool false,U Z 0,J none 0 0] 55)).heap[w.heap.size+3]?=N (K #[U Z 4,U Z 0,U Z 0,J none 0 0,U Z 0,U Z 0,.bool false,U Z 0,J none 0 0] 55) from
    ⟨hpKeep (hpKeep (hpKeep (hpNew w _) (bal' _ _)) (bal' _ _)) (bal' _ _),
     hpKeep (hpKeep (by have:=hpNew (w.alloc (K #[U Z i,U Z g,U Z d,U Z f,U Z j] 45)) (K #[J m o n,U Z f1,U Z f2,U Z flags] 179);simpa using this) (bal' _ _)) (bal' _ _),
     hpKeep (by have:=hpNew ((w.alloc (K #[U Z i,U Z g,U Z d,U Z f,U Z j] 45)).alloc (K #[J m o n,U Z f1,U Z f2,U Z flags] 179)) (K #[U Z 0,U Z 0,U Z 0,J none 0 0,U Z 0,U Z 0,.bool false,U Z 0,J none 0 0] 55);simpa using this) (bal' _ _),
     by have:=hpNew (((w.alloc (K #[U Z i,U Z g,U Z d,U Z f,U Z j] 45)).alloc (K #[J m o n,U Z f1,U Z f2,U Z flags] 179)).alloc (K #[U Z 0,U Z 0,U Z 0,J none 0 0,U Z 0,U Z 0,.bool false,U Z 0,J none 0 0] 55)) (K #[U Z 4,U Z 0,U Z 0,J none 0 0,U Z 0,U Z 0,.bool false,U Z 0,J none 0 0] 55);simpa using this⟩)
  obtain⟨S,hS⟩:=gE (bk aw b);have HS:Hid (∀W,Below w.heap.size w W→Calls Tryz.prog 146 #[J m o n] W (cP W S)):=fun W hW=>by rw[←hS];exact kZ m o n b W (hb.ah hW)
  have HR:Hid (∀W pa pn V p,Bs W (J pa pn V) p→Calls Tryz.prog 147 #[.agg #[U Z i,U Z g,U Z d,U Z f,U Z j],J pa pn V] W (ki W (eg ⟨i,g,d,f,j⟩ p))):=fun W pa pn V p h=>DE i g d f j pa pn V p W h
  obtain⟨O,t⟩:∃O,aT aw unit ⟨i,g,d,f,j⟩ flags b=O:=⟨_,rfl⟩
  rw[t];unfold aT at t;rw[hS] at t;replace t:=hid t;clear hS hb;go_enter Tryz.func109,Tryz.ntmps109;go_wp2_with fail;refine(HS.out _ T.out).mono ?_;rintro r w1 ⟨u,pa,pn,V,e,rfl,q,a⟩;have a:=hid a;have gQ:=hpKeep HH.out.1 q;have gF:=hpKeep HH.out.2.1 q;have gZ:=hpKeep HH.out.2.2.1 q;have gB:=hpKeep HH.out.2.2.2 q;have l:=bt T.out q (Nat.le_refl _);have QO:w.heap.size+3<w1.heap.size:=(Array.getElem?_eq_some_iff.1 gB).1;have yF:=cG gF 3 rfl;by_cases vL:¬flags=0∨¬e=0∨¬u=unit
  · have F:Hid (O=⟨4,Rp.zero⟩):=by
      show _=_;rw[←t.out];rcases a.out with⟨h1,p,h2,_⟩|⟨h1,h2⟩
      · rw[h2]
        simp only;rw[if_neg (by omega)]
      · rw[h2]
    rename_i Pv;clear Pv a t;obtain⟨e0,e1,e2,e3,e4,e5,e6,e7,e8⟩:=I8 gB
    rcases (show (flags !=0)=true∨((flags !=0)=false∧(e !=0)=true)∨((flags !=0)=false∧(e !=0)=false∧(u !=unit)=true) by
      by_cases c1:flags=0
      · by_cases c2:e=0
        · exact .inr (.inr ⟨by rw[bne_eq_false_iff_eq];exact c1,by rw[bne_eq_false_iff_eq];exact c2,by rw[bne_iff_ne];omega⟩)
        · exact .inr (.inl ⟨by rw[bne_eq_false_iff_eq];exact c1,by rw[bne_iff_ne];exact c2⟩)
      · exact .inl (by rw[bne_iff_ne];exact c1)) with c1|⟨c1,c2⟩|⟨c1,c2,c3⟩
    all_goals
      clear vL;go_wp2_with (refine wpList_storeW rfl 55 (.tmp 6) (.tmp 32) rfl (w.heap.size+2) 0 _ _ (#[U Z 4,U Z 0,U Z 0,J none 0 0,U Z 0,U Z 0,.bool false,U Z 0,J none 0 0]) rfl rfl gZ (by simp) (by kernel_rfl) (by rfl) ?_;intro w4 M c I);clear e0 e1 e2 e3 e4 e5 e6 e7 e8;obtain⟨C,s,E,G,y,z,L,B,A⟩:=I8 M
      refine bodyPost_ret (v:=.agg #[U Z 4,U Z 0,U Z 0,J none 0 0,U Z 0,U Z 0,.bool false,U Z 0,J none 0 0]) (by simp [results,Tryz.results109,go_sem,C,s,E,G,y,z,L,B,A]) rfl ?_;exact nz.bare 4 F.out (l.trans (c.below l.size (fun k hk e=>by omega)))
  · obtain⟨c1,c2,c3⟩:flags=0∧e=0∧u=unit:=by omega
    obtain⟨p,ab,hP⟩:∃p,S=N (u,p)∧Hid (∀W,ay (((((w.alloc (K #[U Z i,U Z g,U Z d,U Z f,U Z j] 45)).alloc (K #[J m o n,U Z f1,U Z f2,U Z flags] 179)).alloc (K #[U Z 0,U Z 0,U Z 0,J none 0 0,U Z 0,U Z 0,.bool false,U Z 0,J none 0 0] 55)).alloc (K #[U Z 4,U Z 0,U Z 0,J none 0 0,U Z 0,U Z 0,.bool false,U Z 0,J none 0 0] 55))).heap.size w1 W→Bs W (J pa pn V) p):=by
      rcases a.out with⟨_,p,h2,h3⟩|⟨h1,_⟩
      · exact⟨p,h2,h3⟩
      · exact absurd c2 h1
    have HJ:Hid (eN (eg ⟨i,g,d,f,j⟩ p)=O):=by
      show _=_;rw[←t.out,ab];simp only;rw[if_pos ⟨c1,c3⟩]
    rename_i Pv;clear Pv a t ab vL HS;subst c1 c2 c3;have hu:(u !=u)=false:=by rw[bne_eq_false_iff_eq]
    obtain⟨R,hR⟩:∃R,eg ⟨i,g,d,f,j⟩ p=R:=⟨_,rfl⟩
    have N2:=hid (HR.out w1 pa pn V p (hP.out w1 (ay.refl _ _)));rw[hR] at HJ N2;clear hR HR hP;obtain⟨y0,y1,y2,y3,y4⟩:=kA5 gQ
    go_wp2_with fail;refine N2.out.mono ?_;rintro r w2 ⟨x,da,dc,oa,oc,e,rfl,Q,hx,a⟩;replace a:=hid a;have HX:=hid hx;have P:=bt l Q (Nat.le_refl _);have Wi:=hpKeep gZ Q;have ak:=hpKeep gB Q;have ND:∀X,(w2.alloc X).heap[w.heap.size+2]?=N (K #[U Z 0,U Z 0,U Z 0,J none 0 0,U Z 0,U Z 0,.bool false,U Z 0,J none 0 0] 55):=fun X=>hpKeep Wi (bal' _ _)
    have IV:Hid (∀X W,Keeps (· =w.heap.size+2) (w2.alloc X) W→Below w.heap.size w W∧ay w1.heap.size w2 W):=fun X W h=>⟨(bta P (Nat.le_refl _) X).trans (h.below (by have:=P.size;simp;omega) (fun k hk e=>by omega)),(ay.af (bal' w2 X)).trans (ay.dg h (fun k e=>by omega))⟩
    clear hx gZ gB gQ gF y0 y1 y2 y3 y4 yF HH T q;by_cases he:e=0
    · have ad:R=N x:=by
        rcases a.out with⟨_,h⟩|⟨h,_⟩
        · exact h
        · exact absurd he h
      subst ad he;have Y:Hid ((if x.ar=6 then (⟨5,Rp.zero⟩:Oc) else if x.ar=0 then ⟨1,x⟩ else ⟨2,x⟩)=O):=HJ.out;clear a HJ N2;rcases (show x.ar=6∨((x.ar==6)=false∧x.ar=0)∨((x.ar==6)=false∧(x.ar !=0)=true) by
        by_cases d1:x.ar=6
        · exact .inl d1
        · by_cases d2:x.ar=0
          · exact .inr (.inl ⟨by rw[beq_eq_false_iff_ne];exact d1,d2⟩)
          · exact .inr (.inr ⟨by rw[beq_eq_false_iff_ne];exact d1,by rw[bne_iff_ne];exact d2⟩)) with d1|⟨d1,d2⟩|⟨d1,d2⟩
      · have F:Hid (O=⟨5,Rp.zero⟩):=by show _=_;rw[←Y.out,if_pos d1]
        have aX:(x.ar==6)=true:=by rw[beq_iff_eq];exact d1
        clear Y d1 HX;go_wp2_with (refine wpList_storeW rfl 55 (.tmp 6) (.tmp 47) rfl (w.heap.size+2) 0 _ _ (#[U Z 5,U Z 0,U Z 0,J none 0 0,U Z 0,U Z 0,.bool false,U Z 0,J none 0 0]) rfl rfl (ND _) (by simp) (by kernel_rfl) (by rfl) ?_;intro w4 M c I);have D:=IV.out _ _ c;obtain⟨C,s,E,G,y,z,L,B,A⟩:=I8 M
        refine bodyPost_ret (v:=.agg #[U Z 5,U Z 0,U Z 0,J none 0 0,U Z 0,U Z 0,.bool false,U Z 0,J none 0 0]) (by simp [results,Tryz.results109,go_sem,C,s,E,G,y,z,L,B,A]) rfl ?_;exact nz.bare 5 F.out D.1
      · have F:Hid (O=⟨1,x⟩):=by
          show _=_;rw[←Y.out,if_neg (by rw[d2];decide),if_pos d2]
        have a2:(x.ar !=0)=false:=by rw[bne_eq_false_iff_eq];exact d2
        clear Y d2;go_wp2_with (refine wpList_storeW rfl 55 (.tmp 6) (.tmp 55) rfl (w.heap.size+2) 0 _ _ (#[U Z 1,U Z x.fn,U Z x.ar,J da x.data.length dc,U Z x.code,U Z x.level,.bool x.more,U Z x.next,J oa x.ag.length oc]) rfl rfl (ND _) (by simp) (by kernel_rfl) (by rfl) ?_;intro w4 M c I);have D:=IV.out _ _ c;obtain⟨C,s,E,G,y,z,L,B,A⟩:=I8 M
        refine bodyPost_ret (v:=.agg #[U Z 1,U Z x.fn,U Z x.ar,J da x.data.length dc,U Z x.code,U Z x.level,.bool x.more,U Z x.next,J oa x.ag.length oc]) (by simp [results,Tryz.results109,go_sem,C,s,E,G,y,z,L,B,A]) rfl ?_;rw[F.out];exact⟨da,dc,oa,oc,rfl,fun W hW=>HX.out W (D.2.trans (hW.mono l.size)),D.1⟩
      · have F:Hid (O=⟨2,x⟩):=by
          show _=_;rw[beq_eq_false_iff_ne] at d1;rw[bne_iff_ne] at d2;rw[←Y.out,if_neg d1,if_neg d2]
        clear Y;go_wp2_with (refine wpList_storeW rfl 55 (.tmp 6) (.tmp 53) rfl (w.heap.size+2) 0 _ _ (#[U Z 2,U Z x.fn,U Z x.ar,J da x.data.length dc,U Z x.code,U Z x.level,.bool x.more,U Z x.next,J oa x.ag.length oc]) rfl rfl (ND _) (by simp) (by kernel_rfl) (by rfl) ?_;intro w4 M c I);have D:=IV.out _ _ c;obtain⟨C,s,E,G,y,z,L,B,A⟩:=I8 M
        refine bodyPost_ret (v:=.agg #[U Z 2,U Z x.fn,U Z x.ar,J da x.data.length dc,U Z x.code,U Z x.level,.bool x.more,U Z x.next,J oa x.ag.length oc]) (by simp [results,Tryz.results109,go_sem,C,s,E,G,y,z,L,B,A]) rfl ?_;rw[F.out];exact⟨da,dc,oa,oc,rfl,fun W hW=>HX.out W (D.2.trans (hW.mono l.size)),D.1⟩
    · have F:Hid (O=⟨4,Rp.zero⟩):=by
        show _=_;rw[←HJ.out];rcases a.out with⟨h,_⟩|⟨_,_,_,h,_⟩
        · exact absurd h he
        · rw[h];rfl
      have O9:(e !=0)=true:=by rw[bne_iff_ne];exact he
      clear a HJ he N2;have av:∀X,(w2.alloc X).heap[w.heap.size+3]?=N (K #[U Z 4,U Z 0,U Z 0,J none 0 0,U Z 0,U Z 0,.bool false,U Z 0,J none 0 0] 55):=fun X=>hpKeep ak (bal' _ _)
      have ao:=av (K #[U Z x.fn,U Z x.ar,J da x.data.length dc,U Z x.code,U Z x.level,.bool x.more,U Z x.next,J oa x.ag.length oc] 53);obtain⟨e0,e1,e2,e3,e4,e5,e6,e7,e8⟩:=I8 ao
      go_wp2_with (refine wpList_storeW rfl 55 (.tmp 6) (.tmp 42) rfl (w.heap.size+2) 0 _ _ (#[U Z 4,U Z 0,U Z 0,J none 0 0,U Z 0,U Z 0,.bool false,U Z 0,J none 0 0]) rfl rfl (ND _) (by simp) (by kernel_rfl) (by rfl) ?_;intro w4 M c I);have D:=IV.out _ _ c;clear e0 e1 e2 e3 e4 e5 e6 e7 e8;obtain⟨C,s,E,G,y,z,L,B,A⟩:=I8 M
      refine bodyPost_ret (v:=.agg #[U Z 4,U Z 0,U Z 0,J none 0 0,U Z 0,U Z 0,.bool false,U Z 0,J none 0 0]) (by simp [results,Tryz.results109,go_sem,C,s,E,G,y,z,L,B,A]) rfl ?_;exact nz.bare 4 F.out D.1
