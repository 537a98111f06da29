import Derived.Test.YtoaoejaodhedaaaGreatF04
namespace Go.Proofs.YtoaoejaodhedaaaGreat
open Go.RowKit
open Value renaming slice→V,int→N
open Option renaming none→J,some→M
open IntKind renaming i64→U
open Obj renaming cells→Y
set_option maxHeartbeats 12800000
set_option maxRecDepth 100000
variable {l:List Ob} {w:World}
def DvAx (w W2:World) (acc:List Ob) (ln:Nat) (v:Value) (W:World):Prop:=∃cs,W.ownsRow W2.heap.size 165 2 v ln cs∧eU 2 (UF w) cs acc∧Below W2.heap.size W2 W
theorem cY.xaZ {a:Option Addr} {n c m:Nat} (h:cY w (V a n c) l) (hm:m≤n):cY w (V a m c) (l.take m):=by
 obtain⟨s,t,r,u,f,g,j⟩:=h;cases r;have e:(l.take m).length=m:=by rw[List.length_take];omega
 refine⟨a,c,by rw[e],by omega,f,g,fun q=>?_⟩;obtain⟨b,o,k,p⟩:=j (by rintro rfl;simp at q);refine⟨b,o,k,fun i x d=>p i x ?_⟩;rw[List.getElem?_take] at d;split at d
 ·exact d
 ·cases d
theorem S8 {P:Program} {t e:TypeId} {i5:TypeInfo} (d:P.underlying t=M (.slice e)) (hi:P.info? e=M i5) (g n c k:Nat) (a:k≤c) (w:World):
  (Instr.slice t (V (M ⟨g,0,J⟩) n c) none (M (N U k)) none).run P w=.ok (V (M ⟨g,0,J⟩) k c) w:=by
 have b:((0:Int)≤(k:Int)∧(k:Int)≤(c:Int)):=by omega
 simp [Instr.slice,Instr.sliceBounds,Instr.sliceBound,run_underlying d,asIntOf,sizeOf,typeInfo,hi,b,a,Addr.add]
theorem Bs.xe0 {v:Value} {l:List UInt8} (h:Bs w v l):Kh w 1 v l.length (u8s l):=by
 obtain⟨a,c,rfl,q,r,i,k⟩:=h;refine⟨a,c,rfl,by simp,fun e=>?_,fun p e j u f=>?_⟩
 ·have:=i e
  omega
 ·have d:j<l.length:=by have:=(List.getElem?_eq_some_iff.1 f).1;simpa using this
  obtain⟨b,o,m,n⟩:=k (by rintro rfl;simp at d);rw[m] at e;cases e;have g:(⟨b,o,J⟩:Addr).add j=⟨b,o+j,J⟩:=by unfold Addr.add;split<;>simp_all
  rw[g,n j d,←gW l j d];exact f
theorem OT {m:Nat} (h:∀y∈l,y.val.length≤100) (b:¬aB (l.take m)≤246) (hm:1≤m):2≤m:=by
 by_cases e:m=1
 ·subst e
  exfalso;apply b;cases l with
  |nil=>simp [aB]
  |cons a l=>
   have:=h a (List.mem_cons_self ..);simp [aB];omega
 ·omega
theorem xaE (s:Sl) (a:Nat→Value) (Q sv:Value) (p q co ob:Int) (w:World) (y:nO w s a Q sv) (S:s.lv=0):
  Calls Tryz.prog 55 #[.agg (SlC s a Q sv),.agg #[N U 43,N U p,N U q,N U co,N U ob]] w (aW w 43 1 []):=by
 obtain⟨oa,oc,rfl,-⟩:=id y.ob;obtain⟨sa,sc,rfl,-⟩:=id y.sd;obtain⟨on,X⟩:=gE s.ag.length;obtain⟨sn,T⟩:=gE s.sd.length;rw[X,T] at y ⊢;obtain⟨H,P⟩:=gE s.hs;have G:SlC s a (V oa on oc) (V sa sn sc)=#[N U s.bd,N U s.pa,N U s.un,.bool (s.ts 0).sup,a 0,N U (s.ts 0).al,.bool (s.ts 1).sup,a 1,N U (s.ts 1).al,.bool (s.ts 2).sup,a 2,N U (s.ts 2).al,.bool (s.ts 3).sup,a 3,N U (s.ts 3).al,N U s.lv,V oa on oc,.bool H,V sa sn sc]:=(by unfold SlC;rw[P]);rw[G];obtain⟨b,i⟩:∃W,(((w.alloc (Y #[N U s.bd,N U s.pa,N U s.un,.bool (s.ts 0).sup,a 0,N U (s.ts 0).al,.bool (s.ts 1).sup,a 1,N U (s.ts 1).al,.bool (s.ts 2).sup,a 2,N U (s.ts 2).al,.bool (s.ts 3).sup,a 3,N U (s.ts 3).al,N U s.lv,V oa on oc,.bool H,V sa sn sc] 68)).alloc (Y #[N U 43,N U p,N U q,N U co,N U ob] 45)).alloc (Y (#[N U 0,N U 0,V none 0 0,N U 0,N U 0,.bool false,N U 0,V none 0 0]) 53)).alloc (Y (#[N U 43,N U 0,V none 0 0,N U 0,N U 0,.bool false,N U 0,V none 0 0]) 53)=W:=⟨_,rfl⟩;have u:b.heap.size=w.heap.size+4:=(by rw[←i];simp);have t:Below w.heap.size w b:=(by rw[←i];exact bta (bta (bta (bal' w _) (Nat.le_refl _) _) (Nat.le_refl _) _) (Nat.le_refl _) _);have R:b.heap[w.heap.size]?=M (Y (SlC s a (V oa on oc) (V sa sn sc)) 68):=(by rw[G,←i];exact hpKeep (hpKeep (hpKeep (hpNew w _) (bal' _ _)) (bal' _ _)) (bal' _ _));have pQ:b.heap[w.heap.size+1]?=M (Y #[N U 43,N U p,N U q,N U co,N U ob] 45):=(by rw[←i];refine hpKeep (hpKeep ?_ (bal' _ _)) (bal' _ _);have h:=hpNew (w.alloc (Y #[N U s.bd,N U s.pa,N U s.un,.bool (s.ts 0).sup,a 0,N U (s.ts 0).al,.bool (s.ts 1).sup,a 1,N U (s.ts 1).al,.bool (s.ts 2).sup,a 2,N U (s.ts 2).al,.bool (s.ts 3).sup,a 3,N U (s.ts 3).al,N U s.lv,V oa on oc,.bool H,V sa sn sc] 68)) (Y #[N U 43,N U p,N U q,N U co,N U ob] 45);rw[World.size_alloc] at h;exact h);have L:b.heap[w.heap.size+2]?=M (Y (#[N U 0,N U 0,V none 0 0,N U 0,N U 0,.bool false,N U 0,V none 0 0]) 53):=(by rw[←i];refine hpKeep ?_ (bal' _ _);have h:=hpNew ((w.alloc (Y #[N U s.bd,N U s.pa,N U s.un,.bool (s.ts 0).sup,a 0,N U (s.ts 0).al,.bool (s.ts 1).sup,a 1,N U (s.ts 1).al,.bool (s.ts 2).sup,a 2,N U (s.ts 2).al,.bool (s.ts 3).sup,a 3,N U (s.ts 3).al,N U s.lv,V oa on oc,.bool H,V sa sn sc] 68)).alloc (Y #[N U 43,N U p,N U q,N U co,N U ob] 45)) (Y (#[N U 0,N U 0,V none 0 0,N U 0,N U 0,.bool false,N U 0,V none 0 0]) 53);rw[World.size_alloc,World.size_alloc] at h;exact h);have v:b.heap[w.heap.size+3]?=M (Y (hJ 0 0 0 false 0 (V none 0 0)) 53):=(by rw[←i];have h:=hpNew (((w.alloc (Y #[N U s.bd,N U s.pa,N U s.un,.bool (s.ts 0).sup,a 0,N U (s.ts 0).al,.bool (s.ts 1).sup,a 1,N U (s.ts 1).al,.bool (s.ts 2).sup,a 2,N U (s.ts 2).al,.bool (s.ts 3).sup,a 3,N U (s.ts 3).al,N U s.lv,V oa on oc,.bool H,V sa sn sc] 68)).alloc (Y #[N U 43,N U p,N U q,N U co,N U ob] 45)).alloc (Y (#[N U 0,N U 0,V none 0 0,N U 0,N U 0,.bool false,N U 0,V none 0 0]) 53)) (Y (#[N U 43,N U 0,V none 0 0,N U 0,N U 0,.bool false,N U 0,V none 0 0]) 53);rw[World.size_alloc,World.size_alloc,World.size_alloc] at h;exact h);obtain⟨x,z⟩:∃n,w.heap.size+2=n:=⟨_,rfl⟩;obtain⟨k,f⟩:∃n,w.heap.size+3=n:=⟨_,rfl⟩;have E3:Hid (w.heap.size+1+1+1=k):=f;have Z:Hid (w.heap.size+1+1=x):=z;rw[z] at L;rw[f] at v;have FE:=hid f;have A:=hid z;have t15:b.cell? ⟨w.heap.size,15,J⟩=M (N U 0):=by rw[←S];exact hpCell R 15
 have f1:=hpFree v 1;have r1:=cG v 1 rfl;have E:=hid i;have B:=hid t;have F:=hid u;have d:(b.setCell ⟨k,1,J⟩ (N U 1)).heap[k]?=M (Y (hJ 1 0 0 false 0 (V none 0 0)) 53):=cS v rfl;have g:(b.setCell ⟨k,1,J⟩ (N U 1)).heap[x]?=M (Y (#[N U 0,N U 0,V none 0 0,N U 0,N U 0,.bool false,N U 0,V none 0 0]) 53):=(hpOther (by omega)).trans L;have c:Keeps (fun j=>w.heap.size≤j) b (b.setCell ⟨k,1,J⟩ (N U 1)):=(Keeps.refl _ _).set _ _ (by show w.heap.size≤k;omega);obtain⟨C,r⟩:∃C:Array Value,hJ 1 0 0 false 0 (V none 0 0)=C:=⟨_,rfl⟩
 have m:C.size=8:=by rw[←r];rfl
 have o:(Tryz.prog.info? 53).map (·.size)=M C.size:=by rw[m];exact info8
 have I:C.toList.all (·.oneCell')=true:=by rw[←r];rfl
 rw[r] at d;have HC:=hid r;have O:=hid (And.intro d (And.intro g c));clear r i t u R pQ L v X T G P z f S y d g c;go_enter Tryz.func55,Tryz.ntmps55;go_upto_region 2 with(fail)
 rw[E.out,E3.out,Z.out];go_upto_region 4 with(fail)
 obtain⟨d,g,c⟩:=O.out;generalize b.setCell ⟨k,1,J⟩ (N U 1)=W2 at*;have D:=hid c;clear t15 f1 r1 c O;go_wp2_with (first|(refine wpList_load_row rfl 53 (.tmp 5) rfl (k) rfl 53 C (0,0) _ d Tryz.underlying53 rfl o ?_)|(refine wpList_storeW rfl 53 (.tmp 4) (.tmp 16) rfl (x) 0 _ 53 C rfl rfl g (by simp [m]) o I ?_;intro w8 g8 K ab));have g9:w8.heap[x]?=M (Y C 53):=by rw[g8,List.drop_eq_nil_of_le (by simp [m])];simp
 refine bodyPost_ret (results_cell_row rfl _ _ (x) 53 C (0,0) _ rfl g9 Tryz.underlying53 rfl o) rfl ?_;exact TabPost.ar B.out (by have:=F.out;omega) D.out (K.mono (fun j _ e=>by have:=A.out;omega)) HC.out.symm
theorem XY {p:Prop} (h:p:=by
 have HF:Hid (acc=selO (s.ag.take (k+1)) ob L):=by show _=_;rw[hacc.out,selO_no HX.out (by rw[HXI.out];exact hge)]
 have HA6:Hid (∀n,DvAx w W2 acc ln (.slice la ln lc) (wr.drewN n)):=fun n=>⟨cs,own_keeps (F:=fun _=>False) hown (Keeps.af (below_drewN (Below.refl _ _) _)) (fun _ _ e=>e),hcs,below_drewN hbw _⟩
 clear hge hg1 hown hcs
 go_upto_region 10 with(fail)
 go_quiet (fail)
 go_wp2
 go_roundw
 case rel=>exact⟨k+1,acc,ln,la,lc,rfl,by go_num,by omega,by omega,hal.out,HF.out,HA6.out _⟩
 case measure=>simp [intOf];omega):p:=h
theorem XD (s:Sl) (q:Nat→Value) (ov sv:Value) (ad qt ob:Int) (c:Nat) (Ab:1≤c) (ds:c≤3) (w:World) (hR:nO w s q ov sv) (vc:0<s.lv) (Wx:s.ag.length≤16) (a7:∀y∈s.ag,y.val.length≤100):
  Calls Tryz.prog 55 #[.agg (SlC s q ov sv),.agg #[N U 43,N U ad,N U qt,N U (c:Int),N U ob]] w (Oh w s (c:Int) (selO s.ag ob (kU (c:Int)))):=by
 obtain⟨oa,oc,rfl,-⟩:=id hR.ob;obtain⟨sa,sc,rfl,-⟩:=id hR.sd;obtain⟨on,wv⟩:=gE s.ag.length;obtain⟨sn,vh⟩:=gE s.sd.length;rw[wv,vh] at hR ⊢;obtain⟨H,hH⟩:=gE s.hs;have Nc:SlC s q (V oa on oc) (V sa sn sc)=#[N U s.bd,N U s.pa,N U s.un,.bool (s.ts 0).sup,q 0,N U (s.ts 0).al,.bool (s.ts 1).sup,q 1,N U (s.ts 1).al,.bool (s.ts 2).sup,q 2,N U (s.ts 2).al,.bool (s.ts 3).sup,q 3,N U (s.ts 3).al,N U s.lv,V oa on oc,.bool H,V sa sn sc]:=(by unfold SlC;rw[hH]);rw[Nc];obtain⟨v,eC⟩:∃W,(((w.alloc (Y #[N U s.bd,N U s.pa,N U s.un,.bool (s.ts 0).sup,q 0,N U (s.ts 0).al,.bool (s.ts 1).sup,q 1,N U (s.ts 1).al,.bool (s.ts 2).sup,q 2,N U (s.ts 2).al,.bool (s.ts 3).sup,q 3,N U (s.ts 3).al,N U s.lv,V oa on oc,.bool H,V sa sn sc] 68)).alloc (Y #[N U 43,N U ad,N U qt,N U (c:Int),N U ob] 45)).alloc (Y (#[N U 0,N U 0,V none 0 0,N U 0,N U 0,.bool false,N U 0,V none 0 0]) 53)).alloc (Y (#[N U 43,N U 0,V none 0 0,N U 0,N U 0,.bool false,N U 0,V none 0 0]) 53)=W:=⟨_,rfl⟩;have cj:v.heap.size=w.heap.size+4:=(by rw[←eC];simp);have b8:Below w.heap.size w v:=(by rw[←eC];exact bta (bta (bta (bal' w _) (Nat.le_refl _) _) (Nat.le_refl _) _) (Nat.le_refl _) _);have pS:v.heap[w.heap.size]?=M (Y (SlC s q (V oa on oc) (V sa sn sc)) 68):=(by rw[Nc,←eC];exact hpKeep (hpKeep (hpKeep (hpNew w _) (bal' _ _)) (bal' _ _)) (bal' _ _));have pQ:v.heap[w.heap.size+1]?=M (Y #[N U 43,N U ad,N U qt,N U (c:Int),N U ob] 45):=(by rw[←eC];refine hpKeep (hpKeep ?_ (bal' _ _)) (bal' _ _);have h:=hpNew (w.alloc (Y #[N U s.bd,N U s.pa,N U s.un,.bool (s.ts 0).sup,q 0,N U (s.ts 0).al,.bool (s.ts 1).sup,q 1,N U (s.ts 1).al,.bool (s.ts 2).sup,q 2,N U (s.ts 2).al,.bool (s.ts 3).sup,q 3,N U (s.ts 3).al,N U s.lv,V oa on oc,.bool H,V sa sn sc] 68)) (Y #[N U 43,N U ad,N U qt,N U (c:Int),N U ob] 45);rw[World.size_alloc] at h;exact h);have pZ:v.heap[w.heap.size+2]?=M (Y (#[N U 0,N U 0,V none 0 0,N U 0,N U 0,.bool false,N U 0,V none 0 0]) 53):=(by rw[←eC];refine hpKeep ?_ (bal' _ _);have h:=hpNew ((w.alloc (Y #[N U s.bd,N U s.pa,N U s.un,.bool (s.ts 0).sup,q 0,N U (s.ts 0).al,.bool (s.ts 1).sup,q 1,N U (s.ts 1).al,.bool (s.ts 2).sup,q 2,N U (s.ts 2).al,.bool (s.ts 3).sup,q 3,N U (s.ts 3).al,N U s.lv,V oa on oc,.bool H,V sa sn sc] 68)).alloc (Y #[N U 43,N U ad,N U qt,N U (c:Int),N U ob] 45)) (Y (#[N U 0,N U 0,V none 0 0,N U 0,N U 0,.bool false,N U 0,V none 0 0]) 53);rw[World.size_alloc,World.size_alloc] at h;exact h);have pR:v.heap[w.heap.size+3]?=M (Y (hJ 0 0 0 false 0 (V none 0 0)) 53):=(by rw[←eC];have h:=hpNew (((w.alloc (Y #[N U s.bd,N U s.pa,N U s.un,.bool (s.ts 0).sup,q 0,N U (s.ts 0).al,.bool (s.ts 1).sup,q 1,N U (s.ts 1).al,.bool (s.ts 2).sup,q 2,N U (s.ts 2).al,.bool (s.ts 3).sup,q 3,N U (s.ts 3).al,N U s.lv,V oa on oc,.bool H,V sa sn sc] 68)).alloc (Y #[N U 43,N U ad,N U qt,N U (c:Int),N U ob] 45)).alloc (Y (#[N U 0,N U 0,V none 0 0,N U 0,N U 0,.bool false,N U 0,V none 0 0]) 53)) (Y (#[N U 43,N U 0,V none 0 0,N U 0,N U 0,.bool false,N U 0,V none 0 0]) 53);rw[World.size_alloc,World.size_alloc,World.size_alloc] at h;exact h);obtain⟨D,lX⟩:∃n,w.heap.size+2=n:=⟨_,rfl⟩;obtain⟨d,a4⟩:∃n,w.heap.size+3=n:=⟨_,rfl⟩;have E3:Hid (w.heap.size+1+1+1=d):=a4;have E2:Hid (w.heap.size+1+1=D):=lX;rw[lX] at pZ;rw[a4] at pR;have FE:=hid a4;have S:=hid lX;have t15:=cF pS 15 rfl
 have t16:=cF pS 16 rfl
 have q3:=cF pQ 3 rfl;have q4:=cF pQ 4 rfl;have d0:(s.lv==0)=false:=b0 (by omega);have k0:Below v.heap.size v v:=Below.refl _ _;have kA:∀X,Below v.heap.size v (v.alloc X):=fun X=>bal' _ _
 have cX:=hid eC;have ba:=hid b8;have b7:=hid cj;have PZ:=hid pZ;have PR:=hid pR;have a2:=hid wv;have HR:=hid hR;have cV:=hid a7;obtain⟨L,hL⟩:∃L,kU (c:Int)=L:=⟨_,rfl⟩
 rw[hL];have x4:(v.alloc (Y #[N U 0,N U 2,N U 127,N U 255] 3)).cell? ⟨v.heap.size,c,J⟩=M (N U L):=by
  rw[hpCell (hpNew v _),←hL];rcases (show c=1∨c=2∨c=3 by omega) with rfl|rfl|rfl<;>rfl
 have db:(0:Int)≤(c:Int):=Int.natCast_nonneg _;have dq:(c:Int)<4:=by omega
 rw[wv] at Wx;obtain⟨iO,bn,SQ,SW,SX⟩:=info_parts yA;clear eC b8 cj pS pQ pZ pR wv vh Nc hH lX a4 vc hR a7 hL Ab ds;go_enter Tryz.func55,Tryz.ntmps55;go_upto_region 2 with(fail)
 rw[cX.out,E3.out,E2.out];go_upto_region 6 with(fail)
 obtain⟨W2,qQ⟩:∃W,v.alloc (Y #[N U 0,N U 2,N U 127,N U 255] 3)=W:=⟨_,rfl⟩
 rw[qQ];have ca:Below v.heap.size v W2:=by rw[←qQ];exact bal' _ _
 have cl:W2.heap.size=v.heap.size+1:=by rw[←qQ];simp
 have c8:=hid cl;have rK:=hid ca;have S0:Hid (DvAx w W2 [] 0 (V none 0 0) W2):=⟨[],World.ownsRow_nil _ _ _ _,rfl,Below.refl _ _⟩
 clear qQ cl d0 ca kA x4 db dq;go_wp2_with fail;go_loopw [7,8] (fun lv iv wr=>∃(k:Nat) (acc:List Ob) (ln:Nat) (la:Option Addr) (lc:Nat),lv=V la ln lc∧iv=N U (k:Int)∧k≤on∧ln≤k∧Hid (acc.length=ln)∧Hid (acc=selO (s.ag.take k) ob L)∧Hid (DvAx w W2 acc ln (V la ln lc) wr)) (fun _ iv _=>on- (intOf iv).toNat)
 case atStart=>exact⟨0,[],0,none,0,rfl,rfl,Nat.zero_le _,Nat.le_refl _,rfl,rfl,S0.out⟩
 case round=>
  obtain⟨k,acc,ln,la,lc,rfl,rfl,hk,dE,hal,hacc,hA⟩:=hrel;have dv:(0:Int)≤(k:Int):=Int.natCast_nonneg _;obtain⟨cs,hown,hcs,hbw⟩:=hA.out;have O:=bt rK.out hbw (Nat.le_refl _);have ei:=hid O;by_cases cg:k<on
  ·obtain ⟨x,P⟩:=gs (l:=s.ag) a2.out cg
   obtain⟨a',n',c',ny,-,-,-,-,me⟩:=HR.out.ob.open_;simp only[Value.slice.injEq] at ny;obtain⟨rfl,rfl,rfl⟩:=ny;obtain⟨b,o,I,K,rfl,z0,z1,uK⟩:=me k x P;have Py:=bt ba.out O (Nat.le_refl _);have y0:wr.cell? ⟨b,o+k*2,J⟩=M (N U x.id):=cell_keep Py z0;have y1:wr.cell? ⟨b,o+k*2+1,J⟩=M (V I x.val.length K):=cell_keep Py z1;have cd:(k:Int)<(on:Int):=by omega
   have HX:=hid P;have bm:Hid (UF w [N U x.id,V I x.val.length K] x):=⟨I,K,rfl,uK⟩
   clear me P uK z0 z1;obtain⟨xn,Z⟩:=gE x.val.length;obtain⟨A,R⟩:=gE x.id;rw[Z] at y1 bm;rw[R] at y0 bm;have HXI:=hid R;clear Z R;by_cases hge:ob≤A∧A≤L
   ·have d1:decide (ob≤A)=true:=decide_eq_true hge.1
    have d2:decide (A≤L)=true:=decide_eq_true hge.2;have HF:Hid (acc++[x]=selO (s.ag.take (k+1)) ob L):=by show _=_;rw[hacc.out,vH HX.out (by rw[HXI.out];exact hge.1) (by rw[HXI.out];exact hge.2)]
    clear hge;go_upto_region 10 with(fail)
    go_quiet (fail);have kN:∀n,Below v.heap.size v (wr.drewN n):=fun n=>below_drewN O n
    have eR:∀n,(wr.drewN n).cell? ⟨b,o+k*2,J⟩=M (N U A):=fun n=>cell_keep (below_drewN (Below.refl wr.heap.size wr) n) y0
    have eV:∀n,(wr.drewN n).cell? ⟨b,o+k*2+1,J⟩=M (V I xn K):=fun n=>cell_keep (below_drewN (Below.refl wr.heap.size wr) n) y1
    have uT:=hid hown;have Hs:=hid hcs;clear hown hcs O;go_wp2_with (at_builtin;refine aL rfl _ _ 51 rfl W2.heap.size 165 iO _ 2 32 Tryz.underlying51 bn SQ SW SX rfl (by decide) (V la ln lc) ln cs rfl (uT.out.alloc _) ⟨wr.heap.size,0,J⟩ 1 1 [N U A,V I xn K] rfl rfl (dP _ [N U A,V I xn K] _) (by intro u hu;simp at hu;rcases hu with rfl|rfl<;>rfl) (by unfold maxLen;omega) (by omega) (by have:=hbw.size;simp;omega) ?c3)
    case c3=>
     intro v6 w6 i z qI;obtain⟨a6,c6,rfl⟩:=own_slice i;have cb:Below W2.heap.size W2 w6:=(bta (below_drewN hbw _) (Nat.le_refl _) _).grown z (by have:=hbw.size;simp;omega) (fun j hj=>(uT.out.lt j hj).1);have HA6:Hid (DvAx w W2 (acc++[x]) (ln+1) (V a6 (ln+1) c6) w6):=⟨_,i,eU.app _ _ Hs.out [x] _ ⟨_,[],rfl,rfl,bm.out,rfl⟩,cb⟩
     have Ut:Hid ((acc++[x]).length=ln+1):=by show _=_;rw[List.length_append,hal.out];rfl
     clear i z qI cb;go_wp2;go_roundw
     case rel=>exact⟨k+1,acc++[x],ln+1,a6,c6,rfl,by go_num,by omega,by omega,Ut.out,HF.out,HA6.out⟩
     case measure=>simp [intOf];omega
   ·by_cases hg1:ob≤A
    ·have d1:decide (ob≤A)=true:=decide_eq_true hg1
     have d2:decide (A≤L)=false:=decide_eq_false (fun e=>hge ⟨hg1,e⟩);exact XY
    ·have d1:decide (ob≤A)=false:=decide_eq_false hg1
     exact XY
  ·obtain rfl:k=on:=by omega
   have hL:selO s.ag ob L=acc:=by rw[hacc.out,List.take_of_length_le (by rw[a2.out];exact Nat.le_refl _)]
   have Kg:=hid hL;rw[hL];by_cases ui:ln=0
   ·have he:acc=[]:=List.length_eq_zero_iff.1 (by rw[hal.out];exact ui)
    have f1:wr.frozen? ⟨d,1,J⟩=false:=hpFree (hpKeep PR.out O) 1;have r1:wr.cell? ⟨d,1,J⟩=M (N U 0):=hpCell (hpKeep PR.out O) 1;have aX:(wr.setCell ⟨d,1,J⟩ (N U 2)).heap[d]?=M (Y (hJ 2 0 0 false 0 (V none 0 0)) 53):=cS (hpKeep PR.out O) rfl;have a8:(wr.setCell ⟨d,1,J⟩ (N U 2)).heap[D]?=M (Y (#[N U 0,N U 0,V none 0 0,N U 0,N U 0,.bool false,N U 0,V none 0 0]) 53):=(hpOther (by have:=FE.out;have:=S.out;omega)).trans (hpKeep PZ.out O);have ao:Keeps (fun j=>w.heap.size≤j) v (wr.setCell ⟨d,1,J⟩ (N U 2)):=(Keeps.af O).set _ _ (by show w.heap.size≤d;have:=FE.out;omega);obtain⟨C,E⟩:∃C:Array Value,hJ 2 0 0 false 0 (V none 0 0)=C:=⟨_,rfl⟩
    have ET:C.size=8:=by rw[←E];rfl
    have t:(Tryz.prog.info? 53).map (·.size)=M C.size:=by rw[ET];exact info8
    have ab:C.toList.all (·.oneCell')=true:=by rw[←E];rfl
    rw[E] at aX;have HC:=hid E;have HE:=hid he;have Jw:=hid (And.intro aX (And.intro a8 ao));subst ui;clear E aX a8 ao hown hcs hA hacc S0 he hL;go_upto_region 14 with(fail)
    obtain⟨aX,a8,ao⟩:=Jw.out;generalize wr.setCell ⟨d,1,J⟩ (N U 2)=W3 at*;have cx:=hid ao;clear f1 r1 ao Jw t15 t16 q3 q4 k0;go_wp2_with (first|(refine wpList_load_row rfl 53 (.tmp 5) rfl (d) rfl 53 C (0,0) _ aX Tryz.underlying53 rfl t ?_)|(refine wpList_storeW rfl 53 (.tmp 4) (.tmp 60) rfl (D) 0 _ 53 C rfl rfl a8 (by simp [ET]) t ab ?_;intro w8 g8 av cp));have g9:w8.heap[D]?=M (Y C 53):=by rw[g8,List.drop_eq_nil_of_le (by simp [ET])];simp
    refine bodyPost_ret (results_cell_row rfl _ _ (D) 53 C (0,0) _ rfl g9 Tryz.underlying53 rfl t) rfl ?_;exact .inl ⟨by rw[Kg.out];exact HE.out,TabPost.ar ba.out (by have:=b7.out;omega) cx.out (av.mono (fun j _ e=>by have:=S.out;omega)) HC.out.symm⟩
   have ef:1≤ln:=by omega
   have bZ:Hid (acc≠[]):=fun e=>by have:=hal.out;rw[e] at this;exact ui this.symm
   clear ui;have cv:∀y∈acc,y∈s.ag:=fun y hy=>by
    rw[←hL] at hy;exact(List.mem_filter.1 hy).1
   have ec:=hid cv;obtain⟨g,cap,hv,hg,nE,iN⟩:=cK hown (by omega);simp only[Value.slice.injEq,true_and] at hv;obtain⟨rfl,rfl⟩:=hv;have Py:=bt ba.out O (Nat.le_refl _);have cD:Hid (cY wr (V (M ⟨g,0,J⟩) ln lc) acc):=cY.uP hown (eU.mono (fun r y hy=>by obtain⟨a,c,h1,h2⟩:=hy;exact⟨a,c,h1,h2.ah Py⟩) _ _ hcs) hal.out;have Hs:=hid hcs;have cw:Hid (d<g∧g<wr.heap.size):=⟨by have:=FE.out;have:=b7.out;have:=c8.out;omega,(hown.lt g rfl).2⟩
   have c9:Hid (wr.heap[D]?=M (Y (#[N U 0,N U 0,V none 0 0,N U 0,N U 0,.bool false,N U 0,V none 0 0]) 53)):=hpKeep PZ.out O;have bK:Hid (∀k x,acc[k]?=M x→∃I K,wr.cell? ⟨g,k*2,J⟩=M (N U x.id)∧wr.cell? ⟨g,k*2+1,J⟩=M (V I x.val.length K)∧Bs w (V I x.val.length K) x.val):=fun k x P=>by
    obtain⟨r,-,⟨I,K,rfl,hb⟩,hr⟩:=eU.get _ _ hcs k x P;have cd:k<ln:=by have h1:=(List.getElem?_eq_some_iff.1 P).1;have h2:=hal.out;omega
    exact⟨I,K,by rw[hown.cellAt _ (by omega)];exact hr 0 _ rfl,by rw[hown.cellAt _ (by omega)];exact hr 1 _ rfl,hb⟩
   have b6:Hid (∀y∈acc,y.val.length≤100):=fun y hy=>cV.out y (ec.out y hy)
   have eQ:ln≤16:=by omega
   have eK:ln≤lc:=nE;have aY:=hid Py;have d5:((ln:Int)==0)=false:=b0 (by omega);have ee:=t15 wr O;have eF:=t16 wr O;have dN:=q3 wr O;have P3:Hid (wr.heap[d]?=M (Y (hJ 0 0 0 false 0 (V none 0 0)) 53)):=hpKeep PR.out O;have r3:=cG P3.out 3 rfl;have r4:=cG P3.out 4 rfl;have f3:=hpFree P3.out 3;have f4:=hpFree P3.out 4;clear hL cv hown hcs hA hg nE iN Py t15 t16 q3 q4 k0 hacc dE S0;go_wp2_with fail;go_loopw [9] (fun nv wi=>∃m:Nat,1≤m∧m≤ln∧nv=N U (m:Int)∧Hid (m=ln∨¬aB (acc.take (m+1))≤246)∧wr=wi) (fun nv _=>(intOf nv).toNat)
   case atStart=>exact⟨ln,ef,Nat.le_refl _,rfl,.inl rfl,rfl⟩
   case round=>
    obtain⟨m,Ih,Qe,rfl,dK,rfl⟩:=hrel;have et:(0:Int)≤(m:Int):=Int.natCast_nonneg _;have hcut:∀W,(Instr.slice 51 (V (M ⟨g,0,J⟩) ln lc) none (M (N U (m:Int))) none).run Tryz.prog W=.ok (V (M ⟨g,0,J⟩) m lc) W:=fun W=>S8 Tryz.underlying51 bn g ln lc m (by omega) W
    have b5:Hid (Calls Tryz.prog 98 #[V (M ⟨g,0,J⟩) m lc] wr fun r w'=>IL (acc.take m) r∧wr=w'):=XQ _ _ wr (cD.out.xaZ Qe);by_cases qK:aB (acc.take m)≤246
    ·have bc:Hid (∀sz:Nat,(sz≤246↔aB (acc.take m)≤246)→¬(246:Int)<(sz:Int)):=fun sz h=>by have:=h.2 qK;omega
     have bQ:Hid (m=cq 246 acc):=uI qK (by have:=hal.out;omega) (dK.out.elim (fun h=>.inl (by have:=hal.out;omega)) .inr);clear qK;go_upto_region 18 with(go_at_call 98;(with_reducible refine b5.out.mono ?_);rintro r w2 ⟨⟨sz,rfl,WT⟩,rfl⟩;have dz:=bc.out sz WT;clear WT)
     go_region;obtain⟨W4,BM⟩:∃W,((wr.setCell ⟨d,3,J⟩ (N U (c:Int))).setCell ⟨d,4,J⟩ (N U s.lv)).drew=W:=⟨_,rfl⟩
     rw[BM];have cc:Keeps (fun j=>j=d) wr W4:=by rw[←BM];exact(ks1 (ks1 (Keeps.refl _ _) _ _) _ _).trans (Keeps.af (F:=fun _=>False) (Below.refl _ _).drew) (fun _ _ e=>e.elim)
     have p4:W4.heap[d]?=M (Y (hJ 0 (c:Int) s.lv false 0 (V none 0 0)) 53):=by rw[←BM];exact hpKeep (cS (cS P3.out rfl) rfl) (Below.refl _ _).drew
     have B4:Hid (ox W4 d (c:Int) s.lv acc 0 (V none 0 0) [] W4):=⟨p4,World.ownsRow_nil _ _ _ _,rfl,Keeps.refl _ _⟩
     have bX:=hid cc;have Oi:d<W4.heap.size:=hpLt p4;have HM:=hid (And.intro Ih Qe);clear ee dN r3 r4 f3 f4 BM cc p4 hcut;go_wp2_with fail;obtain⟨wo,rfl⟩:∃wo:World,wo=wr:=⟨_,rfl⟩
     go_loopw [10] (fun iv wi=>∃(k:Nat) (oa:Option Addr) (oc:Nat) (cs:List Value),iv=N U (k:Int)∧k≤m∧Hid (ox W4 d (c:Int) s.lv acc k (V oa k oc) cs wi)) (fun iv _=>m- (intOf iv).toNat)
     case atStart=>exact⟨0,none,0,[],rfl,Nat.zero_le _,B4.out⟩
     case round=>
      obtain⟨k,oa,oc,cs,rfl,hk,hB⟩:=hrel;have dv:(0:Int)≤(k:Int):=Int.natCast_nonneg _;have Wj:Hid (Keeps (fun j=>j=d) wo wr):=bX.out.trans hB.out.kp (fun _ _ e=>e);have kf:¬g=d:=by have:=cw.out;omega
      have eA:=hB.out.kp.size;by_cases cg:k<m
      ·obtain ⟨x,P⟩:=gs (l:=acc) hal.out (by omega:k<ln)
       obtain⟨I,K,z0,z1,uK⟩:=bK.out k x P;have y0:∀X,Below wr.heap.size wr X→X.cell? ⟨g,k*2,J⟩=M (N U x.id):=fun X h=>cell_keep h (Wj.out.cell z0 kf)
       have y1:∀X,Below wr.heap.size wr X→X.cell? ⟨g,k*2+1,J⟩=M (V I x.val.length K):=fun X h=>cell_keep h (Wj.out.cell z1 kf)
       have e7:∀X,Below wr.heap.size wr X→X.cell? ⟨d,7,J⟩=M (V oa k oc):=fun X h=>hpCell (hpKeep hB.out.r h) 7
       have R:Bs wr (V I x.val.length K) x.val:=uK.ah (aY.out.trans (Wj.out.below aY.out.size (fun j hj e=>by have:=FE.out;omega)));have b4:Hid (∀X,Below wr.heap.size wr X→Kh X 1 (V I x.val.length K) x.val.length (u8s x.val)):=fun X h=>(Bs.xe0 R).ah h
       have a7:=b6.out x (List.mem_of_getElem? P);obtain⟨iU,dt,dR,dV,ea⟩:=info_parts fS;have k0:Below wr.heap.size wr wr:=Below.refl _ _;have kd:Below wr.heap.size wr wr.drew:=(Below.refl _ _).drew;have kA:∀W X,Below wr.heap.size wr W→Below wr.heap.size wr (W.alloc X):=fun W X h=>bta h (Nat.le_refl _) X
       have HX:=hid P;have IC:=hid hB.out.own;have cd:(k:Int)<(m:Int):=by omega
       have cf:(k:Int)<(ln:Int):=by omega
       clear z0 z1 uK R P;obtain⟨xn,Z⟩:=gE x.val.length;obtain⟨A,R⟩:=gE x.id;rw[Z] at y1 b4 a7;rw[R] at y0;have c7:=hid Z;have HXI:=hid R;have a2:Hid (∀u∈u8s x.val,u.oneCell'=true):=lR x.val;clear Z R;go_upto_region 22 with(fail)
       go_region_law (first
        |(refine S9 rfl (.const (V none 0 0)) (.tmp 92) 50 rfl wr.heap.size 5 iU _ 1 1 Tryz.underlying50 dt dR dV ea rfl (by decide) (V none 0 0) 0 [] rfl (World.ownsRow_nil _ _ _ _) (V I xn K) xn (u8s x.val) rfl (b4.out _ kd) a2.out (by unfold maxLen;omega) (by omega) kd.size ?_;intro v5 w5 B a9 bx;rw[Nat.zero_add,List.nil_append] at B;obtain⟨a5,c5,rfl⟩:=own_slice B;have ak:Below wr.heap.size wr w5:=kd.grown a9 kd.size (fun k hk=>nomatch hk);have cz:=hid ((own_keeps IC.out (Keeps.af (F:=fun _=>False) ak) (fun _ _ f=>f)).alloc (Y #[N U A,V a5 xn c5] 165)))
        |(refine step_appN rfl (.tmp 82) (.tmp 95) 51 rfl W4.heap.size 165 iO _ 2 32 Tryz.underlying51 bn SQ SW SX rfl (by decide) (V oa k oc) k cs rfl cz.out ⟨w5.heap.size,0,J⟩ 1 1 [N U A,V a5 xn c5] rfl rfl (dP w5 [N U A,V a5 xn c5] _) (by intro u hu;simp at hu;rcases hu with rfl|rfl<;>rfl) (by unfold maxLen;omega) (by omega) (by have:=ak.size;simp;omega) ?_;intro v6 w6 i z qI;obtain⟨a6,c6,rfl⟩:=own_slice i;have hS:=hid (ox.step hB.out Oi HX.out ak c7.out B z qI (by rw[HXI.out];exact i));have bA:=ox.old hB.out Oi ak z;have e7:=cG bA 7 rfl;have z7:w6.frozen? ⟨d,7,J⟩=false:=hpFree bA 7))
       all_goals
        clear B a9 bx i z qI bA ak y0 y1 kA;go_wp2;go_roundw
        case rel=>exact⟨k+1,a6,c6,_,by go_num,by omega,hS.out⟩
        case measure=>simp [intOf];omega
      ·obtain rfl:k=m:=by omega
       have SY:¬D=d:=by have:=S.out;have:=FE.out;omega
       have ct:wr.heap[D]?=M (Y (#[N U 0,N U 0,V none 0 0,N U 0,N U 0,.bool false,N U 0,V none 0 0]) 53):=hpKeeps c9.out Wj.out SY;have Q:=hB.out.r;have eb:Below w.heap.size w W4:=aY.out.trans (bX.out.below aY.out.size (fun j hj e=>by have:=FE.out;omega));have bC:=hid eb;have cn:D<W4.heap.size:=by have:=S.out;have:=FE.out;omega
       have r5:=cG Q 5 rfl;have r6:=cG Q 6 rfl;have f5:=hpFree Q 5;have f6:=hpFree Q 6;by_cases Fb:k<ln
       ·obtain ⟨x,P⟩:=gs (l:=acc) hal.out Fb
        obtain⟨I,K,z0,-,-⟩:=bK.out k x P;obtain⟨A,R⟩:=gE x.id;have y0:wr.cell? ⟨g,k*2,J⟩=M (N U A):=by rw[←R];exact Wj.out.cell z0 kf
        have HXI:Hid (∀y,acc[k]?=M y→A=y.id):=fun y hy=>by
         rw[P] at hy;cases hy;exact R.symm
        have cf:(k:Int)<(ln:Int):=by omega
        have T:=hid Fb;obtain⟨W5,a3⟩:∃W,((wr.setCell ⟨d,5,J⟩ (.bool true)).setCell ⟨d,6,J⟩ (N U A)).drew=W:=⟨_,rfl⟩
        obtain⟨C,E⟩:∃C:Array Value,hJ 0 (c:Int) s.lv true A (V oa k oc)=C:=⟨_,rfl⟩
        have hcs:C.size=8:=by rw[←E];rfl
        have t:(Tryz.prog.info? 53).map (·.size)=M C.size:=by rw[hcs];exact info8
        have ab:C.toList.all (·.oneCell')=true:=by rw[←E];rfl
        have p5:W5.heap[d]?=M (Y C 53):=by rw[←a3,←E];exact hpKeep (cS (cS Q rfl) rfl) (Below.refl _ _).drew
        have bo:Keeps (fun j=>j=d) wr W5:=by rw[←a3];exact(ks1 (ks1 (Keeps.refl _ _) _ _) _ _).trans (Keeps.af (F:=fun _=>False) (Below.refl _ _).drew) (fun _ _ e=>e.elim)
        have dM:=hpKeeps ct bo SY;have cy:=hid bo;have HC:=hid E;have c4:=hid a3;clear P z0 R Fb E bo a3;go_upto_region 24 with(fail)
        go_region;rw[c4.out];clear r5 r6 f5 f6 y0;go_wp2_with (first|(refine wpList_load_row rfl 53 (.tmp 5) rfl (d) rfl 53 C (0,0) _ p5 Tryz.underlying53 rfl t ?_)|(refine wpList_storeW rfl 53 (.tmp 4) (.tmp 109) rfl (D) 0 _ 53 C rfl rfl dM (by simp [hcs]) t ab ?_;intro w8 g8 av cp));have g9:w8.heap[D]?=M (Y C 53):=by rw[g8,List.drop_eq_nil_of_le (by simp [hcs])];simp
        refine bodyPost_ret (results_cell_row rfl _ _ (D) 53 C (0,0) _ rfl g9 Tryz.underlying53 rfl t) rfl ?_;rw[Kg.out];refine .inr ⟨bZ.out,?_⟩;exact ox.ends hB.out Oi cn ((cy.out.mono (G:=fun j=>j=d∨j=D) (fun j _ e=>.inl e)).trans (av.mono (G:=fun j=>j=d∨j=D) (fun j _ e=>.inr e)) (fun _ _ e=>e)) bC.out (by have:=FE.out;omega) (by have:=S.out;omega) HM.out.1 (by have:=T.out;have:=hal.out;omega) HXI.out (fun e=>by have:=T.out;have:=hal.out;omega) bQ.out (by rw[←HC.out,decide_eq_true (by have:=T.out;have:=hal.out;omega)])
       ·have cf:¬(k:Int)<(ln:Int):=by omega
        have T:=hid Fb;obtain⟨C,E⟩:∃C:Array Value,hJ 0 (c:Int) s.lv false 0 (V oa k oc)=C:=⟨_,rfl⟩
        have hcs:C.size=8:=by rw[←E];rfl
        have t:(Tryz.prog.info? 53).map (·.size)=M C.size:=by rw[hcs];exact info8
        have ab:C.toList.all (·.oneCell')=true:=by rw[←E];rfl
        rw[E] at Q;have HC:=hid E;clear Fb E r5 r6 f5 f6;go_wp2_with (first|(refine wpList_load_row rfl 53 (.tmp 5) rfl (d) rfl 53 C (0,0) _ Q Tryz.underlying53 rfl t ?_)|(refine wpList_storeW rfl 53 (.tmp 4) (.tmp 109) rfl (D) 0 _ 53 C rfl rfl ct (by simp [hcs]) t ab ?_;intro w8 g8 av cp));have g9:w8.heap[D]?=M (Y C 53):=by rw[g8,List.drop_eq_nil_of_le (by simp [hcs])];simp
        refine bodyPost_ret (results_cell_row rfl _ _ (D) 53 C (0,0) _ rfl g9 Tryz.underlying53 rfl t) rfl ?_;rw[Kg.out];refine .inr ⟨bZ.out,?_⟩;exact ox.ends hB.out Oi cn (av.mono (G:=fun j=>j=d∨j=D) (fun j _ e=>.inr e)) bC.out (by have:=FE.out;omega) (by have:=S.out;omega) HM.out.1 (by have:=hal.out;omega) (fun y hy=>by have:=(List.getElem?_eq_some_iff.1 hy).1;have:=T.out;have:=hal.out;omega) (fun _=>rfl) bQ.out (by rw[←HC.out,decide_eq_false (by have:=T.out;have:=hal.out;omega)])
    ·have ej:=OT b6.out qK Ih
     have bc:Hid (∀sz:Nat,(sz≤246↔aB (acc.take m)≤246)→(246:Int)<(sz:Int)):=fun sz h=>by
      by_cases e:sz≤246
      ·exact absurd (h.1 e) qK
      ·omega
     have s1:IntKind.i64.wrap ((m:Int)-1)=((m-1:Nat):Int):=(IntWalk.i64_in _ (by omega)).trans (by omega);have cT:=hid qK;clear qK;go_wp2_with (go_at_call 98;(with_reducible refine b5.out.mono ?_);rintro r w2 ⟨⟨sz,rfl,WT⟩,rfl⟩;have dz:=bc.out sz WT;clear WT);go_roundw
     case rel=>exact⟨m-1,by omega,by omega,rfl,.inr (by rw[show m-1+1=m by omega];exact cT.out),trivial⟩
     case measure=>simp [intOf];omega
