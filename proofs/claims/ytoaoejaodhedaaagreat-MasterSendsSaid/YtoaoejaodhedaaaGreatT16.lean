import Derived.Test.YtoaoejaodhedaaaGreatT15
import Derived.Test.YtoaoejaodhedaaaGreatT14
namespace Go.Proofs.YtoaoejaodhedaaaGreat
open Go.RowKit
open Value renaming slice→J,int→U
open Option renaming none→M,some→N
open IntKind renaming i64→Z
open Obj renaming cells→Y
open Ending renaming returned→O
set_option maxHeartbeats 12800000
set_option maxRecDepth 100000
variable {r:Ending} {co hi lo lv:Int} {acc l:List Ob} {k n oc rb:Nat} {o:Option (List UInt8)} {W W4 w w' wi wj:World}
theorem Cl (t:iP) (b:Value) (q:Rq) (i:q.ok=true) (u:1≤q.fn∧q.fn≤4) (x:Int) (v:0≤x) (y:x≤65535) (w:World) (d:dw w b t.rd) (g:t.sup=true→aG (-1) t.rd=true):
  Calls Tryz.prog 208 #[.agg #[.bool t.sup,b,U Z t.al],.agg #[U Z q.fn,U Z q.addr,U Z q.aF,U Z q.code,U Z q.obj],U Z x] w (aW w q.fn (t.cC q x).ar (t.cC q x).data):=by
 obtain⟨fn,c,a,co,ob⟩:=q;dsimp only at u ⊢;unfold Rq.ok at i;dsimp only at i;rw[if_pos u] at i;simp only[Bool.and_eq_true,decide_eq_true_eq,beq_iff_eq] at i;obtain⟨⟨⟨⟨⟨m,j⟩,f⟩,A⟩,rfl⟩,rfl⟩:=i;have z:(fn=1∨fn=2)∧a≤2000∨(fn=3∨fn=4)∧a≤125:=by
  unfold cN at f;split at f
  ·exact .inl ⟨by assumption,f⟩
  ·split at f
   ·exact .inr ⟨by assumption,f⟩
   ·omega
 unfold iP.cC;dsimp only;cases hs:t.sup with
 |false=>
  have:=nf t b fn c a x m j (by omega) w d g 1 (.inl ⟨hs,rfl⟩);rw[hs] at this;exact this
 |true=>
  rw[if_neg (fun e:true=false=>by cases e)];by_cases hm:t.al<a
  ·rw [if_pos hm]
   have:=nf t b fn c a x m j (by omega) w d g 3 (.inr (.inl ⟨hs,hm,rfl⟩));rw[hs] at this;exact this
  ·rw [if_neg hm]
   cases hc:kG t.rd c a.toNat with
   |true=>
    rw[if_neg (fun e:true=false=>by cases e)];rcases z with⟨p,s⟩|⟨p,s⟩
    ·rw [if_pos (by omega:fn≤2)]
     have:=yO t b fn c a x p m j s (by omega) v y w d (g hs) hs hm hc;rw[hs] at this;exact this
    ·rw [if_neg (by omega:¬fn≤2)]
     have:=xO t b fn c a x p m j s (by omega) v y w d (g hs) hs hm hc;rw[hs] at this;exact this
   |false=>
    rw[if_pos rfl];have:=nf t b fn c a x m j (by omega) w d g 2 (.inr (.inr ⟨hs,hm,hc,rfl⟩));rw[hs] at this;exact this
theorem Fp (l:List Ob) (lo hi:Int) (k:Nat):∃r,selO l lo hi=selO (l.take k) lo hi++selO (l.drop k) lo hi∧r=selO (l.drop k) lo hi:=by
 refine⟨_,?_,rfl⟩;unfold selO;rw[←List.filter_append,List.take_append_drop]
theorem Dl {x:Ob} (b:l[k]?=N x) (g:selO (l.take k) lo hi=(selO l lo hi).take n) (j:n≤(selO l lo hi).length) (d:lo≤x.id) (f:x.id≤hi):
  (selO l lo hi)[n]?=N x∧selO (l.take (k+1)) lo hi=(selO l lo hi).take (n+1)∧n+1≤(selO l lo hi).length:=by
 obtain⟨-,e,-⟩:=Fp l lo hi k;have hlen:(selO (l.take k) lo hi).length=n:=by rw[g,List.length_take];omega
 have i:l.drop k=x::l.drop (k+1):=by
  have a:=(List.getElem?_eq_some_iff.1 b).1;rw[List.drop_eq_getElem_cons a];congr 1;rw[List.getElem?_eq_getElem a] at b;exact Option.some.inj b
 have hs:selO (l.drop k) lo hi=x::selO (l.drop (k+1)) lo hi:=by
  rw[i];unfold selO;rw[List.filter_cons,if_pos (by rw[decide_eq_true d,decide_eq_true f];rfl)]
 rw[hs] at e;have c:(selO l lo hi)[n]?=N x:=by rw[e,List.getElem?_append_right (by omega),hlen,Nat.sub_self];rfl
 refine⟨c,?_,?_⟩
 ·rw [vH b d f,g,az c]
 ·have:=(List.getElem?_eq_some_iff.1 c).1
  omega
theorem ox.II {oa:Option Addr} {cs:List Value} (h:ox W4 rb co lv acc k (J oa k oc) cs wi) (a:Below wi.heap.size wi wj):ox W4 rb co lv acc k (J oa k oc) cs wj:=
 ⟨hpKeep h.r a,own_keeps (F:=fun _=>False) h.own (Keeps.af a) (fun _ _ e=>e),
  eU.mono (fun r y b=>fY.keeps (F:=gL W4.heap.size (J oa k oc)) (F2:=gL W4.heap.size (J oa k oc)) (Keeps.af a) (fun _ _ e=>e) r y b) _ _ h.rows,
  h.kp.trans (Keeps.af (F:=fun _=>False) a) (fun _ _ e=>e.elim)⟩
theorem CV (s:Sl) (A:Nat→Value) (z sv:Value) (d b c ob:Int) (w:World) (B:s.lv=0):
  Calls Tryz.prog 207 #[.agg (SlC s A z sv),.agg #[U Z 43,U Z d,U Z b,U Z c,U Z ob]] w (aW w 43 1 []):=by
 obtain⟨C,u⟩:=gE (SlC s A z sv);rw[u];obtain⟨e,a⟩:∃W,((w.alloc (Y C 68)).alloc (Y #[U Z 43,U Z d,U Z b,U Z c,U Z ob] 45)).alloc (Y #[U Z 0,U Z 0,J none 0 0,U Z 0,U Z 0,.bool false,U Z 0,J none 0 0] 53)=W:=⟨_,rfl⟩;have t:e.heap.size=w.heap.size+3:=(by rw[←a];simp);have g:Below w.heap.size w e:=(by rw[←a];exact bta (bta (bal' w _) (Nat.le_refl _) _) (Nat.le_refl _) _);have D:e.heap[w.heap.size]?=N (Y C 68):=(by rw[←a];exact hpKeep (hpKeep (hpNew w _) (bal' _ _)) (bal' _ _));have f:e.heap[w.heap.size+1]?=N (Y #[U Z 43,U Z d,U Z b,U Z c,U Z ob] 45):=(by rw[←a];refine hpKeep ?_ (bal' _ _);simpa using hpNew (w.alloc (Y C 68)) (Y #[U Z 43,U Z d,U Z b,U Z c,U Z ob] 45));have q:e.heap[w.heap.size+2]?=N (Y #[U Z 0,U Z 0,J none 0 0,U Z 0,U Z 0,.bool false,U Z 0,J none 0 0] 53):=(by rw[←a];simpa using hpNew ((w.alloc (Y C 68)).alloc (Y #[U Z 43,U Z d,U Z b,U Z c,U Z ob] 45)) (Y #[U Z 0,U Z 0,J none 0 0,U Z 0,U Z 0,.bool false,U Z 0,J none 0 0] 53));obtain⟨m,j⟩:∃n,w.heap.size+2=n:=⟨_,rfl⟩;have P:Hid (w.heap.size+1+1=m):=j;rw[j] at q;have y:=hid j;have t15:e.cell? ⟨w.heap.size,15,M⟩=N (U Z 0):=by rw[hpCell D 15,←u,←B];rfl
 have T:=hpCell f 0;have V:=hpCell f 1;have S:=hpCell f 2;have Q:=hpCell f 3;have R:=hpCell f 4;have F:Hid (∀X,Calls Tryz.prog 209 #[.agg #[U Z 43,U Z d,U Z b,U Z c,U Z ob],U Z 1] X (jO X 43 1)):=fun X=>iE 43 d b c ob 1 X
 have p:=hid a;have v:=hid g;have G:=hid q;clear a g t D f q u j B;go_enter Tryz.func207,Tryz.ntmps207;go_upto_region 1 with(fail)
 rw[p.out,P.out];go_wp2_with (first
  |(go_at_call 209;(with_reducible refine(F.out _).mono ?_);rintro r w3 ⟨rfl,i⟩;have K:=hpKeep G.out i)
  |(refine wpList_storeW rfl 53 (.tmp 4) (.tmp 13) rfl m 0 _ 53 #[U Z 43,U Z 1,J none 0 0,U Z 0,U Z 0,.bool false,U Z 0,J none 0 0] rfl rfl K (by simp) info8 rfl ?_;intro L O x E))
 have I:L.heap[m]?=N (Y #[U Z 43,U Z 1,J none 0 0,U Z 0,U Z 0,.bool false,U Z 0,J none 0 0] 53):=O;refine bodyPost_ret (results_cell_row rfl _ _ m 53 _ (0,0) _ rfl I Tryz.underlying53 rfl info8) rfl ?_;exact aW.no v.out (by have:=y.out;omega) i x
theorem My {p:Prop} (h:p:=by
 go_upto_region 8 with(fail);rw[HWX.out];clear y0 y1;go_quiet ((go_at_call 179;with_reducible exact Calls.quiet_of_same (v:=.int .i64 G) ((HG.out _).mono fun _ _ h=>⟨h.1,h.2.symm⟩)));go_wp2;go_roundw;(case rel=>exact⟨k+1,n,sz,ra,rc,cs,rfl,by go_num,by omega,by omega,HSK,HSZ,HBX.out.II (below_drewN (Below.refl _ _) _)⟩);(case measure=>simp [intOf];omega)):p:=h
theorem yE (s:Sl) (rv:Nat→Value) (ov sv:Value) (ad qt ob c:Int) (w:World) (hR:nO w s rv ov sv) (gu:0<s.lv) (G0:s.ag.length≤16) (bm:∀y∈s.ag,y.val.length≤100):
  Calls Tryz.prog 207 #[.agg (SlC s rv ov sv),.agg #[U Z 43,U Z ad,U Z qt,U Z c,U Z ob]] w (Oh w s c (selO s.ag ob (kU c))):=by
 obtain⟨oa,oc,rfl,-⟩:=id hR.ob;obtain⟨on,iZ⟩:=gE s.ag.length;rw[iZ] at G0 ⊢;obtain⟨ov,Yd⟩:=gE (Value.slice oa on oc);rw[Yd];obtain⟨C,hC⟩:=gE (SlC s rv ov sv);rw[hC];obtain⟨g,ak⟩:∃W,((w.alloc (Y C 68)).alloc (Y #[U Z 43,U Z ad,U Z qt,U Z c,U Z ob] 45)).alloc (Y #[U Z 0,U Z 0,J none 0 0,U Z 0,U Z 0,.bool false,U Z 0,J none 0 0] 53)=W:=⟨_,rfl⟩;have b8:g.heap.size=w.heap.size+3:=(by rw[←ak];simp);have bA:Below w.heap.size w g:=(by rw[←ak];exact bta (bta (bal' w _) (Nat.le_refl _) _) (Nat.le_refl _) _);have pS:g.heap[w.heap.size]?=N (Y C 68):=(by rw[←ak];exact hpKeep (hpKeep (hpNew w _) (bal' _ _)) (bal' _ _));have pQ:g.heap[w.heap.size+1]?=N (Y #[U Z 43,U Z ad,U Z qt,U Z c,U Z ob] 45):=(by rw[←ak];refine hpKeep ?_ (bal' _ _);simpa using hpNew (w.alloc (Y C 68)) (Y #[U Z 43,U Z ad,U Z qt,U Z c,U Z ob] 45));have pZ:g.heap[w.heap.size+2]?=N (Y #[U Z 0,U Z 0,J none 0 0,U Z 0,U Z 0,.bool false,U Z 0,J none 0 0] 53):=(by rw[←ak];simpa using hpNew ((w.alloc (Y C 68)).alloc (Y #[U Z 43,U Z ad,U Z qt,U Z c,U Z ob] 45)) (Y #[U Z 0,U Z 0,J none 0 0,U Z 0,U Z 0,.bool false,U Z 0,J none 0 0] 53));obtain⟨i,cV⟩:∃n,w.heap.size+2=n:=⟨_,rfl⟩;have E2:Hid (w.heap.size+1+1=i):=cV;rw[cV] at pZ;have cf:=hid cV;obtain⟨lv,PD⟩:=gE s.lv;obtain⟨G,hG⟩:=gE (kU c);rw[hG];obtain⟨a,a2⟩:=gE (selO s.ag ob G);rw[a2];have t15:∀X,Below g.heap.size g X→X.cell? ⟨w.heap.size,15,M⟩=N (U Z lv):=fun X h=>by rw[hpCell (hpKeep pS h) 15,←hC,←PD];rfl
 have t16:∀X,Below g.heap.size g X→X.cell? ⟨w.heap.size,16,M⟩=N (J oa on oc):=fun X h=>by rw[hpCell (hpKeep pS h) 16,←hC,Yd];rfl
 have q0:=cF pQ 0 rfl;have q3:=cF pQ 3 rfl;have k0:Below g.heap.size g g:=Below.refl _ _;have d0:(lv==0)=false:=b0 (by omega);obtain⟨W4,nN⟩:∃W,g.alloc (Y #[U Z 43,U Z 0,J none 0 0,U Z c,U Z lv,.bool false,U Z 0,J none 0 0] 53)=W:=⟨_,rfl⟩
 have aY:Below g.heap.size g W4:=by rw[←nN];exact bal' _ _
 obtain⟨rb,a3⟩:=gE g.heap.size;have Z3:W4.heap[rb]?=N (Y (hJ 0 c lv false 0 (J none 0 0)) 53):=by rw[←nN,←a3];exact hpNew _ _
 have R:Hid (rb<W4.heap.size∧i<rb∧w.heap.size+1<rb∧w.heap.size≤i):=⟨hpLt Z3,by omega,by omega,by omega⟩
 have B4:Hid (ox W4 rb c lv a 0 (J none 0 0) [] W4):=⟨Z3,World.ownsRow_nil _ _ _ _,rfl,Keeps.refl _ _⟩
 have a4:Hid (∀X,Keeps (fun j=>j=rb) W4 X→X.heap[w.heap.size+1]?=N (Y #[U Z 43,U Z ad,U Z qt,U Z c,U Z ob] 45)∧X.heap[i]?=N (Y #[U Z 0,U Z 0,J none 0 0,U Z 0,U Z 0,.bool false,U Z 0,J none 0 0] 53)):=fun X h=>⟨hpKeeps (hpKeep pQ aY) h (by omega),hpKeeps (hpKeep pZ aY) h (by omega)⟩
 have JV:Hid (∀X,Calls Tryz.prog 209 #[.agg #[U Z 43,U Z ad,U Z qt,U Z c,U Z ob],U Z 2] X (jO X 43 2)):=fun X=>iE 43 ad qt c ob 2 X
 have HG:Hid (∀X,Calls Tryz.prog 179 #[U Z c] X fun r w'=>r=O (U Z G)∧X=w'):=fun X=>by rw[←hG];exact lK c X
 have we:=hid a2;have b6:=hid ak;have ao:=hid bA;have rM:=hid aY;have b5:=hid nN;have qT:=hid a3;have HR:=hid hR;have bn:=hid iZ;have R5:=hid bm;have I1:=hid PD;have S0:Hid (selO (s.ag.take 0) ob G=a.take 0):=rfl;clear ak bA b8 pS pQ pZ hC Yd cV gu PD hG a2 nN aY a3 Z3 hR iZ bm;go_enter Tryz.func207,Tryz.ntmps207;go_upto_region 1 with(fail)
 rw[b6.out,E2.out];go_upto_region 4 with(fail)
 rw[b5.out,qT.out];clear d0 q0 k0;have ZV:=rM.out;go_wp2_with fail;clear ZV;go_loopw [6,24] (fun sv iv wr=>∃(k n sz:Nat) (ra:Option Addr) (rc:Nat) (cs:List Value),sv=U Z (sz:Int)∧iv=U Z (k:Int)∧k≤on∧n≤k∧Hid (selO (s.ag.take k) ob G=a.take n)∧Hid (aB (a.take n)=sz∧sz≤246∧n≤a.length)∧Hid (ox W4 rb c lv a n (J ra n rc) cs wr)) (fun _ iv _=>on- (intOf iv).toNat)
 case atStart=>exact⟨0,0,0,none,0,[],rfl,rfl,Nat.zero_le _,Nat.le_refl _,S0.out,⟨rfl,Nat.zero_le _,Nat.zero_le _⟩,B4.out⟩
 case round=>
  obtain⟨k,n,sz,ra,rc,cs,rfl,rfl,hk,Xq,Kf,ff,hB⟩:=hrel;have cc:(0:Int)≤(k:Int):=Int.natCast_nonneg _;have Sa:Hid (Keeps (fun j=>j=rb) W4 wr):=hB.out.kp;have oO:Hid (Below g.heap.size g wr):=rM.out.trans (Sa.out.below rM.out.size (fun j hj e=>by have:=qT.out;omega));by_cases cb:k<on
  ·obtain ⟨x,hx⟩:=gs (l:=s.ag) bn.out cb
   obtain⟨a',n',c',dE,-,-,-,-,dq⟩:=HR.out.ob.open_;simp only[Value.slice.injEq] at dE;obtain⟨rfl,rfl,rfl⟩:=dE;obtain⟨b,o,xa,xc,rfl,z0,z1,gy⟩:=dq k x hx;have AL:=bt ao.out oO.out (Nat.le_refl _);have y0:wr.cell? ⟨b,o+k*2,M⟩=N (U Z x.id):=cell_keep AL z0;have y1:wr.cell? ⟨b,o+k*2+1,M⟩=N (J xa x.val.length xc):=cell_keep AL z1;have cd:(k:Int)<(on:Int):=by omega
   have HX:=hid hx;have Ql:=R5.out x (List.mem_of_getElem? hx);have ow:Bs wr (J xa x.val.length xc) x.val:=gy.ah AL;obtain⟨q,hq⟩:=gE x.val.length;obtain⟨I,ZI⟩:=gE x.id;rw[hq] at y1 Ql ow;rw[ZI] at y0;have HQ:=hid hq;have Ol:=hid ZI;have bK:=hid ow;obtain⟨E,rJ,ou,px⟩:=eY wr (Y #[U Z I,J xa q xc] 165);have x0:=cF px 0 rfl;have x1:=cF px 1 rfl;have u0:=x0 E (Below.refl _ _);have u1:=x1 E (Below.refl _ _);have HBX:Hid (ox W4 rb c lv a n (J ra n rc) cs E):=hB.out.II ou;have av:=(a4.out E HBX.out.kp).1;have v3:=cG av 3 rfl;have v4:=cG av 4 rfl;have HWX:=hid rJ;have b4:=hid ou;have HSZ:=ff;clear dq hx gy z0 z1 hq ZI ow rJ px ou av AL;by_cases V:I<ob
   ·have d1:decide (I<ob)=true:=decide_eq_true V
    have HSK:Hid (selO (s.ag.take (k+1)) ob G=a.take n):=by show _=_;rw[selO_no HX.out (fun h=>by have:=h.1;rw[Ol.out] at this;omega)];exact Kf.out
    clear V x0 x1;exact My
   have d1:decide (I<ob)=false:=decide_eq_false V;by_cases h2:G<I
   ·have d2:decide (G<I)=true:=decide_eq_true h2
    have HSK:Hid (selO (s.ag.take (k+1)) ob G=a.take n):=by show _=_;rw[selO_no HX.out (fun h=>by have:=h.2;rw[Ol.out] at this;omega)];exact Kf.out
    clear V h2 x0 x1;exact My
   have d2:decide (G<I)=false:=decide_eq_false h2;have hI:Hid (a[n]?=N x∧selO (s.ag.take (k+1)) ob G=a.take (n+1)∧n+1≤a.length):=by
    have h:=Dl (l:=s.ag) (lo:=ob) (hi:=G) (k:=k) (n:=n) (x:=x) HX.out (by rw[we.out];exact Kf.out) (by rw[we.out];exact ff.out.2.2) (by rw[Ol.out];omega) (by rw[Ol.out];omega);rw[we.out] at h;exact h
   obtain⟨A,hA⟩:∃A:Nat,2+q=A:=⟨_,rfl⟩
   have s1:IntKind.i64.wrap (2+(q:Int))=(A:Int):=(IntWalk.i64_in _ (by omega)).trans (by omega);obtain⟨S,hS⟩:∃S:Nat,sz+A=S:=⟨_,rfl⟩
   have s2:IntKind.i64.wrap ((sz:Int)+(A:Int))=(S:Int):=(IntWalk.i64_in _ (by have:=ff.out;omega)).trans (by omega);have eV:Hid (aB (a.take (n+1))=S):=by
    show _=_;rw[az hI.out.1,eI,ff.out.1,HQ.out];omega
   have bX:Hid (S=sz+(2+q)):=by show _=_;omega
   clear V h2 hA hS;by_cases h3:246<S
   ·have d3:decide ((246:Int)<(S:Int))=true:=decide_eq_true (by omega)
    have LM:Hid (1≤n):=by
     show 1≤n;rcases Nat.eq_zero_or_pos n with e|e
     ·subst e
      have h4:=ff.out.1;have h5:aB (a.take 0)=0:=rfl;have:=bX.out;omega
     ·exact e
    have a7:Hid (n=cq 246 a):=uI (by have:=ff.out;omega) (by have:=ff.out;omega) (.inr (by rw[eV.out];omega));clear h3;go_upto_region 8 with(fail)
    rw[HWX.out];clear y0 y1;go_quiet ((go_at_call 179;with_reducible exact Calls.quiet_of_same (v:=U Z G) ((HG.out _).mono fun _ _ h=>⟨h.1,h.2.symm⟩)));have K:Hid (ox W4 rb c lv a n (J ra n rc) cs (E.drewN nq)):=HBX.out.II (below_drewN (Below.refl _ _) _);have w0:=x0 (E.drewN nq) (below_drewN (Below.refl _ _) _);have w1:=x1 (E.drewN nq) (below_drewN (Below.refl _ _) _);generalize E.drewN nq=d at*;have r5:d.cell? ⟨rb,5,M⟩=N (.bool false):=hpCell K.out.r 5;have r6:d.cell? ⟨rb,6,M⟩=N (U Z 0):=hpCell K.out.r 6;have f5:d.frozen? ⟨rb,5,M⟩=false:=hpFree K.out.r 5;have f6:d.frozen? ⟨rb,6,M⟩=false:=hpFree K.out.r 6;obtain⟨W5,ab⟩:∃W,((d.setCell ⟨rb,5,M⟩ (.bool true)).setCell ⟨rb,6,M⟩ (U Z I)).drew=W:=⟨_,rfl⟩
    obtain⟨t,L⟩:∃C:Array Value,hJ 0 c lv true I (J ra n rc)=C:=⟨_,rfl⟩
    have qN:t.size=8:=(by rw[←L];rfl);have z:(Tryz.prog.info? 53).map (·.size)=N t.size:=(by rw[qN];exact info8);have ba:t.toList.all (·.oneCell')=true:=(by rw[←L];rfl)
    have m:W5.heap[rb]?=N (Y t 53):=by rw[←ab,←L];exact hpKeep (cS (cS K.out.r rfl) rfl) (Below.refl _ _).drew
    have a8:Keeps (fun j=>j=rb) d W5:=by rw[←ab];exact(ks1 (ks1 (Keeps.refl _ _) _ _) _ _).trans (Keeps.af (F:=fun _=>False) (Below.refl _ _).drew) (fun _ _ e=>e.elim)
    have a9:W5.heap[i]?=N (Y #[U Z 0,U Z 0,J none 0 0,U Z 0,U Z 0,.bool false,U Z 0,J none 0 0] 53):=hpKeeps (a4.out d K.out.kp).2 a8 (by have:=R.out;omega);have r7:W5.cell? ⟨rb,7,M⟩=N (J ra n rc):=by rw[hpCell m 7,←L];rfl
    have gn:((n:Int)==0)=false:=b0 (by have:=LM.out;omega);have aX:=hid L;have b7:=hid a8;have Rg:=hid ab;have bQ:=hid m;clear L a8 ab m x0 x1 u0 u1 v3 v4;go_upto_region 11 with(fail)
    go_region;rw[Rg.out];clear r5 r6 f5 f6 w0 w1;have m:=bQ.out;go_wp2_with ((first|(refine wpList_load_row rfl 53 (.tmp 5) rfl rb rfl 53 t (0,0) _ m Tryz.underlying53 rfl z ?_)|(refine wpList_storeW rfl 53 (.tmp 4) (.tmp 71) rfl i 0 _ 53 t rfl rfl a9 (by simp [qN]) z ba ?_;intro w8 g8 Q bc)));have g9:w8.heap[i]?=N (Y t 53):=by rw[g8,List.drop_eq_nil_of_le (by simp [qN])];simp
    refine bodyPost_ret (results_cell_row rfl _ _ (i) 53 t (0,0) _ rfl g9 Tryz.underlying53 rfl z) rfl ?_;refine .inr ⟨fun e=>(by have:=hI.out.2.2;rw[e] at this;cases this),?_⟩;have T9:n<a.length:=by have:=hI.out.2.2;omega
    exact ox.ends (s:=s) (by rw[I1.out];exact K.out) R.out.1 (by have:=R.out;omega) ((b7.out.mono (G:=fun j=>j=rb∨j=i) (fun j _ e=>.inl e)).trans (Q.mono (G:=fun j=>j=rb∨j=i) (fun j _ e=>.inr e)) (fun _ _ e=>e)) (bt ao.out rM.out (Nat.le_refl _)) (by have:=R.out;omega) R.out.2.2.2 LM.out (Nat.le_of_lt T9) (fun y hy=>by rw[hI.out.1] at hy;cases hy;exact Ol.out.symm) (fun e=>absurd e (by omega)) a7.out (by rw[←aX.out,I1.out,decide_eq_true T9])
   ·have d3:decide ((246:Int)<(S:Int))=false:=decide_eq_false (by omega)
    have Zz:Hid (aB (a.take (n+1))=S∧S≤246∧n+1≤a.length):=⟨eV.out,by omega,hI.out.2.2⟩
    clear h3;go_upto_region 8 with(fail)
    rw[HWX.out];clear y0 y1;go_quiet ((go_at_call 179;with_reducible exact Calls.quiet_of_same (v:=U Z G) ((HG.out _).mono fun _ _ h=>⟨h.1,h.2.symm⟩)));have K:Hid (ox W4 rb c lv a n (J ra n rc) cs (E.drewN nq)):=HBX.out.II (below_drewN (Below.refl _ _) _);have w0:∀X,Below (E.drewN nq).heap.size (E.drewN nq) X→X.cell? ⟨wr.heap.size,0,M⟩=N (U Z I):=fun X h=>cell_keep h (x0 _ (below_drewN (Below.refl _ _) _))
    have w1:∀X,Below (E.drewN nq).heap.size (E.drewN nq) X→X.cell? ⟨wr.heap.size,1,M⟩=N (J xa q xc):=fun X h=>cell_keep h (x1 _ (below_drewN (Below.refl _ _) _))
    have To:Hid (Bs (E.drewN nq) (J xa q xc) x.val):=(bK.out.ah b4.out).ah (below_drewN (Below.refl _ _) _);clear x0 x1 u0 u1 v3 v4;generalize E.drewN nq=d at*;have v0:=w0 d (Below.refl _ _);have v1:=w1 d (Below.refl _ _);go_upto_region 12 with(fail)
    have e7:∀X,Below d.heap.size d X→X.cell? ⟨rb,7,M⟩=N (J ra n rc):=fun X h=>hpCell (hpKeep K.out.r h) 7
    have k0:Below d.heap.size d d:=Below.refl _ _;have kd:Below d.heap.size d d.drew:=(Below.refl _ _).drew;have kA:∀W X,Below d.heap.size d W→Below d.heap.size d (W.alloc X):=fun W X h=>bta h (Nat.le_refl _) X
    have m7:Hid (∀X,Below d.heap.size d X→Calls Tryz.prog 80 #[J xa q xc] X fun r w'=>∃v',r=O v'∧w'.ownsRow X.heap.size 5 1 v' q (u8s x.val)∧Below X.heap.size X w'):=fun X hX=>by
     have h:=bY (J xa q xc) x.val X (To.out.ah hX) (by have:=HQ.out;omega);rw[HQ.out] at h;exact h
    obtain⟨iO,P6,C9,CK,CJ⟩:=info_parts yA;have yw:=R.out.1;have Wu:Hid (W4.heap.size≤d.heap.size):=K.out.kp.size;have UU:n≤16:=by omega
    clear v0 v1;go_region_law (first
     |(refine step_appN rfl (.tmp 54) (.tmp 61) 51 rfl W4.heap.size 165 iO _ 2 32 Tryz.underlying51 P6 C9 CK CJ rfl (by decide) (J ra n rc) n cs rfl bC.out ⟨w5.heap.size,0,M⟩ 1 1 [U Z I,J a5 q c5] rfl rfl (dP w5 [U Z I,J a5 q c5] _) (by intro u hu;simp at hu;rcases hu with rfl|rfl<;>rfl) (by unfold maxLen;omega) (by omega) (by have:=T.size;have:=Wu.out;simp;omega) ?_;intro v6 w6 D P eX;obtain⟨a6,c6,rfl⟩:=own_slice D;have hS:=hid (ox.step K.out yw hI.out.1 T HQ.out B P eX (by rw[Ol.out];exact D));have JZ:=ox.old K.out yw T P;have g7:=cG JZ 7 rfl;have z7:w6.frozen? ⟨rb,7,M⟩=false:=hpFree JZ 7)
     |(go_wp2_with (go_at_call 80;refine(m7.out _ kd).mono ?_;rintro r w5 ⟨v5,rfl,B,fU⟩;obtain⟨a5,c5,rfl⟩:=own_slice B;have T:=bt kd fU (Nat.le_refl _);have bC:=hid ((own_keeps K.out.own (Keeps.af (F:=fun _=>False) T) (fun _ _ f=>f)).alloc (Y #[U Z I,J a5 q c5] 165)))))
    all_goals
     rw[Ol.out] at hS;clear B fU D P eX JZ T;go_wp2;go_roundw
     case rel=>exact⟨k+1,n+1,S,a6,c6,_,rfl,by go_num,by omega,by omega,hI.out.2.1,Zz.out,hS.out⟩
     case measure=>simp [intOf];omega
  ·obtain rfl:k=on:=by omega
   have ca:Hid (a=a.take n):=by
    have h:=Kf.out;rw[List.take_of_length_le (by rw[bn.out];exact Nat.le_refl _),we.out] at h;exact h
   have RJ:Hid (n=a.length):=by
    have V:=congrArg List.length ca.out;rw[List.length_take] at V;have h2:=ff.out.2.2;show n=_;omega
   have gR:=Sa.out;have HP:=hid (a4.out wr Sa.out);have e7:wr.cell? ⟨rb,7,M⟩=N (J ra n rc):=hpCell hB.out.r 7;by_cases h0:n=0
   ·have g0:((n:Int)==0)=true:=b1 (by omega)
    have HE:Hid (a=[]):=List.length_eq_zero_iff.1 (by rw[←RJ.out];exact h0);have p0:=hpCell HP.out.1 0;have p1:=hpCell HP.out.1 1;have p2:=hpCell HP.out.1 2;have p3:=hpCell HP.out.1 3;have p4:=hpCell HP.out.1 4;clear h0;go_wp2_with (first
     |(go_at_call 209;(with_reducible refine(JV.out _).mono ?_);rintro r w3 ⟨rfl,bx⟩;have gM:=hpKeep HP.out.2 bx)
     |(refine wpList_storeW rfl 53 (.tmp 4) (.tmp 70) rfl i 0 _ 53 #[U Z 43,U Z 2,J none 0 0,U Z 0,U Z 0,.bool false,U Z 0,J none 0 0] rfl rfl gM (by simp) info8 rfl ?_;intro w8 g8 Q bc))
    have g9:w8.heap[i]?=N (Y #[U Z 43,U Z 2,J none 0 0,U Z 0,U Z 0,.bool false,U Z 0,J none 0 0] 53):=g8;refine bodyPost_ret (results_cell_row rfl _ _ i 53 _ (0,0) _ rfl g9 Tryz.underlying53 rfl info8) rfl ?_;exact .inl ⟨HE.out,aW.no (bt ao.out oO.out (Nat.le_refl _)) R.out.2.2.2 bx Q⟩
   ·have g0:((n:Int)==0)=false:=b0 (by omega)
    have LM:Hid (1≤n):=by show 1≤n;omega
    have a7:Hid (n=cq 246 a):=uI (by have:=ff.out;omega) (by have:=ff.out;omega) (.inl RJ.out);obtain⟨t,L⟩:∃C:Array Value,hJ 0 c lv false 0 (J ra n rc)=C:=⟨_,rfl⟩
    have qN:t.size=8:=(by rw[←L];rfl);have z:(Tryz.prog.info? 53).map (·.size)=N t.size:=(by rw[qN];exact info8);have ba:t.toList.all (·.oneCell')=true:=(by rw[←L];rfl)
    have m:=hB.out.r;rw[L] at m;have a9:=HP.out.2;have aX:=hid L;clear h0 L;go_wp2_with ((first|(refine wpList_load_row rfl 53 (.tmp 5) rfl rb rfl 53 t (0,0) _ m Tryz.underlying53 rfl z ?_)|(refine wpList_storeW rfl 53 (.tmp 4) (.tmp 71) rfl i 0 _ 53 t rfl rfl a9 (by simp [qN]) z ba ?_;intro w8 g8 Q bc)));have g9:w8.heap[i]?=N (Y t 53):=by rw[g8,List.drop_eq_nil_of_le (by simp [qN])];simp
    refine bodyPost_ret (results_cell_row rfl _ _ (i) 53 t (0,0) _ rfl g9 Tryz.underlying53 rfl z) rfl ?_;refine .inr ⟨fun e=>(by have V:=RJ.out;have h2:=LM.out;rw[e] at V;have h3:n=0:=V;omega),?_⟩;exact ox.ends (s:=s) (by rw[I1.out];exact hB.out) R.out.1 (by have:=R.out;omega) (Q.mono (G:=fun j=>j=rb∨j=i) (fun j _ e=>.inr e)) (bt ao.out rM.out (Nat.le_refl _)) (by have:=R.out;omega) R.out.2.2.2 LM.out (by have:=RJ.out;omega) (fun y hy=>by have:=(List.getElem?_eq_some_iff.1 hy).1;have:=RJ.out;omega) (fun _=>rfl) a7.out (by rw[←aX.out,I1.out,decide_eq_false (by have:=RJ.out;omega)])
theorem zI (s:Sl) (z:Nat→Value) (I sv:Value) (q:Rq) (x:Int) (x0:0≤x) (x1:x≤65535) (w:World) (hR:nO w s z I sv) (hv:s.val) (hq:q.ok=true):
  Calls Tryz.prog 187 #[.agg (SlC s z I sv),.agg #[U Z q.fn,U Z q.addr,U Z q.aF,U Z q.code,U Z q.obj],U Z x] w (br w (s.cC q x)):=by
 obtain⟨sa,sc,rfl,-⟩:=id hR.sd;obtain⟨sn,ie⟩:=gE s.sd.length;obtain⟨C,hC⟩:=gE (SlC s z I (J sa s.sd.length sc));have a3:C.size=19:=by rw[←hC];rfl
 have P:(Tryz.prog.info? 68).map (·.size)=N C.size:=by rw[a3];exact dX
 have M8:(Tryz.prog.info? 45).map (·.size)=N 5:=by kernel_rfl
 rw[hC];obtain⟨rp,qD⟩:=gE (s.cC q x);rw[qD];have Oy:=hid qD;clear qD;obtain⟨u,ak⟩:∃W,((w.alloc (Y C 68)).alloc (Y #[U Z q.fn,U Z q.addr,U Z q.aF,U Z q.code,U Z q.obj] 45)).alloc (Y #[U Z 0,U Z 0,J none 0 0,U Z 0,U Z 0,.bool false,U Z 0,J none 0 0] 53)=W:=⟨_,rfl⟩
 have aX:u.heap.size=w.heap.size+3:=by rw[←ak];simp
 have ao:Below w.heap.size w u:=by rw[←ak];exact bta (bta (bal' w _) (Nat.le_refl _) _) (Nat.le_refl _) _
 have pS:u.heap[w.heap.size]?=N (Y C 68):=by rw[←ak];exact hpKeep (hpKeep (hpNew w _) (bal' _ _)) (bal' _ _)
 have pQ:u.heap[w.heap.size+1]?=N (Y #[U Z q.fn,U Z q.addr,U Z q.aF,U Z q.code,U Z q.obj] 45):=by rw[←ak];refine hpKeep ?_ (bal' _ _);have h:=hpNew (w.alloc (Y C 68)) (Y #[U Z q.fn,U Z q.addr,U Z q.aF,U Z q.code,U Z q.obj] 45);rw[World.size_alloc] at h;exact h
 have pZ:u.heap[w.heap.size+2]?=N (Y #[U Z 0,U Z 0,J none 0 0,U Z 0,U Z 0,.bool false,U Z 0,J none 0 0] 53):=by rw[←ak];have h:=hpNew ((w.alloc (Y C 68)).alloc (Y #[U Z q.fn,U Z q.addr,U Z q.aF,U Z q.code,U Z q.obj] 45)) (Y #[U Z 0,U Z 0,J none 0 0,U Z 0,U Z 0,.bool false,U Z 0,J none 0 0] 53);rw[World.size_alloc,World.size_alloc] at h;exact h
 obtain⟨b,cV⟩:∃n,w.heap.size+2=n:=⟨_,rfl⟩
 have E2:Hid (w.heap.size+1+1=b):=cV;have L:Hid (w.heap.size≤b∧b<u.heap.size):=by show _∧_;omega
 rw[cV] at pZ;have aY:Hid (∀X,Below u.heap.size u X→Calls Tryz.prog 112 #[.agg C] X (aj X true)):=fun X hX=>by
  have h:=pI s z I _ X (hR.ah (bt ao hX (Nat.le_refl _)));rw[hC] at h;exact h.mono fun _ _ ⟨V,h1,h2,h3⟩=>⟨by rw[h1,h2.out.2 hv],h3⟩
 have a4:Hid (∀X,Calls Tryz.prog 121 #[.agg #[U Z q.fn,U Z q.addr,U Z q.aF,U Z q.code,U Z q.obj]] X (aj X true)):=fun X=>by
  have h:=b9 q.fn q.addr q.aF q.code q.obj X;have e:Rq.ok ⟨q.fn,q.addr,q.aF,q.code,q.obj⟩=true:=hq;rw[e] at h;exact h
 have RR:=hid (ig x x0 (by omega));have a8:=hid (oX hq);have N2:Hid (∀e X,Calls Tryz.prog 209 #[.agg #[U Z q.fn,U Z q.addr,U Z q.aF,U Z q.code,U Z q.obj],U Z e] X (jO X q.fn e)):=fun e X=>iE q.fn q.addr q.aF q.code q.obj e X
 have PS:=hid pS;have PQ:=hid pQ;have PZ:=hid pZ;have a6:=hid ak;have a2:=hid ao;have R:=hid hC;have HR:=hid hR;have HV:=hid hv;have HQ:=hid hq;have HX:Hid (0≤x∧x≤65535):=⟨x0,x1⟩
 have E:=pS;have k0:Below u.heap.size u u:=Below.refl _ _;clear ak ao aX hC pS pQ pZ hR hv x0 x1 cV ie hq;go_enter Tryz.func187,Tryz.ntmps187;go_upto_region 1 with(fail)
 rw[a6.out,E2.out];go_upto_region 3 with(first
  |(refine wpList_load_row rfl 68 (.tmp 3) rfl w.heap.size rfl 68 C (0,0) _ E Tryz.underlying68 rfl P ?_)
  |(refine wpList_load_atH (by rfl) 45 (.tmp 4) rfl ⟨w.heap.size+1,0,M⟩ rfl #[U Z q.fn,U Z q.addr,U Z q.aF,U Z q.code,U Z q.obj] _ (fun j v hj=>tf (hpKeep PQ.out ab) j v hj) Tryz.underlying45 rfl M8 ?_)
  |(go_at_call 112;(with_reducible refine(aY.out _ k0).mono ?_);rintro r w2 ⟨rfl,ab⟩)
  |(go_at_call 121;(with_reducible refine(a4.out _).mono ?_);rintro r w3 ⟨rfl,av⟩)
  |(go_at_call 206;(with_reducible refine(RR.out _).mono ?_);rintro r w4 ⟨rfl,rfl⟩))
 have f:Hid (Below u.heap.size u w3):=bt ab av (Nat.le_refl _);have t:=hid (bt a2.out f.out (Nat.le_refl _));have E:=hpKeep PS.out f.out;have pq:=hpKeep PQ.out f.out;have pz:=hpKeep PZ.out f.out;have q0:=hpCell pq 0;have q0:w3.cell? ⟨w.heap.size+1,0,M⟩=N (U Z q.fn):=q0;clear ab av k0;rcases a8.out with⟨f1,f2⟩|A|⟨A,lj,OL⟩
 ·obtain ⟨k,hk⟩:∃k:Nat,q.fn=(k:Int)+1:=⟨(q.fn-1).toNat,by omega⟩
  have h4:k<4:=by omega
  have g1:(q.fn==43)=false:=b0 (by omega);have g2:(q.fn !=17)=true:=by rw[bne_iff_ne];omega
  have s1:IntKind.i64.wrap (q.fn-1)=(k:Int):=(IntWalk.i64_in _ (by omega)).trans (by omega);have a9:(0:Int)≤(k:Int):=Int.natCast_nonneg _;have ba:(k:Int)<4:=by omega
  have T:Below w3.heap.size w3 w3.drew:=(Below.refl _ _).drew;have kk:Keeps (· =b) w3 w3.drew:=Keeps.af T;have I4:¬w.heap.size=b:=by have:=E2.out;omega
  have CY:¬w.heap.size+1=b:=by have:=E2.out;omega
  have t0:∀X,Keeps (· =b) w3 X→X.cell? ⟨w.heap.size,3+k*3,M⟩=N (.bool (s.ts k).sup):=fun X h=>(fJ s z I _ (by rw[R.out];exact hpKeeps E h I4) h4).1
  have t1:∀X,Keeps (· =b) w3 X→X.cell? ⟨w.heap.size,3+k*3+1,M⟩=N (z k):=fun X h=>(fJ s z I _ (by rw[R.out];exact hpKeeps E h I4) h4).2.1
  have t2:∀X,Keeps (· =b) w3 X→X.cell? ⟨w.heap.size,3+k*3+2,M⟩=N (U Z (s.ts k).al):=fun X h=>(fJ s z I _ (by rw[R.out];exact hpKeeps E h I4) h4).2.2
  have r0:∀X,Keeps (· =b) w3 X→X.cell? ⟨w.heap.size+1,0,M⟩=N (U Z q.fn):=fun X h=>hpCell (hpKeeps pq h CY) 0
  have r1:∀X,Keeps (· =b) w3 X→X.cell? ⟨w.heap.size+1,1,M⟩=N (U Z q.addr):=fun X h=>hpCell (hpKeeps pq h CY) 1
  have r2:∀X,Keeps (· =b) w3 X→X.cell? ⟨w.heap.size+1,2,M⟩=N (U Z q.aF):=fun X h=>hpCell (hpKeeps pq h CY) 2
  have r3:∀X,Keeps (· =b) w3 X→X.cell? ⟨w.heap.size+1,3,M⟩=N (U Z q.code):=fun X h=>hpCell (hpKeeps pq h CY) 3
  have r4:∀X,Keeps (· =b) w3 X→X.cell? ⟨w.heap.size+1,4,M⟩=N (U Z q.obj):=fun X h=>hpCell (hpKeeps pq h CY) 4
  have qU:Hid (∀X,Below w3.heap.size w3 X→Calls Tryz.prog 208 #[.agg #[.bool (s.ts k).sup,z k,U Z (s.ts k).al],.agg #[U Z q.fn,U Z q.addr,U Z q.aF,U Z q.code,U Z q.obj],U Z x] X (br X rp)):=fun X hX=>by
   have h:=Cl (s.ts k) (z k) q HQ.out ⟨f1,f2⟩ x HX.out.1 HX.out.2 X ((HR.out.rg k h4).ah (bt t.out hX (Nat.le_refl _))) (fun hs=>((HV.out.tb k h4).2 hs).2.1);rw[←Oy.out,Sl.Br hk h4,iP.Fg];exact h.mono fun _ _ h=>h.rep
  have ad:=hid pz;clear hk E pq pz;generalize (s.ts k).sup=ts at*;generalize (s.ts k).al=tm at*;generalize z k=tv at*;go_upto_region 6 with(fail)
  clear q0;refine wp_region_held_drew (S:=fun V=>Keeps (· =b) w3 V) (by kernel_rfl) kk (fun hH=>?_);clear hH;refine tG 0 32 ?_;refine tG 1 33 ?_;refine tG 2 34 ?_;refine tG 3 35 ?_;refine tG 4 36 ?_;refine tG 5 37 ?_;refine tG 6 38 ?_;refine tG 7 39 ?_;refine rdyH 8 rfl (fun K D=>?_);go_simp;refine(qU.out _ T).mono ?_;rintro r w5 ⟨da,dc,oa,oc,rfl,mh,c⟩;have MD:Keeps (· =b) w3 w5:=kk.trans (Keeps.af c) (fun _ _ e=>e);refine D.out _ _ MD (fun m=>?_);clear D K m;have E4:=hpKeep ad.out ((Below.refl w3.heap.size w3).drew.trans c);refine rdyH 9 rfl (fun K D=>?_);refine step_storeW rfl 53 (.tmp 6) (.tmp 40) rfl b 0 _ 53 #[U Z rp.fn,U Z rp.ar,J da rp.data.length dc,U Z rp.code,U Z rp.level,.bool rp.more,U Z rp.next,J oa rp.ag.length oc] rfl rfl E4 (by simp) info8 rfl ?_;intro F G g Q;have va:Keeps (· =b) w3 F:=MD.trans g (fun _ _ e=>e);refine D.out _ _ va (fun m=>?_);clear D K m;clear t0 t1 t2 r0 r1 r2 r3 r4;refine wpAnyH_done (by kernel_rfl) ?_ _;have g9:F.heap[b]?=N (Y #[U Z rp.fn,U Z rp.ar,J da rp.data.length dc,U Z rp.code,U Z rp.level,.bool rp.more,U Z rp.next,J oa rp.ag.length oc] 53):=G;clear G;go_wp2;refine bodyPost_ret (results_cell_row rfl _ _ (b) 53 _ (0,0) _ rfl g9 Tryz.underlying53 rfl info8) rfl ?_;exact br.stored (w5:=w3.drew) mh c (bt t.out T (Nat.le_refl _)) L.out.1 (by have:=L.out.2;have:=f.out.size;show b<w3.heap.size;omega) g
 ·have HF:=hid A
  have g1:(q.fn==43)=false:=b0 (by omega);have g2:(q.fn !=17)=false:=by rw[bne_eq_false_iff_eq];exact A
  have IK:Hid (rp=s.nY):=by show _=_;rw[←Oy.out];exact Sl.Bx A x
  have T:Below w3.heap.size w3 w3.drew:=(Below.refl _ _).drew;have kk:Keeps (· =b) w3 w3.drew:=Keeps.af T;have I4:¬w.heap.size=b:=by have:=E2.out;omega
  have CY:¬w.heap.size+1=b:=by have:=E2.out;omega
  have t17:∀X,Keeps (· =b) w3 X→X.cell? ⟨w.heap.size,17,M⟩=N (.bool s.hs):=fun X h=>by rw[hpCell (hpKeeps E h I4) 17,←R.out];rfl
  have t18:∀X,Keeps (· =b) w3 X→X.cell? ⟨w.heap.size,18,M⟩=N (J sa s.sd.length sc):=fun X h=>by rw[hpCell (hpKeeps E h I4) 18,←R.out];rfl
  have r0:∀X,Keeps (· =b) w3 X→X.cell? ⟨w.heap.size+1,0,M⟩=N (U Z 17):=fun X h=>by rw[hpCell (hpKeeps pq h CY) 0,←A];rfl
  have a7:Hid (Bs w3 (J sa s.sd.length sc) s.sd):=HR.out.sd.ah t.out;have Sd:=HV.out.sl;have uU:Keeps (· =b) w3 w3:=Keeps.refl _ _;clear A;cases hs:s.hs with
  |false=>
   rw[hs] at t17;have u17:=t17 w3 uU;have Zm:Hid (rp=jR 17 1 []):=by
    show _=_;rw[IK.out];unfold Sl.nY;rw[if_neg (by rw[hs];decide)]
   have JV:Hid (∀X,Calls Tryz.prog 209 #[.agg #[U Z q.fn,U Z q.addr,U Z q.aF,U Z q.code,U Z q.obj],U Z 1] X (jO X 17 1)):=fun X=>by have:=N2.out 1 X;rw[HF.out] at this ⊢;exact this
   clear t17 t18 r0 Sd;go_wp2_with (first
    |(refine wpList_load_row rfl 45 (.tmp 4) rfl (w.heap.size+1) rfl 45 #[U Z q.fn,U Z q.addr,U Z q.aF,U Z q.code,U Z q.obj] (0,0) _ pq Tryz.underlying45 rfl M8 ?_)
    |(go_at_call 209;(with_reducible refine(JV.out _).mono ?_);rintro r w5 ⟨rfl,c⟩;have AB:=hpKeep pz c)
    |(refine wpList_storeW rfl 53 (.tmp 6) (.tmp 46) rfl b 0 _ 53 #[U Z 17,U Z 1,J none 0 0,U Z 0,U Z 0,.bool false,U Z 0,J none 0 0] rfl rfl AB (by simp) info8 rfl ?_;intro F G g Q))
   have g9:F.heap[b]?=N (Y #[U Z 17,U Z 1,J none 0 0,U Z 0,U Z 0,.bool false,U Z 0,J none 0 0] 53):=G;refine bodyPost_ret (results_cell_row rfl _ _ (b) 53 _ (0,0) _ rfl g9 Tryz.underlying53 rfl info8) rfl ?_;rw[Zm.out];exact br.stored (rp:=jR 17 1 []) (w5:=w3) (da:=none) (dc:=0) (oa:=none) (oc:=0) (fun W _=>⟨Bs.nil W,cY.nil W,(by show (0:Int)≤_;decide),(by show _≤(0:Int);decide)⟩) c t.out L.out.1 (by have:=L.out.2;have:=f.out.size;omega) g
  |true=>
   rw[hs] at t17;have u17:=t17 w3 uU;have HS:=hid hs;have m7:Hid (∀X,Below w3.heap.size w3 X→Calls Tryz.prog 80 #[J sa s.sd.length sc] X fun r w'=>∃v',r=O v'∧w'.ownsRow X.heap.size 5 1 v' s.sd.length (u8s s.sd)∧Below X.heap.size X w'):=fun X hX=>bY _ s.sd X (a7.out.ah hX) (by omega)
   have ad:=hid pz;clear E pq pz hs Sd;obtain⟨sn,ie⟩:=gE s.sd.length;rw[ie] at t18 m7;have eV:=hid ie;clear ie t17;go_upto_region 9 with(fail)
   clear q0 u17;refine wp_region_held_drew (S:=fun V=>Keeps (· =b) w3 V) (by kernel_rfl) kk (fun hH=>?_);clear hH;refine tG 0 47 ?_;refine tG 1 48 ?_;refine tG 2 49 ?_;refine tG 3 50 ?_;refine rdyH 4 rfl (fun K D=>?_);go_simp;refine(m7.out _ T).mono ?_;rintro r w5 ⟨v5,rfl,B,c⟩;obtain⟨a5,c5,rfl⟩:=own_slice B;have MD:Keeps (· =b) w3 w5:=kk.trans (Keeps.af c) (fun _ _ e=>e);refine D.out _ _ MD (fun m=>?_);clear D K m;have E4:=hpKeep ad.out ((Below.refl w3.heap.size w3).drew.trans c);refine tG 5 52 ?_;refine rdyH 6 rfl (fun K D=>?_);refine step_storeW rfl 53 (.tmp 6) (.tmp 52) rfl b 0 _ 53 #[U Z 17,U Z 0,J a5 sn c5,U Z 0,U Z 0,.bool false,U Z 0,J none 0 0] rfl rfl E4 (by simp) info8 rfl ?_;intro F G g Q;have va:Keeps (· =b) w3 F:=MD.trans g (fun _ _ e=>e);refine D.out _ _ va (fun m=>?_);clear D K m;clear t18 r0;refine wpAnyH_done (by kernel_rfl) ?_ _;have g9:F.heap[b]?=N (Y #[U Z 17,U Z 0,J a5 sn c5,U Z 0,U Z 0,.bool false,U Z 0,J none 0 0] 53):=G;clear G;go_wp2;refine bodyPost_ret (results_cell_row rfl _ _ (b) 53 _ (0,0) _ rfl g9 Tryz.underlying53 rfl info8) rfl ?_;rw[IK.out];have h:=eV.out;subst h;exact BI (w3:=w3.drew) HS.out B c (bt t.out T (Nat.le_refl _)) L.out.1 (by have:=L.out.2;have:=f.out.size;show b<w3.heap.size;omega) g
 ·have HF:=hid A
  have Us:Hid (Calls Tryz.prog 207 #[.agg C,.agg #[U Z q.fn,U Z q.addr,U Z q.aF,U Z q.code,U Z q.obj]] w3 (br w3 rp)):=by
   rw[←Oy.out,Sl.AQ A,A];by_cases h0:s.lv=0
   ·have h:=CV s z I (J sa s.sd.length sc) q.addr q.aF q.code q.obj w3 h0
    rw[R.out] at h;exact h.mono fun _ _ h=>oJ HV.out.lv (.inl ⟨h0,h⟩)
   ·have hl:=HV.out.lv
    have gp:0<s.lv:=by omega
    have h:=yE s z I (J sa s.sd.length sc) q.addr q.aF q.obj q.code w3 (HR.out.ah t.out) gp (HV.out.on gp).1 (fun y hy=>by obtain⟨i,hi⟩:=List.getElem?_of_mem hy;have:=HV.out.vl gp i y hi;omega);rw[R.out] at h;exact h.mono fun _ _ h=>oJ hl (.inr ⟨h0,h⟩)
  have g1:(q.fn==43)=true:=b1 A;clear A lj OL;go_wp2_with (first
   |(refine wpList_load_row rfl 68 (.tmp 3) rfl w.heap.size rfl 68 C (0,0) _ E Tryz.underlying68 rfl P ?_)
   |(refine wpList_load_row rfl 45 (.tmp 4) rfl (w.heap.size+1) rfl 45 #[U Z q.fn,U Z q.addr,U Z q.aF,U Z q.code,U Z q.obj] (0,0) _ pq Tryz.underlying45 rfl M8 ?_)
   |(go_at_call 207;(with_reducible refine Us.out.mono ?_);rintro r w5 ⟨da,dc,oa,oc,rfl,mh,c⟩;have AB:=hpKeep pz c)
   |(refine wpList_storeW rfl 53 (.tmp 6) (.tmp 27) rfl b 0 _ 53 #[U Z rp.fn,U Z rp.ar,J da rp.data.length dc,U Z rp.code,U Z rp.level,.bool rp.more,U Z rp.next,J oa rp.ag.length oc] rfl rfl AB (by simp) info8 rfl ?_;intro F G g Q))
  have g9:F.heap[b]?=N (Y #[U Z rp.fn,U Z rp.ar,J da rp.data.length dc,U Z rp.code,U Z rp.level,.bool rp.more,U Z rp.next,J oa rp.ag.length oc] 53):=G;refine bodyPost_ret (results_cell_row rfl _ _ (b) 53 _ (0,0) _ rfl g9 Tryz.underlying53 rfl info8) rfl ?_;exact br.stored mh c t.out L.out.1 (by have:=L.out.2;have:=f.out.size;omega) g
theorem run_load_rowT {P:Program} {ev:Operand→Value} {o:Oper} (ty:TypeId) (x:Operand) (e:o.op=.load ty x)
  (a:Addr) (f:ev x=.pointer (N a)) (cs:Array Value) (d:TypeDesc) (b:∀j v,cs.toList[j]?=N v→w.cell? (a.add j)=N v)
  (hu:P.underlying ty=N d) (c:(match d with|.struct _|.array _ _=>true|_=>false)=true) (hi:(P.info? ty).map (·.size)=N cs.size):
  (execOp ev o).run P w=.ok (.value (.agg cs)) w:=by
 unfold execOp;simp only[e,f,Instr.loadAt,Instr.sureAddr,Sem.run_bind,Sem.run_pure,Result.andThen_ok,dU w a ty cs d b hu c hi]
def eH (f:List UInt8):List UInt8:=f.set (f.length-1) ((f.getD (f.length-1) 0)^^^255)
theorem jF (f:List UInt8):(eH f).length=f.length:=by unfold eH;rw[List.length_set]
def fZ (l:List Sl) (x:Int):Int×Rq×List Nat→List UInt8
 |(_,_,[])=>[]
 |(u,q,j::ms)=>match l[j]? with
  |none=>[]
  |some s=>if ms=[] then aD u (s.cC q x) else eH (aD u (s.cC q x))
def cI (l:List Sl) (bd pa:Int) (f:List UInt8) (x:Int):Option (List UInt8):=(cm l bd pa f).map (fZ l x)
def dC (l:List Sl) (bd pa:Int) (f:List UInt8):Option (List UInt8):=(cm l bd pa f).map fun o=>if o.2.2.length=1 then aD o.1 (jR o.2.1.fn 6 []) else fZ l 0 o
def eM (w:World) (o:Option (List UInt8)) (r:Ending) (w':World):Prop:=
 match o with
 |some f=>∃a c,r=O (.tuple #[J a f.length c,.bool true])∧w'.ownsRow w.heap.size 5 1 (J a f.length c) f.length (u8s f)∧Below w.heap.size w w'
 |none=>r=O (.tuple #[J none 0 0,.bool false])∧Below w.heap.size w w'
theorem mO (la:Option Addr) (lc ln:Nat) (l:List Sl) (hl:l.length=ln) (hB:cW l) (bd pa:Int) (f1:bT bd) (f2:bT pa) (fa:Option Addr) (fn fc:Nat) (f:List UInt8) (x:Int) (x0:0≤x) (x1:x≤65535) (w:World) (hL:dm w (J la ln lc) l) (hf:Bs w (J fa fn fc) f):
  Calls Tryz.prog 163 #[J la ln lc,.agg #[U Z bd,U Z pa],J fa fn fc,U Z x] w (eM w (cI l bd pa f x)):=by
 obtain⟨W1,ak,B,pS⟩:=eY w (Y #[U Z bd,U Z pa] 61);have s0:=hpCell pS 0;have s1:=hpCell pS 1;have lh:=hid (qz la lc ln l hl hB bd pa f1 f2 fa fn fc f W1 (hL.ah B) (hf.ah B));have av:=hid ak;have ao:=hid B;have HB:=hid hB;have HL:=hid (hL.ah B);have HX:Hid (0≤x∧x≤65535):=⟨x0,x1⟩
 have a5:=hid hl;unfold cI;clear ak B pS hB hL hf f1 f2 hl x0 x1;cases ho:cm l bd pa f with
 |none=>
  rw[ho] at lh;clear ho;go_enter Tryz.func163,Tryz.ntmps163;go_upto_region 1 with(fail)
  rw[av.out];go_wp2_with (go_at_call 185;(with_reducible refine lh.out.mono ?_);rintro r w2 ⟨u2,f2,a2,n2,c2,o2,ma,mn,mc,rfl,D⟩);go_ret2;exact⟨rfl,bta (bt ao.out D (Nat.le_refl _)) (Nat.le_refl _) _⟩
 |some o=>
  obtain⟨u,q,ms⟩:=o;rw[ho] at lh;obtain⟨u1,u2,Rb,rF,db⟩:=fT ho;clear ho;cases ms with
  |nil=>exact absurd rfl db
  |cons j rest=>
   have UI:j∈bF l bd pa u l.length:=by rw[←rF];exact List.mem_cons_self
   obtain⟨s,hs,-⟩:=fu UI;have JH:j<ln:=by rw[←a5.out];exact(List.getElem?_eq_some_iff.1 hs).1
   have mC:s.val:=HB.out.2 s (List.mem_of_getElem? hs);obtain⟨y,rh⟩:∃n,(j::rest).length=n:=⟨_,rfl⟩
   have J6:Hid (Calls Tryz.prog 185 #[J la ln lc,.agg #[U Z bd,U Z pa],J fa fn fc] W1 fun r w'=>∃a c,r=O (.tuple #[U Z u,.agg #[U Z q.fn,U Z q.addr,U Z q.aF,U Z q.code,U Z q.obj],J a y c,.bool true])∧w'.ownsRow W1.heap.size 3 1 (J a y c) y ((j::rest).map fun i:Nat=>U Z (i:Int))∧Below W1.heap.size W1 w'):=lh.out.mono fun r w' h=>by
    obtain⟨a,c,h1,h2,h3⟩:=h;rw[rh] at h1 h2;exact⟨a,c,h1,h2,h3⟩
   have R:Hid (y=rest.length+1):=by show _=_;rw[←rh];rfl
   obtain⟨rp,qD⟩:=gE (s.cC q x);have cX:rp.ok=true:=by rw[←qD];exact Sl.ji mC Rb x
   obtain⟨F,hF⟩:=gE (aD u rp);have L:=df u cX;rw[hF] at L;have iV:Hid (Option.map (fZ l x) (N (u,q,j::rest))=N (if rest=[] then F else eH F)):=by
    show some (fZ l x (u,q,j::rest))=_;unfold fZ;dsimp only;rw[hs];dsimp only;rw[qD,hF]
   rw[iV.out];obtain⟨FR,Gy⟩:∃FR,(if rest=[] then F else eH F)=FR:=⟨_,rfl⟩
   rw[Gy];have JS:=hid Gy;clear Gy iV;have a4:Hid (∀X I T sv,nO X s I T sv→Calls Tryz.prog 187 #[.agg (SlC s I T sv),.agg #[U Z q.fn,U Z q.addr,U Z q.aF,U Z q.code,U Z q.obj],U Z x] X (br X rp)):=fun X I T sv hR=>by rw[←qD];exact zI s I T sv q x HX.out.1 HX.out.2 X hR mC Rb
   have L7:Hid (∀X da dc oa oc,dG X rp da dc oa oc→Calls Tryz.prog 186 #[U Z u,.agg #[U Z rp.fn,U Z rp.ar,J da rp.data.length dc,U Z rp.code,U Z rp.level,.bool rp.more,U Z rp.next,J oa rp.ag.length oc]] X (zT X F)):=fun X da dc oa oc hR=>by rw[←hF];exact nI u u1 u2 rp cX da oa dc oc X hR
   have g1:decide (x<0)=false:=decide_eq_false (by have:=HX.out;omega);have g2:decide (65536≤x)=false:=decide_eq_false (by have:=HX.out;omega);have WM:(0:Int)≤(j:Int):=Int.natCast_nonneg _;have kl:(j:Int)<(ln:Int):=by omega
   have YF:(0:Int)<(y:Int):=by have:=R.out;omega
   have bm:0<y:=by have:=R.out;omega
   have HS:=hid hs;have Fq:=hid L;clear lh rh qD cX hF L u1 u2 Rb rF db UI hs mC JH;go_enter Tryz.func163,Tryz.ntmps163;go_upto_region 1 with(fail)
   rw[av.out];go_upto_region 2 with(go_at_call 185;(with_reducible refine J6.out.mono ?_);rintro r w2 ⟨ma,mc,rfl,bX,D⟩)
   obtain⟨t,a3,Q,p3⟩:=eY w2 (Y #[U Z q.fn,U Z q.addr,U Z q.aF,U Z q.code,U Z q.obj] 45);have m:t.ownsRow W1.heap.size 3 1 (J ma y mc) y ((j::rest).map fun i:Nat=>U Z (i:Int)):=own_keeps (F:=fun _=>False) bX (Keeps.af Q) (fun _ _ e=>e);obtain⟨mg,cap,kz,-,-,-⟩:=cK m (by have:=R.out;omega);simp only[Value.slice.injEq,true_and] at kz;obtain⟨rfl,rfl⟩:=kz;have D3:t.cell? ⟨mg,0,M⟩=N (U Z (j:Int)):=by rw[m.cellAt 0 (by have:=R.out;show 0<y*1;omega)];rfl
   have A:=bt D Q (Nat.le_refl _);obtain⟨b,o,I,T,sv,rfl,hR,hc⟩:=(HL.out.ah A).at HS.out;obtain⟨C,hC⟩:=gE (SlC s I T sv);have hi:(Tryz.prog.info? 68).map (·.size)=N C.size:=by rw[←hC];exact dX
   have Hr:Hid (∀X,Below t.heap.size t X→∀k v,C.toList[k]?=N v→X.cell? ((⟨b,o+j*19,M⟩:Addr).add k)=N v):=fun X hX k v hk=>by
    have e:(⟨b,o+j*19,M⟩:Addr).add k=⟨b,o+j*19+k,M⟩:=by unfold Addr.add;split<;>simp_all
    rw[e];exact cell_keep hX (hc k v (by rw[hC];simpa using hk))
   have a6:Hid (∀X,Below t.heap.size t X→Calls Tryz.prog 187 #[.agg C,.agg #[U Z q.fn,U Z q.addr,U Z q.aF,U Z q.code,U Z q.obj],U Z x] X (br X rp)):=fun X hX=>by rw[←hC];exact a4.out X I T sv (hR.ah hX)
   have c0:∀X,Below t.heap.size t X→X.cell? ⟨mg,0,M⟩=N (U Z (j:Int)):=fun X h=>cell_keep h D3
   have r0:=cF p3 0 rfl;have r1:=cF p3 1 rfl;have r2:=cF p3 2 rfl;have r3:=cF p3 3 rfl;have r4:=cF p3 4 rfl;have Ty:Hid (Below w.heap.size w t):=bt ao.out A (Nat.le_refl _);have C4:=hid a3;have kD:Below t.heap.size t t.drew:=(Below.refl _ _).drew;clear a3 Q p3 bX m D3 hR hc hC A D;go_upto_region 4 with(fail)
   rw[C4.out];refine wp_region_held_drew (S:=fun V=>Below t.heap.size t V) (by kernel_rfl) kD (fun hH=>?_);clear hH;refine tG 0 34 ?_;refine tG 1 35 ?_;refine tG 2 36 ?_;refine tG 3 37 ?_;refine tG 4 38 ?_;refine tG 5 39 ?_;refine tkD 6 40 (v:=.agg C) rfl (by kernel_rfl) (fun _ _ _ h=>h) rfl (by rfl) (by assumption) (fun X hX=>run_load_rowT 68 (.tmp 39) rfl ⟨b,o+j*19,M⟩ rfl C _ (Hr.out X hX) Tryz.underlying68 rfl hi) ?_;simp only[setS];refine tG 7 41 ?_;refine tG 8 42 ?_;refine rdyH 9 rfl (fun K hK=>?_);go_simp;refine(a6.out _ kD).mono ?_;rintro r w4 ⟨da,dc,oa,oc,rfl,mh,aY⟩;have E:=bt kD aY (Nat.le_refl _);refine hK.out _ _ E (fun G=>?_);clear hK K G;refine rdyH 10 rfl (fun K hK=>?_);go_simp;refine(L7.out _ _ _ _ _ (mh _ (ay.refl _ _))).mono ?_;rintro r w5 ⟨ba,bc,rfl,z,a7⟩;have P:=bt E a7 (Nat.le_refl _);refine hK.out _ _ P (fun G=>?_);clear hK K G;refine tkD 11 14 (v:=?_) rfl (by kernel_rfl) (fun _ _ _ h=>h) rfl (by rfl) (by assumption) ?_ ?_;rotate_left;(intro w bK;(try dsimp only at bK);(try go_simp);try rfl);refine wpAnyH_done (by kernel_rfl) ?_ _;clear c0 r0 r1 r2 r3 r4;have ab:Hid (Below w.heap.size w w5):=bt Ty.out P (Nat.le_refl _);have aX:w.heap.size≤w4.heap.size:=by have:=Ty.out.size;have:=E.size;omega
   obtain⟨fl,nG⟩:=gE F.length;have OC:=hid nG;have uG:Hid (w5.ownsRow w.heap.size 5 1 (J ba fl bc) fl (u8s F)):=by have:=own_lower z aX;rw[nG] at this;exact this
   rw[nG];clear z aX mh E P kD;have R8:=Fq.out;rw[nG] at R8;clear nG;by_cases hr:rest=[]
   ·have HE:Hid (FR=F):=by show _=_;rw[←JS.out,if_pos hr]
    have g3:decide ((1:Int)<(y:Int))=false:=decide_eq_false (by have:=R.out;rw[hr] at this;simp at this;omega);clear hr;go_wp2;go_ret2;have e:=OC.out;subst e;rw[HE.out];exact⟨ba,bc,rfl,uG.out,ab.out⟩
   ·have HE:Hid (FR=eH F):=by show _=_;rw[←JS.out,if_neg hr]
    have g3:decide ((1:Int)<(y:Int))=true:=decide_eq_true (by have:=R.out;have:=List.length_pos_iff.2 hr;omega);have g4:1<y:=by have:=R.out;have:=List.length_pos_iff.2 hr;omega
    clear hr;have a9:=uG;obtain⟨g,cap,kz,hg,-,-⟩:=cK uG.out (by omega);simp only[Value.slice.injEq,true_and] at kz;obtain⟨rfl,rfl⟩:=kz;obtain⟨i,M8⟩:∃i,fl=i+1:=⟨fl-1,by omega⟩
    have s9:IntKind.i64.wrap ((fl:Int)-1)=(i:Int):=(IntWalk.i64_in _ (by omega)).trans (by omega);have a8:(0:Int)≤(i:Int):=Int.natCast_nonneg _;have te:(i:Int)<(fl:Int):=by omega
    have cz:=ey uG.out i (by omega);have N4:=uG.out.frozenAt i;have ad:=(uG.out.stored i (bD ((F.getD i 0)^^^255))).1;have gy:=Et (F.getD i 0);have CT:Hid (eH F=F.set i ((F.getD i 0)^^^255)):=by
     show _=_;unfold eH;rw[OC.out,M8,Nat.add_sub_cancel]
    rw[gH] at ad;have hI:=hid ad;have Uz:=hid gy;have NF:Hid (∀v,Below w.heap.size w (w5.setCell ⟨g,i,M⟩ v)):=fun v=>ab.out.trans ((ks1 (p:=g) (Keeps.refl _ _) i v).below ab.out.size (fun j hj e=>by omega))
    clear ad gy M8;go_wp2;go_ret2;have e:(eH F).length=fl:=by rw[jF,OC.out]
    rw[HE.out];refine⟨some ⟨g,0,M⟩,bc,by rw[e]<;>rfl,?_,NF.out _⟩;rw[e,CT.out];have hx:(Value.int .u8 (bits .xor .u8 ((((F[i]?.getD 0).toNat:Nat)):Int) 255))=bD ((F.getD i 0)^^^255):=Uz.out;rw[hx];exact hI.out
theorem gO {q:Rq} (h:q.ok=true):aR q.fn=true:=by
 unfold aR jW;rcases oX h with⟨a,b⟩|a|a
 ·rw [decide_eq_true a,decide_eq_true b];rfl
 ·rw [a];rfl
 ·rw [a.1];rfl
theorem eM.up (b:Below w.heap.size w W) (h:eM W o r w'):eM w o r w':=by
 cases o with
 |none=>exact⟨h.1,bt b h.2 (Nat.le_refl _)⟩
 |some f=>
  obtain⟨a,c,e,d,g⟩:=h;exact⟨a,c,e,own_lower d b.size,bt b g (Nat.le_refl _)⟩
theorem eM.form (h:eM w o r w'):∃a n c B,r=O (.tuple #[J a n c,.bool B]):=by
 cases o with
 |none=>exact⟨none,0,0,false,h.1⟩
 |some f=>obtain⟨a,c,b,-⟩:=h;exact⟨a,_,c,true,b⟩
theorem zC (la:Option Addr) (lc ln:Nat) (l:List Sl) (P:l.length=ln) (R:cW l) (bd pa:Int) (f1:bT bd) (f2:bT pa) (fa:Option Addr) (fn fc:Nat) (f:List UInt8) (w:World) (S:dm w (J la ln lc) l) (Q:Bs w (J fa fn fc) f):
  Calls Tryz.prog 162 #[J la ln lc,.agg #[U Z bd,U Z pa],J fa fn fc] w (eM w (dC l bd pa f)):=by
 obtain⟨e,ak,g,T⟩:=eY w (Y #[U Z bd,U Z pa] 61);have s0:=cF T 0 rfl;have s1:=cF T 1 rfl;have k0:Below e.heap.size e e:=Below.refl _ _;have x:=hid (qz la lc ln l P R bd pa f1 f2 fa fn fc f e (S.ah g) (Q.ah g));have y:Hid (∀X,Below e.heap.size e X→Calls Tryz.prog 163 #[J la ln lc,.agg #[U Z bd,U Z pa],J fa fn fc,U Z 0] X (eM X (cI l bd pa f 0))):=fun X hX=>mO la lc ln l P R bd pa f1 f2 fa fn fc f 0 (by decide) (by decide) X (S.ah (bt g hX (Nat.le_refl _))) (Q.ah (bt g hX (Nat.le_refl _)))
 have m:=hid ak;have p:=hid g;unfold dC;unfold cI at y;clear ak g T R S Q f1 f2 P;cases ho:cm l bd pa f with
 |none=>
  rw[ho] at x y;clear ho;go_enter Tryz.func162,Tryz.ntmps162;go_upto_region 1 with(fail)
  rw[m.out];go_upto_region 2 with(go_at_call 185;(with_reducible refine x.out.mono ?_);rintro r D ⟨u2,f2,a2,n2,c2,o2,ma,mn,mc,rfl,i⟩)
  obtain⟨F,b⟩:∃W,D.alloc (Y #[U Z f2,U Z a2,U Z n2,U Z c2,U Z o2] 45)=W:=⟨_,rfl⟩
  have d:Below e.heap.size e F:=by rw[←b];exact bta i (Nat.le_refl _) _
  rw[b];clear b;go_wp2_with (go_at_call 163;(with_reducible refine(y.out _ d).mono ?_);rintro r V s;obtain⟨ra,rn,rc,RB,rfl⟩:=s.form;have I:=hid s;clear s);go_ret2;exact eM.up (bt p.out d (Nat.le_refl _)) I.out
 |some o=>
  obtain⟨u,q,ms⟩:=o;rw[ho] at x y;obtain⟨u1,u2,L,rF,E⟩:=fT ho;clear ho rF;obtain⟨j,A⟩:=gE ms.length;have J6:Hid (Calls Tryz.prog 185 #[J la ln lc,.agg #[U Z bd,U Z pa],J fa fn fc] e fun r w'=>∃a c,r=O (.tuple #[U Z u,.agg #[U Z q.fn,U Z q.addr,U Z q.aF,U Z q.code,U Z q.obj],J a j c,.bool true])∧Below e.heap.size e w'):=x.out.mono fun r w' h=>by
   obtain⟨a,c,t,h2,h3⟩:=h;rw[A] at t;exact⟨a,c,t,h3⟩
  have YF:0<j:=by rw[←A];exact List.length_pos_iff.2 E
  obtain⟨K,G⟩:∃K,Option.map (fun o:Int×Rq×List Nat=>if o.2.2.length=1 then aD o.1 (jR o.2.1.fn 6 []) else fZ l 0 o) (N (u,q,ms))=K:=⟨_,rfl⟩
  rw[G];have v:K=N (if j=1 then aD u (jR q.fn 6 []) else fZ l 0 (u,q,ms)):=by rw[←G,←A];rfl
  clear G;by_cases t:j=1
  ·rw [if_pos t] at v
   obtain⟨rp,z⟩:=gE (jR q.fn 6 []);have cX:rp.ok=true:=by rw[←z];exact eS (gO L) (by decide) (by decide)
   have L7:Hid (∀X,Calls Tryz.prog 186 #[U Z u,.agg #[U Z q.fn,U Z 6,J none 0 0,U Z 0,U Z 0,.bool false,U Z 0,J none 0 0]] X (zT X (aD u rp))):=fun X=>by
    have h:=nI u u1 u2 rp cX none none 0 0 X (by rw[←z];exact⟨Bs.nil X,cY.nil X,(by show (0:Int)≤_;decide),(by show _≤(0:Int);decide)⟩);rw[←z] at h ⊢;exact h
   rw[z] at v;have M:=hid v;have g3:decide ((1:Int)<(j:Int))=false:=decide_eq_false (by omega);have g4:¬1<j:=by omega
   clear x y A v z cX u1 u2 L E t;go_enter Tryz.func162,Tryz.ntmps162;go_upto_region 1 with(fail)
   rw[m.out];go_upto_region 2 with(go_at_call 185;(with_reducible refine J6.out.mono ?_);rintro r D ⟨ma,mc,rfl,i⟩)
   go_wp2_with (go_at_call 186;(with_reducible refine(L7.out _).mono ?_);rintro r V ⟨ba,bc,rfl,B,aY⟩);go_ret2;rw[M.out];have d:Below e.heap.size e _:=bta i (Nat.le_refl _) (Y #[U Z q.fn,U Z q.addr,U Z q.aF,U Z q.code,U Z q.obj] 45);have C:=bt p.out d (Nat.le_refl _);exact⟨ba,bc,rfl,own_lower B C.size,bt C aY (Nat.le_refl _)⟩
  ·rw [if_neg t] at v
   have M:=hid v;have g3:decide ((1:Int)<(j:Int))=true:=decide_eq_true (by omega);have g4:1<j:=by omega
   clear x A v u1 u2 L E t;go_enter Tryz.func162,Tryz.ntmps162;go_upto_region 1 with(fail)
   rw[m.out];go_upto_region 2 with(go_at_call 185;(with_reducible refine J6.out.mono ?_);rintro r D ⟨ma,mc,rfl,i⟩)
   obtain⟨F,b⟩:∃W,D.alloc (Y #[U Z q.fn,U Z q.addr,U Z q.aF,U Z q.code,U Z q.obj] 45)=W:=⟨_,rfl⟩
   have d:Below e.heap.size e F:=by rw[←b];exact bta i (Nat.le_refl _) _
   rw[b];clear b;go_wp2_with (go_at_call 163;(with_reducible refine(y.out _ d).mono ?_);rintro r V s;obtain⟨ra,rn,rc,RB,rfl⟩:=s.form;have I:=hid s;clear s);go_ret2;rw[M.out];exact eM.up (bt p.out d (Nat.le_refl _)) I.out
