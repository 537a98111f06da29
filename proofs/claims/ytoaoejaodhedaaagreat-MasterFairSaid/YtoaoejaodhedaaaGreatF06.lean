import Derived.Test.YtoaoejaodhedaaaGreatF05
namespace Go.Proofs.YtoaoejaodhedaaaGreat
open Go.RowKit
open Value renaming slice→J,int→U
open Option renaming none→M,some→N
open IntKind renaming i64→Y
open Obj renaming cells→O
set_option maxHeartbeats 12800000
set_option maxRecDepth 100000
theorem xaC (k a b:Int):(jY k a b).ok=true:=by
 have g:=Int.emod_nonneg k (show (6:Int)≠0 by decide);have i:=Int.emod_lt_of_pos k (show 0<(6:Int) by decide);unfold jY;by_cases c:k%6=4
 ·rw [if_pos c];rfl
 ·rw [if_neg c]
  by_cases d:k%6=5
  ·rw [if_pos d]
   simp only[Rq.ok];simp;omega
  ·rw [if_neg d]
   obtain⟨L,e⟩:∃L,cN (1+k%6)=L:=⟨_,rfl⟩
   have f:0<L∧L≤2000:=by
    rw[←e];unfold cN
    repeat' split
    all_goals omega
   simp only[Rq.ok];rw[if_pos ⟨by omega,by omega⟩,e];have j:=Int.emod_nonneg b (show L≠0 by omega);have l:=Int.emod_lt_of_pos b f.1;have m:=Int.emod_nonneg a (show 65536- (1+b%L)+1≠0 by omega);have n:=Int.emod_lt_of_pos a (show 0<65536- (1+b%L)+1 by omega);simp;omega
theorem xbV:(Tryz.prog.info? 68).map (·.size)=N 19:=by kernel_rfl
theorem O0 (s:Sl) (t:Nat→Value) (z sv:Value) (q:Rq) (x:Int) (x0:0≤x) (x1:x≤65535) (w:World) (hR:nO w s t z sv) (hv:s.val) (hq:q.ok=true):
  Calls Tryz.prog 18 #[.agg (SlC s t z sv),.agg #[U Y q.fn,U Y q.addr,U Y q.aF,U Y q.code,U Y q.obj],U Y x] w (br w (s.cC q x)):=by
 obtain⟨C,hC⟩:=gE (SlC s t z sv);have bx:C.size=19:=by rw[←hC];rfl
 have B:(Tryz.prog.info? 68).map (·.size)=N C.size:=by rw[bx];exact xbV
 rw[hC];obtain⟨rp,CO⟩:=gE (s.cC q x);rw[CO];have I:=hid CO;clear CO;obtain⟨f,L⟩:∃W,((w.alloc (O C 68)).alloc (O #[U Y q.fn,U Y q.addr,U Y q.aF,U Y q.code,U Y q.obj] 45)).alloc (O #[U Y 0,U Y 0,J none 0 0,U Y 0,U Y 0,.bool false,U Y 0,J none 0 0] 53)=W:=⟨_,rfl⟩
 have a2:f.heap.size=w.heap.size+3:=by rw[←L];simp
 have Q:Below w.heap.size w f:=by rw[←L];exact bta (bta (bal' w _) (Nat.le_refl _) _) (Nat.le_refl _) _
 have pS:f.heap[w.heap.size]?=N (O C 68):=by rw[←L];exact hpKeep (hpKeep (hpNew w _) (bal' _ _)) (bal' _ _)
 have pQ:f.heap[w.heap.size+1]?=N (O #[U Y q.fn,U Y q.addr,U Y q.aF,U Y q.code,U Y q.obj] 45):=by rw[←L];refine hpKeep ?_ (bal' _ _);have h:=hpNew (w.alloc (O C 68)) (O #[U Y q.fn,U Y q.addr,U Y q.aF,U Y q.code,U Y q.obj] 45);rw[World.size_alloc] at h;exact h
 have pZ:f.heap[w.heap.size+2]?=N (O #[U Y 0,U Y 0,J none 0 0,U Y 0,U Y 0,.bool false,U Y 0,J none 0 0] 53):=by rw[←L];have h:=hpNew ((w.alloc (O C 68)).alloc (O #[U Y q.fn,U Y q.addr,U Y q.aF,U Y q.code,U Y q.obj] 45)) (O #[U Y 0,U Y 0,J none 0 0,U Y 0,U Y 0,.bool false,U Y 0,J none 0 0] 53);rw[World.size_alloc,World.size_alloc] at h;exact h
 obtain⟨b,lX⟩:∃n,w.heap.size+2=n:=⟨_,rfl⟩
 have E2:Hid (w.heap.size+1+1=b):=lX;have EZ:=hid lX;rw[lX] at pZ;have bZ:Keeps (· =b) f f:=Keeps.refl _ _;have YI:¬w.heap.size=b:=by omega
 have Sv:¬w.heap.size+1=b:=by omega
 have q0:∀X,Keeps (· =b) f X→X.cell? ⟨w.heap.size+1,0,M⟩=N (U Y q.fn):=fun X h=>hpCell (hpKeeps pQ h Sv) 0
 have q1:∀X,Keeps (· =b) f X→X.cell? ⟨w.heap.size+1,1,M⟩=N (U Y q.addr):=fun X h=>hpCell (hpKeeps pQ h Sv) 1
 have q2:∀X,Keeps (· =b) f X→X.cell? ⟨w.heap.size+1,2,M⟩=N (U Y q.aF):=fun X h=>hpCell (hpKeeps pQ h Sv) 2
 have q3:∀X,Keeps (· =b) f X→X.cell? ⟨w.heap.size+1,3,M⟩=N (U Y q.code):=fun X h=>hpCell (hpKeeps pQ h Sv) 3
 have q4:∀X,Keeps (· =b) f X→X.cell? ⟨w.heap.size+1,4,M⟩=N (U Y q.obj):=fun X h=>hpCell (hpKeeps pQ h Sv) 4
 have aX:Hid (Calls Tryz.prog 53 #[.agg C] f (aj f true)):=by
  have h:=o9 s t z sv f (hR.ah Q);rw[hC] at h;exact h.mono fun _ _ ⟨V,h1,h2,h3⟩=>⟨by rw[h1,h2.out.2 hv],h3⟩
 have av:Hid (∀X,Calls Tryz.prog 30 #[.agg #[U Y q.fn,U Y q.addr,U Y q.aF,U Y q.code,U Y q.obj]] X (aj X true)):=fun X=>by
  have h:=Lf q.fn q.addr q.aF q.code q.obj X;have e:Rq.ok ⟨q.fn,q.addr,q.aF,q.code,q.obj⟩=true:=hq;rw[e] at h;exact h
 have PS:=hid pS;have PQ:=hid pQ;have PZ:=hid pZ;have ba:=hid L;have a8:=hid Q;have bc:=hid a2;have E:=hid hC;have HR:=hid hR;have HV:=hid hv;have HQ:=hid hq;have u0:¬x<0:=by omega
 have u1:¬65535<x:=by omega
 have HX:Hid (0≤x∧x≤65535):=⟨x0,x1⟩
 clear L Q a2 hC pS pQ pZ hR hv x0 x1 lX;have bA:=oX hq;clear hq;go_enter Tryz.func18,Tryz.ntmps18;go_upto_region 1 with(fail)
 rw[ba.out,E2.out];go_upto_region 3 with(first
  |(refine wpList_load_row rfl 68 (.tmp 3) rfl w.heap.size rfl 68 C (0,0) _ PS.out Tryz.underlying68 rfl B ?_)
  |(go_at_call 53;(with_reducible refine aX.out.mono ?_);rintro r w2 ⟨rfl,R⟩;have a3:Keeps (· =b) f w2:=Keeps.af R)
  |(go_at_call 30;(with_reducible refine(av.out _).mono ?_);rintro r w3 ⟨rfl,T⟩;have ad:Keeps (· =b) f w3:=a3.trans (Keeps.af T) (fun _ _ e=>e)))
 have g:=bt R T (Nat.le_refl _);have l:=hid (bt a8.out g (Nat.le_refl _));have a7:w3.heap[b]?=N (O #[U Y 0,U Y 0,J none 0 0,U Y 0,U Y 0,.bool false,U Y 0,J none 0 0] 53):=hpKeep PZ.out g;have a6:w3.heap[w.heap.size]?=N (O C 68):=hpKeep PS.out g;have ak:=hid g;have G:=hid a7;have A5:=hid a6;have SN:f.heap.size≤w3.heap.size:=g.size;have v:Hid (b<w3.heap.size∧w.heap.size<w3.heap.size):=by have:=bc.out;have:=EZ.out;show _∧_;omega
 clear g R T a7 a6 a3 bZ SN u0 u1 aX av;rcases bA with⟨f1,f2⟩|u|⟨u,Ab,bo⟩
 ·-- a table
  obtain⟨k,hk⟩:∃k:Nat,q.fn=(k:Int)+1:=⟨(q.fn-1).toNat,by omega⟩
  have h4:k<4:=by omega
  have s1:IntKind.i64.wrap (q.fn-1)=(k:Int):=(IntWalk.i64_in _ (by omega)).trans (by omega);have b8:(0:Int)≤(k:Int):=Int.natCast_nonneg _;have ca:(k:Int)<4:=by omega
  have t0:∀X,Keeps (· =b) f X→X.cell? ⟨w.heap.size,3+k*3,M⟩=N (.bool (s.ts k).sup):=fun X h=>(fJ s t z sv (by rw[E.out];exact hpKeeps PS.out h YI) h4).1
  have t1:∀X,Keeps (· =b) f X→X.cell? ⟨w.heap.size,3+k*3+1,M⟩=N (t k):=fun X h=>(fJ s t z sv (by rw[E.out];exact hpKeeps PS.out h YI) h4).2.1
  have t2:∀X,Keeps (· =b) f X→X.cell? ⟨w.heap.size,3+k*3+2,M⟩=N (U Y (s.ts k).al):=fun X h=>(fJ s t z sv (by rw[E.out];exact hpKeeps PS.out h YI) h4).2.2
  have kD:Keeps (· =b) f w3.drew:=ad.trans (Keeps.af (F:=fun _=>False) (Below.refl _ _).drew) (fun _ _ e=>e.elim);have FH:Hid (Calls Tryz.prog 54 #[.agg #[.bool (s.ts k).sup,t k,U Y (s.ts k).al],.agg #[U Y q.fn,U Y q.addr,U Y q.aF,U Y q.code,U Y q.obj],U Y x] w3.drew (br w3.drew rp)):=by
   have h:=O2 (s.ts k) (t k) q HQ.out ⟨f1,f2⟩ x HX.out.1 HX.out.2 w3.drew ((HR.out.rg k h4).ah (bt l.out (Below.refl _ _).drew (Nat.le_refl _))) (fun hs=>((HV.out.tb k h4).2 hs).2.1);rw[←I.out,Sl.Br hk h4,iP.Fg];exact h.mono fun _ _ h=>h.rep
  have HK:=hid hk;clear hk;go_upto_region 4 with(fail)
  refine wp_region_held_drew (S:=fun V=>Keeps (· =b) f V) (by kernel_rfl) kD (fun hH=>?_);refine tG 0 27 ?_;refine tG 1 28 ?_;refine tG 2 29 ?_;refine tG 3 30 ?_;refine tG 4 31 ?_;refine tG 5 32 ?_;refine tG 6 33 ?_;refine tG 7 34 ?_;clear hH;refine rdyH 8 rfl (fun K hK=>?_);go_simp;refine FH.out.mono ?_;rintro r w5 ⟨da,dc,oa,oc,rfl,Z,j⟩;have a4:Keeps (· =b) f w5:=kD.trans (Keeps.af j) (fun _ _ e=>e);refine hK.out _ _ a4 (fun bm=>?_);clear hK K;have WD:=hpKeep G.out ((Below.refl w3.heap.size w3).drew.trans j);refine rdyH 9 rfl (fun K hK=>?_);refine step_storeW rfl 53 (.tmp 6) (.tmp 35) rfl b 0 _ 53 #[U Y rp.fn,U Y rp.ar,J da rp.data.length dc,U Y rp.code,U Y rp.level,.bool rp.more,U Y rp.next,J oa rp.ag.length oc] rfl rfl WD (by simp) info8 rfl ?_;intro D A m ab;have JW:Keeps (· =b) f D:=a4.trans m (fun _ _ e=>e);refine hK.out _ _ JW (fun bn=>?_);clear hK K bn bm t0 t1 t2 q0 q1 q2 q3 q4;refine wpAnyH_done (by kernel_rfl) ?_ _;have P:D.heap[b]?=N (O #[U Y rp.fn,U Y rp.ar,J da rp.data.length dc,U Y rp.code,U Y rp.level,.bool rp.more,U Y rp.next,J oa rp.ag.length oc] 53):=A;clear A;go_wp2;refine bodyPost_ret (results_cell_row rfl _ _ (b) 53 _ (0,0) _ rfl P Tryz.underlying53 rfl info8) rfl ?_;exact br.stored (w5:=w3.drew) Z j (bt l.out (Below.refl _ _).drew (Nat.le_refl _)) (by have:=EZ.out;omega) (by have:=v.out;show b<w3.heap.size;omega) m
 ·-- the server's identification
  have b4:w3.cell? ⟨w.heap.size+1,0,M⟩=N (U Y 17):=by rw[q0 w3 ad,u]
  have t17:w3.cell? ⟨w.heap.size,17,M⟩=N (.bool s.hs):=by have:=A5.out;rw[←E.out] at this;exact hpCell this 17
  have t18:w3.cell? ⟨w.heap.size,18,M⟩=N sv:=by have:=A5.out;rw[←E.out] at this;exact hpCell this 18
  have HF:=hid u;have Yf:Hid (rp=s.nY):=by show _=_;rw[←I.out];exact Sl.Bx u x
  clear q0 q1 q2 q3 q4 u;have pz:=G.out;cases hs:s.hs with
  |false=>
   rw[hs] at t17;go_wp2_with (refine wpList_storeW rfl 53 (.tmp 6) (.tmp 45) rfl b 0 _ 53 #[U Y 17,U Y 1,J none 0 0,U Y 0,U Y 0,.bool false,U Y 0,J none 0 0] rfl rfl pz (by simp) info8 rfl ?_;intro D A m ab);have P:D.heap[b]?=N (O #[U Y 17,U Y 1,J none 0 0,U Y 0,U Y 0,.bool false,U Y 0,J none 0 0] 53):=A;refine bodyPost_ret (results_cell_row rfl _ _ (b) 53 _ (0,0) _ rfl P Tryz.underlying53 rfl info8) rfl ?_;have e:s.nY=jR 17 1 []:=by unfold Sl.nY;rw[if_neg (by rw[hs];decide)]
   rw[Yf.out,e];exact br.stored (rp:=jR 17 1 []) (w5:=w3) (da:=none) (dc:=0) (oa:=none) (oc:=0) (fun W _=>⟨Bs.nil W,cY.nil W,(by show (0:Int)≤_;decide),(by show _≤(0:Int);decide)⟩) (Below.refl _ _) l.out (by have:=EZ.out;omega) v.out.1 m
  |true=>
   rw[hs] at t17;obtain⟨sa,sc,rfl,-⟩:=id HR.out.sd;have ao:Hid (Bs w3 (J sa s.sd.length sc) s.sd):=HR.out.sd.ah l.out;have bX:=HV.out.sl;obtain⟨iU,bK,b5,b6,b7⟩:=info_parts fS;obtain⟨sn,vh⟩:=gE s.sd.length;have tg:=hid vh;rw[vh] at t18 ao bX;clear vh;go_wp2_with (first
    |(at_builtin;refine Lx rfl (.const (J none 0 0)) (.tmp 47) 50 rfl w3.heap.size 5 iU Tryz.underlying50 bK b5 b6 b7 (J none 0 0) [] rfl (World.ownsRow_nil _ _ _ _) (J sa sn sc) s.sd rfl ao.out (by have:=tg.out;simp only[List.length_nil];omega) (Nat.le_refl _) ?_;intro v5 w5 o aY bQ;simp only[List.length_nil,Nat.zero_add,List.nil_append] at o;obtain⟨a5,c5,rfl⟩:=own_slice o;have j:Below w3.heap.size w3 w5:=(Below.refl _ _).grown aY (Nat.le_refl _) (fun k hk=>nomatch hk);have QE:=hpKeep pz j)
    |(refine wpList_storeW rfl 53 (.tmp 6) (.tmp 49) rfl b 0 _ 53 #[U Y 17,U Y 0,J a5 s.sd.length c5,U Y 0,U Y 0,.bool false,U Y 0,J none 0 0] rfl rfl QE (by simp) info8 rfl ?_;intro D A m ab))
   have P:D.heap[b]?=N (O #[U Y 17,U Y 0,J a5 s.sd.length c5,U Y 0,U Y 0,.bool false,U Y 0,J none 0 0] 53):=A;refine bodyPost_ret (results_cell_row rfl _ _ (b) 53 _ (0,0) _ rfl P Tryz.underlying53 rfl info8) rfl ?_;rw[Yf.out];exact BI (w3:=w3) hs o j l.out (by have:=EZ.out;omega) v.out.1 m
 ·-- the device's identification
  have b4:w3.cell? ⟨w.heap.size+1,0,M⟩=N (U Y 43):=by rw[q0 w3 ad,u]
  have pq:=hpKeep PQ.out ak.out;have ps:=A5.out;have pz:=G.out;have HF:=hid u;have bC:(Tryz.prog.info? 45).map (·.size)=N 5:=by kernel_rfl
  clear q0 q1 q2 q3 q4;have a9:Hid (Calls Tryz.prog 55 #[.agg C,.agg #[U Y q.fn,U Y q.addr,U Y q.aF,U Y q.code,U Y q.obj]] w3 (br w3 rp)):=by
   rw[←I.out,Sl.AQ u,u];by_cases h0:s.lv=0
   ·have h:=xaE s t z sv q.addr q.aF q.code q.obj w3 (HR.out.ah l.out) h0
    rw[E.out] at h;exact h.mono fun _ _ h=>oJ HV.out.lv (.inl ⟨h0,h⟩)
   ·have hl:=HV.out.lv
    have ui:0<s.lv:=by omega
    obtain⟨c,hc⟩:∃c:Nat,q.code=(c:Int):=⟨q.code.toNat,by omega⟩
    have h:=XD s t z sv q.addr q.aF q.obj c (by omega) (by omega) w3 (HR.out.ah l.out) ui (HV.out.on ui).1 (fun y hy=>by obtain⟨i,hi⟩:=List.getElem?_of_mem hy;have:=HV.out.vl ui i y hi;omega);rw[E.out] at h;rw[hc];refine h.mono fun _ _ h=>oJ hl (.inr ⟨h0,?_⟩)
    rw[hc];exact h
  clear u Ab bo;go_wp2_with (first
   |(refine wpList_load_row rfl 68 (.tmp 3) rfl w.heap.size rfl 68 C (0,0) _ ps Tryz.underlying68 rfl B ?_)
   |(refine wpList_load_row rfl 45 (.tmp 4) rfl (w.heap.size+1) rfl 45 #[U Y q.fn,U Y q.addr,U Y q.aF,U Y q.code,U Y q.obj] (0,0) _ pq Tryz.underlying45 rfl bC ?_)
   |(go_at_call 55;(with_reducible refine a9.out.mono ?_);rintro r w5 ⟨da,dc,oa,oc,rfl,Z,j⟩;have QE:=hpKeep pz j)
   |(refine wpList_storeW rfl 53 (.tmp 6) (.tmp 41) rfl b 0 _ 53 #[U Y rp.fn,U Y rp.ar,J da rp.data.length dc,U Y rp.code,U Y rp.level,.bool rp.more,U Y rp.next,J oa rp.ag.length oc] rfl rfl QE (by simp) info8 rfl ?_;intro D A m ab))
  have P:D.heap[b]?=N (O #[U Y rp.fn,U Y rp.ar,J da rp.data.length dc,U Y rp.code,U Y rp.level,.bool rp.more,U Y rp.next,J oa rp.ag.length oc] 53):=A;refine bodyPost_ret (results_cell_row rfl _ _ (b) 53 _ (0,0) _ rfl P Tryz.underlying53 rfl info8) rfl ?_;exact br.stored Z j l.out (by have:=EZ.out;omega) v.out.1 m
