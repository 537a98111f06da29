import Derived.Test.YtoaoejaodhedaaaGreatTB03
import Derived.Test.YtoaoejaodhedaaaGreatT34
namespace Go.Proofs.YtoaoejaodhedaaaGreat
open Go.RowKit
open Value renaming slice→J,int→U
open Option renaming none→M,some→N
open IntKind renaming i64→Y
open Obj renaming cells→O
set_option maxHeartbeats 12800000
set_option maxRecDepth 100000
variable {lp:Bool} {s:Ln} {b g:Nat} {P PL Q:Nat→Prop} {av ov sv:Value} {W X w:World}
theorem YI (k a b:Int):(jY k a b).ok=true:=by
 have i:=Int.emod_nonneg k (show (6:Int)≠0 by decide);have j:=Int.emod_lt_of_pos k (show 0<(6:Int) by decide);unfold jY;by_cases c:k%6=4
 ·rw [if_pos c];rfl
 ·rw [if_neg c]
  by_cases d:k%6=5
  ·rw [if_pos d]
   simp only[Rq.ok];simp;omega
  ·rw [if_neg d]
   obtain⟨L,e⟩:∃L,cN (1+k%6)=L:=⟨_,rfl⟩
   have f:0<L∧L≤2000:=by
    rw[←e];unfold cN
    repeat' split
    all_goals omega
   simp only[Rq.ok];rw[if_pos ⟨by omega,by omega⟩,e];have l:=Int.emod_nonneg b (show L≠0 by omega);have m:=Int.emod_lt_of_pos b f.1;have n:=Int.emod_nonneg a (show 65536- (1+b%L)+1≠0 by omega);have o:=Int.emod_lt_of_pos a (show 0<65536- (1+b%L)+1 by omega);simp;omega
theorem xbA:(Tryz.prog.info? 68).map (·.size)=N 19:=by kernel_rfl
theorem LD (s:Sl) (v:Nat→Value) (ov sv:Value) (q:Rq) (x:Int) (x0:0≤x) (x1:x≤65535) (w:World) (hR:nO w s v ov sv) (hv:s.val) (hq:q.ok=true):
  Calls Tryz.prog 18 #[.agg (SlC s v ov sv),.agg #[U Y q.fn,U Y q.addr,U Y q.aF,U Y q.code,U Y q.obj],U Y x] w (br w (s.cC q x)):=by
 obtain⟨C,hC⟩:=gE (SlC s v ov sv);have bK:C.size=19:=by rw[←hC];rfl
 have B:(Tryz.prog.info? 68).map (·.size)=N C.size:=by rw[bK];exact xbA
 rw[hC];obtain⟨rp,CM⟩:=gE (s.cC q x);rw[CM];have I:=hid CM;clear CM;obtain⟨j,L⟩:∃W,((w.alloc (O C 68)).alloc (O #[U Y q.fn,U Y q.addr,U Y q.aF,U Y q.code,U Y q.obj] 45)).alloc (O #[U Y 0,U Y 0,J none 0 0,U Y 0,U Y 0,.bool false,U Y 0,J none 0 0] 53)=W:=⟨_,rfl⟩
 have a4:j.heap.size=w.heap.size+3:=by rw[←L];simp
 have T:Below w.heap.size w j:=by rw[←L];exact bta (bta (bal' w _) (Nat.le_refl _) _) (Nat.le_refl _) _
 have pS:j.heap[w.heap.size]?=N (O C 68):=by rw[←L];exact hpKeep (hpKeep (hpNew w _) (bal' _ _)) (bal' _ _)
 have pQ:j.heap[w.heap.size+1]?=N (O #[U Y q.fn,U Y q.addr,U Y q.aF,U Y q.code,U Y q.obj] 45):=by rw[←L];refine hpKeep ?_ (bal' _ _);have h:=hpNew (w.alloc (O C 68)) (O #[U Y q.fn,U Y q.addr,U Y q.aF,U Y q.code,U Y q.obj] 45);rw[World.size_alloc] at h;exact h
 have pZ:j.heap[w.heap.size+2]?=N (O #[U Y 0,U Y 0,J none 0 0,U Y 0,U Y 0,.bool false,U Y 0,J none 0 0] 53):=by rw[←L];have h:=hpNew ((w.alloc (O C 68)).alloc (O #[U Y q.fn,U Y q.addr,U Y q.aF,U Y q.code,U Y q.obj] 45)) (O #[U Y 0,U Y 0,J none 0 0,U Y 0,U Y 0,.bool false,U Y 0,J none 0 0] 53);rw[World.size_alloc,World.size_alloc] at h;exact h
 obtain⟨f,jA⟩:∃n,w.heap.size+2=n:=⟨_,rfl⟩
 have E2:Hid (w.heap.size+1+1=f):=jA;have EZ:=hid jA;rw[jA] at pZ;have b6:Keeps (· =f) j j:=Keeps.refl _ _;have US:¬w.heap.size=f:=by omega
 have OR:¬w.heap.size+1=f:=by omega
 have q0:∀X,Keeps (· =f) j X→X.cell? ⟨w.heap.size+1,0,M⟩=N (U Y q.fn):=fun X h=>hpCell (hpKeeps pQ h OR) 0
 have q1:∀X,Keeps (· =f) j X→X.cell? ⟨w.heap.size+1,1,M⟩=N (U Y q.addr):=fun X h=>hpCell (hpKeeps pQ h OR) 1
 have q2:∀X,Keeps (· =f) j X→X.cell? ⟨w.heap.size+1,2,M⟩=N (U Y q.aF):=fun X h=>hpCell (hpKeeps pQ h OR) 2
 have q3:∀X,Keeps (· =f) j X→X.cell? ⟨w.heap.size+1,3,M⟩=N (U Y q.code):=fun X h=>hpCell (hpKeeps pQ h OR) 3
 have q4:∀X,Keeps (· =f) j X→X.cell? ⟨w.heap.size+1,4,M⟩=N (U Y q.obj):=fun X h=>hpCell (hpKeeps pQ h OR) 4
 have a2:Hid (Calls Tryz.prog 53 #[.agg C] j (aj j true)):=by
  have h:=o9 s v ov sv j (hR.ah T);rw[hC] at h;exact h.mono fun _ _ ⟨V,h1,h2,h3⟩=>⟨by rw[h1,h2.out.2 hv],h3⟩
 have aY:Hid (∀X,Calls Tryz.prog 30 #[.agg #[U Y q.fn,U Y q.addr,U Y q.aF,U Y q.code,U Y q.obj]] X (aj X true)):=fun X=>by
  have h:=IW q.fn q.addr q.aF q.code q.obj X;have e:Rq.ok ⟨q.fn,q.addr,q.aF,q.code,q.obj⟩=true:=hq;rw[e] at h;exact h
 have PS:=hid pS;have PQ:=hid pQ;have PZ:=hid pZ;have bm:=hid L;have ba:=hid T;have bn:=hid a4;have E:=hid hC;have HR:=hid hR;have HV:=hid hv;have HQ:=hid hq;have u0:¬x<0:=by omega
 have u1:¬65535<x:=by omega
 have HX:Hid (0≤x∧x≤65535):=⟨x0,x1⟩
 clear L T a4 hC pS pQ pZ hR hv x0 x1 jA;have bQ:=oX hq;clear hq;go_enter Tryz.func18,Tryz.ntmps18;go_upto_region 1 with(fail)
 rw[bm.out,E2.out];go_upto_region 3 with(first
  |(refine wpList_load_row rfl 68 (.tmp 3) rfl w.heap.size rfl 68 C (0,0) _ PS.out Tryz.underlying68 rfl B ?_)
  |(go_at_call 53;(with_reducible refine a2.out.mono ?_);rintro r w2 ⟨rfl,Z⟩;have a6:Keeps (· =f) j w2:=Keeps.af Z)
  |(go_at_call 30;(with_reducible refine(aY.out _).mono ?_);rintro r w3 ⟨rfl,ab⟩;have ak:Keeps (· =f) j w3:=a6.trans (Keeps.af ab) (fun _ _ e=>e)))
 have l:=bt Z ab (Nat.le_refl _);have o:=hid (bt ba.out l (Nat.le_refl _));have a9:w3.heap[f]?=N (O #[U Y 0,U Y 0,J none 0 0,U Y 0,U Y 0,.bool false,U Y 0,J none 0 0] 53):=hpKeep PZ.out l;have a8:w3.heap[w.heap.size]?=N (O C 68):=hpKeep PS.out l;have ao:=hid l;have G:=hid a9;have vY:=hid a8;have OY:j.heap.size≤w3.heap.size:=l.size;have ZO:Hid (f<w3.heap.size∧w.heap.size<w3.heap.size):=by have:=bn.out;have:=EZ.out;show _∧_;omega
 clear l Z ab a9 a8 a6 b6 OY u0 u1 a2 aY;rcases bQ with⟨f1,f2⟩|z|⟨z,wm,bC⟩
 ·-- a table
  obtain⟨k,hk⟩:∃k:Nat,q.fn=(k:Int)+1:=⟨(q.fn-1).toNat,by omega⟩
  have h4:k<4:=by omega
  have s1:IntKind.i64.wrap (q.fn-1)=(k:Int):=(IntWalk.i64_in _ (by omega)).trans (by omega);have cb:(0:Int)≤(k:Int):=Int.natCast_nonneg _;have cc:(k:Int)<4:=by omega
  have t0:∀X,Keeps (· =f) j X→X.cell? ⟨w.heap.size,3+k*3,M⟩=N (.bool (s.ts k).sup):=fun X h=>(fJ s v ov sv (by rw[E.out];exact hpKeeps PS.out h US) h4).1
  have t1:∀X,Keeps (· =f) j X→X.cell? ⟨w.heap.size,3+k*3+1,M⟩=N (v k):=fun X h=>(fJ s v ov sv (by rw[E.out];exact hpKeeps PS.out h US) h4).2.1
  have t2:∀X,Keeps (· =f) j X→X.cell? ⟨w.heap.size,3+k*3+2,M⟩=N (U Y (s.ts k).al):=fun X h=>(fJ s v ov sv (by rw[E.out];exact hpKeeps PS.out h US) h4).2.2
  have kD:Keeps (· =f) j w3.drew:=ak.trans (Keeps.af (F:=fun _=>False) (Below.refl _ _).drew) (fun _ _ e=>e.elim);have Dm:Hid (Calls Tryz.prog 54 #[.agg #[.bool (s.ts k).sup,v k,U Y (s.ts k).al],.agg #[U Y q.fn,U Y q.addr,U Y q.aF,U Y q.code,U Y q.obj],U Y x] w3.drew (br w3.drew rp)):=by
   have h:=LH (s.ts k) (v k) q HQ.out ⟨f1,f2⟩ x HX.out.1 HX.out.2 w3.drew ((HR.out.rg k h4).ah (bt o.out (Below.refl _ _).drew (Nat.le_refl _))) (fun hs=>((HV.out.tb k h4).2 hs).2.1);rw[←I.out,Sl.Br hk h4,iP.Fg];exact h.mono fun _ _ h=>h.rep
  have HK:=hid hk;clear hk;go_upto_region 4 with(fail)
  refine wp_region_held_drew (S:=fun V=>Keeps (· =f) j V) (by kernel_rfl) kD (fun hH=>?_);refine tG 0 27 ?_;refine tG 1 28 ?_;refine tG 2 29 ?_;refine tG 3 30 ?_;refine tG 4 31 ?_;refine tG 5 32 ?_;refine tG 6 33 ?_;refine tG 7 34 ?_;clear hH;refine rdyH 8 rfl (fun K hK=>?_);go_simp;refine Dm.out.mono ?_;rintro r w5 ⟨da,dc,oa,oc,rfl,xg,m⟩;have a7:Keeps (· =f) j w5:=kD.trans (Keeps.af m) (fun _ _ e=>e);refine hK.out _ _ a7 (fun bx=>?_);clear hK K;have SQ:=hpKeep G.out ((Below.refl w3.heap.size w3).drew.trans m);refine rdyH 9 rfl (fun K hK=>?_);refine step_storeW rfl 53 (.tmp 6) (.tmp 35) rfl f 0 _ 53 #[U Y rp.fn,U Y rp.ar,J da rp.data.length dc,U Y rp.code,U Y rp.level,.bool rp.more,U Y rp.next,J oa rp.ag.length oc] rfl rfl SQ (by simp) info8 rfl ?_;intro D A t ad;have Hv:Keeps (· =f) j D:=a7.trans t (fun _ _ e=>e);refine hK.out _ _ Hv (fun bA=>?_);clear hK K bA bx t0 t1 t2 q0 q1 q2 q3 q4;refine wpAnyH_done (by kernel_rfl) ?_ _;have R:D.heap[f]?=N (O #[U Y rp.fn,U Y rp.ar,J da rp.data.length dc,U Y rp.code,U Y rp.level,.bool rp.more,U Y rp.next,J oa rp.ag.length oc] 53):=A;clear A;go_wp2;refine bodyPost_ret (results_cell_row rfl _ _ (f) 53 _ (0,0) _ rfl R Tryz.underlying53 rfl info8) rfl ?_;exact br.stored (w5:=w3.drew) xg m (bt o.out (Below.refl _ _).drew (Nat.le_refl _)) (by have:=EZ.out;omega) (by have:=ZO.out;show f<w3.heap.size;omega) t
 ·-- the server's identification
  have YW:w3.cell? ⟨w.heap.size+1,0,M⟩=N (U Y 17):=by rw[q0 w3 ak,z]
  have t17:w3.cell? ⟨w.heap.size,17,M⟩=N (.bool s.hs):=by have:=vY.out;rw[←E.out] at this;exact hpCell this 17
  have t18:w3.cell? ⟨w.heap.size,18,M⟩=N sv:=by have:=vY.out;rw[←E.out] at this;exact hpCell this 18
  have HF:=hid z;have UB:Hid (rp=s.nY):=by show _=_;rw[←I.out];exact Sl.Bx z x
  clear q0 q1 q2 q3 q4 z;have pz:=G.out;cases hs:s.hs with
  |false=>
   rw[hs] at t17;go_wp2_with (refine wpList_storeW rfl 53 (.tmp 6) (.tmp 45) rfl f 0 _ 53 #[U Y 17,U Y 1,J none 0 0,U Y 0,U Y 0,.bool false,U Y 0,J none 0 0] rfl rfl pz (by simp) info8 rfl ?_;intro D A t ad);have R:D.heap[f]?=N (O #[U Y 17,U Y 1,J none 0 0,U Y 0,U Y 0,.bool false,U Y 0,J none 0 0] 53):=A;refine bodyPost_ret (results_cell_row rfl _ _ (f) 53 _ (0,0) _ rfl R Tryz.underlying53 rfl info8) rfl ?_;have e:s.nY=jR 17 1 []:=by unfold Sl.nY;rw[if_neg (by rw[hs];decide)]
   rw[UB.out,e];exact br.stored (rp:=jR 17 1 []) (w5:=w3) (da:=none) (dc:=0) (oa:=none) (oc:=0) (fun W _=>⟨Bs.nil W,cY.nil W,(by show (0:Int)≤_;decide),(by show _≤(0:Int);decide)⟩) (Below.refl _ _) o.out (by have:=EZ.out;omega) ZO.out.1 t
  |true=>
   rw[hs] at t17;obtain⟨sa,sc,rfl,-⟩:=id HR.out.sd;have aX:Hid (Bs w3 (J sa s.sd.length sc) s.sd):=HR.out.sd.ah o.out;have b5:=HV.out.sl;obtain⟨iU,bZ,b7,b8,ca⟩:=info_parts fS;obtain⟨sn,rK⟩:=gE s.sd.length;have nF:=hid rK;rw[rK] at t18 aX b5;clear rK;go_wp2_with (first
    |(at_builtin;refine Jo rfl (.const (J none 0 0)) (.tmp 47) 50 rfl w3.heap.size 5 iU Tryz.underlying50 bZ b7 b8 ca (J none 0 0) [] rfl (World.ownsRow_nil _ _ _ _) (J sa sn sc) s.sd rfl aX.out (by have:=nF.out;simp only[List.length_nil];omega) (Nat.le_refl _) ?_;intro v5 w5 u a3 b4;simp only[List.length_nil,Nat.zero_add,List.nil_append] at u;obtain⟨a5,c5,rfl⟩:=own_slice u;have m:Below w3.heap.size w3 w5:=(Below.refl _ _).grown a3 (Nat.le_refl _) (fun k hk=>nomatch hk);have NH:=hpKeep pz m)
    |(refine wpList_storeW rfl 53 (.tmp 6) (.tmp 49) rfl f 0 _ 53 #[U Y 17,U Y 0,J a5 s.sd.length c5,U Y 0,U Y 0,.bool false,U Y 0,J none 0 0] rfl rfl NH (by simp) info8 rfl ?_;intro D A t ad))
   have R:D.heap[f]?=N (O #[U Y 17,U Y 0,J a5 s.sd.length c5,U Y 0,U Y 0,.bool false,U Y 0,J none 0 0] 53):=A;refine bodyPost_ret (results_cell_row rfl _ _ (f) 53 _ (0,0) _ rfl R Tryz.underlying53 rfl info8) rfl ?_;rw[UB.out];exact BI (w3:=w3) hs u m o.out (by have:=EZ.out;omega) ZO.out.1 t
 ·-- the device's identification
  have YW:w3.cell? ⟨w.heap.size+1,0,M⟩=N (U Y 43):=by rw[q0 w3 ak,z]
  have pq:=hpKeep PQ.out ao.out;have ps:=vY.out;have pz:=G.out;have HF:=hid z;have bX:(Tryz.prog.info? 45).map (·.size)=N 5:=by kernel_rfl
  clear q0 q1 q2 q3 q4;have bc:Hid (Calls Tryz.prog 55 #[.agg C,.agg #[U Y q.fn,U Y q.addr,U Y q.aF,U Y q.code,U Y q.obj]] w3 (br w3 rp)):=by
   rw[←I.out,Sl.AQ z,z];by_cases h0:s.lv=0
   ·have h:=YY s v ov sv q.addr q.aF q.code q.obj w3 (HR.out.ah o.out) h0
    rw[E.out] at h;exact h.mono fun _ _ h=>oJ HV.out.lv (.inl ⟨h0,h⟩)
   ·have hl:=HV.out.lv
    have qQ:0<s.lv:=by omega
    obtain⟨c,hc⟩:∃c:Nat,q.code=(c:Int):=⟨q.code.toNat,by omega⟩
    have h:=TJ s v ov sv q.addr q.aF q.obj c (by omega) (by omega) w3 (HR.out.ah o.out) qQ (HV.out.on qQ).1 (fun y hy=>by obtain⟨i,hi⟩:=List.getElem?_of_mem hy;have:=HV.out.vl qQ i y hi;omega);rw[E.out] at h;rw[hc];refine h.mono fun _ _ h=>oJ hl (.inr ⟨h0,?_⟩)
    rw[hc];exact h
  clear z wm bC;go_wp2_with (first
   |(refine wpList_load_row rfl 68 (.tmp 3) rfl w.heap.size rfl 68 C (0,0) _ ps Tryz.underlying68 rfl B ?_)
   |(refine wpList_load_row rfl 45 (.tmp 4) rfl (w.heap.size+1) rfl 45 #[U Y q.fn,U Y q.addr,U Y q.aF,U Y q.code,U Y q.obj] (0,0) _ pq Tryz.underlying45 rfl bX ?_)
   |(go_at_call 55;(with_reducible refine bc.out.mono ?_);rintro r w5 ⟨da,dc,oa,oc,rfl,xg,m⟩;have NH:=hpKeep pz m)
   |(refine wpList_storeW rfl 53 (.tmp 6) (.tmp 41) rfl f 0 _ 53 #[U Y rp.fn,U Y rp.ar,J da rp.data.length dc,U Y rp.code,U Y rp.level,.bool rp.more,U Y rp.next,J oa rp.ag.length oc] rfl rfl NH (by simp) info8 rfl ?_;intro D A t ad))
  have R:D.heap[f]?=N (O #[U Y rp.fn,U Y rp.ar,J da rp.data.length dc,U Y rp.code,U Y rp.level,.bool rp.more,U Y rp.next,J oa rp.ag.length oc] 53):=A;refine bodyPost_ret (results_cell_row rfl _ _ (f) 53 _ (0,0) _ rfl R Tryz.underlying53 rfl info8) rfl ?_;exact br.stored xg m o.out (by have:=EZ.out;omega) ZO.out.1 t
theorem Ic (h:cU P w g sv av lp s):Calls Tryz.prog 20 #[.pointer (N ⟨g,0,M⟩)] w fun r e=>r=.returned (U Y (s.aA.length:Int))∧w=e:=by
 obtain⟨i,f,cs,h⟩:=h;obtain⟨c,d,rfl⟩:=own_slice h.sn;have c4:w.cell? ⟨g,4,M⟩=N (J c s.aA.length d):=hpCell h.at_ 4;obtain⟨n,a⟩:=gE s.aA.length;rw[a] at c4 ⊢;clear h a;go_enter Tryz.func20,Tryz.ntmps20;go_wp2;go_ret;exact⟨rfl,rfl⟩
theorem Pn (h:cU P w g sv av lp s):Calls Tryz.prog 34 #[.pointer (N ⟨g,0,M⟩)] w fun r e=>r=.returned (U Y (s.pend.length:Int))∧w=e:=by
 obtain⟨i,f,cs,h⟩:=h;obtain⟨c,d,rfl,-⟩:=h.pn.len;have c4:w.cell? ⟨g,5,M⟩=N (J c s.pend.length d):=hpCell h.at_ 5;obtain⟨n,a⟩:=gE s.pend.length;rw[a] at c4 ⊢;clear h a;go_enter Tryz.func34,Tryz.ntmps34;go_wp2;go_ret;exact⟨rfl,rfl⟩
def YZ (bd:Int):Sl:=⟨bd,0,7,fun k=>if k=2 then ⟨true,[(10,10)],5⟩ else ⟨false,[],0⟩,0,[],true,[9,255]⟩
def Wj (bd:Int) (p q:Nat):Array Value:=#[U Y bd,U Y 0,U Y 7,.bool false,J none 0 0,U Y 0,.bool false,J none 0 0,U Y 0,.bool true,J (N ⟨q,0,M⟩) 1 1,U Y 5,.bool false,J none 0 0,U Y 0,U Y 0,J none 0 0,.bool true,J (N ⟨p,0,M⟩) 2 2]
theorem YB:(Tryz.prog.info? 65).map (·.size)=N 3:=by kernel_rfl
structure xaO (w W:World) (p q:Nat):Prop where
 P:W.heap[p]?=N (O #[U .u8 9,U .u8 255] 5)
 Q:W.heap[q]?=N (O #[U Y 10,U Y 10] 24)
 b:Below w.heap.size w W
 lp:w.heap.size≤p
 lq:w.heap.size≤q
theorem xaO.slr {p q:Nat} (h:xaO w W p q) (r:ay w.heap.size W X) (bd:Int) (D:bT bd):nO X (YZ bd) (fun k=>if k=2 then J (N ⟨q,0,M⟩) 1 1 else J none 0 0) (J none 0 0) (J (N ⟨p,0,M⟩) 2 2):=by
 have B:X.heap[p]?=N (O #[U .u8 9,U .u8 255] 5):=by rw[r.block p h.lp (hpLt h.P)];exact h.P
 have C:X.heap[q]?=N (O #[U Y 10,U Y 10] 24):=by rw[r.block q h.lq (hpLt h.Q)];exact h.Q
 have n:bT 0:=by unfold bT;omega
 have w5:bT 5:=by unfold bT;omega
 have E:bT 7:=by unfold bT;omega
 have a:bT 10:=by unfold bT;omega
 refine⟨fun k A=>?_,cY.nil X,?_,fun k A=>?_,E,n,D,n⟩
 ·by_cases e:k=2
  ·subst e
   refine⟨some ⟨q,0,M⟩,1,rfl,Nat.le_refl 1,(by unfold maxLen;decide),(fun e=>by cases e),fun _=>⟨q,0,rfl,fun i x t=>?_⟩⟩;have hi:i=0:=by
    have y:=(List.getElem?_eq_some_iff.1 t).1;have z:i<1:=y;omega
   subst hi;have m:x=(10,10):=by
    have d:some ((10,10):Int×Int)=N x:=t;injection d with d
    exact d.symm
   subst m;refine⟨[U Y 10,U Y 10],rfl,⟨rfl,a,a⟩,fun j u f=>?_⟩;rw[hpCell C];rcases j with _|_|j
   ·exact f
   ·exact f
   ·cases f
  ·have v:((YZ bd).ts k).rd=[]:=by unfold YZ;dsimp only;rw[if_neg e]
   rw[v];rw[if_neg e];exact gY.nil X
 ·refine Bs.mk (b:=p) (o:=0) (c:=2) (l:=[9,255]) (Nat.le_refl 2) (by unfold maxLen;decide) (fun i hi=>?_)
  rw[hpCell B];have z:i<2:=hi;rcases (show i=0∨i=1 by omega) with rfl|rfl<;>rfl
 ·show bT (if k=2 then (⟨true,[(10,10)],5⟩:iP) else ⟨false,[],0⟩).al
  split
  ·exact w5
  ·exact n
def Wl (w:World) (r:Ending) (w':World):Prop:=∃p q,r=.returned (.agg (Wj 9600 p q))∧xaO w w' p q
theorem Y1 (w:World):Calls Tryz.prog 50 #[] w (Wl w):=by
 obtain⟨c,u⟩:∃W,w.alloc (O #[U Y 0,U Y 0,U Y 0,.bool false,J none 0 0,U Y 0,.bool false,J none 0 0,U Y 0,.bool false,J none 0 0,U Y 0,.bool false,J none 0 0,U Y 0,U Y 0,J none 0 0,.bool false,J none 0 0] 68)=W:=⟨_,rfl⟩
 have A:Below w.heap.size w c:=by rw[←u];exact bal' w _
 have I:c.heap.size=w.heap.size+1:=by rw[←u];simp
 have pZ:c.heap[w.heap.size]?=N (O #[U Y 0,U Y 0,U Y 0,.bool false,J none 0 0,U Y 0,.bool false,J none 0 0,U Y 0,.bool false,J none 0 0,U Y 0,.bool false,J none 0 0,U Y 0,U Y 0,J none 0 0,.bool false,J none 0 0] 68):=by rw[←u];exact hpNew w _
 have ak:=hid u;have R:=hid A;have i:=hid I;have T:=hid pZ;clear u A I pZ;go_enter Tryz.func50,Tryz.ntmps50;go_upto_region 1 with(fail)
 rw[ak.out];go_upto_region 2 with(refine wpList_storeW rfl 68 (.tmp 1) (.tmp 4) rfl (c.heap.size+1) 0 _ 68 #[U Y 9600,U Y 0,U Y 7,.bool false,J none 0 0,U Y 0,.bool false,J none 0 0,U Y 0,.bool false,J none 0 0,U Y 0,.bool false,J none 0 0,U Y 0,U Y 0,J none 0 0,.bool true,J (N ⟨c.heap.size,0,M⟩) 2 2] rfl rfl (by have h:=hpNew (c.alloc (O #[U .u8 9,U .u8 255] 5)) (O #[U Y 0,U Y 0,U Y 0,.bool false,J none 0 0,U Y 0,.bool false,J none 0 0,U Y 0,.bool false,J none 0 0,U Y 0,.bool false,J none 0 0,U Y 0,U Y 0,J none 0 0,.bool false,J none 0 0] 68);simpa using h) (by simp) dX rfl ?_;intro k K a aY)
 dsimp only[Act.put];obtain⟨p,hp⟩:=gE c.heap.size;rw[hp] at K a ⊢;obtain⟨sb,K0⟩:∃n,p+1=n:=⟨_,rfl⟩
 rw[K0] at K a ⊢;have l:k.heap[sb]?=N (O #[U Y 9600,U Y 0,U Y 7,.bool false,J none 0 0,U Y 0,.bool false,J none 0 0,U Y 0,.bool false,J none 0 0,U Y 0,.bool false,J none 0 0,U Y 0,U Y 0,J none 0 0,.bool true,J (N ⟨p,0,M⟩) 2 2] 68):=K;have L:Below c.heap.size c ((c.alloc (O #[U .u8 9,U .u8 255] 5)).alloc (O #[U Y 0,U Y 0,U Y 0,.bool false,J none 0 0,U Y 0,.bool false,J none 0 0,U Y 0,.bool false,J none 0 0,U Y 0,.bool false,J none 0 0,U Y 0,U Y 0,J none 0 0,.bool false,J none 0 0] 68)):=bta (bal' c _) (Nat.le_refl _) _;have v:k.heap[p]?=N (O #[U .u8 9,U .u8 255] 5):=hpKeeps (by rw[←hp];exact hpKeep (hpNew c _) (bal' _ _)) a (fun e=>by have o:p=sb:=e;omega);have y:k.heap[w.heap.size]?=N (O #[U Y 0,U Y 0,U Y 0,.bool false,J none 0 0,U Y 0,.bool false,J none 0 0,U Y 0,.bool false,J none 0 0,U Y 0,.bool false,J none 0 0,U Y 0,U Y 0,J none 0 0,.bool false,J none 0 0] 68):=hpKeeps (hpKeep T.out L) a (fun e=>by have o:w.heap.size=sb:=e;have:=i.out;omega);have B:Below w.heap.size w k:=(bt R.out L (Nat.le_refl _)).trans (a.below (by have:=L.size;have:=i.out;omega) (fun j hj e=>by have:=i.out;omega));have od:=hid B;have f:Hid (w.heap.size<p∧p<sb):=by have:=i.out;show _∧_;omega
 have G4:=hid v;have ab:=hid y;have ad:=hid l;have F:(k.alloc (O #[U Y 10,U Y 10] 24)).heap[sb]?=N (O #[U Y 9600,U Y 0,U Y 7,.bool false,J none 0 0,U Y 0,.bool false,J none 0 0,U Y 0,.bool false,J none 0 0,U Y 0,.bool false,J none 0 0,U Y 0,U Y 0,J none 0 0,.bool true,J (N ⟨p,0,M⟩) 2 2] 68):=hpKeep l (bal' _ _);clear K a aY hp K0 l L v y B;go_upto_region 3 with(refine wpList_storeW rfl 65 (.tmp 9) (.tmp 7) rfl sb 9 _ 68 #[.bool true,J (N ⟨k.heap.size,0,M⟩) 1 1,U Y 5] rfl rfl F (by simp) YB rfl ?_;intro w3 g3 d OY)
 dsimp only[Act.put];obtain⟨q,hq⟩:=gE k.heap.size;rw[hq] at g3 ⊢;have z:w3.heap[sb]?=N (O (Wj 9600 p q) 68):=g3;have G:w.heap.size≤q∧sb<q:=by have:=od.out.size;have:=hpLt ad.out;omega
 have x:w3.heap[p]?=N (O #[U .u8 9,U .u8 255] 5):=hpKeeps (hpKeep G4.out (bal' _ _)) d (fun e=>by have o:p=sb:=e;have:=f.out;omega);have Xf:w3.heap[q]?=N (O #[U Y 10,U Y 10] 24):=hpKeeps (by rw[←hq];exact hpNew k _) d (fun e=>by have o:q=sb:=e;omega);have ao:w3.heap[w.heap.size]?=N (O #[U Y 0,U Y 0,U Y 0,.bool false,J none 0 0,U Y 0,.bool false,J none 0 0,U Y 0,.bool false,J none 0 0,U Y 0,.bool false,J none 0 0,U Y 0,U Y 0,J none 0 0,.bool false,J none 0 0] 68):=hpKeeps (hpKeep ab.out (bal' _ _)) d (fun e=>by have o:w.heap.size=sb:=e;have:=f.out;omega);have D:Below w.heap.size w w3:=(bta od.out (Nat.le_refl _) _).trans (d.below (by simp;have:=od.out.size;omega) (fun j hj e=>by have:=f.out;omega));obtain⟨C,r⟩:=gE (Wj 9600 p q);rw[r] at z;have E:C.size=19:=by rw[←r];rfl
 have hi:(Tryz.prog.info? 68).map (·.size)=N C.size:=by rw[←r];exact dX
 have aX:C.toList.all (·.oneCell')=true:=by rw[←r];rfl
 have t:=hid D;have S:=hid x;have V:=hid Xf;have Uo:=hid r;have Z:=hid G;clear g3 d OY hq F r D x Xf G;go_wp2_with (first
  |(refine wpList_load_row rfl 68 (.tmp 1) rfl sb rfl 68 C (0,0) _ z Tryz.underlying68 rfl hi ?_)
  |(refine wpList_storeW rfl 68 (.tmp 0) (.tmp 10) rfl w.heap.size 0 _ 68 C rfl rfl ao (by simp [E]) hi aX ?_;intro w8 g8 m a2))
 have g9:w8.heap[w.heap.size]?=N (O C 68):=by
  rw[g8,List.drop_eq_nil_of_le (by simp [E])];simp
 refine bodyPost_ret (results_cell_row rfl _ _ w.heap.size 68 C (0,0) _ rfl g9 Tryz.underlying68 rfl hi) rfl ?_;obtain⟨l1,l2⟩:=f.out;obtain⟨l3,l4⟩:=Z.out;refine⟨p,q,by rw[Uo.out],⟨hpKeeps S.out m (fun e=>by have o:p=w.heap.size:=e;omega),hpKeeps V.out m (fun e=>by have o:q=w.heap.size:=e;omega),t.out.trans (m.below t.out.size (fun j hj e=>by omega)),by omega,l3⟩⟩
theorem TZ {s:Sl} {a:Nat→Value} (l:nO X s a ov sv) (h:X.heap[b]?=N (O (SlC s a ov sv) 68)):dm X (J (N ⟨b,0,M⟩) 1 1) [s]:=by
 refine⟨some ⟨b,0,M⟩,1,rfl,Nat.le_refl 1,(by unfold maxLen;decide),(fun e=>by cases e),fun _=>⟨b,0,rfl,fun i x f=>?_⟩⟩;have hi:i=0:=by
  have k:=(List.getElem?_eq_some_iff.1 f).1;have n:i<1:=k;omega
 subst hi;have d:x=s:=by
  have c:some s=N x:=f;injection c with c
  exact c.symm
 subst d;refine⟨(SlC x a ov sv).toList,rfl,⟨a,ov,sv,rfl,l⟩,fun j u m=>?_⟩;rw[hpCell h];simpa using m
theorem Ts {a e d k:Nat} {c:Cf} {f:Fx} {y:Ms} {s:Lk} (h:nV a e d k P PL Q c sv f y s w):Calls Tryz.prog 28 #[.pointer (N ⟨a,0,M⟩)] w fun r i=>r=.returned (U Y y.now)∧w=i:=by
 have j:w.cell? ⟨a,19,M⟩=N (U Y y.now):=hpCell h.at_ 19;clear h;go_enter Tryz.func28,Tryz.ntmps28;go_wp2;go_ret;exact⟨rfl,rfl⟩
theorem nj.step {k i q o:Nat} {P:Nat→Prop} {c:Cf} {sv:Value} {f:Fx} {y0 y:Ms} {W0 W a:World} (p:nj k i P c sv f y0 q W0) (l:Keeps P W0 W) (h:nj k i (ax (ax P W0 W) W a) c sv f y o a) (d:Keeps (ax P W0 W) W a):nj k i (ax P W0 a) c sv f y o a∧Keeps P W0 a:=by
 have n:Keeps P W0 a:=l.trans d (fun j m e=>by
  rcases e with e|e
  ·exact e
  ·omega)
 exact⟨p.base h n (fun j m=>m.step l.size d.size),n⟩
