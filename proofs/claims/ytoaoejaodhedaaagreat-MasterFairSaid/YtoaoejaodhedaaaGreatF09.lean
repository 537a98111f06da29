import Derived.Test.YtoaoejaodhedaaaGreatF08
namespace Go.Proofs.YtoaoejaodhedaaaGreat
open Go.RowKit
open Value renaming slice→J,int→U
open Option renaming none→M,some→N
open IntKind renaming i64→Y
open Obj renaming cells→K
set_option maxHeartbeats 12800000
set_option maxRecDepth 100000
theorem Dm {P:Program} {fn:Func} {p u z:Tmp} {ty:TypeId} (h:fn.results=#[.cell p ty,.tmp u,.tmp z]) (tmps:Array Value) (w:World) (g:Nat) (t:TypeId) (cs:Array Value) (fr:Nat×Nat) (d:TypeDesc)
  (j:tmps.getD p undef=.pointer (N ⟨g,0,M⟩)) (i:w.heap[g]?=N (K cs t fr))
  (hu:P.underlying ty=N d) (f:(match d with|.struct _|.array _ _=>true|_=>false)=true) (hi:(P.info? ty).map (·.size)=N cs.size):
  (results fn tmps).run P w=.ok (.tuple #[.agg cs,tmps.getD u undef,tmps.getD z undef]) w:=by
 have e:(results fn tmps).run P w=((asAddr (tmps.getD p undef)).run P w).andThen fun a b=>((loadVar ty a).run P b).andThen fun v c=>.ok (.tuple #[v,tmps.getD u undef,tmps.getD z undef]) c:=by
  simp only[results,h];simp [Sem.run_bind,Result.andThen]
 rw[e,j];simp [asAddr,run_loadVar_row w g t ty cs fr d i hu f hi]
def Va (gm gl:Nat) (P:Nat→Prop) (c:Cf) (sv:Value) (f:Fx) (i:Nat) (Dp:Nat→Du→Prop) (w:World) (r:Ending) (w':World):Prop:=
 ∃(m:Nat) (d:Du) (da:Option Addr) (dc:Nat) (oa:Option Addr) (oc:Nat),Dp m d∧r=.returned (.tuple #[.agg #[U Y d.x.shown.verdict,U Y d.x.shown.ae.fn,U Y d.x.shown.ae.ar,J da d.x.shown.ae.data.length dc,U Y d.x.shown.ae.code,U Y d.x.shown.ae.level,.bool d.x.shown.ae.more,U Y d.x.shown.ae.next,J oa d.x.shown.ae.ag.length oc],U Y (m:Int),.bool true])∧(∀X,ay w.heap.size w' X→dG X d.x.shown.ae da dc oa oc)∧nj gm gl (ax P w w') c sv f (QQ d i) 1000000000 w'∧Keeps P w w'
theorem OS {B T kk:Nat} {P:Nat→Prop} {c:Cf} {sv:Value} {f:Fx} {y:Ms} {w:World} (h:nj B T P c sv f y kk w) (hz:(y.b&&(y.x.kind !=3))=false) (i:Nat) (un:Int) (q:Rq) (hu:1≤un∧un≤247) (hq:q.ok=true) (Gz:0≤y.now) (Aj:y.now≤600000000000000000)
  {sc:Sc} {Wp Dp:Nat→Du→Prop} (hA:Vq sc Wp Dp) (hx:c.bj[i]?=N (sc.bd,sc.pa)) (hf:f.l=sc.l∧f.aC=sc.aC∧f.lp=sc.lp) (h0:Wp 0 ⟨y.n,(Tx.new sc.bd sc.pa c.re c.ti c.de).begun un q y.now⟩) (re:Int) (Ec:sc.re=re) (a4:re≤5):
  Calls Tryz.prog 16 #[.pointer (N ⟨B,0,M⟩),U Y re,U Y (i:Int),U Y un,.agg #[U Y q.fn,U Y q.addr,U Y q.aF,U Y q.code,U Y q.obj]] w (Va B T P c sv f i Dp w):=by
 obtain⟨a,C⟩:∃W,(w.alloc (K #[U Y q.fn,U Y q.addr,U Y q.aF,U Y q.code,U Y q.obj] 45)).alloc (K #[U Y 0,U Y 0,U Y 0,J none 0 0,U Y 0,U Y 0,.bool false,U Y 0,J none 0 0] 55)=W:=⟨_,rfl⟩
 have s:Below w.heap.size w a:=by rw[←C];exact bta (bal' w _) (Nat.le_refl _) _
 have a3:a.heap.size=w.heap.size+2:=by rw[←C];simp
 have pQ:a.heap[w.heap.size]?=N (K #[U Y q.fn,U Y q.addr,U Y q.aF,U Y q.code,U Y q.obj] 45):=by rw[←C];exact hpKeep (hpNew w _) (bal' _ _)
 have pO:a.heap[w.heap.size+1]?=N (K #[U Y 0,U Y 0,U Y 0,J none 0 0,U Y 0,U Y 0,.bool false,U Y 0,J none 0 0] 55):=by
  rw[←C];have h:=hpNew (w.alloc (K #[U Y q.fn,U Y q.addr,U Y q.aF,U Y q.code,U Y q.obj] 45)) (K #[U Y 0,U Y 0,U Y 0,J none 0 0,U Y 0,U Y 0,.bool false,U Y 0,J none 0 0] 55);rw[World.size_alloc] at h;exact h
 have yu:=hid (h.bW s);have E:=hid (IU yu.out hz i sc.bd sc.pa hx un q hu hq Gz Aj);have vY:=hid C;have rK:=hid s;have bm:=hid a3;have HH:=hid h;have n:=hid hA;have bc:=hid hx;have UH:=hid hf;have H0:=hid h0;have ba:=hid Ec;have a8:=hid pO;have g:Hid (∀W,¬ax P a W (w.heap.size+1)):=fun W e=>by
  rcases e with e|e
  ·have:=HH.out.AR _ e;omega
  ·omega
 have z:Hid (0≤re∧re≤5):=⟨by have:=hA.le h0;rw[Ec] at this;omega,a4⟩
 have s1:IntKind.i64.wrap (re+1)=re+1:=IntWalk.i64_in _ (by have:=z.out;omega);clear h hz hu hq Gz Aj hA hx hf h0 Ec a4 C s a3 pO;go_enter Tryz.func16,Tryz.ntmps16;go_upto_region 1 with(fail)
 rw[vY.out];go_upto_region 3 with(first
  |(refine wpList_load_row rfl 45 (.tmp 9) rfl w.heap.size rfl 45 #[U Y q.fn,U Y q.addr,U Y q.aF,U Y q.code,U Y q.obj] (0,0) _ pQ Tryz.underlying45 rfl infoRq5 ?_)
  |(go_at_call 26;(with_reducible refine E.out.mono ?_);rintro r w3 ⟨rfl,Z,u⟩))
 have UL:Hid (Keeps P a w3):=u;have Q:Hid (nj B T (ax P a w3) c sv f (QQ ⟨y.n,(Tx.new sc.bd sc.pa c.re c.ti c.de).begun un q y.now⟩ i) 1 w3):=Z;have G:=hid (hpKeeps a8.out u (fun e=>g.out w3 (.inl e)));clear Z u pQ E;go_wp2;go_loopw [13] (fun iv wr=>∃m:Nat,m≤5∧iv=U Y ((m:Int)+1)∧(m:Int)≤re∧Hid (∃d kk,nj B T (ax P a wr) c sv f (QQ d i) kk wr∧kk≤1+m*100000001∧Wp m d)∧Hid (Keeps P a wr∧wr.heap[w.heap.size+1]?=N (K #[U Y 0,U Y 0,U Y 0,J none 0 0,U Y 0,U Y 0,.bool false,U Y 0,J none 0 0] 55))) (fun iv _=>8- (intOf iv).toNat)
 case atStart=>exact⟨0,by decide,rfl,z.out.1,⟨_,1,Q.out,by decide,H0.out⟩,UL.out,G.out⟩
 case round=>
  clear H0 Q UL G;obtain⟨m,bo,rfl,bX,aY,ao⟩:=hrel;obtain⟨d,k1,ak,qW,p⟩:=aY.out;have bQ:(0:Int)≤(m:Int):=Int.natCast_nonneg _;have g1:(m:Int)+1≤re+1:=by omega
  have bK:decide ((m:Int)+1≤re+1)=true:=decide_eq_true g1;have s2:IntKind.i64.wrap ((m:Int)+1+1)=(m:Int)+1+1:=IntWalk.i64_in _ (by omega);have R:=hid (Ny n.out ak p bc.out UH.out (by omega));obtain⟨V,hV⟩:∃V,decide ((sc.go d).x.ph=5)=V:=⟨_,rfl⟩
  obtain⟨O,hO⟩:=gE ((sc.go d).x.shown);have HV:=hid hV;have HO:=hid hO;have o:=hid p;have Ya:=hid qW;have Tt:=hid bo;clear aY ak qW p hV hO;go_upto_region 8 with(go_at_call 27;(with_reducible refine R.out.mono ?_);rintro r w4 ⟨rfl,ab,v⟩)
  have TG:=hid (nj.step yu.out ao.out.1 ab v);have I:=hid (hpKeeps ao.out.2 v (g.out _));have Cw:=hid (Fh n.out TG.out.1 o.out (by have:=Ya.out;have:=Tt.out;omega) V HV.out);clear ab v R;go_upto_region 9 with(first
   |(go_at_call 23;(with_reducible refine Cw.out.mono ?_);rintro r w5 ⟨da,dc,oa,oc,rfl,av,ad,l⟩;rw[HO.out])
   |(refine wpList_storeW rfl 55 (.tmp 14) (.tmp 36) rfl w5.heap.size 0 _ 55 #[U Y O.verdict,U Y O.ae.fn,U Y O.ae.ar,J da O.ae.data.length dc,U Y O.ae.code,U Y O.ae.level,.bool O.ae.more,U Y O.ae.next,J oa O.ae.ag.length oc] rfl rfl (hpNew w5 _) (by simp) rY rfl ?_;intro D g6 xU bx))
  obtain⟨p6,b⟩:=cJ (by rfl) g6 xU;have TJ:=hid (nj.step yu.out TG.out.2 ad l);have A:Hid (nj B T (ax P a D) c sv f (QQ (sc.go d) i) (k1+1+100000000) D∧Keeps P a D):=by
   have hk:Keeps P a D:=TJ.out.2.trans (Keeps.af (F:=fun _=>False) b) (fun _ _ e=>e.elim);exact⟨yu.out.base (TJ.out.1.bW b) hk (fun j t=>by
    rcases t with e|e
    ·exact .inl e
    ·exact .inr ⟨e.1,by have:=b.size;omega⟩),hk⟩
  have L:=hid (hpKeep (hpKeeps I.out l (g.out _)) b);have a9:=hid av;have HZ:Hid (a.heap.size≤w4.heap.size∧w4.heap.size≤w5.heap.size):=⟨TG.out.2.size,l.size⟩
  have a7:=hid p6;have a5:=hid b;clear g6 xU bx ad l av p6 b Cw I;cases V with
  |false=>
   have S:Hid (Wp (m+1) (sc.go d)):=by
    rcases n.out.next o.out with h|h
    ·exact h
    ·have h5:=n.out.ph5 h
     have:=HV.out;rw[decide_eq_true h5] at this;cases this
   have hle:=n.out.le S.out;rw[ba.out] at hle;go_wp2;go_roundw
   case rel=>exact⟨m+1,by have:=z.out;omega,by go_num,by omega,⟨_,_,A.out.1,by have:=Ya.out;omega,S.out⟩,A.out.2,L.out⟩
   case measure=>simp [intOf];omega
  |true=>
   have a6:Hid (Dp (m+1) (sc.go d)):=by
    rcases n.out.next o.out with h|h
    ·have h5:=n.out.zl h
     have:=HV.out;rw[decide_eq_false (by rw[h5];decide)] at this;cases this
    ·exact h
   have p6:=a7.out;have o6:=L.out;go_wp2_with (first
    |(refine wpList_load_row rfl 55 (.tmp 14) rfl w5.heap.size rfl 55 #[U Y O.verdict,U Y O.ae.fn,U Y O.ae.ar,J da O.ae.data.length dc,U Y O.ae.code,U Y O.ae.level,.bool O.ae.more,U Y O.ae.next,J oa O.ae.ag.length oc] (0,0) _ p6 Tryz.underlying55 rfl rY ?_)
    |(refine wpList_storeW rfl 55 (.tmp 10) (.tmp 39) rfl (w.heap.size+1) 0 _ 55 #[U Y O.verdict,U Y O.ae.fn,U Y O.ae.ar,J da O.ae.data.length dc,U Y O.ae.code,U Y O.ae.level,.bool O.ae.more,U Y O.ae.next,J oa O.ae.ag.length oc] rfl rfl o6 (by simp) rY rfl ?_;intro w7 g7 x bA))
   have bn:w7.heap[w.heap.size+1]?=N (K #[U Y O.verdict,U Y O.ae.fn,U Y O.ae.ar,J da O.ae.data.length dc,U Y O.ae.code,U Y O.ae.level,.bool O.ae.more,U Y O.ae.next,J oa O.ae.ag.length oc] 55):=g7;refine bodyPost_ret (Dm rfl _ _ (w.heap.size+1) 55 _ (0,0) _ rfl bn Tryz.underlying55 rfl rY) rfl ?_;have bC:Keeps P w w7:=((Keeps.af (F:=P) rK.out).trans A.out.2 (fun _ _ e=>e)).trans x (fun j t e=>by have e':j=w.heap.size+1:=e;omega);have qK:=A.out.2.size;have bZ:=bm.out;refine⟨m+1,sc.go d,da,dc,oa,oc,a6.out,by rw[HO.out];rfl,fun X hX=>?_,?_,bC⟩
   ·refine a9.out X ?_
    have b4:=HZ.out;have a1:ay w4.heap.size w5 D:=ay.af a5.out;have a2:ay w4.heap.size D w7:=ay.dg x (fun k e=>by have e':k=w.heap.size+1:=e;omega);exact(a1.trans a2).trans (hX.mono (by omega))
   ·have aX:=HH.out.T8 (W0:=a) (wc:=w) (ob:=w.heap.size+1) rK.out.size A.out.1 ((Keeps.af (F:=P) rK.out).trans A.out.2 (fun _ _ e=>e)) (Nat.le_succ _) (g.out _) x bA
    refine(HH.out.wide aX.1 aX.2 (fun j t=>?_) (fun j t=>?_) (fun j t e=>?_)).le (by have:=Ya.out;have:=Tt.out;omega)
    ·rcases t with e|e
     ·exact .inl e
     ·exact .inr ⟨by omega,e.2⟩
    ·rcases t with e|e
     ·have:=HH.out.AR j e
      omega
     ·exact e.2
    ·rcases e with e|e
     ·exact e
     ·omega
theorem OR (c:Cf) (l:List Sl) (s:lg) (sv lv av cv kv:Value) (w:World) (m:DX c l s) (hR:dw w sv c.bj) (hL:dm w lv l) (hA:ke w av s.aC) (hC:dw w cv s.cr):
  Calls Tryz.prog 14 #[.agg (wS c sv lv av s.loop cv kv)] w fun r w'=>∃b k,r=.returned (.tuple #[.pointer (N ⟨b,0,M⟩),.pointer (N ⟨k,0,M⟩),.bool true])∧Idle k b w.heap.size c l s 0 w'∧Below w.heap.size w w':=by
 obtain⟨n,hn⟩:=gE c.bj.length;obtain⟨ln,oP⟩:=gE l.length;obtain⟨an,tR⟩:=gE s.aC.length;obtain⟨E,yC⟩:=gE s.cr.length;obtain⟨lp,S⟩:=gE s.loop;obtain⟨sa,sc,Db,-⟩:=id hR;obtain⟨la,lc,vc⟩:=hL.KH;obtain⟨aa,ac,I,-⟩:=id hA;obtain⟨A,B,O,-⟩:=id hC;rw[hn] at Db;rw[oP] at vc;rw[tR] at I;rw[yC] at O;subst Db vc I O;rw[S];obtain⟨C,Z⟩:=gE (yh c (J sa n sc));have hi:(Tryz.prog.info? 27).map (·.size)=N C.size:=by rw[←Z];exact sj
 obtain⟨D,F⟩:=gE (wS c (J sa n sc) (J la ln lc) (J aa an ac) lp (J A E B) kv);rw[F];obtain⟨t,eC,L,W⟩:=eY w (K D 35);have ab:Hid (∀X,Below t.heap.size t X→∀j u,C.toList[j]?=N u→X.cell? ((⟨w.heap.size,0,M⟩:Addr).add j)=N u):=fun X p j u i=>by
  rw[Addr.add_lit,Nat.zero_add,hpCell (hpKeep W p),←F];exact GU (by rw[Z];exact i)
 have TM:Hid (∀j u,(#[J aa an ac,.bool lp,J A E B]:Array Value).toList[j]?=N u→t.cell? ((⟨w.heap.size,17,M⟩:Addr).add j)=N u):=fun j u i=>by
  rw[Addr.add_lit,hpCell W,←F];rcases j with _|_|_|j
  ·cases i;rfl
  ·cases i;rfl
  ·cases i;rfl
  ·cases i
 have t16:t.cell? ⟨w.heap.size,16,M⟩=N (J la ln lc):=(hpCell W 16).trans (by rw[←F];rfl);have aY:Hid (∀X,Below w.heap.size w X→Calls Tryz.prog 24 #[J la ln lc,.agg #[J aa an ac,.bool lp,J A E B]] X (jx X l lp s.aC)):=fun X p=>by
  have h:=sS l s la ln lc (J aa an ac) (J A E B) X oP (hL.ah p) (hA.ah p) (hC.ah p) m.2.2.2.1 m.2.2.2.2.2;rw[S] at h;exact h
 have aX:Hid (∀X r z,jx X l lp s.aC r z→∃g a c a2 c2,r=.returned (.tuple #[.pointer (N ⟨g,0,M⟩),U Y 0])∧cU (fun j=>j=g) z g (J a l.length c) (J a2 s.aC.length c2) lp Ln.zero∧IA (fun j=>j=g) z a l.length c a2 s.aC.length c2 l s.aC lp∧X.heap.size≤g∧Below X.heap.size X z):=fun X r z h=>
  h.at m.2.2.2.1 m.2.2.2.2.2.2.2.2.2 (fun e=>by
   have h2:=m.2.2.2.2.2.2.1
   rw[S] at h2
   have:¬s.aC.length=0:=fun e2=>h2 ⟨e,e2⟩
   omega)
 have Ze:Hid (∀X g,Below w.heap.size w X→Calls Tryz.prog 25 #[.agg C,.pointer (N ⟨g,0,M⟩),U Y 0] X (FJ c (.pointer (N ⟨g,0,M⟩)) 0 X)):=fun X g p=>by
  rw[←Z];exact CX c m.2.1 _ g 0 (by decide) (by decide) X (hR.ah p)
 have HP:=hid m;have a3:=hid S;have a4:=hid eC;have o:=hid L;clear m hR hL hA hC hn oP tR yC S Z F eC L W;go_enter Tryz.func14,Tryz.ntmps14;go_upto_region 1 with(fail)
 rw[a4.out];go_upto_region 2 with(first
  |(refine aZ rfl 32 (.tmp 12) rfl ⟨w.heap.size,17,M⟩ rfl #[J aa an ac,.bool lp,J A E B] _ TM.out Tryz.underlying32 rfl bu ?_)
  |(go_at_call 24;(with_reducible refine(aY.out _ o.out).mono ?_);rintro r w6 Q;obtain⟨b,a6,c6,a7,c7,rfl,VZ,G,We,d⟩:=aX.out _ _ _ Q))
 have bm:=hid VZ;have ad:=hid G;have z6:=bt o.out d (Nat.le_refl _);have ak:Hid (t.heap.size≤b):=We;have vQ:=hid d;clear Q VZ G We t16;go_upto_region 3 with(first
  |(refine aZ rfl 27 (.tmp 18) rfl ⟨w.heap.size,0,M⟩ rfl C _ (ab.out _ d) Tryz.underlying27 rfl hi ?_)
  |(go_at_call 25;(with_reducible refine(Ze.out _ b z6).mono ?_);rintro r w8 ⟨k,bc,rfl,P,T,R,Yx⟩))
 have y:=hid (nV.start (f:=⟨a6,l.length,c6,a7,s.aC.length,c7,lp,l,s.aC⟩) bm.out ad.out Ln.jE HP.out.2.1 P T R Yx (Tx.new 0 0 0 0 0) (Lk.new 0 0 0 0 0));have ao:Hid (t.heap.size≤k):=by have:=vQ.out.size;show _≤_;omega
 have a8:Hid (nj k b (fun j=>j=b∨j=k) c bc ⟨a6,l.length,c6,a7,s.aC.length,c7,lp,l,s.aC⟩ ⟨Ln.zero,false,Tx.new 0 0 0 0 0,0,0⟩ 0 w8):=⟨0,0,_,_,_,y.out,Nat.le_refl _⟩
 have a5:=hid (Nz a8.out rfl rfl (by decide) (by decide));have x:Hid (Below w.heap.size w w8):=bt z6 Yx (Nat.le_refl _);clear P T R Yx y d z6;go_wp2_with (go_at_call 22;(with_reducible refine a5.out.mono ?_);rintro r w9 ⟨V,rfl,q,bn,a9,ba⟩);have bo:=o.out.size;have e1:=ak.out;have e2:=ao.out;have e3:=x.out.size;refine bodyPost_ret (v:=.tuple #[.pointer (N ⟨b,0,M⟩),.pointer (N ⟨k,0,M⟩),.bool true]) (by simp [results,Tryz.results14,go_sem]) rfl ?_;refine⟨b,k,rfl,⟨_,_,_,_,a9.le (by decide),⟨rfl,rfl,q,q,q,by show V≤_;have h:V≤0+20000000:=bn;omega,Nat.zero_le _⟩,fun j i=>?_,rfl,rfl,a3.out.symm⟩,x.out.trans (ba.below e3 (fun j i e=>by rcases e with e|e<;>omega))⟩;rcases i with(e|e)|e<;>omega
def wK:Sl:={xaF 9600 with pa:=1}
def L9:Cf:=⟨[(9600,1)],1,2,1,1000,0,fun k=>if k=2 then (100,8) else (0,0),1,10000⟩
def q20:Rq:=⟨3,12,2,0,0⟩
def GW:Tx:=(Tx.new 9600 1 1 1000 0).begun 7 q20 0
def xbd:List UInt8:=GW.bytes
def OO:Ln:=Ln.zero.send [wK] [] false 9600 1 xbd 0
def IM:Int:=0+aK 9600 8
def xo:Du:=(Du.mk OO (GW.aA IM)).heard
theorem Z7:(Du.mk OO (GW.aA IM)).heard=xo:=rfl
theorem Ks:xbd.length=8:=by kernel_rfl
theorem Pr:xo.x.ph=5:=by kernel_rfl
theorem Kp:xo.x.out.verdict=1∧xo.x.out.ae.data.length=4:=by
 constructor
 ·kernel_rfl
 ·kernel_rfl
theorem VD:decide (0<xo.x.now)=true:=by kernel_rfl
theorem R0:xo.n.aA.length=1:=by kernel_rfl
theorem Z8:decide ((Du.mk OO (GW.aA IM)).mu≤1000)=true:=by kernel_rfl
theorem xaI:oA L9=0:=by kernel_rfl
