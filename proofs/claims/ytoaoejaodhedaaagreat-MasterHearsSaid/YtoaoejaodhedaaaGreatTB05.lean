import Derived.Test.YtoaoejaodhedaaaGreatTB04
namespace Go.Proofs.YtoaoejaodhedaaaGreat
open Go.RowKit
open Value renaming slice→J,int→U
open Option renaming none→M,some→N
open IntKind renaming i64→Y
open Obj renaming cells→K
set_option maxHeartbeats 12800000
set_option maxRecDepth 100000
theorem Bc {P:Program} {fn:Func} {p u z:Tmp} {ty:TypeId} (h:fn.results=#[.cell p ty,.tmp u,.tmp z]) (tmps:Array Value) (w:World) (g:Nat) (t:TypeId) (cs:Array Value) (fr:Nat×Nat) (d:TypeDesc)
  (j:tmps.getD p undef=.pointer (N ⟨g,0,M⟩)) (i:w.heap[g]?=N (K cs t fr))
  (hu:P.underlying ty=N d) (f:(match d with|.struct _|.array _ _=>true|_=>false)=true) (hi:(P.info? ty).map (·.size)=N cs.size):
  (results fn tmps).run P w=.ok (.tuple #[.agg cs,tmps.getD u undef,tmps.getD z undef]) w:=by
 have e:(results fn tmps).run P w=((asAddr (tmps.getD p undef)).run P w).andThen fun a b=>((loadVar ty a).run P b).andThen fun v c=>.ok (.tuple #[v,tmps.getD u undef,tmps.getD z undef]) c:=by
  simp only[results,h];simp [Sem.run_bind,Result.andThen]
 rw[e,j];simp [asAddr,run_loadVar_row w g t ty cs fr d i hu f hi]
def Q5 (gm gl:Nat) (P:Nat→Prop) (c:Cf) (sv:Value) (f:Fx) (i:Nat) (Dp:Nat→Du→Prop) (w:World) (r:Ending) (w':World):Prop:=
 ∃(m:Nat) (d:Du) (da:Option Addr) (dc:Nat) (oa:Option Addr) (oc:Nat),Dp m d∧r=.returned (.tuple #[.agg #[U Y d.x.shown.verdict,U Y d.x.shown.ae.fn,U Y d.x.shown.ae.ar,J da d.x.shown.ae.data.length dc,U Y d.x.shown.ae.code,U Y d.x.shown.ae.level,.bool d.x.shown.ae.more,U Y d.x.shown.ae.next,J oa d.x.shown.ae.ag.length oc],U Y (m:Int),.bool true])∧(∀X,ay w.heap.size w' X→dG X d.x.shown.ae da dc oa oc)∧nj gm gl (ax P w w') c sv f (QQ d i) 1000000000 w'∧Keeps P w w'
theorem Lw {A S kk:Nat} {P:Nat→Prop} {c:Cf} {sv:Value} {f:Fx} {y:Ms} {w:World} (h:nj A S P c sv f y kk w) (hz:(y.b&&(y.x.kind !=3))=false) (i:Nat) (un:Int) (q:Rq) (hu:1≤un∧un≤247) (hq:q.ok=true) (Eg:0≤y.now) (vj:y.now≤600000000000000000)
  {sc:Sc} {Wp Dp:Nat→Du→Prop} (hA:Vq sc Wp Dp) (hx:c.bj[i]?=N (sc.bd,sc.pa)) (hf:f.l=sc.l∧f.aC=sc.aC∧f.lp=sc.lp) (h0:Wp 0 ⟨y.n,(Tx.new sc.bd sc.pa c.re c.ti c.de).begun un q y.now⟩) (re:Int) (yn:sc.re=re) (aX:re≤5):
  Calls Tryz.prog 16 #[.pointer (N ⟨A,0,M⟩),U Y re,U Y (i:Int),U Y un,.agg #[U Y q.fn,U Y q.addr,U Y q.aF,U Y q.code,U Y q.obj]] w (Q5 A S P c sv f i Dp w):=by
 obtain⟨a,B⟩:∃W,(w.alloc (K #[U Y q.fn,U Y q.addr,U Y q.aF,U Y q.code,U Y q.obj] 45)).alloc (K #[U Y 0,U Y 0,U Y 0,J none 0 0,U Y 0,U Y 0,.bool false,U Y 0,J none 0 0] 55)=W:=⟨_,rfl⟩
 have o:Below w.heap.size w a:=by rw[←B];exact bta (bal' w _) (Nat.le_refl _) _
 have av:a.heap.size=w.heap.size+2:=by rw[←B];simp
 have pQ:a.heap[w.heap.size]?=N (K #[U Y q.fn,U Y q.addr,U Y q.aF,U Y q.code,U Y q.obj] 45):=by rw[←B];exact hpKeep (hpNew w _) (bal' _ _)
 have pO:a.heap[w.heap.size+1]?=N (K #[U Y 0,U Y 0,U Y 0,J none 0 0,U Y 0,U Y 0,.bool false,U Y 0,J none 0 0] 55):=by
  rw[←B];have h:=hpNew (w.alloc (K #[U Y q.fn,U Y q.addr,U Y q.aF,U Y q.code,U Y q.obj] 45)) (K #[U Y 0,U Y 0,U Y 0,J none 0 0,U Y 0,U Y 0,.bool false,U Y 0,J none 0 0] 55);rw[World.size_alloc] at h;exact h
 have vh:=hid (h.bW o);have D:=hid (IU vh.out hz i sc.bd sc.pa hx un q hu hq Eg vj);have tT:=hid B;have od:=hid o;have a8:=hid av;have HH:=hid h;have x:=hid hA;have a7:=hid hx;have Oe:=hid hf;have H0:=hid h0;have V8:=hid yn;have a5:=hid pO;have g:Hid (∀W,¬ax P a W (w.heap.size+1)):=fun W e=>by
  rcases e with e|e
  ·have:=HH.out.AR _ e;omega
  ·omega
 have v:Hid (0≤re∧re≤5):=⟨by have:=hA.le h0;rw[yn] at this;omega,aX⟩
 have s1:IntKind.i64.wrap (re+1)=re+1:=IntWalk.i64_in _ (by have:=v.out;omega);clear h hz hu hq Eg vj hA hx hf h0 yn aX B o av pO;go_enter Tryz.func16,Tryz.ntmps16;go_upto_region 1 with(fail)
 rw[tT.out];go_upto_region 3 with(first
  |(refine wpList_load_row rfl 45 (.tmp 9) rfl w.heap.size rfl 45 #[U Y q.fn,U Y q.addr,U Y q.aF,U Y q.code,U Y q.obj] (0,0) _ pQ Tryz.underlying45 rfl infoRq5 ?_)
  |(go_at_call 26;(with_reducible refine D.out.mono ?_);rintro r w3 ⟨rfl,T,s⟩))
 have Qv:Hid (Keeps P a w3):=s;have L:Hid (nj A S (ax P a w3) c sv f (QQ ⟨y.n,(Tx.new sc.bd sc.pa c.re c.ti c.de).begun un q y.now⟩ i) 1 w3):=T;have E:=hid (hpKeeps a5.out s (fun e=>g.out w3 (.inl e)));clear T s pQ D;go_wp2;go_loopw [13] (fun iv wr=>∃m:Nat,m≤5∧iv=U Y ((m:Int)+1)∧(m:Int)≤re∧Hid (∃d kk,nj A S (ax P a wr) c sv f (QQ d i) kk wr∧kk≤1+m*100000001∧Wp m d)∧Hid (Keeps P a wr∧wr.heap[w.heap.size+1]?=N (K #[U Y 0,U Y 0,U Y 0,J none 0 0,U Y 0,U Y 0,.bool false,U Y 0,J none 0 0] 55))) (fun iv _=>8- (intOf iv).toNat)
 case atStart=>exact⟨0,by decide,rfl,v.out.1,⟨_,1,L.out,by decide,H0.out⟩,Qv.out,E.out⟩
 case round=>
  clear H0 L Qv E;obtain⟨m,ba,rfl,bx,ao,ad⟩:=hrel;obtain⟨d,k1,Z6,nr,n⟩:=ao.out;have bo:(0:Int)≤(m:Int):=Int.natCast_nonneg _;have g1:(m:Int)+1≤re+1:=by omega
  have WY:decide ((m:Int)+1≤re+1)=true:=decide_eq_true g1;have s2:IntKind.i64.wrap ((m:Int)+1+1)=(m:Int)+1+1:=IntWalk.i64_in _ (by omega);have Q:=hid (Ny x.out Z6 n a7.out Oe.out (by omega));obtain⟨V,hV⟩:∃V,decide ((sc.go d).x.ph=5)=V:=⟨_,rfl⟩
  obtain⟨O,hO⟩:=gE ((sc.go d).x.shown);have HV:=hid hV;have HO:=hid hO;have QL:=hid n;have Og:=hid nr;have JY:=hid ba;clear ao Z6 nr n hV hO;go_upto_region 8 with(go_at_call 27;(with_reducible refine Q.out.mono ?_);rintro r w4 ⟨rfl,Z,t⟩)
  have PB:=hid (nj.step vh.out ad.out.1 Z t);have G:=hid (hpKeeps ad.out.2 t (g.out _));have yu:=hid (Fh x.out PB.out.1 QL.out (by have:=Og.out;have:=JY.out;omega) V HV.out);clear Z t Q;go_upto_region 9 with(first
   |(go_at_call 23;(with_reducible refine yu.out.mono ?_);rintro r w5 ⟨da,dc,oa,oc,rfl,xg,ab,l⟩;rw[HO.out])
   |(refine wpList_storeW rfl 55 (.tmp 14) (.tmp 36) rfl w5.heap.size 0 _ 55 #[U Y O.verdict,U Y O.ae.fn,U Y O.ae.ar,J da O.ae.data.length dc,U Y O.ae.code,U Y O.ae.level,.bool O.ae.more,U Y O.ae.next,J oa O.ae.ag.length oc] rfl rfl (hpNew w5 _) (by simp) rY rfl ?_;intro C g6 uX bc))
  obtain⟨p6,b⟩:=cJ (by rfl) g6 uX;have PG:=hid (nj.step vh.out PB.out.2 ab l);have z:Hid (nj A S (ax P a C) c sv f (QQ (sc.go d) i) (k1+1+100000000) C∧Keeps P a C):=by
   have hk:Keeps P a C:=PG.out.2.trans (Keeps.af (F:=fun _=>False) b) (fun _ _ e=>e.elim);exact⟨vh.out.base (PG.out.1.bW b) hk (fun j p=>by
    rcases p with e|e
    ·exact .inl e
    ·exact .inr ⟨e.1,by have:=b.size;omega⟩),hk⟩
  have I:=hid (hpKeep (hpKeeps G.out l (g.out _)) b);have a6:=hid xg;have HZ:Hid (a.heap.size≤w4.heap.size∧w4.heap.size≤w5.heap.size):=⟨PB.out.2.size,l.size⟩
  have a4:=hid p6;have aY:=hid b;clear g6 uX bc ab l xg p6 b yu G;cases V with
  |false=>
   have R:Hid (Wp (m+1) (sc.go d)):=by
    rcases x.out.next QL.out with h|h
    ·exact h
    ·have h5:=x.out.ph5 h
     have:=HV.out;rw[decide_eq_true h5] at this;cases this
   have hle:=x.out.le R.out;rw[V8.out] at hle;go_wp2;go_roundw
   case rel=>exact⟨m+1,by have:=v.out;omega,by go_num,by omega,⟨_,_,z.out.1,by have:=Og.out;omega,R.out⟩,z.out.2,I.out⟩
   case measure=>simp [intOf];omega
  |true=>
   have a3:Hid (Dp (m+1) (sc.go d)):=by
    rcases x.out.next QL.out with h|h
    ·have h5:=x.out.zl h
     have:=HV.out;rw[decide_eq_false (by rw[h5];decide)] at this;cases this
    ·exact h
   have p6:=a4.out;have o6:=I.out;go_wp2_with (first
    |(refine wpList_load_row rfl 55 (.tmp 14) rfl w5.heap.size rfl 55 #[U Y O.verdict,U Y O.ae.fn,U Y O.ae.ar,J da O.ae.data.length dc,U Y O.ae.code,U Y O.ae.level,.bool O.ae.more,U Y O.ae.next,J oa O.ae.ag.length oc] (0,0) _ p6 Tryz.underlying55 rfl rY ?_)
    |(refine wpList_storeW rfl 55 (.tmp 10) (.tmp 39) rfl (w.heap.size+1) 0 _ 55 #[U Y O.verdict,U Y O.ae.fn,U Y O.ae.ar,J da O.ae.data.length dc,U Y O.ae.code,U Y O.ae.level,.bool O.ae.more,U Y O.ae.next,J oa O.ae.ag.length oc] rfl rfl o6 (by simp) rY rfl ?_;intro w7 g7 u bm))
   have a9:w7.heap[w.heap.size+1]?=N (K #[U Y O.verdict,U Y O.ae.fn,U Y O.ae.ar,J da O.ae.data.length dc,U Y O.ae.code,U Y O.ae.level,.bool O.ae.more,U Y O.ae.next,J oa O.ae.ag.length oc] 55):=g7;refine bodyPost_ret (Bc rfl _ _ (w.heap.size+1) 55 _ (0,0) _ rfl a9 Tryz.underlying55 rfl rY) rfl ?_;have bn:Keeps P w w7:=((Keeps.af (F:=P) od.out).trans z.out.2 (fun _ _ e=>e)).trans u (fun j p e=>by have e':j=w.heap.size+1:=e;omega);have nL:=z.out.2.size;have bA:=a8.out;refine⟨m+1,sc.go d,da,dc,oa,oc,a3.out,by rw[HO.out];rfl,fun X hX=>?_,?_,bn⟩
   ·refine a6.out X ?_
    have bC:=HZ.out;have a1:ay w4.heap.size w5 C:=ay.af aY.out;have a2:ay w4.heap.size C w7:=ay.dg u (fun k e=>by have e':k=w.heap.size+1:=e;omega);exact(a1.trans a2).trans (hX.mono (by omega))
   ·have ak:=HH.out.T8 (W0:=a) (wc:=w) (ob:=w.heap.size+1) od.out.size z.out.1 ((Keeps.af (F:=P) od.out).trans z.out.2 (fun _ _ e=>e)) (Nat.le_succ _) (g.out _) u bm
    refine(HH.out.wide ak.1 ak.2 (fun j p=>?_) (fun j p=>?_) (fun j p e=>?_)).le (by have:=Og.out;have:=JY.out;omega)
    ·rcases p with e|e
     ·exact .inl e
     ·exact .inr ⟨by omega,e.2⟩
    ·rcases p with e|e
     ·have:=HH.out.AR j e
      omega
     ·exact e.2
    ·rcases e with e|e
     ·exact e
     ·omega
theorem Lv (c:Cf) (l:List Sl) (s:lg) (sv lv av cv kv:Value) (w:World) (m:DX c l s) (hR:dw w sv c.bj) (hL:dm w lv l) (hA:ke w av s.aC) (hC:dw w cv s.cr):
  Calls Tryz.prog 14 #[.agg (wS c sv lv av s.loop cv kv)] w fun r w'=>∃b k,r=.returned (.tuple #[.pointer (N ⟨b,0,M⟩),.pointer (N ⟨k,0,M⟩),.bool true])∧Idle k b w.heap.size c l s 0 w'∧Below w.heap.size w w':=by
 obtain⟨n,hn⟩:=gE c.bj.length;obtain⟨ln,lN⟩:=gE l.length;obtain⟨an,oz⟩:=gE s.aC.length;obtain⟨B,tO⟩:=gE s.cr.length;obtain⟨lp,I⟩:=gE s.loop;obtain⟨sa,sc,yo,-⟩:=id hR;obtain⟨la,lc,qR⟩:=hL.KH;obtain⟨aa,ac,R9,-⟩:=id hA;obtain⟨z,A,Sn,-⟩:=id hC;rw[hn] at yo;rw[lN] at qR;rw[oz] at R9;rw[tO] at Sn;subst yo qR R9 Sn;rw[I];obtain⟨C,O⟩:=gE (yh c (J sa n sc));have hi:(Tryz.prog.info? 27).map (·.size)=N C.size:=by rw[←O];exact sj
 obtain⟨D,E⟩:=gE (wS c (J sa n sc) (J la ln lc) (J aa an ac) lp (J z B A) kv);rw[E];obtain⟨t,bo,F,L⟩:=eY w (K D 35);have Up:Hid (∀X,Below t.heap.size t X→∀j u,C.toList[j]?=N u→X.cell? ((⟨w.heap.size,0,M⟩:Addr).add j)=N u):=fun X p j u i=>by
  rw[Addr.add_lit,Nat.zero_add,hpCell (hpKeep L p),←E];exact GU (by rw[O];exact i)
 have JD:Hid (∀j u,(#[J aa an ac,.bool lp,J z B A]:Array Value).toList[j]?=N u→t.cell? ((⟨w.heap.size,17,M⟩:Addr).add j)=N u):=fun j u i=>by
  rw[Addr.add_lit,hpCell L,←E];rcases j with _|_|_|j
  ·cases i;rfl
  ·cases i;rfl
  ·cases i;rfl
  ·cases i
 have t16:t.cell? ⟨w.heap.size,16,M⟩=N (J la ln lc):=(hpCell L 16).trans (by rw[←E];rfl);have R:Hid (∀X,Below w.heap.size w X→Calls Tryz.prog 24 #[J la ln lc,.agg #[J aa an ac,.bool lp,J z B A]] X (jx X l lp s.aC)):=fun X p=>by
  have h:=sS l s la ln lc (J aa an ac) (J z B A) X lN (hL.ah p) (hA.ah p) (hC.ah p) m.2.2.2.1 m.2.2.2.2.2;rw[I] at h;exact h
 have Q:Hid (∀X r y,jx X l lp s.aC r y→∃g a c a2 c2,r=.returned (.tuple #[.pointer (N ⟨g,0,M⟩),U Y 0])∧cU (fun j=>j=g) y g (J a l.length c) (J a2 s.aC.length c2) lp Ln.zero∧IA (fun j=>j=g) y a l.length c a2 s.aC.length c2 l s.aC lp∧X.heap.size≤g∧Below X.heap.size X y):=fun X r y h=>
  h.at m.2.2.2.1 m.2.2.2.2.2.2.2.2.2 (fun e=>by
   have h2:=m.2.2.2.2.2.2.1
   rw[I] at h2
   have:¬s.aC.length=0:=fun e2=>h2 ⟨e,e2⟩
   omega)
 have Qx:Hid (∀X g,Below w.heap.size w X→Calls Tryz.prog 25 #[.agg C,.pointer (N ⟨g,0,M⟩),U Y 0] X (FJ c (.pointer (N ⟨g,0,M⟩)) 0 X)):=fun X g p=>by
  rw[←O];exact CX c m.2.1 _ g 0 (by decide) (by decide) X (hR.ah p)
 have HP:=hid m;have S:=hid I;have T:=hid bo;have o:=hid F;clear m hR hL hA hC hn lN oz tO I O E bo F L;go_enter Tryz.func14,Tryz.ntmps14;go_upto_region 1 with(fail)
 rw[T.out];go_upto_region 2 with(first
  |(refine aZ rfl 32 (.tmp 12) rfl ⟨w.heap.size,17,M⟩ rfl #[J aa an ac,.bool lp,J z B A] _ JD.out Tryz.underlying32 rfl bu ?_)
  |(go_at_call 24;(with_reducible refine(R.out _ o.out).mono ?_);rintro r w6 G;obtain⟨b,a6,c6,a7,c7,rfl,Iw,Z5,KM,d⟩:=Q.out _ _ _ G))
 have ao:=hid Iw;have P:=hid Z5;have z6:=bt o.out d (Nat.le_refl _);have Uq:Hid (t.heap.size≤b):=KM;have tP:=hid d;clear G Iw Z5 KM t16;go_upto_region 3 with(first
  |(refine aZ rfl 27 (.tmp 18) rfl ⟨w.heap.size,0,M⟩ rfl C _ (Up.out _ d) Tryz.underlying27 rfl hi ?_)
  |(go_at_call 25;(with_reducible refine(Qx.out _ b z6).mono ?_);rintro r w8 ⟨k,ak,rfl,XE,R1,Yh,Z⟩))
 have x:=hid (nV.start (f:=⟨a6,l.length,c6,a7,s.aC.length,c7,lp,l,s.aC⟩) ao.out P.out Ln.jE HP.out.2.1 XE R1 Yh Z (Tx.new 0 0 0 0 0) (Lk.new 0 0 0 0 0));have Zg:Hid (t.heap.size≤k):=by have:=tP.out.size;show _≤_;omega
 have W:Hid (nj k b (fun j=>j=b∨j=k) c ak ⟨a6,l.length,c6,a7,s.aC.length,c7,lp,l,s.aC⟩ ⟨Ln.zero,false,Tx.new 0 0 0 0 0,0,0⟩ 0 w8):=⟨0,0,_,_,_,x.out,Nat.le_refl _⟩
 have V:=hid (Nz W.out rfl rfl (by decide) (by decide));have Zi:Hid (Below w.heap.size w w8):=bt z6 Z (Nat.le_refl _);clear XE R1 Yh Z x d z6;go_wp2_with (go_at_call 22;(with_reducible refine V.out.mono ?_);rintro r w9 ⟨Tt,rfl,q,X7,ab,ad⟩);have aX:=o.out.size;have e1:=Uq.out;have e2:=Zg.out;have e3:=Zi.out.size;refine bodyPost_ret (v:=.tuple #[.pointer (N ⟨b,0,M⟩),.pointer (N ⟨k,0,M⟩),.bool true]) (by simp [results,Tryz.results14,go_sem]) rfl ?_;refine⟨b,k,rfl,⟨_,_,_,_,ab.le (by decide),⟨rfl,rfl,q,q,q,by show Tt≤_;have h:Tt≤0+20000000:=X7;omega,Nat.zero_le _⟩,fun j i=>?_,rfl,rfl,S.out.symm⟩,Zi.out.trans (ad.below e3 (fun j i e=>by rcases e with e|e<;>omega))⟩;rcases i with(e|e)|e<;>omega
def uj:Sl:={YZ 9600 with pa:=1}
def JL:Cf:=⟨[(9600,1)],1,2,1,1000,0,fun k=>if k=2 then (100,8) else (0,0),1,10000⟩
def q20:Rq:=⟨3,12,2,0,0⟩
def EH:Tx:=(Tx.new 9600 1 1 1000 0).begun 7 q20 0
def xaU:List UInt8:=EH.bytes
def Lu:Ln:=Ln.zero.send [uj] [] false 9600 1 xaU 0
def FY:Int:=0+aK 9600 8
def uK:Du:=(Du.mk Lu (EH.aA FY)).heard
theorem WK:(Du.mk Lu (EH.aA FY)).heard=uK:=rfl
theorem Ii:xaU.length=8:=by kernel_rfl
theorem MM:uK.x.ph=5:=by kernel_rfl
theorem Ih:uK.x.out.verdict=1∧uK.x.out.ae.data.length=4:=by
 constructor
 ·kernel_rfl
 ·kernel_rfl
theorem RK:decide (0<uK.x.now)=true:=by kernel_rfl
theorem Ow:uK.n.aA.length=1:=by kernel_rfl
theorem WT:decide ((Du.mk Lu (EH.aA FY)).mu≤1000)=true:=by kernel_rfl
theorem ZW:oA JL=0:=by kernel_rfl
theorem WI (sv:Value):yh JL sv=#[sv,U Y 1,U Y 2,U Y 1,U Y 1000,U Y 0,U Y 0,U Y 0,U Y 0,U Y 0,U Y 100,U Y 8,U Y 0,U Y 0,U Y 1,U Y 10000]:=rfl
theorem GJ (w:World):Calls Tryz.prog 51 #[] w fun r T=>∃sv,r=.returned (.agg (yh JL sv))∧(∀X,ay w.heap.size T X→dw X sv JL.bj)∧Below w.heap.size w T:=by
 obtain⟨W0,l⟩:∃W,w.alloc (K #[J none 0 0,U Y 0,U Y 0,U Y 0,U Y 0,U Y 0,U Y 0,U Y 0,U Y 0,U Y 0,U Y 0,U Y 0,U Y 0,U Y 0,U Y 0,U Y 0] 27)=W:=⟨_,rfl⟩
 have O:Below w.heap.size w W0:=by rw[←l];exact bal' w _
 have k:W0.heap.size=w.heap.size+1:=by rw[←l];simp
 have Q:W0.heap[w.heap.size]?=N (K #[J none 0 0,U Y 0,U Y 0,U Y 0,U Y 0,U Y 0,U Y 0,U Y 0,U Y 0,U Y 0,U Y 0,U Y 0,U Y 0,U Y 0,U Y 0,U Y 0] 27):=by rw[←l];exact hpNew w _
 obtain⟨y,z,m,R⟩:=eY W0 (K #[U Y 9600,U Y 1] 61);have t:=hid l;have u:=hid z;have p:=hid O;have q:=hid m;have G:=hid k;have b:y.heap.size=w.heap.size+2:=by rw[←z];simp [k]
 have v:=hid b;clear l z O m k b;go_enter Tryz.func51,Tryz.ntmps51;go_upto_region 1 with(fail)
 rw[t.out];go_upto_region 3 with(fail)
 rw[u.out];obtain⟨W2,P,i,F⟩:=eY y (K #[J (N ⟨W0.heap.size,0,M⟩) 1 1,U Y 1,U Y 2,U Y 1,U Y 1000,U Y 0,U Y 0,U Y 0,U Y 0,U Y 0,U Y 100,U Y 8,U Y 0,U Y 0,U Y 1,U Y 10000] 27);rw[P];have b:y.heap.size=W0.heap.size+1:=by have:=v.out;have:=G.out;omega
 rw[b] at F;obtain⟨c,a⟩:∃C,(#[J (N ⟨W0.heap.size,0,M⟩) 1 1,U Y 1,U Y 2,U Y 1,U Y 1000,U Y 0,U Y 0,U Y 0,U Y 0,U Y 0,U Y 100,U Y 8,U Y 0,U Y 0,U Y 1,U Y 10000]:Array Value)=C:=⟨_,rfl⟩
 have g:c.size=16:=by rw[←a];rfl
 have f:(Tryz.prog.info? 27).map (·.size)=N c.size:=by rw[g];kernel_rfl
 have B:c.toList.all (·.oneCell')=true:=by rw[←a];rfl
 rw[a] at F;have d:=bt q.out i (Nat.le_refl _);have D:=hpKeep Q d;have Z:=hid (hpKeep R i);have s:=hid a;have od:=hid d;have I:=hid g;clear P b a d i R Q g;go_wp2_with (first
  |(refine wpList_load_row rfl 27 (.tmp 1) rfl (W0.heap.size+1) rfl 27 c (0,0) _ F Tryz.underlying27 rfl f ?_)
  |(refine wpList_storeW rfl 27 (.tmp 0) (.tmp 8) rfl w.heap.size 0 _ 27 c rfl rfl D (by simp [I.out]) f B ?_;intro V g9 o ab))
 have A:V.heap[w.heap.size]?=N (K c 27):=by rw[g9,List.drop_eq_nil_of_le (by simp [I.out])];simp
 refine bodyPost_ret (results_cell_row rfl _ _ w.heap.size 27 c (0,0) _ rfl A Tryz.underlying27 rfl f) rfl ?_;have L:=od.out;have hz:=G.out;refine⟨J (N ⟨W0.heap.size,0,M⟩) 1 1,by rw[WI,s.out],fun X hX=>?_,(p.out.trans (L.mono (by omega))).trans (o.below (by have:=L.size;omega) (fun j hj e=>by omega))⟩;have S:V.heap[W0.heap.size]?=N (K #[U Y 9600,U Y 1] 61):=hpKeeps Z.out o (fun e=>by omega);have pX:X.heap[W0.heap.size]?=N (K #[U Y 9600,U Y 1] 61):=by rw[hX.block _ (by omega) (hpLt S)];exact S
 refine gY.iq (base:=0) (E:=61) (n:=1) (cs:=cO JL.bj) ⟨rfl,.inr ⟨W0.heap.size,1,#[U Y 9600,U Y 1],rfl,Nat.zero_le _,pX,Nat.le_refl _,by decide,rfl,rfl⟩⟩ (mq JL.bj (fun x hx=>?_)) rfl;rw[List.mem_singleton.1 hx];exact⟨by unfold bT;decide,by unfold bT;decide⟩
theorem WW:aU 9600 1:=⟨by decide,by decide,by decide⟩
theorem T0:uj.val:=by
 have a:¬(0:Int)<uj.lv:=by decide
 refine⟨WW,by decide,by decide,fun k b=>?_,fun _=>rfl,by decide,by decide,fun e=>absurd e a,fun e=>absurd e a,fun e=>absurd e a,fun e=>absurd e a,fun e=>absurd e a⟩;rcases (show k=0∨k=1∨k=2∨k=3 by omega) with rfl|rfl|rfl|rfl
 ·exact ⟨fun _=>⟨rfl,rfl⟩,fun e=>(by cases e)⟩
 ·exact ⟨fun _=>⟨rfl,rfl⟩,fun e=>(by cases e)⟩
 ·exact ⟨fun e=>(by cases e),fun _=>⟨by decide,by decide,by decide,by decide⟩⟩
 ·exact ⟨fun _=>⟨rfl,rfl⟩,fun e=>(by cases e)⟩
theorem ZR:cW [uj]:=⟨by decide,fun s hs=>by
 have:s=uj:=by simpa using hs
 subst this
 exact T0⟩
theorem xc8:lg.ok ⟨[],false,[]⟩:=⟨by decide,(by rintro ⟨e,_⟩;cases e),by decide,fun i x h=>(by cases h),fun x a=>by cases a⟩
theorem Yx:(Tryz.prog.info? 55).map (·.size)=N 9:=by kernel_rfl
theorem pJ (w:World):Calls Tryz.prog 13 #[] w fun r w'=>r=.returned (.bool true)∧Below w.heap.size w w':=by
 go_enter Tryz.func13,Tryz.ntmps13;go_upto_region 2 with(first
  |(go_at_call 50;(with_reducible refine(Y1 _).mono ?_);rintro r w1 ⟨p,q,rfl,JR⟩;obtain⟨C,hC⟩:=gE (Wj 9600 p q);rw[hC];have Z:C.size=19:=(by rw[←hC];rfl);have hi:(Tryz.prog.info? 68).map (·.size)=N C.size:=(by rw[←hC];exact dX);have bx:C.toList.all (·.oneCell')=true:=(by rw[←hC];rfl))
  |(refine wpList_storeW rfl 68 (.tmp 1) (.tmp 9) rfl w1.heap.size 0 _ 68 C rfl rfl (hpNew w1 _) (by simp [Z]) hi bx ?_;intro w2 g2 b4 c7))
 obtain⟨p2,bK⟩:=cJ (by rw[Z];rfl) g2 b4;obtain⟨sb,K0⟩:=gE w1.heap.size;rw[K0] at p2 ⊢;have S:=hid JR;have od:=hid bK;have ZJ:=hid K0;have Uo:=hid hC;have G4:=hid p2;clear g2 b4 c7 bK K0 JR hC bx hi p2;dsimp only[Act.put];go_upto_region 3 with(first
  |(go_at_call 51;(with_reducible refine(GJ _).mono ?_);rintro r w3 ⟨sv,rfl,JO,v⟩;obtain⟨A,rf⟩:=gE (yh JL sv);rw[rf];have PY:(Tryz.prog.info? 27).map (·.size)=N A.size:=(by rw[←rf];exact sj);have XB:A.size=16:=(by rw[←rf];rfl);have bX:A.toList.all (·.oneCell')=true:=(by rw[←rf];obtain⟨a9,c9,e9,-⟩:=JO w3 (ay.refl _ _);rw[e9];rfl))
  |(refine wpList_storeW rfl 27 (.tmp 2) (.tmp 10) rfl w3.heap.size 0 _ 27 A rfl rfl (hpNew w3 _) (by simp [XB]) PY bX ?_;intro w4 g4 b5 c8))
 obtain⟨p4,cT⟩:=cJ (by rw[XB];rfl) g4 b5;obtain⟨cb,KI⟩:=gE w3.heap.size;rw[KI] at p4 ⊢;obtain⟨b,o,cc,rfl,-,-,iy⟩:=(JO w3 (ay.refl _ _)).at (k:=0) (x:=(9600,1)) rfl;have dv:sb<w3.heap.size:=Nat.lt_of_lt_of_le (hpLt G4.out) v.size;have cf:=hpKeep (hpKeep G4.out v) cT;have c0:w4.cell? ⟨cb,0,M⟩=N (J (N ⟨b,o,M⟩) 1 cc):=(hpCell p4 0).trans (by rw[←rf];rfl);have fV:∀j u,(#[U Y 9600,U Y 1]:Array Value).toList[j]?=N u→w4.cell? ((⟨b,o,M⟩:Addr).add j)=N u:=fun j u l=>by
  obtain⟨e0,e1⟩:=iy w4 cT;rw[Addr.add_lit];rcases j with _|_|j
  ·cases l;simpa using e0
  ·cases l;simpa using e1
  ·cases l
 have ZA:=hid JO;have E:=hid v;have EO:=hid cT;have cy:=hid p4;have ds:=hid rf;have Jr:=hid KI;clear g4 b5 c8 cT v iy JO rf KI p4 bX;dsimp only[Act.put];go_upto_region 4 with(first
  |(refine aZ rfl 61 (.tmp 13) rfl ⟨b,o,M⟩ rfl #[U Y 9600,U Y 1] _ fV Tryz.underlying61 rfl uC ?_)
  |(refine wpList_storeW rfl 61 (.tmp 15) (.tmp 14) rfl sb 0 _ 68 #[U Y 9600,U Y 1] rfl rfl cf (by simp [Z]) uC rfl ?_;intro w5 g5 g db))
 dsimp only[Act.put];obtain⟨D,hD⟩:∃D,SlC uj (fun k=>if k=2 then J (N ⟨q,0,M⟩) 1 1 else J none 0 0) (J none 0 0) (J (N ⟨p,0,M⟩) 2 2)=D:=⟨_,rfl⟩
 have p5:w5.heap[sb]?=N (K D 68):=by rw[g5,←Uo.out,←hD];rfl
 have bZ:(Tryz.prog.info? 68).map (·.size)=N D.size:=by rw[←hD];exact dX
 have c5:D.size=19:=by rw[←hD];rfl
 have Cm:=tQ uj (fun k=>if k=2 then J (N ⟨q,0,M⟩) 1 1 else J none 0 0) (J none 0 0) (J (N ⟨p,0,M⟩) 2 2) D hD;have z1:=S.out.b.size;have z2:=od.out.size;have z3:=E.out.size;have z4:=EO.out.size;have c4:=ZJ.out;have cX:=Jr.out;have L:Hid (Below w.heap.size w w5):=(((S.out.b.trans (od.out.mono z1)).trans (E.out.mono (by omega))).trans (EO.out.mono (by omega))).trans (g.below (by omega) (fun j l e=>by have e':j=sb:=e;omega));have av:Keeps (· =sb) w2 w5:=((Keeps.af E.out).trans (Keeps.af EO.out) (fun _ _ e=>e)).trans g (fun _ _ e=>e);have cz:Hid (∀X,Below w5.heap.size w5 X→nO X uj (fun k=>if k=2 then J (N ⟨q,0,M⟩) 1 1 else J none 0 0) (J none 0 0) (J (N ⟨p,0,M⟩) 2 2)):=fun X hX=>by
  have hs:=S.out.slr (X:=X) ⟨by have:=g.size;have:=hX.size;omega,fun j l hl=>by
   rw[hX.block j (by have:=av.size;omega),av.block j (by omega) (fun e=>by have e':j=sb:=e;omega),od.out.block j hl]⟩ 9600 (by unfold bT;omega)
  obtain⟨a1,t,a3,a4,a5,a6,a7,a8⟩:=hs;exact⟨a1,t,a3,a4,a5,a6,a7,by show bT 1;unfold bT;omega⟩
 have W:ay w2.heap.size w3 w5:=(ay.af EO.out).trans (ay.dg (B:=w2.heap.size) g (fun j e=>by have e':j=sb:=e;have:=hpLt G4.out;omega));have bn:Hid (∀X,ay w2.heap.size w5 X→dw X (J (N ⟨b,o,M⟩) 1 cc) JL.bj):=fun X hX=>ZA.out X (W.trans hX)
 have cV:Hid (w5.heap[cb]?=N (K A 27)):=hpKeeps cy.out g (fun e=>by have e':cb=sb:=e;omega);have bm:Hid (Calls Tryz.prog 24 #[J (N ⟨w5.heap.size,0,M⟩) 1 1,.agg #[J none 0 0,.bool false,J none 0 0]] (w5.alloc (K D 68)) (jx (w5.alloc (K D 68)) [uj] false [])):=by
  refine sS [uj] ⟨[],false,[]⟩ _ 1 1 _ _ _ rfl (TZ (cz.out _ (bal' w5 _)) ?_) (gY.nil _) (gY.nil _) ZR xc8;rw[hD];exact hpNew w5 _
 have ef:=hid p5;have dt:Hid (w2.heap.size≤w5.heap.size∧sb<w5.heap.size∧w.heap.size≤w5.heap.size):=by
  have:=W.size;have:=L.out.size;have:=g.size;show _∧_∧_;omega
 clear fV cf c0 g5 g db z1 z2 z3 z4 c4 cX dv av hD W;go_upto_region 5 with(first
  |(refine wpList_load_row rfl 68 (.tmp 1) rfl sb rfl 68 D (0,0) _ p5 Tryz.underlying68 rfl bZ ?_)
  |(go_at_call 24;(with_reducible refine bm.out.mono ?_);rintro r z b7;obtain⟨d,a,c,t,c2,rfl,Iw,Z5,KM,bQ⟩:=b7.at ZR (fun x hx=>by cases hx) (fun e=>(by cases e))))
 have ba:Hid (cU (fun j=>j=d) z d (J a 1 c) (J t 0 c2) false Ln.zero):=Iw;have aY:Hid (IA (fun j=>j=d) z a 1 c t 0 c2 [uj] [] false):=Z5;have RL:Below w5.heap.size w5 z:=bt (bal' w5 _) bQ (Nat.le_refl _);have F:Hid (Below w.heap.size w z):=L.out.trans (RL.mono L.out.size);have cd:=hpKeep cV.out RL;have ee:=PY;have Qx:Hid (Calls Tryz.prog 25 #[.agg A,.pointer (N ⟨d,0,M⟩),U Y 0] z (FJ JL (.pointer (N ⟨d,0,M⟩)) 0 z)):=by
  rw[←ds.out];exact CX JL ZW _ d 0 (by decide) (by decide) z (bn.out _ (ay.af RL))
 have R:Hid (w.heap.size≤d∧w5.heap.size≤z.heap.size):=⟨by have h1:=KM;rw[World.size_alloc] at h1;have:=dt.out;omega,RL.size⟩
 clear b7 Iw Z5 KM bQ RL p5 bm bZ c5 Cm;go_upto_region 6 with(first
  |(refine wpList_load_row rfl 27 (.tmp 2) rfl cb rfl 27 A (0,0) _ cd Tryz.underlying27 rfl PY ?_)
  |(go_at_call 25;(with_reducible refine Qx.out.mono ?_);rintro r w7 ⟨i,m,rfl,XE,cp,b8,vA⟩))
 have bc:=hid (nV.start (f:=⟨a,1,c,t,0,c2,false,[uj],[]⟩) ba.out aY.out Ln.jE ZW XE cp b8 vA (Tx.new 9600 1 1 1000 0) (Lk.new 9600 1 1 1000 0));have G:Hid (Below w.heap.size w w7):=F.out.trans (vA.mono F.out.size);have Zg:Hid (w.heap.size≤i):=by have:=F.out.size;show _≤_;omega
 have aX:Hid (Calls Tryz.prog 26 #[.pointer (N ⟨i,0,M⟩),U Y 0,U Y 7,.agg #[U Y 3,U Y 12,U Y 2,U Y 0,U Y 0]] w7 (Wh i d (fun j=>j=d∨j=i) JL m ⟨a,1,c,t,0,c2,false,[uj],[]⟩ ⟨Ln.zero,true,EH,0,0⟩ 1 w7)):=
  (CU bc.out (show _=_ from rfl) 0 9600 1 rfl 7 3 12 2 0 0 (by decide) (by decide) 0 (by decide+kernel)).mono (fun r w' h=>h.2 rfl)
 have nF:Hid (∀(gj k:Nat) (P PL Q:Nat→Prop) (s:Lk) (X:World),k≤1→nV i d gj k P PL Q JL m ⟨a,1,c,t,0,c2,false,[uj],[]⟩ ⟨Ln.zero,true,EH,0,0⟩ s X→Calls Tryz.prog 27 #[.pointer (N ⟨i,0,M⟩)] X (Wh i d P JL m ⟨a,1,c,t,0,c2,false,[uj],[]⟩ ⟨Lu,true,EH.aA FY,0,FY⟩ (k+1) X)):=fun gj k P PL Q s X hk hM=>by
  have h:=IS hM rfl rfl 0 9600 1 rfl rfl rfl xaU rfl (by rw[Ii];rfl) (by show 0≤90000000;decide) (by show 0≤1000000000;decide) (by omega) (NQ hM.G.Bq hM.G.ok ((Mr.of hM.sY).set (9600,1) (List.mem_of_getElem? (show JL.bj[0]?=N (9600,1) from rfl))) _ _ _ _);rw[Ii] at h;exact h
 have yu:Hid (∀(gj k:Nat) (P PL Q:Nat→Prop) (s:Lk) (X:World),k≤2→nV i d gj k P PL Q JL m ⟨a,1,c,t,0,c2,false,[uj],[]⟩ ⟨Lu,true,EH.aA FY,0,FY⟩ s X→Calls Tryz.prog 23 #[.pointer (N ⟨i,0,M⟩)] X (MB i d gj P JL m ⟨a,1,c,t,0,c2,false,[uj],[]⟩ uK 0 (k+(Du.mk Lu (EH.aA FY)).mu) X)):=fun gj k P PL Q s X hk hM=>by
  have ea:=of_decide_eq_true WT;have h:=zW hM rfl (.inl rfl) (by show k+(Du.mk Lu (EH.aA FY)).mu≤_;omega);dsimp only at h;rw[WK] at h;exact h
 clear XE cp b8 vA Qx ba aY PY XB bn cd;go_upto_region 8 with(first
  |(go_at_call 26;(with_reducible refine aX.out.mono ?_);rintro r w8 ⟨dR,k8,dK,Q8,s8,rfl,bA,y,cl⟩)
  |(go_at_call 27;(with_reducible refine(nF.out _ _ _ _ _ _ _ cl bA).mono ?_);rintro r w9 ⟨dV,k9,dM,Q9,s9,rfl,bC,b6,dE⟩))
 have cv:=hid bC;have Og:Hid (k9≤2):=by show _≤_;omega
 have I:Hid (Below w.heap.size w w9):=by
  have z7:=G.out.size;have z8:=y.size;refine(G.out.trans (y.below z7 (fun j l e=>?_))).trans (b6.below (by omega) (fun j l e=>?_))
  ·have h1:=R.out
   have h2:=Zg.out;rcases e with e|e<;>omega
  ·have h1:=R.out
   have h2:=Zg.out;rcases e with(e|e)|e<;>omega
 have cj:=hid (yu.out _ _ _ _ _ _ _ Og.out cv.out);obtain⟨P9,V⟩:∃P,ax (ax (fun j=>j=d∨j=i) w7 w8) w8 w9=P:=⟨_,rfl⟩
 rw[V] at cj;have V0:Hid (∀j,P9 j→w.heap.size≤j):=fun j l=>by
  have z7:=G.out.size;have z8:=y.size;have h1:=R.out;have h2:=Zg.out;rw[←V] at l;rcases l with((e|e)|e)|e<;>omega
 have yo:uK.x.shown=uK.x.out:=by unfold Tx.shown;rw[if_pos MM]
 have vP:uK.x.shown.verdict=1:=by rw[yo];exact Ih.1
 have IN:uK.x.shown.ae.data.length=4:=by rw[yo];exact Ih.2
 have Gw:decide (uK.x.ph=5)=true:=by rw[MM];rfl
 obtain⟨O,hO⟩:=gE uK.x.shown;rw[hO] at vP IN;have ca:((uK.n.aA.length:Nat):Int)=1:=by rw[Ow];rfl
 have BM:=hid (And.intro vP (And.intro IN (And.intro Gw ca)));have c6:=RK;obtain⟨NW,T⟩:=gE uK.x.now;rw[T] at c6;have cx:=hid T;have HO:=hid hO;clear bA bC y cl b6 dE yu nF aX bc V yo vP IN Gw ca T hO;go_upto_region 9 with(first
  |(go_at_call 23;(with_reducible refine cj.out.mono ?_);rintro r cg ⟨da,dc,oa,oc,eb,ei,dN,ec,rfl,xg,cn,ao,dk⟩;rw[HO.out,BM.out.1,BM.out.2.1,BM.out.2.2.1];clear xg dk)
  |(refine wpList_storeW rfl 55 (.tmp 7) (.tmp 53) rfl cg.heap.size 0 _ 55 #[U Y 1,U Y O.ae.fn,U Y O.ae.ar,J da 4 dc,U Y O.ae.code,U Y O.ae.level,.bool O.ae.more,U Y O.ae.next,J oa O.ae.ag.length oc] rfl rfl (hpNew cg _) (by simp) Yx rfl ?_;intro n bo ct dz))
 obtain⟨ab,ak⟩:=cJ (by rfl) bo ct;have ad:=cn.bW ak;have HT:=hid (Ic ad.ln);have HN:=hid (Ts ad);have cD:Hid (Calls Tryz.prog 20 #[.pointer (N ⟨d,0,M⟩)] n fun r w'=>r=.returned (U Y 1)∧n=w'):=by
  have h:=HT.out;rw[show ((uK.n.aA.length:Nat):Int)=1 from BM.out.2.2.2] at h;exact h
 have cw:Hid (Calls Tryz.prog 28 #[.pointer (N ⟨i,0,M⟩)] n fun r w'=>r=.returned (U Y NW)∧n=w'):=by
  rw[←cx.out];exact HN.out
 have c0:=cG ab 0 rfl;have c3:=cG ab 3 rfl;have dq:Hid (Below w.heap.size w n):=(I.out.trans (ao.below I.out.size (fun j l e=>by have:=V0.out j e;omega))).trans (ak.mono (by have:=I.out.size;have:=ao.size;omega));clear bo ct dz ab ak ad cn ao HT HN;go_wp2_with (first
  |(go_at_call 28;(with_reducible refine cw.out.mono ?_);rintro r wx ⟨rfl,rfl⟩)
  |(go_at_call 20;(with_reducible refine cD.out.mono ?_);rintro r wx ⟨rfl,rfl⟩))
 go_ret;exact⟨rfl,dq.out⟩
