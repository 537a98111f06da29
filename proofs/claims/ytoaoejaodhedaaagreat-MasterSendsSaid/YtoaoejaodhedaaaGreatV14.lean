import Derived.Test.YtoaoejaodhedaaaGreatV13
namespace Go.Proofs.YtoaoejaodhedaaaGreat
open Go.RowKit
open Value renaming slice→J,int→Y
open Option renaming none→M,some→U
open IntKind renaming i64→G
open Obj renaming cells→H
set_option maxHeartbeats 12800000
set_option maxRecDepth 100000
variable {c:Cf} {d:Du} {f:Fx} {t0:Int} {l:List Sl} {y:Ms} {gl gm i kk m p0:Nat} {P:Nat→Prop} {SC sc:Sc} {sv:Value} {W w:World} {s:lg}
structure H6 (y:Ms) (i:Nat):Prop where
 fin:(y.b&&(y.x.kind !=3))=false
 free:y.n.free≤y.now
 last:y.n.last≤y.now
 n0:0≤y.now
 n1:y.now≤20000000+7000000000000*i
 sn:y.n.aA.length≤6*i
 asc:oh y.n.pend
 pl:y.n.pend.length≤1536*i
 sl:∀x∈y.n.aA,x.2.length≤256
theorem Rest.toU (h:Rest y 0):H6 y 0:=
 have b:y.n.aA=[]:=List.eq_nil_of_length_eq_zero (Nat.le_zero.1 h.sn)
 ⟨h.fin,h.free,h.last,h.n0,(by have:=h.n1;omega),h.sn,(by rw[h.pend];intro i j x y _ e;cases e),(by rw[h.pend];exact Nat.zero_le _),fun x a=>(by rw[b] at a;cases a)⟩
theorem OQ {b e u:Int} {q:Rq} {s0:List ((Int×Int)×List UInt8)} (a:Lw c) (j:cW l) (hs:s.ok) (g:aU b e):Qu (xb6 c l s b e u q s0):=
 ⟨j,hs.2.2.2.2,g,by have:=a.mW;show 0≤c.ti;omega,a.oj,a.oy,a.o7⟩
theorem Ya.start (h:H6 y i) (b:sc.s0=y.n.aA) (a:0≤sc.re):Ya sc y.n.pend.length y.now 0 ⟨y.n,(Tx.new sc.bd sc.pa sc.re sc.ti sc.de).begun sc.u sc.q y.now⟩:=
 ⟨⟨⟨by rw[b];exact(List.append_nil _).symm,h.asc,Nat.le_refl _,rfl,rfl,rfl,rfl,rfl,rfl,rfl,rfl⟩,h.free,h.last,h.n0,by show y.now≤y.now+1000000000000*((0:Nat):Int);omega⟩,rfl,a⟩
theorem KM.sl (h:KM sc p0 t0 m d) (hs:∀x∈sc.s0,x.2.length≤256):∀x∈d.n.aA,x.2.length≤256:=fun x a=>by
 rw[h.1.d.aA] at a;rcases List.mem_append.1 a with e|e
 ·exact hs x e
 ·rw [(List.mem_replicate.1 e).2]
  exact(jc sc.u sc.q).2
theorem KM.len (h:KM sc p0 t0 m d):d.n.aA.length=sc.s0.length+m:=by rw[h.1.d.aA,List.length_append,List.length_replicate]
theorem KM.rest (h:KM sc p0 t0 m d) (a:sc.re≤5) (g:t0≤20000000+7000000000000*i) (b:sc.s0.length≤6*i) (e:p0≤1536*i) (hs:∀x∈sc.s0,x.2.length≤256) (st:Nat):H6 (Sg d st) (i+1):=
 have hm:=h.2.2.2
 {fin:=by show (true&&(d.x.kind !=3))=false;unfold Tx.kind;rw[if_neg (by rw[h.2.1];decide),if_neg (by rw[h.2.1];decide),if_pos h.2.1];rfl
  free:=h.1.fr
  last:=h.1.la
  n0:=h.1.n0
  n1:=by have:=h.1.n1;show d.x.now≤_;omega
  sn:=by show d.n.aA.length≤_;rw[h.len];omega
  asc:=h.1.d.asc
  pl:=by have:=h.1.d.len;show d.n.pend.length≤_;omega
  sl:=h.sl hs}
def A4 (gm gl B:Nat) (c:Cf) (l:List Sl) (s:lg) (i:Nat) (W:World):Prop:=∃P sv f y,lX gm gl P c sv f y 1000000000 W∧H6 y i∧(∀j,P j→B≤j)∧f.l=l∧f.aC=s.aC∧f.lp=s.loop
theorem Idle.toU {gm gl B a:Nat} {c:Cf} {l:List Sl} {s:lg} {W:World} (h:Idle gm gl B c l s 0 W) (n:a≤B):A4 gm gl a c l s 0 W:=by
 obtain⟨P,sv,f,y,b,e,g,k⟩:=h;exact⟨P,sv,f,y,b,e.toU,fun j o=>Nat.le_trans n (g j o),k⟩
theorem T8 (h:lX gm gl P c sv f y kk w) (K:Int) (b:(y.n.aA.length:Int)=K):Calls Tryz.prog 20 #[.pointer (U ⟨gl,0,M⟩)] w fun r e=>r=.returned (Y G K)∧w=e:=by
 obtain⟨j,k,g,Q,s,a,n⟩:=h;rw[←b];exact Dr a.ln
theorem Ud (h:lX gm gl P c sv f y kk w) (N:Nat) (g:y.n.aA.length=N) (hm:N≤1000000) (j:∀x∈y.n.aA,x.2.length≤256):Calls Tryz.prog 35 #[.pointer (U ⟨gl,0,M⟩)] w fun r n=>∃a b,r=.returned (J a N b)∧Vs w y.n.aA a N b n:=by
 obtain⟨p,k,o,Q,s,e,q⟩:=h;rw[←g] at hm ⊢;exact Km e.ln hm j
structure UdN (gm gl B:Nat) (c:Cf) (l:List Sl) (s:lg) (i:Nat) (SC:Sc) (p0:Nat) (t0:Int) (m:Nat) (d:Du) (W:World):Prop where
 dp:KM SC p0 t0 m d
 idle:∀X,Below W.heap.size W X→A4 gm gl B c l s (i+1) X
 aA:∀X,Below W.heap.size W X→Calls Tryz.prog 35 #[.pointer (U ⟨gl,0,M⟩)] X fun r w'=>∃a cc,r=.returned (J a (SC.s0.length+m) cc)∧Vs X d.n.aA a (SC.s0.length+m) cc w'
theorem UdN.of {B:Nat} {t:Nat} (a:KM SC p0 t0 m d) (h:lX gm gl P c sv f (Sg d t) 1000000000 W) (k:∀j,P j→B≤j) (n:f.l=l∧f.aC=s.aC∧f.lp=s.loop) (g:SC.re≤5) (p:t0≤20000000+7000000000000*i) (hs:SC.s0.length≤6*i) (hi:i≤6) (o:p0≤1536*i) (e:∀x∈SC.s0,x.2.length≤256):UdN gm gl B c l s i SC p0 t0 m d W:=
 {dp:=a
  idle:=fun X b=>⟨_,_,_,_,h.bW b,a.rest g p hs o e t,k,n⟩
  aA:=fun X b=>Ud (h.bW b) _ a.len (by have:=a.2.2.2;omega) (a.sl e)}
theorem xas (a b:Int) (f1:bT a) (f2:bT b) (X:World):
  (binOp .neq 61 (.agg #[.int .i64 a,.int .i64 b]) (.agg #[.int .i64 a,.int .i64 b])).run Tryz.prog X=.ok (.bool false) X:=by
 have w1:(Lit.int .i64 a).wf=true:=IT f1;have w2:(Lit.int .i64 b).wf=true:=IT f2;have hk:Tryz.prog.keyTypeAt 3 61=true:=by kernel_rfl
 have hf:(Value.agg #[.int .i64 a,.int .i64 b]).formed Tryz.prog 61=true:=by kernel_rfl
 have c1:Tryz.prog.cellsOf 61=2:=by kernel_rfl
 have c2:Tryz.prog.cellsOf 3=1:=by kernel_rfl
 have ha:Tryz.prog.keyLits 5 61 (Value.agg #[.int .i64 a,.int .i64 b]).cells.toList=some [.int .i64 a,.int .i64 b]:=by
  simp [Program.keyLits,Tryz.underlying61,Tryz.underlying3,w1,w2,c1,c2,Value.cells]
 obtain⟨r,hr,hi⟩:=run_equalIn_deep (P:=Tryz.prog) 9997 3 61 hk X 5 5 _ _ _ _ hf hf ha ha;have e:r=true:=hi.2 rfl;subst e;simp only[binOp];simp [Op.equal,Op.maxDepth,hr]
theorem BV {P:Program} {ev:Operand→Value} {o:Oper} (S D:TypeId) (x:Operand) (a:o.op=.convert S D x) (v s:Value) (b:ev x=v) (h:(convert S D v).run P w=.ok s w):(execOp ev o).run P w=.ok (.value s) w:=by
 unfold execOp;simp only[a,b,Sem.run_bind,Sem.run_pure,Result.andThen_ok,h]
theorem xcD.Eb (cs:Array Value) (hr:Rd Tryz.prog w 35 cs.toList):
  Calls Tryz.prog 8 #[.agg cs] w fun r w'=>r=.returned (.bool true)∧Below w.heap.size w w':=by
 obtain⟨c,l,s,ks,sv,lv,av,cv,kv,rfl,hR,hL,hA,hC,E⟩:=xaz hr;clear hr;obtain⟨n,hn⟩:=gE c.bj.length;obtain⟨ln,kN⟩:=gE l.length;obtain⟨an,lG⟩:=gE s.aC.length;obtain⟨cn,rT⟩:=gE s.cr.length;obtain⟨kn,QK⟩:=gE ks.length;obtain⟨lp,oB⟩:=gE s.loop;obtain⟨VV,YO⟩:=bU (p:=Dn c l s);have HV:Hid (∀X,Below w.heap.size w X→Calls Tryz.prog 10 #[.agg (wm c sv lv av s.loop cv kv)] X (aj X VV)):=fun X g=>Pe c l s sv lv av cv kv X (hR.ah g) (hL.ah g) (hA.ah g) (hC.ah g) VV YO
 obtain⟨sa,sc,zJ,-⟩:=id hR;obtain⟨la,lc,qQ⟩:=hL.KH;obtain⟨aa,ac,VK,-⟩:=id hA;obtain⟨ca,cc,VN,-⟩:=id hC;obtain⟨ka,kc,ao,-⟩:=id E;rw[hn] at zJ;rw[kN] at qQ;rw[lG] at VK;rw[rT] at VN;rw[QK] at ao;subst zJ qQ VK VN ao;rw[oB] at HV ⊢;obtain⟨re,AG⟩:=gE c.re;obtain⟨ti,E7⟩:=gE c.ti;obtain⟨de,ES⟩:=gE c.de;obtain⟨C,qd⟩:=gE (yh c (J sa n sc));have hi:(Tryz.prog.info? 27).map (·.size)=U C.size:=by rw[←qd];exact qV
 obtain⟨D,hD⟩:=gE (wm c (J sa n sc) (J la ln lc) (J aa an ac) lp (J ca cn cc) (J ka kn kc));have Tq:(Tryz.prog.info? 35).map (·.size)=U D.size:=by rw[←hD];exact TR
 rw[hD] at HV ⊢;obtain⟨z,bo,cl,pD⟩:=eY w (H D 35);have U9:Hid (∀X,Below z.heap.size z X→∀j u,C.toList[j]?=U u→X.cell? ((⟨w.heap.size,0,M⟩:Addr).add j)=U u):=fun X g j u I=>by
  rw[Addr.add_lit,Nat.zero_add,hpCell (hpKeep pD g),←hD];exact Hf (by rw[qd];exact I)
 have Vo:Hid (∀X,Below z.heap.size z X→∀j u,(#[J aa an ac,.bool lp,J ca cn cc]:Array Value).toList[j]?=U u→X.cell? ((⟨w.heap.size,17,M⟩:Addr).add j)=U u):=fun X g j u I=>by
  rw[Addr.add_lit,hpCell (hpKeep pD g),←hD];rcases j with _|_|_|j
  ·cases I;rfl
  ·cases I;rfl
  ·cases I;rfl
  ·cases I
 have t0:∀X,Below z.heap.size z X→X.cell? ⟨w.heap.size,0,M⟩=U (J sa n sc):=fun X g=>(hpCell (hpKeep pD g) 0).trans (by rw[←hD];rfl)
 have t3:∀X,Below z.heap.size z X→X.cell? ⟨w.heap.size,3,M⟩=U (Y G re):=fun X g=>(hpCell (hpKeep pD g) 3).trans (by rw[←hD,←AG];rfl)
 have t4:∀X,Below z.heap.size z X→X.cell? ⟨w.heap.size,4,M⟩=U (Y G ti):=fun X g=>(hpCell (hpKeep pD g) 4).trans (by rw[←hD,←E7];rfl)
 have t5:∀X,Below z.heap.size z X→X.cell? ⟨w.heap.size,5,M⟩=U (Y G de):=fun X g=>(hpCell (hpKeep pD g) 5).trans (by rw[←hD,←ES];rfl)
 have t16:∀X,Below z.heap.size z X→X.cell? ⟨w.heap.size,16,M⟩=U (J la ln lc):=fun X g=>(hpCell (hpKeep pD g) 16).trans (by rw[←hD];rfl)
 have t20:∀X,Below z.heap.size z X→X.cell? ⟨w.heap.size,20,M⟩=U (J ka kn kc):=fun X g=>(hpCell (hpKeep pD g) 20).trans (by rw[←hD];rfl)
 have bm:Hid (∀X,Below z.heap.size z X→X.heap[w.heap.size]?=U (H D 35)):=fun X g=>hpKeep pD g
 have b8:=hid bo;have ad:=hid cl;have ak:=hid (And.intro hn (And.intro kN (And.intro lG (And.intro rT (And.intro QK oB)))));have bn:=hid AG;have e7:=hid (And.intro E7 ES);have U8:=hid qd;have EB:=hid hD;have Aj:=hid YO;have HR:=hid hR;have HL:=hid hL;have HA:=hid hA;have HC:=hid hC;have HK:=hid E;clear hn kN lG rT QK oB YO hR hL hA hC E AG E7 ES qd hD bo cl pD;have kW:Below z.heap.size z z:=Below.refl _ _;have cw:=bm.out z kW;cases VV with
 |false=>
  go_enter Tryz.func8,Tryz.ntmps8;go_upto_region 1 with(fail)
  rw[b8.out];go_wp2_with (refine wpList_load_atH (by rfl) 35 (.tmp 1) rfl ⟨w.heap.size,0,M⟩ rfl D _ (rowAtW cw) Tryz.underlying35 rfl Tq ?_);go_wp2_with (first|(go_at_call 10;(with_reducible refine(HV.out _ ad.out).mono ?_);rintro r L ⟨rfl,y1⟩;have z1:=bt ad.out y1 (Nat.le_refl _))|(go_at_call 13;(with_reducible refine(pY _).mono ?_);rintro r wz ⟨rfl,Le⟩));go_ret;exact⟨rfl,bt z1 Le (Nat.le_refl _)⟩
 |true=>
 have HP:Hid (Dn c l s):=Aj.out.1 rfl;have HG:Hid (Lw c):=Lw.of HP.out.2.1;have eX:Hid (∀X,Below w.heap.size w X→Calls Tryz.prog 14 #[.agg D] X fun r w'=>∃gl gm,r=.returned (.tuple #[.pointer (U ⟨gl,0,M⟩),.pointer (U ⟨gm,0,M⟩),.bool true])∧Idle gm gl X.heap.size c l s 0 w'∧Below X.heap.size X w'):=fun X g=>by
  have h:=GW c l s (J sa n sc) (J la ln lc) (J aa an ac) (J ca cn cc) (J ka kn kc) X HP.out (HR.out.ah g) (HL.out.ah g) (HA.out.ah g) (HC.out.ah g);rw[ak.out.2.2.2.2.2,EB.out] at h;exact h
 go_enter Tryz.func8,Tryz.ntmps8;go_upto_region 1 with(fail)
 rw[b8.out];go_wp2_with (refine wpList_load_atH (by rfl) 35 (.tmp 1) rfl ⟨w.heap.size,0,M⟩ rfl D _ (rowAtW cw) Tryz.underlying35 rfl Tq ?_);go_upto_region 3 with(go_at_call 10;(with_reducible refine(HV.out _ ad.out).mono ?_);rintro r L ⟨rfl,y1⟩;have z1:=bt ad.out y1 (Nat.le_refl _);have ef:=bm.out _ y1)
 go_wp2_with (refine wpList_load_atH (by rfl) 35 (.tmp 1) rfl ⟨w.heap.size,0,M⟩ rfl D _ (rowAtW ef) Tryz.underlying35 rfl Tq ?_);go_upto_region 4 with(go_at_call 14;(with_reducible refine(eX.out _ z1).mono ?_);rintro r w9 ⟨gl,gm,rfl,dk,cp⟩)
 have dx:Hid (Below z.heap.size z w9):=bt y1 cp (Nat.le_refl _);have dv:Hid (A4 gm gl z.heap.size c l s 0 w9):=dk.toU y1.size;clear dk cp t4 t5 t16;go_wp2;go_loopw [6] (fun iv wr=>∃i:Nat,i≤6∧i≤kn∧iv=Y G (i:Int)∧Hid (A4 gm gl z.heap.size c l s i wr)∧Below z.heap.size z wr) (fun iv _=>6- (intOf iv).toNat)
 case atStart=>exact⟨0,Nat.zero_le _,Nat.zero_le _,rfl,dv.out,dx.out⟩
 case round=>
  obtain⟨i,V0,e5,rfl,dq,a2⟩:=hrel;have e9:(0:Int)≤(i:Int):=Int.natCast_nonneg _;have R:=hid a2;have cy:=t20 wr a2;have aX:Hid (Below w.heap.size w wr):=bt ad.out a2 (Nat.le_refl _);by_cases bX:i<kn∧i<6
  ·obtain ⟨h1,h2⟩:=bX
   have g1:decide ((i:Int)<(kn:Int))=true:=decide_eq_true (by omega);have g2:decide ((i:Int)<6)=true:=decide_eq_true (by omega);have SQ:(i:Int)<(kn:Int):=by omega
   have dR:(i:Int)<6:=by omega
   obtain⟨x,hx⟩:=gs (l:=ks) ak.out.2.2.2.2.1 h1;obtain⟨b2,o2,c2,ao,ct,b4⟩:=HK.out.row hx;rw[ak.out.2.2.2.2.1] at ao;simp only[Value.slice.injEq,true_and] at ao;obtain⟨rfl,rfl⟩:=ao;obtain⟨A,a5⟩:=gE x.C;rw[a5] at b4;have dV:(Tryz.prog.info? 49).map (·.size)=U A.size:=by rw[←a5];exact xar
   have a3:Hid (∀X,Below w.heap.size w X→Calls Tryz.prog 15 #[.agg D,.agg A] X (Fw X n (jY x.fn x.a (x.b%12)))):=fun X g=>by
    have h:=Hy c l (J sa n sc) (J la ln lc) (J aa an ac) (J ca cn cc) (J (U ⟨b2,o2,M⟩) kn kc) lp HG.out.ne HG.out.le HP.out.2.2.2.1 x ct X (HR.out.ah g) (HL.out.ah g);rw[EB.out,a5,ak.out.1] at h;exact h
   obtain⟨Q,hQ⟩:∃Q,jY x.fn x.a (x.b%12)=Q:=⟨_,rfl⟩
   rw[hQ] at a3;have cd:Hid (∀X,Below wr.heap.size wr X→∀j u,A.toList[j]?=U u→X.cell? ((⟨b2,o2+i*6,M⟩:Addr).add j)=U u):=fun X g=>b4 X (bt aX.out g (Nat.le_refl _))
   have kD:Below wr.heap.size wr wr.drew:=(Below.refl _ _).drew;have b6:Hid (∀X,Below wr.heap.size wr X→∀j u,D.toList[j]?=U u→X.cell? ((⟨w.heap.size,0,M⟩:Addr).add j)=U u):=fun X g j u I=>rowAtW (bm.out X (bt R.out g (Nat.le_refl _))) j u I
   have e6:∀X,Below wr.heap.size wr X→X.cell? ⟨w.heap.size,20,M⟩=U (J (U ⟨b2,o2,M⟩) kn kc):=fun X g=>t20 X (bt R.out g (Nat.le_refl _))
   have dK:=hid h1;have cX:Hid (Q.ok=true):=by rw[←hQ];exact T7 _ _ _
   clear hx ct b4 a5 hQ h1 h2 e5;go_upto_region 9 with(fail)
   go_cut [7,8,9] from 40 to 50 (fun s7 s8 s9 wc=>∃(t:Nat) (u:Int) (qb:Nat),s7=Y G (t:Int)∧s8=Y G u∧s9=.pointer (U ⟨qb,0,M⟩)∧Hid (t<n∧1≤u∧u≤247)∧Hid (wc.heap[qb]?=U (H #[Y G Q.fn,Y G Q.addr,Y G Q.aF,Y G Q.code,Y G Q.obj] 45)∧wr.heap.size≤qb)∧Below wr.heap.size wr wc)
   case first=>
    clear t0 t3 t20 cy a2;refine wp_region_held_drew (S:=fun V=>Below wr.heap.size wr V) (by kernel_rfl) kD (fun hH=>?_);clear hH;refine tkD 0 41 (v:=.agg D) rfl (by kernel_rfl) (fun _ _ _ h=>h) rfl (by rfl) (by assumption) (fun X g=>bP 35 (.tmp 1) rfl ⟨w.heap.size,0,M⟩ rfl D _ (b6.out X g) Tryz.underlying35 rfl Tq) ?_;simp only[setS];refine tG 1 42 ?_;refine tG 2 43 ?_;refine tG 3 44 ?_;refine tG 4 45 ?_;refine tkD 5 46 (v:=.agg A) rfl (by kernel_rfl) (fun _ _ _ h=>h) rfl (by rfl) (by assumption) (fun X g=>run_load_rowT 49 (.tmp 45) rfl ⟨b2,o2+i*6,M⟩ rfl A _ (cd.out X g) Tryz.underlying49 rfl dV) ?_;simp only[setS];refine wpAnyH_ready (rs:=[6,11]) (by kernel_rfl) (by simp) ?_;refine AllReadyH.cons rfl (fun K E=>?_) (AllReadyH.cons rfl (fun K E=>?_) AllReadyH.nil)
    ·go_simp
     refine(a3.out _ (bt aX.out kD (Nat.le_refl _))).mono ?_;rintro r y3 ⟨t,u,ht,hu,rfl,a9⟩;have T:=bt kD a9 (Nat.le_refl _);refine E.out _ _ T (fun B=>?_);clear E K B;refine tG 7 40 ?_;refine tG 8 48 ?_;refine tG 9 49 ?_;refine tG 10 50 ?_;refine rdyH 11 rfl (fun K E=>?_);go_simp;have ab:Below wr.heap.size wr (y3.alloc (H #[Y G 0,Y G 0,Y G 0,Y G 0,Y G 0] 45)):=bta T (Nat.le_refl _) _;refine E.out _ _ ab (fun B=>?_);clear E K B;refine tG 12 7 ?_;refine tG 13 8 ?_;refine rdyH 14 rfl (fun K E=>?_);refine step_storeW rfl 45 (.tmp 9) (.tmp 50) rfl y3.heap.size 0 _ 45 #[Y G Q.fn,Y G Q.addr,Y G Q.aF,Y G Q.code,Y G Q.obj] rfl rfl (hpNew y3 (H #[Y G 0,Y G 0,Y G 0,Y G 0,Y G 0] 45)) (by simp) infoRq5 rfl ?_;intro y5 g5 bQ ee;have aY:Below wr.heap.size wr y5:=ab.trans (bQ.below ab.size (fun i hi e=>by have:=T.size;omega));refine E.out _ _ aY (fun B=>?_);clear E K B;refine wpAnyH_done (by kernel_rfl) ?_ _;go_wp2;go_meet
     case rel=>exact⟨t,u,_,rfl,rfl,rfl,⟨ht,hu⟩,⟨g5,T.size⟩,aY⟩
    ·go_simp
     have ab:Below wr.heap.size wr (wr.alloc (H #[Y G 0,Y G 0,Y G 0,Y G 0,Y G 0] 45)).drew:=(bal' wr _).drew;refine E.out _ _ ab (fun B=>?_);clear E K B;refine rdyH 6 rfl (fun K E=>?_);go_simp;refine(a3.out _ (bt aX.out ab (Nat.le_refl _))).mono ?_;rintro r y3 ⟨t,u,ht,hu,rfl,a9⟩;have T:=bt ab a9 (Nat.le_refl _);have p3:y3.heap[wr.heap.size]?=U (H #[Y G 0,Y G 0,Y G 0,Y G 0,Y G 0] 45):=hpKeep (w:=(wr.alloc (H #[Y G 0,Y G 0,Y G 0,Y G 0,Y G 0] 45)).drew) (hpNew wr _) a9;refine E.out _ _ T (fun B=>?_);clear E K B;refine tG 7 40 ?_;refine tG 8 48 ?_;refine tG 9 49 ?_;refine tG 10 50 ?_;refine tG 12 7 ?_;refine tG 13 8 ?_;refine rdyH 14 rfl (fun K E=>?_);refine step_storeW rfl 45 (.tmp 9) (.tmp 50) rfl wr.heap.size 0 _ 45 #[Y G Q.fn,Y G Q.addr,Y G Q.aF,Y G Q.code,Y G Q.obj] rfl rfl p3 (by simp) infoRq5 rfl ?_;intro y5 g5 bQ ee;have aY:Below wr.heap.size wr y5:=T.trans (bQ.below T.size (fun i hi e=>by have e':i=wr.heap.size:=e;omega));refine E.out _ _ aY (fun B=>?_);clear E K B;refine wpAnyH_done (by kernel_rfl) ?_ _;go_wp2;go_meet
     case rel=>exact⟨t,u,_,rfl,rfl,rfl,⟨ht,hu⟩,⟨g5,Nat.le_refl _⟩,aY⟩
   case rest=>
    obtain⟨t,u,qb,rfl,rfl,rfl,a8,ZX,zo⟩:=hcut;obtain⟨WA,S5⟩:∃W,W=wc:=⟨_,rfl⟩
    subst S5;obtain⟨P,cx,f,y,bC,vB,bK,hf⟩:=dq.out;obtain⟨⟨x0,L⟩,a7⟩:=gs (l:=c.bj) ak.out.1 a8.out.1;have ez:aU x0 L:=HG.out.set _ (List.mem_of_getElem? a7);have bA:=bC.bW zo;have sY:=vB.n1;obtain⟨SC,Nn⟩:=gE (xb6 c l s x0 L u Q y.n.aA);have eV:Hid (Qu SC):=by rw[←Nn];exact OQ HG.out HP.out.2.2.2.1 HP.out.2.2.2.2.2 ez
    have Kd:SC.re=re:=by rw[←Nn];exact bn.out
    have Jq:Hid (SC.re=re∧0≤re∧re≤5):=⟨Kd,by rw[←bn.out];exact HG.out.rq,by rw[←bn.out];exact HG.out.qS⟩
    have vO:SC.s0.length≤6*i:=by rw[←Nn];exact vB.sn
    have Z7:∀x∈SC.s0,x.2.length≤256:=by rw[←Nn];exact vB.sl
    have qR:=vB.pl;obtain⟨p0,Lu⟩:=gE y.n.pend.length;rw[Lu] at qR;have cg:=xaD eV.out p0 (by omega) (by omega) y.now (by omega) (by rw[Kd];exact Jq.out.2.2);have cj:Ya SC p0 y.now 0 ⟨y.n,(Tx.new SC.bd SC.pa c.re c.ti c.de).begun u Q y.now⟩:=by
     have h:=Ya.start (sc:=SC) vB (by rw[←Nn];rfl) (by rw[Kd];exact Jq.out.2.1);rw[Lu] at h;rw[←Nn] at h ⊢;exact h
    have c7:c.bj[t]?=U (SC.bd,SC.pa):=by rw[←Nn];exact a7
    have VY:f.l=SC.l∧f.aC=SC.aC∧f.lp=SC.lp:=by rw[←Nn];exact hf
    have c5:Hid (∀X,Below WA.heap.size WA X→Calls Tryz.prog 16 #[.pointer (U ⟨gm,0,M⟩),Y G re,Y G (t:Int),Y G u,.agg #[Y G Q.fn,Y G Q.addr,Y G Q.aF,Y G Q.code,Y G Q.obj]] X (Mu gm gl P c cx f t (KM SC p0 y.now) X)):=fun X g=>
     G2 (bA.bW g) vB.fin t u Q a8.out.2 cX.out vB.n0 (by omega) cg c7 VY cj re Kd Jq.out.2.2
    obtain⟨a0,QE⟩:=gE SC.s0.length;have db:a0≤48:=by rw[←QE];omega
    have cV:Hid (Calls Tryz.prog 20 #[.pointer (U ⟨gl,0,M⟩)] WA fun r w'=>r=.returned (Y G (a0:Int))∧WA=w'):=T8 bA _ (by rw[←QE,←Nn];rfl);have Vb:Hid (∀(m:Nat) (d:Du) (X W:World),Below WA.heap.size WA X→KM SC p0 y.now m d→lX gm gl (ax P X W) c cx f (Sg d t) 1000000000 W→UdN gm gl z.heap.size c l s i SC p0 y.now m d W):=fun m d X W g h1 h2=>
     UdN.of h1 h2 (fun j I=>by
      rcases I with e|e
      ·exact bK j e
      ·have:=R.out.size
       have:=zo.size
       have:=g.size
       omega) hf (by rw[Kd];exact Jq.out.2.2) sY vO V0 qR Z7
    have tg:Hid (∀X W,Below WA.heap.size WA X→Keeps P X W→Below z.heap.size z W∧(∀b o,X.heap[b]?=U o→¬P b→W.heap[b]?=U o)):=fun X W g hk=>
     ⟨((R.out.trans (zo.mono R.out.size)).trans (g.mono (by have:=R.out.size;have:=zo.size;omega))).trans (hk.below (by have:=R.out.size;have:=zo.size;have:=g.size;omega) (fun j I e=>by have:=bK j e;omega)),fun b o h1 h2=>hpKeeps h1 hk h2⟩
    have dE:Hid (∀j,wr.heap.size≤j→¬P j):=fun j I e=>by have:=bC.yU j e;omega
    have c6:Hid (bT x0∧bT L):=by have:=ez.bd;have:=ez.lo;have:=ez.hi;show bT _∧bT _;unfold bT;omega
    have Vh:Hid (SC.bd=x0∧SC.pa=L∧SC.fr=aO u Q):=by rw[←Nn];exact⟨rfl,rfl,rfl⟩
    have a4:=a8;have ds:Hid (Below z.heap.size z WA):=bt R.out zo (Nat.le_refl _);have ep:=hid a7;have KV:=ZX;have bc:=hid QE;have et:=hid db;have pq:=ZX.out.1;have x3:=t3 WA ds.out;clear bC vB bK hf a7 ez bA sY Nn Kd a8 zo dq cy kD e6 b6 cd a3 vO cg cj c7 VY QE db ZX a2 Z7 qR Lu;go_upto_region 12 with(first
     |(go_at_call 20;(with_reducible refine cV.out.mono ?_);rintro r wx ⟨rfl,rfl⟩)
     |(refine wpList_load_row rfl 45 (.tmp 9) rfl qb rfl 45 #[Y G Q.fn,Y G Q.addr,Y G Q.aF,Y G Q.code,Y G Q.obj] (0,0) _ pq Tryz.underlying45 rfl infoRq5 ?_)
     |(go_at_call 16;(with_reducible refine(c5.out _ (Below.refl _ _)).mono ?_);rintro r ba ⟨m,d,da,dc,oa,oc,cz,rfl,AF,cD,N7⟩;obtain⟨O,hO⟩:=gE d.x.shown;rw[hO])
     |(refine wpList_storeW rfl 55 (.tmp 11) (.tmp 62) rfl ba.heap.size 0 _ 55 #[Y G O.verdict,Y G O.ae.fn,Y G O.ae.ar,J da O.ae.data.length dc,Y G O.ae.code,Y G O.ae.level,.bool O.ae.more,Y G O.ae.next,J oa O.ae.ag.length oc] rfl rfl (hpNew ba _) (by simp) sE rfl ?_;intro H3 cf c8 e4))
    obtain⟨-,Z⟩:=cJ (by rfl) cf c8;have RF:=hid (Vb.out m d WA ba (Below.refl _ _) cz cD);obtain⟨e1,e3⟩:=tg.out WA ba (Below.refl _ _) N7;have Xt:Hid (Below z.heap.size z H3):=bt e1 Z (Nat.le_refl _);have eK:Hid (H3.heap[qb]?=U (H #[Y G Q.fn,Y G Q.addr,Y G Q.aF,Y G Q.code,Y G Q.obj] 45)):=hpKeep (e3 qb _ KV.out.1 (dE.out qb KV.out.2)) Z;have dt:Hid (∀X,Below H3.heap.size H3 X→A4 gm gl z.heap.size c l s (i+1) X):=fun X g=>RF.out.idle X (bt Z g (Nat.le_refl _))
    obtain⟨N,hN⟩:∃N,a0+m=N:=⟨_,rfl⟩
    have c4:Hid (Calls Tryz.prog 35 #[.pointer (U ⟨gl,0,M⟩)] H3 fun r w'=>∃a cc,r=.returned (J a N cc)∧Vs H3 d.n.aA a N cc w'):=by
     have h:=RF.out.aA H3 Z;rw[bc.out,hN] at h;exact h
    have b5:Hid (1≤m∧(m:Int)≤re+1∧m≤6):=by
     have h1:=RF.out.dp.2.2;have h2:=Jq.out;rw[h2.1] at h1;show _∧_∧_;omega
    have CM:Hid (a0+m=N∧N≤100):=⟨hN,by have:=b5.out;have:=et.out;omega⟩
    have b7:Hid (∀j,a0≤j→j<N→d.n.aA[j]?=U ((x0,L),aO u Q)):=fun j h1 h2=>by
     obtain⟨f1,f2,f3⟩:=Vh.out;rw[RF.out.dp.1.d.aA,f1,f2,f3,List.getElem?_append_right (by have:=bc.out;omega),bc.out,List.getElem?_replicate,if_pos (by omega)]
    have ej:Hid (∀X,Below H3.heap.size H3 X→∃i2:Nat,i2≤6∧i2≤kn∧(i:Int)+1=(i2:Int)∧6-i2<6-i∧Hid (A4 gm gl z.heap.size c l s i2 X)∧Below z.heap.size z X):=fun X g=>⟨i+1,by omega,by have:=dK.out;omega,by omega,by omega,dt.out X g,bt Xt.out g (Nat.le_refl _)⟩
    clear cf c8 e4 AF cD N7 cz hO e1 e3 pq x3 Z c5 cV Vb tg hN;go_upto_region 13 with(go_at_call 35;(with_reducible refine c4.out.mono ?_);rintro r UM ⟨na,nc,rfl,⟨ff,tA,c9,FW⟩⟩)
    have eA:=hid FW;have dA:=hid tA;have eC:=hid c9;have x3:=t3 UM (bt Xt.out FW (Nat.le_refl _));have pq:=hpKeep eK.out FW;have sN:IntKind.i64.wrap ((a0:Int)+(m:Int))=(N:Int):=by
     have:=CM.out;rw[IntWalk.i64_in _ (by omega)];omega
    have sR:IntKind.i64.wrap (re+1)=re+1:=IntWalk.i64_in _ (by have:=Jq.out;omega);have d1:decide (re+1<(m:Int))=false:=decide_eq_false (by have:=b5.out;omega);clear FW tA c9 c4;go_upto_region 16 with(refine wpList_load_row rfl 45 (.tmp 9) rfl qb rfl 45 #[Y G Q.fn,Y G Q.addr,Y G Q.aF,Y G Q.code,Y G Q.obj] (0,0) _ pq Tryz.underlying45 rfl infoRq5 ?_)
    obtain⟨X8,S1⟩:∃W,UM.alloc (H #[Y G 0,Y G 0,Y G 0,Y G 0,Y G 0,Y G 0,Y G u,Y G Q.fn,Y G Q.addr,Y G Q.aF,Y G Q.code,Y G Q.obj,Y G 0,Y G 0,Y G 0,Y G 0,J none 0 0,Y G 0,.bool false,.bool false,Y G 0,Y G 0,Y G 0,J none 0 0,Y G 0,Y G 0,.bool false,Y G 0,J none 0 0] 93)=W:=⟨_,rfl⟩
    rw[S1];have Y1:Below UM.heap.size UM X8:=by rw[←S1];exact bal' _ _
    have pk:X8.heap[UM.heap.size]?=U (H #[Y G 0,Y G 0,Y G 0,Y G 0,Y G 0,Y G 0,Y G u,Y G Q.fn,Y G Q.addr,Y G Q.aF,Y G Q.code,Y G Q.obj,Y G 0,Y G 0,Y G 0,Y G 0,J none 0 0,Y G 0,.bool false,.bool false,Y G 0,Y G 0,Y G 0,J none 0 0,Y G 0,Y G 0,.bool false,Y G 0,J none 0 0] 93):=by rw[←S1];exact hpNew _ _
    obtain⟨FM,a6⟩:=gE (aO u Q);have dz:Hid (∀X,Below X8.heap.size X8 X→Calls Tryz.prog 36 #[.pointer (U ⟨UM.heap.size,0,M⟩)] X (zT X FM)):=fun X g=>by
     rw[←a6];refine GG UM.heap.size u a4.out.2.1 a4.out.2.2 Q cX.out X (hpCell (hpKeep pk g) 6) (fun j v I=>?_);rw[Addr.add_lit,hpCell (hpKeep pk g)];rcases j with _|_|_|_|_|j<;>cases I<;>rfl
    have KO:Hid (FM.length≤256):=by show _≤_;rw[←a6];exact(jc u Q).2
    rw[a6] at b7;obtain⟨fn,zu⟩:=gE FM.length;have C1:=hid zu;have cT:Hid (Below H3.heap.size H3 X8):=bt eA.out Y1 (Nat.le_refl _);have ei:=hid Y1;obtain⟨wo,Cx⟩:∃W,W=wr:=⟨_,rfl⟩
    subst Cx;obtain⟨b3,o3,c3,Q5,-,-,fO⟩:=HR.out.at ep.out;rw[ak.out.1] at Q5;simp only[Value.slice.injEq,true_and] at Q5;obtain⟨rfl,rfl⟩:=Q5;have td:=hid fO;have tn:(t:Int)<(n:Int):=by have:=a4.out.1;omega
    have fm:(0:Int)≤(t:Int):=Int.natCast_nonneg _;have fo:decide (t<n)=true:=decide_eq_true a4.out.1;clear S1 Y1 pk a6 zu fO x3 pq sN sR d1;go_wp2;go_loopw [16] (fun jv wr=>∃j:Nat,a0≤j∧j≤N∧jv=Y G (j:Int)∧Below X8.heap.size X8 wr) (fun jv _=>N- (intOf jv).toNat)
    case atStart=>exact⟨a0,Nat.le_refl _,by have:=CM.out;omega,rfl,Below.refl _ _⟩
    case round=>
     obtain⟨j,ea,e8,rfl,Tc⟩:=hrel;have Ts:(0:Int)≤(j:Int):=Int.natCast_nonneg _;have zW:=hid Tc;by_cases I:j<N
     ·have g1:decide ((j:Int)<(N:Int))=true:=decide_eq_true (by omega)
      have SQ:(j:Int)<(N:Int):=by omega
      have g2:decide (j<N)=true:=decide_eq_true I;obtain⟨b,o,c0,hv,bZ⟩:=IP dA.out (by omega);simp only[Value.slice.injEq,true_and] at hv;obtain⟨rfl,rfl⟩:=hv;have hx:(d.n.aA.take N)[j]?=U ((x0,L),FM):=by rw[List.getElem?_take,if_pos I];exact b7.out j ea I
      obtain⟨r,ec,⟨fa,fc,hr,jI⟩,Wl⟩:=eU.get _ _ eC.out j _ hx;subst hr;have hB:∀X,Below wr.heap.size wr X→Below UM.heap.size UM X:=fun X g=>bt (bt ei.out zW.out (Nat.le_refl _)) g (Nat.le_refl _)
      have cb:Hid (∀X,Below wr.heap.size wr X→Below z.heap.size z X):=fun X g=>bt (bt Xt.out (bt cT.out zW.out (Nat.le_refl _)) (Nat.le_refl _)) g (Nat.le_refl _)
      have hc:∀X,Below wr.heap.size wr X→∀k v,[Value.int .i64 x0,Y G L,J fa fn fc][k]?=U v→X.cell? ⟨b,o+j*3+k,M⟩=U v:=fun X g k v hk=>by
       refine cell_keep (hB X g) ?_;have h:=bZ (j*3+k) v (Wl k v (by rw[C1.out];exact hk));rw[←Nat.add_assoc] at h;exact h
      have eR:Hid (∀X,Below wr.heap.size wr X→∀k v,(#[Y G x0,Y G L]:Array Value).toList[k]?=U v→X.cell? ((⟨b,o+j*3,M⟩:Addr).add k)=U v):=fun X g k v hk=>by
       rw[Addr.add_lit];refine hc X g k v ?_;rcases k with _|_|k<;>cases hk<;>rfl
      have q2:∀X,Below wr.heap.size wr X→X.cell? ⟨b,o+j*3+2,M⟩=U (J fa fn fc):=fun X g=>hc X g 2 _ rfl
      have LZ:Hid (∀X,Below wr.heap.size wr X→∀k v,(#[Y G x0,Y G L]:Array Value).toList[k]?=U v→X.cell? ((⟨b3,o3+t*2,M⟩:Addr).add k)=U v):=fun X g k v hk=>by
       obtain⟨e0,e1⟩:=td.out X (bt ad.out (cb.out X g) (Nat.le_refl _));rw[Addr.add_lit];rcases k with _|_|k
       ·cases hk;exact e0
       ·cases hk;exact e1
       ·cases hk
      have y0:∀X,Below wr.heap.size wr X→X.cell? ⟨w.heap.size,0,M⟩=U (J (U ⟨b3,o3,M⟩) n sc):=fun X g=>t0 X (cb.out X g)
      have dM:Hid (∀X,Below wr.heap.size wr X→(convert 50 9 (J fa fn fc)).run Tryz.prog X=.ok (.string ⟨FM.toArray⟩) X):=fun X g=>by
       have h:=jI X (Keeps.af (hB X g));rw[C1.out] at h;exact IQ Tryz.underlying50 Tryz.underlying5 h _ Tryz.underlying9
      have iz:∀X,(binOp .neq 61 (.agg #[Y G x0,Y G L]) (.agg #[Y G x0,Y G L])).run Tryz.prog X=.ok (.bool false) X:=xas x0 L c6.out.1 c6.out.2;have kD:Below wr.heap.size wr wr.drew:=(Below.refl _ _).drew;clear hx ec jI Wl hc hB bZ Tc t0 t3 t20;go_upto_region 19 with(fail)
      refine wp_region_held_drew (S:=fun V=>Below wr.heap.size wr V) (by kernel_rfl) kD (fun hH=>?_);clear hH;refine tG 0 96 ?_;refine tG 1 97 ?_;refine tG 2 98 ?_;refine tG 3 99 ?_;refine tkD 4 100 (v:=.agg #[Y G x0,Y G L]) rfl (by kernel_rfl) (fun _ _ _ h=>h) rfl (by rfl) (by assumption) (fun X g=>run_load_rowT 61 (.tmp 99) rfl ⟨b,o+j*3,M⟩ rfl #[Y G x0,Y G L] _ (eR.out X g) Tryz.underlying61 rfl nW) ?_;simp only[setS];refine tG 5 101 ?_;refine tG 6 102 ?_;refine tG 7 103 ?_;refine tG 8 104 ?_;refine tG 9 105 ?_;refine tkD 10 106 (v:=.agg #[Y G x0,Y G L]) rfl (by kernel_rfl) (fun _ _ _ h=>h) rfl (by rfl) (by assumption) (fun X g=>run_load_rowT 61 (.tmp 105) rfl ⟨b3,o3+t*2,M⟩ rfl #[Y G x0,Y G L] _ (LZ.out X g) Tryz.underlying61 rfl nW) ?_;simp only[setS];refine tG 11 107 ?_;refine tG 12 108 ?_;refine tG 13 109 ?_;refine tG 14 110 ?_;refine tG 15 111 ?_;refine tG 16 112 ?_;refine tG 17 113 ?_;refine tkD 18 114 (v:=.string ⟨FM.toArray⟩) rfl (by kernel_rfl) (fun _ _ _ h=>h) rfl (by rfl) (by assumption) (fun X g=>BV 50 9 (.tmp 113) rfl _ _ rfl (dM.out X g)) ?_;simp only[setS];refine tG 19 115 ?_;refine rdyH 20 rfl (fun K E=>?_);go_simp;refine(dz.out _ (bt zW.out kD (Nat.le_refl _))).mono ?_;rintro r wy ⟨ga,gc,rfl,eb,sW⟩;have bx:=bt kD sW (Nat.le_refl _);have dN:Hid (∀X,Below wy.heap.size wy X→(convert 50 9 (J ga FM.length gc)).run Tryz.prog X=.ok (.string ⟨FM.toArray⟩) X):=fun X g=>IQ Tryz.underlying50 Tryz.underlying5 (Bs.own (own_keeps eb (Keeps.af (F:=fun _=>False) g) (fun _ _ e=>e))) _ Tryz.underlying9
      refine E.out _ _ bx (fun B=>?_);clear E K B;refine vV (S':=fun V=>Below wr.heap.size wr V∧Below wy.heap.size wy V) (fun V h=>h.1) _ _ _ _ ?_;have kT:Below wr.heap.size wr wy∧Below wy.heap.size wy wy:=⟨bx,Below.refl _ _⟩
      refine tkD 21 117 (v:=.string ⟨FM.toArray⟩) rfl (by kernel_rfl) (fun _ _ _ h=>h) rfl (by rfl) (by assumption) (fun X g=>BV 50 9 (.tmp 116) rfl _ _ rfl (dN.out X g.2)) ?_;simp only[setS];refine tG 22 118 ?_;refine tG 23 119 ?_;refine wpAnyH_done (by kernel_rfl) ?_ _;have s3:IntKind.i64.wrap ((j:Int)+1)=((j+1:Nat):Int):=(IntWalk.i64_in _ (by have:=CM.out;omega)).trans (by omega);go_wp2;go_roundw
      case rel=>exact⟨j+1,by omega,by omega,rfl,bt zW.out bx (Nat.le_refl _)⟩
      case measure=>simp [intOf];omega
     ·have g1:decide ((j:Int)<(N:Int))=false:=decide_eq_false (by omega)
      have SQ:¬(j:Int)<(N:Int):=by omega
      obtain⟨i2,q1,q2,q3,q4,q5,q6⟩:=ej.out wr (bt cT.out zW.out (Nat.le_refl _));have s1:IntKind.i64.wrap ((i:Int)+1)=(i2:Int):=(IntWalk.i64_in _ (by omega)).trans q3;go_wp2;go_roundw
      case rel=>exact⟨i2,q1,q2,rfl,q5,q6⟩
      case measure=>simp [intOf];omega
  ·by_cases h1:i<kn
   ·have g1:decide ((i:Int)<(kn:Int))=true:=decide_eq_true (by omega)
    have SQ:(i:Int)<(kn:Int):=by omega
    have g2:decide ((i:Int)<6)=false:=decide_eq_false (by omega);have dR:¬(i:Int)<6:=by omega
    clear h1 bX;go_wp2_with (go_at_call 13;(with_reducible refine(pY _).mono ?_);rintro r wz ⟨rfl,Le⟩);go_ret;exact⟨rfl,bt aX.out Le (Nat.le_refl _)⟩
   ·have g1:decide ((i:Int)<(kn:Int))=false:=decide_eq_false (by omega)
    have SQ:¬(i:Int)<(kn:Int):=by omega
    clear h1 bX;go_wp2_with (go_at_call 13;(with_reducible refine(pY _).mono ?_);rintro r wz ⟨rfl,Le⟩);go_ret;exact⟨rfl,bt aX.out Le (Nat.le_refl _)⟩
