import Derived.Test.YtoaoejaodhedaaaGreatT20
namespace Go.Proofs.YtoaoejaodhedaaaGreat
open Go.RowKit
open Value renaming slice→J,int→Z
open Option renaming none→M,some→U
open IntKind renaming i64→Y
open Obj renaming cells→O
open Ending renaming returned→I
set_option maxHeartbeats 12800000
set_option maxRecDepth 100000
variable {lp:Bool} {l:List Ch} {s:Ln} {ac an c g lc ln:Nat} {F G H P Q:Nat→Prop} {a aa la:Option Addr} {QT av pv pv' sv tv v v7:Value} {W W' X w w':World}
theorem DQ (g:Nat) (la:Option Addr) (lc ln:Nat) (l:List Sl) (hl:l.length=ln) (hB:cW l) (bd pa:Int) (f1:bT bd) (f2:bT pa) (fa:Option Addr) (fn fc:Nat) (f:List UInt8) (bf fault pos mask ai value:Int) (h3:fault=3) (p0:0≤pos) (m0:1≤mask) (m1:mask≤65535) (x0:0≤value) (x1:value≤65535) (w:World) (iT:w.cell? ⟨g,0,M⟩=U (J la ln lc)) (hL:dm w (J la ln lc) l) (hf:Bs w (J fa fn fc) f):
  Calls Tryz.prog 127 #[.pointer (U ⟨g,0,M⟩),.agg #[Z Y bd,Z Y pa],J fa fn fc,.agg #[Z Y bf,Z Y fault,Z Y pos,Z Y mask,Z Y ai,Z Y value]] w (fX w (dL l ⟨bf,fault,pos,mask,ai,value⟩ bd pa f)):=by
 obtain⟨t,ak⟩:∃W,(w.alloc (O #[Z Y bd,Z Y pa] 61)).alloc (O #[Z Y bf,Z Y fault,Z Y pos,Z Y mask,Z Y ai,Z Y value] 70)=W:=⟨_,rfl⟩;have x:Hid (XF w t g bd pa #[Z Y bf,Z Y fault,Z Y pos,Z Y mask,Z Y ai,Z Y value] la ln lc):=(by have hb:Below w.heap.size w t:=(by rw[←ak];exact bta (bal' w _) (Nat.le_refl _) _);refine⟨hb,by rw[←ak];simp,by rw[←ak];exact hpKeep (hpNew w _) (bal' _ _),?_,cell_keep hb iT⟩;rw[←ak];have h:=hpNew (w.alloc (O #[Z Y bd,Z Y pa] 61)) (O #[Z Y bf,Z Y fault,Z Y pos,Z Y mask,Z Y ai,Z Y value] 70);rw[World.size_alloc] at h;exact h);obtain⟨ab,fE⟩:∃n,w.heap.size+1=n:=⟨_,rfl⟩;have iX:Hid (t.heap[ab]?=U (O #[Z Y bf,Z Y fault,Z Y pos,Z Y mask,Z Y ai,Z Y value] 70)):=(by rw[←fE];exact x.out.a);have ad:=hid ak;have rL:=hid fE;clear ak fE;have s0:∀X,Below t.heap.size t X→X.cell? ⟨w.heap.size,0,M⟩=U (Z Y bd):=(fun X h=>hpCell (hpKeep x.out.s h) 0);have s1:∀X,Below t.heap.size t X→X.cell? ⟨w.heap.size,1,M⟩=U (Z Y pa):=(fun X h=>hpCell (hpKeep x.out.s h) 1);have a1:=cF iX.out 1 rfl;have a2:=cF iX.out 2 rfl;have a3:=cF iX.out 3 rfl;have a5:=cF iX.out 5 rfl;have c0:∀X,Below t.heap.size t X→X.cell? ⟨g,0,M⟩=U (J la ln lc):=(fun X h=>cell_keep h x.out.c0);have k0:Below t.heap.size t t:=Below.refl _ _;have A:Below t.heap.size t t.drew:=(Below.refl _ _).drew;obtain⟨R,hR⟩:=gE ((cI l bd pa f value).getD []);obtain⟨u,dN⟩:=gE R.length;have iV:Hid (∀X,Below t.heap.size t X→Calls Tryz.prog 163 #[J la ln lc,.agg #[Z Y bd,Z Y pa],J fa fn fc,Z Y value] X fun r w'=>∃a c B,r=I (.tuple #[J a u c,.bool B])∧w'.ownsRow X.heap.size 5 1 (J a u c) u (u8s R)∧Below X.heap.size X w'):=(fun X hX=>(mO la lc ln l hl hB bd pa f1 f2 fa fn fc f value x0 x1 X (hL.ah (bt x.out.b hX (Nat.le_refl _))) (hf.ah (bt x.out.b hX (Nat.le_refl _)))).mono fun _ _ h=>by rw[←hR];exact h.uni (by rw[hR];exact dN));have rX:=hid dN;have HR:=hid hR;have e1:(fault==1)=false:=b0 (by omega);have e2:(fault==2)=false:=b0 (by omega);have e3:(fault==3)=true:=b1 h3;have e5:(fault==5)=false:=b0 (by omega);cases ho:cm l bd pa f with
 |none=>
  have a7:R=[]:=by rw[←hR];unfold cI;rw[ho];rfl
  have hE:dL l ⟨bf,fault,pos,mask,ai,value⟩ bd pa f=[]:=by
   unfold dL sN;dsimp only;rw[if_neg (by omega),if_neg (by omega),ho,if_neg (by rintro ⟨_,h⟩;cases h),hR,a7]
  subst a7;have Rv:u=0:=dN.symm;subst Rv;rw[hE];clear iT hL hf hB hl f1 f2 dN hR h3 x0 x1 hE ho;go_enter Tryz.func127,Tryz.ntmps127;go_upto_region 1 with(fail)
  rw[ad.out,rL.out];go_upto_region 3 with(fail)
  refine wp_region_held_drew (S:=fun V=>Below t.heap.size t V) (by kernel_rfl) A (fun hH=>?_);clear hH;refine tG 0 14 ?_;refine tG 1 15 ?_;refine tG 2 16 ?_;refine tG 3 17 ?_;refine tG 4 18 ?_;refine tG 5 19 ?_;refine tG 6 20 ?_;refine tG 7 21 ?_;refine rdyH 8 rfl (fun K hK=>?_);go_simp;refine(iV.out _ A).mono ?_;rintro r w4 ⟨ra,rc,B,rfl,m,aY⟩;have b:=bt A aY (Nat.le_refl _);refine hK.out _ _ b (fun C=>?_);clear hK K C;refine tG 9 13 ?_;refine tG 10 23 ?_;refine tG 11 24 ?_;refine tkD 12 9 (v:=?_) rfl (by kernel_rfl) (fun _ _ _ h=>h) rfl (by rfl) (by assumption) ?_ ?_;rotate_left;(intro w bK;(try dsimp only at bK);(try go_simp);try rfl);refine wpAnyH_done (by kernel_rfl) ?_ _;have Kt:=a1 _ b;have uG:=hid m;clear m;go_wp2;go_ret;have hz:=A.size;exact⟨ra,rc,rfl,own_lower uG.out (Nat.le_trans x.out.b.size hz),bt x.out.b b (Nat.le_refl _)⟩
 |some o=>
  obtain⟨V,hV⟩:∃V,decide (o.2.2.length=1)=V:=⟨_,rfl⟩
  have hE:dL l ⟨bf,fault,pos,mask,ai,value⟩ bd pa f=if V=true then qw ⟨bf,fault,pos,mask,ai,value⟩ R else R:=by
   have om:sN l bd pa f=V:=by unfold sN;rw[ho];exact hV
   unfold dL;dsimp only;rw[if_neg (by omega),if_neg (by omega),hR];cases V with
   |false=>rw[if_neg (by rw[om];rintro ⟨_,h⟩;cases h),if_neg (by decide)]
   |true=>rw[if_pos ⟨h3,om⟩,if_pos rfl]
  have S7:5≤u∧u≤256:=by
   rw[←dN,←hR];unfold cI;rw[ho];exact lI hB ho value
  have a6:Hid (∀X,Below t.heap.size t X→Calls Tryz.prog 164 #[.pointer (U ⟨g,0,M⟩),.agg #[Z Y bd,Z Y pa],J fa fn fc] X (aj X V)):=fun X hX=>yS g la lc ln l hl hB bd pa f1 f2 fa fn fc f o ho V hV X (cell_keep hX x.out.c0) (hL.ah (bt x.out.b hX (Nat.le_refl _))) (hf.ah (bt x.out.b hX (Nat.le_refl _)))
  rw[hE];obtain⟨bc,bn⟩:=S7;have gl:decide ((0:Int)<(u:Int))=true:=decide_eq_true (by omega);have a4:0<u:=by omega
  clear iT hL hf hB hl f1 f2 dN hR h3 x0 x1 hE ho hV;cases V with
  |false=>
   rw[if_neg (by decide)];go_enter Tryz.func127,Tryz.ntmps127;go_upto_region 1 with(fail)
   rw[ad.out,rL.out];go_upto_region 3 with(fail)
   refine wp_region_held_drew (S:=fun V=>Below t.heap.size t V) (by kernel_rfl) A (fun hH=>?_);clear hH;refine tG 0 14 ?_;refine tG 1 15 ?_;refine tG 2 16 ?_;refine tG 3 17 ?_;refine tG 4 18 ?_;refine tG 5 19 ?_;refine tG 6 20 ?_;refine tG 7 21 ?_;refine rdyH 8 rfl (fun K hK=>?_);go_simp;refine(iV.out _ A).mono ?_;rintro r w4 ⟨ra,rc,B,rfl,m,aY⟩;have b:=bt A aY (Nat.le_refl _);refine hK.out _ _ b (fun C=>?_);clear hK K C;refine tG 9 13 ?_;refine tG 10 23 ?_;refine tG 11 24 ?_;refine tkD 12 9 (v:=?_) rfl (by kernel_rfl) (fun _ _ _ h=>h) rfl (by rfl) (by assumption) ?_ ?_;rotate_left;(intro w bK;(try dsimp only at bK);(try go_simp);try rfl);refine wpAnyH_done (by kernel_rfl) ?_ _;have Kt:=a1 _ b;have Ve:=s0 _ b;have UC:=s1 _ b;have uG:=hid m;clear m;go_wp2_with (go_at_call 164;(with_reducible refine(a6.out _ b).mono ?_);rintro r w5 ⟨rfl,N⟩);go_ret;have hz:=A.size;exact⟨ra,rc,(by rw[rX.out]<;>rfl),by rw[rX.out];exact own_lower (own_keeps (F:=fun _=>False) uG.out (Keeps.af N) (fun _ _ e=>e)) (Nat.le_trans x.out.b.size hz),bt (bt x.out.b b (Nat.le_refl _)) N (Nat.le_refl _)⟩
  |true=>
   rw[if_pos rfl];obtain⟨D,hD⟩:∃D,qw ⟨bf,fault,pos,mask,ai,value⟩ R=D:=⟨_,rfl⟩
   rw[hD];obtain⟨p,hp⟩:∃p,pos.toNat%u=p:=⟨_,rfl⟩
   have yq:p<u:=by rw[←hp];exact Nat.mod_lt _ a4
   have r2:pos%(u:Int)=(p:Int):=by rw[←hp,Int.natCast_emod,Int.toNat_of_nonneg p0]
   have r1:pos.tmod (u:Int)=(p:Int):=by rw[Int.tmod_eq_emod_of_nonneg p0,r2]
   have r3:¬(u:Int)=0:=by omega
   have r4:(0:Int)≤(p:Int):=by omega
   have r5:(p:Int)<(u:Int):=by omega
   obtain⟨n1,j7⟩:∃n,mask.toNat%256=n:=⟨_,rfl⟩
   obtain⟨T,iL⟩:∃n,mask.toNat/256=n:=⟨_,rfl⟩
   have ba:n1<256:=by omega
   have a9:T<256:=by omega
   have u1:IntKind.u8.wrap mask=(n1:Int):=by rw[IntKind.wrap_u8,←j7];omega
   have u2:IntKind.u8.wrap (mask/256)=(T:Int):=by rw[IntKind.wrap_u8,←iL];omega
   have HD:=hid hD;have Wt:=hid (And.intro hp (And.intro j7 iL));clear hD hp j7 iL;go_enter Tryz.func127,Tryz.ntmps127;go_upto_region 1 with(fail)
   rw[ad.out,rL.out];go_upto_region 3 with(fail)
   refine wp_region_held_drew (S:=fun V=>Below t.heap.size t V) (by kernel_rfl) A (fun hH=>?_);clear hH;refine tG 0 14 ?_;refine tG 1 15 ?_;refine tG 2 16 ?_;refine tG 3 17 ?_;refine tG 4 18 ?_;refine tG 5 19 ?_;refine tG 6 20 ?_;refine tG 7 21 ?_;refine rdyH 8 rfl (fun K hK=>?_);go_simp;refine(iV.out _ A).mono ?_;rintro r w4 ⟨ra,rc,B,rfl,m,aY⟩;have b:=bt A aY (Nat.le_refl _);refine hK.out _ _ b (fun C=>?_);clear hK K C;refine tG 9 13 ?_;refine tG 10 23 ?_;refine tG 11 24 ?_;refine tkD 12 9 (v:=?_) rfl (by kernel_rfl) (fun _ _ _ h=>h) rfl (by rfl) (by assumption) ?_ ?_;rotate_left;(intro w bK;(try dsimp only at bK);(try go_simp);try rfl);refine wpAnyH_done (by kernel_rfl) ?_ _;have Kt:=a1 _ b;have Ve:=s0 _ b;have UC:=s1 _ b;have uG:=hid m;clear m;go_upto_region 10 with(go_at_call 164;(with_reducible refine(a6.out _ b).mono ?_);rintro r w5 ⟨rfl,N⟩)
   have L:=bt b N (Nat.le_refl _);have hz:=A.size;have z:Hid (w5.ownsRow w.heap.size 5 1 (J ra u rc) u (u8s R)):=own_lower (own_keeps (F:=fun _=>False) uG.out (Keeps.af N) (fun _ _ e=>e)) (Nat.le_trans x.out.b.size hz);obtain⟨y,cap,kz,bm,-,-⟩:=cK z.out a4;simp only[Value.slice.injEq,true_and] at kz;obtain⟨rfl,rfl⟩:=kz;have cz:=ey z.out p yq;have N4:=z.out.frozenAt p;have a8:=a3 _ L;have XI:=a2 _ L;clear Kt Ve UC;go_upto_region 12 with(fail)
   go_region;obtain⟨W6,mF⟩:∃W,(w5.setCell ⟨y,p,M⟩ (Z .u8 (bits .xor .u8 (((R[p]?.getD 0).toNat:Nat):Int) (n1:Int)))).drew=W:=⟨_,rfl⟩
   have Ql:(Value.int .u8 (bits .xor .u8 (((R[p]?.getD 0).toNat:Nat):Int) (n1:Int)))=bD ((R.getD p 0)^^^UInt8.ofNat n1):=G6 (R.getD p 0) n1 ba;have Pu:Keeps (· =y) w5 W6:=by rw[←mF];exact(ks1 (p:=y) (Keeps.refl _ w5) p _).trans (Keeps.af (F:=fun _=>False) (Below.refl _ _).drew) (fun _ _ e=>e.elim)
   have E:Hid (W6.ownsRow w.heap.size 5 1 (J (U ⟨y,0,M⟩) u rc) u (u8s (dy R p n1))):=by
    have h:=(z.out.stored p (bD ((R.getD p 0)^^^UInt8.ofNat n1))).1;rw[gH] at h;show World.ownsRow _ _ _ _ _ _ _;rw[←mF,Ql];exact own_keeps (F:=fun _=>False) h (Keeps.af (Below.refl _ _).drew) (fun _ _ e=>e)
   have ao:Hid (Below w.heap.size w W6):=(x.out.b.trans (L.mono x.out.b.size)).trans (Pu.below (by have:=x.out.b.size;have:=L.size;omega) (fun j hj e=>by omega));have fE:ab<t.heap.size:=hpLt iX.out;have Ye:¬ab=y:=by have:=rL.out;have h1:=z.out.lt y rfl;have:=(uG.out.lt y rfl).1;have:=x.out.z;have:=A.size;omega
   have a8:W6.cell? ⟨ab,3,M⟩=U (Z Y mask):=hpCell (hpKeeps (hpKeep iX.out L) Pu Ye) 3;rw[mF];clear mF Pu Ql cz N4 XI z;obtain⟨q,hq⟩:∃q,p+1=q:=⟨_,rfl⟩
   have t1:IntKind.i64.wrap ((p:Int)+1)=(q:Int):=(IntWalk.i64_in _ (by omega)).trans (by omega);by_cases SJ:q<u
   ·have t2:(q:Int)<(u:Int):=by omega
    have t3:(0:Int)≤(q:Int):=by omega
    have cz:=ey E.out q SJ;have N4:=E.out.frozenAt q;have HQ:=hid hq;have Mz:=hid SJ;clear hq SJ;go_upto_region 14 with(fail)
    go_region;have Ql:(Value.int .u8 (bits .xor .u8 ((((dy R p n1)[q]?.getD 0).toNat:Nat):Int) (T:Int)))=bD (((dy R p n1).getD q 0)^^^UInt8.ofNat T):=G6 ((dy R p n1).getD q 0) T a9;obtain⟨W7,Ke⟩:∃W,(W6.setCell ⟨y,q,M⟩ (Z .u8 (bits .xor .u8 ((((dy R p n1)[q]?.getD 0).toNat:Nat):Int) (T:Int)))).drew=W:=⟨_,rfl⟩
    have aX:Keeps (· =y) W6 W7:=by rw[←Ke];exact(ks1 (p:=y) (Keeps.refl _ W6) q _).trans (Keeps.af (F:=fun _=>False) (Below.refl _ _).drew) (fun _ _ e=>e.elim)
    have KP:Hid (W7.ownsRow w.heap.size 5 1 (J (U ⟨y,0,M⟩) u rc) u (u8s (dy (dy R p n1) q T))):=by
     have h:=(E.out.stored q (bD (((dy R p n1).getD q 0)^^^UInt8.ofNat T))).1;rw[gH] at h;show World.ownsRow _ _ _ _ _ _ _;rw[←Ke,Ql];exact own_keeps (F:=fun _=>False) h (Keeps.af (Below.refl _ _).drew) (fun _ _ e=>e)
    have Po:Hid (Below w.heap.size w W7):=ao.out.trans (aX.below ao.out.size (fun j hj e=>by have:=(E.out.lt y rfl).1;omega));rw[Ke];clear Ke aX Ql;go_wp2;go_ret;have hd:dy (dy R p n1) q T=D:=by
     obtain⟨e1,e2,e3⟩:=Wt.out;rw[←HD.out];unfold qw;dsimp only;rw[rX.out,e1,if_pos (by rw[HQ.out];exact Mz.out),e2,e3,HQ.out]
    have et:D.length=u:=by rw[←hd,cR,cR,rX.out]
    exact⟨some ⟨y,0,M⟩,rc,(by rw[et]<;>rfl),(by rw[et,←hd];exact KP.out),Po.out⟩
   ·have t2:¬(q:Int)<(u:Int):=by omega
    have HQ:=hid hq;have Mz:=hid SJ;clear hq SJ;go_wp2;go_ret;have hd:dy R p n1=D:=by
     obtain⟨e1,e2,e3⟩:=Wt.out;rw[←HD.out];unfold qw;dsimp only;rw[rX.out,e1,if_neg (by rw[HQ.out];exact Mz.out),e2]
    have et:D.length=u:=by rw[←hd,cR,rX.out]
    exact⟨some ⟨y,0,M⟩,rc,(by rw[et]<;>rfl),(by rw[et,←hd];exact E.out),ao.out⟩
theorem DL (g:Nat) (la:Option Addr) (lc ln:Nat) (l:List Sl) (m:l.length=ln) (p:cW l) (bd pa:Int) (f1:bT bd) (f2:bT pa) (fa:Option Addr) (fn fc:Nat) (f:List UInt8) (a:At) (q:a.ok) (w:World) (d:w.cell? ⟨g,0,M⟩=U (J la ln lc)) (o:dm w (J la ln lc) l) (n:Bs w (J fa fn fc) f):
  Calls Tryz.prog 127 #[.pointer (U ⟨g,0,M⟩),.agg #[Z Y bd,Z Y pa],J fa fn fc,.agg a.C] w (fX w (dL l a bd pa f)):=by
 obtain⟨b1,b2,b3,j,r,t⟩:=At.nC q;obtain⟨bf,fault,pos,mask,ai,value⟩:=a;rw[At.bG] at q;dsimp only at b1 b2 b3 j r t;by_cases b:fault=1∨fault=2
 ·have e:dL l ⟨bf,fault,pos,mask,ai,value⟩ bd pa f=[]:=by unfold dL;rw[if_pos b]
  rw[e];exact zQ g la lc ln bd pa fa fn fc bf fault pos mask ai value b w d
 ·by_cases i:fault=5
  ·have e:dL l ⟨bf,fault,pos,mask,ai,value⟩ bd pa f=(dC l bd pa f).getD []:=by unfold dL;rw[if_neg b,if_pos i]
   rw[e];exact yH g la lc ln l m p bd pa f1 f2 fa fn fc f bf fault pos mask ai value i w d o n
  ·by_cases k:fault=3
   ·exact DQ g la lc ln l m p bd pa f1 f2 fa fn fc f bf fault pos mask ai value k (by omega) (by omega) (by omega) b3 j w d o n
   ·have e:dL l ⟨bf,fault,pos,mask,ai,value⟩ bd pa f=(cI l bd pa f value).getD []:=by unfold dL;rw[if_neg b,if_neg i,if_neg (fun h=>k h.1)]
    rw[e];exact wF g la lc ln l m p bd pa f1 f2 fa fn fc f bf fault pos mask ai value (fun h=>b (.inl h)) (fun h=>b (.inr h)) i k b3 j w d o n
theorem O7:(Tryz.prog.info? 95).map (fun i=>(i.zero,i.size,i.bytes))=U (U (.agg #[Z Y 0,Z Y 0,J none 0 0]),3,40):=by kernel_rfl
theorem jN.jM (h:jN P W v l):∀j,v.ownBlock=U j→P j:=fun j b=>by
 rcases h with⟨rfl,_⟩|⟨g,o,c,N,rfl,k,i,e,f,d⟩
 ·cases b
 ·injection b with b
  subst b;exact d
theorem jN.QM (h:jN P W v l):jN (fun j=>v.ownBlock=U j) W v l:=by
 rcases h with h|⟨g,o,c,N,rfl,f,e,b,d,i⟩
 ·exact .inl h
 ·exact .inr ⟨g,o,c,N,rfl,f,e,b,d,rfl⟩
def NR (F:Nat→Prop) (W:World) (r:List Value) (x:(Int×Int)×List UInt8):Prop:=∃a c,r=[Z Y x.1.1,Z Y x.1.2,J a x.2.length c]∧∀X,Keeps F W X→Bs X (J a x.2.length c) x.2
theorem NR.keeps (f:Keeps H W W') (d:∀j,j<W.heap.size→H j→F j) (i:∀j,j<W.heap.size→G j→F j) (r:List Value) (x:(Int×Int)×List UInt8) (h:NR F W r x):NR G W' r x:=by
 obtain⟨a,c,e,b⟩:=h;exact⟨a,c,e,fun X k=>b X ((f.mono d).trans k i)⟩
def ZZ (P:Nat→Prop) (g:Nat) (tv pv:Value) (j:Nat):Prop:=j=g∨tv.ownBlock=U j∨pv.ownBlock=U j∨¬P j
structure LnS (P:Nat→Prop) (W:World) (g:Nat) (sv av:Value) (lp:Bool) (s:Ln) (tv pv:Value) (cs:List Value):Prop where
 at_:W.heap[g]?=U (O (Ia sv av lp (J none 0 0) tv pv s.free s.heard s.last) 125)
 pg:P g
 pl:∀j,P j→j<W.heap.size
 sn:W.ownsRow 0 95 3 tv s.aA.length cs
 tb:∀j,tv.ownBlock=U j→j≠g∧P j
 pn:jN (fun j=>j≠g∧tv.ownBlock≠some j∧P j) W pv s.pend
 sc:eU 3 (NR (ZZ P g tv pv) W) cs s.aA
def cU (P:Nat→Prop) (W:World) (g:Nat) (sv av:Value) (lp:Bool) (s:Ln):Prop:=∃tv pv cs,LnS P W g sv av lp s tv pv cs
theorem LnS.ah {cs:List Value} (h:LnS P W g sv av lp s tv pv cs) (b:Keeps F W X) (f:∀j,P j→¬F j):LnS P X g sv av lp s tv pv cs:=
 ⟨hpKeeps h.at_ b (f g h.pg),h.pg,fun j d=>Nat.lt_of_lt_of_le (h.pl j d) b.size,own_keeps h.sn b (fun j d=>f j (h.tb j d).2),h.tb,h.pn.keeps b (fun j d=>f j d.2.2),
  eU.mono (fun r y k=>NR.keeps b (fun j _ e=>.inr (.inr (.inr (fun i=>f j i e)))) (fun _ _ e=>e) r y k) _ _ h.sc⟩
theorem LnS.bW {cs:List Value} (h:LnS P W g sv av lp s tv pv cs) (b:Below W.heap.size W X):LnS P X g sv av lp s tv pv cs:=h.ah (F:=fun _=>False) (Keeps.af b) (fun _ _ e=>e)
theorem cU.ah {P F:Nat→Prop} {W X:World} {g:Nat} {sv av:Value} {lp:Bool} {s:Ln} (h:cU P W g sv av lp s) (b:Keeps F W X) (d:∀j,P j→¬F j):cU P X g sv av lp s:=by
 obtain⟨tv,pv,cs,h⟩:=h;exact⟨tv,pv,cs,h.ah b d⟩
theorem LnS.chg {s':Ln} {cs:List Value} (h:LnS P W g sv av lp s tv pv cs)
  (i:Keeps (fun j=>j=g∨pv.ownBlock=U j) W W') (q:W'.heap[g]?=U (O (Ia sv av lp (J none 0 0) tv pv' s'.free s'.heard s'.last) 125)) (hs:s'.aA=s.aA)
  (f:jN (fun j=>pv.ownBlock=U j∨(W.heap.size≤j∧j<W'.heap.size)) W' pv' s'.pend):LnS (ax P W W') W' g sv av lp s' tv pv' cs∧Keeps P W W':=by
 have t:g<W.heap.size:=hpLt h.at_;have k:=h.pn.jM;refine⟨⟨q,.inl h.pg,fun j d=>d.lt h.pl i.size,?_,fun j d=>⟨(h.tb j d).1,.inl (h.tb j d).2⟩,f.mono (fun j d=>?_),?_⟩,i.mono (fun j _ e=>?_)⟩
 ·rw [hs]
  exact own_keeps h.sn i (fun j d e=>by
   rcases e with e|e
   ·exact (h.tb j d).1 e
   ·exact (k j e).2.1 d)
 ·rcases d with e|⟨e,m⟩
  ·obtain ⟨a,b,c⟩:=k j e
   exact⟨a,b,.inl c⟩
  ·exact ⟨by omega,fun o=>by have:=h.pl j (h.tb j o).2;omega,.inr ⟨e,m⟩⟩
 ·rw [hs]
  refine eU.mono (fun r y n=>NR.keeps i (fun j _ e=>?_) (fun j d e=>?_) r y n) _ _ h.sc
  ·rcases e with e|e
   ·exact .inl e
   ·exact .inr (.inr (.inl e))
  ·rcases e with e|e|e|e
   ·exact .inl e
   ·exact .inr (.inl e)
   ·rcases f.jM j e with e|e
    ·exact .inr (.inr (.inl e))
    ·omega
   ·exact .inr (.inr (.inr (fun p=>e (.inl p))))
 ·rcases e with e|e
  ·subst e
   exact h.pg
  ·exact (k j e).2.2
theorem LnS.E1 {cs:List Value} (h:LnS P W g sv av lp s tv pv cs) {fr:Int} {x:(Int×Int)×List UInt8} 
  (d:Keeps (fun j=>j=g∨tv.ownBlock=U j) W W') (q:W'.heap[g]?=U (O (Ia sv av lp (J none 0 0) QT pv fr s.heard s.last) 125))
  (i:W'.ownsRow 0 95 3 QT (s.aA.length+1) (cs++[Z Y x.1.1,Z Y x.1.2,J a x.2.length c])) (f:∀j,QT.ownBlock=U j→tv.ownBlock=U j∨(W.heap.size≤j∧j<W'.heap.size))
  (p:∀X,Keeps (fun j=>j<W.heap.size∨QT.ownBlock=U j) W' X→Bs X (J a x.2.length c) x.2):
  LnS (ax P W W') W' g sv av lp {s with aA:=s.aA++[x],free:=fr} QT pv (cs++[Z Y x.1.1,Z Y x.1.2,J a x.2.length c])∧Keeps P W W':=by
 have u:g<W.heap.size:=hpLt h.at_;have n:=h.pn.jM;have hF:∀j,j<W.heap.size→ZZ (ax P W W') g QT pv j→ZZ P g tv pv j:=fun j b e=>by
  rcases e with e|e|e|e
  ·exact .inl e
  ·rcases f j e with e|e
   ·exact .inr (.inl e)
   ·omega
  ·exact .inr (.inr (.inl e))
  ·exact .inr (.inr (.inr (fun o=>e (.inl o))))
 refine⟨⟨q,.inl h.pg,fun j b=>b.lt h.pl d.size,?_,fun j b=>?_,(h.pn.keeps d (fun j b e=>?_)).mono (fun j b=>⟨b.1,fun e=>?_,.inl b.2.2⟩),?_⟩,d.mono (fun j _ e=>?_)⟩
 ·show World.ownsRow _ 0 _ 3 QT (s.aA++[x]).length _
  rw[List.length_append];exact i
 ·rcases f j b with e|e
  ·exact ⟨(h.tb j e).1,.inl (h.tb j e).2⟩
  ·exact ⟨by omega,.inr e⟩
 ·rcases e with e|e
  ·exact b.1 e
  ·exact b.2.1 e
 ·rcases f j e with e|e
  ·exact b.2.1 e
  ·have:=h.pl j b.2.2
   omega
 ·refine eU.app _ _ (eU.mono (fun r y m=>NR.keeps d (fun j _ e=>?_) hF r y m) _ _ h.sc) [x] _ ⟨_,[],(List.append_nil _).symm,rfl,⟨a,c,rfl,fun X t=>p X (t.mono (fun j b e=>?_))⟩,rfl⟩
  ·rcases e with e|e
   ·exact .inl e
   ·exact .inr (.inl e)
  ·by_cases k:j<W.heap.size
   ·exact .inl k
   ·rcases e with e|e|e|e
    ·omega
    ·exact .inr e
    ·have:=h.pl j (n j e).2.2
     omega
    ·exact absurd (.inr ⟨by omega,b⟩) e
 ·rcases e with e|e
  ·subst e
   exact h.pg
  ·exact (h.tb j e).2
theorem Gp (a:Option Addr) (c:Nat) (b:Value) (w:World):Calls Tryz.prog 202 #[J a 0 c,Z Y 0,Z Y 0,b] w fun r w'=>r=I (.tuple #[])∧w=w':=by
 go_enter Tryz.func202,Tryz.ntmps202;go_upto_region 1 with(fail)
 go_loopw [8] (fun v wr=>v=Z Y 1∧w=wr) (fun _ _=>0)
 case atStart=>exact⟨rfl,rfl⟩
 case round=>
  obtain⟨rfl,rfl⟩:=hrel;go_wp2;go_end0;exact⟨rfl,rfl⟩
theorem vF (a:Option Addr) (c:Nat) (b:Value) (w:World):Calls Tryz.prog 183 #[J a 0 c,Z Y 0,b] w fun r w'=>r=I (.tuple #[])∧w=w':=by
 have d:Hid (∀X,Calls Tryz.prog 202 #[J a 0 c,Z Y 0,Z Y 0,b] X fun r w'=>r=I (.tuple #[])∧X=w'):=Gp a c b;go_enter Tryz.func183,Tryz.ntmps183;go_upto_region 2 with(fail)
 go_loopw [7,8] (fun av bv wr=>av=Z Y 0∧bv=Z Y 20∧w=wr) (fun _ _ _=>0)
 case atStart=>exact⟨rfl,rfl,rfl⟩
 case round=>
  obtain⟨rfl,rfl,rfl⟩:=hrel;go_upto_region 7 with(go_at_call 202;(with_reducible refine(d.out _).mono ?_);rintro r e ⟨rfl,rfl⟩)
  go_loopw [6,7,8,9] (fun sv _ _ _ wr=>sv=Z Y 20∧w=wr) (fun _ _ _ _ _=>0)
  case atStart=>exact⟨rfl,rfl⟩
  case round=>
   obtain⟨rfl,rfl⟩:=hrel;go_wp2;go_end0;exact⟨rfl,rfl⟩
theorem DV (a:Option Addr) (c:Nat) (b:Value) (w:World):Calls Tryz.prog 159 #[J a 0 c,b] w fun r w'=>r=I (.tuple #[])∧w=w':=by
 have d:=hid (vF a c b w);go_enter Tryz.func159,Tryz.ntmps159;go_wp2_with (go_at_call 183;(with_reducible refine d.out.mono ?_);rintro r e ⟨rfl,rfl⟩);go_end0;exact⟨rfl,rfl⟩
def Oz (w:World) (v:Value) (l:List Ch) (r:Ending) (w':World):Prop:=r=I (.tuple #[])∧jN (fun j=>v.ownBlock=U j) w' v l∧Keeps (fun j=>v.ownBlock=U j) w w'
def kC (p news:List Ch):Prop:=∀(P:Nat→Prop) (w:World) (v:Value),jN P w v (p++news)→Calls Tryz.prog 159 #[v,.func (.func 160) #[] #[]] w (Oz w v (news.foldl putL p))
theorem LnS.mono {P Q:Nat→Prop} {W:World} {g:Nat} {sv av:Value} {lp:Bool} {s:Ln} {tv pv:Value} {cs:List Value} (h:LnS P W g sv av lp s tv pv cs) (d:∀j,P j→Q j) (f:∀j,Q j→j<W.heap.size):LnS Q W g sv av lp s tv pv cs:=
 ⟨h.at_,d g h.pg,f,h.sn,fun j b=>⟨(h.tb j b).1,d j (h.tb j b).2⟩,h.pn.mono (fun j b=>⟨b.1,b.2.1,d j b.2.2⟩),
  eU.mono (fun r y i=>NR.keeps (Keeps.refl (fun _=>False) W) (fun _ _ e=>e.elim) (fun j _ e=>by
   rcases e with e|e|e|e
   ·exact .inl e
   ·exact .inr (.inl e)
   ·exact .inr (.inr (.inl e))
   ·exact .inr (.inr (.inr (fun k=>e (d j k))))) r y i) _ _ h.sc⟩
theorem LnS.more {k wr m b:World} {cs:List Value} (h:LnS (ax P k wr) wr g sv av lp {s with pend:=l} tv pv cs) (A:∀j,P j→j<k.heap.size) (r:Keeps P k wr) (q:Below wr.heap.size wr m) (x:Ch)
  (z:jN (ax (fun j=>pv.ownBlock=U j) m b) b v7 (l++[x])) (p:Keeps (fun j=>pv.ownBlock=U j) m b):
  LnS (ax P k (b.setCell ⟨g,5,M⟩ v7)) (b.setCell ⟨g,5,M⟩ v7) g sv av lp {s with pend:=l++[x]} tv v7 cs∧Keeps P k (b.setCell ⟨g,5,M⟩ v7):=by
 have o:=h.bW q;have B:g<m.heap.size:=hpLt o.at_;have n:¬pv.ownBlock=U g:=fun e=>(o.pn.jM g e).1 rfl
 have t:Keeps (fun j=>j=g) b (b.setCell ⟨g,5,M⟩ v7):=(Keeps.refl _ _).set _ _ rfl;have C:Keeps (fun j=>j=g∨pv.ownBlock=U j) m (b.setCell ⟨g,5,M⟩ v7):=(p.mono (fun _ _ e=>.inr e)).trans (t.mono (fun _ _ e=>.inl e)) (fun _ _ e=>e);have y:(b.setCell ⟨g,5,M⟩ v7).heap.size=b.heap.size:=by simp
 have E:=q.size;have D:=p.size;have I:=r.size;obtain⟨a1,u⟩:=o.chg (s':={s with pend:=l++[x]}) C (hpSet (hpKeeps o.at_ p n) 5 v7) rfl ((z.keeps t (fun j d e=>by
  rcases d with f|f
  ·rw [e] at f;exact n f
  ·omega)).mono (fun j d=>by rw[y];exact d))
 refine⟨a1.mono (fun j d=>?_) (fun j d=>d.lt A (by omega)),(r.trans (Keeps.af (F:=fun _=>False) q) (fun _ _ e=>e.elim)).trans u (fun i hi e=>?_)⟩
 ·rcases d with(e|⟨e,f⟩)|⟨e,f⟩
  ·exact .inl e
  ·exact .inr ⟨e,by omega⟩
  ·exact .inr ⟨by omega,f⟩
 ·rcases e with e|⟨e,_⟩
  ·exact e
  ·omega
def Gf (P:Nat→Prop) (w:World) (g:Nat) (sv av:Value) (lp:Bool) (s:Ln) (tv:Value) (cs:List Value) (r:Ending) (w':World):Prop:=r=I (.tuple #[])∧(∃pv,LnS (ax P w w') w' g sv av lp s tv pv cs)∧Keeps P w w'
theorem F6 {p:Prop} (h:p:=by
 have hr3:Below wr.heap.size wr X3:=(HBC.out.trans (hB6.mono HBC.out.size)).trans (hb3.mono (by have:=HBC.out.size;have:=hB6.size;omega));have hL3:=HL.out.bW hr3;refine rdyH 12 rfl (fun K hK=>?_);refine step_appPn rfl (.tmp 44) (.tmp 51) rfl rfl hL3.pn.QM (Ch.mk T (xb.toNat:Int) 0 C) ⟨w6.heap.size,0,none⟩ 1 rfl (fun j u hj=>rowAtW n3 j u hj) (by have:=HLB.out;simp only[List.length_append,chsN_len];omega) ?_;intro v7 w7 hn7 hk7;obtain⟨a7,c7,e7v,-⟩:=hn7.len;obtain⟨n7,hn7l⟩:∃n,(s.pend++chsN C st at_ rl k++[(Ch.mk T (xb.toNat:Int) 0 C)]).length=n:=⟨_,rfl⟩;rw[hn7l] at e7v;clear hn7l;subst e7v;have hgp:¬(Value.slice pa5 pn5 pc5).ownBlock=some g:=(fun e=>(hL3.pn.jM g e).1 rfl);have hS7:=hpKeeps kS3 hk7 (fun e=>by have h1:=(hL3.pn.jM _ e).2.2;exact HNB.out h1);have hg7:=hpKeeps hL3.at_ hk7 hgp;go_simp;refine hK.out _ _ hS7 (fun hSg=>?_);clear hK K;refine tG 13 53 ?_;refine tG 14 54 ?_;have e7:=cG hg7 5 rfl;have f7:=hpFree hg7 5;refine rdyH 15 rfl (fun K hK=>?_);go_simp;refine hK.out _ _ ((hpOther (by have:=HGN.out;omega)).trans hS7) (fun hSh=>?_);clear hK K;refine wpAnyH_done (by kernel_rfl) ?_ _;have HN7:=hid (HL.out.more HP.out HK1.out hr3 (Ch.mk T (xb.toNat:Int) 0 C) hn7 hk7);go_wp2;go_roundw;(case rel=>(refine⟨k+1,.slice a7 n7 c7,(by have:=HLT.out;omega),(by go_num),?_,HN7.out.2⟩;show LnS _ _ _ _ _ _ _ _ _ _;rw[chsN_succ,HCA.out,←List.append_assoc];exact HN7.out.1));(case measure=>(have:=HLT.out;simp [intOf];omega))):p:=h
theorem Kb {cs:List Value} (h:LnS P w g sv av lp s tv pv cs) (bd pa:Int) (bm:Hid (aU bd pa)) (ra:Option Addr) (y rc:Nat) (rl:List UInt8) (hr:∀X,Keeps P w X→Bs X (J ra y rc) rl) (U6:y≤256) (st:Int) (Xe:0≤st) (aY:st≤ia+12400000)
  (at_:At) (ha:at_.ok) (hm:s.pend.length≤90000000) (IY:kC s.pend (chsN (charT bd) st at_ rl rl.length)):
  Calls Tryz.prog 126 #[.pointer (U ⟨g,0,M⟩),.agg #[Z Y bd,Z Y pa],J ra y rc,Z Y st,.agg at_.C] w (Gf P w g sv av lp {s with pend:=(chsN (charT bd) st at_ rl rl.length).foldl putL s.pend} tv cs):=by
 have dN:rl.length=y:=(hr w (Keeps.refl _ _)).gT.1;obtain⟨bf,vt⟩:=gE at_.bf;obtain⟨fault,kV⟩:=gE at_.fault;obtain⟨pos,ub⟩:=gE at_.pos;obtain⟨mask,M4⟩:=gE at_.mask;obtain⟨ai,ir⟩:=gE at_.ai;obtain⟨value,Fm⟩:=gE at_.value;have Jy:at_.C=#[Z Y bf,Z Y fault,Z Y pos,Z Y mask,Z Y ai,Z Y value]:=by unfold At.C;rw[vt,kV,ub,M4,ir,Fm]
 obtain⟨q1,q2,q3,q4,q5,q6⟩:=At.nC ha;rw[ir] at q5 q6;obtain⟨t1,t2,-⟩:=bV bm.out;obtain⟨C,hC⟩:=gE (charT bd);rw[hC] at t1 t2;have zF:Hid (∀W,Calls Tryz.prog 128 #[.agg #[Z Y bd,Z Y pa]] W fun r w'=>r=I (Z Y C)∧Below W.heap.size W w'):=fun W=>by rw[←hC];exact mf bd pa bm W
 rw[hC,dN] at IY;rw[Jy,hC,dN];obtain⟨t,ak⟩:∃W,(w.alloc (O #[Z Y bd,Z Y pa] 61)).alloc (O #[Z Y bf,Z Y fault,Z Y pos,Z Y mask,Z Y ai,Z Y value] 70)=W:=⟨_,rfl⟩
 have E:Below w.heap.size w t:=by rw[←ak];exact bta (bal' w _) (Nat.le_refl _) _
 have bn:t.heap.size=w.heap.size+2:=by rw[←ak];simp
 have pS:t.heap[w.heap.size]?=U (O #[Z Y bd,Z Y pa] 61):=by rw[←ak];exact hpKeep (hpNew w _) (bal' _ _)
 obtain⟨ab,fE⟩:∃n,w.heap.size+1=n:=⟨_,rfl⟩
 have pA:t.heap[ab]?=U (O #[Z Y bf,Z Y fault,Z Y pos,Z Y mask,Z Y ai,Z Y value] 70):=by
  rw[←fE,←ak];have:=hpNew (w.alloc (O #[Z Y bd,Z Y pa] 61)) (O #[Z Y bf,Z Y fault,Z Y pos,Z Y mask,Z Y ai,Z Y value] 70);simpa using this
 obtain⟨sb,yN⟩:=gE w.heap.size;have Rr:Hid (∀j,P j→j<sb):=fun j hj=>by rw[←yN];exact h.pl j hj
 have HP:Hid (∀j,P j→j<t.heap.size):=fun j hj=>by have:=h.pl j hj;omega
 have lW:Hid (LnS (ax P t t) t g sv av lp {s with pend:=s.pend++chsN C st at_ rl 0} tv pv cs):=by
  show LnS _ _ _ _ _ _ _ _ _ _;have e:s.pend++chsN C st at_ rl 0=s.pend:=List.append_nil _;rw[e];exact(h.bW E).mono (fun j hj=>.inl hj) (fun j hj=>hj.lt (fun j hj=>by have:=h.pl j hj;omega) (Nat.le_refl _))
 have qY:Hid (∀X,Keeps P t X→Bs X (J ra y rc) rl):=fun X hX=>hr X ((Keeps.af (F:=P) E).trans hX (fun _ _ e=>e))
 have DY:Hid (¬P sb):=fun e=>by have:=Rr.out sb e;omega
 have a5:Hid (¬P ab):=fun e=>by have:=Rr.out ab e;omega
 have hI:Hid (0≤st∧st≤ia+12400000):=⟨Xe,aY⟩
 have HLB:Hid (s.pend.length≤90000000∧y≤256):=⟨hm,U6⟩
 have ba:Hid (0≤ai∧ai≤5000000):=⟨q5,q6⟩
 have xX:Hid (96≤C∧C≤9167):=⟨t1,t2⟩
 have j5:Hid (∀i x,eL C st at_ i x=⟨st+((i:Int)+1)*C+(if fault=6∧pos≤(i:Int) then ai else 0),(x.toNat:Int),0,C⟩):=fun i x=>by unfold eL;rw[kV,ub,ir]
 have HGN:Hid (g<sb∧sb<t.heap.size∧ab<t.heap.size∧sb<ab):=by
  have:=hpLt h.at_;show _∧_∧_∧_;omega
 have A:=hid E;have lh:Hid (t.heap[sb]?=U (O #[Z Y bd,Z Y pa] 61)):=by rw[←yN];exact pS
 have iX:=hid pA;have a9:=hid ak;have N1:=hid (And.intro yN fE);have bx:=hid IY;clear IY h bm hr U6 Xe aY ha hm dN Jy q1 q2 q3 q4 q5 q6 t1 t2 hC E bn pS pA ak yN fE vt kV ub M4 ir Fm;go_enter Tryz.func126,Tryz.ntmps126;go_upto_region 1 with(fail)
 rw[a9.out,N1.out.2,N1.out.1];go_upto_region 2 with(fail)
 go_loopw [15] (fun kv wr=>∃(k:Nat) (pv:Value),k≤y∧kv=Z Y (k:Int)∧Hid (LnS (ax P t wr) wr g sv av lp {s with pend:=s.pend++chsN C st at_ rl k} tv pv cs)∧Hid (Keeps P t wr)) (fun kv _=>y- (intOf kv).toNat)
 case atStart=>exact⟨0,pv,Nat.zero_le _,rfl,lW.out,Keeps.refl _ _⟩
 case round=>
  clear lW;obtain⟨k,pv,hk,rfl,HL,HK1⟩:=hrel;have uU:(0:Int)≤(k:Int):=Int.natCast_nonneg _;obtain⟨pa5,pc5,VU,-⟩:=HL.out.pn.len;obtain⟨pn5,Vv⟩:∃n,(s.pend++chsN C st at_ rl k).length=n:=⟨_,rfl⟩
  rw[show ({s with pend:=s.pend++chsN C st at_ rl k}:Ln).pend.length=pn5 from Vv] at VU;subst VU;by_cases L:k<y
  ·obtain ⟨b,o,rfl,mM⟩:=(qY.out wr HK1.out).byte L
   obtain⟨xb,gy⟩:=gE (rl.getD k 0);rw[gy] at mM;have bA:(k:Int)<(y:Int):=by omega
   obtain⟨k1,rE⟩:∃x,k+1=x:=⟨_,rfl⟩
   obtain⟨z1,z2⟩:=HLB.out;have s1:IntKind.i64.wrap ((k:Int)+1)=(k1:Int):=(IntWalk.i64_in _ (by omega)).trans (by omega);obtain⟨m,hm⟩:∃x:Int,(k1:Int)*C=x:=⟨_,rfl⟩
   obtain⟨c1,c2⟩:=xX.out;have m0:0≤m:=by rw[←hm];exact Int.mul_nonneg (by omega) (by omega)
   have m1:m≤256*9167:=by rw[←hm];exact Int.mul_le_mul (by omega) c2 (by omega) (by omega)
   have s2:IntKind.i64.wrap ((k1:Int)*C)=m:=by rw[hm];exact IntWalk.i64_in _ (by omega)
   obtain⟨y0,y1⟩:=hI.out;have yZ:ia=1152921504606846976:=rfl;rw[yZ] at y1;obtain⟨z,hz⟩:∃z,st+m=z:=⟨_,rfl⟩
   have s3:IntKind.i64.wrap (st+m)=z:=(IntWalk.i64_in _ (by omega)).trans hz;obtain⟨u0,u1⟩:=ba.out;obtain⟨zt,Wc⟩:∃x,z+ai=x:=⟨_,rfl⟩
   have s4:IntKind.i64.wrap (z+ai)=zt:=(IntWalk.i64_in _ (by omega)).trans Wc;obtain⟨T,hT⟩:∃T,(if fault=6∧pos≤(k:Int) then zt else z)=T:=⟨_,rfl⟩
   have HCA:Hid (eL C st at_ k (rl.getD k 0)=⟨T,(xb.toNat:Int),0,C⟩):=by
    show _=_;have e1:((k:Int)+1)*C=m:=by rw[←hm,←rE];rfl
    rw[j5.out,gy,e1,hz,←hT];split
    ·rw [Wc]
    ·rw [Int.add_zero]
   have tD:k≤256:=by omega
   have HT:=hid hT;have HLT:=hid L;have p1:=hpKeeps lh.out HK1.out DY.out;have p2:=hpKeeps iX.out HK1.out a5.out;have x0:=cF p1 0 rfl
   have x1:=cF p1 1 rfl
   have a1:=cF p2 1 rfl
   have a2:=cF p2 2 rfl
   have a4:=cF p2 4 rfl
   have kr:Below wr.heap.size wr wr:=Below.refl _ _;have uW:=hid p1;clear gy L hm m0 m1 c1 c2 y0 y1 yZ hz u0 u1 Wc hT z1 z2 p1 p2 rE;obtain⟨B,hB⟩:∃B:Bool,(B=true↔fault=6∧pos≤(k:Int)):=bU;have jg:=hid hB;clear hB;go_upto_region 5 with(go_at_call 128;(with_reducible refine(zF.out _).mono ?_);rintro r wc ⟨rfl,GC⟩)
   have HBC:=hid GC;have Kt:=a1 _ GC;have XI:=a2 _ GC;have a8:=a4 _ GC;clear GC x0 x1 a1 a2 a4 kr s1 s2 s3;go_cut [35] from 27 to 35 (fun bc wd=>bc=.bool B∧wc=wd)
   case first=>
    by_cases R:fault=6
    ·have e6:(fault==6)=true:=b1 R
     by_cases hp:pos≤(k:Int)
     ·have D:Hid (B=true):=jg.out.2 ⟨R,hp⟩
      clear R;go_wp2;go_meet
      case rel=>exact⟨by rw[D.out],rfl⟩
     ·have D:Hid (B=false):=by cases B with
       |false=>rfl
       |true=>exact absurd (jg.out.1 rfl).2 hp
      have Qo:decide (pos≤(k:Int))=false:=decide_eq_false hp;clear R;go_wp2;go_meet
      case rel=>exact⟨by rw[D.out],rfl⟩
    ·have e6:(fault==6)=false:=b0 R
     have D:Hid (B=false):=by cases B with
      |false=>rfl
      |true=>exact absurd (jg.out.1 rfl).1 R
     clear R;go_wp2;go_meet
     case rel=>exact⟨by rw[D.out],rfl⟩
   case rest=>
   obtain⟨rfl,Jk⟩:=hcut;subst Jk;have qU:Hid ((if B=true then zt else z)=T):=by
    show _=_;rw[←HT.out];cases B with
    |true=>rw[if_pos rfl,if_pos (jg.out.1 rfl)]
    |false=>rw[if_neg (by decide),if_neg (fun h=>by have:=jg.out.2 h;cases this)]
   clear Kt XI jg HT;go_upto_if 35 with(fail)
   go_cut [12] from 35 to 39 (fun a6 wd=>a6=Z Y T∧wc=wd)
   case first=>
    cases B with
    |true=>
     have D:Hid (zt=T):=qU.out;clear qU;go_wp2;go_meet
     case rel=>exact⟨by rw[D.out],rfl⟩
    |false=>
     have D:Hid (z=T):=qU.out;clear qU;go_wp2;go_meet
     case rel=>exact⟨by rw[D.out],rfl⟩
   case rest=>
   obtain⟨rfl,Jk⟩:=hcut;subst Jk;clear qU a8 s4;have Ei:=hid (hpKeep uW.out HBC.out);have y0:∀X:World,X.heap[sb]?=U (O #[Z Y bd,Z Y pa] 61)→X.cell? ⟨sb,0,M⟩=U (Z Y bd):=fun X h=>hpCell h 0
   have y1:∀X:World,X.heap[sb]?=U (O #[Z Y bd,Z Y pa] 61)→X.cell? ⟨sb,1,M⟩=U (Z Y pa):=fun X h=>hpCell h 1
   have I5:=hid (hpKeep HL.out.at_ HBC.out);have kD:Below wc.heap.size wc wc.drew:=(Below.refl _ _).drew;have kS:wc.drew.heap[sb]?=U (O #[Z Y bd,Z Y pa] 61):=hpKeep Ei.out kD;have d0:wc.drew.cell? ⟨g,5,M⟩=U (J pa5 pn5 pc5):=hpCell (hpKeep I5.out kD) 5;have HNB:Hid (¬ax P t wr sb):=fun e=>by
    rcases e with e|e
    ·exact DY.out e
    ·have:=HGN.out;omega
   go_upto_region 7 with(fail)
   refine wp_region_held_drew (S:=fun V=>V.heap[sb]?=U (O #[Z Y bd,Z Y pa] 61)) (by kernel_rfl) kS (fun hH=>?_);clear hH;refine tG 0 40 ?_;refine tG 1 41 ?_;refine tG 2 42 ?_;refine tG 3 43 ?_;refine tG 5 45 ?_;refine tG 6 46 ?_;refine tG 7 47 ?_;refine tG 8 48 ?_;refine wpAnyH_ready (rs:=[4,9]) (by kernel_rfl) (by simp) ?_;refine AllReadyH.cons rfl (fun K hK=>?_) (AllReadyH.cons rfl (fun K hK=>?_) AllReadyH.nil)
   ·go_simp
    refine hK.out _ _ kS (fun f=>?_);clear hK K f;refine rdyH 9 rfl (fun K hK=>?_);go_simp;refine(zF.out _).mono ?_;rintro r w6 ⟨rfl,ao⟩;have hB6:=bt kD ao (Nat.le_refl _);have zX:=hpKeep Ei.out hB6;refine hK.out _ _ zX (fun f=>?_);clear hK K f;refine tG 10 50 ?_;refine rdyH 11 rfl (fun K hK=>?_);go_simp;obtain⟨X3,N,hb3,n3⟩:=eY w6 (O #[Z Y T,Z .u8 (xb.toNat:Int),Z Y 0,Z Y C] 174);rw[N];have kS3:=hpKeep zX hb3;clear N;refine hK.out _ _ kS3 (fun f=>?_);clear hK K f;exact F6
   ·go_simp
    refine(zF.out _).mono ?_;rintro r w6 ⟨rfl,ao⟩;have hB6:=bt kD ao (Nat.le_refl _);have zX:=hpKeep Ei.out hB6;refine hK.out _ _ zX (fun f=>?_);clear hK K f;refine tG 10 50 ?_;refine wpAnyH_ready (rs:=[4,11]) (by kernel_rfl) (by simp) ?_;refine AllReadyH.cons rfl (fun K hK=>?_) (AllReadyH.cons rfl (fun K hK=>?_) AllReadyH.nil)
    ·have d6:w6.cell? ⟨g,5,M⟩=U (J pa5 pn5 pc5):=hpCell (hpKeep I5.out hB6) 5
     go_simp;refine hK.out _ _ zX (fun f=>?_);clear hK K f;refine rdyH 11 rfl (fun K hK=>?_);go_simp;obtain⟨X3,N,hb3,n3⟩:=eY w6 (O #[Z Y T,Z .u8 (xb.toNat:Int),Z Y 0,Z Y C] 174);rw[N];have kS3:=hpKeep zX hb3;clear N;refine hK.out _ _ kS3 (fun f=>?_);clear hK K f;exact F6
    ·go_simp
     obtain⟨X3,N,hb3,n3⟩:=eY w6 (O #[Z Y T,Z .u8 (xb.toNat:Int),Z Y 0,Z Y C] 174);rw[N];have kS3:=hpKeep zX hb3;clear N;refine hK.out _ _ kS3 (fun f=>?_);clear hK K f;have d6:X3.cell? ⟨g,5,M⟩=U (J pa5 pn5 pc5):=hpCell (hpKeep I5.out (bt hB6 hb3 (Nat.le_refl _))) 5;refine rdyH 4 rfl (fun K hK=>?_);go_simp;refine hK.out _ _ kS3 (fun f=>?_);clear hK K f;exact F6
  ·obtain rfl:k=y:=by omega
   have y5:wr.cell? ⟨g,5,M⟩=U (J pa5 pn5 pc5):=hpCell HL.out.at_ 5;have VW:=hid (bx.out _ _ _ HL.out.pn);clear L Vv hk uU;go_wp2_with (go_at_call 159;(with_reducible refine VW.out.mono ?_);rintro r w2 ⟨rfl,Qo,aX⟩;have uV:=hid Qo;have ad:=hid aX;clear Qo aX);go_end0;have hgp:¬(Value.slice pa5 pn5 pc5).ownBlock=U g:=fun e=>(HL.out.pn.jM g e).1 rfl
   obtain⟨a1,a2⟩:=HL.out.chg (s':={s with pend:=(chsN C st at_ rl k).foldl putL s.pend}) (ad.out.mono (fun _ _ e=>.inr e)) (hpKeeps HL.out.at_ ad.out hgp) rfl (uV.out.mono (fun j hj=>.inl hj));have a3:Keeps P w w2:=((Keeps.af (F:=P) A.out).trans HK1.out (fun _ _ e=>e)).trans a2 (fun i hi e=>by
    rcases e with e|e
    ·exact e
    ·have:=A.out.size;omega)
   refine⟨rfl,⟨J pa5 pn5 pc5,?_⟩,a3⟩;refine a1.mono (fun j hj=>?_) (fun j hj=>hj.lt (fun j hj=>by have:=HP.out j hj;have:=A.out.size;have:=Rr.out j hj;have:=N1.out.1;omega) a3.size);have z1:=A.out.size;have z2:=HK1.out.size;have z3:=ad.out.size;rcases hj with(e|⟨e,e2⟩)|⟨e,e2⟩
   ·exact .inl e
   ·exact .inr ⟨by omega,by omega⟩
   ·exact .inr ⟨by omega,e2⟩
theorem sx (b p:Int) (h:Hid (aU b p)) (n:Nat) (j:n≤256) (w:World):
  Calls Tryz.prog 102 #[.agg #[Z Y b,Z Y p],Z Y (n:Int)] w fun r w'=>r=I (Z Y (aK b n))∧Below w.heap.size w w':=by
 obtain⟨t1,t2,_,_,t5,t6⟩:=bV h.out;obtain⟨C,d⟩:=gE (charT b);have f:Hid (∀W,Calls Tryz.prog 128 #[.agg #[Z Y b,Z Y p]] W fun r w'=>r=I (Z Y C)∧Below W.heap.size W w'):=fun W=>by rw[←d];exact mf b p h W
 have i:Hid (aK b n=(n:Int)*C):=by show _=_;unfold aK;rw[d]
 rw[d] at t1 t2;have hm:(0:Int)≤(n:Int)*C:=Int.mul_nonneg (by omega) (by omega);have k:(n:Int)*C≤256*9167:=Int.mul_le_mul (by omega) t2 (by omega) (by decide);have s1:IntKind.i64.wrap ((n:Int)*C)=(n:Int)*C:=IntWalk.i64_in _ (by omega);clear d;go_enter Tryz.func102,Tryz.ntmps102;go_wp2_with (go_at_call 128;(with_reducible refine(f.out _).mono ?_);rintro r w1 ⟨rfl,e⟩);go_ret;exact⟨by rw[i.out];rfl,bt (bal' w _) e (Nat.le_refl _)⟩
structure IA (P:Nat→Prop) (w:World) (la:Option Addr) (ln lc:Nat) (aa:Option Addr) (an ac:Nat) (l:List Sl) (aC:List At) (lp:Bool):Prop where
 rd:∀X,Keeps P w X→dm X (J la ln lc) l∧ke X (J aa an ac) aC
 Re:l.length=ln
 Ph:aC.length=an
 Bq:cW l
 ok:∀x∈aC,x.ok
 Ru:lp=true→0<an
theorem IA.next {l:List Sl} {aC:List At} (h:IA P w la ln lc aa an ac l aC lp) (e:Keeps P w w') (b:∀j,j<w.heap.size→Q j→P j):IA Q w' la ln lc aa an ac l aC lp:=
 ⟨fun X d=>h.rd X (e.trans d b),h.Re,h.Ph,h.Bq,h.ok,h.Ru⟩
def zq (P:Nat→Prop) (w:World) (g:Nat) (sv av:Value) (lp:Bool) (s:Ln) (e:Int) (r:Ending) (w':World):Prop:=r=I (.tuple #[Z Y e,Z Y 0])∧cU (ax P w w') w' g sv av lp s∧Keeps P w w'
