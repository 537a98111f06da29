import Derived.Test.YtoaoejaodhedaaaGreatQ22
namespace Go.Proofs.YtoaoejaodhedaaaGreat
open Go.RowKit
set_option maxHeartbeats 12800000
set_option maxRecDepth 100000
theorem reply_dam (g:Nat) (la:Option Addr) (lc ln:Nat) (l:List Sl) (hl:l.length=ln) (hB:BusP l) (bd pa:Int) (f1:wfI bd) (f2:wfI pa) (fa:Option Addr) (fn fc:Nat) (f:List UInt8) (lat fault pos mask ticks value:Int) (h3:fault=3) (p0:0≤pos) (m0:1≤mask) (m1:mask≤65535) (x0:0≤value) (x1:value≤65535) (w:World) (hc0:w.cell? ⟨g,0,none⟩=some (.slice la ln lc)) (hL:Slvs w (.slice la ln lc) l) (hf:Bs w (.slice fa fn fc) f):
  Calls Tryz.prog 127 #[.pointer (some ⟨g,0,none⟩),.agg #[.int .i64 bd,.int .i64 pa],.slice fa fn fc,.agg #[.int .i64 lat,.int .i64 fault,.int .i64 pos,.int .i64 mask,.int .i64 ticks,.int .i64 value]] w (RvPost w (rcvF l ⟨lat,fault,pos,mask,ticks,value⟩ bd pa f)):=by
 obtain⟨W1,hW1⟩:∃W,(w.alloc (.cells #[.int .i64 bd,.int .i64 pa] 61)).alloc (.cells #[.int .i64 lat,.int .i64 fault,.int .i64 pos,.int .i64 mask,.int .i64 ticks,.int .i64 value] 70)=W:=⟨_,rfl⟩;have HY:Hid (RyB w W1 g bd pa #[.int .i64 lat,.int .i64 fault,.int .i64 pos,.int .i64 mask,.int .i64 ticks,.int .i64 value] la ln lc):=(by have hb:Below w.heap.size w W1:=(by rw[←hW1];exact cJ (bH w _) (Nat.le_refl _) _);refine⟨hb,by rw[←hW1];simp,by rw[←hW1];exact bB (bI w _) (bH _ _),?_,bD hb hc0⟩;rw[←hW1];have h:=bI (w.alloc (.cells #[.int .i64 bd,.int .i64 pa] 61)) (.cells #[.int .i64 lat,.int .i64 fault,.int .i64 pos,.int .i64 mask,.int .i64 ticks,.int .i64 value] 70);rw[World.size_alloc] at h;exact h);obtain⟨ab,hab⟩:∃n,w.heap.size+1=n:=⟨_,rfl⟩;have HPA:Hid (W1.heap[ab]?=some (.cells #[.int .i64 lat,.int .i64 fault,.int .i64 pos,.int .i64 mask,.int .i64 ticks,.int .i64 value] 70)):=(by rw[←hab];exact HY.out.a);have HW1:=bC hW1;have HAB:=bC hab;clear hW1 hab;have s0:∀X,Below W1.heap.size W1 X→X.cell? ⟨w.heap.size,0,none⟩=some (.int .i64 bd):=(fun X h=>bA (bB HY.out.s h) 0);have s1:∀X,Below W1.heap.size W1 X→X.cell? ⟨w.heap.size,1,none⟩=some (.int .i64 pa):=(fun X h=>bA (bB HY.out.s h) 1);have a1:=cF HPA.out 1 rfl;have a2:=cF HPA.out 2 rfl;have a3:=cF HPA.out 3 rfl;have a5:=cF HPA.out 5 rfl;have c0:∀X,Below W1.heap.size W1 X→X.cell? ⟨g,0,none⟩=some (.slice la ln lc):=(fun X h=>bD h HY.out.c0);have k0:Below W1.heap.size W1 W1:=Below.refl _ _;have kD:Below W1.heap.size W1 W1.drew:=(Below.refl _ _).drew;obtain⟨R,hR⟩:=gE ((busAns l bd pa f value).getD []);obtain⟨rn,hrn⟩:=gE R.length;have HAN:Hid (∀X,Below W1.heap.size W1 X→Calls Tryz.prog 163 #[.slice la ln lc,.agg #[.int .i64 bd,.int .i64 pa],.slice fa fn fc,.int .i64 value] X fun r w'=>∃a c B,r=.returned (.tuple #[.slice a rn c,.bool B])∧w'.ownsRow X.heap.size 5 1 (.slice a rn c) rn (u8s R)∧Below X.heap.size X w'):=(fun X hX=>(pbans_any la lc ln l hl hB bd pa f1 f2 fa fn fc f value x0 x1 X (hL.keep (bU HY.out.b hX)) (hf.keep (bU HY.out.b hX))).mono fun _ _ h=>by rw[←hR];exact h.uni (by rw[hR];exact hrn));have HRN:=bC hrn;have HR:=bC hR;have e1:(fault==1)=false:=b0 (by omega);have e2:(fault==2)=false:=b0 (by omega);have e3:(fault==3)=true:=b1 h3;have e5:(fault==5)=false:=b0 (by omega);cases ho:busDec l bd pa f with
 |none=>
  have hR0:R=[]:=by rw[←hR];unfold busAns;rw[ho];rfl
  have hE:rcvF l ⟨lat,fault,pos,mask,ticks,value⟩ bd pa f=[]:=by
   unfold rcvF loneB;dsimp only;rw[if_neg (by omega),if_neg (by omega),ho,if_neg (by rintro ⟨_,h⟩;cases h),hR,hR0]
  subst hR0;have hrn0:rn=0:=hrn.symm;subst hrn0;rw[hE];clear hc0 hL hf hB hl f1 f2 hrn hR h3 x0 x1 hE ho;go_enter Tryz.func127,Tryz.ntmps127;go_upto_region 1 with(fail)
  rw[HW1.out,HAB.out];go_upto_region 3 with(fail)
  refine wp_region_held_drew (S:=fun V=>Below W1.heap.size W1 V) (by kernel_rfl) kD (fun hH=>?_);clear hH;refine tG 0 14 ?_;refine tG 1 15 ?_;refine tG 2 16 ?_;refine tG 3 17 ?_;refine tG 4 18 ?_;refine tG 5 19 ?_;refine tG 6 20 ?_;refine tG 7 21 ?_;refine bM 8 rfl (fun K hK=>?_);go_simp;refine(HAN.out _ kD).mono ?_;rintro r w4 ⟨ra,rc,B,rfl,hown,hb4⟩;have hB4:=bU kD hb4;refine hK.out _ _ hB4 (fun hSx=>?_);clear hK K hSx;refine tG 9 13 ?_;refine tG 10 23 ?_;refine tG 11 24 ?_;refine cR 12 9 (v:=?_) rfl (by kernel_rfl) (fun _ _ _ h=>h) rfl (by rfl) (by assumption) ?_ ?_;rotate_left;(intro w hSw;(try dsimp only at hSw);(try go_simp);try rfl);refine wpAnyH_done (by kernel_rfl) ?_ _;have a1':=a1 _ hB4;have HOW:=bC hown;clear hown;go_wp2;go_ret;have hz:=kD.size;exact⟨ra,rc,rfl,bQ HOW.out (Nat.le_trans HY.out.b.size hz),bU HY.out.b hB4⟩
 |some o=>
  obtain⟨V,hV⟩:∃V,decide (o.2.2.length=1)=V:=⟨_,rfl⟩
  have hE:rcvF l ⟨lat,fault,pos,mask,ticks,value⟩ bd pa f=if V=true then damL ⟨lat,fault,pos,mask,ticks,value⟩ R else R:=by
   have hl1:loneB l bd pa f=V:=by unfold loneB;rw[ho];exact hV
   unfold rcvF;dsimp only;rw[if_neg (by omega),if_neg (by omega),hR];cases V with
   |false=>rw[if_neg (by rw[hl1];rintro ⟨_,h⟩;cases h),if_neg (by decide)]
   |true=>rw[if_pos ⟨h3,hl1⟩,if_pos rfl]
  have hbl:5≤rn∧rn≤256:=by
   rw[←hrn,←hR];unfold busAns;rw[ho];exact ansF_len hB ho value
  have HSG:Hid (∀X,Below W1.heap.size W1 X→Calls Tryz.prog 164 #[.pointer (some ⟨g,0,none⟩),.agg #[.int .i64 bd,.int .i64 pa],.slice fa fn fc] X (BoolPost X V)):=fun X hX=>single_any g la lc ln l hl hB bd pa f1 f2 fa fn fc f o ho V hV X (bD hX HY.out.c0) (hL.keep (bU HY.out.b hX)) (hf.keep (bU HY.out.b hX))
  rw[hE];obtain⟨rb1,rb2⟩:=hbl;have gl:decide ((0:Int)<(rn:Int))=true:=decide_eq_true (by omega);have gl2:0<rn:=by omega
  clear hc0 hL hf hB hl f1 f2 hrn hR h3 x0 x1 hE ho hV;cases V with
  |false=>
   rw[if_neg (by decide)];go_enter Tryz.func127,Tryz.ntmps127;go_upto_region 1 with(fail)
   rw[HW1.out,HAB.out];go_upto_region 3 with(fail)
   refine wp_region_held_drew (S:=fun V=>Below W1.heap.size W1 V) (by kernel_rfl) kD (fun hH=>?_);clear hH;refine tG 0 14 ?_;refine tG 1 15 ?_;refine tG 2 16 ?_;refine tG 3 17 ?_;refine tG 4 18 ?_;refine tG 5 19 ?_;refine tG 6 20 ?_;refine tG 7 21 ?_;refine bM 8 rfl (fun K hK=>?_);go_simp;refine(HAN.out _ kD).mono ?_;rintro r w4 ⟨ra,rc,B,rfl,hown,hb4⟩;have hB4:=bU kD hb4;refine hK.out _ _ hB4 (fun hSx=>?_);clear hK K hSx;refine tG 9 13 ?_;refine tG 10 23 ?_;refine tG 11 24 ?_;refine cR 12 9 (v:=?_) rfl (by kernel_rfl) (fun _ _ _ h=>h) rfl (by rfl) (by assumption) ?_ ?_;rotate_left;(intro w hSw;(try dsimp only at hSw);(try go_simp);try rfl);refine wpAnyH_done (by kernel_rfl) ?_ _;have a1':=a1 _ hB4;have s0':=s0 _ hB4;have s1':=s1 _ hB4;have HOW:=bC hown;clear hown;go_wp2_with (go_at_call 164;(with_reducible refine(HSG.out _ hB4).mono ?_);rintro r w5 ⟨rfl,hb5⟩);go_ret;have hz:=kD.size;exact⟨ra,rc,(by rw[HRN.out]<;>rfl),by rw[HRN.out];exact bQ (bF (F:=fun _=>False) HOW.out (Keeps.of_below hb5) (fun _ _ e=>e)) (Nat.le_trans HY.out.b.size hz),bU (bU HY.out.b hB4) hb5⟩
  |true=>
   rw[if_pos rfl];obtain⟨D,hD⟩:∃D,damL ⟨lat,fault,pos,mask,ticks,value⟩ R=D:=⟨_,rfl⟩
   rw[hD];obtain⟨p,hp⟩:∃p,pos.toNat%rn=p:=⟨_,rfl⟩
   have hpl:p<rn:=by rw[←hp];exact Nat.mod_lt _ gl2
   have r2:pos%(rn:Int)=(p:Int):=by rw[←hp,Int.natCast_emod,Int.toNat_of_nonneg p0]
   have r1:pos.tmod (rn:Int)=(p:Int):=by rw[Int.tmod_eq_emod_of_nonneg p0,r2]
   have r3:¬(rn:Int)=0:=by omega
   have r4:(0:Int)≤(p:Int):=by omega
   have r5:(p:Int)<(rn:Int):=by omega
   obtain⟨n1,hn1⟩:∃n,mask.toNat%256=n:=⟨_,rfl⟩
   obtain⟨n2,hn2⟩:∃n,mask.toNat/256=n:=⟨_,rfl⟩
   have n1l:n1<256:=by omega
   have n2l:n2<256:=by omega
   have u1:IntKind.u8.wrap mask=(n1:Int):=by rw[IntKind.wrap_u8,←hn1];omega
   have u2:IntKind.u8.wrap (mask/256)=(n2:Int):=by rw[IntKind.wrap_u8,←hn2];omega
   have HD:=bC hD;have HPN:=bC (And.intro hp (And.intro hn1 hn2));clear hD hp hn1 hn2;go_enter Tryz.func127,Tryz.ntmps127;go_upto_region 1 with(fail)
   rw[HW1.out,HAB.out];go_upto_region 3 with(fail)
   refine wp_region_held_drew (S:=fun V=>Below W1.heap.size W1 V) (by kernel_rfl) kD (fun hH=>?_);clear hH;refine tG 0 14 ?_;refine tG 1 15 ?_;refine tG 2 16 ?_;refine tG 3 17 ?_;refine tG 4 18 ?_;refine tG 5 19 ?_;refine tG 6 20 ?_;refine tG 7 21 ?_;refine bM 8 rfl (fun K hK=>?_);go_simp;refine(HAN.out _ kD).mono ?_;rintro r w4 ⟨ra,rc,B,rfl,hown,hb4⟩;have hB4:=bU kD hb4;refine hK.out _ _ hB4 (fun hSx=>?_);clear hK K hSx;refine tG 9 13 ?_;refine tG 10 23 ?_;refine tG 11 24 ?_;refine cR 12 9 (v:=?_) rfl (by kernel_rfl) (fun _ _ _ h=>h) rfl (by rfl) (by assumption) ?_ ?_;rotate_left;(intro w hSw;(try dsimp only at hSw);(try go_simp);try rfl);refine wpAnyH_done (by kernel_rfl) ?_ _;have a1':=a1 _ hB4;have s0':=s0 _ hB4;have s1':=s1 _ hB4;have HOW:=bC hown;clear hown;go_upto_region 10 with(go_at_call 164;(with_reducible refine(HSG.out _ hB4).mono ?_);rintro r w5 ⟨rfl,hb5⟩)
   have hB5:=bU hB4 hb5;have hz:=kD.size;have HO5:Hid (w5.ownsRow w.heap.size 5 1 (.slice ra rn rc) rn (u8s R)):=bQ (bF (F:=fun _=>False) HOW.out (Keeps.of_below hb5) (fun _ _ e=>e)) (Nat.le_trans HY.out.b.size hz);obtain⟨gb,cap,hv1,hgb,-,-⟩:=own_shapeR HO5.out gl2;simp only[Value.slice.injEq,true_and] at hv1;obtain⟨rfl,rfl⟩:=hv1;have hcl:=ownb_cellZ HO5.out p hpl;have hfz:=HO5.out.frozenAt p;have a3':=a3 _ hB5;have a2':=a2 _ hB5;clear a1' s0' s1';go_upto_region 12 with(fail)
   go_region;obtain⟨W6,hW6⟩:∃W,(w5.setCell ⟨gb,p,none⟩ (.int .u8 (bits .xor .u8 (((R[p]?.getD 0).toNat:Nat):Int) (n1:Int)))).drew=W:=⟨_,rfl⟩
   have hxv:(Value.int .u8 (bits .xor .u8 (((R[p]?.getD 0).toNat:Nat):Int) (n1:Int)))=byteV ((R.getD p 0)^^^UInt8.ofNat n1):=xor_by (R.getD p 0) n1 n1l;have h56:Keeps (· =gb) w5 W6:=by rw[←hW6];exact(ks1 (p:=gb) (Keeps.refl _ w5) p _).trans (Keeps.of_below (F:=fun _=>False) (Below.refl _ _).drew) (fun _ _ e=>e.elim)
   have HO6:Hid (W6.ownsRow w.heap.size 5 1 (.slice (some ⟨gb,0,none⟩) rn rc) rn (u8s (xorB1 R p n1))):=by
    have h:=(HO5.out.stored p (byteV ((R.getD p 0)^^^UInt8.ofNat n1))).1;rw[u8s_setZ] at h;show World.ownsRow _ _ _ _ _ _ _;rw[←hW6,hxv];exact bF (F:=fun _=>False) h (Keeps.of_below (Below.refl _ _).drew) (fun _ _ e=>e)
   have HB6:Hid (Below w.heap.size w W6):=(HY.out.b.trans (hB5.mono HY.out.b.size)).trans (h56.below (by have:=HY.out.b.size;have:=hB5.size;omega) (fun j hj e=>by omega));have hab:ab<W1.heap.size:=cI HPA.out;have habn:¬ab=gb:=by have:=HAB.out;have h1:=HO5.out.lt gb rfl;have:=(HOW.out.lt gb rfl).1;have:=HY.out.z;have:=kD.size;omega
   have a3':W6.cell? ⟨ab,3,none⟩=some (.int .i64 mask):=bA (bG (bB HPA.out hB5) h56 habn) 3;rw[hW6];clear hW6 h56 hxv hcl hfz a2' HO5;obtain⟨q,hq⟩:∃q,p+1=q:=⟨_,rfl⟩
   have t1:IntKind.i64.wrap ((p:Int)+1)=(q:Int):=(IntWalk.i64_in _ (by omega)).trans (by omega);by_cases hqn:q<rn
   ·have t2:(q:Int)<(rn:Int):=by omega
    have t3:(0:Int)≤(q:Int):=by omega
    have hcl:=ownb_cellZ HO6.out q hqn;have hfz:=HO6.out.frozenAt q;have HQ:=bC hq;have HQN:=bC hqn;clear hq hqn;go_upto_region 14 with(fail)
    go_region;have hxv:(Value.int .u8 (bits .xor .u8 ((((xorB1 R p n1)[q]?.getD 0).toNat:Nat):Int) (n2:Int)))=byteV (((xorB1 R p n1).getD q 0)^^^UInt8.ofNat n2):=xor_by ((xorB1 R p n1).getD q 0) n2 n2l;obtain⟨W7,hW7⟩:∃W,(W6.setCell ⟨gb,q,none⟩ (.int .u8 (bits .xor .u8 ((((xorB1 R p n1)[q]?.getD 0).toNat:Nat):Int) (n2:Int)))).drew=W:=⟨_,rfl⟩
    have h67:Keeps (· =gb) W6 W7:=by rw[←hW7];exact(ks1 (p:=gb) (Keeps.refl _ W6) q _).trans (Keeps.of_below (F:=fun _=>False) (Below.refl _ _).drew) (fun _ _ e=>e.elim)
    have HO7:Hid (W7.ownsRow w.heap.size 5 1 (.slice (some ⟨gb,0,none⟩) rn rc) rn (u8s (xorB1 (xorB1 R p n1) q n2))):=by
     have h:=(HO6.out.stored q (byteV (((xorB1 R p n1).getD q 0)^^^UInt8.ofNat n2))).1;rw[u8s_setZ] at h;show World.ownsRow _ _ _ _ _ _ _;rw[←hW7,hxv];exact bF (F:=fun _=>False) h (Keeps.of_below (Below.refl _ _).drew) (fun _ _ e=>e)
    have HB7:Hid (Below w.heap.size w W7):=HB6.out.trans (h67.below HB6.out.size (fun j hj e=>by have:=(HO6.out.lt gb rfl).1;omega));rw[hW7];clear hW7 h67 hxv;go_wp2;go_ret;have hd:xorB1 (xorB1 R p n1) q n2=D:=by
     obtain⟨e1,e2,e3⟩:=HPN.out;rw[←HD.out];unfold damL;dsimp only;rw[HRN.out,e1,if_pos (by rw[HQ.out];exact HQN.out),e2,e3,HQ.out]
    have hl2:D.length=rn:=by rw[←hd,xorB1_len,xorB1_len,HRN.out]
    exact⟨some ⟨gb,0,none⟩,rc,(by rw[hl2]<;>rfl),(by rw[hl2,←hd];exact HO7.out),HB7.out⟩
   ·have t2:¬(q:Int)<(rn:Int):=by omega
    have HQ:=bC hq;have HQN:=bC hqn;clear hq hqn;go_wp2;go_ret;have hd:xorB1 R p n1=D:=by
     obtain⟨e1,e2,e3⟩:=HPN.out;rw[←HD.out];unfold damL;dsimp only;rw[HRN.out,e1,if_neg (by rw[HQ.out];exact HQN.out),e2]
    have hl2:D.length=rn:=by rw[←hd,xorB1_len,HRN.out]
    exact⟨some ⟨gb,0,none⟩,rc,(by rw[hl2]<;>rfl),(by rw[hl2,←hd];exact HO6.out),HB6.out⟩
theorem reply_any (g:Nat) (la:Option Addr) (lc ln:Nat) (l:List Sl) (hl:l.length=ln) (hB:BusP l) (bd pa:Int) (f1:wfI bd) (f2:wfI pa) (fa:Option Addr) (fn fc:Nat) (f:List UInt8) (a:At) (ha:a.ok) (w:World) (hc0:w.cell? ⟨g,0,none⟩=some (.slice la ln lc)) (hL:Slvs w (.slice la ln lc) l) (hf:Bs w (.slice fa fn fc) f):
  Calls Tryz.prog 127 #[.pointer (some ⟨g,0,none⟩),.agg #[.int .i64 bd,.int .i64 pa],.slice fa fn fc,.agg a.C] w (RvPost w (rcvF l a bd pa f)):=by
 obtain⟨b1,b2,b3,b4,b5,b6⟩:=At.ok_bd ha;obtain⟨lat,fault,pos,mask,ticks,value⟩:=a;rw[At.ok_mk] at ha;dsimp only at b1 b2 b3 b4 b5 b6;by_cases h12:fault=1∨fault=2
 ·have e:rcvF l ⟨lat,fault,pos,mask,ticks,value⟩ bd pa f=[]:=by unfold rcvF;rw[if_pos h12]
  rw[e];exact reply_lost g la lc ln bd pa fa fn fc lat fault pos mask ticks value h12 w hc0
 ·by_cases h5:fault=5
  ·have e:rcvF l ⟨lat,fault,pos,mask,ticks,value⟩ bd pa f=(busBusy l bd pa f).getD []:=by unfold rcvF;rw[if_neg h12,if_pos h5]
   rw[e];exact reply_busy g la lc ln l hl hB bd pa f1 f2 fa fn fc f lat fault pos mask ticks value h5 w hc0 hL hf
  ·by_cases h3:fault=3
   ·exact reply_dam g la lc ln l hl hB bd pa f1 f2 fa fn fc f lat fault pos mask ticks value h3 (by omega) (by omega) (by omega) b3 b4 w hc0 hL hf
   ·have e:rcvF l ⟨lat,fault,pos,mask,ticks,value⟩ bd pa f=(busAns l bd pa f value).getD []:=by unfold rcvF;rw[if_neg h12,if_neg h5,if_neg (fun h=>h3 h.1)]
    rw[e];exact reply_plain g la lc ln l hl hB bd pa f1 f2 fa fn fc f lat fault pos mask ticks value (fun h=>h12 (.inl h)) (fun h=>h12 (.inr h)) h5 h3 b3 b4 w hc0 hL hf
theorem infoSn:(Tryz.prog.info? 95).map (fun i=>(i.zero,i.size,i.bytes))=some (some (.agg #[.int .i64 0,.int .i64 0,.slice none 0 0]),3,40):=by kernel_rfl
theorem PnR.blk {P:Nat→Prop} {W:World} {v:Value} {l:List Ch} (h:PnR P W v l):∀j,v.ownBlock=some j→P j:=fun j hj=>by
 rcases h with⟨rfl,_⟩|⟨g,o,c,N,rfl,h2,h3,h4,h5,h6⟩
 ·cases hj
 ·injection hj with hj
  subst hj;exact h6
theorem PnR.own' {P:Nat→Prop} {W:World} {v:Value} {l:List Ch} (h:PnR P W v l):PnR (fun j=>v.ownBlock=some j) W v l:=by
 rcases h with h|⟨g,o,c,N,rfl,h2,h3,h4,h5,h6⟩
 ·exact .inl h
 ·exact .inr ⟨g,o,c,N,rfl,h2,h3,h4,h5,rfl⟩
def SnQ (F:Nat→Prop) (W:World) (r:List Value) (x:(Int×Int)×List UInt8):Prop:=∃a c,r=[.int .i64 x.1.1,.int .i64 x.1.2,.slice a x.2.length c]∧∀X,Keeps F W X→Bs X (.slice a x.2.length c) x.2
theorem SnQ.keeps {F G H:Nat→Prop} {W W':World} (hk:Keeps H W W') (h1:∀j,j<W.heap.size→H j→F j) (h2:∀j,j<W.heap.size→G j→F j) (r:List Value) (x:(Int×Int)×List UInt8) (h:SnQ F W r x):SnQ G W' r x:=by
 obtain⟨a,c,e,hr⟩:=h;exact⟨a,c,e,fun X hX=>hr X ((hk.mono h1).trans hX h2)⟩
def LnF (P:Nat→Prop) (g:Nat) (tv pv:Value) (j:Nat):Prop:=j=g∨tv.ownBlock=some j∨pv.ownBlock=some j∨¬P j
structure LnS (P:Nat→Prop) (W:World) (g:Nat) (sv av:Value) (lp:Bool) (s:Ln) (tv pv:Value) (cs:List Value):Prop where
 at_:W.heap[g]?=some (.cells (LnC sv av lp (.slice none 0 0) tv pv s.free s.heard s.last) 125)
 pg:P g
 pl:∀j,P j→j<W.heap.size
 sn:W.ownsRow 0 95 3 tv s.sent.length cs
 tb:∀j,tv.ownBlock=some j→j≠g∧P j
 pn:PnR (fun j=>j≠g∧tv.ownBlock≠some j∧P j) W pv s.pend
 sc:CsL 3 (SnQ (LnF P g tv pv) W) cs s.sent
def LnAt (P:Nat→Prop) (W:World) (g:Nat) (sv av:Value) (lp:Bool) (s:Ln):Prop:=∃tv pv cs,LnS P W g sv av lp s tv pv cs
theorem LnS.keep {P F:Nat→Prop} {W X:World} {g:Nat} {sv av:Value} {lp:Bool} {s:Ln} {tv pv:Value} {cs:List Value} (h:LnS P W g sv av lp s tv pv cs) (hk:Keeps F W X) (hn:∀j,P j→¬F j):LnS P X g sv av lp s tv pv cs:=
 ⟨bG h.at_ hk (hn g h.pg),h.pg,fun j hj=>Nat.lt_of_lt_of_le (h.pl j hj) hk.size,bF h.sn hk (fun j hj=>hn j (h.tb j hj).2),h.tb,h.pn.keeps hk (fun j hj=>hn j hj.2.2),
  CsL.mono (fun r y hy=>SnQ.keeps hk (fun j _ e=>.inr (.inr (.inr (fun hp=>hn j hp e)))) (fun _ _ e=>e) r y hy) _ _ h.sc⟩
theorem LnS.keepB {P:Nat→Prop} {W X:World} {g:Nat} {sv av:Value} {lp:Bool} {s:Ln} {tv pv:Value} {cs:List Value} (h:LnS P W g sv av lp s tv pv cs) (hb:Below W.heap.size W X):LnS P X g sv av lp s tv pv cs:=h.keep (F:=fun _=>False) (Keeps.of_below hb) (fun _ _ e=>e)
theorem LnAt.keep {P F:Nat→Prop} {W X:World} {g:Nat} {sv av:Value} {lp:Bool} {s:Ln} (h:LnAt P W g sv av lp s) (hk:Keeps F W X) (hn:∀j,P j→¬F j):LnAt P X g sv av lp s:=by
 obtain⟨tv,pv,cs,h⟩:=h;exact⟨tv,pv,cs,h.keep hk hn⟩
theorem LnS.chg {P:Nat→Prop} {W W':World} {g:Nat} {sv av:Value} {lp:Bool} {s s':Ln} {tv pv pv':Value} {cs:List Value} (h:LnS P W g sv av lp s tv pv cs)
  (hk:Keeps (fun j=>j=g∨pv.ownBlock=some j) W W') (h':W'.heap[g]?=some (.cells (LnC sv av lp (.slice none 0 0) tv pv' s'.free s'.heard s'.last) 125)) (hs:s'.sent=s.sent)
  (pn':PnR (fun j=>pv.ownBlock=some j∨(W.heap.size≤j∧j<W'.heap.size)) W' pv' s'.pend):LnS (GrowP P W W') W' g sv av lp s' tv pv' cs∧Keeps P W W':=by
 have hgl:g<W.heap.size:=cI h.at_;have hpv:=h.pn.blk;refine⟨⟨h',.inl h.pg,fun j hj=>hj.lt h.pl hk.size,?_,fun j hj=>⟨(h.tb j hj).1,.inl (h.tb j hj).2⟩,pn'.mono (fun j hj=>?_),?_⟩,hk.mono (fun j _ e=>?_)⟩
 ·rw [hs]
  exact bF h.sn hk (fun j hj e=>by
   rcases e with e|e
   ·exact (h.tb j hj).1 e
   ·exact (hpv j e).2.1 hj)
 ·rcases hj with e|⟨e,e2⟩
  ·obtain ⟨a,b,c⟩:=hpv j e
   exact⟨a,b,.inl c⟩
  ·exact ⟨by omega,fun e3=>by have:=h.pl j (h.tb j e3).2;omega,.inr ⟨e,e2⟩⟩
 ·rw [hs]
  refine CsL.mono (fun r y hy=>SnQ.keeps hk (fun j _ e=>?_) (fun j hj e=>?_) r y hy) _ _ h.sc
  ·rcases e with e|e
   ·exact .inl e
   ·exact .inr (.inr (.inl e))
  ·rcases e with e|e|e|e
   ·exact .inl e
   ·exact .inr (.inl e)
   ·rcases pn'.blk j e with e|e
    ·exact .inr (.inr (.inl e))
    ·omega
   ·exact .inr (.inr (.inr (fun hp=>e (.inl hp))))
 ·rcases e with e|e
  ·subst e
   exact h.pg
  ·exact (hpv j e).2.2
theorem LnS.sentMore {P:Nat→Prop} {W W':World} {g:Nat} {sv av:Value} {lp:Bool} {s:Ln} {tv pv tv':Value} {cs:List Value} (h:LnS P W g sv av lp s tv pv cs) {fr:Int} {x:(Int×Int)×List UInt8} {a:Option Addr} {c:Nat}
  (hk:Keeps (fun j=>j=g∨tv.ownBlock=some j) W W') (h':W'.heap[g]?=some (.cells (LnC sv av lp (.slice none 0 0) tv' pv fr s.heard s.last) 125))
  (ho:W'.ownsRow 0 95 3 tv' (s.sent.length+1) (cs++[.int .i64 x.1.1,.int .i64 x.1.2,.slice a x.2.length c])) (hnew:∀j,tv'.ownBlock=some j→tv.ownBlock=some j∨(W.heap.size≤j∧j<W'.heap.size))
  (hb:∀X,Keeps (fun j=>j<W.heap.size∨tv'.ownBlock=some j) W' X→Bs X (.slice a x.2.length c) x.2):
  LnS (GrowP P W W') W' g sv av lp {s with sent:=s.sent++[x],free:=fr} tv' pv (cs++[.int .i64 x.1.1,.int .i64 x.1.2,.slice a x.2.length c])∧Keeps P W W':=by
 have hgl:g<W.heap.size:=cI h.at_;have hpv:=h.pn.blk;have hF:∀j,j<W.heap.size→LnF (GrowP P W W') g tv' pv j→LnF P g tv pv j:=fun j hj e=>by
  rcases e with e|e|e|e
  ·exact .inl e
  ·rcases hnew j e with e|e
   ·exact .inr (.inl e)
   ·omega
  ·exact .inr (.inr (.inl e))
  ·exact .inr (.inr (.inr (fun hp=>e (.inl hp))))
 refine⟨⟨h',.inl h.pg,fun j hj=>hj.lt h.pl hk.size,?_,fun j hj=>?_,(h.pn.keeps hk (fun j hj e=>?_)).mono (fun j hj=>⟨hj.1,fun e=>?_,.inl hj.2.2⟩),?_⟩,hk.mono (fun j _ e=>?_)⟩
 ·show World.ownsRow _ 0 _ 3 tv' (s.sent++[x]).length _
  rw[List.length_append];exact ho
 ·rcases hnew j hj with e|e
  ·exact ⟨(h.tb j e).1,.inl (h.tb j e).2⟩
  ·exact ⟨by omega,.inr e⟩
 ·rcases e with e|e
  ·exact hj.1 e
  ·exact hj.2.1 e
 ·rcases hnew j e with e|e
  ·exact hj.2.1 e
  ·have:=h.pl j hj.2.2
   omega
 ·refine CsL.app _ _ (CsL.mono (fun r y hy=>SnQ.keeps hk (fun j _ e=>?_) hF r y hy) _ _ h.sc) [x] _ ⟨_,[],(List.append_nil _).symm,rfl,⟨a,c,rfl,fun X hX=>hb X (hX.mono (fun j hj e=>?_))⟩,rfl⟩
  ·rcases e with e|e
   ·exact .inl e
   ·exact .inr (.inl e)
  ·by_cases hjl:j<W.heap.size
   ·exact .inl hjl
   ·rcases e with e|e|e|e
    ·omega
    ·exact .inr e
    ·have:=h.pl j (hpv j e).2.2
     omega
    ·exact absurd (.inr ⟨by omega,hj⟩) e
 ·rcases e with e|e
  ·subst e
   exact h.pg
  ·exact (h.tb j e).2
theorem ins_zero (a:Option Addr) (c:Nat) (cf:Value) (w:World):Calls Tryz.prog 202 #[.slice a 0 c,.int .i64 0,.int .i64 0,cf] w fun r w'=>r=.returned (.tuple #[])∧w=w':=by
 go_enter Tryz.func202,Tryz.ntmps202;go_upto_region 1 with(fail)
 go_loopw [8] (fun v wr=>v=.int .i64 1∧w=wr) (fun _ _=>0)
 case atStart=>exact⟨rfl,rfl⟩
 case round=>
  obtain⟨rfl,rfl⟩:=hrel;go_wp2;go_end0;exact⟨rfl,rfl⟩
theorem stable_zero (a:Option Addr) (c:Nat) (cf:Value) (w:World):Calls Tryz.prog 183 #[.slice a 0 c,.int .i64 0,cf] w fun r w'=>r=.returned (.tuple #[])∧w=w':=by
 have HI:Hid (∀X,Calls Tryz.prog 202 #[.slice a 0 c,.int .i64 0,.int .i64 0,cf] X fun r w'=>r=.returned (.tuple #[])∧X=w'):=ins_zero a c cf;go_enter Tryz.func183,Tryz.ntmps183;go_upto_region 2 with(fail)
 go_loopw [7,8] (fun av bv wr=>av=.int .i64 0∧bv=.int .i64 20∧w=wr) (fun _ _ _=>0)
 case atStart=>exact⟨rfl,rfl,rfl⟩
 case round=>
  obtain⟨rfl,rfl,rfl⟩:=hrel;go_upto_region 7 with(go_at_call 202;(with_reducible refine(HI.out _).mono ?_);rintro r w2 ⟨rfl,rfl⟩)
  go_loopw [6,7,8,9] (fun sv _ _ _ wr=>sv=.int .i64 20∧w=wr) (fun _ _ _ _ _=>0)
  case atStart=>exact⟨rfl,rfl⟩
  case round=>
   obtain⟨rfl,rfl⟩:=hrel;go_wp2;go_end0;exact⟨rfl,rfl⟩
theorem sort_zero (a:Option Addr) (c:Nat) (cf:Value) (w:World):Calls Tryz.prog 159 #[.slice a 0 c,cf] w fun r w'=>r=.returned (.tuple #[])∧w=w':=by
 have HS:=bC (stable_zero a c cf w);go_enter Tryz.func159,Tryz.ntmps159;go_wp2_with (go_at_call 183;(with_reducible refine HS.out.mono ?_);rintro r w2 ⟨rfl,rfl⟩);go_end0;exact⟨rfl,rfl⟩
def SoPost (w:World) (v:Value) (l:List Ch) (r:Ending) (w':World):Prop:=r=.returned (.tuple #[])∧PnR (fun j=>v.ownBlock=some j) w' v l∧Keeps (fun j=>v.ownBlock=some j) w w'
def SortOk (p news:List Ch):Prop:=∀(P:Nat→Prop) (w:World) (v:Value),PnR P w v (p++news)→Calls Tryz.prog 159 #[v,.func (.func 160) #[] #[]] w (SoPost w v (news.foldl putL p))
theorem LnS.mono {P Q:Nat→Prop} {W:World} {g:Nat} {sv av:Value} {lp:Bool} {s:Ln} {tv pv:Value} {cs:List Value} (h:LnS P W g sv av lp s tv pv cs) (hq:∀j,P j→Q j) (hl:∀j,Q j→j<W.heap.size):LnS Q W g sv av lp s tv pv cs:=
 ⟨h.at_,hq g h.pg,hl,h.sn,fun j hj=>⟨(h.tb j hj).1,hq j (h.tb j hj).2⟩,h.pn.mono (fun j hj=>⟨hj.1,hj.2.1,hq j hj.2.2⟩),
  CsL.mono (fun r y hy=>SnQ.keeps (Keeps.refl (fun _=>False) W) (fun _ _ e=>e.elim) (fun j _ e=>by
   rcases e with e|e|e|e
   ·exact .inl e
   ·exact .inr (.inl e)
   ·exact .inr (.inr (.inl e))
   ·exact .inr (.inr (.inr (fun hp=>e (hq j hp))))) r y hy) _ _ h.sc⟩
theorem LnS.more {P:Nat→Prop} {W1 wr X3 w7:World} {g:Nat} {sv av:Value} {lp:Bool} {s:Ln} {l:List Ch} {tv pv v7:Value} {cs:List Value} (h:LnS (GrowP P W1 wr) wr g sv av lp {s with pend:=l} tv pv cs) (hp:∀j,P j→j<W1.heap.size) (h1:Keeps P W1 wr) (hb:Below wr.heap.size wr X3) (x:Ch)
  (hn:PnR (GrowP (fun j=>pv.ownBlock=some j) X3 w7) w7 v7 (l++[x])) (hk:Keeps (fun j=>pv.ownBlock=some j) X3 w7):
  LnS (GrowP P W1 (w7.setCell ⟨g,5,none⟩ v7)) (w7.setCell ⟨g,5,none⟩ v7) g sv av lp {s with pend:=l++[x]} tv v7 cs∧Keeps P W1 (w7.setCell ⟨g,5,none⟩ v7):=by
 have h3:=h.keepB hb;have hg3:g<X3.heap.size:=cI h3.at_;have hgp:¬pv.ownBlock=some g:=fun e=>(h3.pn.blk g e).1 rfl
 have hks:Keeps (fun j=>j=g) w7 (w7.setCell ⟨g,5,none⟩ v7):=(Keeps.refl _ _).set _ _ rfl;have hkk:Keeps (fun j=>j=g∨pv.ownBlock=some j) X3 (w7.setCell ⟨g,5,none⟩ v7):=(hk.mono (fun _ _ e=>.inr e)).trans (hks.mono (fun _ _ e=>.inl e)) (fun _ _ e=>e);have hz:(w7.setCell ⟨g,5,none⟩ v7).heap.size=w7.heap.size:=by simp
 have z3:=hb.size;have z7:=hk.size;have z1:=h1.size;obtain⟨a1,a2⟩:=h3.chg (s':={s with pend:=l++[x]}) hkk (bX (bG h3.at_ hk hgp) 5 v7) rfl ((hn.keeps hks (fun j hj e=>by
  rcases hj with e2|e2
  ·rw [e] at e2;exact hgp e2
  ·omega)).mono (fun j hj=>by rw[hz];exact hj))
 refine⟨a1.mono (fun j hj=>?_) (fun j hj=>hj.lt hp (by omega)),(h1.trans (Keeps.of_below (F:=fun _=>False) hb) (fun _ _ e=>e.elim)).trans a2 (fun i hi e=>?_)⟩
 ·rcases hj with(e|⟨e,e2⟩)|⟨e,e2⟩
  ·exact .inl e
  ·exact .inr ⟨e,by omega⟩
  ·exact .inr ⟨by omega,e2⟩
 ·rcases e with e|⟨e,_⟩
  ·exact e
  ·omega
def RcPost (P:Nat→Prop) (w:World) (g:Nat) (sv av:Value) (lp:Bool) (s:Ln) (tv:Value) (cs:List Value) (r:Ending) (w':World):Prop:=r=.returned (.tuple #[])∧(∃pv,LnS (GrowP P w w') w' g sv av lp s tv pv cs)∧Keeps P w w'
theorem z22_1 {p:Prop} (h:p:=by
 have hr3:Below wr.heap.size wr X3:=(HBC.out.trans (hB6.mono HBC.out.size)).trans (hb3.mono (by have:=HBC.out.size;have:=hB6.size;omega));have hL3:=HL.out.keepB hr3;refine bM 12 rfl (fun K hK=>?_);refine step_appPn rfl (.tmp 44) (.tmp 51) rfl rfl hL3.pn.own' (Ch.mk T (xb.toNat:Int) 0 C) ⟨w6.heap.size,0,none⟩ 1 rfl (fun j u hj=>rowAtW n3 j u hj) (by have:=HLB.out;simp only[List.length_append,chsN_len];omega) ?_;intro v7 w7 hn7 hk7;obtain⟨a7,c7,e7v,-⟩:=hn7.len;obtain⟨n7,hn7l⟩:∃n,(s.pend++chsN C st at_ rl k++[(Ch.mk T (xb.toNat:Int) 0 C)]).length=n:=⟨_,rfl⟩;rw[hn7l] at e7v;clear hn7l;subst e7v;have hgp:¬(Value.slice pa5 pn5 pc5).ownBlock=some g:=(fun e=>(hL3.pn.blk g e).1 rfl);have hS7:=bG kS3 hk7 (fun e=>by have h1:=(hL3.pn.blk _ e).2.2;exact HNB.out h1);have hg7:=bG hL3.at_ hk7 hgp;go_simp;refine hK.out _ _ hS7 (fun hSg=>?_);clear hK K;refine tG 13 53 ?_;refine tG 14 54 ?_;have e7:w7.cell? ⟨g,5,none⟩=some (.slice pa5 pn5 pc5):=bA hg7 5;have f7:w7.frozen? ⟨g,5,none⟩=false:=bJ hg7 5;refine bM 15 rfl (fun K hK=>?_);go_simp;refine hK.out _ _ ((cH (by have:=HGN.out;omega)).trans hS7) (fun hSh=>?_);clear hK K;refine wpAnyH_done (by kernel_rfl) ?_ _;have HN7:=bC (HL.out.more HP.out HK1.out hr3 (Ch.mk T (xb.toNat:Int) 0 C) hn7 hk7);go_wp2;go_roundw;(case rel=>(refine⟨k+1,.slice a7 n7 c7,(by have:=HLT.out;omega),(by go_num),?_,HN7.out.2⟩;show LnS _ _ _ _ _ _ _ _ _ _;rw[chsN_succ,HCA.out,←List.append_assoc];exact HN7.out.1));(case measure=>(have:=HLT.out;simp [intOf];omega))):p:=h
theorem recv_by {P:Nat→Prop} {w:World} {g:Nat} {sv av:Value} {lp:Bool} {s:Ln} {tv pv:Value} {cs:List Value} (h:LnS P w g sv av lp s tv pv cs) (bd pa:Int) (hset:Hid (Okset bd pa)) (ra:Option Addr) (rn rc:Nat) (rl:List UInt8) (hr:∀X,Keeps P w X→Bs X (.slice ra rn rc) rl) (hrl:rn≤256) (st:Int) (st0:0≤st) (st1:st≤topT+12400000)
  (at_:At) (ha:at_.ok) (hm:s.pend.length≤90000000) (hso:SortOk s.pend (chsN (charT bd) st at_ rl rl.length)):
  Calls Tryz.prog 126 #[.pointer (some ⟨g,0,none⟩),.agg #[.int .i64 bd,.int .i64 pa],.slice ra rn rc,.int .i64 st,.agg at_.C] w (RcPost P w g sv av lp {s with pend:=(chsN (charT bd) st at_ rl rl.length).foldl putL s.pend} tv cs):=by
 have hrn:rl.length=rn:=(hr w (Keeps.refl _ _)).capOf.1;obtain⟨lat,hlat⟩:=gE at_.lat;obtain⟨fault,hfault⟩:=gE at_.fault;obtain⟨pos,hpos⟩:=gE at_.pos;obtain⟨mask,hmask⟩:=gE at_.mask;obtain⟨ticks,hticks⟩:=gE at_.ticks;obtain⟨value,hvalue⟩:=gE at_.value;have hAC:at_.C=#[.int .i64 lat,.int .i64 fault,.int .i64 pos,.int .i64 mask,.int .i64 ticks,.int .i64 value]:=by unfold At.C;rw[hlat,hfault,hpos,hmask,hticks,hvalue]
 obtain⟨q1,q2,q3,q4,q5,q6⟩:=At.ok_bd ha;rw[hticks] at q5 q6;obtain⟨t1,t2,-⟩:=cK hset.out;obtain⟨C,hC⟩:=gE (charT bd);rw[hC] at t1 t2;have HCH:Hid (∀W,Calls Tryz.prog 128 #[.agg #[.int .i64 bd,.int .i64 pa]] W fun r w'=>r=.returned (.int .i64 C)∧Below W.heap.size W w'):=fun W=>by rw[←hC];exact char_ok bd pa hset W
 rw[hC,hrn] at hso;rw[hAC,hC,hrn];obtain⟨W1,hW1⟩:∃W,(w.alloc (.cells #[.int .i64 bd,.int .i64 pa] 61)).alloc (.cells #[.int .i64 lat,.int .i64 fault,.int .i64 pos,.int .i64 mask,.int .i64 ticks,.int .i64 value] 70)=W:=⟨_,rfl⟩
 have hb1:Below w.heap.size w W1:=by rw[←hW1];exact cJ (bH w _) (Nat.le_refl _) _
 have hz1:W1.heap.size=w.heap.size+2:=by rw[←hW1];simp
 have pS:W1.heap[w.heap.size]?=some (.cells #[.int .i64 bd,.int .i64 pa] 61):=by rw[←hW1];exact bB (bI w _) (bH _ _)
 obtain⟨ab,hab⟩:∃n,w.heap.size+1=n:=⟨_,rfl⟩
 have pA:W1.heap[ab]?=some (.cells #[.int .i64 lat,.int .i64 fault,.int .i64 pos,.int .i64 mask,.int .i64 ticks,.int .i64 value] 70):=by
  rw[←hab,←hW1];have:=bI (w.alloc (.cells #[.int .i64 bd,.int .i64 pa] 61)) (.cells #[.int .i64 lat,.int .i64 fault,.int .i64 pos,.int .i64 mask,.int .i64 ticks,.int .i64 value] 70);simpa using this
 obtain⟨sb,hsb⟩:=gE w.heap.size;have HPL:Hid (∀j,P j→j<sb):=fun j hj=>by rw[←hsb];exact h.pl j hj
 have HP:Hid (∀j,P j→j<W1.heap.size):=fun j hj=>by have:=h.pl j hj;omega
 have HL0:Hid (LnS (GrowP P W1 W1) W1 g sv av lp {s with pend:=s.pend++chsN C st at_ rl 0} tv pv cs):=by
  show LnS _ _ _ _ _ _ _ _ _ _;have e:s.pend++chsN C st at_ rl 0=s.pend:=List.append_nil _;rw[e];exact(h.keepB hb1).mono (fun j hj=>.inl hj) (fun j hj=>hj.lt (fun j hj=>by have:=h.pl j hj;omega) (Nat.le_refl _))
 have HRB:Hid (∀X,Keeps P W1 X→Bs X (.slice ra rn rc) rl):=fun X hX=>hr X ((Keeps.of_below (F:=P) hb1).trans hX (fun _ _ e=>e))
 have HNS:Hid (¬P sb):=fun e=>by have:=HPL.out sb e;omega
 have HNA:Hid (¬P ab):=fun e=>by have:=HPL.out ab e;omega
 have HST:Hid (0≤st∧st≤topT+12400000):=⟨st0,st1⟩
 have HLB:Hid (s.pend.length≤90000000∧rn≤256):=⟨hm,hrl⟩
 have HTK:Hid (0≤ticks∧ticks≤5000000):=⟨q5,q6⟩
 have HCB:Hid (96≤C∧C≤9167):=⟨t1,t2⟩
 have HAT:Hid (∀i x,chAt C st at_ i x=⟨st+((i:Int)+1)*C+(if fault=6∧pos≤(i:Int) then ticks else 0),(x.toNat:Int),0,C⟩):=fun i x=>by unfold chAt;rw[hfault,hpos,hticks]
 have HGN:Hid (g<sb∧sb<W1.heap.size∧ab<W1.heap.size∧sb<ab):=by
  have:=cI h.at_;show _∧_∧_∧_;omega
 have HB1:=bC hb1;have HPS:Hid (W1.heap[sb]?=some (.cells #[.int .i64 bd,.int .i64 pa] 61)):=by rw[←hsb];exact pS
 have HPA:=bC pA;have HW1:=bC hW1;have HSB:=bC (And.intro hsb hab);have HSK:=bC hso;clear hso h hset hr hrl st0 st1 ha hm hrn hAC q1 q2 q3 q4 q5 q6 t1 t2 hC hb1 hz1 pS pA hW1 hsb hab hlat hfault hpos hmask hticks hvalue;go_enter Tryz.func126,Tryz.ntmps126;go_upto_region 1 with(fail)
 rw[HW1.out,HSB.out.2,HSB.out.1];go_upto_region 2 with(fail)
 go_loopw [15] (fun kv wr=>∃(k:Nat) (pv:Value),k≤rn∧kv=.int .i64 (k:Int)∧Hid (LnS (GrowP P W1 wr) wr g sv av lp {s with pend:=s.pend++chsN C st at_ rl k} tv pv cs)∧Hid (Keeps P W1 wr)) (fun kv _=>rn- (intOf kv).toNat)
 case atStart=>exact⟨0,pv,Nat.zero_le _,rfl,HL0.out,Keeps.refl _ _⟩
 case round=>
  clear HL0;obtain⟨k,pv,hk,rfl,HL,HK1⟩:=hrel;have hk0:(0:Int)≤(k:Int):=Int.natCast_nonneg _;obtain⟨pa5,pc5,epv,-⟩:=HL.out.pn.len;obtain⟨pn5,hpn5⟩:∃n,(s.pend++chsN C st at_ rl k).length=n:=⟨_,rfl⟩
  rw[show ({s with pend:=s.pend++chsN C st at_ rl k}:Ln).pend.length=pn5 from hpn5] at epv;subst epv;by_cases hlt:k<rn
  ·obtain ⟨b,o,rfl,hbc⟩:=(HRB.out wr HK1.out).byte hlt
   obtain⟨xb,hxb⟩:=gE (rl.getD k 0);rw[hxb] at hbc;have hkl:(k:Int)<(rn:Int):=by omega
   obtain⟨k1,hk1⟩:∃x,k+1=x:=⟨_,rfl⟩
   obtain⟨z1,z2⟩:=HLB.out;have s1:IntKind.i64.wrap ((k:Int)+1)=(k1:Int):=(IntWalk.i64_in _ (by omega)).trans (by omega);obtain⟨m,hm⟩:∃x:Int,(k1:Int)*C=x:=⟨_,rfl⟩
   obtain⟨c1,c2⟩:=HCB.out;have m0:0≤m:=by rw[←hm];exact Int.mul_nonneg (by omega) (by omega)
   have m1:m≤256*9167:=by rw[←hm];exact Int.mul_le_mul (by omega) c2 (by omega) (by omega)
   have s2:IntKind.i64.wrap ((k1:Int)*C)=m:=by rw[hm];exact IntWalk.i64_in _ (by omega)
   obtain⟨y0,y1⟩:=HST.out;have etop:topT=1152921504606846976:=rfl;rw[etop] at y1;obtain⟨z,hz⟩:∃z,st+m=z:=⟨_,rfl⟩
   have s3:IntKind.i64.wrap (st+m)=z:=(IntWalk.i64_in _ (by omega)).trans hz;obtain⟨u0,u1⟩:=HTK.out;obtain⟨zt,hzt⟩:∃x,z+ticks=x:=⟨_,rfl⟩
   have s4:IntKind.i64.wrap (z+ticks)=zt:=(IntWalk.i64_in _ (by omega)).trans hzt;obtain⟨T,hT⟩:∃T,(if fault=6∧pos≤(k:Int) then zt else z)=T:=⟨_,rfl⟩
   have HCA:Hid (chAt C st at_ k (rl.getD k 0)=⟨T,(xb.toNat:Int),0,C⟩):=by
    show _=_;have e1:((k:Int)+1)*C=m:=by rw[←hm,←hk1];rfl
    rw[HAT.out,hxb,e1,hz,←hT];split
    ·rw [hzt]
    ·rw [Int.add_zero]
   have hkm:k≤256:=by omega
   have HT:=bC hT;have HLT:=bC hlt;have p1:=bG HPS.out HK1.out HNS.out;have p2:=bG HPA.out HK1.out HNA.out;have x0:∀X,Below wr.heap.size wr X→X.cell? ⟨sb,0,none⟩=some (.int .i64 bd):=fun X h=>bA (bB p1 h) 0
   have x1:∀X,Below wr.heap.size wr X→X.cell? ⟨sb,1,none⟩=some (.int .i64 pa):=fun X h=>bA (bB p1 h) 1
   have a1:∀X,Below wr.heap.size wr X→X.cell? ⟨ab,1,none⟩=some (.int .i64 fault):=fun X h=>bA (bB p2 h) 1
   have a2:∀X,Below wr.heap.size wr X→X.cell? ⟨ab,2,none⟩=some (.int .i64 pos):=fun X h=>bA (bB p2 h) 2
   have a4:∀X,Below wr.heap.size wr X→X.cell? ⟨ab,4,none⟩=some (.int .i64 ticks):=fun X h=>bA (bB p2 h) 4
   have kr:Below wr.heap.size wr wr:=Below.refl _ _;have HP1:=bC p1;clear hxb hlt hm m0 m1 c1 c2 y0 y1 etop hz u0 u1 hzt hT z1 z2 p1 p2 hk1;obtain⟨B,hB⟩:∃B:Bool,(B=true↔fault=6∧pos≤(k:Int)):=cN;have HBB:=bC hB;clear hB;go_upto_region 5 with(go_at_call 128;(with_reducible refine(HCH.out _).mono ?_);rintro r wc ⟨rfl,hbc6⟩)
   have HBC:=bC hbc6;have a1':=a1 _ hbc6;have a2':=a2 _ hbc6;have a4':=a4 _ hbc6;clear hbc6 x0 x1 a1 a2 a4 kr s1 s2 s3;go_cut [35] from 27 to 35 (fun s35 wd=>s35=.bool B∧wc=wd)
   case first=>
    by_cases h6:fault=6
    ·have e6:(fault==6)=true:=b1 h6
     by_cases hp:pos≤(k:Int)
     ·have HTE:Hid (B=true):=HBB.out.2 ⟨h6,hp⟩
      clear h6;go_wp2;go_meet
      case rel=>exact⟨by rw[HTE.out],rfl⟩
     ·have HTE:Hid (B=false):=by cases B with
       |false=>rfl
       |true=>exact absurd (HBB.out.1 rfl).2 hp
      have hp2:decide (pos≤(k:Int))=false:=decide_eq_false hp;clear h6;go_wp2;go_meet
      case rel=>exact⟨by rw[HTE.out],rfl⟩
    ·have e6:(fault==6)=false:=b0 h6
     have HTE:Hid (B=false):=by cases B with
      |false=>rfl
      |true=>exact absurd (HBB.out.1 rfl).1 h6
     clear h6;go_wp2;go_meet
     case rel=>exact⟨by rw[HTE.out],rfl⟩
   case rest=>
   obtain⟨rfl,hwc⟩:=hcut;subst hwc;have HTB:Hid ((if B=true then zt else z)=T):=by
    show _=_;rw[←HT.out];cases B with
    |true=>rw[if_pos rfl,if_pos (HBB.out.1 rfl)]
    |false=>rw[if_neg (by decide),if_neg (fun h=>by have:=HBB.out.2 h;cases this)]
   clear a1' a2' HBB HT;go_upto_if 35 with(fail)
   go_cut [12] from 35 to 39 (fun s12 wd=>s12=.int .i64 T∧wc=wd)
   case first=>
    cases B with
    |true=>
     have HTE:Hid (zt=T):=HTB.out;clear HTB;go_wp2;go_meet
     case rel=>exact⟨by rw[HTE.out],rfl⟩
    |false=>
     have HTE:Hid (z=T):=HTB.out;clear HTB;go_wp2;go_meet
     case rel=>exact⟨by rw[HTE.out],rfl⟩
   case rest=>
   obtain⟨rfl,hwc⟩:=hcut;subst hwc;clear HTB a4' s4;have HS5:=bC (bB HP1.out HBC.out);have y0:∀X:World,X.heap[sb]?=some (.cells #[.int .i64 bd,.int .i64 pa] 61)→X.cell? ⟨sb,0,none⟩=some (.int .i64 bd):=fun X h=>bA h 0
   have y1:∀X:World,X.heap[sb]?=some (.cells #[.int .i64 bd,.int .i64 pa] 61)→X.cell? ⟨sb,1,none⟩=some (.int .i64 pa):=fun X h=>bA h 1
   have HGL:=bC (bB HL.out.at_ HBC.out);have kD:Below wc.heap.size wc wc.drew:=(Below.refl _ _).drew;have kS:wc.drew.heap[sb]?=some (.cells #[.int .i64 bd,.int .i64 pa] 61):=bB HS5.out kD;have d0:wc.drew.cell? ⟨g,5,none⟩=some (.slice pa5 pn5 pc5):=bA (bB HGL.out kD) 5;have HNB:Hid (¬GrowP P W1 wr sb):=fun e=>by
    rcases e with e|e
    ·exact HNS.out e
    ·have:=HGN.out;omega
   go_upto_region 7 with(fail)
   refine wp_region_held_drew (S:=fun V=>V.heap[sb]?=some (.cells #[.int .i64 bd,.int .i64 pa] 61)) (by kernel_rfl) kS (fun hH=>?_);clear hH;refine tG 0 40 ?_;refine tG 1 41 ?_;refine tG 2 42 ?_;refine tG 3 43 ?_;refine tG 5 45 ?_;refine tG 6 46 ?_;refine tG 7 47 ?_;refine tG 8 48 ?_;refine wpAnyH_ready (rs:=[4,9]) (by kernel_rfl) (by simp) ?_;refine AllReadyH.cons rfl (fun K hK=>?_) (AllReadyH.cons rfl (fun K hK=>?_) AllReadyH.nil)
   ·go_simp
    refine hK.out _ _ kS (fun hSx=>?_);clear hK K hSx;refine bM 9 rfl (fun K hK=>?_);go_simp;refine(HCH.out _).mono ?_;rintro r w6 ⟨rfl,hb6⟩;have hB6:=bU kD hb6;have kS6:=bB HS5.out hB6;refine hK.out _ _ kS6 (fun hSx=>?_);clear hK K hSx;refine tG 10 50 ?_;refine bM 11 rfl (fun K hK=>?_);go_simp;obtain⟨X3,hX3,hb3,n3⟩:=alQ w6 (.cells #[.int .i64 T,.int .u8 (xb.toNat:Int),.int .i64 0,.int .i64 C] 174);rw[hX3];have kS3:=bB kS6 hb3;clear hX3;refine hK.out _ _ kS3 (fun hSx=>?_);clear hK K hSx;exact z22_1
   ·go_simp
    refine(HCH.out _).mono ?_;rintro r w6 ⟨rfl,hb6⟩;have hB6:=bU kD hb6;have kS6:=bB HS5.out hB6;refine hK.out _ _ kS6 (fun hSx=>?_);clear hK K hSx;refine tG 10 50 ?_;refine wpAnyH_ready (rs:=[4,11]) (by kernel_rfl) (by simp) ?_;refine AllReadyH.cons rfl (fun K hK=>?_) (AllReadyH.cons rfl (fun K hK=>?_) AllReadyH.nil)
    ·have d6:w6.cell? ⟨g,5,none⟩=some (.slice pa5 pn5 pc5):=bA (bB HGL.out hB6) 5
     go_simp;refine hK.out _ _ kS6 (fun hSx=>?_);clear hK K hSx;refine bM 11 rfl (fun K hK=>?_);go_simp;obtain⟨X3,hX3,hb3,n3⟩:=alQ w6 (.cells #[.int .i64 T,.int .u8 (xb.toNat:Int),.int .i64 0,.int .i64 C] 174);rw[hX3];have kS3:=bB kS6 hb3;clear hX3;refine hK.out _ _ kS3 (fun hSx=>?_);clear hK K hSx;exact z22_1
    ·go_simp
     obtain⟨X3,hX3,hb3,n3⟩:=alQ w6 (.cells #[.int .i64 T,.int .u8 (xb.toNat:Int),.int .i64 0,.int .i64 C] 174);rw[hX3];have kS3:=bB kS6 hb3;clear hX3;refine hK.out _ _ kS3 (fun hSx=>?_);clear hK K hSx;have d6:X3.cell? ⟨g,5,none⟩=some (.slice pa5 pn5 pc5):=bA (bB HGL.out (bU hB6 hb3)) 5;refine bM 4 rfl (fun K hK=>?_);go_simp;refine hK.out _ _ kS3 (fun hSx=>?_);clear hK K hSx;exact z22_1
  ·obtain rfl:k=rn:=by omega
   have y5:wr.cell? ⟨g,5,none⟩=some (.slice pa5 pn5 pc5):=bA HL.out.at_ 5;have HSO:=bC (HSK.out _ _ _ HL.out.pn);clear hlt hpn5 hk hk0;go_wp2_with (go_at_call 159;(with_reducible refine HSO.out.mono ?_);rintro r w2 ⟨rfl,hp2,hk2⟩;have HP2:=bC hp2;have HK2:=bC hk2;clear hp2 hk2);go_end0;have hgp:¬(Value.slice pa5 pn5 pc5).ownBlock=some g:=fun e=>(HL.out.pn.blk g e).1 rfl
   obtain⟨a1,a2⟩:=HL.out.chg (s':={s with pend:=(chsN C st at_ rl k).foldl putL s.pend}) (HK2.out.mono (fun _ _ e=>.inr e)) (bG HL.out.at_ HK2.out hgp) rfl (HP2.out.mono (fun j hj=>.inl hj));have hkw:Keeps P w w2:=((Keeps.of_below (F:=P) HB1.out).trans HK1.out (fun _ _ e=>e)).trans a2 (fun i hi e=>by
    rcases e with e|e
    ·exact e
    ·have:=HB1.out.size;omega)
   refine⟨rfl,⟨.slice pa5 pn5 pc5,?_⟩,hkw⟩;refine a1.mono (fun j hj=>?_) (fun j hj=>hj.lt (fun j hj=>by have:=HP.out j hj;have:=HB1.out.size;have:=HPL.out j hj;have:=HSB.out.1;omega) hkw.size);have z1:=HB1.out.size;have z2:=HK1.out.size;have z3:=HK2.out.size;rcases hj with(e|⟨e,e2⟩)|⟨e,e2⟩
   ·exact .inl e
   ·exact .inr ⟨by omega,by omega⟩
   ·exact .inr ⟨by omega,e2⟩
theorem pframe_ok (b p:Int) (h:Hid (Okset b p)) (n:Nat) (hn:n≤256) (w:World):
  Calls Tryz.prog 102 #[.agg #[.int .i64 b,.int .i64 p],.int .i64 (n:Int)] w fun r w'=>r=.returned (.int .i64 (frameT b n))∧Below w.heap.size w w':=by
 obtain⟨t1,t2,_,_,t5,t6⟩:=cK h.out;obtain⟨C,hC⟩:=gE (charT b);have HCH:Hid (∀W,Calls Tryz.prog 128 #[.agg #[.int .i64 b,.int .i64 p]] W fun r w'=>r=.returned (.int .i64 C)∧Below W.heap.size W w'):=fun W=>by rw[←hC];exact char_ok b p h W
 have HF:Hid (frameT b n=(n:Int)*C):=by show _=_;unfold frameT;rw[hC]
 rw[hC] at t1 t2;have hm:(0:Int)≤(n:Int)*C:=Int.mul_nonneg (by omega) (by omega);have hm2:(n:Int)*C≤256*9167:=Int.mul_le_mul (by omega) t2 (by omega) (by decide);have s1:IntKind.i64.wrap ((n:Int)*C)=(n:Int)*C:=IntWalk.i64_in _ (by omega);clear hC;go_enter Tryz.func102,Tryz.ntmps102;go_wp2_with (go_at_call 128;(with_reducible refine(HCH.out _).mono ?_);rintro r w1 ⟨rfl,hb1⟩);go_ret;exact⟨by rw[HF.out];rfl,bU (bH w _) hb1⟩
structure LnG (P:Nat→Prop) (w:World) (la:Option Addr) (ln lc:Nat) (aa:Option Addr) (an ac:Nat) (l:List Sl) (ats:List At) (lp:Bool):Prop where
 rd:∀X,Keeps P w X→Slvs X (.slice la ln lc) l∧Ats X (.slice aa an ac) ats
 ln_:l.length=ln
 an_:ats.length=an
 bus:BusP l
 ok:∀x∈ats,x.ok
 lp_:lp=true→0<an
theorem LnG.next {P Q:Nat→Prop} {w w':World} {la:Option Addr} {ln lc:Nat} {aa:Option Addr} {an ac:Nat} {l:List Sl} {ats:List At} {lp:Bool} (h:LnG P w la ln lc aa an ac l ats lp) (hk:Keeps P w w') (hq:∀j,j<w.heap.size→Q j→P j):LnG Q w' la ln lc aa an ac l ats lp:=
 ⟨fun X hX=>h.rd X (hk.trans hX hq),h.ln_,h.an_,h.bus,h.ok,h.lp_⟩
def SdPost (P:Nat→Prop) (w:World) (g:Nat) (sv av:Value) (lp:Bool) (s:Ln) (e:Int) (r:Ending) (w':World):Prop:=r=.returned (.tuple #[.int .i64 e,.int .i64 0])∧LnAt (GrowP P w w') w' g sv av lp s∧Keeps P w w'
end Go.Proofs.YtoaoejaodhedaaaGreat
