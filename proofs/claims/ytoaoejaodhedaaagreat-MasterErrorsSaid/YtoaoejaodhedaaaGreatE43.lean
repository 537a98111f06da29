/-
 Texts 43 of the claim.
-/
import Derived.Test.YtoaoejaodhedaaaGreatE42
import Derived.Deep.CutRange
import Derived.Test.YtoaoejaodhedaaaGreatE06
namespace Go.Proofs.YtoaoejaodhedaaaGreat
open Go.RowKit
set_option maxHeartbeats 6400000
set_option maxRecDepth 100000
theorem reply_dam (g:Nat) (la:Option Addr) (lc ln:Nat) (l:List Sl) (hl:l.length=ln) (hB:BusP l) (bd pa:Int) (f1:wfI bd) (f2:wfI pa) (fa:Option Addr) (fn fc:Nat) (f:List UInt8) (lat fault pos mask ticks value:Int) (h3:fault=3) (p0:0≤pos) (m0:1≤mask) (m1:mask≤65535) (x0:0≤value) (x1:value≤65535) (w:World) (hc0:w.cell? ⟨g,0,none⟩=some (.slice la ln lc)) (hL:Slvs w (.slice la ln lc) l) (hf:Bs w (.slice fa fn fc) f):
  Calls Tryz.prog 127 #[.pointer (some ⟨g,0,none⟩),.agg #[.int .i64 bd,.int .i64 pa],.slice fa fn fc,.agg #[.int .i64 lat,.int .i64 fault,.int .i64 pos,.int .i64 mask,.int .i64 ticks,.int .i64 value]] w (RvPost w (rcvF l ⟨lat,fault,pos,mask,ticks,value⟩ bd pa f)):=by
 obtain⟨W1,hW1⟩:∃W,(w.alloc (.cells #[.int .i64 bd,.int .i64 pa] 61)).alloc (.cells #[.int .i64 lat,.int .i64 fault,.int .i64 pos,.int .i64 mask,.int .i64 ticks,.int .i64 value] 70)=W:=⟨_,rfl⟩;have HY:Hid (RyB w W1 g bd pa #[.int .i64 lat,.int .i64 fault,.int .i64 pos,.int .i64 mask,.int .i64 ticks,.int .i64 value] la ln lc):=(by have hb:Below w.heap.size w W1:=(by rw[←hW1];exact bta (bal' w _) (Nat.le_refl _) _);refine⟨hb,by rw[←hW1];simp,by rw[←hW1];exact hpKeep (hpNew w _) (bal' _ _),?_,cell_keep hb hc0⟩;rw[←hW1];have h:=hpNew (w.alloc (.cells #[.int .i64 bd,.int .i64 pa] 61)) (.cells #[.int .i64 lat,.int .i64 fault,.int .i64 pos,.int .i64 mask,.int .i64 ticks,.int .i64 value] 70);rw[World.size_alloc] at h;exact h);obtain⟨ab,hab⟩:∃n,w.heap.size+1=n:=⟨_,rfl⟩;have HPA:Hid (W1.heap[ab]?=some (.cells #[.int .i64 lat,.int .i64 fault,.int .i64 pos,.int .i64 mask,.int .i64 ticks,.int .i64 value] 70)):=(by rw[←hab];exact HY.out.a);have HW1:=hid hW1;have HAB:=hid hab;clear hW1 hab
 have s0:∀X,Below W1.heap.size W1 X→X.cell? ⟨w.heap.size,0,none⟩=some (.int .i64 bd):=(fun X h=>hpCell (hpKeep HY.out.s h) 0);have s1:∀X,Below W1.heap.size W1 X→X.cell? ⟨w.heap.size,1,none⟩=some (.int .i64 pa):=(fun X h=>hpCell (hpKeep HY.out.s h) 1);have a1:∀X,Below W1.heap.size W1 X→X.cell? ⟨ab,1,none⟩=some (.int .i64 fault):=(fun X h=>hpCell (hpKeep HPA.out h) 1);have a2:∀X,Below W1.heap.size W1 X→X.cell? ⟨ab,2,none⟩=some (.int .i64 pos):=(fun X h=>hpCell (hpKeep HPA.out h) 2);have a3:∀X,Below W1.heap.size W1 X→X.cell? ⟨ab,3,none⟩=some (.int .i64 mask):=(fun X h=>hpCell (hpKeep HPA.out h) 3);have a5:∀X,Below W1.heap.size W1 X→X.cell? ⟨ab,5,none⟩=some (.int .i64 value):=(fun X h=>hpCell (hpKeep HPA.out h) 5);have c0:∀X,Below W1.heap.size W1 X→X.cell? ⟨g,0,none⟩=some (.slice la ln lc):=(fun X h=>cell_keep h HY.out.c0);have k0:Below W1.heap.size W1 W1:=Below.refl _ _;have kD:Below W1.heap.size W1 W1.drew:=(Below.refl _ _).drew
 obtain⟨R,hR⟩:∃R,(busAns l bd pa f value).getD []=R:=⟨_,rfl⟩;obtain⟨rn,hrn⟩:∃n,R.length=n:=⟨_,rfl⟩;have HAN:Hid (∀X,Below W1.heap.size W1 X→Calls Tryz.prog 163 #[.slice la ln lc,.agg #[.int .i64 bd,.int .i64 pa],.slice fa fn fc,.int .i64 value] X fun r w'=>∃a c B,r=.returned (.tuple #[.slice a rn c,.bool B])∧w'.ownsRow X.heap.size 5 1 (.slice a rn c) rn (u8s R)∧Below X.heap.size X w'):=(fun X hX=>(pbans_any la lc ln l hl hB bd pa f1 f2 fa fn fc f value x0 x1 X (hL.keep (bt HY.out.b hX (Nat.le_refl _))) (hf.keep (bt HY.out.b hX (Nat.le_refl _)))).mono fun _ _ h=>by rw[←hR];exact h.uni (by rw[hR];exact hrn));have HRN:=hid hrn;have HR:=hid hR
 have e1:(fault==1)=false:=b0 (by omega)
 have e2:(fault==2)=false:=b0 (by omega)
 have e3:(fault==3)=true:=b1 h3
 have e5:(fault==5)=false:=b0 (by omega)
 cases ho:busDec l bd pa f with
 |none=>
  have hR0:R=[]:=by rw[←hR];unfold busAns;rw[ho];rfl
  have hE:rcvF l ⟨lat,fault,pos,mask,ticks,value⟩ bd pa f=[]:=by
   unfold rcvF loneB
   dsimp only
   rw[if_neg (by omega),if_neg (by omega),ho,if_neg (by rintro ⟨_,h⟩;cases h),hR,hR0]
  subst hR0
  have hrn0:rn=0:=hrn.symm
  subst hrn0
  rw[hE]
  clear hc0 hL hf hB hl f1 f2 hrn hR h3 x0 x1 hE ho
  go_enter Tryz.func127,Tryz.ntmps127
  go_upto_region 1 with(fail)
  rw[HW1.out,HAB.out]
  go_upto_region 3 with(fail)
  refine wp_region_held_drew (S:=fun V=>Below W1.heap.size W1 V) (by kernel_rfl) kD (fun hH=>?_);clear hH;refine tkE 0 14 rfl rfl ?_;simp only[setS];refine tkE 1 15 rfl rfl ?_;simp only[setS];refine tkE 2 16 rfl rfl ?_;simp only[setS];refine tkE 3 17 rfl rfl ?_;simp only[setS];refine tkE 4 18 rfl rfl ?_;simp only[setS];refine tkE 5 19 rfl rfl ?_;simp only[setS];refine tkE 6 20 rfl rfl ?_;simp only[setS];refine tkE 7 21 rfl rfl ?_;simp only[setS];refine rdyH 8 rfl (fun K hK=>?_);go_simp;refine(HAN.out _ kD).mono ?_;rintro r w4 ⟨ra,rc,B,rfl,hown,hb4⟩;have hB4:=bt kD hb4 (Nat.le_refl _);refine hK.out _ _ hB4 (fun hSx=>?_);clear hK K hSx;refine tkE 9 13 rfl rfl ?_;simp only[setS];refine tkE 10 23 rfl rfl ?_;simp only[setS];refine tkE 11 24 rfl rfl ?_;simp only[setS];refine tkD 12 9 (v:=?_) rfl (by kernel_rfl) (fun _ _ _ h=>h) rfl (by rfl) (by assumption) ?_ ?_;rotate_left;(intro w hSw;(try dsimp only at hSw);(try go_simp);try rfl);refine wpAnyH_done (by kernel_rfl) ?_ _
  have a1':=a1 _ hB4
  have HOW:=hid hown
  clear hown
  go_wp2
  go_ret
  have hz:=kD.size
  exact⟨ra,rc,rfl,own_lower HOW.out (Nat.le_trans HY.out.b.size hz),bt HY.out.b hB4 (Nat.le_refl _)⟩
 |some o=>
  obtain⟨V,hV⟩:∃V,decide (o.2.2.length=1)=V:=⟨_,rfl⟩
  have hE:rcvF l ⟨lat,fault,pos,mask,ticks,value⟩ bd pa f=if V=true then damL ⟨lat,fault,pos,mask,ticks,value⟩ R else R:=by
   have hl1:loneB l bd pa f=V:=by unfold loneB;rw[ho];exact hV
   unfold rcvF
   dsimp only
   rw[if_neg (by omega),if_neg (by omega),hR]
   cases V with
   |false=>rw[if_neg (by rw[hl1];rintro ⟨_,h⟩;cases h),if_neg (by decide)]
   |true=>rw[if_pos ⟨h3,hl1⟩,if_pos rfl]
  have hbl:5≤rn∧rn≤256:=by
   rw[←hrn,←hR]
   unfold busAns
   rw[ho]
   exact ansF_len hB ho value
  have HSG:Hid (∀X,Below W1.heap.size W1 X→Calls Tryz.prog 164 #[.pointer (some ⟨g,0,none⟩),.agg #[.int .i64 bd,.int .i64 pa],.slice fa fn fc] X (BoolPost X V)):=fun X hX=>single_any g la lc ln l hl hB bd pa f1 f2 fa fn fc f o ho V hV X (cell_keep hX HY.out.c0) (hL.keep (bt HY.out.b hX (Nat.le_refl _))) (hf.keep (bt HY.out.b hX (Nat.le_refl _)))
  rw[hE]
  obtain⟨rb1,rb2⟩:=hbl
  have gl:decide ((0:Int)<(rn:Int))=true:=decide_eq_true (by omega)
  have gl2:0<rn:=by omega
  clear hc0 hL hf hB hl f1 f2 hrn hR h3 x0 x1 hE ho hV
  cases V with
  |false=>
   rw[if_neg (by decide)]
   go_enter Tryz.func127,Tryz.ntmps127
   go_upto_region 1 with(fail)
   rw[HW1.out,HAB.out]
   go_upto_region 3 with(fail)
   refine wp_region_held_drew (S:=fun V=>Below W1.heap.size W1 V) (by kernel_rfl) kD (fun hH=>?_);clear hH;refine tkE 0 14 rfl rfl ?_;simp only[setS];refine tkE 1 15 rfl rfl ?_;simp only[setS];refine tkE 2 16 rfl rfl ?_;simp only[setS];refine tkE 3 17 rfl rfl ?_;simp only[setS];refine tkE 4 18 rfl rfl ?_;simp only[setS];refine tkE 5 19 rfl rfl ?_;simp only[setS];refine tkE 6 20 rfl rfl ?_;simp only[setS];refine tkE 7 21 rfl rfl ?_;simp only[setS];refine rdyH 8 rfl (fun K hK=>?_);go_simp;refine(HAN.out _ kD).mono ?_;rintro r w4 ⟨ra,rc,B,rfl,hown,hb4⟩;have hB4:=bt kD hb4 (Nat.le_refl _);refine hK.out _ _ hB4 (fun hSx=>?_);clear hK K hSx;refine tkE 9 13 rfl rfl ?_;simp only[setS];refine tkE 10 23 rfl rfl ?_;simp only[setS];refine tkE 11 24 rfl rfl ?_;simp only[setS];refine tkD 12 9 (v:=?_) rfl (by kernel_rfl) (fun _ _ _ h=>h) rfl (by rfl) (by assumption) ?_ ?_;rotate_left;(intro w hSw;(try dsimp only at hSw);(try go_simp);try rfl);refine wpAnyH_done (by kernel_rfl) ?_ _
   have a1':=a1 _ hB4
   have s0':=s0 _ hB4
   have s1':=s1 _ hB4
   have HOW:=hid hown
   clear hown
   go_wp2_with (go_at_call 164;(with_reducible refine(HSG.out _ hB4).mono ?_);rintro r w5 ⟨rfl,hb5⟩)
   go_ret
   have hz:=kD.size
   exact⟨ra,rc,(by rw[HRN.out]<;>rfl),by rw[HRN.out];exact own_lower (own_keeps (F:=fun _=>False) HOW.out (Keeps.of_below hb5) (fun _ _ e=>e)) (Nat.le_trans HY.out.b.size hz),bt (bt HY.out.b hB4 (Nat.le_refl _)) hb5 (Nat.le_refl _)⟩
  |true=>
   rw[if_pos rfl]
   obtain⟨D,hD⟩:∃D,damL ⟨lat,fault,pos,mask,ticks,value⟩ R=D:=⟨_,rfl⟩
   rw[hD]
   obtain⟨p,hp⟩:∃p,pos.toNat%rn=p:=⟨_,rfl⟩
   have hpl:p<rn:=by rw[←hp];exact Nat.mod_lt _ gl2
   have r2:pos%(rn:Int)=(p:Int):=by rw[←hp,Int.natCast_emod,Int.toNat_of_nonneg p0]
   have r1:pos.tmod (rn:Int)=(p:Int):=by rw[Int.tmod_eq_emod_of_nonneg p0,r2]
   have r3:¬(rn:Int)=0:=by omega
   have r4:(0:Int)≤(p:Int):=by omega
   have r5:(p:Int)<(rn:Int):=by omega
   obtain⟨n1,hn1⟩:∃n,mask.toNat%256=n:=⟨_,rfl⟩
   obtain⟨n2,hn2⟩:∃n,mask.toNat/256=n:=⟨_,rfl⟩
   have n1l:n1<256:=by omega
   have n2l:n2<256:=by omega
   have u1:IntKind.u8.wrap mask=(n1:Int):=by rw[IntKind.wrap_u8,←hn1];omega
   have u2:IntKind.u8.wrap (mask/256)=(n2:Int):=by rw[IntKind.wrap_u8,←hn2];omega
   have HD:=hid hD
   have HPN:=hid (And.intro hp (And.intro hn1 hn2))
   clear hD hp hn1 hn2
   go_enter Tryz.func127,Tryz.ntmps127
   go_upto_region 1 with(fail)
   rw[HW1.out,HAB.out]
   go_upto_region 3 with(fail)
   refine wp_region_held_drew (S:=fun V=>Below W1.heap.size W1 V) (by kernel_rfl) kD (fun hH=>?_);clear hH;refine tkE 0 14 rfl rfl ?_;simp only[setS];refine tkE 1 15 rfl rfl ?_;simp only[setS];refine tkE 2 16 rfl rfl ?_;simp only[setS];refine tkE 3 17 rfl rfl ?_;simp only[setS];refine tkE 4 18 rfl rfl ?_;simp only[setS];refine tkE 5 19 rfl rfl ?_;simp only[setS];refine tkE 6 20 rfl rfl ?_;simp only[setS];refine tkE 7 21 rfl rfl ?_;simp only[setS];refine rdyH 8 rfl (fun K hK=>?_);go_simp;refine(HAN.out _ kD).mono ?_;rintro r w4 ⟨ra,rc,B,rfl,hown,hb4⟩;have hB4:=bt kD hb4 (Nat.le_refl _);refine hK.out _ _ hB4 (fun hSx=>?_);clear hK K hSx;refine tkE 9 13 rfl rfl ?_;simp only[setS];refine tkE 10 23 rfl rfl ?_;simp only[setS];refine tkE 11 24 rfl rfl ?_;simp only[setS];refine tkD 12 9 (v:=?_) rfl (by kernel_rfl) (fun _ _ _ h=>h) rfl (by rfl) (by assumption) ?_ ?_;rotate_left;(intro w hSw;(try dsimp only at hSw);(try go_simp);try rfl);refine wpAnyH_done (by kernel_rfl) ?_ _
   have a1':=a1 _ hB4
   have s0':=s0 _ hB4
   have s1':=s1 _ hB4
   have HOW:=hid hown
   clear hown
   go_upto_region 10 with(go_at_call 164;(with_reducible refine(HSG.out _ hB4).mono ?_);rintro r w5 ⟨rfl,hb5⟩)
   have hB5:Below W1.heap.size W1 w5:=bt hB4 hb5 (Nat.le_refl _)
   have hz:=kD.size
   have HO5:Hid (w5.ownsRow w.heap.size 5 1 (.slice ra rn rc) rn (u8s R)):=own_lower (own_keeps (F:=fun _=>False) HOW.out (Keeps.of_below hb5) (fun _ _ e=>e)) (Nat.le_trans HY.out.b.size hz)
   obtain⟨gb,cap,hv1,hgb,-,-⟩:=own_shapeR HO5.out gl2
   simp only[Value.slice.injEq,true_and] at hv1
   obtain⟨rfl,rfl⟩:=hv1
   have hcl:=ownb_cellZ HO5.out p hpl
   have hfz:=HO5.out.frozenAt p
   have a3':=a3 _ hB5
   have a2':=a2 _ hB5
   clear a1' s0' s1'
   go_upto_region 12 with(fail)
   go_region
   obtain⟨W6,hW6⟩:∃W,(w5.setCell ⟨gb,p,none⟩ (.int .u8 (bits .xor .u8 (((R[p]?.getD 0).toNat:Nat):Int) (n1:Int)))).drew=W:=⟨_,rfl⟩
   have hxv:(Value.int .u8 (bits .xor .u8 (((R[p]?.getD 0).toNat:Nat):Int) (n1:Int)))=byteV ((R.getD p 0)^^^UInt8.ofNat n1):=xor_by (R.getD p 0) n1 n1l
   have h56:Keeps (· =gb) w5 W6:=by rw[←hW6];exact(ks1 (p:=gb) (Keeps.refl _ w5) p _).trans (Keeps.of_below (F:=fun _=>False) (Below.refl _ _).drew) (fun _ _ e=>e.elim)
   have HO6:Hid (W6.ownsRow w.heap.size 5 1 (.slice (some ⟨gb,0,none⟩) rn rc) rn (u8s (xorB1 R p n1))):=by
    have h:=(HO5.out.stored p (byteV ((R.getD p 0)^^^UInt8.ofNat n1))).1
    rw[u8s_setZ] at h
    show World.ownsRow _ _ _ _ _ _ _
    rw[←hW6,hxv]
    exact own_keeps (F:=fun _=>False) h (Keeps.of_below (Below.refl _ _).drew) (fun _ _ e=>e)
   have HB6:Hid (Below w.heap.size w W6):=(HY.out.b.trans (hB5.mono HY.out.b.size)).trans (h56.below (by have:=HY.out.b.size;have:=hB5.size;omega) (fun j hj e=>by omega))
   have hab:ab<W1.heap.size:=hpLt HPA.out
   have habn:¬ab=gb:=by have:=HAB.out;have h1:=HO5.out.lt gb rfl;have:=(HOW.out.lt gb rfl).1;have:=HY.out.z;have:=kD.size;omega
   have a3':W6.cell? ⟨ab,3,none⟩=some (.int .i64 mask):=hpCell (hpKeeps (hpKeep HPA.out hB5) h56 habn) 3
   rw[hW6]
   clear hW6 h56 hxv hcl hfz a2' HO5
   obtain⟨q,hq⟩:∃q,p+1=q:=⟨_,rfl⟩
   have t1:IntKind.i64.wrap ((p:Int)+1)=(q:Int):=(IntWalk.i64_in _ (by omega)).trans (by omega)
   by_cases hqn:q<rn
   ·have t2:(q:Int)<(rn:Int):=by omega
    have t3:(0:Int)≤(q:Int):=by omega
    have hcl:=ownb_cellZ HO6.out q hqn
    have hfz:=HO6.out.frozenAt q
    have HQ:=hid hq
    have HQN:=hid hqn
    clear hq hqn
    go_upto_region 14 with(fail)
    go_region
    have hxv:(Value.int .u8 (bits .xor .u8 ((((xorB1 R p n1)[q]?.getD 0).toNat:Nat):Int) (n2:Int)))=byteV (((xorB1 R p n1).getD q 0)^^^UInt8.ofNat n2):=xor_by ((xorB1 R p n1).getD q 0) n2 n2l
    obtain⟨W7,hW7⟩:∃W,(W6.setCell ⟨gb,q,none⟩ (.int .u8 (bits .xor .u8 ((((xorB1 R p n1)[q]?.getD 0).toNat:Nat):Int) (n2:Int)))).drew=W:=⟨_,rfl⟩
    have h67:Keeps (· =gb) W6 W7:=by rw[←hW7];exact(ks1 (p:=gb) (Keeps.refl _ W6) q _).trans (Keeps.of_below (F:=fun _=>False) (Below.refl _ _).drew) (fun _ _ e=>e.elim)
    have HO7:Hid (W7.ownsRow w.heap.size 5 1 (.slice (some ⟨gb,0,none⟩) rn rc) rn (u8s (xorB1 (xorB1 R p n1) q n2))):=by
     have h:=(HO6.out.stored q (byteV (((xorB1 R p n1).getD q 0)^^^UInt8.ofNat n2))).1
     rw[u8s_setZ] at h
     show World.ownsRow _ _ _ _ _ _ _
     rw[←hW7,hxv]
     exact own_keeps (F:=fun _=>False) h (Keeps.of_below (Below.refl _ _).drew) (fun _ _ e=>e)
    have HB7:Hid (Below w.heap.size w W7):=HB6.out.trans (h67.below HB6.out.size (fun j hj e=>by have:=(HO6.out.lt gb rfl).1;omega))
    rw[hW7]
    clear hW7 h67 hxv
    go_wp2
    go_ret
    have hd:xorB1 (xorB1 R p n1) q n2=D:=by
     obtain⟨e1,e2,e3⟩:=HPN.out
     rw[←HD.out]
     unfold damL
     dsimp only
     rw[HRN.out,e1,if_pos (by rw[HQ.out];exact HQN.out),e2,e3,HQ.out]
    have hl2:D.length=rn:=by rw[←hd,xorB1_len,xorB1_len,HRN.out]
    exact⟨some ⟨gb,0,none⟩,rc,(by rw[hl2]<;>rfl),(by rw[hl2,←hd];exact HO7.out),HB7.out⟩
   ·have t2:¬(q:Int)<(rn:Int):=by omega
    have HQ:=hid hq
    have HQN:=hid hqn
    clear hq hqn
    go_wp2
    go_ret
    have hd:xorB1 R p n1=D:=by
     obtain⟨e1,e2,e3⟩:=HPN.out
     rw[←HD.out]
     unfold damL
     dsimp only
     rw[HRN.out,e1,if_neg (by rw[HQ.out];exact HQN.out),e2]
    have hl2:D.length=rn:=by rw[←hd,xorB1_len,HRN.out]
    exact⟨some ⟨gb,0,none⟩,rc,(by rw[hl2]<;>rfl),(by rw[hl2,←hd];exact HO6.out),HB6.out⟩
theorem reply_any (g:Nat) (la:Option Addr) (lc ln:Nat) (l:List Sl) (hl:l.length=ln) (hB:BusP l) (bd pa:Int) (f1:wfI bd) (f2:wfI pa) (fa:Option Addr) (fn fc:Nat) (f:List UInt8) (a:At) (ha:a.ok) (w:World) (hc0:w.cell? ⟨g,0,none⟩=some (.slice la ln lc)) (hL:Slvs w (.slice la ln lc) l) (hf:Bs w (.slice fa fn fc) f):
  Calls Tryz.prog 127 #[.pointer (some ⟨g,0,none⟩),.agg #[.int .i64 bd,.int .i64 pa],.slice fa fn fc,.agg a.C] w (RvPost w (rcvF l a bd pa f)):=by
 obtain⟨b1,b2,b3,b4,b5,b6⟩:=At.ok_bd ha
 obtain⟨lat,fault,pos,mask,ticks,value⟩:=a
 rw[At.ok_mk] at ha
 dsimp only at b1 b2 b3 b4 b5 b6
 by_cases h12:fault=1∨fault=2
 ·have e:rcvF l ⟨lat,fault,pos,mask,ticks,value⟩ bd pa f=[]:=by unfold rcvF;rw[if_pos h12]
  rw[e]
  exact reply_lost g la lc ln bd pa fa fn fc lat fault pos mask ticks value h12 w hc0
 ·by_cases h5:fault=5
  ·have e:rcvF l ⟨lat,fault,pos,mask,ticks,value⟩ bd pa f=(busBusy l bd pa f).getD []:=by unfold rcvF;rw[if_neg h12,if_pos h5]
   rw[e]
   exact reply_busy g la lc ln l hl hB bd pa f1 f2 fa fn fc f lat fault pos mask ticks value h5 w hc0 hL hf
  ·by_cases h3:fault=3
   ·exact reply_dam g la lc ln l hl hB bd pa f1 f2 fa fn fc f lat fault pos mask ticks value h3 (by omega) (by omega) (by omega) b3 b4 w hc0 hL hf
   ·have e:rcvF l ⟨lat,fault,pos,mask,ticks,value⟩ bd pa f=(busAns l bd pa f value).getD []:=by unfold rcvF;rw[if_neg h12,if_neg h5,if_neg (fun h=>h3 h.1)]
    rw[e]
    exact reply_plain g la lc ln l hl hB bd pa f1 f2 fa fn fc f lat fault pos mask ticks value (fun h=>h12 (.inl h)) (fun h=>h12 (.inr h)) h5 h3 b3 b4 w hc0 hL hf
theorem setW_one:∀(l:List (Int×Int)),∀u∈setV l,u.oneCell'=true
 |[],u,hu=>by cases hu
 |x::l,u,hu=>by
  simp only[setV,List.mem_cons] at hu
  rcases hu with rfl|rfl|hu
  ·rfl
  ·rfl
  ·exact setW_one l u hu
theorem setW_csl {w:World}:∀(l:List (Int×Int)),(∀x∈l,wfI x.1∧wfI x.2)→CsL 2 (RgR w) (setV l) l
 |[],_=>rfl
 |x::l,h=>⟨[.int .i64 x.1,.int .i64 x.2],setV l,rfl,rfl,⟨rfl,(h x (List.mem_cons_self ..)).1,(h x (List.mem_cons_self ..)).2⟩,setW_csl l (fun y hy=>h y (List.mem_cons_of_mem _ hy))⟩
theorem Rgs.wfW {w:World} {v:Value} {l:List (Int×Int)} (h:Rgs w v l):∀x∈l,wfI x.1∧wfI x.2:=fun x hx=>by
 obtain⟨i,hi⟩:=List.getElem?_of_mem hx
 obtain⟨b,o,c,_,w1,w2,_⟩:=h.at hi
 exact⟨w1,w2⟩
theorem Rgs.rowW {w:World} {b o n c:Nat} {l:List (Int×Int)} (h:Rgs w (.slice (some ⟨b,o,none⟩) n c) l):∀j u,(setV l)[j]?=some u→w.cell? ⟨b,o+j,none⟩=some u:=by
 intro j u hj
 have hjl:=(List.getElem?_eq_some_iff.1 hj).1
 rw[setV_length] at hjl
 obtain⟨x,hx⟩:=gs (l:=l) rfl (show j/2<l.length by omega)
 obtain⟨b',o',c',hv,-,-,hcl⟩:=h.at hx
 simp only[Value.slice.injEq,Option.some.injEq,Addr.mk.injEq,and_true] at hv
 obtain⟨⟨rfl,rfl⟩,-,-⟩:=hv
 obtain⟨e0,e1⟩:=hcl w (Below.refl _ _)
 obtain⟨s0,s1⟩:=setV_get l (j/2) x hx
 rcases Nat.mod_two_eq_zero_or_one j with e|e
 ·have ej:j=j/2*2:=by omega
  rw[ej] at hj ⊢
  rw[s0] at hj
  cases hj
  exact e0
 ·have ej:j=j/2*2+1:=by omega
  rw[ej] at hj ⊢
  rw[s1] at hj
  cases hj
  exact e1
theorem infoRgW:(Tryz.prog.info? 24).map (fun i=>(i.zero,i.size,i.bytes))=some (some (.agg #[.int .i64 0,.int .i64 0]),2,16):=by kernel_rfl
theorem infoAtW:(Tryz.prog.info? 70).map (fun i=>(i.zero,i.size,i.bytes))=some (some (.agg #[.int .i64 0,.int .i64 0,.int .i64 0,.int .i64 0,.int .i64 0,.int .i64 0]),6,48):=by kernel_rfl
def atV:List At→List Value
 |[]=>[]
 |x::l=>x.C.toList++atV l
theorem atV_len:∀l,(atV l).length=l.length*6
 |[]=>rfl
 |x::l=>by
  show (x.C.toList++atV l).length=_
  rw[List.length_append,atV_len l,List.length_cons]
  show 6+_=_
  omega
theorem atV_one:∀(l:List At),∀u∈atV l,u.oneCell'=true
 |[],u,hu=>by cases hu
 |x::l,u,hu=>by
  rcases List.mem_append.1 hu with hu|hu
  ·have:u∈[Value.int .i64 x.lat,.int .i64 x.fault,.int .i64 x.pos,.int .i64 x.mask,.int .i64 x.ticks,.int .i64 x.value]:=hu
   simp only[List.mem_cons,List.not_mem_nil,or_false] at this
   rcases this with rfl|rfl|rfl|rfl|rfl|rfl<;>rfl
  ·exact atV_one l u hu
def wfAt (x:At):Prop:=wfI x.lat∧wfI x.fault∧wfI x.pos∧wfI x.mask∧wfI x.ticks∧wfI x.value
theorem atV_csl {w:World}:∀(l:List At),(∀x∈l,wfAt x)→CsL 6 (AtR w) (atV l) l
 |[],_=>rfl
 |x::l,h=>⟨x.C.toList,atV l,rfl,rfl,⟨rfl,h x List.mem_cons_self⟩,atV_csl l (fun y hy=>h y (List.mem_cons_of_mem _ hy))⟩
theorem atV_get:∀{l:List At} {i:Nat} {x:At},l[i]?=some x→∀r,r<6→(atV l)[i*6+r]?=x.C.toList[r]?
 |[],i,x,h,_,_=>by cases h
 |y::l,0,x,h,r,hr=>by
  injection h with h
  subst h
  show (y.C.toList++atV l)[0*6+r]?=_
  rw[Nat.zero_mul,Nat.zero_add,List.getElem?_append_left (show r<6 from hr)]
 |y::l,i+1,x,h,r,hr=>by
  show (y.C.toList++atV l)[(i+1)*6+r]?=_
  rw[List.getElem?_append_right (show 6≤_ by omega),show (i+1)*6+r-y.C.toList.length=i*6+r by show (i+1)*6+r-6=_;omega]
  exact atV_get (by simpa using h) r hr
theorem Ats.wfW {w:World} {v:Value} {l:List At} (h:Ats w v l):∀x∈l,wfAt x:=fun x hx=>by
 obtain⟨i,hi⟩:=List.getElem?_of_mem hx
 obtain⟨a,c,rfl,h1,h2,h3,h4⟩:=h
 obtain⟨b,o,rfl,hel⟩:=h4 (by rintro rfl;simp at hi)
 obtain⟨r,hr,⟨-,hw⟩,hc⟩:=hel i x hi
 exact hw
theorem Ats.rowW {w:World} {b o n c:Nat} {l:List At} (h:Ats w (.slice (some ⟨b,o,none⟩) n c) l):∀j u,(atV l)[j]?=some u→w.cell? ⟨b,o+j,none⟩=some u:=by
 intro j u hj
 have hjl:=(List.getElem?_eq_some_iff.1 hj).1
 rw[atV_len] at hjl
 obtain⟨a,c',hv,h1,h2,h3,h4⟩:=h
 simp only[Value.slice.injEq] at hv
 obtain⟨rfl,rfl,rfl⟩:=hv
 obtain⟨b',o',e,hel⟩:=h4 (by rintro rfl;simp at hjl)
 cases e
 obtain⟨i,r,hr,rfl⟩:∃i r,r<6∧j=i*6+r:=⟨j/6,j%6,Nat.mod_lt _ (by decide),by omega⟩
 obtain⟨x,hx⟩:=gs (l:=l) rfl (show i<l.length by omega)
 obtain⟨r',hr',⟨rfl,-⟩,hc⟩:=hel i x hx
 rw[atV_get hx r hr] at hj
 rw[←Nat.add_assoc]
 exact hc r u hj
def CloneRgPost (w:World) (l:List (Int×Int)) (r:Ending) (w':World):Prop:=∃a c,r=.returned (.slice a l.length c)∧w'.ownsRow w.heap.size 24 2 (.slice a l.length c) l.length (setV l)∧Below w.heap.size w w'
theorem CloneRgPost.own {w w':World} {l:List (Int×Int)} {v:Value} {n:Nat} {cs:List Value} (hcs:cs=setV l) (hn:n=l.length) (h:w'.ownsRow w.heap.size 24 2 v n cs) (hb:Below w.heap.size w w'):CloneRgPost w l (.returned v) w':=by
 subst hcs hn
 obtain⟨a,c,rfl⟩:=own_slice h
 exact⟨a,c,rfl,h,hb⟩
theorem cloneRg_any (v:Value) (l:List (Int×Int)) (w:World) (hv:Rgs w v l) (hl:l.length≤1000000):Calls Tryz.prog 117 #[v] w (CloneRgPost w l):=by
 obtain⟨i5,hi,hz0,hz1,hz2⟩:=info_parts infoRgW
 obtain⟨a,c,rfl,hc,hcm,hac,h4⟩:=id hv
 unfold maxLen at hcm
 have hq:=Lib.run_eql_slice_nil (P:=Tryz.prog)
 cases a with
 |none=>
  obtain rfl:=hac rfl
  have hl0:l.length=0:=by omega
  have:l=[]:=List.eq_nil_of_length_eq_zero hl0
  subst this
  clear hv h4
  go_enter Tryz.func117,Tryz.ntmps117
  go_wp2
  go_ret
  exact CloneRgPost.own (cs:=[]) (n:=0) rfl rfl (World.ownsRow_nil _ _ _ _) (Below.refl _ _)
 |some a=>
  by_cases hne:l=[]
  ·subst hne
   clear hv h4
   go_enter Tryz.func117,Tryz.ntmps117
   go_wp2_with (at_builtin;refine wpList_appN rfl _ _ 63 rfl w.heap.size 24 i5 _ 2 16 Tryz.underlying63 hi hz0 hz1 hz2 rfl (by decide) _ 0 [] rfl (World.ownsRow_made _ _ _ (Nat.le_refl _) (by decide) rfl) a 0 c [] rfl rfl (by simp) (by simp) (by unfold maxLen;omega) (by omega) (by simp) ?c3)
   case c3=>
    intro v' w1 hown hgr _
    have hbel:=(bal' w (.cells #[] 24)).grown hgr (bal' w (.cells #[] 24)).size (by intro k hk;simp [Value.ownBlock] at hk;omega)
    have HOWN:=hid hown
    clear hgr hown
    go_wp2
    go_ret
    exact CloneRgPost.own (cs:=[]) (n:=0) rfl rfl (by simpa using HOWN.out) hbel
  ·obtain ⟨b,o,hab,-⟩:=h4 hne
   cases hab
   have hcell:Hid (∀j u,(setV l)[j]?=some u→(w.alloc (.cells #[] 24)).cell? ((⟨b,o,none⟩:Addr).add j)=some u):=fun j u hj=>by
    have e1:(⟨b,o,none⟩:Addr).add j=⟨b,o+j,none⟩:=by unfold Addr.add;split<;>simp_all
    rw[e1]
    exact cell_keep (bal' w _) (hv.rowW j u hj)
   have HL:Hid ((setV l).length=l.length*2):=setV_length l
   have H1:Hid (∀u∈setV l,u.oneCell'=true):=setW_one l
   clear hv h4 hne
   go_enter Tryz.func117,Tryz.ntmps117
   go_wp2_with (at_builtin;refine wpList_appN rfl _ _ 63 rfl w.heap.size 24 i5 _ 2 16 Tryz.underlying63 hi hz0 hz1 hz2 rfl (by decide) _ 0 [] rfl (World.ownsRow_made _ _ _ (Nat.le_refl _) (by decide) rfl) ⟨b,o,none⟩ l.length c (setV l) rfl HL.out hcell.out H1.out (by unfold maxLen;omega) (by omega) (by simp) ?c3)
   case c3=>
    intro v' w1 hown hgr _
    have hbel:=(bal' w (.cells #[] 24)).grown hgr (bal' w (.cells #[] 24)).size (by intro k hk;simp [Value.ownBlock] at hk;omega)
    have HOWN:=hid (show w1.ownsRow w.heap.size 24 2 v' l.length (setV l) by simpa using hown)
    clear hgr hown
    go_wp2
    go_ret
    exact CloneRgPost.own rfl rfl HOWN.out hbel
def CloneAtPost (w:World) (l:List At) (r:Ending) (w':World):Prop:=∃a c,r=.returned (.slice a l.length c)∧w'.ownsRow w.heap.size 70 6 (.slice a l.length c) l.length (atV l)∧Below w.heap.size w w'
theorem CloneAtPost.own {w w':World} {l:List At} {v:Value} {n:Nat} {cs:List Value} (hcs:cs=atV l) (hn:n=l.length) (h:w'.ownsRow w.heap.size 70 6 v n cs) (hb:Below w.heap.size w w'):CloneAtPost w l (.returned v) w':=by
 subst hcs hn
 obtain⟨a,c,rfl⟩:=own_slice h
 exact⟨a,c,rfl,h,hb⟩
theorem cloneAt_any (v:Value) (l:List At) (w:World) (hv:Ats w v l) (hl:l.length≤1000000):Calls Tryz.prog 68 #[v] w (CloneAtPost w l):=by
 obtain⟨i5,hi,hz0,hz1,hz2⟩:=info_parts infoAtW
 obtain⟨a,c,rfl,hc,hcm,hac,h4⟩:=id hv
 unfold maxLen at hcm
 have hq:=Lib.run_eql_slice_nil (P:=Tryz.prog)
 cases a with
 |none=>
  obtain rfl:=hac rfl
  have hl0:l.length=0:=by omega
  have:l=[]:=List.eq_nil_of_length_eq_zero hl0
  subst this
  clear hv h4
  go_enter Tryz.func68,Tryz.ntmps68
  go_wp2
  go_ret
  exact CloneAtPost.own (cs:=[]) (n:=0) rfl rfl (World.ownsRow_nil _ _ _ _) (Below.refl _ _)
 |some a=>
  by_cases hne:l=[]
  ·subst hne
   clear hv h4
   go_enter Tryz.func68,Tryz.ntmps68
   go_wp2_with (at_builtin;refine wpList_appN rfl _ _ 29 rfl w.heap.size 70 i5 _ 6 48 Tryz.underlying29 hi hz0 hz1 hz2 rfl (by decide) _ 0 [] rfl (World.ownsRow_made _ _ _ (Nat.le_refl _) (by decide) rfl) a 0 c [] rfl rfl (by simp) (by simp) (by unfold maxLen;omega) (by omega) (by simp) ?c3)
   case c3=>
    intro v' w1 hown hgr _
    have hbel:=(bal' w (.cells #[] 70)).grown hgr (bal' w (.cells #[] 70)).size (by intro k hk;simp [Value.ownBlock] at hk;omega)
    have HOWN:=hid hown
    clear hgr hown
    go_wp2
    go_ret
    exact CloneAtPost.own (cs:=[]) (n:=0) rfl rfl (by simpa using HOWN.out) hbel
  ·obtain ⟨b,o,hab,-⟩:=h4 hne
   cases hab
   have hcell:Hid (∀j u,(atV l)[j]?=some u→(w.alloc (.cells #[] 70)).cell? ((⟨b,o,none⟩:Addr).add j)=some u):=fun j u hj=>by
    have e1:(⟨b,o,none⟩:Addr).add j=⟨b,o+j,none⟩:=by unfold Addr.add;split<;>simp_all
    rw[e1]
    exact cell_keep (bal' w _) (hv.rowW j u hj)
   have HL:Hid ((atV l).length=l.length*6):=atV_len l
   have H1:Hid (∀u∈atV l,u.oneCell'=true):=atV_one l
   clear hv h4 hne
   go_enter Tryz.func68,Tryz.ntmps68
   go_wp2_with (at_builtin;refine wpList_appN rfl _ _ 29 rfl w.heap.size 70 i5 _ 6 48 Tryz.underlying29 hi hz0 hz1 hz2 rfl (by decide) _ 0 [] rfl (World.ownsRow_made _ _ _ (Nat.le_refl _) (by decide) rfl) ⟨b,o,none⟩ l.length c (atV l) rfl HL.out hcell.out H1.out (by unfold maxLen;omega) (by omega) (by simp) ?c3)
   case c3=>
    intro v' w1 hown hgr _
    have hbel:=(bal' w (.cells #[] 70)).grown hgr (bal' w (.cells #[] 70)).size (by intro k hk;simp [Value.ownBlock] at hk;omega)
    have HOWN:=hid (show w1.ownsRow w.heap.size 70 6 v' l.length (atV l) by simpa using hown)
    clear hgr hown
    go_wp2
    go_ret
    exact CloneAtPost.own rfl rfl HOWN.out hbel
end Go.Proofs.YtoaoejaodhedaaaGreat
