import Derived.Test.YtoaoejaodhedaaaGreatQ10
namespace Go.Proofs.YtoaoejaodhedaaaGreat
open Go.RowKit
set_option maxHeartbeats 6400000
set_option maxRecDepth 100000
def QdPost (w:World) (o:Option Rq) (r:Ending) (w':World):Prop:=
 match o with
 |some q=>r=.returned (.tuple #[.agg #[.int .i64 q.fn,.int .i64 q.addr,.int .i64 q.qty,.int .i64 q.code,.int .i64 q.obj],.int .i64 0])∧Below w.heap.size w w'
 |none=>∃e:Int,¬e=0∧r=.returned (.tuple #[.agg #[.int .i64 0,.int .i64 0,.int .i64 0,.int .i64 0,.int .i64 0],.int .i64 e])∧Below w.heap.size w w'
theorem infoR5:(Tryz.prog.info? 45).map (·.size)=some 5:=by kernel_rfl
theorem istab_q (f:Int) (w:World):Calls Tryz.prog 154 #[.int .i64 f] w fun r w'=>r=.returned (.bool (decide (1≤f∧f≤4)))∧w=w':=by
 by_cases h1:1≤f
 ·have d1:decide (1≤f)=true:=decide_eq_true h1
  by_cases h2:f≤4
  ·have d2:decide (f≤4)=true:=decide_eq_true h2
   have HD:Hid (decide (1≤f∧f≤4)=true):=decide_eq_true ⟨h1,h2⟩;clear h1 h2;go_enter Tryz.func154,Tryz.ntmps154;go_wp2;go_ret;exact⟨by rw[HD.out]<;>rfl,rfl⟩
  ·have d2:decide (f≤4)=false:=decide_eq_false h2
   have HD:Hid (decide (1≤f∧f≤4)=false):=decide_eq_false (fun h=>h2 h.2);clear h1 h2;go_enter Tryz.func154,Tryz.ntmps154;go_wp2;go_ret;exact⟨by rw[HD.out]<;>rfl,rfl⟩
 ·have d1:decide (1≤f)=false:=decide_eq_false h1
  have HD:Hid (decide (1≤f∧f≤4)=false):=decide_eq_false (fun h=>h1 h.1);clear h1;go_enter Tryz.func154,Tryz.ntmps154;go_wp2;go_ret;exact⟨by rw[HD.out]<;>rfl,rfl⟩
theorem rqlen_any (f:Int) (w:World):Calls Tryz.prog 221 #[.int .i64 f] w fun r w'=>r=.returned (.int .i64 (rqLen f))∧w=w':=by
 have HT:=bC (istab_q f);unfold rqLen;by_cases h1:1≤f∧f≤4
 ·have d1:decide (1≤f∧f≤4)=true:=decide_eq_true h1
  rw[d1] at HT;rw[if_pos h1];clear h1 d1;go_enter Tryz.func221,Tryz.ntmps221;go_wp2_with (go_at_call 154;(with_reducible refine(HT.out _).mono ?_);rintro r w2 ⟨rfl,rfl⟩);go_ret;exact⟨rfl,rfl⟩
 ·have d1:decide (1≤f∧f≤4)=false:=decide_eq_false h1
  rw[d1] at HT;rw[if_neg h1];clear h1 d1;by_cases h2:f=17
  ·have e2:(f==17)=true:=b1 h2
   rw[if_pos h2];clear h2;go_enter Tryz.func221,Tryz.ntmps221;go_wp2_with (go_at_call 154;(with_reducible refine(HT.out _).mono ?_);rintro r w2 ⟨rfl,rfl⟩);go_ret;exact⟨rfl,rfl⟩
  ·have e2:(f==17)=false:=b0 h2
   rw[if_neg h2];clear h2;by_cases h3:f=43
   ·have e3:(f==43)=true:=b1 h3
    rw[if_pos h3];clear h3;go_enter Tryz.func221,Tryz.ntmps221;go_wp2_with (go_at_call 154;(with_reducible refine(HT.out _).mono ?_);rintro r w2 ⟨rfl,rfl⟩);go_ret;exact⟨rfl,rfl⟩
   ·have e3:(f==43)=false:=b0 h3
    rw[if_neg h3];clear h3;go_enter Tryz.func221,Tryz.ntmps221;go_wp2_with (go_at_call 154;(with_reducible refine(HT.out _).mono ?_);rintro r w2 ⟨rfl,rfl⟩);go_ret;exact⟨rfl,rfl⟩
theorem pqdec_any (v:Value) (l:List UInt8) (w:World) (hv:Bs w v l) (o:Option Rq) (ho:Hid (rqDec l=o)):Calls Tryz.prog 204 #[v] w (QdPost w o):=by
 obtain⟨W1,hW1⟩:∃W,w.alloc (.cells #[.int .i64 0,.int .i64 0,.int .i64 0,.int .i64 0,.int .i64 0] 45)=W:=⟨_,rfl⟩
 have hb1:Below w.heap.size w W1:=by rw[←hW1];exact bH w _
 obtain⟨zb,hzb⟩:=gE w.heap.size;have pz1:W1.heap[zb]?=some (.cells #[.int .i64 0,.int .i64 0,.int .i64 0,.int .i64 0,.int .i64 0] 45):=by rw[←hW1,←hzb];exact bI w _
 have HZ:=bC hzb;have HB1:=bC hb1;have HW1:=bC hW1;have HP1:=bC pz1;obtain⟨n,hn⟩:=gE l.length;have hcap:=hv.len;rw[hn] at hcap;unfold maxLen at hcap;by_cases h0:n=0
 ·have HO:Hid (o=none):=by show _=_;rw[←ho.out];unfold rqDec;rw[if_pos (.inl (by rw[hn];exact h0))]
  have HEND:Hid (∀w8,Keeps (· =zb) W1 w8→Below w.heap.size w w8):=fun w8 h=>hb1.trans (h.below hb1.size (fun j hj e=>by omega))
  obtain⟨a,c,rfl,-⟩:=id hv;rw[hn,h0];have pz:=pz1;clear hv hW1 hb1 hzb pz1 hn h0 hcap;go_enter Tryz.func204,Tryz.ntmps204;go_upto_region 1 with(fail)
  rw[HW1.out,HZ.out];go_wp2_with (refine bE rfl 45 (.tmp 2) (.tmp 9) rfl zb 0 _ 45 #[.int .i64 0,.int .i64 0,.int .i64 0,.int .i64 0,.int .i64 0] rfl rfl pz (by simp) infoR5 rfl ?_;intro w8 g8 hk8 hz8);have g9:w8.heap[zb]?=some (.cells #[.int .i64 0,.int .i64 0,.int .i64 0,.int .i64 0,.int .i64 0] 45):=g8;refine bodyPost_ret (bV rfl _ _ zb 45 _ (0,0) _ rfl g9 Tryz.underlying45 rfl infoR5) rfl ?_;rw[HO.out];exact⟨4,by decide,rfl,HEND.out _ hk8⟩
 obtain⟨b,off,c,rfl,hlc,hcm,hc⟩:=hv.at (by intro e;rw[e] at hn;exact h0 hn.symm);rw[hn] at hlc hc ⊢;have hl0:(0:Int)<(n:Int):=by omega
 have gn:((n:Int)==0)=false:=b0 (by omega);have HBQ:Hid (b<w.heap.size):=cell_lt (hc 0 (by omega));have HC:Hid (∀X,Below w.heap.size w X→∀i,i<n→X.cell? ⟨b,off+i,none⟩=some (.int .u8 (bAt l i))):=fun X hX i hi=>bD hX (hc i hi)
 have c0:W1.cell? ⟨b,off,none⟩=some (.int .u8 (bAt l 0)):=HC.out W1 hb1 0 (by omega);have hF:0≤bAt l 0∧bAt l 0≤255:=by unfold bAt;have:=(l.getD 0 0).toNat_lt;omega
 obtain⟨F,hFF⟩:=gE (bAt l 0);rw[hFF] at c0 hF;obtain⟨W2,hW2⟩:∃W,W1.alloc (.cells #[.int .i64 F,.int .i64 0,.int .i64 0,.int .i64 0,.int .i64 0] 45)=W:=⟨_,rfl⟩
 have hb2:Below W1.heap.size W1 W2:=by rw[←hW2];exact bH W1 _
 obtain⟨qb,hqb⟩:=gE W1.heap.size;have pq2:W2.heap[qb]?=some (.cells #[.int .i64 F,.int .i64 0,.int .i64 0,.int .i64 0,.int .i64 0] 45):=by rw[←hW2,←hqb];exact bI W1 _
 have q0:=bA pq2 0;have q0:W2.cell? ⟨qb,0,none⟩=some (.int .i64 F):=q0;have HW2:=bC hW2;have HQB:=bC hqb;have hb12:=bU hb1 hb2;have HB12:=bC hb12;have pz:=bB pz1 hb2;have HEND:Hid (∀w8,Keeps (· =zb) W2 w8→Below w.heap.size w w8):=fun w8 h=>hb12.trans (h.below hb12.size (fun j hj e=>by omega))
 have HFF:=bC hFF;have HN:=bC hn;obtain⟨L,hL⟩:∃L:Nat,rqLen F=L:=⟨_,rfl⟩
 have HLN:Hid (∀X,Calls Tryz.prog 221 #[.int .i64 F] X fun r w'=>r=.returned (.int .i64 (L:Int))∧X=w'):=fun X=>by rw[←hL];exact rqlen_any F X
 have HL:=bC hL;have hzq:zb<qb:=by have:=hb1.size;have:=cI pz1;omega
 have HZQ:=bC hzq;clear hv hW1 hb1 hzb pz1 hn hcap hc hFF hW2 hb2 hqb hL hb12 hzq;by_cases h1:L=0
 ·have HO:Hid (o=none):=by show _=_;rw[←ho.out];unfold rqDec;rw[if_pos (.inr (.inl (by rw[HFF.out,HL.out];exact h1)))]
  have g1:((L:Int)==0)=true:=b1 (by omega);clear h1;go_enter Tryz.func204,Tryz.ntmps204;go_upto_region 1 with(fail)
  rw[HW1.out,HZ.out];go_upto_region 4 with(fail)
  rw[HW2.out,HQB.out];go_wp2_with (first|(go_at_call 221;(with_reducible refine(HLN.out _).mono ?_);rintro r w4 ⟨rfl,rfl⟩)|(go_at_call 154;(with_reducible refine(HTB.out _).mono ?_);rintro r w4 ⟨rfl,rfl⟩)|(refine bE rfl 45 (.tmp 2) (.tmp 21) rfl zb 0 _ 45 #[.int .i64 0,.int .i64 0,.int .i64 0,.int .i64 0,.int .i64 0] rfl rfl pz (by simp) infoR5 rfl ?_;intro w8 g8 hk8 hz8));have g9:w8.heap[zb]?=some (.cells #[.int .i64 0,.int .i64 0,.int .i64 0,.int .i64 0,.int .i64 0] 45):=g8;refine bodyPost_ret (bV rfl _ _ zb 45 _ (0,0) _ rfl g9 Tryz.underlying45 rfl infoR5) rfl ?_;rw[HO.out];exact⟨16,by decide,rfl,HEND.out _ hk8⟩
 have g1:((L:Int)==0)=false:=b0 (by omega);have hn1:1≤n:=by omega
 by_cases h2:n=L
 ·have g2:((n:Int) !=(L:Int))=false:=by rw[bne_eq_false_iff_eq];omega
  have HDE:Hid (¬(F=43∧bAt l 1≠14)→rqDec l=if (rqOf l).ok=false then none else some (rqOf l)):=fun h=>by
   unfold rqDec;rw[HFF.out,HL.out,HN.out];by_cases e:(rqOf l).ok=false
   ·rw [if_pos (.inr (.inr (.inr (.inr e)))),if_pos e]
   ·rw [if_neg,if_neg e]
    rintro (e2|e2|e2|e2|e2)
    ·exact h0 e2
    ·exact h1 e2
    ·exact e2 h2
    ·exact h e2
    ·exact e e2
  have hle:L=rqLen F:=HL.out.symm;have HBD:Hid (∀i,0≤bAt l i∧bAt l i<256):=fun i=>by have:=bAt_bd l i;omega
  unfold rqLen at hle;by_cases h3:1≤F∧F≤4
  ·rw [if_pos h3] at hle
   have h5:n=5:=by omega
   have g3:(F==43)=false:=b0 (by omega);have HTB:Hid (∀X,Calls Tryz.prog 154 #[.int .i64 F] X fun r w'=>r=.returned (.bool true)∧X=w'):=fun X=>by have:=istab_q F X;rw[decide_eq_true h3] at this;exact this
   have HRQ:Hid (rqOf l=⟨F,bAt l 1*256+bAt l 2,bAt l 3*256+bAt l 4,0,0⟩):=by show _=_;unfold rqOf;rw[HFF.out,if_pos h3]
   have HDD:=bC (HDE.out (fun e=>by omega));have i1:(1:Int)<(n:Int):=by omega
   have i2:(2:Int)<(n:Int):=by omega
   have i3:(3:Int)<(n:Int):=by omega
   have i4:(4:Int)<(n:Int):=by omega
   have c1:W2.cell? ⟨b,off+1,none⟩=some (.int .u8 (bAt l 1)):=HC.out W2 HB12.out 1 (by omega);have c2:W2.cell? ⟨b,off+2,none⟩=some (.int .u8 (bAt l 2)):=HC.out W2 HB12.out 2 (by omega);have c3:W2.cell? ⟨b,off+3,none⟩=some (.int .u8 (bAt l 3)):=HC.out W2 HB12.out 3 (by omega);have c4:W2.cell? ⟨b,off+4,none⟩=some (.int .u8 (bAt l 4)):=HC.out W2 HB12.out 4 (by omega);have d1:=HBD.out 1;have d2:=HBD.out 2;have d3:=HBD.out 3;have d4:=HBD.out 4;generalize bAt l 1=y1 at*;generalize bAt l 2=y2 at*;generalize bAt l 3=y3 at*;generalize bAt l 4=y4 at*;have s1:IntKind.i64.wrap (y1*256)=y1*256:=IntWalk.i64_in _ (by omega);have s3:IntKind.i64.wrap (y3*256)=y3*256:=IntWalk.i64_in _ (by omega);have o1:=or_word y1 y2 d1.1 d1.2 d2.1 d2.2;have o3:=or_word y3 y4 d3.1 d3.2 d4.1 d4.2;have r1:=bA pq2 1;have r2:=bA pq2 2;have f1:W2.frozen? ⟨qb,1,none⟩=false:=bJ pq2 1;have f2:W2.frozen? ⟨qb,2,none⟩=false:=bJ pq2 2;clear h1 h2 h3 hle h5 hlc hcm;go_enter Tryz.func204,Tryz.ntmps204;go_upto_region 1 with(fail)
   rw[HW1.out,HZ.out];go_upto_region 4 with(fail)
   rw[HW2.out,HQB.out];go_upto_region 12 with(first|(go_at_call 221;(with_reducible refine(HLN.out _).mono ?_);rintro r w4 ⟨rfl,rfl⟩)|(go_at_call 154;(with_reducible refine(HTB.out _).mono ?_);rintro r w4 ⟨rfl,rfl⟩))
   go_region;obtain⟨W3,hW3⟩:∃W,((W2.setCell ⟨qb,1,none⟩ (.int .i64 (y1*256+y2))).setCell ⟨qb,2,none⟩ (.int .i64 (y3*256+y4))).drew=W:=⟨_,rfl⟩
   have pq3:W3.heap[qb]?=some (.cells #[.int .i64 F,.int .i64 (y1*256+y2),.int .i64 (y3*256+y4),.int .i64 0,.int .i64 0] 45):=by rw[←hW3];exact bB (hpSetP (hpSetP pq2 rfl) rfl) (Below.refl _ _).drew
   have hk3:Keeps (fun j=>j=qb) W2 W3:=by rw[←hW3];exact(ks1 (ks1 (Keeps.refl _ _) _ _) _ _).trans (Keeps.of_below (F:=fun _=>False) (Below.refl _ _).drew) (fun _ _ e=>e.elim)
   have pz3:=bG pz hk3 (by have:=HZQ.out;omega);have hb03:Below w.heap.size w W3:=HB12.out.trans (hk3.below HB12.out.size (fun j hj e=>by have:=HB1.out.size;have:=HQB.out;omega));have HEND3:Hid (∀w8 w4,Below W3.heap.size W3 w4→Keeps (· =zb) w4 w8→Below w.heap.size w w8):=fun w8 w4 h4 h=>(bU hb03 h4).trans (h.below (by have:=hb03.size;have:=h4.size;omega) (fun j hj e=>by have:=HZ.out;omega))
   rw[hW3];clear hW3 hk3 hb03 r1 r2 f1 f2 c0 c1 c2 c3 c4 q0 pq2 pz HEND;obtain⟨V,hV⟩:=gE ((rqOf l).ok);have HVV:Hid (∀X,Calls Tryz.prog 121 #[.agg #[.int .i64 F,.int .i64 (y1*256+y2),.int .i64 (y3*256+y4),.int .i64 0,.int .i64 0]] X (BoolPost X V)):=(fun X=>by have h:=cO F (y1*256+y2) (y3*256+y4) 0 0 X;rw[←hV,HRQ.out];exact h);have HVD:=bC hV;clear hV;cases V with|false=>(have HO:Hid (o=none):=(by show _=_;rw[←ho.out,HDD.out,if_pos HVD.out]);go_wp2_with (first|(refine wpList_load_row rfl 45 (.tmp 4) rfl qb rfl 45 #[.int .i64 F,.int .i64 (y1*256+y2),.int .i64 (y3*256+y4),.int .i64 0,.int .i64 0] (0,0) _ pq3 Tryz.underlying45 rfl infoR5 ?_)|(go_at_call 121;(with_reducible refine(HVV.out _).mono ?_);rintro r w4 ⟨rfl,hb4⟩;have pz:=bB pz3 hb4;have HEND:=bC (fun w8 h=>HEND3.out w8 w4 hb4 h))|(refine bE rfl 45 (.tmp 2) (.tmp 82) rfl zb 0 _ 45 #[.int .i64 0,.int .i64 0,.int .i64 0,.int .i64 0,.int .i64 0] rfl rfl pz (by simp) infoR5 rfl ?_;intro w8 g8 hk8 hz8));have g9:w8.heap[zb]?=some (.cells #[.int .i64 0,.int .i64 0,.int .i64 0,.int .i64 0,.int .i64 0] 45):=g8;refine bodyPost_ret (bV rfl _ _ zb 45 _ (0,0) _ rfl g9 Tryz.underlying45 rfl infoR5) rfl ?_;rw[HO.out];exact⟨3,by decide,rfl,HEND.out _ hk8⟩)|true=>(have HO:Hid (o=some (rqOf l)):=(by show _=_;rw[←ho.out,HDD.out,if_neg (by rw[HVD.out];decide)]);go_wp2_with (first|(refine wpList_load_row rfl 45 (.tmp 4) rfl qb rfl 45 #[.int .i64 F,.int .i64 (y1*256+y2),.int .i64 (y3*256+y4),.int .i64 0,.int .i64 0] (0,0) _ pq3 Tryz.underlying45 rfl infoR5 ?_)|(refine wpList_load_row rfl 45 (.tmp 4) rfl qb rfl 45 #[.int .i64 F,.int .i64 (y1*256+y2),.int .i64 (y3*256+y4),.int .i64 0,.int .i64 0] (0,0) _ (bB pq3 hb4) Tryz.underlying45 rfl infoR5 ?_)|(go_at_call 121;(with_reducible refine(HVV.out _).mono ?_);rintro r w4 ⟨rfl,hb4⟩;have pz:=bB pz3 hb4;have HEND:=bC (fun w8 h=>HEND3.out w8 w4 hb4 h))|(refine bE rfl 45 (.tmp 2) (.tmp 83) rfl zb 0 _ 45 #[.int .i64 F,.int .i64 (y1*256+y2),.int .i64 (y3*256+y4),.int .i64 0,.int .i64 0] rfl rfl pz (by simp) infoR5 rfl ?_;intro w8 g8 hk8 hz8));have g9:w8.heap[zb]?=some (.cells #[.int .i64 F,.int .i64 (y1*256+y2),.int .i64 (y3*256+y4),.int .i64 0,.int .i64 0] 45):=g8;refine bodyPost_ret (bV rfl _ _ zb 45 _ (0,0) _ rfl g9 Tryz.underlying45 rfl infoR5) rfl ?_;rw[HO.out,HRQ.out];exact⟨rfl,HEND.out _ hk8⟩)
  ·rw [if_neg h3] at hle
   have HTB:Hid (∀X,Calls Tryz.prog 154 #[.int .i64 F] X fun r w'=>r=.returned (.bool false)∧X=w'):=fun X=>by have:=istab_q F X;rw[decide_eq_false h3] at this;exact this
   by_cases h17:F=17
   ·subst h17
    rw[if_pos rfl] at hle;have h5:n=1:=by omega
    have HRQ:Hid (rqOf l=⟨17,0,0,0,0⟩):=by show _=_;unfold rqOf;rw[HFF.out,if_neg h3,if_neg (by decide)]
    have HDD:=bC (HDE.out (fun e=>absurd e.1 (by decide)));have pq3:=pq2;have pz3:=pz;have HEND3:Hid (∀w8 w4,Below W2.heap.size W2 w4→Keeps (· =zb) w4 w8→Below w.heap.size w w8):=fun w8 w4 h4 h=>(bU HB12.out h4).trans (h.below (by have:=HB12.out.size;have:=h4.size;omega) (fun j hj e=>by have:=HZ.out;omega))
    clear h1 h2 h3 hle h5 hlc hcm HEND;go_enter Tryz.func204,Tryz.ntmps204;go_upto_region 1 with(fail)
    rw[HW1.out,HZ.out];go_upto_region 4 with(fail)
    rw[HW2.out,HQB.out];go_upto_region 15 with(first|(go_at_call 221;(with_reducible refine(HLN.out _).mono ?_);rintro r w4 ⟨rfl,rfl⟩)|(go_at_call 154;(with_reducible refine(HTB.out _).mono ?_);rintro r w4 ⟨rfl,rfl⟩))
    clear c0 q0 pq2 pz;obtain⟨V,hV⟩:=gE ((rqOf l).ok);have HVV:Hid (∀X,Calls Tryz.prog 121 #[.agg #[.int .i64 17,.int .i64 0,.int .i64 0,.int .i64 0,.int .i64 0]] X (BoolPost X V)):=(fun X=>by have h:=cO 17 0 0 0 0 X;rw[←hV,HRQ.out];exact h);have HVD:=bC hV;clear hV;cases V with|false=>(have HO:Hid (o=none):=(by show _=_;rw[←ho.out,HDD.out,if_pos HVD.out]);go_wp2_with (first|(refine wpList_load_row rfl 45 (.tmp 4) rfl qb rfl 45 #[.int .i64 17,.int .i64 0,.int .i64 0,.int .i64 0,.int .i64 0] (0,0) _ pq3 Tryz.underlying45 rfl infoR5 ?_)|(go_at_call 121;(with_reducible refine(HVV.out _).mono ?_);rintro r w4 ⟨rfl,hb4⟩;have pz:=bB pz3 hb4;have HEND:=bC (fun w8 h=>HEND3.out w8 w4 hb4 h))|(refine bE rfl 45 (.tmp 2) (.tmp 82) rfl zb 0 _ 45 #[.int .i64 0,.int .i64 0,.int .i64 0,.int .i64 0,.int .i64 0] rfl rfl pz (by simp) infoR5 rfl ?_;intro w8 g8 hk8 hz8));have g9:w8.heap[zb]?=some (.cells #[.int .i64 0,.int .i64 0,.int .i64 0,.int .i64 0,.int .i64 0] 45):=g8;refine bodyPost_ret (bV rfl _ _ zb 45 _ (0,0) _ rfl g9 Tryz.underlying45 rfl infoR5) rfl ?_;rw[HO.out];exact⟨3,by decide,rfl,HEND.out _ hk8⟩)|true=>(have HO:Hid (o=some (rqOf l)):=(by show _=_;rw[←ho.out,HDD.out,if_neg (by rw[HVD.out];decide)]);go_wp2_with (first|(refine wpList_load_row rfl 45 (.tmp 4) rfl qb rfl 45 #[.int .i64 17,.int .i64 0,.int .i64 0,.int .i64 0,.int .i64 0] (0,0) _ pq3 Tryz.underlying45 rfl infoR5 ?_)|(refine wpList_load_row rfl 45 (.tmp 4) rfl qb rfl 45 #[.int .i64 17,.int .i64 0,.int .i64 0,.int .i64 0,.int .i64 0] (0,0) _ (bB pq3 hb4) Tryz.underlying45 rfl infoR5 ?_)|(go_at_call 121;(with_reducible refine(HVV.out _).mono ?_);rintro r w4 ⟨rfl,hb4⟩;have pz:=bB pz3 hb4;have HEND:=bC (fun w8 h=>HEND3.out w8 w4 hb4 h))|(refine bE rfl 45 (.tmp 2) (.tmp 83) rfl zb 0 _ 45 #[.int .i64 17,.int .i64 0,.int .i64 0,.int .i64 0,.int .i64 0] rfl rfl pz (by simp) infoR5 rfl ?_;intro w8 g8 hk8 hz8));have g9:w8.heap[zb]?=some (.cells #[.int .i64 17,.int .i64 0,.int .i64 0,.int .i64 0,.int .i64 0] 45):=g8;refine bodyPost_ret (bV rfl _ _ zb 45 _ (0,0) _ rfl g9 Tryz.underlying45 rfl infoR5) rfl ?_;rw[HO.out,HRQ.out];exact⟨rfl,HEND.out _ hk8⟩)
   ·rw [if_neg h17] at hle
    have h43:F=43:=by
     by_cases e:F=43
     ·exact e
     ·rw [if_neg e] at hle;omega
    subst h43;rw[if_pos rfl] at hle;have h5:n=4:=by omega
    have i1:(1:Int)<(n:Int):=by omega
    have i2:(2:Int)<(n:Int):=by omega
    have i3:(3:Int)<(n:Int):=by omega
    have c1:W2.cell? ⟨b,off+1,none⟩=some (.int .u8 (bAt l 1)):=HC.out W2 HB12.out 1 (by omega);have c2:W2.cell? ⟨b,off+2,none⟩=some (.int .u8 (bAt l 2)):=HC.out W2 HB12.out 2 (by omega);have c3:W2.cell? ⟨b,off+3,none⟩=some (.int .u8 (bAt l 3)):=HC.out W2 HB12.out 3 (by omega);have d2:=HBD.out 2;have d3:=HBD.out 3;by_cases h14:bAt l 1=14
    ·have HRQ:Hid (rqOf l=⟨43,0,0,bAt l 2,bAt l 3⟩):=by show _=_;unfold rqOf;rw[HFF.out,if_neg h3,if_pos rfl]
     have HDD:=bC (HDE.out (fun e=>e.2 h14));generalize bAt l 1=y1 at*;generalize bAt l 2=y2 at*;generalize bAt l 3=y3 at*;have g14:(y1 !=14)=false:=by rw[bne_eq_false_iff_eq];exact h14
     have r3:=bA pq2 3;have r4:=bA pq2 4;have f3:W2.frozen? ⟨qb,3,none⟩=false:=bJ pq2 3;have f4:W2.frozen? ⟨qb,4,none⟩=false:=bJ pq2 4;have u2:IntKind.i64.wrap y2=y2:=IntWalk.i64_in _ (by omega);have u3:IntKind.i64.wrap y3=y3:=IntWalk.i64_in _ (by omega);have hbq:¬b=qb:=by have h1:=cell_lt c1;have h2:=HB1.out.size;have:=HQB.out;have:=HBQ.out;omega
     clear h1 h2 h3 hle h5 hlc hcm h17 h14;go_enter Tryz.func204,Tryz.ntmps204;go_upto_region 1 with(fail)
     rw[HW1.out,HZ.out];go_upto_region 4 with(fail)
     rw[HW2.out,HQB.out];go_upto_region 14 with(first|(go_at_call 221;(with_reducible refine(HLN.out _).mono ?_);rintro r w4 ⟨rfl,rfl⟩)|(go_at_call 154;(with_reducible refine(HTB.out _).mono ?_);rintro r w4 ⟨rfl,rfl⟩))
     go_region;obtain⟨W3,hW3⟩:∃W,((W2.setCell ⟨qb,3,none⟩ (.int .i64 y2)).setCell ⟨qb,4,none⟩ (.int .i64 y3)).drew=W:=⟨_,rfl⟩
     have pq3:W3.heap[qb]?=some (.cells #[.int .i64 43,.int .i64 0,.int .i64 0,.int .i64 y2,.int .i64 y3] 45):=by rw[←hW3];exact bB (hpSetP (hpSetP pq2 rfl) rfl) (Below.refl _ _).drew
     have hk3:Keeps (fun j=>j=qb) W2 W3:=by rw[←hW3];exact(ks1 (ks1 (Keeps.refl _ _) _ _) _ _).trans (Keeps.of_below (F:=fun _=>False) (Below.refl _ _).drew) (fun _ _ e=>e.elim)
     have pz3:=bG pz hk3 (by have:=HZQ.out;omega);have hb03:Below w.heap.size w W3:=HB12.out.trans (hk3.below HB12.out.size (fun j hj e=>by have:=HB1.out.size;have:=HQB.out;omega));have HEND3:Hid (∀w8 w4,Below W3.heap.size W3 w4→Keeps (· =zb) w4 w8→Below w.heap.size w w8):=fun w8 w4 h4 h=>(bU hb03 h4).trans (h.below (by have:=hb03.size;have:=h4.size;omega) (fun j hj e=>by have:=HZ.out;omega))
     rw[hW3];clear hW3 hk3 hb03 r3 r4 f3 f4 c0 c1 c2 c3 q0 pq2 pz HEND;obtain⟨V,hV⟩:=gE ((rqOf l).ok);have HVV:Hid (∀X,Calls Tryz.prog 121 #[.agg #[.int .i64 43,.int .i64 0,.int .i64 0,.int .i64 y2,.int .i64 y3]] X (BoolPost X V)):=(fun X=>by have h:=cO 43 0 0 y2 y3 X;rw[←hV,HRQ.out];exact h);have HVD:=bC hV;clear hV;cases V with|false=>(have HO:Hid (o=none):=(by show _=_;rw[←ho.out,HDD.out,if_pos HVD.out]);go_wp2_with (first|(refine wpList_load_row rfl 45 (.tmp 4) rfl qb rfl 45 #[.int .i64 43,.int .i64 0,.int .i64 0,.int .i64 y2,.int .i64 y3] (0,0) _ pq3 Tryz.underlying45 rfl infoR5 ?_)|(go_at_call 121;(with_reducible refine(HVV.out _).mono ?_);rintro r w4 ⟨rfl,hb4⟩;have pz:=bB pz3 hb4;have HEND:=bC (fun w8 h=>HEND3.out w8 w4 hb4 h))|(refine bE rfl 45 (.tmp 2) (.tmp 82) rfl zb 0 _ 45 #[.int .i64 0,.int .i64 0,.int .i64 0,.int .i64 0,.int .i64 0] rfl rfl pz (by simp) infoR5 rfl ?_;intro w8 g8 hk8 hz8));have g9:w8.heap[zb]?=some (.cells #[.int .i64 0,.int .i64 0,.int .i64 0,.int .i64 0,.int .i64 0] 45):=g8;refine bodyPost_ret (bV rfl _ _ zb 45 _ (0,0) _ rfl g9 Tryz.underlying45 rfl infoR5) rfl ?_;rw[HO.out];exact⟨3,by decide,rfl,HEND.out _ hk8⟩)|true=>(have HO:Hid (o=some (rqOf l)):=(by show _=_;rw[←ho.out,HDD.out,if_neg (by rw[HVD.out];decide)]);go_wp2_with (first|(refine wpList_load_row rfl 45 (.tmp 4) rfl qb rfl 45 #[.int .i64 43,.int .i64 0,.int .i64 0,.int .i64 y2,.int .i64 y3] (0,0) _ pq3 Tryz.underlying45 rfl infoR5 ?_)|(refine wpList_load_row rfl 45 (.tmp 4) rfl qb rfl 45 #[.int .i64 43,.int .i64 0,.int .i64 0,.int .i64 y2,.int .i64 y3] (0,0) _ (bB pq3 hb4) Tryz.underlying45 rfl infoR5 ?_)|(go_at_call 121;(with_reducible refine(HVV.out _).mono ?_);rintro r w4 ⟨rfl,hb4⟩;have pz:=bB pz3 hb4;have HEND:=bC (fun w8 h=>HEND3.out w8 w4 hb4 h))|(refine bE rfl 45 (.tmp 2) (.tmp 83) rfl zb 0 _ 45 #[.int .i64 43,.int .i64 0,.int .i64 0,.int .i64 y2,.int .i64 y3] rfl rfl pz (by simp) infoR5 rfl ?_;intro w8 g8 hk8 hz8));have g9:w8.heap[zb]?=some (.cells #[.int .i64 43,.int .i64 0,.int .i64 0,.int .i64 y2,.int .i64 y3] 45):=g8;refine bodyPost_ret (bV rfl _ _ zb 45 _ (0,0) _ rfl g9 Tryz.underlying45 rfl infoR5) rfl ?_;rw[HO.out,HRQ.out];exact⟨rfl,HEND.out _ hk8⟩)
    ·have g14:(bAt l 1 !=14)=true:=by rw[bne_iff_ne];exact h14
     have HO:Hid (o=none):=by
      show _=_;rw[←ho.out];unfold rqDec;rw[if_pos (.inr (.inr (.inr (.inl ⟨HFF.out,h14⟩))))]
     clear h1 h2 h3 hle h5 hlc hcm h17 h14;go_enter Tryz.func204,Tryz.ntmps204;go_upto_region 1 with(fail)
     rw[HW1.out,HZ.out];go_upto_region 4 with(fail)
     rw[HW2.out,HQB.out];go_wp2_with (first|(go_at_call 221;(with_reducible refine(HLN.out _).mono ?_);rintro r w4 ⟨rfl,rfl⟩)|(go_at_call 154;(with_reducible refine(HTB.out _).mono ?_);rintro r w4 ⟨rfl,rfl⟩)|(refine bE rfl 45 (.tmp 2) (.tmp 38) rfl zb 0 _ 45 #[.int .i64 0,.int .i64 0,.int .i64 0,.int .i64 0,.int .i64 0] rfl rfl pz (by simp) infoR5 rfl ?_;intro w8 g8 hk8 hz8));have g9:w8.heap[zb]?=some (.cells #[.int .i64 0,.int .i64 0,.int .i64 0,.int .i64 0,.int .i64 0] 45):=g8;refine bodyPost_ret (bV rfl _ _ zb 45 _ (0,0) _ rfl g9 Tryz.underlying45 rfl infoR5) rfl ?_;rw[HO.out];exact⟨6,by decide,rfl,HEND.out _ hk8⟩
 ·have HO:Hid (o=none):=by show _=_;rw[←ho.out];unfold rqDec;rw[if_pos (.inr (.inr (.inl (by rw[HN.out,HFF.out,HL.out];exact h2))))]
  have g2:((n:Int) !=(L:Int))=true:=by rw[bne_iff_ne];omega
  clear h1 h2;go_enter Tryz.func204,Tryz.ntmps204;go_upto_region 1 with(fail)
  rw[HW1.out,HZ.out];go_upto_region 4 with(fail)
  rw[HW2.out,HQB.out];go_wp2_with (first|(go_at_call 221;(with_reducible refine(HLN.out _).mono ?_);rintro r w4 ⟨rfl,rfl⟩)|(go_at_call 154;(with_reducible refine(HTB.out _).mono ?_);rintro r w4 ⟨rfl,rfl⟩)|(refine bE rfl 45 (.tmp 2) (.tmp 27) rfl zb 0 _ 45 #[.int .i64 0,.int .i64 0,.int .i64 0,.int .i64 0,.int .i64 0] rfl rfl pz (by simp) infoR5 rfl ?_;intro w8 g8 hk8 hz8));have g9:w8.heap[zb]?=some (.cells #[.int .i64 0,.int .i64 0,.int .i64 0,.int .i64 0,.int .i64 0] 45):=g8;refine bodyPost_ret (bV rfl _ _ zb 45 _ (0,0) _ rfl g9 Tryz.underlying45 rfl infoR5) rfl ?_;rw[HO.out];exact⟨4,by decide,rfl,HEND.out _ hk8⟩
def numOf (b:Nat→Bool):Nat→Nat
 |0=>0
 |k+1=>if b k then numOf b k|||2^k else numOf b k
theorem numOf_lt (b:Nat→Bool) (k:Nat):numOf b k<2^k:=by
 induction k with
 |zero=>simp [numOf]
 |succ k ih=>
  have h2:2^k<2^(k+1):=Nat.pow_lt_pow_right (by decide) (by omega);rw[numOf];split
  ·exact Nat.or_lt_two_pow (by omega) h2
  ·omega
def splitB (chk:List UInt8→Bool) (l:List UInt8):Option (Int×List UInt8):=
 if 4≤l.length∧l.length≤256∧chk l=true∧1≤((l.getD 0 0).toNat:Int)∧((l.getD 0 0).toNat:Int)≤247 then some (((l.getD 0 0).toNat:Int),(l.take (l.length-2)).drop 1) else none
def SplitPost (w:World) (o:Option (Int×List UInt8)) (r:Ending) (w':World):Prop:=
 ∃(u:Int) (a:Option Addr) (n c:Nat) (e:Int),r=.returned (.tuple #[.int .i64 u,.slice a n c,.int .i64 e])∧Below w.heap.size w w'∧
  ((e=0∧∃p,o=some (u,p)∧∀W,Agree w.heap.size w' W→Bs W (.slice a n c) p)∨(e≠0∧o=none))
theorem SplitPost.err {w:World} {o:Option (Int×List UInt8)} {w':World} (ho:o=none) (u:Int) (a:Option Addr) (n c:Nat) (e:Int) (he:e≠0) (hb:Below w.heap.size w w'):
 SplitPost w o (.returned (.tuple #[.int .i64 u,.slice a n c,.int .i64 e])) w':=⟨u,a,n,c,e,rfl,hb,.inr ⟨he,ho⟩⟩
def crcStep (c:Nat):Nat:=if c%2=1 then (c/2)^^^40961 else c/2
def crcSteps:Nat→Nat→Nat
 |0,c=>c
 |k+1,c=>crcStep (crcSteps k c)
def crcUpd (c b:Nat):Nat:=crcSteps 8 (c^^^b)
def crcExt (c:Nat) (l:List UInt8):Nat:=l.foldl (fun c x=>crcUpd c x.toNat) c
theorem xor16 {a b:Nat} (ha:a<65536) (hb:b<65536):a^^^b<65536:=Nat.xor_lt_two_pow (n:=16) ha hb
theorem crcStep_lt {c:Nat} (h:c<65536):crcStep c<65536:=by
 unfold crcStep;split
 ·exact xor16 (by omega) (by omega)
 ·omega
theorem crcSteps_lt (k:Nat) {c:Nat} (h:c<65536):crcSteps k c<65536:=by
 induction k with
 |zero=>exact h
 |succ k ih=>exact crcStep_lt ih
theorem crcUpd_lt {c b:Nat} (h:c<65536) (hb:b<256):crcUpd c b<65536:=crcSteps_lt 8 (xor16 h (by omega))
theorem byte_lt (x:UInt8):x.toNat<256:=x.toNat_lt
theorem crcExt_lt (l:List UInt8):∀{c:Nat},c<65536→crcExt c l<65536:=by
 induction l with
 |nil=>intro c h;exact h
 |cons x l ih=>intro c h;exact ih (crcUpd_lt h (byte_lt x))
theorem crcExt_append (c:Nat) (l k:List UInt8):crcExt c (l++k)=crcExt (crcExt c l) k:=by simp [crcExt]
theorem crcExt_take_succ (c:Nat) (l:List UInt8) (k:Nat) (h:k<l.length):crcExt c (l.take (k+1))=crcUpd (crcExt c (l.take k)) (l.getD k 0).toNat:=by
 rw[List.take_succ_eq_append_getElem h,crcExt_append];simp [crcExt,List.getD,h]
theorem xor_half (a b:Nat):(a^^^b)/2=a/2^^^b/2:=by
 apply Nat.eq_of_testBit_eq;intro i;simp only[Nat.testBit_xor,←Nat.testBit_succ]
theorem step_form (c:Nat):crcStep c=c/2^^^(bif c.testBit 0 then 40961 else 0):=by
 unfold crcStep;rw[Nat.testBit_zero];by_cases h:c%2=1<;>simp [h]
theorem step_xor (a b:Nat):crcStep (a^^^b)=crcStep a^^^crcStep b:=by
 rw[step_form,step_form,step_form,xor_half,Nat.testBit_xor];apply Nat.eq_of_testBit_eq;intro i;cases a.testBit 0<;>cases b.testBit 0<;>simp [Nat.testBit_xor]<;>
  (cases (a/2).testBit i<;>cases (b/2).testBit i<;>cases Nat.testBit 40961 i<;>rfl)
theorem steps_xor (k a b:Nat):crcSteps k (a^^^b)=crcSteps k a^^^crcSteps k b:=by
 induction k with
 |zero=>rfl
 |succ k ih=>rw[crcSteps,ih,step_xor];rfl
theorem steps_zero (k:Nat):crcSteps k 0=0:=by
 induction k with
 |zero=>rfl
 |succ k ih=>rw[crcSteps,ih];rfl
theorem step_even (y:Nat):crcStep (2*y)=y:=by
 unfold crcStep;rw[if_neg (by omega)];omega
theorem step_ne {c:Nat} (h:c<65536) (h0:c≠0):crcStep c≠0:=by
 unfold crcStep;split
 ·intro he
  have:c/2=40961:=by
   have:=congrArg (· ^^^40961) he;simpa [Nat.xor_assoc] using this
  omega
 ·omega
theorem steps_ne (k:Nat) {c:Nat} (h:c<65536) (h0:c≠0):crcSteps k c≠0:=by
 induction k with
 |zero=>exact h0
 |succ k ih=>exact step_ne (crcSteps_lt k h) ih
theorem steps_add (j k c:Nat):crcSteps (j+k) c=crcSteps j (crcSteps k c):=by
 induction j with
 |zero=>simp [crcSteps]
 |succ j ih=>rw[Nat.succ_add];simp only[crcSteps,ih]
def bfold (c:Nat) (f:Nat→Bool):Nat→Nat
 |0=>c
 |n+1=>crcStep (bfold c f n^^^(f n).toNat)
theorem bfold_lt {c:Nat} (h:c<65536) (f:Nat→Bool) (n:Nat):bfold c f n<65536:=by
 induction n with
 |zero=>exact h
 |succ n ih=>exact crcStep_lt (xor16 ih (by cases f n<;>decide))
theorem bfold_congr {c:Nat} {f g:Nat→Bool} (n:Nat) (h:∀p,p<n→f p=g p):bfold c f n=bfold c g n:=by
 induction n with
 |zero=>rfl
 |succ n ih=>rw[bfold,bfold,ih (fun p hp=>h p (by omega)),h n (by omega)]
theorem bfold_add (c:Nat) (f:Nat→Bool) (n m:Nat):bfold c f (n+m)=bfold (bfold c f n) (fun p=>f (n+p)) m:=by
 induction m with
 |zero=>rfl
 |succ m ih=>rw[←Nat.add_assoc,bfold,bfold,ih]
theorem bfold_xor (c d:Nat) (f e:Nat→Bool) (n:Nat):bfold (c^^^d) (fun p=>f p^^e p) n=bfold c f n^^^bfold d e n:=by
 induction n with
 |zero=>rfl
 |succ n ih=>
  rw[bfold,bfold,bfold,ih,←step_xor];congr 1;apply Nat.eq_of_testBit_eq;intro i;simp only[Nat.testBit_xor];cases hf:f n<;>cases he:e n<;>simp<;>(cases (bfold c f n).testBit i<;>cases (bfold d e n).testBit i<;>cases Nat.testBit 1 i<;>rfl)
theorem bfold_zeros (c:Nat) (f:Nat→Bool) (n:Nat) (h:∀p,p<n→f p=false):bfold c f n=crcSteps n c:=by
 induction n with
 |zero=>rfl
 |succ n ih=>rw[bfold,ih (fun p hp=>h p (by omega)),h n (by omega)];simp [crcSteps]
theorem split_bit (y:Nat):y=(y.testBit 0).toNat^^^2*(y/2):=by
 apply Nat.eq_of_testBit_eq;intro i;rw[Nat.testBit_xor];cases i with
 |zero=>simp [Nat.testBit_zero];by_cases h:y%2=1<;>simp [h]
 |succ i=>
  rw[Nat.testBit_succ,Nat.testBit_succ,Nat.testBit_succ];have h1:(y.testBit 0).toNat/2=0:=by cases y.testBit 0<;>rfl
  have h2:2*(y/2)/2=y/2:=by omega
  rw[h1,h2];simp
theorem steps_bits (c x k:Nat):crcSteps k (c^^^x)=bfold c x.testBit k^^^(x/2^k):=by
 induction k with
 |zero=>simp [crcSteps,bfold]
 |succ k ih=>
  have h1:(x/2^k).testBit 0=x.testBit k:=by rw[Nat.testBit_zero,Nat.testBit_eq_decide_div_mod_eq]
  have h2:x/2^k/2=x/2^(k+1):=by rw[Nat.div_div_eq_div_mul,Nat.pow_succ]
  have h3:=split_bit (x/2^k);rw[h1,h2] at h3;rw[crcSteps,ih,bfold,h3,←Nat.xor_assoc,step_xor,step_even]
theorem upd_bits (c x:Nat) (hx:x<256):crcUpd c x=bfold c x.testBit 8:=by
 rw[crcUpd,steps_bits,Nat.div_eq_of_lt (by omega)];simp
def bitAt (l:List UInt8) (p:Nat):Bool:=(l.getD (p/8) 0).toNat.testBit (p%8)
theorem ext_bits (c:Nat) (l:List UInt8):crcExt c l=bfold c (bitAt l) (8*l.length):=by
 suffices h:∀k,k≤l.length→crcExt c (l.take k)=bfold c (bitAt l) (8*k) by
  have:=h l.length (Nat.le_refl _)
  rwa [List.take_length] at this
 intro k
 induction k with
 |zero=>intro _;rfl
 |succ k ih=>
  intro hk;rw[crcExt_take_succ c l k (by omega),ih (by omega),Nat.mul_add,bfold_add,upd_bits _ _ (byte_lt _)];apply bfold_congr;intro p hp;unfold bitAt;rw[show (8*k+p)/8=k by omega,show (8*k+p)%8=p by omega]
theorem numOf_bit (b:Nat→Bool) (n k:Nat):(numOf b n).testBit k=(decide (k<n)&&b k):=by
 induction n with
 |zero=>simp [numOf]
 |succ n ih=>
  rw[numOf];by_cases hb:b n=true
  ·rw [if_pos hb,Nat.testBit_or,ih,Nat.testBit_two_pow]
   by_cases h1:k=n
   ·subst h1;simp [hb]
   ·have h1':¬n=k:=fun h=>h1 h.symm
    by_cases h2:k<n<;>simp [h1',h2]<;>omega
  ·rw [if_neg hb,ih]
   by_cases h1:k=n
   ·subst h1;simp [hb]
   ·by_cases h2:k<n<;>simp [h2]<;>omega
theorem upd_any (c b:Nat) (hc:c<65536) (hb:b<256) (w:World):
  Calls Tryz.prog 219 #[.int .u16 c,.int .u8 b] w fun r w'=>r=.returned (.int .u16 (crcUpd c b))∧w=w':=by
 have hx:bits .xor .u16 (c:Int) (b:Int)=((c^^^b:Nat):Int):=u16_xor_nat c b hc (by omega);go_enter Tryz.func219,Tryz.ntmps219;go_wp2;go_loop [0,5,10] (fun c5 _ i=>∃k:Nat,k≤8∧i=.int .i64 k∧c5=.int .u16 (crcSteps k (c^^^b))) (fun _ _ i=>8- (intOf i).toNat)
 case atStart=>exact⟨0,by omega,rfl,rfl⟩
 case round=>
  obtain⟨k,hk,rfl,rfl⟩:=hrel;clear hx;have hn:=crcSteps_lt k (xor16 hc (show b<65536 by omega));have hs:crcSteps (k+1) (c^^^b)=crcStep (crcSteps k (c^^^b)):=rfl;generalize hg:crcSteps k (c^^^b)=n at*;have HG:=bC hg;clear hg;have ha:bits .and .u16 (n:Int) 1=((n%2:Nat):Int):=by
   have:=u16_and_nat n 1 hn (by omega);rw[nat_mask1] at this;exact this
  have hy:bits .xor .u16 ((n:Int)/2) 40961=((n/2^^^40961:Nat):Int):=u16_xor_nat (n/2) 40961 (by omega) (by omega);have HS:=bC hs;clear hs;by_cases hlt:k<8
  ·by_cases ho:n%2=1
   ·have ho2:(((n%2:Nat):Int)==1)=true:=by rw[ho];rfl
    have HO:=bC ho;clear ho;go_wp2;go_round
    case rel=>exact⟨k+1,by omega,by go_num,by rw[HS.out,crcStep,if_pos HO.out]⟩
    case measure=>simp [intOf];omega
   ·have ho2:(((n%2:Nat):Int)==1)=false:=by simp;omega
    have HO:=bC ho;clear ho;go_wp2;go_round
    case rel=>exact⟨k+1,by omega,by go_num,by rw[HS.out,crcStep,if_neg HO.out];rfl⟩
    case measure=>simp [intOf];omega
  ·have h8:k=8:=by omega
   subst h8;go_wp2;go_ret;exact⟨ret_int (by rw[←HG.out];rfl),rfl⟩
theorem info5:(Tryz.prog.info? 5).map (fun i=>(i.zero,i.size,i.bytes))=some (some (.int .u8 0),1,1):=by kernel_rfl
theorem ext_any (c:Nat) (hc:c<65536) (v:Value) (l:List UInt8) (w:World) (hv:Bs w v l):
  Calls Tryz.prog 200 #[.int .u16 c,v] w fun r w'=>r=.returned (.int .u16 (crcExt c l))∧w=w':=by
 have hlen:=hv.len;unfold maxLen at hlen;by_cases hl:l=[]
 ·subst hl
  obtain⟨a,k,rfl,_⟩:=hv;go_enter Tryz.func200,Tryz.ntmps200;go_wp2;go_loop [0,6,9] (fun c5 _ i=>i=.int .i64 0∧c5=.int .u16 c) (fun _ _ _=>0)
  case atStart=>exact⟨rfl,rfl⟩
  case round=>
   obtain⟨rfl,rfl⟩:=hrel;go_wp2;go_ret;exact⟨rfl,rfl⟩
 ·obtain ⟨b,o,cap,rfl,h1,h2,hcell⟩:=hv.at hl
  clear hv;unfold maxLen at h2;have HL:=bC hl;clear hl;go_enter Tryz.func200,Tryz.ntmps200;go_wp2;go_loop [0,6,9] (fun c5 _ i=>∃k:Nat,k≤l.length∧i=.int .i64 k∧c5=.int .u16 (crcExt c (l.take k))) (fun _ _ i=>l.length- (intOf i).toNat)
  case atStart=>exact⟨0,Nat.zero_le _,rfl,rfl⟩
  case round=>
   obtain⟨k,hk,rfl,rfl⟩:=hrel;have hn:=crcExt_lt (l.take k) hc;by_cases hlt:k<l.length
   ·have HS:=bC (crcExt_take_succ c l k hlt)
    generalize crcExt c (l.take k)=n at*;have hx:=byte_lt (l.getD k 0);have hcl:=hcell k hlt;clear hcell;generalize (l.getD k 0).toNat=x at*;go_wp2_with (go_at_call 219;refine(upd_any _ _ hn hx _).mono ?_;rintro r w' ⟨rfl,rfl⟩);go_round
    case rel=>exact⟨k+1,by omega,by go_num,by rw[HS.out]⟩
    case measure=>simp [intOf];omega
   ·have hk2:k=l.length:=by omega
    subst hk2;have HT:=bC (List.take_length (l:=l));go_wp2;go_ret;exact⟨ret_int (by first|rfl|rw[HT.out]),rfl⟩
theorem sum_any (v:Value) (l:List UInt8) (w:World) (hv:Bs w v l):
  Calls Tryz.prog 181 #[v] w fun r w'=>r=.returned (.int .u16 (crcExt 65535 l))∧w=w':=by
 go_enter Tryz.func181,Tryz.ntmps181;go_wp2_with (go_at_call 200;refine(ext_any 65535 (by decide) _ _ _ hv).mono ?_;rintro r w' ⟨rfl,rfl⟩);go_ret;exact⟨rfl,rfl⟩
theorem grow_any (n:Nat) (hn:0<n) (hn2:n≤140737488355328) (w:World):
  Calls Tryz.prog 201 #[.slice none 0 0,.int .i64 n] w fun r w'=>∃g cap,r=.returned (.slice (some ⟨g,0,none⟩) 0 cap)∧w'.ownsRow w.heap.size 5 1 (.slice (some ⟨g,0,none⟩) 0 cap) 0 []∧Below w.heap.size w w':=by
 obtain⟨i5,hi,hz0,hz1,hz2⟩:=info_parts info5;go_enter Tryz.func201,Tryz.ntmps201;go_wp2_with (at_builtin;refine wpList_zeros rfl _ _ 50 3 rfl w.heap.size 5 i5 (.int .u8 0) 1 Tryz.underlying50 Tryz.underlying3 hi hz0 hz1 hz2 rfl rfl _ 0 [] rfl (World.ownsRow_nil _ _ _ _) n rfl hn ?c1 ?c2 ?c3 ?c4)
 case c1=>unfold maxLen;omega
 case c2=>omega
 case c3=>exact Nat.le_refl _
 case c4=>
  intro g cap w1 hcap hcm hg hown hgr;have hb:=(Below.refl w.heap.size w).grown hgr (Nat.le_refl _) (by intro k hk;simp [Value.ownBlock] at hk);have HO:=bC (own_cut hown (Nat.zero_le _));clear hown;unfold maxLen at hcm;go_wp2;go_ret;exact⟨g,cap,rfl,HO.out,hb⟩
def fcat (ls:List (List UInt8)) (k:Nat):List UInt8:=(ls.take k).flatten
def flen (ls:List (List UInt8)) (k:Nat):Nat:=(fcat ls k).length
theorem fcat_succ (ls:List (List UInt8)) (k:Nat) (h:k<ls.length):fcat ls (k+1)=fcat ls k++ls.getD k []:=by
 unfold fcat;rw[List.take_succ_eq_append_getElem h];simp [List.getD,h,-List.take_append_getElem]
theorem flen_succ (ls:List (List UInt8)) (k:Nat) (h:k<ls.length):flen ls (k+1)=flen ls k+(ls.getD k []).length:=by
 unfold flen;rw[fcat_succ ls k h,List.length_append]
theorem fcat_all (ls:List (List UInt8)):fcat ls ls.length=ls.flatten:=by simp [fcat]
theorem flen_le (ls:List (List UInt8)) (k:Nat):flen ls k≤flen ls ls.length:=by
 unfold flen;rw[fcat_all];have:ls.flatten=(ls.take k).flatten++(ls.drop k).flatten:=by rw[←List.flatten_append,List.take_append_drop]
 rw[this];simp [fcat]
theorem concat_any (g o c:Nat) (vs:List Value) (ls:List (List UInt8)) (w:World) (hn:0<flen ls ls.length) (hn2:flen ls ls.length≤140737488355328) (hlc:ls.length≤c) (hc:c≤100)
  (hcell:∀i,i<ls.length→w.cell? ⟨g,o+i,none⟩=some (vs.getD i undef)) (hbs:∀i,i<ls.length→Bs w (vs.getD i undef) (ls.getD i [])):
  Calls Tryz.prog 182 #[.slice (some ⟨g,o,none⟩) ls.length c] w fun r w'=>∃v',r=.returned v'∧w'.ownsRow w.heap.size 5 1 v' (flen ls ls.length) (u8s (fcat ls ls.length))∧Below w.heap.size w w':=by
 obtain⟨i5,hi,hz0,hz1,hz2⟩:=info_parts info5;have HB:=bC hbs;have HC:=bC hcell;clear hbs hcell;go_enter Tryz.func182,Tryz.ntmps182;go_wp2;go_loop [3,5,11] (fun n _ i=>∃k:Nat,k≤ls.length∧i=.int .i64 k∧n=.int .i64 (flen ls k)) (fun _ _ i=>ls.length- (intOf i).toNat)
 case atStart=>exact⟨0,Nat.zero_le _,rfl,rfl⟩
 case round=>
  obtain⟨k,hk,rfl,rfl⟩:=hrel;have hle:=flen_le ls k;by_cases hlt:k<ls.length
  ·have hcl:=HC.out k hlt
   obtain⟨a,cp,hv,h1,h2,_⟩:=HB.out k hlt;have hle2:=flen_le ls (k+1);have hfl:=flen_succ ls k hlt;rw[hfl] at hle2;rw[hv] at hcl;have HF:=bC hfl;clear hfl hv;generalize (ls.getD k []).length=m at*;go_wp2;go_round
   case rel=>exact⟨k+1,by omega,by go_num,by rw[HF.out];go_num⟩
   case measure=>simp [intOf];omega
  ·have hk2:k=ls.length:=by omega
   subst hk2;go_wp2_with (go_at_call 201;refine(grow_any _ hn hn2 _).mono ?_;rintro r w1 ⟨g1,cap1,rfl,hown,hbel⟩);go_loopw [6,8,27] (fun v _ i wr=>∃k:Nat,k≤ls.length∧i=.int .i64 k∧wr.ownsRow w.heap.size 5 1 v (flen ls k) (u8s (fcat ls k))∧Below w.heap.size w wr) (fun _ _ i _=>ls.length- (intOf i).toNat)
   case atStart=>exact⟨0,Nat.zero_le _,rfl,hown,hbel⟩
   case round=>
    clear hown hbel;obtain⟨k,hk,rfl,hown,hbel⟩:=hrel;by_cases hlt:k<ls.length
    ·have hcl:wr.cell? ⟨g,o+k,none⟩=some (vs.getD k undef):=by
      have h:=HC.out k hlt;rw[hbel.cell (cell_lt h)];exact h
     have hbs:=(HB.out k hlt).keep hbel;have hle2:=flen_le ls (k+1);have hfl:=flen_succ ls k hlt;rw[hfl] at hle2;have HF:=bC hfl;have HG:=bC (fcat_succ ls k hlt);clear hfl;generalize vs.getD k undef=y at*;generalize ls.getD k []=ys at*;go_wp2_with (at_builtin;refine wpList_app rfl _ _ 50 rfl w.heap.size 5 i5 Tryz.underlying50 hi hz0 hz1 hz2 _ (fcat ls k) rfl hown y ys rfl hbs ?c1 ?c2 ?c3)
     case c1=>unfold flen at hle2 hn2;omega
     case c2=>exact hbel.size
     case c3=>
      intro v' w2 hown2 hgr;have hbel2:=hbel.grown hgr hbel.size (fun b hb=>(hown.lt b hb).1);have HO:Hid (w2.ownsRow w.heap.size 5 1 v' (flen ls (k+1)) (u8s (fcat ls (k+1)))):=by
       rw[HF.out,HG.out];exact bC hown2
      clear hown2 hown hgr hbel hbs hcl;go_wp2;go_roundw
      case rel=>exact⟨k+1,by omega,by go_num,HO.out,hbel2⟩
      case measure=>simp [intOf];omega
    ·have hk2:k=ls.length:=by omega
     subst hk2;go_wp2;go_ret;exact⟨_,rfl,hown,hbel⟩
def crcTail (l:List UInt8):List UInt8:=[UInt8.ofNat (crcExt 65535 l),UInt8.ofNat (crcExt 65535 l/256)]
theorem bel_alloc2 (w:World) (o1 o2:Obj):Below w.heap.size w ((w.alloc o1).alloc o2):=
 ((Below.refl _ _).alloc (Nat.le_refl _) _).alloc (by simp) _
def appW (w:World) (v:Value) (s:Nat):World:=
 (w.alloc (.cells #[.int .u8 ((s:Int)%256),.int .u8 ((s:Int)/256)] 5)).alloc (.cells #[v,.slice (some ⟨w.heap.size,0,none⟩) 2 2] 50)
theorem appW_cells (w:World) (v:Value) (s:Nat) (ls:List (List UInt8)) (h2:ls.length=2):∀i,i<ls.length→
  (appW w v s).cell? ⟨w.heap.size+1,0+i,none⟩=some (([v,.slice (some ⟨w.heap.size,0,none⟩) 2 2]:List Value).getD i undef):=by
 intro i hi;rw[h2] at hi;unfold appW;rw[World.cell?_alloc_at _ _ _ _ (by simp)]
 match i,hi with
 |0,_=>rfl
 |1,_=>rfl
theorem appW_bs (w:World) (v:Value) (s:Nat) (hs:s<65536) (l:List UInt8) (hv:Bs w v l):∀i,i<[l,[UInt8.ofNat s,UInt8.ofNat (s/256)]].length→
  Bs (appW w v s) (([v,.slice (some ⟨w.heap.size,0,none⟩) 2 2]:List Value).getD i undef) ([l,[UInt8.ofNat s,UInt8.ofNat (s/256)]].getD i []):=by
 intro i hi
 match i,hi with
 |0,_=>exact hv.keep (bel_alloc2 w _ _)
 |1,_=>
  refine Bs.mk (l:=[UInt8.ofNat s,UInt8.ofNat (s/256)]) (Nat.le_refl 2) (by unfold maxLen;decide) ?_;intro i hi;unfold appW;rw[World.cell?_alloc_past _ _ _ (by simp),World.cell?_alloc_at _ _ _ _ rfl]
  match i,hi with
  |0,_=>simp
  |1,_=>simp;omega
theorem append_any (v:Value) (l:List UInt8) (w:World) (hv:Bs w v l) (hl:l.length≤140737488355326):
  Calls Tryz.prog 157 #[v] w fun r w'=>∃v',r=.returned v'∧w'.ownsRow w.heap.size 5 1 v' (l.length+2) (u8s (l++crcTail l))∧Below w.heap.size w w':=by
 have hs:=crcExt_lt l (show 65535<65536 by decide);have ht:crcTail l=[UInt8.ofNat (crcExt 65535 l),UInt8.ofNat (crcExt 65535 l/256)]:=rfl;have HS:=bC (sum_any v l w hv);generalize crcExt 65535 l=s at*;have hfl:fcat [l,crcTail l] 2=l++crcTail l:=by simp [fcat]
 have hll:flen [l,crcTail l] 2=l.length+2:=by unfold flen;rw[hfl,ht];simp
 have HW:=bC (appW_cells w v s [l,crcTail l] rfl);have HB:=appW_bs w v s hs l hv;rw[←ht] at HB;replace HB:=bC HB;have HC:=bC (concat_any (w.heap.size+1) 0 2 [v,.slice (some ⟨w.heap.size,0,none⟩) 2 2] [l,crcTail l] (appW w v s) (by show 0<flen [l,crcTail l] 2;omega) (by show flen [l,crcTail l] 2≤_;omega) (Nat.le_refl 2) (by decide) HW.out HB.out);have HT:=bC ht;have HF:=bC hfl;have HL:=bC hll;clear ht hfl hll HW HB;have hv2:=hv;obtain⟨a,c,rfl,_⟩:=hv2;clear hv;go_enter Tryz.func157,Tryz.ntmps157;go_wp2_with (first|(go_at_call 181;refine HS.out.mono ?_;rintro r w1 ⟨rfl,rfl⟩)|(go_at_call 182;refine HC.out.mono ?_;rintro r w1 ⟨v',rfl,hown,hbel⟩));go_ret;refine⟨_,rfl,?_,(bel_alloc2 w _ _).trans (hbel.mono (by simp [appW];omega))⟩;rw[←HF.out,←HL.out];exact bQ hown (by simp [appW];omega)
def crcChk (l:List UInt8):Bool:=decide (2≤l.length)&&((l.getD (l.length-2) 0).toNat==crcExt 65535 (l.take (l.length-2))%256)&&((l.getD (l.length-1) 0).toNat==crcExt 65535 (l.take (l.length-2))/256)
theorem Bs.take {w:World} {b o c:Nat} {l:List UInt8} (h:Bs w (.slice (some ⟨b,o,none⟩) l.length c) l) (k:Nat) (hk:k≤l.length):Bs w (.slice (some ⟨b,o,none⟩) k c) (l.take k):=by
 obtain⟨a,c',hv,h1,h2,h3,h4⟩:=h;cases hv;have e:(l.take k).length=k:=by simp;omega
 refine⟨_,_,by rw[e],by omega,h2,h3,fun hne=>?_⟩;have hl:l≠[]:=by rintro rfl;simp at hne
 obtain⟨b',o',hb,hc⟩:=h4 hl;cases hb;refine⟨b,o,rfl,fun i hi=>?_⟩;rw[e] at hi;rw[hc i (by omega)];have:(l.take k).getD i 0=l.getD i 0:=by simp [List.getD,hi]
 rw[this]
theorem check_any (v:Value) (l:List UInt8) (w:World) (hv:Bs w v l):
  Calls Tryz.prog 175 #[v] w fun r w'=>r=.returned (.bool (crcChk l))∧Below w.heap.size w w':=by
 have hlen:=hv.len;unfold maxLen at hlen;by_cases hl:l.length<2
 ·obtain ⟨a,k,rfl,_⟩:=hv
  have hr:crcChk l=false:=by unfold crcChk;simp;omega
  replace hr:=bC hr;go_enter Tryz.func175,Tryz.ntmps175;go_wp2;go_ret;exact⟨by rw[hr.out];rfl,Below.refl _ _⟩
 ·obtain ⟨b,o,c,rfl,h1,h2,hcell⟩:=hv.at (by rintro rfl;simp at hl)
  have HS:=bC (sum_any _ _ w (hv.take (l.length-2) (by omega)));have hc0:=hcell (l.length-2) (by omega);have hc1:=hcell (l.length-1) (by omega);clear hcell hv;unfold maxLen at h2;have hs:=crcExt_lt (l.take (l.length-2)) (show 65535<65536 by decide);have hr:crcChk l=(((l.getD (l.length-2) 0).toNat==crcExt 65535 (l.take (l.length-2))%256)&&((l.getD (l.length-1) 0).toNat==crcExt 65535 (l.take (l.length-2))/256)):=by
   unfold crcChk;rw[decide_eq_true (by omega),Bool.true_and]
  have hb0:=byte_lt (l.getD (l.length-2) 0);have hb1:=byte_lt (l.getD (l.length-1) 0);generalize crcExt 65535 (l.take (l.length-2))=s at*;generalize (l.getD (l.length-2) 0).toNat=x0 at*;generalize (l.getD (l.length-1) 0).toNat=x1 at*;replace hr:=bC hr;obtain⟨n,hn⟩:∃n,l.length=n+2:=⟨l.length-2,by omega⟩
  rw[hn] at HS hc0 hc1 h1;rw[hn];rw[show n+2-2=n by omega] at HS hc0;rw[show n+2-1=n+1 by omega] at hc1;clear hn hl hlen;go_enter Tryz.func175,Tryz.ntmps175;go_wp2_with (first|(go_at_call 181;refine HS.out.mono ?_;rintro r w1 ⟨rfl,rfl⟩)|fail)
  all_goals
   go_ret;refine⟨?_,Below.refl _ _⟩;rw[hr.out];refine bO ?_;rw[Bool.eq_iff_iff];simp;omega
end Go.Proofs.YtoaoejaodhedaaaGreat
