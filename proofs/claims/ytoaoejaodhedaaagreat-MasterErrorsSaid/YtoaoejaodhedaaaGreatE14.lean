/-
 Texts 14 of the claim.
-/
import Derived.Test.YtoaoejaodhedaaaGreatE13
import Derived.Test.YtoaoejaodhedaaaGreatE07
namespace Go.Proofs.YtoaoejaodhedaaaGreat
open Go.RowKit
set_option maxHeartbeats 6400000
set_option maxRecDepth 100000
def QdPost (w:World) (o:Option Rq) (r:Ending) (w':World):Prop:=
 match o with
 |some q=>r=.returned (.tuple #[.agg #[.int .i64 q.fn,.int .i64 q.addr,.int .i64 q.qty,.int .i64 q.code,.int .i64 q.obj],.int .i64 0])∧Below w.heap.size w w'
 |none=>∃e:Int,¬e=0∧r=.returned (.tuple #[.agg #[.int .i64 0,.int .i64 0,.int .i64 0,.int .i64 0,.int .i64 0],.int .i64 e])∧Below w.heap.size w w'
theorem infoR5:(Tryz.prog.info? 45).map (·.size)=some 5:=by kernel_rfl
theorem istab_q (f:Int) (w:World):Calls Tryz.prog 154 #[.int .i64 f] w fun r w'=>r=.returned (.bool (decide (1≤f∧f≤4)))∧w=w':=by
 by_cases h1:1≤f
 ·have d1:decide (1≤f)=true:=decide_eq_true h1
  by_cases h2:f≤4
  ·have d2:decide (f≤4)=true:=decide_eq_true h2
   have HD:Hid (decide (1≤f∧f≤4)=true):=decide_eq_true ⟨h1,h2⟩
   clear h1 h2
   go_enter Tryz.func154,Tryz.ntmps154
   go_wp2
   go_ret
   exact⟨by rw[HD.out]<;>rfl,rfl⟩
  ·have d2:decide (f≤4)=false:=decide_eq_false h2
   have HD:Hid (decide (1≤f∧f≤4)=false):=decide_eq_false (fun h=>h2 h.2)
   clear h1 h2
   go_enter Tryz.func154,Tryz.ntmps154
   go_wp2
   go_ret
   exact⟨by rw[HD.out]<;>rfl,rfl⟩
 ·have d1:decide (1≤f)=false:=decide_eq_false h1
  have HD:Hid (decide (1≤f∧f≤4)=false):=decide_eq_false (fun h=>h1 h.1)
  clear h1
  go_enter Tryz.func154,Tryz.ntmps154
  go_wp2
  go_ret
  exact⟨by rw[HD.out]<;>rfl,rfl⟩
theorem rqlen_any (f:Int) (w:World):Calls Tryz.prog 221 #[.int .i64 f] w fun r w'=>r=.returned (.int .i64 (rqLen f))∧w=w':=by
 have HT:=hid (istab_q f)
 unfold rqLen
 by_cases h1:1≤f∧f≤4
 ·have d1:decide (1≤f∧f≤4)=true:=decide_eq_true h1
  rw[d1] at HT
  rw[if_pos h1]
  clear h1 d1
  go_enter Tryz.func221,Tryz.ntmps221
  go_wp2_with (go_at_call 154;(with_reducible refine(HT.out _).mono ?_);rintro r w2 ⟨rfl,rfl⟩)
  go_ret
  exact⟨rfl,rfl⟩
 ·have d1:decide (1≤f∧f≤4)=false:=decide_eq_false h1
  rw[d1] at HT
  rw[if_neg h1]
  clear h1 d1
  by_cases h2:f=17
  ·have e2:(f==17)=true:=b1 h2
   rw[if_pos h2]
   clear h2
   go_enter Tryz.func221,Tryz.ntmps221
   go_wp2_with (go_at_call 154;(with_reducible refine(HT.out _).mono ?_);rintro r w2 ⟨rfl,rfl⟩)
   go_ret
   exact⟨rfl,rfl⟩
  ·have e2:(f==17)=false:=b0 h2
   rw[if_neg h2]
   clear h2
   by_cases h3:f=43
   ·have e3:(f==43)=true:=b1 h3
    rw[if_pos h3]
    clear h3
    go_enter Tryz.func221,Tryz.ntmps221
    go_wp2_with (go_at_call 154;(with_reducible refine(HT.out _).mono ?_);rintro r w2 ⟨rfl,rfl⟩)
    go_ret
    exact⟨rfl,rfl⟩
   ·have e3:(f==43)=false:=b0 h3
    rw[if_neg h3]
    clear h3
    go_enter Tryz.func221,Tryz.ntmps221
    go_wp2_with (go_at_call 154;(with_reducible refine(HT.out _).mono ?_);rintro r w2 ⟨rfl,rfl⟩)
    go_ret
    exact⟨rfl,rfl⟩
theorem pqdec_any (v:Value) (l:List UInt8) (w:World) (hv:Bs w v l) (o:Option Rq) (ho:Hid (rqDec l=o)):Calls Tryz.prog 204 #[v] w (QdPost w o):=by
 obtain⟨W1,hW1⟩:∃W,w.alloc (.cells #[.int .i64 0,.int .i64 0,.int .i64 0,.int .i64 0,.int .i64 0] 45)=W:=⟨_,rfl⟩
 have hb1:Below w.heap.size w W1:=by rw[←hW1];exact bal' w _
 obtain⟨zb,hzb⟩:∃n,w.heap.size=n:=⟨_,rfl⟩
 have pz1:W1.heap[zb]?=some (.cells #[.int .i64 0,.int .i64 0,.int .i64 0,.int .i64 0,.int .i64 0] 45):=by rw[←hW1,←hzb];exact hpNew w _
 have HZ:=hid hzb
 have HB1:=hid hb1
 have HW1:=hid hW1
 have HP1:=hid pz1
 obtain⟨n,hn⟩:∃n,l.length=n:=⟨_,rfl⟩
 have hcap:=hv.len
 rw[hn] at hcap
 unfold maxLen at hcap
 by_cases h0:n=0
 ·have HO:Hid (o=none):=by show _=_;rw[←ho.out];unfold rqDec;rw[if_pos (.inl (by rw[hn];exact h0))]
  have HEND:Hid (∀w8,Keeps (· =zb) W1 w8→Below w.heap.size w w8):=fun w8 h=>hb1.trans (h.below hb1.size (fun j hj e=>by omega))
  obtain⟨a,c,rfl,-⟩:=id hv
  rw[hn,h0]
  have pz:=pz1
  clear hv hW1 hb1 hzb pz1 hn h0 hcap
  go_enter Tryz.func204,Tryz.ntmps204
  go_upto_region 1 with(fail)
  rw[HW1.out,HZ.out]
  go_wp2_with (refine wpList_storeW rfl 45 (.tmp 2) (.tmp 9) rfl zb 0 _ 45 #[.int .i64 0,.int .i64 0,.int .i64 0,.int .i64 0,.int .i64 0] rfl rfl pz (by simp) infoR5 rfl ?_;intro w8 g8 hk8 hz8)
  have g9:w8.heap[zb]?=some (.cells #[.int .i64 0,.int .i64 0,.int .i64 0,.int .i64 0,.int .i64 0] 45):=g8;refine bodyPost_ret (results_ct_row rfl _ _ zb 45 _ (0,0) _ rfl g9 Tryz.underlying45 rfl infoR5) rfl ?_;rw[HO.out];exact⟨4,by decide,rfl,HEND.out _ hk8⟩
 obtain⟨b,off,c,rfl,hlc,hcm,hc⟩:=hv.at (by intro e;rw[e] at hn;exact h0 hn.symm)
 rw[hn] at hlc hc ⊢
 have hl0:(0:Int)<(n:Int):=by omega
 have gn:((n:Int)==0)=false:=b0 (by omega)
 have HBQ:Hid (b<w.heap.size):=cell_lt (hc 0 (by omega))
 have HC:Hid (∀X,Below w.heap.size w X→∀i,i<n→X.cell? ⟨b,off+i,none⟩=some (.int .u8 (bAt l i))):=fun X hX i hi=>cell_keep hX (hc i hi)
 have c0:W1.cell? ⟨b,off,none⟩=some (.int .u8 (bAt l 0)):=HC.out W1 hb1 0 (by omega)
 have hF:0≤bAt l 0∧bAt l 0≤255:=by unfold bAt;have:=(l.getD 0 0).toNat_lt;omega
 obtain⟨F,hFF⟩:∃F,bAt l 0=F:=⟨_,rfl⟩
 rw[hFF] at c0 hF
 obtain⟨W2,hW2⟩:∃W,W1.alloc (.cells #[.int .i64 F,.int .i64 0,.int .i64 0,.int .i64 0,.int .i64 0] 45)=W:=⟨_,rfl⟩
 have hb2:Below W1.heap.size W1 W2:=by rw[←hW2];exact bal' W1 _
 obtain⟨qb,hqb⟩:∃n,W1.heap.size=n:=⟨_,rfl⟩
 have pq2:W2.heap[qb]?=some (.cells #[.int .i64 F,.int .i64 0,.int .i64 0,.int .i64 0,.int .i64 0] 45):=by rw[←hW2,←hqb];exact hpNew W1 _
 have q0:=hpCell pq2 0
 have q0:W2.cell? ⟨qb,0,none⟩=some (.int .i64 F):=q0
 have HW2:=hid hW2
 have HQB:=hid hqb
 have hb12:Below w.heap.size w W2:=bt hb1 hb2 (Nat.le_refl _)
 have HB12:=hid hb12
 have pz:=hpKeep pz1 hb2
 have HEND:Hid (∀w8,Keeps (· =zb) W2 w8→Below w.heap.size w w8):=fun w8 h=>hb12.trans (h.below hb12.size (fun j hj e=>by omega))
 have HFF:=hid hFF
 have HN:=hid hn
 obtain⟨L,hL⟩:∃L:Nat,rqLen F=L:=⟨_,rfl⟩
 have HLN:Hid (∀X,Calls Tryz.prog 221 #[.int .i64 F] X fun r w'=>r=.returned (.int .i64 (L:Int))∧X=w'):=fun X=>by rw[←hL];exact rqlen_any F X
 have HL:=hid hL
 have hzq:zb<qb:=by have:=hb1.size;have:=hpLt pz1;omega
 have HZQ:=hid hzq
 clear hv hW1 hb1 hzb pz1 hn hcap hc hFF hW2 hb2 hqb hL hb12 hzq
 by_cases h1:L=0
 ·have HO:Hid (o=none):=by show _=_;rw[←ho.out];unfold rqDec;rw[if_pos (.inr (.inl (by rw[HFF.out,HL.out];exact h1)))]
  have g1:((L:Int)==0)=true:=b1 (by omega)
  clear h1
  go_enter Tryz.func204,Tryz.ntmps204
  go_upto_region 1 with(fail)
  rw[HW1.out,HZ.out]
  go_upto_region 4 with(fail)
  rw[HW2.out,HQB.out]
  go_wp2_with (first|(go_at_call 221;(with_reducible refine(HLN.out _).mono ?_);rintro r w4 ⟨rfl,rfl⟩)|(go_at_call 154;(with_reducible refine(HTB.out _).mono ?_);rintro r w4 ⟨rfl,rfl⟩)|(refine wpList_storeW rfl 45 (.tmp 2) (.tmp 21) rfl zb 0 _ 45 #[.int .i64 0,.int .i64 0,.int .i64 0,.int .i64 0,.int .i64 0] rfl rfl pz (by simp) infoR5 rfl ?_;intro w8 g8 hk8 hz8))
  have g9:w8.heap[zb]?=some (.cells #[.int .i64 0,.int .i64 0,.int .i64 0,.int .i64 0,.int .i64 0] 45):=g8;refine bodyPost_ret (results_ct_row rfl _ _ zb 45 _ (0,0) _ rfl g9 Tryz.underlying45 rfl infoR5) rfl ?_;rw[HO.out];exact⟨16,by decide,rfl,HEND.out _ hk8⟩
 have g1:((L:Int)==0)=false:=b0 (by omega)
 have hn1:1≤n:=by omega
 by_cases h2:n=L
 ·have g2:((n:Int) !=(L:Int))=false:=by rw[bne_eq_false_iff_eq];omega
  have HDE:Hid (¬(F=43∧bAt l 1≠14)→rqDec l=if (rqOf l).ok=false then none else some (rqOf l)):=fun h=>by
   unfold rqDec
   rw[HFF.out,HL.out,HN.out]
   by_cases e:(rqOf l).ok=false
   ·rw [if_pos (.inr (.inr (.inr (.inr e)))),if_pos e]
   ·rw [if_neg,if_neg e]
    rintro (e2|e2|e2|e2|e2)
    ·exact h0 e2
    ·exact h1 e2
    ·exact e2 h2
    ·exact h e2
    ·exact e e2
  have hle:L=rqLen F:=HL.out.symm
  have HBD:Hid (∀i,0≤bAt l i∧bAt l i<256):=fun i=>by have:=bAt_bd l i;omega
  unfold rqLen at hle
  by_cases h3:1≤F∧F≤4
  ·rw [if_pos h3] at hle
   have h5:n=5:=by omega
   have g3:(F==43)=false:=b0 (by omega)
   have HTB:Hid (∀X,Calls Tryz.prog 154 #[.int .i64 F] X fun r w'=>r=.returned (.bool true)∧X=w'):=fun X=>by have:=istab_q F X;rw[decide_eq_true h3] at this;exact this
   have HRQ:Hid (rqOf l=⟨F,bAt l 1*256+bAt l 2,bAt l 3*256+bAt l 4,0,0⟩):=by show _=_;unfold rqOf;rw[HFF.out,if_pos h3]
   have HDD:=hid (HDE.out (fun e=>by omega))
   have i1:(1:Int)<(n:Int):=by omega
   have i2:(2:Int)<(n:Int):=by omega
   have i3:(3:Int)<(n:Int):=by omega
   have i4:(4:Int)<(n:Int):=by omega
   have c1:W2.cell? ⟨b,off+1,none⟩=some (.int .u8 (bAt l 1)):=HC.out W2 HB12.out 1 (by omega)
   have c2:W2.cell? ⟨b,off+2,none⟩=some (.int .u8 (bAt l 2)):=HC.out W2 HB12.out 2 (by omega)
   have c3:W2.cell? ⟨b,off+3,none⟩=some (.int .u8 (bAt l 3)):=HC.out W2 HB12.out 3 (by omega)
   have c4:W2.cell? ⟨b,off+4,none⟩=some (.int .u8 (bAt l 4)):=HC.out W2 HB12.out 4 (by omega)
   have d1:=HBD.out 1
   have d2:=HBD.out 2
   have d3:=HBD.out 3
   have d4:=HBD.out 4
   generalize bAt l 1=y1 at*
   generalize bAt l 2=y2 at*
   generalize bAt l 3=y3 at*
   generalize bAt l 4=y4 at*
   have s1:IntKind.i64.wrap (y1*256)=y1*256:=IntWalk.i64_in _ (by omega)
   have s3:IntKind.i64.wrap (y3*256)=y3*256:=IntWalk.i64_in _ (by omega)
   have o1:=or_word y1 y2 d1.1 d1.2 d2.1 d2.2
   have o3:=or_word y3 y4 d3.1 d3.2 d4.1 d4.2
   have r1:=hpCell pq2 1
   have r2:=hpCell pq2 2
   have f1:W2.frozen? ⟨qb,1,none⟩=false:=hpFree pq2 1
   have f2:W2.frozen? ⟨qb,2,none⟩=false:=hpFree pq2 2
   clear h1 h2 h3 hle h5 hlc hcm
   go_enter Tryz.func204,Tryz.ntmps204
   go_upto_region 1 with(fail)
   rw[HW1.out,HZ.out]
   go_upto_region 4 with(fail)
   rw[HW2.out,HQB.out]
   go_upto_region 12 with(first|(go_at_call 221;(with_reducible refine(HLN.out _).mono ?_);rintro r w4 ⟨rfl,rfl⟩)|(go_at_call 154;(with_reducible refine(HTB.out _).mono ?_);rintro r w4 ⟨rfl,rfl⟩))
   go_region
   obtain⟨W3,hW3⟩:∃W,((W2.setCell ⟨qb,1,none⟩ (.int .i64 (y1*256+y2))).setCell ⟨qb,2,none⟩ (.int .i64 (y3*256+y4))).drew=W:=⟨_,rfl⟩
   have pq3:W3.heap[qb]?=some (.cells #[.int .i64 F,.int .i64 (y1*256+y2),.int .i64 (y3*256+y4),.int .i64 0,.int .i64 0] 45):=by rw[←hW3];exact hpKeep (hpSetP (hpSetP pq2 rfl) rfl) (Below.refl _ _).drew
   have hk3:Keeps (fun j=>j=qb) W2 W3:=by rw[←hW3];exact(ks1 (ks1 (Keeps.refl _ _) _ _) _ _).trans (Keeps.of_below (F:=fun _=>False) (Below.refl _ _).drew) (fun _ _ e=>e.elim)
   have pz3:=hpKeeps pz hk3 (by have:=HZQ.out;omega)
   have hb03:Below w.heap.size w W3:=HB12.out.trans (hk3.below HB12.out.size (fun j hj e=>by have:=HB1.out.size;have:=HQB.out;omega))
   have HEND3:Hid (∀w8 w4,Below W3.heap.size W3 w4→Keeps (· =zb) w4 w8→Below w.heap.size w w8):=fun w8 w4 h4 h=>(bt hb03 h4 (Nat.le_refl _)).trans (h.below (by have:=hb03.size;have:=h4.size;omega) (fun j hj e=>by have:=HZ.out;omega))
   rw[hW3]
   clear hW3 hk3 hb03 r1 r2 f1 f2 c0 c1 c2 c3 c4 q0 pq2 pz HEND
   obtain⟨V,hV⟩:∃V,(rqOf l).ok=V:=⟨_,rfl⟩;have HVV:Hid (∀X,Calls Tryz.prog 121 #[.agg #[.int .i64 F,.int .i64 (y1*256+y2),.int .i64 (y3*256+y4),.int .i64 0,.int .i64 0]] X (BoolPost X V)):=(fun X=>by have h:=pqvalid_any F (y1*256+y2) (y3*256+y4) 0 0 X;rw[←hV,HRQ.out];exact h);have HVD:=hid hV;clear hV;cases V with|false=>(have HO:Hid (o=none):=(by show _=_;rw[←ho.out,HDD.out,if_pos HVD.out]);go_wp2_with (first|(refine wpList_load_row rfl 45 (.tmp 4) rfl qb rfl 45 #[.int .i64 F,.int .i64 (y1*256+y2),.int .i64 (y3*256+y4),.int .i64 0,.int .i64 0] (0,0) _ pq3 Tryz.underlying45 rfl infoR5 ?_)|(go_at_call 121;(with_reducible refine(HVV.out _).mono ?_);rintro r w4 ⟨rfl,hb4⟩;have pz:=hpKeep pz3 hb4;have HEND:=hid (fun w8 h=>HEND3.out w8 w4 hb4 h))|(refine wpList_storeW rfl 45 (.tmp 2) (.tmp 82) rfl zb 0 _ 45 #[.int .i64 0,.int .i64 0,.int .i64 0,.int .i64 0,.int .i64 0] rfl rfl pz (by simp) infoR5 rfl ?_;intro w8 g8 hk8 hz8));have g9:w8.heap[zb]?=some (.cells #[.int .i64 0,.int .i64 0,.int .i64 0,.int .i64 0,.int .i64 0] 45):=g8;refine bodyPost_ret (results_ct_row rfl _ _ zb 45 _ (0,0) _ rfl g9 Tryz.underlying45 rfl infoR5) rfl ?_;rw[HO.out];exact⟨3,by decide,rfl,HEND.out _ hk8⟩)|true=>(have HO:Hid (o=some (rqOf l)):=(by show _=_;rw[←ho.out,HDD.out,if_neg (by rw[HVD.out];decide)]);go_wp2_with (first|(refine wpList_load_row rfl 45 (.tmp 4) rfl qb rfl 45 #[.int .i64 F,.int .i64 (y1*256+y2),.int .i64 (y3*256+y4),.int .i64 0,.int .i64 0] (0,0) _ pq3 Tryz.underlying45 rfl infoR5 ?_)|(refine wpList_load_row rfl 45 (.tmp 4) rfl qb rfl 45 #[.int .i64 F,.int .i64 (y1*256+y2),.int .i64 (y3*256+y4),.int .i64 0,.int .i64 0] (0,0) _ (hpKeep pq3 hb4) Tryz.underlying45 rfl infoR5 ?_)|(go_at_call 121;(with_reducible refine(HVV.out _).mono ?_);rintro r w4 ⟨rfl,hb4⟩;have pz:=hpKeep pz3 hb4;have HEND:=hid (fun w8 h=>HEND3.out w8 w4 hb4 h))|(refine wpList_storeW rfl 45 (.tmp 2) (.tmp 83) rfl zb 0 _ 45 #[.int .i64 F,.int .i64 (y1*256+y2),.int .i64 (y3*256+y4),.int .i64 0,.int .i64 0] rfl rfl pz (by simp) infoR5 rfl ?_;intro w8 g8 hk8 hz8));have g9:w8.heap[zb]?=some (.cells #[.int .i64 F,.int .i64 (y1*256+y2),.int .i64 (y3*256+y4),.int .i64 0,.int .i64 0] 45):=g8;refine bodyPost_ret (results_ct_row rfl _ _ zb 45 _ (0,0) _ rfl g9 Tryz.underlying45 rfl infoR5) rfl ?_;rw[HO.out,HRQ.out];exact⟨rfl,HEND.out _ hk8⟩)
  ·rw [if_neg h3] at hle
   have HTB:Hid (∀X,Calls Tryz.prog 154 #[.int .i64 F] X fun r w'=>r=.returned (.bool false)∧X=w'):=fun X=>by have:=istab_q F X;rw[decide_eq_false h3] at this;exact this
   by_cases h17:F=17
   ·subst h17
    rw[if_pos rfl] at hle
    have h5:n=1:=by omega
    have HRQ:Hid (rqOf l=⟨17,0,0,0,0⟩):=by show _=_;unfold rqOf;rw[HFF.out,if_neg h3,if_neg (by decide)]
    have HDD:=hid (HDE.out (fun e=>absurd e.1 (by decide)))
    have pq3:=pq2
    have pz3:=pz
    have HEND3:Hid (∀w8 w4,Below W2.heap.size W2 w4→Keeps (· =zb) w4 w8→Below w.heap.size w w8):=fun w8 w4 h4 h=>(bt HB12.out h4 (Nat.le_refl _)).trans (h.below (by have:=HB12.out.size;have:=h4.size;omega) (fun j hj e=>by have:=HZ.out;omega))
    clear h1 h2 h3 hle h5 hlc hcm HEND
    go_enter Tryz.func204,Tryz.ntmps204
    go_upto_region 1 with(fail)
    rw[HW1.out,HZ.out]
    go_upto_region 4 with(fail)
    rw[HW2.out,HQB.out]
    go_upto_region 15 with(first|(go_at_call 221;(with_reducible refine(HLN.out _).mono ?_);rintro r w4 ⟨rfl,rfl⟩)|(go_at_call 154;(with_reducible refine(HTB.out _).mono ?_);rintro r w4 ⟨rfl,rfl⟩))
    clear c0 q0 pq2 pz
    obtain⟨V,hV⟩:∃V,(rqOf l).ok=V:=⟨_,rfl⟩;have HVV:Hid (∀X,Calls Tryz.prog 121 #[.agg #[.int .i64 17,.int .i64 0,.int .i64 0,.int .i64 0,.int .i64 0]] X (BoolPost X V)):=(fun X=>by have h:=pqvalid_any 17 0 0 0 0 X;rw[←hV,HRQ.out];exact h);have HVD:=hid hV;clear hV;cases V with|false=>(have HO:Hid (o=none):=(by show _=_;rw[←ho.out,HDD.out,if_pos HVD.out]);go_wp2_with (first|(refine wpList_load_row rfl 45 (.tmp 4) rfl qb rfl 45 #[.int .i64 17,.int .i64 0,.int .i64 0,.int .i64 0,.int .i64 0] (0,0) _ pq3 Tryz.underlying45 rfl infoR5 ?_)|(go_at_call 121;(with_reducible refine(HVV.out _).mono ?_);rintro r w4 ⟨rfl,hb4⟩;have pz:=hpKeep pz3 hb4;have HEND:=hid (fun w8 h=>HEND3.out w8 w4 hb4 h))|(refine wpList_storeW rfl 45 (.tmp 2) (.tmp 82) rfl zb 0 _ 45 #[.int .i64 0,.int .i64 0,.int .i64 0,.int .i64 0,.int .i64 0] rfl rfl pz (by simp) infoR5 rfl ?_;intro w8 g8 hk8 hz8));have g9:w8.heap[zb]?=some (.cells #[.int .i64 0,.int .i64 0,.int .i64 0,.int .i64 0,.int .i64 0] 45):=g8;refine bodyPost_ret (results_ct_row rfl _ _ zb 45 _ (0,0) _ rfl g9 Tryz.underlying45 rfl infoR5) rfl ?_;rw[HO.out];exact⟨3,by decide,rfl,HEND.out _ hk8⟩)|true=>(have HO:Hid (o=some (rqOf l)):=(by show _=_;rw[←ho.out,HDD.out,if_neg (by rw[HVD.out];decide)]);go_wp2_with (first|(refine wpList_load_row rfl 45 (.tmp 4) rfl qb rfl 45 #[.int .i64 17,.int .i64 0,.int .i64 0,.int .i64 0,.int .i64 0] (0,0) _ pq3 Tryz.underlying45 rfl infoR5 ?_)|(refine wpList_load_row rfl 45 (.tmp 4) rfl qb rfl 45 #[.int .i64 17,.int .i64 0,.int .i64 0,.int .i64 0,.int .i64 0] (0,0) _ (hpKeep pq3 hb4) Tryz.underlying45 rfl infoR5 ?_)|(go_at_call 121;(with_reducible refine(HVV.out _).mono ?_);rintro r w4 ⟨rfl,hb4⟩;have pz:=hpKeep pz3 hb4;have HEND:=hid (fun w8 h=>HEND3.out w8 w4 hb4 h))|(refine wpList_storeW rfl 45 (.tmp 2) (.tmp 83) rfl zb 0 _ 45 #[.int .i64 17,.int .i64 0,.int .i64 0,.int .i64 0,.int .i64 0] rfl rfl pz (by simp) infoR5 rfl ?_;intro w8 g8 hk8 hz8));have g9:w8.heap[zb]?=some (.cells #[.int .i64 17,.int .i64 0,.int .i64 0,.int .i64 0,.int .i64 0] 45):=g8;refine bodyPost_ret (results_ct_row rfl _ _ zb 45 _ (0,0) _ rfl g9 Tryz.underlying45 rfl infoR5) rfl ?_;rw[HO.out,HRQ.out];exact⟨rfl,HEND.out _ hk8⟩)
   ·rw [if_neg h17] at hle
    have h43:F=43:=by
     by_cases e:F=43
     ·exact e
     ·rw [if_neg e] at hle;omega
    subst h43
    rw[if_pos rfl] at hle
    have h5:n=4:=by omega
    have i1:(1:Int)<(n:Int):=by omega
    have i2:(2:Int)<(n:Int):=by omega
    have i3:(3:Int)<(n:Int):=by omega
    have c1:W2.cell? ⟨b,off+1,none⟩=some (.int .u8 (bAt l 1)):=HC.out W2 HB12.out 1 (by omega)
    have c2:W2.cell? ⟨b,off+2,none⟩=some (.int .u8 (bAt l 2)):=HC.out W2 HB12.out 2 (by omega)
    have c3:W2.cell? ⟨b,off+3,none⟩=some (.int .u8 (bAt l 3)):=HC.out W2 HB12.out 3 (by omega)
    have d2:=HBD.out 2
    have d3:=HBD.out 3
    by_cases h14:bAt l 1=14
    ·have HRQ:Hid (rqOf l=⟨43,0,0,bAt l 2,bAt l 3⟩):=by show _=_;unfold rqOf;rw[HFF.out,if_neg h3,if_pos rfl]
     have HDD:=hid (HDE.out (fun e=>e.2 h14))
     generalize bAt l 1=y1 at*
     generalize bAt l 2=y2 at*
     generalize bAt l 3=y3 at*
     have g14:(y1 !=14)=false:=by rw[bne_eq_false_iff_eq];exact h14
     have r3:=hpCell pq2 3
     have r4:=hpCell pq2 4
     have f3:W2.frozen? ⟨qb,3,none⟩=false:=hpFree pq2 3
     have f4:W2.frozen? ⟨qb,4,none⟩=false:=hpFree pq2 4
     have u2:IntKind.i64.wrap y2=y2:=IntWalk.i64_in _ (by omega)
     have u3:IntKind.i64.wrap y3=y3:=IntWalk.i64_in _ (by omega)
     have hbq:¬b=qb:=by have h1:=cell_lt c1;have h2:=HB1.out.size;have:=HQB.out;have:=HBQ.out;omega
     clear h1 h2 h3 hle h5 hlc hcm h17 h14
     go_enter Tryz.func204,Tryz.ntmps204
     go_upto_region 1 with(fail)
     rw[HW1.out,HZ.out]
     go_upto_region 4 with(fail)
     rw[HW2.out,HQB.out]
     go_upto_region 14 with(first|(go_at_call 221;(with_reducible refine(HLN.out _).mono ?_);rintro r w4 ⟨rfl,rfl⟩)|(go_at_call 154;(with_reducible refine(HTB.out _).mono ?_);rintro r w4 ⟨rfl,rfl⟩))
     go_region
     obtain⟨W3,hW3⟩:∃W,((W2.setCell ⟨qb,3,none⟩ (.int .i64 y2)).setCell ⟨qb,4,none⟩ (.int .i64 y3)).drew=W:=⟨_,rfl⟩
     have pq3:W3.heap[qb]?=some (.cells #[.int .i64 43,.int .i64 0,.int .i64 0,.int .i64 y2,.int .i64 y3] 45):=by rw[←hW3];exact hpKeep (hpSetP (hpSetP pq2 rfl) rfl) (Below.refl _ _).drew
     have hk3:Keeps (fun j=>j=qb) W2 W3:=by rw[←hW3];exact(ks1 (ks1 (Keeps.refl _ _) _ _) _ _).trans (Keeps.of_below (F:=fun _=>False) (Below.refl _ _).drew) (fun _ _ e=>e.elim)
     have pz3:=hpKeeps pz hk3 (by have:=HZQ.out;omega)
     have hb03:Below w.heap.size w W3:=HB12.out.trans (hk3.below HB12.out.size (fun j hj e=>by have:=HB1.out.size;have:=HQB.out;omega))
     have HEND3:Hid (∀w8 w4,Below W3.heap.size W3 w4→Keeps (· =zb) w4 w8→Below w.heap.size w w8):=fun w8 w4 h4 h=>(bt hb03 h4 (Nat.le_refl _)).trans (h.below (by have:=hb03.size;have:=h4.size;omega) (fun j hj e=>by have:=HZ.out;omega))
     rw[hW3]
     clear hW3 hk3 hb03 r3 r4 f3 f4 c0 c1 c2 c3 q0 pq2 pz HEND
     obtain⟨V,hV⟩:∃V,(rqOf l).ok=V:=⟨_,rfl⟩;have HVV:Hid (∀X,Calls Tryz.prog 121 #[.agg #[.int .i64 43,.int .i64 0,.int .i64 0,.int .i64 y2,.int .i64 y3]] X (BoolPost X V)):=(fun X=>by have h:=pqvalid_any 43 0 0 y2 y3 X;rw[←hV,HRQ.out];exact h);have HVD:=hid hV;clear hV;cases V with|false=>(have HO:Hid (o=none):=(by show _=_;rw[←ho.out,HDD.out,if_pos HVD.out]);go_wp2_with (first|(refine wpList_load_row rfl 45 (.tmp 4) rfl qb rfl 45 #[.int .i64 43,.int .i64 0,.int .i64 0,.int .i64 y2,.int .i64 y3] (0,0) _ pq3 Tryz.underlying45 rfl infoR5 ?_)|(go_at_call 121;(with_reducible refine(HVV.out _).mono ?_);rintro r w4 ⟨rfl,hb4⟩;have pz:=hpKeep pz3 hb4;have HEND:=hid (fun w8 h=>HEND3.out w8 w4 hb4 h))|(refine wpList_storeW rfl 45 (.tmp 2) (.tmp 82) rfl zb 0 _ 45 #[.int .i64 0,.int .i64 0,.int .i64 0,.int .i64 0,.int .i64 0] rfl rfl pz (by simp) infoR5 rfl ?_;intro w8 g8 hk8 hz8));have g9:w8.heap[zb]?=some (.cells #[.int .i64 0,.int .i64 0,.int .i64 0,.int .i64 0,.int .i64 0] 45):=g8;refine bodyPost_ret (results_ct_row rfl _ _ zb 45 _ (0,0) _ rfl g9 Tryz.underlying45 rfl infoR5) rfl ?_;rw[HO.out];exact⟨3,by decide,rfl,HEND.out _ hk8⟩)|true=>(have HO:Hid (o=some (rqOf l)):=(by show _=_;rw[←ho.out,HDD.out,if_neg (by rw[HVD.out];decide)]);go_wp2_with (first|(refine wpList_load_row rfl 45 (.tmp 4) rfl qb rfl 45 #[.int .i64 43,.int .i64 0,.int .i64 0,.int .i64 y2,.int .i64 y3] (0,0) _ pq3 Tryz.underlying45 rfl infoR5 ?_)|(refine wpList_load_row rfl 45 (.tmp 4) rfl qb rfl 45 #[.int .i64 43,.int .i64 0,.int .i64 0,.int .i64 y2,.int .i64 y3] (0,0) _ (hpKeep pq3 hb4) Tryz.underlying45 rfl infoR5 ?_)|(go_at_call 121;(with_reducible refine(HVV.out _).mono ?_);rintro r w4 ⟨rfl,hb4⟩;have pz:=hpKeep pz3 hb4;have HEND:=hid (fun w8 h=>HEND3.out w8 w4 hb4 h))|(refine wpList_storeW rfl 45 (.tmp 2) (.tmp 83) rfl zb 0 _ 45 #[.int .i64 43,.int .i64 0,.int .i64 0,.int .i64 y2,.int .i64 y3] rfl rfl pz (by simp) infoR5 rfl ?_;intro w8 g8 hk8 hz8));have g9:w8.heap[zb]?=some (.cells #[.int .i64 43,.int .i64 0,.int .i64 0,.int .i64 y2,.int .i64 y3] 45):=g8;refine bodyPost_ret (results_ct_row rfl _ _ zb 45 _ (0,0) _ rfl g9 Tryz.underlying45 rfl infoR5) rfl ?_;rw[HO.out,HRQ.out];exact⟨rfl,HEND.out _ hk8⟩)
    ·have g14:(bAt l 1 !=14)=true:=by rw[bne_iff_ne];exact h14
     have HO:Hid (o=none):=by
      show _=_
      rw[←ho.out]
      unfold rqDec
      rw[if_pos (.inr (.inr (.inr (.inl ⟨HFF.out,h14⟩))))]
     clear h1 h2 h3 hle h5 hlc hcm h17 h14
     go_enter Tryz.func204,Tryz.ntmps204
     go_upto_region 1 with(fail)
     rw[HW1.out,HZ.out]
     go_upto_region 4 with(fail)
     rw[HW2.out,HQB.out]
     go_wp2_with (first|(go_at_call 221;(with_reducible refine(HLN.out _).mono ?_);rintro r w4 ⟨rfl,rfl⟩)|(go_at_call 154;(with_reducible refine(HTB.out _).mono ?_);rintro r w4 ⟨rfl,rfl⟩)|(refine wpList_storeW rfl 45 (.tmp 2) (.tmp 38) rfl zb 0 _ 45 #[.int .i64 0,.int .i64 0,.int .i64 0,.int .i64 0,.int .i64 0] rfl rfl pz (by simp) infoR5 rfl ?_;intro w8 g8 hk8 hz8))
     have g9:w8.heap[zb]?=some (.cells #[.int .i64 0,.int .i64 0,.int .i64 0,.int .i64 0,.int .i64 0] 45):=g8;refine bodyPost_ret (results_ct_row rfl _ _ zb 45 _ (0,0) _ rfl g9 Tryz.underlying45 rfl infoR5) rfl ?_;rw[HO.out];exact⟨6,by decide,rfl,HEND.out _ hk8⟩
 ·have HO:Hid (o=none):=by show _=_;rw[←ho.out];unfold rqDec;rw[if_pos (.inr (.inr (.inl (by rw[HN.out,HFF.out,HL.out];exact h2))))]
  have g2:((n:Int) !=(L:Int))=true:=by rw[bne_iff_ne];omega
  clear h1 h2
  go_enter Tryz.func204,Tryz.ntmps204
  go_upto_region 1 with(fail)
  rw[HW1.out,HZ.out]
  go_upto_region 4 with(fail)
  rw[HW2.out,HQB.out]
  go_wp2_with (first|(go_at_call 221;(with_reducible refine(HLN.out _).mono ?_);rintro r w4 ⟨rfl,rfl⟩)|(go_at_call 154;(with_reducible refine(HTB.out _).mono ?_);rintro r w4 ⟨rfl,rfl⟩)|(refine wpList_storeW rfl 45 (.tmp 2) (.tmp 27) rfl zb 0 _ 45 #[.int .i64 0,.int .i64 0,.int .i64 0,.int .i64 0,.int .i64 0] rfl rfl pz (by simp) infoR5 rfl ?_;intro w8 g8 hk8 hz8))
  have g9:w8.heap[zb]?=some (.cells #[.int .i64 0,.int .i64 0,.int .i64 0,.int .i64 0,.int .i64 0] 45):=g8;refine bodyPost_ret (results_ct_row rfl _ _ zb 45 _ (0,0) _ rfl g9 Tryz.underlying45 rfl infoR5) rfl ?_;rw[HO.out];exact⟨4,by decide,rfl,HEND.out _ hk8⟩
end Go.Proofs.YtoaoejaodhedaaaGreat
