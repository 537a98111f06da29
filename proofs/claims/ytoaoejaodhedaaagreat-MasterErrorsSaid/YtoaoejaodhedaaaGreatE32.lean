/-
 Texts 32 of the claim.
-/
import Derived.Test.YtoaoejaodhedaaaGreatE16
import Derived.Test.YtoaoejaodhedaaaGreatE17
import Derived.Test.YtoaoejaodhedaaaGreatE31
import Derived.Test.YtoaoejaodhedaaaGreatE18
namespace Go.Proofs.YtoaoejaodhedaaaGreat
open Go.RowKit
set_option maxHeartbeats 3200000
set_option maxRecDepth 100000
theorem rdecD (a:Option Addr) (n c:Nat) (b:List UInt8) (w:World) (hb:Bs w (.slice a n c) b) (h2:2≤n) (h3:n≤253) (h43:bAt b 0=43):
  Calls Tryz.prog 176 #[.slice a n c] w (DecPost w (Rp.dec b)):=by
 obtain⟨hbn,hnc,hcm⟩:=hb.capOf
 unfold maxLen at hcm
 have HD:=hid (dec_dev (b:=b) (by omega) h43)
 have HB:=hid hb
 obtain⟨blk,off,rfl,y0⟩:=hb.byte (i:=0) (by omega)
 have y0':w.cell? ⟨blk,off,none⟩=some (.int .u8 (bAt b 0)):=y0
 have c0:∀W,Below w.heap.size w W→W.cell? ⟨blk,off,none⟩=some (.int .u8 43):=fun W h=>by rw[←h43];exact cell_keep h y0'
 have kA:∀X,Below w.heap.size w (w.alloc X):=fun X=>bal'' w X
 have HK:Hid (∀W,Calls Tryz.prog 195 #[.int .i64 (-85)] W fun r w'=>r=.returned (.bool false)∧W=w'):=fun W=>known_any (-85) W
 have HK2:Hid (∀W,Calls Tryz.prog 195 #[.int .i64 43] W fun r w'=>r=.returned (.bool true)∧W=w'):=fun W=>known_any 43 W
 have hn2:¬n<2:=by omega
 have hn3:¬253<n:=by omega
 have HV:Hid (∀X,Calls Tryz.prog 196 #[.slice (some ⟨blk,off,none⟩) n c] (w.alloc X) (DecPost (w.alloc X) (decDev b))):=fun X=>dev_any _ n c b _ (HB.out.keep (bal'' w X)) h2 h3
 clear hb hbn y0 y0' h43
 go_enter Tryz.func176,Tryz.ntmps176
 go_wp2_with fail
 refine(HK.out _).mono ?_
 rintro r w1 ⟨rfl,rfl⟩
 go_wp2_with fail
 refine(HK2.out _).mono ?_
 rintro r w1 ⟨rfl,rfl⟩
 go_wp2_with fail
 refine(HV.out _).mono ?_
 rintro r w5 hp
 rcases hp with⟨x,da,dc,oa,oc,ho,rfl,hx,hb5⟩|⟨e,he1,he2,ho,rfl,hb5⟩
 ·have HS:Hid (Rp.dec b=some x):=HD.out.trans ho
  have HX:=hid hx
  have gZ5:w5.heap[w.heap.size]?=some (.cells #[.int .i64 0,.int .i64 0,.slice none 0 0,.int .i64 0,.int .i64 0,.bool false,.int .i64 0,.slice none 0 0] 53):=hpKeep (hpNew w _) hb5
  have hbw5:=bt (kA _) hb5 (Nat.le_refl _)
  clear ho hx
  go_wp2_with (refine wpList_storeW rfl 53 (.tmp 2) (.tmp 49) rfl w.heap.size 0 _ _ (#[.int .i64 x.fn,.int .i64 x.exc,.slice da x.data.length dc,.int .i64 x.code,.int .i64 x.level,.bool x.more,.int .i64 x.next,.slice oa x.objs.length oc]) rfl rfl gZ5 (by simp) (by kernel_rfl) (by rfl) ?_;intro w4 g4 hk4 hz4)
  obtain⟨q0,q1,q2,q3,q4,q5,q6,q7⟩:w4.cell? ⟨w.heap.size,0,none⟩=some (.int .i64 x.fn)∧w4.cell? ⟨w.heap.size,1,none⟩=some (.int .i64 x.exc)∧w4.cell? ⟨w.heap.size,2,none⟩=some (.slice da x.data.length dc)∧w4.cell? ⟨w.heap.size,3,none⟩=some (.int .i64 x.code)∧w4.cell? ⟨w.heap.size,4,none⟩=some (.int .i64 x.level)∧w4.cell? ⟨w.heap.size,5,none⟩=some (.bool x.more)∧w4.cell? ⟨w.heap.size,6,none⟩=some (.int .i64 x.next)∧w4.cell? ⟨w.heap.size,7,none⟩=some (.slice oa x.objs.length oc):=⟨hpCell g4 0,hpCell g4 1,hpCell g4 2,hpCell g4 3,hpCell g4 4,hpCell g4 5,hpCell g4 6,hpCell g4 7⟩
  refine bodyPost_ret (v:=.tuple #[.agg #[.int .i64 x.fn,.int .i64 x.exc,.slice da x.data.length dc,.int .i64 x.code,.int .i64 x.level,.bool x.more,.int .i64 x.next,.slice oa x.objs.length oc],.int .i64 0]) (by simp [results,Tryz.results176,go_sem,q0,q1,q2,q3,q4,q5,q6,q7]) rfl ?_
  refine DecPost.is HS.out (fun W hW=>HX.out W ?_) (hbw5.trans (hk4.below hbw5.size (fun k hk e=>by omega)))
  exact(Agree.of_keeps (B:=(w.alloc (.cells #[.int .i64 0,.int .i64 0,.slice none 0 0,.int .i64 0,.int .i64 0,.bool false,.int .i64 0,.slice none 0 0] 53)).heap.size) hk4 (fun k e=>by simp;omega)).trans (hW.mono (by simp))
 ·have HN:Hid (Rp.dec b=none):=HD.out.trans ho
  have gZ5:w5.heap[w.heap.size]?=some (.cells #[.int .i64 0,.int .i64 0,.slice none 0 0,.int .i64 0,.int .i64 0,.bool false,.int .i64 0,.slice none 0 0] 53):=hpKeep (hpNew w _) hb5
  have hbw5:=bt (kA _) hb5 (Nat.le_refl _)
  clear ho
  go_wp2_with (refine wpList_storeW rfl 53 (.tmp 2) (.tmp 49) rfl w.heap.size 0 _ _ (#[.int .i64 0,.int .i64 0,.slice none 0 0,.int .i64 0,.int .i64 0,.bool false,.int .i64 0,.slice none 0 0]) rfl rfl gZ5 (by simp) (by kernel_rfl) (by rfl) ?_;intro w4 g4 hk4 hz4)
  obtain⟨q0,q1,q2,q3,q4,q5,q6,q7⟩:w4.cell? ⟨w.heap.size,0,none⟩=some (.int .i64 0)∧w4.cell? ⟨w.heap.size,1,none⟩=some (.int .i64 0)∧w4.cell? ⟨w.heap.size,2,none⟩=some (.slice none 0 0)∧w4.cell? ⟨w.heap.size,3,none⟩=some (.int .i64 0)∧w4.cell? ⟨w.heap.size,4,none⟩=some (.int .i64 0)∧w4.cell? ⟨w.heap.size,5,none⟩=some (.bool false)∧w4.cell? ⟨w.heap.size,6,none⟩=some (.int .i64 0)∧w4.cell? ⟨w.heap.size,7,none⟩=some (.slice none 0 0):=⟨hpCell g4 0,hpCell g4 1,hpCell g4 2,hpCell g4 3,hpCell g4 4,hpCell g4 5,hpCell g4 6,hpCell g4 7⟩
  refine bodyPost_ret (v:=.tuple #[.agg #[.int .i64 0,.int .i64 0,.slice none 0 0,.int .i64 0,.int .i64 0,.bool false,.int .i64 0,.slice none 0 0],.int .i64 e]) (by simp [results,Tryz.results176,go_sem,q0,q1,q2,q3,q4,q5,q6,q7]) rfl ?_
  exact DecPost.err HN.out e he1 he2 (hbw5.trans (hk4.below hbw5.size (fun k hk e=>by omega)))
theorem rdec_any (a:Option Addr) (n c:Nat) (b:List UInt8) (w:World) (hb:Bs w (.slice a n c) b):
  Calls Tryz.prog 176 #[.slice a n c] w (DecPost w (Rp.dec b)):=by
 by_cases h:n<2∨253<n
 ·exact rdecA a n c b w hb h
 ·cases hk:knownB (bAt b 0-128) with
  |true=>exact rdecB a n c b w hb (by omega) (by omega) hk
  |false=>
   cases hk2:knownB (bAt b 0) with
   |false=>exact rdecC a n c b w hb (by omega) (by omega) hk hk2
   |true=>
    by_cases h43:bAt b 0=43
    ·exact rdecD a n c b w hb (by omega) (by omega) h43
    ·exact rdecE a n c b w hb (by omega) (by omega) hk2 h43
theorem pread_any (qf qa qq qc qo:Int) (a:Option Addr) (n c:Nat) (b:List UInt8) (w:World) (hb:Bs w (.slice a n c) b):
  Calls Tryz.prog 147 #[.agg #[.int .i64 qf,.int .i64 qa,.int .i64 qq,.int .i64 qc,.int .i64 qo],.slice a n c] w (RdOne w (readB ⟨qf,qa,qq,qc,qo⟩ b)):=by
 have kB:∀X Y,Below w.heap.size w ((w.alloc X).alloc Y):=fun X Y=>bta (bal' w X) (Nat.le_refl _) Y
 obtain⟨V,hV⟩:∃V,Rq.ok ⟨qf,qa,qq,qc,qo⟩=V:=⟨_,rfl⟩
 have HQ:Hid (∀W,Calls Tryz.prog 121 #[.agg #[.int .i64 qf,.int .i64 qa,.int .i64 qq,.int .i64 qc,.int .i64 qo]] W fun r w'=>r=.returned (.bool V)∧Below W.heap.size W w'):=fun W=>by rw[←hV];exact pqvalid_any qf qa qq qc qo W
 have HH:=hid (show ((w.alloc (.cells #[.int .i64 qf,.int .i64 qa,.int .i64 qq,.int .i64 qc,.int .i64 qo] 45)).alloc (.cells #[.int .i64 0,.int .i64 0,.slice none 0 0,.int .i64 0,.int .i64 0,.bool false,.int .i64 0,.slice none 0 0] 53)).heap[w.heap.size]?=some (.cells #[.int .i64 qf,.int .i64 qa,.int .i64 qq,.int .i64 qc,.int .i64 qo] 45)∧((w.alloc (.cells #[.int .i64 qf,.int .i64 qa,.int .i64 qq,.int .i64 qc,.int .i64 qo] 45)).alloc (.cells #[.int .i64 0,.int .i64 0,.slice none 0 0,.int .i64 0,.int .i64 0,.bool false,.int .i64 0,.slice none 0 0] 53)).heap[w.heap.size+1]?=some (.cells #[.int .i64 0,.int .i64 0,.slice none 0 0,.int .i64 0,.int .i64 0,.bool false,.int .i64 0,.slice none 0 0] 53) from ⟨hpKeep (hpNew w _) (bal' _ _),by have:=hpNew (w.alloc (.cells #[.int .i64 qf,.int .i64 qa,.int .i64 qq,.int .i64 qc,.int .i64 qo] 45)) (.cells #[.int .i64 0,.int .i64 0,.slice none 0 0,.int .i64 0,.int .i64 0,.bool false,.int .i64 0,.slice none 0 0] 53);simpa using this⟩)
 have HD:Hid (∀W,Below w.heap.size w W→Calls Tryz.prog 176 #[.slice a n c] W (RdOne W (Rp.dec b))):=fun W hW=>(rdec_any a n c b W (hb.keep hW)).mono fun _ _ h=>h.one
 clear hb
 obtain⟨D,hD⟩:∃D,Rp.dec b=D:=⟨_,rfl⟩
 obtain⟨O,hO⟩:∃O,readB ⟨qf,qa,qq,qc,qo⟩ b=O:=⟨_,rfl⟩
 rw[hO]
 unfold readB at hO
 rw[hV,hD] at hO
 rw[hD] at HD
 cases V with
 |false=>
  rw[if_neg (by decide)] at hO
  subst hO
  clear hV hD
  go_enter Tryz.func147,Tryz.ntmps147
  go_wp2_with fail
  refine(HQ.out _).mono ?_
  rintro r w1 ⟨rfl,hb1⟩
  have hbw1:=bt (kB _ _) hb1 (Nat.le_refl _)
  have gZ1:=hpKeep HH.out.2 hb1
  clear kB hb1
  go_wp2_with (refine wpList_storeW rfl 53 (.tmp 4) (.tmp 11) rfl (w.heap.size+1) 0 _ _ (#[.int .i64 0,.int .i64 0,.slice none 0 0,.int .i64 0,.int .i64 0,.bool false,.int .i64 0,.slice none 0 0]) rfl rfl gZ1 (by simp) (by kernel_rfl) (by rfl) ?_;intro w4 g4 hk4 hz4)
  obtain⟨q0,q1,q2,q3,q4,q5,q6,q7⟩:w4.cell? ⟨(w.heap.size+1),0,none⟩=some (.int .i64 0)∧w4.cell? ⟨(w.heap.size+1),1,none⟩=some (.int .i64 0)∧w4.cell? ⟨(w.heap.size+1),2,none⟩=some (.slice none 0 0)∧w4.cell? ⟨(w.heap.size+1),3,none⟩=some (.int .i64 0)∧w4.cell? ⟨(w.heap.size+1),4,none⟩=some (.int .i64 0)∧w4.cell? ⟨(w.heap.size+1),5,none⟩=some (.bool false)∧w4.cell? ⟨(w.heap.size+1),6,none⟩=some (.int .i64 0)∧w4.cell? ⟨(w.heap.size+1),7,none⟩=some (.slice none 0 0):=⟨hpCell g4 0,hpCell g4 1,hpCell g4 2,hpCell g4 3,hpCell g4 4,hpCell g4 5,hpCell g4 6,hpCell g4 7⟩
  refine bodyPost_ret (v:=.tuple #[.agg #[.int .i64 0,.int .i64 0,.slice none 0 0,.int .i64 0,.int .i64 0,.bool false,.int .i64 0,.slice none 0 0],.int .i64 5]) (by simp [results,Tryz.results147,go_sem,q0,q1,q2,q3,q4,q5,q6,q7]) rfl ?_
  exact RdOne.err rfl 5 (by decide) (by decide) (hbw1.trans (hk4.below hbw1.size (fun k hk e=>by omega)))
 |true=>
  rw[if_pos rfl] at hO
  replace hO:=hid hO
  clear hD
  go_enter Tryz.func147,Tryz.ntmps147
  go_wp2_with fail
  refine(HQ.out _).mono ?_
  rintro r w1 ⟨rfl,hb1⟩
  have hbw1:=bt (kB _ _) hb1 (Nat.le_refl _)
  have gZ1:=hpKeep HH.out.2 hb1
  have gQ1:=hpKeep HH.out.1 hb1
  clear kB hb1
  go_wp2_with fail
  refine(HD.out _ hbw1).mono ?_
  rintro r w2 ⟨x,da,dc,oa,oc,e,rfl,hb2,hx,hcs⟩
  have hbw2:=bt hbw1 hb2 (Nat.le_refl _)
  have gZ2:=hpKeep gZ1 hb2
  have gQ2:=hpKeep gQ1 hb2
  have hlt2:w.heap.size+1<w2.heap.size:=(Array.getElem?_eq_some_iff.1 gZ2).1
  have hlt1:w.heap.size+1<w1.heap.size:=(Array.getElem?_eq_some_iff.1 gZ1).1
  replace hx:=hid hx
  replace hcs:=hid hcs
  clear gZ1 gQ1 hb2 hbw1
  have hne:¬(fun k=>k=w2.heap.size) (w.heap.size+1):=fun h=>by have h':w.heap.size+1=w2.heap.size:=h;omega
  have hne0:¬(fun k=>k=w2.heap.size) w.heap.size:=fun h=>by have h':w.heap.size=w2.heap.size:=h;omega
  have HB3:Hid (∀X W,Keeps (· =w2.heap.size) (w2.alloc X) W→Below w.heap.size w W∧Agree w1.heap.size w2 W):=fun X W h=>⟨(bta hbw2 (Nat.le_refl _) _).trans (h.below (by have:=hbw2.size;simp;omega) (fun k hk e=>by omega)),Agree.of_new h⟩
  have gZA:∀X,(w2.alloc X).heap[w.heap.size+1]?=some (.cells #[.int .i64 0,.int .i64 0,.slice none 0 0,.int .i64 0,.int .i64 0,.bool false,.int .i64 0,.slice none 0 0] 53):=fun X=>hpKeep gZ2 (bal' _ _)
  have gQA:∀X,(w2.alloc X).heap[w.heap.size]?=some (.cells #[.int .i64 qf,.int .i64 qa,.int .i64 qq,.int .i64 qc,.int .i64 qo] 45):=fun X=>hpKeep gQ2 (bal' _ _)
  have gX:=hpNew w2 (.cells #[.int .i64 0,.int .i64 0,.slice none 0 0,.int .i64 0,.int .i64 0,.bool false,.int .i64 0,.slice none 0 0] 53)
  rcases hcs.out with⟨rfl,hDs⟩|⟨he,he1,he2,hDn,hzz⟩
  ·obtain ⟨V2,hV2⟩:∃V2,matchB ⟨qf,qa,qq,qc,qo⟩ x=V2:=⟨_,rfl⟩
   have hO':=hO.out
   rw[hDs] at hO'
   simp only at hO'
   rw[hV2] at hO'
   clear hO hDs hcs
   by_cases hf:x.fn=qf
   ·have hf':(x.fn !=qf)=false:=by rw[bne_eq_false_iff_eq];exact hf
    have HM:Hid (∀X W,Keeps (· =w2.heap.size) (w2.alloc X) W→Calls Tryz.prog 177 #[.agg #[.int .i64 qf,.int .i64 qa,.int .i64 qq,.int .i64 qc,.int .i64 qo],.agg #[.int .i64 x.fn,.int .i64 x.exc,.slice da x.data.length dc,.int .i64 x.code,.int .i64 x.level,.bool x.more,.int .i64 x.next,.slice oa x.objs.length oc]] W fun r w'=>r=.returned (.bool V2)∧Below W.heap.size W w'):=fun X W h=>by
     have hr:=hx.out W (Agree.of_new h)
     rw[←hV2]
     exact pmatch_any W qf qa qq qc qo x.fn x.exc da _ dc x.code x.level x.more x.next oa _ oc x.data x.objs hr.d hr.o hr.hi hr.lo
    have hf0:=hid hf
    clear hf hV2
    have HS:Hid (O=if V2=true then some x else none):=by
     show _=_
     rw[←hO']
     cases V2<;>simp [hf0.out]
    clear hO'
    go_wp2_with (first|(refine wpList_storeW rfl 53 (.tmp 6) (.tmp 15) rfl w2.heap.size 0 _ _ (#[.int .i64 x.fn,.int .i64 x.exc,.slice da x.data.length dc,.int .i64 x.code,.int .i64 x.level,.bool x.more,.int .i64 x.next,.slice oa x.objs.length oc]) rfl rfl gX (by simp) (by kernel_rfl) (by rfl) ?_;intro w3 g3 hk3 hz3;have gZ3:=hpKeeps (gZA _) hk3 hne;have gQ3:=hpKeeps (gQA _) hk3 hne0;have hb3:=HB3.out _ _ hk3;have c0:=hpCell g3 0;have c1:=hpCell g3 1;have c2:=hpCell g3 2;have c3:=hpCell g3 3;have c4:=hpCell g3 4;have c5:=hpCell g3 5;have c6:=hpCell g3 6;have c7:=hpCell g3 7;have z0:=hpCell gQ3 0;have z1:=hpCell gQ3 1;have z2:=hpCell gQ3 2;have z3:=hpCell gQ3 3;have z4:=hpCell gQ3 4)|fail)
    refine(HM.out _ _ hk3).mono ?_
    rintro r w3b ⟨rfl,hb3b⟩
    have gZ4:=hpKeep gZ3 hb3b
    have gX4:=hpKeep g3 hb3b
    have hb4:=bt hb3.1 hb3b (Nat.le_refl _)
    have HA4:Hid (Agree w1.heap.size w2 w3b):=hb3.2.trans (Agree.of_below hb3b)
    clear c0 c1 c2 c3 c4 c5 c6 c7 z0 z1 z2 z3 z4 gZ3 gQ3 hb3 hb3b HM
    cases V2 with
    |false=>
     have HN:Hid (O=none):=by show _=_;rw[HS.out];rfl
     clear HS
     go_wp2_with (refine wpList_storeW rfl 53 (.tmp 4) (.tmp 34) rfl (w.heap.size+1) 0 _ _ (#[.int .i64 0,.int .i64 0,.slice none 0 0,.int .i64 0,.int .i64 0,.bool false,.int .i64 0,.slice none 0 0]) rfl rfl gZ4 (by simp) (by kernel_rfl) (by rfl) ?_;intro w4 g4 hk4 hz4)
     obtain⟨q0,q1,q2,q3,q4,q5,q6,q7⟩:w4.cell? ⟨(w.heap.size+1),0,none⟩=some (.int .i64 0)∧w4.cell? ⟨(w.heap.size+1),1,none⟩=some (.int .i64 0)∧w4.cell? ⟨(w.heap.size+1),2,none⟩=some (.slice none 0 0)∧w4.cell? ⟨(w.heap.size+1),3,none⟩=some (.int .i64 0)∧w4.cell? ⟨(w.heap.size+1),4,none⟩=some (.int .i64 0)∧w4.cell? ⟨(w.heap.size+1),5,none⟩=some (.bool false)∧w4.cell? ⟨(w.heap.size+1),6,none⟩=some (.int .i64 0)∧w4.cell? ⟨(w.heap.size+1),7,none⟩=some (.slice none 0 0):=⟨hpCell g4 0,hpCell g4 1,hpCell g4 2,hpCell g4 3,hpCell g4 4,hpCell g4 5,hpCell g4 6,hpCell g4 7⟩
     refine bodyPost_ret (v:=.tuple #[.agg #[.int .i64 0,.int .i64 0,.slice none 0 0,.int .i64 0,.int .i64 0,.bool false,.int .i64 0,.slice none 0 0],.int .i64 17]) (by simp [results,Tryz.results147,go_sem,q0,q1,q2,q3,q4,q5,q6,q7]) rfl ?_
     exact RdOne.err HN.out 17 (by decide) (by decide) (hb4.trans (hk4.below hb4.size (fun k hk e=>by omega)))
    |true=>
     have HS2:Hid (O=some x):=by show _=_;rw[HS.out];rfl
     clear HS
     obtain⟨e0,e1,e2,e3,e4,e5,e6,e7⟩:w3b.cell? ⟨w2.heap.size,0,none⟩=some (.int .i64 x.fn)∧w3b.cell? ⟨w2.heap.size,1,none⟩=some (.int .i64 x.exc)∧w3b.cell? ⟨w2.heap.size,2,none⟩=some (.slice da x.data.length dc)∧w3b.cell? ⟨w2.heap.size,3,none⟩=some (.int .i64 x.code)∧w3b.cell? ⟨w2.heap.size,4,none⟩=some (.int .i64 x.level)∧w3b.cell? ⟨w2.heap.size,5,none⟩=some (.bool x.more)∧w3b.cell? ⟨w2.heap.size,6,none⟩=some (.int .i64 x.next)∧w3b.cell? ⟨w2.heap.size,7,none⟩=some (.slice oa x.objs.length oc):=⟨hpCell gX4 0,hpCell gX4 1,hpCell gX4 2,hpCell gX4 3,hpCell gX4 4,hpCell gX4 5,hpCell gX4 6,hpCell gX4 7⟩
     go_wp2_with (refine wpList_storeW rfl 53 (.tmp 4) (.tmp 35) rfl (w.heap.size+1) 0 _ _ (#[.int .i64 x.fn,.int .i64 x.exc,.slice da x.data.length dc,.int .i64 x.code,.int .i64 x.level,.bool x.more,.int .i64 x.next,.slice oa x.objs.length oc]) rfl rfl gZ4 (by simp) (by kernel_rfl) (by rfl) ?_;intro w4 g4 hk4 hz4)
     clear e0 e1 e2 e3 e4 e5 e6 e7
     obtain⟨q0,q1,q2,q3,q4,q5,q6,q7⟩:w4.cell? ⟨(w.heap.size+1),0,none⟩=some (.int .i64 x.fn)∧w4.cell? ⟨(w.heap.size+1),1,none⟩=some (.int .i64 x.exc)∧w4.cell? ⟨(w.heap.size+1),2,none⟩=some (.slice da x.data.length dc)∧w4.cell? ⟨(w.heap.size+1),3,none⟩=some (.int .i64 x.code)∧w4.cell? ⟨(w.heap.size+1),4,none⟩=some (.int .i64 x.level)∧w4.cell? ⟨(w.heap.size+1),5,none⟩=some (.bool x.more)∧w4.cell? ⟨(w.heap.size+1),6,none⟩=some (.int .i64 x.next)∧w4.cell? ⟨(w.heap.size+1),7,none⟩=some (.slice oa x.objs.length oc):=⟨hpCell g4 0,hpCell g4 1,hpCell g4 2,hpCell g4 3,hpCell g4 4,hpCell g4 5,hpCell g4 6,hpCell g4 7⟩
     refine bodyPost_ret (v:=.tuple #[.agg #[.int .i64 x.fn,.int .i64 x.exc,.slice da x.data.length dc,.int .i64 x.code,.int .i64 x.level,.bool x.more,.int .i64 x.next,.slice oa x.objs.length oc],.int .i64 0]) (by simp [results,Tryz.results147,go_sem,q0,q1,q2,q3,q4,q5,q6,q7]) rfl ?_
     refine⟨x,da,dc,oa,oc,0,rfl,hb4.trans (hk4.below hb4.size (fun k hk e=>by omega)),fun W hW=>?_,.inl ⟨rfl,HS2.out⟩⟩
     exact hx.out W (HA4.out.trans ((Agree.of_keeps hk4 (fun k e=>by omega)).trans (hW.mono (by omega))))
   ·have hf':(x.fn !=qf)=true:=by rw[bne_iff_ne];exact hf
    have HN:Hid (O=none):=by
     show _=_
     rw[←hO',if_neg (fun h=>hf h.1)]
    clear hf hO' hV2 V2
    go_wp2_with (first|(refine wpList_storeW rfl 53 (.tmp 6) (.tmp 15) rfl w2.heap.size 0 _ _ (#[.int .i64 x.fn,.int .i64 x.exc,.slice da x.data.length dc,.int .i64 x.code,.int .i64 x.level,.bool x.more,.int .i64 x.next,.slice oa x.objs.length oc]) rfl rfl gX (by simp) (by kernel_rfl) (by rfl) ?_;intro w3 g3 hk3 hz3;have gZ3:=hpKeeps (gZA _) hk3 hne;have hb4:=(HB3.out _ _ hk3).1;have c0:=hpCell g3 0;have z0:=hpCell (hpKeeps (gQA _) hk3 hne0) 0)|(refine wpList_storeW rfl 53 (.tmp 4) (.tmp 28) rfl (w.heap.size+1) 0 _ _ (#[.int .i64 0,.int .i64 0,.slice none 0 0,.int .i64 0,.int .i64 0,.bool false,.int .i64 0,.slice none 0 0]) rfl rfl gZ3 (by simp) (by kernel_rfl) (by rfl) ?_;intro w4 g4 hk4 hz4))
    obtain⟨q0,q1,q2,q3,q4,q5,q6,q7⟩:w4.cell? ⟨(w.heap.size+1),0,none⟩=some (.int .i64 0)∧w4.cell? ⟨(w.heap.size+1),1,none⟩=some (.int .i64 0)∧w4.cell? ⟨(w.heap.size+1),2,none⟩=some (.slice none 0 0)∧w4.cell? ⟨(w.heap.size+1),3,none⟩=some (.int .i64 0)∧w4.cell? ⟨(w.heap.size+1),4,none⟩=some (.int .i64 0)∧w4.cell? ⟨(w.heap.size+1),5,none⟩=some (.bool false)∧w4.cell? ⟨(w.heap.size+1),6,none⟩=some (.int .i64 0)∧w4.cell? ⟨(w.heap.size+1),7,none⟩=some (.slice none 0 0):=⟨hpCell g4 0,hpCell g4 1,hpCell g4 2,hpCell g4 3,hpCell g4 4,hpCell g4 5,hpCell g4 6,hpCell g4 7⟩
    refine bodyPost_ret (v:=.tuple #[.agg #[.int .i64 0,.int .i64 0,.slice none 0 0,.int .i64 0,.int .i64 0,.bool false,.int .i64 0,.slice none 0 0],.int .i64 16]) (by simp [results,Tryz.results147,go_sem,q0,q1,q2,q3,q4,q5,q6,q7]) rfl ?_
    exact RdOne.err HN.out 16 (by decide) (by decide) (hb4.trans (hk4.below hb4.size (fun k hk e=>by omega)))
  ·have he':(e !=0)=true:=by rw[bne_iff_ne];exact he
   have HN:Hid (O=none):=by show _=_;rw[←hO.out,hDn]
   clear he hDn hcs hzz
   go_wp2_with (first|(refine wpList_storeW rfl 53 (.tmp 6) (.tmp 15) rfl w2.heap.size 0 _ _ (#[.int .i64 x.fn,.int .i64 x.exc,.slice da x.data.length dc,.int .i64 x.code,.int .i64 x.level,.bool x.more,.int .i64 x.next,.slice oa x.objs.length oc]) rfl rfl gX (by simp) (by kernel_rfl) (by rfl) ?_;intro w3 g3 hk3 hz3;have gZ3:=hpKeeps (gZA _) hk3 hne;have hb3:=HB3.out _ _ hk3)|(refine wpList_storeW rfl 53 (.tmp 4) (.tmp 20) rfl (w.heap.size+1) 0 _ _ (#[.int .i64 0,.int .i64 0,.slice none 0 0,.int .i64 0,.int .i64 0,.bool false,.int .i64 0,.slice none 0 0]) rfl rfl gZ3 (by simp) (by kernel_rfl) (by rfl) ?_;intro w4 g4 hk4 hz4))
   obtain⟨q0,q1,q2,q3,q4,q5,q6,q7⟩:w4.cell? ⟨(w.heap.size+1),0,none⟩=some (.int .i64 0)∧w4.cell? ⟨(w.heap.size+1),1,none⟩=some (.int .i64 0)∧w4.cell? ⟨(w.heap.size+1),2,none⟩=some (.slice none 0 0)∧w4.cell? ⟨(w.heap.size+1),3,none⟩=some (.int .i64 0)∧w4.cell? ⟨(w.heap.size+1),4,none⟩=some (.int .i64 0)∧w4.cell? ⟨(w.heap.size+1),5,none⟩=some (.bool false)∧w4.cell? ⟨(w.heap.size+1),6,none⟩=some (.int .i64 0)∧w4.cell? ⟨(w.heap.size+1),7,none⟩=some (.slice none 0 0):=⟨hpCell g4 0,hpCell g4 1,hpCell g4 2,hpCell g4 3,hpCell g4 4,hpCell g4 5,hpCell g4 6,hpCell g4 7⟩
   refine bodyPost_ret (v:=.tuple #[.agg #[.int .i64 0,.int .i64 0,.slice none 0 0,.int .i64 0,.int .i64 0,.bool false,.int .i64 0,.slice none 0 0],.int .i64 e]) (by simp [results,Tryz.results147,go_sem,q0,q1,q2,q3,q4,q5,q6,q7]) rfl ?_
   exact RdOne.err HN.out e he1 he2 (hb3.1.trans (hk4.below hb3.1.size (fun k hk e=>by omega)))
end Go.Proofs.YtoaoejaodhedaaaGreat
