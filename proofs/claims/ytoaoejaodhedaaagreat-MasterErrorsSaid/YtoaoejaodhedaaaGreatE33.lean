/-
 Texts 33 of the claim.
-/
import Derived.Test.YtoaoejaodhedaaaGreatE18
import Derived.Test.YtoaoejaodhedaaaGreatE32
import Derived.Test.YtoaoejaodhedaaaGreatE16
namespace Go.Proofs.YtoaoejaodhedaaaGreat
open Go.RowKit
set_option maxHeartbeats 6400000
set_option maxRecDepth 100000
theorem pjudge_any (unit qf qa qq qc qo:Int) (ba:Option Addr) (bn bc:Nat) (f1 f2 flags:Int) (b:List UInt8) (w:World) (hb:Bs w (.slice ba bn bc) b):
    Calls Tryz.prog 109 #[.int .i64 unit,.agg #[.int .i64 qf,.int .i64 qa,.int .i64 qq,.int .i64 qc,.int .i64 qo],.agg #[.slice ba bn bc,.int .i64 f1,.int .i64 f2,.int .i64 flags]] w (OcOne w (judgeB crcChk unit ⟨qf,qa,qq,qc,qo⟩ flags b)):=by
  have HB0:=hid (show Below w.heap.size w ((((w.alloc (.cells #[.int .i64 qf,.int .i64 qa,.int .i64 qq,.int .i64 qc,.int .i64 qo] 45)).alloc (.cells #[.slice ba bn bc,.int .i64 f1,.int .i64 f2,.int .i64 flags] 179)).alloc (.cells #[.int .i64 0,.int .i64 0,.int .i64 0,.slice none 0 0,.int .i64 0,.int .i64 0,.bool false,.int .i64 0,.slice none 0 0] 55)).alloc (.cells #[.int .i64 4,.int .i64 0,.int .i64 0,.slice none 0 0,.int .i64 0,.int .i64 0,.bool false,.int .i64 0,.slice none 0 0] 55)) from bta (bta (bta (bal' w _) (Nat.le_refl _) _) (Nat.le_refl _) _) (Nat.le_refl _) _)
  have HH:=hid (show ((((w.alloc (.cells #[.int .i64 qf,.int .i64 qa,.int .i64 qq,.int .i64 qc,.int .i64 qo] 45)).alloc (.cells #[.slice ba bn bc,.int .i64 f1,.int .i64 f2,.int .i64 flags] 179)).alloc (.cells #[.int .i64 0,.int .i64 0,.int .i64 0,.slice none 0 0,.int .i64 0,.int .i64 0,.bool false,.int .i64 0,.slice none 0 0] 55)).alloc (.cells #[.int .i64 4,.int .i64 0,.int .i64 0,.slice none 0 0,.int .i64 0,.int .i64 0,.bool false,.int .i64 0,.slice none 0 0] 55)).heap[w.heap.size]?=some (.cells #[.int .i64 qf,.int .i64 qa,.int .i64 qq,.int .i64 qc,.int .i64 qo] 45)∧((((w.alloc (.cells #[.int .i64 qf,.int .i64 qa,.int .i64 qq,.int .i64 qc,.int .i64 qo] 45)).alloc (.cells #[.slice ba bn bc,.int .i64 f1,.int .i64 f2,.int .i64 flags] 179)).alloc (.cells #[.int .i64 0,.int .i64 0,.int .i64 0,.slice none 0 0,.int .i64 0,.int .i64 0,.bool false,.int .i64 0,.slice none 0 0] 55)).alloc (.cells #[.int .i64 4,.int .i64 0,.int .i64 0,.slice none 0 0,.int .i64 0,.int .i64 0,.bool false,.int .i64 0,.slice none 0 0] 55)).heap[w.heap.size+1]?=some (.cells #[.slice ba bn bc,.int .i64 f1,.int .i64 f2,.int .i64 flags] 179)∧((((w.alloc (.cells #[.int .i64 qf,.int .i64 qa,.int .i64 qq,.int .i64 qc,.int .i64 qo] 45)).alloc (.cells #[.slice ba bn bc,.int .i64 f1,.int .i64 f2,.int .i64 flags] 179)).alloc (.cells #[.int .i64 0,.int .i64 0,.int .i64 0,.slice none 0 0,.int .i64 0,.int .i64 0,.bool false,.int .i64 0,.slice none 0 0] 55)).alloc (.cells #[.int .i64 4,.int .i64 0,.int .i64 0,.slice none 0 0,.int .i64 0,.int .i64 0,.bool false,.int .i64 0,.slice none 0 0] 55)).heap[w.heap.size+2]?=some (.cells #[.int .i64 0,.int .i64 0,.int .i64 0,.slice none 0 0,.int .i64 0,.int .i64 0,.bool false,.int .i64 0,.slice none 0 0] 55)∧((((w.alloc (.cells #[.int .i64 qf,.int .i64 qa,.int .i64 qq,.int .i64 qc,.int .i64 qo] 45)).alloc (.cells #[.slice ba bn bc,.int .i64 f1,.int .i64 f2,.int .i64 flags] 179)).alloc (.cells #[.int .i64 0,.int .i64 0,.int .i64 0,.slice none 0 0,.int .i64 0,.int .i64 0,.bool false,.int .i64 0,.slice none 0 0] 55)).alloc (.cells #[.int .i64 4,.int .i64 0,.int .i64 0,.slice none 0 0,.int .i64 0,.int .i64 0,.bool false,.int .i64 0,.slice none 0 0] 55)).heap[w.heap.size+3]?=some (.cells #[.int .i64 4,.int .i64 0,.int .i64 0,.slice none 0 0,.int .i64 0,.int .i64 0,.bool false,.int .i64 0,.slice none 0 0] 55) from
    ⟨hpKeep (hpKeep (hpKeep (hpNew w _) (bal' _ _)) (bal' _ _)) (bal' _ _),
     hpKeep (hpKeep (by have:=hpNew (w.alloc (.cells #[.int .i64 qf,.int .i64 qa,.int .i64 qq,.int .i64 qc,.int .i64 qo] 45)) (.cells #[.slice ba bn bc,.int .i64 f1,.int .i64 f2,.int .i64 flags] 179);simpa using this) (bal' _ _)) (bal' _ _),
     hpKeep (by have:=hpNew ((w.alloc (.cells #[.int .i64 qf,.int .i64 qa,.int .i64 qq,.int .i64 qc,.int .i64 qo] 45)).alloc (.cells #[.slice ba bn bc,.int .i64 f1,.int .i64 f2,.int .i64 flags] 179)) (.cells #[.int .i64 0,.int .i64 0,.int .i64 0,.slice none 0 0,.int .i64 0,.int .i64 0,.bool false,.int .i64 0,.slice none 0 0] 55);simpa using this) (bal' _ _),
     by have:=hpNew (((w.alloc (.cells #[.int .i64 qf,.int .i64 qa,.int .i64 qq,.int .i64 qc,.int .i64 qo] 45)).alloc (.cells #[.slice ba bn bc,.int .i64 f1,.int .i64 f2,.int .i64 flags] 179)).alloc (.cells #[.int .i64 0,.int .i64 0,.int .i64 0,.slice none 0 0,.int .i64 0,.int .i64 0,.bool false,.int .i64 0,.slice none 0 0] 55)) (.cells #[.int .i64 4,.int .i64 0,.int .i64 0,.slice none 0 0,.int .i64 0,.int .i64 0,.bool false,.int .i64 0,.slice none 0 0] 55);simpa using this⟩)
  obtain⟨S,hS⟩:∃S,splitB crcChk b=S:=⟨_,rfl⟩
  have HS:Hid (∀W,Below w.heap.size w W→Calls Tryz.prog 146 #[.slice ba bn bc] W (SplitPost W S)):=fun W hW=>by rw[←hS];exact psplit_any ba bn bc b W (hb.keep hW)
  have HR:Hid (∀W pa pn pc p,Bs W (.slice pa pn pc) p→Calls Tryz.prog 147 #[.agg #[.int .i64 qf,.int .i64 qa,.int .i64 qq,.int .i64 qc,.int .i64 qo],.slice pa pn pc] W (RdOne W (readB ⟨qf,qa,qq,qc,qo⟩ p))):=fun W pa pn pc p h=>pread_any qf qa qq qc qo pa pn pc p W h
  obtain⟨O,hO⟩:∃O,judgeB crcChk unit ⟨qf,qa,qq,qc,qo⟩ flags b=O:=⟨_,rfl⟩
  rw[hO]
  unfold judgeB at hO
  rw[hS] at hO
  replace hO:=hid hO
  clear hS hb
  go_enter Tryz.func109,Tryz.ntmps109
  go_wp2_with fail
  refine(HS.out _ HB0.out).mono ?_
  rintro r w1 ⟨u,pa,pn,pc,e,rfl,hb1,hcs⟩
  have hcs:=hid hcs
  have gQ:=hpKeep HH.out.1 hb1
  have gF:=hpKeep HH.out.2.1 hb1
  have gZ:=hpKeep HH.out.2.2.1 hb1
  have gB:=hpKeep HH.out.2.2.2 hb1
  have hbw1:=bt HB0.out hb1 (Nat.le_refl _)
  have hlt1:w.heap.size+3<w1.heap.size:=(Array.getElem?_eq_some_iff.1 gB).1
  have yF:w1.cell? ⟨w.heap.size+1,3,none⟩=some (.int .i64 flags):=hpCell gF 3
  by_cases hbad:¬flags=0∨¬e=0∨¬u=unit
  · have HN:Hid (O=⟨4,Rp.zero⟩):=by
      show _=_
      rw[←hO.out]
      rcases hcs.out with⟨h1,p,h2,_⟩|⟨h1,h2⟩
      · rw[h2]
        simp only
        rw[if_neg (by omega)]
      · rw[h2]
    rename_i hcs0
    clear hcs0 hcs hO
    obtain⟨e0,e1,e2,e3,e4,e5,e6,e7,e8⟩:w1.cell? ⟨(w.heap.size+3),0,none⟩=some (.int .i64 4)∧w1.cell? ⟨(w.heap.size+3),1,none⟩=some (.int .i64 0)∧w1.cell? ⟨(w.heap.size+3),2,none⟩=some (.int .i64 0)∧w1.cell? ⟨(w.heap.size+3),3,none⟩=some (.slice none 0 0)∧w1.cell? ⟨(w.heap.size+3),4,none⟩=some (.int .i64 0)∧w1.cell? ⟨(w.heap.size+3),5,none⟩=some (.int .i64 0)∧w1.cell? ⟨(w.heap.size+3),6,none⟩=some (.bool false)∧w1.cell? ⟨(w.heap.size+3),7,none⟩=some (.int .i64 0)∧w1.cell? ⟨(w.heap.size+3),8,none⟩=some (.slice none 0 0):=⟨hpCell gB 0,hpCell gB 1,hpCell gB 2,hpCell gB 3,hpCell gB 4,hpCell gB 5,hpCell gB 6,hpCell gB 7,hpCell gB 8⟩
    rcases (show (flags !=0)=true∨((flags !=0)=false∧(e !=0)=true)∨((flags !=0)=false∧(e !=0)=false∧(u !=unit)=true) by
      by_cases c1:flags=0
      · by_cases c2:e=0
        · exact .inr (.inr ⟨by rw[bne_eq_false_iff_eq];exact c1,by rw[bne_eq_false_iff_eq];exact c2,by rw[bne_iff_ne];omega⟩)
        · exact .inr (.inl ⟨by rw[bne_eq_false_iff_eq];exact c1,by rw[bne_iff_ne];exact c2⟩)
      · exact .inl (by rw[bne_iff_ne];exact c1)) with c1|⟨c1,c2⟩|⟨c1,c2,c3⟩
    all_goals
      clear hbad
      go_wp2_with (refine wpList_storeW rfl 55 (.tmp 6) (.tmp 32) rfl (w.heap.size+2) 0 _ _ (#[.int .i64 4,.int .i64 0,.int .i64 0,.slice none 0 0,.int .i64 0,.int .i64 0,.bool false,.int .i64 0,.slice none 0 0]) rfl rfl gZ (by simp) (by kernel_rfl) (by rfl) ?_;intro w4 g4 hk4 hz4)
      clear e0 e1 e2 e3 e4 e5 e6 e7 e8
      obtain⟨q0,q1,q2,q3,q4,q5,q6,q7,q8⟩:w4.cell? ⟨(w.heap.size+2),0,none⟩=some (.int .i64 4)∧w4.cell? ⟨(w.heap.size+2),1,none⟩=some (.int .i64 0)∧w4.cell? ⟨(w.heap.size+2),2,none⟩=some (.int .i64 0)∧w4.cell? ⟨(w.heap.size+2),3,none⟩=some (.slice none 0 0)∧w4.cell? ⟨(w.heap.size+2),4,none⟩=some (.int .i64 0)∧w4.cell? ⟨(w.heap.size+2),5,none⟩=some (.int .i64 0)∧w4.cell? ⟨(w.heap.size+2),6,none⟩=some (.bool false)∧w4.cell? ⟨(w.heap.size+2),7,none⟩=some (.int .i64 0)∧w4.cell? ⟨(w.heap.size+2),8,none⟩=some (.slice none 0 0):=⟨hpCell g4 0,hpCell g4 1,hpCell g4 2,hpCell g4 3,hpCell g4 4,hpCell g4 5,hpCell g4 6,hpCell g4 7,hpCell g4 8⟩
      refine bodyPost_ret (v:=.agg #[.int .i64 4,.int .i64 0,.int .i64 0,.slice none 0 0,.int .i64 0,.int .i64 0,.bool false,.int .i64 0,.slice none 0 0]) (by simp [results,Tryz.results109,go_sem,q0,q1,q2,q3,q4,q5,q6,q7,q8]) rfl ?_
      exact OcOne.bare 4 HN.out (hbw1.trans (hk4.below hbw1.size (fun k hk e=>by omega)))
  · obtain⟨c1,c2,c3⟩:flags=0∧e=0∧u=unit:=by omega
    obtain⟨p,hSp,hP⟩:∃p,S=some (u,p)∧Hid (∀W,Agree (((((w.alloc (.cells #[.int .i64 qf,.int .i64 qa,.int .i64 qq,.int .i64 qc,.int .i64 qo] 45)).alloc (.cells #[.slice ba bn bc,.int .i64 f1,.int .i64 f2,.int .i64 flags] 179)).alloc (.cells #[.int .i64 0,.int .i64 0,.int .i64 0,.slice none 0 0,.int .i64 0,.int .i64 0,.bool false,.int .i64 0,.slice none 0 0] 55)).alloc (.cells #[.int .i64 4,.int .i64 0,.int .i64 0,.slice none 0 0,.int .i64 0,.int .i64 0,.bool false,.int .i64 0,.slice none 0 0] 55))).heap.size w1 W→Bs W (.slice pa pn pc) p):=by
      rcases hcs.out with⟨_,p,h2,h3⟩|⟨h1,_⟩
      · exact⟨p,h2,h3⟩
      · exact absurd c2 h1
    have HJ:Hid (judgeR (readB ⟨qf,qa,qq,qc,qo⟩ p)=O):=by
      show _=_
      rw[←hO.out,hSp]
      simp only
      rw[if_pos ⟨c1,c3⟩]
    rename_i hcs0
    clear hcs0 hcs hO hSp hbad HS
    subst c1 c2 c3
    have hu:(u !=u)=false:=by rw[bne_eq_false_iff_eq]
    obtain⟨R,hR⟩:∃R,readB ⟨qf,qa,qq,qc,qo⟩ p=R:=⟨_,rfl⟩
    have HRP:=hid (HR.out w1 pa pn pc p (hP.out w1 (Agree.refl _ _)))
    rw[hR] at HJ HRP
    clear hR HR hP
    obtain⟨y0,y1,y2,y3,y4⟩:w1.cell? ⟨w.heap.size,0,none⟩=some (.int .i64 qf)∧w1.cell? ⟨w.heap.size,1,none⟩=some (.int .i64 qa)∧w1.cell? ⟨w.heap.size,2,none⟩=some (.int .i64 qq)∧w1.cell? ⟨w.heap.size,3,none⟩=some (.int .i64 qc)∧w1.cell? ⟨w.heap.size,4,none⟩=some (.int .i64 qo):=⟨hpCell gQ 0,hpCell gQ 1,hpCell gQ 2,hpCell gQ 3,hpCell gQ 4⟩
    go_wp2_with fail
    refine HRP.out.mono ?_
    rintro r w2 ⟨x,da,dc,oa,oc,e,rfl,hb2,hx,hcs⟩
    replace hcs:=hid hcs
    have HX:=hid hx
    have hbw2:=bt hbw1 hb2 (Nat.le_refl _)
    have gZ2:=hpKeep gZ hb2
    have gB2:=hpKeep gB hb2
    have gZA:∀X,(w2.alloc X).heap[w.heap.size+2]?=some (.cells #[.int .i64 0,.int .i64 0,.int .i64 0,.slice none 0 0,.int .i64 0,.int .i64 0,.bool false,.int .i64 0,.slice none 0 0] 55):=fun X=>hpKeep gZ2 (bal' _ _)
    have HBA:Hid (∀X W,Keeps (· =w.heap.size+2) (w2.alloc X) W→Below w.heap.size w W∧Agree w1.heap.size w2 W):=fun X W h=>⟨(bta hbw2 (Nat.le_refl _) X).trans (h.below (by have:=hbw2.size;simp;omega) (fun k hk e=>by omega)),(Agree.of_below (bal' w2 X)).trans (Agree.of_keeps h (fun k e=>by omega))⟩
    clear hx gZ gB gQ gF y0 y1 y2 y3 y4 yF HH HB0 hb1
    by_cases he:e=0
    · have hRx:R=some x:=by
        rcases hcs.out with⟨_,h⟩|⟨h,_⟩
        · exact h
        · exact absurd he h
      subst hRx he
      have HJ2:Hid ((if x.exc=6 then (⟨5,Rp.zero⟩:Oc) else if x.exc=0 then ⟨1,x⟩ else ⟨2,x⟩)=O):=HJ.out
      clear hcs HJ HRP
      rcases (show x.exc=6∨((x.exc==6)=false∧x.exc=0)∨((x.exc==6)=false∧(x.exc !=0)=true) by
        by_cases d1:x.exc=6
        · exact .inl d1
        · by_cases d2:x.exc=0
          · exact .inr (.inl ⟨by rw[beq_eq_false_iff_ne];exact d1,d2⟩)
          · exact .inr (.inr ⟨by rw[beq_eq_false_iff_ne];exact d1,by rw[bne_iff_ne];exact d2⟩)) with d1|⟨d1,d2⟩|⟨d1,d2⟩
      · have HN:Hid (O=⟨5,Rp.zero⟩):=by show _=_;rw[←HJ2.out,if_pos d1]
        have d1':(x.exc==6)=true:=by rw[beq_iff_eq];exact d1
        clear HJ2 d1 HX
        go_wp2_with (refine wpList_storeW rfl 55 (.tmp 6) (.tmp 47) rfl (w.heap.size+2) 0 _ _ (#[.int .i64 5,.int .i64 0,.int .i64 0,.slice none 0 0,.int .i64 0,.int .i64 0,.bool false,.int .i64 0,.slice none 0 0]) rfl rfl (gZA _) (by simp) (by kernel_rfl) (by rfl) ?_;intro w4 g4 hk4 hz4)
        have hb4:=HBA.out _ _ hk4
        obtain⟨q0,q1,q2,q3,q4,q5,q6,q7,q8⟩:w4.cell? ⟨(w.heap.size+2),0,none⟩=some (.int .i64 5)∧w4.cell? ⟨(w.heap.size+2),1,none⟩=some (.int .i64 0)∧w4.cell? ⟨(w.heap.size+2),2,none⟩=some (.int .i64 0)∧w4.cell? ⟨(w.heap.size+2),3,none⟩=some (.slice none 0 0)∧w4.cell? ⟨(w.heap.size+2),4,none⟩=some (.int .i64 0)∧w4.cell? ⟨(w.heap.size+2),5,none⟩=some (.int .i64 0)∧w4.cell? ⟨(w.heap.size+2),6,none⟩=some (.bool false)∧w4.cell? ⟨(w.heap.size+2),7,none⟩=some (.int .i64 0)∧w4.cell? ⟨(w.heap.size+2),8,none⟩=some (.slice none 0 0):=⟨hpCell g4 0,hpCell g4 1,hpCell g4 2,hpCell g4 3,hpCell g4 4,hpCell g4 5,hpCell g4 6,hpCell g4 7,hpCell g4 8⟩
        refine bodyPost_ret (v:=.agg #[.int .i64 5,.int .i64 0,.int .i64 0,.slice none 0 0,.int .i64 0,.int .i64 0,.bool false,.int .i64 0,.slice none 0 0]) (by simp [results,Tryz.results109,go_sem,q0,q1,q2,q3,q4,q5,q6,q7,q8]) rfl ?_
        exact OcOne.bare 5 HN.out hb4.1
      · have HN:Hid (O=⟨1,x⟩):=by
          show _=_
          rw[←HJ2.out,if_neg (by rw[d2];decide),if_pos d2]
        have d2':(x.exc !=0)=false:=by rw[bne_eq_false_iff_eq];exact d2
        clear HJ2 d2
        go_wp2_with (refine wpList_storeW rfl 55 (.tmp 6) (.tmp 55) rfl (w.heap.size+2) 0 _ _ (#[.int .i64 1,.int .i64 x.fn,.int .i64 x.exc,.slice da x.data.length dc,.int .i64 x.code,.int .i64 x.level,.bool x.more,.int .i64 x.next,.slice oa x.objs.length oc]) rfl rfl (gZA _) (by simp) (by kernel_rfl) (by rfl) ?_;intro w4 g4 hk4 hz4)
        have hb4:=HBA.out _ _ hk4
        obtain⟨q0,q1,q2,q3,q4,q5,q6,q7,q8⟩:w4.cell? ⟨(w.heap.size+2),0,none⟩=some (.int .i64 1)∧w4.cell? ⟨(w.heap.size+2),1,none⟩=some (.int .i64 x.fn)∧w4.cell? ⟨(w.heap.size+2),2,none⟩=some (.int .i64 x.exc)∧w4.cell? ⟨(w.heap.size+2),3,none⟩=some (.slice da x.data.length dc)∧w4.cell? ⟨(w.heap.size+2),4,none⟩=some (.int .i64 x.code)∧w4.cell? ⟨(w.heap.size+2),5,none⟩=some (.int .i64 x.level)∧w4.cell? ⟨(w.heap.size+2),6,none⟩=some (.bool x.more)∧w4.cell? ⟨(w.heap.size+2),7,none⟩=some (.int .i64 x.next)∧w4.cell? ⟨(w.heap.size+2),8,none⟩=some (.slice oa x.objs.length oc):=⟨hpCell g4 0,hpCell g4 1,hpCell g4 2,hpCell g4 3,hpCell g4 4,hpCell g4 5,hpCell g4 6,hpCell g4 7,hpCell g4 8⟩
        refine bodyPost_ret (v:=.agg #[.int .i64 1,.int .i64 x.fn,.int .i64 x.exc,.slice da x.data.length dc,.int .i64 x.code,.int .i64 x.level,.bool x.more,.int .i64 x.next,.slice oa x.objs.length oc]) (by simp [results,Tryz.results109,go_sem,q0,q1,q2,q3,q4,q5,q6,q7,q8]) rfl ?_
        rw[HN.out]
        exact⟨da,dc,oa,oc,rfl,fun W hW=>HX.out W (hb4.2.trans (hW.mono hbw1.size)),hb4.1⟩
      · have HN:Hid (O=⟨2,x⟩):=by
          show _=_
          rw[beq_eq_false_iff_ne] at d1
          rw[bne_iff_ne] at d2
          rw[←HJ2.out,if_neg d1,if_neg d2]
        clear HJ2
        go_wp2_with (refine wpList_storeW rfl 55 (.tmp 6) (.tmp 53) rfl (w.heap.size+2) 0 _ _ (#[.int .i64 2,.int .i64 x.fn,.int .i64 x.exc,.slice da x.data.length dc,.int .i64 x.code,.int .i64 x.level,.bool x.more,.int .i64 x.next,.slice oa x.objs.length oc]) rfl rfl (gZA _) (by simp) (by kernel_rfl) (by rfl) ?_;intro w4 g4 hk4 hz4)
        have hb4:=HBA.out _ _ hk4
        obtain⟨q0,q1,q2,q3,q4,q5,q6,q7,q8⟩:w4.cell? ⟨(w.heap.size+2),0,none⟩=some (.int .i64 2)∧w4.cell? ⟨(w.heap.size+2),1,none⟩=some (.int .i64 x.fn)∧w4.cell? ⟨(w.heap.size+2),2,none⟩=some (.int .i64 x.exc)∧w4.cell? ⟨(w.heap.size+2),3,none⟩=some (.slice da x.data.length dc)∧w4.cell? ⟨(w.heap.size+2),4,none⟩=some (.int .i64 x.code)∧w4.cell? ⟨(w.heap.size+2),5,none⟩=some (.int .i64 x.level)∧w4.cell? ⟨(w.heap.size+2),6,none⟩=some (.bool x.more)∧w4.cell? ⟨(w.heap.size+2),7,none⟩=some (.int .i64 x.next)∧w4.cell? ⟨(w.heap.size+2),8,none⟩=some (.slice oa x.objs.length oc):=⟨hpCell g4 0,hpCell g4 1,hpCell g4 2,hpCell g4 3,hpCell g4 4,hpCell g4 5,hpCell g4 6,hpCell g4 7,hpCell g4 8⟩
        refine bodyPost_ret (v:=.agg #[.int .i64 2,.int .i64 x.fn,.int .i64 x.exc,.slice da x.data.length dc,.int .i64 x.code,.int .i64 x.level,.bool x.more,.int .i64 x.next,.slice oa x.objs.length oc]) (by simp [results,Tryz.results109,go_sem,q0,q1,q2,q3,q4,q5,q6,q7,q8]) rfl ?_
        rw[HN.out]
        exact⟨da,dc,oa,oc,rfl,fun W hW=>HX.out W (hb4.2.trans (hW.mono hbw1.size)),hb4.1⟩
    · have HN:Hid (O=⟨4,Rp.zero⟩):=by
        show _=_
        rw[←HJ.out]
        rcases hcs.out with⟨h,_⟩|⟨_,_,_,h,_⟩
        · exact absurd h he
        · rw[h];rfl
      have he':(e !=0)=true:=by rw[bne_iff_ne];exact he
      clear hcs HJ he HRP
      have gBA:∀X,(w2.alloc X).heap[w.heap.size+3]?=some (.cells #[.int .i64 4,.int .i64 0,.int .i64 0,.slice none 0 0,.int .i64 0,.int .i64 0,.bool false,.int .i64 0,.slice none 0 0] 55):=fun X=>hpKeep gB2 (bal' _ _)
      have gBX:=gBA (.cells #[.int .i64 x.fn,.int .i64 x.exc,.slice da x.data.length dc,.int .i64 x.code,.int .i64 x.level,.bool x.more,.int .i64 x.next,.slice oa x.objs.length oc] 53)
      obtain⟨e0,e1,e2,e3,e4,e5,e6,e7,e8⟩:(w2.alloc (.cells #[.int .i64 x.fn,.int .i64 x.exc,.slice da x.data.length dc,.int .i64 x.code,.int .i64 x.level,.bool x.more,.int .i64 x.next,.slice oa x.objs.length oc] 53)).cell? ⟨(w.heap.size+3),0,none⟩=some (.int .i64 4)∧(w2.alloc (.cells #[.int .i64 x.fn,.int .i64 x.exc,.slice da x.data.length dc,.int .i64 x.code,.int .i64 x.level,.bool x.more,.int .i64 x.next,.slice oa x.objs.length oc] 53)).cell? ⟨(w.heap.size+3),1,none⟩=some (.int .i64 0)∧(w2.alloc (.cells #[.int .i64 x.fn,.int .i64 x.exc,.slice da x.data.length dc,.int .i64 x.code,.int .i64 x.level,.bool x.more,.int .i64 x.next,.slice oa x.objs.length oc] 53)).cell? ⟨(w.heap.size+3),2,none⟩=some (.int .i64 0)∧(w2.alloc (.cells #[.int .i64 x.fn,.int .i64 x.exc,.slice da x.data.length dc,.int .i64 x.code,.int .i64 x.level,.bool x.more,.int .i64 x.next,.slice oa x.objs.length oc] 53)).cell? ⟨(w.heap.size+3),3,none⟩=some (.slice none 0 0)∧(w2.alloc (.cells #[.int .i64 x.fn,.int .i64 x.exc,.slice da x.data.length dc,.int .i64 x.code,.int .i64 x.level,.bool x.more,.int .i64 x.next,.slice oa x.objs.length oc] 53)).cell? ⟨(w.heap.size+3),4,none⟩=some (.int .i64 0)∧(w2.alloc (.cells #[.int .i64 x.fn,.int .i64 x.exc,.slice da x.data.length dc,.int .i64 x.code,.int .i64 x.level,.bool x.more,.int .i64 x.next,.slice oa x.objs.length oc] 53)).cell? ⟨(w.heap.size+3),5,none⟩=some (.int .i64 0)∧(w2.alloc (.cells #[.int .i64 x.fn,.int .i64 x.exc,.slice da x.data.length dc,.int .i64 x.code,.int .i64 x.level,.bool x.more,.int .i64 x.next,.slice oa x.objs.length oc] 53)).cell? ⟨(w.heap.size+3),6,none⟩=some (.bool false)∧(w2.alloc (.cells #[.int .i64 x.fn,.int .i64 x.exc,.slice da x.data.length dc,.int .i64 x.code,.int .i64 x.level,.bool x.more,.int .i64 x.next,.slice oa x.objs.length oc] 53)).cell? ⟨(w.heap.size+3),7,none⟩=some (.int .i64 0)∧(w2.alloc (.cells #[.int .i64 x.fn,.int .i64 x.exc,.slice da x.data.length dc,.int .i64 x.code,.int .i64 x.level,.bool x.more,.int .i64 x.next,.slice oa x.objs.length oc] 53)).cell? ⟨(w.heap.size+3),8,none⟩=some (.slice none 0 0):=⟨hpCell gBX 0,hpCell gBX 1,hpCell gBX 2,hpCell gBX 3,hpCell gBX 4,hpCell gBX 5,hpCell gBX 6,hpCell gBX 7,hpCell gBX 8⟩
      go_wp2_with (refine wpList_storeW rfl 55 (.tmp 6) (.tmp 42) rfl (w.heap.size+2) 0 _ _ (#[.int .i64 4,.int .i64 0,.int .i64 0,.slice none 0 0,.int .i64 0,.int .i64 0,.bool false,.int .i64 0,.slice none 0 0]) rfl rfl (gZA _) (by simp) (by kernel_rfl) (by rfl) ?_;intro w4 g4 hk4 hz4)
      have hb4:=HBA.out _ _ hk4
      clear e0 e1 e2 e3 e4 e5 e6 e7 e8
      obtain⟨q0,q1,q2,q3,q4,q5,q6,q7,q8⟩:w4.cell? ⟨(w.heap.size+2),0,none⟩=some (.int .i64 4)∧w4.cell? ⟨(w.heap.size+2),1,none⟩=some (.int .i64 0)∧w4.cell? ⟨(w.heap.size+2),2,none⟩=some (.int .i64 0)∧w4.cell? ⟨(w.heap.size+2),3,none⟩=some (.slice none 0 0)∧w4.cell? ⟨(w.heap.size+2),4,none⟩=some (.int .i64 0)∧w4.cell? ⟨(w.heap.size+2),5,none⟩=some (.int .i64 0)∧w4.cell? ⟨(w.heap.size+2),6,none⟩=some (.bool false)∧w4.cell? ⟨(w.heap.size+2),7,none⟩=some (.int .i64 0)∧w4.cell? ⟨(w.heap.size+2),8,none⟩=some (.slice none 0 0):=⟨hpCell g4 0,hpCell g4 1,hpCell g4 2,hpCell g4 3,hpCell g4 4,hpCell g4 5,hpCell g4 6,hpCell g4 7,hpCell g4 8⟩
      refine bodyPost_ret (v:=.agg #[.int .i64 4,.int .i64 0,.int .i64 0,.slice none 0 0,.int .i64 0,.int .i64 0,.bool false,.int .i64 0,.slice none 0 0]) (by simp [results,Tryz.results109,go_sem,q0,q1,q2,q3,q4,q5,q6,q7,q8]) rfl ?_
      exact OcOne.bare 4 HN.out hb4.1
end Go.Proofs.YtoaoejaodhedaaaGreat
