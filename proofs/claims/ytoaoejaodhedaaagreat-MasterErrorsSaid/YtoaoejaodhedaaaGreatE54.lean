import Derived.Test.YtoaoejaodhedaaaGreatE53
namespace Go.Proofs.YtoaoejaodhedaaaGreat
open Go.RowKit
set_option maxHeartbeats 6400000
set_option maxRecDepth 100000
theorem cellsRqM:Tryz.prog.cellsOf 45=5:=by kernel_rfl
theorem lst5M {α:Type} {l:List α} (h:l.length=5):∃a b c d e,l=[a,b,c,d,e]:=by
 match l,h with
 |[a,b,c,d,e],_=>exact⟨a,b,c,d,e,rfl⟩
theorem rq_rdM {w:World} {cs:List Value} (h:Rd Tryz.prog w 45 cs):∃a b c d e:Int,cs=[.int .i64 a,.int .i64 b,.int .i64 c,.int .i64 d,.int .i64 e]:=by
 obtain⟨hl,hf⟩:=h.struct Tryz.underlying45
 rw[cellsRqM] at hl
 obtain⟨c0,c1,c2,c3,c4,rfl⟩:=lst5M hl
 have f0:=hf _ (List.mem_cons_self ..)
 have f1:=hf _ (List.mem_cons_of_mem _ (List.mem_cons_self ..))
 have f2:=hf _ (List.mem_cons_of_mem _ (List.mem_cons_of_mem _ (List.mem_cons_self ..)))
 have f3:=hf _ (List.mem_cons_of_mem _ (List.mem_cons_of_mem _ (List.mem_cons_of_mem _ (List.mem_cons_self ..))))
 have f4:=hf _ (List.mem_cons_of_mem _ (List.mem_cons_of_mem _ (List.mem_cons_of_mem _ (List.mem_cons_of_mem _ (List.mem_cons_self ..)))))
 simp only[cellsInt,List.drop_zero,List.drop_succ_cons,List.take_succ_cons,List.take_zero] at f0 f1 f2 f3 f4
 obtain⟨n0,e0,_⟩:=Rd.int Tryz.underlying3 f0
 obtain⟨n1,e1,_⟩:=Rd.int Tryz.underlying3 f1
 obtain⟨n2,e2,_⟩:=Rd.int Tryz.underlying3 f2
 obtain⟨n3,e3,_⟩:=Rd.int Tryz.underlying3 f3
 obtain⟨n4,e4,_⟩:=Rd.int Tryz.underlying3 f4
 simp only[List.cons.injEq,and_true] at e0 e1 e2 e3 e4
 subst e0;subst e1;subst e2;subst e3;subst e4
 exact⟨n0,n1,n2,n3,n4,rfl⟩
theorem mlisten_nil (w:World):Calls Tryz.prog 23 #[.pointer none] w fun r w'=>r=.returned (.tuple #[.agg #[.int .i64 0,.int .i64 0,.int .i64 0,.slice none 0 0,.int .i64 0,.int .i64 0,.bool false,.int .i64 0,.slice none 0 0],.bool false])∧Below w.heap.size w w':=by
 obtain⟨W1,hW1⟩:∃W,w.alloc (.cells #[.int .i64 0,.int .i64 0,.int .i64 0,.slice none 0 0,.int .i64 0,.int .i64 0,.bool false,.int .i64 0,.slice none 0 0] 55)=W:=⟨_,rfl⟩
 have hb1:Below w.heap.size w W1:=by rw[←hW1];exact bal' w _
 have p1:W1.heap[w.heap.size]?=some (.cells #[.int .i64 0,.int .i64 0,.int .i64 0,.slice none 0 0,.int .i64 0,.int .i64 0,.bool false,.int .i64 0,.slice none 0 0] 55):=by rw[←hW1];exact hpNew w _
 have HW1:=hid hW1
 have HB1:=hid hb1
 clear hW1 hb1
 go_enter Tryz.func23,Tryz.ntmps23
 go_upto_region 1 with(fail)
 rw[HW1.out]
 go_wp2_with (refine wpList_storeW rfl 55 (.tmp 2) (.tmp 20) rfl w.heap.size 0 _ 55 #[.int .i64 0,.int .i64 0,.int .i64 0,.slice none 0 0,.int .i64 0,.int .i64 0,.bool false,.int .i64 0,.slice none 0 0] rfl rfl p1 (by simp) infoOc9 rfl ?_;intro wA gA hkA hzA)
 have gA':wA.heap[w.heap.size]?=some (.cells #[.int .i64 0,.int .i64 0,.int .i64 0,.slice none 0 0,.int .i64 0,.int .i64 0,.bool false,.int .i64 0,.slice none 0 0] 55):=gA
 refine bodyPost_ret (results_ct_row rfl _ _ w.heap.size 55 _ (0,0) _ rfl gA' Tryz.underlying55 rfl infoOc9) rfl ?_
 exact⟨rfl,HB1.out.trans (hkA.below HB1.out.size (fun j hj e=>by have e':j=w.heap.size:=e;omega))⟩
theorem mnow_nil (w:World):Calls Tryz.prog 28 #[.pointer none] w fun r w'=>r=.returned (.int .i64 0)∧w=w':=by
 go_enter Tryz.func28,Tryz.ntmps28
 go_wp2
 go_ret
 exact⟨rfl,rfl⟩
def MBg (gm gl:Nat) (P:Nat→Prop) (c:Cf) (sv:Value) (f:Fx) (y:Ms) (E:Int) (w:World) (r:Ending) (w':World):Prop:=r=.returned (.int .i64 E)∧(E≠0→Below w.heap.size w w')∧(E=0→∃gj k PL Q s,MsS gm gl gj k (GrowP P w w') PL Q c sv f y s w'∧Keeps P w w'∧k≤1)
theorem MBg.of {gm gl:Nat} {P:Nat→Prop} {c:Cf} {sv:Value} {f:Fx} {y:Ms} {E:Int} {w w':World} {r:Ending} (h:(E≠0→MNo E w r w')∧(E=0→MYes gm gl P c sv f y 1 w r w')):MBg gm gl P c sv f y E w r w':=by
 by_cases e:E=0
 ·obtain ⟨gj,k,PL,Q,s,rfl,h1,h2,h3⟩:=h.2 e
  exact⟨by rw[e],fun k=>absurd e k,fun _=>⟨gj,k,PL,Q,s,h1,h2,h3⟩⟩
 ·obtain ⟨rfl,hb⟩:=h.1 e
  exact⟨rfl,fun _=>hb,fun k=>absurd k e⟩
theorem Walk.masterErrors {w:World} (cs:Array Value) (hr:Rd Tryz.prog w 27 cs.toList) (tick:Int) (_:(Lit.int .i64 tick).wf=true) (st:Int) (_:(Lit.int .i64 st).wf=true) (un:Int) (_:(Lit.int .i64 un).wf=true) (qs:Array Value) (hq:Rd Tryz.prog w 45 qs.toList):
  Calls Tryz.prog 4 #[.agg cs,.int .i64 tick,.int .i64 st,.int .i64 un,.agg qs] w fun r w'=>r=.returned (.bool true)∧Below w.heap.size w w':=by
 obtain⟨c,sv,rfl,hrg,-⟩:=cf_rd hr
 obtain⟨ql⟩:=qs
 obtain⟨qf,qa,qq,qc,qo,hqe⟩:=rq_rdM hq
 dsimp only at hqe
 subst hqe
 clear hr hq
 obtain⟨sa,sc,hsl,-⟩:=id hrg
 obtain⟨n,hn⟩:∃n,c.sets.length=n:=⟨_,rfl⟩
 rw[hn] at hsl
 subst hsl
 obtain⟨C,hC⟩:∃C,CfC c (.slice sa n sc)=C:=⟨_,rfl⟩
 have hi:(Tryz.prog.info? 27).map (·.size)=some C.size:=by rw[←hC];exact infoCfM
 obtain⟨W2,hW2⟩:∃W,(w.alloc (.cells C 27)).alloc (.cells #[.int .i64 qf,.int .i64 qa,.int .i64 qq,.int .i64 qc,.int .i64 qo] 45)=W:=⟨_,rfl⟩
 have hb2:Below w.heap.size w W2:=by rw[←hW2];exact bta (bal' w _) (Nat.le_refl _) _
 have p0:W2.heap[w.heap.size]?=some (.cells C 27):=by rw[←hW2];exact kP (hpNew w _) (bal' _ _)
 have p1:W2.heap[w.heap.size+1]?=some (.cells #[.int .i64 qf,.int .i64 qa,.int .i64 qq,.int .i64 qc,.int .i64 qo] 45):=by
  rw[←hW2]
  have h:=hpNew (w.alloc (.cells C 27)) (.cells #[.int .i64 qf,.int .i64 qa,.int .i64 qq,.int .i64 qc,.int .i64 qo] 45)
  rw[World.size_alloc] at h
  exact h
 have c0:∀X,Below W2.heap.size W2 X→X.cell? ⟨w.heap.size,0,none⟩=some (.slice sa n sc):=fun X h=>by rw[cP (kP p0 h),←hC];rfl
 have HRG:=hid hrg
 have HW2:=hid hW2
 have HB2:=hid hb2
 have P0:=hid p0
 have P1:=hid p1
 have HZ2:Hid (W2.heap.size=w.heap.size+2):=by show _=_;rw[←hW2];simp
 have HC:=hid hC
 have HN:=hid hn
 rw[hC]
 clear hrg hW2 hb2 hC hn p0 p1
 go_enter Tryz.func4,Tryz.ntmps4
 go_upto_region 1 with(fail)
 rw[HW2.out]
 have c0':=c0 W2 (Below.refl _ _)
 by_cases h8:8<n
 ·have g1:decide ((8:Int)<(n:Int))=true:=dT (by omega)
  clear h8
  go_wp2_with (go_at_call 13;(with_reducible refine(aW _).mono ?_);rintro r wz ⟨rfl,hbz⟩)
  go_ret
  exact⟨rfl,bU HB2.out hbz⟩
 ·have g1:decide ((8:Int)<(n:Int))=false:=dF (by omega)
  have HLN:Hid (∀X,Calls Tryz.prog 24 #[.slice none 0 0,.agg #[.slice none 0 0,.bool false,.slice none 0 0]] X (LnMade X [] false [])):=fun X=>
   lnew_ok [] ⟨[],false,[]⟩ none 0 0 _ _ X rfl (Sls.nil X) (Sls.nil X) (Sls.nil X) ⟨by decide,fun s hs=>by cases hs⟩ scr20
  go_upto_region 7 with(first
   |(go_at_call 22;(with_reducible refine(mwait_nil _).mono ?_);rintro r w3 ⟨rfl,rfl⟩)
   |(go_at_call 23;(with_reducible refine(mlisten_nil _).mono ?_);rintro r w4 ⟨rfl,hb4⟩)
   |(refine wpList_storeW rfl 55 (.tmp 12) (.tmp 33) rfl w4.heap.size 0 _ 55 #[.int .i64 0,.int .i64 0,.int .i64 0,.slice none 0 0,.int .i64 0,.int .i64 0,.bool false,.int .i64 0,.slice none 0 0] rfl rfl (hpNew w4 _) (by simp) infoOc9 rfl ?_;intro w5 g5 hk5 hz5)
   |(go_at_call 24;(with_reducible refine(HLN.out _).mono ?_);rintro r w6 hm6;obtain⟨gl,a,cc,a2,c2,rfl,hat6,hG6,hgl6,hb6⟩:=hm6.at ⟨by decide,fun s hs=>by cases hs⟩ (fun x hx=>by cases hx) (fun e=>(by cases e))))
  obtain⟨-,hb5⟩:=var_new (by rfl) g5 hk5
  have hB6:Below w.heap.size w w6:=bU (bU (bU HB2.out hb4) (hb5.mono (Nat.le_refl _))) hb6
  have hB26:Below W2.heap.size W2 w6:=bU (bU hb4 hb5) hb6
  have HLA:Hid (LnAt (fun j=>j=gl) w6 gl (.slice a 0 cc) (.slice a2 0 c2) false Ln.zero):=hat6
  have HLG:Hid (LnG (fun j=>j=gl) w6 a 0 cc a2 0 c2 [] [] false):=hG6
  have HGL:Hid (W2.heap.size≤gl):=by have:=hb4.size;have:=hb5.size;show _≤_;omega
  have HB6:=hid hB6
  have HB26:=hid hB26
  have P6:=hid (kP P0.out hB26)
  have HRGX:Hid (∀X,Below w6.heap.size w6 X→Rgs X (.slice sa n sc) c.sets):=fun X hX=>HRG.out.keep (bU HB6.out hX)
  have HNO:Hid (∀X ol E,Below w6.heap.size w6 X→((chkE c≠0∧E=5)∨(chkE c=0∧ol=none∧E=13)∨(chkE c=0∧(∃a,ol=some a)∧(tick<0∨576460752303423488<tick)∧E=3))→Calls Tryz.prog 25 #[.agg C,.pointer ol,.int .i64 tick] X (NewNo E X)):=fun X ol E hX h=>by
   rw[←HC.out]
   exact mnew_no c _ ol tick X (HRGX.out X hX) E h
  obtain⟨EC,hEC⟩:∃E,chkE c=E:=⟨_,rfl⟩
  have HCK:Hid (∀X,Below w6.heap.size w6 X→Calls Tryz.prog 29 #[.agg C] X (IntPost X EC)):=fun X hX=>by
   rw[←HC.out]
   exact rcfcheck_any c _ X (HRGX.out X hX) EC hEC
  have HEC:=hid hEC
  have HBN:=hid (mbegin_nil 0 1 qf qa qq qc qo)
  have HON:=hid mnow_nil
  clear hm6 hat6 hG6 hgl6 hb6 g5 hk5 hz5 hb5 hb4 hB6 hB26 HLN h8 hEC
  by_cases he:EC=0
  ·subst he
   have HN1:Hid (∀X,Below w6.heap.size w6 X→Calls Tryz.prog 25 #[.agg C,.pointer none,.int .i64 tick] X (NewNo 13 X)):=fun X hX=>HNO.out X none 13 hX (.inr (.inl ⟨HEC.out,rfl,rfl⟩))
   have p6:=P6.out
   go_upto_region 8 with(first
    |(refine wpList_load_row rfl 27 (.tmp 5) rfl w.heap.size rfl 27 C (0,0) _ p6 Tryz.underlying27 rfl hi ?_)
    |(go_at_call 25;(with_reducible refine(HN1.out w6 (Below.refl _ _)).mono ?_);rintro r w7 ⟨rfl,hb7⟩))
   have p7:=kP p6 hb7
   by_cases htk:tick<0∨576460752303423488<tick
   ·have HN2:Hid (∀X,Below w6.heap.size w6 X→Calls Tryz.prog 25 #[.agg C,.pointer (some ⟨gl,0,none⟩),.int .i64 tick] X (NewNo 3 X)):=fun X hX=>HNO.out X _ 3 hX (.inr (.inr ⟨HEC.out,⟨_,rfl⟩,htk,rfl⟩))
    go_upto_region 9 with(first
     |(refine wpList_load_row rfl 27 (.tmp 5) rfl w.heap.size rfl 27 C (0,0) _ p7 Tryz.underlying27 rfl hi ?_)
     |(go_at_call 25;(with_reducible refine(HN2.out w7 hb7).mono ?_);rintro r w8 ⟨rfl,hb8⟩))
    have hb68:=bU hb7 hb8
    have q8:=kP (kP P1.out HB26.out) hb68
    go_upto_region 12 with(first|(go_at_call 26;(with_reducible refine(HBN.out _).mono ?_);rintro r wn ⟨rfl,hbn⟩)|(go_at_call 27;(with_reducible refine(msend_nil _).mono ?_);rintro r wm ⟨rfl,rfl⟩)|(go_at_call 28;(with_reducible refine(HON.out _).mono ?_);rintro r wo ⟨rfl,rfl⟩)|(refine wpList_load_row rfl 45 (.tmp 9) rfl (w.heap.size+1) rfl 45 _ (0,0) _ q8 Tryz.underlying45 rfl infoRq5 ?_))
    have hb6n:=bU hb68 hbn
    have p9:=kP p6 hb6n
    have HCK9:=hid (HCK.out wn hb6n)
    go_upto_region 14 with(first
     |(refine wpList_load_row rfl 27 (.tmp 5) rfl w.heap.size rfl 27 C (0,0) _ p9 Tryz.underlying27 rfl hi ?_)
     |(go_at_call 29;(with_reducible refine HCK9.out.mono ?_);rintro r wk ⟨rfl,hbk⟩))
    by_cases ht0:tick<0
    ·have g4:decide (tick<0)=true:=dT ht0
     clear ht0 htk
     go_wp2_with (go_at_call 13;(with_reducible refine(aW _).mono ?_);rintro r wz ⟨rfl,hbz⟩)
     go_ret
     exact⟨rfl,bU (bU (bU HB6.out hb6n) hbk) hbz⟩
    ·have g4:decide (tick<0)=false:=dF ht0
     have g5:decide (576460752303423488<tick)=true:=dT (by omega)
     clear ht0 htk
     go_wp2_with (go_at_call 13;(with_reducible refine(aW _).mono ?_);rintro r wz ⟨rfl,hbz⟩)
     go_ret
     exact⟨rfl,bU (bU (bU HB6.out hb6n) hbk) hbz⟩
   ·have HN2:Hid (∀X,Below w6.heap.size w6 X→Calls Tryz.prog 25 #[.agg C,.pointer (some ⟨gl,0,none⟩),.int .i64 tick] X (NewYes c (.pointer (some ⟨gl,0,none⟩)) tick X)):=fun X hX=>by
     rw[←HC.out]
     exact mnew_yes c HEC.out _ gl tick (by omega) (by omega) X (HRGX.out X hX)
    have HTK:Hid (0≤tick∧tick≤576460752303423488):=by show _∧_;omega
    have g4:decide (tick<0)=false:=dF (by omega)
    have g5:decide (576460752303423488<tick)=false:=dF (by omega)
    clear htk
    go_upto_region 9 with(first
     |(refine wpList_load_row rfl 27 (.tmp 5) rfl w.heap.size rfl 27 C (0,0) _ p7 Tryz.underlying27 rfl hi ?_)
     |(go_at_call 25;(with_reducible refine(HN2.out w7 hb7).mono ?_);rintro r w8 ⟨gm,sv8,rfl,hgm,hat8,hr8,hb8⟩))
    have hb68:=bU hb7 hb8
    have hla7:=HLA.out.keep (F:=fun _=>False) (Keeps.of_below hb7) (fun _ _ e=>e)
    have hlg7:=HLG.out.next (Q:=fun j=>j=gl) (Keeps.of_below hb7) (fun _ _ e=>e)
    have HM8:=hid (MsS.start (f:=⟨a,0,cc,a2,0,c2,false,[],[]⟩) hla7 hlg7 Ln.zero_ok HEC.out hgm hat8 hr8 hb8 (Tx.new 0 0 0 0 0) (Lk.new 0 0 0 0 0))
    have HGM:Hid (W2.heap.size≤gm):=by have:=HB26.out.size;have:=hb7.size;show _≤_;omega
    have q8:=kP (kP P1.out HB26.out) hb68
    clear hla7 hlg7 hgm hat8 hr8
    go_upto_region 12 with(first|(go_at_call 26;(with_reducible refine(HBN.out _).mono ?_);rintro r wn ⟨rfl,hbn⟩)|(go_at_call 27;(with_reducible refine(msend_nil _).mono ?_);rintro r wm ⟨rfl,rfl⟩)|(go_at_call 28;(with_reducible refine(HON.out _).mono ?_);rintro r wo ⟨rfl,rfl⟩)|(refine wpList_load_row rfl 45 (.tmp 9) rfl (w.heap.size+1) rfl 45 _ (0,0) _ q8 Tryz.underlying45 rfl infoRq5 ?_))
    have hb6n:=bU hb68 hbn
    have p9:=kP p6 hb6n
    have HCK9:=hid (HCK.out wn hb6n)
    go_upto_region 22 with(first
     |(refine wpList_load_row rfl 27 (.tmp 5) rfl w.heap.size rfl 27 C (0,0) _ p9 Tryz.underlying27 rfl hi ?_)
     |(go_at_call 29;(with_reducible refine HCK9.out.mono ?_);rintro r wk ⟨rfl,hbk⟩))
    have HMK:=hid ((HM8.out.keepB hbn).keepB hbk)
    have HBK:Hid (Below w.heap.size w wk):=bU (bU HB6.out hb6n) hbk
    have HB2K:Hid (Below W2.heap.size W2 wk):=bU (bU HB26.out hb6n) hbk
    have q9:=kP P1.out HB2K.out
    have c9:=c0 wk HB2K.out
    clear hb7 hb8 hb68 hbn hb6n hbk p6 p7 p9 q8 HCK9 HN1 HN2 HM8 HNO c0' HBN HON HCK HLA HLG
    by_cases hsr:st<0∨(n:Int)≤st
    ·have HBG:=hid (mbegin_set HMK.out (show _=_ from rfl) st un qf qa qq qc qo (by rw[HN.out];exact hsr))
     go_upto_region 23 with(first
      |(refine wpList_load_row rfl 45 (.tmp 9) rfl (w.heap.size+1) rfl 45 _ (0,0) _ q9 Tryz.underlying45 rfl infoRq5 ?_)
      |(go_at_call 26;(with_reducible refine HBG.out.mono ?_);rintro r w10 ⟨rfl,hb10⟩))
     have c10:=c0 w10 (bU HB2K.out hb10)
     have HSD:=hid (fun X (hX:Below w10.heap.size w10 X)=>msend_no ((HMK.out.keepB hb10).keepB hX) rfl)
     have HBX:Hid (Below w.heap.size w w10):=bU HBK.out hb10
     clear hb10 c9 q9
     by_cases hs0:st<0
     ·have g6:decide (st<0)=true:=dT hs0
      clear hs0 hsr
      go_wp2_with (first|(go_at_call 13;(with_reducible refine(aW _).mono ?_);rintro r wz ⟨rfl,hbz⟩)|(go_at_call 27;(with_reducible refine(HSD.out _ hbz).mono ?_);rintro r wy ⟨rfl,rfl⟩))
      go_ret
      exact⟨rfl,bU HBX.out hbz⟩
     ·have g6:decide (st<0)=false:=dF hs0
      have g7:decide ((n:Int)≤st)=true:=dT (by omega)
      clear hs0 hsr
      go_wp2_with (first|(go_at_call 13;(with_reducible refine(aW _).mono ?_);rintro r wz ⟨rfl,hbz⟩)|(go_at_call 27;(with_reducible refine(HSD.out _ hbz).mono ?_);rintro r wy ⟨rfl,rfl⟩))
      go_ret
      exact⟨rfl,bU HBX.out hbz⟩
    ·obtain ⟨i,rfl⟩:∃i:Nat,st=(i:Int):=⟨st.toNat,by omega⟩
     have hil:i<c.sets.length:=by rw[HN.out];omega
     obtain⟨⟨x0,x1⟩,hx⟩:∃x,c.sets[i]?=some x:=⟨_,List.getElem?_eq_getElem hil⟩
     have g6:decide ((i:Int)<0)=false:=dF (by omega)
     have g7:decide ((n:Int)≤(i:Int))=false:=dF (by omega)
     have hinn:i<n:=by omega
     have g8:¬n≤i:=by omega
     obtain⟨E,hE⟩:∃E,bgE un ⟨qf,qa,qq,qc,qo⟩=E:=⟨_,rfl⟩
     have HBG:=hid ((mbegin_any HMK.out (show _=_ from rfl) i x0 x1 hx un qf qa qq qc qo HTK.out.1 (by have:=HTK.out.2;show tick≤_;omega) E hE).mono (fun _ _ h=>MBg.of h))
     obtain⟨VQ,hVQ⟩:∃V,Rq.ok ⟨qf,qa,qq,qc,qo⟩=V:=⟨_,rfl⟩
     have HRV:Hid (∀X,Calls Tryz.prog 30 #[.agg #[.int .i64 qf,.int .i64 qa,.int .i64 qq,.int .i64 qc,.int .i64 qo]] X fun r w'=>r=.returned (.bool VQ)∧Below X.heap.size X w'):=fun X=>by
      rw[←hVQ]
      exact rqvalid_any qf qa qq qc qo X
     have HX:=hid hx
     clear hil hx hsr
     go_upto_region 23 with(first
      |(refine wpList_load_row rfl 45 (.tmp 9) rfl (w.heap.size+1) rfl 45 _ (0,0) _ q9 Tryz.underlying45 rfl infoRq5 ?_)
      |(go_at_call 26;(with_reducible refine HBG.out.mono ?_);rintro r w10 ⟨rfl,hno,hyes⟩))
     have HBX:Hid (Below w.heap.size w w10∧W2.heap.size≤w10.heap.size∧w10.heap[w.heap.size+1]?=some (.cells #[.int .i64 qf,.int .i64 qa,.int .i64 qq,.int .i64 qc,.int .i64 qo] 45)∧w10.heap[w.heap.size]?=some (.cells C 27)):=by
      have hzk:=HBK.out.size
      have hz2:=HB2K.out.size
      have q0:=kP P0.out HB2K.out
      have e2:=HZ2.out
      have e3:=HGL.out
      have e4:=HGM.out
      by_cases e:E=0
      ·obtain ⟨gj,k,PL,Q,s,-,h2,-⟩:=hyes e
       exact⟨HBK.out.trans (h2.below hzk (fun j hj e=>by rcases e with e|e<;>omega)),by have:=h2.size;omega,kU q9 h2 (fun e=>by rcases e with e|e<;>omega),kU q0 h2 (fun e=>by rcases e with e|e<;>omega)⟩
      ·have hb:=hno e
       exact⟨bU HBK.out hb,by have:=hb.size;omega,kP q9 hb,kP q0 hb⟩
     have q10:=HBX.out.2.2.1
     have c10:w10.cell? ⟨w.heap.size,0,none⟩=some (.slice sa n sc):=by rw[cP HBX.out.2.2.2,←HC.out];rfl
     have HNOX:=hid hno
     have HYES:=hid hyes
     have HSDX:Hid (E≠0→∀X,Below w10.heap.size w10 X→Calls Tryz.prog 27 #[.pointer (some ⟨gm,0,none⟩)] X fun r w'=>r=.returned (.int .i64 14)∧X=w'):=fun e X hX=>msend_no ((HMK.out.keepB (HNOX.out e)).keepB hX) rfl
     have HEE:=hid hE
     have HVQ:=hid hVQ
     clear hno hyes q9 c9 hE hVQ
     by_cases hu:1≤un∧un≤247
     ·have u1:decide (un<1)=false:=dF (by omega)
      have u2:decide (247<un)=false:=dF (by omega)
      have he:E=if VQ=true then 0 else 5:=by rw[←HEE.out,←HVQ.out];unfold bgE;rw[if_pos hu]
      clear hu
      cases VQ with
      |true=>
       have he0:E=0:=he
       subst he0
       obtain⟨gj,k1,PL1,Q1,s1,hM10,hk10,-⟩:=HYES.out rfl
       have HBB:=hid (fun X (hX:Below w10.heap.size w10 X)=>mbegin_busy (hM10.keepB hX) (show _=_ from rfl) 0 1 qf qa qq qc qo)
       clear he hM10 hk10
       go_upto_region 27 with(first
        |(refine wpList_load_row rfl 45 (.tmp 9) rfl (w.heap.size+1) rfl 45 _ (0,0) _ q10 Tryz.underlying45 rfl infoRq5 ?_)
        |(go_at_call 30;(with_reducible refine(HRV.out _).mono ?_);rintro r wv ⟨rfl,hbv⟩))
       have HBV:=hid hbv
       have q11:=kP q10 hbv
       clear hbv
       go_wp2_with (first
        |(go_at_call 13;(with_reducible refine(aW _).mono ?_);rintro r wz ⟨rfl,hbz⟩;have q12:=kP q11 hbz;have hrow:∀j v,(#[.int .i64 qf,.int .i64 qa,.int .i64 qq,.int .i64 qc,.int .i64 qo]:Array Value).toList[j]?=some v→wz.cell? ((⟨w.heap.size+1,0,none⟩:Addr).add j)=some v:=(fun j v hj=>by rw[Addr.add_lit,Nat.zero_add,cP q12];simpa using hj))
        |(refine wpList_load_atH (by rfl) 45 (.tmp 9) rfl ⟨w.heap.size+1,0,none⟩ rfl #[.int .i64 qf,.int .i64 qa,.int .i64 qq,.int .i64 qc,.int .i64 qo] _ hrow Tryz.underlying45 rfl infoRq5 ?_)
        |(go_at_call 26;(with_reducible refine(HBB.out _ (bU HBV.out hbz)).mono ?_);rintro r wy ⟨rfl,hby⟩))
       go_ret
       exact⟨rfl,bU (bU (bU HBX.out.1 HBV.out) hbz) hby⟩
      |false=>
       have he0:E=5:=he
       subst he0
       have HSD:=hid (HSDX.out (by decide))
       clear he
       go_upto_region 27 with(first
        |(refine wpList_load_row rfl 45 (.tmp 9) rfl (w.heap.size+1) rfl 45 _ (0,0) _ q10 Tryz.underlying45 rfl infoRq5 ?_)
        |(go_at_call 30;(with_reducible refine(HRV.out _).mono ?_);rintro r wv ⟨rfl,hbv⟩))
       have HBV:=hid hbv
       clear hbv
       go_wp2_with (first|(go_at_call 13;(with_reducible refine(aW _).mono ?_);rintro r wz ⟨rfl,hbz⟩)|(go_at_call 27;(with_reducible refine(HSD.out _ (bU HBV.out hbz)).mono ?_);rintro r wy ⟨rfl,rfl⟩))
       go_ret
       exact⟨rfl,bU (bU HBX.out.1 HBV.out) hbz⟩
     ·have he0:E=3:=by rw[←HEE.out];unfold bgE;rw[if_neg hu]
      subst he0
      have HSD:=hid (HSDX.out (by decide))
      by_cases hu1:un<1
      ·have u1:decide (un<1)=true:=dT hu1
       clear hu hu1
       go_wp2_with (first|(go_at_call 13;(with_reducible refine(aW _).mono ?_);rintro r wz ⟨rfl,hbz⟩)|(go_at_call 27;(with_reducible refine(HSD.out _ hbz).mono ?_);rintro r wy ⟨rfl,rfl⟩))
       go_ret
       exact⟨rfl,bU HBX.out.1 hbz⟩
      ·have u1:decide (un<1)=false:=dF hu1
       have u2:decide (247<un)=true:=dT (by omega)
       clear hu hu1
       go_wp2_with (first|(go_at_call 13;(with_reducible refine(aW _).mono ?_);rintro r wz ⟨rfl,hbz⟩)|(go_at_call 27;(with_reducible refine(HSD.out _ hbz).mono ?_);rintro r wy ⟨rfl,rfl⟩))
       go_ret
       exact⟨rfl,bU HBX.out.1 hbz⟩
  ·have g2:(EC !=0)=true:=by rw[bne_iff_ne];exact he
   have HN1:Hid (∀X ol,Below w6.heap.size w6 X→Calls Tryz.prog 25 #[.agg C,.pointer ol,.int .i64 tick] X (NewNo 5 X)):=fun X ol hX=>HNO.out X ol 5 hX (.inl ⟨by rw[HEC.out];exact he,rfl⟩)
   clear he
   have p6:=P6.out
   go_upto_region 8 with(first
    |(refine wpList_load_row rfl 27 (.tmp 5) rfl w.heap.size rfl 27 C (0,0) _ p6 Tryz.underlying27 rfl hi ?_)
    |(go_at_call 25;(with_reducible refine(HN1.out w6 _ (Below.refl _ _)).mono ?_);rintro r w7 ⟨rfl,hb7⟩))
   have p7:=kP p6 hb7
   go_upto_region 9 with(first
    |(refine wpList_load_row rfl 27 (.tmp 5) rfl w.heap.size rfl 27 C (0,0) _ p7 Tryz.underlying27 rfl hi ?_)
    |(go_at_call 25;(with_reducible refine(HN1.out w7 _ hb7).mono ?_);rintro r w8 ⟨rfl,hb8⟩))
   have hb68:=bU hb7 hb8
   have q8:=kP (kP P1.out HB26.out) hb68
   go_upto_region 12 with(first|(go_at_call 26;(with_reducible refine(HBN.out _).mono ?_);rintro r wn ⟨rfl,hbn⟩)|(go_at_call 27;(with_reducible refine(msend_nil _).mono ?_);rintro r wm ⟨rfl,rfl⟩)|(go_at_call 28;(with_reducible refine(HON.out _).mono ?_);rintro r wo ⟨rfl,rfl⟩)|(refine wpList_load_row rfl 45 (.tmp 9) rfl (w.heap.size+1) rfl 45 _ (0,0) _ q8 Tryz.underlying45 rfl infoRq5 ?_))
   have hb6n:=bU hb68 hbn
   have p9:=kP p6 hb6n
   have HCK9:=hid (HCK.out wn hb6n)
   go_upto_region 19 with(first
    |(refine wpList_load_row rfl 27 (.tmp 5) rfl w.heap.size rfl 27 C (0,0) _ p9 Tryz.underlying27 rfl hi ?_)
    |(go_at_call 29;(with_reducible refine HCK9.out.mono ?_);rintro r wk ⟨rfl,hbk⟩))
   go_wp2_with (go_at_call 13;(with_reducible refine(aW _).mono ?_);rintro r wz ⟨rfl,hbz⟩)
   go_ret
   exact⟨rfl,bU (bU (bU HB6.out hb6n) hbk) hbz⟩
end Go.Proofs.YtoaoejaodhedaaaGreat
