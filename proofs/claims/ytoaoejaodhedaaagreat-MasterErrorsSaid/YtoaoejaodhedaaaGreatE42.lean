/-
 Texts 42 of the claim.
-/
import Derived.Test.YtoaoejaodhedaaaGreatE41
import Derived.Test.YtoaoejaodhedaaaGreatE07
import Derived.Test.YtoaoejaodhedaaaGreatE06
import Derived.Test.YtoaoejaodhedaaaGreatE40
namespace Go.Proofs.YtoaoejaodhedaaaGreat
open Go.RowKit
set_option maxHeartbeats 3200000
set_option maxRecDepth 100000
def AtR (_:World) (cs:List Value) (x:At):Prop:=cs=x.C.toList∧wfI x.lat∧wfI x.fault∧wfI x.pos∧wfI x.mask∧wfI x.ticks∧wfI x.value
def Ats (w:World) (v:Value) (l:List At):Prop:=Sls 6 AtR w v l
theorem Ats.keep {w w':World} {v:Value} {l:List At} (h:Ats w v l) (hb:Below w.heap.size w w'):Ats w' v l:=Sls.keep (fun _ _ _ _ h _=>h) h hb
theorem Ats.at {w:World} {v:Value} {l:List At} (h:Ats w v l) {k:Nat} {x:At} (hx:l[k]?=some x):
  ∃b o c,v=.slice (some ⟨b,o,none⟩) l.length c∧∀W,Below w.heap.size w W→W.cell? ⟨b,o+k*6,none⟩=some (.int .i64 x.lat)∧W.cell? ⟨b,o+k*6+1,none⟩=some (.int .i64 x.fault)∧W.cell? ⟨b,o+k*6+2,none⟩=some (.int .i64 x.pos)∧W.cell? ⟨b,o+k*6+3,none⟩=some (.int .i64 x.mask)∧W.cell? ⟨b,o+k*6+4,none⟩=some (.int .i64 x.ticks)∧W.cell? ⟨b,o+k*6+5,none⟩=some (.int .i64 x.value):=by
 obtain⟨a,c,rfl,h1,h2,h3,h4⟩:=h
 obtain⟨b,o,rfl,hel⟩:=h4 (by rintro rfl;simp at hx)
 obtain⟨r,hr,⟨rfl,-⟩,hc⟩:=hel k x hx
 exact⟨b,o,c,rfl,fun W hW=>⟨cell_keep hW (hc 0 _ rfl),cell_keep hW (hc 1 _ rfl),cell_keep hW (hc 2 _ rfl),cell_keep hW (hc 3 _ rfl),cell_keep hW (hc 4 _ rfl),cell_keep hW (hc 5 _ rfl)⟩⟩
theorem patt_w (a:At) (V:Bool) (hV:V=true↔a.ok) (w:World):Calls Tryz.prog 116 #[.agg a.C] w (BoolPost w V):=
 (patt_any a w).mono fun r w' ⟨B,h1,h2,h3⟩=>by
  have e:B=V:=by
   cases B<;>cases V
   ·rfl
   ·exact absurd (h2.out.2 (hV.1 rfl)) Bool.noConfusion
   ·exact absurd (hV.2 (h2.out.1 rfl)) Bool.noConfusion
   ·rfl
  subst e
  exact⟨h1,h3⟩
theorem attF_any (a:At) (V:Bool) (hV:V=true↔a.ok) (w:World):Calls Tryz.prog 115 #[.agg a.C] w (BoolPost w (!V)):=by
 obtain⟨C,hC⟩:∃C,a.C=C:=⟨_,rfl⟩
 have HS:Hid (∀X,Calls Tryz.prog 116 #[.agg C] X (BoolPost X V)):=fun X=>by rw[←hC];exact patt_w a V hV X
 have hi:(Tryz.prog.info? 70).map (·.size)=some C.size:=by rw[←hC];exact infoAT
 rw[hC]
 obtain⟨W1,hW1⟩:∃W,w.alloc (.cells C 70)=W:=⟨_,rfl⟩
 have hb1:Below w.heap.size w W1:=by rw[←hW1];exact bal' w _
 have pS:W1.heap[w.heap.size]?=some (.cells C 70):=by rw[←hW1];exact hpNew w _
 have HW1:=hid hW1
 have HB1:=hid hb1
 clear hW1 hb1 hC hV
 go_enter Tryz.func115,Tryz.ntmps115
 go_upto_region 1 with(fail)
 rw[HW1.out]
 go_wp2_with (first
  |(refine wpList_load_row rfl 70 (.tmp 1) rfl w.heap.size rfl 70 C (0,0) _ pS Tryz.underlying70 rfl hi ?_)
  |(go_at_call 116;(with_reducible refine(HS.out _).mono ?_);rintro r w2 ⟨rfl,hb2⟩))
 go_ret
 exact⟨rfl,bt HB1.out hb2 (Nat.le_refl _)⟩
theorem idxA_any (v:Value) (l:List At) (w:World) (hl:Ats w v l) (V:Bool) (hV:V=true↔∃x∈l,¬x.ok):
  Calls Tryz.prog 151 #[v,.func (.func 115) #[] #[]] w fun r w'=>IdxPost V r∧Below w.heap.size w w':=by
 have HL:=hid hl
 have HV:=hid hV
 obtain⟨a,c,rfl,hnc,hcm,-⟩:=id hl
 obtain⟨n,hn⟩:∃n,l.length=n:=⟨_,rfl⟩
 have HN:=hid hn
 rw[hn] at hnc ⊢
 have hnn:n≤9223372036854775807:=by unfold maxLen at hcm;omega
 clear hl hn hV hcm
 go_enter Tryz.func151,Tryz.ntmps151
 go_wp2
 go_loopw [8] (fun i wr=>∃k:Nat,k≤n∧i=.int .i64 k∧Hid (∀x∈l.take k,x.ok)∧Below w.heap.size w wr) (fun i _=>n- (intOf i).toNat)
 case atStart=>exact⟨0,Nat.zero_le _,rfl,fun x hx=>(by cases hx),Below.refl _ _⟩
 case round=>
  obtain⟨k,hk,rfl,hno,hbw⟩:=hrel
  have hki:(0:Int)≤(k:Int):=Int.natCast_nonneg _
  by_cases hlt:k<n
  ·obtain ⟨x,hx⟩:=gs (l:=l) HN.out hlt
   obtain⟨b,o,c',hv',hcl⟩:=HL.out.at hx
   rw[HN.out] at hv'
   simp only[Value.slice.injEq,true_and] at hv'
   obtain⟨rfl,rfl⟩:=hv'
   have hkl:(k:Int)<(n:Int):=by omega
   obtain⟨y0,y1,y2,y3,y4,y5⟩:=hcl wr hbw
   obtain⟨B,hB⟩:∃B:Bool,(B=true↔x.ok):=by
    by_cases e:x.ok
    ·exact ⟨true,fun _=>e,fun _=>rfl⟩
    ·exact ⟨false,fun h=>(by cases h),fun h=>absurd h e⟩
   have HM:Hid (Calls Tryz.prog 115 #[.agg #[.int .i64 x.lat,.int .i64 x.fault,.int .i64 x.pos,.int .i64 x.mask,.int .i64 x.ticks,.int .i64 x.value]] wr (BoolPost wr (!B))):=attF_any x B hB wr
   have HX:=hid hx
   have HBB:=hid hB
   clear hx hB hcl
   go_wp2_with fail
   refine HM.out.mono ?_
   rintro r w1 ⟨rfl,hb1⟩
   cases B with
   |false=>
    have HF:Hid (V=true):=HV.out.2 ⟨x,List.mem_of_getElem? HX.out,fun h=>by have:=HBB.out.2 h;cases this⟩
    clear HBB
    go_wp2
    go_ret
    exact⟨⟨k,rfl,⟨fun _=>HF.out,fun _=>Int.natCast_nonneg _⟩⟩,bt hbw hb1 (Nat.le_refl _)⟩
   |true=>
    have HST:Hid (∀y∈l.take (k+1),y.ok):=fun y hy=>by
     rw[take_succ_snoc HX.out,List.mem_append] at hy
     rcases hy with h|h
     ·exact hno.out y h
     ·have:y=x:=by simpa using h
      rw[this]
      exact HBB.out.1 rfl
    clear HBB
    go_wp2
    go_roundw
    case rel=>exact⟨k+1,by omega,by go_num,HST,bt hbw hb1 (Nat.le_refl _)⟩
    case measure=>simp [intOf];omega
  ·obtain rfl:k=n:=by omega
   have HF:Hid (V=false):=by
    show _=_
    cases V with
    |false=>rfl
    |true=>
     obtain⟨x,hx,hq⟩:=HV.out.1 rfl
     have h1:=hno.out
     rw[List.take_of_length_le (by rw[HN.out];exact Nat.le_refl _)] at h1
     exact absurd (h1 x hx) hq
   go_wp2
   go_ret
   exact⟨⟨-1,rfl,⟨fun h=>absurd h (by decide),fun h=>by rw[HF.out] at h;cases h⟩⟩,hbw⟩
theorem contA_any (a:Option Addr) (n c:Nat) (l:List At) (w:World) (hl:Ats w (.slice a n c) l) (V:Bool) (hV:V=true↔∃x∈l,¬x.ok):
  Calls Tryz.prog 114 #[.slice a n c,.func (.func 115) #[] #[]] w (BoolPost w V):=by
 have HI:=hid (idxA_any _ l w hl V hV)
 clear hl hV
 go_enter Tryz.func114,Tryz.ntmps114
 go_wp2_with fail
 refine HI.out.mono ?_
 rintro r w1 ⟨⟨i,rfl,hi⟩,hb1⟩
 have HV:Hid (decide (0≤i)=V):=by
  show _=_
  cases V with
  |true=>exact decide_eq_true (hi.2 rfl)
  |false=>exact decide_eq_false (fun h=>by cases hi.1 h)
 clear hi
 go_wp2
 go_ret
 exact⟨ret_bool HV.out,hb1⟩
theorem Ats.row {w:World} {v:Value} {l:List At} (h:Ats w v l) {k:Nat} {x:At} (hx:l[k]?=some x):
  ∃b o c,v=.slice (some ⟨b,o,none⟩) l.length c∧∀W,Below w.heap.size w W→∀i u,x.C.toList[i]?=some u→W.cell? ((⟨b,o+k*6,none⟩:Addr).add i)=some u:=by
 obtain⟨a,c,rfl,h1,h2,h3,h4⟩:=h
 obtain⟨b,o,rfl,hel⟩:=h4 (by rintro rfl;simp at hx)
 obtain⟨r,hr,⟨rfl,-⟩,hc⟩:=hel k x hx
 exact⟨b,o,c,rfl,fun W hW i u hi=>by rw[Addr.add_lit];exact cell_keep hW (hc i u hi)⟩
theorem atOf_in {ats:List At} {lp:Bool} {k j:Nat} {x:At} (hj:j=k%ats.length) (hx:ats[j]?=some x) (h:lp=true∨k<ats.length):atOf ats lp k=x:=by
 unfold atOf
 have hl:=(List.getElem?_eq_some_iff.1 hx).1
 rw[if_neg,←hj,hx]
 ·rfl
 ·rintro (e|⟨e1,e2⟩)
  ·omega
  ·rcases h with h|h
   ·rw [h] at e1;cases e1
   ·omega
theorem atOf_out {ats:List At} {k:Nat} (h:ats.length≤k):atOf ats false k=At.zero:=by
 unfold atOf
 rw[if_pos (.inr ⟨rfl,h⟩)]
def EnPost (w:World) (a:At) (r:Ending) (w':World):Prop:=r=.returned (.agg a.C)∧Below w.heap.size w w'
theorem z41_1 {p:Prop} (h:p:=by
 have g9:w8.heap[w.heap.size]?=some (.cells C 70):=(by rw[g8,List.drop_eq_nil_of_le (by simp [hcs])];simp);refine bodyPost_ret (results_cell_row rfl _ _ w.heap.size 70 C (0,0) _ rfl g9 Tryz.underlying70 rfl hi) rfl ?_;rw[HV.out];exact⟨by rw[←HPX.out],HB1.out.trans (hk8.below HB1.out.size (fun j hj e=>by omega))⟩):p:=h
theorem entry_any (g:Nat) (aa:Option Addr) (an ac:Nat) (ats:List At) (hn:ats.length=an) (lp:Bool) (hlp:lp=true→0<an) (k:Nat) (hk:k≤1000000000) (w:World) (hc1:w.cell? ⟨g,1,none⟩=some (.slice aa an ac)) (hc2:w.cell? ⟨g,2,none⟩=some (.bool lp)) (hA:Ats w (.slice aa an ac) ats):
  Calls Tryz.prog 124 #[.pointer (some ⟨g,0,none⟩),.int .i64 (k:Int)] w (EnPost w (atOf ats lp k)):=by
 obtain⟨W1,hW1⟩:∃W,w.alloc (.cells #[.int .i64 0,.int .i64 0,.int .i64 0,.int .i64 0,.int .i64 0,.int .i64 0] 70)=W:=⟨_,rfl⟩
 have hb1:Below w.heap.size w W1:=by rw[←hW1];exact bal' w _
 have pZ:W1.heap[w.heap.size]?=some (.cells #[.int .i64 0,.int .i64 0,.int .i64 0,.int .i64 0,.int .i64 0,.int .i64 0] 70):=by rw[←hW1];exact hpNew w _
 have c1:W1.cell? ⟨g,1,none⟩=some (.slice aa an ac):=cell_keep hb1 hc1
 have c2:W1.cell? ⟨g,2,none⟩=some (.bool lp):=cell_keep hb1 hc2
 obtain⟨V,hV⟩:∃V,atOf ats lp k=V:=⟨_,rfl⟩
 rw[hV]
 have HA:=hid hA
 have HN:=hid hn
 have HW1:=hid hW1
 have HB1:=hid hb1
 have PZ:=hid pZ
 obtain⟨K,hK⟩:∃K:Int,(k:Int)=K:=⟨_,rfl⟩
 have hK0:(0:Int)≤K:=by omega
 rw[hK]
 clear hW1 hb1 pZ hA hc1 hc2
 cases lp with
 |true=>
  have hp:=hlp rfl
  obtain⟨j,hj⟩:∃j,k%an=j:=⟨_,rfl⟩
  have hjn:j<an:=by rw[←hj];exact Nat.mod_lt _ hp
  obtain⟨x,hx⟩:=gs hn hjn
  have HX:=hid hx
  have HV:Hid (V=x):=by show _=_;rw[←hV];exact atOf_in (by rw[hn];exact hj.symm) hx (.inl rfl)
  have r1:K.tmod (an:Int)=(j:Int):=by rw[←hK,←hj,Int.tmod_eq_emod_of_nonneg (by omega)];exact(Int.natCast_emod k an).symm
  have r2:K%(an:Int)=(j:Int):=by rw[←r1,Int.tmod_eq_emod_of_nonneg hK0]
  have r3:¬(an:Int)=0:=by omega
  have r4:decide ((an:Int)≤(j:Int))=false:=decide_eq_false (by omega)
  have r5:¬(an:Int)≤(j:Int):=by omega
  have r6:(0:Int)≤(j:Int):=by omega
  have r7:(j:Int)<(an:Int):=by omega
  have r8:¬an≤j:=by omega
  clear hV hx hj hp hlp hk hK hn
  obtain⟨b,o,c',hv,hrow⟩:=HA.out.row HX.out;rw[HN.out] at hv;simp only[Value.slice.injEq,true_and] at hv;obtain⟨rfl,rfl⟩:=hv;obtain⟨C,hC⟩:∃C,x.C=C:=⟨_,rfl⟩;rw[hC] at hrow;have hi:(Tryz.prog.info? 70).map (·.size)=some C.size:=(by rw[←hC];exact infoAT);have h1c:C.toList.all (·.oneCell')=true:=(by rw[←hC];rfl);have hcs:C.size=6:=(by rw[←hC];rfl);have HR:=hid (hrow W1 HB1.out);have HPX:Hid (x.C=C):=hC;clear hC hrow
  go_enter Tryz.func124,Tryz.ntmps124
  go_upto_region 1 with(fail)
  rw[HW1.out]
  go_wp2_with (first|(refine wpList_load_at rfl 70 (.tmp 27) rfl ⟨b,o+j*6,none⟩ rfl C _ HR.out Tryz.underlying70 rfl hi ?_)|(refine wpList_storeW rfl 70 (.tmp 4) (.tmp 28) rfl w.heap.size 0 _ 70 C rfl rfl PZ.out (by simp [hcs]) hi h1c ?_;intro w8 g8 hk8 hz8))
  exact z41_1
 |false=>
  by_cases hkn:k<an
  ·obtain ⟨x,hx⟩:=gs hn hkn
   have HX:=hid hx
   have HV:Hid (V=x):=by show _=_;rw[←hV];exact atOf_in (by rw[hn];exact(Nat.mod_eq_of_lt hkn).symm) hx (.inr (by omega))
   subst hK
   have r4:decide ((an:Int)≤(k:Int))=false:=decide_eq_false (by omega)
   have r5:¬(an:Int)≤(k:Int):=by omega
   have r7:(k:Int)<(an:Int):=by omega
   have r8:¬an≤k:=by omega
   clear hV hx hlp hk hn
   obtain⟨b,o,c',hv,hrow⟩:=HA.out.row HX.out;rw[HN.out] at hv;simp only[Value.slice.injEq,true_and] at hv;obtain⟨rfl,rfl⟩:=hv;obtain⟨C,hC⟩:∃C,x.C=C:=⟨_,rfl⟩;rw[hC] at hrow;have hi:(Tryz.prog.info? 70).map (·.size)=some C.size:=(by rw[←hC];exact infoAT);have h1c:C.toList.all (·.oneCell')=true:=(by rw[←hC];rfl);have hcs:C.size=6:=(by rw[←hC];rfl);have HR:=hid (hrow W1 HB1.out);have HPX:Hid (x.C=C):=hC;clear hC hrow
   go_enter Tryz.func124,Tryz.ntmps124
   go_upto_region 1 with(fail)
   rw[HW1.out]
   go_wp2_with (first|(refine wpList_load_at rfl 70 (.tmp 27) rfl ⟨b,o+k*6,none⟩ rfl C _ HR.out Tryz.underlying70 rfl hi ?_)|(refine wpList_storeW rfl 70 (.tmp 4) (.tmp 28) rfl w.heap.size 0 _ 70 C rfl rfl PZ.out (by simp [hcs]) hi h1c ?_;intro w8 g8 hk8 hz8))
   exact z41_1
  ·have HV:Hid (V=At.zero):=by show _=_;rw[←hV];exact atOf_out (by omega)
   subst hK
   have r4:decide ((an:Int)≤(k:Int))=true:=decide_eq_true (by omega)
   have r5:(an:Int)≤(k:Int):=by omega
   have r8:an≤k:=by omega
   clear hV hlp hk hn
   go_enter Tryz.func124,Tryz.ntmps124
   go_upto_region 1 with(fail)
   rw[HW1.out]
   go_wp2_with (refine wpList_storeW rfl 70 (.tmp 4) (.tmp 24) rfl w.heap.size 0 _ 70 #[.int .i64 0,.int .i64 0,.int .i64 0,.int .i64 0,.int .i64 0,.int .i64 0] rfl rfl PZ.out (by simp) infoAT rfl ?_;intro w8 g8 hk8 hz8)
   have g9:w8.heap[w.heap.size]?=some (.cells #[.int .i64 0,.int .i64 0,.int .i64 0,.int .i64 0,.int .i64 0,.int .i64 0] 70):=g8
   refine bodyPost_ret (results_cell_row rfl _ _ w.heap.size 70 _ (0,0) _ rfl g9 Tryz.underlying70 rfl infoAT) rfl ?_
   rw[HV.out]
   exact⟨rfl,HB1.out.trans (hk8.below HB1.out.size (fun j hj e=>by omega))⟩
theorem busDec_parts {l:List Sl} {bd pa:Int} {f:List UInt8} {o:Int×Rq×List Nat} (h:busDec l bd pa f=some o):(∃p,splitB crcChk f=some (o.1,p))∧o.2.2=memb l bd pa o.1 l.length:=by
 cases hs:splitB crcChk f with
 |none=>rw[busDec_split hs] at h;cases h
 |some x=>
  obtain⟨u,p⟩:=x
  cases hq:rqDec p with
  |none=>rw[busDec_dec hs hq] at h;cases h
  |some q=>
   rw[busDec_mb hs hq] at h
   split at h
   ·cases h
   ·injection h with h
    subst h
    exact⟨⟨p,rfl⟩,rfl⟩
theorem single_any (g:Nat) (la:Option Addr) (lc ln:Nat) (l:List Sl) (hl:l.length=ln) (hB:BusP l) (bd pa:Int) (f1:wfI bd) (f2:wfI pa) (fa:Option Addr) (fn fc:Nat) (f:List UInt8) (o:Int×Rq×List Nat) (ho:busDec l bd pa f=some o) (V:Bool) (hV:decide (o.2.2.length=1)=V) (w:World) (hc0:w.cell? ⟨g,0,none⟩=some (.slice la ln lc)) (hL:Slvs w (.slice la ln lc) l) (hf:Bs w (.slice fa fn fc) f):
  Calls Tryz.prog 164 #[.pointer (some ⟨g,0,none⟩),.agg #[.int .i64 bd,.int .i64 pa],.slice fa fn fc] w (BoolPost w V):=by
 obtain⟨u,q,ms⟩:=o
 obtain⟨⟨p,hs⟩,hm⟩:=busDec_parts ho
 dsimp only at hs hm hV
 obtain⟨W1,hW1⟩:∃W,w.alloc (.cells #[.int .i64 bd,.int .i64 pa] 61)=W:=⟨_,rfl⟩
 have hb1:Below w.heap.size w W1:=by rw[←hW1];exact bal' w _
 have pS:W1.heap[w.heap.size]?=some (.cells #[.int .i64 bd,.int .i64 pa] 61):=by rw[←hW1];exact hpNew w _
 obtain⟨ml,hml⟩:∃n,ms.length=n:=⟨_,rfl⟩
 rw[hml] at hV
 have HSP:Hid (∀X,Below w.heap.size w X→Calls Tryz.prog 146 #[.slice fa fn fc] X fun r w'=>∃a2 c2,r=.returned (.tuple #[.int .i64 u,.slice a2 p.length c2,.int .i64 0])∧Bs w' (.slice a2 p.length c2) p∧Below X.heap.size X w'):=fun X hX=>psplit_yes hs fa fn fc X (hf.keep hX)
 have HMM:Hid (∀X,Below w.heap.size w X→Calls Tryz.prog 188 #[.slice la ln lc,.agg #[.int .i64 bd,.int .i64 pa],.int .i64 u] X fun r w'=>∃a c,r=.returned (.slice a ml c)∧Below X.heap.size X w'):=fun X hX=>(pmemb_any la lc l ln X hl (by have:=hB.1;omega) (hL.keep hX) bd pa u f1 f2).mono fun r w' h=>by
  obtain⟨a,c,h1,-,h3⟩:=h
  rw[←hl,←hm,hml] at h1
  exact⟨a,c,h1,h3⟩
 have HW1:=hid hW1
 have HB1:=hid hb1
 have HC0:=hid hc0
 have HPS:=hid pS
 clear hW1 hb1 pS hB hL hf f1 f2 hl hc0 hs hm ho hml
 obtain⟨PL,hPL⟩:∃n,p.length=n:=⟨_,rfl⟩
 rw[hPL] at HSP
 clear hPL
 go_enter Tryz.func164,Tryz.ntmps164
 go_upto_region 1 with(fail)
 rw[HW1.out]
 go_upto_region 2 with(go_at_call 146;(with_reducible refine(HSP.out _ HB1.out).mono ?_);rintro r w2 ⟨a2,c2,rfl,-,hb2⟩)
 have HB2:Hid (Below w.heap.size w w2):=bt HB1.out hb2 (Nat.le_refl _)
 have s0:∀X,Below w2.heap.size w2 X→X.cell? ⟨w.heap.size,0,none⟩=some (.int .i64 bd):=fun X h=>hpCell (hpKeep (hpKeep HPS.out hb2) h) 0
 have s1:∀X,Below w2.heap.size w2 X→X.cell? ⟨w.heap.size,1,none⟩=some (.int .i64 pa):=fun X h=>hpCell (hpKeep (hpKeep HPS.out hb2) h) 1
 have c0:∀X,Below w2.heap.size w2 X→X.cell? ⟨g,0,none⟩=some (.slice la ln lc):=fun X h=>cell_keep h (cell_keep HB2.out HC0.out)
 have kD:Below w2.heap.size w2 w2.drew:=(Below.refl _ _).drew
 have q1:((ml:Int)==1)=V:=by rw[←hV];cases e:decide (ml=1) with
  |true=>have:=of_decide_eq_true e;rw[this];rfl
  |false=>have:=of_decide_eq_false e;exact beq_eq_false_iff_ne.2 (by omega)
 have q2:(ml==1)=V:=by rw[←hV];rfl
 clear hb2 hV
 refine wp_region_held_drew (S:=fun V=>Below w2.heap.size w2 V) (by kernel_rfl) kD (fun hH=>?_)
 clear hH
 refine tkE 0 16 rfl rfl ?_;simp only[setS]
 refine tkE 1 17 rfl rfl ?_;simp only[setS]
 refine tkE 2 18 rfl rfl ?_;simp only[setS]
 refine tkE 3 19 rfl rfl ?_;simp only[setS]
 refine tkE 4 20 rfl rfl ?_;simp only[setS]
 refine tkE 5 21 rfl rfl ?_;simp only[setS]
 refine tkE 6 22 rfl rfl ?_;simp only[setS]
 refine tkE 7 23 rfl rfl ?_;simp only[setS]
 refine tkE 8 24 rfl rfl ?_;simp only[setS]
 refine rdyH 9 rfl (fun K hK=>?_);go_simp
 refine(HMM.out _ (bt HB2.out kD (Nat.le_refl _))).mono ?_
 rintro r w4 ⟨ma,mc,rfl,hb4⟩
 have hB4:=bt kD hb4 (Nat.le_refl _)
 refine hK.out _ _ hB4 (fun hSx=>?_);clear hK K hSx
 refine tkE 10 26 rfl rfl ?_;simp only[setS]
 refine tkE 11 27 rfl rfl ?_;simp only[setS]
 refine tkE 12 28 rfl rfl ?_;simp only[setS]
 refine tkD 13 6 (v:=?_) rfl (by kernel_rfl) (fun _ _ _ h=>h) rfl (by rfl) (by assumption) ?_ ?_;rotate_left;(intro w hSw;(try dsimp only at hSw);(try go_simp);try rfl)
 refine wpAnyH_done (by kernel_rfl) ?_ _
 go_wp2
 go_ret
 exact⟨rfl,bt HB2.out hB4 (Nat.le_refl _)⟩
def RvPost (w:World) (f:List UInt8) (r:Ending) (w':World):Prop:=∃a c,r=.returned (.slice a f.length c)∧w'.ownsRow w.heap.size 5 1 (.slice a f.length c) f.length (u8s f)∧Below w.heap.size w w'
theorem RvPost.nil {w w':World} {f:List UInt8} (h:f=[]) (hb:Below w.heap.size w w'):RvPost w f (.returned (.slice none 0 0)) w':=by
 subst h
 exact⟨none,0,rfl,World.ownsRow_nil _ _ _ _,hb⟩
theorem AnPost.uni {w:World} {o:Option (List UInt8)} {n:Nat} (hn:(o.getD []).length=n) {r:Ending} {w':World} (h:AnPost w o r w'):∃a c B,r=.returned (.tuple #[.slice a n c,.bool B])∧w'.ownsRow w.heap.size 5 1 (.slice a n c) n (u8s (o.getD []))∧Below w.heap.size w w':=by
 subst hn
 cases o with
 |none=>exact⟨none,0,false,h.1,World.ownsRow_nil _ _ _ _,h.2⟩
 |some f=>
  obtain⟨a,c,h1,h2,h3⟩:=h
  exact⟨a,c,true,h1,h2,h3⟩
theorem xor_by (x:UInt8) (m:Nat) (hm:m<256):Value.int .u8 (bits .xor .u8 ((x.toNat:Nat):Int) (m:Int))=byteV (x^^^UInt8.ofNat m):=by
 rw[u8_xor_nat x.toNat m (byte_lt x) hm]
 unfold byteV
 rw[UInt8.toNat_xor,UInt8.toNat_ofNat',Nat.mod_eq_of_lt hm]
structure RyB (w W:World) (g:Nat) (bd pa:Int) (C:Array Value) (la:Option Addr) (ln lc:Nat):Prop where
 b:Below w.heap.size w W
 z:W.heap.size=w.heap.size+2
 s:W.heap[w.heap.size]?=some (.cells #[.int .i64 bd,.int .i64 pa] 61)
 a:W.heap[w.heap.size+1]?=some (.cells C 70)
 c0:W.cell? ⟨g,0,none⟩=some (.slice la ln lc)
theorem reply_lost (g:Nat) (la:Option Addr) (lc ln:Nat) (bd pa:Int) (fa:Option Addr) (fn fc:Nat) (lat fault pos mask ticks value:Int) (hf:fault=1∨fault=2) (w:World) (hc0:w.cell? ⟨g,0,none⟩=some (.slice la ln lc)):
  Calls Tryz.prog 127 #[.pointer (some ⟨g,0,none⟩),.agg #[.int .i64 bd,.int .i64 pa],.slice fa fn fc,.agg #[.int .i64 lat,.int .i64 fault,.int .i64 pos,.int .i64 mask,.int .i64 ticks,.int .i64 value]] w (RvPost w []):=by
 obtain⟨W1,hW1⟩:∃W,(w.alloc (.cells #[.int .i64 bd,.int .i64 pa] 61)).alloc (.cells #[.int .i64 lat,.int .i64 fault,.int .i64 pos,.int .i64 mask,.int .i64 ticks,.int .i64 value] 70)=W:=⟨_,rfl⟩;have HY:Hid (RyB w W1 g bd pa #[.int .i64 lat,.int .i64 fault,.int .i64 pos,.int .i64 mask,.int .i64 ticks,.int .i64 value] la ln lc):=(by have hb:Below w.heap.size w W1:=(by rw[←hW1];exact bta (bal' w _) (Nat.le_refl _) _);refine⟨hb,by rw[←hW1];simp,by rw[←hW1];exact hpKeep (hpNew w _) (bal' _ _),?_,cell_keep hb hc0⟩;rw[←hW1];have h:=hpNew (w.alloc (.cells #[.int .i64 bd,.int .i64 pa] 61)) (.cells #[.int .i64 lat,.int .i64 fault,.int .i64 pos,.int .i64 mask,.int .i64 ticks,.int .i64 value] 70);rw[World.size_alloc] at h;exact h);obtain⟨ab,hab⟩:∃n,w.heap.size+1=n:=⟨_,rfl⟩;have HPA:Hid (W1.heap[ab]?=some (.cells #[.int .i64 lat,.int .i64 fault,.int .i64 pos,.int .i64 mask,.int .i64 ticks,.int .i64 value] 70)):=(by rw[←hab];exact HY.out.a);have HW1:=hid hW1;have HAB:=hid hab;clear hW1 hab
 have s0:∀X,Below W1.heap.size W1 X→X.cell? ⟨w.heap.size,0,none⟩=some (.int .i64 bd):=(fun X h=>hpCell (hpKeep HY.out.s h) 0);have s1:∀X,Below W1.heap.size W1 X→X.cell? ⟨w.heap.size,1,none⟩=some (.int .i64 pa):=(fun X h=>hpCell (hpKeep HY.out.s h) 1);have a1:∀X,Below W1.heap.size W1 X→X.cell? ⟨ab,1,none⟩=some (.int .i64 fault):=(fun X h=>hpCell (hpKeep HPA.out h) 1);have a2:∀X,Below W1.heap.size W1 X→X.cell? ⟨ab,2,none⟩=some (.int .i64 pos):=(fun X h=>hpCell (hpKeep HPA.out h) 2);have a3:∀X,Below W1.heap.size W1 X→X.cell? ⟨ab,3,none⟩=some (.int .i64 mask):=(fun X h=>hpCell (hpKeep HPA.out h) 3);have a5:∀X,Below W1.heap.size W1 X→X.cell? ⟨ab,5,none⟩=some (.int .i64 value):=(fun X h=>hpCell (hpKeep HPA.out h) 5);have c0:∀X,Below W1.heap.size W1 X→X.cell? ⟨g,0,none⟩=some (.slice la ln lc):=(fun X h=>cell_keep h HY.out.c0);have k0:Below W1.heap.size W1 W1:=Below.refl _ _;have kD:Below W1.heap.size W1 W1.drew:=(Below.refl _ _).drew
 clear hc0
 rcases hf with rfl|rfl
 ·go_enter Tryz.func127,Tryz.ntmps127
  go_upto_region 1 with(fail)
  rw[HW1.out,HAB.out]
  go_wp2
  go_ret
  exact RvPost.nil rfl HY.out.b
 ·go_enter Tryz.func127,Tryz.ntmps127
  go_upto_region 1 with(fail)
  rw[HW1.out,HAB.out]
  go_wp2
  go_ret
  exact RvPost.nil rfl HY.out.b
theorem reply_busy (g:Nat) (la:Option Addr) (lc ln:Nat) (l:List Sl) (hl:l.length=ln) (hB:BusP l) (bd pa:Int) (f1:wfI bd) (f2:wfI pa) (fa:Option Addr) (fn fc:Nat) (f:List UInt8) (lat fault pos mask ticks value:Int) (hf5:fault=5) (w:World) (hc0:w.cell? ⟨g,0,none⟩=some (.slice la ln lc)) (hL:Slvs w (.slice la ln lc) l) (hf:Bs w (.slice fa fn fc) f):
  Calls Tryz.prog 127 #[.pointer (some ⟨g,0,none⟩),.agg #[.int .i64 bd,.int .i64 pa],.slice fa fn fc,.agg #[.int .i64 lat,.int .i64 fault,.int .i64 pos,.int .i64 mask,.int .i64 ticks,.int .i64 value]] w (RvPost w ((busBusy l bd pa f).getD [])):=by
 obtain⟨W1,hW1⟩:∃W,(w.alloc (.cells #[.int .i64 bd,.int .i64 pa] 61)).alloc (.cells #[.int .i64 lat,.int .i64 fault,.int .i64 pos,.int .i64 mask,.int .i64 ticks,.int .i64 value] 70)=W:=⟨_,rfl⟩;have HY:Hid (RyB w W1 g bd pa #[.int .i64 lat,.int .i64 fault,.int .i64 pos,.int .i64 mask,.int .i64 ticks,.int .i64 value] la ln lc):=(by have hb:Below w.heap.size w W1:=(by rw[←hW1];exact bta (bal' w _) (Nat.le_refl _) _);refine⟨hb,by rw[←hW1];simp,by rw[←hW1];exact hpKeep (hpNew w _) (bal' _ _),?_,cell_keep hb hc0⟩;rw[←hW1];have h:=hpNew (w.alloc (.cells #[.int .i64 bd,.int .i64 pa] 61)) (.cells #[.int .i64 lat,.int .i64 fault,.int .i64 pos,.int .i64 mask,.int .i64 ticks,.int .i64 value] 70);rw[World.size_alloc] at h;exact h);obtain⟨ab,hab⟩:∃n,w.heap.size+1=n:=⟨_,rfl⟩;have HPA:Hid (W1.heap[ab]?=some (.cells #[.int .i64 lat,.int .i64 fault,.int .i64 pos,.int .i64 mask,.int .i64 ticks,.int .i64 value] 70)):=(by rw[←hab];exact HY.out.a);have HW1:=hid hW1;have HAB:=hid hab;clear hW1 hab
 have s0:∀X,Below W1.heap.size W1 X→X.cell? ⟨w.heap.size,0,none⟩=some (.int .i64 bd):=(fun X h=>hpCell (hpKeep HY.out.s h) 0);have s1:∀X,Below W1.heap.size W1 X→X.cell? ⟨w.heap.size,1,none⟩=some (.int .i64 pa):=(fun X h=>hpCell (hpKeep HY.out.s h) 1);have a1:∀X,Below W1.heap.size W1 X→X.cell? ⟨ab,1,none⟩=some (.int .i64 fault):=(fun X h=>hpCell (hpKeep HPA.out h) 1);have a2:∀X,Below W1.heap.size W1 X→X.cell? ⟨ab,2,none⟩=some (.int .i64 pos):=(fun X h=>hpCell (hpKeep HPA.out h) 2);have a3:∀X,Below W1.heap.size W1 X→X.cell? ⟨ab,3,none⟩=some (.int .i64 mask):=(fun X h=>hpCell (hpKeep HPA.out h) 3);have a5:∀X,Below W1.heap.size W1 X→X.cell? ⟨ab,5,none⟩=some (.int .i64 value):=(fun X h=>hpCell (hpKeep HPA.out h) 5);have c0:∀X,Below W1.heap.size W1 X→X.cell? ⟨g,0,none⟩=some (.slice la ln lc):=(fun X h=>cell_keep h HY.out.c0);have k0:Below W1.heap.size W1 W1:=Below.refl _ _;have kD:Below W1.heap.size W1 W1.drew:=(Below.refl _ _).drew
 have e1:(fault==1)=false:=b0 (by omega)
 have e2:(fault==2)=false:=b0 (by omega)
 have e5:(fault==5)=true:=b1 hf5
 have e3:(fault==3)=false:=b0 (by omega)
 obtain⟨rn,hrn⟩:∃n,((busBusy l bd pa f).getD []).length=n:=⟨_,rfl⟩
 have HAN:Hid (∀X,Below W1.heap.size W1 X→Calls Tryz.prog 162 #[.slice la ln lc,.agg #[.int .i64 bd,.int .i64 pa],.slice fa fn fc] X fun r w'=>∃a c B,r=.returned (.tuple #[.slice a rn c,.bool B])∧w'.ownsRow X.heap.size 5 1 (.slice a rn c) rn (u8s ((busBusy l bd pa f).getD []))∧Below X.heap.size X w'):=fun X hX=>(pbbusy_any la lc ln l hl hB bd pa f1 f2 fa fn fc f X (hL.keep (bt HY.out.b hX (Nat.le_refl _))) (hf.keep (bt HY.out.b hX (Nat.le_refl _)))).mono fun _ _ h=>h.uni hrn
 have HRN:=hid hrn
 clear hc0 hL hf hB hl f1 f2 hrn hf5
 go_enter Tryz.func127,Tryz.ntmps127
 go_upto_region 1 with(fail)
 rw[HW1.out,HAB.out]
 go_upto_region 8 with(fail)
 refine wp_region_held_drew (S:=fun V=>Below W1.heap.size W1 V) (by kernel_rfl) kD (fun hH=>?_)
 clear hH
 refine tkE 0 31 rfl rfl ?_;simp only[setS]
 refine tkE 1 32 rfl rfl ?_;simp only[setS]
 refine tkE 2 33 rfl rfl ?_;simp only[setS]
 refine tkE 3 34 rfl rfl ?_;simp only[setS]
 refine tkE 4 35 rfl rfl ?_;simp only[setS]
 refine tkE 5 36 rfl rfl ?_;simp only[setS]
 refine rdyH 6 rfl (fun K hK=>?_);go_simp
 refine(HAN.out _ kD).mono ?_
 rintro r w4 ⟨ra,rc,B,rfl,hown,hb4⟩
 have hB4:=bt kD hb4 (Nat.le_refl _)
 refine hK.out _ _ hB4 (fun hSx=>?_);clear hK K hSx
 refine tkE 7 30 rfl rfl ?_;simp only[setS]
 refine tkE 8 38 rfl rfl ?_;simp only[setS]
 refine tkE 9 39 rfl rfl ?_;simp only[setS]
 refine tkD 10 9 (v:=?_) rfl (by kernel_rfl) (fun _ _ _ h=>h) rfl (by rfl) (by assumption) ?_ ?_;rotate_left;(intro w hSw;(try dsimp only at hSw);(try go_simp);try rfl)
 refine wpAnyH_done (by kernel_rfl) ?_ _
 have a1':=a1 _ hB4
 have HOW:=hid hown
 clear hown
 go_wp2
 go_ret
 have hz:=kD.size
 exact⟨ra,rc,(by rw[HRN.out]<;>rfl),by rw[HRN.out];exact own_lower HOW.out (Nat.le_trans HY.out.b.size hz),bt HY.out.b hB4 (Nat.le_refl _)⟩
theorem reply_plain (g:Nat) (la:Option Addr) (lc ln:Nat) (l:List Sl) (hl:l.length=ln) (hB:BusP l) (bd pa:Int) (f1:wfI bd) (f2:wfI pa) (fa:Option Addr) (fn fc:Nat) (f:List UInt8) (lat fault pos mask ticks value:Int) (h1:¬fault=1) (h2:¬fault=2) (h5:¬fault=5) (h3:¬fault=3) (x0:0≤value) (x1:value≤65535) (w:World) (hc0:w.cell? ⟨g,0,none⟩=some (.slice la ln lc)) (hL:Slvs w (.slice la ln lc) l) (hf:Bs w (.slice fa fn fc) f):
  Calls Tryz.prog 127 #[.pointer (some ⟨g,0,none⟩),.agg #[.int .i64 bd,.int .i64 pa],.slice fa fn fc,.agg #[.int .i64 lat,.int .i64 fault,.int .i64 pos,.int .i64 mask,.int .i64 ticks,.int .i64 value]] w (RvPost w ((busAns l bd pa f value).getD [])):=by
 obtain⟨W1,hW1⟩:∃W,(w.alloc (.cells #[.int .i64 bd,.int .i64 pa] 61)).alloc (.cells #[.int .i64 lat,.int .i64 fault,.int .i64 pos,.int .i64 mask,.int .i64 ticks,.int .i64 value] 70)=W:=⟨_,rfl⟩;have HY:Hid (RyB w W1 g bd pa #[.int .i64 lat,.int .i64 fault,.int .i64 pos,.int .i64 mask,.int .i64 ticks,.int .i64 value] la ln lc):=(by have hb:Below w.heap.size w W1:=(by rw[←hW1];exact bta (bal' w _) (Nat.le_refl _) _);refine⟨hb,by rw[←hW1];simp,by rw[←hW1];exact hpKeep (hpNew w _) (bal' _ _),?_,cell_keep hb hc0⟩;rw[←hW1];have h:=hpNew (w.alloc (.cells #[.int .i64 bd,.int .i64 pa] 61)) (.cells #[.int .i64 lat,.int .i64 fault,.int .i64 pos,.int .i64 mask,.int .i64 ticks,.int .i64 value] 70);rw[World.size_alloc] at h;exact h);obtain⟨ab,hab⟩:∃n,w.heap.size+1=n:=⟨_,rfl⟩;have HPA:Hid (W1.heap[ab]?=some (.cells #[.int .i64 lat,.int .i64 fault,.int .i64 pos,.int .i64 mask,.int .i64 ticks,.int .i64 value] 70)):=(by rw[←hab];exact HY.out.a);have HW1:=hid hW1;have HAB:=hid hab;clear hW1 hab
 have s0:∀X,Below W1.heap.size W1 X→X.cell? ⟨w.heap.size,0,none⟩=some (.int .i64 bd):=(fun X h=>hpCell (hpKeep HY.out.s h) 0);have s1:∀X,Below W1.heap.size W1 X→X.cell? ⟨w.heap.size,1,none⟩=some (.int .i64 pa):=(fun X h=>hpCell (hpKeep HY.out.s h) 1);have a1:∀X,Below W1.heap.size W1 X→X.cell? ⟨ab,1,none⟩=some (.int .i64 fault):=(fun X h=>hpCell (hpKeep HPA.out h) 1);have a2:∀X,Below W1.heap.size W1 X→X.cell? ⟨ab,2,none⟩=some (.int .i64 pos):=(fun X h=>hpCell (hpKeep HPA.out h) 2);have a3:∀X,Below W1.heap.size W1 X→X.cell? ⟨ab,3,none⟩=some (.int .i64 mask):=(fun X h=>hpCell (hpKeep HPA.out h) 3);have a5:∀X,Below W1.heap.size W1 X→X.cell? ⟨ab,5,none⟩=some (.int .i64 value):=(fun X h=>hpCell (hpKeep HPA.out h) 5);have c0:∀X,Below W1.heap.size W1 X→X.cell? ⟨g,0,none⟩=some (.slice la ln lc):=(fun X h=>cell_keep h HY.out.c0);have k0:Below W1.heap.size W1 W1:=Below.refl _ _;have kD:Below W1.heap.size W1 W1.drew:=(Below.refl _ _).drew
 obtain⟨R,hR⟩:∃R,(busAns l bd pa f value).getD []=R:=⟨_,rfl⟩;obtain⟨rn,hrn⟩:∃n,R.length=n:=⟨_,rfl⟩;have HAN:Hid (∀X,Below W1.heap.size W1 X→Calls Tryz.prog 163 #[.slice la ln lc,.agg #[.int .i64 bd,.int .i64 pa],.slice fa fn fc,.int .i64 value] X fun r w'=>∃a c B,r=.returned (.tuple #[.slice a rn c,.bool B])∧w'.ownsRow X.heap.size 5 1 (.slice a rn c) rn (u8s R)∧Below X.heap.size X w'):=(fun X hX=>(pbans_any la lc ln l hl hB bd pa f1 f2 fa fn fc f value x0 x1 X (hL.keep (bt HY.out.b hX (Nat.le_refl _))) (hf.keep (bt HY.out.b hX (Nat.le_refl _)))).mono fun _ _ h=>by rw[←hR];exact h.uni (by rw[hR];exact hrn));have HRN:=hid hrn;have HR:=hid hR
 rw[hR]
 have e1:=b0 h1
 have e2:=b0 h2
 have e3:=b0 h3
 have e5:=b0 h5
 clear hc0 hL hf hB hl f1 f2 hrn hR h1 h2 h5 h3 x0 x1
 go_enter Tryz.func127,Tryz.ntmps127
 go_upto_region 1 with(fail)
 rw[HW1.out,HAB.out]
 go_upto_region 3 with(fail)
 refine wp_region_held_drew (S:=fun V=>Below W1.heap.size W1 V) (by kernel_rfl) kD (fun hH=>?_);clear hH;refine tkE 0 14 rfl rfl ?_;simp only[setS];refine tkE 1 15 rfl rfl ?_;simp only[setS];refine tkE 2 16 rfl rfl ?_;simp only[setS];refine tkE 3 17 rfl rfl ?_;simp only[setS];refine tkE 4 18 rfl rfl ?_;simp only[setS];refine tkE 5 19 rfl rfl ?_;simp only[setS];refine tkE 6 20 rfl rfl ?_;simp only[setS];refine tkE 7 21 rfl rfl ?_;simp only[setS];refine rdyH 8 rfl (fun K hK=>?_);go_simp;refine(HAN.out _ kD).mono ?_;rintro r w4 ⟨ra,rc,B,rfl,hown,hb4⟩;have hB4:=bt kD hb4 (Nat.le_refl _);refine hK.out _ _ hB4 (fun hSx=>?_);clear hK K hSx;refine tkE 9 13 rfl rfl ?_;simp only[setS];refine tkE 10 23 rfl rfl ?_;simp only[setS];refine tkE 11 24 rfl rfl ?_;simp only[setS];refine tkD 12 9 (v:=?_) rfl (by kernel_rfl) (fun _ _ _ h=>h) rfl (by rfl) (by assumption) ?_ ?_;rotate_left;(intro w hSw;(try dsimp only at hSw);(try go_simp);try rfl);refine wpAnyH_done (by kernel_rfl) ?_ _
 have a1':=a1 _ hB4
 have HOW:=hid hown
 clear hown
 go_wp2
 go_ret
 have hz:=kD.size
 exact⟨ra,rc,(by rw[HRN.out]<;>rfl),by rw[HRN.out];exact own_lower HOW.out (Nat.le_trans HY.out.b.size hz),bt HY.out.b hB4 (Nat.le_refl _)⟩
end Go.Proofs.YtoaoejaodhedaaaGreat
