/-
 Texts 11 of the claim.
-/
import Derived.Test.YtoaoejaodhedaaaGreatE08
import Derived.BigQuiet
import Derived.DeepKeys
import Derived.Test.YtoaoejaodhedaaaGreatE10
namespace Go.Proofs.YtoaoejaodhedaaaGreat
open Go.RowKit
set_option maxHeartbeats 12800000
set_option maxRecDepth 100000
def SlRow (w:World) (r:List Value) (s:Sl):Prop:=∃rv ov sv,r=(SlC s rv ov sv).toList∧SlR w s rv ov sv
def Slvs (w:World) (v:Value) (l:List Sl):Prop:=Sls 19 SlRow w v l
theorem SlRow.keep (w w':World) (r:List Value) (x:Sl) (h:SlRow w r x) (hb:Below w.heap.size w w'):SlRow w' r x:=by
 obtain⟨rv,ov,sv,e,h⟩:=h
 exact⟨rv,ov,sv,e,h.keep hb⟩
theorem Slvs.keep {w w':World} {v:Value} {l:List Sl} (h:Slvs w v l) (hb:Below w.heap.size w w'):Slvs w' v l:=Sls.keep SlRow.keep h hb
theorem Slvs.at {w:World} {a:Option Addr} {n c:Nat} {l:List Sl} (h:Slvs w (.slice a n c) l) {i:Nat} {s:Sl} (hi:l[i]?=some s):
  ∃b o rv ov sv,a=some ⟨b,o,none⟩∧SlR w s rv ov sv∧∀j u,(SlC s rv ov sv)[j]?=some u→w.cell? ⟨b,o+i*19+j,none⟩=some u:=by
 obtain⟨-,-,-,hel⟩:=Sls.get h
 obtain⟨b,o,ha,r,hr,⟨rv,ov,sv,rfl,hR⟩,hc⟩:=hel i s hi
 exact⟨b,o,rv,ov,sv,ha,hR,fun j u hj=>hc j u (by simpa using hj)⟩
theorem Slvs.slc {w:World} {v:Value} {l:List Sl} (h:Slvs w v l):∃a c,v=.slice a l.length c:=by
 obtain⟨a,c,e,-⟩:=h
 exact⟨a,c,e⟩
theorem SlC_rd (s:Sl) (rv:Nat→Value) (ov sv:Value) {k:Nat} (hk:k<4):(SlC s rv ov sv)[3+k*3+1]?=some (rv k):=by
 match k,hk with
 |0,_=>rfl
 |1,_=>rfl
 |2,_=>rfl
 |3,_=>rfl
theorem hpRowB {w:World} {b:Nat} {C:Array Value} {t:TypeId} {fz:Nat×Nat} (h:w.heap[b]?=some (.cells C t fz)) (j:Nat) (v:Value) (hj:C.toList[j]?=some v):w.cell? ((⟨b,0,none⟩:Addr).add j)=some v:=by
 have e:(⟨b,0,none⟩:Addr).add j=⟨b,j,none⟩:=by unfold Addr.add;split<;>simp_all
 rw[e,hpCell h]
 simpa using hj
theorem bool_is {p:Prop}:∃B:Bool,(B=true↔p):=by
 by_cases h:p
 ·exact ⟨true,fun _=>h,fun _=>rfl⟩
 ·exact ⟨false,fun e=>(by cases e),fun e=>absurd e h⟩
theorem wpList_load_atH {P:Program} {ops:Array Oper} {rest:List Oper} {o:Oper} {a:Act} {w:World} {Q:Exit→Act→World→Prop} (hw:Region.wanted o (yielded ops a.tmps)=true) (ty:TypeId) (x:Operand) (ho:o.op=.load ty x)
  (ad:Addr) (hx:a.eval x=.pointer (some ad)) (cs:Array Value) (d:TypeDesc) (hc:∀j v,cs.toList[j]?=some v→w.cell? (ad.add j)=some v)
  (hu:P.underlying ty=some d) (hd:(match d with|.struct _|.array _ _=>true|_=>false)=true) (hi:(P.info? ty).map (·.size)=some cs.size)
  (h:wpList P ops Q rest (a.put o.dst (.agg cs)) w):wpList P ops Q (o::rest) a w:=
 wpList_step fun K hK=>by
  rw[if_pos hw]
  unfold Oper.wp execOp
  simp only[ho,hx,Instr.loadAt,Instr.sureAddr,Sem.run_bind,Sem.run_pure,Result.andThen_ok,run_loadVar_at w ad ty cs d hc hu hd hi]
  exact hK _ _ h
def BusP (l:List Sl):Prop:=l.length≤16∧∀s∈l,s.val
theorem wfJ {n:Int} (h:wfI n):(Lit.int .i64 n).wf=true:=by
 have e1:IntKind.i64.min=-9223372036854775808:=by decide
 have e2:IntKind.i64.max=9223372036854775807:=by decide
 simp only[Lit.wf,e1,e2,Bool.and_eq_true,decide_eq_true_eq]
 exact h
theorem eq_setB (a b c d:Int) (f1:wfI a) (f2:wfI b) (f3:wfI c) (f4:wfI d) (B:Bool) (hB:B=true↔a=c∧b=d) (X:World):
  (binOp .eql 61 (.agg #[.int .i64 a,.int .i64 b]) (.agg #[.int .i64 c,.int .i64 d])).run Tryz.prog X=.ok (.bool B) X:=by
 have w1:(Lit.int .i64 a).wf=true:=wfJ f1
 have w2:(Lit.int .i64 b).wf=true:=wfJ f2
 have w3:(Lit.int .i64 c).wf=true:=wfJ f3
 have w4:(Lit.int .i64 d).wf=true:=wfJ f4
 have hk:Tryz.prog.keyTypeAt 3 61=true:=by kernel_rfl
 have hf:(Value.agg #[.int .i64 a,.int .i64 b]).formed Tryz.prog 61=true:=by kernel_rfl
 have hg:(Value.agg #[.int .i64 c,.int .i64 d]).formed Tryz.prog 61=true:=by kernel_rfl
 have c1:Tryz.prog.cellsOf 61=2:=by kernel_rfl
 have c2:Tryz.prog.cellsOf 3=1:=by kernel_rfl
 have ha:Tryz.prog.keyLits 5 61 (Value.agg #[.int .i64 a,.int .i64 b]).cells.toList=some [.int .i64 a,.int .i64 b]:=by
  simp [Program.keyLits,Tryz.underlying61,Tryz.underlying3,w1,w2,c1,c2,Value.cells]
 have hb:Tryz.prog.keyLits 5 61 (Value.agg #[.int .i64 c,.int .i64 d]).cells.toList=some [.int .i64 c,.int .i64 d]:=by
  simp [Program.keyLits,Tryz.underlying61,Tryz.underlying3,w3,w4,c1,c2,Value.cells]
 obtain⟨r,hr,hi⟩:=run_equalIn_deep (P:=Tryz.prog) 9997 3 61 hk X 5 5 _ _ _ _ hf hg ha hb
 have e:r=B:=by
  have h2:r=true↔a=c∧b=d:=by rw[hi];simp
  cases r<;>cases B
  ·rfl
  ·exact absurd (h2.2 (hB.1 rfl)) Bool.noConfusion
  ·exact absurd (hB.2 (h2.1 rfl)) Bool.noConfusion
  ·rfl
 subst e
 simp only[binOp]
 simp [Op.equal,Op.maxDepth,hr]
def isMb (bd pa un:Int) (s:Sl):Bool:=decide (s.bd=bd∧s.pa=pa)&&decide (s.un=un)
def memb (l:List Sl) (bd pa un:Int):Nat→List Nat
 |0=>[]
 |k+1=>memb l bd pa un k++(match l[k]? with|some s=>if isMb bd pa un s=true then [k] else []|none=>[])
theorem memb_yes {l:List Sl} {bd pa un:Int} {k:Nat} {s:Sl} (hs:l[k]?=some s) (h:isMb bd pa un s=true):memb l bd pa un (k+1)=memb l bd pa un k++[k]:=by
 show _++(match l[k]? with|some s=>if isMb bd pa un s=true then [k] else []|none=>[])=_
 rw[hs]
 dsimp only
 rw[if_pos h]
theorem memb_no {l:List Sl} {bd pa un:Int} {k:Nat} {s:Sl} (hs:l[k]?=some s) (h:isMb bd pa un s=false):memb l bd pa un (k+1)=memb l bd pa un k:=by
 show _++(match l[k]? with|some s=>if isMb bd pa un s=true then [k] else []|none=>[])=_
 rw[hs]
 dsimp only
 rw[if_neg (by rw[h];decide),List.append_nil]
theorem memb_mem {l:List Sl} {bd pa un:Int}:∀{k j:Nat},j∈memb l bd pa un k→∃s,l[j]?=some s∧isMb bd pa un s=true
 |0,j,h=>by cases h
 |k+1,j,h=>by
  rcases List.mem_append.1 h with h|h
  ·exact memb_mem h
  ·cases hs:l[k]? with
   |none=>rw[hs] at h;cases h
   |some s=>
    rw[hs] at h
    dsimp only at h
    split at h
    ·rw [List.mem_singleton] at h
     subst h
     exact⟨s,hs,by assumption⟩
    ·cases h
def MbPost (w:World) (ms:List Nat) (r:Ending) (w':World):Prop:=
 ∃a c,r=.returned (.slice a ms.length c)∧w'.ownsRow w.heap.size 3 1 (.slice a ms.length c) ms.length (ms.map fun i:Nat=>.int .i64 (i:Int))∧Below w.heap.size w w'
def ObPost (w:World) (s:Sl) (r:Ending) (w':World):Prop:=∃V:Bool,r=.returned (.bool V)∧Hid (V=true↔objsV s.lv s.objs)∧Below w.heap.size w w'
theorem ObPost.no {w w':World} {s:Sl} (h:¬objsV s.lv s.objs) (hb:Below w.heap.size w w'):ObPost w s (.returned (.bool false)) w':=⟨false,rfl,⟨fun e=>(by cases e),fun e=>absurd e h⟩,hb⟩
theorem ObPost.yes {w w':World} {s:Sl} (h:objsV s.lv s.objs) (hb:Below w.heap.size w w'):ObPost w s (.returned (.bool true)) w':=⟨true,rfl,⟨fun _=>h,fun _=>rfl⟩,hb⟩
theorem infoSL:(Tryz.prog.info? 68).map (·.size)=some 19:=by kernel_rfl
theorem z10_1 {p:Prop} (h:p:=by
 have c5:decide ((64:Int)<(xn:Int))=true:=decide_eq_true (by omega)
 have HV:=hid (HNO.out (fun h=>by have:=h.vl;rw[HXN.out] at this;omega))
 clear e1 e2 e3 hk2
 go_upto_region 8 with(fail)
 rw[HWX.out]
 go_quiet ((go_at_call 179;with_reducible exact Calls.quiet_of_same (v:=.int .i64 G) ((HG.out _).mono fun _ _ h=>⟨h.1,h.2.symm⟩)));go_wp2;go_ret;exact ObPost.no HV.out (below_drewN HBX.out _)):p:=h
theorem z10_2 {p:Prop} (h:p:=by
 have c4:decide (G<xi)=true:=decide_eq_true e2
 have HV:=hid (HNO.out (fun h=>by have:=h.gr;rw[HXI.out,HGG.out] at this;omega))
 clear e1 e2 hk2
 go_upto_region 8 with(fail)
 rw[HWX.out]
 go_quiet ((go_at_call 179;with_reducible exact Calls.quiet_of_same (v:=.int .i64 G) ((HG.out _).mono fun _ _ h=>⟨h.1,h.2.symm⟩)));go_wp2;go_ret;exact ObPost.no HV.out (below_drewN HBX.out _)):p:=h
theorem z10_3 {p:Prop} (h:p:=by
 clear e1 e2 e3 hk2
 go_upto_region 8 with(fail)
 rw[HWX.out]
 go_quiet ((go_at_call 179;with_reducible exact Calls.quiet_of_same (v:=.int .i64 G) ((HG.out _).mono fun _ _ h=>⟨h.1,h.2.symm⟩)));go_wp2;go_roundw
 case rel=>exact⟨k+1,by omega,by go_num,HA.out,below_drewN HBY.out _⟩
 case measure=>simp [intOf];omega):p:=h
theorem pobjs_val (s:Sl) (rv:Nat→Value) (ov sv:Value) (w:World) (hR:SlR w s rv ov sv):
  Calls Tryz.prog 149 #[.agg (SlC s rv ov sv)] w (ObPost w s):=by
 obtain⟨oa,oc,rfl,-⟩:=id hR.ob
 obtain⟨on,hon⟩:∃n,s.objs.length=n:=⟨_,rfl⟩
 have hcap:=hR.ob.len
 rw[hon] at hcap
 unfold maxLen at hcap
 rw[hon]
 obtain⟨C,hC⟩:∃C,SlC s rv (.slice oa on oc) sv=C:=⟨_,rfl⟩
 rw[hC]
 obtain⟨W1,hW1⟩:∃W,w.alloc (.cells C 68)=W:=⟨_,rfl⟩
 have hb1:Below w.heap.size w W1:=by rw[←hW1];exact bal' w _
 have pS:W1.heap[w.heap.size]?=some (.cells C 68):=by rw[←hW1];exact hpNew w _
 obtain⟨lv,hlv⟩:∃l,s.lv=l:=⟨_,rfl⟩
 have t15:∀X,Below W1.heap.size W1 X→X.cell? ⟨w.heap.size,15,none⟩=some (.int .i64 lv):=fun X h=>by rw[←hlv,hpCell (hpKeep pS h) 15,←hC];rfl
 have t16:∀X,Below W1.heap.size W1 X→X.cell? ⟨w.heap.size,16,none⟩=some (.slice oa on oc):=fun X h=>by rw[hpCell (hpKeep pS h) 16,←hC];rfl
 have k0:Below W1.heap.size W1 W1:=Below.refl _ _
 have HON:=hid hon
 have HLV:=hid hlv
 have HW1:=hid hW1
 have HB1:=hid hb1
 have HR:=hid hR
 clear hW1 hb1 pS hC hlv hon hR
 by_cases h0:lv=0
 ·have d0:(lv==0)=true:=b1 h0
  have HE:Hid (objsV s.lv s.objs↔on=0):=by
   show _↔_
   unfold objsV
   rw[if_pos (by rw[HLV.out];exact h0),HON.out]
  clear h0
  by_cases e:on=0
  ·have d1:((on:Int)==0)=true:=b1 (by omega)
   have HV:Hid (objsV s.lv s.objs):=HE.out.2 e
   clear e
   go_enter Tryz.func149,Tryz.ntmps149;go_upto_region 1 with(fail);rw[HW1.out]
   go_wp2
   go_ret
   exact ObPost.yes HV.out HB1.out
  ·have d1:((on:Int)==0)=false:=b0 (by omega)
   have HV:Hid (¬objsV s.lv s.objs):=fun h=>e (HE.out.1 h)
   clear e
   go_enter Tryz.func149,Tryz.ntmps149;go_upto_region 1 with(fail);rw[HW1.out]
   go_wp2
   go_ret
   exact ObPost.no HV.out HB1.out
 have d0:(lv==0)=false:=b0 h0
 have HE:Hid (objsV s.lv s.objs↔1≤lv∧lv≤3∧ObsV lv s.objs):=by
  show _↔_
  unfold objsV
  rw[if_neg (by rw[HLV.out];exact h0),HLV.out]
 clear h0
 by_cases h1:lv<1
 ·have d1:decide (lv<1)=true:=decide_eq_true h1
  have HV:Hid (¬objsV s.lv s.objs):=fun h=>by have:=(HE.out.1 h).1;omega
  clear h1
  go_enter Tryz.func149,Tryz.ntmps149;go_upto_region 1 with(fail);rw[HW1.out]
  go_wp2
  go_ret
  exact ObPost.no HV.out HB1.out
 have d1:decide (lv<1)=false:=decide_eq_false h1
 by_cases h2:3<lv
 ·have d2:decide (3<lv)=true:=decide_eq_true h2
  have HV:Hid (¬objsV s.lv s.objs):=fun h=>by have:=(HE.out.1 h).2.1;omega
  clear h1 h2
  go_enter Tryz.func149,Tryz.ntmps149;go_upto_region 1 with(fail);rw[HW1.out]
  go_wp2
  go_ret
  exact ObPost.no HV.out HB1.out
 have d2:decide (3<lv)=false:=decide_eq_false h2
 by_cases h3:16<on
 ·have d3:decide ((16:Int)<(on:Int))=true:=decide_eq_true (by omega)
  have HV:Hid (¬objsV s.lv s.objs):=fun h=>by have:=(HE.out.1 h).2.2.on.1;have:=HON.out;omega
  clear h1 h2 h3
  go_enter Tryz.func149,Tryz.ntmps149;go_upto_region 1 with(fail);rw[HW1.out]
  go_wp2
  go_ret
  exact ObPost.no HV.out HB1.out
 have d3:decide ((16:Int)<(on:Int))=false:=decide_eq_false (by omega)
 by_cases h4:on≤2
 ·have d4:decide ((on:Int)≤2)=true:=decide_eq_true (by omega)
  have HV:Hid (¬objsV s.lv s.objs):=fun h=>by have:=(HE.out.1 h).2.2.on.2;have:=HON.out;omega
  clear h1 h2 h3 h4
  go_enter Tryz.func149,Tryz.ntmps149;go_upto_region 1 with(fail);rw[HW1.out]
  go_wp2
  go_ret
  exact ObPost.no HV.out HB1.out
 have d4:decide ((on:Int)≤2)=false:=decide_eq_false (by omega)
 have HOV:Hid (ObsV lv s.objs↔∀(i:Nat) (x:Ob),s.objs[i]?=some x→obStep lv s.objs i x):=obsV_iff (by have:=HON.out;omega) (by have:=HON.out;omega)
 have HLB:Hid (1≤lv∧lv≤3):=by show _∧_;omega
 have HO16:Hid (on≤16):=by show on≤16;omega
 obtain⟨G,hG⟩:∃g,grI lv=g:=⟨_,rfl⟩
 have HGG:=hid hG
 have HG:Hid (∀X,Calls Tryz.prog 179 #[.int .i64 lv] X fun r w'=>r=.returned (.int .i64 G)∧X=w'):=fun X=>by rw[←hG];exact greatest_any lv X
 clear h1 h2 h3 h4 hG
 go_enter Tryz.func149,Tryz.ntmps149;go_upto_region 1 with(fail);rw[HW1.out]
 go_wp2_with fail
 go_loopw [35] (fun iv wr=>∃k:Nat,k≤on∧iv=.int .i64 (k:Int)∧Hid (∀(i:Nat) (x:Ob),i<k→s.objs[i]?=some x→obStep lv s.objs i x)∧Below W1.heap.size W1 wr) (fun iv _=>on- (intOf iv).toNat)
 case atStart=>exact⟨0,Nat.zero_le _,rfl,fun i x hi=>absurd hi (Nat.not_lt_zero _),Below.refl _ _⟩
 case round=>
  obtain⟨k,hk,rfl,hall,hbw⟩:=hrel
  have hki:(0:Int)≤(k:Int):=Int.natCast_nonneg _
  by_cases hlt:k<on
  ·obtain ⟨x,hx⟩:=gs (l:=s.objs) HON.out hlt
   obtain⟨a',n',c',hv',-,-,-,-,hel⟩:=HR.out.ob.open_
   simp only[Value.slice.injEq] at hv'
   obtain⟨rfl,rfl,rfl⟩:=hv'
   obtain⟨b,o,xa,xc,rfl,z0,z1,hxb⟩:=hel k x hx
   have hBw:Below w.heap.size w wr:=bt HB1.out hbw (Nat.le_refl _)
   have y0:wr.cell? ⟨b,o+k*2,none⟩=some (.int .i64 x.id):=cell_keep hBw z0
   have y1:wr.cell? ⟨b,o+k*2+1,none⟩=some (.slice xa x.val.length xc):=cell_keep hBw z1
   obtain⟨xn,hxn⟩:∃n,x.val.length=n:=⟨_,rfl⟩
   obtain⟨xi,hxi⟩:∃n,x.id=n:=⟨_,rfl⟩
   rw[hxn] at y1
   rw[hxi] at y0
   have hkl:(k:Int)<(on:Int):=by omega
   obtain⟨WX,hWX⟩:∃W,wr.alloc (.cells #[.int .i64 xi,.slice xa xn xc] 165)=W:=⟨_,rfl⟩
   have hbx:Below wr.heap.size wr WX:=by rw[←hWX];exact bal' _ _
   have px:WX.heap[wr.heap.size]?=some (.cells #[.int .i64 xi,.slice xa xn xc] 165):=by rw[←hWX];exact hpNew _ _
   have v0:WX.cell? ⟨wr.heap.size,0,none⟩=some (.int .i64 xi):=hpCell px 0
   have v1:WX.cell? ⟨wr.heap.size,1,none⟩=some (.slice xa xn xc):=hpCell px 1
   have hbX:Below W1.heap.size W1 WX:=bt hbw hbx (Nat.le_refl _)
   have u15:=t15 WX hbX
   have u16:=t16 WX hbX
   have HBX:Hid (Below w.heap.size w WX):=bt HB1.out hbX (Nat.le_refl _)
   have HBY:Hid (Below W1.heap.size W1 WX):=hbX
   have HWX:=hid hWX
   have HX:=hid hx
   have HXI:=hid hxi
   have HXN:=hid hxn
   have HNO:Hid (¬obStep lv s.objs k x→¬objsV s.lv s.objs):=fun hn h=>hn (HOV.out.1 (HE.out.1 h).2.2 k x HX.out)
   have HYS:Hid (obStep lv s.objs k x→∀(i:Nat) (y:Ob),i<k+1→s.objs[i]?=some y→obStep lv s.objs i y):=fun hs i y hi hy=>by
    by_cases e:i=k
    ·subst e
     rw[HX.out] at hy
     cases hy
     exact hs
    ·exact hall.out i y (by omega) hy
   have HEL:=hid hel
   clear hx hxi hxn hWX hbx px hbX z0 z1 hxb hel hall
   by_cases hk2:k≤2
   ·have c1:decide ((k:Int)≤2)=true:=decide_eq_true (by omega)
    have c2:decide ((2:Int)<(k:Int))=false:=decide_eq_false (by omega)
    by_cases e1:xi=(k:Int)
    ·have c3:(xi !=(k:Int))=false:=by rw[bne_eq_false_iff_eq];exact e1
     by_cases e2:G<xi
     ·exact z10_2
     ·have c4:decide (G<xi)=false:=decide_eq_false e2
      by_cases e3:64<xn
      ·exact z10_1
      ·have c5:decide ((64:Int)<(xn:Int))=false:=decide_eq_false (by omega)
       have HA:=hid (HYS.out ⟨fun _=>by rw[HXI.out];exact e1,fun e=>by omega,by rw[HXI.out,HGG.out];omega,by rw[HXN.out];omega⟩)
       exact z10_3
    ·have c3:(xi !=(k:Int))=true:=by rw[bne_iff_ne];exact e1
     have HV:=hid (HNO.out (fun h=>e1 (by rw[←HXI.out];exact h.lo hk2)))
     clear e1 hk2
     go_upto_region 8 with(fail)
     rw[HWX.out]
     go_quiet ((go_at_call 179;with_reducible exact Calls.quiet_of_same (v:=.int .i64 G) ((HG.out _).mono fun _ _ h=>⟨h.1,h.2.symm⟩)));go_wp2;go_ret;exact ObPost.no HV.out (below_drewN HBX.out _)
   ·have c1:decide ((k:Int)≤2)=false:=decide_eq_false (by omega)
    have c2:decide ((2:Int)<(k:Int))=true:=decide_eq_true (by omega)
    obtain⟨j,hj⟩:∃j,k=j+1:=⟨k-1,by omega⟩
    obtain⟨y,hy⟩:=gs (l:=s.objs) HON.out (show j<on by omega)
    obtain⟨b',o',ya,yc,hbo,z0,-,-⟩:=HEL.out j y hy
    simp only[Option.some.injEq,Addr.mk.injEq,and_true] at hbo
    obtain⟨rfl,rfl⟩:=hbo
    obtain⟨yi,hyi⟩:∃n,y.id=n:=⟨_,rfl⟩
    rw[hyi] at z0
    have p0:WX.cell? ⟨b,o+j*2,none⟩=some (.int .i64 yi):=cell_keep HBX.out z0
    have s1:IntKind.i64.wrap ((k:Int)-1)=(j:Int):=(IntWalk.i64_in _ (by omega)).trans (by omega)
    have hj0:(0:Int)≤(j:Int):=Int.natCast_nonneg _
    have hjn:(j:Int)<(on:Int):=by omega
    have HY:Hid (s.objs[k-1]?=some y):=by show _=_;rw[hj,show j+1-1=j by omega];exact hy
    have HYI:=hid hyi
    clear hj hy z0 hyi
    by_cases e1:xi≤yi
    ·have c3:decide (xi≤yi)=true:=decide_eq_true e1
     have HV:=hid (HNO.out (fun h=>by have:=h.hi (by omega) y HY.out;rw[HXI.out,HYI.out] at this;omega))
     clear e1 hk2
     go_upto_region 8 with(fail)
     rw[HWX.out]
     go_quiet ((go_at_call 179;with_reducible exact Calls.quiet_of_same (v:=.int .i64 G) ((HG.out _).mono fun _ _ h=>⟨h.1,h.2.symm⟩)));go_wp2;go_ret;exact ObPost.no HV.out (below_drewN HBX.out _)
    ·have c3:decide (xi≤yi)=false:=decide_eq_false e1
     by_cases e2:G<xi
     ·exact z10_2
     ·have c4:decide (G<xi)=false:=decide_eq_false e2
      by_cases e3:64<xn
      ·exact z10_1
      ·have c5:decide ((64:Int)<(xn:Int))=false:=decide_eq_false (by omega)
       have HA:=hid (HYS.out ⟨fun e=>by omega,fun _ z hz=>by rw[HY.out] at hz;cases hz;rw[HXI.out,HYI.out];omega,by rw[HXI.out,HGG.out];omega,by rw[HXN.out];omega⟩)
       exact z10_3
  ·obtain rfl:k=on:=by omega
   have HV:Hid (objsV s.lv s.objs):=HE.out.2 ⟨HLB.out.1,HLB.out.2,HOV.out.2 fun i x hx=>hall.out i x (by rw[←HON.out];exact(List.getElem?_eq_some_iff.1 hx).1) hx⟩
   have HBZ:Hid (Below w.heap.size w wr):=bt HB1.out hbw (Nat.le_refl _)
   clear hall
   go_wp2
   go_ret
   exact ObPost.yes HV.out HBZ.out
end Go.Proofs.YtoaoejaodhedaaaGreat
