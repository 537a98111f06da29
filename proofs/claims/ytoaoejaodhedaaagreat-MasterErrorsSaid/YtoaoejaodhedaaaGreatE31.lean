/-
 Texts 31 of the claim.
-/
import Derived.Test.YtoaoejaodhedaaaGreatE04
import Derived.Test.YtoaoejaodhedaaaGreatE01
import Derived.Test.YtoaoejaodhedaaaGreatE07
import Derived.Test.YtoaoejaodhedaaaGreatE30
import Derived.Test.YtoaoejaodhedaaaGreatE16
namespace Go.Proofs.YtoaoejaodhedaaaGreat
open Go.RowKit
set_option maxHeartbeats 3200000
set_option maxRecDepth 100000
theorem match1_any (id:Int) (xa:Option Addr) (xn xc g:Nat) (qo:Int) (w:World) (hg:w.cell? ⟨g,4,none⟩=some (.int .i64 qo)):
  Calls Tryz.prog 199 #[.agg #[.int .i64 id,.slice xa xn xc],.pointer (some ⟨g,0,none⟩)] w fun r w'=>r=.returned (.bool (decide (id<qo)))∧Below w.heap.size w w':=by
 have c4:∀X,(w.alloc X).cell? ⟨g,4,none⟩=some (.int .i64 qo):=fun X=>cell_keep (bal' w X) hg
 have HB:Hid (∀X,Below w.heap.size w (w.alloc X)):=fun X=>bal' w X
 clear hg
 go_enter Tryz.func199,Tryz.ntmps199
 go_wp2
 go_ret
 exact⟨rfl,HB.out _⟩
def lessOb (qo:Int) (l:List Ob):Bool:=l.any fun x=>decide (x.id<qo)
theorem idxF_any (v:Value) (l:List Ob) (w:World) (ho:Obs w v l) (g:Nat) (qo:Int) (hg:w.cell? ⟨g,4,none⟩=some (.int .i64 qo)) (V:Bool) (hV:Hid (lessOb qo l=V)):
  Calls Tryz.prog 218 #[v,.func (.func 199) #[] #[.pointer (some ⟨g,0,none⟩)]] w fun r w'=>IdxPost V r∧Below w.heap.size w w':=by
 obtain⟨a,n,c,rfl,hln,hn,hnc,hcm,hel⟩:=ho.open_
 clear ho
 replace hel:=hid hel
 replace hln:=hid hln
 go_enter Tryz.func218,Tryz.ntmps218
 go_wp2
 go_loopw [8] (fun i wr=>∃k:Nat,k≤n∧i=.int .i64 k∧Hid (lessOb qo (l.take k)=false)∧Below w.heap.size w wr) (fun i _=>n- (intOf i).toNat)
 case atStart=>exact⟨0,Nat.zero_le _,rfl,rfl,Below.refl _ _⟩
 case round=>
  obtain⟨k,hk,rfl,hno,hbw⟩:=hrel
  by_cases hlt:k<n
  ·obtain ⟨x,hgx⟩:=get_some hln.out hlt
   obtain⟨b,o,xa,xc,rfl,d1,d2,hb⟩:=hel.out k x hgx
   have hxm:=hb.len
   unfold maxLen at hxm
   replace d1:=cell_keep hbw d1
   replace d2:=cell_keep hbw d2
   have HM:Hid (Calls Tryz.prog 199 #[.agg #[.int .i64 x.id,.slice xa x.val.length xc],.pointer (some ⟨g,0,none⟩)] wr fun r w'=>r=.returned (.bool (decide (x.id<qo)))∧Below wr.heap.size wr w'):=match1_any _ _ _ _ _ _ wr (cell_keep hbw hg)
   have HST:Hid (lessOb qo (l.take (k+1))=decide (x.id<qo)):=by
    have h1:=hno.out
    show _=_
    unfold lessOb at h1 ⊢
    rw[take_succ_snoc hgx,List.any_append,h1]
    simp
   have HGX:Hid (x∈l):=List.mem_of_getElem? hgx
   have hkl:(k:Int)<(n:Int):=by omega
   clear hgx hb
   go_wp2_with fail
   refine HM.out.mono ?_
   rintro r w1 ⟨rfl,hb1⟩
   by_cases hx:x.id<qo
   ·have d:decide (x.id<qo)=true:=decide_eq_true hx
    have HF:Hid (V=true):=by
     show _=_
     rw[←hV.out]
     exact List.any_eq_true.2 ⟨x,HGX.out,d⟩
    clear hx
    go_wp2
    go_ret
    exact⟨⟨k,rfl,⟨fun _=>HF.out,fun _=>Int.natCast_nonneg _⟩⟩,bt hbw hb1 (Nat.le_refl _)⟩
   ·have d:decide (x.id<qo)=false:=decide_eq_false hx
    rw[d] at HST
    clear hx
    go_wp2
    go_roundw
    case rel=>exact⟨k+1,by omega,by go_num,HST,bt hbw hb1 (Nat.le_refl _)⟩
    case measure=>simp [intOf];omega
  ·obtain rfl:k=n:=by omega
   have HF:Hid (V=false):=by
    have h1:=hno.out
    rw[←hln.out,List.take_length] at h1
    show _=_
    rw[←hV.out,h1]
   go_wp2
   go_ret
   exact⟨⟨-1,rfl,⟨fun h=>absurd h (by decide),fun h=>by rw[HF.out] at h;cases h⟩⟩,hbw⟩
theorem contF_any (v:Value) (l:List Ob) (w:World) (ho:Obs w v l) (g:Nat) (qo:Int) (hg:w.cell? ⟨g,4,none⟩=some (.int .i64 qo)) (V:Bool) (hV:Hid (lessOb qo l=V)):
  Calls Tryz.prog 198 #[v,.func (.func 199) #[] #[.pointer (some ⟨g,0,none⟩)]] w fun r w'=>r=.returned (.bool V)∧Below w.heap.size w w':=by
 have HI:=hid (idxF_any v l w ho g qo hg V hV)
 obtain⟨a,n,c,rfl,_⟩:=ho.open_
 clear ho hV
 go_enter Tryz.func198,Tryz.ntmps198
 go_wp2_with fail
 refine HI.out.mono ?_
 rintro r w1 ⟨⟨i,rfl,hi⟩,hb1⟩
 have HV:Hid (decide (0≤i)=V):=by
  show _=_
  cases V with
  |true=>exact decide_eq_true (hi.2 rfl)
  |false=>exact decide_eq_false (fun h=>by cases hi.1 h)
 clear hi
 go_wp2
 go_ret
 exact⟨ret_bool HV.out,hb1⟩
theorem less_none (qo:Int):∀(l:List Ob) (last:Int),rises last l=true→qo≤last→lessOb qo l=false
 |[],_,_,_=>rfl
 |x::l,last,h,hq=>by
  simp only[rises,Bool.and_eq_true,decide_eq_true_eq] at h
  have ih:=less_none qo l x.id h.2 (by omega)
  unfold lessOb at ih ⊢
  rw[List.any_cons,ih,decide_eq_false (by omega)]
  rfl
theorem less_first {l:List Ob} (h:objsB l=true) (qo:Int):(!lessOb qo l)=(l.isEmpty||decide (qo≤firstOb l)):=by
 unfold objsB at h
 rw[Bool.and_eq_true] at h
 match l,h.1 with
 |[],_=>rfl
 |x::l,h1=>
  simp only[rises,Bool.and_eq_true] at h1
  show (!lessOb qo (x::l))=(false||decide (qo≤x.id))
  rw[Bool.false_or]
  by_cases hq:qo≤x.id
  ·have:=less_none qo l x.id h1.2 hq
   unfold lessOb at this ⊢
   rw[List.any_cons,this,decide_eq_false (by omega),decide_eq_true hq]
   rfl
  ·unfold lessOb
   rw[List.any_cons,decide_eq_true (by omega:x.id<qo),decide_eq_false hq]
   rfl
theorem pmat_devs (w:World) (qa qq qo:Int) (da:Option Addr) (dn dc:Nat) (code level:Int) (more:Bool) (next:Int) (oa:Option Addr) (on oc:Nat)
  (H:Hid (PHead w true true 43 qa qq code qo 43 0 da dn dc code level more next oa on oc)) (objs:List Ob) (ho:Obs w (.slice oa on oc) objs) (V:Bool) (hV:Hid (lessOb qo objs=V)):
  Calls Tryz.prog 177 #[.agg #[.int .i64 43,.int .i64 qa,.int .i64 qq,.int .i64 code,.int .i64 qo],.agg #[.int .i64 43,.int .i64 0,.slice da dn dc,.int .i64 code,.int .i64 level,.bool more,.int .i64 next,.slice oa on oc]] w fun r w'=>r=.returned (.bool (!V))∧Below w.heap.size w w':=by
 have kB:∀X Y,Below w.heap.size w ((w.alloc X).alloc Y):=fun X Y=>bta (bal' w X) (Nat.le_refl _) Y
 have HH:=hid (show ((w.alloc (.cells #[.int .i64 43,.int .i64 qa,.int .i64 qq,.int .i64 code,.int .i64 qo] 45)).alloc (.cells #[.int .i64 43,.int .i64 0,.slice da dn dc,.int .i64 code,.int .i64 level,.bool more,.int .i64 next,.slice oa on oc] 53)).heap[w.heap.size]?=some (.cells #[.int .i64 43,.int .i64 qa,.int .i64 qq,.int .i64 code,.int .i64 qo] 45)∧((w.alloc (.cells #[.int .i64 43,.int .i64 qa,.int .i64 qq,.int .i64 code,.int .i64 qo] 45)).alloc (.cells #[.int .i64 43,.int .i64 0,.slice da dn dc,.int .i64 code,.int .i64 level,.bool more,.int .i64 next,.slice oa on oc] 53)).heap[w.heap.size+1]?=some (.cells #[.int .i64 43,.int .i64 0,.slice da dn dc,.int .i64 code,.int .i64 level,.bool more,.int .i64 next,.slice oa on oc] 53) from ⟨hpKeep (hpNew w _) (bal' _ _),by have:=hpNew (w.alloc (.cells #[.int .i64 43,.int .i64 qa,.int .i64 qq,.int .i64 code,.int .i64 qo] 45)) (.cells #[.int .i64 43,.int .i64 0,.slice da dn dc,.int .i64 code,.int .i64 level,.bool more,.int .i64 next,.slice oa on oc] 53);simpa using this⟩)
 go_enter Tryz.func177,Tryz.ntmps177
 go_wp2_with fail
 refine(H.out.1 _).mono ?_
 rintro r w1 ⟨rfl,hb1⟩
 have gQ1:=hpKeep HH.out.1 hb1
 have gR1:=hpKeep HH.out.2 hb1
 have hbw1:=bt (kB _ _) hb1 (Nat.le_refl _)
 obtain⟨e0,e1,e2,e3,e4,e5,e6,e7⟩:w1.cell? ⟨(w.heap.size+1),0,none⟩=some (.int .i64 43)∧w1.cell? ⟨(w.heap.size+1),1,none⟩=some (.int .i64 0)∧w1.cell? ⟨(w.heap.size+1),2,none⟩=some (.slice da dn dc)∧w1.cell? ⟨(w.heap.size+1),3,none⟩=some (.int .i64 code)∧w1.cell? ⟨(w.heap.size+1),4,none⟩=some (.int .i64 level)∧w1.cell? ⟨(w.heap.size+1),5,none⟩=some (.bool more)∧w1.cell? ⟨(w.heap.size+1),6,none⟩=some (.int .i64 next)∧w1.cell? ⟨(w.heap.size+1),7,none⟩=some (.slice oa on oc):=⟨hpCell gR1 0,hpCell gR1 1,hpCell gR1 2,hpCell gR1 3,hpCell gR1 4,hpCell gR1 5,hpCell gR1 6,hpCell gR1 7⟩
 clear hb1 kB
 go_wp2_with fail
 refine(H.out.2 _ hbw1).mono ?_
 rintro r w2 ⟨rfl,hb2⟩
 have gQ:=hpKeep gQ1 hb2
 have gR:=hpKeep gR1 hb2
 have hbw2:=bt hbw1 hb2 (Nat.le_refl _)
 clear e0 e1 e2 e3 e4 e5 e6 e7 gQ1 gR1 hbw1 hb2
 obtain⟨e0,e1,e2,e3,e4,e5,e6,e7⟩:w2.cell? ⟨(w.heap.size+1),0,none⟩=some (.int .i64 43)∧w2.cell? ⟨(w.heap.size+1),1,none⟩=some (.int .i64 0)∧w2.cell? ⟨(w.heap.size+1),2,none⟩=some (.slice da dn dc)∧w2.cell? ⟨(w.heap.size+1),3,none⟩=some (.int .i64 code)∧w2.cell? ⟨(w.heap.size+1),4,none⟩=some (.int .i64 level)∧w2.cell? ⟨(w.heap.size+1),5,none⟩=some (.bool more)∧w2.cell? ⟨(w.heap.size+1),6,none⟩=some (.int .i64 next)∧w2.cell? ⟨(w.heap.size+1),7,none⟩=some (.slice oa on oc):=⟨hpCell gR 0,hpCell gR 1,hpCell gR 2,hpCell gR 3,hpCell gR 4,hpCell gR 5,hpCell gR 6,hpCell gR 7⟩
 obtain⟨y0,y1,y2,y3,y4⟩:w2.cell? ⟨w.heap.size,0,none⟩=some (.int .i64 43)∧w2.cell? ⟨w.heap.size,1,none⟩=some (.int .i64 qa)∧w2.cell? ⟨w.heap.size,2,none⟩=some (.int .i64 qq)∧w2.cell? ⟨w.heap.size,3,none⟩=some (.int .i64 code)∧w2.cell? ⟨w.heap.size,4,none⟩=some (.int .i64 qo):=⟨hpCell gQ 0,hpCell gQ 1,hpCell gQ 2,hpCell gQ 3,hpCell gQ 4⟩
 clear gQ gR
 go_wp2_with fail
 refine(contF_any _ objs w2 (ho.keep hbw2) w.heap.size qo y4 V hV).mono ?_
 rintro r w3 ⟨rfl,hb3⟩
 go_wp2
 go_ret
 exact⟨rfl,bt hbw2 hb3 (Nat.le_refl _)⟩
theorem phead_mk (w:World) (qf qa qq qc qo fn exc:Int) (da:Option Addr) (dn dc:Nat) (code level:Int) (more:Bool) (next:Int) (oa:Option Addr) (on oc:Nat) (data:List UInt8) (objs:List Ob)
  (hd:Bs w (.slice da dn dc) data) (ho:Obs w (.slice oa on oc) objs) (hl:level≤9223372036854775807) (hl2: -9223372036854775808≤level):
  PHead w (Rq.ok ⟨qf,qa,qq,qc,qo⟩) (Rp.ok ⟨fn,exc,data,code,level,more,next,objs⟩) qf qa qq qc qo fn exc da dn dc code level more next oa on oc:=
 ⟨fun W=>pqvalid_any qf qa qq qc qo W,fun W hW=>rvalid_any fn exc _ code level more next _ data objs W (hd.keep hW) (ho.keep hW) hl hl2⟩
theorem pmatch_any (w:World) (qf qa qq qc qo fn exc:Int) (da:Option Addr) (dn dc:Nat) (code level:Int) (more:Bool) (next:Int) (oa:Option Addr) (on oc:Nat) (data:List UInt8) (objs:List Ob)
  (hd:Bs w (.slice da dn dc) data) (ho:Obs w (.slice oa on oc) objs) (hl:level≤9223372036854775807) (hl2: -9223372036854775808≤level):
  Calls Tryz.prog 177 #[.agg #[.int .i64 qf,.int .i64 qa,.int .i64 qq,.int .i64 qc,.int .i64 qo],.agg #[.int .i64 fn,.int .i64 exc,.slice da dn dc,.int .i64 code,.int .i64 level,.bool more,.int .i64 next,.slice oa on oc]] w fun r w'=>r=.returned (.bool (matchB ⟨qf,qa,qq,qc,qo⟩ ⟨fn,exc,data,code,level,more,next,objs⟩))∧Below w.heap.size w w':=by
 have H:=phead_mk w qf qa qq qc qo fn exc da dn dc code level more next oa on oc data objs hd ho hl hl2
 obtain⟨V,hV⟩:∃V,matchB ⟨qf,qa,qq,qc,qo⟩ ⟨fn,exc,data,code,level,more,next,objs⟩=V:=⟨_,rfl⟩
 rw[hV]
 unfold matchB at hV
 simp only at hV
 cases h1:Rq.ok ⟨qf,qa,qq,qc,qo⟩ with
 |false=>
  rw[h1] at H hV
  simp only[Bool.false_and] at hV
  subst hV
  exact pmatA w _ _ qf qa qq qc qo fn exc da dn dc code level more next oa on oc H (.inl rfl)
 |true=>
 cases h2:Rp.ok ⟨fn,exc,data,code,level,more,next,objs⟩ with
 |false=>
  rw[h1,h2] at H hV
  simp only[Bool.and_false,Bool.false_and] at hV
  subst hV
  exact pmatA w _ _ qf qa qq qc qo fn exc da dn dc code level more next oa on oc H (.inr (.inl rfl))
 |true=>
 rw[h1,h2] at H hV
 simp only[Bool.true_and] at hV
 by_cases h3:qf=fn
 rotate_left
 ·have:(qf==fn)=false:=by simpa using h3
  rw[this,Bool.false_and] at hV
  subst hV
  exact pmatA w _ _ qf qa qq qc qo fn exc da dn dc code level more next oa on oc H (.inr (.inr h3))
 subst h3
 rw[beq_self_eq_true,Bool.true_and] at hV
 by_cases hx:exc=0
 rotate_left
 ·rw [if_neg hx] at hV
  subst hV
  exact pmat_exc w qa qq qc qo qf exc da dn dc code level more next oa on oc H (by simpa using hx)
 subst hx
 rw[if_pos rfl] at hV
 obtain⟨hdn,_,_⟩:=hd.capOf
 have hon:=ho.capOf
 have hk:qf=1∨qf=2∨qf=3∨qf=4∨qf=17∨qf=43:=by
  unfold Rq.ok at h1
  simp only at h1
  split at h1
  ·omega
  ·split at h1
   ·omega
   ·split at h1
    ·omega
    ·cases h1
 have hq:(1≤qf∧qf≤4)→1≤qq∧qq≤2000:=by
  intro h
  unfold Rq.ok at h1
  simp only at h1
  rw[if_pos h] at h1
  simp at h1
  have:=(limI_bd qf).2
  omega
 have hbits:(qf=1∨qf=2)→∀s:Nat,qq%8=s→1≤s→(dn:Int)=(qq+7)/8→∃b o,da=some ⟨b,o,none⟩∧1≤dn∧∀W,Below w.heap.size w W→W.cell? ⟨b,o+(dn-1),none⟩=some (.int .u8 (lastB data)):=by
  intro h s hs hs1 hn
  have:=hq (by omega)
  have hdp:1≤dn:=by omega
  obtain⟨b,o,rfl,hc⟩:=hd.byte (i:=dn-1) (by omega)
  refine⟨b,o,rfl,hdp,fun W hW=>?_⟩
  have:=cell_keep hW hc
  rw[this]
  unfold lastB bAt
  rw[hdn]
 have hmod:1≤qq→qq.tmod 8=qq%8:=fun h=>Int.tmod_eq_emod_of_nonneg (by omega)
 have hm1:=Int.emod_nonneg qq (show (8:Int)≠0 by decide)
 have hm2:=Int.emod_lt_of_pos qq (show 0<(8:Int) by decide)
 rcases hk with rfl|rfl|rfl|rfl|rfl|rfl
 ·rw [if_pos (by decide)] at hV
  rw[hdn] at hV
  obtain⟨q1,q2⟩:=hq (by decide)
  by_cases hn:(dn:Int)=(qq+7)/8
  ·have hn':((dn:Int) !=(qq+7)/8)=false:=by rw[bne_eq_false_iff_eq];exact hn
   have hn2:((dn:Int)==(qq+7)/8)=true:=by rw[beq_iff_eq];exact hn
   rw[hn2,Bool.true_and] at hV
   by_cases hz:qq%8=0
   ·rw [hz] at hV
    have:V=true:=by rw[←hV];rfl
    subst this
    exact pmat_bitz1 w qa qq qc qo da dn dc code level more next oa on oc H q1 q2 hn' (by rw[hmod q1];exact hz)
   ·obtain ⟨s,hs⟩:=Int.eq_ofNat_of_zero_le hm1
    have hs1:1≤s:=by omega
    obtain⟨b,o,rfl,ha,hx⟩:=hbits (by decide) s hs hs1 hn
    have hs0:((s:Int)==0)=false:=by rw[beq_eq_false_iff_ne];omega
    rw[hs,hs0,Bool.false_or,Int.toNat_natCast] at hV
    exact pmat_bits1 w qa qq qc qo b o dn dc code level more next oa on oc H q1 q2 hn' s (by rw[hmod q1];exact hs) hs1 (by omega) hs0 ha _ hx V hV
  ·have hn':((dn:Int) !=(qq+7)/8)=true:=by rw[bne_iff_ne];exact hn
   have hn2:((dn:Int)==(qq+7)/8)=false:=by rw[beq_eq_false_iff_ne];exact hn
   rw[hn2,Bool.false_and] at hV
   subst hV
   exact pmat_bitn1 w qa qq qc qo da dn dc code level more next oa on oc H q1 q2 hn'
 ·rw [if_pos (by decide)] at hV
  rw[hdn] at hV
  obtain⟨q1,q2⟩:=hq (by decide)
  by_cases hn:(dn:Int)=(qq+7)/8
  ·have hn':((dn:Int) !=(qq+7)/8)=false:=by rw[bne_eq_false_iff_eq];exact hn
   have hn2:((dn:Int)==(qq+7)/8)=true:=by rw[beq_iff_eq];exact hn
   rw[hn2,Bool.true_and] at hV
   by_cases hz:qq%8=0
   ·rw [hz] at hV
    have:V=true:=by rw[←hV];rfl
    subst this
    exact pmat_bitz2 w qa qq qc qo da dn dc code level more next oa on oc H q1 q2 hn' (by rw[hmod q1];exact hz)
   ·obtain ⟨s,hs⟩:=Int.eq_ofNat_of_zero_le hm1
    have hs1:1≤s:=by omega
    obtain⟨b,o,rfl,ha,hx⟩:=hbits (by decide) s hs hs1 hn
    have hs0:((s:Int)==0)=false:=by rw[beq_eq_false_iff_ne];omega
    rw[hs,hs0,Bool.false_or,Int.toNat_natCast] at hV
    exact pmat_bits2 w qa qq qc qo b o dn dc code level more next oa on oc H q1 q2 hn' s (by rw[hmod q1];exact hs) hs1 (by omega) hs0 ha _ hx V hV
  ·have hn':((dn:Int) !=(qq+7)/8)=true:=by rw[bne_iff_ne];exact hn
   have hn2:((dn:Int)==(qq+7)/8)=false:=by rw[beq_eq_false_iff_ne];exact hn
   rw[hn2,Bool.false_and] at hV
   subst hV
   exact pmat_bitn2 w qa qq qc qo da dn dc code level more next oa on oc H q1 q2 hn'
 ·rw [if_neg (by decide),if_pos (by decide)] at hV
  rw[hdn] at hV
  obtain⟨q1,q2⟩:=hq (by decide)
  exact pmat_reg3 w qa qq qc qo da dn dc code level more next oa on oc H q1 q2 V hV
 ·rw [if_neg (by decide),if_pos (by decide)] at hV
  rw[hdn] at hV
  obtain⟨q1,q2⟩:=hq (by decide)
  exact pmat_reg4 w qa qq qc qo da dn dc code level more next oa on oc H q1 q2 V hV
 ·have:V=true:=by rw[←hV];rfl
  subst this
  exact pmat_srv w qa qq qc qo da dn dc code level more next oa on oc H
 ·rw [if_neg (by decide),if_neg (by decide),if_pos (by decide)] at hV
  cases hc:(code==qc) with
  |false=>
   rw[hc,Bool.false_and] at hV
   subst hV
   exact pmat_devn w qa qq qc qo da dn dc code level more next oa on oc H hc
  |true=>
   rw[hc,Bool.true_and] at hV
   rw[beq_iff_eq] at hc
   subst hc
   have hbj:objsB objs=true:=by
    simp only[Rp.ok,Bool.and_eq_true] at h2
    have h3:=h2.2
    rw[if_pos (by decide),if_pos (by decide)] at h3
    simp only[Rp.devB,Bool.and_eq_true] at h3
    exact h3.1.2
   rw[←less_first hbj qo] at hV
   rw[←hV]
   exact pmat_devs w qa qq qo da dn dc code level more next oa on oc H objs ho _ (hid rfl)
end Go.Proofs.YtoaoejaodhedaaaGreat
