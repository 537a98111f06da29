import Derived.Test.YtoaoejaodhedaaaGreatQ28
import Derived.Test.YtoaoejaodhedaaaGreatQ14
namespace Go.Proofs.YtoaoejaodhedaaaGreat
open Go.RowKit
set_option maxHeartbeats 3200000
set_option maxRecDepth 100000
theorem match1_any (id:Int) (xa:Option Addr) (xn xc g:Nat) (qo:Int) (w:World) (hg:w.cell? ⟨g,4,none⟩=some (.int .i64 qo)):
  Calls Tryz.prog 199 #[.agg #[.int .i64 id,.slice xa xn xc],.pointer (some ⟨g,0,none⟩)] w fun r w'=>r=.returned (.bool (decide (id<qo)))∧Below w.heap.size w w':=by
 have c4:∀X,(w.alloc X).cell? ⟨g,4,none⟩=some (.int .i64 qo):=fun X=>bD (bH w X) hg
 have HB:Hid (∀X,Below w.heap.size w (w.alloc X)):=fun X=>bH w X
 clear hg;go_enter Tryz.func199,Tryz.ntmps199;go_wp2;go_ret;exact⟨rfl,HB.out _⟩
def lessOb (qo:Int) (l:List Ob):Bool:=l.any fun x=>decide (x.id<qo)
theorem idxF_any (v:Value) (l:List Ob) (w:World) (ho:Obs w v l) (g:Nat) (qo:Int) (hg:w.cell? ⟨g,4,none⟩=some (.int .i64 qo)) (V:Bool) (hV:Hid (lessOb qo l=V)):
  Calls Tryz.prog 218 #[v,.func (.func 199) #[] #[.pointer (some ⟨g,0,none⟩)]] w fun r w'=>IdxPost V r∧Below w.heap.size w w':=by
 obtain⟨a,n,c,rfl,hln,hn,hnc,hcm,hel⟩:=ho.open_;clear ho;replace hel:=bC hel;replace hln:=bC hln;go_enter Tryz.func218,Tryz.ntmps218;go_wp2;go_loopw [8] (fun i wr=>∃k:Nat,k≤n∧i=.int .i64 k∧Hid (lessOb qo (l.take k)=false)∧Below w.heap.size w wr) (fun i _=>n- (intOf i).toNat)
 case atStart=>exact⟨0,Nat.zero_le _,rfl,rfl,Below.refl _ _⟩
 case round=>
  obtain⟨k,hk,rfl,hno,hbw⟩:=hrel;by_cases hlt:k<n
  ·obtain ⟨x,hgx⟩:=get_some hln.out hlt
   obtain⟨b,o,xa,xc,rfl,d1,d2,hb⟩:=hel.out k x hgx;have hxm:=hb.len;unfold maxLen at hxm;replace d1:=bD hbw d1;replace d2:=bD hbw d2;have HM:Hid (Calls Tryz.prog 199 #[.agg #[.int .i64 x.id,.slice xa x.val.length xc],.pointer (some ⟨g,0,none⟩)] wr fun r w'=>r=.returned (.bool (decide (x.id<qo)))∧Below wr.heap.size wr w'):=match1_any _ _ _ _ _ _ wr (bD hbw hg);have HST:Hid (lessOb qo (l.take (k+1))=decide (x.id<qo)):=by
    have h1:=hno.out;show _=_;unfold lessOb at h1 ⊢;rw[bT hgx,List.any_append,h1];simp
   have HGX:Hid (x∈l):=List.mem_of_getElem? hgx;have hkl:(k:Int)<(n:Int):=by omega
   clear hgx hb;go_wp2_with fail;refine HM.out.mono ?_;rintro r w1 ⟨rfl,hb1⟩;by_cases hx:x.id<qo
   ·have d:decide (x.id<qo)=true:=decide_eq_true hx
    have HF:Hid (V=true):=by
     show _=_;rw[←hV.out];exact List.any_eq_true.2 ⟨x,HGX.out,d⟩
    clear hx;go_wp2;go_ret;exact⟨⟨k,rfl,⟨fun _=>HF.out,fun _=>Int.natCast_nonneg _⟩⟩,bU hbw hb1⟩
   ·have d:decide (x.id<qo)=false:=decide_eq_false hx
    rw[d] at HST;clear hx;go_wp2;go_roundw
    case rel=>exact⟨k+1,by omega,by go_num,HST,bU hbw hb1⟩
    case measure=>simp [intOf];omega
  ·obtain rfl:k=n:=by omega
   have HF:Hid (V=false):=by
    have h1:=hno.out;rw[←hln.out,List.take_length] at h1;show _=_;rw[←hV.out,h1]
   go_wp2;go_ret;exact⟨⟨-1,rfl,⟨fun h=>absurd h (by decide),fun h=>by rw[HF.out] at h;cases h⟩⟩,hbw⟩
theorem contF_any (v:Value) (l:List Ob) (w:World) (ho:Obs w v l) (g:Nat) (qo:Int) (hg:w.cell? ⟨g,4,none⟩=some (.int .i64 qo)) (V:Bool) (hV:Hid (lessOb qo l=V)):
  Calls Tryz.prog 198 #[v,.func (.func 199) #[] #[.pointer (some ⟨g,0,none⟩)]] w fun r w'=>r=.returned (.bool V)∧Below w.heap.size w w':=by
 have HI:=bC (idxF_any v l w ho g qo hg V hV);obtain⟨a,n,c,rfl,_⟩:=ho.open_;clear ho hV;go_enter Tryz.func198,Tryz.ntmps198;go_wp2_with fail;refine HI.out.mono ?_;rintro r w1 ⟨⟨i,rfl,hi⟩,hb1⟩;have HV:Hid (decide (0≤i)=V):=by
  show _=_;cases V with
  |true=>exact decide_eq_true (hi.2 rfl)
  |false=>exact decide_eq_false (fun h=>by cases hi.1 h)
 clear hi;go_wp2;go_ret;exact⟨bO HV.out,hb1⟩
theorem less_none (qo:Int):∀(l:List Ob) (last:Int),rises last l=true→qo≤last→lessOb qo l=false
 |[],_,_,_=>rfl
 |x::l,last,h,hq=>by
  simp only[rises,Bool.and_eq_true,decide_eq_true_eq] at h;have ih:=less_none qo l x.id h.2 (by omega);unfold lessOb at ih ⊢;rw[List.any_cons,ih,decide_eq_false (by omega)];rfl
theorem less_first {l:List Ob} (h:objsB l=true) (qo:Int):(!lessOb qo l)=(l.isEmpty||decide (qo≤firstOb l)):=by
 unfold objsB at h;rw[Bool.and_eq_true] at h
 match l,h.1 with
 |[],_=>rfl
 |x::l,h1=>
  simp only[rises,Bool.and_eq_true] at h1;show (!lessOb qo (x::l))=(false||decide (qo≤x.id));rw[Bool.false_or];by_cases hq:qo≤x.id
  ·have:=less_none qo l x.id h1.2 hq
   unfold lessOb at this ⊢;rw[List.any_cons,this,decide_eq_false (by omega),decide_eq_true hq];rfl
  ·unfold lessOb
   rw[List.any_cons,decide_eq_true (by omega:x.id<qo),decide_eq_false hq];rfl
theorem pmat_devs (w:World) (qa qq qo:Int) (da:Option Addr) (dn dc:Nat) (code level:Int) (more:Bool) (next:Int) (oa:Option Addr) (on oc:Nat)
  (H:Hid (PHead w true true 43 qa qq code qo 43 0 da dn dc code level more next oa on oc)) (objs:List Ob) (ho:Obs w (.slice oa on oc) objs) (V:Bool) (hV:Hid (lessOb qo objs=V)):
  Calls Tryz.prog 177 #[.agg #[.int .i64 43,.int .i64 qa,.int .i64 qq,.int .i64 code,.int .i64 qo],.agg #[.int .i64 43,.int .i64 0,.slice da dn dc,.int .i64 code,.int .i64 level,.bool more,.int .i64 next,.slice oa on oc]] w fun r w'=>r=.returned (.bool (!V))∧Below w.heap.size w w':=by
 have kB:∀X Y,Below w.heap.size w ((w.alloc X).alloc Y):=fun X Y=>cJ (bH w X) (Nat.le_refl _) Y
 have HH:=bC (show ((w.alloc (.cells #[.int .i64 43,.int .i64 qa,.int .i64 qq,.int .i64 code,.int .i64 qo] 45)).alloc (.cells #[.int .i64 43,.int .i64 0,.slice da dn dc,.int .i64 code,.int .i64 level,.bool more,.int .i64 next,.slice oa on oc] 53)).heap[w.heap.size]?=some (.cells #[.int .i64 43,.int .i64 qa,.int .i64 qq,.int .i64 code,.int .i64 qo] 45)∧((w.alloc (.cells #[.int .i64 43,.int .i64 qa,.int .i64 qq,.int .i64 code,.int .i64 qo] 45)).alloc (.cells #[.int .i64 43,.int .i64 0,.slice da dn dc,.int .i64 code,.int .i64 level,.bool more,.int .i64 next,.slice oa on oc] 53)).heap[w.heap.size+1]?=some (.cells #[.int .i64 43,.int .i64 0,.slice da dn dc,.int .i64 code,.int .i64 level,.bool more,.int .i64 next,.slice oa on oc] 53) from ⟨bB (bI w _) (bH _ _),by have:=bI (w.alloc (.cells #[.int .i64 43,.int .i64 qa,.int .i64 qq,.int .i64 code,.int .i64 qo] 45)) (.cells #[.int .i64 43,.int .i64 0,.slice da dn dc,.int .i64 code,.int .i64 level,.bool more,.int .i64 next,.slice oa on oc] 53);simpa using this⟩);go_enter Tryz.func177,Tryz.ntmps177;go_wp2_with fail;refine(H.out.1 _).mono ?_;rintro r w1 ⟨rfl,hb1⟩;have gQ1:=bB HH.out.1 hb1;have gR1:=bB HH.out.2 hb1;have hbw1:=bU (kB _ _) hb1;obtain⟨e0,e1,e2,e3,e4,e5,e6,e7⟩:w1.cell? ⟨(w.heap.size+1),0,none⟩=some (.int .i64 43)∧w1.cell? ⟨(w.heap.size+1),1,none⟩=some (.int .i64 0)∧w1.cell? ⟨(w.heap.size+1),2,none⟩=some (.slice da dn dc)∧w1.cell? ⟨(w.heap.size+1),3,none⟩=some (.int .i64 code)∧w1.cell? ⟨(w.heap.size+1),4,none⟩=some (.int .i64 level)∧w1.cell? ⟨(w.heap.size+1),5,none⟩=some (.bool more)∧w1.cell? ⟨(w.heap.size+1),6,none⟩=some (.int .i64 next)∧w1.cell? ⟨(w.heap.size+1),7,none⟩=some (.slice oa on oc):=⟨bA gR1 0,bA gR1 1,bA gR1 2,bA gR1 3,bA gR1 4,bA gR1 5,bA gR1 6,bA gR1 7⟩
 clear hb1 kB;go_wp2_with fail;refine(H.out.2 _ hbw1).mono ?_;rintro r w2 ⟨rfl,hb2⟩;have gQ:=bB gQ1 hb2;have gR:=bB gR1 hb2;have hbw2:=bU hbw1 hb2;clear e0 e1 e2 e3 e4 e5 e6 e7 gQ1 gR1 hbw1 hb2;obtain⟨e0,e1,e2,e3,e4,e5,e6,e7⟩:w2.cell? ⟨(w.heap.size+1),0,none⟩=some (.int .i64 43)∧w2.cell? ⟨(w.heap.size+1),1,none⟩=some (.int .i64 0)∧w2.cell? ⟨(w.heap.size+1),2,none⟩=some (.slice da dn dc)∧w2.cell? ⟨(w.heap.size+1),3,none⟩=some (.int .i64 code)∧w2.cell? ⟨(w.heap.size+1),4,none⟩=some (.int .i64 level)∧w2.cell? ⟨(w.heap.size+1),5,none⟩=some (.bool more)∧w2.cell? ⟨(w.heap.size+1),6,none⟩=some (.int .i64 next)∧w2.cell? ⟨(w.heap.size+1),7,none⟩=some (.slice oa on oc):=⟨bA gR 0,bA gR 1,bA gR 2,bA gR 3,bA gR 4,bA gR 5,bA gR 6,bA gR 7⟩
 obtain⟨y0,y1,y2,y3,y4⟩:w2.cell? ⟨w.heap.size,0,none⟩=some (.int .i64 43)∧w2.cell? ⟨w.heap.size,1,none⟩=some (.int .i64 qa)∧w2.cell? ⟨w.heap.size,2,none⟩=some (.int .i64 qq)∧w2.cell? ⟨w.heap.size,3,none⟩=some (.int .i64 code)∧w2.cell? ⟨w.heap.size,4,none⟩=some (.int .i64 qo):=⟨bA gQ 0,bA gQ 1,bA gQ 2,bA gQ 3,bA gQ 4⟩
 clear gQ gR;go_wp2_with fail;refine(contF_any _ objs w2 (ho.keep hbw2) w.heap.size qo y4 V hV).mono ?_;rintro r w3 ⟨rfl,hb3⟩;go_wp2;go_ret;exact⟨rfl,bU hbw2 hb3⟩
theorem phead_mk (w:World) (qf qa qq qc qo fn exc:Int) (da:Option Addr) (dn dc:Nat) (code level:Int) (more:Bool) (next:Int) (oa:Option Addr) (on oc:Nat) (data:List UInt8) (objs:List Ob)
  (hd:Bs w (.slice da dn dc) data) (ho:Obs w (.slice oa on oc) objs) (hl:level≤9223372036854775807) (hl2: -9223372036854775808≤level):
  PHead w (Rq.ok ⟨qf,qa,qq,qc,qo⟩) (Rp.ok ⟨fn,exc,data,code,level,more,next,objs⟩) qf qa qq qc qo fn exc da dn dc code level more next oa on oc:=
 ⟨fun W=>cO qf qa qq qc qo W,fun W hW=>rvalid_any fn exc _ code level more next _ data objs W (hd.keep hW) (ho.keep hW) hl hl2⟩
theorem pmatch_any (w:World) (qf qa qq qc qo fn exc:Int) (da:Option Addr) (dn dc:Nat) (code level:Int) (more:Bool) (next:Int) (oa:Option Addr) (on oc:Nat) (data:List UInt8) (objs:List Ob)
  (hd:Bs w (.slice da dn dc) data) (ho:Obs w (.slice oa on oc) objs) (hl:level≤9223372036854775807) (hl2: -9223372036854775808≤level):
  Calls Tryz.prog 177 #[.agg #[.int .i64 qf,.int .i64 qa,.int .i64 qq,.int .i64 qc,.int .i64 qo],.agg #[.int .i64 fn,.int .i64 exc,.slice da dn dc,.int .i64 code,.int .i64 level,.bool more,.int .i64 next,.slice oa on oc]] w fun r w'=>r=.returned (.bool (matchB ⟨qf,qa,qq,qc,qo⟩ ⟨fn,exc,data,code,level,more,next,objs⟩))∧Below w.heap.size w w':=by
 have H:=phead_mk w qf qa qq qc qo fn exc da dn dc code level more next oa on oc data objs hd ho hl hl2
 obtain⟨V,hV⟩:∃V,matchB ⟨qf,qa,qq,qc,qo⟩ ⟨fn,exc,data,code,level,more,next,objs⟩=V:=⟨_,rfl⟩
 rw[hV];unfold matchB at hV;simp only at hV;cases h1:Rq.ok ⟨qf,qa,qq,qc,qo⟩ with
 |false=>
  rw[h1] at H hV;simp only[Bool.false_and] at hV;subst hV;exact pmatA w _ _ qf qa qq qc qo fn exc da dn dc code level more next oa on oc H (.inl rfl)
 |true=>
 cases h2:Rp.ok ⟨fn,exc,data,code,level,more,next,objs⟩ with
 |false=>
  rw[h1,h2] at H hV;simp only[Bool.and_false,Bool.false_and] at hV;subst hV;exact pmatA w _ _ qf qa qq qc qo fn exc da dn dc code level more next oa on oc H (.inr (.inl rfl))
 |true=>
 rw[h1,h2] at H hV;simp only[Bool.true_and] at hV;by_cases h3:qf=fn;rotate_left
 ·have:(qf==fn)=false:=by simpa using h3
  rw[this,Bool.false_and] at hV;subst hV;exact pmatA w _ _ qf qa qq qc qo fn exc da dn dc code level more next oa on oc H (.inr (.inr h3))
 subst h3;rw[beq_self_eq_true,Bool.true_and] at hV;by_cases hx:exc=0;rotate_left
 ·rw [if_neg hx] at hV
  subst hV;exact pmat_exc w qa qq qc qo qf exc da dn dc code level more next oa on oc H (by simpa using hx)
 subst hx;rw[if_pos rfl] at hV;obtain⟨hdn,_,_⟩:=hd.capOf;have hon:=ho.capOf;have hk:qf=1∨qf=2∨qf=3∨qf=4∨qf=17∨qf=43:=by
  unfold Rq.ok at h1;simp only at h1;split at h1
  ·omega
  ·split at h1
   ·omega
   ·split at h1
    ·omega
    ·cases h1
 have hq:(1≤qf∧qf≤4)→1≤qq∧qq≤2000:=by
  intro h;unfold Rq.ok at h1;simp only at h1;rw[if_pos h] at h1;simp at h1;have:=(limI_bd qf).2;omega
 have hbits:(qf=1∨qf=2)→∀s:Nat,qq%8=s→1≤s→(dn:Int)=(qq+7)/8→∃b o,da=some ⟨b,o,none⟩∧1≤dn∧∀W,Below w.heap.size w W→W.cell? ⟨b,o+(dn-1),none⟩=some (.int .u8 (lastB data)):=by
  intro h s hs hs1 hn;have:=hq (by omega);have hdp:1≤dn:=by omega
  obtain⟨b,o,rfl,hc⟩:=hd.byte (i:=dn-1) (by omega);refine⟨b,o,rfl,hdp,fun W hW=>?_⟩;have:=bD hW hc;rw[this];unfold lastB bAt;rw[hdn]
 have hmod:1≤qq→qq.tmod 8=qq%8:=fun h=>Int.tmod_eq_emod_of_nonneg (by omega)
 have hm1:=Int.emod_nonneg qq (show (8:Int)≠0 by decide);have hm2:=Int.emod_lt_of_pos qq (show 0<(8:Int) by decide);rcases hk with rfl|rfl|rfl|rfl|rfl|rfl
 ·rw [if_pos (by decide)] at hV
  rw[hdn] at hV;obtain⟨q1,q2⟩:=hq (by decide);by_cases hn:(dn:Int)=(qq+7)/8
  ·have hn':((dn:Int) !=(qq+7)/8)=false:=by rw[bne_eq_false_iff_eq];exact hn
   have hn2:((dn:Int)==(qq+7)/8)=true:=by rw[beq_iff_eq];exact hn
   rw[hn2,Bool.true_and] at hV;by_cases hz:qq%8=0
   ·rw [hz] at hV
    have:V=true:=by rw[←hV];rfl
    subst this;exact pmat_bitz1 w qa qq qc qo da dn dc code level more next oa on oc H q1 q2 hn' (by rw[hmod q1];exact hz)
   ·obtain ⟨s,hs⟩:=Int.eq_ofNat_of_zero_le hm1
    have hs1:1≤s:=by omega
    obtain⟨b,o,rfl,ha,hx⟩:=hbits (by decide) s hs hs1 hn;have hs0:((s:Int)==0)=false:=by rw[beq_eq_false_iff_ne];omega
    rw[hs,hs0,Bool.false_or,Int.toNat_natCast] at hV;exact pmat_bits1 w qa qq qc qo b o dn dc code level more next oa on oc H q1 q2 hn' s (by rw[hmod q1];exact hs) hs1 (by omega) hs0 ha _ hx V hV
  ·have hn':((dn:Int) !=(qq+7)/8)=true:=by rw[bne_iff_ne];exact hn
   have hn2:((dn:Int)==(qq+7)/8)=false:=by rw[beq_eq_false_iff_ne];exact hn
   rw[hn2,Bool.false_and] at hV;subst hV;exact pmat_bitn1 w qa qq qc qo da dn dc code level more next oa on oc H q1 q2 hn'
 ·rw [if_pos (by decide)] at hV
  rw[hdn] at hV;obtain⟨q1,q2⟩:=hq (by decide);by_cases hn:(dn:Int)=(qq+7)/8
  ·have hn':((dn:Int) !=(qq+7)/8)=false:=by rw[bne_eq_false_iff_eq];exact hn
   have hn2:((dn:Int)==(qq+7)/8)=true:=by rw[beq_iff_eq];exact hn
   rw[hn2,Bool.true_and] at hV;by_cases hz:qq%8=0
   ·rw [hz] at hV
    have:V=true:=by rw[←hV];rfl
    subst this;exact pmat_bitz2 w qa qq qc qo da dn dc code level more next oa on oc H q1 q2 hn' (by rw[hmod q1];exact hz)
   ·obtain ⟨s,hs⟩:=Int.eq_ofNat_of_zero_le hm1
    have hs1:1≤s:=by omega
    obtain⟨b,o,rfl,ha,hx⟩:=hbits (by decide) s hs hs1 hn;have hs0:((s:Int)==0)=false:=by rw[beq_eq_false_iff_ne];omega
    rw[hs,hs0,Bool.false_or,Int.toNat_natCast] at hV;exact pmat_bits2 w qa qq qc qo b o dn dc code level more next oa on oc H q1 q2 hn' s (by rw[hmod q1];exact hs) hs1 (by omega) hs0 ha _ hx V hV
  ·have hn':((dn:Int) !=(qq+7)/8)=true:=by rw[bne_iff_ne];exact hn
   have hn2:((dn:Int)==(qq+7)/8)=false:=by rw[beq_eq_false_iff_ne];exact hn
   rw[hn2,Bool.false_and] at hV;subst hV;exact pmat_bitn2 w qa qq qc qo da dn dc code level more next oa on oc H q1 q2 hn'
 ·rw [if_neg (by decide),if_pos (by decide)] at hV
  rw[hdn] at hV;obtain⟨q1,q2⟩:=hq (by decide);exact pmat_reg3 w qa qq qc qo da dn dc code level more next oa on oc H q1 q2 V hV
 ·rw [if_neg (by decide),if_pos (by decide)] at hV
  rw[hdn] at hV;obtain⟨q1,q2⟩:=hq (by decide);exact pmat_reg4 w qa qq qc qo da dn dc code level more next oa on oc H q1 q2 V hV
 ·have:V=true:=by rw[←hV];rfl
  subst this;exact pmat_srv w qa qq qc qo da dn dc code level more next oa on oc H
 ·rw [if_neg (by decide),if_neg (by decide),if_pos (by decide)] at hV
  cases hc:(code==qc) with
  |false=>
   rw[hc,Bool.false_and] at hV;subst hV;exact pmat_devn w qa qq qc qo da dn dc code level more next oa on oc H hc
  |true=>
   rw[hc,Bool.true_and] at hV;rw[beq_iff_eq] at hc;subst hc;have hbj:objsB objs=true:=by
    simp only[Rp.ok,Bool.and_eq_true] at h2;have h3:=h2.2;rw[if_pos (by decide),if_pos (by decide)] at h3;simp only[Rp.devB,Bool.and_eq_true] at h3;exact h3.1.2
   rw[←less_first hbj qo] at hV;rw[←hV];exact pmat_devs w qa qq qo da dn dc code level more next oa on oc H objs ho _ (bC rfl)
theorem rdecD (a:Option Addr) (n c:Nat) (b:List UInt8) (w:World) (hb:Bs w (.slice a n c) b) (h2:2≤n) (h3:n≤253) (h43:bAt b 0=43):
  Calls Tryz.prog 176 #[.slice a n c] w (DecPost w (Rp.dec b)):=by
 obtain⟨hbn,hnc,hcm⟩:=hb.capOf;unfold maxLen at hcm;have HD:=bC (dec_dev (b:=b) (by omega) h43);have HB:=bC hb;obtain⟨blk,off,rfl,y0⟩:=hb.byte (i:=0) (by omega);have y0':w.cell? ⟨blk,off,none⟩=some (.int .u8 (bAt b 0)):=y0;have c0:∀W,Below w.heap.size w W→W.cell? ⟨blk,off,none⟩=some (.int .u8 43):=fun W h=>by rw[←h43];exact bD h y0'
 have kA:∀X,Below w.heap.size w (w.alloc X):=fun X=>bal'' w X
 have HK:Hid (∀W,Calls Tryz.prog 195 #[.int .i64 (-85)] W fun r w'=>r=.returned (.bool false)∧W=w'):=fun W=>known_any (-85) W
 have HK2:Hid (∀W,Calls Tryz.prog 195 #[.int .i64 43] W fun r w'=>r=.returned (.bool true)∧W=w'):=fun W=>known_any 43 W
 have hn2:¬n<2:=by omega
 have hn3:¬253<n:=by omega
 have HV:Hid (∀X,Calls Tryz.prog 196 #[.slice (some ⟨blk,off,none⟩) n c] (w.alloc X) (DecPost (w.alloc X) (decDev b))):=fun X=>dev_any _ n c b _ (HB.out.keep (bal'' w X)) h2 h3
 clear hb hbn y0 y0' h43;go_enter Tryz.func176,Tryz.ntmps176;go_wp2_with fail;refine(HK.out _).mono ?_;rintro r w1 ⟨rfl,rfl⟩;go_wp2_with fail;refine(HK2.out _).mono ?_;rintro r w1 ⟨rfl,rfl⟩;go_wp2_with fail;refine(HV.out _).mono ?_;rintro r w5 hp;rcases hp with⟨x,da,dc,oa,oc,ho,rfl,hx,hb5⟩|⟨e,he1,he2,ho,rfl,hb5⟩
 ·have HS:Hid (Rp.dec b=some x):=HD.out.trans ho
  have HX:=bC hx;have gZ5:w5.heap[w.heap.size]?=some (.cells #[.int .i64 0,.int .i64 0,.slice none 0 0,.int .i64 0,.int .i64 0,.bool false,.int .i64 0,.slice none 0 0] 53):=bB (bI w _) hb5;have hbw5:=bU (kA _) hb5;clear ho hx;go_wp2_with (refine bE rfl 53 (.tmp 2) (.tmp 49) rfl w.heap.size 0 _ _ (#[.int .i64 x.fn,.int .i64 x.exc,.slice da x.data.length dc,.int .i64 x.code,.int .i64 x.level,.bool x.more,.int .i64 x.next,.slice oa x.objs.length oc]) rfl rfl gZ5 (by simp) (by kernel_rfl) (by rfl) ?_;intro w4 g4 hk4 hz4);obtain⟨q0,q1,q2,q3,q4,q5,q6,q7⟩:w4.cell? ⟨w.heap.size,0,none⟩=some (.int .i64 x.fn)∧w4.cell? ⟨w.heap.size,1,none⟩=some (.int .i64 x.exc)∧w4.cell? ⟨w.heap.size,2,none⟩=some (.slice da x.data.length dc)∧w4.cell? ⟨w.heap.size,3,none⟩=some (.int .i64 x.code)∧w4.cell? ⟨w.heap.size,4,none⟩=some (.int .i64 x.level)∧w4.cell? ⟨w.heap.size,5,none⟩=some (.bool x.more)∧w4.cell? ⟨w.heap.size,6,none⟩=some (.int .i64 x.next)∧w4.cell? ⟨w.heap.size,7,none⟩=some (.slice oa x.objs.length oc):=⟨bA g4 0,bA g4 1,bA g4 2,bA g4 3,bA g4 4,bA g4 5,bA g4 6,bA g4 7⟩
  refine bodyPost_ret (v:=.tuple #[.agg #[.int .i64 x.fn,.int .i64 x.exc,.slice da x.data.length dc,.int .i64 x.code,.int .i64 x.level,.bool x.more,.int .i64 x.next,.slice oa x.objs.length oc],.int .i64 0]) (by simp [results,Tryz.results176,go_sem,q0,q1,q2,q3,q4,q5,q6,q7]) rfl ?_;refine DecPost.is HS.out (fun W hW=>HX.out W ?_) (hbw5.trans (hk4.below hbw5.size (fun k hk e=>by omega)));exact(Agree.of_keeps (B:=(w.alloc (.cells #[.int .i64 0,.int .i64 0,.slice none 0 0,.int .i64 0,.int .i64 0,.bool false,.int .i64 0,.slice none 0 0] 53)).heap.size) hk4 (fun k e=>by simp;omega)).trans (hW.mono (by simp))
 ·have HN:Hid (Rp.dec b=none):=HD.out.trans ho
  have gZ5:w5.heap[w.heap.size]?=some (.cells #[.int .i64 0,.int .i64 0,.slice none 0 0,.int .i64 0,.int .i64 0,.bool false,.int .i64 0,.slice none 0 0] 53):=bB (bI w _) hb5;have hbw5:=bU (kA _) hb5;clear ho;go_wp2_with (refine bE rfl 53 (.tmp 2) (.tmp 49) rfl w.heap.size 0 _ _ (#[.int .i64 0,.int .i64 0,.slice none 0 0,.int .i64 0,.int .i64 0,.bool false,.int .i64 0,.slice none 0 0]) rfl rfl gZ5 (by simp) (by kernel_rfl) (by rfl) ?_;intro w4 g4 hk4 hz4);obtain⟨q0,q1,q2,q3,q4,q5,q6,q7⟩:w4.cell? ⟨w.heap.size,0,none⟩=some (.int .i64 0)∧w4.cell? ⟨w.heap.size,1,none⟩=some (.int .i64 0)∧w4.cell? ⟨w.heap.size,2,none⟩=some (.slice none 0 0)∧w4.cell? ⟨w.heap.size,3,none⟩=some (.int .i64 0)∧w4.cell? ⟨w.heap.size,4,none⟩=some (.int .i64 0)∧w4.cell? ⟨w.heap.size,5,none⟩=some (.bool false)∧w4.cell? ⟨w.heap.size,6,none⟩=some (.int .i64 0)∧w4.cell? ⟨w.heap.size,7,none⟩=some (.slice none 0 0):=⟨bA g4 0,bA g4 1,bA g4 2,bA g4 3,bA g4 4,bA g4 5,bA g4 6,bA g4 7⟩
  refine bodyPost_ret (v:=.tuple #[.agg #[.int .i64 0,.int .i64 0,.slice none 0 0,.int .i64 0,.int .i64 0,.bool false,.int .i64 0,.slice none 0 0],.int .i64 e]) (by simp [results,Tryz.results176,go_sem,q0,q1,q2,q3,q4,q5,q6,q7]) rfl ?_;exact DecPost.err HN.out e he1 he2 (hbw5.trans (hk4.below hbw5.size (fun k hk e=>by omega)))
theorem rdec_any (a:Option Addr) (n c:Nat) (b:List UInt8) (w:World) (hb:Bs w (.slice a n c) b):
  Calls Tryz.prog 176 #[.slice a n c] w (DecPost w (Rp.dec b)):=by
 by_cases h:n<2∨253<n
 ·exact rdecA a n c b w hb h
 ·cases hk:knownB (bAt b 0-128) with
  |true=>exact rdecB a n c b w hb (by omega) (by omega) hk
  |false=>
   cases hk2:knownB (bAt b 0) with
   |false=>exact rdecC a n c b w hb (by omega) (by omega) hk hk2
   |true=>
    by_cases h43:bAt b 0=43
    ·exact rdecD a n c b w hb (by omega) (by omega) h43
    ·exact rdecE a n c b w hb (by omega) (by omega) hk2 h43
theorem pread_any (qf qa qq qc qo:Int) (a:Option Addr) (n c:Nat) (b:List UInt8) (w:World) (hb:Bs w (.slice a n c) b):
  Calls Tryz.prog 147 #[.agg #[.int .i64 qf,.int .i64 qa,.int .i64 qq,.int .i64 qc,.int .i64 qo],.slice a n c] w (RdOne w (readB ⟨qf,qa,qq,qc,qo⟩ b)):=by
 have kB:∀X Y,Below w.heap.size w ((w.alloc X).alloc Y):=fun X Y=>cJ (bH w X) (Nat.le_refl _) Y
 obtain⟨V,hV⟩:∃V,Rq.ok ⟨qf,qa,qq,qc,qo⟩=V:=⟨_,rfl⟩
 have HQ:Hid (∀W,Calls Tryz.prog 121 #[.agg #[.int .i64 qf,.int .i64 qa,.int .i64 qq,.int .i64 qc,.int .i64 qo]] W fun r w'=>r=.returned (.bool V)∧Below W.heap.size W w'):=fun W=>by rw[←hV];exact cO qf qa qq qc qo W
 have HH:=bC (show ((w.alloc (.cells #[.int .i64 qf,.int .i64 qa,.int .i64 qq,.int .i64 qc,.int .i64 qo] 45)).alloc (.cells #[.int .i64 0,.int .i64 0,.slice none 0 0,.int .i64 0,.int .i64 0,.bool false,.int .i64 0,.slice none 0 0] 53)).heap[w.heap.size]?=some (.cells #[.int .i64 qf,.int .i64 qa,.int .i64 qq,.int .i64 qc,.int .i64 qo] 45)∧((w.alloc (.cells #[.int .i64 qf,.int .i64 qa,.int .i64 qq,.int .i64 qc,.int .i64 qo] 45)).alloc (.cells #[.int .i64 0,.int .i64 0,.slice none 0 0,.int .i64 0,.int .i64 0,.bool false,.int .i64 0,.slice none 0 0] 53)).heap[w.heap.size+1]?=some (.cells #[.int .i64 0,.int .i64 0,.slice none 0 0,.int .i64 0,.int .i64 0,.bool false,.int .i64 0,.slice none 0 0] 53) from ⟨bB (bI w _) (bH _ _),by have:=bI (w.alloc (.cells #[.int .i64 qf,.int .i64 qa,.int .i64 qq,.int .i64 qc,.int .i64 qo] 45)) (.cells #[.int .i64 0,.int .i64 0,.slice none 0 0,.int .i64 0,.int .i64 0,.bool false,.int .i64 0,.slice none 0 0] 53);simpa using this⟩);have HD:Hid (∀W,Below w.heap.size w W→Calls Tryz.prog 176 #[.slice a n c] W (RdOne W (Rp.dec b))):=fun W hW=>(rdec_any a n c b W (hb.keep hW)).mono fun _ _ h=>h.one
 clear hb;obtain⟨D,hD⟩:=gE (Rp.dec b);obtain⟨O,hO⟩:∃O,readB ⟨qf,qa,qq,qc,qo⟩ b=O:=⟨_,rfl⟩
 rw[hO];unfold readB at hO;rw[hV,hD] at hO;rw[hD] at HD;cases V with
 |false=>
  rw[if_neg (by decide)] at hO;subst hO;clear hV hD;go_enter Tryz.func147,Tryz.ntmps147;go_wp2_with fail;refine(HQ.out _).mono ?_;rintro r w1 ⟨rfl,hb1⟩;have hbw1:=bU (kB _ _) hb1;have gZ1:=bB HH.out.2 hb1;clear kB hb1;go_wp2_with (refine bE rfl 53 (.tmp 4) (.tmp 11) rfl (w.heap.size+1) 0 _ _ (#[.int .i64 0,.int .i64 0,.slice none 0 0,.int .i64 0,.int .i64 0,.bool false,.int .i64 0,.slice none 0 0]) rfl rfl gZ1 (by simp) (by kernel_rfl) (by rfl) ?_;intro w4 g4 hk4 hz4);obtain⟨q0,q1,q2,q3,q4,q5,q6,q7⟩:w4.cell? ⟨(w.heap.size+1),0,none⟩=some (.int .i64 0)∧w4.cell? ⟨(w.heap.size+1),1,none⟩=some (.int .i64 0)∧w4.cell? ⟨(w.heap.size+1),2,none⟩=some (.slice none 0 0)∧w4.cell? ⟨(w.heap.size+1),3,none⟩=some (.int .i64 0)∧w4.cell? ⟨(w.heap.size+1),4,none⟩=some (.int .i64 0)∧w4.cell? ⟨(w.heap.size+1),5,none⟩=some (.bool false)∧w4.cell? ⟨(w.heap.size+1),6,none⟩=some (.int .i64 0)∧w4.cell? ⟨(w.heap.size+1),7,none⟩=some (.slice none 0 0):=⟨bA g4 0,bA g4 1,bA g4 2,bA g4 3,bA g4 4,bA g4 5,bA g4 6,bA g4 7⟩
  refine bodyPost_ret (v:=.tuple #[.agg #[.int .i64 0,.int .i64 0,.slice none 0 0,.int .i64 0,.int .i64 0,.bool false,.int .i64 0,.slice none 0 0],.int .i64 5]) (by simp [results,Tryz.results147,go_sem,q0,q1,q2,q3,q4,q5,q6,q7]) rfl ?_;exact RdOne.err rfl 5 (by decide) (by decide) (hbw1.trans (hk4.below hbw1.size (fun k hk e=>by omega)))
 |true=>
  rw[if_pos rfl] at hO;replace hO:=bC hO;clear hD;go_enter Tryz.func147,Tryz.ntmps147;go_wp2_with fail;refine(HQ.out _).mono ?_;rintro r w1 ⟨rfl,hb1⟩;have hbw1:=bU (kB _ _) hb1;have gZ1:=bB HH.out.2 hb1;have gQ1:=bB HH.out.1 hb1;clear kB hb1;go_wp2_with fail;refine(HD.out _ hbw1).mono ?_;rintro r w2 ⟨x,da,dc,oa,oc,e,rfl,hb2,hx,hcs⟩;have hbw2:=bU hbw1 hb2;have gZ2:=bB gZ1 hb2;have gQ2:=bB gQ1 hb2;have hlt2:w.heap.size+1<w2.heap.size:=(Array.getElem?_eq_some_iff.1 gZ2).1;have hlt1:w.heap.size+1<w1.heap.size:=(Array.getElem?_eq_some_iff.1 gZ1).1;replace hx:=bC hx;replace hcs:=bC hcs;clear gZ1 gQ1 hb2 hbw1;have hne:¬(fun k=>k=w2.heap.size) (w.heap.size+1):=fun h=>by have h':w.heap.size+1=w2.heap.size:=h;omega
  have hne0:¬(fun k=>k=w2.heap.size) w.heap.size:=fun h=>by have h':w.heap.size=w2.heap.size:=h;omega
  have HB3:Hid (∀X W,Keeps (· =w2.heap.size) (w2.alloc X) W→Below w.heap.size w W∧Agree w1.heap.size w2 W):=fun X W h=>⟨(cJ hbw2 (Nat.le_refl _) _).trans (h.below (by have:=hbw2.size;simp;omega) (fun k hk e=>by omega)),Agree.of_new h⟩
  have gZA:∀X,(w2.alloc X).heap[w.heap.size+1]?=some (.cells #[.int .i64 0,.int .i64 0,.slice none 0 0,.int .i64 0,.int .i64 0,.bool false,.int .i64 0,.slice none 0 0] 53):=fun X=>bB gZ2 (bH _ _)
  have gQA:∀X,(w2.alloc X).heap[w.heap.size]?=some (.cells #[.int .i64 qf,.int .i64 qa,.int .i64 qq,.int .i64 qc,.int .i64 qo] 45):=fun X=>bB gQ2 (bH _ _)
  have gX:=bI w2 (.cells #[.int .i64 0,.int .i64 0,.slice none 0 0,.int .i64 0,.int .i64 0,.bool false,.int .i64 0,.slice none 0 0] 53);rcases hcs.out with⟨rfl,hDs⟩|⟨he,he1,he2,hDn,hzz⟩
  ·obtain ⟨V2,hV2⟩:∃V2,matchB ⟨qf,qa,qq,qc,qo⟩ x=V2:=⟨_,rfl⟩
   have hO':=hO.out;rw[hDs] at hO';simp only at hO';rw[hV2] at hO';clear hO hDs hcs;by_cases hf:x.fn=qf
   ·have hf':(x.fn !=qf)=false:=by rw[bne_eq_false_iff_eq];exact hf
    have HM:Hid (∀X W,Keeps (· =w2.heap.size) (w2.alloc X) W→Calls Tryz.prog 177 #[.agg #[.int .i64 qf,.int .i64 qa,.int .i64 qq,.int .i64 qc,.int .i64 qo],.agg #[.int .i64 x.fn,.int .i64 x.exc,.slice da x.data.length dc,.int .i64 x.code,.int .i64 x.level,.bool x.more,.int .i64 x.next,.slice oa x.objs.length oc]] W fun r w'=>r=.returned (.bool V2)∧Below W.heap.size W w'):=fun X W h=>by
     have hr:=hx.out W (Agree.of_new h);rw[←hV2];exact pmatch_any W qf qa qq qc qo x.fn x.exc da _ dc x.code x.level x.more x.next oa _ oc x.data x.objs hr.d hr.o hr.hi hr.lo
    have hf0:=bC hf;clear hf hV2;have HS:Hid (O=if V2=true then some x else none):=by
     show _=_;rw[←hO'];cases V2<;>simp [hf0.out]
    clear hO';go_wp2_with (first|(refine bE rfl 53 (.tmp 6) (.tmp 15) rfl w2.heap.size 0 _ _ (#[.int .i64 x.fn,.int .i64 x.exc,.slice da x.data.length dc,.int .i64 x.code,.int .i64 x.level,.bool x.more,.int .i64 x.next,.slice oa x.objs.length oc]) rfl rfl gX (by simp) (by kernel_rfl) (by rfl) ?_;intro w3 g3 hk3 hz3;have gZ3:=bG (gZA _) hk3 hne;have gQ3:=bG (gQA _) hk3 hne0;have hb3:=HB3.out _ _ hk3;have c0:=bA g3 0;have c1:=bA g3 1;have c2:=bA g3 2;have c3:=bA g3 3;have c4:=bA g3 4;have c5:=bA g3 5;have c6:=bA g3 6;have c7:=bA g3 7;have z0:=bA gQ3 0;have z1:=bA gQ3 1;have z2:=bA gQ3 2;have z3:=bA gQ3 3;have z4:=bA gQ3 4)|fail);refine(HM.out _ _ hk3).mono ?_;rintro r w3b ⟨rfl,hb3b⟩;have gZ4:=bB gZ3 hb3b;have gX4:=bB g3 hb3b;have hb4:=bU hb3.1 hb3b;have HA4:Hid (Agree w1.heap.size w2 w3b):=hb3.2.trans (Agree.of_below hb3b);clear c0 c1 c2 c3 c4 c5 c6 c7 z0 z1 z2 z3 z4 gZ3 gQ3 hb3 hb3b HM;cases V2 with
    |false=>
     have HN:Hid (O=none):=by show _=_;rw[HS.out];rfl
     clear HS;go_wp2_with (refine bE rfl 53 (.tmp 4) (.tmp 34) rfl (w.heap.size+1) 0 _ _ (#[.int .i64 0,.int .i64 0,.slice none 0 0,.int .i64 0,.int .i64 0,.bool false,.int .i64 0,.slice none 0 0]) rfl rfl gZ4 (by simp) (by kernel_rfl) (by rfl) ?_;intro w4 g4 hk4 hz4);obtain⟨q0,q1,q2,q3,q4,q5,q6,q7⟩:w4.cell? ⟨(w.heap.size+1),0,none⟩=some (.int .i64 0)∧w4.cell? ⟨(w.heap.size+1),1,none⟩=some (.int .i64 0)∧w4.cell? ⟨(w.heap.size+1),2,none⟩=some (.slice none 0 0)∧w4.cell? ⟨(w.heap.size+1),3,none⟩=some (.int .i64 0)∧w4.cell? ⟨(w.heap.size+1),4,none⟩=some (.int .i64 0)∧w4.cell? ⟨(w.heap.size+1),5,none⟩=some (.bool false)∧w4.cell? ⟨(w.heap.size+1),6,none⟩=some (.int .i64 0)∧w4.cell? ⟨(w.heap.size+1),7,none⟩=some (.slice none 0 0):=⟨bA g4 0,bA g4 1,bA g4 2,bA g4 3,bA g4 4,bA g4 5,bA g4 6,bA g4 7⟩
     refine bodyPost_ret (v:=.tuple #[.agg #[.int .i64 0,.int .i64 0,.slice none 0 0,.int .i64 0,.int .i64 0,.bool false,.int .i64 0,.slice none 0 0],.int .i64 17]) (by simp [results,Tryz.results147,go_sem,q0,q1,q2,q3,q4,q5,q6,q7]) rfl ?_;exact RdOne.err HN.out 17 (by decide) (by decide) (hb4.trans (hk4.below hb4.size (fun k hk e=>by omega)))
    |true=>
     have HS2:Hid (O=some x):=by show _=_;rw[HS.out];rfl
     clear HS;obtain⟨e0,e1,e2,e3,e4,e5,e6,e7⟩:w3b.cell? ⟨w2.heap.size,0,none⟩=some (.int .i64 x.fn)∧w3b.cell? ⟨w2.heap.size,1,none⟩=some (.int .i64 x.exc)∧w3b.cell? ⟨w2.heap.size,2,none⟩=some (.slice da x.data.length dc)∧w3b.cell? ⟨w2.heap.size,3,none⟩=some (.int .i64 x.code)∧w3b.cell? ⟨w2.heap.size,4,none⟩=some (.int .i64 x.level)∧w3b.cell? ⟨w2.heap.size,5,none⟩=some (.bool x.more)∧w3b.cell? ⟨w2.heap.size,6,none⟩=some (.int .i64 x.next)∧w3b.cell? ⟨w2.heap.size,7,none⟩=some (.slice oa x.objs.length oc):=⟨bA gX4 0,bA gX4 1,bA gX4 2,bA gX4 3,bA gX4 4,bA gX4 5,bA gX4 6,bA gX4 7⟩
     go_wp2_with (refine bE rfl 53 (.tmp 4) (.tmp 35) rfl (w.heap.size+1) 0 _ _ (#[.int .i64 x.fn,.int .i64 x.exc,.slice da x.data.length dc,.int .i64 x.code,.int .i64 x.level,.bool x.more,.int .i64 x.next,.slice oa x.objs.length oc]) rfl rfl gZ4 (by simp) (by kernel_rfl) (by rfl) ?_;intro w4 g4 hk4 hz4);clear e0 e1 e2 e3 e4 e5 e6 e7;obtain⟨q0,q1,q2,q3,q4,q5,q6,q7⟩:w4.cell? ⟨(w.heap.size+1),0,none⟩=some (.int .i64 x.fn)∧w4.cell? ⟨(w.heap.size+1),1,none⟩=some (.int .i64 x.exc)∧w4.cell? ⟨(w.heap.size+1),2,none⟩=some (.slice da x.data.length dc)∧w4.cell? ⟨(w.heap.size+1),3,none⟩=some (.int .i64 x.code)∧w4.cell? ⟨(w.heap.size+1),4,none⟩=some (.int .i64 x.level)∧w4.cell? ⟨(w.heap.size+1),5,none⟩=some (.bool x.more)∧w4.cell? ⟨(w.heap.size+1),6,none⟩=some (.int .i64 x.next)∧w4.cell? ⟨(w.heap.size+1),7,none⟩=some (.slice oa x.objs.length oc):=⟨bA g4 0,bA g4 1,bA g4 2,bA g4 3,bA g4 4,bA g4 5,bA g4 6,bA g4 7⟩
     refine bodyPost_ret (v:=.tuple #[.agg #[.int .i64 x.fn,.int .i64 x.exc,.slice da x.data.length dc,.int .i64 x.code,.int .i64 x.level,.bool x.more,.int .i64 x.next,.slice oa x.objs.length oc],.int .i64 0]) (by simp [results,Tryz.results147,go_sem,q0,q1,q2,q3,q4,q5,q6,q7]) rfl ?_;refine⟨x,da,dc,oa,oc,0,rfl,hb4.trans (hk4.below hb4.size (fun k hk e=>by omega)),fun W hW=>?_,.inl ⟨rfl,HS2.out⟩⟩;exact hx.out W (HA4.out.trans ((Agree.of_keeps hk4 (fun k e=>by omega)).trans (hW.mono (by omega))))
   ·have hf':(x.fn !=qf)=true:=by rw[bne_iff_ne];exact hf
    have HN:Hid (O=none):=by
     show _=_;rw[←hO',if_neg (fun h=>hf h.1)]
    clear hf hO' hV2 V2;go_wp2_with (first|(refine bE rfl 53 (.tmp 6) (.tmp 15) rfl w2.heap.size 0 _ _ (#[.int .i64 x.fn,.int .i64 x.exc,.slice da x.data.length dc,.int .i64 x.code,.int .i64 x.level,.bool x.more,.int .i64 x.next,.slice oa x.objs.length oc]) rfl rfl gX (by simp) (by kernel_rfl) (by rfl) ?_;intro w3 g3 hk3 hz3;have gZ3:=bG (gZA _) hk3 hne;have hb4:=(HB3.out _ _ hk3).1;have c0:=bA g3 0;have z0:=bA (bG (gQA _) hk3 hne0) 0)|(refine bE rfl 53 (.tmp 4) (.tmp 28) rfl (w.heap.size+1) 0 _ _ (#[.int .i64 0,.int .i64 0,.slice none 0 0,.int .i64 0,.int .i64 0,.bool false,.int .i64 0,.slice none 0 0]) rfl rfl gZ3 (by simp) (by kernel_rfl) (by rfl) ?_;intro w4 g4 hk4 hz4));obtain⟨q0,q1,q2,q3,q4,q5,q6,q7⟩:w4.cell? ⟨(w.heap.size+1),0,none⟩=some (.int .i64 0)∧w4.cell? ⟨(w.heap.size+1),1,none⟩=some (.int .i64 0)∧w4.cell? ⟨(w.heap.size+1),2,none⟩=some (.slice none 0 0)∧w4.cell? ⟨(w.heap.size+1),3,none⟩=some (.int .i64 0)∧w4.cell? ⟨(w.heap.size+1),4,none⟩=some (.int .i64 0)∧w4.cell? ⟨(w.heap.size+1),5,none⟩=some (.bool false)∧w4.cell? ⟨(w.heap.size+1),6,none⟩=some (.int .i64 0)∧w4.cell? ⟨(w.heap.size+1),7,none⟩=some (.slice none 0 0):=⟨bA g4 0,bA g4 1,bA g4 2,bA g4 3,bA g4 4,bA g4 5,bA g4 6,bA g4 7⟩
    refine bodyPost_ret (v:=.tuple #[.agg #[.int .i64 0,.int .i64 0,.slice none 0 0,.int .i64 0,.int .i64 0,.bool false,.int .i64 0,.slice none 0 0],.int .i64 16]) (by simp [results,Tryz.results147,go_sem,q0,q1,q2,q3,q4,q5,q6,q7]) rfl ?_;exact RdOne.err HN.out 16 (by decide) (by decide) (hb4.trans (hk4.below hb4.size (fun k hk e=>by omega)))
  ·have he':(e !=0)=true:=by rw[bne_iff_ne];exact he
   have HN:Hid (O=none):=by show _=_;rw[←hO.out,hDn]
   clear he hDn hcs hzz;go_wp2_with (first|(refine bE rfl 53 (.tmp 6) (.tmp 15) rfl w2.heap.size 0 _ _ (#[.int .i64 x.fn,.int .i64 x.exc,.slice da x.data.length dc,.int .i64 x.code,.int .i64 x.level,.bool x.more,.int .i64 x.next,.slice oa x.objs.length oc]) rfl rfl gX (by simp) (by kernel_rfl) (by rfl) ?_;intro w3 g3 hk3 hz3;have gZ3:=bG (gZA _) hk3 hne;have hb3:=HB3.out _ _ hk3)|(refine bE rfl 53 (.tmp 4) (.tmp 20) rfl (w.heap.size+1) 0 _ _ (#[.int .i64 0,.int .i64 0,.slice none 0 0,.int .i64 0,.int .i64 0,.bool false,.int .i64 0,.slice none 0 0]) rfl rfl gZ3 (by simp) (by kernel_rfl) (by rfl) ?_;intro w4 g4 hk4 hz4));obtain⟨q0,q1,q2,q3,q4,q5,q6,q7⟩:w4.cell? ⟨(w.heap.size+1),0,none⟩=some (.int .i64 0)∧w4.cell? ⟨(w.heap.size+1),1,none⟩=some (.int .i64 0)∧w4.cell? ⟨(w.heap.size+1),2,none⟩=some (.slice none 0 0)∧w4.cell? ⟨(w.heap.size+1),3,none⟩=some (.int .i64 0)∧w4.cell? ⟨(w.heap.size+1),4,none⟩=some (.int .i64 0)∧w4.cell? ⟨(w.heap.size+1),5,none⟩=some (.bool false)∧w4.cell? ⟨(w.heap.size+1),6,none⟩=some (.int .i64 0)∧w4.cell? ⟨(w.heap.size+1),7,none⟩=some (.slice none 0 0):=⟨bA g4 0,bA g4 1,bA g4 2,bA g4 3,bA g4 4,bA g4 5,bA g4 6,bA g4 7⟩
   refine bodyPost_ret (v:=.tuple #[.agg #[.int .i64 0,.int .i64 0,.slice none 0 0,.int .i64 0,.int .i64 0,.bool false,.int .i64 0,.slice none 0 0],.int .i64 e]) (by simp [results,Tryz.results147,go_sem,q0,q1,q2,q3,q4,q5,q6,q7]) rfl ?_;exact RdOne.err HN.out e he1 he2 (hb3.1.trans (hk4.below hb3.1.size (fun k hk e=>by omega)))
end Go.Proofs.YtoaoejaodhedaaaGreat
