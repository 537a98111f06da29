import Derived.Test.YtoaoejaodhedaaaGreatQ06
import Derived.Test.YtoaoejaodhedaaaGreatQ07
import Derived.DeepKeys
namespace Go.Proofs.YtoaoejaodhedaaaGreat
open Go.RowKit
set_option maxHeartbeats 6400000
set_option maxRecDepth 100000
def TvPost (w:World) (t:Tbl) (k:Nat) (r:Ending) (w':World):Prop:=∃V:Bool,r=.returned (.bool V)∧Hid (V=true↔t.val k)∧Below w.heap.size w w'
theorem TvPost.no {w w':World} {t:Tbl} {k:Nat} (h:¬t.val k) (hb:Below w.heap.size w w'):TvPost w t k (.returned (.bool false)) w':=⟨false,rfl,⟨fun e=>(by cases e),fun e=>absurd e h⟩,hb⟩
theorem TvPost.yes {w w':World} {t:Tbl} {k:Nat} (h:t.val k) (hb:Below w.heap.size w w'):TvPost w t k (.returned (.bool true)) w':=⟨true,rfl,⟨fun _=>h,fun _=>rfl⟩,hb⟩
theorem z07_1 {p:Prop} (h:p:=by
 refine tG 8 25 ?_
 refine tG 9 26 ?_
 refine tU 10 27 ?_
 refine tU 11 28 ?_
 refine tU 12 29 ?_
 refine tG 13 30 ?_
 refine tG 14 31 ?_
 refine tU 15 32 ?_
 refine tU 16 33 ?_
 refine tU 17 34 ?_
 refine tU 18 35 ?_
 refine tU 19 36 ?_
 refine tG 20 37 ?_
 refine tG 21 4 ?_
 refine wpAnyH_done (by kernel_rfl) ?_ _
 go_wp2
 go_ret
 exact TvPost.no HV.out (bU HB1.out hB5)):p:=h
theorem ptable_val (t:Tbl) (rv:Value) (k:Nat) (w:World) (hl:Rgs w rv t.rd):
  Calls Tryz.prog 150 #[.int .i64 ((k:Int)+1),.agg #[.bool t.sup,rv,.int .i64 t.most]] w (TvPost w t k):=by
 obtain⟨ra,rc,hrv,-⟩:=id hl;obtain⟨rn,hrn⟩:=gE t.rd.length;rw[hrn] at hrv;subst hrv;obtain⟨W1,hW1,hb1,pT⟩:=alQ w (.cells #[.bool t.sup,.slice ra rn rc,.int .i64 t.most] 65);have t0:=cF pT 0 rfl;have t1:=cF pT 1 rfl;have t2:=cF pT 2 rfl;have k0:Below W1.heap.size W1 W1:=Below.refl _ _;have kD:Below W1.heap.size W1 W1.drew:=(Below.refl _ _).drew;have HRN:=bC hrn;have HW1:=bC hW1;have HB1:=bC hb1;have HVR:Hid (∀X,Below W1.heap.size W1 X→Calls Tryz.prog 180 #[.slice ra rn rc] X (BoolPost X (rgsFrom (-1) t.rd))):=fun X h=>prg_valid _ t.rd X (hl.keep (bU hb1 h)) _ rfl
 have HLM:Hid (∀X,Calls Tryz.prog 155 #[.int .i64 ((k:Int)+1)] X fun r w'=>r=.returned (.int .i64 (limI ((k:Int)+1)))∧X=w'):=fun X=>limit_any _ X
 obtain⟨mo,hmo⟩:=gE t.most;rw[hmo] at t2 HW1 ⊢;have HMO:=bC hmo;clear hW1 hb1 pT hl hrn hmo;cases hs:t.sup with
 |false=>
  rw[hs] at t0 HW1;have HS:=bC hs;clear HVR HLM kD hs;by_cases e1:rn=0
  ·have d1:((rn:Int)==0)=true:=b1 (by omega)
   by_cases e2:mo=0
   ·have d2:(mo==0)=true:=b1 e2
    have HV:Hid (t.val k):=⟨fun _=>⟨by rw[HRN.out];exact e1,by rw[HMO.out];exact e2⟩,fun e=>by rw[HS.out] at e;cases e⟩
    clear e1 e2;go_enter Tryz.func150,Tryz.ntmps150;go_upto_region 1 with(fail)
    rw[HW1.out];go_wp2;go_ret;exact TvPost.yes HV.out HB1.out
   ·have d2:(mo==0)=false:=b0 e2
    have HV:Hid (¬t.val k):=fun h=>e2 (by rw[←HMO.out];exact(h.1 HS.out).2)
    clear e1 e2;go_enter Tryz.func150,Tryz.ntmps150;go_upto_region 1 with(fail)
    rw[HW1.out];go_wp2;go_ret;exact TvPost.no HV.out HB1.out
  ·have d1:((rn:Int)==0)=false:=b0 (by omega)
   have HV:Hid (¬t.val k):=fun h=>e1 (by rw[←HRN.out];exact(h.1 HS.out).1)
   clear e1;go_enter Tryz.func150,Tryz.ntmps150;go_upto_region 1 with(fail)
   rw[HW1.out];go_wp2;go_ret;exact TvPost.no HV.out HB1.out
 |true=>
  rw[hs] at t0 HW1;have HS:=bC hs;clear hs;obtain⟨B,hB⟩:∃B,rgsFrom (-1) t.rd=B:=⟨_,rfl⟩
  rw[hB] at HVR;cases B with
  |false=>
   have HV:Hid (¬t.val k):=fun h=>by have:=(h.2 HS.out).2.1;rw[hB] at this;cases this
   clear hB;go_enter Tryz.func150,Tryz.ntmps150;go_upto_region 1 with(fail)
   rw[HW1.out];go_upto_region 3 with(fail)
   refine wp_region_held_drew (S:=fun V=>Below W1.heap.size W1 V) (by kernel_rfl) kD (fun hH=>?_);clear hH;refine tG 0 17 ?_;refine tG 1 18 ?_;refine bM 2 rfl (fun K hK=>?_);go_simp;refine(HVR.out _ kD).mono ?_;rintro r w5 ⟨rfl,hb5⟩;have hB5:=bU kD hb5;refine hK.out _ _ hB5 (fun hSx=>?_);clear hK K hSx;refine tG 3 20 ?_;refine tU 4 21 ?_;refine tU 5 22 ?_;refine tU 6 23 ?_;refine tU 7 24 ?_;exact z07_1
  |true=>
   have HB2:=bC hB;clear hB;by_cases e1:rn≤32
   ·have d1:decide ((rn:Int)≤32)=true:=decide_eq_true (by omega)
    by_cases e2:1≤mo
    ·have d2:decide (1≤mo)=true:=decide_eq_true e2
     obtain⟨L,hL⟩:∃L,limI ((k:Int)+1)=L:=⟨_,rfl⟩
     rw[hL] at HLM;by_cases e3:mo≤L
     ·have d3:decide (mo≤L)=true:=decide_eq_true e3
      have HV:Hid (t.val k):=⟨fun e=>(by rw[HS.out] at e;cases e),fun _=>⟨by rw[HRN.out];exact e1,HB2.out,by rw[HMO.out];exact e2,by rw[HMO.out,hL];exact e3⟩⟩
      clear e1 e2 e3 hL;go_enter Tryz.func150,Tryz.ntmps150;go_upto_region 1 with(fail)
      rw[HW1.out];go_upto_region 3 with(fail)
      refine wp_region_held_drew (S:=fun V=>Below W1.heap.size W1 V) (by kernel_rfl) kD (fun hH=>?_);clear hH;refine tG 0 17 ?_;refine tG 1 18 ?_;refine bM 2 rfl (fun K hK=>?_);go_simp;refine(HVR.out _ kD).mono ?_;rintro r w5 ⟨rfl,hb5⟩;have hB5:=bU kD hb5;refine hK.out _ _ hB5 (fun hSx=>?_);clear hK K hSx;refine tG 3 20 ?_;refine tG 4 21 ?_;refine tG 5 22 ?_;refine tG 6 23 ?_;refine tG 7 24 ?_;refine tG 8 25 ?_;refine tG 9 26 ?_;refine tG 10 27 ?_;refine tG 11 28 ?_;refine tG 12 29 ?_;refine tG 13 30 ?_;refine tG 14 31 ?_;refine tG 15 32 ?_;refine tG 16 33 ?_;refine tG 17 34 ?_;refine bM 18 rfl (fun K hK=>?_);go_simp;refine(HLM.out _).mono ?_;rintro r w6 ⟨rfl,rfl⟩;refine hK.out _ _ hB5 (fun hSx=>?_);clear hK K hSx;refine tG 19 36 ?_;refine tG 20 37 ?_;refine tG 21 4 ?_;refine wpAnyH_done (by kernel_rfl) ?_ _;go_wp2;go_ret;exact TvPost.yes HV.out (bU HB1.out hB5)
     ·have d3:decide (mo≤L)=false:=decide_eq_false e3
      have HV:Hid (¬t.val k):=fun h=>e3 (by have:=(h.2 HS.out).2.2.2;rw[HMO.out,hL] at this;exact this)
      clear e1 e2 e3 hL;go_enter Tryz.func150,Tryz.ntmps150;go_upto_region 1 with(fail)
      rw[HW1.out];go_upto_region 3 with(fail)
      refine wp_region_held_drew (S:=fun V=>Below W1.heap.size W1 V) (by kernel_rfl) kD (fun hH=>?_);clear hH;refine tG 0 17 ?_;refine tG 1 18 ?_;refine bM 2 rfl (fun K hK=>?_);go_simp;refine(HVR.out _ kD).mono ?_;rintro r w5 ⟨rfl,hb5⟩;have hB5:=bU kD hb5;refine hK.out _ _ hB5 (fun hSx=>?_);clear hK K hSx;refine tG 3 20 ?_;refine tG 4 21 ?_;refine tG 5 22 ?_;refine tG 6 23 ?_;refine tG 7 24 ?_;refine tG 8 25 ?_;refine tG 9 26 ?_;refine tG 10 27 ?_;refine tG 11 28 ?_;refine tG 12 29 ?_;refine tG 13 30 ?_;refine tG 14 31 ?_;refine tG 15 32 ?_;refine tG 16 33 ?_;refine tG 17 34 ?_;refine bM 18 rfl (fun K hK=>?_);go_simp;refine(HLM.out _).mono ?_;rintro r w6 ⟨rfl,rfl⟩;refine hK.out _ _ hB5 (fun hSx=>?_);clear hK K hSx;refine tG 19 36 ?_;refine tG 20 37 ?_;refine tG 21 4 ?_;refine wpAnyH_done (by kernel_rfl) ?_ _;go_wp2;go_ret;exact TvPost.no HV.out (bU HB1.out hB5)
    ·have d2:decide (1≤mo)=false:=decide_eq_false e2
     have HV:Hid (¬t.val k):=fun h=>e2 (by have:=(h.2 HS.out).2.2.1;rw[HMO.out] at this;exact this)
     clear e1 e2;go_enter Tryz.func150,Tryz.ntmps150;go_upto_region 1 with(fail)
     rw[HW1.out];go_upto_region 3 with(fail)
     refine wp_region_held_drew (S:=fun V=>Below W1.heap.size W1 V) (by kernel_rfl) kD (fun hH=>?_);clear hH;refine tG 0 17 ?_;refine tG 1 18 ?_;refine bM 2 rfl (fun K hK=>?_);go_simp;refine(HVR.out _ kD).mono ?_;rintro r w5 ⟨rfl,hb5⟩;have hB5:=bU kD hb5;refine hK.out _ _ hB5 (fun hSx=>?_);clear hK K hSx;refine tG 3 20 ?_;refine tG 4 21 ?_;refine tG 5 22 ?_;refine tG 6 23 ?_;refine tG 7 24 ?_;refine tG 8 25 ?_;refine tG 9 26 ?_;refine tG 10 27 ?_;refine tG 11 28 ?_;refine tG 12 29 ?_;refine tG 13 30 ?_;refine tG 14 31 ?_;refine tU 15 32 ?_;refine tU 16 33 ?_;refine tU 17 34 ?_;refine tU 18 35 ?_;refine tU 19 36 ?_;refine tG 20 37 ?_;refine tG 21 4 ?_;refine wpAnyH_done (by kernel_rfl) ?_ _;go_wp2;go_ret;exact TvPost.no HV.out (bU HB1.out hB5)
   ·have d1:decide ((rn:Int)≤32)=false:=decide_eq_false (by omega)
    have HV:Hid (¬t.val k):=fun h=>e1 (by have:=(h.2 HS.out).1;rw[HRN.out] at this;exact this)
    clear e1;go_enter Tryz.func150,Tryz.ntmps150;go_upto_region 1 with(fail)
    rw[HW1.out];go_upto_region 3 with(fail)
    refine wp_region_held_drew (S:=fun V=>Below W1.heap.size W1 V) (by kernel_rfl) kD (fun hH=>?_);clear hH;refine tG 0 17 ?_;refine tG 1 18 ?_;refine bM 2 rfl (fun K hK=>?_);go_simp;refine(HVR.out _ kD).mono ?_;rintro r w5 ⟨rfl,hb5⟩;have hB5:=bU kD hb5;refine hK.out _ _ hB5 (fun hSx=>?_);clear hK K hSx;refine tG 3 20 ?_;refine tG 4 21 ?_;refine tG 5 22 ?_;refine tG 6 23 ?_;refine tG 7 24 ?_;exact z07_1
theorem greatest_any (c:Int) (w:World):Calls Tryz.prog 179 #[.int .i64 c] w fun r w'=>r=.returned (.int .i64 (grI c))∧w=w':=by
 unfold grI;by_cases h1:c=1
 ·have d1:(c==1)=true:=b1 h1
  rw[if_pos h1];clear h1;go_enter Tryz.func179,Tryz.ntmps179;go_wp2;go_ret;exact⟨rfl,rfl⟩
 ·have d1:(c==1)=false:=b0 h1
  rw[if_neg h1];clear h1;by_cases h2:c=2
  ·have d2:(c==2)=true:=b1 h2
   rw[if_pos h2];clear h2;go_enter Tryz.func179,Tryz.ntmps179;go_wp2;go_ret;exact⟨rfl,rfl⟩
  ·have d2:(c==2)=false:=b0 h2
   rw[if_neg h2];clear h2;go_enter Tryz.func179,Tryz.ntmps179;go_wp2;go_ret;exact⟨rfl,rfl⟩
structure obStep (lv:Int) (l:List Ob) (i:Nat) (x:Ob):Prop where
 lo:i≤2→x.id=(i:Int)
 hi:2<i→∀y,l[i-1]?=some y→y.id<x.id
 gr:x.id≤grI lv
 vl:x.val.length≤64
theorem rises_all:∀(l:List Ob) (a:Int),rises a l=true↔∀(i:Nat) (x:Ob),l[i]?=some x→x.id≤255∧(i=0→a<x.id)∧(0<i→∀y,l[i-1]?=some y→y.id<x.id)
 |[],a=>⟨fun _ i x h=>(by rw[List.getElem?_nil] at h;cases h),fun _=>rfl⟩
 |z::l,a=>by
  have ih:=rises_all l z.id;constructor
  ·intro h i x hx
   simp only[rises,Bool.and_eq_true,decide_eq_true_eq] at h;cases i with
   |zero=>
    cases hx;exact⟨h.1.2,fun _=>h.1.1,fun e=>absurd e (Nat.lt_irrefl 0)⟩
   |succ i=>
    rw[List.getElem?_cons_succ] at hx;obtain⟨h1,h2,h3⟩:=ih.1 h.2 i x hx;refine⟨h1,fun e=>by omega,fun _ y hy=>?_⟩;cases i with
    |zero=>cases hy;exact h2 rfl
    |succ i=>
     rw[show i+1+1-1=i+1 by omega,List.getElem?_cons_succ] at hy;exact h3 (by omega) y (by rw[show i+1-1=i by omega];exact hy)
  ·intro h
   simp only[rises,Bool.and_eq_true,decide_eq_true_eq];obtain⟨h1,h2,-⟩:=h 0 z rfl;refine⟨⟨h2 rfl,h1⟩,ih.2 fun i x hx=>?_⟩;obtain⟨g1,-,g3⟩:=h (i+1) x (by rw[List.getElem?_cons_succ];exact hx);refine⟨g1,fun e=>?_,fun e y hy=>?_⟩
   ·subst e
    exact g3 (by omega) z rfl
   ·refine g3 (by omega) y ?_
    obtain⟨j,rfl⟩:∃j,i=j+1:=⟨i-1,by omega⟩
    rw[show j+1+1-1=j+1 by omega,List.getElem?_cons_succ];exact hy
theorem grI_le (c:Int):grI c≤255:=by
 unfold grI;split
 ·decide
 ·split<;>decide
structure ObsV (lv:Int) (l:List Ob):Prop where
 on:l.length≤16∧3≤l.length
 ri:rises (-1) l=true
 o2:∀x,l[2]?=some x→x.id=2
 top:∀x,l[l.length-1]?=some x→(lv=1→x.id≤2)∧(lv=2→x.id≤127)
 vl:∀(i:Nat) (x:Ob),l[i]?=some x→x.val.length≤64
theorem rises_at {l:List Ob} (h:rises (-1) l=true) {i j:Nat} (hij:i≤j) {x y:Ob} (hx:l[i]?=some x) (hy:l[j]?=some y):x.id≤y.id:=by
 induction j generalizing y with
 |zero=>
  obtain rfl:i=0:=by omega
  rw[hx] at hy;cases hy;exact Int.le_refl _
 |succ j ih=>
  by_cases e:i=j+1
  ·subst e
   rw[hx] at hy;cases hy;exact Int.le_refl _
  ·have hj:j<l.length:=by have:=(List.getElem?_eq_some_iff.1 hy).1;omega
   obtain⟨z,hz⟩:=gs (l:=l) rfl hj;have h1:=ih (by omega) hz;have h2:=((rises_all l (-1)).1 h (j+1) y hy).2.2 (by omega) z (by rw[show j+1-1=j by omega];exact hz);omega
theorem obsV_iff {lv:Int} {l:List Ob} (h16:l.length≤16) (h3:3≤l.length):ObsV lv l↔∀(i:Nat) (x:Ob),l[i]?=some x→obStep lv l i x:=by
 constructor
 ·intro h i x hx
  have hr:=(rises_all l (-1)).1 h.ri;obtain⟨x0,g0⟩:=gs (l:=l) (k:=0) rfl (by omega);obtain⟨x1,g1⟩:=gs (l:=l) (k:=1) rfl (by omega);obtain⟨x2,g2⟩:=gs (l:=l) (k:=2) rfl (by omega);have e2:=h.o2 x2 g2;have a0:=(hr 0 x0 g0).2.1 rfl;have a1:=(hr 1 x1 g1).2.2 (by omega) x0 g0;have a2:=(hr 2 x2 g2).2.2 (by omega) x1 g1;refine⟨fun hi=>?_,fun hi y hy=>(hr i x hx).2.2 (by omega) y hy,?_,h.vl i x hx⟩
  ·match i,hi with
   |0,_=>rw[g0] at hx;cases hx;show x.id=0;omega
   |1,_=>rw[g1] at hx;cases hx;show x.id=1;omega
   |2,_=>rw[g2] at hx;cases hx;show x.id=2;omega
  ·have hil:=(List.getElem?_eq_some_iff.1 hx).1
   obtain⟨z,hz⟩:=gs (l:=l) (k:=l.length-1) rfl (by omega);have h1:=rises_at h.ri (show i≤l.length-1 by omega) hx hz;obtain⟨t1,t2⟩:=h.top z hz;have h2:=(hr _ z hz).1;unfold grI;split
   ·have:=t1 (by assumption);omega
   ·split
    ·have:=t2 (by assumption);omega
    ·omega
 ·intro h
  refine⟨⟨h16,h3⟩,(rises_all l (-1)).2 fun i x hx=>?_,fun x hx=>(h 2 x hx).lo (by omega),fun x hx=>?_,fun i x hx=>(h i x hx).vl⟩
  ·have hs:=h i x hx
   refine⟨Int.le_trans hs.gr (grI_le _),fun e=>?_,fun hi y hy=>?_⟩
   ·subst e
    have:=hs.lo (by omega);omega
   ·by_cases e:2<i
    ·exact hs.hi e y hy
    ·have h1:=hs.lo (by omega)
     have h2:=(h (i-1) y hy).lo (by omega);omega
  ·have:=(h _ x hx).gr
   unfold grI at this;refine⟨fun e=>?_,fun e=>?_⟩
   ·rw [if_pos e] at this;exact this
   ·rw [if_neg (by omega),if_pos e] at this;exact this
def objsV (lv:Int) (l:List Ob):Prop:=if lv=0 then l.length=0 else (1≤lv∧lv≤3∧ObsV lv l)
theorem Sl.val_iff {s:Sl}:s.val↔Okset s.bd s.pa∧1≤s.un∧s.un≤247∧objsV s.lv s.objs∧(∀k,k<4→(s.ts k).val k)∧(s.hs=true→1≤s.sd.length∧s.sd.length≤64)∧(s.hs=false→s.sd.length=0):=by
 unfold objsV;constructor
 ·intro h
  refine⟨h.set,h.un.1,h.un.2,?_,h.tb,fun e=>⟨h.sv.1 e,h.sl⟩,fun e=>?_⟩
  ·split
   ·exact h.l0 (by assumption)
   ·have:=h.lv
    exact⟨by omega,this.2,h.on (by omega),h.ri (by omega),h.o2 (by omega),h.top (by omega),h.vl (by omega)⟩
  ·have:=h.sv
   rw[e] at this;have:=mt this.2 (by decide);omega
 ·rintro ⟨h1,h2,h3,h4,h5,h6,h7⟩
  have hlv:0≤s.lv∧s.lv≤3:=by
   split at h4
   ·omega
   ·omega
  have hO:0<s.lv→ObsV s.lv s.objs:=fun e=>by
   rw[if_neg (by omega)] at h4;exact h4.2.2
  refine⟨h1,⟨h2,h3⟩,hlv,h5,fun e=>?_,⟨fun e=>(h6 e).1,fun e=>?_⟩,?_,fun e=>(hO e).on,fun e=>(hO e).ri,fun e=>(hO e).o2,fun e=>(hO e).top,fun e=>(hO e).vl⟩
  ·rw [if_pos e] at h4
   exact h4
  ·cases hh:s.hs with
   |true=>rfl
   |false=>have:=h7 hh;omega
  ·cases hh:s.hs with
   |true=>exact(h6 hh).2
   |false=>have:=h7 hh;omega
def SlRow (w:World) (r:List Value) (s:Sl):Prop:=∃rv ov sv,r=(SlC s rv ov sv).toList∧SlR w s rv ov sv
def Slvs (w:World) (v:Value) (l:List Sl):Prop:=Sls 19 SlRow w v l
theorem SlRow.keep (w w':World) (r:List Value) (x:Sl) (h:SlRow w r x) (hb:Below w.heap.size w w'):SlRow w' r x:=by
 obtain⟨rv,ov,sv,e,h⟩:=h;exact⟨rv,ov,sv,e,h.keep hb⟩
theorem Slvs.keep {w w':World} {v:Value} {l:List Sl} (h:Slvs w v l) (hb:Below w.heap.size w w'):Slvs w' v l:=Sls.keep SlRow.keep h hb
theorem slRow_rd {w:World} {cs:List Value} (h:Rd Tryz.prog w 68 cs):∃x,SlRow w cs x:=by
 obtain⟨s,rv,ov,sv,e,hR⟩:=sl_rd (cs:=cs.toArray) (by simpa using h);exact⟨s,rv,ov,sv,by rw[←e],hR⟩
theorem slvs_rd {w:World} {v:Value} (h:Rd Tryz.prog w 28 [v]):∃l,Slvs w v l:=
 Sls.of_rd (R:=SlRow) Tryz.underlying28 cellsSl (by decide) (fun _ h=>slRow_rd h) h
theorem Slvs.at {w:World} {a:Option Addr} {n c:Nat} {l:List Sl} (h:Slvs w (.slice a n c) l) {i:Nat} {s:Sl} (hi:l[i]?=some s):
  ∃b o rv ov sv,a=some ⟨b,o,none⟩∧SlR w s rv ov sv∧∀j u,(SlC s rv ov sv)[j]?=some u→w.cell? ⟨b,o+i*19+j,none⟩=some u:=by
 obtain⟨-,-,-,hel⟩:=Sls.get h;obtain⟨b,o,ha,r,hr,⟨rv,ov,sv,rfl,hR⟩,hc⟩:=hel i s hi;exact⟨b,o,rv,ov,sv,ha,hR,fun j u hj=>hc j u (by simpa using hj)⟩
theorem Slvs.slc {w:World} {v:Value} {l:List Sl} (h:Slvs w v l):∃a c,v=.slice a l.length c:=by
 obtain⟨a,c,e,-⟩:=h;exact⟨a,c,e⟩
theorem SlC_rd (s:Sl) (rv:Nat→Value) (ov sv:Value) {k:Nat} (hk:k<4):(SlC s rv ov sv)[3+k*3+1]?=some (rv k):=by
 match k,hk with
 |0,_=>rfl
 |1,_=>rfl
 |2,_=>rfl
 |3,_=>rfl
def allSmall (l:List Sl):Prop:=∀s∈l,slSmall s
theorem mslaves_w (a:Option Addr) (c:Nat) (l:List Sl) (n:Int) (w:World) (ln:Nat) (hln:l.length=ln) (hl:Slvs w (.slice a ln c) l) (VV:Bool) (hVV:VV=true↔(allSmall l∧(l.length:Int)≤n)):
  Calls Tryz.prog 45 #[.slice a ln c,.int .i64 n] w (MsPost w VV):=by
 have hln64:ln≤9223372036854775807:=by have:=Sls.len hl;rw[hln] at this;unfold maxLen at this;omega
 have HL:=bC hl;have HLN:=bC hln;have HF:Hid (¬(allSmall l∧(l.length:Int)≤n)→VV=false):=fun h=>by
  cases e:VV with
  |false=>rfl
  |true=>exact absurd (hVV.1 e) h
 have HT:=bC hVV.2;clear hVV hl hln;go_enter Tryz.func45,Tryz.ntmps45;go_wp2_with fail;go_loopw [5,6] (fun iv jv wr=>∃i:Nat,i≤ln∧iv=.int .i64 (i:Int)∧Hid (∀j s,j<i→l[j]?=some s→slSmall s)∧w=wr) (fun iv _ _=>ln- (intOf iv).toNat)
 case atStart=>exact⟨0,Nat.zero_le _,rfl,fun j s hj=>absurd hj (Nat.not_lt_zero _),rfl⟩
 case round=>
  obtain⟨i,hi,rfl,hall,rfl⟩:=hrel;have hii:(0:Int)≤(i:Int):=Int.natCast_nonneg _;by_cases hlt:i<ln
  ·have hil:(i:Int)<(ln:Int):=by omega
   obtain⟨s,hs⟩:∃s,l[i]?=some s:=⟨_,List.getElem?_eq_getElem (by rw[HLN.out];exact hlt)⟩
   obtain⟨b,o,rv,ov,sv,rfl,hR,hc⟩:=HL.out.at hs;obtain⟨oa,oc,rfl,-⟩:=id hR.ob;obtain⟨sa,sc,rfl,-⟩:=id hR.sd;obtain⟨V,hV⟩:=gE (smallObs s.objs);have HO:Hid (Calls Tryz.prog 91 #[.slice oa s.objs.length oc] w fun r w'=>r=.returned (.bool V)∧w=w'):=objects_any _ s.objs w hR.ob V hV;have c16:w.cell? ⟨b,o+i*19+16,none⟩=some (.slice oa s.objs.length oc):=hc 16 _ rfl;have c18:w.cell? ⟨b,o+i*19+18,none⟩=some (.slice sa s.sd.length sc):=hc 18 _ rfl;obtain⟨on,hon⟩:=gE s.objs.length;obtain⟨sn,hsn⟩:=gE s.sd.length;rw[hon] at HO c16;rw[hsn] at c18;have HVO:=bC hV;have HSN:=bC hsn;have HR:=bC hR;have HC:=bC hc;have HS:=bC hs;have HNS:Hid (¬slSmall s→VV=false):=fun h=>HF.out (fun e=>h (e.1 s (List.mem_of_getElem? HS.out)))
   clear hR hc hs hV hon hsn;cases V with
   |false=>
    have HE:=bC (HNS.out (fun h=>by have:=h.1;rw[HVO.out] at this;cases this));go_wp2_with (go_at_call 91;(with_reducible refine HO.out.mono ?_);rintro r w2 ⟨rfl,rfl⟩);go_ret;exact⟨by rw[HE.out];rfl,rfl⟩
   |true=>
    by_cases hs8:80<(sn:Int)
    ·have HE:=bC (HNS.out (fun h=>by have:=h.2.1;rw[HSN.out] at this;omega))
     go_wp2_with (go_at_call 91;(with_reducible refine HO.out.mono ?_);rintro r w2 ⟨rfl,rfl⟩);go_ret;exact⟨by rw[HE.out];rfl,rfl⟩
    ·go_upto_region 7 with(go_at_call 91;(with_reducible refine HO.out.mono ?_);rintro r w2 ⟨rfl,rfl⟩)
     clear c16 c18;go_loopw [6] (fun jv wr=>∃k:Nat,k≤4∧jv=.int .i64 (k:Int)∧Hid (∀i,i<k→(s.ts i).rd.length≤40)∧w=wr) (fun jv _=>4- (intOf jv).toNat)
     case atStart=>exact⟨0,by omega,rfl,fun i hi=>absurd hi (by omega),rfl⟩
     case round=>
      obtain⟨k,hk,rfl,hal,rfl⟩:=hrel;have hki:(0:Int)≤(k:Int):=Int.natCast_nonneg _;by_cases hlt4:k<4
      ·have hkl:(k:Int)<4:=by omega
       obtain⟨ra,rc,hrv,-⟩:=id (HR.out.rg k hlt4);obtain⟨rn,hrn⟩:=gE ((s.ts k).rd.length);have ct:w.cell? ⟨b,o+i*19+3+k*3+1,none⟩=some (.slice ra rn rc):=by
        have:=HC.out (3+k*3+1) (rv k) (SlC_rd s rv _ _ hlt4);rw[show o+i*19+(3+k*3+1)=o+i*19+3+k*3+1 by omega] at this;rw[hrv,hrn] at this;exact this
       have HRN:=bC hrn;clear hrv hrn;by_cases hr:40<(rn:Int)
       ·have HE:=bC (HNS.out (fun h=>by have:=h.2.2 k hlt4;rw[HRN.out] at this;omega))
        go_wp2;go_ret;exact⟨by rw[HE.out];rfl,rfl⟩
       ·have HA2:Hid (∀i,i<k+1→(s.ts i).rd.length≤40):=fun i hi=>by
         by_cases e:i=k
         ·subst e;rw[HRN.out];omega
         ·exact hal.out i (by omega)
        go_wp2;go_roundw
        case rel=>exact⟨k+1,by omega,by go_num,HA2.out,trivial⟩
        case measure=>simp [intOf];omega
      ·obtain rfl:k=4:=by omega
       have HA3:Hid (∀j t,j<i+1→l[j]?=some t→slSmall t):=fun j t hj ht=>by
        by_cases e:j=i
        ·subst e
         rw[HS.out] at ht;cases ht;exact⟨HVO.out,by rw[HSN.out];omega,hal.out⟩
        ·exact hall.out j t (by omega) ht
       go_wp2;go_roundw
       case rel=>exact⟨i+1,by omega,by go_num,HA3.out,trivial⟩
       case measure=>simp [intOf];omega
  ·obtain rfl:i=ln:=by omega
   have hil:¬(i:Int)<(i:Int):=Int.lt_irrefl _;have HAS:Hid (allSmall l):=fun s hs=>by
    obtain⟨j,hj,e⟩:=List.mem_iff_getElem.1 hs;exact hall.out j s (by have:=HLN.out;omega) (by rw[List.getElem?_eq_getElem hj,e])
   have HVD:Hid (VV=decide ((i:Int)≤n)):=by
    show _=_;by_cases e:(i:Int)≤n
    ·rw [HT.out ⟨HAS.out,by rw[HLN.out];exact e⟩,decide_eq_true e]
    ·rw [HF.out (fun h=>e (by have:=h.2;rw[HLN.out] at this;exact this)),decide_eq_false e]
   clear hall hi hlt;go_wp2;go_ret;exact⟨by rw[HVD.out]<;>rfl,rfl⟩
theorem mslaves_any (l:List Sl) (n:Int):∃V:Bool,(V=true↔(allSmall l∧(l.length:Int)≤n))∧∀(w:World) (v:Value),Slvs w v l→Calls Tryz.prog 45 #[v,.int .i64 n] w (MsPost w V):=by
 by_cases h:allSmall l∧(l.length:Int)≤n
 ·refine ⟨true,⟨fun _=>h,fun _=>rfl⟩,fun w v hv=>?_⟩
  obtain⟨a,c,rfl⟩:=hv.slc;exact mslaves_w a c l n w _ rfl hv true ⟨fun _=>h,fun _=>rfl⟩
 ·refine ⟨false,⟨fun e=>(by cases e),fun e=>absurd e h⟩,fun w v hv=>?_⟩
  obtain⟨a,c,rfl⟩:=hv.slc;exact mslaves_w a c l n w _ rfl hv false ⟨fun e=>(by cases e),fun e=>absurd e h⟩
theorem hpRowB {w:World} {b:Nat} {C:Array Value} {t:TypeId} {fz:Nat×Nat} (h:w.heap[b]?=some (.cells C t fz)) (j:Nat) (v:Value) (hj:C.toList[j]?=some v):w.cell? ((⟨b,0,none⟩:Addr).add j)=some v:=by
 have e:(⟨b,0,none⟩:Addr).add j=⟨b,j,none⟩:=by unfold Addr.add;split<;>simp_all
 rw[e,bA h];simpa using hj
theorem bool_is {p:Prop}:∃B:Bool,(B=true↔p):=by
 by_cases h:p
 ·exact ⟨true,fun _=>h,fun _=>rfl⟩
 ·exact ⟨false,fun e=>(by cases e),fun e=>absurd e h⟩
theorem wpList_load_atH {P:Program} {ops:Array Oper} {rest:List Oper} {o:Oper} {a:Act} {w:World} {Q:Exit→Act→World→Prop} (hw:Region.wanted o (yielded ops a.tmps)=true) (ty:TypeId) (x:Operand) (ho:o.op=.load ty x)
  (ad:Addr) (hx:a.eval x=.pointer (some ad)) (cs:Array Value) (d:TypeDesc) (hc:∀j v,cs.toList[j]?=some v→w.cell? (ad.add j)=some v)
  (hu:P.underlying ty=some d) (hd:(match d with|.struct _|.array _ _=>true|_=>false)=true) (hi:(P.info? ty).map (·.size)=some cs.size)
  (h:wpList P ops Q rest (a.put o.dst (.agg cs)) w):wpList P ops Q (o::rest) a w:=
 wpList_step fun K hK=>by
  rw[if_pos hw];unfold Oper.wp execOp;simp only[ho,hx,Instr.loadAt,Instr.sureAddr,Sem.run_bind,Sem.run_pure,Result.andThen_ok,run_loadVar_at w ad ty cs d hc hu hd hi];exact hK _ _ h
def BusP (l:List Sl):Prop:=l.length≤16∧∀s∈l,s.val
theorem rslave_w (s:Sl) (rv:Nat→Value) (ov sv:Value) (V:Bool) (hV:V=true↔s.val) (w:World) (hR:SlR w s rv ov sv):Calls Tryz.prog 53 #[.agg (SlC s rv ov sv)] w (BoolPost w V):=
 (rslave_any s rv ov sv w hR).mono fun r w' ⟨B,h1,h2,h3⟩=>by
  have e:B=V:=by
   cases B<;>cases V
   ·rfl
   ·exact absurd (h2.out.2 (hV.1 rfl)) Bool.noConfusion
   ·exact absurd (hV.2 (h2.out.1 rfl)) Bool.noConfusion
   ·rfl
  subst e;exact⟨h1,h3⟩
theorem info19:(Tryz.prog.info? 68).map (·.size)=some 19:=by kernel_rfl
theorem rbus_w (a:Option Addr) (c:Nat) (l:List Sl) (n:Nat) (w:World) (hn:l.length=n) (hl:Slvs w (.slice a n c) l) (V:Bool) (hV:V=true↔BusP l):
  Calls Tryz.prog 46 #[.slice a n c] w (BoolPost w V):=by
 have HN:=bC hn;have HF:Hid (¬BusP l→V=false):=fun h=>by
  cases e:V with
  |false=>rfl
  |true=>exact absurd (hV.1 e) h
 have HT:=bC hV.2;have HL:=bC hl;clear hV hn hl;go_enter Tryz.func46,Tryz.ntmps46;go_wp2;go_loopw [3] (fun iv wr=>∃k:Nat,k≤n∧k≤16∧iv=.int .i64 (k:Int)∧Hid (∀i s,i<k→l[i]?=some s→s.val)∧Below w.heap.size w wr) (fun iv _=>n- (intOf iv).toNat)
 case atStart=>exact⟨0,Nat.zero_le _,Nat.zero_le _,rfl,fun i s hi=>absurd hi (Nat.not_lt_zero _),Below.refl _ _⟩
 case round=>
  obtain⟨k,hk,hk16,rfl,hall,hbw⟩:=hrel;have hki:(0:Int)≤(k:Int):=Int.natCast_nonneg _;by_cases hlt:k<n
  ·have hkl:(k:Int)<(n:Int):=by omega
   by_cases h16:16≤(k:Int)
   ·have HE:=bC (HF.out (fun h=>by have:=h.1;rw[HN.out] at this;omega))
    go_wp2_with fail;go_ret;exact⟨by rw[HE.out]<;>rfl,hbw⟩
   obtain⟨s,hs⟩:∃s,l[k]?=some s:=⟨_,List.getElem?_eq_getElem (by rw[HN.out];exact hlt)⟩
   obtain⟨b,o,rv,ov,sv,rfl,hR,hc⟩:=(HL.out.keep hbw).at hs;obtain⟨B,hB⟩:=bool_is (p:=s.val);have HSV:=bC (rslave_w s rv ov sv B hB wr hR);obtain⟨C,hC⟩:=gE (SlC s rv ov sv);have hi:(Tryz.prog.info? 68).map (·.size)=some C.size:=by rw[←hC];exact info19
   have hrow:∀j v,C.toList[j]?=some v→wr.cell? ((⟨b,o+k*19,none⟩:Addr).add j)=some v:=fun j v hj=>by
    have e:(⟨b,o+k*19,none⟩:Addr).add j=⟨b,o+k*19+j,none⟩:=by unfold Addr.add;split<;>simp_all
    rw[e];exact hc j v (by rw[hC];simpa using hj)
   rw[hC] at HSV;have HB:=bC hB;have HS:=bC hs;clear hR hc hC hB hs;cases B with
   |false=>
    have HE:=bC (HF.out (fun h=>Bool.noConfusion (HB.out.2 (h.2 s (List.mem_of_getElem? HS.out)))));go_wp2_with (first
     |(refine wpList_load_atH (by rfl) 68 (.tmp 15) rfl ⟨b,o+k*19,none⟩ rfl C _ hrow Tryz.underlying68 rfl hi ?_)
     |(go_at_call 53;(with_reducible refine HSV.out.mono ?_);rintro r w2 ⟨rfl,hb2⟩))
    go_ret;exact⟨by rw[HE.out]<;>rfl,bU hbw hb2⟩
   |true=>
    have HA2:Hid (∀i t,i<k+1→l[i]?=some t→t.val):=fun i t hi ht=>by
     by_cases e:i=k
     ·subst e
      rw[HS.out] at ht;cases ht;exact HB.out.1 rfl
     ·exact hall.out i t (by omega) ht
    go_wp2_with (first
     |(refine wpList_load_atH (by rfl) 68 (.tmp 15) rfl ⟨b,o+k*19,none⟩ rfl C _ hrow Tryz.underlying68 rfl hi ?_)
     |(go_at_call 53;(with_reducible refine HSV.out.mono ?_);rintro r w2 ⟨rfl,hb2⟩))
    go_roundw
    case rel=>exact⟨k+1,by omega,by omega,by go_num,HA2.out,bU hbw hb2⟩
    case measure=>simp [intOf];omega
  ·obtain rfl:k=n:=by omega
   have HE:=bC (HT.out ⟨by rw[HN.out];exact hk16,fun s hs=>by
    obtain⟨j,hj,e⟩:=List.mem_iff_getElem.1 hs
    exact hall.out j s (by rw[←HN.out];exact hj) (by rw[List.getElem?_eq_getElem hj,e])⟩)
   clear hall;go_wp2;go_ret;exact⟨by rw[HE.out]<;>rfl,hbw⟩
theorem rbus_any (l:List Sl):∃V:Bool,(V=true↔BusP l)∧∀(w:World) (v:Value),Slvs w v l→Calls Tryz.prog 46 #[v] w (BoolPost w V):=by
 obtain⟨V,hV⟩:=bool_is (p:=BusP l);refine⟨V,hV,fun w v hv=>?_⟩;obtain⟨a,c,rfl⟩:=hv.slc;exact rbus_w a c l _ w rfl hv V hV
theorem wfJ {n:Int} (h:wfI n):(Lit.int .i64 n).wf=true:=by
 have e1:IntKind.i64.min=-9223372036854775808:=by decide
 have e2:IntKind.i64.max=9223372036854775807:=by decide
 simp only[Lit.wf,e1,e2,Bool.and_eq_true,decide_eq_true_eq];exact h
theorem eq_setB (a b c d:Int) (f1:wfI a) (f2:wfI b) (f3:wfI c) (f4:wfI d) (B:Bool) (hB:B=true↔a=c∧b=d) (X:World):
  (binOp .eql 61 (.agg #[.int .i64 a,.int .i64 b]) (.agg #[.int .i64 c,.int .i64 d])).run Tryz.prog X=.ok (.bool B) X:=by
 have w1:(Lit.int .i64 a).wf=true:=wfJ f1;have w2:(Lit.int .i64 b).wf=true:=wfJ f2;have w3:(Lit.int .i64 c).wf=true:=wfJ f3;have w4:(Lit.int .i64 d).wf=true:=wfJ f4;have hk:Tryz.prog.keyTypeAt 3 61=true:=by kernel_rfl
 have hf:(Value.agg #[.int .i64 a,.int .i64 b]).formed Tryz.prog 61=true:=by kernel_rfl
 have hg:(Value.agg #[.int .i64 c,.int .i64 d]).formed Tryz.prog 61=true:=by kernel_rfl
 have c1:Tryz.prog.cellsOf 61=2:=by kernel_rfl
 have c2:Tryz.prog.cellsOf 3=1:=by kernel_rfl
 have ha:Tryz.prog.keyLits 5 61 (Value.agg #[.int .i64 a,.int .i64 b]).cells.toList=some [.int .i64 a,.int .i64 b]:=by
  simp [Program.keyLits,Tryz.underlying61,Tryz.underlying3,w1,w2,c1,c2,Value.cells]
 have hb:Tryz.prog.keyLits 5 61 (Value.agg #[.int .i64 c,.int .i64 d]).cells.toList=some [.int .i64 c,.int .i64 d]:=by
  simp [Program.keyLits,Tryz.underlying61,Tryz.underlying3,w3,w4,c1,c2,Value.cells]
 obtain⟨r,hr,hi⟩:=run_equalIn_deep (P:=Tryz.prog) 9997 3 61 hk X 5 5 _ _ _ _ hf hg ha hb;have e:r=B:=by
  have h2:r=true↔a=c∧b=d:=by rw[hi];simp
  cases r<;>cases B
  ·rfl
  ·exact absurd (h2.2 (hB.1 rfl)) Bool.noConfusion
  ·exact absurd (hB.2 (h2.1 rfl)) Bool.noConfusion
  ·rfl
 subst e;simp only[binOp];simp [Op.equal,Op.maxDepth,hr]
def isMb (bd pa un:Int) (s:Sl):Bool:=decide (s.bd=bd∧s.pa=pa)&&decide (s.un=un)
def memb (l:List Sl) (bd pa un:Int):Nat→List Nat
 |0=>[]
 |k+1=>memb l bd pa un k++(match l[k]? with|some s=>if isMb bd pa un s=true then [k] else []|none=>[])
theorem memb_yes {l:List Sl} {bd pa un:Int} {k:Nat} {s:Sl} (hs:l[k]?=some s) (h:isMb bd pa un s=true):memb l bd pa un (k+1)=memb l bd pa un k++[k]:=by
 show _++(match l[k]? with|some s=>if isMb bd pa un s=true then [k] else []|none=>[])=_;rw[hs];dsimp only;rw[if_pos h]
theorem memb_no {l:List Sl} {bd pa un:Int} {k:Nat} {s:Sl} (hs:l[k]?=some s) (h:isMb bd pa un s=false):memb l bd pa un (k+1)=memb l bd pa un k:=by
 show _++(match l[k]? with|some s=>if isMb bd pa un s=true then [k] else []|none=>[])=_;rw[hs];dsimp only;rw[if_neg (by rw[h];decide),List.append_nil]
theorem memb_mem {l:List Sl} {bd pa un:Int}:∀{k j:Nat},j∈memb l bd pa un k→∃s,l[j]?=some s∧isMb bd pa un s=true
 |0,j,h=>by cases h
 |k+1,j,h=>by
  rcases List.mem_append.1 h with h|h
  ·exact memb_mem h
  ·cases hs:l[k]? with
   |none=>rw[hs] at h;cases h
   |some s=>
    rw[hs] at h;dsimp only at h;split at h
    ·rw [List.mem_singleton] at h
     subst h;exact⟨s,hs,by assumption⟩
    ·cases h
def MbPost (w:World) (ms:List Nat) (r:Ending) (w':World):Prop:=
 ∃a c,r=.returned (.slice a ms.length c)∧w'.ownsRow w.heap.size 3 1 (.slice a ms.length c) ms.length (ms.map fun i:Nat=>.int .i64 (i:Int))∧Below w.heap.size w w'
theorem z07_2 {p:Prop} (h:p:=by
 go_upto_region 5 with(fail)
 go_quiet (fail)
 go_wp2
 go_roundw
 case rel=>exact⟨k+1,b,m,cc,by omega,by go_num,rfl,by show _=_;rw[HNO.out];exact hmb.out,by omega,by rw[HNO.out];exact bF (F:=fun _=>False) hown.out (Keeps.of_below (below_drewN (Below.refl _ _) _)) (fun _ _ e=>e),below_drewN HBW.out _⟩
 case measure=>simp [intOf];omega):p:=h
theorem rmemb_any (a:Option Addr) (c:Nat) (l:List Sl) (n:Nat) (w:World) (hn:l.length=n) (hn16:n≤16) (hl:Slvs w (.slice a n c) l) (bd pa un:Int) (h1:wfI bd) (h2:wfI pa):
  Calls Tryz.prog 17 #[.slice a n c,.agg #[.int .i64 bd,.int .i64 pa],.int .i64 un] w (MbPost w (memb l bd pa un n)):=by
 have HN:=bC hn;have HL:=bC hl;have HW1:=bC h1;have HW2:=bC h2;obtain⟨W0,hW0⟩:∃W,w.alloc (.cells #[.int .i64 bd,.int .i64 pa] 61)=W:=⟨_,rfl⟩
 have hb0:Below w.heap.size w W0:=by rw[←hW0];exact bH w _
 have hz0:W0.heap.size=w.heap.size+1:=by rw[←hW0];simp
 have p0:W0.heap[w.heap.size]?=some (.cells #[.int .i64 bd,.int .i64 pa] 61):=by rw[←hW0];exact bI w _
 have HW0:=bC hW0;have HB0:=bC hb0;have HZ0:=bC hz0;have P0:=bC p0;clear hn hl h1 h2 hW0 hb0 hz0 p0;go_enter Tryz.func17,Tryz.ntmps17;go_upto_region 2 with(fail)
 rw[HW0.out];go_wp2;go_loopw [7,8] (fun dv iv wr=>∃(k:Nat) (b:Option Addr) (m cc:Nat),k≤n∧iv=.int .i64 (k:Int)∧dv=.slice b m cc∧Hid ((memb l bd pa un k).length=m)∧m≤k∧Hid (wr.ownsRow W0.heap.size 3 1 (.slice b m cc) m ((memb l bd pa un k).map fun i:Nat=>.int .i64 (i:Int)))∧Below W0.heap.size W0 wr) (fun _ iv _=>n- (intOf iv).toNat)
 case atStart=>exact⟨0,none,0,0,Nat.zero_le _,rfl,rfl,rfl,Nat.le_refl _,World.ownsRow_nil _ _ _ _,Below.refl _ _⟩
 case round=>
  obtain⟨k,b,m,cc,hk,rfl,rfl,hmb,hmk,hown,hbw⟩:=hrel;have hki:(0:Int)≤(k:Int):=Int.natCast_nonneg _;have hbw0:=bU HB0.out hbw;by_cases hlt:k<n
  ·have hkl:(k:Int)<(n:Int):=by omega
   obtain⟨s,hs⟩:∃s,l[k]?=some s:=⟨_,List.getElem?_eq_getElem (by rw[HN.out];exact hlt)⟩
   obtain⟨b2,o,rv,ov,sv,rfl,hR,hc⟩:=(HL.out.keep hbw0).at hs;have y0:wr.cell? ⟨b2,o+k*19,none⟩=some (.int .i64 s.bd):=hc 0 _ rfl;have y1:wr.cell? ⟨b2,o+k*19+1,none⟩=some (.int .i64 s.pa):=hc 1 _ rfl;have y2:wr.cell? ⟨b2,o+k*19+2,none⟩=some (.int .i64 s.un):=hc 2 _ rfl;have x0:wr.cell? ⟨w.heap.size,0,none⟩=some (.int .i64 bd):=bA (bB P0.out hbw) 0;have x1:wr.cell? ⟨w.heap.size,1,none⟩=some (.int .i64 pa):=bA (bB P0.out hbw) 1;obtain⟨B1,hB1⟩:=bool_is (p:=s.bd=bd∧s.pa=pa);have heq:∀X,(binOp .eql 61 (.agg #[.int .i64 s.bd,.int .i64 s.pa]) (.agg #[.int .i64 bd,.int .i64 pa])).run Tryz.prog X=.ok (.bool B1) X:=fun X=>eq_setB _ _ _ _ hR.bd hR.pa HW1.out HW2.out B1 hB1 X
   have HIS:Hid (isMb bd pa un s=(B1&&decide (s.un=un))):=by
    show (decide (s.bd=bd∧s.pa=pa)&&_)=_;congr 1;cases B1
    ·exact decide_eq_false (fun h=>Bool.noConfusion (hB1.2 h))
    ·exact decide_eq_true (hB1.1 rfl)
   have HS:=bC hs;have HBW:=bC hbw;clear hR hc hB1 hs hbw0;generalize s.bd=sb at*;generalize s.pa=sp at*;generalize s.un=su at*;cases B1 with
   |false=>
    have HNO:=bC (memb_no HS.out (bd:=bd) (pa:=pa) (un:=un) (by rw[HIS.out];rfl));exact z07_2
   |true=>
    by_cases hu:su=un
    ·have HYES:=bC (memb_yes HS.out (bd:=bd) (pa:=pa) (un:=un) (by rw[HIS.out,decide_eq_true hu];rfl))
     subst hu;go_upto_region 5 with(fail)
     go_quiet (fail);have hown2:(wr.drewN nq).ownsRow W0.heap.size 3 1 (.slice b m cc) m ((memb l bd pa su k).map fun i:Nat=>.int .i64 (i:Int)):=bF (F:=fun _=>False) hown.out (Keeps.of_below (below_drewN (Below.refl _ _) _)) (fun _ _ e=>e);have hbw2:Below W0.heap.size W0 (wr.drewN nq):=below_drewN HBW.out _;clear y0 y1 y2 x0 x1 heq;generalize wr.drewN nq=wq at*;obtain⟨iI,hiI,hzI0,hzI1,hzI2⟩:=info_parts infoInt;have hown3:(wq.alloc (.cells #[.int .i64 (k:Int)] 3)).ownsRow W0.heap.size 3 1 (.slice b m cc) m ((memb l bd pa su k).map fun i:Nat=>.int .i64 (i:Int)):=bF (F:=fun _=>False) hown2 (Keeps.of_below (bH _ _)) (fun _ _ e=>e);have hcl:∀j u,([.int .i64 (k:Int)]:List Value)[j]?=some u→(wq.alloc (.cells #[.int .i64 (k:Int)] 3)).cell? ((⟨wq.heap.size,0,none⟩:Addr).add j)=some u:=fun j u hj=>hpRowB (bI wq _) j u hj
     have hz:W0.heap.size≤(wq.alloc (.cells #[.int .i64 (k:Int)] 3)).heap.size:=by have:=hbw2.size;simp;omega
     have hkm:m+1≤maxLen:=by unfold maxLen;omega
     have hkb:(m+1)*8≤140737488355328:=by omega
     go_wp2_with (at_builtin;refine bZ rfl (.tmp 31) (.tmp 33) 58 rfl W0.heap.size 3 iI _ 1 8 Tryz.underlying58 hiI hzI0 hzI1 hzI2 rfl (by decide) (.slice b m cc) m _ rfl hown3 ⟨wq.heap.size,0,none⟩ 1 1 [.int .i64 (k:Int)] rfl rfl hcl (fun u hu=>(List.mem_singleton.1 hu)▸rfl) hkm hkb hz ?_;intro v13 w13 hown13 hgr13 hnew13;obtain⟨a13,c13,rfl⟩:=bN hown13);have hb13:Below W0.heap.size W0 w13:=by
      have h1:Below W0.heap.size W0 (wq.alloc (.cells #[.int .i64 (k:Int)] 3)):=cJ hbw2 (Nat.le_refl _) _;exact h1.trans ((Keeps.of_grown hgr13 (F:=fun j=>(Value.slice b m cc).ownBlock=some j) (fun j e=>e)).below h1.size (fun j hj e=>by have:=(hown3.lt j e).1;omega))
     go_roundw
     case rel=>exact⟨k+1,a13,m+1,c13,by omega,by go_num,rfl,by show _=_;rw[HYES.out,List.length_append,hmb.out];rfl,by omega,by rw[HYES.out,List.map_append];exact hown13,hb13⟩
     case measure=>simp [intOf];omega
    ·have HNO:=bC (memb_no HS.out (bd:=bd) (pa:=pa) (un:=un) (by rw[HIS.out,decide_eq_false hu];rfl))
     have g1:(su==un)=false:=by rw[beq_eq_false_iff_ne];exact hu
     have g2:decide (su=un)=false:=decide_eq_false hu;exact z07_2
  ·obtain rfl:k=n:=by omega
   go_wp2;go_ret;have hm:=hmb.out;subst hm;have h:=hown.out;obtain⟨hl1,h2⟩:=h;refine⟨b,cc,rfl,⟨hl1,?_⟩,hbw0⟩;rcases h2 with h2|⟨g,cap,cur,hv,hg,h3⟩
   ·exact .inl h2
   ·exact .inr ⟨g,cap,cur,hv,by have:=HZ0.out;omega,h3⟩
abbrev bK:=@wpList_load_atH
abbrev cN:=@bool_is
end Go.Proofs.YtoaoejaodhedaaaGreat
