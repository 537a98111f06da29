import Derived.Test.YtoaoejaodhedaaaGreatT08
namespace Go.Proofs.YtoaoejaodhedaaaGreat
open Go.RowKit
open Value renaming slice→J,int→U
open Option renaming none→M,some→N
open IntKind renaming i64→Y
open Obj renaming cells→K
set_option maxHeartbeats 12800000
set_option maxRecDepth 100000
variable {p:Prop} {s:Sl} {w w' w5 wr:World}
def ObPost (w:World) (s:Sl) (r:Ending) (w':World):Prop:=∃V:Bool,r=.returned (.bool V)∧Hid (V=true↔dO s.lv s.ag)∧Below w.heap.size w w'
theorem ObPost.no (h:¬dO s.lv s.ag) (a:Below w.heap.size w w'):ObPost w s (.returned (.bool false)) w':=⟨false,rfl,⟨fun e=>(by cases e),fun e=>absurd e h⟩,a⟩
theorem ObPost.yes (h:dO s.lv s.ag) (a:Below w.heap.size w w'):ObPost w s (.returned (.bool true)) w':=⟨true,rfl,⟨fun _=>h,fun _=>rfl⟩,a⟩
theorem dX:(Tryz.prog.info? 68).map (·.size)=N 19:=by kernel_rfl
theorem NU (h:p:=by
 have c5:decide ((64:Int)<(xn:Int))=true:=decide_eq_true (by omega)
 have HV:=hid (HNO.out (fun h=>by have:=h.vl;rw[HXN.out] at this;omega))
 clear e1 e2 e3 hk2
 go_upto_region 8 with(fail)
 rw[HWX.out]
 go_quiet ((go_at_call 179;with_reducible exact Calls.quiet_of_same (v:=.int .i64 G) ((HG.out _).mono fun _ _ h=>⟨h.1,h.2.symm⟩)));go_wp2;go_ret;exact ObPost.no HV.out (below_drewN HBX.out _)):p:=h
theorem MQ (h:p:=by
 have c4:decide (G<xi)=true:=decide_eq_true e2
 have HV:=hid (HNO.out (fun h=>by have:=h.gr;rw[HXI.out,HGG.out] at this;omega))
 clear e1 e2 hk2
 go_upto_region 8 with(fail)
 rw[HWX.out]
 go_quiet ((go_at_call 179;with_reducible exact Calls.quiet_of_same (v:=.int .i64 G) ((HG.out _).mono fun _ _ h=>⟨h.1,h.2.symm⟩)));go_wp2;go_ret;exact ObPost.no HV.out (below_drewN HBX.out _)):p:=h
theorem Na (h:p:=by
 clear e1 e2 e3 hk2
 go_upto_region 8 with(fail)
 rw[HWX.out]
 go_quiet ((go_at_call 179;with_reducible exact Calls.quiet_of_same (v:=.int .i64 G) ((HG.out _).mono fun _ _ h=>⟨h.1,h.2.symm⟩)));go_wp2;go_roundw
 case rel=>exact⟨k+1,by omega,by go_num,HA.out,below_drewN HBY.out _⟩
 case measure=>simp [intOf];omega):p:=h
theorem Dk (s:Sl) (rv:Nat→Value) (ov sv:Value) (w:World) (Z:nO w s rv ov sv):
  Calls Tryz.prog 149 #[.agg (SlC s rv ov sv)] w (ObPost w s):=by
 obtain⟨oa,oc,rfl,-⟩:=id Z.ob;obtain⟨on,V⟩:=gE s.ag.length;have jT:=Z.ob.len;rw[V] at jT;unfold maxLen at jT;rw[V];obtain⟨C,T⟩:=gE (SlC s rv (J oa on oc) sv);rw[T];obtain⟨f,ak,Q,pS⟩:=eY w (K C 68);obtain⟨lv,gu⟩:=gE s.lv;have t15:∀X,Below f.heap.size f X→X.cell? ⟨w.heap.size,15,M⟩=N (U Y lv):=fun X h=>by rw[←gu,hpCell (hpKeep pS h) 15,←T];rfl
 have t16:∀X,Below f.heap.size f X→X.cell? ⟨w.heap.size,16,M⟩=N (J oa on oc):=fun X h=>by rw[hpCell (hpKeep pS h) 16,←T];rfl
 have k0:Below f.heap.size f f:=Below.refl _ _;have c:=hid V;have I1:=hid gu;have d:=hid ak;have a:=hid Q;have HR:=hid Z;clear ak Q pS T gu V Z;by_cases A:lv=0
 ·have d0:(lv==0)=true:=b1 A
  have g:Hid (dO s.lv s.ag↔on=0):=by
   show _↔_;unfold dO;rw[if_pos (by rw[I1.out];exact A),c.out]
  clear A;by_cases e:on=0
  ·have d1:((on:Int)==0)=true:=b1 (by omega)
   have HV:Hid (dO s.lv s.ag):=g.out.2 e;clear e;go_enter Tryz.func149,Tryz.ntmps149;go_upto_region 1 with(fail);rw[d.out]
   go_wp2;go_ret;exact ObPost.yes HV.out a.out
  ·have d1:((on:Int)==0)=false:=b0 (by omega)
   have HV:Hid (¬dO s.lv s.ag):=fun h=>e (g.out.1 h)
   clear e;go_enter Tryz.func149,Tryz.ntmps149;go_upto_region 1 with(fail);rw[d.out]
   go_wp2;go_ret;exact ObPost.no HV.out a.out
 have d0:(lv==0)=false:=b0 A;have g:Hid (dO s.lv s.ag↔1≤lv∧lv≤3∧GK lv s.ag):=by
  show _↔_;unfold dO;rw[if_neg (by rw[I1.out];exact A),I1.out]
 clear A;by_cases t:lv<1
 ·have d1:decide (lv<1)=true:=decide_eq_true t
  have HV:Hid (¬dO s.lv s.ag):=fun h=>by have:=(g.out.1 h).1;omega
  clear t;go_enter Tryz.func149,Tryz.ntmps149;go_upto_region 1 with(fail);rw[d.out]
  go_wp2;go_ret;exact ObPost.no HV.out a.out
 have d1:decide (lv<1)=false:=decide_eq_false t;by_cases B:3<lv
 ·have d2:decide (3<lv)=true:=decide_eq_true B
  have HV:Hid (¬dO s.lv s.ag):=fun h=>by have:=(g.out.1 h).2.1;omega
  clear t B;go_enter Tryz.func149,Tryz.ntmps149;go_upto_region 1 with(fail);rw[d.out]
  go_wp2;go_ret;exact ObPost.no HV.out a.out
 have d2:decide (3<lv)=false:=decide_eq_false B;by_cases h3:16<on
 ·have d3:decide ((16:Int)<(on:Int))=true:=decide_eq_true (by omega)
  have HV:Hid (¬dO s.lv s.ag):=fun h=>by have:=(g.out.1 h).2.2.on.1;have:=c.out;omega
  clear t B h3;go_enter Tryz.func149,Tryz.ntmps149;go_upto_region 1 with(fail);rw[d.out]
  go_wp2;go_ret;exact ObPost.no HV.out a.out
 have d3:decide ((16:Int)<(on:Int))=false:=decide_eq_false (by omega);by_cases h4:on≤2
 ·have d4:decide ((on:Int)≤2)=true:=decide_eq_true (by omega)
  have HV:Hid (¬dO s.lv s.ag):=fun h=>by have:=(g.out.1 h).2.2.on.2;have:=c.out;omega
  clear t B h3 h4;go_enter Tryz.func149,Tryz.ntmps149;go_upto_region 1 with(fail);rw[d.out]
  go_wp2;go_ret;exact ObPost.no HV.out a.out
 have d4:decide ((on:Int)≤2)=false:=decide_eq_false (by omega);have F:Hid (GK lv s.ag↔∀(i:Nat) (x:Ob),s.ag[i]?=N x→ns lv s.ag i x):=Hb (by have:=c.out;omega) (by have:=c.out;omega);have I:Hid (1≤lv∧lv≤3):=by show _∧_;omega
 have av:Hid (on≤16):=by show on≤16;omega
 obtain⟨G,hG⟩:=gE (kU lv);have HGG:=hid hG;have HG:Hid (∀X,Calls Tryz.prog 179 #[U Y lv] X fun r w'=>r=.returned (U Y G)∧X=w'):=fun X=>by rw[←hG];exact lK lv X
 clear t B h3 h4 hG;go_enter Tryz.func149,Tryz.ntmps149;go_upto_region 1 with(fail);rw[d.out]
 go_wp2_with fail;go_loopw [35] (fun iv wr=>∃k:Nat,k≤on∧iv=U Y (k:Int)∧Hid (∀(i:Nat) (x:Ob),i<k→s.ag[i]?=N x→ns lv s.ag i x)∧Below f.heap.size f wr) (fun iv _=>on- (intOf iv).toNat)
 case atStart=>exact⟨0,Nat.zero_le _,rfl,fun i x hi=>absurd hi (Nat.not_lt_zero _),Below.refl _ _⟩
 case round=>
  obtain⟨k,hk,rfl,S,q⟩:=hrel;have ao:(0:Int)≤(k:Int):=Int.natCast_nonneg _;by_cases ad:k<on
  ·obtain ⟨x,D⟩:=gs (l:=s.ag) c.out ad
   obtain⟨a',n',c',dE,-,-,-,-,dq⟩:=HR.out.ob.open_;simp only[Value.slice.injEq] at dE;obtain⟨rfl,rfl,rfl⟩:=dE;obtain⟨b,o,xa,xc,rfl,u,z1,gy⟩:=dq k x D;have AL:=bt a.out q (Nat.le_refl _);have y0:wr.cell? ⟨b,o+k*2,M⟩=N (U Y x.id):=cell_keep AL u;have y1:wr.cell? ⟨b,o+k*2+1,M⟩=N (J xa x.val.length xc):=cell_keep AL z1;obtain⟨xn,n⟩:=gE x.val.length;obtain⟨xi,ow⟩:=gE x.id;rw[n] at y1;rw[ow] at y0;have aX:(k:Int)<(on:Int):=by omega
   obtain⟨R,rJ,ou,px⟩:=eY wr (K #[U Y xi,J xa xn xc] 165);have v0:=cG px 0 rfl;have v1:=cG px 1 rfl;have L:=bt q ou (Nat.le_refl _);have u15:=t15 R L;have u16:=t16 R L;have HBX:Hid (Below w.heap.size w R):=bt a.out L (Nat.le_refl _);have HBY:Hid (Below f.heap.size f R):=L;have HWX:=hid rJ;have HX:=hid D;have HXI:=hid ow;have HXN:=hid n;have HNO:Hid (¬ns lv s.ag k x→¬dO s.lv s.ag):=fun hn h=>hn (F.out.1 (g.out.1 h).2.2 k x HX.out)
   have P:Hid (ns lv s.ag k x→∀(i:Nat) (y:Ob),i<k+1→s.ag[i]?=N y→ns lv s.ag i y):=fun hs i y hi m=>by
    by_cases e:i=k
    ·subst e
     rw[HX.out] at m;cases m;exact hs
    ·exact S.out i y (by omega) m
   have ab:=hid dq;clear D ow n rJ ou px L u z1 gy dq S;by_cases hk2:k≤2
   ·have c1:decide ((k:Int)≤2)=true:=decide_eq_true (by omega)
    have c2:decide ((2:Int)<(k:Int))=false:=decide_eq_false (by omega);by_cases e1:xi=(k:Int)
    ·have c3:(xi !=(k:Int))=false:=by rw[bne_eq_false_iff_eq];exact e1
     by_cases e2:G<xi
     ·exact MQ
     ·have c4:decide (G<xi)=false:=decide_eq_false e2
      by_cases e3:64<xn
      ·exact NU
      ·have c5:decide ((64:Int)<(xn:Int))=false:=decide_eq_false (by omega)
       have HA:=hid (P.out ⟨fun _=>by rw[HXI.out];exact e1,fun e=>by omega,by rw[HXI.out,HGG.out];omega,by rw[HXN.out];omega⟩);exact Na
    ·have c3:(xi !=(k:Int))=true:=by rw[bne_iff_ne];exact e1
     have HV:=hid (HNO.out (fun h=>e1 (by rw[←HXI.out];exact h.lo hk2)));clear e1 hk2;go_upto_region 8 with(fail)
     rw[HWX.out];go_quiet ((go_at_call 179;with_reducible exact Calls.quiet_of_same (v:=U Y G) ((HG.out _).mono fun _ _ h=>⟨h.1,h.2.symm⟩)));go_wp2;go_ret;exact ObPost.no HV.out (below_drewN HBX.out _)
   ·have c1:decide ((k:Int)≤2)=false:=decide_eq_false (by omega)
    have c2:decide ((2:Int)<(k:Int))=true:=decide_eq_true (by omega);obtain⟨j,hj⟩:∃j,k=j+1:=⟨k-1,by omega⟩
    obtain⟨y,m⟩:=gs (l:=s.ag) c.out (show j<on by omega);obtain⟨b',o',ya,yc,O,u,-,-⟩:=ab.out j y m;simp only[Option.some.injEq,Addr.mk.injEq,and_true] at O;obtain⟨rfl,rfl⟩:=O;obtain⟨W,YJ⟩:=gE y.id;rw[YJ] at u;have p0:R.cell? ⟨b,o+j*2,M⟩=N (U Y W):=cell_keep HBX.out u;have s1:IntKind.i64.wrap ((k:Int)-1)=(j:Int):=(IntWalk.i64_in _ (by omega)).trans (by omega);have WM:(0:Int)≤(j:Int):=Int.natCast_nonneg _;have JH:(j:Int)<(on:Int):=by omega
    have HY:Hid (s.ag[k-1]?=N y):=by show _=_;rw[hj,show j+1-1=j by omega];exact m
    have E:=hid YJ;clear hj m u YJ;by_cases e1:xi≤W
    ·have c3:decide (xi≤W)=true:=decide_eq_true e1
     have HV:=hid (HNO.out (fun h=>by have:=h.hi (by omega) y HY.out;rw[HXI.out,E.out] at this;omega));clear e1 hk2;go_upto_region 8 with(fail)
     rw[HWX.out];go_quiet ((go_at_call 179;with_reducible exact Calls.quiet_of_same (v:=U Y G) ((HG.out _).mono fun _ _ h=>⟨h.1,h.2.symm⟩)));go_wp2;go_ret;exact ObPost.no HV.out (below_drewN HBX.out _)
    ·have c3:decide (xi≤W)=false:=decide_eq_false e1
     by_cases e2:G<xi
     ·exact MQ
     ·have c4:decide (G<xi)=false:=decide_eq_false e2
      by_cases e3:64<xn
      ·exact NU
      ·have c5:decide ((64:Int)<(xn:Int))=false:=decide_eq_false (by omega)
       have HA:=hid (P.out ⟨fun e=>by omega,fun _ z hz=>by rw[HY.out] at hz;cases hz;rw[HXI.out,E.out];omega,by rw[HXI.out,HGG.out];omega,by rw[HXN.out];omega⟩);exact Na
  ·obtain rfl:k=on:=by omega
   have HV:Hid (dO s.lv s.ag):=g.out.2 ⟨I.out.1,I.out.2,F.out.2 fun i x D=>S.out i x (by rw[←c.out];exact(List.getElem?_eq_some_iff.1 D).1) D⟩;have UT:Hid (Below w.heap.size w wr):=bt a.out q (Nat.le_refl _);clear S;go_wp2;go_ret;exact ObPost.yes HV.out UT.out
theorem Lo (s:Sl) (a:Nat→Value) (b sv:Value) (j:Nat) (v:Value) (h:(#[.bool (s.ts 0).sup,a 0,U Y (s.ts 0).al,.bool (s.ts 1).sup,a 1,U Y (s.ts 1).al,.bool (s.ts 2).sup,a 2,U Y (s.ts 2).al,.bool (s.ts 3).sup,a 3,U Y (s.ts 3).al]:Array Value).toList[j]?=N v):(SlC s a b sv).toList[3+j]?=N v:=by
 have e:(#[.bool (s.ts 0).sup,a 0,U Y (s.ts 0).al,.bool (s.ts 1).sup,a 1,U Y (s.ts 1).al,.bool (s.ts 2).sup,a 2,U Y (s.ts 2).al,.bool (s.ts 3).sup,a 3,U Y (s.ts 3).al]:Array Value).toList=((SlC s a b sv).toList.drop 3).take 12:=rfl;rw[e,List.getElem?_take] at h;split at h
 ·rw [List.getElem?_drop] at h
  exact h
 ·cases h
theorem Ot (s:Sl) (a:Nat→Value) (k:Nat) (b:k<4) (W:World):(Instr.index 66 (.agg #[.bool (s.ts 0).sup,a 0,U Y (s.ts 0).al,.bool (s.ts 1).sup,a 1,U Y (s.ts 1).al,.bool (s.ts 2).sup,a 2,U Y (s.ts 2).al,.bool (s.ts 3).sup,a 3,U Y (s.ts 3).al]) (U Y (k:Int))).run Tryz.prog W=.ok (.agg #[.bool (s.ts k).sup,a k,U Y (s.ts k).al]) W:=by
 rcases (show k=0∨k=1∨k=2∨k=3 by omega) with rfl|rfl|rfl|rfl
 all_goals
  clear b
  kernel_rfl
theorem FN (h:p:=by
 go_enter Tryz.func112,Tryz.ntmps112;go_upto_region 1 with(fail);rw[HW1.out]
 go_wp2_with (first|(refine wpList_load_atH (by rfl) 68 (.tmp 1) rfl ⟨w.heap.size,0,none⟩ rfl C _ (HRC.out _ hb2) Tryz.underlying68 rfl hi19 ?_)|(go_at_call 120;(with_reducible refine(HS.out _).mono ?_);rintro r w2 ⟨rfl,hb2⟩)|(go_at_call 149;(with_reducible refine(HO.out _ hb2).mono ?_);rintro r w3 ⟨rfl,hb3⟩))
 go_ret
 exact SlvPost.no HV.out (bt HB1.out hb2 (Nat.le_refl _))):p:=h
theorem pI (s:Sl) (d:Nat→Value) (L sv:Value) (w:World) (P:nO w s d L sv):
  Calls Tryz.prog 112 #[.agg (SlC s d L sv)] w (SlvPost w s):=by
 obtain⟨sa,sc,rfl,-⟩:=id P.sd;obtain⟨sn,ie⟩:=gE s.sd.length;have jT:=P.sd.len;rw[ie] at jT ⊢;unfold maxLen at jT;obtain⟨C,g⟩:=gE (SlC s d L (J sa sn sc));have Q:C.size=19:=by rw[←g];rfl
 have hi19:(Tryz.prog.info? 68).map (·.size)=N C.size:=by rw[Q];exact dX
 rw[g];obtain⟨b,ak,t,A⟩:=eY w (K C 68);obtain⟨bd,kP⟩:=gE s.bd;obtain⟨pa,I6⟩:=gE s.pa;obtain⟨un,Qj⟩:=gE s.un;obtain⟨hs,E⟩:=gE s.hs;have u0:∀X,Below b.heap.size b X→X.cell? ⟨w.heap.size,0,M⟩=N (U Y bd):=fun X h=>by rw[←kP,hpCell (hpKeep A h) 0,←g];rfl
 have u1:∀X,Below b.heap.size b X→X.cell? ⟨w.heap.size,1,M⟩=N (U Y pa):=fun X h=>by rw[←I6,hpCell (hpKeep A h) 1,←g];rfl
 have u2:∀X,Below b.heap.size b X→X.cell? ⟨w.heap.size,2,M⟩=N (U Y un):=fun X h=>by rw[←Qj,hpCell (hpKeep A h) 2,←g];rfl
 have u17:∀X,Below b.heap.size b X→X.cell? ⟨w.heap.size,17,M⟩=N (.bool hs):=fun X h=>by rw[←E,hpCell (hpKeep A h) 17,←g];rfl
 have u18:∀X,Below b.heap.size b X→X.cell? ⟨w.heap.size,18,M⟩=N (J sa sn sc):=fun X h=>by rw[hpCell (hpKeep A h) 18,←g];rfl
 have aY:Hid (∀X,Below b.heap.size b X→∀k:Nat,k<4→X.cell? ⟨w.heap.size,3+k*3,M⟩=N (.bool (s.ts k).sup)∧X.cell? ⟨w.heap.size,3+k*3+1,M⟩=N (d k)∧X.cell? ⟨w.heap.size,3+k*3+2,M⟩=N (U Y (s.ts k).al)):=fun X I k x=>fJ s d L (J sa sn sc) (by rw[g];exact hpKeep A I) x
 have HRC:Hid (∀X,Below b.heap.size b X→∀j v,C.toList[j]?=N v→X.cell? ((⟨w.heap.size,0,M⟩:Addr).add j)=N v):=fun X I j v hj=>tf (hpKeep A I) j v hj
 obtain⟨V,O⟩:=bU (p:=dO s.lv s.ag);have HO:Hid (∀X,Below b.heap.size b X→Calls Tryz.prog 149 #[.agg C] X (aj X V)):=fun X I=>by
  rw[←g,←ie];refine(Dk s d L _ X (P.ah (bt t I (Nat.le_refl _)))).mono fun r w' ⟨V',h1,h2,h3⟩=>?_
  have e:V'=V:=by
   cases V'<;>cases V
   ·rfl
   ·exact absurd (h2.out.2 (O.1 rfl)) Bool.noConfusion
   ·exact absurd (O.2 (h2.out.1 rfl)) Bool.noConfusion
   ·rfl
  subst e;exact⟨h1,h3⟩
 have HT:Hid (∀X,Below b.heap.size b X→∀k:Nat,k<4→Calls Tryz.prog 150 #[U Y ((k:Int)+1),.agg #[.bool (s.ts k).sup,d k,U Y (s.ts k).al]] X (TvPost X (s.ts k) k)):=fun X I k x=>Ah (s.ts k) (d k) k X ((P.rg k x).ah (bt t I (Nat.le_refl _)))
 have k0:Below b.heap.size b b:=Below.refl _ _;have o:Hid (s.val↔aU bd pa∧1≤un∧un≤247∧dO s.lv s.ag∧(∀k,k<4→(s.ts k).val k)∧(hs=true→1≤sn∧sn≤64)∧(hs=false→sn=0)):=by
  have h:=Sl.Ki (s:=s);rw[kP,I6,Qj,E,ie] at h;exact h
 obtain⟨B,y⟩:∃B,tS (bd,pa)=B:=⟨_,rfl⟩
 have HS:Hid (∀X,Calls Tryz.prog 120 #[.agg #[U Y bd,U Y pa]] X (aj X B)):=fun X=>ky bd pa X B y
 have YV:Hid (B=true↔aU bd pa):=by show _↔_;rw[←y];exact uo
 have HC:=hid g;have ad:Hid (∀k:Nat,k<4→∃a n c,d k=J a n c):=fun k x=>by obtain⟨a,c,h,-⟩:=P.rg k x;exact⟨a,_,c,h⟩
 have HW1:=hid ak;have HB1:=hid t;clear ak t A g kP I6 Qj E ie P y Q;cases B with
 |false=>
  have HV:Hid (¬s.val):=fun h=>Bool.noConfusion (YV.out.2 (o.out.1 h).1)
  exact FN
 |true=>
  by_cases f:un<1
  ·have d1:decide (un<1)=true:=decide_eq_true f
   have HV:Hid (¬s.val):=fun h=>by have:=(o.out.1 h).2.1;omega
   clear f;exact FN
  have d1:decide (un<1)=false:=decide_eq_false f;by_cases l:247<un
  ·have d2:decide (247<un)=true:=decide_eq_true l
   have HV:Hid (¬s.val):=fun h=>by have:=(o.out.1 h).2.2.1;omega
   clear f l;exact FN
  have d2:decide (247<un)=false:=decide_eq_false l;have Z:Hid (1≤un∧un≤247):=by show _∧_;omega
  clear f l;cases V with
  |false=>
   have HV:Hid (¬s.val):=fun h=>Bool.noConfusion (O.2 (o.out.1 h).2.2.2.1)
   clear O;go_enter Tryz.func112,Tryz.ntmps112;go_upto_region 1 with(fail);rw[HW1.out]
   go_wp2_with (first|(refine wpList_load_atH (by rfl) 68 (.tmp 1) rfl ⟨w.heap.size,0,M⟩ rfl C _ (HRC.out _ hb2) Tryz.underlying68 rfl hi19 ?_)|(go_at_call 120;(with_reducible refine(HS.out _).mono ?_);rintro r w2 ⟨rfl,hb2⟩)|(go_at_call 149;(with_reducible refine(HO.out _ hb2).mono ?_);rintro r w3 ⟨rfl,hb3⟩));go_ret;exact SlvPost.no HV.out (bt HB1.out (bt hb2 hb3 (Nat.le_refl _)) (Nat.le_refl _))
  |true=>
   have MG:=hid (O.1 rfl);clear O;go_enter Tryz.func112,Tryz.ntmps112;go_upto_region 1 with(fail);rw[HW1.out]
   go_upto_region 3 with(first|(refine wpList_load_atH (by rfl) 68 (.tmp 1) rfl ⟨w.heap.size,0,M⟩ rfl C _ (HRC.out _ hb2) Tryz.underlying68 rfl hi19 ?_)|(go_at_call 120;(with_reducible refine(HS.out _).mono ?_);rintro r w2 ⟨rfl,hb2⟩)|(go_at_call 149;(with_reducible refine(HO.out _ hb2).mono ?_);rintro r w3 ⟨rfl,hb3⟩))
   have z:=bt hb2 hb3 (Nat.le_refl _);clear hb2 hb3 d1 d2;obtain⟨T4,WZ⟩:∃T:Array Value,#[.bool (s.ts 0).sup,d 0,U Y (s.ts 0).al,.bool (s.ts 1).sup,d 1,U Y (s.ts 1).al,.bool (s.ts 2).sup,d 2,U Y (s.ts 2).al,.bool (s.ts 3).sup,d 3,U Y (s.ts 3).al]=T:=⟨_,rfl⟩
   have av:(Tryz.prog.info? 66).map (·.size)=N T4.size:=by rw[←WZ];kernel_rfl
   have T1:∀j v,T4.toList[j]?=N v→w3.cell? ((⟨w.heap.size,3,M⟩:Addr).add j)=N v:=fun j v hj=>by
    have h:=HRC.out w3 z (3+j) v (by rw[←HC.out];exact Lo s d L _ j v (by rw[WZ];exact hj));have f:(⟨w.heap.size,0,M⟩:Addr).add (3+j)=⟨w.heap.size,3+j,M⟩:=by unfold Addr.add;split<;>simp_all
    have l:(⟨w.heap.size,3,M⟩:Addr).add j=⟨w.heap.size,3+j,M⟩:=by unfold Addr.add;split<;>simp_all
    rw[l,←f];exact h
   have ao:Hid (∀k:Nat,k<4→∀W,(Instr.index 66 (.agg T4) (U Y (k:Int))).run Tryz.prog W=.ok (.agg #[.bool (s.ts k).sup,d k,U Y (s.ts k).al]) W):=fun k x W=>by rw[←WZ];exact Ot s d k x W
   have ab:=hid T1;clear WZ T1 u0 u1 u2;go_upto_region 4 with(refine aZ rfl 66 (.tmp 24) rfl ⟨w.heap.size,3,M⟩ rfl T4 _ ab.out Tryz.underlying66 rfl av ?_)
   go_loopw [26] (fun iv wr=>∃k:Nat,k≤4∧iv=U Y (k:Int)∧Hid (∀i,i<k→(s.ts i).val i)∧Below b.heap.size b wr) (fun iv _=>4- (intOf iv).toNat)
   case atStart=>exact⟨0,Nat.zero_le _,rfl,fun i hi=>absurd hi (Nat.not_lt_zero _),z⟩
   case round=>
    obtain⟨k,x,rfl,ef,q⟩:=hrel;have aX:(0:Int)≤(k:Int):=Int.natCast_nonneg _;by_cases u:k<4
    ·have a4:(k:Int)<4:=by omega
     have Z9:=ao.out k u;obtain⟨B,y⟩:=bU (p:=(s.ts k).val k);obtain⟨S,rJ⟩:∃W,wr.alloc (K #[.bool (s.ts k).sup,d k,U Y (s.ts k).al] 65)=W:=⟨_,rfl⟩
     have ou:Below b.heap.size b S:=by rw[←rJ];exact bta q (Nat.le_refl _) _
     have px:S.heap[wr.heap.size]?=N (K #[.bool (s.ts k).sup,d k,U Y (s.ts k).al] 65):=by rw[←rJ];exact hpNew _ _
     have x0:=hpCell px 0;have x1:=hpCell px 1;have x2:=hpCell px 2;have s1:IntKind.i64.wrap ((k:Int)+1)=(k:Int)+1:=IntWalk.i64_in _ (by omega);have D:Hid (Calls Tryz.prog 150 #[U Y ((k:Int)+1),.agg #[.bool (s.ts k).sup,d k,U Y (s.ts k).al]] S (aj S B)):=(HT.out S ou k u).mono fun r w' ⟨V',h1,h2,h3⟩=>by
      have e:V'=B:=by
       cases V'<;>cases B
       ·rfl
       ·exact absurd (h2.out.2 (y.1 rfl)) Bool.noConfusion
       ·exact absurd (y.2 (h2.out.1 rfl)) Bool.noConfusion
       ·rfl
      subst e;exact⟨h1,h3⟩
     have F:=hid rJ;have R:=hid ou;have HB:=hid y;clear rJ ou px y;generalize (s.ts k).sup=ts at*;generalize (s.ts k).al=tm at*;obtain⟨ra,rn,rc,kg⟩:=ad.out k u;rw[kg] at Z9 D F x1;clear kg;cases B with
     |false=>
      have HV:Hid (¬s.val):=fun h=>Bool.noConfusion (HB.out.2 ((o.out.1 h).2.2.2.2.1 k u))
      go_upto_region 6 with(fail)
      rw[F.out];go_wp2_with (go_at_call 150;(with_reducible refine D.out.mono ?_);rintro r w5 ⟨rfl,G⟩);go_ret;exact SlvPost.no HV.out (bt HB1.out (bt R.out G (Nat.le_refl _)) (Nat.le_refl _))
     |true=>
      have HA:Hid (∀i,i<k+1→(s.ts i).val i):=fun i hi=>by
       by_cases e:i=k
       ·subst e;exact HB.out.1 rfl
       ·exact ef.out i (by omega)
      go_upto_region 6 with(fail)
      rw[F.out];go_wp2_with (go_at_call 150;(with_reducible refine D.out.mono ?_);rintro r w5 ⟨rfl,G⟩);go_roundw
      case rel=>exact⟨k+1,by omega,by go_num,HA.out,bt R.out G (Nat.le_refl _)⟩
      case measure=>simp [intOf];omega
    ·obtain rfl:k=4:=by omega
     have m:Hid (Below w.heap.size w wr):=bt HB1.out q (Nat.le_refl _);have a3:=u17 wr q;have a2:=u18 wr q;clear u17 u18;cases hs with
     |false=>
      by_cases f:sn=0
      ·have g1:((sn:Int)==0)=true:=b1 (by omega)
       have HV:Hid s.val:=o.out.2 ⟨YV.out.1 trivial,Z.out.1,Z.out.2,MG.out,ef.out,(fun e=>by cases e),fun _=>f⟩;clear f;go_wp2;go_ret;exact SlvPost.yes HV.out m.out
      ·have g1:((sn:Int)==0)=false:=b0 (by omega)
       have HV:Hid (¬s.val):=fun h=>f ((o.out.1 h).2.2.2.2.2.2 rfl)
       clear f;go_wp2;go_ret;exact SlvPost.no HV.out m.out
     |true=>
      by_cases f:1≤sn
      ·have g1:decide ((1:Int)≤(sn:Int))=true:=decide_eq_true (by omega)
       by_cases l:sn≤64
       ·have g2:decide ((sn:Int)≤64)=true:=decide_eq_true (by omega)
        have HV:Hid s.val:=o.out.2 ⟨YV.out.1 trivial,Z.out.1,Z.out.2,MG.out,ef.out,(fun _=>⟨f,l⟩),fun e=>by cases e⟩;clear f l;go_wp2;go_ret;exact SlvPost.yes HV.out m.out
       ·have g2:decide ((sn:Int)≤64)=false:=decide_eq_false (by omega)
        have HV:Hid (¬s.val):=fun h=>l ((o.out.1 h).2.2.2.2.2.1 rfl).2
        clear f l;go_wp2;go_ret;exact SlvPost.no HV.out m.out
      ·have g1:decide ((1:Int)≤(sn:Int))=false:=decide_eq_false (by omega)
       have HV:Hid (¬s.val):=fun h=>f ((o.out.1 h).2.2.2.2.2.1 rfl).1
       clear f;go_wp2;go_ret;exact SlvPost.no HV.out m.out
theorem cJ {C Z:Array Value} {t:TypeId} (c:Z.size=C.size) (b:w5.heap[wr.heap.size]?=N (K (Z.toList.take 0++C.toList++Z.toList.drop (0+C.toList.length)).toArray t (0,0))) (a:Keeps (· =wr.heap.size) (wr.alloc (K Z t)) w5):
  w5.heap[wr.heap.size]?=N (K C t (0,0))∧Below wr.heap.size wr w5:=by
 refine⟨?_,(bal' wr _).trans (a.below (by simp) (fun j d e=>by omega))⟩;rw[b,List.drop_eq_nil_of_le (by simp [c])];simp
theorem EE (s:Sl) (b:Nat→Value) (a sv:Value) (V:Bool) (c:V=true↔s.val) (w:World) (d:nO w s b a sv):Calls Tryz.prog 112 #[.agg (SlC s b a sv)] w (aj w V):=
 (pI s b a sv w d).mono fun r w' ⟨B,h1,h2,h3⟩=>by
  have e:B=V:=by
   cases B<;>cases V
   ·rfl
   ·exact absurd (h2.out.2 (c.1 rfl)) Bool.noConfusion
   ·exact absurd (c.2 (h2.out.1 rfl)) Bool.noConfusion
   ·rfl
  subst e;exact⟨h1,h3⟩
theorem Nj (h:p:=by
 obtain⟨oa,oc,rfl,-⟩:=id hR.ob
 obtain⟨sa,sc,rfl,-⟩:=id hR.sd
 have hr:∀k,k<4→(rv k).oneCell'=true:=fun k hk=>by obtain⟨ra,rc,e,-⟩:=hR.rg k hk;rw[e];rfl
 rw[←hC]
 simp only[SlC,List.all_cons,List.all_nil,hr 0 (by decide),hr 1 (by decide),hr 2 (by decide),hr 3 (by decide),Bool.and_true]
 rfl):p:=h
theorem OG (a:Option Addr) (c:Nat) (l:List Sl) (n:Nat) (w:World) (T:l.length=n) (F:dm w (J a n c) l) (V:Bool) (K:V=true↔cW l):
  Calls Tryz.prog 66 #[J a n c] w (aj w V):=by
 have y:=hid T;have HF:Hid (¬cW l→V=false):=fun h=>by
  cases e:V with
  |false=>rfl
  |true=>exact absurd (K.1 e) h
 have HT:=hid K.2;have HL:=hid F;have nU:n≤9223372036854775807:=by
  obtain⟨a',c',dE,q1,q2,-⟩:=id F;cases dE;unfold maxLen at q2;omega
 clear K T F;go_enter Tryz.func66,Tryz.ntmps66;go_wp2;go_loopw [7] (fun L wr=>∃k:Nat,k≤n∧L=U Y (k:Int)∧Hid (∀i s,i<k→l[i]?=N s→s.val)∧Below w.heap.size w wr) (fun L _=>n- (intOf L).toNat)
 case atStart=>exact⟨0,Nat.zero_le _,rfl,fun i s hi=>absurd hi (Nat.not_lt_zero _),Below.refl _ _⟩
 case round=>
  obtain⟨k,hk,rfl,E,d⟩:=hrel;have ab:(0:Int)≤(k:Int):=Int.natCast_nonneg _;by_cases O:k<n
  ·have ad:(k:Int)<(n:Int):=by omega
   obtain⟨s,hs⟩:∃s,l[k]?=N s:=⟨_,List.getElem?_eq_getElem (by rw[y.out];exact O)⟩
   obtain⟨b,o,rv,R,sv,rfl,hR,W⟩:=(HL.out.ah d).at hs;obtain⟨B,I⟩:=bU (p:=s.val);obtain⟨C,hC⟩:=gE (SlC s rv R sv);have u9:Hid (∀X,Below wr.heap.size wr X→Calls Tryz.prog 112 #[.agg C] X (aj X B)):=fun X hX=>by rw[←hC];exact EE s rv R sv B I X (hR.ah hX)
   have m:C.size=19:=by rw[←hC];rfl
   have hi:(Tryz.prog.info? 68).map (·.size)=N C.size:=by rw[m];exact dX
   have G:C.toList.all (·.oneCell')=true:=by
    exact Nj
   have P:∀j v,C.toList[j]?=N v→wr.cell? ((⟨b,o+k*19,M⟩:Addr).add j)=N v:=fun j v z=>by
    have e:(⟨b,o+k*19,M⟩:Addr).add j=⟨b,o+k*19+j,M⟩:=by unfold Addr.add;split<;>simp_all
    rw[e];exact W j v (by rw[hC];simpa using z)
   have S:=hid I;have Z:=hid hs;clear hR W hC I hs;go_upto_region 4 with(first
    |(refine wpList_load_atH (by rfl) 68 (.tmp 9) rfl ⟨b,o+k*19,M⟩ rfl C _ P Tryz.underlying68 rfl hi ?_)
    |(refine wpList_storeW rfl 68 (.tmp 4) (.tmp 10) rfl wr.heap.size 0 _ 68 C rfl rfl (hpNew wr _) (by simp [m]) hi G ?_;intro w5 g5 q A))
   obtain⟨Q,f⟩:=cJ (by simp [m]) g5 q;clear g5 q A P;cases B with
   |false=>
    have u:=hid (HF.out (fun h=>Bool.noConfusion (S.out.2 (h.2 s (List.mem_of_getElem? Z.out)))));go_wp2_with (first
     |(refine wpList_load_row rfl 68 (.tmp 4) rfl wr.heap.size rfl 68 C (0,0) _ Q Tryz.underlying68 rfl hi ?_)
     |(go_at_call 112;(with_reducible refine(u9.out _ f).mono ?_);rintro r w2 ⟨rfl,g⟩))
    go_ret;exact⟨by rw[u.out]<;>rfl,bt (bt d f (Nat.le_refl _)) g (Nat.le_refl _)⟩
   |true=>
    have Gl:Hid (∀i t,i<k+1→l[i]?=N t→t.val):=fun i t hi D=>by
     by_cases e:i=k
     ·subst e
      rw[Z.out] at D;cases D;exact S.out.1 rfl
     ·exact E.out i t (by omega) D
    go_wp2_with (first
     |(refine wpList_load_row rfl 68 (.tmp 4) rfl wr.heap.size rfl 68 C (0,0) _ Q Tryz.underlying68 rfl hi ?_)
     |(go_at_call 112;(with_reducible refine(u9.out _ f).mono ?_);rintro r w2 ⟨rfl,g⟩))
    go_roundw
    case rel=>exact⟨k+1,by omega,by go_num,Gl.out,bt (bt d f (Nat.le_refl _)) g (Nat.le_refl _)⟩
    case measure=>simp [intOf];omega
  ·obtain rfl:k=n:=by omega
   have EN:Hid (∀s∈l,s.val):=fun s hs=>by
    obtain⟨j,z,e⟩:=List.mem_iff_getElem.1 hs;exact E.out j s (by rw[←y.out];exact z) (by rw[List.getElem?_eq_getElem z,e])
   clear E;by_cases x:k≤16
   ·have d16:decide ((k:Int)≤16)=true:=decide_eq_true (by omega)
    have u:=hid (HT.out ⟨by rw[y.out];exact x,EN.out⟩);clear x;go_wp2;go_ret;exact⟨by rw[u.out]<;>rfl,d⟩
   ·have d16:decide ((k:Int)≤16)=false:=decide_eq_false (by omega)
    have u:=hid (HF.out (fun h=>x (by have:=h.1;rw[y.out] at this;exact this)));clear x;go_wp2;go_ret;exact⟨by rw[u.out]<;>rfl,d⟩
theorem vw (l:List Sl):∃V:Bool,(V=true↔cW l)∧∀(w:World) (v:Value),dm w v l→Calls Tryz.prog 66 #[v] w (aj w V):=by
 obtain⟨V,b⟩:=bU (p:=cW l);refine⟨V,b,fun w v d=>?_⟩;obtain⟨a,c,rfl⟩:=d.KH;exact OG a c l _ w rfl d V b
theorem sC (a:Option Addr) (c:Nat) (l:List Sl) (n:Nat) (w:World) (hn:l.length=n) (UU:n≤16) (hl:dm w (J a n c) l) (bd pa un:Int) (E:bT bd) (B:bT pa):
  Calls Tryz.prog 188 #[J a n c,.agg #[U Y bd,U Y pa],U Y un] w (tB w (bF l bd pa un n)):=by
 have HN:=hid hn;have HL:=hid hl;have V:=hid E;have jy:=hid B;obtain⟨W0,O⟩:∃W,w.alloc (K #[U Y bd,U Y pa] 61)=W:=⟨_,rfl⟩
 have cy:Below w.heap.size w W0:=by rw[←O];exact bal' w _
 have I:W0.heap.size=w.heap.size+1:=by rw[←O];simp
 have p0:W0.heap[w.heap.size]?=N (K #[U Y bd,U Y pa] 61):=by rw[←O];exact hpNew w _
 have Z:=hid O;have ak:=hid cy;have yt:=hid I;have P0:=hid p0;clear hn hl E B O cy I p0;go_enter Tryz.func188,Tryz.ntmps188;go_upto_region 1 with(fail)
 rw[Z.out];go_wp2;go_loopw [7,12] (fun dv iv wr=>∃(k:Nat) (b:Option Addr) (m r:Nat),k≤n∧iv=U Y (k:Int)∧dv=J b m r∧Hid ((bF l bd pa un k).length=m)∧m≤k∧Hid (wr.ownsRow W0.heap.size 3 1 (J b m r) m ((bF l bd pa un k).map fun i:Nat=>U Y (i:Int)))∧Below W0.heap.size W0 wr) (fun _ iv _=>n- (intOf iv).toNat)
 case atStart=>exact⟨0,none,0,0,Nat.zero_le _,rfl,rfl,rfl,Nat.le_refl _,World.ownsRow_nil _ _ _ _,Below.refl _ _⟩
 case round=>
  obtain⟨k,b,m,r,hk,rfl,rfl,t,a4,x,z⟩:=hrel;have aY:(0:Int)≤(k:Int):=Int.natCast_nonneg _;have An:=bt ak.out z (Nat.le_refl _);by_cases aX:k<n
  ·have a3:(k:Int)<(n:Int):=by omega
   obtain⟨s,hs⟩:∃s,l[k]?=N s:=⟨_,List.getElem?_eq_getElem (by rw[HN.out];exact aX)⟩
   obtain⟨b2,o,rv,ov,sv,rfl,hR,hc⟩:=(HL.out.ah An).at hs;obtain⟨C,hC⟩:=gE (SlC s rv ov sv);have y:C.size=19:=by rw[←hC];rfl
   have hi:(Tryz.prog.info? 68).map (·.size)=N C.size:=by rw[y];exact dX
   have av:C.toList.all (·.oneCell')=true:=by
    exact Nj
   have cd:∀j v,C.toList[j]?=N v→wr.cell? ((⟨b2,o+k*19,M⟩:Addr).add j)=N v:=fun j v R=>by
    have e:(⟨b2,o+k*19,M⟩:Addr).add j=⟨b2,o+k*19+j,M⟩:=by unfold Addr.add;split<;>simp_all
    rw[e];exact hc j v (by rw[hC];simpa using R)
   have e0:C[0]?=N (U Y s.bd):=by rw[←hC];rfl
   have e1:C[1]?=N (U Y s.pa):=by rw[←hC];rfl
   have e2:C[2]?=N (U Y s.un):=by rw[←hC];rfl
   obtain⟨D,Q⟩:=bU (p:=s.bd=bd∧s.pa=pa);have heq:∀X,(binOp .eql 61 (.agg #[U Y s.bd,U Y s.pa]) (.agg #[U Y bd,U Y pa])).run Tryz.prog X=.ok (.bool D) X:=fun X=>sT _ _ _ _ hR.bd hR.pa V.out jy.out D Q X
   have Cb:Hid (nZ bd pa un s=(D&&decide (s.un=un))):=by
    show (decide (s.bd=bd∧s.pa=pa)&&_)=_;congr 1;cases D
    ·exact decide_eq_false (fun h=>Bool.noConfusion (Q.2 h))
    ·exact decide_eq_true (Q.1 rfl)
   have HS:=hid hs;have ao:=hid z;clear hR hc hC Q hs An;generalize s.bd=sb at*;generalize s.pa=sp at*;generalize s.un=P at*;go_upto_region 5 with(first
    |(refine wpList_load_atH (by rfl) 68 (.tmp 15) rfl ⟨b2,o+k*19,M⟩ rfl C _ cd Tryz.underlying68 rfl hi ?_)
    |(refine wpList_storeW rfl 68 (.tmp 9) (.tmp 16) rfl wr.heap.size 0 _ 68 C rfl rfl (hpNew wr _) (by simp [y]) hi av ?_;intro w5 g5 G ab))
   obtain⟨T,A⟩:=cJ (by simp [y]) g5 G;clear g5 G ab cd;have y0:w5.cell? ⟨wr.heap.size,0,M⟩=N (U Y sb):=by rw[hpCell T 0];exact e0
   have y1:w5.cell? ⟨wr.heap.size,1,M⟩=N (U Y sp):=by rw[hpCell T 1];exact e1
   have y2:w5.cell? ⟨wr.heap.size,2,M⟩=N (U Y P):=by rw[hpCell T 2];exact e2
   have d:=bt ao.out A (Nat.le_refl _);have x0:w5.cell? ⟨w.heap.size,0,M⟩=N (U Y bd):=hpCell (hpKeep P0.out d) 0;have x1:w5.cell? ⟨w.heap.size,1,M⟩=N (U Y pa):=hpCell (hpKeep P0.out d) 1;have bX:Hid (w5.ownsRow W0.heap.size 3 1 (J b m r) m ((bF l bd pa un k).map fun i:Nat=>U Y (i:Int))):=own_keeps (F:=fun _=>False) x.out (Keeps.af A) (fun _ _ e=>e);have S:=hid d;clear e0 e1 e2 T z A d;cases D with
   |false=>
    have f:=hid (oQ HS.out (bd:=bd) (pa:=pa) (un:=un) (by rw[Cb.out];rfl));go_wp2;go_roundw
    case rel=>exact⟨k+1,b,m,r,by omega,by go_num,rfl,by show _=_;rw[f.out];exact t.out,by omega,by rw[f.out];exact bX.out,S.out⟩
    case measure=>simp [intOf];omega
   |true=>
    by_cases hu:P=un
    ·have GY:=hid (xQ HS.out (bd:=bd) (pa:=pa) (un:=un) (by rw[Cb.out,decide_eq_true hu];rfl))
     have g1:(P==un)=true:=b1 hu;clear hu;obtain⟨iI,ad,Pa,PH,Qk⟩:=info_parts AM;have q:(w5.alloc (K #[U Y (k:Int)] 3)).ownsRow W0.heap.size 3 1 (J b m r) m ((bF l bd pa un k).map fun i:Nat=>U Y (i:Int)):=own_keeps (F:=fun _=>False) bX.out (Keeps.af (bal' _ _)) (fun _ _ e=>e);have cz:∀j u,([U Y (k:Int)]:List Value)[j]?=N u→(w5.alloc (K #[U Y (k:Int)] 3)).cell? ((⟨w5.heap.size,0,M⟩:Addr).add j)=N u:=fun j u R=>tf (hpNew w5 _) j u R
     have hz:W0.heap.size≤(w5.alloc (K #[U Y (k:Int)] 3)).heap.size:=by have:=S.out.size;simp;omega
     have tD:m+1≤maxLen:=by unfold maxLen;omega
     have XJ:(m+1)*8≤140737488355328:=by omega
     go_wp2_with (at_builtin;refine aL rfl (.tmp 27) (.tmp 29) 58 rfl W0.heap.size 3 iI _ 1 8 Tryz.underlying58 ad Pa PH Qk rfl (by decide) (J b m r) m _ rfl q ⟨w5.heap.size,0,M⟩ 1 1 [U Y (k:Int)] rfl rfl cz (fun u hu=>(List.mem_singleton.1 hu)▸rfl) tD XJ hz ?_;intro a2 fm py FM QR;obtain⟨ZC,oM,rfl⟩:=own_slice py);have L:Below W0.heap.size W0 fm:=by
      have E:Below W0.heap.size W0 (w5.alloc (K #[U Y (k:Int)] 3)):=bta S.out (Nat.le_refl _) _;exact E.trans ((Keeps.bJ FM (F:=fun j=>(Value.slice b m r).ownBlock=N j) (fun j e=>e)).below E.size (fun j R e=>by have:=(q.lt j e).1;omega))
     go_roundw
     case rel=>exact⟨k+1,ZC,m+1,oM,by omega,by go_num,rfl,by show _=_;rw[GY.out,List.length_append,t.out];rfl,by omega,by rw[GY.out,List.map_append];exact py,L⟩
     case measure=>simp [intOf];omega
    ·have f:=hid (oQ HS.out (bd:=bd) (pa:=pa) (un:=un) (by rw[Cb.out,decide_eq_false hu];rfl))
     have g1:(P==un)=false:=by rw[beq_eq_false_iff_ne];exact hu
     clear hu;go_wp2;go_roundw
     case rel=>exact⟨k+1,b,m,r,by omega,by go_num,rfl,by show _=_;rw[f.out];exact t.out,by omega,by rw[f.out];exact bX.out,S.out⟩
     case measure=>simp [intOf];omega
  ·obtain rfl:k=n:=by omega
   go_wp2;go_ret;have hm:=t.out;subst hm;have h:=x.out;obtain⟨om,B⟩:=h;refine⟨b,r,rfl,⟨om,?_⟩,An⟩;rcases B with B|⟨g,cap,cur,hv,hg,h3⟩
   ·exact .inl B
   ·exact .inr ⟨g,cap,cur,hv,by have:=yt.out;omega,h3⟩
