import Derived.Test.YtoaoejaodhedaaaGreatT05
namespace Go.Proofs.YtoaoejaodhedaaaGreat
open Go.RowKit
open Value renaming slice→J,int→N
open Option renaming some→M
open IntKind renaming i64→U
set_option maxHeartbeats 12800000
set_option maxRecDepth 100000
variable {p:Prop} {w w':World}
def iP.val (t:iP) (k:Nat):Prop:=(t.sup=false→t.rd.length=0∧t.al=0)∧(t.sup=true→t.rd.length≤32∧aG (-1) t.rd=true∧1≤t.al∧t.al≤cN ((k:Nat)+1))
structure Sl.val (s:Sl):Prop where
 set:aU s.bd s.pa
 un:1≤s.un∧s.un≤247
 lv:0≤s.lv∧s.lv≤3
 tb:∀k,k<4→(s.ts k).val k
 l0:s.lv=0→s.ag.length=0
 sv:s.hs=true↔0<s.sd.length
 sl:s.sd.length≤64
 on:0<s.lv→s.ag.length≤16∧3≤s.ag.length
 ri:0<s.lv→aQ (-1) s.ag=true
 o2:0<s.lv→∀x,s.ag[2]?=M x→x.id=2
 top:0<s.lv→∀x,s.ag[s.ag.length-1]?=M x→(s.lv=1→x.id≤2)∧(s.lv=2→x.id≤127)
 vl:0<s.lv→∀(i:Nat) (x:Ob),s.ag[i]?=M x→x.val.length≤64
def SlvPost (w:World) (s:Sl) (r:Ending) (w':World):Prop:=∃V:Bool,r=.returned (.bool V)∧Hid (V=true↔s.val)∧Below w.heap.size w w'
theorem SlvPost.no {s:Sl} (h:¬s.val) (a:Below w.heap.size w w'):SlvPost w s (.returned (.bool false)) w':=⟨false,rfl,⟨fun e=>(by cases e),fun e=>absurd e h⟩,a⟩
theorem SlvPost.yes {s:Sl} (h:s.val) (a:Below w.heap.size w w'):SlvPost w s (.returned (.bool true)) w':=⟨true,rfl,⟨fun _=>h,fun _=>rfl⟩,a⟩
theorem zV {b p:Int} (h:aU b p) (X:World):Calls Tryz.prog 93 #[.agg #[N U b,N U p]] X (aj X true):=(kH b p X).mono fun _ _ ⟨V,h1,h2,h3⟩=>⟨by rw[h1,h2.out.2 h],h3⟩
theorem Di {b p:Int} (h:¬aU b p) (X:World):Calls Tryz.prog 93 #[.agg #[N U b,N U p]] X (aj X false):=(kH b p X).mono fun _ _ ⟨V,h1,h2,h3⟩=>⟨by rw[h1];cases V with|true=>exact absurd (h2.out.1 rfl) h|false=>rfl,h3⟩
theorem F3 (h:p:=by
 clear c1
 go_wp2_with (go_at_call 95;(with_reducible refine HRI.out.mono ?_);rintro r w3 ⟨rfl,hb3⟩)
 go_loopw [6] (fun iv wi=>∃k:Nat,k≤on∧iv=.int .i64 (k:Int)∧Hid (∀(i:Nat) (x:Ob),i<k→s.ag[i]?=some x→x.val.length≤64)∧w3=wi) (fun iv _=>on- (intOf iv).toNat)
 case atStart=>exact⟨0,Nat.zero_le _,rfl,fun i x h=>absurd h (Nat.not_lt_zero _),rfl⟩
 case round=>
  obtain⟨k,hk,rfl,hvl,rfl⟩:=hrel
  have hki:(0:Int)≤(k:Int):=Int.natCast_nonneg _
  have v16':=v16 w3 hb3
  by_cases hlt:k<on
  ·obtain ⟨x,hx⟩:=gs (l:=s.ag) HON.out hlt
   obtain⟨b',o',xa,xc,ha',-,z1,-⟩:=HEL.out k x hx
   cases ha'
   have y1:w3.cell? ⟨b,o+k*2+1,none⟩=some (.slice xa x.val.length xc):=cell_keep (bt HBW.out hb3 (Nat.le_refl _)) z1
   have hkl:(k:Int)<(on:Int):=by omega
   obtain⟨xn,hxn⟩:=gE x.val.length
   rw[hxn] at y1
   have HX:=hid hx
   have HXN:=hid hxn
   clear z1 hx hxn y2 yj v15 v16
   by_cases h64x:(64:Int)<(xn:Int)
   ·have HK:Hid (¬s.val):=fun h=>by have:=h.vl HLP.out k x HX.out;rw[HXN.out] at this;omega
    go_wp2
    go_ret
    exact SlvPost.no HK.out (bt HBW.out hb3 (Nat.le_refl _))
   ·have HV2:Hid (∀(i:Nat) (x:Ob),i<k+1→s.ag[i]?=some x→x.val.length≤64):=fun i y hi hy=>by
     by_cases e:i=k
     ·subst e
      have h1:=HX.out
      rw[hy] at h1
      cases h1
      rw[HXN.out]
      omega
     ·exact hvl.out i y (by omega) hy
    go_wp2
    go_roundw
    case rel=>exact⟨k+1,by omega,by go_num,HV2.out,trivial⟩
    case measure=>simp [intOf];omega
  ·obtain rfl:k=on:=by omega
   have HK:Hid s.val:=HALL.out fun i x hx=>hvl.out i x (by have:=(List.getElem?_eq_some_iff.1 hx).1;rw[HON.out] at this;exact this) hx
   clear y2 yj v15 v16
   go_wp2
   go_ret
   exact SlvPost.yes HK.out (bt HBW.out hb3 (Nat.le_refl _))):p:=h
theorem Mo (h:p:=by
 cases H<;>cases P
 case true.false=>
  have HE:Hid (true=VB):=by rw[←hvb];cases (decide (64<sn))<;>rfl
  have hp:=HP.out
  clear hvb
  go_wp2
  go_meet
  case rel=>exact⟨by rw[←HE.out],rfl⟩
 case false.true=>
  have HE:Hid (true=VB):=by rw[←hvb];cases (decide (64<sn))<;>rfl
  have hp:=HP.out
  clear hvb
  go_wp2
  go_meet
  case rel=>exact⟨by rw[←HE.out],rfl⟩
 all_goals
  have hp:=HP.out
  by_cases h64:64<sn
  ·have HE:Hid (true=VB):=by rw[←hvb,decide_eq_true h64];rfl
   clear hvb
   go_wp2
   go_meet
   case rel=>exact⟨by rw[←HE.out,decide_eq_true (by omega:(64:Int)<(sn:Int))],rfl⟩
  ·have HE:Hid (false=VB):=by rw[←hvb,decide_eq_false h64];rfl
   clear hvb
   go_wp2
   go_meet
   case rel=>exact⟨by rw[←HE.out,decide_eq_false (by omega:¬(64:Int)<(sn:Int))],rfl⟩):p:=h
theorem N3 (h:p:=by
 have HNO:Hid (¬s.val):=fun h=>by have:=h.lv;omega
 clear t16 t17 t18
 go_enter Tryz.func53,Tryz.ntmps53
 go_upto_region 1 with(fail)
 rw[HW1.out]
 go_wp2_with (go_at_call 93;(with_reducible refine(HV.out _).mono ?_);rintro r w2 ⟨rfl,hb2⟩)
 go_ret
 exact SlvPost.no HNO.out (bt HB1.out hb2 (Nat.le_refl _))):p:=h
theorem ME (h:p:=by
 have HNO:Hid (¬s.val):=fun h=>by have:=h.un;omega
 clear t16 t17 t18
 go_enter Tryz.func53,Tryz.ntmps53
 go_upto_region 1 with(fail)
 rw[HW1.out]
 go_wp2_with (go_at_call 93;(with_reducible refine(HV.out _).mono ?_);rintro r w2 ⟨rfl,hb2⟩)
 go_ret
 exact SlvPost.no HNO.out (bt HB1.out hb2 (Nat.le_refl _))):p:=h
theorem M9 (h:p:=by
 refine tG 17 70 ?_;refine tG 18 71 ?_
 refine tU 19 72 ?_;refine tU 20 73 ?_;refine tU 21 74 ?_;refine tU 22 75 ?_;refine tU 23 76 ?_;refine tU 24 77 ?_
 refine tG 25 78 ?_;refine tG 26 79 ?_;refine wpAnyH_done (by kernel_rfl) ?_ _
 go_wp2
 go_ret
 exact SlvPost.no HK.out (bt HBX.out hB5 (Nat.le_refl _))):p:=h
theorem o9 (s:Sl) (v:Nat→Value) (ov sv:Value) (w:World) (hR:nO w s v ov sv):
  Calls Tryz.prog 53 #[.agg (SlC s v ov sv)] w (SlvPost w s):=by
 obtain⟨oa,oc,rfl,-⟩:=id hR.ob;obtain⟨sa,sc,rfl,-⟩:=id hR.sd;obtain⟨on,iZ⟩:=gE s.ag.length;obtain⟨sn,ie⟩:=gE s.sd.length;have jT:=hR.ob.len;rw[iZ] at jT;unfold maxLen at jT;rw[iZ,ie] at hR ⊢;obtain⟨H,D⟩:=gE s.hs;have yD:SlC s v (J oa on oc) (J sa sn sc)=#[N U s.bd,N U s.pa,N U s.un,.bool (s.ts 0).sup,v 0,N U (s.ts 0).al,.bool (s.ts 1).sup,v 1,N U (s.ts 1).al,.bool (s.ts 2).sup,v 2,N U (s.ts 2).al,.bool (s.ts 3).sup,v 3,N U (s.ts 3).al,N U s.lv,J oa on oc,.bool H,J sa sn sc]:=by unfold SlC;rw[D]
 rw[yD];obtain⟨A,ak⟩:∃W,w.alloc (.cells #[N U s.bd,N U s.pa,N U s.un,.bool (s.ts 0).sup,v 0,N U (s.ts 0).al,.bool (s.ts 1).sup,v 1,N U (s.ts 1).al,.bool (s.ts 2).sup,v 2,N U (s.ts 2).al,.bool (s.ts 3).sup,v 3,N U (s.ts 3).al,N U s.lv,J oa on oc,.bool H,J sa sn sc] 68)=W:=⟨_,rfl⟩
 have aY:Below w.heap.size w A:=by rw[←ak];exact bal' w _
 have E:A.heap[w.heap.size]?=M (.cells (SlC s v (J oa on oc) (J sa sn sc)) 68):=by rw[yD,←ak];exact hpNew w _
 have t0:=cF E 0 rfl
 have t1:=cF E 1 rfl
 have t2:=cF E 2 rfl
 have t15:=cF E 15 rfl
 have t16:=cF E 16 rfl
 have t17:∀X,Below A.heap.size A X→X.cell? ⟨w.heap.size,17,none⟩=M (.bool H):=fun X h=>by rw[←D];exact hpCell (hpKeep E h) 17
 have t18:=cF E 18 rfl
 have k0:Below A.heap.size A A:=Below.refl _ _;have HW1:=hid ak;have HB1:=hid aY;have PS:=hid E;have HON:=hid iZ;have eV:=hid ie;have HH:=hid D;have T:=hid hR;have u0:=t0 A k0;have u1:=t1 A k0;have u2:=t2 A k0;have u15:=t15 A k0;clear ak aY E iZ ie yD D hR;by_cases hS:aU s.bd s.pa
 case neg=>
  have HV:=hid (Di hS);have HNO:Hid (¬s.val):=fun h=>hS h.set
  clear hS t0 t1 t2 t15 t16 t17 t18;go_enter Tryz.func53,Tryz.ntmps53;go_upto_region 1 with(fail)
  rw[HW1.out];go_wp2_with (go_at_call 93;(with_reducible refine(HV.out _).mono ?_);rintro r w2 ⟨rfl,hb2⟩);go_ret;exact SlvPost.no HNO.out (bt HB1.out hb2 (Nat.le_refl _))
 have HV:=hid (zV hS);have HS:=hid hS;clear hS;by_cases Xr:s.un<1
 case pos=>
  exact ME
 by_cases a5:247<s.un
 case pos=>
  exact ME
 by_cases om:s.lv<0
 case pos=>
  exact N3
 by_cases et:3<s.lv
 case pos=>
  exact N3
 have HU:Hid (1≤s.un∧s.un≤247∧0≤s.lv∧s.lv≤3):=by show _∧_;omega
 go_enter Tryz.func53,Tryz.ntmps53;go_upto_region 1 with(fail)
 rw[HW1.out];go_upto_region 3 with(go_at_call 93;(with_reducible refine(HV.out _).mono ?_);rintro r w2 ⟨rfl,hb2⟩)
 have fC:=hid hb2;clear u0 u1 u2 u15 t0 t1 t2 Xr a5 om et HV;go_wp2_with fail;go_loopw [3] (fun iv wr=>∃k:Nat,k≤4∧iv=N U (k:Int)∧Hid (∀i,i<k→(s.ts i).val i)∧Below A.heap.size A wr) (fun iv _=>4- (intOf iv).toNat)
 case atStart=>exact⟨0,by omega,rfl,fun i hi=>absurd hi (by omega),hb2⟩
 case round=>
  obtain⟨k,hk,rfl,Yc,c⟩:=hrel;have hki:(0:Int)≤(k:Int):=Int.natCast_nonneg _;by_cases hlt:k<4
  ·have hkl:(k:Int)<4:=by omega
   obtain⟨ra,rc,kg,-⟩:=id (T.out.rg k hlt);obtain⟨u,dN⟩:=gE ((s.ts k).rd.length);obtain⟨SU,O⟩:=gE ((s.ts k).sup);obtain⟨mo,O6⟩:=gE ((s.ts k).al);rw[dN] at kg;obtain⟨y0,y1,y2⟩:=fJ s v _ _ (hpKeep PS.out c) hlt;rw[kg] at y1;rw[O] at y0;rw[O6] at y2;obtain⟨f,rJ,ou,px⟩:=eY wr (.cells #[.bool SU,J ra u rc,N U mo] 65);have x0:=cF px 0 rfl;have x1:=cF px 1 rfl;have x2:=cF px 2 rfl;have Jz:Below w.heap.size w f:=bt (bt HB1.out c (Nat.le_refl _)) ou (Nat.le_refl _);have aX:=bt c ou (Nat.le_refl _);have kx:Below f.heap.size f f:=Below.refl _ _;have t:Below f.heap.size f f.drew:=(Below.refl _ _).drew;have NC:Hid (∀X,Below f.heap.size f X→dw X (J ra u rc) (s.ts k).rd):=fun X h=>by rw[←kg];exact((T.out.rg k hlt).ah Jz).ah h
   have F:Hid ((s.ts k).val k↔(SU=false→u=0∧mo=0)∧(SU=true→u≤32∧aG (-1) (s.ts k).rd=true∧1≤mo∧mo≤cN ((k:Nat)+1))):=by
    show _↔_;rw[←O,←dN,←O6];exact Iff.rfl
   have Z:Hid (¬(s.ts k).val k→¬s.val):=fun h e=>h (e.tb k hlt)
   have NV:Hid ((s.ts k).val k→∀i,i<k+1→(s.ts i).val i):=fun h i hi=>by
    by_cases e:i=k
    ·subst e;exact h
    ·exact Yc.out i (by omega)
   have HBX:=hid Jz;have ao:=hid aX;have m:=hid rJ;have a6:u≤9223372036854775807:=by
    have h1:=(T.out.rg k hlt)
    rw[kg] at h1;obtain⟨_,_,e,h2,h3,_⟩:=h1;unfold maxLen at h3;cases e;omega
   clear kg dN O O6 rJ px Jz aX Yc;cases SU with
   |false=>
    have d9:∀z,Hid z→z:=fun z h=>h.out
    by_cases D8:u=0
    ·by_cases Y:mo=0
     ·have e1:((u:Int) !=0)=false:=by rw[bne_eq_false_iff_eq];omega
      have L:(mo !=0)=false:=by rw[bne_eq_false_iff_eq];exact Y
      have HK:Hid ((s.ts k).val k):=F.out.2 ⟨fun _=>⟨D8,Y⟩,fun e=>(by cases e)⟩;clear D8 Y d9;go_upto_region 7 with(fail)
      rw[m.out];clear y0 y1 y2;go_upto_region 9 with(fail)
      go_quiet (fail);go_wp2;go_roundw
      case rel=>exact⟨k+1,by omega,by go_num,NV.out HK.out,below_drewN ao.out _⟩
      case measure=>simp [intOf];omega
     ·have e1:((u:Int) !=0)=false:=by rw[bne_eq_false_iff_eq];omega
      have L:(mo !=0)=true:=by rw[bne_iff_ne];exact Y
      have HK:Hid (¬s.val):=Z.out fun h=>Y ((F.out.1 h).1 rfl).2
      clear D8 Y d9;go_upto_region 7 with(fail)
      rw[m.out];clear y0 y1 y2;go_wp2;go_ret;exact SlvPost.no HK.out HBX.out
    ·have e1:((u:Int) !=0)=true:=by rw[bne_iff_ne];omega
     have HK:Hid (¬s.val):=Z.out fun h=>D8 ((F.out.1 h).1 rfl).1
     clear D8 d9;go_upto_region 7 with(fail)
     rw[m.out];clear y0 y1 y2;go_wp2;go_ret;exact SlvPost.no HK.out HBX.out
   |true=>
    have s1:IntKind.i64.wrap ((k:Int)+1)=(k:Int)+1:=IntWalk.i64_in _ (by omega);have ad:Hid (∀X,Calls Tryz.prog 79 #[N U ((k:Int)+1)] X fun r w'=>r=.returned (N U (cN ((k:Int)+1)))∧X=w'):=fun X=>kI _ X
    by_cases E9:32<u
    ·have e1:(decide ((32:Int)<(u:Int)))=true:=decide_eq_true (by omega)
     have HK:Hid (¬s.val):=Z.out fun h=>by have:=((F.out.1 h).2 rfl).1;omega
     clear E9;go_upto_region 7 with(fail)
     rw[m.out];clear y0 y1 y2;go_upto_region 9 with(fail)
     refine wp_region_held_drew (S:=fun V=>Below f.heap.size f V) (by kernel_rfl) t (fun D=>?_);refine tG 0 53 ?_;refine tG 1 54 ?_;refine tG 2 55 ?_;refine tG 3 56 ?_;refine tG 4 57 ?_;refine tG 5 58 ?_;refine tG 6 59 ?_;refine tG 7 60 ?_;refine tU 8 61 ?_;refine tU 9 62 ?_;refine tU 10 63 ?_;refine tU 11 64 ?_;refine tG 12 65 ?_;refine tG 13 66 ?_;refine tU 14 67 ?_;refine tU 15 68 ?_;refine tU 16 69 ?_;refine tG 17 70 ?_;refine tG 18 71 ?_;refine tU 19 72 ?_;refine tU 20 73 ?_;refine tU 21 74 ?_;refine tU 22 75 ?_;refine tU 23 76 ?_;refine tU 24 77 ?_;refine tG 25 78 ?_;refine tG 26 79 ?_;refine wpAnyH_done (by kernel_rfl) ?_ _;go_wp2;go_ret;exact SlvPost.no HK.out (bt HBX.out t (Nat.le_refl _))
    ·have e1:(decide ((32:Int)<(u:Int)))=false:=decide_eq_false (by omega)
     cases hG:aG (-1) (s.ts k).rd with
     |false=>
      have HK:Hid (¬s.val):=Z.out fun h=>by have:=((F.out.1 h).2 rfl).2.1;rw[hG] at this;cases this
      have TA:Hid (∀X,Below f.heap.size f X→Calls Tryz.prog 94 #[J ra u rc] X (aj X false)):=fun X h=>mT _ (s.ts k).rd X (NC.out X h) false hG
      clear E9 hG;go_upto_region 7 with(fail)
      rw[m.out];clear y0 y1 y2;go_upto_region 9 with(fail)
      refine wp_region_held_drew (S:=fun V=>Below f.heap.size f V) (by kernel_rfl) t (fun D=>?_);refine tG 0 53 ?_;refine tG 1 54 ?_;refine tG 2 55 ?_;refine tG 3 56 ?_;refine tG 4 57 ?_;refine tG 5 58 ?_;refine tG 6 59 ?_;refine tG 7 60 ?_;refine tG 8 61 ?_;refine tG 9 62 ?_;refine rdyH 10 rfl (fun K g=>?_);go_simp;refine(TA.out _ t).mono ?_;rintro r w5 ⟨rfl,n⟩;have hB5:=bt t n (Nat.le_refl _);refine g.out _ _ hB5 (fun Q=>?_);clear g K;refine tG 11 64 ?_;refine tG 12 65 ?_;refine tG 13 66 ?_;refine tU 14 67 ?_;refine tU 15 68 ?_;refine tU 16 69 ?_;exact M9
     |true=>
      have TA:Hid (∀X,Below f.heap.size f X→Calls Tryz.prog 94 #[J ra u rc] X (aj X true)):=fun X h=>mT _ (s.ts k).rd X (NC.out X h) true hG
      by_cases sF:mo<1
      ·have L:(decide (mo<1))=true:=decide_eq_true sF
       have HK:Hid (¬s.val):=Z.out fun h=>by have:=((F.out.1 h).2 rfl).2.2.1;omega
       clear E9 hG sF;go_upto_region 7 with(fail)
       rw[m.out];clear y0 y1 y2;go_upto_region 9 with(fail)
       refine wp_region_held_drew (S:=fun V=>Below f.heap.size f V) (by kernel_rfl) t (fun D=>?_);refine tG 0 53 ?_;refine tG 1 54 ?_;refine tG 2 55 ?_;refine tG 3 56 ?_;refine tG 4 57 ?_;refine tG 5 58 ?_;refine tG 6 59 ?_;refine tG 7 60 ?_;refine tG 8 61 ?_;refine tG 9 62 ?_;refine rdyH 10 rfl (fun K g=>?_);go_simp;refine(TA.out _ t).mono ?_;rintro r w5 ⟨rfl,n⟩;have hB5:=bt t n (Nat.le_refl _);refine g.out _ _ hB5 (fun Q=>?_);clear g K;refine tG 11 64 ?_;refine tG 12 65 ?_;refine tG 13 66 ?_;refine tG 14 67 ?_;refine tG 15 68 ?_;refine tG 16 69 ?_;exact M9
      ·have L:(decide (mo<1))=false:=decide_eq_false sF
       by_cases Bp:cN ((k:Int)+1)<mo
       ·have e3:(decide (cN ((k:Int)+1)<mo))=true:=decide_eq_true Bp
        have HK:Hid (¬s.val):=Z.out fun h=>by have:=((F.out.1 h).2 rfl).2.2.2;omega
        clear E9 hG sF Bp;go_upto_region 7 with(fail)
        rw[m.out];clear y0 y1 y2;go_upto_region 9 with(fail)
        refine wp_region_held_drew (S:=fun V=>Below f.heap.size f V) (by kernel_rfl) t (fun D=>?_);refine tG 0 53 ?_;refine tG 1 54 ?_;refine tG 2 55 ?_;refine tG 3 56 ?_;refine tG 4 57 ?_;refine tG 5 58 ?_;refine tG 6 59 ?_;refine tG 7 60 ?_;refine tG 8 61 ?_;refine tG 9 62 ?_;refine rdyH 10 rfl (fun K g=>?_);go_simp;refine(TA.out _ t).mono ?_;rintro r w5 ⟨rfl,n⟩;have hB5:=bt t n (Nat.le_refl _);refine g.out _ _ hB5 (fun Q=>?_);clear g K;refine tG 11 64 ?_;refine tG 12 65 ?_;refine tG 13 66 ?_;refine tG 14 67 ?_;refine tG 15 68 ?_;refine tG 16 69 ?_;refine tG 17 70 ?_;refine tG 18 71 ?_;refine tG 19 72 ?_;refine tG 20 73 ?_;refine tG 21 74 ?_;refine tG 22 75 ?_;refine rdyH 23 rfl (fun K g=>?_);go_simp;refine(ad.out _).mono ?_;rintro r w6 ⟨rfl,rfl⟩;refine g.out _ _ hB5 (fun LB=>?_);clear g K;refine tG 24 77 ?_;refine tG 25 78 ?_;refine tG 26 79 ?_;refine wpAnyH_done (by kernel_rfl) ?_ _;go_wp2;go_ret;exact SlvPost.no HK.out (bt HBX.out hB5 (Nat.le_refl _))
       ·have e3:(decide (cN ((k:Int)+1)<mo))=false:=decide_eq_false Bp
        have HK:Hid ((s.ts k).val k):=F.out.2 ⟨fun e=>(by cases e),fun _=>⟨by omega,hG,by omega,by omega⟩⟩;clear E9 hG sF Bp;go_upto_region 7 with(fail)
        rw[m.out];clear y0 y1 y2;go_upto_region 9 with(fail)
        refine wp_region_held_drew (S:=fun V=>Below f.heap.size f V) (by kernel_rfl) t (fun D=>?_);refine tG 0 53 ?_;refine tG 1 54 ?_;refine tG 2 55 ?_;refine tG 3 56 ?_;refine tG 4 57 ?_;refine tG 5 58 ?_;refine tG 6 59 ?_;refine tG 7 60 ?_;refine tG 8 61 ?_;refine tG 9 62 ?_;refine rdyH 10 rfl (fun K g=>?_);go_simp;refine(TA.out _ t).mono ?_;rintro r w5 ⟨rfl,n⟩;have hB5:=bt t n (Nat.le_refl _);refine g.out _ _ hB5 (fun Q=>?_);clear g K;refine tG 11 64 ?_;refine tG 12 65 ?_;refine tG 13 66 ?_;refine tG 14 67 ?_;refine tG 15 68 ?_;refine tG 16 69 ?_;refine tG 17 70 ?_;refine tG 18 71 ?_;refine tG 19 72 ?_;refine tG 20 73 ?_;refine tG 21 74 ?_;refine tG 22 75 ?_;refine rdyH 23 rfl (fun K g=>?_);go_simp;refine(ad.out _).mono ?_;rintro r w6 ⟨rfl,rfl⟩;refine g.out _ _ hB5 (fun LB=>?_);clear g K;refine tG 24 77 ?_;refine tG 25 78 ?_;refine tG 26 79 ?_;refine wpAnyH_done (by kernel_rfl) ?_ _;go_wp2;go_roundw
        case rel=>exact⟨k+1,by omega,by go_num,NV.out HK.out,bt ao.out hB5 (Nat.le_refl _)⟩
        case measure=>simp [intOf];omega
  ·obtain rfl:k=4:=by omega
   have u15:=t15 wr c;have u16:=t16 wr c;have u17:=t17 wr c;have u18:=t18 wr c;have qU:=hid Yc.out;have oO:=bt HB1.out c (Nat.le_refl _);have HBW:=hid oO;obtain⟨P,hP⟩:∃b,decide (0<sn)=b:=⟨_,rfl⟩
   have u9:Hid ((H !=P)=false↔(s.hs=true↔0<s.sd.length)):=by
    show _↔_;rw[HH.out,eV.out];have h:P=true↔0<sn:=by rw[←hP,decide_eq_true_eq]
    rw[←h];cases H<;>cases P<;>decide
   obtain⟨VB,tp⟩:∃b,((s.lv==0&&decide (on≠0))||(H !=P)||decide (64<sn))=b:=⟨_,rfl⟩
   have NZ:=hid tp;have HP:=hid hP;clear tp hP;go_upto_region 11 with(fail)
   go_cut [103] from 80 to 103 (fun q wc=>q=.bool VB∧wr=wc)
   case first=>
    have hvb:=NZ.out;clear t15 t16 t17 t18 u9 NZ;by_cases B:s.lv=0
    ·by_cases ho:on=0
     ·have R:(s.lv==0)=true:=b1 B
      have g2:((on:Int) !=0)=false:=by rw[bne_eq_false_iff_eq];omega
      have L:decide (on≠0)=false:=decide_eq_false (by omega);rw[R,L] at hvb;exact Mo
     ·have R:(s.lv==0)=true:=b1 B
      have g2:((on:Int) !=0)=true:=by rw[bne_iff_ne];omega
      have L:decide (on≠0)=true:=decide_eq_true (by omega);rw[R,L] at hvb;have HE:Hid (true=VB):=hvb;clear B ho hvb L;go_wp2;go_meet
      case rel=>exact⟨by rw[←HE.out],rfl⟩
    ·have R:(s.lv==0)=false:=b0 B
     rw[R] at hvb;exact Mo
   case rest=>
    obtain⟨rfl,rfl⟩:=hcut;cases VB with
    |true=>
     have HK:Hid (¬s.val):=fun h=>by
      have I:=NZ.out;have h1:=u9.out.2 h.sv;have h2:=h.sl;rw[eV.out] at h2;rw[h1,decide_eq_false (show ¬64<sn by omega)] at I;simp only[Bool.or_false,Bool.and_eq_true,beq_iff_eq,decide_eq_true_eq] at I;have h3:=h.l0 I.1;rw[HON.out] at h3;exact I.2 h3
     clear t15 t16 t17 t18;go_wp2;go_ret;exact SlvPost.no HK.out HBW.out
    |false=>
     have Vf:(s.lv=0→on=0)∧(H !=P)=false∧sn≤64:=by
      have I:=NZ.out;simp only[Bool.or_eq_false_iff,Bool.and_eq_false_iff,beq_eq_false_iff_ne,decide_eq_false_iff_not] at I;refine⟨fun e=>?_,I.1.2,by omega⟩;rcases I.1.1 with h|h
      ·exact absurd e h
      ·omega
     have Wu:Hid (s.hs=true↔0<s.sd.length):=u9.out.1 Vf.2.1;have u6:Hid (s.sd.length≤64):=by show _≤_;rw[eV.out];exact Vf.2.2
     by_cases B:s.lv=0
     ·have R:(s.lv==0)=true:=b1 B
      have HK:Hid s.val:=by
       have hu:=HU.out;exact⟨HS.out,by omega,by omega,qU.out,fun _=>by rw[HON.out];exact Vf.1 B,Wu.out,u6.out,fun e=>by omega,fun e=>by omega,fun e=>by omega,fun e=>by omega,fun e=>by omega⟩
      clear B Vf t15 t16 t17 t18;go_wp2;go_ret;exact SlvPost.yes HK.out HBW.out
     ·have R:(s.lv==0)=false:=b0 B
      have HLP:Hid (0<s.lv):=by have:=HU.out;show 0<s.lv;omega
      clear B Vf;by_cases Nf:(16:Int)<(on:Int)
      ·have HK:Hid (¬s.val):=fun h=>by have:=(h.on HLP.out).1;rw[HON.out] at this;omega
       clear t15 t16 t17 t18;go_wp2;go_ret;exact SlvPost.no HK.out HBW.out
      ·have MG:=hid (T.out.ob.ah oO)
       cases jZ:aQ (-1) s.ag with
       |false=>
        have HRI:Hid (Calls Tryz.prog 95 #[J oa on oc] wr (aj wr false)):=by
         have:=oW _ s.ag wr MG.out;rw[jZ] at this;exact this
        have HK:Hid (¬s.val):=fun h=>by have:=h.ri HLP.out;rw[jZ] at this;cases this
        clear t15 t16 t17 t18 jZ;go_wp2_with (go_at_call 95;(with_reducible refine HRI.out.mono ?_);rintro r w3 ⟨rfl,hb3⟩);go_ret;exact SlvPost.no HK.out (bt HBW.out hb3 (Nat.le_refl _))
       |true=>
        have HRI:Hid (Calls Tryz.prog 95 #[J oa on oc] wr (aj wr true)):=by
         have:=oW _ s.ag wr MG.out;rw[jZ] at this;exact this
        by_cases h3:(on:Int)<3
        ·have HK:Hid (¬s.val):=fun h=>by have:=(h.on HLP.out).2;rw[HON.out] at this;omega
         have v15:∀X,Below wr.heap.size wr X→X.cell? ⟨w.heap.size,16,none⟩=M (J oa on oc):=fun X h=>t16 X (bt c h (Nat.le_refl _))
         clear t15 t16 t17 t18 jZ;go_wp2_with (go_at_call 95;(with_reducible refine HRI.out.mono ?_);rintro r w3 ⟨rfl,hb3⟩);go_ret;exact SlvPost.no HK.out (bt HBW.out hb3 (Nat.le_refl _))
        ·obtain ⟨j,hj⟩:∃j:Nat,on-1=j:=⟨_,rfl⟩
         have a7:IntKind.i64.wrap ((on:Int)-1)=(j:Int):=(IntWalk.i64_in _ (by omega)).trans (by omega);obtain⟨x2,tI⟩:=gs (l:=s.ag) HON.out (show 2<on by omega);obtain⟨xj,WG⟩:=gs (l:=s.ag) HON.out (show j<on by omega);obtain⟨a',n',c',dE,-,-,-,-,dq⟩:=T.out.ob.open_;simp only[Value.slice.injEq] at dE;obtain⟨rfl,rfl,rfl⟩:=dE;obtain⟨b,o,-,-,rfl,z2,-,-⟩:=dq 2 x2 tI;obtain⟨b',o',-,-,ha',zj,-,-⟩:=dq j xj WG;cases ha';have HEL:=hid dq;obtain⟨i2,C⟩:=gE x2.id;obtain⟨G,zK⟩:=gE xj.id;rw[C] at z2;rw[zK] at zj;have WM:(0:Int)≤(j:Int):=Int.natCast_nonneg _;have JH:(j:Int)<(on:Int):=by omega
         have a8:(2:Int)<(on:Int):=by omega
         have y2:∀X,Below wr.heap.size wr X→X.cell? ⟨b,o+4,none⟩=M (N U i2):=fun X h=>cell_keep (bt oO h (Nat.le_refl _)) z2
         have yj:∀X,Below wr.heap.size wr X→X.cell? ⟨b,o+j*2,none⟩=M (N U G):=fun X h=>cell_keep (bt oO h (Nat.le_refl _)) zj
         have v15:∀X,Below wr.heap.size wr X→X.cell? ⟨w.heap.size,15,none⟩=M (N U s.lv):=fun X h=>t15 X (bt c h (Nat.le_refl _))
         have v16:∀X,Below wr.heap.size wr X→X.cell? ⟨w.heap.size,16,none⟩=M (J (M ⟨b,o,none⟩) on oc):=fun X h=>t16 X (bt c h (Nat.le_refl _))
         have kw:Below wr.heap.size wr wr:=Below.refl _ _;have ab:Hid (∀x,s.ag[2]?=M x→x.id=i2):=fun x hx=>by rw[tI] at hx;cases hx;exact C
         have av:Hid (∀x,s.ag[s.ag.length-1]?=M x→x.id=G):=fun x hx=>by rw[HON.out,hj,WG] at hx;cases hx;exact zK
         have Vl:=hid tI;have U7:Hid (s.ag[s.ag.length-1]?=M xj):=by show _=_;rw[HON.out,hj];exact WG
         have a4:=hid jZ;have a2:Hid (s.ag.length≤16∧3≤s.ag.length):=by show _∧_;rw[HON.out];omega
         clear jZ dq z2 zj C zK tI WG t15 t16 t17 t18 hj T MG;by_cases C:i2=2
         case neg=>
          have g4:(i2 !=2)=true:=by rw[bne_iff_ne];exact C
          have HK:Hid (¬s.val):=fun h=>C (by rw[←ab.out _ Vl.out];exact h.o2 HLP.out _ Vl.out)
          clear C;go_wp2_with (go_at_call 95;(with_reducible refine HRI.out.mono ?_);rintro r w3 ⟨rfl,hb3⟩);go_ret;exact SlvPost.no HK.out (bt HBW.out hb3 (Nat.le_refl _))
         have g4:(i2 !=2)=false:=by rw[bne_eq_false_iff_eq];exact C
         have EF:Hid (∀x,s.ag[2]?=M x→x.id=2):=fun x hx=>by rw[ab.out x hx];exact C
         clear C;by_cases ht:(s.lv=1→G≤2)∧(s.lv=2→G≤127)
         case neg=>
          have HK:Hid (¬s.val):=fun h=>ht (by rw[←av.out _ U7.out];exact h.top HLP.out _ U7.out)
          have hc:(s.lv=1∧2<G)∨(s.lv=2∧127<G):=by omega
          clear ht;rcases hc with⟨c1,c2⟩|⟨c1,c2⟩
          ·have g5:(s.lv==1)=true:=b1 c1
           clear c1;go_wp2_with (go_at_call 95;(with_reducible refine HRI.out.mono ?_);rintro r w3 ⟨rfl,hb3⟩);go_ret;exact SlvPost.no HK.out (bt HBW.out hb3 (Nat.le_refl _))
          ·have g5:(s.lv==1)=false:=b0 (by omega)
           have g6:(s.lv==2)=true:=b1 c1;clear c1;go_wp2_with (go_at_call 95;(with_reducible refine HRI.out.mono ?_);rintro r w3 ⟨rfl,hb3⟩);go_ret;exact SlvPost.no HK.out (bt HBW.out hb3 (Nat.le_refl _))
         have a3:Hid (∀x,s.ag[s.ag.length-1]?=M x→(s.lv=1→x.id≤2)∧(s.lv=2→x.id≤127)):=fun x hx=>by rw[av.out x hx];exact ht
         have HALL:Hid ((∀(i:Nat) (x:Ob),s.ag[i]?=M x→x.val.length≤64)→s.val):=fun h=>by
          have hu:=HU.out;have hp:=HLP.out;exact⟨HS.out,by omega,by omega,qU.out,fun e=>by omega,Wu.out,u6.out,fun _=>a2.out,fun _=>a4.out,fun _=>EF.out,fun _=>a3.out,fun _=>h⟩
         have hc:(s.lv=1∧¬2<G)∨(s.lv=2∧¬127<G)∨s.lv=3:=by have:=HU.out;have:=HLP.out;omega
         clear ht;rcases hc with⟨c1,c2⟩|⟨c1,c2⟩|c1
         ·have g5:(s.lv==1)=true:=b1 c1
          have g6:(s.lv==2)=false:=b0 (by omega);exact F3
         ·have g5:(s.lv==1)=false:=b0 (by omega)
          have g6:(s.lv==2)=true:=b1 c1;exact F3
         ·have g5:(s.lv==1)=false:=b0 (by omega)
          have g6:(s.lv==2)=false:=b0 (by omega);exact F3
