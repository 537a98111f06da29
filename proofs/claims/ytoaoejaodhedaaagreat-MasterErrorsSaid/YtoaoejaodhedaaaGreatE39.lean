/-
 Texts 39 of the claim.
-/
import Derived.Test.YtoaoejaodhedaaaGreatE38
import Derived.Deep.CutRange
import Derived.Deep.CutBlock
namespace Go.Proofs.YtoaoejaodhedaaaGreat
open Go.RowKit
set_option maxHeartbeats 25600000
set_option maxRecDepth 100000
theorem rotF_idL (m e:Nat) (t:Nat→Kc):rotF m m e t=t:=by
 funext k
 unfold rotF
 split
 ·rfl
 ·split
  ·congr 1;omega
  ·congr 1;omega
theorem rotF_idR (s m:Nat) (t:Nat→Kc) (h:s≤m):rotF s m m t=t:=by
 funext k
 unfold rotF
 split
 ·rfl
 ·split
  ·congr 1;omega
  ·congr 1;omega
theorem ImgE.mrg {T t1:Nat→Kc} {a mid e b:Nat} (hme:mid≤e) (h:ImgE T t1 a mid) (hm:MrgP T mid e b):MrgP t1 mid e b:=
 ⟨fun i j h1 h2 h3=>by rw[h.out i (by omega),h.out j (by omega)];exact hm.l i j h1 h2 h3,fun i j h1 h2 h3=>by rw[h.out i (by omega),h.out j (by omega)];exact hm.r i j h1 h2 h3,fun i j h1 h2 h3 h4=>by rw[h.out i (by omega),h.out j (by omega)];exact hm.x i j h1 h2 h3 h4⟩
theorem symG_any (g o n N c:Nat) (t:Nat→Kc) (a m b:Nat) (ham:a+1<m) (hmb:m+1<b) (hb:b≤n) (hn:n≤100000000) (hm:MrgP t a m b) (w:World) (h:CkAt w g o n N t)
  (IH:∀(X:World) (T:Nat→Kc) (a' m' b':Nat),a'<m'→m'<b'→b'≤n→b'-a'<b-a→MrgP T a' m' b'→CkAt X g o n N T→Calls Tryz.prog 203 #[.slice (some ⟨g,o,none⟩) n c,.int .i64 (a':Int),.int .i64 (m':Int),.int .i64 (b':Int),.func (.func 160) #[] #[]] X (SmPost X g o n N T a' b')):
  Calls Tryz.prog 203 #[.slice (some ⟨g,o,none⟩) n c,.int .i64 (a:Int),.int .i64 (m:Int),.int .i64 (b:Int),.func (.func 160) #[] #[]] w (SmPost w g o n N t a b):=by
 have H:=hid h
 have HM:=hid hm
 have HIH:=hid IH
 have HB:=hid (And.intro ham (And.intro hmb (And.intro hb hn)))
 have HRT:Hid (∀(X:World) (s e:Nat),s<m→m<e→e≤n→CkAt X g o n N t→Calls Tryz.prog 220 #[.slice (some ⟨g,o,none⟩) n c,.int .i64 (s:Int),.int .i64 (m:Int),.int .i64 (e:Int),.func (.func 160) #[] #[]] X (SrPost X g o n N (rotF s m e t))):=fun X s e h1 h2 h3 h4=>rot_any g o n N c t _ s m e h1 h2 h3 hn X h4
 obtain⟨D,hD⟩:∃D:Nat,m-a=D:=⟨_,rfl⟩
 have s00:IntKind.i64.wrap ((m:Int)- (a:Int))=(D:Int):=(IntWalk.i64_in _ (by omega)).trans (by omega)
 have g00:((D:Int)==1)=false:=b0 (by omega)
 have g01:¬D=1:=by omega
 obtain⟨E,hE⟩:∃D:Nat,b-m=D:=⟨_,rfl⟩
 have s02:IntKind.i64.wrap ((b:Int)- (m:Int))=(E:Int):=(IntWalk.i64_in _ (by omega)).trans (by omega)
 have g02:((E:Int)==1)=false:=b0 (by omega)
 have g03:¬E=1:=by omega
 obtain⟨Qmid,hQmid⟩:∃Q:Nat,a+b=Q:=⟨_,rfl⟩
 have s1mid:IntKind.i64.wrap ((a:Int)+(b:Int))=(Qmid:Int):=(IntWalk.i64_in _ (by omega)).trans (by omega)
 have s2mid:IntKind.u64.wrap (Qmid:Int)=(Qmid:Int):=IntWalk.u64_in _ (by omega)
 obtain⟨mid,hhmid⟩:∃h:Nat,Qmid/2=h:=⟨_,rfl⟩
 have s3mid:(Qmid:Int)/2=(mid:Int):=by omega
 have s4mid:IntKind.i64.wrap (mid:Int)=(mid:Int):=IntWalk.i64_in _ (by omega)
 obtain⟨nn,hnn⟩:∃x:Nat,mid+m=x:=⟨_,rfl⟩
 have s05:IntKind.i64.wrap ((mid:Int)+(m:Int))=(nn:Int):=(IntWalk.i64_in _ (by omega)).trans (by omega)
 obtain⟨p,hp⟩:∃x:Nat,nn-1=x:=⟨_,rfl⟩
 have s06:IntKind.i64.wrap ((nn:Int)-1)=(p:Int):=(IntWalk.i64_in _ (by omega)).trans (by omega)
 have HMID:Hid (mid=(a+b)/2∧nn=mid+m∧p+1=nn∧a<mid∧mid<b):=by show _∧_;omega
 obtain⟨lo0,r0,hlo⟩:∃lo0 r0:Nat,(mid<m→lo0=mid+m-b∧r0=mid)∧(m≤mid→lo0=a∧r0=m):=by
  by_cases e:mid<m
  ·exact ⟨mid+m-b,mid,fun _=>⟨rfl,rfl⟩,fun h=>by omega⟩
  ·exact ⟨a,m,fun h=>absurd h e,fun _=>⟨rfl,rfl⟩⟩
 have HLO:=hid hlo
 have HLR:Hid (a≤lo0∧lo0≤r0∧r0≤m∧r0≤mid∧mid+m-lo0≤b):=by
  show _∧_
  by_cases e:mid<m
  ·obtain ⟨e1,e2⟩:=hlo.1 e;omega
  ·obtain ⟨e1,e2⟩:=hlo.2 (by omega);omega
 clear h hm IH hD hE hnn hp hQmid hhmid
 go_enter Tryz.func203,Tryz.ntmps203
 go_upto_if 140 with(fail)
 go_cut [20,21] from 140 to 146 (fun s20 s21 wc=>s20=.int .i64 (lo0:Int)∧s21=.int .i64 (r0:Int)∧wc=w)
 case first=>
  by_cases e:mid<m
  ·have q1:(mid:Int)<(m:Int):=by omega
   obtain⟨e1,e2⟩:=hlo.1 e
   have q2:IntKind.i64.wrap ((nn:Int)- (b:Int))=(lo0:Int):=(IntWalk.i64_in _ (by have:=HMID.out;have:=HB.out;omega)).trans (by have:=HMID.out;have:=HB.out;omega)
   subst e2
   clear hlo e1 ham hmb hb hn
   go_wp2
   go_meet
   case rel=>exact⟨rfl,rfl,rfl⟩
  ·have q1:¬(mid:Int)<(m:Int):=by omega
   obtain⟨e1,e2⟩:=hlo.2 (by omega)
   subst e1 e2
   clear hlo ham hmb hb hn
   go_wp2
   go_meet
   case rel=>exact⟨rfl,rfl,rfl⟩
 case rest=>
  obtain⟨rfl,rfl,hwc⟩:=hcut
  have hwc2:=hwc.symm
  subst hwc2
  go_upto_region 33 with(fail)
  go_loopw [20,21,23] (fun iv jv _ wr=>∃s r:Nat,lo0≤s∧s≤r∧r≤r0∧iv=.int .i64 (s:Int)∧jv=.int .i64 (r:Int)∧Hid (∀c,lo0≤c→c<s→(t c).key<(t (mid+m-1-c)).key)∧Hid (∀c,r≤c→c<r0→(t (mid+m-1-c)).key<(t c).key)∧Hid (CkAt wr g o n N t)∧Hid (Keeps (· =g) w wr)) (fun iv jv _ _=>(intOf jv).toNat- (intOf iv).toNat)
  case atStart=>exact⟨lo0,r0,Nat.le_refl _,HLR.out.2.1,Nat.le_refl _,rfl,rfl,fun k h1 h2=>by omega,fun k h1 h2=>by omega,H.out,Keeps.refl _ _⟩
  case round=>
   obtain⟨s,r,hls,hsr,hrr,rfl,rfl,hlo2,hhi,hck,hkp⟩:=hrel
   obtain⟨b1,b2,b3,b4⟩:=HB.out
   obtain⟨m1,m2,m3,m4,m5⟩:=HMID.out
   obtain⟨l1,l2,l3,l4,l5⟩:=HLR.out
   by_cases hlt:s<r
   ·have hil:(s:Int)<(r:Int):=by omega
    obtain⟨Qh,hQh⟩:∃Q:Nat,s+r=Q:=⟨_,rfl⟩
    have s1h:IntKind.i64.wrap ((s:Int)+(r:Int))=(Qh:Int):=(IntWalk.i64_in _ (by omega)).trans (by omega)
    have s2h:IntKind.u64.wrap (Qh:Int)=(Qh:Int):=IntWalk.u64_in _ (by omega)
    obtain⟨h,hhh⟩:∃h:Nat,Qh/2=h:=⟨_,rfl⟩
    have s3h:(Qh:Int)/2=(h:Int):=by omega
    have s4h:IntKind.i64.wrap (h:Int)=(h:Int):=IntWalk.i64_in _ (by omega)
    have s5:IntKind.i64.wrap ((h:Int)+1)=((h+1:Nat):Int):=(IntWalk.i64_in _ (by omega)).trans (by omega)
    have hh0:(0:Int)≤(h:Int):=Int.natCast_nonneg _
    have hhb:s≤h∧h<r:=by omega
    obtain⟨f,hf⟩:∃f:Nat,mid+m-1-h=f:=⟨_,rfl⟩
    have s6:IntKind.i64.wrap ((p:Int)- (h:Int))=(f:Int):=(IntWalk.i64_in _ (by omega)).trans (by omega)
    have hfb:m≤f∧f<b∧f+h=p:=by omega
    have hhn:(h:Int)<(n:Int):=by omega
    have han:(f:Int)<(n:Int):=by omega
    have ha0:(0:Int)≤(f:Int):=Int.natCast_nonneg _
    have HX:=HM.out.x h f (by omega) (by omega) (by omega) (by omega)
    have HCM:Hid (∀X,Calls Tryz.prog 160 #[.agg #[.int .i64 (t f).at_,.int .u8 (t f).val,.int .i64 (t f).fl,.int .i64 (t f).du],.agg #[.int .i64 (t h).at_,.int .u8 (t h).val,.int .i64 (t h).fl,.int .i64 (t h).du]] X (CmPost X (decide ((t f).at_<(t h).at_)))):=fun X=>ccmp_any (t f) (t h) X
    have cx0:∀X,Below wr.heap.size wr X→X.cell? ⟨g,o+f*4,none⟩=some (.int .i64 (t f).at_):=fun X hX=>cell_keep hX (hck.out.at (i:=f) (by omega)).1
    have cx1:∀X,Below wr.heap.size wr X→X.cell? ⟨g,o+f*4+1,none⟩=some (.int .u8 (t f).val):=fun X hX=>cell_keep hX (hck.out.at (i:=f) (by omega)).2.1
    have cx2:∀X,Below wr.heap.size wr X→X.cell? ⟨g,o+f*4+2,none⟩=some (.int .i64 (t f).fl):=fun X hX=>cell_keep hX (hck.out.at (i:=f) (by omega)).2.2.1
    have cx3:∀X,Below wr.heap.size wr X→X.cell? ⟨g,o+f*4+3,none⟩=some (.int .i64 (t f).du):=fun X hX=>cell_keep hX (hck.out.at (i:=f) (by omega)).2.2.2
    have cy0:∀X,Below wr.heap.size wr X→X.cell? ⟨g,o+h*4,none⟩=some (.int .i64 (t h).at_):=fun X hX=>cell_keep hX (hck.out.at (i:=h) (by omega)).1
    have cy1:∀X,Below wr.heap.size wr X→X.cell? ⟨g,o+h*4+1,none⟩=some (.int .u8 (t h).val):=fun X hX=>cell_keep hX (hck.out.at (i:=h) (by omega)).2.1
    have cy2:∀X,Below wr.heap.size wr X→X.cell? ⟨g,o+h*4+2,none⟩=some (.int .i64 (t h).fl):=fun X hX=>cell_keep hX (hck.out.at (i:=h) (by omega)).2.2.1
    have cy3:∀X,Below wr.heap.size wr X→X.cell? ⟨g,o+h*4+3,none⟩=some (.int .i64 (t h).du):=fun X hX=>cell_keep hX (hck.out.at (i:=h) (by omega)).2.2.2
    have kD:Below wr.heap.size wr wr.drew:=(Below.refl _ _).drew
    have HHB:=hid hhb
    have HFB:=hid hfb
    have HF:=hid hf
    clear hQh hhh hhb hfb hf m1 m2 m3 m4 m5 l1 l2 l3 l4 l5
    by_cases hv:(t f).at_<(t h).at_
    ·have hv2:decide ((t f).at_<(t h).at_)=true:=decide_eq_true hv
     rw[hv2] at HCM
     have HKY:=hid (HX.1.1 hv)
     clear hv hv2 HX
     go_upto_region 35 with(fail)
     refine wp_region_held_drew (S:=fun V=>Below wr.heap.size wr V) (by kernel_rfl) kD (fun hH=>?_)
     clear hH
     refine tkE 0 158 rfl rfl ?_;simp only[setS]
     refine tkE 1 159 rfl rfl ?_;simp only[setS]
     refine tkE 2 160 rfl rfl ?_;simp only[setS]
     refine tkE 3 161 rfl rfl ?_;simp only[setS]
     refine tkE 4 162 rfl rfl ?_;simp only[setS]
     refine tkE 5 163 rfl rfl ?_;simp only[setS]
     refine tkE 6 164 rfl rfl ?_;simp only[setS]
     refine tkE 7 165 rfl rfl ?_;simp only[setS]
     refine tkE 8 166 rfl rfl ?_;simp only[setS]
     refine tkE 9 167 rfl rfl ?_;simp only[setS]
     refine tkE 10 168 rfl rfl ?_;simp only[setS]
     refine rdyH 11 rfl (fun K hK=>?_);go_simp
     refine(HCM.out _).mono ?_
     rintro r w5 ⟨nn,rfl,hnn,hb5⟩
     have hB5:=bt kD hb5 (Nat.le_refl _)
     refine hK.out _ _ hB5 (fun hSx=>?_);clear hK K hSx
     have dn:decide (nn<0)=true:=hnn.out
     refine tkE 12 170 rfl rfl ?_;simp only[setS]
     refine tkE 13 171 rfl rfl ?_;simp only[setS]
     refine wpAnyH_done (by kernel_rfl) ?_ _
     clear cx0 cx1 cx2 cx3 cy0 cy1 cy2 cy3
     have HHI:Hid (∀c,h≤c→c<r0→(t (mid+m-1-c)).key<(t c).key):=fun c h1 h2=>by
      have h5:=HFB.out
      have h6:=HMID.out
      have h7:=HLR.out
      have h8:=HHB.out
      have h9:=HF.out
      have h10:=HKY.out
      by_cases e:c=h
      ·subst e
       rw[h9]
       exact h10
      ·have h3:=HM.out.l h c (by omega) (by omega) (by omega)
       have h4:=HM.out.r (mid+m-1-c) f (by omega) (by omega) (by omega)
       omega
     go_wp2
     go_roundw
     case rel=>exact⟨s,h,hls,HHB.out.1,by have:=HHB.out;omega,rfl,rfl,hlo2.out,HHI.out,hck.out.keeps (F:=fun _=>False) (Keeps.of_below hB5) (fun e=>e),hkp.out.trans (Keeps.of_below (F:=fun _=>False) hB5) (fun _ _ e=>e.elim)⟩
     case measure=>have:=HHB.out;simp [intOf];omega
    ·have hv2:decide ((t f).at_<(t h).at_)=false:=decide_eq_false hv
     rw[hv2] at HCM
     have HKY:Hid ((t h).key<(t f).key):=by
      show _<_
      have h1:=mt HX.1.2 hv
      have h2:=HX.2
      omega
     clear hv hv2 HX
     go_upto_region 35 with(fail)
     refine wp_region_held_drew (S:=fun V=>Below wr.heap.size wr V) (by kernel_rfl) kD (fun hH=>?_)
     clear hH
     refine tkE 0 158 rfl rfl ?_;simp only[setS]
     refine tkE 1 159 rfl rfl ?_;simp only[setS]
     refine tkE 2 160 rfl rfl ?_;simp only[setS]
     refine tkE 3 161 rfl rfl ?_;simp only[setS]
     refine tkE 4 162 rfl rfl ?_;simp only[setS]
     refine tkE 5 163 rfl rfl ?_;simp only[setS]
     refine tkE 6 164 rfl rfl ?_;simp only[setS]
     refine tkE 7 165 rfl rfl ?_;simp only[setS]
     refine tkE 8 166 rfl rfl ?_;simp only[setS]
     refine tkE 9 167 rfl rfl ?_;simp only[setS]
     refine tkE 10 168 rfl rfl ?_;simp only[setS]
     refine rdyH 11 rfl (fun K hK=>?_);go_simp
     refine(HCM.out _).mono ?_
     rintro r w5 ⟨nn,rfl,hnn,hb5⟩
     have hB5:=bt kD hb5 (Nat.le_refl _)
     refine hK.out _ _ hB5 (fun hSx=>?_);clear hK K hSx
     have dn:decide (nn<0)=false:=hnn.out
     refine tkE 12 170 rfl rfl ?_;simp only[setS]
     refine tkE 13 171 rfl rfl ?_;simp only[setS]
     refine wpAnyH_done (by kernel_rfl) ?_ _
     clear cx0 cx1 cx2 cx3 cy0 cy1 cy2 cy3
     have HLI:Hid (∀c,lo0≤c→c<h+1→(t c).key<(t (mid+m-1-c)).key):=fun c h1 h2=>by
      have h5:=HFB.out
      have h6:=HMID.out
      have h7:=HLR.out
      have h8:=HHB.out
      have h9:=HF.out
      have h10:=HKY.out
      by_cases e:c=h
      ·subst e
       rw[h9]
       exact h10
      ·have h3:=HM.out.l c h (by omega) (by omega) (by omega)
       have h4:=HM.out.r f (mid+m-1-c) (by omega) (by omega) (by omega)
       omega
     go_wp2
     go_roundw
     case rel=>exact⟨h+1,r,by have:=HHB.out;omega,by have:=HHB.out;omega,hrr,rfl,rfl,HLI.out,hhi.out,hck.out.keeps (F:=fun _=>False) (Keeps.of_below hB5) (fun e=>e),hkp.out.trans (Keeps.of_below (F:=fun _=>False) hB5) (fun _ _ e=>e.elim)⟩
     case measure=>have:=HHB.out;simp [intOf];omega
   ·obtain rfl:s=r:=by omega
    obtain⟨ee,hee⟩:∃e:Nat,mid+m-s=e:=⟨_,rfl⟩
    have hcp:=CutP.of HM.out m1 HLO.out hls hrr hlo2.out hhi.out
    rw[hee] at hcp
    have HCU:=hid hcp
    obtain⟨T,hT⟩:∃T,rotF s m ee t=T:=⟨_,rfl⟩
    have hhv:=CutP.halves HM.out hcp
    rw[hT] at hhv
    have HHV:=hid hhv
    have HRO:Hid (∀(X:World),s<m→m<ee→CkAt X g o n N t→Calls Tryz.prog 220 #[.slice (some ⟨g,o,none⟩) n c,.int .i64 (s:Int),.int .i64 (m:Int),.int .i64 (ee:Int),.func (.func 160) #[] #[]] X (SrPost X g o n N T)):=fun X h1 h2 h4=>by
     have:=HRT.out X s ee h1 h2 (by have:=hcp.e2;omega) h4
     rw[hT] at this
     exact this
    have HRI:Hid (¬(s<m∧m<ee)→T=t):=fun h=>by
     have q1:=hcp.s1
     have q2:=hcp.e1
     rw[←hT]
     by_cases e:s<m
     ·have:m=ee:=by omega
      rw[←this]
      exact rotF_idR s m t q1
     ·have:s=m:=by omega
      subst this
      exact rotF_idL s ee t
    have s10:IntKind.i64.wrap ((nn:Int)- (s:Int))=(ee:Int):=(IntWalk.i64_in _ (by omega)).trans (by omega)
    obtain⟨V1,hV1⟩:∃V,decide (s<m∧m<ee)=V:=⟨_,rfl⟩
    obtain⟨V2,hV2⟩:∃V,decide (a<s∧s<mid)=V:=⟨_,rfl⟩
    obtain⟨V3,hV3⟩:∃V,decide (mid<ee∧ee<b)=V:=⟨_,rfl⟩
    have HV1:=hid hV1
    have HV2:=hid hV2
    have HV3:=hid hV3
    clear hV1 hV2 hV3 hT hhv hcp hee hlt hls hsr hrr hlo2 hhi m1 m2 m3 m4 m5 l1 l2 l3 l4 l5 b1 b2 b3 b4
    go_upto_region 39 with(fail)
    obtain⟨wo,hwo⟩:∃W,W=wr:=⟨_,rfl⟩
    have HKO:Hid (Keeps (· =g) w wo):=by show Keeps _ _ _;rw[hwo];exact hkp.out
    have HCO:Hid (CkAt wo g o n N t):=by show CkAt _ _ _ _ _ _;rw[hwo];exact hck.out
    subst hwo
    clear hck hkp
    go_cut [185] from 178 to 185 (fun v wd=>v=.bool V1∧wd=wo)
    case first=>
     by_cases e1:s<m
     ·have q1:(s:Int)<(m:Int):=by omega
      by_cases e2:m<ee
      ·have q2:(m:Int)<(ee:Int):=by omega
       have e3:V1=true:=by rw[←HV1.out];exact decide_eq_true ⟨e1,e2⟩
       subst e3
       clear e1 e2
       go_wp2
       go_meet
       case rel=>exact⟨rfl,rfl⟩
      ·have q2:¬(m:Int)<(ee:Int):=by omega
       have e3:V1=false:=by rw[←HV1.out];exact decide_eq_false (fun h=>e2 h.2)
       subst e3
       clear e1 e2
       go_wp2
       go_meet
       case rel=>exact⟨rfl,rfl⟩
     ·have q1:¬(s:Int)<(m:Int):=by omega
      have e3:V1=false:=by rw[←HV1.out];exact decide_eq_false (fun h=>e1 h.1)
      subst e3
      clear e1
      go_wp2
      go_meet
      case rel=>exact⟨rfl,rfl⟩
    case rest=>
     obtain⟨rfl,rfl⟩:=hcut
     go_upto_if 185 with(fail)
     go_cut [] from 185 to 191 (fun we=>Hid (CkAt we g o n N T∧Keeps (· =g) w we))
     case first=>
      cases V1 with
      |true=>
       have hd:=of_decide_eq_true HV1.out
       have HC:=hid (HRO.out _ hd.1 hd.2 HCO.out)
       clear hd
       go_wp2_with (go_at_call 220;(with_reducible refine HC.out.mono ?_);rintro r w2 ⟨rfl,hck2,hkp2⟩;have HCK:=hid hck2;have HKP:=hid hkp2;clear hck2 hkp2)
       go_meet
       case rel=>exact⟨HCK.out,HKO.out.trans HKP.out (fun _ _ e=>e)⟩
      |false=>
       go_wp2
       go_meet
       case rel=>exact⟨by rw[HRI.out (of_decide_eq_false HV1.out)];exact HCO.out,HKO.out⟩
     case rest=>
      have HQ1:=hid hcut.out
      clear hcut HKO HCO HRO HRI HRT
      obtain⟨wp1,hwp1⟩:∃W,W=wc:=⟨_,rfl⟩
      have HA1:Hid (CkAt wp1 g o n N T):=by show CkAt _ _ _ _ _ _;rw[hwp1];exact HQ1.out.1
      have HK1:Hid (Keeps (· =g) w wp1):=by show Keeps _ _ _;rw[hwp1];exact HQ1.out.2
      clear HQ1
      subst hwp1
      go_upto_region 41 with(fail)
      go_cut [199] from 192 to 199 (fun v wd=>v=.bool V2∧wd=wp1)
      case first=>
       by_cases e1:a<s
       ·have q1:(a:Int)<(s:Int):=by omega
        by_cases e2:s<mid
        ·have q2:(s:Int)<(mid:Int):=by omega
         have e3:V2=true:=by rw[←HV2.out];exact decide_eq_true ⟨e1,e2⟩
         subst e3
         clear e1 e2
         go_wp2
         go_meet
         case rel=>exact⟨rfl,rfl⟩
        ·have q2:¬(s:Int)<(mid:Int):=by omega
         have e3:V2=false:=by rw[←HV2.out];exact decide_eq_false (fun h=>e2 h.2)
         subst e3
         clear e1 e2
         go_wp2
         go_meet
         case rel=>exact⟨rfl,rfl⟩
       ·have q1:¬(a:Int)<(s:Int):=by omega
        have e3:V2=false:=by rw[←HV2.out];exact decide_eq_false (fun h=>e1 h.1)
        subst e3
        clear e1
        go_wp2
        go_meet
        case rel=>exact⟨rfl,rfl⟩
      case rest=>
       obtain⟨rfl,hwd⟩:=hcut
       have hwd2:=hwd.symm
       subst hwd2
       go_upto_if 199 with(fail)
       go_cut [] from 199 to 205 (fun we=>Hid (∃t1,SrtK t1 a mid∧ImgE T t1 a mid∧CkAt we g o n N t1∧Keeps (· =g) w we))
       case first=>
        cases V2 with
        |true=>
         have hd:=of_decide_eq_true HV2.out
         have hb:=HB.out
         have hmd:=HMID.out
         have HC:=hid (HIH.out _ T a s mid hd.1 hd.2 (by omega) (by omega) HHV.out.1 HA1.out)
         clear hd hb hmd
         go_wp2_with (go_at_call 203;(with_reducible refine HC.out.mono ?_);rintro r w2 ⟨t1,rfl,hs1,hi1,hck2,hkp2⟩;have HS1:=hid hs1;have HI1:=hid hi1;have HCK:=hid hck2;have HKP:=hid hkp2;clear hs1 hi1 hck2 hkp2)
         go_meet
         case rel=>exact⟨t1,HS1.out,HI1.out,HCK.out,HK1.out.trans HKP.out (fun _ _ e=>e)⟩
        |false=>
         have HS1:Hid (SrtK T a mid):=by
          have hd:=of_decide_eq_false HV2.out
          have hc:=HCU.out
          have h1:=hc.s0
          have h2:=hc.s2
          by_cases e:a<s
          ·have e2:s=mid:=by omega
           have:=HHV.out.1.l
           rw[e2] at this
           exact this
          ·have e2:s=a:=by omega
           have:=HHV.out.1.r
           rw[e2] at this
           exact this
         go_wp2
         go_meet
         case rel=>exact⟨T,HS1.out,ImgE.refl _ _ _,HA1.out,HK1.out⟩
       case rest=>
        have HQ2:=hid hcut.out
        clear hcut HA1 HK1
        obtain⟨wp2,hwp2⟩:∃W,W=wc:=⟨_,rfl⟩
        rw[←hwp2] at HQ2
        subst hwp2
        obtain⟨t1,hs1,hi1,hk1,hkk⟩:=HQ2.out
        have HS1:=hid hs1
        have HI1:=hid hi1
        have HA2:=hid hk1
        have HK2:=hid hkk
        have HM2:=hid (ImgE.mrg HCU.out.e0 hi1 HHV.out.2.1)
        clear HQ2 hs1 hi1 hk1 hkk
        go_upto_region 43 with(fail)
        go_cut [213] from 206 to 213 (fun v wd=>v=.bool V3∧wd=wp2)
        case first=>
         by_cases e1:mid<ee
         ·have q1:(mid:Int)<(ee:Int):=by omega
          by_cases e2:ee<b
          ·have q2:(ee:Int)<(b:Int):=by omega
           have e3:V3=true:=by rw[←HV3.out];exact decide_eq_true ⟨e1,e2⟩
           subst e3
           clear e1 e2
           go_wp2
           go_meet
           case rel=>exact⟨rfl,rfl⟩
          ·have q2:¬(ee:Int)<(b:Int):=by omega
           have e3:V3=false:=by rw[←HV3.out];exact decide_eq_false (fun h=>e2 h.2)
           subst e3
           clear e1 e2
           go_wp2
           go_meet
           case rel=>exact⟨rfl,rfl⟩
         ·have q1:¬(mid:Int)<(ee:Int):=by omega
          have e3:V3=false:=by rw[←HV3.out];exact decide_eq_false (fun h=>e1 h.1)
          subst e3
          clear e1
          go_wp2
          go_meet
          case rel=>exact⟨rfl,rfl⟩
        case rest=>
         obtain⟨rfl,hwd⟩:=hcut
         have hwd2:=hwd.symm
         subst hwd2
         go_upto_if 213 with(fail)
         cases V3 with
         |true=>
          have hd:=of_decide_eq_true HV3.out
          have hb:=HB.out
          have hmd:=HMID.out
          have HC:=hid (HIH.out _ t1 mid ee b hd.1 hd.2 (by omega) (by omega) HM2.out HA2.out)
          clear hd hb hmd
          go_wp2_with (go_at_call 203;(with_reducible refine HC.out.mono ?_);rintro r w2 ⟨t2,rfl,hs2,hi2,hck2,hkp2⟩;have HS2:=hid hs2;have HI2:=hid hi2;have HCK:=hid hck2;have HKP:=hid hkp2;clear hs2 hi2 hck2 hkp2)
          go_end0
          have hmd:=HMID.out
          obtain⟨j1,j2⟩:=merge_join (by omega) (by omega) HHV.out.2.2.1 HI1.out HI2.out HS1.out HS2.out
          exact⟨t2,rfl,j1,HHV.out.2.2.2.trans j2,HCK.out,HK2.out.trans HKP.out (fun _ _ e=>e)⟩
         |false=>
          have HS2:Hid (SrtK t1 mid b):=by
           have hd:=of_decide_eq_false HV3.out
           have hc:=HCU.out
           have h1:=hc.e0
           have h2:=hc.e2
           by_cases e:mid<ee
           ·have e2:ee=b:=by omega
            have:=HM2.out.l
            rw[e2] at this
            exact this
           ·have e2:ee=mid:=by omega
            have:=HM2.out.r
            rw[e2] at this
            exact this
          go_wp2
          go_end0
          have hmd:=HMID.out
          obtain⟨j1,j2⟩:=merge_join (by omega) (by omega) HHV.out.2.2.1 HI1.out (ImgE.refl _ _ _) HS1.out HS2.out
          exact⟨t1,rfl,j1,HHV.out.2.2.2.trans j2,HA2.out,HK2.out⟩
theorem sym_any (g o n N c:Nat) (hn:n≤100000000):∀(d:Nat) (t:Nat→Kc) (a m b:Nat),b-a≤d→a<m→m<b→b≤n→MrgP t a m b→∀w,CkAt w g o n N t→
  Calls Tryz.prog 203 #[.slice (some ⟨g,o,none⟩) n c,.int .i64 (a:Int),.int .i64 (m:Int),.int .i64 (b:Int),.func (.func 160) #[] #[]] w (SmPost w g o n N t a b):=by
 intro d
 induction d with
 |zero=>intro t a m b h1 h2 h3;omega
 |succ d ih=>
  intro t a m b h1 h2 h3 h4 hm w h
  by_cases e1:m=a+1
  ·subst e1
   exact symL_any g o n N c t a b h3 h4 hn hm w h
  ·by_cases e2:b=m+1
   ·subst e2
    exact symR_any g o n N c t a m (by omega) h4 hn hm w h
   ·exact symG_any g o n N c t a m b (by omega) (by omega) h4 hn hm w h (fun X T a' m' b' q1 q2 q3 q4 q5 q6=>ih T a' m' b' (by omega) q1 q2 q3 q5 X q6)
end Go.Proofs.YtoaoejaodhedaaaGreat
