/-
 Texts 38 of the claim.
-/
import Derived.Test.YtoaoejaodhedaaaGreatE37
namespace Go.Proofs.YtoaoejaodhedaaaGreat
open Go.RowKit
set_option maxHeartbeats 12800000
set_option maxRecDepth 100000
def SmPost (w:World) (g o n N:Nat) (t:Nat→Kc) (a b:Nat) (r:Ending) (w':World):Prop:=∃t',r=.returned (.tuple #[])∧SrtK t' a b∧ImgE t t' a b∧CkAt w' g o n N t'∧Keeps (· =g) w w'
theorem z37_1 {p:Prop} (h:p:=by
 go_region
 go_wp2
 go_roundw
 case rel=>exact⟨p,by have:=HP.out;omega,by have:=HP.out;omega,rfl,HSW.out.keeps (F:=fun _=>False) (Keeps.of_below (Below.refl _ _).drew) (fun e=>e),HKS.out.trans (Keeps.of_below (F:=fun _=>False) (Below.refl _ _).drew) (fun _ _ e=>e.elim)⟩
 case measure=>have:=HP.out;simp [intOf];omega):p:=h
theorem z37_2 {p:Prop} (h:p:=by
 go_wp2
 go_roundw
 case rel=>exact⟨h+1,j,by have:=HHB.out;omega,by have:=HHB.out;omega,hjb,rfl,rfl,HLO.out,hhi.out,hck.out.keeps (F:=fun _=>False) (Keeps.of_below hB5) (fun e=>e),hkp.out.trans (Keeps.of_below (F:=fun _=>False) hB5) (fun _ _ e=>e.elim)⟩
 case measure=>have:=HHB.out;simp [intOf];omega):p:=h
theorem z37_3 {p:Prop} (h:p:=by
 go_wp2
 go_roundw
 case rel=>exact⟨i,h,him,HHB.out.1,by have:=HHB.out;omega,rfl,rfl,hlo.out,HHI.out,hck.out.keeps (F:=fun _=>False) (Keeps.of_below hB5) (fun e=>e),hkp.out.trans (Keeps.of_below (F:=fun _=>False) hB5) (fun _ _ e=>e.elim)⟩
 case measure=>have:=HHB.out;simp [intOf];omega):p:=h
theorem symL_any (g o n N c:Nat) (t:Nat→Kc) (a b:Nat) (hab:a+1<b) (hb:b≤n) (hn:n≤100000000) (hm:MrgP t a (a+1) b) (w:World) (h:CkAt w g o n N t):
  Calls Tryz.prog 203 #[.slice (some ⟨g,o,none⟩) n c,.int .i64 (a:Int),.int .i64 ((a+1:Nat):Int),.int .i64 (b:Int),.func (.func 160) #[] #[]] w (SmPost w g o n N t a b):=by
 have H:=hid h
 have HM:=hid hm
 obtain⟨m,hma⟩:∃m,a+1=m:=⟨_,rfl⟩
 have HB:=hid (And.intro hab (And.intro hb (And.intro hn hma)))
 rw[hma]
 have s0:IntKind.i64.wrap ((m:Int)- (a:Int))=1:=(IntWalk.i64_in _ (by omega)).trans (by omega)
 clear h hm hab hb hn hma
 go_enter Tryz.func203,Tryz.ntmps203
 go_upto_region 3 with(fail)
 go_loopw [10,11,12] (fun iv jv _ wr=>∃i j:Nat,m≤i∧i≤j∧j≤b∧iv=.int .i64 (i:Int)∧jv=.int .i64 (j:Int)∧Hid (∀k,m≤k→k<i→(t k).key<(t a).key)∧Hid (∀k,j≤k→k<b→(t a).key<(t k).key)∧Hid (CkAt wr g o n N t)∧Hid (Keeps (· =g) w wr)) (fun iv jv _ _=>(intOf jv).toNat- (intOf iv).toNat)
 case atStart=>exact⟨m,b,Nat.le_refl _,by have:=HB.out;omega,Nat.le_refl _,rfl,rfl,fun k h1 h2=>by omega,fun k h1 h2=>by omega,H.out,Keeps.refl _ _⟩
 case round=>
  obtain⟨i,j,him,hij,hjb,rfl,rfl,hlo,hhi,hck,hkp⟩:=hrel
  obtain⟨b1,b2,b3,b4⟩:=HB.out
  by_cases hlt:i<j
  ·have hil:(i:Int)<(j:Int):=by omega
   obtain⟨Q,hQ⟩:∃Q:Nat,i+j=Q:=⟨_,rfl⟩
   have s1:IntKind.i64.wrap ((i:Int)+(j:Int))=(Q:Int):=(IntWalk.i64_in _ (by omega)).trans (by omega)
   have s2:IntKind.u64.wrap (Q:Int)=(Q:Int):=IntWalk.u64_in _ (by omega)
   obtain⟨h,hh⟩:∃h:Nat,Q/2=h:=⟨_,rfl⟩
   have s3:(Q:Int)/2=(h:Int):=by omega
   have s4:IntKind.i64.wrap (h:Int)=(h:Int):=IntWalk.i64_in _ (by omega)
   have s5:IntKind.i64.wrap ((h:Int)+1)=((h+1:Nat):Int):=(IntWalk.i64_in _ (by omega)).trans (by omega)
   have hh0:(0:Int)≤(h:Int):=Int.natCast_nonneg _
   have hhb:i≤h∧h<j:=by omega
   have hhn:(h:Int)<(n:Int):=by omega
   have han:(a:Int)<(n:Int):=by omega
   have ha0:(0:Int)≤(a:Int):=Int.natCast_nonneg _
   have HX:=HM.out.x a h (Nat.le_refl _) (by omega) (by omega) (by omega)
   have HCM:Hid (∀X,Calls Tryz.prog 160 #[.agg #[.int .i64 (t h).at_,.int .u8 (t h).val,.int .i64 (t h).fl,.int .i64 (t h).du],.agg #[.int .i64 (t a).at_,.int .u8 (t a).val,.int .i64 (t a).fl,.int .i64 (t a).du]] X (CmPost X (decide ((t h).at_<(t a).at_)))):=fun X=>ccmp_any (t h) (t a) X
   have cx0:∀X,Below wr.heap.size wr X→X.cell? ⟨g,o+h*4,none⟩=some (.int .i64 (t h).at_):=fun X hX=>cell_keep hX (hck.out.at (i:=h) (by omega)).1
   have cx1:∀X,Below wr.heap.size wr X→X.cell? ⟨g,o+h*4+1,none⟩=some (.int .u8 (t h).val):=fun X hX=>cell_keep hX (hck.out.at (i:=h) (by omega)).2.1
   have cx2:∀X,Below wr.heap.size wr X→X.cell? ⟨g,o+h*4+2,none⟩=some (.int .i64 (t h).fl):=fun X hX=>cell_keep hX (hck.out.at (i:=h) (by omega)).2.2.1
   have cx3:∀X,Below wr.heap.size wr X→X.cell? ⟨g,o+h*4+3,none⟩=some (.int .i64 (t h).du):=fun X hX=>cell_keep hX (hck.out.at (i:=h) (by omega)).2.2.2
   have cy0:∀X,Below wr.heap.size wr X→X.cell? ⟨g,o+a*4,none⟩=some (.int .i64 (t a).at_):=fun X hX=>cell_keep hX (hck.out.at (i:=a) (by omega)).1
   have cy1:∀X,Below wr.heap.size wr X→X.cell? ⟨g,o+a*4+1,none⟩=some (.int .u8 (t a).val):=fun X hX=>cell_keep hX (hck.out.at (i:=a) (by omega)).2.1
   have cy2:∀X,Below wr.heap.size wr X→X.cell? ⟨g,o+a*4+2,none⟩=some (.int .i64 (t a).fl):=fun X hX=>cell_keep hX (hck.out.at (i:=a) (by omega)).2.2.1
   have cy3:∀X,Below wr.heap.size wr X→X.cell? ⟨g,o+a*4+3,none⟩=some (.int .i64 (t a).du):=fun X hX=>cell_keep hX (hck.out.at (i:=a) (by omega)).2.2.2
   have kD:Below wr.heap.size wr wr.drew:=(Below.refl _ _).drew
   have HHB:=hid hhb
   clear hQ hh hhb
   by_cases hv:(t h).at_<(t a).at_
   ·have hv2:decide ((t h).at_<(t a).at_)=true:=decide_eq_true hv
    rw[hv2] at HCM
    have HKY:=hid (HX.1.1 hv)
    clear hv hv2 HX
    go_upto_region 5 with(fail)
    refine wp_region_held_drew (S:=fun V=>Below wr.heap.size wr V) (by kernel_rfl) kD (fun hH=>?_)
    clear hH
    refine tkE 0 40 rfl rfl ?_;simp only[setS]
    refine tkE 1 41 rfl rfl ?_;simp only[setS]
    refine tkE 2 42 rfl rfl ?_;simp only[setS]
    refine tkE 3 43 rfl rfl ?_;simp only[setS]
    refine tkE 4 44 rfl rfl ?_;simp only[setS]
    refine tkE 5 45 rfl rfl ?_;simp only[setS]
    refine tkE 6 46 rfl rfl ?_;simp only[setS]
    refine tkE 7 47 rfl rfl ?_;simp only[setS]
    refine tkE 8 48 rfl rfl ?_;simp only[setS]
    refine rdyH 9 rfl (fun K hK=>?_);go_simp
    refine(HCM.out _).mono ?_
    rintro r w5 ⟨nn,rfl,hnn,hb5⟩
    have hB5:=bt kD hb5 (Nat.le_refl _)
    refine hK.out _ _ hB5 (fun hSx=>?_);clear hK K hSx
    have dn:decide (nn<0)=true:=hnn.out
    refine tkE 10 50 rfl rfl ?_;simp only[setS]
    refine wpAnyH_done (by kernel_rfl) ?_ _
    clear cx0 cx1 cx2 cx3 cy0 cy1 cy2 cy3
    have HLO:Hid (∀k,m≤k→k<h+1→(t k).key<(t a).key):=fun k h1 h2=>by
     by_cases e:k=h
     ·subst e
      exact HKY.out
     ·have:=HM.out.r k h (by omega) (by omega) (by have:=HHB.out;omega)
      have:=HKY.out
      omega
    exact z37_2
   ·have hv2:decide ((t h).at_<(t a).at_)=false:=decide_eq_false hv
    rw[hv2] at HCM
    have HKY:Hid ((t a).key<(t h).key):=by
     show _<_
     have h1:=mt HX.1.2 hv
     have h2:=HX.2
     omega
    clear hv hv2 HX
    go_upto_region 5 with(fail)
    refine wp_region_held_drew (S:=fun V=>Below wr.heap.size wr V) (by kernel_rfl) kD (fun hH=>?_)
    clear hH
    refine tkE 0 40 rfl rfl ?_;simp only[setS]
    refine tkE 1 41 rfl rfl ?_;simp only[setS]
    refine tkE 2 42 rfl rfl ?_;simp only[setS]
    refine tkE 3 43 rfl rfl ?_;simp only[setS]
    refine tkE 4 44 rfl rfl ?_;simp only[setS]
    refine tkE 5 45 rfl rfl ?_;simp only[setS]
    refine tkE 6 46 rfl rfl ?_;simp only[setS]
    refine tkE 7 47 rfl rfl ?_;simp only[setS]
    refine tkE 8 48 rfl rfl ?_;simp only[setS]
    refine rdyH 9 rfl (fun K hK=>?_);go_simp
    refine(HCM.out _).mono ?_
    rintro r w5 ⟨nn,rfl,hnn,hb5⟩
    have hB5:=bt kD hb5 (Nat.le_refl _)
    refine hK.out _ _ hB5 (fun hSx=>?_);clear hK K hSx
    have dn:decide (nn<0)=false:=hnn.out
    refine tkE 10 50 rfl rfl ?_;simp only[setS]
    refine wpAnyH_done (by kernel_rfl) ?_ _
    clear cx0 cx1 cx2 cx3 cy0 cy1 cy2 cy3
    have HHI:Hid (∀k,h≤k→k<b→(t a).key<(t k).key):=fun k h1 h2=>by
     by_cases e:k=h
     ·subst e
      exact HKY.out
     ·have:=HM.out.r h k (by have:=HHB.out;omega) (by omega) h2
      have:=HKY.out
      omega
    exact z37_3
  ·obtain rfl:i=j:=by omega
   have HFIN:Hid (SrtK (insL a i t) a b∧ImgE t (insL a i t) a b):=merge_oneL HM.out (by omega) hjb (fun k h1 h2=>hlo.out k (by omega) h2) hhi.out
   obtain⟨L,hL⟩:∃L:Nat,i-1=L:=⟨_,rfl⟩
   have s7:IntKind.i64.wrap ((i:Int)-1)=(L:Int):=(IntWalk.i64_in _ (by omega)).trans (by omega)
   have HLL:Hid (L+1=i∧a≤L∧i≤b∧b≤n∧n≤100000000):=by show _∧_;omega
   clear hL
   go_upto_region 9 with(fail)
   obtain⟨wo,hwo⟩:∃W,W=wr:=⟨_,rfl⟩
   have HKO:Hid (Keeps (· =g) w wo):=by show Keeps _ _ _;rw[hwo];exact hkp.out
   have HCO:Hid (CkAt wo g o n N t):=by show CkAt _ _ _ _ _ _;rw[hwo];exact hck.out
   subst hwo
   go_loopw [13] (fun kv wi=>∃k:Nat,a≤k∧k≤L∧kv=.int .i64 (k:Int)∧Hid (CkAt wi g o n N (insL a (k+1) t))∧Hid (Keeps (· =g) w wi)) (fun kv _=>L- (intOf kv).toNat)
   case atStart=>exact⟨a,Nat.le_refl _,HLL.out.2.1,rfl,by rw[insL_self];exact HCO.out,HKO.out⟩
   case round=>
    obtain⟨k,hak,hkL,rfl,hck2,hkp2⟩:=hrel
    obtain⟨l1,l2,l3,l4,l5⟩:=HLL.out
    by_cases hlt2:k<L
    ·have hkl:(k:Int)<(L:Int):=by omega
     obtain⟨p,hp⟩:∃p:Nat,k+1=p:=⟨_,rfl⟩
     have s8:IntKind.i64.wrap ((k:Int)+1)=(p:Int):=(IntWalk.i64_in _ (by omega)).trans (by omega)
     have hk0:(0:Int)≤(k:Int):=Int.natCast_nonneg _
     have hp0:(0:Int)≤(p:Int):=Int.natCast_nonneg _
     have hkn:(k:Int)<(n:Int):=by omega
     have hpn:(p:Int)<(n:Int):=by omega
     obtain⟨U,hU⟩:∃U,insL a (k+1) t=U:=⟨_,rfl⟩
     rw[hU] at hck2
     have hsw:=(hck2.out.put (j:=k) (by omega) (U p)).put (j:=p) (by omega) (U k)
     have hst:(fun x=>if x=p then U k else (fun x=>if x=k then U p else U x) x)=insL a (p+1) t:=by
      rw[show p+1=k+2 by omega,←insL_step (a:=a) (k:=k) t hak,hU,←hp]
      funext x
      by_cases e1:x=k
      ·subst e1
       rw[if_neg (by omega)]
       dsimp only
       rw[if_pos rfl,if_pos rfl]
      ·by_cases e2:x=k+1
       ·rw [if_pos e2,if_neg e1,if_pos e2]
       ·rw [if_neg e2]
        dsimp only
        rw[if_neg e1,if_neg e1,if_neg e2]
     rw[hst] at hsw
     have hks:Keeps (· =g) w _:=hkp2.out.trans (ks1 (ks1 (ks1 (ks1 (ks1 (ks1 (ks1 (ks1 (Keeps.refl (· =g) wr) (o+k*4) (.int .i64 (U p).at_)) (o+k*4+1) (.int .u8 (U p).val)) (o+k*4+2) (.int .i64 (U p).fl)) (o+k*4+3) (.int .i64 (U p).du)) (o+p*4) (.int .i64 (U k).at_)) (o+p*4+1) (.int .u8 (U k).val)) (o+p*4+2) (.int .i64 (U k).fl)) (o+p*4+3) (.int .i64 (U k).du)) (fun _ _ e=>e)
     have HSW:=hid hsw
     have HKS:=hid hks
     obtain⟨x0,x1,x2,x3⟩:=hck2.out.at (i:=k) (by omega)
     obtain⟨y0,y1,y2,y3⟩:=hck2.out.at (i:=p) (by omega)
     have f0:=hck2.out.free (o+k*4)
     have f1:=hck2.out.free (o+k*4+1)
     have f2:=hck2.out.free (o+k*4+2)
     have f3:=hck2.out.free (o+k*4+3)
     have f4:=hck2.out.free (o+p*4)
     have f5:=hck2.out.free (o+p*4+1)
     have f6:=hck2.out.free (o+p*4+2)
     have f7:=hck2.out.free (o+p*4+3)
     have hPJ:k<p:=by omega
     have HP:=hid hp
     clear hsw hks hst hp hU
     go_upto_region 11 with(fail)
     exact z37_1
    ·obtain rfl:k=L:=by omega
     go_wp2
     go_end0
     exact⟨insL a i t,rfl,HFIN.out.1,HFIN.out.2,by rw[←l1];exact hck2.out,hkp2.out⟩
theorem symR_any (g o n N c:Nat) (t:Nat→Kc) (a m:Nat) (ham:a+1<m) (hb:m+1≤n) (hn:n≤100000000) (hm:MrgP t a m (m+1)) (w:World) (h:CkAt w g o n N t):
  Calls Tryz.prog 203 #[.slice (some ⟨g,o,none⟩) n c,.int .i64 (a:Int),.int .i64 (m:Int),.int .i64 ((m+1:Nat):Int),.func (.func 160) #[] #[]] w (SmPost w g o n N t a (m+1)):=by
 have H:=hid h
 have HM:=hid hm
 obtain⟨b,hma⟩:∃b,m+1=b:=⟨_,rfl⟩
 have HB:=hid (And.intro ham (And.intro hb (And.intro hn hma)))
 rw[hma]
 obtain⟨D,hD⟩:∃D:Nat,m-a=D:=⟨_,rfl⟩
 have s00:IntKind.i64.wrap ((m:Int)- (a:Int))=(D:Int):=(IntWalk.i64_in _ (by omega)).trans (by omega)
 have g00:((D:Int)==1)=false:=b0 (by omega)
 have g01:¬D=1:=by omega
 have s0:IntKind.i64.wrap ((b:Int)- (m:Int))=1:=(IntWalk.i64_in _ (by omega)).trans (by omega)
 clear h hm ham hb hn hma hD
 go_enter Tryz.func203,Tryz.ntmps203
 go_upto_region 15 with(fail)
 go_loopw [14,15,16] (fun iv jv _ wr=>∃i j:Nat,a≤i∧i≤j∧j≤m∧iv=.int .i64 (i:Int)∧jv=.int .i64 (j:Int)∧Hid (∀k,a≤k→k<i→(t k).key<(t m).key)∧Hid (∀k,j≤k→k<m→(t m).key<(t k).key)∧Hid (CkAt wr g o n N t)∧Hid (Keeps (· =g) w wr)) (fun iv jv _ _=>(intOf jv).toNat- (intOf iv).toNat)
 case atStart=>exact⟨a,m,Nat.le_refl _,by have:=HB.out;omega,Nat.le_refl _,rfl,rfl,fun k h1 h2=>by omega,fun k h1 h2=>by omega,H.out,Keeps.refl _ _⟩
 case round=>
  obtain⟨i,j,him,hij,hjb,rfl,rfl,hlo,hhi,hck,hkp⟩:=hrel
  obtain⟨b1,b2,b3,b4⟩:=HB.out
  by_cases hlt:i<j
  ·have hil:(i:Int)<(j:Int):=by omega
   obtain⟨Q,hQ⟩:∃Q:Nat,i+j=Q:=⟨_,rfl⟩
   have s1:IntKind.i64.wrap ((i:Int)+(j:Int))=(Q:Int):=(IntWalk.i64_in _ (by omega)).trans (by omega)
   have s2:IntKind.u64.wrap (Q:Int)=(Q:Int):=IntWalk.u64_in _ (by omega)
   obtain⟨h,hh⟩:∃h:Nat,Q/2=h:=⟨_,rfl⟩
   have s3:(Q:Int)/2=(h:Int):=by omega
   have s4:IntKind.i64.wrap (h:Int)=(h:Int):=IntWalk.i64_in _ (by omega)
   have s5:IntKind.i64.wrap ((h:Int)+1)=((h+1:Nat):Int):=(IntWalk.i64_in _ (by omega)).trans (by omega)
   have hh0:(0:Int)≤(h:Int):=Int.natCast_nonneg _
   have hhb:i≤h∧h<j:=by omega
   have hhn:(h:Int)<(n:Int):=by omega
   have han:(m:Int)<(n:Int):=by omega
   have ha0:(0:Int)≤(m:Int):=Int.natCast_nonneg _
   have HX:=HM.out.x h m (by omega) (by omega) (Nat.le_refl _) (by omega)
   have HCM:Hid (∀X,Calls Tryz.prog 160 #[.agg #[.int .i64 (t m).at_,.int .u8 (t m).val,.int .i64 (t m).fl,.int .i64 (t m).du],.agg #[.int .i64 (t h).at_,.int .u8 (t h).val,.int .i64 (t h).fl,.int .i64 (t h).du]] X (CmPost X (decide ((t m).at_<(t h).at_)))):=fun X=>ccmp_any (t m) (t h) X
   have cx0:∀X,Below wr.heap.size wr X→X.cell? ⟨g,o+m*4,none⟩=some (.int .i64 (t m).at_):=fun X hX=>cell_keep hX (hck.out.at (i:=m) (by omega)).1
   have cx1:∀X,Below wr.heap.size wr X→X.cell? ⟨g,o+m*4+1,none⟩=some (.int .u8 (t m).val):=fun X hX=>cell_keep hX (hck.out.at (i:=m) (by omega)).2.1
   have cx2:∀X,Below wr.heap.size wr X→X.cell? ⟨g,o+m*4+2,none⟩=some (.int .i64 (t m).fl):=fun X hX=>cell_keep hX (hck.out.at (i:=m) (by omega)).2.2.1
   have cx3:∀X,Below wr.heap.size wr X→X.cell? ⟨g,o+m*4+3,none⟩=some (.int .i64 (t m).du):=fun X hX=>cell_keep hX (hck.out.at (i:=m) (by omega)).2.2.2
   have cy0:∀X,Below wr.heap.size wr X→X.cell? ⟨g,o+h*4,none⟩=some (.int .i64 (t h).at_):=fun X hX=>cell_keep hX (hck.out.at (i:=h) (by omega)).1
   have cy1:∀X,Below wr.heap.size wr X→X.cell? ⟨g,o+h*4+1,none⟩=some (.int .u8 (t h).val):=fun X hX=>cell_keep hX (hck.out.at (i:=h) (by omega)).2.1
   have cy2:∀X,Below wr.heap.size wr X→X.cell? ⟨g,o+h*4+2,none⟩=some (.int .i64 (t h).fl):=fun X hX=>cell_keep hX (hck.out.at (i:=h) (by omega)).2.2.1
   have cy3:∀X,Below wr.heap.size wr X→X.cell? ⟨g,o+h*4+3,none⟩=some (.int .i64 (t h).du):=fun X hX=>cell_keep hX (hck.out.at (i:=h) (by omega)).2.2.2
   have kD:Below wr.heap.size wr wr.drew:=(Below.refl _ _).drew
   have HHB:=hid hhb
   clear hQ hh hhb
   by_cases hv:(t m).at_<(t h).at_
   ·have hv2:decide ((t m).at_<(t h).at_)=true:=decide_eq_true hv
    rw[hv2] at HCM
    have HKY:=hid (HX.1.1 hv)
    clear hv hv2 HX
    go_upto_region 17 with(fail)
    refine wp_region_held_drew (S:=fun V=>Below wr.heap.size wr V) (by kernel_rfl) kD (fun hH=>?_)
    clear hH
    refine tkE 0 92 rfl rfl ?_;simp only[setS]
    refine tkE 1 93 rfl rfl ?_;simp only[setS]
    refine tkE 2 94 rfl rfl ?_;simp only[setS]
    refine tkE 3 95 rfl rfl ?_;simp only[setS]
    refine tkE 4 96 rfl rfl ?_;simp only[setS]
    refine tkE 5 97 rfl rfl ?_;simp only[setS]
    refine tkE 6 98 rfl rfl ?_;simp only[setS]
    refine tkE 7 99 rfl rfl ?_;simp only[setS]
    refine tkE 8 100 rfl rfl ?_;simp only[setS]
    refine rdyH 9 rfl (fun K hK=>?_);go_simp
    refine(HCM.out _).mono ?_
    rintro r w5 ⟨nn,rfl,hnn,hb5⟩
    have hB5:=bt kD hb5 (Nat.le_refl _)
    refine hK.out _ _ hB5 (fun hSx=>?_);clear hK K hSx
    have dn:decide (nn<0)=true:=hnn.out
    refine tkE 10 102 rfl rfl ?_;simp only[setS]
    refine tkE 11 103 rfl rfl ?_;simp only[setS]
    refine wpAnyH_done (by kernel_rfl) ?_ _
    clear cx0 cx1 cx2 cx3 cy0 cy1 cy2 cy3
    have HHI:Hid (∀k,h≤k→k<m→(t m).key<(t k).key):=fun k h1 h2=>by
     by_cases e:k=h
     ·subst e
      exact HKY.out
     ·have:=HM.out.l h k (by have:=HHB.out;omega) (by omega) h2
      have:=HKY.out
      omega
    exact z37_3
   ·have hv2:decide ((t m).at_<(t h).at_)=false:=decide_eq_false hv
    rw[hv2] at HCM
    have HKY:Hid ((t h).key<(t m).key):=by
     show _<_
     have h1:=mt HX.1.2 hv
     have h2:=HX.2
     omega
    clear hv hv2 HX
    go_upto_region 17 with(fail)
    refine wp_region_held_drew (S:=fun V=>Below wr.heap.size wr V) (by kernel_rfl) kD (fun hH=>?_)
    clear hH
    refine tkE 0 92 rfl rfl ?_;simp only[setS]
    refine tkE 1 93 rfl rfl ?_;simp only[setS]
    refine tkE 2 94 rfl rfl ?_;simp only[setS]
    refine tkE 3 95 rfl rfl ?_;simp only[setS]
    refine tkE 4 96 rfl rfl ?_;simp only[setS]
    refine tkE 5 97 rfl rfl ?_;simp only[setS]
    refine tkE 6 98 rfl rfl ?_;simp only[setS]
    refine tkE 7 99 rfl rfl ?_;simp only[setS]
    refine tkE 8 100 rfl rfl ?_;simp only[setS]
    refine rdyH 9 rfl (fun K hK=>?_);go_simp
    refine(HCM.out _).mono ?_
    rintro r w5 ⟨nn,rfl,hnn,hb5⟩
    have hB5:=bt kD hb5 (Nat.le_refl _)
    refine hK.out _ _ hB5 (fun hSx=>?_);clear hK K hSx
    have dn:decide (nn<0)=false:=hnn.out
    refine tkE 10 102 rfl rfl ?_;simp only[setS]
    refine tkE 11 103 rfl rfl ?_;simp only[setS]
    refine wpAnyH_done (by kernel_rfl) ?_ _
    clear cx0 cx1 cx2 cx3 cy0 cy1 cy2 cy3
    have HLO:Hid (∀k,a≤k→k<h+1→(t k).key<(t m).key):=fun k h1 h2=>by
     by_cases e:k=h
     ·subst e
      exact HKY.out
     ·have:=HM.out.l k h h1 (by omega) (by have:=HHB.out;omega)
      have:=HKY.out
      omega
    exact z37_2
  ·obtain rfl:i=j:=by omega
   have HFIN:Hid (SrtK (insR i m t) a b∧ImgE t (insR i m t) a b):=by
    have h:=merge_oneR HM.out him hjb hlo.out hhi.out
    rw[b4] at h
    exact h
   have HLL:Hid (i≤m∧a≤i∧m<n∧n≤100000000):=by show _∧_;omega
   go_upto_region 21 with(fail)
   obtain⟨wo,hwo⟩:∃W,W=wr:=⟨_,rfl⟩
   have HKO:Hid (Keeps (· =g) w wo):=by show Keeps _ _ _;rw[hwo];exact hkp.out
   have HCO:Hid (CkAt wo g o n N t):=by show CkAt _ _ _ _ _ _;rw[hwo];exact hck.out
   subst hwo
   go_loopw [17] (fun kv wi=>∃k:Nat,i≤k∧k≤m∧kv=.int .i64 (k:Int)∧Hid (CkAt wi g o n N (insR k m t))∧Hid (Keeps (· =g) w wi)) (fun kv _=>(intOf kv).toNat)
   case atStart=>exact⟨m,HLL.out.1,Nat.le_refl _,rfl,by rw[insR_self];exact HCO.out,HKO.out⟩
   case round=>
    obtain⟨k,hak,hkL,rfl,hck2,hkp2⟩:=hrel
    obtain⟨l1,l2,l3,l5⟩:=HLL.out
    by_cases hlt2:i<k
    ·have hkl:(i:Int)<(k:Int):=by omega
     obtain⟨p,hp⟩:∃p:Nat,k-1=p:=⟨_,rfl⟩
     have s8:IntKind.i64.wrap ((k:Int)-1)=(p:Int):=(IntWalk.i64_in _ (by omega)).trans (by omega)
     have hk0:(0:Int)≤(k:Int):=Int.natCast_nonneg _
     have hp0:(0:Int)≤(p:Int):=Int.natCast_nonneg _
     have hkn:(k:Int)<(n:Int):=by omega
     have hpn:(p:Int)<(n:Int):=by omega
     have hpk:p+1=k:=by omega
     obtain⟨U,hU⟩:∃U,insR k m t=U:=⟨_,rfl⟩
     rw[hU] at hck2
     have hsw:=(hck2.out.put (j:=k) (by omega) (U p)).put (j:=p) (by omega) (U k)
     have hst:(fun x=>if x=p then U k else (fun x=>if x=k then U p else U x) x)=insR p m t:=by
      rw[←insR_step (j:=p) (i:=m) t (by omega),hpk,hU]
      funext x
      by_cases e1:x=p
      ·rw [if_pos e1,if_neg (by omega),if_pos e1]
      ·rw [if_neg e1]
       dsimp only
       by_cases e2:x=k
       ·rw [if_pos e2,if_pos e2]
       ·rw [if_neg e2,if_neg e2,if_neg e1]
     rw[hst] at hsw
     have hks:Keeps (· =g) w _:=hkp2.out.trans (ks1 (ks1 (ks1 (ks1 (ks1 (ks1 (ks1 (ks1 (Keeps.refl (· =g) wr) (o+k*4) (.int .i64 (U p).at_)) (o+k*4+1) (.int .u8 (U p).val)) (o+k*4+2) (.int .i64 (U p).fl)) (o+k*4+3) (.int .i64 (U p).du)) (o+p*4) (.int .i64 (U k).at_)) (o+p*4+1) (.int .u8 (U k).val)) (o+p*4+2) (.int .i64 (U k).fl)) (o+p*4+3) (.int .i64 (U k).du)) (fun _ _ e=>e)
     have HSW:=hid hsw
     have HKS:=hid hks
     obtain⟨x0,x1,x2,x3⟩:=hck2.out.at (i:=k) (by omega)
     obtain⟨y0,y1,y2,y3⟩:=hck2.out.at (i:=p) (by omega)
     have f0:=hck2.out.free (o+k*4)
     have f1:=hck2.out.free (o+k*4+1)
     have f2:=hck2.out.free (o+k*4+2)
     have f3:=hck2.out.free (o+k*4+3)
     have f4:=hck2.out.free (o+p*4)
     have f5:=hck2.out.free (o+p*4+1)
     have f6:=hck2.out.free (o+p*4+2)
     have f7:=hck2.out.free (o+p*4+3)
     have hPJ:p<k:=by omega
     have HP:=hid hpk
     clear hsw hks hst hp hU hpk
     go_upto_region 23 with(fail)
     exact z37_1
    ·obtain rfl:i=k:=by omega
     go_wp2
     go_end0
     exact⟨insR i m t,rfl,HFIN.out.1,HFIN.out.2,hck2.out,hkp2.out⟩
end Go.Proofs.YtoaoejaodhedaaaGreat
