/-
 Texts 37 of the claim.
-/
import Derived.Test.YtoaoejaodhedaaaGreatE27
import Derived.Test.YtoaoejaodhedaaaGreatE36
import Derived.Test.YtoaoejaodhedaaaGreatE13
import Derived.Test.YtoaoejaodhedaaaGreatE04
import Derived.Test.YtoaoejaodhedaaaGreatE05
import Derived.Test.YtoaoejaodhedaaaGreatE07
namespace Go.Proofs.YtoaoejaodhedaaaGreat
open Go.RowKit
set_option maxHeartbeats 12800000
set_option maxRecDepth 100000
def Ln.evE (s:Ln) (x:Ch):Ev:=⟨x.at_,UInt8.ofNat x.val.toNat,(s.ev x).fl⟩
theorem Ln.evE_val (s:Ln) {x:Ch} (h:ChOk x):((s.evE x).v.toNat:Int)=x.val:=
 byteI_val h.v0 h.v1
structure Du where
 n:Ln
 x:Tx
def hearB (x:Tx):Bool:=decide (x.ph=2∨x.ph=3∨x.ph=4)
theorem hearB_iff (x:Tx):hearB x=true↔x.hears:=decide_eq_true_iff
def Du.step (y:Du):Du:=match y.n.pend with
 |[]=>⟨y.n,y.x.sil⟩
 |c::r=>if c.at_≤y.x.til then ⟨y.n.next c r,y.x.chr (y.n.evE c)⟩ else ⟨y.n,y.x.sil⟩
def wPh (p:Int):Nat:=if p=2 then 3 else if p=3 then 2 else if p=4 then 1 else 0
def Du.mu (y:Du):Nat:=y.n.pend.length+wPh y.x.ph
def Du.listen:Nat→Du→Du
 |0,y=>y
 |n+1,y=>if hearB y.x=true then Du.listen n y.step else y
def Du.heard (y:Du):Du:=Du.listen y.mu y
theorem Tx.sil_w {x:Tx} (h:x.hears):wPh x.sil.ph<wPh x.ph:=by
 unfold Tx.sil
 rcases h with h|h|h
 ·rw [if_pos h,h]
  show wPh 4<wPh 2
  decide
 ·rw [if_neg (by omega),if_pos h,h]
  split
  ·show wPh 5<wPh 3
   decide
  ·show wPh 4<wPh 3
   decide
 ·rw [if_neg (by omega),if_neg (by omega),h]
  split
  ·show wPh 1<wPh 4
   decide
  ·show wPh 5<wPh 4
   decide
theorem Tx.chr_w (x:Tx) (e:Ev):wPh (x.chr e).ph≤wPh x.ph:=by
 unfold Tx.chr
 split
 ·split
  ·rename_i h2
   have h3:wPh 4≤wPh x.ph∧wPh 3≤wPh x.ph:=by
    rcases h2 with e|⟨e,-⟩<;>rw[e]<;>decide
   split
   ·exact h3.1
   ·exact h3.2
  ·exact Nat.le_refl _
 ·exact Nat.le_refl _
theorem Du.step_nil {y:Du} (h:y.n.pend=[]):y.step=⟨y.n,y.x.sil⟩:=by unfold Du.step;rw[h]
theorem Du.step_in {y:Du} {c:Ch} {r:List Ch} (h:y.n.pend=c::r) (hc:c.at_≤y.x.til):y.step=⟨y.n.next c r,y.x.chr (y.n.evE c)⟩:=by
 unfold Du.step
 rw[h]
 exact if_pos hc
theorem Du.step_out {y:Du} {c:Ch} {r:List Ch} (h:y.n.pend=c::r) (hc:¬c.at_≤y.x.til):y.step=⟨y.n,y.x.sil⟩:=by
 unfold Du.step
 rw[h]
 exact if_neg hc
theorem Du.step_mu {y:Du} (h:y.x.hears):y.step.mu<y.mu:=by
 have h1:=Tx.sil_w h
 cases e:y.n.pend with
 |nil=>
  rw[Du.step_nil e]
  show y.n.pend.length+wPh y.x.sil.ph<y.n.pend.length+wPh y.x.ph
  omega
 |cons c r=>
  by_cases hc:c.at_≤y.x.til
  ·have h2:=Tx.chr_w y.x (y.n.evE c)
   rw[Du.step_in e hc]
   show r.length+wPh (y.x.chr (y.n.evE c)).ph<y.n.pend.length+wPh y.x.ph
   rw[e,List.length_cons]
   omega
  ·rw [Du.step_out e hc]
   show y.n.pend.length+wPh y.x.sil.ph<y.n.pend.length+wPh y.x.ph
   omega
theorem Du.listen_not {y:Du} (h:hearB y.x=false):∀n,Du.listen n y=y
 |0=>rfl
 |n+1=>by
  unfold Du.listen
  rw[h]
  rfl
theorem wPh_zero {p:Int} (h:wPh p=0):¬(p=2∨p=3∨p=4):=by
 rintro (e|e|e)<;>subst e<;>exact absurd h (by decide)
theorem Du.mu_zero {y:Du} (h:y.mu≤0):hearB y.x=false:=by
 have h1:wPh y.x.ph=0:=by unfold Du.mu at h;omega
 exact decide_eq_false (wPh_zero h1)
theorem Du.listen_yes {y:Du} (h:hearB y.x=true) (n:Nat):Du.listen (n+1) y=Du.listen n y.step:=by
 show (if hearB y.x=true then _ else _)=_
 rw[if_pos h]
theorem Du.listen_eq:∀(n m:Nat) (y:Du),y.mu≤n→y.mu≤m→Du.listen n y=Du.listen m y
 |0,m,y,h,_=>by rw[Du.listen_not (Du.mu_zero h),Du.listen_not (Du.mu_zero h)]
 |n+1,m,y,h,h2=>by
  cases hb:hearB y.x with
  |false=>rw[Du.listen_not hb,Du.listen_not hb]
  |true=>
   have hm:=Du.step_mu ((hearB_iff y.x).1 hb)
   obtain⟨k,rfl⟩:∃k,m=k+1:=⟨m-1,by omega⟩
   rw[Du.listen_yes hb,Du.listen_yes hb]
   exact Du.listen_eq n k y.step (by omega) (by omega)
theorem Du.heard_not {y:Du} (h:hearB y.x=false):y.heard=y:=Du.listen_not h _
theorem Du.heard_step {y:Du} (h:hearB y.x=true):y.step.heard=y.heard:=by
 have hm:=Du.step_mu ((hearB_iff y.x).1 h)
 rw[show y.heard=Du.listen (y.mu+1) y from Du.listen_eq _ _ y (Nat.le_refl _) (Nat.le_succ _),Du.listen_yes h]
 exact Du.listen_eq _ _ y.step (Nat.le_refl _) (by omega)
structure CkAt (W:World) (g o n N:Nat) (t:Nat→Kc):Prop where
 h:∃c,W.heap[g]?=some (.cells c 174 (0,0))∧c.size=N∧∀i,i<n→c[o+i*4]?=some (.int .i64 (t i).at_)∧c[o+i*4+1]?=some (.int .u8 (t i).val)∧c[o+i*4+2]?=some (.int .i64 (t i).fl)∧c[o+i*4+3]?=some (.int .i64 (t i).du)
 le:o+n*4≤N
theorem CkAt.at {W:World} {g o n N:Nat} {t:Nat→Kc} (h:CkAt W g o n N t) {i:Nat} (hi:i<n):
  W.cell? ⟨g,o+i*4,none⟩=some (.int .i64 (t i).at_)∧W.cell? ⟨g,o+i*4+1,none⟩=some (.int .u8 (t i).val)∧W.cell? ⟨g,o+i*4+2,none⟩=some (.int .i64 (t i).fl)∧W.cell? ⟨g,o+i*4+3,none⟩=some (.int .i64 (t i).du):=by
 obtain⟨c,hc,-,hr⟩:=h.h
 obtain⟨h0,h1,h2,h3⟩:=hr i hi
 exact⟨by rw[hpCell hc];exact h0,by rw[hpCell hc];exact h1,by rw[hpCell hc];exact h2,by rw[hpCell hc];exact h3⟩
theorem CkAt.free {W:World} {g o n N:Nat} {t:Nat→Kc} (h:CkAt W g o n N t) (j:Nat):W.frozen? ⟨g,j,none⟩=false:=by
 obtain⟨c,hc,-⟩:=h.h
 exact hpFree hc j
theorem CkAt.keeps {W X:World} {F:Nat→Prop} {g o n N:Nat} {t:Nat→Kc} (h:CkAt W g o n N t) (hk:Keeps F W X) (hn:¬F g):CkAt X g o n N t:=by
 obtain⟨c,hc,h2,h3⟩:=h.h
 exact⟨⟨c,hpKeeps hc hk hn,h2,h3⟩,h.le⟩
theorem CkAt.put {W:World} {g o n N:Nat} {t:Nat→Kc} (h:CkAt W g o n N t) {j:Nat} (hj:j<n) (x:Kc):
  CkAt ((((W.setCell ⟨g,o+j*4,none⟩ (.int .i64 x.at_)).setCell ⟨g,o+j*4+1,none⟩ (.int .u8 x.val)).setCell ⟨g,o+j*4+2,none⟩ (.int .i64 x.fl)).setCell ⟨g,o+j*4+3,none⟩ (.int .i64 x.du)) g o n N (fun i=>if i=j then x else t i):=by
 obtain⟨c,hc,h2,h3⟩:=h.h
 have hle:=h.le
 refine⟨⟨_,hpSet (hpSet (hpSet (hpSet hc _ _) _ _) _ _) _ _,by simpa using h2,fun i hi=>?_⟩,h.le⟩
 obtain⟨e0,e1,e2,e3⟩:=h3 i hi
 simp only[Array.getElem?_setIfInBounds,Array.size_setIfInBounds,h2]
 by_cases e:i=j
 ·subst e
  rw[if_pos rfl]
  refine⟨?_,?_,?_,?_⟩<;>(repeat' (first|rw[if_pos (by omega)]|rw[if_neg (by omega)]))
 ·rw [if_neg e]
  refine⟨?_,?_,?_,?_⟩<;>(repeat (rw[if_neg (by omega)]))<;>assumption
def SrPost (w:World) (g o n N:Nat) (t:Nat→Kc) (r:Ending) (w':World):Prop:=r=.returned (.tuple #[])∧CkAt w' g o n N t∧Keeps (· =g) w w'
theorem swapR_any (g o n N c:Nat) (t:Nat→Kc) (cf:Value) (a b m:Nat) (hm:a+m≤b) (hb:b+m≤n) (hn:n≤100000000) (w:World) (h:CkAt w g o n N t):
  Calls Tryz.prog 227 #[.slice (some ⟨g,o,none⟩) n c,.int .i64 (a:Int),.int .i64 (b:Int),.int .i64 (m:Int),cf] w (SrPost w g o n N (swapR a b m t)):=by
 have H:=hid h
 have HMB:=hid (And.intro hm (And.intro hb hn))
 clear h hm hb hn
 go_enter Tryz.func227,Tryz.ntmps227
 go_wp2
 go_loopw [10] (fun iv wr=>∃i:Nat,i≤m∧iv=.int .i64 (i:Int)∧Hid (CkAt wr g o n N (swapR a b i t))∧Hid (Keeps (· =g) w wr)) (fun iv _=>m- (intOf iv).toNat)
 case atStart=>exact⟨0,Nat.zero_le _,rfl,by rw[swapR_zero];exact H.out,Keeps.refl _ _⟩
 case round=>
  obtain⟨i,hi,rfl,hck,hkp⟩:=hrel
  have hii:(0:Int)≤(i:Int):=Int.natCast_nonneg _
  obtain⟨b1,b2,b3⟩:=HMB.out
  by_cases hlt:i<m
  ·have hil:(i:Int)<(m:Int):=by omega
   obtain⟨A,hA⟩:∃A:Nat,a+i=A:=⟨_,rfl⟩
   obtain⟨B,hB⟩:∃B:Nat,b+i=B:=⟨_,rfl⟩
   have s1:IntKind.i64.wrap ((a:Int)+(i:Int))=(A:Int):=(IntWalk.i64_in _ (by omega)).trans (by omega)
   have s2:IntKind.i64.wrap ((b:Int)+(i:Int))=(B:Int):=(IntWalk.i64_in _ (by omega)).trans (by omega)
   have hAn:(A:Int)<(n:Int):=by omega
   have hBn:(B:Int)<(n:Int):=by omega
   have hA0:(0:Int)≤(A:Int):=Int.natCast_nonneg _
   have hB0:(0:Int)≤(B:Int):=Int.natCast_nonneg _
   obtain⟨T,hT⟩:∃T,swapR a b i t=T:=⟨_,rfl⟩
   rw[hT] at hck
   have HST:Hid ((fun k=>if k=B then T A else (fun k=>if k=A then T B else T k) k)=swapR a b (i+1) t):=by
    show _=_
    rw[swapR_succ (by omega),hT,hA,hB]
    have eA:T A=t A:=by rw[←hT,←hA];unfold swapR;rw[if_neg (by omega),if_neg (by omega)]
    have eB:T B=t B:=by rw[←hT,←hB];unfold swapR;rw[if_neg (by omega),if_neg (by omega)]
    rw[eA,eB]
    funext k
    by_cases e1:k=A
    ·subst e1
     rw[if_neg (by omega)]
     dsimp only
     rw[if_pos rfl,if_pos rfl]
    ·by_cases e2:k=B
     ·subst e2
      rw[if_pos rfl,if_neg e1,if_pos rfl]
     ·rw [if_neg e2]
      dsimp only
      rw[if_neg e1,if_neg e1,if_neg e2]
   have hck2:=(hck.out.put (j:=A) (by omega) (T B)).put (j:=B) (by omega) (T A)
   rw[HST.out] at hck2
   have hkp2:Keeps (· =g) w _:=hkp.out.trans (ks1 (ks1 (ks1 (ks1 (ks1 (ks1 (ks1 (ks1 (Keeps.refl (· =g) wr) (o+A*4) (.int .i64 (T B).at_)) (o+A*4+1) (.int .u8 (T B).val)) (o+A*4+2) (.int .i64 (T B).fl)) (o+A*4+3) (.int .i64 (T B).du)) (o+B*4) (.int .i64 (T A).at_)) (o+B*4+1) (.int .u8 (T A).val)) (o+B*4+2) (.int .i64 (T A).fl)) (o+B*4+3) (.int .i64 (T A).du)) (fun _ _ e=>e)
   have HCK2:=hid hck2
   have HKP2:=hid hkp2
   obtain⟨x0,x1,x2,x3⟩:=hck.out.at (i:=A) (by omega)
   obtain⟨y0,y1,y2,y3⟩:=hck.out.at (i:=B) (by omega)
   have f0:=hck.out.free (o+A*4)
   have f1:=hck.out.free (o+A*4+1)
   have f2:=hck.out.free (o+A*4+2)
   have f3:=hck.out.free (o+A*4+3)
   have f4:=hck.out.free (o+B*4)
   have f5:=hck.out.free (o+B*4+1)
   have f6:=hck.out.free (o+B*4+2)
   have f7:=hck.out.free (o+B*4+3)
   have hAB:A<B:=by omega
   clear hA hB hT hck2 hkp2
   go_upto_region 3 with(fail)
   go_region
   go_wp2
   go_roundw
   case rel=>exact⟨i+1,by omega,by go_num,HCK2.out.keeps (F:=fun _=>False) (Keeps.of_below (Below.refl _ _).drew) (fun e=>e),HKP2.out.trans (Keeps.of_below (F:=fun _=>False) (Below.refl _ _).drew) (fun _ _ e=>e.elim)⟩
   case measure=>simp [intOf];omega
  ·obtain rfl:i=m:=by omega
   go_wp2
   go_end0
   exact⟨rfl,hck.out,hkp.out⟩
theorem rot_any (g o n N c:Nat) (t:Nat→Kc) (cf:Value) (a m b:Nat) (ham:a<m) (hmb:m<b) (hb:b≤n) (hn:n≤100000000) (w:World) (h:CkAt w g o n N t):
  Calls Tryz.prog 220 #[.slice (some ⟨g,o,none⟩) n c,.int .i64 (a:Int),.int .i64 (m:Int),.int .i64 (b:Int),cf] w (SrPost w g o n N (rotF a m b t)):=by
 have H:=hid h
 have HB:=hid (And.intro ham (And.intro hmb (And.intro hb hn)))
 have HSW:Hid (∀(X:World) (T:Nat→Kc) (a b m:Nat),a+m≤b→b+m≤n→CkAt X g o n N T→Calls Tryz.prog 227 #[.slice (some ⟨g,o,none⟩) n c,.int .i64 (a:Int),.int .i64 (b:Int),.int .i64 (m:Int),cf] X (SrPost X g o n N (swapR a b m T))):=fun X T a b m h1 h2 h3=>swapR_any g o n N c T cf a b m h1 h2 hn X h3
 obtain⟨i0,hi0⟩:∃i:Nat,m-a=i:=⟨_,rfl⟩
 obtain⟨j0,hj0⟩:∃i:Nat,b-m=i:=⟨_,rfl⟩
 have s1:IntKind.i64.wrap ((m:Int)- (a:Int))=(i0:Int):=(IntWalk.i64_in _ (by omega)).trans (by omega)
 have s2:IntKind.i64.wrap ((b:Int)- (m:Int))=(j0:Int):=(IntWalk.i64_in _ (by omega)).trans (by omega)
 have HI:=hid (And.intro hi0 hj0)
 obtain⟨R,hR⟩:∃R,rotF a m b t=R:=⟨_,rfl⟩
 rw[hR]
 have HR0:Hid (rotF (m-i0) m (m+j0) t=R):=by show _=_;rw[←hR,show m-i0=a by omega,show m+j0=b by omega]
 clear h ham hmb hb hn hi0 hj0 hR
 go_enter Tryz.func220,Tryz.ntmps220
 go_wp2
 go_loopw [10,11] (fun iv jv wr=>∃(i j:Nat) (T:Nat→Kc),iv=.int .i64 (i:Int)∧jv=.int .i64 (j:Int)∧0<i∧0<j∧Hid (i≤m∧m+j≤n)∧Hid (rotF (m-i) m (m+j) T=R)∧Hid (CkAt wr g o n N T)∧Hid (Keeps (· =g) w wr)) (fun iv jv _=>(intOf iv).toNat+(intOf jv).toNat)
 case atStart=>exact⟨i0,j0,t,rfl,rfl,by have:=HI.out;have:=HB.out;omega,by have:=HI.out;have:=HB.out;omega,⟨by have:=HI.out;omega,by have:=HI.out;have:=HB.out;omega⟩,HR0.out,H.out,Keeps.refl _ _⟩
 case round=>
  obtain⟨i,j,T,rfl,rfl,hi,hj,hij,hrot,hck,hkp⟩:=hrel
  obtain⟨a1,a2⟩:=hij.out
  obtain⟨b1,b2,b3,b4⟩:=HB.out
  by_cases e:i=j
  ·subst e
   have g1:((i:Int) !=(i:Int))=false:=by rw[bne_eq_false_iff_eq]
   obtain⟨L,hL⟩:∃L:Nat,m-i=L:=⟨_,rfl⟩
   have s3:IntKind.i64.wrap ((m:Int)- (i:Int))=(L:Int):=(IntWalk.i64_in _ (by omega)).trans (by omega)
   have HC:=hid (HSW.out wr T L m i (by omega) (by omega) hck.out)
   have HRR:Hid (swapR L m i T=R):=by show _=_;rw[←hrot.out,←hL];exact rotF_eq T a1
   clear hL
   go_wp2_with (go_at_call 227;(with_reducible refine HC.out.mono ?_);rintro r w2 ⟨rfl,hck2,hkp2⟩;have HCK:=hid hck2;have HKP:=hid hkp2;clear hck2 hkp2)
   go_end0
   exact⟨rfl,by rw[←HRR.out];exact HCK.out,hkp.out.trans HKP.out (fun _ _ e=>e)⟩
  ·have g1:((i:Int) !=(j:Int))=true:=by rw[bne_iff_ne];omega
   have g1n:¬(i:Int)=(j:Int):=by omega
   by_cases h2:j<i
   ·have g2:decide ((j:Int)<(i:Int))=true:=decide_eq_true (by omega)
    obtain⟨L,hL⟩:∃L:Nat,m-i=L:=⟨_,rfl⟩
    have s3:IntKind.i64.wrap ((m:Int)- (i:Int))=(L:Int):=(IntWalk.i64_in _ (by omega)).trans (by omega)
    obtain⟨I,hI⟩:∃I:Nat,i-j=I:=⟨_,rfl⟩
    have s4:IntKind.i64.wrap ((i:Int)- (j:Int))=(I:Int):=(IntWalk.i64_in _ (by omega)).trans (by omega)
    have HC:=hid (HSW.out wr T L m j (by omega) (by omega) hck.out)
    have HRR:Hid (rotF (m-I) m (m+j) (swapR L m j T)=R):=by show _=_;rw[←hrot.out,←hL,←hI];exact rotF_gt T a1 h2 hj
    have hI0:0<I:=by omega
    have HIL:=hid hI
    have g3:j<i:=h2
    clear hL hI
    go_wp2_with (go_at_call 227;(with_reducible refine HC.out.mono ?_);rintro r w2 ⟨rfl,hck2,hkp2⟩;have HCK:=hid hck2;have HKP:=hid hkp2;clear hck2 hkp2)
    go_roundw
    case rel=>exact⟨I,j,swapR L m j T,rfl,rfl,hI0,hj,⟨by have:=HIL.out;omega,a2⟩,HRR.out,HCK.out,hkp.out.trans HKP.out (fun _ _ e=>e)⟩
    case measure=>have:=HIL.out;simp [intOf];omega
   ·have g2:decide ((j:Int)<(i:Int))=false:=decide_eq_false (by omega)
    have h3:i<j:=by omega
    obtain⟨L,hL⟩:∃L:Nat,m-i=L:=⟨_,rfl⟩
    have s3:IntKind.i64.wrap ((m:Int)- (i:Int))=(L:Int):=(IntWalk.i64_in _ (by omega)).trans (by omega)
    obtain⟨Q,hQ⟩:∃Q:Nat,m+j=Q:=⟨_,rfl⟩
    have s5:IntKind.i64.wrap ((m:Int)+(j:Int))=(Q:Int):=(IntWalk.i64_in _ (by omega)).trans (by omega)
    obtain⟨U,hU⟩:∃U:Nat,Q-i=U:=⟨_,rfl⟩
    have s6:IntKind.i64.wrap ((Q:Int)- (i:Int))=(U:Int):=(IntWalk.i64_in _ (by omega)).trans (by omega)
    obtain⟨J,hJ⟩:∃J:Nat,j-i=J:=⟨_,rfl⟩
    have s7:IntKind.i64.wrap ((j:Int)- (i:Int))=(J:Int):=(IntWalk.i64_in _ (by omega)).trans (by omega)
    have HC:=hid (HSW.out wr T L U i (by omega) (by omega) hck.out)
    have HRR:Hid (rotF (m-i) m (m+J) (swapR L U i T)=R):=by show _=_;rw[←hrot.out,←hL,←hU,←hQ,←hJ];exact rotF_lt T a1 h3 hi
    have hJ0:0<J:=by omega
    have HJL:=hid hJ
    have g3:¬j<i:=h2
    clear hL hQ hU hJ
    go_wp2_with (go_at_call 227;(with_reducible refine HC.out.mono ?_);rintro r w2 ⟨rfl,hck2,hkp2⟩;have HCK:=hid hck2;have HKP:=hid hkp2;clear hck2 hkp2)
    go_roundw
    case rel=>exact⟨i,J,swapR L U i T,rfl,rfl,hi,hJ0,⟨a1,by have:=HJL.out;omega⟩,HRR.out,HCK.out,hkp.out.trans HKP.out (fun _ _ e=>e)⟩
    case measure=>have:=HJL.out;simp [intOf];omega
def CmPost (w:World) (V:Bool) (r:Ending) (w':World):Prop:=∃n:Int,r=.returned (.int .i64 n)∧Hid (decide (n<0)=V)∧Below w.heap.size w w'
theorem nan_any (a:Int) (w:World):Calls Tryz.prog 184 #[.int .i64 a] w fun r w'=>r=.returned (.bool false)∧w=w':=by
 have g:(a !=a)=false:=by rw[bne_eq_false_iff_eq]
 go_enter Tryz.func184,Tryz.ntmps184
 go_wp2
 go_ret
 exact⟨rfl,rfl⟩
theorem comp_any (a b:Int) (w:World):Calls Tryz.prog 161 #[.int .i64 a,.int .i64 b] w fun r w'=>∃n:Int,r=.returned (.int .i64 n)∧Hid (decide (n<0)=decide (a<b))∧w=w':=by
 have HN:=hid nan_any
 by_cases h1:a<b
 ·have d1:decide (a<b)=true:=decide_eq_true h1
  clear h1
  go_enter Tryz.func161,Tryz.ntmps161
  go_wp2_with (go_at_call 184;(with_reducible refine(HN.out _ _).mono ?_);rintro r w2 ⟨rfl,rfl⟩)
  go_ret
  exact⟨-1,rfl,by show _=_;rw[d1];rfl,rfl⟩
 ·have d1:decide (a<b)=false:=decide_eq_false h1
  by_cases h2:b<a
  ·have d2:decide (b<a)=true:=decide_eq_true h2
   clear h1 h2
   go_enter Tryz.func161,Tryz.ntmps161
   go_wp2_with (go_at_call 184;(with_reducible refine(HN.out _ _).mono ?_);rintro r w2 ⟨rfl,rfl⟩)
   go_ret
   exact⟨1,rfl,by show _=_;rw[d1];rfl,rfl⟩
  ·have d2:decide (b<a)=false:=decide_eq_false h2
   clear h1 h2
   go_enter Tryz.func161,Tryz.ntmps161
   go_wp2_with (go_at_call 184;(with_reducible refine(HN.out _ _).mono ?_);rintro r w2 ⟨rfl,rfl⟩)
   go_ret
   exact⟨0,rfl,by show _=_;rw[d1];rfl,rfl⟩
theorem ccmp_any (x y:Kc) (w:World):Calls Tryz.prog 160 #[.agg #[.int .i64 (x).at_,.int .u8 (x).val,.int .i64 (x).fl,.int .i64 (x).du],.agg #[.int .i64 (y).at_,.int .u8 (y).val,.int .i64 (y).fl,.int .i64 (y).du]] w (CmPost w (decide (x.at_<y.at_))):=by
 have HK:=hid (comp_any x.at_ y.at_)
 have HB:Hid (∀A B,Below w.heap.size w ((w.alloc A).alloc B)):=fun A B=>bta (bal' w A) (Nat.le_refl _) B
 obtain⟨xa,xv,xf,xd,xk⟩:=x
 obtain⟨ya,yv,yf,yd,yk⟩:=y
 dsimp only at HK ⊢
 go_enter Tryz.func160,Tryz.ntmps160
 go_wp2_with (go_at_call 161;(with_reducible refine(HK.out _).mono ?_);rintro r w2 ⟨n,rfl,hn,rfl⟩)
 go_ret
 exact⟨n,rfl,hn.out,HB.out _ _⟩
def OrdR (t:Nat→Kc) (a b:Nat):Prop:=∀i j,a≤i→i<j→j<b→((t j).at_<(t i).at_↔(t j).key<(t i).key)∧(t j).key≠(t i).key
theorem InsP.mrgR {t0 t:Nat→Kc} {a b i:Nat} (ho:OrdR t0 a b) (h:InsP t0 t a i) (hi:i<b):MrgP t a i (i+1):=
 ⟨h.s,fun x y h1 h2 h3=>by omega,fun x y h1 h2 h3 h4=>by
  obtain⟨x',x1,x2,x3⟩:=h.m.fw x h1 h2
  have hy:y=i:=by omega
  subst hy
  rw[x3,h.o y (.inr (Nat.le_refl _))]
  exact ho x' y x1 (by omega) hi⟩
theorem InsP.stepR {t0 t:Nat→Kc} {a b i j:Nat} (ho:OrdR t0 a b) (h:InsP t0 t a i) (hi:i<b) (haj:a≤j) (hji:j≤i) (hl:∀k,a≤k→k<j→(t k).key<(t i).key) (hr:∀k,j≤k→k<i→(t i).key<(t k).key):
  InsP t0 (insR j i t) a (i+1):=by
 obtain⟨e1,e2⟩:=merge_oneR (h.mrgR ho hi) haj hji hl hr
 refine⟨e1,?_,fun k hk=>(e2.out k hk).trans (h.o k (by omega))⟩
 refine Same.trans ?_ e2.same
 refine h.m.join ((Same.refl t0 i (i+1)).congr fun k h1 h2=>by rw[show k=i by omega];exact h.o i (.inr (Nat.le_refl _))) (by omega) (by omega)
def IsPost (w:World) (g o n N:Nat) (t:Nat→Kc) (a b:Nat) (r:Ending) (w':World):Prop:=∃t',r=.returned (.tuple #[])∧InsP t t' a b∧CkAt w' g o n N t'∧Keeps (· =g) w w'
theorem insS_any (g o n N c:Nat) (t:Nat→Kc) (a b:Nat) (hab:a≤b) (hb:b≤n) (hn:n≤100000000) (ho:OrdR t a b) (w:World) (h:CkAt w g o n N t):
  Calls Tryz.prog 202 #[.slice (some ⟨g,o,none⟩) n c,.int .i64 (a:Int),.int .i64 (b:Int),.func (.func 160) #[] #[]] w (IsPost w g o n N t a b):=by
 have H:=hid h
 have HO:=hid ho
 have HB:=hid (And.intro hab (And.intro hb hn))
 clear h ho hab hb hn
 by_cases hlt0:a<b
 case neg=>
  have hs0:IntKind.i64.wrap ((a:Int)+1)=((a+1:Nat):Int):=(IntWalk.i64_in _ (by have:=HB.out;omega)).trans (by omega)
  have hge:¬a+1<b:=by omega
  have HE:Hid (a=b):=by show a=b;have:=HB.out;omega
  obtain⟨a1,ha1⟩:∃x,a+1=x:=⟨_,rfl⟩
  rw[ha1] at hs0 hge
  clear hlt0 ha1
  go_enter Tryz.func202,Tryz.ntmps202
  go_wp2_with fail
  go_loopw [8] (fun iv wr=>iv=.int .i64 (a1:Int)∧w=wr) (fun _ _=>0)
  case atStart=>exact⟨rfl,rfl⟩
  case round=>
   obtain⟨rfl,rfl⟩:=hrel
   have hge2:¬(a1:Int)<(b:Int):=by omega
   go_wp2
   go_end0
   have e:=HE.out
   subst e
   exact⟨t,rfl,InsP.nil t a,H.out,Keeps.refl _ _⟩
 have hs0:IntKind.i64.wrap ((a:Int)+1)=((a+1:Nat):Int):=(IntWalk.i64_in _ (by have:=HB.out;omega)).trans (by omega)
 obtain⟨a1,ha1⟩:∃x,a+1=x:=⟨_,rfl⟩
 rw[ha1] at hs0
 have HA1:=hid ha1
 have HST:Hid (InsP t t a a1):=by show InsP _ _ _ _;rw[←ha1];exact InsP.start t a
 clear ha1
 go_enter Tryz.func202,Tryz.ntmps202
 go_wp2_with fail
 go_loopw [8] (fun iv wr=>∃(i:Nat) (T:Nat→Kc),a<i∧i≤b∧iv=.int .i64 (i:Int)∧Hid (InsP t T a i)∧Hid (CkAt wr g o n N T)∧Hid (Keeps (· =g) w wr)) (fun iv _=>b- (intOf iv).toNat)
 case atStart=>exact⟨a1,t,by have:=HA1.out;omega,by have:=HA1.out;omega,rfl,HST.out,H.out,Keeps.refl _ _⟩
 case round=>
  obtain⟨i,T,hai,hib,rfl,hins,hck,hkp⟩:=hrel
  obtain⟨b1,b2,b3⟩:=HB.out
  by_cases hlt:i<b
  ·have hil:(i:Int)<(b:Int):=by omega
   have HM:Hid (MrgP T a i (i+1)):=hins.out.mrgR HO.out hlt
   have HAI:=hid hai
   go_upto_region 4 with(fail)
   go_loopw [9] (fun jv wi=>∃j:Nat,a≤j∧j≤i∧jv=.int .i64 (j:Int)∧Hid (∀k,j≤k→k<i→(T i).key<(T k).key)∧Hid (CkAt wi g o n N (insR j i T))∧Hid (Keeps (· =g) w wi)) (fun jv _=>(intOf jv).toNat)
   case atStart=>exact⟨i,Nat.le_of_lt hai,Nat.le_refl _,rfl,fun k h1 h2=>by omega,by rw[insR_self];exact hck.out,hkp.out⟩
   case round=>
    obtain⟨j,haj,hji,rfl,hr,hck2,hkp2⟩:=hrel
    have kD:Below wr.heap.size wr wr.drew:=(Below.refl _ _).drew
    by_cases hja:a<j
    ·have g1:decide ((a:Int)<(j:Int))=true:=decide_eq_true (by omega)
     have g1n:a<j:=hja
     obtain⟨p,hp⟩:∃p:Nat,j-1=p:=⟨_,rfl⟩
     have s1:IntKind.i64.wrap ((j:Int)-1)=(p:Int):=(IntWalk.i64_in _ (by omega)).trans (by omega)
     have hpj:p+1=j:=by omega
     have hj0:(0:Int)≤(j:Int):=Int.natCast_nonneg _
     have hp0:(0:Int)≤(p:Int):=Int.natCast_nonneg _
     have hjn:(j:Int)<(n:Int):=by omega
     have hpn:(p:Int)<(n:Int):=by omega
     have eJ:insR j i T j=T i:=by unfold insR;rw[if_neg (by omega),if_pos rfl]
     have eP:insR j i T p=T p:=by unfold insR;rw[if_pos (by omega)]
     have HX:=HM.out.x p i (by omega) (by omega) (Nat.le_refl _) (by omega)
     obtain⟨U,hU⟩:∃U,insR j i T=U:=⟨_,rfl⟩
     rw[hU] at eJ eP hck2
     have HCM:Hid (∀X,Calls Tryz.prog 160 #[.agg #[.int .i64 (U j).at_,.int .u8 (U j).val,.int .i64 (U j).fl,.int .i64 (U j).du],.agg #[.int .i64 (U p).at_,.int .u8 (U p).val,.int .i64 (U p).fl,.int .i64 (U p).du]] X (CmPost X (decide ((U j).at_<(U p).at_)))):=fun X=>ccmp_any (U j) (U p) X
     have cx:∀X,Below wr.heap.size wr X→X.cell? ⟨g,o+j*4,none⟩=some (.int .i64 (U j).at_):=fun X h=>cell_keep h (hck2.out.at (i:=j) (by omega)).1
     have cx1:∀X,Below wr.heap.size wr X→X.cell? ⟨g,o+j*4+1,none⟩=some (.int .u8 (U j).val):=fun X h=>cell_keep h (hck2.out.at (i:=j) (by omega)).2.1
     have cx2:∀X,Below wr.heap.size wr X→X.cell? ⟨g,o+j*4+2,none⟩=some (.int .i64 (U j).fl):=fun X h=>cell_keep h (hck2.out.at (i:=j) (by omega)).2.2.1
     have cx3:∀X,Below wr.heap.size wr X→X.cell? ⟨g,o+j*4+3,none⟩=some (.int .i64 (U j).du):=fun X h=>cell_keep h (hck2.out.at (i:=j) (by omega)).2.2.2
     have cy:∀X,Below wr.heap.size wr X→X.cell? ⟨g,o+p*4,none⟩=some (.int .i64 (U p).at_):=fun X h=>cell_keep h (hck2.out.at (i:=p) (by omega)).1
     have cy1:∀X,Below wr.heap.size wr X→X.cell? ⟨g,o+p*4+1,none⟩=some (.int .u8 (U p).val):=fun X h=>cell_keep h (hck2.out.at (i:=p) (by omega)).2.1
     have cy2:∀X,Below wr.heap.size wr X→X.cell? ⟨g,o+p*4+2,none⟩=some (.int .i64 (U p).fl):=fun X h=>cell_keep h (hck2.out.at (i:=p) (by omega)).2.2.1
     have cy3:∀X,Below wr.heap.size wr X→X.cell? ⟨g,o+p*4+3,none⟩=some (.int .i64 (U p).du):=fun X h=>cell_keep h (hck2.out.at (i:=p) (by omega)).2.2.2
     rw[eJ,eP] at HCM
     have HU:=hid hU
     have HEJ:=hid eJ
     have HEP:=hid eP
     have HPJ:=hid (And.intro hp hpj)
     rw[eJ] at cx cx1 cx2 cx3
     rw[eP] at cy cy1 cy2 cy3
     clear hp hU eJ eP
     by_cases hv:(T i).at_<(T p).at_
     ·have hv2:decide ((T i).at_<(T p).at_)=true:=decide_eq_true hv
      rw[hv2] at HCM
      have HKY:=hid (HX.1.1 hv)
      clear hv hv2 HX
      go_upto_region 4 with(fail)
      refine wp_region_held_drew (S:=fun V=>Below wr.heap.size wr V) (by kernel_rfl) kD (fun hH=>?_)
      clear hH
      refine tkE 0 18 rfl rfl ?_;simp only[setS]
      refine tkE 1 19 rfl rfl ?_;simp only[setS]
      refine tkE 2 20 rfl rfl ?_;simp only[setS]
      refine tkE 3 21 rfl rfl ?_;simp only[setS]
      refine tkE 4 22 rfl rfl ?_;simp only[setS]
      refine tkE 5 23 rfl rfl ?_;simp only[setS]
      refine tkE 6 24 rfl rfl ?_;simp only[setS]
      refine tkE 7 25 rfl rfl ?_;simp only[setS]
      refine tkE 8 26 rfl rfl ?_;simp only[setS]
      refine tkE 9 27 rfl rfl ?_;simp only[setS]
      refine tkE 10 28 rfl rfl ?_;simp only[setS]
      refine tkE 11 29 rfl rfl ?_;simp only[setS]
      refine tkE 12 30 rfl rfl ?_;simp only[setS]
      refine tkE 13 31 rfl rfl ?_;simp only[setS]
      refine rdyH 14 rfl (fun K hK=>?_);go_simp
      refine(HCM.out _).mono ?_
      rintro r w5 ⟨nn,rfl,hnn,hb5⟩
      have hB5:=bt kD hb5 (Nat.le_refl _)
      refine hK.out _ _ hB5 (fun hSx=>?_);clear hK K hSx
      have dn:decide (nn<0)=true:=hnn.out
      refine tkE 15 33 rfl rfl ?_;simp only[setS]
      refine tkE 16 34 rfl rfl ?_;simp only[setS]
      refine wpAnyH_done (by kernel_rfl) ?_ _
      clear cx cx1 cx2 cx3 cy cy1 cy2 cy3
      have hck5:Hid (CkAt w5 g o n N U):=hck2.out.keeps (F:=fun _=>False) (Keeps.of_below hB5) (fun e=>e)
      have hkp5:Hid (Keeps (· =g) w w5):=hkp2.out.trans (Keeps.of_below (F:=fun _=>False) hB5) (fun _ _ e=>e.elim)
      have hsw:=(hck5.out.put (j:=j) (by omega) (U p)).put (j:=p) (by omega) (U j)
      have hst:(fun k=>if k=p then U j else (fun k=>if k=j then U p else U k) k)=insR p i T:=by
       rw[←insR_step (j:=p) (i:=i) T (by omega)]
       rw[hpj,HU.out]
       funext k
       by_cases e1:k=p
       ·rw [if_pos e1,if_neg (by omega),if_pos e1]
       ·rw [if_neg e1]
        dsimp only
        by_cases e2:k=j
        ·rw [if_pos e2,if_pos e2]
        ·rw [if_neg e2,if_neg e2,if_neg e1]
      rw[hst] at hsw
      have hks:Keeps (· =g) w _:=hkp5.out.trans (ks1 (ks1 (ks1 (ks1 (ks1 (ks1 (ks1 (ks1 (Keeps.refl (· =g) w5) (o+j*4) (.int .i64 (U p).at_)) (o+j*4+1) (.int .u8 (U p).val)) (o+j*4+2) (.int .i64 (U p).fl)) (o+j*4+3) (.int .i64 (U p).du)) (o+p*4) (.int .i64 (U j).at_)) (o+p*4+1) (.int .u8 (U j).val)) (o+p*4+2) (.int .i64 (U j).fl)) (o+p*4+3) (.int .i64 (U j).du)) (fun _ _ e=>e)
      have HSW:=hid hsw
      have HKS:=hid hks
      obtain⟨x0,x1,x2,x3⟩:=hck5.out.at (i:=j) (by omega)
      obtain⟨y0,y1,y2,y3⟩:=hck5.out.at (i:=p) (by omega)
      have f0:=hck5.out.free (o+j*4)
      have f1:=hck5.out.free (o+j*4+1)
      have f2:=hck5.out.free (o+j*4+2)
      have f3:=hck5.out.free (o+j*4+3)
      have f4:=hck5.out.free (o+p*4)
      have f5:=hck5.out.free (o+p*4+1)
      have f6:=hck5.out.free (o+p*4+2)
      have f7:=hck5.out.free (o+p*4+3)
      have hPJ:p<j:=by omega
      have HRN:Hid (∀k,p≤k→k<i→(T i).key<(T k).key):=fun k h1 h2=>by
       have:=HPJ.out
       by_cases e:k=p
       ·subst e
        exact HKY.out
       ·exact hr.out k (by omega) h2
      clear hsw hks hst hpj
      go_upto_region 6 with(fail)
      go_region
      go_wp2
      go_roundw
      case rel=>exact⟨p,by have:=HPJ.out;omega,by have:=HPJ.out;omega,rfl,HRN.out,HSW.out.keeps (F:=fun _=>False) (Keeps.of_below (Below.refl _ _).drew) (fun e=>e),HKS.out.trans (Keeps.of_below (F:=fun _=>False) (Below.refl _ _).drew) (fun _ _ e=>e.elim)⟩
      case measure=>have:=HPJ.out;simp [intOf];omega
     ·have hv2:decide ((T i).at_<(T p).at_)=false:=decide_eq_false hv
      rw[hv2] at HCM
      have HKY:Hid ((T p).key<(T i).key):=by
       show _<_
       have h1:=mt HX.1.2 hv
       have h2:=HX.2
       omega
      clear hv hv2 HX
      go_upto_region 4 with(fail)
      refine wp_region_held_drew (S:=fun V=>Below wr.heap.size wr V) (by kernel_rfl) kD (fun hH=>?_)
      clear hH
      refine tkE 0 18 rfl rfl ?_;simp only[setS]
      refine tkE 1 19 rfl rfl ?_;simp only[setS]
      refine tkE 2 20 rfl rfl ?_;simp only[setS]
      refine tkE 3 21 rfl rfl ?_;simp only[setS]
      refine tkE 4 22 rfl rfl ?_;simp only[setS]
      refine tkE 5 23 rfl rfl ?_;simp only[setS]
      refine tkE 6 24 rfl rfl ?_;simp only[setS]
      refine tkE 7 25 rfl rfl ?_;simp only[setS]
      refine tkE 8 26 rfl rfl ?_;simp only[setS]
      refine tkE 9 27 rfl rfl ?_;simp only[setS]
      refine tkE 10 28 rfl rfl ?_;simp only[setS]
      refine tkE 11 29 rfl rfl ?_;simp only[setS]
      refine tkE 12 30 rfl rfl ?_;simp only[setS]
      refine tkE 13 31 rfl rfl ?_;simp only[setS]
      refine rdyH 14 rfl (fun K hK=>?_);go_simp
      refine(HCM.out _).mono ?_
      rintro r w5 ⟨nn,rfl,hnn,hb5⟩
      have hB5:=bt kD hb5 (Nat.le_refl _)
      refine hK.out _ _ hB5 (fun hSx=>?_);clear hK K hSx
      have dn:decide (nn<0)=false:=hnn.out
      refine tkE 15 33 rfl rfl ?_;simp only[setS]
      refine tkE 16 34 rfl rfl ?_;simp only[setS]
      refine wpAnyH_done (by kernel_rfl) ?_ _
      clear cx cx1 cx2 cx3 cy cy1 cy2 cy3
      have HST2:Hid (InsP t U a (i+1)):=by
       show InsP _ _ _ _
       rw[←HU.out]
       exact hins.out.stepR HO.out hlt haj hji (fun k h1 h2=>by
        by_cases e:k=p
        ·subst e;exact HKY.out
        ·have:=hins.out.s k p h1 (by have:=HPJ.out;omega) (by have:=HPJ.out;omega)
         have:=HKY.out
         omega) hr.out
      have hck5:Hid (CkAt w5 g o n N U):=hck2.out.keeps (F:=fun _=>False) (Keeps.of_below hB5) (fun e=>e)
      have hkp5:Hid (Keeps (· =g) w w5):=hkp2.out.trans (Keeps.of_below (F:=fun _=>False) hB5) (fun _ _ e=>e.elim)
      go_wp2
      go_roundw
      case rel=>exact⟨i+1,U,by have:=HAI.out;omega,by omega,by go_num,HST2.out,hck5.out,hkp5.out⟩
      case measure=>simp [intOf];omega
    ·have g1:decide ((a:Int)<(j:Int))=false:=decide_eq_false (by omega)
     have g1n:¬a<j:=hja
     have HST2:Hid (InsP t (insR j i T) a (i+1)):=hins.out.stepR HO.out hlt haj hji (fun k h1 h2=>by omega) hr.out
     obtain⟨U,hU⟩:∃U,insR j i T=U:=⟨_,rfl⟩
     rw[hU] at HST2 hck2
     clear hU
     go_upto_region 4 with(fail)
     refine wp_region_held_drew (S:=fun V=>Below wr.heap.size wr V) (by kernel_rfl) kD (fun hH=>?_)
     clear hH
     refine tkE 0 18 rfl rfl ?_;simp only[setS]
     refine tkE 1 19 rfl rfl ?_;simp only[setS]
     refine tkE 2 20 rfl rfl ?_;simp only[setS]
     refine tkE 3 21 rfl rfl ?_;simp only[setS]
     refine tkU 4 22 rfl rfl ?_;simp only[setS]
     refine tkU 5 23 rfl rfl ?_;simp only[setS]
     refine tkU 6 24 rfl rfl ?_;simp only[setS]
     refine tkU 7 25 rfl rfl ?_;simp only[setS]
     refine tkU 8 26 rfl rfl ?_;simp only[setS]
     refine tkU 9 27 rfl rfl ?_;simp only[setS]
     refine tkU 10 28 rfl rfl ?_;simp only[setS]
     refine tkU 11 29 rfl rfl ?_;simp only[setS]
     refine tkU 12 30 rfl rfl ?_;simp only[setS]
     refine tkU 13 31 rfl rfl ?_;simp only[setS]
     refine tkU 14 32 rfl rfl ?_;simp only[setS]
     refine tkU 15 33 rfl rfl ?_;simp only[setS]
     refine tkE 16 34 rfl rfl ?_;simp only[setS]
     refine wpAnyH_done (by kernel_rfl) ?_ _
     have hck5:Hid (CkAt wr.drew g o n N U):=hck2.out.keeps (F:=fun _=>False) (Keeps.of_below kD) (fun e=>e)
     have hkp5:Hid (Keeps (· =g) w wr.drew):=hkp2.out.trans (Keeps.of_below (F:=fun _=>False) kD) (fun _ _ e=>e.elim)
     go_wp2
     go_roundw
     case rel=>exact⟨i+1,U,by have:=HAI.out;omega,by omega,by go_num,HST2.out,hck5.out,hkp5.out⟩
     case measure=>simp [intOf];omega
  ·obtain rfl:i=b:=by omega
   go_wp2
   go_end0
   exact⟨T,rfl,hins.out,hck.out,hkp.out⟩
end Go.Proofs.YtoaoejaodhedaaaGreat
