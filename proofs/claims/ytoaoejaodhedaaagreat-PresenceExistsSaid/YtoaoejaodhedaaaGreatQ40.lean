import Derived.Test.YtoaoejaodhedaaaGreatQ39
namespace Go.Proofs.YtoaoejaodhedaaaGreat
open Go.RowKit
set_option maxHeartbeats 12800000
set_option maxRecDepth 100000
theorem CkAt.c0 {W:World} {g o n N:Nat} {t:Nat→Kc} (h:CkAt W g o n N t) {i:Nat} (hi:i<n):∀X,Below W.heap.size W X→X.cell? ⟨g,o+i*4,none⟩=some (.int .i64 (t i).at_):=fun _ hX=>bD hX (h.at hi).1
theorem CkAt.c1 {W:World} {g o n N:Nat} {t:Nat→Kc} (h:CkAt W g o n N t) {i:Nat} (hi:i<n):∀X,Below W.heap.size W X→X.cell? ⟨g,o+i*4+1,none⟩=some (.int .u8 (t i).val):=fun _ hX=>bD hX (h.at hi).2.1
theorem CkAt.c2 {W:World} {g o n N:Nat} {t:Nat→Kc} (h:CkAt W g o n N t) {i:Nat} (hi:i<n):∀X,Below W.heap.size W X→X.cell? ⟨g,o+i*4+2,none⟩=some (.int .i64 (t i).fl):=fun _ hX=>bD hX (h.at hi).2.2.1
theorem CkAt.c3 {W:World} {g o n N:Nat} {t:Nat→Kc} (h:CkAt W g o n N t) {i:Nat} (hi:i<n):∀X,Below W.heap.size W X→X.cell? ⟨g,o+i*4+3,none⟩=some (.int .i64 (t i).du):=fun _ hX=>bD hX (h.at hi).2.2.2
theorem CkAt.kb {W X:World} {g o n N:Nat} {t:Nat→Kc} (h:CkAt W g o n N t) (hb:Below W.heap.size W X):CkAt X g o n N t:=h.keeps (F:=fun _=>False) (Keeps.of_below hb) (fun e=>e)
def AscR (t:Nat→Kc) (n:Nat):Prop:=∀i j,i<j→j<n→¬(t j).at_<(t i).at_
def NoPost (w:World) (r:Ending) (w':World):Prop:=r=.returned (.tuple #[])∧Below w.heap.size w w'
theorem acmp {t:Nat→Kc} {n:Nat} (h:AscR t n) {i j:Nat} (h1:i<j) (h2:j<n) (w:World):Calls Tryz.prog 160 #[.agg #[.int .i64 (t j).at_,.int .u8 (t j).val,.int .i64 (t j).fl,.int .i64 (t j).du],.agg #[.int .i64 (t i).at_,.int .u8 (t i).val,.int .i64 (t i).fl,.int .i64 (t i).du]] w (CmPost w false):=by
 have e:=ccmp_any (t j) (t i) w;rw[decide_eq_false (h i j h1 h2)] at e;exact e
theorem insS_asc (g o n N c:Nat) (t:Nat→Kc) (a b:Nat) (ha:a≤n) (hb:b≤n) (hn:n≤100000000) (ho:AscR t n) (w:World) (h:CkAt w g o n N t):
  Calls Tryz.prog 202 #[.slice (some ⟨g,o,none⟩) n c,.int .i64 (a:Int),.int .i64 (b:Int),.func (.func 160) #[] #[]] w (NoPost w):=by
 have H:=bC h;have HO:=bC ho;have HB:=bC (And.intro ha (And.intro hb hn));obtain⟨a1,ha1⟩:∃x,a+1=x:=⟨_,rfl⟩
 have hs0:IntKind.i64.wrap ((a:Int)+1)=(a1:Int):=(IntWalk.i64_in _ (by omega)).trans (by omega);have HA1:=bC ha1;clear h ho ha hb hn ha1;go_enter Tryz.func202,Tryz.ntmps202;go_wp2_with fail;go_loopw [8] (fun iv wr=>∃i:Nat,a<i∧iv=.int .i64 (i:Int)∧Below w.heap.size w wr) (fun iv _=>b- (intOf iv).toNat)
 case atStart=>exact⟨a1,by have:=HA1.out;omega,rfl,Below.refl _ _⟩
 case round=>
  obtain⟨i,hai,rfl,hbw⟩:=hrel;obtain⟨b1,b2,b3⟩:=HB.out;by_cases hlt:i<b
  ·have hil:(i:Int)<(b:Int):=by omega
   have s2:IntKind.i64.wrap ((i:Int)+1)=((i+1:Nat):Int):=(IntWalk.i64_in _ (by omega)).trans (by omega);have HBW:=bC hbw;clear hbw;go_upto_region 4 with(fail)
   go_loopw [9] (fun jv wi=>jv=.int .i64 (i:Int)∧Below w.heap.size w wi) (fun _ _=>0)
   case atStart=>exact⟨rfl,HBW.out⟩
   case round=>
    obtain⟨rfl,hbi⟩:=hrel;have hck:=bC (H.out.kb hbi);have g1:decide ((a:Int)<(i:Int))=true:=decide_eq_true (by omega);have g1n:a<i:=hai;obtain⟨p,hp⟩:∃p:Nat,i-1=p:=⟨_,rfl⟩
    have s1:IntKind.i64.wrap ((i:Int)-1)=(p:Int):=(IntWalk.i64_in _ (by omega)).trans (by omega);have hj0:(0:Int)≤(i:Int):=Int.natCast_nonneg _;have hp0:(0:Int)≤(p:Int):=Int.natCast_nonneg _;have hjn:(i:Int)<(n:Int):=by omega
    have hpn:(p:Int)<(n:Int):=by omega
    have HCM:Hid (∀X,Calls Tryz.prog 160 #[.agg #[.int .i64 (t i).at_,.int .u8 (t i).val,.int .i64 (t i).fl,.int .i64 (t i).du],.agg #[.int .i64 (t p).at_,.int .u8 (t p).val,.int .i64 (t p).fl,.int .i64 (t p).du]] X (CmPost X false)):=fun X=>acmp HO.out (by omega) (by omega) X
    have cx0:=(hck.out.c0 (i:=i) (by omega));have cx1:=(hck.out.c1 (i:=i) (by omega));have cx2:=(hck.out.c2 (i:=i) (by omega));have cx3:=(hck.out.c3 (i:=i) (by omega));have cy0:=(hck.out.c0 (i:=p) (by omega));have cy1:=(hck.out.c1 (i:=p) (by omega));have cy2:=(hck.out.c2 (i:=p) (by omega));have cy3:=(hck.out.c3 (i:=p) (by omega));have kD:Below wr.heap.size wr wr.drew:=(Below.refl _ _).drew;have HBI:=bC hbi;have HIB:=bC hlt;clear hp hbi hlt;go_upto_region 4 with(fail)
    refine wp_region_held_drew (S:=fun V=>Below wr.heap.size wr V) (by kernel_rfl) kD (fun hH=>?_);clear hH;refine tG 0 18 ?_;refine tG 1 19 ?_;refine tG 2 20 ?_;refine tG 3 21 ?_;refine tG 4 22 ?_;refine tG 5 23 ?_;refine tG 6 24 ?_;refine tG 7 25 ?_;refine tG 8 26 ?_;refine tG 9 27 ?_;refine tG 10 28 ?_;refine tG 11 29 ?_;refine tG 12 30 ?_;refine tG 13 31 ?_;refine bM 14 rfl (fun K hK=>?_);go_simp;refine(HCM.out _).mono ?_;rintro r w5 ⟨nn,rfl,hnn,hb5⟩;have hB5:=bU kD hb5;refine hK.out _ _ hB5 (fun hSx=>?_);clear hK K hSx;have dn:decide (nn<0)=false:=hnn.out;refine tG 15 33 ?_;refine tG 16 34 ?_;refine wpAnyH_done (by kernel_rfl) ?_ _;clear cx0 cx1 cx2 cx3 cy0 cy1 cy2 cy3;go_wp2;go_roundw
    case rel=>exact⟨i+1,by omega,rfl,bU HBI.out hB5⟩
    case measure=>have:=HIB.out;simp [intOf];omega
  ·have hil:¬(i:Int)<(b:Int):=by omega
   go_wp2;go_end0;exact⟨rfl,hbw⟩
theorem symL_asc (g o n N c:Nat) (t:Nat→Kc) (a b:Nat) (hab:a+1<b) (hb:b≤n) (hn:n≤100000000) (ho:AscR t n) (w:World) (h:CkAt w g o n N t):
  Calls Tryz.prog 203 #[.slice (some ⟨g,o,none⟩) n c,.int .i64 (a:Int),.int .i64 ((a+1:Nat):Int),.int .i64 (b:Int),.func (.func 160) #[] #[]] w (NoPost w):=by
 have H:=bC h;have HO:=bC ho;obtain⟨m,hma⟩:∃m,a+1=m:=⟨_,rfl⟩
 have HB:=bC (And.intro hab (And.intro hb (And.intro hn hma)));rw[hma];have s0:IntKind.i64.wrap ((m:Int)- (a:Int))=1:=(IntWalk.i64_in _ (by omega)).trans (by omega);have s9:IntKind.i64.wrap ((m:Int)-1)=(a:Int):=(IntWalk.i64_in _ (by omega)).trans (by omega);clear h ho hab hb hn hma;go_enter Tryz.func203,Tryz.ntmps203;go_upto_region 3 with(fail)
 go_loopw [10,11,12] (fun iv jv _ wr=>∃j:Nat,m≤j∧j≤b∧iv=.int .i64 (m:Int)∧jv=.int .i64 (j:Int)∧Below w.heap.size w wr) (fun _ jv _ _=>(intOf jv).toNat)
 case atStart=>exact⟨b,by have:=HB.out;omega,Nat.le_refl _,rfl,rfl,Below.refl _ _⟩
 case round=>
  obtain⟨j,hmj,hjb,rfl,rfl,hbw⟩:=hrel;obtain⟨b1,b2,b3,b4⟩:=HB.out;have hck:=bC (H.out.kb hbw);by_cases hlt:m<j
  ·have hil:(m:Int)<(j:Int):=by omega
   obtain⟨Q,hQ⟩:∃Q:Nat,m+j=Q:=⟨_,rfl⟩
   have s1:IntKind.i64.wrap ((m:Int)+(j:Int))=(Q:Int):=(IntWalk.i64_in _ (by omega)).trans (by omega);have s2:IntKind.u64.wrap (Q:Int)=(Q:Int):=IntWalk.u64_in _ (by omega);obtain⟨h,hh⟩:∃h:Nat,Q/2=h:=⟨_,rfl⟩
   have s3:(Q:Int)/2=(h:Int):=by omega
   have s4:IntKind.i64.wrap (h:Int)=(h:Int):=IntWalk.i64_in _ (by omega);have s5:IntKind.i64.wrap ((h:Int)+1)=((h+1:Nat):Int):=(IntWalk.i64_in _ (by omega)).trans (by omega);have hh0:(0:Int)≤(h:Int):=Int.natCast_nonneg _;have hhb:m≤h∧h<j:=by omega
   have hhn:(h:Int)<(n:Int):=by omega
   have han:(a:Int)<(n:Int):=by omega
   have ha0:(0:Int)≤(a:Int):=Int.natCast_nonneg _;have HCM:Hid (∀X,Calls Tryz.prog 160 #[.agg #[.int .i64 (t h).at_,.int .u8 (t h).val,.int .i64 (t h).fl,.int .i64 (t h).du],.agg #[.int .i64 (t a).at_,.int .u8 (t a).val,.int .i64 (t a).fl,.int .i64 (t a).du]] X (CmPost X false)):=fun X=>acmp HO.out (by omega) (by omega) X
   have cx0:=(hck.out.c0 (i:=h) (by omega));have cx1:=(hck.out.c1 (i:=h) (by omega));have cx2:=(hck.out.c2 (i:=h) (by omega));have cx3:=(hck.out.c3 (i:=h) (by omega));have cy0:=(hck.out.c0 (i:=a) (by omega));have cy1:=(hck.out.c1 (i:=a) (by omega));have cy2:=(hck.out.c2 (i:=a) (by omega));have cy3:=(hck.out.c3 (i:=a) (by omega));have kD:Below wr.heap.size wr wr.drew:=(Below.refl _ _).drew;have HHB:=bC hhb;have HBW:=bC hbw;clear hQ hh hhb hbw;go_upto_region 5 with(fail)
   refine wp_region_held_drew (S:=fun V=>Below wr.heap.size wr V) (by kernel_rfl) kD (fun hH=>?_);clear hH;refine tG 0 40 ?_;refine tG 1 41 ?_;refine tG 2 42 ?_;refine tG 3 43 ?_;refine tG 4 44 ?_;refine tG 5 45 ?_;refine tG 6 46 ?_;refine tG 7 47 ?_;refine tG 8 48 ?_;refine bM 9 rfl (fun K hK=>?_);go_simp;refine(HCM.out _).mono ?_;rintro r w5 ⟨nn,rfl,hnn,hb5⟩;have hB5:=bU kD hb5;refine hK.out _ _ hB5 (fun hSx=>?_);clear hK K hSx;have dn:decide (nn<0)=false:=hnn.out;refine tG 10 50 ?_;refine wpAnyH_done (by kernel_rfl) ?_ _;clear cx0 cx1 cx2 cx3 cy0 cy1 cy2 cy3;go_wp2;go_roundw
   case rel=>exact⟨h,HHB.out.1,by have:=HHB.out;omega,rfl,rfl,bU HBW.out hB5⟩
   case measure=>have:=HHB.out;simp [intOf];omega
  ·obtain rfl:m=j:=by omega
   have hil:¬(m:Int)<(m:Int):=by omega
   have HBW:=bC hbw;clear hbw hck;go_wp2;go_loopw [13] (fun kv wi=>kv=.int .i64 (a:Int)∧Below w.heap.size w wi) (fun _ _=>0)
   case atStart=>exact⟨rfl,HBW.out⟩
   case round=>
    obtain⟨rfl,hbi⟩:=hrel;have hil2:¬(a:Int)<(a:Int):=by omega
    go_wp2;go_end0;exact⟨rfl,hbi⟩
theorem symR_asc (g o n N c:Nat) (t:Nat→Kc) (a m:Nat) (ham:a+1<m) (hb:m+1≤n) (hn:n≤100000000) (ho:AscR t n) (w:World) (h:CkAt w g o n N t):
  Calls Tryz.prog 203 #[.slice (some ⟨g,o,none⟩) n c,.int .i64 (a:Int),.int .i64 (m:Int),.int .i64 ((m+1:Nat):Int),.func (.func 160) #[] #[]] w (NoPost w):=by
 have H:=bC h;have HO:=bC ho;obtain⟨b,hmb⟩:∃b,m+1=b:=⟨_,rfl⟩
 have HB:=bC (And.intro ham (And.intro hb (And.intro hn hmb)));rw[hmb];obtain⟨D,hD⟩:∃D:Nat,m-a=D:=⟨_,rfl⟩
 have s00:IntKind.i64.wrap ((m:Int)- (a:Int))=(D:Int):=(IntWalk.i64_in _ (by omega)).trans (by omega);have g00:((D:Int)==1)=false:=b0 (by omega);have g01:¬D=1:=by omega
 have s0:IntKind.i64.wrap ((b:Int)- (m:Int))=1:=(IntWalk.i64_in _ (by omega)).trans (by omega);clear h ho ham hb hn hmb hD;go_enter Tryz.func203,Tryz.ntmps203;go_upto_region 15 with(fail)
 go_loopw [14,15,16] (fun iv jv _ wr=>∃i:Nat,a≤i∧i≤m∧iv=.int .i64 (i:Int)∧jv=.int .i64 (m:Int)∧Below w.heap.size w wr) (fun iv _ _ _=>m- (intOf iv).toNat)
 case atStart=>exact⟨a,Nat.le_refl _,by have:=HB.out;omega,rfl,rfl,Below.refl _ _⟩
 case round=>
  obtain⟨i,hai,him,rfl,rfl,hbw⟩:=hrel;obtain⟨b1,b2,b3,b4⟩:=HB.out;have hck:=bC (H.out.kb hbw);by_cases hlt:i<m
  ·have hil:(i:Int)<(m:Int):=by omega
   obtain⟨Q,hQ⟩:∃Q:Nat,i+m=Q:=⟨_,rfl⟩
   have s1:IntKind.i64.wrap ((i:Int)+(m:Int))=(Q:Int):=(IntWalk.i64_in _ (by omega)).trans (by omega);have s2:IntKind.u64.wrap (Q:Int)=(Q:Int):=IntWalk.u64_in _ (by omega);obtain⟨h,hh⟩:∃h:Nat,Q/2=h:=⟨_,rfl⟩
   have s3:(Q:Int)/2=(h:Int):=by omega
   have s4:IntKind.i64.wrap (h:Int)=(h:Int):=IntWalk.i64_in _ (by omega);have s5:IntKind.i64.wrap ((h:Int)+1)=((h+1:Nat):Int):=(IntWalk.i64_in _ (by omega)).trans (by omega);have hh0:(0:Int)≤(h:Int):=Int.natCast_nonneg _;have hhb:i≤h∧h<m:=by omega
   have hhn:(h:Int)<(n:Int):=by omega
   have han:(m:Int)<(n:Int):=by omega
   have ha0:(0:Int)≤(m:Int):=Int.natCast_nonneg _;have HCM:Hid (∀X,Calls Tryz.prog 160 #[.agg #[.int .i64 (t m).at_,.int .u8 (t m).val,.int .i64 (t m).fl,.int .i64 (t m).du],.agg #[.int .i64 (t h).at_,.int .u8 (t h).val,.int .i64 (t h).fl,.int .i64 (t h).du]] X (CmPost X false)):=fun X=>acmp HO.out (by omega) (by omega) X
   have cx0:=(hck.out.c0 (i:=m) (by omega));have cx1:=(hck.out.c1 (i:=m) (by omega));have cx2:=(hck.out.c2 (i:=m) (by omega));have cx3:=(hck.out.c3 (i:=m) (by omega));have cy0:=(hck.out.c0 (i:=h) (by omega));have cy1:=(hck.out.c1 (i:=h) (by omega));have cy2:=(hck.out.c2 (i:=h) (by omega));have cy3:=(hck.out.c3 (i:=h) (by omega));have kD:Below wr.heap.size wr wr.drew:=(Below.refl _ _).drew;have HHB:=bC hhb;have HBW:=bC hbw;clear hQ hh hhb hbw;go_upto_region 17 with(fail)
   refine wp_region_held_drew (S:=fun V=>Below wr.heap.size wr V) (by kernel_rfl) kD (fun hH=>?_);clear hH;refine tG 0 92 ?_;refine tG 1 93 ?_;refine tG 2 94 ?_;refine tG 3 95 ?_;refine tG 4 96 ?_;refine tG 5 97 ?_;refine tG 6 98 ?_;refine tG 7 99 ?_;refine tG 8 100 ?_;refine bM 9 rfl (fun K hK=>?_);go_simp;refine(HCM.out _).mono ?_;rintro r w5 ⟨nn,rfl,hnn,hb5⟩;have hB5:=bU kD hb5;refine hK.out _ _ hB5 (fun hSx=>?_);clear hK K hSx;have dn:decide (nn<0)=false:=hnn.out;refine tG 10 102 ?_;refine tG 11 103 ?_;refine wpAnyH_done (by kernel_rfl) ?_ _;clear cx0 cx1 cx2 cx3 cy0 cy1 cy2 cy3;go_wp2;go_roundw
   case rel=>exact⟨h+1,by have:=HHB.out;omega,by have:=HHB.out;omega,rfl,rfl,bU HBW.out hB5⟩
   case measure=>have:=HHB.out;simp [intOf];omega
  ·obtain rfl:i=m:=by omega
   have hil:¬(i:Int)<(i:Int):=by omega
   have HBW:=bC hbw;clear hbw hck;go_wp2;go_loopw [17] (fun kv wi=>kv=.int .i64 (i:Int)∧Below w.heap.size w wi) (fun _ _=>0)
   case atStart=>exact⟨rfl,HBW.out⟩
   case round=>
    obtain⟨rfl,hbi⟩:=hrel;have hil2:¬(i:Int)<(i:Int):=by omega
    go_wp2;go_end0;exact⟨rfl,hbi⟩
theorem symG_asc (g o n N c:Nat) (t:Nat→Kc) (a m b:Nat) (ham:a+1<m) (hmb:m+1<b) (hb:b≤n) (hn:n≤100000000) (ho:AscR t n) (w:World) (h:CkAt w g o n N t)
  (IH:∀(X:World) (a' m' b':Nat),a'<m'→m'<b'→b'≤n→b'-a'<b-a→CkAt X g o n N t→Calls Tryz.prog 203 #[.slice (some ⟨g,o,none⟩) n c,.int .i64 (a':Int),.int .i64 (m':Int),.int .i64 (b':Int),.func (.func 160) #[] #[]] X (NoPost X)):
  Calls Tryz.prog 203 #[.slice (some ⟨g,o,none⟩) n c,.int .i64 (a:Int),.int .i64 (m:Int),.int .i64 (b:Int),.func (.func 160) #[] #[]] w (NoPost w):=by
 have H:=bC h;have HO:=bC ho;have HIH:=bC IH;have HB:=bC (And.intro ham (And.intro hmb (And.intro hb hn)));obtain⟨D,hD⟩:∃D:Nat,m-a=D:=⟨_,rfl⟩
 have s00:IntKind.i64.wrap ((m:Int)- (a:Int))=(D:Int):=(IntWalk.i64_in _ (by omega)).trans (by omega);have g00:((D:Int)==1)=false:=b0 (by omega);have g01:¬D=1:=by omega
 obtain⟨E,hE⟩:∃D:Nat,b-m=D:=⟨_,rfl⟩
 have s02:IntKind.i64.wrap ((b:Int)- (m:Int))=(E:Int):=(IntWalk.i64_in _ (by omega)).trans (by omega);have g02:((E:Int)==1)=false:=b0 (by omega);have g03:¬E=1:=by omega
 obtain⟨Qm,hQm⟩:∃Q:Nat,a+b=Q:=⟨_,rfl⟩
 have s1m:IntKind.i64.wrap ((a:Int)+(b:Int))=(Qm:Int):=(IntWalk.i64_in _ (by omega)).trans (by omega);have s2m:IntKind.u64.wrap (Qm:Int)=(Qm:Int):=IntWalk.u64_in _ (by omega);obtain⟨mid,hmid⟩:∃h:Nat,Qm/2=h:=⟨_,rfl⟩
 have s3m:(Qm:Int)/2=(mid:Int):=by omega
 have s4m:IntKind.i64.wrap (mid:Int)=(mid:Int):=IntWalk.i64_in _ (by omega);obtain⟨nn,hnn⟩:∃x:Nat,mid+m=x:=⟨_,rfl⟩
 have s05:IntKind.i64.wrap ((mid:Int)+(m:Int))=(nn:Int):=(IntWalk.i64_in _ (by omega)).trans (by omega);obtain⟨p,hp⟩:∃x:Nat,nn-1=x:=⟨_,rfl⟩
 have s06:IntKind.i64.wrap ((nn:Int)-1)=(p:Int):=(IntWalk.i64_in _ (by omega)).trans (by omega);obtain⟨lo,r0,ee,hlo⟩:∃lo r0 ee:Nat,(mid<m→lo=mid+m-b∧r0=mid∧ee=m)∧(m≤mid→lo=a∧r0=m∧ee=mid):=by
  by_cases e:mid<m
  ·exact ⟨mid+m-b,mid,m,fun _=>⟨rfl,rfl,rfl⟩,fun h=>by omega⟩
  ·exact ⟨a,m,mid,fun h=>absurd h e,fun _=>⟨rfl,rfl,rfl⟩⟩
 have HLO:=bC hlo;have HLR:Hid (a≤lo∧lo≤r0∧r0≤m∧r0≤mid∧mid+m-lo≤b∧nn=mid+m∧p+1=nn∧a<mid∧mid<b∧a+b≤2*mid+1):=by
  show _∧_;by_cases e:mid<m
  ·obtain ⟨e1,e2,-⟩:=hlo.1 e;omega
  ·obtain ⟨e1,e2,-⟩:=hlo.2 (by omega);omega
 have s07:IntKind.i64.wrap ((nn:Int)- (r0:Int))=(ee:Int):=by
  have hr:=HLR.out;refine(IntWalk.i64_in _ (by omega)).trans ?_;by_cases e:mid<m
  ·obtain ⟨-,e2,e3⟩:=hlo.1 e;omega
  ·obtain ⟨-,e2,e3⟩:=hlo.2 (by omega);omega
 clear h ho IH hD hE hnn hp hQm hmid;go_enter Tryz.func203,Tryz.ntmps203;go_upto_if 140 with(fail)
 go_cut [20,21] from 140 to 146 (fun s20 s21 wc=>s20=.int .i64 (lo:Int)∧s21=.int .i64 (r0:Int)∧w=wc)
 case first=>
  by_cases e:mid<m
  ·have q1:(mid:Int)<(m:Int):=by omega
   obtain⟨e1,e2,-⟩:=hlo.1 e;have q2:IntKind.i64.wrap ((nn:Int)- (b:Int))=(lo:Int):=(IntWalk.i64_in _ (by have:=HLR.out;have:=HB.out;omega)).trans (by have:=HLR.out;have:=HB.out;omega);subst e2;clear hlo e1 ham hmb hb hn;go_wp2;go_meet
   case rel=>exact⟨rfl,rfl,rfl⟩
  ·have q1:¬(mid:Int)<(m:Int):=by omega
   obtain⟨e1,e2,-⟩:=hlo.2 (by omega);subst e1 e2;clear hlo ham hmb hb hn;go_wp2;go_meet
   case rel=>exact⟨rfl,rfl,rfl⟩
 case rest=>
  obtain⟨rfl,rfl,hwc⟩:=hcut;subst hwc;clear hlo;go_upto_region 33 with(fail)
  go_loopw [20,21,23] (fun iv jv _ wr=>∃s:Nat,lo≤s∧s≤r0∧iv=.int .i64 (s:Int)∧jv=.int .i64 (r0:Int)∧Below w.heap.size w wr) (fun iv _ _ _=>r0- (intOf iv).toNat)
  case atStart=>exact⟨lo,Nat.le_refl _,HLR.out.2.1,rfl,rfl,Below.refl _ _⟩
  case round=>
   obtain⟨s,hls,hsr,rfl,rfl,hbw⟩:=hrel;obtain⟨b1,b2,b3,b4⟩:=HB.out;obtain⟨l1,l2,l3,l4,l5,l6,l7,l8,l9,l10⟩:=HLR.out;have hck:=bC (H.out.kb hbw);have HBW:=bC hbw;by_cases hlt:s<r0
   ·have hil:(s:Int)<(r0:Int):=by omega
    obtain⟨Q,hQ⟩:∃Q:Nat,s+r0=Q:=⟨_,rfl⟩
    have s1:IntKind.i64.wrap ((s:Int)+(r0:Int))=(Q:Int):=(IntWalk.i64_in _ (by omega)).trans (by omega);have s2:IntKind.u64.wrap (Q:Int)=(Q:Int):=IntWalk.u64_in _ (by omega);obtain⟨h,hh⟩:∃h:Nat,Q/2=h:=⟨_,rfl⟩
    have s3:(Q:Int)/2=(h:Int):=by omega
    have s4:IntKind.i64.wrap (h:Int)=(h:Int):=IntWalk.i64_in _ (by omega);have s5:IntKind.i64.wrap ((h:Int)+1)=((h+1:Nat):Int):=(IntWalk.i64_in _ (by omega)).trans (by omega);have hh0:(0:Int)≤(h:Int):=Int.natCast_nonneg _;have hhb:s≤h∧h<r0:=by omega
    obtain⟨f,hf⟩:∃f:Nat,p-h=f:=⟨_,rfl⟩
    have s6:IntKind.i64.wrap ((p:Int)- (h:Int))=(f:Int):=(IntWalk.i64_in _ (by omega)).trans (by omega);have hfb:h<f∧f<n:=by omega
    have hhn:(h:Int)<(n:Int):=by omega
    have han:(f:Int)<(n:Int):=by omega
    have ha0:(0:Int)≤(f:Int):=Int.natCast_nonneg _;have HCM:Hid (∀X,Calls Tryz.prog 160 #[.agg #[.int .i64 (t f).at_,.int .u8 (t f).val,.int .i64 (t f).fl,.int .i64 (t f).du],.agg #[.int .i64 (t h).at_,.int .u8 (t h).val,.int .i64 (t h).fl,.int .i64 (t h).du]] X (CmPost X false)):=fun X=>acmp HO.out (by omega) (by omega) X
    have cx0:=(hck.out.c0 (i:=f) (by omega));have cx1:=(hck.out.c1 (i:=f) (by omega));have cx2:=(hck.out.c2 (i:=f) (by omega));have cx3:=(hck.out.c3 (i:=f) (by omega));have cy0:=(hck.out.c0 (i:=h) (by omega));have cy1:=(hck.out.c1 (i:=h) (by omega));have cy2:=(hck.out.c2 (i:=h) (by omega));have cy3:=(hck.out.c3 (i:=h) (by omega));have kD:Below wr.heap.size wr wr.drew:=(Below.refl _ _).drew;have HHB:=bC hhb;clear hQ hh hhb hbw hfb hf l1 l2 l3 l4 l5 l6 l7 l8 l9 l10;go_upto_region 35 with(fail)
    refine wp_region_held_drew (S:=fun V=>Below wr.heap.size wr V) (by kernel_rfl) kD (fun hH=>?_);clear hH;refine tG 0 158 ?_;refine tG 1 159 ?_;refine tG 2 160 ?_;refine tG 3 161 ?_;refine tG 4 162 ?_;refine tG 5 163 ?_;refine tG 6 164 ?_;refine tG 7 165 ?_;refine tG 8 166 ?_;refine tG 9 167 ?_;refine tG 10 168 ?_;refine bM 11 rfl (fun K hK=>?_);go_simp;refine(HCM.out _).mono ?_;rintro r w5 ⟨nn,rfl,hnn,hb5⟩;have hB5:=bU kD hb5;refine hK.out _ _ hB5 (fun hSx=>?_);clear hK K hSx;have dn:decide (nn<0)=false:=hnn.out;refine tG 12 170 ?_;refine tG 13 171 ?_;refine wpAnyH_done (by kernel_rfl) ?_ _;clear cx0 cx1 cx2 cx3 cy0 cy1 cy2 cy3;go_wp2;go_roundw
    case rel=>exact⟨h+1,by have:=HHB.out;omega,by have:=HHB.out;omega,rfl,rfl,bU HBW.out hB5⟩
    case measure=>have:=HHB.out;simp [intOf];omega
   ·obtain rfl:s=r0:=by omega
    have hil:¬(s:Int)<(s:Int):=by omega
    by_cases e:mid<m
    ·obtain ⟨-,rfl,rfl⟩:=HLO.out.1 e
     have q1:(s:Int)<(ee:Int):=by omega
     have q2:¬(ee:Int)<(ee:Int):=by omega
     have q3:(a:Int)<(s:Int):=by omega
     have q5:(ee:Int)<(b:Int):=by omega
     have HC:=bC (HIH.out wr s ee b (by omega) (by omega) b3 (by omega) hck.out);clear hbw hck l1 l2 l3 l4 l5 l6 l7 l8 l9 l10 HLO HLR b1 b2 b3 b4 e hlt hls hsr ham hmb hb hn;go_wp2_with (go_at_call 203;(with_reducible refine HC.out.mono ?_);rintro r w2 ⟨rfl,hb2⟩);go_end0;exact⟨rfl,bU HBW.out hb2⟩
    ·obtain ⟨-,rfl,rfl⟩:=HLO.out.2 (by omega)
     have q3:(a:Int)<(s:Int):=by omega
     have q4:¬(ee:Int)<(ee:Int):=by omega
     by_cases e2:s<ee
     ·have q5:(s:Int)<(ee:Int):=by omega
      have HC:=bC (HIH.out wr a s ee (by omega) e2 (by omega) (by omega) hck.out);clear hbw hck l1 l2 l3 l4 l5 l6 l7 l8 l9 l10 HLO HLR b1 b2 b3 b4 e e2 hlt hls hsr ham hmb hb hn;go_wp2_with (go_at_call 203;(with_reducible refine HC.out.mono ?_);rintro r w2 ⟨rfl,hb2⟩);go_end0;exact⟨rfl,bU HBW.out hb2⟩
     ·have q5:¬(s:Int)<(ee:Int):=by omega
      clear hbw hck l1 l2 l3 l4 l5 l6 l7 l8 l9 l10 HLO HLR b1 b2 b3 b4 e e2 hlt hls hsr ham hmb hb hn;go_wp2;go_end0;exact⟨rfl,HBW.out⟩
theorem sym_asc (g o n N c:Nat) (t:Nat→Kc) (hn:n≤100000000) (ho:AscR t n):∀(d a m b:Nat),b-a≤d→a<m→m<b→b≤n→∀w,CkAt w g o n N t→
  Calls Tryz.prog 203 #[.slice (some ⟨g,o,none⟩) n c,.int .i64 (a:Int),.int .i64 (m:Int),.int .i64 (b:Int),.func (.func 160) #[] #[]] w (NoPost w):=by
 intro d
 induction d with
 |zero=>intro a m b h1 h2 h3;omega
 |succ d ih=>
  intro a m b h1 h2 h3 h4 w h;by_cases e1:m=a+1
  ·subst e1
   exact symL_asc g o n N c t a b h3 h4 hn ho w h
  ·by_cases e2:b=m+1
   ·subst e2
    exact symR_asc g o n N c t a m (by omega) h4 hn ho w h
   ·exact symG_asc g o n N c t a m b (by omega) (by omega) h4 hn ho w h (fun X a' m' b' q1 q2 q3 q4 q6=>ih a' m' b' (by omega) q1 q2 q3 X q6)
theorem stable_asc (g o n N c:Nat) (t:Nat→Kc) (hn0:0<n) (hn:n≤100000000) (ho:AscR t n) (w:World) (h:CkAt w g o n N t):
  Calls Tryz.prog 183 #[.slice (some ⟨g,o,none⟩) n c,.int .i64 (n:Int),.func (.func 160) #[] #[]] w (NoPost w):=by
 have HB:=bC (And.intro hn0 hn);have HIS:Hid (∀(a b:Nat) (X:World),a≤n→b≤n→Below w.heap.size w X→Calls Tryz.prog 202 #[.slice (some ⟨g,o,none⟩) n c,.int .i64 (a:Int),.int .i64 (b:Int),.func (.func 160) #[] #[]] X (NoPost X)):=fun a b X h1 h2 hX=>insS_asc g o n N c t a b h1 h2 hn ho X (h.kb hX)
 have HSY:Hid (∀(a m b:Nat) (X:World),a<m→m<b→b≤n→Below w.heap.size w X→Calls Tryz.prog 203 #[.slice (some ⟨g,o,none⟩) n c,.int .i64 (a:Int),.int .i64 (m:Int),.int .i64 (b:Int),.func (.func 160) #[] #[]] X (NoPost X)):=fun a m b X h1 h2 h3 hX=>sym_asc g o n N c t hn ho _ a m b (Nat.le_refl _) h1 h2 h3 X (h.kb hX)
 clear h ho hn hn0;go_enter Tryz.func183,Tryz.ntmps183;go_upto_region 2 with(fail)
 go_loopw [7,8] (fun av bv wr=>∃a b:Nat,a≤n∧a+20=b∧av=.int .i64 (a:Int)∧bv=.int .i64 (b:Int)∧Below w.heap.size w wr) (fun av _ _=>n- (intOf av).toNat)
 case atStart=>exact⟨0,20,Nat.zero_le _,rfl,rfl,rfl,Below.refl _ _⟩
 case round=>
  obtain⟨a,b,han,hab,rfl,rfl,hbw⟩:=hrel;obtain⟨q1,q2⟩:=HB.out;have HBW:=bC hbw;by_cases hlt:b≤n
  ·have hil:(b:Int)≤(n:Int):=by omega
   have HC:=bC (HIS.out a b _ han hlt hbw);obtain⟨b2,hb2⟩:∃x,b+20=x:=⟨_,rfl⟩
   have s1:IntKind.i64.wrap ((b:Int)+20)=(b2:Int):=(IntWalk.i64_in _ (by omega)).trans (by omega);have HAB:=bC (And.intro hab (And.intro hlt hb2));clear hab hb2 hbw;go_wp2_with (go_at_call 202;(with_reducible refine HC.out.mono ?_);rintro r w2 ⟨rfl,hb3⟩);go_roundw
   case rel=>exact⟨b,b2,hlt,HAB.out.2.2,rfl,rfl,bU HBW.out hb3⟩
   case measure=>have:=HAB.out;simp [intOf];omega
  ·have hil:¬(b:Int)≤(n:Int):=by omega
   have HC:=bC (HIS.out a n _ han (Nat.le_refl _) hbw);clear hab hlt hbw;go_upto_region 7 with(go_at_call 202;(with_reducible refine HC.out.mono ?_);rintro r w2 ⟨rfl,hb3⟩)
   have HB2:=bC (bU HBW.out hb3);clear HC HIS han hb3;go_loopw [6,7,8,9] (fun sv _ _ _ wr=>∃bs:Nat,20≤bs∧bs≤400000000∧sv=.int .i64 (bs:Int)∧Below w.heap.size w wr) (fun sv _ _ _ _=>n- (intOf sv).toNat)
   case atStart=>exact⟨20,by omega,by omega,rfl,HB2.out⟩
   case round=>
    clear HB2;obtain⟨bs,hb20,hbm,rfl,hbw⟩:=hrel;have HBY:=bC hbw;by_cases hbn:bs<n
    ·have hbi:(bs:Int)<(n:Int):=by omega
     obtain⟨B2,hB2⟩:∃x,2*bs=x:=⟨_,rfl⟩
     have s2:IntKind.i64.wrap (2*(bs:Int))=(B2:Int):=(IntWalk.i64_in _ (by omega)).trans (by omega);have s3:IntKind.i64.wrap ((bs:Int)*2)=(B2:Int):=(IntWalk.i64_in _ (by omega)).trans (by omega);have HBB:=bC (And.intro hB2 (And.intro hb20 hbn));clear hB2 hbw;go_upto_region 9 with(fail)
     go_loopw [7,8] (fun av bv wi=>∃a b:Nat,a≤n∧a+B2=b∧av=.int .i64 (a:Int)∧bv=.int .i64 (b:Int)∧Below w.heap.size w wi) (fun av _ _=>n- (intOf av).toNat)
     case atStart=>exact⟨0,B2,Nat.zero_le _,Nat.zero_add _,rfl,rfl,HBY.out⟩
     case round=>
      obtain⟨a,b,han,hab,rfl,rfl,hbz⟩:=hrel;obtain⟨z1,z2,z3⟩:=HBB.out;have HBZ:=bC hbz;obtain⟨m,hm⟩:∃x,a+bs=x:=⟨_,rfl⟩
      have s4:IntKind.i64.wrap ((a:Int)+(bs:Int))=(m:Int):=(IntWalk.i64_in _ (by omega)).trans (by omega);obtain⟨b2,hb2⟩:∃x,b+B2=x:=⟨_,rfl⟩
      have s5:IntKind.i64.wrap ((b:Int)+(B2:Int))=(b2:Int):=(IntWalk.i64_in _ (by omega)).trans (by omega);by_cases hlt:b≤n
      ·have hil:(b:Int)≤(n:Int):=by omega
       have HC:=bC (HSY.out a m b _ (by omega) (by omega) hlt hbz);have HAB:=bC (And.intro hab (And.intro hlt (And.intro hb2 z1)));clear hab hb2 hm z1 z2 z3 hbz;go_wp2_with (go_at_call 203;(with_reducible refine HC.out.mono ?_);rintro r w2 ⟨rfl,hb3⟩);go_roundw
       case rel=>exact⟨b,b2,hlt,HAB.out.2.2.1,rfl,rfl,bU HBZ.out hb3⟩
       case measure=>have:=HAB.out;have:=HBB.out;simp [intOf];omega
      ·have hil:¬(b:Int)≤(n:Int):=by omega
       by_cases hmn:m<n
       ·have hmi:(m:Int)<(n:Int):=by omega
        have HC:=bC (HSY.out a m n _ (by omega) hmn (Nat.le_refl _) hbz);clear hab hb2 hm z1 hlt hmn hbz;go_wp2_with (go_at_call 203;(with_reducible refine HC.out.mono ?_);rintro r w2 ⟨rfl,hb3⟩);go_roundw
        case rel=>exact⟨B2,by have:=HBB.out;omega,by have:=HBB.out;omega,rfl,bU HBZ.out hb3⟩
        case measure=>have:=HBB.out;simp [intOf];omega
       ·have hmi:¬(m:Int)<(n:Int):=by omega
        clear hab hb2 hm z1 hlt hmn hbz;go_wp2;go_roundw
        case rel=>exact⟨B2,by have:=HBB.out;omega,by have:=HBB.out;omega,rfl,HBZ.out⟩
        case measure=>have:=HBB.out;simp [intOf];omega
    ·have hbi:¬(bs:Int)<(n:Int):=by omega
     go_wp2;go_end0;exact⟨rfl,hbw⟩
theorem sortst_asc (g o n N c:Nat) (t:Nat→Kc) (hn0:0<n) (hn:n≤100000000) (ho:AscR t n) (w:World) (h:CkAt w g o n N t):
  Calls Tryz.prog 159 #[.slice (some ⟨g,o,none⟩) n c,.func (.func 160) #[] #[]] w (NoPost w):=by
 have HS:=bC (stable_asc g o n N c t hn0 hn ho w h);clear ho h;go_enter Tryz.func159,Tryz.ntmps159;go_wp2_with (go_at_call 183;(with_reducible refine HS.out.mono ?_);rintro r w2 ⟨rfl,hb2⟩);go_end0;exact⟨rfl,hb2⟩
theorem putL_end {p:List Ch} {x:Ch} (h:∀y,y∈p→y.at_≤x.at_):putL p x=p++[x]:=by
 induction p with
 |nil=>rfl
 |cons y l ih=>
  have h1:=h y (List.mem_cons_self ..);unfold putL;rw[if_neg (by omega),ih (fun z hz=>h z (List.mem_cons_of_mem _ hz))];rfl
theorem puts_end {p news:List Ch} (h:ascL (p++news)):news.foldl putL p=p++news:=by
 induction news generalizing p with
 |nil=>exact(List.append_nil _).symm
 |cons x l ih=>
  have e:p++x::l=p++[x]++l:=by rw[List.append_assoc];rfl
  show l.foldl putL (putL p x)=_;rw[e] at h;rw[putL_end (fun y hy=>?_),ih h,e];obtain⟨i,hi,hiy⟩:=List.mem_iff_getElem.1 hy;refine h i p.length y x hi ?_ ?_
  ·rw [List.append_assoc,List.getElem?_append_left hi]
   exact List.getElem?_eq_some_iff.2 ⟨hi,hiy⟩
  ·rw [List.append_assoc,List.getElem?_append_right (Nat.le_refl _),Nat.sub_self]
   rfl
theorem rowK_asc {l:List Ch} (h:ascL l):AscR (rowK l) l.length:=fun i j hij hj=>by
 have hx:=List.getElem?_eq_getElem (show i<l.length by omega);have hy:=List.getElem?_eq_getElem hj;rw[rowK_at hx,rowK_at hy];have:=h i j _ _ hij hx hy;omega
theorem sortAsc {p news:List Ch} (h:ascL (p++news)) (hl:(p++news).length≤100000000):SortOk p news:=fun P w v hp=>by
 rw[puts_end h];have h2:=hp.own';obtain⟨l,hln⟩:∃l,p++news=l:=⟨_,rfl⟩
 rw[hln] at h hl hp h2 ⊢;by_cases hz:l.length=0
 ·have hl0:l=[]:=List.eq_nil_of_length_eq_zero hz
  subst hl0;obtain⟨a,c,rfl,-⟩:=h2.len;exact(sort_zero a c _ w).mono fun r w' ⟨e1,e2⟩=>⟨e1,e2▸h2,e2▸Keeps.refl _ _⟩
 ·rcases hp with⟨_,e⟩|⟨g,o,c,N,rfl,hat,h3,h4,h5,h6⟩
  ·rw [e] at hz
   exact absurd rfl hz
  ·exact (sortst_asc g o l.length N c (rowK l) (by omega) hl (rowK_asc h) w hat.ck).mono fun r w' ⟨e1,e2⟩=>⟨e1,h2.keep e2,Keeps.of_below e2⟩
def MxS (gm gl:Nat) (P:Nat→Prop) (c:Cf) (sv:Value) (f:Fx) (y:Ms) (kk:Nat) (W:World):Prop:=
 ∃gj k PL Q s,MsS gm gl gj k P PL Q c sv f y s W∧k≤kk
theorem MxS.keepB {gm gl kk:Nat} {P:Nat→Prop} {c:Cf} {sv:Value} {f:Fx} {y:Ms} {W X:World} (h:MxS gm gl P c sv f y kk W) (hb:Below W.heap.size W X):MxS gm gl P c sv f y kk X:=by
 obtain⟨gj,k,PL,Q,s,h1,h2⟩:=h;exact⟨gj,k,PL,Q,s,h1.keepB hb,h2⟩
theorem MxS.plt {gm gl kk:Nat} {P:Nat→Prop} {c:Cf} {sv:Value} {f:Fx} {y:Ms} {W:World} (h:MxS gm gl P c sv f y kk W):∀j,P j→j<W.heap.size:=by
 obtain⟨gj,k,PL,Q,s,h1,h2⟩:=h;exact h1.plt
theorem MxS.le {gm gl kk k2:Nat} {P:Nat→Prop} {c:Cf} {sv:Value} {f:Fx} {y:Ms} {W:World} (h:MxS gm gl P c sv f y kk W) (hk:kk≤k2):MxS gm gl P c sv f y k2 W:=by
 obtain⟨gj,k,PL,Q,s,h1,h2⟩:=h;exact⟨gj,k,PL,Q,s,h1,Nat.le_trans h2 hk⟩
theorem MxS.base {gm gl k0 kk:Nat} {P P':Nat→Prop} {c:Cf} {sv:Value} {f:Fx} {y0 y:Ms} {W0 W:World} (h0:MxS gm gl P c sv f y0 k0 W0) (h:MxS gm gl P' c sv f y kk W) (hk:Keeps P W0 W) (hp:∀j,P' j→GrowP P W0 W j):MxS gm gl (GrowP P W0 W) c sv f y kk W:=by
 obtain⟨gj0,k0',PL0,Q0,s0,h1,-⟩:=h0;obtain⟨gj,k,PL,Q,s,h2,h3⟩:=h;exact⟨gj,k,PL,Q,s,h1.base h2 hk hp,h3⟩
theorem MxS.wide {gm gl k0 kk:Nat} {P P' PX:Nat→Prop} {c:Cf} {sv:Value} {f:Fx} {y0 y:Ms} {wc W:World} (hc:MxS gm gl P c sv f y0 k0 wc) (h:MxS gm gl P' c sv f y kk W) (hk:Keeps P wc W) (hp:∀j,P' j→PX j) (hl:∀j,PX j→j<W.heap.size) (hsub:∀j,j<wc.heap.size→PX j→P j):MxS gm gl PX c sv f y kk W:=by
 obtain⟨gj0,k0',PL0,Q0,s0,h1,-⟩:=hc;obtain⟨gj,k,PL,Q,s,h2,h3⟩:=h;have hX:∀Y,Keeps PX W Y→Keeps P wc Y:=fun Y hY=>hk.trans hY hsub
 exact⟨gj,k,PL,Q,s,h2.wider hp hl (fun Y hY=>⟨h1.rgs Y (hX Y hY),h1.G.rd Y (hX Y hY)⟩),h3⟩
theorem MxS.step2 {gm gl k0 kk:Nat} {P:Nat→Prop} {c:Cf} {sv:Value} {f:Fx} {y0 y:Ms} {wc W0 W W':World} (hc:MxS gm gl P c sv f y0 k0 wc) (hz:wc.heap.size≤W0.heap.size) (hz2:W0.heap.size≤W.heap.size) (hkd:Keeps P wc W) (h:MxS gm gl (GrowP (GrowP P W0 W) W W') c sv f y kk W') (hk:Keeps (GrowP P W0 W) W W'):MxS gm gl (GrowP P W0 W') c sv f y kk W'∧Keeps P wc W':=by
 have hks:Keeps P wc W':=hkd.trans hk (fun j hj e=>by
  rcases e with e|e
  ·exact e
  ·omega)
 refine⟨hc.wide h hks (fun j hj=>hj.step hz2 hk.size) (fun j hj=>?_) (fun j hj e=>?_),hks⟩
 ·rcases hj with e|e
  ·have:=hc.plt j e
   have:=hks.size;omega
  ·exact e.2
 ·rcases e with e|e
  ·exact e
  ·omega
theorem MxS.store2 {gm gl k0 kk ob:Nat} {P:Nat→Prop} {c:Cf} {sv:Value} {f:Fx} {y0 y:Ms} {wc W0 W X:World} (hc:MxS gm gl P c sv f y0 k0 wc) (hz:wc.heap.size≤W0.heap.size) (h:MxS gm gl (GrowP P W0 W) c sv f y kk W) (hkd:Keeps P wc W) (hob:wc.heap.size≤ob) (hno:¬GrowP P W0 W ob) (hk:Keeps (· =ob) W X) (hs:X.heap.size=W.heap.size):MxS gm gl (GrowP P W0 X) c sv f y kk X∧Keeps P wc X:=by
 have hks:Keeps P wc X:=hkd.trans hk (fun j hj e=>by have e':j=ob:=e;omega);have hg:GrowP P W0 X=GrowP P W0 W:=by
  funext j
  unfold GrowP;rw[hs]
 refine⟨?_,hks⟩;rw[hg];obtain⟨gj0,k0',PL0,Q0,s0,h1,-⟩:=hc;obtain⟨gj,k,PL,Q,s,h2,h3⟩:=h;have hX:∀Y,Keeps (GrowP P W0 W) X Y→Keeps P wc Y:=fun Y hY=>hks.trans hY (fun j hj e=>by
  rcases e with e|e
  ·exact e
  ·omega)
 exact⟨gj,k,PL,Q,s,h2.keep hk (fun j hj e=>hno (by have e':j=ob:=e;rw[←e'];exact hj)) (fun Y hY=>⟨h1.rgs Y (hX Y hY),h1.G.rd Y (hX Y hY)⟩),h3⟩
def MxPost (gm gl:Nat) (P:Nat→Prop) (c:Cf) (sv:Value) (f:Fx) (y:Ms) (kk:Nat) (w:World) (r:Ending) (w':World):Prop:=r=.returned (.int .i64 0)∧MxS gm gl (GrowP P w w') c sv f y kk w'∧Keeps P w w'
theorem mx_begin {gm gl kk:Nat} {P:Nat→Prop} {c:Cf} {sv:Value} {f:Fx} {y:Ms} {w:World} (h:MxS gm gl P c sv f y kk w) (hz:(y.b&&(y.x.kind !=3))=false) (i:Nat) (x0 x1:Int) (hx:c.sets[i]?=some (x0,x1)) (un:Int) (q:Rq) (hu:1≤un∧un≤247) (hq:q.ok=true) (hn0:0≤y.now) (hn1:y.now≤600000000000000000):
  Calls Tryz.prog 26 #[.pointer (some ⟨gm,0,none⟩),.int .i64 (i:Int),.int .i64 un,.agg #[.int .i64 q.fn,.int .i64 q.addr,.int .i64 q.qty,.int .i64 q.code,.int .i64 q.obj]] w (MxPost gm gl P c sv f ⟨y.n,true,(Tx.new x0 x1 c.re c.ti c.de).begun un q y.now,i,y.now⟩ 1 w):=by
 obtain⟨gj,k,PL,Q,s,h1,-⟩:=h;obtain⟨qf,qa,qq,qc,qo⟩:=q;refine(mbegin_any h1 hz i x0 x1 hx un qf qa qq qc qo hn0 hn1 0 ?_).mono fun r w' hp=>?_
 ·unfold bgE
  rw[if_pos hu,if_pos hq]
 ·obtain ⟨gj2,k2,PL2,Q2,s2,e1,e2,e3,e4⟩:=hp.2 rfl
  exact⟨e1,⟨gj2,k2,PL2,Q2,s2,e2,e4⟩,e3⟩
theorem mx_wait {gm gl kk:Nat} {P:Nat→Prop} {c:Cf} {sv:Value} {f:Fx} {y:Ms} {w:World} (h:MxS gm gl P c sv f y kk w) (hb:y.b=false) (hp:y.n.pend=[]) (hn0:0≤y.now) (hn1:y.now≤600000000000000000):
  Calls Tryz.prog 22 #[.pointer (some ⟨gm,0,none⟩)] w fun r w'=>∃now',r=.returned (.tuple #[])∧y.now≤now'∧now'≤y.now+20000000∧MxS gm gl (GrowP P w w') c sv f ⟨y.n,false,y.x,y.set,now'⟩ kk w'∧Keeps P w w':=by
 obtain⟨gj,k,PL,Q,s,h1,h2⟩:=h;refine(mwait_any h1 hb hp hn0 hn1).mono fun r w' ⟨now',e1,e2,e3,e4,e5⟩=>?_
 exact⟨now',e1,e2,e3,⟨gj,k,PL,Q,s,e4,h2⟩,e5⟩
structure AttC (c:Sc) (Wp Dp:Nat→Du→Prop):Prop where
 ph1:∀{m d},Wp m d→d.x.ph=1
 le:∀{m d},Wp m d→(m:Int)≤c.re
 bb:∀{m d},Wp m d→d.x.b=c.bd
 by_:∀{m d},Wp m d→d.x.bytes=c.fr
 se:∀{m d},Wp m d→d.n.sendE c.fr.length d.x.now=0
 pn:∀{m d},Wp m d→d.n.pend.length≤90000000
 sn:∀{m d},Wp m d→d.n.sent.length≤1000000000
 so:∀{m d},Wp m d→SortOk d.n.pend (newsF c.l (atOf c.ats c.lp d.n.sent.length) c.bd c.pa c.fr d.x.now)
 mu:∀{m d},Wp m d→(Du.mk (d.n.send c.l c.ats c.lp c.bd c.pa c.fr d.x.now) (d.x.sent (d.x.now+frameT c.bd c.fr.length))).mu≤100000000
 next:∀{m d},Wp m d→Wp (m+1) (c.go d)∨Dp (m+1) (c.go d)
 ph5:∀{m d},Dp m d→d.x.ph=5
def MsD (d:Du) (i:Nat):Ms:=⟨d.n,true,d.x,(i:Int),d.x.now⟩
def sentS (c:Sc) (d:Du) (i:Nat):Ms:=⟨d.n.send c.l c.ats c.lp c.bd c.pa c.fr d.x.now,true,d.x.sent (d.x.now+frameT c.bd c.fr.length),(i:Int),d.x.now+frameT c.bd c.fr.length⟩
theorem mx_send {gm gl kk m i:Nat} {P:Nat→Prop} {c:Cf} {sv:Value} {f:Fx} {w:World} {sc:Sc} {Wp Dp:Nat→Du→Prop} {d:Du} (hA:AttC sc Wp Dp) (h:MxS gm gl P c sv f (MsD d i) kk w) (hW:Wp m d) (hx:c.sets[i]?=some (sc.bd,sc.pa)) (hf:f.l=sc.l∧f.ats=sc.ats∧f.lp=sc.lp) (hkk:kk≤1000000000):
  Calls Tryz.prog 27 #[.pointer (some ⟨gm,0,none⟩)] w (MxPost gm gl P c sv f (sentS sc d i) (kk+1) w):=by
 obtain⟨gj,k,PL,Q,s,h1,h2⟩:=h;obtain⟨f1,f2,f3⟩:=hf;refine(msend_by h1 rfl (hA.ph1 hW) i sc.bd sc.pa hx rfl (hA.bb hW) sc.fr (hA.by_ hW) (hA.se hW) (hA.pn hW) (hA.sn hW) (by omega) (by rw[f1,f2,f3];exact hA.so hW)).mono fun r w' ⟨gj2,k2,PL2,Q2,s2,e1,e2,e3,e4⟩=>?_
 rw[f1,f2,f3] at e2;exact⟨e1,⟨gj2,k2,PL2,Q2,s2,e2,by omega⟩,e3⟩
def MxLis (gm gl:Nat) (P:Nat→Prop) (c:Cf) (sv:Value) (f:Fx) (d:Du) (i kk:Nat) (V:Bool) (w:World) (r:Ending) (w':World):Prop:=
 ∃da dc oa oc,r=.returned (.tuple #[.agg #[.int .i64 d.x.shown.verdict,.int .i64 d.x.shown.reply.fn,.int .i64 d.x.shown.reply.exc,.slice da d.x.shown.reply.data.length dc,.int .i64 d.x.shown.reply.code,.int .i64 d.x.shown.reply.level,.bool d.x.shown.reply.more,.int .i64 d.x.shown.reply.next,.slice oa d.x.shown.reply.objs.length oc],.bool V])∧(∀X,Agree w.heap.size w' X→RpIs X d.x.shown.reply da dc oa oc)∧MxS gm gl (GrowP P w w') c sv f (MsD d i) kk w'∧Keeps P w w'
theorem mx_listen {gm gl kk m i:Nat} {P:Nat→Prop} {c:Cf} {sv:Value} {f:Fx} {w:World} {sc:Sc} {Wp Dp:Nat→Du→Prop} {d:Du} (hA:AttC sc Wp Dp) (h:MxS gm gl P c sv f (sentS sc d i) kk w) (hW:Wp m d) (hkk:kk≤900000000) (V:Bool) (hV:decide ((sc.go d).x.ph=5)=V):
  Calls Tryz.prog 23 #[.pointer (some ⟨gm,0,none⟩)] w (MxLis gm gl P c sv f (sc.go d) i (kk+100000000) V w):=by
 obtain⟨gj,k,PL,Q,s,h1,h2⟩:=h;have hmu:=hA.mu hW;refine(mlisten_any h1 rfl (.inl rfl) (by show k+(Du.mk (d.n.send sc.l sc.ats sc.lp sc.bd sc.pa sc.fr d.x.now) (d.x.sent (d.x.now+frameT sc.bd sc.fr.length))).mu≤_;omega)).mono fun r w' ⟨da,dc,oa,oc,k2,PL2,Q2,s2,e1,e2,e3,e4,e5⟩=>?_
 have e5':k2≤k+(Du.mk (d.n.send sc.l sc.ats sc.lp sc.bd sc.pa sc.fr d.x.now) (d.x.sent (d.x.now+frameT sc.bd sc.fr.length))).mu:=e5;have hd:(Du.mk (sentS sc d i).n (sentS sc d i).x).heard=sc.go d:=rfl;rw[hd] at e1 e2 e3;exact⟨da,dc,oa,oc,by rw[e1,hV],e2,⟨gj,k2,PL2,Q2,s2,e3,by omega⟩,e4⟩
structure Rest (y:Ms) (i:Nat):Prop where
 fin:(y.b&&(y.x.kind !=3))=false
 pend:y.n.pend=[]
 free:y.n.free≤y.now
 last:y.n.last≤y.now
 n0:0≤y.now
 n1:y.now≤20000000+90000000*i
 sn:y.n.sent.length≤6*i
def mkSc (c:Cf) (l:List Sl) (s:Scr) (x0 x1 u:Int) (q:Rq) (s0:List ((Int×Int)×List UInt8)):Sc:=⟨l,s.ats,s.loop,x0,x1,u,q,c.re,c.ti,c.de,s0⟩
theorem mkSc_ok {c:Cf} {l:List Sl} {s:Scr} {x0 x1 u:Int} {q:Rq} {s0:List ((Int×Int)×List UInt8)} (hG:CfG c) (hB:BusP l) (hs:s.ok) (hbd:BdP s c.ti c.de) (hset:Okset x0 x1) (hu:1≤u∧u≤247) (hq:q.ok=true):(mkSc c l s x0 x1 u q s0).ok:=
 ⟨hB,hs.2.2.2.2,hset,hu.1,hu.2,hq,by have:=hG.ti0;show 0≤c.ti;omega,hG.ti1,hG.de0,hG.de1,fun i=>(hbd.any (by have:=hG.ti0;omega) hG.de0 i).1,fun i=>(hbd.any (by have:=hG.ti0;omega) hG.de0 i).2⟩
theorem TrW.start {sc:Sc} {y:Ms} {i:Nat} (h:Rest y i) (h0:sc.s0=y.n.sent) (hre:0≤sc.re):TrW sc 0 y.now ⟨y.n,(Tx.new sc.bd sc.pa sc.re sc.ti sc.de).begun sc.u sc.q y.now⟩:=
 ⟨⟨by rw[h0];exact(List.append_nil _).symm,h.pend,h.free,h.last,h.n0,by show y.now≤y.now+_;omega,rfl,rfl,rfl,rfl,rfl,rfl,rfl,rfl⟩,rfl,hre,fun _=>⟨rfl,rfl⟩,fun _=>⟨rfl,fun ⟨j,hj,_⟩=>absurd hj (Nat.not_lt_zero j)⟩,fun _ _ j hj=>absurd hj (Nat.not_lt_zero j)⟩
theorem Tr.bytes {sc:Sc} {m:Nat} {t0:Int} {d:Du} (h:Tr sc m t0 d) (hp:d.x.ph=1):d.x.bytes=sc.fr:=by
 unfold Tx.bytes Sc.fr rqFrame;rw[if_pos hp,h.un,h.q]
theorem trAtt {sc:Sc} (ok:sc.ok) (h0:sc.s0.length≤1000) (t0:Int) (ht:t0≤500000000000000000) (hre:sc.re≤5):AttC sc (fun m d=>TrW sc m t0 d) (fun m d=>TrD sc m t0 d):=
 {ph1:=fun h=>h.ph
  le:=fun h=>h.le
  bb:=fun h=>h.tr.b
  by_:=fun h=>h.tr.bytes h.ph
  se:=fun h=>h.tr.sendE (by have:=h.tr.now1;have:=h.le;omega)
  pn:=fun h=>by rw[h.tr.pend];show 0≤90000000;decide
  sn:=fun {m d} h=>by rw[h.tr.sent,List.length_append,List.length_replicate];have:=h.le;omega
  so:=fun {m d} h=>by
   have hao:=atOf_ok ok.ats sc.lp d.n.sent.length
   have hr:=rcvF_len ok.bus (atOf sc.ats sc.lp d.n.sent.length) sc.bd sc.pa sc.fr
   rw[h.tr.pend]
   unfold newsF
   exact sortAsc (chsN_asc (by have:=cK ok.set;omega) (At.ok_bd hao).2.2.2.2.1 _ _) (by rw[List.nil_append,chsN_len];omega)
  mu:=fun {m d} h=>by
   have h1:=rcvF_len ok.bus (atOf sc.ats sc.lp d.n.sent.length) sc.bd sc.pa sc.fr
   show ((newsF sc.l (atOf sc.ats sc.lp d.n.sent.length) sc.bd sc.pa sc.fr d.x.now).foldl putL d.n.pend).length+wPh 2≤_
   rw[puts_len,h.tr.pend]
   unfold newsF
   rw[chsN_len]
   have h3:wPh 2=3:=rfl
   rw[h3,List.length_nil]
   omega
  next:=fun h=>h.next ok
  ph5:=fun h=>h.ph}
theorem TrD.rest {sc:Sc} {m:Nat} {t0:Int} {d:Du} (h:TrD sc m t0 d) (hre:sc.re≤5) {i:Nat} (ht:t0≤20000000+90000000*i) (h0:sc.s0.length≤6*i) (st:Nat):Rest (MsD d st) (i+1):=
 {fin:=by show (true&&(d.x.kind !=3))=false;unfold Tx.kind;rw[if_neg (by rw[h.ph];decide),if_neg (by rw[h.ph];decide),if_pos h.ph];rfl
  pend:=h.tr.pend
  free:=h.tr.free
  last:=h.tr.last
  n0:=h.tr.now0
  n1:=by
   have:=h.tr.now1
   have:=h.le
   show d.x.now≤_
   omega
  sn:=by
   show d.n.sent.length≤_
   rw[h.tr.sent,List.length_append,List.length_replicate]
   have:=h.le
   omega}
theorem rbnd_w (s:Scr) (av cv:Value) (ti de:Int) (w:World) (ha:Ats w av s.ats) (hc:Rgs w cv s.cr) (V:Bool) (hV:V=true↔s.ok∧BdP s ti de):Calls Tryz.prog 11 #[.agg #[av,.bool s.loop,cv],.int .i64 ti,.int .i64 de] w (BoolPost w V):=
 (rbnd_any s av cv ti de w ha hc).mono fun r w' ⟨B,h1,h2,h3⟩=>by
  have e:B=V:=by
   cases B<;>cases V
   ·rfl
   ·exact absurd (h2.out.2 (hV.1 rfl)) Bool.noConfusion
   ·exact absurd (hV.2 (h2.out.1 rfl)) Bool.noConfusion
   ·rfl
  subst e;exact⟨h1,h3⟩
def Idle (gm gl B:Nat) (c:Cf) (l:List Sl) (s:Scr) (i:Nat) (W:World):Prop:=∃P sv f y,MxS gm gl P c sv f y 1000000000 W∧Rest y i∧(∀j,P j→B≤j)∧f.l=l∧f.ats=s.ats∧f.lp=s.loop
def qPr:Rq:=⟨3,0,1,0,0⟩
theorem qPr_ok:qPr.ok=true:=by kernel_rfl
def InS (gm gl ob:Nat) (P:Nat→Prop) (c:Cf) (sv:Value) (f:Fx) (i:Nat) (sc:Sc) (t0:Int) (wc W0:World) (m:Nat) (D:Bool) (W:World):Prop:=
 ∃d kk,MxS gm gl (GrowP P W0 W) c sv f (MsD d i) kk W∧(Keeps P wc W∧W0.heap.size≤W.heap.size)∧kk≤1+m*100000001∧(D=false→TrW sc m t0 d)∧(D=true→TrD sc m t0 d)∧
  (∃v a1 a2 a3 a4 a5 a6 a7 a8,W.heap[ob]?=some (.cells #[.int .i64 v,a1,a2,a3,a4,a5,a6,a7,a8] 55)∧(D=true→v=d.x.out.verdict))
theorem one_mem {l:List Nat} (h:l≠[]) (h2:¬1<l.length):l.length=1:=by
 cases l with
 |nil=>exact absurd rfl h
 |cons a t=>simp only[List.length_cons] at h2 ⊢;omega
theorem stateOf2 {v:Int} (h:v=1∨v=2):stateOf v=2:=by rcases h with e|e<;>subst e<;>rfl
end Go.Proofs.YtoaoejaodhedaaaGreat
