import Derived.Test.YtoaoejaodhedaaaGreatV03
namespace Go.Proofs.YtoaoejaodhedaaaGreat
open Go.RowKit
open Option renaming none→J,some→M
open Value renaming int→Y
open IntKind renaming i64→O
set_option maxHeartbeats 25600000
set_option maxRecDepth 100000
variable {news p:List Ch} {a b g:Nat} {T t t1:Nat→Kc} {P:Nat→Prop} {av sv v:Value} {W w:World}
theorem O5 (m e:Nat) (t:Nat→Kc):fy m m e t=t:=by
 funext k
 unfold fy;split
 ·rfl
 ·split
  ·congr 1;omega
  ·congr 1;omega
theorem O8 (s m:Nat) (t:Nat→Kc) (h:s≤m):fy s m m t=t:=by
 funext k
 unfold fy;split
 ·rfl
 ·split
  ·congr 1;omega
  ·congr 1;omega
theorem Gr.mrg {k e:Nat} (m:k≤e) (h:Gr T t1 a k) (hm:lU T k e b):lU t1 k e b:=
 ⟨fun i j c d f=>by rw[h.out i (by omega),h.out j (by omega)];exact hm.l i j c d f,fun i j c d f=>by rw[h.out i (by omega),h.out j (by omega)];exact hm.r i j c d f,fun i j c d f l=>by rw[h.out i (by omega),h.out j (by omega)];exact hm.x i j c d f l⟩
theorem Pm (g o n N c:Nat) (t:Nat→Kc) (a m b:Nat) (Cg:a+1<m) (a9:m+1<b) (hb:b≤n) (hn:n≤100000000) (hm:lU t a m b) (w:World) (h:eO w g o n N t)
  (IH:∀(X:World) (T:Nat→Kc) (a' m' b':Nat),a'<m'→m'<b'→b'≤n→b'-a'<b-a→lU T a' m' b'→eO X g o n N T→Calls Tryz.prog 203 #[.slice (M ⟨g,o,J⟩) n c,Y O (a':Int),Y O (m':Int),Y O (b':Int),.func (.func 160) #[] #[]] X (uX X g o n N T a' b')):
  Calls Tryz.prog 203 #[.slice (M ⟨g,o,J⟩) n c,Y O (a:Int),Y O (m:Int),Y O (b:Int),.func (.func 160) #[] #[]] w (uX w g o n N t a b):=by
 have H:=hid h;have HM:=hid hm;have bA:=hid IH;have HB:=hid (And.intro Cg (And.intro a9 (And.intro hb hn)));have bQ:Hid (∀(X:World) (s e:Nat),s<m→m<e→e≤n→eO X g o n N t→Calls Tryz.prog 220 #[.slice (M ⟨g,o,J⟩) n c,Y O (s:Int),Y O (m:Int),Y O (e:Int),.func (.func 160) #[] #[]] X (yo X g o n N (fy s m e t))):=fun X s e h1 h2 h3 h4=>Uq g o n N c t _ s m e h1 h2 h3 hn X h4
 obtain⟨D,hD⟩:∃D:Nat,m-a=D:=⟨_,rfl⟩
 have cz:IntKind.i64.wrap ((m:Int)- (a:Int))=(D:Int):=(IntWalk.i64_in _ (by omega)).trans (by omega);have cp:((D:Int)==1)=false:=b0 (by omega);have ct:¬D=1:=by omega
 obtain⟨E,hE⟩:∃D:Nat,b-m=D:=⟨_,rfl⟩
 have cD:IntKind.i64.wrap ((b:Int)- (m:Int))=(E:Int):=(IntWalk.i64_in _ (by omega)).trans (by omega);have cv:((E:Int)==1)=false:=b0 (by omega);have cw:¬E=1:=by omega
 obtain⟨Mp,cj⟩:∃Q:Nat,a+b=Q:=⟨_,rfl⟩
 have c9:IntKind.i64.wrap ((a:Int)+(b:Int))=(Mp:Int):=(IntWalk.i64_in _ (by omega)).trans (by omega);have db:IntKind.u64.wrap (Mp:Int)=(Mp:Int):=IntWalk.u64_in _ (by omega);obtain⟨j,cl⟩:∃h:Nat,Mp/2=h:=⟨_,rfl⟩
 have dk:(Mp:Int)/2=(j:Int):=by omega
 have dq:IntKind.i64.wrap (j:Int)=(j:Int):=IntWalk.i64_in _ (by omega);obtain⟨nn,nK⟩:∃x:Nat,j+m=x:=⟨_,rfl⟩
 have cV:IntKind.i64.wrap ((j:Int)+(m:Int))=(nn:Int):=(IntWalk.i64_in _ (by omega)).trans (by omega);obtain⟨p,hp⟩:∃x:Nat,nn-1=x:=⟨_,rfl⟩
 have cX:IntKind.i64.wrap ((nn:Int)-1)=(p:Int):=(IntWalk.i64_in _ (by omega)).trans (by omega);have BZ:Hid (j=(a+b)/2∧nn=j+m∧p+1=nn∧a<j∧j<b):=by show _∧_;omega
 obtain⟨R,r0,C⟩:∃R r0:Nat,(j<m→R=j+m-b∧r0=j)∧(m≤j→R=a∧r0=m):=by
  by_cases e:j<m
  ·exact ⟨j+m-b,j,fun _=>⟨rfl,rfl⟩,fun h=>by omega⟩
  ·exact ⟨a,m,fun h=>absurd h e,fun _=>⟨rfl,rfl⟩⟩
 have b7:=hid C;have Jo:Hid (a≤R∧R≤r0∧r0≤m∧r0≤j∧j+m-R≤b):=by
  show _∧_;by_cases e:j<m
  ·obtain ⟨e1,e2⟩:=C.1 e;omega
  ·obtain ⟨e1,e2⟩:=C.2 (by omega);omega
 clear h hm IH hD hE nK hp cj cl;go_enter Tryz.func203,Tryz.ntmps203;go_upto_if 140 with(fail)
 go_cut [20,21] from 140 to 146 (fun cd cf wc=>cd=Y O (R:Int)∧cf=Y O (r0:Int)∧wc=w)
 case first=>
  by_cases e:j<m
  ·have q1:(j:Int)<(m:Int):=by omega
   obtain⟨e1,e2⟩:=C.1 e;have q2:IntKind.i64.wrap ((nn:Int)- (b:Int))=(R:Int):=(IntWalk.i64_in _ (by have:=BZ.out;have:=HB.out;omega)).trans (by have:=BZ.out;have:=HB.out;omega);subst e2;clear C e1 Cg a9 hb hn;go_wp2;go_meet
   case rel=>exact⟨rfl,rfl,rfl⟩
  ·have q1:¬(j:Int)<(m:Int):=by omega
   obtain⟨e1,e2⟩:=C.2 (by omega);subst e1 e2;clear C Cg a9 hb hn;go_wp2;go_meet
   case rel=>exact⟨rfl,rfl,rfl⟩
 case rest=>
  obtain⟨rfl,rfl,TJ⟩:=hcut;have cn:=TJ.symm;subst cn;go_upto_region 33 with(fail)
  go_loopw [20,21,23] (fun iv jv _ wr=>∃s r:Nat,R≤s∧s≤r∧r≤r0∧iv=Y O (s:Int)∧jv=Y O (r:Int)∧Hid (∀c,R≤c→c<s→(t c).key<(t (j+m-1-c)).key)∧Hid (∀c,r≤c→c<r0→(t (j+m-1-c)).key<(t c).key)∧Hid (eO wr g o n N t)∧Hid (Keeps (· =g) w wr)) (fun iv jv _ _=>(intOf jv).toNat- (intOf iv).toNat)
  case atStart=>exact⟨R,r0,Nat.le_refl _,Jo.out.2.1,Nat.le_refl _,rfl,rfl,fun k h1 h2=>by omega,fun k h1 h2=>by omega,H.out,Keeps.refl _ _⟩
  case round=>
   obtain⟨s,r,vj,cc,ba,rfl,rfl,ZG,a7,l,ak⟩:=hrel;obtain⟨b1,b2,b3,b4⟩:=HB.out;obtain⟨m1,m2,m3,m4,m5⟩:=BZ.out;obtain⟨l1,l2,l3,l4,l5⟩:=Jo.out;by_cases cb:s<r
   ·have tt:(s:Int)<(r:Int):=by omega
    obtain⟨Qh,b8⟩:∃Q:Nat,s+r=Q:=⟨_,rfl⟩
    have c5:IntKind.i64.wrap ((s:Int)+(r:Int))=(Qh:Int):=(IntWalk.i64_in _ (by omega)).trans (by omega);have c6:IntKind.u64.wrap (Qh:Int)=(Qh:Int):=IntWalk.u64_in _ (by omega);obtain⟨h,ca⟩:∃h:Nat,Qh/2=h:=⟨_,rfl⟩
    have c7:(Qh:Int)/2=(h:Int):=by omega
    have c8:IntKind.i64.wrap (h:Int)=(h:Int):=IntWalk.i64_in _ (by omega);have s5:IntKind.i64.wrap ((h:Int)+1)=((h+1:Nat):Int):=(IntWalk.i64_in _ (by omega)).trans (by omega);have cx:(0:Int)≤(h:Int):=Int.natCast_nonneg _;have xI:s≤h∧h<r:=by omega
    obtain⟨f,hf⟩:∃f:Nat,j+m-1-h=f:=⟨_,rfl⟩
    have s6:IntKind.i64.wrap ((p:Int)- (h:Int))=(f:Int):=(IntWalk.i64_in _ (by omega)).trans (by omega);have Ti:m≤f∧f<b∧f+h=p:=by omega
    have cy:(h:Int)<(n:Int):=by omega
    have lG:(f:Int)<(n:Int):=by omega
    have QE:(0:Int)≤(f:Int):=Int.natCast_nonneg _;have HX:=HM.out.x h f (by omega) (by omega) (by omega) (by omega);have tT:Hid (∀X,Calls Tryz.prog 160 #[.agg #[Y O (t f).at_,Y .u8 (t f).val,Y O (t f).fl,Y O (t f).du],.agg #[Y O (t h).at_,Y .u8 (t h).val,Y O (t h).fl,Y O (t h).du]] X (mS X (decide ((t f).at_<(t h).at_)))):=fun X=>Gt (t f) (t h) X
    have EO:∀X,Below wr.heap.size wr X→X.cell? ⟨g,o+f*4,J⟩=M (Y O (t f).at_):=fun X B=>cell_keep B (l.out.at (i:=f) (by omega)).1
    have A5:∀X,Below wr.heap.size wr X→X.cell? ⟨g,o+f*4+1,J⟩=M (Y .u8 (t f).val):=fun X B=>cell_keep B (l.out.at (i:=f) (by omega)).2.1
    have A6:∀X,Below wr.heap.size wr X→X.cell? ⟨g,o+f*4+2,J⟩=M (Y O (t f).fl):=fun X B=>cell_keep B (l.out.at (i:=f) (by omega)).2.2.1
    have Bb:∀X,Below wr.heap.size wr X→X.cell? ⟨g,o+f*4+3,J⟩=M (Y O (t f).du):=fun X B=>cell_keep B (l.out.at (i:=f) (by omega)).2.2.2
    have ER:∀X,Below wr.heap.size wr X→X.cell? ⟨g,o+h*4,J⟩=M (Y O (t h).at_):=fun X B=>cell_keep B (l.out.at (i:=h) (by omega)).1
    have Bc:∀X,Below wr.heap.size wr X→X.cell? ⟨g,o+h*4+1,J⟩=M (Y .u8 (t h).val):=fun X B=>cell_keep B (l.out.at (i:=h) (by omega)).2.1
    have Be:∀X,Below wr.heap.size wr X→X.cell? ⟨g,o+h*4+2,J⟩=M (Y O (t h).fl):=fun X B=>cell_keep B (l.out.at (i:=h) (by omega)).2.2.1
    have Bh:∀X,Below wr.heap.size wr X→X.cell? ⟨g,o+h*4+3,J⟩=M (Y O (t h).du):=fun X B=>cell_keep B (l.out.at (i:=h) (by omega)).2.2.2
    have kD:Below wr.heap.size wr wr.drew:=(Below.refl _ _).drew;have y:=hid xI;have bx:=hid Ti;have HF:=hid hf;clear b8 ca xI Ti hf m1 m2 m3 m4 m5 l1 l2 l3 l4 l5;by_cases hv:(t f).at_<(t h).at_
    ·have mA:decide ((t f).at_<(t h).at_)=true:=decide_eq_true hv
     rw[mA] at tT;have A1:=hid (HX.1.1 hv);clear hv mA HX;go_upto_region 35 with(fail)
     refine wp_region_held_drew (S:=fun V=>Below wr.heap.size wr V) (by kernel_rfl) kD (fun hH=>?_);clear hH;refine tG 0 158 ?_;refine tG 1 159 ?_;refine tG 2 160 ?_;refine tG 3 161 ?_;refine tG 4 162 ?_;refine tG 5 163 ?_;refine tG 6 164 ?_;refine tG 7 165 ?_;refine tG 8 166 ?_;refine tG 9 167 ?_;refine tG 10 168 ?_;refine rdyH 11 rfl (fun K hK=>?_);go_simp;refine(tT.out _).mono ?_;rintro r w5 ⟨nn,rfl,nK,a6⟩;have A:=bt kD a6 (Nat.le_refl _);refine hK.out _ _ A (fun a5=>?_);clear hK K a5;have dn:decide (nn<0)=true:=nK.out;refine tG 12 170 ?_;refine tG 13 171 ?_;refine wpAnyH_done (by kernel_rfl) ?_ _;clear EO A5 A6 Bb ER Bc Be Bh;have b6:Hid (∀c,h≤c→c<r0→(t (j+m-1-c)).key<(t c).key):=fun c h1 h2=>by
      have h5:=bx.out;have h6:=BZ.out;have h7:=Jo.out;have h8:=y.out;have h9:=HF.out;have a4:=A1.out;by_cases e:c=h
      ·subst e
       rw[h9];exact a4
      ·have h3:=HM.out.l h c (by omega) (by omega) (by omega)
       have h4:=HM.out.r (j+m-1-c) f (by omega) (by omega) (by omega);omega
     go_wp2;go_roundw
     case rel=>exact⟨s,h,vj,y.out.1,by have:=y.out;omega,rfl,rfl,ZG.out,b6.out,l.out.keeps (F:=fun _=>False) (Keeps.af A) (fun e=>e),ak.out.trans (Keeps.af (F:=fun _=>False) A) (fun _ _ e=>e.elim)⟩
     case measure=>have:=y.out;simp [intOf];omega
    ·have mA:decide ((t f).at_<(t h).at_)=false:=decide_eq_false hv
     rw[mA] at tT;have A1:Hid ((t h).key<(t f).key):=by
      show _<_;have h1:=mt HX.1.2 hv;have h2:=HX.2;omega
     clear hv mA HX;go_upto_region 35 with(fail)
     refine wp_region_held_drew (S:=fun V=>Below wr.heap.size wr V) (by kernel_rfl) kD (fun hH=>?_);clear hH;refine tG 0 158 ?_;refine tG 1 159 ?_;refine tG 2 160 ?_;refine tG 3 161 ?_;refine tG 4 162 ?_;refine tG 5 163 ?_;refine tG 6 164 ?_;refine tG 7 165 ?_;refine tG 8 166 ?_;refine tG 9 167 ?_;refine tG 10 168 ?_;refine rdyH 11 rfl (fun K hK=>?_);go_simp;refine(tT.out _).mono ?_;rintro r w5 ⟨nn,rfl,nK,a6⟩;have A:=bt kD a6 (Nat.le_refl _);refine hK.out _ _ A (fun a5=>?_);clear hK K a5;have dn:decide (nn<0)=false:=nK.out;refine tG 12 170 ?_;refine tG 13 171 ?_;refine wpAnyH_done (by kernel_rfl) ?_ _;clear EO A5 A6 Bb ER Bc Be Bh;have uM:Hid (∀c,R≤c→c<h+1→(t c).key<(t (j+m-1-c)).key):=fun c h1 h2=>by
      have h5:=bx.out;have h6:=BZ.out;have h7:=Jo.out;have h8:=y.out;have h9:=HF.out;have a4:=A1.out;by_cases e:c=h
      ·subst e
       rw[h9];exact a4
      ·have h3:=HM.out.l c h (by omega) (by omega) (by omega)
       have h4:=HM.out.r f (j+m-1-c) (by omega) (by omega) (by omega);omega
     go_wp2;go_roundw
     case rel=>exact⟨h+1,r,by have:=y.out;omega,by have:=y.out;omega,ba,rfl,rfl,uM.out,a7.out,l.out.keeps (F:=fun _=>False) (Keeps.af A) (fun e=>e),ak.out.trans (Keeps.af (F:=fun _=>False) A) (fun _ _ e=>e.elim)⟩
     case measure=>have:=y.out;simp [intOf];omega
   ·obtain rfl:s=r:=by omega
    obtain⟨u,BB⟩:∃e:Nat,j+m-s=e:=⟨_,rfl⟩
    have Za:=IW.of HM.out m1 b7.out vj ba ZG.out a7.out;rw[BB] at Za;have ao:=hid Za;obtain⟨T,hT⟩:=gE (fy s m u t);have a8:=IW.YW HM.out Za;rw[hT] at a8;have Vi:=hid a8;have bK:Hid (∀(X:World),s<m→m<u→eO X g o n N t→Calls Tryz.prog 220 #[.slice (M ⟨g,o,J⟩) n c,Y O (s:Int),Y O (m:Int),Y O (u:Int),.func (.func 160) #[] #[]] X (yo X g o n N T)):=fun X h1 h2 h4=>by
     have:=bQ.out X s u h1 h2 (by have:=Za.e2;omega) h4;rw[hT] at this;exact this
    have bC:Hid (¬(s<m∧m<u)→T=t):=fun h=>by
     have q1:=Za.s1;have q2:=Za.e1;rw[←hT];by_cases e:s<m
     ·have:m=u:=by omega
      rw[←this];exact O8 s m t q1
     ·have:s=m:=by omega
      subst this;exact O5 s u t
    have c4:IntKind.i64.wrap ((nn:Int)- (s:Int))=(u:Int):=(IntWalk.i64_in _ (by omega)).trans (by omega);obtain⟨V1,bX⟩:∃V,decide (s<m∧m<u)=V:=⟨_,rfl⟩
    obtain⟨V2,YN⟩:∃V,decide (a<s∧s<j)=V:=⟨_,rfl⟩
    obtain⟨V3,bZ⟩:∃V,decide (j<u∧u<b)=V:=⟨_,rfl⟩
    have XY:=hid bX;have U:=hid YN;have Z:=hid bZ;clear bX YN bZ hT a8 Za BB cb vj cc ba ZG a7 m1 m2 m3 m4 m5 l1 l2 l3 l4 l5 b1 b2 b3 b4;go_upto_region 39 with(fail)
    obtain⟨wo,Cx⟩:∃W,W=wr:=⟨_,rfl⟩
    have Jl:Hid (Keeps (· =g) w wo):=by show Keeps _ _ _;rw[Cx];exact ak.out
    have I7:Hid (eO wo g o n N t):=by show eO _ _ _ _ _ _;rw[Cx];exact l.out
    subst Cx;clear l ak;go_cut [185] from 178 to 185 (fun v wd=>v=.bool V1∧wd=wo)
    case first=>
     by_cases e1:s<m
     ·have q1:(s:Int)<(m:Int):=by omega
      by_cases e2:m<u
      ·have q2:(m:Int)<(u:Int):=by omega
       have z:V1=true:=by rw[←XY.out];exact decide_eq_true ⟨e1,e2⟩
       subst z;clear e1 e2;go_wp2;go_meet
       case rel=>exact⟨rfl,rfl⟩
      ·have q2:¬(m:Int)<(u:Int):=by omega
       have z:V1=false:=by rw[←XY.out];exact decide_eq_false (fun h=>e2 h.2)
       subst z;clear e1 e2;go_wp2;go_meet
       case rel=>exact⟨rfl,rfl⟩
     ·have q1:¬(s:Int)<(m:Int):=by omega
      have z:V1=false:=by rw[←XY.out];exact decide_eq_false (fun h=>e1 h.1)
      subst z;clear e1;go_wp2;go_meet
      case rel=>exact⟨rfl,rfl⟩
    case rest=>
     obtain⟨rfl,rfl⟩:=hcut;go_upto_if 185 with(fail)
     go_cut [] from 185 to 191 (fun we=>Hid (eO we g o n N T∧Keeps (· =g) w we))
     case first=>
      cases V1 with
      |true=>
       have I:=of_decide_eq_true XY.out;have HC:=hid (bK.out _ I.1 I.2 I7.out);clear I;go_wp2_with (go_at_call 220;(with_reducible refine HC.out.mono ?_);rintro r w2 ⟨rfl,cT,eC⟩;have vY:=hid cT;have tg:=hid eC;clear cT eC);go_meet
       case rel=>exact⟨vY.out,Jl.out.trans tg.out (fun _ _ e=>e)⟩
      |false=>
       go_wp2;go_meet
       case rel=>exact⟨by rw[bC.out (of_decide_eq_false XY.out)];exact I7.out,Jl.out⟩
     case rest=>
      have aY:=hid hcut.out;clear hcut Jl I7 bK bC bQ;obtain⟨bm,bo⟩:∃W,W=wc:=⟨_,rfl⟩
      have UX:Hid (eO bm g o n N T):=by show eO _ _ _ _ _ _;rw[bo];exact aY.out.1
      have aX:Hid (Keeps (· =g) w bm):=by show Keeps _ _ _;rw[bo];exact aY.out.2
      clear aY;subst bo;go_upto_region 41 with(fail)
      go_cut [199] from 192 to 199 (fun v wd=>v=.bool V2∧wd=bm)
      case first=>
       by_cases e1:a<s
       ·have q1:(a:Int)<(s:Int):=by omega
        by_cases e2:s<j
        ·have q2:(s:Int)<(j:Int):=by omega
         have z:V2=true:=by rw[←U.out];exact decide_eq_true ⟨e1,e2⟩
         subst z;clear e1 e2;go_wp2;go_meet
         case rel=>exact⟨rfl,rfl⟩
        ·have q2:¬(s:Int)<(j:Int):=by omega
         have z:V2=false:=by rw[←U.out];exact decide_eq_false (fun h=>e2 h.2)
         subst z;clear e1 e2;go_wp2;go_meet
         case rel=>exact⟨rfl,rfl⟩
       ·have q1:¬(a:Int)<(s:Int):=by omega
        have z:V2=false:=by rw[←U.out];exact decide_eq_false (fun h=>e1 h.1)
        subst z;clear e1;go_wp2;go_meet
        case rel=>exact⟨rfl,rfl⟩
      case rest=>
       obtain⟨rfl,bc⟩:=hcut;have bn:=bc.symm;subst bn;go_upto_if 199 with(fail)
       go_cut [] from 199 to 205 (fun we=>Hid (∃t1,xab t1 a j∧Gr T t1 a j∧eO we g o n N t1∧Keeps (· =g) w we))
       case first=>
        cases V2 with
        |true=>
         have I:=of_decide_eq_true U.out;have hb:=HB.out;have ab:=BZ.out;have HC:=hid (bA.out _ T a s j I.1 I.2 (by omega) (by omega) Vi.out.1 UX.out);clear I hb ab;go_wp2_with (go_at_call 203;(with_reducible refine HC.out.mono ?_);rintro r w2 ⟨t1,rfl,zH,L,cT,eC⟩;have G:=hid zH;have ad:=hid L;have vY:=hid cT;have tg:=hid eC;clear zH L cT eC);go_meet
         case rel=>exact⟨t1,G.out,ad.out,vY.out,aX.out.trans tg.out (fun _ _ e=>e)⟩
        |false=>
         have G:Hid (xab T a j):=by
          have I:=of_decide_eq_false U.out;have hc:=ao.out;have h1:=hc.s0;have h2:=hc.s2;by_cases e:a<s
          ·have e2:s=j:=by omega
           have:=Vi.out.1.l;rw[e2] at this;exact this
          ·have e2:s=a:=by omega
           have:=Vi.out.1.r;rw[e2] at this;exact this
         go_wp2;go_meet
         case rel=>exact⟨T,G.out,Gr.refl _ _ _,UX.out,aX.out⟩
       case rest=>
        have a2:=hid hcut.out;clear hcut UX aX;obtain⟨cg,b5⟩:∃W,W=wc:=⟨_,rfl⟩
        rw[←b5] at a2;subst b5;obtain⟨t1,zH,L,xe,kq⟩:=a2.out;have G:=hid zH;have ad:=hid L;have U1:=hid xe;have C6:=hid kq;have oF:=hid (Gr.mrg ao.out.e0 L Vi.out.2.1);clear a2 zH L xe kq;go_upto_region 43 with(fail)
        go_cut [213] from 206 to 213 (fun v wd=>v=.bool V3∧wd=cg)
        case first=>
         by_cases e1:j<u
         ·have q1:(j:Int)<(u:Int):=by omega
          by_cases e2:u<b
          ·have q2:(u:Int)<(b:Int):=by omega
           have z:V3=true:=by rw[←Z.out];exact decide_eq_true ⟨e1,e2⟩
           subst z;clear e1 e2;go_wp2;go_meet
           case rel=>exact⟨rfl,rfl⟩
          ·have q2:¬(u:Int)<(b:Int):=by omega
           have z:V3=false:=by rw[←Z.out];exact decide_eq_false (fun h=>e2 h.2)
           subst z;clear e1 e2;go_wp2;go_meet
           case rel=>exact⟨rfl,rfl⟩
         ·have q1:¬(j:Int)<(u:Int):=by omega
          have z:V3=false:=by rw[←Z.out];exact decide_eq_false (fun h=>e1 h.1)
          subst z;clear e1;go_wp2;go_meet
          case rel=>exact⟨rfl,rfl⟩
        case rest=>
         obtain⟨rfl,bc⟩:=hcut;have bn:=bc.symm;subst bn;go_upto_if 213 with(fail)
         cases V3 with
         |true=>
          have I:=of_decide_eq_true Z.out;have hb:=HB.out;have ab:=BZ.out;have HC:=hid (bA.out _ t1 j u b I.1 I.2 (by omega) (by omega) oF.out U1.out);clear I hb ab;go_wp2_with (go_at_call 203;(with_reducible refine HC.out.mono ?_);rintro r w2 ⟨t2,rfl,vk,uC,cT,eC⟩;have a3:=hid vk;have AS:=hid uC;have vY:=hid cT;have tg:=hid eC;clear vk uC cT eC);go_end0;have ab:=BZ.out;obtain⟨j1,j2⟩:=merge_join (by omega) (by omega) Vi.out.2.2.1 ad.out AS.out G.out a3.out;exact⟨t2,rfl,j1,Vi.out.2.2.2.trans j2,vY.out,C6.out.trans tg.out (fun _ _ e=>e)⟩
         |false=>
          have a3:Hid (xab t1 j b):=by
           have I:=of_decide_eq_false Z.out;have hc:=ao.out;have h1:=hc.e0;have h2:=hc.e2;by_cases e:j<u
           ·have e2:u=b:=by omega
            have:=oF.out.l;rw[e2] at this;exact this
           ·have e2:u=j:=by omega
            have:=oF.out.r;rw[e2] at this;exact this
          go_wp2;go_end0;have ab:=BZ.out;obtain⟨j1,j2⟩:=merge_join (by omega) (by omega) Vi.out.2.2.1 ad.out (Gr.refl _ _ _) G.out a3.out;exact⟨t1,rfl,j1,Vi.out.2.2.2.trans j2,U1.out,C6.out⟩
theorem UJ (g o n N c:Nat) (f:n≤100000000):∀(d:Nat) (t:Nat→Kc) (a m b:Nat),b-a≤d→a<m→m<b→b≤n→lU t a m b→∀w,eO w g o n N t→
  Calls Tryz.prog 203 #[.slice (M ⟨g,o,J⟩) n c,Y O (a:Int),Y O (m:Int),Y O (b:Int),.func (.func 160) #[] #[]] w (uX w g o n N t a b):=by
 intro d
 induction d with
 |zero=>intro t a m b k l i;omega
 |succ d ih=>
  intro t a m b k l i e hm w h;by_cases e1:m=a+1
  ·subst e1
   exact Pq g o n N c t a b i e f hm w h
  ·by_cases e2:b=m+1
   ·subst e2
    exact Pt g o n N c t a m (by omega) e f hm w h
   ·exact Pm g o n N c t a m b (by omega) (by omega) e f hm w h (fun X T j q b' r s u z x y=>ih T j q b' (by omega) r s u x X y)
theorem xaf.xca {n:Nat} (h:xaf t n) (l:b≤n) (c:∀k,a≤k→T k=t k):Mh T a b:=fun i j d e f=>by
 rw[c i d,c j (by omega)];exact h i j e (by omega)
theorem FD.eqv (d:∀k,a≤k→T k=t k):FD t T a b:=(FD.refl t a b).congr fun k c _=>d k c
def Mt (w:World) (g o n N:Nat) (t:Nat→Kc) (r:Ending) (w':World):Prop:=∃t',r=.returned (.tuple #[])∧xab t' 0 n∧FD t t' 0 n∧eO w' g o n N t'∧Keeps (· =g) w w'
theorem Hs (g o n N c:Nat) (t:Nat→Kc) (xg:0<n) (hn:n≤100000000) (ho:xaf t n) (w:World) (h:eO w g o n N t):
  Calls Tryz.prog 183 #[.slice (M ⟨g,o,J⟩) n c,Y O (n:Int),.func (.func 160) #[] #[]] w (Mt w g o n N t):=by
 have H:=hid h;have HO:=hid ho;have HB:=hid (And.intro xg hn);have C5:Hid (∀(T:Nat→Kc) (a b:Nat) (X:World),a≤b→b≤n→Mh T a b→eO X g o n N T→Calls Tryz.prog 202 #[.slice (M ⟨g,o,J⟩) n c,Y O (a:Int),Y O (b:Int),.func (.func 160) #[] #[]] X (L9 X g o n N T a b)):=fun T a b X h1 h2 h3 h4=>ON g o n N c T a b h1 h2 hn h3 X h4
 have ad:Hid (∀(T:Nat→Kc) (a m b:Nat) (X:World),a<m→m<b→b≤n→lU T a m b→eO X g o n N T→Calls Tryz.prog 203 #[.slice (M ⟨g,o,J⟩) n c,Y O (a:Int),Y O (m:Int),Y O (b:Int),.func (.func 160) #[] #[]] X (uX X g o n N T a b)):=fun T a m b X h1 h2 h3 h4 h5=>UJ g o n N c hn (b-a) T a m b (Nat.le_refl _) h1 h2 h3 h4 X h5
 clear h ho hn xg;go_enter Tryz.func183,Tryz.ntmps183;go_upto_region 2 with(fail)
 go_loopw [7,8] (fun av bv wr=>∃(a b:Nat) (T:Nat→Kc),a≤n∧a+20=b∧av=Y O (a:Int)∧bv=Y O (b:Int)∧Hid (20∣a∧pK t T 20 a∧∀k,a≤k→T k=t k)∧Hid (eO wr g o n N T)∧Hid (Keeps (· =g) w wr)) (fun av _ _=>n+1- (intOf av).toNat)
 case atStart=>exact⟨0,20,t,Nat.zero_le _,rfl,rfl,rfl,⟨Nat.dvd_zero _,pK.zero t t 20 (by omega),fun _ _=>rfl⟩,H.out,Keeps.refl _ _⟩
 case round=>
  obtain⟨a,b,T,V,D,rfl,rfl,z,f,l⟩:=hrel;obtain⟨q1,q2⟩:=HB.out;by_cases d:b≤n
  ·have tt:(b:Int)≤(n:Int):=by omega
   have G:=hid (C5.out T a b _ (by omega) d (HO.out.xca d z.out.2.2) f.out);obtain⟨b2,q⟩:∃x,b+20=x:=⟨_,rfl⟩
   have s1:IntKind.i64.wrap ((b:Int)+20)=(b2:Int):=(IntWalk.i64_in _ (by omega)).trans (by omega);have u:=hid (And.intro D (And.intro d q));clear D q;go_wp2_with (go_at_call 202;(with_reducible refine G.out.mono ?_);rintro r w2 ⟨I,rfl,E,A,B⟩;have s:=hid E;have L:=hid A;have K:=hid B;clear E A B);go_roundw
   case rel=>
    obtain⟨e1,e2,e3⟩:=u.out;obtain⟨y,F,p3⟩:=z.out;subst e1;exact⟨a+20,b2,I,e2,e3,rfl,rfl,⟨(Nat.dvd_add_right y).2 (Nat.dvd_refl _),F.succ y s.out.s ((FD.eqv p3).trans s.out.m) (fun k C=>s.out.o k (.inl C)),fun k C=>(s.out.o k (.inr C)).trans (p3 k (by omega))⟩,L.out,l.out.trans K.out (fun _ _ e=>e)⟩
   case measure=>have:=u.out;simp [intOf];omega
  ·have tt:¬(b:Int)≤(n:Int):=by omega
   have G:=hid (C5.out T a n _ V (Nat.le_refl _) (HO.out.xca (Nat.le_refl _) z.out.2.2) f.out);have u:=hid (And.intro D d);clear D d;go_upto_region 7 with(go_at_call 202;(with_reducible refine G.out.mono ?_);rintro r w2 ⟨I,rfl,E,A,B⟩;have s:=hid E;have L:=hid A;have K:=hid B;clear E A B)
   have ab:Hid (fQ t I 20 n 0):=by
    obtain⟨y,F,p3⟩:=z.out;have e:=u.out;exact F.all y (by omega) V s.out.s ((FD.eqv p3).trans s.out.m) (fun k C=>s.out.o k (.inl C))
   have RH:=hid (l.out.trans K.out (fun _ _ e=>e));clear z u tt f l K G C5 s V;go_loopw [6,7,8,9] (fun sv _ _ _ wr=>∃(bs:Nat) (T:Nat→Kc),20≤bs∧bs≤400000000∧sv=Y O (bs:Int)∧Hid (fQ t T bs n 0)∧Hid (eO wr g o n N T)∧Hid (Keeps (· =g) w wr)) (fun sv _ _ _ _=>n- (intOf sv).toNat)
   case atStart=>exact⟨20,I,by omega,by omega,rfl,ab.out,L.out,RH.out⟩
   case round=>
    clear ab L RH;obtain⟨bs,U,Y2,a2,rfl,R,f,l⟩:=hrel;by_cases yx:bs<n
    ·have NA:(bs:Int)<(n:Int):=by omega
     obtain⟨Z,ak⟩:∃x,2*bs=x:=⟨_,rfl⟩
     have s2:IntKind.i64.wrap (2*(bs:Int))=(Z:Int):=(IntWalk.i64_in _ (by omega)).trans (by omega);have s3:IntKind.i64.wrap ((bs:Int)*2)=(Z:Int):=(IntWalk.i64_in _ (by omega)).trans (by omega);have mL:=hid (And.intro ak (And.intro Y2 yx));clear ak;go_upto_region 9 with(fail)
     obtain⟨wo,Cx⟩:∃W,W=wr:=⟨_,rfl⟩
     have Jl:Hid (Keeps (· =g) w wo):=by show Keeps _ _ _;rw[Cx];exact l.out
     have I7:Hid (eO wo g o n N U):=by show eO _ _ _ _ _ _;rw[Cx];exact f.out
     subst Cx;clear f l;go_loopw [7,8] (fun av bv wi=>∃(a b:Nat) (T:Nat→Kc),a≤n∧a+Z=b∧av=Y O (a:Int)∧bv=Y O (b:Int)∧Hid (2*bs∣a∧pK t T (2*bs) a∧fQ t T bs n a)∧Hid (eO wi g o n N T)∧Hid (Keeps (· =g) w wi)) (fun av _ _=>n+1- (intOf av).toNat)
     case atStart=>exact⟨0,Z,U,Nat.zero_le _,Nat.zero_add _,rfl,rfl,⟨Nat.dvd_zero _,pK.zero t U _ (by omega),R.out⟩,I7.out,Jl.out⟩
     case round=>
      clear Jl I7 R;obtain⟨a,b,T,V,D,rfl,rfl,z,f,l⟩:=hrel;obtain⟨z1,z2,z3⟩:=mL.out;obtain⟨m,hm⟩:∃x,a+bs=x:=⟨_,rfl⟩
      have s4:IntKind.i64.wrap ((a:Int)+(bs:Int))=(m:Int):=(IntWalk.i64_in _ (by omega)).trans (by omega);obtain⟨b2,q⟩:∃x,b+Z=x:=⟨_,rfl⟩
      have s5:IntKind.i64.wrap ((b:Int)+(Z:Int))=(b2:Int):=(IntWalk.i64_in _ (by omega)).trans (by omega);by_cases d:b≤n
      ·have tt:(b:Int)≤(n:Int):=by omega
       obtain⟨S,j2⟩:=z.out.2.2.two HO.out z.out.1 (b:=b) (by omega) d (by omega) (.inr (by omega));rw[hm] at S;have G:=hid (ad.out T a m b _ (by omega) (by omega) d S f.out);have HJ:=hid j2;have u:=hid (And.intro D (And.intro d (And.intro q (And.intro hm z1))));clear D q hm S j2 z1 z2 z3;go_wp2_with (go_at_call 203;(with_reducible refine G.out.mono ?_);rintro r w2 ⟨I,rfl,vk,E,A,B⟩;have Q:=hid vk;have s:=hid E;have L:=hid A;have K:=hid B;clear vk E A B);go_roundw
       case rel=>
        obtain⟨e1,e2,e3,e4,e5⟩:=u.out;obtain⟨y,F,p3⟩:=z.out;subst e5 e1;exact⟨a+2*bs,b2,I,e2,e3,rfl,rfl,⟨(Nat.dvd_add_right y).2 (Nat.dvd_refl _),F.succ y Q.out (HJ.out.trans s.out.same) (fun k C=>s.out.out k (.inl C)),p3.ah (by omega) (fun k C=>s.out.out k (.inr C))⟩,L.out,l.out.trans K.out (fun _ _ e=>e)⟩
       case measure=>have:=u.out;have:=mL.out;simp [intOf];omega
      ·have tt:¬(b:Int)≤(n:Int):=by omega
       by_cases aY:m<n
       ·have aX:(m:Int)<(n:Int):=by omega
        obtain⟨S,j2⟩:=z.out.2.2.two HO.out z.out.1 (b:=n) (by omega) (Nat.le_refl _) (by omega) (.inl rfl);rw[hm] at S;have G:=hid (ad.out T a m n _ (by omega) (by omega) (Nat.le_refl _) S f.out);have HJ:=hid j2;have u:=hid (And.intro D (And.intro d (And.intro q (And.intro hm z1))));clear D q hm S j2 z1 z2 z3 d;go_wp2_with (go_at_call 203;(with_reducible refine G.out.mono ?_);rintro r w2 ⟨I,rfl,vk,E,A,B⟩;have Q:=hid vk;have s:=hid E;have L:=hid A;have K:=hid B;clear vk E A B);go_roundw
        case rel=>
         obtain⟨e1,e2,e3,e4,e5⟩:=u.out;obtain⟨y,F,p3⟩:=z.out;have z2:=mL.out;subst e5 e1;exact⟨2*bs,I,by omega,by omega,rfl,F.all y (by omega) V Q.out (HJ.out.trans s.out.same) (fun k C=>s.out.out k (.inl C)),L.out,l.out.trans K.out (fun _ _ e=>e)⟩
        case measure=>have:=u.out;have:=mL.out;simp [intOf];omega
       ·have aX:¬(m:Int)<(n:Int):=by omega
        have ao:Hid (fQ t T (2*bs) n 0):=by
         obtain⟨y,F,p3⟩:=z.out;by_cases e:a<n
         ·obtain ⟨g1,g2⟩:=p3.lone y e (by omega)
          exact F.all y (by omega) V g1 g2 (fun _ _=>rfl)
         ·exact F.all y (by omega) V (fun i j h1 h2 h3=>by omega) ⟨fun i h1 h2=>by omega,fun i h1 h2=>by omega⟩ (fun _ _=>rfl)
        have u:=hid (And.intro D (And.intro d (And.intro q (And.intro hm z1))));clear D q hm z1 z2 z3 d aY;go_wp2;go_roundw
        case rel=>
         obtain⟨e1,e2,e3,e4,e5⟩:=u.out;have z2:=mL.out;subst e5;exact⟨2*bs,T,by omega,by omega,rfl,ao.out,f.out,l.out⟩
        case measure=>have:=u.out;have:=mL.out;simp [intOf];omega
    ·have NA:¬(bs:Int)<(n:Int):=by omega
     obtain⟨g1,g2⟩:=R.out.done q1 (by omega);have HG:=hid (And.intro g1 g2);clear g1 g2;go_wp2;go_end0;exact⟨U,rfl,HG.out.1,HG.out.2,f.out,l.out⟩
theorem Hn (g o n N c:Nat) (t:Nat→Kc) (y:0<n) (s:n≤100000000) (i:xaf t n) (w:World) (h:eO w g o n N t):
  Calls Tryz.prog 159 #[.slice (M ⟨g,o,J⟩) n c,.func (.func 160) #[] #[]] w (Mt w g o n N t):=by
 have m:=hid (Hs g o n N c t y s i w h);clear i h;go_enter Tryz.func159,Tryz.ntmps159;go_wp2_with (go_at_call 183;(with_reducible refine m.out.mono ?_);rintro r z ⟨q,rfl,k,j,e,f⟩;have d:=hid k;have l:=hid j;have x:=hid e;have u:=hid f;clear k j e f);go_end0;exact⟨q,rfl,d.out,l.out,x.out,u.out⟩
theorem eO.pn {o n N:Nat} (h:eO W g o n N t):vq W g o N (nS n t):=by
 obtain⟨c,q,s,x⟩:=h.h;refine⟨⟨c,q,s,fun j u d=>?_⟩,by rw[Dj];exact h.le⟩;have e:=(List.getElem?_eq_some_iff.1 d).1;rw[fI,Dj] at e;obtain⟨i,r,y,rfl⟩:∃i r,r<4∧j=i*4+r:=⟨j/4,j%4,Nat.mod_lt _ (by decide),by omega⟩
 have hi:i<n:=by omega
 rw[ly (Fc hi) r y] at d;obtain⟨f,k,l,m⟩:=x i hi;rw[←Nat.add_assoc];rcases (show r=0∨r=1∨r=2∨r=3 by omega) with rfl|rfl|rfl|rfl
 ·rw [←d];exact f
 ·rw [←d];exact k
 ·rw [←d];exact l
 ·rw [←d];exact m
theorem UH (h:jN P w v (p++news)) (u:oh p) (i:(p++news).length≤100000000):Calls Tryz.prog 159 #[v,.func (.func 160) #[] #[]] w (Oz w v (news.foldl putL p)):=by
 obtain⟨l,f⟩:∃l,p++news=l:=⟨_,rfl⟩
 have hlen:(news.foldl putL p).length=l.length:=by rw[EG,←f,List.length_append]
 rw[f] at h i;by_cases d:l.length=0
 ·have x:l=[]:=List.eq_nil_of_length_eq_zero d
  have C:news.foldl putL p=[]:=List.eq_nil_of_length_eq_zero (by omega);rw[C];subst x;have m:=h.QM;obtain⟨a,c,rfl,-⟩:=h.len;refine(DV a c _ w).mono ?_;rintro r B ⟨rfl,rfl⟩;exact⟨rfl,m,Keeps.refl _ _⟩
 ·rcases h with⟨_,e⟩|⟨g,o,c,N,rfl,y,n,q,s,D⟩
  ·rw [e] at d
   exact absurd rfl d
  ·refine (Hn g o l.length N c (dW l) (by omega) i (vX l) w y.ck).mono ?_
   rintro r B ⟨k,rfl,s1,s2,z,A⟩;have hs:Ep (p++news) (nS l.length k):=by
    rw[f];exact⟨k,s1,s2,rfl⟩
   have he:=hs.xax u;refine⟨rfl,.inr ⟨g,o,c,N,by rw[hlen],by rw[←he];exact z.pn,by rw[hlen];exact n,q,s,rfl⟩,A.mono (fun j _ e=>by subst e;rfl)⟩
theorem KI (d:oh p) (c:(p++news).length≤100000000):kC p news:=fun _ _ _ h=>UH h d c
theorem Dr {lp:Bool} {s:Ln} (h:cU P w g sv av lp s):Calls Tryz.prog 20 #[.pointer (M ⟨g,0,J⟩)] w fun r f=>r=.returned (Y O (s.aA.length:Int))∧w=f:=by
 obtain⟨j,i,cs,h⟩:=h;obtain⟨d,e,rfl⟩:=own_slice h.sn;have c4:w.cell? ⟨g,4,J⟩=M (.slice d s.aA.length e):=hpCell h.at_ 4;obtain⟨n,c⟩:=gE s.aA.length;rw[c] at c4 ⊢;clear h c;go_enter Tryz.func20,Tryz.ntmps20;go_wp2;go_ret;exact⟨rfl,rfl⟩
theorem GU (f a q c o:Int) (e:Rq.ok ⟨f,a,q,c,o⟩=true) (w:World):
  Calls Tryz.prog 81 #[.agg #[Y O f,Y O a,Y O q,Y O c,Y O o]] w (qy w (Rq.bE ⟨f,a,q,c,o⟩)):=by
 have m:Hid (∀W,Calls Tryz.prog 30 #[.agg #[Y O f,Y O a,Y O q,Y O c,Y O o]] W fun r D=>r=.returned (.bool true)∧Below W.heap.size W D):=fun W=>by rw[←e];exact En f a q c o W
 have j:f=17∨f=43∨(1≤f∧f≤4):=by
  unfold Rq.ok at e;simp only at e
  repeat' split at e
  all_goals first|omega|cases e
 rcases j with rfl|rfl|j
 ·go_enter Tryz.func81,Tryz.ntmps81
  go_wp2_with (go_at_call 30;(with_reducible refine(m.out _).mono ?_);rintro r w1 ⟨rfl,d⟩;have y0:=hpCell (hpKeep (hpNew w _) d) 0);go_ret2;exact qy.lit (l:=[17]) (bt (bal' w _) d (Nat.le_refl _)) rfl (by decide) rfl
 ·have s:1≤c∧c≤3∧0≤o∧o≤255:=by
   unfold Rq.ok at e;simp at e;omega
  obtain⟨J,F,u,y⟩:=s;have k:Hid (Rq.bE ⟨43,a,q,c,o⟩=[43,14,byteI c,byteI o]):=rfl;have n:Hid ((#[Y .u8 43,Y .u8 14,Y .u8 c,Y .u8 o]:Array Value)=(u8s [43,14,byteI c,byteI o]).toArray):=by
   show _=_;simp only[u8s,bD,List.map_cons,List.map_nil];rw[au (by omega) (by omega),au u y];rfl
  clear e;go_enter Tryz.func81,Tryz.ntmps81;go_wp2_with (go_at_call 30;(with_reducible refine(m.out _).mono ?_);rintro r w1 ⟨rfl,d⟩;have y0:=hpCell (hpKeep (hpNew w _) d) 0;have N:=hpCell (hpKeep (hpNew w _) d) 3;have Q:=hpCell (hpKeep (hpNew w _) d) 4);go_ret2;rw[k.out];exact qy.lit (bt (bal' w _) d (Nat.le_refl _)) n.out (by simp) rfl
 ·have s:0≤a∧a≤65535∧1≤q∧q≤2000:=by
   unfold Rq.ok at e;simp only at e;rw[if_pos j] at e;simp at e;have:=(lT f).2;omega
  obtain⟨E,z,B,C⟩:=s;have i:¬f=17:=by omega
  have x:¬f=43:=by omega
  have k:Hid (Rq.bE ⟨f,a,q,c,o⟩=[byteI f,byteI (a/256),byteI (a%256),byteI (q/256),byteI (q%256)]):=by
   show _=_;unfold Rq.bE;rw[if_neg i,if_neg x]
  have n:Hid ((#[Y .u8 f,Y .u8 (a/256),Y .u8 (a%256),Y .u8 (q/256),Y .u8 (q%256)]:Array Value)=(u8s [byteI f,byteI (a/256),byteI (a%256),byteI (q/256),byteI (q%256)]).toArray):=by
   show _=_;simp only[u8s,bD,List.map_cons,List.map_nil];rw[au (by omega) (by omega),au (by omega) (by omega),au (by omega) (by omega),au (by omega) (by omega),au (by omega) (by omega)]
  have G:(f==17)=false:=by rw[beq_eq_false_iff_ne];omega
  have I:(f==43)=false:=by rw[beq_eq_false_iff_ne];omega
  obtain⟨K,A⟩:=j;clear e i x;go_enter Tryz.func81,Tryz.ntmps81;go_wp2_with (go_at_call 30;(with_reducible refine(m.out _).mono ?_);rintro r w1 ⟨rfl,d⟩;have y0:=hpCell (hpKeep (hpNew w _) d) 0;have L:=hpCell (hpKeep (hpNew w _) d) 1;have M:=hpCell (hpKeep (hpNew w _) d) 2);go_ret2;rw[k.out];refine qy.lit (bt (bal' w _) d (Nat.le_refl _)) ?_ (by simp) rfl;rw[←n.out]
