/-
 Texts 40 of the claim.
-/
import Derived.Test.YtoaoejaodhedaaaGreatE39
import Derived.Test.YtoaoejaodhedaaaGreatE27
import Derived.Deep.CutRange
import Derived.Deep.CutBlock
import Derived.Test.YtoaoejaodhedaaaGreatE07
import Derived.ArgAppend
namespace Go.Proofs.YtoaoejaodhedaaaGreat
open Go.RowKit
set_option maxHeartbeats 25600000
set_option maxRecDepth 100000
theorem OrdP.ordR {t T:Nat→Kc} {n a b:Nat} (h:OrdP t n) (hb:b≤n) (hT:∀k,a≤k→T k=t k):OrdR T a b:=fun i j h1 h2 h3=>by
 rw[hT i h1,hT j (by omega)]
 exact h i j h2 (by omega)
theorem Same.eqv {t T:Nat→Kc} {a b:Nat} (hT:∀k,a≤k→T k=t k):Same t T a b:=(Same.refl t a b).congr fun k h1 _=>hT k h1
def StPost (w:World) (g o n N:Nat) (t:Nat→Kc) (r:Ending) (w':World):Prop:=∃t',r=.returned (.tuple #[])∧SrtK t' 0 n∧Same t t' 0 n∧CkAt w' g o n N t'∧Keeps (· =g) w w'
theorem stable_any (g o n N c:Nat) (t:Nat→Kc) (hn0:0<n) (hn:n≤100000000) (ho:OrdP t n) (w:World) (h:CkAt w g o n N t):
  Calls Tryz.prog 183 #[.slice (some ⟨g,o,none⟩) n c,.int .i64 (n:Int),.func (.func 160) #[] #[]] w (StPost w g o n N t):=by
 have H:=hid h
 have HO:=hid ho
 have HB:=hid (And.intro hn0 hn)
 have HIS:Hid (∀(T:Nat→Kc) (a b:Nat) (X:World),a≤b→b≤n→OrdR T a b→CkAt X g o n N T→Calls Tryz.prog 202 #[.slice (some ⟨g,o,none⟩) n c,.int .i64 (a:Int),.int .i64 (b:Int),.func (.func 160) #[] #[]] X (IsPost X g o n N T a b)):=fun T a b X h1 h2 h3 h4=>insS_any g o n N c T a b h1 h2 hn h3 X h4
 have HSY:Hid (∀(T:Nat→Kc) (a m b:Nat) (X:World),a<m→m<b→b≤n→MrgP T a m b→CkAt X g o n N T→Calls Tryz.prog 203 #[.slice (some ⟨g,o,none⟩) n c,.int .i64 (a:Int),.int .i64 (m:Int),.int .i64 (b:Int),.func (.func 160) #[] #[]] X (SmPost X g o n N T a b)):=fun T a m b X h1 h2 h3 h4 h5=>sym_any g o n N c hn (b-a) T a m b (Nat.le_refl _) h1 h2 h3 h4 X h5
 clear h ho hn hn0
 go_enter Tryz.func183,Tryz.ntmps183
 go_upto_region 2 with(fail)
 go_loopw [7,8] (fun av bv wr=>∃(a b:Nat) (T:Nat→Kc),a≤n∧a+20=b∧av=.int .i64 (a:Int)∧bv=.int .i64 (b:Int)∧Hid (20∣a∧BlkTo t T 20 a∧∀k,a≤k→T k=t k)∧Hid (CkAt wr g o n N T)∧Hid (Keeps (· =g) w wr)) (fun av _ _=>n+1- (intOf av).toNat)
 case atStart=>exact⟨0,20,t,Nat.zero_le _,rfl,rfl,rfl,⟨Nat.dvd_zero _,BlkTo.zero t t 20 (by omega),fun _ _=>rfl⟩,H.out,Keeps.refl _ _⟩
 case round=>
  obtain⟨a,b,T,han,hab,rfl,rfl,hpl,hck,hkp⟩:=hrel
  obtain⟨q1,q2⟩:=HB.out
  by_cases hlt:b≤n
  ·have hil:(b:Int)≤(n:Int):=by omega
   have HC:=hid (HIS.out T a b _ (by omega) hlt (HO.out.ordR hlt hpl.out.2.2) hck.out)
   obtain⟨b2,hb2⟩:∃x,b+20=x:=⟨_,rfl⟩
   have s1:IntKind.i64.wrap ((b:Int)+20)=(b2:Int):=(IntWalk.i64_in _ (by omega)).trans (by omega)
   have HAB:=hid (And.intro hab (And.intro hlt hb2))
   clear hab hb2
   go_wp2_with (go_at_call 202;(with_reducible refine HC.out.mono ?_);rintro r w2 ⟨T2,rfl,hi2,hck2,hkp2⟩;have HI2:=hid hi2;have HCK:=hid hck2;have HKP:=hid hkp2;clear hi2 hck2 hkp2)
   go_roundw
   case rel=>
    obtain⟨e1,e2,e3⟩:=HAB.out
    obtain⟨p1,p2,p3⟩:=hpl.out
    subst e1
    exact⟨a+20,b2,T2,e2,e3,rfl,rfl,⟨(Nat.dvd_add_right p1).2 (Nat.dvd_refl _),p2.succ p1 HI2.out.s ((Same.eqv p3).trans HI2.out.m) (fun k hk=>HI2.out.o k (.inl hk)),fun k hk=>(HI2.out.o k (.inr hk)).trans (p3 k (by omega))⟩,HCK.out,hkp.out.trans HKP.out (fun _ _ e=>e)⟩
   case measure=>have:=HAB.out;simp [intOf];omega
  ·have hil:¬(b:Int)≤(n:Int):=by omega
   have HC:=hid (HIS.out T a n _ han (Nat.le_refl _) (HO.out.ordR (Nat.le_refl _) hpl.out.2.2) hck.out)
   have HAB:=hid (And.intro hab hlt)
   clear hab hlt
   go_upto_region 7 with(go_at_call 202;(with_reducible refine HC.out.mono ?_);rintro r w2 ⟨T2,rfl,hi2,hck2,hkp2⟩;have HI2:=hid hi2;have HCK:=hid hck2;have HKP:=hid hkp2;clear hi2 hck2 hkp2)
   have HBK:Hid (BlkFrom t T2 20 n 0):=by
    obtain⟨p1,p2,p3⟩:=hpl.out
    have e:=HAB.out
    exact p2.all p1 (by omega) han HI2.out.s ((Same.eqv p3).trans HI2.out.m) (fun k hk=>HI2.out.o k (.inl hk))
   have HKP2:=hid (hkp.out.trans HKP.out (fun _ _ e=>e))
   clear hpl HAB hil hck hkp HKP HC HIS HI2 han
   go_loopw [6,7,8,9] (fun sv _ _ _ wr=>∃(bs:Nat) (T:Nat→Kc),20≤bs∧bs≤400000000∧sv=.int .i64 (bs:Int)∧Hid (BlkFrom t T bs n 0)∧Hid (CkAt wr g o n N T)∧Hid (Keeps (· =g) w wr)) (fun sv _ _ _ _=>n- (intOf sv).toNat)
   case atStart=>exact⟨20,T2,by omega,by omega,rfl,HBK.out,HCK.out,HKP2.out⟩
   case round=>
    clear HBK HCK HKP2
    obtain⟨bs,U,hb20,hbm,rfl,hbk,hck,hkp⟩:=hrel
    by_cases hbn:bs<n
    ·have hbi:(bs:Int)<(n:Int):=by omega
     obtain⟨B2,hB2⟩:∃x,2*bs=x:=⟨_,rfl⟩
     have s2:IntKind.i64.wrap (2*(bs:Int))=(B2:Int):=(IntWalk.i64_in _ (by omega)).trans (by omega)
     have s3:IntKind.i64.wrap ((bs:Int)*2)=(B2:Int):=(IntWalk.i64_in _ (by omega)).trans (by omega)
     have HBB:=hid (And.intro hB2 (And.intro hb20 hbn))
     clear hB2
     go_upto_region 9 with(fail)
     obtain⟨wo,hwo⟩:∃W,W=wr:=⟨_,rfl⟩
     have HKO:Hid (Keeps (· =g) w wo):=by show Keeps _ _ _;rw[hwo];exact hkp.out
     have HCO:Hid (CkAt wo g o n N U):=by show CkAt _ _ _ _ _ _;rw[hwo];exact hck.out
     subst hwo
     clear hck hkp
     go_loopw [7,8] (fun av bv wi=>∃(a b:Nat) (T:Nat→Kc),a≤n∧a+B2=b∧av=.int .i64 (a:Int)∧bv=.int .i64 (b:Int)∧Hid (2*bs∣a∧BlkTo t T (2*bs) a∧BlkFrom t T bs n a)∧Hid (CkAt wi g o n N T)∧Hid (Keeps (· =g) w wi)) (fun av _ _=>n+1- (intOf av).toNat)
     case atStart=>exact⟨0,B2,U,Nat.zero_le _,Nat.zero_add _,rfl,rfl,⟨Nat.dvd_zero _,BlkTo.zero t U _ (by omega),hbk.out⟩,HCO.out,HKO.out⟩
     case round=>
      clear HKO HCO hbk
      obtain⟨a,b,T,han,hab,rfl,rfl,hpl,hck,hkp⟩:=hrel
      obtain⟨z1,z2,z3⟩:=HBB.out
      obtain⟨m,hm⟩:∃x,a+bs=x:=⟨_,rfl⟩
      have s4:IntKind.i64.wrap ((a:Int)+(bs:Int))=(m:Int):=(IntWalk.i64_in _ (by omega)).trans (by omega)
      obtain⟨b2,hb2⟩:∃x,b+B2=x:=⟨_,rfl⟩
      have s5:IntKind.i64.wrap ((b:Int)+(B2:Int))=(b2:Int):=(IntWalk.i64_in _ (by omega)).trans (by omega)
      by_cases hlt:b≤n
      ·have hil:(b:Int)≤(n:Int):=by omega
       obtain⟨j1,j2⟩:=hpl.out.2.2.two HO.out hpl.out.1 (b:=b) (by omega) hlt (by omega) (.inr (by omega))
       rw[hm] at j1
       have HC:=hid (HSY.out T a m b _ (by omega) (by omega) hlt j1 hck.out)
       have HJ:=hid j2
       have HAB:=hid (And.intro hab (And.intro hlt (And.intro hb2 (And.intro hm z1))))
       clear hab hb2 hm j1 j2 z1 z2 z3
       go_wp2_with (go_at_call 203;(with_reducible refine HC.out.mono ?_);rintro r w2 ⟨T2,rfl,hs2,hi2,hck2,hkp2⟩;have HS2:=hid hs2;have HI2:=hid hi2;have HCK:=hid hck2;have HKP:=hid hkp2;clear hs2 hi2 hck2 hkp2)
       go_roundw
       case rel=>
        obtain⟨e1,e2,e3,e4,e5⟩:=HAB.out
        obtain⟨p1,p2,p3⟩:=hpl.out
        subst e5 e1
        exact⟨a+2*bs,b2,T2,e2,e3,rfl,rfl,⟨(Nat.dvd_add_right p1).2 (Nat.dvd_refl _),p2.succ p1 HS2.out (HJ.out.trans HI2.out.same) (fun k hk=>HI2.out.out k (.inl hk)),p3.keep (by omega) (fun k hk=>HI2.out.out k (.inr hk))⟩,HCK.out,hkp.out.trans HKP.out (fun _ _ e=>e)⟩
       case measure=>have:=HAB.out;have:=HBB.out;simp [intOf];omega
      ·have hil:¬(b:Int)≤(n:Int):=by omega
       by_cases hmn:m<n
       ·have hmi:(m:Int)<(n:Int):=by omega
        obtain⟨j1,j2⟩:=hpl.out.2.2.two HO.out hpl.out.1 (b:=n) (by omega) (Nat.le_refl _) (by omega) (.inl rfl)
        rw[hm] at j1
        have HC:=hid (HSY.out T a m n _ (by omega) (by omega) (Nat.le_refl _) j1 hck.out)
        have HJ:=hid j2
        have HAB:=hid (And.intro hab (And.intro hlt (And.intro hb2 (And.intro hm z1))))
        clear hab hb2 hm j1 j2 z1 z2 z3 hlt
        go_wp2_with (go_at_call 203;(with_reducible refine HC.out.mono ?_);rintro r w2 ⟨T2,rfl,hs2,hi2,hck2,hkp2⟩;have HS2:=hid hs2;have HI2:=hid hi2;have HCK:=hid hck2;have HKP:=hid hkp2;clear hs2 hi2 hck2 hkp2)
        go_roundw
        case rel=>
         obtain⟨e1,e2,e3,e4,e5⟩:=HAB.out
         obtain⟨p1,p2,p3⟩:=hpl.out
         have z2:=HBB.out
         subst e5 e1
         exact⟨2*bs,T2,by omega,by omega,rfl,p2.all p1 (by omega) han HS2.out (HJ.out.trans HI2.out.same) (fun k hk=>HI2.out.out k (.inl hk)),HCK.out,hkp.out.trans HKP.out (fun _ _ e=>e)⟩
        case measure=>have:=HAB.out;have:=HBB.out;simp [intOf];omega
       ·have hmi:¬(m:Int)<(n:Int):=by omega
        have HBF:Hid (BlkFrom t T (2*bs) n 0):=by
         obtain⟨p1,p2,p3⟩:=hpl.out
         by_cases e:a<n
         ·obtain ⟨g1,g2⟩:=p3.lone p1 e (by omega)
          exact p2.all p1 (by omega) han g1 g2 (fun _ _=>rfl)
         ·exact p2.all p1 (by omega) han (fun i j h1 h2 h3=>by omega) ⟨fun i h1 h2=>by omega,fun i h1 h2=>by omega⟩ (fun _ _=>rfl)
        have HAB:=hid (And.intro hab (And.intro hlt (And.intro hb2 (And.intro hm z1))))
        clear hab hb2 hm z1 z2 z3 hlt hmn
        go_wp2
        go_roundw
        case rel=>
         obtain⟨e1,e2,e3,e4,e5⟩:=HAB.out
         have z2:=HBB.out
         subst e5
         exact⟨2*bs,T,by omega,by omega,rfl,HBF.out,hck.out,hkp.out⟩
        case measure=>have:=HAB.out;have:=HBB.out;simp [intOf];omega
    ·have hbi:¬(bs:Int)<(n:Int):=by omega
     obtain⟨g1,g2⟩:=hbk.out.done q1 (by omega)
     have HG:=hid (And.intro g1 g2)
     clear g1 g2
     go_wp2
     go_end0
     exact⟨U,rfl,HG.out.1,HG.out.2,hck.out,hkp.out⟩
theorem sortst_any (g o n N c:Nat) (t:Nat→Kc) (hn0:0<n) (hn:n≤100000000) (ho:OrdP t n) (w:World) (h:CkAt w g o n N t):
  Calls Tryz.prog 159 #[.slice (some ⟨g,o,none⟩) n c,.func (.func 160) #[] #[]] w (StPost w g o n N t):=by
 have HS:=hid (stable_any g o n N c t hn0 hn ho w h)
 clear ho h
 go_enter Tryz.func159,Tryz.ntmps159
 go_wp2_with (go_at_call 183;(with_reducible refine HS.out.mono ?_);rintro r w2 ⟨T2,rfl,hs2,hi2,hck2,hkp2⟩;have HS2:=hid hs2;have HI2:=hid hi2;have HCK:=hid hck2;have HKP:=hid hkp2;clear hs2 hi2 hck2 hkp2)
 go_end0
 exact⟨T2,rfl,HS2.out,HI2.out,HCK.out,HKP.out⟩
def GrowP (P:Nat→Prop) (W w':World) (j:Nat):Prop:=P j∨(W.heap.size≤j∧j<w'.heap.size)
theorem GrowP.lt {P:Nat→Prop} {W w':World} {j:Nat} (h:GrowP P W w' j) (hp:∀j,P j→j<W.heap.size) (hs:W.heap.size≤w'.heap.size):j<w'.heap.size:=by
 rcases h with h|h
 ·exact Nat.lt_of_lt_of_le (hp j h) hs
 ·exact h.2
theorem GrowP.trans {P:Nat→Prop} {W X Y:World} {j:Nat} (h:GrowP (GrowP P W X) X Y j) (h1:W.heap.size≤X.heap.size) (h2:X.heap.size≤Y.heap.size):GrowP P W Y j:=by
 rcases h with(h|⟨a,b⟩)|⟨a,b⟩
 ·exact .inl h
 ·exact .inr ⟨a,by omega⟩
 ·exact .inr ⟨by omega,b⟩
def chC (x:Ch):List Value:=[.int .i64 x.at_,.int .u8 x.val,.int .i64 x.fl,.int .i64 x.du]
def chV:List Ch→List Value
 |[]=>[]
 |x::l=>chC x++chV l
theorem chV_len:∀l,(chV l).length=l.length*4
 |[]=>rfl
 |x::l=>by
  show (chC x++chV l).length=_
  rw[List.length_append,chV_len l,List.length_cons]
  show 4+_=_
  omega
theorem chV_app:∀l k,chV (l++k)=chV l++chV k
 |[],k=>rfl
 |x::l,k=>by
  show chC x++chV (l++k)=chC x++chV l++chV k
  rw[chV_app l k,List.append_assoc]
theorem chV_get:∀{l:List Ch} {i:Nat} {x:Ch},l[i]?=some x→∀r,r<4→(chV l)[i*4+r]?=(chC x)[r]?
 |[],i,x,h,_,_=>by cases h
 |y::l,0,x,h,r,hr=>by
  injection h with h
  subst h
  show (chC y++chV l)[0*4+r]?=_
  rw[Nat.zero_mul,Nat.zero_add,List.getElem?_append_left (show r<4 from hr)]
 |y::l,i+1,x,h,r,hr=>by
  show (chC y++chV l)[(i+1)*4+r]?=_
  rw[List.getElem?_append_right (show 4≤_ by omega),show (i+1)*4+r- (chC y).length=i*4+r by show (i+1)*4+r-4=_;omega]
  exact chV_get (by simpa using h) r hr
theorem chC_one (x:Ch):∀u∈chC x,u.oneCell'=true:=by
 intro u hu
 unfold chC at hu
 simp only[List.mem_cons,List.not_mem_nil,or_false] at hu
 rcases hu with rfl|rfl|rfl|rfl<;>rfl
structure PnAt (W:World) (g o N:Nat) (l:List Ch):Prop where
 h:∃c,W.heap[g]?=some (.cells c 174 (0,0))∧c.size=N∧∀j u,(chV l)[j]?=some u→c[o+j]?=some u
 le:o+l.length*4≤N
theorem PnAt.ck {W:World} {g o N:Nat} {l:List Ch} (h:PnAt W g o N l):CkAt W g o l.length N (rowK l):=by
 obtain⟨c,h1,h2,h3⟩:=h.h
 refine⟨⟨c,h1,h2,fun i hi=>?_⟩,h.le⟩
 obtain⟨x,hx⟩:∃x,l[i]?=some x:=⟨_,List.getElem?_eq_getElem hi⟩
 have e:=rowK_ch hx
 have e0:(rowK l i).at_=x.at_:=congrArg Ch.at_ e
 have e1:(rowK l i).val=x.val:=congrArg Ch.val e
 have e2:(rowK l i).fl=x.fl:=congrArg Ch.fl e
 have e3:(rowK l i).du=x.du:=congrArg Ch.du e
 rw[e0,e1,e2,e3]
 have g0:=h3 (i*4+0) _ (chV_get hx 0 (by decide))
 have g1:=h3 (i*4+1) _ (chV_get hx 1 (by decide))
 have g2:=h3 (i*4+2) _ (chV_get hx 2 (by decide))
 have g3:=h3 (i*4+3) _ (chV_get hx 3 (by decide))
 exact⟨g0,by rw[Nat.add_assoc];exact g1,by rw[Nat.add_assoc];exact g2,by rw[Nat.add_assoc];exact g3⟩
theorem CkAt.pn {W:World} {g o n N:Nat} {t:Nat→Kc} (h:CkAt W g o n N t):PnAt W g o N (listK n t):=by
 obtain⟨c,h1,h2,h3⟩:=h.h
 refine⟨⟨c,h1,h2,fun j u hj=>?_⟩,by rw[listK_len];exact h.le⟩
 have hlt:=(List.getElem?_eq_some_iff.1 hj).1
 rw[chV_len,listK_len] at hlt
 obtain⟨i,r,hr,rfl⟩:∃i r,r<4∧j=i*4+r:=⟨j/4,j%4,Nat.mod_lt _ (by decide),by omega⟩
 have hi:i<n:=by omega
 rw[chV_get (listK_at hi) r hr] at hj
 obtain⟨g0,g1,g2,g3⟩:=h3 i hi
 rw[←Nat.add_assoc]
 rcases (show r=0∨r=1∨r=2∨r=3 by omega) with rfl|rfl|rfl|rfl
 ·rw [←hj];exact g0
 ·rw [←hj];exact g1
 ·rw [←hj];exact g2
 ·rw [←hj];exact g3
theorem PnAt.keeps {W X:World} {F:Nat→Prop} {g o N:Nat} {l:List Ch} (h:PnAt W g o N l) (hk:Keeps F W X) (hn:¬F g):PnAt X g o N l:=by
 obtain⟨c,hc,h2⟩:=h.h
 exact⟨⟨c,hpKeeps hc hk hn,h2⟩,h.le⟩
theorem PnAt.cell {W:World} {g o N:Nat} {l:List Ch} (h:PnAt W g o N l) {j:Nat} {u:Value} (hj:(chV l)[j]?=some u):W.cell? ⟨g,o+j,none⟩=some u:=by
 obtain⟨c,hc,-,h3⟩:=h.h
 rw[hpCell hc]
 exact h3 j u hj
def PnR (P:Nat→Prop) (W:World) (v:Value) (l:List Ch):Prop:=
 (v=.slice none 0 0∧l=[])∨∃g o c N,v=.slice (some ⟨g,o,none⟩) l.length c∧PnAt W g o N l∧l.length≤c∧c≤maxLen∧o+c*4≤N∧P g
theorem PnR.nil (P:Nat→Prop) (W:World):PnR P W (.slice none 0 0) []:=.inl ⟨rfl,rfl⟩
theorem PnR.len {P:Nat→Prop} {W:World} {v:Value} {l:List Ch} (h:PnR P W v l):∃a c,v=.slice a l.length c∧c≤maxLen:=by
 rcases h with⟨rfl,rfl⟩|⟨g,o,c,N,rfl,_,_,h,_⟩
 ·exact ⟨_,_,rfl,Nat.zero_le _⟩
 ·exact ⟨_,_,rfl,h⟩
theorem PnR.keeps {P F:Nat→Prop} {W X:World} {v:Value} {l:List Ch} (h:PnR P W v l) (hk:Keeps F W X) (hn:∀j,P j→¬F j):PnR P X v l:=by
 rcases h with h|⟨g,o,c,N,h1,h2,h3,h4,h5,h6⟩
 ·exact .inl h
 ·exact .inr ⟨g,o,c,N,h1,h2.keeps hk (hn g h6),h3,h4,h5,h6⟩
theorem PnR.keep {P:Nat→Prop} {W X:World} {v:Value} {l:List Ch} (h:PnR P W v l) (hb:Below W.heap.size W X):PnR P X v l:=h.keeps (F:=fun _=>False) (Keeps.of_below hb) (fun _ _ e=>e)
theorem PnR.mono {P Q:Nat→Prop} {W:World} {v:Value} {l:List Ch} (h:PnR P W v l) (hq:∀j,P j→Q j):PnR Q W v l:=by
 rcases h with h|⟨g,o,c,N,h1,h2,h3,h4,h5,h6⟩
 ·exact .inl h
 ·exact .inr ⟨g,o,c,N,h1,h2,h3,h4,h5,hq g h6⟩
theorem PnR.own {P:Nat→Prop} {w:World} {base:Nat} {v:Value} {n:Nat} {l:List Ch} (h:w.ownsRow base 174 4 v n (chV l)) (hP:∀j,base≤j→j<w.heap.size→P j):PnR P w v l:=by
 obtain⟨hl,⟨hv,h0⟩|⟨g,cap,cur,hv,hg,hh,hnc,hcm,hcs,ht⟩⟩:=h
 ·rw [chV_len] at hl
  subst h0
  exact .inl ⟨hv,List.eq_nil_of_length_eq_zero (by omega)⟩
 ·rw [chV_len] at hl
  have hn:n=l.length:=by omega
  subst hn
  refine .inr ⟨g,0,cap,cur.size,hv,⟨⟨cur,hh,rfl,fun j u hj=>?_⟩,by rw[hcs];omega⟩,hnc,hcm,by rw[hcs];omega,hP g hg (hpLt hh)⟩
  have hlt:=(List.getElem?_eq_some_iff.1 hj).1
  rw[Nat.zero_add,←hj]
  exact take_get ht j hlt
theorem infoCh:(Tryz.prog.info? 174).map (fun i=>(i.zero,i.size,i.bytes))=some (some (.agg #[.int .i64 0,.int .u8 0,.int .i64 0,.int .i64 0]),4,32):=by kernel_rfl
theorem run_appPn {P:Nat→Prop} {w:World} {v:Value} {l:List Ch} (h:PnR P w v l) (x:Ch) (ad:Addr) (c:Nat) (hnews:∀j u,(chC x)[j]?=some u→w.cell? (ad.add j)=some u) (hlen:l.length+1≤1000000000) (ty:TypeId):
  ∃v' w',(Builtin.append_ #[123,123] ty #[v,.slice (some ad) 1 c]).run Tryz.prog w=.ok v' w'∧PnR (GrowP P w w') w' v' (l++[x])∧Keeps P w w':=by
 obtain⟨i,hi,hz0,hz1,hz2⟩:=info_parts infoCh
 have hn4:(chC x).length=1*4:=rfl
 have e1:chV (l++[x])=chV l++chC x:=by rw[chV_app];show _++(chC x++[])=_;rw[List.append_nil]
 rcases h with⟨rfl,rfl⟩|⟨g,o,k,N,rfl,hat,hlk,hkm,hkN,hPg⟩
 ·obtain ⟨v',w',hrun,r1,r2,_⟩:=run_append_own (P:=Tryz.prog) w w.heap.size 123 ty 174 i _ 4 32 Tryz.underlying123 hi hz0 hz1 hz2 rfl (by decide) (.slice none 0 0) 0 [] (World.ownsRow_nil w _ _ _) ad 1 c (chC x) hn4 hnews (chC_one x) (by decide) (by decide) (Nat.le_refl _)
  refine⟨v',w',hrun,PnR.own (l:=[]++[x]) (by rw[e1];exact r1) (fun j h1 h2=>.inr ⟨h1,h2⟩),Keeps.of_grown r2 (fun k e=>by cases e)⟩
 ·by_cases hroom:l.length+1≤k
  ·obtain ⟨cc,hc,hcs,hcr⟩:=hat.h
   have hsome:∀j,j<(chC x).length→(w.cell? ⟨g,o+l.length*4+j,none⟩).isSome=true:=fun j hj=>by
    rw[hpCell hc,Array.getElem?_eq_getElem (by rw[hcs];omega)]
    rfl
   have hrun:=run_append_room_cells (P:=Tryz.prog) w 123 ty 174 i Tryz.underlying123 hi g o l.length k ad 1 c (chC x) (by rw[hz1];exact hn4) hnews (chC_one x) hroom (by rw[hz1];exact hsome) (fun j _=>hpFree hc _)
   rw[hz1] at hrun
   have hct:cc.toList.length=N:=hcs
   obtain⟨k1,k2⟩:=keepsCells g (chC x) (o+l.length*4) w
   refine⟨_,_,hrun,.inr ⟨g,o,k,N,by rw[List.length_append];rfl,⟨⟨_,hpSetCells g _ _ (chC x) _ w cc hc (by rw[hcs,hn4];omega),?_,fun j u hj=>?_⟩,by rw[List.length_append];show o+(l.length+1)*4≤N;omega⟩,by rw[List.length_append];exact hroom,hkm,hkN,.inl hPg⟩,k1.mono (fun j _ e=>by subst e;exact hPg)⟩
   ·simp only[List.size_toArray,List.length_append,List.length_take,List.length_drop,Array.length_toList,hcs,hn4]
    omega
   ·rw [e1] at hj
    have hlt:=(List.getElem?_eq_some_iff.1 hj).1
    rw[List.length_append,chV_len,hn4] at hlt
    simp only[List.getElem?_toArray]
    by_cases hjo:j<l.length*4
    ·rw [List.getElem?_append_left (by rw[chV_len];exact hjo)] at hj
     have:=hcr j u hj
     rw[List.append_assoc,List.getElem?_append_left (by rw[List.length_take,hct];omega),List.getElem?_take_of_lt (by omega)]
     simpa using this
    ·rw [List.getElem?_append_right (by rw[chV_len];omega),chV_len] at hj
     rw[List.append_assoc,List.getElem?_append_right (by rw[List.length_take,hct];omega),List.getElem?_append_left (by rw[List.length_take,hct,hn4];omega),List.length_take,hct]
     rw[show o+j-min (o+l.length*4) N=j-l.length*4 by omega]
     exact hj
  ·have holds:∀j u,(chV l)[j]?=some u→w.cell? ((⟨g,o,none⟩:Addr).add j)=some u:=fun j u hj=>by rw[Addr.add_lit];exact hat.cell hj
   obtain⟨v',w',hrun,r1,r2⟩:=run_append_arg_grows (P:=Tryz.prog) w 123 ty 174 i _ 4 32 Tryz.underlying123 hi hz0 hz1 hz2 rfl (by decide) ⟨g,o,none⟩ l.length k (chV l) (chV_len l) holds ad 1 c (chC x) hn4 hnews (by omega) (by unfold maxLen;omega) (by omega)
   refine⟨v',w',hrun,PnR.own (l:=l++[x]) (by rw[e1];exact r1) (fun j h1 h2=>.inr ⟨h1,h2⟩),Keeps.of_grown r2 (fun k e=>by cases e)⟩
theorem step_appPn {w:World} {ops:Array Oper} {op:Oper} {a:Act} {K:Act→World→Prop} {Q:Exit→Act→World→Prop} {E:Prop} (hgd:op.guard=none) (s y:Operand)
  (ho:op.op=.call {callee:=.builtin .append,args:=#[s,y],argTypes:=#[123,123]})
  {P:Nat→Prop} {v:Value} {l:List Ch} (hs:a.eval s=v) (h:PnR P w v l) (x:Ch) (ad:Addr) (c:Nat) (hy:a.eval y=.slice (some ad) 1 c) (hnews:∀j u,(chC x)[j]?=some u→w.cell? (ad.add j)=some u) (hlen:l.length+1≤1000000000)
  (hK:∀v' w',PnR (GrowP P w w') w' v' (l++[x])→Keeps P w w'→K (a.put op.dst v') w'):
  if Region.wanted op (yielded ops a.tmps)=true then Oper.wp Tryz.prog op a w K Q else E:=by
 have hw:Region.wanted op (yielded ops a.tmps)=true:=by simp [Region.wanted,hgd]
 rw[if_pos hw]
 obtain⟨v',w',hrun,r1,r2⟩:=run_appPn h x ad c hnews hlen op.type
 unfold Oper.wp execOp
 simp only[ho,resolve,invoke,builtin,Sem.run_bind,Sem.run_pure,Result.andThen_ok,List.map_toArray,List.map_cons,List.map_nil,hs,hy,hrun]
 exact hK v' w' r1 r2
end Go.Proofs.YtoaoejaodhedaaaGreat
