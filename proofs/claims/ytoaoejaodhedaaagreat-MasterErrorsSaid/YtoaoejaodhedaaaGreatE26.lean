/-
 Texts 26 of the claim.
-/
import Derived.ProofKit
namespace Go.Proofs.YtoaoejaodhedaaaGreat
structure Kc where
 at_:Int
 val:Int
 fl:Int
 du:Int
 key:Int
def SrtK (t:Nat→Kc) (a b:Nat):Prop:=∀i j,a≤i→i<j→j<b→(t i).key<(t j).key
structure ImgE (t t':Nat→Kc) (a b:Nat):Prop where
 fw:∀i,a≤i→i<b→∃j,a≤j∧j<b∧t' i=t j
 bw:∀j,a≤j→j<b→∃i,a≤i∧i<b∧t' i=t j
 out:∀i,i<a∨b≤i→t' i=t i
theorem ImgE.refl (t:Nat→Kc) (a b:Nat):ImgE t t a b:=⟨fun i h1 h2=>⟨i,h1,h2,rfl⟩,fun i h1 h2=>⟨i,h1,h2,rfl⟩,fun _ _=>rfl⟩
theorem ImgE.trans {t u v:Nat→Kc} {a b:Nat} (h:ImgE t u a b) (k:ImgE u v a b):ImgE t v a b:=by
 refine⟨fun i h1 h2=>?_,fun j h1 h2=>?_,fun i hi=>(k.out i hi).trans (h.out i hi)⟩
 ·obtain ⟨j,h3,h4,h5⟩:=k.fw i h1 h2
  obtain⟨l,h6,h7,h8⟩:=h.fw j h3 h4
  exact⟨l,h6,h7,h5.trans h8⟩
 ·obtain ⟨i,h3,h4,h5⟩:=h.bw j h1 h2
  obtain⟨l,h6,h7,h8⟩:=k.bw i h3 h4
  exact⟨l,h6,h7,h8.trans h5⟩
theorem ImgE.wide {t u:Nat→Kc} {a b c d:Nat} (h:ImgE t u a b) (h1:c≤a) (h2:b≤d):ImgE t u c d:=by
 refine⟨fun i h3 h4=>?_,fun j h3 h4=>?_,fun i hi=>h.out i (by omega)⟩
 ·by_cases e:a≤i∧i<b
  ·obtain ⟨j,e1,e2,e3⟩:=h.fw i e.1 e.2
   exact⟨j,by omega,by omega,e3⟩
  ·exact ⟨i,h3,h4,h.out i (by omega)⟩
 ·by_cases e:a≤j∧j<b
  ·obtain ⟨i,e1,e2,e3⟩:=h.bw j e.1 e.2
   exact⟨i,by omega,by omega,e3⟩
  ·exact ⟨j,h3,h4,h.out j (by omega)⟩
def swapR (a b n:Nat) (t:Nat→Kc):Nat→Kc:=fun k=>if a≤k∧k<a+n then t (k-a+b) else if b≤k∧k<b+n then t (k-b+a) else t k
theorem swapR_zero (a b:Nat) (t:Nat→Kc):swapR a b 0 t=t:=by
 funext k
 unfold swapR
 rw[if_neg (by omega),if_neg (by omega)]
theorem swapR_succ {a b n:Nat} (h:a+n<b) (t:Nat→Kc):swapR a b (n+1) t=fun k=>if k=a+n then t (b+n) else if k=b+n then t (a+n) else swapR a b n t k:=by
 funext k
 unfold swapR
 by_cases e1:k=a+n
 ·subst e1
  rw[if_pos (by omega),if_pos rfl]
  congr 1
  omega
 ·rw [if_neg e1]
  by_cases e2:k=b+n
  ·subst e2
   rw[if_neg (by omega),if_pos (by omega),if_pos rfl]
   congr 1
   omega
  ·rw [if_neg e2]
   by_cases e3:a≤k∧k<a+n
   ·rw [if_pos (by omega),if_pos e3]
   ·rw [if_neg (by omega),if_neg e3]
    by_cases e4:b≤k∧k<b+n
    ·rw [if_pos (by omega),if_pos e4]
    ·rw [if_neg (by omega),if_neg e4]
def rotF (a m b:Nat) (t:Nat→Kc):Nat→Kc:=fun k=>if k<a∨b≤k then t k else if k<a+(b-m) then t (k+(m-a)) else t (k- (b-m))
theorem rotF_gt {m i j:Nat} (t:Nat→Kc) (hi:i≤m) (h:j<i) (hj:0<j):rotF (m- (i-j)) m (m+j) (swapR (m-i) m j t)=rotF (m-i) m (m+j) t:=by
 funext k
 unfold rotF
 by_cases e1:k<m-i∨m+j≤k
 ·rw [if_pos (show k<m- (i-j)∨m+j≤k by omega),if_pos e1]
  unfold swapR
  rw[if_neg (by omega),if_neg (by omega)]
 ·rw [if_neg e1]
  by_cases e2:k<m- (i-j)
  ·rw [if_pos (show k<m- (i-j)∨m+j≤k by omega),if_pos (by omega)]
   unfold swapR
   rw[if_pos (by omega)]
   congr 1
   omega
  ·rw [if_neg (show ¬(k<m- (i-j)∨m+j≤k) by omega),if_neg (show ¬k<m-i+(m+j-m) by omega)]
   by_cases e3:k<m- (i-j)+(m+j-m)
   ·rw [if_pos e3]
    unfold swapR
    rw[if_neg (by omega),if_pos (by omega)]
    congr 1
    omega
   ·rw [if_neg e3]
    unfold swapR
    rw[if_neg (by omega),if_neg (by omega)]
theorem rotF_lt {m i j:Nat} (t:Nat→Kc) (hi:i≤m) (h:i<j) (h0:0<i):rotF (m-i) m (m+(j-i)) (swapR (m-i) (m+j-i) i t)=rotF (m-i) m (m+j) t:=by
 funext k
 unfold rotF
 by_cases e1:k<m-i∨m+j≤k
 ·rw [if_pos (show k<m-i∨m+(j-i)≤k by omega),if_pos e1]
  unfold swapR
  rw[if_neg (by omega),if_neg (by omega)]
 ·rw [if_neg e1]
  by_cases e2:m+(j-i)≤k
  ·rw [if_pos (show k<m-i∨m+(j-i)≤k by omega),if_neg (by omega)]
   unfold swapR
   rw[if_neg (by omega),if_pos (by omega)]
   congr 1
   omega
  ·rw [if_neg (show ¬(k<m-i∨m+(j-i)≤k) by omega),if_pos (show k<m-i+(m+j-m) by omega)]
   by_cases e3:k<m-i+(m+(j-i)-m)
   ·rw [if_pos e3]
    unfold swapR
    rw[if_neg (by omega)]
    by_cases e4:m+j-i≤k+(m- (m-i))
    ·exact absurd e4 (by omega)
    ·rw [if_neg (by omega)]
   ·rw [if_neg e3]
    unfold swapR
    rw[if_pos (by omega)]
    congr 1
    omega
theorem rotF_eq {m i:Nat} (t:Nat→Kc) (hi:i≤m):swapR (m-i) m i t=rotF (m-i) m (m+i) t:=by
 funext k
 unfold rotF swapR
 by_cases e1:k<m-i∨m+i≤k
 ·rw [if_pos e1,if_neg (by omega),if_neg (by omega)]
 ·rw [if_neg e1]
  by_cases e2:k<m
  ·rw [if_pos (by omega),if_pos (by omega)]
   congr 1
   omega
  ·rw [if_neg (by omega),if_pos (by omega),if_neg (by omega)]
   congr 1
   omega
theorem rotF_img (a m b:Nat) (t:Nat→Kc) (h1:a≤m) (h2:m≤b):ImgE t (rotF a m b t) a b:=by
 refine⟨fun i h3 h4=>?_,fun j h3 h4=>?_,fun i hi=>by unfold rotF;rw[if_pos (by omega)]⟩
 ·unfold rotF
  rw[if_neg (by omega)]
  split
  ·exact ⟨_,by omega,by omega,rfl⟩
  ·exact ⟨_,by omega,by omega,rfl⟩
 ·by_cases e:j<m
  ·refine ⟨j+(b-m),by omega,by omega,?_⟩
   unfold rotF
   rw[if_neg (by omega),if_neg (by omega)]
   congr 1
   omega
  ·refine ⟨j- (m-a),by omega,by omega,?_⟩
   unfold rotF
   rw[if_neg (by omega),if_pos (by omega)]
   congr 1
   omega
structure MrgP (t:Nat→Kc) (a m b:Nat):Prop where
 l:SrtK t a m
 r:SrtK t m b
 x:∀i j,a≤i→i<m→m≤j→j<b→((t j).at_<(t i).at_↔(t j).key<(t i).key)∧(t j).key≠(t i).key
def insL (a i:Nat) (t:Nat→Kc):Nat→Kc:=fun k=>if k<a∨i≤k then t k else if k+1=i then t a else t (k+1)
theorem insL_rot {a i:Nat} (t:Nat→Kc) (h:a<i):insL a i t=rotF a (a+1) i t:=by
 funext k
 unfold insL rotF
 by_cases e:k<a∨i≤k
 ·rw [if_pos e,if_pos e]
 ·rw [if_neg e,if_neg e]
  by_cases e2:k+1=i
  ·rw [if_pos e2,if_neg (by omega)]
   congr 1
   omega
  ·rw [if_neg e2,if_pos (by omega)]
   congr 1
   omega
def insR (i m:Nat) (t:Nat→Kc):Nat→Kc:=fun k=>if k<i∨m<k then t k else if k=i then t m else t (k-1)
theorem insR_rot {i m:Nat} (t:Nat→Kc):insR i m t=rotF i m (m+1) t:=by
 funext k
 unfold insR rotF
 by_cases e:k<i∨m<k
 ·rw [if_pos e,if_pos (show k<i∨m+1≤k by omega)]
 ·rw [if_neg e,if_neg (show ¬(k<i∨m+1≤k) by omega)]
  by_cases e2:k=i
  ·rw [if_pos e2,if_pos (show k<i+(m+1-m) by omega)]
   congr 1
   omega
  ·rw [if_neg e2,if_neg (show ¬k<i+(m+1-m) by omega)]
   congr 1
   omega
theorem merge_oneL {t:Nat→Kc} {a b i:Nat} (h:MrgP t a (a+1) b) (h1:a+1≤i) (h2:i≤b) (hl:∀k,a+1≤k→k<i→(t k).key<(t a).key) (hr:∀k,i≤k→k<b→(t a).key<(t k).key):
  SrtK (insL a i t) a b∧ImgE t (insL a i t) a b:=by
 refine⟨fun x y hx hxy hy=>?_,by rw[insL_rot t (by omega)];exact(rotF_img a (a+1) i t (by omega) h1).wide (Nat.le_refl _) h2⟩
 unfold insL
 by_cases e1:i≤y
 ·rw [if_pos (show y<a∨i≤y by omega)]
  by_cases e2:i≤x
  ·rw [if_pos (show x<a∨i≤x by omega)]
   exact h.r x y (by omega) hxy hy
  ·rw [if_neg (show ¬(x<a∨i≤x) by omega)]
   by_cases e3:x+1=i
   ·rw [if_pos e3]
    exact hr y e1 hy
   ·rw [if_neg e3]
    exact h.r (x+1) y (by omega) (by omega) hy
 ·rw [if_neg (show ¬(x<a∨i≤x) by omega),if_neg (show ¬(y<a∨i≤y) by omega),if_neg (show ¬(x+1=i) by omega)]
  by_cases e3:y+1=i
  ·rw [if_pos e3]
   exact hl (x+1) (by omega) (by omega)
  ·rw [if_neg e3]
   exact h.r (x+1) (y+1) (by omega) (by omega) (by omega)
theorem merge_oneR {t:Nat→Kc} {a m i:Nat} (h:MrgP t a m (m+1)) (h1:a≤i) (h2:i≤m) (hl:∀k,a≤k→k<i→(t k).key<(t m).key) (hr:∀k,i≤k→k<m→(t m).key<(t k).key):
  SrtK (insR i m t) a (m+1)∧ImgE t (insR i m t) a (m+1):=by
 refine⟨fun x y hx hxy hy=>?_,by rw[insR_rot t];exact(rotF_img i m (m+1) t h2 (by omega)).wide h1 (Nat.le_refl _)⟩
 unfold insR
 by_cases e1:x<i
 ·rw [if_pos (show x<i∨m<x by omega)]
  by_cases e2:y<i
  ·rw [if_pos (show y<i∨m<y by omega)]
   exact h.l x y hx hxy (by omega)
  ·rw [if_neg (show ¬(y<i∨m<y) by omega)]
   by_cases e3:y=i
   ·rw [if_pos e3]
    exact hl x hx e1
   ·rw [if_neg e3]
    exact h.l x (y-1) hx (by omega) (by omega)
 ·rw [if_neg (show ¬(x<i∨m<x) by omega),if_neg (show ¬(y<i∨m<y) by omega),if_neg (show ¬y=i by omega)]
  by_cases e3:x=i
  ·rw [if_pos e3]
   exact hr (y-1) (by omega) (by omega)
  ·rw [if_neg e3]
   exact h.l (x-1) (y-1) (by omega) (by omega) (by omega)
structure CutP (t:Nat→Kc) (a m b mid s e:Nat):Prop where
 s0:a≤s
 s1:s≤m
 s2:s≤mid
 e0:mid≤e
 e1:m≤e
 e2:e≤b
 sum:s+e=mid+m
 lo:∀i j,a≤i→i<s→e≤j→j<b→(t i).key<(t j).key
 hi:∀i j,s≤i→i<m→m≤j→j<e→(t j).key<(t i).key
theorem CutP.halves {t:Nat→Kc} {a m b mid s e:Nat} (h:MrgP t a m b) (c:CutP t a m b mid s e):
  MrgP (rotF s m e t) a s mid∧MrgP (rotF s m e t) mid e b∧(∀i j,a≤i→i<mid→mid≤j→j<b→(rotF s m e t i).key<(rotF s m e t j).key)∧ImgE t (rotF s m e t) a b:=by
 obtain⟨s0,s1,s2,e0,e1,e2,sum,lo,hi⟩:=c
 have rA:∀k,k<s→rotF s m e t k=t k:=fun k hk=>by unfold rotF;rw[if_pos (by omega)]
 have rD:∀k,e≤k→rotF s m e t k=t k:=fun k hk=>by unfold rotF;rw[if_pos (by omega)]
 have rB:∀k,s≤k→k<mid→rotF s m e t k=t (k+(m-s)):=fun k h1 h2=>by unfold rotF;rw[if_neg (by omega),if_pos (by omega)]
 have rC:∀k,mid≤k→k<e→rotF s m e t k=t (k- (e-m)):=fun k h1 h2=>by unfold rotF;rw[if_neg (by omega),if_neg (by omega)]
 refine⟨⟨fun i j h1 h2 h3=>?_,fun i j h1 h2 h3=>?_,fun i j h1 h2 h3 h4=>?_⟩,⟨fun i j h1 h2 h3=>?_,fun i j h1 h2 h3=>?_,fun i j h1 h2 h3 h4=>?_⟩,fun i j h1 h2 h3 h4=>?_,(rotF_img s m e t s1 e1).wide s0 e2⟩
 ·rw [rA i (by omega),rA j h3]
  exact h.l i j h1 h2 (by omega)
 ·rw [rB i h1 (by omega),rB j (by omega) h3]
  exact h.r _ _ (by omega) (by omega) (by omega)
 ·rw [rA i h2,rB j h3 h4]
  exact h.x _ _ h1 (by omega) (by omega) (by omega)
 ·rw [rC i h1 (by omega),rC j (by omega) h3]
  exact h.l _ _ (by omega) (by omega) (by omega)
 ·rw [rD i h1,rD j (by omega)]
  exact h.r _ _ (by omega) h2 h3
 ·rw [rC i h1 h2,rD j h3]
  exact h.x _ _ (by omega) (by omega) (by omega) h4
 ·by_cases f1:i<s
  ·rw [rA i f1]
   by_cases f2:j<e
   ·rw [rC j h3 f2]
    exact h.l _ _ h1 (by omega) (by omega)
   ·rw [rD j (by omega)]
    exact lo i j h1 f1 (by omega) h4
  ·rw [rB i (by omega) h2]
   by_cases f2:j<e
   ·rw [rC j h3 f2]
    exact hi _ _ (by omega) (by omega) (by omega) (by omega)
   ·rw [rD j (by omega)]
    exact h.r _ _ (by omega) (by omega) h4
theorem merge_join {t t1 t2:Nat→Kc} {a mid b:Nat} (hm1:a≤mid) (hm2:mid≤b) (hx:∀i j,a≤i→i<mid→mid≤j→j<b→(t i).key<(t j).key) (i1:ImgE t t1 a mid) (i2:ImgE t1 t2 mid b) (s1:SrtK t1 a mid) (s2:SrtK t2 mid b):
  SrtK t2 a b∧ImgE t t2 a b:=by
 refine⟨fun i j h1 h2 h3=>?_,(i1.wide (Nat.le_refl _) hm2).trans (i2.wide hm1 (Nat.le_refl _))⟩
 by_cases f1:j<mid
 ·rw [i2.out i (by omega),i2.out j (by omega)]
  exact s1 i j h1 h2 f1
 ·by_cases f2:mid≤i
  ·exact s2 i j f2 h2 h3
  ·rw [i2.out i (by omega)]
   obtain⟨x,x1,x2,x3⟩:=i1.fw i h1 (by omega)
   obtain⟨y,y1,y2,y3⟩:=i2.fw j (by omega) h3
   rw[x3,y3,i1.out y (by omega)]
   exact hx x y x1 x2 y1 y2
theorem CutP.of {t:Nat→Kc} {a m b mid lo0 r0 s:Nat} (h:MrgP t a m b) (hmid:mid=(a+b)/2) (hlo:(mid<m→lo0=mid+m-b∧r0=mid)∧(m≤mid→lo0=a∧r0=m)) (h1:lo0≤s) (h2:s≤r0)
  (hl:∀c,lo0≤c→c<s→(t c).key<(t (mid+m-1-c)).key) (hr:∀c,s≤c→c<r0→(t (mid+m-1-c)).key<(t c).key):CutP t a m b mid s (mid+m-s):=by
 have hk:a≤lo0∧r0≤m∧r0≤mid∧mid+m-lo0≤b:=by
  by_cases e:mid<m
  ·obtain ⟨e1,e2⟩:=hlo.1 e
   omega
  ·obtain ⟨e1,e2⟩:=hlo.2 (by omega)
   omega
 refine⟨by omega,by omega,by omega,by omega,by omega,by omega,by omega,fun i j g1 g2 g3 g4=>?_,fun i j g1 g2 g3 g4=>?_⟩
 ·have hs:lo0<s:=by
   by_cases e:mid<m
   ·obtain ⟨e1,e2⟩:=hlo.1 e
    omega
   ·obtain ⟨e1,e2⟩:=hlo.2 (by omega)
    omega
  have q1:=hl (s-1) (by omega) (by omega)
  have q2:(t i).key≤(t (s-1)).key:=by
   by_cases e:i=s-1
   ·subst e;exact Int.le_refl _
   ·exact Int.le_of_lt (h.l i (s-1) g1 (by omega) (by omega))
  have q3:(t (mid+m-1- (s-1))).key≤(t j).key:=by
   by_cases e:j=mid+m-1- (s-1)
   ·subst e;exact Int.le_refl _
   ·exact Int.le_of_lt (h.r _ j (by omega) (by omega) g4)
  omega
 ·have hs:s<r0:=by
   by_cases e:mid<m
   ·obtain ⟨e1,e2⟩:=hlo.1 e
    omega
   ·obtain ⟨e1,e2⟩:=hlo.2 (by omega)
    omega
  have q1:=hr s (Nat.le_refl _) hs
  have q2:(t s).key≤(t i).key:=by
   by_cases e:i=s
   ·subst e;exact Int.le_refl _
   ·exact Int.le_of_lt (h.l s i (by omega) (by omega) g2)
  have q3:(t j).key≤(t (mid+m-1-s)).key:=by
   by_cases e:j=mid+m-1-s
   ·subst e;exact Int.le_refl _
   ·exact Int.le_of_lt (h.r j _ g3 (by omega) (by omega))
  omega
theorem insR_self (i:Nat) (t:Nat→Kc):insR i i t=t:=by
 funext k
 unfold insR
 by_cases e:k<i∨i<k
 ·rw [if_pos e]
 ·rw [if_neg e,if_pos (show k=i by omega),show k=i by omega]
theorem insR_step {j i:Nat} (t:Nat→Kc) (h:j+1≤i):(fun k=>if k=j+1 then insR (j+1) i t j else if k=j then insR (j+1) i t (j+1) else insR (j+1) i t k)=insR j i t:=by
 funext k
 unfold insR
 by_cases e1:k=j+1
 ·rw [if_pos e1,if_pos (show j<j+1∨i<j by omega),if_neg (show ¬(k<j∨i<k) by omega),if_neg (show ¬k=j by omega)]
  congr 1
  omega
 ·rw [if_neg e1]
  by_cases e2:k=j
  ·rw [if_pos e2,if_neg (show ¬(j+1<j+1∨i<j+1) by omega),if_pos rfl,if_neg (show ¬(k<j∨i<k) by omega),if_pos e2]
  ·rw [if_neg e2]
   by_cases e3:k<j∨i<k
   ·rw [if_pos (show k<j+1∨i<k by omega),if_pos e3]
   ·rw [if_neg (show ¬(k<j+1∨i<k) by omega),if_neg e1,if_neg e3,if_neg e2]
theorem insL_self (a:Nat) (t:Nat→Kc):insL a (a+1) t=t:=by
 funext k
 unfold insL
 by_cases e:k<a∨a+1≤k
 ·rw [if_pos e]
 ·rw [if_neg e,if_pos (show k+1=a+1 by omega),show k=a by omega]
theorem insL_step {a k:Nat} (t:Nat→Kc) (h:a≤k):(fun x=>if x=k then insL a (k+1) t (k+1) else if x=k+1 then insL a (k+1) t k else insL a (k+1) t x)=insL a (k+2) t:=by
 funext x
 unfold insL
 by_cases e1:x=k
 ·rw [if_pos e1,if_pos (show k+1<a∨k+1≤k+1 by omega),if_neg (show ¬(x<a∨k+2≤x) by omega),if_neg (show ¬x+1=k+2 by omega),e1]
 ·rw [if_neg e1]
  by_cases e2:x=k+1
  ·rw [if_pos e2,if_neg (show ¬(k<a∨k+1≤k) by omega),if_pos rfl,if_neg (show ¬(x<a∨k+2≤x) by omega),if_pos (show x+1=k+2 by omega)]
  ·rw [if_neg e2]
   by_cases e3:x<a∨k+1≤x
   ·rw [if_pos e3,if_pos (show x<a∨k+2≤x by omega)]
   ·rw [if_neg e3,if_neg (show ¬x+1=k+1 by omega),if_neg (show ¬(x<a∨k+2≤x) by omega),if_neg (show ¬x+1=k+2 by omega)]
def OrdP (t:Nat→Kc) (n:Nat):Prop:=∀i j,i<j→j<n→((t j).at_<(t i).at_↔(t j).key<(t i).key)∧(t j).key≠(t i).key
structure Same (t u:Nat→Kc) (a b:Nat):Prop where
 fw:∀i,a≤i→i<b→∃j,a≤j∧j<b∧u i=t j
 bw:∀j,a≤j→j<b→∃i,a≤i∧i<b∧u i=t j
theorem ImgE.same {t u:Nat→Kc} {a b:Nat} (h:ImgE t u a b):Same t u a b:=⟨h.fw,h.bw⟩
theorem Same.refl (t:Nat→Kc) (a b:Nat):Same t t a b:=(ImgE.refl t a b).same
theorem Same.trans {t u v:Nat→Kc} {a b:Nat} (h:Same t u a b) (k:Same u v a b):Same t v a b:=by
 refine⟨fun i h1 h2=>?_,fun j h1 h2=>?_⟩
 ·obtain ⟨j,h3,h4,h5⟩:=k.fw i h1 h2
  obtain⟨l,h6,h7,h8⟩:=h.fw j h3 h4
  exact⟨l,h6,h7,h5.trans h8⟩
 ·obtain ⟨i,h3,h4,h5⟩:=h.bw j h1 h2
  obtain⟨l,h6,h7,h8⟩:=k.bw i h3 h4
  exact⟨l,h6,h7,h8.trans h5⟩
theorem Same.join {t u:Nat→Kc} {a m b:Nat} (h:Same t u a m) (k:Same t u m b) (h1:a≤m) (h2:m≤b):Same t u a b:=by
 refine⟨fun i h3 h4=>?_,fun j h3 h4=>?_⟩
 ·by_cases e:i<m
  ·obtain ⟨j,e1,e2,e3⟩:=h.fw i h3 e
   exact⟨j,e1,by omega,e3⟩
  ·obtain ⟨j,e1,e2,e3⟩:=k.fw i (by omega) h4
   exact⟨j,by omega,e2,e3⟩
 ·by_cases e:j<m
  ·obtain ⟨i,e1,e2,e3⟩:=h.bw j h3 e
   exact⟨i,e1,by omega,e3⟩
  ·obtain ⟨i,e1,e2,e3⟩:=k.bw j (by omega) h4
   exact⟨i,by omega,e2,e3⟩
theorem Same.congr {t u v:Nat→Kc} {a b:Nat} (h:Same t u a b) (k:∀i,a≤i→i<b→v i=u i):Same t v a b:=
 ⟨fun i h1 h2=>by rw[k i h1 h2];exact h.fw i h1 h2,fun j h1 h2=>by
  obtain⟨i,e1,e2,e3⟩:=h.bw j h1 h2
  exact⟨i,e1,e2,by rw[k i e1 e2];exact e3⟩⟩
theorem SrtK.congr {t u:Nat→Kc} {a b:Nat} (h:SrtK t a b) (k:∀i,a≤i→i<b→u i=t i):SrtK u a b:=fun i j h1 h2 h3=>by
 rw[k i h1 (by omega),k j (by omega) h3]
 exact h i j h1 h2 h3
theorem MrgP.of {t0 t:Nat→Kc} {n a m b:Nat} (ho:OrdP t0 n) (hb:b≤n) (l:SrtK t a m) (r:SrtK t m b) (sl:Same t0 t a m) (sr:Same t0 t m b):MrgP t a m b:=
 ⟨l,r,fun i j h1 h2 h3 h4=>by
  obtain⟨x,x1,x2,x3⟩:=sl.fw i h1 h2
  obtain⟨y,y1,y2,y3⟩:=sr.fw j h3 h4
  rw[x3,y3]
  exact ho x y (by omega) (by omega)⟩
structure InsP (t0 t:Nat→Kc) (a i:Nat):Prop where
 s:SrtK t a i
 m:Same t0 t a i
 o:∀k,k<a∨i≤k→t k=t0 k
theorem InsP.start (t:Nat→Kc) (a:Nat):InsP t t a (a+1):=⟨fun i j h1 h2 h3=>by omega,Same.refl t a (a+1),fun _ _=>rfl⟩
theorem InsP.nil (t:Nat→Kc) (a:Nat):InsP t t a a:=⟨fun i j h1 h2 h3=>by omega,Same.refl t a a,fun _ _=>rfl⟩
theorem InsP.mrg {t0 t:Nat→Kc} {n a i:Nat} (ho:OrdP t0 n) (h:InsP t0 t a i) (hi:i<n):MrgP t a i (i+1):=
 MrgP.of ho (by omega) h.s (fun x y h1 h2 h3=>by omega) h.m (by
  have e:=h.o i (.inr (Nat.le_refl _))
  exact(Same.refl t0 i (i+1)).congr fun k h1 h2=>by rw[show k=i by omega];exact e)
theorem InsP.step {t0 t:Nat→Kc} {n a i j:Nat} (ho:OrdP t0 n) (h:InsP t0 t a i) (hi:i<n) (haj:a≤j) (hji:j≤i) (hl:∀k,a≤k→k<j→(t k).key<(t i).key) (hr:∀k,j≤k→k<i→(t i).key<(t k).key):
  InsP t0 (insR j i t) a (i+1):=by
 obtain⟨e1,e2⟩:=merge_oneR (h.mrg ho hi) haj hji hl hr
 refine⟨e1,?_,fun k hk=>(e2.out k hk).trans (h.o k (by omega))⟩
 refine Same.trans ?_ e2.same
 refine h.m.join ((Same.refl t0 i (i+1)).congr fun k h1 h2=>by rw[show k=i by omega];exact h.o i (.inr (Nat.le_refl _))) (by omega) (by omega)
def BlkFrom (t0 t:Nat→Kc) (bs n a:Nat):Prop:=∀q,bs∣q→a≤q→q<n→SrtK t q (min (q+bs) n)∧Same t0 t q (min (q+bs) n)
def BlkTo (t0 t:Nat→Kc) (bs a:Nat):Prop:=∀q,bs∣q→q+bs≤a→SrtK t q (q+bs)∧Same t0 t q (q+bs)
theorem dvd_gap {bs q a:Nat} (h1:bs∣q) (h2:bs∣a) (h:a<q):a+bs≤q:=by
 obtain⟨x,rfl⟩:=h1
 obtain⟨y,rfl⟩:=h2
 have h3:y<x:=Nat.lt_of_mul_lt_mul_left h
 have h4:bs*(y+1)≤bs*x:=Nat.mul_le_mul_left bs h3
 rw[Nat.mul_add,Nat.mul_one] at h4
 exact h4
theorem BlkTo.zero (t0 t:Nat→Kc) (bs:Nat) (h:0<bs):BlkTo t0 t bs 0:=fun q _ h2=>by omega
theorem BlkTo.succ {t0 t u:Nat→Kc} {bs a:Nat} (h:BlkTo t0 t bs a) (ha:bs∣a) (hs:SrtK u a (a+bs)) (hm:Same t0 u a (a+bs)) (ho:∀k,k<a→u k=t k):BlkTo t0 u bs (a+bs):=fun q h1 h2=>by
 by_cases e:q=a
 ·subst e
  exact⟨hs,hm⟩
 ·by_cases e2:a<q
  ·have:=dvd_gap h1 ha e2
   by_cases e3:bs=0
   ·subst e3
    exact⟨fun i j g1 g2 g3=>by omega,⟨fun i g1 g2=>by omega,fun i g1 g2=>by omega⟩⟩
   ·omega
  ·have h3:=dvd_gap ha h1 (by omega)
   obtain⟨g1,g2⟩:=h q h1 h3
   exact⟨g1.congr fun i e1 e2=>ho i (by omega),g2.congr fun i e1 e2=>ho i (by omega)⟩
theorem BlkTo.all {t0 t u:Nat→Kc} {bs a n:Nat} (h:BlkTo t0 t bs a) (ha:bs∣a) (hn:n<a+bs) (han:a≤n) (hs:SrtK u a n) (hm:Same t0 u a n) (ho:∀k,k<a→u k=t k):BlkFrom t0 u bs n 0:=fun q h1 _ h2=>by
 by_cases e:q=a
 ·subst e
  rw[show min (q+bs) n=n by omega]
  exact⟨hs,hm⟩
 ·by_cases e2:a<q
  ·have:=dvd_gap h1 ha e2
   omega
  ·have h3:=dvd_gap ha h1 (by omega)
   obtain⟨g1,g2⟩:=h q h1 h3
   rw[show min (q+bs) n=q+bs by omega]
   exact⟨g1.congr fun i e1 e2=>ho i (by omega),g2.congr fun i e1 e2=>ho i (by omega)⟩
theorem dvd_two {bs a:Nat} (h:2*bs∣a):bs∣a∧bs∣a+bs:=by
 have h1:bs∣a:=Nat.dvd_trans (Nat.dvd_mul_left bs 2) h
 exact⟨h1,(Nat.dvd_add_right h1).2 (Nat.dvd_refl _)⟩
theorem BlkFrom.two {t0 t:Nat→Kc} {bs n a b:Nat} (ho:OrdP t0 n) (h:BlkFrom t0 t bs n a) (ha:2*bs∣a) (h1:a+bs<b) (h2:b≤n) (h3:b≤a+2*bs) (h4:b=n∨b=a+2*bs):MrgP t a (a+bs) b∧Same t0 t a b:=by
 obtain⟨d1,d2⟩:=dvd_two ha
 obtain⟨g1,g2⟩:=h a d1 (Nat.le_refl _) (by omega)
 obtain⟨g3,g4⟩:=h (a+bs) d2 (by omega) (by omega)
 rw[show min (a+bs) n=a+bs by omega] at g1 g2
 rw[show min (a+bs+bs) n=b by omega] at g3 g4
 exact⟨MrgP.of ho h2 g1 g3 g2 g4,g2.join g4 (by omega) (by omega)⟩
theorem BlkFrom.keep {t0 t u:Nat→Kc} {bs n a b:Nat} (h:BlkFrom t0 t bs n a) (hab:a≤b) (ho:∀k,b≤k→u k=t k):BlkFrom t0 u bs n b:=fun q h1 h2 h3=>by
 obtain⟨g1,g2⟩:=h q h1 (by omega) h3
 exact⟨g1.congr fun i e1 e2=>ho i (by omega),g2.congr fun i e1 e2=>ho i (by omega)⟩
theorem BlkFrom.done {t0 t:Nat→Kc} {bs n:Nat} (h:BlkFrom t0 t bs n 0) (hn:0<n) (hb:n≤bs):SrtK t 0 n∧Same t0 t 0 n:=by
 have:=h 0 (Nat.dvd_zero bs) (Nat.le_refl _) hn
 rw[show min (0+bs) n=n by omega] at this
 exact this
theorem BlkFrom.lone {t0 t:Nat→Kc} {bs n a:Nat} (h:BlkFrom t0 t bs n a) (ha:2*bs∣a) (h1:a<n) (h2:n≤a+bs):SrtK t a n∧Same t0 t a n:=by
 have:=h a (dvd_two ha).1 (Nat.le_refl _) h1
 rw[show min (a+bs) n=n by omega] at this
 exact this
end Go.Proofs.YtoaoejaodhedaaaGreat
