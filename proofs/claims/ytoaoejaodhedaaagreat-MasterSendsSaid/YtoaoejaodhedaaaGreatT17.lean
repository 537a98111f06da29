import Derived.Test.YtoaoejaodhedaaaGreatT16
namespace Go.Proofs.YtoaoejaodhedaaaGreat
open Go.RowKit
open Option renaming some→J
open Value renaming int→M
open IntKind renaming i64→U
set_option maxHeartbeats 12800000
set_option maxRecDepth 100000
variable {pa st tick:Int} {l:List Sl} {f:List UInt8} {N a b g i n:Nat} {W X w w':World}
structure At where
 bf:Int
 fault:Int
 pos:Int
 mask:Int
 ai:Int
 value:Int
def At.C (a:At):Array Value:=#[M U a.bf,M U a.fault,M U a.pos,M U a.mask,M U a.ai,M U a.value]
def At.zero:At:=⟨0,0,0,0,0,0⟩
def At.ok (a:At):Prop:=0≤a.bf∧a.bf≤5000000∧0≤a.value∧a.value≤65535∧0≤a.ai∧a.ai≤5000000∧
  ((a.fault=0∨a.fault=1∨a.fault=2∨a.fault=5)∧a.pos=0∧a.mask=0∧a.ai=0∨
   a.fault=3∧0≤a.pos∧a.pos≤255∧1≤a.mask∧a.mask≤65535∧a.mask%256≠0∧a.ai=0∨
   a.fault=4∧a.pos=0∧a.mask=0∨
   a.fault=6∧1≤a.pos∧a.pos≤255∧a.mask=0)
theorem At.bG (bf fault pos mask ai value:Int):(At.mk bf fault pos mask ai value).ok↔(0≤bf∧bf≤5000000∧0≤value∧value≤65535∧0≤ai∧ai≤5000000∧
  ((fault=0∨fault=1∨fault=2∨fault=5)∧pos=0∧mask=0∧ai=0∨
   fault=3∧0≤pos∧pos≤255∧1≤mask∧mask≤65535∧mask%256≠0∧ai=0∨
   fault=4∧pos=0∧mask=0∨
   fault=6∧1≤pos∧pos≤255∧mask=0)):=Iff.rfl
def aJ (w:World) (a:At) (r:Ending) (w':World):Prop:=∃V:Bool,r=.returned (.bool V)∧Hid (V=true↔a.ok)∧Below w.heap.size w w'
theorem aJ.no {a:At} (h:¬a.ok) (c:Below w.heap.size w w'):aJ w a (.returned (.bool false)) w':=⟨false,rfl,⟨fun e=>(by cases e),fun e=>absurd e h⟩,c⟩
theorem aJ.yes {a:At} (h:a.ok) (c:Below w.heap.size w w'):aJ w a (.returned (.bool true)) w':=⟨true,rfl,⟨fun _=>h,fun _=>rfl⟩,c⟩
theorem ga:(Tryz.prog.info? 70).map (·.size)=J 6:=by kernel_rfl
theorem qF {p:Prop} (h:p:=by
 show _
 rw[At.bG]
 refine⟨by omega,by omega,by omega,by omega,by omega,by omega,?_⟩
 first
  |exact .inl ⟨by omega,by omega,by omega,by omega⟩
  |exact .inr (.inl ⟨rfl,by omega,by omega,by omega,by omega,by omega,by omega⟩)
  |exact .inr (.inr (.inl ⟨rfl,by omega,by omega⟩))
  |exact .inr (.inr (.inr ⟨rfl,by omega,by omega,by omega⟩))):p:=h
theorem Ew (a:At) (w:World):Calls Tryz.prog 92 #[.agg a.C] w (aJ w a):=by
 obtain⟨bf,fault,pos,mask,ai,value⟩:=a;obtain⟨C,o⟩:=gE ((At.mk bf fault pos mask ai value).C);rw[o];obtain⟨v,ak,A,q⟩:=eY w (.cells C 70);have t0:v.cell? ⟨w.heap.size,0,none⟩=J (M U bf):=by rw[hpCell q 0,←o];rfl
 have t1:v.cell? ⟨w.heap.size,1,none⟩=J (M U fault):=by rw[hpCell q 1,←o];rfl
 have t2:v.cell? ⟨w.heap.size,2,none⟩=J (M U pos):=by rw[hpCell q 2,←o];rfl
 have t3:v.cell? ⟨w.heap.size,3,none⟩=J (M U mask):=by rw[hpCell q 3,←o];rfl
 have t4:v.cell? ⟨w.heap.size,4,none⟩=J (M U ai):=by rw[hpCell q 4,←o];rfl
 have t5:v.cell? ⟨w.heap.size,5,none⟩=J (M U value):=by rw[hpCell q 5,←o];rfl
 have d:=hid ak;have c:=hid A;clear ak A q o;by_cases c1:(bf:Int)<0
 ·skip
  have e:Hid (¬(At.mk bf fault pos mask ai value).ok):=by
   show ¬_;rw[At.bG];omega
  go_enter Tryz.func92,Tryz.ntmps92;go_upto_region 1 with(fail)
  rw[d.out];go_wp2;go_ret;exact aJ.no e.out c.out
 ·skip
  by_cases c2:(5000000:Int)<bf
  ·skip
   have e:Hid (¬(At.mk bf fault pos mask ai value).ok):=by
    show ¬_;rw[At.bG];omega
   go_enter Tryz.func92,Tryz.ntmps92;go_upto_region 1 with(fail)
   rw[d.out];go_wp2;go_ret;exact aJ.no e.out c.out
  ·skip
   by_cases c3:(value:Int)<0
   ·skip
    have e:Hid (¬(At.mk bf fault pos mask ai value).ok):=by
     show ¬_;rw[At.bG];omega
    go_enter Tryz.func92,Tryz.ntmps92;go_upto_region 1 with(fail)
    rw[d.out];go_wp2;go_ret;exact aJ.no e.out c.out
   ·skip
    by_cases c4:(65535:Int)<value
    ·skip
     have e:Hid (¬(At.mk bf fault pos mask ai value).ok):=by
      show ¬_;rw[At.bG];omega
     go_enter Tryz.func92,Tryz.ntmps92;go_upto_region 1 with(fail)
     rw[d.out];go_wp2;go_ret;exact aJ.no e.out c.out
    ·skip
     by_cases c5:(ai:Int)<0
     ·skip
      have e:Hid (¬(At.mk bf fault pos mask ai value).ok):=by
       show ¬_;rw[At.bG];omega
      go_enter Tryz.func92,Tryz.ntmps92;go_upto_region 1 with(fail)
      rw[d.out];go_wp2;go_ret;exact aJ.no e.out c.out
     ·skip
      by_cases c6:(5000000:Int)<ai
      ·skip
       have e:Hid (¬(At.mk bf fault pos mask ai value).ok):=by
        show ¬_;rw[At.bG];omega
       go_enter Tryz.func92,Tryz.ntmps92;go_upto_region 1 with(fail)
       rw[d.out];go_wp2;go_ret;exact aJ.no e.out c.out
      ·skip
       by_cases hf:0≤fault∧fault≤6
       ·rcases (show fault=0∨fault=1∨fault=2∨fault=3∨fault=4∨fault=5∨fault=6 by omega) with j|j|j|j|j|j|j
        ·subst j
         by_cases t:pos=0
         ·have ab:(pos==0)=true:=b1 t
          by_cases B:mask=0
          ·have P:(mask==0)=true:=b1 B
           by_cases F:ai=0
           ·have T:(ai==0)=true:=b1 F
            have e:Hid ((At.mk bf 0 pos mask ai value).ok):=by
             exact qF
            clear t B F;go_enter Tryz.func92,Tryz.ntmps92;go_upto_region 1 with(fail)
            rw[d.out];go_wp2;go_ret;exact aJ.yes e.out c.out
           ·have T:(ai==0)=false:=b0 F
            have e:Hid (¬(At.mk bf 0 pos mask ai value).ok):=by
             show ¬_;rw[At.bG];omega
            clear t B F;go_enter Tryz.func92,Tryz.ntmps92;go_upto_region 1 with(fail)
            rw[d.out];go_wp2;go_ret;exact aJ.no e.out c.out
          ·have P:(mask==0)=false:=b0 B
           have e:Hid (¬(At.mk bf 0 pos mask ai value).ok):=by
            show ¬_;rw[At.bG];omega
           clear t B;go_enter Tryz.func92,Tryz.ntmps92;go_upto_region 1 with(fail)
           rw[d.out];go_wp2;go_ret;exact aJ.no e.out c.out
         ·have ab:(pos==0)=false:=b0 t
          have e:Hid (¬(At.mk bf 0 pos mask ai value).ok):=by
           show ¬_;rw[At.bG];omega
          clear t;go_enter Tryz.func92,Tryz.ntmps92;go_upto_region 1 with(fail)
          rw[d.out];go_wp2;go_ret;exact aJ.no e.out c.out
        ·subst j
         by_cases u:pos=0
         ·have S:(pos==0)=true:=b1 u
          by_cases x:mask=0
          ·have YH:(mask==0)=true:=b1 x
           by_cases K:ai=0
           ·have YK:(ai==0)=true:=b1 K
            have e:Hid ((At.mk bf 1 pos mask ai value).ok):=by
             exact qF
            clear u x K;go_enter Tryz.func92,Tryz.ntmps92;go_upto_region 1 with(fail)
            rw[d.out];go_wp2;go_ret;exact aJ.yes e.out c.out
           ·have YK:(ai==0)=false:=b0 K
            have e:Hid (¬(At.mk bf 1 pos mask ai value).ok):=by
             show ¬_;rw[At.bG];omega
            clear u x K;go_enter Tryz.func92,Tryz.ntmps92;go_upto_region 1 with(fail)
            rw[d.out];go_wp2;go_ret;exact aJ.no e.out c.out
          ·have YH:(mask==0)=false:=b0 x
           have e:Hid (¬(At.mk bf 1 pos mask ai value).ok):=by
            show ¬_;rw[At.bG];omega
           clear u x;go_enter Tryz.func92,Tryz.ntmps92;go_upto_region 1 with(fail)
           rw[d.out];go_wp2;go_ret;exact aJ.no e.out c.out
         ·have S:(pos==0)=false:=b0 u
          have e:Hid (¬(At.mk bf 1 pos mask ai value).ok):=by
           show ¬_;rw[At.bG];omega
          clear u;go_enter Tryz.func92,Tryz.ntmps92;go_upto_region 1 with(fail)
          rw[d.out];go_wp2;go_ret;exact aJ.no e.out c.out
        ·subst j
         by_cases s:pos=0
         ·have YM:(pos==0)=true:=b1 s
          by_cases k:mask=0
          ·have XT:(mask==0)=true:=b1 k
           by_cases m:ai=0
           ·have Q:(ai==0)=true:=b1 m
            have e:Hid ((At.mk bf 2 pos mask ai value).ok):=by
             exact qF
            clear s k m;go_enter Tryz.func92,Tryz.ntmps92;go_upto_region 1 with(fail)
            rw[d.out];go_wp2;go_ret;exact aJ.yes e.out c.out
           ·have Q:(ai==0)=false:=b0 m
            have e:Hid (¬(At.mk bf 2 pos mask ai value).ok):=by
             show ¬_;rw[At.bG];omega
            clear s k m;go_enter Tryz.func92,Tryz.ntmps92;go_upto_region 1 with(fail)
            rw[d.out];go_wp2;go_ret;exact aJ.no e.out c.out
          ·have XT:(mask==0)=false:=b0 k
           have e:Hid (¬(At.mk bf 2 pos mask ai value).ok):=by
            show ¬_;rw[At.bG];omega
           clear s k;go_enter Tryz.func92,Tryz.ntmps92;go_upto_region 1 with(fail)
           rw[d.out];go_wp2;go_ret;exact aJ.no e.out c.out
         ·have YM:(pos==0)=false:=b0 s
          have e:Hid (¬(At.mk bf 2 pos mask ai value).ok):=by
           show ¬_;rw[At.bG];omega
          clear s;go_enter Tryz.func92,Tryz.ntmps92;go_upto_region 1 with(fail)
          rw[d.out];go_wp2;go_ret;exact aJ.no e.out c.out
        ·subst j
         by_cases Bj:(0:Int)≤pos
         ·skip
          by_cases c17:(pos:Int)≤255
          ·skip
           by_cases C7:(1:Int)≤mask
           ·skip
            by_cases Ed:(mask:Int)≤65535
            ·skip
             by_cases D:mask%256=0
             ·have V:(mask%256 !=0)=false:=by rw[D];rfl
              have e:Hid (¬(At.mk bf 3 pos mask ai value).ok):=by
               show ¬_;rw[At.bG];omega
              clear D;go_enter Tryz.func92,Tryz.ntmps92;go_upto_region 1 with(fail)
              rw[d.out];go_wp2;go_ret;exact aJ.no e.out c.out
             ·have V:(mask%256 !=0)=true:=by rw[bne_iff_ne];exact D
              by_cases G:ai=0
              ·have Ym:(ai==0)=true:=b1 G
               have e:Hid ((At.mk bf 3 pos mask ai value).ok):=by
                exact qF
               clear D G;go_enter Tryz.func92,Tryz.ntmps92;go_upto_region 1 with(fail)
               rw[d.out];go_wp2;go_ret;exact aJ.yes e.out c.out
              ·have Ym:(ai==0)=false:=b0 G
               have e:Hid (¬(At.mk bf 3 pos mask ai value).ok):=by
                show ¬_;rw[At.bG];omega
               clear D G;go_enter Tryz.func92,Tryz.ntmps92;go_upto_region 1 with(fail)
               rw[d.out];go_wp2;go_ret;exact aJ.no e.out c.out
            ·skip
             have e:Hid (¬(At.mk bf 3 pos mask ai value).ok):=by
              show ¬_;rw[At.bG];omega
             go_enter Tryz.func92,Tryz.ntmps92;go_upto_region 1 with(fail)
             rw[d.out];go_wp2;go_ret;exact aJ.no e.out c.out
           ·skip
            have e:Hid (¬(At.mk bf 3 pos mask ai value).ok):=by
             show ¬_;rw[At.bG];omega
            go_enter Tryz.func92,Tryz.ntmps92;go_upto_region 1 with(fail)
            rw[d.out];go_wp2;go_ret;exact aJ.no e.out c.out
          ·skip
           have e:Hid (¬(At.mk bf 3 pos mask ai value).ok):=by
            show ¬_;rw[At.bG];omega
           go_enter Tryz.func92,Tryz.ntmps92;go_upto_region 1 with(fail)
           rw[d.out];go_wp2;go_ret;exact aJ.no e.out c.out
         ·skip
          have e:Hid (¬(At.mk bf 3 pos mask ai value).ok):=by
           show ¬_;rw[At.bG];omega
          go_enter Tryz.func92,Tryz.ntmps92;go_upto_region 1 with(fail)
          rw[d.out];go_wp2;go_ret;exact aJ.no e.out c.out
        ·subst j
         by_cases y:pos=0
         ·have Y:(pos==0)=true:=b1 y
          by_cases E:mask=0
          ·have Z:(mask==0)=true:=b1 E
           have e:Hid ((At.mk bf 4 pos mask ai value).ok):=by
            exact qF
           clear y E;go_enter Tryz.func92,Tryz.ntmps92;go_upto_region 1 with(fail)
           rw[d.out];go_wp2;go_ret;exact aJ.yes e.out c.out
          ·have Z:(mask==0)=false:=b0 E
           have e:Hid (¬(At.mk bf 4 pos mask ai value).ok):=by
            show ¬_;rw[At.bG];omega
           clear y E;go_enter Tryz.func92,Tryz.ntmps92;go_upto_region 1 with(fail)
           rw[d.out];go_wp2;go_ret;exact aJ.no e.out c.out
         ·have Y:(pos==0)=false:=b0 y
          have e:Hid (¬(At.mk bf 4 pos mask ai value).ok):=by
           show ¬_;rw[At.bG];omega
          clear y;go_enter Tryz.func92,Tryz.ntmps92;go_upto_region 1 with(fail)
          rw[d.out];go_wp2;go_ret;exact aJ.no e.out c.out
        ·subst j
         by_cases r:pos=0
         ·have R:(pos==0)=true:=b1 r
          by_cases z:mask=0
          ·have O:(mask==0)=true:=b1 z
           by_cases I:ai=0
           ·have Y4:(ai==0)=true:=b1 I
            have e:Hid ((At.mk bf 5 pos mask ai value).ok):=by
             exact qF
            clear r z I;go_enter Tryz.func92,Tryz.ntmps92;go_upto_region 1 with(fail)
            rw[d.out];go_wp2;go_ret;exact aJ.yes e.out c.out
           ·have Y4:(ai==0)=false:=b0 I
            have e:Hid (¬(At.mk bf 5 pos mask ai value).ok):=by
             show ¬_;rw[At.bG];omega
            clear r z I;go_enter Tryz.func92,Tryz.ntmps92;go_upto_region 1 with(fail)
            rw[d.out];go_wp2;go_ret;exact aJ.no e.out c.out
          ·have O:(mask==0)=false:=b0 z
           have e:Hid (¬(At.mk bf 5 pos mask ai value).ok):=by
            show ¬_;rw[At.bG];omega
           clear r z;go_enter Tryz.func92,Tryz.ntmps92;go_upto_region 1 with(fail)
           rw[d.out];go_wp2;go_ret;exact aJ.no e.out c.out
         ·have R:(pos==0)=false:=b0 r
          have e:Hid (¬(At.mk bf 5 pos mask ai value).ok):=by
           show ¬_;rw[At.bG];omega
          clear r;go_enter Tryz.func92,Tryz.ntmps92;go_upto_region 1 with(fail)
          rw[d.out];go_wp2;go_ret;exact aJ.no e.out c.out
        ·subst j
         by_cases U5:(1:Int)≤pos
         ·skip
          by_cases Uu:(pos:Int)≤255
          ·skip
           by_cases L:mask=0
           ·have XS:(mask==0)=true:=b1 L
            have e:Hid ((At.mk bf 6 pos mask ai value).ok):=by
             exact qF
            clear L;go_enter Tryz.func92,Tryz.ntmps92;go_upto_region 1 with(fail)
            rw[d.out];go_wp2;go_ret;exact aJ.yes e.out c.out
           ·have XS:(mask==0)=false:=b0 L
            have e:Hid (¬(At.mk bf 6 pos mask ai value).ok):=by
             show ¬_;rw[At.bG];omega
            clear L;go_enter Tryz.func92,Tryz.ntmps92;go_upto_region 1 with(fail)
            rw[d.out];go_wp2;go_ret;exact aJ.no e.out c.out
          ·skip
           have e:Hid (¬(At.mk bf 6 pos mask ai value).ok):=by
            show ¬_;rw[At.bG];omega
           go_enter Tryz.func92,Tryz.ntmps92;go_upto_region 1 with(fail)
           rw[d.out];go_wp2;go_ret;exact aJ.no e.out c.out
         ·skip
          have e:Hid (¬(At.mk bf 6 pos mask ai value).ok):=by
           show ¬_;rw[At.bG];omega
          go_enter Tryz.func92,Tryz.ntmps92;go_upto_region 1 with(fail)
          rw[d.out];go_wp2;go_ret;exact aJ.no e.out c.out
       ·have av:(fault==0)=false:=b0 (by omega)
        have aX:(fault==1)=false:=b0 (by omega);have a2:(fault==2)=false:=b0 (by omega);have ad:(fault==3)=false:=b0 (by omega);have aY:(fault==4)=false:=b0 (by omega);have ao:(fault==5)=false:=b0 (by omega);have a3:(fault==6)=false:=b0 (by omega);have e:Hid (¬(At.mk bf fault pos mask ai value).ok):=by
         show ¬_;rw[At.bG];omega
        go_enter Tryz.func92,Tryz.ntmps92;go_upto_region 1 with(fail)
        rw[d.out];go_wp2;go_ret;exact aJ.no e.out c.out
structure Kc where
 at_:Int
 val:Int
 fl:Int
 du:Int
 key:Int
def xab (t:Nat→Kc) (a b:Nat):Prop:=∀i j,a≤i→i<j→j<b→(t i).key<(t j).key
structure Gr (t t':Nat→Kc) (a b:Nat):Prop where
 fw:∀i,a≤i→i<b→∃j,a≤j∧j<b∧t' i=t j
 bw:∀j,a≤j→j<b→∃i,a≤i∧i<b∧t' i=t j
 out:∀i,i<a∨b≤i→t' i=t i
theorem Gr.refl (t:Nat→Kc) (a b:Nat):Gr t t a b:=⟨fun i d c=>⟨i,d,c,rfl⟩,fun i d c=>⟨i,d,c,rfl⟩,fun _ _=>rfl⟩
def xaf (t:Nat→Kc) (n:Nat):Prop:=∀i j,i<j→j<n→((t j).at_<(t i).at_↔(t j).key<(t i).key)∧(t j).key≠(t i).key
structure FD (t u:Nat→Kc) (a b:Nat):Prop where
 fw:∀i,a≤i→i<b→∃j,a≤j∧j<b∧u i=t j
 bw:∀j,a≤j→j<b→∃i,a≤i∧i<b∧u i=t j
theorem Gr.same {t u:Nat→Kc} (h:Gr t u a b):FD t u a b:=⟨h.fw,h.bw⟩
theorem FD.refl (t:Nat→Kc) (a b:Nat):FD t t a b:=(Gr.refl t a b).same
structure Ch where
 at_:Int
 val:Int
 fl:Int
 du:Int
def Ch.kc (x:Ch) (key:Int):Kc:=⟨x.at_,x.val,x.fl,x.du,key⟩
def Kc.ch (x:Kc):Ch:=⟨x.at_,x.val,x.fl,x.du⟩
def Ch.zero:Ch:=⟨0,0,0,0⟩
def dW (l:List Ch):Nat→Kc:=fun i=>((l[i]?).getD Ch.zero).kc (((l[i]?).getD Ch.zero).at_*l.length+i)
theorem Bu {l:List Ch} {x:Ch} (h:l[i]?=J x):(dW l i).ch=x:=by
 unfold dW;rw[h];rfl
theorem oC {l:List Ch} {x:Ch} (h:l[i]?=J x):(dW l i).at_=x.at_:=by
 unfold dW;rw[h];rfl
theorem Ht {a b n i j:Int} (hi:0≤i) (d:0≤j) (e:j<n) (h:b<a):b*n+j<a*n+i:=by
 have c:(b+1)*n≤a*n:=Int.mul_le_mul_of_nonneg_right (by omega) (by omega);rw[Int.add_mul,Int.one_mul] at c;omega
theorem vX (l:List Ch):xaf (dW l) l.length:=fun i j m o=>by
 have k:(dW l i).key=(dW l i).at_*l.length+i:=rfl;have c:(dW l j).key=(dW l j).at_*l.length+j:=rfl;rw[k,c];generalize (dW l i).at_=a;generalize (dW l j).at_=b;have e:(i:Int)<j∧(j:Int)<l.length:=by omega
 by_cases h:b<a
 ·have:=Ht (i:=(i:Int)) (j:=(j:Int)) (n:=(l.length:Int)) (by omega) (by omega) e.2 h
  omega
 ·by_cases d:a<b
  ·have:=Ht (i:=(j:Int)) (j:=(i:Int)) (n:=(l.length:Int)) (by omega) (by omega) (by omega) d
   omega
  ·have:a=b:=by omega
   subst this;omega
def nS (n:Nat) (t:Nat→Kc):List Ch:=(List.range n).map fun i=>(t i).ch
theorem Dj (n:Nat) (t:Nat→Kc):(nS n t).length=n:=by unfold nS;rw[List.length_map,List.length_range]
theorem Fc {t:Nat→Kc} (h:i<n):(nS n t)[i]?=J (t i).ch:=by
 unfold nS;rw[List.getElem?_map,List.getElem?_range h];rfl
theorem sR (l:List Ch):nS l.length (dW l)=l:=by
 refine List.ext_getElem? fun i=>?_
 by_cases h:i<l.length
 ·rw [Fc h,Bu (List.getElem?_eq_getElem h),List.getElem?_eq_getElem h]
 ·rw [List.getElem?_eq_none (by rw[Dj];omega),List.getElem?_eq_none (by omega)]
structure Ep (l k:List Ch):Prop where
 ex:∃t,xab t 0 l.length∧FD (dW l) t 0 l.length∧k=nS l.length t
def oh (l:List Ch):Prop:=∀(i j:Nat) (x y:Ch),i<j→l[i]?=J x→l[j]?=J y→x.at_≤y.at_
theorem Ep.self {l:List Ch} (h:oh l):Ep l l:=by
 refine⟨dW l,fun i j m k c=>?_,FD.refl _ _ _,(sR l).symm⟩;have:=h i j _ _ k (List.getElem?_eq_getElem (by omega)) (List.getElem?_eq_getElem c);rw[←oC (List.getElem?_eq_getElem (show i<l.length by omega)),←oC (List.getElem?_eq_getElem c)] at this;have d:=vX l i j k c;have o:=d.2;by_cases e:(dW l j).key<(dW l i).key
 ·have:=d.1.2 e
  omega
 ·omega
def putL:List Ch→Ch→List Ch
 |[],x=>[x]
 |y::l,x=>if x.at_<y.at_ then x::y::l else y::putL l x
def kJ:List Kc→Kc→List Kc
 |[],x=>[x]
 |y::l,x=>if x.at_<y.at_ then x::y::l else y::kJ l x
theorem xK (l:List Kc) (x z:Kc):z∈kJ l x↔z=x∨z∈l:=by
 induction l with
 |nil=>simp [kJ]
 |cons y l ih=>
  unfold kJ;by_cases h:x.at_<y.at_
  ·rw [if_pos h];simp
  ·rw [if_neg h,List.mem_cons,List.mem_cons,ih]
   exact⟨fun e=>e.elim (fun e=>.inr (.inl e)) (fun e=>e.elim .inl (fun e=>.inr (.inr e))),fun e=>e.elim (fun e=>.inr (.inl e)) (fun e=>e.elim .inl (fun e=>.inr (.inr e)))⟩
theorem vM (l:List Ch) (x z:Ch):z∈putL l x↔z=x∨z∈l:=by
 induction l with
 |nil=>simp [putL]
 |cons y l ih=>
  unfold putL;by_cases h:x.at_<y.at_
  ·rw [if_pos h];simp
  ·rw [if_neg h,List.mem_cons,List.mem_cons,ih]
   exact⟨fun e=>e.elim (fun e=>.inr (.inl e)) (fun e=>e.elim .inl (fun e=>.inr (.inr e))),fun e=>e.elim (fun e=>.inr (.inl e)) (fun e=>e.elim .inl (fun e=>.inr (.inr e)))⟩
theorem Im (l:List Ch) (x:Ch):(putL l x).length=l.length+1:=by
 induction l with
 |nil=>rfl
 |cons y l ih=>
  unfold putL;by_cases h:x.at_<y.at_
  ·rw [if_pos h];rfl
  ·rw [if_neg h,List.length_cons,ih];rfl
theorem L4 (l:List Kc) (x:Kc):(kJ l x).map Kc.ch=putL (l.map Kc.ch) x.ch:=by
 induction l with
 |nil=>rfl
 |cons y l ih=>
  show List.map Kc.ch (if x.at_<y.at_ then _ else _)=if x.at_<y.at_ then _ else _
  by_cases h:x.at_<y.at_
  ·rw [if_pos h,if_pos h];rfl
  ·rw [if_neg h,if_neg h,List.map_cons,ih]
def Dc (l:List Kc):Prop:=l.Pairwise fun a b=>a.key<b.key
theorem GD {l:List Kc} {x:Kc} (h:Dc l) (d:∀z∈l,(x.at_<z.at_→x.key<z.key)∧(¬x.at_<z.at_→z.key<x.key)):Dc (kJ l x):=by
 induction l with
 |nil=>exact List.pairwise_singleton _ _
 |cons y l ih=>
  obtain⟨k,m⟩:=List.pairwise_cons.1 h;unfold kJ;by_cases e:x.at_<y.at_
  ·rw [if_pos e]
   have j:=(d y List.mem_cons_self).1 e;refine List.pairwise_cons.2 ⟨fun z c=>?_,h⟩;rcases List.mem_cons.1 c with rfl|c
   ·exact j
   ·have:=k z c
    omega
  ·rw [if_neg e]
   have j:=(d y List.mem_cons_self).2 e;refine List.pairwise_cons.2 ⟨fun z c=>?_,ih m (fun z c=>d z (List.mem_cons_of_mem _ c))⟩;rcases (xK l x z).1 c with rfl|c
   ·exact j
   ·exact k z c
theorem AP:∀(a b:List Kc),Dc a→Dc b→(∀x,x∈a↔x∈b)→a=b
 |[],[],_,_,_=>rfl
 |[],y::b,_,_,h=>absurd ((h y).2 List.mem_cons_self) (by simp)
 |x::a,[],_,_,h=>absurd ((h x).1 List.mem_cons_self) (by simp)
 |x::a,y::b,ha,hb,h=>by
  obtain⟨a1,k⟩:=List.pairwise_cons.1 ha;obtain⟨b1,b2⟩:=List.pairwise_cons.1 hb;have j:x=y:=by
   rcases List.mem_cons.1 ((h x).1 List.mem_cons_self) with e|e
   ·exact e
   ·rcases List.mem_cons.1 ((h y).2 List.mem_cons_self) with d|d
    ·exact d.symm
    ·have:=b1 x e
     have:=a1 y d;omega
  subst j;rw[AP a b k b2 (fun z=>⟨fun c=>?_,fun c=>?_⟩)]
  ·rcases List.mem_cons.1 ((h z).1 (List.mem_cons_of_mem _ c)) with e|e
   ·subst e
    have:=a1 z c;omega
   ·exact e
  ·rcases List.mem_cons.1 ((h z).2 (List.mem_cons_of_mem _ c)) with e|e
   ·subst e
    have:=b1 z c;omega
   ·exact e
theorem F4 (l:List Kc) (m:List Kc):(l.foldl kJ m).map Kc.ch=(l.map Kc.ch).foldl putL (m.map Kc.ch):=by
 induction l generalizing m with
 |nil=>rfl
 |cons x l ih=>
  show ((l.foldl kJ (kJ m x)).map Kc.ch)=_;rw[ih,L4];rfl
theorem jj {α:Type} (f:Nat→α) (m:Nat):(List.range (m+1)).map f=(List.range m).map f++[f m]:=by
 rw[List.range_succ,List.map_append];rfl
theorem Cs (l:List Ch) (m:Nat) (hm:m≤l.length):Dc (((List.range m).map (dW l)).foldl kJ [])∧∀x,x∈((List.range m).map (dW l)).foldl kJ []↔∃i,i<m∧x=dW l i:=by
 induction m with
 |zero=>exact⟨List.Pairwise.nil,fun x=>⟨fun h=>by simp at h,fun ⟨i,h,_⟩=>absurd h (Nat.not_lt_zero _)⟩⟩
 |succ m ih=>
  obtain⟨k,d⟩:=ih (by omega);rw[jj,List.foldl_append];show Dc (kJ _ _)∧∀x,x∈kJ _ _↔_;refine⟨GD k fun z o=>?_,fun x=>?_⟩
  ·obtain ⟨i,hi,rfl⟩:=(d z).1 o
   have c:=vX l i m hi (by omega);refine⟨fun e=>c.1.1 e,fun e=>?_⟩;have p:=c.2;by_cases j:(dW l m).key<(dW l i).key
   ·exact absurd (c.1.2 j) e
   ·omega
  ·rw [xK,d]
   constructor
   ·rintro (rfl|⟨i,hi,rfl⟩)
    ·exact ⟨m,by omega,rfl⟩
    ·exact ⟨i,by omega,rfl⟩
   ·rintro ⟨i,hi,rfl⟩
    by_cases e:i=m
    ·subst e;exact .inl rfl
    ·exact .inr ⟨i,by omega,rfl⟩
theorem sh (n:Nat) (t:Nat→Kc):nS n t=((List.range n).map t).map Kc.ch:=by
 unfold nS;rw[List.map_map];rfl
theorem Ep.xad {l k:List Ch} (h:Ep l k):k=l.foldl putL []:=by
 obtain⟨t,s,m,rfl⟩:=h.ex;obtain⟨q,o⟩:=Cs l l.length (Nat.le_refl _);have e:(List.range l.length).map t=((List.range l.length).map (dW l)).foldl kJ []:=by
  refine AP _ _ ?_ q fun x=>?_
  ·refine List.pairwise_map.2 (List.pairwise_iff_getElem.2 fun i j hi c p=>?_)
   rw[List.length_range] at hi c;rw[List.getElem_range,List.getElem_range];exact s i j (Nat.zero_le _) p c
  ·rw [o,List.mem_map]
   constructor
   ·rintro ⟨i,hi,rfl⟩
    obtain⟨j,-,d,r⟩:=m.fw i (Nat.zero_le _) (List.mem_range.1 hi);exact⟨j,d,r⟩
   ·rintro ⟨j,c,rfl⟩
    obtain⟨i,-,i2,i3⟩:=m.bw j (Nat.zero_le _) c;exact⟨i,List.mem_range.2 i2,i3⟩
 rw[sh,e,F4,←sh,sR];rfl
theorem FU {l:List Ch} (h:oh l):l.foldl putL []=l:=(Ep.self h).xad.symm
theorem uA {l:List Ch}:oh l↔l.Pairwise fun a b=>a.at_≤b.at_:=by
 rw[List.pairwise_iff_getElem];exact⟨fun h i j hi o c=>h i j _ _ c (List.getElem?_eq_getElem hi) (List.getElem?_eq_getElem o),fun h i j x y c m e=>by
  obtain⟨k,rfl⟩:=List.getElem?_eq_some_iff.1 m
  obtain⟨d,rfl⟩:=List.getElem?_eq_some_iff.1 e
  exact h i j k d c⟩
theorem GN {l:List Ch} (h:oh l) (x:Ch):oh (putL l x):=by
 rw[uA] at h ⊢
 induction l with
 |nil=>exact List.pairwise_singleton _ _
 |cons y l ih=>
  obtain⟨d,j⟩:=List.pairwise_cons.1 h;unfold putL;by_cases e:x.at_<y.at_
  ·rw [if_pos e]
   refine List.pairwise_cons.2 ⟨fun z c=>?_,h⟩;rcases List.mem_cons.1 c with rfl|c
   ·omega
   ·have:=d z c
    omega
  ·rw [if_neg e]
   refine List.pairwise_cons.2 ⟨fun z c=>?_,ih j⟩;rcases (vM l x z).1 c with rfl|c
   ·omega
   ·exact d z c
theorem zN {p:List Ch} (h:oh p) (news:List Ch):oh (news.foldl putL p):=by
 induction news generalizing p with
 |nil=>exact h
 |cons x l ih=>exact ih (GN h x)
theorem EG (p news:List Ch):(news.foldl putL p).length=p.length+news.length:=by
 induction news generalizing p with
 |nil=>rfl
 |cons x l ih=>
  show (l.foldl putL (putL p x)).length=_;rw[ih,Im,List.length_cons];omega
theorem Hp (p news:List Ch) (z:Ch):z∈news.foldl putL p↔z∈p∨z∈news:=by
 induction news generalizing p with
 |nil=>simp
 |cons x l ih=>
  show z∈l.foldl putL (putL p x)↔_;rw[ih,vM,List.mem_cons];constructor
  ·rintro ((h|h)|h)
   ·exact .inr (.inl h)
   ·exact .inl h
   ·exact .inr (.inr h)
  ·rintro (h|h|h)
   ·exact .inl (.inr h)
   ·exact .inl (.inl h)
   ·exact .inr h
def dy (f:List UInt8) (p m:Nat):List UInt8:=f.set p ((f.getD p 0)^^^UInt8.ofNat m)
theorem cR (f:List UInt8) (p m:Nat):(dy f p m).length=f.length:=by unfold dy;rw[List.length_set]
def qw (a:At) (f:List UInt8):List UInt8:=
 if a.pos.toNat%f.length+1<f.length then dy (dy f (a.pos.toNat%f.length) (a.mask.toNat%256)) (a.pos.toNat%f.length+1) (a.mask.toNat/256)
 else dy f (a.pos.toNat%f.length) (a.mask.toNat%256)
theorem wN (a:At) (f:List UInt8):(qw a f).length=f.length:=by
 unfold qw;split
 ·rw [cR,cR]
 ·rw [cR]
def sN (l:List Sl) (bd pa:Int) (f:List UInt8):Bool:=match cm l bd pa f with
 |some o=>decide (o.2.2.length=1)
 |none=>false
def dL (l:List Sl) (a:At) (bd pa:Int) (f:List UInt8):List UInt8:=
 if a.fault=1∨a.fault=2 then []
 else if a.fault=5 then (dC l bd pa f).getD []
 else if a.fault=3∧sN l bd pa f=true then qw a ((cI l bd pa f a.value).getD []) else (cI l bd pa f a.value).getD []
theorem lI (c:cW l) {bd:Int} {o:Int×Rq×List Nat} (h:cm l bd pa f=J o) (x:Int):5≤(fZ l x o).length∧(fZ l x o).length≤256:=by
 obtain⟨u,q,ms⟩:=o;obtain⟨t,v,r,d,m⟩:=fT h;cases ms with
 |nil=>exact absurd rfl m
 |cons j ms=>
  obtain⟨s,hs,-⟩:=fu (l:=l) (bd:=bd) (pa:=pa) (un:=u) (k:=l.length) (j:=j) (by rw[←d];exact List.mem_cons_self);have p:=c.2 s (List.mem_of_getElem? hs);have e:=df u (Sl.ji p r x);unfold fZ;dsimp only;rw[hs];dsimp only;split
  ·exact e
  ·rw [jF]
   exact e
theorem qx (c:cW l) (bd pa:Int) (f:List UInt8) (x:Int):((cI l bd pa f x).getD []).length≤256:=by
 unfold cI;cases h:cm l bd pa f with
 |none=>exact Nat.zero_le _
 |some o=>exact(lI c h x).2
theorem xD (c:cW l) (bd pa:Int) (f:List UInt8):((dC l bd pa f).getD []).length≤256:=by
 unfold dC;cases h:cm l bd pa f with
 |none=>exact Nat.zero_le _
 |some o=>
  show (if o.2.2.length=1 then _ else _:List UInt8).length≤256;split
  ·obtain ⟨u,q,ms⟩:=o
   exact(df u (eS (gO (fT h).2.2.1) (by decide) (by decide))).2
  ·exact (lI c h 0).2
theorem je (c:cW l) (a:At) (bd pa:Int) (f:List UInt8):(dL l a bd pa f).length≤256:=by
 unfold dL;split
 ·exact Nat.zero_le _
 ·split
  ·exact xD c _ _ _
  ·split
   ·rw [wN]
    exact qx c _ _ _ _
   ·exact qx c _ _ _ _
def eL (C st:Int) (a:At) (i:Nat) (x:UInt8):Ch:=⟨st+((i:Int)+1)*C+(if a.fault=6∧a.pos≤(i:Int) then a.ai else 0),(x.toNat:Int),0,C⟩
def chsN (C st:Int) (a:At) (r:List UInt8) (k:Nat):List Ch:=(List.range k).map fun i=>eL C st a i (r.getD i 0)
theorem chsN_succ (C st:Int) (a:At) (r:List UInt8) (k:Nat):chsN C st a r (k+1)=chsN C st a r k++[eL C st a k (r.getD k 0)]:=jj _ _
theorem chsN_len (C st:Int) (a:At) (r:List UInt8) (k:Nat):(chsN C st a r k).length=k:=by unfold chsN;rw[List.length_map,List.length_range]
def cA (aC:List At) (lp:Bool) (k:Nat):At:=
 if aC.length=0∨(lp=false∧aC.length≤k) then At.zero else (aC[k%aC.length]?).getD At.zero
theorem At.jE:At.zero.ok:=by
 unfold At.zero;rw[At.bG];omega
theorem oG {aC:List At} (h:∀x∈aC,x.ok) (lp:Bool) (k:Nat):(cA aC lp k).ok:=by
 unfold cA;split
 ·exact At.jE
 ·cases e:aC[k%aC.length]? with
  |none=>exact At.jE
  |some x=>exact h x (List.mem_of_getElem? e)
structure Ln where
 aA:List ((Int×Int)×List UInt8)
 pend:List Ch
 free:Int
 heard:Bool
 last:Int
def Ln.zero:Ln:=⟨[],[],0,false,0⟩
def ia:Int:=1152921504606846976
def tM (bd:Int) (a:At) (tick:Int) (n:Nat):Int:=tick+aK bd n+bq bd+a.bf+(if a.fault=4 then a.ai else 0)
def fM (l:List Sl) (a:At) (bd pa:Int) (f:List UInt8) (tick:Int):List Ch:=chsN (charT bd) (tM bd a tick f.length) a (dL l a bd pa f) (dL l a bd pa f).length
def Ln.j6 (s:Ln) (n:Nat) (tick:Int):Int:=
 if n<1∨256<n then 4 else if tick<0∨ia<tick then 3 else if tick<s.free then 7 else 0
def Ln.send (l:List Sl) (aC:List At) (lp:Bool) (s:Ln) (bd pa:Int) (f:List UInt8) (tick:Int):Ln:=
 {s with aA:=s.aA++[((bd,pa),f)],pend:=(fM l (cA aC lp s.aA.length) bd pa f tick).foldl putL s.pend,free:=tick+aK bd f.length}
def Ln.due (s:Ln) (lV:Int):Bool:=match s.pend with
 |[]=>false
 |x::_=>decide (x.at_≤lV)
def Ln.ev (s:Ln) (x:Ch):Ch:={x with fl:=if s.heard=true∧x.at_<s.last+x.du then 2 else 0}
def Ln.next (s:Ln) (x:Ch) (r:List Ch):Ln:={s with pend:=r,heard:=true,last:=x.at_,free:=max s.free x.at_}
structure Jm (x:Ch):Prop where
 a0:0≤x.at_
 a1:x.at_≤ia+33554432
 v0:0≤x.val
 v1:x.val≤255
 fl:x.fl=0
 d0:96≤x.du
 d1:x.du≤9167
structure Ln.ok (s:Ln):Prop where
 asc:oh s.pend
 ch:∀x∈s.pend,Jm x
 f0:0≤s.free
 f1:s.free≤ia+33554432
 l0:0≤s.last
 l1:s.last≤ia+33554432
theorem Ln.jE:Ln.zero.ok:=⟨fun i j x y _ h=>(by cases h),fun x h=>(by cases h),by decide,by decide,by decide,by decide⟩
theorem gD {bd:Int} (h:aU bd pa) (e:n≤256):0≤aK bd n∧aK bd n≤2346752:=by
 obtain⟨t1,t2,-⟩:=bV h;unfold aK;have c:(0:Int)≤(n:Int)*charT bd:=Int.mul_nonneg (by omega) (by omega);have d:(n:Int)*charT bd≤256*9167:=Int.mul_le_mul (by omega) t2 (by omega) (by omega);omega
theorem At.nC {a:At} (h:a.ok):0≤a.bf∧a.bf≤5000000∧0≤a.value∧a.value≤65535∧0≤a.ai∧a.ai≤5000000:=⟨h.1,h.2.1,h.2.2.1,h.2.2.2.1,h.2.2.2.2.1,h.2.2.2.2.2.1⟩
theorem Bm {bd:Int} (h:aU bd pa) {a:At} (d:a.ok) (tick:Int) (c:n≤256):tick≤tM bd a tick n∧tM bd a tick n≤tick+12400000:=by
 obtain⟨a1,j⟩:=gD h c;obtain⟨t1,t2,t3,t4,t5,t6⟩:=bV h;obtain⟨b1,b2,b3,m,e,k⟩:=At.nC d;unfold tM;split<;>omega
theorem Kn {bd:Int} (h:aU bd pa) {a:At} (k:a.ok) (r:0≤st) (j:st≤ia+12400000) (hi:i<256) (x:UInt8):Jm (eL (charT bd) st a i x):=by
 obtain⟨t1,t2,-⟩:=bV h;obtain⟨b1,b2,b3,s,p,q⟩:=At.nC k;have o:(0:Int)≤((i:Int)+1)*charT bd:=Int.mul_nonneg (by omega) (by omega);have d:((i:Int)+1)*charT bd≤256*9167:=Int.mul_le_mul (by omega) t2 (by omega) (by omega);have e:(x.toNat:Int)≤255:=by have:=dD x;omega
 have c:ia=1152921504606846976:=rfl;rw[c] at j;unfold eL;generalize ((i:Int)+1)*charT bd=m at o d ⊢;refine⟨?_,?_,Int.natCast_nonneg _,e,rfl,t1,t2⟩
 ·dsimp only
  split<;>omega
 ·dsimp only
  rw[c];split<;>omega
theorem GM (e:cW l) {bd:Int} (h:aU bd pa) {a:At} (d:a.ok) (j:f.length≤256) (o:0≤tick) (k:tick≤ia):∀x∈fM l a bd pa f tick,Jm x:=by
 intro x c;unfold fM chsN at c;obtain⟨i,hi,rfl⟩:=List.mem_map.1 c;have hi:=List.mem_range.1 hi;have m:=je e a bd pa f;obtain⟨b1,b2⟩:=Bm h d tick j;exact Kn h d (by omega) (by omega) (by omega) _
theorem Ln.ok.send {s:Ln} (hs:s.ok) (d:cW l) {aC:List At} (j:∀x∈aC,x.ok) (lp:Bool) {bd:Int} (h:aU bd pa) (c:f.length≤256) (k:0≤tick) (m:tick≤ia):(s.send l aC lp bd pa f tick).ok:=by
 obtain⟨a1,p⟩:=gD h c;refine⟨zN hs.asc _,fun x o=>?_,?_,?_,hs.l0,hs.l1⟩
 ·rcases (Hp _ _ x).1 o with e|e
  ·exact hs.ch x e
  ·exact GM d h (oG j lp _) c k m x e
 ·show 0≤tick+aK bd f.length
  omega
 ·show tick+aK bd f.length≤ia+33554432
  omega
theorem Ln.ok.next {s:Ln} (hs:s.ok) {x:Ch} {r:List Ch} (h:s.pend=x::r):(s.next x r).ok:=by
 have c:=hs.ch x (by rw[h];exact List.mem_cons_self);obtain⟨f0,f1⟩:=And.intro hs.f0 hs.f1;refine⟨?_,fun y d=>hs.ch y (by rw[h];exact List.mem_cons_of_mem _ d),?_,?_,c.a0,c.a1⟩
 ·have:=uA.1 hs.asc
  rw[h] at this;exact uA.2 (List.pairwise_cons.1 this).2
 ·show 0≤max s.free x.at_
  omega
 ·show max s.free x.at_≤ia+33554432
  have:=c.a1;omega
structure eO (W:World) (g o n N:Nat) (t:Nat→Kc):Prop where
 h:∃c,W.heap[g]?=J (.cells c 174 (0,0))∧c.size=N∧∀i,i<n→c[o+i*4]?=J (M U (t i).at_)∧c[o+i*4+1]?=J (M .u8 (t i).val)∧c[o+i*4+2]?=J (M U (t i).fl)∧c[o+i*4+3]?=J (M U (t i).du)
 le:o+n*4≤N
theorem eO.at {o:Nat} {t:Nat→Kc} (h:eO W g o n N t) (hi:i<n):
  W.cell? ⟨g,o+i*4,none⟩=J (M U (t i).at_)∧W.cell? ⟨g,o+i*4+1,none⟩=J (M .u8 (t i).val)∧W.cell? ⟨g,o+i*4+2,none⟩=J (M U (t i).fl)∧W.cell? ⟨g,o+i*4+3,none⟩=J (M U (t i).du):=by
 obtain⟨c,d,-,e⟩:=h.h;obtain⟨k,j,m,p⟩:=e i hi;exact⟨by rw[hpCell d];exact k,by rw[hpCell d];exact j,by rw[hpCell d];exact m,by rw[hpCell d];exact p⟩
theorem eO.keeps {F:Nat→Prop} {o:Nat} {t:Nat→Kc} (h:eO W g o n N t) (e:Keeps F W X) (m:¬F g):eO X g o n N t:=by
 obtain⟨c,d,j,k⟩:=h.h;exact⟨⟨c,hpKeeps d e m,j,k⟩,h.le⟩
def mS (w:World) (V:Bool) (r:Ending) (w':World):Prop:=∃n:Int,r=.returned (M U n)∧Hid (decide (n<0)=V)∧Below w.heap.size w w'
theorem LJ (a:Int) (w:World):Calls Tryz.prog 184 #[M U a] w fun r w'=>r=.returned (.bool false)∧w=w':=by
 have g:(a !=a)=false:=by rw[bne_eq_false_iff_eq]
 go_enter Tryz.func184,Tryz.ntmps184;go_wp2;go_ret;exact⟨rfl,rfl⟩
theorem F7 (a b:Int) (w:World):Calls Tryz.prog 161 #[M U a,M U b] w fun r w'=>∃n:Int,r=.returned (M U n)∧Hid (decide (n<0)=decide (a<b))∧w=w':=by
 have e:=hid LJ;by_cases c:a<b
 ·have d1:decide (a<b)=true:=decide_eq_true c
  clear c;go_enter Tryz.func161,Tryz.ntmps161;go_wp2_with (go_at_call 184;(with_reducible refine(e.out _ _).mono ?_);rintro r j ⟨rfl,rfl⟩);go_ret;exact⟨-1,rfl,by show _=_;rw[d1];rfl,rfl⟩
 ·have d1:decide (a<b)=false:=decide_eq_false c
  by_cases d:b<a
  ·have d2:decide (b<a)=true:=decide_eq_true d
   clear c d;go_enter Tryz.func161,Tryz.ntmps161;go_wp2_with (go_at_call 184;(with_reducible refine(e.out _ _).mono ?_);rintro r j ⟨rfl,rfl⟩);go_ret;exact⟨1,rfl,by show _=_;rw[d1];rfl,rfl⟩
  ·have d2:decide (b<a)=false:=decide_eq_false d
   clear c d;go_enter Tryz.func161,Tryz.ntmps161;go_wp2_with (go_at_call 184;(with_reducible refine(e.out _ _).mono ?_);rintro r j ⟨rfl,rfl⟩);go_ret;exact⟨0,rfl,by show _=_;rw[d1];rfl,rfl⟩
theorem Gt (x y:Kc) (w:World):Calls Tryz.prog 160 #[.agg #[M U (x).at_,M .u8 (x).val,M U (x).fl,M U (x).du],.agg #[M U (y).at_,M .u8 (y).val,M U (y).fl,M U (y).du]] w (mS w (decide (x.at_<y.at_))):=by
 have c:=hid (F7 x.at_ y.at_);have d:Hid (∀A B,Below w.heap.size w ((w.alloc A).alloc B)):=fun A B=>bta (bal' w A) (Nat.le_refl _) B
 obtain⟨z,u,t,p,m⟩:=x;obtain⟨s,o,k,q,v⟩:=y;dsimp only at c ⊢;go_enter Tryz.func160,Tryz.ntmps160;go_wp2_with (go_at_call 161;(with_reducible refine(c.out _).mono ?_);rintro r j ⟨n,rfl,e,rfl⟩);go_ret;exact⟨n,rfl,e.out,d.out _ _⟩
