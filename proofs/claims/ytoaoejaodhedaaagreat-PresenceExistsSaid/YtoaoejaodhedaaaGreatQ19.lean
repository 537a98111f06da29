import Derived.Test.YtoaoejaodhedaaaGreatQ18
namespace Go.Proofs.YtoaoejaodhedaaaGreat
open Go.RowKit
set_option maxHeartbeats 12800000
set_option maxRecDepth 100000
structure At where
 lat:Int
 fault:Int
 pos:Int
 mask:Int
 ticks:Int
 value:Int
def At.C (a:At):Array Value:=#[.int .i64 a.lat,.int .i64 a.fault,.int .i64 a.pos,.int .i64 a.mask,.int .i64 a.ticks,.int .i64 a.value]
def At.zero:At:=⟨0,0,0,0,0,0⟩
def At.ok (a:At):Prop:=0≤a.lat∧a.lat≤5000000∧0≤a.value∧a.value≤65535∧0≤a.ticks∧a.ticks≤5000000∧
  ((a.fault=0∨a.fault=1∨a.fault=2∨a.fault=5)∧a.pos=0∧a.mask=0∧a.ticks=0∨
   a.fault=3∧0≤a.pos∧a.pos≤255∧1≤a.mask∧a.mask≤65535∧a.mask%256≠0∧a.ticks=0∨
   a.fault=4∧a.pos=0∧a.mask=0∨
   a.fault=6∧1≤a.pos∧a.pos≤255∧a.mask=0)
theorem At.ok_mk (lat fault pos mask ticks value:Int):(At.mk lat fault pos mask ticks value).ok↔(0≤lat∧lat≤5000000∧0≤value∧value≤65535∧0≤ticks∧ticks≤5000000∧
  ((fault=0∨fault=1∨fault=2∨fault=5)∧pos=0∧mask=0∧ticks=0∨
   fault=3∧0≤pos∧pos≤255∧1≤mask∧mask≤65535∧mask%256≠0∧ticks=0∨
   fault=4∧pos=0∧mask=0∨
   fault=6∧1≤pos∧pos≤255∧mask=0)):=Iff.rfl
def AtPost (w:World) (a:At) (r:Ending) (w':World):Prop:=∃V:Bool,r=.returned (.bool V)∧Hid (V=true↔a.ok)∧Below w.heap.size w w'
theorem AtPost.no {w w':World} {a:At} (h:¬a.ok) (hb:Below w.heap.size w w'):AtPost w a (.returned (.bool false)) w':=⟨false,rfl,⟨fun e=>(by cases e),fun e=>absurd e h⟩,hb⟩
theorem AtPost.yes {w w':World} {a:At} (h:a.ok) (hb:Below w.heap.size w w'):AtPost w a (.returned (.bool true)) w':=⟨true,rfl,⟨fun _=>h,fun _=>rfl⟩,hb⟩
theorem infoAT:(Tryz.prog.info? 70).map (·.size)=some 6:=by kernel_rfl
theorem z18_1 {p:Prop} (h:p:=by
 show _
 rw[At.ok_mk]
 refine⟨by omega,by omega,by omega,by omega,by omega,by omega,?_⟩
 first
  |exact .inl ⟨by omega,by omega,by omega,by omega⟩
  |exact .inr (.inl ⟨rfl,by omega,by omega,by omega,by omega,by omega,by omega⟩)
  |exact .inr (.inr (.inl ⟨rfl,by omega,by omega⟩))
  |exact .inr (.inr (.inr ⟨rfl,by omega,by omega,by omega⟩))):p:=h
theorem ratt_any (a:At) (w:World):Calls Tryz.prog 92 #[.agg a.C] w (AtPost w a):=by
 obtain⟨lat,fault,pos,mask,ticks,value⟩:=a;obtain⟨C,hC⟩:=gE ((At.mk lat fault pos mask ticks value).C);rw[hC];obtain⟨W1,hW1,hb1,pS⟩:=alQ w (.cells C 70);have t0:W1.cell? ⟨w.heap.size,0,none⟩=some (.int .i64 lat):=by rw[bA pS 0,←hC];rfl
 have t1:W1.cell? ⟨w.heap.size,1,none⟩=some (.int .i64 fault):=by rw[bA pS 1,←hC];rfl
 have t2:W1.cell? ⟨w.heap.size,2,none⟩=some (.int .i64 pos):=by rw[bA pS 2,←hC];rfl
 have t3:W1.cell? ⟨w.heap.size,3,none⟩=some (.int .i64 mask):=by rw[bA pS 3,←hC];rfl
 have t4:W1.cell? ⟨w.heap.size,4,none⟩=some (.int .i64 ticks):=by rw[bA pS 4,←hC];rfl
 have t5:W1.cell? ⟨w.heap.size,5,none⟩=some (.int .i64 value):=by rw[bA pS 5,←hC];rfl
 have HW1:=bC hW1;have HB1:=bC hb1;clear hW1 hb1 pS hC;by_cases c1:(lat:Int)<0
 ·skip
  have HV:Hid (¬(At.mk lat fault pos mask ticks value).ok):=by
   show ¬_;rw[At.ok_mk];omega
  go_enter Tryz.func92,Tryz.ntmps92;go_upto_region 1 with(fail)
  rw[HW1.out];go_wp2;go_ret;exact AtPost.no HV.out HB1.out
 ·skip
  by_cases c2:(5000000:Int)<lat
  ·skip
   have HV:Hid (¬(At.mk lat fault pos mask ticks value).ok):=by
    show ¬_;rw[At.ok_mk];omega
   go_enter Tryz.func92,Tryz.ntmps92;go_upto_region 1 with(fail)
   rw[HW1.out];go_wp2;go_ret;exact AtPost.no HV.out HB1.out
  ·skip
   by_cases c3:(value:Int)<0
   ·skip
    have HV:Hid (¬(At.mk lat fault pos mask ticks value).ok):=by
     show ¬_;rw[At.ok_mk];omega
    go_enter Tryz.func92,Tryz.ntmps92;go_upto_region 1 with(fail)
    rw[HW1.out];go_wp2;go_ret;exact AtPost.no HV.out HB1.out
   ·skip
    by_cases c4:(65535:Int)<value
    ·skip
     have HV:Hid (¬(At.mk lat fault pos mask ticks value).ok):=by
      show ¬_;rw[At.ok_mk];omega
     go_enter Tryz.func92,Tryz.ntmps92;go_upto_region 1 with(fail)
     rw[HW1.out];go_wp2;go_ret;exact AtPost.no HV.out HB1.out
    ·skip
     by_cases c5:(ticks:Int)<0
     ·skip
      have HV:Hid (¬(At.mk lat fault pos mask ticks value).ok):=by
       show ¬_;rw[At.ok_mk];omega
      go_enter Tryz.func92,Tryz.ntmps92;go_upto_region 1 with(fail)
      rw[HW1.out];go_wp2;go_ret;exact AtPost.no HV.out HB1.out
     ·skip
      by_cases c6:(5000000:Int)<ticks
      ·skip
       have HV:Hid (¬(At.mk lat fault pos mask ticks value).ok):=by
        show ¬_;rw[At.ok_mk];omega
       go_enter Tryz.func92,Tryz.ntmps92;go_upto_region 1 with(fail)
       rw[HW1.out];go_wp2;go_ret;exact AtPost.no HV.out HB1.out
      ·skip
       by_cases hf:0≤fault∧fault≤6
       ·rcases (show fault=0∨fault=1∨fault=2∨fault=3∨fault=4∨fault=5∨fault=6 by omega) with hk|hk|hk|hk|hk|hk|hk
        ·subst hk
         by_cases c7:pos=0
         ·have ec7:(pos==0)=true:=b1 c7
          by_cases c8:mask=0
          ·have ec8:(mask==0)=true:=b1 c8
           by_cases c9:ticks=0
           ·have ec9:(ticks==0)=true:=b1 c9
            have HV:Hid ((At.mk lat 0 pos mask ticks value).ok):=by
             exact z18_1
            clear c7 c8 c9;go_enter Tryz.func92,Tryz.ntmps92;go_upto_region 1 with(fail)
            rw[HW1.out];go_wp2;go_ret;exact AtPost.yes HV.out HB1.out
           ·have ec9:(ticks==0)=false:=b0 c9
            have HV:Hid (¬(At.mk lat 0 pos mask ticks value).ok):=by
             show ¬_;rw[At.ok_mk];omega
            clear c7 c8 c9;go_enter Tryz.func92,Tryz.ntmps92;go_upto_region 1 with(fail)
            rw[HW1.out];go_wp2;go_ret;exact AtPost.no HV.out HB1.out
          ·have ec8:(mask==0)=false:=b0 c8
           have HV:Hid (¬(At.mk lat 0 pos mask ticks value).ok):=by
            show ¬_;rw[At.ok_mk];omega
           clear c7 c8;go_enter Tryz.func92,Tryz.ntmps92;go_upto_region 1 with(fail)
           rw[HW1.out];go_wp2;go_ret;exact AtPost.no HV.out HB1.out
         ·have ec7:(pos==0)=false:=b0 c7
          have HV:Hid (¬(At.mk lat 0 pos mask ticks value).ok):=by
           show ¬_;rw[At.ok_mk];omega
          clear c7;go_enter Tryz.func92,Tryz.ntmps92;go_upto_region 1 with(fail)
          rw[HW1.out];go_wp2;go_ret;exact AtPost.no HV.out HB1.out
        ·subst hk
         by_cases c10:pos=0
         ·have ec10:(pos==0)=true:=b1 c10
          by_cases c11:mask=0
          ·have ec11:(mask==0)=true:=b1 c11
           by_cases c12:ticks=0
           ·have ec12:(ticks==0)=true:=b1 c12
            have HV:Hid ((At.mk lat 1 pos mask ticks value).ok):=by
             exact z18_1
            clear c10 c11 c12;go_enter Tryz.func92,Tryz.ntmps92;go_upto_region 1 with(fail)
            rw[HW1.out];go_wp2;go_ret;exact AtPost.yes HV.out HB1.out
           ·have ec12:(ticks==0)=false:=b0 c12
            have HV:Hid (¬(At.mk lat 1 pos mask ticks value).ok):=by
             show ¬_;rw[At.ok_mk];omega
            clear c10 c11 c12;go_enter Tryz.func92,Tryz.ntmps92;go_upto_region 1 with(fail)
            rw[HW1.out];go_wp2;go_ret;exact AtPost.no HV.out HB1.out
          ·have ec11:(mask==0)=false:=b0 c11
           have HV:Hid (¬(At.mk lat 1 pos mask ticks value).ok):=by
            show ¬_;rw[At.ok_mk];omega
           clear c10 c11;go_enter Tryz.func92,Tryz.ntmps92;go_upto_region 1 with(fail)
           rw[HW1.out];go_wp2;go_ret;exact AtPost.no HV.out HB1.out
         ·have ec10:(pos==0)=false:=b0 c10
          have HV:Hid (¬(At.mk lat 1 pos mask ticks value).ok):=by
           show ¬_;rw[At.ok_mk];omega
          clear c10;go_enter Tryz.func92,Tryz.ntmps92;go_upto_region 1 with(fail)
          rw[HW1.out];go_wp2;go_ret;exact AtPost.no HV.out HB1.out
        ·subst hk
         by_cases c13:pos=0
         ·have ec13:(pos==0)=true:=b1 c13
          by_cases c14:mask=0
          ·have ec14:(mask==0)=true:=b1 c14
           by_cases c15:ticks=0
           ·have ec15:(ticks==0)=true:=b1 c15
            have HV:Hid ((At.mk lat 2 pos mask ticks value).ok):=by
             exact z18_1
            clear c13 c14 c15;go_enter Tryz.func92,Tryz.ntmps92;go_upto_region 1 with(fail)
            rw[HW1.out];go_wp2;go_ret;exact AtPost.yes HV.out HB1.out
           ·have ec15:(ticks==0)=false:=b0 c15
            have HV:Hid (¬(At.mk lat 2 pos mask ticks value).ok):=by
             show ¬_;rw[At.ok_mk];omega
            clear c13 c14 c15;go_enter Tryz.func92,Tryz.ntmps92;go_upto_region 1 with(fail)
            rw[HW1.out];go_wp2;go_ret;exact AtPost.no HV.out HB1.out
          ·have ec14:(mask==0)=false:=b0 c14
           have HV:Hid (¬(At.mk lat 2 pos mask ticks value).ok):=by
            show ¬_;rw[At.ok_mk];omega
           clear c13 c14;go_enter Tryz.func92,Tryz.ntmps92;go_upto_region 1 with(fail)
           rw[HW1.out];go_wp2;go_ret;exact AtPost.no HV.out HB1.out
         ·have ec13:(pos==0)=false:=b0 c13
          have HV:Hid (¬(At.mk lat 2 pos mask ticks value).ok):=by
           show ¬_;rw[At.ok_mk];omega
          clear c13;go_enter Tryz.func92,Tryz.ntmps92;go_upto_region 1 with(fail)
          rw[HW1.out];go_wp2;go_ret;exact AtPost.no HV.out HB1.out
        ·subst hk
         by_cases c16:(0:Int)≤pos
         ·skip
          by_cases c17:(pos:Int)≤255
          ·skip
           by_cases c18:(1:Int)≤mask
           ·skip
            by_cases c19:(mask:Int)≤65535
            ·skip
             by_cases c20:mask%256=0
             ·have ec20:(mask%256 !=0)=false:=by rw[c20];rfl
              have HV:Hid (¬(At.mk lat 3 pos mask ticks value).ok):=by
               show ¬_;rw[At.ok_mk];omega
              clear c20;go_enter Tryz.func92,Tryz.ntmps92;go_upto_region 1 with(fail)
              rw[HW1.out];go_wp2;go_ret;exact AtPost.no HV.out HB1.out
             ·have ec20:(mask%256 !=0)=true:=by rw[bne_iff_ne];exact c20
              by_cases c21:ticks=0
              ·have ec21:(ticks==0)=true:=b1 c21
               have HV:Hid ((At.mk lat 3 pos mask ticks value).ok):=by
                exact z18_1
               clear c20 c21;go_enter Tryz.func92,Tryz.ntmps92;go_upto_region 1 with(fail)
               rw[HW1.out];go_wp2;go_ret;exact AtPost.yes HV.out HB1.out
              ·have ec21:(ticks==0)=false:=b0 c21
               have HV:Hid (¬(At.mk lat 3 pos mask ticks value).ok):=by
                show ¬_;rw[At.ok_mk];omega
               clear c20 c21;go_enter Tryz.func92,Tryz.ntmps92;go_upto_region 1 with(fail)
               rw[HW1.out];go_wp2;go_ret;exact AtPost.no HV.out HB1.out
            ·skip
             have HV:Hid (¬(At.mk lat 3 pos mask ticks value).ok):=by
              show ¬_;rw[At.ok_mk];omega
             go_enter Tryz.func92,Tryz.ntmps92;go_upto_region 1 with(fail)
             rw[HW1.out];go_wp2;go_ret;exact AtPost.no HV.out HB1.out
           ·skip
            have HV:Hid (¬(At.mk lat 3 pos mask ticks value).ok):=by
             show ¬_;rw[At.ok_mk];omega
            go_enter Tryz.func92,Tryz.ntmps92;go_upto_region 1 with(fail)
            rw[HW1.out];go_wp2;go_ret;exact AtPost.no HV.out HB1.out
          ·skip
           have HV:Hid (¬(At.mk lat 3 pos mask ticks value).ok):=by
            show ¬_;rw[At.ok_mk];omega
           go_enter Tryz.func92,Tryz.ntmps92;go_upto_region 1 with(fail)
           rw[HW1.out];go_wp2;go_ret;exact AtPost.no HV.out HB1.out
         ·skip
          have HV:Hid (¬(At.mk lat 3 pos mask ticks value).ok):=by
           show ¬_;rw[At.ok_mk];omega
          go_enter Tryz.func92,Tryz.ntmps92;go_upto_region 1 with(fail)
          rw[HW1.out];go_wp2;go_ret;exact AtPost.no HV.out HB1.out
        ·subst hk
         by_cases c22:pos=0
         ·have ec22:(pos==0)=true:=b1 c22
          by_cases c23:mask=0
          ·have ec23:(mask==0)=true:=b1 c23
           have HV:Hid ((At.mk lat 4 pos mask ticks value).ok):=by
            exact z18_1
           clear c22 c23;go_enter Tryz.func92,Tryz.ntmps92;go_upto_region 1 with(fail)
           rw[HW1.out];go_wp2;go_ret;exact AtPost.yes HV.out HB1.out
          ·have ec23:(mask==0)=false:=b0 c23
           have HV:Hid (¬(At.mk lat 4 pos mask ticks value).ok):=by
            show ¬_;rw[At.ok_mk];omega
           clear c22 c23;go_enter Tryz.func92,Tryz.ntmps92;go_upto_region 1 with(fail)
           rw[HW1.out];go_wp2;go_ret;exact AtPost.no HV.out HB1.out
         ·have ec22:(pos==0)=false:=b0 c22
          have HV:Hid (¬(At.mk lat 4 pos mask ticks value).ok):=by
           show ¬_;rw[At.ok_mk];omega
          clear c22;go_enter Tryz.func92,Tryz.ntmps92;go_upto_region 1 with(fail)
          rw[HW1.out];go_wp2;go_ret;exact AtPost.no HV.out HB1.out
        ·subst hk
         by_cases c24:pos=0
         ·have ec24:(pos==0)=true:=b1 c24
          by_cases c25:mask=0
          ·have ec25:(mask==0)=true:=b1 c25
           by_cases c26:ticks=0
           ·have ec26:(ticks==0)=true:=b1 c26
            have HV:Hid ((At.mk lat 5 pos mask ticks value).ok):=by
             exact z18_1
            clear c24 c25 c26;go_enter Tryz.func92,Tryz.ntmps92;go_upto_region 1 with(fail)
            rw[HW1.out];go_wp2;go_ret;exact AtPost.yes HV.out HB1.out
           ·have ec26:(ticks==0)=false:=b0 c26
            have HV:Hid (¬(At.mk lat 5 pos mask ticks value).ok):=by
             show ¬_;rw[At.ok_mk];omega
            clear c24 c25 c26;go_enter Tryz.func92,Tryz.ntmps92;go_upto_region 1 with(fail)
            rw[HW1.out];go_wp2;go_ret;exact AtPost.no HV.out HB1.out
          ·have ec25:(mask==0)=false:=b0 c25
           have HV:Hid (¬(At.mk lat 5 pos mask ticks value).ok):=by
            show ¬_;rw[At.ok_mk];omega
           clear c24 c25;go_enter Tryz.func92,Tryz.ntmps92;go_upto_region 1 with(fail)
           rw[HW1.out];go_wp2;go_ret;exact AtPost.no HV.out HB1.out
         ·have ec24:(pos==0)=false:=b0 c24
          have HV:Hid (¬(At.mk lat 5 pos mask ticks value).ok):=by
           show ¬_;rw[At.ok_mk];omega
          clear c24;go_enter Tryz.func92,Tryz.ntmps92;go_upto_region 1 with(fail)
          rw[HW1.out];go_wp2;go_ret;exact AtPost.no HV.out HB1.out
        ·subst hk
         by_cases c27:(1:Int)≤pos
         ·skip
          by_cases c28:(pos:Int)≤255
          ·skip
           by_cases c29:mask=0
           ·have ec29:(mask==0)=true:=b1 c29
            have HV:Hid ((At.mk lat 6 pos mask ticks value).ok):=by
             exact z18_1
            clear c29;go_enter Tryz.func92,Tryz.ntmps92;go_upto_region 1 with(fail)
            rw[HW1.out];go_wp2;go_ret;exact AtPost.yes HV.out HB1.out
           ·have ec29:(mask==0)=false:=b0 c29
            have HV:Hid (¬(At.mk lat 6 pos mask ticks value).ok):=by
             show ¬_;rw[At.ok_mk];omega
            clear c29;go_enter Tryz.func92,Tryz.ntmps92;go_upto_region 1 with(fail)
            rw[HW1.out];go_wp2;go_ret;exact AtPost.no HV.out HB1.out
          ·skip
           have HV:Hid (¬(At.mk lat 6 pos mask ticks value).ok):=by
            show ¬_;rw[At.ok_mk];omega
           go_enter Tryz.func92,Tryz.ntmps92;go_upto_region 1 with(fail)
           rw[HW1.out];go_wp2;go_ret;exact AtPost.no HV.out HB1.out
         ·skip
          have HV:Hid (¬(At.mk lat 6 pos mask ticks value).ok):=by
           show ¬_;rw[At.ok_mk];omega
          go_enter Tryz.func92,Tryz.ntmps92;go_upto_region 1 with(fail)
          rw[HW1.out];go_wp2;go_ret;exact AtPost.no HV.out HB1.out
       ·have ef0:(fault==0)=false:=b0 (by omega)
        have ef1:(fault==1)=false:=b0 (by omega);have ef2:(fault==2)=false:=b0 (by omega);have ef3:(fault==3)=false:=b0 (by omega);have ef4:(fault==4)=false:=b0 (by omega);have ef5:(fault==5)=false:=b0 (by omega);have ef6:(fault==6)=false:=b0 (by omega);have HV:Hid (¬(At.mk lat fault pos mask ticks value).ok):=by
         show ¬_;rw[At.ok_mk];omega
        go_enter Tryz.func92,Tryz.ntmps92;go_upto_region 1 with(fail)
        rw[HW1.out];go_wp2;go_ret;exact AtPost.no HV.out HB1.out
structure Kc where
 at_:Int
 val:Int
 fl:Int
 du:Int
 key:Int
def SrtK (t:Nat→Kc) (a b:Nat):Prop:=∀i j,a≤i→i<j→j<b→(t i).key<(t j).key
structure ImgE (t t':Nat→Kc) (a b:Nat):Prop where
 fw:∀i,a≤i→i<b→∃j,a≤j∧j<b∧t' i=t j
 bw:∀j,a≤j→j<b→∃i,a≤i∧i<b∧t' i=t j
 out:∀i,i<a∨b≤i→t' i=t i
theorem ImgE.refl (t:Nat→Kc) (a b:Nat):ImgE t t a b:=⟨fun i h1 h2=>⟨i,h1,h2,rfl⟩,fun i h1 h2=>⟨i,h1,h2,rfl⟩,fun _ _=>rfl⟩
def OrdP (t:Nat→Kc) (n:Nat):Prop:=∀i j,i<j→j<n→((t j).at_<(t i).at_↔(t j).key<(t i).key)∧(t j).key≠(t i).key
structure Same (t u:Nat→Kc) (a b:Nat):Prop where
 fw:∀i,a≤i→i<b→∃j,a≤j∧j<b∧u i=t j
 bw:∀j,a≤j→j<b→∃i,a≤i∧i<b∧u i=t j
theorem ImgE.same {t u:Nat→Kc} {a b:Nat} (h:ImgE t u a b):Same t u a b:=⟨h.fw,h.bw⟩
theorem Same.refl (t:Nat→Kc) (a b:Nat):Same t t a b:=(ImgE.refl t a b).same
structure Ch where
 at_:Int
 val:Int
 fl:Int
 du:Int
def Ch.kc (x:Ch) (key:Int):Kc:=⟨x.at_,x.val,x.fl,x.du,key⟩
def Kc.ch (x:Kc):Ch:=⟨x.at_,x.val,x.fl,x.du⟩
def Ch.zero:Ch:=⟨0,0,0,0⟩
def rowK (l:List Ch):Nat→Kc:=fun i=>((l[i]?).getD Ch.zero).kc (((l[i]?).getD Ch.zero).at_*l.length+i)
theorem rowK_ch {l:List Ch} {i:Nat} {x:Ch} (h:l[i]?=some x):(rowK l i).ch=x:=by
 unfold rowK;rw[h];rfl
theorem rowK_at {l:List Ch} {i:Nat} {x:Ch} (h:l[i]?=some x):(rowK l i).at_=x.at_:=by
 unfold rowK;rw[h];rfl
theorem key_lt {a b n i j:Int} (hi:0≤i) (h0:0≤j) (hj:j<n) (h:b<a):b*n+j<a*n+i:=by
 have h1:(b+1)*n≤a*n:=Int.mul_le_mul_of_nonneg_right (by omega) (by omega);rw[Int.add_mul,Int.one_mul] at h1;omega
theorem rowK_ord (l:List Ch):OrdP (rowK l) l.length:=fun i j hij hj=>by
 have e1:(rowK l i).key=(rowK l i).at_*l.length+i:=rfl;have e2:(rowK l j).key=(rowK l j).at_*l.length+j:=rfl;rw[e1,e2];generalize (rowK l i).at_=a;generalize (rowK l j).at_=b;have hn:(i:Int)<j∧(j:Int)<l.length:=by omega
 by_cases h:b<a
 ·have:=key_lt (i:=(i:Int)) (j:=(j:Int)) (n:=(l.length:Int)) (by omega) (by omega) hn.2 h
  omega
 ·by_cases h2:a<b
  ·have:=key_lt (i:=(j:Int)) (j:=(i:Int)) (n:=(l.length:Int)) (by omega) (by omega) (by omega) h2
   omega
  ·have:a=b:=by omega
   subst this;omega
def listK (n:Nat) (t:Nat→Kc):List Ch:=(List.range n).map fun i=>(t i).ch
theorem listK_len (n:Nat) (t:Nat→Kc):(listK n t).length=n:=by unfold listK;rw[List.length_map,List.length_range]
theorem listK_at {n:Nat} {t:Nat→Kc} {i:Nat} (h:i<n):(listK n t)[i]?=some (t i).ch:=by
 unfold listK;rw[List.getElem?_map,List.getElem?_range h];rfl
theorem listK_row (l:List Ch):listK l.length (rowK l)=l:=by
 refine List.ext_getElem? fun i=>?_
 by_cases h:i<l.length
 ·rw [listK_at h,rowK_ch (List.getElem?_eq_getElem h),List.getElem?_eq_getElem h]
 ·rw [List.getElem?_eq_none (by rw[listK_len];omega),List.getElem?_eq_none (by omega)]
structure SrtL (l k:List Ch):Prop where
 ex:∃t,SrtK t 0 l.length∧Same (rowK l) t 0 l.length∧k=listK l.length t
def ascL (l:List Ch):Prop:=∀(i j:Nat) (x y:Ch),i<j→l[i]?=some x→l[j]?=some y→x.at_≤y.at_
theorem SrtL.self {l:List Ch} (h:ascL l):SrtL l l:=by
 refine⟨rowK l,fun i j h1 h2 h3=>?_,Same.refl _ _ _,(listK_row l).symm⟩;have:=h i j _ _ h2 (List.getElem?_eq_getElem (by omega)) (List.getElem?_eq_getElem h3);rw[←rowK_at (List.getElem?_eq_getElem (show i<l.length by omega)),←rowK_at (List.getElem?_eq_getElem h3)] at this;have ho:=rowK_ord l i j h2 h3;have e1:=ho.2;by_cases e:(rowK l j).key<(rowK l i).key
 ·have:=ho.1.2 e
  omega
 ·omega
def putL:List Ch→Ch→List Ch
 |[],x=>[x]
 |y::l,x=>if x.at_<y.at_ then x::y::l else y::putL l x
def putK:List Kc→Kc→List Kc
 |[],x=>[x]
 |y::l,x=>if x.at_<y.at_ then x::y::l else y::putK l x
theorem putK_mem (l:List Kc) (x z:Kc):z∈putK l x↔z=x∨z∈l:=by
 induction l with
 |nil=>simp [putK]
 |cons y l ih=>
  unfold putK;by_cases h:x.at_<y.at_
  ·rw [if_pos h];simp
  ·rw [if_neg h,List.mem_cons,List.mem_cons,ih]
   exact⟨fun e=>e.elim (fun e=>.inr (.inl e)) (fun e=>e.elim .inl (fun e=>.inr (.inr e))),fun e=>e.elim (fun e=>.inr (.inl e)) (fun e=>e.elim .inl (fun e=>.inr (.inr e)))⟩
theorem putL_mem (l:List Ch) (x z:Ch):z∈putL l x↔z=x∨z∈l:=by
 induction l with
 |nil=>simp [putL]
 |cons y l ih=>
  unfold putL;by_cases h:x.at_<y.at_
  ·rw [if_pos h];simp
  ·rw [if_neg h,List.mem_cons,List.mem_cons,ih]
   exact⟨fun e=>e.elim (fun e=>.inr (.inl e)) (fun e=>e.elim .inl (fun e=>.inr (.inr e))),fun e=>e.elim (fun e=>.inr (.inl e)) (fun e=>e.elim .inl (fun e=>.inr (.inr e)))⟩
theorem putL_len (l:List Ch) (x:Ch):(putL l x).length=l.length+1:=by
 induction l with
 |nil=>rfl
 |cons y l ih=>
  unfold putL;by_cases h:x.at_<y.at_
  ·rw [if_pos h];rfl
  ·rw [if_neg h,List.length_cons,ih];rfl
theorem putK_ch (l:List Kc) (x:Kc):(putK l x).map Kc.ch=putL (l.map Kc.ch) x.ch:=by
 induction l with
 |nil=>rfl
 |cons y l ih=>
  show List.map Kc.ch (if x.at_<y.at_ then _ else _)=if x.at_<y.at_ then _ else _
  by_cases h:x.at_<y.at_
  ·rw [if_pos h,if_pos h];rfl
  ·rw [if_neg h,if_neg h,List.map_cons,ih]
def KeyS (l:List Kc):Prop:=l.Pairwise fun a b=>a.key<b.key
theorem putK_key {l:List Kc} {x:Kc} (h:KeyS l) (hx:∀z∈l,(x.at_<z.at_→x.key<z.key)∧(¬x.at_<z.at_→z.key<x.key)):KeyS (putK l x):=by
 induction l with
 |nil=>exact List.pairwise_singleton _ _
 |cons y l ih=>
  obtain⟨h1,h2⟩:=List.pairwise_cons.1 h;unfold putK;by_cases e:x.at_<y.at_
  ·rw [if_pos e]
   have hy:=(hx y List.mem_cons_self).1 e;refine List.pairwise_cons.2 ⟨fun z hz=>?_,h⟩;rcases List.mem_cons.1 hz with rfl|hz
   ·exact hy
   ·have:=h1 z hz
    omega
  ·rw [if_neg e]
   have hy:=(hx y List.mem_cons_self).2 e;refine List.pairwise_cons.2 ⟨fun z hz=>?_,ih h2 (fun z hz=>hx z (List.mem_cons_of_mem _ hz))⟩;rcases (putK_mem l x z).1 hz with rfl|hz
   ·exact hy
   ·exact h1 z hz
theorem key_ext:∀(a b:List Kc),KeyS a→KeyS b→(∀x,x∈a↔x∈b)→a=b
 |[],[],_,_,_=>rfl
 |[],y::b,_,_,h=>absurd ((h y).2 List.mem_cons_self) (by simp)
 |x::a,[],_,_,h=>absurd ((h x).1 List.mem_cons_self) (by simp)
 |x::a,y::b,ha,hb,h=>by
  obtain⟨a1,a2⟩:=List.pairwise_cons.1 ha;obtain⟨b1,b2⟩:=List.pairwise_cons.1 hb;have hxy:x=y:=by
   rcases List.mem_cons.1 ((h x).1 List.mem_cons_self) with e|e
   ·exact e
   ·rcases List.mem_cons.1 ((h y).2 List.mem_cons_self) with e2|e2
    ·exact e2.symm
    ·have:=b1 x e
     have:=a1 y e2;omega
  subst hxy;rw[key_ext a b a2 b2 (fun z=>⟨fun hz=>?_,fun hz=>?_⟩)]
  ·rcases List.mem_cons.1 ((h z).1 (List.mem_cons_of_mem _ hz)) with e|e
   ·subst e
    have:=a1 z hz;omega
   ·exact e
  ·rcases List.mem_cons.1 ((h z).2 (List.mem_cons_of_mem _ hz)) with e|e
   ·subst e
    have:=b1 z hz;omega
   ·exact e
theorem foldK_ch (l:List Kc) (m:List Kc):(l.foldl putK m).map Kc.ch=(l.map Kc.ch).foldl putL (m.map Kc.ch):=by
 induction l generalizing m with
 |nil=>rfl
 |cons x l ih=>
  show ((l.foldl putK (putK m x)).map Kc.ch)=_;rw[ih,putK_ch];rfl
theorem range_succ_map {α:Type} (f:Nat→α) (m:Nat):(List.range (m+1)).map f=(List.range m).map f++[f m]:=by
 rw[List.range_succ,List.map_append];rfl
theorem foldK_row (l:List Ch) (m:Nat) (hm:m≤l.length):KeyS (((List.range m).map (rowK l)).foldl putK [])∧∀x,x∈((List.range m).map (rowK l)).foldl putK []↔∃i,i<m∧x=rowK l i:=by
 induction m with
 |zero=>exact⟨List.Pairwise.nil,fun x=>⟨fun h=>by simp at h,fun ⟨i,h,_⟩=>absurd h (Nat.not_lt_zero _)⟩⟩
 |succ m ih=>
  obtain⟨h1,h2⟩:=ih (by omega);rw[range_succ_map,List.foldl_append];show KeyS (putK _ _)∧∀x,x∈putK _ _↔_;refine⟨putK_key h1 fun z hz=>?_,fun x=>?_⟩
  ·obtain ⟨i,hi,rfl⟩:=(h2 z).1 hz
   have ho:=rowK_ord l i m hi (by omega);refine⟨fun e=>ho.1.1 e,fun e=>?_⟩;have e1:=ho.2;by_cases e2:(rowK l m).key<(rowK l i).key
   ·exact absurd (ho.1.2 e2) e
   ·omega
  ·rw [putK_mem,h2]
   constructor
   ·rintro (rfl|⟨i,hi,rfl⟩)
    ·exact ⟨m,by omega,rfl⟩
    ·exact ⟨i,by omega,rfl⟩
   ·rintro ⟨i,hi,rfl⟩
    by_cases e:i=m
    ·subst e;exact .inl rfl
    ·exact .inr ⟨i,by omega,rfl⟩
theorem listK_map (n:Nat) (t:Nat→Kc):listK n t=((List.range n).map t).map Kc.ch:=by
 unfold listK;rw[List.map_map];rfl
theorem SrtL.puts {l k:List Ch} (h:SrtL l k):k=l.foldl putL []:=by
 obtain⟨t,s,m,rfl⟩:=h.ex;obtain⟨g1,g2⟩:=foldK_row l l.length (Nat.le_refl _);have e:(List.range l.length).map t=((List.range l.length).map (rowK l)).foldl putK []:=by
  refine key_ext _ _ ?_ g1 fun x=>?_
  ·refine List.pairwise_map.2 (List.pairwise_iff_getElem.2 fun i j hi hj hij=>?_)
   rw[List.length_range] at hi hj;rw[List.getElem_range,List.getElem_range];exact s i j (Nat.zero_le _) hij hj
  ·rw [g2,List.mem_map]
   constructor
   ·rintro ⟨i,hi,rfl⟩
    obtain⟨j,-,j2,j3⟩:=m.fw i (Nat.zero_le _) (List.mem_range.1 hi);exact⟨j,j2,j3⟩
   ·rintro ⟨j,hj,rfl⟩
    obtain⟨i,-,i2,i3⟩:=m.bw j (Nat.zero_le _) hj;exact⟨i,List.mem_range.2 i2,i3⟩
 rw[listK_map,e,foldK_ch,←listK_map,listK_row];rfl
theorem puts_asc {l:List Ch} (h:ascL l):l.foldl putL []=l:=(SrtL.self h).puts.symm
theorem ascL_pw {l:List Ch}:ascL l↔l.Pairwise fun a b=>a.at_≤b.at_:=by
 rw[List.pairwise_iff_getElem];exact⟨fun h i j hi hj hij=>h i j _ _ hij (List.getElem?_eq_getElem hi) (List.getElem?_eq_getElem hj),fun h i j x y hij hx hy=>by
  obtain⟨h1,rfl⟩:=List.getElem?_eq_some_iff.1 hx
  obtain⟨h2,rfl⟩:=List.getElem?_eq_some_iff.1 hy
  exact h i j h1 h2 hij⟩
theorem putL_asc {l:List Ch} (h:ascL l) (x:Ch):ascL (putL l x):=by
 rw[ascL_pw] at h ⊢
 induction l with
 |nil=>exact List.pairwise_singleton _ _
 |cons y l ih=>
  obtain⟨h1,h2⟩:=List.pairwise_cons.1 h;unfold putL;by_cases e:x.at_<y.at_
  ·rw [if_pos e]
   refine List.pairwise_cons.2 ⟨fun z hz=>?_,h⟩;rcases List.mem_cons.1 hz with rfl|hz
   ·omega
   ·have:=h1 z hz
    omega
  ·rw [if_neg e]
   refine List.pairwise_cons.2 ⟨fun z hz=>?_,ih h2⟩;rcases (putL_mem l x z).1 hz with rfl|hz
   ·omega
   ·exact h1 z hz
theorem puts_ascOn {p:List Ch} (h:ascL p) (news:List Ch):ascL (news.foldl putL p):=by
 induction news generalizing p with
 |nil=>exact h
 |cons x l ih=>exact ih (putL_asc h x)
theorem puts_len (p news:List Ch):(news.foldl putL p).length=p.length+news.length:=by
 induction news generalizing p with
 |nil=>rfl
 |cons x l ih=>
  show (l.foldl putL (putL p x)).length=_;rw[ih,putL_len,List.length_cons];omega
theorem puts_mem (p news:List Ch) (z:Ch):z∈news.foldl putL p↔z∈p∨z∈news:=by
 induction news generalizing p with
 |nil=>simp
 |cons x l ih=>
  show z∈l.foldl putL (putL p x)↔_;rw[ih,putL_mem,List.mem_cons];constructor
  ·rintro ((h|h)|h)
   ·exact .inr (.inl h)
   ·exact .inl h
   ·exact .inr (.inr h)
  ·rintro (h|h|h)
   ·exact .inl (.inr h)
   ·exact .inl (.inl h)
   ·exact .inr h
def xorB1 (f:List UInt8) (p m:Nat):List UInt8:=f.set p ((f.getD p 0)^^^UInt8.ofNat m)
theorem xorB1_len (f:List UInt8) (p m:Nat):(xorB1 f p m).length=f.length:=by unfold xorB1;rw[List.length_set]
def damL (a:At) (f:List UInt8):List UInt8:=
 if a.pos.toNat%f.length+1<f.length then xorB1 (xorB1 f (a.pos.toNat%f.length) (a.mask.toNat%256)) (a.pos.toNat%f.length+1) (a.mask.toNat/256)
 else xorB1 f (a.pos.toNat%f.length) (a.mask.toNat%256)
theorem damL_len (a:At) (f:List UInt8):(damL a f).length=f.length:=by
 unfold damL;split
 ·rw [xorB1_len,xorB1_len]
 ·rw [xorB1_len]
def loneB (l:List Sl) (bd pa:Int) (f:List UInt8):Bool:=match busDec l bd pa f with
 |some o=>decide (o.2.2.length=1)
 |none=>false
def rcvF (l:List Sl) (a:At) (bd pa:Int) (f:List UInt8):List UInt8:=
 if a.fault=1∨a.fault=2 then []
 else if a.fault=5 then (busBusy l bd pa f).getD []
 else if a.fault=3∧loneB l bd pa f=true then damL a ((busAns l bd pa f a.value).getD []) else (busAns l bd pa f a.value).getD []
theorem ansF_len {l:List Sl} (hB:BusP l) {bd pa:Int} {f:List UInt8} {o:Int×Rq×List Nat} (h:busDec l bd pa f=some o) (x:Int):5≤(ansF l x o).length∧(ansF l x o).length≤256:=by
 obtain⟨u,q,ms⟩:=o;obtain⟨h1,h2,h3,h4,h5⟩:=busDec_some h;cases ms with
 |nil=>exact absurd rfl h5
 |cons j ms=>
  obtain⟨s,hs,-⟩:=memb_mem (l:=l) (bd:=bd) (pa:=pa) (un:=u) (k:=l.length) (j:=j) (by rw[←h4];exact List.mem_cons_self);have hv:=hB.2 s (List.mem_of_getElem? hs);have e:=frameOf_len u (Sl.ans_ok hv h3 x);unfold ansF;dsimp only;rw[hs];dsimp only;split
  ·exact e
  ·rw [flipL_len]
   exact e
theorem busAns_len {l:List Sl} (hB:BusP l) (bd pa:Int) (f:List UInt8) (x:Int):((busAns l bd pa f x).getD []).length≤256:=by
 unfold busAns;cases h:busDec l bd pa f with
 |none=>exact Nat.zero_le _
 |some o=>exact(ansF_len hB h x).2
theorem busBusy_len {l:List Sl} (hB:BusP l) (bd pa:Int) (f:List UInt8):((busBusy l bd pa f).getD []).length≤256:=by
 unfold busBusy;cases h:busDec l bd pa f with
 |none=>exact Nat.zero_le _
 |some o=>
  show (if o.2.2.length=1 then _ else _:List UInt8).length≤256;split
  ·obtain ⟨u,q,ms⟩:=o
   exact(frameOf_len u (mkR_ok (ok_known (busDec_some h).2.2.1) (by decide) (by decide))).2
  ·exact (ansF_len hB h 0).2
theorem rcvF_len {l:List Sl} (hB:BusP l) (a:At) (bd pa:Int) (f:List UInt8):(rcvF l a bd pa f).length≤256:=by
 unfold rcvF;split
 ·exact Nat.zero_le _
 ·split
  ·exact busBusy_len hB _ _ _
  ·split
   ·rw [damL_len]
    exact busAns_len hB _ _ _ _
   ·exact busAns_len hB _ _ _ _
def chAt (C st:Int) (a:At) (i:Nat) (x:UInt8):Ch:=⟨st+((i:Int)+1)*C+(if a.fault=6∧a.pos≤(i:Int) then a.ticks else 0),(x.toNat:Int),0,C⟩
def chsN (C st:Int) (a:At) (r:List UInt8) (k:Nat):List Ch:=(List.range k).map fun i=>chAt C st a i (r.getD i 0)
theorem chsN_succ (C st:Int) (a:At) (r:List UInt8) (k:Nat):chsN C st a r (k+1)=chsN C st a r k++[chAt C st a k (r.getD k 0)]:=range_succ_map _ _
theorem chsN_len (C st:Int) (a:At) (r:List UInt8) (k:Nat):(chsN C st a r k).length=k:=by unfold chsN;rw[List.length_map,List.length_range]
def atOf (ats:List At) (lp:Bool) (k:Nat):At:=
 if ats.length=0∨(lp=false∧ats.length≤k) then At.zero else (ats[k%ats.length]?).getD At.zero
theorem At.zero_ok:At.zero.ok:=by
 unfold At.zero;rw[At.ok_mk];omega
theorem atOf_ok {ats:List At} (h:∀x∈ats,x.ok) (lp:Bool) (k:Nat):(atOf ats lp k).ok:=by
 unfold atOf;split
 ·exact At.zero_ok
 ·cases e:ats[k%ats.length]? with
  |none=>exact At.zero_ok
  |some x=>exact h x (List.mem_of_getElem? e)
structure Ln where
 sent:List ((Int×Int)×List UInt8)
 pend:List Ch
 free:Int
 heard:Bool
 last:Int
def Ln.zero:Ln:=⟨[],[],0,false,0⟩
def topT:Int:=1152921504606846976
def begT (bd:Int) (a:At) (tick:Int) (n:Nat):Int:=tick+frameT bd n+t35T bd+a.lat+(if a.fault=4 then a.ticks else 0)
def newsF (l:List Sl) (a:At) (bd pa:Int) (f:List UInt8) (tick:Int):List Ch:=chsN (charT bd) (begT bd a tick f.length) a (rcvF l a bd pa f) (rcvF l a bd pa f).length
def Ln.sendE (s:Ln) (n:Nat) (tick:Int):Int:=
 if n<1∨256<n then 4 else if tick<0∨topT<tick then 3 else if tick<s.free then 7 else 0
def Ln.send (l:List Sl) (ats:List At) (lp:Bool) (s:Ln) (bd pa:Int) (f:List UInt8) (tick:Int):Ln:=
 {s with sent:=s.sent++[((bd,pa),f)],pend:=(newsF l (atOf ats lp s.sent.length) bd pa f tick).foldl putL s.pend,free:=tick+frameT bd f.length}
def Ln.due (s:Ln) (limit:Int):Bool:=match s.pend with
 |[]=>false
 |x::_=>decide (x.at_≤limit)
def Ln.ev (s:Ln) (x:Ch):Ch:={x with fl:=if s.heard=true∧x.at_<s.last+x.du then 2 else 0}
def Ln.next (s:Ln) (x:Ch) (r:List Ch):Ln:={s with pend:=r,heard:=true,last:=x.at_,free:=max s.free x.at_}
structure ChOk (x:Ch):Prop where
 a0:0≤x.at_
 a1:x.at_≤topT+33554432
 v0:0≤x.val
 v1:x.val≤255
 fl:x.fl=0
 d0:96≤x.du
 d1:x.du≤9167
structure Ln.ok (s:Ln):Prop where
 asc:ascL s.pend
 ch:∀x∈s.pend,ChOk x
 f0:0≤s.free
 f1:s.free≤topT+33554432
 l0:0≤s.last
 l1:s.last≤topT+33554432
theorem Ln.zero_ok:Ln.zero.ok:=⟨fun i j x y _ h=>(by cases h),fun x h=>(by cases h),by decide,by decide,by decide,by decide⟩
theorem frame_bd {bd pa:Int} (h:Okset bd pa) {n:Nat} (hn:n≤256):0≤frameT bd n∧frameT bd n≤2346752:=by
 obtain⟨t1,t2,-⟩:=cK h;unfold frameT;have h1:(0:Int)≤(n:Int)*charT bd:=Int.mul_nonneg (by omega) (by omega);have h2:(n:Int)*charT bd≤256*9167:=Int.mul_le_mul (by omega) t2 (by omega) (by omega);omega
theorem At.ok_bd {a:At} (h:a.ok):0≤a.lat∧a.lat≤5000000∧0≤a.value∧a.value≤65535∧0≤a.ticks∧a.ticks≤5000000:=⟨h.1,h.2.1,h.2.2.1,h.2.2.2.1,h.2.2.2.2.1,h.2.2.2.2.2.1⟩
theorem begT_bd {bd pa:Int} (h:Okset bd pa) {a:At} (ha:a.ok) (tick:Int) {n:Nat} (hn:n≤256):tick≤begT bd a tick n∧begT bd a tick n≤tick+12400000:=by
 obtain⟨a1,a2⟩:=frame_bd h hn;obtain⟨t1,t2,t3,t4,t5,t6⟩:=cK h;obtain⟨b1,b2,b3,b4,b5,b6⟩:=At.ok_bd ha;unfold begT;split<;>omega
theorem chAt_ok {bd pa:Int} (h:Okset bd pa) {a:At} (ha:a.ok) {st:Int} (h0:0≤st) (h1:st≤topT+12400000) {i:Nat} (hi:i<256) (x:UInt8):ChOk (chAt (charT bd) st a i x):=by
 obtain⟨t1,t2,-⟩:=cK h;obtain⟨b1,b2,b3,b4,b5,b6⟩:=At.ok_bd ha;have e1:(0:Int)≤((i:Int)+1)*charT bd:=Int.mul_nonneg (by omega) (by omega);have e2:((i:Int)+1)*charT bd≤256*9167:=Int.mul_le_mul (by omega) t2 (by omega) (by omega);have e3:(x.toNat:Int)≤255:=by have:=byte_lt x;omega
 have e4:topT=1152921504606846976:=rfl;rw[e4] at h1;unfold chAt;generalize ((i:Int)+1)*charT bd=m at e1 e2 ⊢;refine⟨?_,?_,Int.natCast_nonneg _,e3,rfl,t1,t2⟩
 ·dsimp only
  split<;>omega
 ·dsimp only
  rw[e4];split<;>omega
theorem newsF_ok {l:List Sl} (hB:BusP l) {bd pa:Int} (h:Okset bd pa) {a:At} (ha:a.ok) {f:List UInt8} (hf:f.length≤256) {tick:Int} (h0:0≤tick) (h1:tick≤topT):∀x∈newsF l a bd pa f tick,ChOk x:=by
 intro x hx;unfold newsF chsN at hx;obtain⟨i,hi,rfl⟩:=List.mem_map.1 hx;have hi:=List.mem_range.1 hi;have hl:=rcvF_len hB a bd pa f;obtain⟨b1,b2⟩:=begT_bd h ha tick hf;exact chAt_ok h ha (by omega) (by omega) (by omega) _
theorem Ln.ok.send {s:Ln} (hs:s.ok) {l:List Sl} (hB:BusP l) {ats:List At} (hA:∀x∈ats,x.ok) (lp:Bool) {bd pa:Int} (h:Okset bd pa) {f:List UInt8} (hf:f.length≤256) {tick:Int} (h0:0≤tick) (h1:tick≤topT):(s.send l ats lp bd pa f tick).ok:=by
 obtain⟨a1,a2⟩:=frame_bd h hf;refine⟨puts_ascOn hs.asc _,fun x hx=>?_,?_,?_,hs.l0,hs.l1⟩
 ·rcases (puts_mem _ _ x).1 hx with e|e
  ·exact hs.ch x e
  ·exact newsF_ok hB h (atOf_ok hA lp _) hf h0 h1 x e
 ·show 0≤tick+frameT bd f.length
  omega
 ·show tick+frameT bd f.length≤topT+33554432
  omega
theorem Ln.ok.next {s:Ln} (hs:s.ok) {x:Ch} {r:List Ch} (h:s.pend=x::r):(s.next x r).ok:=by
 have hx:=hs.ch x (by rw[h];exact List.mem_cons_self);obtain⟨f0,f1⟩:=And.intro hs.f0 hs.f1;refine⟨?_,fun y hy=>hs.ch y (by rw[h];exact List.mem_cons_of_mem _ hy),?_,?_,hx.a0,hx.a1⟩
 ·have:=ascL_pw.1 hs.asc
  rw[h] at this;exact ascL_pw.2 (List.pairwise_cons.1 this).2
 ·show 0≤max s.free x.at_
  omega
 ·show max s.free x.at_≤topT+33554432
  have:=hx.a1;omega
structure CkAt (W:World) (g o n N:Nat) (t:Nat→Kc):Prop where
 h:∃c,W.heap[g]?=some (.cells c 174 (0,0))∧c.size=N∧∀i,i<n→c[o+i*4]?=some (.int .i64 (t i).at_)∧c[o+i*4+1]?=some (.int .u8 (t i).val)∧c[o+i*4+2]?=some (.int .i64 (t i).fl)∧c[o+i*4+3]?=some (.int .i64 (t i).du)
 le:o+n*4≤N
theorem CkAt.at {W:World} {g o n N:Nat} {t:Nat→Kc} (h:CkAt W g o n N t) {i:Nat} (hi:i<n):
  W.cell? ⟨g,o+i*4,none⟩=some (.int .i64 (t i).at_)∧W.cell? ⟨g,o+i*4+1,none⟩=some (.int .u8 (t i).val)∧W.cell? ⟨g,o+i*4+2,none⟩=some (.int .i64 (t i).fl)∧W.cell? ⟨g,o+i*4+3,none⟩=some (.int .i64 (t i).du):=by
 obtain⟨c,hc,-,hr⟩:=h.h;obtain⟨h0,h1,h2,h3⟩:=hr i hi;exact⟨by rw[bA hc];exact h0,by rw[bA hc];exact h1,by rw[bA hc];exact h2,by rw[bA hc];exact h3⟩
theorem CkAt.keeps {W X:World} {F:Nat→Prop} {g o n N:Nat} {t:Nat→Kc} (h:CkAt W g o n N t) (hk:Keeps F W X) (hn:¬F g):CkAt X g o n N t:=by
 obtain⟨c,hc,h2,h3⟩:=h.h;exact⟨⟨c,bG hc hk hn,h2,h3⟩,h.le⟩
def CmPost (w:World) (V:Bool) (r:Ending) (w':World):Prop:=∃n:Int,r=.returned (.int .i64 n)∧Hid (decide (n<0)=V)∧Below w.heap.size w w'
theorem nan_any (a:Int) (w:World):Calls Tryz.prog 184 #[.int .i64 a] w fun r w'=>r=.returned (.bool false)∧w=w':=by
 have g:(a !=a)=false:=by rw[bne_eq_false_iff_eq]
 go_enter Tryz.func184,Tryz.ntmps184;go_wp2;go_ret;exact⟨rfl,rfl⟩
theorem comp_any (a b:Int) (w:World):Calls Tryz.prog 161 #[.int .i64 a,.int .i64 b] w fun r w'=>∃n:Int,r=.returned (.int .i64 n)∧Hid (decide (n<0)=decide (a<b))∧w=w':=by
 have HN:=bC nan_any;by_cases h1:a<b
 ·have d1:decide (a<b)=true:=decide_eq_true h1
  clear h1;go_enter Tryz.func161,Tryz.ntmps161;go_wp2_with (go_at_call 184;(with_reducible refine(HN.out _ _).mono ?_);rintro r w2 ⟨rfl,rfl⟩);go_ret;exact⟨-1,rfl,by show _=_;rw[d1];rfl,rfl⟩
 ·have d1:decide (a<b)=false:=decide_eq_false h1
  by_cases h2:b<a
  ·have d2:decide (b<a)=true:=decide_eq_true h2
   clear h1 h2;go_enter Tryz.func161,Tryz.ntmps161;go_wp2_with (go_at_call 184;(with_reducible refine(HN.out _ _).mono ?_);rintro r w2 ⟨rfl,rfl⟩);go_ret;exact⟨1,rfl,by show _=_;rw[d1];rfl,rfl⟩
  ·have d2:decide (b<a)=false:=decide_eq_false h2
   clear h1 h2;go_enter Tryz.func161,Tryz.ntmps161;go_wp2_with (go_at_call 184;(with_reducible refine(HN.out _ _).mono ?_);rintro r w2 ⟨rfl,rfl⟩);go_ret;exact⟨0,rfl,by show _=_;rw[d1];rfl,rfl⟩
theorem ccmp_any (x y:Kc) (w:World):Calls Tryz.prog 160 #[.agg #[.int .i64 (x).at_,.int .u8 (x).val,.int .i64 (x).fl,.int .i64 (x).du],.agg #[.int .i64 (y).at_,.int .u8 (y).val,.int .i64 (y).fl,.int .i64 (y).du]] w (CmPost w (decide (x.at_<y.at_))):=by
 have HK:=bC (comp_any x.at_ y.at_);have HB:Hid (∀A B,Below w.heap.size w ((w.alloc A).alloc B)):=fun A B=>cJ (bH w A) (Nat.le_refl _) B
 obtain⟨xa,xv,xf,xd,xk⟩:=x;obtain⟨ya,yv,yf,yd,yk⟩:=y;dsimp only at HK ⊢;go_enter Tryz.func160,Tryz.ntmps160;go_wp2_with (go_at_call 161;(with_reducible refine(HK.out _).mono ?_);rintro r w2 ⟨n,rfl,hn,rfl⟩);go_ret;exact⟨n,rfl,hn.out,HB.out _ _⟩
end Go.Proofs.YtoaoejaodhedaaaGreat
