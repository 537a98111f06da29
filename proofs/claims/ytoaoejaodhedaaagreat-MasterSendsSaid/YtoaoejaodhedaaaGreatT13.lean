import Derived.Test.YtoaoejaodhedaaaGreatT03
import Derived.Deep.CutBlock
namespace Go.Proofs.YtoaoejaodhedaaaGreat
open Go.RowKit
open Value renaming slice→J,int→U
open Option renaming none→M,some→N
open IntKind renaming i64→Z
open Obj renaming cells→K
set_option maxHeartbeats 12800000
set_option maxRecDepth 100000
variable {b:List UInt8} {m:Nat} {p:Prop}
theorem uf (h:b.length<7):cM b=none:=by unfold cM;rw[if_pos (.inl h)]
theorem xx (h:aI b 1≠14):cM b=none:=by unfold cM;rw[if_pos (.inr h)]
def tK (b:List UInt8):Option (List Ob×List UInt8)→Option Rp
 |some (l,[])=>if (Rp.devOf b l).ok=true∧(aI b 4=0∨aI b 4=255) then some (Rp.devOf b l) else none
 |_=>none
theorem Dx (h:7≤b.length) (a:aI b 1=14):cM b=tK b (bB (aI b 6).toNat (b.drop 7)):=by
 unfold cM;rw[if_neg (by omega)];rfl
theorem tN {rest:List UInt8} (h:rest.length<2):bB (m+1) rest=none:=by
 match rest,h with
 |[],_=>rfl
 |[_],_=>rfl
theorem xP {rest:List UInt8} (h:(rest.length:Int)<2+aI rest 1):bB (m+1) rest=none:=by
 match rest,h with
 |[],_=>rfl
 |[_],_=>rfl
 |i::n::r,h=>
  have e:aI (i::n::r) 1=(n.toNat:Int):=rfl;rw[e] at h;simp only[List.length_cons] at h;unfold bB;rw[if_neg (by omega)]
theorem xw {rest:List UInt8} (f:2≤rest.length) {q:Nat} (a:aI rest 1=(q:Int)) (h:2+q≤rest.length):
  bB (m+1) rest=(bB m (rest.drop (2+q))).map fun p=>(⟨aI rest 0,(rest.take (2+q)).drop 2⟩::p.1,p.2):=by
 match rest,f,a,h with
 |i::n::r,_,a,h=>
  have e:aI (i::n::r) 1=(n.toNat:Int):=rfl;rw[e] at a;have g:n.toNat=q:=by omega
  simp only[List.length_cons] at h;have d:bB (m+1) (i::n::r)=(bB m (r.drop q)).map fun p=>(⟨(i.toNat:Int),r.take q⟩::p.1,p.2):=by
   rw[←g];show (if n.toNat≤r.length then _ else _)=_;rw[if_pos (by omega)]
  have j:(i::n::r).drop (2+q)=r.drop q:=by rw[Nat.add_comm];rfl
  have c:((i::n::r).take (2+q)).drop 2=r.take q:=by rw[Nat.add_comm];rfl
  rw[d,j,c];rfl
theorem G8 (h:p:=by
 obtain⟨q0,q1,q2,q3,q4,q5,q6,q7⟩:=kA8 g4
 refine bodyPost_ret (v:=.tuple #[.agg #[.int .i64 0,.int .i64 0,.slice none 0 0,.int .i64 0,.int .i64 0,.bool false,.int .i64 0,.slice none 0 0],.int .i64 17]) (by simp [results,Tryz.results196,go_sem,q0,q1,q2,q3,q4,q5,q6,q7]) rfl ?_
 exact DecPost.err HN.out 17 (by decide) (by decide) (hbw.trans (hk4.below hbw.size (fun k hk e=>by omega)))):p:=h
theorem MV (h:p:=by
 generalize acc.length=an at*
 go_wp2_with fail
 refine HV.out.mono ?_
 rintro r w5 ⟨rfl,hb5⟩
 have gZ5:=hpKeep GZ.out hb5
 have hbw5:=bt hbw hb5 (Nat.le_refl _)
 go_wp2_with (refine wpList_storeW rfl 53 (.tmp 2) (.tmp 99) rfl w.heap.size 0 _ _ (#[.int .i64 0,.int .i64 0,.slice none 0 0,.int .i64 0,.int .i64 0,.bool false,.int .i64 0,.slice none 0 0]) rfl rfl gZ5 (by simp) (by kernel_rfl) (by rfl) ?_;intro w4 g4 hk4 hz4)
 obtain⟨q0,q1,q2,q3,q4,q5,q6,q7⟩:=kA8 g4
 refine bodyPost_ret (v:=.tuple #[.agg #[.int .i64 0,.int .i64 0,.slice none 0 0,.int .i64 0,.int .i64 0,.bool false,.int .i64 0,.slice none 0 0],.int .i64 5]) (by simp [results,Tryz.results196,go_sem,q0,q1,q2,q3,q4,q5,q6,q7]) rfl ?_
 exact DecPost.err HN.out 5 (by decide) (by decide) (hbw5.trans (hk4.below hbw5.size (fun k hk e=>by omega)))):p:=h
theorem Md (a:Option Addr) (n c:Nat) (b:List UInt8) (w:World) (hb:Bs w (J a n c) b) (h2:2≤n) (h3:n≤253):
    Calls Tryz.prog 196 #[J a n c] w (DecPost w (cM b)):=by
  obtain⟨i5,hi,cc,ab,cn⟩:=info_parts fS;obtain⟨rG,dM,cj⟩:=hb.gT;unfold maxLen at cj;by_cases h7:n<7
  · have O:=hid (uf (b:=b) (by omega))
    clear hb rG;go_enter Tryz.func196,Tryz.ntmps196;go_wp2;refine bodyPost_ret (v:=.tuple #[.agg #[U Z 0,U Z 0,J none 0 0,U Z 0,U Z 0,.bool false,U Z 0,J none 0 0],U Z 4]) (by simp [results,Tryz.results196,go_sem]) rfl ?_;exact DecPost.err O.out 4 (by decide) (by decide) (bal' w _)
  · obtain⟨jM,off,rfl,c1⟩:=hb.byte (i:=1) (by omega)
    have cD:7≤n:=by omega
    by_cases Ej:aI b 1=14
    · have jS:∀i,i<n→w.cell? ⟨jM,off+i,M⟩=N (U .u8 (aI b i)):=fun i hi=>by
        obtain⟨b',o',ha,hc⟩:=hb.byte (i:=i) hi;cases ha;exact hc
      have HB:=hid hb;have q0:∀W,Below w.heap.size w W→W.cell? ⟨jM,off+1,M⟩=N (U .u8 14):=fun W t=>by rw[←Ej];exact cell_keep t (jS 1 (by omega))
      have q2:∀W,Below w.heap.size w W→W.cell? ⟨jM,off+2,M⟩=N (U .u8 (aI b 2)):=fun W t=>cell_keep t (jS 2 (by omega))
      have q3:∀W,Below w.heap.size w W→W.cell? ⟨jM,off+3,M⟩=N (U .u8 (aI b 3)):=fun W t=>cell_keep t (jS 3 (by omega))
      have q4:∀W,Below w.heap.size w W→W.cell? ⟨jM,off+4,M⟩=N (U .u8 (aI b 4)):=fun W t=>cell_keep t (jS 4 (by omega))
      have q5:∀W,Below w.heap.size w W→W.cell? ⟨jM,off+5,M⟩=N (U .u8 (aI b 5)):=fun W t=>cell_keep t (jS 5 (by omega))
      have q6:∀W,Below w.heap.size w W→W.cell? ⟨jM,off+6,M⟩=N (U .u8 (aI b 6)):=fun W t=>cell_keep t (jS 6 (by omega))
      have kA:∀W X,Below w.heap.size w W→Below w.heap.size w (W.alloc X):=fun W X h=>bta h (Nat.le_refl _) X
      have kD:∀W,Below w.heap.size w W→Below w.heap.size w W.drew:=fun W h=>h.drew
      have k0:Below w.heap.size w w:=Below.refl _ _;have b4:=(dZ b 2)
      have b6:=(dZ b 3)
      have Yv:=(dZ b 4)
      have b7:=(dZ b 5)
      have bQ:=(dZ b 6)
      obtain⟨a2,XI⟩:=b4;obtain⟨a3,cl⟩:=b6;obtain⟨a4,cv⟩:=Yv;obtain⟨a5,cp⟩:=b7;obtain⟨E,WB⟩:=bQ;obtain⟨R7,XW⟩:∃x,nc (N ⟨jM,off,M⟩) c 7=x:=⟨_,rfl⟩
      have b8:∀W,(Instr.slice 50 (J (N ⟨jM,off,M⟩) n c) (N (U Z 7)) none none).run Tryz.prog W=.ok (J R7 (n-7) (c-7)) W:=fun W=>by rw[←XW];exact qE Tryz.underlying50 hi ab _ n c 7 (by omega) W
      have HR:=hid (show Bs w (J R7 (n-7) (c-7)) (b.drop 7) by rw[←XW];exact hb.Iy (by omega));clear XW;have i1:(1:Int)<(n:Int):=by omega
      have i2:(2:Int)<(n:Int):=by omega
      have i3:(3:Int)<(n:Int):=by omega
      have i4:(4:Int)<(n:Int):=by omega
      have cy:(5:Int)<(n:Int):=by omega
      have i6:(6:Int)<(n:Int):=by omega
      have uZ:=hid (Dx (b:=b) (by omega) Ej);have Zq:=hid (show ∀l,Rp.devOf b l=⟨43,0,[],aI b 2,aI b 3,aI b 4==255,aI b 5,l⟩ from fun l=>by
        unfold Rp.devOf
        congr 1
        unfold aI
        cases hh:(b.getD 4 0==255) with
        |true=>rw[beq_iff_eq] at hh;rw[hh];rfl
        |false=>
          rw[beq_eq_false_iff_ne] at hh
          symm
          rw[beq_eq_false_iff_ne]
          intro h
          exact hh (UInt8.toNat_inj.1 (by show (b.getD 4 0).toNat=255;omega)))
      have bA:=hid (show ∀o,tK b o=match o with|some (l,[])=>if (Rp.devOf b l).ok=true∧(aI b 4=0∨aI b 4=255) then some (Rp.devOf b l) else none|_=>none from fun o=>rfl);clear hb c1 jS h7;generalize aI b 2=A at*;generalize aI b 3=s at*;generalize aI b 4=D at*;generalize aI b 5=C at*;generalize aI b 6=L at*;have u2:IntKind.i64.wrap A=A:=IntWalk.i64_in _ (by omega);have u3:IntKind.i64.wrap s=s:=IntWalk.i64_in _ (by omega);have u5:IntKind.i64.wrap C=C:=IntWalk.i64_in _ (by omega);go_enter Tryz.func196,Tryz.ntmps196;go_wp2_with fail;go_region_held3 (fun W=>Below w.heap.size w W) ((repeat (first|exact k0|refine kD _ ?_|refine kA _ _ ?_))) (fail);obtain⟨WL,RT⟩:∃WL,WL=((w.alloc (K #[U Z 0,U Z 0,J none 0 0,U Z 0,U Z 0,.bool false,U Z 0,J none 0 0] 53)).alloc (K #[U Z 43,U Z 0,J none 0 0,U Z A,U Z s,.bool (D==255),U Z C,J none 0 0] 53)).drew:=⟨_,rfl⟩
      rw[←RT];have gZ:WL.heap[w.heap.size]?=N (K #[U Z 0,U Z 0,J none 0 0,U Z 0,U Z 0,.bool false,U Z 0,J none 0 0] 53):=by
        rw[RT];show ((w.alloc (K #[U Z 0,U Z 0,J none 0 0,U Z 0,U Z 0,.bool false,U Z 0,J none 0 0] 53)).alloc (K #[U Z 43,U Z 0,J none 0 0,U Z A,U Z s,.bool (D==255),U Z C,J none 0 0] 53)).heap[w.heap.size]?=_;rw[Below.heap_alloc _ _ _ (by simp)];exact hpNew _ _
      have y:WL.heap[w.heap.size+1]?=N (K #[U Z 43,U Z 0,J none 0 0,U Z A,U Z s,.bool (D==255),U Z C,J none 0 0] 53):=by
        rw[RT];have:=hpNew (w.alloc (K #[U Z 0,U Z 0,J none 0 0,U Z 0,U Z 0,.bool false,U Z 0,J none 0 0] 53)) (K #[U Z 43,U Z 0,J none 0 0,U Z A,U Z s,.bool (D==255),U Z C,J none 0 0] 53)
        rwa [show (w.alloc (K #[U Z 0,U Z 0,J none 0 0,U Z 0,U Z 0,.bool false,U Z 0,J none 0 0] 53)).heap.size=w.heap.size+1 by simp] at this
      have bK:WL.heap.size=w.heap.size+1+1:=by rw[RT];simp
      have a9:Below w.heap.size w WL:=by rw[RT];exact(bta (bta (Below.refl _ _) (Nat.le_refl _) _) (Nat.le_refl _) _).drew
      clear RT k0 kA kD;have cg:b.drop 7=(b.drop 7):=rfl;obtain⟨B7,U0⟩:=gE (b.drop 7);rw[U0] at HR;have NK:B7.length=n-7:=by rw[←U0];simp [rG]
      rw[←NK] at HR b8;have M5:Hid (eU 2 (fY (gL (w.heap.size+1+1) (J none 0 0)) WL) [] []):=rfl;go_wp2_with fail;rw[←NK];go_loopw [40,5] (fun kv rv wr=>∃(k:Nat) (acc:List Ob) (rest:List UInt8) (ra oa:Option Addr) (rc oc:Nat) (cs:List Value),(k:Int)≤L∧kv=U .u8 k∧rv=J ra rest.length rc∧rest.length≤253∧acc.length=k∧
        Hid (Bs w (J ra rest.length rc) rest)∧Hid (wr.ownsRow (w.heap.size+1+1) 165 2 (J oa k oc) k cs)∧Hid (eU 2 (fY (gL (w.heap.size+1+1) (J oa k oc)) wr) cs acc)∧
        wr.heap[w.heap.size]?=N (K #[U Z 0,U Z 0,J none 0 0,U Z 0,U Z 0,.bool false,U Z 0,J none 0 0] 53)∧wr.heap[w.heap.size+1]?=N (K #[U Z 43,U Z 0,J none 0 0,U Z A,U Z s,.bool (D==255),U Z C,J oa k oc] 53)∧Below w.heap.size w wr∧w.heap.size+1+1≤wr.heap.size∧
        Hid (bB L.toNat B7=(bB (L.toNat-k) rest).map fun p=>(acc++p.1,p.2))) (fun kv _ _=>L.toNat- (intOf kv).toNat)
      case atStart=>exact⟨0,[],B7,R7,none,c-7,0,[],by omega,rfl,rfl,by omega,rfl,HR.out,World.ownsRow_nil _ _ _ _,M5.out,gZ,y,a9,by omega,by show _=_;cases bB L.toNat B7<;>simp⟩
      case round=>
        clear gZ y bK a9 M5;obtain⟨k,acc,rest,ra,oa,rc,oc,cs,hk,rfl,rfl,UE,ak,d,z,R,gZ,y,hbw,Qh,O⟩:=hrel;have RD:=O;by_cases cd:(k:Int)<L
        · obtain⟨m,hm⟩:∃m,L.toNat-k=m+1:=⟨L.toNat-k-1,by omega⟩
          by_cases yz:rest.length<2
          · have HN:Hid (cM b=none):=by
              show _=_;rw[uZ.out,U0,O.out,hm,tN yz];rfl
            clear O RD hm d;generalize rest.length=rn at*;go_wp2_with (refine wpList_storeW rfl 53 (.tmp 2) (.tmp 55) rfl w.heap.size 0 _ _ (#[U Z 0,U Z 0,J none 0 0,U Z 0,U Z 0,.bool false,U Z 0,J none 0 0]) rfl rfl gZ (by simp) (by kernel_rfl) (by rfl) ?_;intro w4 g4 hk4 hz4);exact G8
          · obtain⟨rb,ro,rfl,aY⟩:=d.out.byte (i:=0) (by omega)
            obtain⟨cw,cf,Z2,a7⟩:=d.out.byte (i:=1) (by omega);cases Z2;have c0:∀W,Below w.heap.size w W→W.cell? ⟨rb,ro,M⟩=N (U .u8 (aI rest 0)):=fun W h=>cell_keep h aY
            have c1:∀W,Below w.heap.size w W→W.cell? ⟨rb,ro+1,M⟩=N (U .u8 (aI rest 1)):=fun W h=>cell_keep h a7
            obtain⟨b0,Wm⟩:=dZ rest 0;obtain⟨q,hq⟩:=Int.eq_ofNat_of_zero_le (dZ rest 1).1;have Zh:=(dZ rest 1).2;have AE:=fun h=>xP (m:=m) (rest:=rest) h
            have wZ:=fun h2 h=>xw (m:=m) (rest:=rest) h2 hq h
            rw[hq] at c1 Zh AE;clear aY a7;by_cases Wd:(rest.length:Int)<2+(q:Int)
            · have HN:Hid (cM b=none):=by
                show _=_;rw[uZ.out,U0,O.out,hm,AE Wd];rfl
              clear O RD hm d AE wZ hq;generalize rest.length=rn at*;go_wp2_with (refine wpList_storeW rfl 53 (.tmp 2) (.tmp 55) rfl w.heap.size 0 _ _ (#[U Z 0,U Z 0,J none 0 0,U Z 0,U Z 0,.bool false,U Z 0,J none 0 0]) rfl rfl gZ (by simp) (by kernel_rfl) (by rfl) ?_;intro w4 g4 hk4 hz4);exact G8
            · have WN:2+q≤rest.length:=by omega
              obtain⟨-,YQ,XN⟩:=d.out.gT;unfold maxLen at XN;obtain⟨Y0,X6⟩:∃x,nc (N ⟨rb,ro,M⟩) rc 2=x:=⟨_,rfl⟩
              obtain⟨R2,OP⟩:∃x,nc (N ⟨rb,ro,M⟩) rc (2+q)=x:=⟨_,rfl⟩
              have HY:=hid (show Bs w (J Y0 q (rc-2)) ((rest.take (2+q)).drop 2) by
                rw[←X6]
                have:=d.out.cut (i:=2) (k:=2+q) (by omega) WN
                rwa [show 2+q-2=q by omega] at this)
              have Xu:=hid (show Bs w (J R2 (rest.length- (2+q)) (rc- (2+q))) (rest.drop (2+q)) by rw[←OP];exact d.out.Iy WN);have hcut:∀W,(Instr.slice 50 (J (N ⟨rb,ro,M⟩) rest.length rc) (N (U Z 2)) (N (U Z (2+(q:Int)))) none).run Tryz.prog W=.ok (J Y0 q (rc-2)) W:=fun W=>by
                have h:=Kw (P:=Tryz.prog) Tryz.underlying50 hi ab (N ⟨rb,ro,M⟩) rest.length rc 2 (2+q) (by omega) (by omega) W;rw[X6,show 2+q-2=q by omega,show ((2+q:Nat):Int)=2+(q:Int) by omega] at h;exact h
              have Yp:∀W,(Instr.slice 50 (J (N ⟨rb,ro,M⟩) rest.length rc) (N (U Z (2+(q:Int)))) none none).run Tryz.prog W=.ok (J R2 (rest.length- (2+q)) (rc- (2+q))) W:=fun W=>by
                have h:=qE (P:=Tryz.prog) Tryz.underlying50 hi ab (N ⟨rb,ro,M⟩) rest.length rc (2+q) (by omega) W;rw[OP,show ((2+q:Nat):Int)=2+(q:Int) by omega] at h;exact h
              obtain⟨Y,WS⟩:∃Y,(rest.take (2+q)).drop 2=Y:=⟨_,rfl⟩
              have Rk:Y.length=q:=by rw[←WS];simp;omega
              have ZP:Hid (bB L.toNat B7=(bB (L.toNat- (k+1)) (rest.drop (2+q))).map fun p=>(acc++[⟨aI rest 0,Y⟩]++p.1,p.2)):=by
                show _=_;rw[O.out,hm,wZ (by omega) WN,WS,show L.toNat- (k+1)=m by omega,Option.map_map];congr 1
                funext p
                simp
              have J7:=hid (show (rest.drop (2+q)).length=rest.length- (2+q) by simp);rw[WS] at HY;have m7:Hid (∀W,Below w.heap.size w W→Calls Tryz.prog 80 #[J Y0 q (rc-2)] W fun r w'=>∃v',r=.returned v'∧w'.ownsRow W.heap.size 5 1 v' q (u8s Y)∧Below W.heap.size W w'):=fun W t=>by
                have h:=bY _ Y W (HY.out.ah t) (by omega);rw[Rk] at h;exact h
              have HO:=hid z.out;have HC:=hid R.out;have WV:=hid Rk;obtain⟨iO,P6,C9,CK,CJ⟩:=info_parts yA;have d0:∀W,Below wr.heap.size wr W→W.cell? ⟨rb,ro,M⟩=N (U .u8 (aI rest 0)):=fun W h=>c0 W (bt hbw h (Nat.le_refl _))
              have d1:∀W,Below wr.heap.size wr W→W.cell? ⟨rb,ro+1,M⟩=N (U .u8 (q:Int)):=fun W h=>c1 W (bt hbw h (Nat.le_refl _))
              have d7:=cF y 7 rfl
              have k0:Below wr.heap.size wr wr:=Below.refl _ _;have kd:Below wr.heap.size wr wr.drew:=(Below.refl _ _).drew;have kA:∀W X,Below wr.heap.size wr W→Below wr.heap.size wr (W.alloc X):=fun W X h=>bta h (Nat.le_refl _) X
              have uq:IntKind.i64.wrap (q:Int)=(q:Int):=IntWalk.i64_in _ (by omega);have uy:IntKind.i64.wrap (aI rest 0)=aI rest 0:=IntWalk.i64_in _ (by omega);have uk:IntKind.u8.wrap ((k:Int)+1)=(k:Int)+1:=by show ((k:Int)+1)%256=_;omega
              have Rv:(0:Int)<(rest.length:Int):=by omega
              have Zt:(1:Int)<(rest.length:Int):=by omega
              clear c0 c1 AE wZ hm O RD z R X6 OP WS Rk d hq;obtain⟨rn,dN⟩:=gE rest.length;rw[dN] at hcut Yp Xu J7 yz Wd WN UE Rv Zt YQ ⊢;clear dN;have cz:0<rn:=by omega
              generalize bx:aI rest 0=y0 at*;clear bx;go_upto_region 12 with(fail)
              go_cut [73] from 61 to 74 (fun _ wc=>∃(E:Option Addr) (I:Nat) (WH:List Value),Hid (wc.ownsRow (w.heap.size+1+1) 165 2 (J E (k+1) I) (k+1) WH)∧Hid (eU 2 (fY (gL (w.heap.size+1+1) (J E (k+1) I)) wc) WH (acc++[⟨y0,Y⟩]))∧
                wc.heap[w.heap.size]?=N (K #[U Z 0,U Z 0,J none 0 0,U Z 0,U Z 0,.bool false,U Z 0,J none 0 0] 53)∧wc.heap[w.heap.size+1]?=N (K #[U Z 43,U Z 0,J none 0 0,U Z A,U Z s,.bool (D==255),U Z C,J E (k+1) I] 53)∧Below w.heap.size w wc∧w.heap.size+1+1≤wc.heap.size)
              case first=>
               go_region_law (first
                |(refine step_appN rfl (.tmp 62) (.tmp 72) 51 rfl (w.heap.size+1+1) 165 iO _ 2 32 Tryz.underlying51 P6 C9 CK CJ rfl (by decide) (J oa k oc) k cs rfl bc.out ⟨w5.heap.size,0,M⟩ 1 1 [U Z y0,J a5 q c5] rfl rfl (dP w5 [U Z y0,J a5 q c5] _) (by intro u hu;simp at hu;rcases hu with rfl|rfl<;>rfl) (by unfold maxLen;omega) (by omega) (by have:=hb5.size;simp;omega) ?_;intro v6 w6 g ao eX;obtain⟨E,I,rfl⟩:=own_slice g;have hS:=BE (B:=w.heap.size+1+1) (y0:=y0) Qh HO.out HC.out hb5 WV.out S ao eX;have e7:w6.cell? ⟨w.heap.size+1,7,M⟩=N (J oa k oc):=hpCell ((hS.2.2 (w.heap.size+1) (by omega)).trans y) 7;have z7:w6.frozen? ⟨w.heap.size+1,7,M⟩=false:=hpFree ((hS.2.2 (w.heap.size+1) (by omega)).trans y) 7)
                |(go_wp2_with (go_at_call 80;refine(m7.out _ (bt hbw kd (Nat.le_refl _))).mono ?_;rintro r w5 ⟨v5,rfl,S,fU⟩;obtain⟨a5,c5,rfl⟩:=own_slice S;have hb5:=bt kd fU (Nat.le_refl _);have bc:=hid ((own_keeps HO.out (Keeps.af (F:=fun _=>False) hb5) (fun _ _ f=>f)).alloc (K #[U Z y0,J a5 q c5] 165)))))
               all_goals
                obtain⟨RN,Q,ad⟩:=hS;have QV:(w6.setCell ⟨w.heap.size+1,7,M⟩ (J E (k+1) I)).heap[w.heap.size]?=N (K #[U Z 0,U Z 0,J none 0 0,U Z 0,U Z 0,.bool false,U Z 0,J none 0 0] 53):=by
                  rw[hpOther (by omega),ad _ (by omega)];exact gZ
                have CA:(w6.setCell ⟨w.heap.size+1,7,M⟩ (J E (k+1) I)).heap[w.heap.size+1]?=N (K #[U Z 43,U Z 0,J none 0 0,U Z A,U Z s,.bool (D==255),U Z C,J E (k+1) I] 53):=by
                  rw[hpSet ((ad _ (by omega)).trans y) 7 _];rfl
                have jX:Keeps (· =w.heap.size+1) w6 (w6.setCell ⟨w.heap.size+1,7,M⟩ (J E (k+1) I)):=(Keeps.refl _ _).set _ _ rfl;have av:=hid (own_keeps g jX (fun j hj e=>by have:=(g.lt j hj).1;omega));have a8:Keeps (gL (w.heap.size+1+1) (J E (k+1) I)) w6 (w6.setCell ⟨w.heap.size+1,7,M⟩ (J E (k+1) I)):=jX.mono (fun j _ e=>.inr (by omega));have aX:=hid (eU.mono (fun r x h=>fY.keeps a8 (fun _ _ h=>h) r x h) _ _ RN);have ba:Below w.heap.size wr w6:=⟨Q.os,Q.tape,Q.output,Q.size,fun i hi=>ad i (by omega)⟩
                have kK:=(hbw.trans ba).setCell (p:=⟨w.heap.size+1,7,M⟩) (by show w.heap.size≤w.heap.size+1;omega) (J E (k+1) I);have Sk:w.heap.size+1+1≤(w6.setCell ⟨w.heap.size+1,7,M⟩ (J E (k+1) I)).heap.size:=by
                  have:=jX.size;have:=Q.size;omega
                clear RN Q ad ba jX a8 g ao eX;go_wp2;go_meet
                case rel=>exact⟨E,I,_,av.out,aX.out,QV,CA,kK,Sk⟩
              case rest=>
                obtain⟨E,I,WH,av,aX,QV,CA,kK,Sk⟩:=hcut;have bn:=hid (show (acc++[(⟨y0,Y⟩:Ob)]).length=k+1 by simp [ak]);have bX:=hid QV;have ca:=hid CA;have Po:=hid kK;have bm:=hid Sk;clear QV CA kK Sk;go_wp2;go_roundw
                case rel=>exact⟨u3,J R2 (rn- (2+q)) (rc- (2+q)),U Z (2+(q:Int)),U .u8 ((k+1:Nat):Int),⟨k+1,by omega,rfl,acc++[(⟨y0,Y⟩:Ob)],rest.drop (2+q),R2,E,rc- (2+q),by rw[J7.out],by rw[J7.out];omega,bn.out,by rw[J7.out];exact Xu.out,I,WH,av.out,aX.out,bX.out,ca.out,Po.out,bm.out,ZP.out⟩,rfl,rfl,rfl,by go_num⟩
                case measure=>simp [intOf];omega
        · have b5:(k:Int)=L:=by omega
          have T:cM b=tK b (N (acc,rest)):=by
            rw[uZ.out,U0,O.out,show L.toNat-k=0 by omega];simp [bB]
          clear O RD uZ;subst b5;by_cases D8:rest.length=0
          · obtain rfl:rest=[]:=List.eq_nil_of_length_eq_zero D8
            subst ak;have hx:=Zq.out acc;rw[bA.out] at T;simp only[hx] at T;obtain⟨V,hV⟩:∃V,Rp.ok ⟨43,0,[],A,s,D==255,C,acc⟩=V:=⟨_,rfl⟩
            rw[hV] at T;have Ka:cY wr (J oa acc.length oc) acc:=cY.uP z.out (eU.mono (fun r x h=>h.q) _ _ R.out) rfl;have HV:Hid (Calls Tryz.prog 197 #[.agg #[U Z 43,U Z 0,J none 0 0,U Z A,U Z s,.bool (D==255),U Z C,J oa acc.length oc]] wr fun r w'=>r=.returned (.bool V)∧Below wr.heap.size wr w'):=by
              have h:=eu 43 0 (J none 0 0) A s (D==255) C (J oa acc.length oc) [] acc wr (Bs.nil _) Ka (by omega) (by omega);rw[hV] at h;exact h
            have d4:∀W,Below wr.heap.size wr W→W.cell? ⟨jM,off+4,M⟩=N (U .u8 D):=fun W h=>q4 W (bt hbw h (Nat.le_refl _))
            have r0:=cF y 0 rfl
            have r1:=cF y 1 rfl
            have r2:=cF y 2 rfl
            have r3:=cF y 3 rfl
            have r4:=cF y 4 rfl
            have r5:=cF y 5 rfl
            have r6:=cF y 6 rfl
            have r7:=cF y 7 rfl
            have k0:Below wr.heap.size wr wr:=Below.refl _ _;have HO:=hid z.out;have HC:=hid R.out;have GZ:=hid gZ;have GR:=hid y;clear q0 q2 q3 q4 q5 q6 z R Ka hx hV gZ y d cd;cases V with
            |false=>
              have HN:Hid (cM b=none):=by show _=_;rw[T,if_neg (by simp)]
              clear T;exact MV
            |true=>
              by_cases hz:D=0∨D=255
              · have HS:Hid (cM b=N ⟨43,0,[],A,s,D==255,C,acc⟩):=by show _=_;rw[T,if_pos ⟨rfl,hz⟩]
                clear T;rcases hz with rfl|rfl
                all_goals
                  go_wp2_with fail;refine HV.out.mono ?_;rintro r w5 ⟨rfl,hb5⟩;have gZ5:=hpKeep GZ.out hb5;have hbw5:=bt hbw hb5 (Nat.le_refl _)
                  first
                    | (go_wp2_with (refine wpList_storeW rfl 53 (.tmp 2) (.tmp 100) rfl w.heap.size 0 _ _ (#[U Z 43,U Z 0,J none 0 0,U Z A,U Z s,.bool false,U Z C,J oa acc.length oc]) rfl rfl gZ5 (by simp) (by kernel_rfl) (by rfl) ?_;intro w4 g4 hk4 hz4)
                       obtain⟨q0,q1,q2,q3,q4,q5,q6,q7⟩:=kA8 g4
                       refine bodyPost_ret (v:=.tuple #[.agg #[U Z 43,U Z 0,J none 0 0,U Z A,U Z s,.bool false,U Z C,J oa acc.length oc],U Z 0]) (by simp [results,Tryz.results196,go_sem,q0,q1,q2,q3,q4,q5,q6,q7]) rfl ?_)
                    | (go_wp2_with (refine wpList_storeW rfl 53 (.tmp 2) (.tmp 100) rfl w.heap.size 0 _ _ (#[U Z 43,U Z 0,J none 0 0,U Z A,U Z s,.bool true,U Z C,J oa acc.length oc]) rfl rfl gZ5 (by simp) (by kernel_rfl) (by rfl) ?_;intro w4 g4 hk4 hz4)
                       obtain⟨q0,q1,q2,q3,q4,q5,q6,q7⟩:=kA8 g4
                       refine bodyPost_ret (v:=.tuple #[.agg #[U Z 43,U Z 0,J none 0 0,U Z A,U Z s,.bool true,U Z C,J oa acc.length oc],U Z 0]) (by simp [results,Tryz.results196,go_sem,q0,q1,q2,q3,q4,q5,q6,q7]) rfl ?_)
                  have cb:Keeps (gL (w.heap.size+1+1) (J oa acc.length oc)) wr w4:=(Keeps.af hb5).trans (hk4.mono (G:=gL (w.heap.size+1+1) (J oa acc.length oc)) (fun j _ e=>.inr (by omega))) (fun _ _ h=>h);have jX:Keeps (fun j=>j=w.heap.size) wr w4:=(Keeps.af hb5).trans hk4 (fun _ _ h=>h);have Ka:∀W,ay w.heap.size w4 W→cY W (J oa acc.length oc) acc:=fun W t=>cY.uP (di (B:=w.heap.size) (own_keeps HO.out jX (fun j hj e=>by have:=(HO.out.lt j hj).1;omega)) (by omega) t) (eU.mono (fun r x h=>fY.kj (B:=w.heap.size) (by omega) t r x (fY.keeps cb (fun _ _ h=>h) r x h)) _ _ HC.out) rfl
                  exact DecPost.is (oa:=oa) (oc:=oc) (da:=none) (dc:=0) HS.out (fun W t=>⟨Bs.nil _,Ka W t,by show s≤_;omega,by show _≤s;omega⟩) (hbw5.trans (hk4.below hbw5.size (fun k hk e=>by omega)))
              · have HN:Hid (cM b=none):=by show _=_;rw[T,if_neg (fun h=>hz h.2)]
                clear T;have ab:(D==255)=false:=by rw[beq_eq_false_iff_ne];omega
                have cc:(D !=0)=true:=by rw[bne_iff_ne];omega
                clear hz;rw[ab] at HV r5;exact MV
          · have HN:Hid (cM b=none):=by
              show _=_;rw[T];cases rest with
              |nil=>exact absurd rfl D8
              |cons _ _=>rfl
            clear T d;generalize rest.length=rn at*;have dN:0<rn:=by omega
            go_wp2_with (refine wpList_storeW rfl 53 (.tmp 2) (.tmp 83) rfl w.heap.size 0 _ _ (#[U Z 0,U Z 0,J none 0 0,U Z 0,U Z 0,.bool false,U Z 0,J none 0 0]) rfl rfl gZ (by simp) (by kernel_rfl) (by rfl) ?_;intro w4 g4 hk4 hz4);exact G8
    · have O:=hid (xx Ej)
      have bC:w.cell? ⟨jM,off+1,M⟩=N (U .u8 (aI b 1)):=c1;have cx:(aI b 1 !=14)=true:=by rw[bne_iff_ne];exact Ej
      clear hb rG c1;have ct:=cell_keep (bal' w (K #[U Z 0,U Z 0,J none 0 0,U Z 0,U Z 0,.bool false,U Z 0,J none 0 0] 53)) bC;generalize aI b 1=k1 at*;go_enter Tryz.func196,Tryz.ntmps196;go_wp2;refine bodyPost_ret (v:=.tuple #[.agg #[U Z 0,U Z 0,J none 0 0,U Z 0,U Z 0,.bool false,U Z 0,J none 0 0],U Z 6]) (by simp [results,Tryz.results196,go_sem]) rfl ?_;exact DecPost.err O.out 6 (by decide) (by decide) (bal' w _)
