import Derived.Test.YtoaoejaodhedaaaGreatQ03
import Derived.Deep.CutBlock
namespace Go.Proofs.YtoaoejaodhedaaaGreat
open Go.RowKit
set_option maxHeartbeats 12800000
set_option maxRecDepth 100000
theorem decDev_short {b:List UInt8} (h:b.length<7):decDev b=none:=by unfold decDev;rw[if_pos (.inl h)]
theorem decDev_kind {b:List UInt8} (h:bAt b 1≠14):decDev b=none:=by unfold decDev;rw[if_pos (.inr h)]
def devTail (b:List UInt8):Option (List Ob×List UInt8)→Option Rp
 |some (l,[])=>if (Rp.devOf b l).ok=true∧(bAt b 4=0∨bAt b 4=255) then some (Rp.devOf b l) else none
 |_=>none
theorem decDev_eq {b:List UInt8} (h:7≤b.length) (h1:bAt b 1=14):decDev b=devTail b (decObs (bAt b 6).toNat (b.drop 7)):=by
 unfold decDev;rw[if_neg (by omega)];rfl
theorem decObs_short {m:Nat} {rest:List UInt8} (h:rest.length<2):decObs (m+1) rest=none:=by
 match rest,h with
 |[],_=>rfl
 |[_],_=>rfl
theorem decObs_long {m:Nat} {rest:List UInt8} (h:(rest.length:Int)<2+bAt rest 1):decObs (m+1) rest=none:=by
 match rest,h with
 |[],_=>rfl
 |[_],_=>rfl
 |i::n::r,h=>
  have e:bAt (i::n::r) 1=(n.toNat:Int):=rfl;rw[e] at h;simp only[List.length_cons] at h;unfold decObs;rw[if_neg (by omega)]
theorem decObs_step {m:Nat} {rest:List UInt8} (h2:2≤rest.length) {q:Nat} (hq:bAt rest 1=(q:Int)) (h:2+q≤rest.length):
  decObs (m+1) rest=(decObs m (rest.drop (2+q))).map fun p=>(⟨bAt rest 0,(rest.take (2+q)).drop 2⟩::p.1,p.2):=by
 match rest,h2,hq,h with
 |i::n::r,_,hq,h=>
  have e:bAt (i::n::r) 1=(n.toNat:Int):=rfl;rw[e] at hq;have hn:n.toNat=q:=by omega
  simp only[List.length_cons] at h;have e0:decObs (m+1) (i::n::r)=(decObs m (r.drop q)).map fun p=>(⟨(i.toNat:Int),r.take q⟩::p.1,p.2):=by
   rw[←hn];show (if n.toNat≤r.length then _ else _)=_;rw[if_pos (by omega)]
  have e1:(i::n::r).drop (2+q)=r.drop q:=by rw[Nat.add_comm];rfl
  have e2:((i::n::r).take (2+q)).drop 2=r.take q:=by rw[Nat.add_comm];rfl
  rw[e0,e1,e2];rfl
theorem z12_1 {p:Prop} (h:p:=by
 obtain⟨q0,q1,q2,q3,q4,q5,q6,q7⟩:w4.cell? ⟨w.heap.size,0,none⟩=some (.int .i64 0)∧w4.cell? ⟨w.heap.size,1,none⟩=some (.int .i64 0)∧w4.cell? ⟨w.heap.size,2,none⟩=some (.slice none 0 0)∧w4.cell? ⟨w.heap.size,3,none⟩=some (.int .i64 0)∧w4.cell? ⟨w.heap.size,4,none⟩=some (.int .i64 0)∧w4.cell? ⟨w.heap.size,5,none⟩=some (.bool false)∧w4.cell? ⟨w.heap.size,6,none⟩=some (.int .i64 0)∧w4.cell? ⟨w.heap.size,7,none⟩=some (.slice none 0 0):=⟨bA g4 0,bA g4 1,bA g4 2,bA g4 3,bA g4 4,bA g4 5,bA g4 6,bA g4 7⟩
 refine bodyPost_ret (v:=.tuple #[.agg #[.int .i64 0,.int .i64 0,.slice none 0 0,.int .i64 0,.int .i64 0,.bool false,.int .i64 0,.slice none 0 0],.int .i64 17]) (by simp [results,Tryz.results196,go_sem,q0,q1,q2,q3,q4,q5,q6,q7]) rfl ?_
 exact DecPost.err HN.out 17 (by decide) (by decide) (hbw.trans (hk4.below hbw.size (fun k hk e=>by omega)))):p:=h
theorem z12_2 {p:Prop} (h:p:=by
 generalize acc.length=an at*
 go_wp2_with fail
 refine HV.out.mono ?_
 rintro r w5 ⟨rfl,hb5⟩
 have gZ5:=bB GZ.out hb5
 have hbw5:=bU hbw hb5
 go_wp2_with (refine bE rfl 53 (.tmp 2) (.tmp 99) rfl w.heap.size 0 _ _ (#[.int .i64 0,.int .i64 0,.slice none 0 0,.int .i64 0,.int .i64 0,.bool false,.int .i64 0,.slice none 0 0]) rfl rfl gZ5 (by simp) (by kernel_rfl) (by rfl) ?_;intro w4 g4 hk4 hz4)
 obtain⟨q0,q1,q2,q3,q4,q5,q6,q7⟩:w4.cell? ⟨w.heap.size,0,none⟩=some (.int .i64 0)∧w4.cell? ⟨w.heap.size,1,none⟩=some (.int .i64 0)∧w4.cell? ⟨w.heap.size,2,none⟩=some (.slice none 0 0)∧w4.cell? ⟨w.heap.size,3,none⟩=some (.int .i64 0)∧w4.cell? ⟨w.heap.size,4,none⟩=some (.int .i64 0)∧w4.cell? ⟨w.heap.size,5,none⟩=some (.bool false)∧w4.cell? ⟨w.heap.size,6,none⟩=some (.int .i64 0)∧w4.cell? ⟨w.heap.size,7,none⟩=some (.slice none 0 0):=⟨bA g4 0,bA g4 1,bA g4 2,bA g4 3,bA g4 4,bA g4 5,bA g4 6,bA g4 7⟩
 refine bodyPost_ret (v:=.tuple #[.agg #[.int .i64 0,.int .i64 0,.slice none 0 0,.int .i64 0,.int .i64 0,.bool false,.int .i64 0,.slice none 0 0],.int .i64 5]) (by simp [results,Tryz.results196,go_sem,q0,q1,q2,q3,q4,q5,q6,q7]) rfl ?_
 exact DecPost.err HN.out 5 (by decide) (by decide) (hbw5.trans (hk4.below hbw5.size (fun k hk e=>by omega)))):p:=h
theorem dev_any (a:Option Addr) (n c:Nat) (b:List UInt8) (w:World) (hb:Bs w (.slice a n c) b) (h2:2≤n) (h3:n≤253):
    Calls Tryz.prog 196 #[.slice a n c] w (DecPost w (decDev b)):=by
  obtain⟨i5,hi,hz0,hz1,hz2⟩:=info_parts infoB;obtain⟨hbn,hnc,hcm⟩:=hb.capOf;unfold maxLen at hcm;by_cases h7:n<7
  · have HD:=bC (decDev_short (b:=b) (by omega))
    clear hb hbn;go_enter Tryz.func196,Tryz.ntmps196;go_wp2;refine bodyPost_ret (v:=.tuple #[.agg #[.int .i64 0,.int .i64 0,.slice none 0 0,.int .i64 0,.int .i64 0,.bool false,.int .i64 0,.slice none 0 0],.int .i64 4]) (by simp [results,Tryz.results196,go_sem]) rfl ?_;exact DecPost.err HD.out 4 (by decide) (by decide) (bH w _)
  · obtain⟨blk,off,rfl,c1⟩:=hb.byte (i:=1) (by omega)
    have hn7:7≤n:=by omega
    by_cases h14:bAt b 1=14
    · have hby:∀i,i<n→w.cell? ⟨blk,off+i,none⟩=some (.int .u8 (bAt b i)):=fun i hi=>by
        obtain⟨b',o',ha,hc⟩:=hb.byte (i:=i) hi;cases ha;exact hc
      have HB:=bC hb;have q0:∀W,Below w.heap.size w W→W.cell? ⟨blk,off+1,none⟩=some (.int .u8 14):=fun W hW=>by rw[←h14];exact bD hW (hby 1 (by omega))
      have q2:∀W,Below w.heap.size w W→W.cell? ⟨blk,off+2,none⟩=some (.int .u8 (bAt b 2)):=fun W hW=>bD hW (hby 2 (by omega))
      have q3:∀W,Below w.heap.size w W→W.cell? ⟨blk,off+3,none⟩=some (.int .u8 (bAt b 3)):=fun W hW=>bD hW (hby 3 (by omega))
      have q4:∀W,Below w.heap.size w W→W.cell? ⟨blk,off+4,none⟩=some (.int .u8 (bAt b 4)):=fun W hW=>bD hW (hby 4 (by omega))
      have q5:∀W,Below w.heap.size w W→W.cell? ⟨blk,off+5,none⟩=some (.int .u8 (bAt b 5)):=fun W hW=>bD hW (hby 5 (by omega))
      have q6:∀W,Below w.heap.size w W→W.cell? ⟨blk,off+6,none⟩=some (.int .u8 (bAt b 6)):=fun W hW=>bD hW (hby 6 (by omega))
      have kA:∀W X,Below w.heap.size w W→Below w.heap.size w (W.alloc X):=fun W X h=>cJ h (Nat.le_refl _) X
      have kD:∀W,Below w.heap.size w W→Below w.heap.size w W.drew:=fun W h=>h.drew
      have k0:Below w.heap.size w w:=Below.refl _ _;have hd2:=(bAt_bd b 2)
      have hd3:=(bAt_bd b 3)
      have hd4:=(bAt_bd b 4)
      have hd5:=(bAt_bd b 5)
      have hd6:=(bAt_bd b 6)
      obtain⟨a2,a2'⟩:=hd2;obtain⟨a3,a3'⟩:=hd3;obtain⟨a4,a4'⟩:=hd4;obtain⟨a5,a5'⟩:=hd5;obtain⟨a6,a6'⟩:=hd6;obtain⟨R7,hR7⟩:∃x,cutA (some ⟨blk,off,none⟩) c 7=x:=⟨_,rfl⟩
      have hd7:∀W,(Instr.slice 50 (.slice (some ⟨blk,off,none⟩) n c) (some (.int .i64 7)) none none).run Tryz.prog W=.ok (.slice R7 (n-7) (c-7)) W:=fun W=>by rw[←hR7];exact run_drop Tryz.underlying50 hi hz1 _ n c 7 (by omega) W
      have HR:=bC (show Bs w (.slice R7 (n-7) (c-7)) (b.drop 7) by rw[←hR7];exact hb.dropS (by omega));clear hR7;have i1:(1:Int)<(n:Int):=by omega
      have i2:(2:Int)<(n:Int):=by omega
      have i3:(3:Int)<(n:Int):=by omega
      have i4:(4:Int)<(n:Int):=by omega
      have i5':(5:Int)<(n:Int):=by omega
      have i6:(6:Int)<(n:Int):=by omega
      have HDD:=bC (decDev_eq (b:=b) (by omega) h14);have HOKB:=bC (show ∀l,Rp.devOf b l=⟨43,0,[],bAt b 2,bAt b 3,bAt b 4==255,bAt b 5,l⟩ from fun l=>by
        unfold Rp.devOf
        congr 1
        unfold bAt
        cases hh:(b.getD 4 0==255) with
        |true=>rw[beq_iff_eq] at hh;rw[hh];rfl
        |false=>
          rw[beq_eq_false_iff_ne] at hh
          symm
          rw[beq_eq_false_iff_ne]
          intro h
          exact hh (UInt8.toNat_inj.1 (by show (b.getD 4 0).toNat=255;omega)))
      have HTL:=bC (show ∀o,devTail b o=match o with|some (l,[])=>if (Rp.devOf b l).ok=true∧(bAt b 4=0∨bAt b 4=255) then some (Rp.devOf b l) else none|_=>none from fun o=>rfl);clear hb c1 hby h7;generalize bAt b 2=z2 at*;generalize bAt b 3=z3 at*;generalize bAt b 4=z4 at*;generalize bAt b 5=z5 at*;generalize bAt b 6=z6 at*;have u2:IntKind.i64.wrap z2=z2:=IntWalk.i64_in _ (by omega);have u3:IntKind.i64.wrap z3=z3:=IntWalk.i64_in _ (by omega);have u5:IntKind.i64.wrap z5=z5:=IntWalk.i64_in _ (by omega);go_enter Tryz.func196,Tryz.ntmps196;go_wp2_with fail;go_region_held3 (fun W=>Below w.heap.size w W) ((repeat (first|exact k0|refine kD _ ?_|refine kA _ _ ?_))) (fail);obtain⟨WL,hWL⟩:∃WL,WL=((w.alloc (.cells #[.int .i64 0,.int .i64 0,.slice none 0 0,.int .i64 0,.int .i64 0,.bool false,.int .i64 0,.slice none 0 0] 53)).alloc (.cells #[.int .i64 43,.int .i64 0,.slice none 0 0,.int .i64 z2,.int .i64 z3,.bool (z4==255),.int .i64 z5,.slice none 0 0] 53)).drew:=⟨_,rfl⟩
      rw[←hWL];have gZ:WL.heap[w.heap.size]?=some (.cells #[.int .i64 0,.int .i64 0,.slice none 0 0,.int .i64 0,.int .i64 0,.bool false,.int .i64 0,.slice none 0 0] 53):=by
        rw[hWL];show ((w.alloc (.cells #[.int .i64 0,.int .i64 0,.slice none 0 0,.int .i64 0,.int .i64 0,.bool false,.int .i64 0,.slice none 0 0] 53)).alloc (.cells #[.int .i64 43,.int .i64 0,.slice none 0 0,.int .i64 z2,.int .i64 z3,.bool (z4==255),.int .i64 z5,.slice none 0 0] 53)).heap[w.heap.size]?=_;rw[Below.heap_alloc _ _ _ (by simp)];exact bI _ _
      have gR:WL.heap[w.heap.size+1]?=some (.cells #[.int .i64 43,.int .i64 0,.slice none 0 0,.int .i64 z2,.int .i64 z3,.bool (z4==255),.int .i64 z5,.slice none 0 0] 53):=by
        rw[hWL];have:=bI (w.alloc (.cells #[.int .i64 0,.int .i64 0,.slice none 0 0,.int .i64 0,.int .i64 0,.bool false,.int .i64 0,.slice none 0 0] 53)) (.cells #[.int .i64 43,.int .i64 0,.slice none 0 0,.int .i64 z2,.int .i64 z3,.bool (z4==255),.int .i64 z5,.slice none 0 0] 53)
        rwa [show (w.alloc (.cells #[.int .i64 0,.int .i64 0,.slice none 0 0,.int .i64 0,.int .i64 0,.bool false,.int .i64 0,.slice none 0 0] 53)).heap.size=w.heap.size+1 by simp] at this
      have szL:WL.heap.size=w.heap.size+1+1:=by rw[hWL];simp
      have hbL:Below w.heap.size w WL:=by rw[hWL];exact(cJ (cJ (Below.refl _ _) (Nat.le_refl _) _) (Nat.le_refl _) _).drew
      clear hWL k0 kA kD;have hL7:b.drop 7=(b.drop 7):=rfl;obtain⟨B7,hB7⟩:=gE (b.drop 7);rw[hB7] at HR;have hlen7:B7.length=n-7:=by rw[←hB7];simp [hbn]
      rw[←hlen7] at HR hd7;have hrows:Hid (CsL 2 (ObQF (DevF (w.heap.size+1+1) (.slice none 0 0)) WL) [] []):=rfl;go_wp2_with fail;rw[←hlen7];go_loopw [40,5] (fun kv rv wr=>∃(k:Nat) (acc:List Ob) (rest:List UInt8) (ra oa:Option Addr) (rc oc:Nat) (cs:List Value),(k:Int)≤z6∧kv=.int .u8 k∧rv=.slice ra rest.length rc∧rest.length≤253∧acc.length=k∧
        Hid (Bs w (.slice ra rest.length rc) rest)∧Hid (wr.ownsRow (w.heap.size+1+1) 165 2 (.slice oa k oc) k cs)∧Hid (CsL 2 (ObQF (DevF (w.heap.size+1+1) (.slice oa k oc)) wr) cs acc)∧
        wr.heap[w.heap.size]?=some (.cells #[.int .i64 0,.int .i64 0,.slice none 0 0,.int .i64 0,.int .i64 0,.bool false,.int .i64 0,.slice none 0 0] 53)∧wr.heap[w.heap.size+1]?=some (.cells #[.int .i64 43,.int .i64 0,.slice none 0 0,.int .i64 z2,.int .i64 z3,.bool (z4==255),.int .i64 z5,.slice oa k oc] 53)∧Below w.heap.size w wr∧w.heap.size+1+1≤wr.heap.size∧
        Hid (decObs z6.toNat B7=(decObs (z6.toNat-k) rest).map fun p=>(acc++p.1,p.2))) (fun kv _ _=>z6.toNat- (intOf kv).toNat)
      case atStart=>exact⟨0,[],B7,R7,none,c-7,0,[],by omega,rfl,rfl,by omega,rfl,HR.out,World.ownsRow_nil _ _ _ _,hrows.out,gZ,gR,hbL,by omega,by show _=_;cases decObs z6.toNat B7<;>simp⟩
      case round=>
        clear gZ gR szL hbL hrows;obtain⟨k,acc,rest,ra,oa,rc,oc,cs,hk,rfl,rfl,hr253,hacc,hrb,hown,hcs,gZ,gR,hbw,hszr,HD⟩:=hrel;have hdo:=HD;by_cases hlt:(k:Int)<z6
        · obtain⟨m,hm⟩:∃m,z6.toNat-k=m+1:=⟨z6.toNat-k-1,by omega⟩
          by_cases hs2:rest.length<2
          · have HN:Hid (decDev b=none):=by
              show _=_;rw[HDD.out,hB7,HD.out,hm,decObs_short hs2];rfl
            clear HD hdo hm hrb;generalize rest.length=rn at*;go_wp2_with (refine bE rfl 53 (.tmp 2) (.tmp 55) rfl w.heap.size 0 _ _ (#[.int .i64 0,.int .i64 0,.slice none 0 0,.int .i64 0,.int .i64 0,.bool false,.int .i64 0,.slice none 0 0]) rfl rfl gZ (by simp) (by kernel_rfl) (by rfl) ?_;intro w4 g4 hk4 hz4);exact z12_1
          · obtain⟨rb,ro,rfl,y0c⟩:=hrb.out.byte (i:=0) (by omega)
            obtain⟨rb',ro',hra',y1c⟩:=hrb.out.byte (i:=1) (by omega);cases hra';have c0:∀W,Below w.heap.size w W→W.cell? ⟨rb,ro,none⟩=some (.int .u8 (bAt rest 0)):=fun W h=>bD h y0c
            have c1:∀W,Below w.heap.size w W→W.cell? ⟨rb,ro+1,none⟩=some (.int .u8 (bAt rest 1)):=fun W h=>bD h y1c
            obtain⟨b0,b0'⟩:=bAt_bd rest 0;obtain⟨q,hq⟩:=Int.eq_ofNat_of_zero_le (bAt_bd rest 1).1;have b1':=(bAt_bd rest 1).2;have hlong:=fun h=>decObs_long (m:=m) (rest:=rest) h
            have hstep:=fun h2 h=>decObs_step (m:=m) (rest:=rest) h2 hq h
            rw[hq] at c1 b1' hlong;clear y0c y1c;by_cases hs3:(rest.length:Int)<2+(q:Int)
            · have HN:Hid (decDev b=none):=by
                show _=_;rw[HDD.out,hB7,HD.out,hm,hlong hs3];rfl
              clear HD hdo hm hrb hlong hstep hq;generalize rest.length=rn at*;go_wp2_with (refine bE rfl 53 (.tmp 2) (.tmp 55) rfl w.heap.size 0 _ _ (#[.int .i64 0,.int .i64 0,.slice none 0 0,.int .i64 0,.int .i64 0,.bool false,.int .i64 0,.slice none 0 0]) rfl rfl gZ (by simp) (by kernel_rfl) (by rfl) ?_;intro w4 g4 hk4 hz4);exact z12_1
            · have hs4:2+q≤rest.length:=by omega
              obtain⟨-,hrnc,hrcm⟩:=hrb.out.capOf;unfold maxLen at hrcm;obtain⟨Y0,hY0⟩:∃x,cutA (some ⟨rb,ro,none⟩) rc 2=x:=⟨_,rfl⟩
              obtain⟨R2,hR2⟩:∃x,cutA (some ⟨rb,ro,none⟩) rc (2+q)=x:=⟨_,rfl⟩
              have HY:=bC (show Bs w (.slice Y0 q (rc-2)) ((rest.take (2+q)).drop 2) by
                rw[←hY0]
                have:=hrb.out.cut (i:=2) (k:=2+q) (by omega) hs4
                rwa [show 2+q-2=q by omega] at this)
              have HR2:=bC (show Bs w (.slice R2 (rest.length- (2+q)) (rc- (2+q))) (rest.drop (2+q)) by rw[←hR2];exact hrb.out.dropS hs4);have hcut:∀W,(Instr.slice 50 (.slice (some ⟨rb,ro,none⟩) rest.length rc) (some (.int .i64 2)) (some (.int .i64 (2+(q:Int)))) none).run Tryz.prog W=.ok (.slice Y0 q (rc-2)) W:=fun W=>by
                have h:=run_cut (P:=Tryz.prog) Tryz.underlying50 hi hz1 (some ⟨rb,ro,none⟩) rest.length rc 2 (2+q) (by omega) (by omega) W;rw[hY0,show 2+q-2=q by omega,show ((2+q:Nat):Int)=2+(q:Int) by omega] at h;exact h
              have hdrp:∀W,(Instr.slice 50 (.slice (some ⟨rb,ro,none⟩) rest.length rc) (some (.int .i64 (2+(q:Int)))) none none).run Tryz.prog W=.ok (.slice R2 (rest.length- (2+q)) (rc- (2+q))) W:=fun W=>by
                have h:=run_drop (P:=Tryz.prog) Tryz.underlying50 hi hz1 (some ⟨rb,ro,none⟩) rest.length rc (2+q) (by omega) W;rw[hR2,show ((2+q:Nat):Int)=2+(q:Int) by omega] at h;exact h
              obtain⟨Y,hYe⟩:∃Y,(rest.take (2+q)).drop 2=Y:=⟨_,rfl⟩
              have hYl:Y.length=q:=by rw[←hYe];simp;omega
              have HD2:Hid (decObs z6.toNat B7=(decObs (z6.toNat- (k+1)) (rest.drop (2+q))).map fun p=>(acc++[⟨bAt rest 0,Y⟩]++p.1,p.2)):=by
                show _=_;rw[HD.out,hm,hstep (by omega) hs4,hYe,show z6.toNat- (k+1)=m by omega,Option.map_map];congr 1
                funext p
                simp
              have hln2:=bC (show (rest.drop (2+q)).length=rest.length- (2+q) by simp);rw[hYe] at HY;have HCL:Hid (∀W,Below w.heap.size w W→Calls Tryz.prog 80 #[.slice Y0 q (rc-2)] W fun r w'=>∃v',r=.returned v'∧w'.ownsRow W.heap.size 5 1 v' q (u8s Y)∧Below W.heap.size W w'):=fun W hW=>by
                have h:=cL _ Y W (HY.out.keep hW) (by omega);rw[hYl] at h;exact h
              have HO:=bC hown.out;have HC:=bC hcs.out;have HYL:=bC hYl;obtain⟨iO,hiO,hzO0,hzO1,hzO2⟩:=info_parts infoOb;have d0:∀W,Below wr.heap.size wr W→W.cell? ⟨rb,ro,none⟩=some (.int .u8 (bAt rest 0)):=fun W h=>c0 W (bU hbw h)
              have d1:∀W,Below wr.heap.size wr W→W.cell? ⟨rb,ro+1,none⟩=some (.int .u8 (q:Int)):=fun W h=>c1 W (bU hbw h)
              have d7:∀W,Below wr.heap.size wr W→W.cell? ⟨w.heap.size+1,7,none⟩=some (.slice oa k oc):=fun W h=>bA (bB gR h) 7
              have k0:Below wr.heap.size wr wr:=Below.refl _ _;have kd:Below wr.heap.size wr wr.drew:=(Below.refl _ _).drew;have kA:∀W X,Below wr.heap.size wr W→Below wr.heap.size wr (W.alloc X):=fun W X h=>cJ h (Nat.le_refl _) X
              have uq:IntKind.i64.wrap (q:Int)=(q:Int):=IntWalk.i64_in _ (by omega);have uy:IntKind.i64.wrap (bAt rest 0)=bAt rest 0:=IntWalk.i64_in _ (by omega);have uk:IntKind.u8.wrap ((k:Int)+1)=(k:Int)+1:=by show ((k:Int)+1)%256=_;omega
              have hrn0:(0:Int)<(rest.length:Int):=by omega
              have hrn1:(1:Int)<(rest.length:Int):=by omega
              clear c0 c1 hlong hstep hm HD hdo hown hcs hY0 hR2 hYe hYl hrb hq;obtain⟨rn,hrn⟩:=gE rest.length;rw[hrn] at hcut hdrp HR2 hln2 hs2 hs3 hs4 hr253 hrn0 hrn1 hrnc ⊢;clear hrn;have hrnN:0<rn:=by omega
              generalize hy0:bAt rest 0=y0 at*;clear hy0;go_upto_region 12 with(fail)
              go_cut [73] from 61 to 74 (fun _ wc=>∃(a6:Option Addr) (c6:Nat) (cs6:List Value),Hid (wc.ownsRow (w.heap.size+1+1) 165 2 (.slice a6 (k+1) c6) (k+1) cs6)∧Hid (CsL 2 (ObQF (DevF (w.heap.size+1+1) (.slice a6 (k+1) c6)) wc) cs6 (acc++[⟨y0,Y⟩]))∧
                wc.heap[w.heap.size]?=some (.cells #[.int .i64 0,.int .i64 0,.slice none 0 0,.int .i64 0,.int .i64 0,.bool false,.int .i64 0,.slice none 0 0] 53)∧wc.heap[w.heap.size+1]?=some (.cells #[.int .i64 43,.int .i64 0,.slice none 0 0,.int .i64 z2,.int .i64 z3,.bool (z4==255),.int .i64 z5,.slice a6 (k+1) c6] 53)∧Below w.heap.size w wc∧w.heap.size+1+1≤wc.heap.size)
              case first=>
               go_region_law (first
                |(refine step_appN rfl (.tmp 62) (.tmp 72) 51 rfl (w.heap.size+1+1) 165 iO _ 2 32 Tryz.underlying51 hiO hzO0 hzO1 hzO2 rfl (by decide) (.slice oa k oc) k cs rfl HO5.out ⟨w5.heap.size,0,none⟩ 1 1 [.int .i64 y0,.slice a5 q c5] rfl rfl (newsNew w5 [.int .i64 y0,.slice a5 q c5] _) (by intro u hu;simp at hu;rcases hu with rfl|rfl<;>rfl) (by unfold maxLen;omega) (by omega) (by have:=hb5.size;simp;omega) ?_;intro v6 w6 hown6 hgr6 hnew6;obtain⟨a6,c6,rfl⟩:=bN hown6;have hS:=devStep (B:=w.heap.size+1+1) (y0:=y0) hszr HO.out HC.out hb5 HYL.out hown5 hgr6 hnew6;have e7:w6.cell? ⟨w.heap.size+1,7,none⟩=some (.slice oa k oc):=bA ((hS.2.2 (w.heap.size+1) (by omega)).trans gR) 7;have z7:w6.frozen? ⟨w.heap.size+1,7,none⟩=false:=bJ ((hS.2.2 (w.heap.size+1) (by omega)).trans gR) 7)
                |(go_wp2_with (go_at_call 80;refine(HCL.out _ (bU hbw kd)).mono ?_;rintro r w5 ⟨v5,rfl,hown5,hbel5⟩;obtain⟨a5,c5,rfl⟩:=bN hown5;have hb5:=bU kd hbel5;have HO5:=bC ((bF HO.out (Keeps.of_below (F:=fun _=>False) hb5) (fun _ _ f=>f)).alloc (.cells #[.int .i64 y0,.slice a5 q c5] 165)))))
               all_goals
                obtain⟨hS1,hS2,hS3⟩:=hS;have gZ6:(w6.setCell ⟨w.heap.size+1,7,none⟩ (.slice a6 (k+1) c6)).heap[w.heap.size]?=some (.cells #[.int .i64 0,.int .i64 0,.slice none 0 0,.int .i64 0,.int .i64 0,.bool false,.int .i64 0,.slice none 0 0] 53):=by
                  rw[cH (by omega),hS3 _ (by omega)];exact gZ
                have gR6:(w6.setCell ⟨w.heap.size+1,7,none⟩ (.slice a6 (k+1) c6)).heap[w.heap.size+1]?=some (.cells #[.int .i64 43,.int .i64 0,.slice none 0 0,.int .i64 z2,.int .i64 z3,.bool (z4==255),.int .i64 z5,.slice a6 (k+1) c6] 53):=by
                  rw[bX ((hS3 _ (by omega)).trans gR) 7 _];rfl
                have hk6:Keeps (· =w.heap.size+1) w6 (w6.setCell ⟨w.heap.size+1,7,none⟩ (.slice a6 (k+1) c6)):=(Keeps.refl _ _).set _ _ rfl;have hO7:=bC (bF hown6 hk6 (fun j hj e=>by have:=(hown6.lt j hj).1;omega));have hk7:Keeps (DevF (w.heap.size+1+1) (.slice a6 (k+1) c6)) w6 (w6.setCell ⟨w.heap.size+1,7,none⟩ (.slice a6 (k+1) c6)):=hk6.mono (fun j _ e=>.inr (by omega));have hC7:=bC (CsL.mono (fun r x h=>ObQF.keeps hk7 (fun _ _ h=>h) r x h) _ _ hS1);have hb6:Below w.heap.size wr w6:=⟨hS2.os,hS2.tape,hS2.output,hS2.size,fun i hi=>hS3 i (by omega)⟩
                have hb7:=(hbw.trans hb6).setCell (p:=⟨w.heap.size+1,7,none⟩) (by show w.heap.size≤w.heap.size+1;omega) (.slice a6 (k+1) c6);have hz7:w.heap.size+1+1≤(w6.setCell ⟨w.heap.size+1,7,none⟩ (.slice a6 (k+1) c6)).heap.size:=by
                  have:=hk6.size;have:=hS2.size;omega
                clear hS1 hS2 hS3 hb6 hk6 hk7 hown6 hgr6 hnew6;go_wp2;go_meet
                case rel=>exact⟨a6,c6,_,hO7.out,hC7.out,gZ6,gR6,hb7,hz7⟩
              case rest=>
                obtain⟨a6,c6,cs6,hO7,hC7,gZ6,gR6,hb7,hz7⟩:=hcut;have HL1:=bC (show (acc++[(⟨y0,Y⟩:Ob)]).length=k+1 by simp [hacc]);have GZ6:=bC gZ6;have GR6:=bC gR6;have HB7:=bC hb7;have HZ7:=bC hz7;clear gZ6 gR6 hb7 hz7;go_wp2;go_roundw
                case rel=>exact⟨u3,.slice R2 (rn- (2+q)) (rc- (2+q)),.int .i64 (2+(q:Int)),.int .u8 ((k+1:Nat):Int),⟨k+1,by omega,rfl,acc++[(⟨y0,Y⟩:Ob)],rest.drop (2+q),R2,a6,rc- (2+q),by rw[hln2.out],by rw[hln2.out];omega,HL1.out,by rw[hln2.out];exact HR2.out,c6,cs6,hO7.out,hC7.out,GZ6.out,GR6.out,HB7.out,HZ7.out,HD2.out⟩,rfl,rfl,rfl,by go_num⟩
                case measure=>simp [intOf];omega
        · have hkz:(k:Int)=z6:=by omega
          have hD0:decDev b=devTail b (some (acc,rest)):=by
            rw[HDD.out,hB7,HD.out,show z6.toNat-k=0 by omega];simp [decObs]
          clear HD hdo HDD;subst hkz;by_cases hr0:rest.length=0
          · obtain rfl:rest=[]:=List.eq_nil_of_length_eq_zero hr0
            subst hacc;have hx:=HOKB.out acc;rw[HTL.out] at hD0;simp only[hx] at hD0;obtain⟨V,hV⟩:∃V,Rp.ok ⟨43,0,[],z2,z3,z4==255,z5,acc⟩=V:=⟨_,rfl⟩
            rw[hV] at hD0;have hobs:Obs wr (.slice oa acc.length oc) acc:=Obs.of_csl hown.out (CsL.mono (fun r x h=>h.q) _ _ hcs.out) rfl;have HV:Hid (Calls Tryz.prog 197 #[.agg #[.int .i64 43,.int .i64 0,.slice none 0 0,.int .i64 z2,.int .i64 z3,.bool (z4==255),.int .i64 z5,.slice oa acc.length oc]] wr fun r w'=>r=.returned (.bool V)∧Below wr.heap.size wr w'):=by
              have h:=rvalid_any 43 0 (.slice none 0 0) z2 z3 (z4==255) z5 (.slice oa acc.length oc) [] acc wr (Bs.nil _) hobs (by omega) (by omega);rw[hV] at h;exact h
            have d4:∀W,Below wr.heap.size wr W→W.cell? ⟨blk,off+4,none⟩=some (.int .u8 z4):=fun W h=>q4 W (bU hbw h)
            have r0:∀W,Below wr.heap.size wr W→W.cell? ⟨w.heap.size+1,0,none⟩=some (.int .i64 43):=fun W h=>bA (bB gR h) 0
            have r1:∀W,Below wr.heap.size wr W→W.cell? ⟨w.heap.size+1,1,none⟩=some (.int .i64 0):=fun W h=>bA (bB gR h) 1
            have r2:∀W,Below wr.heap.size wr W→W.cell? ⟨w.heap.size+1,2,none⟩=some (.slice none 0 0):=fun W h=>bA (bB gR h) 2
            have r3:∀W,Below wr.heap.size wr W→W.cell? ⟨w.heap.size+1,3,none⟩=some (.int .i64 z2):=fun W h=>bA (bB gR h) 3
            have r4:∀W,Below wr.heap.size wr W→W.cell? ⟨w.heap.size+1,4,none⟩=some (.int .i64 z3):=fun W h=>bA (bB gR h) 4
            have r5:∀W,Below wr.heap.size wr W→W.cell? ⟨w.heap.size+1,5,none⟩=some (.bool (z4==255)):=fun W h=>bA (bB gR h) 5
            have r6:∀W,Below wr.heap.size wr W→W.cell? ⟨w.heap.size+1,6,none⟩=some (.int .i64 z5):=fun W h=>bA (bB gR h) 6
            have r7:∀W,Below wr.heap.size wr W→W.cell? ⟨w.heap.size+1,7,none⟩=some (.slice oa acc.length oc):=fun W h=>bA (bB gR h) 7
            have k0:Below wr.heap.size wr wr:=Below.refl _ _;have HO:=bC hown.out;have HC:=bC hcs.out;have GZ:=bC gZ;have GR:=bC gR;clear q0 q2 q3 q4 q5 q6 hown hcs hobs hx hV gZ gR hrb hlt;cases V with
            |false=>
              have HN:Hid (decDev b=none):=by show _=_;rw[hD0,if_neg (by simp)]
              clear hD0;exact z12_2
            |true=>
              by_cases hz:z4=0∨z4=255
              · have HS:Hid (decDev b=some ⟨43,0,[],z2,z3,z4==255,z5,acc⟩):=by show _=_;rw[hD0,if_pos ⟨rfl,hz⟩]
                clear hD0;rcases hz with rfl|rfl
                all_goals
                  go_wp2_with fail;refine HV.out.mono ?_;rintro r w5 ⟨rfl,hb5⟩;have gZ5:=bB GZ.out hb5;have hbw5:=bU hbw hb5
                  first
                    | (go_wp2_with (refine bE rfl 53 (.tmp 2) (.tmp 100) rfl w.heap.size 0 _ _ (#[.int .i64 43,.int .i64 0,.slice none 0 0,.int .i64 z2,.int .i64 z3,.bool false,.int .i64 z5,.slice oa acc.length oc]) rfl rfl gZ5 (by simp) (by kernel_rfl) (by rfl) ?_;intro w4 g4 hk4 hz4)
                       obtain⟨q0,q1,q2,q3,q4,q5,q6,q7⟩:w4.cell? ⟨w.heap.size,0,none⟩=some (.int .i64 43)∧w4.cell? ⟨w.heap.size,1,none⟩=some (.int .i64 0)∧w4.cell? ⟨w.heap.size,2,none⟩=some (.slice none 0 0)∧w4.cell? ⟨w.heap.size,3,none⟩=some (.int .i64 z2)∧w4.cell? ⟨w.heap.size,4,none⟩=some (.int .i64 z3)∧w4.cell? ⟨w.heap.size,5,none⟩=some (.bool false)∧w4.cell? ⟨w.heap.size,6,none⟩=some (.int .i64 z5)∧w4.cell? ⟨w.heap.size,7,none⟩=some (.slice oa acc.length oc):=⟨bA g4 0,bA g4 1,bA g4 2,bA g4 3,bA g4 4,bA g4 5,bA g4 6,bA g4 7⟩
                       refine bodyPost_ret (v:=.tuple #[.agg #[.int .i64 43,.int .i64 0,.slice none 0 0,.int .i64 z2,.int .i64 z3,.bool false,.int .i64 z5,.slice oa acc.length oc],.int .i64 0]) (by simp [results,Tryz.results196,go_sem,q0,q1,q2,q3,q4,q5,q6,q7]) rfl ?_)
                    | (go_wp2_with (refine bE rfl 53 (.tmp 2) (.tmp 100) rfl w.heap.size 0 _ _ (#[.int .i64 43,.int .i64 0,.slice none 0 0,.int .i64 z2,.int .i64 z3,.bool true,.int .i64 z5,.slice oa acc.length oc]) rfl rfl gZ5 (by simp) (by kernel_rfl) (by rfl) ?_;intro w4 g4 hk4 hz4)
                       obtain⟨q0,q1,q2,q3,q4,q5,q6,q7⟩:w4.cell? ⟨w.heap.size,0,none⟩=some (.int .i64 43)∧w4.cell? ⟨w.heap.size,1,none⟩=some (.int .i64 0)∧w4.cell? ⟨w.heap.size,2,none⟩=some (.slice none 0 0)∧w4.cell? ⟨w.heap.size,3,none⟩=some (.int .i64 z2)∧w4.cell? ⟨w.heap.size,4,none⟩=some (.int .i64 z3)∧w4.cell? ⟨w.heap.size,5,none⟩=some (.bool true)∧w4.cell? ⟨w.heap.size,6,none⟩=some (.int .i64 z5)∧w4.cell? ⟨w.heap.size,7,none⟩=some (.slice oa acc.length oc):=⟨bA g4 0,bA g4 1,bA g4 2,bA g4 3,bA g4 4,bA g4 5,bA g4 6,bA g4 7⟩
                       refine bodyPost_ret (v:=.tuple #[.agg #[.int .i64 43,.int .i64 0,.slice none 0 0,.int .i64 z2,.int .i64 z3,.bool true,.int .i64 z5,.slice oa acc.length oc],.int .i64 0]) (by simp [results,Tryz.results196,go_sem,q0,q1,q2,q3,q4,q5,q6,q7]) rfl ?_)
                  have hk5:Keeps (DevF (w.heap.size+1+1) (.slice oa acc.length oc)) wr w4:=(Keeps.of_below hb5).trans (hk4.mono (G:=DevF (w.heap.size+1+1) (.slice oa acc.length oc)) (fun j _ e=>.inr (by omega))) (fun _ _ h=>h);have hk6:Keeps (fun j=>j=w.heap.size) wr w4:=(Keeps.of_below hb5).trans hk4 (fun _ _ h=>h);have hobs:∀W,Agree w.heap.size w4 W→Obs W (.slice oa acc.length oc) acc:=fun W hW=>Obs.of_csl (own_agree (B:=w.heap.size) (bF HO.out hk6 (fun j hj e=>by have:=(HO.out.lt j hj).1;omega)) (by omega) hW) (CsL.mono (fun r x h=>ObQF.agree (B:=w.heap.size) (by omega) hW r x (ObQF.keeps hk5 (fun _ _ h=>h) r x h)) _ _ HC.out) rfl
                  exact DecPost.is (oa:=oa) (oc:=oc) (da:=none) (dc:=0) HS.out (fun W hW=>⟨Bs.nil _,hobs W hW,by show z3≤_;omega,by show _≤z3;omega⟩) (hbw5.trans (hk4.below hbw5.size (fun k hk e=>by omega)))
              · have HN:Hid (decDev b=none):=by show _=_;rw[hD0,if_neg (fun h=>hz h.2)]
                clear hD0;have hz1:(z4==255)=false:=by rw[beq_eq_false_iff_ne];omega
                have hz0:(z4 !=0)=true:=by rw[bne_iff_ne];omega
                clear hz;rw[hz1] at HV r5;exact z12_2
          · have HN:Hid (decDev b=none):=by
              show _=_;rw[hD0];cases rest with
              |nil=>exact absurd rfl hr0
              |cons _ _=>rfl
            clear hD0 hrb;generalize rest.length=rn at*;have hrn:0<rn:=by omega
            go_wp2_with (refine bE rfl 53 (.tmp 2) (.tmp 83) rfl w.heap.size 0 _ _ (#[.int .i64 0,.int .i64 0,.slice none 0 0,.int .i64 0,.int .i64 0,.bool false,.int .i64 0,.slice none 0 0]) rfl rfl gZ (by simp) (by kernel_rfl) (by rfl) ?_;intro w4 g4 hk4 hz4);exact z12_1
    · have HD:=bC (decDev_kind h14)
      have c1':w.cell? ⟨blk,off+1,none⟩=some (.int .u8 (bAt b 1)):=c1;have h14':(bAt b 1 !=14)=true:=by rw[bne_iff_ne];exact h14
      clear hb hbn c1;have c1a:=bD (bH w (.cells #[.int .i64 0,.int .i64 0,.slice none 0 0,.int .i64 0,.int .i64 0,.bool false,.int .i64 0,.slice none 0 0] 53)) c1';generalize bAt b 1=k1 at*;go_enter Tryz.func196,Tryz.ntmps196;go_wp2;refine bodyPost_ret (v:=.tuple #[.agg #[.int .i64 0,.int .i64 0,.slice none 0 0,.int .i64 0,.int .i64 0,.bool false,.int .i64 0,.slice none 0 0],.int .i64 6]) (by simp [results,Tryz.results196,go_sem]) rfl ?_;exact DecPost.err HD.out 6 (by decide) (by decide) (bH w _)
end Go.Proofs.YtoaoejaodhedaaaGreat
