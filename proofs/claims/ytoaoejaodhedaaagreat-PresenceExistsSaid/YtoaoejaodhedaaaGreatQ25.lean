import Derived.Test.YtoaoejaodhedaaaGreatQ24
namespace Go.Proofs.YtoaoejaodhedaaaGreat
open Go.RowKit
set_option maxHeartbeats 12800000
set_option maxRecDepth 100000
theorem infoEvW:(Tryz.prog.info? 132).map (·.size)=some 3:=by kernel_rfl
theorem infoChW:(Tryz.prog.info? 174).map (·.size)=some 4:=by kernel_rfl
theorem z24_1 {p:Prop} (h:p:=by
 go_enter Tryz.func59,Tryz.ntmps59
 go_upto_region 1 with(fail)
 rw[HW1.out]
 go_wp2_with (refine bE rfl 132 (.tmp 4) (.tmp 29) rfl w.heap.size 0 _ 132 #[.int .i64 0,.int .u8 0,.int .i64 0] rfl rfl pZ (by simp) infoEvW rfl ?_;intro w8 g8 hk8 hz8)
 have g9:w8.heap[w.heap.size]?=some (.cells #[.int .i64 0,.int .u8 0,.int .i64 0] 132):=g8
 refine bodyPost_ret (bV rfl _ _ w.heap.size 132 _ (0,0) _ rfl g9 Tryz.underlying132 rfl infoEvW) rfl ?_
 exact⟨rfl,HB1.out.trans (hk8.below HB1.out.size (fun j hj e=>by omega))⟩):p:=h
theorem next_none {P:Nat→Prop} {w:World} {g:Nat} {sv av:Value} {lp:Bool} {s:Ln} (h:LnAt P w g sv av lp s) (limit:Int) (hd:s.due limit=false):Calls Tryz.prog 59 #[.pointer (some ⟨g,0,none⟩),.int .i64 limit] w fun r w'=>r=.returned (.tuple #[.agg #[.int .i64 0,.int .u8 0,.int .i64 0],.bool false])∧Below w.heap.size w w':=by
 obtain⟨tv,pv,cs,h⟩:=h;obtain⟨W1,hW1⟩:∃W,w.alloc (.cells #[.int .i64 0,.int .u8 0,.int .i64 0] 132)=W:=⟨_,rfl⟩
 have hb1:Below w.heap.size w W1:=by rw[←hW1];exact bH w _
 have c5:W1.cell? ⟨g,5,none⟩=some pv:=bA (bB h.at_ hb1) 5;have pZ:W1.heap[w.heap.size]?=some (.cells #[.int .i64 0,.int .u8 0,.int .i64 0] 132):=by rw[←hW1];exact bI w _
 have HW1:=bC hW1;have HB1:=bC hb1;cases hp:s.pend with
 |nil=>
  obtain⟨pa,pc,e,-⟩:=h.pn.len;rw[hp] at e;subst e;replace c5:W1.cell? ⟨g,5,none⟩=some (.slice pa 0 pc):=c5;clear h hW1 hb1 hd hp;exact z24_1
 |cons x r=>
  have hx:decide (limit<x.at_)=true:=by
   unfold Ln.due at hd;rw[hp] at hd;dsimp only at hd;have:=of_decide_eq_false hd;exact decide_eq_true (by omega)
  have hpn:=h.pn;rw[hp] at hpn;rcases hpn with⟨_,e⟩|⟨pg,po,pc,N,rfl,hat,h3,h4,h5,h6⟩
  ·cases e
  ·have y0:W1.cell? ⟨pg,po,none⟩=some (.int .i64 x.at_):=bD hb1 (hat.cell (j:=0) rfl)
   obtain⟨n,hn⟩:∃n,(x::r).length=n:=⟨_,rfl⟩
   have hn0:0<n:=by rw[←hn];exact Nat.succ_pos _
   have hn1:(0:Int)<(n:Int):=by omega
   have hn2:¬n=0:=by omega
   have hn3:((n:Int)==0)=false:=b0 (by omega);rw[hn] at c5;clear h hW1 hb1 hd hp hat h3 h4 h5 h6 hn;exact z24_1
theorem run_dropPnW {P:Nat→Prop} {w:World} {v:Value} {x:Ch} {l:List Ch} (h:PnR P w v (x::l)):
  ∃v',(∀W,(Instr.slice 123 v (some (.int .i64 1)) none none).run Tryz.prog W=.ok v' W)∧PnR P w v' l:=by
 rcases h with⟨_,e⟩|⟨g,o,c,N,rfl,hat,h3,h4,h5,h6⟩
 ·cases e
 ·obtain ⟨i,hi,hz0,hz1,hz2⟩:=info_parts infoCh
  have hle:=hat.le;rw[List.length_cons] at h3 hle;have h2:¬((l.length:Int)+1<1):=by omega
  obtain⟨cc,hc,hcs,hcr⟩:=hat.h;by_cases hc1:c=1
  ·subst hc1
   have hl0:l=[]:=List.eq_nil_of_length_eq_zero (by omega);subst hl0;refine⟨.slice (some ⟨g,o,none⟩) 0 0,fun W=>?_,.inr ⟨g,o,0,N,rfl,⟨⟨cc,hc,hcs,fun j u hj=>by cases hj⟩,by show o+0*4≤N;omega⟩,Nat.le_refl _,Nat.zero_le _,by omega,h6⟩⟩;simp [Instr.slice,Instr.sliceBounds,Instr.sliceBound,run_underlying Tryz.underlying123,asIntOf,sizeOf,typeInfo,hi]
  ·refine ⟨.slice (some ⟨g,o+4,none⟩) l.length (c-1),fun W=>?_,.inr ⟨g,o+4,c-1,N,rfl,⟨⟨cc,hc,hcs,fun j u hj=>?_⟩,by omega⟩,by omega,by omega,by omega,h6⟩⟩
   ·simp [Instr.slice,Instr.sliceBounds,Instr.sliceBound,run_underlying Tryz.underlying123,asIntOf,sizeOf,typeInfo,hi,hz1,Addr.add,hc1,h2]
   ·have:=hcr (4+j) u (by
     show (chC x++chV l)[4+j]?=some u
     rw[List.getElem?_append_right (show 4≤4+j by omega),show 4+j- (chC x).length=j by show 4+j-4=j;omega]
     exact hj)
    rw[←Nat.add_assoc] at this;exact this
theorem next_some {P:Nat→Prop} {w:World} {g:Nat} {sv av:Value} {lp:Bool} {s:Ln} (h:LnAt P w g sv av lp s) (hok:s.ok) (x:Ch) (r:List Ch) (hp:s.pend=x::r) (limit:Int) (hx:x.at_≤limit):
  Calls Tryz.prog 59 #[.pointer (some ⟨g,0,none⟩),.int .i64 limit] w fun e w'=>e=.returned (.tuple #[.agg #[.int .i64 x.at_,.int .u8 x.val,.int .i64 (s.ev x).fl],.bool true])∧LnAt (GrowP P w w') w' g sv av lp (s.next x r)∧Keeps P w w':=by
 obtain⟨tv,pv,cs,h⟩:=h;obtain⟨W1,hW1⟩:∃W,w.alloc (.cells #[.int .i64 0,.int .u8 0,.int .i64 0] 132)=W:=⟨_,rfl⟩
 have hb1:Below w.heap.size w W1:=by rw[←hW1];exact bH w _
 have hz1:W1.heap.size=w.heap.size+1:=by rw[←hW1];simp
 have pZ:W1.heap[w.heap.size]?=some (.cells #[.int .i64 0,.int .u8 0,.int .i64 0] 132):=by rw[←hW1];exact bI w _
 have hxk:=hok.ch x (by rw[hp];exact List.mem_cons_self);have hpn:=h.pn.own';rw[hp] at hpn;obtain⟨v',hdrop,hpn'⟩:=run_dropPnW hpn;obtain⟨pa',pc',e',-⟩:=hpn'.len;subst e';have hpe:=h.pn;rw[hp] at hpe;rcases hpe with⟨_,e⟩|⟨pg,po,pc,N,rfl,hat,-⟩
 ·cases e
 obtain⟨n,hn⟩:∃n,(x::r).length=n:=⟨_,rfl⟩
 obtain⟨m,hm⟩:=gE r.length;have hn0:0<n:=by rw[←hn];exact Nat.succ_pos _
 have hn1:(0:Int)<(n:Int):=by omega
 have hn2:¬n=0:=by omega
 have hn3:((n:Int)==0)=false:=b0 (by omega);have hat_:=h.at_;rw[hn] at hat_ hdrop;rw[hm] at hdrop hpn';have HH:=bC h;have hl1:decide (limit<x.at_)=false:=decide_eq_false (by omega);obtain⟨XC,hXC⟩:∃C:Array Value,(#[.int .i64 x.at_,.int .u8 x.val,.int .i64 x.fl,.int .i64 x.du]:Array Value)=C:=⟨_,rfl⟩
 have hxi:(Tryz.prog.info? 174).map (·.size)=some XC.size:=by rw[←hXC];exact infoChW
 have hxs:XC.size=4:=by rw[←hXC];rfl
 have hx1:XC.toList.all (·.oneCell')=true:=by rw[←hXC];rfl
 have hrow:∀X,Below W1.heap.size W1 X→∀j u,XC.toList[j]?=some u→X.cell? ((⟨pg,po,none⟩:Addr).add j)=some u:=fun X hX j u hj=>by
  rw[Addr.add_lit];rw[←hXC] at hj;exact bD hX (bD hb1 (hat.cell (j:=j) (by
   show (chC x++chV r)[j]?=some u
   rw[List.getElem?_append_left (show j<(chC x).length from (List.getElem?_eq_some_iff.1 hj).1)]
   exact hj)))
 have y0:W1.cell? ⟨pg,po,none⟩=some (.int .i64 x.at_):=bD hb1 (hat.cell (j:=0) rfl);have c5:W1.cell? ⟨g,5,none⟩=some (.slice (some ⟨pg,po,none⟩) n pc):=bA (bB hat_ hb1) 5;have f5:∀X,Below W1.heap.size W1 X→X.frozen? ⟨g,5,none⟩=false:=fun X hX=>bJ (bB (bB hat_ hb1) hX) 5
 have c5':∀X,Below W1.heap.size W1 X→X.cell? ⟨g,5,none⟩=some (.slice (some ⟨pg,po,none⟩) n pc):=fun X hX=>bA (bB (bB hat_ hb1) hX) 5
 have HROW:=bC (hrow W1 (Below.refl _ _));have HAT:=bC hat_;have HB1:=bC hb1;have HW1:=bC hW1;have HZ1:=bC hz1;have HPZ:=bC pZ;have HPN:=bC hpn';have HXK:=bC hxk;have HOK:=bC hok;have HXC:=bC hXC;have HP:=bC hp;have HMN:=bC (And.intro hn hm);clear h hok hat hpn hpn' hrow hat_ hb1 hW1 hz1 pZ hp hxk hXC hn hm hx;go_enter Tryz.func59,Tryz.ntmps59;go_upto_region 1 with(fail)
 rw[HW1.out];go_upto_region 4 with(first
  |(refine cC rfl 174 (.tmp 34) rfl ⟨pg,po,none⟩ rfl XC _ HROW.out Tryz.underlying174 rfl hxi ?_)
  |(refine bE rfl 174 (.tmp 6) (.tmp 35) rfl W1.heap.size 0 _ 174 XC rfl rfl (bI W1 _) (by simp [hxs]) hxi hx1 ?_;intro w3 g3 hk3 hz3;obtain⟨p3,hb3⟩:=var_new (by rw[hxs];rfl) g3 hk3;have c5x:=c5' _ hb3;have f5x:=f5 _ hb3))
 dsimp only[Act.put];go_upto_region 5 with(fail)
 obtain⟨W4,hW4⟩:∃W,w3.setCell ⟨g,5,none⟩ (.slice pa' m pc')=W:=⟨_,rfl⟩
 obtain⟨cb,hcb⟩:=gE W1.heap.size;rw[hcb] at p3;rw[hW4,hcb];have hg3:=bB (bB HAT.out HB1.out) hb3;have hgl:g<w.heap.size:=cI HAT.out;have hgc:¬cb=g:=by have:=HZ1.out;omega
 have hk34:Keeps (· =g) w3 W4:=by rw[←hW4];exact ks1 (Keeps.refl (· =g) w3) 5 _
 have pG4:W4.heap[g]?=some (.cells (LnC sv av lp (.slice none 0 0) tv (.slice pa' m pc') s.free s.heard s.last) 125):=by rw[←hW4];exact bX hg3 5 _
 have pC4:W4.heap[cb]?=some (.cells #[.int .i64 x.at_,.int .u8 x.val,.int .i64 0,.int .i64 x.du] 174):=by
  have:=bG p3 hk34 hgc;rw[←HXC.out,HXK.out.fl] at this;exact this
 have hw3:=bU HB1.out hb3;have HK4:Hid (Keeps (· =g) w W4):=(Keeps.of_below (F:=(· =g)) hw3).trans hk34 (fun _ _ e=>e);have HE4:Hid (W4.heap[w.heap.size]?=some (.cells #[.int .i64 0,.int .u8 0,.int .i64 0] 132)):=bG (bB HPZ.out hb3) hk34 (fun e=>by have e':w.heap.size=g:=e;omega);have HCB:Hid (w.heap.size<cb∧cb<W4.heap.size∧w.heap.size+1=cb):=by
  have:=HZ1.out;have:=cI pC4;show _∧_∧_;omega
 have HGC:=bC hgc;have HG4:=bC pG4;have HC4:=bC pC4;clear hW4 hcb p3 hg3 hk34 pG4 pC4 hw3 c5x f5x hb3 y0 c5 c5' f5 hdrop hgc hgl;obtain⟨fl,hfl⟩:=gE ((s.ev x).fl);obtain⟨xat,hxat⟩:=gE x.at_;obtain⟨hd,hhd⟩:=gE s.heard;obtain⟨lst,hlst⟩:=gE s.last;obtain⟨du,hdu⟩:=gE x.du;obtain⟨fre,hfre⟩:=gE s.free;obtain⟨z,hz⟩:∃y,lst+du=y:=⟨_,rfl⟩
 have hflE:fl=if hd=true∧xat<z then 2 else 0:=by rw[←hfl,←hz,←hhd,←hxat,←hlst,←hdu];rfl
 obtain⟨B,hB⟩:∃B:Bool,(B=true↔hd=true∧xat<z):=cN;obtain⟨u0,u1⟩:96≤du∧du≤9167:=by rw[←hdu];exact⟨HXK.out.d0,HXK.out.d1⟩
 obtain⟨u2,u3⟩:0≤lst∧lst≤topT+33554432:=by rw[←hlst];exact⟨HOK.out.l0,HOK.out.l1⟩
 have etop:topT=1152921504606846976:=rfl;rw[etop] at u3;have v1:IntKind.i64.wrap (lst+du)=z:=(IntWalk.i64_in _ (by omega)).trans hz;rw[hfre,hhd,hlst] at HG4;rw[hxat,hdu] at HC4;rw[hxat];have h7:W4.cell? ⟨g,7,none⟩=some (.bool hd):=bA HG4.out 7;have h8:W4.cell? ⟨g,8,none⟩=some (.int .i64 lst):=bA HG4.out 8;have e0:W4.cell? ⟨cb,0,none⟩=some (.int .i64 xat):=bA HC4.out 0;have e3:W4.cell? ⟨cb,3,none⟩=some (.int .i64 du):=bA HC4.out 3;have HBB:=bC hB;have HFL:=bC hflE;have HEQ:=bC (And.intro hfl (And.intro hxat (And.intro hhd (And.intro hlst (And.intro hdu hfre)))));clear hB hflE hfl hxat hhd hlst hdu hfre hz u0 u1 u2 u3 etop;go_cut [60] from 44 to 60 (fun s60 wc=>s60=.bool B∧Below W4.heap.size W4 wc)
 case first=>
  cases hd with
  |false=>
   have HTE:Hid (B=false):=by cases B with
    |false=>rfl
    |true=>exact absurd (HBB.out.1 rfl).1 Bool.noConfusion
   clear HBB HFL HEQ;go_quiet (fail);go_wp2;go_meet
   case rel=>exact⟨by rw[HTE.out],below_drewN (Below.refl _ _) _⟩
  |true=>
   by_cases hlt:xat<z
   ·have HTE:Hid (B=true):=HBB.out.2 ⟨rfl,hlt⟩
    have g1:decide (xat<z)=true:=decide_eq_true hlt;clear HBB HFL HEQ hlt;go_quiet (fail);go_wp2;go_meet
    case rel=>exact⟨by rw[HTE.out],below_drewN (Below.refl _ _) _⟩
   ·have HTE:Hid (B=false):=by cases B with
     |false=>rfl
     |true=>exact absurd (HBB.out.1 rfl).2 hlt
    have g1:decide (xat<z)=false:=decide_eq_false hlt;clear HBB HFL HEQ hlt;go_quiet (fail);go_wp2;go_meet
    case rel=>exact⟨by rw[HTE.out],below_drewN (Below.refl _ _) _⟩
 case rest=>
 obtain⟨rfl,hbc⟩:=hcut;have e2:wc.cell? ⟨cb,2,none⟩=some (.int .i64 0):=bA (bB HC4.out hbc) 2;have f2:wc.frozen? ⟨cb,2,none⟩=false:=bJ (bB HC4.out hbc) 2;have o1:bits .or .i64 0 2=2:=by decide
 have HBC:=bC hbc;clear h7 h8 e0 e3 v1 hbc;go_upto_if 60 with(fail)
 go_cut [] from 60 to 66 (fun wd=>Hid (wd.heap[cb]?=some (.cells #[.int .i64 xat,.int .u8 x.val,.int .i64 fl,.int .i64 du] 174)∧Keeps (· =cb) W4 wd))
 case first=>
  cases B with
  |false=>
   have HE:Hid (fl=0):=by show _=_;rw[HFL.out,if_neg (fun h=>by have:=HBB.out.2 h;cases this)]
   clear HBB HFL;go_wp2;go_meet
   case rel=>rw[HE.out];exact⟨bB HC4.out HBC.out,Keeps.of_below HBC.out⟩
  |true=>
   have HE:Hid (fl=2):=by show _=_;rw[HFL.out,if_pos (HBB.out.1 rfl)]
   clear HBB HFL;go_wp2;go_meet
   case rel=>rw[HE.out];exact⟨bX (bB HC4.out HBC.out) 2 _,(Keeps.of_below (F:=(· =cb)) HBC.out).trans (ks1 (Keeps.refl (· =cb) wc) 2 _) (fun _ _ e=>e)⟩
 case rest=>
 have HMD:=hcut;clear e2 f2 o1 HBC HBB;have HGD:=bC (bG HG4.out HMD.out.2 (fun e=>HGC.out e.symm));have h7:wc.cell? ⟨g,7,none⟩=some (.bool hd):=bA HGD.out 7;have h8:wc.cell? ⟨g,8,none⟩=some (.int .i64 lst):=bA HGD.out 8;have q7:wc.frozen? ⟨g,7,none⟩=false:=bJ HGD.out 7;have q8:wc.frozen? ⟨g,8,none⟩=false:=bJ HGD.out 8;have e0:wc.cell? ⟨cb,0,none⟩=some (.int .i64 xat):=bA HMD.out.1 0;go_upto_region 7 with(fail)
 go_region;obtain⟨W7,hW7⟩:∃W,((wc.setCell ⟨g,7,none⟩ (.bool true)).setCell ⟨g,8,none⟩ (.int .i64 xat)).drew=W:=⟨_,rfl⟩
 have hk7:Keeps (· =g) wc W7:=by rw[←hW7];exact(ks1 (ks1 (Keeps.refl (· =g) wc) 7 _) 8 _).trans (Keeps.of_below (F:=(· =g)) (Below.refl _ _).drew) (fun _ _ e=>e)
 have pG7:W7.heap[g]?=some (.cells (LnC sv av lp (.slice none 0 0) tv (.slice pa' m pc') fre true xat) 125):=by rw[←hW7];exact bX (bX HGD.out 7 _) 8 _
 have pC7:=bG HMD.out.1 hk7 HGC.out;rw[hW7];have HK7:=bC hk7;have HG7:=bC pG7;have HC7:=bC pC7;have r6:W7.cell? ⟨g,6,none⟩=some (.int .i64 fre):=bA pG7 6;have r8:W7.cell? ⟨g,8,none⟩=some (.int .i64 xat):=bA pG7 8;have w6:W7.frozen? ⟨g,6,none⟩=false:=bJ pG7 6;obtain⟨mx,hmx⟩:=gE (max fre xat);have m1:(if fre<xat then xat else fre)=mx:=by rw[←hmx];omega
 have HMX:=bC hmx;clear hk7 pG7 pC7 hW7 h7 h8 q7 q8 e0 hmx;go_upto_region 8 with(fail)
 go_region;obtain⟨W8,hW8⟩:∃W,(W7.setCell ⟨g,6,none⟩ (.int .i64 mx)).drew=W:=⟨_,rfl⟩
 have hk8:Keeps (· =g) W7 W8:=by rw[←hW8];exact(ks1 (Keeps.refl (· =g) W7) 6 _).trans (Keeps.of_below (F:=(· =g)) (Below.refl _ _).drew) (fun _ _ e=>e)
 have pG8:W8.heap[g]?=some (.cells (LnC sv av lp (.slice none 0 0) tv (.slice pa' m pc') mx true xat) 125):=by rw[←hW8];exact bX HG7.out 6 _
 have pC8:=bG HC7.out hk8 HGC.out;have hgl:g<w.heap.size:=cI HAT.out;have hcbl:=HCB.out;have pE8:W8.heap[w.heap.size]?=some (.cells #[.int .i64 0,.int .u8 0,.int .i64 0] 132):=bG (bG (bG HE4.out HMD.out.2 (fun e=>by have e':w.heap.size=cb:=e;omega)) HK7.out (fun e=>by have e':w.heap.size=g:=e;omega)) hk8 (fun e=>by have e':w.heap.size=g:=e;omega);have hrow8:∀j u,(#[.int .i64 xat,.int .u8 x.val,.int .i64 fl]:Array Value).toList[j]?=some u→W8.cell? ((⟨cb,0,none⟩:Addr).add j)=some u:=fun j u hj=>by
  rw[Addr.add_lit,Nat.zero_add,bA pC8];rcases j with _|_|_|j
  ·exact hj
  ·exact hj
  ·exact hj
  ·cases hj
 rw[hW8];have HK8:=bC hk8;have HG8:=bC pG8;clear hW8 hk8 pG8 pC8 r6 r8 w6 m1;go_wp2_with (first
  |(refine cC rfl 132 (.tmp 88) rfl ⟨cb,0,none⟩ rfl #[.int .i64 xat,.int .u8 x.val,.int .i64 fl] _ hrow8 Tryz.underlying132 rfl infoEvW ?_)
  |(refine bE rfl 132 (.tmp 4) (.tmp 89) rfl w.heap.size 0 _ 132 #[.int .i64 xat,.int .u8 x.val,.int .i64 fl] rfl rfl pE8 (by simp) infoEvW rfl ?_;intro w9 g9 hk9 hz9))
 have p9:w9.heap[w.heap.size]?=some (.cells #[.int .i64 xat,.int .u8 x.val,.int .i64 fl] 132):=g9;refine bodyPost_ret (bV rfl _ _ w.heap.size 132 _ (0,0) _ rfl p9 Tryz.underlying132 rfl infoEvW) rfl ?_;obtain⟨q1,q2,q3,q4,q5,q6⟩:=HEQ.out;obtain⟨n1,n2⟩:=HMN.out;have hpg:=(HH.out.pn.blk pg rfl)
 have h49:Keeps (fun j=>j=g∨w.heap.size≤j) W4 w9:=(((HMD.out.2.mono (fun j _ e=>.inr (by omega))).trans (HK7.out.mono (fun j _ e=>.inl e)) (fun _ _ e=>e)).trans (HK8.out.mono (fun j _ e=>.inl e)) (fun _ _ e=>e)).trans (hk9.mono (fun j _ e=>.inr (by omega))) (fun _ _ e=>e);have hkg:Keeps (· =g) w w9:=HK4.out.trans h49 (fun j hj e=>by
  rcases e with e|e
  ·exact e
  ·omega)
 obtain⟨a1,a2⟩:=HH.out.chg (s':=s.next x r) (pv':=.slice pa' m pc') (hkg.mono (fun j _ e=>.inl e)) (by
  have h9:=bG HG8.out hk9 (fun e=>by have e':g=w.heap.size:=e;omega)
  show w9.heap[g]?=some (.cells (LnC sv av lp (.slice none 0 0) tv (.slice pa' m pc') (max s.free x.at_) true x.at_) 125)
  rw[q6,q2,HMX.out]
  exact h9) rfl ((HPN.out.keeps hkg (fun j hj e=>by
   have e1:pg=j:=by injection hj
   exact hpg.1 (e1.trans e))).mono (fun j hj=>.inl hj))
 refine⟨?_,⟨_,_,_,a1⟩,a2⟩;rw[q1,q2];rfl
def rqFrame (u:Int) (q:Rq):List UInt8:=aduF (UInt8.ofNat u.toNat) q.pdu
theorem rqFrame_len (u:Int) (q:Rq):4≤(rqFrame u q).length∧(rqFrame u q).length≤256:=by
 have:=Rq.pdu_len q;unfold rqFrame;rw[cD];omega
theorem split_frame {u:Int} {p:List UInt8} (h1:1≤u) (h2:u≤247) (hl:1≤p.length) (hl2:p.length≤253):splitB crcChk (aduF (UInt8.ofNat u.toNat) p)=some (u,p):=by
 have hal:=cD (UInt8.ofNat u.toNat) p;have hu:((UInt8.ofNat u.toNat).toNat:Int)=u:=by
  rw[UInt8.toNat_ofNat'];omega
 unfold splitB;have hd:(aduF (UInt8.ofNat u.toNat) p).getD 0 0=UInt8.ofNat u.toNat:=rfl;rw[hd,hu,if_pos ⟨by omega,by omega,chk_tail _,h1,h2⟩];have:((aduF (UInt8.ofNat u.toNat) p).take ((aduF (UInt8.ofNat u.toNat) p).length-2)).drop 1=p:=by
  rw[hal];simp [aduF,crcTail]
 rw[this]
theorem busDec_frame (l:List Sl) (bd pa:Int) {u:Int} (h1:1≤u) (h2:u≤247) {q:Rq} (hq:q.ok=true):busDec l bd pa (rqFrame u q)=if memb l bd pa u l.length=[] then none else some (u,q,memb l bd pa u l.length):=by
 have hp:=Rq.pdu_len q;exact busDec_mb (split_frame h1 h2 (by omega) (by omega)) (rqDec_pdu hq)
theorem LnMade.at {w w':World} {l:List Sl} {lp:Bool} {ats:List At} {r:Ending} (h:LnMade w l lp ats r w') (hB:BusP l) (ho:∀x∈ats,x.ok) (hl:lp=true→0<ats.length):
  ∃g a c a2 c2,r=.returned (.tuple #[.pointer (some ⟨g,0,none⟩),.int .i64 0])∧LnAt (fun j=>j=g) w' g (.slice a l.length c) (.slice a2 ats.length c2) lp Ln.zero∧LnG (fun j=>j=g) w' a l.length c a2 ats.length c2 l ats lp∧w.heap.size≤g∧Below w.heap.size w w':=by
 obtain⟨g,a,c,a2,c2,h1,h2,h3,h4,h5⟩:=h;refine⟨g,a,c,a2,c2,h1,⟨.slice none 0 0,.slice none 0 0,[],h3,rfl,fun j hj=>?_,World.ownsRow_nil _ _ _ _,fun j hj=>(by cases hj),PnR.nil _ _,rfl⟩,⟨h4,rfl,rfl,hB,ho,hl⟩,h2,h5⟩;subst hj;exact cI h3
theorem chAt_lt {C st:Int} (hC:0≤C) {a:At} (ha:0≤a.ticks) {i j:Nat} (h:i<j) (x y:UInt8):(chAt C st a i x).at_+C≤(chAt C st a j y).at_:=by
 have h1:((i:Int)+1)*C+C≤((j:Int)+1)*C:=by
  have h2:((i:Int)+1+1)*C≤((j:Int)+1)*C:=Int.mul_le_mul_of_nonneg_right (by omega) hC;rw[Int.add_mul ((i:Int)+1) 1 C,Int.one_mul] at h2;exact h2
 unfold chAt;dsimp only;generalize ((i:Int)+1)*C=p at h1 ⊢;generalize ((j:Int)+1)*C=q at h1 ⊢;by_cases e1:a.fault=6∧a.pos≤(i:Int)
 ·rw [if_pos e1,if_pos ⟨e1.1,by omega⟩]
  omega
 ·rw [if_neg e1]
  split<;>omega
theorem chsN_at {C st:Int} {a:At} {r:List UInt8} {n k:Nat} {x:Ch} (h:(chsN C st a r n)[k]?=some x):k<n∧x=chAt C st a k (r.getD k 0):=by
 have hk:=(List.getElem?_eq_some_iff.1 h).1;rw[chsN_len] at hk;unfold chsN at h;rw[List.getElem?_map,List.getElem?_range hk] at h;injection h with h
 exact⟨hk,h.symm⟩
theorem chsN_asc {C st:Int} (hC:0≤C) {a:At} (ha:0≤a.ticks) (r:List UInt8) (n:Nat):ascL (chsN C st a r n):=fun i j x y hij hx hy=>by
 obtain⟨_,rfl⟩:=chsN_at hx;obtain⟨_,rfl⟩:=chsN_at hy;have:=chAt_lt (st:=st) hC ha hij (r.getD i 0) (r.getD j 0);omega
theorem cellsAtW:Tryz.prog.cellsOf 70=6:=by kernel_rfl
theorem lst6W {α:Type} {l:List α} (h:l.length=6):∃a b c d e f,l=[a,b,c,d,e,f]:=by
 match l,h with
 |[a,b,c,d,e,f],_=>exact⟨a,b,c,d,e,f,rfl⟩
theorem at_rd {w:World} {cs:Array Value} (h:Rd Tryz.prog w 70 cs.toList):∃a:At,cs=a.C∧wfAt a:=by
 obtain⟨hl,hf⟩:=h.struct Tryz.underlying70;rw[cellsAtW] at hl;obtain⟨cl⟩:=cs;obtain⟨c0,c1,c2,c3,c4,c5,rfl⟩:=lst6W hl;have f0:=hf _ (List.mem_cons_self ..);have f1:=hf _ (List.mem_cons_of_mem _ (List.mem_cons_self ..));have f2:=hf _ (List.mem_cons_of_mem _ (List.mem_cons_of_mem _ (List.mem_cons_self ..)));have f3:=hf _ (List.mem_cons_of_mem _ (List.mem_cons_of_mem _ (List.mem_cons_of_mem _ (List.mem_cons_self ..))));have f4:=hf _ (List.mem_cons_of_mem _ (List.mem_cons_of_mem _ (List.mem_cons_of_mem _ (List.mem_cons_of_mem _ (List.mem_cons_self ..)))));have f5:=hf _ (List.mem_cons_of_mem _ (List.mem_cons_of_mem _ (List.mem_cons_of_mem _ (List.mem_cons_of_mem _ (List.mem_cons_of_mem _ (List.mem_cons_self ..))))));simp only[cellsInt,List.drop_zero,List.drop_succ_cons,List.take_succ_cons,List.take_zero] at f0 f1 f2 f3 f4 f5;obtain⟨a0,rfl,w0⟩:=cM f0;obtain⟨a1,rfl,w1⟩:=cM f1;obtain⟨a2,rfl,w2⟩:=cM f2;obtain⟨a3,rfl,w3⟩:=cM f3;obtain⟨a4,rfl,w4⟩:=cM f4;obtain⟨a5,rfl,w5⟩:=cM f5;exact⟨⟨a0,a1,a2,a3,a4,a5⟩,rfl,w0,w1,w2,w3,w4,w5⟩
theorem ratt_w (a:At) (V:Bool) (hV:V=true↔a.ok) (w:World):Calls Tryz.prog 92 #[.agg a.C] w (BoolPost w V):=
 (ratt_any a w).mono fun r w' ⟨B,h1,h2,h3⟩=>by
  have e:B=V:=by
   cases B<;>cases V
   ·rfl
   ·exact absurd (h2.out.2 (hV.1 rfl)) Bool.noConfusion
   ·exact absurd (hV.2 (h2.out.1 rfl)) Bool.noConfusion
   ·rfl
  subst e;exact⟨h1,h3⟩
theorem rscr_any (s:Scr) (av cv:Value) (w:World) (ha:Ats w av s.ats) (hc:Rgs w cv s.cr):Calls Tryz.prog 48 #[.agg #[av,.bool s.loop,cv]] w (ScPost w s):=by
 obtain⟨aa,ac,rfl,-⟩:=id ha;obtain⟨ca,cc,rfl,hc1,hc2,-⟩:=id hc;obtain⟨an,han⟩:=gE s.ats.length;obtain⟨cn,hcn⟩:=gE s.cr.length;obtain⟨lp,hlp⟩:=gE s.loop;rw[han] at ha ⊢;rw[hcn] at hc hc1 ⊢;rw[hlp];have hcap:cn≤9223372036854775807:=by unfold maxLen at hc2;omega
 have HAN:=bC han;have HCN:=bC hcn;have HLP:=bC hlp;have HA:=bC ha;have HC:=bC hc;obtain⟨W1,hW1,hb1,pS⟩:=alQ w (.cells #[.slice aa an ac,.bool lp,.slice ca cn cc] 32);have t0:=cF pS 0 rfl;have t1:=cF pS 1 rfl;have t2:=cF pS 2 rfl;have k0:Below W1.heap.size W1 W1:=Below.refl _ _;have HW1:=bC hW1;have HB1:=bC hb1;have x0:=t0 _ k0;have x1:=t1 _ k0;have x2:=t2 _ k0;clear hW1 hb1 pS han hcn hlp ha hc hc1 hc2;by_cases h1:4096<an
 ·have q1:(4096:Int)<(an:Int):=by omega
  have HV:Hid (¬s.ok):=fun h=>by have:=h.1;have:=HAN.out;omega
  go_enter Tryz.func48,Tryz.ntmps48;go_upto_region 1 with(fail);rw[HW1.out]
  go_wp2;go_ret;exact ScPost.no HV.out HB1.out
 have q1:¬(4096:Int)<(an:Int):=by omega
 by_cases hbad:an=0∧lp=true
 ·obtain ⟨e2,e1⟩:=hbad
  have HV:Hid (¬s.ok):=fun h=>h.2.1 ⟨HLP.out.trans e1,HAN.out.trans e2⟩
  subst e1 e2;go_enter Tryz.func48,Tryz.ntmps48;go_upto_region 1 with(fail);rw[HW1.out]
  go_wp2;go_ret;exact ScPost.no HV.out HB1.out
 have hor:(((an:Int)==0)=true∧lp=false)∨((an:Int)==0)=false:=by
  by_cases e:an=0
  ·refine .inl ⟨by rw[e];rfl,?_⟩
   cases hl:lp with
   |false=>rfl
   |true=>exact absurd ⟨e,hl⟩ hbad
  ·exact .inr (b0 (by omega))
 by_cases h3:8<cn
 ·have q3:(8:Int)<(cn:Int):=by omega
  have HV:Hid (¬s.ok):=fun h=>by have:=h.2.2.1;have:=HCN.out;omega
  clear hbad;rcases hor with⟨e3,rfl⟩|e3
  all_goals
   go_enter Tryz.func48,Tryz.ntmps48;go_upto_region 1 with(fail);rw[HW1.out]
   go_wp2;go_ret;exact ScPost.no HV.out HB1.out
 have q3:¬(8:Int)<(cn:Int):=by omega
 have HALL:Hid (s.ats.length≤4096∧¬(s.loop=true∧s.ats.length=0)∧s.cr.length≤8):=by
  show _∧_;rw[HAN.out,HCN.out,HLP.out];exact⟨by omega,fun h=>hbad ⟨h.2,h.1⟩,by omega⟩
 clear hbad;rcases hor with⟨e3,rfl⟩|e3
 all_goals
  go_enter Tryz.func48,Tryz.ntmps48;go_upto_region 1 with(fail);rw[HW1.out]
  go_upto_region 4 with(fail)
  clear e3 x0 x1 x2;go_loopw [3] (fun iv wr=>∃k:Nat,k≤an∧iv=.int .i64 (k:Int)∧Hid (∀i x,i<k→s.ats[i]?=some x→x.ok)∧Below W1.heap.size W1 wr) (fun iv _=>an- (intOf iv).toNat)
  case atStart=>exact⟨0,Nat.zero_le _,rfl,fun i x h=>by omega,k0⟩
  case round=>
   obtain⟨k,hk,rfl,hgd,hbw⟩:=hrel;have hki:(0:Int)≤(k:Int):=Int.natCast_nonneg _;have y0:=t0 wr hbw;have y2:=t2 wr hbw;by_cases hlt:k<an
   ·obtain ⟨x,hx⟩:=gs (l:=s.ats) HAN.out hlt
    obtain⟨b,o,c',hv',hcl⟩:=HA.out.at hx;rw[HAN.out] at hv';simp only[Value.slice.injEq,true_and] at hv';obtain⟨rfl,rfl⟩:=hv';have hkl:(k:Int)<(an:Int):=by omega
    have hbW:=bU HB1.out hbw;obtain⟨V,hV⟩:∃V:Bool,(V=true↔x.ok):=cN (p:=x.ok);have HCA:=bC (ratt_w x V hV);obtain⟨C,hC⟩:=gE x.C;have hi6:(Tryz.prog.info? 70).map (·.size)=some C.size:=by rw[←hC];exact infoAT
    have hrow:∀j v,C.toList[j]?=some v→wr.cell? ((⟨b,o+k*6,none⟩:Addr).add j)=some v:=fun j v hj=>by
     obtain⟨z0,z1,z2,z3,z4,z5⟩:=hcl wr hbW;have e:(⟨b,o+k*6,none⟩:Addr).add j=⟨b,o+k*6+j,none⟩:=by unfold Addr.add;split<;>simp_all
     rw[e];rw[←hC] at hj;unfold At.C at hj;rcases j with _|_|_|_|_|_|j
     ·injection hj with hj;rw[←hj];exact z0
     ·injection hj with hj;rw[←hj];exact z1
     ·injection hj with hj;rw[←hj];exact z2
     ·injection hj with hj;rw[←hj];exact z3
     ·injection hj with hj;rw[←hj];exact z4
     ·injection hj with hj;rw[←hj];exact z5
     ·cases hj
    have HCA':Hid (∀W,Calls Tryz.prog 92 #[.agg C] W (BoolPost W V)):=by
     rw[←hC];exact HCA.out
    have HX:=bC hx;have HV2:=bC hV;clear HCA hC hcl hx hV;cases V with
    |false=>
     have HE:=bC (show ¬s.ok from fun h=>Bool.noConfusion (HV2.out.2 (h.2.2.2.2 x (List.mem_of_getElem? HX.out))));go_wp2_with (first
      |(refine bK (by rfl) 70 (.tmp 36) rfl ⟨b,o+k*6,none⟩ rfl C _ hrow Tryz.underlying70 rfl hi6 ?_)
      |(go_at_call 92;(with_reducible refine(HCA'.out _).mono ?_);rintro r w2 ⟨rfl,hb2⟩))
     go_ret;exact ScPost.no HE.out (bU hbW hb2)
    |true=>
     have HG2:Hid (∀i y,i<k+1→s.ats[i]?=some y→y.ok):=fun i y hi hy=>by
      by_cases e:i=k
      ·subst e
       rw[HX.out] at hy;cases hy;exact HV2.out.1 rfl
      ·exact hgd.out i y (by omega) hy
     go_wp2_with (first
      |(refine bK (by rfl) 70 (.tmp 36) rfl ⟨b,o+k*6,none⟩ rfl C _ hrow Tryz.underlying70 rfl hi6 ?_)
      |(go_at_call 92;(with_reducible refine(HCA'.out _).mono ?_);rintro r w2 ⟨rfl,hb2⟩))
     go_roundw
     case rel=>exact⟨k+1,by omega,by go_num,HG2.out,bU hbw hb2⟩
     case measure=>simp [intOf];omega
   ·obtain rfl:k=an:=by omega
    have HAG:Hid (∀x∈s.ats,x.ok):=fun x hx=>by
     obtain⟨j,hj⟩:=List.getElem?_of_mem hx;exact hgd.out j x (by have:=(List.getElem?_eq_some_iff.1 hj).1;have:=HAN.out;omega) hj
    have hkl:¬(k:Int)<(k:Int):=by omega
    clear hgd;go_upto_region 9 with(fail)
    clear y0 y2 hkl hki hk hlt;obtain⟨W2,hW2⟩:∃W,W=wr:=⟨_,rfl⟩
    rw[←hW2] at hbw ⊢;clear hW2;go_loopw [4] (fun iv wr=>∃k:Nat,k≤cn∧iv=.int .i64 (k:Int)∧Hid (∀i x,i<k→s.cr[i]?=some x→crStep s.cr i x)∧Below W1.heap.size W1 wr) (fun iv _=>cn- (intOf iv).toNat)
    case atStart=>exact⟨0,Nat.zero_le _,rfl,fun i x h=>by omega,hbw⟩
    case round=>
     obtain⟨k,hk,rfl,hgd,hbw⟩:=hrel;have hki:(0:Int)≤(k:Int):=Int.natCast_nonneg _;have y2:=t2 wr hbw;by_cases hlt:k<cn
     ·obtain ⟨x,hx⟩:=gs (l:=s.cr) HCN.out hlt
      obtain⟨b,o,c',hv',-,-,hcl⟩:=HC.out.at hx;rw[HCN.out] at hv';simp only[Value.slice.injEq,true_and] at hv';obtain⟨rfl,rfl⟩:=hv';have hkl:(k:Int)<(cn:Int):=by omega
      have HX:=bC hx;obtain⟨st,kp⟩:=x;have hbW:=bU HB1.out hbw;obtain⟨u0,u1⟩:=hcl wr hbW;dsimp only at u0 u1;have hrow:∀j v,(#[.int .i64 st,.int .i64 kp]:Array Value).toList[j]?=some v→wr.cell? ((⟨b,o+k*2,none⟩:Addr).add j)=some v:=fun j v hj=>by
       have e:(⟨b,o+k*2,none⟩:Addr).add j=⟨b,o+k*2+j,none⟩:=by unfold Addr.add;split<;>simp_all
       rw[e];rcases j with _|_|j
       ·injection hj with hj;rw[←hj];exact u0
       ·injection hj with hj;rw[←hj];exact u1
       ·cases hj
      have HCL:=bC hcl;clear hx hcl u0 u1;go_upto_region 12 with(first
       |(refine bK (by rfl) 161 (.tmp 50) rfl ⟨b,o+k*2,none⟩ rfl #[.int .i64 st,.int .i64 kp] _ hrow Tryz.underlying161 rfl infoCR ?_)
       |(refine bE rfl 161 (.tmp 5) (.tmp 51) rfl wr.heap.size 0 _ 161 #[.int .i64 st,.int .i64 kp] rfl rfl (bI wr _) (by simp) infoCR rfl ?_;intro w5 g5 hk5 hz5))
      obtain⟨p5,hb5⟩:=var_new (by simp) g5 hk5;clear g5 hk5 hz5 hrow y2;have z0:w5.cell? ⟨wr.heap.size,0,none⟩=some (.int .i64 st):=bA p5 0;have z1:w5.cell? ⟨wr.heap.size,1,none⟩=some (.int .i64 kp):=bA p5 1;have hB5:=bU hbw hb5;have y2:=t2 w5 hB5;have HBW:=bC (bU HB1.out hB5);have HB5:=bC hB5;clear p5 hb5 hB5 hbw hbW;dsimp only[Act.put];have NO:¬crStep s.cr k (st,kp)→Hid (¬s.ok):=fun h=>fun e=>h (e.2.2.2.1 k _ HX.out)
      by_cases c1:st<0
      ·have HV:=NO (fun h=>by have:=h.1;dsimp only at this;omega)
       clear NO;go_quiet (fail);go_wp2;go_ret;exact ScPost.no HV.out (below_drewN HBW.out _)
      by_cases c2:999999999<st
      ·have HV:=NO (fun h=>by have:=h.2.1;dsimp only at this;omega)
       clear NO;go_quiet (fail);go_wp2;go_ret;exact ScPost.no HV.out (below_drewN HBW.out _)
      by_cases c3:kp<0
      ·have HV:=NO (fun h=>by have:=h.2.2.1;dsimp only at this;omega)
       clear NO;go_quiet (fail);go_wp2;go_ret;exact ScPost.no HV.out (below_drewN HBW.out _)
      by_cases c4:1000000<kp
      ·have HV:=NO (fun h=>by have:=h.2.2.2.1;dsimp only at this;omega)
       clear NO;go_quiet (fail);go_wp2;go_ret;exact ScPost.no HV.out (below_drewN HBW.out _)
      have HS4:Hid (0≤st∧st≤999999999∧0≤kp∧kp≤1000000):=by show _∧_;omega
      have UP:Hid (crStep s.cr k (st,kp)→∀i x,i<k+1→s.cr[i]?=some x→crStep s.cr i x):=fun h i y hi hy=>by
       by_cases e:i=k
       ·subst e
        rw[HX.out] at hy;cases hy;exact h
       ·exact hgd.out i y (by omega) hy
      by_cases e0:0<k
      ·have e0i:(0:Int)<(k:Int):=by omega
       obtain⟨km,hkm⟩:∃x,k-1=x:=⟨_,rfl⟩
       have skm:IntKind.i64.wrap ((k:Int)-1)=(km:Int):=(IntWalk.i64_in _ (by omega)).trans (by omega);obtain⟨y,hy⟩:=gs (l:=s.cr) HCN.out (show km<cn by omega);obtain⟨b',o',c'',hv'',-,-,hcl2⟩:=HC.out.at hy;rw[HCN.out] at hv'';simp only[Value.slice.injEq,Option.some.injEq,Addr.mk.injEq,true_and,and_true] at hv'';obtain⟨⟨rfl,rfl⟩,rfl⟩:=hv'';obtain⟨ys,yk⟩:=y;have v0:w5.cell? ⟨b,o+km*2,none⟩=some (.int .i64 ys):=(hcl2 _ HBW.out).1;have hkm0:(0:Int)≤(km:Int):=Int.natCast_nonneg _;have hkml:(km:Int)<(cn:Int):=by omega
       have hkmn:km<cn:=by omega
       have HY:=bC hy;have HKM:=bC hkm;clear hy hcl2 hkm;by_cases e1:st≤ys
       ·have HV:=NO (fun h=>by
         have h5:=h.2.2.2.2 (ys,yk) e0 (by rw[HKM.out];exact HY.out)
         exact absurd e1 (by dsimp only at h5;omega))
        clear NO UP hgd;go_quiet (fail);go_wp2;go_ret;exact ScPost.no HV.out (below_drewN HBW.out _)
       ·have HST:Hid (crStep s.cr k (st,kp)):=⟨HS4.out.1,HS4.out.2.1,HS4.out.2.2.1,HS4.out.2.2.2,fun y h1 h2=>by
         rw[HKM.out,HY.out] at h2
         injection h2 with h2
         rw[←h2]
         show ys<st
         omega⟩
        clear NO;go_quiet (fail);go_wp2;go_roundw
        case rel=>exact⟨k+1,by omega,by go_num,UP.out HST.out,below_drewN HB5.out _⟩
        case measure=>simp [intOf];omega
      ·have e0':k=0:=by omega
       have e0i:¬(0:Int)<(k:Int):=by omega
       have HST:Hid (crStep s.cr k (st,kp)):=⟨HS4.out.1,HS4.out.2.1,HS4.out.2.2.1,HS4.out.2.2.2,fun y h1=>absurd h1 e0⟩
       clear NO e0';go_quiet (fail);go_wp2;go_roundw
       case rel=>exact⟨k+1,by omega,by go_num,UP.out HST.out,below_drewN HB5.out _⟩
       case measure=>simp [intOf];omega
     ·obtain rfl:k=cn:=by omega
      have hkl:¬(k:Int)<(k:Int):=by omega
      have HE:Hid s.ok:=⟨HALL.out.1,HALL.out.2.1,HALL.out.2.2,fun i x hx=>hgd.out i x (by have:=(List.getElem?_eq_some_iff.1 hx).1;have:=HCN.out;omega) hx,HAG.out⟩
      go_wp2;go_ret;exact⟨true,rfl,⟨fun _=>HE.out,fun _=>rfl⟩,bU HB1.out hbw⟩
def BdP (s:Scr) (ti de:Int):Prop:=∀x∈s.ats,x.lat≤ti∧x.ticks≤de
def BdPost (w:World) (s:Scr) (ti de:Int) (r:Ending) (w':World):Prop:=∃V:Bool,r=.returned (.bool V)∧Hid (V=true↔s.ok∧BdP s ti de)∧Below w.heap.size w w'
theorem BdPost.no {w w':World} {s:Scr} {ti de:Int} (h:¬BdP s ti de) (hb:Below w.heap.size w w'):BdPost w s ti de (.returned (.bool false)) w':=⟨false,rfl,⟨fun e=>(by cases e),fun e=>absurd e.2 h⟩,hb⟩
theorem infoScr3:(Tryz.prog.info? 32).map (·.size)=some 3:=by kernel_rfl
theorem rbnd_any (s:Scr) (av cv:Value) (ti de:Int) (w:World) (ha:Ats w av s.ats) (hc:Rgs w cv s.cr):Calls Tryz.prog 11 #[.agg #[av,.bool s.loop,cv],.int .i64 ti,.int .i64 de] w (BdPost w s ti de):=by
 have HCS:Hid (∀X,Below w.heap.size w X→Calls Tryz.prog 48 #[.agg #[av,.bool s.loop,cv]] X (ScPost X s)):=fun X hX=>rscr_any s av cv X (ha.keep hX) (hc.keep hX)
 obtain⟨aa,ac,rfl,ha1,ha2,-⟩:=id ha;obtain⟨an,han⟩:=gE s.ats.length;obtain⟨lp,hlp⟩:=gE s.loop;rw[han] at ha ha1 HCS ⊢;have hcap:an≤9223372036854775807:=by unfold maxLen at ha2;omega
 rw[hlp] at HCS ⊢;have HAN:=bC han;have HA:=bC ha;obtain⟨W1,hW1,hb1,pS⟩:=alQ w (.cells #[.slice aa an ac,.bool lp,cv] 32);have t0:=cF pS 0 rfl;have k0:Below W1.heap.size W1 W1:=Below.refl _ _;have HW1:=bC hW1;have HB1:=bC hb1;have PS:=bC pS;clear hW1 hb1 pS han hlp ha hc ha1 ha2;go_enter Tryz.func11,Tryz.ntmps11;go_upto_region 1 with(fail)
 rw[HW1.out];go_upto_region 2 with(fail)
 go_loopw [7] (fun iv wr=>∃k:Nat,k≤an∧iv=.int .i64 (k:Int)∧Hid (∀i x,i<k→s.ats[i]?=some x→x.lat≤ti∧x.ticks≤de)∧Below W1.heap.size W1 wr) (fun iv _=>an- (intOf iv).toNat)
 case atStart=>exact⟨0,Nat.zero_le _,rfl,fun i x h=>by omega,k0⟩
 case round=>
  obtain⟨k,hk,rfl,hgd,hbw⟩:=hrel;have hki:(0:Int)≤(k:Int):=Int.natCast_nonneg _;have y0:=t0 wr hbw;by_cases hlt:k<an
  ·obtain ⟨x,hx⟩:=gs (l:=s.ats) HAN.out hlt
   obtain⟨b,o,c',hv',hcl⟩:=HA.out.at hx;rw[HAN.out] at hv';simp only[Value.slice.injEq,true_and] at hv';obtain⟨rfl,rfl⟩:=hv';have hkl:(k:Int)<(an:Int):=by omega
   have hbW:=bU HB1.out hbw;obtain⟨z0,-,-,-,z4,-⟩:=hcl wr hbW;have HX:=bC hx;have NO:¬(x.lat≤ti∧x.ticks≤de)→Hid (¬BdP s ti de):=fun h=>fun e=>h (e x (List.mem_of_getElem? HX.out))
   have UP:Hid ((x.lat≤ti∧x.ticks≤de)→∀i y,i<k+1→s.ats[i]?=some y→y.lat≤ti∧y.ticks≤de):=fun h i y hi hy=>by
    by_cases e:i=k
    ·subst e
     rw[HX.out] at hy;cases hy;exact h
    ·exact hgd.out i y (by omega) hy
   clear hcl hx hgd;obtain⟨la,hla⟩:=gE x.lat;obtain⟨tk,htk⟩:=gE x.ticks;rw[hla] at z0 NO UP;rw[htk] at z4 NO UP;clear hla htk;by_cases c1:ti<la
   ·have HV:=NO (by omega)
    clear NO UP;go_wp2;go_ret;exact BdPost.no HV.out hbW
   by_cases c2:de<tk
   ·have HV:=NO (by omega)
    clear NO UP;go_wp2;go_ret;exact BdPost.no HV.out hbW
   have HG2:=bC (UP.out (by omega));clear NO UP;go_wp2;go_roundw
   case rel=>exact⟨k+1,by omega,by go_num,HG2.out,hbw⟩
   case measure=>simp [intOf];omega
  ·obtain rfl:k=an:=by omega
   have HBD:Hid (BdP s ti de):=fun x hx=>by
    obtain⟨j,hj⟩:=List.getElem?_of_mem hx;exact hgd.out j x (by have:=(List.getElem?_eq_some_iff.1 hj).1;have:=HAN.out;omega) hj
   have hkl:¬(k:Int)<(k:Int):=by omega
   have pR:=bB PS.out hbw;have HBW:=bC (bU HB1.out hbw);clear hgd;go_wp2_with (first
    |(refine wpList_load_row rfl 32 (.tmp 3) rfl w.heap.size rfl 32 #[.slice aa k ac,.bool lp,cv] (0,0) _ pR Tryz.underlying32 rfl infoScr3 ?_)
    |(go_at_call 48;(with_reducible refine(HCS.out _ HBW.out).mono ?_);rintro r w2 ⟨V,rfl,HV,hb2⟩))
   go_ret;exact⟨V,rfl,⟨fun e=>⟨HV.out.1 e,HBD.out⟩,fun e=>HV.out.2 e.1⟩,bU HBW.out hb2⟩
abbrev cE:=@infoScr3
end Go.Proofs.YtoaoejaodhedaaaGreat
