import Derived.Test.YtoaoejaodhedaaaGreatE48
namespace Go.Proofs.YtoaoejaodhedaaaGreat
open Go.RowKit
set_option maxHeartbeats 6400000
set_option maxRecDepth 100000
theorem infoEvW:(Tryz.prog.info? 132).map (·.size)=some 3:=by kernel_rfl
theorem infoChW:(Tryz.prog.info? 174).map (·.size)=some 4:=by kernel_rfl
theorem atts_any {P:Nat→Prop} {w:World} {g:Nat} {sv av:Value} {lp:Bool} {s:Ln} (h:LnAt P w g sv av lp s):Calls Tryz.prog 20 #[.pointer (some ⟨g,0,none⟩)] w fun r w'=>r=.returned (.int .i64 (s.sent.length:Int))∧w=w':=by
 obtain⟨tv,pv,cs,h⟩:=h
 obtain⟨ta,tc,rfl⟩:=own_slice h.sn
 have c4:w.cell? ⟨g,4,none⟩=some (.slice ta s.sent.length tc):=cP h.at_ 4
 obtain⟨n,hn⟩:∃n,s.sent.length=n:=⟨_,rfl⟩
 rw[hn] at c4 ⊢
 clear h hn
 go_enter Tryz.func20,Tryz.ntmps20
 go_wp2
 go_ret
 exact⟨rfl,rfl⟩
theorem z48_1 {p:Prop} (h:p:=by
 go_enter Tryz.func59,Tryz.ntmps59
 go_upto_region 1 with(fail)
 rw[HW1.out]
 go_wp2_with (refine wpList_storeW rfl 132 (.tmp 4) (.tmp 29) rfl w.heap.size 0 _ 132 #[.int .i64 0,.int .u8 0,.int .i64 0] rfl rfl pZ (by simp) infoEvW rfl ?_;intro w8 g8 hk8 hz8)
 have g9:w8.heap[w.heap.size]?=some (.cells #[.int .i64 0,.int .u8 0,.int .i64 0] 132):=g8
 refine bodyPost_ret (results_ct_row rfl _ _ w.heap.size 132 _ (0,0) _ rfl g9 Tryz.underlying132 rfl infoEvW) rfl ?_
 exact⟨rfl,HB1.out.trans (hk8.below HB1.out.size (fun j hj e=>by omega))⟩):p:=h
theorem next_none {P:Nat→Prop} {w:World} {g:Nat} {sv av:Value} {lp:Bool} {s:Ln} (h:LnAt P w g sv av lp s) (limit:Int) (hd:s.due limit=false):Calls Tryz.prog 59 #[.pointer (some ⟨g,0,none⟩),.int .i64 limit] w fun r w'=>r=.returned (.tuple #[.agg #[.int .i64 0,.int .u8 0,.int .i64 0],.bool false])∧Below w.heap.size w w':=by
 obtain⟨tv,pv,cs,h⟩:=h
 obtain⟨W1,hW1⟩:∃W,w.alloc (.cells #[.int .i64 0,.int .u8 0,.int .i64 0] 132)=W:=⟨_,rfl⟩
 have hb1:Below w.heap.size w W1:=by rw[←hW1];exact bal' w _
 have c5:W1.cell? ⟨g,5,none⟩=some pv:=cP (kP h.at_ hb1) 5
 have pZ:W1.heap[w.heap.size]?=some (.cells #[.int .i64 0,.int .u8 0,.int .i64 0] 132):=by rw[←hW1];exact hpNew w _
 have HW1:=hid hW1
 have HB1:=hid hb1
 cases hp:s.pend with
 |nil=>
  obtain⟨pa,pc,e,-⟩:=h.pn.len
  rw[hp] at e
  subst e
  replace c5:W1.cell? ⟨g,5,none⟩=some (.slice pa 0 pc):=c5
  clear h hW1 hb1 hd hp
  exact z48_1
 |cons x r=>
  have hx:decide (limit<x.at_)=true:=by
   unfold Ln.due at hd
   rw[hp] at hd
   dsimp only at hd
   have:=of_decide_eq_false hd
   exact dT (by omega)
  have hpn:=h.pn
  rw[hp] at hpn
  rcases hpn with⟨_,e⟩|⟨pg,po,pc,N,rfl,hat,h3,h4,h5,h6⟩
  ·cases e
  ·have y0:W1.cell? ⟨pg,po,none⟩=some (.int .i64 x.at_):=cell_keep hb1 (hat.cell (j:=0) rfl)
   obtain⟨n,hn⟩:∃n,(x::r).length=n:=⟨_,rfl⟩
   have hn0:0<n:=by rw[←hn];exact Nat.succ_pos _
   have hn1:(0:Int)<(n:Int):=by omega
   have hn2:¬n=0:=by omega
   have hn3:((n:Int)==0)=false:=b0 (by omega)
   rw[hn] at c5
   clear h hW1 hb1 hd hp hat h3 h4 h5 h6 hn
   exact z48_1
theorem run_dropPnW {P:Nat→Prop} {w:World} {v:Value} {x:Ch} {l:List Ch} (h:PnR P w v (x::l)):
  ∃v',(∀W,(Instr.slice 123 v (some (.int .i64 1)) none none).run Tryz.prog W=.ok v' W)∧PnR P w v' l:=by
 rcases h with⟨_,e⟩|⟨g,o,c,N,rfl,hat,h3,h4,h5,h6⟩
 ·cases e
 ·obtain ⟨i,hi,hz0,hz1,hz2⟩:=info_parts infoCh
  have hle:=hat.le
  rw[List.length_cons] at h3 hle
  have h2:¬((l.length:Int)+1<1):=by omega
  obtain⟨cc,hc,hcs,hcr⟩:=hat.h
  by_cases hc1:c=1
  ·subst hc1
   have hl0:l=[]:=List.eq_nil_of_length_eq_zero (by omega)
   subst hl0
   refine⟨.slice (some ⟨g,o,none⟩) 0 0,fun W=>?_,.inr ⟨g,o,0,N,rfl,⟨⟨cc,hc,hcs,fun j u hj=>by cases hj⟩,by show o+0*4≤N;omega⟩,Nat.le_refl _,Nat.zero_le _,by omega,h6⟩⟩
   simp [Instr.slice,Instr.sliceBounds,Instr.sliceBound,run_underlying Tryz.underlying123,asIntOf,sizeOf,typeInfo,hi]
  ·refine ⟨.slice (some ⟨g,o+4,none⟩) l.length (c-1),fun W=>?_,.inr ⟨g,o+4,c-1,N,rfl,⟨⟨cc,hc,hcs,fun j u hj=>?_⟩,by omega⟩,by omega,by omega,by omega,h6⟩⟩
   ·simp [Instr.slice,Instr.sliceBounds,Instr.sliceBound,run_underlying Tryz.underlying123,asIntOf,sizeOf,typeInfo,hi,hz1,Addr.add,hc1,h2]
   ·have:=hcr (4+j) u (by
     show (chC x++chV l)[4+j]?=some u
     rw[List.getElem?_append_right (show 4≤4+j by omega),show 4+j- (chC x).length=j by show 4+j-4=j;omega]
     exact hj)
    rw[←Nat.add_assoc] at this
    exact this
theorem next_some {P:Nat→Prop} {w:World} {g:Nat} {sv av:Value} {lp:Bool} {s:Ln} (h:LnAt P w g sv av lp s) (hok:s.ok) (x:Ch) (r:List Ch) (hp:s.pend=x::r) (limit:Int) (hx:x.at_≤limit):
  Calls Tryz.prog 59 #[.pointer (some ⟨g,0,none⟩),.int .i64 limit] w fun e w'=>e=.returned (.tuple #[.agg #[.int .i64 x.at_,.int .u8 x.val,.int .i64 (s.ev x).fl],.bool true])∧LnAt (GrowP P w w') w' g sv av lp (s.next x r)∧Keeps P w w':=by
 obtain⟨tv,pv,cs,h⟩:=h
 obtain⟨W1,hW1⟩:∃W,w.alloc (.cells #[.int .i64 0,.int .u8 0,.int .i64 0] 132)=W:=⟨_,rfl⟩
 have hb1:Below w.heap.size w W1:=by rw[←hW1];exact bal' w _
 have hz1:W1.heap.size=w.heap.size+1:=by rw[←hW1];simp
 have pZ:W1.heap[w.heap.size]?=some (.cells #[.int .i64 0,.int .u8 0,.int .i64 0] 132):=by rw[←hW1];exact hpNew w _
 have hxk:=hok.ch x (by rw[hp];exact List.mem_cons_self)
 have hpn:=h.pn.own'
 rw[hp] at hpn
 obtain⟨v',hdrop,hpn'⟩:=run_dropPnW hpn
 obtain⟨pa',pc',e',-⟩:=hpn'.len
 subst e'
 have hpe:=h.pn
 rw[hp] at hpe
 rcases hpe with⟨_,e⟩|⟨pg,po,pc,N,rfl,hat,-⟩
 ·cases e
 obtain⟨n,hn⟩:∃n,(x::r).length=n:=⟨_,rfl⟩
 obtain⟨m,hm⟩:∃n,r.length=n:=⟨_,rfl⟩
 have hn0:0<n:=by rw[←hn];exact Nat.succ_pos _
 have hn1:(0:Int)<(n:Int):=by omega
 have hn2:¬n=0:=by omega
 have hn3:((n:Int)==0)=false:=b0 (by omega)
 have hat_:=h.at_
 rw[hn] at hat_ hdrop
 rw[hm] at hdrop hpn'
 have HH:=hid h
 have hl1:decide (limit<x.at_)=false:=dF (by omega)
 obtain⟨XC,hXC⟩:∃C:Array Value,(#[.int .i64 x.at_,.int .u8 x.val,.int .i64 x.fl,.int .i64 x.du]:Array Value)=C:=⟨_,rfl⟩
 have hxi:(Tryz.prog.info? 174).map (·.size)=some XC.size:=by rw[←hXC];exact infoChW
 have hxs:XC.size=4:=by rw[←hXC];rfl
 have hx1:XC.toList.all (·.oneCell')=true:=by rw[←hXC];rfl
 have hrow:∀X,Below W1.heap.size W1 X→∀j u,XC.toList[j]?=some u→X.cell? ((⟨pg,po,none⟩:Addr).add j)=some u:=fun X hX j u hj=>by
  rw[Addr.add_lit]
  rw[←hXC] at hj
  exact cell_keep hX (cell_keep hb1 (hat.cell (j:=j) (by
   show (chC x++chV r)[j]?=some u
   rw[List.getElem?_append_left (show j<(chC x).length from (List.getElem?_eq_some_iff.1 hj).1)]
   exact hj)))
 have y0:W1.cell? ⟨pg,po,none⟩=some (.int .i64 x.at_):=cell_keep hb1 (hat.cell (j:=0) rfl)
 have c5:W1.cell? ⟨g,5,none⟩=some (.slice (some ⟨pg,po,none⟩) n pc):=cP (kP hat_ hb1) 5
 have f5:∀X,Below W1.heap.size W1 X→X.frozen? ⟨g,5,none⟩=false:=fun X hX=>hpFree (kP (kP hat_ hb1) hX) 5
 have c5':∀X,Below W1.heap.size W1 X→X.cell? ⟨g,5,none⟩=some (.slice (some ⟨pg,po,none⟩) n pc):=fun X hX=>cP (kP (kP hat_ hb1) hX) 5
 have HROW:=hid (hrow W1 (Below.refl _ _))
 have HAT:=hid hat_
 have HB1:=hid hb1
 have HW1:=hid hW1
 have HZ1:=hid hz1
 have HPZ:=hid pZ
 have HPN:=hid hpn'
 have HXK:=hid hxk
 have HOK:=hid hok
 have HXC:=hid hXC
 have HP:=hid hp
 have HMN:=hid (And.intro hn hm)
 clear h hok hat hpn hpn' hrow hat_ hb1 hW1 hz1 pZ hp hxk hXC hn hm hx
 go_enter Tryz.func59,Tryz.ntmps59
 go_upto_region 1 with(fail)
 rw[HW1.out]
 go_upto_region 4 with(first
  |(refine wpList_load_at rfl 174 (.tmp 34) rfl ⟨pg,po,none⟩ rfl XC _ HROW.out Tryz.underlying174 rfl hxi ?_)
  |(refine wpList_storeW rfl 174 (.tmp 6) (.tmp 35) rfl W1.heap.size 0 _ 174 XC rfl rfl (hpNew W1 _) (by simp [hxs]) hxi hx1 ?_;intro w3 g3 hk3 hz3;obtain⟨p3,hb3⟩:=var_new (by rw[hxs];rfl) g3 hk3;have c5x:=c5' _ hb3;have f5x:=f5 _ hb3))
 dsimp only[Act.put]
 go_upto_region 5 with(fail)
 obtain⟨W4,hW4⟩:∃W,w3.setCell ⟨g,5,none⟩ (.slice pa' m pc')=W:=⟨_,rfl⟩
 obtain⟨cb,hcb⟩:∃n,W1.heap.size=n:=⟨_,rfl⟩
 rw[hcb] at p3
 rw[hW4,hcb]
 have hg3:=kP (kP HAT.out HB1.out) hb3
 have hgl:g<w.heap.size:=hpLt HAT.out
 have hgc:¬cb=g:=by have:=HZ1.out;omega
 have hk34:Keeps (· =g) w3 W4:=by rw[←hW4];exact ks1 (Keeps.refl (· =g) w3) 5 _
 have pG4:W4.heap[g]?=some (.cells (LnC sv av lp (.slice none 0 0) tv (.slice pa' m pc') s.free s.heard s.last) 125):=by rw[←hW4];exact hpSet hg3 5 _
 have pC4:W4.heap[cb]?=some (.cells #[.int .i64 x.at_,.int .u8 x.val,.int .i64 0,.int .i64 x.du] 174):=by
  have:=kU p3 hk34 hgc
  rw[←HXC.out,HXK.out.fl] at this
  exact this
 have hw3:Below w.heap.size w w3:=bU HB1.out hb3
 have HK4:Hid (Keeps (· =g) w W4):=(Keeps.of_below (F:=(· =g)) hw3).trans hk34 (fun _ _ e=>e)
 have HE4:Hid (W4.heap[w.heap.size]?=some (.cells #[.int .i64 0,.int .u8 0,.int .i64 0] 132)):=kU (kP HPZ.out hb3) hk34 (fun e=>by have e':w.heap.size=g:=e;omega)
 have HCB:Hid (w.heap.size<cb∧cb<W4.heap.size∧w.heap.size+1=cb):=by
  have:=HZ1.out
  have:=hpLt pC4
  show _∧_∧_
  omega
 have HGC:=hid hgc
 have HG4:=hid pG4
 have HC4:=hid pC4
 clear hW4 hcb p3 hg3 hk34 pG4 pC4 hw3 c5x f5x hb3 y0 c5 c5' f5 hdrop hgc hgl
 obtain⟨fl,hfl⟩:∃y,(s.ev x).fl=y:=⟨_,rfl⟩
 obtain⟨xat,hxat⟩:∃y,x.at_=y:=⟨_,rfl⟩
 obtain⟨hd,hhd⟩:∃y,s.heard=y:=⟨_,rfl⟩
 obtain⟨lst,hlst⟩:∃y,s.last=y:=⟨_,rfl⟩
 obtain⟨du,hdu⟩:∃y,x.du=y:=⟨_,rfl⟩
 obtain⟨fre,hfre⟩:∃y,s.free=y:=⟨_,rfl⟩
 obtain⟨z,hz⟩:∃y,lst+du=y:=⟨_,rfl⟩
 have hflE:fl=if hd=true∧xat<z then 2 else 0:=by rw[←hfl,←hz,←hhd,←hxat,←hlst,←hdu];rfl
 obtain⟨B,hB⟩:∃B:Bool,(B=true↔hd=true∧xat<z):=bool_is
 obtain⟨u0,u1⟩:96≤du∧du≤9167:=by rw[←hdu];exact⟨HXK.out.d0,HXK.out.d1⟩
 obtain⟨u2,u3⟩:0≤lst∧lst≤topT+33554432:=by rw[←hlst];exact⟨HOK.out.l0,HOK.out.l1⟩
 have etop:topT=1152921504606846976:=rfl
 rw[etop] at u3
 have v1:IntKind.i64.wrap (lst+du)=z:=(IntWalk.i64_in _ (by omega)).trans hz
 rw[hfre,hhd,hlst] at HG4
 rw[hxat,hdu] at HC4
 rw[hxat]
 have h7:W4.cell? ⟨g,7,none⟩=some (.bool hd):=cP HG4.out 7
 have h8:W4.cell? ⟨g,8,none⟩=some (.int .i64 lst):=cP HG4.out 8
 have e0:W4.cell? ⟨cb,0,none⟩=some (.int .i64 xat):=cP HC4.out 0
 have e3:W4.cell? ⟨cb,3,none⟩=some (.int .i64 du):=cP HC4.out 3
 have HBB:=hid hB
 have HFL:=hid hflE
 have HEQ:=hid (And.intro hfl (And.intro hxat (And.intro hhd (And.intro hlst (And.intro hdu hfre)))))
 clear hB hflE hfl hxat hhd hlst hdu hfre hz u0 u1 u2 u3 etop
 go_cut [60] from 44 to 60 (fun s60 wc=>s60=.bool B∧Below W4.heap.size W4 wc)
 case first=>
  cases hd with
  |false=>
   have HTE:Hid (B=false):=by cases B with
    |false=>rfl
    |true=>exact absurd (HBB.out.1 rfl).1 Bool.noConfusion
   clear HBB HFL HEQ
   go_quiet (fail)
   go_wp2
   go_meet
   case rel=>exact⟨by rw[HTE.out],below_drewN (Below.refl _ _) _⟩
  |true=>
   by_cases hlt:xat<z
   ·have HTE:Hid (B=true):=HBB.out.2 ⟨rfl,hlt⟩
    have g1:decide (xat<z)=true:=dT hlt
    clear HBB HFL HEQ hlt
    go_quiet (fail)
    go_wp2
    go_meet
    case rel=>exact⟨by rw[HTE.out],below_drewN (Below.refl _ _) _⟩
   ·have HTE:Hid (B=false):=by cases B with
     |false=>rfl
     |true=>exact absurd (HBB.out.1 rfl).2 hlt
    have g1:decide (xat<z)=false:=dF hlt
    clear HBB HFL HEQ hlt
    go_quiet (fail)
    go_wp2
    go_meet
    case rel=>exact⟨by rw[HTE.out],below_drewN (Below.refl _ _) _⟩
 case rest=>
 obtain⟨rfl,hbc⟩:=hcut
 have e2:wc.cell? ⟨cb,2,none⟩=some (.int .i64 0):=cP (kP HC4.out hbc) 2
 have f2:wc.frozen? ⟨cb,2,none⟩=false:=hpFree (kP HC4.out hbc) 2
 have o1:bits .or .i64 0 2=2:=by decide
 have HBC:=hid hbc
 clear h7 h8 e0 e3 v1 hbc
 go_upto_if 60 with(fail)
 go_cut [] from 60 to 66 (fun wd=>Hid (wd.heap[cb]?=some (.cells #[.int .i64 xat,.int .u8 x.val,.int .i64 fl,.int .i64 du] 174)∧Keeps (· =cb) W4 wd))
 case first=>
  cases B with
  |false=>
   have HE:Hid (fl=0):=by show _=_;rw[HFL.out,if_neg (fun h=>by have:=HBB.out.2 h;cases this)]
   clear HBB HFL
   go_wp2
   go_meet
   case rel=>rw[HE.out];exact⟨kP HC4.out HBC.out,Keeps.of_below HBC.out⟩
  |true=>
   have HE:Hid (fl=2):=by show _=_;rw[HFL.out,if_pos (HBB.out.1 rfl)]
   clear HBB HFL
   go_wp2
   go_meet
   case rel=>rw[HE.out];exact⟨hpSet (kP HC4.out HBC.out) 2 _,(Keeps.of_below (F:=(· =cb)) HBC.out).trans (ks1 (Keeps.refl (· =cb) wc) 2 _) (fun _ _ e=>e)⟩
 case rest=>
 have HMD:=hcut
 clear e2 f2 o1 HBC HBB
 have HGD:=hid (kU HG4.out HMD.out.2 (fun e=>HGC.out e.symm))
 have h7:wc.cell? ⟨g,7,none⟩=some (.bool hd):=cP HGD.out 7
 have h8:wc.cell? ⟨g,8,none⟩=some (.int .i64 lst):=cP HGD.out 8
 have q7:wc.frozen? ⟨g,7,none⟩=false:=hpFree HGD.out 7
 have q8:wc.frozen? ⟨g,8,none⟩=false:=hpFree HGD.out 8
 have e0:wc.cell? ⟨cb,0,none⟩=some (.int .i64 xat):=cP HMD.out.1 0
 go_upto_region 7 with(fail)
 go_region
 obtain⟨W7,hW7⟩:∃W,((wc.setCell ⟨g,7,none⟩ (.bool true)).setCell ⟨g,8,none⟩ (.int .i64 xat)).drew=W:=⟨_,rfl⟩
 have hk7:Keeps (· =g) wc W7:=by rw[←hW7];exact(ks1 (ks1 (Keeps.refl (· =g) wc) 7 _) 8 _).trans (Keeps.of_below (F:=(· =g)) (Below.refl _ _).drew) (fun _ _ e=>e)
 have pG7:W7.heap[g]?=some (.cells (LnC sv av lp (.slice none 0 0) tv (.slice pa' m pc') fre true xat) 125):=by rw[←hW7];exact hpSet (hpSet HGD.out 7 _) 8 _
 have pC7:=kU HMD.out.1 hk7 HGC.out
 rw[hW7]
 have HK7:=hid hk7
 have HG7:=hid pG7
 have HC7:=hid pC7
 have r6:W7.cell? ⟨g,6,none⟩=some (.int .i64 fre):=cP pG7 6
 have r8:W7.cell? ⟨g,8,none⟩=some (.int .i64 xat):=cP pG7 8
 have w6:W7.frozen? ⟨g,6,none⟩=false:=hpFree pG7 6
 obtain⟨mx,hmx⟩:∃y,max fre xat=y:=⟨_,rfl⟩
 have m1:(if fre<xat then xat else fre)=mx:=by rw[←hmx];omega
 have HMX:=hid hmx
 clear hk7 pG7 pC7 hW7 h7 h8 q7 q8 e0 hmx
 go_upto_region 8 with(fail)
 go_region
 obtain⟨W8,hW8⟩:∃W,(W7.setCell ⟨g,6,none⟩ (.int .i64 mx)).drew=W:=⟨_,rfl⟩
 have hk8:Keeps (· =g) W7 W8:=by rw[←hW8];exact(ks1 (Keeps.refl (· =g) W7) 6 _).trans (Keeps.of_below (F:=(· =g)) (Below.refl _ _).drew) (fun _ _ e=>e)
 have pG8:W8.heap[g]?=some (.cells (LnC sv av lp (.slice none 0 0) tv (.slice pa' m pc') mx true xat) 125):=by rw[←hW8];exact hpSet HG7.out 6 _
 have pC8:=kU HC7.out hk8 HGC.out
 have hgl:g<w.heap.size:=hpLt HAT.out
 have hcbl:=HCB.out
 have pE8:W8.heap[w.heap.size]?=some (.cells #[.int .i64 0,.int .u8 0,.int .i64 0] 132):=kU (kU (kU HE4.out HMD.out.2 (fun e=>by have e':w.heap.size=cb:=e;omega)) HK7.out (fun e=>by have e':w.heap.size=g:=e;omega)) hk8 (fun e=>by have e':w.heap.size=g:=e;omega)
 have hrow8:∀j u,(#[.int .i64 xat,.int .u8 x.val,.int .i64 fl]:Array Value).toList[j]?=some u→W8.cell? ((⟨cb,0,none⟩:Addr).add j)=some u:=fun j u hj=>by
  rw[Addr.add_lit,Nat.zero_add,cP pC8]
  rcases j with _|_|_|j
  ·exact hj
  ·exact hj
  ·exact hj
  ·cases hj
 rw[hW8]
 have HK8:=hid hk8
 have HG8:=hid pG8
 clear hW8 hk8 pG8 pC8 r6 r8 w6 m1
 go_wp2_with (first
  |(refine wpList_load_at rfl 132 (.tmp 88) rfl ⟨cb,0,none⟩ rfl #[.int .i64 xat,.int .u8 x.val,.int .i64 fl] _ hrow8 Tryz.underlying132 rfl infoEvW ?_)
  |(refine wpList_storeW rfl 132 (.tmp 4) (.tmp 89) rfl w.heap.size 0 _ 132 #[.int .i64 xat,.int .u8 x.val,.int .i64 fl] rfl rfl pE8 (by simp) infoEvW rfl ?_;intro w9 g9 hk9 hz9))
 have p9:w9.heap[w.heap.size]?=some (.cells #[.int .i64 xat,.int .u8 x.val,.int .i64 fl] 132):=g9
 refine bodyPost_ret (results_ct_row rfl _ _ w.heap.size 132 _ (0,0) _ rfl p9 Tryz.underlying132 rfl infoEvW) rfl ?_
 obtain⟨q1,q2,q3,q4,q5,q6⟩:=HEQ.out
 obtain⟨n1,n2⟩:=HMN.out
 have hpg:=(HH.out.pn.blk pg rfl)
 have h49:Keeps (fun j=>j=g∨w.heap.size≤j) W4 w9:=(((HMD.out.2.mono (fun j _ e=>.inr (by omega))).trans (HK7.out.mono (fun j _ e=>.inl e)) (fun _ _ e=>e)).trans (HK8.out.mono (fun j _ e=>.inl e)) (fun _ _ e=>e)).trans (hk9.mono (fun j _ e=>.inr (by omega))) (fun _ _ e=>e)
 have hkg:Keeps (· =g) w w9:=HK4.out.trans h49 (fun j hj e=>by
  rcases e with e|e
  ·exact e
  ·omega)
 obtain⟨a1,a2⟩:=HH.out.chg (s':=s.next x r) (pv':=.slice pa' m pc') (hkg.mono (fun j _ e=>.inl e)) (by
  have h9:=kU HG8.out hk9 (fun e=>by have e':g=w.heap.size:=e;omega)
  show w9.heap[g]?=some (.cells (LnC sv av lp (.slice none 0 0) tv (.slice pa' m pc') (max s.free x.at_) true x.at_) 125)
  rw[q6,q2,HMX.out]
  exact h9) rfl ((HPN.out.keeps hkg (fun j hj e=>by
   have e1:pg=j:=by injection hj
   exact hpg.1 (e1.trans e))).mono (fun j hj=>.inl hj))
 refine⟨?_,⟨_,_,_,a1⟩,a2⟩
 rw[q1,q2]
 rfl
def MC (c:Cf) (sv:Value) (gl:Nat) (lk:Value) (st now:Int):Array Value:=#[sv,.int .i64 c.fi,.int .i64 c.la,.int .i64 c.re,.int .i64 c.ti,.int .i64 c.de,.int .i64 (c.win 0).1,.int .i64 (c.win 0).2,.int .i64 (c.win 1).1,.int .i64 (c.win 1).2,.int .i64 (c.win 2).1,.int .i64 (c.win 2).2,.int .i64 (c.win 3).1,.int .i64 (c.win 3).2,.int .i64 c.ev,.int .i64 c.st,.pointer (some ⟨gl,0,none⟩),lk,.int .i64 st,.int .i64 now]
structure Fx where
 la:Option Addr
 ln:Nat
 lc:Nat
 aa:Option Addr
 an:Nat
 ac:Nat
 lp:Bool
 l:List Sl
 ats:List At
structure Ms where
 n:Ln
 b:Bool
 x:Tx
 set:Int
 now:Int
def lkV (b:Bool) (gj:Nat):Value:=.pointer (if b=true then some ⟨gj,0,none⟩ else none)
structure MsS (gm gl gj k:Nat) (P PL Q:Nat→Prop) (c:Cf) (sv:Value) (f:Fx) (y:Ms) (s:Lk) (W:World):Prop where
 at_:W.heap[gm]?=some (.cells (MC c sv gl (lkV y.b gj) y.set y.now) 129)
 ln:LnAt PL W gl (.slice f.la f.ln f.lc) (.slice f.aa f.an f.ac) f.lp y.n
 G:LnG P W f.la f.ln f.lc f.aa f.an f.ac f.l f.ats f.lp
 nok:y.n.ok
 pk:y.b=true→PK gj k Q y.x s W
 qlt:∀j,Q j→j<W.heap.size
 dis:∀j,PL j→¬Q j
 gm1:¬PL gm
 gm2:¬Q gm
 pl:∀j,PL j→P j
 pq:∀j,Q j→P j
 pm:P gm
 plt:∀j,P j→j<W.heap.size
 rgs:∀X,Keeps P W X→Rgs X sv c.sets
 chk:chkE c=0
theorem LnAt.lts {P:Nat→Prop} {W:World} {g:Nat} {sv av:Value} {lp:Bool} {s:Ln} (h:LnAt P W g sv av lp s):∀j,P j→j<W.heap.size:=by
 obtain⟨tv,pv,cs,h⟩:=h
 exact h.pl
theorem GrowP.step {P:Nat→Prop} {W0 W W':World} {j:Nat} (h:GrowP (GrowP P W0 W) W W' j) (h1:W0.heap.size≤W.heap.size) (h2:W.heap.size≤W'.heap.size):GrowP P W0 W' j:=by
 rcases h with(h|⟨a,b⟩)|⟨a,b⟩
 ·exact .inl h
 ·exact .inr ⟨a,by omega⟩
 ·exact .inr ⟨by omega,b⟩
theorem MsS.keep {gm gl gj k:Nat} {P PL Q F:Nat→Prop} {c:Cf} {sv:Value} {f:Fx} {y:Ms} {s:Lk} {W X:World} (h:MsS gm gl gj k P PL Q c sv f y s W) (hk:Keeps F W X) (hn:∀j,P j→¬F j) (hs:∀Y,Keeps P X Y→Rgs Y sv c.sets∧Slvs Y (.slice f.la f.ln f.lc) f.l∧Ats Y (.slice f.aa f.an f.ac) f.ats):MsS gm gl gj k P PL Q c sv f y s X:=
 {at_:=kU h.at_ hk (hn gm h.pm)
  ln:=h.ln.keep hk (fun j hj=>hn j (h.pl j hj))
  G:=⟨fun Y hY=>(hs Y hY).2,h.G.ln_,h.G.an_,h.G.bus,h.G.ok,h.G.lp_⟩
  nok:=h.nok
  pk:=fun hb=>(h.pk hb).keeps hk (fun j hj=>hn j (h.pq j hj))
  qlt:=fun j hj=>Nat.lt_of_lt_of_le (h.qlt j hj) hk.size
  dis:=h.dis,gm1:=h.gm1,gm2:=h.gm2,pl:=h.pl,pq:=h.pq,pm:=h.pm
  plt:=fun j hj=>Nat.lt_of_lt_of_le (h.plt j hj) hk.size
  rgs:=fun Y hY=>(hs Y hY).1
  chk:=h.chk}
theorem MsS.keepB {gm gl gj k:Nat} {P PL Q:Nat→Prop} {c:Cf} {sv:Value} {f:Fx} {y:Ms} {s:Lk} {W X:World} (h:MsS gm gl gj k P PL Q c sv f y s W) (hb:Below W.heap.size W X):MsS gm gl gj k P PL Q c sv f y s X:=
 h.keep (F:=fun _=>False) (Keeps.of_below hb) (fun _ _ e=>e) (fun Y hY=>⟨h.rgs Y ((Keeps.of_below hb).trans hY (fun _ _ e=>e)),h.G.rd Y ((Keeps.of_below hb).trans hY (fun _ _ e=>e))⟩)
theorem MsS.wider {gm gl gj k:Nat} {P P' PL Q:Nat→Prop} {c:Cf} {sv:Value} {f:Fx} {y:Ms} {s:Lk} {W:World} (h:MsS gm gl gj k P' PL Q c sv f y s W) (hp:∀j,P' j→P j) (hl:∀j,P j→j<W.heap.size)
  (hs:∀Y,Keeps P W Y→Rgs Y sv c.sets∧Slvs Y (.slice f.la f.ln f.lc) f.l∧Ats Y (.slice f.aa f.an f.ac) f.ats):MsS gm gl gj k P PL Q c sv f y s W:=
 {h with
  G:=⟨fun Y hY=>(hs Y hY).2,h.G.ln_,h.G.an_,h.G.bus,h.G.ok,h.G.lp_⟩
  pl:=fun j hj=>hp j (h.pl j hj)
  pq:=fun j hj=>hp j (h.pq j hj)
  pm:=hp gm h.pm
  plt:=hl
  rgs:=fun Y hY=>(hs Y hY).1}
theorem MsS.line {gm gl gj k:Nat} {P PL Q:Nat→Prop} {c:Cf} {sv:Value} {f:Fx} {y:Ms} {s:Lk} {W W':World} {n':Ln} (h:MsS gm gl gj k P PL Q c sv f y s W) (hl:LnAt (GrowP PL W W') W' gl (.slice f.la f.ln f.lc) (.slice f.aa f.an f.ac) f.lp n') (hk:Keeps PL W W') (hok:n'.ok):
    MsS gm gl gj k (GrowP P W W') (GrowP PL W W') Q c sv f {y with n:=n'} s W'∧Keeps P W W':=by
  have hz:=hk.size
  have hkP:Keeps P W W':=hk.mono (fun j _ e=>h.pl j e)
  have hX:∀Y,Keeps (GrowP P W W') W' Y→Keeps P W Y:=fun Y hY=>hkP.trans hY (fun j hj e=>by
    rcases e with e|e
    · exact e
    · omega)
  exact⟨{
           at_:=kU h.at_ hk h.gm1
           ln:=hl
           G:=⟨fun Y hY=>h.G.rd Y (hX Y hY),h.G.ln_,h.G.an_,h.G.bus,h.G.ok,h.G.lp_⟩
           nok:=hok
           pk:=fun hb=>(h.pk hb).keeps hk (fun j hj e=>h.dis j e hj)
           qlt:=fun j hj=>Nat.lt_of_lt_of_le (h.qlt j hj) hz
           dis:=fun j hj e=>by
             rcases hj with hj|hj
             · exact h.dis j hj e
             · have:=h.qlt j e
               omega
           gm1:=fun e=>by
             rcases e with e|e
             · exact h.gm1 e
             · have:=h.plt gm h.pm
               omega
           gm2:=h.gm2
           pl:=fun j hj=>by
             rcases hj with hj|hj
             · exact .inl (h.pl j hj)
             · exact .inr hj
           pq:=fun j hj=>.inl (h.pq j hj)
           pm:=.inl h.pm
           plt:=fun j hj=>by
             rcases hj with hj|hj
             · exact Nat.lt_of_lt_of_le (h.plt j hj) hz
             · exact hj.2
           rgs:=fun Y hY=>h.rgs Y (hX Y hY)
           chk:=h.chk},hkP⟩
theorem MsS.link {gm gl gj k k':Nat} {P PL Q:Nat→Prop} {c:Cf} {sv:Value} {f:Fx} {y:Ms} {s s':Lk} {W W':World} {x':Tx} (h:MsS gm gl gj k P PL Q c sv f y s W) (hl:PK gj k' (Grow Q W W') x' s' W') (hk:Keeps Q W W'):
    MsS gm gl gj k' (GrowP P W W') PL (Grow Q W W') c sv f {y with x:=x'} s' W'∧Keeps P W W':=by
  have hz:=hk.size
  have hkP:Keeps P W W':=hk.mono (fun j _ e=>h.pq j e)
  have hX:∀Y,Keeps (GrowP P W W') W' Y→Keeps P W Y:=fun Y hY=>hkP.trans hY (fun j hj e=>by
    rcases e with e|e
    · exact e
    · omega)
  exact⟨{
           at_:=kU h.at_ hk h.gm2
           ln:=h.ln.keep hk (fun j hj e=>h.dis j hj e)
           G:=⟨fun Y hY=>h.G.rd Y (hX Y hY),h.G.ln_,h.G.an_,h.G.bus,h.G.ok,h.G.lp_⟩
           nok:=h.nok
           pk:=fun _=>hl
           qlt:=hl.pin
           dis:=fun j hj e=>by
             rcases e with e|e
             · exact h.dis j hj e
             · have:=h.plt j (h.pl j hj)
               omega
           gm1:=h.gm1
           gm2:=fun e=>by
             rcases e with e|e
             · exact h.gm2 e
             · have:=h.plt gm h.pm
               omega
           pl:=fun j hj=>.inl (h.pl j hj)
           pq:=fun j hj=>by
             rcases hj with hj|hj
             · exact .inl (h.pq j hj)
             · exact .inr hj
           pm:=.inl h.pm
           plt:=fun j hj=>by
             rcases hj with hj|hj
             · exact Nat.lt_of_lt_of_le (h.plt j hj) hz
             · exact hj.2
           rgs:=fun Y hY=>h.rgs Y (hX Y hY)
           chk:=h.chk},hkP⟩
theorem MsS.own {gm gl gj gj' k k':Nat} {P PL Q Q':Nat→Prop} {c:Cf} {sv:Value} {f:Fx} {y:Ms} {s s':Lk} {W W':World} {b':Bool} {x':Tx} {st' now':Int} (h:MsS gm gl gj k P PL Q c sv f y s W) (hk:Keeps (· =gm) W W') (ha:W'.heap[gm]?=some (.cells (MC c sv gl (lkV b' gj') st' now') 129))
    (hp:b'=true→PK gj' k' Q' x' s' W) (hq:∀j,Q' j→j<W.heap.size∧¬PL j∧j≠gm∧P j):
    MsS gm gl gj' k' P PL Q' c sv f ⟨y.n,b',x',st',now'⟩ s' W'∧Keeps P W W':=by
  have hz:=hk.size
  have hkP:Keeps P W W':=hk.mono (fun j _ e=>by have e':j=gm:=e;rw[e'];exact h.pm)
  have hX:∀Y,Keeps P W' Y→Keeps P W Y:=fun Y hY=>hkP.trans hY (fun j hj e=>e)
  exact⟨{
           at_:=ha
           ln:=h.ln.keep hk (fun j hj e=>h.gm1 (by have e':j=gm:=e;rw[←e'];exact hj))
           G:=⟨fun Y hY=>h.G.rd Y (hX Y hY),h.G.ln_,h.G.an_,h.G.bus,h.G.ok,h.G.lp_⟩
           nok:=h.nok
           pk:=fun hb=>(hp hb).keeps hk (fun j hj=>(hq j hj).2.2.1)
           qlt:=fun j hj=>Nat.lt_of_lt_of_le (hq j hj).1 hz
           dis:=fun j hj e=>(hq j e).2.1 hj
           gm1:=h.gm1
           gm2:=fun e=>(hq gm e).2.2.1 rfl
           pl:=h.pl
           pq:=fun j hj=>(hq j hj).2.2.2
           pm:=h.pm
           plt:=fun j hj=>Nat.lt_of_lt_of_le (h.plt j hj) hz
           rgs:=fun Y hY=>h.rgs Y (hX Y hY)
           chk:=h.chk},hkP⟩
theorem infoStm:(Tryz.prog.info? 61).map (fun i=>(i.zero,i.size,i.bytes))=some (some (.agg #[.int .i64 0,.int .i64 0]),2,16):=by kernel_rfl
def CloneStPost (w:World) (l:List (Int×Int)) (r:Ending) (w':World):Prop:=∃a c,r=.returned (.slice a l.length c)∧w'.ownsRow w.heap.size 61 2 (.slice a l.length c) l.length (setV l)∧Below w.heap.size w w'
theorem CloneStPost.own {w w':World} {l:List (Int×Int)} {v:Value} {n:Nat} {cs:List Value} (hcs:cs=setV l) (hn:n=l.length) (h:w'.ownsRow w.heap.size 61 2 v n cs) (hb:Below w.heap.size w w'):CloneStPost w l (.returned v) w':=by
 subst hcs hn
 obtain⟨a,c,rfl⟩:=own_slice h
 exact⟨a,c,rfl,h,hb⟩
theorem cloneSt_any (v:Value) (l:List (Int×Int)) (w:World) (hv:Rgs w v l) (hl:l.length≤1000000):Calls Tryz.prog 71 #[v] w (CloneStPost w l):=by
 obtain⟨i5,hi,hz0,hz1,hz2⟩:=info_parts infoStm
 obtain⟨a,c,rfl,hc,hcm,hac,h4⟩:=id hv
 unfold maxLen at hcm
 have hq:=Lib.run_eql_slice_nil (P:=Tryz.prog)
 cases a with
 |none=>
  obtain rfl:=hac rfl
  have hl0:l.length=0:=by omega
  have:l=[]:=List.eq_nil_of_length_eq_zero hl0
  subst this
  clear hv h4
  go_enter Tryz.func71,Tryz.ntmps71
  go_wp2
  go_ret
  exact CloneStPost.own (cs:=[]) (n:=0) rfl rfl (World.ownsRow_nil _ _ _ _) (Below.refl _ _)
 |some a=>
  by_cases hne:l=[]
  ·subst hne
   clear hv h4
   go_enter Tryz.func71,Tryz.ntmps71
   go_wp2_with (at_builtin;refine wpList_appN rfl _ _ 22 rfl w.heap.size 61 i5 _ 2 16 Tryz.underlying22 hi hz0 hz1 hz2 rfl (by decide) _ 0 [] rfl (World.ownsRow_made _ _ _ (Nat.le_refl _) (by decide) rfl) a 0 c [] rfl rfl (by simp) (by simp) (by unfold maxLen;omega) (by omega) (by simp) ?c3)
   case c3=>
    intro v' w1 hown hgr _
    have hbel:=(bal' w (.cells #[] 61)).grown hgr (bal' w (.cells #[] 61)).size (by intro k hk;simp [Value.ownBlock] at hk;omega)
    have HOWN:=hid hown
    clear hgr hown
    go_wp2
    go_ret
    exact CloneStPost.own (cs:=[]) (n:=0) rfl rfl (by simpa using HOWN.out) hbel
  ·obtain ⟨b,o,hab,-⟩:=h4 hne
   cases hab
   have hcell:Hid (∀j u,(setV l)[j]?=some u→(w.alloc (.cells #[] 61)).cell? ((⟨b,o,none⟩:Addr).add j)=some u):=fun j u hj=>by
    have e1:(⟨b,o,none⟩:Addr).add j=⟨b,o+j,none⟩:=by unfold Addr.add;split<;>simp_all
    rw[e1]
    exact cell_keep (bal' w _) (hv.rowW j u hj)
   have HL:Hid ((setV l).length=l.length*2):=setV_length l
   have H1:Hid (∀u∈setV l,u.oneCell'=true):=setW_one l
   clear hv h4 hne
   go_enter Tryz.func71,Tryz.ntmps71
   go_wp2_with (at_builtin;refine wpList_appN rfl _ _ 22 rfl w.heap.size 61 i5 _ 2 16 Tryz.underlying22 hi hz0 hz1 hz2 rfl (by decide) _ 0 [] rfl (World.ownsRow_made _ _ _ (Nat.le_refl _) (by decide) rfl) ⟨b,o,none⟩ l.length c (setV l) rfl HL.out hcell.out H1.out (by unfold maxLen;omega) (by omega) (by simp) ?c3)
   case c3=>
    intro v' w1 hown hgr _
    have hbel:=(bal' w (.cells #[] 61)).grown hgr (bal' w (.cells #[] 61)).size (by intro k hk;simp [Value.ownBlock] at hk;omega)
    have HOWN:=hid (show w1.ownsRow w.heap.size 61 2 v' l.length (setV l) by simpa using hown)
    clear hgr hown
    go_wp2
    go_ret
    exact CloneStPost.own rfl rfl HOWN.out hbel
theorem CloneStPost.rgs {w w':World} {l:List (Int×Int)} {r:Ending} (h:CloneStPost w l r w') (hwf:∀x∈l,wfI x.1∧wfI x.2):∃a c,r=.returned (.slice a l.length c)∧(∀X,Agree w.heap.size w' X→Rgs X (.slice a l.length c) l)∧Below w.heap.size w w':=by
 obtain⟨a,c,rfl,h1,h2⟩:=h
 exact⟨a,c,rfl,fun X hX=>Sls.of_own (own_agree h1 (Nat.le_refl _) hX) (setW_csl l hwf) rfl,h2⟩
theorem GrowP.later {P:Nat→Prop} {W X Y:World} {j:Nat} (h:GrowP P X Y j) (hz:W.heap.size≤X.heap.size):GrowP P W Y j:=by
 rcases h with h|⟨a,b⟩
 ·exact .inl h
 ·exact .inr ⟨by omega,b⟩
theorem LnAt.widen {P Q:Nat→Prop} {W:World} {g:Nat} {sv av:Value} {lp:Bool} {s:Ln} (h:LnAt P W g sv av lp s) (hq:∀j,P j→Q j) (hl:∀j,Q j→j<W.heap.size):LnAt Q W g sv av lp s:=by
 obtain⟨tv,pv,cs,h⟩:=h
 exact⟨tv,pv,cs,h.mono hq hl⟩
def Tx.kind (x:Tx):Int:=if x.ph=0 then 0 else if x.ph=1 then 1 else if x.ph=5 then 3 else 2
def Tx.when (x:Tx):Int:=if x.ph=1 then x.now else if x.ph=0∨x.ph=5 then 0 else x.til
def Tx.bytes (x:Tx):List UInt8:=if x.ph=1 then aduF (UInt8.ofNat x.un.toNat) x.q.pdu else []
def ActPost (w:World) (K T:Int) (F:List UInt8) (r:Ending) (w':World):Prop:=
 ∃(a:Option Addr) (c:Nat),r=.returned (.agg #[.int .i64 K,.int .i64 T,.slice a F.length c])∧Bs w' (.slice a F.length c) F∧Below w.heap.size w w'
theorem ActPost.none {w w':World} {K T:Int} {r:Ending} (h:r=.returned (.agg #[.int .i64 K,.int .i64 T,.slice none 0 0])) (hb:Below w.heap.size w w'):ActPost w K T [] r w':=⟨Option.none,0,h,Bs.nil w',hb⟩
theorem Tx.actions (x:Tx) {k:Nat} (h:x.ok k):(x.ph=0∧x.kind=0∧x.when=0∧x.bytes=[])∨(x.ph=1∧x.kind=1∧x.when=x.now∧x.bytes=aduF (UInt8.ofNat x.un.toNat) x.q.pdu)∨(x.hears∧x.kind=2∧x.when=x.til∧x.bytes=[])∨(x.ph=5∧x.kind=3∧x.when=0∧x.bytes=[]):=by
 have h0:=h.ph0
 have h1:=h.ph1
 unfold Tx.kind Tx.when Tx.bytes Tx.hears
 by_cases e0:x.ph=0
 ·left;simp [e0]
 ·by_cases e1:x.ph=1
  ·right;left;simp [e1]
  ·by_cases e5:x.ph=5
   ·right;right;right;simp [e5]
   ·right;right;left
    rw[if_neg e0,if_neg e1,if_neg e5,if_neg e1,if_neg (by omega),if_neg e1]
    exact⟨by omega,rfl,rfl,rfl⟩
theorem pk_action {g k:Nat} {P:Nat→Prop} {x:Tx} {s:Lk} {W:World} (h:PK g k P x s W):
  Calls Tryz.prog 61 #[.pointer (some ⟨g,0,none⟩)] W (ActPost W x.kind x.when x.bytes):=by
 have hph:=h.ph
 rcases x.actions h.ok with⟨e,e1,e2,e3⟩|⟨e,e1,e2,e3⟩|⟨e,e1,e2,e3⟩|⟨e,e1,e2,e3⟩
 ·rw [e1,e2,e3]
  exact(action_none g s W h.at_ (by omega)).mono fun _ _ hr=>ActPost.none hr.1 hr.2
 ·rw [e1,e2,e3]
  have hlv:x.live:=by unfold Tx.live;omega
  have hl:=aduF_length (UInt8.ofNat x.un.toNat) x.q.pdu
  have hl2:=Rq.pdu_len x.q
  refine(action_send g s _ W h.at_ (by omega) (h.fr hlv) (by omega)).mono ?_
  rintro r w' ⟨a,c,rfl,hb,hbl⟩
  exact⟨a,c,by rw[h.now],hb,hbl⟩
 ·rw [e1,e2,e3]
  obtain⟨n1,n2,n3⟩:=h.en e
  refine(action_listen g s W h.at_ (by unfold Tx.hears at e;unfold Lk.hears;omega)).mono ?_
  rintro r w' ⟨hr,hb⟩
  exact ActPost.none (by rw[hr,n2]) hb
 ·rw [e1,e2,e3]
  exact(action_done g s W h.at_ (by omega)).mono fun _ _ hr=>ActPost.none hr.1 hr.2
theorem pk_now {g k:Nat} {P:Nat→Prop} {x:Tx} {s:Lk} {W:World} (h:PK g k P x s W):
  Calls Tryz.prog 64 #[.pointer (some ⟨g,0,none⟩)] W fun r w'=>r=.returned (.int .i64 x.now)∧W=w':=by
 rw[←h.now]
 exact now_any g s W h.at_
def Tx.shown (x:Tx):Oc:=if x.ph=5 then x.out else Oc.zero
def ShowPost (w:World) (o:Oc) (V:Bool) (r:Ending) (w':World):Prop:=∃(da:Option Addr) (dc:Nat) (oa:Option Addr) (oc:Nat),r=.returned (.tuple #[.agg #[.int .i64 o.verdict,.int .i64 o.reply.fn,.int .i64 o.reply.exc,.slice da o.reply.data.length dc,.int .i64 o.reply.code,.int .i64 o.reply.level,.bool o.reply.more,.int .i64 o.reply.next,.slice oa o.reply.objs.length oc],.bool V])∧(∀W,Agree w.heap.size w' W→RpIs W o.reply da dc oa oc)∧Below w.heap.size w w'
theorem pk_outcome {g k:Nat} {P:Nat→Prop} {x:Tx} {s:Lk} {W:World} (h:PK g k P x s W):
  Calls Tryz.prog 65 #[.pointer (some ⟨g,0,none⟩)] W (ShowPost W x.shown (decide (x.ph=5))):=by
 have hph:=h.ph
 unfold Tx.shown
 by_cases e:x.ph=5
 ·rw [if_pos e,dT e]
  obtain⟨o1,o2⟩:=h.out e
  rw[←o1]
  exact outcome_done g s W h.at_ (by omega) (o2 W (Nat.le_refl _) (fun _ _=>rfl))
 ·rw [if_neg e,dF e]
  refine(outcome_not g s W h.at_ (by omega)).mono ?_
  rintro r w' ⟨rfl,hb⟩
  exact⟨none,0,none,0,rfl,fun V _=>RpIs.zero V,hb⟩
end Go.Proofs.YtoaoejaodhedaaaGreat
