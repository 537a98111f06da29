import Derived.Test.YtoaoejaodhedaaaGreatQ21
namespace Go.Proofs.YtoaoejaodhedaaaGreat
open Go.RowKit
set_option maxHeartbeats 12800000
set_option maxRecDepth 100000
def LnC (sv av:Value) (lp:Bool) (cv tv pv:Value) (free:Int) (hd:Bool) (la:Int):Array Value:=#[sv,av,.bool lp,cv,tv,pv,.int .i64 free,.bool hd,.int .i64 la]
theorem infoSlW:(Tryz.prog.info? 68).map (fun i=>(i.zero,i.size,i.bytes))=some (some (.agg #[.int .i64 0,.int .i64 0,.int .i64 0,.bool false,.slice none 0 0,.int .i64 0,.bool false,.slice none 0 0,.int .i64 0,.bool false,.slice none 0 0,.int .i64 0,.bool false,.slice none 0 0,.int .i64 0,.int .i64 0,.slice none 0 0,.bool false,.slice none 0 0]),19,248):=by kernel_rfl
theorem val_bd {s:Sl} (h:s.val):SlBd s:=by
 have ho:s.objs.length≤16:=by
  by_cases e:0<s.lv
  ·exact (h.on e).1
  ·have:=h.l0 (by have:=h.lv;omega)
   omega
 refine⟨fun k hk=>?_,by omega,fun i x hx=>?_,by have:=h.sl;omega⟩
 ·have h1:=h.tb k hk
  cases hs:(s.ts k).sup with
  |true=>have:=(h1.2 hs).1;omega
  |false=>have:=(h1.1 hs).1;omega
 ·by_cases e:0<s.lv
  ·have:=h.vl e i x hx
   omega
  ·have:=h.l0 (by have:=h.lv;omega)
   have:=(List.getElem?_eq_some_iff.1 hx).1;omega
theorem slFoldW (s:Sl) (rv:Nat→Value) (ov sv:Value) (C:Array Value) (hC:SlC s rv ov sv=C):Array.foldl (fun (cs:Array Value) (x:Value×Nat)=>cs.setIfInBounds x.snd x.fst) #[.int .i64 0,.int .i64 0,.int .i64 0,.bool false,.slice none 0 0,.int .i64 0,.bool false,.slice none 0 0,.int .i64 0,.bool false,.slice none 0 0,.int .i64 0,.bool false,.slice none 0 0,.int .i64 0,.int .i64 0,.slice none 0 0,.bool false,.slice none 0 0] C.zipIdx 0 19=C:=by
 subst hC
 kernel_rfl
theorem rowAtW {w:World} {b:Nat} {C:Array Value} {t:TypeId} {fz:Nat×Nat} (h:w.heap[b]?=some (.cells C t fz)) (j:Nat) (v:Value) (hj:C.toList[j]?=some v):w.cell? ((⟨b,0,none⟩:Addr).add j)=some v:=by
 rw[Addr.add_lit,Nat.zero_add,bA h];simpa using hj
theorem run_load_rowW {P:Program} {ev:Operand→Value} {o:Oper} {w:World} (ty:TypeId) (x:Operand) (ho:o.op=.load ty x)
  (ad:Addr) (hx:ev x=.pointer (some ad)) (cs:Array Value) (d:TypeDesc) (hc:∀j v,cs.toList[j]?=some v→w.cell? (ad.add j)=some v)
  (hu:P.underlying ty=some d) (hd:(match d with|.struct _|.array _ _=>true|_=>false)=true) (hi:(P.info? ty).map (·.size)=some cs.size):
  (execOp ev o).run P w=.ok (.value (.agg cs)) w:=by
 unfold execOp;simp only[ho,hx,Instr.loadAt,Instr.sureAddr,Sem.run_bind,Sem.run_pure,Result.andThen_ok,run_loadVar_at w ad ty cs d hc hu hd hi]
def SlQ (F:Nat→Prop) (W:World) (r:List Value) (s:Sl):Prop:=∃rv ov sv,r=(SlC s rv ov sv).toList∧∀X,Keeps F W X→SlR X s rv ov sv
theorem SlQ.keeps {F G H:Nat→Prop} {W W':World} (hk:Keeps H W W') (h1:∀j,j<W.heap.size→H j→F j) (h2:∀j,j<W.heap.size→G j→F j) (r:List Value) (s:Sl) (h:SlQ F W r s):SlQ G W' r s:=by
 obtain⟨rv,ov,sv,e,hr⟩:=h;exact⟨rv,ov,sv,e,fun X hX=>hr X ((hk.mono h1).trans hX h2)⟩
theorem SlQ.row {F:Nat→Prop} {W X:World} (hX:Keeps F W X) (r:List Value) (s:Sl) (h:SlQ F W r s):SlRow X r s:=by
 obtain⟨rv,ov,sv,e,hr⟩:=h;exact⟨rv,ov,sv,e,hr X hX⟩
def NwF (g:Nat) (v:Value) (j:Nat):Prop:=j=g∨v.ownBlock=some j
structure NwR (W4 wr:World) (g:Nat) (av:Value) (lp:Bool) (l:List Sl) (k:Nat) (a:Option Addr) (c:Nat) (cs:List Value):Prop where
 at_:wr.heap[g]?=some (.cells (LnC (.slice a k c) av lp (.slice none 0 0) (.slice none 0 0) (.slice none 0 0) 0 false 0) 125)
 own:wr.ownsRow W4.heap.size 68 19 (.slice a k c) k cs
 csl:CsL 19 (SlQ (NwF g (.slice a k c)) wr) cs (l.take k)
 kp:Keeps (· =g) W4 wr
theorem SlR.one {w:World} {s:Sl} {rv:Nat→Value} {ov sv:Value} (h:SlR w s rv ov sv):(SlC s rv ov sv).toList.all (·.oneCell')=true:=by
 refine SlC_one s rv ov sv (fun k hk=>?_) ?_ ?_
 ·obtain ⟨a,c,e,-⟩:=h.rg k hk
  rw[e];rfl
 ·obtain ⟨a,c,e,-⟩:=h.ob
  rw[e];rfl
 ·obtain ⟨a,c,e,-⟩:=h.sd
  rw[e];rfl
theorem NwR.step {W4 wr wb w6 X3 w7:World} {g:Nat} {av:Value} {lp:Bool} {l:List Sl} {k:Nat} {a a7:Option Addr} {c c7:Nat} {cs:List Value} (hg:W4.heap.size=g+1) (h:NwR W4 wr g av lp l k a c cs) {x:Sl} (hx:l[k]?=some x) (hb5:Below wr.heap.size wr wb)
  {rv:Nat→Value} {ov sv:Value} (hrd:∀W,Agree wb.heap.size w6 W→SlR W x rv ov sv) (hb6:Below wb.heap.size wb w6) (hb3:Below w6.heap.size w6 X3) (hgr:X3.grownBy w7 (Value.slice a k c).ownBlock)
  (hown:w7.ownsRow W4.heap.size 68 19 (.slice a7 (k+1) c7) (k+1) (cs++(SlC x rv ov sv).toList)) (hnew:NewOr X3 (.slice a k c) (.slice a7 (k+1) c7)):
  NwR W4 (w7.setCell ⟨g,0,none⟩ (.slice a7 (k+1) c7)) g av lp l (k+1) a7 c7 (cs++(SlC x rv ov sv).toList):=by
 have hgl:g<wr.heap.size:=cI h.at_;have z5:=hb5.size;have z6:=hb6.size;have z3:=hb3.size;have z7:=hgr.size;have hr3:Below wr.heap.size wr X3:=(hb5.trans (hb6.mono z5)).trans (hb3.mono (by omega));have hrow:∀j,(Value.slice a k c).ownBlock=some j→W4.heap.size≤j∧j<wr.heap.size:=fun j hj=>h.own.lt j hj
 have hrow7:∀j,(Value.slice a7 (k+1) c7).ownBlock=some j→(Value.slice a k c).ownBlock=some j∨X3.heap.size≤j:=fun j hj=>by
  rcases hnew with e|⟨i,e,e2⟩
  ·exact .inl (by rw[←e];exact hj)
  ·rw [hj] at e
   cases e;exact .inr e2
 have h37:Keeps (fun j=>(Value.slice a k c).ownBlock=some j) X3 w7:=Keeps.of_grown hgr (fun _ e=>e);have hks:Keeps (fun j=>j=g) w7 (w7.setCell ⟨g,0,none⟩ (.slice a7 (k+1) c7)):=(Keeps.refl _ _).set _ _ rfl;have hzF:(w7.setCell ⟨g,0,none⟩ (.slice a7 (k+1) c7)).heap.size=w7.heap.size:=by simp
 have hkF:Keeps (NwF g (.slice a k c)) wr (w7.setCell ⟨g,0,none⟩ (.slice a7 (k+1) c7)):=((Keeps.of_below (F:=NwF g (.slice a k c)) hr3).trans (h37.mono (fun j _ e=>.inr e)) (fun _ _ e=>e)).trans (hks.mono (fun j _ e=>.inl e)) (fun _ _ e=>e);have hF2:∀j,j<wr.heap.size→NwF g (.slice a7 (k+1) c7) j→NwF g (.slice a k c) j:=fun j hj e=>by
  rcases e with e|e
  ·exact .inl e
  ·rcases hrow7 j e with e|e
   ·exact .inr e
   ·omega
 refine⟨?_,?_,?_,?_⟩
 ·have h7:=bG (bB h.at_ hr3) h37 (fun e=>by have:=(hrow g e).1;omega)
  exact bX h7 0 _
 ·exact bF hown hks (fun j hj e=>by have:=(hown.lt j hj).1;omega)
 ·rw [bT hx]
  refine CsL.app _ _ (CsL.mono (fun r y hy=>SlQ.keeps hkF (fun _ _ e=>e) hF2 r y hy) _ _ h.csl) [x] _ ⟨(SlC x rv ov sv).toList,[],by simp,rfl,⟨rv,ov,sv,rfl,fun X hX=>hrd X ⟨?_,fun j h1 h2=>?_⟩⟩,rfl⟩
  ·have:=hX.size
   omega
  ·rw [hX.block j (by omega) (fun e=>?_),hks.block j (by omega) (by omega),h37.block j (by omega) (fun e=>by have:=(hrow j e).2;omega),hb3.block j h2]
   rcases e with e|e
   ·omega
   ·rcases hrow7 j e with e|e
    ·have:=(hrow j e).2
     omega
    ·omega
 ·exact h.kp.trans hkF (fun j hj e=>by
   rcases e with e|e
   ·exact e
   ·have:=(hrow j e).1
    omega)
def LnMade (w:World) (l:List Sl) (lp:Bool) (ats:List At) (r:Ending) (w':World):Prop:=
 ∃g a c a2 c2,r=.returned (.tuple #[.pointer (some ⟨g,0,none⟩),.int .i64 0])∧w.heap.size≤g∧w'.heap[g]?=some (.cells (LnC (.slice a l.length c) (.slice a2 ats.length c2) lp (.slice none 0 0) (.slice none 0 0) (.slice none 0 0) 0 false 0) 125)∧
  (∀X,Keeps (· =g) w' X→Slvs X (.slice a l.length c) l∧Ats X (.slice a2 ats.length c2) ats)∧Below w.heap.size w w'
theorem z21_1 {p:Prop} (h:p:=by
 have hr3:Below wr.heap.size wr X3:=(HB5'.out.trans (hB6.mono HB5'.out.size)).trans (hb3.mono (by have:=HB5'.out.size;have:=hB6.size;omega));have hown3:=bF hr.out.own (Keeps.of_below (F:=fun _=>False) hr3) (fun _ _ e=>e);refine bM 8 rfl (fun K hK=>?_);refine step_appN rfl (.tmp 35) (.tmp 38) 28 rfl W5.heap.size 68 i5 _ 19 248 Tryz.underlying28 hi hz0 hz1 hz2 rfl (by decide) (.slice a k c) k cs rfl hown3 ⟨w6.heap.size,0,none⟩ 1 1 CN.toList rfl (by rw[Array.length_toList,HCNS.out]) (fun j u hj=>rowAtW n3 j u hj) HON.out (by unfold maxLen;omega) (by omega) (by have:=hr.out.kp.size;have:=hr3.size;omega) ?_;intro v7 w7 hown7 hgr7 hnew7;obtain⟨a7,c7,rfl⟩:=bN hown7;have k37:=Keeps.of_grown (F:=fun j=>(Value.slice a k c).ownBlock=some j) hgr7 (fun _ h=>h);have hS7:=bG kS3 k37 (fun e=>by have:=(hr.out.own.lt _ e).2;omega);have hg7:=bG (bB hr.out.at_ hr3) k37 (fun e=>by have:=(hr.out.own.lt _ e).1;have:=HZ5.out;omega);go_simp;refine hK.out _ _ hS7 (fun hSg=>?_);clear hK K;refine tG 9 40 ?_;refine tG 10 41 ?_;have e7:w7.cell? ⟨g,0,none⟩=some (.slice a k c):=bA hg7 0;have f7:w7.frozen? ⟨g,0,none⟩=false:=bJ hg7 0;refine bM 11 rfl (fun K hK=>?_);go_simp;refine hK.out _ _ ((cH (by have:=cI hr.out.at_;omega)).trans hS7) (fun hSh=>?_);clear hK K;refine wpAnyH_done (by kernel_rfl) ?_ _;have HN7:=bC (hr.out.step HZ5.out HX.out (HB5'.out.trans (kD.mono HB5'.out.size)) (HRD6.out) hb6 hb3 hgr7 (by rw[HCN.out];exact hown7) hnew7);go_wp2;go_roundw;(case rel=>exact⟨k+1,_,_,_,(by have:=HLT.out;omega),(by go_num),HN7.out⟩);(case measure=>(have:=HLT.out;simp [intOf];omega))):p:=h
theorem lnew_ok (l:List Sl) (s:Scr) (la:Option Addr) (ln lc:Nat) (av cv:Value) (w:World) (hn:l.length=ln) (hL:Slvs w (.slice la ln lc) l) (hA:Ats w av s.ats) (hC:Rgs w cv s.cr) (hB:BusP l) (hok:s.ok):
  Calls Tryz.prog 24 #[.slice la ln lc,.agg #[av,.bool s.loop,cv]] w (LnMade w l s.loop s.ats):=by
 obtain⟨i5,hi,hz0,hz1,hz2⟩:=info_parts infoSlW;obtain⟨VB,hVB,HV0⟩:=pbus_any l;obtain rfl:VB=true:=hVB.2 hB;have HSV:Hid (∀X,Below w.heap.size w X→Calls Tryz.prog 67 #[.agg #[av,.bool s.loop,cv]] X fun r w'=>r=.returned (.bool true)∧Below X.heap.size X w'):=fun X hX=>pscr_ok s av cv X (hA.keep hX) (hC.keep hX) hok
 obtain⟨lp,hlp⟩:=gE s.loop;obtain⟨aa,ac,rfl,-⟩:=id hA;obtain⟨an,han⟩:=gE s.ats.length;have ha4:s.ats.length≤1000000:=by have:=hok.1;omega
 rw[hlp,han] at HSV ⊢;rw[han] at hA;obtain⟨W1,hW1,hb1,pS⟩:=alQ w (.cells #[.slice aa an ac,.bool lp,cv] 32);have HV:Hid (Calls Tryz.prog 66 #[.slice la ln lc] W1 (BoolPost W1 true)):=HV0 W1 _ (hL.keep hb1);have HCA:Hid (∀X,Below w.heap.size w X→Calls Tryz.prog 68 #[.slice aa an ac] X fun r w'=>∃a c,r=.returned (.slice a an c)∧w'.ownsRow X.heap.size 70 6 (.slice a an c) an (atV s.ats)∧Below X.heap.size X w'):=fun X hX=>by
  have h:=cloneAt_any (.slice aa an ac) s.ats X (hA.keep hX) ha4;refine h.mono ?_;rintro r w' ⟨a,c,h1,h2,h3⟩;rw[han] at h1 h2;exact⟨a,c,h1,h2,h3⟩
 have HWF:=bC hA.wfW;have HB:=bC hB;have hl16:ln≤16:=by have:=hB.1;omega
 have HL:=bC hL;have HN:=bC hn;have HW1:=bC hW1;have HB1:=bC hb1;have HPS:=bC pS;have HAN:=bC han;clear hW1 hb1 pS hVB HV0 hL hA hC hB hok hlp han ha4;go_enter Tryz.func24,Tryz.ntmps24;go_upto_region 1 with(fail)
 rw[HW1.out];go_upto_region 3 with(first
  |(go_at_call 66;(with_reducible refine HV.out.mono ?_);rintro r w2 ⟨rfl,hb2⟩;have y0:=bA (bB HPS.out hb2) 0;have y1:=bA (bB HPS.out hb2) 1;have y2:=bA (bB HPS.out hb2) 2)
  |(go_at_call 67;(with_reducible refine(HSV.out _ (bU HB1.out hb2)).mono ?_);rintro r w3 ⟨rfl,hb3⟩))
 have HB3:Hid (Below w.heap.size w w3):=bU (bU HB1.out hb2) hb3;have pS3:=bB (bB HPS.out hb2) hb3;have s0:∀X,Below w3.heap.size w3 X→X.cell? ⟨w.heap.size,0,none⟩=some (.slice aa an ac):=fun X h=>bA (bB pS3 h) 0
 have s1:∀X,Below w3.heap.size w3 X→X.cell? ⟨w.heap.size,1,none⟩=some (.bool lp):=fun X h=>bA (bB pS3 h) 1
 have kD:Below w3.heap.size w3 w3.drew:=(Below.refl _ _).drew;clear y0 y1 y2 hb2 hb3;refine wp_region_held_drew (S:=fun V=>Below w3.heap.size w3 V) (by kernel_rfl) kD (fun hH=>?_);clear hH;refine tG 0 17 ?_;refine tG 1 18 ?_;refine tG 3 20 ?_;refine tG 4 21 ?_;refine bM 2 rfl (fun K hK=>?_);go_simp;refine(HCA.out _ (bU HB3.out kD)).mono ?_;rintro r w4 ⟨a2,c2,rfl,hown4,hb4⟩;have hB4:=bU kD hb4;refine hK.out _ _ hB4 (fun hSx=>?_);clear hK K hSx;refine tG 5 22 ?_;refine tG 6 23 ?_;refine bM 7 rfl (fun K hK=>?_);go_simp;have hB5:Below w3.heap.size w3 (w4.alloc (.cells (LnC (.slice none 0 0) (.slice a2 an c2) lp (.slice none 0 0) (.slice none 0 0) (.slice none 0 0) 0 false 0) 125)):=cJ hB4 (Nat.le_refl _) _;refine hK.out _ _ hB5 (fun hSx=>?_);clear hK K hSx;refine cR 8 6 (v:=?_) rfl (by kernel_rfl) (fun _ _ _ h=>h) rfl (by rfl) (by assumption) ?_ ?_;rotate_left;(intro w hSw;(try dsimp only at hSw);(try go_simp);try rfl);refine wpAnyH_done (by kernel_rfl) ?_ _;obtain⟨g,hg⟩:=gE w4.heap.size;obtain⟨W5,hW5⟩:∃W,w4.alloc (.cells #[.slice none 0 0,.slice a2 an c2,.bool lp,.slice none 0 0,.slice none 0 0,.slice none 0 0,.int .i64 0,.bool false,.int .i64 0] 125)=W:=⟨_,rfl⟩
 have p5:W5.heap[g]?=some (.cells (LnC (.slice none 0 0) (.slice a2 an c2) lp (.slice none 0 0) (.slice none 0 0) (.slice none 0 0) 0 false 0) 125):=by rw[←hW5,←hg];exact bI _ _
 have h45:Below w4.heap.size w4 W5:=by rw[←hW5];exact bH _ _
 have HAT:Hid (∀X,Keeps (· =g) W5 X→Ats X (.slice a2 an c2) s.ats):=fun X hX=>by
  have h1:=bF hown4 (Keeps.of_below (F:=fun _=>False) h45) (fun _ _ e=>e);have h2:=bF h1 hX (fun j hj e=>by have:=(hown4.lt j hj).2;have e':j=g:=e;omega);exact Sls.of_own h2 (atV_csl _ HWF.out) HAN.out
 have HB5:Hid (Below w.heap.size w W5):=by rw[←hW5];exact bU HB3.out hB5
 have HZ5:Hid (W5.heap.size=g+1):=by show _=_;rw[←hW5,←hg];simp
 have HR0:Hid (NwR W5 W5 g (.slice a2 an c2) lp l 0 none 0 []):=⟨p5,World.ownsRow_nil _ _ _ _,rfl,Keeps.refl _ _⟩
 have HGW:Hid (w.heap.size≤g):=by show _≤_;have:=HB3.out.size;have:=hB4.size;omega
 have hL:=hW5;rw[hW5,hg];clear hW5 hL s0 s1 kD hown4 hb4 hB4 hB5 p5 h45 hg pS3;go_upto_region 5 with(fail)
 go_loopw [27] (fun kv wr=>∃(k:Nat) (a:Option Addr) (c:Nat) (cs:List Value),k≤ln∧kv=.int .i64 (k:Int)∧Hid (NwR W5 wr g (.slice a2 an c2) lp l k a c cs)) (fun kv _=>ln- (intOf kv).toNat)
 case atStart=>exact⟨0,none,0,[],Nat.zero_le _,rfl,HR0.out⟩
 case round=>
  clear HR0;obtain⟨k,a,c,cs,hk,rfl,hr⟩:=hrel;have hk0:(0:Int)≤(k:Int):=Int.natCast_nonneg _;have HBR:Hid (Below w.heap.size w wr):=HB5.out.trans (hr.out.kp.below HB5.out.size (fun j hj e=>by have:=HGW.out;omega));by_cases hlt:k<ln
  ·obtain ⟨x,hx⟩:=gs (l:=l) HN.out hlt
   obtain⟨b,o,rv,ov,sv,rfl,hR,hc⟩:=(HL.out.keep HBR.out).at hx;have hbd:SlBd x:=val_bd (HB.out.2 x (List.mem_of_getElem? hx));obtain⟨C,hC⟩:=gE (SlC x rv ov sv);have hi19:(Tryz.prog.info? 68).map (·.size)=some C.size:=by rw[←hC];exact infoSL
   have hcs:C.size=19:=by rw[←hC];rfl
   have h1c:C.toList.all (·.oneCell')=true:=by rw[←hC];exact hR.one
   have hrow:∀j v,C.toList[j]?=some v→wr.cell? ((⟨b,o+k*19,none⟩:Addr).add j)=some v:=fun j v hj=>by
    rw[Addr.add_lit];exact hc j v (by rw[hC];simpa using hj)
   have HCL:Hid (∀X,Below wr.heap.size wr X→Calls Tryz.prog 69 #[.agg C] X (SlNew X x)):=fun X hX=>by rw[←hC];exact clone_sl x rv ov sv X (hR.keep hX) hbd
   have hkl:(k:Int)<(ln:Int):=by omega
   have HX:=bC hx;have HLT:=bC hlt;have HCS:=bC hcs;clear hx hR hc hbd hC hlt;go_upto_region 7 with(first
    |(refine bK (by rfl) 68 (.tmp 29) rfl ⟨b,o+k*19,none⟩ rfl C _ hrow Tryz.underlying68 rfl hi19 ?_)
    |(refine bE rfl 68 (.tmp 8) (.tmp 30) rfl wr.heap.size 0 _ 68 C rfl rfl (bI wr _) (by simp [hcs]) hi19 h1c ?_;intro w5 g5 hk5 hz5))
   obtain⟨p5,hb5⟩:=var_new (by rw[HCS.out];rfl) g5 hk5;dsimp only[Act.put];have HG5:=bC (bB hr.out.at_ hb5);have d0:w5.drew.cell? ⟨g,0,none⟩=some (.slice a k c):=bA HG5.out 0;have kD:Below w5.heap.size w5 w5.drew:=(Below.refl _ _).drew;have kS:w5.drew.heap[wr.heap.size]?=some (.cells C 68 (0,0)):=bB p5 kD;have HRD:Hid (∀X:World,X.heap[wr.heap.size]?=some (.cells C 68 (0,0))→∀j v,C.toList[j]?=some v→X.cell? ((⟨wr.heap.size,0,none⟩:Addr).add j)=some v):=fun X hX j v hj=>rowAtW hX j v hj
   have HP5:=bC p5;have HB5':=bC hb5;have hkm:k≤16:=by omega
   clear g5 hk5 hz5 hrow h1c p5 hb5;refine wp_region_held_drew (S:=fun V=>V.heap[wr.heap.size]?=some (.cells C 68 (0,0))) (by kernel_rfl) kS (fun hH=>?_);clear hH;refine tG 0 31 ?_;refine tG 1 32 ?_;refine tG 2 33 ?_;refine tG 3 34 ?_;refine cR 5 36 (v:=.agg C) rfl (by kernel_rfl) (fun _ _ _ h=>h) rfl (by rfl) (by assumption) (fun X hX=>run_load_rowW 68 (.tmp 8) rfl ⟨wr.heap.size,0,none⟩ rfl C _ (HRD.out X hX) Tryz.underlying68 rfl hi19) ?_;simp only[cA];refine wpAnyH_ready (rs:=[4,6]) (by kernel_rfl) (by simp) ?_;refine AllReadyH.cons rfl (fun K hK=>?_) (AllReadyH.cons rfl (fun K hK=>?_) AllReadyH.nil)
   ·go_simp
    refine hK.out _ _ kS (fun hSx=>?_);clear hK K hSx;refine bM 6 rfl (fun K hK=>?_);go_simp;refine(HCL.out _ (bU HB5'.out kD)).mono ?_;rintro r w6 ⟨rv6,ov6,sv6,rfl,hrd6,hb6⟩;obtain⟨CN,hCN⟩:=gE (SlC x rv6 ov6 sv6);rw[hCN];have hfold:=slFoldW x rv6 ov6 sv6 CN hCN;have hcn:CN.size=19:=(by rw[←hCN];rfl);have hon:∀u∈CN.toList,u.oneCell'=true:=(by rw[←hCN];exact List.all_eq_true.1 (hrd6 w6 (Agree.refl _ _)).one);have HFD:=bC hfold;have HCN:=bC hCN;have HRD6:=bC hrd6;have HON:=bC hon;have hB6:=bU kD hb6;have kS6:=bB HP5.out hB6;clear hCN hfold hrd6 hon;refine hK.out _ _ kS6 (fun hSx=>?_);clear hK K hSx;refine bM 7 rfl (fun K hK=>?_);go_simp;rw[HFD.out];have HCNS:=bC hcn;clear hcn;obtain⟨X3,hX3⟩:=gE (w6.alloc (.cells CN 68));have hb3:Below w6.heap.size w6 X3:=(by rw[←hX3];exact bH _ _);have n3:X3.heap[w6.heap.size]?=some (.cells CN 68 (0,0)):=(by rw[←hX3];exact bI _ _);rw[hX3];have kS3:=bB kS6 hb3;refine hK.out _ _ kS3 (fun hSx=>?_);clear hK K hSx;exact z21_1
   ·go_simp
    refine(HCL.out _ (bU HB5'.out kD)).mono ?_;rintro r w6 ⟨rv6,ov6,sv6,rfl,hrd6,hb6⟩;obtain⟨CN,hCN⟩:=gE (SlC x rv6 ov6 sv6);rw[hCN];have hfold:=slFoldW x rv6 ov6 sv6 CN hCN;have hcn:CN.size=19:=(by rw[←hCN];rfl);have hon:∀u∈CN.toList,u.oneCell'=true:=(by rw[←hCN];exact List.all_eq_true.1 (hrd6 w6 (Agree.refl _ _)).one);have HFD:=bC hfold;have HCN:=bC hCN;have HRD6:=bC hrd6;have HON:=bC hon;have hB6:=bU kD hb6;have kS6:=bB HP5.out hB6;clear hCN hfold hrd6 hon;refine hK.out _ _ kS6 (fun hSx=>?_);clear hK K hSx;refine wpAnyH_ready (rs:=[4,7]) (by kernel_rfl) (by simp) ?_;refine AllReadyH.cons rfl (fun K hK=>?_) (AllReadyH.cons rfl (fun K hK=>?_) AllReadyH.nil)
    ·have d6:w6.cell? ⟨g,0,none⟩=some (.slice a k c):=bA (bB HG5.out hB6) 0
     go_simp;refine hK.out _ _ kS6 (fun hSx=>?_);clear hK K hSx;refine bM 7 rfl (fun K hK=>?_);go_simp;rw[HFD.out];have HCNS:=bC hcn;clear hcn;obtain⟨X3,hX3⟩:=gE (w6.alloc (.cells CN 68));have hb3:Below w6.heap.size w6 X3:=(by rw[←hX3];exact bH _ _);have n3:X3.heap[w6.heap.size]?=some (.cells CN 68 (0,0)):=(by rw[←hX3];exact bI _ _);rw[hX3];have kS3:=bB kS6 hb3;refine hK.out _ _ kS3 (fun hSx=>?_);clear hK K hSx;exact z21_1
    ·go_simp
     rw[HFD.out];have HCNS:=bC hcn;clear hcn;obtain⟨X3,hX3⟩:=gE (w6.alloc (.cells CN 68));have hb3:Below w6.heap.size w6 X3:=(by rw[←hX3];exact bH _ _);have n3:X3.heap[w6.heap.size]?=some (.cells CN 68 (0,0)):=(by rw[←hX3];exact bI _ _);rw[hX3];have kS3:=bB kS6 hb3;refine hK.out _ _ kS3 (fun hSx=>?_);clear hK K hSx;have d6:X3.cell? ⟨g,0,none⟩=some (.slice a k c):=bA (bB HG5.out (bU hB6 hb3)) 0;refine bM 4 rfl (fun K hK=>?_);go_simp;refine hK.out _ _ kS3 (fun hSx=>?_);clear hK K hSx;exact z21_1
  ·obtain rfl:k=ln:=by omega
   go_wp2;go_ret2;have e1:=HN.out;have e2:=HAN.out;have hr':=hr.out;have hat:=HAT.out;subst e1 e2;refine⟨g,a,c,a2,c2,rfl,HGW.out,hr'.at_,fun X hX=>⟨?_,hat X (hr'.kp.trans hX (fun _ _ e=>e))⟩,HBR.out⟩;have ho:=bF hr'.own hX (fun j hj e=>by have:=(hr'.own.lt j hj).1;have:=HZ5.out;have e':j=g:=e;omega);have hcsl:=hr'.csl;rw[List.take_of_length_le (Nat.le_refl _)] at hcsl;exact Sls.of_own ho (CsL.mono (fun r y hy=>SlQ.row (hX.mono (fun _ _ e=>.inl e)) r y hy) _ _ hcsl) rfl
def RvPost (w:World) (f:List UInt8) (r:Ending) (w':World):Prop:=∃a c,r=.returned (.slice a f.length c)∧w'.ownsRow w.heap.size 5 1 (.slice a f.length c) f.length (u8s f)∧Below w.heap.size w w'
theorem RvPost.nil {w w':World} {f:List UInt8} (h:f=[]) (hb:Below w.heap.size w w'):RvPost w f (.returned (.slice none 0 0)) w':=by
 subst h;exact⟨none,0,rfl,World.ownsRow_nil _ _ _ _,hb⟩
theorem AnPost.uni {w:World} {o:Option (List UInt8)} {n:Nat} (hn:(o.getD []).length=n) {r:Ending} {w':World} (h:AnPost w o r w'):∃a c B,r=.returned (.tuple #[.slice a n c,.bool B])∧w'.ownsRow w.heap.size 5 1 (.slice a n c) n (u8s (o.getD []))∧Below w.heap.size w w':=by
 subst hn;cases o with
 |none=>exact⟨none,0,false,h.1,World.ownsRow_nil _ _ _ _,h.2⟩
 |some f=>
  obtain⟨a,c,h1,h2,h3⟩:=h;exact⟨a,c,true,h1,h2,h3⟩
theorem xor_by (x:UInt8) (m:Nat) (hm:m<256):Value.int .u8 (bits .xor .u8 ((x.toNat:Nat):Int) (m:Int))=byteV (x^^^UInt8.ofNat m):=by
 rw[u8_xor_nat x.toNat m (byte_lt x) hm];unfold byteV;rw[UInt8.toNat_xor,UInt8.toNat_ofNat',Nat.mod_eq_of_lt hm]
structure RyB (w W:World) (g:Nat) (bd pa:Int) (C:Array Value) (la:Option Addr) (ln lc:Nat):Prop where
 b:Below w.heap.size w W
 z:W.heap.size=w.heap.size+2
 s:W.heap[w.heap.size]?=some (.cells #[.int .i64 bd,.int .i64 pa] 61)
 a:W.heap[w.heap.size+1]?=some (.cells C 70)
 c0:W.cell? ⟨g,0,none⟩=some (.slice la ln lc)
theorem reply_lost (g:Nat) (la:Option Addr) (lc ln:Nat) (bd pa:Int) (fa:Option Addr) (fn fc:Nat) (lat fault pos mask ticks value:Int) (hf:fault=1∨fault=2) (w:World) (hc0:w.cell? ⟨g,0,none⟩=some (.slice la ln lc)):
  Calls Tryz.prog 127 #[.pointer (some ⟨g,0,none⟩),.agg #[.int .i64 bd,.int .i64 pa],.slice fa fn fc,.agg #[.int .i64 lat,.int .i64 fault,.int .i64 pos,.int .i64 mask,.int .i64 ticks,.int .i64 value]] w (RvPost w []):=by
 obtain⟨W1,hW1⟩:∃W,(w.alloc (.cells #[.int .i64 bd,.int .i64 pa] 61)).alloc (.cells #[.int .i64 lat,.int .i64 fault,.int .i64 pos,.int .i64 mask,.int .i64 ticks,.int .i64 value] 70)=W:=⟨_,rfl⟩;have HY:Hid (RyB w W1 g bd pa #[.int .i64 lat,.int .i64 fault,.int .i64 pos,.int .i64 mask,.int .i64 ticks,.int .i64 value] la ln lc):=(by have hb:Below w.heap.size w W1:=(by rw[←hW1];exact cJ (bH w _) (Nat.le_refl _) _);refine⟨hb,by rw[←hW1];simp,by rw[←hW1];exact bB (bI w _) (bH _ _),?_,bD hb hc0⟩;rw[←hW1];have h:=bI (w.alloc (.cells #[.int .i64 bd,.int .i64 pa] 61)) (.cells #[.int .i64 lat,.int .i64 fault,.int .i64 pos,.int .i64 mask,.int .i64 ticks,.int .i64 value] 70);rw[World.size_alloc] at h;exact h);obtain⟨ab,hab⟩:∃n,w.heap.size+1=n:=⟨_,rfl⟩;have HPA:Hid (W1.heap[ab]?=some (.cells #[.int .i64 lat,.int .i64 fault,.int .i64 pos,.int .i64 mask,.int .i64 ticks,.int .i64 value] 70)):=(by rw[←hab];exact HY.out.a);have HW1:=bC hW1;have HAB:=bC hab;clear hW1 hab;have s0:∀X,Below W1.heap.size W1 X→X.cell? ⟨w.heap.size,0,none⟩=some (.int .i64 bd):=(fun X h=>bA (bB HY.out.s h) 0);have s1:∀X,Below W1.heap.size W1 X→X.cell? ⟨w.heap.size,1,none⟩=some (.int .i64 pa):=(fun X h=>bA (bB HY.out.s h) 1);have a1:=cF HPA.out 1 rfl;have a2:=cF HPA.out 2 rfl;have a3:=cF HPA.out 3 rfl;have a5:=cF HPA.out 5 rfl;have c0:∀X,Below W1.heap.size W1 X→X.cell? ⟨g,0,none⟩=some (.slice la ln lc):=(fun X h=>bD h HY.out.c0);have k0:Below W1.heap.size W1 W1:=Below.refl _ _;have kD:Below W1.heap.size W1 W1.drew:=(Below.refl _ _).drew;clear hc0;rcases hf with rfl|rfl
 ·go_enter Tryz.func127,Tryz.ntmps127
  go_upto_region 1 with(fail)
  rw[HW1.out,HAB.out];go_wp2;go_ret;exact RvPost.nil rfl HY.out.b
 ·go_enter Tryz.func127,Tryz.ntmps127
  go_upto_region 1 with(fail)
  rw[HW1.out,HAB.out];go_wp2;go_ret;exact RvPost.nil rfl HY.out.b
theorem reply_busy (g:Nat) (la:Option Addr) (lc ln:Nat) (l:List Sl) (hl:l.length=ln) (hB:BusP l) (bd pa:Int) (f1:wfI bd) (f2:wfI pa) (fa:Option Addr) (fn fc:Nat) (f:List UInt8) (lat fault pos mask ticks value:Int) (hf5:fault=5) (w:World) (hc0:w.cell? ⟨g,0,none⟩=some (.slice la ln lc)) (hL:Slvs w (.slice la ln lc) l) (hf:Bs w (.slice fa fn fc) f):
  Calls Tryz.prog 127 #[.pointer (some ⟨g,0,none⟩),.agg #[.int .i64 bd,.int .i64 pa],.slice fa fn fc,.agg #[.int .i64 lat,.int .i64 fault,.int .i64 pos,.int .i64 mask,.int .i64 ticks,.int .i64 value]] w (RvPost w ((busBusy l bd pa f).getD [])):=by
 obtain⟨W1,hW1⟩:∃W,(w.alloc (.cells #[.int .i64 bd,.int .i64 pa] 61)).alloc (.cells #[.int .i64 lat,.int .i64 fault,.int .i64 pos,.int .i64 mask,.int .i64 ticks,.int .i64 value] 70)=W:=⟨_,rfl⟩;have HY:Hid (RyB w W1 g bd pa #[.int .i64 lat,.int .i64 fault,.int .i64 pos,.int .i64 mask,.int .i64 ticks,.int .i64 value] la ln lc):=(by have hb:Below w.heap.size w W1:=(by rw[←hW1];exact cJ (bH w _) (Nat.le_refl _) _);refine⟨hb,by rw[←hW1];simp,by rw[←hW1];exact bB (bI w _) (bH _ _),?_,bD hb hc0⟩;rw[←hW1];have h:=bI (w.alloc (.cells #[.int .i64 bd,.int .i64 pa] 61)) (.cells #[.int .i64 lat,.int .i64 fault,.int .i64 pos,.int .i64 mask,.int .i64 ticks,.int .i64 value] 70);rw[World.size_alloc] at h;exact h);obtain⟨ab,hab⟩:∃n,w.heap.size+1=n:=⟨_,rfl⟩;have HPA:Hid (W1.heap[ab]?=some (.cells #[.int .i64 lat,.int .i64 fault,.int .i64 pos,.int .i64 mask,.int .i64 ticks,.int .i64 value] 70)):=(by rw[←hab];exact HY.out.a);have HW1:=bC hW1;have HAB:=bC hab;clear hW1 hab;have s0:∀X,Below W1.heap.size W1 X→X.cell? ⟨w.heap.size,0,none⟩=some (.int .i64 bd):=(fun X h=>bA (bB HY.out.s h) 0);have s1:∀X,Below W1.heap.size W1 X→X.cell? ⟨w.heap.size,1,none⟩=some (.int .i64 pa):=(fun X h=>bA (bB HY.out.s h) 1);have a1:=cF HPA.out 1 rfl;have a2:=cF HPA.out 2 rfl;have a3:=cF HPA.out 3 rfl;have a5:=cF HPA.out 5 rfl;have c0:∀X,Below W1.heap.size W1 X→X.cell? ⟨g,0,none⟩=some (.slice la ln lc):=(fun X h=>bD h HY.out.c0);have k0:Below W1.heap.size W1 W1:=Below.refl _ _;have kD:Below W1.heap.size W1 W1.drew:=(Below.refl _ _).drew;have e1:(fault==1)=false:=b0 (by omega);have e2:(fault==2)=false:=b0 (by omega);have e5:(fault==5)=true:=b1 hf5;have e3:(fault==3)=false:=b0 (by omega);obtain⟨rn,hrn⟩:=gE (((busBusy l bd pa f).getD []).length);have HAN:Hid (∀X,Below W1.heap.size W1 X→Calls Tryz.prog 162 #[.slice la ln lc,.agg #[.int .i64 bd,.int .i64 pa],.slice fa fn fc] X fun r w'=>∃a c B,r=.returned (.tuple #[.slice a rn c,.bool B])∧w'.ownsRow X.heap.size 5 1 (.slice a rn c) rn (u8s ((busBusy l bd pa f).getD []))∧Below X.heap.size X w'):=fun X hX=>(pbbusy_any la lc ln l hl hB bd pa f1 f2 fa fn fc f X (hL.keep (bU HY.out.b hX)) (hf.keep (bU HY.out.b hX))).mono fun _ _ h=>h.uni hrn
 have HRN:=bC hrn;clear hc0 hL hf hB hl f1 f2 hrn hf5;go_enter Tryz.func127,Tryz.ntmps127;go_upto_region 1 with(fail)
 rw[HW1.out,HAB.out];go_upto_region 8 with(fail)
 refine wp_region_held_drew (S:=fun V=>Below W1.heap.size W1 V) (by kernel_rfl) kD (fun hH=>?_);clear hH;refine tG 0 31 ?_;refine tG 1 32 ?_;refine tG 2 33 ?_;refine tG 3 34 ?_;refine tG 4 35 ?_;refine tG 5 36 ?_;refine bM 6 rfl (fun K hK=>?_);go_simp;refine(HAN.out _ kD).mono ?_;rintro r w4 ⟨ra,rc,B,rfl,hown,hb4⟩;have hB4:=bU kD hb4;refine hK.out _ _ hB4 (fun hSx=>?_);clear hK K hSx;refine tG 7 30 ?_;refine tG 8 38 ?_;refine tG 9 39 ?_;refine cR 10 9 (v:=?_) rfl (by kernel_rfl) (fun _ _ _ h=>h) rfl (by rfl) (by assumption) ?_ ?_;rotate_left;(intro w hSw;(try dsimp only at hSw);(try go_simp);try rfl);refine wpAnyH_done (by kernel_rfl) ?_ _;have a1':=a1 _ hB4;have HOW:=bC hown;clear hown;go_wp2;go_ret;have hz:=kD.size;exact⟨ra,rc,(by rw[HRN.out]<;>rfl),by rw[HRN.out];exact bQ HOW.out (Nat.le_trans HY.out.b.size hz),bU HY.out.b hB4⟩
theorem reply_plain (g:Nat) (la:Option Addr) (lc ln:Nat) (l:List Sl) (hl:l.length=ln) (hB:BusP l) (bd pa:Int) (f1:wfI bd) (f2:wfI pa) (fa:Option Addr) (fn fc:Nat) (f:List UInt8) (lat fault pos mask ticks value:Int) (h1:¬fault=1) (h2:¬fault=2) (h5:¬fault=5) (h3:¬fault=3) (x0:0≤value) (x1:value≤65535) (w:World) (hc0:w.cell? ⟨g,0,none⟩=some (.slice la ln lc)) (hL:Slvs w (.slice la ln lc) l) (hf:Bs w (.slice fa fn fc) f):
  Calls Tryz.prog 127 #[.pointer (some ⟨g,0,none⟩),.agg #[.int .i64 bd,.int .i64 pa],.slice fa fn fc,.agg #[.int .i64 lat,.int .i64 fault,.int .i64 pos,.int .i64 mask,.int .i64 ticks,.int .i64 value]] w (RvPost w ((busAns l bd pa f value).getD [])):=by
 obtain⟨W1,hW1⟩:∃W,(w.alloc (.cells #[.int .i64 bd,.int .i64 pa] 61)).alloc (.cells #[.int .i64 lat,.int .i64 fault,.int .i64 pos,.int .i64 mask,.int .i64 ticks,.int .i64 value] 70)=W:=⟨_,rfl⟩;have HY:Hid (RyB w W1 g bd pa #[.int .i64 lat,.int .i64 fault,.int .i64 pos,.int .i64 mask,.int .i64 ticks,.int .i64 value] la ln lc):=(by have hb:Below w.heap.size w W1:=(by rw[←hW1];exact cJ (bH w _) (Nat.le_refl _) _);refine⟨hb,by rw[←hW1];simp,by rw[←hW1];exact bB (bI w _) (bH _ _),?_,bD hb hc0⟩;rw[←hW1];have h:=bI (w.alloc (.cells #[.int .i64 bd,.int .i64 pa] 61)) (.cells #[.int .i64 lat,.int .i64 fault,.int .i64 pos,.int .i64 mask,.int .i64 ticks,.int .i64 value] 70);rw[World.size_alloc] at h;exact h);obtain⟨ab,hab⟩:∃n,w.heap.size+1=n:=⟨_,rfl⟩;have HPA:Hid (W1.heap[ab]?=some (.cells #[.int .i64 lat,.int .i64 fault,.int .i64 pos,.int .i64 mask,.int .i64 ticks,.int .i64 value] 70)):=(by rw[←hab];exact HY.out.a);have HW1:=bC hW1;have HAB:=bC hab;clear hW1 hab;have s0:∀X,Below W1.heap.size W1 X→X.cell? ⟨w.heap.size,0,none⟩=some (.int .i64 bd):=(fun X h=>bA (bB HY.out.s h) 0);have s1:∀X,Below W1.heap.size W1 X→X.cell? ⟨w.heap.size,1,none⟩=some (.int .i64 pa):=(fun X h=>bA (bB HY.out.s h) 1);have a1:=cF HPA.out 1 rfl;have a2:=cF HPA.out 2 rfl;have a3:=cF HPA.out 3 rfl;have a5:=cF HPA.out 5 rfl;have c0:∀X,Below W1.heap.size W1 X→X.cell? ⟨g,0,none⟩=some (.slice la ln lc):=(fun X h=>bD h HY.out.c0);have k0:Below W1.heap.size W1 W1:=Below.refl _ _;have kD:Below W1.heap.size W1 W1.drew:=(Below.refl _ _).drew;obtain⟨R,hR⟩:=gE ((busAns l bd pa f value).getD []);obtain⟨rn,hrn⟩:=gE R.length;have HAN:Hid (∀X,Below W1.heap.size W1 X→Calls Tryz.prog 163 #[.slice la ln lc,.agg #[.int .i64 bd,.int .i64 pa],.slice fa fn fc,.int .i64 value] X fun r w'=>∃a c B,r=.returned (.tuple #[.slice a rn c,.bool B])∧w'.ownsRow X.heap.size 5 1 (.slice a rn c) rn (u8s R)∧Below X.heap.size X w'):=(fun X hX=>(pbans_any la lc ln l hl hB bd pa f1 f2 fa fn fc f value x0 x1 X (hL.keep (bU HY.out.b hX)) (hf.keep (bU HY.out.b hX))).mono fun _ _ h=>by rw[←hR];exact h.uni (by rw[hR];exact hrn));have HRN:=bC hrn;have HR:=bC hR;rw[hR];have e1:=b0 h1;have e2:=b0 h2;have e3:=b0 h3;have e5:=b0 h5;clear hc0 hL hf hB hl f1 f2 hrn hR h1 h2 h5 h3 x0 x1;go_enter Tryz.func127,Tryz.ntmps127;go_upto_region 1 with(fail)
 rw[HW1.out,HAB.out];go_upto_region 3 with(fail)
 refine wp_region_held_drew (S:=fun V=>Below W1.heap.size W1 V) (by kernel_rfl) kD (fun hH=>?_);clear hH;refine tG 0 14 ?_;refine tG 1 15 ?_;refine tG 2 16 ?_;refine tG 3 17 ?_;refine tG 4 18 ?_;refine tG 5 19 ?_;refine tG 6 20 ?_;refine tG 7 21 ?_;refine bM 8 rfl (fun K hK=>?_);go_simp;refine(HAN.out _ kD).mono ?_;rintro r w4 ⟨ra,rc,B,rfl,hown,hb4⟩;have hB4:=bU kD hb4;refine hK.out _ _ hB4 (fun hSx=>?_);clear hK K hSx;refine tG 9 13 ?_;refine tG 10 23 ?_;refine tG 11 24 ?_;refine cR 12 9 (v:=?_) rfl (by kernel_rfl) (fun _ _ _ h=>h) rfl (by rfl) (by assumption) ?_ ?_;rotate_left;(intro w hSw;(try dsimp only at hSw);(try go_simp);try rfl);refine wpAnyH_done (by kernel_rfl) ?_ _;have a1':=a1 _ hB4;have HOW:=bC hown;clear hown;go_wp2;go_ret;have hz:=kD.size;exact⟨ra,rc,(by rw[HRN.out]<;>rfl),by rw[HRN.out];exact bQ HOW.out (Nat.le_trans HY.out.b.size hz),bU HY.out.b hB4⟩
end Go.Proofs.YtoaoejaodhedaaaGreat
