import Derived.Test.YtoaoejaodhedaaaGreatE44
import Derived.Test.YtoaoejaodhedaaaGreatE45
namespace Go.Proofs.YtoaoejaodhedaaaGreat
open Go.RowKit
set_option maxHeartbeats 12800000
set_option maxRecDepth 100000
theorem bU {w w1 w2:World} (h:Below w.heap.size w w1) (k:Below w1.heap.size w1 w2):Below w.heap.size w w2:=bt h k (Nat.le_refl _)
abbrev kP:=@hpKeep
abbrev cP:=@hpCell
abbrev kU:=@hpKeeps
abbrev dF:=@decide_eq_false
abbrev dT:=@decide_eq_true
abbrev oQ:=@own_keeps
def LnC (sv av:Value) (lp:Bool) (cv tv pv:Value) (free:Int) (hd:Bool) (la:Int):Array Value:=#[sv,av,.bool lp,cv,tv,pv,.int .i64 free,.bool hd,.int .i64 la]
theorem infoSlW:(Tryz.prog.info? 68).map (fun i=>(i.zero,i.size,i.bytes))=some (some (.agg #[.int .i64 0,.int .i64 0,.int .i64 0,.bool false,.slice none 0 0,.int .i64 0,.bool false,.slice none 0 0,.int .i64 0,.bool false,.slice none 0 0,.int .i64 0,.bool false,.slice none 0 0,.int .i64 0,.int .i64 0,.slice none 0 0,.bool false,.slice none 0 0]),19,248):=by kernel_rfl
theorem val_bd {s:Sl} (h:s.val):SlBd s:=by
 have ho:s.objs.length≤16:=by
  by_cases e:0<s.lv
  ·exact (h.on e).1
  ·have:=h.l0 (by have:=h.lv;omega)
   omega
 refine⟨fun k hk=>?_,by omega,fun i x hx=>?_,by have:=h.sl;omega⟩
 ·have h1:=h.tb k hk
  cases hs:(s.ts k).sup with
  |true=>have:=(h1.2 hs).1;omega
  |false=>have:=(h1.1 hs).1;omega
 ·by_cases e:0<s.lv
  ·have:=h.vl e i x hx
   omega
  ·have:=h.l0 (by have:=h.lv;omega)
   have:=(List.getElem?_eq_some_iff.1 hx).1
   omega
theorem slFoldW (s:Sl) (rv:Nat→Value) (ov sv:Value) (C:Array Value) (hC:SlC s rv ov sv=C):Array.foldl (fun (cs:Array Value) (x:Value×Nat)=>cs.setIfInBounds x.snd x.fst) #[.int .i64 0,.int .i64 0,.int .i64 0,.bool false,.slice none 0 0,.int .i64 0,.bool false,.slice none 0 0,.int .i64 0,.bool false,.slice none 0 0,.int .i64 0,.bool false,.slice none 0 0,.int .i64 0,.int .i64 0,.slice none 0 0,.bool false,.slice none 0 0] C.zipIdx 0 19=C:=by
 subst hC
 kernel_rfl
theorem rowAtW {w:World} {b:Nat} {C:Array Value} {t:TypeId} {fz:Nat×Nat} (h:w.heap[b]?=some (.cells C t fz)) (j:Nat) (v:Value) (hj:C.toList[j]?=some v):w.cell? ((⟨b,0,none⟩:Addr).add j)=some v:=by
 rw[Addr.add_lit,Nat.zero_add,cP h]
 simpa using hj
theorem run_load_rowW {P:Program} {ev:Operand→Value} {o:Oper} {w:World} (ty:TypeId) (x:Operand) (ho:o.op=.load ty x)
  (ad:Addr) (hx:ev x=.pointer (some ad)) (cs:Array Value) (d:TypeDesc) (hc:∀j v,cs.toList[j]?=some v→w.cell? (ad.add j)=some v)
  (hu:P.underlying ty=some d) (hd:(match d with|.struct _|.array _ _=>true|_=>false)=true) (hi:(P.info? ty).map (·.size)=some cs.size):
  (execOp ev o).run P w=.ok (.value (.agg cs)) w:=by
 unfold execOp
 simp only[ho,hx,Instr.loadAt,Instr.sureAddr,Sem.run_bind,Sem.run_pure,Result.andThen_ok,run_loadVar_at w ad ty cs d hc hu hd hi]
def SlQ (F:Nat→Prop) (W:World) (r:List Value) (s:Sl):Prop:=∃rv ov sv,r=(SlC s rv ov sv).toList∧∀X,Keeps F W X→SlR X s rv ov sv
theorem SlQ.keeps {F G H:Nat→Prop} {W W':World} (hk:Keeps H W W') (h1:∀j,j<W.heap.size→H j→F j) (h2:∀j,j<W.heap.size→G j→F j) (r:List Value) (s:Sl) (h:SlQ F W r s):SlQ G W' r s:=by
 obtain⟨rv,ov,sv,e,hr⟩:=h
 exact⟨rv,ov,sv,e,fun X hX=>hr X ((hk.mono h1).trans hX h2)⟩
theorem SlQ.row {F:Nat→Prop} {W X:World} (hX:Keeps F W X) (r:List Value) (s:Sl) (h:SlQ F W r s):SlRow X r s:=by
 obtain⟨rv,ov,sv,e,hr⟩:=h
 exact⟨rv,ov,sv,e,hr X hX⟩
def NwF (g:Nat) (v:Value) (j:Nat):Prop:=j=g∨v.ownBlock=some j
structure NwR (W4 wr:World) (g:Nat) (av:Value) (lp:Bool) (l:List Sl) (k:Nat) (a:Option Addr) (c:Nat) (cs:List Value):Prop where
 at_:wr.heap[g]?=some (.cells (LnC (.slice a k c) av lp (.slice none 0 0) (.slice none 0 0) (.slice none 0 0) 0 false 0) 125)
 own:wr.ownsRow W4.heap.size 68 19 (.slice a k c) k cs
 csl:CsL 19 (SlQ (NwF g (.slice a k c)) wr) cs (l.take k)
 kp:Keeps (· =g) W4 wr
theorem SlR.one {w:World} {s:Sl} {rv:Nat→Value} {ov sv:Value} (h:SlR w s rv ov sv):(SlC s rv ov sv).toList.all (·.oneCell')=true:=by
 refine SlC_one s rv ov sv (fun k hk=>?_) ?_ ?_
 ·obtain ⟨a,c,e,-⟩:=h.rg k hk
  rw[e]
  rfl
 ·obtain ⟨a,c,e,-⟩:=h.ob
  rw[e]
  rfl
 ·obtain ⟨a,c,e,-⟩:=h.sd
  rw[e]
  rfl
theorem NwR.step {W4 wr wb w6 X3 w7:World} {g:Nat} {av:Value} {lp:Bool} {l:List Sl} {k:Nat} {a a7:Option Addr} {c c7:Nat} {cs:List Value} (hg:W4.heap.size=g+1) (h:NwR W4 wr g av lp l k a c cs) {x:Sl} (hx:l[k]?=some x) (hb5:Below wr.heap.size wr wb)
  {rv:Nat→Value} {ov sv:Value} (hrd:∀W,Agree wb.heap.size w6 W→SlR W x rv ov sv) (hb6:Below wb.heap.size wb w6) (hb3:Below w6.heap.size w6 X3) (hgr:X3.grownBy w7 (Value.slice a k c).ownBlock)
  (hown:w7.ownsRow W4.heap.size 68 19 (.slice a7 (k+1) c7) (k+1) (cs++(SlC x rv ov sv).toList)) (hnew:NewOr X3 (.slice a k c) (.slice a7 (k+1) c7)):
  NwR W4 (w7.setCell ⟨g,0,none⟩ (.slice a7 (k+1) c7)) g av lp l (k+1) a7 c7 (cs++(SlC x rv ov sv).toList):=by
 have hgl:g<wr.heap.size:=hpLt h.at_
 have z5:=hb5.size
 have z6:=hb6.size
 have z3:=hb3.size
 have z7:=hgr.size
 have hr3:Below wr.heap.size wr X3:=(hb5.trans (hb6.mono z5)).trans (hb3.mono (by omega))
 have hrow:∀j,(Value.slice a k c).ownBlock=some j→W4.heap.size≤j∧j<wr.heap.size:=fun j hj=>h.own.lt j hj
 have hrow7:∀j,(Value.slice a7 (k+1) c7).ownBlock=some j→(Value.slice a k c).ownBlock=some j∨X3.heap.size≤j:=fun j hj=>by
  rcases hnew with e|⟨i,e,e2⟩
  ·exact .inl (by rw[←e];exact hj)
  ·rw [hj] at e
   cases e
   exact .inr e2
 have h37:Keeps (fun j=>(Value.slice a k c).ownBlock=some j) X3 w7:=Keeps.of_grown hgr (fun _ e=>e)
 have hks:Keeps (fun j=>j=g) w7 (w7.setCell ⟨g,0,none⟩ (.slice a7 (k+1) c7)):=(Keeps.refl _ _).set _ _ rfl
 have hzF:(w7.setCell ⟨g,0,none⟩ (.slice a7 (k+1) c7)).heap.size=w7.heap.size:=by simp
 have hkF:Keeps (NwF g (.slice a k c)) wr (w7.setCell ⟨g,0,none⟩ (.slice a7 (k+1) c7)):=((Keeps.of_below (F:=NwF g (.slice a k c)) hr3).trans (h37.mono (fun j _ e=>.inr e)) (fun _ _ e=>e)).trans (hks.mono (fun j _ e=>.inl e)) (fun _ _ e=>e)
 have hF2:∀j,j<wr.heap.size→NwF g (.slice a7 (k+1) c7) j→NwF g (.slice a k c) j:=fun j hj e=>by
  rcases e with e|e
  ·exact .inl e
  ·rcases hrow7 j e with e|e
   ·exact .inr e
   ·omega
 refine⟨?_,?_,?_,?_⟩
 ·have h7:=kU (kP h.at_ hr3) h37 (fun e=>by have:=(hrow g e).1;omega)
  exact hpSet h7 0 _
 ·exact oQ hown hks (fun j hj e=>by have:=(hown.lt j hj).1;omega)
 ·rw [take_succ_snoc hx]
  refine CsL.app _ _ (CsL.mono (fun r y hy=>SlQ.keeps hkF (fun _ _ e=>e) hF2 r y hy) _ _ h.csl) [x] _ ⟨(SlC x rv ov sv).toList,[],by simp,rfl,⟨rv,ov,sv,rfl,fun X hX=>hrd X ⟨?_,fun j h1 h2=>?_⟩⟩,rfl⟩
  ·have:=hX.size
   omega
  ·rw [hX.block j (by omega) (fun e=>?_),hks.block j (by omega) (by omega),h37.block j (by omega) (fun e=>by have:=(hrow j e).2;omega),hb3.block j h2]
   rcases e with e|e
   ·omega
   ·rcases hrow7 j e with e|e
    ·have:=(hrow j e).2
     omega
    ·omega
 ·exact h.kp.trans hkF (fun j hj e=>by
   rcases e with e|e
   ·exact e
   ·have:=(hrow j e).1
    omega)
def LnMade (w:World) (l:List Sl) (lp:Bool) (ats:List At) (r:Ending) (w':World):Prop:=
 ∃g a c a2 c2,r=.returned (.tuple #[.pointer (some ⟨g,0,none⟩),.int .i64 0])∧w.heap.size≤g∧w'.heap[g]?=some (.cells (LnC (.slice a l.length c) (.slice a2 ats.length c2) lp (.slice none 0 0) (.slice none 0 0) (.slice none 0 0) 0 false 0) 125)∧
  (∀X,Keeps (· =g) w' X→Slvs X (.slice a l.length c) l∧Ats X (.slice a2 ats.length c2) ats)∧Below w.heap.size w w'
theorem z45_1 {p:Prop} (h:p:=by
 have hr3:Below wr.heap.size wr X3:=(HB5'.out.trans (hB6.mono HB5'.out.size)).trans (hb3.mono (by have:=HB5'.out.size;have:=hB6.size;omega));have hown3:=oQ hr.out.own (Keeps.of_below (F:=fun _=>False) hr3) (fun _ _ e=>e);refine rdyH 8 rfl (fun K hK=>?_);refine step_appN rfl (.tmp 35) (.tmp 38) 28 rfl W5.heap.size 68 i5 _ 19 248 Tryz.underlying28 hi hz0 hz1 hz2 rfl (by decide) (.slice a k c) k cs rfl hown3 ⟨w6.heap.size,0,none⟩ 1 1 CN.toList rfl (by rw[Array.length_toList,HCNS.out]) (fun j u hj=>rowAtW n3 j u hj) HON.out (by unfold maxLen;omega) (by omega) (by have:=hr.out.kp.size;have:=hr3.size;omega) ?_;intro v7 w7 hown7 hgr7 hnew7;obtain⟨a7,c7,rfl⟩:=own_slice hown7;have k37:=Keeps.of_grown (F:=fun j=>(Value.slice a k c).ownBlock=some j) hgr7 (fun _ h=>h);have hS7:=kU kS3 k37 (fun e=>by have:=(hr.out.own.lt _ e).2;omega);have hg7:=kU (kP hr.out.at_ hr3) k37 (fun e=>by have:=(hr.out.own.lt _ e).1;have:=HZ5.out;omega);go_simp;refine hK.out _ _ hS7 (fun hSg=>?_);clear hK K;refine tkE 9 40 rfl rfl ?_;simp only[setS];refine tkE 10 41 rfl rfl ?_;simp only[setS];have e7:w7.cell? ⟨g,0,none⟩=some (.slice a k c):=cP hg7 0;have f7:w7.frozen? ⟨g,0,none⟩=false:=hpFree hg7 0;refine rdyH 11 rfl (fun K hK=>?_);go_simp;refine hK.out _ _ ((hpOther (by have:=hpLt hr.out.at_;omega)).trans hS7) (fun hSh=>?_);clear hK K;refine wpAnyH_done (by kernel_rfl) ?_ _;have HN7:=hid (hr.out.step HZ5.out HX.out (HB5'.out.trans (kD.mono HB5'.out.size)) (HRD6.out) hb6 hb3 hgr7 (by rw[HCN.out];exact hown7) hnew7);go_wp2;go_roundw;(case rel=>exact⟨k+1,_,_,_,(by have:=HLT.out;omega),(by go_num),HN7.out⟩);(case measure=>(have:=HLT.out;simp [intOf];omega))):p:=h
theorem lnew_ok (l:List Sl) (s:Scr) (la:Option Addr) (ln lc:Nat) (av cv:Value) (w:World) (hn:l.length=ln) (hL:Slvs w (.slice la ln lc) l) (hA:Ats w av s.ats) (hC:Rgs w cv s.cr) (hB:BusP l) (hok:s.ok):
  Calls Tryz.prog 24 #[.slice la ln lc,.agg #[av,.bool s.loop,cv]] w (LnMade w l s.loop s.ats):=by
 obtain⟨i5,hi,hz0,hz1,hz2⟩:=info_parts infoSlW
 obtain⟨VB,hVB,HV0⟩:=pbus_any l
 obtain rfl:VB=true:=hVB.2 hB
 have HSV:Hid (∀X,Below w.heap.size w X→Calls Tryz.prog 67 #[.agg #[av,.bool s.loop,cv]] X fun r w'=>r=.returned (.bool true)∧Below X.heap.size X w'):=fun X hX=>(pscr_any s av cv X (hA.keep hX) (hC.keep hX)).mono fun r w' ⟨V,h1,h2,h3⟩=>by
  cases V with
  |false=>exact absurd (h2.out.2 hok) Bool.noConfusion
  |true=>exact⟨h1,h3⟩
 obtain⟨lp,hlp⟩:∃b,s.loop=b:=⟨_,rfl⟩
 obtain⟨aa,ac,rfl,-⟩:=id hA
 obtain⟨an,han⟩:∃n,s.ats.length=n:=⟨_,rfl⟩
 have ha4:s.ats.length≤1000000:=by have:=hok.1;omega
 rw[hlp,han] at HSV ⊢
 rw[han] at hA
 obtain⟨W1,hW1⟩:∃W,w.alloc (.cells #[.slice aa an ac,.bool lp,cv] 32)=W:=⟨_,rfl⟩
 have hb1:Below w.heap.size w W1:=by rw[←hW1];exact bal' w _
 have pS:W1.heap[w.heap.size]?=some (.cells #[.slice aa an ac,.bool lp,cv] 32):=by rw[←hW1];exact hpNew w _
 have HV:Hid (Calls Tryz.prog 66 #[.slice la ln lc] W1 (BoolPost W1 true)):=HV0 W1 _ (hL.keep hb1)
 have HCA:Hid (∀X,Below w.heap.size w X→Calls Tryz.prog 68 #[.slice aa an ac] X fun r w'=>∃a c,r=.returned (.slice a an c)∧w'.ownsRow X.heap.size 70 6 (.slice a an c) an (atV s.ats)∧Below X.heap.size X w'):=fun X hX=>by
  have h:=cloneAt_any (.slice aa an ac) s.ats X (hA.keep hX) ha4
  refine h.mono ?_
  rintro r w' ⟨a,c,h1,h2,h3⟩
  rw[han] at h1 h2
  exact⟨a,c,h1,h2,h3⟩
 have HWF:=hid hA.wfW
 have HB:=hid hB
 have hl16:ln≤16:=by have:=hB.1;omega
 have HL:=hid hL
 have HN:=hid hn
 have HW1:=hid hW1
 have HB1:=hid hb1
 have HPS:=hid pS
 have HAN:=hid han
 clear hW1 hb1 pS hVB HV0 hL hA hC hB hok hlp han ha4
 go_enter Tryz.func24,Tryz.ntmps24
 go_upto_region 1 with(fail)
 rw[HW1.out]
 go_upto_region 3 with(first
  |(go_at_call 66;(with_reducible refine HV.out.mono ?_);rintro r w2 ⟨rfl,hb2⟩;have y0:=cP (kP HPS.out hb2) 0;have y1:=cP (kP HPS.out hb2) 1;have y2:=cP (kP HPS.out hb2) 2)
  |(go_at_call 67;(with_reducible refine(HSV.out _ (bU HB1.out hb2)).mono ?_);rintro r w3 ⟨rfl,hb3⟩))
 have HB3:Hid (Below w.heap.size w w3):=bU (bU HB1.out hb2) hb3
 have pS3:=kP (kP HPS.out hb2) hb3
 have s0:∀X,Below w3.heap.size w3 X→X.cell? ⟨w.heap.size,0,none⟩=some (.slice aa an ac):=fun X h=>cP (kP pS3 h) 0
 have s1:∀X,Below w3.heap.size w3 X→X.cell? ⟨w.heap.size,1,none⟩=some (.bool lp):=fun X h=>cP (kP pS3 h) 1
 have kD:Below w3.heap.size w3 w3.drew:=(Below.refl _ _).drew
 clear y0 y1 y2 hb2 hb3
 refine wp_region_held_drew (S:=fun V=>Below w3.heap.size w3 V) (by kernel_rfl) kD (fun hH=>?_)
 clear hH
 refine tkE 0 17 rfl rfl ?_;simp only[setS]
 refine tkE 1 18 rfl rfl ?_;simp only[setS]
 refine tkE 3 20 rfl rfl ?_;simp only[setS]
 refine tkE 4 21 rfl rfl ?_;simp only[setS]
 refine rdyH 2 rfl (fun K hK=>?_);go_simp
 refine(HCA.out _ (bU HB3.out kD)).mono ?_
 rintro r w4 ⟨a2,c2,rfl,hown4,hb4⟩
 have hB4:=bU kD hb4
 refine hK.out _ _ hB4 (fun hSx=>?_);clear hK K hSx
 refine tkE 5 22 rfl rfl ?_;simp only[setS]
 refine tkE 6 23 rfl rfl ?_;simp only[setS]
 refine rdyH 7 rfl (fun K hK=>?_);go_simp
 have hB5:Below w3.heap.size w3 (w4.alloc (.cells (LnC (.slice none 0 0) (.slice a2 an c2) lp (.slice none 0 0) (.slice none 0 0) (.slice none 0 0) 0 false 0) 125)):=bta hB4 (Nat.le_refl _) _
 refine hK.out _ _ hB5 (fun hSx=>?_);clear hK K hSx
 refine tkD 8 6 (v:=?_) rfl (by kernel_rfl) (fun _ _ _ h=>h) rfl (by rfl) (by assumption) ?_ ?_;rotate_left;(intro w hSw;(try dsimp only at hSw);(try go_simp);try rfl)
 refine wpAnyH_done (by kernel_rfl) ?_ _
 obtain⟨g,hg⟩:∃g,w4.heap.size=g:=⟨_,rfl⟩
 obtain⟨W5,hW5⟩:∃W,w4.alloc (.cells #[.slice none 0 0,.slice a2 an c2,.bool lp,.slice none 0 0,.slice none 0 0,.slice none 0 0,.int .i64 0,.bool false,.int .i64 0] 125)=W:=⟨_,rfl⟩
 have p5:W5.heap[g]?=some (.cells (LnC (.slice none 0 0) (.slice a2 an c2) lp (.slice none 0 0) (.slice none 0 0) (.slice none 0 0) 0 false 0) 125):=by rw[←hW5,←hg];exact hpNew _ _
 have h45:Below w4.heap.size w4 W5:=by rw[←hW5];exact bal' _ _
 have HAT:Hid (∀X,Keeps (· =g) W5 X→Ats X (.slice a2 an c2) s.ats):=fun X hX=>by
  have h1:=oQ hown4 (Keeps.of_below (F:=fun _=>False) h45) (fun _ _ e=>e)
  have h2:=oQ h1 hX (fun j hj e=>by have:=(hown4.lt j hj).2;have e':j=g:=e;omega)
  exact Sls.of_own h2 (atV_csl _ HWF.out) HAN.out
 have HB5:Hid (Below w.heap.size w W5):=by rw[←hW5];exact bU HB3.out hB5
 have HZ5:Hid (W5.heap.size=g+1):=by show _=_;rw[←hW5,←hg];simp
 have HR0:Hid (NwR W5 W5 g (.slice a2 an c2) lp l 0 none 0 []):=⟨p5,World.ownsRow_nil _ _ _ _,rfl,Keeps.refl _ _⟩
 have HGW:Hid (w.heap.size≤g):=by show _≤_;have:=HB3.out.size;have:=hB4.size;omega
 have hL:=hW5
 rw[hW5,hg]
 clear hW5 hL s0 s1 kD hown4 hb4 hB4 hB5 p5 h45 hg pS3
 go_upto_region 5 with(fail)
 go_loopw [27] (fun kv wr=>∃(k:Nat) (a:Option Addr) (c:Nat) (cs:List Value),k≤ln∧kv=.int .i64 (k:Int)∧Hid (NwR W5 wr g (.slice a2 an c2) lp l k a c cs)) (fun kv _=>ln- (intOf kv).toNat)
 case atStart=>exact⟨0,none,0,[],Nat.zero_le _,rfl,HR0.out⟩
 case round=>
  clear HR0
  obtain⟨k,a,c,cs,hk,rfl,hr⟩:=hrel
  have hk0:(0:Int)≤(k:Int):=Int.natCast_nonneg _
  have HBR:Hid (Below w.heap.size w wr):=HB5.out.trans (hr.out.kp.below HB5.out.size (fun j hj e=>by have:=HGW.out;omega))
  by_cases hlt:k<ln
  ·obtain ⟨x,hx⟩:=gs (l:=l) HN.out hlt
   obtain⟨b,o,rv,ov,sv,rfl,hR,hc⟩:=(HL.out.keep HBR.out).at hx
   have hbd:SlBd x:=val_bd (HB.out.2 x (List.mem_of_getElem? hx))
   obtain⟨C,hC⟩:∃C,SlC x rv ov sv=C:=⟨_,rfl⟩
   have hi19:(Tryz.prog.info? 68).map (·.size)=some C.size:=by rw[←hC];exact infoSL
   have hcs:C.size=19:=by rw[←hC];rfl
   have h1c:C.toList.all (·.oneCell')=true:=by rw[←hC];exact hR.one
   have hrow:∀j v,C.toList[j]?=some v→wr.cell? ((⟨b,o+k*19,none⟩:Addr).add j)=some v:=fun j v hj=>by
    rw[Addr.add_lit]
    exact hc j v (by rw[hC];simpa using hj)
   have HCL:Hid (∀X,Below wr.heap.size wr X→Calls Tryz.prog 69 #[.agg C] X (SlNew X x)):=fun X hX=>by rw[←hC];exact clone_sl x rv ov sv X (hR.keep hX) hbd
   have hkl:(k:Int)<(ln:Int):=by omega
   have HX:=hid hx
   have HLT:=hid hlt
   have HCS:=hid hcs
   clear hx hR hc hbd hC hlt
   go_upto_region 7 with(first
    |(refine wpList_load_atH (by rfl) 68 (.tmp 29) rfl ⟨b,o+k*19,none⟩ rfl C _ hrow Tryz.underlying68 rfl hi19 ?_)
    |(refine wpList_storeW rfl 68 (.tmp 8) (.tmp 30) rfl wr.heap.size 0 _ 68 C rfl rfl (hpNew wr _) (by simp [hcs]) hi19 h1c ?_;intro w5 g5 hk5 hz5))
   obtain⟨p5,hb5⟩:=var_new (by rw[HCS.out];rfl) g5 hk5
   dsimp only[Act.put]
   have HG5:=hid (kP hr.out.at_ hb5)
   have d0:w5.drew.cell? ⟨g,0,none⟩=some (.slice a k c):=cP HG5.out 0
   have kD:Below w5.heap.size w5 w5.drew:=(Below.refl _ _).drew
   have kS:w5.drew.heap[wr.heap.size]?=some (.cells C 68 (0,0)):=kP p5 kD
   have HRD:Hid (∀X:World,X.heap[wr.heap.size]?=some (.cells C 68 (0,0))→∀j v,C.toList[j]?=some v→X.cell? ((⟨wr.heap.size,0,none⟩:Addr).add j)=some v):=fun X hX j v hj=>rowAtW hX j v hj
   have HP5:=hid p5
   have HB5':=hid hb5
   have hkm:k≤16:=by omega
   clear g5 hk5 hz5 hrow h1c p5 hb5
   refine wp_region_held_drew (S:=fun V=>V.heap[wr.heap.size]?=some (.cells C 68 (0,0))) (by kernel_rfl) kS (fun hH=>?_)
   clear hH
   refine tkE 0 31 rfl rfl ?_;simp only[setS]
   refine tkE 1 32 rfl rfl ?_;simp only[setS]
   refine tkE 2 33 rfl rfl ?_;simp only[setS]
   refine tkE 3 34 rfl rfl ?_;simp only[setS]
   refine tkD 5 36 (v:=.agg C) rfl (by kernel_rfl) (fun _ _ _ h=>h) rfl (by rfl) (by assumption) (fun X hX=>run_load_rowW 68 (.tmp 8) rfl ⟨wr.heap.size,0,none⟩ rfl C _ (HRD.out X hX) Tryz.underlying68 rfl hi19) ?_;simp only[setS]
   refine wpAnyH_ready (rs:=[4,6]) (by kernel_rfl) (by simp) ?_
   refine AllReadyH.cons rfl (fun K hK=>?_) (AllReadyH.cons rfl (fun K hK=>?_) AllReadyH.nil)
   ·go_simp
    refine hK.out _ _ kS (fun hSx=>?_);clear hK K hSx
    refine rdyH 6 rfl (fun K hK=>?_);go_simp
    refine(HCL.out _ (bU HB5'.out kD)).mono ?_;rintro r w6 ⟨rv6,ov6,sv6,rfl,hrd6,hb6⟩;obtain⟨CN,hCN⟩:∃C,SlC x rv6 ov6 sv6=C:=⟨_,rfl⟩;rw[hCN];have hfold:=slFoldW x rv6 ov6 sv6 CN hCN;have hcn:CN.size=19:=(by rw[←hCN];rfl);have hon:∀u∈CN.toList,u.oneCell'=true:=(by rw[←hCN];exact List.all_eq_true.1 (hrd6 w6 (Agree.refl _ _)).one);have HFD:=hid hfold;have HCN:=hid hCN;have HRD6:=hid hrd6;have HON:=hid hon;have hB6:Below w5.heap.size w5 w6:=bU kD hb6;have kS6:=kP HP5.out hB6;clear hCN hfold hrd6 hon;refine hK.out _ _ kS6 (fun hSx=>?_);clear hK K hSx
    refine rdyH 7 rfl (fun K hK=>?_);go_simp;rw[HFD.out];have HCNS:=hid hcn;clear hcn;obtain⟨X3,hX3⟩:∃X,w6.alloc (.cells CN 68)=X:=⟨_,rfl⟩;have hb3:Below w6.heap.size w6 X3:=(by rw[←hX3];exact bal' _ _);have n3:X3.heap[w6.heap.size]?=some (.cells CN 68 (0,0)):=(by rw[←hX3];exact hpNew _ _);rw[hX3];have kS3:=kP kS6 hb3;refine hK.out _ _ kS3 (fun hSx=>?_);clear hK K hSx
    exact z45_1
   ·go_simp
    refine(HCL.out _ (bU HB5'.out kD)).mono ?_;rintro r w6 ⟨rv6,ov6,sv6,rfl,hrd6,hb6⟩;obtain⟨CN,hCN⟩:∃C,SlC x rv6 ov6 sv6=C:=⟨_,rfl⟩;rw[hCN];have hfold:=slFoldW x rv6 ov6 sv6 CN hCN;have hcn:CN.size=19:=(by rw[←hCN];rfl);have hon:∀u∈CN.toList,u.oneCell'=true:=(by rw[←hCN];exact List.all_eq_true.1 (hrd6 w6 (Agree.refl _ _)).one);have HFD:=hid hfold;have HCN:=hid hCN;have HRD6:=hid hrd6;have HON:=hid hon;have hB6:Below w5.heap.size w5 w6:=bU kD hb6;have kS6:=kP HP5.out hB6;clear hCN hfold hrd6 hon;refine hK.out _ _ kS6 (fun hSx=>?_);clear hK K hSx
    refine wpAnyH_ready (rs:=[4,7]) (by kernel_rfl) (by simp) ?_
    refine AllReadyH.cons rfl (fun K hK=>?_) (AllReadyH.cons rfl (fun K hK=>?_) AllReadyH.nil)
    ·have d6:w6.cell? ⟨g,0,none⟩=some (.slice a k c):=cP (kP HG5.out hB6) 0
     go_simp
     refine hK.out _ _ kS6 (fun hSx=>?_);clear hK K hSx
     refine rdyH 7 rfl (fun K hK=>?_);go_simp;rw[HFD.out];have HCNS:=hid hcn;clear hcn;obtain⟨X3,hX3⟩:∃X,w6.alloc (.cells CN 68)=X:=⟨_,rfl⟩;have hb3:Below w6.heap.size w6 X3:=(by rw[←hX3];exact bal' _ _);have n3:X3.heap[w6.heap.size]?=some (.cells CN 68 (0,0)):=(by rw[←hX3];exact hpNew _ _);rw[hX3];have kS3:=kP kS6 hb3;refine hK.out _ _ kS3 (fun hSx=>?_);clear hK K hSx
     exact z45_1
    ·go_simp
     rw[HFD.out];have HCNS:=hid hcn;clear hcn;obtain⟨X3,hX3⟩:∃X,w6.alloc (.cells CN 68)=X:=⟨_,rfl⟩;have hb3:Below w6.heap.size w6 X3:=(by rw[←hX3];exact bal' _ _);have n3:X3.heap[w6.heap.size]?=some (.cells CN 68 (0,0)):=(by rw[←hX3];exact hpNew _ _);rw[hX3];have kS3:=kP kS6 hb3;refine hK.out _ _ kS3 (fun hSx=>?_);clear hK K hSx
     have d6:X3.cell? ⟨g,0,none⟩=some (.slice a k c):=cP (kP HG5.out (bU hB6 hb3)) 0
     refine rdyH 4 rfl (fun K hK=>?_);go_simp
     refine hK.out _ _ kS3 (fun hSx=>?_);clear hK K hSx
     exact z45_1
  ·obtain rfl:k=ln:=by omega
   go_wp2
   go_ret2
   have e1:=HN.out
   have e2:=HAN.out
   have hr':=hr.out
   have hat:=HAT.out
   subst e1 e2
   refine⟨g,a,c,a2,c2,rfl,HGW.out,hr'.at_,fun X hX=>⟨?_,hat X (hr'.kp.trans hX (fun _ _ e=>e))⟩,HBR.out⟩
   have ho:=oQ hr'.own hX (fun j hj e=>by have:=(hr'.own.lt j hj).1;have:=HZ5.out;have e':j=g:=e;omega)
   have hcsl:=hr'.csl
   rw[List.take_of_length_le (Nat.le_refl _)] at hcsl
   exact Sls.of_own ho (CsL.mono (fun r y hy=>SlQ.row (hX.mono (fun _ _ e=>.inl e)) r y hy) _ _ hcsl) rfl
theorem infoSn:(Tryz.prog.info? 95).map (fun i=>(i.zero,i.size,i.bytes))=some (some (.agg #[.int .i64 0,.int .i64 0,.slice none 0 0]),3,40):=by kernel_rfl
theorem PnR.blk {P:Nat→Prop} {W:World} {v:Value} {l:List Ch} (h:PnR P W v l):∀j,v.ownBlock=some j→P j:=fun j hj=>by
 rcases h with⟨rfl,_⟩|⟨g,o,c,N,rfl,h2,h3,h4,h5,h6⟩
 ·cases hj
 ·injection hj with hj
  subst hj
  exact h6
theorem PnR.own' {P:Nat→Prop} {W:World} {v:Value} {l:List Ch} (h:PnR P W v l):PnR (fun j=>v.ownBlock=some j) W v l:=by
 rcases h with h|⟨g,o,c,N,rfl,h2,h3,h4,h5,h6⟩
 ·exact .inl h
 ·exact .inr ⟨g,o,c,N,rfl,h2,h3,h4,h5,rfl⟩
def SnQ (F:Nat→Prop) (W:World) (r:List Value) (x:(Int×Int)×List UInt8):Prop:=∃a c,r=[.int .i64 x.1.1,.int .i64 x.1.2,.slice a x.2.length c]∧∀X,Keeps F W X→Bs X (.slice a x.2.length c) x.2
theorem SnQ.keeps {F G H:Nat→Prop} {W W':World} (hk:Keeps H W W') (h1:∀j,j<W.heap.size→H j→F j) (h2:∀j,j<W.heap.size→G j→F j) (r:List Value) (x:(Int×Int)×List UInt8) (h:SnQ F W r x):SnQ G W' r x:=by
 obtain⟨a,c,e,hr⟩:=h
 exact⟨a,c,e,fun X hX=>hr X ((hk.mono h1).trans hX h2)⟩
def LnF (P:Nat→Prop) (g:Nat) (tv pv:Value) (j:Nat):Prop:=j=g∨tv.ownBlock=some j∨pv.ownBlock=some j∨¬P j
structure LnS (P:Nat→Prop) (W:World) (g:Nat) (sv av:Value) (lp:Bool) (s:Ln) (tv pv:Value) (cs:List Value):Prop where
 at_:W.heap[g]?=some (.cells (LnC sv av lp (.slice none 0 0) tv pv s.free s.heard s.last) 125)
 pg:P g
 pl:∀j,P j→j<W.heap.size
 sn:W.ownsRow 0 95 3 tv s.sent.length cs
 tb:∀j,tv.ownBlock=some j→j≠g∧P j
 pn:PnR (fun j=>j≠g∧tv.ownBlock≠some j∧P j) W pv s.pend
 sc:CsL 3 (SnQ (LnF P g tv pv) W) cs s.sent
def LnAt (P:Nat→Prop) (W:World) (g:Nat) (sv av:Value) (lp:Bool) (s:Ln):Prop:=∃tv pv cs,LnS P W g sv av lp s tv pv cs
theorem LnS.keep {P F:Nat→Prop} {W X:World} {g:Nat} {sv av:Value} {lp:Bool} {s:Ln} {tv pv:Value} {cs:List Value} (h:LnS P W g sv av lp s tv pv cs) (hk:Keeps F W X) (hn:∀j,P j→¬F j):LnS P X g sv av lp s tv pv cs:=
 ⟨kU h.at_ hk (hn g h.pg),h.pg,fun j hj=>Nat.lt_of_lt_of_le (h.pl j hj) hk.size,oQ h.sn hk (fun j hj=>hn j (h.tb j hj).2),h.tb,h.pn.keeps hk (fun j hj=>hn j hj.2.2),
  CsL.mono (fun r y hy=>SnQ.keeps hk (fun j _ e=>.inr (.inr (.inr (fun hp=>hn j hp e)))) (fun _ _ e=>e) r y hy) _ _ h.sc⟩
theorem LnS.keepB {P:Nat→Prop} {W X:World} {g:Nat} {sv av:Value} {lp:Bool} {s:Ln} {tv pv:Value} {cs:List Value} (h:LnS P W g sv av lp s tv pv cs) (hb:Below W.heap.size W X):LnS P X g sv av lp s tv pv cs:=h.keep (F:=fun _=>False) (Keeps.of_below hb) (fun _ _ e=>e)
theorem LnAt.keep {P F:Nat→Prop} {W X:World} {g:Nat} {sv av:Value} {lp:Bool} {s:Ln} (h:LnAt P W g sv av lp s) (hk:Keeps F W X) (hn:∀j,P j→¬F j):LnAt P X g sv av lp s:=by
 obtain⟨tv,pv,cs,h⟩:=h
 exact⟨tv,pv,cs,h.keep hk hn⟩
theorem LnS.chg {P:Nat→Prop} {W W':World} {g:Nat} {sv av:Value} {lp:Bool} {s s':Ln} {tv pv pv':Value} {cs:List Value} (h:LnS P W g sv av lp s tv pv cs)
  (hk:Keeps (fun j=>j=g∨pv.ownBlock=some j) W W') (h':W'.heap[g]?=some (.cells (LnC sv av lp (.slice none 0 0) tv pv' s'.free s'.heard s'.last) 125)) (hs:s'.sent=s.sent)
  (pn':PnR (fun j=>pv.ownBlock=some j∨(W.heap.size≤j∧j<W'.heap.size)) W' pv' s'.pend):LnS (GrowP P W W') W' g sv av lp s' tv pv' cs∧Keeps P W W':=by
 have hgl:g<W.heap.size:=hpLt h.at_
 have hpv:=h.pn.blk
 refine⟨⟨h',.inl h.pg,fun j hj=>hj.lt h.pl hk.size,?_,fun j hj=>⟨(h.tb j hj).1,.inl (h.tb j hj).2⟩,pn'.mono (fun j hj=>?_),?_⟩,hk.mono (fun j _ e=>?_)⟩
 ·rw [hs]
  exact oQ h.sn hk (fun j hj e=>by
   rcases e with e|e
   ·exact (h.tb j hj).1 e
   ·exact (hpv j e).2.1 hj)
 ·rcases hj with e|⟨e,e2⟩
  ·obtain ⟨a,b,c⟩:=hpv j e
   exact⟨a,b,.inl c⟩
  ·exact ⟨by omega,fun e3=>by have:=h.pl j (h.tb j e3).2;omega,.inr ⟨e,e2⟩⟩
 ·rw [hs]
  refine CsL.mono (fun r y hy=>SnQ.keeps hk (fun j _ e=>?_) (fun j hj e=>?_) r y hy) _ _ h.sc
  ·rcases e with e|e
   ·exact .inl e
   ·exact .inr (.inr (.inl e))
  ·rcases e with e|e|e|e
   ·exact .inl e
   ·exact .inr (.inl e)
   ·rcases pn'.blk j e with e|e
    ·exact .inr (.inr (.inl e))
    ·omega
   ·exact .inr (.inr (.inr (fun hp=>e (.inl hp))))
 ·rcases e with e|e
  ·subst e
   exact h.pg
  ·exact (hpv j e).2.2
theorem LnS.sentMore {P:Nat→Prop} {W W':World} {g:Nat} {sv av:Value} {lp:Bool} {s:Ln} {tv pv tv':Value} {cs:List Value} (h:LnS P W g sv av lp s tv pv cs) {fr:Int} {x:(Int×Int)×List UInt8} {a:Option Addr} {c:Nat}
  (hk:Keeps (fun j=>j=g∨tv.ownBlock=some j) W W') (h':W'.heap[g]?=some (.cells (LnC sv av lp (.slice none 0 0) tv' pv fr s.heard s.last) 125))
  (ho:W'.ownsRow 0 95 3 tv' (s.sent.length+1) (cs++[.int .i64 x.1.1,.int .i64 x.1.2,.slice a x.2.length c])) (hnew:∀j,tv'.ownBlock=some j→tv.ownBlock=some j∨(W.heap.size≤j∧j<W'.heap.size))
  (hb:∀X,Keeps (fun j=>j<W.heap.size∨tv'.ownBlock=some j) W' X→Bs X (.slice a x.2.length c) x.2):
  LnS (GrowP P W W') W' g sv av lp {s with sent:=s.sent++[x],free:=fr} tv' pv (cs++[.int .i64 x.1.1,.int .i64 x.1.2,.slice a x.2.length c])∧Keeps P W W':=by
 have hgl:g<W.heap.size:=hpLt h.at_
 have hpv:=h.pn.blk
 have hF:∀j,j<W.heap.size→LnF (GrowP P W W') g tv' pv j→LnF P g tv pv j:=fun j hj e=>by
  rcases e with e|e|e|e
  ·exact .inl e
  ·rcases hnew j e with e|e
   ·exact .inr (.inl e)
   ·omega
  ·exact .inr (.inr (.inl e))
  ·exact .inr (.inr (.inr (fun hp=>e (.inl hp))))
 refine⟨⟨h',.inl h.pg,fun j hj=>hj.lt h.pl hk.size,?_,fun j hj=>?_,(h.pn.keeps hk (fun j hj e=>?_)).mono (fun j hj=>⟨hj.1,fun e=>?_,.inl hj.2.2⟩),?_⟩,hk.mono (fun j _ e=>?_)⟩
 ·show World.ownsRow _ 0 _ 3 tv' (s.sent++[x]).length _
  rw[List.length_append]
  exact ho
 ·rcases hnew j hj with e|e
  ·exact ⟨(h.tb j e).1,.inl (h.tb j e).2⟩
  ·exact ⟨by omega,.inr e⟩
 ·rcases e with e|e
  ·exact hj.1 e
  ·exact hj.2.1 e
 ·rcases hnew j e with e|e
  ·exact hj.2.1 e
  ·have:=h.pl j hj.2.2
   omega
 ·refine CsL.app _ _ (CsL.mono (fun r y hy=>SnQ.keeps hk (fun j _ e=>?_) hF r y hy) _ _ h.sc) [x] _ ⟨_,[],(List.append_nil _).symm,rfl,⟨a,c,rfl,fun X hX=>hb X (hX.mono (fun j hj e=>?_))⟩,rfl⟩
  ·rcases e with e|e
   ·exact .inl e
   ·exact .inr (.inl e)
  ·by_cases hjl:j<W.heap.size
   ·exact .inl hjl
   ·rcases e with e|e|e|e
    ·omega
    ·exact .inr e
    ·have:=h.pl j (hpv j e).2.2
     omega
    ·exact absurd (.inr ⟨by omega,hj⟩) e
 ·rcases e with e|e
  ·subst e
   exact h.pg
  ·exact (h.tb j e).2
theorem ins_zero (a:Option Addr) (c:Nat) (cf:Value) (w:World):Calls Tryz.prog 202 #[.slice a 0 c,.int .i64 0,.int .i64 0,cf] w fun r w'=>r=.returned (.tuple #[])∧w=w':=by
 go_enter Tryz.func202,Tryz.ntmps202
 go_upto_region 1 with(fail)
 go_loopw [8] (fun v wr=>v=.int .i64 1∧w=wr) (fun _ _=>0)
 case atStart=>exact⟨rfl,rfl⟩
 case round=>
  obtain⟨rfl,rfl⟩:=hrel
  go_wp2
  go_end0
  exact⟨rfl,rfl⟩
theorem stable_zero (a:Option Addr) (c:Nat) (cf:Value) (w:World):Calls Tryz.prog 183 #[.slice a 0 c,.int .i64 0,cf] w fun r w'=>r=.returned (.tuple #[])∧w=w':=by
 have HI:Hid (∀X,Calls Tryz.prog 202 #[.slice a 0 c,.int .i64 0,.int .i64 0,cf] X fun r w'=>r=.returned (.tuple #[])∧X=w'):=ins_zero a c cf
 go_enter Tryz.func183,Tryz.ntmps183
 go_upto_region 2 with(fail)
 go_loopw [7,8] (fun av bv wr=>av=.int .i64 0∧bv=.int .i64 20∧w=wr) (fun _ _ _=>0)
 case atStart=>exact⟨rfl,rfl,rfl⟩
 case round=>
  obtain⟨rfl,rfl,rfl⟩:=hrel
  go_upto_region 7 with(go_at_call 202;(with_reducible refine(HI.out _).mono ?_);rintro r w2 ⟨rfl,rfl⟩)
  go_loopw [6,7,8,9] (fun sv _ _ _ wr=>sv=.int .i64 20∧w=wr) (fun _ _ _ _ _=>0)
  case atStart=>exact⟨rfl,rfl⟩
  case round=>
   obtain⟨rfl,rfl⟩:=hrel
   go_wp2
   go_end0
   exact⟨rfl,rfl⟩
theorem sort_zero (a:Option Addr) (c:Nat) (cf:Value) (w:World):Calls Tryz.prog 159 #[.slice a 0 c,cf] w fun r w'=>r=.returned (.tuple #[])∧w=w':=by
 have HS:=hid (stable_zero a c cf w)
 go_enter Tryz.func159,Tryz.ntmps159
 go_wp2_with (go_at_call 183;(with_reducible refine HS.out.mono ?_);rintro r w2 ⟨rfl,rfl⟩)
 go_end0
 exact⟨rfl,rfl⟩
def SoPost (w:World) (v:Value) (l:List Ch) (r:Ending) (w':World):Prop:=r=.returned (.tuple #[])∧PnR (fun j=>v.ownBlock=some j) w' v l∧Keeps (fun j=>v.ownBlock=some j) w w'
theorem sort_pn {P:Nat→Prop} {w:World} {v:Value} {p news:List Ch} (h:PnR P w v (p++news)) (hp:ascL p) (hl:(p++news).length≤100000000):Calls Tryz.prog 159 #[v,.func (.func 160) #[] #[]] w (SoPost w v (news.foldl putL p)):=by
 obtain⟨l,hln⟩:∃l,p++news=l:=⟨_,rfl⟩
 have hlen:(news.foldl putL p).length=l.length:=by rw[puts_len,←hln,List.length_append]
 rw[hln] at h hl
 by_cases hz:l.length=0
 ·have hl0:l=[]:=List.eq_nil_of_length_eq_zero hz
  have hk0:news.foldl putL p=[]:=List.eq_nil_of_length_eq_zero (by omega)
  rw[hk0]
  subst hl0
  have h2:=h.own'
  obtain⟨a,c,rfl,-⟩:=h.len
  refine(sort_zero a c _ w).mono ?_
  rintro r w' ⟨rfl,rfl⟩
  exact⟨rfl,h2,Keeps.refl _ _⟩
 ·rcases h with⟨_,e⟩|⟨g,o,c,N,rfl,hat,h3,h4,h5,h6⟩
  ·rw [e] at hz
   exact absurd rfl hz
  ·refine (sortst_any g o l.length N c (rowK l) (by omega) hl (rowK_ord l) w hat.ck).mono ?_
   rintro r w' ⟨t',rfl,s1,s2,s3,s4⟩
   have hs:SrtL (p++news) (listK l.length t'):=by
    rw[hln]
    exact⟨t',s1,s2,rfl⟩
   have he:=hs.putsOn hp
   refine⟨rfl,.inr ⟨g,o,c,N,by rw[hlen],by rw[←he];exact s3.pn,by rw[hlen];exact h3,h4,h5,rfl⟩,s4.mono (fun j _ e=>by subst e;rfl)⟩
end Go.Proofs.YtoaoejaodhedaaaGreat
