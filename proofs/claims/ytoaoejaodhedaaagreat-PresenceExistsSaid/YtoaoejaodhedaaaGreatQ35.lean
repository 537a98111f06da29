import Derived.Test.YtoaoejaodhedaaaGreatQ34
namespace Go.Proofs.YtoaoejaodhedaaaGreat
open Go.RowKit
set_option maxHeartbeats 1600000
set_option maxRecDepth 100000
theorem BdP.any {s:Scr} {ti de:Int} (h:BdP s ti de) (h0:0≤ti) (h1:0≤de) (i:Nat):(atOf s.ats s.loop i).lat≤ti∧(atOf s.ats s.loop i).ticks≤de:=by
 unfold atOf;split
 ·exact ⟨h0,h1⟩
 ·cases e:s.ats[i%s.ats.length]? with
  |none=>exact⟨h0,h1⟩
  |some x=>exact h x (List.mem_of_getElem? e)
theorem mscr_any (aa ca:Option Addr) (an ac cn cc:Nat) (lp:Bool) (m:Int) (V:Bool) (hV:V=decide ((an:Int)≤m∧cn≤12)) (w:World):Calls Tryz.prog 47 #[.agg #[.slice aa an ac,.bool lp,.slice ca cn cc],.int .i64 m] w (BoolPost w V):=by
 obtain⟨W1,hW1,hb1,pS⟩:=alQ w (.cells #[.slice aa an ac,.bool lp,.slice ca cn cc] 32);have t0:=cG pS 0 rfl;have t2:=cG pS 2 rfl;have HW1:=bC hW1;have HB1:=bC hb1;have HT:Hid ((an:Int)≤m→cn≤12→V=true):=fun a b=>by rw[hV];exact decide_eq_true ⟨a,b⟩
 have HF:Hid (¬((an:Int)≤m∧cn≤12)→V=false):=fun a=>by rw[hV];exact decide_eq_false a
 clear hW1 hb1 pS hV;by_cases c1:(an:Int)≤m
 ·by_cases c2:cn≤12
  ·have HE:=bC (HT.out c1 c2)
   have c3:(cn:Int)≤12:=by omega
   have g3:decide ((cn:Int)≤12)=true:=decide_eq_true c3;go_enter Tryz.func47,Tryz.ntmps47;go_upto_region 1 with(fail);rw[HW1.out]
   go_wp2;go_ret;exact⟨by rw[HE.out]<;>rfl,HB1.out⟩
  ·have HE:=bC (HF.out (by omega))
   have c3:¬(cn:Int)≤12:=by omega
   have g3:decide ((cn:Int)≤12)=false:=decide_eq_false c3;go_enter Tryz.func47,Tryz.ntmps47;go_upto_region 1 with(fail);rw[HW1.out]
   go_wp2;go_ret;exact⟨by rw[HE.out]<;>rfl,HB1.out⟩
 ·have HE:=bC (HF.out (by omega))
  have g1:decide ((an:Int)≤m)=false:=decide_eq_false c1;go_enter Tryz.func47,Tryz.ntmps47;go_upto_region 1 with(fail);rw[HW1.out]
  go_wp2;go_ret;exact⟨by rw[HE.out]<;>rfl,HB1.out⟩
theorem cellsCf:Tryz.prog.cellsOf 27=16:=by kernel_rfl
theorem cellsSts:Tryz.prog.cellsOf 22=1:=by kernel_rfl
theorem cellsSet:Tryz.prog.cellsOf 61=2:=by kernel_rfl
theorem cellsWin:Tryz.prog.cellsOf 25=8:=by kernel_rfl
theorem z34_1 {p:Prop} (h:p:=by
 obtain⟨c0,c1,rfl⟩:=lst2 hl
 have f0:=hf _ (List.mem_cons_self ..)
 have f1:=hf _ (List.mem_cons_of_mem _ (List.mem_cons_self ..))
 simp only[cellsInt,List.drop_zero,List.drop_succ_cons,List.take_succ_cons,List.take_zero] at f0 f1
 obtain⟨a,rfl,w0⟩:=cM f0
 obtain⟨b,rfl,w1⟩:=cM f1
 exact⟨(a,b),rfl,w0,w1⟩):p:=h
theorem set_rd {w:World} {cs:List Value} (h:Rd Tryz.prog w 61 cs):∃x,RgR w cs x:=by
 obtain⟨hl,hf⟩:=h.struct Tryz.underlying61;rw[cellsSet] at hl;exact z34_1
theorem sets_rd {w:World} {v:Value} (h:Rd Tryz.prog w 22 [v]):∃l,Rgs w v l:=
 Sls.of_rd (R:=RgR) Tryz.underlying22 cellsSet (by decide) (fun _ h=>set_rd h) h
theorem lst16 {α:Type} {l:List α} (h:l.length=16):∃a b c d e f g i j k m n o p q r,l=[a,b,c,d,e,f,g,i,j,k,m,n,o,p,q,r]:=by
 match l,h with
 |[a,b,c,d,e,f,g,i,j,k,m,n,o,p,q,r],_=>exact⟨a,b,c,d,e,f,g,i,j,k,m,n,o,p,q,r,rfl⟩
structure CfW (c:Cf):Prop where
 fi:wfI c.fi
 la:wfI c.la
theorem cf_rd {w:World} {cs:Array Value} (h:Rd Tryz.prog w 27 cs.toList):∃c sv,cs=CfC c sv∧Rgs w sv c.sets∧CfW c:=by
 obtain⟨hl,hf⟩:=h.struct Tryz.underlying27;rw[cellsCf] at hl;obtain⟨cl⟩:=cs;obtain⟨c0,c1,c2,c3,c4,c5,c6,c7,c8,c9,c10,c11,c12,c13,c14,c15,rfl⟩:=lst16 hl;have f0:=hf _ (List.mem_cons_self ..);have f1:=hf _ (List.mem_cons_of_mem _ (List.mem_cons_self ..));have f2:=hf _ (List.mem_cons_of_mem _ (List.mem_cons_of_mem _ (List.mem_cons_self ..)));have f3:=hf _ (List.mem_cons_of_mem _ (List.mem_cons_of_mem _ (List.mem_cons_of_mem _ (List.mem_cons_self ..))));have f4:=hf _ (List.mem_cons_of_mem _ (List.mem_cons_of_mem _ (List.mem_cons_of_mem _ (List.mem_cons_of_mem _ (List.mem_cons_self ..)))));have f5:=hf _ (List.mem_cons_of_mem _ (List.mem_cons_of_mem _ (List.mem_cons_of_mem _ (List.mem_cons_of_mem _ (List.mem_cons_of_mem _ (List.mem_cons_self ..))))));have f6:=hf _ (List.mem_cons_of_mem _ (List.mem_cons_of_mem _ (List.mem_cons_of_mem _ (List.mem_cons_of_mem _ (List.mem_cons_of_mem _ (List.mem_cons_of_mem _ (List.mem_cons_self ..)))))));have f7:=hf _ (List.mem_cons_of_mem _ (List.mem_cons_of_mem _ (List.mem_cons_of_mem _ (List.mem_cons_of_mem _ (List.mem_cons_of_mem _ (List.mem_cons_of_mem _ (List.mem_cons_of_mem _ (List.mem_cons_self ..))))))));have f8:=hf _ (List.mem_cons_of_mem _ (List.mem_cons_of_mem _ (List.mem_cons_of_mem _ (List.mem_cons_of_mem _ (List.mem_cons_of_mem _ (List.mem_cons_of_mem _ (List.mem_cons_of_mem _ (List.mem_cons_of_mem _ (List.mem_cons_self ..)))))))));simp only[cellsInt,cellsSts,cellsWin,List.drop_zero,List.drop_succ_cons,List.take_succ_cons,List.take_zero] at f0 f1 f2 f3 f4 f5 f6 f7 f8;obtain⟨l,hll⟩:=sets_rd f0;obtain⟨b1,rfl,w1⟩:=cM f1;obtain⟨b2,rfl,w2⟩:=cM f2;obtain⟨b3,rfl,w3⟩:=cM f3;obtain⟨b4,rfl,w4⟩:=cM f4;obtain⟨b5,rfl,w5⟩:=cM f5;obtain⟨hl2,g2⟩:=f6.array Tryz.underlying25;have t0:=g2 0 (by decide);have t1:=g2 1 (by decide);have t2:=g2 2 (by decide);have t3:=g2 3 (by decide);simp only[cellsRg,Nat.zero_mul,Nat.reduceMul,List.drop_zero,List.drop_succ_cons,List.take_succ_cons,List.take_zero] at t0 t1 t2 t3;obtain⟨x0,e0,-,-⟩:=rg_rd t0;obtain⟨x1,e1,-,-⟩:=rg_rd t1;obtain⟨x2,e2,-,-⟩:=rg_rd t2;obtain⟨x3,e3,-,-⟩:=rg_rd t3;obtain⟨b7,rfl,w7⟩:=cM f7;obtain⟨b8,rfl,w8⟩:=cM f8;simp only[List.cons.injEq,and_true] at e0 e1 e2 e3;obtain⟨rfl,rfl⟩:=e0;obtain⟨rfl,rfl⟩:=e1;obtain⟨rfl,rfl⟩:=e2;obtain⟨rfl,rfl⟩:=e3;exact⟨⟨l,b1,b2,b3,b4,b5,mk4 x0 x1 x2 x3,b7,b8⟩,c0,rfl,hll,w1,w2⟩
theorem cellsScn:Tryz.prog.cellsOf 35=21:=by kernel_rfl
theorem cellsSls:Tryz.prog.cellsOf 28=1:=by kernel_rfl
theorem cellsScr:Tryz.prog.cellsOf 32=3:=by kernel_rfl
theorem cellsAts:Tryz.prog.cellsOf 29=1:=by kernel_rfl
theorem cellsCrs:Tryz.prog.cellsOf 30=1:=by kernel_rfl
theorem cellsCr:Tryz.prog.cellsOf 161=2:=by kernel_rfl
theorem cellsAqs:Tryz.prog.cellsOf 33=1:=by kernel_rfl
theorem cellsAq:Tryz.prog.cellsOf 49=6:=by kernel_rfl
structure Aq where
 m:Int
 st:Int
 un:Int
 fn:Int
 a:Int
 b:Int
def Aq.C (x:Aq):Array Value:=#[.int .i64 x.m,.int .i64 x.st,.int .i64 x.un,.int .i64 x.fn,.int .i64 x.a,.int .i64 x.b]
def wfA (x:Aq):Prop:=wfI x.m∧wfI x.st∧wfI x.un∧wfI x.fn∧wfI x.a∧wfI x.b
def AqR (_:World) (cs:List Value) (x:Aq):Prop:=cs=x.C.toList∧wfA x
def Aqs (w:World) (v:Value) (l:List Aq):Prop:=Sls 6 AqR w v l
theorem Aqs.row {w:World} {v:Value} {l:List Aq} (h:Aqs w v l) {k:Nat} {x:Aq} (hx:l[k]?=some x):
  ∃b o c,v=.slice (some ⟨b,o,none⟩) l.length c∧wfA x∧∀W,Below w.heap.size w W→∀i u,x.C.toList[i]?=some u→W.cell? ((⟨b,o+k*6,none⟩:Addr).add i)=some u:=by
 obtain⟨a,c,rfl,h1,h2,h3,h4⟩:=h;obtain⟨b,o,rfl,hel⟩:=h4 (by rintro rfl;simp at hx);obtain⟨r,hr,⟨rfl,hw⟩,hc⟩:=hel k x hx;exact⟨b,o,c,rfl,hw,fun W hW i u hi=>by rw[Addr.add_lit];exact bD hW (hc i u hi)⟩
theorem aq_rd {w:World} {cs:List Value} (h:Rd Tryz.prog w 49 cs):∃x,AqR w cs x:=by
 obtain⟨hl,hf⟩:=h.struct Tryz.underlying49;rw[cellsAq] at hl;obtain⟨c0,c1,c2,c3,c4,c5,rfl⟩:=lst6W hl;have f0:=hf _ (List.mem_cons_self ..);have f1:=hf _ (List.mem_cons_of_mem _ (List.mem_cons_self ..));have f2:=hf _ (List.mem_cons_of_mem _ (List.mem_cons_of_mem _ (List.mem_cons_self ..)));have f3:=hf _ (List.mem_cons_of_mem _ (List.mem_cons_of_mem _ (List.mem_cons_of_mem _ (List.mem_cons_self ..))));have f4:=hf _ (List.mem_cons_of_mem _ (List.mem_cons_of_mem _ (List.mem_cons_of_mem _ (List.mem_cons_of_mem _ (List.mem_cons_self ..)))));have f5:=hf _ (List.mem_cons_of_mem _ (List.mem_cons_of_mem _ (List.mem_cons_of_mem _ (List.mem_cons_of_mem _ (List.mem_cons_of_mem _ (List.mem_cons_self ..))))));simp only[cellsInt,List.drop_zero,List.drop_succ_cons,List.take_succ_cons,List.take_zero] at f0 f1 f2 f3 f4 f5;obtain⟨a0,rfl,w0⟩:=cM f0;obtain⟨a1,rfl,w1⟩:=cM f1;obtain⟨a2,rfl,w2⟩:=cM f2;obtain⟨a3,rfl,w3⟩:=cM f3;obtain⟨a4,rfl,w4⟩:=cM f4;obtain⟨a5,rfl,w5⟩:=cM f5;exact⟨⟨a0,a1,a2,a3,a4,a5⟩,rfl,w0,w1,w2,w3,w4,w5⟩
theorem aqs_rd {w:World} {v:Value} (h:Rd Tryz.prog w 33 [v]):∃l,Aqs w v l:=
 Sls.of_rd (R:=AqR) Tryz.underlying33 cellsAq (by decide) (fun _ h=>aq_rd h) h
theorem cr_rd {w:World} {cs:List Value} (h:Rd Tryz.prog w 161 cs):∃x,RgR w cs x:=by
 obtain⟨hl,hf⟩:=h.struct Tryz.underlying161;rw[cellsCr] at hl;exact z34_1
theorem crs_rd {w:World} {v:Value} (h:Rd Tryz.prog w 30 [v]):∃l,Rgs w v l:=
 Sls.of_rd (R:=RgR) Tryz.underlying30 cellsCr (by decide) (fun _ h=>cr_rd h) h
theorem ats_rd {w:World} {v:Value} (h:Rd Tryz.prog w 29 [v]):∃l,Ats w v l:=
 Sls.of_rd (R:=AtR) Tryz.underlying29 cellsAtW (by decide) (fun cs h=>by
  obtain⟨a,e,hw⟩:=at_rd (cs:=cs.toArray) (by simpa using h)
  exact⟨a,by rw[←e],hw⟩) h
theorem scr_rd {w:World} {cs:List Value} (h:Rd Tryz.prog w 32 cs):∃(s:Scr) (av cv:Value),cs=[av,.bool s.loop,cv]∧Ats w av s.ats∧Rgs w cv s.cr:=by
 obtain⟨hl,hf⟩:=h.struct Tryz.underlying32;rw[cellsScr] at hl;obtain⟨c0,c1,c2,rfl⟩:=lst3 hl;have f0:=hf _ (List.mem_cons_self ..);have f1:=hf _ (List.mem_cons_of_mem _ (List.mem_cons_self ..));have f2:=hf _ (List.mem_cons_of_mem _ (List.mem_cons_of_mem _ (List.mem_cons_self ..)));simp only[cellsAts,cellsBool,cellsCrs,List.drop_zero,List.drop_succ_cons,List.take_succ_cons,List.take_zero] at f0 f1 f2;obtain⟨l,h0⟩:=ats_rd f0;obtain⟨b,rfl⟩:=bool_rd f1;obtain⟨m,h2⟩:=crs_rd f2;exact⟨⟨l,b,m⟩,c0,c2,rfl,h0,h2⟩
def ScnC (c:Cf) (sv lv av:Value) (lp:Bool) (cv kv:Value):Array Value:=#[sv,.int .i64 c.fi,.int .i64 c.la,.int .i64 c.re,.int .i64 c.ti,.int .i64 c.de,.int .i64 (c.win 0).1,.int .i64 (c.win 0).2,.int .i64 (c.win 1).1,.int .i64 (c.win 1).2,.int .i64 (c.win 2).1,.int .i64 (c.win 2).2,.int .i64 (c.win 3).1,.int .i64 (c.win 3).2,.int .i64 c.ev,.int .i64 c.st,lv,av,.bool lp,cv,kv]
theorem lst5N {α:Type} {l:List α} (h:l.length=5):∃a b c d e,l=[a,b,c,d,e]:=by
 match l,h with
 |[a,b,c,d,e],_=>exact⟨a,b,c,d,e,rfl⟩
theorem scn_rd {w:World} {cs:Array Value} (h:Rd Tryz.prog w 35 cs.toList):
  ∃(c:Cf) (l:List Sl) (s:Scr) (k:List Aq) (sv lv av cv kv:Value),cs=ScnC c sv lv av s.loop cv kv∧Rgs w sv c.sets∧Slvs w lv l∧Ats w av s.ats∧Rgs w cv s.cr∧Aqs w kv k:=by
 obtain⟨hl,hf⟩:=h.struct Tryz.underlying35;rw[cellsScn] at hl;obtain⟨cl⟩:=cs;have f0:=hf _ (List.mem_cons_self ..);have f1:=hf _ (List.mem_cons_of_mem _ (List.mem_cons_self ..));have f2:=hf _ (List.mem_cons_of_mem _ (List.mem_cons_of_mem _ (List.mem_cons_self ..)));have f3:=hf _ (List.mem_cons_of_mem _ (List.mem_cons_of_mem _ (List.mem_cons_of_mem _ (List.mem_cons_self ..))));simp only[cellsCf,cellsSls,cellsScr,cellsAqs] at f0 f1 f2 f3;obtain⟨c,sv,e0,hR,-⟩:=cf_rd (cs:=(List.take 16 (List.drop 0 cl)).toArray) (by simpa using f0);have e0:List.take 16 cl=(CfC c sv).toList:=by rw[←e0];simp
 obtain⟨d0,d1,d2,d3,d4,he⟩:∃a b c d e,List.drop 16 cl=[a,b,c,d,e]:=by
  have hd:(List.drop 16 cl).length=5:=by
   have hl':cl.length=21:=hl;rw[List.length_drop,hl']
  exact lst5N hd
 have hcl:cl=(CfC c sv).toList++[d0,d1,d2,d3,d4]:=by rw[←e0,←he,List.take_append_drop]
 subst hcl;have g1:Rd Tryz.prog w 28 [d0]:=f1;have g2:Rd Tryz.prog w 32 [d1,d2,d3]:=f2;have g3:Rd Tryz.prog w 33 [d4]:=f3;obtain⟨l,hL⟩:=slvs_rd g1;obtain⟨s,av,cv,e,hA,hC⟩:=scr_rd g2;simp only[List.cons.injEq,and_true] at e;obtain⟨rfl,rfl,rfl⟩:=e;obtain⟨k,hK⟩:=aqs_rd g3;exact⟨c,l,s,k,sv,d0,d1,d3,d4,rfl,hR,hL,hA,hC,hK⟩
def MC (c:Cf) (sv:Value) (gl:Nat) (lk:Value) (st now:Int):Array Value:=#[sv,.int .i64 c.fi,.int .i64 c.la,.int .i64 c.re,.int .i64 c.ti,.int .i64 c.de,.int .i64 (c.win 0).1,.int .i64 (c.win 0).2,.int .i64 (c.win 1).1,.int .i64 (c.win 1).2,.int .i64 (c.win 2).1,.int .i64 (c.win 2).2,.int .i64 (c.win 3).1,.int .i64 (c.win 3).2,.int .i64 c.ev,.int .i64 c.st,.pointer (some ⟨gl,0,none⟩),lk,.int .i64 st,.int .i64 now]
structure Fx where
 la:Option Addr
 ln:Nat
 lc:Nat
 aa:Option Addr
 an:Nat
 ac:Nat
 lp:Bool
 l:List Sl
 ats:List At
structure Ms where
 n:Ln
 b:Bool
 x:Tx
 set:Int
 now:Int
def lkV (b:Bool) (gj:Nat):Value:=.pointer (if b=true then some ⟨gj,0,none⟩ else none)
structure MsS (gm gl gj k:Nat) (P PL Q:Nat→Prop) (c:Cf) (sv:Value) (f:Fx) (y:Ms) (s:Lk) (W:World):Prop where
 at_:W.heap[gm]?=some (.cells (MC c sv gl (lkV y.b gj) y.set y.now) 129)
 ln:LnAt PL W gl (.slice f.la f.ln f.lc) (.slice f.aa f.an f.ac) f.lp y.n
 G:LnG P W f.la f.ln f.lc f.aa f.an f.ac f.l f.ats f.lp
 nok:y.n.ok
 pk:y.b=true→PK gj k Q y.x s W
 qlt:∀j,Q j→j<W.heap.size
 dis:∀j,PL j→¬Q j
 gm1:¬PL gm
 gm2:¬Q gm
 pl:∀j,PL j→P j
 pq:∀j,Q j→P j
 pm:P gm
 plt:∀j,P j→j<W.heap.size
 rgs:∀X,Keeps P W X→Rgs X sv c.sets
 chk:chkE c=0
theorem LnAt.lts {P:Nat→Prop} {W:World} {g:Nat} {sv av:Value} {lp:Bool} {s:Ln} (h:LnAt P W g sv av lp s):∀j,P j→j<W.heap.size:=by
 obtain⟨tv,pv,cs,h⟩:=h;exact h.pl
theorem LnAt.at_g {P:Nat→Prop} {W:World} {g:Nat} {sv av:Value} {lp:Bool} {s:Ln} (h:LnAt P W g sv av lp s):P g:=by
 obtain⟨tv,pv,cs,h⟩:=h;exact h.pg
theorem GrowP.step {P:Nat→Prop} {W0 W W':World} {j:Nat} (h:GrowP (GrowP P W0 W) W W' j) (h1:W0.heap.size≤W.heap.size) (h2:W.heap.size≤W'.heap.size):GrowP P W0 W' j:=by
 rcases h with(h|⟨a,b⟩)|⟨a,b⟩
 ·exact .inl h
 ·exact .inr ⟨a,by omega⟩
 ·exact .inr ⟨by omega,b⟩
theorem MsS.keep {gm gl gj k:Nat} {P PL Q F:Nat→Prop} {c:Cf} {sv:Value} {f:Fx} {y:Ms} {s:Lk} {W X:World} (h:MsS gm gl gj k P PL Q c sv f y s W) (hk:Keeps F W X) (hn:∀j,P j→¬F j) (hs:∀Y,Keeps P X Y→Rgs Y sv c.sets∧Slvs Y (.slice f.la f.ln f.lc) f.l∧Ats Y (.slice f.aa f.an f.ac) f.ats):MsS gm gl gj k P PL Q c sv f y s X:=
 {at_:=bG h.at_ hk (hn gm h.pm)
  ln:=h.ln.keep hk (fun j hj=>hn j (h.pl j hj))
  G:=⟨fun Y hY=>(hs Y hY).2,h.G.ln_,h.G.an_,h.G.bus,h.G.ok,h.G.lp_⟩
  nok:=h.nok
  pk:=fun hb=>(h.pk hb).keeps hk (fun j hj=>hn j (h.pq j hj))
  qlt:=fun j hj=>Nat.lt_of_lt_of_le (h.qlt j hj) hk.size
  dis:=h.dis,gm1:=h.gm1,gm2:=h.gm2,pl:=h.pl,pq:=h.pq,pm:=h.pm
  plt:=fun j hj=>Nat.lt_of_lt_of_le (h.plt j hj) hk.size
  rgs:=fun Y hY=>(hs Y hY).1
  chk:=h.chk}
theorem MsS.keepB {gm gl gj k:Nat} {P PL Q:Nat→Prop} {c:Cf} {sv:Value} {f:Fx} {y:Ms} {s:Lk} {W X:World} (h:MsS gm gl gj k P PL Q c sv f y s W) (hb:Below W.heap.size W X):MsS gm gl gj k P PL Q c sv f y s X:=
 h.keep (F:=fun _=>False) (Keeps.of_below hb) (fun _ _ e=>e) (fun Y hY=>⟨h.rgs Y ((Keeps.of_below hb).trans hY (fun _ _ e=>e)),h.G.rd Y ((Keeps.of_below hb).trans hY (fun _ _ e=>e))⟩)
theorem MsS.wider {gm gl gj k:Nat} {P P' PL Q:Nat→Prop} {c:Cf} {sv:Value} {f:Fx} {y:Ms} {s:Lk} {W:World} (h:MsS gm gl gj k P' PL Q c sv f y s W) (hp:∀j,P' j→P j) (hl:∀j,P j→j<W.heap.size)
  (hs:∀Y,Keeps P W Y→Rgs Y sv c.sets∧Slvs Y (.slice f.la f.ln f.lc) f.l∧Ats Y (.slice f.aa f.an f.ac) f.ats):MsS gm gl gj k P PL Q c sv f y s W:=
 {h with
  G:=⟨fun Y hY=>(hs Y hY).2,h.G.ln_,h.G.an_,h.G.bus,h.G.ok,h.G.lp_⟩
  pl:=fun j hj=>hp j (h.pl j hj)
  pq:=fun j hj=>hp j (h.pq j hj)
  pm:=hp gm h.pm
  plt:=hl
  rgs:=fun Y hY=>(hs Y hY).1}
theorem MsS.line {gm gl gj k:Nat} {P PL Q:Nat→Prop} {c:Cf} {sv:Value} {f:Fx} {y:Ms} {s:Lk} {W W':World} {n':Ln} (h:MsS gm gl gj k P PL Q c sv f y s W) (hl:LnAt (GrowP PL W W') W' gl (.slice f.la f.ln f.lc) (.slice f.aa f.an f.ac) f.lp n') (hk:Keeps PL W W') (hok:n'.ok):
    MsS gm gl gj k (GrowP P W W') (GrowP PL W W') Q c sv f {y with n:=n'} s W'∧Keeps P W W':=by
  have hz:=hk.size;have hkP:Keeps P W W':=hk.mono (fun j _ e=>h.pl j e);have hX:∀Y,Keeps (GrowP P W W') W' Y→Keeps P W Y:=fun Y hY=>hkP.trans hY (fun j hj e=>by
    rcases e with e|e
    · exact e
    · omega)
  exact⟨{
           at_:=bG h.at_ hk h.gm1
           ln:=hl
           G:=⟨fun Y hY=>h.G.rd Y (hX Y hY),h.G.ln_,h.G.an_,h.G.bus,h.G.ok,h.G.lp_⟩
           nok:=hok
           pk:=fun hb=>(h.pk hb).keeps hk (fun j hj e=>h.dis j e hj)
           qlt:=fun j hj=>Nat.lt_of_lt_of_le (h.qlt j hj) hz
           dis:=fun j hj e=>by
             rcases hj with hj|hj
             · exact h.dis j hj e
             · have:=h.qlt j e
               omega
           gm1:=fun e=>by
             rcases e with e|e
             · exact h.gm1 e
             · have:=h.plt gm h.pm
               omega
           gm2:=h.gm2
           pl:=fun j hj=>by
             rcases hj with hj|hj
             · exact .inl (h.pl j hj)
             · exact .inr hj
           pq:=fun j hj=>.inl (h.pq j hj)
           pm:=.inl h.pm
           plt:=fun j hj=>by
             rcases hj with hj|hj
             · exact Nat.lt_of_lt_of_le (h.plt j hj) hz
             · exact hj.2
           rgs:=fun Y hY=>h.rgs Y (hX Y hY)
           chk:=h.chk},hkP⟩
theorem MsS.link {gm gl gj k k':Nat} {P PL Q:Nat→Prop} {c:Cf} {sv:Value} {f:Fx} {y:Ms} {s s':Lk} {W W':World} {x':Tx} (h:MsS gm gl gj k P PL Q c sv f y s W) (hl:PK gj k' (Grow Q W W') x' s' W') (hk:Keeps Q W W'):
    MsS gm gl gj k' (GrowP P W W') PL (Grow Q W W') c sv f {y with x:=x'} s' W'∧Keeps P W W':=by
  have hz:=hk.size;have hkP:Keeps P W W':=hk.mono (fun j _ e=>h.pq j e);have hX:∀Y,Keeps (GrowP P W W') W' Y→Keeps P W Y:=fun Y hY=>hkP.trans hY (fun j hj e=>by
    rcases e with e|e
    · exact e
    · omega)
  exact⟨{
           at_:=bG h.at_ hk h.gm2
           ln:=h.ln.keep hk (fun j hj e=>h.dis j hj e)
           G:=⟨fun Y hY=>h.G.rd Y (hX Y hY),h.G.ln_,h.G.an_,h.G.bus,h.G.ok,h.G.lp_⟩
           nok:=h.nok
           pk:=fun _=>hl
           qlt:=hl.pin
           dis:=fun j hj e=>by
             rcases e with e|e
             · exact h.dis j hj e
             · have:=h.plt j (h.pl j hj)
               omega
           gm1:=h.gm1
           gm2:=fun e=>by
             rcases e with e|e
             · exact h.gm2 e
             · have:=h.plt gm h.pm
               omega
           pl:=fun j hj=>.inl (h.pl j hj)
           pq:=fun j hj=>by
             rcases hj with hj|hj
             · exact .inl (h.pq j hj)
             · exact .inr hj
           pm:=.inl h.pm
           plt:=fun j hj=>by
             rcases hj with hj|hj
             · exact Nat.lt_of_lt_of_le (h.plt j hj) hz
             · exact hj.2
           rgs:=fun Y hY=>h.rgs Y (hX Y hY)
           chk:=h.chk},hkP⟩
theorem MsS.own {gm gl gj gj' k k':Nat} {P PL Q Q':Nat→Prop} {c:Cf} {sv:Value} {f:Fx} {y:Ms} {s s':Lk} {W W':World} {b':Bool} {x':Tx} {st' now':Int} (h:MsS gm gl gj k P PL Q c sv f y s W) (hk:Keeps (· =gm) W W') (ha:W'.heap[gm]?=some (.cells (MC c sv gl (lkV b' gj') st' now') 129))
    (hp:b'=true→PK gj' k' Q' x' s' W) (hq:∀j,Q' j→j<W.heap.size∧¬PL j∧j≠gm∧P j):
    MsS gm gl gj' k' P PL Q' c sv f ⟨y.n,b',x',st',now'⟩ s' W'∧Keeps P W W':=by
  have hz:=hk.size;have hkP:Keeps P W W':=hk.mono (fun j _ e=>by have e':j=gm:=e;rw[e'];exact h.pm);have hX:∀Y,Keeps P W' Y→Keeps P W Y:=fun Y hY=>hkP.trans hY (fun j hj e=>e)
  exact⟨{
           at_:=ha
           ln:=h.ln.keep hk (fun j hj e=>h.gm1 (by have e':j=gm:=e;rw[←e'];exact hj))
           G:=⟨fun Y hY=>h.G.rd Y (hX Y hY),h.G.ln_,h.G.an_,h.G.bus,h.G.ok,h.G.lp_⟩
           nok:=h.nok
           pk:=fun hb=>(hp hb).keeps hk (fun j hj=>(hq j hj).2.2.1)
           qlt:=fun j hj=>Nat.lt_of_lt_of_le (hq j hj).1 hz
           dis:=fun j hj e=>(hq j e).2.1 hj
           gm1:=h.gm1
           gm2:=fun e=>(hq gm e).2.2.1 rfl
           pl:=h.pl
           pq:=fun j hj=>(hq j hj).2.2.2
           pm:=h.pm
           plt:=fun j hj=>Nat.lt_of_lt_of_le (h.plt j hj) hz
           rgs:=fun Y hY=>h.rgs Y (hX Y hY)
           chk:=h.chk},hkP⟩
theorem infoStm:(Tryz.prog.info? 61).map (fun i=>(i.zero,i.size,i.bytes))=some (some (.agg #[.int .i64 0,.int .i64 0]),2,16):=by kernel_rfl
def CloneStPost (w:World) (l:List (Int×Int)) (r:Ending) (w':World):Prop:=∃a c,r=.returned (.slice a l.length c)∧w'.ownsRow w.heap.size 61 2 (.slice a l.length c) l.length (setV l)∧Below w.heap.size w w'
theorem CloneStPost.own {w w':World} {l:List (Int×Int)} {v:Value} {n:Nat} {cs:List Value} (hcs:cs=setV l) (hn:n=l.length) (h:w'.ownsRow w.heap.size 61 2 v n cs) (hb:Below w.heap.size w w'):CloneStPost w l (.returned v) w':=by
 subst hcs hn;obtain⟨a,c,rfl⟩:=bN h;exact⟨a,c,rfl,h,hb⟩
theorem cloneSt_any (v:Value) (l:List (Int×Int)) (w:World) (hv:Rgs w v l) (hl:l.length≤1000000):Calls Tryz.prog 71 #[v] w (CloneStPost w l):=by
 obtain⟨i5,hi,hz0,hz1,hz2⟩:=info_parts infoStm;obtain⟨a,c,rfl,hc,hcm,hac,h4⟩:=id hv;unfold maxLen at hcm;have hq:=Lib.run_eql_slice_nil (P:=Tryz.prog);cases a with
 |none=>
  obtain rfl:=hac rfl;have hl0:l.length=0:=by omega
  have:l=[]:=List.eq_nil_of_length_eq_zero hl0;subst this;clear hv h4;go_enter Tryz.func71,Tryz.ntmps71;go_wp2;go_ret;exact CloneStPost.own (cs:=[]) (n:=0) rfl rfl (World.ownsRow_nil _ _ _ _) (Below.refl _ _)
 |some a=>
  by_cases hne:l=[]
  ·subst hne
   clear hv h4;go_enter Tryz.func71,Tryz.ntmps71;go_wp2_with (at_builtin;refine bZ rfl _ _ 22 rfl w.heap.size 61 i5 _ 2 16 Tryz.underlying22 hi hz0 hz1 hz2 rfl (by decide) _ 0 [] rfl (World.ownsRow_made _ _ _ (Nat.le_refl _) (by decide) rfl) a 0 c [] rfl rfl (by simp) (by simp) (by unfold maxLen;omega) (by omega) (by simp) ?c3)
   case c3=>
    intro v' w1 hown hgr _;have hbel:=(bH w (.cells #[] 61)).grown hgr (bH w (.cells #[] 61)).size (by intro k hk;simp [Value.ownBlock] at hk;omega);have HOWN:=bC hown;clear hgr hown;go_wp2;go_ret;exact CloneStPost.own (cs:=[]) (n:=0) rfl rfl (by simpa using HOWN.out) hbel
  ·obtain ⟨b,o,hab,-⟩:=h4 hne
   cases hab;have hcell:Hid (∀j u,(setV l)[j]?=some u→(w.alloc (.cells #[] 61)).cell? ((⟨b,o,none⟩:Addr).add j)=some u):=fun j u hj=>by
    have e1:(⟨b,o,none⟩:Addr).add j=⟨b,o+j,none⟩:=by unfold Addr.add;split<;>simp_all
    rw[e1];exact bD (bH w _) (hv.rowW j u hj)
   have HL:Hid ((setV l).length=l.length*2):=setV_length l;have H1:Hid (∀u∈setV l,u.oneCell'=true):=setW_one l;clear hv h4 hne;go_enter Tryz.func71,Tryz.ntmps71;go_wp2_with (at_builtin;refine bZ rfl _ _ 22 rfl w.heap.size 61 i5 _ 2 16 Tryz.underlying22 hi hz0 hz1 hz2 rfl (by decide) _ 0 [] rfl (World.ownsRow_made _ _ _ (Nat.le_refl _) (by decide) rfl) ⟨b,o,none⟩ l.length c (setV l) rfl HL.out hcell.out H1.out (by unfold maxLen;omega) (by omega) (by simp) ?c3)
   case c3=>
    intro v' w1 hown hgr _;have hbel:=(bH w (.cells #[] 61)).grown hgr (bH w (.cells #[] 61)).size (by intro k hk;simp [Value.ownBlock] at hk;omega);have HOWN:=bC (show w1.ownsRow w.heap.size 61 2 v' l.length (setV l) by simpa using hown);clear hgr hown;go_wp2;go_ret;exact CloneStPost.own rfl rfl HOWN.out hbel
theorem CloneStPost.rgs {w w':World} {l:List (Int×Int)} {r:Ending} (h:CloneStPost w l r w') (hwf:∀x∈l,wfI x.1∧wfI x.2):∃a c,r=.returned (.slice a l.length c)∧(∀X,Agree w.heap.size w' X→Rgs X (.slice a l.length c) l)∧Below w.heap.size w w':=by
 obtain⟨a,c,rfl,h1,h2⟩:=h;exact⟨a,c,rfl,fun X hX=>Sls.of_own (own_agree h1 (Nat.le_refl _) hX) (setW_csl l hwf) rfl,h2⟩
theorem GrowP.later {P:Nat→Prop} {W X Y:World} {j:Nat} (h:GrowP P X Y j) (hz:W.heap.size≤X.heap.size):GrowP P W Y j:=by
 rcases h with h|⟨a,b⟩
 ·exact .inl h
 ·exact .inr ⟨by omega,b⟩
theorem LnAt.widen {P Q:Nat→Prop} {W:World} {g:Nat} {sv av:Value} {lp:Bool} {s:Ln} (h:LnAt P W g sv av lp s) (hq:∀j,P j→Q j) (hl:∀j,Q j→j<W.heap.size):LnAt Q W g sv av lp s:=by
 obtain⟨tv,pv,cs,h⟩:=h;exact⟨tv,pv,cs,h.mono hq hl⟩
def Tx.kind (x:Tx):Int:=if x.ph=0 then 0 else if x.ph=1 then 1 else if x.ph=5 then 3 else 2
def Tx.when (x:Tx):Int:=if x.ph=1 then x.now else if x.ph=0∨x.ph=5 then 0 else x.til
def Tx.bytes (x:Tx):List UInt8:=if x.ph=1 then aduF (UInt8.ofNat x.un.toNat) x.q.pdu else []
def ActPost (w:World) (K T:Int) (F:List UInt8) (r:Ending) (w':World):Prop:=
 ∃(a:Option Addr) (c:Nat),r=.returned (.agg #[.int .i64 K,.int .i64 T,.slice a F.length c])∧Bs w' (.slice a F.length c) F∧Below w.heap.size w w'
theorem ActPost.none {w w':World} {K T:Int} {r:Ending} (h:r=.returned (.agg #[.int .i64 K,.int .i64 T,.slice none 0 0])) (hb:Below w.heap.size w w'):ActPost w K T [] r w':=⟨Option.none,0,h,Bs.nil w',hb⟩
theorem Tx.actions (x:Tx) {k:Nat} (h:x.ok k):(x.ph=0∧x.kind=0∧x.when=0∧x.bytes=[])∨(x.ph=1∧x.kind=1∧x.when=x.now∧x.bytes=aduF (UInt8.ofNat x.un.toNat) x.q.pdu)∨(x.hears∧x.kind=2∧x.when=x.til∧x.bytes=[])∨(x.ph=5∧x.kind=3∧x.when=0∧x.bytes=[]):=by
 have h0:=h.ph0;have h1:=h.ph1;unfold Tx.kind Tx.when Tx.bytes Tx.hears;by_cases e0:x.ph=0
 ·left;simp [e0]
 ·by_cases e1:x.ph=1
  ·right;left;simp [e1]
  ·by_cases e5:x.ph=5
   ·right;right;right;simp [e5]
   ·right;right;left
    rw[if_neg e0,if_neg e1,if_neg e5,if_neg e1,if_neg (by omega),if_neg e1];exact⟨by omega,rfl,rfl,rfl⟩
theorem pk_action {g k:Nat} {P:Nat→Prop} {x:Tx} {s:Lk} {W:World} (h:PK g k P x s W):
  Calls Tryz.prog 61 #[.pointer (some ⟨g,0,none⟩)] W (ActPost W x.kind x.when x.bytes):=by
 have hph:=h.ph;rcases x.actions h.ok with⟨e,e1,e2,e3⟩|⟨e,e1,e2,e3⟩|⟨e,e1,e2,e3⟩|⟨e,e1,e2,e3⟩
 ·rw [e1,e2,e3]
  exact(action_none g s W h.at_ (by omega)).mono fun _ _ hr=>ActPost.none hr.1 hr.2
 ·rw [e1,e2,e3]
  have hlv:x.live:=by unfold Tx.live;omega
  have hl:=cD (UInt8.ofNat x.un.toNat) x.q.pdu;have hl2:=Rq.pdu_len x.q;refine(action_send g s _ W h.at_ (by omega) (h.fr hlv) (by omega)).mono ?_;rintro r w' ⟨a,c,rfl,hb,hbl⟩;exact⟨a,c,by rw[h.now],hb,hbl⟩
 ·rw [e1,e2,e3]
  obtain⟨n1,n2,n3⟩:=h.en e;refine(action_listen g s W h.at_ (by unfold Tx.hears at e;unfold Lk.hears;omega)).mono ?_;rintro r w' ⟨hr,hb⟩;exact ActPost.none (by rw[hr,n2]) hb
 ·rw [e1,e2,e3]
  exact(action_done g s W h.at_ (by omega)).mono fun _ _ hr=>ActPost.none hr.1 hr.2
theorem pk_now {g k:Nat} {P:Nat→Prop} {x:Tx} {s:Lk} {W:World} (h:PK g k P x s W):
  Calls Tryz.prog 64 #[.pointer (some ⟨g,0,none⟩)] W fun r w'=>r=.returned (.int .i64 x.now)∧W=w':=by
 rw[←h.now];exact now_any g s W h.at_
def Tx.shown (x:Tx):Oc:=if x.ph=5 then x.out else Oc.zero
def ShowPost (w:World) (o:Oc) (V:Bool) (r:Ending) (w':World):Prop:=∃(da:Option Addr) (dc:Nat) (oa:Option Addr) (oc:Nat),r=.returned (.tuple #[.agg #[.int .i64 o.verdict,.int .i64 o.reply.fn,.int .i64 o.reply.exc,.slice da o.reply.data.length dc,.int .i64 o.reply.code,.int .i64 o.reply.level,.bool o.reply.more,.int .i64 o.reply.next,.slice oa o.reply.objs.length oc],.bool V])∧(∀W,Agree w.heap.size w' W→RpIs W o.reply da dc oa oc)∧Below w.heap.size w w'
theorem pk_outcome {g k:Nat} {P:Nat→Prop} {x:Tx} {s:Lk} {W:World} (h:PK g k P x s W):
  Calls Tryz.prog 65 #[.pointer (some ⟨g,0,none⟩)] W (ShowPost W x.shown (decide (x.ph=5))):=by
 have hph:=h.ph;unfold Tx.shown;by_cases e:x.ph=5
 ·rw [if_pos e,decide_eq_true e]
  obtain⟨o1,o2⟩:=h.out e;rw[←o1];exact outcome_done g s W h.at_ (by omega) (o2 W (Nat.le_refl _) (fun _ _=>rfl))
 ·rw [if_neg e,decide_eq_false e]
  refine(outcome_not g s W h.at_ (by omega)).mono ?_;rintro r w' ⟨rfl,hb⟩;exact⟨none,0,none,0,rfl,fun V _=>RpIs.zero V,hb⟩
end Go.Proofs.YtoaoejaodhedaaaGreat
