import Derived.Test.YtoaoejaodhedaaaGreatT30
import Derived.Deep.LoopGhost
namespace Go.Proofs.YtoaoejaodhedaaaGreat
open Go.RowKit
open Value renaming slice→J,int→D
open Option renaming none→N,some→U
open IntKind renaming i64→H
open Obj renaming cells→I
open Ending renaming returned→A
set_option maxHeartbeats 12800000
set_option maxRecDepth 100000
variable {b' lp:Bool} {c:Cf} {l:List (Int×Int)} {s s':Lk} {g gj gj' gl gm j k k' n:Nat} {P P' PL Q Q':Nat→Prop} {av sv v:Value} {W W' W0 X Y w w':World}
theorem RF:Tryz.prog.cellsOf 35=21:=by kernel_rfl
theorem RG:Tryz.prog.cellsOf 28=1:=by kernel_rfl
theorem Ie:Tryz.prog.cellsOf 32=3:=by kernel_rfl
theorem Ro:Tryz.prog.cellsOf 29=1:=by kernel_rfl
theorem Rw:Tryz.prog.cellsOf 30=1:=by kernel_rfl
theorem ML:Tryz.prog.cellsOf 161=2:=by kernel_rfl
theorem Rm:Tryz.prog.cellsOf 33=1:=by kernel_rfl
theorem MJ:Tryz.prog.cellsOf 49=6:=by kernel_rfl
structure Aq where
 m:Int
 st:Int
 un:Int
 fn:Int
 a:Int
 b:Int
def Aq.C (x:Aq):Array Value:=#[D H x.m,D H x.st,D H x.un,D H x.fn,D H x.a,D H x.b]
def wfA (x:Aq):Prop:=bT x.m∧bT x.st∧bT x.un∧bT x.fn∧bT x.a∧bT x.b
def AqR (_:World) (cs:List Value) (x:Aq):Prop:=cs=x.C.toList∧wfA x
def Aqs (w:World) (v:Value) (l:List Aq):Prop:=gY 6 AqR w v l
theorem Aqs.row {l:List Aq} (h:Aqs w v l) {x:Aq} (d:l[k]?=U x):
  ∃b o c,v=J (U ⟨b,o,N⟩) l.length c∧wfA x∧∀W,Below w.heap.size w W→∀i u,x.C.toList[i]?=U u→W.cell? ((⟨b,o+k*6,N⟩:Addr).add i)=U u:=by
 obtain⟨a,c,rfl,q,t,y,e⟩:=h;obtain⟨b,o,rfl,p⟩:=e (by rintro rfl;simp at d);obtain⟨r,z,⟨rfl,hw⟩,m⟩:=p k x d;exact⟨b,o,c,rfl,hw,fun W f i u hi=>by rw[Addr.add_lit];exact cell_keep f (m i u hi)⟩
theorem xb5 {cs:List Value} (h:Rd Tryz.prog w 49 cs):∃x,AqR w cs x:=by
 obtain⟨b,a⟩:=h.struct Tryz.underlying49;rw[MJ] at b;obtain⟨c0,c1,c2,c3,c4,q,rfl⟩:=Mx b;have f0:=a _ (List.mem_cons_self ..);have f1:=a _ (List.mem_cons_of_mem _ (List.mem_cons_self ..));have f2:=a _ (List.mem_cons_of_mem _ (List.mem_cons_of_mem _ (List.mem_cons_self ..)));have f3:=a _ (List.mem_cons_of_mem _ (List.mem_cons_of_mem _ (List.mem_cons_of_mem _ (List.mem_cons_self ..))));have f4:=a _ (List.mem_cons_of_mem _ (List.mem_cons_of_mem _ (List.mem_cons_of_mem _ (List.mem_cons_of_mem _ (List.mem_cons_self ..)))));have f5:=a _ (List.mem_cons_of_mem _ (List.mem_cons_of_mem _ (List.mem_cons_of_mem _ (List.mem_cons_of_mem _ (List.mem_cons_of_mem _ (List.mem_cons_self ..))))));simp only[dB,List.drop_zero,List.drop_succ_cons,List.take_succ_cons,List.take_zero] at f0 f1 f2 f3 f4 f5;obtain⟨a0,rfl,m⟩:=bl f0;obtain⟨a1,rfl,w1⟩:=bl f1;obtain⟨d,rfl,o⟩:=bl f2;obtain⟨e,rfl,w3⟩:=bl f3;obtain⟨f,rfl,p⟩:=bl f4;obtain⟨i,rfl,w5⟩:=bl f5;exact⟨⟨a0,a1,d,e,f,i⟩,rfl,m,w1,o,w3,p,w5⟩
theorem xaQ (h:Rd Tryz.prog w 33 [v]):∃l,Aqs w v l:=
 gY.jz (R:=AqR) Tryz.underlying33 MJ (by decide) (fun _ h=>xb5 h) h
theorem xb7 {cs:List Value} (h:Rd Tryz.prog w 161 cs):∃x,NG w cs x:=by
 obtain⟨e,d⟩:=h.struct Tryz.underlying161;rw[ML] at e;obtain⟨c0,c1,rfl⟩:=Jv e;have f0:=d _ (List.mem_cons_self ..);have f1:=d _ (List.mem_cons_of_mem _ (List.mem_cons_self ..));simp only[dB,List.drop_zero,List.drop_succ_cons,List.take_succ_cons,List.take_zero] at f0 f1;obtain⟨a,rfl,f⟩:=bl f0;obtain⟨b,rfl,w1⟩:=bl f1;exact⟨(a,b),rfl,f,w1⟩
theorem xaT (h:Rd Tryz.prog w 30 [v]):∃l,dw w v l:=
 gY.jz (R:=NG) Tryz.underlying30 ML (by decide) (fun _ h=>xb7 h) h
theorem xaR (h:Rd Tryz.prog w 29 [v]):∃l,ke w v l:=
 gY.jz (R:=AtR) Tryz.underlying29 vW (by decide) (fun cs h=>by
  obtain⟨a,e,hw⟩:=T5 (cs:=cs.toArray) (by simpa using h)
  exact⟨a,by rw[←e],hw⟩) h
theorem xbG {cs:List Value} (h:Rd Tryz.prog w 32 cs):∃(s:lg) (av d:Value),cs=[av,.bool s.loop,d]∧ke w av s.aC∧dw w d s.cr:=by
 obtain⟨e,a⟩:=h.struct Tryz.underlying32;rw[Ie] at e;obtain⟨c0,c1,c2,rfl⟩:=Vy e;have f0:=a _ (List.mem_cons_self ..);have f1:=a _ (List.mem_cons_of_mem _ (List.mem_cons_self ..));have f2:=a _ (List.mem_cons_of_mem _ (List.mem_cons_of_mem _ (List.mem_cons_self ..)));simp only[Ro,mJ,Rw,List.drop_zero,List.drop_succ_cons,List.take_succ_cons,List.take_zero] at f0 f1 f2;obtain⟨l,f⟩:=xaR f0;obtain⟨b,rfl⟩:=ue f1;obtain⟨m,i⟩:=xaT f2;exact⟨⟨l,b,m⟩,c0,c2,rfl,f,i⟩
def wS (c:Cf) (sv lv av:Value) (lp:Bool) (cv kv:Value):Array Value:=#[sv,D H c.fi,D H c.la,D H c.re,D H c.ti,D H c.de,D H (c.aq 0).1,D H (c.aq 0).2,D H (c.aq 1).1,D H (c.aq 1).2,D H (c.aq 2).1,D H (c.aq 2).2,D H (c.aq 3).1,D H (c.aq 3).2,D H c.ev,D H c.st,lv,av,.bool lp,cv,kv]
theorem xc6 {α:Type} {l:List α} (h:l.length=5):∃a b c d e,l=[a,b,c,d,e]:=by
 match l,h with
 |[a,b,c,d,e],_=>exact⟨a,b,c,d,e,rfl⟩
theorem TW {cs:Array Value} (h:Rd Tryz.prog w 35 cs.toList):
  ∃(c:Cf) (l:List Sl) (s:lg) (k:List Aq) (sv lv av m r:Value),cs=wS c sv lv av s.loop m r∧dw w sv c.bj∧dm w lv l∧ke w av s.aC∧dw w m s.cr∧Aqs w r k:=by
 obtain⟨q,i⟩:=h.struct Tryz.underlying35;rw[RF] at q;obtain⟨f⟩:=cs;have f0:=i _ (List.mem_cons_self ..);have f1:=i _ (List.mem_cons_of_mem _ (List.mem_cons_self ..));have f2:=i _ (List.mem_cons_of_mem _ (List.mem_cons_of_mem _ (List.mem_cons_self ..)));have f3:=i _ (List.mem_cons_of_mem _ (List.mem_cons_of_mem _ (List.mem_cons_of_mem _ (List.mem_cons_self ..))));simp only[BO,RG,Ie,Rm] at f0 f1 f2 f3;obtain⟨c,sv,o,C,-⟩:=V9 (cs:=(List.take 16 (List.drop 0 f)).toArray) (by simpa using f0);have o:List.take 16 f=(yh c sv).toList:=by rw[←o];simp
 obtain⟨d0,d1,d2,d3,d4,he⟩:∃a b c d e,List.drop 16 f=[a,b,c,d,e]:=by
  have D:(List.drop 16 f).length=5:=by
   have p:f.length=21:=q;rw[List.length_drop,p]
  exact xc6 D
 have E:f=(yh c sv).toList++[d0,d1,d2,d3,d4]:=by rw[←o,←he,List.take_append_drop]
 subst E;have t:Rd Tryz.prog w 28 [d0]:=f1;have u:Rd Tryz.prog w 32 [d1,d2,d3]:=f2;have x:Rd Tryz.prog w 33 [d4]:=f3;obtain⟨l,B⟩:=JP t;obtain⟨s,av,m,e,y,z⟩:=xbG u;simp only[List.cons.injEq,and_true] at e;obtain⟨rfl,rfl,rfl⟩:=e;obtain⟨k,A⟩:=xaQ x;exact⟨c,l,s,k,sv,d0,d1,d3,d4,rfl,C,B,y,z,A⟩
def MC (c:Cf) (sv:Value) (gl:Nat) (lk:Value) (st now:Int):Array Value:=#[sv,D H c.fi,D H c.la,D H c.re,D H c.ti,D H c.de,D H (c.aq 0).1,D H (c.aq 0).2,D H (c.aq 1).1,D H (c.aq 1).2,D H (c.aq 2).1,D H (c.aq 2).2,D H (c.aq 3).1,D H (c.aq 3).2,D H c.ev,D H c.st,.pointer (U ⟨gl,0,N⟩),lk,D H st,D H now]
structure Fx where
 la:Option Addr
 ln:Nat
 lc:Nat
 aa:Option Addr
 an:Nat
 ac:Nat
 lp:Bool
 l:List Sl
 aC:List At
structure Ms where
 n:Ln
 b:Bool
 x:Tx
 set:Int
 now:Int
def YE (b:Bool) (gj:Nat):Value:=.pointer (if b=true then some ⟨gj,0,N⟩ else none)
structure nV (gm gl gj k:Nat) (P PL Q:Nat→Prop) (c:Cf) (sv:Value) (f:Fx) (y:Ms) (s:Lk) (W:World):Prop where
 at_:W.heap[gm]?=U (I (MC c sv gl (YE y.b gj) y.set y.now) 129)
 ln:cU PL W gl (.slice f.la f.ln f.lc) (.slice f.aa f.an f.ac) f.lp y.n
 G:IA P W f.la f.ln f.lc f.aa f.an f.ac f.l f.aC f.lp
 Vk:y.n.ok
 pk:y.b=true→PK gj k Q y.x s W
 Qa:∀j,Q j→j<W.heap.size
 Ov:∀j,PL j→¬Q j
 Hn:¬PL gm
 OD:¬Q gm
 pl:∀j,PL j→P j
 pq:∀j,Q j→P j
 pm:P gm
 AR:∀j,P j→j<W.heap.size
 Ex:∀X,Keeps P W X→dw X sv c.bj
 sY:oA c=0
theorem cU.Vj {s:Ln} (h:cU P W g sv av lp s):∀j,P j→j<W.heap.size:=by
 obtain⟨b,a,cs,h⟩:=h;exact h.pl
theorem cU.xdA {s:Ln} (h:cU P W g sv av lp s):P g:=by
 obtain⟨b,a,cs,h⟩:=h;exact h.pg
theorem ax.step (h:ax (ax P W0 W) W W' j) (d:W0.heap.size≤W.heap.size) (e:W.heap.size≤W'.heap.size):ax P W0 W' j:=by
 rcases h with(h|⟨a,b⟩)|⟨a,b⟩
 ·exact .inl h
 ·exact .inr ⟨a,by omega⟩
 ·exact .inr ⟨by omega,b⟩
theorem nV.ah {gm gl gj k:Nat} {P PL Q F:Nat→Prop} {c:Cf} {sv:Value} {f:Fx} {y:Ms} {s:Lk} {W X:World} (h:nV gm gl gj k P PL Q c sv f y s W) (b:Keeps F W X) (e:∀j,P j→¬F j) (hs:∀Y,Keeps P X Y→dw Y sv c.bj∧dm Y (.slice f.la f.ln f.lc) f.l∧ke Y (.slice f.aa f.an f.ac) f.aC):nV gm gl gj k P PL Q c sv f y s X:=
 {at_:=hpKeeps h.at_ b (e gm h.pm)
  ln:=h.ln.ah b (fun j a=>e j (h.pl j a))
  G:=⟨fun Y d=>(hs Y d).2,h.G.Re,h.G.Ph,h.G.Bq,h.G.ok,h.G.Ru⟩
  Vk:=h.Vk
  pk:=fun i=>(h.pk i).keeps b (fun j a=>e j (h.pq j a))
  Qa:=fun j a=>Nat.lt_of_lt_of_le (h.Qa j a) b.size
  Ov:=h.Ov,Hn:=h.Hn,OD:=h.OD,pl:=h.pl,pq:=h.pq,pm:=h.pm
  AR:=fun j a=>Nat.lt_of_lt_of_le (h.AR j a) b.size
  Ex:=fun Y d=>(hs Y d).1
  sY:=h.sY}
theorem nV.bW {f:Fx} {y:Ms} (h:nV gm gl gj k P PL Q c sv f y s W) (a:Below W.heap.size W X):nV gm gl gj k P PL Q c sv f y s X:=
 h.ah (F:=fun _=>False) (Keeps.af a) (fun _ _ e=>e) (fun Y b=>⟨h.Ex Y ((Keeps.af a).trans b (fun _ _ e=>e)),h.G.rd Y ((Keeps.af a).trans b (fun _ _ e=>e))⟩)
theorem nV.Az {f:Fx} {y:Ms} (h:nV gm gl gj k P' PL Q c sv f y s W) (d:∀j,P' j→P j) (e:∀j,P j→j<W.heap.size)
  (hs:∀Y,Keeps P W Y→dw Y sv c.bj∧dm Y (.slice f.la f.ln f.lc) f.l∧ke Y (.slice f.aa f.an f.ac) f.aC):nV gm gl gj k P PL Q c sv f y s W:=
 {h with
  G:=⟨fun Y a=>(hs Y a).2,h.G.Re,h.G.Ph,h.G.Bq,h.G.ok,h.G.Ru⟩
  pl:=fun j b=>d j (h.pl j b)
  pq:=fun j b=>d j (h.pq j b)
  pm:=d gm h.pm
  AR:=e
  Ex:=fun Y a=>(hs Y a).1}
theorem nV.line {f:Fx} {y:Ms} {m:Ln} (h:nV gm gl gj k P PL Q c sv f y s W) (r:cU (ax PL W W') W' gl (.slice f.la f.ln f.lc) (.slice f.aa f.an f.ac) f.lp m) (i:Keeps PL W W') (t:m.ok):
    nV gm gl gj k (ax P W W') (ax PL W W') Q c sv f {y with n:=m} s W'∧Keeps P W W':=by
  have p:=i.size;have d:Keeps P W W':=i.mono (fun j _ e=>h.pl j e);have o:∀Y,Keeps (ax P W W') W' Y→Keeps P W Y:=fun Y b=>d.trans b (fun j a e=>by
    rcases e with e|e
    · exact e
    · omega)
  exact⟨{
           at_:=hpKeeps h.at_ i h.Hn
           ln:=r
           G:=⟨fun Y b=>h.G.rd Y (o Y b),h.G.Re,h.G.Ph,h.G.Bq,h.G.ok,h.G.Ru⟩
           Vk:=t
           pk:=fun q=>(h.pk q).keeps i (fun j a e=>h.Ov j e a)
           Qa:=fun j a=>Nat.lt_of_lt_of_le (h.Qa j a) p
           Ov:=fun j a e=>by
             rcases a with a|a
             · exact h.Ov j a e
             · have:=h.Qa j e
               omega
           Hn:=fun e=>by
             rcases e with e|e
             · exact h.Hn e
             · have:=h.AR gm h.pm
               omega
           OD:=h.OD
           pl:=fun j a=>by
             rcases a with a|a
             · exact .inl (h.pl j a)
             · exact .inr a
           pq:=fun j a=>.inl (h.pq j a)
           pm:=.inl h.pm
           AR:=fun j a=>by
             rcases a with a|a
             · exact Nat.lt_of_lt_of_le (h.AR j a) p
             · exact a.2
           Ex:=fun Y b=>h.Ex Y (o Y b)
           sY:=h.sY},d⟩
theorem nV.link {f:Fx} {y:Ms} {x':Tx} (h:nV gm gl gj k P PL Q c sv f y s W) (o:PK gj k' (iK Q W W') x' s' W') (i:Keeps Q W W'):
    nV gm gl gj k' (ax P W W') PL (iK Q W W') c sv f {y with x:=x'} s' W'∧Keeps P W W':=by
  have p:=i.size;have d:Keeps P W W':=i.mono (fun j _ e=>h.pq j e);have m:∀Y,Keeps (ax P W W') W' Y→Keeps P W Y:=fun Y b=>d.trans b (fun j a e=>by
    rcases e with e|e
    · exact e
    · omega)
  exact⟨{
           at_:=hpKeeps h.at_ i h.OD
           ln:=h.ln.ah i (fun j a e=>h.Ov j a e)
           G:=⟨fun Y b=>h.G.rd Y (m Y b),h.G.Re,h.G.Ph,h.G.Bq,h.G.ok,h.G.Ru⟩
           Vk:=h.Vk
           pk:=fun _=>o
           Qa:=o.yT
           Ov:=fun j a e=>by
             rcases e with e|e
             · exact h.Ov j a e
             · have:=h.AR j (h.pl j a)
               omega
           Hn:=h.Hn
           OD:=fun e=>by
             rcases e with e|e
             · exact h.OD e
             · have:=h.AR gm h.pm
               omega
           pl:=fun j a=>.inl (h.pl j a)
           pq:=fun j a=>by
             rcases a with a|a
             · exact .inl (h.pq j a)
             · exact .inr a
           pm:=.inl h.pm
           AR:=fun j a=>by
             rcases a with a|a
             · exact Nat.lt_of_lt_of_le (h.AR j a) p
             · exact a.2
           Ex:=fun Y b=>h.Ex Y (m Y b)
           sY:=h.sY},d⟩
theorem nV.own {f:Fx} {y:Ms} {x':Tx} {st' now':Int} (h:nV gm gl gj k P PL Q c sv f y s W) (m:Keeps (· =gm) W W') (r:W'.heap[gm]?=U (I (MC c sv gl (YE b' gj') st' now') 129))
    (u:b'=true→PK gj' k' Q' x' s' W) (i:∀j,Q' j→j<W.heap.size∧¬PL j∧j≠gm∧P j):
    nV gm gl gj' k' P PL Q' c sv f ⟨y.n,b',x',st',now'⟩ s' W'∧Keeps P W W':=by
  have q:=m.size;have d:Keeps P W W':=m.mono (fun j _ e=>by have o:j=gm:=e;rw[o];exact h.pm);have p:∀Y,Keeps P W' Y→Keeps P W Y:=fun Y b=>d.trans b (fun j a e=>e)
  exact⟨{
           at_:=r
           ln:=h.ln.ah m (fun j a e=>h.Hn (by have o:j=gm:=e;rw[←o];exact a))
           G:=⟨fun Y b=>h.G.rd Y (p Y b),h.G.Re,h.G.Ph,h.G.Bq,h.G.ok,h.G.Ru⟩
           Vk:=h.Vk
           pk:=fun t=>(u t).keeps m (fun j a=>(i j a).2.2.1)
           Qa:=fun j a=>Nat.lt_of_lt_of_le (i j a).1 q
           Ov:=fun j a e=>(i j e).2.1 a
           Hn:=h.Hn
           OD:=fun e=>(i gm e).2.2.1 rfl
           pl:=h.pl
           pq:=fun j a=>(i j a).2.2.2
           pm:=h.pm
           AR:=fun j a=>Nat.lt_of_lt_of_le (h.AR j a) q
           Ex:=fun Y b=>h.Ex Y (p Y b)
           sY:=h.sY},d⟩
theorem YA:(Tryz.prog.info? 61).map (fun i=>(i.zero,i.size,i.bytes))=U (U (.agg #[D H 0,D H 0]),2,16):=by kernel_rfl
def fQ (w:World) (l:List (Int×Int)) (r:Ending) (w':World):Prop:=∃a c,r=A (J a l.length c)∧w'.ownsRow w.heap.size 61 2 (J a l.length c) l.length (cO l)∧Below w.heap.size w w'
theorem fQ.own {cs:List Value} (b:cs=cO l) (e:n=l.length) (h:w'.ownsRow w.heap.size 61 2 v n cs) (d:Below w.heap.size w w'):fQ w l (A v) w':=by
 subst b e;obtain⟨a,c,rfl⟩:=own_slice h;exact⟨a,c,rfl,h,d⟩
theorem Ig (v:Value) (l:List (Int×Int)) (w:World) (e:dw w v l) (L:l.length≤1000000):Calls Tryz.prog 71 #[v] w (fQ w l):=by
 obtain⟨i5,hi,f,i,m⟩:=info_parts YA;obtain⟨a,c,rfl,K,E,B,q⟩:=id e;unfold maxLen at E;have M:=Lib.run_eql_slice_nil (P:=Tryz.prog);cases a with
 |none=>
  obtain rfl:=B rfl;have J:l.length=0:=by omega
  have:l=[]:=List.eq_nil_of_length_eq_zero J;subst this;clear e q;go_enter Tryz.func71,Tryz.ntmps71;go_wp2;go_ret;exact fQ.own (cs:=[]) (n:=0) rfl rfl (World.ownsRow_nil _ _ _ _) (Below.refl _ _)
 |some a=>
  by_cases x:l=[]
  ·subst x
   clear e q;go_enter Tryz.func71,Tryz.ntmps71;go_wp2_with (at_builtin;refine aL rfl _ _ 22 rfl w.heap.size 61 i5 _ 2 16 Tryz.underlying22 hi f i m rfl (by decide) _ 0 [] rfl (World.ownsRow_made _ _ _ (Nat.le_refl _) (by decide) rfl) a 0 c [] rfl rfl (by simp) (by simp) (by unfold maxLen;omega) (by omega) (by simp) ?c3)
   case c3=>
    intro z w1 d p _;have r:=(bal' w (I #[] 61)).grown p (bal' w (I #[] 61)).size (by intro k t;simp [Value.ownBlock] at t;omega);have y:=hid d;clear p d;go_wp2;go_ret;exact fQ.own (cs:=[]) (n:=0) rfl rfl (by simpa using y.out) r
  ·obtain ⟨b,o,G,-⟩:=q x
   cases G;have C:Hid (∀j u,(cO l)[j]?=U u→(w.alloc (I #[] 61)).cell? ((⟨b,o,N⟩:Addr).add j)=U u):=fun j u F=>by
    have D:(⟨b,o,N⟩:Addr).add j=⟨b,o+j,N⟩:=by unfold Addr.add;split<;>simp_all
    rw[D];exact cell_keep (bal' w _) (e.Lb j u F)
   have A:Hid ((cO l).length=l.length*2):=eD l;have H1:Hid (∀u∈cO l,u.oneCell'=true):=pP l;clear e q x;go_enter Tryz.func71,Tryz.ntmps71;go_wp2_with (at_builtin;refine aL rfl _ _ 22 rfl w.heap.size 61 i5 _ 2 16 Tryz.underlying22 hi f i m rfl (by decide) _ 0 [] rfl (World.ownsRow_made _ _ _ (Nat.le_refl _) (by decide) rfl) ⟨b,o,N⟩ l.length c (cO l) rfl A.out C.out H1.out (by unfold maxLen;omega) (by omega) (by simp) ?c3)
   case c3=>
    intro z w1 d p _;have r:=(bal' w (I #[] 61)).grown p (bal' w (I #[] 61)).size (by intro k t;simp [Value.ownBlock] at t;omega);have y:=hid (show w1.ownsRow w.heap.size 61 2 z l.length (cO l) by simpa using d);clear p d;go_wp2;go_ret;exact fQ.own rfl rfl y.out r
theorem fQ.Ex {r:Ending} (h:fQ w l r w') (b:∀x∈l,bT x.1∧bT x.2):∃a c,r=A (J a l.length c)∧(∀X,ay w.heap.size w' X→dw X (J a l.length c) l)∧Below w.heap.size w w':=by
 obtain⟨a,c,rfl,d,e⟩:=h;exact⟨a,c,rfl,fun X f=>gY.iq (di d (Nat.le_refl _) f) (mq l b) rfl,e⟩
theorem ax.Gs (h:ax P X Y j) (d:W.heap.size≤X.heap.size):ax P W Y j:=by
 rcases h with h|⟨a,b⟩
 ·exact .inl h
 ·exact .inr ⟨by omega,b⟩
theorem cU.Ui {s:Ln} (h:cU P W g sv av lp s) (b:∀j,P j→Q j) (a:∀j,Q j→j<W.heap.size):cU Q W g sv av lp s:=by
 obtain⟨e,d,cs,h⟩:=h;exact⟨e,d,cs,h.mono b a⟩
def Tx.kind (x:Tx):Int:=if x.ph=0 then 0 else if x.ph=1 then 1 else if x.ph=5 then 3 else 2
def Tx.when (x:Tx):Int:=if x.ph=1 then x.now else if x.ph=0∨x.ph=5 then 0 else x.til
def Tx.bytes (x:Tx):List UInt8:=if x.ph=1 then fj (UInt8.ofNat x.un.toNat) x.q.bE else []
def rm (w:World) (K T:Int) (F:List UInt8) (r:Ending) (w':World):Prop:=
 ∃(a:Option Addr) (c:Nat),r=A (.agg #[D H K,D H T,J a F.length c])∧Bs w' (J a F.length c) F∧Below w.heap.size w w'
theorem rm.none {w w':World} {K T:Int} {r:Ending} (h:r=A (.agg #[D H K,D H T,J none 0 0])) (a:Below w.heap.size w w'):rm w K T [] r w':=⟨Option.none,0,h,Bs.nil w',a⟩
theorem Tx.Wv (x:Tx) (h:x.ok k):(x.ph=0∧x.kind=0∧x.when=0∧x.bytes=[])∨(x.ph=1∧x.kind=1∧x.when=x.now∧x.bytes=fj (UInt8.ofNat x.un.toNat) x.q.bE)∨(x.aP∧x.kind=2∧x.when=x.til∧x.bytes=[])∨(x.ph=5∧x.kind=3∧x.when=0∧x.bytes=[]):=by
 have e:=h.IJ;have f:=h.zl;unfold Tx.kind Tx.when Tx.bytes Tx.aP;by_cases b:x.ph=0
 ·left;simp [b]
 ·by_cases a:x.ph=1
  ·right;left;simp [a]
  ·by_cases d:x.ph=5
   ·right;right;right;simp [d]
   ·right;right;left
    rw[if_neg b,if_neg a,if_neg d,if_neg a,if_neg (by omega),if_neg a];exact⟨by omega,rfl,rfl,rfl⟩
theorem Pf {x:Tx} (h:PK g k P x s W):
  Calls Tryz.prog 61 #[.pointer (U ⟨g,0,N⟩)] W (rm W x.kind x.when x.bytes):=by
 have y:=h.ph;rcases x.Wv h.ok with⟨e,b,d,f⟩|⟨e,b,d,f⟩|⟨e,b,d,f⟩|⟨e,b,d,f⟩
 ·rw [b,d,f]
  exact(xH g s W h.at_ (by omega)).mono fun _ _ i=>rm.none i.1 i.2
 ·rw [b,d,f]
  have q:x.live:=by unfold Tx.live;omega
  have t:=bp (UInt8.ofNat x.un.toNat) x.q.bE;have u:=Rq.lF x.q;refine(xB g s _ W h.at_ (by omega) (h.fr q) (by omega)).mono ?_;rintro r w' ⟨a,c,rfl,m,o⟩;exact⟨a,c,by rw[h.now],m,o⟩
 ·rw [b,d,f]
  obtain⟨n1,p,z⟩:=h.en e;refine(ko g s W h.at_ (by unfold Tx.aP at e;unfold Lk.aP;omega)).mono ?_;rintro r w' ⟨i,m⟩;exact rm.none (by rw[i,p]) m
 ·rw [b,d,f]
  exact(v9 g s W h.at_ (by omega)).mono fun _ _ i=>rm.none i.1 i.2
theorem xbE {x:Tx} (h:PK g k P x s W):
  Calls Tryz.prog 64 #[.pointer (U ⟨g,0,N⟩)] W fun r w'=>r=A (D H x.now)∧W=w':=by
 rw[←h.now];exact Lm g s W h.at_
def Tx.shown (x:Tx):Oc:=if x.ph=5 then x.out else Oc.zero
def Q4 (w:World) (o:Oc) (V:Bool) (r:Ending) (w':World):Prop:=∃(da:Option Addr) (dc:Nat) (oa:Option Addr) (oc:Nat),r=A (.tuple #[.agg #[D H o.verdict,D H o.ae.fn,D H o.ae.ar,J da o.ae.data.length dc,D H o.ae.code,D H o.ae.level,.bool o.ae.more,D H o.ae.next,J oa o.ae.ag.length oc],.bool V])∧(∀W,ay w.heap.size w' W→dG W o.ae da dc oa oc)∧Below w.heap.size w w'
theorem Ly {x:Tx} (h:PK g k P x s W):
  Calls Tryz.prog 65 #[.pointer (U ⟨g,0,N⟩)] W (Q4 W x.shown (decide (x.ph=5))):=by
 have d:=h.ph;unfold Tx.shown;by_cases e:x.ph=5
 ·rw [if_pos e,decide_eq_true e]
  obtain⟨b,o2⟩:=h.out e;rw[←b];exact tW g s W h.at_ (by omega) (o2 W (Nat.le_refl _) (fun _ _=>rfl))
 ·rw [if_neg e,decide_eq_false e]
  refine(wP g s W h.at_ (by omega)).mono ?_;rintro r w' ⟨rfl,a⟩;exact⟨none,0,none,0,rfl,fun V _=>dG.zero V,a⟩
def H6 (K:Int) (w:World) (r:Ending) (w':World):Prop:=r=A (D H K)∧Below w.heap.size w w'
theorem nV.c17 {f:Fx} {y:Ms} (h:nV gm gl gj k P PL Q c sv f y s w) (a:y.b=true):w.cell? ⟨gm,17,N⟩=U (.pointer (U ⟨gj,0,N⟩)):=(hpCell h.at_ 17).trans (by
 show some (YE y.b gj)=_
 rw[a]
 rfl)
theorem nV.xdD {f:Fx} {y:Ms} (h:nV gm gl gj k P PL Q c sv f y s w) (a:y.b=false):w.cell? ⟨gm,17,N⟩=U (.pointer none):=(hpCell h.at_ 17).trans (by
 show some (YE y.b gj)=_
 rw[a]
 rfl)
theorem qp {f:Fx} {y:Ms} (h:nV gm gl gj k P PL Q c sv f y s w) (d:y.b=true):Calls Tryz.prog 60 #[.pointer (U ⟨gm,0,N⟩)] w (H6 y.x.kind w):=by
 have c17:=h.c17 d;have i:Hid (Calls Tryz.prog 61 #[.pointer (U ⟨gj,0,N⟩)] w (rm w y.x.kind y.x.when y.x.bytes)):=Pf (h.pk d);obtain⟨K,b⟩:=gE y.x.kind;obtain⟨T,m⟩:=gE y.x.when;obtain⟨F,hF⟩:=gE y.x.bytes;rw[b,m,hF] at i;rw[b];clear h d b m hF;go_enter Tryz.func60,Tryz.ntmps60;go_wp2_with (go_at_call 61;(with_reducible refine i.out.mono ?_);rintro r w1 ⟨a,c,rfl,q,e⟩;clear q;obtain⟨n,o⟩:=gE F.length;rw[o];have p:∀W,(Instr.field 136 (.agg #[D H K,D H T,J a n c]) 0).run Tryz.prog W=.ok (D H K) W:=(fun W=>by first|rfl|kernel_rfl);clear o);go_ret;exact⟨rfl,e⟩
theorem Ff {f:Fx} {y:Ms} (h:nV gm gl gj k P PL Q c sv f y s w) (V:Bool) (e:Hid ((y.b&&(y.x.kind !=3))=V)):Calls Tryz.prog 57 #[.pointer (U ⟨gm,0,N⟩)] w fun r w'=>r=A (.bool V)∧Below w.heap.size w w':=by
 cases hb:y.b with
 |false=>
  have c17:=h.xdD hb;have b:Hid (false=V):=by have:=e.out;rw[hb] at this;exact this
  clear h hb e;go_enter Tryz.func57,Tryz.ntmps57;go_wp2;go_ret;exact⟨by rw[←b.out];rfl,Below.refl _ _⟩
 |true=>
  have c17:=h.c17 hb;have i:=hid (qp h hb);obtain⟨K,p⟩:=gE y.x.kind;have b:Hid ((K !=3)=V):=by have:=e.out;rw[hb,p] at this;exact this
  rw[p] at i;clear h hb e p;by_cases d:K=3
  ·have o:(K !=3)=false:=by rw[d];rfl
   have m:Hid (false=V):=by rw[←o];exact b.out
   clear b d;go_enter Tryz.func57,Tryz.ntmps57;go_wp2_with (go_at_call 60;(with_reducible refine i.out.mono ?_);rintro r w1 ⟨rfl,a⟩);go_ret;exact⟨by rw[←m.out];rfl,a⟩
  ·have o:(K !=3)=true:=by rw[bne_iff_ne];exact d
   have m:Hid (true=V):=by rw[←o];exact b.out
   clear b d;go_enter Tryz.func57,Tryz.ntmps57;go_wp2_with (go_at_call 60;(with_reducible refine i.out.mono ?_);rintro r w1 ⟨rfl,a⟩);go_ret;exact⟨by rw[←m.out];rfl,a⟩
theorem nV.base {a:Nat→Prop} {f:Fx} {y p:Ms} (d:nV gm gl gj k P PL Q c sv f y s W0) (h:nV gm gl gj' k' P' a Q' c sv f p s' W) (o:Keeps P W0 W) (q:∀j,P' j→ax P W0 W j):nV gm gl gj' k' (ax P W0 W) a Q' c sv f p s' W:=by
 have i:∀Y,Keeps (ax P W0 W) W Y→Keeps P W0 Y:=fun Y b=>o.trans b (fun j m e=>by
  rcases e with e|e
  ·exact e
  ·omega)
 exact h.Az q (fun j m=>m.lt d.AR o.size) (fun Y b=>⟨d.Ex Y (i Y b),d.G.rd Y (i Y b)⟩)
def NxP (PL:Nat→Prop) (gl:Nat) (sv av:Value) (lp:Bool) (n':Ln) (V:Bool) (e:Ev) (w:World) (r:Ending) (w':World):Prop:=r=A (.tuple #[.agg #[D H e.t,D .u8 (e.v.toNat:Int),D H e.fl],.bool V])∧cU (ax PL w w') w' gl sv av lp n'∧Keeps PL w w'
theorem cU.grow {s:Ln} (h:cU P W g sv av lp s) (a:Below W.heap.size W W'):cU (ax P W W') W' g sv av lp s:=by
 obtain⟨e,d,cs,h⟩:=h;exact⟨e,d,cs,(h.bW a).mono (fun j=>.inl) (fun j b=>b.lt h.pl a.size)⟩
theorem xbC {n:Ln} (h:cU PL w gl sv av lp n) (i:n.ok) (a:Int):
  ∃m V e,(∀x:Tx,x.til=a→(Du.mk n x).step=if V=true then ⟨m,x.ll e⟩ else ⟨m,x.bR⟩)∧m.ok∧∀X,Below w.heap.size w X→Calls Tryz.prog 59 #[.pointer (U ⟨gl,0,N⟩),D H a] X (NxP PL gl sv av lp m V e X):=by
 have b:∀X,Below w.heap.size w X→cU PL X gl sv av lp n:=fun X d=>h.ah (F:=fun _=>False) (Keeps.af d) (fun _ _ e=>e)
 have t:n.due a=false→∀X,Below w.heap.size w X→Calls Tryz.prog 59 #[.pointer (U ⟨gl,0,N⟩),D H a] X (NxP PL gl sv av lp n false ⟨0,0,0⟩ X):=fun f X d=>by
  refine(sg (b X d) a f).mono ?_;rintro r w' ⟨rfl,p⟩;exact⟨rfl,(b X d).grow p,Keeps.af p⟩
 cases hp:n.pend with
 |nil=>
  have f:n.due a=false:=by unfold Ln.due;rw[hp]
  exact⟨n,false,⟨0,0,0⟩,fun x _=>Du.ju hp,i,t f⟩
 |cons c r=>
  by_cases q:c.at_≤a
  ·refine ⟨n.next c r,true,n.I9 c,fun x A=>?_,i.next hp,fun X d=>?_⟩
   ·rw [Du.mi (y:=⟨n,x⟩) hp (by show c.at_≤x.til;omega)]
    rfl
   ·have o:=i.ch c (by rw[hp];exact List.mem_cons_self ..)
    refine(CR (b X d) i c r hp a q).mono ?_;rintro e w' ⟨rfl,u,z⟩;exact⟨by rw[Ln.LZ n o];rfl,u,z⟩
  ·have f:n.due a=false:=by unfold Ln.due;rw[hp];exact decide_eq_false q
   refine⟨n,false,⟨0,0,0⟩,fun x A=>?_,i,t f⟩;rw[Du.lL (y:=⟨n,x⟩) hp (by show ¬c.at_≤x.til;omega)];rfl
theorem YO {x:Tx} (h:PK g k P x s W) (a:x.aP):Calls Tryz.prog 61 #[.pointer (U ⟨g,0,N⟩)] W fun r w'=>r=A (.agg #[D H 2,D H x.til,J none 0 0])∧Below W.heap.size W w':=by
 obtain⟨-,e,-⟩:=h.en a;have f:=h.ph;refine(ko g s W h.at_ (by unfold Tx.aP at a;unfold Lk.aP;omega)).mono ?_;rintro r w' ⟨d,b⟩;exact⟨by rw[d,e],b⟩
theorem Tx.xap (x:Tx) (e:0≤x.ph) (f:x.ph≤5):(x.kind==2)=eE x:=by
 unfold Tx.kind eE;by_cases a:x.ph=0
 ·rw [if_pos a,decide_eq_false (by omega)]
  rfl
 ·by_cases b:x.ph=1
  ·rw [if_neg a,if_pos b,decide_eq_false (by omega)]
   rfl
  ·by_cases d:x.ph=5
   ·rw [if_neg a,if_neg b,if_pos d,decide_eq_false (by omega)]
    rfl
   ·rw [if_neg a,if_neg b,if_neg d,decide_eq_true (by omega)]
    rfl
def xbH (PL:Nat→Prop) (gl:Nat) (sv av:Value) (lp:Bool) (n':Ln) (V:Bool) (e:Ev) (w:World) (s4 s5:Value) (w':World):Prop:=∃eb,s4=.pointer (U ⟨eb,0,N⟩)∧s5=.bool V∧Hid (w'.heap[eb]?=U (I #[D H e.t,D .u8 (e.v.toNat:Int),D H e.fl] 132)∧w.heap.size≤eb∧cU (ax PL w w') w' gl sv av lp n'∧Keeps PL w w')
def MB (gm gl gj:Nat) (P:Nat→Prop) (c:Cf) (sv:Value) (f:Fx) (d:Du) (st:Int) (kk:Nat) (w:World) (r:Ending) (w':World):Prop:=
 ∃da dc oa oc k' PL' Q' s',r=A (.tuple #[.agg #[D H d.x.shown.verdict,D H d.x.shown.ae.fn,D H d.x.shown.ae.ar,J da d.x.shown.ae.data.length dc,D H d.x.shown.ae.code,D H d.x.shown.ae.level,.bool d.x.shown.ae.more,D H d.x.shown.ae.next,J oa d.x.shown.ae.ag.length oc],.bool (decide (d.x.ph=5))])∧(∀X,ay w.heap.size w' X→dG X d.x.shown.ae da dc oa oc)∧nV gm gl gj k' (ax P w w') PL' Q' c sv f ⟨d.n,true,d.x,st,d.x.now⟩ s' w'∧Keeps P w w'∧k'≤kk
theorem rY:(Tryz.prog.info? 55).map (·.size)=U 9:=by kernel_rfl
theorem zW {f:Fx} {y:Ms} (h:nV gm gl gj k P PL Q c sv f y s w) (hb:y.b=true) (hh:y.x.aP) (nr:k+(Du.mk y.n y.x).mu≤1000000000):Calls Tryz.prog 23 #[.pointer (U ⟨gm,0,N⟩)] w (MB gm gl gj P c sv f (Du.mk y.n y.x).heard y.set (k+(Du.mk y.n y.x).mu) w):=by
 obtain⟨W1,bo⟩:∃W,w.alloc (I #[D H 0,D H 0,D H 0,J none 0 0,D H 0,D H 0,.bool false,D H 0,J none 0 0] 55)=W:=⟨_,rfl⟩
 have bc:Below w.heap.size w W1:=by rw[←bo];exact bal' w _
 have cd:W1.heap.size=w.heap.size+1:=by rw[←bo];simp
 have pZ:W1.heap[w.heap.size]?=U (I #[D H 0,D H 0,D H 0,J none 0 0,D H 0,D H 0,.bool false,D H 0,J none 0 0] 55):=by rw[←bo];exact hpNew w _
 have h1:=h.bW bc;have ID:(y.x.kind !=2)=false:=by
  have e:=y.x.xap (h.pk hb).ok.IJ (h.pk hb).ok.zl;rw[(gP y.x).2 hh] at e;rw[bne,e];rfl
 have c17:=h1.c17 hb;have NY:=hid (qp h1 hb);obtain⟨KD,aX⟩:=gE y.x.kind;rw[aX] at NY ID;obtain⟨d,hd⟩:=gE ((Du.mk y.n y.x).heard);obtain⟨M,hM⟩:∃M,k+(Du.mk y.n y.x).mu=M:=⟨_,rfl⟩
 rw[hd,hM];rw[hM] at nr;have cy:=hid bo;have bQ:=hid bc;have b8:=hid cd;have cp:=hid pZ;have H0:=hid h;have H1:=hid h1;have HD:=hid hd;have Pt:=hid hM;have cz:=hid hb;have dq:=hid hh;clear h h1 bo bc cd pZ hd hM hb hh aX;go_enter Tryz.func23,Tryz.ntmps23;go_upto_region 1 with(fail)
 rw[cy.out];go_upto_region 3 with(go_at_call 60;(with_reducible refine NY.out.mono ?_);rintro r w2 ⟨rfl,aY⟩)
 have od:=hid aY;clear c17 NY ID aY;go_loopg [] M (fun cT wr=>∃(cur:Du) (k1:Nat) (E R:Nat→Prop) (s1:Lk),Hid (nV gm gl gj k1 (ax P W1 wr) E R c sv f ⟨cur.n,true,cur.x,y.set,y.now⟩ s1 wr∧Keeps P W1 wr∧wr.heap[w.heap.size]?=U (I #[D H 0,D H 0,D H 0,J none 0 0,D H 0,D H 0,.bool false,D H 0,J none 0 0] 55)∧cur.heard=d∧k1+cur.mu≤M∧cur.mu≤cT))
 case atStart=>
  have aY:=od.out;have Cx:Keeps P W1 w2:=Keeps.af aY;have c5:(⟨y.n,true,y.x,y.set,y.now⟩:Ms)=y:=by
   have e:=cz.out;cases y;dsimp only at e;rw[e]
  refine⟨⟨y.n,y.x⟩,k,PL,Q,s,?_,Cx,hpKeep cp.out aY,HD.out,by rw[Pt.out];exact Nat.le_refl _,by have:=Pt.out;show (Du.mk y.n y.x).mu≤M;omega⟩;dsimp only;rw[c5];exact H1.out.base (H1.out.bW aY) Cx (fun j b=>.inl b)
 case round=>
  obtain⟨cur,k1,E,R,s1,HR⟩:=hrel;obtain⟨cn,t⟩:=cur;have Ak:=hid HR.out.1;have c17:=Ak.out.c17 rfl;have NY:=hid (qp Ak.out rfl);have OF:=Tx.xap t (Ak.out.pk rfl).ok.IJ (Ak.out.pk rfl).ok.zl;obtain⟨KD,aX⟩:=gE t.kind;have NY:Hid (Calls Tryz.prog 60 #[.pointer (U ⟨gm,0,N⟩)] wr (H6 KD wr)):=by rw[←aX];exact NY.out
  rw[aX] at OF;clear aX;cases KN:eE t with
  |true=>
   have hx:t.aP:=(gP t).1 KN;rw[KN] at OF;go_upto_region 4 with(go_at_call 60;(with_reducible refine NY.out.mono ?_);rintro r m ⟨rfl,F8⟩)
   have z:=hid (Ak.out.bW F8);obtain⟨n',V,e,cc,cf,bC⟩:=xbC z.out.ln z.out.Vk t.til;obtain⟨TL,a9⟩:=gE t.til;rw[a9] at bC;have Zp:Hid (∀X,Below m.heap.size m X→Calls Tryz.prog 59 #[.pointer (U ⟨gl,0,N⟩),D H TL] X (NxP E gl (.slice f.la f.ln f.lc) (.slice f.aa f.an f.ac) f.lp n' V e X)):=bC;have rA:=hid (cc t rfl);have VL:Hid (∀X,Below m.heap.size m X→Calls Tryz.prog 61 #[.pointer (U ⟨gj,0,N⟩)] X fun r w'=>r=A (.agg #[D H 2,D H TL,J none 0 0])∧Below X.heap.size X w'):=fun X T=>by
    rw[←a9];exact YO ((z.out.pk rfl).keeps (Q:=fun _=>False) (Keeps.af T) (fun _ _ e=>e)) hx
   have cV:∀W,(Instr.field 136 (.agg #[D H 2,D H TL,J none 0 0]) 1).run Tryz.prog W=.ok (D H TL) W:=fun W=>by first|rfl|kernel_rfl
   have a2:=hid hx;have QA:=hid cf;have Zb:∀X,Keeps E m X→X.cell? ⟨gm,16,N⟩=U (.pointer (U ⟨gl,0,N⟩)):=fun X T=>(hpCell (hpKeeps z.out.at_ T z.out.Hn) 16).trans rfl
   have dk:∀X,Keeps E m X→X.cell? ⟨gm,17,N⟩=U (.pointer (U ⟨gj,0,N⟩)):=fun X T=>(hpCell (hpKeeps z.out.at_ T z.out.Hn) 17).trans rfl
   have kD:Below m.heap.size m m.drew:=(Below.refl _ _).drew;have kS:Keeps E m m.drew:=Keeps.af kD;clear c17 NY OF KN hx cc cf bC a9;go_cut [4,5] from 24 to 38 (fun s4 s5 wc=>xbH E gl (.slice f.la f.ln f.lc) (.slice f.aa f.an f.ac) f.lp n' V e m s4 s5 wc)
   case first=>
    refine wp_region_held_drew (S:=fun V=>Keeps E m V) (by kernel_rfl) kS (fun hH=>?_);clear hH;refine tG 0 25 ?_;refine tG 1 26 ?_;refine tG 2 27 ?_;refine tG 3 28 ?_;refine tG 4 29 ?_;refine tG 5 30 ?_;refine tG 6 31 ?_;refine tG 7 32 ?_;refine wpAnyH_ready (rs:=[8,14]) (by kernel_rfl) (by simp) ?_;refine AllReadyH.cons rfl (fun K x=>?_) (AllReadyH.cons rfl (fun K x=>?_) AllReadyH.nil)
    ·go_simp
     refine(VL.out _ kD).mono ?_;rintro r x1 ⟨rfl,K6⟩;have rC:=bt kD K6 (Nat.le_refl _);have a5:Keeps E m x1:=Keeps.af rC;refine x.out _ _ a5 (fun o=>?_);clear x K o;refine tG 9 34 ?_;refine wpAnyH_ready (rs:=[10,14]) (by kernel_rfl) (by simp) ?_;refine AllReadyH.cons rfl (fun K x=>?_) (AllReadyH.cons rfl (fun K x=>?_) AllReadyH.nil)
     ·go_simp
      refine(Zp.out _ rC).mono ?_;rintro r x2 ⟨rfl,mL,Z⟩;have YC:Keeps E m x2:=a5.trans Z (fun _ _ e=>e);refine x.out _ _ YC (fun o=>?_);clear x K o;refine tG 11 24 ?_;refine tG 12 36 ?_;refine tG 13 37 ?_;refine rdyH 14 rfl (fun K x=>?_);go_simp;have ak:Keeps E m (x2.alloc (I #[D H 0,D .u8 0,D H 0] 132)):=YC.trans (Keeps.af (bal' x2 _)) (fun _ _ e=>e);refine x.out _ _ ak (fun o=>?_);clear x K o;refine rdyH 15 rfl (fun K x=>?_);refine step_storeW rfl 132 (.tmp 4) (.tmp 36) rfl x2.heap.size 0 _ 132 #[D H e.t,D .u8 (e.v.toNat:Int),D H e.fl] rfl rfl (hpNew x2 (I #[D H 0,D .u8 0,D H 0] 132)) (by simp) infoEvW rfl ?_;intro x5 g5 ad a4;have nr:Below x2.heap.size x2 x5:=(bal' x2 (I #[D H 0,D .u8 0,D H 0] 132)).trans (ad.below (by simp) (fun i hi e=>by omega));have Nn:Keeps E m x5:=YC.trans (Keeps.af nr) (fun _ _ e=>e);have z2:=Z.size;have zz:=nr.size;have XU:Hid (cU (ax E m x5) x5 gl (.slice f.la f.ln f.lc) (.slice f.aa f.an f.ac) f.lp n'):=(mL.grow nr).Ui (fun j b=>(ax.trans b z2 zz).Gs rC.size) (fun j b=>b.lt z.out.ln.Vj Nn.size);refine x.out _ _ Nn (fun o=>?_);clear x K o
      (try dsimp only[Act.put]);refine V6 16 5 rfl rfl ?_;(try simp only[setS])
      refine wpAnyH_done (by kernel_rfl) ?_ _;go_wp2;go_meet
      case rel=>exact⟨x2.heap.size,rfl,rfl,g5,by have:=rC.size;omega,XU.out,Nn⟩
     ·go_simp
      have ab:Below m.heap.size m (x1.alloc (I #[D H 0,D .u8 0,D H 0] 132)):=bta rC (Nat.le_refl _) _;have YC:Keeps E m (x1.alloc (I #[D H 0,D .u8 0,D H 0] 132)):=Keeps.af ab;refine x.out _ _ YC (fun o=>?_);clear x K o;refine rdyH 10 rfl (fun K x=>?_);go_simp;refine(Zp.out _ ab).mono ?_;rintro r x2 ⟨rfl,mL,Z⟩;have ak:Keeps E m x2:=YC.trans Z (fun _ _ e=>e);have p2:x2.heap[x1.heap.size]?=U (I #[D H 0,D .u8 0,D H 0] 132):=hpKeeps (hpNew x1 _) Z (fun e=>by have:=z.out.ln.Vj _ e;have:=rC.size;omega);refine x.out _ _ ak (fun o=>?_);clear x K o;refine tG 11 24 ?_;refine tG 12 36 ?_;refine tG 13 37 ?_;refine rdyH 15 rfl (fun K x=>?_);refine step_storeW rfl 132 (.tmp 4) (.tmp 36) rfl x1.heap.size 0 _ 132 #[D H e.t,D .u8 (e.v.toNat:Int),D H e.fl] rfl rfl p2 (by simp) infoEvW rfl ?_;intro x5 g5 ad a4;have Nn:Keeps E m x5:=ak.trans (ad.mono (F:=(· =x1.heap.size)) (G:=fun j=>j=x1.heap.size) (fun _ _ e=>e)) (fun i hi e=>by have e':i=x1.heap.size:=e;have:=rC.size;omega);have XU:Hid (cU (ax E m x5) x5 gl (.slice f.la f.ln f.lc) (.slice f.aa f.an f.ac) f.lp n'):=(mL.ah ad (fun j b e=>by
       have e':j=x1.heap.size:=e
       rcases b with b|b
       ·have:=z.out.ln.Vj _ b;have:=rC.size;omega
       ·have h3:=b.1
        rw[World.size_alloc] at h3
        omega)).Ui (fun j b=>by
       rcases b with b|b
       ·exact .inl b
       ·exact .inr ⟨Nat.le_trans ab.size b.1,by rw[a4];exact b.2⟩) (fun j b=>b.lt z.out.ln.Vj Nn.size)
      refine x.out _ _ Nn (fun o=>?_);clear x K o
      (try dsimp only[Act.put]);refine V6 16 5 rfl rfl ?_;(try simp only[setS])
      refine wpAnyH_done (by kernel_rfl) ?_ _;go_wp2;go_meet
      case rel=>exact⟨x1.heap.size,rfl,rfl,g5,rC.size,XU.out,Nn⟩
    ·go_simp
     have rC:Below m.heap.size m (m.alloc (I #[D H 0,D .u8 0,D H 0] 132)).drew:=(bal' m _).drew;have a5:Keeps E m (m.alloc (I #[D H 0,D .u8 0,D H 0] 132)).drew:=Keeps.af rC;refine x.out _ _ a5 (fun o=>?_);clear x K o;refine rdyH 8 rfl (fun K x=>?_);go_simp;refine(VL.out _ rC).mono ?_;rintro r x1 ⟨rfl,K6⟩;have ab:=bt rC K6 (Nat.le_refl _);have YC:Keeps E m x1:=Keeps.af ab;have p1:x1.heap[m.heap.size]?=U (I #[D H 0,D .u8 0,D H 0] 132):=hpKeep (w:=(m.alloc (I #[D H 0,D .u8 0,D H 0] 132)).drew) (hpNew m _) K6;refine x.out _ _ YC (fun o=>?_);clear x K o;refine tG 9 34 ?_;refine rdyH 10 rfl (fun K x=>?_);go_simp;refine(Zp.out _ ab).mono ?_;rintro r x2 ⟨rfl,mL,Z⟩;have ak:Keeps E m x2:=YC.trans Z (fun _ _ e=>e);have p2:x2.heap[m.heap.size]?=U (I #[D H 0,D .u8 0,D H 0] 132):=hpKeeps p1 Z (fun e=>by have:=z.out.ln.Vj _ e;omega);have ds:=hpLt p1;refine x.out _ _ ak (fun o=>?_);clear x K o;refine tG 11 24 ?_;refine tG 12 36 ?_;refine tG 13 37 ?_;refine rdyH 15 rfl (fun K x=>?_);refine step_storeW rfl 132 (.tmp 4) (.tmp 36) rfl m.heap.size 0 _ 132 #[D H e.t,D .u8 (e.v.toNat:Int),D H e.fl] rfl rfl p2 (by simp) infoEvW rfl ?_;intro x5 g5 ad a4;have Nn:Keeps E m x5:=ak.trans ad (fun i hi e=>by have e':i=m.heap.size:=e;omega);have XU:Hid (cU (ax E m x5) x5 gl (.slice f.la f.ln f.lc) (.slice f.aa f.an f.ac) f.lp n'):=(mL.ah ad (fun j b e=>by
      have e':j=m.heap.size:=e
      rcases b with b|b
      ·have:=z.out.ln.Vj _ b;omega
      ·have h3:=b.1
       omega)).Ui (fun j b=>by
      rcases b with b|b
      ·exact .inl b
      ·exact .inr ⟨Nat.le_trans ab.size b.1,by rw[a4];exact b.2⟩) (fun j b=>b.lt z.out.ln.Vj Nn.size)
     refine x.out _ _ Nn (fun o=>?_);clear x K o
     (try dsimp only[Act.put]);refine V6 16 5 rfl rfl ?_;(try simp only[setS])
     refine wpAnyH_done (by kernel_rfl) ?_ _;go_wp2;go_meet
     case rel=>exact⟨m.heap.size,rfl,rfl,g5,Nat.le_refl _,XU.out,Nn⟩
   case rest=>
    obtain⟨L,RX⟩:∃W,W=wc:=⟨_,rfl⟩
    subst RX;obtain⟨eb,rfl,rfl,Zf⟩:=hcut;have JT:=hid F8;have b6:Hid (¬E w.heap.size∧¬R w.heap.size):=by
     have zJ:¬ax P W1 wr w.heap.size:=fun e=>by
      rcases e with e|e
      ·have:=H0.out.AR _ e
       omega
      ·have:=b8.out
       omega
     exact⟨fun e=>zJ (Ak.out.pl _ e),fun e=>zJ (Ak.out.pq _ e)⟩
    have ao:=hid (z.out.line Zf.out.2.2.1 Zf.out.2.2.2 QA.out).1;have Qv:=hid (z.out.line Zf.out.2.2.1 Zf.out.2.2.2 QA.out).2;have cl:Hid (L.heap[w.heap.size]?=U (I #[D H 0,D H 0,D H 0,J none 0 0,D H 0,D H 0,.bool false,D H 0,J none 0 0] 55)):=hpKeeps (hpKeep HR.out.2.2.1 F8) Zf.out.2.2.2 b6.out.1;have bX:Hid (k1≤1000000000):=by have:=HR.out.2.2.2.2.1;show _≤_;omega
    have b4:Hid ((Du.mk cn t).step.mu<(Du.mk cn t).mu∧(Du.mk cn t).step.heard=d):=⟨Du.uM a2.out,by rw[Du.cH ((gP _).2 a2.out)];exact HR.out.2.2.2.1⟩
    have oo:Hid (∀(X w4:World) (x':Tx) (s':Lk),Below L.heap.size L X→X.heap.size=L.heap.size→(Du.mk cn t).step=⟨n',x'⟩→PK gj (k1+1) (iK R X w4) x' s' w4→Keeps R X w4→nV gm gl gj (k1+1) (ax P W1 w4) (ax E m L) (iK R X w4) c sv f ⟨n',true,x',y.set,y.now⟩ s' w4∧Keeps P W1 w4∧w4.heap[w.heap.size]?=U (I #[D H 0,D H 0,D H 0,J none 0 0,D H 0,D H 0,.bool false,D H 0,J none 0 0] 55)∧(Du.mk n' x').heard=d∧k1+1+(Du.mk n' x').mu≤M∧(Du.mk n' x').mu<gk):=fun X w4 x' s' bn dv c4 U3 OK=>by
     obtain⟨b1,b2⟩:=(ao.out.bW bn).link U3 OK;have z1:=HR.out.2.1.size;have z2:=JT.out.size;have z3:=Zf.out.2.2.2.size;have z4:L.heap.size≤w4.heap.size:=by have:=OK.size;omega
     have mw:Keeps P W1 w4:=((HR.out.2.1.trans (Keeps.af JT.out) (fun _ _ e=>e)).trans Qv.out (fun j b e=>by
      rcases e with e|e
      ·exact e
      ·omega)).trans ((Keeps.af bn).trans b2 (fun _ _ e=>e)) (fun j b e=>by
      rcases e with(e|e)|e
      ·exact e
      ·omega
      ·omega)
     rw[c4] at b4;obtain⟨m1,m2⟩:=b4.out;have m3:=HR.out.2.2.2.2;refine⟨H1.out.base b1 mw (fun j b=>?_),mw,hpKeeps (hpKeep cl.out bn) OK b6.out.2,m2,by omega,by omega⟩;rcases b with((b|b)|b)|b
     ·exact .inl b
     ·exact .inr ⟨b.1,by omega⟩
     ·exact .inr ⟨by omega,by omega⟩
     ·have h1:=b.1
      exact .inr ⟨by omega,b.2⟩
    have a6:∀X,Below L.heap.size L X→X.cell? ⟨gm,17,N⟩=U (.pointer (U ⟨gj,0,N⟩)):=fun X T=>cell_keep T (ao.out.c17 rfl)
    have kD:Below L.heap.size L L.drew:=(Below.refl _ _).drew;clear Zb dk kS cV F8;cases V with
    |true=>
     have JX:Hid (Calls Tryz.prog 62 #[.pointer (U ⟨gj,0,N⟩),.agg #[D H e.t,D .u8 (e.v.toNat:Int),D H e.fl]] L.drew (j9 gj (k1+1) R (t.ll e) (t.vU e) L.drew)):=LC ((ao.out.pk rfl).keeps (Q:=fun _=>False) (Keeps.af kD) (fun _ _ e=>e)) a2.out bX.out e;obtain⟨CE,a3⟩:∃C:Array Value,(#[D H e.t,D .u8 (e.v.toNat:Int),D H e.fl]:Array Value)=C:=⟨_,rfl⟩
     have PY:(Tryz.prog.info? 132).map (·.size)=U CE.size:=by rw[←a3];exact infoEvW
     have cg:¬R eb:=fun e=>by
      have h1:=Ak.out.Qa _ e;have h2:=Zf.out.2.1;have h3:=JT.out.size;omega
     have QH:Hid (∀X,Keeps R L X→∀j u,CE.toList[j]?=U u→X.cell? ((⟨eb,0,N⟩:Addr).add j)=U u):=fun X T j u b=>by
      rw[Addr.add_lit,Nat.zero_add,hpCell (hpKeeps Zf.out.1 T cg),a3];simpa using b
     have dE:∀X,Keeps R L X→X.cell? ⟨gm,17,N⟩=U (.pointer (U ⟨gj,0,N⟩)):=fun X T=>(hpCell (hpKeeps ao.out.at_ T ao.out.OD) 17).trans rfl
     have kQ:Keeps R L L.drew:=Keeps.af kD;rw[a3] at JX;clear a3 cg a6;go_upto_region 6 with(fail)
     refine wp_region_held_drew (S:=fun V=>Keeps R L V) (by kernel_rfl) kQ (fun hH=>?_);clear hH;refine tG 0 39 ?_;refine tG 1 40 ?_;refine tG 2 41 ?_;refine tG 3 42 ?_;refine tkD 4 43 (v:=.agg CE) rfl (by kernel_rfl) (fun _ _ _ h=>h) rfl (by rfl) (by assumption) (fun X T=>run_load_rowT 132 (.tmp 4) rfl ⟨eb,0,N⟩ rfl CE _ (QH.out X T) Tryz.underlying132 rfl PY) ?_;simp only[setS];refine rdyH 5 rfl (fun K x=>?_);go_simp;refine JX.out.mono ?_;rintro r w4 ⟨s',rfl,U3,OK⟩;have hE:=oo.out L.drew w4 _ s' kD rfl (by rw[rA.out];rfl) U3 OK;have HE:=hid hE;have c7:Keeps R L w4:=kQ.trans OK (fun _ _ e=>e);clear hE U3 OK;refine x.out _ _ c7 (fun o=>?_);clear x K o;refine wpAnyH_done (by kernel_rfl) ?_ _;go_wp2;go_roundg (Du.mk n' (t.ll e)).mu
     case measure=>exact HE.out.2.2.2.2.2
     case rel=>exact⟨⟨n',t.ll e⟩,k1+1,_,_,s',HE.out.1,HE.out.2.1,HE.out.2.2.1,HE.out.2.2.2.1,HE.out.2.2.2.2.1,Nat.le_refl _⟩
    |false=>
     have cv:Hid (Calls Tryz.prog 63 #[.pointer (U ⟨gj,0,N⟩)] L (j9 gj (k1+1) R t.bR 0 L)):=Am (ao.out.pk rfl) a2.out bX.out;have dz:L.cell? ⟨gm,17,N⟩=U (.pointer (U ⟨gj,0,N⟩)):=a6 _ (Below.refl _ _);go_wp2_with (go_at_call 63;(with_reducible refine cv.out.mono ?_);rintro r w4 ⟨s',rfl,U3,OK⟩;have HE:=hid (oo.out L w4 _ s' (Below.refl _ _) rfl (by rw[rA.out];rfl) U3 OK);clear U3 OK);go_roundg (Du.mk n' t.bR).mu
     case measure=>exact HE.out.2.2.2.2.2
     case rel=>exact⟨⟨n',t.bR⟩,k1+1,_,_,s',HE.out.1,HE.out.2.1,HE.out.2.2.1,HE.out.2.2.2.1,HE.out.2.2.2.2.1,Nat.le_refl _⟩
  |false=>
   rw[KN] at OF;have ca:(⟨cn,t⟩:Du)=d:=by rw[←HR.out.2.2.2.1];exact(Du.nk KN).symm
   have AG:=hid (fun (X:World) (T:Below wr.heap.size wr X)=>xbE (((Ak.out.pk rfl).keeps (Q:=fun _=>False) (Keeps.af T) (fun _ _ e=>e))));have cj:=hid ca;clear KN ca;go_upto_region 8 with(go_at_call 60;(with_reducible refine NY.out.mono ?_);rintro r m ⟨rfl,F8⟩)
   have z:=hid (Ak.out.bW F8);have JT:=hid F8;have a6:m.cell? ⟨gm,17,N⟩=U (.pointer (U ⟨gj,0,N⟩)):=z.out.c17 rfl;have c8:m.cell? ⟨gm,19,N⟩=U (D H y.now):=hpCell z.out.at_ 19;have f19:m.frozen? ⟨gm,19,N⟩=false:=hpFree z.out.at_ 19;have b5:=hid (AG.out m F8);obtain⟨NW,a8⟩:=gE t.now;rw[a8] at b5;have c9:=hid a8;clear c17 OF F8 AG a8;go_upto_region 9 with(go_at_call 64;(with_reducible refine b5.out.mono ?_);rintro r w3 ⟨rfl,rfl⟩)
   obtain⟨W8,MU⟩:∃W,m.setCell ⟨gm,19,N⟩ (D H NW)=W:=⟨_,rfl⟩
   rw[MU];have yg:Keeps (· =gm) m W8:=by rw[←MU];exact ks1 (Keeps.refl (· =gm) m) 19 _
   have dt:W8.heap[gm]?=U (I (MC c sv gl (YE true gj) y.set NW) 129):=by rw[←MU];exact hpSetE z.out.at_ rfl
   have H8:=hid (z.out.own (b':=true) (gj':=gj) (k':=k1) (Q':=R) (x':=t) (s':=s1) (st':=y.set) (now':=NW) yg dt (fun _=>z.out.pk rfl) (fun j b=>⟨z.out.Qa j b,fun e=>z.out.Ov j e b,fun e=>z.out.OD (e▸b),z.out.pq j b⟩));have bZ:=hid (Ly (H8.out.1.pk rfl));have dK:W8.cell? ⟨gm,17,N⟩=U (.pointer (U ⟨gj,0,N⟩)):=H8.out.1.c17 rfl;have cX:¬w.heap.size=gm:=fun e=>by
    have:=H0.out.AR gm H0.out.pm;omega
   have p8:W8.heap[w.heap.size]?=U (I #[D H 0,D H 0,D H 0,J none 0 0,D H 0,D H 0,.bool false,D H 0,J none 0 0] 55):=hpKeeps (hpKeep HR.out.2.2.1 JT.out) yg cX;obtain⟨V5,ba⟩:∃V,decide (t.ph=5)=V:=⟨_,rfl⟩
   obtain⟨O,hO⟩:=gE t.shown;rw[ba,hO] at bZ;have b7:=hid p8;have Zk:=hid yg;have cw:=hid (And.intro ba hO);clear a6 c8 f19 yg dt p8 MU ba hO;go_wp2_with (first
    |(go_at_call 65;(with_reducible refine bZ.out.mono ?_);rintro r w9 ⟨da,dc,oa,oc,rfl,xg,bm⟩;have p9:=hpKeep b7.out bm;have ct:=hid xg;have a7:=hid bm;clear xg bm)
    |(refine wpList_storeW rfl 55 (.tmp 2) (.tmp 63) rfl w.heap.size 0 _ 55 #[D H O.verdict,D H O.ae.fn,D H O.ae.ar,J da O.ae.data.length dc,D H O.ae.code,D H O.ae.level,.bool O.ae.more,D H O.ae.next,J oa O.ae.ag.length oc] rfl rfl p9 (by simp) rY rfl ?_;intro wA gA bA c6))
   have cD:wA.heap[w.heap.size]?=U (I #[D H O.verdict,D H O.ae.fn,D H O.ae.ar,J da O.ae.data.length dc,D H O.ae.code,D H O.ae.level,.bool O.ae.more,D H O.ae.next,J oa O.ae.ag.length oc] 55):=gA;refine bodyPost_ret (results_ct_row rfl _ _ w.heap.size 55 _ (0,0) _ rfl cD Tryz.underlying55 rfl rY) rfl ?_;have bx:=cj.out;obtain⟨e1,e2⟩:=cw.out;have z0:=bQ.out.size;have zr:=HR.out.2.1.size;have z2:=JT.out.size;have z8:=Zk.out.size;have z9:=a7.out.size;have db:Keeps P W1 W8:=(HR.out.2.1.trans (Keeps.af JT.out) (fun _ _ e=>e)).trans H8.out.2 (fun j b e=>by
    rcases e with e|e
    ·exact e
    ·omega)
   have bK:Keeps P w wA:=(((Keeps.af bQ.out).trans db (fun _ _ e=>e)).trans (Keeps.af a7.out) (fun _ _ e=>e)).trans bA (fun j b e=>by
    have e':j=w.heap.size:=e
    omega)
   have hA:nV gm gl gj k1 (ax P W1 wr) E R c sv f ⟨cn,true,t,y.set,NW⟩ s1 wA:=by
    have h9:=H8.out.1.bW a7.out;refine h9.ah bA (fun j b e=>?_) (fun Y hY=>?_)
    ·have e':j=w.heap.size:=e
     rcases b with b|b
     ·have:=H0.out.AR j b
      omega
     ·have:=b8.out
      omega
    ·have cb:Keeps P w Y:=bK.trans hY (fun j b e=>by
      rcases e with e|e
      ·exact e
      ·omega)
     exact⟨H0.out.Ex Y cb,H0.out.G.rd Y cb⟩
   refine⟨da,dc,oa,oc,k1,E,R,s1,?_,fun X T=>?_,?_,bK,by have:=HR.out.2.2.2.2.1;omega⟩
   ·rw [←bx]
    show _=Ending.returned (.tuple #[.agg #[D H t.shown.verdict,D H t.shown.ae.fn,D H t.shown.ae.ar,J da t.shown.ae.data.length dc,D H t.shown.ae.code,D H t.shown.ae.level,.bool t.shown.ae.more,D H t.shown.ae.next,J oa t.shown.ae.ag.length oc],.bool (decide (t.ph=5))]);rw[e1,e2];rfl
   ·rw [←bx]
    show dG X t.shown.ae da dc oa oc;rw[e2];refine ct.out X (ay.trans (B:=W8.heap.size) (ay.dg (B:=W8.heap.size) bA (fun j e=>by have e':j=w.heap.size:=e;have:=hpLt b7.out;omega)) (T.mono (by omega)))
   ·rw [←bx]
    show nV gm gl gj k1 (ax P w wA) E R c sv f ⟨cn,true,t,y.set,t.now⟩ s1 wA;rw[c9.out];exact H0.out.base hA bK (fun j b=>by
     rcases b with b|b
     ·exact .inl b
     ·exact .inr ⟨by omega,by have:=c6;omega⟩)
