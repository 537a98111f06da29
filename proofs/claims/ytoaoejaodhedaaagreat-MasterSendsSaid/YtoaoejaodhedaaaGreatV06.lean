import Derived.Test.YtoaoejaodhedaaaGreatV05
namespace Go.Proofs.YtoaoejaodhedaaaGreat
open Go.RowKit
open Option renaming none→J
open Value renaming int→M
open IntKind renaming i64→N
set_option maxHeartbeats 1600000
set_option maxRecDepth 100000
variable {b' lp:Bool} {c:Cf} {l:List (Int×Int)} {s s':Lk} {g gj gl gm j k k':Nat} {P P' PL Q Q':Nat→Prop} {av sv v:Value} {W W' W0 X Y w w':World}
theorem MU:Tryz.prog.cellsOf 35=21:=by kernel_rfl
theorem MY:Tryz.prog.cellsOf 28=1:=by kernel_rfl
theorem DC:Tryz.prog.cellsOf 32=3:=by kernel_rfl
theorem MP:Tryz.prog.cellsOf 29=1:=by kernel_rfl
theorem MS:Tryz.prog.cellsOf 30=1:=by kernel_rfl
theorem Ii:Tryz.prog.cellsOf 161=2:=by kernel_rfl
theorem MM:Tryz.prog.cellsOf 33=1:=by kernel_rfl
theorem Ig:Tryz.prog.cellsOf 49=6:=by kernel_rfl
structure Aq where
 m:Int
 st:Int
 un:Int
 fn:Int
 a:Int
 b:Int
def Aq.C (x:Aq):Array Value:=#[M N x.m,M N x.st,M N x.un,M N x.fn,M N x.a,M N x.b]
def wfA (x:Aq):Prop:=bT x.m∧bT x.st∧bT x.un∧bT x.fn∧bT x.a∧bT x.b
def AqR (_:World) (cs:List Value) (x:Aq):Prop:=cs=x.C.toList∧wfA x
def WY (w:World) (v:Value) (l:List Aq):Prop:=gY 6 AqR w v l
theorem WY.ah {w w':World} {v:Value} {l:List Aq} (h:WY w v l) (a:Below w.heap.size w w'):WY w' v l:=gY.ah (fun _ _ _ _ h _=>h) h a
theorem WY.row {l:List Aq} (h:WY w v l) {x:Aq} (d:l[k]?=some x):
  ∃b o c,v=.slice (some ⟨b,o,J⟩) l.length c∧wfA x∧∀W,Below w.heap.size w W→∀i u,x.C.toList[i]?=some u→W.cell? ((⟨b,o+k*6,J⟩:Addr).add i)=some u:=by
 obtain⟨a,c,rfl,p,q,t,e⟩:=h;obtain⟨b,o,rfl,n⟩:=e (by rintro rfl;simp at d);obtain⟨r,y,⟨rfl,hw⟩,m⟩:=n k x d;exact⟨b,o,c,rfl,hw,fun W f i u hi=>by rw[Addr.add_lit];exact cell_keep f (m i u hi)⟩
theorem xa0 {cs:List Value} (h:Rd Tryz.prog w 49 cs):∃x,AqR w cs x:=by
 obtain⟨b,a⟩:=h.struct Tryz.underlying49;rw[Ig] at b;obtain⟨c0,c1,c2,c3,c4,c5,rfl⟩:=Mx b;have f0:=a _ (List.mem_cons_self ..);have f1:=a _ (List.mem_cons_of_mem _ (List.mem_cons_self ..));have f2:=a _ (List.mem_cons_of_mem _ (List.mem_cons_of_mem _ (List.mem_cons_self ..)));have f3:=a _ (List.mem_cons_of_mem _ (List.mem_cons_of_mem _ (List.mem_cons_of_mem _ (List.mem_cons_self ..))));have f4:=a _ (List.mem_cons_of_mem _ (List.mem_cons_of_mem _ (List.mem_cons_of_mem _ (List.mem_cons_of_mem _ (List.mem_cons_self ..)))));have f5:=a _ (List.mem_cons_of_mem _ (List.mem_cons_of_mem _ (List.mem_cons_of_mem _ (List.mem_cons_of_mem _ (List.mem_cons_of_mem _ (List.mem_cons_self ..))))));simp only[dB,List.drop_zero,List.drop_succ_cons,List.take_succ_cons,List.take_zero] at f0 f1 f2 f3 f4 f5;obtain⟨a0,rfl,m⟩:=bl f0;obtain⟨a1,rfl,w1⟩:=bl f1;obtain⟨d,rfl,n⟩:=bl f2;obtain⟨e,rfl,w3⟩:=bl f3;obtain⟨f,rfl,o⟩:=bl f4;obtain⟨i,rfl,w5⟩:=bl f5;exact⟨⟨a0,a1,d,e,f,i⟩,rfl,m,w1,n,w3,o,w5⟩
theorem Yb (h:Rd Tryz.prog w 33 [v]):∃l,WY w v l:=
 gY.jz (R:=AqR) Tryz.underlying33 Ig (by decide) (fun _ h=>xa0 h) h
theorem xa3 {cs:List Value} (h:Rd Tryz.prog w 161 cs):∃x,NG w cs x:=by
 obtain⟨e,d⟩:=h.struct Tryz.underlying161;rw[Ii] at e;obtain⟨c0,c1,rfl⟩:=Jv e;have f0:=d _ (List.mem_cons_self ..);have f1:=d _ (List.mem_cons_of_mem _ (List.mem_cons_self ..));simp only[dB,List.drop_zero,List.drop_succ_cons,List.take_succ_cons,List.take_zero] at f0 f1;obtain⟨a,rfl,f⟩:=bl f0;obtain⟨b,rfl,w1⟩:=bl f1;exact⟨(a,b),rfl,f,w1⟩
theorem Yh (h:Rd Tryz.prog w 30 [v]):∃l,dw w v l:=
 gY.jz (R:=NG) Tryz.underlying30 Ii (by decide) (fun _ h=>xa3 h) h
theorem Yf (h:Rd Tryz.prog w 29 [v]):∃l,ke w v l:=
 gY.jz (R:=AtR) Tryz.underlying29 vW (by decide) (fun cs h=>by
  obtain⟨a,e,hw⟩:=T5 (cs:=cs.toArray) (by simpa using h)
  exact⟨a,by rw[←e],hw⟩) h
theorem xaA {cs:List Value} (h:Rd Tryz.prog w 32 cs):∃(s:lg) (av d:Value),cs=[av,.bool s.loop,d]∧ke w av s.aC∧dw w d s.cr:=by
 obtain⟨e,a⟩:=h.struct Tryz.underlying32;rw[DC] at e;obtain⟨c0,c1,c2,rfl⟩:=Vy e;have f0:=a _ (List.mem_cons_self ..);have f1:=a _ (List.mem_cons_of_mem _ (List.mem_cons_self ..));have f2:=a _ (List.mem_cons_of_mem _ (List.mem_cons_of_mem _ (List.mem_cons_self ..)));simp only[MP,mJ,MS,List.drop_zero,List.drop_succ_cons,List.take_succ_cons,List.take_zero] at f0 f1 f2;obtain⟨l,f⟩:=Yf f0;obtain⟨b,rfl⟩:=ue f1;obtain⟨m,i⟩:=Yh f2;exact⟨⟨l,b,m⟩,c0,c2,rfl,f,i⟩
def wm (c:Cf) (sv lv av:Value) (lp:Bool) (cv kv:Value):Array Value:=#[sv,M N c.fi,M N c.la,M N c.re,M N c.ti,M N c.de,M N (c.aq 0).1,M N (c.aq 0).2,M N (c.aq 1).1,M N (c.aq 1).2,M N (c.aq 2).1,M N (c.aq 2).2,M N (c.aq 3).1,M N (c.aq 3).2,M N c.ev,M N c.st,lv,av,.bool lp,cv,kv]
theorem xb5 {α:Type} {l:List α} (h:l.length=5):∃a b c d e,l=[a,b,c,d,e]:=by
 match l,h with
 |[a,b,c,d,e],_=>exact⟨a,b,c,d,e,rfl⟩
theorem xaz {cs:Array Value} (h:Rd Tryz.prog w 35 cs.toList):
  ∃(c:Cf) (l:List Sl) (s:lg) (k:List Aq) (sv lv av m p:Value),cs=wm c sv lv av s.loop m p∧dw w sv c.bj∧dm w lv l∧ke w av s.aC∧dw w m s.cr∧WY w p k:=by
 obtain⟨o,i⟩:=h.struct Tryz.underlying35;rw[MU] at o;obtain⟨f⟩:=cs;have f0:=i _ (List.mem_cons_self ..);have f1:=i _ (List.mem_cons_of_mem _ (List.mem_cons_self ..));have f2:=i _ (List.mem_cons_of_mem _ (List.mem_cons_of_mem _ (List.mem_cons_self ..)));have f3:=i _ (List.mem_cons_of_mem _ (List.mem_cons_of_mem _ (List.mem_cons_of_mem _ (List.mem_cons_self ..))));simp only[Ih,MY,DC,MM] at f0 f1 f2 f3;obtain⟨c,sv,e0,B,-⟩:=xa1 (cs:=(List.take 16 (List.drop 0 f)).toArray) (by simpa using f0);have e0:List.take 16 f=(yh c sv).toList:=by rw[←e0];simp
 obtain⟨d0,d1,d2,d3,d4,he⟩:∃a b c d e,List.drop 16 f=[a,b,c,d,e]:=by
  have C:(List.drop 16 f).length=5:=by
   have n:f.length=21:=o;rw[List.length_drop,n]
  exact xb5 C
 have q:f=(yh c sv).toList++[d0,d1,d2,d3,d4]:=by rw[←e0,←he,List.take_append_drop]
 subst q;have r:Rd Tryz.prog w 28 [d0]:=f1;have t:Rd Tryz.prog w 32 [d1,d2,d3]:=f2;have u:Rd Tryz.prog w 33 [d4]:=f3;obtain⟨l,A⟩:=JP r;obtain⟨s,av,m,e,x,y⟩:=xaA t;simp only[List.cons.injEq,and_true] at e;obtain⟨rfl,rfl,rfl⟩:=e;obtain⟨k,z⟩:=Yb u;exact⟨c,l,s,k,sv,d0,d1,d3,d4,rfl,B,A,x,y,z⟩
def MC (c:Cf) (sv:Value) (gl:Nat) (lk:Value) (st now:Int):Array Value:=#[sv,M N c.fi,M N c.la,M N c.re,M N c.ti,M N c.de,M N (c.aq 0).1,M N (c.aq 0).2,M N (c.aq 1).1,M N (c.aq 1).2,M N (c.aq 2).1,M N (c.aq 2).2,M N (c.aq 3).1,M N (c.aq 3).2,M N c.ev,M N c.st,.pointer (some ⟨gl,0,J⟩),lk,M N st,M N now]
structure Fx where
 la:Option Addr
 ln:Nat
 lc:Nat
 aa:Option Addr
 an:Nat
 ac:Nat
 lp:Bool
 l:List Sl
 aC:List At
structure Ms where
 n:Ln
 b:Bool
 x:Tx
 set:Int
 now:Int
def T0 (b:Bool) (gj:Nat):Value:=.pointer (if b=true then some ⟨gj,0,J⟩ else none)
structure lr (gm gl gj k:Nat) (P PL Q:Nat→Prop) (c:Cf) (sv:Value) (f:Fx) (y:Ms) (s:Lk) (W:World):Prop where
 at_:W.heap[gm]?=some (.cells (MC c sv gl (T0 y.b gj) y.set y.now) 129)
 ln:cU PL W gl (.slice f.la f.ln f.lc) (.slice f.aa f.an f.ac) f.lp y.n
 G:IA P W f.la f.ln f.lc f.aa f.an f.ac f.l f.aC f.lp
 Rj:y.n.ok
 pk:y.b=true→PK gj k Q y.x s W
 Lv:∀j,Q j→j<W.heap.size
 Jw:∀j,PL j→¬Q j
 CS:¬PL gm
 JL:¬Q gm
 pl:∀j,PL j→P j
 pq:∀j,Q j→P j
 pm:P gm
 yU:∀j,P j→j<W.heap.size
 AI:∀X,Keeps P W X→dw X sv c.bj
 sV:oA c=0
theorem cU.Ri {s:Ln} (h:cU P W g sv av lp s):∀j,P j→j<W.heap.size:=by
 obtain⟨b,a,cs,h⟩:=h;exact h.pl
theorem cU.xcE {s:Ln} (h:cU P W g sv av lp s):P g:=by
 obtain⟨b,a,cs,h⟩:=h;exact h.pg
theorem ax.step (h:ax (ax P W0 W) W W' j) (d:W0.heap.size≤W.heap.size) (e:W.heap.size≤W'.heap.size):ax P W0 W' j:=by
 rcases h with(h|⟨a,b⟩)|⟨a,b⟩
 ·exact .inl h
 ·exact .inr ⟨a,by omega⟩
 ·exact .inr ⟨by omega,b⟩
theorem lr.ah {gm gl gj k:Nat} {P PL Q F:Nat→Prop} {c:Cf} {sv:Value} {f:Fx} {y:Ms} {s:Lk} {W X:World} (h:lr gm gl gj k P PL Q c sv f y s W) (b:Keeps F W X) (e:∀j,P j→¬F j) (hs:∀Y,Keeps P X Y→dw Y sv c.bj∧dm Y (.slice f.la f.ln f.lc) f.l∧ke Y (.slice f.aa f.an f.ac) f.aC):lr gm gl gj k P PL Q c sv f y s X:=
 {at_:=hpKeeps h.at_ b (e gm h.pm)
  ln:=h.ln.ah b (fun j a=>e j (h.pl j a))
  G:=⟨fun Y d=>(hs Y d).2,h.G.Re,h.G.Ph,h.G.Bq,h.G.ok,h.G.Ru⟩
  Rj:=h.Rj
  pk:=fun i=>(h.pk i).keeps b (fun j a=>e j (h.pq j a))
  Lv:=fun j a=>Nat.lt_of_lt_of_le (h.Lv j a) b.size
  Jw:=h.Jw,CS:=h.CS,JL:=h.JL,pl:=h.pl,pq:=h.pq,pm:=h.pm
  yU:=fun j a=>Nat.lt_of_lt_of_le (h.yU j a) b.size
  AI:=fun Y d=>(hs Y d).1
  sV:=h.sV}
theorem lr.bW {f:Fx} {y:Ms} (h:lr gm gl gj k P PL Q c sv f y s W) (a:Below W.heap.size W X):lr gm gl gj k P PL Q c sv f y s X:=
 h.ah (F:=fun _=>False) (Keeps.af a) (fun _ _ e=>e) (fun Y b=>⟨h.AI Y ((Keeps.af a).trans b (fun _ _ e=>e)),h.G.rd Y ((Keeps.af a).trans b (fun _ _ e=>e))⟩)
theorem lr.Az {f:Fx} {y:Ms} (h:lr gm gl gj k P' PL Q c sv f y s W) (d:∀j,P' j→P j) (e:∀j,P j→j<W.heap.size)
  (hs:∀Y,Keeps P W Y→dw Y sv c.bj∧dm Y (.slice f.la f.ln f.lc) f.l∧ke Y (.slice f.aa f.an f.ac) f.aC):lr gm gl gj k P PL Q c sv f y s W:=
 {h with
  G:=⟨fun Y a=>(hs Y a).2,h.G.Re,h.G.Ph,h.G.Bq,h.G.ok,h.G.Ru⟩
  pl:=fun j b=>d j (h.pl j b)
  pq:=fun j b=>d j (h.pq j b)
  pm:=d gm h.pm
  yU:=e
  AI:=fun Y a=>(hs Y a).1}
theorem lr.line {f:Fx} {y:Ms} {i:Ln} (h:lr gm gl gj k P PL Q c sv f y s W) (t:cU (ax PL W W') W' gl (.slice f.la f.ln f.lc) (.slice f.aa f.an f.ac) f.lp i) (d:Keeps PL W W') (q:i.ok):
    lr gm gl gj k (ax P W W') (ax PL W W') Q c sv f {y with n:=i} s W'∧Keeps P W W':=by
  have p:=d.size;have m:Keeps P W W':=d.mono (fun j _ e=>h.pl j e);have o:∀Y,Keeps (ax P W W') W' Y→Keeps P W Y:=fun Y b=>m.trans b (fun j a e=>by
    rcases e with e|e
    · exact e
    · omega)
  exact⟨{
           at_:=hpKeeps h.at_ d h.CS
           ln:=t
           G:=⟨fun Y b=>h.G.rd Y (o Y b),h.G.Re,h.G.Ph,h.G.Bq,h.G.ok,h.G.Ru⟩
           Rj:=q
           pk:=fun r=>(h.pk r).keeps d (fun j a e=>h.Jw j e a)
           Lv:=fun j a=>Nat.lt_of_lt_of_le (h.Lv j a) p
           Jw:=fun j a e=>by
             rcases a with a|a
             · exact h.Jw j a e
             · have:=h.Lv j e
               omega
           CS:=fun e=>by
             rcases e with e|e
             · exact h.CS e
             · have:=h.yU gm h.pm
               omega
           JL:=h.JL
           pl:=fun j a=>by
             rcases a with a|a
             · exact .inl (h.pl j a)
             · exact .inr a
           pq:=fun j a=>.inl (h.pq j a)
           pm:=.inl h.pm
           yU:=fun j a=>by
             rcases a with a|a
             · exact Nat.lt_of_lt_of_le (h.yU j a) p
             · exact a.2
           AI:=fun Y b=>h.AI Y (o Y b)
           sV:=h.sV},m⟩
theorem lr.link {f:Fx} {y:Ms} {x':Tx} (h:lr gm gl gj k P PL Q c sv f y s W) (n:PK gj k' (iK Q W W') x' s' W') (d:Keeps Q W W'):
    lr gm gl gj k' (ax P W W') PL (iK Q W W') c sv f {y with x:=x'} s' W'∧Keeps P W W':=by
  have o:=d.size;have i:Keeps P W W':=d.mono (fun j _ e=>h.pq j e);have m:∀Y,Keeps (ax P W W') W' Y→Keeps P W Y:=fun Y b=>i.trans b (fun j a e=>by
    rcases e with e|e
    · exact e
    · omega)
  exact⟨{
           at_:=hpKeeps h.at_ d h.JL
           ln:=h.ln.ah d (fun j a e=>h.Jw j a e)
           G:=⟨fun Y b=>h.G.rd Y (m Y b),h.G.Re,h.G.Ph,h.G.Bq,h.G.ok,h.G.Ru⟩
           Rj:=h.Rj
           pk:=fun _=>n
           Lv:=n.yT
           Jw:=fun j a e=>by
             rcases e with e|e
             · exact h.Jw j a e
             · have:=h.yU j (h.pl j a)
               omega
           CS:=h.CS
           JL:=fun e=>by
             rcases e with e|e
             · exact h.JL e
             · have:=h.yU gm h.pm
               omega
           pl:=fun j a=>.inl (h.pl j a)
           pq:=fun j a=>by
             rcases a with a|a
             · exact .inl (h.pq j a)
             · exact .inr a
           pm:=.inl h.pm
           yU:=fun j a=>by
             rcases a with a|a
             · exact Nat.lt_of_lt_of_le (h.yU j a) o
             · exact a.2
           AI:=fun Y b=>h.AI Y (m Y b)
           sV:=h.sV},i⟩
theorem lr.own {gj':Nat} {f:Fx} {y:Ms} {x':Tx} {st' now':Int} (h:lr gm gl gj k P PL Q c sv f y s W) (i:Keeps (· =gm) W W') (q:W'.heap[gm]?=some (.cells (MC c sv gl (T0 b' gj') st' now') 129))
    (t:b'=true→PK gj' k' Q' x' s' W) (d:∀j,Q' j→j<W.heap.size∧¬PL j∧j≠gm∧P j):
    lr gm gl gj' k' P PL Q' c sv f ⟨y.n,b',x',st',now'⟩ s' W'∧Keeps P W W':=by
  have p:=i.size;have n:Keeps P W W':=i.mono (fun j _ e=>by have m:j=gm:=e;rw[m];exact h.pm);have o:∀Y,Keeps P W' Y→Keeps P W Y:=fun Y b=>n.trans b (fun j a e=>e)
  exact⟨{
           at_:=q
           ln:=h.ln.ah i (fun j a e=>h.CS (by have m:j=gm:=e;rw[←m];exact a))
           G:=⟨fun Y b=>h.G.rd Y (o Y b),h.G.Re,h.G.Ph,h.G.Bq,h.G.ok,h.G.Ru⟩
           Rj:=h.Rj
           pk:=fun r=>(t r).keeps i (fun j a=>(d j a).2.2.1)
           Lv:=fun j a=>Nat.lt_of_lt_of_le (d j a).1 p
           Jw:=fun j a e=>(d j e).2.1 a
           CS:=h.CS
           JL:=fun e=>(d gm e).2.2.1 rfl
           pl:=h.pl
           pq:=fun j a=>(d j a).2.2.2
           pm:=h.pm
           yU:=fun j a=>Nat.lt_of_lt_of_le (h.yU j a) p
           AI:=fun Y b=>h.AI Y (o Y b)
           sV:=h.sV},n⟩
theorem TS:(Tryz.prog.info? 61).map (fun i=>(i.zero,i.size,i.bytes))=some (some (.agg #[M N 0,M N 0]),2,16):=by kernel_rfl
def eF (w:World) (l:List (Int×Int)) (r:Ending) (w':World):Prop:=∃a c,r=.returned (.slice a l.length c)∧w'.ownsRow w.heap.size 61 2 (.slice a l.length c) l.length (cO l)∧Below w.heap.size w w'
theorem eF.own {n:Nat} {cs:List Value} (b:cs=cO l) (e:n=l.length) (h:w'.ownsRow w.heap.size 61 2 v n cs) (d:Below w.heap.size w w'):eF w l (.returned v) w':=by
 subst b e;obtain⟨a,c,rfl⟩:=own_slice h;exact⟨a,c,rfl,h,d⟩
theorem DN (v:Value) (l:List (Int×Int)) (w:World) (f:dw w v l) (K:l.length≤1000000):Calls Tryz.prog 71 #[v] w (eF w l):=by
 obtain⟨i5,hi,i,m,p⟩:=info_parts TS;obtain⟨a,c,rfl,I,D,B,q⟩:=id f;unfold maxLen at D;have L:=Lib.run_eql_slice_nil (P:=Tryz.prog);cases a with
 |none=>
  obtain rfl:=B rfl;have G:l.length=0:=by omega
  have:l=[]:=List.eq_nil_of_length_eq_zero G;subst this;clear f q;go_enter Tryz.func71,Tryz.ntmps71;go_wp2;go_ret;exact eF.own (cs:=[]) (n:=0) rfl rfl (World.ownsRow_nil _ _ _ _) (Below.refl _ _)
 |some a=>
  by_cases x:l=[]
  ·subst x
   clear f q;go_enter Tryz.func71,Tryz.ntmps71;go_wp2_with (at_builtin;refine aL rfl _ _ 22 rfl w.heap.size 61 i5 _ 2 16 Tryz.underlying22 hi i m p rfl (by decide) _ 0 [] rfl (World.ownsRow_made _ _ _ (Nat.le_refl _) (by decide) rfl) a 0 c [] rfl rfl (by simp) (by simp) (by unfold maxLen;omega) (by omega) (by simp) ?c3)
   case c3=>
    intro z w1 d e _;have r:=(bal' w (.cells #[] 61)).grown e (bal' w (.cells #[] 61)).size (by intro k t;simp [Value.ownBlock] at t;omega);have y:=hid d;clear e d;go_wp2;go_ret;exact eF.own (cs:=[]) (n:=0) rfl rfl (by simpa using y.out) r
  ·obtain ⟨b,o,F,-⟩:=q x
   cases F;have C:Hid (∀j u,(cO l)[j]?=some u→(w.alloc (.cells #[] 61)).cell? ((⟨b,o,J⟩:Addr).add j)=some u):=fun j u E=>by
    have e1:(⟨b,o,J⟩:Addr).add j=⟨b,o+j,J⟩:=by unfold Addr.add;split<;>simp_all
    rw[e1];exact cell_keep (bal' w _) (f.Lb j u E)
   have A:Hid ((cO l).length=l.length*2):=eD l;have H1:Hid (∀u∈cO l,u.oneCell'=true):=pP l;clear f q x;go_enter Tryz.func71,Tryz.ntmps71;go_wp2_with (at_builtin;refine aL rfl _ _ 22 rfl w.heap.size 61 i5 _ 2 16 Tryz.underlying22 hi i m p rfl (by decide) _ 0 [] rfl (World.ownsRow_made _ _ _ (Nat.le_refl _) (by decide) rfl) ⟨b,o,J⟩ l.length c (cO l) rfl A.out C.out H1.out (by unfold maxLen;omega) (by omega) (by simp) ?c3)
   case c3=>
    intro z w1 d e _;have r:=(bal' w (.cells #[] 61)).grown e (bal' w (.cells #[] 61)).size (by intro k t;simp [Value.ownBlock] at t;omega);have y:=hid (show w1.ownsRow w.heap.size 61 2 z l.length (cO l) by simpa using d);clear e d;go_wp2;go_ret;exact eF.own rfl rfl y.out r
theorem eF.AI {r:Ending} (h:eF w l r w') (b:∀x∈l,bT x.1∧bT x.2):∃a c,r=.returned (.slice a l.length c)∧(∀X,ay w.heap.size w' X→dw X (.slice a l.length c) l)∧Below w.heap.size w w':=by
 obtain⟨a,c,rfl,d,e⟩:=h;exact⟨a,c,rfl,fun X f=>gY.iq (di d (Nat.le_refl _) f) (mq l b) rfl,e⟩
theorem ax.Gs (h:ax P X Y j) (d:W.heap.size≤X.heap.size):ax P W Y j:=by
 rcases h with h|⟨a,b⟩
 ·exact .inl h
 ·exact .inr ⟨by omega,b⟩
theorem cU.PA {s:Ln} (h:cU P W g sv av lp s) (b:∀j,P j→Q j) (a:∀j,Q j→j<W.heap.size):cU Q W g sv av lp s:=by
 obtain⟨e,d,cs,h⟩:=h;exact⟨e,d,cs,h.mono b a⟩
def Tx.kind (x:Tx):Int:=if x.ph=0 then 0 else if x.ph=1 then 1 else if x.ph=5 then 3 else 2
def Tx.when (x:Tx):Int:=if x.ph=1 then x.now else if x.ph=0∨x.ph=5 then 0 else x.til
def Tx.bytes (x:Tx):List UInt8:=if x.ph=1 then fj (UInt8.ofNat x.un.toNat) x.q.bE else []
def ny (w:World) (K T:Int) (F:List UInt8) (r:Ending) (w':World):Prop:=
 ∃(a:Option Addr) (c:Nat),r=.returned (.agg #[M N K,M N T,.slice a F.length c])∧Bs w' (.slice a F.length c) F∧Below w.heap.size w w'
theorem ny.none {w w':World} {K T:Int} {r:Ending} (h:r=.returned (.agg #[M N K,M N T,.slice none 0 0])) (a:Below w.heap.size w w'):ny w K T [] r w':=⟨Option.none,0,h,Bs.nil w',a⟩
theorem Tx.Ss (x:Tx) (h:x.ok k):(x.ph=0∧x.kind=0∧x.when=0∧x.bytes=[])∨(x.ph=1∧x.kind=1∧x.when=x.now∧x.bytes=fj (UInt8.ofNat x.un.toNat) x.q.bE)∨(x.aP∧x.kind=2∧x.when=x.til∧x.bytes=[])∨(x.ph=5∧x.kind=3∧x.when=0∧x.bytes=[]):=by
 have b:=h.IJ;have d:=h.zl;unfold Tx.kind Tx.when Tx.bytes Tx.aP;by_cases e0:x.ph=0
 ·left;simp [e0]
 ·by_cases e1:x.ph=1
  ·right;left;simp [e1]
  ·by_cases a:x.ph=5
   ·right;right;right;simp [a]
   ·right;right;left
    rw[if_neg e0,if_neg e1,if_neg a,if_neg e1,if_neg (by omega),if_neg e1];exact⟨by omega,rfl,rfl,rfl⟩
theorem Ks {x:Tx} (h:PK g k P x s W):
  Calls Tryz.prog 61 #[.pointer (some ⟨g,0,J⟩)] W (ny W x.kind x.when x.bytes):=by
 have p:=h.ph;rcases x.Ss h.ok with⟨e,e1,e2,b⟩|⟨e,e1,e2,b⟩|⟨e,e1,e2,b⟩|⟨e,e1,e2,b⟩
 ·rw [e1,e2,b]
  exact(xH g s W h.at_ (by omega)).mono fun _ _ d=>ny.none d.1 d.2
 ·rw [e1,e2,b]
  have n:x.live:=by unfold Tx.live;omega
  have o:=bp (UInt8.ofNat x.un.toNat) x.q.bE;have q:=Rq.lF x.q;refine(xB g s _ W h.at_ (by omega) (h.fr n) (by omega)).mono ?_;rintro r w' ⟨a,c,rfl,f,i⟩;exact⟨a,c,by rw[h.now],f,i⟩
 ·rw [e1,e2,b]
  obtain⟨n1,m,t⟩:=h.en e;refine(ko g s W h.at_ (by unfold Tx.aP at e;unfold Lk.aP;omega)).mono ?_;rintro r w' ⟨d,f⟩;exact ny.none (by rw[d,m]) f
 ·rw [e1,e2,b]
  exact(v9 g s W h.at_ (by omega)).mono fun _ _ d=>ny.none d.1 d.2
theorem xaw {x:Tx} (h:PK g k P x s W):
  Calls Tryz.prog 64 #[.pointer (some ⟨g,0,J⟩)] W fun r w'=>r=.returned (M N x.now)∧W=w':=by
 rw[←h.now];exact Lm g s W h.at_
def Tx.shown (x:Tx):Oc:=if x.ph=5 then x.out else Oc.zero
def Mr (w:World) (o:Oc) (V:Bool) (r:Ending) (w':World):Prop:=∃(da:Option Addr) (dc:Nat) (oa:Option Addr) (oc:Nat),r=.returned (.tuple #[.agg #[M N o.verdict,M N o.ae.fn,M N o.ae.ar,.slice da o.ae.data.length dc,M N o.ae.code,M N o.ae.level,.bool o.ae.more,M N o.ae.next,.slice oa o.ae.ag.length oc],.bool V])∧(∀W,ay w.heap.size w' W→dG W o.ae da dc oa oc)∧Below w.heap.size w w'
theorem G4 {x:Tx} (h:PK g k P x s W):
  Calls Tryz.prog 65 #[.pointer (some ⟨g,0,J⟩)] W (Mr W x.shown (decide (x.ph=5))):=by
 have d:=h.ph;unfold Tx.shown;by_cases e:x.ph=5
 ·rw [if_pos e,decide_eq_true e]
  obtain⟨b,o2⟩:=h.out e;rw[←b];exact tW g s W h.at_ (by omega) (o2 W (Nat.le_refl _) (fun _ _=>rfl))
 ·rw [if_neg e,decide_eq_false e]
  refine(wP g s W h.at_ (by omega)).mono ?_;rintro r w' ⟨rfl,a⟩;exact⟨none,0,none,0,rfl,fun V _=>dG.zero V,a⟩
