import Derived.Test.YtoaoejaodhedaaaGreatT06
namespace Go.Proofs.YtoaoejaodhedaaaGreat
open Go.RowKit
open Value renaming int→J
open IntKind renaming i64→M
open Ending renaming returned→U
set_option maxHeartbeats 3200000
set_option maxRecDepth 100000
variable {r:Ending} {a co e fn hi lo nx:Int} {L l:List Ob} {D b d:List UInt8} {N dc k n oc zb:Nat} {da oa:Option Addr} {E p:Prop} {w w' w5 w8 wx:World}
def gv (l:List Ob) (n:Nat):Int:=match l[n]? with|some x=>x.id|none=>0
def Sl.dev (s:Sl) (q:Rq):Rp:=
 if s.lv=0 then jR 43 1 [] else if selO s.ag q.obj (kU q.code)=[] then jR 43 2 []
 else ⟨43,0,[],q.code,s.lv,decide (cq 246 (selO s.ag q.obj (kU q.code))<(selO s.ag q.obj (kU q.code)).length),gv (selO s.ag q.obj (kU q.code)) (cq 246 (selO s.ag q.obj (kU q.code))),(selO s.ag q.obj (kU q.code)).take (cq 246 (selO s.ag q.obj (kU q.code)))⟩
def Sl.nY (s:Sl):Rp:=if s.hs=true then jR 17 0 s.sd else jR 17 1 []
def Sl.cC (s:Sl) (q:Rq) (v:Int):Rp:=if q.fn=43 then s.dev q else if q.fn=17 then s.nY else (s.ts (q.fn-1).toNat).cC q v
theorem jt {q:Rq} (h:q.ok=true):(1≤q.fn∧q.fn≤4∧0≤q.addr∧1≤q.aF∧q.aF≤cN q.fn∧q.addr≤65536-q.aF∧q.code=0∧q.obj=0)∨(q.fn=17∧q.addr=0∧q.aF=0∧q.code=0∧q.obj=0)∨(q.fn=43∧q.addr=0∧q.aF=0∧1≤q.code∧q.code≤3∧0≤q.obj∧q.obj≤255):=by
 unfold Rq.ok at h;split at h
 ·rename_i e
  simp only[Bool.and_eq_true,decide_eq_true_eq,beq_iff_eq] at h;exact .inl ⟨e.1,e.2,h.1.1.1.1.1,h.1.1.1.1.2,h.1.1.1.2,h.1.1.2,h.1.2,h.2⟩
 ·split at h
  ·rename_i e
   simp only[Bool.and_eq_true,beq_iff_eq] at h;exact .inr (.inl ⟨e,h.1.1.1,h.1.1.2,h.1.2,h.2⟩)
  ·split at h
   ·rename_i e
    simp only[Bool.and_eq_true,decide_eq_true_eq,beq_iff_eq] at h;exact .inr (.inr ⟨e,h.1.1.1.1.1,h.1.1.1.1.2,h.1.1.1.2,h.1.1.2,h.1.2,h.2⟩)
   ·cases h
theorem eS (c:aR fn=true) (g:1≤e) (f:e≤255):(jR fn e []).ok=true:=by
 unfold Rp.ok jR;dsimp only;rw[c,if_neg (by omega),decide_eq_true g,decide_eq_true f];rfl
theorem BR (g:1≤fn) (i:fn≤4) (j:1≤d.length) (c:d.length≤250):(jR fn 0 d).ok=true:=by
 unfold Rp.ok jR;dsimp only;have f:aR fn=true:=by unfold aR jW;rw[decide_eq_true g,decide_eq_true i];rfl
 rw[f,if_pos rfl,if_neg (by omega),if_neg (by omega),decide_eq_true j,decide_eq_true c];rfl
theorem yy {b:Int}:∀{l:List Ob},aQ a l=true→b≤a→aQ b l=true
 |[],_,_=>rfl
 |x::l,h,hb=>by
  simp only[aQ,Bool.and_eq_true,decide_eq_true_eq] at h ⊢;exact⟨⟨by omega,h.1.2⟩,h.2⟩
theorem ik (f:Ob→Bool):∀{l:List Ob} {a:Int},aQ a l=true→aQ a (l.filter f)=true
 |[],_,_=>rfl
 |x::l,a,h=>by
  simp only[aQ,Bool.and_eq_true,decide_eq_true_eq] at h;rw[List.filter_cons];split
  ·simp only[aQ,Bool.and_eq_true,decide_eq_true_eq]
   exact⟨h.1,ik f h.2⟩
  ·exact yy (ik f h.2) (by omega)
theorem pe:∀{l:List Ob} {a:Int} (n:Nat),aQ a l=true→aQ a (l.take n)=true
 |[],_,n,_=>by rw[List.take_nil];rfl
 |x::l,a,0,_=>rfl
 |x::l,a,n+1,h=>by
  simp only[aQ,Bool.and_eq_true,decide_eq_true_eq] at h;rw[List.take_succ_cons];simp only[aQ,Bool.and_eq_true,decide_eq_true_eq];exact⟨h.1,pe n h.2⟩
theorem oY:∀{l:List Ob} {a:Int} {n:Nat} {x:Ob},aQ a l=true→l[n]?=some x→bS a (l.take n)<x.id
 |[],_,n,_,_,h=>by rw[List.getElem?_nil] at h;cases h
 |y::l,a,0,x,h,hx=>by
  simp only[aQ,Bool.and_eq_true,decide_eq_true_eq] at h;rw[List.getElem?_cons_zero] at hx;injection hx with e
  subst e;exact h.1.1
 |y::l,a,n+1,x,h,hx=>by
  simp only[aQ,Bool.and_eq_true,decide_eq_true_eq] at h;rw[List.getElem?_cons_succ] at hx;rw[List.take_succ_cons];exact oY (a:=y.id) h.2 hx
theorem pM {x:Ob} (h:x∈selO l lo hi):x∈l∧lo≤x.id∧x.id≤hi:=by
 obtain⟨f,c⟩:=List.mem_filter.1 h;simp only[Bool.and_eq_true,decide_eq_true_eq] at c;exact⟨f,c.1,c.2⟩
theorem wH (h:l≠[]) (c:∀x∈l,x.val.length≤64):1≤cq 246 l:=by
 cases l with
 |nil=>exact absurd rfl h
 |cons x l=>
  have:=c x List.mem_cons_self;rw[cq,if_pos (by omega)];omega
theorem rO:∀{l:List Ob} {a:Int},aQ a l=true→∀x∈l,a<x.id∧x.id≤255
 |[],_,_,x,hx=>by cases hx
 |y::l,a,h,x,hx=>by
  simp only[aQ,Bool.and_eq_true,decide_eq_true_eq] at h;rcases List.mem_cons.1 hx with e|e
  ·subst e
   exact⟨h.1.1,h.1.2⟩
  ·have:=rO h.2 x e
   omega
theorem Sl.Pc {s:Sl} (o:s.val) {q:Rq} (C:1≤q.code) (z:q.code≤3):(s.dev q).ok=true:=by
 unfold Sl.dev;by_cases u:s.lv=0
 ·rw [if_pos u]
  exact eS rfl (by decide) (by decide)
 ·rw [if_neg u]
  have G:=o.lv;by_cases c:selO s.ag q.obj (kU q.code)=[]
  ·rw [if_pos c]
   exact eS rfl (by decide) (by decide)
  ·rw [if_neg c]
   have f:=ik (fun x=>decide (q.obj≤x.id)&&decide (x.id≤kU q.code)) (o.ri (by omega));have j:∀x∈selO s.ag q.obj (kU q.code),x.val.length≤64:=fun x g=>by
    obtain⟨i,hi⟩:=List.getElem?_of_mem (pM g).1;exact o.vl (by omega) i x hi
   have I:=wH c j;change aQ (-1) (selO s.ag q.obj (kU q.code))=true at f;generalize selO s.ag q.obj (kU q.code)=l at*;have v:=m4 l 246;have t:0≤gv l (cq 246 l)∧gv l (cq 246 l)≤255:=by
    unfold gv;cases e:l[cq 246 l]? with
    |none=>exact⟨Int.le_refl _,by decide⟩
    |some x=>
     have:=rO f x (List.mem_of_getElem? e);exact⟨by show 0≤x.id;omega,this.2⟩
   unfold Rp.ok Rp.lC MT eh;dsimp only;have m:(if decide (cq 246 l<l.length)=true then !(l.take (cq 246 l)).isEmpty&&decide (bS (-1) (l.take (cq 246 l))<gv l (cq 246 l)) else gv l (cq 246 l)==0)=true:=by
    by_cases e:cq 246 l<l.length
    ·rw [if_pos (decide_eq_true e)]
     obtain⟨x,g⟩:∃x,l[cq 246 l]?=some x:=⟨_,List.getElem?_eq_getElem e⟩
     have F:=oY f g;have B:gv l (cq 246 l)=x.id:=by unfold gv;rw[g]
     rw[B,decide_eq_true F];cases l with
     |nil=>exact absurd rfl c
     |cons y l=>
      obtain⟨n,A⟩:∃n,cq 246 (y::l)=n+1:=⟨cq 246 (y::l)-1,by omega⟩
      rw[A];rfl
    ·rw [if_neg (by rw[decide_eq_false e];decide)]
     have:gv l (cq 246 l)=0:=by unfold gv;rw[List.getElem?_eq_none (by omega)]
     rw[this];rfl
   rw[m,if_pos rfl,if_pos rfl,decide_eq_true C,decide_eq_true z,decide_eq_true (show 1≤s.lv by omega),decide_eq_true (show s.lv≤3 by omega),decide_eq_true t.1,decide_eq_true t.2,pe _ f,decide_eq_true v];rfl
theorem iP.ji {t:iP} {q:Rq} (u:q.ok=true) (f:1≤q.fn) (g:q.fn≤4) (v:Int):(t.cC q v).ok=true:=by
 have i:aR q.fn=true:=by unfold aR jW;rw[decide_eq_true f,decide_eq_true g];rfl
 have x:=jt u;have c:q.aF≤cN q.fn∧1≤q.aF:=by rcases x with h|h|h<;>omega
 unfold iP.cC;by_cases s:t.sup=false
 ·rw [if_pos s]
  exact eS i (by decide) (by decide)
 rw[if_neg s];by_cases j:t.al<q.aF
 ·rw [if_pos j]
  exact eS i (by decide) (by decide)
 rw[if_neg j];by_cases o:kG t.rd q.addr q.aF.toNat=false
 ·rw [if_pos o]
  exact eS i (by decide) (by decide)
 rw[if_neg o];unfold cN at c;by_cases m:q.fn≤2
 ·rw [if_pos m]
  rw[if_pos (by omega)] at c;refine BR f g ?_ ?_
  ·rw [bI];omega
  ·rw [bI];omega
 ·rw [if_neg m]
  rw[if_neg (by omega),if_pos (by omega)] at c;refine BR f g ?_ ?_
  ·rw [jQ];omega
  ·rw [jQ];omega
theorem Sl.ji {s:Sl} (f:s.val) {q:Rq} (j:q.ok=true) (v:Int):(s.cC q v).ok=true:=by
 unfold Sl.cC;have c:=jt j;by_cases o:q.fn=43
 ·rw [if_pos o]
  exact Sl.Pc f (by rcases c with h|h|h<;>omega) (by rcases c with h|h|h<;>omega)
 rw[if_neg o];by_cases i:q.fn=17
 ·rw [if_pos i]
  unfold Sl.nY;by_cases g:s.hs=true
  ·rw [if_pos g]
   have t:=f.sv.1 g;have u:=f.sl;unfold Rp.ok jR;dsimp only;rw[if_pos rfl,if_neg (by decide),if_pos rfl,decide_eq_true (show 1≤s.sd.length by omega),decide_eq_true (show s.sd.length≤251 by omega)];rfl
  ·rw [if_neg g]
   exact eS rfl (by decide) (by decide)
 rw[if_neg i];have m:1≤q.fn∧q.fn≤4:=by rcases c with h|h|h<;>omega
 exact iP.ji j m.1 m.2 v
theorem Sl.Hg {s:Sl} {q:Rq} (v:Int):(s.cC q v).fn=q.fn:=by
 unfold Sl.cC Sl.dev Sl.nY iP.cC jR
 repeat' split
 all_goals first|rfl|(dsimp only;omega)
theorem step_storeW {P:Program} {ops:Array Oper} {op:Oper} {a:Act} {K:Act→World→Prop} {Q:Exit→Act→World→Prop} (m:op.guard=none) (ty:TypeId) (x y:Operand) (g:op.op=.store ty x y)
  (p o:Nat) (old:Array Value) (t:TypeId) (cells:Array Value) (v:a.eval x=.pointer (some ⟨p,o,none⟩)) (q:a.eval y=.agg cells)
  (c:w.heap[p]?=some (.cells old t (0,0))) (f:o+cells.size≤old.size) (hi:(P.info? ty).map (·.size)=some cells.size) (u:cells.toList.all (·.oneCell')=true)
  (h:∀w',w'.heap[p]?=some (.cells (old.toList.take o++cells.toList++old.toList.drop (o+cells.toList.length)).toArray t (0,0))→Keeps (· =p) w w'→w'.heap.size=w.heap.size→K (a.put op.dst undef) w'):
  if Region.wanted op (yielded ops a.tmps)=true then Oper.wp P op a w K Q else E:=by
 rw[if_pos (by simp [Region.wanted,m])];refine wp_store_mid ty x y g p o cells v q (fun j z=>?_) hi (by rw[←Array.all_toList];exact u) ?_
 ·refine ⟨?_,hpFree c _⟩
  rw[hpCell c];simp;omega
 ·obtain ⟨i,s⟩:=il p cells.toList o w
  exact h _ (iw p t (0,0) cells.toList o w old c (by simpa using f)) i s
def br (w:World) (rp:Rp) (r:Ending) (w':World):Prop:=
 ∃da dc oa oc,r=U (.agg #[J M rp.fn,J M rp.ar,.slice da rp.data.length dc,J M rp.code,J M rp.level,.bool rp.more,J M rp.next,.slice oa rp.ag.length oc])∧(∀W,ay w.heap.size w' W→dG W rp da dc oa oc)∧Below w.heap.size w w'
theorem aW.rep (h:aW w fn e D r w'):br w (jR fn e D) r w':=by
 obtain⟨da,dc,rfl,-,c,f⟩:=h;exact⟨da,dc,none,0,rfl,fun W g=>⟨Bs.own (di c (Nat.le_refl _) g),cY.nil W,(by show (0:Int)≤_;decide),(by show _≤(0:Int);decide)⟩,f⟩
theorem Io (f:∀x,L[n]?=some x→nx=x.id) (c:L.length≤n→nx=0):nx=gv L n:=by
 unfold gv;cases e:L[n]? with
 |none=>exact c (List.getElem?_eq_none_iff.1 e)
 |some x=>exact f x e
theorem LA.rep {s:Sl} (v:0≤s.lv∧s.lv≤3) (h:LA w s co L r w'):br w ⟨43,0,[],co,s.lv,decide (cq 246 L<L.length),gv L (cq 246 L),L.take (cq 246 L)⟩ r w':=by
 obtain⟨n,oa,oc,nx,u,t,o,m,c,rfl,g,i⟩:=h;have c:n=cq 246 L:=c;subst c;have j:=Io o m;subst j;have f:(L.take (cq 246 L)).length=cq 246 L:=by rw[List.length_take];omega
 refine⟨none,0,oa,oc,by unfold hJ;rw[f];rfl,fun W q=>⟨Bs.nil _,?_,(by show s.lv≤_;omega),(by show _≤s.lv;omega)⟩,i⟩;show cY W (.slice oa (L.take (cq 246 L)).length oc) _;rw[f];exact g W q
theorem oJ {s:Sl} (g:0≤s.lv∧s.lv≤3) {q:Rq} (h:(s.lv=0∧aW w 43 1 [] r w')∨(¬s.lv=0∧Oh w s q.code (selO s.ag q.obj (kU q.code)) r w')):br w (s.dev q) r w':=by
 unfold Sl.dev;rcases h with⟨c,h⟩|⟨c,h⟩
 ·rw [if_pos c]
  exact h.rep
 ·rw [if_neg c]
  rcases h with⟨f,h⟩|⟨f,h⟩
  ·rw [if_pos f]
   exact h.rep
  ·rw [if_neg f]
   exact h.rep g
theorem br.stored {rp:Rp} (i:∀W,ay w5.heap.size w' W→dG W rp da dc oa oc) (f:Below w5.heap.size w5 w') (c:Below w.heap.size w w5) (m:w.heap.size≤zb) (q:zb<w5.heap.size) (g:Keeps (· =zb) w' w8):
  br w rp (U (.agg #[J M rp.fn,J M rp.ar,.slice da rp.data.length dc,J M rp.code,J M rp.level,.bool rp.more,J M rp.next,.slice oa rp.ag.length oc])) w8:=
 ⟨da,dc,oa,oc,rfl,fun W o=>i W ((ay.dg g (fun k e=>by omega)).trans (o.mono c.size)),(bt c f (Nat.le_refl _)).trans (g.below (by have:=c.size;have:=f.size;omega) (fun j s e=>by omega))⟩
theorem Sl.Br {s:Sl} {q:Rq} (c:q.fn=(k:Int)+1) (f:k<4) (x:Int):s.cC q x=(s.ts k).cC q x:=by
 unfold Sl.cC;rw[if_neg (by omega),if_neg (by omega),c];congr 2;omega
theorem iP.Fg (t:iP) (q:Rq) (x:Int):t.cC q x=jR q.fn (t.cC q x).ar (t.cC q x).data:=by
 unfold iP.cC;split
 ·rfl
 ·split
  ·rfl
  ·split<;>rfl
theorem Sl.AQ {s:Sl} {q:Rq} (c:q.fn=43) (x:Int):s.cC q x=s.dev q:=by unfold Sl.cC;rw[if_pos c]
theorem Sl.Bx {s:Sl} {q:Rq} (c:q.fn=17) (x:Int):s.cC q x=s.nY:=by unfold Sl.cC;rw[if_neg (by omega),if_pos c]
theorem oX {q:Rq} (h:q.ok=true):(1≤q.fn∧q.fn≤4)∨q.fn=17∨(q.fn=43∧1≤q.code∧q.code≤3):=by
 rcases jt h with h|h|h<;>omega
theorem BI {w3:World} {s:Sl} (hs:s.hs=true) (c:w5.ownsRow w3.heap.size 5 1 (.slice da s.sd.length dc) s.sd.length (u8s s.sd)) (i:Below w3.heap.size w3 w5) (g:Below w.heap.size w w3) (f:w.heap.size≤zb) (m:zb<w3.heap.size) (j:Keeps (· =zb) w5 w8):
  br w s.nY (U (.agg #[J M 17,J M 0,.slice da s.sd.length dc,J M 0,J M 0,.bool false,J M 0,.slice none 0 0])) w8:=by
 unfold Sl.nY;rw[if_pos hs];exact br.stored (rp:=jR 17 0 s.sd) (da:=da) (dc:=dc) (oa:=none) (oc:=0) (fun W o=>⟨Bs.own (di c (Nat.le_refl _) o),cY.nil W,(by show (0:Int)≤_;decide),(by show _≤(0:Int);decide)⟩) i g f m j
theorem isTableQ_any (f:Int) (w:World):Calls Tryz.prog 154 #[J M f] w fun r w'=>r=U (.bool (jW f))∧w=w':=by
 obtain⟨V,c⟩:=gE (jW f);rw[c];unfold jW at c;by_cases g:1≤f
 ·have d1:decide (1≤f)=true:=decide_eq_true g
  rw[d1,Bool.true_and] at c;have i:=hid c;clear c;go_enter Tryz.func154,Tryz.ntmps154;go_wp2;go_ret;exact⟨ret_bool i.out,rfl⟩
 ·have d1:decide (1≤f)=false:=decide_eq_false g
  rw[d1,Bool.false_and] at c;subst c;go_enter Tryz.func154,Tryz.ntmps154;go_wp2;go_ret;exact⟨rfl,rfl⟩
theorem ve (h:p:=by
 subst e
 rcases hf with rfl|rfl|rfl|rfl
 all_goals
  go_enter Tryz.func121,Tryz.ntmps121
  go_wp2_with (go_at_call 154;(with_reducible refine(isTableQ_any _ _).mono ?_);rintro r wi ⟨rfl,rfl⟩);go_quiet ((go_at_call 155;exact Calls.quiet_of_same ((HLM.out _).mono fun _ _ h=>⟨h.1,h.2.symm⟩)));go_wp2;go_ret
  exact⟨rfl,below_drewN (HB.out _) _⟩):p:=h
theorem wY (f a q c o:Int) (x:1≤f) (z:f≤4) (w:World):
  Calls Tryz.prog 121 #[.agg #[J M f,J M a,J M q,J M c,J M o]] w fun r w'=>r=U (.bool (Rq.ok ⟨f,a,q,c,o⟩))∧Below w.heap.size w w':=by
 obtain⟨L,u⟩:=gE (cN f);have A:L≤2000:=by rw[←u];exact(lT f).2
 have HLM:Hid (∀W,Calls Tryz.prog 155 #[J M f] W fun r w'=>r=U (J M L)∧W=w'):=fun W=>by rw[←u];exact gJ f W
 obtain⟨V,g⟩:∃V,Rq.ok ⟨f,a,q,c,o⟩=V:=⟨_,rfl⟩
 rw[g];unfold Rq.ok at g;rw[if_pos ⟨x,z⟩] at g;simp only at g;rw[u] at g;replace g:=hid g;have s:1≤q→q≤L→IntKind.i64.wrap (65536-q)=65536-q:=fun _ _=>IntWalk.i64_in _ (by omega)
 have HB:Hid (∀X,Below w.heap.size w (w.alloc X)):=fun X=>bal' w X
 have hf:=(show f=1∨f=2∨f=3∨f=4 by omega)
 clear u x z;rcases (show ¬0≤a∨(0≤a∧¬1≤q)∨(0≤a∧1≤q∧¬q≤L)∨(0≤a∧1≤q∧q≤L∧¬a≤65536-q)∨(0≤a∧1≤q∧q≤L∧a≤65536-q∧¬c=0)∨(0≤a∧1≤q∧q≤L∧a≤65536-q∧c=0) by omega) with j|⟨j,i⟩|⟨j,i,m⟩|⟨j,i,m,t⟩|⟨j,i,m,t,v⟩|⟨j,i,m,t,v⟩
 ·have d1:decide (0≤a)=false:=decide_eq_false j
  have e:V=false:=by rw[←g.out,d1];simp
  clear g s j;exact ve
 ·have d1:decide (0≤a)=true:=decide_eq_true j
  have d2:decide (1≤q)=false:=decide_eq_false i;have e:V=false:=by rw[←g.out,d2];simp
  clear g s j i;exact ve
 ·have d1:decide (0≤a)=true:=decide_eq_true j
  have d2:decide (1≤q)=true:=decide_eq_true i;have d3:decide (q≤L)=false:=decide_eq_false m;have e:V=false:=by rw[←g.out,d3];simp
  clear g s j i m;exact ve
 ·have d1:decide (0≤a)=true:=decide_eq_true j
  have d2:decide (1≤q)=true:=decide_eq_true i;have d3:decide (q≤L)=true:=decide_eq_true m;have d4:decide (a≤65536-q)=false:=decide_eq_false t;have y:=s i m;have e:V=false:=by rw[←g.out,d4];simp
  clear g s j i m t;exact ve
 ·have d1:decide (0≤a)=true:=decide_eq_true j
  have d2:decide (1≤q)=true:=decide_eq_true i;have d3:decide (q≤L)=true:=decide_eq_true m;have d4:decide (a≤65536-q)=true:=decide_eq_true t;have d5:(c==0)=false:=by simpa using v
  have y:=s i m;have e:V=false:=by rw[←g.out,d5];simp
  clear g s j i m t v;exact ve
 ·subst v
  have d1:decide (0≤a)=true:=decide_eq_true j;have d2:decide (1≤q)=true:=decide_eq_true i;have d3:decide (q≤L)=true:=decide_eq_true m;have d4:decide (a≤65536-q)=true:=decide_eq_true t;have y:=s i m;have e:(o==0)=V:=by rw[←g.out,d1,d2,d3,d4];simp
  have B:=hid e;clear g s j i m t e;rcases hf with rfl|rfl|rfl|rfl
  all_goals
   go_enter Tryz.func121,Tryz.ntmps121;go_wp2_with (go_at_call 154;(with_reducible refine(isTableQ_any _ _).mono ?_);rintro r wi ⟨rfl,rfl⟩);go_quiet ((go_at_call 155;exact Calls.quiet_of_same ((HLM.out _).mono fun _ _ h=>⟨h.1,h.2.symm⟩)));go_wp2;go_ret;exact⟨ret_bool B.out,below_drewN (HB.out _) _⟩
theorem b9 (f a q c o:Int) (w:World):
  Calls Tryz.prog 121 #[.agg #[J M f,J M a,J M q,J M c,J M o]] w fun r w'=>r=U (.bool (Rq.ok ⟨f,a,q,c,o⟩))∧Below w.heap.size w w':=by
 by_cases h:1≤f∧f≤4
 ·exact wY f a q c o h.1 h.2 w
 ·obtain ⟨V,g⟩:∃V,Rq.ok ⟨f,a,q,c,o⟩=V:=⟨_,rfl⟩
  rw[g];unfold Rq.ok at g;rw[if_neg h] at g;simp only at g;have j:Hid (∀X,Below w.heap.size w (w.alloc X)):=fun X=>bal' w X
  by_cases i:f=17
  ·subst i
   rw[if_pos rfl] at g;replace g:=hid g;clear h;go_enter Tryz.func121,Tryz.ntmps121;go_wp2_with (go_at_call 154;(with_reducible refine(isTableQ_any _ _).mono ?_);rintro r s ⟨rfl,rfl⟩)
   all_goals
    go_ret;refine⟨ret_bool ?_,j.out _⟩;rw[←g.out]
    first|rfl|(rw[Bool.eq_iff_iff];simp;done)|(rw[Bool.eq_iff_iff];simp;omega)
  ·rw [if_neg i] at g
   by_cases m:f=43
   ·subst m
    rw[if_pos rfl] at g;replace g:=hid g;clear h i;go_enter Tryz.func121,Tryz.ntmps121;go_wp2_with (go_at_call 154;(with_reducible refine(isTableQ_any _ _).mono ?_);rintro r s ⟨rfl,rfl⟩)
    all_goals
     go_ret;refine⟨ret_bool ?_,j.out _⟩;rw[←g.out]
     first|rfl|(rw[Bool.eq_iff_iff];simp [*];done)|(rw[Bool.eq_iff_iff];simp;omega)
   ·rw [if_neg m] at g
    subst g;have u:(f==1)=false:=by rw[beq_eq_false_iff_ne];omega
    have x:(f==2)=false:=by rw[beq_eq_false_iff_ne];omega
    have z:(f==3)=false:=by rw[beq_eq_false_iff_ne];omega
    have A:(f==4)=false:=by rw[beq_eq_false_iff_ne];omega
    have t:(f==17)=false:=by rw[beq_eq_false_iff_ne];omega
    have y:(f==43)=false:=by rw[beq_eq_false_iff_ne];omega
    have v:jW f=false:=by
     unfold jW;cases hx:(decide (1≤f)&&decide (f≤4)) with
     |false=>rfl
     |true=>simp at hx;omega
    clear h i m;go_enter Tryz.func121,Tryz.ntmps121;go_wp2_with (go_at_call 154;(with_reducible refine(isTableQ_any _ _).mono ?_);rintro r s ⟨rfl,rfl⟩);go_ret;exact⟨rfl,j.out _⟩
def Rq.bE (q:Rq):List UInt8:=
 if q.fn=17 then [17] else if q.fn=43 then [43,14,byteI q.code,byteI q.obj] else [byteI q.fn,byteI (q.addr/256),byteI (q.addr%256),byteI (q.aF/256),byteI (q.aF%256)]
theorem Rq.lF (q:Rq):1≤q.bE.length∧q.bE.length≤5:=by
 unfold Rq.bE;split
 ·simp
 ·split<;>simp
theorem Bs.PM (w:World) (l:List UInt8) (A:Array Value) (T:TypeId) (h:A=(u8s l).toArray) (c:l.length≤1000):Bs (w.alloc (.cells A T)) (.slice (some ⟨w.heap.size,0,none⟩) l.length l.length) l:=by
 refine Bs.mk (Nat.le_refl _) (by unfold maxLen;omega) (fun i hi=>?_);rw[hpCell (hpNew w _),h];simp only[Nat.zero_add,List.getElem?_toArray];exact gW l i hi
def qy (w:World) (l:List UInt8) (r:Ending) (w':World):Prop:=
 ∃(a:Option Addr) (c:Nat),r=U (.tuple #[.slice a l.length c,J M 0])∧(∀W,ay w.heap.size w' W→Bs W (.slice a l.length c) l)∧Below w.heap.size w w'
theorem qy.lit {l:List UInt8} {A:Array Value} {T:TypeId} (c:Below w.heap.size w wx) (h:A=(u8s l).toArray) (g:l.length≤1000) (i:n=l.length):
  qy w l (U (.tuple #[.slice (some ⟨wx.heap.size,0,none⟩) n n,J M 0])) (wx.alloc (.cells A T)):=by
 subst i;exact⟨_,_,rfl,fun W j=>(Bs.PM wx l A T h g).kj (fun m f=>by cases f;exact c.size) j,bta c (Nat.le_refl _) _⟩
theorem C2 (f a q c o:Int) (i:Rq.ok ⟨f,a,q,c,o⟩=true) (w:World):
  Calls Tryz.prog 122 #[.agg #[J M f,J M a,J M q,J M c,J M o]] w (qy w (Rq.bE ⟨f,a,q,c,o⟩)):=by
 have t:Hid (∀W,Calls Tryz.prog 121 #[.agg #[J M f,J M a,J M q,J M c,J M o]] W fun r w'=>r=U (.bool true)∧Below W.heap.size W w'):=fun W=>by rw[←i];exact b9 f a q c o W
 have j:f=17∨f=43∨(1≤f∧f≤4):=by
  unfold Rq.ok at i;simp only at i
  repeat' split at i
  all_goals first|omega|cases i
 rcases j with rfl|rfl|j
 ·go_enter Tryz.func122,Tryz.ntmps122
  go_wp2_with (go_at_call 121;(with_reducible refine(t.out _).mono ?_);rintro r w1 ⟨rfl,g⟩;have y0:=hpCell (hpKeep (hpNew w _) g) 0);go_ret2;exact qy.lit (l:=[17]) (bt (bal' w _) g (Nat.le_refl _)) rfl (by decide) rfl
 ·have m:1≤c∧c≤3∧0≤o∧o≤255:=by
   unfold Rq.ok at i;simp at i;omega
  obtain⟨R,K,B,z⟩:=m;have u:Hid (Rq.bE ⟨43,a,q,c,o⟩=[43,14,byteI c,byteI o]):=rfl;have s:Hid ((#[J .u8 43,J .u8 14,J .u8 c,J .u8 o]:Array Value)=(u8s [43,14,byteI c,byteI o]).toArray):=by
   show _=_;simp only[u8s,bD,List.map_cons,List.map_nil];rw[au (by omega) (by omega),au B z];rfl
  clear i;go_enter Tryz.func122,Tryz.ntmps122;go_wp2_with (go_at_call 121;(with_reducible refine(t.out _).mono ?_);rintro r w1 ⟨rfl,g⟩;have y0:=hpCell (hpKeep (hpNew w _) g) 0;have I:=hpCell (hpKeep (hpNew w _) g) 3;have P:=hpCell (hpKeep (hpNew w _) g) 4);go_ret2;rw[u.out];exact qy.lit (bt (bal' w _) g (Nat.le_refl _)) s.out (by simp) rfl
 ·have m:0≤a∧a≤65535∧1≤q∧q≤2000:=by
   unfold Rq.ok at i;simp only at i;rw[if_pos j] at i;simp at i;have:=(lT f).2;omega
  obtain⟨F,C,A,S⟩:=m;have x:¬f=17:=by omega
  have v:¬f=43:=by omega
  have u:Hid (Rq.bE ⟨f,a,q,c,o⟩=[byteI f,byteI (a/256),byteI (a%256),byteI (q/256),byteI (q%256)]):=by
   show _=_;unfold Rq.bE;rw[if_neg x,if_neg v]
  have s:Hid ((#[J .u8 f,J .u8 (a/256),J .u8 (a%256),J .u8 (q/256),J .u8 (q%256)]:Array Value)=(u8s [byteI f,byteI (a/256),byteI (a%256),byteI (q/256),byteI (q%256)]).toArray):=by
   show _=_;simp only[u8s,bD,List.map_cons,List.map_nil];rw[au (by omega) (by omega),au (by omega) (by omega),au (by omega) (by omega),au (by omega) (by omega),au (by omega) (by omega)]
  have G:(f==17)=false:=by rw[beq_eq_false_iff_ne];omega
  have O:(f==43)=false:=by rw[beq_eq_false_iff_ne];omega
  obtain⟨Q,y⟩:=j;clear i x v;go_enter Tryz.func122,Tryz.ntmps122;go_wp2_with (go_at_call 121;(with_reducible refine(t.out _).mono ?_);rintro r w1 ⟨rfl,g⟩;have y0:=hpCell (hpKeep (hpNew w _) g) 0;have V:=hpCell (hpKeep (hpNew w _) g) 1;have T:=hpCell (hpKeep (hpNew w _) g) 2);go_ret2;rw[u.out];refine qy.lit (bt (bal' w _) g (Nat.le_refl _)) ?_ (by simp) rfl;rw[←s.out]
def nJ (f:Int):Nat:=if 1≤f∧f≤4 then 5 else if f=17 then 1 else if f=43 then 4 else 0
def gf (b:List UInt8):Rq:=
 if 1≤aI b 0∧aI b 0≤4 then ⟨aI b 0,aI b 1*256+aI b 2,aI b 3*256+aI b 4,0,0⟩
 else if aI b 0=43 then ⟨43,0,0,aI b 2,aI b 3⟩ else ⟨aI b 0,0,0,0,0⟩
def ek (b:List UInt8):Option Rq:=
 if b.length=0∨nJ (aI b 0)=0∨b.length≠nJ (aI b 0)∨(aI b 0=43∧aI b 1≠14)∨(gf b).ok=false then none else some (gf b)
theorem Fu {q:Rq} (h:ek b=some q):q.ok=true:=by
 unfold ek at h;split at h
 ·cases h
 ·rename_i e
  injection h with h
  subst h;cases hk:(gf b).ok with
  |true=>rfl
  |false=>exact absurd (.inr (.inr (.inr (.inr hk)))) e
theorem DK {q:Rq} (h:q.ok=true):ek q.bE=some q:=by
 obtain⟨f,a,n,c,o⟩:=q;have s:=h;unfold Rq.ok at h;dsimp only at h;by_cases g:1≤f∧f≤4
 ·rw [if_pos g] at h
  simp only[Bool.and_eq_true,decide_eq_true_eq,beq_iff_eq] at h;obtain⟨⟨⟨⟨⟨x,v⟩,u⟩,z⟩,rfl⟩,rfl⟩:=h;have A:cN f≤2000:=(lT f).2;have j:Rq.bE ⟨f,a,n,0,0⟩=[byteI f,byteI (a/256),byteI (a%256),byteI (n/256),byteI (n%256)]:=by
   unfold Rq.bE;rw[if_neg (by dsimp only;omega),if_neg (by dsimp only;omega)]
  rw[j];have b0:aI [byteI f,byteI (a/256),byteI (a%256),byteI (n/256),byteI (n%256)] 0=f:=au (by omega) (by omega);have b1:aI [byteI f,byteI (a/256),byteI (a%256),byteI (n/256),byteI (n%256)] 1=a/256:=au (by omega) (by omega);have b2:aI [byteI f,byteI (a/256),byteI (a%256),byteI (n/256),byteI (n%256)] 2=a%256:=au (by omega) (by omega);have b3:aI [byteI f,byteI (a/256),byteI (a%256),byteI (n/256),byteI (n%256)] 3=n/256:=au (by omega) (by omega);have y:aI [byteI f,byteI (a/256),byteI (a%256),byteI (n/256),byteI (n%256)] 4=n%256:=au (by omega) (by omega);have i:gf [byteI f,byteI (a/256),byteI (a%256),byteI (n/256),byteI (n%256)]=⟨f,a,n,0,0⟩:=by
   unfold gf;rw[b0,b1,b2,b3,y,if_pos g,show a/256*256+a%256=a by omega,show n/256*256+n%256=n by omega]
  unfold ek;rw[b0,i,show nJ f=5 from if_pos g,if_neg];rintro (e|e|e|e|e)
  ·exact absurd e (by simp)
  ·exact absurd e (by decide)
  ·exact e rfl
  ·omega
  ·rw [s] at e;cases e
 ·rw [if_neg g] at h
  by_cases m:f=17
  ·subst m
   rw[if_pos rfl] at h;simp only[Bool.and_eq_true,beq_iff_eq] at h;obtain⟨⟨⟨rfl,rfl⟩,rfl⟩,rfl⟩:=h;rfl
  ·rw [if_neg m] at h
   by_cases t:f=43
   ·subst t
    rw[if_pos rfl] at h;simp only[Bool.and_eq_true,decide_eq_true_eq,beq_iff_eq] at h;obtain⟨⟨⟨⟨⟨rfl,rfl⟩,x⟩,v⟩,u⟩,z⟩:=h;have j:Rq.bE ⟨43,0,0,c,o⟩=[43,14,byteI c,byteI o]:=rfl;rw[j];have b2:aI [43,14,byteI c,byteI o] 2=c:=au (by omega) (by omega);have b3:aI [43,14,byteI c,byteI o] 3=o:=au (by omega) (by omega);have i:gf [43,14,byteI c,byteI o]=⟨43,0,0,c,o⟩:=by
     show (⟨43,0,0,aI [43,14,byteI c,byteI o] 2,aI [43,14,byteI c,byteI o] 3⟩:Rq)=_;rw[b2,b3]
    unfold ek;rw[i,if_neg];rintro (e|e|e|e|e)
    ·exact absurd e (by simp)
    ·exact absurd (show (4:Nat)=0 from e) (by decide)
    ·exact e rfl
    ·exact e.2 rfl
    ·rw [s] at e;cases e
   ·rw [if_neg t] at h
    cases h
theorem DS:∀(j:Fin 8) (m:Fin 128) (b:Fin 2),m.val<2^j.val→bits .or .u8 ((m.val:Nat):Int) (((b.val*2^j.val:Nat):Nat):Int)=((m.val+b.val*2^j.val:Nat):Int):=by decide+kernel
theorem Lj {m b j:Nat} (f:j<8) (hm:m<2^j) (c:b<2):bits .or .u8 (m:Int) ((b:Int)%256*2^j%256)=((m+b*2^j:Nat):Int):=by
 have i:2^j≤2^7:=Nat.pow_le_pow_right (by decide) (by omega);have h:=DS ⟨j,f⟩ ⟨m,by omega⟩ ⟨b,c⟩ hm;have g:((b:Int)%256*2^j%256)=((b*2^j:Nat):Int):=by
  have:b*2^j<256:=by
   rcases (show b=0∨b=1 by omega) with rfl|rfl
   ·omega
   ·omega
  rw[Int.emod_eq_of_lt (a:=(b:Int)) (by omega) (by omega)];rw[show ((2:Int)^j)=((2^j:Nat):Int) by simp,←Int.natCast_mul];exact Int.emod_eq_of_lt (by omega) (by omega)
 rw[g];exact h
theorem wy (n:Int) (i:0≤n) (g:n<65536):bits .and .i64 n 1=n%2:=by
 show IntKind.wrap .i64 ((((BitVec.ofInt 64 n)&&&(BitVec.ofInt 64 1)).toNat:Nat):Int)=_;have f:(BitVec.ofInt 64 n).toNat=n.toNat:=by rw[BitVec.toNat_ofInt];omega
 have c:(BitVec.ofInt 64 1).toNat=1:=by decide
 rw[BitVec.toNat_and,f,c,Nat.and_one_is_mod,IntWalk.i64_in _ (by omega)];omega
theorem LR:∀n:Fin 256,bits .xor .u8 ((n.val:Nat):Int) 255=(((n.val^^^255:Nat)):Int):=by decide+kernel
theorem Et (x:UInt8):Value.int .u8 (bits .xor .u8 ((x.toNat:Nat):Int) 255)=bD (x^^^255):=by
 rw[LR ⟨x.toNat,x.toNat_lt⟩];unfold bD;rw[UInt8.toNat_xor];rfl
theorem Bk (a b:Int) (a0:0≤a) (a1:a<256) (b0:0≤b) (b1:b<256):bits .or .i64 (a*256) b=a*256+b:=by
 obtain⟨m,rfl⟩:∃m:Nat,a=(m:Int):=⟨a.toNat,by omega⟩
 obtain⟨k,rfl⟩:∃k:Nat,b=(k:Int):=⟨b.toNat,by omega⟩
 show IntKind.wrap .i64 ((((BitVec.ofInt 64 ((m:Int)*256))|||(BitVec.ofInt 64 (k:Int))).toNat:Nat):Int)=_;have f:(BitVec.ofInt 64 ((m:Int)*256)).toNat=m*2^8:=by rw[BitVec.toNat_ofInt];omega
 have c:(BitVec.ofInt 64 (k:Int)).toNat=k:=by rw[BitVec.toNat_ofInt];omega
 have g:m*2^8|||k=m*2^8+k:=by
  have:=Nat.shiftLeft_add_eq_or_of_lt (b:=k) (i:=8) (by omega) m;rw[Nat.shiftLeft_eq] at this;exact this.symm
 rw[BitVec.toNat_or,f,c,g,IntWalk.i64_in _ (by omega)];omega
theorem Bf {t v n:Int} (h:k/8<N) (i:n=eo t (a+(k:Nat)) v):
  Value.int .u8 (bits .or .u8 ((((bL t a v N k)[k/8]?.getD 0).toNat:Nat):Int) (bits .and .i64 n 1%256*2^(k%8)%256))=bD (UInt8.ofNat (iB t a v (k/8) (k%8)+iQ t a v k*2^(k%8))):=by
 have o:=wI t (a+(k:Nat)) v;have hw:=oK t a v (k/8) (k%8);have q:2^(k%8)≤2^7:=Nat.pow_le_pow_right (by decide) (by omega);have f:=AJ t a v k;rw[mE h,wy n (by omega) (by omega)];have m:(UInt8.ofNat (iB t a v (k/8) (k%8))).toNat=iB t a v (k/8) (k%8):=by rw[UInt8.toNat_ofNat'];exact Nat.mod_eq_of_lt (by omega)
 have c:n%2=((iQ t a v k:Nat):Int):=by unfold iQ;rw[←i];omega
 have g:=Lj (j:=k%8) (by omega) hw f;show Value.int .u8 (bits .or .u8 (((UInt8.ofNat (iB t a v (k/8) (k%8))).toNat:Nat):Int) (n%2%256*2^(k%8)%256))=_;rw[m,c,g];unfold bD;rw[UInt8.toNat_ofNat'];congr 1;have:iB t a v (k/8) (k%8)+iQ t a v k*2^(k%8)<256:=by
  rcases (show iQ t a v k=0∨iQ t a v k=1 by omega) with e|e<;>rw[e]<;>omega
 omega
