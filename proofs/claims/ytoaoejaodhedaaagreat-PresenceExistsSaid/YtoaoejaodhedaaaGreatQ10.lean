import Derived.Test.YtoaoejaodhedaaaGreatQ06
namespace Go.Proofs.YtoaoejaodhedaaaGreat
open Go.RowKit
set_option maxHeartbeats 3200000
set_option maxRecDepth 100000
def nxtId (l:List Ob) (n:Nat):Int:=match l[n]? with|some x=>x.id|none=>0
def Sl.dev (s:Sl) (q:Rq):Rp:=
 if s.lv=0 then mkR 43 1 [] else if selO s.objs q.obj (grI q.code)=[] then mkR 43 2 []
 else ⟨43,0,[],q.code,s.lv,decide (fitN 246 (selO s.objs q.obj (grI q.code))<(selO s.objs q.obj (grI q.code)).length),nxtId (selO s.objs q.obj (grI q.code)) (fitN 246 (selO s.objs q.obj (grI q.code))),(selO s.objs q.obj (grI q.code)).take (fitN 246 (selO s.objs q.obj (grI q.code)))⟩
def Sl.srvA (s:Sl):Rp:=if s.hs=true then mkR 17 0 s.sd else mkR 17 1 []
def Sl.ans (s:Sl) (q:Rq) (v:Int):Rp:=if q.fn=43 then s.dev q else if q.fn=17 then s.srvA else (s.ts (q.fn-1).toNat).ans q v
theorem rq_cases {q:Rq} (h:q.ok=true):(1≤q.fn∧q.fn≤4∧0≤q.addr∧1≤q.qty∧q.qty≤limI q.fn∧q.addr≤65536-q.qty∧q.code=0∧q.obj=0)∨(q.fn=17∧q.addr=0∧q.qty=0∧q.code=0∧q.obj=0)∨(q.fn=43∧q.addr=0∧q.qty=0∧1≤q.code∧q.code≤3∧0≤q.obj∧q.obj≤255):=by
 unfold Rq.ok at h;split at h
 ·rename_i e
  simp only[Bool.and_eq_true,decide_eq_true_eq,beq_iff_eq] at h;exact .inl ⟨e.1,e.2,h.1.1.1.1.1,h.1.1.1.1.2,h.1.1.1.2,h.1.1.2,h.1.2,h.2⟩
 ·split at h
  ·rename_i e
   simp only[Bool.and_eq_true,beq_iff_eq] at h;exact .inr (.inl ⟨e,h.1.1.1,h.1.1.2,h.1.2,h.2⟩)
  ·split at h
   ·rename_i e
    simp only[Bool.and_eq_true,decide_eq_true_eq,beq_iff_eq] at h;exact .inr (.inr ⟨e,h.1.1.1.1.1,h.1.1.1.1.2,h.1.1.1.2,h.1.1.2,h.1.2,h.2⟩)
   ·cases h
theorem mkR_ok {fn e:Int} (hf:knownB fn=true) (h1:1≤e) (h2:e≤255):(mkR fn e []).ok=true:=by
 unfold Rp.ok mkR;dsimp only;rw[hf,if_neg (by omega),decide_eq_true h1,decide_eq_true h2];rfl
theorem mkR_tab {fn:Int} {d:List UInt8} (h1:1≤fn) (h4:fn≤4) (hd:1≤d.length) (hd2:d.length≤250):(mkR fn 0 d).ok=true:=by
 unfold Rp.ok mkR;dsimp only;have hf:knownB fn=true:=by unfold knownB tblB;rw[decide_eq_true h1,decide_eq_true h4];rfl
 rw[hf,if_pos rfl,if_neg (by omega),if_neg (by omega),decide_eq_true hd,decide_eq_true hd2];rfl
theorem rises_weak {a b:Int}:∀{l:List Ob},rises a l=true→b≤a→rises b l=true
 |[],_,_=>rfl
 |x::l,h,hb=>by
  simp only[rises,Bool.and_eq_true,decide_eq_true_eq] at h ⊢;exact⟨⟨by omega,h.1.2⟩,h.2⟩
theorem rises_filter (f:Ob→Bool):∀{l:List Ob} {a:Int},rises a l=true→rises a (l.filter f)=true
 |[],_,_=>rfl
 |x::l,a,h=>by
  simp only[rises,Bool.and_eq_true,decide_eq_true_eq] at h;rw[List.filter_cons];split
  ·simp only[rises,Bool.and_eq_true,decide_eq_true_eq]
   exact⟨h.1,rises_filter f h.2⟩
  ·exact rises_weak (rises_filter f h.2) (by omega)
theorem rises_take:∀{l:List Ob} {a:Int} (n:Nat),rises a l=true→rises a (l.take n)=true
 |[],_,n,_=>by rw[List.take_nil];rfl
 |x::l,a,0,_=>rfl
 |x::l,a,n+1,h=>by
  simp only[rises,Bool.and_eq_true,decide_eq_true_eq] at h;rw[List.take_succ_cons];simp only[rises,Bool.and_eq_true,decide_eq_true_eq];exact⟨h.1,rises_take n h.2⟩
theorem rises_last:∀{l:List Ob} {a:Int} {n:Nat} {x:Ob},rises a l=true→l[n]?=some x→lastId a (l.take n)<x.id
 |[],_,n,_,_,h=>by rw[List.getElem?_nil] at h;cases h
 |y::l,a,0,x,h,hx=>by
  simp only[rises,Bool.and_eq_true,decide_eq_true_eq] at h;rw[List.getElem?_cons_zero] at hx;injection hx with e
  subst e;exact h.1.1
 |y::l,a,n+1,x,h,hx=>by
  simp only[rises,Bool.and_eq_true,decide_eq_true_eq] at h;rw[List.getElem?_cons_succ] at hx;rw[List.take_succ_cons];exact rises_last (a:=y.id) h.2 hx
theorem selO_mem {l:List Ob} {lo hi:Int} {x:Ob} (h:x∈selO l lo hi):x∈l∧lo≤x.id∧x.id≤hi:=by
 obtain⟨h1,h2⟩:=List.mem_filter.1 h;simp only[Bool.and_eq_true,decide_eq_true_eq] at h2;exact⟨h1,h2.1,h2.2⟩
theorem fitN_pos {l:List Ob} (h:l≠[]) (hv:∀x∈l,x.val.length≤64):1≤fitN 246 l:=by
 cases l with
 |nil=>exact absurd rfl h
 |cons x l=>
  have:=hv x List.mem_cons_self;rw[fitN,if_pos (by omega)];omega
theorem rises_id0:∀{l:List Ob} {a:Int},rises a l=true→∀x∈l,a<x.id∧x.id≤255
 |[],_,_,x,hx=>by cases hx
 |y::l,a,h,x,hx=>by
  simp only[rises,Bool.and_eq_true,decide_eq_true_eq] at h;rcases List.mem_cons.1 hx with e|e
  ·subst e
   exact⟨h.1.1,h.1.2⟩
  ·have:=rises_id0 h.2 x e
   omega
theorem Sl.dev_ok {s:Sl} (hv:s.val) {q:Rq} (hc1:1≤q.code) (hc3:q.code≤3):(s.dev q).ok=true:=by
 unfold Sl.dev;by_cases h0:s.lv=0
 ·rw [if_pos h0]
  exact mkR_ok rfl (by decide) (by decide)
 ·rw [if_neg h0]
  have hl:=hv.lv;by_cases h1:selO s.objs q.obj (grI q.code)=[]
  ·rw [if_pos h1]
   exact mkR_ok rfl (by decide) (by decide)
  ·rw [if_neg h1]
   have hri:=rises_filter (fun x=>decide (q.obj≤x.id)&&decide (x.id≤grI q.code)) (hv.ri (by omega));have hvl:∀x∈selO s.objs q.obj (grI q.code),x.val.length≤64:=fun x hx=>by
    obtain⟨i,hi⟩:=List.getElem?_of_mem (selO_mem hx).1;exact hv.vl (by omega) i x hi
   have hp:=fitN_pos h1 hvl;change rises (-1) (selO s.objs q.obj (grI q.code))=true at hri;generalize selO s.objs q.obj (grI q.code)=l at*;have hsz:=fitN_size l 246;have hnb:0≤nxtId l (fitN 246 l)∧nxtId l (fitN 246 l)≤255:=by
    unfold nxtId;cases e:l[fitN 246 l]? with
    |none=>exact⟨Int.le_refl _,by decide⟩
    |some x=>
     have:=rises_id0 hri x (List.mem_of_getElem? e);exact⟨by show 0≤x.id;omega,this.2⟩
   unfold Rp.ok Rp.devB lvB objsB;dsimp only;have hif:(if decide (fitN 246 l<l.length)=true then !(l.take (fitN 246 l)).isEmpty&&decide (lastId (-1) (l.take (fitN 246 l))<nxtId l (fitN 246 l)) else nxtId l (fitN 246 l)==0)=true:=by
    by_cases e:fitN 246 l<l.length
    ·rw [if_pos (decide_eq_true e)]
     obtain⟨x,hx⟩:∃x,l[fitN 246 l]?=some x:=⟨_,List.getElem?_eq_getElem e⟩
     have h3:=rises_last hri hx;have h4:nxtId l (fitN 246 l)=x.id:=by unfold nxtId;rw[hx]
     rw[h4,decide_eq_true h3];cases l with
     |nil=>exact absurd rfl h1
     |cons y l=>
      obtain⟨n,hn⟩:∃n,fitN 246 (y::l)=n+1:=⟨fitN 246 (y::l)-1,by omega⟩
      rw[hn];rfl
    ·rw [if_neg (by rw[decide_eq_false e];decide)]
     have:nxtId l (fitN 246 l)=0:=by unfold nxtId;rw[List.getElem?_eq_none (by omega)]
     rw[this];rfl
   rw[hif,if_pos rfl,if_pos rfl,decide_eq_true hc1,decide_eq_true hc3,decide_eq_true (show 1≤s.lv by omega),decide_eq_true (show s.lv≤3 by omega),decide_eq_true hnb.1,decide_eq_true hnb.2,rises_take _ hri,decide_eq_true hsz];rfl
theorem Tbl.ans_ok {t:Tbl} {q:Rq} (hq:q.ok=true) (h1:1≤q.fn) (h4:q.fn≤4) (v:Int):(t.ans q v).ok=true:=by
 have hf:knownB q.fn=true:=by unfold knownB tblB;rw[decide_eq_true h1,decide_eq_true h4];rfl
 have hc:=rq_cases hq;have hlim:q.qty≤limI q.fn∧1≤q.qty:=by rcases hc with h|h|h<;>omega
 unfold Tbl.ans;by_cases e1:t.sup=false
 ·rw [if_pos e1]
  exact mkR_ok hf (by decide) (by decide)
 rw[if_neg e1];by_cases e2:t.most<q.qty
 ·rw [if_pos e2]
  exact mkR_ok hf (by decide) (by decide)
 rw[if_neg e2];by_cases e3:covB t.rd q.addr q.qty.toNat=false
 ·rw [if_pos e3]
  exact mkR_ok hf (by decide) (by decide)
 rw[if_neg e3];unfold limI at hlim;by_cases e4:q.fn≤2
 ·rw [if_pos e4]
  rw[if_pos (by omega)] at hlim;refine mkR_tab h1 h4 ?_ ?_
  ·rw [bitsL_len];omega
  ·rw [bitsL_len];omega
 ·rw [if_neg e4]
  rw[if_neg (by omega),if_pos (by omega)] at hlim;refine mkR_tab h1 h4 ?_ ?_
  ·rw [regsD_len];omega
  ·rw [regsD_len];omega
theorem Sl.ans_ok {s:Sl} (hv:s.val) {q:Rq} (hq:q.ok=true) (v:Int):(s.ans q v).ok=true:=by
 unfold Sl.ans;have hc:=rq_cases hq;by_cases e1:q.fn=43
 ·rw [if_pos e1]
  exact Sl.dev_ok hv (by rcases hc with h|h|h<;>omega) (by rcases hc with h|h|h<;>omega)
 rw[if_neg e1];by_cases e2:q.fn=17
 ·rw [if_pos e2]
  unfold Sl.srvA;by_cases e3:s.hs=true
  ·rw [if_pos e3]
   have h1:=hv.sv.1 e3;have h2:=hv.sl;unfold Rp.ok mkR;dsimp only;rw[if_pos rfl,if_neg (by decide),if_pos rfl,decide_eq_true (show 1≤s.sd.length by omega),decide_eq_true (show s.sd.length≤251 by omega)];rfl
  ·rw [if_neg e3]
   exact mkR_ok rfl (by decide) (by decide)
 rw[if_neg e2];have h3:1≤q.fn∧q.fn≤4:=by rcases hc with h|h|h<;>omega
 exact Tbl.ans_ok hq h3.1 h3.2 v
theorem Sl.ans_fn {s:Sl} {q:Rq} (v:Int):(s.ans q v).fn=q.fn:=by
 unfold Sl.ans Sl.dev Sl.srvA Tbl.ans mkR
 repeat' split
 all_goals first|rfl|(dsimp only;omega)
theorem step_storeW {P:Program} {w:World} {ops:Array Oper} {op:Oper} {a:Act} {K:Act→World→Prop} {Q:Exit→Act→World→Prop} {E:Prop} (hgd:op.guard=none) (ty:TypeId) (x y:Operand) (ho:op.op=.store ty x y)
  (p o:Nat) (old:Array Value) (t:TypeId) (cells:Array Value) (hx:a.eval x=.pointer (some ⟨p,o,none⟩)) (hy:a.eval y=.agg cells)
  (hb:w.heap[p]?=some (.cells old t (0,0))) (hsz:o+cells.size≤old.size) (hi:(P.info? ty).map (·.size)=some cells.size) (h1:cells.toList.all (·.oneCell')=true)
  (h:∀w',w'.heap[p]?=some (.cells (old.toList.take o++cells.toList++old.toList.drop (o+cells.toList.length)).toArray t (0,0))→Keeps (· =p) w w'→w'.heap.size=w.heap.size→K (a.put op.dst undef) w'):
  if Region.wanted op (yielded ops a.tmps)=true then Oper.wp P op a w K Q else E:=by
 rw[if_pos (by simp [Region.wanted,hgd])];refine wp_store_mid ty x y ho p o cells hx hy (fun j hj=>?_) hi (by rw[←Array.all_toList];exact h1) ?_
 ·refine ⟨?_,bJ hb _⟩
  rw[bA hb];simp;omega
 ·obtain ⟨k1,k2⟩:=keepsCells p cells.toList o w
  exact h _ (hpSetCells p t (0,0) cells.toList o w old hb (by simpa using hsz)) k1 k2
def RepPost (w:World) (rp:Rp) (r:Ending) (w':World):Prop:=
 ∃da dc oa oc,r=.returned (.agg #[.int .i64 rp.fn,.int .i64 rp.exc,.slice da rp.data.length dc,.int .i64 rp.code,.int .i64 rp.level,.bool rp.more,.int .i64 rp.next,.slice oa rp.objs.length oc])∧(∀W,Agree w.heap.size w' W→RpIs W rp da dc oa oc)∧Below w.heap.size w w'
theorem TabPostD.rep {w w':World} {fn e:Int} {D:List UInt8} {r:Ending} (h:TabPostD w fn e D r w'):RepPost w (mkR fn e D) r w':=by
 obtain⟨da,dc,rfl,-,hown,hb⟩:=h;exact⟨da,dc,none,0,rfl,fun W hW=>⟨Bs.own (own_agree hown (Nat.le_refl _) hW),Obs.nil W,(by show (0:Int)≤_;decide),(by show _≤(0:Int);decide)⟩,hb⟩
theorem nxtId_is {L:List Ob} {n:Nat} {nx:Int} (h3:∀x,L[n]?=some x→nx=x.id) (h4:L.length≤n→nx=0):nx=nxtId L n:=by
 unfold nxtId;cases e:L[n]? with
 |none=>exact h4 (List.getElem?_eq_none_iff.1 e)
 |some x=>exact h3 x e
theorem DvPx.rep {w w':World} {s:Sl} {co:Int} {L:List Ob} {r:Ending} (hlv:0≤s.lv∧s.lv≤3) (h:DvPx w s co L r w'):RepPost w ⟨43,0,[],co,s.lv,decide (fitN 246 L<L.length),nxtId L (fitN 246 L),L.take (fitN 246 L)⟩ r w':=by
 obtain⟨n,oa,oc,nx,h1,h2,h3,h4,h5,rfl,hob,hb⟩:=h;have h5:n=fitN 246 L:=h5;subst h5;have hnx:=nxtId_is h3 h4;subst hnx;have hn:(L.take (fitN 246 L)).length=fitN 246 L:=by rw[List.length_take];omega
 refine⟨none,0,oa,oc,by unfold DvqC;rw[hn];rfl,fun W hW=>⟨Bs.nil _,?_,(by show s.lv≤_;omega),(by show _≤s.lv;omega)⟩,hb⟩;show Obs W (.slice oa (L.take (fitN 246 L)).length oc) _;rw[hn];exact hob W hW
theorem dev_rep {s:Sl} (hlv:0≤s.lv∧s.lv≤3) {q:Rq} {w w':World} {r:Ending} (h:(s.lv=0∧TabPostD w 43 1 [] r w')∨(¬s.lv=0∧DvPy w s q.code (selO s.objs q.obj (grI q.code)) r w')):RepPost w (s.dev q) r w':=by
 unfold Sl.dev;rcases h with⟨h0,h⟩|⟨h0,h⟩
 ·rw [if_pos h0]
  exact h.rep
 ·rw [if_neg h0]
  rcases h with⟨h1,h⟩|⟨h1,h⟩
  ·rw [if_pos h1]
   exact h.rep
  ·rw [if_neg h1]
   exact h.rep hlv
theorem RepPost.stored {w w5 w' w8:World} {rp:Rp} {zb:Nat} {da oa:Option Addr} {dc oc:Nat} (hr:∀W,Agree w5.heap.size w' W→RpIs W rp da dc oa oc) (h5:Below w5.heap.size w5 w') (hb:Below w.heap.size w w5) (hz1:w.heap.size≤zb) (hz:zb<w5.heap.size) (hk:Keeps (· =zb) w' w8):
  RepPost w rp (.returned (.agg #[.int .i64 rp.fn,.int .i64 rp.exc,.slice da rp.data.length dc,.int .i64 rp.code,.int .i64 rp.level,.bool rp.more,.int .i64 rp.next,.slice oa rp.objs.length oc])) w8:=
 ⟨da,dc,oa,oc,rfl,fun W hW=>hr W ((Agree.of_keeps hk (fun k e=>by omega)).trans (hW.mono hb.size)),(bU hb h5).trans (hk.below (by have:=hb.size;have:=h5.size;omega) (fun j hj e=>by omega))⟩
theorem Sl.ans_tab {s:Sl} {q:Rq} {k:Nat} (hk:q.fn=(k:Int)+1) (h4:k<4) (x:Int):s.ans q x=(s.ts k).ans q x:=by
 unfold Sl.ans;rw[if_neg (by omega),if_neg (by omega),hk];congr 2;omega
theorem Tbl.ans_mk (t:Tbl) (q:Rq) (x:Int):t.ans q x=mkR q.fn (t.ans q x).exc (t.ans q x).data:=by
 unfold Tbl.ans;split
 ·rfl
 ·split
  ·rfl
  ·split<;>rfl
theorem Sl.ans_dev {s:Sl} {q:Rq} (hk:q.fn=43) (x:Int):s.ans q x=s.dev q:=by unfold Sl.ans;rw[if_pos hk]
theorem Sl.ans_srv {s:Sl} {q:Rq} (hk:q.fn=17) (x:Int):s.ans q x=s.srvA:=by unfold Sl.ans;rw[if_neg (by omega),if_pos hk]
theorem fn_cases {q:Rq} (h:q.ok=true):(1≤q.fn∧q.fn≤4)∨q.fn=17∨(q.fn=43∧1≤q.code∧q.code≤3):=by
 rcases rq_cases h with h|h|h<;>omega
theorem srv_rep {w w3 w5 w8:World} {s:Sl} {zb:Nat} {da:Option Addr} {dc:Nat} (hs:s.hs=true) (hown:w5.ownsRow w3.heap.size 5 1 (.slice da s.sd.length dc) s.sd.length (u8s s.sd)) (h5:Below w3.heap.size w3 w5) (hb:Below w.heap.size w w3) (hz1:w.heap.size≤zb) (hz:zb<w3.heap.size) (hk:Keeps (· =zb) w5 w8):
  RepPost w s.srvA (.returned (.agg #[.int .i64 17,.int .i64 0,.slice da s.sd.length dc,.int .i64 0,.int .i64 0,.bool false,.int .i64 0,.slice none 0 0])) w8:=by
 unfold Sl.srvA;rw[if_pos hs];exact RepPost.stored (rp:=mkR 17 0 s.sd) (da:=da) (dc:=dc) (oa:=none) (oc:=0) (fun W hW=>⟨Bs.own (own_agree hown (Nat.le_refl _) hW),Obs.nil W,(by show (0:Int)≤_;decide),(by show _≤(0:Int);decide)⟩) h5 hb hz1 hz hk
theorem isTableQ_any (f:Int) (w:World):Calls Tryz.prog 154 #[.int .i64 f] w fun r w'=>r=.returned (.bool (tblB f))∧w=w':=by
 obtain⟨V,hV⟩:=gE (tblB f);rw[hV];unfold tblB at hV;by_cases h1:1≤f
 ·have d1:decide (1≤f)=true:=decide_eq_true h1
  rw[d1,Bool.true_and] at hV;have HV:=bC hV;clear hV;go_enter Tryz.func154,Tryz.ntmps154;go_wp2;go_ret;exact⟨bO HV.out,rfl⟩
 ·have d1:decide (1≤f)=false:=decide_eq_false h1
  rw[d1,Bool.false_and] at hV;subst hV;go_enter Tryz.func154,Tryz.ntmps154;go_wp2;go_ret;exact⟨rfl,rfl⟩
theorem z09_1 {p:Prop} (h:p:=by
 subst e
 rcases hf with rfl|rfl|rfl|rfl
 all_goals
  go_enter Tryz.func121,Tryz.ntmps121
  go_wp2_with (go_at_call 154;(with_reducible refine(isTableQ_any _ _).mono ?_);rintro r wi ⟨rfl,rfl⟩);go_quiet ((go_at_call 155;exact Calls.quiet_of_same ((HLM.out _).mono fun _ _ h=>⟨h.1,h.2.symm⟩)));go_wp2;go_ret
  exact⟨rfl,below_drewN (HB.out _) _⟩):p:=h
theorem pqvalid_tab (f a q c o:Int) (h1:1≤f) (h4:f≤4) (w:World):
  Calls Tryz.prog 121 #[.agg #[.int .i64 f,.int .i64 a,.int .i64 q,.int .i64 c,.int .i64 o]] w fun r w'=>r=.returned (.bool (Rq.ok ⟨f,a,q,c,o⟩))∧Below w.heap.size w w':=by
 obtain⟨L,hL⟩:=gE (limI f);have hL2:L≤2000:=by rw[←hL];exact(limI_bd f).2
 have HLM:Hid (∀W,Calls Tryz.prog 155 #[.int .i64 f] W fun r w'=>r=.returned (.int .i64 L)∧W=w'):=fun W=>by rw[←hL];exact limit_any f W
 obtain⟨V,hV⟩:∃V,Rq.ok ⟨f,a,q,c,o⟩=V:=⟨_,rfl⟩
 rw[hV];unfold Rq.ok at hV;rw[if_pos ⟨h1,h4⟩] at hV;simp only at hV;rw[hL] at hV;replace hV:=bC hV;have hbd:1≤q→q≤L→IntKind.i64.wrap (65536-q)=65536-q:=fun _ _=>IntWalk.i64_in _ (by omega)
 have HB:Hid (∀X,Below w.heap.size w (w.alloc X)):=fun X=>bH w X
 have hf:=(show f=1∨f=2∨f=3∨f=4 by omega)
 clear hL h1 h4;rcases (show ¬0≤a∨(0≤a∧¬1≤q)∨(0≤a∧1≤q∧¬q≤L)∨(0≤a∧1≤q∧q≤L∧¬a≤65536-q)∨(0≤a∧1≤q∧q≤L∧a≤65536-q∧¬c=0)∨(0≤a∧1≤q∧q≤L∧a≤65536-q∧c=0) by omega) with g1|⟨g1,g2⟩|⟨g1,g2,g3⟩|⟨g1,g2,g3,g4⟩|⟨g1,g2,g3,g4,g5⟩|⟨g1,g2,g3,g4,g5⟩
 ·have d1:decide (0≤a)=false:=decide_eq_false g1
  have e:V=false:=by rw[←hV.out,d1];simp
  clear hV hbd g1;exact z09_1
 ·have d1:decide (0≤a)=true:=decide_eq_true g1
  have d2:decide (1≤q)=false:=decide_eq_false g2;have e:V=false:=by rw[←hV.out,d2];simp
  clear hV hbd g1 g2;exact z09_1
 ·have d1:decide (0≤a)=true:=decide_eq_true g1
  have d2:decide (1≤q)=true:=decide_eq_true g2;have d3:decide (q≤L)=false:=decide_eq_false g3;have e:V=false:=by rw[←hV.out,d3];simp
  clear hV hbd g1 g2 g3;exact z09_1
 ·have d1:decide (0≤a)=true:=decide_eq_true g1
  have d2:decide (1≤q)=true:=decide_eq_true g2;have d3:decide (q≤L)=true:=decide_eq_true g3;have d4:decide (a≤65536-q)=false:=decide_eq_false g4;have w4:=hbd g2 g3;have e:V=false:=by rw[←hV.out,d4];simp
  clear hV hbd g1 g2 g3 g4;exact z09_1
 ·have d1:decide (0≤a)=true:=decide_eq_true g1
  have d2:decide (1≤q)=true:=decide_eq_true g2;have d3:decide (q≤L)=true:=decide_eq_true g3;have d4:decide (a≤65536-q)=true:=decide_eq_true g4;have d5:(c==0)=false:=by simpa using g5
  have w4:=hbd g2 g3;have e:V=false:=by rw[←hV.out,d5];simp
  clear hV hbd g1 g2 g3 g4 g5;exact z09_1
 ·subst g5
  have d1:decide (0≤a)=true:=decide_eq_true g1;have d2:decide (1≤q)=true:=decide_eq_true g2;have d3:decide (q≤L)=true:=decide_eq_true g3;have d4:decide (a≤65536-q)=true:=decide_eq_true g4;have w4:=hbd g2 g3;have e:(o==0)=V:=by rw[←hV.out,d1,d2,d3,d4];simp
  have e':=bC e;clear hV hbd g1 g2 g3 g4 e;rcases hf with rfl|rfl|rfl|rfl
  all_goals
   go_enter Tryz.func121,Tryz.ntmps121;go_wp2_with (go_at_call 154;(with_reducible refine(isTableQ_any _ _).mono ?_);rintro r wi ⟨rfl,rfl⟩);go_quiet ((go_at_call 155;exact Calls.quiet_of_same ((HLM.out _).mono fun _ _ h=>⟨h.1,h.2.symm⟩)));go_wp2;go_ret;exact⟨bO e'.out,below_drewN (HB.out _) _⟩
theorem pqvalid_any (f a q c o:Int) (w:World):
  Calls Tryz.prog 121 #[.agg #[.int .i64 f,.int .i64 a,.int .i64 q,.int .i64 c,.int .i64 o]] w fun r w'=>r=.returned (.bool (Rq.ok ⟨f,a,q,c,o⟩))∧Below w.heap.size w w':=by
 by_cases h:1≤f∧f≤4
 ·exact pqvalid_tab f a q c o h.1 h.2 w
 ·obtain ⟨V,hV⟩:∃V,Rq.ok ⟨f,a,q,c,o⟩=V:=⟨_,rfl⟩
  rw[hV];unfold Rq.ok at hV;rw[if_neg h] at hV;simp only at hV;have HB:Hid (∀X,Below w.heap.size w (w.alloc X)):=fun X=>bH w X
  by_cases h17:f=17
  ·subst h17
   rw[if_pos rfl] at hV;replace hV:=bC hV;clear h;go_enter Tryz.func121,Tryz.ntmps121;go_wp2_with (go_at_call 154;(with_reducible refine(isTableQ_any _ _).mono ?_);rintro r wi ⟨rfl,rfl⟩)
   all_goals
    go_ret;refine⟨bO ?_,HB.out _⟩;rw[←hV.out]
    first|rfl|(rw[Bool.eq_iff_iff];simp;done)|(rw[Bool.eq_iff_iff];simp;omega)
  ·rw [if_neg h17] at hV
   by_cases h43:f=43
   ·subst h43
    rw[if_pos rfl] at hV;replace hV:=bC hV;clear h h17;go_enter Tryz.func121,Tryz.ntmps121;go_wp2_with (go_at_call 154;(with_reducible refine(isTableQ_any _ _).mono ?_);rintro r wi ⟨rfl,rfl⟩)
    all_goals
     go_ret;refine⟨bO ?_,HB.out _⟩;rw[←hV.out]
     first|rfl|(rw[Bool.eq_iff_iff];simp [*];done)|(rw[Bool.eq_iff_iff];simp;omega)
   ·rw [if_neg h43] at hV
    subst hV;have k1:(f==1)=false:=by rw[beq_eq_false_iff_ne];omega
    have k2:(f==2)=false:=by rw[beq_eq_false_iff_ne];omega
    have k3:(f==3)=false:=by rw[beq_eq_false_iff_ne];omega
    have k4:(f==4)=false:=by rw[beq_eq_false_iff_ne];omega
    have k5:(f==17)=false:=by rw[beq_eq_false_iff_ne];omega
    have k6:(f==43)=false:=by rw[beq_eq_false_iff_ne];omega
    have kt:tblB f=false:=by
     unfold tblB;cases hx:(decide (1≤f)&&decide (f≤4)) with
     |false=>rfl
     |true=>simp at hx;omega
    clear h h17 h43;go_enter Tryz.func121,Tryz.ntmps121;go_wp2_with (go_at_call 154;(with_reducible refine(isTableQ_any _ _).mono ?_);rintro r wi ⟨rfl,rfl⟩);go_ret;exact⟨rfl,HB.out _⟩
def Rq.pdu (q:Rq):List UInt8:=
 if q.fn=17 then [17] else if q.fn=43 then [43,14,byteI q.code,byteI q.obj] else [byteI q.fn,byteI (q.addr/256),byteI (q.addr%256),byteI (q.qty/256),byteI (q.qty%256)]
theorem Rq.pdu_len (q:Rq):1≤q.pdu.length∧q.pdu.length≤5:=by
 unfold Rq.pdu;split
 ·simp
 ·split<;>simp
theorem Bs.newLit (w:World) (l:List UInt8) (A:Array Value) (T:TypeId) (h:A=(u8s l).toArray) (hl:l.length≤1000):Bs (w.alloc (.cells A T)) (.slice (some ⟨w.heap.size,0,none⟩) l.length l.length) l:=by
 refine Bs.mk (Nat.le_refl _) (by unfold maxLen;omega) (fun i hi=>?_);rw[bA (bI w _),h];simp only[Nat.zero_add,List.getElem?_toArray];exact u8s_get l i hi
def NewBs (w:World) (l:List UInt8) (r:Ending) (w':World):Prop:=
 ∃(a:Option Addr) (c:Nat),r=.returned (.tuple #[.slice a l.length c,.int .i64 0])∧(∀W,Agree w.heap.size w' W→Bs W (.slice a l.length c) l)∧Below w.heap.size w w'
theorem NewBs.lit {w wx:World} {l:List UInt8} {A:Array Value} {T:TypeId} (hb:Below w.heap.size w wx) (h:A=(u8s l).toArray) (hl:l.length≤1000) {n:Nat} (hn:n=l.length):
  NewBs w l (.returned (.tuple #[.slice (some ⟨wx.heap.size,0,none⟩) n n,.int .i64 0])) (wx.alloc (.cells A T)):=by
 subst hn;exact⟨_,_,rfl,fun W hW=>(Bs.newLit wx l A T h hl).agree (fun ad had=>by cases had;exact hb.size) hW,cJ hb (Nat.le_refl _) _⟩
theorem reqenc_ok (f a q c o:Int) (hq:Rq.ok ⟨f,a,q,c,o⟩=true) (w:World):
  Calls Tryz.prog 122 #[.agg #[.int .i64 f,.int .i64 a,.int .i64 q,.int .i64 c,.int .i64 o]] w (NewBs w (Rq.pdu ⟨f,a,q,c,o⟩)):=by
 have HQ:Hid (∀W,Calls Tryz.prog 121 #[.agg #[.int .i64 f,.int .i64 a,.int .i64 q,.int .i64 c,.int .i64 o]] W fun r w'=>r=.returned (.bool true)∧Below W.heap.size W w'):=fun W=>by rw[←hq];exact pqvalid_any f a q c o W
 have hk:f=17∨f=43∨(1≤f∧f≤4):=by
  unfold Rq.ok at hq;simp only at hq
  repeat' split at hq
  all_goals first|omega|cases hq
 rcases hk with rfl|rfl|hk
 ·go_enter Tryz.func122,Tryz.ntmps122
  go_wp2_with (go_at_call 121;(with_reducible refine(HQ.out _).mono ?_);rintro r w1 ⟨rfl,hb1⟩;have y0:=bA (bB (bI w _) hb1) 0);go_ret2;exact NewBs.lit (l:=[17]) (bU (bH w _) hb1) rfl (by decide) rfl
 ·have hco:1≤c∧c≤3∧0≤o∧o≤255:=by
   unfold Rq.ok at hq;simp at hq;omega
  obtain⟨hc1,hc2,ho1,ho2⟩:=hco;have HL:Hid (Rq.pdu ⟨43,a,q,c,o⟩=[43,14,byteI c,byteI o]):=rfl;have HV:Hid ((#[.int .u8 43,.int .u8 14,.int .u8 c,.int .u8 o]:Array Value)=(u8s [43,14,byteI c,byteI o]).toArray):=by
   show _=_;simp only[u8s,byteV,List.map_cons,List.map_nil];rw[bP (by omega) (by omega),bP ho1 ho2];rfl
  clear hq;go_enter Tryz.func122,Tryz.ntmps122;go_wp2_with (go_at_call 121;(with_reducible refine(HQ.out _).mono ?_);rintro r w1 ⟨rfl,hb1⟩;have y0:=bA (bB (bI w _) hb1) 0;have y3:=bA (bB (bI w _) hb1) 3;have y4:=bA (bB (bI w _) hb1) 4);go_ret2;rw[HL.out];exact NewBs.lit (bU (bH w _) hb1) HV.out (by simp) rfl
 ·have hco:0≤a∧a≤65535∧1≤q∧q≤2000:=by
   unfold Rq.ok at hq;simp only at hq;rw[if_pos hk] at hq;simp at hq;have:=(limI_bd f).2;omega
  obtain⟨ha1,ha2,hq1,hq2⟩:=hco;have hf1:¬f=17:=by omega
  have hf2:¬f=43:=by omega
  have HL:Hid (Rq.pdu ⟨f,a,q,c,o⟩=[byteI f,byteI (a/256),byteI (a%256),byteI (q/256),byteI (q%256)]):=by
   show _=_;unfold Rq.pdu;rw[if_neg hf1,if_neg hf2]
  have HV:Hid ((#[.int .u8 f,.int .u8 (a/256),.int .u8 (a%256),.int .u8 (q/256),.int .u8 (q%256)]:Array Value)=(u8s [byteI f,byteI (a/256),byteI (a%256),byteI (q/256),byteI (q%256)]).toArray):=by
   show _=_;simp only[u8s,byteV,List.map_cons,List.map_nil];rw[bP (by omega) (by omega),bP (by omega) (by omega),bP (by omega) (by omega),bP (by omega) (by omega),bP (by omega) (by omega)]
  have k5:(f==17)=false:=by rw[beq_eq_false_iff_ne];omega
  have k6:(f==43)=false:=by rw[beq_eq_false_iff_ne];omega
  obtain⟨hk1,hk2⟩:=hk;clear hq hf1 hf2;go_enter Tryz.func122,Tryz.ntmps122;go_wp2_with (go_at_call 121;(with_reducible refine(HQ.out _).mono ?_);rintro r w1 ⟨rfl,hb1⟩;have y0:=bA (bB (bI w _) hb1) 0;have y1:=bA (bB (bI w _) hb1) 1;have y2:=bA (bB (bI w _) hb1) 2);go_ret2;rw[HL.out];refine NewBs.lit (bU (bH w _) hb1) ?_ (by simp) rfl;rw[←HV.out]
def rqLen (f:Int):Nat:=if 1≤f∧f≤4 then 5 else if f=17 then 1 else if f=43 then 4 else 0
def rqOf (b:List UInt8):Rq:=
 if 1≤bAt b 0∧bAt b 0≤4 then ⟨bAt b 0,bAt b 1*256+bAt b 2,bAt b 3*256+bAt b 4,0,0⟩
 else if bAt b 0=43 then ⟨43,0,0,bAt b 2,bAt b 3⟩ else ⟨bAt b 0,0,0,0,0⟩
def rqDec (b:List UInt8):Option Rq:=
 if b.length=0∨rqLen (bAt b 0)=0∨b.length≠rqLen (bAt b 0)∨(bAt b 0=43∧bAt b 1≠14)∨(rqOf b).ok=false then none else some (rqOf b)
theorem rqDec_ok {b:List UInt8} {q:Rq} (h:rqDec b=some q):q.ok=true:=by
 unfold rqDec at h;split at h
 ·cases h
 ·rename_i e
  injection h with h
  subst h;cases hk:(rqOf b).ok with
  |true=>rfl
  |false=>exact absurd (.inr (.inr (.inr (.inr hk)))) e
theorem rqDec_pdu {q:Rq} (h:q.ok=true):rqDec q.pdu=some q:=by
 obtain⟨f,a,n,c,o⟩:=q;have h0:=h;unfold Rq.ok at h;dsimp only at h;by_cases h1:1≤f∧f≤4
 ·rw [if_pos h1] at h
  simp only[Bool.and_eq_true,decide_eq_true_eq,beq_iff_eq] at h;obtain⟨⟨⟨⟨⟨g1,g2⟩,g3⟩,g4⟩,rfl⟩,rfl⟩:=h;have hl:limI f≤2000:=(limI_bd f).2;have hp:Rq.pdu ⟨f,a,n,0,0⟩=[byteI f,byteI (a/256),byteI (a%256),byteI (n/256),byteI (n%256)]:=by
   unfold Rq.pdu;rw[if_neg (by dsimp only;omega),if_neg (by dsimp only;omega)]
  rw[hp];have b0:bAt [byteI f,byteI (a/256),byteI (a%256),byteI (n/256),byteI (n%256)] 0=f:=bP (by omega) (by omega);have b1:bAt [byteI f,byteI (a/256),byteI (a%256),byteI (n/256),byteI (n%256)] 1=a/256:=bP (by omega) (by omega);have b2:bAt [byteI f,byteI (a/256),byteI (a%256),byteI (n/256),byteI (n%256)] 2=a%256:=bP (by omega) (by omega);have b3:bAt [byteI f,byteI (a/256),byteI (a%256),byteI (n/256),byteI (n%256)] 3=n/256:=bP (by omega) (by omega);have b4:bAt [byteI f,byteI (a/256),byteI (a%256),byteI (n/256),byteI (n%256)] 4=n%256:=bP (by omega) (by omega);have ho:rqOf [byteI f,byteI (a/256),byteI (a%256),byteI (n/256),byteI (n%256)]=⟨f,a,n,0,0⟩:=by
   unfold rqOf;rw[b0,b1,b2,b3,b4,if_pos h1,show a/256*256+a%256=a by omega,show n/256*256+n%256=n by omega]
  unfold rqDec;rw[b0,ho,show rqLen f=5 from if_pos h1,if_neg];rintro (e|e|e|e|e)
  ·exact absurd e (by simp)
  ·exact absurd e (by decide)
  ·exact e rfl
  ·omega
  ·rw [h0] at e;cases e
 ·rw [if_neg h1] at h
  by_cases h2:f=17
  ·subst h2
   rw[if_pos rfl] at h;simp only[Bool.and_eq_true,beq_iff_eq] at h;obtain⟨⟨⟨rfl,rfl⟩,rfl⟩,rfl⟩:=h;rfl
  ·rw [if_neg h2] at h
   by_cases h3:f=43
   ·subst h3
    rw[if_pos rfl] at h;simp only[Bool.and_eq_true,decide_eq_true_eq,beq_iff_eq] at h;obtain⟨⟨⟨⟨⟨rfl,rfl⟩,g1⟩,g2⟩,g3⟩,g4⟩:=h;have hp:Rq.pdu ⟨43,0,0,c,o⟩=[43,14,byteI c,byteI o]:=rfl;rw[hp];have b2:bAt [43,14,byteI c,byteI o] 2=c:=bP (by omega) (by omega);have b3:bAt [43,14,byteI c,byteI o] 3=o:=bP (by omega) (by omega);have ho:rqOf [43,14,byteI c,byteI o]=⟨43,0,0,c,o⟩:=by
     show (⟨43,0,0,bAt [43,14,byteI c,byteI o] 2,bAt [43,14,byteI c,byteI o] 3⟩:Rq)=_;rw[b2,b3]
    unfold rqDec;rw[ho,if_neg];rintro (e|e|e|e|e)
    ·exact absurd e (by simp)
    ·exact absurd (show (4:Nat)=0 from e) (by decide)
    ·exact e rfl
    ·exact e.2 rfl
    ·rw [h0] at e;cases e
   ·rw [if_neg h3] at h
    cases h
theorem or_u8_fin:∀(j:Fin 8) (m:Fin 128) (b:Fin 2),m.val<2^j.val→bits .or .u8 ((m.val:Nat):Int) (((b.val*2^j.val:Nat):Nat):Int)=((m.val+b.val*2^j.val:Nat):Int):=by decide+kernel
theorem or_byte {m b j:Nat} (hj:j<8) (hm:m<2^j) (hb:b<2):bits .or .u8 (m:Int) ((b:Int)%256*2^j%256)=((m+b*2^j:Nat):Int):=by
 have h2:2^j≤2^7:=Nat.pow_le_pow_right (by decide) (by omega);have h:=or_u8_fin ⟨j,hj⟩ ⟨m,by omega⟩ ⟨b,hb⟩ hm;have e1:((b:Int)%256*2^j%256)=((b*2^j:Nat):Int):=by
  have:b*2^j<256:=by
   rcases (show b=0∨b=1 by omega) with rfl|rfl
   ·omega
   ·omega
  rw[Int.emod_eq_of_lt (a:=(b:Int)) (by omega) (by omega)];rw[show ((2:Int)^j)=((2^j:Nat):Int) by simp,←Int.natCast_mul];exact Int.emod_eq_of_lt (by omega) (by omega)
 rw[e1];exact h
theorem and_one_i64 (n:Int) (h0:0≤n) (h1:n<65536):bits .and .i64 n 1=n%2:=by
 show IntKind.wrap .i64 ((((BitVec.ofInt 64 n)&&&(BitVec.ofInt 64 1)).toNat:Nat):Int)=_;have e1:(BitVec.ofInt 64 n).toNat=n.toNat:=by rw[BitVec.toNat_ofInt];omega
 have e2:(BitVec.ofInt 64 1).toNat=1:=by decide
 rw[BitVec.toNat_and,e1,e2,Nat.and_one_is_mod,IntWalk.i64_in _ (by omega)];omega
theorem xor_fin:∀n:Fin 256,bits .xor .u8 ((n.val:Nat):Int) 255=(((n.val^^^255:Nat)):Int):=by decide+kernel
theorem xor_byte (x:UInt8):Value.int .u8 (bits .xor .u8 ((x.toNat:Nat):Int) 255)=byteV (x^^^255):=by
 rw[xor_fin ⟨x.toNat,x.toNat_lt⟩];unfold byteV;rw[UInt8.toNat_xor];rfl
theorem or_word (a b:Int) (a0:0≤a) (a1:a<256) (b0:0≤b) (b1:b<256):bits .or .i64 (a*256) b=a*256+b:=by
 obtain⟨m,rfl⟩:∃m:Nat,a=(m:Int):=⟨a.toNat,by omega⟩
 obtain⟨k,rfl⟩:∃k:Nat,b=(k:Int):=⟨b.toNat,by omega⟩
 show IntKind.wrap .i64 ((((BitVec.ofInt 64 ((m:Int)*256))|||(BitVec.ofInt 64 (k:Int))).toNat:Nat):Int)=_;have e1:(BitVec.ofInt 64 ((m:Int)*256)).toNat=m*2^8:=by rw[BitVec.toNat_ofInt];omega
 have e2:(BitVec.ofInt 64 (k:Int)).toNat=k:=by rw[BitVec.toNat_ofInt];omega
 have e3:m*2^8|||k=m*2^8+k:=by
  have:=Nat.shiftLeft_add_eq_or_of_lt (b:=k) (i:=8) (by omega) m;rw[Nat.shiftLeft_eq] at this;exact this.symm
 rw[BitVec.toNat_or,e1,e2,e3,IntWalk.i64_in _ (by omega)];omega
theorem or_bits {t a v n:Int} {N k:Nat} (h:k/8<N) (hn:n=wordV t (a+(k:Nat)) v):
  Value.int .u8 (bits .or .u8 ((((bitsL t a v N k)[k/8]?.getD 0).toNat:Nat):Int) (bits .and .i64 n 1%256*2^(k%8)%256))=byteV (UInt8.ofNat (bval t a v (k/8) (k%8)+bitV t a v k*2^(k%8))):=by
 have hb:=wordV_bd t (a+(k:Nat)) v;have hw:=bval_lt t a v (k/8) (k%8);have h2:2^(k%8)≤2^7:=Nat.pow_le_pow_right (by decide) (by omega);have hv:=bitV_bd t a v k;rw[bitsL_cur h,and_one_i64 n (by omega) (by omega)];have e3:(UInt8.ofNat (bval t a v (k/8) (k%8))).toNat=bval t a v (k/8) (k%8):=by rw[UInt8.toNat_ofNat'];exact Nat.mod_eq_of_lt (by omega)
 have e4:n%2=((bitV t a v k:Nat):Int):=by unfold bitV;rw[←hn];omega
 have e5:=or_byte (j:=k%8) (by omega) hw hv;show Value.int .u8 (bits .or .u8 (((UInt8.ofNat (bval t a v (k/8) (k%8))).toNat:Nat):Int) (n%2%256*2^(k%8)%256))=_;rw[e3,e4,e5];unfold byteV;rw[UInt8.toNat_ofNat'];congr 1;have:bval t a v (k/8) (k%8)+bitV t a v k*2^(k%8)<256:=by
  rcases (show bitV t a v k=0∨bitV t a v k=1 by omega) with e|e<;>rw[e]<;>omega
 omega
abbrev bR:=@step_storeW
abbrev cO:=@pqvalid_any
end Go.Proofs.YtoaoejaodhedaaaGreat
