import Derived.Test.YtoaoejaodhedaaaGreatQ02
import Derived.Deep.DeepCutAuto
import Derived.Deep.RegionLaw
import Derived.Deep.CutRange
import Derived.Laws.EntriesVeiled
import Derived.Laws.Rows
namespace Go.Proofs.YtoaoejaodhedaaaGreat
open Go.RowKit
set_option maxHeartbeats 3200000
set_option maxRecDepth 100000
theorem rises_no {l:List Ob} {k:Nat} {x:Ob} (h:l[k]?=some x) (hb:¬(lastId (-1) (l.take k)<x.id∧x.id≤255)):rises (-1) l=false:=by
 cases hx:rises (-1) l with
 |false=>rfl
 |true=>
  exfalso;apply hb;have e:l=l.take (k+1)++l.drop (k+1):=(List.take_append_drop _ _).symm;rw[e] at hx;have h3:=rises_pre _ _ _ hx;rw[bT h,rises_snoc] at h3;simp only[Bool.and_eq_true,decide_eq_true_eq] at h3;exact⟨h3.1.2,h3.2⟩
theorem lastId_ge (l:List Ob):∀(last:Int),rises last l=true→last≤lastId last l:=by
 induction l with
 |nil=>intro last _;exact Int.le_refl _
 |cons a l ih=>
  intro last h;simp only[rises,Bool.and_eq_true,decide_eq_true_eq] at h;have:=ih a.id h.2;simp only[lastId];omega
theorem Obs.open_ {w:World} {v:Value} {l:List Ob} (h:Obs w v l):
  ∃a n c,v=.slice a n c∧l.length=n∧n≤9223372036854775807∧n≤c∧c≤9223372036854775807∧
   ∀(k:Nat) (x:Ob),l[k]?=some x→∃b o xa xc,a=some ⟨b,o,none⟩∧w.cell? ⟨b,o+k*2,none⟩=some (.int .i64 x.id)∧w.cell? ⟨b,o+k*2+1,none⟩=some (.slice xa x.val.length xc)∧Bs w (.slice xa x.val.length xc) x.val:=by
 obtain⟨a,c,hv,h1,h2,h3,h4⟩:=h;unfold maxLen at h2;refine⟨a,l.length,c,hv,rfl,by omega,h1,h2,fun k x hx=>?_⟩;obtain⟨b,o,ha,hc⟩:=h4 (by rintro rfl;simp at hx);obtain⟨c1,vv,c2,hb⟩:=hc k x hx;obtain⟨xa,xc,rfl,_⟩:=id hb;exact⟨b,o,xa,xc,ha,c1,c2,hb⟩
theorem get_some {α:Type} {l:List α} {k n:Nat} (h:l.length=n) (hk:k<n):∃x,l[k]?=some x:=⟨l[k],List.getElem?_eq_getElem (by omega)⟩
theorem rising_any (v:Value) (l:List Ob) (w:World) (ho:Obs w v l):
  Calls Tryz.prog 95 #[v] w fun r w'=>r=.returned (.bool (rises (-1) l))∧Below w.heap.size w w':=by
 obtain⟨a,n,c,rfl,hln,hn,hnc,hcm,hel⟩:=ho.open_;clear ho;replace hel:=bC hel;replace hln:=bC hln;go_enter Tryz.func95,Tryz.ntmps95;go_wp2;go_loopw [3] (fun i wr=>∃k:Nat,k≤n∧i=.int .i64 k∧Hid (rises (-1) (l.take k)=true)∧Below w.heap.size w wr) (fun i _=>n- (intOf i).toNat)
 case atStart=>exact⟨0,Nat.zero_le _,rfl,rfl,Below.refl _ _⟩
 case round=>
  obtain⟨k,hk,rfl,hri,hbw⟩:=hrel;by_cases hlt:k<n
  ·obtain ⟨x,hgx⟩:=get_some hln.out hlt
   obtain⟨b,o,xa,xc,rfl,d1,_,_⟩:=hel.out k x hgx;replace d1:=bD hbw d1;have HNO:=bC (rises_no hgx);have HSN:Hid (rises (-1) (l.take (k+1))=(decide (lastId (-1) (l.take k)<x.id)&&decide (x.id≤255))):=by
    show rises (-1) (l.take (k+1))=_;rw[bT hgx,rises_snoc,hri.out,Bool.true_and]
   have hge:=lastId_ge _ _ hri.out;have hprev:(k=0∧lastId (-1) (l.take k)=-1)∨∃j:Nat,k=j+1∧wr.cell? ⟨b,o+j*2,none⟩=some (.int .i64 (lastId (-1) (l.take k))):=by
    cases k with
    |zero=>exact .inl ⟨rfl,rfl⟩
    |succ j=>
     refine .inr ⟨j,rfl,?_⟩;obtain⟨y,hgj⟩:=get_some (k:=j) hln.out (by omega);obtain⟨b',o',xa,xc,ha,d1,_,_⟩:=hel.out j y hgj;cases ha;rw[bT hgj,lastId_snoc];exact bD hbw d1
   clear hgx;generalize x.id=xi at*;generalize lastId (-1) (l.take k)=la at*;have hkl:(k:Int)<(n:Int):=by omega
   rcases hprev with⟨rfl,rfl⟩|⟨j,rfl,d0⟩
   ·simp only[Nat.zero_mul,Nat.add_zero] at d1
    rcases (show xi<0∨(0≤xi∧255<xi)∨(0≤xi∧xi≤255) by omega) with h|⟨h,h'⟩|⟨h,h'⟩
    ·have HF:=bC (HNO.out (by omega))
     go_wp2;go_quiet (fail);go_wp2;go_ret;exact⟨by rw[HF.out];rfl,below_drewN hbw _⟩
    ·have HF:=bC (HNO.out (by omega))
     have e1:decide (xi<0)=false:=by simp;omega
     go_wp2;go_quiet (fail);go_wp2;go_ret;exact⟨by rw[HF.out];rfl,below_drewN hbw _⟩
    ·have e1:decide (xi<0)=false:=by simp;omega
     have e2:decide (255<xi)=false:=by simp;omega
     go_wp2;go_quiet (fail);go_wp2;go_roundw
     case rel=>exact⟨0+1,by omega,by go_num,by show _=_;rw[HSN.out];simp;omega,below_drewN hbw _⟩
     case measure=>simp [intOf];omega
   ·have hj0:(0:Int)≤(j:Int):=Int.natCast_nonneg _
    have hj1:(j:Int)+1-1=(j:Int):=by omega
    rcases (show xi<0∨(0≤xi∧255<xi)∨(0≤xi∧xi≤255∧xi≤la)∨(0≤xi∧xi≤255∧la<xi) by omega) with h|⟨h,h'⟩|⟨h,h',h''⟩|⟨h,h',h''⟩
    ·have HF:=bC (HNO.out (by omega))
     go_wp2;go_quiet (fail);go_wp2;go_ret;exact⟨by rw[HF.out];rfl,below_drewN hbw _⟩
    ·have HF:=bC (HNO.out (by omega))
     have e1:decide (xi<0)=false:=by simp;omega
     go_wp2;go_quiet (fail);go_wp2;go_ret;exact⟨by rw[HF.out];rfl,below_drewN hbw _⟩
    ·have HF:=bC (HNO.out (by omega))
     have e1:decide (xi<0)=false:=by simp;omega
     have e2:decide (255<xi)=false:=by simp;omega
     go_wp2;go_quiet (fail);go_wp2;go_ret;exact⟨by rw[HF.out];rfl,below_drewN hbw _⟩
    ·have e1:decide (xi<0)=false:=by simp;omega
     have e2:decide (255<xi)=false:=by simp;omega
     have e3:decide (xi≤la)=false:=by simp;omega
     go_wp2;go_quiet (fail);go_wp2;go_roundw
     case rel=>exact⟨j+1+1,by omega,by go_num,by show _=_;rw[HSN.out];simp;omega,below_drewN hbw _⟩
     case measure=>simp [intOf];omega
  ·obtain rfl:k=n:=by omega
   have HF:Hid (rises (-1) l=true):=by
    have h1:=hri.out;rw[←hln.out,List.take_length] at h1;exact h1
   go_wp2;go_ret;exact⟨by rw[HF.out];rfl,hbw⟩
structure Rq where
 fn:Int
 addr:Int
 qty:Int
 code:Int
 obj:Int
def Rq.ok (q:Rq):Bool:=
 if 1≤q.fn∧q.fn≤4 then decide (0≤q.addr)&&decide (1≤q.qty)&&decide (q.qty≤limI q.fn)&&decide (q.addr≤65536-q.qty)&&q.code==0&&q.obj==0
 else if q.fn=17 then q.addr==0&&q.qty==0&&q.code==0&&q.obj==0
 else if q.fn=43 then q.addr==0&&q.qty==0&&decide (1≤q.code)&&decide (q.code≤3)&&decide (0≤q.obj)&&decide (q.obj≤255)
 else false
theorem limI_bd (f:Int):0≤limI f∧limI f≤2000:=by unfold limI;repeat' split<;>omega
theorem rlimit_any (f:Int) (w:World):
  Calls Tryz.prog 79 #[.int .i64 f] w fun r w'=>r=.returned (.int .i64 (limI f))∧w=w':=by
 rcases tbl_cases f with h|⟨h0,h1,h2,h3,h4⟩
 ·rcases h with rfl|rfl|rfl|rfl
  all_goals
   go_enter Tryz.func79,Tryz.ntmps79;go_wp2;go_ret;exact⟨rfl,rfl⟩
 ·have hl:limI f=0:=by
   rw[beq_eq_false_iff_ne] at h1 h2 h3 h4;unfold limI;rw[if_neg (by omega),if_neg (by omega)]
  replace hl:=bC hl;go_enter Tryz.func79,Tryz.ntmps79;go_wp2;go_ret;exact⟨by rw[hl.out];rfl,rfl⟩
theorem ks1 {p:Nat} {w w1:World} (h:Keeps (· =p) w w1) (i:Nat) (u:Value):Keeps (· =p) w (w1.setCell ⟨p,i,none⟩ u):=Keeps.set (F:=(· =p)) h ⟨p,i,none⟩ u rfl
theorem hpSetP {w:World} {b:Nat} {c C:Array Value} {t:TypeId} {fz:Nat×Nat} {i:Nat} {u:Value} (h:w.heap[b]?=some (.cells c t fz)) (e:c.setIfInBounds i u=C):
 (w.setCell ⟨b,i,none⟩ u).heap[b]?=some (.cells C t fz):=by rw[bX h i u,e]
theorem b1 {a b:Int} (h:a=b):(a==b)=true:=by rw[beq_iff_eq];exact h
theorem b0 {a b:Int} (h:¬a=b):(a==b)=false:=by rw[beq_eq_false_iff_ne];exact h
structure RpIs (w:World) (x:Rp) (da:Option Addr) (dc:Nat) (oa:Option Addr) (oc:Nat):Prop where
 d:Bs w (.slice da x.data.length dc) x.data
 o:Obs w (.slice oa x.objs.length oc) x.objs
 hi:x.level≤9223372036854775807
 lo: -9223372036854775808≤x.level
theorem RpIs.keep {w w':World} {x:Rp} {da:Option Addr} {dc:Nat} {oa:Option Addr} {oc:Nat} (h:RpIs w x da dc oa oc) (hb:Below w.heap.size w w'):RpIs w' x da dc oa oc:=⟨h.d.keep hb,h.o.keep hb,h.hi,h.lo⟩
def DecPost (w:World) (o:Option Rp) (r:Ending) (w':World):Prop:=
 (∃x da dc oa oc,o=some x∧r=.returned (.tuple #[.agg #[.int .i64 x.fn,.int .i64 x.exc,.slice da x.data.length dc,.int .i64 x.code,.int .i64 x.level,.bool x.more,.int .i64 x.next,.slice oa x.objs.length oc],.int .i64 0])∧(∀W,Agree w.heap.size w' W→RpIs W x da dc oa oc)∧Below w.heap.size w w')∨
 (∃e:Int,1≤e∧e≤17∧o=none∧r=.returned (.tuple #[.agg #[.int .i64 0,.int .i64 0,.slice none 0 0,.int .i64 0,.int .i64 0,.bool false,.int .i64 0,.slice none 0 0],.int .i64 e])∧Below w.heap.size w w')
theorem DecPost.err {w:World} {o:Option Rp} {w':World} (ho:o=none) (e:Int) (h1:1≤e) (h2:e≤17) (hb:Below w.heap.size w w'):
 DecPost w o (.returned (.tuple #[.agg #[.int .i64 0,.int .i64 0,.slice none 0 0,.int .i64 0,.int .i64 0,.bool false,.int .i64 0,.slice none 0 0],.int .i64 e])) w':=.inr ⟨e,h1,h2,ho,rfl,hb⟩
theorem DecPost.is {w:World} {o:Option Rp} {w':World} {x:Rp} {da:Option Addr} {dc:Nat} {oa:Option Addr} {oc:Nat} (ho:o=some x) (hx:∀W,Agree w.heap.size w' W→RpIs W x da dc oa oc) (hb:Below w.heap.size w w'):
 DecPost w o (.returned (.tuple #[.agg #[.int .i64 x.fn,.int .i64 x.exc,.slice da x.data.length dc,.int .i64 x.code,.int .i64 x.level,.bool x.more,.int .i64 x.next,.slice oa x.objs.length oc],.int .i64 0])) w':=.inl ⟨x,da,dc,oa,oc,ho,rfl,hx,hb⟩
def ObQ (w:World) (r:List Value) (x:Ob):Prop:=∃a c,r=[.int .i64 x.id,.slice a x.val.length c]∧Bs w (.slice a x.val.length c) x.val
theorem Obs.of_csl {w:World} {base:Nat} {E:TypeId} {v:Value} {n:Nat} {cs:List Value} {l:List Ob} (h:w.ownsRow base E 2 v n cs) (hc:CsL 2 (ObQ w) cs l) (hn:l.length=n):Obs w v l:=by
 obtain⟨a,c,hv,h1,h2,h3,h4⟩:=Sls.of_own h hc hn;refine⟨a,c,hv,h1,h2,h3,fun hl=>?_⟩;obtain⟨b,o,ha,hel⟩:=h4 hl;refine⟨b,o,ha,fun i x hx=>?_⟩;obtain⟨r,_,⟨xa,xc,rfl,hb⟩,hr⟩:=hel i x hx;exact⟨hr 0 _ rfl,_,hr 1 _ rfl,hb⟩
theorem infoOb:(Tryz.prog.info? 165).map (fun i=>(i.zero,i.size,i.bytes))=some (some (.agg #[.int .i64 0,.slice none 0 0]),2,32):=by kernel_rfl
theorem bal'' (w:World) (o:Obj):Below w.heap.size w (w.alloc o):=(Below.refl _ _).alloc (Nat.le_refl _) _
def ObQF (F:Nat→Prop) (w:World) (r:List Value) (x:Ob):Prop:=∃a c,r=[.int .i64 x.id,.slice a x.val.length c]∧Bs w (.slice a x.val.length c) x.val∧∀ad,a=some ad→¬F ad.block∧ad.block<w.heap.size
theorem ObQF.q {F:Nat→Prop} {w:World} (r:List Value) (x:Ob) (h:ObQF F w r x):ObQ w r x:=by
 obtain⟨a,c,h1,h2,_⟩:=h;exact⟨a,c,h1,h2⟩
theorem ObQF.keeps {F F2:Nat→Prop} {w w':World} (hk:Keeps F w w') (h2:∀j,j<w.heap.size→F2 j→F j) (r:List Value) (x:Ob) (h:ObQF F w r x):ObQF F2 w' r x:=by
 obtain⟨a,c,h1,h3,h4⟩:=h;refine⟨a,c,h1,h3.keepF hk (fun ad had=>(h4 ad had).1),fun ad had=>?_⟩;obtain⟨h5,h6⟩:=h4 ad had;exact⟨fun h=>h5 (h2 _ h6 h),Nat.lt_of_lt_of_le h6 hk.size⟩
def DevF (B:Nat) (v:Value) (j:Nat):Prop:=v.ownBlock=some j∨j<B
theorem ObQF.agree {B C:Nat} {v:Value} {w W:World} (hB:B≤C) (hW:Agree B w W) (r:List Value) (x:Ob) (h:ObQF (DevF C v) w r x):ObQ W r x:=by
 obtain⟨a,c,h1,h2,h3⟩:=h;refine⟨a,c,h1,h2.agree (fun ad had=>?_) hW⟩;have:=(h3 ad had).1;exact Nat.le_trans hB (Nat.le_of_not_lt (fun h=>this (.inr h)))
theorem devStep {B:Nat} {wr w5 w6:World} {E U:TypeId} {X:Obj} {v v6:Value} {k q:Nat} {cs:List Value} {acc:List Ob} {y0:Int} {a5:Option Addr} {c5:Nat} {Y:List UInt8}
  (hB:B≤wr.heap.size) (hown:wr.ownsRow B E 2 v k cs) (hcs:CsL 2 (ObQF (DevF B v) wr) cs acc) (hb5:Below wr.heap.size wr w5)
  (hY:Y.length=q) (hown5:w5.ownsRow wr.heap.size U 1 (.slice a5 q c5) q (u8s Y)) (hgr:(w5.alloc X).grownBy w6 v.ownBlock) (hnew:NewOr (w5.alloc X) v v6):
  CsL 2 (ObQF (DevF B v6) w6) (cs++[.int .i64 y0,.slice a5 q c5]) (acc++[⟨y0,Y⟩])∧Keeps (DevF B v) wr w6∧(∀i,i<B→w6.heap[i]?=wr.heap[i]?):=by
 have hK1:Keeps (DevF B v) wr (w5.alloc X):=Keeps.of_below (cJ hb5 (Nat.le_refl _) X);have hK2:Keeps (fun j=>v.ownBlock=some j) (w5.alloc X) w6:=Keeps.of_grown hgr (fun k hk=>hk);have hK:Keeps (DevF B v) wr w6:=hK1.trans hK2 (fun i _ h=>.inl h);have hvlt:∀j,v.ownBlock=some j→B≤j∧j<wr.heap.size:=fun j hj=>hown.lt j hj
 have hF2:∀j,j<wr.heap.size→DevF B v6 j→DevF B v j:=by
  intro j hj h;rcases h with h|h
  ·rcases hnew with h1|⟨i,h1,h2⟩
   ·exact .inl (by rw[←h1];exact h)
   ·rw [h] at h1
    cases h1;have:=hb5.size;simp at h2;omega
  ·exact .inr h
 refine⟨?_,hK,fun i hi=>?_⟩
 ·refine CsL.snoc (sz:=2) rfl ?_ acc cs (CsL.mono (fun r x h=>ObQF.keeps hK hF2 r x h) acc cs hcs)
  refine⟨a5,c5,by show _=[Value.int .i64 y0,.slice a5 Y.length c5];rw[hY],?_,fun ad had=>?_⟩
  ·show Bs w6 (.slice a5 Y.length c5) Y
   rw[hY];have hb:Bs (w5.alloc X) (.slice a5 q c5) Y:=by
    subst hY;exact(Bs.own hown5).keep (bal'' w5 X)
   exact hb.keepF hK2 (fun ad had h=>by
    have h1:=(hown5.lt ad.block (by rw[had];rfl)).1
    have h2:=(hvlt _ h).2
    omega)
  ·have h1:=hown5.lt ad.block (by rw[had];rfl)
   refine⟨fun h=>?_,Nat.lt_of_lt_of_le h1.2 (Nat.le_trans (by simp) hK2.size)⟩;rcases h with h|h
   ·rcases hnew with h2|⟨i,h2,h3⟩
    ·rw [h] at h2
     have:=(hvlt _ h2.symm).2;omega
    ·rw [h] at h2
     cases h2;simp at h3;omega
   ·omega
 ·have h1:(w5.alloc X).heap[i]?=wr.heap[i]?:=(cJ hb5 (Nat.le_refl _) X).block i (by omega)
  rw[←h1];refine hK2.block i (by have:=hb5.size;simp;omega) (fun h=>?_);have:=(hvlt _ h).1;omega
theorem gs {α:Type} {l:List α} {k n:Nat} (h:l.length=n) (hk:k<n):∃x,l[k]?=some x:=⟨l[k],List.getElem?_eq_getElem (by omega)⟩
def BoolPost (w:World) (V:Bool) (r:Ending) (w':World):Prop:=r=.returned (.bool V)∧Below w.heap.size w w'
def IntPost (w:World) (V:Int) (r:Ending) (w':World):Prop:=r=.returned (.int .i64 V)∧Below w.heap.size w w'
def stateOf (v:Int):Int:=if v==1 then 2 else if v==2 then 2 else if v==3 then 1 else if v==4 then 3 else if v==5 then 4 else 0
theorem state_any (n:Int) (a b c d e f g i:Value) (w:World):
  Calls Tryz.prog 33 #[.agg #[.int .i64 n,a,b,c,d,e,f,g,i]] w fun r w'=>r=.returned (.int .i64 (stateOf n))∧Below w.heap.size w w':=by
 have hb:=(Below.refl w.heap.size w).alloc (Nat.le_refl _) (.cells #[.int .i64 n,a,b,c,d,e,f,g,i] 55);go_enter Tryz.func33,Tryz.ntmps33;go_wp2
 all_goals (go_ret;refine⟨ret_int ?_,hb⟩;simp only[stateOf, *,↓reduceIte,Bool.false_eq_true])
theorem prequest_any (w:World):
  Calls Tryz.prog 32 #[] w fun r w'=>r=.returned (.agg #[.int .i64 3,.int .i64 0,.int .i64 1,.int .i64 0,.int .i64 0])∧Below w.heap.size w w':=by
 go_enter Tryz.func32,Tryz.ntmps32;go_wp2;exact bodyPost_ret (v:=.agg #[.int .i64 3,.int .i64 0,.int .i64 1,.int .i64 0,.int .i64 0]) (by simp [results,Tryz.results32,go_sem]) rfl ⟨rfl,(Below.refl _ _).alloc (Nat.le_refl _) _⟩
theorem pawake_any (w:World):
  Calls Tryz.prog 31 #[] w fun r w'=>r=.returned (.bool true)∧Below w.heap.size w w':=by
 have h1:stateOf 2=2:=rfl;have h2:stateOf 4=3:=rfl;go_enter Tryz.func31,Tryz.ntmps31;go_wp2_with (first|(go_at_call 33;refine(state_any _ _ _ _ _ _ _ _ _ _).mono ?_;rintro r w' ⟨rfl,hb⟩)|(go_at_call 32;refine(prequest_any _).mono ?_;rintro r w' ⟨rfl,hc⟩));go_ret;exact⟨rfl,bU (bU (by assumption) (by assumption)) (by assumption)⟩
theorem Keeps.setNew {F:Nat→Prop} {a w:World} (h:Keeps F a w) (p:Addr) (v:Value) (hp:a.heap.size≤p.block):Keeps F a (w.setCell p v):=
 ⟨h.os,h.tape,h.output,by simp [World.setCell];exact h.size,fun i hi hn=>by
  rw[Below.heap_setCell _ _ _ _ (by rintro rfl;omega)];exact h.block i hi hn⟩
theorem b2 (w:World) (X Y:Obj):Below w.heap.size w ((w.alloc X).alloc Y):=(bH w X).alloc (by simp) Y
theorem b3 (w:World) (X Y Z:Obj):Below w.heap.size w (((w.alloc X).alloc Y).alloc Z):=(b2 w X Y).alloc (by simp;omega) Z
def smallObs (l:List Ob):Bool:=decide (l.length≤40)&&l.all fun x=>decide (x.val.length≤300)
theorem small_no {l:List Ob} {k:Nat} {x:Ob} (h:l[k]?=some x) (hx:300<x.val.length):smallObs l=false:=by
 cases hs:smallObs l with
 |false=>rfl
 |true=>
  simp only[smallObs,Bool.and_eq_true,List.all_eq_true,decide_eq_true_eq] at hs;have:=hs.2 x (List.mem_of_getElem? h);omega
theorem objects_any (v:Value) (l:List Ob) (w:World) (ho:Obs w v l) (V:Bool) (hV:Hid (smallObs l=V)):
  Calls Tryz.prog 91 #[v] w fun r w'=>r=.returned (.bool V)∧w=w':=by
 obtain⟨a,n,c,rfl,hln,hn,hnc,hcm,hel⟩:=ho.open_;clear ho;replace hel:=bC hel;replace hln:=bC hln;go_enter Tryz.func91,Tryz.ntmps91;go_wp2;go_loop [3] (fun i=>∃k:Nat,k≤n∧i=.int .i64 k∧Hid (∀(j:Nat) (x:Ob),j<k→l[j]?=some x→x.val.length≤300)) (fun i=>n- (intOf i).toNat)
 case atStart=>exact⟨0,Nat.zero_le _,rfl,fun j x h=>by omega⟩
 case round=>
  obtain⟨k,hk,rfl,hri⟩:=hrel;by_cases hlt:k<n
  ·obtain ⟨x,hgx⟩:=get_some hln.out hlt
   obtain⟨b,o,xa,xc,rfl,d1,d2,q⟩:=hel.out k x hgx;have hxm:=q.len;unfold maxLen at hxm;have HNO:=bC (small_no hgx);have HST:=bC (show x.val.length≤300→∀(j:Nat) (u:Ob),j<k+1→l[j]?=some u→u.val.length≤300 from fun hs j u hj hu=>by
    by_cases hjk:j=k
    ·subst hjk;rw[hgx] at hu;cases hu;exact hs
    ·exact hri.out j u (by omega) hu)
   clear hgx q hri;generalize x.val.length=xn at*;have hkl:(k:Int)<(n:Int):=by omega
   by_cases hx:xn≤300
   ·have HT:=bC (HST.out hx)
    go_wp2;go_round
    case rel=>exact⟨k+1,by omega,by go_num,HT.out⟩
    case measure=>simp [intOf];omega
   ·have HF:=bC (HNO.out (by omega))
    go_wp2;go_ret;exact⟨by rw[←hV.out,HF.out];rfl,rfl⟩
  ·obtain rfl:k=n:=by omega
   have HF:Hid (V=decide (k≤40)):=by
    show V=_;rw[←hV.out];unfold smallObs;rw[hln.out,show (l.all fun x=>decide (x.val.length≤300))=true from by
     rw[List.all_eq_true]
     intro x hx
     obtain⟨j,hj⟩:=List.getElem?_of_mem hx
     exact decide_eq_true (hri.out j x (by have:=(List.getElem?_eq_some_iff.1 hj).1;have:=hln.out;omega) hj),Bool.and_true]
   go_wp2;go_ret;exact⟨by rw[HF.out];exact bO (by rw[Bool.eq_iff_iff];simp;omega),rfl⟩
def ObCs (w:World) (cs:List Value) (l:List Ob):Prop:=
 cs.length=l.length*2∧∀(i:Nat) (x:Ob),l[i]?=some x→cs[i*2]?=some (.int .i64 x.id)∧∃a c,cs[i*2+1]?=some (.slice a x.val.length c)∧Bs w (.slice a x.val.length c) x.val
theorem ObCs.nil (w:World):ObCs w [] []:=⟨rfl,fun i x hx=>by simp at hx⟩
theorem ObCs.one {w:World} {cs:List Value} {l:List Ob} (h:ObCs w cs l):∀u∈cs,u.oneCell'=true:=by
 intro u hu;obtain⟨j,hj⟩:=List.getElem?_of_mem hu;have hjl:=(List.getElem?_eq_some_iff.1 hj).1;have hlen:=h.1;obtain⟨x,hx⟩:=get_some (l:=l) (k:=j/2) rfl (by omega);obtain⟨h1,a,c,h2,_⟩:=h.2 (j/2) x hx;rcases Nat.mod_two_eq_zero_or_one j with hm|hm
 ·rw [show j/2*2=j by omega,hj] at h1
  cases h1;rfl
 ·rw [show j/2*2+1=j by omega,hj] at h2
  cases h2;rfl
theorem Obs.cells {w:World} {b o n c:Nat} {l:List Ob} (h:Obs w (.slice (some ⟨b,o,none⟩) n c) l):∃cs,ObCs w cs l∧l.length=n∧∀j u,cs[j]?=some u→w.cell? ⟨b,o+j,none⟩=some u:=by
 obtain⟨a,c',hv,h1,h2,h3,h4⟩:=h;cases hv;have hall:∀j,j<l.length*2→∃u,w.cell? ⟨b,o+j,none⟩=some u:=by
  intro j hj;obtain⟨b',o',ha,hc⟩:=h4 (by rintro rfl;simp at hj);cases ha;obtain⟨x,hx⟩:=get_some (l:=l) (k:=j/2) rfl (by omega);obtain⟨h5,v,h6,_⟩:=hc (j/2) x hx;rcases Nat.mod_two_eq_zero_or_one j with hm|hm
  ·rw [show o+j/2*2=o+j by omega] at h5;exact⟨_,h5⟩
  ·rw [show o+j/2*2+1=o+j by omega] at h6;exact⟨_,h6⟩
 have hget:∀j,j<l.length*2→((List.range (l.length*2)).map fun j=>(w.cell? ⟨b,o+j,none⟩).getD undef)[j]?=w.cell? ⟨b,o+j,none⟩:=by
  intro j hj;obtain⟨u,hu⟩:=hall j hj;simp [hj,hu]
 refine⟨(List.range (l.length*2)).map fun j=>(w.cell? ⟨b,o+j,none⟩).getD undef,⟨by simp,fun i x hx=>?_⟩,rfl,fun j u hj=>?_⟩
 ·have hi:=(List.getElem?_eq_some_iff.1 hx).1
  obtain⟨b',o',ha,hc⟩:=h4 (by rintro rfl;simp at hx);cases ha;obtain⟨h5,v,h6,h7⟩:=hc i x hx;obtain⟨xa,xc,rfl,_⟩:=id h7;refine⟨by rw[hget _ (by omega)];exact h5,xa,xc,by rw[hget _ (by omega),←Nat.add_assoc];exact h6,h7⟩
 ·have hjl:=(List.getElem?_eq_some_iff.1 hj).1
  rw[hget j (by simpa using hjl)] at hj;exact hj
theorem Obs.of_own {w:World} {base:Nat} {E:TypeId} {v:Value} {n:Nat} {cs:List Value} {l:List Ob} (h:w.ownsRow base E 2 v n cs) (hc:ObCs w cs l) (hn:l.length=n):Obs w v l:=by
 subst hn;obtain⟨hlen,h|⟨g,cap,cur,hv,hb,hh,hnc,hcm,hcs,ht⟩⟩:=h
 ·obtain ⟨rfl,h0⟩:=h
  have:l=[]:=List.eq_nil_of_length_eq_zero h0;subst this;exact Obs.nil w
 ·refine ⟨_,_,hv,hnc,hcm,fun h=>by simp at h,fun hl=>⟨g,0,rfl,fun i x hx=>?_⟩⟩
  have hi:=(List.getElem?_eq_some_iff.1 hx).1;obtain⟨h1,a,c,h2,h3⟩:=hc.2 i x hx;have hcell:∀j,j<l.length*2→w.cell? ⟨g,j,none⟩=cs[j]?:=by
   intro j hj;have h4:cur[j]?=cs[j]?:=by
    have:=take_get (n:=l.length*2) (xs:=cs) ht j (by rw[hlen];exact hj);exact this
   simp only[World.cell?,hh,Option.isSome_none];exact h4
  rw[Nat.zero_add];refine⟨by rw[hcell _ (by omega)];exact h1,_,by rw[hcell _ (by omega)];exact h2,h3⟩
theorem own_shapeR {w:World} {base:Nat} {e:TypeId} {sz n:Nat} {v:Value} {xs:List Value} (h:w.ownsRow base e sz v n xs) (hn:0<n):
  ∃g cap,v=.slice (some ⟨g,0,none⟩) n cap∧base≤g∧n≤cap∧cap≤maxLen:=by
 rcases h.2 with⟨_,h0⟩|⟨g,cap,cur,hv,hg,_,hnc,hcm,_⟩
 ·omega
 ·exact ⟨g,cap,hv,hg,hnc,hcm⟩
theorem infoO:(Tryz.prog.info? 165).map (fun i=>(i.zero,i.size,i.bytes))=some (some (.agg #[.int .i64 0,.slice none 0 0]),2,32):=by kernel_rfl
def CloneOPost (w0 w:World) (l:List Ob) (r:Ending) (w':World):Prop:=∃v' cs,r=.returned v'∧w'.ownsRow w.heap.size 165 2 v' l.length cs∧ObCs w0 cs l∧Below w.heap.size w w'
theorem cloneO_any (v:Value) (l:List Ob) (w0 w:World) (hv:Obs w0 v l) (hb0:Below w0.heap.size w0 w) (hl:l.length≤1000000):
  Calls Tryz.prog 118 #[v] w (CloneOPost w0 w l):=by
 obtain⟨i5,hi,hz0,hz1,hz2⟩:=info_parts infoO;obtain⟨a,c,rfl,hc,hcm,hac,_⟩:=id hv;unfold maxLen at hcm;have hq:=Lib.run_eql_slice_nil (P:=Tryz.prog);cases a with
 |none=>
  obtain rfl:=hac rfl;have hl0:l.length=0:=by omega
  have:l=[]:=List.eq_nil_of_length_eq_zero hl0;subst this;clear hv;go_enter Tryz.func118,Tryz.ntmps118;go_wp2;go_ret;exact⟨_,[],rfl,World.ownsRow_nil _ _ _ _,ObCs.nil _,Below.refl _ _⟩
 |some a=>
  by_cases hne:l=[]
  ·subst hne
   clear hv;go_enter Tryz.func118,Tryz.ntmps118;go_wp2_with (at_builtin;refine bZ rfl _ _ 51 rfl w.heap.size 165 i5 _ 2 32 Tryz.underlying51 hi hz0 hz1 hz2 rfl (by decide) _ 0 [] rfl (World.ownsRow_made _ _ _ (Nat.le_refl _) (by decide) rfl) a 0 c [] rfl rfl (by simp) (by simp) (by unfold maxLen;omega) (by omega) (by simp) ?c3)
   case c3=>
    intro v' w1 hown hgr _;have hbel:=(bH w (.cells #[] 165)).grown hgr (bH w (.cells #[] 165)).size (by intro k hk;simp [Value.ownBlock] at hk;omega);clear hgr;go_wp2;go_ret;exact⟨_,_,rfl,hown,ObCs.nil _,hbel⟩
  ·obtain ⟨b,o,c',hv1,_⟩:=hv.at hne
   simp only[Value.slice.injEq,Option.some.injEq,true_and] at hv1;obtain⟨rfl,rfl⟩:=hv1;obtain⟨cs,hcs,_,hcell⟩:=hv.cells;have H1:=hcs.one;have HCS:=bC hcs;have HL:=bC hcs.1;have hcell':Hid (∀j u,cs[j]?=some u→(w.alloc (.cells #[] 165)).cell? ((⟨b,o,none⟩:Addr).add j)=some u):=fun j u hj=>by
    have e1:(⟨b,o,none⟩:Addr).add j=⟨b,o+j,none⟩:=by unfold Addr.add;split<;>simp_all
    rw[e1];exact bD (bH w _) (bD hb0 (hcell j u hj))
   replace H1:=bC H1;clear hv hcs hcell hne hb0;go_enter Tryz.func118,Tryz.ntmps118;go_wp2_with (at_builtin;refine bZ rfl _ _ 51 rfl w.heap.size 165 i5 _ 2 32 Tryz.underlying51 hi hz0 hz1 hz2 rfl (by decide) _ 0 [] rfl (World.ownsRow_made _ _ _ (Nat.le_refl _) (by decide) rfl) ⟨b,o,none⟩ l.length c cs rfl HL.out hcell'.out H1.out (by unfold maxLen;omega) (by omega) (by simp) ?c3)
   case c3=>
    intro v' w1 hown hgr _;have hbel:=(bH w (.cells #[] 165)).grown hgr (bH w (.cells #[] 165)).size (by intro k hk;simp [Value.ownBlock] at hk;omega);have hown':=bC (show w1.ownsRow w.heap.size 165 2 v' l.length cs by simpa using hown);have HC2:=HCS;clear hgr hown;go_wp2;go_ret;exact⟨_,_,rfl,hown'.out,HC2.out,hbel⟩
def ObCg (F:Nat→Prop) (w:World) (cs:List Value) (l:List Ob):Prop:=
 cs.length=l.length*2∧∀(i:Nat) (x:Ob),l[i]?=some x→cs[i*2]?=some (.int .i64 x.id)∧∃a c,cs[i*2+1]?=some (.slice a x.val.length c)∧Bs w (.slice a x.val.length c) x.val∧(x.val≠[]→∀ad,a=some ad→¬F ad.block)
theorem ObCg.cs {F:Nat→Prop} {w:World} {cs:List Value} {l:List Ob} (h:ObCg F w cs l):ObCs w cs l:=
 ⟨h.1,fun i x hx=>by
  obtain⟨h1,a,c,h2,h3,_⟩:=h.2 i x hx
  exact⟨h1,a,c,h2,h3⟩⟩
theorem Bs.block {w:World} {a:Option Addr} {n c:Nat} {l:List UInt8} (h:Bs w (.slice a n c) l) (hl:l≠[]):∀ad,a=some ad→ad.block<w.heap.size:=by
 obtain⟨a',c',hv,h1,h2,h3,h4⟩:=h;cases hv;obtain⟨b,o,ha,hc⟩:=h4 hl;intro ad had;rw[ha] at had;cases had;have:=cell_lt (hc 0 (by cases l with|nil=>exact absurd rfl hl|cons x l=>simp));exact this
theorem Bs.keepsN {w w':World} {F:Nat→Prop} {a:Option Addr} {n c:Nat} {l:List UInt8} (h:Bs w (.slice a n c) l) (hk:Keeps F w w') (hn:l≠[]→∀ad,a=some ad→¬F ad.block):Bs w' (.slice a n c) l:=by
 obtain⟨a',c',hv,h1,h2,h3,h4⟩:=h;cases hv;refine⟨a,c,rfl,h1,h2,h3,fun hl=>?_⟩;obtain⟨b,o,ha,hc⟩:=h4 hl;exact⟨b,o,ha,fun i hi=>hk.cell (hc i hi) (show ¬F b from hn hl _ ha)⟩
theorem ObCg.of {F:Nat→Prop} {w w':World} {cs:List Value} {l:List Ob} (h:ObCs w cs l) (hb:Below w.heap.size w w') (hF:∀k,k<w.heap.size→¬F k):ObCg F w' cs l:=
 ⟨h.1,fun i x hx=>by
  obtain⟨h1,a,c,h2,h3⟩:=h.2 i x hx
  exact⟨h1,a,c,h2,h3.keep hb,fun hl ad had=>hF _ (h3.block hl ad had)⟩⟩
theorem ObCg.keeps {F G:Nat→Prop} {w w':World} {cs:List Value} {l:List Ob} (h:ObCg F w cs l) (hk:Keeps G w w') (hG:∀k,G k→F k):ObCg F w' cs l:=
 ⟨h.1,fun i x hx=>by
  obtain⟨h1,a,c,h2,h3,h4⟩:=h.2 i x hx
  exact⟨h1,a,c,h2,h3.keepsN hk (fun hl ad had g=>h4 hl ad had (hG _ g)),h4⟩⟩
theorem ObCg.set {F:Nat→Prop} {w:World} {cs:List Value} {l:List Ob} (h:ObCg F w cs l) {k:Nat} {x:Ob} (hx:l[k]?=some x) {a:Option Addr} {c:Nat} (hb:Bs w (.slice a x.val.length c) x.val) (hF:x.val≠[]→∀ad,a=some ad→¬F ad.block):
  ObCg F w (cs.set (k*2+1) (.slice a x.val.length c)) l:=by
 refine⟨by simpa using h.1,fun i y hy=>?_⟩;obtain⟨h1,a',c',h2,h3,h4⟩:=h.2 i y hy;have hi:=(List.getElem?_eq_some_iff.1 hy).1;have hk:=(List.getElem?_eq_some_iff.1 hx).1;by_cases hik:i=k
 ·subst hik
  rw[hx] at hy;cases hy;refine⟨?_,a,c,?_,hb,hF⟩
  ·rw [List.getElem?_set_ne (by omega)];exact h1
  ·rw [List.getElem?_set_self (by have:=h.1;omega)]
 ·refine ⟨?_,a',c',?_,h3,h4⟩
  ·rw [List.getElem?_set_ne (by omega)];exact h1
  ·rw [List.getElem?_set_ne (by omega)];exact h2
theorem heap_setO {w:World} {b k i:Nat} {u:Value} (h:k≠b):(w.setCell ⟨b,i,none⟩ u).heap[k]?=w.heap[k]?:=Below.heap_setCell _ _ _ _ h
theorem cell_heap {w:World} {b:Nat} {c:Array Value} {t:TypeId} {fz:Nat×Nat} (h:w.heap[b]?=some (.cells c t fz)) (i:Nat):w.cell? ⟨b,i,none⟩=c[i]?:=by simp [World.cell?,h]
theorem win_index0 (win:Nat→Int×Int) (W:World):(Instr.index 25 (.agg #[.int .i64 (win 0).1,.int .i64 (win 0).2,.int .i64 (win 1).1,.int .i64 (win 1).2,.int .i64 (win 2).1,.int .i64 (win 2).2,.int .i64 (win 3).1,.int .i64 (win 3).2]) (.int .i64 0)).run Tryz.prog W=.ok (.agg #[.int .i64 (win 0).1,.int .i64 (win 0).2]) W:=by kernel_rfl
theorem win_index1 (win:Nat→Int×Int) (W:World):(Instr.index 25 (.agg #[.int .i64 (win 0).1,.int .i64 (win 0).2,.int .i64 (win 1).1,.int .i64 (win 1).2,.int .i64 (win 2).1,.int .i64 (win 2).2,.int .i64 (win 3).1,.int .i64 (win 3).2]) (.int .i64 1)).run Tryz.prog W=.ok (.agg #[.int .i64 (win 1).1,.int .i64 (win 1).2]) W:=by kernel_rfl
theorem win_index2 (win:Nat→Int×Int) (W:World):(Instr.index 25 (.agg #[.int .i64 (win 0).1,.int .i64 (win 0).2,.int .i64 (win 1).1,.int .i64 (win 1).2,.int .i64 (win 2).1,.int .i64 (win 2).2,.int .i64 (win 3).1,.int .i64 (win 3).2]) (.int .i64 2)).run Tryz.prog W=.ok (.agg #[.int .i64 (win 2).1,.int .i64 (win 2).2]) W:=by kernel_rfl
theorem win_index3 (win:Nat→Int×Int) (W:World):(Instr.index 25 (.agg #[.int .i64 (win 0).1,.int .i64 (win 0).2,.int .i64 (win 1).1,.int .i64 (win 1).2,.int .i64 (win 2).1,.int .i64 (win 2).2,.int .i64 (win 3).1,.int .i64 (win 3).2]) (.int .i64 3)).run Tryz.prog W=.ok (.agg #[.int .i64 (win 3).1,.int .i64 (win 3).2]) W:=by kernel_rfl
theorem win_index (win:Nat→Int×Int) (k:Nat) (hk:k<4) (W:World):(Instr.index 25 (.agg #[.int .i64 (win 0).1,.int .i64 (win 0).2,.int .i64 (win 1).1,.int .i64 (win 1).2,.int .i64 (win 2).1,.int .i64 (win 2).2,.int .i64 (win 3).1,.int .i64 (win 3).2]) (.int .i64 (k:Int))).run Tryz.prog W=.ok (.agg #[.int .i64 (win k).1,.int .i64 (win k).2]) W:=by
 match k,hk with
 |0,_=>exact win_index0 win W
 |1,_=>exact win_index1 win W
 |2,_=>exact win_index2 win W
 |3,_=>exact win_index3 win W
def Ns (w:World) (v:Value) (l:List Int):Prop:=
 (∃a c,v=.slice a l.length c∧l.length≤c∧c≤maxLen∧(a=none→c=0)∧
  (l≠[]→∃b o,a=some ⟨b,o,none⟩∧∀i,i<l.length→w.cell? ⟨b,o+i,none⟩=some (.int .i64 (l.getD i 0))))∧∀n∈l,(Lit.int .i64 n).wf=true
theorem Ns.nil (w:World):Ns w (.slice none 0 0) []:=⟨⟨none,0,rfl,Nat.le_refl _,Nat.zero_le _,fun _=>rfl,fun h=>absurd rfl h⟩,by simp⟩
def WgC (win:Nat→Int×Int):Array Value:=#[.int .i64 (win 0).1,.int .i64 (win 0).2,.int .i64 (win 1).1,.int .i64 (win 1).2,.int .i64 (win 2).1,.int .i64 (win 2).2,.int .i64 (win 3).1,.int .i64 (win 3).2]
def WgI (W:World) (b:Nat) (win:Nat→Int×Int):Prop:=W.heap[b]?=some (.cells (WgC win) 25)
theorem WgI.first {W:World} {b:Nat} {win:Nat→Int×Int} (h:WgI W b win) {k:Nat} (hk:k<4):W.cell? ⟨b,k*2,none⟩=some (.int .i64 (win k).1):=by
 rw[bA h]
 match k,hk with
 |0,_=>rfl
 |1,_=>rfl
 |2,_=>rfl
 |3,_=>rfl
theorem WgI.count {W:World} {b:Nat} {win:Nat→Int×Int} (h:WgI W b win) {k:Nat} (hk:k<4):W.cell? ⟨b,k*2+1,none⟩=some (.int .i64 (win k).2):=by
 rw[bA h]
 match k,hk with
 |0,_=>rfl
 |1,_=>rfl
 |2,_=>rfl
 |3,_=>rfl
def wfI (n:Int):Prop:=-9223372036854775808≤n∧n≤9223372036854775807
abbrev bW:=@cell_heap
abbrev cP:=@pawake_any
end Go.Proofs.YtoaoejaodhedaaaGreat
