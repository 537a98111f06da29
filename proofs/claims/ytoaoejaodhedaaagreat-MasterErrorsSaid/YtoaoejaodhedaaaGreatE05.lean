/-
 Texts 5 of the claim.
-/
import Derived.Test.YtoaoejaodhedaaaGreatE04
import Derived.Test.YtoaoejaodhedaaaGreatE01
import Derived.Test.YtoaoejaodhedaaaGreatE02
import Derived.Laws.Rows
import Derived.OpenShut
namespace Go.Proofs.YtoaoejaodhedaaaGreat
open Go.RowKit
set_option maxHeartbeats 1600000
theorem b2 (w:World) (X Y:Obj):Below w.heap.size w ((w.alloc X).alloc Y):=(bal' w X).alloc (by simp) Y
theorem b3 (w:World) (X Y Z:Obj):Below w.heap.size w (((w.alloc X).alloc Y).alloc Z):=(b2 w X Y).alloc (by simp;omega) Z
def smallObs (l:List Ob):Bool:=decide (l.length≤40)&&l.all fun x=>decide (x.val.length≤300)
def Rp.small (r:Rp):Bool:=decide (r.data.length≤300)&&smallObs r.objs
def ObCs (w:World) (cs:List Value) (l:List Ob):Prop:=
 cs.length=l.length*2∧∀(i:Nat) (x:Ob),l[i]?=some x→cs[i*2]?=some (.int .i64 x.id)∧∃a c,cs[i*2+1]?=some (.slice a x.val.length c)∧Bs w (.slice a x.val.length c) x.val
theorem ObCs.keep {w w':World} {cs:List Value} {l:List Ob} (h:ObCs w cs l) (hb:Below w.heap.size w w'):ObCs w' cs l:=
 ⟨h.1,fun i x hx=>by
  obtain⟨h1,a,c,h2,h3⟩:=h.2 i x hx
  exact⟨h1,a,c,h2,h3.keep hb⟩⟩
theorem ObCs.nil (w:World):ObCs w [] []:=⟨rfl,fun i x hx=>by simp at hx⟩
theorem ObCs.one {w:World} {cs:List Value} {l:List Ob} (h:ObCs w cs l):∀u∈cs,u.oneCell'=true:=by
 intro u hu
 obtain⟨j,hj⟩:=List.getElem?_of_mem hu
 have hjl:=(List.getElem?_eq_some_iff.1 hj).1
 have hlen:=h.1
 obtain⟨x,hx⟩:=get_some (l:=l) (k:=j/2) rfl (by omega)
 obtain⟨h1,a,c,h2,_⟩:=h.2 (j/2) x hx
 rcases Nat.mod_two_eq_zero_or_one j with hm|hm
 ·rw [show j/2*2=j by omega,hj] at h1
  cases h1;rfl
 ·rw [show j/2*2+1=j by omega,hj] at h2
  cases h2;rfl
theorem Obs.cells {w:World} {b o n c:Nat} {l:List Ob} (h:Obs w (.slice (some ⟨b,o,none⟩) n c) l):∃cs,ObCs w cs l∧l.length=n∧∀j u,cs[j]?=some u→w.cell? ⟨b,o+j,none⟩=some u:=by
 obtain⟨a,c',hv,h1,h2,h3,h4⟩:=h
 cases hv
 have hall:∀j,j<l.length*2→∃u,w.cell? ⟨b,o+j,none⟩=some u:=by
  intro j hj
  obtain⟨b',o',ha,hc⟩:=h4 (by rintro rfl;simp at hj)
  cases ha
  obtain⟨x,hx⟩:=get_some (l:=l) (k:=j/2) rfl (by omega)
  obtain⟨h5,v,h6,_⟩:=hc (j/2) x hx
  rcases Nat.mod_two_eq_zero_or_one j with hm|hm
  ·rw [show o+j/2*2=o+j by omega] at h5;exact⟨_,h5⟩
  ·rw [show o+j/2*2+1=o+j by omega] at h6;exact⟨_,h6⟩
 have hget:∀j,j<l.length*2→((List.range (l.length*2)).map fun j=>(w.cell? ⟨b,o+j,none⟩).getD undef)[j]?=w.cell? ⟨b,o+j,none⟩:=by
  intro j hj
  obtain⟨u,hu⟩:=hall j hj
  simp [hj,hu]
 refine⟨(List.range (l.length*2)).map fun j=>(w.cell? ⟨b,o+j,none⟩).getD undef,⟨by simp,fun i x hx=>?_⟩,rfl,fun j u hj=>?_⟩
 ·have hi:=(List.getElem?_eq_some_iff.1 hx).1
  obtain⟨b',o',ha,hc⟩:=h4 (by rintro rfl;simp at hx)
  cases ha
  obtain⟨h5,v,h6,h7⟩:=hc i x hx
  obtain⟨xa,xc,rfl,_⟩:=id h7
  refine⟨by rw[hget _ (by omega)];exact h5,xa,xc,by rw[hget _ (by omega),←Nat.add_assoc];exact h6,h7⟩
 ·have hjl:=(List.getElem?_eq_some_iff.1 hj).1
  rw[hget j (by simpa using hjl)] at hj
  exact hj
theorem Obs.of_own {w:World} {base:Nat} {E:TypeId} {v:Value} {n:Nat} {cs:List Value} {l:List Ob} (h:w.ownsRow base E 2 v n cs) (hc:ObCs w cs l) (hn:l.length=n):Obs w v l:=by
 subst hn
 obtain⟨hlen,h|⟨g,cap,cur,hv,hb,hh,hnc,hcm,hcs,ht⟩⟩:=h
 ·obtain ⟨rfl,h0⟩:=h
  have:l=[]:=List.eq_nil_of_length_eq_zero h0
  subst this
  exact Obs.nil w
 ·refine ⟨_,_,hv,hnc,hcm,fun h=>by simp at h,fun hl=>⟨g,0,rfl,fun i x hx=>?_⟩⟩
  have hi:=(List.getElem?_eq_some_iff.1 hx).1
  obtain⟨h1,a,c,h2,h3⟩:=hc.2 i x hx
  have hcell:∀j,j<l.length*2→w.cell? ⟨g,j,none⟩=cs[j]?:=by
   intro j hj
   have h4:cur[j]?=cs[j]?:=by
    have:=take_get (n:=l.length*2) (xs:=cs) ht j (by rw[hlen];exact hj)
    exact this
   simp only[World.cell?,hh,Option.isSome_none]
   exact h4
  rw[Nat.zero_add]
  refine⟨by rw[hcell _ (by omega)];exact h1,_,by rw[hcell _ (by omega)];exact h2,h3⟩
theorem own_shapeR {w:World} {base:Nat} {e:TypeId} {sz n:Nat} {v:Value} {xs:List Value} (h:w.ownsRow base e sz v n xs) (hn:0<n):
  ∃g cap,v=.slice (some ⟨g,0,none⟩) n cap∧base≤g∧n≤cap∧cap≤maxLen:=by
 rcases h.2 with⟨_,h0⟩|⟨g,cap,cur,hv,hg,_,hnc,hcm,_⟩
 ·omega
 ·exact ⟨g,cap,hv,hg,hnc,hcm⟩
theorem infoO:(Tryz.prog.info? 165).map (fun i=>(i.zero,i.size,i.bytes))=some (some (.agg #[.int .i64 0,.slice none 0 0]),2,32):=by kernel_rfl
def CloneOPost (w0 w:World) (l:List Ob) (r:Ending) (w':World):Prop:=∃v' cs,r=.returned v'∧w'.ownsRow w.heap.size 165 2 v' l.length cs∧ObCs w0 cs l∧Below w.heap.size w w'
theorem cloneO_any (v:Value) (l:List Ob) (w0 w:World) (hv:Obs w0 v l) (hb0:Below w0.heap.size w0 w) (hl:l.length≤1000000):
  Calls Tryz.prog 118 #[v] w (CloneOPost w0 w l):=by
 obtain⟨i5,hi,hz0,hz1,hz2⟩:=info_parts infoO
 obtain⟨a,c,rfl,hc,hcm,hac,_⟩:=id hv
 unfold maxLen at hcm
 have hq:=Lib.run_eql_slice_nil (P:=Tryz.prog)
 cases a with
 |none=>
  obtain rfl:=hac rfl
  have hl0:l.length=0:=by omega
  have:l=[]:=List.eq_nil_of_length_eq_zero hl0
  subst this
  clear hv
  go_enter Tryz.func118,Tryz.ntmps118
  go_wp2
  go_ret
  exact⟨_,[],rfl,World.ownsRow_nil _ _ _ _,ObCs.nil _,Below.refl _ _⟩
 |some a=>
  by_cases hne:l=[]
  ·subst hne
   clear hv
   go_enter Tryz.func118,Tryz.ntmps118
   go_wp2_with (at_builtin;refine wpList_appN rfl _ _ 51 rfl w.heap.size 165 i5 _ 2 32 Tryz.underlying51 hi hz0 hz1 hz2 rfl (by decide) _ 0 [] rfl (World.ownsRow_made _ _ _ (Nat.le_refl _) (by decide) rfl) a 0 c [] rfl rfl (by simp) (by simp) (by unfold maxLen;omega) (by omega) (by simp) ?c3)
   case c3=>
    intro v' w1 hown hgr _
    have hbel:=(bal' w (.cells #[] 165)).grown hgr (bal' w (.cells #[] 165)).size (by intro k hk;simp [Value.ownBlock] at hk;omega)
    clear hgr
    go_wp2
    go_ret
    exact⟨_,_,rfl,hown,ObCs.nil _,hbel⟩
  ·obtain ⟨b,o,c',hv1,_⟩:=hv.at hne
   simp only[Value.slice.injEq,Option.some.injEq,true_and] at hv1
   obtain⟨rfl,rfl⟩:=hv1
   obtain⟨cs,hcs,_,hcell⟩:=hv.cells
   have H1:=hcs.one
   have HCS:=hid hcs
   have HL:=hid hcs.1
   have hcell':Hid (∀j u,cs[j]?=some u→(w.alloc (.cells #[] 165)).cell? ((⟨b,o,none⟩:Addr).add j)=some u):=fun j u hj=>by
    have e1:(⟨b,o,none⟩:Addr).add j=⟨b,o+j,none⟩:=by unfold Addr.add;split<;>simp_all
    rw[e1]
    exact cell_keep (bal' w _) (cell_keep hb0 (hcell j u hj))
   replace H1:=hid H1
   clear hv hcs hcell hne hb0
   go_enter Tryz.func118,Tryz.ntmps118
   go_wp2_with (at_builtin;refine wpList_appN rfl _ _ 51 rfl w.heap.size 165 i5 _ 2 32 Tryz.underlying51 hi hz0 hz1 hz2 rfl (by decide) _ 0 [] rfl (World.ownsRow_made _ _ _ (Nat.le_refl _) (by decide) rfl) ⟨b,o,none⟩ l.length c cs rfl HL.out hcell'.out H1.out (by unfold maxLen;omega) (by omega) (by simp) ?c3)
   case c3=>
    intro v' w1 hown hgr _
    have hbel:=(bal' w (.cells #[] 165)).grown hgr (bal' w (.cells #[] 165)).size (by intro k hk;simp [Value.ownBlock] at hk;omega)
    have hown':=hid (show w1.ownsRow w.heap.size 165 2 v' l.length cs by simpa using hown)
    have HC2:=HCS
    clear hgr hown
    go_wp2
    go_ret
    exact⟨_,_,rfl,hown'.out,HC2.out,hbel⟩
def ObCg (F:Nat→Prop) (w:World) (cs:List Value) (l:List Ob):Prop:=
 cs.length=l.length*2∧∀(i:Nat) (x:Ob),l[i]?=some x→cs[i*2]?=some (.int .i64 x.id)∧∃a c,cs[i*2+1]?=some (.slice a x.val.length c)∧Bs w (.slice a x.val.length c) x.val∧(x.val≠[]→∀ad,a=some ad→¬F ad.block)
theorem ObCg.cs {F:Nat→Prop} {w:World} {cs:List Value} {l:List Ob} (h:ObCg F w cs l):ObCs w cs l:=
 ⟨h.1,fun i x hx=>by
  obtain⟨h1,a,c,h2,h3,_⟩:=h.2 i x hx
  exact⟨h1,a,c,h2,h3⟩⟩
theorem Bs.block {w:World} {a:Option Addr} {n c:Nat} {l:List UInt8} (h:Bs w (.slice a n c) l) (hl:l≠[]):∀ad,a=some ad→ad.block<w.heap.size:=by
 obtain⟨a',c',hv,h1,h2,h3,h4⟩:=h
 cases hv
 obtain⟨b,o,ha,hc⟩:=h4 hl
 intro ad had
 rw[ha] at had
 cases had
 have:=cell_lt (hc 0 (by cases l with|nil=>exact absurd rfl hl|cons x l=>simp))
 exact this
theorem Bs.keepsN {w w':World} {F:Nat→Prop} {a:Option Addr} {n c:Nat} {l:List UInt8} (h:Bs w (.slice a n c) l) (hk:Keeps F w w') (hn:l≠[]→∀ad,a=some ad→¬F ad.block):Bs w' (.slice a n c) l:=by
 obtain⟨a',c',hv,h1,h2,h3,h4⟩:=h
 cases hv
 refine⟨a,c,rfl,h1,h2,h3,fun hl=>?_⟩
 obtain⟨b,o,ha,hc⟩:=h4 hl
 exact⟨b,o,ha,fun i hi=>hk.cell (hc i hi) (show ¬F b from hn hl _ ha)⟩
theorem ObCg.of {F:Nat→Prop} {w w':World} {cs:List Value} {l:List Ob} (h:ObCs w cs l) (hb:Below w.heap.size w w') (hF:∀k,k<w.heap.size→¬F k):ObCg F w' cs l:=
 ⟨h.1,fun i x hx=>by
  obtain⟨h1,a,c,h2,h3⟩:=h.2 i x hx
  exact⟨h1,a,c,h2,h3.keep hb,fun hl ad had=>hF _ (h3.block hl ad had)⟩⟩
theorem ObCg.keeps {F G:Nat→Prop} {w w':World} {cs:List Value} {l:List Ob} (h:ObCg F w cs l) (hk:Keeps G w w') (hG:∀k,G k→F k):ObCg F w' cs l:=
 ⟨h.1,fun i x hx=>by
  obtain⟨h1,a,c,h2,h3,h4⟩:=h.2 i x hx
  exact⟨h1,a,c,h2,h3.keepsN hk (fun hl ad had g=>h4 hl ad had (hG _ g)),h4⟩⟩
theorem ObCg.set {F:Nat→Prop} {w:World} {cs:List Value} {l:List Ob} (h:ObCg F w cs l) {k:Nat} {x:Ob} (hx:l[k]?=some x) {a:Option Addr} {c:Nat} (hb:Bs w (.slice a x.val.length c) x.val) (hF:x.val≠[]→∀ad,a=some ad→¬F ad.block):
  ObCg F w (cs.set (k*2+1) (.slice a x.val.length c)) l:=by
 refine⟨by simpa using h.1,fun i y hy=>?_⟩
 obtain⟨h1,a',c',h2,h3,h4⟩:=h.2 i y hy
 have hi:=(List.getElem?_eq_some_iff.1 hy).1
 have hk:=(List.getElem?_eq_some_iff.1 hx).1
 by_cases hik:i=k
 ·subst hik
  rw[hx] at hy
  cases hy
  refine⟨?_,a,c,?_,hb,hF⟩
  ·rw [List.getElem?_set_ne (by omega)];exact h1
  ·rw [List.getElem?_set_self (by have:=h.1;omega)]
 ·refine ⟨?_,a',c',?_,h3,h4⟩
  ·rw [List.getElem?_set_ne (by omega)];exact h1
  ·rw [List.getElem?_set_ne (by omega)];exact h2
theorem heap_setO {w:World} {b k i:Nat} {u:Value} (h:k≠b):(w.setCell ⟨b,i,none⟩ u).heap[k]?=w.heap[k]?:=Below.heap_setCell _ _ _ _ h
theorem cell_heap {w:World} {b:Nat} {c:Array Value} {t:TypeId} {fz:Nat×Nat} (h:w.heap[b]?=some (.cells c t fz)) (i:Nat):w.cell? ⟨b,i,none⟩=c[i]?:=by simp [World.cell?,h]
theorem win_index0 (win:Nat→Int×Int) (W:World):(Instr.index 25 (.agg #[.int .i64 (win 0).1,.int .i64 (win 0).2,.int .i64 (win 1).1,.int .i64 (win 1).2,.int .i64 (win 2).1,.int .i64 (win 2).2,.int .i64 (win 3).1,.int .i64 (win 3).2]) (.int .i64 0)).run Tryz.prog W=.ok (.agg #[.int .i64 (win 0).1,.int .i64 (win 0).2]) W:=by kernel_rfl
theorem win_index1 (win:Nat→Int×Int) (W:World):(Instr.index 25 (.agg #[.int .i64 (win 0).1,.int .i64 (win 0).2,.int .i64 (win 1).1,.int .i64 (win 1).2,.int .i64 (win 2).1,.int .i64 (win 2).2,.int .i64 (win 3).1,.int .i64 (win 3).2]) (.int .i64 1)).run Tryz.prog W=.ok (.agg #[.int .i64 (win 1).1,.int .i64 (win 1).2]) W:=by kernel_rfl
theorem win_index2 (win:Nat→Int×Int) (W:World):(Instr.index 25 (.agg #[.int .i64 (win 0).1,.int .i64 (win 0).2,.int .i64 (win 1).1,.int .i64 (win 1).2,.int .i64 (win 2).1,.int .i64 (win 2).2,.int .i64 (win 3).1,.int .i64 (win 3).2]) (.int .i64 2)).run Tryz.prog W=.ok (.agg #[.int .i64 (win 2).1,.int .i64 (win 2).2]) W:=by kernel_rfl
theorem win_index3 (win:Nat→Int×Int) (W:World):(Instr.index 25 (.agg #[.int .i64 (win 0).1,.int .i64 (win 0).2,.int .i64 (win 1).1,.int .i64 (win 1).2,.int .i64 (win 2).1,.int .i64 (win 2).2,.int .i64 (win 3).1,.int .i64 (win 3).2]) (.int .i64 3)).run Tryz.prog W=.ok (.agg #[.int .i64 (win 3).1,.int .i64 (win 3).2]) W:=by kernel_rfl
theorem win_index (win:Nat→Int×Int) (k:Nat) (hk:k<4) (W:World):(Instr.index 25 (.agg #[.int .i64 (win 0).1,.int .i64 (win 0).2,.int .i64 (win 1).1,.int .i64 (win 1).2,.int .i64 (win 2).1,.int .i64 (win 2).2,.int .i64 (win 3).1,.int .i64 (win 3).2]) (.int .i64 (k:Int))).run Tryz.prog W=.ok (.agg #[.int .i64 (win k).1,.int .i64 (win k).2]) W:=by
 match k,hk with
 |0,_=>exact win_index0 win W
 |1,_=>exact win_index1 win W
 |2,_=>exact win_index2 win W
 |3,_=>exact win_index3 win W
def Ns (w:World) (v:Value) (l:List Int):Prop:=
 (∃a c,v=.slice a l.length c∧l.length≤c∧c≤maxLen∧(a=none→c=0)∧
  (l≠[]→∃b o,a=some ⟨b,o,none⟩∧∀i,i<l.length→w.cell? ⟨b,o+i,none⟩=some (.int .i64 (l.getD i 0))))∧∀n∈l,(Lit.int .i64 n).wf=true
theorem Ns.nil (w:World):Ns w (.slice none 0 0) []:=⟨⟨none,0,rfl,Nat.le_refl _,Nat.zero_le _,fun _=>rfl,fun h=>absurd rfl h⟩,by simp⟩
theorem Ns.keep {w w':World} {v:Value} {l:List Int} (h:Ns w v l) (hb:Below w.heap.size w w'):Ns w' v l:=by
 obtain⟨⟨a,c,hv,h1,h2,h3,h4⟩,h5⟩:=h
 refine⟨⟨a,c,hv,h1,h2,h3,fun hl=>?_⟩,h5⟩
 obtain⟨b,o,ha,hc⟩:=h4 hl
 exact⟨b,o,ha,fun i hi=>by rw[hb.cell (cell_lt (hc i hi))];exact hc i hi⟩
theorem Ns.at {w:World} {v:Value} {l:List Int} (h:Ns w v l) (hl:l≠[]):
  ∃b o c,v=.slice (some ⟨b,o,none⟩) l.length c∧l.length≤c∧c≤maxLen∧∀i,i<l.length→w.cell? ⟨b,o+i,none⟩=some (.int .i64 (l.getD i 0)):=by
 obtain⟨⟨a,c,hv,h1,h2,h3,h4⟩,_⟩:=h
 obtain⟨b,o,rfl,hc⟩:=h4 hl
 exact⟨b,o,c,hv,h1,h2,hc⟩
theorem Ns.row {w:World} {a:Option Addr} {len cap:Nat} {zs:List Int}
  (h:(a=none∧len=0∧cap=0∧zs=[])∨
   ∃x,a=some x∧len≤cap∧cap≤maxLen∧zs.length=cap∧(∀i,i<zs.length→w.cell? (x.add i)=some (.int .i64 (zs.getD i 0)))∧∀n∈zs,(Lit.int .i64 n).wf=true):
  ∃l,Ns w (.slice a len cap) l∧l.length=len:=by
 rcases h with⟨rfl,rfl,rfl,rfl⟩|⟨x,rfl,hl,hm,hz,hc,hw⟩
 ·exact ⟨[],Ns.nil w,rfl⟩
 ·have e1:(zs.take len).length=len:=by simp;omega
  refine⟨zs.take len,⟨⟨some x,cap,by rw[e1],by omega,hm,fun h=>by simp at h,fun hne=>?_⟩,fun n hn=>hw n (List.mem_of_mem_take hn)⟩,e1⟩
  have hpos:0<len:=by
   rcases Nat.eq_zero_or_pos len with h|h
   ·subst h;simp at hne
   ·exact h
  obtain⟨b,off,spot⟩:=x
  have h0:=hc 0 (by omega)
  have hspot:spot=none:=by simpa [Addr.add] using World.cell?_spot h0
  subst hspot
  refine⟨b,off,rfl,fun i hi=>?_⟩
  rw[e1] at hi
  have e2:(⟨b,off,none⟩:Addr).add i=⟨b,off+i,none⟩:=by unfold Addr.add;split<;>simp_all
  have h3:=hc i (by omega)
  rw[e2] at h3
  rw[h3]
  simp [List.getD,hi]
def WgC (win:Nat→Int×Int):Array Value:=#[.int .i64 (win 0).1,.int .i64 (win 0).2,.int .i64 (win 1).1,.int .i64 (win 1).2,.int .i64 (win 2).1,.int .i64 (win 2).2,.int .i64 (win 3).1,.int .i64 (win 3).2]
def WgI (W:World) (b:Nat) (win:Nat→Int×Int):Prop:=W.heap[b]?=some (.cells (WgC win) 25)
theorem WgI.first {W:World} {b:Nat} {win:Nat→Int×Int} (h:WgI W b win) {k:Nat} (hk:k<4):W.cell? ⟨b,k*2,none⟩=some (.int .i64 (win k).1):=by
 rw[hpCell h]
 match k,hk with
 |0,_=>rfl
 |1,_=>rfl
 |2,_=>rfl
 |3,_=>rfl
theorem WgI.count {W:World} {b:Nat} {win:Nat→Int×Int} (h:WgI W b win) {k:Nat} (hk:k<4):W.cell? ⟨b,k*2+1,none⟩=some (.int .i64 (win k).2):=by
 rw[hpCell h]
 match k,hk with
 |0,_=>rfl
 |1,_=>rfl
 |2,_=>rfl
 |3,_=>rfl
def wfI (n:Int):Prop:=-9223372036854775808≤n∧n≤9223372036854775807
end Go.Proofs.YtoaoejaodhedaaaGreat
