import Derived.Test.YtoaoejaodhedaaaGreatQ19
import Derived.ArgAppend
namespace Go.Proofs.YtoaoejaodhedaaaGreat
open Go.RowKit
set_option maxHeartbeats 3200000
set_option maxRecDepth 100000
def GrowP (P:Nat→Prop) (W w':World) (j:Nat):Prop:=P j∨(W.heap.size≤j∧j<w'.heap.size)
theorem GrowP.lt {P:Nat→Prop} {W w':World} {j:Nat} (h:GrowP P W w' j) (hp:∀j,P j→j<W.heap.size) (hs:W.heap.size≤w'.heap.size):j<w'.heap.size:=by
 rcases h with h|h
 ·exact Nat.lt_of_lt_of_le (hp j h) hs
 ·exact h.2
theorem GrowP.trans {P:Nat→Prop} {W X Y:World} {j:Nat} (h:GrowP (GrowP P W X) X Y j) (h1:W.heap.size≤X.heap.size) (h2:X.heap.size≤Y.heap.size):GrowP P W Y j:=by
 rcases h with(h|⟨a,b⟩)|⟨a,b⟩
 ·exact .inl h
 ·exact .inr ⟨a,by omega⟩
 ·exact .inr ⟨by omega,b⟩
def chC (x:Ch):List Value:=[.int .i64 x.at_,.int .u8 x.val,.int .i64 x.fl,.int .i64 x.du]
def chV:List Ch→List Value
 |[]=>[]
 |x::l=>chC x++chV l
theorem chV_len:∀l,(chV l).length=l.length*4
 |[]=>rfl
 |x::l=>by
  show (chC x++chV l).length=_;rw[List.length_append,chV_len l,List.length_cons];show 4+_=_;omega
theorem chV_app:∀l k,chV (l++k)=chV l++chV k
 |[],k=>rfl
 |x::l,k=>by
  show chC x++chV (l++k)=chC x++chV l++chV k;rw[chV_app l k,List.append_assoc]
theorem chV_get:∀{l:List Ch} {i:Nat} {x:Ch},l[i]?=some x→∀r,r<4→(chV l)[i*4+r]?=(chC x)[r]?
 |[],i,x,h,_,_=>by cases h
 |y::l,0,x,h,r,hr=>by
  injection h with h
  subst h;show (chC y++chV l)[0*4+r]?=_;rw[Nat.zero_mul,Nat.zero_add,List.getElem?_append_left (show r<4 from hr)]
 |y::l,i+1,x,h,r,hr=>by
  show (chC y++chV l)[(i+1)*4+r]?=_;rw[List.getElem?_append_right (show 4≤_ by omega),show (i+1)*4+r- (chC y).length=i*4+r by show (i+1)*4+r-4=_;omega];exact chV_get (by simpa using h) r hr
theorem chC_one (x:Ch):∀u∈chC x,u.oneCell'=true:=by
 intro u hu;unfold chC at hu;simp only[List.mem_cons,List.not_mem_nil,or_false] at hu;rcases hu with rfl|rfl|rfl|rfl<;>rfl
structure PnAt (W:World) (g o N:Nat) (l:List Ch):Prop where
 h:∃c,W.heap[g]?=some (.cells c 174 (0,0))∧c.size=N∧∀j u,(chV l)[j]?=some u→c[o+j]?=some u
 le:o+l.length*4≤N
theorem PnAt.ck {W:World} {g o N:Nat} {l:List Ch} (h:PnAt W g o N l):CkAt W g o l.length N (rowK l):=by
 obtain⟨c,h1,h2,h3⟩:=h.h;refine⟨⟨c,h1,h2,fun i hi=>?_⟩,h.le⟩;obtain⟨x,hx⟩:∃x,l[i]?=some x:=⟨_,List.getElem?_eq_getElem hi⟩
 have e:=rowK_ch hx;have e0:(rowK l i).at_=x.at_:=congrArg Ch.at_ e;have e1:(rowK l i).val=x.val:=congrArg Ch.val e;have e2:(rowK l i).fl=x.fl:=congrArg Ch.fl e;have e3:(rowK l i).du=x.du:=congrArg Ch.du e;rw[e0,e1,e2,e3];have g0:=h3 (i*4+0) _ (chV_get hx 0 (by decide));have g1:=h3 (i*4+1) _ (chV_get hx 1 (by decide));have g2:=h3 (i*4+2) _ (chV_get hx 2 (by decide));have g3:=h3 (i*4+3) _ (chV_get hx 3 (by decide));exact⟨g0,by rw[Nat.add_assoc];exact g1,by rw[Nat.add_assoc];exact g2,by rw[Nat.add_assoc];exact g3⟩
theorem PnAt.keeps {W X:World} {F:Nat→Prop} {g o N:Nat} {l:List Ch} (h:PnAt W g o N l) (hk:Keeps F W X) (hn:¬F g):PnAt X g o N l:=by
 obtain⟨c,hc,h2⟩:=h.h;exact⟨⟨c,bG hc hk hn,h2⟩,h.le⟩
theorem PnAt.cell {W:World} {g o N:Nat} {l:List Ch} (h:PnAt W g o N l) {j:Nat} {u:Value} (hj:(chV l)[j]?=some u):W.cell? ⟨g,o+j,none⟩=some u:=by
 obtain⟨c,hc,-,h3⟩:=h.h;rw[bA hc];exact h3 j u hj
def PnR (P:Nat→Prop) (W:World) (v:Value) (l:List Ch):Prop:=
 (v=.slice none 0 0∧l=[])∨∃g o c N,v=.slice (some ⟨g,o,none⟩) l.length c∧PnAt W g o N l∧l.length≤c∧c≤maxLen∧o+c*4≤N∧P g
theorem PnR.nil (P:Nat→Prop) (W:World):PnR P W (.slice none 0 0) []:=.inl ⟨rfl,rfl⟩
theorem PnR.len {P:Nat→Prop} {W:World} {v:Value} {l:List Ch} (h:PnR P W v l):∃a c,v=.slice a l.length c∧c≤maxLen:=by
 rcases h with⟨rfl,rfl⟩|⟨g,o,c,N,rfl,_,_,h,_⟩
 ·exact ⟨_,_,rfl,Nat.zero_le _⟩
 ·exact ⟨_,_,rfl,h⟩
theorem PnR.keeps {P F:Nat→Prop} {W X:World} {v:Value} {l:List Ch} (h:PnR P W v l) (hk:Keeps F W X) (hn:∀j,P j→¬F j):PnR P X v l:=by
 rcases h with h|⟨g,o,c,N,h1,h2,h3,h4,h5,h6⟩
 ·exact .inl h
 ·exact .inr ⟨g,o,c,N,h1,h2.keeps hk (hn g h6),h3,h4,h5,h6⟩
theorem PnR.keep {P:Nat→Prop} {W X:World} {v:Value} {l:List Ch} (h:PnR P W v l) (hb:Below W.heap.size W X):PnR P X v l:=h.keeps (F:=fun _=>False) (Keeps.of_below hb) (fun _ _ e=>e)
theorem PnR.mono {P Q:Nat→Prop} {W:World} {v:Value} {l:List Ch} (h:PnR P W v l) (hq:∀j,P j→Q j):PnR Q W v l:=by
 rcases h with h|⟨g,o,c,N,h1,h2,h3,h4,h5,h6⟩
 ·exact .inl h
 ·exact .inr ⟨g,o,c,N,h1,h2,h3,h4,h5,hq g h6⟩
theorem PnR.own {P:Nat→Prop} {w:World} {base:Nat} {v:Value} {n:Nat} {l:List Ch} (h:w.ownsRow base 174 4 v n (chV l)) (hP:∀j,base≤j→j<w.heap.size→P j):PnR P w v l:=by
 obtain⟨hl,⟨hv,h0⟩|⟨g,cap,cur,hv,hg,hh,hnc,hcm,hcs,ht⟩⟩:=h
 ·rw [chV_len] at hl
  subst h0;exact .inl ⟨hv,List.eq_nil_of_length_eq_zero (by omega)⟩
 ·rw [chV_len] at hl
  have hn:n=l.length:=by omega
  subst hn;refine .inr ⟨g,0,cap,cur.size,hv,⟨⟨cur,hh,rfl,fun j u hj=>?_⟩,by rw[hcs];omega⟩,hnc,hcm,by rw[hcs];omega,hP g hg (cI hh)⟩;have hlt:=(List.getElem?_eq_some_iff.1 hj).1;rw[Nat.zero_add,←hj];exact take_get ht j hlt
theorem infoCh:(Tryz.prog.info? 174).map (fun i=>(i.zero,i.size,i.bytes))=some (some (.agg #[.int .i64 0,.int .u8 0,.int .i64 0,.int .i64 0]),4,32):=by kernel_rfl
theorem run_appPn {P:Nat→Prop} {w:World} {v:Value} {l:List Ch} (h:PnR P w v l) (x:Ch) (ad:Addr) (c:Nat) (hnews:∀j u,(chC x)[j]?=some u→w.cell? (ad.add j)=some u) (hlen:l.length+1≤1000000000) (ty:TypeId):
  ∃v' w',(Builtin.append_ #[123,123] ty #[v,.slice (some ad) 1 c]).run Tryz.prog w=.ok v' w'∧PnR (GrowP P w w') w' v' (l++[x])∧Keeps P w w':=by
 obtain⟨i,hi,hz0,hz1,hz2⟩:=info_parts infoCh;have hn4:(chC x).length=1*4:=rfl;have e1:chV (l++[x])=chV l++chC x:=by rw[chV_app];show _++(chC x++[])=_;rw[List.append_nil]
 rcases h with⟨rfl,rfl⟩|⟨g,o,k,N,rfl,hat,hlk,hkm,hkN,hPg⟩
 ·obtain ⟨v',w',hrun,r1,r2,_⟩:=run_append_own (P:=Tryz.prog) w w.heap.size 123 ty 174 i _ 4 32 Tryz.underlying123 hi hz0 hz1 hz2 rfl (by decide) (.slice none 0 0) 0 [] (World.ownsRow_nil w _ _ _) ad 1 c (chC x) hn4 hnews (chC_one x) (by decide) (by decide) (Nat.le_refl _)
  refine⟨v',w',hrun,PnR.own (l:=[]++[x]) (by rw[e1];exact r1) (fun j h1 h2=>.inr ⟨h1,h2⟩),Keeps.of_grown r2 (fun k e=>by cases e)⟩
 ·by_cases hroom:l.length+1≤k
  ·obtain ⟨cc,hc,hcs,hcr⟩:=hat.h
   have hsome:∀j,j<(chC x).length→(w.cell? ⟨g,o+l.length*4+j,none⟩).isSome=true:=fun j hj=>by
    rw[bA hc,Array.getElem?_eq_getElem (by rw[hcs];omega)];rfl
   have hrun:=run_append_room_cells (P:=Tryz.prog) w 123 ty 174 i Tryz.underlying123 hi g o l.length k ad 1 c (chC x) (by rw[hz1];exact hn4) hnews (chC_one x) hroom (by rw[hz1];exact hsome) (fun j _=>bJ hc _);rw[hz1] at hrun;have hct:cc.toList.length=N:=hcs;obtain⟨k1,k2⟩:=keepsCells g (chC x) (o+l.length*4) w;refine⟨_,_,hrun,.inr ⟨g,o,k,N,by rw[List.length_append];rfl,⟨⟨_,hpSetCells g _ _ (chC x) _ w cc hc (by rw[hcs,hn4];omega),?_,fun j u hj=>?_⟩,by rw[List.length_append];show o+(l.length+1)*4≤N;omega⟩,by rw[List.length_append];exact hroom,hkm,hkN,.inl hPg⟩,k1.mono (fun j _ e=>by subst e;exact hPg)⟩
   ·simp only[List.size_toArray,List.length_append,List.length_take,List.length_drop,Array.length_toList,hcs,hn4]
    omega
   ·rw [e1] at hj
    have hlt:=(List.getElem?_eq_some_iff.1 hj).1;rw[List.length_append,chV_len,hn4] at hlt;simp only[List.getElem?_toArray];by_cases hjo:j<l.length*4
    ·rw [List.getElem?_append_left (by rw[chV_len];exact hjo)] at hj
     have:=hcr j u hj;rw[List.append_assoc,List.getElem?_append_left (by rw[List.length_take,hct];omega),List.getElem?_take_of_lt (by omega)];simpa using this
    ·rw [List.getElem?_append_right (by rw[chV_len];omega),chV_len] at hj
     rw[List.append_assoc,List.getElem?_append_right (by rw[List.length_take,hct];omega),List.getElem?_append_left (by rw[List.length_take,hct,hn4];omega),List.length_take,hct];rw[show o+j-min (o+l.length*4) N=j-l.length*4 by omega];exact hj
  ·have holds:∀j u,(chV l)[j]?=some u→w.cell? ((⟨g,o,none⟩:Addr).add j)=some u:=fun j u hj=>by rw[Addr.add_lit];exact hat.cell hj
   obtain⟨v',w',hrun,r1,r2⟩:=run_append_arg_grows (P:=Tryz.prog) w 123 ty 174 i _ 4 32 Tryz.underlying123 hi hz0 hz1 hz2 rfl (by decide) ⟨g,o,none⟩ l.length k (chV l) (chV_len l) holds ad 1 c (chC x) hn4 hnews (by omega) (by unfold maxLen;omega) (by omega);refine⟨v',w',hrun,PnR.own (l:=l++[x]) (by rw[e1];exact r1) (fun j h1 h2=>.inr ⟨h1,h2⟩),Keeps.of_grown r2 (fun k e=>by cases e)⟩
theorem step_appPn {w:World} {ops:Array Oper} {op:Oper} {a:Act} {K:Act→World→Prop} {Q:Exit→Act→World→Prop} {E:Prop} (hgd:op.guard=none) (s y:Operand)
  (ho:op.op=.call {callee:=.builtin .append,args:=#[s,y],argTypes:=#[123,123]})
  {P:Nat→Prop} {v:Value} {l:List Ch} (hs:a.eval s=v) (h:PnR P w v l) (x:Ch) (ad:Addr) (c:Nat) (hy:a.eval y=.slice (some ad) 1 c) (hnews:∀j u,(chC x)[j]?=some u→w.cell? (ad.add j)=some u) (hlen:l.length+1≤1000000000)
  (hK:∀v' w',PnR (GrowP P w w') w' v' (l++[x])→Keeps P w w'→K (a.put op.dst v') w'):
  if Region.wanted op (yielded ops a.tmps)=true then Oper.wp Tryz.prog op a w K Q else E:=by
 have hw:Region.wanted op (yielded ops a.tmps)=true:=by simp [Region.wanted,hgd]
 rw[if_pos hw];obtain⟨v',w',hrun,r1,r2⟩:=run_appPn h x ad c hnews hlen op.type;unfold Oper.wp execOp;simp only[ho,resolve,invoke,builtin,Sem.run_bind,Sem.run_pure,Result.andThen_ok,List.map_toArray,List.map_cons,List.map_nil,hs,hy,hrun];exact hK v' w' r1 r2
def KdC:Array Value:=#[.string {data:=#[110,111,110,101]},.bool false,.bool false,.bool false,.string {data:=#[114,101,113,117,101,115,116]},.bool false,.bool false,.bool false,.string {data:=#[114,101,112,108,121]},.bool false,.bool false,.bool false,.string {data:=#[100,97,109,97,103,101]},.bool true,.bool true,.bool false,.string {data:=#[100,101,108,97,121]},.bool false,.bool false,.bool true,.string {data:=#[98,117,115,121]},.bool false,.bool false,.bool false,.string {data:=#[103,97,112]},.bool true,.bool false,.bool true]
theorem infoKD:(Tryz.prog.info? 223).map (·.size)=some 4:=by kernel_rfl
theorem kinds_any (w:World):Calls Tryz.prog 152 #[] w fun r w'=>r=.returned (.slice (some ⟨w.heap.size,0,none⟩) 7 7)∧(∃T,w'.heap[w.heap.size]?=some (.cells KdC T (0,0)))∧Below w.heap.size w w':=by
 go_enter Tryz.func152,Tryz.ntmps152;go_wp2;go_ret;exact⟨rfl,⟨_,bI w _⟩,bH w _⟩
theorem kd_row {X:World} {g:Nat} {T:TypeId} (h:X.heap[g]?=some (.cells KdC T (0,0))) (k:Nat) (C:Array Value) (hC:∀j v,C.toList[j]?=some v→KdC[k+j]?=some v):∀j v,C.toList[j]?=some v→X.cell? ((⟨g,k,none⟩:Addr).add j)=some v:=fun j v hj=>by
 have e:(⟨g,k,none⟩:Addr).add j=⟨g,k+j,none⟩:=by unfold Addr.add;split<;>simp_all
 rw[e,bA h];exact hC j v hj
theorem and_byte_i64 (n:Int) (h0:0≤n) (h1:n<65536):bits .and .i64 n 255=n%256:=by
 show IntKind.wrap .i64 ((((BitVec.ofInt 64 n)&&&(BitVec.ofInt 64 255)).toNat:Nat):Int)=_;have e1:(BitVec.ofInt 64 n).toNat=n.toNat:=by rw[BitVec.toNat_ofInt];omega
 have e2:(BitVec.ofInt 64 255).toNat=255:=by decide
 have e3:n.toNat&&&255=n.toNat%256:=Nat.and_two_pow_sub_one_eq_mod n.toNat 8;rw[BitVec.toNat_and,e1,e2,e3,IntWalk.i64_in _ (by omega)];omega
def AtR (_:World) (cs:List Value) (x:At):Prop:=cs=x.C.toList∧wfI x.lat∧wfI x.fault∧wfI x.pos∧wfI x.mask∧wfI x.ticks∧wfI x.value
def Ats (w:World) (v:Value) (l:List At):Prop:=Sls 6 AtR w v l
theorem Ats.keep {w w':World} {v:Value} {l:List At} (h:Ats w v l) (hb:Below w.heap.size w w'):Ats w' v l:=Sls.keep (fun _ _ _ _ h _=>h) h hb
theorem Ats.at {w:World} {v:Value} {l:List At} (h:Ats w v l) {k:Nat} {x:At} (hx:l[k]?=some x):
  ∃b o c,v=.slice (some ⟨b,o,none⟩) l.length c∧∀W,Below w.heap.size w W→W.cell? ⟨b,o+k*6,none⟩=some (.int .i64 x.lat)∧W.cell? ⟨b,o+k*6+1,none⟩=some (.int .i64 x.fault)∧W.cell? ⟨b,o+k*6+2,none⟩=some (.int .i64 x.pos)∧W.cell? ⟨b,o+k*6+3,none⟩=some (.int .i64 x.mask)∧W.cell? ⟨b,o+k*6+4,none⟩=some (.int .i64 x.ticks)∧W.cell? ⟨b,o+k*6+5,none⟩=some (.int .i64 x.value):=by
 obtain⟨a,c,rfl,h1,h2,h3,h4⟩:=h;obtain⟨b,o,rfl,hel⟩:=h4 (by rintro rfl;simp at hx);obtain⟨r,hr,⟨rfl,-⟩,hc⟩:=hel k x hx;exact⟨b,o,c,rfl,fun W hW=>⟨bD hW (hc 0 _ rfl),bD hW (hc 1 _ rfl),bD hW (hc 2 _ rfl),bD hW (hc 3 _ rfl),bD hW (hc 4 _ rfl),bD hW (hc 5 _ rfl)⟩⟩
theorem Ats.row {w:World} {v:Value} {l:List At} (h:Ats w v l) {k:Nat} {x:At} (hx:l[k]?=some x):
  ∃b o c,v=.slice (some ⟨b,o,none⟩) l.length c∧∀W,Below w.heap.size w W→∀i u,x.C.toList[i]?=some u→W.cell? ((⟨b,o+k*6,none⟩:Addr).add i)=some u:=by
 obtain⟨a,c,rfl,h1,h2,h3,h4⟩:=h;obtain⟨b,o,rfl,hel⟩:=h4 (by rintro rfl;simp at hx);obtain⟨r,hr,⟨rfl,-⟩,hc⟩:=hel k x hx;exact⟨b,o,c,rfl,fun W hW i u hi=>by rw[Addr.add_lit];exact bD hW (hc i u hi)⟩
theorem atOf_in {ats:List At} {lp:Bool} {k j:Nat} {x:At} (hj:j=k%ats.length) (hx:ats[j]?=some x) (h:lp=true∨k<ats.length):atOf ats lp k=x:=by
 unfold atOf;have hl:=(List.getElem?_eq_some_iff.1 hx).1;rw[if_neg,←hj,hx]
 ·rfl
 ·rintro (e|⟨e1,e2⟩)
  ·omega
  ·rcases h with h|h
   ·rw [h] at e1;cases e1
   ·omega
theorem atOf_out {ats:List At} {k:Nat} (h:ats.length≤k):atOf ats false k=At.zero:=by
 unfold atOf;rw[if_pos (.inr ⟨rfl,h⟩)]
def EnPost (w:World) (a:At) (r:Ending) (w':World):Prop:=r=.returned (.agg a.C)∧Below w.heap.size w w'
theorem z19_1 {p:Prop} (h:p:=by
 have g9:w8.heap[w.heap.size]?=some (.cells C 70):=(by rw[g8,List.drop_eq_nil_of_le (by simp [hcs])];simp);refine bodyPost_ret (results_cell_row rfl _ _ w.heap.size 70 C (0,0) _ rfl g9 Tryz.underlying70 rfl hi) rfl ?_;rw[HV.out];exact⟨by rw[←HPX.out],HB1.out.trans (hk8.below HB1.out.size (fun j hj e=>by omega))⟩):p:=h
theorem entry_any (g:Nat) (aa:Option Addr) (an ac:Nat) (ats:List At) (hn:ats.length=an) (lp:Bool) (hlp:lp=true→0<an) (k:Nat) (hk:k≤1000000000) (w:World) (hc1:w.cell? ⟨g,1,none⟩=some (.slice aa an ac)) (hc2:w.cell? ⟨g,2,none⟩=some (.bool lp)) (hA:Ats w (.slice aa an ac) ats):
  Calls Tryz.prog 124 #[.pointer (some ⟨g,0,none⟩),.int .i64 (k:Int)] w (EnPost w (atOf ats lp k)):=by
 obtain⟨W1,hW1,hb1,pZ⟩:=alQ w (.cells #[.int .i64 0,.int .i64 0,.int .i64 0,.int .i64 0,.int .i64 0,.int .i64 0] 70);have c1:W1.cell? ⟨g,1,none⟩=some (.slice aa an ac):=bD hb1 hc1;have c2:W1.cell? ⟨g,2,none⟩=some (.bool lp):=bD hb1 hc2;obtain⟨V,hV⟩:=gE (atOf ats lp k);rw[hV];have HA:=bC hA;have HN:=bC hn;have HW1:=bC hW1;have HB1:=bC hb1;have PZ:=bC pZ;obtain⟨K,hK⟩:∃K:Int,(k:Int)=K:=⟨_,rfl⟩
 have hK0:(0:Int)≤K:=by omega
 rw[hK];clear hW1 hb1 pZ hA hc1 hc2;cases lp with
 |true=>
  have hp:=hlp rfl;obtain⟨j,hj⟩:∃j,k%an=j:=⟨_,rfl⟩
  have hjn:j<an:=by rw[←hj];exact Nat.mod_lt _ hp
  obtain⟨x,hx⟩:=gs hn hjn;have HX:=bC hx;have HV:Hid (V=x):=by show _=_;rw[←hV];exact atOf_in (by rw[hn];exact hj.symm) hx (.inl rfl)
  have r1:K.tmod (an:Int)=(j:Int):=by rw[←hK,←hj,Int.tmod_eq_emod_of_nonneg (by omega)];exact(Int.natCast_emod k an).symm
  have r2:K%(an:Int)=(j:Int):=by rw[←r1,Int.tmod_eq_emod_of_nonneg hK0]
  have r3:¬(an:Int)=0:=by omega
  have r4:decide ((an:Int)≤(j:Int))=false:=decide_eq_false (by omega);have r5:¬(an:Int)≤(j:Int):=by omega
  have r6:(0:Int)≤(j:Int):=by omega
  have r7:(j:Int)<(an:Int):=by omega
  have r8:¬an≤j:=by omega
  clear hV hx hj hp hlp hk hK hn;obtain⟨b,o,c',hv,hrow⟩:=HA.out.row HX.out;rw[HN.out] at hv;simp only[Value.slice.injEq,true_and] at hv;obtain⟨rfl,rfl⟩:=hv;obtain⟨C,hC⟩:=gE x.C;rw[hC] at hrow;have hi:(Tryz.prog.info? 70).map (·.size)=some C.size:=(by rw[←hC];exact infoAT);have h1c:C.toList.all (·.oneCell')=true:=(by rw[←hC];rfl);have hcs:C.size=6:=(by rw[←hC];rfl);have HR:=bC (hrow W1 HB1.out);have HPX:Hid (x.C=C):=hC;clear hC hrow;go_enter Tryz.func124,Tryz.ntmps124;go_upto_region 1 with(fail)
  rw[HW1.out];go_wp2_with (first|(refine cC rfl 70 (.tmp 27) rfl ⟨b,o+j*6,none⟩ rfl C _ HR.out Tryz.underlying70 rfl hi ?_)|(refine bE rfl 70 (.tmp 4) (.tmp 28) rfl w.heap.size 0 _ 70 C rfl rfl PZ.out (by simp [hcs]) hi h1c ?_;intro w8 g8 hk8 hz8));exact z19_1
 |false=>
  by_cases hkn:k<an
  ·obtain ⟨x,hx⟩:=gs hn hkn
   have HX:=bC hx;have HV:Hid (V=x):=by show _=_;rw[←hV];exact atOf_in (by rw[hn];exact(Nat.mod_eq_of_lt hkn).symm) hx (.inr (by omega))
   subst hK;have r4:decide ((an:Int)≤(k:Int))=false:=decide_eq_false (by omega);have r5:¬(an:Int)≤(k:Int):=by omega
   have r7:(k:Int)<(an:Int):=by omega
   have r8:¬an≤k:=by omega
   clear hV hx hlp hk hn;obtain⟨b,o,c',hv,hrow⟩:=HA.out.row HX.out;rw[HN.out] at hv;simp only[Value.slice.injEq,true_and] at hv;obtain⟨rfl,rfl⟩:=hv;obtain⟨C,hC⟩:=gE x.C;rw[hC] at hrow;have hi:(Tryz.prog.info? 70).map (·.size)=some C.size:=(by rw[←hC];exact infoAT);have h1c:C.toList.all (·.oneCell')=true:=(by rw[←hC];rfl);have hcs:C.size=6:=(by rw[←hC];rfl);have HR:=bC (hrow W1 HB1.out);have HPX:Hid (x.C=C):=hC;clear hC hrow;go_enter Tryz.func124,Tryz.ntmps124;go_upto_region 1 with(fail)
   rw[HW1.out];go_wp2_with (first|(refine cC rfl 70 (.tmp 27) rfl ⟨b,o+k*6,none⟩ rfl C _ HR.out Tryz.underlying70 rfl hi ?_)|(refine bE rfl 70 (.tmp 4) (.tmp 28) rfl w.heap.size 0 _ 70 C rfl rfl PZ.out (by simp [hcs]) hi h1c ?_;intro w8 g8 hk8 hz8));exact z19_1
  ·have HV:Hid (V=At.zero):=by show _=_;rw[←hV];exact atOf_out (by omega)
   subst hK;have r4:decide ((an:Int)≤(k:Int))=true:=decide_eq_true (by omega);have r5:(an:Int)≤(k:Int):=by omega
   have r8:an≤k:=by omega
   clear hV hlp hk hn;go_enter Tryz.func124,Tryz.ntmps124;go_upto_region 1 with(fail)
   rw[HW1.out];go_wp2_with (refine bE rfl 70 (.tmp 4) (.tmp 24) rfl w.heap.size 0 _ 70 #[.int .i64 0,.int .i64 0,.int .i64 0,.int .i64 0,.int .i64 0,.int .i64 0] rfl rfl PZ.out (by simp) infoAT rfl ?_;intro w8 g8 hk8 hz8);have g9:w8.heap[w.heap.size]?=some (.cells #[.int .i64 0,.int .i64 0,.int .i64 0,.int .i64 0,.int .i64 0,.int .i64 0] 70):=g8;refine bodyPost_ret (results_cell_row rfl _ _ w.heap.size 70 _ (0,0) _ rfl g9 Tryz.underlying70 rfl infoAT) rfl ?_;rw[HV.out];exact⟨rfl,HB1.out.trans (hk8.below HB1.out.size (fun j hj e=>by omega))⟩
theorem busDec_parts {l:List Sl} {bd pa:Int} {f:List UInt8} {o:Int×Rq×List Nat} (h:busDec l bd pa f=some o):(∃p,splitB crcChk f=some (o.1,p))∧o.2.2=memb l bd pa o.1 l.length:=by
 cases hs:splitB crcChk f with
 |none=>rw[busDec_split hs] at h;cases h
 |some x=>
  obtain⟨u,p⟩:=x;cases hq:rqDec p with
  |none=>rw[busDec_dec hs hq] at h;cases h
  |some q=>
   rw[busDec_mb hs hq] at h;split at h
   ·cases h
   ·injection h with h
    subst h;exact⟨⟨p,rfl⟩,rfl⟩
theorem single_any (g:Nat) (la:Option Addr) (lc ln:Nat) (l:List Sl) (hl:l.length=ln) (hB:BusP l) (bd pa:Int) (f1:wfI bd) (f2:wfI pa) (fa:Option Addr) (fn fc:Nat) (f:List UInt8) (o:Int×Rq×List Nat) (ho:busDec l bd pa f=some o) (V:Bool) (hV:decide (o.2.2.length=1)=V) (w:World) (hc0:w.cell? ⟨g,0,none⟩=some (.slice la ln lc)) (hL:Slvs w (.slice la ln lc) l) (hf:Bs w (.slice fa fn fc) f):
  Calls Tryz.prog 164 #[.pointer (some ⟨g,0,none⟩),.agg #[.int .i64 bd,.int .i64 pa],.slice fa fn fc] w (BoolPost w V):=by
 obtain⟨u,q,ms⟩:=o;obtain⟨⟨p,hs⟩,hm⟩:=busDec_parts ho;dsimp only at hs hm hV;obtain⟨W1,hW1,hb1,pS⟩:=alQ w (.cells #[.int .i64 bd,.int .i64 pa] 61);obtain⟨ml,hml⟩:=gE ms.length;rw[hml] at hV;have HSP:Hid (∀X,Below w.heap.size w X→Calls Tryz.prog 146 #[.slice fa fn fc] X fun r w'=>∃a2 c2,r=.returned (.tuple #[.int .i64 u,.slice a2 p.length c2,.int .i64 0])∧Bs w' (.slice a2 p.length c2) p∧Below X.heap.size X w'):=fun X hX=>psplit_yes hs fa fn fc X (hf.keep hX)
 have HMM:Hid (∀X,Below w.heap.size w X→Calls Tryz.prog 188 #[.slice la ln lc,.agg #[.int .i64 bd,.int .i64 pa],.int .i64 u] X fun r w'=>∃a c,r=.returned (.slice a ml c)∧Below X.heap.size X w'):=fun X hX=>(pmemb_any la lc l ln X hl (by have:=hB.1;omega) (hL.keep hX) bd pa u f1 f2).mono fun r w' h=>by
  obtain⟨a,c,h1,-,h3⟩:=h;rw[←hl,←hm,hml] at h1;exact⟨a,c,h1,h3⟩
 have HW1:=bC hW1;have HB1:=bC hb1;have HC0:=bC hc0;have HPS:=bC pS;clear hW1 hb1 pS hB hL hf f1 f2 hl hc0 hs hm ho hml;obtain⟨PL,hPL⟩:=gE p.length;rw[hPL] at HSP;clear hPL;go_enter Tryz.func164,Tryz.ntmps164;go_upto_region 1 with(fail)
 rw[HW1.out];go_upto_region 2 with(go_at_call 146;(with_reducible refine(HSP.out _ HB1.out).mono ?_);rintro r w2 ⟨a2,c2,rfl,-,hb2⟩)
 have HB2:Hid (Below w.heap.size w w2):=bU HB1.out hb2;have s0:∀X,Below w2.heap.size w2 X→X.cell? ⟨w.heap.size,0,none⟩=some (.int .i64 bd):=fun X h=>bA (bB (bB HPS.out hb2) h) 0
 have s1:∀X,Below w2.heap.size w2 X→X.cell? ⟨w.heap.size,1,none⟩=some (.int .i64 pa):=fun X h=>bA (bB (bB HPS.out hb2) h) 1
 have c0:∀X,Below w2.heap.size w2 X→X.cell? ⟨g,0,none⟩=some (.slice la ln lc):=fun X h=>bD h (bD HB2.out HC0.out)
 have kD:Below w2.heap.size w2 w2.drew:=(Below.refl _ _).drew;have q1:((ml:Int)==1)=V:=by rw[←hV];cases e:decide (ml=1) with
  |true=>have:=of_decide_eq_true e;rw[this];rfl
  |false=>have:=of_decide_eq_false e;exact beq_eq_false_iff_ne.2 (by omega)
 have q2:(ml==1)=V:=by rw[←hV];rfl
 clear hb2 hV;refine wp_region_held_drew (S:=fun V=>Below w2.heap.size w2 V) (by kernel_rfl) kD (fun hH=>?_);clear hH;refine tG 0 16 ?_;refine tG 1 17 ?_;refine tG 2 18 ?_;refine tG 3 19 ?_;refine tG 4 20 ?_;refine tG 5 21 ?_;refine tG 6 22 ?_;refine tG 7 23 ?_;refine tG 8 24 ?_;refine bM 9 rfl (fun K hK=>?_);go_simp;refine(HMM.out _ (bU HB2.out kD)).mono ?_;rintro r w4 ⟨ma,mc,rfl,hb4⟩;have hB4:=bU kD hb4;refine hK.out _ _ hB4 (fun hSx=>?_);clear hK K hSx;refine tG 10 26 ?_;refine tG 11 27 ?_;refine tG 12 28 ?_;refine cR 13 6 (v:=?_) rfl (by kernel_rfl) (fun _ _ _ h=>h) rfl (by rfl) (by assumption) ?_ ?_;rotate_left;(intro w hSw;(try dsimp only at hSw);(try go_simp);try rfl);refine wpAnyH_done (by kernel_rfl) ?_ _;go_wp2;go_ret;exact⟨rfl,bU HB2.out hB4⟩
theorem setW_one:∀(l:List (Int×Int)),∀u∈setV l,u.oneCell'=true
 |[],u,hu=>by cases hu
 |x::l,u,hu=>by
  simp only[setV,List.mem_cons] at hu;rcases hu with rfl|rfl|hu
  ·rfl
  ·rfl
  ·exact setW_one l u hu
theorem setW_csl {w:World}:∀(l:List (Int×Int)),(∀x∈l,wfI x.1∧wfI x.2)→CsL 2 (RgR w) (setV l) l
 |[],_=>rfl
 |x::l,h=>⟨[.int .i64 x.1,.int .i64 x.2],setV l,rfl,rfl,⟨rfl,(h x (List.mem_cons_self ..)).1,(h x (List.mem_cons_self ..)).2⟩,setW_csl l (fun y hy=>h y (List.mem_cons_of_mem _ hy))⟩
theorem Rgs.wfW {w:World} {v:Value} {l:List (Int×Int)} (h:Rgs w v l):∀x∈l,wfI x.1∧wfI x.2:=fun x hx=>by
 obtain⟨i,hi⟩:=List.getElem?_of_mem hx;obtain⟨b,o,c,_,w1,w2,_⟩:=h.at hi;exact⟨w1,w2⟩
theorem Rgs.rowW {w:World} {b o n c:Nat} {l:List (Int×Int)} (h:Rgs w (.slice (some ⟨b,o,none⟩) n c) l):∀j u,(setV l)[j]?=some u→w.cell? ⟨b,o+j,none⟩=some u:=by
 intro j u hj;have hjl:=(List.getElem?_eq_some_iff.1 hj).1;rw[setV_length] at hjl;obtain⟨x,hx⟩:=gs (l:=l) rfl (show j/2<l.length by omega);obtain⟨b',o',c',hv,-,-,hcl⟩:=h.at hx;simp only[Value.slice.injEq,Option.some.injEq,Addr.mk.injEq,and_true] at hv;obtain⟨⟨rfl,rfl⟩,-,-⟩:=hv;obtain⟨e0,e1⟩:=hcl w (Below.refl _ _);obtain⟨s0,s1⟩:=setV_get l (j/2) x hx;rcases Nat.mod_two_eq_zero_or_one j with e|e
 ·have ej:j=j/2*2:=by omega
  rw[ej] at hj ⊢;rw[s0] at hj;cases hj;exact e0
 ·have ej:j=j/2*2+1:=by omega
  rw[ej] at hj ⊢;rw[s1] at hj;cases hj;exact e1
theorem infoRgW:(Tryz.prog.info? 24).map (fun i=>(i.zero,i.size,i.bytes))=some (some (.agg #[.int .i64 0,.int .i64 0]),2,16):=by kernel_rfl
theorem infoAtW:(Tryz.prog.info? 70).map (fun i=>(i.zero,i.size,i.bytes))=some (some (.agg #[.int .i64 0,.int .i64 0,.int .i64 0,.int .i64 0,.int .i64 0,.int .i64 0]),6,48):=by kernel_rfl
def atV:List At→List Value
 |[]=>[]
 |x::l=>x.C.toList++atV l
theorem atV_len:∀l,(atV l).length=l.length*6
 |[]=>rfl
 |x::l=>by
  show (x.C.toList++atV l).length=_;rw[List.length_append,atV_len l,List.length_cons];show 6+_=_;omega
theorem atV_one:∀(l:List At),∀u∈atV l,u.oneCell'=true
 |[],u,hu=>by cases hu
 |x::l,u,hu=>by
  rcases List.mem_append.1 hu with hu|hu
  ·have:u∈[Value.int .i64 x.lat,.int .i64 x.fault,.int .i64 x.pos,.int .i64 x.mask,.int .i64 x.ticks,.int .i64 x.value]:=hu
   simp only[List.mem_cons,List.not_mem_nil,or_false] at this;rcases this with rfl|rfl|rfl|rfl|rfl|rfl<;>rfl
  ·exact atV_one l u hu
def wfAt (x:At):Prop:=wfI x.lat∧wfI x.fault∧wfI x.pos∧wfI x.mask∧wfI x.ticks∧wfI x.value
theorem atV_csl {w:World}:∀(l:List At),(∀x∈l,wfAt x)→CsL 6 (AtR w) (atV l) l
 |[],_=>rfl
 |x::l,h=>⟨x.C.toList,atV l,rfl,rfl,⟨rfl,h x List.mem_cons_self⟩,atV_csl l (fun y hy=>h y (List.mem_cons_of_mem _ hy))⟩
theorem atV_get:∀{l:List At} {i:Nat} {x:At},l[i]?=some x→∀r,r<6→(atV l)[i*6+r]?=x.C.toList[r]?
 |[],i,x,h,_,_=>by cases h
 |y::l,0,x,h,r,hr=>by
  injection h with h
  subst h;show (y.C.toList++atV l)[0*6+r]?=_;rw[Nat.zero_mul,Nat.zero_add,List.getElem?_append_left (show r<6 from hr)]
 |y::l,i+1,x,h,r,hr=>by
  show (y.C.toList++atV l)[(i+1)*6+r]?=_;rw[List.getElem?_append_right (show 6≤_ by omega),show (i+1)*6+r-y.C.toList.length=i*6+r by show (i+1)*6+r-6=_;omega];exact atV_get (by simpa using h) r hr
theorem Ats.wfW {w:World} {v:Value} {l:List At} (h:Ats w v l):∀x∈l,wfAt x:=fun x hx=>by
 obtain⟨i,hi⟩:=List.getElem?_of_mem hx;obtain⟨a,c,rfl,h1,h2,h3,h4⟩:=h;obtain⟨b,o,rfl,hel⟩:=h4 (by rintro rfl;simp at hi);obtain⟨r,hr,⟨-,hw⟩,hc⟩:=hel i x hi;exact hw
theorem Ats.rowW {w:World} {b o n c:Nat} {l:List At} (h:Ats w (.slice (some ⟨b,o,none⟩) n c) l):∀j u,(atV l)[j]?=some u→w.cell? ⟨b,o+j,none⟩=some u:=by
 intro j u hj;have hjl:=(List.getElem?_eq_some_iff.1 hj).1;rw[atV_len] at hjl;obtain⟨a,c',hv,h1,h2,h3,h4⟩:=h;simp only[Value.slice.injEq] at hv;obtain⟨rfl,rfl,rfl⟩:=hv;obtain⟨b',o',e,hel⟩:=h4 (by rintro rfl;simp at hjl);cases e;obtain⟨i,r,hr,rfl⟩:∃i r,r<6∧j=i*6+r:=⟨j/6,j%6,Nat.mod_lt _ (by decide),by omega⟩
 obtain⟨x,hx⟩:=gs (l:=l) rfl (show i<l.length by omega);obtain⟨r',hr',⟨rfl,-⟩,hc⟩:=hel i x hx;rw[atV_get hx r hr] at hj;rw[←Nat.add_assoc];exact hc r u hj
def CloneRgPost (w:World) (l:List (Int×Int)) (r:Ending) (w':World):Prop:=∃a c,r=.returned (.slice a l.length c)∧w'.ownsRow w.heap.size 24 2 (.slice a l.length c) l.length (setV l)∧Below w.heap.size w w'
theorem CloneRgPost.own {w w':World} {l:List (Int×Int)} {v:Value} {n:Nat} {cs:List Value} (hcs:cs=setV l) (hn:n=l.length) (h:w'.ownsRow w.heap.size 24 2 v n cs) (hb:Below w.heap.size w w'):CloneRgPost w l (.returned v) w':=by
 subst hcs hn;obtain⟨a,c,rfl⟩:=bN h;exact⟨a,c,rfl,h,hb⟩
theorem cloneRg_any (v:Value) (l:List (Int×Int)) (w:World) (hv:Rgs w v l) (hl:l.length≤1000000):Calls Tryz.prog 117 #[v] w (CloneRgPost w l):=by
 obtain⟨i5,hi,hz0,hz1,hz2⟩:=info_parts infoRgW;obtain⟨a,c,rfl,hc,hcm,hac,h4⟩:=id hv;unfold maxLen at hcm;have hq:=Lib.run_eql_slice_nil (P:=Tryz.prog);cases a with
 |none=>
  obtain rfl:=hac rfl;have hl0:l.length=0:=by omega
  have:l=[]:=List.eq_nil_of_length_eq_zero hl0;subst this;clear hv h4;go_enter Tryz.func117,Tryz.ntmps117;go_wp2;go_ret;exact CloneRgPost.own (cs:=[]) (n:=0) rfl rfl (World.ownsRow_nil _ _ _ _) (Below.refl _ _)
 |some a=>
  by_cases hne:l=[]
  ·subst hne
   clear hv h4;go_enter Tryz.func117,Tryz.ntmps117;go_wp2_with (at_builtin;refine bZ rfl _ _ 63 rfl w.heap.size 24 i5 _ 2 16 Tryz.underlying63 hi hz0 hz1 hz2 rfl (by decide) _ 0 [] rfl (World.ownsRow_made _ _ _ (Nat.le_refl _) (by decide) rfl) a 0 c [] rfl rfl (by simp) (by simp) (by unfold maxLen;omega) (by omega) (by simp) ?c3)
   case c3=>
    intro v' w1 hown hgr _;have hbel:=(bH w (.cells #[] 24)).grown hgr (bH w (.cells #[] 24)).size (by intro k hk;simp [Value.ownBlock] at hk;omega);have HOWN:=bC hown;clear hgr hown;go_wp2;go_ret;exact CloneRgPost.own (cs:=[]) (n:=0) rfl rfl (by simpa using HOWN.out) hbel
  ·obtain ⟨b,o,hab,-⟩:=h4 hne
   cases hab;have hcell:Hid (∀j u,(setV l)[j]?=some u→(w.alloc (.cells #[] 24)).cell? ((⟨b,o,none⟩:Addr).add j)=some u):=fun j u hj=>by
    have e1:(⟨b,o,none⟩:Addr).add j=⟨b,o+j,none⟩:=by unfold Addr.add;split<;>simp_all
    rw[e1];exact bD (bH w _) (hv.rowW j u hj)
   have HL:Hid ((setV l).length=l.length*2):=setV_length l;have H1:Hid (∀u∈setV l,u.oneCell'=true):=setW_one l;clear hv h4 hne;go_enter Tryz.func117,Tryz.ntmps117;go_wp2_with (at_builtin;refine bZ rfl _ _ 63 rfl w.heap.size 24 i5 _ 2 16 Tryz.underlying63 hi hz0 hz1 hz2 rfl (by decide) _ 0 [] rfl (World.ownsRow_made _ _ _ (Nat.le_refl _) (by decide) rfl) ⟨b,o,none⟩ l.length c (setV l) rfl HL.out hcell.out H1.out (by unfold maxLen;omega) (by omega) (by simp) ?c3)
   case c3=>
    intro v' w1 hown hgr _;have hbel:=(bH w (.cells #[] 24)).grown hgr (bH w (.cells #[] 24)).size (by intro k hk;simp [Value.ownBlock] at hk;omega);have HOWN:=bC (show w1.ownsRow w.heap.size 24 2 v' l.length (setV l) by simpa using hown);clear hgr hown;go_wp2;go_ret;exact CloneRgPost.own rfl rfl HOWN.out hbel
def CloneAtPost (w:World) (l:List At) (r:Ending) (w':World):Prop:=∃a c,r=.returned (.slice a l.length c)∧w'.ownsRow w.heap.size 70 6 (.slice a l.length c) l.length (atV l)∧Below w.heap.size w w'
theorem CloneAtPost.own {w w':World} {l:List At} {v:Value} {n:Nat} {cs:List Value} (hcs:cs=atV l) (hn:n=l.length) (h:w'.ownsRow w.heap.size 70 6 v n cs) (hb:Below w.heap.size w w'):CloneAtPost w l (.returned v) w':=by
 subst hcs hn;obtain⟨a,c,rfl⟩:=bN h;exact⟨a,c,rfl,h,hb⟩
theorem cloneAt_any (v:Value) (l:List At) (w:World) (hv:Ats w v l) (hl:l.length≤1000000):Calls Tryz.prog 68 #[v] w (CloneAtPost w l):=by
 obtain⟨i5,hi,hz0,hz1,hz2⟩:=info_parts infoAtW;obtain⟨a,c,rfl,hc,hcm,hac,h4⟩:=id hv;unfold maxLen at hcm;have hq:=Lib.run_eql_slice_nil (P:=Tryz.prog);cases a with
 |none=>
  obtain rfl:=hac rfl;have hl0:l.length=0:=by omega
  have:l=[]:=List.eq_nil_of_length_eq_zero hl0;subst this;clear hv h4;go_enter Tryz.func68,Tryz.ntmps68;go_wp2;go_ret;exact CloneAtPost.own (cs:=[]) (n:=0) rfl rfl (World.ownsRow_nil _ _ _ _) (Below.refl _ _)
 |some a=>
  by_cases hne:l=[]
  ·subst hne
   clear hv h4;go_enter Tryz.func68,Tryz.ntmps68;go_wp2_with (at_builtin;refine bZ rfl _ _ 29 rfl w.heap.size 70 i5 _ 6 48 Tryz.underlying29 hi hz0 hz1 hz2 rfl (by decide) _ 0 [] rfl (World.ownsRow_made _ _ _ (Nat.le_refl _) (by decide) rfl) a 0 c [] rfl rfl (by simp) (by simp) (by unfold maxLen;omega) (by omega) (by simp) ?c3)
   case c3=>
    intro v' w1 hown hgr _;have hbel:=(bH w (.cells #[] 70)).grown hgr (bH w (.cells #[] 70)).size (by intro k hk;simp [Value.ownBlock] at hk;omega);have HOWN:=bC hown;clear hgr hown;go_wp2;go_ret;exact CloneAtPost.own (cs:=[]) (n:=0) rfl rfl (by simpa using HOWN.out) hbel
  ·obtain ⟨b,o,hab,-⟩:=h4 hne
   cases hab;have hcell:Hid (∀j u,(atV l)[j]?=some u→(w.alloc (.cells #[] 70)).cell? ((⟨b,o,none⟩:Addr).add j)=some u):=fun j u hj=>by
    have e1:(⟨b,o,none⟩:Addr).add j=⟨b,o+j,none⟩:=by unfold Addr.add;split<;>simp_all
    rw[e1];exact bD (bH w _) (hv.rowW j u hj)
   have HL:Hid ((atV l).length=l.length*6):=atV_len l;have H1:Hid (∀u∈atV l,u.oneCell'=true):=atV_one l;clear hv h4 hne;go_enter Tryz.func68,Tryz.ntmps68;go_wp2_with (at_builtin;refine bZ rfl _ _ 29 rfl w.heap.size 70 i5 _ 6 48 Tryz.underlying29 hi hz0 hz1 hz2 rfl (by decide) _ 0 [] rfl (World.ownsRow_made _ _ _ (Nat.le_refl _) (by decide) rfl) ⟨b,o,none⟩ l.length c (atV l) rfl HL.out hcell.out H1.out (by unfold maxLen;omega) (by omega) (by simp) ?c3)
   case c3=>
    intro v' w1 hown hgr _;have hbel:=(bH w (.cells #[] 70)).grown hgr (bH w (.cells #[] 70)).size (by intro k hk;simp [Value.ownBlock] at hk;omega);have HOWN:=bC (show w1.ownsRow w.heap.size 70 6 v' l.length (atV l) by simpa using hown);clear hgr hown;go_wp2;go_ret;exact CloneAtPost.own rfl rfl HOWN.out hbel
end Go.Proofs.YtoaoejaodhedaaaGreat
