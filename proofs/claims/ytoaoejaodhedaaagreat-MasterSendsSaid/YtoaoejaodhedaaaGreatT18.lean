import Derived.Test.YtoaoejaodhedaaaGreatT17
import Derived.ArgAppend
namespace Go.Proofs.YtoaoejaodhedaaaGreat
open Go.RowKit
open Value renaming slice→J,int→Z
open Option renaming none→M,some→U
open IntKind renaming i64→O
open Obj renaming cells→D
open Ending renaming returned→G
set_option maxHeartbeats 3200000
set_option maxRecDepth 100000
variable {x:At} {aC:List At} {l:List Ch} {N b c g j k n:Nat} {F P:Nat→Prop} {E p:Prop} {u v:Value} {W X Y w w':World}
def ax (P:Nat→Prop) (W w':World) (j:Nat):Prop:=P j∨(W.heap.size≤j∧j<w'.heap.size)
theorem ax.lt (h:ax P W w' j) (a:∀j,P j→j<W.heap.size) (hs:W.heap.size≤w'.heap.size):j<w'.heap.size:=by
 rcases h with h|h
 ·exact Nat.lt_of_lt_of_le (a j h) hs
 ·exact h.2
theorem ax.trans (h:ax (ax P W X) X Y j) (e:W.heap.size≤X.heap.size) (d:X.heap.size≤Y.heap.size):ax P W Y j:=by
 rcases h with(h|⟨a,b⟩)|⟨a,b⟩
 ·exact .inl h
 ·exact .inr ⟨a,by omega⟩
 ·exact .inr ⟨by omega,b⟩
def oe (x:Ch):List Value:=[Z O x.at_,Z .u8 x.val,Z O x.fl,Z O x.du]
def rD:List Ch→List Value
 |[]=>[]
 |x::l=>oe x++rD l
theorem fI:∀l,(rD l).length=l.length*4
 |[]=>rfl
 |x::l=>by
  show (oe x++rD l).length=_;rw[List.length_append,fI l,List.length_cons];show 4+_=_;omega
theorem By:∀l k,rD (l++k)=rD l++rD k
 |[],k=>rfl
 |x::l,k=>by
  show oe x++rD (l++k)=oe x++rD l++rD k;rw[By l k,List.append_assoc]
theorem ly:∀{l:List Ch} {i:Nat} {x:Ch},l[i]?=U x→∀r,r<4→(rD l)[i*4+r]?=(oe x)[r]?
 |[],i,x,h,_,_=>by cases h
 |y::l,0,x,h,r,hr=>by
  injection h with h
  subst h;show (oe y++rD l)[0*4+r]?=_;rw[Nat.zero_mul,Nat.zero_add,List.getElem?_append_left (show r<4 from hr)]
 |y::l,i+1,x,h,r,hr=>by
  show (oe y++rD l)[(i+1)*4+r]?=_;rw[List.getElem?_append_right (show 4≤_ by omega),show (i+1)*4+r- (oe y).length=i*4+r by show (i+1)*4+r-4=_;omega];exact ly (by simpa using h) r hr
theorem A0 (x:Ch):∀u∈oe x,u.oneCell'=true:=by
 intro u hu;unfold oe at hu;simp only[List.mem_cons,List.not_mem_nil,or_false] at hu;rcases hu with rfl|rfl|rfl|rfl<;>rfl
structure vq (W:World) (g o N:Nat) (l:List Ch):Prop where
 h:∃c,W.heap[g]?=U (D c 174 (0,0))∧c.size=N∧∀j u,(rD l)[j]?=U u→c[o+j]?=U u
 le:o+l.length*4≤N
theorem vq.ck {o:Nat} (h:vq W g o N l):eO W g o l.length N (dW l):=by
 obtain⟨c,z,s,d⟩:=h.h;refine⟨⟨c,z,s,fun i hi=>?_⟩,h.le⟩;obtain⟨x,a⟩:∃x,l[i]?=U x:=⟨_,List.getElem?_eq_getElem hi⟩
 have e:=Bu a;have B:(dW l i).at_=x.at_:=congrArg Ch.at_ e;have m:(dW l i).val=x.val:=congrArg Ch.val e;have f:(dW l i).fl=x.fl:=congrArg Ch.fl e;have y:(dW l i).du=x.du:=congrArg Ch.du e;rw[B,m,f,y];have q:=d (i*4+0) _ (ly a 0 (by decide));have A:=d (i*4+1) _ (ly a 1 (by decide));have t:=d (i*4+2) _ (ly a 2 (by decide));have r:=d (i*4+3) _ (ly a 3 (by decide));exact⟨q,by rw[Nat.add_assoc];exact A,by rw[Nat.add_assoc];exact t,by rw[Nat.add_assoc];exact r⟩
theorem vq.keeps {o:Nat} (h:vq W g o N l) (f:Keeps F W X) (a:¬F g):vq X g o N l:=by
 obtain⟨c,e,d⟩:=h.h;exact⟨⟨c,hpKeeps e f a,d⟩,h.le⟩
theorem vq.cell {o:Nat} (h:vq W g o N l) (a:(rD l)[j]?=U u):W.cell? ⟨g,o+j,M⟩=U u:=by
 obtain⟨c,e,-,d⟩:=h.h;rw[hpCell e];exact d j u a
def jN (P:Nat→Prop) (W:World) (v:Value) (l:List Ch):Prop:=
 (v=J none 0 0∧l=[])∨∃g o c N,v=J (U ⟨g,o,M⟩) l.length c∧vq W g o N l∧l.length≤c∧c≤maxLen∧o+c*4≤N∧P g
theorem jN.nil (P:Nat→Prop) (W:World):jN P W (J none 0 0) []:=.inl ⟨rfl,rfl⟩
theorem jN.len (h:jN P W v l):∃a c,v=J a l.length c∧c≤maxLen:=by
 rcases h with⟨rfl,rfl⟩|⟨g,o,c,N,rfl,_,_,h,_⟩
 ·exact ⟨_,_,rfl,Nat.zero_le _⟩
 ·exact ⟨_,_,rfl,h⟩
theorem jN.keeps {P F:Nat→Prop} {W X:World} {v:Value} {l:List Ch} (h:jN P W v l) (d:Keeps F W X) (f:∀j,P j→¬F j):jN P X v l:=by
 rcases h with h|⟨g,o,c,N,i,e,r,m,q,a⟩
 ·exact .inl h
 ·exact .inr ⟨g,o,c,N,i,e.keeps d (f g a),r,m,q,a⟩
theorem jN.ah (h:jN P W v l) (a:Below W.heap.size W X):jN P X v l:=h.keeps (F:=fun _=>False) (Keeps.af a) (fun _ _ e=>e)
theorem jN.mono {Q:Nat→Prop} (h:jN P W v l) (a:∀j,P j→Q j):jN Q W v l:=by
 rcases h with h|⟨g,o,c,N,d,m,q,e,f,i⟩
 ·exact .inl h
 ·exact .inr ⟨g,o,c,N,d,m,q,e,f,a g i⟩
theorem jN.own {base:Nat} (h:w.ownsRow base 174 4 v n (rD l)) (y:∀j,base≤j→j<w.heap.size→P j):jN P w v l:=by
 obtain⟨f,⟨e,z⟩|⟨g,cap,cur,e,r,i,o,t,a,q⟩⟩:=h
 ·rw [fI] at f
  subst z;exact .inl ⟨e,List.eq_nil_of_length_eq_zero (by omega)⟩
 ·rw [fI] at f
  have s:n=l.length:=by omega
  subst s;refine .inr ⟨g,0,cap,cur.size,e,⟨⟨cur,i,rfl,fun j u m=>?_⟩,by rw[a];omega⟩,o,t,by rw[a];omega,y g r (hpLt i)⟩;have d:=(List.getElem?_eq_some_iff.1 m).1;rw[Nat.zero_add,←m];exact gw q j d
theorem Iq:(Tryz.prog.info? 174).map (fun i=>(i.zero,i.size,i.bytes))=U (U (.agg #[Z O 0,Z .u8 0,Z O 0,Z O 0]),4,32):=by kernel_rfl
theorem Ci (h:jN P w v l) (x:Ch) (t:Addr) (c:Nat) (D:∀j u,(oe x)[j]?=U u→w.cell? (t.add j)=U u) (hlen:l.length+1≤1000000000) (ty:TypeId):
  ∃r w',(Builtin.append_ #[123,123] ty #[v,J (U t) 1 c]).run Tryz.prog w=.ok r w'∧jN (ax P w w') w' r (l++[x])∧Keeps P w w':=by
 obtain⟨i,hi,s,d,y⟩:=info_parts Iq;have a:(oe x).length=1*4:=rfl;have Q:rD (l++[x])=rD l++oe x:=by rw[By];show _++(oe x++[])=_;rw[List.append_nil]
 rcases h with⟨rfl,rfl⟩|⟨g,o,k,N,rfl,S,ab,tD,A,R⟩
 ·obtain ⟨r,w',q,K,G,_⟩:=run_append_own (P:=Tryz.prog) w w.heap.size 123 ty 174 i _ 4 32 Tryz.underlying123 hi s d y rfl (by decide) (J none 0 0) 0 [] (World.ownsRow_nil w _ _ _) t 1 c (oe x) a D (A0 x) (by decide) (by decide) (Nat.le_refl _)
  refine⟨r,w',q,jN.own (l:=[]++[x]) (by rw[Q];exact K) (fun j B I=>.inr ⟨B,I⟩),Keeps.bJ G (fun k e=>by cases e)⟩
 ·by_cases V:l.length+1≤k
  ·obtain ⟨T,L,f,QD⟩:=S.h
   have SO:∀j,j<(oe x).length→(w.cell? ⟨g,o+l.length*4+j,M⟩).isSome=true:=fun j m=>by
    rw[hpCell L,Array.getElem?_eq_getElem (by rw[f];omega)];rfl
   have q:=run_append_room_cells (P:=Tryz.prog) w 123 ty 174 i Tryz.underlying123 hi g o l.length k t 1 c (oe x) (by rw[d];exact a) D (A0 x) V (by rw[d];exact SO) (fun j _=>hpFree L _);rw[d] at q;have z:T.toList.length=N:=f;obtain⟨Z,k2⟩:=il g (oe x) (o+l.length*4) w;refine⟨_,_,q,.inr ⟨g,o,k,N,by rw[List.length_append];rfl,⟨⟨_,iw g _ _ (oe x) _ w T L (by rw[f,a];omega),?_,fun j u m=>?_⟩,by rw[List.length_append];show o+(l.length+1)*4≤N;omega⟩,by rw[List.length_append];exact V,tD,A,.inl R⟩,Z.mono (fun j _ e=>by subst e;exact R)⟩
   ·simp only[List.size_toArray,List.length_append,List.length_take,List.length_drop,Array.length_toList,f,a]
    omega
   ·rw [Q] at m
    have O:=(List.getElem?_eq_some_iff.1 m).1;rw[List.length_append,fI,a] at O;simp only[List.getElem?_toArray];by_cases C:j<l.length*4
    ·rw [List.getElem?_append_left (by rw[fI];exact C)] at m
     have:=QD j u m;rw[List.append_assoc,List.getElem?_append_left (by rw[List.length_take,z];omega),List.getElem?_take_of_lt (by omega)];simpa using this
    ·rw [List.getElem?_append_right (by rw[fI];omega),fI] at m
     rw[List.append_assoc,List.getElem?_append_right (by rw[List.length_take,z];omega),List.getElem?_append_left (by rw[List.length_take,z,a];omega),List.length_take,z];rw[show o+j-min (o+l.length*4) N=j-l.length*4 by omega];exact m
  ·have holds:∀j u,(rD l)[j]?=U u→w.cell? ((⟨g,o,M⟩:Addr).add j)=U u:=fun j u m=>by rw[Addr.add_lit];exact S.cell m
   obtain⟨r,w',q,K,G⟩:=run_append_arg_grows (P:=Tryz.prog) w 123 ty 174 i _ 4 32 Tryz.underlying123 hi s d y rfl (by decide) ⟨g,o,M⟩ l.length k (rD l) (fI l) holds t 1 c (oe x) a D (by omega) (by unfold maxLen;omega) (by omega);refine⟨r,w',q,jN.own (l:=l++[x]) (by rw[Q];exact K) (fun j B I=>.inr ⟨B,I⟩),Keeps.bJ G (fun k e=>by cases e)⟩
theorem step_appPn {ops:Array Oper} {op:Oper} {a:Act} {K:Act→World→Prop} {Q:Exit→Act→World→Prop} (q:op.guard=none) (s y:Operand)
  (i:op.op=.call {callee:=.builtin .append,args:=#[s,y],argTypes:=#[123,123]})
  (hs:a.eval s=v) (h:jN P w v l) (x:Ch) (e:Addr) (c:Nat) (r:a.eval y=J (U e) 1 c) (m:∀j u,(oe x)[j]?=U u→w.cell? (e.add j)=U u) (hlen:l.length+1≤1000000000)
  (z:∀d w',jN (ax P w w') w' d (l++[x])→Keeps P w w'→K (a.put op.dst d) w'):
  if Region.wanted op (yielded ops a.tmps)=true then Oper.wp Tryz.prog op a w K Q else E:=by
 have hw:Region.wanted op (yielded ops a.tmps)=true:=by simp [Region.wanted,q]
 rw[if_pos hw];obtain⟨d,w',f,t,o⟩:=Ci h x e c m hlen op.type;unfold Oper.wp execOp;simp only[i,resolve,invoke,builtin,Sem.run_bind,Sem.run_pure,Result.andThen_ok,List.map_toArray,List.map_cons,List.map_nil,hs,r,f];exact z d w' t o
def RA:Array Value:=#[.string {data:=#[110,111,110,101]},.bool false,.bool false,.bool false,.string {data:=#[114,101,113,117,101,115,116]},.bool false,.bool false,.bool false,.string {data:=#[114,101,112,108,121]},.bool false,.bool false,.bool false,.string {data:=#[100,97,109,97,103,101]},.bool true,.bool true,.bool false,.string {data:=#[100,101,108,97,121]},.bool false,.bool false,.bool true,.string {data:=#[98,117,115,121]},.bool false,.bool false,.bool false,.string {data:=#[103,97,112]},.bool true,.bool false,.bool true]
theorem Pl:(Tryz.prog.info? 223).map (·.size)=U 4:=by kernel_rfl
theorem Ct (w:World):Calls Tryz.prog 152 #[] w fun r w'=>r=G (J (U ⟨w.heap.size,0,M⟩) 7 7)∧(∃T,w'.heap[w.heap.size]?=U (D RA T (0,0)))∧Below w.heap.size w w':=by
 go_enter Tryz.func152,Tryz.ntmps152;go_wp2;go_ret;exact⟨rfl,⟨_,hpNew w _⟩,bal' w _⟩
theorem Qp {T:TypeId} (h:X.heap[g]?=U (D RA T (0,0))) (k:Nat) (C:Array Value) (a:∀j v,C.toList[j]?=U v→RA[k+j]?=U v):∀j v,C.toList[j]?=U v→X.cell? ((⟨g,k,M⟩:Addr).add j)=U v:=fun j v d=>by
 have e:(⟨g,k,M⟩:Addr).add j=⟨g,k+j,M⟩:=by unfold Addr.add;split<;>simp_all
 rw[e,hpCell h];exact a j v d
theorem uE (n:Int) (i:0≤n) (f:n<65536):bits .and .i64 n 255=n%256:=by
 show IntKind.wrap .i64 ((((BitVec.ofInt 64 n)&&&(BitVec.ofInt 64 255)).toNat:Nat):Int)=_;have d:(BitVec.ofInt 64 n).toNat=n.toNat:=by rw[BitVec.toNat_ofInt];omega
 have a:(BitVec.ofInt 64 255).toNat=255:=by decide
 have e:n.toNat&&&255=n.toNat%256:=Nat.and_two_pow_sub_one_eq_mod n.toNat 8;rw[BitVec.toNat_and,d,a,e,IntWalk.i64_in _ (by omega)];omega
def AtR (_:World) (cs:List Value) (x:At):Prop:=cs=x.C.toList∧bT x.bf∧bT x.fault∧bT x.pos∧bT x.mask∧bT x.ai∧bT x.value
def ke (w:World) (v:Value) (l:List At):Prop:=gY 6 AtR w v l
theorem ke.ah {w w':World} {v:Value} {l:List At} (h:ke w v l) (a:Below w.heap.size w w'):ke w' v l:=gY.ah (fun _ _ _ _ h _=>h) h a
theorem ke.at {l:List At} (h:ke w v l) (f:l[k]?=U x):
  ∃b o c,v=J (U ⟨b,o,M⟩) l.length c∧∀W,Below w.heap.size w W→W.cell? ⟨b,o+k*6,M⟩=U (Z O x.bf)∧W.cell? ⟨b,o+k*6+1,M⟩=U (Z O x.fault)∧W.cell? ⟨b,o+k*6+2,M⟩=U (Z O x.pos)∧W.cell? ⟨b,o+k*6+3,M⟩=U (Z O x.mask)∧W.cell? ⟨b,o+k*6+4,M⟩=U (Z O x.ai)∧W.cell? ⟨b,o+k*6+5,M⟩=U (Z O x.value):=by
 obtain⟨a,c,rfl,s,y,t,i⟩:=h;obtain⟨b,o,rfl,m⟩:=i (by rintro rfl;simp at f);obtain⟨r,q,⟨rfl,-⟩,d⟩:=m k x f;exact⟨b,o,c,rfl,fun W e=>⟨cell_keep e (d 0 _ rfl),cell_keep e (d 1 _ rfl),cell_keep e (d 2 _ rfl),cell_keep e (d 3 _ rfl),cell_keep e (d 4 _ rfl),cell_keep e (d 5 _ rfl)⟩⟩
theorem ke.row {l:List At} (h:ke w v l) (d:l[k]?=U x):
  ∃b o c,v=J (U ⟨b,o,M⟩) l.length c∧∀W,Below w.heap.size w W→∀i u,x.C.toList[i]?=U u→W.cell? ((⟨b,o+k*6,M⟩:Addr).add i)=U u:=by
 obtain⟨a,c,rfl,y,t,z,f⟩:=h;obtain⟨b,o,rfl,m⟩:=f (by rintro rfl;simp at d);obtain⟨r,s,⟨rfl,-⟩,e⟩:=m k x d;exact⟨b,o,c,rfl,fun W q i u hi=>by rw[Addr.add_lit];exact cell_keep q (e i u hi)⟩
theorem uD {lp:Bool} (f:j=k%aC.length) (a:aC[j]?=U x) (h:lp=true∨k<aC.length):cA aC lp k=x:=by
 unfold cA;have m:=(List.getElem?_eq_some_iff.1 a).1;rw[if_neg,←f,a]
 ·rfl
 ·rintro (e|⟨d,i⟩)
  ·omega
  ·rcases h with h|h
   ·rw [h] at d;cases d
   ·omega
theorem GL (h:aC.length≤k):cA aC false k=At.zero:=by
 unfold cA;rw[if_pos (.inr ⟨rfl,h⟩)]
def qB (w:World) (a:At) (r:Ending) (w':World):Prop:=r=G (.agg a.C)∧Below w.heap.size w w'
theorem N5 (h:p:=by
 have g9:w8.heap[w.heap.size]?=some (.cells C 70):=(by rw[g8,List.drop_eq_nil_of_le (by simp [hcs])];simp);refine bodyPost_ret (results_cell_row rfl _ _ w.heap.size 70 C (0,0) _ rfl g9 Tryz.underlying70 rfl hi) rfl ?_;rw[HV.out];exact⟨by rw[←HPX.out],HB1.out.trans (hk8.below HB1.out.size (fun j hj e=>by omega))⟩):p:=h
theorem DW (g:Nat) (aa:Option Addr) (an ac:Nat) (aC:List At) (f:aC.length=an) (lp:Bool) (B:lp=true→0<an) (k:Nat) (R:k≤1000000000) (w:World) (lj:w.cell? ⟨g,1,M⟩=U (J aa an ac)) (zE:w.cell? ⟨g,2,M⟩=U (.bool lp)) (hA:ke w (J aa an ac) aC):
  Calls Tryz.prog 124 #[.pointer (U ⟨g,0,M⟩),Z O (k:Int)] w (qB w (cA aC lp k)):=by
 obtain⟨A,S,d,T⟩:=eY w (D #[Z O 0,Z O 0,Z O 0,Z O 0,Z O 0,Z O 0] 70);have c1:A.cell? ⟨g,1,M⟩=U (J aa an ac):=cell_keep d lj;have c2:A.cell? ⟨g,2,M⟩=U (.bool lp):=cell_keep d zE;obtain⟨V,r⟩:=gE (cA aC lp k);rw[r];have HA:=hid hA;have HN:=hid f;have i:=hid S;have HB1:=hid d;have Q:=hid T;obtain⟨K,z⟩:∃K:Int,(k:Int)=K:=⟨_,rfl⟩
 have G:(0:Int)≤K:=by omega
 rw[z];clear S d T hA lj zE;cases lp with
 |true=>
  have hp:=B rfl;obtain⟨j,hj⟩:∃j,k%an=j:=⟨_,rfl⟩
  have JH:j<an:=by rw[←hj];exact Nat.mod_lt _ hp
  obtain⟨x,s⟩:=gs f JH;have I:=hid s;have HV:Hid (V=x):=by show _=_;rw[←r];exact uD (by rw[f];exact hj.symm) s (.inl rfl)
  have r1:K.tmod (an:Int)=(j:Int):=by rw[←z,←hj,Int.tmod_eq_emod_of_nonneg (by omega)];exact(Int.natCast_emod k an).symm
  have r2:K%(an:Int)=(j:Int):=by rw[←r1,Int.tmod_eq_emod_of_nonneg G]
  have r3:¬(an:Int)=0:=by omega
  have r4:decide ((an:Int)≤(j:Int))=false:=decide_eq_false (by omega);have r5:¬(an:Int)≤(j:Int):=by omega
  have r6:(0:Int)≤(j:Int):=by omega
  have r7:(j:Int)<(an:Int):=by omega
  have r8:¬an≤j:=by omega
  clear r s hj hp B R z f;obtain⟨b,o,c',t,m⟩:=HA.out.row I.out;rw[HN.out] at t;simp only[Value.slice.injEq,true_and] at t;obtain⟨rfl,rfl⟩:=t;obtain⟨C,a⟩:=gE x.C;rw[a] at m;have hi:(Tryz.prog.info? 70).map (·.size)=U C.size:=(by rw[←a];exact ga);have q:C.toList.all (·.oneCell')=true:=(by rw[←a];rfl);have hcs:C.size=6:=(by rw[←a];rfl);have L:=hid (m A HB1.out);have HPX:Hid (x.C=C):=a;clear a m;go_enter Tryz.func124,Tryz.ntmps124;go_upto_region 1 with(fail)
  rw[i.out];go_wp2_with (first|(refine aZ rfl 70 (.tmp 27) rfl ⟨b,o+j*6,M⟩ rfl C _ L.out Tryz.underlying70 rfl hi ?_)|(refine wpList_storeW rfl 70 (.tmp 4) (.tmp 28) rfl w.heap.size 0 _ 70 C rfl rfl Q.out (by simp [hcs]) hi q ?_;intro w8 g8 hk8 y));exact N5
 |false=>
  by_cases C0:k<an
  ·obtain ⟨x,s⟩:=gs f C0
   have I:=hid s;have HV:Hid (V=x):=by show _=_;rw[←r];exact uD (by rw[f];exact(Nat.mod_eq_of_lt C0).symm) s (.inr (by omega))
   subst z;have r4:decide ((an:Int)≤(k:Int))=false:=decide_eq_false (by omega);have r5:¬(an:Int)≤(k:Int):=by omega
   have r7:(k:Int)<(an:Int):=by omega
   have r8:¬an≤k:=by omega
   clear r s B R f;obtain⟨b,o,c',t,m⟩:=HA.out.row I.out;rw[HN.out] at t;simp only[Value.slice.injEq,true_and] at t;obtain⟨rfl,rfl⟩:=t;obtain⟨C,a⟩:=gE x.C;rw[a] at m;have hi:(Tryz.prog.info? 70).map (·.size)=U C.size:=(by rw[←a];exact ga);have q:C.toList.all (·.oneCell')=true:=(by rw[←a];rfl);have hcs:C.size=6:=(by rw[←a];rfl);have L:=hid (m A HB1.out);have HPX:Hid (x.C=C):=a;clear a m;go_enter Tryz.func124,Tryz.ntmps124;go_upto_region 1 with(fail)
   rw[i.out];go_wp2_with (first|(refine aZ rfl 70 (.tmp 27) rfl ⟨b,o+k*6,M⟩ rfl C _ L.out Tryz.underlying70 rfl hi ?_)|(refine wpList_storeW rfl 70 (.tmp 4) (.tmp 28) rfl w.heap.size 0 _ 70 C rfl rfl Q.out (by simp [hcs]) hi q ?_;intro w8 g8 hk8 y));exact N5
  ·have HV:Hid (V=At.zero):=by show _=_;rw[←r];exact GL (by omega)
   subst z;have r4:decide ((an:Int)≤(k:Int))=true:=decide_eq_true (by omega);have r5:(an:Int)≤(k:Int):=by omega
   have r8:an≤k:=by omega
   clear r B R f;go_enter Tryz.func124,Tryz.ntmps124;go_upto_region 1 with(fail)
   rw[i.out];go_wp2_with (refine wpList_storeW rfl 70 (.tmp 4) (.tmp 24) rfl w.heap.size 0 _ 70 #[Z O 0,Z O 0,Z O 0,Z O 0,Z O 0,Z O 0] rfl rfl Q.out (by simp) ga rfl ?_;intro w8 g8 hk8 y);have g9:w8.heap[w.heap.size]?=U (D #[Z O 0,Z O 0,Z O 0,Z O 0,Z O 0,Z O 0] 70):=g8;refine bodyPost_ret (results_cell_row rfl _ _ w.heap.size 70 _ (0,0) _ rfl g9 Tryz.underlying70 rfl ga) rfl ?_;rw[HV.out];exact⟨rfl,HB1.out.trans (hk8.below HB1.out.size (fun j hj e=>by omega))⟩
theorem tJ {l:List Sl} {bd pa:Int} {f:List UInt8} {o:Int×Rq×List Nat} (h:cm l bd pa f=U o):(∃p,bk aw f=U (o.1,p))∧o.2.2=bF l bd pa o.1 l.length:=by
 cases hs:bk aw f with
 |none=>rw[lZ hs] at h;cases h
 |some x=>
  obtain⟨u,p⟩:=x;cases hq:ek p with
  |none=>rw[qs hs hq] at h;cases h
  |some q=>
   rw[nm hs hq] at h;split at h
   ·cases h
   ·injection h with h
    subst h;exact⟨⟨p,rfl⟩,rfl⟩
theorem yS (g:Nat) (la:Option Addr) (lc ln:Nat) (l:List Sl) (R:l.length=ln) (hB:cW l) (bd pa:Int) (f1:bT bd) (f2:bT pa) (fa:Option Addr) (fn fc:Nat) (f:List UInt8) (o:Int×Rq×List Nat) (ho:cm l bd pa f=U o) (V:Bool) (z:decide (o.2.2.length=1)=V) (w:World) (iT:w.cell? ⟨g,0,M⟩=U (J la ln lc)) (hL:dm w (J la ln lc) l) (hf:Bs w (J fa fn fc) f):
  Calls Tryz.prog 164 #[.pointer (U ⟨g,0,M⟩),.agg #[Z O bd,Z O pa],J fa fn fc] w (aj w V):=by
 obtain⟨u,q,ms⟩:=o;obtain⟨⟨p,hs⟩,hm⟩:=tJ ho;dsimp only at hs hm z;obtain⟨W1,ak,t,pS⟩:=eY w (D #[Z O bd,Z O pa] 61);obtain⟨C,rh⟩:=gE ms.length;rw[rh] at z;have qj:Hid (∀X,Below w.heap.size w X→Calls Tryz.prog 146 #[J fa fn fc] X fun r w'=>∃T c2,r=G (.tuple #[Z O u,J T p.length c2,Z O 0])∧Bs w' (J T p.length c2) p∧Below X.heap.size X w'):=fun X hX=>pw hs fa fn fc X (hf.ah hX)
 have Ls:Hid (∀X,Below w.heap.size w X→Calls Tryz.prog 188 #[J la ln lc,.agg #[Z O bd,Z O pa],Z O u] X fun r w'=>∃a c,r=G (J a C c)∧Below X.heap.size X w'):=fun X hX=>(sC la lc l ln X R (by have:=hB.1;omega) (hL.ah hX) bd pa u f1 f2).mono fun r w' h=>by
  obtain⟨a,c,h1,-,h3⟩:=h;rw[←R,←hm,rh] at h1;exact⟨a,c,h1,h3⟩
 have I:=hid ak;have y:=hid t;have Mm:=hid iT;have lh:=hid pS;clear ak t pS hB hL hf f1 f2 R iT hs hm ho rh;obtain⟨PL,B⟩:=gE p.length;rw[B] at qj;clear B;go_enter Tryz.func164,Tryz.ntmps164;go_upto_region 1 with(fail)
 rw[I.out];go_upto_region 2 with(go_at_call 146;(with_reducible refine(qj.out _ y.out).mono ?_);rintro r m ⟨T,c2,rfl,-,s⟩)
 have Q:Hid (Below w.heap.size w m):=bt y.out s (Nat.le_refl _);have s0:∀X,Below m.heap.size m X→X.cell? ⟨w.heap.size,0,M⟩=U (Z O bd):=fun X h=>hpCell (hpKeep (hpKeep lh.out s) h) 0
 have s1:∀X,Below m.heap.size m X→X.cell? ⟨w.heap.size,1,M⟩=U (Z O pa):=fun X h=>hpCell (hpKeep (hpKeep lh.out s) h) 1
 have c0:∀X,Below m.heap.size m X→X.cell? ⟨g,0,M⟩=U (J la ln lc):=fun X h=>cell_keep h (cell_keep Q.out Mm.out)
 have kD:Below m.heap.size m m.drew:=(Below.refl _ _).drew;have q1:((C:Int)==1)=V:=by rw[←z];cases e:decide (C=1) with
  |true=>have:=of_decide_eq_true e;rw[this];rfl
  |false=>have:=of_decide_eq_false e;exact beq_eq_false_iff_ne.2 (by omega)
 have q2:(C==1)=V:=by rw[←z];rfl
 clear s z;refine wp_region_held_drew (S:=fun V=>Below m.heap.size m V) (by kernel_rfl) kD (fun hH=>?_);clear hH;refine tG 0 16 ?_;refine tG 1 17 ?_;refine tG 2 18 ?_;refine tG 3 19 ?_;refine tG 4 20 ?_;refine tG 5 21 ?_;refine tG 6 22 ?_;refine tG 7 23 ?_;refine tG 8 24 ?_;refine rdyH 9 rfl (fun K hK=>?_);go_simp;refine(Ls.out _ (bt Q.out kD (Nat.le_refl _))).mono ?_;rintro r w4 ⟨ma,mc,rfl,aY⟩;have A:=bt kD aY (Nat.le_refl _);refine hK.out _ _ A (fun L=>?_);clear hK K L;refine tG 10 26 ?_;refine tG 11 27 ?_;refine tG 12 28 ?_;refine tkD 13 6 (v:=?_) rfl (by kernel_rfl) (fun _ _ _ h=>h) rfl (by rfl) (by assumption) ?_ ?_;rotate_left;(intro w bK;(try dsimp only at bK);(try go_simp);try rfl);refine wpAnyH_done (by kernel_rfl) ?_ _;go_wp2;go_ret;exact⟨rfl,bt Q.out A (Nat.le_refl _)⟩
theorem pP:∀(l:List (Int×Int)),∀u∈cO l,u.oneCell'=true
 |[],u,hu=>by cases hu
 |x::l,u,hu=>by
  simp only[cO,List.mem_cons] at hu;rcases hu with rfl|rfl|hu
  ·rfl
  ·rfl
  ·exact pP l u hu
theorem mq {w:World}:∀(l:List (Int×Int)),(∀x∈l,bT x.1∧bT x.2)→eU 2 (NG w) (cO l) l
 |[],_=>rfl
 |x::l,h=>⟨[Z O x.1,Z O x.2],cO l,rfl,rfl,⟨rfl,(h x (List.mem_cons_self ..)).1,(h x (List.mem_cons_self ..)).2⟩,mq l (fun y a=>h y (List.mem_cons_of_mem _ a))⟩
theorem dw.Wz {l:List (Int×Int)} (h:dw w v l):∀x∈l,bT x.1∧bT x.2:=fun x d=>by
 obtain⟨i,hi⟩:=List.getElem?_of_mem d;obtain⟨b,o,c,_,w1,a,_⟩:=h.at hi;exact⟨w1,a⟩
theorem dw.Lb {o:Nat} {l:List (Int×Int)} (h:dw w (J (U ⟨b,o,M⟩) n c) l):∀j u,(cO l)[j]?=U u→w.cell? ⟨b,o+j,M⟩=U u:=by
 intro j u a;have m:=(List.getElem?_eq_some_iff.1 a).1;rw[eD] at m;obtain⟨x,f⟩:=gs (l:=l) rfl (show j/2<l.length by omega);obtain⟨b',t,y,i,-,-,r⟩:=h.at f;simp only[Value.slice.injEq,Option.some.injEq,Addr.mk.injEq,and_true] at i;obtain⟨⟨rfl,rfl⟩,-,-⟩:=i;obtain⟨q,s⟩:=r w (Below.refl _ _);obtain⟨s0,s1⟩:=ql l (j/2) x f;rcases Nat.mod_two_eq_zero_or_one j with e|e
 ·have d:j=j/2*2:=by omega
  rw[d] at a ⊢;rw[s0] at a;cases a;exact q
 ·have d:j=j/2*2+1:=by omega
  rw[d] at a ⊢;rw[s1] at a;cases a;exact s
theorem KF:(Tryz.prog.info? 24).map (fun i=>(i.zero,i.size,i.bytes))=U (U (.agg #[Z O 0,Z O 0]),2,16):=by kernel_rfl
theorem LW:(Tryz.prog.info? 70).map (fun i=>(i.zero,i.size,i.bytes))=U (U (.agg #[Z O 0,Z O 0,Z O 0,Z O 0,Z O 0,Z O 0]),6,48):=by kernel_rfl
def uY:List At→List Value
 |[]=>[]
 |x::l=>x.C.toList++uY l
theorem tw:∀l,(uY l).length=l.length*6
 |[]=>rfl
 |x::l=>by
  show (x.C.toList++uY l).length=_;rw[List.length_append,tw l,List.length_cons];show 6+_=_;omega
theorem Bw:∀(l:List At),∀u∈uY l,u.oneCell'=true
 |[],u,hu=>by cases hu
 |x::l,u,hu=>by
  rcases List.mem_append.1 hu with hu|hu
  ·have:u∈[Value.int .i64 x.bf,Z O x.fault,Z O x.pos,Z O x.mask,Z O x.ai,Z O x.value]:=hu
   simp only[List.mem_cons,List.not_mem_nil,or_false] at this;rcases this with rfl|rfl|rfl|rfl|rfl|rfl<;>rfl
  ·exact Bw l u hu
def QY (x:At):Prop:=bT x.bf∧bT x.fault∧bT x.pos∧bT x.mask∧bT x.ai∧bT x.value
theorem AU {w:World}:∀(l:List At),(∀x∈l,QY x)→eU 6 (AtR w) (uY l) l
 |[],_=>rfl
 |x::l,h=>⟨x.C.toList,uY l,rfl,rfl,⟨rfl,h x List.mem_cons_self⟩,AU l (fun y a=>h y (List.mem_cons_of_mem _ a))⟩
theorem Bt:∀{l:List At} {i:Nat} {x:At},l[i]?=U x→∀r,r<6→(uY l)[i*6+r]?=x.C.toList[r]?
 |[],i,x,h,_,_=>by cases h
 |y::l,0,x,h,r,hr=>by
  injection h with h
  subst h;show (y.C.toList++uY l)[0*6+r]?=_;rw[Nat.zero_mul,Nat.zero_add,List.getElem?_append_left (show r<6 from hr)]
 |y::l,i+1,x,h,r,hr=>by
  show (y.C.toList++uY l)[(i+1)*6+r]?=_;rw[List.getElem?_append_right (show 6≤_ by omega),show (i+1)*6+r-y.C.toList.length=i*6+r by show (i+1)*6+r-6=_;omega];exact Bt (by simpa using h) r hr
theorem ke.Wz {l:List At} (h:ke w v l):∀x∈l,QY x:=fun x f=>by
 obtain⟨i,hi⟩:=List.getElem?_of_mem f;obtain⟨a,c,rfl,s,q,y,d⟩:=h;obtain⟨b,o,rfl,e⟩:=d (by rintro rfl;simp at hi);obtain⟨r,m,⟨-,hw⟩,t⟩:=e i x hi;exact hw
theorem ke.Lb {o:Nat} {l:List At} (h:ke w (J (U ⟨b,o,M⟩) n c) l):∀j u,(uY l)[j]?=U u→w.cell? ⟨b,o+j,M⟩=U u:=by
 intro j u d;have f:=(List.getElem?_eq_some_iff.1 d).1;rw[tw] at f;obtain⟨a,G,q,D,B,I,y⟩:=h;simp only[Value.slice.injEq] at q;obtain⟨rfl,rfl,rfl⟩:=q;obtain⟨b',C,e,z⟩:=y (by rintro rfl;simp at f);cases e;obtain⟨i,r,s,rfl⟩:∃i r,r<6∧j=i*6+r:=⟨j/6,j%6,Nat.mod_lt _ (by decide),by omega⟩
 obtain⟨x,m⟩:=gs (l:=l) rfl (show i<l.length by omega);obtain⟨A,u7,⟨rfl,-⟩,t⟩:=z i x m;rw[Bt m r s] at d;rw[←Nat.add_assoc];exact t r u d
def dH (w:World) (l:List (Int×Int)) (r:Ending) (w':World):Prop:=∃a c,r=G (J a l.length c)∧w'.ownsRow w.heap.size 24 2 (J a l.length c) l.length (cO l)∧Below w.heap.size w w'
theorem dH.own {l:List (Int×Int)} {cs:List Value} (d:cs=cO l) (f:n=l.length) (h:w'.ownsRow w.heap.size 24 2 v n cs) (e:Below w.heap.size w w'):dH w l (G v) w':=by
 subst d f;obtain⟨a,c,rfl⟩:=own_slice h;exact⟨a,c,rfl,h,e⟩
theorem wB (v:Value) (l:List (Int×Int)) (w:World) (m:dw w v l) (Q:l.length≤1000000):Calls Tryz.prog 117 #[v] w (dH w l):=by
 obtain⟨i5,hi,f,e,i⟩:=info_parts KF;obtain⟨a,c,rfl,S,G,B,r⟩:=id m;unfold maxLen at G;have R:=Lib.run_eql_slice_nil (P:=Tryz.prog);cases a with
 |none=>
  obtain rfl:=B rfl;have C:l.length=0:=by omega
  have:l=[]:=List.eq_nil_of_length_eq_zero C;subst this;clear m r;go_enter Tryz.func117,Tryz.ntmps117;go_wp2;go_ret;exact dH.own (cs:=[]) (n:=0) rfl rfl (World.ownsRow_nil _ _ _ _) (Below.refl _ _)
 |some a=>
  by_cases s:l=[]
  ·subst s
   clear m r;go_enter Tryz.func117,Tryz.ntmps117;go_wp2_with (at_builtin;refine aL rfl _ _ 63 rfl w.heap.size 24 i5 _ 2 16 Tryz.underlying63 hi f e i rfl (by decide) _ 0 [] rfl (World.ownsRow_made _ _ _ (Nat.le_refl _) (by decide) rfl) a 0 c [] rfl rfl (by simp) (by simp) (by unfold maxLen;omega) (by omega) (by simp) ?c3)
   case c3=>
    intro A w1 d q _;have t:=(bal' w (D #[] 24)).grown q (bal' w (D #[] 24)).size (by intro k y;simp [Value.ownBlock] at y;omega);have z:=hid d;clear q d;go_wp2;go_ret;exact dH.own (cs:=[]) (n:=0) rfl rfl (by simpa using z.out) t
  ·obtain ⟨b,o,K,-⟩:=r s
   cases K;have I:Hid (∀j u,(cO l)[j]?=U u→(w.alloc (D #[] 24)).cell? ((⟨b,o,M⟩:Addr).add j)=U u):=fun j u L=>by
    have O:(⟨b,o,M⟩:Addr).add j=⟨b,o+j,M⟩:=by unfold Addr.add;split<;>simp_all
    rw[O];exact cell_keep (bal' w _) (m.Lb j u L)
   have J:Hid ((cO l).length=l.length*2):=eD l;have H1:Hid (∀u∈cO l,u.oneCell'=true):=pP l;clear m r s;go_enter Tryz.func117,Tryz.ntmps117;go_wp2_with (at_builtin;refine aL rfl _ _ 63 rfl w.heap.size 24 i5 _ 2 16 Tryz.underlying63 hi f e i rfl (by decide) _ 0 [] rfl (World.ownsRow_made _ _ _ (Nat.le_refl _) (by decide) rfl) ⟨b,o,M⟩ l.length c (cO l) rfl J.out I.out H1.out (by unfold maxLen;omega) (by omega) (by simp) ?c3)
   case c3=>
    intro A w1 d q _;have t:=(bal' w (D #[] 24)).grown q (bal' w (D #[] 24)).size (by intro k y;simp [Value.ownBlock] at y;omega);have z:=hid (show w1.ownsRow w.heap.size 24 2 A l.length (cO l) by simpa using d);clear q d;go_wp2;go_ret;exact dH.own rfl rfl z.out t
def dI (w:World) (l:List At) (r:Ending) (w':World):Prop:=∃a c,r=G (J a l.length c)∧w'.ownsRow w.heap.size 70 6 (J a l.length c) l.length (uY l)∧Below w.heap.size w w'
theorem dI.own {l:List At} {cs:List Value} (d:cs=uY l) (f:n=l.length) (h:w'.ownsRow w.heap.size 70 6 v n cs) (e:Below w.heap.size w w'):dI w l (G v) w':=by
 subst d f;obtain⟨a,c,rfl⟩:=own_slice h;exact⟨a,c,rfl,h,e⟩
theorem vp (v:Value) (l:List At) (w:World) (m:ke w v l) (Q:l.length≤1000000):Calls Tryz.prog 68 #[v] w (dI w l):=by
 obtain⟨i5,hi,f,e,i⟩:=info_parts LW;obtain⟨a,c,rfl,S,G,B,r⟩:=id m;unfold maxLen at G;have R:=Lib.run_eql_slice_nil (P:=Tryz.prog);cases a with
 |none=>
  obtain rfl:=B rfl;have C:l.length=0:=by omega
  have:l=[]:=List.eq_nil_of_length_eq_zero C;subst this;clear m r;go_enter Tryz.func68,Tryz.ntmps68;go_wp2;go_ret;exact dI.own (cs:=[]) (n:=0) rfl rfl (World.ownsRow_nil _ _ _ _) (Below.refl _ _)
 |some a=>
  by_cases s:l=[]
  ·subst s
   clear m r;go_enter Tryz.func68,Tryz.ntmps68;go_wp2_with (at_builtin;refine aL rfl _ _ 29 rfl w.heap.size 70 i5 _ 6 48 Tryz.underlying29 hi f e i rfl (by decide) _ 0 [] rfl (World.ownsRow_made _ _ _ (Nat.le_refl _) (by decide) rfl) a 0 c [] rfl rfl (by simp) (by simp) (by unfold maxLen;omega) (by omega) (by simp) ?c3)
   case c3=>
    intro A w1 d q _;have t:=(bal' w (D #[] 70)).grown q (bal' w (D #[] 70)).size (by intro k y;simp [Value.ownBlock] at y;omega);have z:=hid d;clear q d;go_wp2;go_ret;exact dI.own (cs:=[]) (n:=0) rfl rfl (by simpa using z.out) t
  ·obtain ⟨b,o,K,-⟩:=r s
   cases K;have I:Hid (∀j u,(uY l)[j]?=U u→(w.alloc (D #[] 70)).cell? ((⟨b,o,M⟩:Addr).add j)=U u):=fun j u L=>by
    have O:(⟨b,o,M⟩:Addr).add j=⟨b,o+j,M⟩:=by unfold Addr.add;split<;>simp_all
    rw[O];exact cell_keep (bal' w _) (m.Lb j u L)
   have J:Hid ((uY l).length=l.length*6):=tw l;have H1:Hid (∀u∈uY l,u.oneCell'=true):=Bw l;clear m r s;go_enter Tryz.func68,Tryz.ntmps68;go_wp2_with (at_builtin;refine aL rfl _ _ 29 rfl w.heap.size 70 i5 _ 6 48 Tryz.underlying29 hi f e i rfl (by decide) _ 0 [] rfl (World.ownsRow_made _ _ _ (Nat.le_refl _) (by decide) rfl) ⟨b,o,M⟩ l.length c (uY l) rfl J.out I.out H1.out (by unfold maxLen;omega) (by omega) (by simp) ?c3)
   case c3=>
    intro A w1 d q _;have t:=(bal' w (D #[] 70)).grown q (bal' w (D #[] 70)).size (by intro k y;simp [Value.ownBlock] at y;omega);have z:=hid (show w1.ownsRow w.heap.size 70 6 A l.length (uY l) by simpa using d);clear q d;go_wp2;go_ret;exact dI.own rfl rfl z.out t
