import Derived.Test.YtoaoejaodhedaaaGreatT05
namespace Go.Proofs.YtoaoejaodhedaaaGreat
open Go.RowKit
open Option renaming none→J,some→M
open Value renaming int→N
open IntKind renaming i64→Z
open Obj renaming cells→Y
open Ending renaming returned→O
set_option maxHeartbeats 12800000
set_option maxRecDepth 100000
variable {x y:Int×Int} {l:List (Int×Int)} {k:Nat} {p:Prop}
def tS (x:Int×Int):Bool:=eW.any (fun y=>decide (x.1=y))&&decide (0≤x.2)&&decide (x.2≤2)
theorem uo:tS x=true↔aU x.1 x.2:=by
 unfold tS;simp only[Bool.and_eq_true,decide_eq_true_eq,List.any_eq_true];refine⟨fun ⟨⟨⟨y,h,e⟩,a⟩,b⟩=>⟨by rw[e];exact h,a,b⟩,fun h=>⟨⟨⟨x.1,h.mem,rfl⟩,h.lo⟩,h.hi⟩⟩
def eG (a b:Int×Int):Bool:=decide (a.1<b.1)||(a.1==b.1&&decide (a.2<b.2))
def iF (p:Option (Int×Int)) (x:Int×Int):Bool:=match p with|none=>true|some y=>eG y x
def cE:Option (Int×Int)→List (Int×Int)→Bool
 |_,[]=>true
 |p,x::l=>(tS x&&iF p x)&&cE (M x) l
def iH:Option (Int×Int)→List (Int×Int)→Option (Int×Int)
 |p,[]=>p
 |_,x::l=>iH (M x) l
theorem iD (x:Int×Int):∀(l:List (Int×Int)) (p:Option (Int×Int)),cE p (l++[x])=(cE p l&&(tS x&&iF (iH p l) x))
 |[],p=>by show ((tS x&&iF p x)&&true)=(true&&_);rw[Bool.and_true,Bool.true_and];rfl
 |a::l,p=>by
  show ((tS a&&iF p a)&&cE (M a) (l++[x]))=(((tS a&&iF p a)&&cE (M a) l)&&(tS x&&iF (iH (M a) l) x));rw[iD x l (M a),Bool.and_assoc (tS a&&iF p a)]
theorem oV (x:Int×Int):∀(l:List (Int×Int)) (p:Option (Int×Int)),iH p (l++[x])=M x
 |[],_=>rfl
 |a::l,_=>oV x l (M a)
theorem sH (k:List (Int×Int)):∀(l:List (Int×Int)) (p:Option (Int×Int)),cE p (l++k)=true→cE p l=true
 |[],p,_=>rfl
 |a::l,p,h=>by
  simp only[List.cons_append,cE,Bool.and_eq_true] at h ⊢;exact⟨h.1,sH k l _ h.2⟩
theorem vI (h:l[k]?=M x) (b:(tS x&&iF (iH none (l.take k)) x)=false):cE none l=false:=by
 cases hx:cE none l with
 |false=>rfl
 |true=>
  exfalso;have a:cE none (l.take (k+1))=true:=sH (l.drop (k+1)) _ _ (by rw[List.take_append_drop];exact hx);rw[az h,iD,b] at a;simp at a
def jV (l:List (Int×Int)):Bool:=cE none l&&(decide (1≤l.length)&&decide (l.length≤6))
theorem wX (h:l[k]?=M y):iH none (l.take (k+1))=M y:=by rw[az h,oV]
def qh (a b:Int):Int:=if a<b then -1 else if b<a then 1 else 0
theorem D4 (a:Int) (w:World):Calls Tryz.prog 184 #[N Z a] w fun r b=>r=O (.bool false)∧w=b:=by
 have c:(a !=a)=false:=by rw[bne_eq_false_iff_eq]
 go_enter Tryz.func184,Tryz.ntmps184;go_wp2;go_ret;exact⟨rfl,rfl⟩
theorem AK (a b:Int) (w:World):Calls Tryz.prog 161 #[N Z a,N Z b] w fun r f=>r=O (N Z (qh a b))∧w=f:=by
 have d:=hid (fun (x:Int) (X:World)=>D4 x X);by_cases h:a<b
 ·have c:Hid (qh a b=-1):=if_pos h
  go_enter Tryz.func161,Tryz.ntmps161;go_wp2_with (go_at_call 184;(with_reducible refine(d.out _ _).mono ?_);rintro r w1 ⟨rfl,rfl⟩);go_ret;exact⟨by rw[c.out];rfl,rfl⟩
 ·by_cases e:b<a
  ·have c:Hid (qh a b=1):=by show _=_;unfold qh;rw[if_neg h,if_pos e]
   go_enter Tryz.func161,Tryz.ntmps161;go_wp2_with (go_at_call 184;(with_reducible refine(d.out _ _).mono ?_);rintro r w1 ⟨rfl,rfl⟩);go_ret;exact⟨by rw[c.out];rfl,rfl⟩
  ·have c:Hid (qh a b=0):=by show _=_;unfold qh;rw[if_neg h,if_neg e]
   go_enter Tryz.func161,Tryz.ntmps161;go_wp2_with (go_at_call 184;(with_reducible refine(d.out _ _).mono ?_);rintro r w1 ⟨rfl,rfl⟩);go_ret;exact⟨by rw[c.out];rfl,rfl⟩
def qk (a b:Int):Int:=if a=0 then b else a
theorem O4 (a b:Int) (p c:Nat) (w:World) (q:w.cell? ⟨p,0,J⟩=M (N Z a)) (o:w.cell? ⟨p,1,J⟩=M (N Z b)):Calls Tryz.prog 174 #[.slice (M ⟨p,0,J⟩) 2 c] w fun r m=>r=O (N Z (qk a b))∧w=m:=by
 by_cases e:a=0
 ·have j:(a !=0)=false:=by rw[bne_eq_false_iff_eq];exact e
  have g:Hid (qk a b=b):=if_pos e;by_cases f:b=0
  ·have i:(b !=0)=false:=by rw[bne_eq_false_iff_eq];exact f
   have n:=hid f;clear e f;go_enter Tryz.func174,Tryz.ntmps174;go_wp2;go_loopw [5,8] (fun _ d wr=>(d=N Z 0∧w=wr)∨(d=N Z 1∧w=wr)∨(d=N Z 2∧w=wr)) (fun _ d _=>2- (intOf d).toNat)
   case atStart=>exact .inl ⟨rfl,rfl⟩
   case round=>
    rcases hrel with⟨rfl,rfl⟩|⟨rfl,rfl⟩|⟨rfl,rfl⟩
    ·go_wp2
     go_roundw
     case rel=>exact .inr (.inl ⟨rfl,trivial⟩)
     case measure=>simp [intOf]
    ·go_wp2
     go_roundw
     case rel=>exact .inr (.inr ⟨rfl,trivial⟩)
     case measure=>simp [intOf]
    ·go_wp2
     go_ret;exact⟨by rw[g.out,n.out];rfl,rfl⟩
  ·have i:(b !=0)=true:=by rw[bne_iff_ne];exact f
   clear e f;go_enter Tryz.func174,Tryz.ntmps174;go_wp2;go_loopw [5,8] (fun _ d wr=>(d=N Z 0∧w=wr)∨(d=N Z 1∧w=wr)) (fun _ d _=>2- (intOf d).toNat)
   case atStart=>exact .inl ⟨rfl,rfl⟩
   case round=>
    rcases hrel with⟨rfl,rfl⟩|⟨rfl,rfl⟩
    ·go_wp2
     go_roundw
     case rel=>exact .inr ⟨rfl,trivial⟩
     case measure=>simp [intOf]
    ·go_wp2
     go_ret;exact⟨by rw[g.out];rfl,rfl⟩
 ·have j:(a !=0)=true:=by rw[bne_iff_ne];exact e
  have g:Hid (qk a b=a):=if_neg e;clear e;go_enter Tryz.func174,Tryz.ntmps174;go_wp2;go_loopw [5,8] (fun _ d wr=>d=N Z 0∧w=wr) (fun _ d _=>2- (intOf d).toNat)
  case atStart=>exact⟨rfl,rfl⟩
  case round=>
   obtain⟨rfl,rfl⟩:=hrel;go_wp2;go_ret;exact⟨by rw[g.out];rfl,rfl⟩
theorem xaM (a b:Int×Int):qk (qh a.1 b.1) (qh a.2 b.2)<0↔eG a b=true:=by
 unfold qk qh eG;simp only[Bool.or_eq_true,Bool.and_eq_true,decide_eq_true_eq,beq_iff_eq]
 repeat' split
 all_goals omega
theorem xC (a b:Int×Int) (w:World):
  Calls Tryz.prog 143 #[.agg #[N Z a.1,N Z a.2],.agg #[N Z b.1,N Z b.2]] w fun r e=>∃c:Int,r=O (N Z c)∧(c<0↔eG a b=true)∧Below w.heap.size w e:=by
 have C:=hid (xaM a b);obtain⟨a0,a1⟩:=a;obtain⟨b0,b1⟩:=b;dsimp only;obtain⟨d,f⟩:∃W,(w.alloc (Y #[N Z a0,N Z a1] 61)).alloc (Y #[N Z b0,N Z b1] 61)=W:=⟨_,rfl⟩
 have g:Below w.heap.size w d:=by rw[←f];exact bta (bal' w _) (Nat.le_refl _) _
 have i:d.heap[w.heap.size]?=M (Y #[N Z a0,N Z a1] 61):=by rw[←f];exact hpKeep (hpNew w _) (bal' _ _)
 have m:d.heap[w.heap.size+1]?=M (Y #[N Z b0,N Z b1] 61):=by
  rw[←f];have h:=hpNew (w.alloc (Y #[N Z a0,N Z a1] 61)) (Y #[N Z b0,N Z b1] 61);rw[World.size_alloc] at h;exact h
 have y0:=cF i 0 rfl;have F:=cF i 1 rfl;have D:=cF m 0 rfl;have E:=cF m 1 rfl;have z:Below d.heap.size d d.drew:=(Below.refl _ _).drew;obtain⟨c0,o⟩:=gE (qh a0 b0);obtain⟨c1,q⟩:=gE (qh a1 b1);have v:Hid (∀X,Calls Tryz.prog 161 #[N Z a0,N Z b0] X fun r e=>r=O (N Z c0)∧X=e):=fun X=>by rw[←o];exact AK a0 b0 X
 have A:Hid (∀X,Calls Tryz.prog 161 #[N Z a1,N Z b1] X fun r e=>r=O (N Z c1)∧X=e):=fun X=>by rw[←q];exact AK a1 b1 X
 have B:Hid (Calls Tryz.prog 174 #[.slice (M ⟨d.heap.size,0,J⟩) 2 2] ((d.alloc (Y #[N Z c0,N Z c1] 3)).drew) fun r e=>r=O (N Z (qk c0 c1))∧((d.alloc (Y #[N Z c0,N Z c1] 3)).drew)=e):=O4 c0 c1 _ 2 _ (hpCell (hpKeep (hpNew _ _) (Below.refl _ _).drew) 0) (hpCell (hpKeep (hpNew _ _) (Below.refl _ _).drew) 1);have u:=hid (And.intro o q);have j:=hid f;have n:=hid g;have s:∀X,Below d.heap.size d ((d.alloc X).drew):=fun X=>(bal' d X).drew
 clear f g i m o q;go_enter Tryz.func143,Tryz.ntmps143;go_upto_region 1 with(fail)
 rw[j.out];go_region_held3 (fun X=>Below d.heap.size d X) ((with_reducible (first|exact z|exact s _|assumption))) (first
  |(go_at_call 161;(with_reducible refine(v.out _).mono ?_);rintro r t ⟨rfl,rfl⟩)
  |(go_at_call 161;(with_reducible refine(A.out _).mono ?_);rintro r t ⟨rfl,rfl⟩)
  |(go_at_call 174;(with_reducible refine B.out.mono ?_);rintro r t ⟨rfl,rfl⟩))
 all_goals
  go_wp2;go_ret;exact⟨qk c0 c1,rfl,by rw[←u.out.1,←u.out.2];exact C.out,bt n.out (s _) (Nat.le_refl _)⟩
theorem wJ (a b:Int×Int) (w:World) (V:Bool) (e:Hid (eG a b=V)):
  Calls Tryz.prog 130 #[.agg #[N Z a.1,N Z a.2],.agg #[N Z b.1,N Z b.2]] w (aj w V):=by
 obtain⟨a0,a1⟩:=a;obtain⟨b0,b1⟩:=b;dsimp only;have c:=e.out;unfold eG at c;dsimp only at c;have m:Below w.heap.size w ((w.alloc (Y #[N Z a0,N Z a1] 61)).alloc (Y #[N Z b0,N Z b1] 61)):=bta (bal' w _) (Nat.le_refl _) _;have j:=hid m;clear m;by_cases g:a0<b0
 ·have d:Hid (V=true):=by show _=_;rw[←c,decide_eq_true g];rfl
  clear c e;go_enter Tryz.func130,Tryz.ntmps130;go_wp2;go_ret;exact⟨by rw[d.out];rfl,j.out⟩
 ·by_cases f:a0=b0
  ·have i:(a0==b0)=true:=by rw[beq_iff_eq];exact f
   by_cases n:a1<b1
   ·have d:Hid (V=true):=by show _=_;rw[←c,i,decide_eq_true n,decide_eq_false g];rfl
    clear c e f;go_enter Tryz.func130,Tryz.ntmps130;go_wp2;go_ret;exact⟨by rw[d.out];rfl,j.out⟩
   ·have d:Hid (V=false):=by show _=_;rw[←c,i,decide_eq_false n,decide_eq_false g];rfl
    clear c e f;go_enter Tryz.func130,Tryz.ntmps130;go_wp2;go_ret;exact⟨by rw[d.out];rfl,j.out⟩
  ·have i:(a0==b0)=false:=by rw[beq_eq_false_iff_ne];exact f
   have d:Hid (V=false):=by show _=_;rw[←c,i,decide_eq_false g];rfl
   clear c e f;go_enter Tryz.func130,Tryz.ntmps130;go_wp2;go_ret;exact⟨by rw[d.out];rfl,j.out⟩
theorem vn (x:Int×Int) (w:World) (V:Bool) (a:Hid (tS x=V)):Calls Tryz.prog 93 #[.agg #[N Z x.1,N Z x.2]] w (aj w V):=
 (kH x.1 x.2 w).mono fun _ _ ⟨U,h1,h2,h3⟩=>⟨by
  rw[h1]
  have e:U=V:=by
   have c:=uo (x:=x)
   have d:=h2.out
   have b:=a.out
   cases U<;>cases V<;>simp_all
  rw[e],h3⟩
theorem MA (h:p:=by
 clear hv hm h1 h2
 go_enter Tryz.func120,Tryz.ntmps120
 go_wp2_with fail
 rw[HW0.out]
 refine wp_region_held_drew (S:=fun V=>Below W0.heap.size W0 V) (by kernel_rfl) kD (fun hH=>?_);clear hH;refine tG 1 4 ?_;refine tG 2 5 ?_;refine rdyH 0 rfl (fun K hK=>?_);go_simp;refine(bauds_any _).mono ?_;rintro r w2 ⟨⟨a2,n2,cc2,rfl,hN⟩,hb2⟩;have hB2:=bt kD hb2 (Nat.le_refl _);refine hK.out _ _ hB2 (fun hS2=>?_);clear hK K;refine rdyH 3 rfl (fun K hK=>?_);go_simp;refine(contI_any _ _ _ _ hN true HV).mono ?_;rintro r w3 ⟨rfl,rfl⟩;refine hK.out _ _ hB2 (fun hS3=>?_);clear hK K hS2;refine tG 4 7 ?_
 refine tG 5 8 ?_
 refine tG 6 9 ?_
 refine tG 7 10 ?_
 refine tG 8 11 ?_
 refine tG 9 12 ?_
 refine tG 10 13 ?_
 refine tG 11 14 ?_
 refine tG 12 15 ?_
 refine tG 13 16 ?_
 refine tG 14 2 ?_;refine wpAnyH_done (by kernel_rfl) ?_ _;go_wp2;go_ret;exact⟨ret_bool HE.out,bt HB.out hB2 (Nat.le_refl _)⟩):p:=h
theorem ky (b p:Int) (w:World) (V:Bool) (f:Hid (tS (b,p)=V)):
  Calls Tryz.prog 120 #[.agg #[N Z b,N Z p]] w (aj w V):=by
 have hv:=f.out;unfold tS at hv;dsimp only at hv;obtain⟨W0,c⟩:∃W,w.alloc (Y #[N Z b,N Z p] 61)=W:=⟨_,rfl⟩;have e:W0.heap[w.heap.size]?=M (Y #[N Z b,N Z p] 61):=(by rw[←c];exact hpNew w _);have HB:Hid (Below w.heap.size w W0):=(by show Below _ _ _;rw[←c];exact bal' w _);have c0:=cF e 0 rfl;have c1:=cF e 1 rfl;have kD:Below W0.heap.size W0 W0.drew:=(Below.refl _ _).drew;have HW0:=hid c;clear e c f;cases hm:eW.any (fun y=>decide (b=y)) with
 |false=>
  have HV:Hid (eW.any (fun y=>decide (b=y))=false):=hm;have HE:Hid (false=V):=by rw[hm] at hv;exact hv
  clear hv hm;go_enter Tryz.func120,Tryz.ntmps120;go_wp2_with fail;rw[HW0.out];refine wp_region_held_drew (S:=fun V=>Below W0.heap.size W0 V) (by kernel_rfl) kD (fun hH=>?_);clear hH;refine tG 1 4 ?_;refine tG 2 5 ?_;refine rdyH 0 rfl (fun K hK=>?_);go_simp;refine(bauds_any _).mono ?_;rintro r w2 ⟨⟨a2,n2,cc2,rfl,hN⟩,hb2⟩;have hB2:=bt kD hb2 (Nat.le_refl _);refine hK.out _ _ hB2 (fun hS2=>?_);clear hK K;refine rdyH 3 rfl (fun K hK=>?_);go_simp;refine(contI_any _ _ _ _ hN false HV).mono ?_;rintro r w3 ⟨rfl,rfl⟩;refine hK.out _ _ hB2 (fun hS3=>?_);clear hK K hS2;refine tG 4 7 ?_;refine tU 5 8 ?_;refine tU 6 9 ?_;refine tU 7 10 ?_;refine tG 8 11 ?_;refine tG 9 12 ?_;refine tU 10 13 ?_;refine tU 11 14 ?_;refine tU 12 15 ?_;refine tG 13 16 ?_;refine tG 14 2 ?_;refine wpAnyH_done (by kernel_rfl) ?_ _;go_wp2;go_ret;exact⟨ret_bool HE.out,bt HB.out hB2 (Nat.le_refl _)⟩
 |true=>
  have HV:Hid (eW.any (fun y=>decide (b=y))=true):=hm;by_cases h1:0≤p
  ·have d1:decide (0≤p)=true:=decide_eq_true h1
   by_cases h2:p≤2
   ·have d2:decide (p≤2)=true:=decide_eq_true h2
    have HE:Hid (true=V):=by rw[hm,d1,d2] at hv;exact hv
    exact MA
   ·have d2:decide (p≤2)=false:=decide_eq_false h2
    have HE:Hid (false=V):=by rw[hm,d1,d2] at hv;exact hv
    exact MA
  ·have d1:decide (0≤p)=false:=decide_eq_false h1
   have HE:Hid (false=V):=by rw[hm,d1] at hv;exact hv
   clear hv hm h1;go_enter Tryz.func120,Tryz.ntmps120;go_wp2_with fail;rw[HW0.out];refine wp_region_held_drew (S:=fun V=>Below W0.heap.size W0 V) (by kernel_rfl) kD (fun hH=>?_);clear hH;refine tG 1 4 ?_;refine tG 2 5 ?_;refine rdyH 0 rfl (fun K hK=>?_);go_simp;refine(bauds_any _).mono ?_;rintro r w2 ⟨⟨a2,n2,cc2,rfl,hN⟩,hb2⟩;have hB2:=bt kD hb2 (Nat.le_refl _);refine hK.out _ _ hB2 (fun hS2=>?_);clear hK K;refine rdyH 3 rfl (fun K hK=>?_);go_simp;refine(contI_any _ _ _ _ hN true HV).mono ?_;rintro r w3 ⟨rfl,rfl⟩;refine hK.out _ _ hB2 (fun hS3=>?_);clear hK K hS2;refine tG 4 7 ?_;refine tG 5 8 ?_;refine tG 6 9 ?_;refine tG 7 10 ?_;refine tG 8 11 ?_;refine tG 9 12 ?_;refine tU 10 13 ?_;refine tU 11 14 ?_;refine tU 12 15 ?_;refine tG 13 16 ?_;refine tG 14 2 ?_;refine wpAnyH_done (by kernel_rfl) ?_ _;go_wp2;go_ret;exact⟨ret_bool HE.out,bt HB.out hB2 (Nat.le_refl _)⟩
theorem sG (v:Value) (l:List (Int×Int)) (w:World) (hl:dw w v l) (V:Bool) (hV:Hid (jV l=V)):
  Calls Tryz.prog 99 #[v] w (aj w V):=by
 have HL:=hid hl;obtain⟨a,c,rfl,dM,cj,-⟩:=id hl;obtain⟨n,hn⟩:=gE l.length;have HN:=hid hn;rw[hn] at dM ⊢;clear hl hn;have nU:n≤9223372036854775807:=by unfold maxLen at cj;omega
 go_enter Tryz.func99,Tryz.ntmps99;go_wp2_with fail;go_loopw [3,4,7] (fun _ _ iv wr=>∃k:Nat,k≤n∧iv=N Z (k:Int)∧Hid (cE none (l.take k)=true)∧Below w.heap.size w wr) (fun _ _ iv _=>n- (intOf iv).toNat)
 case atStart=>exact⟨0,Nat.zero_le _,rfl,rfl,Below.refl _ _⟩
 case round=>
  obtain⟨k,hk,rfl,A,B⟩:=hrel;have ao:(0:Int)≤(k:Int):=Int.natCast_nonneg _;by_cases ak:k<n
  ·obtain ⟨x,hx⟩:=gs (l:=l) HN.out ak;obtain⟨b,o,c',dE,w1,w2,cz⟩:=HL.out.at hx;rw[HN.out] at dE;simp only[Value.slice.injEq,true_and] at dE;obtain⟨rfl,rfl⟩:=dE
   have aX:(k:Int)<(n:Int):=by omega
   obtain⟨y0,y1⟩:=cz wr B;have T:=hid (fun e=>vI (l:=l) (k:=k) (x:=x) hx e);have eV:Hid (cE none (l.take (k+1))=(tS x&&iF (iH none (l.take k)) x)):=by
    show _=_;rw[az hx,iD,A.out,Bool.true_and]
   obtain⟨m,s⟩:=x;dsimp only at y0 y1;obtain⟨t,rJ,ou,px⟩:=eY wr (Y #[N Z m,N Z s] 61);have z0:=cF px 0 rfl;have z1:=cF px 1 rfl;have Q:Below t.heap.size t t.drew:=(Below.refl _ _).drew;have z:Hid (Below w.heap.size w t):=bt B ou (Nat.le_refl _);have I:=hid rJ;cases cX:tS (m,s) with
   |false=>
    have HV:Hid (∀X,Calls Tryz.prog 120 #[.agg #[N Z m,N Z s]] X (aj X false)):=fun X=>ky m s X false cX
    have L:Hid (V=false):=by
     show _=_;rw[←hV.out];unfold jV;rw[T.out (by rw[cX];rfl)];rfl
    clear cz hx rJ px ou A cX w1 w2;go_upto_region 4 with(fail)
    rw[I.out];clear y0 y1;refine wp_region_held_drew (S:=fun V=>Below t.heap.size t V) (by kernel_rfl) Q (fun U=>?_);clear U;refine tG 0 12 ?_;refine rdyH 1 rfl (fun K g=>?_);go_simp;refine(HV.out _).mono ?_;rintro r w5 ⟨rfl,u⟩;have f:=bt Q u (Nat.le_refl _);refine g.out _ _ f (fun C=>?_);clear g K;refine tG 2 14 ?_;refine tG 3 15 ?_;refine tU 4 16 ?_;refine tU 5 17 ?_;refine tU 6 18 ?_;refine tU 7 19 ?_;refine tU 8 20 ?_;refine tU 9 21 ?_;refine tU 10 22 ?_;refine tU 11 23 ?_;refine tU 12 24 ?_;refine tU 13 25 ?_;refine tU 14 26 ?_;refine tU 15 27 ?_;refine tG 16 28 ?_;refine wpAnyH_done (by kernel_rfl) ?_ _;go_wp2;go_ret;exact⟨by rw[L.out];rfl,bt z.out f (Nat.le_refl _)⟩
   |true=>
    have HV:Hid (∀X,Calls Tryz.prog 120 #[.agg #[N Z m,N Z s]] X (aj X true)):=fun X=>ky m s X true cX
    by_cases uU:k=0
    ·have R:Hid (cE none (l.take (k+1))=true):=by show _=_;rw[eV.out,cX,uU];rfl
     have av:¬(0:Int)<(k:Int):=by omega
     have ad:=hid uU;clear cz hx rJ px ou A cX w1 w2 uU;go_upto_region 4 with(fail)
     rw[I.out];clear y0 y1;refine wp_region_held_drew (S:=fun V=>Below t.heap.size t V) (by kernel_rfl) Q (fun U=>?_);clear U;refine tG 0 12 ?_;refine rdyH 1 rfl (fun K g=>?_);go_simp;refine(HV.out _).mono ?_;rintro r w5 ⟨rfl,u⟩;have f:=bt Q u (Nat.le_refl _);refine g.out _ _ f (fun C=>?_);clear g K;obtain rfl:k=0:=ad.out;refine tG 2 14 ?_;refine tG 3 15 ?_;refine tG 4 16 ?_;refine tG 5 17 ?_;refine tG 6 18 ?_;refine tU 7 19 ?_;refine tU 8 20 ?_;refine tU 9 21 ?_;refine tU 10 22 ?_;refine tU 11 23 ?_;refine tU 12 24 ?_;refine tU 13 25 ?_;refine tU 14 26 ?_;refine tG 15 27 ?_;refine tG 16 28 ?_;refine wpAnyH_done (by kernel_rfl) ?_ _;go_wp2;go_roundw
     case rel=>exact⟨0+1,by omega,by go_num,R.out,bt z.out f (Nat.le_refl _)⟩
     case measure=>simp [intOf];omega
    ·obtain ⟨j,hj⟩:∃j,k=j+1:=⟨k-1,by omega⟩
     obtain⟨p,hp⟩:=gs (l:=l) HN.out (show j<n by omega);obtain⟨b',o',c2,xl,w3,w4,nt⟩:=HL.out.at hp;rw[HN.out] at xl;simp only[Value.slice.injEq,Option.some.injEq,Addr.mk.injEq,true_and,and_true] at xl;obtain⟨⟨rfl,rfl⟩,rfl⟩:=xl;have G:iH none (l.take k)=M p:=by rw[hj];exact wX hp
     obtain⟨F,E⟩:=p;have q0:∀X,Below t.heap.size t X→X.cell? ⟨b,o+j*2,J⟩=M (N Z F):=fun X h=>(nt X (bt z.out h (Nat.le_refl _))).1
     have q1:∀X,Below t.heap.size t X→X.cell? ⟨b,o+j*2+1,J⟩=M (N Z E):=fun X h=>(nt X (bt z.out h (Nat.le_refl _))).2
     have sw:IntKind.i64.wrap ((k:Int)-1)=(j:Int):=(IntWalk.i64_in _ (by omega)).trans (by omega);have aY:(0:Int)≤(j:Int):=Int.natCast_nonneg _;have kl:(j:Int)<(n:Int):=by omega
     have a2:decide ((0:Int)<(k:Int))=true:=decide_eq_true (by omega);have Mi:decide (0<k)=true:=decide_eq_true (by omega);have HC:Hid (∀X,Calls Tryz.prog 143 #[.agg #[N Z F,N Z E],.agg #[N Z m,N Z s]] X fun r w'=>∃c:Int,r=O (N Z c)∧(c<0↔eG (F,E) (m,s)=true)∧Below X.heap.size X w'):=fun X=>xC (F,E) (m,s) X
     have zG:iF (iH none (l.take k)) (m,s)=eG (F,E) (m,s):=by rw[G];rfl
     have OZ:Hid (cE none (l.take (k+1))=eG (F,E) (m,s)):=by show _=_;rw[eV.out,cX,zG];rfl
     have QU:Hid (eG (F,E) (m,s)=false→cE none l=false):=fun e=>T.out (by rw[zG,e,cX];rfl)
     clear cz nt hx hp rJ px ou A cX w1 w2 w3 w4 G zG hj uU eV T;cases G:eG (F,E) (m,s) with
     |false=>
      have L:Hid (V=false):=by
       show _=_;rw[←hV.out];unfold jV;rw[QU.out G];rfl
      have W:Hid (∀c:Int,(c<0↔eG (F,E) (m,s)=true)→decide ((0:Int)≤c)=true):=fun c h=>decide_eq_true (by have h2:=fun e=>h.1 e;rw[G] at h2;by_cases e:c<0;exact absurd (h2 e) (by decide);omega)
      clear G;go_upto_region 4 with(fail)
      rw[I.out];clear y0 y1;refine wp_region_held_drew (S:=fun V=>Below t.heap.size t V) (by kernel_rfl) Q (fun U=>?_);clear U;refine tG 0 12 ?_;refine rdyH 1 rfl (fun K g=>?_);go_simp;refine(HV.out _).mono ?_;rintro r w5 ⟨rfl,u⟩;have f:=bt Q u (Nat.le_refl _);refine g.out _ _ f (fun C=>?_);clear g K;refine tG 2 14 ?_;refine tG 3 15 ?_;refine tG 4 16 ?_;refine tG 5 17 ?_;refine tG 6 18 ?_;refine tG 7 19 ?_;refine tG 8 20 ?_;refine tG 9 21 ?_;refine tG 10 22 ?_;refine tG 11 23 ?_;refine tG 12 24 ?_;refine rdyH 13 rfl (fun K g=>?_);go_simp;refine(HC.out _).mono ?_;rintro r w6 ⟨cc,rfl,LU,ab⟩;have VC:=W.out cc LU;have D:=bt f ab (Nat.le_refl _);refine g.out _ _ D (fun LB=>?_);clear g K C LU;refine tG 14 26 ?_;refine tG 15 27 ?_;refine tG 16 28 ?_;refine wpAnyH_done (by kernel_rfl) ?_ _;go_wp2;go_ret;exact⟨by rw[L.out];rfl,bt z.out D (Nat.le_refl _)⟩
     |true=>
      have R:Hid (cE none (l.take (k+1))=true):=by show _=_;rw[OZ.out,G]
      have W:Hid (∀c:Int,(c<0↔eG (F,E) (m,s)=true)→decide ((0:Int)≤c)=false):=fun c h=>decide_eq_false (by have h2:=h.2 G;omega)
      clear G;go_upto_region 4 with(fail)
      rw[I.out];clear y0 y1;refine wp_region_held_drew (S:=fun V=>Below t.heap.size t V) (by kernel_rfl) Q (fun U=>?_);clear U;refine tG 0 12 ?_;refine rdyH 1 rfl (fun K g=>?_);go_simp;refine(HV.out _).mono ?_;rintro r w5 ⟨rfl,u⟩;have f:=bt Q u (Nat.le_refl _);refine g.out _ _ f (fun C=>?_);clear g K;refine tG 2 14 ?_;refine tG 3 15 ?_;refine tG 4 16 ?_;refine tG 5 17 ?_;refine tG 6 18 ?_;refine tG 7 19 ?_;refine tG 8 20 ?_;refine tG 9 21 ?_;refine tG 10 22 ?_;refine tG 11 23 ?_;refine tG 12 24 ?_;refine rdyH 13 rfl (fun K g=>?_);go_simp;refine(HC.out _).mono ?_;rintro r w6 ⟨cc,rfl,LU,ab⟩;have VC:=W.out cc LU;have D:=bt f ab (Nat.le_refl _);refine g.out _ _ D (fun LB=>?_);clear g K C LU;refine tG 14 26 ?_;refine tG 15 27 ?_;refine tG 16 28 ?_;refine wpAnyH_done (by kernel_rfl) ?_ _;go_wp2;go_roundw
      case rel=>exact⟨k+1,by omega,by go_num,R.out,bt z.out D (Nat.le_refl _)⟩
      case measure=>simp [intOf];omega
  ·obtain rfl:k=n:=by omega
   have HT:Hid (jV l=(decide (1≤k)&&decide (k≤6))):=by
    show _=_;have h1:=A.out;rw[List.take_of_length_le (by rw[HN.out];exact Nat.le_refl _)] at h1;unfold jV;rw[h1,HN.out,Bool.true_and]
   clear A;by_cases h1:1≤k
   ·by_cases h2:k≤6
    ·have L:Hid (V=true):=by show _=_;rw[←hV.out,HT.out,decide_eq_true h1,decide_eq_true h2];rfl
     have d1:(1:Int)≤(k:Int):=by omega
     have d2:(k:Int)≤6:=by omega
     go_wp2;go_ret;exact⟨by rw[L.out];rfl,B⟩
    ·have L:Hid (V=false):=by show _=_;rw[←hV.out,HT.out,decide_eq_true h1,decide_eq_false h2];rfl
     have d1:(1:Int)≤(k:Int):=by omega
     have d2:¬(k:Int)≤6:=by omega
     go_wp2;go_ret;exact⟨by rw[L.out];rfl,B⟩
   ·have L:Hid (V=false):=by show _=_;rw[←hV.out,HT.out,decide_eq_false h1];rfl
    have d1:¬(1:Int)≤(k:Int):=by omega
    go_wp2;go_ret;exact⟨by rw[L.out];rfl,B⟩
theorem Cr (v:Value) (l:List (Int×Int)) (w:World) (hl:dw w v l) (V:Bool) (hV:Hid (jV l=V)):
  Calls Tryz.prog 76 #[v] w (aj w V):=by
 have HL:=hid hl;obtain⟨a,c,rfl,dM,cj,-⟩:=id hl;obtain⟨n,hn⟩:=gE l.length;have T:=hid hn;rw[hn] at dM ⊢;clear hl hn;have nU:n≤9223372036854775807:=by unfold maxLen at cj;omega
 go_enter Tryz.func76,Tryz.ntmps76;go_wp2_with fail;go_loopw [3] (fun iv wr=>∃k:Nat,k≤n∧k≤7∧iv=N Z (k:Int)∧Hid (cE none (l.take k)=true)∧Below w.heap.size w wr) (fun iv _=>n- (intOf iv).toNat)
 case atStart=>exact⟨0,Nat.zero_le _,Nat.zero_le _,rfl,rfl,Below.refl _ _⟩
 case round=>
  obtain⟨k,hk,aX,rfl,u,s⟩:=hrel;have ad:(0:Int)≤(k:Int):=Int.natCast_nonneg _;by_cases D:k<n∧k≤6
  ·obtain ⟨D,jX⟩:=D
   obtain⟨x,Y⟩:=gs (l:=l) T.out D;obtain⟨b,o,c',dE,w1,w2,W⟩:=HL.out.at Y;rw[T.out] at dE;simp only[Value.slice.injEq,true_and] at dE;obtain⟨rfl,rfl⟩:=dE;have ak:(k:Int)<(n:Int):=by omega
   have ao:(k:Int)≤6:=by omega
   have Q:=hid (fun e=>vI (l:=l) (k:=k) (x:=x) Y e);have eV:Hid (cE none (l.take (k+1))=(tS x&&iF (iH none (l.take k)) x)):=by
    show _=_;rw[az Y,iD,u.out,Bool.true_and]
   obtain⟨m,t⟩:=x;dsimp only at W;have y0:∀X,Below wr.heap.size wr X→X.cell? ⟨b,o+k*2,J⟩=M (N Z m):=fun X h=>(W X (bt s h (Nat.le_refl _))).1
   have y1:∀X,Below wr.heap.size wr X→X.cell? ⟨b,o+k*2+1,J⟩=M (N Z t):=fun X h=>(W X (bt s h (Nat.le_refl _))).2
   have L:Below wr.heap.size wr wr.drew:=(Below.refl _ _).drew;have A:=hid s;cases cX:tS (m,t) with
   |false=>
    have HV:Hid (∀X,Calls Tryz.prog 93 #[.agg #[N Z m,N Z t]] X (aj X false)):=fun X=>vn (m,t) X false cX
    have E:Hid (V=false):=by
     show _=_;rw[←hV.out];unfold jV;rw[Q.out (by rw[cX];rfl)];rfl
    clear W Y u cX w1 w2;go_upto_region 4 with(fail)
    refine wp_region_held_drew (S:=fun V=>Below wr.heap.size wr V) (by kernel_rfl) L (fun R=>?_);clear R;refine tG 0 14 ?_;refine tG 1 15 ?_;refine tG 2 16 ?_;refine tG 3 17 ?_;refine rdyH 4 rfl (fun K g=>?_);go_simp;refine(HV.out _).mono ?_;rintro r w5 ⟨rfl,z⟩;have f:=bt L z (Nat.le_refl _);refine g.out _ _ f (fun B=>?_);clear g K;refine tG 5 19 ?_;refine tG 6 20 ?_;refine tU 7 21 ?_;refine tU 8 22 ?_;refine tU 9 23 ?_;refine tU 10 24 ?_;refine tU 11 25 ?_;refine tU 12 26 ?_;refine tU 13 27 ?_;refine tU 14 28 ?_;refine tU 15 29 ?_;refine tU 16 30 ?_;refine tU 17 31 ?_;refine tU 18 32 ?_;refine tU 19 33 ?_;refine tU 20 34 ?_;refine tU 21 35 ?_;refine tG 22 36 ?_;refine wpAnyH_done (by kernel_rfl) ?_ _;go_wp2;go_ret;exact⟨by rw[E.out];rfl,bt A.out f (Nat.le_refl _)⟩
   |true=>
    have HV:Hid (∀X,Calls Tryz.prog 93 #[.agg #[N Z m,N Z t]] X (aj X true)):=fun X=>vn (m,t) X true cX
    by_cases uU:k=0
    ·have O:Hid (cE none (l.take (k+1))=true):=by show _=_;rw[eV.out,cX,uU];rfl
     have ab:decide ((0:Int)<(k:Int))=false:=decide_eq_false (by omega);have Mi:decide (0<k)=false:=decide_eq_false (by omega);clear W Y u cX w1 w2 uU;go_upto_region 4 with(fail)
     refine wp_region_held_drew (S:=fun V=>Below wr.heap.size wr V) (by kernel_rfl) L (fun R=>?_);clear R;refine tG 0 14 ?_;refine tG 1 15 ?_;refine tG 2 16 ?_;refine tG 3 17 ?_;refine rdyH 4 rfl (fun K g=>?_);go_simp;refine(HV.out _).mono ?_;rintro r w5 ⟨rfl,z⟩;have f:=bt L z (Nat.le_refl _);refine g.out _ _ f (fun B=>?_);clear g K;refine tG 5 19 ?_;refine tG 6 20 ?_;refine tG 7 21 ?_;refine tG 8 22 ?_;refine tG 9 23 ?_;refine tU 10 24 ?_;refine tU 11 25 ?_;refine tU 12 26 ?_;refine tU 13 27 ?_;refine tU 14 28 ?_;refine tU 15 29 ?_;refine tU 16 30 ?_;refine tU 17 31 ?_;refine tU 18 32 ?_;refine tU 19 33 ?_;refine tU 20 34 ?_;refine tG 21 35 ?_;refine tG 22 36 ?_;refine wpAnyH_done (by kernel_rfl) ?_ _;go_wp2;go_roundw
     case rel=>exact⟨k+1,by omega,by omega,by go_num,O.out,bt A.out f (Nat.le_refl _)⟩
     case measure=>simp [intOf];omega
    ·obtain ⟨j,hj⟩:∃j,k=j+1:=⟨k-1,by omega⟩
     obtain⟨p,hp⟩:=gs (l:=l) T.out (show j<n by omega);obtain⟨b',o',c2,xl,w3,w4,nt⟩:=HL.out.at hp;rw[T.out] at xl;simp only[Value.slice.injEq,Option.some.injEq,Addr.mk.injEq,true_and,and_true] at xl;obtain⟨⟨rfl,rfl⟩,rfl⟩:=xl;have G:iH none (l.take k)=M p:=by rw[hj];exact wX hp
     obtain⟨I,F⟩:=p;have q0:∀X,Below wr.heap.size wr X→X.cell? ⟨b,o+j*2,J⟩=M (N Z I):=fun X h=>(nt X (bt A.out h (Nat.le_refl _))).1
     have q1:∀X,Below wr.heap.size wr X→X.cell? ⟨b,o+j*2+1,J⟩=M (N Z F):=fun X h=>(nt X (bt A.out h (Nat.le_refl _))).2
     have sw:IntKind.i64.wrap ((k:Int)-1)=(j:Int):=(IntWalk.i64_in _ (by omega)).trans (by omega);have av:(0:Int)≤(j:Int):=Int.natCast_nonneg _;have kl:(j:Int)<(n:Int):=by omega
     have ab:decide ((0:Int)<(k:Int))=true:=decide_eq_true (by omega);have Mi:decide (0<k)=true:=decide_eq_true (by omega);have zG:iF (iH none (l.take k)) (m,t)=eG (I,F) (m,t):=by rw[G];rfl
     have OZ:Hid (cE none (l.take (k+1))=eG (I,F) (m,t)):=by show _=_;rw[eV.out,cX,zG];rfl
     have QU:Hid (eG (I,F) (m,t)=false→cE none l=false):=fun e=>Q.out (by rw[zG,e,cX];rfl)
     clear W nt Y hp u cX w1 w2 w3 w4 G zG hj uU eV Q;cases G:eG (I,F) (m,t) with
     |false=>
      have E:Hid (V=false):=by
       show _=_;rw[←hV.out];unfold jV;rw[QU.out G];rfl
      have HC:Hid (∀X,Calls Tryz.prog 130 #[.agg #[N Z I,N Z F],.agg #[N Z m,N Z t]] X (aj X false)):=fun X=>wJ (I,F) (m,t) X false G
      clear G;go_upto_region 4 with(fail)
      refine wp_region_held_drew (S:=fun V=>Below wr.heap.size wr V) (by kernel_rfl) L (fun R=>?_);clear R;refine tG 0 14 ?_;refine tG 1 15 ?_;refine tG 2 16 ?_;refine tG 3 17 ?_;refine rdyH 4 rfl (fun K g=>?_);go_simp;refine(HV.out _).mono ?_;rintro r w5 ⟨rfl,z⟩;have f:=bt L z (Nat.le_refl _);refine g.out _ _ f (fun B=>?_);clear g K;refine tG 5 19 ?_;refine tG 6 20 ?_;refine tG 7 21 ?_;refine tG 8 22 ?_;refine tG 9 23 ?_;refine tG 10 24 ?_;refine tG 11 25 ?_;refine tG 12 26 ?_;refine tG 13 27 ?_;refine tG 14 28 ?_;refine tG 15 29 ?_;refine tG 16 30 ?_;refine tG 17 31 ?_;refine tG 18 32 ?_;refine rdyH 19 rfl (fun K g=>?_);go_simp;refine(HC.out _).mono ?_;rintro r w6 ⟨rfl,U⟩;have C:=bt f U (Nat.le_refl _);refine g.out _ _ C (fun LB=>?_);clear g K B;refine tG 20 34 ?_;refine tG 21 35 ?_;refine tG 22 36 ?_;refine wpAnyH_done (by kernel_rfl) ?_ _;go_wp2;go_ret;exact⟨by rw[E.out];rfl,bt A.out C (Nat.le_refl _)⟩
     |true=>
      have O:Hid (cE none (l.take (k+1))=true):=by show _=_;rw[OZ.out,G]
      have HC:Hid (∀X,Calls Tryz.prog 130 #[.agg #[N Z I,N Z F],.agg #[N Z m,N Z t]] X (aj X true)):=fun X=>wJ (I,F) (m,t) X true G
      clear G;go_upto_region 4 with(fail)
      refine wp_region_held_drew (S:=fun V=>Below wr.heap.size wr V) (by kernel_rfl) L (fun R=>?_);clear R;refine tG 0 14 ?_;refine tG 1 15 ?_;refine tG 2 16 ?_;refine tG 3 17 ?_;refine rdyH 4 rfl (fun K g=>?_);go_simp;refine(HV.out _).mono ?_;rintro r w5 ⟨rfl,z⟩;have f:=bt L z (Nat.le_refl _);refine g.out _ _ f (fun B=>?_);clear g K;refine tG 5 19 ?_;refine tG 6 20 ?_;refine tG 7 21 ?_;refine tG 8 22 ?_;refine tG 9 23 ?_;refine tG 10 24 ?_;refine tG 11 25 ?_;refine tG 12 26 ?_;refine tG 13 27 ?_;refine tG 14 28 ?_;refine tG 15 29 ?_;refine tG 16 30 ?_;refine tG 17 31 ?_;refine tG 18 32 ?_;refine rdyH 19 rfl (fun K g=>?_);go_simp;refine(HC.out _).mono ?_;rintro r w6 ⟨rfl,U⟩;have C:=bt f U (Nat.le_refl _);refine g.out _ _ C (fun LB=>?_);clear g K B;refine tG 20 34 ?_;refine tG 21 35 ?_;refine tG 22 36 ?_;refine wpAnyH_done (by kernel_rfl) ?_ _;go_wp2;go_roundw
      case rel=>exact⟨k+1,by omega,by omega,by go_num,O.out,bt A.out C (Nat.le_refl _)⟩
      case measure=>simp [intOf];omega
  ·by_cases h2:n≤6
   ·obtain rfl:k=n:=by omega
    have HT:Hid (jV l=(decide (1≤k)&&decide (k≤6))):=by
     show _=_;have h1:=u.out;rw[List.take_of_length_le (by rw[T.out];exact Nat.le_refl _)] at h1;unfold jV;rw[h1,T.out,Bool.true_and]
    clear u D;have d2:(k:Int)≤6:=by omega
    by_cases h1:1≤k
    ·have E:Hid (V=true):=by show _=_;rw[←hV.out,HT.out,decide_eq_true h1,decide_eq_true h2];rfl
     have d1:(1:Int)≤(k:Int):=by omega
     go_wp2;go_ret;exact⟨by rw[E.out];rfl,s⟩
    ·have E:Hid (V=false):=by show _=_;rw[←hV.out,HT.out,decide_eq_false h1];rfl
     have d1:¬(1:Int)≤(k:Int):=by omega
     go_wp2;go_ret;exact⟨by rw[E.out];rfl,s⟩
   ·have E:Hid (V=false):=by
     show _=_;rw[←hV.out];unfold jV;rw[T.out,decide_eq_false h2,Bool.and_false,Bool.and_false]
    obtain rfl:k=7:=by omega
    have d1:(1:Int)≤(n:Int):=by omega
    have d2:¬(n:Int)≤6:=by omega
    clear D u;by_cases h8:n=7
    ·subst h8
     go_wp2;go_ret;exact⟨by rw[E.out];rfl,s⟩
    ·have d3:((7:Nat):Int)<(n:Int):=by omega
     go_wp2;go_ret;exact⟨by rw[E.out];rfl,s⟩
structure Cf where
 bj:List (Int×Int)
 fi:Int
 la:Int
 re:Int
 ti:Int
 de:Int
 aq:Nat→Int×Int
 ev:Int
 st:Int
def yh (c:Cf) (sv:Value):Array Value:=#[sv,N Z c.fi,N Z c.la,N Z c.re,N Z c.ti,N Z c.de,N Z (c.aq 0).1,N Z (c.aq 0).2,N Z (c.aq 1).1,N Z (c.aq 1).2,N Z (c.aq 2).1,N Z (c.aq 2).2,N Z (c.aq 3).1,N Z (c.aq 3).2,N Z c.ev,N Z c.st]
def fk (n a b:Int):Bool:=decide (a≤n)&&decide (n≤b)
def mR (c:Cf):Bool:=fk c.fi 1 c.la&&(decide (c.la≤247)&&(fk c.re 0 5&&(fk c.ti 1 5000000&&(fk c.de 0 5000000&&(fk c.ev 1 64&&fk c.st 0 1000000)))))
def n5 (aq:Nat→Int×Int):Nat→Bool
 |0=>true
 |k+1=>n5 aq k&&fk (aq k).2 0 512
def kh (aq:Nat→Int×Int):Nat→Bool
 |0=>true
 |k+1=>kh aq k&&fk (aq k).1 0 (if 0<(aq k).2 then 65536- (aq k).2 else 0)
theorem uL {aq:Nat→Int×Int} {k:Nat} (h:fk (aq k).2 0 512=false):∀n,k<n→n5 aq n=false
 |0,h2=>absurd h2 (Nat.not_lt_zero _)
 |n+1,h2=>by
  show (n5 aq n&&fk (aq n).2 0 512)=false;by_cases e:k=n
  ·subst e;rw[h,Bool.and_false]
  ·rw [uL h n (by omega),Bool.false_and]
theorem oS {aq:Nat→Int×Int} {k:Nat} (h:fk (aq k).1 0 (if 0<(aq k).2 then 65536- (aq k).2 else 0)=false):∀n,k<n→kh aq n=false
 |0,h2=>absurd h2 (Nat.not_lt_zero _)
 |n+1,h2=>by
  show (kh aq n&&fk (aq n).1 0 (if 0<(aq n).2 then 65536- (aq n).2 else 0))=false;by_cases e:k=n
  ·subst e;rw[h,Bool.and_false]
  ·rw [oS h n (by omega),Bool.false_and]
theorem uN {aq:Nat→Int×Int}:∀n,n5 aq n=true→∀k,k<n→fk (aq k).2 0 512=true
 |0,_,k,h2=>absurd h2 (Nat.not_lt_zero _)
 |n+1,h,k,h2=>by
  have h:(n5 aq n&&fk (aq n).2 0 512)=true:=h;rw[Bool.and_eq_true] at h;by_cases e:k=n
  ·subst e;exact h.2
  ·exact uN n h.1 k (by omega)
def rj (aq:Nat→Int×Int):Int:=if n5 aq 4=true then (if kh aq 4=true then 0 else 7) else 4
def oA (c:Cf):Int:=if jV c.bj=true then (if mR c=true then rj c.aq else 3) else 5
theorem jP {n a b:Int}:fk n a b=true↔a≤n∧n≤b:=by unfold fk;simp only[Bool.and_eq_true,decide_eq_true_eq]
theorem wD (n a b:Int) (w:World) (V:Bool) (e:Hid (fk n a b=V)):Calls Tryz.prog 119 #[N Z n,N Z a,N Z b] w fun r g=>r=O (.bool V)∧w=g:=by
 have c:=e.out;unfold fk at c;by_cases h:a≤n
 ·by_cases f:n≤b
  ·have d:Hid (true=V):=by rw[decide_eq_true h,decide_eq_true f] at c;exact c
   clear c e;go_enter Tryz.func119,Tryz.ntmps119;go_wp2;go_ret;exact⟨by rw[←d.out];rfl,rfl⟩
  ·have d:Hid (false=V):=by rw[decide_eq_true h,decide_eq_false f] at c;exact c
   clear c e;go_enter Tryz.func119,Tryz.ntmps119;go_wp2;go_ret;exact⟨by rw[←d.out];rfl,rfl⟩
 ·have d:Hid (false=V):=by rw[decide_eq_false h] at c;exact c
  clear c e;go_enter Tryz.func119,Tryz.ntmps119;go_wp2;go_ret;exact⟨by rw[←d.out];rfl,rfl⟩
theorem Nq (h:p:=by
 clear hrb
 go_wp2_with (first|(go_at_call 119;(with_reducible refine(Hb1.out _).mono ?_);rintro r w9 ⟨rfl,rfl⟩)|(go_at_call 119;(with_reducible refine(Hb3.out _).mono ?_);rintro r w9 ⟨rfl,rfl⟩)|(go_at_call 119;(with_reducible refine(Hb4.out _).mono ?_);rintro r w9 ⟨rfl,rfl⟩)|(go_at_call 119;(with_reducible refine(Hb5.out _).mono ?_);rintro r w9 ⟨rfl,rfl⟩)|(go_at_call 119;(with_reducible refine(Hb6.out _).mono ?_);rintro r w9 ⟨rfl,rfl⟩)|(go_at_call 119;(with_reducible refine(Hb7.out _).mono ?_);rintro r w9 ⟨rfl,rfl⟩))
 go_meet
 case rel=>exact⟨by rw[←HE.out];rfl,rfl⟩):p:=h
theorem Nr (h:p:=by
 subst hm
 cases V with
 |false=>
  have HF:=hid (HE.out rfl)
  go_wp2_with (go_at_call 119;(with_reducible refine(HC.out _).mono ?_);rintro r w2 ⟨rfl,rfl⟩)
  go_ret
  exact⟨by rw[←HF.out];rfl,bt HB0.out (bta hbw (Nat.le_refl _) _) (Nat.le_refl _)⟩
 |true=>
  have HM:=hid (HN.out rfl)
  go_wp2_with (go_at_call 119;(with_reducible refine(HC.out _).mono ?_);rintro r w2 ⟨rfl,rfl⟩)
  go_roundw
  case rel=>
   repeat apply Exists.intro
   refine⟨?_,rfl⟩
   exact⟨k+1,by omega,by go_num,HM.out,bta hbw (Nat.le_refl _) _⟩
  case measure=>simp [intOf];omega):p:=h
theorem zs (c:Cf) (sv:Value) (w:World) (hs:dw w sv c.bj) (E:Int) (hE:Hid (oA c=E)):
  Calls Tryz.prog 70 #[.agg (yh c sv)] w (jL w E):=by
 show Calls _ _ #[.agg #[sv,N Z c.fi,N Z c.la,N Z c.re,N Z c.ti,N Z c.de,N Z (c.aq 0).1,N Z (c.aq 0).2,N Z (c.aq 1).1,N Z (c.aq 1).2,N Z (c.aq 2).1,N Z (c.aq 2).2,N Z (c.aq 3).1,N Z (c.aq 3).2,N Z c.ev,N Z c.st]] w _;obtain⟨W0,bH,cy,g⟩:=eY w (Y #[sv,N Z c.fi,N Z c.la,N Z c.re,N Z c.ti,N Z c.de,N Z (c.aq 0).1,N Z (c.aq 0).2,N Z (c.aq 1).1,N Z (c.aq 1).2,N Z (c.aq 2).1,N Z (c.aq 2).2,N Z (c.aq 3).1,N Z (c.aq 3).2,N Z c.ev,N Z c.st] 27);have x0:=cF g 0 rfl;have x1:=cF g 1 rfl;have x2:=cF g 2 rfl;have x3:=cF g 3 rfl;have T:=cF g 4 rfl;have x5:=cF g 5 rfl;have PT:=cF g 14 rfl;have R:=cF g 15 rfl;have I:=cF g 6 rfl;have C:=cF g 7 rfl;have K:=cF g 8 rfl;have B:=cF g 9 rfl;have D:=cF g 10 rfl;have J:=cF g 11 rfl;have G:=cF g 12 rfl;have F:=cF g 13 rfl;have k0:Below W0.heap.size W0 W0:=Below.refl _ _;have i:Hid (∀(n a b:Int) (X:World) (V:Bool),Hid (fk n a b=V)→Calls Tryz.prog 119 #[N Z n,N Z a,N Z b] X fun r f=>r=O (.bool V)∧X=f):=fun n a b X V h=>wD n a b X V h
 obtain⟨S,hS⟩:=gE (jV c.bj);have u6:Hid (Calls Tryz.prog 99 #[sv] W0 (aj W0 S)):=sG sv c.bj W0 (hs.ah cy) S hS;have s:=hE.out;unfold oA at s;rw[hS] at s;have A:=hid bH;have HB0:=hid cy;clear bH cy g hs hS hE;cases S with
 |false=>
  have HE:Hid ((5:Int)=E):=by rw[if_neg (by decide)] at s;exact s
  clear s x1 x2 x3 T x5 I C K B D J G F PT R;go_enter Tryz.func70,Tryz.ntmps70;go_upto_region 1 with(fail)
  rw[A.out];go_wp2_with (go_at_call 99;(with_reducible refine u6.out.mono ?_);rintro r w1 ⟨rfl,d⟩);go_ret;exact⟨by rw[←HE.out];rfl,bt HB0.out d (Nat.le_refl _)⟩
 |true=>
  rw[if_pos rfl] at s;have z:=hid s;clear s;obtain⟨o,Q⟩:=gE (mR c);rw[Q] at z;have qY:=hid Q;clear Q;go_enter Tryz.func70,Tryz.ntmps70;go_upto_region 1 with(fail)
  rw[A.out];go_upto_region 3 with(go_at_call 99;(with_reducible refine u6.out.mono ?_);rintro r w1 ⟨rfl,d⟩)
  go_cut [52] from 12 to 52 (fun q wc=>q=.bool (!o)∧w1=wc)
  case first=>
   have hrb:=qY.out;unfold mR at hrb;clear x0 I C K B D J G F u6 z;cases d:fk c.fi 1 c.la with
   |false=>
    have Hb1:Hid (∀X,Calls Tryz.prog 119 #[N Z (c.fi),N Z (1),N Z (c.la)] X fun r f=>r=O (.bool false)∧X=f):=fun X=>i.out _ _ _ X false d
    have HE:Hid (false=o):=by rw[d] at hrb;exact hrb
    clear hrb;go_wp2_with (first|(go_at_call 119;(with_reducible refine(Hb1.out _).mono ?_);rintro r w9 ⟨rfl,rfl⟩));go_meet
    case rel=>exact⟨by rw[←HE.out];rfl,rfl⟩
   |true=>
   have Hb1:Hid (∀X,Calls Tryz.prog 119 #[N Z (c.fi),N Z (1),N Z (c.la)] X fun r f=>r=O (.bool true)∧X=f):=fun X=>i.out _ _ _ X true d
   by_cases ad:247<c.la
   ·have ZU:decide (c.la≤247)=false:=decide_eq_false (by omega)
    have HE:Hid (false=o):=by rw[d,ZU] at hrb;exact hrb
    clear hrb;go_wp2_with (first|(go_at_call 119;(with_reducible refine(Hb1.out _).mono ?_);rintro r w9 ⟨rfl,rfl⟩));go_meet
    case rel=>exact⟨by rw[←HE.out];rfl,rfl⟩
   have u:decide (c.la≤247)=true:=decide_eq_true (by omega);have ak:decide (247<c.la)=false:=decide_eq_false (by omega);cases hb3:fk c.re 0 5 with
   |false=>
    have Hb3:Hid (∀X,Calls Tryz.prog 119 #[N Z (c.re),N Z (0),N Z (5)] X fun r f=>r=O (.bool false)∧X=f):=fun X=>i.out _ _ _ X false hb3
    have HE:Hid (false=o):=by rw[d,u,hb3] at hrb;exact hrb
    clear hrb;go_wp2_with (first|(go_at_call 119;(with_reducible refine(Hb1.out _).mono ?_);rintro r w9 ⟨rfl,rfl⟩)|(go_at_call 119;(with_reducible refine(Hb3.out _).mono ?_);rintro r w9 ⟨rfl,rfl⟩));go_meet
    case rel=>exact⟨by rw[←HE.out];rfl,rfl⟩
   |true=>
   have Hb3:Hid (∀X,Calls Tryz.prog 119 #[N Z (c.re),N Z (0),N Z (5)] X fun r f=>r=O (.bool true)∧X=f):=fun X=>i.out _ _ _ X true hb3
   cases aY:fk c.ti 1 5000000 with
   |false=>
    have Hb4:Hid (∀X,Calls Tryz.prog 119 #[N Z (c.ti),N Z (1),N Z (5000000)] X fun r f=>r=O (.bool false)∧X=f):=fun X=>i.out _ _ _ X false aY
    have HE:Hid (false=o):=by rw[d,u,hb3,aY] at hrb;exact hrb
    clear hrb;go_wp2_with (first|(go_at_call 119;(with_reducible refine(Hb1.out _).mono ?_);rintro r w9 ⟨rfl,rfl⟩)|(go_at_call 119;(with_reducible refine(Hb3.out _).mono ?_);rintro r w9 ⟨rfl,rfl⟩)|(go_at_call 119;(with_reducible refine(Hb4.out _).mono ?_);rintro r w9 ⟨rfl,rfl⟩));go_meet
    case rel=>exact⟨by rw[←HE.out];rfl,rfl⟩
   |true=>
   have Hb4:Hid (∀X,Calls Tryz.prog 119 #[N Z (c.ti),N Z (1),N Z (5000000)] X fun r f=>r=O (.bool true)∧X=f):=fun X=>i.out _ _ _ X true aY
   cases hb5:fk c.de 0 5000000 with
   |false=>
    have Hb5:Hid (∀X,Calls Tryz.prog 119 #[N Z (c.de),N Z (0),N Z (5000000)] X fun r f=>r=O (.bool false)∧X=f):=fun X=>i.out _ _ _ X false hb5
    have HE:Hid (false=o):=by rw[d,u,hb3,aY,hb5] at hrb;exact hrb
    clear hrb;go_wp2_with (first|(go_at_call 119;(with_reducible refine(Hb1.out _).mono ?_);rintro r w9 ⟨rfl,rfl⟩)|(go_at_call 119;(with_reducible refine(Hb3.out _).mono ?_);rintro r w9 ⟨rfl,rfl⟩)|(go_at_call 119;(with_reducible refine(Hb4.out _).mono ?_);rintro r w9 ⟨rfl,rfl⟩)|(go_at_call 119;(with_reducible refine(Hb5.out _).mono ?_);rintro r w9 ⟨rfl,rfl⟩));go_meet
    case rel=>exact⟨by rw[←HE.out];rfl,rfl⟩
   |true=>
   have Hb5:Hid (∀X,Calls Tryz.prog 119 #[N Z (c.de),N Z (0),N Z (5000000)] X fun r f=>r=O (.bool true)∧X=f):=fun X=>i.out _ _ _ X true hb5
   cases hb6:fk c.ev 1 64 with
   |false=>
    have Hb6:Hid (∀X,Calls Tryz.prog 119 #[N Z (c.ev),N Z (1),N Z (64)] X fun r f=>r=O (.bool false)∧X=f):=fun X=>i.out _ _ _ X false hb6
    have HE:Hid (false=o):=by rw[d,u,hb3,aY,hb5,hb6] at hrb;exact hrb
    clear hrb;go_wp2_with (first|(go_at_call 119;(with_reducible refine(Hb1.out _).mono ?_);rintro r w9 ⟨rfl,rfl⟩)|(go_at_call 119;(with_reducible refine(Hb3.out _).mono ?_);rintro r w9 ⟨rfl,rfl⟩)|(go_at_call 119;(with_reducible refine(Hb4.out _).mono ?_);rintro r w9 ⟨rfl,rfl⟩)|(go_at_call 119;(with_reducible refine(Hb5.out _).mono ?_);rintro r w9 ⟨rfl,rfl⟩)|(go_at_call 119;(with_reducible refine(Hb6.out _).mono ?_);rintro r w9 ⟨rfl,rfl⟩));go_meet
    case rel=>exact⟨by rw[←HE.out];rfl,rfl⟩
   |true=>
   have Hb6:Hid (∀X,Calls Tryz.prog 119 #[N Z (c.ev),N Z (1),N Z (64)] X fun r f=>r=O (.bool true)∧X=f):=fun X=>i.out _ _ _ X true hb6
   cases kK:fk c.st 0 1000000 with
   |false=>
    have Hb7:Hid (∀X,Calls Tryz.prog 119 #[N Z (c.st),N Z (0),N Z (1000000)] X fun r f=>r=O (.bool false)∧X=f):=fun X=>i.out _ _ _ X false kK
    have HE:Hid (false=o):=by rw[d,u,hb3,aY,hb5,hb6,kK] at hrb;exact hrb
    exact Nq
   |true=>
   have Hb7:Hid (∀X,Calls Tryz.prog 119 #[N Z (c.st),N Z (0),N Z (1000000)] X fun r f=>r=O (.bool true)∧X=f):=fun X=>i.out _ _ _ X true kK
   have HE:Hid (true=o):=by rw[d,u,hb3,aY,hb5,hb6,kK] at hrb;exact hrb
   exact Nq
  case rest=>
   obtain⟨rfl,rfl⟩:=hcut;cases o with
   |false=>
    have HE:Hid ((3:Int)=E):=by have:=z.out;rw[if_neg (by decide)] at this;exact this
    clear x0 x1 x2 x3 T x5 I C K B D J G F PT R;go_wp2;go_ret;exact⟨by rw[←HE.out];rfl,bt HB0.out d (Nat.le_refl _)⟩
   |true=>
    have P:Hid (rj c.aq=E):=by have:=z.out;rw[if_pos rfl] at this;exact this
    clear x0 x1 x2 x3 T x5 PT R u6 z;go_wp2_with fail;go_loopw [55] (fun t wr=>∃k:Nat,k≤4∧t=N Z k∧Hid (n5 c.aq k=true)∧Below W0.heap.size W0 wr) (fun t _=>4- (intOf t).toNat)
    case atStart=>exact⟨0,by omega,rfl,rfl,d⟩
    case round=>
     obtain⟨k,hk,rfl,zU,hbw⟩:=hrel;by_cases j:k<4
     ·have L:(0:Int)≤(k:Int):=Int.natCast_nonneg _
      have W:(k:Int)<4:=by omega
      have Z9:=sD c.aq k j;clear I C K B D J G F;obtain⟨V,v⟩:=gE (fk (c.aq k).2 0 512);have M:=hid v;clear v;have HC:Hid (∀X,Calls Tryz.prog 119 #[N Z (c.aq k).2,N Z 0,N Z 512] X fun r f=>r=O (.bool V)∧X=f):=fun X=>i.out _ _ _ X V M
      cases V with
      |false=>
       have HE:Hid ((4:Int)=E):=by
        have h:=P.out;unfold rj at h;rw[uL M.out 4 j,if_neg (by decide)] at h;exact h
       go_wp2_with (go_at_call 119;(with_reducible refine(HC.out _).mono ?_);rintro r w2 ⟨rfl,rfl⟩);go_ret;exact⟨by rw[←HE.out];rfl,bt HB0.out (bta hbw (Nat.le_refl _) _) (Nat.le_refl _)⟩
      |true=>
       have HN:Hid (n5 c.aq (k+1)=true):=by show (n5 c.aq k&&fk (c.aq k).2 0 512)=true;rw[zU.out,M.out];rfl
       go_wp2_with (go_at_call 119;(with_reducible refine(HC.out _).mono ?_);rintro r w2 ⟨rfl,rfl⟩);go_roundw
       case rel=>
        repeat apply Exists.intro
        refine⟨?_,rfl⟩;exact⟨k+1,by omega,by go_num,HN.out,bta hbw (Nat.le_refl _) _⟩
       case measure=>simp [intOf];omega
     ·obtain rfl:k=4:=by omega
      have U:=hid zU.out;go_wp2_with fail;go_loopw [6,7,65] (fun _ _ t ab=>∃k:Nat,k≤4∧t=N Z k∧Hid (kh c.aq k=true)∧Below W0.heap.size W0 ab) (fun _ _ t _=>4- (intOf t).toNat)
      case atStart=>exact⟨0,by omega,rfl,rfl,hbw⟩
      case round=>
       obtain⟨k,hk,rfl,oL,hbw⟩:=hrel;clear I C K B D J G F;by_cases j:k<4
       ·have L:(0:Int)≤(k:Int):=Int.natCast_nonneg _
        have W:(k:Int)<4:=by omega
        have Z9:=sD c.aq k j;have iW:=jP.1 (uN 4 U.out k j);obtain⟨m,hm⟩:∃m,(if 0<(c.aq k).2 then 65536- (c.aq k).2 else 0)=m:=⟨_,rfl⟩
        obtain⟨V,v⟩:∃V,fk (c.aq k).1 0 (if 0<(c.aq k).2 then 65536- (c.aq k).2 else 0)=V:=⟨_,rfl⟩
        have qn:=hid v;have HC:Hid (∀X,Calls Tryz.prog 119 #[N Z (c.aq k).1,N Z 0,N Z m] X fun r f=>r=O (.bool V)∧X=f):=fun X=>i.out _ _ _ X V (by rw[←hm];exact v)
        have sw:IntKind.i64.wrap (65536- (c.aq k).2)=65536- (c.aq k).2:=IntWalk.i64_in _ (by omega);have HE:Hid (V=false→(7:Int)=E):=fun e=>by
         subst e;have h:=P.out;unfold rj at h;rw[U.out,if_pos rfl,oS qn.out 4 j,if_neg (by decide)] at h;exact h
        have HN:Hid (V=true→kh c.aq (k+1)=true):=fun e=>by
         subst e;show (kh c.aq k&&fk (c.aq k).1 0 (if 0<(c.aq k).2 then 65536- (c.aq k).2 else 0))=true;rw[oL.out,qn.out];rfl
        clear v iW;by_cases hc:0<(c.aq k).2
        ·rw [if_pos hc] at hm
         exact Nr
        ·rw [if_neg hc] at hm
         exact Nr
       ·obtain rfl:k=4:=by omega
        have HE:Hid ((0:Int)=E):=by
         have h:=P.out;unfold rj at h;rw[U.out,if_pos rfl,oL.out,if_pos rfl] at h;exact h
        go_wp2;go_ret;exact⟨by rw[←HE.out];rfl,bt HB0.out hbw (Nat.le_refl _)⟩
theorem AW (n a b:Int) (w:World) (V:Bool) (e:Hid (fk n a b=V)):Calls Tryz.prog 77 #[N Z n,N Z a,N Z b] w fun r g=>r=O (.bool V)∧w=g:=by
 have c:=e.out;unfold fk at c;by_cases h:a≤n
 ·by_cases f:n≤b
  ·have d:Hid (true=V):=by rw[decide_eq_true h,decide_eq_true f] at c;exact c
   clear c e;go_enter Tryz.func77,Tryz.ntmps77;go_wp2;go_ret;exact⟨by rw[←d.out];rfl,rfl⟩
  ·have d:Hid (false=V):=by rw[decide_eq_true h,decide_eq_false f] at c;exact c
   clear c e;go_enter Tryz.func77,Tryz.ntmps77;go_wp2;go_ret;exact⟨by rw[←d.out];rfl,rfl⟩
 ·have d:Hid (false=V):=by rw[decide_eq_false h] at c;exact c
  clear c e;go_enter Tryz.func77,Tryz.ntmps77;go_wp2;go_ret;exact⟨by rw[←d.out];rfl,rfl⟩
theorem uw (aq:Nat→Int×Int) (w:World) (E:Int) (hE:Hid (rj aq=E)):
  Calls Tryz.prog 78 #[.agg #[N Z (aq 0).1,N Z (aq 0).2,N Z (aq 1).1,N Z (aq 1).2,N Z (aq 2).1,N Z (aq 2).2,N Z (aq 3).1,N Z (aq 3).2]] w (jL w E):=by
 obtain⟨t,B⟩:∃W,w.alloc (Y #[N Z (aq 0).1,N Z (aq 0).2,N Z (aq 1).1,N Z (aq 1).2,N Z (aq 2).1,N Z (aq 2).2,N Z (aq 3).1,N Z (aq 3).2] 25)=W:=⟨_,rfl⟩
 have v:Below w.heap.size w t:=by rw[←B];exact bal' w _
 have p1:MW t w.heap.size aq:=by rw[←B];exact hpNew w _
 have L:=hid B;have j:=hid v;have P1:=hid p1;have HI:Hid (∀(n a b:Int) (X:World) (V:Bool),Hid (fk n a b=V)→Calls Tryz.prog 77 #[N Z n,N Z a,N Z b] X fun r z=>r=O (.bool V)∧X=z):=fun n a b X V h=>AW n a b X V h
 clear B v p1;go_enter Tryz.func78,Tryz.ntmps78;go_upto_region 1 with(fail)
 rw[L.out];go_wp2_with fail;go_loopw [3] (fun s wr=>∃k:Nat,k≤4∧s=N Z (k:Int)∧Hid (n5 aq k=true)∧Below t.heap.size t wr) (fun s _=>4- (intOf s).toNat)
 case atStart=>exact⟨0,by omega,rfl,rfl,Below.refl _ _⟩
 case round=>
  obtain⟨k,hk,rfl,zU,c⟩:=hrel;have I:(0:Int)≤(k:Int):=Int.natCast_nonneg _;by_cases f:k<4
  ·have ao:(k:Int)<4:=by omega
   have y1:wr.cell? ⟨w.heap.size,k*2+1,J⟩=M (N Z (aq k).2):=MW.count (hpKeep P1.out c) f;obtain⟨V,g⟩:=gE (fk (aq k).2 0 512);have R:=hid g;clear g;have C:Hid (∀X,Calls Tryz.prog 77 #[N Z (aq k).2,N Z 0,N Z 512] X fun r z=>r=O (.bool V)∧X=z):=fun X=>HI.out _ _ _ X V R
   cases V with
   |false=>
    have u:Hid ((4:Int)=E):=by
     have h:=hE.out;unfold rj at h;rw[uL R.out 4 f,if_neg (by decide)] at h;exact h
    go_wp2_with (go_at_call 77;(with_reducible refine(C.out _).mono ?_);rintro r w2 ⟨rfl,rfl⟩);go_ret;exact⟨by rw[←u.out];rfl,bt j.out c (Nat.le_refl _)⟩
   |true=>
    have D:Hid (n5 aq (k+1)=true):=by show (n5 aq k&&fk (aq k).2 0 512)=true;rw[zU.out,R.out];rfl
    go_wp2_with (go_at_call 77;(with_reducible refine(C.out _).mono ?_);rintro r w2 ⟨rfl,rfl⟩);go_roundw
    case rel=>exact⟨k+1,by omega,by go_num,D.out,c⟩
    case measure=>simp [intOf];omega
  ·obtain rfl:k=4:=by omega
   have xX:=hid zU.out;clear zU;go_wp2_with fail;go_loopw [4] (fun s wr=>∃k:Nat,k≤4∧s=N Z (k:Int)∧Hid (kh aq k=true)∧Below t.heap.size t wr) (fun s _=>4- (intOf s).toNat)
   case atStart=>exact⟨0,by omega,rfl,rfl,c⟩
   case round=>
    clear c;obtain⟨k,hk,rfl,oL,c⟩:=hrel;have I:(0:Int)≤(k:Int):=Int.natCast_nonneg _;by_cases f:k<4
    ·have ao:(k:Int)<4:=by omega
     have y1:wr.cell? ⟨w.heap.size,k*2+1,J⟩=M (N Z (aq k).2):=MW.count (hpKeep P1.out c) f;have y0:wr.cell? ⟨w.heap.size,k*2,J⟩=M (N Z (aq k).1):=MW.first (hpKeep P1.out c) f;have iW:=jP.1 (uN 4 xX.out k f);obtain⟨m,hm⟩:∃m,(if 0<(aq k).2 then 65536- (aq k).2 else 0)=m:=⟨_,rfl⟩
     obtain⟨V,g⟩:∃V,fk (aq k).1 0 (if 0<(aq k).2 then 65536- (aq k).2 else 0)=V:=⟨_,rfl⟩
     have qn:=hid g;have u:Hid (V=false→(7:Int)=E):=fun e=>by
      subst e;have h:=hE.out;unfold rj at h;rw[xX.out,if_pos rfl,oS qn.out 4 f,if_neg (by decide)] at h;exact h
     have D:Hid (V=true→kh aq (k+1)=true):=fun e=>by
      subst e;show (kh aq k&&fk (aq k).1 0 (if 0<(aq k).2 then 65536- (aq k).2 else 0))=true;rw[oL.out,qn.out];rfl
     by_cases A:(aq k).2=0
     ·have d1:=b1 A
      have d3:decide (0<(aq k).2)=false:=decide_eq_false (by omega);have F:V=decide ((aq k).1=0):=by
       rw[←g,if_neg (by omega)];unfold fk;by_cases e:(aq k).1=0
       ·rw [e];rfl
       ·rw [decide_eq_false e]
        by_cases e2:0≤(aq k).1
        ·rw [decide_eq_true e2,decide_eq_false (by omega)];rfl
        ·rw [decide_eq_false e2];rfl
      by_cases he:(aq k).1=0
      ·have d2:((aq k).1 !=0)=false:=by rw[bne_eq_false_iff_eq];exact he
       have U:Hid (V=true):=by rw[F,decide_eq_true he];rfl
       clear A hm g F he iW;go_upto_region 9 with(fail)
       go_quiet (fail);go_wp2;go_roundw
       case rel=>exact⟨k+1,by omega,by go_num,D.out U.out,below_drewN c _⟩
       case measure=>simp [intOf];omega
      ·have d2:((aq k).1 !=0)=true:=by rw[bne_iff_ne];exact he
       have av:Hid (V=false):=by rw[F,decide_eq_false he];rfl
       clear A hm g F he iW;go_upto_region 9 with(fail)
       go_quiet (fail);go_wp2;go_ret;exact⟨by rw[←u.out av.out];rfl,bt j.out (below_drewN c _) (Nat.le_refl _)⟩
     ·have T:0<(aq k).2:=by omega
      have d1:=b0 A;have d3:decide (0<(aq k).2)=true:=decide_eq_true T;rw[if_pos T] at hm g;rw[hm] at g;have sw:IntKind.i64.wrap (65536- (aq k).2)=m:=(IntWalk.i64_in _ (by omega)).trans hm;have C:Hid (∀X,Calls Tryz.prog 77 #[N Z (aq k).1,N Z 0,N Z m] X fun r z=>r=O (.bool V)∧X=z):=fun X=>HI.out _ _ _ X V g
      clear A T hm g iW;have ad:∀X,Below wr.heap.size wr X→X.cell? ⟨w.heap.size,k*2+1,J⟩=M (N Z (aq k).2):=fun X h=>cell_keep h y1
      have Uf:∀X,Below wr.heap.size wr X→X.cell? ⟨w.heap.size,k*2,J⟩=M (N Z (aq k).1):=fun X h=>cell_keep h y0
      have G:Below wr.heap.size wr wr.drew:=(Below.refl _ _).drew;clear y0 y1;go_upto_region 9 with(fail)
      go_cut [50] from 19 to 50 (fun ab wc=>ab=.bool (!V)∧Below wr.heap.size wr wc)
      case first=>
       refine wp_region_held_drew (S:=fun V=>Below wr.heap.size wr V) (by kernel_rfl) G (fun hH=>?_);refine tG 0 19 ?_;refine tG 1 20 ?_;refine tG 2 21 ?_;refine tG 3 22 ?_;refine tG 4 23 ?_;refine tG 5 24 ?_;refine tU 6 25 ?_;refine tU 7 26 ?_;refine tU 8 27 ?_;refine tU 9 28 ?_;refine tU 10 29 ?_;refine tG 11 30 ?_;refine tG 12 31 ?_;refine tG 13 32 ?_;refine tG 14 33 ?_;refine tG 15 34 ?_;refine tG 16 35 ?_;refine tG 17 36 ?_;refine tG 18 37 ?_;refine tG 19 38 ?_;refine tG 20 39 ?_;refine tG 21 40 ?_;refine tG 22 41 ?_;refine tG 23 42 ?_;refine tG 24 43 ?_;refine tG 25 44 ?_;refine tG 26 45 ?_;refine tG 27 46 ?_;clear hH;refine wpAnyH_ready (rs:=[28]) (by kernel_rfl) (by simp) ?_;refine AllReadyH.cons rfl (fun K hK=>?_) AllReadyH.nil;go_simp;refine(C.out _).mono ?_;rintro r w2 ⟨rfl,rfl⟩;refine hK.out _ _ G (fun Q=>?_);clear hK K Q;refine tG 29 48 ?_;refine tG 30 49 ?_;refine tG 31 50 ?_;refine wpAnyH_done (by kernel_rfl) ?_ _;go_wp2;go_meet
       case rel=>exact⟨rfl,G⟩
      case rest=>
       obtain⟨rfl,mM⟩:=hcut;have o:=bt c mM (Nat.le_refl _);clear Uf ad G;cases V with
       |true=>
        have HM:=hid (D.out rfl);go_wp2;go_roundw
        case rel=>exact⟨k+1,by omega,by go_num,HM.out,o⟩
        case measure=>simp [intOf];omega
       |false=>
        have HF:=hid (u.out rfl);go_wp2;go_ret;exact⟨by rw[←HF.out];rfl,bt j.out o (Nat.le_refl _)⟩
    ·obtain rfl:k=4:=by omega
     have u:Hid ((0:Int)=E):=by
      have h:=hE.out;unfold rj at h;rw[xX.out,if_pos rfl,oL.out,if_pos rfl] at h;exact h
     go_wp2;go_ret;exact⟨by rw[←u.out];rfl,bt j.out c (Nat.le_refl _)⟩
theorem Nh (h:p:=by
 clear hrb
 go_wp2_with (first|(go_at_call 77;(with_reducible refine(Hb3.out _).mono ?_);rintro r w9 ⟨rfl,rfl⟩)|(go_at_call 77;(with_reducible refine(Hb4.out _).mono ?_);rintro r w9 ⟨rfl,rfl⟩)|(go_at_call 77;(with_reducible refine(Hb5.out _).mono ?_);rintro r w9 ⟨rfl,rfl⟩)|(go_at_call 77;(with_reducible refine(Hb6.out _).mono ?_);rintro r w9 ⟨rfl,rfl⟩)|(go_at_call 77;(with_reducible refine(Hb7.out _).mono ?_);rintro r w9 ⟨rfl,rfl⟩))
 go_meet
 case rel=>exact⟨by rw[←HE.out];rfl,rfl⟩):p:=h
theorem uz (c:Cf) (sv:Value) (w:World) (hs:dw w sv c.bj) (E:Int) (hE:Hid (oA c=E)):
  Calls Tryz.prog 29 #[.agg (yh c sv)] w (jL w E):=by
 show Calls _ _ #[.agg #[sv,N Z c.fi,N Z c.la,N Z c.re,N Z c.ti,N Z c.de,N Z (c.aq 0).1,N Z (c.aq 0).2,N Z (c.aq 1).1,N Z (c.aq 1).2,N Z (c.aq 2).1,N Z (c.aq 2).2,N Z (c.aq 3).1,N Z (c.aq 3).2,N Z c.ev,N Z c.st]] w _;obtain⟨W0,bH,B,e⟩:=eY w (Y #[sv,N Z c.fi,N Z c.la,N Z c.re,N Z c.ti,N Z c.de,N Z (c.aq 0).1,N Z (c.aq 0).2,N Z (c.aq 1).1,N Z (c.aq 1).2,N Z (c.aq 2).1,N Z (c.aq 2).2,N Z (c.aq 3).1,N Z (c.aq 3).2,N Z c.ev,N Z c.st] 27);have P:=cF e 0 rfl;have W:=cF e 1 rfl;have A:=cF e 2 rfl;have D:=cF e 3 rfl;have M:=cF e 4 rfl;have C:=cF e 5 rfl;have PT:=cF e 14 rfl;have L:=cF e 15 rfl;have R:=cF e 6 rfl;have K:=cF e 7 rfl;have x8:=cF e 8 rfl;have G:=cF e 9 rfl;have T:=cF e 10 rfl;have U:=cF e 11 rfl;have J:=cF e 12 rfl;have F:=cF e 13 rfl;have k0:Below W0.heap.size W0 W0:=Below.refl _ _;have g:Hid (∀(n a b:Int) (X:World) (V:Bool),Hid (fk n a b=V)→Calls Tryz.prog 77 #[N Z n,N Z a,N Z b] X fun r d=>r=O (.bool V)∧X=d):=fun n a b X V h=>AW n a b X V h
 obtain⟨S,Q⟩:=gE (jV c.bj);have u6:Hid (Calls Tryz.prog 76 #[sv] W0 (aj W0 S)):=Cr sv c.bj W0 (hs.ah B) S Q;have m:=hE.out;unfold oA at m;rw[Q] at m;have v:=hid bH;have s:=hid B;clear bH B e hs Q hE;cases S with
 |false=>
  have HE:Hid ((5:Int)=E):=by rw[if_neg (by decide)] at m;exact m
  clear m W A D M C R K x8 G T U J F PT L;go_enter Tryz.func29,Tryz.ntmps29;go_upto_region 1 with(fail)
  rw[v.out];go_wp2_with (go_at_call 76;(with_reducible refine u6.out.mono ?_);rintro r w1 ⟨rfl,j⟩);go_ret;exact⟨by rw[←HE.out];rfl,bt s.out j (Nat.le_refl _)⟩
 |true=>
  rw[if_pos rfl] at m;have u:=hid m;clear m;obtain⟨f,I⟩:=gE (mR c);rw[I] at u;have qY:=hid I;clear I;go_enter Tryz.func29,Tryz.ntmps29;go_upto_region 1 with(fail)
  rw[v.out];go_upto_region 3 with(go_at_call 76;(with_reducible refine u6.out.mono ?_);rintro r w1 ⟨rfl,j⟩)
  go_cut [51] from 7 to 51 (fun q wc=>q=.bool (!f)∧w1=wc)
  case first=>
   have hrb:=qY.out;unfold mR at hrb;clear P R K x8 G T U J F u6 u;by_cases ha:c.fi<1
   ·have z:fk c.fi 1 c.la=false:=by unfold fk;rw[decide_eq_false (by omega)];rfl
    have HE:Hid (false=f):=by rw[z] at hrb;exact hrb
    clear hrb;go_wp2_with fail;go_meet
    case rel=>exact⟨by rw[←HE.out];rfl,rfl⟩
   by_cases hb:c.la<c.fi
   ·have z:fk c.fi 1 c.la=false:=by unfold fk;rw[decide_eq_false (by omega:¬c.fi≤c.la),Bool.and_false]
    have HE:Hid (false=f):=by rw[z] at hrb;exact hrb
    clear hrb;go_wp2_with fail;go_meet
    case rel=>exact⟨by rw[←HE.out];rfl,rfl⟩
   have o:fk c.fi 1 c.la=true:=jP.2 ⟨by omega,by omega⟩;by_cases hc:247<c.la
   ·have ZU:decide (c.la≤247)=false:=decide_eq_false (by omega)
    have HE:Hid (false=f):=by rw[o,ZU] at hrb;exact hrb
    clear hrb;go_wp2_with fail;go_meet
    case rel=>exact⟨by rw[←HE.out];rfl,rfl⟩
   have t:decide (c.la≤247)=true:=decide_eq_true (by omega);have ab:decide (247<c.la)=false:=decide_eq_false (by omega);cases hb3:fk c.re 0 5 with
   |false=>
    have Hb3:Hid (∀X,Calls Tryz.prog 77 #[N Z (c.re),N Z (0),N Z (5)] X fun r d=>r=O (.bool false)∧X=d):=fun X=>g.out _ _ _ X false hb3
    have HE:Hid (false=f):=by rw[o,t,hb3] at hrb;exact hrb
    clear hrb;go_wp2_with (first|(go_at_call 77;(with_reducible refine(Hb3.out _).mono ?_);rintro r w9 ⟨rfl,rfl⟩));go_meet
    case rel=>exact⟨by rw[←HE.out];rfl,rfl⟩
   |true=>
   have Hb3:Hid (∀X,Calls Tryz.prog 77 #[N Z (c.re),N Z (0),N Z (5)] X fun r d=>r=O (.bool true)∧X=d):=fun X=>g.out _ _ _ X true hb3
   cases i:fk c.ti 1 5000000 with
   |false=>
    have Hb4:Hid (∀X,Calls Tryz.prog 77 #[N Z (c.ti),N Z (1),N Z (5000000)] X fun r d=>r=O (.bool false)∧X=d):=fun X=>g.out _ _ _ X false i
    have HE:Hid (false=f):=by rw[o,t,hb3,i] at hrb;exact hrb
    clear hrb;go_wp2_with (first|(go_at_call 77;(with_reducible refine(Hb3.out _).mono ?_);rintro r w9 ⟨rfl,rfl⟩)|(go_at_call 77;(with_reducible refine(Hb4.out _).mono ?_);rintro r w9 ⟨rfl,rfl⟩));go_meet
    case rel=>exact⟨by rw[←HE.out];rfl,rfl⟩
   |true=>
   have Hb4:Hid (∀X,Calls Tryz.prog 77 #[N Z (c.ti),N Z (1),N Z (5000000)] X fun r d=>r=O (.bool true)∧X=d):=fun X=>g.out _ _ _ X true i
   cases hb5:fk c.de 0 5000000 with
   |false=>
    have Hb5:Hid (∀X,Calls Tryz.prog 77 #[N Z (c.de),N Z (0),N Z (5000000)] X fun r d=>r=O (.bool false)∧X=d):=fun X=>g.out _ _ _ X false hb5
    have HE:Hid (false=f):=by rw[o,t,hb3,i,hb5] at hrb;exact hrb
    clear hrb;go_wp2_with (first|(go_at_call 77;(with_reducible refine(Hb3.out _).mono ?_);rintro r w9 ⟨rfl,rfl⟩)|(go_at_call 77;(with_reducible refine(Hb4.out _).mono ?_);rintro r w9 ⟨rfl,rfl⟩)|(go_at_call 77;(with_reducible refine(Hb5.out _).mono ?_);rintro r w9 ⟨rfl,rfl⟩));go_meet
    case rel=>exact⟨by rw[←HE.out];rfl,rfl⟩
   |true=>
   have Hb5:Hid (∀X,Calls Tryz.prog 77 #[N Z (c.de),N Z (0),N Z (5000000)] X fun r d=>r=O (.bool true)∧X=d):=fun X=>g.out _ _ _ X true hb5
   cases hb6:fk c.ev 1 64 with
   |false=>
    have Hb6:Hid (∀X,Calls Tryz.prog 77 #[N Z (c.ev),N Z (1),N Z (64)] X fun r d=>r=O (.bool false)∧X=d):=fun X=>g.out _ _ _ X false hb6
    have HE:Hid (false=f):=by rw[o,t,hb3,i,hb5,hb6] at hrb;exact hrb
    clear hrb;go_wp2_with (first|(go_at_call 77;(with_reducible refine(Hb3.out _).mono ?_);rintro r w9 ⟨rfl,rfl⟩)|(go_at_call 77;(with_reducible refine(Hb4.out _).mono ?_);rintro r w9 ⟨rfl,rfl⟩)|(go_at_call 77;(with_reducible refine(Hb5.out _).mono ?_);rintro r w9 ⟨rfl,rfl⟩)|(go_at_call 77;(with_reducible refine(Hb6.out _).mono ?_);rintro r w9 ⟨rfl,rfl⟩));go_meet
    case rel=>exact⟨by rw[←HE.out];rfl,rfl⟩
   |true=>
   have Hb6:Hid (∀X,Calls Tryz.prog 77 #[N Z (c.ev),N Z (1),N Z (64)] X fun r d=>r=O (.bool true)∧X=d):=fun X=>g.out _ _ _ X true hb6
   cases kK:fk c.st 0 1000000 with
   |false=>
    have Hb7:Hid (∀X,Calls Tryz.prog 77 #[N Z (c.st),N Z (0),N Z (1000000)] X fun r d=>r=O (.bool false)∧X=d):=fun X=>g.out _ _ _ X false kK
    have HE:Hid (false=f):=by rw[o,t,hb3,i,hb5,hb6,kK] at hrb;exact hrb
    exact Nh
   |true=>
   have Hb7:Hid (∀X,Calls Tryz.prog 77 #[N Z (c.st),N Z (0),N Z (1000000)] X fun r d=>r=O (.bool true)∧X=d):=fun X=>g.out _ _ _ X true kK
   have HE:Hid (true=f):=by rw[o,t,hb3,i,hb5,hb6,kK] at hrb;exact hrb
   exact Nh
  case rest=>
   obtain⟨rfl,rfl⟩:=hcut;cases f with
   |false=>
    have HE:Hid ((3:Int)=E):=by have:=u.out;rw[if_neg (by decide)] at this;exact this
    clear P W A D M C R K x8 G T U J F PT L;go_wp2;go_ret;exact⟨by rw[←HE.out];rfl,bt s.out j (Nat.le_refl _)⟩
   |true=>
    have HW:Hid (rj c.aq=E):=by have:=u.out;rw[if_pos rfl] at this;exact this
    have Ey:Hid (∀X,Calls Tryz.prog 78 #[.agg #[N Z (c.aq 0).1,N Z (c.aq 0).2,N Z (c.aq 1).1,N Z (c.aq 1).2,N Z (c.aq 2).1,N Z (c.aq 2).2,N Z (c.aq 3).1,N Z (c.aq 3).2]] X (jL X E)):=fun X=>uw c.aq X E HW
    clear P W A D M C PT L u6 u;go_wp2_with (go_at_call 78;(with_reducible refine(Ey.out _).mono ?_);rintro r w4 ⟨rfl,i⟩);go_ret;exact⟨rfl,bt (bt s.out j (Nat.le_refl _)) i (Nat.le_refl _)⟩
