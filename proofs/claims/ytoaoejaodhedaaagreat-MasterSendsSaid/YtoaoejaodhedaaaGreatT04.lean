import Derived.Test.YtoaoejaodhedaaaGreatT03
namespace Go.Proofs.YtoaoejaodhedaaaGreat
open Go.RowKit
open Option renaming none→J,some→M
open Value renaming int→N
open IntKind renaming i64→U
open Ending renaming returned→Z
set_option maxHeartbeats 6400000
set_option maxRecDepth 100000
variable {b e p:Int} {x:Int×Int} {l:List (Int×Int)} {k n:Nat} {v:Value} {w w':World}
def xai (V:Bool) (r:Ending):Prop:=∃i:Int,r=Z (N U i)∧(0≤i↔V=true)
theorem Fa (v:Value) (l:List Int) (x:Int) (w:World) (B:Ns w v l) (V:Bool) (D:Hid (l.any (fun y=>decide (x=y))=V)):
  Calls Tryz.prog 178 #[v,N U x] w fun r w'=>xai V r∧w=w':=by
 have R:=hid B;obtain⟨⟨a,c,rfl,L,Q,P,A⟩,_⟩:=B;unfold maxLen at Q;obtain⟨n,j⟩:=gE l.length;have C:∀k,k<n→∃b o,a=M ⟨b,o,J⟩∧w.cell? ⟨b,o+k,J⟩=M (N U (l.getD k 0)):=by
  intro k s;obtain⟨b,o,S,E⟩:=A (by rintro rfl;simp at j;omega);exact⟨b,o,S,E k (by omega)⟩
 have g:∀k,k<n→l.take (k+1)=l.take k++[l.getD k 0]:=by
  intro k s;rw[List.take_succ_eq_append_getElem (by omega)];simp [List.getD,j,s]
 have I:=hid (show l.take n=l by rw[←j,List.take_length]);have G:=hid g;have q:=hid C;rw[j] at L ⊢;clear A g C P j R;go_enter Tryz.func178,Tryz.ntmps178;go_wp2;go_loop [8] (fun i=>∃k:Nat,k≤n∧i=N U k∧Hid ((l.take k).any (fun y=>decide (x=y))=false)) (fun i=>n- (intOf i).toNat)
 case atStart=>exact⟨0,Nat.zero_le _,rfl,rfl⟩
 case round=>
  obtain⟨k,s,rfl,u⟩:=hrel;by_cases m:k<n
  ·obtain ⟨b,o,rfl,E⟩:=q.out k m
   have F:=hid (G.out k m);have O:(k:Int)<(n:Int):=by omega
   generalize l.getD k 0=y at*;by_cases f:x=y
   ·have d:(x==y)=true:=by rw[beq_iff_eq];exact f
    have t:Hid (V=true):=by
     show _=_;rw[←D.out];refine List.any_eq_true.2 ⟨y,?_,decide_eq_true f⟩;have:y∈l.take (k+1):=by rw[F.out];simp
     exact List.mem_of_mem_take this
    clear f;go_wp2;go_ret;exact⟨⟨k,rfl,⟨fun _=>t.out,fun _=>Int.natCast_nonneg _⟩⟩,rfl⟩
   ·have d:(x==y)=false:=by rw[beq_eq_false_iff_ne];exact f
    have K:Hid ((l.take (k+1)).any (fun y=>decide (x=y))=false):=by
     show _=_;rw[F.out,List.any_append,u.out];simp [f]
    clear f;go_wp2;go_round
    case rel=>exact⟨k+1,by omega,by go_num,K⟩
    case measure=>simp [intOf];omega
  ·obtain rfl:k=n:=by omega
   have t:Hid (V=false):=by
    have z:=u.out;rw[I.out] at z;show _=_;rw[←D.out,z]
   go_wp2;go_ret;exact⟨⟨-1,rfl,⟨fun h=>absurd h (by decide),fun h=>by rw[t.out] at h;cases h⟩⟩,rfl⟩
theorem contI_any (v:Value) (l:List Int) (x:Int) (w:World) (d:Ns w v l) (V:Bool) (f:Hid (l.any (fun y=>decide (x=y))=V)):
  Calls Tryz.prog 148 #[v,N U x] w fun r w'=>r=Z (.bool V)∧w=w':=by
 have j:=hid (Fa v l x w d V f);obtain⟨⟨a,c,rfl,_⟩,_⟩:=d;clear f;go_enter Tryz.func148,Tryz.ntmps148;go_wp2_with fail;refine j.out.mono ?_;rintro r w1 ⟨⟨i,rfl,hi⟩,rfl⟩;have g:Hid (decide (0≤i)=V):=by
  show _=_;cases V with
  |true=>exact decide_eq_true (hi.2 rfl)
  |false=>exact decide_eq_false (fun h=>by cases hi.1 h)
 clear hi;go_wp2;go_ret;exact⟨ret_bool g.out,rfl⟩
def eW:List Int:=[1200,2400,4800,9600,19200,38400,57600,115200]
structure aU (b p:Int):Prop where
 mem:b∈eW
 lo:0≤p
 hi:p≤2
theorem aU.bd (h:aU b p):1200≤b∧b≤115200:=by
 have:=h.mem;simp [eW] at this;omega
theorem bauds_any (w:World):Calls Tryz.prog 153 #[] w fun r w'=>(∃a n c,r=Z (.slice a n c)∧Ns w' (.slice a n c) eW)∧Below w.heap.size w w':=by
 go_enter Tryz.func153,Tryz.ntmps153;go_wp2;go_ret;refine⟨⟨_,_,_,rfl,⟨_,8,rfl,by decide,by unfold maxLen;exact Nat.le_of_ble_eq_true rfl,(fun h=>by cases h),fun _=>⟨w.heap.size,0,rfl,fun i hi=>?_⟩⟩,?_⟩,bal' w _⟩
 ·rw [hpCell (hpNew w _)]
  have:i<8:=hi;rcases (show i=0∨i=1∨i=2∨i=3∨i=4∨i=5∨i=6∨i=7 by omega) with rfl|rfl|rfl|rfl|rfl|rfl|rfl|rfl<;>rfl
 ·intro n d
  simp [eW] at d;rcases d with rfl|rfl|rfl|rfl|rfl|rfl|rfl|rfl<;>rfl
theorem svalid_ok (b p:Int) (h:aU b p) (w:World):
  Calls Tryz.prog 120 #[.agg #[N U b,N U p]] w fun r w'=>r=Z (.bool true)∧Below w.heap.size w w':=by
 have i:Hid (eW.any (fun y=>decide (b=y))=true):=List.any_eq_true.2 ⟨b,h.mem,decide_eq_true rfl⟩;obtain⟨W0,c⟩:∃W,w.alloc (.cells #[N U b,N U p] 61)=W:=⟨_,rfl⟩
 have g:W0.heap[w.heap.size]?=M (.cells #[N U b,N U p] 61):=by rw[←c];exact hpNew w _
 have m:Hid (Below w.heap.size w W0):=by show Below _ _ _;rw[←c];exact bal' w _
 have c0:=cF g 0 rfl;have c1:=cF g 1 rfl;have d1:decide (0≤p)=true:=decide_eq_true h.lo;have d2:decide (p≤2)=true:=decide_eq_true h.hi;have f:Below W0.heap.size W0 W0.drew:=(Below.refl _ _).drew;have d:=hid c;clear h g c;go_enter Tryz.func120,Tryz.ntmps120;go_wp2_with fail;rw[d.out];go_region_held3 (fun W=>Below W0.heap.size W0 W) ((with_reducible (first|exact f|exact bt f a (Nat.le_refl _)|assumption))) (first|(go_at_call 153;(with_reducible refine(bauds_any _).mono ?_);rintro r o ⟨⟨q,s,c2,rfl,j⟩,a⟩)|(go_at_call 148;(with_reducible refine(contI_any _ _ _ _ j true i).mono ?_);rintro r w3 ⟨rfl,rfl⟩));go_wp2;go_ret;exact⟨rfl,bt m.out (bt f a (Nat.le_refl _)) (Nat.le_refl _)⟩
def KE (a b:Int):Int:=(a+b-1)/b
theorem zn (a b:Int) (c:1≤b) (f:b≤115200) (g:0≤a) (d:a≤38500000) (w:World):
  Calls Tryz.prog 158 #[N U a,N U b] w fun r w'=>r=Z (N U (KE a b))∧w=w':=by
 go_enter Tryz.func158,Tryz.ntmps158;go_wp2;go_ret;exact⟨rfl,rfl⟩
def charT (b:Int):Int:=KE 11000000 b
def ed (b:Int):Int:=if 19200<b then 750 else KE 16500000 b
def bq (b:Int):Int:=if 19200<b then 1750 else KE 38500000 b
theorem bV (h:aU b p):96≤charT b∧charT b≤9167∧750≤ed b∧ed b≤13750∧1750≤bq b∧bq b≤32084:=by
 have:=h.mem;simp [eW] at this;rcases this with rfl|rfl|rfl|rfl|rfl|rfl|rfl|rfl<;>decide
theorem mf (b p:Int) (h:Hid (aU b p)) (w:World):
  Calls Tryz.prog 128 #[.agg #[N U b,N U p]] w fun r w'=>r=Z (N U (charT b))∧Below w.heap.size w w':=by
 have c:Hid (∀W,Calls Tryz.prog 158 #[N U 11000000,N U b] W fun r w'=>r=Z (N U (charT b))∧W=w'):=fun W=>zn _ b (by have:=h.out.bd;omega) (by have:=h.out.bd;omega) (by decide) (by decide) W
 go_enter Tryz.func128,Tryz.ntmps128;go_wp2_with (first|(go_at_call 120;(with_reducible refine(svalid_ok b p h.out _).mono ?_);rintro r w1 ⟨rfl,a⟩;have y0:=hpCell (hpKeep (hpNew w _) a) 0)|(go_at_call 158;(with_reducible refine(c.out _).mono ?_);rintro r d ⟨rfl,rfl⟩));go_ret;exact⟨rfl,bt (bal' w _) a (Nat.le_refl _)⟩
theorem Mq {p:Prop} (h:p:=by
 go_wp2_with (first|(go_at_call 120;(with_reducible refine(svalid_ok b p h.out _).mono ?_);rintro r w1 ⟨rfl,hb1⟩;have y0:=hpCell (hpKeep (hpNew w _) hb1) 0)|(go_at_call 158;(with_reducible refine(HU.out _).mono ?_);rintro r w2 ⟨rfl,rfl⟩))
 go_ret
 exact⟨by rw[HT.out];rfl,bt (bal' w _) hb1 (Nat.le_refl _)⟩):p:=h
theorem ux (b p:Int) (h:Hid (aU b p)) (w:World):
  Calls Tryz.prog 125 #[.agg #[N U b,N U p]] w fun r w'=>r=Z (N U (bq b))∧Below w.heap.size w w':=by
 by_cases hs:19200<b
 ·have HT:Hid (bq b=1750):=if_pos hs
  go_enter Tryz.func125,Tryz.ntmps125;go_wp2_with (first|(go_at_call 120;(with_reducible refine(svalid_ok b p h.out _).mono ?_);rintro r w1 ⟨rfl,hb1⟩;have y0:=hpCell (hpKeep (hpNew w _) hb1) 0)|fail);go_ret;exact⟨by rw[HT.out];rfl,bt (bal' w _) hb1 (Nat.le_refl _)⟩
 ·have HT:Hid (bq b=KE 38500000 b):=if_neg hs
  have HU:Hid (∀W,Calls Tryz.prog 158 #[N U 38500000,N U b] W fun r w'=>r=Z (N U (KE 38500000 b))∧W=w'):=fun W=>zn _ b (by have:=h.out.bd;omega) (by have:=h.out.bd;omega) (by decide) (by decide) W
  go_enter Tryz.func125,Tryz.ntmps125;exact Mq
theorem OJ (b p:Int) (h:Hid (aU b p)) (w:World):
  Calls Tryz.prog 165 #[.agg #[N U b,N U p]] w fun r w'=>r=Z (N U (ed b))∧Below w.heap.size w w':=by
 by_cases hs:19200<b
 ·have HT:Hid (ed b=750):=if_pos hs
  go_enter Tryz.func165,Tryz.ntmps165;go_wp2_with (first|(go_at_call 120;(with_reducible refine(svalid_ok b p h.out _).mono ?_);rintro r w1 ⟨rfl,hb1⟩;have y0:=hpCell (hpKeep (hpNew w _) hb1) 0)|fail);go_ret;exact⟨by rw[HT.out];rfl,bt (bal' w _) hb1 (Nat.le_refl _)⟩
 ·have HT:Hid (ed b=KE 16500000 b):=if_neg hs
  have HU:Hid (∀W,Calls Tryz.prog 158 #[N U 16500000,N U b] W fun r w'=>r=Z (N U (KE 16500000 b))∧W=w'):=fun W=>zn _ b (by have:=h.out.bd;omega) (by have:=h.out.bd;omega) (by decide) (by decide) W
  go_enter Tryz.func165,Tryz.ntmps165;exact Mq
theorem qG (n:Int) (a:0≤n) (c:n≤5000000) (w:World):
  Calls Tryz.prog 100 #[N U n] w fun r w'=>r=Z (.bool true)∧w=w':=by
 go_enter Tryz.func100,Tryz.ntmps100;go_wp2;go_ret;exact⟨rfl,rfl⟩
def cu (b timeout UA:Int):Int:=2*bq b+timeout+UA+257*charT b
theorem vr (b p x y:Int) (h:Hid (aU b p)) (s:0≤x) (z:x≤5000000) (t:0≤y) (A:y≤5000000) (w:World):
  Calls Tryz.prog 101 #[.agg #[N U b,N U p],N U x,N U y] w fun r w'=>r=Z (N U (cu b x y))∧Below w.heap.size w w':=by
 obtain⟨t1,t2,_,_,t5,t6⟩:=bV h.out;obtain⟨C,f⟩:=gE (charT b);obtain⟨T,g⟩:=gE (bq b);have u:Hid (∀W,Calls Tryz.prog 128 #[.agg #[N U b,N U p]] W fun r w'=>r=Z (N U C)∧Below W.heap.size W w'):=fun W=>by rw[←f];exact mf b p h W
 have o:Hid (∀W,Calls Tryz.prog 125 #[.agg #[N U b,N U p]] W fun r w'=>r=Z (N U T)∧Below W.heap.size W w'):=fun W=>by rw[←g];exact ux b p h W
 have B:Hid (cu b x y=2*T+x+y+257*C):=by show _=_;rw[←f,←g];rfl
 rw[f] at t1 t2;rw[g] at t5 t6;have s1:IntKind.i64.wrap (2*T)=2*T:=IntWalk.i64_in _ (by omega);have s2:IntKind.i64.wrap (2*T+x)=2*T+x:=IntWalk.i64_in _ (by omega);have F:IntKind.i64.wrap (2*T+x+y)=2*T+x+y:=IntWalk.i64_in _ (by omega);have G:IntKind.i64.wrap (257*C)=257*C:=IntWalk.i64_in _ (by omega);have D:IntKind.i64.wrap (2*T+x+y+257*C)=2*T+x+y+257*C:=IntWalk.i64_in _ (by omega);clear f g;go_enter Tryz.func101,Tryz.ntmps101;go_wp2_with (first|(go_at_call 120;(with_reducible refine(svalid_ok b p h.out _).mono ?_);rintro r w1 ⟨rfl,c⟩;have j:=hpKeep (hpNew w _) c)|(go_at_call 100;(with_reducible refine(qG x s z _).mono ?_);rintro r q ⟨rfl,rfl⟩)|(go_at_call 100;(with_reducible refine(qG y t A _).mono ?_);rintro r q ⟨rfl,rfl⟩));have c0:=cF j 0 rfl
 have c1:=cF j 1 rfl
 have m:Below w1.heap.size w1 w1.drew:=(Below.refl _ _).drew;have a:=bt (bal' w _) c (Nat.le_refl _);clear j c;go_region_held3 (fun W=>Below w1.heap.size w1 W) ((first|exact m|exact bt (by assumption) d (Nat.le_refl _)|exact bt (by assumption) i (Nat.le_refl _))) (first|(go_at_call 128;(with_reducible refine(u.out _).mono ?_);rintro r E ⟨rfl,i⟩)|(go_at_call 125;(with_reducible refine(o.out _).mono ?_);rintro r w5 ⟨rfl,d⟩))
 all_goals
  go_wp2;go_ret;refine⟨by rw[B.out];rfl,?_⟩
  first|exact bt a (bt (bt m d (Nat.le_refl _)) i (Nat.le_refl _)) (Nat.le_refl _)|exact bt a (bt (bt m i (Nat.le_refl _)) d (Nat.le_refl _)) (Nat.le_refl _)
theorem bh (n a b:Int) (w:World) (V:Bool) (d:Hid ((decide (a≤n)&&decide (n≤b))=V)):
  Calls Tryz.prog 104 #[N U n,N U a,N U b] w fun r w'=>r=Z (.bool V)∧w=w':=by
 have c:=d.out;by_cases h:a≤n
 ·have d1:decide (a≤n)=true:=decide_eq_true h
  rw[d1,Bool.true_and] at c;have f:=hid c;clear c d h;go_enter Tryz.func104,Tryz.ntmps104;go_wp2;go_ret;exact⟨ret_bool f.out,rfl⟩
 ·have d1:decide (a≤n)=false:=decide_eq_false h
  rw[d1,Bool.false_and] at c;subst c;clear d h;go_enter Tryz.func104,Tryz.ntmps104;go_wp2;go_ret;exact⟨rfl,rfl⟩
theorem Ag (w:World):Calls Tryz.prog 173 #[] w fun r w'=>(∃b c,r=Z (.slice (M ⟨b,0,J⟩) 8 c)∧8≤c∧∀i,i<8→w'.cell? ⟨b,i,J⟩=M (N U (eW.getD i 0)))∧Below w.heap.size w w':=by
 go_enter Tryz.func173,Tryz.ntmps173;go_wp2;go_ret;refine⟨⟨w.heap.size,_,rfl,Nat.le_refl _,fun i hi=>?_⟩,bal' w _⟩;rw[hpCell (hpNew w _)];rcases (show i=0∨i=1∨i=2∨i=3∨i=4∨i=5∨i=6∨i=7 by omega) with rfl|rfl|rfl|rfl|rfl|rfl|rfl|rfl<;>rfl
def lE:List (Int×Int):=eW.flatMap fun b=>[(b,0),(b,1),(b,2)]
def cO:List (Int×Int)→List Value
 |[]=>[]
 |x::l=>N U x.1::N U x.2::cO l
theorem vg (l k:List (Int×Int)):cO (l++k)=cO l++cO k:=by
 induction l with
 |nil=>rfl
 |cons x l ih=>simp [cO,ih]
theorem eD (l:List (Int×Int)):(cO l).length=l.length*2:=by
 induction l with
 |nil=>rfl
 |cons x l ih=>simp [cO,ih];omega
theorem ql:∀(l:List (Int×Int)) (i:Nat) (x:Int×Int),l[i]?=M x→(cO l)[i*2]?=M (N U x.1)∧(cO l)[i*2+1]?=M (N U x.2)
 |[],i,x,h=>by simp at h
 |y::l,0,x,h=>by
  simp at h;subst h;exact⟨rfl,rfl⟩
 |y::l,i+1,x,h=>by
  have:=ql l i x (by simpa using h);rw[show (i+1)*2=i*2+2 by omega];exact this
theorem wW:lE.length=24:=by decide
theorem C8:∀k,k<8→∀q,q<3→lE.take (3*k+q+1)=lE.take (3*k+q)++[(eW.getD k 0,(q:Int))]:=by decide
theorem Kj (h:x∈lE):aU x.1 x.2:=by
 have a:∀x∈lE,x.1∈eW∧0≤x.2∧x.2≤2:=by decide
 exact⟨(a x h).1,(a x h).2.1,(a x h).2.2⟩
theorem Fe (h:aU b p):(b,p)∈lE:=by
 have a:=h.mem;have c:p=0∨p=1∨p=2:=by have:=h.lo;have:=h.hi;omega
 simp [eW] at a;rcases a with rfl|rfl|rfl|rfl|rfl|rfl|rfl|rfl<;>rcases c with rfl|rfl|rfl<;>decide
theorem Uk:(Tryz.prog.info? 61).map (fun i=>(i.zero,i.size,i.bytes))=M (M (.agg #[N U 0,N U 0]),2,16):=by kernel_rfl
def Ky (w:World) (r:Ending) (w':World):Prop:=∃v,r=Z v∧w'.ownsRow w.heap.size 61 2 v 24 (cO lE)∧Below w.heap.size w w'
theorem FL (w:World):Calls Tryz.prog 141 #[] w (Ky w):=by
 obtain⟨i5,hi,o,m,y⟩:=info_parts Uk;go_enter Tryz.func141,Tryz.ntmps141;go_wp2_with fail;refine(Ag w).mono ?_;rintro r w1 ⟨⟨b,c,rfl,S,E⟩,d⟩;have I:=hid E;clear E;have G:=d.size;go_wp2;go_loopw [1,3,4] (fun v i _ wr=>∃k:Nat,k≤8∧i=N U k∧wr.ownsRow w1.heap.size 61 2 v (3*k) (cO (lE.take (3*k)))∧Below w1.heap.size w1 wr) (fun _ i _ _=>8- (intOf i).toNat)
 case atStart=>exact⟨0,by omega,rfl,World.ownsRow_nil _ _ _ _,Below.refl _ _⟩
 case round=>
  obtain⟨k,C,rfl,a,D⟩:=hrel;by_cases g:k<8
  ·have M:(k:Int)<8:=by omega
   have K:=hid a;clear a;obtain⟨B,rfl⟩:∃B:World,B=wr:=⟨_,rfl⟩
   go_wp2;go_loopw [1,4] (fun v q wr=>∃j:Nat,j≤3∧q=N U j∧wr.ownsRow w1.heap.size 61 2 v (3*k+j) (cO (lE.take (3*k+j)))∧Below w1.heap.size w1 wr) (fun _ q _=>3- (intOf q).toNat)
   case atStart=>exact⟨0,by omega,rfl,K.out,D⟩
   case round=>
    obtain⟨j,W,rfl,a,f⟩:=hrel;by_cases s:j<3
    ·have R:(j:Int)<3:=by omega
     have V:=cell_keep f (I.out k g);have O:=hid (C8 k g j s);have Q:=f.size;generalize T:eW.getD k 0=bd at*;go_wp2_with (at_builtin;refine aL rfl _ _ 22 rfl w1.heap.size 61 i5 _ 2 16 Tryz.underlying22 hi o m y rfl (by decide) _ (3*k+j) _ rfl (a.alloc _) ⟨wr.heap.size,0,J⟩ 1 1 [N U bd,N U (j:Int)] rfl rfl (dP wr [N U bd,N U (j:Int)] _) (by intro u hu;simp at hu;rcases hu with rfl|rfl<;>rfl) (by unfold maxLen;omega) (by omega) (by simp;omega) ?c1)
     case c1=>
      intro P z A F _;have L:Below w1.heap.size w1 z:=(bta f (Nat.le_refl _) _).grown F (bta f (Nat.le_refl _) _).size (fun k C=>(a.lt k C).1);have t:Hid (z.ownsRow w1.heap.size 61 2 P (3*k+(j+1)) (cO (lE.take (3*k+(j+1))))):=by
       rw[←Nat.add_assoc,O.out,vg];exact A
      clear A F;go_wp2;go_roundw
      case rel=>exact⟨j+1,by omega,by go_num,t.out,L⟩
      case measure=>simp [intOf];omega
    ·obtain rfl:j=3:=by omega
     have t:=hid a;clear a;go_wp2;go_roundw
     case rel=>exact⟨k+1,by omega,by go_num,t.out,f⟩
     case measure=>simp [intOf];omega
  ·obtain rfl:k=8:=by omega
   go_wp2;go_ret;refine⟨_,rfl,own_lower a G,bt d D (Nat.le_refl _)⟩
theorem wL {base:Nat} {E:TypeId} (h:w.ownsRow base E 2 v n (cO l)) (m:l≠[]):∃g c,v=.slice (M ⟨g,0,J⟩) n c∧n≤c∧c≤maxLen∧∀i x,l[i]?=M x→w.cell? ⟨g,i*2,J⟩=M (N U x.1)∧w.cell? ⟨g,i*2+1,J⟩=M (N U x.2):=by
 obtain⟨hlen,h|⟨g,cap,cur,y,A,z,f,s,r,o⟩⟩:=h
 ·obtain ⟨rfl,t⟩:=h
  rw[eD,t] at hlen;exact absurd (List.eq_nil_of_length_eq_zero (by omega)) m
 ·refine ⟨g,cap,y,f,s,fun i x d=>?_⟩
  have hi:=(List.getElem?_eq_some_iff.1 d).1;have hs:=eD l;obtain⟨u,q⟩:=ql l i x d;have a:∀j,j<l.length*2→w.cell? ⟨g,j,J⟩=(cO l)[j]?:=by
   intro j B;have:=gw o j (by omega);simp only[World.cell?,z,Option.isSome_none];exact this
  exact⟨by rw[a _ (by omega)];exact u,by rw[a _ (by omega)];exact q⟩
def aK (b:Int) (n:Nat):Int:=n*charT b
structure iP where
 sup:Bool
 rd:List (Int×Int)
 al:Int
structure Sl where
 bd:Int
 pa:Int
 un:Int
 ts:Nat→iP
 lv:Int
 ag:List Ob
 hs:Bool
 sd:List UInt8
def El (rd:List (Int×Int)) (a:Int):Bool:=rd.any (fun r=>decide (r.1≤a)&&decide (a-r.1<r.2))
def oq (rd:List (Int×Int)) (a:Int) (n:Nat):Prop:=∀i:Nat,i<n→El rd (a+(i:Nat))=true
theorem EI:Tryz.prog.cellsOf 63=1:=by kernel_rfl
theorem tH:Tryz.prog.cellsOf 24=2:=by kernel_rfl
theorem BN:Tryz.prog.cellsOf 65=3:=by kernel_rfl
theorem Fs:Tryz.prog.cellsOf 66=12:=by kernel_rfl
theorem L0:Tryz.prog.cellsOf 61=2:=by kernel_rfl
theorem BW:Tryz.prog.cellsOf 68=19:=by kernel_rfl
def NG (_:World) (cs:List Value) (x:Int×Int):Prop:=cs=[N U x.1,N U x.2]∧bT x.1∧bT x.2
def dw (w:World) (v:Value) (l:List (Int×Int)):Prop:=gY 2 NG w v l
theorem dw.ah {w w':World} {v:Value} {l:List (Int×Int)} (h:dw w v l) (a:Below w.heap.size w w'):dw w' v l:=gY.ah (fun _ _ _ _ h _=>h) h a
theorem bl (h:Rd Tryz.prog w 3 [v]):∃n:Int,v=N U n∧bT n:=by
 obtain⟨n,e,hw⟩:=Rd.int Tryz.underlying3 h;simp only[List.cons.injEq,and_true] at e;have a:=bounds_i64 hw;exact⟨n,e,by unfold bT;omega⟩
theorem ue (h:Rd Tryz.prog w 4 [v]):∃b:Bool,v=.bool b:=by
 obtain⟨b,e⟩:=Rd.bool Tryz.underlying4 h;simp only[List.cons.injEq,and_true] at e;exact⟨b,e⟩
theorem xA {cs:List Value} (h:Rd Tryz.prog w 24 cs):∃x,NG w cs x:=by
 obtain⟨c,d⟩:=h.struct Tryz.underlying24;rw[tH] at c;obtain⟨c0,c1,rfl⟩:=Jv c;have f0:=d _ (List.mem_cons_self ..);have f1:=d _ (List.mem_cons_of_mem _ (List.mem_cons_self ..));simp only[dB,List.drop_zero,List.drop_succ_cons,List.take_succ_cons,List.take_zero] at f0 f1;obtain⟨a,rfl,f⟩:=bl f0;obtain⟨b,rfl,w1⟩:=bl f1;exact⟨(a,b),rfl,f,w1⟩
theorem O1 (h:Rd Tryz.prog w 63 [v]):∃l,dw w v l:=
 gY.jz (R:=NG) Tryz.underlying63 tH (by decide) (fun _ h=>xA h) h
theorem Vy {α:Type} {l:List α} (h:l.length=3):∃a b c,l=[a,b,c]:=by
 match l,h with
 |[a,b,c],_=>exact⟨a,b,c,rfl⟩
theorem Sy {α:Type} {l:List α} (h:l.length=19):∃a b c d e f g i j k m n o p q r s t u,l=[a,b,c,d,e,f,g,i,j,k,m,n,o,p,q,r,s,t,u]:=by
 match l,h with
 |[a,b,c,d,e,f,g,i,j,k,m,n,o,p,q,r,s,t,u],_=>exact⟨a,b,c,d,e,f,g,i,j,k,m,n,o,p,q,r,s,t,u,rfl⟩
theorem BC {cs:List Value} (h:Rd Tryz.prog w 65 cs):∃(t:iP) (v:Value),cs=[.bool t.sup,v,N U t.al]∧dw w v t.rd∧bT t.al:=by
 obtain⟨d,c⟩:=h.struct Tryz.underlying65;rw[BN] at d;obtain⟨c0,c1,c2,rfl⟩:=Vy d;have f0:=c _ (List.mem_cons_self ..);have f1:=c _ (List.mem_cons_of_mem _ (List.mem_cons_self ..));have f2:=c _ (List.mem_cons_of_mem _ (List.mem_cons_of_mem _ (List.mem_cons_self ..)));simp only[dB,mJ,EI,List.drop_zero,List.drop_succ_cons,List.take_succ_cons,List.take_zero] at f0 f1 f2;obtain⟨a,rfl⟩:=ue f0;obtain⟨l,f⟩:=O1 f1;obtain⟨b,rfl,w1⟩:=bl f2;exact⟨⟨a,l,b⟩,c1,rfl,f,w1⟩
def SlC (s:Sl) (rv:Nat→Value) (ov sv:Value):Array Value:=
 #[N U s.bd,N U s.pa,N U s.un,.bool (s.ts 0).sup,rv 0,N U (s.ts 0).al,.bool (s.ts 1).sup,rv 1,N U (s.ts 1).al,.bool (s.ts 2).sup,rv 2,N U (s.ts 2).al,.bool (s.ts 3).sup,rv 3,N U (s.ts 3).al,N U s.lv,ov,.bool s.hs,sv]
structure nO (w:World) (s:Sl) (rv:Nat→Value) (ov sv:Value):Prop where
 rg:∀k,k<4→dw w (rv k) (s.ts k).rd
 ob:cY w ov s.ag
 sd:Bs w sv s.sd
 mo:∀k,k<4→bT (s.ts k).al
 un:bT s.un
 lv:bT s.lv
 bd:bT s.bd
 pa:bT s.pa
theorem nO.ah {w w':World} {s:Sl} {d:Nat→Value} {c sv:Value} (h:nO w s d c sv) (a:Below w.heap.size w w'):nO w' s d c sv:=
 ⟨fun k f=>(h.rg k f).ah a,h.ob.ah a,h.sd.ah a,h.mo,h.un,h.lv,h.bd,h.pa⟩
def YT {α:Type} (a b c d:α):Nat→α
 |0=>a
 |1=>b
 |2=>c
 |_=>d
theorem UW {cs:Array Value} (h:Rd Tryz.prog w 68 cs.toList):∃s i g sv,cs=SlC s i g sv∧nO w s i g sv:=by
 obtain⟨q,a⟩:=h.struct Tryz.underlying68;rw[BW] at q;obtain⟨Y⟩:=cs;obtain⟨c0,c1,c2,c3,c4,c5,W,R,Z,X,T,Q,uS,U,z,A,P,c17,V,rfl⟩:=Sy q;have f0:=a _ (List.mem_cons_self ..);have f1:=a _ (List.mem_cons_of_mem _ (List.mem_cons_self ..));have f2:=a _ (List.mem_cons_of_mem _ (List.mem_cons_of_mem _ (List.mem_cons_self ..)));have f3:=a _ (List.mem_cons_of_mem _ (List.mem_cons_of_mem _ (List.mem_cons_of_mem _ (List.mem_cons_self ..))));have f4:=a _ (List.mem_cons_of_mem _ (List.mem_cons_of_mem _ (List.mem_cons_of_mem _ (List.mem_cons_of_mem _ (List.mem_cons_self ..)))));have f5:=a _ (List.mem_cons_of_mem _ (List.mem_cons_of_mem _ (List.mem_cons_of_mem _ (List.mem_cons_of_mem _ (List.mem_cons_of_mem _ (List.mem_cons_self ..))))));have f6:=a _ (List.mem_cons_of_mem _ (List.mem_cons_of_mem _ (List.mem_cons_of_mem _ (List.mem_cons_of_mem _ (List.mem_cons_of_mem _ (List.mem_cons_of_mem _ (List.mem_cons_self ..)))))));simp only[dB,mJ,qA,E6,L0,Fs,List.drop_zero,List.drop_succ_cons,List.take_succ_cons,List.take_zero] at f0 f1 f2 f3 f4 f5 f6;obtain⟨gp,f⟩:=f0.struct Tryz.underlying61;have s0:=f _ (List.mem_cons_self ..);have s1:=f _ (List.mem_cons_of_mem _ (List.mem_cons_self ..));simp only[dB,List.drop_zero,List.drop_succ_cons,List.take_succ_cons,List.take_zero] at s0 s1;obtain⟨b0,rfl,D⟩:=bl s0;obtain⟨b1,rfl,w1⟩:=bl s1;obtain⟨b2,rfl,J⟩:=bl f1;obtain⟨S,c⟩:=f2.array Tryz.underlying66;have t0:=c 0 (by decide);have t1:=c 1 (by decide);have t2:=c 2 (by decide);have t3:=c 3 (by decide);simp only[BN,Nat.zero_mul,Nat.reduceMul,List.drop_zero,List.drop_succ_cons,List.take_succ_cons,List.take_zero] at t0 t1 t2 t3;obtain⟨B,v0,j,I,F⟩:=BC t0;obtain⟨G,v1,r,O,m1⟩:=BC t1;obtain⟨L,v2,o,C,m2⟩:=BC t2;obtain⟨M,v3,m,t,N⟩:=BC t3;obtain⟨b3,rfl,w3⟩:=bl f3;obtain⟨os,y⟩:=cY.jz f4;obtain⟨K,rfl⟩:=ue f5;obtain⟨E,u⟩:=Bs.jz Tryz.underlying50 Tryz.underlying5 Bv f6;simp only[List.cons.injEq,and_true] at j r o m;obtain⟨rfl,rfl,rfl⟩:=j;obtain⟨rfl,rfl,rfl⟩:=r;obtain⟨rfl,rfl,rfl⟩:=o;obtain⟨rfl,rfl,rfl⟩:=m;refine⟨⟨b0,b1,b2,YT B G L M,b3,os,K,E⟩,YT _ _ _ _,_,_,rfl,fun k d=>?_,y,u,fun k d=>?_,J,w3,D,w1⟩
 ·match k,d with
  |0,_=>exact I
  |1,_=>exact O
  |2,_=>exact C
  |3,_=>exact t
 ·match k,d with
  |0,_=>exact F
  |1,_=>exact m1
  |2,_=>exact m2
  |3,_=>exact N
def aG (e:Int):List (Int×Int)→Bool
 |[]=>true
 |r::l=> !(decide (r.1≤e)||decide (r.1<0)||decide (65536≤r.1)||decide (r.2<1)||decide (65536-r.1<r.2))&&aG (r.1+r.2) l
def tV (e:Int) (x:Int×Int):Prop:=¬x.1≤e∧¬x.1<0∧¬65536≤x.1∧¬x.2<1∧¬65536-x.1<x.2
theorem ew (h:tV e x):aG e (x::l)=aG (x.1+x.2) l:=by
 obtain⟨c,a,g,d,f⟩:=h;simp only[aG,decide_eq_false c,decide_eq_false a,decide_eq_false g,decide_eq_false d,decide_eq_false f];rfl
theorem eJ (h:¬tV e x):aG e (x::l)=false:=by
 cases hh:aG e (x::l) with
 |false=>rfl
 |true=>
  exfalso;simp only[aG,Bool.and_eq_true,Bool.not_eq_true',Bool.or_eq_false_iff,decide_eq_false_iff_not] at hh;obtain⟨⟨⟨⟨⟨a,f⟩,g⟩,c⟩,d⟩,_⟩:=hh;exact h ⟨a,f,g,c,d⟩
theorem Ur (h:¬tV e x):x.1≤e∨(¬x.1≤e∧x.1<0)∨(¬x.1≤e∧¬x.1<0∧65536≤x.1)∨(¬x.1≤e∧¬x.1<0∧¬65536≤x.1∧x.2<1)∨(¬x.1≤e∧¬x.1<0∧¬65536≤x.1∧¬x.2<1∧65536-x.1<x.2):=by
 unfold tV at h;omega
theorem dw.at (h:dw w v l) (f:l[k]?=M x):
  ∃b o c,v=.slice (M ⟨b,o,J⟩) l.length c∧bT x.1∧bT x.2∧∀W,Below w.heap.size w W→W.cell? ⟨b,o+k*2,J⟩=M (N U x.1)∧W.cell? ⟨b,o+k*2+1,J⟩=M (N U x.2):=by
 obtain⟨a,c,rfl,t,s,u,j⟩:=h;obtain⟨b,o,rfl,m⟩:=j (by rintro rfl;simp at f);obtain⟨r,q,⟨rfl,w1,i⟩,d⟩:=m k x f;exact⟨b,o,c,rfl,w1,i,fun W g=>⟨cell_keep g (d 0 _ rfl),cell_keep g (d 1 _ rfl)⟩⟩
theorem mT (v:Value) (l:List (Int×Int)) (w:World) (L:dw w v l) (V:Bool) (hV:Hid (aG (-1) l=V)):
  Calls Tryz.prog 94 #[v] w (aj w V):=by
 have HL:=hid L;obtain⟨a,c,rfl,dM,cj,-⟩:=id L;obtain⟨n,O⟩:=gE l.length;have z:=hid O;rw[O] at dM ⊢;clear L O;go_enter Tryz.func94,Tryz.ntmps94;go_wp2_with fail;go_loopw [3,4] (fun ev P wr=>∃(k:Nat) (e:Int),k≤n∧ev=N U e∧P=N U (k:Int)∧-1≤e∧e≤65536∧Hid (aG e (l.drop k)=V)∧Below w.heap.size w wr) (fun _ P _=>n- (intOf P).toNat)
 case atStart=>exact⟨0,-1,Nat.zero_le _,rfl,rfl,by decide,by decide,hV.out,Below.refl _ _⟩
 case round=>
  obtain⟨k,e,hk,rfl,rfl,Oa,ad,D,i⟩:=hrel;have Z:(0:Int)≤(k:Int):=Int.natCast_nonneg _;have nU:n≤9223372036854775807:=by unfold maxLen at cj;omega
  by_cases Q:k<n
  ·obtain ⟨x,C⟩:=gs (l:=l) z.out Q
   obtain⟨b,o,c',R,w1,T,S⟩:=HL.out.at C;rw[z.out] at R;simp only[Value.slice.injEq,true_and] at R;obtain⟨rfl,rfl⟩:=R;have ak:(k:Int)<(n:Int):=by omega
   obtain⟨y0,Y⟩:=S wr i;have I:l.drop k=x::l.drop (k+1):=by
    rw[List.drop_eq_getElem_cons (by have:=z.out;omega)];congr 1;rw[List.getElem?_eq_getElem (by have:=z.out;omega)] at C;exact Option.some.inj C
   have r:=D.out;rw[I] at r;obtain⟨d,q⟩:=x;dsimp only at y0 Y w1 T;by_cases B:tV e (d,q)
   ·rw [ew B] at r
    obtain⟨g,j,m,s,E⟩:=B;dsimp only at g j m s E r;have a1:decide (d≤e)=false:=decide_eq_false g;have G:decide (d<0)=false:=decide_eq_false j;have K:decide (65536≤d)=false:=decide_eq_false m;have X:decide (q<1)=false:=decide_eq_false s;obtain⟨f,A⟩:∃f,65536-d=f:=⟨_,rfl⟩
    have a5:decide (f<q)=false:=decide_eq_false (by omega);have s1:IntKind.i64.wrap (65536-d)=f:=(IntWalk.i64_in _ (by omega)).trans A;obtain⟨F,t⟩:∃e,d+q=e:=⟨_,rfl⟩
    have s2:IntKind.i64.wrap (d+q)=F:=(IntWalk.i64_in _ (by omega)).trans t;have y: -1≤F∧F≤65536:=by omega
    rw[t] at r;have TP:=hid r;clear g j m s E A t r D C I S w1 T;go_upto_region 5 with(fail)
    go_quiet (fail);have RM:Below w.heap.size w (wr.drewN nq):=below_drewN i _;have Uf:(wr.drewN nq).cell? ⟨b,o+k*2,J⟩=M (N U d):=cell_keep (below_drewN (Below.refl _ _) _) y0;have ab:(wr.drewN nq).cell? ⟨b,o+k*2+1,J⟩=M (N U q):=cell_keep (below_drewN (Below.refl _ _) _) Y;generalize wr.drewN nq=wq at*;go_upto_region 7 with(fail)
    go_quiet (fail);go_wp2;go_roundw
    case rel=>exact⟨k+1,F,by omega,rfl,by go_num,y.1,y.2,TP.out,below_drewN RM _⟩
    case measure=>simp [intOf];omega
   ·rw [eJ B] at r
    have u:Hid (V=false):=r.symm;have W:=Ur B;dsimp only at W;clear B r D C I S;rcases W with g|⟨g,j⟩|⟨g,j,m⟩|⟨g,j,m,s⟩|⟨g,j,m,s,E⟩
    ·have a1:decide (d≤e)=true:=decide_eq_true g
     clear g;go_upto_region 5 with(fail);go_quiet (fail);go_wp2;go_ret;exact⟨ret_bool u.out.symm,below_drewN i _⟩
    ·have a1:decide (d≤e)=false:=decide_eq_false g
     have G:decide (d<0)=true:=decide_eq_true j;clear g j;go_upto_region 5 with(fail);go_quiet (fail);go_wp2;go_ret;exact⟨ret_bool u.out.symm,below_drewN i _⟩
    ·have a1:decide (d≤e)=false:=decide_eq_false g
     have G:decide (d<0)=false:=decide_eq_false j;have K:decide (65536≤d)=true:=decide_eq_true m;clear g j m;go_upto_region 5 with(fail);go_quiet (fail);go_wp2;go_ret;exact⟨ret_bool u.out.symm,below_drewN i _⟩
    ·have a1:decide (d≤e)=false:=decide_eq_false g
     have G:decide (d<0)=false:=decide_eq_false j;have K:decide (65536≤d)=false:=decide_eq_false m;have X:decide (q<1)=true:=decide_eq_true s;clear g j m s;go_upto_region 5 with(fail);go_quiet (fail);go_wp2;go_ret;exact⟨ret_bool u.out.symm,below_drewN i _⟩
    ·have a1:decide (d≤e)=false:=decide_eq_false g
     have G:decide (d<0)=false:=decide_eq_false j;have K:decide (65536≤d)=false:=decide_eq_false m;have X:decide (q<1)=false:=decide_eq_false s;obtain⟨f,A⟩:∃f,65536-d=f:=⟨_,rfl⟩
     have a5:decide (f<q)=true:=decide_eq_true (by omega);have s1:IntKind.i64.wrap (65536-d)=f:=(IntWalk.i64_in _ (by omega)).trans A;clear g j m s E A;go_upto_region 5 with(fail);go_quiet (fail);go_wp2;go_ret;exact⟨ret_bool u.out.symm,below_drewN i _⟩
  ·obtain rfl:k=n:=by omega
   have u:Hid (true=V):=by
    have g:=D.out;rw[List.drop_eq_nil_of_le (by rw[z.out];exact Nat.le_refl _)] at g;exact g
   clear D;go_wp2;go_ret;exact⟨ret_bool u.out,i⟩
theorem jk {e:Int}:∀{l:List (Int×Int)},aG e l=true→∀x∈l,0≤x.1∧x.1<65536∧1≤x.2∧x.2≤65536-x.1
 |[],_,x,a=>by cases a
 |r::l,h,x,a=>by
  by_cases c:tV e r
  ·rw [ew c] at h
   rcases List.mem_cons.1 a with rfl|a
   ·obtain ⟨d,j,i,f,g⟩:=c
    omega
   ·exact jk h x a
  ·rw [eJ c] at h
   cases h
def lu (w:World) (b p:Int) (r:Ending) (w':World):Prop:=∃V:Bool,r=Z (.bool V)∧Hid (V=true↔aU b p)∧Below w.heap.size w w'
theorem lu.mk (V:Bool) (h:V=true↔aU b p) (a:Below w.heap.size w w'):lu w b p (Z (.bool V)) w':=⟨V,rfl,h,a⟩
theorem kH (b p:Int) (w:World):Calls Tryz.prog 93 #[.agg #[N U b,N U p]] w (lu w b p):=by
 go_enter Tryz.func93,Tryz.ntmps93;go_wp2_with fail;refine(FL _).mono ?_;rintro r w1 ⟨v,rfl,d,a⟩;obtain⟨g,c,rfl,P,J,B⟩:=wL d (by decide);have K:=hid B;have R:=hpCell (hpKeep (hpNew w _) a) 0;have O:=hpCell (hpKeep (hpNew w _) a) 1;unfold maxLen at J;have o:=bt (bal' w _) a (Nat.le_refl _);clear B d a;go_wp2;go_loopw [4] (fun i wr=>∃k:Nat,k≤24∧i=N U k∧Hid (∀j,j<k→lE[j]?≠some (b,p))∧∃n,wr=w1.drewN n) (fun i _=>24- (intOf i).toNat)
 case atStart=>exact⟨0,by omega,rfl,fun j s=>absurd s (by omega),0,rfl⟩
 case round=>
  obtain⟨k,Q,rfl,A,F,rfl⟩:=hrel;by_cases z:k<24
  ·have G:(k:Int)<24:=by omega
   obtain⟨x,y⟩:∃x,lE[k]?=M x:=⟨_,List.getElem?_eq_getElem (show k<lE.length by rw[wW];exact z)⟩
   obtain⟨S,L⟩:=K.out k x y;have C:=hid y;clear y;obtain⟨q,t⟩:=x;by_cases f:q=b∧t=p
   ·obtain ⟨d1,d2⟩:(q==b)=true∧(t==p)=true:=⟨by rw[beq_iff_eq];exact f.1,by rw[beq_iff_eq];exact f.2⟩
    have m:=hid f;clear f;go_wp2;go_quiet (fail);go_wp2;go_ret;exact lu.mk true ⟨fun _=>by have:=Kj (List.mem_of_getElem? C.out);rw[←m.out.1,←m.out.2];exact this,fun _=>rfl⟩ (below_drewN (below_drewN o _) _)
   ·have E:Hid (∀j,j<k+1→lE[j]?≠some (b,p)):=by
     intro j s e;by_cases D:j=k
     ·subst D
      rw[C.out] at e;cases e;exact f ⟨rfl,rfl⟩
     ·exact A.out j (by omega) e
    rcases (show (q==b)=false∨((q==b)=true∧(t==p)=false) by
     by_cases u:q=b
     ·exact .inr ⟨by rw[beq_iff_eq];exact u,by rw[beq_eq_false_iff_ne];exact fun I=>f ⟨u,I⟩⟩
     ·exact .inl (by rw[beq_eq_false_iff_ne];exact u)) with d1|⟨d1,d2⟩
    all_goals
     clear f;go_wp2;go_quiet (fail);go_wp2;go_roundw
     case rel=>exact⟨k+1,by omega,by go_num,E,F+nq,rfl⟩
     case measure=>simp [intOf];omega
  ·obtain rfl:k=24:=by omega
   go_wp2;go_ret;refine lu.mk false ⟨fun e=>(by cases e),fun h=>?_⟩ (below_drewN o _);obtain⟨j,s⟩:=List.getElem?_of_mem (Fe h);exact absurd s (A.out j (by have:=(List.getElem?_eq_some_iff.1 s).1;rw[wW] at this;exact this))
