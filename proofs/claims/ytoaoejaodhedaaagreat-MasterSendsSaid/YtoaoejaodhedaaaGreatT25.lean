import Derived.Test.YtoaoejaodhedaaaGreatT12
namespace Go.Proofs.YtoaoejaodhedaaaGreat
open Go.RowKit
open Value renaming slice→J,int→U
open Option renaming none→M,some→N
open IntKind renaming i64→Z
open Obj renaming cells→K
open Ending renaming returned→O
set_option maxHeartbeats 3200000
set_option maxRecDepth 100000
variable {p:Prop}
def fP (w:World) (V1 V2:Bool) (qf qa qq qc qo fn ar:Int) (da:Option Addr) (dn dc:Nat) (code level:Int) (more:Bool) (next:Int) (oa:Option Addr) (on oc:Nat):Prop:=
 (∀W,Calls Tryz.prog 121 #[.agg #[U Z qf,U Z qa,U Z qq,U Z qc,U Z qo]] W fun r w'=>r=O (.bool V1)∧Below W.heap.size W w')∧
 (∀W,Below w.heap.size w W→Calls Tryz.prog 197 #[.agg #[U Z fn,U Z ar,J da dn dc,U Z code,U Z level,.bool more,U Z next,J oa on oc]] W fun r w'=>r=O (.bool V2)∧Below W.heap.size W w')
theorem EL (w:World) (j k:Bool) (b g e f i fn ar:Int) (da:Option Addr) (dn dc:Nat) (code level:Int) (more:Bool) (next:Int) (oa:Option Addr) (on oc:Nat)
  (H:Hid (fP w j k b g e f i fn ar da dn dc code level more next oa on oc)) (u:j=false∨k=false∨¬b=fn):
  Calls Tryz.prog 177 #[.agg #[U Z b,U Z g,U Z e,U Z f,U Z i],.agg #[U Z fn,U Z ar,J da dn dc,U Z code,U Z level,.bool more,U Z next,J oa on oc]] w fun r y=>r=O (.bool false)∧Below w.heap.size w y:=by
 have n:∀X Y,Below w.heap.size w ((w.alloc X).alloc Y):=fun X Y=>bta (bal' w X) (Nat.le_refl _) Y
 have t:=hid (show ((w.alloc (K #[U Z b,U Z g,U Z e,U Z f,U Z i] 45)).alloc (K #[U Z fn,U Z ar,J da dn dc,U Z code,U Z level,.bool more,U Z next,J oa on oc] 53)).heap[w.heap.size]?=N (K #[U Z b,U Z g,U Z e,U Z f,U Z i] 45)∧((w.alloc (K #[U Z b,U Z g,U Z e,U Z f,U Z i] 45)).alloc (K #[U Z fn,U Z ar,J da dn dc,U Z code,U Z level,.bool more,U Z next,J oa on oc] 53)).heap[w.heap.size+1]?=N (K #[U Z fn,U Z ar,J da dn dc,U Z code,U Z level,.bool more,U Z next,J oa on oc] 53) from ⟨hpKeep (hpNew w _) (bal' _ _),by have:=hpNew (w.alloc (K #[U Z b,U Z g,U Z e,U Z f,U Z i] 45)) (K #[U Z fn,U Z ar,J da dn dc,U Z code,U Z level,.bool more,U Z next,J oa on oc] 53);simpa using this⟩);have o:(j=false)∨(j=true∧k=false)∨(j=true∧k=true∧(b !=fn)=true):=by
  cases j with
  |false=>exact .inl rfl
  |true=>
   cases k with
   |false=>exact .inr (.inl ⟨rfl,rfl⟩)
   |true=>exact .inr (.inr ⟨rfl,rfl,by rcases u with h|h|h<;>first|(cases h;done)|simpa using h⟩)
 clear u;rcases o with rfl|⟨rfl,rfl⟩|⟨rfl,rfl,F⟩
 ·go_enter Tryz.func177,Tryz.ntmps177
  go_wp2_with fail;refine(H.out.1 _).mono ?_;rintro r w1 ⟨rfl,a⟩;go_wp2;go_ret;exact⟨rfl,bt (n _ _) a (Nat.le_refl _)⟩
 all_goals
  go_enter Tryz.func177,Tryz.ntmps177;go_wp2_with fail;refine(H.out.1 _).mono ?_;rintro r w1 ⟨rfl,a⟩;have s:=hpKeep t.out.1 a;have m:=hpKeep t.out.2 a;have c:=bt (n _ _) a (Nat.le_refl _);obtain⟨B,v,z,x,D,E,C,A⟩:=kA8 m
  clear a n;go_wp2_with fail;refine(H.out.2 _ c).mono ?_;rintro r q ⟨rfl,d⟩;have y0:q.cell? ⟨w.heap.size,0,M⟩=N (U Z b):=hpCell (hpKeep s d) 0;have G:q.cell? ⟨w.heap.size+1,0,M⟩=N (U Z fn):=hpCell (hpKeep m d) 0;have l:=bt c d (Nat.le_refl _);clear B v z x D E C A s m;go_wp2;go_ret;exact⟨rfl,l⟩
theorem Ho (w:World) (g e f i fn ar:Int) (da:Option Addr) (dn dc:Nat) (code level:Int) (more:Bool) (next:Int) (oa:Option Addr) (on oc:Nat)
  (H:Hid (fP w true true fn g e f i fn ar da dn dc code level more next oa on oc)) (E:(ar !=0)=true):
  Calls Tryz.prog 177 #[.agg #[U Z fn,U Z g,U Z e,U Z f,U Z i],.agg #[U Z fn,U Z ar,J da dn dc,U Z code,U Z level,.bool more,U Z next,J oa on oc]] w fun r A=>r=O (.bool true)∧Below w.heap.size w A:=by
 have n:∀X Y,Below w.heap.size w ((w.alloc X).alloc Y):=fun X Y=>bta (bal' w X) (Nat.le_refl _) Y
 have s:=hid (show ((w.alloc (K #[U Z fn,U Z g,U Z e,U Z f,U Z i] 45)).alloc (K #[U Z fn,U Z ar,J da dn dc,U Z code,U Z level,.bool more,U Z next,J oa on oc] 53)).heap[w.heap.size]?=N (K #[U Z fn,U Z g,U Z e,U Z f,U Z i] 45)∧((w.alloc (K #[U Z fn,U Z g,U Z e,U Z f,U Z i] 45)).alloc (K #[U Z fn,U Z ar,J da dn dc,U Z code,U Z level,.bool more,U Z next,J oa on oc] 53)).heap[w.heap.size+1]?=N (K #[U Z fn,U Z ar,J da dn dc,U Z code,U Z level,.bool more,U Z next,J oa on oc] 53) from ⟨hpKeep (hpNew w _) (bal' _ _),by have:=hpNew (w.alloc (K #[U Z fn,U Z g,U Z e,U Z f,U Z i] 45)) (K #[U Z fn,U Z ar,J da dn dc,U Z code,U Z level,.bool more,U Z next,J oa on oc] 53);simpa using this⟩);go_enter Tryz.func177,Tryz.ntmps177;go_wp2_with fail;refine(H.out.1 _).mono ?_;rintro r w1 ⟨rfl,b⟩;have j:=hpKeep s.out.1 b;have d:=hpKeep s.out.2 b;have a:=bt (n _ _) b (Nat.le_refl _);obtain⟨v,m,t,o,y,z,x,u⟩:=kA8 d
 clear b n;go_wp2_with fail;refine(H.out.2 _ a).mono ?_;rintro r B ⟨rfl,c⟩;have q:=hpKeep j c;have l:=hpKeep d c;have k:=bt a c (Nat.le_refl _);clear v m t o y z x u j d a c;obtain⟨v,m,t,o,y,z,x,u⟩:=kA8 l
 obtain⟨y0,G,F,C,D⟩:=kA5 q
 clear q l;go_wp2;go_ret;exact⟨rfl,k⟩
theorem EW (w:World) (g e f i:Int) (da:Option Addr) (dn dc:Nat) (code level:Int) (more:Bool) (next:Int) (oa:Option Addr) (on oc:Nat)
  (H:Hid (fP w true true 17 g e f i 17 0 da dn dc code level more next oa on oc)):
  Calls Tryz.prog 177 #[.agg #[U Z 17,U Z g,U Z e,U Z f,U Z i],.agg #[U Z 17,U Z 0,J da dn dc,U Z code,U Z level,.bool more,U Z next,J oa on oc]] w fun r A=>r=O (.bool true)∧Below w.heap.size w A:=by
 have n:∀X Y,Below w.heap.size w ((w.alloc X).alloc Y):=fun X Y=>bta (bal' w X) (Nat.le_refl _) Y
 have s:=hid (show ((w.alloc (K #[U Z 17,U Z g,U Z e,U Z f,U Z i] 45)).alloc (K #[U Z 17,U Z 0,J da dn dc,U Z code,U Z level,.bool more,U Z next,J oa on oc] 53)).heap[w.heap.size]?=N (K #[U Z 17,U Z g,U Z e,U Z f,U Z i] 45)∧((w.alloc (K #[U Z 17,U Z g,U Z e,U Z f,U Z i] 45)).alloc (K #[U Z 17,U Z 0,J da dn dc,U Z code,U Z level,.bool more,U Z next,J oa on oc] 53)).heap[w.heap.size+1]?=N (K #[U Z 17,U Z 0,J da dn dc,U Z code,U Z level,.bool more,U Z next,J oa on oc] 53) from ⟨hpKeep (hpNew w _) (bal' _ _),by have:=hpNew (w.alloc (K #[U Z 17,U Z g,U Z e,U Z f,U Z i] 45)) (K #[U Z 17,U Z 0,J da dn dc,U Z code,U Z level,.bool more,U Z next,J oa on oc] 53);simpa using this⟩);go_enter Tryz.func177,Tryz.ntmps177;go_wp2_with fail;refine(H.out.1 _).mono ?_;rintro r w1 ⟨rfl,b⟩;have j:=hpKeep s.out.1 b;have d:=hpKeep s.out.2 b;have a:=bt (n _ _) b (Nat.le_refl _);obtain⟨v,m,t,o,y,z,x,u⟩:=kA8 d
 clear b n;go_wp2_with fail;refine(H.out.2 _ a).mono ?_;rintro r B ⟨rfl,c⟩;have q:=hpKeep j c;have l:=hpKeep d c;have k:=bt a c (Nat.le_refl _);clear v m t o y z x u j d a c;obtain⟨v,m,t,o,y,z,x,u⟩:=kA8 l
 obtain⟨y0,F,E,C,D⟩:=kA5 q
 clear q l;go_wp2;go_ret;exact⟨rfl,k⟩
theorem Cv (w:World) (g b f i:Int) (da:Option Addr) (dn dc:Nat) (code level:Int) (more:Bool) (next:Int) (oa:Option Addr) (on oc:Nat)
  (H:Hid (fP w true true 3 g b f i 3 0 da dn dc code level more next oa on oc)) (D:1≤b) (F:b≤2000) (V:Bool) (B:Hid (((dn:Int)==2*b)=V)):
  Calls Tryz.prog 177 #[.agg #[U Z 3,U Z g,U Z b,U Z f,U Z i],.agg #[U Z 3,U Z 0,J da dn dc,U Z code,U Z level,.bool more,U Z next,J oa on oc]] w fun r A=>r=O (.bool V)∧Below w.heap.size w A:=by
 have n:∀X Y,Below w.heap.size w ((w.alloc X).alloc Y):=fun X Y=>bta (bal' w X) (Nat.le_refl _) Y
 have s:=hid (show ((w.alloc (K #[U Z 3,U Z g,U Z b,U Z f,U Z i] 45)).alloc (K #[U Z 3,U Z 0,J da dn dc,U Z code,U Z level,.bool more,U Z next,J oa on oc] 53)).heap[w.heap.size]?=N (K #[U Z 3,U Z g,U Z b,U Z f,U Z i] 45)∧((w.alloc (K #[U Z 3,U Z g,U Z b,U Z f,U Z i] 45)).alloc (K #[U Z 3,U Z 0,J da dn dc,U Z code,U Z level,.bool more,U Z next,J oa on oc] 53)).heap[w.heap.size+1]?=N (K #[U Z 3,U Z 0,J da dn dc,U Z code,U Z level,.bool more,U Z next,J oa on oc] 53) from ⟨hpKeep (hpNew w _) (bal' _ _),by have:=hpNew (w.alloc (K #[U Z 3,U Z g,U Z b,U Z f,U Z i] 45)) (K #[U Z 3,U Z 0,J da dn dc,U Z code,U Z level,.bool more,U Z next,J oa on oc] 53);simpa using this⟩);go_enter Tryz.func177,Tryz.ntmps177;go_wp2_with fail;refine(H.out.1 _).mono ?_;rintro r w1 ⟨rfl,c⟩;have j:=hpKeep s.out.1 c;have e:=hpKeep s.out.2 c;have a:=bt (n _ _) c (Nat.le_refl _);obtain⟨v,m,t,o,y,z,x,u⟩:=kA8 e
 clear c n;go_wp2_with fail;refine(H.out.2 _ a).mono ?_;rintro r C ⟨rfl,d⟩;have q:=hpKeep j d;have l:=hpKeep e d;have k:=bt a d (Nat.le_refl _);clear v m t o y z x u j e a d;obtain⟨v,m,t,o,y,z,x,u⟩:=kA8 l
 obtain⟨y0,L,I,E,G⟩:=kA5 q
 clear q l;go_wp2;go_ret;exact⟨ret_bool B.out,k⟩
theorem Cy (w:World) (g b f i:Int) (da:Option Addr) (dn dc:Nat) (code level:Int) (more:Bool) (next:Int) (oa:Option Addr) (on oc:Nat)
  (H:Hid (fP w true true 4 g b f i 4 0 da dn dc code level more next oa on oc)) (D:1≤b) (F:b≤2000) (V:Bool) (B:Hid (((dn:Int)==2*b)=V)):
  Calls Tryz.prog 177 #[.agg #[U Z 4,U Z g,U Z b,U Z f,U Z i],.agg #[U Z 4,U Z 0,J da dn dc,U Z code,U Z level,.bool more,U Z next,J oa on oc]] w fun r A=>r=O (.bool V)∧Below w.heap.size w A:=by
 have n:∀X Y,Below w.heap.size w ((w.alloc X).alloc Y):=fun X Y=>bta (bal' w X) (Nat.le_refl _) Y
 have s:=hid (show ((w.alloc (K #[U Z 4,U Z g,U Z b,U Z f,U Z i] 45)).alloc (K #[U Z 4,U Z 0,J da dn dc,U Z code,U Z level,.bool more,U Z next,J oa on oc] 53)).heap[w.heap.size]?=N (K #[U Z 4,U Z g,U Z b,U Z f,U Z i] 45)∧((w.alloc (K #[U Z 4,U Z g,U Z b,U Z f,U Z i] 45)).alloc (K #[U Z 4,U Z 0,J da dn dc,U Z code,U Z level,.bool more,U Z next,J oa on oc] 53)).heap[w.heap.size+1]?=N (K #[U Z 4,U Z 0,J da dn dc,U Z code,U Z level,.bool more,U Z next,J oa on oc] 53) from ⟨hpKeep (hpNew w _) (bal' _ _),by have:=hpNew (w.alloc (K #[U Z 4,U Z g,U Z b,U Z f,U Z i] 45)) (K #[U Z 4,U Z 0,J da dn dc,U Z code,U Z level,.bool more,U Z next,J oa on oc] 53);simpa using this⟩);go_enter Tryz.func177,Tryz.ntmps177;go_wp2_with fail;refine(H.out.1 _).mono ?_;rintro r w1 ⟨rfl,c⟩;have j:=hpKeep s.out.1 c;have e:=hpKeep s.out.2 c;have a:=bt (n _ _) c (Nat.le_refl _);obtain⟨v,m,t,o,y,z,x,u⟩:=kA8 e
 clear c n;go_wp2_with fail;refine(H.out.2 _ a).mono ?_;rintro r C ⟨rfl,d⟩;have q:=hpKeep j d;have l:=hpKeep e d;have k:=bt a d (Nat.le_refl _);clear v m t o y z x u j e a d;obtain⟨v,m,t,o,y,z,x,u⟩:=kA8 l
 obtain⟨y0,L,I,E,G⟩:=kA5 q
 clear q l;go_wp2;go_ret;exact⟨ret_bool B.out,k⟩
theorem NB (h:p:=by
 have HH:=hid (show ((w.alloc (.cells #[.int .i64 1,.int .i64 qa,.int .i64 qq,.int .i64 qc,.int .i64 qo] 45)).alloc (.cells #[.int .i64 1,.int .i64 0,.slice da dn dc,.int .i64 code,.int .i64 level,.bool more,.int .i64 next,.slice oa on oc] 53)).heap[w.heap.size]?=some (.cells #[.int .i64 1,.int .i64 qa,.int .i64 qq,.int .i64 qc,.int .i64 qo] 45)∧((w.alloc (.cells #[.int .i64 1,.int .i64 qa,.int .i64 qq,.int .i64 qc,.int .i64 qo] 45)).alloc (.cells #[.int .i64 1,.int .i64 0,.slice da dn dc,.int .i64 code,.int .i64 level,.bool more,.int .i64 next,.slice oa on oc] 53)).heap[w.heap.size+1]?=some (.cells #[.int .i64 1,.int .i64 0,.slice da dn dc,.int .i64 code,.int .i64 level,.bool more,.int .i64 next,.slice oa on oc] 53) from ⟨hpKeep (hpNew w _) (bal' _ _),by have:=hpNew (w.alloc (.cells #[.int .i64 1,.int .i64 qa,.int .i64 qq,.int .i64 qc,.int .i64 qo] 45)) (.cells #[.int .i64 1,.int .i64 0,.slice da dn dc,.int .i64 code,.int .i64 level,.bool more,.int .i64 next,.slice oa on oc] 53);simpa using this⟩)
 go_enter Tryz.func177,Tryz.ntmps177
 go_wp2_with fail
 refine(H.out.1 _).mono ?_
 rintro r w1 ⟨rfl,hb1⟩
 have gQ1:=hpKeep HH.out.1 hb1
 have gR1:=hpKeep HH.out.2 hb1
 have hbw1:=bt (kB _ _) hb1 (Nat.le_refl _)
 obtain⟨e0,e1,e2,e3,e4,e5,e6,e7⟩:=kA8 gR1
 clear hb1 kB
 go_wp2_with fail
 refine(H.out.2 _ hbw1).mono ?_
 rintro r w2 ⟨rfl,hb2⟩
 have gQ:=hpKeep gQ1 hb2
 have gR:=hpKeep gR1 hb2
 have hbw2:=bt hbw1 hb2 (Nat.le_refl _)
 clear e0 e1 e2 e3 e4 e5 e6 e7 gQ1 gR1 hbw1 hb2
 obtain⟨e0,e1,e2,e3,e4,e5,e6,e7⟩:=kA8 gR
 obtain⟨y0,y1,y2,y3,y4⟩:=kA5 gQ
 clear gQ gR
 go_wp2
 go_ret
 exact⟨rfl,hbw2⟩):p:=h
theorem Al (w:World) (qa qq qc qo:Int) (da:Option Addr) (dn dc:Nat) (code level:Int) (more:Bool) (next:Int) (oa:Option Addr) (on oc:Nat)
  (H:Hid (fP w true true 1 qa qq qc qo 1 0 da dn dc code level more next oa on oc)) (d:1≤qq) (b:qq≤2000) (c:((dn:Int) !=(qq+7)/8)=true):
  Calls Tryz.prog 177 #[.agg #[U Z 1,U Z qa,U Z qq,U Z qc,U Z qo],.agg #[U Z 1,U Z 0,J da dn dc,U Z code,U Z level,.bool more,U Z next,J oa on oc]] w fun r a=>r=O (.bool false)∧Below w.heap.size w a:=by
 have kB:∀X Y,Below w.heap.size w ((w.alloc X).alloc Y):=fun X Y=>bta (bal' w X) (Nat.le_refl _) Y
 exact NB
theorem Ac (w:World) (qa qq qc qo:Int) (da:Option Addr) (dn dc:Nat) (code level:Int) (more:Bool) (next:Int) (oa:Option Addr) (on oc:Nat)
  (H:Hid (fP w true true 1 qa qq qc qo 1 0 da dn dc code level more next oa on oc)) (e:1≤qq) (b:qq≤2000) (d:((dn:Int) !=(qq+7)/8)=false) (c:qq.tmod 8=0):
  Calls Tryz.prog 177 #[.agg #[U Z 1,U Z qa,U Z qq,U Z qc,U Z qo],.agg #[U Z 1,U Z 0,J da dn dc,U Z code,U Z level,.bool more,U Z next,J oa on oc]] w fun r a=>r=O (.bool true)∧Below w.heap.size w a:=by
 have kB:∀X Y,Below w.heap.size w ((w.alloc X).alloc Y):=fun X Y=>bta (bal' w X) (Nat.le_refl _) Y
 exact NB
theorem zR (w:World) (j c i k:Int) (b o dn dc:Nat) (code level:Int) (more:Bool) (next:Int) (oa:Option Addr) (on oc:Nat)
  (H:Hid (fP w true true 1 j c i k 1 0 (N ⟨b,o,M⟩) dn dc code level more next oa on oc)) (Q:1≤c) (h2:c≤2000) (F:((dn:Int) !=(c+7)/8)=false) (s:Nat) (P:c.tmod 8=s) (hs:1≤s) (R:s≤7) (S:((s:Int)==0)=false) (ha:1≤dn) (x:Int) (I:∀W,Below w.heap.size w W→W.cell? ⟨b,o+(dn-1),M⟩=N (U .u8 x)) (V:Bool) (G:Hid ((x/2^s==0)=V)):
  Calls Tryz.prog 177 #[.agg #[U Z 1,U Z j,U Z c,U Z i,U Z k],.agg #[U Z 1,U Z 0,J (N ⟨b,o,M⟩) dn dc,U Z code,U Z level,.bool more,U Z next,J oa on oc]] w fun r E=>r=O (.bool V)∧Below w.heap.size w E:=by
 have z1:IntKind.i64.wrap ((dn:Int)-1)=(dn:Int)-1:=IntWalk.i64_in _ (by rw[bne_eq_false_iff_eq] at F;omega);have q:∀X Y,Below w.heap.size w ((w.alloc X).alloc Y):=fun X Y=>bta (bal' w X) (Nat.le_refl _) Y
 have v:=hid (show ((w.alloc (K #[U Z 1,U Z j,U Z c,U Z i,U Z k] 45)).alloc (K #[U Z 1,U Z 0,J (N ⟨b,o,M⟩) dn dc,U Z code,U Z level,.bool more,U Z next,J oa on oc] 53)).heap[w.heap.size]?=N (K #[U Z 1,U Z j,U Z c,U Z i,U Z k] 45)∧((w.alloc (K #[U Z 1,U Z j,U Z c,U Z i,U Z k] 45)).alloc (K #[U Z 1,U Z 0,J (N ⟨b,o,M⟩) dn dc,U Z code,U Z level,.bool more,U Z next,J oa on oc] 53)).heap[w.heap.size+1]?=N (K #[U Z 1,U Z 0,J (N ⟨b,o,M⟩) dn dc,U Z code,U Z level,.bool more,U Z next,J oa on oc] 53) from ⟨hpKeep (hpNew w _) (bal' _ _),by have:=hpNew (w.alloc (K #[U Z 1,U Z j,U Z c,U Z i,U Z k] 45)) (K #[U Z 1,U Z 0,J (N ⟨b,o,M⟩) dn dc,U Z code,U Z level,.bool more,U Z next,J oa on oc] 53);simpa using this⟩);go_enter Tryz.func177,Tryz.ntmps177;go_wp2_with fail;refine(H.out.1 _).mono ?_;rintro r w1 ⟨rfl,d⟩;have l:=hpKeep v.out.1 d;have g:=hpKeep v.out.2 d;have a:=bt (q _ _) d (Nat.le_refl _);obtain⟨A,n,y,t,C,D,B,z⟩:=kA8 g
 clear d q;go_wp2_with fail;refine(H.out.2 _ a).mono ?_;rintro r L ⟨rfl,e⟩;have u:=hpKeep l e;have m:=hpKeep g e;have f:=bt a e (Nat.le_refl _);clear A n y t C D B z l g a e;obtain⟨A,n,y,t,C,D,B,z⟩:=kA8 m
 obtain⟨y0,y1,y2,T,y4⟩:=kA5 u
 clear u m;have tI:=I _ f;go_wp2;go_ret;exact⟨ret_bool G.out,f⟩
theorem Mj (h:p:=by
 have HH:=hid (show ((w.alloc (.cells #[.int .i64 2,.int .i64 qa,.int .i64 qq,.int .i64 qc,.int .i64 qo] 45)).alloc (.cells #[.int .i64 2,.int .i64 0,.slice da dn dc,.int .i64 code,.int .i64 level,.bool more,.int .i64 next,.slice oa on oc] 53)).heap[w.heap.size]?=some (.cells #[.int .i64 2,.int .i64 qa,.int .i64 qq,.int .i64 qc,.int .i64 qo] 45)∧((w.alloc (.cells #[.int .i64 2,.int .i64 qa,.int .i64 qq,.int .i64 qc,.int .i64 qo] 45)).alloc (.cells #[.int .i64 2,.int .i64 0,.slice da dn dc,.int .i64 code,.int .i64 level,.bool more,.int .i64 next,.slice oa on oc] 53)).heap[w.heap.size+1]?=some (.cells #[.int .i64 2,.int .i64 0,.slice da dn dc,.int .i64 code,.int .i64 level,.bool more,.int .i64 next,.slice oa on oc] 53) from ⟨hpKeep (hpNew w _) (bal' _ _),by have:=hpNew (w.alloc (.cells #[.int .i64 2,.int .i64 qa,.int .i64 qq,.int .i64 qc,.int .i64 qo] 45)) (.cells #[.int .i64 2,.int .i64 0,.slice da dn dc,.int .i64 code,.int .i64 level,.bool more,.int .i64 next,.slice oa on oc] 53);simpa using this⟩)
 go_enter Tryz.func177,Tryz.ntmps177
 go_wp2_with fail
 refine(H.out.1 _).mono ?_
 rintro r w1 ⟨rfl,hb1⟩
 have gQ1:=hpKeep HH.out.1 hb1
 have gR1:=hpKeep HH.out.2 hb1
 have hbw1:=bt (kB _ _) hb1 (Nat.le_refl _)
 obtain⟨e0,e1,e2,e3,e4,e5,e6,e7⟩:=kA8 gR1
 clear hb1 kB
 go_wp2_with fail
 refine(H.out.2 _ hbw1).mono ?_
 rintro r w2 ⟨rfl,hb2⟩
 have gQ:=hpKeep gQ1 hb2
 have gR:=hpKeep gR1 hb2
 have hbw2:=bt hbw1 hb2 (Nat.le_refl _)
 clear e0 e1 e2 e3 e4 e5 e6 e7 gQ1 gR1 hbw1 hb2
 obtain⟨e0,e1,e2,e3,e4,e5,e6,e7⟩:=kA8 gR
 obtain⟨y0,y1,y2,y3,y4⟩:=kA5 gQ
 clear gQ gR
 go_wp2
 go_ret
 exact⟨rfl,hbw2⟩):p:=h
theorem zp (w:World) (qa qq qc qo:Int) (da:Option Addr) (dn dc:Nat) (code level:Int) (more:Bool) (next:Int) (oa:Option Addr) (on oc:Nat)
  (H:Hid (fP w true true 2 qa qq qc qo 2 0 da dn dc code level more next oa on oc)) (d:1≤qq) (b:qq≤2000) (c:((dn:Int) !=(qq+7)/8)=true):
  Calls Tryz.prog 177 #[.agg #[U Z 2,U Z qa,U Z qq,U Z qc,U Z qo],.agg #[U Z 2,U Z 0,J da dn dc,U Z code,U Z level,.bool more,U Z next,J oa on oc]] w fun r a=>r=O (.bool false)∧Below w.heap.size w a:=by
 have kB:∀X Y,Below w.heap.size w ((w.alloc X).alloc Y):=fun X Y=>bta (bal' w X) (Nat.le_refl _) Y
 exact Mj
theorem zL (w:World) (qa qq qc qo:Int) (da:Option Addr) (dn dc:Nat) (code level:Int) (more:Bool) (next:Int) (oa:Option Addr) (on oc:Nat)
  (H:Hid (fP w true true 2 qa qq qc qo 2 0 da dn dc code level more next oa on oc)) (e:1≤qq) (b:qq≤2000) (d:((dn:Int) !=(qq+7)/8)=false) (c:qq.tmod 8=0):
  Calls Tryz.prog 177 #[.agg #[U Z 2,U Z qa,U Z qq,U Z qc,U Z qo],.agg #[U Z 2,U Z 0,J da dn dc,U Z code,U Z level,.bool more,U Z next,J oa on oc]] w fun r a=>r=O (.bool true)∧Below w.heap.size w a:=by
 have kB:∀X Y,Below w.heap.size w ((w.alloc X).alloc Y):=fun X Y=>bta (bal' w X) (Nat.le_refl _) Y
 exact Mj
theorem zD (w:World) (j c i k:Int) (b o dn dc:Nat) (code level:Int) (more:Bool) (next:Int) (oa:Option Addr) (on oc:Nat)
  (H:Hid (fP w true true 2 j c i k 2 0 (N ⟨b,o,M⟩) dn dc code level more next oa on oc)) (Q:1≤c) (h2:c≤2000) (F:((dn:Int) !=(c+7)/8)=false) (s:Nat) (P:c.tmod 8=s) (hs:1≤s) (R:s≤7) (S:((s:Int)==0)=false) (ha:1≤dn) (x:Int) (I:∀W,Below w.heap.size w W→W.cell? ⟨b,o+(dn-1),M⟩=N (U .u8 x)) (V:Bool) (G:Hid ((x/2^s==0)=V)):
  Calls Tryz.prog 177 #[.agg #[U Z 2,U Z j,U Z c,U Z i,U Z k],.agg #[U Z 2,U Z 0,J (N ⟨b,o,M⟩) dn dc,U Z code,U Z level,.bool more,U Z next,J oa on oc]] w fun r E=>r=O (.bool V)∧Below w.heap.size w E:=by
 have z1:IntKind.i64.wrap ((dn:Int)-1)=(dn:Int)-1:=IntWalk.i64_in _ (by rw[bne_eq_false_iff_eq] at F;omega);have q:∀X Y,Below w.heap.size w ((w.alloc X).alloc Y):=fun X Y=>bta (bal' w X) (Nat.le_refl _) Y
 have v:=hid (show ((w.alloc (K #[U Z 2,U Z j,U Z c,U Z i,U Z k] 45)).alloc (K #[U Z 2,U Z 0,J (N ⟨b,o,M⟩) dn dc,U Z code,U Z level,.bool more,U Z next,J oa on oc] 53)).heap[w.heap.size]?=N (K #[U Z 2,U Z j,U Z c,U Z i,U Z k] 45)∧((w.alloc (K #[U Z 2,U Z j,U Z c,U Z i,U Z k] 45)).alloc (K #[U Z 2,U Z 0,J (N ⟨b,o,M⟩) dn dc,U Z code,U Z level,.bool more,U Z next,J oa on oc] 53)).heap[w.heap.size+1]?=N (K #[U Z 2,U Z 0,J (N ⟨b,o,M⟩) dn dc,U Z code,U Z level,.bool more,U Z next,J oa on oc] 53) from ⟨hpKeep (hpNew w _) (bal' _ _),by have:=hpNew (w.alloc (K #[U Z 2,U Z j,U Z c,U Z i,U Z k] 45)) (K #[U Z 2,U Z 0,J (N ⟨b,o,M⟩) dn dc,U Z code,U Z level,.bool more,U Z next,J oa on oc] 53);simpa using this⟩);go_enter Tryz.func177,Tryz.ntmps177;go_wp2_with fail;refine(H.out.1 _).mono ?_;rintro r w1 ⟨rfl,d⟩;have l:=hpKeep v.out.1 d;have g:=hpKeep v.out.2 d;have a:=bt (q _ _) d (Nat.le_refl _);obtain⟨A,n,y,t,C,D,B,z⟩:=kA8 g
 clear d q;go_wp2_with fail;refine(H.out.2 _ a).mono ?_;rintro r L ⟨rfl,e⟩;have u:=hpKeep l e;have m:=hpKeep g e;have f:=bt a e (Nat.le_refl _);clear A n y t C D B z l g a e;obtain⟨A,n,y,t,C,D,B,z⟩:=kA8 m
 obtain⟨y0,y1,y2,T,y4⟩:=kA5 u
 clear u m;have tI:=I _ f;go_wp2;go_ret;exact⟨ret_bool G.out,f⟩
theorem Ce (w:World) (g f d i:Int) (da:Option Addr) (dn dc:Nat) (code level:Int) (more:Bool) (next:Int) (oa:Option Addr) (on oc:Nat)
  (H:Hid (fP w true true 43 g f d i 43 0 da dn dc code level more next oa on oc)) (D:(code==d)=false):
  Calls Tryz.prog 177 #[.agg #[U Z 43,U Z g,U Z f,U Z d,U Z i],.agg #[U Z 43,U Z 0,J da dn dc,U Z code,U Z level,.bool more,U Z next,J oa on oc]] w fun r A=>r=O (.bool false)∧Below w.heap.size w A:=by
 have n:∀X Y,Below w.heap.size w ((w.alloc X).alloc Y):=fun X Y=>bta (bal' w X) (Nat.le_refl _) Y
 have s:=hid (show ((w.alloc (K #[U Z 43,U Z g,U Z f,U Z d,U Z i] 45)).alloc (K #[U Z 43,U Z 0,J da dn dc,U Z code,U Z level,.bool more,U Z next,J oa on oc] 53)).heap[w.heap.size]?=N (K #[U Z 43,U Z g,U Z f,U Z d,U Z i] 45)∧((w.alloc (K #[U Z 43,U Z g,U Z f,U Z d,U Z i] 45)).alloc (K #[U Z 43,U Z 0,J da dn dc,U Z code,U Z level,.bool more,U Z next,J oa on oc] 53)).heap[w.heap.size+1]?=N (K #[U Z 43,U Z 0,J da dn dc,U Z code,U Z level,.bool more,U Z next,J oa on oc] 53) from ⟨hpKeep (hpNew w _) (bal' _ _),by have:=hpNew (w.alloc (K #[U Z 43,U Z g,U Z f,U Z d,U Z i] 45)) (K #[U Z 43,U Z 0,J da dn dc,U Z code,U Z level,.bool more,U Z next,J oa on oc] 53);simpa using this⟩);go_enter Tryz.func177,Tryz.ntmps177;go_wp2_with fail;refine(H.out.1 _).mono ?_;rintro r w1 ⟨rfl,b⟩;have j:=hpKeep s.out.1 b;have e:=hpKeep s.out.2 b;have a:=bt (n _ _) b (Nat.le_refl _);obtain⟨v,m,t,o,y,z,x,u⟩:=kA8 e
 clear b n;go_wp2_with fail;refine(H.out.2 _ a).mono ?_;rintro r B ⟨rfl,c⟩;have q:=hpKeep j c;have l:=hpKeep e c;have k:=bt a c (Nat.le_refl _);clear v m t o y z x u j e a c;obtain⟨v,m,t,o,y,z,x,u⟩:=kA8 l
 obtain⟨y0,G,F,C,E⟩:=kA5 q
 clear q l;go_wp2;go_ret;exact⟨rfl,k⟩
