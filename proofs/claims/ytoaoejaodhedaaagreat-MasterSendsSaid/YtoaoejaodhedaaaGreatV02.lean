import Derived.Test.YtoaoejaodhedaaaGreatV01
namespace Go.Proofs.YtoaoejaodhedaaaGreat
open Go.RowKit
open Option renaming none→V,some→J
set_option maxHeartbeats 1600000
set_option maxRecDepth 100000
variable {a b bs c cap dx i j k m s:Nat} {t t0 t1 t2 u v:Nat→Kc} {w:World}
def fV (x:UInt8):List Bool:=(List.range 8).map fun k=>x.toNat.testBit k
def bitsOf (l:List UInt8):List Bool:=l.flatMap fV
def wv (l:List Bool):List Value:=l.map .bool
theorem FH (l:List Bool):(wv l).length=l.length:=by simp [wv]
theorem FG (l k:List Bool):wv (l++k)=wv l++wv k:=by simp [wv]
theorem MI (x:UInt8):x.toNat<256:=x.toNat_lt
theorem eE (x:UInt8):(fV x).length=8:=by simp [fV]
theorem mw (l:List UInt8):(bitsOf l).length=8*l.length:=by
 induction l with
 |nil=>rfl
 |cons x l ih=>simp only[bitsOf,List.flatMap_cons,List.length_append,eE,List.length_cons] at*;omega
def jA (l:List UInt8) (k j:Nat):List Bool:=bitsOf (l.take k)++(fV (l.getD k 0)).take j
theorem DA (l:List UInt8) (k j:Nat) (d:j<8):jA l k (j+1)=jA l k j++[(l.getD k 0).toNat.testBit j]:=by
 unfold jA;rw[List.append_assoc,List.take_succ_eq_append_getElem (by rw[eE];exact d)];simp [fV]
theorem Dz (l:List UInt8) (k:Nat) (d:k<l.length):jA l k 8=jA l (k+1) 0:=by
 unfold jA;have e:(fV (l.getD k 0)).take 8=fV (l.getD k 0):=List.take_of_length_le (by rw[eE];exact Nat.le_refl 8);rw[e,List.take_succ_eq_append_getElem d];simp [bitsOf,List.getD,d,-List.take_append_getElem]
theorem FE (l:List UInt8):jA l l.length 0=bitsOf l:=by simp [jA]
theorem WC:(Tryz.prog.info? 4).map (fun i=>(i.zero,i.size,i.bytes))=J (J (.bool false),1,1):=by kernel_rfl
theorem KB (x:Nat) (j:Nat):x/2^j%2=(x.testBit j).toNat:=by
 rw[Nat.testBit_eq_decide_div_mod_eq];rcases Nat.mod_two_eq_zero_or_one (x/2^j) with h|h<;>simp [h]
theorem MB (v:Value) (l:List UInt8) (w:World) (n:Bs w v l) (hl:l.length≤1000):
  Calls Tryz.prog 189 #[v] w fun r M=>∃y,r=.returned y∧M.ownsRow w.heap.size 4 1 y (8*l.length) (wv (bitsOf l))∧Below w.heap.size w M:=by
 obtain⟨i4,hi,D,E,F⟩:=info_parts WC;have X:=n;obtain⟨a,c,rfl,hc,S,Y,_⟩:=X;unfold maxLen at S;have Q:=hid n;clear n;go_enter Tryz.func189,Tryz.ntmps189;go_wp2;go_loopw [3,4,5] (fun v i _ wr=>∃k:Nat,k≤l.length∧i=.int .i64 k∧wr.ownsRow w.heap.size 4 1 v (8*k) (wv (jA l k 0))∧Below w.heap.size w wr) (fun _ i _ _=>l.length- (intOf i).toNat)
 case atStart=>exact⟨0,Nat.zero_le _,rfl,by simpa [jA,bitsOf,wv] using World.ownsRow_nil _ _ _ _,Below.refl _ _⟩
 case round=>
  obtain⟨k,hk,rfl,d,e⟩:=hrel;by_cases f:k<l.length
  ·go_wp2
   obtain⟨N,O⟩:∃N:World,N=wr:=⟨_,rfl⟩
   subst O;go_loopw [3,5] (fun v j wr=>∃q:Nat,q≤8∧j=.int .u64 q∧wr.ownsRow w.heap.size 4 1 v (8*k+q) (wv (jA l k q))∧Below w.heap.size w wr) (fun _ j _=>8- (intOf j).toNat)
   case atStart=>exact⟨0,by omega,rfl,d,e⟩
   case round=>
    clear d e;obtain⟨q,hq,rfl,d,e⟩:=hrel;by_cases C:q<8
    ·obtain ⟨b,o,rfl,p⟩:∃b o,a=J ⟨b,o,V⟩∧wr.cell? ⟨b,o+k,V⟩=J (.int .u8 ((l.getD k 0).toNat:Int)):=by
      obtain⟨b,o,Z,n,_,_,p⟩:=Q.out.at (by rintro rfl;simp at f);simp at n;exact⟨b,o,n.1,by rw[e.cell (fg (p k f))];exact p k f⟩
     have W:=MI (l.getD k 0);have P:=hid (DA l k q C);generalize (l.getD k 0).toNat=x at*;have I:(bits .and .u8 ((x:Int)/2^q) 1==1)=x.testBit q:=by
      have R:x/2^q<256:=Nat.lt_of_le_of_lt (Nat.div_le_self _ _) W;have h:=u8_and_nat (x/2^q) 1 R (by omega);rw[nat_mask1,KB] at h;have T:(((x/2^q:Nat)):Int)=(x:Int)/2^q:=by simp
      rw[T] at h;rw[show (1:Int)=((1:Nat):Int) from rfl,h];cases x.testBit q<;>rfl
     go_wp2_with (at_builtin;refine wpList_append_own _ rfl _ _ 248 rfl w.heap.size 4 i4 (.bool false) 1 1 Tryz.underlying248 hi D E F rfl (by decide) _ _ _ rfl (d.alloc _) ⟨wr.heap.size,0,V⟩ 1 1 [.bool (x.testBit q)] rfl rfl ?c1 ?c2 ?c3 ?c4 ?c5 ?c6)
     case c1=>exact cell_one_new _ _ _
     case c2=>intro u hu;simp at hu;subst hu;rfl
     case c3=>unfold maxLen;omega
     case c4=>omega
     case c5=>have:=e.size;simp;omega
     case c6=>
      intro y w1 L K _;have g:Below w.heap.size w (wr.alloc (.cells #[.bool (x.testBit q)] 4)):=e.alloc e.size _;have G:=g.grown K g.size (fun b U=>(d.lt b U).1);have z:Hid (w1.ownsRow w.heap.size 4 1 y (8*k+(q+1)) (wv (jA l k (q+1)))):=by
       rw[P.out,FG];exact hid L
      clear L d K e g p I;go_wp2;go_roundw
      case rel=>exact⟨q+1,by omega,by go_num,z.out,G⟩
      case measure=>simp [intOf];omega
    ·have B:q=8:=by omega
     subst B;have z:Hid (wr.ownsRow w.heap.size 4 1 u3 (8*(k+1)) (wv (jA l (k+1) 0))):=by
      rw[←Dz l k f];exact hid d
     clear d;go_wp2;go_roundw
     case rel=>exact⟨k+1,by omega,by go_num,z.out,e⟩
     case measure=>simp [intOf];omega
  ·have A:k=l.length:=by omega
   subst A;go_wp2;go_ret;exact⟨_,rfl,by rw[←FE];exact d,e⟩
def kX (m:List Bool) (i:Nat):List Bool:=m.set i (!(m.getD i false))
theorem iA (m:List Bool) (i:Nat):(kX m i).length=m.length:=by simp [kX]
def gP (m:List Bool):Nat→List Bool
 |0=>m
 |k+1=>kX (gP m k) k
theorem mi (m:List Bool) (k:Nat):(gP m k).length=m.length:=by
 induction k with
 |zero=>rfl
 |succ k ih=>rw[gP,iA,ih]
def nE (m:List Bool) (i:Nat):List Bool:=if m.getD i false then kX (kX (kX m (i+1)) (i+14)) (i+16) else m
theorem yr (m:List Bool) (i:Nat):(nE m i).length=m.length:=by unfold nE;split<;>simp [iA]
def wK (m:List Bool):Nat→List Bool
 |0=>m
 |k+1=>nE (wK m k) k
theorem vA (m:List Bool) (k:Nat):(wK m k).length=m.length:=by
 induction k with
 |zero=>rfl
 |succ k ih=>rw[wK,yr,ih]
def vc (l:List UInt8):List Bool:=wK (gP (bitsOf l++List.replicate 16 false) 16) (8*l.length)
theorem DO (l:List UInt8):(vc l).length=8*l.length+16:=by
 rw[vc,vA,mi];simp [mw]
def rY (l:List UInt8):Nat:=numOf (fun k=>(vc l).getD (8*l.length+k) false) 16
theorem Su (m:List Bool) (i:Nat) (h:i<m.length):(wv m)[i]?=J (.bool (m.getD i false)):=by
 simp [wv,List.getD,h]
theorem Sv (m:List Bool) (i:Nat) (b:Bool):(wv m).set i (.bool b)=wv (m.set i b):=by
 simp [wv,List.map_set]
theorem nb {base:Nat} {e:TypeId} {g n:Nat} {m:List Bool} (h:w.ownsRow base e 1 (.slice (J ⟨g,0,V⟩) n cap) n (wv m)) (i:Nat) (hi:i<n):
  w.cell? ⟨g,i,V⟩=J (.bool (m.getD i false)):=by
 have d:m.length=n:=by simpa [FH] using h.1
 rw[h.cellAt i (by omega),Su m i (by omega)]
theorem tP {base:Nat} {e:TypeId} {g n:Nat} {m:List Bool} (h:w.ownsRow base e 1 (.slice (J ⟨g,0,V⟩) n cap) n (wv m)) (i:Nat):
  (w.setCell ⟨g,i,V⟩ (.bool (!(m.getD i false)))).ownsRow base e 1 (.slice (J ⟨g,0,V⟩) n cap) n (wv (kX m i)):=by
 rw[kX,←Sv];exact(h.stored i _).1
theorem Pd (v:Value) (l:List UInt8) (w:World) (hv:Bs w v l) (hl:l.length≤1000):
  Calls Tryz.prog 166 #[v] w fun r w'=>r=.returned (.int .u16 (rY l))∧Below w.heap.size w w':=by
 obtain⟨i4,hi,I,K,L⟩:=info_parts WC;go_enter Tryz.func166,Tryz.ntmps166;go_wp2_with (first|(go_at_call 189;refine(MB _ _ _ hv hl).mono ?_;rintro r w1 ⟨v1,rfl,d,e⟩)|(at_builtin;refine ua rfl _ _ 248 3 rfl w.heap.size 4 i4 (.bool false) 1 Tryz.underlying248 Tryz.underlying3 hi I K L rfl rfl _ _ _ rfl d 16 rfl (by decide) ?c1 ?c2 ?c3 ?c4))
 case c1=>unfold maxLen;omega
 case c2=>omega
 case c3=>exact e.size
 case c4=>
  intro g cap w2 qv ft D f Q;have T:=e.grown Q e.size (fun b hb=>(d.lt b hb).1);replace f:w2.ownsRow w.heap.size 4 1 (.slice (J ⟨g,0,V⟩) (8*l.length+16) cap) (8*l.length+16) (wv (bitsOf l++List.replicate 16 false)):=by
   simpa [wv] using f
  clear d e Q;have BJ:=DO l;have IG:(bitsOf l++List.replicate 16 false).length=8*l.length+16:=by simp [mw]
  unfold maxLen at ft;go_wp2;go_loopw [4] (fun i wr=>∃k:Nat,k≤16∧i=.int .i64 k∧wr.ownsRow w.heap.size 4 1 (.slice (J ⟨g,0,V⟩) (8*l.length+16) cap) (8*l.length+16) (wv (gP (bitsOf l++List.replicate 16 false) k))∧Below w.heap.size w wr) (fun i _=>16- (intOf i).toNat)
  case atStart=>exact⟨0,by omega,rfl,f,T⟩
  case round=>
   clear f T;obtain⟨k,R,rfl,d,e⟩:=hrel;by_cases y:k<16
   ·have C:=nb d k (by omega)
    have hf:=d.frozenAt k;have A:=hid (tP d k);have Y:=hid (e.setCell (p:=⟨g,k,V⟩) D (.bool (!((gP (bitsOf l++List.replicate 16 false) k).getD k false))));clear d e;generalize (gP (bitsOf l++List.replicate 16 false) k).getD k false=x at*;go_wp2;go_roundw
    case rel=>exact⟨k+1,by omega,by go_num,A.out,Y.out⟩
    case measure=>simp [intOf];omega
   ·have F:k=16:=by omega
    subst F;go_wp2;go_loopw [5] (fun i wr=>∃k:Nat,k≤8*l.length∧i=.int .i64 k∧wr.ownsRow w.heap.size 4 1 (.slice (J ⟨g,0,V⟩) (8*l.length+16) cap) (8*l.length+16) (wv (wK (gP (bitsOf l++List.replicate 16 false) 16) k))∧Below w.heap.size w wr) (fun i _=>8*l.length- (intOf i).toNat)
    case atStart=>exact⟨0,by omega,rfl,d,e⟩
    case round=>
     clear d e;obtain⟨k,R,rfl,d,e⟩:=hrel;by_cases y:k<8*l.length
     ·have C:=nb d k (by omega)
      have q:wK (gP (bitsOf l++List.replicate 16 false) 16) (k+1)=nE (wK (gP (bitsOf l++List.replicate 16 false) 16) k) k:=rfl;generalize wK (gP (bitsOf l++List.replicate 16 false) 16) k=m at*;unfold nE at q;by_cases z:m.getD k false=true
      ·rw [if_pos z] at q
       rw[z] at C;have ui:=nb d (k+1) (by omega);have ad:=d.frozenAt (k+1);have O1:=tP d (k+1);have N:=e.setCell (p:=⟨g,k+1,V⟩) D (.bool (!(m.getD (k+1) false)));have Iz:=nb O1 (k+14) (by omega);have IB:=O1.frozenAt (k+14);have B:=tP O1 (k+14);have O:=N.setCell (p:=⟨g,k+14,V⟩) D (.bool (!((kX m (k+1)).getD (k+14) false)));have ab:=nb B (k+16) (by omega);have ak:=B.frozenAt (k+16);have Z:=hid (tP B (k+16));have W:=hid (O.setCell (p:=⟨g,k+16,V⟩) D (.bool (!((kX (kX m (k+1)) (k+14)).getD (k+16) false))));have E:=hid q;clear d e O1 B N O q z;generalize (kX (kX m (k+1)) (k+14)).getD (k+16) false=x3 at*;generalize (kX m (k+1)).getD (k+14) false=x2 at*;generalize m.getD (k+1) false=x1 at*;go_wp2;go_roundw
       case rel=>exact⟨k+1,by omega,by go_num,by rw[E.out];exact Z.out,W.out⟩
       case measure=>simp [intOf];omega
      ·have U:m.getD k false=false:=by simpa using z
       rw[if_neg z] at q;rw[U] at C;have E:=hid q;have A:=hid d;clear q z U d;go_wp2;go_roundw
       case rel=>exact⟨k+1,by omega,by go_num,by rw[E.out];exact A.out,e⟩
       case measure=>simp [intOf];omega
     ·have G:k=8*l.length:=by omega
      subst G;have f:wr.ownsRow w.heap.size 4 1 (.slice (J ⟨g,0,V⟩) (8*l.length+16) cap) (8*l.length+16) (wv (vc l)):=d;clear d;go_wp2;go_loopw [6,7] (fun o i M=>M=wr∧∃k:Nat,k≤16∧i=.int .i64 k∧o=.int .u16 (numOf (fun k=>(vc l).getD (8*l.length+k) false) k)) (fun _ i _=>16- (intOf i).toNat)
      case atStart=>exact⟨rfl,0,by omega,rfl,rfl⟩
      case round=>
       obtain⟨rfl,k,R,rfl,rfl⟩:=hrel;by_cases y:k<16
       ·have C:=nb f (8*l.length+k) (by omega)
        have S:numOf (fun k=>(vc l).getD (8*l.length+k) false) (k+1)=if (vc l).getD (8*l.length+k) false then numOf (fun k=>(vc l).getD (8*l.length+k) false) k|||2^k else numOf (fun k=>(vc l).getD (8*l.length+k) false) k:=rfl
        have ao:=xr (fun k=>(vc l).getD (8*l.length+k) false) k;have X:2^k<65536:=Nat.pow_lt_pow_right (show 1<2 by decide) y;have A:=hid f;clear f;generalize (vc l).getD (8*l.length+k) false=x at*;generalize numOf (fun k=>(vc l).getD (8*l.length+k) false) k=n at*;have P:=hid S;clear S;cases x with
        |true=>
         go_wp2;go_roundw
         case rel=>
          refine⟨trivial,k+1,by omega,by go_num,?_⟩;have hw:IntKind.u16.wrap (2^k)=((2^k:Nat):Int):=by
           rw[IntKind.wrap_u16,show (2:Int)^k=((2^k:Nat):Int) by simp];omega
          rw[P.out,if_pos rfl,hw,u16_or_nat n (2^k) (by omega) X]
         case measure=>simp [intOf];omega
        |false=>
         go_wp2;go_roundw
         case rel=>exact⟨trivial,k+1,by omega,by go_num,by rw[P.out];rfl⟩
         case measure=>simp [intOf];omega
       ·have F:k=16:=by omega
        subst F;clear f;go_wp2;go_ret;exact⟨rfl,e⟩
theorem JD (l:List UInt8):rY l<65536:=xr _ 16
def vQ (s:Nat):List UInt8:=[UInt8.ofNat s,UInt8.ofNat (s/256)]
theorem xaq:(Tryz.prog.info? 5).map (fun i=>(i.zero,i.size,i.bytes))=J (J (.int .u8 0),1,1):=by kernel_rfl
theorem UL (w:World) (s:Nat) (hs:s<65536):Bs (w.alloc (.cells #[.int .u8 ((s:Int)%256),.int .u8 ((s:Int)/256)] 5)) (.slice (J ⟨w.heap.size,0,V⟩) 2 2) (vQ s):=by
 refine Bs.mk (l:=vQ s) (Nat.le_refl 2) (by unfold maxLen;decide) ?_;intro i hi;rw[World.cell?_alloc_at _ _ _ _ rfl]
 match i,hi with
 |0,_=>simp [vQ]
 |1,_=>simp [vQ];omega
theorem Eg (v:Value) (l:List UInt8) (w:World) (x:Bs w v l) (J:l.length≤1000):
  Calls Tryz.prog 131 #[v] w fun r C=>∃B,r=.returned B∧C.ownsRow w.heap.size 5 1 B (l.length+2) (u8s (l++vQ (rY l)))∧Below w.heap.size w C:=by
 obtain⟨i5,hi,n,o,p⟩:=info_parts xaq;have hs:=JD l;have E:=hid (Pd v l w x J);generalize rY l=s at*;have F:=hid x;clear x;go_enter Tryz.func131,Tryz.ntmps131;go_wp2_with (first|(go_at_call 166;refine E.out.mono ?_;rintro r w1 ⟨rfl,f⟩)|(at_builtin;refine im rfl _ _ 50 rfl w.heap.size 5 i5 Tryz.underlying50 hi n o p (.slice none 0 0) [] rfl (World.ownsRow_nil _ _ _ _) v l rfl (F.out.ah f) ?c1 ?c2 ?c3))
 case c1=>simp;omega
 case c2=>exact f.size
 case c3=>
  intro v1 D d z;have y:=f.grown z f.size (by intro k I;simp [Value.ownBlock] at I);replace d:D.ownsRow w.heap.size 5 1 v1 l.length (u8s l):=by simpa using d
  clear z f;have G:bits .and .u16 (s:Int) 255=(s:Int)%256:=by
   have h:=u16_and_nat s 255 hs (by omega);rw[nat_mask8] at h;rw[show (255:Int)=((255:Nat):Int) from rfl,h];omega
  have A:=UL D s hs;go_wp2_with (at_builtin;refine im rfl _ _ 50 rfl w.heap.size 5 i5 Tryz.underlying50 hi n o p v1 l rfl (d.alloc _) _ (vQ s) rfl A ?d1 ?d2 ?d3)
  case d1=>simp [vQ];omega
  case d2=>have:=y.size;simp;omega
  case d3=>
   intro v2 w3 e q;have g:=y.alloc y.size (.cells #[.int .u8 ((s:Int)%256),.int .u8 ((s:Int)/256)] 5);have K:=g.grown q g.size (fun b g=>(d.lt b g).1);clear d A G q g;go_wp2;go_ret;exact⟨_,rfl,e,K⟩
theorem FA (l:List UInt8):∀p,(bitsOf l).getD p false=jb l p:=by
 induction l with
 |nil=>intro p;simp [bitsOf,jb]
 |cons x l ih=>
  intro p;have d:bitsOf (x::l)=fV x++bitsOf l:=by simp [bitsOf]
  rw[d];by_cases h:p<8
  ·have:(fV x++bitsOf l).getD p false=x.toNat.testBit p:=by
    simp only[List.getD];rw[List.getElem?_append_left (by rw[eE];exact h)];simp [fV,h]
   rw[this];unfold jb;rw[show p/8=0 by omega,show p%8=p by omega];rfl
  ·have:(fV x++bitsOf l).getD p false=(bitsOf l).getD (p-8) false:=by
    simp only[List.getD];rw[List.getElem?_append_right (by rw[eE];omega),eE]
   rw[this,ih];unfold jb;rw[show p/8=(p-8)/8+1 by omega,show (p-8)%8=p%8 by omega];rfl
theorem qI (m:List Bool) (i p:Nat) (h:i<m.length):(kX m i).getD p false=(m.getD p false^^decide (p=i)):=by
 unfold kX;by_cases d:p=i
 ·subst d
  simp [List.getD,h]
 ·simp [List.getD,d,List.getElem?_set_ne (Ne.symm d)]
theorem Fy (m:List Bool) (k p:Nat) (h:k≤m.length):(gP m k).getD p false=(m.getD p false^^decide (p<k)):=by
 induction k with
 |zero=>simp [gP]
 |succ k ih=>
  rw[gP,qI _ _ _ (by rw[mi];omega),ih (by omega)];by_cases d:p=k
  ·subst d;simp
  ·have e:decide (p<k+1)=decide (p<k):=by rw[decide_eq_decide];omega
   rw[e];simp [d]
theorem DU (m:List Bool) (i p:Nat) (h:i+16<m.length):
  (nE m i).getD p false=(m.getD p false^^(m.getD i false&&(decide (p=i+1)||decide (p=i+14)||decide (p=i+16)))):=by
 unfold nE;by_cases d:m.getD i false=true
 ·rw [if_pos d,qI _ _ _ (by rw[iA,iA];omega),qI _ _ _ (by rw[iA];omega),qI _ _ _ (by omega),d]
  by_cases e:p=i+1
  ·subst e;simp
  ·by_cases f:p=i+14
   ·subst f;simp
   ·by_cases g:p=i+16<;>simp [e,f,g]
 ·have l:m.getD i false=false:=by simpa using d
  rw[if_neg d,l];simp
theorem Kz (k:Nat):Nat.testBit 40961 k=(decide (k=0)||decide (k=13)||decide (k=15)):=by
 by_cases h:k<16
 ·have:∀k:Fin 16,Nat.testBit 40961 k.1=(decide (k.1=0)||decide (k.1=13)||decide (k.1=15)):=by decide
  exact this ⟨k,h⟩
 ·rw [Nat.testBit_lt_two_pow (Nat.lt_of_lt_of_le (show 40961<2^16 by decide) (Nat.pow_le_pow_right (by decide) (by omega)))]
  simp;omega
theorem NQ (h:c<65536) (k:Nat) (d:16≤k):c.testBit k=false:=
 Nat.testBit_lt_two_pow (Nat.lt_of_lt_of_le h (show 2^16≤2^k from Nat.pow_le_pow_right (by decide) d))
theorem Pj (u k:Nat):(cB u).testBit k=(u.testBit (k+1)^^(u.testBit 0&&(decide (k=0)||decide (k=13)||decide (k=15)))):=by
 rw[nu,Nat.testBit_xor,←Kz,Nat.testBit_succ];cases u.testBit 0<;>simp
theorem Nc (l:List UInt8) (j:Nat) (x:j≤8*l.length):∀k,
  (wK (gP (bitsOf l++List.replicate 16 false) 16) j).getD (j+k) false=((bN 65535 (jb l) j).testBit k^^jb l (j+k)):=by
 have hlen:(bitsOf l++List.replicate 16 false).length=8*l.length+16:=by simp [mw]
 have e:∀p,(bitsOf l++List.replicate 16 false).getD p false=jb l p:=by
  intro p;rw[←FA];by_cases h:p<(bitsOf l).length
  ·simp [List.getD,List.getElem?_append_left h]
  ·simp only[List.getD]
   rw[List.getElem?_append_right (by omega),List.getElem?_eq_none (l:=bitsOf l) (by omega)];by_cases g:p- (bitsOf l).length<16
   ·rw [List.getElem?_replicate,if_pos g];rfl
   ·rw [List.getElem?_replicate,if_neg g]
 induction j with
 |zero=>
  intro k;rw[wK,Fy _ _ _ (by rw[hlen];omega),e,bN,Nat.zero_add];have:Nat.testBit 65535 k=decide (k<16):=by
   have:=Nat.testBit_two_pow_sub_one 16 k;simpa using this
  rw[this,Bool.xor_comm]
 |succ j ih=>
  intro k;have d:=ih (by omega);have n:(wK (gP (bitsOf l++List.replicate 16 false) 16) j).length=8*l.length+16:=by rw[vA,mi,hlen]
  have f:=d 0;have q:=d (k+1);have r:=Fi (show 65535<65536 by decide) (jb l) j;rw[wK,DU _ _ _ (by rw[n];omega),bN,Pj];rw[show j+1+k=j+(k+1) by omega,q];simp only[Nat.add_zero] at f;rw[f];generalize bN 65535 (jb l) j=c at*;generalize jb l j=t;generalize jb l (j+(k+1))=s;have e1:(c^^^t.toNat).testBit (k+1)=c.testBit (k+1):=by
   rw[Nat.testBit_xor];cases t<;>simp [Nat.testBit_succ]
  have e2:(c^^^t.toNat).testBit 0=(c.testBit 0^^t):=by
   rw[Nat.testBit_xor];cases t<;>simp
  rw[e1,e2];have o:(decide (j+(k+1)=j+1)||decide (j+(k+1)=j+14)||decide (j+(k+1)=j+16))=(decide (k=0)||decide (k=13)||decide (k=15)):=by
   rw[Bool.eq_iff_iff];simp
  rw[o];cases c.testBit (k+1)<;>cases s<;>cases (c.testBit 0^^t)<;>cases (decide (k=0)||decide (k=13)||decide (k=15))<;>rfl
theorem JC (l:List UInt8):rY l=aV 65535 l:=by
 rw[wO];apply Nat.eq_of_testBit_eq;intro k;have d:=Fi (show 65535<65536 by decide) (jb l) (8*l.length);unfold rY vc;rw[sO];by_cases e:k<16
 ·rw [Nc l _ (Nat.le_refl _) k]
  have:jb l (8*l.length+k)=false:=by
   unfold jb;simp only[List.getD];rw[List.getElem?_eq_none (by omega)];simp
  rw[this];simp [e]
 ·rw [NQ d k (by omega)]
  simp [e]
theorem FJ (l:List UInt8):bM l=vQ (rY l):=by rw[JC];rfl
theorem CD (v:Value) (l:List UInt8) (w:World) (g:Bs w v l) (f:l.length≤1000):
  Calls Tryz.prog 131 #[v] w fun r e=>∃d,r=.returned d∧e.ownsRow w.heap.size 5 1 d (l.length+2) (u8s (l++bM l))∧Below w.heap.size w e:=by
 rw[FJ];exact Eg v l w g f
theorem KA (x:UInt8) (K:1≤(x.toNat:Int)) (L:(x.toNat:Int)≤247) (v:Value) (l:List UInt8) (M:1≤l.length) (N:l.length≤253) (w:World) (f:Bs w v l):
  Calls Tryz.prog 82 #[.int .i64 (x.toNat:Int),v] w fun r B=>∃A,r=.returned (.tuple #[A,.int .i64 0])∧B.ownsRow w.heap.size 5 1 A (l.length+3) (u8s (fj x l))∧Below w.heap.size w B:=by
 obtain⟨i5,hi,g,n,o⟩:=info_parts fS;have q:(w.alloc (.cells #[.int .u8 (x.toNat:Int)] 5)).ownsRow w.heap.size 5 1 (.slice (J ⟨w.heap.size,0,V⟩) 1 1) [x].length (u8s [x]):=LX w w.heap.size _ x (Nat.le_refl _);have z:=f.ah (bal' w (.cells #[.int .u8 (x.toNat:Int)] 5));obtain⟨a,c,rfl,_⟩:=id f;clear f;go_enter Tryz.func82,Tryz.ntmps82;go_wp2_with (first|(at_builtin;refine im rfl _ _ 50 rfl w.heap.size 5 i5 Tryz.underlying50 hi g n o (.slice (J ⟨w.heap.size,0,V⟩) 1 1) [x] rfl q _ l rfl z ?c1 ?c2 ?c3))
 any_goals first|omega|(simp;done)|(simp;omega)
 case c3=>
  intro v2 G d y;have p:=(bal' w (.cells #[.int .u8 (x.toNat:Int)] 5)).grown y (bal' w (.cells #[.int .u8 (x.toNat:Int)] 5)).size (by intro k F;simp [Value.ownBlock] at F;omega);have E:Hid (Bs G v2 (x::l)):=Bs.own d;have C:(x::l).length=l.length+1:=rfl;have D:=hid C;clear y d q z C;go_wp2_with (first|(go_at_call 131;refine(CD _ _ _ E.out (by have:=D.out;omega)).mono ?_;rintro r w3 ⟨O,rfl,e,I⟩)|fail);go_ret2;exact⟨_,rfl,own_lower e p.size,bt p I (Nat.le_refl _)⟩
theorem T7 (k a b:Int):(jY k a b).ok=true:=by
 have l:=Int.emod_nonneg k (show (6:Int)≠0 by decide);have n:=Int.emod_lt_of_pos k (show 0<(6:Int) by decide);unfold jY;by_cases d:k%6=4
 ·rw [if_pos d];rfl
 ·rw [if_neg d]
  by_cases e:k%6=5
  ·rw [if_pos e]
   simp only[Rq.ok];simp;omega
  ·rw [if_neg e]
   obtain⟨L,f⟩:∃L,cN (1+k%6)=L:=⟨_,rfl⟩
   have g:0<L∧L≤2000:=by
    rw[←f];unfold cN
    repeat' split
    all_goals omega
   simp only[Rq.ok];rw[if_pos ⟨by omega,by omega⟩,f];have o:=Int.emod_nonneg b (show L≠0 by omega);have p:=Int.emod_lt_of_pos b g.1;have q:=Int.emod_nonneg a (show 65536- (1+b%L)+1≠0 by omega);have r:=Int.emod_lt_of_pos a (show 0<65536- (1+b%L)+1 by omega);simp;omega
theorem Gr.trans {t u v:Nat→Kc} {a b:Nat} (h:Gr t u a b) (k:Gr u v a b):Gr t v a b:=by
 refine⟨fun i d e=>?_,fun j d e=>?_,fun i hi=>(k.out i hi).trans (h.out i hi)⟩
 ·obtain ⟨j,f,g,n⟩:=k.fw i d e
  obtain⟨l,o,p,q⟩:=h.fw j f g;exact⟨l,o,p,n.trans q⟩
 ·obtain ⟨i,f,g,n⟩:=h.bw j d e
  obtain⟨l,o,p,q⟩:=k.bw i f g;exact⟨l,o,p,q.trans n⟩
theorem Gr.wide {d:Nat} (h:Gr t u a b) (n:c≤a) (o:b≤d):Gr t u c d:=by
 refine⟨fun i g l=>?_,fun j g l=>?_,fun i hi=>h.out i (by omega)⟩
 ·by_cases e:a≤i∧i<b
  ·obtain ⟨j,e1,e2,f⟩:=h.fw i e.1 e.2
   exact⟨j,by omega,by omega,f⟩
  ·exact ⟨i,g,l,h.out i (by omega)⟩
 ·by_cases e:a≤j∧j<b
  ·obtain ⟨i,e1,e2,f⟩:=h.bw j e.1 e.2
   exact⟨i,by omega,by omega,f⟩
  ·exact ⟨j,g,l,h.out j (by omega)⟩
def eQ (a b n:Nat) (t:Nat→Kc):Nat→Kc:=fun k=>if a≤k∧k<a+n then t (k-a+b) else if b≤k∧k<b+n then t (k-b+a) else t k
theorem Hw (a b:Nat) (t:Nat→Kc):eQ a b 0 t=t:=by
 funext k
 unfold eQ;rw[if_neg (by omega),if_neg (by omega)]
theorem Hv {n:Nat} (h:a+n<b) (t:Nat→Kc):eQ a b (n+1) t=fun k=>if k=a+n then t (b+n) else if k=b+n then t (a+n) else eQ a b n t k:=by
 funext k
 unfold eQ;by_cases e1:k=a+n
 ·subst e1
  rw[if_pos (by omega),if_pos rfl];congr 1;omega
 ·rw [if_neg e1]
  by_cases e2:k=b+n
  ·subst e2
   rw[if_neg (by omega),if_pos (by omega),if_pos rfl];congr 1;omega
  ·rw [if_neg e2]
   by_cases d:a≤k∧k<a+n
   ·rw [if_pos (by omega),if_pos d]
   ·rw [if_neg (by omega),if_neg d]
    by_cases e:b≤k∧k<b+n
    ·rw [if_pos (by omega),if_pos e]
    ·rw [if_neg (by omega),if_neg e]
def fy (a m b:Nat) (t:Nat→Kc):Nat→Kc:=fun k=>if k<a∨b≤k then t k else if k<a+(b-m) then t (k+(m-a)) else t (k- (b-m))
theorem Uo (t:Nat→Kc) (hi:i≤m) (h:j<i) (e:0<j):fy (m- (i-j)) m (m+j) (eQ (m-i) m j t)=fy (m-i) m (m+j) t:=by
 funext k
 unfold fy;by_cases e1:k<m-i∨m+j≤k
 ·rw [if_pos (show k<m- (i-j)∨m+j≤k by omega),if_pos e1]
  unfold eQ;rw[if_neg (by omega),if_neg (by omega)]
 ·rw [if_neg e1]
  by_cases e2:k<m- (i-j)
  ·rw [if_pos (show k<m- (i-j)∨m+j≤k by omega),if_pos (by omega)]
   unfold eQ;rw[if_pos (by omega)];congr 1;omega
  ·rw [if_neg (show ¬(k<m- (i-j)∨m+j≤k) by omega),if_neg (show ¬k<m-i+(m+j-m) by omega)]
   by_cases d:k<m- (i-j)+(m+j-m)
   ·rw [if_pos d]
    unfold eQ;rw[if_neg (by omega),if_pos (by omega)];congr 1;omega
   ·rw [if_neg d]
    unfold eQ;rw[if_neg (by omega),if_neg (by omega)]
theorem Up (t:Nat→Kc) (hi:i≤m) (h:i<j) (f:0<i):fy (m-i) m (m+(j-i)) (eQ (m-i) (m+j-i) i t)=fy (m-i) m (m+j) t:=by
 funext k
 unfold fy;by_cases e1:k<m-i∨m+j≤k
 ·rw [if_pos (show k<m-i∨m+(j-i)≤k by omega),if_pos e1]
  unfold eQ;rw[if_neg (by omega),if_neg (by omega)]
 ·rw [if_neg e1]
  by_cases e2:m+(j-i)≤k
  ·rw [if_pos (show k<m-i∨m+(j-i)≤k by omega),if_neg (by omega)]
   unfold eQ;rw[if_neg (by omega),if_pos (by omega)];congr 1;omega
  ·rw [if_neg (show ¬(k<m-i∨m+(j-i)≤k) by omega),if_pos (show k<m-i+(m+j-m) by omega)]
   by_cases d:k<m-i+(m+(j-i)-m)
   ·rw [if_pos d]
    unfold eQ;rw[if_neg (by omega)];by_cases e:m+j-i≤k+(m- (m-i))
    ·exact absurd e (by omega)
    ·rw [if_neg (by omega)]
   ·rw [if_neg d]
    unfold eQ;rw[if_pos (by omega)];congr 1;omega
theorem Um (t:Nat→Kc) (hi:i≤m):eQ (m-i) m i t=fy (m-i) m (m+i) t:=by
 funext k
 unfold fy eQ;by_cases e1:k<m-i∨m+i≤k
 ·rw [if_pos e1,if_neg (by omega),if_neg (by omega)]
 ·rw [if_neg e1]
  by_cases e2:k<m
  ·rw [if_pos (by omega),if_pos (by omega)]
   congr 1;omega
  ·rw [if_neg (by omega),if_pos (by omega),if_neg (by omega)]
   congr 1;omega
theorem yW (a m b:Nat) (t:Nat→Kc) (g:a≤m) (l:m≤b):Gr t (fy a m b t) a b:=by
 refine⟨fun i d f=>?_,fun j d f=>?_,fun i hi=>by unfold fy;rw[if_pos (by omega)]⟩
 ·unfold fy
  rw[if_neg (by omega)];split
  ·exact ⟨_,by omega,by omega,rfl⟩
  ·exact ⟨_,by omega,by omega,rfl⟩
 ·by_cases e:j<m
  ·refine ⟨j+(b-m),by omega,by omega,?_⟩
   unfold fy;rw[if_neg (by omega),if_neg (by omega)];congr 1;omega
  ·refine ⟨j- (m-a),by omega,by omega,?_⟩
   unfold fy;rw[if_neg (by omega),if_pos (by omega)];congr 1;omega
structure lU (t:Nat→Kc) (a m b:Nat):Prop where
 l:xab t a m
 r:xab t m b
 x:∀i j,a≤i→i<m→m≤j→j<b→((t j).at_<(t i).at_↔(t j).key<(t i).key)∧(t j).key≠(t i).key
def oE (a i:Nat) (t:Nat→Kc):Nat→Kc:=fun k=>if k<a∨i≤k then t k else if k+1=i then t a else t (k+1)
theorem OK (t:Nat→Kc) (h:a<i):oE a i t=fy a (a+1) i t:=by
 funext k
 unfold oE fy;by_cases e:k<a∨i≤k
 ·rw [if_pos e,if_pos e]
 ·rw [if_neg e,if_neg e]
  by_cases e2:k+1=i
  ·rw [if_pos e2,if_neg (by omega)]
   congr 1;omega
  ·rw [if_neg e2,if_pos (by omega)]
   congr 1;omega
def iU (i m:Nat) (t:Nat→Kc):Nat→Kc:=fun k=>if k<i∨m<k then t k else if k=i then t m else t (k-1)
theorem OM (t:Nat→Kc):iU i m t=fy i m (m+1) t:=by
 funext k
 unfold iU fy;by_cases e:k<i∨m<k
 ·rw [if_pos e,if_pos (show k<i∨m+1≤k by omega)]
 ·rw [if_neg e,if_neg (show ¬(k<i∨m+1≤k) by omega)]
  by_cases e2:k=i
  ·rw [if_pos e2,if_pos (show k<i+(m+1-m) by omega)]
   congr 1;omega
  ·rw [if_neg e2,if_neg (show ¬k<i+(m+1-m) by omega)]
   congr 1;omega
theorem GV (h:lU t a (a+1) b) (g:a+1≤i) (l:i≤b) (n:∀k,a+1≤k→k<i→(t k).key<(t a).key) (o:∀k,i≤k→k<b→(t a).key<(t k).key):
  xab (oE a i t) a b∧Gr t (oE a i t) a b:=by
 refine⟨fun x y p e f=>?_,by rw[OK t (by omega)];exact(yW a (a+1) i t (by omega) g).wide (Nat.le_refl _) l⟩;unfold oE;by_cases e1:i≤y
 ·rw [if_pos (show y<a∨i≤y by omega)]
  by_cases e2:i≤x
  ·rw [if_pos (show x<a∨i≤x by omega)]
   exact h.r x y (by omega) e f
  ·rw [if_neg (show ¬(x<a∨i≤x) by omega)]
   by_cases d:x+1=i
   ·rw [if_pos d]
    exact o y e1 f
   ·rw [if_neg d]
    exact h.r (x+1) y (by omega) (by omega) f
 ·rw [if_neg (show ¬(x<a∨i≤x) by omega),if_neg (show ¬(y<a∨i≤y) by omega),if_neg (show ¬(x+1=i) by omega)]
  by_cases d:y+1=i
  ·rw [if_pos d]
   exact n (x+1) (by omega) (by omega)
  ·rw [if_neg d]
   exact h.r (x+1) (y+1) (by omega) (by omega) (by omega)
theorem sK (h:lU t a m (m+1)) (g:a≤i) (l:i≤m) (n:∀k,a≤k→k<i→(t k).key<(t m).key) (o:∀k,i≤k→k<m→(t m).key<(t k).key):
  xab (iU i m t) a (m+1)∧Gr t (iU i m t) a (m+1):=by
 refine⟨fun x y e f p=>?_,by rw[OM t];exact(yW i m (m+1) t l (by omega)).wide g (Nat.le_refl _)⟩;unfold iU;by_cases e1:x<i
 ·rw [if_pos (show x<i∨m<x by omega)]
  by_cases e2:y<i
  ·rw [if_pos (show y<i∨m<y by omega)]
   exact h.l x y e f (by omega)
  ·rw [if_neg (show ¬(y<i∨m<y) by omega)]
   by_cases d:y=i
   ·rw [if_pos d]
    exact n x e e1
   ·rw [if_neg d]
    exact h.l x (y-1) e (by omega) (by omega)
 ·rw [if_neg (show ¬(x<i∨m<x) by omega),if_neg (show ¬(y<i∨m<y) by omega),if_neg (show ¬y=i by omega)]
  by_cases d:x=i
  ·rw [if_pos d]
   exact o (y-1) (by omega) (by omega)
  ·rw [if_neg d]
   exact h.l (x-1) (y-1) (by omega) (by omega) (by omega)
structure IW (t:Nat→Kc) (a m b dx s e:Nat):Prop where
 s0:a≤s
 s1:s≤m
 s2:s≤dx
 e0:dx≤e
 e1:m≤e
 e2:e≤b
 sum:s+e=dx+m
 lo:∀i j,a≤i→i<s→e≤j→j<b→(t i).key<(t j).key
 hi:∀i j,s≤i→i<m→m≤j→j<e→(t j).key<(t i).key
theorem IW.YW {e:Nat} (h:lU t a m b) (c:IW t a m b dx s e):
  lU (fy s m e t) a s dx∧lU (fy s m e t) dx e b∧(∀i j,a≤i→i<dx→dx≤j→j<b→(fy s m e t i).key<(fy s m e t j).key)∧Gr t (fy s m e t) a b:=by
 obtain⟨s0,s1,s2,e0,e1,e2,sum,lo,hi⟩:=c;have o:∀k,k<s→fy s m e t k=t k:=fun k q=>by unfold fy;rw[if_pos (by omega)]
 have rD:∀k,e≤k→fy s m e t k=t k:=fun k q=>by unfold fy;rw[if_pos (by omega)]
 have p:∀k,s≤k→k<dx→fy s m e t k=t (k+(m-s)):=fun k d g=>by unfold fy;rw[if_neg (by omega),if_pos (by omega)]
 have n:∀k,dx≤k→k<e→fy s m e t k=t (k- (e-m)):=fun k d g=>by unfold fy;rw[if_neg (by omega),if_neg (by omega)]
 refine⟨⟨fun i j d g f=>?_,fun i j d g f=>?_,fun i j d g f l=>?_⟩,⟨fun i j d g f=>?_,fun i j d g f=>?_,fun i j d g f l=>?_⟩,fun i j d g f l=>?_,(yW s m e t s1 e1).wide s0 e2⟩
 ·rw [o i (by omega),o j f]
  exact h.l i j d g (by omega)
 ·rw [p i d (by omega),p j (by omega) f]
  exact h.r _ _ (by omega) (by omega) (by omega)
 ·rw [o i g,p j f l]
  exact h.x _ _ d (by omega) (by omega) (by omega)
 ·rw [n i d (by omega),n j (by omega) f]
  exact h.l _ _ (by omega) (by omega) (by omega)
 ·rw [rD i d,rD j (by omega)]
  exact h.r _ _ (by omega) g f
 ·rw [n i d g,rD j f]
  exact h.x _ _ (by omega) (by omega) (by omega) l
 ·by_cases f1:i<s
  ·rw [o i f1]
   by_cases f2:j<e
   ·rw [n j f f2]
    exact h.l _ _ d (by omega) (by omega)
   ·rw [rD j (by omega)]
    exact lo i j d f1 (by omega) l
  ·rw [p i (by omega) g]
   by_cases f2:j<e
   ·rw [n j f f2]
    exact hi _ _ (by omega) (by omega) (by omega) (by omega)
   ·rw [rD j (by omega)]
    exact h.r _ _ (by omega) (by omega) l
theorem merge_join (g:a≤dx) (l:dx≤b) (n:∀i j,a≤i→i<dx→dx≤j→j<b→(t i).key<(t j).key) (i1:Gr t t1 a dx) (i2:Gr t1 t2 dx b) (s1:xab t1 a dx) (s2:xab t2 dx b):
  xab t2 a b∧Gr t t2 a b:=by
 refine⟨fun i j d e f=>?_,(i1.wide (Nat.le_refl _) l).trans (i2.wide g (Nat.le_refl _))⟩;by_cases f1:j<dx
 ·rw [i2.out i (by omega),i2.out j (by omega)]
  exact s1 i j d e f1
 ·by_cases f2:dx≤i
  ·exact s2 i j f2 e f
  ·rw [i2.out i (by omega)]
   obtain⟨x,o,p,q⟩:=i1.fw i d (by omega);obtain⟨y,r,z,A⟩:=i2.fw j (by omega) f;rw[q,A,i1.out y (by omega)];exact n x y o p r z
theorem IW.of {f g:Nat} (h:lU t a m b) (A:dx=(a+b)/2) (d:(dx<m→f=dx+m-b∧g=dx)∧(m≤dx→f=a∧g=m)) (B:f≤s) (C:s≤g)
  (q:∀c,f≤c→c<s→(t c).key<(t (dx+m-1-c)).key) (r:∀c,s≤c→c<g→(t (dx+m-1-c)).key<(t c).key):IW t a m b dx s (dx+m-s):=by
 have D:a≤f∧g≤m∧g≤dx∧dx+m-f≤b:=by
  by_cases e:dx<m
  ·obtain ⟨e1,e2⟩:=d.1 e
   omega
  ·obtain ⟨e1,e2⟩:=d.2 (by omega)
   omega
 refine⟨by omega,by omega,by omega,by omega,by omega,by omega,by omega,fun i j l n o p=>?_,fun i j l n o p=>?_⟩
 ·have hs:f<s:=by
   by_cases e:dx<m
   ·obtain ⟨e1,e2⟩:=d.1 e
    omega
   ·obtain ⟨e1,e2⟩:=d.2 (by omega)
    omega
  have x:=q (s-1) (by omega) (by omega);have y:(t i).key≤(t (s-1)).key:=by
   by_cases e:i=s-1
   ·subst e;exact Int.le_refl _
   ·exact Int.le_of_lt (h.l i (s-1) l (by omega) (by omega))
  have z:(t (dx+m-1- (s-1))).key≤(t j).key:=by
   by_cases e:j=dx+m-1- (s-1)
   ·subst e;exact Int.le_refl _
   ·exact Int.le_of_lt (h.r _ j (by omega) (by omega) p)
  omega
 ·have hs:s<g:=by
   by_cases e:dx<m
   ·obtain ⟨e1,e2⟩:=d.1 e
    omega
   ·obtain ⟨e1,e2⟩:=d.2 (by omega)
    omega
  have x:=r s (Nat.le_refl _) hs;have y:(t s).key≤(t i).key:=by
   by_cases e:i=s
   ·subst e;exact Int.le_refl _
   ·exact Int.le_of_lt (h.l s i (by omega) (by omega) n)
  have z:(t j).key≤(t (dx+m-1-s)).key:=by
   by_cases e:j=dx+m-1-s
   ·subst e;exact Int.le_refl _
   ·exact Int.le_of_lt (h.r j _ o (by omega) (by omega))
  omega
theorem BM (i:Nat) (t:Nat→Kc):iU i i t=t:=by
 funext k
 unfold iU;by_cases e:k<i∨i<k
 ·rw [if_pos e]
 ·rw [if_neg e,if_pos (show k=i by omega),show k=i by omega]
theorem BO (t:Nat→Kc) (h:j+1≤i):(fun k=>if k=j+1 then iU (j+1) i t j else if k=j then iU (j+1) i t (j+1) else iU (j+1) i t k)=iU j i t:=by
 funext k
 unfold iU;by_cases e1:k=j+1
 ·rw [if_pos e1,if_pos (show j<j+1∨i<j by omega),if_neg (show ¬(k<j∨i<k) by omega),if_neg (show ¬k=j by omega)]
  congr 1;omega
 ·rw [if_neg e1]
  by_cases e2:k=j
  ·rw [if_pos e2,if_neg (show ¬(j+1<j+1∨i<j+1) by omega),if_pos rfl,if_neg (show ¬(k<j∨i<k) by omega),if_pos e2]
  ·rw [if_neg e2]
   by_cases d:k<j∨i<k
   ·rw [if_pos (show k<j+1∨i<k by omega),if_pos d]
   ·rw [if_neg (show ¬(k<j+1∨i<k) by omega),if_neg e1,if_neg d,if_neg e2]
theorem Kg (a:Nat) (t:Nat→Kc):oE a (a+1) t=t:=by
 funext k
 unfold oE;by_cases e:k<a∨a+1≤k
 ·rw [if_pos e]
 ·rw [if_neg e,if_pos (show k+1=a+1 by omega),show k=a by omega]
theorem Kh (t:Nat→Kc) (h:a≤k):(fun x=>if x=k then oE a (k+1) t (k+1) else if x=k+1 then oE a (k+1) t k else oE a (k+1) t x)=oE a (k+2) t:=by
 funext x
 unfold oE;by_cases e1:x=k
 ·rw [if_pos e1,if_pos (show k+1<a∨k+1≤k+1 by omega),if_neg (show ¬(x<a∨k+2≤x) by omega),if_neg (show ¬x+1=k+2 by omega),e1]
 ·rw [if_neg e1]
  by_cases e2:x=k+1
  ·rw [if_pos e2,if_neg (show ¬(k<a∨k+1≤k) by omega),if_pos rfl,if_neg (show ¬(x<a∨k+2≤x) by omega),if_pos (show x+1=k+2 by omega)]
  ·rw [if_neg e2]
   by_cases d:x<a∨k+1≤x
   ·rw [if_pos d,if_pos (show x<a∨k+2≤x by omega)]
   ·rw [if_neg d,if_neg (show ¬x+1=k+1 by omega),if_neg (show ¬(x<a∨k+2≤x) by omega),if_neg (show ¬x+1=k+2 by omega)]
theorem FD.trans {t u v:Nat→Kc} {a b:Nat} (h:FD t u a b) (k:FD u v a b):FD t v a b:=by
 refine⟨fun i d e=>?_,fun j d e=>?_⟩
 ·obtain ⟨j,f,g,n⟩:=k.fw i d e
  obtain⟨l,o,p,q⟩:=h.fw j f g;exact⟨l,o,p,n.trans q⟩
 ·obtain ⟨i,f,g,n⟩:=h.bw j d e
  obtain⟨l,o,p,q⟩:=k.bw i f g;exact⟨l,o,p,q.trans n⟩
theorem FD.join (h:FD t u a m) (k:FD t u m b) (l:a≤m) (n:m≤b):FD t u a b:=by
 refine⟨fun i f g=>?_,fun j f g=>?_⟩
 ·by_cases e:i<m
  ·obtain ⟨j,e1,e2,d⟩:=h.fw i f e
   exact⟨j,e1,by omega,d⟩
  ·obtain ⟨j,e1,e2,d⟩:=k.fw i (by omega) g
   exact⟨j,by omega,e2,d⟩
 ·by_cases e:j<m
  ·obtain ⟨i,e1,e2,d⟩:=h.bw j f e
   exact⟨i,e1,by omega,d⟩
  ·obtain ⟨i,e1,e2,d⟩:=k.bw j (by omega) g
   exact⟨i,by omega,e2,d⟩
theorem FD.congr (h:FD t u a b) (k:∀i,a≤i→i<b→v i=u i):FD t v a b:=
 ⟨fun i d e=>by rw[k i d e];exact h.fw i d e,fun j d e=>by
  obtain⟨i,e1,e2,f⟩:=h.bw j d e
  exact⟨i,e1,e2,by rw[k i e1 e2];exact f⟩⟩
theorem xab.congr (h:xab t a b) (k:∀i,a≤i→i<b→u i=t i):xab u a b:=fun i j d f e=>by
 rw[k i d (by omega),k j (by omega) e];exact h i j d f e
theorem lU.of {n:Nat} (o:xaf t0 n) (z:b≤n) (l:xab t a m) (r:xab t m b) (sl:FD t0 t a m) (sr:FD t0 t m b):lU t a m b:=
 ⟨l,r,fun i j d e f g=>by
  obtain⟨x,A,B,p⟩:=sl.fw i d e
  obtain⟨y,C,D,q⟩:=sr.fw j f g
  rw[p,q]
  exact o x y (by omega) (by omega)⟩
structure lN (t0 t:Nat→Kc) (a i:Nat):Prop where
 s:xab t a i
 m:FD t0 t a i
 o:∀k,k<a∨i≤k→t k=t0 k
theorem lN.start (t:Nat→Kc) (a:Nat):lN t t a (a+1):=⟨fun i j d e f=>by omega,FD.refl t a (a+1),fun _ _=>rfl⟩
theorem lN.nil (t:Nat→Kc) (a:Nat):lN t t a a:=⟨fun i j d e f=>by omega,FD.refl t a a,fun _ _=>rfl⟩
theorem lN.mrg {n:Nat} (g:xaf t0 n) (h:lN t0 t a i) (hi:i<n):lU t a i (i+1):=
 lU.of g (by omega) h.s (fun x y d f l=>by omega) h.m (by
  have e:=h.o i (.inr (Nat.le_refl _))
  exact(FD.refl t0 i (i+1)).congr fun k d f=>by rw[show k=i by omega];exact e)
theorem lN.step {n:Nat} (l:xaf t0 n) (h:lN t0 t a i) (hi:i<n) (d:a≤j) (e:j≤i) (g:∀k,a≤k→k<j→(t k).key<(t i).key) (o:∀k,j≤k→k<i→(t i).key<(t k).key):
  lN t0 (iU j i t) a (i+1):=by
 obtain⟨e1,e2⟩:=sK (h.mrg l hi) d e g o;refine⟨e1,?_,fun k f=>(e2.out k f).trans (h.o k (by omega))⟩;refine FD.trans ?_ e2.same;refine h.m.join ((FD.refl t0 i (i+1)).congr fun k p q=>by rw[show k=i by omega];exact h.o i (.inr (Nat.le_refl _))) (by omega) (by omega)
def fQ (t0 t:Nat→Kc) (bs n a:Nat):Prop:=∀q,bs∣q→a≤q→q<n→xab t q (min (q+bs) n)∧FD t0 t q (min (q+bs) n)
def pK (t0 t:Nat→Kc) (bs a:Nat):Prop:=∀q,bs∣q→q+bs≤a→xab t q (q+bs)∧FD t0 t q (q+bs)
theorem xt {q:Nat} (e:bs∣q) (f:bs∣a) (h:a<q):a+bs≤q:=by
 obtain⟨x,rfl⟩:=e;obtain⟨y,rfl⟩:=f;have g:y<x:=Nat.lt_of_mul_lt_mul_left h;have d:bs*(y+1)≤bs*x:=Nat.mul_le_mul_left bs g;rw[Nat.mul_add,Nat.mul_one] at d;exact d
theorem pK.zero (t0 t:Nat→Kc) (bs:Nat) (h:0<bs):pK t0 t bs 0:=fun q _ d=>by omega
theorem pK.succ (h:pK t0 t bs a) (l:bs∣a) (hs:xab u a (a+bs)) (hm:FD t0 u a (a+bs)) (n:∀k,k<a→u k=t k):pK t0 u bs (a+bs):=fun q g x=>by
 by_cases e:q=a
 ·subst e
  exact⟨hs,hm⟩
 ·by_cases e2:a<q
  ·have:=xt g l e2
   by_cases o:bs=0
   ·subst o
    exact⟨fun i j d f r=>by omega,⟨fun i d f=>by omega,fun i d f=>by omega⟩⟩
   ·omega
  ·have p:=xt l g (by omega)
   obtain⟨d,f⟩:=h q g p;exact⟨d.congr fun i e1 e2=>n i (by omega),f.congr fun i e1 e2=>n i (by omega)⟩
theorem pK.all {n:Nat} (h:pK t0 t bs a) (f:bs∣a) (x:n<a+bs) (y:a≤n) (hs:xab u a n) (hm:FD t0 u a n) (g:∀k,k<a→u k=t k):fQ t0 u bs n 0:=fun q d _ r=>by
 by_cases e:q=a
 ·subst e
  rw[show min (q+bs) n=n by omega];exact⟨hs,hm⟩
 ·by_cases e2:a<q
  ·have:=xt d f e2
   omega
  ·have p:=xt f d (by omega)
   obtain⟨l,o⟩:=h q d p;rw[show min (q+bs) n=q+bs by omega];exact⟨l.congr fun i e1 e2=>g i (by omega),o.congr fun i e1 e2=>g i (by omega)⟩
theorem Iv (h:2*bs∣a):bs∣a∧bs∣a+bs:=by
 have d:bs∣a:=Nat.dvd_trans (Nat.dvd_mul_left bs 2) h;exact⟨d,(Nat.dvd_add_right d).2 (Nat.dvd_refl _)⟩
theorem fQ.two {n:Nat} (p:xaf t0 n) (h:fQ t0 t bs n a) (o:2*bs∣a) (q:a+bs<b) (l:b≤n) (r:b≤a+2*bs) (x:b=n∨b=a+2*bs):lU t a (a+bs) b∧FD t0 t a b:=by
 obtain⟨d1,d2⟩:=Iv o;obtain⟨f,d⟩:=h a d1 (Nat.le_refl _) (by omega);obtain⟨g,e⟩:=h (a+bs) d2 (by omega) (by omega);rw[show min (a+bs) n=a+bs by omega] at f d;rw[show min (a+bs+bs) n=b by omega] at g e;exact⟨lU.of p l f g d e,d.join e (by omega) (by omega)⟩
theorem fQ.ah {n:Nat} (h:fQ t0 t bs n a) (p:a≤b) (d:∀k,b≤k→u k=t k):fQ t0 u bs n b:=fun q g o l=>by
 obtain⟨e,f⟩:=h q g (by omega) l;exact⟨e.congr fun i e1 e2=>d i (by omega),f.congr fun i e1 e2=>d i (by omega)⟩
theorem fQ.done {n:Nat} (h:fQ t0 t bs n 0) (d:0<n) (e:n≤bs):xab t 0 n∧FD t0 t 0 n:=by
 have:=h 0 (Nat.dvd_zero bs) (Nat.le_refl _) d;rw[show min (0+bs) n=n by omega] at this;exact this
theorem fQ.lone {n:Nat} (h:fQ t0 t bs n a) (e:2*bs∣a) (d:a<n) (f:n≤a+bs):xab t a n∧FD t0 t a n:=by
 have:=h a (Iv e).1 (Nat.le_refl _) d;rw[show min (a+bs) n=n by omega] at this;exact this
