import Derived.Test.YtoaoejaodhedaaaGreatT01
import Derived.Deep.OwnRows
import Derived.Deep.QuietTactic
import Derived.BigQuiet
import Derived.Deep.RegionHeld3
import Derived.Outline
namespace Go.Proofs.YtoaoejaodhedaaaGreat
open Value renaming slice→V,int→N
open Option renaming none→J,some→M
open IntKind renaming i64→U
open Ending renaming returned→Z
variable {code f fn level x:Int} {b data:List UInt8} {i k n p:Nat} {u v:Value} {w w':World}
structure Ob where
 id:Int
 val:List UInt8
structure Rp where
 fn:Int
 ar:Int
 data:List UInt8
 code:Int
 level:Int
 more:Bool
 next:Int
 ag:List Ob
structure Oc where
 verdict:Int
 ae:Rp
def Rp.zero:Rp:=⟨0,0,[],0,0,false,0,[]⟩
def jW (f:Int):Bool:=decide (1≤f)&&decide (f≤4)
def aR (f:Int):Bool:=jW f||f==17||f==43
def Rp.plain (r:Rp):Bool:=r.code==0&&r.level==0&& !r.more&&r.next==0&&r.ag.isEmpty
def Rp.short (r:Rp):Bool:=r.data.isEmpty&&r.plain
def aQ (last:Int):List Ob→Bool
 |[]=>true
 |x::l=>decide (last<x.id)&&decide (x.id≤255)&&aQ x.id l
def aB:List Ob→Nat
 |[]=>0
 |x::l=>2+x.val.length+aB l
def bS (last:Int):List Ob→Int
 |[]=>last
 |x::l=>bS x.id l
def MT (level:Int):Bool:=(decide (1≤level)&&decide (level≤3))||(decide (129≤level)&&decide (level≤131))
def eh (l:List Ob):Bool:=aQ (-1) l&&decide (aB l≤246)
def Rp.lC (r:Rp):Bool:=
 r.data.isEmpty&&decide (1≤r.code)&&decide (r.code≤3)&&MT r.level&&decide (0≤r.next)&&decide (r.next≤255)&&eh r.ag&&
  (if r.more then !r.ag.isEmpty&&decide (bS (-1) r.ag<r.next) else r.next==0)
def Rp.ok (r:Rp):Bool:=
 aR r.fn&&
  if r.ar=0 then
   (if r.fn=43 then r.lC else if r.fn=17 then decide (1≤r.data.length)&&decide (r.data.length≤251)&&r.plain else decide (1≤r.data.length)&&decide (r.data.length≤250)&&r.plain)
  else decide (1≤r.ar)&&decide (r.ar≤255)&&r.short
def byteI (x:Int):UInt8:=UInt8.ofNat x.toNat
theorem au (c:0≤x) (a:x≤255):((byteI x).toNat:Int)=x:=by
 unfold byteI;rw[UInt8.toNat_ofNat'];omega
def aN:List Ob→List UInt8
 |[]=>[]
 |x::l=>byteI x.id::byteI x.val.length::(x.val++aN l)
def fb (r:Rp):List UInt8:=[43,14,byteI r.code,byteI r.level,byteI (if r.more then 255 else 0),byteI r.next,byteI r.ag.length]
def Rp.bE (r:Rp):List UInt8:=
 if r.ar=0 then (if r.fn=43 then fb r++aN r.ag else byteI r.fn::byteI r.data.length::r.data) else [byteI (r.fn+128),byteI r.ar]
theorem ja (x:Ob):∀l:List Ob,aN (l++[x])=aN l++([byteI x.id,byteI x.val.length]++x.val)
 |[]=>by simp [aN]
 |a::l=>by simp [aN,ja x l]
theorem eB:∀l:List Ob,(aN l).length=aB l
 |[]=>rfl
 |a::l=>by simp [aN,aB,eB l];omega
theorem dd (h:aR f=true):1≤f∧f≤43:=by
 unfold aR jW at h;simp at h;omega
theorem wQ:∀(l:List Ob) (last:Int),aQ last l=true→∀x∈l,last<x.id∧x.id≤255
 |[],_,_,x,c=>by cases c
 |a::l,last,h,x,c=>by
  simp only[aQ,Bool.and_eq_true,decide_eq_true_eq] at h;rcases List.mem_cons.1 c with rfl|c
  ·exact h.1
  ·have:=wQ l a.id h.2 x c
   omega
theorem oR:∀(l:List Ob) (x:Ob),x∈l→x.val.length+2≤aB l
 |[],x,c=>by cases c
 |a::l,x,c=>by
  rcases List.mem_cons.1 c with rfl|c
  ·simp [aB];omega
  ·have:=oR l x c
   simp [aB];omega
theorem qu:∀(l:List Ob),2*l.length≤aB l
 |[]=>Nat.zero_le _
 |a::l=>by have:=qu l;simp [aB];omega
theorem jr {l:List Ob} (h:eh l=true):l.length≤123∧aB l≤246∧∀(k:Nat) (x:Ob),l[k]?=M x→0≤x.id∧x.id≤255∧x.val.length≤244:=by
 simp only[eh,Bool.and_eq_true,decide_eq_true_eq] at h;have:=qu l;refine⟨by omega,h.2,fun k x a=>?_⟩;have hm:=List.mem_of_getElem? a;have c:=wQ l _ h.1 x hm;have d:=oR l x hm;omega
theorem Gx {ar:Int} {more:Bool} {next:Int} {ag:List Ob} (h:Rp.ok ⟨fn,ar,data,code,level,more,next,ag⟩=true):
  (1≤fn∧fn≤43)∧((ar≠0∧1≤ar∧ar≤255)∨(ar=0∧fn≠43∧fn≤42∧data.length≤251)∨
   (ar=0∧fn=43∧data=[]∧1≤code∧code≤3∧1≤level∧level≤131∧0≤next∧next≤255∧eh ag=true)):=by
 unfold Rp.ok at h;rw[Bool.and_eq_true] at h;obtain⟨m,h⟩:=h;have g:1≤fn∧fn≤43:=dd m;refine⟨g,?_⟩;by_cases a:ar=0
 ·subst a
  simp only[if_pos] at h;by_cases c:fn=43
  ·subst c
   simp only[if_pos,Rp.lC,Bool.and_eq_true,decide_eq_true_eq,List.isEmpty_iff] at h;obtain⟨⟨⟨⟨⟨⟨⟨j,r⟩,q⟩,d⟩,l⟩,o⟩,s⟩,_⟩:=h;unfold MT at d;simp at d;exact .inr (.inr ⟨rfl,rfl,j,r,q,by omega,by omega,l,o,s⟩)
  ·simp only[if_neg c] at h
   refine .inr (.inl ⟨rfl,c,by omega,?_⟩);by_cases e:fn=17
   ·simp only[if_pos e,Bool.and_eq_true,decide_eq_true_eq] at h;exact h.1.2
   ·simp only[if_neg e,Bool.and_eq_true,decide_eq_true_eq] at h;omega
 ·simp only[if_neg a,Bool.and_eq_true,decide_eq_true_eq] at h
  exact .inl ⟨a,h.1.1,h.1.2⟩
def aI (b:List UInt8) (i:Nat):Int:=((b.getD i 0).toNat:Int)
theorem dZ (b:List UInt8) (i:Nat):0≤aI b i∧aI b i≤255:=by
 unfold aI;have:=(b.getD i 0).toNat_lt;omega
theorem cQ (x:UInt8):byteI (x.toNat:Int)=x:=by
 unfold byteI;simp
theorem fN (h:n≤255):(byteI (n:Int)).toNat=n:=by
 have:=au (x:=(n:Int)) (by omega) (by omega);omega
def bB:Nat→List UInt8→Option (List Ob×List UInt8)
 |0,b=>some ([],b)
 |_+1,[]=>none
 |_+1,[_]=>none
 |k+1,i::n::r=>if n.toNat≤r.length then (bB k (r.drop n.toNat)).map fun p=>(⟨(i.toNat:Int),r.take n.toNat⟩::p.1,p.2) else none
theorem qO:∀(l:List Ob) (t:List UInt8),(∀x∈l,0≤x.id∧x.id≤255∧x.val.length≤244)→bB l.length (aN l++t)=M (l,t)
 |[],t,_=>rfl
 |x::l,t,h=>by
  obtain⟨c,d,j⟩:=h x (List.mem_cons_self ..);have g:(byteI (x.val.length:Int)).toNat=x.val.length:=fN (by omega);have hi:((byteI x.id).toNat:Int)=x.id:=au c d;have a:=qO l t (fun y e=>h y (List.mem_cons_of_mem _ e));show bB (l.length+1) (byteI x.id::byteI x.val.length::(x.val++aN l++t))=_;unfold bB;rw[g,List.append_assoc,if_pos (by simp),List.drop_left,List.take_left,a,hi];rfl
theorem nD:∀(k:Nat) (b:List UInt8) (l:List Ob) (t:List UInt8),bB k b=M (l,t)→l.length=k∧b=aN l++t∧∀x∈l,0≤x.id∧x.id≤255∧x.val.length≤255
 |0,b,l,t,h=>by
  simp only[bB,Option.some.injEq,Prod.mk.injEq] at h;obtain⟨rfl,rfl⟩:=h;exact⟨rfl,rfl,fun x a=>by cases a⟩
 |k+1,[],l,t,h=>by simp [bB] at h
 |k+1,[_],l,t,h=>by simp [bB] at h
 |k+1,i::n::r,l,t,h=>by
  unfold bB at h;by_cases c:n.toNat≤r.length
  ·rw [if_pos c] at h
   cases hd:bB k (r.drop n.toNat) with
   |none=>rw[hd] at h;cases h
   |some p=>
    obtain⟨d,o⟩:=p;rw[hd] at h;simp only[Option.map_some,Option.some.injEq,Prod.mk.injEq] at h;obtain⟨rfl,rfl⟩:=h;obtain⟨e,q,m⟩:=nD k _ _ _ hd;have g:(r.take n.toNat).length=n.toNat:=by simp;omega
    have j:=n.toNat_lt;have s:=i.toNat_lt;refine⟨by simp [e],?_,?_⟩
    ·show i::n::r=byteI (i.toNat:Int)::byteI ((r.take n.toNat).length:Int)::(r.take n.toNat++aN d)++o
     rw[g,cQ,cQ];simp only[List.cons_append,List.append_assoc];rw[←q,List.take_append_drop]
    ·intro x a
     rcases List.mem_cons.1 a with rfl|a
     ·exact ⟨by show (0:Int)≤(i.toNat:Int);omega,by show (i.toNat:Int)≤255;omega,by show (r.take n.toNat).length≤255;omega⟩
     ·exact m x a
  ·rw [if_neg c] at h;cases h
def Rp.lJ (f x:Int):Rp:=⟨f,x,[],0,0,false,0,[]⟩
def Rp.eP (f:Int) (d:List UInt8):Rp:=⟨f,0,d,0,0,false,0,[]⟩
def Rp.devOf (b:List UInt8) (l:List Ob):Rp:=⟨43,0,[],aI b 2,aI b 3,b.getD 4 0==255,aI b 5,l⟩
def cM (b:List UInt8):Option Rp:=
 if b.length<7∨aI b 1≠14 then none
 else match bB (b.getD 6 0).toNat (b.drop 7) with
  |some (l,[])=>if (Rp.devOf b l).ok=true∧(aI b 4=0∨aI b 4=255) then some (Rp.devOf b l) else none
  |_=>none
def Rp.dec (b:List UInt8):Option Rp:=
 if b.length<2∨253<b.length then none
 else if aR (aI b 0-128)=true then (if b.length=2∧aI b 1≠0 then some (Rp.lJ (aI b 0-128) (aI b 1)) else none)
 else if aI b 0=43 then cM b
 else if aR (aI b 0)=true∧aI b 1=(b.length:Int)-2 then (if (Rp.eP (aI b 0) (b.drop 2)).ok=true then some (Rp.eP (aI b 0) (b.drop 2)) else none)
 else none
theorem C3 (h:aR f=true):f=1∨f=2∨f=3∨f=4∨f=17∨f=43:=by
 unfold aR jW at h;simp at h;omega
theorem kT (h:f<1∨43<f):aR f=false:=by
 cases hk:aR f with
 |false=>rfl
 |true=>have:=C3 hk;omega
theorem wG {r:Rp} (h:r.plain=true):r=⟨r.fn,r.ar,r.data,0,0,false,0,[]⟩:=by
 obtain⟨fn,ar,data,code,level,more,next,ag⟩:=r;simp only[Rp.plain,Bool.and_eq_true,beq_iff_eq,Bool.not_eq_true',List.isEmpty_iff] at h;obtain⟨⟨⟨⟨rfl,rfl⟩,rfl⟩,rfl⟩,rfl⟩:=h;rfl
theorem jB {r:Rp} (h:r.ok=true):
  (aR r.fn=true∧1≤r.ar∧r.ar≤255∧r=Rp.lJ r.fn r.ar)∨
  (aR r.fn=true∧r.fn≠43∧1≤r.data.length∧r.data.length≤251∧r=Rp.eP r.fn r.data)∨
  (r.fn=43∧r.ar=0∧r.lC=true):=by
 unfold Rp.ok at h;rw[Bool.and_eq_true] at h;obtain⟨e,h⟩:=h;by_cases c:r.ar=0
 ·rw [if_pos c] at h
  by_cases d:r.fn=43
  ·rw [if_pos d] at h
   exact .inr (.inr ⟨d,c,h⟩)
  ·rw [if_neg d] at h
   have a:1≤r.data.length∧r.data.length≤251∧r.plain=true:=by
    by_cases g:r.fn=17
    ·rw [if_pos g] at h;simp only[Bool.and_eq_true,decide_eq_true_eq] at h;exact⟨by omega,by omega,h.2⟩
    ·rw [if_neg g] at h;simp only[Bool.and_eq_true,decide_eq_true_eq] at h;exact⟨by omega,by omega,h.2⟩
   refine .inr (.inl ⟨e,d,a.1,a.2.1,?_⟩);have:=wG a.2.2;rw[c] at this;exact this
 ·rw [if_neg c] at h
  simp only[Bool.and_eq_true,decide_eq_true_eq,Rp.short,List.isEmpty_iff] at h;obtain⟨⟨j,a⟩,m,l⟩:=h;refine .inl ⟨e,j,a,?_⟩;have:=wG l;rw[m] at this;exact this
theorem m9 {r:Rp} (h:r.lC=true):r.data=[]∧(1≤r.code∧r.code≤3)∧(1≤r.level∧r.level≤131)∧(0≤r.next∧r.next≤255)∧eh r.ag=true:=by
 simp only[Rp.lC,Bool.and_eq_true,decide_eq_true_eq,List.isEmpty_iff] at h;obtain⟨⟨⟨⟨⟨⟨⟨d,j⟩,l⟩,a⟩,e⟩,g⟩,c⟩,_⟩:=h;unfold MT at a;simp at a;exact⟨d,⟨j,l⟩,by omega,⟨e,g⟩,c⟩
theorem AY {r:Rp} (h:r.ok=true):Rp.dec r.bE=M r:=by
 rcases jB h with⟨c,q,s,he⟩|⟨c,j,q,s,he⟩|⟨j,d,A⟩
 ·have B:=dd c
  have a:r.bE=[byteI (r.fn+128),byteI r.ar]:=by unfold Rp.bE;rw[if_neg (by omega)]
  have g:aI r.bE 0=r.fn+128:=by rw[a];exact au (by omega) (by omega)
  have e:aI r.bE 1=r.ar:=by rw[a];exact au (by omega) (by omega)
  have m:r.bE.length=2:=by rw[a];rfl
  unfold Rp.dec;rw[if_neg (by omega),g,e,show r.fn+128-128=r.fn by omega,if_pos c,if_pos ⟨m,by omega⟩,←he]
 ·have B:=dd c
  have d:r.ar=0:=by rw[he];rfl
  have a:r.bE=byteI r.fn::byteI r.data.length::r.data:=by unfold Rp.bE;rw[if_pos d,if_neg j]
  have g:aI r.bE 0=r.fn:=by rw[a];exact au (by omega) (by omega)
  have e:aI r.bE 1=r.data.length:=by rw[a];exact au (by omega) (by omega)
  have m:r.bE.length=r.data.length+2:=by rw[a];rfl
  have l:r.bE.drop 2=r.data:=by rw[a];rfl
  unfold Rp.dec;rw[if_neg (by omega),g,e,l,if_neg (by rw[kT (by omega)];decide),if_neg j,if_pos ⟨c,by omega⟩,←he,if_pos h]
 ·obtain ⟨q,s,J,I,E⟩:=m9 A
  obtain⟨b1,b2,b3⟩:=jr E;have a:r.bE=fb r++aN r.ag:=by unfold Rp.bE;rw[if_pos d,if_pos j]
  have m:r.bE.length=7+aB r.ag:=by rw[a,List.length_append,eB];rfl
  have g:aI r.bE 0=43:=by rw[a];rfl
  have e:aI r.bE 1=14:=by rw[a];rfl
  have l:aI r.bE 2=r.code:=by rw[a];exact au (by omega) (by omega)
  have C:aI r.bE 3=r.level:=by rw[a];exact au (by omega) (by omega)
  have t:r.bE.getD 4 0=byteI (if r.more then 255 else 0):=by rw[a];rfl
  have G:aI r.bE 5=r.next:=by rw[a];exact au (by omega) (by omega)
  have D:(r.bE.getD 6 0).toNat=r.ag.length:=by rw[a];exact fN (by omega)
  have z:r.bE.drop 7=aN r.ag++[]:=by rw[a,List.append_nil];rfl
  have y:bB r.ag.length (aN r.ag++[])=M (r.ag,[]):=qO r.ag [] fun x d=>by
   obtain⟨k,c⟩:=List.getElem?_of_mem d;exact b3 k x c
  have hm:(r.bE.getD 4 0==255)=r.more:=by rw[t];cases r.more<;>rfl
  have o:aI r.bE 4=0∨aI r.bE 4=255:=by unfold aI;rw[t];cases r.more<;>simp [byteI]
  have F:Rp.devOf r.bE r.ag=r:=by
   unfold Rp.devOf;rw[l,C,G,hm,←j,←d,←q]
  unfold Rp.dec;rw[if_neg (by omega),g,if_neg (by decide),if_pos rfl];unfold cM;rw[if_neg (by rw[e];omega),D,z,y];simp only[F];rw[if_pos ⟨h,o⟩]
theorem EX {r:Rp} (h:Rp.dec b=M r):r.ok=true∧r.bE=b:=by
 unfold Rp.dec at h;by_cases j:b.length<2∨253<b.length
 ·rw [if_pos j] at h;cases h
 rw[if_neg j] at h;obtain⟨c0,c1,t,rfl⟩:∃c0 c1 t,b=c0::c1::t:=by
  match b,j with
  |c0::c1::t,_=>exact⟨c0,c1,t,rfl⟩
  |[],j=>exact absurd (.inl (by simp)) j
  |[_],j=>exact absurd (.inl (by simp)) j
 have G:aI (c0::c1::t) 0=(c0.toNat:Int):=rfl;have E:aI (c0::c1::t) 1=(c1.toNat:Int):=rfl;have O:=c0.toNat_lt;have P:=c1.toNat_lt;rw[G,E] at h;by_cases C:aR ((c0.toNat:Int)-128)=true
 ·rw [if_pos C] at h
  by_cases m:(c0::c1::t).length=2∧(c1.toNat:Int)≠0
  ·rw [if_pos m] at h
   simp only[Option.some.injEq] at h;subst h;obtain⟨m,D⟩:=m;obtain rfl:t=[]:=List.eq_nil_of_length_eq_zero (by simpa using m);refine⟨?_,?_⟩
   ·show (aR ((c0.toNat:Int)-128)&&(if (c1.toNat:Int)=0 then _ else decide (1≤(c1.toNat:Int))&&decide ((c1.toNat:Int)≤255)&&true))=true
    rw[C,if_neg D,Bool.true_and,Bool.and_true,Bool.and_eq_true];exact⟨decide_eq_true (by omega),decide_eq_true (by omega)⟩
   ·unfold Rp.bE Rp.lJ
    rw[if_neg D];show [byteI ((c0.toNat:Int)-128+128),byteI (c1.toNat:Int)]=_;rw[show (c0.toNat:Int)-128+128=c0.toNat by omega,cQ,cQ]
  ·rw [if_neg m] at h;cases h
 ·rw [if_neg C] at h
  by_cases A:(c0.toNat:Int)=43
  ·rw [if_pos A] at h
   unfold cM at h;by_cases o:(c0::c1::t).length<7∨aI (c0::c1::t) 1≠14
   ·rw [if_pos o] at h;cases h
   rw[if_neg o] at h;rw[E] at o;have N:(c1.toNat:Int)=14:=by
    by_cases q:(c1.toNat:Int)=14
    ·exact q
    ·exact absurd (.inr q) o
   obtain⟨c2,c3,c4,d,c,t,rfl⟩:∃c2 c3 c4 d c s,t=c2::c3::c4::d::c::s:=by
    have a:¬(c0::c1::t).length<7:=fun q=>o (.inl q)
    simp only[List.length_cons] at a
    match t,a with
    |c2::c3::c4::d::c::s,_=>exact⟨c2,c3,c4,d,c,s,rfl⟩
    |[],a=>simp at a
    |[_],a=>simp at a
    |[_,_],a=>simp at a
    |[_,_,_],a=>simp at a
    |[_,_,_,_],a=>simp at a
   have K:(c0::c1::c2::c3::c4::d::c::t).getD 6 0=c:=rfl;have F:(c0::c1::c2::c3::c4::d::c::t).drop 7=t:=rfl;rw[K,F] at h;cases hd:bB c.toNat t with
   |none=>rw[hd] at h;cases h
   |some p=>
    obtain⟨l,u⟩:=p;rw[hd] at h;cases u with
    |cons _ _=>simp at h
    |nil=>
     simp only at h;by_cases e:(Rp.devOf (c0::c1::c2::c3::c4::d::c::t) l).ok=true∧(aI (c0::c1::c2::c3::c4::d::c::t) 4=0∨aI (c0::c1::c2::c3::c4::d::c::t) 4=255)
     ·rw [if_pos e] at h
      simp only[Option.some.injEq] at h;subst h;refine⟨e.1,?_⟩;obtain⟨I,m,_⟩:=nD _ _ _ _ hd;have z:(c4.toNat:Int)=0∨(c4.toNat:Int)=255:=e.2;have L:byteI (if (Rp.devOf (c0::c1::c2::c3::c4::d::c::t) l).more then 255 else 0)=c4:=by
       show byteI (if (c4==255)=true then 255 else 0)=c4;rcases z with z|z
       ·obtain rfl:c4=0:=UInt8.toNat_inj.1 (by simp;omega)
        rfl
       ·obtain rfl:c4=255:=UInt8.toNat_inj.1 (by simp;omega)
        rfl
      have y:c0=43:=UInt8.toNat_inj.1 (by simp;omega);have B:c1=14:=UInt8.toNat_inj.1 (by simp;omega);unfold Rp.bE;rw[if_pos (show (Rp.devOf (c0::c1::c2::c3::c4::d::c::t) l).ar=0 from rfl),if_pos (show (Rp.devOf (c0::c1::c2::c3::c4::d::c::t) l).fn=43 from rfl)];unfold fb;rw[L];show [43,14,byteI (c2.toNat:Int),byteI (c3.toNat:Int),c4,byteI (d.toNat:Int),byteI (l.length:Int)]++aN l=_;rw[I,cQ,cQ,cQ,cQ,m,y,B];simp
     ·rw [if_neg e] at h;cases h
  ·rw [if_neg A] at h
   by_cases g:aR (c0.toNat:Int)=true∧(c1.toNat:Int)=((c0::c1::t).length:Int)-2
   ·rw [if_pos g] at h
    have J:(c0::c1::t).drop 2=t:=rfl;rw[J] at h;by_cases e:(Rp.eP (c0.toNat:Int) t).ok=true
    ·rw [if_pos e] at h
     simp only[Option.some.injEq] at h;subst h;refine⟨e,?_⟩;unfold Rp.bE;rw[if_pos (show (Rp.eP (c0.toNat:Int) t).ar=0 from rfl),if_neg (show ¬(Rp.eP (c0.toNat:Int) t).fn=43 from A)];show byteI (c0.toNat:Int)::byteI (t.length:Int)::t=_;have a:(t.length:Int)=c1.toNat:=by have:=g.2;simp only[List.length_cons] at this;omega
     rw[a,cQ,cQ]
    ·rw [if_neg e] at h;cases h
   ·rw [if_neg g] at h;cases h
theorem BS {r:Rp} (h:r.ok=true):2≤r.bE.length∧r.bE.length≤253:=by
 have a:=AY h;unfold Rp.dec at a;by_cases c:r.bE.length<2∨253<r.bE.length
 ·rw [if_pos c] at a;cases a
 ·omega
open Go.RowKit
set_option maxHeartbeats 3200000
set_option maxRecDepth 100000
theorem J4:Keeps (· =p) w (w.setCell ⟨p,i,J⟩ u):=(Keeps.refl _ _).set _ _ rfl
def cY (w:World) (v:Value) (l:List Ob):Prop:=
 ∃a c,v=V a l.length c∧l.length≤c∧c≤maxLen∧(a=none→c=0)∧
  (l≠[]→∃b o,a=M ⟨b,o,J⟩∧∀i x,l[i]?=M x→w.cell? ⟨b,o+i*2,J⟩=M (N U x.id)∧∃v,w.cell? ⟨b,o+i*2+1,J⟩=M v∧Bs w v x.val)
theorem cY.nil (w:World):cY w (V none 0 0) []:=⟨none,0,rfl,Nat.le_refl _,Nat.zero_le _,fun _=>rfl,fun h=>absurd rfl h⟩
theorem cY.ah {w w':World} {v:Value} {l:List Ob} (h:cY w v l) (d:Below w.heap.size w w'):cY w' v l:=by
 obtain⟨a,c,e,m,j,t,r⟩:=h;refine⟨a,c,e,m,j,t,fun g=>?_⟩;obtain⟨b,o,y,q⟩:=r g;refine⟨b,o,y,fun i x s=>?_⟩;obtain⟨c1,v,c2,e⟩:=q i x s;exact⟨cell_keep d c1,v,cell_keep d c2,e.ah d⟩
theorem cY.len {l:List Ob} (h:cY w v l):l.length≤maxLen:=by
 obtain⟨a,c,_,e,d,_⟩:=h;exact Nat.le_trans e d
theorem cY.at {l:List Ob} (h:cY w v l) (j:l≠[]):
  ∃b o c,v=V (M ⟨b,o,J⟩) l.length c∧l.length≤c∧c≤maxLen∧∀i x,l[i]?=M x→w.cell? ⟨b,o+i*2,J⟩=M (N U x.id)∧∃v,w.cell? ⟨b,o+i*2+1,J⟩=M v∧Bs w v x.val:=by
 obtain⟨a,c,m,d,q,r,g⟩:=h;obtain⟨b,o,rfl,e⟩:=g j;exact⟨b,o,c,m,d,q,e⟩
def cN (f:Int):Int:=if f=1∨f=2 then 2000 else if f=3∨f=4 then 125 else 0
theorem rR (f:Int):(f=1∨f=2∨f=3∨f=4)∨(jW f=false∧(f==1)=false∧(f==2)=false∧(f==3)=false∧(f==4)=false):=by
 by_cases h:f=1∨f=2∨f=3∨f=4
 ·exact .inl h
 ·refine .inr ⟨?_,?_,?_,?_,?_⟩
  ·unfold jW
   cases hx:(decide (1≤f)&&decide (f≤4)) with
   |false=>rfl
   |true=>simp at hx;omega
  all_goals (rw[beq_eq_false_iff_ne];omega)
theorem gJ (f:Int) (w:World):Calls Tryz.prog 155 #[N U f] w fun r w'=>r=Z (N U (cN f))∧w=w':=by
 rcases rR f with h|⟨j,c,g,e,d⟩
 ·rcases h with rfl|rfl|rfl|rfl
  all_goals
   go_enter Tryz.func155,Tryz.ntmps155;go_wp2;go_ret;exact⟨rfl,rfl⟩
 ·have a:cN f=0:=by
   rw[beq_eq_false_iff_ne] at c g e d;unfold cN;rw[if_neg (by omega),if_neg (by omega)]
  replace a:=hid a;go_enter Tryz.func155,Tryz.ntmps155;go_wp2;go_ret;exact⟨by rw[a.out];rfl,rfl⟩
theorem GF (f:Int):decide (0<cN f)=jW f:=by
 unfold cN jW;by_cases c:f=1∨f=2
 ·rw [if_pos c];rcases c with rfl|rfl<;>rfl
 ·rw [if_neg c]
  by_cases a:f=3∨f=4
  ·rw [if_pos a];rcases a with rfl|rfl<;>rfl
  ·rw [if_neg a]
   cases hx:(decide (1≤f)&&decide (f≤4)) with
   |false=>rfl
   |true=>simp at hx;omega
theorem ur (f:Int) (w:World):Calls Tryz.prog 215 #[N U f] w fun r w'=>r=Z (.bool (jW f))∧w=w':=by
 have a:=hid (GF f);go_enter Tryz.func215,Tryz.ntmps215;go_wp2_with (go_at_call 155;refine(gJ _ _).mono ?_;rintro r w1 ⟨rfl,rfl⟩);go_ret;exact⟨ret_bool a.out,rfl⟩
theorem dJ (f:Int) (w:World):Calls Tryz.prog 195 #[N U f] w fun r w'=>r=Z (.bool (aR f))∧w=w':=by
 go_enter Tryz.func195,Tryz.ntmps195;go_wp2_with (go_at_call 215;refine(ur _ _).mono ?_;rintro r w1 ⟨rfl,rfl⟩)
 all_goals
  go_ret;exact⟨ret_bool (by simp [aR, *]),rfl⟩
theorem vT {α:Type} (l:List α):((l.length:Int)==0)=l.isEmpty:=by cases l<;>simp<;>omega
theorem DH {a b:Bool} (h:a=b) (c:Below n w w'):Ending.returned (.bool a)=Z (.bool b)∧Below n w w':=⟨by rw[h],c⟩
theorem Ca (fn ar:Int) (e:Value) (code level:Int) (more:Bool) (next:Int) (d:Value) (data:List UInt8) (ag:List Ob) (w:World) (j:cY w d ag):
  Calls Tryz.prog 216 #[.agg #[N U fn,N U ar,e,N U code,N U level,.bool more,N U next,d]] w fun r w'=>r=Z (.bool (Rp.plain ⟨fn,ar,data,code,level,more,next,ag⟩))∧Below w.heap.size w w':=by
 obtain⟨a,c,rfl,g⟩:=j;clear g;go_enter Tryz.func216,Tryz.ntmps216;go_wp2
 all_goals
  go_ret;exact DH (by simp [Rp.plain,vT, *]) (bal' _ _)
theorem Bv:Tryz.prog.cellsOf 5=1:=by kernel_rfl
theorem dB:Tryz.prog.cellsOf 3=1:=by kernel_rfl
theorem mJ:Tryz.prog.cellsOf 4=1:=by kernel_rfl
theorem qA:Tryz.prog.cellsOf 50=1:=by kernel_rfl
theorem E6:Tryz.prog.cellsOf 51=1:=by kernel_rfl
theorem JQ:Tryz.prog.cellsOf 165=2:=by kernel_rfl
theorem Jv {α:Type} {l:List α} (h:l.length=2):∃a b,l=[a,b]:=by
 match l,h with
 |[a,b],_=>exact⟨a,b,rfl⟩
theorem Kr {α:Type} (n:Nat) (P:Nat→α→Prop) (h:∀i,i<n→∃x,P i x):∃l:List α,l.length=n∧∀i x,l[i]?=M x→P i x:=by
 induction n with
 |zero=>exact⟨[],rfl,fun i x d=>by simp at d⟩
 |succ n ih=>
  obtain⟨l,e,g⟩:=ih (fun i hi=>h i (by omega));obtain⟨x,d⟩:=h n (by omega);refine⟨l++[x],by simp [e],fun i y a=>?_⟩;by_cases hi:i<n
  ·rw [List.getElem?_append_left (by omega)] at a;exact g i y a
  ·have c:=(List.getElem?_eq_some_iff.1 a).1
   have:i=n:=by simp at c;omega
   subst this;rw[List.getElem?_append_right (by omega),e] at a;simp at a;subst a;exact d
theorem cY.jz {w:World} {v:Value} (h:Rd Tryz.prog w 51 [v]):∃l,cY w v l:=by
 rcases h.slice Tryz.underlying51 with h|⟨a,len,cap,h,G,hm,C⟩
 ·cases h;exact⟨[],cY.nil w⟩
 ·cases h
  have D:∀i,i<len→∃x:Ob,w.cell? (a.add (i*2))=M (N U x.id)∧∃v,w.cell? ((a.add (i*2)).add 1)=M v∧Bs w v x.val:=by
   intro i hi;obtain⟨I,j,e,y⟩:=C i hi;rw[JQ] at j e;obtain⟨d0,d1,rfl⟩:=Jv j;obtain⟨_,q⟩:=y.struct Tryz.underlying165;have f0:=q _ (List.mem_cons_self ..);have f1:=q _ (List.mem_cons_of_mem _ (List.mem_cons_self ..));simp only[dB,qA,List.drop_zero,List.drop_succ_cons,List.take_succ_cons,List.take_zero] at f0 f1;obtain⟨k,o,_⟩:=Rd.int Tryz.underlying3 f0;obtain⟨x,g⟩:=Bs.jz Tryz.underlying50 Tryz.underlying5 Bv f1;simp only[List.cons.injEq,and_true] at o;subst o;have c0:=e 0 (by omega);have c1:=e 1 (by omega);exact⟨⟨k,x⟩,by simpa [Addr.add] using c0,d1,c1,g⟩
  obtain⟨l,A,t⟩:=Kr len _ D;refine⟨l,some a,cap,by rw[A],by omega,hm,fun h=>by simp at h,fun z=>?_⟩;have F:0<len:=by
   rcases Nat.eq_zero_or_pos len with h|h
   ·exfalso;apply z;exact List.eq_nil_of_length_eq_zero (by omega)
   ·exact h
  obtain⟨r,d⟩:∃x,l[0]?=M x:=⟨l[0],List.getElem?_eq_getElem (by omega)⟩
  have c:a=⟨a.block,a.off,J⟩:=by
   have:=(t 0 r d).1;exact uQ (v:=N U r.id) (by simpa [Addr.add] using this)
  refine⟨a.block,a.off,by rw[←c],fun i x g=>?_⟩;obtain⟨m,B,s,E⟩:=t i x g;rw[c,add_lit] at m;rw[c,add_lit,add_lit] at s;exact⟨m,B,s,E⟩
theorem fx (x:Ob):∀(l:List Ob) (last:Int),aQ last (l++[x])=(aQ last l&&decide (bS last l<x.id)&&decide (x.id≤255))
 |[],last=>by show (decide _&&decide _&&true)=(true&&decide _&&decide _);rw[Bool.and_true,Bool.true_and];rfl
 |a::l,last=>by
  show (decide _&&decide _&&aQ a.id (l++[x]))=(decide _&&decide _&&aQ a.id l&&decide (bS a.id l<x.id)&&decide (x.id≤255));rw[fx x l a.id];simp only[Bool.and_assoc]
theorem jw (x:Ob):∀(l:List Ob) (last:Int),bS last (l++[x])=x.id
 |[],last=>rfl
 |a::l,last=>by simp [bS,jw x l]
theorem eI (x:Ob):∀(l:List Ob),aB (l++[x])=aB l+(2+x.val.length)
 |[]=>by simp [aB]
 |a::l=>by simp [aB,eI x l];omega
theorem mV (k:List Ob):∀(l:List Ob) (last:Int),aQ last (l++k)=true→aQ last l=true
 |[],last,_=>rfl
 |a::l,last,h=>by
  simp only[List.cons_append,aQ,Bool.and_eq_true] at h ⊢;exact⟨h.1,mV k l _ h.2⟩
theorem fA (k:List Ob):∀(l:List Ob),aB l≤aB (l++k)
 |[]=>Nat.zero_le _
 |a::l=>by have:=fA k l;simp [aB];omega
theorem az {α:Type} {l:List α} {x:α} (h:l[k]?=M x):l.take (k+1)=l.take k++[x]:=by
 rw[List.take_add_one,h];rfl
theorem LQ {l:List Ob} {x:Ob} (h:l[k]?=M x) (j:¬(bS (-1) (l.take k)<x.id∧x.id≤255∧aB (l.take k)+(2+x.val.length)≤246)):eh l=false:=by
 cases hx:eh l with
 |false=>rfl
 |true=>
  exfalso;apply j;unfold eh at hx;simp only[Bool.and_eq_true,decide_eq_true_eq] at hx;have e:l=l.take (k+1)++l.drop (k+1):=(List.take_append_drop _ _).symm;have c:=hx.1;have g:=hx.2;rw[e] at c g;have a:=mV _ _ _ c;have d:=fA (l.drop (k+1)) (l.take (k+1));rw[az h] at a d g;rw[fx] at a;rw[eI] at d;simp only[Bool.and_eq_true,decide_eq_true_eq] at a;exact⟨a.1.2,a.2,by omega⟩
def Rp.rP (r:Rp):Bool:=r.data.isEmpty&&decide (1≤r.code)&&decide (r.code≤3)&&MT r.level&&decide (0≤r.next)&&decide (r.next≤255)
theorem Rp.BU (r:Rp):r.lC=(r.rP&&eh r.ag&&(if r.more then !r.ag.isEmpty&&decide (bS (-1) r.ag<r.next) else r.next==0)):=rfl
theorem mN (fn ar:Int) (c:Value) (code level:Int) (more:Bool) (next:Int) (o:Value) (data:List UInt8) (ag:List Ob) (w:World) (j:Bs w c data) (t:level≤9223372036854775807) (y: -9223372036854775808≤level)
  (d:Rp.rP ⟨fn,ar,data,code,level,more,next,ag⟩=false):
  Calls Tryz.prog 217 #[.agg #[N U fn,N U ar,c,N U code,N U level,.bool more,N U next,o]] w fun r w'=>r=Z (.bool false)∧Below w.heap.size w w':=by
 obtain⟨a,c2,rfl,s⟩:=j;clear s;have H:Hid (data=[]→1≤code→code≤3→(1≤level∧level≤3∨129≤level∧level≤131)→0≤next→next≤255→False):=by
  intro a1 a g z m e;subst a1;have:MT level=true:=by unfold MT;simp;omega
  simp [Rp.rP,a,g,this,m,e] at d
 clear d;have l:Hid (data.length=0→1≤code→code≤3→(1≤level∧level≤3∨129≤level∧level≤131)→0≤next→next≤255→False):=fun h=>H.out (List.eq_nil_of_length_eq_zero h)
 clear H;generalize data.length=n at*;by_cases q:128<level
 all_goals
  go_enter Tryz.func217,Tryz.ntmps217;go_wp2
  all_goals first
   |(go_ret;exact⟨rfl,bal' _ _⟩)
   |(exfalso;exact l.out (by omega) (by omega) (by omega) (by omega) (by omega) (by omega))
theorem mG (fn ar:Int) (dv:Value) (code level:Int) (more:Bool) (next:Int) (ov:Value) (ag:List Ob) (w:World) (hd:Bs w dv []) (ho:cY w ov ag)
  (ad:1≤code) (Zo:code≤3) (G:(1≤level∧level≤3)∨(129≤level∧level≤131)) (j7:0≤next) (iL:next≤255):
  Calls Tryz.prog 217 #[.agg #[N U fn,N U ar,dv,N U code,N U level,.bool more,N U next,ov]] w fun r w'=>r=Z (.bool (eh ag&&(if more then !ag.isEmpty&&decide (bS (-1) ag<next) else next==0)))∧Below w.heap.size w w':=by
 obtain⟨s,c2,rfl,Q⟩:=hd;clear Q;have y:=hid ho;obtain⟨a,c,rfl,Q⟩:=ho;have cj:ag.length≤9223372036854775807:=by have:=y.out.len;unfold maxLen at this;omega
 clear Q;rcases G with⟨om,et⟩|⟨om,et⟩
 all_goals
  go_enter Tryz.func217,Tryz.ntmps217;go_wp2;have t:Below w.heap.size w (w.alloc (.cells #[N U fn,N U ar,.slice s ([]:List UInt8).length c2,N U code,N U level,.bool more,N U next,V a ag.length c] 53)):=bal' _ _;have e:(w.alloc (.cells #[N U fn,N U ar,.slice s ([]:List UInt8).length c2,N U code,N U level,.bool more,N U next,V a ag.length c] 53)).cell? ⟨w.heap.size,5,J⟩=M (.bool more):=by rw[World.cell?_alloc_at _ _ _ _ rfl];rfl
  have C:(w.alloc (.cells #[N U fn,N U ar,.slice s ([]:List UInt8).length c2,N U code,N U level,.bool more,N U next,V a ag.length c] 53)).cell? ⟨w.heap.size,6,J⟩=M (N U next):=by rw[World.cell?_alloc_at _ _ _ _ rfl];rfl
  have g:(w.alloc (.cells #[N U fn,N U ar,.slice s ([]:List UInt8).length c2,N U code,N U level,.bool more,N U next,V a ag.length c] 53)).cell? ⟨w.heap.size,7,J⟩=M (V a ag.length c):=by rw[World.cell?_alloc_at _ _ _ _ rfl];rfl
  replace y:=hid (y.out.ah t);generalize R:w.heap.size=bx at*;simp only[List.length_nil] at t e C g y;generalize w.alloc (.cells #[N U fn,N U ar,V s 0 c2,N U code,N U level,.bool more,N U next,V a ag.length c] 53)=W at*;have Y:bx≤W.heap.size:=by rw[←R];exact t.size
  have z:=hid R;clear R;go_loopw [4,5,49] (fun la sz i wr=>∃k:Nat,k≤ag.length∧i=N U k∧la=N U (bS (-1) (ag.take k))∧sz=N U (aB (ag.take k))∧aQ (-1) (ag.take k)=true∧aB (ag.take k)≤246∧Below W.heap.size W wr) (fun _ _ i _=>ag.length- (intOf i).toNat)
  case atStart=>exact⟨0,Nat.zero_le _,rfl,rfl,rfl,rfl,by simp [aB],Below.refl _ _⟩
  case round=>
   obtain⟨k,hk,rfl,rfl,rfl,m,L,d⟩:=hrel;replace m:=hid m;replace e:=cell_keep d e;replace C:=cell_keep d C;replace g:=cell_keep d g;by_cases A:k<ag.length
   ·obtain ⟨b,o,cc,D,E,h2,aX⟩:=y.out.at (by rintro rfl;simp at A)
    have dE:=hid D;simp only[Value.slice.injEq,true_and] at D;obtain⟨rfl,rfl⟩:=D;have F:ag[k]?=M ag[k]:=List.getElem?_eq_getElem A;obtain⟨d1,vv,d2,P⟩:=aX k _ F;clear aX;have X:=hid F;generalize ag[k]=x at*;obtain⟨xa,xc,rfl,ak,_⟩:=id P;replace d1:=cell_keep d d1;replace d2:=cell_keep d d2;have PJ:=P.len;unfold maxLen at PJ;clear F P;have O:=hid (LQ (l:=ag) (k:=k) (x:=x) X.out);have B:=hid (show aQ (-1) (ag.take (k+1))=(decide (bS (-1) (ag.take k)<x.id)&&decide (x.id≤255))∧bS (-1) (ag.take (k+1))=x.id∧aB (ag.take (k+1))=aB (ag.take k)+(2+x.val.length) by
     rw[az X.out,fx,jw,eI,m.out,Bool.true_and]
     exact⟨rfl,rfl,rfl⟩)
    generalize bS (-1) (ag.take k)=la at*;generalize aB (ag.take k)=sz at*;generalize x.id=S at*;generalize x.val.length=T at*;have ab:(0:Int)≤(k:Int):=Int.natCast_nonneg _;have ao:(k:Int)<(ag.length:Int):=by omega
    generalize q:ag.length=n at*;replace q:=hid q;by_cases AZ:la<S∧S≤255∧sz+(2+T)≤246
    ·obtain ⟨g1,g2,g3⟩:=AZ
     go_wp2;go_roundw
     case rel=>exact⟨k+1,by omega,by go_num,by rw[B.out.2.1],by rw[B.out.2.2];go_num,by rw[B.out.1];simp [g1,g2],by rw[B.out.2.2];omega,d.alloc d.size _⟩
     case measure=>simp [intOf];omega
    ·have K:=hid (O.out AZ)
     go_wp2
     all_goals
      go_ret;refine⟨by rw[K.out];rfl,?_⟩;have j:=t.trans ((bta d (Nat.le_refl _) (.cells #[N U S,V xa T xc] 165)).mono Y);rw[←z.out] at j;exact j
   ·obtain rfl:k=ag.length:=by omega
    have K:Hid (eh ag=true):=by
     have E:=m.out;rw[List.take_length] at E L;exact show eh ag=true by unfold eh;rw[E];simpa using L
    have HT:Hid (List.take ag.length ag=ag):=List.take_length;rw[HT.out];clear L m;generalize I:bS (-1) ag=la at*;replace I:=hid I;have HE:Hid (ag.isEmpty=decide (ag.length=0)):=by
     show ag.isEmpty=decide (ag.length=0);cases ag<;>simp
    generalize ag.length=n at*;cases more
    all_goals
     go_wp2
     all_goals
      go_ret;have j:=t.trans (d.mono Y);rw[←z.out] at j;refine⟨?_,j⟩;clear j;refine ret_bool ?_;rw[K.out]
      try rw[HE.out,I.out]
      first|(simp [*];done)|(rw[Bool.eq_iff_iff];simp [*];omega)|(rw[Bool.eq_iff_iff];simp;omega)
theorem xz {ar:Int} {more:Bool} {next:Int} {ag:List Ob} (h:Rp.rP ⟨fn,ar,data,code,level,more,next,ag⟩=false):Rp.lC ⟨fn,ar,data,code,level,more,next,ag⟩=false:=by
 rw[Rp.BU,h];rfl
theorem og (fn ar:Int) (d:Value) (code level:Int) (more:Bool) (next:Int) (a:Value) (data:List UInt8) (ag:List Ob) (w:World) (g:Bs w d data) (l:cY w a ag) (j:level≤9223372036854775807) (m: -9223372036854775808≤level):
  Calls Tryz.prog 217 #[.agg #[N U fn,N U ar,d,N U code,N U level,.bool more,N U next,a]] w fun r w'=>r=Z (.bool (Rp.lC ⟨fn,ar,data,code,level,more,next,ag⟩))∧Below w.heap.size w w':=by
 cases hh:Rp.rP ⟨fn,ar,data,code,level,more,next,ag⟩ with
 |false=>
  rw[xz hh];exact mN fn ar d code level more next a data ag w g j m hh
 |true=>
  have c:=hh;simp only[Rp.rP,Bool.and_eq_true,decide_eq_true_eq,List.isEmpty_iff] at c;obtain⟨⟨⟨⟨⟨o,c⟩,t⟩,e⟩,q⟩,s⟩:=c;subst o;rw[Rp.BU,hh,Bool.true_and];refine mG fn ar d code level more next a ag w g l c t ?_ q s
  unfold MT at e;simp at e;exact e
theorem eu (fn ar:Int) (t:Value) (code level:Int) (more:Bool) (next:Int) (s:Value) (data:List UInt8) (ag:List Ob) (w:World) (g:Bs w t data) (j:cY w s ag) (F:level≤9223372036854775807) (C: -9223372036854775808≤level):
  Calls Tryz.prog 197 #[.agg #[N U fn,N U ar,t,N U code,N U level,.bool more,N U next,s]] w fun r w'=>r=Z (.bool (Rp.ok ⟨fn,ar,data,code,level,more,next,ag⟩))∧Below w.heap.size w w':=by
 have l:=hid g;have d:=hid j;obtain⟨q,c2,rfl,e⟩:=g;clear e;obtain⟨a,c,rfl,e⟩:=j;clear e;have y:Hid (data.isEmpty=decide (data.length=0)):=by
  show data.isEmpty=decide (data.length=0);cases data<;>simp
 have o:Hid (Rp.ok ⟨fn,ar,data,code,level,more,next,ag⟩=(aR fn&&
  if ar=0 then
   (if fn=43 then Rp.lC ⟨fn,ar,data,code,level,more,next,ag⟩ else if fn=17 then decide (1≤data.length)&&decide (data.length≤251)&&Rp.plain ⟨fn,ar,data,code,level,more,next,ag⟩ else decide (1≤data.length)&&decide (data.length≤250)&&Rp.plain ⟨fn,ar,data,code,level,more,next,ag⟩)
  else decide (1≤ar)&&decide (ar≤255)&&(data.isEmpty&&Rp.plain ⟨fn,ar,data,code,level,more,next,ag⟩))):=rfl
 have L:Hid (∀W z,Below w.heap.size w W→Calls Tryz.prog 216 #[.agg #[N U fn,N U ar,z,N U code,N U level,.bool more,N U next,V a ag.length c]] W fun r w'=>r=Z (.bool (Rp.plain ⟨fn,ar,data,code,level,more,next,ag⟩))∧Below W.heap.size W w'):=fun W z h=>Ca _ _ _ _ _ _ _ _ _ _ W (d.out.ah h)
 have A:Hid (∀W,Below w.heap.size w W→Calls Tryz.prog 217 #[.agg #[N U fn,N U ar,V q data.length c2,N U code,N U level,.bool more,N U next,V a ag.length c]] W fun r w'=>r=Z (.bool (Rp.lC ⟨fn,ar,data,code,level,more,next,ag⟩))∧Below W.heap.size W w'):=fun W h=>og _ _ _ _ _ _ _ _ _ _ W (l.out.ah h) (d.out.ah h) F C
 rw[o.out];generalize Rp.plain ⟨fn,ar,data,code,level,more,next,ag⟩=Q at*;generalize Rp.lC ⟨fn,ar,data,code,level,more,next,ag⟩=T at*;rw[y.out];clear y o l d;generalize data.length=n at*;generalize ag.length=m at*;have I:=bal' w (.cells #[N U fn,N U ar,V q n c2,N U code,N U level,.bool more,N U next,V a m c] 53);have K:(¬ar=0∧(ar==0)=false∧(ar !=0)=true)∨ar=0:=by
  by_cases h:ar=0
  ·exact .inr h
  ·exact .inl ⟨h,by simpa using h,by simpa using h⟩
 have G:(¬fn=43∧(fn==43)=false∧((¬fn=17∧(fn==17)=false)∨fn=17))∨fn=43:=by
  by_cases h:fn=43
  ·exact .inr h
  ·refine .inl ⟨h,by simpa using h,?_⟩
   by_cases h:fn=17
   ·exact .inr h
   ·exact .inl ⟨h,by simpa using h⟩
 cases hk:aR fn
 all_goals
  rcases K with⟨h,P,J⟩|rfl
  all_goals
   rcases G with⟨O,R,⟨S,D⟩|rfl⟩|rfl
   all_goals
    go_enter Tryz.func197,Tryz.ntmps197;go_wp2_with (first|(go_at_call 195;refine(dJ _ _).mono ?_;rintro r w1 ⟨rfl,rfl⟩)|(go_at_call 216;(with_reducible refine(L.out _ _ (bal' w _)).mono ?_);rintro r M ⟨rfl,B⟩)|(go_at_call 217;(with_reducible refine(A.out _ I).mono ?_);rintro r w3 ⟨rfl,E⟩))
    all_goals
     go_ret;refine⟨ret_bool ?_,by first|exact bal' w _|exact bt (bal' w _) (by assumption) (Nat.le_refl _)⟩
     first|(simp [*];done)|(rw[Bool.eq_iff_iff];simp [*];omega)|(rw[Bool.eq_iff_iff];simp;omega)
