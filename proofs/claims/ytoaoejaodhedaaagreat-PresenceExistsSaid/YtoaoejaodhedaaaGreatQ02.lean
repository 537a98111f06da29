import Derived.Test.YtoaoejaodhedaaaGreatQ01
import Derived.Deep.OwnRows
import Derived.Deep.QuietTactic
import Derived.BigQuiet
import Derived.Deep.RegionHeld3
import Derived.Outline
namespace Go.Proofs.YtoaoejaodhedaaaGreat
structure Ob where
 id:Int
 val:List UInt8
structure Rp where
 fn:Int
 exc:Int
 data:List UInt8
 code:Int
 level:Int
 more:Bool
 next:Int
 objs:List Ob
structure Oc where
 verdict:Int
 reply:Rp
def Rp.zero:Rp:=⟨0,0,[],0,0,false,0,[]⟩
def tblB (f:Int):Bool:=decide (1≤f)&&decide (f≤4)
def knownB (f:Int):Bool:=tblB f||f==17||f==43
def Rp.plain (r:Rp):Bool:=r.code==0&&r.level==0&& !r.more&&r.next==0&&r.objs.isEmpty
def Rp.short (r:Rp):Bool:=r.data.isEmpty&&r.plain
def rises (last:Int):List Ob→Bool
 |[]=>true
 |x::l=>decide (last<x.id)&&decide (x.id≤255)&&rises x.id l
def obSize:List Ob→Nat
 |[]=>0
 |x::l=>2+x.val.length+obSize l
def lastId (last:Int):List Ob→Int
 |[]=>last
 |x::l=>lastId x.id l
def lvB (level:Int):Bool:=(decide (1≤level)&&decide (level≤3))||(decide (129≤level)&&decide (level≤131))
def objsB (l:List Ob):Bool:=rises (-1) l&&decide (obSize l≤246)
def Rp.devB (r:Rp):Bool:=
 r.data.isEmpty&&decide (1≤r.code)&&decide (r.code≤3)&&lvB r.level&&decide (0≤r.next)&&decide (r.next≤255)&&objsB r.objs&&
  (if r.more then !r.objs.isEmpty&&decide (lastId (-1) r.objs<r.next) else r.next==0)
def Rp.ok (r:Rp):Bool:=
 knownB r.fn&&
  if r.exc=0 then
   (if r.fn=43 then r.devB else if r.fn=17 then decide (1≤r.data.length)&&decide (r.data.length≤251)&&r.plain else decide (1≤r.data.length)&&decide (r.data.length≤250)&&r.plain)
  else decide (1≤r.exc)&&decide (r.exc≤255)&&r.short
def byteI (x:Int):UInt8:=UInt8.ofNat x.toNat
theorem byteI_val {x:Int} (h1:0≤x) (h2:x≤255):((byteI x).toNat:Int)=x:=by
 unfold byteI;rw[UInt8.toNat_ofNat'];omega
def encObs:List Ob→List UInt8
 |[]=>[]
 |x::l=>byteI x.id::byteI x.val.length::(x.val++encObs l)
def devHead (r:Rp):List UInt8:=[43,14,byteI r.code,byteI r.level,byteI (if r.more then 255 else 0),byteI r.next,byteI r.objs.length]
def Rp.pdu (r:Rp):List UInt8:=
 if r.exc=0 then (if r.fn=43 then devHead r++encObs r.objs else byteI r.fn::byteI r.data.length::r.data) else [byteI (r.fn+128),byteI r.exc]
theorem encObs_snoc (x:Ob):∀l:List Ob,encObs (l++[x])=encObs l++([byteI x.id,byteI x.val.length]++x.val)
 |[]=>by simp [encObs]
 |a::l=>by simp [encObs,encObs_snoc x l]
theorem encObs_length:∀l:List Ob,(encObs l).length=obSize l
 |[]=>rfl
 |a::l=>by simp [encObs,obSize,encObs_length l];omega
theorem known_bd {f:Int} (h:knownB f=true):1≤f∧f≤43:=by
 unfold knownB tblB at h;simp at h;omega
theorem rises_gt:∀(l:List Ob) (last:Int),rises last l=true→∀x∈l,last<x.id∧x.id≤255
 |[],_,_,x,hx=>by cases hx
 |a::l,last,h,x,hx=>by
  simp only[rises,Bool.and_eq_true,decide_eq_true_eq] at h;rcases List.mem_cons.1 hx with rfl|hx
  ·exact h.1
  ·have:=rises_gt l a.id h.2 x hx
   omega
theorem obSize_mem:∀(l:List Ob) (x:Ob),x∈l→x.val.length+2≤obSize l
 |[],x,hx=>by cases hx
 |a::l,x,hx=>by
  rcases List.mem_cons.1 hx with rfl|hx
  ·simp [obSize];omega
  ·have:=obSize_mem l x hx
   simp [obSize];omega
theorem obSize_len:∀(l:List Ob),2*l.length≤obSize l
 |[]=>Nat.zero_le _
 |a::l=>by have:=obSize_len l;simp [obSize];omega
theorem objsB_bd {l:List Ob} (h:objsB l=true):l.length≤123∧obSize l≤246∧∀(k:Nat) (x:Ob),l[k]?=some x→0≤x.id∧x.id≤255∧x.val.length≤244:=by
 simp only[objsB,Bool.and_eq_true,decide_eq_true_eq] at h;have:=obSize_len l;refine⟨by omega,h.2,fun k x hx=>?_⟩;have hm:=List.mem_of_getElem? hx;have h1:=rises_gt l _ h.1 x hm;have h2:=obSize_mem l x hm;omega
theorem ok_cases {fn exc:Int} {data:List UInt8} {code level:Int} {more:Bool} {next:Int} {objs:List Ob} (h:Rp.ok ⟨fn,exc,data,code,level,more,next,objs⟩=true):
  (1≤fn∧fn≤43)∧((exc≠0∧1≤exc∧exc≤255)∨(exc=0∧fn≠43∧fn≤42∧data.length≤251)∨
   (exc=0∧fn=43∧data=[]∧1≤code∧code≤3∧1≤level∧level≤131∧0≤next∧next≤255∧objsB objs=true)):=by
 unfold Rp.ok at h;rw[Bool.and_eq_true] at h;obtain⟨hk,h⟩:=h;have hb:1≤fn∧fn≤43:=known_bd hk;refine⟨hb,?_⟩;by_cases hx:exc=0
 ·subst hx
  simp only[if_pos] at h;by_cases hf:fn=43
  ·subst hf
   simp only[if_pos,Rp.devB,Bool.and_eq_true,decide_eq_true_eq,List.isEmpty_iff] at h;obtain⟨⟨⟨⟨⟨⟨⟨h1,h2⟩,h3⟩,h4⟩,h5⟩,h6⟩,h7⟩,_⟩:=h;unfold lvB at h4;simp at h4;exact .inr (.inr ⟨rfl,rfl,h1,h2,h3,by omega,by omega,h5,h6,h7⟩)
  ·simp only[if_neg hf] at h
   refine .inr (.inl ⟨rfl,hf,by omega,?_⟩);by_cases h17:fn=17
   ·simp only[if_pos h17,Bool.and_eq_true,decide_eq_true_eq] at h;exact h.1.2
   ·simp only[if_neg h17,Bool.and_eq_true,decide_eq_true_eq] at h;omega
 ·simp only[if_neg hx,Bool.and_eq_true,decide_eq_true_eq] at h
  exact .inl ⟨hx,h.1.1,h.1.2⟩
def bAt (b:List UInt8) (i:Nat):Int:=((b.getD i 0).toNat:Int)
theorem bAt_bd (b:List UInt8) (i:Nat):0≤bAt b i∧bAt b i≤255:=by
 unfold bAt;have:=(b.getD i 0).toNat_lt;omega
theorem byteI_nat (x:UInt8):byteI (x.toNat:Int)=x:=by
 unfold byteI;simp
theorem byteI_toNat {n:Nat} (h:n≤255):(byteI (n:Int)).toNat=n:=by
 have:=byteI_val (x:=(n:Int)) (by omega) (by omega);omega
def decObs:Nat→List UInt8→Option (List Ob×List UInt8)
 |0,b=>some ([],b)
 |_+1,[]=>none
 |_+1,[_]=>none
 |k+1,i::n::r=>if n.toNat≤r.length then (decObs k (r.drop n.toNat)).map fun p=>(⟨(i.toNat:Int),r.take n.toNat⟩::p.1,p.2) else none
theorem decObs_enc:∀(l:List Ob) (t:List UInt8),(∀x∈l,0≤x.id∧x.id≤255∧x.val.length≤244)→decObs l.length (encObs l++t)=some (l,t)
 |[],t,_=>rfl
 |x::l,t,h=>by
  obtain⟨h1,h2,h3⟩:=h x (List.mem_cons_self ..);have hn:(byteI (x.val.length:Int)).toNat=x.val.length:=byteI_toNat (by omega);have hi:((byteI x.id).toNat:Int)=x.id:=byteI_val h1 h2;have ih:=decObs_enc l t (fun y hy=>h y (List.mem_cons_of_mem _ hy));show decObs (l.length+1) (byteI x.id::byteI x.val.length::(x.val++encObs l++t))=_;unfold decObs;rw[hn,List.append_assoc,if_pos (by simp),List.drop_left,List.take_left,ih,hi];rfl
theorem decObs_some:∀(k:Nat) (b:List UInt8) (l:List Ob) (t:List UInt8),decObs k b=some (l,t)→l.length=k∧b=encObs l++t∧∀x∈l,0≤x.id∧x.id≤255∧x.val.length≤255
 |0,b,l,t,h=>by
  simp only[decObs,Option.some.injEq,Prod.mk.injEq] at h;obtain⟨rfl,rfl⟩:=h;exact⟨rfl,rfl,fun x hx=>by cases hx⟩
 |k+1,[],l,t,h=>by simp [decObs] at h
 |k+1,[_],l,t,h=>by simp [decObs] at h
 |k+1,i::n::r,l,t,h=>by
  unfold decObs at h;by_cases hn:n.toNat≤r.length
  ·rw [if_pos hn] at h
   cases hd:decObs k (r.drop n.toNat) with
   |none=>rw[hd] at h;cases h
   |some p=>
    obtain⟨l',t'⟩:=p;rw[hd] at h;simp only[Option.map_some,Option.some.injEq,Prod.mk.injEq] at h;obtain⟨rfl,rfl⟩:=h;obtain⟨h1,h2,h3⟩:=decObs_some k _ _ _ hd;have hl:(r.take n.toNat).length=n.toNat:=by simp;omega
    have hlt:=n.toNat_lt;have hlt2:=i.toNat_lt;refine⟨by simp [h1],?_,?_⟩
    ·show i::n::r=byteI (i.toNat:Int)::byteI ((r.take n.toNat).length:Int)::(r.take n.toNat++encObs l')++t'
     rw[hl,byteI_nat,byteI_nat];simp only[List.cons_append,List.append_assoc];rw[←h2,List.take_append_drop]
    ·intro x hx
     rcases List.mem_cons.1 hx with rfl|hx
     ·exact ⟨by show (0:Int)≤(i.toNat:Int);omega,by show (i.toNat:Int)≤255;omega,by show (r.take n.toNat).length≤255;omega⟩
     ·exact h3 x hx
  ·rw [if_neg hn] at h;cases h
def Rp.shortOf (f x:Int):Rp:=⟨f,x,[],0,0,false,0,[]⟩
def Rp.dataOf (f:Int) (d:List UInt8):Rp:=⟨f,0,d,0,0,false,0,[]⟩
def Rp.devOf (b:List UInt8) (l:List Ob):Rp:=⟨43,0,[],bAt b 2,bAt b 3,b.getD 4 0==255,bAt b 5,l⟩
def decDev (b:List UInt8):Option Rp:=
 if b.length<7∨bAt b 1≠14 then none
 else match decObs (b.getD 6 0).toNat (b.drop 7) with
  |some (l,[])=>if (Rp.devOf b l).ok=true∧(bAt b 4=0∨bAt b 4=255) then some (Rp.devOf b l) else none
  |_=>none
def Rp.dec (b:List UInt8):Option Rp:=
 if b.length<2∨253<b.length then none
 else if knownB (bAt b 0-128)=true then (if b.length=2∧bAt b 1≠0 then some (Rp.shortOf (bAt b 0-128) (bAt b 1)) else none)
 else if bAt b 0=43 then decDev b
 else if knownB (bAt b 0)=true∧bAt b 1=(b.length:Int)-2 then (if (Rp.dataOf (bAt b 0) (b.drop 2)).ok=true then some (Rp.dataOf (bAt b 0) (b.drop 2)) else none)
 else none
theorem knownB_of {f:Int} (h:knownB f=true):f=1∨f=2∨f=3∨f=4∨f=17∨f=43:=by
 unfold knownB tblB at h;simp at h;omega
theorem not_knownB {f:Int} (h:f<1∨43<f):knownB f=false:=by
 cases hk:knownB f with
 |false=>rfl
 |true=>have:=knownB_of hk;omega
theorem plain_eq {r:Rp} (h:r.plain=true):r=⟨r.fn,r.exc,r.data,0,0,false,0,[]⟩:=by
 obtain⟨fn,exc,data,code,level,more,next,objs⟩:=r;simp only[Rp.plain,Bool.and_eq_true,beq_iff_eq,Bool.not_eq_true',List.isEmpty_iff] at h;obtain⟨⟨⟨⟨rfl,rfl⟩,rfl⟩,rfl⟩,rfl⟩:=h;rfl
theorem ok_forms {r:Rp} (h:r.ok=true):
  (knownB r.fn=true∧1≤r.exc∧r.exc≤255∧r=Rp.shortOf r.fn r.exc)∨
  (knownB r.fn=true∧r.fn≠43∧1≤r.data.length∧r.data.length≤251∧r=Rp.dataOf r.fn r.data)∨
  (r.fn=43∧r.exc=0∧r.devB=true):=by
 unfold Rp.ok at h;rw[Bool.and_eq_true] at h;obtain⟨hk,h⟩:=h;by_cases hx:r.exc=0
 ·rw [if_pos hx] at h
  by_cases h43:r.fn=43
  ·rw [if_pos h43] at h
   exact .inr (.inr ⟨h43,hx,h⟩)
  ·rw [if_neg h43] at h
   have h2:1≤r.data.length∧r.data.length≤251∧r.plain=true:=by
    by_cases h17:r.fn=17
    ·rw [if_pos h17] at h;simp only[Bool.and_eq_true,decide_eq_true_eq] at h;exact⟨by omega,by omega,h.2⟩
    ·rw [if_neg h17] at h;simp only[Bool.and_eq_true,decide_eq_true_eq] at h;exact⟨by omega,by omega,h.2⟩
   refine .inr (.inl ⟨hk,h43,h2.1,h2.2.1,?_⟩);have:=plain_eq h2.2.2;rw[hx] at this;exact this
 ·rw [if_neg hx] at h
  simp only[Bool.and_eq_true,decide_eq_true_eq,Rp.short,List.isEmpty_iff] at h;obtain⟨⟨h1,h2⟩,h3,h4⟩:=h;refine .inl ⟨hk,h1,h2,?_⟩;have:=plain_eq h4;rw[h3] at this;exact this
theorem dev_forms {r:Rp} (h:r.devB=true):r.data=[]∧(1≤r.code∧r.code≤3)∧(1≤r.level∧r.level≤131)∧(0≤r.next∧r.next≤255)∧objsB r.objs=true:=by
 simp only[Rp.devB,Bool.and_eq_true,decide_eq_true_eq,List.isEmpty_iff] at h;obtain⟨⟨⟨⟨⟨⟨⟨h1,h2⟩,h3⟩,h4⟩,h5⟩,h6⟩,h7⟩,_⟩:=h;unfold lvB at h4;simp at h4;exact⟨h1,⟨h2,h3⟩,by omega,⟨h5,h6⟩,h7⟩
theorem dec_pdu {r:Rp} (h:r.ok=true):Rp.dec r.pdu=some r:=by
 rcases ok_forms h with⟨hk,h1,h2,he⟩|⟨hk,h43,h1,h2,he⟩|⟨h43,hx,hd⟩
 ·have hf:=known_bd hk
  have hp:r.pdu=[byteI (r.fn+128),byteI r.exc]:=by unfold Rp.pdu;rw[if_neg (by omega)]
  have e0:bAt r.pdu 0=r.fn+128:=by rw[hp];exact byteI_val (by omega) (by omega)
  have e1:bAt r.pdu 1=r.exc:=by rw[hp];exact byteI_val (by omega) (by omega)
  have hl:r.pdu.length=2:=by rw[hp];rfl
  unfold Rp.dec;rw[if_neg (by omega),e0,e1,show r.fn+128-128=r.fn by omega,if_pos hk,if_pos ⟨hl,by omega⟩,←he]
 ·have hf:=known_bd hk
  have hx:r.exc=0:=by rw[he];rfl
  have hp:r.pdu=byteI r.fn::byteI r.data.length::r.data:=by unfold Rp.pdu;rw[if_pos hx,if_neg h43]
  have e0:bAt r.pdu 0=r.fn:=by rw[hp];exact byteI_val (by omega) (by omega)
  have e1:bAt r.pdu 1=r.data.length:=by rw[hp];exact byteI_val (by omega) (by omega)
  have hl:r.pdu.length=r.data.length+2:=by rw[hp];rfl
  have e2:r.pdu.drop 2=r.data:=by rw[hp];rfl
  unfold Rp.dec;rw[if_neg (by omega),e0,e1,e2,if_neg (by rw[not_knownB (by omega)];decide),if_neg h43,if_pos ⟨hk,by omega⟩,←he,if_pos h]
 ·obtain ⟨h1,h2,h3,h4,h5⟩:=dev_forms hd
  obtain⟨b1,b2,b3⟩:=objsB_bd h5;have hp:r.pdu=devHead r++encObs r.objs:=by unfold Rp.pdu;rw[if_pos hx,if_pos h43]
  have hl:r.pdu.length=7+obSize r.objs:=by rw[hp,List.length_append,encObs_length];rfl
  have e0:bAt r.pdu 0=43:=by rw[hp];rfl
  have e1:bAt r.pdu 1=14:=by rw[hp];rfl
  have e2:bAt r.pdu 2=r.code:=by rw[hp];exact byteI_val (by omega) (by omega)
  have e3:bAt r.pdu 3=r.level:=by rw[hp];exact byteI_val (by omega) (by omega)
  have e4:r.pdu.getD 4 0=byteI (if r.more then 255 else 0):=by rw[hp];rfl
  have e5:bAt r.pdu 5=r.next:=by rw[hp];exact byteI_val (by omega) (by omega)
  have e6:(r.pdu.getD 6 0).toNat=r.objs.length:=by rw[hp];exact byteI_toNat (by omega)
  have e7:r.pdu.drop 7=encObs r.objs++[]:=by rw[hp,List.append_nil];rfl
  have hdec:decObs r.objs.length (encObs r.objs++[])=some (r.objs,[]):=decObs_enc r.objs [] fun x hx=>by
   obtain⟨k,hk⟩:=List.getElem?_of_mem hx;exact b3 k x hk
  have hm:(r.pdu.getD 4 0==255)=r.more:=by rw[e4];cases r.more<;>rfl
  have hm4:bAt r.pdu 4=0∨bAt r.pdu 4=255:=by unfold bAt;rw[e4];cases r.more<;>simp [byteI]
  have hdo:Rp.devOf r.pdu r.objs=r:=by
   unfold Rp.devOf;rw[e2,e3,e5,hm,←h43,←hx,←h1]
  unfold Rp.dec;rw[if_neg (by omega),e0,if_neg (by decide),if_pos rfl];unfold decDev;rw[if_neg (by rw[e1];omega),e6,e7,hdec];simp only[hdo];rw[if_pos ⟨h,hm4⟩]
theorem dec_some {b:List UInt8} {r:Rp} (h:Rp.dec b=some r):r.ok=true∧r.pdu=b:=by
 unfold Rp.dec at h;by_cases hl:b.length<2∨253<b.length
 ·rw [if_pos hl] at h;cases h
 rw[if_neg hl] at h;obtain⟨c0,c1,t,rfl⟩:∃c0 c1 t,b=c0::c1::t:=by
  match b,hl with
  |c0::c1::t,_=>exact⟨c0,c1,t,rfl⟩
  |[],hl=>exact absurd (.inl (by simp)) hl
  |[_],hl=>exact absurd (.inl (by simp)) hl
 have e0:bAt (c0::c1::t) 0=(c0.toNat:Int):=rfl;have e1:bAt (c0::c1::t) 1=(c1.toNat:Int):=rfl;have hc0:=c0.toNat_lt;have hc1:=c1.toNat_lt;rw[e0,e1] at h;by_cases hk:knownB ((c0.toNat:Int)-128)=true
 ·rw [if_pos hk] at h
  by_cases h2:(c0::c1::t).length=2∧(c1.toNat:Int)≠0
  ·rw [if_pos h2] at h
   simp only[Option.some.injEq] at h;subst h;obtain⟨h2,h3⟩:=h2;obtain rfl:t=[]:=List.eq_nil_of_length_eq_zero (by simpa using h2);refine⟨?_,?_⟩
   ·show (knownB ((c0.toNat:Int)-128)&&(if (c1.toNat:Int)=0 then _ else decide (1≤(c1.toNat:Int))&&decide ((c1.toNat:Int)≤255)&&true))=true
    rw[hk,if_neg h3,Bool.true_and,Bool.and_true,Bool.and_eq_true];exact⟨decide_eq_true (by omega),decide_eq_true (by omega)⟩
   ·unfold Rp.pdu Rp.shortOf
    rw[if_neg h3];show [byteI ((c0.toNat:Int)-128+128),byteI (c1.toNat:Int)]=_;rw[show (c0.toNat:Int)-128+128=c0.toNat by omega,byteI_nat,byteI_nat]
  ·rw [if_neg h2] at h;cases h
 ·rw [if_neg hk] at h
  by_cases h43:(c0.toNat:Int)=43
  ·rw [if_pos h43] at h
   unfold decDev at h;by_cases h7:(c0::c1::t).length<7∨bAt (c0::c1::t) 1≠14
   ·rw [if_pos h7] at h;cases h
   rw[if_neg h7] at h;rw[e1] at h7;have h14:(c1.toNat:Int)=14:=by
    by_cases hh:(c1.toNat:Int)=14
    ·exact hh
    ·exact absurd (.inr hh) h7
   obtain⟨c2,c3,c4,c5,c6,t,rfl⟩:∃c2 c3 c4 c5 c6 t',t=c2::c3::c4::c5::c6::t':=by
    have hlt:¬(c0::c1::t).length<7:=fun hh=>h7 (.inl hh)
    simp only[List.length_cons] at hlt
    match t,hlt with
    |c2::c3::c4::c5::c6::t',_=>exact⟨c2,c3,c4,c5,c6,t',rfl⟩
    |[],hlt=>simp at hlt
    |[_],hlt=>simp at hlt
    |[_,_],hlt=>simp at hlt
    |[_,_,_],hlt=>simp at hlt
    |[_,_,_,_],hlt=>simp at hlt
   have e6:(c0::c1::c2::c3::c4::c5::c6::t).getD 6 0=c6:=rfl;have e7:(c0::c1::c2::c3::c4::c5::c6::t).drop 7=t:=rfl;rw[e6,e7] at h;cases hd:decObs c6.toNat t with
   |none=>rw[hd] at h;cases h
   |some p=>
    obtain⟨l,u⟩:=p;rw[hd] at h;cases u with
    |cons _ _=>simp at h
    |nil=>
     simp only at h;by_cases hok:(Rp.devOf (c0::c1::c2::c3::c4::c5::c6::t) l).ok=true∧(bAt (c0::c1::c2::c3::c4::c5::c6::t) 4=0∨bAt (c0::c1::c2::c3::c4::c5::c6::t) 4=255)
     ·rw [if_pos hok] at h
      simp only[Option.some.injEq] at h;subst h;refine⟨hok.1,?_⟩;obtain⟨h1,h2,_⟩:=decObs_some _ _ _ _ hd;have h4:(c4.toNat:Int)=0∨(c4.toNat:Int)=255:=hok.2;have e4:byteI (if (Rp.devOf (c0::c1::c2::c3::c4::c5::c6::t) l).more then 255 else 0)=c4:=by
       show byteI (if (c4==255)=true then 255 else 0)=c4;rcases h4 with h4|h4
       ·obtain rfl:c4=0:=UInt8.toNat_inj.1 (by simp;omega)
        rfl
       ·obtain rfl:c4=255:=UInt8.toNat_inj.1 (by simp;omega)
        rfl
      have ec0:c0=43:=UInt8.toNat_inj.1 (by simp;omega);have ec1:c1=14:=UInt8.toNat_inj.1 (by simp;omega);unfold Rp.pdu;rw[if_pos (show (Rp.devOf (c0::c1::c2::c3::c4::c5::c6::t) l).exc=0 from rfl),if_pos (show (Rp.devOf (c0::c1::c2::c3::c4::c5::c6::t) l).fn=43 from rfl)];unfold devHead;rw[e4];show [43,14,byteI (c2.toNat:Int),byteI (c3.toNat:Int),c4,byteI (c5.toNat:Int),byteI (l.length:Int)]++encObs l=_;rw[h1,byteI_nat,byteI_nat,byteI_nat,byteI_nat,h2,ec0,ec1];simp
     ·rw [if_neg hok] at h;cases h
  ·rw [if_neg h43] at h
   by_cases hk2:knownB (c0.toNat:Int)=true∧(c1.toNat:Int)=((c0::c1::t).length:Int)-2
   ·rw [if_pos hk2] at h
    have e2:(c0::c1::t).drop 2=t:=rfl;rw[e2] at h;by_cases hok:(Rp.dataOf (c0.toNat:Int) t).ok=true
    ·rw [if_pos hok] at h
     simp only[Option.some.injEq] at h;subst h;refine⟨hok,?_⟩;unfold Rp.pdu;rw[if_pos (show (Rp.dataOf (c0.toNat:Int) t).exc=0 from rfl),if_neg (show ¬(Rp.dataOf (c0.toNat:Int) t).fn=43 from h43)];show byteI (c0.toNat:Int)::byteI (t.length:Int)::t=_;have hlt:(t.length:Int)=c1.toNat:=by have:=hk2.2;simp only[List.length_cons] at this;omega
     rw[hlt,byteI_nat,byteI_nat]
    ·rw [if_neg hok] at h;cases h
   ·rw [if_neg hk2] at h;cases h
theorem pdu_le' {r:Rp} (h:r.ok=true):2≤r.pdu.length∧r.pdu.length≤253:=by
 have hd:=dec_pdu h;unfold Rp.dec at hd;by_cases hl:r.pdu.length<2∨253<r.pdu.length
 ·rw [if_pos hl] at hd;cases hd
 ·omega
open Go.RowKit
set_option maxHeartbeats 3200000
set_option maxRecDepth 100000
theorem setK {w:World} {p i:Nat} {u:Value}:Keeps (· =p) w (w.setCell ⟨p,i,none⟩ u):=(Keeps.refl _ _).set _ _ rfl
def Obs (w:World) (v:Value) (l:List Ob):Prop:=
 ∃a c,v=.slice a l.length c∧l.length≤c∧c≤maxLen∧(a=none→c=0)∧
  (l≠[]→∃b o,a=some ⟨b,o,none⟩∧∀i x,l[i]?=some x→w.cell? ⟨b,o+i*2,none⟩=some (.int .i64 x.id)∧∃v,w.cell? ⟨b,o+i*2+1,none⟩=some v∧Bs w v x.val)
theorem Obs.nil (w:World):Obs w (.slice none 0 0) []:=⟨none,0,rfl,Nat.le_refl _,Nat.zero_le _,fun _=>rfl,fun h=>absurd rfl h⟩
theorem Obs.keep {w w':World} {v:Value} {l:List Ob} (h:Obs w v l) (hb:Below w.heap.size w w'):Obs w' v l:=by
 obtain⟨a,c,hv,h1,h2,h3,h4⟩:=h;refine⟨a,c,hv,h1,h2,h3,fun hl=>?_⟩;obtain⟨b,o,ha,hc⟩:=h4 hl;refine⟨b,o,ha,fun i x hx=>?_⟩;obtain⟨c1,v,c2,hv⟩:=hc i x hx;exact⟨bD hb c1,v,bD hb c2,hv.keep hb⟩
theorem Obs.len {w:World} {v:Value} {l:List Ob} (h:Obs w v l):l.length≤maxLen:=by
 obtain⟨a,c,_,h1,h2,_⟩:=h;exact Nat.le_trans h1 h2
theorem Obs.at {w:World} {v:Value} {l:List Ob} (h:Obs w v l) (hl:l≠[]):
  ∃b o c,v=.slice (some ⟨b,o,none⟩) l.length c∧l.length≤c∧c≤maxLen∧∀i x,l[i]?=some x→w.cell? ⟨b,o+i*2,none⟩=some (.int .i64 x.id)∧∃v,w.cell? ⟨b,o+i*2+1,none⟩=some v∧Bs w v x.val:=by
 obtain⟨a,c,hv,h1,h2,h3,h4⟩:=h;obtain⟨b,o,rfl,hc⟩:=h4 hl;exact⟨b,o,c,hv,h1,h2,hc⟩
def limI (f:Int):Int:=if f=1∨f=2 then 2000 else if f=3∨f=4 then 125 else 0
theorem tbl_cases (f:Int):(f=1∨f=2∨f=3∨f=4)∨(tblB f=false∧(f==1)=false∧(f==2)=false∧(f==3)=false∧(f==4)=false):=by
 by_cases h:f=1∨f=2∨f=3∨f=4
 ·exact .inl h
 ·refine .inr ⟨?_,?_,?_,?_,?_⟩
  ·unfold tblB
   cases hx:(decide (1≤f)&&decide (f≤4)) with
   |false=>rfl
   |true=>simp at hx;omega
  all_goals (rw[beq_eq_false_iff_ne];omega)
theorem limit_any (f:Int) (w:World):Calls Tryz.prog 155 #[.int .i64 f] w fun r w'=>r=.returned (.int .i64 (limI f))∧w=w':=by
 rcases tbl_cases f with h|⟨h0,h1,h2,h3,h4⟩
 ·rcases h with rfl|rfl|rfl|rfl
  all_goals
   go_enter Tryz.func155,Tryz.ntmps155;go_wp2;go_ret;exact⟨rfl,rfl⟩
 ·have hl:limI f=0:=by
   rw[beq_eq_false_iff_ne] at h1 h2 h3 h4;unfold limI;rw[if_neg (by omega),if_neg (by omega)]
  replace hl:=bC hl;go_enter Tryz.func155,Tryz.ntmps155;go_wp2;go_ret;exact⟨by rw[hl.out];rfl,rfl⟩
theorem limI_pos (f:Int):decide (0<limI f)=tblB f:=by
 unfold limI tblB;by_cases h1:f=1∨f=2
 ·rw [if_pos h1];rcases h1 with rfl|rfl<;>rfl
 ·rw [if_neg h1]
  by_cases h2:f=3∨f=4
  ·rw [if_pos h2];rcases h2 with rfl|rfl<;>rfl
  ·rw [if_neg h2]
   cases hx:(decide (1≤f)&&decide (f≤4)) with
   |false=>rfl
   |true=>simp at hx;omega
theorem isTableR_any (f:Int) (w:World):Calls Tryz.prog 215 #[.int .i64 f] w fun r w'=>r=.returned (.bool (tblB f))∧w=w':=by
 have HP:=bC (limI_pos f);go_enter Tryz.func215,Tryz.ntmps215;go_wp2_with (go_at_call 155;refine(limit_any _ _).mono ?_;rintro r w1 ⟨rfl,rfl⟩);go_ret;exact⟨bO HP.out,rfl⟩
theorem known_any (f:Int) (w:World):Calls Tryz.prog 195 #[.int .i64 f] w fun r w'=>r=.returned (.bool (knownB f))∧w=w':=by
 go_enter Tryz.func195,Tryz.ntmps195;go_wp2_with (go_at_call 215;refine(isTableR_any _ _).mono ?_;rintro r w1 ⟨rfl,rfl⟩)
 all_goals
  go_ret;exact⟨bO (by simp [knownB, *]),rfl⟩
theorem len_isEmpty {α:Type} (l:List α):((l.length:Int)==0)=l.isEmpty:=by cases l<;>simp<;>omega
theorem ret_boolB {a b:Bool} {w w':World} {n:Nat} (h:a=b) (hb:Below n w w'):Ending.returned (.bool a)=.returned (.bool b)∧Below n w w':=⟨by rw[h],hb⟩
theorem plain_any (fn exc:Int) (dv:Value) (code level:Int) (more:Bool) (next:Int) (ov:Value) (data:List UInt8) (objs:List Ob) (w:World) (ho:Obs w ov objs):
  Calls Tryz.prog 216 #[.agg #[.int .i64 fn,.int .i64 exc,dv,.int .i64 code,.int .i64 level,.bool more,.int .i64 next,ov]] w fun r w'=>r=.returned (.bool (Rp.plain ⟨fn,exc,data,code,level,more,next,objs⟩))∧Below w.heap.size w w':=by
 obtain⟨a,c,rfl,hc⟩:=ho;clear hc;go_enter Tryz.func216,Tryz.ntmps216;go_wp2
 all_goals
  go_ret;exact ret_boolB (by simp [Rp.plain,len_isEmpty, *]) (bH _ _)
theorem cellsU8:Tryz.prog.cellsOf 5=1:=by kernel_rfl
theorem cellsInt:Tryz.prog.cellsOf 3=1:=by kernel_rfl
theorem cellsBool:Tryz.prog.cellsOf 4=1:=by kernel_rfl
theorem cellsBytes:Tryz.prog.cellsOf 50=1:=by kernel_rfl
theorem cellsObs:Tryz.prog.cellsOf 51=1:=by kernel_rfl
theorem cellsOb:Tryz.prog.cellsOf 165=2:=by kernel_rfl
theorem lst2 {α:Type} {l:List α} (h:l.length=2):∃a b,l=[a,b]:=by
 match l,h with
 |[a,b],_=>exact⟨a,b,rfl⟩
theorem list_of {α:Type} (n:Nat) (P:Nat→α→Prop) (h:∀i,i<n→∃x,P i x):∃l:List α,l.length=n∧∀i x,l[i]?=some x→P i x:=by
 induction n with
 |zero=>exact⟨[],rfl,fun i x hx=>by simp at hx⟩
 |succ n ih=>
  obtain⟨l,hl,hp⟩:=ih (fun i hi=>h i (by omega));obtain⟨x,hx⟩:=h n (by omega);refine⟨l++[x],by simp [hl],fun i y hy=>?_⟩;by_cases hi:i<n
  ·rw [List.getElem?_append_left (by omega)] at hy;exact hp i y hy
  ·have hlt:=(List.getElem?_eq_some_iff.1 hy).1
   have:i=n:=by simp at hlt;omega
   subst this;rw[List.getElem?_append_right (by omega),hl] at hy;simp at hy;subst hy;exact hx
theorem Obs.of_rd {w:World} {v:Value} (h:Rd Tryz.prog w 51 [v]):∃l,Obs w v l:=by
 rcases h.slice Tryz.underlying51 with h|⟨a,len,cap,h,hl,hm,hel⟩
 ·cases h;exact⟨[],Obs.nil w⟩
 ·cases h
  have hb:∀i,i<len→∃x:Ob,w.cell? (a.add (i*2))=some (.int .i64 x.id)∧∃v,w.cell? ((a.add (i*2)).add 1)=some v∧Bs w v x.val:=by
   intro i hi;obtain⟨ds,hd,hcell,hr⟩:=hel i hi;rw[cellsOb] at hd hcell;obtain⟨d0,d1,rfl⟩:=lst2 hd;obtain⟨_,hf⟩:=hr.struct Tryz.underlying165;have f0:=hf _ (List.mem_cons_self ..);have f1:=hf _ (List.mem_cons_of_mem _ (List.mem_cons_self ..));simp only[cellsInt,cellsBytes,List.drop_zero,List.drop_succ_cons,List.take_succ_cons,List.take_zero] at f0 f1;obtain⟨k,hk,_⟩:=Rd.int Tryz.underlying3 f0;obtain⟨x,hx⟩:=Bs.of_rd Tryz.underlying50 Tryz.underlying5 cellsU8 f1;simp only[List.cons.injEq,and_true] at hk;subst hk;have c0:=hcell 0 (by omega);have c1:=hcell 1 (by omega);exact⟨⟨k,x⟩,by simpa [Addr.add] using c0,d1,c1,hx⟩
  obtain⟨l,hll,hlp⟩:=list_of len _ hb;refine⟨l,some a,cap,by rw[hll],by omega,hm,fun h=>by simp at h,fun hne=>?_⟩;have hpos:0<len:=by
   rcases Nat.eq_zero_or_pos len with h|h
   ·exfalso;apply hne;exact List.eq_nil_of_length_eq_zero (by omega)
   ·exact h
  obtain⟨x0,hx0⟩:∃x,l[0]?=some x:=⟨l[0],List.getElem?_eq_getElem (by omega)⟩
  have hs2:a=⟨a.block,a.off,none⟩:=by
   have:=(hlp 0 x0 hx0).1;exact spot_of (v:=.int .i64 x0.id) (by simpa [Addr.add] using this)
  refine⟨a.block,a.off,by rw[←hs2],fun i x hx=>?_⟩;obtain⟨h1,vv,h2,h3⟩:=hlp i x hx;rw[hs2,add_lit] at h1;rw[hs2,add_lit,add_lit] at h2;exact⟨h1,vv,h2,h3⟩
theorem rises_snoc (x:Ob):∀(l:List Ob) (last:Int),rises last (l++[x])=(rises last l&&decide (lastId last l<x.id)&&decide (x.id≤255))
 |[],last=>by show (decide _&&decide _&&true)=(true&&decide _&&decide _);rw[Bool.and_true,Bool.true_and];rfl
 |a::l,last=>by
  show (decide _&&decide _&&rises a.id (l++[x]))=(decide _&&decide _&&rises a.id l&&decide (lastId a.id l<x.id)&&decide (x.id≤255));rw[rises_snoc x l a.id];simp only[Bool.and_assoc]
theorem lastId_snoc (x:Ob):∀(l:List Ob) (last:Int),lastId last (l++[x])=x.id
 |[],last=>rfl
 |a::l,last=>by simp [lastId,lastId_snoc x l]
theorem obSize_snoc (x:Ob):∀(l:List Ob),obSize (l++[x])=obSize l+(2+x.val.length)
 |[]=>by simp [obSize]
 |a::l=>by simp [obSize,obSize_snoc x l];omega
theorem rises_pre (k:List Ob):∀(l:List Ob) (last:Int),rises last (l++k)=true→rises last l=true
 |[],last,_=>rfl
 |a::l,last,h=>by
  simp only[List.cons_append,rises,Bool.and_eq_true] at h ⊢;exact⟨h.1,rises_pre k l _ h.2⟩
theorem obSize_pre (k:List Ob):∀(l:List Ob),obSize l≤obSize (l++k)
 |[]=>Nat.zero_le _
 |a::l=>by have:=obSize_pre k l;simp [obSize];omega
theorem take_succ_snoc {α:Type} {l:List α} {k:Nat} {x:α} (h:l[k]?=some x):l.take (k+1)=l.take k++[x]:=by
 rw[List.take_add_one,h];rfl
theorem objs_no {l:List Ob} {k:Nat} {x:Ob} (h:l[k]?=some x) (hb:¬(lastId (-1) (l.take k)<x.id∧x.id≤255∧obSize (l.take k)+(2+x.val.length)≤246)):objsB l=false:=by
 cases hx:objsB l with
 |false=>rfl
 |true=>
  exfalso;apply hb;unfold objsB at hx;simp only[Bool.and_eq_true,decide_eq_true_eq] at hx;have e:l=l.take (k+1)++l.drop (k+1):=(List.take_append_drop _ _).symm;have h1:=hx.1;have h2:=hx.2;rw[e] at h1 h2;have h3:=rises_pre _ _ _ h1;have h4:=obSize_pre (l.drop (k+1)) (l.take (k+1));rw[take_succ_snoc h] at h3 h4 h2;rw[rises_snoc] at h3;rw[obSize_snoc] at h4;simp only[Bool.and_eq_true,decide_eq_true_eq] at h3;exact⟨h3.1.2,h3.2,by omega⟩
def Rp.headB (r:Rp):Bool:=r.data.isEmpty&&decide (1≤r.code)&&decide (r.code≤3)&&lvB r.level&&decide (0≤r.next)&&decide (r.next≤255)
theorem Rp.devB_eq (r:Rp):r.devB=(r.headB&&objsB r.objs&&(if r.more then !r.objs.isEmpty&&decide (lastId (-1) r.objs<r.next) else r.next==0)):=rfl
theorem validDevice_head (fn exc:Int) (dv:Value) (code level:Int) (more:Bool) (next:Int) (ov:Value) (data:List UInt8) (objs:List Ob) (w:World) (hd:Bs w dv data) (hl:level≤9223372036854775807) (hl2: -9223372036854775808≤level)
  (hh:Rp.headB ⟨fn,exc,data,code,level,more,next,objs⟩=false):
  Calls Tryz.prog 217 #[.agg #[.int .i64 fn,.int .i64 exc,dv,.int .i64 code,.int .i64 level,.bool more,.int .i64 next,ov]] w fun r w'=>r=.returned (.bool false)∧Below w.heap.size w w':=by
 obtain⟨a2,c2,rfl,hc⟩:=hd;clear hc;have H:Hid (data=[]→1≤code→code≤3→(1≤level∧level≤3∨129≤level∧level≤131)→0≤next→next≤255→False):=by
  intro a1 a2 a3 a4 a5 a6;subst a1;have:lvB level=true:=by unfold lvB;simp;omega
  simp [Rp.headB,a2,a3,this,a5,a6] at hh
 clear hh;have H2:Hid (data.length=0→1≤code→code≤3→(1≤level∧level≤3∨129≤level∧level≤131)→0≤next→next≤255→False):=fun h=>H.out (List.eq_nil_of_length_eq_zero h)
 clear H;generalize data.length=n at*;by_cases h128:128<level
 all_goals
  go_enter Tryz.func217,Tryz.ntmps217;go_wp2
  all_goals first
   |(go_ret;exact⟨rfl,bH _ _⟩)
   |(exfalso;exact H2.out (by omega) (by omega) (by omega) (by omega) (by omega) (by omega))
theorem validDevice_body (fn exc:Int) (dv:Value) (code level:Int) (more:Bool) (next:Int) (ov:Value) (objs:List Ob) (w:World) (hd:Bs w dv []) (ho:Obs w ov objs)
  (hcode:1≤code) (hcode2:code≤3) (hlev:(1≤level∧level≤3)∨(129≤level∧level≤131)) (hn1:0≤next) (hn2:next≤255):
  Calls Tryz.prog 217 #[.agg #[.int .i64 fn,.int .i64 exc,dv,.int .i64 code,.int .i64 level,.bool more,.int .i64 next,ov]] w fun r w'=>r=.returned (.bool (objsB objs&&(if more then !objs.isEmpty&&decide (lastId (-1) objs<next) else next==0)))∧Below w.heap.size w w':=by
 obtain⟨a2,c2,rfl,hc⟩:=hd;clear hc;have HO:=bC ho;obtain⟨a,c,rfl,hc⟩:=ho;have hcm:objs.length≤9223372036854775807:=by have:=HO.out.len;unfold maxLen at this;omega
 clear hc;rcases hlev with⟨hl1,hl2⟩|⟨hl1,hl2⟩
 all_goals
  go_enter Tryz.func217,Tryz.ntmps217;go_wp2;have hB:Below w.heap.size w (w.alloc (.cells #[.int .i64 fn,.int .i64 exc,.slice a2 ([]:List UInt8).length c2,.int .i64 code,.int .i64 level,.bool more,.int .i64 next,.slice a objs.length c] 53)):=bH _ _;have hc5:(w.alloc (.cells #[.int .i64 fn,.int .i64 exc,.slice a2 ([]:List UInt8).length c2,.int .i64 code,.int .i64 level,.bool more,.int .i64 next,.slice a objs.length c] 53)).cell? ⟨w.heap.size,5,none⟩=some (.bool more):=by rw[World.cell?_alloc_at _ _ _ _ rfl];rfl
  have hc6:(w.alloc (.cells #[.int .i64 fn,.int .i64 exc,.slice a2 ([]:List UInt8).length c2,.int .i64 code,.int .i64 level,.bool more,.int .i64 next,.slice a objs.length c] 53)).cell? ⟨w.heap.size,6,none⟩=some (.int .i64 next):=by rw[World.cell?_alloc_at _ _ _ _ rfl];rfl
  have hc7:(w.alloc (.cells #[.int .i64 fn,.int .i64 exc,.slice a2 ([]:List UInt8).length c2,.int .i64 code,.int .i64 level,.bool more,.int .i64 next,.slice a objs.length c] 53)).cell? ⟨w.heap.size,7,none⟩=some (.slice a objs.length c):=by rw[World.cell?_alloc_at _ _ _ _ rfl];rfl
  replace HO:=bC (HO.out.keep hB);generalize hbx:w.heap.size=bx at*;simp only[List.length_nil] at hB hc5 hc6 hc7 HO;generalize w.alloc (.cells #[.int .i64 fn,.int .i64 exc,.slice a2 0 c2,.int .i64 code,.int .i64 level,.bool more,.int .i64 next,.slice a objs.length c] 53)=W at*;have hszW:bx≤W.heap.size:=by rw[←hbx];exact hB.size
  have HBX:=bC hbx;clear hbx;go_loopw [4,5,49] (fun la sz i wr=>∃k:Nat,k≤objs.length∧i=.int .i64 k∧la=.int .i64 (lastId (-1) (objs.take k))∧sz=.int .i64 (obSize (objs.take k))∧rises (-1) (objs.take k)=true∧obSize (objs.take k)≤246∧Below W.heap.size W wr) (fun _ _ i _=>objs.length- (intOf i).toNat)
  case atStart=>exact⟨0,Nat.zero_le _,rfl,rfl,rfl,rfl,by simp [obSize],Below.refl _ _⟩
  case round=>
   obtain⟨k,hk,rfl,rfl,rfl,hri,hsz,hbw⟩:=hrel;replace hri:=bC hri;replace hc5:=bD hbw hc5;replace hc6:=bD hbw hc6;replace hc7:=bD hbw hc7;by_cases hlt:k<objs.length
   ·obtain ⟨b,o,cc,hv,h1,h2,hcell⟩:=HO.out.at (by rintro rfl;simp at hlt)
    have hv':=bC hv;simp only[Value.slice.injEq,true_and] at hv;obtain⟨rfl,rfl⟩:=hv;have hgx:objs[k]?=some objs[k]:=List.getElem?_eq_getElem hlt;obtain⟨d1,vv,d2,hvv⟩:=hcell k _ hgx;clear hcell;have HG:=bC hgx;generalize objs[k]=x at*;obtain⟨xa,xc,rfl,hxl,_⟩:=id hvv;replace d1:=bD hbw d1;replace d2:=bD hbw d2;have hxm:=hvv.len;unfold maxLen at hxm;clear hgx hvv;have HNO:=bC (objs_no (l:=objs) (k:=k) (x:=x) HG.out);have HSN:=bC (show rises (-1) (objs.take (k+1))=(decide (lastId (-1) (objs.take k)<x.id)&&decide (x.id≤255))∧lastId (-1) (objs.take (k+1))=x.id∧obSize (objs.take (k+1))=obSize (objs.take k)+(2+x.val.length) by
     rw[take_succ_snoc HG.out,rises_snoc,lastId_snoc,obSize_snoc,hri.out,Bool.true_and]
     exact⟨rfl,rfl,rfl⟩)
    generalize lastId (-1) (objs.take k)=la at*;generalize obSize (objs.take k)=sz at*;generalize x.id=xi at*;generalize x.val.length=xn at*;have hki:(0:Int)≤(k:Int):=Int.natCast_nonneg _;have hkl:(k:Int)<(objs.length:Int):=by omega
    generalize hol:objs.length=n at*;replace hol:=bC hol;by_cases hgood:la<xi∧xi≤255∧sz+(2+xn)≤246
    ·obtain ⟨g1,g2,g3⟩:=hgood
     go_wp2;go_roundw
     case rel=>exact⟨k+1,by omega,by go_num,by rw[HSN.out.2.1],by rw[HSN.out.2.2];go_num,by rw[HSN.out.1];simp [g1,g2],by rw[HSN.out.2.2];omega,hbw.alloc hbw.size _⟩
     case measure=>simp [intOf];omega
    ·have HF:=bC (HNO.out hgood)
     go_wp2
     all_goals
      go_ret;refine⟨by rw[HF.out];rfl,?_⟩;have hfin:=hB.trans ((cJ hbw (Nat.le_refl _) (.cells #[.int .i64 xi,.slice xa xn xc] 165)).mono hszW);rw[←HBX.out] at hfin;exact hfin
   ·obtain rfl:k=objs.length:=by omega
    have HF:Hid (objsB objs=true):=by
     have h1:=hri.out;rw[List.take_length] at h1 hsz;exact show objsB objs=true by unfold objsB;rw[h1];simpa using hsz
    have HT:Hid (List.take objs.length objs=objs):=List.take_length;rw[HT.out];clear hsz hri;generalize hla:lastId (-1) objs=la at*;replace hla:=bC hla;have HE:Hid (objs.isEmpty=decide (objs.length=0)):=by
     show objs.isEmpty=decide (objs.length=0);cases objs<;>simp
    generalize objs.length=n at*;cases more
    all_goals
     go_wp2
     all_goals
      go_ret;have hfin:=hB.trans (hbw.mono hszW);rw[←HBX.out] at hfin;refine⟨?_,hfin⟩;clear hfin;refine bO ?_;rw[HF.out]
      try rw[HE.out,hla.out]
      first|(simp [*];done)|(rw[Bool.eq_iff_iff];simp [*];omega)|(rw[Bool.eq_iff_iff];simp;omega)
theorem headB_false {fn exc:Int} {code level:Int} {more:Bool} {next:Int} {data:List UInt8} {objs:List Ob} (h:Rp.headB ⟨fn,exc,data,code,level,more,next,objs⟩=false):Rp.devB ⟨fn,exc,data,code,level,more,next,objs⟩=false:=by
 rw[Rp.devB_eq,h];rfl
theorem validDevice_any (fn exc:Int) (dv:Value) (code level:Int) (more:Bool) (next:Int) (ov:Value) (data:List UInt8) (objs:List Ob) (w:World) (hd:Bs w dv data) (ho:Obs w ov objs) (hl:level≤9223372036854775807) (hl2: -9223372036854775808≤level):
  Calls Tryz.prog 217 #[.agg #[.int .i64 fn,.int .i64 exc,dv,.int .i64 code,.int .i64 level,.bool more,.int .i64 next,ov]] w fun r w'=>r=.returned (.bool (Rp.devB ⟨fn,exc,data,code,level,more,next,objs⟩))∧Below w.heap.size w w':=by
 cases hh:Rp.headB ⟨fn,exc,data,code,level,more,next,objs⟩ with
 |false=>
  rw[headB_false hh];exact validDevice_head fn exc dv code level more next ov data objs w hd hl hl2 hh
 |true=>
  have h2:=hh;simp only[Rp.headB,Bool.and_eq_true,decide_eq_true_eq,List.isEmpty_iff] at h2;obtain⟨⟨⟨⟨⟨h1,h2⟩,h3⟩,h4⟩,h5⟩,h6⟩:=h2;subst h1;rw[Rp.devB_eq,hh,Bool.true_and];refine validDevice_body fn exc dv code level more next ov objs w hd ho h2 h3 ?_ h5 h6
  unfold lvB at h4;simp at h4;exact h4
theorem rvalid_any (fn exc:Int) (dv:Value) (code level:Int) (more:Bool) (next:Int) (ov:Value) (data:List UInt8) (objs:List Ob) (w:World) (hd:Bs w dv data) (ho:Obs w ov objs) (hl:level≤9223372036854775807) (hl2: -9223372036854775808≤level):
  Calls Tryz.prog 197 #[.agg #[.int .i64 fn,.int .i64 exc,dv,.int .i64 code,.int .i64 level,.bool more,.int .i64 next,ov]] w fun r w'=>r=.returned (.bool (Rp.ok ⟨fn,exc,data,code,level,more,next,objs⟩))∧Below w.heap.size w w':=by
 have HD:=bC hd;have HO:=bC ho;obtain⟨a2,c2,rfl,hc⟩:=hd;clear hc;obtain⟨a,c,rfl,hc⟩:=ho;clear hc;have HE:Hid (data.isEmpty=decide (data.length=0)):=by
  show data.isEmpty=decide (data.length=0);cases data<;>simp
 have HOK:Hid (Rp.ok ⟨fn,exc,data,code,level,more,next,objs⟩=(knownB fn&&
  if exc=0 then
   (if fn=43 then Rp.devB ⟨fn,exc,data,code,level,more,next,objs⟩ else if fn=17 then decide (1≤data.length)&&decide (data.length≤251)&&Rp.plain ⟨fn,exc,data,code,level,more,next,objs⟩ else decide (1≤data.length)&&decide (data.length≤250)&&Rp.plain ⟨fn,exc,data,code,level,more,next,objs⟩)
  else decide (1≤exc)&&decide (exc≤255)&&(data.isEmpty&&Rp.plain ⟨fn,exc,data,code,level,more,next,objs⟩))):=rfl
 have HP:Hid (∀W xv,Below w.heap.size w W→Calls Tryz.prog 216 #[.agg #[.int .i64 fn,.int .i64 exc,xv,.int .i64 code,.int .i64 level,.bool more,.int .i64 next,.slice a objs.length c]] W fun r w'=>r=.returned (.bool (Rp.plain ⟨fn,exc,data,code,level,more,next,objs⟩))∧Below W.heap.size W w'):=fun W xv h=>plain_any _ _ _ _ _ _ _ _ _ _ W (HO.out.keep h)
 have HV:Hid (∀W,Below w.heap.size w W→Calls Tryz.prog 217 #[.agg #[.int .i64 fn,.int .i64 exc,.slice a2 data.length c2,.int .i64 code,.int .i64 level,.bool more,.int .i64 next,.slice a objs.length c]] W fun r w'=>r=.returned (.bool (Rp.devB ⟨fn,exc,data,code,level,more,next,objs⟩))∧Below W.heap.size W w'):=fun W h=>validDevice_any _ _ _ _ _ _ _ _ _ _ W (HD.out.keep h) (HO.out.keep h) hl hl2
 rw[HOK.out];generalize Rp.plain ⟨fn,exc,data,code,level,more,next,objs⟩=pb at*;generalize Rp.devB ⟨fn,exc,data,code,level,more,next,objs⟩=vb at*;rw[HE.out];clear HE HOK HD HO;generalize data.length=n at*;generalize objs.length=m at*;have hB:=bH w (.cells #[.int .i64 fn,.int .i64 exc,.slice a2 n c2,.int .i64 code,.int .i64 level,.bool more,.int .i64 next,.slice a m c] 53);have hx:(¬exc=0∧(exc==0)=false∧(exc !=0)=true)∨exc=0:=by
  by_cases h:exc=0
  ·exact .inr h
  ·exact .inl ⟨h,by simpa using h,by simpa using h⟩
 have hf:(¬fn=43∧(fn==43)=false∧((¬fn=17∧(fn==17)=false)∨fn=17))∨fn=43:=by
  by_cases h:fn=43
  ·exact .inr h
  ·refine .inl ⟨h,by simpa using h,?_⟩
   by_cases h:fn=17
   ·exact .inr h
   ·exact .inl ⟨h,by simpa using h⟩
 cases hk:knownB fn
 all_goals
  rcases hx with⟨h,h',h''⟩|rfl
  all_goals
   rcases hf with⟨h1,h1',⟨h2,h2'⟩|rfl⟩|rfl
   all_goals
    go_enter Tryz.func197,Tryz.ntmps197;go_wp2_with (first|(go_at_call 195;refine(known_any _ _).mono ?_;rintro r w1 ⟨rfl,rfl⟩)|(go_at_call 216;(with_reducible refine(HP.out _ _ (bH w _)).mono ?_);rintro r w2 ⟨rfl,hb2⟩)|(go_at_call 217;(with_reducible refine(HV.out _ hB).mono ?_);rintro r w3 ⟨rfl,hb3⟩))
    all_goals
     go_ret;refine⟨bO ?_,by first|exact bH w _|exact bU (bH w _) (by assumption)⟩
     first|(simp [*];done)|(rw[Bool.eq_iff_iff];simp [*];omega)|(rw[Bool.eq_iff_iff];simp;omega)
abbrev bP:=@byteI_val
abbrev bT:=@take_succ_snoc
end Go.Proofs.YtoaoejaodhedaaaGreat
