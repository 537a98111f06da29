import Derived.Test.YtoaoejaodhedaaaGreatF02
namespace Go.Proofs.YtoaoejaodhedaaaGreat
open Go.RowKit
set_option maxHeartbeats 3200000
set_option maxRecDepth 100000
variable {news xs:List Value} {k m s size sz:Nat} {v y:Value} {w w':World}
theorem UF.ah {w w':World} (e:Below w.heap.size w w') (r:List Value) (x:Ob) (h:UF w r x):UF w' r x:=by
 obtain⟨a,c,b,d⟩:=h;exact⟨a,c,b,d.ah e⟩
def xdn (l:List (Int×Int)) (n u:Int):List (Int×Int):=
 match l.getLast? with
 |some p=>if p.2=u then l.dropLast++[(p.1+n,u)] else l++[(n,u)]
 |none=>[(n,u)]
def rle (ks:List Int):List (Int×Int):=ks.foldl (fun a k=>xdn a 1 k) []
def xdl (last:Int):List Ob→Bool
 |[]=>true
 |x::l=>decide (last<x.id)&&xdl x.id l
structure Tb where
 st:Int
 al:Int
 map:List (Int×Int)
structure Dv where
 st:Int
 idn:Int
 lv:Int
 ag:List Ob
 srv:Int
 sd:List UInt8
 ts:Nat→Tb
def Dv.zero:Dv:=⟨0,0,0,[],0,[],fun _=>⟨0,0,[]⟩⟩
def xch (aq:Nat→Int×Int):Prop:=∀k,k<4→0≤(aq k).2∧(aq k).2≤512∧0≤(aq k).1∧(aq k).1≤65536- (aq k).2
def IL (l:List Ob) (r:Ending):Prop:=∃s:Nat,r=.returned (.int .i64 s)∧(s≤246↔aB l≤246)
def IG (l:List Ob) (k s:Nat):Prop:=s≤600∧(s≤246→s=aB (l.take k))∧(246<s→246<aB l)
theorem IG.step {l:List Ob} {x:Ob} (h:IG l k s) (hs:s≤246) (c:l[k]?=some x) (m:Nat) (hm:m=min x.val.length 300):IG l (k+1) (s+(2+m)):=by
 obtain⟨d,a,f⟩:=h;have e:aB (l.take (k+1))=aB (l.take k)+(2+x.val.length):=by rw[az c,eI]
 have b:=fA (l.drop (k+1)) (l.take (k+1));rw[List.take_append_drop] at b;have g:=a hs;refine⟨by omega,fun h=>by omega,fun h=>by omega⟩
theorem XQ (v:Value) (l:List Ob) (w:World) (u:cY w v l):
  Calls Tryz.prog 98 #[v] w fun r w'=>IL l r∧w=w':=by
 obtain⟨a,n,c,rfl,e,J,L,K,p⟩:=u.open_;clear u;replace p:=hid p;replace e:=hid e;go_enter Tryz.func98,Tryz.ntmps98;go_wp2;go_loop [3,4] (fun sv i=>∃k s:Nat,k≤n∧i=.int .i64 k∧sv=.int .i64 s∧IG l k s) (fun _ i=>n- (intOf i).toNat)
 case atStart=>exact⟨0,0,Nat.zero_le _,rfl,rfl,by omega,fun _=>rfl,fun h=>by omega⟩
 case round=>
  obtain⟨k,s,I,rfl,rfl,d⟩:=hrel;have E:=d.1;replace d:=hid d;by_cases g:k<n
  ·by_cases hs:s≤246
   ·obtain ⟨x,q⟩:=get_some e.out g
    obtain⟨b,o,M,N,rfl,_,d2,t⟩:=p.out k x q;have j:=t.len;unfold maxLen at j;obtain⟨m,hm⟩:∃m,m=min x.val.length 300:=⟨_,rfl⟩
    have F:=hid (d.out.step hs q m hm);have B:(k:Int)<(n:Int):=by omega
    clear q t;generalize x.val.length=z at*;have D:(if (300:Int)<(z:Int) then (300:Int) else (z:Int))=(m:Int):=by split<;>omega
    have C:m≤300:=by omega
    replace hm:=hid hm;go_wp2;go_round
    case rel=>exact⟨k+1,s+(2+m),by omega,by go_num,by go_num,F.out⟩
    case measure=>simp [intOf];omega
   ·have f:Hid (IL l (.returned (.int .i64 s))):=⟨s,rfl,by have:=d.out.2.2 (by omega);omega⟩
    go_wp2;go_ret;exact⟨f.out,rfl⟩
  ·obtain rfl:k=n:=by omega
   have f:Hid (IL l (.returned (.int .i64 s))):=by
    refine⟨s,rfl,?_⟩;have A:=d.out.2.1;have G:=d.out.2.2;rw[←e.out,List.take_length] at A;omega
   go_wp2;go_ret;exact⟨f.out,rfl⟩
def xbW (rd:List (Int×Int)) (a:Int):Int:=if El rd a=true then 1 else 2
def Qt (rd:List (Int×Int)) (a:Int):Nat→List Int
 |0=>[]
 |n+1=>Qt rd a n++[xbW rd (a+(n:Nat))]
structure Sl.ok (s:Sl):Prop where
 tb:∀k,k<4→(s.ts k).sup=true→1≤(s.ts k).al∧(s.ts k).al≤cN ((k:Nat)+1)
 lv:0≤s.lv
 ob:0<s.lv→s.ag≠[]∧s.ag.length≤16∧xdl (-1) s.ag=true∧∀y∈s.ag,y.id≤255
 sd:s.hs=true→0<s.sd.length
def iP.xdp (t:iP) (w:Int×Int):Tb:=if w.2=0 then ⟨6,0,[]⟩ else if t.sup=true then ⟨2,t.al,rle (Qt t.rd w.1 w.2.toNat)⟩ else ⟨5,0,[]⟩
def Sl.d1:Dv:={Dv.zero with st:=2}
def Sl.d2 (s:Sl):Dv:={Sl.d1 with idn:=if 0<s.lv then 2 else 5,lv:=if 0<s.lv then s.lv else 0,ag:=if 0<s.lv then s.ag else []}
def Sl.d3 (s:Sl):Dv:={s.d2 with srv:=if s.hs=true then 2 else 5,sd:=if s.hs=true then s.sd else []}
def Sl.dk (s:Sl) (aq:Nat→Int×Int) (k:Nat):Dv:={s.d3 with ts:=fun i=>if i<k then (s.ts i).xdp (aq i) else ⟨0,0,[]⟩}
def Kh (w:World) (sz:Nat) (y:Value) (m:Nat) (news:List Value):Prop:=
 ∃a c,y=.slice a m c∧news.length=m*sz∧(a=none→m=0∧c=0)∧∀ad,a=some ad→∀(j:Nat) u,news[j]?=some u→w.cell? (ad.add j)=some u
theorem S9 {P:Program} {ops:Array Oper} {o:Oper} {a:Act} {K:Act→World→Prop} {Q:Exit→Act→World→Prop} {E:Prop} (q:o.guard=none) (s x:Operand) (t:TypeId)
  (j:o.op=.call {callee:=.builtin .append,args:=#[s,x],argTypes:=#[t,t]})
  (base:Nat) (e:TypeId) (i:TypeInfo) (z:Value) (size bytes:Nat) (l:P.underlying t=some (.slice e)) (hi:P.info? e=some i) (J:i.zero=some z)
  (r:i.size=size) (O:i.bytes=bytes) (C:z.cells.size=size) (N:0<size)
  (v:Value) (n:Nat) (xs:List Value) (hs:a.eval s=v) (b:w.ownsRow base e size v n xs)
  (y:Value) (m:Nat) (news:List Value) (p:a.eval x=y) (I:Kh w size y m news) (D:∀u∈news,u.oneCell'=true)
  (B:n+m≤maxLen) (L:(n+m)*bytes≤140737488355328) (M:base≤w.heap.size)
  (h:∀f w',w'.ownsRow base e size f (n+m) (xs++news)→w.grownBy w' v.ownBlock→cZ w v f→K (a.put o.dst f) w'):
  if Region.wanted o (yielded ops a.tmps)=true then Oper.wp P o a w K Q else E:=by
 obtain⟨d,c,rfl,g,G,F⟩:=I;cases d with
 |some d=>exact step_appN q s x t j base e i z size bytes l hi J r O C N v n xs hs b d m c news p g (F d rfl) D B L M h
 |none=>
  obtain⟨rfl,rfl⟩:=G rfl;obtain rfl:news=[]:=List.eq_nil_of_length_eq_zero (by simpa using g);have hw:Region.wanted o (yielded ops a.tmps)=true:=by simp [Region.wanted,q]
  rw[if_pos hw];subst r;have A:=run_append_owned_none (P:=P) (w:=w) base t o.type e i i.size l hi v n xs b;unfold Oper.wp execOp;simp only[j,resolve,invoke,builtin,Sem.run_bind,Sem.run_pure,Result.andThen_ok,List.map_toArray,List.map_cons,List.map_nil,hs,p,A];exact h v w (by simpa using b) (World.grownBy.refl _ _) (.inl rfl)
theorem Kh.own {base:Nat} {e:TypeId} {n:Nat} (h:w.ownsRow base e size v n xs):Kh w size v n xs:=by
 rcases id h.2 with⟨rfl,rfl⟩|⟨g,cap,cur,rfl,_⟩
 ·exact ⟨none,0,rfl,h.1,fun _=>⟨rfl,rfl⟩,fun a e=>nomatch e⟩
 ·refine ⟨some ⟨g,0,none⟩,cap,rfl,h.1,(fun e=>nomatch e),fun a e j u b=>?_⟩
  cases e;exact h.cells (g:=g) rfl j u b
theorem Kh.ah (h:Kh w sz y m news) (l:Below w.heap.size w w'):Kh w' sz y m news:=by
 obtain⟨a,c,d,f,g,i⟩:=h;exact⟨a,c,d,f,g,fun b e j u n=>cell_keep l (i b e j u n)⟩
def dA:Dv:={Dv.zero with st:=1}
