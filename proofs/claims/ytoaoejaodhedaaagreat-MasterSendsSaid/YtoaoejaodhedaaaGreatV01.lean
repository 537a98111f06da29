import Derived.Test.YtoaoejaodhedaaaGreatT22
import Derived.Test.YtoaoejaodhedaaaGreatT28
namespace Go.Proofs.YtoaoejaodhedaaaGreat
set_option maxHeartbeats 3200000
set_option maxRecDepth 100000
open Go.RowKit
open Option renaming some→J
open Value renaming int→M
open IntKind renaming i64→N
theorem IQ {P:Program} {w:World} {src e:TypeId} (hs:P.underlying src=J (.slice e)) (he:P.underlying e=J (.int .u8)) {v:Value} {l:List UInt8} (h:Bs w v l)
  (dst:TypeId) (d:P.underlying dst=J .string):(convert src dst v).run P w=.ok (.string ⟨l.toArray⟩) w:=by
 obtain⟨a,c,rfl,k,m,n,g⟩:=h;by_cases f:l=[]
 ·subst f
  cases a with
  |none=>exact run_convert_bytes_nil (P:=P) w src e hs he 0 c dst d
  |some a=>
   show (convert src dst (.slice (J a) 0 c)).run P w=_;rw[run_convert_bytes_string w src dst e (J a) 0 c hs he d,run_bytesToString w a 0 c [] (by simp [loadCells,loadCellsFrom])];rfl
 ·obtain ⟨b,off,rfl,j⟩:=g f
  have:=run_convert_bytes_arg (P:=P) w src e hs he b off l.length c (l.map fun x=>(x.toNat:Int)) (by simp) (fun i hi=>by rw[j i hi];simp [List.getD,hi]) dst d;rw[this];have e1:strOfNums (l.map fun x=>(x.toNat:Int))=⟨l.toArray⟩:=by
   simp [strOfNums,Function.comp_def]
  rw[e1]
theorem Bs.row {w:World} {a:Option Addr} {len cap:Nat} {zs:List Int}
  (h:(a=none∧len=0∧cap=0∧zs=[])∨
   ∃x,a=some x∧len≤cap∧cap≤maxLen∧zs.length=cap∧(∀i,i<zs.length→w.cell? (x.add i)=some (.int .u8 (zs.getD i 0)))∧∀n∈zs,(Lit.int .u8 n).wf=true):
  ∃l,Bs w (.slice a len cap) l∧l.length=len:=by
 rcases h with⟨rfl,rfl,rfl,rfl⟩|⟨x,rfl,r,hm,s,g,hw⟩
 ·exact ⟨[],Bs.nil w,rfl⟩
 ·refine ⟨(zs.take len).map fun n=>UInt8.ofNat n.toNat,?_,by simp;omega⟩
  have e1:((zs.take len).map fun n=>UInt8.ofNat n.toNat).length=len:=by simp;omega
  refine⟨some x,cap,by rw[e1],by omega,hm,fun h=>by simp at h,fun o=>?_⟩;have p:0<len:=by
   rcases Nat.eq_zero_or_pos len with h|h
   ·subst h;simp at o
   ·exact h
  obtain⟨b,off,spot⟩:=x;have m:=g 0 (by omega);have j:spot=none:=by simpa [Addr.add] using World.cell?_spot m
  subst j;refine⟨b,off,rfl,fun i hi=>?_⟩;rw[e1] at hi;have e2:(⟨b,off,none⟩:Addr).add i=⟨b,off+i,none⟩:=by unfold Addr.add;split<;>simp_all
  have f:=g i (by omega);rw[e2] at f;rw[f];have c:i<zs.length:=by omega
  have d:=hw zs[i] (List.getElem_mem c);have q:=bounds_u8 d;have k:(((zs.take len).map fun n=>UInt8.ofNat n.toNat).getD i 0).toNat=zs[i].toNat:=by
   simp [List.getD,hi,c];omega
  rw[k];simp [List.getD,c];omega
theorem Bs.keeps {w w':World} {F:Nat→Prop} {v:Value} {l:List UInt8} (h:Bs w v l) (q:Keeps F w w') (s:∀k,v.ownBlock=J k→¬F k):Bs w' v l:=by
 obtain⟨a,c,f,g,j,m,n⟩:=h;refine⟨a,c,f,g,j,m,fun r=>?_⟩;obtain⟨b,o,d,p⟩:=n r;exact⟨b,o,d,fun i hi=>q.cell (p i hi) (s b (by rw[f,d];rfl))⟩
section
variable {P:Program} {w:World} {t:TypeId} {cs:List Value}
theorem Rd.string (a:P.underlying t=J .string) (h:Rd P w t cs):∃s,cs=[.string s]∧s.size≤maxLen:=by
 obtain⟨H,enc,base,spare,held,fuel,x,h⟩:=h;cases fuel with
 |zero=>simp [DataW.trod] at h
 |succ fuel=>
  unfold DataW.trod at h;rw[a] at h;split at h<;>simp_all
end
open Go.RowKit
section
variable {α:Type} {sz:Nat} {R:World→List Value→α→Prop}
theorem eU.len {Q:List Value→α→Prop}:∀(l:List α) (cs:List Value),eU sz Q cs l→cs.length=l.length*sz
 |[],cs,h=>by
  have a:cs=[]:=h;subst a;simp
 |y::l,cs,h=>by
  obtain⟨f,rest,rfl,b,d,c⟩:=h;have:=eU.len l rest c;rw[List.length_append,b,this,List.length_cons,Nat.add_mul,Nat.one_mul,Nat.add_comm]
theorem eU.one {Q:List Value→α→Prop} (a:∀r x,Q r x→∀u∈r,u.oneCell'=true):∀(l:List α) (cs:List Value),eU sz Q cs l→∀u∈cs,u.oneCell'=true
 |[],cs,h,u,hu=>by
  have b:cs=[]:=h;subst b;cases hu
 |y::l,cs,h,u,hu=>by
  obtain⟨g,rest,rfl,f,c,d⟩:=h;rcases List.mem_append.1 hu with hu|hu
  ·exact a _ _ c u hu
  ·exact eU.one a l rest d u hu
theorem gY.row {w:World} {b o n c:Nat} {l:List α} (h:gY sz R w (.slice (J ⟨b,o,none⟩) n c) l):∃cs,eU sz (R w) cs l∧l.length=n∧∀j u,cs[j]?=J u→w.cell? ⟨b,o+j,none⟩=J u:=by
 obtain⟨A,_,_,E⟩:=h.get;clear h;subst A;have main:∀(l:List α) (o:Nat),(∀i x,l[i]?=J x→∃r,r.length=sz∧R w r x∧∀j u,r[j]?=J u→w.cell? ⟨b,o+i*sz+j,none⟩=J u)→
   ∃cs,eU sz (R w) cs l∧∀j u,cs[j]?=J u→w.cell? ⟨b,o+j,none⟩=J u:=by
  intro l
  induction l with
  |nil=>intro o _;exact⟨[],rfl,fun j u a=>by simp at a⟩
  |cons x l ih=>
   intro o h;obtain⟨r,d,f,q⟩:=h 0 x rfl;obtain⟨cs,s,v⟩:=ih (o+sz) (fun i y D=>by
    obtain⟨r,k,m,p⟩:=h (i+1) y (by simpa using D)
    exact⟨r,k,m,fun j u a=>by
     have:=p j u a
     rwa [show o+(i+1)*sz+j=o+sz+i*sz+j by rw[Nat.add_mul];omega] at this⟩)
   refine⟨r++cs,⟨r,cs,rfl,d,f,s⟩,fun j u a=>?_⟩;by_cases g:j<r.length
   ·rw [List.getElem?_append_left g] at a
    have:=q j u a
    rwa [Nat.zero_mul,Nat.add_zero] at this
   ·rw [List.getElem?_append_right (by omega),d] at a
    have:=v (j-sz) u a
    rwa [show o+sz+(j-sz)=o+j by omega] at this
 obtain⟨cs,d,f⟩:=main l o (fun i x C=>by
  obtain⟨b',F,z,r,B⟩:=E i x C
  cases z
  exact⟨r,B⟩)
 exact⟨cs,d,rfl,f⟩
end
open Go.RowKit
def Ob.same (a b:Ob):Bool:=a.id==b.id&&a.val==b.val
def IS:List Ob→List Ob→Bool
 |[],[]=>true
 |a::l,b::k=>a.same b&&IS l k
 |_,_=>false
def Rp.same (a b:Rp):Bool:=a.fn==b.fn&&a.ar==b.ar&&a.data==b.data&&a.code==b.code&&a.level==b.level&&a.more==b.more&&a.next==b.next&&IS a.ag b.ag
def Oc.same (a b:Oc):Bool:=a.verdict==b.verdict&&a.ae.same b.ae
def Oc.ok (o:Oc):Bool:=
 if o.verdict=3∨o.verdict=4∨o.verdict=5 then o.ae.fn==0&&o.ae.ar==0&&o.ae.short
 else if o.verdict=2 then !(o.ae.ar==0)&&o.ae.ok
 else if o.verdict=1 then (o.ae.ar==0)&&(if jW o.ae.fn then o.ae.short else o.ae.ok)
 else false
def Oc.enc (o:Oc):List UInt8:=
 byteI o.verdict::(if o.verdict=2 then [byteI o.ae.fn,byteI o.ae.ar] else if o.verdict=1 then byteI o.ae.fn::(if jW o.ae.fn then [] else byteI o.ae.bE.length::o.ae.bE) else [])
theorem Es (f a q c o:Int) (u:1≤f) (v:f≤4) (w:World):
  Calls Tryz.prog 30 #[.agg #[M N f,M N a,M N q,M N c,M N o]] w fun r w'=>r=.returned (.bool (Rq.ok ⟨f,a,q,c,o⟩))∧Below w.heap.size w w':=by
 obtain⟨L,s⟩:=gE (cN f);have z:L≤2000:=by rw[←s];exact(lT f).2
 have j:Hid (∀W,Calls Tryz.prog 79 #[M N f] W fun r w'=>r=.returned (M N L)∧W=w'):=fun W=>by rw[←s];exact kI f W
 obtain⟨V,b⟩:∃V,Rq.ok ⟨f,a,q,c,o⟩=V:=⟨_,rfl⟩
 rw[b];unfold Rq.ok at b;rw[if_pos ⟨u,v⟩] at b;simp only at b;rw[s] at b;replace b:=hid b;have k:1≤q→q≤L→IntKind.i64.wrap (65536-q)=65536-q:=fun _ _=>IntWalk.i64_in _ (by omega)
 have m:Hid (∀X,Below w.heap.size w (w.alloc X)):=fun X=>bal' w X
 have n:=(show f=1∨f=2∨f=3∨f=4 by omega)
 clear s u v;rcases (show ¬0≤a∨(0≤a∧¬1≤q)∨(0≤a∧1≤q∧¬q≤L)∨(0≤a∧1≤q∧q≤L∧¬a≤65536-q)∨(0≤a∧1≤q∧q≤L∧a≤65536-q∧¬c=0)∨(0≤a∧1≤q∧q≤L∧a≤65536-q∧c=0) by omega) with d|⟨d,g⟩|⟨d,g,i⟩|⟨d,g,i,l⟩|⟨d,g,i,l,p⟩|⟨d,g,i,l,p⟩
 ·have d1:decide (0≤a)=false:=decide_eq_false d
  have e:V=false:=by rw[←b.out,d1];simp
  clear b k d;subst e;rcases n with rfl|rfl|rfl|rfl
  all_goals
   go_enter Tryz.func30,Tryz.ntmps30;go_wp2_with fail;go_quiet ((go_at_call 79;exact Calls.quiet_of_same ((j.out _).mono fun _ _ h=>⟨h.1,h.2.symm⟩)));go_wp2;go_ret;exact⟨rfl,below_drewN (m.out _) _⟩
 ·have d1:decide (0≤a)=true:=decide_eq_true d
  have d2:decide (1≤q)=false:=decide_eq_false g;have e:V=false:=by rw[←b.out,d2];simp
  clear b k d g;subst e;rcases n with rfl|rfl|rfl|rfl
  all_goals
   go_enter Tryz.func30,Tryz.ntmps30;go_wp2_with fail;go_quiet ((go_at_call 79;exact Calls.quiet_of_same ((j.out _).mono fun _ _ h=>⟨h.1,h.2.symm⟩)));go_wp2;go_ret;exact⟨rfl,below_drewN (m.out _) _⟩
 ·have d1:decide (0≤a)=true:=decide_eq_true d
  have d2:decide (1≤q)=true:=decide_eq_true g;have d3:decide (q≤L)=false:=decide_eq_false i;have e:V=false:=by rw[←b.out,d3];simp
  clear b k d g i;subst e;rcases n with rfl|rfl|rfl|rfl
  all_goals
   go_enter Tryz.func30,Tryz.ntmps30;go_wp2_with fail;go_quiet ((go_at_call 79;exact Calls.quiet_of_same ((j.out _).mono fun _ _ h=>⟨h.1,h.2.symm⟩)));go_wp2;go_ret;exact⟨rfl,below_drewN (m.out _) _⟩
 ·have d1:decide (0≤a)=true:=decide_eq_true d
  have d2:decide (1≤q)=true:=decide_eq_true g;have d3:decide (q≤L)=true:=decide_eq_true i;have d4:decide (a≤65536-q)=false:=decide_eq_false l;have x:=k g i;have e:V=false:=by rw[←b.out,d4];simp
  clear b k d g i l;subst e;rcases n with rfl|rfl|rfl|rfl
  all_goals
   go_enter Tryz.func30,Tryz.ntmps30;go_wp2_with fail;go_quiet ((go_at_call 79;exact Calls.quiet_of_same ((j.out _).mono fun _ _ h=>⟨h.1,h.2.symm⟩)));go_wp2;go_ret;exact⟨rfl,below_drewN (m.out _) _⟩
 ·have d1:decide (0≤a)=true:=decide_eq_true d
  have d2:decide (1≤q)=true:=decide_eq_true g;have d3:decide (q≤L)=true:=decide_eq_true i;have d4:decide (a≤65536-q)=true:=decide_eq_true l;have d5:(c==0)=false:=by simpa using p
  have x:=k g i;have e:V=false:=by rw[←b.out,d5];simp
  clear b k d g i l p;subst e;rcases n with rfl|rfl|rfl|rfl
  all_goals
   go_enter Tryz.func30,Tryz.ntmps30;go_wp2_with fail;go_quiet ((go_at_call 79;exact Calls.quiet_of_same ((j.out _).mono fun _ _ h=>⟨h.1,h.2.symm⟩)));go_wp2;go_ret;exact⟨rfl,below_drewN (m.out _) _⟩
 ·subst p
  have d1:decide (0≤a)=true:=decide_eq_true d;have d2:decide (1≤q)=true:=decide_eq_true g;have d3:decide (q≤L)=true:=decide_eq_true i;have d4:decide (a≤65536-q)=true:=decide_eq_true l;have x:=k g i;have e:(o==0)=V:=by rw[←b.out,d1,d2,d3,d4];simp
  have y:=hid e;clear b k d g i l e;rcases n with rfl|rfl|rfl|rfl
  all_goals
   go_enter Tryz.func30,Tryz.ntmps30;go_wp2_with fail;go_quiet ((go_at_call 79;exact Calls.quiet_of_same ((j.out _).mono fun _ _ h=>⟨h.1,h.2.symm⟩)));go_wp2;go_ret;exact⟨ret_bool y.out,below_drewN (m.out _) _⟩
theorem En (f a q c o:Int) (w:World):
  Calls Tryz.prog 30 #[.agg #[M N f,M N a,M N q,M N c,M N o]] w fun r w'=>r=.returned (.bool (Rq.ok ⟨f,a,q,c,o⟩))∧Below w.heap.size w w':=by
 by_cases h:1≤f∧f≤4
 ·exact Es f a q c o h.1 h.2 w
 ·obtain ⟨V,b⟩:∃V,Rq.ok ⟨f,a,q,c,o⟩=V:=⟨_,rfl⟩
  rw[b];unfold Rq.ok at b;rw[if_neg h] at b;simp only at b;have g:Hid (∀X,Below w.heap.size w (w.alloc X)):=fun X=>bal' w X
  by_cases d:f=17
  ·subst d
   rw[if_pos rfl] at b;replace b:=hid b;clear h;go_enter Tryz.func30,Tryz.ntmps30;go_wp2
   all_goals
    go_ret;refine⟨ret_bool ?_,g.out _⟩;rw[←b.out]
    first|rfl|(rw[Bool.eq_iff_iff];simp;done)|(rw[Bool.eq_iff_iff];simp;omega)
  ·rw [if_neg d] at b
   by_cases i:f=43
   ·subst i
    rw[if_pos rfl] at b;replace b:=hid b;clear h d;go_enter Tryz.func30,Tryz.ntmps30;go_wp2
    all_goals
     go_ret;refine⟨ret_bool ?_,g.out _⟩;rw[←b.out]
     first|rfl|(rw[Bool.eq_iff_iff];simp [*];done)|(rw[Bool.eq_iff_iff];simp;omega)
   ·rw [if_neg i] at b
    subst b;have j:(f==1)=false:=by rw[beq_eq_false_iff_ne];omega
    have k:(f==2)=false:=by rw[beq_eq_false_iff_ne];omega
    have l:(f==3)=false:=by rw[beq_eq_false_iff_ne];omega
    have m:(f==4)=false:=by rw[beq_eq_false_iff_ne];omega
    have n:(f==17)=false:=by rw[beq_eq_false_iff_ne];omega
    have p:(f==43)=false:=by rw[beq_eq_false_iff_ne];omega
    clear h d i;go_enter Tryz.func30,Tryz.ntmps30;go_wp2;go_ret;exact⟨rfl,g.out _⟩
theorem UF.ah {w w':World} (f:Below w.heap.size w w') (r:List Value) (x:Ob) (h:UF w r x):UF w' r x:=by
 obtain⟨a,c,b,d⟩:=h;exact⟨a,c,b,d.ah f⟩
def xb9 (last:Int):List Ob→Bool
 |[]=>true
 |x::l=>decide (last<x.id)&&xb9 x.id l
structure Tb where
 st:Int
 al:Int
 map:List (Int×Int)
structure Dv where
 st:Int
 idn:Int
 lv:Int
 ag:List Ob
 srv:Int
 sd:List UInt8
 ts:Nat→Tb
def Dv.zero:Dv:=⟨0,0,0,[],0,[],fun _=>⟨0,0,[]⟩⟩
def xaZ (aq:Nat→Int×Int):Prop:=∀k,k<4→0≤(aq k).2∧(aq k).2≤512∧0≤(aq k).1∧(aq k).1≤65536- (aq k).2
theorem mI.ah {w w':World} {cs:List Value} {l:List Ob} (h:mI w cs l) (g:Below w.heap.size w w'):mI w' cs l:=
 ⟨h.1,fun i x j=>by
  obtain⟨b,a,c,d,f⟩:=h.2 i x j
  exact⟨b,a,c,d,f.ah g⟩⟩
theorem Ns.ah {w w':World} {v:Value} {l:List Int} (h:Ns w v l) (p:Below w.heap.size w w'):Ns w' v l:=by
 obtain⟨⟨a,c,r,f,g,j,k⟩,m⟩:=h;refine⟨⟨a,c,r,f,g,j,fun q=>?_⟩,m⟩;obtain⟨b,o,n,d⟩:=k q;exact⟨b,o,n,fun i hi=>by rw[p.cell (fg (d i hi))];exact d i hi⟩
theorem Ns.at {w:World} {v:Value} {l:List Int} (h:Ns w v l) (k:l≠[]):
  ∃b o c,v=.slice (J ⟨b,o,none⟩) l.length c∧l.length≤c∧c≤maxLen∧∀i,i<l.length→w.cell? ⟨b,o+i,none⟩=J (M N (l.getD i 0)):=by
 obtain⟨⟨a,c,m,d,f,n,g⟩,_⟩:=h;obtain⟨b,o,rfl,j⟩:=g k;exact⟨b,o,c,m,d,f,j⟩
theorem Ns.row {w:World} {a:Option Addr} {len cap:Nat} {zs:List Int}
  (h:(a=none∧len=0∧cap=0∧zs=[])∨
   ∃x,a=some x∧len≤cap∧cap≤maxLen∧zs.length=cap∧(∀i,i<zs.length→w.cell? (x.add i)=some (.int .i64 (zs.getD i 0)))∧∀n∈zs,(Lit.int .i64 n).wf=true):
  ∃l,Ns w (.slice a len cap) l∧l.length=len:=by
 rcases h with⟨rfl,rfl,rfl,rfl⟩|⟨x,rfl,o,hm,p,d,hw⟩
 ·exact ⟨[],Ns.nil w,rfl⟩
 ·have e1:(zs.take len).length=len:=by simp;omega
  refine⟨zs.take len,⟨⟨some x,cap,by rw[e1],by omega,hm,fun h=>by simp at h,fun k=>?_⟩,fun n j=>hw n (List.mem_of_mem_take j)⟩,e1⟩;have m:0<len:=by
   rcases Nat.eq_zero_or_pos len with h|h
   ·subst h;simp at k
   ·exact h
  obtain⟨b,off,spot⟩:=x;have g:=d 0 (by omega);have f:spot=none:=by simpa [Addr.add] using World.cell?_spot g
  subst f;refine⟨b,off,rfl,fun i hi=>?_⟩;rw[e1] at hi;have e2:(⟨b,off,none⟩:Addr).add i=⟨b,off+i,none⟩:=by unfold Addr.add;split<;>simp_all
  have c:=d i (by omega);rw[e2] at c;rw[c];simp [List.getD,hi]
structure Sl.ok (s:Sl):Prop where
 tb:∀k,k<4→(s.ts k).sup=true→1≤(s.ts k).al∧(s.ts k).al≤cN ((k:Nat)+1)
 lv:0≤s.lv
 ob:0<s.lv→s.ag≠[]∧s.ag.length≤16∧xb9 (-1) s.ag=true∧∀y∈s.ag,y.id≤255
 sd:s.hs=true→0<s.sd.length
def Sl.d1:Dv:={Dv.zero with st:=2}
def Sl.d2 (s:Sl):Dv:={Sl.d1 with idn:=if 0<s.lv then 2 else 5,lv:=if 0<s.lv then s.lv else 0,ag:=if 0<s.lv then s.ag else []}
def Sl.d3 (s:Sl):Dv:={s.d2 with srv:=if s.hs=true then 2 else 5,sd:=if s.hs=true then s.sd else []}
end Go.Proofs.YtoaoejaodhedaaaGreat
namespace Go
section
variable {P:Program} {ops:Array Oper} {Q:Exit→Act→World→Prop} {md:Region.Mode} {S S':World→Prop}
theorem vV (d:∀w,S' w→S w):∀(fuel:Nat) (b:Array Bool) (a:Act) (w:World),wpAnyH P md ops Q S' fuel b a w→wpAnyH P md ops Q S fuel b a w
 |0,_,_,_,h=>h
 |fuel+1,_,_,_,h=>⟨h.1,fun i hi=>wpOp_mono (fun f w' c=>⟨d _ c.1,vV d fuel _ f w' c.2⟩) (h.2 i hi)⟩
end
section
variable {P:Program} {ops:Array Oper} {Q:Exit→Act→World→Prop} {md:Region.Mode} {S:World→Prop}
end
end Go
namespace Go.Proofs.YtoaoejaodhedaaaGreat
open Go.RowKit
variable {e fn:Int} {w w':World}
def Ic (w:World) (fn e:Int) (r:Ending) (w':World):Prop:=
 ∃(D:List UInt8) (da:Option Addr) (dc:Nat),r=.returned (.agg (#[.int .i64 fn,.int .i64 e,(.slice da D.length dc),.int .i64 0,.int .i64 0,.bool false,.int .i64 0,.slice none 0 0]))∧D.length≤250∧w'.ownsRow w.heap.size 5 1 (.slice da D.length dc) D.length (u8s D)∧Below w.heap.size w w'
theorem aW.post {D:List UInt8} {r:Ending} (h:aW w fn e D r w'):Ic w fn e r w':=⟨D,h⟩
theorem Ic.ar {b c d:World} {C:Array Value} (a:Below w.heap.size w b) (l:w.heap.size+4≤b.heap.size) (f:Keeps (fun j=>w.heap.size≤j) b c) (g:Keeps (fun j=>w.heap.size≤j) c d) (i:C=#[.int .i64 fn,.int .i64 e,(.slice none 0 0),.int .i64 0,.int .i64 0,.bool false,.int .i64 0,.slice none 0 0]):aW w fn e [] (.returned (.agg C)) d:=by
 subst i;exact⟨none,0,rfl,Nat.zero_le _,World.ownsRow_nil _ _ _ _,(a.trans (f.below a.size (fun j k e=>by omega))).trans (g.below (by have:=a.size;have:=f.size;omega) (fun j k e=>by omega))⟩
theorem SlvPost.is {s:Sl} {V:Bool} (h:V=true↔s.val) (a:Below w.heap.size w w'):SlvPost w s (.returned (.bool V)) w':=⟨V,rfl,h,a⟩
