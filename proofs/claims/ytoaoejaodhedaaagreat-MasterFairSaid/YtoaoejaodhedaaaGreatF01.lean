import Derived.Test.YtoaoejaodhedaaaGreatT34
namespace Go.Proofs.YtoaoejaodhedaaaGreat
open Go.RowKit
open Option renaming some→V
theorem QI {P:Program} {w:World} {src e:TypeId} (hs:P.underlying src=V (.slice e)) (he:P.underlying e=V (.int .u8)) {v:Value} {l:List UInt8} (h:Bs w v l)
  (dst:TypeId) (d:P.underlying dst=V .string):(convert src dst v).run P w=.ok (.string ⟨l.toArray⟩) w:=by
 obtain⟨a,c,rfl,m,n,o,j⟩:=h;by_cases f:l=[]
 ·subst f
  cases a with
  |none=>exact run_convert_bytes_nil (P:=P) w src e hs he 0 c dst d
  |some a=>
   show (convert src dst (.slice (V a) 0 c)).run P w=_;rw[run_convert_bytes_string w src dst e (V a) 0 c hs he d,run_bytesToString w a 0 c [] (by simp [loadCells,loadCellsFrom])];rfl
 ·obtain ⟨b,off,rfl,k⟩:=j f
  have:=run_convert_bytes_arg (P:=P) w src e hs he b off l.length c (l.map fun x=>(x.toNat:Int)) (by simp) (fun i hi=>by rw[k i hi];simp [List.getD,hi]) dst d;rw[this];have g:strOfNums (l.map fun x=>(x.toNat:Int))=⟨l.toArray⟩:=by
   simp [strOfNums,Function.comp_def]
  rw[g]
theorem Bs.row {w:World} {a:Option Addr} {len cap:Nat} {zs:List Int}
  (h:(a=none∧len=0∧cap=0∧zs=[])∨
   ∃x,a=some x∧len≤cap∧cap≤maxLen∧zs.length=cap∧(∀i,i<zs.length→w.cell? (x.add i)=some (.int .u8 (zs.getD i 0)))∧∀n∈zs,(Lit.int .u8 n).wf=true):
  ∃l,Bs w (.slice a len cap) l∧l.length=len:=by
 rcases h with⟨rfl,rfl,rfl,rfl⟩|⟨x,rfl,s,hm,u,j,hw⟩
 ·exact ⟨[],Bs.nil w,rfl⟩
 ·refine ⟨(zs.take len).map fun n=>UInt8.ofNat n.toNat,?_,by simp;omega⟩
  have f:((zs.take len).map fun n=>UInt8.ofNat n.toNat).length=len:=by simp;omega
  refine⟨some x,cap,by rw[f],by omega,hm,fun h=>by simp at h,fun p=>?_⟩;have q:0<len:=by
   rcases Nat.eq_zero_or_pos len with h|h
   ·subst h;simp at p
   ·exact h
  obtain⟨b,off,spot⟩:=x;have o:=j 0 (by omega);have e:spot=none:=by simpa [Addr.add] using World.cell?_spot o
  subst e;refine⟨b,off,rfl,fun i hi=>?_⟩;rw[f] at hi;have k:(⟨b,off,none⟩:Addr).add i=⟨b,off+i,none⟩:=by unfold Addr.add;split<;>simp_all
  have g:=j i (by omega);rw[k] at g;rw[g];have c:i<zs.length:=by omega
  have d:=hw zs[i] (List.getElem_mem c);have r:=bounds_u8 d;have m:(((zs.take len).map fun n=>UInt8.ofNat n.toNat).getD i 0).toNat=zs[i].toNat:=by
   simp [List.getD,hi,c];omega
  rw[m];simp [List.getD,c];omega
theorem Xt (z:Value) (n:Nat):(madeCells #[z] n).toList=List.replicate n z:=by
 apply List.ext_getElem
 ·simp [size_madeCells]
 ·intro i a b
  simp [madeCells,Nat.mod_one]
theorem Lx {P:Program} {w:World} {ops:Array Oper} {rest:List Oper} {o:Oper} {a:Act} {Q:Exit→Act→World→Prop} (B:o.guard=none) (s x:Operand) (t:TypeId)
  (n:o.op=.call {callee:=.builtin .append,args:=#[s,x],argTypes:=#[t,t]})
  (base:Nat) (e:TypeId) (i:TypeInfo) (z:P.underlying t=V (.slice e)) (hi:P.info? e=V i) (D:i.zero=V (.int .u8 0))
  (E:i.size=1) (G:i.bytes=1)
  (v:Value) (xs:List UInt8) (hs:a.eval s=v) (d:w.ownsRow base e 1 v xs.length (u8s xs))
  (y:Value) (f:List UInt8) (A:a.eval x=y) (N:Bs w y f) (hlen:xs.length+f.length≤140737488355328) (F:base≤w.heap.size)
  (h:∀g k,k.ownsRow base e 1 g (xs.length+f.length) (u8s (xs++f))→w.grownBy k v.ownBlock→cZ w v g→wpList P ops Q rest (a.put o.dst g) k):wpList P ops Q (o::rest) a w:=by
 obtain⟨l,c,rfl,O,S,K,L⟩:=N;by_cases C:f=[]
 ·subst C
  cases l with
  |none=>
   obtain rfl:=K rfl;exact wpList_append_own_none B s x t n base e i 1 z hi v xs.length (u8s xs) hs d A (h v w (by simpa using d) (World.grownBy.refl _ _) (.inl rfl))
  |some l=>
   exact aL B s x t n base e i _ 1 1 z hi D E G rfl (by decide) v xs.length (u8s xs) hs d l 0 c [] A rfl (by simp) (by simp) (by unfold maxLen;simp at hlen;omega) (by simp at hlen;omega) F
    (fun g k p q r=>h g k (by simpa using p) q r)
 ·obtain ⟨b,off,rfl,M⟩:=L C
  refine aL B s x t n base e i _ 1 1 z hi D E G rfl (by decide) v xs.length (u8s xs) hs d ⟨b,off,none⟩ f.length c (u8s f) A (by simp) ?_ (lR f) (by unfold maxLen;omega) (by omega) F
    (fun g k p q r=>h g k (by rw[dF];exact p) q r)
  intro j u m;have I:j<f.length:=by
   have:=(List.getElem?_eq_some_iff.1 m).1;simpa using this
  rw[gW f j I] at m;have J:(⟨b,off,none⟩:Addr).add j=⟨b,off+j,none⟩:=by unfold Addr.add;split<;>simp_all
  rw[J,M j I];exact m
theorem RV (a:Option Addr) (c:Nat):nc a c 0=a:=by
 unfold nc;split
 ·rfl
 ·cases a with
  |none=>rfl
  |some ad=>cases ad;simp [Addr.add]
theorem Bs.xaZ {w:World} {a:Option Addr} {n c:Nat} {l:List UInt8} (h:Bs w (.slice a n c) l) {k:Nat} (b:k≤n):Bs w (.slice a k c) (l.take k):=by
 have:=h.cut (Nat.zero_le k) b
 rwa [RV,List.drop_zero,Nat.sub_zero,Nat.sub_zero] at this
section
variable {P:Program} {w:World} {t:TypeId} {cs:List Value}
theorem Rd.string (a:P.underlying t=V .string) (h:Rd P w t cs):∃s,cs=[.string s]∧s.size≤maxLen:=by
 obtain⟨H,enc,base,spare,held,fuel,x,h⟩:=h;cases fuel with
 |zero=>simp [DataW.trod] at h
 |succ fuel=>
  unfold DataW.trod at h;rw[a] at h;split at h<;>simp_all
end
open Go.RowKit
section
variable {α:Type} {sz:Nat} {R:World→List Value→α→Prop}
theorem eU.len {Q:List Value→α→Prop}:∀(l:List α) (cs:List Value),eU sz Q cs l→cs.length=l.length*sz
 |[],cs,h=>by
  have a:cs=[]:=h;subst a;simp
 |y::l,cs,h=>by
  obtain⟨e,rest,rfl,b,d,c⟩:=h;have:=eU.len l rest c;rw[List.length_append,b,this,List.length_cons,Nat.add_mul,Nat.one_mul,Nat.add_comm]
theorem eU.one {Q:List Value→α→Prop} (a:∀r x,Q r x→∀u∈r,u.oneCell'=true):∀(l:List α) (cs:List Value),eU sz Q cs l→∀u∈cs,u.oneCell'=true
 |[],cs,h,u,hu=>by
  have b:cs=[]:=h;subst b;cases hu
 |y::l,cs,h,u,hu=>by
  obtain⟨f,rest,rfl,e,c,d⟩:=h;rcases List.mem_append.1 hu with hu|hu
  ·exact a _ _ c u hu
  ·exact eU.one a l rest d u hu
theorem gY.row {w:World} {b o n c:Nat} {l:List α} (h:gY sz R w (.slice (V ⟨b,o,none⟩) n c) l):∃cs,eU sz (R w) cs l∧l.length=n∧∀j u,cs[j]?=V u→w.cell? ⟨b,o+j,none⟩=V u:=by
 obtain⟨z,_,_,D⟩:=h.get;clear h;subst z;have main:∀(l:List α) (o:Nat),(∀i x,l[i]?=V x→∃r,r.length=sz∧R w r x∧∀j u,r[j]?=V u→w.cell? ⟨b,o+i*sz+j,none⟩=V u)→
   ∃cs,eU sz (R w) cs l∧∀j u,cs[j]?=V u→w.cell? ⟨b,o+j,none⟩=V u:=by
  intro l
  induction l with
  |nil=>intro o _;exact⟨[],rfl,fun j u a=>by simp at a⟩
  |cons x l ih=>
   intro o h;obtain⟨r,d,e,p⟩:=h 0 x rfl;obtain⟨cs,q,s⟩:=ih (o+sz) (fun i y C=>by
    obtain⟨r,g,k,m⟩:=h (i+1) y (by simpa using C)
    exact⟨r,g,k,fun j u a=>by
     have:=m j u a
     rwa [show o+(i+1)*sz+j=o+sz+i*sz+j by rw[Nat.add_mul];omega] at this⟩)
   refine⟨r++cs,⟨r,cs,rfl,d,e,q⟩,fun j u a=>?_⟩;by_cases f:j<r.length
   ·rw [List.getElem?_append_left f] at a
    have:=p j u a
    rwa [Nat.zero_mul,Nat.add_zero] at this
   ·rw [List.getElem?_append_right (by omega),d] at a
    have:=s (j-sz) u a
    rwa [show o+sz+(j-sz)=o+j by omega] at this
 obtain⟨cs,d,e⟩:=main l o (fun i x B=>by
  obtain⟨b',E,v,r,A⟩:=D i x B
  cases v
  exact⟨r,A⟩)
 exact⟨cs,d,rfl,e⟩
end
open Go.RowKit
def Ob.same (a b:Ob):Bool:=a.id==b.id&&a.val==b.val
def fy:List Ob→List Ob→Bool
 |[],[]=>true
 |a::l,b::k=>a.same b&&fy l k
 |_,_=>false
def Rp.same (a b:Rp):Bool:=a.fn==b.fn&&a.ar==b.ar&&a.data==b.data&&a.code==b.code&&a.level==b.level&&a.more==b.more&&a.next==b.next&&fy a.ag b.ag
theorem Ob.BB (a:Ob):a.same a=true:=by simp [Ob.same]
theorem A4:∀l:List Ob,fy l l=true
 |[]=>rfl
 |a::l=>by simp [fy,a.BB,A4 l]
theorem Rp.BB (a:Rp):a.same a=true:=by simp [Rp.same,A4]
