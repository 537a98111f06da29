import Derived.Test.YtoaoejaodhedaaaGreatT12
import Derived.Test.YtoaoejaodhedaaaGreatT13
import Derived.Test.YtoaoejaodhedaaaGreatT09
namespace Go.Proofs.YtoaoejaodhedaaaGreat
open Go.RowKit
open Value renaming slice→J,int→U
open Option renaming none→M,some→N
open IntKind renaming i64→Z
open Obj renaming cells→Y
open Ending renaming returned→O
set_option maxHeartbeats 12800000
set_option maxRecDepth 100000
variable {pa u:Int} {l:List Sl} {b f p:List UInt8} {o:Option Rp} {r rp:Rp} {W w w':World}
def eg (q:Rq) (b:List UInt8):Option Rp:=
 if q.ok=true then (match Rp.dec b with|some r=>if r.fn=q.fn∧dT q r=true then some r else none|none=>none) else none
theorem GP {q:Rq} (h:eg q b=N r):r.ok=true:=by
 unfold eg at h;split at h
 ·split at h
  ·split at h
   ·cases h
    rename_i a;have:=a.2;unfold dT at this;simp only[Bool.and_eq_true] at this;exact this.1.1.2
   ·cases h
  ·cases h
 ·cases h
def ki (w:World) (o:Option Rp) (r:Ending) (w':World):Prop:=
 ∃(x:Rp) (da:Option Addr) (dc:Nat) (oa:Option Addr) (oc:Nat) (e:Int),r=O (.tuple #[.agg #[U Z x.fn,U Z x.ar,J da x.data.length dc,U Z x.code,U Z x.level,.bool x.more,U Z x.next,J oa x.ag.length oc],U Z e])∧Below w.heap.size w w'∧(∀W,ay w.heap.size w' W→dG W x da dc oa oc)∧
  ((e=0∧o=N x)∨(e≠0∧1≤e∧e≤17∧o=none∧x=Rp.zero∧da=none∧dc=0∧oa=none∧oc=0))
theorem dG.zero (w:World):dG w Rp.zero none 0 none 0:=⟨Bs.nil _,cY.nil _,by decide,by decide⟩
theorem DecPost.one {r:Ending} (h:DecPost w o r w'):ki w o r w':=by
 rcases h with⟨x,da,dc,oa,oc,a,d,g,c⟩|⟨e,a,d,g,c,i⟩
 ·exact ⟨x,da,dc,oa,oc,0,d,c,g,.inl ⟨rfl,a⟩⟩
 ·exact ⟨Rp.zero,none,0,none,0,e,c,i,fun W _=>dG.zero W,.inr ⟨by omega,a,d,g,rfl,rfl,rfl,rfl,rfl⟩⟩
theorem ki.err (g:o=none) (e:Int) (d:1≤e) (c:e≤17) (a:Below w.heap.size w w'):
  ki w o (O (.tuple #[.agg #[U Z 0,U Z 0,J none 0 0,U Z 0,U Z 0,.bool false,U Z 0,J none 0 0],U Z e])) w':=
 ⟨Rp.zero,none,0,none,0,e,rfl,a,fun W _=>dG.zero W,.inr ⟨by omega,d,c,g,rfl,rfl,rfl,rfl,rfl⟩⟩
theorem ay.Hx {B:Nat} {X:Obj} (h:Keeps (· =w.heap.size) (w.alloc X) W):ay B w W:=
 ⟨Nat.le_trans (bal' w X).size h.size,fun k _ a=>by rw[h.block k (Nat.lt_of_lt_of_le a (bal' w X).size) (by omega),(bal' w X).block k a]⟩
def eN:Option Rp→Oc
 |some r=>if r.ar=6 then ⟨5,Rp.zero⟩ else if r.ar=0 then ⟨1,r⟩ else ⟨2,r⟩
 |none=>⟨4,Rp.zero⟩
def aT (iM:List UInt8→Bool) (unit:Int) (q:Rq) (flags:Int) (l:List UInt8):Oc:=
 match bk iM l with
 |some (u,p)=>if flags=0∧u=unit then eN (eg q p) else ⟨4,Rp.zero⟩
 |none=>⟨4,Rp.zero⟩
def nz (w:World) (o:Oc) (r:Ending) (w':World):Prop:=
 ∃(da:Option Addr) (dc:Nat) (oa:Option Addr) (oc:Nat),r=O (.agg #[U Z o.verdict,U Z o.ae.fn,U Z o.ae.ar,J da o.ae.data.length dc,U Z o.ae.code,U Z o.ae.level,.bool o.ae.more,U Z o.ae.next,J oa o.ae.ag.length oc])∧(∀W,ay w.heap.size w' W→dG W o.ae da dc oa oc)∧Below w.heap.size w w'
theorem nz.bare {o:Oc} (v:Int) (c:o=⟨v,Rp.zero⟩) (a:Below w.heap.size w w'):
  nz w o (O (.agg #[U Z v,U Z 0,U Z 0,J none 0 0,U Z 0,U Z 0,.bool false,U Z 0,J none 0 0])) w':=by
 subst c;exact⟨none,0,none,0,rfl,fun W _=>dG.zero W,a⟩
theorem XZ (w:World) (base:Nat) (x y:Int) (c:0≤x) (g:x≤255) (e:0≤y) (d:y≤255) (a:base≤w.heap.size):
  (w.alloc (Y #[U .u8 x,U .u8 y] 5)).ownsRow base 5 1 (J (N ⟨w.heap.size,0,M⟩) 2 2) [byteI x,byteI y].length (u8s [byteI x,byteI y]):=by
 refine⟨rfl,.inr ⟨w.heap.size,2,_,rfl,a,heap_alloc_new _ _,Nat.le_refl _,by decide,rfl,?_⟩⟩;show [Value.int .u8 x,U .u8 y]=[U .u8 ((byteI x).toNat:Int),U .u8 ((byteI y).toNat:Int)];rw[au c g,au e d]
theorem VP (w:World) (base:Nat) (a b c d e:Int) (k:0≤a∧a≤255) (g:0≤b∧b≤255) (i:0≤c∧c≤255) (j:0≤d∧d≤255) (he:0≤e∧e≤255) (m:base≤w.heap.size):
  (w.alloc (Y #[U .u8 43,U .u8 14,U .u8 a,U .u8 b,U .u8 c,U .u8 d,U .u8 e] 5)).ownsRow base 5 1 (J (N ⟨w.heap.size,0,M⟩) 7 7) 7 (u8s [43,14,byteI a,byteI b,byteI c,byteI d,byteI e]):=by
 refine⟨rfl,.inr ⟨w.heap.size,7,_,rfl,m,heap_alloc_new _ _,Nat.le_refl _,by decide,rfl,?_⟩⟩;show [Value.int .u8 43,U .u8 14,U .u8 a,U .u8 b,U .u8 c,U .u8 d,U .u8 e]=[U .u8 43,U .u8 14,U .u8 ((byteI a).toNat:Int),U .u8 ((byteI b).toNat:Int),U .u8 ((byteI c).toNat:Int),U .u8 ((byteI d).toNat:Int),U .u8 ((byteI e).toNat:Int)];rw[au k.1 k.2,au g.1 g.2,au i.1 i.2,au j.1 j.2,au he.1 he.2]
theorem Hj {v a:Value} {b:Nat} (e:cZ W v a) (d:∀k,v.ownBlock=N k→k<b) (g:b<W.heap.size):∀j,a.ownBlock=N j→j≠b:=by
 intro j c;rcases e with h|⟨i,h,m⟩
 ·rw [c] at h
  have:=d _ h.symm;omega
 ·rw [c] at h
  cases h;omega
theorem K9 (fn ar:Int) (code level:Int) (more:Bool) (next:Int) (data:List UInt8) (ag:List Ob) (da oa:Option Addr) (dc oc:Nat) (w:World) (e:Bs w (J da data.length dc) data) (g:cY w (J oa ag.length oc) ag) (n:level≤9223372036854775807) (m: -9223372036854775808≤level) (i:Rp.ok ⟨fn,ar,data,code,level,more,next,ag⟩=true)
  (q:1≤fn∧fn≤43) (t:1≤ar∧ar≤255):
  Calls Tryz.prog 205 #[.agg #[U Z fn,U Z ar,J da data.length dc,U Z code,U Z level,.bool more,U Z next,J oa ag.length oc]] w (gV w [byteI (fn+128),byteI ar]):=by
 have k:Hid (∀X,Calls Tryz.prog 197 #[.agg #[U Z fn,U Z ar,J da data.length dc,U Z code,U Z level,.bool more,U Z next,J oa ag.length oc]] (w.alloc X) fun r w'=>r=O (.bool true)∧Below (w.alloc X).heap.size (w.alloc X) w'):=fun X=>by rw[←i];exact eu _ _ _ _ _ _ _ _ data ag _ (e.ah (bal' w X)) (g.ah (bal' w X)) n m
 clear e g i;obtain⟨f1,f2⟩:=q;obtain⟨z,j⟩:=t;have t1:(ar !=0)=true:=by rw[bne_iff_ne];omega
 have u1:IntKind.u8.wrap (fn+128)=fn+128:=by show (fn+128)%256=fn+128;omega
 have u2:IntKind.u8.wrap ar=ar:=by show ar%256=ar;omega
 go_enter Tryz.func205,Tryz.ntmps205;go_wp2_with fail;refine(k.out _).mono ?_;rintro r w1 ⟨rfl,a⟩;have d:w1.heap[w.heap.size]?=N (Y #[U Z fn,U Z ar,J da data.length dc,U Z code,U Z level,.bool more,U Z next,J oa ag.length oc] 53 (0,0)):=by rw[a.block _ (by simp)];exact heap_alloc_new _ _
 have v:w1.cell? ⟨w.heap.size,0,M⟩=N (U Z fn):=aM d 0;have y:w1.cell? ⟨w.heap.size,1,M⟩=N (U Z ar):=aM d 1;have c:=bt (bal' w _) a (Nat.le_refl _);have s:=hid (Zs w1 w1.heap.size (fn+128) ar (by omega) (by omega) (by omega) j rfl);clear d a;go_wp2;go_ret2;exact⟨_,_,rfl,s.out,bta c (Nat.le_refl _) _,fun x h=>by cases h;exact c.size⟩
theorem Gb (fn:Int) (code level:Int) (more:Bool) (next:Int) (data:List UInt8) (ag:List Ob) (da oa:Option Addr) (dc oc:Nat) (w:World) (j:Bs w (J da data.length dc) data) (t:cY w (J oa ag.length oc) ag) (G:level≤9223372036854775807) (C: -9223372036854775808≤level) (i:Rp.ok ⟨fn,0,data,code,level,more,next,ag⟩=true)
  (K:1≤fn∧fn≤42) (T:data.length≤251):
  Calls Tryz.prog 205 #[.agg #[U Z fn,U Z 0,J da data.length dc,U Z code,U Z level,.bool more,U Z next,J oa ag.length oc]] w (gV w (byteI fn::byteI data.length::data)):=by
 obtain⟨i5,hi,n,m,q⟩:=info_parts fS;have z:Hid (∀X,Calls Tryz.prog 197 #[.agg #[U Z fn,U Z 0,J da data.length dc,U Z code,U Z level,.bool more,U Z next,J oa ag.length oc]] (w.alloc X) fun r w'=>r=O (.bool true)∧Below (w.alloc X).heap.size (w.alloc X) w'):=fun X=>by rw[←i];exact eu _ _ _ _ _ _ _ _ data ag _ (j.ah (bal' w X)) (t.ah (bal' w X)) G C
 have Q:=hid j;clear j t i;obtain⟨f1,f2⟩:=K;have t1:(fn !=43)=true:=by rw[bne_iff_ne];omega
 have u1:IntKind.u8.wrap fn=fn:=by show fn%256=fn;omega
 have u2:IntKind.u8.wrap (data.length:Int)=data.length:=by show (data.length:Int)%256=data.length;omega
 go_enter Tryz.func205,Tryz.ntmps205;go_wp2_with fail;refine(z.out _).mono ?_;rintro r w1 ⟨rfl,a⟩;have g:w1.heap[w.heap.size]?=N (Y #[U Z fn,U Z 0,J da data.length dc,U Z code,U Z level,.bool more,U Z next,J oa ag.length oc] 53 (0,0)):=by rw[a.block _ (by simp)];exact heap_alloc_new _ _
 have R:w1.cell? ⟨w.heap.size,0,M⟩=N (U Z fn):=aM g 0;have S:w1.cell? ⟨w.heap.size,1,M⟩=N (U Z 0):=aM g 1;have P:w1.cell? ⟨w.heap.size,2,M⟩=N (J da data.length dc):=aM g 2;have B:=cell_keep (bal' w1 (Y #[U .u8 fn,U .u8 data.length] 5)) P;have c:=bt (bal' w _) a (Nat.le_refl _);have D:=hid (XZ w1 w1.heap.size fn data.length (by omega) (by omega) (by omega) (by omega) (Nat.le_refl _));have E:=hid ((Q.out.ah c).ah (bal' w1 (Y #[U .u8 fn,U .u8 data.length] 5)));clear g a;go_wp2_with (at_builtin;refine im rfl _ _ 50 rfl w1.heap.size 5 i5 Tryz.underlying50 hi n m q (J (N ⟨w1.heap.size,0,M⟩) 2 2) [byteI fn,byteI data.length] rfl D.out _ data rfl E.out ?c1 ?c2 ?c3)
 case c1=>simp;omega
 case c2=>simp
 case c3=>
  intro v2 s e x;have d:Below w1.heap.size w1 s:=(bal' w1 (Y #[U .u8 fn,U .u8 data.length] 5)).grown x (bal' w1 (Y #[U .u8 fn,U .u8 data.length] 5)).size (by intro k i;simp [Value.ownBlock] at i;omega);obtain⟨y,c2,rfl⟩:=own_slice e;have v:=hid (show (byteI fn::byteI data.length::data).length=2+data.length by simp;omega);have A:=hid (show Bs s (J y (2+data.length) c2) (byteI fn::byteI data.length::data) from Bs.own e);have F:=hid (bt c d (Nat.le_refl _));have L:=hid e.lt;clear e x d;go_wp2;go_ret2;exact⟨y,c2,by rw[v.out];rfl,by rw[v.out];exact A.out,F.out,fun I h=>Nat.le_trans c.size (L.out I.block (by rw[h];rfl)).1⟩
theorem MX {p:Prop} (h:p:=by
 have hlq:=hid (show (bs++([byteI x.id,byteI x.val.length]++x.val)).length=(bs++[byteI x.id,byteI x.val.length]).length+x.val.length by simp;omega)
 obtain⟨a6,c6,rfl⟩:=own_slice hown6
 clear hown6 hgr6 hown5 hown5' hgr5 hnew5 hne5 c50 c51 c60 c61 hb5 hx5 hb6 s0 s1 t0 t1 hszA hszB
 go_wp2
 go_roundw
 case rel=>exact⟨k+1,a6,c6,bs++([byteI x.id,byteI x.val.length]++x.val),by omega,by go_num,by first|(rw[hlq.out];done)|(rw[hlq.out];rfl),HLN.out,by have h:=HO6.out;rw[hlq.out] at h ⊢;exact h,HBS.out,HB6.out⟩
 case measure=>simp [intOf];omega):p:=h
theorem Mf (code level:Int) (more:Bool) (next:Int) (ag:List Ob) (da oa:Option Addr) (dc oc:Nat) (w:World) (hd:Bs w (.slice da ([]:List UInt8).length dc) []) (ho:cY w (J oa ag.length oc) ag) (s:Rp.ok ⟨43,0,[],code,level,more,next,ag⟩=true)
  (c1:1≤code) (c2:code≤3) (l1:1≤level) (l2:level≤131) (n1:0≤next) (n2:next≤255) (oL:eh ag=true) (S:Int) (Vc:S=if more then 255 else 0):
  Calls Tryz.prog 205 #[.agg #[U Z 43,U Z 0,J da 0 dc,U Z code,U Z level,.bool more,U Z next,J oa ag.length oc]] w (gV w (fb ⟨43,0,[],code,level,more,next,ag⟩++aN ag)):=by
 obtain⟨i5,hi,D,C,B⟩:=info_parts fS;obtain⟨a2,aY,z⟩:=jr oL;have HV:Hid (∀X,Calls Tryz.prog 197 #[.agg #[U Z 43,U Z 0,J da 0 dc,U Z code,U Z level,.bool more,U Z next,J oa ag.length oc]] (w.alloc X) fun r w'=>r=O (.bool true)∧Below (w.alloc X).heap.size (w.alloc X) w'):=fun X=>by rw[←s];exact eu _ _ _ _ _ _ _ _ [] ag _ (hd.ah (bal' w X)) (ho.ah (bal' w X)) (by omega) (by omega)
 have HO:=hid ho;have sF:0≤S∧S≤255:=by subst Vc;cases more<;>decide
 have T:Hid (fb ⟨43,0,[],code,level,more,next,ag⟩=[43,14,byteI code,byteI level,byteI S,byteI next,byteI ag.length]):=by show _=_;rw[Vc];rfl
 have aX:Hid ((fb ⟨43,0,[],code,level,more,next,ag⟩).length=7):=rfl;rw[T.out] at aX ⊢;have Ls:=hid Vc;replace z:=hid z;clear hd ho s oL Vc T;have pN:(more=true∧S=255)∨(more=false∧S=0):=by
  have:=Ls.out;cases more
  ·exact .inr ⟨rfl,by simpa using this⟩
  ·exact .inl ⟨rfl,by simpa using this⟩
 clear Ls;rcases pN with⟨rfl,rfl⟩|⟨rfl,rfl⟩
 ·go_enter Tryz.func205,Tryz.ntmps205
  go_wp2_with fail;refine(HV.out _).mono ?_;rintro r w1 ⟨rfl,I⟩;have m:w1.heap[w.heap.size]?=N (Y #[U Z 43,U Z 0,J da 0 dc,U Z code,U Z level,.bool true,U Z next,J oa ag.length oc] 53 (0,0)):=by rw[I.block _ (by simp)];exact heap_alloc_new _ _
  have p0:w1.cell? ⟨w.heap.size,0,M⟩=N (U Z 43):=aM m 0;have p1:w1.cell? ⟨w.heap.size,1,M⟩=N (U Z 0):=aM m 1;have p2:w1.cell? ⟨w.heap.size,2,M⟩=N (J da 0 dc):=aM m 2;have p3:w1.cell? ⟨w.heap.size,3,M⟩=N (U Z code):=aM m 3;have p4:w1.cell? ⟨w.heap.size,4,M⟩=N (U Z level):=aM m 4;have p5:=aM m 5;simp only[List.getElem?_toArray,List.getElem?_cons_succ,List.getElem?_cons_zero] at p5;have p6:w1.cell? ⟨w.heap.size,6,M⟩=N (U Z next):=aM m 6;have P:w1.cell? ⟨w.heap.size,7,M⟩=N (J oa ag.length oc):=aM m 7;have i:Below w.heap.size w w1:=bt (bal' w _) I (Nat.le_refl _);have QO:w.heap.size<w1.heap.size:=(Array.getElem?_eq_some_iff.1 m).1;have V:=hid (VP w1 w1.heap.size code level _ next ag.length (by omega) (by omega) sF (by omega) (by omega) (Nat.le_refl _));obtain⟨ao,no,co,SR,AD,nM,ak,Zx,K⟩:=(HO.out.ah i).open_;simp only[Value.slice.injEq] at SR;obtain⟨rfl,rfl,rfl⟩:=SR;replace K:=hid K;have P7:=hid P;clear m I AD;go_wp2_with fail;go_loopw [5,59] (fun bv idx wr=>∃(k:Nat) (t:Option Addr) (v:Nat) (bs:List UInt8),k≤ag.length∧idx=U Z k∧bv=J t bs.length v∧bs.length≤253∧Hid (wr.ownsRow w1.heap.size 5 1 (J t bs.length v) bs.length (u8s bs))∧Hid (bs=[43,14,byteI code,byteI level,byteI 255,byteI next,byteI ag.length]++aN (ag.take k))∧Below w1.heap.size w1 wr) (fun _ idx _=>ag.length- (intOf idx).toNat)
  case atStart=>exact⟨0,_,7,[43,14,byteI code,byteI level,byteI 255,byteI next,byteI ag.length],Nat.zero_le _,rfl,rfl,by simp,V.out,by show _=_;simp [aN],bal' w1 _⟩
  case round=>
   clear p0 p1 p2 p3 p4 p5 p6 P V;obtain⟨k,t,v,bs,s,rfl,rfl,S7,a,F,g⟩:=hrel;have Qh:=g.size;have P:wr.cell? ⟨w.heap.size,7,M⟩=N (J oa ag.length oc):=cell_keep g P7.out;by_cases R:k<ag.length
   ·obtain ⟨x,E⟩:=get_some (n:=ag.length) rfl R
    obtain⟨b,o,d,c,rfl,d1,d2,gy⟩:=K.out k x E;obtain⟨x1,x2,x3⟩:=z.out k x E;replace d1:=cell_keep g d1;replace d2:=cell_keep g d2;have Uz:=hid gy;have eV:=hid (show aN (ag.take (k+1))=aN (ag.take k)++([byteI x.id,byteI x.val.length]++x.val) by rw[az E,ja]);have HLN:Hid ((bs++([byteI x.id,byteI x.val.length]++x.val)).length≤253):=by
     show _≤253;rw[F.out,List.append_assoc,←eV.out,List.length_append,eB];have:=fA (ag.drop (k+1)) (ag.take (k+1));rw[List.take_append_drop] at this;simp;omega
    have ab:(0:Int)≤(k:Int):=Int.natCast_nonneg _;have av:(k:Int)<(ag.length:Int):=by omega
    clear E gy;go_wp2_with fail;have s0:(wr.alloc (Y #[U Z x.id,J d x.val.length c] 165)).cell? ⟨wr.heap.size,0,M⟩=N (U Z x.id):=by rw[World.cell?_alloc_at _ _ _ _ rfl];rfl
    have s1:(wr.alloc (Y #[U Z x.id,J d x.val.length c] 165)).cell? ⟨wr.heap.size,1,M⟩=N (J d x.val.length c):=by rw[World.cell?_alloc_at _ _ _ _ rfl];rfl
    have t0:((wr.alloc (Y #[U Z x.id,J d x.val.length c] 165)).alloc (Y #[U .u8 x.id,U .u8 x.val.length] 5)).cell? ⟨wr.heap.size,0,M⟩=N (U Z x.id):=cell_keep (bal' _ _) s0;have t1:((wr.alloc (Y #[U Z x.id,J d x.val.length c] 165)).alloc (Y #[U .u8 x.id,U .u8 x.val.length] 5)).cell? ⟨wr.heap.size,1,M⟩=N (J d x.val.length c):=cell_keep (bal' _ _) s1;have DP:=hid ((a.out.alloc (Y #[U Z x.id,J d x.val.length c] 165)).alloc (Y #[U .u8 x.id,U .u8 x.val.length] 5));have q:=hid a.out.lt;have G:=hid (Zs (wr.alloc (Y #[U Z x.id,J d x.val.length c] 165)) (wr.heap.size+1) x.id x.val.length x1 x2 (by omega) (by omega) (by simp));have SL:=hid ((bta g (Nat.le_refl _) (Y #[U Z x.id,J d x.val.length c] 165)).alloc (by simp;omega) (Y #[U .u8 x.id,U .u8 x.val.length] 5));have u1:IntKind.u8.wrap x.id=x.id:=by show x.id%256=x.id;omega
    have u2:IntKind.u8.wrap (x.val.length:Int)=x.val.length:=by show (x.val.length:Int)%256=x.val.length;omega
    have hszB:wr.heap.size<((wr.alloc (Y #[U Z x.id,J d x.val.length c] 165)).alloc (Y #[U .u8 x.id,U .u8 x.val.length] 5)).drew.heap.size:=by show wr.heap.size<((wr.alloc (Y #[U Z x.id,J d x.val.length c] 165)).alloc (Y #[U .u8 x.id,U .u8 x.val.length] 5)).heap.size;simp;omega
    have hszA:((wr.alloc (Y #[U Z x.id,J d x.val.length c] 165)).alloc (Y #[U .u8 x.id,U .u8 x.val.length] 5)).heap.size=wr.heap.size+2:=by simp
    go_region_held3 (fun W=>W.cell? ⟨wr.heap.size,0,M⟩=N (U Z x.id)∧W.cell? ⟨wr.heap.size,1,M⟩=N (J d x.val.length c)) ((first|exact⟨s0,s1⟩|exact⟨t0,t1⟩|exact⟨c50,c51⟩|exact⟨c60,c61⟩|assumption))
     ((first
      |(refine jJ rfl (.tmp 63) (.tmp 71) 50 rfl w1.heap.size 5 i5 Tryz.underlying50 hi D C B (J t bs.length v) bs rfl DP.out _ [byteI x.id,byteI x.val.length] rfl G.out (by simp;omega) (by simp;omega) ?_;intro Q w5 hown5 hgr5 hnew5;have c50:w5.cell? ⟨wr.heap.size,0,M⟩=N (U Z x.id):=hgr5.cell t0 (fun e=>Nat.lt_irrefl _ (q.out _ e.symm).2);have c51:w5.cell? ⟨wr.heap.size,1,M⟩=N (J d x.val.length c):=hgr5.cell t1 (fun e=>Nat.lt_irrefl _ (q.out _ e.symm).2);have hb5:Below w1.heap.size w1 w5:=SL.out.drew.grown hgr5 SL.out.size (fun k s=>(q.out k s).1);have hx5:=Uz.out.ah hb5;have hne5:∀j,Q.ownBlock=N j→j≠wr.heap.size:=Hj hnew5 (fun k s=>(q.out k s).2) hszB;have hown5':w5.ownsRow w1.heap.size 5 1 Q (bs++[byteI x.id,byteI x.val.length]).length (u8s (bs++[byteI x.id,byteI x.val.length])):=(by rw[List.length_append];exact hown5))
      |(refine jJ rfl (.tmp 72) (.tmp 74) 50 rfl w1.heap.size 5 i5 Tryz.underlying50 hi D C B Q (bs++[byteI x.id,byteI x.val.length]) rfl hown5' _ x.val rfl hx5 (by simp;omega) hb5.size ?_;intro v6 y hown6 hgr6 _;have c60:y.cell? ⟨wr.heap.size,0,M⟩=N (U Z x.id):=hgr6.cell c50 (fun e=>hne5 _ e.symm rfl);have c61:y.cell? ⟨wr.heap.size,1,M⟩=N (J d x.val.length c):=hgr6.cell c51 (fun e=>hne5 _ e.symm rfl);have hb6:Below w1.heap.size w1 y:=hb5.grown hgr6 hb5.size (fun k s=>(hown5.lt k s).1))))
    have HO6:Hid (y.ownsRow w1.heap.size 5 1 v6 (bs++([byteI x.id,byteI x.val.length]++x.val)).length (u8s (bs++([byteI x.id,byteI x.val.length]++x.val)))):=by
     show y.ownsRow w1.heap.size 5 1 v6 (bs++([byteI x.id,byteI x.val.length]++x.val)).length (u8s (bs++([byteI x.id,byteI x.val.length]++x.val)));rw[←List.append_assoc,List.length_append];exact hown6
    have HB6:=hid hb6;have HBS:Hid (bs++([byteI x.id,byteI x.val.length]++x.val)=[43,14,byteI code,byteI level,byteI 255,byteI next,byteI ag.length]++aN (ag.take (k+1))):=by
     show _=_;rw[eV.out];generalize [byteI x.id,byteI x.val.length]++x.val=tl;rw[←List.append_assoc,←F.out]
    exact MX
   ·obtain rfl:k=ag.length:=by omega
    have HBS:Hid (bs=[43,14,byteI code,byteI level,byteI 255,byteI next,byteI ag.length]++aN ag):=by
     have h:=F.out;rw[List.take_length] at h;exact h
    have L:Hid (Bs wr (J t bs.length v) bs∧Below w.heap.size w wr∧∀A,t=N A→w.heap.size≤A.block):=⟨Bs.own a.out,bt i g (Nat.le_refl _),fun A h=>Nat.le_trans i.size (a.out.lt A.block (by rw[h];rfl)).1⟩
    clear a F;go_wp2;go_ret2;refine(show gV w ([43,14,byteI code,byteI level,byteI 255,byteI next,byteI ag.length]++aN ag) _ _ from ?_);rw[←HBS.out];exact⟨t,v,rfl,L.out.1,L.out.2.1,L.out.2.2⟩
 ·go_enter Tryz.func205,Tryz.ntmps205
  go_wp2_with fail;refine(HV.out _).mono ?_;rintro r w1 ⟨rfl,I⟩;have m:w1.heap[w.heap.size]?=N (Y #[U Z 43,U Z 0,J da 0 dc,U Z code,U Z level,.bool false,U Z next,J oa ag.length oc] 53 (0,0)):=by rw[I.block _ (by simp)];exact heap_alloc_new _ _
  have p0:w1.cell? ⟨w.heap.size,0,M⟩=N (U Z 43):=aM m 0;have p1:w1.cell? ⟨w.heap.size,1,M⟩=N (U Z 0):=aM m 1;have p2:w1.cell? ⟨w.heap.size,2,M⟩=N (J da 0 dc):=aM m 2;have p3:w1.cell? ⟨w.heap.size,3,M⟩=N (U Z code):=aM m 3;have p4:w1.cell? ⟨w.heap.size,4,M⟩=N (U Z level):=aM m 4;have p5:=aM m 5;simp only[List.getElem?_toArray,List.getElem?_cons_succ,List.getElem?_cons_zero] at p5;have p6:w1.cell? ⟨w.heap.size,6,M⟩=N (U Z next):=aM m 6;have P:w1.cell? ⟨w.heap.size,7,M⟩=N (J oa ag.length oc):=aM m 7;have i:Below w.heap.size w w1:=bt (bal' w _) I (Nat.le_refl _);have QO:w.heap.size<w1.heap.size:=(Array.getElem?_eq_some_iff.1 m).1;have V:=hid (VP w1 w1.heap.size code level _ next ag.length (by omega) (by omega) sF (by omega) (by omega) (Nat.le_refl _));obtain⟨ao,no,co,SR,AD,nM,ak,Zx,K⟩:=(HO.out.ah i).open_;simp only[Value.slice.injEq] at SR;obtain⟨rfl,rfl,rfl⟩:=SR;replace K:=hid K;have P7:=hid P;clear m I AD;go_wp2_with fail;go_loopw [5,59] (fun bv idx wr=>∃(k:Nat) (t:Option Addr) (v:Nat) (bs:List UInt8),k≤ag.length∧idx=U Z k∧bv=J t bs.length v∧bs.length≤253∧Hid (wr.ownsRow w1.heap.size 5 1 (J t bs.length v) bs.length (u8s bs))∧Hid (bs=[43,14,byteI code,byteI level,byteI 0,byteI next,byteI ag.length]++aN (ag.take k))∧Below w1.heap.size w1 wr) (fun _ idx _=>ag.length- (intOf idx).toNat)
  case atStart=>exact⟨0,_,7,[43,14,byteI code,byteI level,byteI 0,byteI next,byteI ag.length],Nat.zero_le _,rfl,rfl,by simp,V.out,by show _=_;simp [aN],bal' w1 _⟩
  case round=>
   clear p0 p1 p2 p3 p4 p5 p6 P V;obtain⟨k,t,v,bs,s,rfl,rfl,S7,a,F,g⟩:=hrel;have Qh:=g.size;have P:wr.cell? ⟨w.heap.size,7,M⟩=N (J oa ag.length oc):=cell_keep g P7.out;by_cases R:k<ag.length
   ·obtain ⟨x,E⟩:=get_some (n:=ag.length) rfl R
    obtain⟨b,o,d,c,rfl,d1,d2,gy⟩:=K.out k x E;obtain⟨x1,x2,x3⟩:=z.out k x E;replace d1:=cell_keep g d1;replace d2:=cell_keep g d2;have Uz:=hid gy;have eV:=hid (show aN (ag.take (k+1))=aN (ag.take k)++([byteI x.id,byteI x.val.length]++x.val) by rw[az E,ja]);have HLN:Hid ((bs++([byteI x.id,byteI x.val.length]++x.val)).length≤253):=by
     show _≤253;rw[F.out,List.append_assoc,←eV.out,List.length_append,eB];have:=fA (ag.drop (k+1)) (ag.take (k+1));rw[List.take_append_drop] at this;simp;omega
    have ab:(0:Int)≤(k:Int):=Int.natCast_nonneg _;have av:(k:Int)<(ag.length:Int):=by omega
    clear E gy;go_wp2_with fail;have s0:(wr.alloc (Y #[U Z x.id,J d x.val.length c] 165)).cell? ⟨wr.heap.size,0,M⟩=N (U Z x.id):=by rw[World.cell?_alloc_at _ _ _ _ rfl];rfl
    have s1:(wr.alloc (Y #[U Z x.id,J d x.val.length c] 165)).cell? ⟨wr.heap.size,1,M⟩=N (J d x.val.length c):=by rw[World.cell?_alloc_at _ _ _ _ rfl];rfl
    have t0:((wr.alloc (Y #[U Z x.id,J d x.val.length c] 165)).alloc (Y #[U .u8 x.id,U .u8 x.val.length] 5)).cell? ⟨wr.heap.size,0,M⟩=N (U Z x.id):=cell_keep (bal' _ _) s0;have t1:((wr.alloc (Y #[U Z x.id,J d x.val.length c] 165)).alloc (Y #[U .u8 x.id,U .u8 x.val.length] 5)).cell? ⟨wr.heap.size,1,M⟩=N (J d x.val.length c):=cell_keep (bal' _ _) s1;have DP:=hid ((a.out.alloc (Y #[U Z x.id,J d x.val.length c] 165)).alloc (Y #[U .u8 x.id,U .u8 x.val.length] 5));have q:=hid a.out.lt;have G:=hid (Zs (wr.alloc (Y #[U Z x.id,J d x.val.length c] 165)) (wr.heap.size+1) x.id x.val.length x1 x2 (by omega) (by omega) (by simp));have SL:=hid ((bta g (Nat.le_refl _) (Y #[U Z x.id,J d x.val.length c] 165)).alloc (by simp;omega) (Y #[U .u8 x.id,U .u8 x.val.length] 5));have u1:IntKind.u8.wrap x.id=x.id:=by show x.id%256=x.id;omega
    have u2:IntKind.u8.wrap (x.val.length:Int)=x.val.length:=by show (x.val.length:Int)%256=x.val.length;omega
    have hszB:wr.heap.size<((wr.alloc (Y #[U Z x.id,J d x.val.length c] 165)).alloc (Y #[U .u8 x.id,U .u8 x.val.length] 5)).drew.heap.size:=by show wr.heap.size<((wr.alloc (Y #[U Z x.id,J d x.val.length c] 165)).alloc (Y #[U .u8 x.id,U .u8 x.val.length] 5)).heap.size;simp;omega
    have hszA:((wr.alloc (Y #[U Z x.id,J d x.val.length c] 165)).alloc (Y #[U .u8 x.id,U .u8 x.val.length] 5)).heap.size=wr.heap.size+2:=by simp
    go_region_held3 (fun W=>W.cell? ⟨wr.heap.size,0,M⟩=N (U Z x.id)∧W.cell? ⟨wr.heap.size,1,M⟩=N (J d x.val.length c)) ((first|exact⟨s0,s1⟩|exact⟨t0,t1⟩|exact⟨c50,c51⟩|exact⟨c60,c61⟩|assumption))
     ((first
      |(refine jJ rfl (.tmp 63) (.tmp 71) 50 rfl w1.heap.size 5 i5 Tryz.underlying50 hi D C B (J t bs.length v) bs rfl DP.out _ [byteI x.id,byteI x.val.length] rfl G.out (by simp;omega) (by simp;omega) ?_;intro Q w5 hown5 hgr5 hnew5;have c50:w5.cell? ⟨wr.heap.size,0,M⟩=N (U Z x.id):=hgr5.cell t0 (fun e=>Nat.lt_irrefl _ (q.out _ e.symm).2);have c51:w5.cell? ⟨wr.heap.size,1,M⟩=N (J d x.val.length c):=hgr5.cell t1 (fun e=>Nat.lt_irrefl _ (q.out _ e.symm).2);have hb5:Below w1.heap.size w1 w5:=SL.out.drew.grown hgr5 SL.out.size (fun k s=>(q.out k s).1);have hx5:=Uz.out.ah hb5;have hne5:∀j,Q.ownBlock=N j→j≠wr.heap.size:=Hj hnew5 (fun k s=>(q.out k s).2) hszB;have hown5':w5.ownsRow w1.heap.size 5 1 Q (bs++[byteI x.id,byteI x.val.length]).length (u8s (bs++[byteI x.id,byteI x.val.length])):=(by rw[List.length_append];exact hown5))
      |(refine jJ rfl (.tmp 72) (.tmp 74) 50 rfl w1.heap.size 5 i5 Tryz.underlying50 hi D C B Q (bs++[byteI x.id,byteI x.val.length]) rfl hown5' _ x.val rfl hx5 (by simp;omega) hb5.size ?_;intro v6 y hown6 hgr6 _;have c60:y.cell? ⟨wr.heap.size,0,M⟩=N (U Z x.id):=hgr6.cell c50 (fun e=>hne5 _ e.symm rfl);have c61:y.cell? ⟨wr.heap.size,1,M⟩=N (J d x.val.length c):=hgr6.cell c51 (fun e=>hne5 _ e.symm rfl);have hb6:Below w1.heap.size w1 y:=hb5.grown hgr6 hb5.size (fun k s=>(hown5.lt k s).1))))
    have HO6:Hid (y.ownsRow w1.heap.size 5 1 v6 (bs++([byteI x.id,byteI x.val.length]++x.val)).length (u8s (bs++([byteI x.id,byteI x.val.length]++x.val)))):=by
     show y.ownsRow w1.heap.size 5 1 v6 (bs++([byteI x.id,byteI x.val.length]++x.val)).length (u8s (bs++([byteI x.id,byteI x.val.length]++x.val)));rw[←List.append_assoc,List.length_append];exact hown6
    have HB6:=hid hb6;have HBS:Hid (bs++([byteI x.id,byteI x.val.length]++x.val)=[43,14,byteI code,byteI level,byteI 0,byteI next,byteI ag.length]++aN (ag.take (k+1))):=by
     show _=_;rw[eV.out];generalize [byteI x.id,byteI x.val.length]++x.val=tl;rw[←List.append_assoc,←F.out]
    exact MX
   ·obtain rfl:k=ag.length:=by omega
    have HBS:Hid (bs=[43,14,byteI code,byteI level,byteI 0,byteI next,byteI ag.length]++aN ag):=by
     have h:=F.out;rw[List.take_length] at h;exact h
    have L:Hid (Bs wr (J t bs.length v) bs∧Below w.heap.size w wr∧∀A,t=N A→w.heap.size≤A.block):=⟨Bs.own a.out,bt i g (Nat.le_refl _),fun A h=>Nat.le_trans i.size (a.out.lt A.block (by rw[h];rfl)).1⟩
    clear a F;go_wp2;go_ret2;refine(show gV w ([43,14,byteI code,byteI level,byteI 0,byteI next,byteI ag.length]++aN ag) _ _ from ?_);rw[←HBS.out];exact⟨t,v,rfl,L.out.1,L.out.2.1,L.out.2.2⟩
theorem LG (fn ar:Int) (code level:Int) (more:Bool) (next:Int) (data:List UInt8) (ag:List Ob) (da oa:Option Addr) (dc oc:Nat) (w:World) (g:Bs w (J da data.length dc) data) (i:cY w (J oa ag.length oc) ag) (j:level≤9223372036854775807) (m: -9223372036854775808≤level) (d:Rp.ok ⟨fn,ar,data,code,level,more,next,ag⟩=true):
  Calls Tryz.prog 205 #[.agg #[U Z fn,U Z ar,J da data.length dc,U Z code,U Z level,.bool more,U Z next,J oa ag.length oc]] w (gV w (Rp.bE ⟨fn,ar,data,code,level,more,next,ag⟩)):=by
 obtain⟨k,h|h|h⟩:=Gx d
 ·obtain ⟨v,c,a⟩:=h
  have e:Rp.bE ⟨fn,ar,data,code,level,more,next,ag⟩=[byteI (fn+128),byteI ar]:=by unfold Rp.bE;rw[if_neg v]
  rw[e];exact K9 fn ar code level more next data ag da oa dc oc w g i j m d k ⟨c,a⟩
 ·obtain ⟨rfl,y,c,a⟩:=h
  have e:Rp.bE ⟨fn,0,data,code,level,more,next,ag⟩=byteI fn::byteI data.length::data:=by unfold Rp.bE;rw[if_pos rfl,if_neg y]
  rw[e];exact Gb fn code level more next data ag da oa dc oc w g i j m d ⟨k.1,c⟩ a
 ·obtain ⟨rfl,rfl,rfl,c,a,x,q,s,t,n⟩:=h
  have e:Rp.bE ⟨43,0,[],code,level,more,next,ag⟩=fb ⟨43,0,[],code,level,more,next,ag⟩++aN ag:=by unfold Rp.bE;rw[if_pos rfl,if_pos rfl]
  rw[e];exact Mf code level more next ag da oa dc oc w g i d c a x q s t n _ rfl
theorem wR (h:r.ok=true):r.data.length≤1000∧r.ag.length≤1000∧∀(i:Nat) (x:Ob),r.ag[i]?=N x→x.val.length≤1000:=by
 obtain⟨fn,ar,data,code,level,more,next,ag⟩:=r;have hs:∀{r:Rp},r.short=true→r.data.length≤1000∧r.ag.length≤1000∧∀(i:Nat) (x:Ob),r.ag[i]?=N x→x.val.length≤1000:=by
  intro r a;simp only[Rp.short,Rp.plain,Bool.and_eq_true,List.isEmpty_iff] at a;rw[a.1,a.2.2];exact⟨by simp,by simp,fun i x c=>by simp at c⟩
 have e:∀{r:Rp},r.plain=true→r.data.length≤1000→r.data.length≤1000∧r.ag.length≤1000∧∀(i:Nat) (x:Ob),r.ag[i]?=N x→x.val.length≤1000:=by
  intro r a d;simp only[Rp.plain,Bool.and_eq_true,List.isEmpty_iff] at a;rw[a.2];exact⟨d,by simp,fun i x c=>by simp at c⟩
 unfold Rp.ok at h;rw[Bool.and_eq_true] at h;obtain⟨_,h⟩:=h;split at h
 ·split at h
  ·simp only[Rp.lC,Bool.and_eq_true,List.isEmpty_iff] at h
   obtain⟨k,j,g⟩:=jr h.1.2;have d:data=[]:=h.1.1.1.1.1.1.1;exact⟨by rw[d];simp,by show ag.length≤1000;omega,fun i x c=>by have:=(g i x c).2.2;omega⟩
  ·split at h
   ·simp only[Bool.and_eq_true,decide_eq_true_eq] at h
    exact e (r:=⟨fn,ar,data,code,level,more,next,ag⟩) h.2 (by have:=h.1.2;show data.length≤1000;omega)
   ·simp only[Bool.and_eq_true,decide_eq_true_eq] at h
    exact e (r:=⟨fn,ar,data,code,level,more,next,ag⟩) h.2 (by have:=h.1.2;show data.length≤1000;omega)
 ·simp only[Bool.and_eq_true] at h
  exact hs (r:=⟨fn,ar,data,code,level,more,next,ag⟩) h.2
def aD (u:Int) (rp:Rp):List UInt8:=fj (UInt8.ofNat u.toNat) rp.bE
theorem df (u:Int) (h:rp.ok=true):5≤(aD u rp).length∧(aD u rp).length≤256:=by
 have:=BS h;unfold aD;rw[bp];omega
def cm (l:List Sl) (bd pa:Int) (f:List UInt8):Option (Int×Rq×List Nat):=
 match bk aw f with
 |none=>none
 |some (u,p)=>match ek p with
  |none=>none
  |some q=>if bF l bd pa u l.length=[] then none else some (u,q,bF l bd pa u l.length)
def zT (w:World) (f:List UInt8) (r:Ending) (w':World):Prop:=
 ∃a c,r=O (J a f.length c)∧w'.ownsRow w.heap.size 5 1 (J a f.length c) f.length (u8s f)∧Below w.heap.size w w'
theorem Ar (h:bk aw f=N (u,p)):1≤u∧u≤247:=by
 unfold bk at h;split at h
 ·rename_i e
  injection h with h
  injection h with c a
  omega
 ·cases h
theorem fT {bd:Int} {q:Rq} {ms:List Nat} (h:cm l bd pa f=N (u,q,ms)):1≤u∧u≤247∧q.ok=true∧ms=bF l bd pa u l.length∧ms≠[]:=by
 unfold cm at h;cases hs:bk aw f with
 |none=>rw[hs] at h;cases h
 |some x=>
  obtain⟨i,p⟩:=x;rw[hs] at h;dsimp only at h;cases hq:ek p with
  |none=>rw[hq] at h;cases h
  |some q'=>
   rw[hq] at h;dsimp only at h;split at h
   ·cases h
   ·rename_i a
    injection h with h
    injection h with c e
    injection e with g d
    subst c g d;have:=Ar hs;exact⟨this.1,this.2,Fu hq,rfl,a⟩
theorem nI (u:Int) (u1:1≤u) (u2:u≤247) (rp:Rp) (q:rp.ok=true) (da oa:Option Addr) (dc oc:Nat) (w:World) (g:dG w rp da dc oa oc):
  Calls Tryz.prog 186 #[U Z u,.agg #[U Z rp.fn,U Z rp.ar,J da rp.data.length dc,U Z rp.code,U Z rp.level,.bool rp.more,U Z rp.next,J oa rp.ag.length oc]] w (zT w (aD u rp)):=by
 obtain⟨s,x,d,C⟩:=eY w (Y #[U Z rp.fn,U Z rp.ar,J da rp.data.length dc,U Z rp.code,U Z rp.level,.bool rp.more,U Z rp.next,J oa rp.ag.length oc] 53);have D:Hid (Calls Tryz.prog 205 #[.agg #[U Z rp.fn,U Z rp.ar,J da rp.data.length dc,U Z rp.code,U Z rp.level,.bool rp.more,U Z rp.next,J oa rp.ag.length oc]] s (gV s rp.bE)):=LG rp.fn rp.ar rp.code rp.level rp.more rp.next rp.data rp.ag da oa dc oc s (g.d.ah d) (g.o.ah d) g.hi g.lo q;have y:=BS q;have B:Hid (∀X a c,Bs X (J a rp.bE.length c) rp.bE→Calls Tryz.prog 123 #[U Z u,J a rp.bE.length c] X (dj X (N (aD u rp)))):=fun X a c E=>by
  have h:=qe u a _ c rp.bE X E;have e:lf u rp.bE=N (aD u rp):=by unfold lf;rw[if_pos ⟨u1,u2,by omega,y.2⟩];rfl
  rw[e] at h;exact h
 obtain⟨pl,v⟩:=gE rp.bE.length;have I:=hid v;have k:=hid x;have t:=hid d;clear x d g q u1 u2 y v;go_enter Tryz.func186,Tryz.ntmps186;go_upto_region 1 with(fail)
 rw[k.out];go_wp2_with (first
  |(refine wpList_load_row rfl 53 (.tmp 3) rfl w.heap.size rfl 53 _ (0,0) _ C Tryz.underlying53 rfl info8 ?_)
  |(go_at_call 205;(with_reducible refine D.out.mono ?_);rintro r F ⟨G,K,rfl,A,i,-⟩;have m:=hid A;have z:=hid (bt t.out i (Nat.le_refl _));clear A i)
  |(go_at_call 123;(with_reducible refine(B.out _ _ _ m.out).mono ?_);rintro r w3 ⟨fa,fc,e,f,rfl,j,n,he⟩))
 go_ret;rcases he with⟨-,he⟩|⟨-,he,-⟩
 ·injection he with he
  subst he;exact⟨fa,fc,rfl,own_lower j z.out.size,bt z.out n (Nat.le_refl _)⟩
 ·cases he
theorem pw {l:List UInt8} (k:bk aw l=N (u,p)) (a:Option Addr) (n c:Nat) (w:World) (q:Bs w (J a n c) l):
  Calls Tryz.prog 146 #[J a n c] w fun r w'=>∃g c2,r=O (.tuple #[U Z u,J g p.length c2,U Z 0])∧Bs w' (J g p.length c2) p∧Below w.heap.size w w':=by
 refine(kZ a n c l w q).mono ?_;rintro r w' ⟨v,g,y,c2,e,rfl,i,h⟩;rw[k] at h;rcases h with⟨rfl,x,d,m⟩|⟨-,h⟩
 ·injection d with d
  injection d with d t
  subst d t;have j:=m w' (ay.refl _ _);have s:=j.gT.1;subst s;exact⟨g,c2,rfl,j,i⟩
 ·cases h
theorem Da {l:List UInt8} (j:bk aw l=none) (a:Option Addr) (n c:Nat) (w:World) (m:Bs w (J a n c) l):
  Calls Tryz.prog 146 #[J a n c] w fun r w'=>∃u d i c2 e,r=O (.tuple #[U Z u,J d i c2,U Z e])∧Hid (¬e=0)∧Below w.heap.size w w':=by
 refine(kZ a n c l w m).mono ?_;rintro r w' ⟨k,d,i,c2,e,rfl,g,h⟩;rw[j] at h;rcases h with⟨rfl,t,q,s⟩|⟨he,-⟩
 ·cases q
 ·exact ⟨k,d,i,c2,e,rfl,he,g⟩
def PE (w:World) (o:Option (Int×Rq×List Nat)) (r:Ending) (w':World):Prop:=
 match o with
 |some (u,q,ms)=>∃a c,r=O (.tuple #[U Z u,.agg #[U Z q.fn,U Z q.addr,U Z q.aF,U Z q.code,U Z q.obj],J a ms.length c,.bool true])∧w'.ownsRow w.heap.size 3 1 (J a ms.length c) ms.length (ms.map fun i:Nat=>U Z (i:Int))∧Below w.heap.size w w'
 |none=>∃u f ad qt co ob a n c,r=O (.tuple #[U Z u,.agg #[U Z f,U Z ad,U Z qt,U Z co,U Z ob],J a n c,.bool false])∧Below w.heap.size w w'
theorem lZ {bd:Int} (h:bk aw f=none):cm l bd pa f=none:=by unfold cm;rw[h]
theorem qs {bd:Int} (h:bk aw f=N (u,p)) (a:ek p=none):cm l bd pa f=none:=by unfold cm;rw[h];dsimp only;rw[a]
theorem nm {bd:Int} {q:Rq} (h:bk aw f=N (u,p)) (a:ek p=N q):cm l bd pa f=if bF l bd pa u l.length=[] then none else some (u,q,bF l bd pa u l.length):=by unfold cm;rw[h];dsimp only;rw[a]
theorem qz (la:Option Addr) (lc ln:Nat) (l:List Sl) (hl:l.length=ln) (hB:cW l) (bd pa:Int) (f1:bT bd) (f2:bT pa) (fa:Option Addr) (fn fc:Nat) (f:List UInt8) (w:World) (hL:dm w (J la ln lc) l) (hf:Bs w (J fa fn fc) f):
  Calls Tryz.prog 185 #[J la ln lc,.agg #[U Z bd,U Z pa],J fa fn fc] w (PE w (cm l bd pa f)):=by
 obtain⟨VB,tp,Vr⟩:=vw l;obtain rfl:VB=true:=tp.2 hB;obtain⟨W1,ak⟩:∃W,(w.alloc (Y #[U Z bd,U Z pa] 61)).alloc (Y #[U Z 0,U Z 0,U Z 0,U Z 0,U Z 0] 45)=W:=⟨_,rfl⟩
 have ao:Below w.heap.size w W1:=by rw[←ak];exact bta (bal' w _) (Nat.le_refl _) _
 have a5:W1.heap.size=w.heap.size+2:=by rw[←ak];simp
 have pS:W1.heap[w.heap.size]?=N (Y #[U Z bd,U Z pa] 61):=by rw[←ak];exact hpKeep (hpNew w _) (bal' _ _)
 have pZ:W1.heap[w.heap.size+1]?=N (Y #[U Z 0,U Z 0,U Z 0,U Z 0,U Z 0] 45):=by rw[←ak];have h:=hpNew (w.alloc (Y #[U Z bd,U Z pa] 61)) (Y #[U Z 0,U Z 0,U Z 0,U Z 0,U Z 0] 45);rw[World.size_alloc] at h;exact h
 obtain⟨g,cV⟩:∃n,w.heap.size+1=n:=⟨_,rfl⟩
 rw[cV] at pZ;have pH:Hid (w.heap.size<g∧g<W1.heap.size):=by show _∧_;omega
 have HV:Hid (∀X,Below w.heap.size w X→Calls Tryz.prog 66 #[J la ln lc] X (aj X true)):=fun X I=>Vr X _ (hL.ah I)
 have Ls:Hid (∀X u,Below w.heap.size w X→Calls Tryz.prog 188 #[J la ln lc,.agg #[U Z bd,U Z pa],U Z u] X (tB X (bF l bd pa u ln))):=fun X u I=>sC la lc l ln X hl (by have:=hB.1;omega) (hL.ah I) bd pa u f1 f2
 have a7:=hid hl;have HF:=hid hf;have ab:=hid ak;have a8:=hid ao;have PS:=hid pS;have PZ:=hid pZ;have EZ:=hid cV;have k1:=ao;clear ak ao pS pZ hB tp Vr hL hl f1 f2 a5 cV hf;cases hs:bk aw f with
 |none=>
  rw[lZ hs];have qj:Hid (∀X,Below w.heap.size w X→Calls Tryz.prog 146 #[J fa fn fc] X fun r w'=>∃u a2 n2 c2 e,r=O (.tuple #[U Z u,J a2 n2 c2,U Z e])∧Hid (¬e=0)∧Below X.heap.size X w'):=fun X I=>Da hs fa fn fc X (HF.out.ah I)
  clear hs;go_enter Tryz.func185,Tryz.ntmps185;go_upto_region 1 with(fail)
  rw[ab.out,EZ.out];go_upto_region 3 with(go_at_call 66;(with_reducible refine(HV.out _ k1).mono ?_);rintro r w2 ⟨rfl,t⟩)
  have k2:=bt k1 t (Nat.le_refl _);go_upto_region 4 with(go_at_call 146;(with_reducible refine(qj.out _ k2).mono ?_);rintro r w3 ⟨u3,a3,n3,c3,e3,rfl,a4,y⟩)
  have g3:(e3 !=0)=true:=by rw[bne_iff_ne];exact a4.out
  have k3:=hid (bt k2 y (Nat.le_refl _));have A:=hpKeep (hpKeep PZ.out t) y;have z0:=hpCell A 0;have z1:=hpCell A 1;have z2:=hpCell A 2;have z3:=hpCell A 3;have z4:=hpCell A 4;go_upto_region 5 with(fail)
  have u0:∀X,X.heap[g]?=N (Y #[U Z 0,U Z 0,U Z 0,U Z 0,U Z 0] 45)∧Keeps (· =g) w3 X→X.cell? ⟨g,0,M⟩=N (U Z 0):=(fun X h=>hpCell h.1 0);have u1:∀X,X.heap[g]?=N (Y #[U Z 0,U Z 0,U Z 0,U Z 0,U Z 0] 45)∧Keeps (· =g) w3 X→X.cell? ⟨g,1,M⟩=N (U Z 0):=(fun X h=>hpCell h.1 1);have u2:∀X,X.heap[g]?=N (Y #[U Z 0,U Z 0,U Z 0,U Z 0,U Z 0] 45)∧Keeps (· =g) w3 X→X.cell? ⟨g,2,M⟩=N (U Z 0):=(fun X h=>hpCell h.1 2);have u3:∀X,X.heap[g]?=N (Y #[U Z 0,U Z 0,U Z 0,U Z 0,U Z 0] 45)∧Keeps (· =g) w3 X→X.cell? ⟨g,3,M⟩=N (U Z 0):=(fun X h=>hpCell h.1 3);have u4:∀X,X.heap[g]?=N (Y #[U Z 0,U Z 0,U Z 0,U Z 0,U Z 0] 45)∧Keeps (· =g) w3 X→X.cell? ⟨g,4,M⟩=N (U Z 0):=(fun X h=>hpCell h.1 4);have kk:w3.drew.heap[g]?=N (Y #[U Z 0,U Z 0,U Z 0,U Z 0,U Z 0] 45)∧Keeps (· =g) w3 w3.drew:=(⟨hpKeep A (Below.refl _ _).drew,Keeps.af (Below.refl _ _).drew⟩)
  clear z0 z1 z2 z3 z4;refine wp_region_held_drew (S:=fun V=>V.heap[g]?=N (Y #[U Z 0,U Z 0,U Z 0,U Z 0,U Z 0] 45)∧Keeps (· =g) w3 V) (by kernel_rfl) kk (fun hH=>?_);clear hH;refine tkD 0 24 (v:=?_) rfl (by kernel_rfl) (fun _ _ _ h=>h) rfl (by rfl) (by assumption) ?_ ?_;rotate_left;(intro w m;(try dsimp only at m);(try go_simp);try rfl);simp only[setS];refine tkD 1 6 (v:=?_) rfl (by kernel_rfl) (fun _ _ _ h=>h) rfl (by rfl) (by assumption) ?_ ?_;rotate_left;(intro w m;(try dsimp only at m);(try go_simp);try rfl);simp only[setS];refine rdyH 2 rfl (fun K hK=>?_);refine step_storeW rfl 45 (.tmp 7) (.tmp 24) rfl g 0 _ 45 #[U Z 0,U Z 0,U Z 0,U Z 0,U Z 0] rfl rfl (hpKeep A (Below.refl _ _).drew) (by simp) aS rfl ?_;intro F R G ad;have z:F.heap[g]?=N (Y #[U Z 0,U Z 0,U Z 0,U Z 0,U Z 0] 45):=R;have L:F.heap[g]?=N (Y #[U Z 0,U Z 0,U Z 0,U Z 0,U Z 0] 45)∧Keeps (· =g) w3 F:=⟨R,kk.2.trans G (fun _ _ e=>e)⟩
  refine hK.out _ _ L (fun E=>?_);clear hK K E;refine tkD 3 8 (v:=?_) rfl (by kernel_rfl) (fun _ _ _ h=>h) rfl (by rfl) (by assumption) ?_ ?_;rotate_left;(intro w m;(try dsimp only at m);(try go_simp);try rfl);refine tkD 4 9 (v:=?_) rfl (by kernel_rfl) (fun _ _ _ h=>h) rfl (by rfl) (by assumption) ?_ ?_;rotate_left;(intro w m;(try dsimp only at m);(try go_simp);try rfl);refine wpAnyH_done (by kernel_rfl) ?_ _;go_wp2;have q0:=hpCell z 0;have q1:=hpCell z 1;have q2:=hpCell z 2;have q3:=hpCell z 3;have q4:=hpCell z 4;refine bodyPost_ret (v:=.tuple #[U Z 0,.agg #[U Z 0,U Z 0,U Z 0,U Z 0,U Z 0],J none 0 0,.bool false]) (by simp [results,Tryz.results185,go_sem,q0,q1,q2,q3,q4]) rfl ?_;exact⟨0,0,0,0,0,0,none,0,0,rfl,k3.out.trans (L.2.below k3.out.size (fun j hj e=>by have:=pH.out;omega))⟩
 |some x=>
  obtain⟨u,p⟩:=x;have qj:Hid (∀X,Below w.heap.size w X→Calls Tryz.prog 146 #[J fa fn fc] X fun r w'=>∃a2 c2,r=O (.tuple #[U Z u,J a2 p.length c2,U Z 0])∧Bs w' (J a2 p.length c2) p∧Below X.heap.size X w'):=fun X I=>pw hs fa fn fc X (HF.out.ah I)
  have HS:=hid hs;clear hs;obtain⟨pl,yq⟩:=gE p.length;rw[yq] at qj;clear yq;cases hq:ek p with
  |none=>
   rw[qs HS.out hq];have R3:Hid (∀X v,Bs X v p→Calls Tryz.prog 204 #[v] X (zy X none)):=fun X v I=>sq v p X I none hq
   clear hq;go_enter Tryz.func185,Tryz.ntmps185;go_upto_region 1 with(fail)
   rw[ab.out,EZ.out];go_upto_region 3 with(go_at_call 66;(with_reducible refine(HV.out _ k1).mono ?_);rintro r w2 ⟨rfl,t⟩)
   have k2:=bt k1 t (Nat.le_refl _);go_upto_region 6 with(go_at_call 146;(with_reducible refine(qj.out _ k2).mono ?_);rintro r w3 ⟨a3,c3,rfl,fF,y⟩)
   have k3:=bt k2 y (Nat.le_refl _);have A:=hpKeep (hpKeep PZ.out t) y;have TI:=hpKeep (hpKeep PS.out t) y;have Q:=hid fF;clear fF;go_upto_region 7 with(first
    |(go_at_call 204;(with_reducible refine(R3.out _ _ Q.out).mono ?_);rintro r w4 ⟨e4,aX,rfl,aY⟩;have Un:=hpKeep A aY)
    |(refine wpList_storeW rfl 45 (.tmp 7) (.tmp 28) rfl g 0 _ 45 #[U Z 0,U Z 0,U Z 0,U Z 0,U Z 0] rfl rfl Un (by simp) aS rfl ?_;intro w5 g5 C av))
   have k4:=bt k3 aY (Nat.le_refl _);have k5:Below w.heap.size w w5:=k4.trans (C.below k4.size (fun j hj e=>by have:=pH.out;omega));have NS:=hpKeeps (hpKeep TI aY) C (by have:=pH.out;omega);have s0:=hpCell NS 0;have s1:=hpCell NS 1;have g4:(e4==0)=false:=b0 aX;have AB:w5.heap[g]?=N (Y #[U Z 0,U Z 0,U Z 0,U Z 0,U Z 0] 45):=g5;clear g5;go_upto_region 8 with(go_at_call 188;(with_reducible refine(Ls.out _ _ k5).mono ?_);rintro r s ⟨a6,c6,rfl,B,D⟩)
   have k6:=bt k5 D (Nat.le_refl _);have A:=hpKeep AB D;have u0:∀X,X.heap[g]?=N (Y #[U Z 0,U Z 0,U Z 0,U Z 0,U Z 0] 45)∧Keeps (· =g) s X→X.cell? ⟨g,0,M⟩=N (U Z 0):=(fun X h=>hpCell h.1 0);have u1:∀X,X.heap[g]?=N (Y #[U Z 0,U Z 0,U Z 0,U Z 0,U Z 0] 45)∧Keeps (· =g) s X→X.cell? ⟨g,1,M⟩=N (U Z 0):=(fun X h=>hpCell h.1 1);have u2:∀X,X.heap[g]?=N (Y #[U Z 0,U Z 0,U Z 0,U Z 0,U Z 0] 45)∧Keeps (· =g) s X→X.cell? ⟨g,2,M⟩=N (U Z 0):=(fun X h=>hpCell h.1 2);have u3:∀X,X.heap[g]?=N (Y #[U Z 0,U Z 0,U Z 0,U Z 0,U Z 0] 45)∧Keeps (· =g) s X→X.cell? ⟨g,3,M⟩=N (U Z 0):=(fun X h=>hpCell h.1 3);have u4:∀X,X.heap[g]?=N (Y #[U Z 0,U Z 0,U Z 0,U Z 0,U Z 0] 45)∧Keeps (· =g) s X→X.cell? ⟨g,4,M⟩=N (U Z 0):=(fun X h=>hpCell h.1 4);have kk:s.drew.heap[g]?=N (Y #[U Z 0,U Z 0,U Z 0,U Z 0,U Z 0] 45)∧Keeps (· =g) s s.drew:=(⟨hpKeep A (Below.refl _ _).drew,Keeps.af (Below.refl _ _).drew⟩)
   refine wp_region_held_drew (S:=fun V=>V.heap[g]?=N (Y #[U Z 0,U Z 0,U Z 0,U Z 0,U Z 0] 45)∧Keeps (· =g) s V) (by kernel_rfl) kk (fun hH=>?_);clear hH;refine tkD 0 34 (v:=?_) rfl (by kernel_rfl) (fun _ _ _ h=>h) rfl (by rfl) (by assumption) ?_ ?_;rotate_left;(intro w m;(try dsimp only at m);(try go_simp);try rfl);simp only[setS];refine tkD 1 35 (v:=?_) rfl (by kernel_rfl) (fun _ _ _ h=>h) rfl (by rfl) (by assumption) ?_ ?_;rotate_left;(intro w m;(try dsimp only at m);(try go_simp);try rfl);simp only[setS];refine tkD 2 36 (v:=?_) rfl (by kernel_rfl) (fun _ _ _ h=>h) rfl (by rfl) (by assumption) ?_ ?_;rotate_left;(intro w m;(try dsimp only at m);(try go_simp);try rfl);simp only[setS];refine tkD 3 37 (v:=?_) rfl (by kernel_rfl) (fun _ _ _ h=>h) rfl (by rfl) (by assumption) ?_ ?_;rotate_left;(intro w m;(try dsimp only at m);(try go_simp);try rfl);simp only[setS];refine tkD 4 38 (v:=?_) rfl (by kernel_rfl) (fun _ _ _ h=>h) rfl (by rfl) (by assumption) ?_ ?_;rotate_left;(intro w m;(try dsimp only at m);(try go_simp);try rfl);simp only[setS];refine tkD 5 39 (v:=?_) rfl (by kernel_rfl) (fun _ _ _ h=>h) rfl (by rfl) (by assumption) ?_ ?_;rotate_left;(intro w m;(try dsimp only at m);(try go_simp);try rfl);simp only[setS];refine tU 6 40 ?_;refine tU 7 41 ?_;refine tU 8 42 ?_;refine tkD 9 43 (v:=?_) rfl (by kernel_rfl) (fun _ _ _ h=>h) rfl (by rfl) (by assumption) ?_ ?_;rotate_left;(intro w m;(try dsimp only at m);(try go_simp);try rfl);simp only[setS];refine tkD 10 6 (v:=?_) rfl (by kernel_rfl) (fun _ _ _ h=>h) rfl (by rfl) (by assumption) ?_ ?_;rotate_left;(intro w m;(try dsimp only at m);(try go_simp);try rfl);simp only[setS];refine rdyH 11 rfl (fun K hK=>?_);refine step_storeW rfl 45 (.tmp 7) (.tmp 35) rfl g 0 _ 45 #[U Z 0,U Z 0,U Z 0,U Z 0,U Z 0] rfl rfl (hpKeep A (Below.refl _ _).drew) (by simp) aS rfl ?_;intro F R G ad;have z:F.heap[g]?=N (Y #[U Z 0,U Z 0,U Z 0,U Z 0,U Z 0] 45):=R;have L:F.heap[g]?=N (Y #[U Z 0,U Z 0,U Z 0,U Z 0,U Z 0] 45)∧Keeps (· =g) s F:=⟨R,kk.2.trans G (fun _ _ e=>e)⟩
   refine hK.out _ _ L (fun E=>?_);clear hK K E;refine tkD 12 8 (v:=?_) rfl (by kernel_rfl) (fun _ _ _ h=>h) rfl (by rfl) (by assumption) ?_ ?_;rotate_left;(intro w m;(try dsimp only at m);(try go_simp);try rfl);refine tkD 13 9 (v:=?_) rfl (by kernel_rfl) (fun _ _ _ h=>h) rfl (by rfl) (by assumption) ?_ ?_;rotate_left;(intro w m;(try dsimp only at m);(try go_simp);try rfl);refine wpAnyH_done (by kernel_rfl) ?_ _;go_wp2;have q0:=hpCell z 0;have q1:=hpCell z 1;have q2:=hpCell z 2;have q3:=hpCell z 3;have q4:=hpCell z 4;refine bodyPost_ret (v:=.tuple #[U Z u,.agg #[U Z 0,U Z 0,U Z 0,U Z 0,U Z 0],.slice a6 (bF l bd pa u ln).length c6,.bool false]) (by simp [results,Tryz.results185,go_sem,q0,q1,q2,q3,q4]) rfl ?_;exact⟨u,0,0,0,0,0,a6,_,c6,rfl,k6.trans (L.2.below k6.size (fun j hj e=>by have:=pH.out;omega))⟩
  |some q=>
   rw[nm HS.out hq];have R3:Hid (∀X v,Bs X v p→Calls Tryz.prog 204 #[v] X (zy X (N q))):=fun X v I=>sq v p X I (N q) hq
   clear hq;rw[a7.out];obtain⟨ms,rF⟩:=gE (bF l bd pa u ln);obtain⟨T,rh⟩:=gE ms.length;have ot:Hid (∀X,Below w.heap.size w X→Calls Tryz.prog 188 #[J la ln lc,.agg #[U Z bd,U Z pa],U Z u] X (fun r w'=>∃a c,r=O (J a T c)∧w'.ownsRow X.heap.size 3 1 (J a T c) T (ms.map fun i:Nat=>U Z (i:Int))∧Below X.heap.size X w')):=fun X I=>by have h:=Ls.out X u I;rw[rF] at h;refine h.mono ?_;rintro r w' ⟨a,c,h1,h2,h3⟩;rw[rh] at h1 h2;exact⟨a,c,h1,h2,h3⟩
   rw[rF];have xW:=hid rh;clear rF rh;by_cases h0:ms=[]
   ·rw [if_pos h0]
    have Eh:Hid (T=0):=by show _=_;rw[←xW.out,h0];rfl
    have g6:decide ((0:Int)<(T:Int))=false:=decide_eq_false (by have:=Eh.out;omega);clear h0;go_enter Tryz.func185,Tryz.ntmps185;go_upto_region 1 with(fail)
    rw[ab.out,EZ.out];go_upto_region 3 with(go_at_call 66;(with_reducible refine(HV.out _ k1).mono ?_);rintro r w2 ⟨rfl,t⟩)
    have k2:=bt k1 t (Nat.le_refl _);go_upto_region 6 with(go_at_call 146;(with_reducible refine(qj.out _ k2).mono ?_);rintro r w3 ⟨a3,c3,rfl,fF,y⟩)
    have k3:=bt k2 y (Nat.le_refl _);have A:=hpKeep (hpKeep PZ.out t) y;have TI:=hpKeep (hpKeep PS.out t) y;have Q:=hid fF;clear fF;go_upto_region 7 with(first
     |(go_at_call 204;(with_reducible refine(R3.out _ _ Q.out).mono ?_);rintro r w4 ⟨rfl,aY⟩;have Un:=hpKeep A aY)
     |(refine wpList_storeW rfl 45 (.tmp 7) (.tmp 28) rfl g 0 _ 45 #[U Z q.fn,U Z q.addr,U Z q.aF,U Z q.code,U Z q.obj] rfl rfl Un (by simp) aS rfl ?_;intro w5 g5 C av))
    have k4:=bt k3 aY (Nat.le_refl _);have k5:Below w.heap.size w w5:=k4.trans (C.below k4.size (fun j hj e=>by have:=pH.out;omega));have NS:=hpKeeps (hpKeep TI aY) C (by have:=pH.out;omega);have s0:=hpCell NS 0;have s1:=hpCell NS 1;have AB:w5.heap[g]?=N (Y #[U Z q.fn,U Z q.addr,U Z q.aF,U Z q.code,U Z q.obj] 45):=g5;clear g5;go_upto_region 8 with(go_at_call 188;(with_reducible refine(ot.out _ k5).mono ?_);rintro r s ⟨a6,c6,rfl,B,D⟩)
    have k6:=bt k5 D (Nat.le_refl _);have A:=hpKeep AB D;have u0:∀X,X.heap[g]?=N (Y #[U Z q.fn,U Z q.addr,U Z q.aF,U Z q.code,U Z q.obj] 45)∧Keeps (· =g) s X→X.cell? ⟨g,0,M⟩=N (U Z q.fn):=(fun X h=>hpCell h.1 0);have u1:∀X,X.heap[g]?=N (Y #[U Z q.fn,U Z q.addr,U Z q.aF,U Z q.code,U Z q.obj] 45)∧Keeps (· =g) s X→X.cell? ⟨g,1,M⟩=N (U Z q.addr):=(fun X h=>hpCell h.1 1);have u2:∀X,X.heap[g]?=N (Y #[U Z q.fn,U Z q.addr,U Z q.aF,U Z q.code,U Z q.obj] 45)∧Keeps (· =g) s X→X.cell? ⟨g,2,M⟩=N (U Z q.aF):=(fun X h=>hpCell h.1 2);have u3:∀X,X.heap[g]?=N (Y #[U Z q.fn,U Z q.addr,U Z q.aF,U Z q.code,U Z q.obj] 45)∧Keeps (· =g) s X→X.cell? ⟨g,3,M⟩=N (U Z q.code):=(fun X h=>hpCell h.1 3);have u4:∀X,X.heap[g]?=N (Y #[U Z q.fn,U Z q.addr,U Z q.aF,U Z q.code,U Z q.obj] 45)∧Keeps (· =g) s X→X.cell? ⟨g,4,M⟩=N (U Z q.obj):=(fun X h=>hpCell h.1 4);have kk:s.drew.heap[g]?=N (Y #[U Z q.fn,U Z q.addr,U Z q.aF,U Z q.code,U Z q.obj] 45)∧Keeps (· =g) s s.drew:=(⟨hpKeep A (Below.refl _ _).drew,Keeps.af (Below.refl _ _).drew⟩)
    refine wp_region_held_drew (S:=fun V=>V.heap[g]?=N (Y #[U Z q.fn,U Z q.addr,U Z q.aF,U Z q.code,U Z q.obj] 45)∧Keeps (· =g) s V) (by kernel_rfl) kk (fun hH=>?_);clear hH;refine tkD 0 34 (v:=?_) rfl (by kernel_rfl) (fun _ _ _ h=>h) rfl (by rfl) (by assumption) ?_ ?_;rotate_left;(intro w m;(try dsimp only at m);(try go_simp);try rfl);simp only[setS];refine tkD 1 35 (v:=?_) rfl (by kernel_rfl) (fun _ _ _ h=>h) rfl (by rfl) (by assumption) ?_ ?_;rotate_left;(intro w m;(try dsimp only at m);(try go_simp);try rfl);simp only[setS];refine tkD 2 36 (v:=?_) rfl (by kernel_rfl) (fun _ _ _ h=>h) rfl (by rfl) (by assumption) ?_ ?_;rotate_left;(intro w m;(try dsimp only at m);(try go_simp);try rfl);simp only[setS];refine tkD 3 37 (v:=?_) rfl (by kernel_rfl) (fun _ _ _ h=>h) rfl (by rfl) (by assumption) ?_ ?_;rotate_left;(intro w m;(try dsimp only at m);(try go_simp);try rfl);simp only[setS];refine tkD 4 38 (v:=?_) rfl (by kernel_rfl) (fun _ _ _ h=>h) rfl (by rfl) (by assumption) ?_ ?_;rotate_left;(intro w m;(try dsimp only at m);(try go_simp);try rfl);simp only[setS];refine tkD 5 39 (v:=?_) rfl (by kernel_rfl) (fun _ _ _ h=>h) rfl (by rfl) (by assumption) ?_ ?_;rotate_left;(intro w m;(try dsimp only at m);(try go_simp);try rfl);simp only[setS];refine tkD 6 40 (v:=?_) rfl (by kernel_rfl) (fun _ _ _ h=>h) rfl (by rfl) (by assumption) ?_ ?_;rotate_left;(intro w m;(try dsimp only at m);(try go_simp);try rfl);simp only[setS];refine tkD 7 41 (v:=?_) rfl (by kernel_rfl) (fun _ _ _ h=>h) rfl (by rfl) (by assumption) ?_ ?_;rotate_left;(intro w m;(try dsimp only at m);(try go_simp);try rfl);simp only[setS];refine tkD 8 42 (v:=?_) rfl (by kernel_rfl) (fun _ _ _ h=>h) rfl (by rfl) (by assumption) ?_ ?_;rotate_left;(intro w m;(try dsimp only at m);(try go_simp);try rfl);simp only[setS];refine tkD 9 43 (v:=?_) rfl (by kernel_rfl) (fun _ _ _ h=>h) rfl (by rfl) (by assumption) ?_ ?_;rotate_left;(intro w m;(try dsimp only at m);(try go_simp);try rfl);simp only[setS];refine tkD 10 6 (v:=?_) rfl (by kernel_rfl) (fun _ _ _ h=>h) rfl (by rfl) (by assumption) ?_ ?_;rotate_left;(intro w m;(try dsimp only at m);(try go_simp);try rfl);simp only[setS];refine rdyH 11 rfl (fun K hK=>?_);refine step_storeW rfl 45 (.tmp 7) (.tmp 35) rfl g 0 _ 45 #[U Z q.fn,U Z q.addr,U Z q.aF,U Z q.code,U Z q.obj] rfl rfl (hpKeep A (Below.refl _ _).drew) (by simp) aS rfl ?_;intro F R G ad;have z:F.heap[g]?=N (Y #[U Z q.fn,U Z q.addr,U Z q.aF,U Z q.code,U Z q.obj] 45):=R;have L:F.heap[g]?=N (Y #[U Z q.fn,U Z q.addr,U Z q.aF,U Z q.code,U Z q.obj] 45)∧Keeps (· =g) s F:=⟨R,kk.2.trans G (fun _ _ e=>e)⟩
    refine hK.out _ _ L (fun E=>?_);clear hK K E;refine tkD 12 8 (v:=?_) rfl (by kernel_rfl) (fun _ _ _ h=>h) rfl (by rfl) (by assumption) ?_ ?_;rotate_left;(intro w m;(try dsimp only at m);(try go_simp);try rfl);refine tkD 13 9 (v:=?_) rfl (by kernel_rfl) (fun _ _ _ h=>h) rfl (by rfl) (by assumption) ?_ ?_;rotate_left;(intro w m;(try dsimp only at m);(try go_simp);try rfl);refine wpAnyH_done (by kernel_rfl) ?_ _;go_wp2;have q0:=hpCell z 0;have q1:=hpCell z 1;have q2:=hpCell z 2;have q3:=hpCell z 3;have q4:=hpCell z 4;refine bodyPost_ret (v:=.tuple #[U Z u,.agg #[U Z q.fn,U Z q.addr,U Z q.aF,U Z q.code,U Z q.obj],J a6 T c6,.bool false]) (by simp [results,Tryz.results185,go_sem,q0,q1,q2,q3,q4,Eh.out]) rfl ?_;exact⟨u,q.fn,q.addr,q.aF,q.code,q.obj,a6,T,c6,rfl,k6.trans (L.2.below k6.size (fun j hj e=>by have:=pH.out;omega))⟩
   ·rw [if_neg h0]
    have Eh:Hid (0<T):=by show 0<T;rw[←xW.out];exact List.length_pos_iff.2 h0
    have g6:decide ((0:Int)<(T:Int))=true:=decide_eq_true (by have:=Eh.out;omega);clear h0;go_enter Tryz.func185,Tryz.ntmps185;go_upto_region 1 with(fail)
    rw[ab.out,EZ.out];go_upto_region 3 with(go_at_call 66;(with_reducible refine(HV.out _ k1).mono ?_);rintro r w2 ⟨rfl,t⟩)
    have k2:=bt k1 t (Nat.le_refl _);go_upto_region 6 with(go_at_call 146;(with_reducible refine(qj.out _ k2).mono ?_);rintro r w3 ⟨a3,c3,rfl,fF,y⟩)
    have k3:=bt k2 y (Nat.le_refl _);have A:=hpKeep (hpKeep PZ.out t) y;have TI:=hpKeep (hpKeep PS.out t) y;have Q:=hid fF;clear fF;go_upto_region 7 with(first
     |(go_at_call 204;(with_reducible refine(R3.out _ _ Q.out).mono ?_);rintro r w4 ⟨rfl,aY⟩;have Un:=hpKeep A aY)
     |(refine wpList_storeW rfl 45 (.tmp 7) (.tmp 28) rfl g 0 _ 45 #[U Z q.fn,U Z q.addr,U Z q.aF,U Z q.code,U Z q.obj] rfl rfl Un (by simp) aS rfl ?_;intro w5 g5 C av))
    have k4:=bt k3 aY (Nat.le_refl _);have k5:Below w.heap.size w w5:=k4.trans (C.below k4.size (fun j hj e=>by have:=pH.out;omega));have NS:=hpKeeps (hpKeep TI aY) C (by have:=pH.out;omega);have s0:=hpCell NS 0;have s1:=hpCell NS 1;have AB:w5.heap[g]?=N (Y #[U Z q.fn,U Z q.addr,U Z q.aF,U Z q.code,U Z q.obj] 45):=g5;clear g5;go_upto_region 8 with(go_at_call 188;(with_reducible refine(ot.out _ k5).mono ?_);rintro r s ⟨a6,c6,rfl,B,D⟩)
    have k6:=bt k5 D (Nat.le_refl _);have A:=hpKeep AB D;have u0:∀X,X.heap[g]?=N (Y #[U Z q.fn,U Z q.addr,U Z q.aF,U Z q.code,U Z q.obj] 45)∧Keeps (· =g) s X→X.cell? ⟨g,0,M⟩=N (U Z q.fn):=(fun X h=>hpCell h.1 0);have u1:∀X,X.heap[g]?=N (Y #[U Z q.fn,U Z q.addr,U Z q.aF,U Z q.code,U Z q.obj] 45)∧Keeps (· =g) s X→X.cell? ⟨g,1,M⟩=N (U Z q.addr):=(fun X h=>hpCell h.1 1);have u2:∀X,X.heap[g]?=N (Y #[U Z q.fn,U Z q.addr,U Z q.aF,U Z q.code,U Z q.obj] 45)∧Keeps (· =g) s X→X.cell? ⟨g,2,M⟩=N (U Z q.aF):=(fun X h=>hpCell h.1 2);have u3:∀X,X.heap[g]?=N (Y #[U Z q.fn,U Z q.addr,U Z q.aF,U Z q.code,U Z q.obj] 45)∧Keeps (· =g) s X→X.cell? ⟨g,3,M⟩=N (U Z q.code):=(fun X h=>hpCell h.1 3);have u4:∀X,X.heap[g]?=N (Y #[U Z q.fn,U Z q.addr,U Z q.aF,U Z q.code,U Z q.obj] 45)∧Keeps (· =g) s X→X.cell? ⟨g,4,M⟩=N (U Z q.obj):=(fun X h=>hpCell h.1 4);have kk:s.drew.heap[g]?=N (Y #[U Z q.fn,U Z q.addr,U Z q.aF,U Z q.code,U Z q.obj] 45)∧Keeps (· =g) s s.drew:=(⟨hpKeep A (Below.refl _ _).drew,Keeps.af (Below.refl _ _).drew⟩)
    refine wp_region_held_drew (S:=fun V=>V.heap[g]?=N (Y #[U Z q.fn,U Z q.addr,U Z q.aF,U Z q.code,U Z q.obj] 45)∧Keeps (· =g) s V) (by kernel_rfl) kk (fun hH=>?_);clear hH;refine tkD 0 34 (v:=?_) rfl (by kernel_rfl) (fun _ _ _ h=>h) rfl (by rfl) (by assumption) ?_ ?_;rotate_left;(intro w m;(try dsimp only at m);(try go_simp);try rfl);simp only[setS];refine tkD 1 35 (v:=?_) rfl (by kernel_rfl) (fun _ _ _ h=>h) rfl (by rfl) (by assumption) ?_ ?_;rotate_left;(intro w m;(try dsimp only at m);(try go_simp);try rfl);simp only[setS];refine tkD 2 36 (v:=?_) rfl (by kernel_rfl) (fun _ _ _ h=>h) rfl (by rfl) (by assumption) ?_ ?_;rotate_left;(intro w m;(try dsimp only at m);(try go_simp);try rfl);simp only[setS];refine tkD 3 37 (v:=?_) rfl (by kernel_rfl) (fun _ _ _ h=>h) rfl (by rfl) (by assumption) ?_ ?_;rotate_left;(intro w m;(try dsimp only at m);(try go_simp);try rfl);simp only[setS];refine tkD 4 38 (v:=?_) rfl (by kernel_rfl) (fun _ _ _ h=>h) rfl (by rfl) (by assumption) ?_ ?_;rotate_left;(intro w m;(try dsimp only at m);(try go_simp);try rfl);simp only[setS];refine tkD 5 39 (v:=?_) rfl (by kernel_rfl) (fun _ _ _ h=>h) rfl (by rfl) (by assumption) ?_ ?_;rotate_left;(intro w m;(try dsimp only at m);(try go_simp);try rfl);simp only[setS];refine tkD 6 40 (v:=?_) rfl (by kernel_rfl) (fun _ _ _ h=>h) rfl (by rfl) (by assumption) ?_ ?_;rotate_left;(intro w m;(try dsimp only at m);(try go_simp);try rfl);simp only[setS];refine tkD 7 41 (v:=?_) rfl (by kernel_rfl) (fun _ _ _ h=>h) rfl (by rfl) (by assumption) ?_ ?_;rotate_left;(intro w m;(try dsimp only at m);(try go_simp);try rfl);simp only[setS];refine tkD 8 42 (v:=?_) rfl (by kernel_rfl) (fun _ _ _ h=>h) rfl (by rfl) (by assumption) ?_ ?_;rotate_left;(intro w m;(try dsimp only at m);(try go_simp);try rfl);simp only[setS];refine tkD 9 43 (v:=?_) rfl (by kernel_rfl) (fun _ _ _ h=>h) rfl (by rfl) (by assumption) ?_ ?_;rotate_left;(intro w m;(try dsimp only at m);(try go_simp);try rfl);simp only[setS];refine tkD 10 6 (v:=?_) rfl (by kernel_rfl) (fun _ _ _ h=>h) rfl (by rfl) (by assumption) ?_ ?_;rotate_left;(intro w m;(try dsimp only at m);(try go_simp);try rfl);simp only[setS];refine rdyH 11 rfl (fun K hK=>?_);refine step_storeW rfl 45 (.tmp 7) (.tmp 35) rfl g 0 _ 45 #[U Z q.fn,U Z q.addr,U Z q.aF,U Z q.code,U Z q.obj] rfl rfl (hpKeep A (Below.refl _ _).drew) (by simp) aS rfl ?_;intro F R G ad;have z:F.heap[g]?=N (Y #[U Z q.fn,U Z q.addr,U Z q.aF,U Z q.code,U Z q.obj] 45):=R;have L:F.heap[g]?=N (Y #[U Z q.fn,U Z q.addr,U Z q.aF,U Z q.code,U Z q.obj] 45)∧Keeps (· =g) s F:=⟨R,kk.2.trans G (fun _ _ e=>e)⟩
    refine hK.out _ _ L (fun E=>?_);clear hK K E;refine tkD 12 8 (v:=?_) rfl (by kernel_rfl) (fun _ _ _ h=>h) rfl (by rfl) (by assumption) ?_ ?_;rotate_left;(intro w m;(try dsimp only at m);(try go_simp);try rfl);refine tkD 13 9 (v:=?_) rfl (by kernel_rfl) (fun _ _ _ h=>h) rfl (by rfl) (by assumption) ?_ ?_;rotate_left;(intro w m;(try dsimp only at m);(try go_simp);try rfl);refine wpAnyH_done (by kernel_rfl) ?_ _;go_wp2;have q0:=hpCell z 0;have q1:=hpCell z 1;have q2:=hpCell z 2;have q3:=hpCell z 3;have q4:=hpCell z 4;refine bodyPost_ret (v:=.tuple #[U Z u,.agg #[U Z q.fn,U Z q.addr,U Z q.aF,U Z q.code,U Z q.obj],J a6 T c6,.bool true]) (by simp [results,Tryz.results185,go_sem,q0,q1,q2,q3,q4,Eh.out]) rfl ?_;have e:=xW.out;subst e;exact⟨a6,c6,rfl,own_lower (own_keeps B L.2 (fun j hj e=>by have:=(B.lt j hj).1;have:=k5.size;have:=pH.out;have h1:=hpLt AB;omega)) k5.size,k6.trans (L.2.below k6.size (fun j hj e=>by have:=pH.out;omega))⟩
