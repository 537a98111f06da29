import Derived.Test.YtoaoejaodhedaaaGreatT28
import Derived.Test.YtoaoejaodhedaaaGreatT22
namespace Go.Proofs.YtoaoejaodhedaaaGreat
open Go.RowKit
variable {a:At} {z:Bool} {c x:Ch} {D b u v:Int} {sn:List ((Int×Int)×List UInt8)} {p r:List Ch} {l:List Sl} {F f g t:List UInt8} {m n:Nat} {s:Sl}
def Ln.I9 (s:Ln) (x:Ch):Ev:=⟨x.at_,UInt8.ofNat x.val.toNat,(s.ev x).fl⟩
theorem Ln.LZ (s:Ln) (h:Jm x):((s.I9 x).v.toNat:Int)=x.val:=
 au h.v0 h.v1
structure Du where
 n:Ln
 x:Tx
def eE (x:Tx):Bool:=decide (x.ph=2∨x.ph=3∨x.ph=4)
theorem gP (x:Tx):eE x=true↔x.aP:=decide_eq_true_iff
def Du.step (y:Du):Du:=match y.n.pend with
 |[]=>⟨y.n,y.x.bR⟩
 |c::r=>if c.at_≤y.x.til then ⟨y.n.next c r,y.x.ll (y.n.I9 c)⟩ else ⟨y.n,y.x.bR⟩
def lG (p:Int):Nat:=if p=2 then 3 else if p=3 then 2 else if p=4 then 1 else 0
def Du.mu (y:Du):Nat:=y.n.pend.length+lG y.x.ph
def Du.listen:Nat→Du→Du
 |0,y=>y
 |n+1,y=>if eE y.x=true then Du.listen n y.step else y
def Du.heard (y:Du):Du:=Du.listen y.mu y
theorem Tx.Vw {x:Tx} (h:x.aP):lG x.bR.ph<lG x.ph:=by
 unfold Tx.bR;rcases h with h|h|h
 ·rw [if_pos h,h]
  show lG 4<lG 2;decide
 ·rw [if_neg (by omega),if_pos h,h]
  split
  ·show lG 5<lG 3
   decide
  ·show lG 4<lG 3
   decide
 ·rw [if_neg (by omega),if_neg (by omega),h]
  split
  ·show lG 1<lG 4
   decide
  ·show lG 5<lG 4
   decide
theorem Tx.VX (x:Tx) (e:Ev):lG (x.ll e).ph≤lG x.ph:=by
 unfold Tx.ll;split
 ·split
  ·rename_i i
   have d:lG 4≤lG x.ph∧lG 3≤lG x.ph:=by
    rcases i with e|⟨e,-⟩<;>rw[e]<;>decide
   split
   ·exact d.1
   ·exact d.2
  ·exact Nat.le_refl _
 ·exact Nat.le_refl _
theorem Du.ju {y:Du} (h:y.n.pend=[]):y.step=⟨y.n,y.x.bR⟩:=by unfold Du.step;rw[h]
theorem Du.mi {y:Du} (h:y.n.pend=c::r) (d:c.at_≤y.x.til):y.step=⟨y.n.next c r,y.x.ll (y.n.I9 c)⟩:=by
 unfold Du.step;rw[h];exact if_pos d
theorem Du.lL {y:Du} (h:y.n.pend=c::r) (d:¬c.at_≤y.x.til):y.step=⟨y.n,y.x.bR⟩:=by
 unfold Du.step;rw[h];exact if_neg d
theorem Du.uM {y:Du} (h:y.x.aP):y.step.mu<y.mu:=by
 have i:=Tx.Vw h;cases e:y.n.pend with
 |nil=>
  rw[Du.ju e];show y.n.pend.length+lG y.x.bR.ph<y.n.pend.length+lG y.x.ph;omega
 |cons c r=>
  by_cases d:c.at_≤y.x.til
  ·have j:=Tx.VX y.x (y.n.I9 c)
   rw[Du.mi e d];show r.length+lG (y.x.ll (y.n.I9 c)).ph<y.n.pend.length+lG y.x.ph;rw[e,List.length_cons];omega
  ·rw [Du.lL e d]
   show y.n.pend.length+lG y.x.bR.ph<y.n.pend.length+lG y.x.ph;omega
theorem Du.fB {y:Du} (h:eE y.x=false):∀n,Du.listen n y=y
 |0=>rfl
 |n+1=>by
  unfold Du.listen;rw[h];rfl
theorem G9 {p:Int} (h:lG p=0):¬(p=2∨p=3∨p=4):=by
 rintro (e|e|e)<;>subst e<;>exact absurd h (by decide)
theorem Du.BZ {y:Du} (h:y.mu≤0):eE y.x=false:=by
 have d:lG y.x.ph=0:=by unfold Du.mu at h;omega
 exact decide_eq_false (G9 d)
theorem Du.kR {y:Du} (h:eE y.x=true) (n:Nat):Du.listen (n+1) y=Du.listen n y.step:=by
 show (if eE y.x=true then _ else _)=_;rw[if_pos h]
theorem Du.mP:∀(n m:Nat) (y:Du),y.mu≤n→y.mu≤m→Du.listen n y=Du.listen m y
 |0,m,y,h,_=>by rw[Du.fB (Du.BZ h),Du.fB (Du.BZ h)]
 |n+1,m,y,h,h2=>by
  cases hb:eE y.x with
  |false=>rw[Du.fB hb,Du.fB hb]
  |true=>
   have hm:=Du.uM ((gP y.x).1 hb);obtain⟨k,rfl⟩:∃k,m=k+1:=⟨m-1,by omega⟩
   rw[Du.kR hb,Du.kR hb];exact Du.mP n k y.step (by omega) (by omega)
theorem Du.nk {y:Du} (h:eE y.x=false):y.heard=y:=Du.fB h _
theorem Du.cH {y:Du} (h:eE y.x=true):y.step.heard=y.heard:=by
 have hm:=Du.uM ((gP y.x).1 h);rw[show y.heard=Du.listen (y.mu+1) y from Du.mP _ _ y (Nat.le_refl _) (Nat.le_succ _),Du.kR h];exact Du.mP _ _ y.step (Nat.le_refl _) (by omega)
structure ez (x:Tx) (sn:List ((Int×Int)×List UInt8)) (y:Du) (v:Int) (O:Oc) (D:Int):Prop where
 lk:x.pL y.x
 bg:y.x.bg=x.bg
 aA:y.n.aA=sn
 pend:y.n.pend=[]
 free:y.n.free≤y.x.now
 last:y.n.last≤y.x.now
 gI:x.en≤y.x.now
 gh:y.x.now≤D
 nX:v=0→y.x.ph=5∧y.x.out=O
 bad:v≠0→y.x.bad=(x.bad||v==4)∧y.x.late=(x.late||v==5)∧(x.bg≤x.re→y.x.ph=1∧y.x.out=x.out)∧(¬x.bg≤x.re→y.x.ph=5∧y.x.out=⟨if y.x.bad=true then 4 else if y.x.late=true then 5 else 3,Rp.zero⟩)
theorem Tx.DZ {x:Tx} (h:x.ph=4) (e:Ev):∃la,x.ll e={x with last:=la}:=by
 unfold Tx.ll;by_cases c:0≤e.t∧e.t≤x.til∧x.last≤e.t
 ·rw [if_pos c,if_neg (by omega)]
  exact⟨e.t,rfl⟩
 ·rw [if_neg c]
  exact⟨x.last,rfl⟩
theorem Tx.Vn {x:Tx} (h:x.ph=4):x.bR=if x.bg≤x.re then x.again else x.zY:=by
 unfold Tx.bR;rw[if_neg (by omega),if_neg (by omega)]
theorem Tx.FP {x:Tx} (h:x.ph=4):eE x.bR=false:=by
 rw[Tx.Vn h];split
 ·show decide ((1:Int)=2∨(1:Int)=3∨(1:Int)=4)=false
  decide
 ·show decide ((5:Int)=2∨(5:Int)=3∨(5:Int)=4)=false
  decide
theorem Du.cL:∀(l:List Ch) (y:Du),y.n.pend=l→y.x.ph=4→(∀c∈l,c.at_≤y.x.til)→∃i la,y.heard=⟨i,Tx.bR {y.x with last:=la}⟩∧i.pend=[]∧i.aA=y.n.aA∧i.free≤max y.n.free y.x.til∧i.last≤max y.n.last y.x.til
 |[],y,hp,h4,_=>by
  have j:eE y.x=true:=decide_eq_true (.inr (.inr h4));rw[←Du.cH j,Du.ju hp,Du.nk (y:=⟨y.n,y.x.bR⟩) (Tx.FP h4)];exact⟨y.n,y.x.last,rfl,hp,rfl,by omega,by omega⟩
 |c::r,y,hp,h4,hl=>by
  have j:eE y.x=true:=decide_eq_true (.inr (.inr h4));have A:=hl c (List.mem_cons_self ..);rw[←Du.cH j,Du.mi hp A];obtain⟨la,e⟩:=Tx.DZ h4 (y.n.I9 c);rw[e];obtain⟨i,k,G,q,I,C,E⟩:=Du.cL r ⟨y.n.next c r,{y.x with last:=la}⟩ rfl h4 (fun d B=>hl d (List.mem_cons_of_mem _ B));have o:i.free≤max (max y.n.free c.at_) y.x.til:=C;have w:i.last≤max c.at_ y.x.til:=E;exact⟨i,k,G,q,I,by omega,by omega⟩
theorem ez.drain {x:Tx} {y:Du} {O:Oc} (A:v≠0) (lk:x.pL y.x) (bg:y.x.bg=x.bg) (q:y.x.ph=4) (C:∀c∈y.n.pend,c.at_≤y.x.til) (out:y.x.out=x.out) (k:y.x.bad=(x.bad||v==4)) (d:y.x.late=(x.late||v==5)) (free:y.n.free≤y.x.til) (last:y.n.last≤y.x.til) (n0:x.en≤y.x.til) (n1:y.x.til≤D):ez x y.n.aA y.heard v O D:=by
 obtain⟨w,la,B,i,j,E,I⟩:=Du.cL _ y rfl q C;rw[B,Tx.Vn (x:={y.x with last:=la}) q];have f1:w.free≤y.x.til:=by omega
 have f2:w.last≤y.x.til:=by omega
 have G:=lk.re;by_cases o:y.x.bg≤y.x.re
 ·rw [if_pos o]
  exact⟨⟨lk.b,lk.p,lk.re,lk.ti,lk.de,lk.un,lk.q⟩,bg,j,i,f1,f2,n0,n1,fun e=>absurd e A,fun _=>⟨k,d,fun _=>⟨rfl,out⟩,fun e=>absurd (by omega) e⟩⟩
 ·rw [if_neg o]
  exact⟨⟨lk.b,lk.p,lk.re,lk.ti,lk.de,lk.un,lk.q⟩,bg,j,i,f1,f2,n0,n1,fun e=>absurd e A,fun _=>⟨k,d,fun e=>absurd e (by omega),fun _=>⟨rfl,rfl⟩⟩⟩
def vB (c:Ch):UInt8:=UInt8.ofNat c.val.toNat
def dx (c:Ch):Ev:=⟨c.at_,vB c,0⟩
theorem vO {s:Ln} (h:s.last+c.du≤c.at_):s.I9 c=dx c:=by
 have e:(s.ev c).fl=0:=if_neg (fun k=>by have:=k.2;omega);unfold Ln.I9 dx vB;rw[e]
theorem xq (C:Int) (p:List Ch) (a c:Ch):kF C ((p++[a]).map dx++[dx c]) ((p++[a]).map dx).length=if a.at_<c.at_-C then c.at_-C-a.at_ else 0:=by
 have d:((p++[a]).map dx).length=p.length+1:=by simp
 have e:mD ((p++[a]).map dx) p.length=dx a:=by
  have:=jd (p.map dx) (dx a);rw[List.length_map] at this;rw[List.map_append];exact this
 unfold kF;rw[jd,lS (by rw[d];omega),d,Nat.add_sub_cancel,e];rfl
structure ym (x:Tx) (sn:List ((Int×Int)×List UInt8)) (p:List Ch) (a:Ch) (r:List Ch) (z:Bool) (y:Du):Prop where
 lk:x.pL y.x
 bg:y.x.bg=x.bg
 en:y.x.en=x.en
 out:y.x.out=x.out
 bad:y.x.bad=x.bad
 late:y.x.late=x.late
 ph:y.x.ph=3
 ev:y.x.ev=(p++[a]).map dx
 til:y.x.til=a.at_+bq x.b+charT x.b
 last:y.x.last=a.at_
 pend:y.n.pend=r
 aA:y.n.aA=sn
 free:y.n.free≤a.at_
 nl:y.n.last=a.at_
 clr:ic (charT x.b) (ed x.b) y.x.ev=z
theorem ym.on {x:Tx} {a:Ch} {y:Du} (h:ym x sn p a r z y):eE y.x=true:=decide_eq_true (.inr (.inl h.ph))
theorem ym.splits {x:Tx} {sn:List ((Int×Int)×List UInt8)} {p r:List Ch} {a:Ch} {z:Bool} {y:Du} (h:ym x sn p a r z y) (c:Ch) (i:a.at_+charT x.b≤c.at_) (e:0<bq x.b):y.x.splits (dx c)=decide (bq x.b≤c.at_-charT x.b-a.at_):=by
 unfold Tx.splits;rw[h.ev,h.lk.b,xq,decide_eq_true (show 0<((p++[a]).map dx).length by simp),Bool.true_and];by_cases d:a.at_<c.at_-charT x.b
 ·rw [if_pos d]
 ·rw [if_neg d,decide_eq_false (by omega),decide_eq_false (by omega)]
theorem ym.ll {x:Tx} {sn:List ((Int×Int)×List UInt8)} {p r:List Ch} {a c:Ch} {z:Bool} {y:Du} (h:ym x sn p a (c::r) z y) (j:a.at_+charT x.b≤c.at_) (q:c.du=charT x.b) (e:0≤c.at_) (w:c.at_-charT x.b-a.at_≤bq x.b) (k:0≤charT x.b):
  y.step=⟨y.n.next c r,if y.x.splits (dx c)=true then y.x.cut (dx c) else y.x.heard (dx c)⟩:=by
 have A:=h.til;have i:=h.last;have o:=h.nl;rw[Du.mi h.pend (by omega),vO (by omega)];have d:y.x.ll (dx c)=if y.x.splits (dx c)=true then y.x.cut (dx c) else y.x.heard (dx c):=by
  unfold Tx.ll;rw[if_pos ⟨e,(by show c.at_≤_;omega),(by show _≤c.at_;omega)⟩,if_pos (.inl h.ph)]
 rw[d]
theorem ym.next {x:Tx} {a:Ch} {y:Du} (h:ym x sn p a (c::r) z y) (j:a.at_+charT x.b≤c.at_) (o:c.du=charT x.b) (q:0≤c.at_) (C:c.at_-charT x.b-a.at_<bq x.b) (k:0≤charT x.b) (E:0≤ed x.b) (A:p.length<255):
  ∃i,(i=true↔z=true∧c.at_-charT x.b-a.at_≤ed x.b)∧ym x sn (p++[a]) c r i y.step:=by
 rw[h.ll j o q (by omega) k,h.splits c j (by omega),decide_eq_false (by omega),if_neg (by decide)];have w:=h.lk.b;have B:=h.free;refine⟨_,?_,⟨⟨h.lk.b,h.lk.p,h.lk.re,h.lk.ti,h.lk.de,h.lk.un,h.lk.q⟩,h.bg,h.en,h.out,h.bad,h.late,rfl,?_,?_,rfl,rfl,h.aA,?_,rfl,rfl⟩⟩
 ·show ic _ _ (y.x.ev++[dx c])=true↔_
  rw[ku,h.clr,h.ev,xq,decide_eq_true (show 0<((p++[a]).map dx).length by simp),Bool.true_and];have hlen:((p++[a]).map dx).length<256:=by simp;omega
  have f0:gg (dx c).fl 1=0∧gg (dx c).fl 2=0:=by show gg 0 1=0∧gg 0 2=0;decide+kernel
  constructor
  ·rintro ⟨-,e,d,-⟩
   refine⟨e,?_⟩;have d:=of_decide_eq_false d;split at d<;>omega
  ·rintro ⟨e,d⟩
   refine⟨hlen,e,decide_eq_false ?_,f0⟩;split<;>omega
 ·show y.x.ev++[dx c]=_
  rw[h.ev,←List.map_singleton,←List.map_append]
 ·show c.at_+bq y.x.b+charT y.x.b=_
  rw[w]
 ·show max y.n.free c.at_≤c.at_
  omega
def Vz (J:Oc) (v:Int) (O:Oc):Prop:=((J.verdict=1∨J.verdict=2)∧v=0∧O=J)∨(¬(J.verdict=1∨J.verdict=2)∧v=J.verdict∧(v=4∨v=5))
theorem tA (o:Option Rp):(eN o).verdict=1∨(eN o).verdict=2∨(eN o).verdict=4∨(eN o).verdict=5:=by
 unfold eN;cases o with
 |none=>exact .inr (.inr (.inl rfl))
 |some r=>
  dsimp only;split
  ·exact .inr (.inr (.inr rfl))
  ·split
   ·exact .inl rfl
   ·exact .inr (.inl rfl)
theorem tt (iM:List UInt8→Bool) (u:Int) (q:Rq) (f:Int) (l:List UInt8):(aT iM u q f l).verdict=1∨(aT iM u q f l).verdict=2∨(aT iM u q f l).verdict=4∨(aT iM u q f l).verdict=5:=by
 unfold aT;split
 ·split
  ·exact tA _
  ·exact .inr (.inr (.inl rfl))
 ·exact .inr (.inr (.inl rfl))
theorem xt (iM:List UInt8→Bool) (u:Int) (q:Rq) (l:List UInt8):(aT iM u q 1 l).verdict=4:=by
 unfold aT;split
 ·rw [if_neg (fun k=>absurd k.1 (by decide))]
 ·rfl
theorem ym.A7 {x:Tx} {a:Ch} {y:Du} (h:ym x sn p a r z y) (hs:y.step=⟨y.n,y.x.bR⟩) (M:p.length<256) (P:x.en≤a.at_) (K:0≤charT x.b) (C:0≤bq x.b) (D:Int) (A:D=x.en+cu x.b x.ti x.de) (N:a.at_+bq x.b+charT x.b≤D) (q:∀c∈r,c.at_≤D):
  ∃v O,Vz (aT aw x.un x.q (if z=true then 0 else 1) ((p++[a]).map vB)) v O∧(v=0→r=[]→ez x sn y.heard v O D)∧(v≠0→ez x sn y.heard v O D):=by
 have j:y.x.bz=aT aw x.un x.q (if z=true then 0 else 1) ((p++[a]).map vB):=by
  unfold Tx.bz;rw[h.lk.b,h.clr,h.lk.un,h.lk.q,h.ev,List.map_map,List.take_of_length_le (by simp;omega)];rfl
 have E:y.x.bR=if y.x.bz.verdict=1∨y.x.bz.verdict=2 then y.x.nX else y.x.nT:=by
  unfold Tx.bR;rw[if_neg (by have:=h.ph;omega),if_pos h.ph]
 rw[←Du.cH h.on,hs,E,←j];have J:=h.til;have I:=h.free;have L:=h.nl;by_cases d:y.x.bz.verdict=1∨y.x.bz.verdict=2
 ·refine ⟨0,y.x.bz,.inl ⟨d,rfl,rfl⟩,fun _ G=>?_,fun e=>absurd rfl e⟩
  rw[if_pos d,Du.nk (y:=⟨y.n,y.x.nX⟩) (by show decide ((5:Int)=2∨(5:Int)=3∨(5:Int)=4)=false;decide)];refine⟨⟨h.lk.b,h.lk.p,h.lk.re,h.lk.ti,h.lk.de,h.lk.un,h.lk.q⟩,h.bg,h.aA,?_,?_,?_,?_,?_,fun _=>⟨rfl,rfl⟩,fun e=>absurd rfl e⟩
  ·show y.n.pend=[]
   rw[h.pend,G]
  ·show y.n.free≤y.x.til
   omega
  ·show y.n.last≤y.x.til
   omega
  ·show x.en≤y.x.til
   omega
  ·show y.x.til≤D
   omega
 ·have B:y.x.bz.verdict=4∨y.x.bz.verdict=5:=by
   rw[j] at d ⊢;have:=tt aw x.un x.q (if z=true then 0 else 1) ((p++[a]).map vB);omega
  refine⟨y.x.bz.verdict,Oc.zero,.inr ⟨d,rfl,B⟩,fun e=>by omega,fun w=>?_⟩;rw[if_neg d,←h.aA];have o:y.x.aH y.x.til=D:=by
   unfold Tx.aH;rw[h.en,h.lk.b,h.lk.ti,h.lk.de,A];split<;>omega
  refine ez.drain (y:=⟨y.n,y.x.nT⟩) w ⟨h.lk.b,h.lk.p,h.lk.re,h.lk.ti,h.lk.de,h.lk.un,h.lk.q⟩ h.bg rfl ?_ h.out ?_ ?_ ?_ ?_ ?_ ?_
  ·intro c i
   show c.at_≤y.x.aH y.x.til;rw[o];have k:c∈y.n.pend:=i;rw[h.pend] at k;exact q c k
  ·show (y.x.bad||y.x.bz.verdict==4)=_
   rw[h.bad]
  ·show (y.x.late||y.x.bz.verdict==5)=_
   rw[h.late]
  ·show y.n.free≤y.x.aH y.x.til
   omega
  ·show y.n.last≤y.x.aH y.x.til
   omega
  ·show x.en≤y.x.aH y.x.til
   omega
  ·show y.x.aH y.x.til≤D
   omega
def Steps (C:Int):Ch→List Ch→Prop
 |_,[]=>True
 |a,c::r=>a.at_+C≤c.at_∧c.du=C∧Steps C c r
def rZ (C t15:Int):Ch→List Ch→Prop
 |_,[]=>True
 |a,c::r=>c.at_-C-a.at_≤t15∧rZ C t15 c r
def sW (x:Tx) (bs:List UInt8) (z:Bool) (v:Int) (O:Oc):Prop:=(z=true∧Vz (aT aw x.un x.q 0 bs) v O)∨(z=false∧v=4)
theorem ym.all {x:Tx} {sn:List ((Int×Int)×List UInt8)} (w:0≤charT x.b) (P:0≤ed x.b) (K:ed x.b<bq x.b) (D:Int) (E:D=x.en+cu x.b x.ti x.de) (X:0≤x.en):∀(r p:List Ch) (a:Ch) (z:Bool) (y:Du),ym x sn p a r z y→(p++[a]++r).length≤256→x.en≤a.at_→a.at_+bq x.b+charT x.b≤D→(∀c∈r,c.at_+bq x.b+charT x.b≤D)→Steps (charT x.b) a r→
  (∀I B G L,p++[a]++r=I++[B]++G::L→bq x.b<G.at_-charT x.b-B.at_→∀f,(aT aw x.un x.q f ((I++[B]).map vB)).verdict=4)→
  ∃v O q,ez x sn y.heard v O D∧sW x ((p++[a]++r).map vB) q v O∧(rZ (charT x.b) (ed x.b) a r→q=z)
 |[],p,a,z,y,h,hlen,he,Wo,_,_,_=>by
  obtain⟨v,O,A,j2,M⟩:=h.A7 (Du.ju h.pend) (by simp at hlen;omega) he w (by omega) D E Wo (fun c hc=>by cases hc);refine⟨v,O,z,?_,?_,fun _=>rfl⟩
  ·by_cases N:v=0
   ·exact j2 N rfl
   ·exact M N
  ·rw [List.append_nil]
   cases z with
   |true=>exact .inl ⟨rfl,A⟩
   |false=>
    refine .inr ⟨rfl,?_⟩;have e:(if false=true then (0:Int) else 1)=1:=rfl;rw[e] at A;have k:=xt aw x.un x.q ((p++[a]).map vB);rcases A with⟨j,-⟩|⟨-,j,-⟩<;>omega
 |c::r,p,a,z,y,h,hlen,he,Wo,hr,hst,Le=>by
  obtain⟨s1,s2,Y⟩:=hst;have J:=hr c (List.mem_cons_self ..);have T:p.length<255:=by simp at hlen;omega
  by_cases hg:c.at_-charT x.b-a.at_<bq x.b
  ·obtain ⟨q,Q,hn⟩:=h.next s1 s2 (by omega) hg w P T
   obtain⟨v,O,Z,r1,r2,R⟩:=ym.all w P K D E X r (p++[a]) c q y.step hn (by simpa using hlen) (by omega) J (fun d o=>hr d (List.mem_cons_of_mem _ o)) Y (fun I B G L e=>Le I B G L (by rw[←e];simp));refine⟨v,O,Z,by rw[←Du.cH h.on];exact r1,by simpa using r2,fun C=>?_⟩;rw[R C.2];have W:=C.1;cases z with
   |true=>exact Q.2 ⟨rfl,W⟩
   |false=>cases q with
    |false=>rfl
    |true=>exact(Q.1 rfl).1.symm
  ·have i:rZ (charT x.b) (ed x.b) a (c::r)→false=z:=fun C=>by have:=C.1;omega
   by_cases V:c.at_-charT x.b-a.at_≤bq x.b
   ·refine ⟨4,Oc.zero,false,?_,.inr ⟨rfl,rfl⟩,i⟩
    rw[←Du.cH h.on,h.ll s1 s2 (by omega) V w,h.splits c s1 (by omega),decide_eq_true (by omega),if_pos rfl];have hf:=h.free;have BT:y.x.aH c.at_=D:=by
     unfold Tx.aH;rw[h.en,h.lk.b,h.lk.ti,h.lk.de,E];split<;>omega
    have S:sn=(y.n.next c r).aA:=h.aA.symm;rw[S];refine ez.drain (y:=⟨y.n.next c r,y.x.cut (dx c)⟩) (by decide) ⟨h.lk.b,h.lk.p,h.lk.re,h.lk.ti,h.lk.de,h.lk.un,h.lk.q⟩ h.bg rfl ?_ h.out ?_ ?_ ?_ ?_ ?_ ?_
    ·intro d o
     show d.at_≤y.x.aH c.at_;have:=hr d (List.mem_cons_of_mem _ o);omega
    ·show true=(x.bad||(4:Int)==4)
     rw[Bool.or_comm];rfl
    ·show y.x.late=(x.late||(4:Int)==5)
     rw[h.late];exact(Bool.or_false _).symm
    ·show max y.n.free c.at_≤y.x.aH c.at_
     omega
    ·show c.at_≤y.x.aH c.at_
     omega
    ·show x.en≤y.x.aH c.at_
     omega
    ·show y.x.aH c.at_≤D
     omega
   ·have e1:=h.til
    obtain⟨v,O,A,-,M⟩:=h.A7 (Du.lL h.pend (by omega)) (by omega) he w (by omega) D E Wo (fun d o=>by have:=hr d o;omega);have hv:=Le p a c r rfl (by omega) (if z=true then 0 else 1);have U:v=4:=by
     rcases A with⟨j,-⟩|⟨-,j,-⟩<;>omega
    exact⟨v,O,false,M (by omega),.inr ⟨rfl,U⟩,i⟩
theorem xE {x:Tx} {n:Ln} (J:aU x.b x.p) (q:x.ph=2) (I:x.ev=[]) (DT:x.til=x.en+bq x.b+x.ti+charT x.b) (S:0≤x.en) (gp:x.last≤x.en) (nW:0≤x.ti) (mz:0≤x.de) (D:Int) (A:D=x.en+cu x.b x.ti x.de) (hf:n.free≤x.en) (T9:n.last≤x.en) (hlen:n.pend.length≤256)
  (k:∀c∈n.pend,x.en+charT x.b≤c.at_∧c.at_+bq x.b+charT x.b≤D) (o:∀c r,n.pend=c::r→c.du=charT x.b∧Steps (charT x.b) c r)
  (V:∀N G C M,n.pend=N++[G]++C::M→bq x.b<C.at_-charT x.b-G.at_→∀f,(aT aw x.un x.q f ((N++[G]).map vB)).verdict=4):
  ∃v O,ez x n.aA (Du.mk n x).heard v O D∧((v=3∧∀c r,n.pend=c::r→x.til<c.at_)∨∃c r z,n.pend=c::r∧c.at_≤x.til∧sW x (n.pend.map vB) z v O∧(rZ (charT x.b) (ed x.b) c r→z=true)):=by
 obtain⟨t1,t2,t3,t4,t5,t6⟩:=bV J;have B:ed x.b<bq x.b:=by
  unfold ed bq KE;have:=J.bd;split
  ·omega
  ·have R:(0:Int)<x.b:=by omega
   have h2:(16500000+x.b-1)/x.b*x.b≤16500000+x.b-1:=Int.ediv_mul_le _ (by omega);have Y:38500000+x.b-1<((38500000+x.b-1)/x.b+1)*x.b:=Int.lt_ediv_add_one_mul_self _ R;rcases Int.lt_or_le ((16500000+x.b-1)/x.b) ((38500000+x.b-1)/x.b) with E|E
   ·exact E
   ·exfalso
    have h5:(38500000+x.b-1)/x.b*x.b≤(16500000+x.b-1)/x.b*x.b:=Int.mul_le_mul_of_nonneg_right E (by omega);rw[Int.add_mul] at Y;omega
 have w:eE x=true:=decide_eq_true (.inl q);have K:x.bR=x.waited:=by unfold Tx.bR;rw[if_pos q]
 have Z:D=x.en+(2*bq x.b+x.ti+x.de+257*charT x.b):=A;have BT:x.aH x.til=D:=by
  unfold Tx.aH;rw[←A];split<;>omega
 have L:∀O,ez x n.aA (Du.mk n x.waited).heard 3 O D:=fun O=>by
  refine ez.drain (y:=⟨n,x.waited⟩) (by decide) ⟨rfl,rfl,rfl,rfl,rfl,rfl,rfl⟩ rfl rfl ?_ rfl (Bool.or_false _).symm (Bool.or_false _).symm ?_ ?_ ?_ ?_
  ·intro c i
   show c.at_≤x.aH x.til;have:=(k c i).2;omega
  ·show n.free≤x.aH x.til
   omega
  ·show n.last≤x.aH x.til
   omega
  ·show x.en≤x.aH x.til
   omega
  ·show x.aH x.til≤D
   omega
 cases hp:n.pend with
 |nil=>
  refine⟨3,Oc.zero,?_,.inl ⟨rfl,fun c r e=>by cases e⟩⟩;rw[←Du.cH (y:=⟨n,x⟩) w,Du.ju (y:=⟨n,x⟩) hp];show ez x n.aA (Du.mk n x.bR).heard 3 _ D;rw[K];exact L _
 |cons c r=>
  obtain⟨b1,b2⟩:=k c (by rw[hp];exact List.mem_cons_self ..);obtain⟨d1,d2⟩:=o c r hp;by_cases i:c.at_≤x.til
  ·have U:(Du.mk n x).step=⟨n.next c r,x.heard (dx c)⟩:=by
    rw[Du.mi (y:=⟨n,x⟩) hp i];show Du.mk (n.next c r) (x.ll (n.I9 c))=_;rw[vO (by omega)];have e:x.ll (dx c)=x.heard (dx c):=by
     unfold Tx.ll Tx.splits;rw[I,if_pos ⟨(by show 0≤c.at_;omega),i,(by show _≤c.at_;omega)⟩,if_pos (.inr ⟨q,(by show _<c.at_;omega)⟩)];rfl
    rw[e]
   have T:ym x n.aA [] c r true (Du.mk n x).step:=by
    rw[U];refine⟨⟨rfl,rfl,rfl,rfl,rfl,rfl,rfl⟩,rfl,rfl,rfl,rfl,rfl,rfl,?_,rfl,rfl,rfl,rfl,?_,rfl,?_⟩
    ·show x.ev++[dx c]=_
     rw[I];rfl
    ·show max n.free c.at_≤c.at_
     omega
    ·show ic _ _ (x.ev++[dx c])=true
     rw[I,ku];refine⟨by decide,rfl,rfl,?_⟩;show gg 0 1=0∧gg 0 2=0;decide+kernel
   have j:=V;rw[hp] at j hlen;obtain⟨v,O,z,X,W,P⟩:=ym.all (by omega) (by omega) B D A S r [] c true _ T hlen (by omega) b2 (fun d Q=>(k d (by rw[hp];exact List.mem_cons_of_mem _ Q)).2) d2 j;exact⟨v,O,by rw[←Du.cH (y:=⟨n,x⟩) w];exact X,.inr ⟨c,r,z,rfl,i,W,P⟩⟩
  ·refine ⟨3,Oc.zero,?_,.inl ⟨rfl,fun C M e=>by cases e;omega⟩⟩
   rw[←Du.cH (y:=⟨n,x⟩) w,Du.lL (y:=⟨n,x⟩) hp i];show ez x n.aA (Du.mk n x.bR).heard 3 _ D;rw[K];exact L _
theorem nb {l:List Sl} {n:Nat} {s:Sl} (h:l[n]?=some s):∀k,n<k→n∈bF l s.bd s.pa s.un k
 |0,hk=>absurd hk (Nat.not_lt_zero _)
 |k+1,hk=>by
  show n∈bF l s.bd s.pa s.un k++_;by_cases e:n=k
  ·subst e
   refine List.mem_append_right _ ?_;rw[h];dsimp only;have hm:nZ s.bd s.pa s.un s=true:=by unfold nZ;simp
   rw[if_pos hm];exact List.mem_singleton.2 rfl
  ·exact List.mem_append_left _ (nb h k (by omega))
theorem BY (h:l[n]?=some s):bF l s.bd s.pa s.un l.length≠[]:=fun e=>by
 have:=nb h l.length (List.getElem?_eq_some_iff.1 h).1;rw[e] at this;cases this
theorem Cc (e:cW l) (h:l[n]?=some s) {q:Rq} (i:q.ok=true) (w:¬(a.fault=1∨a.fault=2)):5≤(dL l a s.bd s.pa (aO s.un q)).length:=by
 have j:=e.2 s (List.mem_of_getElem? h);have d:=fh l s.bd s.pa j.un.1 j.un.2 i;rw[if_neg (BY h)] at d;have k:=fun x=>(lI e d x).1
 have o:∀x,5≤((cI l s.bd s.pa (aO s.un q) x).getD []).length:=fun x=>by
  unfold cI;rw[d];exact k x
 unfold dL;rw[if_neg w];split
 ·unfold dC
  rw[d];show 5≤(if _ then _ else _:List UInt8).length;split
  ·exact (df s.un (eS (gO i) (by decide) (by decide))).1
  ·exact k 0
 ·split
  ·rw [wN]
   exact o _
  ·exact o _
theorem mZ (f:List UInt8) {p:Nat} (i:p<f.length) (hm:m<256) (k:Nat):jb (dy f p m) k=(jb f k^^(decide (k/8=p)&&m.testBit (k%8))):=by
 unfold jb dy;by_cases e:k/8=p
 ·rw [decide_eq_true e,Bool.true_and,e]
  have d:(f.set p (f.getD p 0^^^UInt8.ofNat m)).getD p 0=f.getD p 0^^^UInt8.ofNat m:=by simp [List.getD_eq_getElem?_getD,i]
  rw[d,UInt8.toNat_xor,Nat.testBit_xor];have j:(UInt8.ofNat m).toNat=m:=by simp;omega
  rw[j]
 ·rw [decide_eq_false e,Bool.false_and,Bool.xor_false]
  have d:(f.set p (f.getD p 0^^^UInt8.ofNat m)).getD (k/8) 0=f.getD (k/8) 0:=by simp [List.getD_eq_getElem?_getD,Ne.symm e]
  rw[d]
theorem JE:∀m,m<256→m≠0→∃t,t<8∧m.testBit t=true∧∀u,u<t→m.testBit u=false:=by
 intro m hm e;have H:∀m:Fin 256,m.val≠0→∃t:Fin 8,m.val.testBit t.val=true∧∀u:Fin 8,u.val<t.val→m.val.testBit u.val=false:=by decide+kernel
 obtain⟨t,d,i⟩:=H ⟨m,hm⟩ e;exact⟨t.val,t.isLt,d,fun u hu=>i ⟨u,by have:=t.isLt;omega⟩ hu⟩
theorem BP (q:aw f=true) (j:g.length=f.length) {p m1 m2:Nat} (C:p<f.length) (B:m1≠0) (w:m1<256)
  (A:∀k,jb g k=(jb f k^^((decide (k/8=p)&&m1.testBit (k%8))^^(decide (k/8=p+1)&&m2.testBit (k%8))))):aw g=false:=by
 obtain⟨t,t1,t2,t3⟩:=JE m1 w B;refine JA f g (fun k=>(decide (k/8=p)&&m1.testBit (k%8))^^(decide (k/8=p+1)&&m2.testBit (k%8))) j ((tq f).1 q).2 (fun k _=>A k) (Hh _ (8*p+t) _ (by omega) (fun k o=>?_) ?_ (fun k o=>?_))
 ·by_cases e:k/8=p
  ·have i:=t3 (k%8) (by omega)
   have d:¬k/8=p+1:=by omega
   simp only[i,decide_eq_false d,Bool.and_false,Bool.false_and,Bool.xor_self]
  ·have d:¬k/8=p+1:=by omega
   simp only[decide_eq_false e,decide_eq_false d,Bool.false_and,Bool.xor_self]
 ·have i:(8*p+t)/8=p:=by omega
  have d:(8*p+t)%8=t:=by omega
  have y:¬p=p+1:=by omega
  simp only[i,d,t2,decide_eq_false y,decide_true,Bool.false_and,Bool.and_true,Bool.xor_false]
 ·have i:¬k/8=p:=by omega
  have d:¬k/8=p+1:=by omega
  simp only[decide_eq_false i,decide_eq_false d,Bool.false_and,Bool.xor_self]
theorem Bb (i:aw f=true) {p:Nat} (d:p<f.length) (j:m≠0) (e:m<256):aw (dy f p m)=false:=
 BP (m2:=0) i (cR _ _ _) d j e fun k=>by
  rw[mZ f d e,Nat.zero_testBit,Bool.and_false,Bool.xor_false]
theorem Mb (e:aw f=true) {p:Nat} (i:p+1<f.length) (j:m≠0) (d:m<256) (o:n<256):aw (dy (dy f p m) (p+1) n)=false:=
 BP (p:=p) (m1:=m) (m2:=n) e (by rw[cR,cR]) (by omega) j d fun k=>by
  rw[mZ _ (by rw[cR];exact i) o,mZ f (by omega) d,Bool.xor_assoc]
theorem Gc (e:aw f=true) (k:0<f.length) (q:1≤a.mask) (w:a.mask≤65535) (y:a.mask%256≠0):aw (qw a f)=false:=by
 have j:a.pos.toNat%f.length<f.length:=Nat.mod_lt _ k;have i:a.mask.toNat%256≠0:=by omega
 have d:a.mask.toNat%256<256:=Nat.mod_lt _ (by decide);have o:a.mask.toNat/256<256:=by omega
 unfold qw;split
 case isTrue h=>exact Mb e h i d o
 case isFalse h=>exact Bb e j i d
theorem CW (d:aw f=true) (e:0<f.length):aw (eH f)=false:=
 Bb (p:=f.length-1) (m:=255) d (by omega) (by decide) (by decide)
theorem jo (u:Int) (rp:Rp):aw (aD u rp)=true:=wC _
theorem kq (u1:1≤u) (u2:u≤247) {rp:Rp} (h:rp.ok=true):bk aw (aD u rp)=some (u,rp.bE):=by
 obtain⟨n1,j⟩:=df u h;have k:(aD u rp).getD 0 0=UInt8.ofNat u.toNat:=rfl;have e:=NN u1 u2;unfold bk;rw[k,e,if_pos ⟨by omega,j,jo u rp,u1,u2⟩];have i:(aD u rp).length=rp.bE.length+3:=bp _ _;have d:(List.take ((aD u rp).length-2) (aD u rp)).drop 1=rp.bE:=by
  rw[i];show List.drop 1 (List.take (rp.bE.length+3-2) ((UInt8.ofNat u.toNat::rp.bE)++bM (UInt8.ofNat u.toNat::rp.bE)))=_;rw[List.take_append_of_le_length (by simp),List.take_of_length_le (by simp)];rfl
 rw[d]
theorem pd (J:cW l) (h:l[n]?=some s) {q:Rq} (G:q.ok=true) (Q:a.ok) (O:¬(a.fault=1∨a.fault=2)):
  if 1<(bF l s.bd s.pa s.un l.length).length∨a.fault=3 then aw (dL l a s.bd s.pa (aO s.un q))=false
  else bk aw (dL l a s.bd s.pa (aO s.un q))=some (s.un,(if a.fault=5 then jR q.fn 6 [] else s.cC q a.value).bE):=by
 have i:=J.2 s (List.mem_of_getElem? h);have I:=fh l s.bd s.pa i.un.1 i.un.2 G;have A:=BY h;rw[if_neg A] at I;have R:=nb h l.length (List.getElem?_eq_some_iff.1 h).1;generalize hm:bF l s.bd s.pa s.un l.length=ms at*;unfold dL sN dC cI;rw[if_neg O,I];show if 1<ms.length∨a.fault=3 then aw (if a.fault=5 then (if ms.length=1 then aD s.un (jR q.fn 6 []) else fZ l 0 (s.un,q,ms)) else if a.fault=3∧decide (ms.length=1)=true then qw a (fZ l a.value (s.un,q,ms)) else fZ l a.value (s.un,q,ms))=false
  else bk aw (if a.fault=5 then (if ms.length=1 then aD s.un (jR q.fn 6 []) else fZ l 0 (s.un,q,ms)) else if a.fault=3∧decide (ms.length=1)=true then qw a (fZ l a.value (s.un,q,ms)) else fZ l a.value (s.un,q,ms))=_
 have hlen:0<ms.length:=List.length_pos_iff.2 A;have M:∀j∈ms,∃t,l[j]?=some t∧t.val:=fun j y=>by
  rw[←hm] at y;obtain⟨t,d,-⟩:=fu y;exact⟨t,d,J.2 t (List.mem_of_getElem? d)⟩
 cases ms with
 |nil=>exact absurd rfl A
 |cons j ms=>
  obtain⟨t,d,C⟩:=M j List.mem_cons_self;have B:∀x,(t.cC q x).ok=true:=fun x=>Sl.ji C G x
  by_cases E:ms=[]
  ·subst E
   have y:n=j:=by simpa using R
   subst y;rw[h] at d;injection d with d
   subst d;have k:∀x,fZ l x (s.un,q,[n])=aD s.un (s.cC q x):=fun x=>by
    show (match l[n]? with|none=>[]|some s'=>if ([]:List Nat)=[] then aD s.un (s'.cC q x) else _)=_;rw[h];rfl
   rw[k,k];by_cases w:a.fault=3
   ·rw [if_pos (Or.inr w),if_neg (by omega),if_pos ⟨w,rfl⟩]
    obtain⟨m1,m2,N⟩:1≤a.mask∧a.mask≤65535∧a.mask%256≠0:=by
     have:=Q.2.2.2.2.2.2;omega
    exact Gc (jo _ _) (by have:=(df s.un (B a.value)).1;omega) m1 m2 N
   ·rw [if_neg (by intro e;rcases e with e|e;exact absurd e (Nat.lt_irrefl 1);exact w e)]
    by_cases o:a.fault=5
    ·rw [if_pos o,if_pos o,if_pos (show [n].length=1 from rfl)]
     exact kq i.un.1 i.un.2 (eS (gO G) (by decide) (by decide))
    ·rw [if_neg o,if_neg o,if_neg (fun e=>w e.1)]
     exact kq i.un.1 i.un.2 (B a.value)
  ·have P:1<(j::ms).length:=by
    have:=List.length_pos_iff.2 E;show 1<ms.length+1;omega
   have k:∀x,fZ l x (s.un,q,j::ms)=eH (aD s.un (t.cC q x)):=fun x=>by
    show (match l[j]? with|none=>[]|some s'=>if ms=[] then aD s.un (s'.cC q x) else eH (aD s.un (s'.cC q x)))=_;rw[d];show (if ms=[] then _ else _)=_;rw[if_neg E]
   have L:∀x,aw (eH (aD s.un (t.cC q x)))=false:=fun x=>CW (jo _ _) (by have:=(df s.un (B x)).1;omega)
   have K:¬(j::ms).length=1:=by omega
   rw[if_pos (Or.inl P),k,k,if_neg K,decide_eq_false K,if_neg (fun e:a.fault=3∧false=true=>by cases e.2)];split<;>exact L _
theorem dh {a:Int} (h:byteI a=byteI b) (a0:0≤a) (a1:a≤255) (b0:0≤b) (b1:b≤255):a=b:=by
 rw[←au a0 a1,←au b0 b1,h]
theorem BQ:∀(k l:List Ob) (t:List UInt8),k.length=l.length→(∀x∈k,x.val.length≤255)→(∀x∈l,x.val.length≤255)→aN k++t=aN l→t=[]
 |[],[],t,_,_,_,h=>by simpa [aN] using h
 |[],_::_,_,h,_,_,_=>by cases h
 |_::_,[],_,h,_,_,_=>by cases h
 |x::k,y::l,t,h,hk,hl,he=>by
  have o:=hk x (List.mem_cons_self ..);have q:=hl y (List.mem_cons_self ..);have d:byteI x.id::byteI x.val.length::(x.val++(aN k++t))=byteI y.id::byteI y.val.length::(y.val++aN l):=by
   rw[←List.append_assoc];exact he
  injection d with _ d
  injection d with j d
  have hlen:=dh j (by omega) (by omega) (by omega) (by omega);obtain⟨-,i⟩:=List.append_inj d (by omega);exact BQ k l t (by simpa using h) (fun z e=>hk z (List.mem_cons_of_mem _ e)) (fun z e=>hl z (List.mem_cons_of_mem _ e)) i
theorem oB {r:Rp} (d:1≤r.ar):r.bE=[byteI (r.fn+128),byteI r.ar]:=by unfold Rp.bE;rw[if_neg (by omega)]
theorem js {r:Rp} (e:r.fn≠43) (h:r=Rp.eP r.fn r.data):r.bE=byteI r.fn::byteI r.data.length::r.data:=by
 have d:r.ar=0:=by rw[h];rfl
 unfold Rp.bE;rw[if_pos d,if_neg e]
theorem oF {r:Rp} (e:r.fn=43) (d:r.ar=0):r.bE=fb r++aN r.ag:=by unfold Rp.bE;rw[if_pos d,if_pos e]
theorem KU {r s:Rp} (E:r.ok=true) (hs:s.ok=true) (h:r.bE++t=s.bE):t=[]:=by
 have B:∀{n:Nat},r.bE.length=n→s.bE.length=n→t=[]:=fun {n} o y=>by
  have:=congrArg List.length h;rw[List.length_append,o,y] at this;exact List.eq_nil_of_length_eq_zero (by omega)
 rcases jB E with⟨q,a1,w,C⟩|⟨q,a0,a1,w,C⟩|⟨a0,a1,w⟩
 ·have f1:=dd q
  have d:=oB a1;rcases jB hs with⟨j,b1,b2,e⟩|⟨j,b0,b1,b2,e⟩|⟨b0,b1,b2⟩
  ·exact B (n:=2) (by rw[d];rfl) (by rw[oB b1];rfl)
  ·have f2:=dd j
   rw[d,js b0 e] at h;injection h with h
   have:=dh h (by omega) (by omega) (by omega) (by omega);omega
  ·rw [d,oF b0 b1] at h
   injection h with h
   have k:byteI (r.fn+128)=byteI 43:=h;have:=dh k (by omega) (by omega) (by omega) (by omega);omega
 ·have f1:=dd q
  have d:=js a0 C;rcases jB hs with⟨j,b1,b2,e⟩|⟨j,b0,b1,b2,e⟩|⟨b0,b1,b2⟩
  ·have f2:=dd j
   rw[d,oB b1] at h;injection h with h
   have:=dh h (by omega) (by omega) (by omega) (by omega);omega
  ·rw [d,js b0 e] at h
   have I:=js b0 e;injection h with _ h
   injection h with h _
   have:=dh h (by omega) (by omega) (by omega) (by omega);exact B (n:=r.data.length+2) (by rw[d];rfl) (by rw[I];show s.data.length+2=_;omega)
  ·rw [d,oF b0 b1] at h
   injection h with h
   have k:byteI r.fn=byteI 43:=h;have:=dh k (by omega) (by omega) (by omega) (by omega);omega
 ·have d:=oF a0 a1
  rcases jB hs with⟨j,b1,b2,e⟩|⟨j,b0,b1,b2,e⟩|⟨b0,b1,b2⟩
  ·have f2:=dd j
   rw[d,oB b1] at h;injection h with h
   have k:byteI 43=byteI (s.fn+128):=h;have:=dh k (by omega) (by omega) (by omega) (by omega);omega
  ·have f2:=dd j
   rw[d,js b0 e] at h;injection h with h
   have k:byteI 43=byteI s.fn:=h;have:=dh k (by omega) (by omega) (by omega) (by omega);omega
  ·rw [d,oF b0 b1,List.append_assoc] at h
   obtain⟨o,y⟩:=List.append_inj h rfl;obtain⟨-,-,-,-,G⟩:=m9 w;obtain⟨-,-,-,-,o2⟩:=m9 b2;obtain⟨m1,-,v1⟩:=jr G;obtain⟨m2,-,v2⟩:=jr o2;unfold fb at o;simp only[List.cons.injEq,and_true,true_and] at o;have J:=dh o.2.2.2.2 (by omega) (by omega) (by omega) (by omega);refine BQ r.ag s.ag t (by omega) (fun x A=>?_) (fun x A=>?_) y
   ·obtain ⟨i,hi⟩:=List.getElem?_of_mem A
    have:=(v1 i x hi).2.2;omega
   ·obtain ⟨i,hi⟩:=List.getElem?_of_mem A
    have:=(v2 i x hi).2.2;omega
def yW (F:List UInt8):Prop:=∃u rp,rp.ok=true∧(F=aD u rp∨F=eH (aD u rp))
theorem DI (h:yW F) (hm:m<F.length) (u:Int) (q:Rq) (f:Int):(aT aw u q f (F.take m)).verdict=4:=by
 obtain⟨d,rp,k,hF⟩:=h;have K:F.length=rp.bE.length+3:=by
  rcases hF with rfl|rfl
  ·exact bp _ _
  ·rw [jF]
   exact bp _ _
 have A:F.take m=(aD d rp).take m:=by
  rcases hF with rfl|rfl
  ·rfl
  ·have L:=jF (aD d rp)
   unfold eH;refine List.ext_getElem? fun i=>?_
   rw[List.getElem?_take,List.getElem?_take];split
   ·rw [List.getElem?_set]
    rw[if_neg (by omega)]
   ·rfl
 rw[A];have B:((aD d rp).take m).length=m:=by
  rw[List.length_take];have:(aD d rp).length=rp.bE.length+3:=bp _ _;omega
 unfold aT;cases hs:bk aw ((aD d rp).take m) with
 |none=>rfl
 |some y=>
  obtain⟨w,p⟩:=y;dsimp only;unfold bk at hs;split at hs
  ·rename_i I
   injection hs with hs
   injection hs with _ j
   rw[B] at j I;have E:p=rp.bE.take (m-3):=by
    rw[←j,List.take_take];show List.drop 1 (List.take _ ((UInt8.ofNat d.toNat::rp.bE)++bM (UInt8.ofNat d.toNat::rp.bE)))=_;rw[List.take_append_of_le_length (by show min (m-2) m≤rp.bE.length+1;omega),show min (m-2) m=(m-3)+1 by omega];rfl
   have C:Rp.dec p=none:=by
    cases hd:Rp.dec p with
    |none=>rfl
    |some r'=>
     obtain⟨o,G⟩:=EX hd;have:=KU o k (t:=rp.bE.drop (m-3)) (by rw[G,E,List.take_append_drop]);have e:=congrArg List.length this;rw[List.length_drop] at e;have M:rp.bE.length- (m-3)=0:=e;omega
   have J:eg q p=none:=by unfold eg;rw[C];split<;>rfl
   rw[J];split<;>rfl
  ·cases hs
theorem yx (o:cW l) (B:a.fault=6) {bd pa:Int} (u1:1≤u) (u2:u≤247) {q:Rq} (d:q.ok=true):dL l a bd pa (aO u q)=[]∨yW (dL l a bd pa (aO u q)):=by
 have w:=fh l bd pa u1 u2 d;unfold dL cI;rw[if_neg (by omega),if_neg (by omega),if_neg (by omega),w];by_cases hm:bF l bd pa u l.length=[]
 ·rw [if_pos hm]
  exact .inl rfl
 ·rw [if_neg hm]
  show fZ l a.value (u,q,bF l bd pa u l.length)=[]∨_;generalize A:bF l bd pa u l.length=ms at*;cases ms with
  |nil=>exact absurd rfl hm
  |cons j ms=>
   obtain⟨t,i,-⟩:=fu (l:=l) (bd:=bd) (pa:=pa) (un:=u) (k:=l.length) (j:=j) (by rw[A];exact List.mem_cons_self);have y:=o.2 t (List.mem_of_getElem? i);have e:fZ l a.value (u,q,j::ms)=if ms=[] then aD u (t.cC q a.value) else eH (aD u (t.cC q a.value)):=by
    show (match l[j]? with|none=>[]|some s'=>if ms=[] then aD u (s'.cC q a.value) else eH (aD u (s'.cC q a.value)))=_;rw[i]
   right;show yW (fZ l a.value (u,q,j::ms));rw[e];refine⟨u,t.cC q a.value,Sl.ji y d _,?_⟩;split
   ·exact .inl rfl
   ·exact .inr rfl
theorem rW (C st:Int) (a:At) (R:List UInt8) (k:Nat):chsN C st a R (k+1)=eL C st a 0 (R.getD 0 0)::(List.range' 1 k).map fun i=>eL C st a i (R.getD i 0):=by
 unfold chsN;rw[List.range_eq_range',List.range'_succ];rfl
theorem pK (C st:Int) (a:At) (i:Nat) (x y:UInt8):(eL C st a (i+1) y).at_-C- (eL C st a i x).at_=if a.fault=6∧a.pos=((i:Int)+1) then a.ai else 0:=by
 unfold eL;dsimp only;have o:(((i+1:Nat):Int)+1)*C=((i:Int)+1)*C+C:=by
  rw[show (((i+1:Nat):Int)+1)=((i:Int)+1)+1 by omega,Int.add_mul,Int.one_mul]
 rw[o];generalize ((i:Int)+1)*C=X;by_cases d:a.fault=6
 ·by_cases e:a.pos=(i:Int)+1
  ·rw [if_pos ⟨d,by omega⟩,if_neg (by omega),if_pos ⟨d,e⟩]
   omega
  ·rw [show (if a.fault=6∧a.pos=(i:Int)+1 then a.ai else 0)=0 from if_neg (fun k=>e k.2)]
   by_cases j:a.pos≤(i:Int)
   ·rw [if_pos ⟨d,by omega⟩,if_pos ⟨d,j⟩]
    omega
   ·rw [if_neg (by omega),if_neg (by omega)]
    omega
 ·rw [if_neg (fun k=>d k.1),if_neg (fun k=>d k.1),if_neg (fun k=>d k.1)]
  omega
theorem xe {C st:Int} {a:At} (d:0≤a.ai) (R:List UInt8):∀(m i:Nat),Steps C (eL C st a i (R.getD i 0)) ((List.range' (i+1) m).map fun j=>eL C st a j (R.getD j 0))
 |0,_=>True.intro
 |m+1,i=>by
  rw[List.range'_succ];refine⟨?_,rfl,xe d R m (i+1)⟩;have h:=pK C st a i (R.getD i 0) (R.getD (i+1) 0);show _+C≤(eL C st a (i+1) (R.getD (i+1) 0)).at_;split at h<;>omega
theorem Bo (C st:Int) (a:At) (R:List UInt8):(chsN C st a R R.length).map vB=R:=by
 unfold chsN;rw[List.map_map];refine List.ext_getElem? fun i=>?_
 rw[List.getElem?_map];by_cases hi:i<R.length
 ·rw [List.getElem?_range hi,List.getElem?_eq_getElem hi]
  show some (UInt8.ofNat (((R.getD i 0).toNat:Int)).toNat)=_;rw[Int.toNat_natCast,UInt8.ofNat_toNat,List.getD_eq_getElem?_getD,List.getElem?_eq_getElem hi];rfl
 ·rw [List.getElem?_eq_none (by rw[List.length_range];omega),List.getElem?_eq_none (by omega)]
  rfl
theorem Js {q:Rq} (v:Int):(s.cC q v).ar=0∨(s.cC q v).ar=1∨(s.cC q v).ar=2∨(s.cC q v).ar=3:=by
 unfold Sl.cC Sl.dev Sl.nY iP.cC jR
 repeat' split
 all_goals first|exact .inl rfl|exact .inr (.inl rfl)|exact .inr (.inr (.inl rfl))|exact .inr (.inr (.inr rfl))
theorem ep {q:Rq} {r:Rp} (i:q.ok=true) (d:r.ok=true) (e:q.fn=r.fn) (h:r.ar≠0):dT q r=true:=by
 unfold dT;rw[i,d,if_neg h,show (q.fn==r.fn)=true from beq_iff_eq.2 e];rfl
theorem na {q:Rq} {r:Rp} (k:q.ok=true) (j:r.ok=true) (w:q.fn=r.fn)
  (o:q.fn=1∨q.fn=2→(r.data.length:Int)=(q.aF+7)/8∧(q.aF%8=0∨nH r.data/2^(q.aF%8).toNat=0))
  (y:q.fn=3∨q.fn=4→(r.data.length:Int)=2*q.aF) (A:q.fn=43→r.code=q.code∧q.obj≤oI r.ag):dT q r=true:=by
 unfold dT;rw[k,j,show (q.fn==r.fn)=true from beq_iff_eq.2 w];by_cases he:r.ar=0
 ·rw [if_pos he]
  by_cases a:q.fn=1∨q.fn=2
  ·rw [if_pos a]
   obtain⟨i,d⟩:=o a;rw[show ((r.data.length:Int)==(q.aF+7)/8)=true from beq_iff_eq.2 i];rcases d with e|e
   ·rw [show (q.aF%8==0)=true from beq_iff_eq.2 e]
    rfl
   ·rw [show (nH r.data/2^(q.aF%8).toNat==0)=true from beq_iff_eq.2 e,Bool.or_true]
    rfl
  ·rw [if_neg a]
   by_cases b:q.fn=3∨q.fn=4
   ·rw [if_pos b,show ((r.data.length:Int)==2*q.aF)=true from beq_iff_eq.2 (y b)]
    rfl
   ·rw [if_neg b]
    by_cases c:q.fn=43
    ·obtain ⟨i,d⟩:=A c
     rw[if_pos c,show (r.code==q.code)=true from beq_iff_eq.2 i,decide_eq_true d,Bool.or_true];rfl
    ·rw [if_neg c]
     rfl
 ·rw [if_neg he]
  rfl
theorem CP {t a:Int} (j:n%8≠0):nH (bL t a v ((n+7)/8) n)/2^(n%8)=0:=by
 unfold nH aI;rw[bI,List.getD_eq_getElem?_getD,dY (by omega),show min 8 (n-8*((n+7)/8-1))=n%8 by omega];have e:=oK t a v ((n+7)/8-1) (n%8);generalize iB t a v ((n+7)/8-1) (n%8)=b at*;have i:2^(n%8)≤2^7:=Nat.pow_le_pow_right (by decide) (by omega);have d:(UInt8.ofNat b).toNat=b:=by rw[UInt8.toNat_ofNat'];exact Nat.mod_eq_of_lt (by omega)
 show (((UInt8.ofNat b).toNat:Nat):Int)/2^(n%8)=0;rw[d,show (2:Int)^(n%8)=((2^(n%8):Nat):Int) from (Int.natCast_pow 2 (n%8)).symm];exact Int.ediv_eq_zero_of_lt (Int.natCast_nonneg _) (Int.ofNat_lt.2 e)
theorem C1 (C:s.val) {q:Rq} (y:q.ok=true) (I:q.fn=43) (j:(s.dev q).ok=true) (o:q.fn=(s.dev q).fn):dT q (s.dev q)=true:=by
 by_cases A:s.lv=0
 ·exact ep y j o (by unfold Sl.dev;rw[if_pos A];decide)
 by_cases d:selO s.ag q.obj (kU q.code)=[]
 ·exact ep y j o (by unfold Sl.dev;rw[if_neg A,if_pos d];decide)
 refine na y j o (fun e=>by omega) (fun e=>by omega) fun _=>?_
 have w:∀x∈selO s.ag q.obj (kU q.code),x.val.length≤64:=fun x B=>by
  obtain⟨i,hi⟩:=List.getElem?_of_mem (pM B).1;have:=C.lv;exact C.vl (by omega) i x hi
 have G:=wH d w;have hm:∀x∈selO s.ag q.obj (kU q.code),q.obj≤x.id:=fun x B=>(pM B).2.1
 unfold Sl.dev;rw[if_neg A,if_neg d];refine⟨rfl,?_⟩;show q.obj≤oI ((selO s.ag q.obj (kU q.code)).take (cq 246 (selO s.ag q.obj (kU q.code))));generalize selO s.ag q.obj (kU q.code)=l at*;cases l with
 |nil=>exact absurd rfl d
 |cons x l=>
  obtain⟨k,E⟩:∃k,cq 246 (x::l)=k+1:=⟨cq 246 (x::l)-1,by omega⟩
  rw[E];exact hm x (List.mem_cons_self ..)
theorem Dr {t:iP} {q:Rq} (d:q.ok=true) (C:1≤q.fn) (G:q.fn≤4) (v:Int) (i:(t.cC q v).ok=true) (j:q.fn=(t.cC q v).fn):dT q (t.cC q v)=true:=by
 have B:=jt d;have E:1≤q.aF:=by rcases B with h|h|h<;>omega
 by_cases k:t.sup=false
 ·exact ep d i j (by unfold iP.cC;rw[if_pos k];exact(by decide:(1:Int)≠0))
 by_cases o:t.al<q.aF
 ·exact ep d i j (by unfold iP.cC;rw[if_neg k,if_pos o];exact(by decide:(3:Int)≠0))
 by_cases w:kG t.rd q.addr q.aF.toNat=false
 ·exact ep d i j (by unfold iP.cC;rw[if_neg k,if_neg o,if_pos w];exact(by decide:(2:Int)≠0))
 have e:t.cC q v=jR q.fn 0 (if q.fn≤2 then bL q.fn q.addr v ((q.aF.toNat+7)/8) q.aF.toNat else iJ q.fn q.addr v q.aF.toNat):=by
  unfold iP.cC;rw[if_neg k,if_neg o,if_neg w]
 refine na d i j (fun a=>?_) (fun a=>?_) (fun a=>by omega)
 ·rw [e,if_pos (by omega)]
  show ((bL q.fn q.addr v ((q.aF.toNat+7)/8) q.aF.toNat).length:Int)=_∧(_∨nH (bL q.fn q.addr v ((q.aF.toNat+7)/8) q.aF.toNat)/_=0)
  rw[bI];refine⟨by omega,?_⟩;by_cases A:q.aF%8=0
  ·exact .inl A
  ·right
   have y:(q.aF%8).toNat=q.aF.toNat%8:=by omega
   rw[y];exact CP (by omega)
 ·rw [e,if_neg (by omega)]
  show ((iJ q.fn q.addr v q.aF.toNat).length:Int)=_;rw[jQ];omega
theorem D5 (o:s.val) {q:Rq} (i:q.ok=true) (v:Int):dT q (s.cC q v)=true:=by
 have d:=Sl.ji o i v;have j:q.fn=(s.cC q v).fn:=(Sl.Hg v).symm;have A:=jt i;by_cases k:q.fn=43
 ·have e:s.cC q v=s.dev q:=by unfold Sl.cC;rw[if_pos k]
  rw[e] at d j ⊢;exact C1 o i k d j
 by_cases y:q.fn=17
 ·exact na i d j (fun a=>by omega) (fun a=>by omega) (fun a=>absurd a k)
 have w:1≤q.fn∧q.fn≤4:=by rcases A with h|h|h<;>omega
 have e:s.cC q v=(s.ts (q.fn-1).toNat).cC q v:=by unfold Sl.cC;rw[if_neg k,if_neg y]
 rw[e] at d j ⊢;exact Dr i w.1 w.2 v d j
theorem xm {q:Rq} {r:Rp} (i:q.ok=true) (d:r.ok=true) (e:r.fn=q.fn) (hm:dT q r=true):eg q r.bE=some r:=by
 unfold eg;rw[if_pos i,AY d];exact if_pos ⟨e,hm⟩
theorem C5 (e:s.val) {q:Rq} (d:q.ok=true) (v:Int):eg q (s.cC q v).bE=some (s.cC q v):=
 xm d (Sl.ji e d v) (Sl.Hg v) (D5 e d v)
theorem yU {q:Rq} (d:q.ok=true):eg q (jR q.fn 6 []).bE=some (jR q.fn 6 []):=
 xm d (eS (gO d) (by decide) (by decide)) rfl (ep d (eS (gO d) (by decide) (by decide)) rfl (by show (6:Int)≠0;decide))
theorem Cp (d:s.val) {q:Rq} (e:q.ok=true) (v:Int):eN (eg q (s.cC q v).bE)=⟨if (s.cC q v).ar=0 then 1 else 2,s.cC q v⟩:=by
 rw[C5 d e v];have h:=Js (s:=s) (q:=q) v;show (if (s.cC q v).ar=6 then _ else if (s.cC q v).ar=0 then _ else _:Oc)=_;rw[if_neg (by omega)];split<;>rfl
theorem zf {q:Rq} (d:q.ok=true):eN (eg q (jR q.fn 6 []).bE)=⟨5,Rp.zero⟩:=by
 rw[yU d];rfl
