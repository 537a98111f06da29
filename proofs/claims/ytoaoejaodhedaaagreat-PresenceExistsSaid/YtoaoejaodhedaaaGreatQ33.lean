import Derived.Test.YtoaoejaodhedaaaGreatQ19
import Derived.Test.YtoaoejaodhedaaaGreatQ32
namespace Go.Proofs.YtoaoejaodhedaaaGreat
open Go.RowKit
def Ln.evE (s:Ln) (x:Ch):Ev:=⟨x.at_,UInt8.ofNat x.val.toNat,(s.ev x).fl⟩
theorem Ln.evE_val (s:Ln) {x:Ch} (h:ChOk x):((s.evE x).v.toNat:Int)=x.val:=
 bP h.v0 h.v1
structure Du where
 n:Ln
 x:Tx
def hearB (x:Tx):Bool:=decide (x.ph=2∨x.ph=3∨x.ph=4)
theorem hearB_iff (x:Tx):hearB x=true↔x.hears:=decide_eq_true_iff
def Du.step (y:Du):Du:=match y.n.pend with
 |[]=>⟨y.n,y.x.sil⟩
 |c::r=>if c.at_≤y.x.til then ⟨y.n.next c r,y.x.chr (y.n.evE c)⟩ else ⟨y.n,y.x.sil⟩
def wPh (p:Int):Nat:=if p=2 then 3 else if p=3 then 2 else if p=4 then 1 else 0
def Du.mu (y:Du):Nat:=y.n.pend.length+wPh y.x.ph
def Du.listen:Nat→Du→Du
 |0,y=>y
 |n+1,y=>if hearB y.x=true then Du.listen n y.step else y
def Du.heard (y:Du):Du:=Du.listen y.mu y
theorem Tx.sil_w {x:Tx} (h:x.hears):wPh x.sil.ph<wPh x.ph:=by
 unfold Tx.sil;rcases h with h|h|h
 ·rw [if_pos h,h]
  show wPh 4<wPh 2;decide
 ·rw [if_neg (by omega),if_pos h,h]
  split
  ·show wPh 5<wPh 3
   decide
  ·show wPh 4<wPh 3
   decide
 ·rw [if_neg (by omega),if_neg (by omega),h]
  split
  ·show wPh 1<wPh 4
   decide
  ·show wPh 5<wPh 4
   decide
theorem Tx.chr_w (x:Tx) (e:Ev):wPh (x.chr e).ph≤wPh x.ph:=by
 unfold Tx.chr;split
 ·split
  ·rename_i h2
   have h3:wPh 4≤wPh x.ph∧wPh 3≤wPh x.ph:=by
    rcases h2 with e|⟨e,-⟩<;>rw[e]<;>decide
   split
   ·exact h3.1
   ·exact h3.2
  ·exact Nat.le_refl _
 ·exact Nat.le_refl _
theorem Du.step_nil {y:Du} (h:y.n.pend=[]):y.step=⟨y.n,y.x.sil⟩:=by unfold Du.step;rw[h]
theorem Du.step_in {y:Du} {c:Ch} {r:List Ch} (h:y.n.pend=c::r) (hc:c.at_≤y.x.til):y.step=⟨y.n.next c r,y.x.chr (y.n.evE c)⟩:=by
 unfold Du.step;rw[h];exact if_pos hc
theorem Du.step_out {y:Du} {c:Ch} {r:List Ch} (h:y.n.pend=c::r) (hc:¬c.at_≤y.x.til):y.step=⟨y.n,y.x.sil⟩:=by
 unfold Du.step;rw[h];exact if_neg hc
theorem Du.step_mu {y:Du} (h:y.x.hears):y.step.mu<y.mu:=by
 have h1:=Tx.sil_w h;cases e:y.n.pend with
 |nil=>
  rw[Du.step_nil e];show y.n.pend.length+wPh y.x.sil.ph<y.n.pend.length+wPh y.x.ph;omega
 |cons c r=>
  by_cases hc:c.at_≤y.x.til
  ·have h2:=Tx.chr_w y.x (y.n.evE c)
   rw[Du.step_in e hc];show r.length+wPh (y.x.chr (y.n.evE c)).ph<y.n.pend.length+wPh y.x.ph;rw[e,List.length_cons];omega
  ·rw [Du.step_out e hc]
   show y.n.pend.length+wPh y.x.sil.ph<y.n.pend.length+wPh y.x.ph;omega
theorem Du.listen_not {y:Du} (h:hearB y.x=false):∀n,Du.listen n y=y
 |0=>rfl
 |n+1=>by
  unfold Du.listen;rw[h];rfl
theorem wPh_zero {p:Int} (h:wPh p=0):¬(p=2∨p=3∨p=4):=by
 rintro (e|e|e)<;>subst e<;>exact absurd h (by decide)
theorem Du.mu_zero {y:Du} (h:y.mu≤0):hearB y.x=false:=by
 have h1:wPh y.x.ph=0:=by unfold Du.mu at h;omega
 exact decide_eq_false (wPh_zero h1)
theorem Du.listen_yes {y:Du} (h:hearB y.x=true) (n:Nat):Du.listen (n+1) y=Du.listen n y.step:=by
 show (if hearB y.x=true then _ else _)=_;rw[if_pos h]
theorem Du.listen_eq:∀(n m:Nat) (y:Du),y.mu≤n→y.mu≤m→Du.listen n y=Du.listen m y
 |0,m,y,h,_=>by rw[Du.listen_not (Du.mu_zero h),Du.listen_not (Du.mu_zero h)]
 |n+1,m,y,h,h2=>by
  cases hb:hearB y.x with
  |false=>rw[Du.listen_not hb,Du.listen_not hb]
  |true=>
   have hm:=Du.step_mu ((hearB_iff y.x).1 hb);obtain⟨k,rfl⟩:∃k,m=k+1:=⟨m-1,by omega⟩
   rw[Du.listen_yes hb,Du.listen_yes hb];exact Du.listen_eq n k y.step (by omega) (by omega)
theorem Du.heard_not {y:Du} (h:hearB y.x=false):y.heard=y:=Du.listen_not h _
theorem Du.heard_step {y:Du} (h:hearB y.x=true):y.step.heard=y.heard:=by
 have hm:=Du.step_mu ((hearB_iff y.x).1 h);rw[show y.heard=Du.listen (y.mu+1) y from Du.listen_eq _ _ y (Nat.le_refl _) (Nat.le_succ _),Du.listen_yes h];exact Du.listen_eq _ _ y.step (Nat.le_refl _) (by omega)
structure AttEnd (x:Tx) (sn:List ((Int×Int)×List UInt8)) (y:Du) (v:Int) (O:Oc) (D:Int):Prop where
 lk:x.like y.x
 cnt:y.x.cnt=x.cnt
 sent:y.n.sent=sn
 pend:y.n.pend=[]
 free:y.n.free≤y.x.now
 last:y.n.last≤y.x.now
 now0:x.en≤y.x.now
 now1:y.x.now≤D
 good:v=0→y.x.ph=5∧y.x.out=O
 bad:v≠0→y.x.bad=(x.bad||v==4)∧y.x.late=(x.late||v==5)∧(x.cnt≤x.re→y.x.ph=1∧y.x.out=x.out)∧(¬x.cnt≤x.re→y.x.ph=5∧y.x.out=⟨if y.x.bad=true then 4 else if y.x.late=true then 5 else 3,Rp.zero⟩)
theorem Tx.chr_drain {x:Tx} (h:x.ph=4) (e:Ev):∃la,x.chr e={x with last:=la}:=by
 unfold Tx.chr;by_cases c:0≤e.t∧e.t≤x.til∧x.last≤e.t
 ·rw [if_pos c,if_neg (by omega)]
  exact⟨e.t,rfl⟩
 ·rw [if_neg c]
  exact⟨x.last,rfl⟩
theorem Tx.sil4 {x:Tx} (h:x.ph=4):x.sil=if x.cnt≤x.re then x.again else x.over:=by
 unfold Tx.sil;rw[if_neg (by omega),if_neg (by omega)]
theorem Tx.sil4_off {x:Tx} (h:x.ph=4):hearB x.sil=false:=by
 rw[Tx.sil4 h];split
 ·show decide ((1:Int)=2∨(1:Int)=3∨(1:Int)=4)=false
  decide
 ·show decide ((5:Int)=2∨(5:Int)=3∨(5:Int)=4)=false
  decide
theorem Du.drains:∀(l:List Ch) (y:Du),y.n.pend=l→y.x.ph=4→(∀c∈l,c.at_≤y.x.til)→∃n' la,y.heard=⟨n',Tx.sil {y.x with last:=la}⟩∧n'.pend=[]∧n'.sent=y.n.sent∧n'.free≤max y.n.free y.x.til∧n'.last≤max y.n.last y.x.til
 |[],y,hp,h4,_=>by
  have hb:hearB y.x=true:=decide_eq_true (.inr (.inr h4));rw[←Du.heard_step hb,Du.step_nil hp,Du.heard_not (y:=⟨y.n,y.x.sil⟩) (Tx.sil4_off h4)];exact⟨y.n,y.x.last,rfl,hp,rfl,by omega,by omega⟩
 |c::r,y,hp,h4,hl=>by
  have hb:hearB y.x=true:=decide_eq_true (.inr (.inr h4));have hc:=hl c (List.mem_cons_self ..);rw[←Du.heard_step hb,Du.step_in hp hc];obtain⟨la,e⟩:=Tx.chr_drain h4 (y.n.evE c);rw[e];obtain⟨n',la',e1,e2,e3,e4,e5⟩:=Du.drains r ⟨y.n.next c r,{y.x with last:=la}⟩ rfl h4 (fun d hd=>hl d (List.mem_cons_of_mem _ hd));have e4':n'.free≤max (max y.n.free c.at_) y.x.til:=e4;have e5':n'.last≤max c.at_ y.x.til:=e5;exact⟨n',la',e1,e2,e3,by omega,by omega⟩
theorem AttEnd.drain {x:Tx} {y:Du} {v D:Int} {O:Oc} (hv:v≠0) (lk:x.like y.x) (cnt:y.x.cnt=x.cnt) (h4:y.x.ph=4) (hl:∀c∈y.n.pend,c.at_≤y.x.til) (out:y.x.out=x.out) (hb:y.x.bad=(x.bad||v==4)) (hlt:y.x.late=(x.late||v==5)) (free:y.n.free≤y.x.til) (last:y.n.last≤y.x.til) (n0:x.en≤y.x.til) (n1:y.x.til≤D):AttEnd x y.n.sent y.heard v O D:=by
 obtain⟨n',la,e1,e2,e3,e4,e5⟩:=Du.drains _ y rfl h4 hl;rw[e1,Tx.sil4 (x:={y.x with last:=la}) h4];have f1:n'.free≤y.x.til:=by omega
 have f2:n'.last≤y.x.til:=by omega
 have lr:=lk.re;by_cases hc:y.x.cnt≤y.x.re
 ·rw [if_pos hc]
  exact⟨⟨lk.b,lk.p,lk.re,lk.ti,lk.de,lk.un,lk.q⟩,cnt,e3,e2,f1,f2,n0,n1,fun e=>absurd e hv,fun _=>⟨hb,hlt,fun _=>⟨rfl,out⟩,fun e=>absurd (by omega) e⟩⟩
 ·rw [if_neg hc]
  exact⟨⟨lk.b,lk.p,lk.re,lk.ti,lk.de,lk.un,lk.q⟩,cnt,e3,e2,f1,f2,n0,n1,fun e=>absurd e hv,fun _=>⟨hb,hlt,fun e=>absurd e (by omega),fun _=>⟨rfl,rfl⟩⟩⟩
def vB (c:Ch):UInt8:=UInt8.ofNat c.val.toNat
def toEv (c:Ch):Ev:=⟨c.at_,vB c,0⟩
theorem evE_free {s:Ln} {c:Ch} (h:s.last+c.du≤c.at_):s.evE c=toEv c:=by
 have e:(s.ev c).fl=0:=if_neg (fun k=>by have:=k.2;omega);unfold Ln.evE toEv vB;rw[e]
theorem sil_next (C:Int) (p:List Ch) (a c:Ch):silE C ((p++[a]).map toEv++[toEv c]) ((p++[a]).map toEv).length=if a.at_<c.at_-C then c.at_-C-a.at_ else 0:=by
 have hl:((p++[a]).map toEv).length=p.length+1:=by simp
 have h1:evAt ((p++[a]).map toEv) p.length=toEv a:=by
  have:=evAt_new (p.map toEv) (toEv a);rw[List.length_map] at this;rw[List.map_append];exact this
 unfold silE;rw[evAt_new,evAt_old (by rw[hl];omega),hl,Nat.add_sub_cancel,h1];rfl
structure Run (x:Tx) (sn:List ((Int×Int)×List UInt8)) (p:List Ch) (a:Ch) (r:List Ch) (z:Bool) (y:Du):Prop where
 lk:x.like y.x
 cnt:y.x.cnt=x.cnt
 en:y.x.en=x.en
 out:y.x.out=x.out
 bad:y.x.bad=x.bad
 late:y.x.late=x.late
 ph:y.x.ph=3
 ev:y.x.ev=(p++[a]).map toEv
 til:y.x.til=a.at_+t35T x.b+charT x.b
 last:y.x.last=a.at_
 pend:y.n.pend=r
 sent:y.n.sent=sn
 free:y.n.free≤a.at_
 nl:y.n.last=a.at_
 clr:clearB (charT x.b) (t15T x.b) y.x.ev=z
theorem Run.on {x:Tx} {sn:List ((Int×Int)×List UInt8)} {p r:List Ch} {a:Ch} {z:Bool} {y:Du} (h:Run x sn p a r z y):hearB y.x=true:=decide_eq_true (.inr (.inl h.ph))
theorem Run.splits {x:Tx} {sn:List ((Int×Int)×List UInt8)} {p r:List Ch} {a:Ch} {z:Bool} {y:Du} (h:Run x sn p a r z y) (c:Ch) (h0:a.at_+charT x.b≤c.at_) (h35:0<t35T x.b):y.x.splits (toEv c)=decide (t35T x.b≤c.at_-charT x.b-a.at_):=by
 unfold Tx.splits;rw[h.ev,h.lk.b,sil_next,decide_eq_true (show 0<((p++[a]).map toEv).length by simp),Bool.true_and];by_cases hl:a.at_<c.at_-charT x.b
 ·rw [if_pos hl]
 ·rw [if_neg hl,decide_eq_false (by omega),decide_eq_false (by omega)]
theorem Run.chr {x:Tx} {sn:List ((Int×Int)×List UInt8)} {p r:List Ch} {a c:Ch} {z:Bool} {y:Du} (h:Run x sn p a (c::r) z y) (h0:a.at_+charT x.b≤c.at_) (hd:c.du=charT x.b) (hz:0≤c.at_) (hg:c.at_-charT x.b-a.at_≤t35T x.b) (hC:0≤charT x.b):
  y.step=⟨y.n.next c r,if y.x.splits (toEv c)=true then y.x.cut (toEv c) else y.x.heard (toEv c)⟩:=by
 have e1:=h.til;have e2:=h.last;have e3:=h.nl;rw[Du.step_in h.pend (by omega),evE_free (by omega)];have e4:y.x.chr (toEv c)=if y.x.splits (toEv c)=true then y.x.cut (toEv c) else y.x.heard (toEv c):=by
  unfold Tx.chr;rw[if_pos ⟨hz,(by show c.at_≤_;omega),(by show _≤c.at_;omega)⟩,if_pos (.inl h.ph)]
 rw[e4]
theorem Run.next {x:Tx} {sn:List ((Int×Int)×List UInt8)} {p r:List Ch} {a c:Ch} {z:Bool} {y:Du} (h:Run x sn p a (c::r) z y) (h0:a.at_+charT x.b≤c.at_) (hd:c.du=charT x.b) (hz:0≤c.at_) (hg:c.at_-charT x.b-a.at_<t35T x.b) (hC:0≤charT x.b) (hT:0≤t15T x.b) (hl:p.length<255):
  ∃z',(z'=true↔z=true∧c.at_-charT x.b-a.at_≤t15T x.b)∧Run x sn (p++[a]) c r z' y.step:=by
 rw[h.chr h0 hd hz (by omega) hC,h.splits c h0 (by omega),decide_eq_false (by omega),if_neg (by decide)];have hb:=h.lk.b;have hf:=h.free;refine⟨_,?_,⟨⟨h.lk.b,h.lk.p,h.lk.re,h.lk.ti,h.lk.de,h.lk.un,h.lk.q⟩,h.cnt,h.en,h.out,h.bad,h.late,rfl,?_,?_,rfl,rfl,h.sent,?_,rfl,rfl⟩⟩
 ·show clearB _ _ (y.x.ev++[toEv c])=true↔_
  rw[clear_snoc,h.clr,h.ev,sil_next,decide_eq_true (show 0<((p++[a]).map toEv).length by simp),Bool.true_and];have hlen:((p++[a]).map toEv).length<256:=by simp;omega
  have f0:andI (toEv c).fl 1=0∧andI (toEv c).fl 2=0:=by show andI 0 1=0∧andI 0 2=0;decide+kernel
  constructor
  ·rintro ⟨-,k2,k3,-⟩
   refine⟨k2,?_⟩;have k3:=of_decide_eq_false k3;split at k3<;>omega
  ·rintro ⟨k2,k3⟩
   refine⟨hlen,k2,decide_eq_false ?_,f0⟩;split<;>omega
 ·show y.x.ev++[toEv c]=_
  rw[h.ev,←List.map_singleton,←List.map_append]
 ·show c.at_+t35T y.x.b+charT y.x.b=_
  rw[hb]
 ·show max y.n.free c.at_≤c.at_
  omega
def JOut (J:Oc) (v:Int) (O:Oc):Prop:=((J.verdict=1∨J.verdict=2)∧v=0∧O=J)∨(¬(J.verdict=1∨J.verdict=2)∧v=J.verdict∧(v=4∨v=5))
theorem judgeR_cases (o:Option Rp):(judgeR o).verdict=1∨(judgeR o).verdict=2∨(judgeR o).verdict=4∨(judgeR o).verdict=5:=by
 unfold judgeR;cases o with
 |none=>exact .inr (.inr (.inl rfl))
 |some r=>
  dsimp only;split
  ·exact .inr (.inr (.inr rfl))
  ·split
   ·exact .inl rfl
   ·exact .inr (.inl rfl)
theorem judgeB_cases (chk:List UInt8→Bool) (u:Int) (q:Rq) (f:Int) (l:List UInt8):(judgeB chk u q f l).verdict=1∨(judgeB chk u q f l).verdict=2∨(judgeB chk u q f l).verdict=4∨(judgeB chk u q f l).verdict=5:=by
 unfold judgeB;split
 ·split
  ·exact judgeR_cases _
  ·exact .inr (.inr (.inl rfl))
 ·exact .inr (.inr (.inl rfl))
theorem judgeB_flag (chk:List UInt8→Bool) (u:Int) (q:Rq) (l:List UInt8):(judgeB chk u q 1 l).verdict=4:=by
 unfold judgeB;split
 ·rw [if_neg (fun k=>absurd k.1 (by decide))]
 ·rfl
theorem Run.judge {x:Tx} {sn:List ((Int×Int)×List UInt8)} {p r:List Ch} {a:Ch} {z:Bool} {y:Du} (h:Run x sn p a r z y) (hs:y.step=⟨y.n,y.x.sil⟩) (hp:p.length<256) (h0:x.en≤a.at_) (hC:0≤charT x.b) (h35:0≤t35T x.b) (D:Int) (hD:D=x.en+drainT x.b x.ti x.de) (hD1:a.at_+t35T x.b+charT x.b≤D) (hr:∀c∈r,c.at_≤D):
  ∃v O,JOut (judgeB crcChk x.un x.q (if z=true then 0 else 1) ((p++[a]).map vB)) v O∧(v=0→r=[]→AttEnd x sn y.heard v O D)∧(v≠0→AttEnd x sn y.heard v O D):=by
 have hj:y.x.judged=judgeB crcChk x.un x.q (if z=true then 0 else 1) ((p++[a]).map vB):=by
  unfold Tx.judged;rw[h.lk.b,h.clr,h.lk.un,h.lk.q,h.ev,List.map_map,List.take_of_length_le (by simp;omega)];rfl
 have hsil:y.x.sil=if y.x.judged.verdict=1∨y.x.judged.verdict=2 then y.x.good else y.x.wrong:=by
  unfold Tx.sil;rw[if_neg (by have:=h.ph;omega),if_pos h.ph]
 rw[←Du.heard_step h.on,hs,hsil,←hj];have e1:=h.til;have e2:=h.free;have e3:=h.nl;by_cases hv:y.x.judged.verdict=1∨y.x.judged.verdict=2
 ·refine ⟨0,y.x.judged,.inl ⟨hv,rfl,rfl⟩,fun _ hr0=>?_,fun e=>absurd rfl e⟩
  rw[if_pos hv,Du.heard_not (y:=⟨y.n,y.x.good⟩) (by show decide ((5:Int)=2∨(5:Int)=3∨(5:Int)=4)=false;decide)];refine⟨⟨h.lk.b,h.lk.p,h.lk.re,h.lk.ti,h.lk.de,h.lk.un,h.lk.q⟩,h.cnt,h.sent,?_,?_,?_,?_,?_,fun _=>⟨rfl,rfl⟩,fun e=>absurd rfl e⟩
  ·show y.n.pend=[]
   rw[h.pend,hr0]
  ·show y.n.free≤y.x.til
   omega
  ·show y.n.last≤y.x.til
   omega
  ·show x.en≤y.x.til
   omega
  ·show y.x.til≤D
   omega
 ·have hc:y.x.judged.verdict=4∨y.x.judged.verdict=5:=by
   rw[hj] at hv ⊢;have:=judgeB_cases crcChk x.un x.q (if z=true then 0 else 1) ((p++[a]).map vB);omega
  refine⟨y.x.judged.verdict,Oc.zero,.inr ⟨hv,rfl,hc⟩,fun e=>by omega,fun hne=>?_⟩;rw[if_neg hv,←h.sent];have hdr:y.x.drainTo y.x.til=D:=by
   unfold Tx.drainTo;rw[h.en,h.lk.b,h.lk.ti,h.lk.de,hD];split<;>omega
  refine AttEnd.drain (y:=⟨y.n,y.x.wrong⟩) hne ⟨h.lk.b,h.lk.p,h.lk.re,h.lk.ti,h.lk.de,h.lk.un,h.lk.q⟩ h.cnt rfl ?_ h.out ?_ ?_ ?_ ?_ ?_ ?_
  ·intro c hc'
   show c.at_≤y.x.drainTo y.x.til;rw[hdr];have hc2:c∈y.n.pend:=hc';rw[h.pend] at hc2;exact hr c hc2
  ·show (y.x.bad||y.x.judged.verdict==4)=_
   rw[h.bad]
  ·show (y.x.late||y.x.judged.verdict==5)=_
   rw[h.late]
  ·show y.n.free≤y.x.drainTo y.x.til
   omega
  ·show y.n.last≤y.x.drainTo y.x.til
   omega
  ·show x.en≤y.x.drainTo y.x.til
   omega
  ·show y.x.drainTo y.x.til≤D
   omega
def Steps (C:Int):Ch→List Ch→Prop
 |_,[]=>True
 |a,c::r=>a.at_+C≤c.at_∧c.du=C∧Steps C c r
def Tight (C t15:Int):Ch→List Ch→Prop
 |_,[]=>True
 |a,c::r=>c.at_-C-a.at_≤t15∧Tight C t15 c r
def Heard1 (x:Tx) (bs:List UInt8) (z:Bool) (v:Int) (O:Oc):Prop:=(z=true∧JOut (judgeB crcChk x.un x.q 0 bs) v O)∨(z=false∧v=4)
theorem Run.all {x:Tx} {sn:List ((Int×Int)×List UInt8)} (hC:0≤charT x.b) (hT:0≤t15T x.b) (hTT:t15T x.b<t35T x.b) (D:Int) (hD:D=x.en+drainT x.b x.ti x.de) (h00:0≤x.en):∀(r p:List Ch) (a:Ch) (z:Bool) (y:Du),Run x sn p a r z y→(p++[a]++r).length≤256→x.en≤a.at_→a.at_+t35T x.b+charT x.b≤D→(∀c∈r,c.at_+t35T x.b+charT x.b≤D)→Steps (charT x.b) a r→
  (∀p' a' c' r',p++[a]++r=p'++[a']++c'::r'→t35T x.b<c'.at_-charT x.b-a'.at_→∀f,(judgeB crcChk x.un x.q f ((p'++[a']).map vB)).verdict=4)→
  ∃v O z',AttEnd x sn y.heard v O D∧Heard1 x ((p++[a]++r).map vB) z' v O∧(Tight (charT x.b) (t15T x.b) a r→z'=z)
 |[],p,a,z,y,h,hlen,he,hD1,_,_,_=>by
  obtain⟨v,O,j1,j2,j3⟩:=h.judge (Du.step_nil h.pend) (by simp at hlen;omega) he hC (by omega) D hD hD1 (fun c hc=>by cases hc);refine⟨v,O,z,?_,?_,fun _=>rfl⟩
  ·by_cases h0:v=0
   ·exact j2 h0 rfl
   ·exact j3 h0
  ·rw [List.append_nil]
   cases z with
   |true=>exact .inl ⟨rfl,j1⟩
   |false=>
    refine .inr ⟨rfl,?_⟩;have e:(if false=true then (0:Int) else 1)=1:=rfl;rw[e] at j1;have k:=judgeB_flag crcChk x.un x.q ((p++[a]).map vB);rcases j1 with⟨j,-⟩|⟨-,j,-⟩<;>omega
 |c::r,p,a,z,y,h,hlen,he,hD1,hr,hst,hpre=>by
  obtain⟨s1,s2,s3⟩:=hst;have hcD:=hr c (List.mem_cons_self ..);have hll:p.length<255:=by simp at hlen;omega
  by_cases hg:c.at_-charT x.b-a.at_<t35T x.b
  ·obtain ⟨z',hz',hn⟩:=h.next s1 s2 (by omega) hg hC hT hll
   obtain⟨v,O,z2,r1,r2,r3⟩:=Run.all hC hT hTT D hD h00 r (p++[a]) c z' y.step hn (by simpa using hlen) (by omega) hcD (fun d hd=>hr d (List.mem_cons_of_mem _ hd)) s3 (fun p' a' c' r' e=>hpre p' a' c' r' (by rw[←e];simp));refine⟨v,O,z2,by rw[←Du.heard_step h.on];exact r1,by simpa using r2,fun ht=>?_⟩;rw[r3 ht.2];have h1:=ht.1;cases z with
   |true=>exact hz'.2 ⟨rfl,h1⟩
   |false=>cases z' with
    |false=>rfl
    |true=>exact(hz'.1 rfl).1.symm
  ·have hnt:Tight (charT x.b) (t15T x.b) a (c::r)→false=z:=fun ht=>by have:=ht.1;omega
   by_cases hg2:c.at_-charT x.b-a.at_≤t35T x.b
   ·refine ⟨4,Oc.zero,false,?_,.inr ⟨rfl,rfl⟩,hnt⟩
    rw[←Du.heard_step h.on,h.chr s1 s2 (by omega) hg2 hC,h.splits c s1 (by omega),decide_eq_true (by omega),if_pos rfl];have hf:=h.free;have hdr:y.x.drainTo c.at_=D:=by
     unfold Tx.drainTo;rw[h.en,h.lk.b,h.lk.ti,h.lk.de,hD];split<;>omega
    have hsn:sn=(y.n.next c r).sent:=h.sent.symm;rw[hsn];refine AttEnd.drain (y:=⟨y.n.next c r,y.x.cut (toEv c)⟩) (by decide) ⟨h.lk.b,h.lk.p,h.lk.re,h.lk.ti,h.lk.de,h.lk.un,h.lk.q⟩ h.cnt rfl ?_ h.out ?_ ?_ ?_ ?_ ?_ ?_
    ·intro d hd
     show d.at_≤y.x.drainTo c.at_;have:=hr d (List.mem_cons_of_mem _ hd);omega
    ·show true=(x.bad||(4:Int)==4)
     rw[Bool.or_comm];rfl
    ·show y.x.late=(x.late||(4:Int)==5)
     rw[h.late];exact(Bool.or_false _).symm
    ·show max y.n.free c.at_≤y.x.drainTo c.at_
     omega
    ·show c.at_≤y.x.drainTo c.at_
     omega
    ·show x.en≤y.x.drainTo c.at_
     omega
    ·show y.x.drainTo c.at_≤D
     omega
   ·have e1:=h.til
    obtain⟨v,O,j1,-,j3⟩:=h.judge (Du.step_out h.pend (by omega)) (by omega) he hC (by omega) D hD hD1 (fun d hd=>by have:=hr d hd;omega);have hv:=hpre p a c r rfl (by omega) (if z=true then 0 else 1);have hv4:v=4:=by
     rcases j1 with⟨j,-⟩|⟨-,j,-⟩<;>omega
    exact⟨v,O,false,j3 (by omega),.inr ⟨rfl,hv4⟩,hnt⟩
theorem attempt_all {x:Tx} {n:Ln} (hset:Okset x.b x.p) (hph:x.ph=2) (hev:x.ev=[]) (htil:x.til=x.en+t35T x.b+x.ti+charT x.b) (h00:0≤x.en) (hl0:x.last≤x.en) (hti:0≤x.ti) (hde:0≤x.de) (D:Int) (hD:D=x.en+drainT x.b x.ti x.de) (hf:n.free≤x.en) (hnl:n.last≤x.en) (hlen:n.pend.length≤256)
  (hr:∀c∈n.pend,x.en+charT x.b≤c.at_∧c.at_+t35T x.b+charT x.b≤D) (hst:∀c r,n.pend=c::r→c.du=charT x.b∧Steps (charT x.b) c r)
  (hpre:∀p' a' c' r',n.pend=p'++[a']++c'::r'→t35T x.b<c'.at_-charT x.b-a'.at_→∀f,(judgeB crcChk x.un x.q f ((p'++[a']).map vB)).verdict=4):
  ∃v O,AttEnd x n.sent (Du.mk n x).heard v O D∧((v=3∧∀c r,n.pend=c::r→x.til<c.at_)∨∃c r z,n.pend=c::r∧c.at_≤x.til∧Heard1 x (n.pend.map vB) z v O∧(Tight (charT x.b) (t15T x.b) c r→z=true)):=by
 obtain⟨t1,t2,t3,t4,t5,t6⟩:=cK hset;have htt:t15T x.b<t35T x.b:=by
  unfold t15T t35T upI;have:=hset.bd;split
  ·omega
  ·have h1:(0:Int)<x.b:=by omega
   have h2:(16500000+x.b-1)/x.b*x.b≤16500000+x.b-1:=Int.ediv_mul_le _ (by omega);have h3:38500000+x.b-1<((38500000+x.b-1)/x.b+1)*x.b:=Int.lt_ediv_add_one_mul_self _ h1;rcases Int.lt_or_le ((16500000+x.b-1)/x.b) ((38500000+x.b-1)/x.b) with h4|h4
   ·exact h4
   ·exfalso
    have h5:(38500000+x.b-1)/x.b*x.b≤(16500000+x.b-1)/x.b*x.b:=Int.mul_le_mul_of_nonneg_right h4 (by omega);rw[Int.add_mul] at h3;omega
 have hon:hearB x=true:=decide_eq_true (.inl hph);have hsil:x.sil=x.waited:=by unfold Tx.sil;rw[if_pos hph]
 have hDD:D=x.en+(2*t35T x.b+x.ti+x.de+257*charT x.b):=hD;have hdr:x.drainTo x.til=D:=by
  unfold Tx.drainTo;rw[←hD];split<;>omega
 have hW:∀O,AttEnd x n.sent (Du.mk n x.waited).heard 3 O D:=fun O=>by
  refine AttEnd.drain (y:=⟨n,x.waited⟩) (by decide) ⟨rfl,rfl,rfl,rfl,rfl,rfl,rfl⟩ rfl rfl ?_ rfl (Bool.or_false _).symm (Bool.or_false _).symm ?_ ?_ ?_ ?_
  ·intro c hc
   show c.at_≤x.drainTo x.til;have:=(hr c hc).2;omega
  ·show n.free≤x.drainTo x.til
   omega
  ·show n.last≤x.drainTo x.til
   omega
  ·show x.en≤x.drainTo x.til
   omega
  ·show x.drainTo x.til≤D
   omega
 cases hp:n.pend with
 |nil=>
  refine⟨3,Oc.zero,?_,.inl ⟨rfl,fun c r e=>by cases e⟩⟩;rw[←Du.heard_step (y:=⟨n,x⟩) hon,Du.step_nil (y:=⟨n,x⟩) hp];show AttEnd x n.sent (Du.mk n x.sil).heard 3 _ D;rw[hsil];exact hW _
 |cons c r=>
  obtain⟨b1,b2⟩:=hr c (by rw[hp];exact List.mem_cons_self ..);obtain⟨d1,d2⟩:=hst c r hp;by_cases hc:c.at_≤x.til
  ·have hstep:(Du.mk n x).step=⟨n.next c r,x.heard (toEv c)⟩:=by
    rw[Du.step_in (y:=⟨n,x⟩) hp hc];show Du.mk (n.next c r) (x.chr (n.evE c))=_;rw[evE_free (by omega)];have e:x.chr (toEv c)=x.heard (toEv c):=by
     unfold Tx.chr Tx.splits;rw[hev,if_pos ⟨(by show 0≤c.at_;omega),hc,(by show _≤c.at_;omega)⟩,if_pos (.inr ⟨hph,(by show _<c.at_;omega)⟩)];rfl
    rw[e]
   have hrun:Run x n.sent [] c r true (Du.mk n x).step:=by
    rw[hstep];refine⟨⟨rfl,rfl,rfl,rfl,rfl,rfl,rfl⟩,rfl,rfl,rfl,rfl,rfl,rfl,?_,rfl,rfl,rfl,rfl,?_,rfl,?_⟩
    ·show x.ev++[toEv c]=_
     rw[hev];rfl
    ·show max n.free c.at_≤c.at_
     omega
    ·show clearB _ _ (x.ev++[toEv c])=true
     rw[hev,clear_snoc];refine⟨by decide,rfl,rfl,?_⟩;show andI 0 1=0∧andI 0 2=0;decide+kernel
   have hpp:=hpre;rw[hp] at hpp hlen;obtain⟨v,O,z,r1,r2,r3⟩:=Run.all (by omega) (by omega) htt D hD h00 r [] c true _ hrun hlen (by omega) b2 (fun d hd=>(hr d (by rw[hp];exact List.mem_cons_of_mem _ hd)).2) d2 hpp;exact⟨v,O,by rw[←Du.heard_step (y:=⟨n,x⟩) hon];exact r1,.inr ⟨c,r,z,rfl,hc,r2,r3⟩⟩
  ·refine ⟨3,Oc.zero,?_,.inl ⟨rfl,fun c' r' e=>by cases e;omega⟩⟩
   rw[←Du.heard_step (y:=⟨n,x⟩) hon,Du.step_out (y:=⟨n,x⟩) hp hc];show AttEnd x n.sent (Du.mk n x.sil).heard 3 _ D;rw[hsil];exact hW _
end Go.Proofs.YtoaoejaodhedaaaGreat
