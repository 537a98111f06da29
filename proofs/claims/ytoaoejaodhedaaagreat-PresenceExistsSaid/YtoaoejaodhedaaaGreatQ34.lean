import Derived.Test.YtoaoejaodhedaaaGreatQ25
import Derived.Test.YtoaoejaodhedaaaGreatQ33
namespace Go.Proofs.YtoaoejaodhedaaaGreat
open Go.RowKit
theorem memb_self {l:List Sl} {n:Nat} {s:Sl} (h:l[n]?=some s):∀k,n<k→n∈memb l s.bd s.pa s.un k
 |0,hk=>absurd hk (Nat.not_lt_zero _)
 |k+1,hk=>by
  show n∈memb l s.bd s.pa s.un k++_;by_cases e:n=k
  ·subst e
   refine List.mem_append_right _ ?_;rw[h];dsimp only;have hm:isMb s.bd s.pa s.un s=true:=by unfold isMb;simp
   rw[if_pos hm];exact List.mem_singleton.2 rfl
  ·exact List.mem_append_left _ (memb_self h k (by omega))
theorem memb_ne {l:List Sl} {n:Nat} {s:Sl} (h:l[n]?=some s):memb l s.bd s.pa s.un l.length≠[]:=fun e=>by
 have:=memb_self h l.length (List.getElem?_eq_some_iff.1 h).1;rw[e] at this;cases this
theorem rcvF_some {l:List Sl} (hB:BusP l) {n:Nat} {s:Sl} (h:l[n]?=some s) {q:Rq} (hq:q.ok=true) {a:At} (hf:¬(a.fault=1∨a.fault=2)):5≤(rcvF l a s.bd s.pa (rqFrame s.un q)).length:=by
 have hv:=hB.2 s (List.mem_of_getElem? h);have hd:=busDec_frame l s.bd s.pa hv.un.1 hv.un.2 hq;rw[if_neg (memb_ne h)] at hd;have ha:=fun x=>(ansF_len hB hd x).1
 have e1:∀x,5≤((busAns l s.bd s.pa (rqFrame s.un q) x).getD []).length:=fun x=>by
  unfold busAns;rw[hd];exact ha x
 unfold rcvF;rw[if_neg hf];split
 ·unfold busBusy
  rw[hd];show 5≤(if _ then _ else _:List UInt8).length;split
  ·exact (frameOf_len s.un (mkR_ok (ok_known hq) (by decide) (by decide))).1
  ·exact ha 0
 ·split
  ·rw [damL_len]
   exact e1 _
  ·exact e1 _
theorem bit_xorB1 (f:List UInt8) {p m:Nat} (hp:p<f.length) (hm:m<256) (k:Nat):bitAt (xorB1 f p m) k=(bitAt f k^^(decide (k/8=p)&&m.testBit (k%8))):=by
 unfold bitAt xorB1;by_cases e:k/8=p
 ·rw [decide_eq_true e,Bool.true_and,e]
  have h1:(f.set p (f.getD p 0^^^UInt8.ofNat m)).getD p 0=f.getD p 0^^^UInt8.ofNat m:=by simp [List.getD_eq_getElem?_getD,hp]
  rw[h1,UInt8.toNat_xor,Nat.testBit_xor];have h2:(UInt8.ofNat m).toNat=m:=by simp;omega
  rw[h2]
 ·rw [decide_eq_false e,Bool.false_and,Bool.xor_false]
  have h1:(f.set p (f.getD p 0^^^UInt8.ofNat m)).getD (k/8) 0=f.getD (k/8) 0:=by simp [List.getD_eq_getElem?_getD,Ne.symm e]
  rw[h1]
theorem low_bit:∀m,m<256→m≠0→∃t,t<8∧m.testBit t=true∧∀u,u<t→m.testBit u=false:=by
 intro m hm h0;have H:∀m:Fin 256,m.val≠0→∃t:Fin 8,m.val.testBit t.val=true∧∀u:Fin 8,u.val<t.val→m.val.testBit u.val=false:=by decide+kernel
 obtain⟨t,h1,h2⟩:=H ⟨m,hm⟩ h0;exact⟨t.val,t.isLt,h1,fun u hu=>h2 ⟨u,by have:=t.isLt;omega⟩ hu⟩
theorem dmg_gen {f g:List UInt8} (hf:crcChk f=true) (hl:g.length=f.length) {p m1 m2:Nat} (hp:p<f.length) (h1:m1≠0) (h2:m1<256)
  (hb:∀k,bitAt g k=(bitAt f k^^((decide (k/8=p)&&m1.testBit (k%8))^^(decide (k/8=p+1)&&m2.testBit (k%8))))):crcChk g=false:=by
 obtain⟨t,t1,t2,t3⟩:=low_bit m1 h2 h1;refine chk_err f g (fun k=>(decide (k/8=p)&&m1.testBit (k%8))^^(decide (k/8=p+1)&&m2.testBit (k%8))) hl ((chk_iff f).1 hf).2 (fun k _=>hb k) (burst_ne _ (8*p+t) _ (by omega) (fun k hk=>?_) ?_ (fun k hk=>?_))
 ·by_cases e:k/8=p
  ·have e1:=t3 (k%8) (by omega)
   have e2:¬k/8=p+1:=by omega
   simp only[e1,decide_eq_false e2,Bool.and_false,Bool.false_and,Bool.xor_self]
  ·have e2:¬k/8=p+1:=by omega
   simp only[decide_eq_false e,decide_eq_false e2,Bool.false_and,Bool.xor_self]
 ·have e1:(8*p+t)/8=p:=by omega
  have e2:(8*p+t)%8=t:=by omega
  have e3:¬p=p+1:=by omega
  simp only[e1,e2,t2,decide_eq_false e3,decide_true,Bool.false_and,Bool.and_true,Bool.xor_false]
 ·have e1:¬k/8=p:=by omega
  have e2:¬k/8=p+1:=by omega
  simp only[decide_eq_false e1,decide_eq_false e2,Bool.false_and,Bool.xor_self]
theorem dmg_one {f:List UInt8} (hf:crcChk f=true) {p m:Nat} (hp:p<f.length) (h1:m≠0) (h2:m<256):crcChk (xorB1 f p m)=false:=
 dmg_gen (m2:=0) hf (xorB1_len _ _ _) hp h1 h2 fun k=>by
  rw[bit_xorB1 f hp h2,Nat.zero_testBit,Bool.and_false,Bool.xor_false]
theorem dmg_two {f:List UInt8} (hf:crcChk f=true) {p m n:Nat} (hp:p+1<f.length) (h1:m≠0) (h2:m<256) (h3:n<256):crcChk (xorB1 (xorB1 f p m) (p+1) n)=false:=
 dmg_gen (p:=p) (m1:=m) (m2:=n) hf (by rw[xorB1_len,xorB1_len]) (by omega) h1 h2 fun k=>by
  rw[bit_xorB1 _ (by rw[xorB1_len];exact hp) h3,bit_xorB1 f (by omega) h2,Bool.xor_assoc]
theorem damL_chk {f:List UInt8} (hf:crcChk f=true) (h0:0<f.length) {a:At} (h1:1≤a.mask) (h2:a.mask≤65535) (h3:a.mask%256≠0):crcChk (damL a f)=false:=by
 have hp:a.pos.toNat%f.length<f.length:=Nat.mod_lt _ h0;have e1:a.mask.toNat%256≠0:=by omega
 have e2:a.mask.toNat%256<256:=Nat.mod_lt _ (by decide);have e3:a.mask.toNat/256<256:=by omega
 unfold damL;split
 case isTrue h=>exact dmg_two hf h e1 e2 e3
 case isFalse h=>exact dmg_one hf hp e1 e2
theorem flipL_chk {f:List UInt8} (hf:crcChk f=true) (h0:0<f.length):crcChk (flipL f)=false:=
 dmg_one (p:=f.length-1) (m:=255) hf (by omega) (by decide) (by decide)
theorem frameOf_chk (u:Int) (rp:Rp):crcChk (frameOf u rp)=true:=chk_tail _
theorem frameOf_split {u:Int} (u1:1≤u) (u2:u≤247) {rp:Rp} (h:rp.ok=true):splitB crcChk (frameOf u rp)=some (u,rp.pdu):=by
 obtain⟨n1,n2⟩:=frameOf_len u h;have e0:(frameOf u rp).getD 0 0=UInt8.ofNat u.toNat:=rfl;have e1:=byteU u1 u2;unfold splitB;rw[e0,e1,if_pos ⟨by omega,n2,frameOf_chk u rp,u1,u2⟩];have hl:(frameOf u rp).length=rp.pdu.length+3:=cD _ _;have e2:(List.take ((frameOf u rp).length-2) (frameOf u rp)).drop 1=rp.pdu:=by
  rw[hl];show List.drop 1 (List.take (rp.pdu.length+3-2) ((UInt8.ofNat u.toNat::rp.pdu)++crcTail (UInt8.ofNat u.toNat::rp.pdu)))=_;rw[List.take_append_of_le_length (by simp),List.take_of_length_le (by simp)];rfl
 rw[e2]
theorem rcvF_split {l:List Sl} (hB:BusP l) {n:Nat} {s:Sl} (h:l[n]?=some s) {q:Rq} (hq:q.ok=true) {a:At} (ha:a.ok) (hf:¬(a.fault=1∨a.fault=2)):
  if 1<(memb l s.bd s.pa s.un l.length).length∨a.fault=3 then crcChk (rcvF l a s.bd s.pa (rqFrame s.un q))=false
  else splitB crcChk (rcvF l a s.bd s.pa (rqFrame s.un q))=some (s.un,(if a.fault=5 then mkR q.fn 6 [] else s.ans q a.value).pdu):=by
 have hv:=hB.2 s (List.mem_of_getElem? h);have hd:=busDec_frame l s.bd s.pa hv.un.1 hv.un.2 hq;have hne:=memb_ne h;rw[if_neg hne] at hd;have hms:=memb_self h l.length (List.getElem?_eq_some_iff.1 h).1;generalize hm:memb l s.bd s.pa s.un l.length=ms at*;unfold rcvF loneB busBusy busAns;rw[if_neg hf,hd];show if 1<ms.length∨a.fault=3 then crcChk (if a.fault=5 then (if ms.length=1 then frameOf s.un (mkR q.fn 6 []) else ansF l 0 (s.un,q,ms)) else if a.fault=3∧decide (ms.length=1)=true then damL a (ansF l a.value (s.un,q,ms)) else ansF l a.value (s.un,q,ms))=false
  else splitB crcChk (if a.fault=5 then (if ms.length=1 then frameOf s.un (mkR q.fn 6 []) else ansF l 0 (s.un,q,ms)) else if a.fault=3∧decide (ms.length=1)=true then damL a (ansF l a.value (s.un,q,ms)) else ansF l a.value (s.un,q,ms))=_
 have hlen:0<ms.length:=List.length_pos_iff.2 hne;have hmem:∀j∈ms,∃t,l[j]?=some t∧t.val:=fun j hj=>by
  rw[←hm] at hj;obtain⟨t,ht,-⟩:=memb_mem hj;exact⟨t,ht,hB.2 t (List.mem_of_getElem? ht)⟩
 cases ms with
 |nil=>exact absurd rfl hne
 |cons j ms=>
  obtain⟨t,ht,hvt⟩:=hmem j List.mem_cons_self;have hans:∀x,(t.ans q x).ok=true:=fun x=>Sl.ans_ok hvt hq x
  by_cases hone:ms=[]
  ·subst hone
   have hj:n=j:=by simpa using hms
   subst hj;rw[h] at ht;injection ht with ht
   subst ht;have eA:∀x,ansF l x (s.un,q,[n])=frameOf s.un (s.ans q x):=fun x=>by
    show (match l[n]? with|none=>[]|some s'=>if ([]:List Nat)=[] then frameOf s.un (s'.ans q x) else _)=_;rw[h];rfl
   rw[eA,eA];by_cases h3:a.fault=3
   ·rw [if_pos (Or.inr h3),if_neg (by omega),if_pos ⟨h3,rfl⟩]
    obtain⟨m1,m2,m3⟩:1≤a.mask∧a.mask≤65535∧a.mask%256≠0:=by
     have:=ha.2.2.2.2.2.2;omega
    exact damL_chk (frameOf_chk _ _) (by have:=(frameOf_len s.un (hans a.value)).1;omega) m1 m2 m3
   ·rw [if_neg (by intro e;rcases e with e|e;exact absurd e (Nat.lt_irrefl 1);exact h3 e)]
    by_cases h5:a.fault=5
    ·rw [if_pos h5,if_pos h5,if_pos (show [n].length=1 from rfl)]
     exact frameOf_split hv.un.1 hv.un.2 (mkR_ok (ok_known hq) (by decide) (by decide))
    ·rw [if_neg h5,if_neg h5,if_neg (fun e=>h3 e.1)]
     exact frameOf_split hv.un.1 hv.un.2 (hans a.value)
  ·have hl2:1<(j::ms).length:=by
    have:=List.length_pos_iff.2 hone;show 1<ms.length+1;omega
   have eA:∀x,ansF l x (s.un,q,j::ms)=flipL (frameOf s.un (t.ans q x)):=fun x=>by
    show (match l[j]? with|none=>[]|some s'=>if ms=[] then frameOf s.un (s'.ans q x) else flipL (frameOf s.un (s'.ans q x)))=_;rw[ht];show (if ms=[] then _ else _)=_;rw[if_neg hone]
   have eF:∀x,crcChk (flipL (frameOf s.un (t.ans q x)))=false:=fun x=>flipL_chk (frameOf_chk _ _) (by have:=(frameOf_len s.un (hans x)).1;omega)
   have e1:¬(j::ms).length=1:=by omega
   rw[if_pos (Or.inl hl2),eA,eA,if_neg e1,decide_eq_false e1,if_neg (fun e:a.fault=3∧false=true=>by cases e.2)];split<;>exact eF _
theorem byteI_inj {a b:Int} (h:byteI a=byteI b) (a0:0≤a) (a1:a≤255) (b0:0≤b) (b1:b≤255):a=b:=by
 rw[←bP a0 a1,←bP b0 b1,h]
theorem enc_pre:∀(k l:List Ob) (t:List UInt8),k.length=l.length→(∀x∈k,x.val.length≤255)→(∀x∈l,x.val.length≤255)→encObs k++t=encObs l→t=[]
 |[],[],t,_,_,_,h=>by simpa [encObs] using h
 |[],_::_,_,h,_,_,_=>by cases h
 |_::_,[],_,h,_,_,_=>by cases h
 |x::k,y::l,t,h,hk,hl,he=>by
  have hx:=hk x (List.mem_cons_self ..);have hy:=hl y (List.mem_cons_self ..);have he':byteI x.id::byteI x.val.length::(x.val++(encObs k++t))=byteI y.id::byteI y.val.length::(y.val++encObs l):=by
   rw[←List.append_assoc];exact he
  injection he' with _ he'
  injection he' with h2 he'
  have hlen:=byteI_inj h2 (by omega) (by omega) (by omega) (by omega);obtain⟨-,h4⟩:=List.append_inj he' (by omega);exact enc_pre k l t (by simpa using h) (fun z hz=>hk z (List.mem_cons_of_mem _ hz)) (fun z hz=>hl z (List.mem_cons_of_mem _ hz)) h4
theorem pdu_exc {r:Rp} (h1:1≤r.exc):r.pdu=[byteI (r.fn+128),byteI r.exc]:=by unfold Rp.pdu;rw[if_neg (by omega)]
theorem pdu_data {r:Rp} (h43:r.fn≠43) (h:r=Rp.dataOf r.fn r.data):r.pdu=byteI r.fn::byteI r.data.length::r.data:=by
 have hx:r.exc=0:=by rw[h];rfl
 unfold Rp.pdu;rw[if_pos hx,if_neg h43]
theorem pdu_dev {r:Rp} (h43:r.fn=43) (hx:r.exc=0):r.pdu=devHead r++encObs r.objs:=by unfold Rp.pdu;rw[if_pos hx,if_pos h43]
theorem pdu_pre {r s:Rp} (hr:r.ok=true) (hs:s.ok=true) {t:List UInt8} (h:r.pdu++t=s.pdu):t=[]:=by
 have len0:∀{n:Nat},r.pdu.length=n→s.pdu.length=n→t=[]:=fun {n} h1 h2=>by
  have:=congrArg List.length h;rw[List.length_append,h1,h2] at this;exact List.eq_nil_of_length_eq_zero (by omega)
 rcases ok_forms hr with⟨k1,a1,a2,e1⟩|⟨k1,a0,a1,a2,e1⟩|⟨a0,a1,a2⟩
 ·have f1:=known_bd k1
  have p1:=pdu_exc a1;rcases ok_forms hs with⟨k2,b1,b2,e2⟩|⟨k2,b0,b1,b2,e2⟩|⟨b0,b1,b2⟩
  ·exact len0 (n:=2) (by rw[p1];rfl) (by rw[pdu_exc b1];rfl)
  ·have f2:=known_bd k2
   rw[p1,pdu_data b0 e2] at h;injection h with h
   have:=byteI_inj h (by omega) (by omega) (by omega) (by omega);omega
  ·rw [p1,pdu_dev b0 b1] at h
   injection h with h
   have h':byteI (r.fn+128)=byteI 43:=h;have:=byteI_inj h' (by omega) (by omega) (by omega) (by omega);omega
 ·have f1:=known_bd k1
  have p1:=pdu_data a0 e1;rcases ok_forms hs with⟨k2,b1,b2,e2⟩|⟨k2,b0,b1,b2,e2⟩|⟨b0,b1,b2⟩
  ·have f2:=known_bd k2
   rw[p1,pdu_exc b1] at h;injection h with h
   have:=byteI_inj h (by omega) (by omega) (by omega) (by omega);omega
  ·rw [p1,pdu_data b0 e2] at h
   have p2:=pdu_data b0 e2;injection h with _ h
   injection h with h _
   have:=byteI_inj h (by omega) (by omega) (by omega) (by omega);exact len0 (n:=r.data.length+2) (by rw[p1];rfl) (by rw[p2];show s.data.length+2=_;omega)
  ·rw [p1,pdu_dev b0 b1] at h
   injection h with h
   have h':byteI r.fn=byteI 43:=h;have:=byteI_inj h' (by omega) (by omega) (by omega) (by omega);omega
 ·have p1:=pdu_dev a0 a1
  rcases ok_forms hs with⟨k2,b1,b2,e2⟩|⟨k2,b0,b1,b2,e2⟩|⟨b0,b1,b2⟩
  ·have f2:=known_bd k2
   rw[p1,pdu_exc b1] at h;injection h with h
   have h':byteI 43=byteI (s.fn+128):=h;have:=byteI_inj h' (by omega) (by omega) (by omega) (by omega);omega
  ·have f2:=known_bd k2
   rw[p1,pdu_data b0 e2] at h;injection h with h
   have h':byteI 43=byteI s.fn:=h;have:=byteI_inj h' (by omega) (by omega) (by omega) (by omega);omega
  ·rw [p1,pdu_dev b0 b1,List.append_assoc] at h
   obtain⟨h1,h2⟩:=List.append_inj h rfl;obtain⟨-,-,-,-,o1⟩:=dev_forms a2;obtain⟨-,-,-,-,o2⟩:=dev_forms b2;obtain⟨m1,-,v1⟩:=objsB_bd o1;obtain⟨m2,-,v2⟩:=objsB_bd o2;unfold devHead at h1;simp only[List.cons.injEq,and_true,true_and] at h1;have hn:=byteI_inj h1.2.2.2.2 (by omega) (by omega) (by omega) (by omega);refine enc_pre r.objs s.objs t (by omega) (fun x hx=>?_) (fun x hx=>?_) h2
   ·obtain ⟨i,hi⟩:=List.getElem?_of_mem hx
    have:=(v1 i x hi).2.2;omega
   ·obtain ⟨i,hi⟩:=List.getElem?_of_mem hx
    have:=(v2 i x hi).2.2;omega
def RightF (F:List UInt8):Prop:=∃u rp,rp.ok=true∧(F=frameOf u rp∨F=flipL (frameOf u rp))
theorem judge_cut {F:List UInt8} (h:RightF F) {m:Nat} (hm:m<F.length) (u:Int) (q:Rq) (f:Int):(judgeB crcChk u q f (F.take m)).verdict=4:=by
 obtain⟨u',rp,hok,hF⟩:=h;have hl:F.length=rp.pdu.length+3:=by
  rcases hF with rfl|rfl
  ·exact cD _ _
  ·rw [flipL_len]
   exact cD _ _
 have ht:F.take m=(frameOf u' rp).take m:=by
  rcases hF with rfl|rfl
  ·rfl
  ·have hl2:=flipL_len (frameOf u' rp)
   unfold flipL;refine List.ext_getElem? fun i=>?_
   rw[List.getElem?_take,List.getElem?_take];split
   ·rw [List.getElem?_set]
    rw[if_neg (by omega)]
   ·rfl
 rw[ht];have hlm:((frameOf u' rp).take m).length=m:=by
  rw[List.length_take];have:(frameOf u' rp).length=rp.pdu.length+3:=cD _ _;omega
 unfold judgeB;cases hs:splitB crcChk ((frameOf u' rp).take m) with
 |none=>rfl
 |some y=>
  obtain⟨w,p⟩:=y;dsimp only;unfold splitB at hs;split at hs
  ·rename_i hc
   injection hs with hs
   injection hs with _ hp
   rw[hlm] at hp hc;have hp2:p=rp.pdu.take (m-3):=by
    rw[←hp,List.take_take];show List.drop 1 (List.take _ ((UInt8.ofNat u'.toNat::rp.pdu)++crcTail (UInt8.ofNat u'.toNat::rp.pdu)))=_;rw[List.take_append_of_le_length (by show min (m-2) m≤rp.pdu.length+1;omega),show min (m-2) m=(m-3)+1 by omega];rfl
   have hn:Rp.dec p=none:=by
    cases hd:Rp.dec p with
    |none=>rfl
    |some r'=>
     obtain⟨k1,k2⟩:=dec_some hd;have:=pdu_pre k1 hok (t:=rp.pdu.drop (m-3)) (by rw[k2,hp2,List.take_append_drop]);have h2:=congrArg List.length this;rw[List.length_drop] at h2;have h3:rp.pdu.length- (m-3)=0:=h2;omega
   have hrd:readB q p=none:=by unfold readB;rw[hn];split<;>rfl
   rw[hrd];split<;>rfl
  ·cases hs
theorem rcvF_right {l:List Sl} (hB:BusP l) {a:At} (hf:a.fault=6) {bd pa:Int} {u:Int} (u1:1≤u) (u2:u≤247) {q:Rq} (hq:q.ok=true):rcvF l a bd pa (rqFrame u q)=[]∨RightF (rcvF l a bd pa (rqFrame u q)):=by
 have hd:=busDec_frame l bd pa u1 u2 hq;unfold rcvF busAns;rw[if_neg (by omega),if_neg (by omega),if_neg (by omega),hd];by_cases hm:memb l bd pa u l.length=[]
 ·rw [if_pos hm]
  exact .inl rfl
 ·rw [if_neg hm]
  show ansF l a.value (u,q,memb l bd pa u l.length)=[]∨_;generalize hms:memb l bd pa u l.length=ms at*;cases ms with
  |nil=>exact absurd rfl hm
  |cons j ms=>
   obtain⟨t,ht,-⟩:=memb_mem (l:=l) (bd:=bd) (pa:=pa) (un:=u) (k:=l.length) (j:=j) (by rw[hms];exact List.mem_cons_self);have hv:=hB.2 t (List.mem_of_getElem? ht);have e:ansF l a.value (u,q,j::ms)=if ms=[] then frameOf u (t.ans q a.value) else flipL (frameOf u (t.ans q a.value)):=by
    show (match l[j]? with|none=>[]|some s'=>if ms=[] then frameOf u (s'.ans q a.value) else flipL (frameOf u (s'.ans q a.value)))=_;rw[ht]
   right;show RightF (ansF l a.value (u,q,j::ms));rw[e];refine⟨u,t.ans q a.value,Sl.ans_ok hv hq _,?_⟩;split
   ·exact .inl rfl
   ·exact .inr rfl
theorem chsN_cons (C st:Int) (a:At) (R:List UInt8) (k:Nat):chsN C st a R (k+1)=chAt C st a 0 (R.getD 0 0)::(List.range' 1 k).map fun i=>chAt C st a i (R.getD i 0):=by
 unfold chsN;rw[List.range_eq_range',List.range'_succ];rfl
theorem chAt_gap (C st:Int) (a:At) (i:Nat) (x y:UInt8):(chAt C st a (i+1) y).at_-C- (chAt C st a i x).at_=if a.fault=6∧a.pos=((i:Int)+1) then a.ticks else 0:=by
 unfold chAt;dsimp only;have e1:(((i+1:Nat):Int)+1)*C=((i:Int)+1)*C+C:=by
  rw[show (((i+1:Nat):Int)+1)=((i:Int)+1)+1 by omega,Int.add_mul,Int.one_mul]
 rw[e1];generalize ((i:Int)+1)*C=X;by_cases hf:a.fault=6
 ·by_cases h1:a.pos=(i:Int)+1
  ·rw [if_pos ⟨hf,by omega⟩,if_neg (by omega),if_pos ⟨hf,h1⟩]
   omega
  ·rw [show (if a.fault=6∧a.pos=(i:Int)+1 then a.ticks else 0)=0 from if_neg (fun k=>h1 k.2)]
   by_cases h2:a.pos≤(i:Int)
   ·rw [if_pos ⟨hf,by omega⟩,if_pos ⟨hf,h2⟩]
    omega
   ·rw [if_neg (by omega),if_neg (by omega)]
    omega
 ·rw [if_neg (fun k=>hf k.1),if_neg (fun k=>hf k.1),if_neg (fun k=>hf k.1)]
  omega
theorem steps_ch {C st:Int} {a:At} (ha:0≤a.ticks) (R:List UInt8):∀(m i:Nat),Steps C (chAt C st a i (R.getD i 0)) ((List.range' (i+1) m).map fun j=>chAt C st a j (R.getD j 0))
 |0,_=>True.intro
 |m+1,i=>by
  rw[List.range'_succ];refine⟨?_,rfl,steps_ch ha R m (i+1)⟩;have h:=chAt_gap C st a i (R.getD i 0) (R.getD (i+1) 0);show _+C≤(chAt C st a (i+1) (R.getD (i+1) 0)).at_;split at h<;>omega
theorem chsN_vB (C st:Int) (a:At) (R:List UInt8):(chsN C st a R R.length).map vB=R:=by
 unfold chsN;rw[List.map_map];refine List.ext_getElem? fun i=>?_
 rw[List.getElem?_map];by_cases hi:i<R.length
 ·rw [List.getElem?_range hi,List.getElem?_eq_getElem hi]
  show some (UInt8.ofNat (((R.getD i 0).toNat:Int)).toNat)=_;rw[Int.toNat_natCast,UInt8.ofNat_toNat,List.getD_eq_getElem?_getD,List.getElem?_eq_getElem hi];rfl
 ·rw [List.getElem?_eq_none (by rw[List.length_range];omega),List.getElem?_eq_none (by omega)]
  rfl
theorem ans_exc {s:Sl} {q:Rq} (v:Int):(s.ans q v).exc=0∨(s.ans q v).exc=1∨(s.ans q v).exc=2∨(s.ans q v).exc=3:=by
 unfold Sl.ans Sl.dev Sl.srvA Tbl.ans mkR
 repeat' split
 all_goals first|exact .inl rfl|exact .inr (.inl rfl)|exact .inr (.inr (.inl rfl))|exact .inr (.inr (.inr rfl))
theorem matchB_exc {q:Rq} {r:Rp} (hq:q.ok=true) (hr:r.ok=true) (hf:q.fn=r.fn) (h:r.exc≠0):matchB q r=true:=by
 unfold matchB;rw[hq,hr,if_neg h,show (q.fn==r.fn)=true from beq_iff_eq.2 hf];rfl
theorem matchB_in {q:Rq} {r:Rp} (hq:q.ok=true) (hr:r.ok=true) (hf:q.fn=r.fn)
  (h1:q.fn=1∨q.fn=2→(r.data.length:Int)=(q.qty+7)/8∧(q.qty%8=0∨lastB r.data/2^(q.qty%8).toNat=0))
  (h2:q.fn=3∨q.fn=4→(r.data.length:Int)=2*q.qty) (h3:q.fn=43→r.code=q.code∧q.obj≤firstOb r.objs):matchB q r=true:=by
 unfold matchB;rw[hq,hr,show (q.fn==r.fn)=true from beq_iff_eq.2 hf];by_cases he:r.exc=0
 ·rw [if_pos he]
  by_cases a:q.fn=1∨q.fn=2
  ·rw [if_pos a]
   obtain⟨e1,e2⟩:=h1 a;rw[show ((r.data.length:Int)==(q.qty+7)/8)=true from beq_iff_eq.2 e1];rcases e2 with e|e
   ·rw [show (q.qty%8==0)=true from beq_iff_eq.2 e]
    rfl
   ·rw [show (lastB r.data/2^(q.qty%8).toNat==0)=true from beq_iff_eq.2 e,Bool.or_true]
    rfl
  ·rw [if_neg a]
   by_cases b:q.fn=3∨q.fn=4
   ·rw [if_pos b,show ((r.data.length:Int)==2*q.qty)=true from beq_iff_eq.2 (h2 b)]
    rfl
   ·rw [if_neg b]
    by_cases c:q.fn=43
    ·obtain ⟨e1,e2⟩:=h3 c
     rw[if_pos c,show (r.code==q.code)=true from beq_iff_eq.2 e1,decide_eq_true e2,Bool.or_true];rfl
    ·rw [if_neg c]
     rfl
 ·rw [if_neg he]
  rfl
theorem bits_last {t a v:Int} {n:Nat} (hn:n%8≠0):lastB (bitsL t a v ((n+7)/8) n)/2^(n%8)=0:=by
 unfold lastB bAt;rw[bitsL_len,List.getD_eq_getElem?_getD,bitsL_at (by omega),show min 8 (n-8*((n+7)/8-1))=n%8 by omega];have h1:=bval_lt t a v ((n+7)/8-1) (n%8);generalize bval t a v ((n+7)/8-1) (n%8)=b at*;have h2:2^(n%8)≤2^7:=Nat.pow_le_pow_right (by decide) (by omega);have h3:(UInt8.ofNat b).toNat=b:=by rw[UInt8.toNat_ofNat'];exact Nat.mod_eq_of_lt (by omega)
 show (((UInt8.ofNat b).toNat:Nat):Int)/2^(n%8)=0;rw[h3,show (2:Int)^(n%8)=((2^(n%8):Nat):Int) from (Int.natCast_pow 2 (n%8)).symm];exact Int.ediv_eq_zero_of_lt (Int.natCast_nonneg _) (Int.ofNat_lt.2 h1)
theorem dev_match {s:Sl} (hv:s.val) {q:Rq} (hq:q.ok=true) (h43:q.fn=43) (hr:(s.dev q).ok=true) (hf:q.fn=(s.dev q).fn):matchB q (s.dev q)=true:=by
 by_cases h0:s.lv=0
 ·exact matchB_exc hq hr hf (by unfold Sl.dev;rw[if_pos h0];decide)
 by_cases h1:selO s.objs q.obj (grI q.code)=[]
 ·exact matchB_exc hq hr hf (by unfold Sl.dev;rw[if_neg h0,if_pos h1];decide)
 refine matchB_in hq hr hf (fun e=>by omega) (fun e=>by omega) fun _=>?_
 have hvl:∀x∈selO s.objs q.obj (grI q.code),x.val.length≤64:=fun x hx=>by
  obtain⟨i,hi⟩:=List.getElem?_of_mem (selO_mem hx).1;have:=hv.lv;exact hv.vl (by omega) i x hi
 have hp:=fitN_pos h1 hvl;have hm:∀x∈selO s.objs q.obj (grI q.code),q.obj≤x.id:=fun x hx=>(selO_mem hx).2.1
 unfold Sl.dev;rw[if_neg h0,if_neg h1];refine⟨rfl,?_⟩;show q.obj≤firstOb ((selO s.objs q.obj (grI q.code)).take (fitN 246 (selO s.objs q.obj (grI q.code))));generalize selO s.objs q.obj (grI q.code)=l at*;cases l with
 |nil=>exact absurd rfl h1
 |cons x l=>
  obtain⟨k,hk⟩:∃k,fitN 246 (x::l)=k+1:=⟨fitN 246 (x::l)-1,by omega⟩
  rw[hk];exact hm x (List.mem_cons_self ..)
theorem tbl_match {t:Tbl} {q:Rq} (hq:q.ok=true) (h1:1≤q.fn) (h4:q.fn≤4) (v:Int) (hr:(t.ans q v).ok=true) (hf:q.fn=(t.ans q v).fn):matchB q (t.ans q v)=true:=by
 have hc:=rq_cases hq;have hlim:1≤q.qty:=by rcases hc with h|h|h<;>omega
 by_cases e1:t.sup=false
 ·exact matchB_exc hq hr hf (by unfold Tbl.ans;rw[if_pos e1];exact(by decide:(1:Int)≠0))
 by_cases e2:t.most<q.qty
 ·exact matchB_exc hq hr hf (by unfold Tbl.ans;rw[if_neg e1,if_pos e2];exact(by decide:(3:Int)≠0))
 by_cases e3:covB t.rd q.addr q.qty.toNat=false
 ·exact matchB_exc hq hr hf (by unfold Tbl.ans;rw[if_neg e1,if_neg e2,if_pos e3];exact(by decide:(2:Int)≠0))
 have e:t.ans q v=mkR q.fn 0 (if q.fn≤2 then bitsL q.fn q.addr v ((q.qty.toNat+7)/8) q.qty.toNat else regsD q.fn q.addr v q.qty.toNat):=by
  unfold Tbl.ans;rw[if_neg e1,if_neg e2,if_neg e3]
 refine matchB_in hq hr hf (fun a=>?_) (fun a=>?_) (fun a=>by omega)
 ·rw [e,if_pos (by omega)]
  show ((bitsL q.fn q.addr v ((q.qty.toNat+7)/8) q.qty.toNat).length:Int)=_∧(_∨lastB (bitsL q.fn q.addr v ((q.qty.toNat+7)/8) q.qty.toNat)/_=0)
  rw[bitsL_len];refine⟨by omega,?_⟩;by_cases h8:q.qty%8=0
  ·exact .inl h8
  ·right
   have h9:(q.qty%8).toNat=q.qty.toNat%8:=by omega
   rw[h9];exact bits_last (by omega)
 ·rw [e,if_neg (by omega)]
  show ((regsD q.fn q.addr v q.qty.toNat).length:Int)=_;rw[regsD_len];omega
theorem ans_match {s:Sl} (hv:s.val) {q:Rq} (hq:q.ok=true) (v:Int):matchB q (s.ans q v)=true:=by
 have hr:=Sl.ans_ok hv hq v;have hf:q.fn=(s.ans q v).fn:=(Sl.ans_fn v).symm;have hc:=rq_cases hq;by_cases e1:q.fn=43
 ·have e:s.ans q v=s.dev q:=by unfold Sl.ans;rw[if_pos e1]
  rw[e] at hr hf ⊢;exact dev_match hv hq e1 hr hf
 by_cases e2:q.fn=17
 ·exact matchB_in hq hr hf (fun a=>by omega) (fun a=>by omega) (fun a=>absurd a e1)
 have h3:1≤q.fn∧q.fn≤4:=by rcases hc with h|h|h<;>omega
 have e:s.ans q v=(s.ts (q.fn-1).toNat).ans q v:=by unfold Sl.ans;rw[if_neg e1,if_neg e2]
 rw[e] at hr hf ⊢;exact tbl_match hq h3.1 h3.2 v hr hf
theorem readB_of {q:Rq} {r:Rp} (hq:q.ok=true) (hr:r.ok=true) (hf:r.fn=q.fn) (hm:matchB q r=true):readB q r.pdu=some r:=by
 unfold readB;rw[if_pos hq,dec_pdu hr];exact if_pos ⟨hf,hm⟩
theorem readB_ans {s:Sl} (hv:s.val) {q:Rq} (hq:q.ok=true) (v:Int):readB q (s.ans q v).pdu=some (s.ans q v):=
 readB_of hq (Sl.ans_ok hv hq v) (Sl.ans_fn v) (ans_match hv hq v)
theorem readB_busy {q:Rq} (hq:q.ok=true):readB q (mkR q.fn 6 []).pdu=some (mkR q.fn 6 []):=
 readB_of hq (mkR_ok (ok_known hq) (by decide) (by decide)) rfl (matchB_exc hq (mkR_ok (ok_known hq) (by decide) (by decide)) rfl (by show (6:Int)≠0;decide))
theorem judge_ans {s:Sl} (hv:s.val) {q:Rq} (hq:q.ok=true) (v:Int):judgeR (readB q (s.ans q v).pdu)=⟨if (s.ans q v).exc=0 then 1 else 2,s.ans q v⟩:=by
 rw[readB_ans hv hq v];have h:=ans_exc (s:=s) (q:=q) v;show (if (s.ans q v).exc=6 then _ else if (s.ans q v).exc=0 then _ else _:Oc)=_;rw[if_neg (by omega)];split<;>rfl
theorem judge_busy {q:Rq} (hq:q.ok=true):judgeR (readB q (mkR q.fn 6 []).pdu)=⟨5,Rp.zero⟩:=by
 rw[readB_busy hq];rfl
structure AttR (l:List Sl) (a:At) (bd pa u:Int) (q:Rq) (v:Int) (O:Oc):Prop where
 vs:v=0∨v=3∨v=4∨v=5
 v0:v=0→∃j s,memb l bd pa u l.length=[j]∧l[j]?=some s∧O=⟨if (s.ans q a.value).exc=0 then 1 else 2,s.ans q a.value⟩
 none:memb l bd pa u l.length=[]→v=3
 many:1<(memb l bd pa u l.length).length→v=3∨v=4
 fine:a.fault=0∨a.fault=6∧a.ticks≤750→memb l bd pa u l.length≠[]→(1<(memb l bd pa u l.length).length→v=4)∧(¬1<(memb l bd pa u l.length).length→v=0)
theorem isMb_eq {bd pa un:Int} {s:Sl} (h:isMb bd pa un s=true):s.bd=bd∧s.pa=pa∧s.un=un:=by
 unfold isMb at h;simp only[Bool.and_eq_true,decide_eq_true_eq] at h;exact⟨h.1.1,h.1.2,h.2⟩
theorem judgeB_no {u:Int} {q:Rq} {f:Int} {R:List UInt8} (h:crcChk R=false):judgeB crcChk u q f R=⟨4,Rp.zero⟩:=by
 unfold judgeB splitB;rw[h,if_neg (fun k=>by cases k.2.2.1)]
theorem judgeB_yes {u:Int} {q:Rq} {R p:List UInt8} (h:splitB crcChk R=some (u,p)):judgeB crcChk u q 0 R=judgeR (readB q p):=by
 unfold judgeB;rw[h];exact if_pos ⟨rfl,rfl⟩
theorem tight_any {C st T:Int} {a:At} (hf:a.fault=6→a.ticks≤T) (hT:0≤T) (R:List UInt8):∀(m i:Nat),Tight C T (chAt C st a i (R.getD i 0)) ((List.range' (i+1) m).map fun j=>chAt C st a j (R.getD j 0))
 |0,_=>True.intro
 |m+1,i=>by
  rw[List.range'_succ];refine⟨?_,tight_any hf hT R m (i+1)⟩;have h:=chAt_gap C st a i (R.getD i 0) (R.getD (i+1) 0);show (chAt C st a (i+1) (R.getD (i+1) 0)).at_-C-_≤T;rw[h];split
  ·rename_i e
   exact hf e.1
  ·exact hT
theorem rcv_judge {l:List Sl} (hB:BusP l) {bd pa u:Int} (u1:1≤u) (u2:u≤247) {q:Rq} (hq:q.ok=true) {a:At} (ha:a.ok) {v:Int} {O:Oc} {z:Bool} {x:Tx} (hun:x.un=u) (hxq:x.q=q)
  (hR:rcvF l a bd pa (rqFrame u q)≠[]) (hH:Heard1 x (rcvF l a bd pa (rqFrame u q)) z v O) (hz:a.fault=0∨a.fault=6∧a.ticks≤750→z=true):AttR l a bd pa u q v O:=by
 have hd:=busDec_frame l bd pa u1 u2 hq;have hne:memb l bd pa u l.length≠[]:=fun e=>hR (by
  unfold rcvF busAns busBusy
  rw[hd,if_pos e]
  split
  ·rfl
  ·split
   ·rfl
   ·split
    ·rename_i k
     unfold loneB at k
     rw[hd,if_pos e] at k
     cases k.2
    ·rfl)
 have hf12:¬(a.fault=1∨a.fault=2):=fun e=>hR (by unfold rcvF;rw[if_pos e])
 obtain⟨j,ms,hms⟩:∃j ms,memb l bd pa u l.length=j::ms:=List.exists_cons_of_ne_nil hne;obtain⟨s,hs,hm⟩:=memb_mem (l:=l) (bd:=bd) (pa:=pa) (un:=u) (k:=l.length) (j:=j) (by rw[hms];exact List.mem_cons_self);obtain⟨e1,e2,e3⟩:=isMb_eq hm;have hv:=hB.2 s (List.mem_of_getElem? hs);have hsp:=rcvF_split hB hs hq ha hf12;rw[e1,e2,e3] at hsp;unfold Heard1 at hH;rw[hun,hxq] at hH;by_cases hc:1<(memb l bd pa u l.length).length∨a.fault=3
 ·rw [if_pos hc] at hsp
  rw[judgeB_no hsp] at hH;have hv4:v=4:=by
   rcases hH with⟨-,k⟩|⟨-,k⟩
   ·rcases k with⟨k,-⟩|⟨-,k,-⟩
    ·exact absurd k (by decide)
    ·exact k
   ·exact k
  exact⟨.inr (.inr (.inl hv4)),fun e=>by omega,fun e=>absurd e hne,fun _=>.inr hv4,fun hfi _=>⟨fun _=>hv4,fun k=>by rcases hc with hc|hc<;>omega⟩⟩
 ·rw [if_neg hc] at hsp
  have hone:ms=[]:=by
   cases ms with
   |nil=>rfl
   |cons y r=>exact absurd (.inl (by rw[hms];show 1<r.length+1+1;omega)) hc
  subst hone;have hl1:¬1<(memb l bd pa u l.length).length:=fun k=>hc (.inl k)
  rw[judgeB_yes hsp] at hH;by_cases h5:a.fault=5
  ·rw [if_pos h5,judge_busy hq] at hH
   have hv45:v=4∨v=5:=by
    rcases hH with⟨-,k⟩|⟨-,k⟩
    ·rcases k with⟨k,-⟩|⟨-,k,-⟩
     ·exact absurd k (by decide)
     ·exact .inr k
    ·exact .inl k
   exact⟨by omega,fun e=>by omega,fun e=>absurd e hne,fun k=>absurd k hl1,fun hfi _=>by omega⟩
  ·rw [if_neg h5,judge_ans hv hq a.value] at hH
   have hgood:(if (s.ans q a.value).exc=0 then (1:Int) else 2)=1∨(if (s.ans q a.value).exc=0 then (1:Int) else 2)=2:=by split<;>omega
   rcases hH with⟨hzt,k⟩|⟨hzf,k⟩
   ·rcases k with⟨-,k0,kO⟩|⟨k,-⟩
    ·exact ⟨.inl k0,fun _=>⟨j,s,hms,hs,kO⟩,fun e=>absurd e hne,fun k=>absurd k hl1,fun _ _=>⟨fun k=>absurd k hl1,fun _=>k0⟩⟩
    ·exact absurd hgood k
   ·exact ⟨.inr (.inr (.inl k)),fun e=>by omega,fun e=>absurd e hne,fun k=>absurd k hl1,fun hfi _=>by rw[hz hfi] at hzf;cases hzf⟩
theorem att_any {l:List Sl} (hB:BusP l) {ats:List At} (hA:∀z∈ats,z.ok) (lp:Bool) {bd pa:Int} (hset:Okset bd pa) {u:Int} (u1:1≤u) (u2:u≤247) {q:Rq} (hq:q.ok=true)
  {x:Tx} {n:Ln} (hb:x.b=bd) (hp:x.p=pa) (hun:x.un=u) (hxq:x.q=q) (hti:0≤x.ti) (hde:0≤x.de) (hpend:n.pend=[]) {a:At} (ha:a=atOf ats lp n.sent.length) (hlat:a.lat≤x.ti) (htk:a.ticks≤x.de) {tick:Int} (t0:0≤tick) (hnl:n.last≤tick):
  ∃v O,AttEnd (x.sent (tick+frameT bd (rqFrame u q).length)) (n.sent++[((bd,pa),rqFrame u q)]) (Du.mk (n.send l ats lp bd pa (rqFrame u q) tick) (x.sent (tick+frameT bd (rqFrame u q).length))).heard v O (tick+frameT bd (rqFrame u q).length+drainT bd x.ti x.de)∧AttR l a bd pa u q v O:=by
 subst hb hp;have hao:a.ok:=by rw[ha];exact atOf_ok hA lp _
 obtain⟨a1,a2,a3,a4,a5,a6⟩:=At.ok_bd hao;obtain⟨t1,t2,t3,t4,t5,t6⟩:=cK hset;have hfl:=(rqFrame_len u q).2;obtain⟨f1,f2⟩:=frame_bd hset hfl;have hRl:=rcvF_len hB a x.b x.p (rqFrame u q);have hright:=fun h6=>rcvF_right (l:=l) hB (a:=a) h6 (bd:=x.b) (pa:=x.p) u1 u2 hq
 generalize hR:rcvF l a x.b x.p (rqFrame u q)=R at*;have hnews:(n.send l ats lp x.b x.p (rqFrame u q) tick).pend=chsN (charT x.b) (begT x.b a tick (rqFrame u q).length) a R R.length:=by
  show (newsF l (atOf ats lp n.sent.length) x.b x.p (rqFrame u q) tick).foldl putL n.pend=_;rw[hpend,←ha];unfold newsF;rw[hR];exact puts_asc (chsN_asc (by omega) (by omega) R R.length)
 have hst0:begT x.b a tick (rqFrame u q).length=tick+frameT x.b (rqFrame u q).length+t35T x.b+a.lat+(if a.fault=4 then a.ticks else 0):=rfl;generalize begT x.b a tick (rqFrame u q).length=st at*;generalize hen:tick+frameT x.b (rqFrame u q).length=en at*;have hmem:∀c∈chsN (charT x.b) st a R R.length,en+charT x.b≤c.at_∧c.at_+t35T x.b+charT x.b≤en+drainT x.b x.ti x.de:=fun c hc=>by
  unfold chsN at hc;obtain⟨i,hi,rfl⟩:=List.mem_map.1 hc;have hi:=List.mem_range.1 hi;have g1:charT x.b≤((i:Int)+1)*charT x.b:=by
   have:=Int.mul_le_mul_of_nonneg_right (show (1:Int)≤(i:Int)+1 by omega) (show 0≤charT x.b by omega)
   rwa [Int.one_mul] at this
  have g2:((i:Int)+1)*charT x.b≤256*charT x.b:=Int.mul_le_mul_of_nonneg_right (by omega) (by omega);show en+charT x.b≤st+((i:Int)+1)*charT x.b+(if a.fault=6∧a.pos≤(i:Int) then a.ticks else 0)∧st+((i:Int)+1)*charT x.b+(if a.fault=6∧a.pos≤(i:Int) then a.ticks else 0)+_+_≤_;rw[hst0];unfold drainT;generalize ((i:Int)+1)*charT x.b=m at*;split<;>split<;>omega
 have hsteps:∀c r,chsN (charT x.b) st a R R.length=c::r→c.du=charT x.b∧Steps (charT x.b) c r∧c.at_=st+charT x.b+(if a.fault=6∧a.pos≤0 then a.ticks else 0)∧(a.fault=0∨a.fault=6∧a.ticks≤750→Tight (charT x.b) (t15T x.b) c r):=fun c r h=>by
  cases hk:R.length with
  |zero=>
   rw[hk] at h;cases h
  |succ k=>
   rw[hk,chsN_cons] at h;injection h with h1 h2
   subst h1 h2;refine⟨rfl,steps_ch a5 R k 0,?_,fun hfi=>tight_any (fun e=>by omega) (by omega) R k 0⟩;show st+(((0:Nat):Int)+1)*charT x.b+_=_;rw[show (((0:Nat):Int)+1)=1 from rfl,Int.one_mul];rfl
 obtain⟨v,O,hend,hres⟩:=attempt_all (x:=x.sent en) (n:=n.send l ats lp x.b x.p (rqFrame u q) tick) hset rfl rfl rfl (by show 0≤en;omega) (by show (0:Int)≤en;omega) hti hde (en+drainT x.b x.ti x.de) rfl (by show tick+frameT x.b (rqFrame u q).length≤en;omega) (by show n.last≤en;omega)
  (by rw[hnews,chsN_len];exact hRl) (by rw[hnews];exact hmem) (fun c r h=>by rw[hnews] at h;exact⟨(hsteps c r h).1,(hsteps c r h).2.1⟩)
  (fun p' a' c' r' h hg f=>by
   rw[hnews] at h
   have hlen:=congrArg List.length h
   rw[chsN_len] at hlen
   simp only[List.length_append,List.length_cons,List.length_nil] at hlen
   have hmap:=congrArg (List.map vB) h
   rw[chsN_vB] at hmap
   have ea:(chsN (charT x.b) st a R R.length)[p'.length]?=some a':=by rw[h];simp
   have ec:(chsN (charT x.b) st a R R.length)[p'.length+1]?=some c':=by rw[h];simp
   unfold chsN at ea ec
   rw[List.getElem?_map,List.getElem?_range (by omega)] at ea ec
   injection ea with ea
   injection ec with ec
   have ea:chAt (charT x.b) st a p'.length (R.getD p'.length 0)=a':=ea
   have ec:chAt (charT x.b) st a (p'.length+1) (R.getD (p'.length+1) 0)=c':=ec
   have hgap:=chAt_gap (charT x.b) st a p'.length (R.getD p'.length 0) (R.getD (p'.length+1) 0)
   rw[ea,ec] at hgap
   have hg':t35T x.b<c'.at_-charT x.b-a'.at_:=hg
   rw[hgap] at hg'
   have h6:a.fault=6:=by
    rcases Classical.em (a.fault=6) with e|e
    ·exact e
    ·rw [if_neg (fun k=>e k.1)] at hg'
     omega
   have ht:(p'++[a']).map vB=R.take (p'.length+1):=by
    rw[hmap,List.map_append (l₂:=c'::r')]
    exact(List.take_left' (by simp)).symm
   rw[ht]
   rcases hright h6 with e|e
   ·rw [e] at hlen
    simp at hlen
   ·exact judge_cut e (by omega) _ _ f)
 refine⟨v,O,hend,?_⟩;rw[hnews] at hres;rcases hres with⟨hv3,hlate⟩|⟨c,r,z,hcr,hin,hH,hz⟩
 ·refine ⟨.inr (.inl hv3),fun e=>by omega,fun _=>hv3,fun _=>.inl hv3,fun hfi hne=>?_⟩
  exfalso;have hRn:R≠[]:=by
   obtain⟨j,ms,hms⟩:∃j ms,memb l x.b x.p u l.length=j::ms:=List.exists_cons_of_ne_nil hne;obtain⟨s,hs,hm⟩:=memb_mem (l:=l) (bd:=x.b) (pa:=x.p) (un:=u) (k:=l.length) (j:=j) (by rw[hms];exact List.mem_cons_self);obtain⟨e1,e2,e3⟩:=isMb_eq hm;have hsp:=rcvF_split hB hs hq hao (by omega);rw[e1,e2,e3,hR] at hsp;intro e;have hlen5:=rcvF_some hB hs hq (a:=a) (by omega);rw[e1,e2,e3,hR,e] at hlen5;exact absurd hlen5 (by decide)
  cases hk:R.length with
  |zero=>exact hRn (List.eq_nil_of_length_eq_zero hk)
  |succ k=>
   have h:=chsN_cons (charT x.b) st a R k;rw[←hk] at h;have h1:=(hsteps _ _ h).2.2.1;have h2:=hlate _ _ h;have h3:en+t35T x.b+x.ti+charT x.b<(chAt (charT x.b) st a 0 (R.getD 0 0)).at_:=h2;have hpos:a.fault=6→1≤a.pos:=fun e=>by
    have:=hao.2.2.2.2.2.2;omega
   rw[h1,hst0] at h3;split at h3<;>split at h3<;>omega
 ·rw [chsN_vB] at hH
  have hRn:R≠[]:=fun e=>by rw[e] at hcr;cases hcr
  rw[←hR] at hH hRn;exact rcv_judge hB u1 u2 hq hao hun hxq hRn hH (fun hfi=>hz ((hsteps c r hcr).2.2.2 hfi))
def Unf (a:At):Prop:=a.fault=0∨a.fault=6∧a.ticks≤750
structure Sc where
 l:List Sl
 ats:List At
 lp:Bool
 bd:Int
 pa:Int
 u:Int
 q:Rq
 re:Int
 ti:Int
 de:Int
 s0:List ((Int×Int)×List UInt8)
def Sc.ms (c:Sc):List Nat:=memb c.l c.bd c.pa c.u c.l.length
def Sc.at_ (c:Sc) (i:Nat):At:=atOf c.ats c.lp (c.s0.length+i)
def Sc.fr (c:Sc):List UInt8:=rqFrame c.u c.q
structure Sc.ok (c:Sc):Prop where
 bus:BusP c.l
 ats:∀z∈c.ats,z.ok
 set:Okset c.bd c.pa
 u1:1≤c.u
 u2:c.u≤247
 q:c.q.ok=true
 ti0:0≤c.ti
 ti1:c.ti≤5000000
 de0:0≤c.de
 de1:c.de≤5000000
 lat:∀i,(atOf c.ats c.lp i).lat≤c.ti
 tk:∀i,(atOf c.ats c.lp i).ticks≤c.de
structure Tr (c:Sc) (m:Nat) (t0:Int) (y:Du):Prop where
 sent:y.n.sent=c.s0++List.replicate m ((c.bd,c.pa),c.fr)
 pend:y.n.pend=[]
 free:y.n.free≤y.x.now
 last:y.n.last≤y.x.now
 now0:0≤y.x.now
 now1:y.x.now≤t0+15000000*m
 b:y.x.b=c.bd
 p:y.x.p=c.pa
 re:y.x.re=c.re
 ti:y.x.ti=c.ti
 de:y.x.de=c.de
 un:y.x.un=c.u
 q:y.x.q=c.q
 cnt:y.x.cnt=m
structure TrW (c:Sc) (m:Nat) (t0:Int) (y:Du):Prop where
 tr:Tr c m t0 y
 ph:y.x.ph=1
 le:(m:Int)≤c.re
 none:c.ms=[]→y.x.bad=false∧y.x.late=false
 many:1<c.ms.length→y.x.late=false∧((∃i,i<m∧Unf (c.at_ i))→y.x.bad=true)
 one:c.ms≠[]→¬1<c.ms.length→∀i,i<m→¬Unf (c.at_ i)
structure TrD (c:Sc) (m:Nat) (t0:Int) (y:Du):Prop where
 tr:Tr c m t0 y
 ph:y.x.ph=5
 m1:1≤m
 le:(m:Int)≤c.re+1
 vs:1≤y.x.out.verdict∧y.x.out.verdict≤5
 good:y.x.out.verdict=1∨y.x.out.verdict=2→∃j s,c.ms=[j]∧c.l[j]?=some s∧y.x.out=⟨if (s.ans c.q (c.at_ (m-1)).value).exc=0 then 1 else 2,s.ans c.q (c.at_ (m-1)).value⟩
 late:y.x.out.verdict=5→c.ms≠[]∧¬1<c.ms.length
 fair:(∃i:Nat,(i:Int)≤c.re∧Unf (c.at_ i))→(c.ms=[]→y.x.out.verdict=3)∧(1<c.ms.length→y.x.out.verdict=4)∧(c.ms≠[]→¬1<c.ms.length→y.x.out.verdict=1∨y.x.out.verdict=2)
def Sc.go (c:Sc) (y:Du):Du:=(Du.mk (y.n.send c.l c.ats c.lp c.bd c.pa c.fr y.x.now) (y.x.sent (y.x.now+frameT c.bd c.fr.length))).heard
theorem or_eq4 {b:Bool} {v:Int} {c:Bool} (h:c=(b||v==4)):c=true↔b=true∨v=4:=by
 rw[h,Bool.or_eq_true,beq_iff_eq]
theorem or_eq5 {b:Bool} {v:Int} {c:Bool} (h:c=(b||v==5)):c=true↔b=true∨v=5:=by
 rw[h,Bool.or_eq_true,beq_iff_eq]
theorem not_t {b:Bool} (h:¬b=true):b=false:=by cases b<;>simp_all
theorem TrW.next {c:Sc} (ok:c.ok) {m:Nat} {t0:Int} {y:Du} (h:TrW c m t0 y):TrW c (m+1) t0 (c.go y)∨TrD c (m+1) t0 (c.go y):=by
 have ht:=h.tr;obtain⟨v,O,hE,hA⟩:=att_any ok.bus ok.ats c.lp ok.set ok.u1 ok.u2 ok.q (x:=y.x) (n:=y.n) ht.b ht.p ht.un ht.q (by rw[ht.ti];exact ok.ti0) (by rw[ht.de];exact ok.de0) ht.pend (a:=c.at_ m)
  (by unfold Sc.at_;rw[ht.sent,List.length_append,List.length_replicate]) (by rw[ht.ti];exact ok.lat _) (by rw[ht.de];exact ok.tk _) (tick:=y.x.now) ht.now0 ht.last
 obtain⟨t1,t2,t3,t4,t5,t6⟩:=cK ok.set;obtain⟨f1,f2⟩:=frame_bd ok.set (rqFrame_len c.u c.q).2;have hn0:y.x.now+frameT c.bd c.fr.length≤(c.go y).x.now:=hE.now0;have hn1:(c.go y).x.now≤y.x.now+frameT c.bd c.fr.length+drainT c.bd y.x.ti y.x.de:=hE.now1;have hdr:drainT c.bd y.x.ti y.x.de=2*t35T c.bd+c.ti+c.de+257*charT c.bd:=by rw[ht.ti,ht.de];rfl
 have hT:Tr c (m+1) t0 (c.go y):=by
  have o1:=ok.ti1;have o2:=ok.de1;have o3:=ht.now1;have o4:=ht.now0;have f1':0≤frameT c.bd c.fr.length:=f1;have f2':frameT c.bd c.fr.length≤2346752:=f2;refine⟨?_,hE.pend,hE.free,hE.last,by omega,by omega,hE.lk.b.trans ht.b,hE.lk.p.trans ht.p,hE.lk.re.trans ht.re,hE.lk.ti.trans ht.ti,hE.lk.de.trans ht.de,hE.lk.un.trans ht.un,hE.lk.q.trans ht.q,?_⟩
  ·have e:(c.go y).n.sent=y.n.sent++[((c.bd,c.pa),c.fr)]:=hE.sent
   rw[e,ht.sent,List.append_assoc,←List.replicate_succ']
  ·have e:(c.go y).x.cnt=y.x.cnt+1:=hE.cnt
   rw[e,ht.cnt];rfl
 by_cases hv:v=0
 ·obtain ⟨g1,g2⟩:=hE.good hv
  obtain⟨j,s,e1,e2,e3⟩:=hA.v0 hv;have g2:(c.go y).x.out=O:=g2;have e1':c.ms=[j]:=e1;have hl:c.ms.length=1:=by rw[e1'];rfl
  have hvd:(c.go y).x.out.verdict=1∨(c.go y).x.out.verdict=2:=by
   rw[g2,e3];show (if _ then (1:Int) else 2)=1∨(if _ then (1:Int) else 2)=2;split<;>omega
  exact .inr ⟨hT,g1,by omega,by have:=h.le;omega,by omega,fun _=>⟨j,s,e1,e2,by rw[g2,e3];rfl⟩,fun e=>by omega,fun _=>⟨fun e=>(by rw[e] at hl;cases hl),fun e=>by omega,fun _ _=>hvd⟩⟩
 ·obtain ⟨b1,b2,b3,b4⟩:=hE.bad hv
  have b1:=or_eq4 (b:=y.x.bad) (c:=(c.go y).x.bad) b1;have b2:=or_eq5 (b:=y.x.late) (c:=(c.go y).x.late) b2;have hcnt:(y.x.sent (y.x.now+frameT c.bd c.fr.length)).cnt=(m:Int)+1:=by show y.x.cnt+1=_;rw[ht.cnt]
  have hre:(y.x.sent (y.x.now+frameT c.bd c.fr.length)).re=c.re:=ht.re;have hnone:c.ms=[]→(c.go y).x.bad=false∧(c.go y).x.late=false:=fun e=>by
   obtain⟨k1,k2⟩:=h.none e;have hv3:=hA.none e;exact⟨not_t (fun k=>by rcases b1.1 k with k|k;rw[k1] at k;cases k;omega),not_t (fun k=>by rcases b2.1 k with k|k;rw[k2] at k;cases k;omega)⟩
  have hmany:1<c.ms.length→(c.go y).x.late=false∧((∃i,i<m+1∧Unf (c.at_ i))→(c.go y).x.bad=true):=fun e=>by
   obtain⟨k1,k2⟩:=h.many e;have hv34:=hA.many e;refine⟨not_t (fun k=>by rcases b2.1 k with k|k;rw[k1] at k;cases k;omega),fun ⟨i,hi,hu⟩=>b1.2 ?_⟩;by_cases him:i=m
   ·subst him
    exact .inr ((hA.fine hu (fun k=>by
     have k':c.ms=[]:=k
     rw[k'] at e
     exact absurd e (by decide))).1 e)
   ·exact .inl (k2 ⟨i,by omega,hu⟩)
  have hone:c.ms≠[]→¬1<c.ms.length→∀i,i<m+1→¬Unf (c.at_ i):=fun e1 e2 i hi hu=>by
   by_cases him:i=m
   ·subst him
    exact hv ((hA.fine hu e1).2 e2)
   ·exact h.one e1 e2 i (by omega) hu
  by_cases hc:(m:Int)+1≤c.re
  ·have hq1:(y.x.sent (y.x.now+frameT c.bd c.fr.length)).cnt≤(y.x.sent (y.x.now+frameT c.bd c.fr.length)).re:=by rw[hcnt,hre];exact hc
   obtain⟨p1,-⟩:=b3 hq1;exact .inl ⟨hT,p1,by omega,hnone,hmany,hone⟩
  ·have hq2:¬(y.x.sent (y.x.now+frameT c.bd c.fr.length)).cnt≤(y.x.sent (y.x.now+frameT c.bd c.fr.length)).re:=by rw[hcnt,hre];exact hc
   obtain⟨p1,p2⟩:=b4 hq2;have p2:(c.go y).x.out=⟨if (c.go y).x.bad=true then 4 else if (c.go y).x.late=true then 5 else 3,Rp.zero⟩:=p2;have hvd:(c.go y).x.out.verdict=if (c.go y).x.bad=true then 4 else if (c.go y).x.late=true then 5 else 3:=by rw[p2]
   have hle:=h.le;refine .inr ⟨hT,p1,by omega,by omega,?_,fun e=>?_,fun e=>?_,fun ⟨i,hi,hu⟩=>⟨fun e=>?_,fun e=>?_,fun e1 e2=>absurd hu (hone e1 e2 i (by omega))⟩⟩
   ·rw [hvd]
    split
    ·omega
    ·split<;>omega
   ·rw [hvd] at e
    exfalso;split at e
    ·omega
    ·split at e<;>omega
   ·rw [hvd] at e
    split at e
    ·omega
    ·rename_i hb
     refine⟨fun k=>?_,fun k=>?_⟩
     ·rw [if_neg (by rw[(hnone k).2];decide)] at e
      omega
     ·rw [if_neg (by rw[(hmany k).1];decide)] at e
      omega
   ·rw [hvd,(hnone e).1,(hnone e).2]
    rfl
   ·rw [hvd,if_pos ((hmany e).2 ⟨i,by omega,hu⟩)]
theorem Tr.sendE {c:Sc} {m:Nat} {t0:Int} {y:Du} (h:Tr c m t0 y) (ht:y.x.now≤600000000000000000):y.n.sendE c.fr.length y.x.now=0:=by
 have h1:4≤c.fr.length∧c.fr.length≤256:=rqFrame_len c.u c.q;have h2:=h.now0;have h3:=h.free;have h4:topT=1152921504606846976:=rfl;unfold Ln.sendE;rw[h4,if_neg (by omega),if_neg (by omega),if_neg (by omega)]
end Go.Proofs.YtoaoejaodhedaaaGreat
