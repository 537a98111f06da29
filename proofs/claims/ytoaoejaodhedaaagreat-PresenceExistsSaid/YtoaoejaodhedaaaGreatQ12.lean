import Derived.Test.YtoaoejaodhedaaaGreatQ11
namespace Go.Proofs.YtoaoejaodhedaaaGreat
open Go.RowKit
set_option maxHeartbeats 3200000
set_option maxRecDepth 100000
theorem crcExt_snoc (c:Nat) (l:List UInt8) (x:UInt8):crcExt c (l++[x])=crcUpd (crcExt c l) x.toNat:=by simp [crcExt]
theorem steps_shift (k y:Nat):crcSteps k (2^k*y)=y:=by
 induction k generalizing y with
 |zero=>simp [crcSteps]
 |succ k ih=>
  rw[crcSteps,show 2^(k+1)*y=2^k*(2*y) by rw[Nat.pow_succ,Nat.mul_assoc],ih,step_even]
theorem upd2 (s x y:Nat):crcUpd (crcUpd s x) y=crcSteps 16 (s^^^x^^^256*y):=by
 have h:=steps_shift 8 y;have h2:crcSteps 8 (s^^^x)^^^y=crcSteps 8 (s^^^x^^^256*y):=by
  rw[steps_xor 8 (s^^^x)];rw[show (256:Nat)=2^8 from rfl,h]
 unfold crcUpd;rw[h2,←steps_add]
theorem join_bytes (x y:Nat) (hx:x<256):x^^^256*y=x+256*y:=by
 apply Nat.eq_of_testBit_eq;intro i;rw[Nat.testBit_xor,show x+256*y=2^8*y+x by omega,Nat.testBit_two_pow_mul_add y (show x<2^8 by omega)];rw[show (256:Nat)=2^8 from rfl,Nat.testBit_two_pow_mul];by_cases h:i<8
 ·rw [if_pos h]
  have:¬(8≤i):=by omega
  simp [this]
 ·rw [if_neg h]
  have h1:x.testBit i=false:=Nat.testBit_lt_two_pow (Nat.lt_of_lt_of_le (show x<2^8 by omega) (Nat.pow_le_pow_right (by decide) (by omega)));have:8≤i:=by omega
  simp [h1,this]
theorem xor_zero_iff (a b:Nat):a^^^b=0↔a=b:=by
 constructor
 ·intro h
  have:=congrArg (· ^^^b) h;simpa [Nat.xor_assoc] using this
 ·rintro rfl;exact Nat.xor_self a
theorem upd2_zero (s x y:Nat) (hs:s<65536) (hx:x<256) (hy:y<256):crcUpd (crcUpd s x) y=0↔x=s%256∧y=s/256:=by
 rw[upd2,Nat.xor_assoc,join_bytes x y hx];have hlt:s^^^(x+256*y)<65536:=xor16 hs (by omega);constructor
 ·intro h
  have h0:s^^^(x+256*y)=0:=by
   rcases Nat.eq_zero_or_pos (s^^^(x+256*y)) with h1|h1
   ·exact h1
   ·exact absurd h (steps_ne 16 hlt (by omega))
  have:=(xor_zero_iff _ _).1 h0;omega
 ·rintro ⟨h1,h2⟩
  have:s^^^(x+256*y)=0:=(xor_zero_iff _ _).2 (by omega);rw[this,steps_zero]
theorem split2 (l:List UInt8) (h:2≤l.length):l=l.take (l.length-2)++[l.getD (l.length-2) 0,l.getD (l.length-1) 0]:=by
 apply List.ext_getElem
 ·simp;omega
 ·intro i h1 h2
  by_cases hi:i<l.length-2
  ·rw [List.getElem_append_left (by simp;omega)]
   simp
  ·rw [List.getElem_append_right (by simp;omega)]
   simp only[List.length_take,Nat.min_eq_left (Nat.sub_le _ _)];by_cases h3:i=l.length-2
   ·subst h3;simp [List.getD];rw[List.getElem?_eq_getElem h1];rfl
   ·have h4:i=l.length-1:=by omega
    subst h4;have h5:l.length-1- (l.length-2)=1:=by omega
    simp only[h5];simp [List.getD];rw[List.getElem?_eq_getElem h1];rfl
theorem chk_iff (l:List UInt8):crcChk l=true↔2≤l.length∧crcExt 65535 l=0:=by
 unfold crcChk;by_cases h:2≤l.length
 ·have hs:=crcExt_lt (l.take (l.length-2)) (show 65535<65536 by decide)
  have e:crcExt 65535 l=crcUpd (crcUpd (crcExt 65535 (l.take (l.length-2))) (l.getD (l.length-2) 0).toNat) (l.getD (l.length-1) 0).toNat:=by
   conv=>lhs;rw[split2 l h]
   rw[show l.take (l.length-2)++[l.getD (l.length-2) 0,l.getD (l.length-1) 0]=(l.take (l.length-2)++[l.getD (l.length-2) 0])++[l.getD (l.length-1) 0] by simp,crcExt_snoc,crcExt_snoc]
  rw[e,upd2_zero _ _ _ hs (byte_lt _) (byte_lt _)];simp [h]
 ·simp [h]
theorem tail_zero (l:List UInt8):crcExt 65535 (l++crcTail l)=0:=by
 have hs:=crcExt_lt l (show 65535<65536 by decide);rw[show l++crcTail l=(l++[UInt8.ofNat (crcExt 65535 l)])++[UInt8.ofNat (crcExt 65535 l/256)] by simp [crcTail],crcExt_snoc,crcExt_snoc];rw[upd2_zero _ _ _ hs (byte_lt _) (byte_lt _)];constructor
 ·simp
 ·simp;omega
theorem chk_tail (l:List UInt8):crcChk (l++crcTail l)=true:=(chk_iff _).2 ⟨by simp [crcTail],tail_zero l⟩
theorem chk_err (f g:List UInt8) (e:Nat→Bool) (hl:g.length=f.length) (hf:crcExt 65535 f=0) (hb:∀p,p<8*f.length→bitAt g p=(bitAt f p^^e p))
  (he:bfold 0 e (8*f.length)≠0):crcChk g=false:=by
 have h1:crcExt 65535 g=bfold 0 e (8*f.length):=by
  rw[ext_bits,hl,bfold_congr _ hb];have:=bfold_xor 65535 0 (bitAt f) e (8*f.length);rw[Nat.xor_zero] at this;rw[this,←ext_bits,hf,Nat.zero_xor]
 cases hc:crcChk g with
 |false=>rfl
 |true=>exact absurd (h1▸((chk_iff g).1 hc).2) he
theorem bfold_num (e:Nat→Bool) (r:Nat):bfold 0 e r=crcSteps r (numOf e r):=by
 have h:=steps_bits 0 (numOf e r) r;rw[Nat.zero_xor,Nat.div_eq_of_lt (numOf_lt e r),Nat.xor_zero] at h;rw[h];apply bfold_congr;intro p hp;rw[numOf_bit];simp [hp]
theorem burst_ne (e:Nat→Bool) (a n:Nat) (han:a<n) (h0:∀p,p<a→e p=false) (h1:e a=true) (h2:∀p,a+16≤p→e p=false):bfold 0 e n≠0:=by
 obtain⟨r,hr,hr1,hr2⟩:∃r,0<r∧r≤16∧(a+r=n∨(r=16∧a+r≤n)):=by
  by_cases h:n-a≤16
  ·exact ⟨n-a,by omega,h,.inl (by omega)⟩
  ·exact ⟨16,by omega,by omega,.inr ⟨rfl,by omega⟩⟩
 have hx:bfold 0 e (a+r)≠0:=by
  rw[bfold_add,bfold_zeros 0 e a h0,steps_zero,bfold_num];refine steps_ne r (Nat.lt_of_lt_of_le (numOf_lt _ r) (show 2^r≤2^16 from Nat.pow_le_pow_right (by decide) hr1)) ?_;intro hz;have:=numOf_bit (fun p=>e (a+p)) r 0;rw[hz] at this;simp [hr,h1] at this
 rcases hr2 with h|⟨h,h'⟩
 ·rw [←h];exact hx
 ·obtain ⟨q,rfl⟩:∃q,n=a+r+q:=⟨n- (a+r),by omega⟩
  rw[bfold_add,bfold_zeros _ _ q (fun p _=>h2 _ (by omega))];exact steps_ne q (bfold_lt (by decide) e _) hx
theorem own_lit (w:World) (base:Nat) (e:TypeId) (x:UInt8) (hb:base≤w.heap.size):
  (w.alloc (.cells #[.int .u8 (x.toNat:Int)] e)).ownsRow base e 1 (.slice (some ⟨w.heap.size,0,none⟩) 1 1) [x].length (u8s [x]):=
 ⟨rfl,.inr ⟨w.heap.size,1,_,rfl,hb,heap_alloc_new _ _,Nat.le_refl _,by decide,rfl,rfl⟩⟩
theorem Bs.cutAt {w:World} {b o c:Nat} {n:Nat} {l:List UInt8} (h:Bs w (.slice (some ⟨b,o,none⟩) n c) l) (k m:Nat) (hkm:k≤m) (hm:m≤n):
  Bs w (.slice (some ⟨b,o+k,none⟩) (m-k) (c-k)) ((l.take m).drop k):=by
 obtain⟨a',c',hv,h1,h2,h3,h4⟩:=h;cases hv;have e:((l.take m).drop k).length=m-k:=by simp;omega
 refine⟨_,_,by rw[e],by omega,by omega,fun h=>by simp at h,fun hne=>?_⟩;have hl:l≠[]:=by rintro rfl;simp at hne
 obtain⟨b',o',hb,hc⟩:=h4 hl;cases hb;refine⟨b,o+k,rfl,fun i hi=>?_⟩;rw[e] at hi;rw[Nat.add_assoc,hc (k+i) (by omega)];have:((l.take m).drop k).getD i 0=l.getD (k+i) 0:=by simp [List.getD];rw[List.getElem?_take_of_lt (by omega)]
 rw[this]
def aduF (x:UInt8) (l:List UInt8):List UInt8:=(x::l)++crcTail (x::l)
theorem aduF_length (x:UInt8) (l:List UInt8):(aduF x l).length=l.length+3:=by simp [aduF,crcTail]
theorem poss_yes (u:Int) (h1:1≤u) (h2:u≤247) (w:World):
  Calls Tryz.prog 156 #[.int .i64 u] w fun r w'=>r=.returned (.bool true)∧w=w':=by
 go_enter Tryz.func156,Tryz.ntmps156;go_wp2;go_ret;exact⟨rfl,rfl⟩
theorem poss_no (u:Int) (h1:u<1∨247<u) (w:World):
  Calls Tryz.prog 156 #[.int .i64 u] w fun r w'=>r=.returned (.bool false)∧w=w':=by
 rcases h1 with h1|h1
 ·go_enter Tryz.func156,Tryz.ntmps156
  go_wp2;go_ret;exact⟨rfl,rfl⟩
 ·have h2:1≤u:=by omega
  have hd:decide (u≤247)=false:=by simp;omega
  go_enter Tryz.func156,Tryz.ntmps156;go_wp2;go_ret;exact⟨rfl,rfl⟩
theorem build_range (u:Int) (h1:u<1∨247<u) (v:Value) (w:World):
  Calls Tryz.prog 123 #[.int .i64 u,v] w fun r w'=>r=.returned (.tuple #[.slice none 0 0,.int .i64 3])∧w=w':=by
 go_enter Tryz.func123,Tryz.ntmps123;go_wp2_with (first|(go_at_call 156;refine(poss_no _ h1 _).mono ?_;rintro r w1 ⟨rfl,rfl⟩)|fail);go_ret2;exact⟨rfl,rfl⟩
theorem build_len (u:Int) (h1:1≤u) (h2:u≤247) (v:Value) (l:List UInt8) (hl:l.length<1∨253<l.length) (w:World) (hv:Bs w v l):
  Calls Tryz.prog 123 #[.int .i64 u,v] w fun r w'=>r=.returned (.tuple #[.slice none 0 0,.int .i64 4])∧w=w':=by
 obtain⟨a,c,rfl,_⟩:=hv;rcases hl with hl|hl
 ·go_enter Tryz.func123,Tryz.ntmps123
  go_wp2_with (first|(go_at_call 156;refine(poss_yes _ h1 h2 _).mono ?_;rintro r w1 ⟨rfl,rfl⟩)|fail);go_ret2;exact⟨rfl,rfl⟩
 ·have h3:1≤l.length:=by omega
  go_enter Tryz.func123,Tryz.ntmps123;go_wp2_with (first|(go_at_call 156;refine(poss_yes _ h1 h2 _).mono ?_;rintro r w1 ⟨rfl,rfl⟩)|fail);go_ret2;exact⟨rfl,rfl⟩
theorem build_ok (x:UInt8) (h1:1≤(x.toNat:Int)) (h2:(x.toNat:Int)≤247) (v:Value) (l:List UInt8) (h3:1≤l.length) (h4:l.length≤253) (w:World) (hv:Bs w v l):
  Calls Tryz.prog 123 #[.int .i64 (x.toNat:Int),v] w fun r w'=>∃v',r=.returned (.tuple #[v',.int .i64 0])∧w'.ownsRow w.heap.size 5 1 v' (l.length+3) (u8s (aduF x l))∧Below w.heap.size w w':=by
 obtain⟨i5,hi,hz0,hz1,hz2⟩:=info_parts infoB;have hb0:(w.alloc (.cells #[.int .u8 (x.toNat:Int)] 5)).ownsRow w.heap.size 5 1 (.slice (some ⟨w.heap.size,0,none⟩) 1 1) [x].length (u8s [x]):=own_lit w w.heap.size _ x (Nat.le_refl _);have hv1:=hv.keep (bH w (.cells #[.int .u8 (x.toNat:Int)] 5));obtain⟨a,c,rfl,_⟩:=id hv;clear hv;go_enter Tryz.func123,Tryz.ntmps123;go_wp2_with (first|(go_at_call 156;refine(poss_yes _ h1 h2 _).mono ?_;rintro r w1 ⟨rfl,rfl⟩)|(at_builtin;refine wpList_app rfl _ _ 50 rfl w.heap.size 5 i5 Tryz.underlying50 hi hz0 hz1 hz2 (.slice (some ⟨w.heap.size,0,none⟩) 1 1) [x] rfl hb0 _ l rfl hv1 ?c1 ?c2 ?c3))
 any_goals first|omega|(simp;done)|(simp;omega)
 case c3=>
  intro v2 w2 hown hgr;have hbel:=(bH w (.cells #[.int .u8 (x.toNat:Int)] 5)).grown hgr (bH w (.cells #[.int .u8 (x.toNat:Int)] 5)).size (by intro k hk;simp [Value.ownBlock] at hk;omega);have HB:Hid (Bs w2 v2 (x::l)):=Bs.own hown;have hll:(x::l).length=l.length+1:=rfl;have HLL:=bC hll;clear hgr hown hb0 hv1 hll;go_wp2_with (first|(go_at_call 157;refine(append_any _ _ _ HB.out (by have:=HLL.out;omega)).mono ?_;rintro r w3 ⟨v3,rfl,hown3,hbel3⟩)|fail);go_ret2;exact⟨_,rfl,bQ hown3 hbel.size,bU hbel hbel3⟩
theorem split_len (v:Value) (l:List UInt8) (hl:l.length<4∨256<l.length) (w:World) (hv:Bs w v l):
  Calls Tryz.prog 146 #[v] w fun r w'=>r=.returned (.tuple #[.int .i64 0,.slice none 0 0,.int .i64 4])∧w=w':=by
 obtain⟨a,c,rfl,_⟩:=hv;rcases hl with hl|hl
 ·go_enter Tryz.func146,Tryz.ntmps146
  go_wp2;go_ret3;exact⟨rfl,rfl⟩
 ·have h3:4≤l.length:=by omega
  go_enter Tryz.func146,Tryz.ntmps146;go_wp2;go_ret3;exact⟨rfl,rfl⟩
theorem split_crc (v:Value) (l:List UInt8) (h1:4≤l.length) (h2:l.length≤256) (hc:crcChk l=false) (w:World) (hv:Bs w v l):
  Calls Tryz.prog 146 #[v] w fun r w'=>r=.returned (.tuple #[.int .i64 0,.slice none 0 0,.int .i64 10])∧Below w.heap.size w w':=by
 have HC:=bC (check_any v l w hv);rw[hc] at HC;obtain⟨a,c,rfl,_⟩:=hv;clear hc;go_enter Tryz.func146,Tryz.ntmps146;go_wp2_with (first|(go_at_call 175;refine HC.out.mono ?_;rintro r w1 ⟨rfl,hbel⟩)|fail);go_ret3;exact⟨rfl,hbel⟩
theorem split_range (v:Value) (l:List UInt8) (h1:4≤l.length) (h2:l.length≤256) (hc:crcChk l=true) (h3:((l.getD 0 0).toNat:Int)<1∨247<((l.getD 0 0).toNat:Int)) (w:World) (hv:Bs w v l):
  Calls Tryz.prog 146 #[v] w fun r w'=>r=.returned (.tuple #[.int .i64 0,.slice none 0 0,.int .i64 3])∧Below w.heap.size w w':=by
 have HC:=bC (check_any v l w hv);rw[hc] at HC;obtain⟨b,o,c,rfl,h4,h5,hcell⟩:=hv.at (by rintro rfl;simp at h1);have hc0:w.cell? ⟨b,o,none⟩=some (.int .u8 ((l.getD 0 0).toNat:Int)):=hcell 0 (by omega);have hx:=byte_lt (l.getD 0 0);generalize (l.getD 0 0).toNat=x at*;clear hc hcell hv;have hp:0<l.length:=by omega
 go_enter Tryz.func146,Tryz.ntmps146;go_wp2_with (first|(go_at_call 175;refine HC.out.mono ?_;rintro r w1 ⟨rfl,hbel⟩;replace hc0:=bD hbel hc0)|(go_at_call 156;(with_reducible refine(poss_no _ h3 _).mono ?_);rintro r w2 ⟨rfl,rfl⟩)|fail);go_ret3;exact⟨rfl,hbel⟩
def aduP (l:List UInt8):List UInt8:=(l.take (l.length-2)).drop 1
theorem split_ok (v:Value) (l:List UInt8) (h1:4≤l.length) (h2:l.length≤256) (hc:crcChk l=true) (h3:1≤((l.getD 0 0).toNat:Int)) (h3':((l.getD 0 0).toNat:Int)≤247) (w:World) (hv:Bs w v l):
  Calls Tryz.prog 146 #[v] w fun r w'=>∃v',r=.returned (.tuple #[.int .i64 (l.getD 0 0).toNat,v',.int .i64 0])∧w'.ownsRow w.heap.size 5 1 v' (l.length-3) (u8s (aduP l))∧Below w.heap.size w w':=by
 have HC:=bC (check_any v l w hv);rw[hc] at HC;obtain⟨b,o,c,rfl,h4,h5,hcell⟩:=hv.at (by rintro rfl;simp at h1);unfold maxLen at h5;have hc0:w.cell? ⟨b,o,none⟩=some (.int .u8 ((l.getD 0 0).toNat:Int)):=hcell 0 (by omega);have HP:Hid (Bs w (.slice (some ⟨b,o+1,none⟩) (l.length-2-1) (c-1)) (aduP l)):=hv.cutAt 1 (l.length-2) (by omega) (by omega);have hpl:(aduP l).length=l.length-3:=by simp [aduP];omega
 obtain⟨n,hn⟩:∃n,l.length=n+3:=⟨l.length-3,by omega⟩
 rw[hn] at h1 h2 h4 hpl HP HC ⊢;rw[show n+3-2-1=n by omega] at HP;rw[show n+3-3=n by omega] at hpl ⊢;generalize (l.getD 0 0).toNat=x at*;generalize aduP l=p at*;have HPL:=bC hpl;clear hc hcell hv hn hpl;go_enter Tryz.func146,Tryz.ntmps146;go_wp2_with (first|(go_at_call 175;refine HC.out.mono ?_;rintro r w1 ⟨rfl,hbel⟩;replace hc0:=bD hbel hc0)|(go_at_call 156;refine(poss_yes _ h3 h3' _).mono ?_;rintro r w2 ⟨rfl,rfl⟩)|fail);have HP1:Hid (Bs w1.drew (.slice (some ⟨b,o+1,none⟩) n (c-1)) p):=HP.out.keep hbel.drew;have q0:IntKind.i64.wrap (x:Int)=x:=IntWalk.i64_in _ (by omega);have q5:¬c=1:=by omega
 have q1:(0:Int)<(n:Int)+3:=by omega
 have q2:IntKind.i64.wrap ((n:Int)+3-2)=(n:Int)+1:=by rw[IntWalk.i64_in _ (by omega)];omega
 have q3:(1:Int)≤(n:Int)+1:=by omega
 have q4:(n:Int)+1≤(c:Int):=by omega
 go_region_held3 (fun W=>W.cell? ⟨b,o,none⟩=some (.int .u8 x)) ((first|assumption|(exact bD (by assumption) (by assumption)))) ((go_at_call 80;refine(cL _ _ _ HP1.out (by have:=HPL.out;omega)).mono ?_;rintro r w3 ⟨v',rfl,hown,hbel3⟩));go_wp2;go_ret3;exact⟨_,rfl,by rw[HPL.out] at hown;exact bQ hown hbel.size,bU hbel.drew hbel3⟩
theorem SplitPost.own {w w':World} {u:Int} {v:Value} {n:Nat} {p:List UInt8} {e:TypeId} {o:Option (Int×List UInt8)} (hn:p.length=n) (ho:o=some (u,p)) (hown:w'.ownsRow w.heap.size e 1 v n (u8s p)) (hb:Below w.heap.size w w'):
  SplitPost w o (.returned (.tuple #[.int .i64 u,v,.int .i64 0])) w':=by
 subst hn;have hbs:=Bs.own hown;have hlt:=hown.lt;obtain⟨a3,c3,rfl,_⟩:=id hbs;exact⟨u,a3,_,c3,0,rfl,hb,.inl ⟨rfl,p,ho,fun W hW=>hbs.agree (fun ad had=>(hlt ad.block (by rw[had];rfl)).1) hW⟩⟩
theorem psplit_any (a:Option Addr) (n c:Nat) (l:List UInt8) (w:World) (hb:Bs w (.slice a n c) l):
  Calls Tryz.prog 146 #[.slice a n c] w (SplitPost w (splitB crcChk l)):=by
 by_cases h1:l.length<4∨256<l.length
 ·refine (split_len _ l h1 w hb).mono ?_
  rintro r w' ⟨rfl,rfl⟩;exact SplitPost.err (by unfold splitB;rw[if_neg (by omega)]) _ _ _ _ _ (by decide) (Below.refl _ _)
 ·cases hc:crcChk l with
  |false=>
   refine(split_crc _ l (by omega) (by omega) hc w hb).mono ?_;rintro r w' ⟨rfl,h⟩;exact SplitPost.err (by unfold splitB;rw[if_neg (fun h=>by rw[hc] at h;cases h.2.2.1)]) _ _ _ _ _ (by decide) h
  |true=>
   by_cases h2:((l.getD 0 0).toNat:Int)<1∨247<((l.getD 0 0).toNat:Int)
   ·refine (split_range _ l (by omega) (by omega) hc h2 w hb).mono ?_
    rintro r w' ⟨rfl,h⟩;exact SplitPost.err (by unfold splitB;rw[if_neg (fun h=>by omega)]) _ _ _ _ _ (by decide) h
   ·refine (split_ok _ l (by omega) (by omega) hc (by omega) (by omega) w hb).mono ?_
    rintro r w' ⟨v',rfl,hown,h⟩;exact SplitPost.own (by simp [aduP];omega) (by unfold splitB;rw[if_pos ⟨by omega,by omega,hc,by omega,by omega⟩];rfl) hown h
def buildB (u:Int) (p:List UInt8):Option (List UInt8):=if 1≤u∧u≤247∧1≤p.length∧p.length≤253 then some (aduF (UInt8.ofNat u.toNat) p) else none
def BuildPost (w:World) (o:Option (List UInt8)) (r:Ending) (w':World):Prop:=
 ∃(a:Option Addr) (c:Nat) (e:Int) (f:List UInt8),r=.returned (.tuple #[.slice a f.length c,.int .i64 e])∧w'.ownsRow w.heap.size 5 1 (.slice a f.length c) f.length (u8s f)∧Below w.heap.size w w'∧((e=0∧o=some f)∨(e≠0∧o=none∧f=[]))
theorem BuildPost.err {w:World} {o:Option (List UInt8)} (ho:o=none) (e:Int) (he:e≠0):BuildPost w o (.returned (.tuple #[.slice none 0 0,.int .i64 e])) w:=
 ⟨none,0,e,[],rfl,World.ownsRow_nil _ _ _ _,Below.refl _ _,.inr ⟨he,ho,rfl⟩⟩
theorem BuildPost.own {w w':World} {o:Option (List UInt8)} {v:Value} {n:Nat} {f:List UInt8} (hn:f.length=n) (ho:o=some f) (hown:w'.ownsRow w.heap.size 5 1 v n (u8s f)) (hb:Below w.heap.size w w'):
  BuildPost w o (.returned (.tuple #[v,.int .i64 0])) w':=by
 subst hn;obtain⟨a3,c3,rfl,_⟩:=id (Bs.own hown);exact⟨a3,c3,0,f,rfl,hown,hb,.inl ⟨rfl,ho⟩⟩
theorem byteU {u:Int} (h1:1≤u) (h2:u≤247):((UInt8.ofNat u.toNat).toNat:Int)=u:=by
 rw[UInt8.toNat_ofNat'];omega
theorem pbuild_any (u:Int) (a:Option Addr) (n c:Nat) (p:List UInt8) (w:World) (hb:Bs w (.slice a n c) p):
  Calls Tryz.prog 123 #[.int .i64 u,.slice a n c] w (BuildPost w (buildB u p)):=by
 by_cases h1:u<1∨247<u
 ·refine (build_range u h1 _ w).mono ?_
  rintro r w' ⟨rfl,rfl⟩;exact BuildPost.err (by unfold buildB;rw[if_neg (by omega)]) 3 (by decide)
 ·by_cases h2:p.length<1∨253<p.length
  ·refine (build_len u (by omega) (by omega) _ p h2 w hb).mono ?_
   rintro r w' ⟨rfl,rfl⟩;exact BuildPost.err (by unfold buildB;rw[if_neg (by omega)]) 4 (by decide)
  ·have hx:=byteU (u:=u) (by omega) (by omega)
   have:=build_ok (UInt8.ofNat u.toNat) (by omega) (by omega) _ p (by omega) (by omega) w hb;rw[hx] at this;refine this.mono ?_;rintro r w' ⟨v',rfl,hown,h⟩;exact BuildPost.own (aduF_length _ _) (by unfold buildB;rw[if_pos ⟨by omega,by omega,by omega,by omega⟩]) hown h
theorem bs2 (W:World) (n:Nat) (x y:Int) (h1:0≤x) (h2:x≤255) (h3:0≤y) (h4:y≤255) (hn:n=W.heap.size):Bs (W.alloc (.cells #[.int .u8 x,.int .u8 y] 5)) (.slice (some ⟨n,0,none⟩) 2 2) [byteI x,byteI y]:=by
 subst hn;refine Bs.mk (l:=[byteI x,byteI y]) (Nat.le_refl 2) (by unfold maxLen;decide) fun i hi=>?_
 rw[World.cell?_alloc_at _ _ _ _ rfl]
 match i,hi with
 |0,_=>show some (Value.int .u8 x)=some (.int .u8 ((byteI x).toNat:Int));rw[bP h1 h2]
 |1,_=>show some (Value.int .u8 y)=some (.int .u8 ((byteI y).toNat:Int));rw[bP h3 h4]
def EncPost (w:World) (l:List UInt8) (r:Ending) (w':World):Prop:=∃a c,r=.returned (.tuple #[.slice a l.length c,.int .i64 0])∧Bs w' (.slice a l.length c) l∧Below w.heap.size w w'∧∀ad,a=some ad→w.heap.size≤ad.block
theorem own1 (w:World) (base:Nat) (x:Int) (h1:0≤x) (h2:x≤255) (hb:base≤w.heap.size):
  (w.alloc (.cells #[.int .u8 x] 5)).ownsRow base 5 1 (.slice (some ⟨w.heap.size,0,none⟩) 1 1) 1 (u8s [byteI x]):=by
 refine⟨rfl,.inr ⟨w.heap.size,1,_,rfl,hb,heap_alloc_new _ _,Nat.le_refl _,by decide,rfl,?_⟩⟩;show [Value.int .u8 x]=[.int .u8 ((byteI x).toNat:Int)];rw[bP h1 h2]
def mkRq (k a b:Int):Rq:=
 if k%6=4 then ⟨17,0,0,0,0⟩ else if k%6=5 then ⟨43,0,0,1+a%3,b%256⟩
 else ⟨1+k%6,a%(65536- (1+b%limI (1+k%6))+1),1+b%limI (1+k%6),0,0⟩
theorem make_any (k a b:Int) (hk:(Lit.int .i64 k).wf=true) (ha:(Lit.int .i64 a).wf=true) (hb:(Lit.int .i64 b).wf=true) (w:World):
  Calls Tryz.prog 52 #[.int .i64 k,.int .i64 a,.int .i64 b] w fun r w'=>r=.returned (.agg #[.int .i64 (mkRq k a b).fn,.int .i64 (mkRq k a b).addr,.int .i64 (mkRq k a b).qty,.int .i64 (mkRq k a b).code,.int .i64 (mkRq k a b).obj])∧Below w.heap.size w w':=by
 have h1:=Int.emod_nonneg k (show (6:Int)≠0 by decide);have h2:=Int.emod_lt_of_pos k (show 0<(6:Int) by decide);have HM:Hid (∀W,Calls Tryz.prog 38 #[.int .i64 k,.int .i64 6] W fun r w'=>r=.returned (.int .i64 (k%6))∧W=w'):=fun W=>mod_any k 6 (by decide) (by decide) hk W
 have HB0:Hid (∀X:Obj,Below w.heap.size w (w.alloc X)):=fun X=>bH w X
 obtain⟨R,hR⟩:=gE (mkRq k a b);rw[hR];unfold mkRq at hR;obtain⟨m,hm⟩:∃m,k%6=m:=⟨_,rfl⟩
 rw[hm] at h1 h2 HM hR;clear hm hk;by_cases h4:m=4
 ·subst h4
  rw[if_pos rfl] at hR;subst hR;clear ha hb h1 h2;go_enter Tryz.func52,Tryz.ntmps52;go_wp2_with (go_at_call 38;(with_reducible refine(HM.out _).mono ?_);rintro r w1 ⟨rfl,rfl⟩);exact bodyPost_ret (v:=.agg #[.int .i64 17,.int .i64 0,.int .i64 0,.int .i64 0,.int .i64 0]) (by simp [results,Tryz.results52,go_sem]) rfl ⟨rfl,by repeat (first|exact HB0.out _|refine Below.setCell ?_ (by simp) _)⟩
 ·rw [if_neg h4] at hR
  by_cases h5:m=5
  ·subst h5
   rw[if_pos rfl] at hR;subst hR;have HA:Hid (∀W,Calls Tryz.prog 38 #[.int .i64 a,.int .i64 3] W fun r w'=>r=.returned (.int .i64 (a%3))∧W=w'):=fun W=>mod_any a 3 (by decide) (by decide) ha W
   have HBB:Hid (∀W,Calls Tryz.prog 38 #[.int .i64 b,.int .i64 256] W fun r w'=>r=.returned (.int .i64 (b%256))∧W=w'):=fun W=>mod_any b 256 (by decide) (by decide) hb W
   have a1:=Int.emod_nonneg a (show (3:Int)≠0 by decide);have a2:=Int.emod_lt_of_pos a (show 0<(3:Int) by decide);clear ha hb h1 h2 h4;generalize a%3=x at*;generalize b%256=y at*;go_enter Tryz.func52,Tryz.ntmps52;go_wp2_with (first|(go_at_call 38;(with_reducible refine(HM.out _).mono ?_);rintro r w1 ⟨rfl,rfl⟩)|(go_at_call 38;(with_reducible refine(HA.out _).mono ?_);rintro r w1 ⟨rfl,rfl⟩)|(go_at_call 38;(with_reducible refine(HBB.out _).mono ?_);rintro r w1 ⟨rfl,rfl⟩));exact bodyPost_ret (v:=.agg #[.int .i64 43,.int .i64 0,.int .i64 0,.int .i64 (1+x),.int .i64 y]) (by simp [results,Tryz.results52,go_sem]) rfl ⟨rfl,by repeat (first|exact HB0.out _|refine Below.setCell ?_ (by simp) _)⟩
  ·rw [if_neg h5] at hR
   obtain⟨f,hf⟩:∃f,1+m=f:=⟨_,rfl⟩
   rw[hf] at hR;obtain⟨L,hL⟩:=gE (limI f);have HLM:Hid (∀W,Calls Tryz.prog 79 #[.int .i64 f] W fun r w'=>r=.returned (.int .i64 L)∧W=w'):=fun W=>by rw[←hL];exact rlimit_any f W
   have hl:0<L∧L≤2000:=by
    rw[←hL];unfold limI
    repeat' split
    all_goals omega
   rw[hL] at hR;have b1:=Int.emod_nonneg b (show L≠0 by omega);have b2:=Int.emod_lt_of_pos b hl.1;have HBB:Hid (∀W,Calls Tryz.prog 38 #[.int .i64 b,.int .i64 L] W fun r w'=>r=.returned (.int .i64 (b%L))∧W=w'):=fun W=>mod_any b L hl.1 (by omega) hb W
   have HA:Hid (∀W,Calls Tryz.prog 38 #[.int .i64 a,.int .i64 (65536- (1+b%L)+1)] W fun r w'=>r=.returned (.int .i64 (a%(65536- (1+b%L)+1)))∧W=w'):=fun W=>mod_any a _ (by omega) (by omega) ha W
   subst hR;generalize b%L=y at*;generalize a%(65536- (1+y)+1)=x at*;have hy:y≤1999:=by omega
   have k5:(1+m==5)=false:=by rw[beq_eq_false_iff_ne];omega
   have k6:(1+m==6)=false:=by rw[beq_eq_false_iff_ne];omega
   clear ha hb hL hl b2;rw[←hf] at HLM ⊢;clear hf f h4 h5;go_enter Tryz.func52,Tryz.ntmps52;go_wp2_with (first|(go_at_call 38;(with_reducible refine(HM.out _).mono ?_);rintro r w1 ⟨rfl,rfl⟩)|(go_at_call 79;(with_reducible refine(HLM.out _).mono ?_);rintro r w1 ⟨rfl,rfl⟩)|(go_at_call 38;(with_reducible refine(HBB.out _).mono ?_);rintro r w1 ⟨rfl,rfl⟩)|(go_at_call 38;(with_reducible refine(HA.out _).mono ?_);rintro r w1 ⟨rfl,rfl⟩));exact bodyPost_ret (v:=.agg #[.int .i64 (1+m),.int .i64 x,.int .i64 (1+y),.int .i64 0,.int .i64 0]) (by simp [results,Tryz.results52,go_sem]) rfl ⟨rfl,by repeat (first|exact HB0.out _|refine Below.setCell ?_ (by simp) _)⟩
def lastB (l:List UInt8):Int:=bAt l (l.length-1)
def firstOb (l:List Ob):Int:=(l.head?.map (·.id)).getD 0
def matchB (q:Rq) (r:Rp):Bool:=
  q.ok&&r.ok&&q.fn==r.fn&&
    (if r.exc=0 then
      (if q.fn=1∨q.fn=2 then ((r.data.length:Int)==(q.qty+7)/8)&&(q.qty%8==0||(lastB r.data)/2^(q.qty%8).toNat==0)
       else if q.fn=3∨q.fn=4 then (r.data.length:Int)==2*q.qty
       else if q.fn=43 then r.code==q.code&&(r.objs.isEmpty||decide (q.obj≤firstOb r.objs)) else true)
     else true)
theorem Obs.capOf {w:World} {a:Option Addr} {n c:Nat} {l:List Ob} (h:Obs w (.slice a n c) l):l.length=n:=by
 obtain⟨_,_,hv,_⟩:=h;cases hv;rfl
theorem dec_len {b:List UInt8} (h:b.length<2∨253<b.length):Rp.dec b=none:=by unfold Rp.dec;rw[if_pos h]
theorem dec_exc {b:List UInt8} (h:¬(b.length<2∨253<b.length)) (hk:knownB (bAt b 0-128)=true):Rp.dec b=if b.length=2∧bAt b 1≠0 then some (Rp.shortOf (bAt b 0-128) (bAt b 1)) else none:=by
 unfold Rp.dec;rw[if_neg h,if_pos hk]
theorem dec_dev {b:List UInt8} (h:¬(b.length<2∨253<b.length)) (hk:bAt b 0=43):Rp.dec b=decDev b:=by
 unfold Rp.dec;rw[if_neg h,hk,if_neg (by decide),if_pos rfl]
theorem dec_not {b:List UInt8} (h:¬(b.length<2∨253<b.length)) (hk1:knownB (bAt b 0-128)=false) (hk:knownB (bAt b 0)=false):Rp.dec b=none:=by
 unfold Rp.dec;rw[if_neg h,if_neg (by rw[hk1];decide),if_neg (fun h=>by rw[h] at hk;exact absurd hk (by decide)),if_neg (fun h=>by rw[h.1] at hk;cases hk)]
theorem dec_data {b:List UInt8} (h:¬(b.length<2∨253<b.length)) (hk:knownB (bAt b 0)=true) (h43:bAt b 0≠43):
  Rp.dec b=if bAt b 1=(b.length:Int)-2 then (if (Rp.dataOf (bAt b 0) (b.drop 2)).ok=true then some (Rp.dataOf (bAt b 0) (b.drop 2)) else none) else none:=by
 have hk1:knownB (bAt b 0-128)=false:=not_knownB (by have:=known_bd hk;omega);unfold Rp.dec;rw[if_neg h,if_neg (by rw[hk1];decide),if_neg h43];by_cases h1:bAt b 1=(b.length:Int)-2
 ·rw [if_pos ⟨hk,h1⟩,if_pos h1]
 ·rw [if_neg (fun h=>h1 h.2),if_neg h1]
theorem z11_1 {p:Prop} (h:p:=by
 go_enter Tryz.func176,Tryz.ntmps176
 go_wp2
 refine bodyPost_ret (v:=.tuple #[.agg #[.int .i64 0,.int .i64 0,.slice none 0 0,.int .i64 0,.int .i64 0,.bool false,.int .i64 0,.slice none 0 0],.int .i64 4]) (by simp [results,Tryz.results176,go_sem]) rfl ?_
 exact DecPost.err HN.out 4 (by decide) (by decide) (bal'' w _)):p:=h
theorem rdecA (a:Option Addr) (n c:Nat) (b:List UInt8) (w:World) (hb:Bs w (.slice a n c) b) (h:n<2∨253<n):
  Calls Tryz.prog 176 #[.slice a n c] w (DecPost w (Rp.dec b)):=by
 obtain⟨hbn,hnc,hcm⟩:=hb.capOf;unfold maxLen at hcm;have HN:=bC (dec_len (b:=b) (by omega));clear hb hbn;rcases h with h|h
 ·exact z11_1
 ·have h2:¬n<2:=by omega
  exact z11_1
theorem rdecB (a:Option Addr) (n c:Nat) (b:List UInt8) (w:World) (hb:Bs w (.slice a n c) b) (h2:2≤n) (h3:n≤253) (hk:knownB (bAt b 0-128)=true):
  Calls Tryz.prog 176 #[.slice a n c] w (DecPost w (Rp.dec b)):=by
 obtain⟨hbn,hnc,hcm⟩:=hb.capOf;unfold maxLen at hcm;have hD:=dec_exc (b:=b) (by omega) hk;rw[hbn] at hD;obtain⟨blk,off,rfl,y0⟩:=hb.byte (i:=0) (by omega);obtain⟨blk',off',ha',y1⟩:=hb.byte (i:=1) (by omega);cases ha';have c0:∀W,Below w.heap.size w W→W.cell? ⟨blk,off,none⟩=some (.int .u8 (bAt b 0)):=fun W h=>bD h y0
 have c1:∀W,Below w.heap.size w W→W.cell? ⟨blk,off+1,none⟩=some (.int .u8 (bAt b 1)):=fun W h=>bD h y1
 have kA:∀X,Below w.heap.size w (w.alloc X):=fun X=>bal'' w X
 obtain⟨a0,a0'⟩:=bAt_bd b 0;obtain⟨a1,a1'⟩:=bAt_bd b 1;have HK:Hid (∀W,Calls Tryz.prog 195 #[.int .i64 (bAt b 0-128)] W fun r w'=>r=.returned (.bool true)∧W=w'):=fun W=>by rw[←hk];exact known_any _ W
 have hn2:¬n<2:=by omega
 have hn3:¬253<n:=by omega
 clear hb hbn y0 y1 hk;generalize bAt b 0=z0 at*;generalize bAt b 1=z1 at*;have u0:IntKind.i64.wrap z0=z0:=IntWalk.i64_in _ (by omega);have u1:IntKind.i64.wrap z1=z1:=IntWalk.i64_in _ (by omega);by_cases h22:n=2
 ·subst h22
  by_cases hz:z1=0
  ·have HN:Hid (Rp.dec b=none):=by show _=_;rw[hD,if_neg (fun h=>h.2 hz)]
   clear hD;subst hz;go_enter Tryz.func176,Tryz.ntmps176;go_wp2_with (go_at_call 195;(with_reducible refine(HK.out _).mono ?_);rintro r w1 ⟨rfl,rfl⟩);refine bodyPost_ret (v:=.tuple #[.agg #[.int .i64 0,.int .i64 0,.slice none 0 0,.int .i64 0,.int .i64 0,.bool false,.int .i64 0,.slice none 0 0],.int .i64 3]) (by simp [results,Tryz.results176,go_sem]) rfl ?_;exact DecPost.err HN.out 3 (by decide) (by decide) (bal'' w _)
  ·have HS:Hid (Rp.dec b=some (Rp.shortOf (z0-128) z1)):=by show _=_;rw[hD,if_pos ⟨rfl,hz⟩]
   have hz':(z1==0)=false:=by rw[beq_eq_false_iff_ne];exact hz
   clear hD hz;go_enter Tryz.func176,Tryz.ntmps176;go_wp2_with (go_at_call 195;(with_reducible refine(HK.out _).mono ?_);rintro r w1 ⟨rfl,rfl⟩);refine bodyPost_ret (v:=.tuple #[.agg #[.int .i64 (z0-128),.int .i64 z1,.slice none 0 0,.int .i64 0,.int .i64 0,.bool false,.int .i64 0,.slice none 0 0],.int .i64 0]) (by simp [results,Tryz.results176,go_sem]) rfl ?_;exact DecPost.is (da:=none) (dc:=0) (oa:=none) (oc:=0) HS.out (fun W _=>⟨Bs.nil _,Obs.nil _,by show (0:Int)≤_;decide,by show _≤(0:Int);decide⟩) (bal'' w _)
 ·have HN:Hid (Rp.dec b=none):=by show _=_;rw[hD,if_neg (fun h=>h22 h.1)]
  clear hD;go_enter Tryz.func176,Tryz.ntmps176;go_wp2_with (go_at_call 195;(with_reducible refine(HK.out _).mono ?_);rintro r w1 ⟨rfl,rfl⟩);refine bodyPost_ret (v:=.tuple #[.agg #[.int .i64 0,.int .i64 0,.slice none 0 0,.int .i64 0,.int .i64 0,.bool false,.int .i64 0,.slice none 0 0],.int .i64 4]) (by simp [results,Tryz.results176,go_sem]) rfl ?_;exact DecPost.err HN.out 4 (by decide) (by decide) (bal'' w _)
theorem rdecC (a:Option Addr) (n c:Nat) (b:List UInt8) (w:World) (hb:Bs w (.slice a n c) b) (h2:2≤n) (h3:n≤253) (hk:knownB (bAt b 0-128)=false) (hk2:knownB (bAt b 0)=false):
  Calls Tryz.prog 176 #[.slice a n c] w (DecPost w (Rp.dec b)):=by
 obtain⟨hbn,hnc,hcm⟩:=hb.capOf;unfold maxLen at hcm;have HN:=bC (dec_not (b:=b) (by omega) hk hk2);obtain⟨blk,off,rfl,y0⟩:=hb.byte (i:=0) (by omega);have c0:∀W,Below w.heap.size w W→W.cell? ⟨blk,off,none⟩=some (.int .u8 (bAt b 0)):=fun W h=>bD h y0
 have kA:∀X,Below w.heap.size w (w.alloc X):=fun X=>bal'' w X
 obtain⟨a0,a0'⟩:=bAt_bd b 0;have HK:Hid (∀W,Calls Tryz.prog 195 #[.int .i64 (bAt b 0-128)] W fun r w'=>r=.returned (.bool false)∧W=w'):=fun W=>by rw[←hk];exact known_any _ W
 have HK2:Hid (∀W,Calls Tryz.prog 195 #[.int .i64 (bAt b 0)] W fun r w'=>r=.returned (.bool false)∧W=w'):=fun W=>by rw[←hk2];exact known_any _ W
 have hn2:¬n<2:=by omega
 have hn3:¬253<n:=by omega
 clear hb hbn y0 hk hk2;generalize bAt b 0=z0 at*;have u0:IntKind.i64.wrap z0=z0:=IntWalk.i64_in _ (by omega);go_enter Tryz.func176,Tryz.ntmps176;go_wp2_with fail;refine(HK.out _).mono ?_;rintro r w1 ⟨rfl,rfl⟩;go_wp2_with fail;refine(HK2.out _).mono ?_;rintro r w1 ⟨rfl,rfl⟩;go_wp2;refine bodyPost_ret (v:=.tuple #[.agg #[.int .i64 0,.int .i64 0,.slice none 0 0,.int .i64 0,.int .i64 0,.bool false,.int .i64 0,.slice none 0 0],.int .i64 16]) (by simp [results,Tryz.results176,go_sem]) rfl ?_;exact DecPost.err HN.out 16 (by decide) (by decide) (bal'' w _)
theorem rdecE (a:Option Addr) (n c:Nat) (b:List UInt8) (w:World) (hb:Bs w (.slice a n c) b) (h2:2≤n) (h3:n≤253) (hk2:knownB (bAt b 0)=true) (h43:bAt b 0≠43):
  Calls Tryz.prog 176 #[.slice a n c] w (DecPost w (Rp.dec b)):=by
 obtain⟨i5,hi,hz0,hz1,hz2⟩:=info_parts infoB;obtain⟨hbn,hnc,hcm⟩:=hb.capOf;unfold maxLen at hcm;have hD:=dec_data (b:=b) (by omega) hk2 h43;rw[hbn] at hD;obtain⟨blk,off,rfl,y0⟩:=hb.byte (i:=0) (by omega);obtain⟨blk',off',ha',y1⟩:=hb.byte (i:=1) (by omega);cases ha';have c0:∀W,Below w.heap.size w W→W.cell? ⟨blk,off,none⟩=some (.int .u8 (bAt b 0)):=fun W h=>bD h y0
 have c1:∀W,Below w.heap.size w W→W.cell? ⟨blk,off+1,none⟩=some (.int .u8 (bAt b 1)):=fun W h=>bD h y1
 have kA:∀X,Below w.heap.size w (w.alloc X):=fun X=>bal'' w X
 obtain⟨a0,a0'⟩:=bAt_bd b 0;obtain⟨a1,a1'⟩:=bAt_bd b 1;have hkb:=known_bd hk2;have HK:Hid (∀W,Calls Tryz.prog 195 #[.int .i64 (bAt b 0-128)] W fun r w'=>r=.returned (.bool false)∧W=w'):=fun W=>by rw[←not_knownB (f:=bAt b 0-128) (by omega)];exact known_any _ W
 have HK2:Hid (∀W,Calls Tryz.prog 195 #[.int .i64 (bAt b 0)] W fun r w'=>r=.returned (.bool true)∧W=w'):=fun W=>by rw[←hk2];exact known_any _ W
 have hn2:¬n<2:=by omega
 have hn3:¬253<n:=by omega
 obtain⟨R2,hR2⟩:∃x,cutA (some ⟨blk,off,none⟩) c 2=x:=⟨_,rfl⟩
 have hd2:∀W,(Instr.slice 50 (.slice (some ⟨blk,off,none⟩) n c) (some (.int .i64 2)) none none).run Tryz.prog W=.ok (.slice R2 (n-2) (c-2)) W:=fun W=>by rw[←hR2];exact run_drop Tryz.underlying50 hi hz1 _ n c 2 h2 W
 have hB2:Bs w (.slice R2 (n-2) (c-2)) (b.drop 2):=by rw[←hR2];exact hb.dropS h2
 obtain⟨Y,hY⟩:=gE (b.drop 2);have hYl:Y.length=n-2:=by rw[←hY];simp [hbn]
 rw[hY] at hB2 hD;have HB2:=bC hB2;have HYL:=bC hYl;have HCL:Hid (∀W,Below w.heap.size w W→Calls Tryz.prog 80 #[.slice R2 (n-2) (c-2)] W fun r w'=>∃v',r=.returned v'∧w'.ownsRow W.heap.size 5 1 v' (n-2) (u8s Y)∧Below W.heap.size W w'):=fun W hW=>by
  have h:=cL _ Y W (HB2.out.keep hW) (by omega);rw[hYl] at h;exact h
 have h43':(bAt b 0==43)=false:=by rw[beq_eq_false_iff_ne];exact h43
 clear hb hbn y0 y1 hk2 h43 hR2 hB2 hYl hY;generalize bAt b 0=z0 at*;generalize bAt b 1=z1 at*;have u0:IntKind.i64.wrap z0=z0:=IntWalk.i64_in _ (by omega);have u1:IntKind.i64.wrap z1=z1:=IntWalk.i64_in _ (by omega);by_cases h1:z1=(n:Int)-2
 ·rw [if_pos h1] at hD
  have h1':(z1 !=(n:Int)-2)=false:=by rw[bne_eq_false_iff_eq];exact h1
  replace h1:=bC h1;obtain⟨V,hV⟩:=gE (Rp.ok (Rp.dataOf z0 Y));rw[hV] at hD;have HD:=bC hD;clear hD;go_enter Tryz.func176,Tryz.ntmps176;go_wp2_with fail;refine(HK.out _).mono ?_;rintro r w1 ⟨rfl,rfl⟩;go_wp2_with fail;refine(HK2.out _).mono ?_;rintro r w1 ⟨rfl,rfl⟩;go_wp2_with fail;refine(HCL.out _ (kA _)).mono ?_;rintro r w5 ⟨v5,rfl,hown5,hb5⟩;obtain⟨a5,c5,rfl⟩:=bN hown5;have gZ5:w5.heap[w.heap.size]?=some (.cells #[.int .i64 0,.int .i64 0,.slice none 0 0,.int .i64 0,.int .i64 0,.bool false,.int .i64 0,.slice none 0 0] 53):=bB (bI w _) hb5;have hbw5:=bU (kA _) hb5;have hsz5:=hbw5.size;have hb55:Bs w5 (.slice a5 (n-2) c5) Y:=by
   have:=HYL.out;rw[←this] at hown5 ⊢;exact Bs.own hown5
  have HB5:=bC hb55;have HL5:=bC hown5.lt;have HV:Hid (∀X,Calls Tryz.prog 197 #[.agg #[.int .i64 z0,.int .i64 0,.slice a5 (n-2) c5,.int .i64 0,.int .i64 0,.bool false,.int .i64 0,.slice none 0 0]] (w5.alloc X) fun r w'=>r=.returned (.bool V)∧Below (w5.alloc X).heap.size (w5.alloc X) w'):=fun X=>by
   have h:=rvalid_any z0 0 (.slice a5 (n-2) c5) 0 0 false 0 (.slice none 0 0) Y [] (w5.alloc X) (HB5.out.keep (bal'' w5 X)) (Obs.nil _) (by decide) (by decide);rw[show Rp.ok ⟨z0,0,Y,0,0,false,0,[]⟩=V from hV] at h;exact h
  clear hown5 hb5 hb55 hV;go_wp2_with fail;refine(HV.out _).mono ?_;rintro r w6 ⟨rfl,hb6⟩;have gZ6:w6.heap[w.heap.size]?=some (.cells #[.int .i64 0,.int .i64 0,.slice none 0 0,.int .i64 0,.int .i64 0,.bool false,.int .i64 0,.slice none 0 0] 53):=bB (bB gZ5 (bal'' w5 _)) hb6;have gR6:=bB (bI w5 (.cells #[.int .i64 z0,.int .i64 0,.slice a5 (n-2) c5,.int .i64 0,.int .i64 0,.bool false,.int .i64 0,.slice none 0 0] 53)) hb6;have hbw6:=bU (cJ hbw5 (Nat.le_refl _) _) hb6;have hb56:=bU (bal'' w5 _) hb6;clear gZ5;cases V with
  |false=>
   have HN:Hid (Rp.dec b=none):=by show _=_;rw[HD.out,if_neg (by decide)]
   go_wp2_with (refine bE rfl 53 (.tmp 2) (.tmp 69) rfl w.heap.size 0 _ _ (#[.int .i64 0,.int .i64 0,.slice none 0 0,.int .i64 0,.int .i64 0,.bool false,.int .i64 0,.slice none 0 0]) rfl rfl gZ6 (by simp) (by kernel_rfl) (by rfl) ?_;intro w4 g4 hk4 hz4);obtain⟨q0,q1,q2,q3,q4,q5,q6,q7⟩:w4.cell? ⟨w.heap.size,0,none⟩=some (.int .i64 0)∧w4.cell? ⟨w.heap.size,1,none⟩=some (.int .i64 0)∧w4.cell? ⟨w.heap.size,2,none⟩=some (.slice none 0 0)∧w4.cell? ⟨w.heap.size,3,none⟩=some (.int .i64 0)∧w4.cell? ⟨w.heap.size,4,none⟩=some (.int .i64 0)∧w4.cell? ⟨w.heap.size,5,none⟩=some (.bool false)∧w4.cell? ⟨w.heap.size,6,none⟩=some (.int .i64 0)∧w4.cell? ⟨w.heap.size,7,none⟩=some (.slice none 0 0):=⟨bA g4 0,bA g4 1,bA g4 2,bA g4 3,bA g4 4,bA g4 5,bA g4 6,bA g4 7⟩
   refine bodyPost_ret (v:=.tuple #[.agg #[.int .i64 0,.int .i64 0,.slice none 0 0,.int .i64 0,.int .i64 0,.bool false,.int .i64 0,.slice none 0 0],.int .i64 5]) (by simp [results,Tryz.results176,go_sem,q0,q1,q2,q3,q4,q5,q6,q7]) rfl ?_;exact DecPost.err HN.out 5 (by decide) (by decide) (hbw6.trans (hk4.below hbw6.size (fun k hk e=>by omega)))
  |true=>
   have HS:Hid (Rp.dec b=some (Rp.dataOf z0 Y)):=by show _=_;rw[HD.out,if_pos rfl]
   have r0:w6.cell? ⟨w5.heap.size,0,none⟩=some (.int .i64 z0):=bA gR6 0;have r1:w6.cell? ⟨w5.heap.size,1,none⟩=some (.int .i64 0):=bA gR6 1;have r2:w6.cell? ⟨w5.heap.size,2,none⟩=some (.slice a5 (n-2) c5):=bA gR6 2;have r3:w6.cell? ⟨w5.heap.size,3,none⟩=some (.int .i64 0):=bA gR6 3;have r4:w6.cell? ⟨w5.heap.size,4,none⟩=some (.int .i64 0):=bA gR6 4;have r5:w6.cell? ⟨w5.heap.size,5,none⟩=some (.bool false):=bA gR6 5;have r6:w6.cell? ⟨w5.heap.size,6,none⟩=some (.int .i64 0):=bA gR6 6;have r7:w6.cell? ⟨w5.heap.size,7,none⟩=some (.slice none 0 0):=bA gR6 7;go_wp2_with (refine bE rfl 53 (.tmp 2) (.tmp 70) rfl w.heap.size 0 _ _ (#[.int .i64 z0,.int .i64 0,.slice a5 (n-2) c5,.int .i64 0,.int .i64 0,.bool false,.int .i64 0,.slice none 0 0]) rfl rfl gZ6 (by simp) (by kernel_rfl) (by rfl) ?_;intro w4 g4 hk4 hz4);obtain⟨q0,q1,q2,q3,q4,q5,q6,q7⟩:w4.cell? ⟨w.heap.size,0,none⟩=some (.int .i64 z0)∧w4.cell? ⟨w.heap.size,1,none⟩=some (.int .i64 0)∧w4.cell? ⟨w.heap.size,2,none⟩=some (.slice a5 (n-2) c5)∧w4.cell? ⟨w.heap.size,3,none⟩=some (.int .i64 0)∧w4.cell? ⟨w.heap.size,4,none⟩=some (.int .i64 0)∧w4.cell? ⟨w.heap.size,5,none⟩=some (.bool false)∧w4.cell? ⟨w.heap.size,6,none⟩=some (.int .i64 0)∧w4.cell? ⟨w.heap.size,7,none⟩=some (.slice none 0 0):=⟨bA g4 0,bA g4 1,bA g4 2,bA g4 3,bA g4 4,bA g4 5,bA g4 6,bA g4 7⟩
   refine bodyPost_ret (v:=.tuple #[.agg #[.int .i64 z0,.int .i64 0,.slice a5 (n-2) c5,.int .i64 0,.int .i64 0,.bool false,.int .i64 0,.slice none 0 0],.int .i64 0]) (by simp [results,Tryz.results176,go_sem,q0,q1,q2,q3,q4,q5,q6,q7]) rfl ?_;have hblk:∀ad,a5=some ad→w.heap.size+1≤ad.block:=fun ad had=>by
    have:=(HL5.out ad.block (by rw[had];rfl)).1;simp at this;omega
   have hfin:∀W,Agree w.heap.size w4 W→Bs W (.slice a5 (n-2) c5) Y:=fun W hW=>
    ((HB5.out.keep hb56).keepF hk4 (fun ad had e=>by have:=hblk ad had;omega)).agree (fun ad had=>by have:=hblk ad had;omega) hW
   rw[←HYL.out] at hfin ⊢;exact DecPost.is (x:=Rp.dataOf z0 Y) (oa:=none) (oc:=0) HS.out (fun W hW=>⟨hfin W hW,Obs.nil _,by show (0:Int)≤_;decide,by show _≤(0:Int);decide⟩) (hbw6.trans (hk4.below hbw6.size (fun k hk e=>by omega)))
 ·have HN:Hid (Rp.dec b=none):=by show _=_;rw[hD,if_neg h1]
  have h1':(z1 !=(n:Int)-2)=true:=by rw[bne_iff_ne];exact h1
  clear hD h1;go_enter Tryz.func176,Tryz.ntmps176;go_wp2_with fail;refine(HK.out _).mono ?_;rintro r w1 ⟨rfl,rfl⟩;go_wp2_with fail;refine(HK2.out _).mono ?_;rintro r w1 ⟨rfl,rfl⟩;go_wp2;refine bodyPost_ret (v:=.tuple #[.agg #[.int .i64 0,.int .i64 0,.slice none 0 0,.int .i64 0,.int .i64 0,.bool false,.int .i64 0,.slice none 0 0],.int .i64 17]) (by simp [results,Tryz.results176,go_sem]) rfl ?_;exact DecPost.err HN.out 17 (by decide) (by decide) (bal'' w _)
abbrev cD:=@aduF_length
end Go.Proofs.YtoaoejaodhedaaaGreat
