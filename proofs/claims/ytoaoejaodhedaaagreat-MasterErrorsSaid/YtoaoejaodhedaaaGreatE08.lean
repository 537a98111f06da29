/-
 Texts 8 of the claim.
-/
import Derived.Test.YtoaoejaodhedaaaGreatE07
import Derived.BigQuiet
import Derived.Deep.RegionHeldLaw
import Derived.Deep.CutRange
import Derived.Test.YtoaoejaodhedaaaGreatE06
import Derived.Deep.CutBlock
import Derived.Test.YtoaoejaodhedaaaGreatE05
namespace Go.Proofs.YtoaoejaodhedaaaGreat
open Go.RowKit
set_option maxHeartbeats 6400000
set_option maxRecDepth 100000
theorem prg_valid (v:Value) (l:List (Int×Int)) (w:World) (hl:Rgs w v l) (V:Bool) (hV:Hid (rgsFrom (-1) l=V)):
  Calls Tryz.prog 180 #[v] w (BoolPost w V):=by
 have HL:=hid hl
 obtain⟨a,c,rfl,hnc,hcm,-⟩:=id hl
 obtain⟨n,hn⟩:∃n,l.length=n:=⟨_,rfl⟩
 have HN:=hid hn
 rw[hn] at hnc ⊢
 clear hl hn
 go_enter Tryz.func180,Tryz.ntmps180
 go_wp2_with fail
 go_loopw [3,8] (fun ev iv wr=>∃(k:Nat) (e f:Int),k≤n∧ev=.int .i64 f∧Hid (f=e+1)∧iv=.int .i64 (k:Int)∧-1≤e∧e≤65536∧Hid (rgsFrom e (l.drop k)=V)∧Below w.heap.size w wr) (fun _ iv _=>n- (intOf iv).toNat)
 case atStart=>exact⟨0,-1,0,Nat.zero_le _,rfl,(by show (0:Int)=-1+1;decide),rfl,by decide,by decide,hV.out,Below.refl _ _⟩
 case round=>
  obtain⟨k,e,f0,hk,rfl,hf0,rfl,he0,he1,hv,hbw⟩:=hrel
  have hki:(0:Int)≤(k:Int):=Int.natCast_nonneg _
  have hnn:n≤9223372036854775807:=by unfold maxLen at hcm;omega
  have HBA:Hid (∀X,Below w.heap.size w (wr.alloc X)):=fun X=>bta hbw (Nat.le_refl _) X
  by_cases hlt:k<n
  ·obtain ⟨x,hx⟩:=gs (l:=l) HN.out hlt
   obtain⟨b,o,c',hv',w1,w2,hcl⟩:=HL.out.at hx
   rw[HN.out] at hv'
   simp only[Value.slice.injEq,true_and] at hv'
   obtain⟨rfl,rfl⟩:=hv'
   have hkl:(k:Int)<(n:Int):=by omega
   obtain⟨y0,y1⟩:=hcl wr hbw
   have hdr:l.drop k=x::l.drop (k+1):=by
    rw[List.drop_eq_getElem_cons (by have:=HN.out;omega)]
    congr 1
    rw[List.getElem?_eq_getElem (by have:=HN.out;omega)] at hx
    exact Option.some.inj hx
   have hve:=hv.out
   rw[hdr] at hve
   obtain⟨xf,xc⟩:=x
   dsimp only at y0 y1 w1 w2
   have hff:=hf0.out
   by_cases hg:rgOk e (xf,xc)
   ·rw [rgsFrom_ok hg] at hve
    obtain⟨h1,h2,h3,h4,h5⟩:=hg
    dsimp only at h1 h2 h3 h4 h5 hve
    have a1:decide (xf<f0)=false:=decide_eq_false (by omega)
    have a3:decide (65536≤xf)=false:=decide_eq_false h3
    have a4:decide (xc<1)=false:=decide_eq_false h4
    obtain⟨f,hf⟩:∃f,65536-xf=f:=⟨_,rfl⟩
    have a5:decide (f<xc)=false:=decide_eq_false (by omega)
    have s1:IntKind.i64.wrap (65536-xf)=f:=(IntWalk.i64_in _ (by omega)).trans hf
    obtain⟨e2,he2⟩:∃e,xf+xc=e:=⟨_,rfl⟩
    have s2:IntKind.i64.wrap (xf+xc)=e2:=(IntWalk.i64_in _ (by omega)).trans he2
    obtain⟨f2,hf2⟩:∃f,e2+1=f:=⟨_,rfl⟩
    have s3:IntKind.i64.wrap (e2+1)=f2:=(IntWalk.i64_in _ (by omega)).trans hf2
    have hb2: -1≤e2∧e2≤65536:=by omega
    rw[he2] at hve
    have HVE:=hid hve
    have HF2:=hid hf2
    clear h1 h2 h3 h4 h5 hf he2 hve hv hx hdr hcl w1 w2 hf2 hff hf0
    go_wp2
    go_roundw
    case rel=>exact⟨k+1,e2,f2,by omega,rfl,HF2.out.symm,by go_num,hb2.1,hb2.2,HVE.out,HBA.out _⟩
    case measure=>simp [intOf];omega
   ·rw [rgsFrom_bad hg] at hve
    have HV:Hid (V=false):=hve.symm
    have hb:=badR hg
    dsimp only at hb
    clear hg hve hv hx hdr hcl hf0
    by_cases h1:xf<f0
    ·have a1:decide (xf<f0)=true:=decide_eq_true h1
     clear h1 hb hff
     go_wp2;go_ret;exact⟨ret_bool HV.out.symm,HBA.out _⟩
    ·have a1:decide (xf<f0)=false:=decide_eq_false h1
     by_cases h3:65536≤xf
     ·have a3:decide (65536≤xf)=true:=decide_eq_true h3
      clear h1 h3 hb hff
      go_wp2;go_ret;exact⟨ret_bool HV.out.symm,HBA.out _⟩
     ·have a3:decide (65536≤xf)=false:=decide_eq_false h3
      by_cases h4:xc<1
      ·have a4:decide (xc<1)=true:=decide_eq_true h4
       clear h1 h3 h4 hb hff
       go_wp2;go_ret;exact⟨ret_bool HV.out.symm,HBA.out _⟩
      ·have a4:decide (xc<1)=false:=decide_eq_false h4
       obtain⟨f,hf⟩:∃f,65536-xf=f:=⟨_,rfl⟩
       have a5:decide (f<xc)=true:=decide_eq_true (by omega)
       have s1:IntKind.i64.wrap (65536-xf)=f:=(IntWalk.i64_in _ (by omega)).trans hf
       clear h1 h3 h4 hb hff hf
       go_wp2;go_ret;exact⟨ret_bool HV.out.symm,HBA.out _⟩
  ·obtain rfl:k=n:=by omega
   have HV:Hid (true=V):=by
    have h1:=hv.out
    rw[List.drop_eq_nil_of_le (by rw[HN.out];exact Nat.le_refl _)] at h1
    exact h1
   clear hv
   go_wp2
   go_ret
   exact⟨ret_bool HV.out,hbw⟩
theorem prg_set (a:Option Addr) (c:Nat) (l:List (Int×Int)) (n:Nat) (w:World) (hl:Rgs w (.slice a n c) l) (hg:rgsFrom (-1) l=true):
  Calls Tryz.prog 229 #[.slice a n c] w fun r w'=>r=.returned (.slice a n c)∧Below w.heap.size w w':=by
 have HV:=hid (prg_valid _ l w hl true hg)
 clear hl hg
 go_enter Tryz.func229,Tryz.ntmps229
 go_wp2_with (go_at_call 180;(with_reducible refine HV.out.mono ?_);rintro r w2 ⟨rfl,hb2⟩)
 go_ret
 exact⟨rfl,hb2⟩
theorem cov1_any (xf xc:Int) (x0:0≤xf) (x1:xf<65536) (x2:1≤xc) (x3:xc≤65536-xf) (g:Nat) (ra rn:Int) (r0:0≤ra) (r1:1≤rn) (r2:ra+rn≤65536) (w:World) (h0:w.cell? ⟨g,0,none⟩=some (.int .i64 ra)) (h1:w.cell? ⟨g,1,none⟩=some (.int .i64 rn)) (V:Bool) (hV:Hid (oneB ra rn (xf,xc)=V)):
  Calls Tryz.prog 230 #[.agg #[.int .i64 xf,.int .i64 xc],.pointer (some ⟨g,0,none⟩)] w (BoolPost w V):=by
 have c0:∀X,(w.alloc X).cell? ⟨g,0,none⟩=some (.int .i64 ra):=fun X=>cell_keep (bal' w X) h0
 have c1:∀X,(w.alloc X).cell? ⟨g,1,none⟩=some (.int .i64 rn):=fun X=>cell_keep (bal' w X) h1
 have HB:Hid (∀X,Below w.heap.size w (w.alloc X)):=fun X=>bal' w X
 obtain⟨e,he⟩:∃e,ra+rn=e:=⟨_,rfl⟩
 have s1:IntKind.i64.wrap (ra+rn)=e:=(IntWalk.i64_in _ (by omega)).trans he
 obtain⟨f,hf⟩:∃f,xf+xc=f:=⟨_,rfl⟩
 have s2:IntKind.i64.wrap (xf+xc)=f:=(IntWalk.i64_in _ (by omega)).trans hf
 have HV:Hid ((decide (xf≤ra)&&decide (e≤f))=V):=by
  have:=hV.out
  unfold oneB at this
  dsimp only at this
  rw[he,hf] at this
  exact this
 clear h0 h1 he hf x0 x1 x2 x3 r0 r1 r2 hV
 by_cases p1:xf≤ra
 ·have d1:decide (xf≤ra)=true:=decide_eq_true p1
  have HV2:Hid (decide (e≤f)=V):=by have:=HV.out;rw[d1] at this;exact this
  clear p1
  go_enter Tryz.func230,Tryz.ntmps230
  go_wp2
  go_ret
  exact⟨ret_bool HV2.out,HB.out _⟩
 ·have d1:decide (xf≤ra)=false:=decide_eq_false p1
  have HV2:Hid (false=V):=by have:=HV.out;rw[d1] at this;exact this
  clear p1
  go_enter Tryz.func230,Tryz.ntmps230
  go_wp2
  go_ret
  exact⟨ret_bool HV2.out,HB.out _⟩
theorem idxR_any (v:Value) (l:List (Int×Int)) (hgd:rgsFrom (-1) l=true) (w:World) (hl:Rgs w v l) (g:Nat) (ra rn:Int) (r0:0≤ra) (r1:1≤rn) (r2:ra+rn≤65536) (h0:w.cell? ⟨g,0,none⟩=some (.int .i64 ra)) (h1:w.cell? ⟨g,1,none⟩=some (.int .i64 rn)) (V:Bool) (hV:Hid (l.any (oneB ra rn)=V)):
  Calls Tryz.prog 231 #[v,.func (.func 230) #[] #[.pointer (some ⟨g,0,none⟩)]] w fun r w'=>IdxPost V r∧Below w.heap.size w w':=by
 have HL:=hid hl
 obtain⟨a,c,rfl,hnc,hcm,-⟩:=id hl
 obtain⟨n,hn⟩:∃n,l.length=n:=⟨_,rfl⟩
 have HN:=hid hn
 rw[hn] at hnc ⊢
 have HRR:Hid (0≤ra∧1≤rn∧ra+rn≤65536):=⟨r0,r1,r2⟩
 have HGD:=hid hgd
 have hnn:n≤9223372036854775807:=by unfold maxLen at hcm;omega
 clear hl hn r0 r1 r2 hgd hcm
 go_enter Tryz.func231,Tryz.ntmps231
 go_wp2
 go_loopw [8] (fun i wr=>∃k:Nat,k≤n∧i=.int .i64 k∧Hid ((l.take k).any (oneB ra rn)=false)∧Below w.heap.size w wr) (fun i _=>n- (intOf i).toNat)
 case atStart=>exact⟨0,Nat.zero_le _,rfl,rfl,Below.refl _ _⟩
 case round=>
  obtain⟨k,hk,rfl,hno,hbw⟩:=hrel
  have hki:(0:Int)≤(k:Int):=Int.natCast_nonneg _
  by_cases hlt:k<n
  ·obtain ⟨x,hx⟩:=gs (l:=l) HN.out hlt
   obtain⟨b,o,c',hv',w1,w2,hcl⟩:=HL.out.at hx
   rw[HN.out] at hv'
   simp only[Value.slice.injEq,true_and] at hv'
   obtain⟨rfl,rfl⟩:=hv'
   have hkl:(k:Int)<(n:Int):=by omega
   obtain⟨y0,y1⟩:=hcl wr hbw
   have hxb:=rgsFrom_mem HGD.out x (List.mem_of_getElem? hx)
   obtain⟨B,hB⟩:∃B,oneB ra rn x=B:=⟨_,rfl⟩
   have HM:Hid (Calls Tryz.prog 230 #[.agg #[.int .i64 x.1,.int .i64 x.2],.pointer (some ⟨g,0,none⟩)] wr (BoolPost wr B)):=cov1_any x.1 x.2 hxb.1 hxb.2.1 hxb.2.2.1 hxb.2.2.2 g ra rn HRR.out.1 HRR.out.2.1 HRR.out.2.2 wr (cell_keep hbw h0) (cell_keep hbw h1) B hB
   have HST:Hid ((l.take (k+1)).any (oneB ra rn)=B):=by
    have h1:=hno.out
    show _=_
    rw[take_succ_snoc hx,List.any_append,h1,←hB]
    simp
   have HGX:Hid (x∈l):=List.mem_of_getElem? hx
   have HBB:=hid hB
   clear hx hB hxb hcl w1 w2
   go_wp2_with fail
   refine HM.out.mono ?_
   rintro r w1 ⟨rfl,hb1⟩
   cases B with
   |true=>
    have HF:Hid (V=true):=by
     show _=_
     rw[←hV.out]
     exact List.any_eq_true.2 ⟨x,HGX.out,HBB.out⟩
    go_wp2
    go_ret
    exact⟨⟨k,rfl,⟨fun _=>HF.out,fun _=>Int.natCast_nonneg _⟩⟩,bt hbw hb1 (Nat.le_refl _)⟩
   |false=>
    go_wp2
    go_roundw
    case rel=>exact⟨k+1,by omega,by go_num,HST,bt hbw hb1 (Nat.le_refl _)⟩
    case measure=>simp [intOf];omega
  ·obtain rfl:k=n:=by omega
   have HF:Hid (V=false):=by
    have h1:=hno.out
    rw[List.take_of_length_le (by rw[HN.out];exact Nat.le_refl _)] at h1
    show _=_
    rw[←hV.out,h1]
   go_wp2
   go_ret
   exact⟨⟨-1,rfl,⟨fun h=>absurd h (by decide),fun h=>by rw[HF.out] at h;cases h⟩⟩,hbw⟩
theorem contR_any (a:Option Addr) (n c:Nat) (l:List (Int×Int)) (hgd:rgsFrom (-1) l=true) (w:World) (hl:Rgs w (.slice a n c) l) (g:Nat) (ra rn:Int) (r0:0≤ra) (r1:1≤rn) (r2:ra+rn≤65536) (h0:w.cell? ⟨g,0,none⟩=some (.int .i64 ra)) (h1:w.cell? ⟨g,1,none⟩=some (.int .i64 rn)) (V:Bool) (hV:Hid (l.any (oneB ra rn)=V)):
  Calls Tryz.prog 228 #[.slice a n c,.func (.func 230) #[] #[.pointer (some ⟨g,0,none⟩)]] w (BoolPost w V):=by
 have HI:=hid (idxR_any _ l hgd w hl g ra rn r0 r1 r2 h0 h1 V hV)
 clear hl hgd r0 r1 r2 h0 h1 hV
 go_enter Tryz.func228,Tryz.ntmps228
 go_wp2_with fail
 refine HI.out.mono ?_
 rintro r w1 ⟨⟨i,rfl,hi⟩,hb1⟩
 have HV:Hid (decide (0≤i)=V):=by
  show _=_
  cases V with
  |true=>exact decide_eq_true (hi.2 rfl)
  |false=>exact decide_eq_false (fun h=>by cases hi.1 h)
 clear hi
 go_wp2
 go_ret
 exact⟨ret_bool HV.out,hb1⟩
theorem one_valid {a n:Int} (h0:0≤a) (h1:1≤n) (h2:a+n≤65536):rgsFrom (-1) [(a,n)]=true:=by
 rw[rgsFrom_ok ⟨by show ¬a≤-1;omega,by show ¬a<0;omega,by show ¬65536≤a;omega,by show ¬n<1;omega,by show ¬65536-a<n;omega⟩]
 rfl
theorem prg_covers (a:Option Addr) (n c:Nat) (l:List (Int×Int)) (hgd:rgsFrom (-1) l=true) (ra rn:Int) (r0:0≤ra) (r1:1≤rn) (r2:ra+rn≤65536) (w:World) (hl:Rgs w (.slice a n c) l) (V:Bool) (hV:Hid (covB l ra rn.toNat=V)):
  Calls Tryz.prog 222 #[.slice a n c,.agg #[.int .i64 ra,.int .i64 rn]] w (BoolPost w V):=by
 obtain⟨W1,hW1⟩:∃W,w.alloc (.cells #[.int .i64 ra,.int .i64 rn] 24)=W:=⟨_,rfl⟩
 have hb1:Below w.heap.size w W1:=by rw[←hW1];exact bal' w _
 have p1:W1.heap[w.heap.size]?=some (.cells #[.int .i64 ra,.int .i64 rn] 24):=by rw[←hW1];exact hpNew w _
 obtain⟨W2,hW2⟩:∃W,W1.alloc (.cells #[.int .i64 ra,.int .i64 rn] 24)=W:=⟨_,rfl⟩
 have hb2:Below W1.heap.size W1 W2:=by rw[←hW2];exact bal' W1 _
 have p2:W2.heap[W1.heap.size]?=some (.cells #[.int .i64 ra,.int .i64 rn] 24):=by rw[←hW2];exact hpNew W1 _
 have y0:W1.cell? ⟨w.heap.size,0,none⟩=some (.int .i64 ra):=hpCell p1 0
 have y1:W1.cell? ⟨w.heap.size,1,none⟩=some (.int .i64 rn):=hpCell p1 1
 have hone:Rgs W2 (.slice (some ⟨W1.heap.size,0,none⟩) 1 1) [(ra,rn)]:=by
  refine⟨_,1,rfl,Nat.le_refl _,by unfold maxLen;decide,(fun e=>by cases e),fun _=>⟨W1.heap.size,0,rfl,fun i x hx=>?_⟩⟩
  cases i with
  |zero=>
   cases hx
   refine⟨[.int .i64 ra,.int .i64 rn],rfl,⟨rfl,?_,?_⟩,fun j u hu=>?_⟩
   ·unfold wfI;show _≤ra∧ra≤_;omega
   ·unfold wfI;show _≤rn∧rn≤_;omega
   ·rw [Nat.zero_mul,Nat.zero_add,hpCell p2]
    simpa using hu
  |succ i=>cases hx
 have HV1:=hid (prg_valid _ _ W2 hone true (one_valid r0 r1 r2))
 have HSET:Hid (∀X,Below W1.heap.size W1 X→Calls Tryz.prog 229 #[.slice a n c] X fun r w'=>r=.returned (.slice a n c)∧Below X.heap.size X w'):=fun X hX=>prg_set a c l n X (hl.keep (bt hb1 hX (Nat.le_refl _))) hgd
 have HCON:Hid (∀X,Below W1.heap.size W1 X→Calls Tryz.prog 228 #[.slice a n c,.func (.func 230) #[] #[.pointer (some ⟨w.heap.size,0,none⟩)]] X (BoolPost X V)):=fun X hX=>contR_any a n c l hgd X (hl.keep (bt hb1 hX (Nat.le_refl _))) w.heap.size ra rn r0 r1 r2 (cell_keep hX y0) (cell_keep hX y1) V (by
  have:=covB_one hgd (a:=ra) (n:=rn.toNat) (by omega)
  rw[show ((rn.toNat:Nat):Int)=rn by omega] at this
  show _=_
  rw[←this]
  exact hV.out)
 have hmf:∀(fn:Fn) (first cap:Array Value) (w:World),(Instr.makeFunc fn first cap).run Tryz.prog w=.ok (.func fn first cap) w:=fun _ _ _ _=>rfl
 have HW1:=hid hW1
 have HW2:=hid hW2
 have HB1:=hid hb1
 have HB2:=hid hb2
 clear hW1 hb1 p1 hW2 hb2 p2 hone r0 r1 r2 hl hgd hV
 go_enter Tryz.func222,Tryz.ntmps222
 go_upto_region 1 with(fail)
 rw[HW1.out]
 go_wp2_with fail
 rw[HW2.out]
 refine HV1.out.mono ?_
 rintro r w3 ⟨rfl,hb3⟩
 have hb13:=bt HB2.out hb3 (Nat.le_refl _)
 go_wp2_with (first
  |(go_at_call 229;(with_reducible refine(HSET.out _ hb13).mono ?_);rintro r w4 ⟨rfl,hb4⟩;have hb14:=bt hb13 hb4 (Nat.le_refl _))
  |(go_at_call 228;(with_reducible refine(HCON.out _ hb14).mono ?_);rintro r w5 ⟨rfl,hb5⟩;have hb15:=bt hb14 hb5 (Nat.le_refl _)))
 go_ret
 exact⟨rfl,bt HB1.out hb15 (Nat.le_refl _)⟩
def DvqC (e c l:Int) (m:Bool) (n:Int) (o:Value):Array Value:=#[.int .i64 43,.int .i64 e,.slice none 0 0,.int .i64 c,.int .i64 l,.bool m,.int .i64 n,o]
def DvPx (w:World) (s:Sl) (co:Int) (L:List Ob) (r:Ending) (w':World):Prop:=
 ∃(n:Nat) (oa:Option Addr) (oc:Nat) (nx:Int),1≤n∧n≤L.length∧(∀x,L[n]?=some x→nx=x.id)∧(L.length≤n→nx=0)∧Hid (n=fitN 246 L)∧r=.returned (.agg (DvqC 0 co s.lv (decide (n<L.length)) nx (.slice oa n oc)))∧(∀W,Agree w.heap.size w' W→Obs W (.slice oa n oc) (L.take n))∧Below w.heap.size w w'
structure DvB (W4:World) (rb:Nat) (co lv:Int) (acc:List Ob) (k:Nat) (v:Value) (cs:List Value) (W:World):Prop where
 r:W.heap[rb]?=some (.cells (DvqC 0 co lv false 0 v) 53)
 own:W.ownsRow W4.heap.size 165 2 v k cs
 rows:CsL 2 (ObQF (DevF W4.heap.size v) W) cs (acc.take k)
 kp:Keeps (fun j=>j=rb) W4 W
theorem DvB.step {W4 wi w5 w6:World} {rb:Nat} {co lv:Int} {acc:List Ob} {k:Nat} {oa a6:Option Addr} {oc c6:Nat} {cs:List Value} (h:DvB W4 rb co lv acc k (.slice oa k oc) cs wi) (hrb:rb<W4.heap.size) {x:Ob} (hx:acc[k]?=some x)
  {U:TypeId} {X:Obj} {a5:Option Addr} {q c5:Nat} (hb5:Below wi.heap.size wi w5) (hq:x.val.length=q) (hown5:w5.ownsRow wi.heap.size U 1 (.slice a5 q c5) q (u8s x.val)) (hgr:(w5.alloc X).grownBy w6 (Value.slice oa k oc).ownBlock) (hnew:NewOr (w5.alloc X) (.slice oa k oc) (.slice a6 (k+1) c6))
  (hown6:w6.ownsRow W4.heap.size 165 2 (.slice a6 (k+1) c6) (k+1) (cs++[.int .i64 x.id,.slice a5 q c5])):
  DvB W4 rb co lv acc (k+1) (.slice a6 (k+1) c6) (cs++[.int .i64 x.id,.slice a5 q c5]) (w6.setCell ⟨rb,7,none⟩ (.slice a6 (k+1) c6)):=by
 have hz:=h.kp.size
 obtain⟨s1,s2,s3⟩:=devStep (y0:=x.id) (by omega) h.own h.rows hb5 hq hown5 hgr hnew
 have hk:Keeps (fun j=>j=rb) w6 (w6.setCell ⟨rb,7,none⟩ (.slice a6 (k+1) c6)):=(Keeps.refl _ _).set _ _ rfl
 have hr6:w6.heap[rb]?=some (.cells (DvqC 0 co lv false 0 (.slice oa k oc)) 53):=by rw[s3 rb hrb];exact h.r
 refine⟨hpSetP hr6 rfl,own_keeps hown6 hk (fun j hj e=>by have:=(hown6.lt j hj).1;omega),?_,?_⟩
 ·rw [take_succ_snoc hx]
  exact CsL.mono (fun r y hy=>ObQF.keeps (F:=DevF W4.heap.size (.slice a6 (k+1) c6)) (hk.mono (fun j _ e=>.inr (by omega))) (fun _ _ e=>e) r y hy) _ _ s1
 ·have hk6:Keeps (fun j=>j=rb) W4 w6:=⟨s2.os.trans h.kp.os,s2.tape.trans h.kp.tape,s2.output.trans h.kp.output,Nat.le_trans h.kp.size s2.size,fun i hi hn=>(s3 i hi).trans (h.kp.block i hi hn)⟩
  exact hk6.trans hk (fun _ _ e=>e)
theorem DvB.ends {w W4 wi w8:World} {rb zb:Nat} {co:Int} {s:Sl} {acc:List Ob} {m:Nat} {oa:Option Addr} {oc:Nat} {cs:List Value} {C:Array Value} {nx:Int} (h:DvB W4 rb co s.lv acc m (.slice oa m oc) cs wi) (hrb:rb<W4.heap.size) (hzb:zb<W4.heap.size) (hk8:Keeps (fun j=>j=rb∨j=zb) wi w8) (hbel:Below w.heap.size w W4) (hrw:w.heap.size≤rb) (hzw:w.heap.size≤zb) (h1:1≤m) (hm:m≤acc.length)
  (hn1:∀x,acc[m]?=some x→nx=x.id) (hn2:acc.length≤m→nx=0) (hn3:m=fitN 246 acc) (hC:C=DvqC 0 co s.lv (decide (m<acc.length)) nx (.slice oa m oc)):DvPx w s co acc (.returned (.agg C)) w8:=by
 subst hC
 have hz:=hbel.size
 refine⟨m,oa,oc,nx,h1,hm,hn1,hn2,hn3,rfl,fun W hW=>?_,(hbel.trans (h.kp.below hz (fun j hj e=>by omega))).trans (hk8.below (Nat.le_trans hz h.kp.size) (fun j hj e=>by omega))⟩
 have o8:=own_keeps h.own hk8 (fun j hj e=>by have:=(h.own.lt j hj).1;omega)
 have r8:=CsL.mono (fun r y hy=>ObQF.keeps (F:=DevF W4.heap.size (.slice oa m oc)) (F2:=DevF W4.heap.size (.slice oa m oc)) (hk8.mono (fun j _ e=>.inr (by omega))) (fun _ _ e=>e) r y hy) _ _ h.rows
 exact Obs.of_csl (own_agree o8 hz hW) (CsL.mono (fun r y hy=>ObQF.agree hz hW r y hy) _ _ r8) (by rw[List.length_take];omega)
theorem DvB.old {W4 wi w5 w6:World} {rb:Nat} {co lv:Int} {acc:List Ob} {k:Nat} {oa:Option Addr} {oc:Nat} {cs:List Value} (h:DvB W4 rb co lv acc k (.slice oa k oc) cs wi) (hrb:rb<W4.heap.size) {X:Obj} (hb5:Below wi.heap.size wi w5) (hgr:(w5.alloc X).grownBy w6 (Value.slice oa k oc).ownBlock):
  w6.heap[rb]?=some (.cells (DvqC 0 co lv false 0 (.slice oa k oc)) 53):=by
 have h1:=hpKeep (hpKeep h.r hb5) (bal'' w5 X)
 refine hpKeeps h1 (Keeps.of_grown hgr (fun k hk=>hk)) (fun e=>?_)
 have:=(h.own.lt rb e).1
 omega
def DvPy (w:World) (s:Sl) (co:Int) (L:List Ob) (r:Ending) (w':World):Prop:=(L=[]∧TabPostD w 43 2 [] r w')∨(L≠[]∧DvPx w s co L r w')
def Tbl.val (t:Tbl) (k:Nat):Prop:=(t.sup=false→t.rd.length=0∧t.most=0)∧(t.sup=true→t.rd.length≤32∧rgsFrom (-1) t.rd=true∧1≤t.most∧t.most≤limI ((k:Nat)+1))
structure Sl.val (s:Sl):Prop where
 set:Okset s.bd s.pa
 un:1≤s.un∧s.un≤247
 lv:0≤s.lv∧s.lv≤3
 tb:∀k,k<4→(s.ts k).val k
 l0:s.lv=0→s.objs.length=0
 sv:s.hs=true↔0<s.sd.length
 sl:s.sd.length≤64
 on:0<s.lv→s.objs.length≤16∧3≤s.objs.length
 ri:0<s.lv→rises (-1) s.objs=true
 o2:0<s.lv→∀x,s.objs[2]?=some x→x.id=2
 top:0<s.lv→∀x,s.objs[s.objs.length-1]?=some x→(s.lv=1→x.id≤2)∧(s.lv=2→x.id≤127)
 vl:0<s.lv→∀(i:Nat) (x:Ob),s.objs[i]?=some x→x.val.length≤64
def SlvPost (w:World) (s:Sl) (r:Ending) (w':World):Prop:=∃V:Bool,r=.returned (.bool V)∧Hid (V=true↔s.val)∧Below w.heap.size w w'
theorem SlvPost.no {w w':World} {s:Sl} (h:¬s.val) (hb:Below w.heap.size w w'):SlvPost w s (.returned (.bool false)) w':=⟨false,rfl,⟨fun e=>(by cases e),fun e=>absurd e h⟩,hb⟩
theorem SlvPost.yes {w w':World} {s:Sl} (h:s.val) (hb:Below w.heap.size w w'):SlvPost w s (.returned (.bool true)) w':=⟨true,rfl,⟨fun _=>h,fun _=>rfl⟩,hb⟩
end Go.Proofs.YtoaoejaodhedaaaGreat
