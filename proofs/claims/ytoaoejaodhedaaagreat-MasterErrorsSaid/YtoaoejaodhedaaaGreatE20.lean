/-
 Texts 20 of the claim.
-/
import Derived.Test.YtoaoejaodhedaaaGreatE12
import Derived.Test.YtoaoejaodhedaaaGreatE13
import Derived.Test.YtoaoejaodhedaaaGreatE14
import Derived.Test.YtoaoejaodhedaaaGreatE16
import Derived.Test.YtoaoejaodhedaaaGreatE19
namespace Go.Proofs.YtoaoejaodhedaaaGreat
open Go.RowKit
set_option maxHeartbeats 6400000
set_option maxRecDepth 100000
def frameOf (u:Int) (rp:Rp):List UInt8:=aduF (UInt8.ofNat u.toNat) rp.pdu
theorem frameOf_len (u:Int) {rp:Rp} (h:rp.ok=true):5≤(frameOf u rp).length∧(frameOf u rp).length≤256:=by
 have:=pdu_le' h
 unfold frameOf
 rw[aduF_length]
 omega
def busDec (l:List Sl) (bd pa:Int) (f:List UInt8):Option (Int×Rq×List Nat):=
 match splitB crcChk f with
 |none=>none
 |some (u,p)=>match rqDec p with
  |none=>none
  |some q=>if memb l bd pa u l.length=[] then none else some (u,q,memb l bd pa u l.length)
def FrPost (w:World) (f:List UInt8) (r:Ending) (w':World):Prop:=
 ∃a c,r=.returned (.slice a f.length c)∧w'.ownsRow w.heap.size 5 1 (.slice a f.length c) f.length (u8s f)∧Below w.heap.size w w'
theorem split_unit {f:List UInt8} {u:Int} {p:List UInt8} (h:splitB crcChk f=some (u,p)):1≤u∧u≤247:=by
 unfold splitB at h
 split at h
 ·rename_i e
  injection h with h
  injection h with h1 h2
  omega
 ·cases h
theorem busDec_some {l:List Sl} {bd pa:Int} {f:List UInt8} {u:Int} {q:Rq} {ms:List Nat} (h:busDec l bd pa f=some (u,q,ms)):1≤u∧u≤247∧q.ok=true∧ms=memb l bd pa u l.length∧ms≠[]:=by
 unfold busDec at h
 cases hs:splitB crcChk f with
 |none=>rw[hs] at h;cases h
 |some x=>
  obtain⟨u',p⟩:=x
  rw[hs] at h
  dsimp only at h
  cases hq:rqDec p with
  |none=>rw[hq] at h;cases h
  |some q'=>
   rw[hq] at h
   dsimp only at h
   split at h
   ·cases h
   ·rename_i hne
    injection h with h
    injection h with h1 h2
    injection h2 with h3 h4
    subst h1 h3 h4
    have:=split_unit hs
    exact⟨this.1,this.2,rqDec_ok hq,rfl,hne⟩
theorem pbuildf_any (u:Int) (u1:1≤u) (u2:u≤247) (rp:Rp) (hok:rp.ok=true) (da oa:Option Addr) (dc oc:Nat) (w:World) (hr:RpIs w rp da dc oa oc):
  Calls Tryz.prog 186 #[.int .i64 u,.agg #[.int .i64 rp.fn,.int .i64 rp.exc,.slice da rp.data.length dc,.int .i64 rp.code,.int .i64 rp.level,.bool rp.more,.int .i64 rp.next,.slice oa rp.objs.length oc]] w (FrPost w (frameOf u rp)):=by
 obtain⟨W1,hW1⟩:∃W,w.alloc (.cells #[.int .i64 rp.fn,.int .i64 rp.exc,.slice da rp.data.length dc,.int .i64 rp.code,.int .i64 rp.level,.bool rp.more,.int .i64 rp.next,.slice oa rp.objs.length oc] 53)=W:=⟨_,rfl⟩
 have hb1:Below w.heap.size w W1:=by rw[←hW1];exact bal' w _
 have p1:W1.heap[w.heap.size]?=some (.cells #[.int .i64 rp.fn,.int .i64 rp.exc,.slice da rp.data.length dc,.int .i64 rp.code,.int .i64 rp.level,.bool rp.more,.int .i64 rp.next,.slice oa rp.objs.length oc] 53):=by rw[←hW1];exact hpNew w _
 have HEN:Hid (Calls Tryz.prog 205 #[.agg #[.int .i64 rp.fn,.int .i64 rp.exc,.slice da rp.data.length dc,.int .i64 rp.code,.int .i64 rp.level,.bool rp.more,.int .i64 rp.next,.slice oa rp.objs.length oc]] W1 (EncPost W1 rp.pdu)):=enc_any rp.fn rp.exc rp.code rp.level rp.more rp.next rp.data rp.objs da oa dc oc W1 (hr.d.keep hb1) (hr.o.keep hb1) hr.hi hr.lo hok
 have hpl:=pdu_le' hok
 have HBD:Hid (∀X a c,Bs X (.slice a rp.pdu.length c) rp.pdu→Calls Tryz.prog 123 #[.int .i64 u,.slice a rp.pdu.length c] X (BuildPost X (some (frameOf u rp)))):=fun X a c hX=>by
  have h:=pbuild_any u a _ c rp.pdu X hX
  have e:buildB u rp.pdu=some (frameOf u rp):=by unfold buildB;rw[if_pos ⟨u1,u2,by omega,hpl.2⟩];rfl
  rw[e] at h
  exact h
 obtain⟨pl,hpl2⟩:∃n,rp.pdu.length=n:=⟨_,rfl⟩
 have HPL:=hid hpl2
 have HW1:=hid hW1
 have HB1:=hid hb1
 clear hW1 hb1 hr hok u1 u2 hpl hpl2
 go_enter Tryz.func186,Tryz.ntmps186
 go_upto_region 1 with(fail)
 rw[HW1.out]
 go_wp2_with (first
  |(refine wpList_load_row rfl 53 (.tmp 3) rfl w.heap.size rfl 53 _ (0,0) _ p1 Tryz.underlying53 rfl info8 ?_)
  |(go_at_call 205;(with_reducible refine HEN.out.mono ?_);rintro r w2 ⟨ea,ec,rfl,hbs,hb2,-⟩;have HBS:=hid hbs;have HB2:=hid (bt HB1.out hb2 (Nat.le_refl _));clear hbs hb2)
  |(go_at_call 123;(with_reducible refine(HBD.out _ _ _ HBS.out).mono ?_);rintro r w3 ⟨fa,fc,e,f,rfl,hown,hb3,he⟩))
 go_ret
 rcases he with⟨-,he⟩|⟨-,he,-⟩
 ·injection he with he
  subst he
  exact⟨fa,fc,rfl,own_lower hown HB2.out.size,bt HB2.out hb3 (Nat.le_refl _)⟩
 ·cases he
theorem psplit_yes {l:List UInt8} {u:Int} {p:List UInt8} (ho:splitB crcChk l=some (u,p)) (a:Option Addr) (n c:Nat) (w:World) (hb:Bs w (.slice a n c) l):
  Calls Tryz.prog 146 #[.slice a n c] w fun r w'=>∃a2 c2,r=.returned (.tuple #[.int .i64 u,.slice a2 p.length c2,.int .i64 0])∧Bs w' (.slice a2 p.length c2) p∧Below w.heap.size w w':=by
 refine(psplit_any a n c l w hb).mono ?_
 rintro r w' ⟨u',a2,n2,c2,e,rfl,hb2,h⟩
 rw[ho] at h
 rcases h with⟨rfl,p',h1,h2⟩|⟨-,h⟩
 ·injection h1 with h1
  injection h1 with h1 h3
  subst h1 h3
  have h4:=h2 w' (Agree.refl _ _)
  have h5:=h4.capOf.1
  subst h5
  exact⟨a2,c2,rfl,h4,hb2⟩
 ·cases h
theorem psplit_no {l:List UInt8} (ho:splitB crcChk l=none) (a:Option Addr) (n c:Nat) (w:World) (hb:Bs w (.slice a n c) l):
  Calls Tryz.prog 146 #[.slice a n c] w fun r w'=>∃u a2 n2 c2 e,r=.returned (.tuple #[.int .i64 u,.slice a2 n2 c2,.int .i64 e])∧Hid (¬e=0)∧Below w.heap.size w w':=by
 refine(psplit_any a n c l w hb).mono ?_
 rintro r w' ⟨u',a2,n2,c2,e,rfl,hb2,h⟩
 rw[ho] at h
 rcases h with⟨rfl,p',h1,h2⟩|⟨he,-⟩
 ·cases h1
 ·exact ⟨u',a2,n2,c2,e,rfl,he,hb2⟩
def PsPost (w:World) (o:Option (Int×Rq×List Nat)) (r:Ending) (w':World):Prop:=
 match o with
 |some (u,q,ms)=>∃a c,r=.returned (.tuple #[.int .i64 u,.agg #[.int .i64 q.fn,.int .i64 q.addr,.int .i64 q.qty,.int .i64 q.code,.int .i64 q.obj],.slice a ms.length c,.bool true])∧w'.ownsRow w.heap.size 3 1 (.slice a ms.length c) ms.length (ms.map fun i:Nat=>.int .i64 (i:Int))∧Below w.heap.size w w'
 |none=>∃u f ad qt co ob a n c,r=.returned (.tuple #[.int .i64 u,.agg #[.int .i64 f,.int .i64 ad,.int .i64 qt,.int .i64 co,.int .i64 ob],.slice a n c,.bool false])∧Below w.heap.size w w'
theorem busDec_split {l:List Sl} {bd pa:Int} {f:List UInt8} (h:splitB crcChk f=none):busDec l bd pa f=none:=by unfold busDec;rw[h]
theorem busDec_dec {l:List Sl} {bd pa:Int} {f:List UInt8} {u:Int} {p:List UInt8} (h:splitB crcChk f=some (u,p)) (h2:rqDec p=none):busDec l bd pa f=none:=by unfold busDec;rw[h];dsimp only;rw[h2]
theorem busDec_mb {l:List Sl} {bd pa:Int} {f:List UInt8} {u:Int} {p:List UInt8} {q:Rq} (h:splitB crcChk f=some (u,p)) (h2:rqDec p=some q):busDec l bd pa f=if memb l bd pa u l.length=[] then none else some (u,q,memb l bd pa u l.length):=by unfold busDec;rw[h];dsimp only;rw[h2]
theorem pparse_any (la:Option Addr) (lc ln:Nat) (l:List Sl) (hl:l.length=ln) (hB:BusP l) (bd pa:Int) (f1:wfI bd) (f2:wfI pa) (fa:Option Addr) (fn fc:Nat) (f:List UInt8) (w:World) (hL:Slvs w (.slice la ln lc) l) (hf:Bs w (.slice fa fn fc) f):
  Calls Tryz.prog 185 #[.slice la ln lc,.agg #[.int .i64 bd,.int .i64 pa],.slice fa fn fc] w (PsPost w (busDec l bd pa f)):=by
 obtain⟨VB,hVB,HV0⟩:=pbus_any l
 obtain rfl:VB=true:=hVB.2 hB
 obtain⟨W1,hW1⟩:∃W,(w.alloc (.cells #[.int .i64 bd,.int .i64 pa] 61)).alloc (.cells #[.int .i64 0,.int .i64 0,.int .i64 0,.int .i64 0,.int .i64 0] 45)=W:=⟨_,rfl⟩
 have hb1:Below w.heap.size w W1:=by rw[←hW1];exact bta (bal' w _) (Nat.le_refl _) _
 have hz1:W1.heap.size=w.heap.size+2:=by rw[←hW1];simp
 have pS:W1.heap[w.heap.size]?=some (.cells #[.int .i64 bd,.int .i64 pa] 61):=by rw[←hW1];exact hpKeep (hpNew w _) (bal' _ _)
 have pZ:W1.heap[w.heap.size+1]?=some (.cells #[.int .i64 0,.int .i64 0,.int .i64 0,.int .i64 0,.int .i64 0] 45):=by rw[←hW1];have h:=hpNew (w.alloc (.cells #[.int .i64 bd,.int .i64 pa] 61)) (.cells #[.int .i64 0,.int .i64 0,.int .i64 0,.int .i64 0,.int .i64 0] 45);rw[World.size_alloc] at h;exact h
 obtain⟨zb,hzb⟩:∃n,w.heap.size+1=n:=⟨_,rfl⟩
 rw[hzb] at pZ
 have HZB:Hid (w.heap.size<zb∧zb<W1.heap.size):=by show _∧_;omega
 have HV:Hid (∀X,Below w.heap.size w X→Calls Tryz.prog 66 #[.slice la ln lc] X (BoolPost X true)):=fun X hX=>HV0 X _ (hL.keep hX)
 have HMM:Hid (∀X u,Below w.heap.size w X→Calls Tryz.prog 188 #[.slice la ln lc,.agg #[.int .i64 bd,.int .i64 pa],.int .i64 u] X (MbPost X (memb l bd pa u ln))):=fun X u hX=>pmemb_any la lc l ln X hl (by have:=hB.1;omega) (hL.keep hX) bd pa u f1 f2
 have HLN:=hid hl
 have HF:=hid hf
 have HW1:=hid hW1
 have HB1:=hid hb1
 have PS:=hid pS
 have PZ:=hid pZ
 have EZ:=hid hzb
 have k1:=hb1
 clear hW1 hb1 pS pZ hB hVB HV0 hL hl f1 f2 hz1 hzb hf
 cases hs:splitB crcChk f with
 |none=>
  rw[busDec_split hs]
  have HSP:Hid (∀X,Below w.heap.size w X→Calls Tryz.prog 146 #[.slice fa fn fc] X fun r w'=>∃u a2 n2 c2 e,r=.returned (.tuple #[.int .i64 u,.slice a2 n2 c2,.int .i64 e])∧Hid (¬e=0)∧Below X.heap.size X w'):=fun X hX=>psplit_no hs fa fn fc X (HF.out.keep hX)
  clear hs
  go_enter Tryz.func185,Tryz.ntmps185
  go_upto_region 1 with(fail)
  rw[HW1.out,EZ.out]
  go_upto_region 3 with(go_at_call 66;(with_reducible refine(HV.out _ k1).mono ?_);rintro r w2 ⟨rfl,hb2⟩)
  have k2:=bt k1 hb2 (Nat.le_refl _)
  go_upto_region 4 with(go_at_call 146;(with_reducible refine(HSP.out _ k2).mono ?_);rintro r w3 ⟨u3,a3,n3,c3,e3,rfl,he3,hb3⟩)
  have g3:(e3 !=0)=true:=by rw[bne_iff_ne];exact he3.out
  have k3:=hid (bt k2 hb3 (Nat.le_refl _))
  have pz3:=hpKeep (hpKeep PZ.out hb2) hb3
  have z0:=hpCell pz3 0
  have z1:=hpCell pz3 1
  have z2:=hpCell pz3 2
  have z3:=hpCell pz3 3
  have z4:=hpCell pz3 4
  go_upto_region 5 with(fail)
  have u0:∀X,X.heap[zb]?=some (.cells #[.int .i64 0,.int .i64 0,.int .i64 0,.int .i64 0,.int .i64 0] 45)∧Keeps (· =zb) w3 X→X.cell? ⟨zb,0,none⟩=some (.int .i64 0):=(fun X h=>hpCell h.1 0);have u1:∀X,X.heap[zb]?=some (.cells #[.int .i64 0,.int .i64 0,.int .i64 0,.int .i64 0,.int .i64 0] 45)∧Keeps (· =zb) w3 X→X.cell? ⟨zb,1,none⟩=some (.int .i64 0):=(fun X h=>hpCell h.1 1);have u2:∀X,X.heap[zb]?=some (.cells #[.int .i64 0,.int .i64 0,.int .i64 0,.int .i64 0,.int .i64 0] 45)∧Keeps (· =zb) w3 X→X.cell? ⟨zb,2,none⟩=some (.int .i64 0):=(fun X h=>hpCell h.1 2);have u3:∀X,X.heap[zb]?=some (.cells #[.int .i64 0,.int .i64 0,.int .i64 0,.int .i64 0,.int .i64 0] 45)∧Keeps (· =zb) w3 X→X.cell? ⟨zb,3,none⟩=some (.int .i64 0):=(fun X h=>hpCell h.1 3);have u4:∀X,X.heap[zb]?=some (.cells #[.int .i64 0,.int .i64 0,.int .i64 0,.int .i64 0,.int .i64 0] 45)∧Keeps (· =zb) w3 X→X.cell? ⟨zb,4,none⟩=some (.int .i64 0):=(fun X h=>hpCell h.1 4);have kk:w3.drew.heap[zb]?=some (.cells #[.int .i64 0,.int .i64 0,.int .i64 0,.int .i64 0,.int .i64 0] 45)∧Keeps (· =zb) w3 w3.drew:=(⟨hpKeep pz3 (Below.refl _ _).drew,Keeps.of_below (Below.refl _ _).drew⟩)
  clear z0 z1 z2 z3 z4
  refine wp_region_held_drew (S:=fun V=>V.heap[zb]?=some (.cells #[.int .i64 0,.int .i64 0,.int .i64 0,.int .i64 0,.int .i64 0] 45)∧Keeps (· =zb) w3 V) (by kernel_rfl) kk (fun hH=>?_)
  clear hH
  refine tkD 0 24 (v:=?_) rfl (by kernel_rfl) (fun _ _ _ h=>h) rfl (by rfl) (by assumption) ?_ ?_;rotate_left;(intro w hSw;(try dsimp only at hSw);(try go_simp);try rfl);simp only[setS]
  refine tkD 1 6 (v:=?_) rfl (by kernel_rfl) (fun _ _ _ h=>h) rfl (by rfl) (by assumption) ?_ ?_;rotate_left;(intro w hSw;(try dsimp only at hSw);(try go_simp);try rfl);simp only[setS]
  refine rdyH 2 rfl (fun K hK=>?_)
  refine step_storeW rfl 45 (.tmp 7) (.tmp 24) rfl zb 0 _ 45 #[.int .i64 0,.int .i64 0,.int .i64 0,.int .i64 0,.int .i64 0] rfl rfl (hpKeep pz3 (Below.refl _ _).drew) (by simp) infoR5 rfl ?_
  intro w8 g8 hk8 hz8
  have g9:w8.heap[zb]?=some (.cells #[.int .i64 0,.int .i64 0,.int .i64 0,.int .i64 0,.int .i64 0] 45):=g8
  have kk8:w8.heap[zb]?=some (.cells #[.int .i64 0,.int .i64 0,.int .i64 0,.int .i64 0,.int .i64 0] 45)∧Keeps (· =zb) w3 w8:=⟨g8,kk.2.trans hk8 (fun _ _ e=>e)⟩
  refine hK.out _ _ kk8 (fun hSx=>?_);clear hK K hSx
  refine tkD 3 8 (v:=?_) rfl (by kernel_rfl) (fun _ _ _ h=>h) rfl (by rfl) (by assumption) ?_ ?_;rotate_left;(intro w hSw;(try dsimp only at hSw);(try go_simp);try rfl)
  refine tkD 4 9 (v:=?_) rfl (by kernel_rfl) (fun _ _ _ h=>h) rfl (by rfl) (by assumption) ?_ ?_;rotate_left;(intro w hSw;(try dsimp only at hSw);(try go_simp);try rfl)
  refine wpAnyH_done (by kernel_rfl) ?_ _
  go_wp2
  have q0:=hpCell g9 0;have q1:=hpCell g9 1;have q2:=hpCell g9 2;have q3:=hpCell g9 3;have q4:=hpCell g9 4;refine bodyPost_ret (v:=.tuple #[.int .i64 0,.agg #[.int .i64 0,.int .i64 0,.int .i64 0,.int .i64 0,.int .i64 0],.slice none 0 0,.bool false]) (by simp [results,Tryz.results185,go_sem,q0,q1,q2,q3,q4]) rfl ?_
  exact⟨0,0,0,0,0,0,none,0,0,rfl,k3.out.trans (kk8.2.below k3.out.size (fun j hj e=>by have:=HZB.out;omega))⟩
 |some x=>
  obtain⟨u,p⟩:=x
  have HSP:Hid (∀X,Below w.heap.size w X→Calls Tryz.prog 146 #[.slice fa fn fc] X fun r w'=>∃a2 c2,r=.returned (.tuple #[.int .i64 u,.slice a2 p.length c2,.int .i64 0])∧Bs w' (.slice a2 p.length c2) p∧Below X.heap.size X w'):=fun X hX=>psplit_yes hs fa fn fc X (HF.out.keep hX)
  have HS:=hid hs
  clear hs
  obtain⟨pl,hpl⟩:∃n,p.length=n:=⟨_,rfl⟩
  rw[hpl] at HSP
  clear hpl
  cases hq:rqDec p with
  |none=>
   rw[busDec_dec HS.out hq]
   have HDC:Hid (∀X v,Bs X v p→Calls Tryz.prog 204 #[v] X (QdPost X none)):=fun X v hX=>pqdec_any v p X hX none hq
   clear hq
   go_enter Tryz.func185,Tryz.ntmps185
   go_upto_region 1 with(fail)
   rw[HW1.out,EZ.out]
   go_upto_region 3 with(go_at_call 66;(with_reducible refine(HV.out _ k1).mono ?_);rintro r w2 ⟨rfl,hb2⟩)
   have k2:=bt k1 hb2 (Nat.le_refl _)
   go_upto_region 6 with(go_at_call 146;(with_reducible refine(HSP.out _ k2).mono ?_);rintro r w3 ⟨a3,c3,rfl,hbs,hb3⟩)
   have k3:=bt k2 hb3 (Nat.le_refl _)
   have pz3:=hpKeep (hpKeep PZ.out hb2) hb3
   have ps3:=hpKeep (hpKeep PS.out hb2) hb3
   have HBS:=hid hbs
   clear hbs
   go_upto_region 7 with(first
    |(go_at_call 204;(with_reducible refine(HDC.out _ _ HBS.out).mono ?_);rintro r w4 ⟨e4,he4,rfl,hb4⟩;have pz4:=hpKeep pz3 hb4)
    |(refine wpList_storeW rfl 45 (.tmp 7) (.tmp 28) rfl zb 0 _ 45 #[.int .i64 0,.int .i64 0,.int .i64 0,.int .i64 0,.int .i64 0] rfl rfl pz4 (by simp) infoR5 rfl ?_;intro w5 g5 hk5 hz5))
   have k4:=bt k3 hb4 (Nat.le_refl _)
   have k5:Below w.heap.size w w5:=k4.trans (hk5.below k4.size (fun j hj e=>by have:=HZB.out;omega))
   have ps5:=hpKeeps (hpKeep ps3 hb4) hk5 (by have:=HZB.out;omega)
   have s0:=hpCell ps5 0
   have s1:=hpCell ps5 1
   have g4:(e4==0)=false:=b0 he4
   have pz5:w5.heap[zb]?=some (.cells #[.int .i64 0,.int .i64 0,.int .i64 0,.int .i64 0,.int .i64 0] 45):=g5
   clear g5
   go_upto_region 8 with(go_at_call 188;(with_reducible refine(HMM.out _ _ k5).mono ?_);rintro r w6 ⟨a6,c6,rfl,hown6,hb6⟩)
   have k6:=bt k5 hb6 (Nat.le_refl _)
   have pz3:=hpKeep pz5 hb6
   have u0:∀X,X.heap[zb]?=some (.cells #[.int .i64 0,.int .i64 0,.int .i64 0,.int .i64 0,.int .i64 0] 45)∧Keeps (· =zb) w6 X→X.cell? ⟨zb,0,none⟩=some (.int .i64 0):=(fun X h=>hpCell h.1 0);have u1:∀X,X.heap[zb]?=some (.cells #[.int .i64 0,.int .i64 0,.int .i64 0,.int .i64 0,.int .i64 0] 45)∧Keeps (· =zb) w6 X→X.cell? ⟨zb,1,none⟩=some (.int .i64 0):=(fun X h=>hpCell h.1 1);have u2:∀X,X.heap[zb]?=some (.cells #[.int .i64 0,.int .i64 0,.int .i64 0,.int .i64 0,.int .i64 0] 45)∧Keeps (· =zb) w6 X→X.cell? ⟨zb,2,none⟩=some (.int .i64 0):=(fun X h=>hpCell h.1 2);have u3:∀X,X.heap[zb]?=some (.cells #[.int .i64 0,.int .i64 0,.int .i64 0,.int .i64 0,.int .i64 0] 45)∧Keeps (· =zb) w6 X→X.cell? ⟨zb,3,none⟩=some (.int .i64 0):=(fun X h=>hpCell h.1 3);have u4:∀X,X.heap[zb]?=some (.cells #[.int .i64 0,.int .i64 0,.int .i64 0,.int .i64 0,.int .i64 0] 45)∧Keeps (· =zb) w6 X→X.cell? ⟨zb,4,none⟩=some (.int .i64 0):=(fun X h=>hpCell h.1 4);have kk:w6.drew.heap[zb]?=some (.cells #[.int .i64 0,.int .i64 0,.int .i64 0,.int .i64 0,.int .i64 0] 45)∧Keeps (· =zb) w6 w6.drew:=(⟨hpKeep pz3 (Below.refl _ _).drew,Keeps.of_below (Below.refl _ _).drew⟩)
   refine wp_region_held_drew (S:=fun V=>V.heap[zb]?=some (.cells #[.int .i64 0,.int .i64 0,.int .i64 0,.int .i64 0,.int .i64 0] 45)∧Keeps (· =zb) w6 V) (by kernel_rfl) kk (fun hH=>?_)
   clear hH
   refine tkD 0 34 (v:=?_) rfl (by kernel_rfl) (fun _ _ _ h=>h) rfl (by rfl) (by assumption) ?_ ?_;rotate_left;(intro w hSw;(try dsimp only at hSw);(try go_simp);try rfl);simp only[setS]
   refine tkD 1 35 (v:=?_) rfl (by kernel_rfl) (fun _ _ _ h=>h) rfl (by rfl) (by assumption) ?_ ?_;rotate_left;(intro w hSw;(try dsimp only at hSw);(try go_simp);try rfl);simp only[setS]
   refine tkD 2 36 (v:=?_) rfl (by kernel_rfl) (fun _ _ _ h=>h) rfl (by rfl) (by assumption) ?_ ?_;rotate_left;(intro w hSw;(try dsimp only at hSw);(try go_simp);try rfl);simp only[setS]
   refine tkD 3 37 (v:=?_) rfl (by kernel_rfl) (fun _ _ _ h=>h) rfl (by rfl) (by assumption) ?_ ?_;rotate_left;(intro w hSw;(try dsimp only at hSw);(try go_simp);try rfl);simp only[setS]
   refine tkD 4 38 (v:=?_) rfl (by kernel_rfl) (fun _ _ _ h=>h) rfl (by rfl) (by assumption) ?_ ?_;rotate_left;(intro w hSw;(try dsimp only at hSw);(try go_simp);try rfl);simp only[setS]
   refine tkD 5 39 (v:=?_) rfl (by kernel_rfl) (fun _ _ _ h=>h) rfl (by rfl) (by assumption) ?_ ?_;rotate_left;(intro w hSw;(try dsimp only at hSw);(try go_simp);try rfl);simp only[setS]
   refine tkU 6 40 rfl rfl ?_;simp only[setS]
   refine tkU 7 41 rfl rfl ?_;simp only[setS]
   refine tkU 8 42 rfl rfl ?_;simp only[setS]
   refine tkD 9 43 (v:=?_) rfl (by kernel_rfl) (fun _ _ _ h=>h) rfl (by rfl) (by assumption) ?_ ?_;rotate_left;(intro w hSw;(try dsimp only at hSw);(try go_simp);try rfl);simp only[setS]
   refine tkD 10 6 (v:=?_) rfl (by kernel_rfl) (fun _ _ _ h=>h) rfl (by rfl) (by assumption) ?_ ?_;rotate_left;(intro w hSw;(try dsimp only at hSw);(try go_simp);try rfl);simp only[setS]
   refine rdyH 11 rfl (fun K hK=>?_)
   refine step_storeW rfl 45 (.tmp 7) (.tmp 35) rfl zb 0 _ 45 #[.int .i64 0,.int .i64 0,.int .i64 0,.int .i64 0,.int .i64 0] rfl rfl (hpKeep pz3 (Below.refl _ _).drew) (by simp) infoR5 rfl ?_
   intro w8 g8 hk8 hz8
   have g9:w8.heap[zb]?=some (.cells #[.int .i64 0,.int .i64 0,.int .i64 0,.int .i64 0,.int .i64 0] 45):=g8
   have kk8:w8.heap[zb]?=some (.cells #[.int .i64 0,.int .i64 0,.int .i64 0,.int .i64 0,.int .i64 0] 45)∧Keeps (· =zb) w6 w8:=⟨g8,kk.2.trans hk8 (fun _ _ e=>e)⟩
   refine hK.out _ _ kk8 (fun hSx=>?_);clear hK K hSx
   refine tkD 12 8 (v:=?_) rfl (by kernel_rfl) (fun _ _ _ h=>h) rfl (by rfl) (by assumption) ?_ ?_;rotate_left;(intro w hSw;(try dsimp only at hSw);(try go_simp);try rfl)
   refine tkD 13 9 (v:=?_) rfl (by kernel_rfl) (fun _ _ _ h=>h) rfl (by rfl) (by assumption) ?_ ?_;rotate_left;(intro w hSw;(try dsimp only at hSw);(try go_simp);try rfl)
   refine wpAnyH_done (by kernel_rfl) ?_ _
   go_wp2
   have q0:=hpCell g9 0;have q1:=hpCell g9 1;have q2:=hpCell g9 2;have q3:=hpCell g9 3;have q4:=hpCell g9 4;refine bodyPost_ret (v:=.tuple #[.int .i64 u,.agg #[.int .i64 0,.int .i64 0,.int .i64 0,.int .i64 0,.int .i64 0],.slice a6 (memb l bd pa u ln).length c6,.bool false]) (by simp [results,Tryz.results185,go_sem,q0,q1,q2,q3,q4]) rfl ?_
   exact⟨u,0,0,0,0,0,a6,_,c6,rfl,k6.trans (kk8.2.below k6.size (fun j hj e=>by have:=HZB.out;omega))⟩
  |some q=>
   rw[busDec_mb HS.out hq]
   have HDC:Hid (∀X v,Bs X v p→Calls Tryz.prog 204 #[v] X (QdPost X (some q))):=fun X v hX=>pqdec_any v p X hX (some q) hq
   clear hq
   rw[HLN.out]
   obtain⟨ms,hms⟩:∃m,memb l bd pa u ln=m:=⟨_,rfl⟩
   obtain⟨ml,hml⟩:∃n,ms.length=n:=⟨_,rfl⟩
   have HMS:Hid (∀X,Below w.heap.size w X→Calls Tryz.prog 188 #[.slice la ln lc,.agg #[.int .i64 bd,.int .i64 pa],.int .i64 u] X (fun r w'=>∃a c,r=.returned (.slice a ml c)∧w'.ownsRow X.heap.size 3 1 (.slice a ml c) ml (ms.map fun i:Nat=>.int .i64 (i:Int))∧Below X.heap.size X w')):=fun X hX=>by have h:=HMM.out X u hX;rw[hms] at h;refine h.mono ?_;rintro r w' ⟨a,c,h1,h2,h3⟩;rw[hml] at h1 h2;exact⟨a,c,h1,h2,h3⟩
   rw[hms]
   have HML:=hid hml
   clear hms hml
   by_cases h0:ms=[]
   ·rw [if_pos h0]
    have HM0:Hid (ml=0):=by show _=_;rw[←HML.out,h0];rfl
    have g6:decide ((0:Int)<(ml:Int))=false:=decide_eq_false (by have:=HM0.out;omega)
    clear h0
    go_enter Tryz.func185,Tryz.ntmps185
    go_upto_region 1 with(fail)
    rw[HW1.out,EZ.out]
    go_upto_region 3 with(go_at_call 66;(with_reducible refine(HV.out _ k1).mono ?_);rintro r w2 ⟨rfl,hb2⟩)
    have k2:=bt k1 hb2 (Nat.le_refl _)
    go_upto_region 6 with(go_at_call 146;(with_reducible refine(HSP.out _ k2).mono ?_);rintro r w3 ⟨a3,c3,rfl,hbs,hb3⟩)
    have k3:=bt k2 hb3 (Nat.le_refl _)
    have pz3:=hpKeep (hpKeep PZ.out hb2) hb3
    have ps3:=hpKeep (hpKeep PS.out hb2) hb3
    have HBS:=hid hbs
    clear hbs
    go_upto_region 7 with(first
     |(go_at_call 204;(with_reducible refine(HDC.out _ _ HBS.out).mono ?_);rintro r w4 ⟨rfl,hb4⟩;have pz4:=hpKeep pz3 hb4)
     |(refine wpList_storeW rfl 45 (.tmp 7) (.tmp 28) rfl zb 0 _ 45 #[.int .i64 q.fn,.int .i64 q.addr,.int .i64 q.qty,.int .i64 q.code,.int .i64 q.obj] rfl rfl pz4 (by simp) infoR5 rfl ?_;intro w5 g5 hk5 hz5))
    have k4:=bt k3 hb4 (Nat.le_refl _)
    have k5:Below w.heap.size w w5:=k4.trans (hk5.below k4.size (fun j hj e=>by have:=HZB.out;omega))
    have ps5:=hpKeeps (hpKeep ps3 hb4) hk5 (by have:=HZB.out;omega)
    have s0:=hpCell ps5 0
    have s1:=hpCell ps5 1
    have pz5:w5.heap[zb]?=some (.cells #[.int .i64 q.fn,.int .i64 q.addr,.int .i64 q.qty,.int .i64 q.code,.int .i64 q.obj] 45):=g5
    clear g5
    go_upto_region 8 with(go_at_call 188;(with_reducible refine(HMS.out _ k5).mono ?_);rintro r w6 ⟨a6,c6,rfl,hown6,hb6⟩)
    have k6:=bt k5 hb6 (Nat.le_refl _)
    have pz3:=hpKeep pz5 hb6
    have u0:∀X,X.heap[zb]?=some (.cells #[.int .i64 q.fn,.int .i64 q.addr,.int .i64 q.qty,.int .i64 q.code,.int .i64 q.obj] 45)∧Keeps (· =zb) w6 X→X.cell? ⟨zb,0,none⟩=some (.int .i64 q.fn):=(fun X h=>hpCell h.1 0);have u1:∀X,X.heap[zb]?=some (.cells #[.int .i64 q.fn,.int .i64 q.addr,.int .i64 q.qty,.int .i64 q.code,.int .i64 q.obj] 45)∧Keeps (· =zb) w6 X→X.cell? ⟨zb,1,none⟩=some (.int .i64 q.addr):=(fun X h=>hpCell h.1 1);have u2:∀X,X.heap[zb]?=some (.cells #[.int .i64 q.fn,.int .i64 q.addr,.int .i64 q.qty,.int .i64 q.code,.int .i64 q.obj] 45)∧Keeps (· =zb) w6 X→X.cell? ⟨zb,2,none⟩=some (.int .i64 q.qty):=(fun X h=>hpCell h.1 2);have u3:∀X,X.heap[zb]?=some (.cells #[.int .i64 q.fn,.int .i64 q.addr,.int .i64 q.qty,.int .i64 q.code,.int .i64 q.obj] 45)∧Keeps (· =zb) w6 X→X.cell? ⟨zb,3,none⟩=some (.int .i64 q.code):=(fun X h=>hpCell h.1 3);have u4:∀X,X.heap[zb]?=some (.cells #[.int .i64 q.fn,.int .i64 q.addr,.int .i64 q.qty,.int .i64 q.code,.int .i64 q.obj] 45)∧Keeps (· =zb) w6 X→X.cell? ⟨zb,4,none⟩=some (.int .i64 q.obj):=(fun X h=>hpCell h.1 4);have kk:w6.drew.heap[zb]?=some (.cells #[.int .i64 q.fn,.int .i64 q.addr,.int .i64 q.qty,.int .i64 q.code,.int .i64 q.obj] 45)∧Keeps (· =zb) w6 w6.drew:=(⟨hpKeep pz3 (Below.refl _ _).drew,Keeps.of_below (Below.refl _ _).drew⟩)
    refine wp_region_held_drew (S:=fun V=>V.heap[zb]?=some (.cells #[.int .i64 q.fn,.int .i64 q.addr,.int .i64 q.qty,.int .i64 q.code,.int .i64 q.obj] 45)∧Keeps (· =zb) w6 V) (by kernel_rfl) kk (fun hH=>?_)
    clear hH
    refine tkD 0 34 (v:=?_) rfl (by kernel_rfl) (fun _ _ _ h=>h) rfl (by rfl) (by assumption) ?_ ?_;rotate_left;(intro w hSw;(try dsimp only at hSw);(try go_simp);try rfl);simp only[setS]
    refine tkD 1 35 (v:=?_) rfl (by kernel_rfl) (fun _ _ _ h=>h) rfl (by rfl) (by assumption) ?_ ?_;rotate_left;(intro w hSw;(try dsimp only at hSw);(try go_simp);try rfl);simp only[setS]
    refine tkD 2 36 (v:=?_) rfl (by kernel_rfl) (fun _ _ _ h=>h) rfl (by rfl) (by assumption) ?_ ?_;rotate_left;(intro w hSw;(try dsimp only at hSw);(try go_simp);try rfl);simp only[setS]
    refine tkD 3 37 (v:=?_) rfl (by kernel_rfl) (fun _ _ _ h=>h) rfl (by rfl) (by assumption) ?_ ?_;rotate_left;(intro w hSw;(try dsimp only at hSw);(try go_simp);try rfl);simp only[setS]
    refine tkD 4 38 (v:=?_) rfl (by kernel_rfl) (fun _ _ _ h=>h) rfl (by rfl) (by assumption) ?_ ?_;rotate_left;(intro w hSw;(try dsimp only at hSw);(try go_simp);try rfl);simp only[setS]
    refine tkD 5 39 (v:=?_) rfl (by kernel_rfl) (fun _ _ _ h=>h) rfl (by rfl) (by assumption) ?_ ?_;rotate_left;(intro w hSw;(try dsimp only at hSw);(try go_simp);try rfl);simp only[setS]
    refine tkD 6 40 (v:=?_) rfl (by kernel_rfl) (fun _ _ _ h=>h) rfl (by rfl) (by assumption) ?_ ?_;rotate_left;(intro w hSw;(try dsimp only at hSw);(try go_simp);try rfl);simp only[setS]
    refine tkD 7 41 (v:=?_) rfl (by kernel_rfl) (fun _ _ _ h=>h) rfl (by rfl) (by assumption) ?_ ?_;rotate_left;(intro w hSw;(try dsimp only at hSw);(try go_simp);try rfl);simp only[setS]
    refine tkD 8 42 (v:=?_) rfl (by kernel_rfl) (fun _ _ _ h=>h) rfl (by rfl) (by assumption) ?_ ?_;rotate_left;(intro w hSw;(try dsimp only at hSw);(try go_simp);try rfl);simp only[setS]
    refine tkD 9 43 (v:=?_) rfl (by kernel_rfl) (fun _ _ _ h=>h) rfl (by rfl) (by assumption) ?_ ?_;rotate_left;(intro w hSw;(try dsimp only at hSw);(try go_simp);try rfl);simp only[setS]
    refine tkD 10 6 (v:=?_) rfl (by kernel_rfl) (fun _ _ _ h=>h) rfl (by rfl) (by assumption) ?_ ?_;rotate_left;(intro w hSw;(try dsimp only at hSw);(try go_simp);try rfl);simp only[setS]
    refine rdyH 11 rfl (fun K hK=>?_)
    refine step_storeW rfl 45 (.tmp 7) (.tmp 35) rfl zb 0 _ 45 #[.int .i64 q.fn,.int .i64 q.addr,.int .i64 q.qty,.int .i64 q.code,.int .i64 q.obj] rfl rfl (hpKeep pz3 (Below.refl _ _).drew) (by simp) infoR5 rfl ?_
    intro w8 g8 hk8 hz8
    have g9:w8.heap[zb]?=some (.cells #[.int .i64 q.fn,.int .i64 q.addr,.int .i64 q.qty,.int .i64 q.code,.int .i64 q.obj] 45):=g8
    have kk8:w8.heap[zb]?=some (.cells #[.int .i64 q.fn,.int .i64 q.addr,.int .i64 q.qty,.int .i64 q.code,.int .i64 q.obj] 45)∧Keeps (· =zb) w6 w8:=⟨g8,kk.2.trans hk8 (fun _ _ e=>e)⟩
    refine hK.out _ _ kk8 (fun hSx=>?_);clear hK K hSx
    refine tkD 12 8 (v:=?_) rfl (by kernel_rfl) (fun _ _ _ h=>h) rfl (by rfl) (by assumption) ?_ ?_;rotate_left;(intro w hSw;(try dsimp only at hSw);(try go_simp);try rfl)
    refine tkD 13 9 (v:=?_) rfl (by kernel_rfl) (fun _ _ _ h=>h) rfl (by rfl) (by assumption) ?_ ?_;rotate_left;(intro w hSw;(try dsimp only at hSw);(try go_simp);try rfl)
    refine wpAnyH_done (by kernel_rfl) ?_ _
    go_wp2
    have q0:=hpCell g9 0;have q1:=hpCell g9 1;have q2:=hpCell g9 2;have q3:=hpCell g9 3;have q4:=hpCell g9 4;refine bodyPost_ret (v:=.tuple #[.int .i64 u,.agg #[.int .i64 q.fn,.int .i64 q.addr,.int .i64 q.qty,.int .i64 q.code,.int .i64 q.obj],.slice a6 ml c6,.bool false]) (by simp [results,Tryz.results185,go_sem,q0,q1,q2,q3,q4,HM0.out]) rfl ?_
    exact⟨u,q.fn,q.addr,q.qty,q.code,q.obj,a6,ml,c6,rfl,k6.trans (kk8.2.below k6.size (fun j hj e=>by have:=HZB.out;omega))⟩
   ·rw [if_neg h0]
    have HM0:Hid (0<ml):=by show 0<ml;rw[←HML.out];exact List.length_pos_iff.2 h0
    have g6:decide ((0:Int)<(ml:Int))=true:=decide_eq_true (by have:=HM0.out;omega)
    clear h0
    go_enter Tryz.func185,Tryz.ntmps185
    go_upto_region 1 with(fail)
    rw[HW1.out,EZ.out]
    go_upto_region 3 with(go_at_call 66;(with_reducible refine(HV.out _ k1).mono ?_);rintro r w2 ⟨rfl,hb2⟩)
    have k2:=bt k1 hb2 (Nat.le_refl _)
    go_upto_region 6 with(go_at_call 146;(with_reducible refine(HSP.out _ k2).mono ?_);rintro r w3 ⟨a3,c3,rfl,hbs,hb3⟩)
    have k3:=bt k2 hb3 (Nat.le_refl _)
    have pz3:=hpKeep (hpKeep PZ.out hb2) hb3
    have ps3:=hpKeep (hpKeep PS.out hb2) hb3
    have HBS:=hid hbs
    clear hbs
    go_upto_region 7 with(first
     |(go_at_call 204;(with_reducible refine(HDC.out _ _ HBS.out).mono ?_);rintro r w4 ⟨rfl,hb4⟩;have pz4:=hpKeep pz3 hb4)
     |(refine wpList_storeW rfl 45 (.tmp 7) (.tmp 28) rfl zb 0 _ 45 #[.int .i64 q.fn,.int .i64 q.addr,.int .i64 q.qty,.int .i64 q.code,.int .i64 q.obj] rfl rfl pz4 (by simp) infoR5 rfl ?_;intro w5 g5 hk5 hz5))
    have k4:=bt k3 hb4 (Nat.le_refl _)
    have k5:Below w.heap.size w w5:=k4.trans (hk5.below k4.size (fun j hj e=>by have:=HZB.out;omega))
    have ps5:=hpKeeps (hpKeep ps3 hb4) hk5 (by have:=HZB.out;omega)
    have s0:=hpCell ps5 0
    have s1:=hpCell ps5 1
    have pz5:w5.heap[zb]?=some (.cells #[.int .i64 q.fn,.int .i64 q.addr,.int .i64 q.qty,.int .i64 q.code,.int .i64 q.obj] 45):=g5
    clear g5
    go_upto_region 8 with(go_at_call 188;(with_reducible refine(HMS.out _ k5).mono ?_);rintro r w6 ⟨a6,c6,rfl,hown6,hb6⟩)
    have k6:=bt k5 hb6 (Nat.le_refl _)
    have pz3:=hpKeep pz5 hb6
    have u0:∀X,X.heap[zb]?=some (.cells #[.int .i64 q.fn,.int .i64 q.addr,.int .i64 q.qty,.int .i64 q.code,.int .i64 q.obj] 45)∧Keeps (· =zb) w6 X→X.cell? ⟨zb,0,none⟩=some (.int .i64 q.fn):=(fun X h=>hpCell h.1 0);have u1:∀X,X.heap[zb]?=some (.cells #[.int .i64 q.fn,.int .i64 q.addr,.int .i64 q.qty,.int .i64 q.code,.int .i64 q.obj] 45)∧Keeps (· =zb) w6 X→X.cell? ⟨zb,1,none⟩=some (.int .i64 q.addr):=(fun X h=>hpCell h.1 1);have u2:∀X,X.heap[zb]?=some (.cells #[.int .i64 q.fn,.int .i64 q.addr,.int .i64 q.qty,.int .i64 q.code,.int .i64 q.obj] 45)∧Keeps (· =zb) w6 X→X.cell? ⟨zb,2,none⟩=some (.int .i64 q.qty):=(fun X h=>hpCell h.1 2);have u3:∀X,X.heap[zb]?=some (.cells #[.int .i64 q.fn,.int .i64 q.addr,.int .i64 q.qty,.int .i64 q.code,.int .i64 q.obj] 45)∧Keeps (· =zb) w6 X→X.cell? ⟨zb,3,none⟩=some (.int .i64 q.code):=(fun X h=>hpCell h.1 3);have u4:∀X,X.heap[zb]?=some (.cells #[.int .i64 q.fn,.int .i64 q.addr,.int .i64 q.qty,.int .i64 q.code,.int .i64 q.obj] 45)∧Keeps (· =zb) w6 X→X.cell? ⟨zb,4,none⟩=some (.int .i64 q.obj):=(fun X h=>hpCell h.1 4);have kk:w6.drew.heap[zb]?=some (.cells #[.int .i64 q.fn,.int .i64 q.addr,.int .i64 q.qty,.int .i64 q.code,.int .i64 q.obj] 45)∧Keeps (· =zb) w6 w6.drew:=(⟨hpKeep pz3 (Below.refl _ _).drew,Keeps.of_below (Below.refl _ _).drew⟩)
    refine wp_region_held_drew (S:=fun V=>V.heap[zb]?=some (.cells #[.int .i64 q.fn,.int .i64 q.addr,.int .i64 q.qty,.int .i64 q.code,.int .i64 q.obj] 45)∧Keeps (· =zb) w6 V) (by kernel_rfl) kk (fun hH=>?_)
    clear hH
    refine tkD 0 34 (v:=?_) rfl (by kernel_rfl) (fun _ _ _ h=>h) rfl (by rfl) (by assumption) ?_ ?_;rotate_left;(intro w hSw;(try dsimp only at hSw);(try go_simp);try rfl);simp only[setS]
    refine tkD 1 35 (v:=?_) rfl (by kernel_rfl) (fun _ _ _ h=>h) rfl (by rfl) (by assumption) ?_ ?_;rotate_left;(intro w hSw;(try dsimp only at hSw);(try go_simp);try rfl);simp only[setS]
    refine tkD 2 36 (v:=?_) rfl (by kernel_rfl) (fun _ _ _ h=>h) rfl (by rfl) (by assumption) ?_ ?_;rotate_left;(intro w hSw;(try dsimp only at hSw);(try go_simp);try rfl);simp only[setS]
    refine tkD 3 37 (v:=?_) rfl (by kernel_rfl) (fun _ _ _ h=>h) rfl (by rfl) (by assumption) ?_ ?_;rotate_left;(intro w hSw;(try dsimp only at hSw);(try go_simp);try rfl);simp only[setS]
    refine tkD 4 38 (v:=?_) rfl (by kernel_rfl) (fun _ _ _ h=>h) rfl (by rfl) (by assumption) ?_ ?_;rotate_left;(intro w hSw;(try dsimp only at hSw);(try go_simp);try rfl);simp only[setS]
    refine tkD 5 39 (v:=?_) rfl (by kernel_rfl) (fun _ _ _ h=>h) rfl (by rfl) (by assumption) ?_ ?_;rotate_left;(intro w hSw;(try dsimp only at hSw);(try go_simp);try rfl);simp only[setS]
    refine tkD 6 40 (v:=?_) rfl (by kernel_rfl) (fun _ _ _ h=>h) rfl (by rfl) (by assumption) ?_ ?_;rotate_left;(intro w hSw;(try dsimp only at hSw);(try go_simp);try rfl);simp only[setS]
    refine tkD 7 41 (v:=?_) rfl (by kernel_rfl) (fun _ _ _ h=>h) rfl (by rfl) (by assumption) ?_ ?_;rotate_left;(intro w hSw;(try dsimp only at hSw);(try go_simp);try rfl);simp only[setS]
    refine tkD 8 42 (v:=?_) rfl (by kernel_rfl) (fun _ _ _ h=>h) rfl (by rfl) (by assumption) ?_ ?_;rotate_left;(intro w hSw;(try dsimp only at hSw);(try go_simp);try rfl);simp only[setS]
    refine tkD 9 43 (v:=?_) rfl (by kernel_rfl) (fun _ _ _ h=>h) rfl (by rfl) (by assumption) ?_ ?_;rotate_left;(intro w hSw;(try dsimp only at hSw);(try go_simp);try rfl);simp only[setS]
    refine tkD 10 6 (v:=?_) rfl (by kernel_rfl) (fun _ _ _ h=>h) rfl (by rfl) (by assumption) ?_ ?_;rotate_left;(intro w hSw;(try dsimp only at hSw);(try go_simp);try rfl);simp only[setS]
    refine rdyH 11 rfl (fun K hK=>?_)
    refine step_storeW rfl 45 (.tmp 7) (.tmp 35) rfl zb 0 _ 45 #[.int .i64 q.fn,.int .i64 q.addr,.int .i64 q.qty,.int .i64 q.code,.int .i64 q.obj] rfl rfl (hpKeep pz3 (Below.refl _ _).drew) (by simp) infoR5 rfl ?_
    intro w8 g8 hk8 hz8
    have g9:w8.heap[zb]?=some (.cells #[.int .i64 q.fn,.int .i64 q.addr,.int .i64 q.qty,.int .i64 q.code,.int .i64 q.obj] 45):=g8
    have kk8:w8.heap[zb]?=some (.cells #[.int .i64 q.fn,.int .i64 q.addr,.int .i64 q.qty,.int .i64 q.code,.int .i64 q.obj] 45)∧Keeps (· =zb) w6 w8:=⟨g8,kk.2.trans hk8 (fun _ _ e=>e)⟩
    refine hK.out _ _ kk8 (fun hSx=>?_);clear hK K hSx
    refine tkD 12 8 (v:=?_) rfl (by kernel_rfl) (fun _ _ _ h=>h) rfl (by rfl) (by assumption) ?_ ?_;rotate_left;(intro w hSw;(try dsimp only at hSw);(try go_simp);try rfl)
    refine tkD 13 9 (v:=?_) rfl (by kernel_rfl) (fun _ _ _ h=>h) rfl (by rfl) (by assumption) ?_ ?_;rotate_left;(intro w hSw;(try dsimp only at hSw);(try go_simp);try rfl)
    refine wpAnyH_done (by kernel_rfl) ?_ _
    go_wp2
    have q0:=hpCell g9 0;have q1:=hpCell g9 1;have q2:=hpCell g9 2;have q3:=hpCell g9 3;have q4:=hpCell g9 4;refine bodyPost_ret (v:=.tuple #[.int .i64 u,.agg #[.int .i64 q.fn,.int .i64 q.addr,.int .i64 q.qty,.int .i64 q.code,.int .i64 q.obj],.slice a6 ml c6,.bool true]) (by simp [results,Tryz.results185,go_sem,q0,q1,q2,q3,q4,HM0.out]) rfl ?_
    have e:=HML.out
    subst e
    exact⟨a6,c6,rfl,own_lower (own_keeps hown6 kk8.2 (fun j hj e=>by have:=(hown6.lt j hj).1;have:=k5.size;have:=HZB.out;have h1:=hpLt pz5;omega)) k5.size,k6.trans (kk8.2.below k6.size (fun j hj e=>by have:=HZB.out;omega))⟩
end Go.Proofs.YtoaoejaodhedaaaGreat
