import Derived.Test.YtoaoejaodhedaaaGreatQ16
namespace Go.Proofs.YtoaoejaodhedaaaGreat
open Go.RowKit
set_option maxHeartbeats 12800000
set_option maxRecDepth 100000
theorem pread_ans (t:Tbl) (rv:Value) (q:Rq) (hq:q.ok=true) (hf:1≤q.fn∧q.fn≤4) (x:Int) (x0:0≤x) (x1:x≤65535) (w:World) (hl:Rgs w rv t.rd) (hgd:t.sup=true→rgsFrom (-1) t.rd=true):
  Calls Tryz.prog 208 #[.agg #[.bool t.sup,rv,.int .i64 t.most],.agg #[.int .i64 q.fn,.int .i64 q.addr,.int .i64 q.qty,.int .i64 q.code,.int .i64 q.obj],.int .i64 x] w (TabPostD w q.fn (t.ans q x).exc (t.ans q x).data):=by
 obtain⟨fn,ad,qt,co,ob⟩:=q;dsimp only at hf ⊢;unfold Rq.ok at hq;dsimp only at hq;rw[if_pos hf] at hq;simp only[Bool.and_eq_true,decide_eq_true_eq,beq_iff_eq] at hq;obtain⟨⟨⟨⟨⟨h0,h1⟩,h2⟩,h3⟩,rfl⟩,rfl⟩:=hq;have hlm:(fn=1∨fn=2)∧qt≤2000∨(fn=3∨fn=4)∧qt≤125:=by
  unfold limI at h2;split at h2
  ·exact .inl ⟨by assumption,h2⟩
  ·split at h2
   ·exact .inr ⟨by assumption,h2⟩
   ·omega
 unfold Tbl.ans;dsimp only;cases hs:t.sup with
 |false=>
  have:=pread_exc t rv fn ad qt x h0 h1 (by omega) w hl hgd 1 (.inl ⟨hs,rfl⟩);rw[hs] at this;exact this
 |true=>
  rw[if_neg (fun e:true=false=>by cases e)];by_cases hm:t.most<qt
  ·rw [if_pos hm]
   have:=pread_exc t rv fn ad qt x h0 h1 (by omega) w hl hgd 3 (.inr (.inl ⟨hs,hm,rfl⟩));rw[hs] at this;exact this
  ·rw [if_neg hm]
   cases hc:covB t.rd ad qt.toNat with
   |true=>
    rw[if_neg (fun e:true=false=>by cases e)];rcases hlm with⟨hf2,hq2⟩|⟨hf2,hq2⟩
    ·rw [if_pos (by omega:fn≤2)]
     have:=pread_bits t rv fn ad qt x hf2 h0 h1 hq2 (by omega) x0 x1 w hl (hgd hs) hs hm hc;rw[hs] at this;exact this
    ·rw [if_neg (by omega:¬fn≤2)]
     have:=pread_words t rv fn ad qt x hf2 h0 h1 hq2 (by omega) x0 x1 w hl (hgd hs) hs hm hc;rw[hs] at this;exact this
   |false=>
    rw[if_pos rfl];have:=pread_exc t rv fn ad qt x h0 h1 (by omega) w hl hgd 2 (.inr (.inr ⟨hs,hm,hc,rfl⟩));rw[hs] at this;exact this
theorem selO_pre (l:List Ob) (lo hi:Int) (k:Nat):∃r,selO l lo hi=selO (l.take k) lo hi++selO (l.drop k) lo hi∧r=selO (l.drop k) lo hi:=by
 refine⟨_,?_,rfl⟩;unfold selO;rw[←List.filter_append,List.take_append_drop]
theorem selO_step {l:List Ob} {lo hi:Int} {k n:Nat} {x:Ob} (hx:l[k]?=some x) (hn:selO (l.take k) lo hi=(selO l lo hi).take n) (hnl:n≤(selO l lo hi).length) (h1:lo≤x.id) (h2:x.id≤hi):
  (selO l lo hi)[n]?=some x∧selO (l.take (k+1)) lo hi=(selO l lo hi).take (n+1)∧n+1≤(selO l lo hi).length:=by
 obtain⟨-,e,-⟩:=selO_pre l lo hi k;have hlen:(selO (l.take k) lo hi).length=n:=by rw[hn,List.length_take];omega
 have hd:l.drop k=x::l.drop (k+1):=by
  have hkl:=(List.getElem?_eq_some_iff.1 hx).1;rw[List.drop_eq_getElem_cons hkl];congr 1;rw[List.getElem?_eq_getElem hkl] at hx;exact Option.some.inj hx
 have hs:selO (l.drop k) lo hi=x::selO (l.drop (k+1)) lo hi:=by
  rw[hd];unfold selO;rw[List.filter_cons,if_pos (by rw[decide_eq_true h1,decide_eq_true h2];rfl)]
 rw[hs] at e;have g1:(selO l lo hi)[n]?=some x:=by rw[e,List.getElem?_append_right (by omega),hlen,Nat.sub_self];rfl
 refine⟨g1,?_,?_⟩
 ·rw [selO_yes hx h1 h2,hn,bT g1]
 ·have:=(List.getElem?_eq_some_iff.1 g1).1
  omega
theorem DvB.bel {W4 wi wj:World} {rb:Nat} {co lv:Int} {acc:List Ob} {k:Nat} {oa:Option Addr} {oc:Nat} {cs:List Value} (h:DvB W4 rb co lv acc k (.slice oa k oc) cs wi) (hb:Below wi.heap.size wi wj):DvB W4 rb co lv acc k (.slice oa k oc) cs wj:=
 ⟨bB h.r hb,bF (F:=fun _=>False) h.own (Keeps.of_below hb) (fun _ _ e=>e),
  CsL.mono (fun r y hy=>ObQF.keeps (F:=DevF W4.heap.size (.slice oa k oc)) (F2:=DevF W4.heap.size (.slice oa k oc)) (Keeps.of_below hb) (fun _ _ e=>e) r y hy) _ _ h.rows,
  h.kp.trans (Keeps.of_below (F:=fun _=>False) hb) (fun _ _ e=>e.elim)⟩
theorem pident_no (s:Sl) (rv:Nat→Value) (ov sv:Value) (ad qt c ob:Int) (w:World) (hlv:s.lv=0):
  Calls Tryz.prog 207 #[.agg (SlC s rv ov sv),.agg #[.int .i64 43,.int .i64 ad,.int .i64 qt,.int .i64 c,.int .i64 ob]] w (TabPostD w 43 1 []):=by
 obtain⟨C,hC⟩:=gE (SlC s rv ov sv);rw[hC];obtain⟨W1,hW1⟩:∃W,((w.alloc (.cells C 68)).alloc (.cells #[.int .i64 43,.int .i64 ad,.int .i64 qt,.int .i64 c,.int .i64 ob] 45)).alloc (.cells #[.int .i64 0,.int .i64 0,.slice none 0 0,.int .i64 0,.int .i64 0,.bool false,.int .i64 0,.slice none 0 0] 53)=W:=⟨_,rfl⟩;have hz1:W1.heap.size=w.heap.size+3:=(by rw[←hW1];simp);have hb1:Below w.heap.size w W1:=(by rw[←hW1];exact cJ (cJ (bH w _) (Nat.le_refl _) _) (Nat.le_refl _) _);have pS:W1.heap[w.heap.size]?=some (.cells C 68):=(by rw[←hW1];exact bB (bB (bI w _) (bH _ _)) (bH _ _));have pQ:W1.heap[w.heap.size+1]?=some (.cells #[.int .i64 43,.int .i64 ad,.int .i64 qt,.int .i64 c,.int .i64 ob] 45):=(by rw[←hW1];refine bB ?_ (bH _ _);simpa using bI (w.alloc (.cells C 68)) (.cells #[.int .i64 43,.int .i64 ad,.int .i64 qt,.int .i64 c,.int .i64 ob] 45));have pZ:W1.heap[w.heap.size+2]?=some (.cells #[.int .i64 0,.int .i64 0,.slice none 0 0,.int .i64 0,.int .i64 0,.bool false,.int .i64 0,.slice none 0 0] 53):=(by rw[←hW1];simpa using bI ((w.alloc (.cells C 68)).alloc (.cells #[.int .i64 43,.int .i64 ad,.int .i64 qt,.int .i64 c,.int .i64 ob] 45)) (.cells #[.int .i64 0,.int .i64 0,.slice none 0 0,.int .i64 0,.int .i64 0,.bool false,.int .i64 0,.slice none 0 0] 53));obtain⟨zb,hzb⟩:∃n,w.heap.size+2=n:=⟨_,rfl⟩;have E2:Hid (w.heap.size+1+1=zb):=hzb;rw[hzb] at pZ;have EZB:=bC hzb;have t15:W1.cell? ⟨w.heap.size,15,none⟩=some (.int .i64 0):=by rw[bA pS 15,←hC,←hlv];rfl
 have z0:=bA pQ 0;have z1:=bA pQ 1;have z2:=bA pQ 2;have z3:=bA pQ 3;have z4:=bA pQ 4;have HRF:Hid (∀X,Calls Tryz.prog 209 #[.agg #[.int .i64 43,.int .i64 ad,.int .i64 qt,.int .i64 c,.int .i64 ob],.int .i64 1] X (RefPost X 43 1)):=fun X=>refuse_any 43 ad qt c ob 1 X
 have HW1:=bC hW1;have HB1:=bC hb1;have PZ:=bC pZ;clear hW1 hb1 hz1 pS pQ pZ hC hzb hlv;go_enter Tryz.func207,Tryz.ntmps207;go_upto_region 1 with(fail)
 rw[HW1.out,E2.out];go_wp2_with (first
  |(go_at_call 209;(with_reducible refine(HRF.out _).mono ?_);rintro r w3 ⟨rfl,hb3⟩;have pz3:=bB PZ.out hb3)
  |(refine bE rfl 53 (.tmp 4) (.tmp 13) rfl zb 0 _ 53 #[.int .i64 43,.int .i64 1,.slice none 0 0,.int .i64 0,.int .i64 0,.bool false,.int .i64 0,.slice none 0 0] rfl rfl pz3 (by simp) cQ rfl ?_;intro w8 g8 hk8 hz8))
 have g9:w8.heap[zb]?=some (.cells #[.int .i64 43,.int .i64 1,.slice none 0 0,.int .i64 0,.int .i64 0,.bool false,.int .i64 0,.slice none 0 0] 53):=g8;refine bodyPost_ret (results_cell_row rfl _ _ zb 53 _ (0,0) _ rfl g9 Tryz.underlying53 rfl cQ) rfl ?_;exact TabPostD.no HB1.out (by have:=EZB.out;omega) hb3 hk8
theorem z16_1 {p:Prop} (h:p:=by
 go_upto_region 8 with(fail);rw[HWX.out];clear y0 y1;go_quiet ((go_at_call 179;with_reducible exact Calls.quiet_of_same (v:=.int .i64 G) ((HG.out _).mono fun _ _ h=>⟨h.1,h.2.symm⟩)));go_wp2;go_roundw;(case rel=>exact⟨k+1,n,sz,ra,rc,cs,rfl,by go_num,by omega,by omega,HSK,HSZ,HBX.out.bel (below_drewN (Below.refl _ _) _)⟩);(case measure=>simp [intOf];omega)):p:=h
theorem pident_sel (s:Sl) (rv:Nat→Value) (ov sv:Value) (ad qt ob c:Int) (w:World) (hR:SlR w s rv ov sv) (hlv:0<s.lv) (hon16:s.objs.length≤16) (hvl:∀y∈s.objs,y.val.length≤100):
  Calls Tryz.prog 207 #[.agg (SlC s rv ov sv),.agg #[.int .i64 43,.int .i64 ad,.int .i64 qt,.int .i64 c,.int .i64 ob]] w (DvPy w s c (selO s.objs ob (grI c))):=by
 obtain⟨oa,oc,rfl,-⟩:=id hR.ob;obtain⟨on,hon⟩:=gE s.objs.length;rw[hon] at hon16 ⊢;obtain⟨ov,hov⟩:=gE (Value.slice oa on oc);rw[hov];obtain⟨C,hC⟩:=gE (SlC s rv ov sv);rw[hC];obtain⟨W1,hW1⟩:∃W,((w.alloc (.cells C 68)).alloc (.cells #[.int .i64 43,.int .i64 ad,.int .i64 qt,.int .i64 c,.int .i64 ob] 45)).alloc (.cells #[.int .i64 0,.int .i64 0,.slice none 0 0,.int .i64 0,.int .i64 0,.bool false,.int .i64 0,.slice none 0 0] 53)=W:=⟨_,rfl⟩;have hz1:W1.heap.size=w.heap.size+3:=(by rw[←hW1];simp);have hb1:Below w.heap.size w W1:=(by rw[←hW1];exact cJ (cJ (bH w _) (Nat.le_refl _) _) (Nat.le_refl _) _);have pS:W1.heap[w.heap.size]?=some (.cells C 68):=(by rw[←hW1];exact bB (bB (bI w _) (bH _ _)) (bH _ _));have pQ:W1.heap[w.heap.size+1]?=some (.cells #[.int .i64 43,.int .i64 ad,.int .i64 qt,.int .i64 c,.int .i64 ob] 45):=(by rw[←hW1];refine bB ?_ (bH _ _);simpa using bI (w.alloc (.cells C 68)) (.cells #[.int .i64 43,.int .i64 ad,.int .i64 qt,.int .i64 c,.int .i64 ob] 45));have pZ:W1.heap[w.heap.size+2]?=some (.cells #[.int .i64 0,.int .i64 0,.slice none 0 0,.int .i64 0,.int .i64 0,.bool false,.int .i64 0,.slice none 0 0] 53):=(by rw[←hW1];simpa using bI ((w.alloc (.cells C 68)).alloc (.cells #[.int .i64 43,.int .i64 ad,.int .i64 qt,.int .i64 c,.int .i64 ob] 45)) (.cells #[.int .i64 0,.int .i64 0,.slice none 0 0,.int .i64 0,.int .i64 0,.bool false,.int .i64 0,.slice none 0 0] 53));obtain⟨zb,hzb⟩:∃n,w.heap.size+2=n:=⟨_,rfl⟩;have E2:Hid (w.heap.size+1+1=zb):=hzb;rw[hzb] at pZ;have EZB:=bC hzb;obtain⟨lv,hslv⟩:=gE s.lv;obtain⟨G,hG⟩:=gE (grI c);rw[hG];obtain⟨LL,hLL⟩:=gE (selO s.objs ob G);rw[hLL];have t15:∀X,Below W1.heap.size W1 X→X.cell? ⟨w.heap.size,15,none⟩=some (.int .i64 lv):=fun X h=>by rw[bA (bB pS h) 15,←hC,←hslv];rfl
 have t16:∀X,Below W1.heap.size W1 X→X.cell? ⟨w.heap.size,16,none⟩=some (.slice oa on oc):=fun X h=>by rw[bA (bB pS h) 16,←hC,hov];rfl
 have q0:=cF pQ 0 rfl;have q3:=cF pQ 3 rfl;have k0:Below W1.heap.size W1 W1:=Below.refl _ _;have d0:(lv==0)=false:=b0 (by omega);obtain⟨W4,hW4⟩:∃W,W1.alloc (.cells #[.int .i64 43,.int .i64 0,.slice none 0 0,.int .i64 c,.int .i64 lv,.bool false,.int .i64 0,.slice none 0 0] 53)=W:=⟨_,rfl⟩
 have hb4:Below W1.heap.size W1 W4:=by rw[←hW4];exact bH _ _
 obtain⟨rb,hrb⟩:=gE W1.heap.size;have pR4:W4.heap[rb]?=some (.cells (DvqC 0 c lv false 0 (.slice none 0 0)) 53):=by rw[←hW4,←hrb];exact bI _ _
 have HRB:Hid (rb<W4.heap.size∧zb<rb∧w.heap.size+1<rb∧w.heap.size≤zb):=⟨cI pR4,by omega,by omega,by omega⟩
 have B4:Hid (DvB W4 rb c lv LL 0 (.slice none 0 0) [] W4):=⟨pR4,World.ownsRow_nil _ _ _ _,rfl,Keeps.refl _ _⟩
 have HPQ:Hid (∀X,Keeps (fun j=>j=rb) W4 X→X.heap[w.heap.size+1]?=some (.cells #[.int .i64 43,.int .i64 ad,.int .i64 qt,.int .i64 c,.int .i64 ob] 45)∧X.heap[zb]?=some (.cells #[.int .i64 0,.int .i64 0,.slice none 0 0,.int .i64 0,.int .i64 0,.bool false,.int .i64 0,.slice none 0 0] 53)):=fun X h=>⟨bG (bB pQ hb4) h (by omega),bG (bB pZ hb4) h (by omega)⟩
 have HRF:Hid (∀X,Calls Tryz.prog 209 #[.agg #[.int .i64 43,.int .i64 ad,.int .i64 qt,.int .i64 c,.int .i64 ob],.int .i64 2] X (RefPost X 43 2)):=fun X=>refuse_any 43 ad qt c ob 2 X
 have HG:Hid (∀X,Calls Tryz.prog 179 #[.int .i64 c] X fun r w'=>r=.returned (.int .i64 G)∧X=w'):=fun X=>by rw[←hG];exact greatest_any c X
 have HLL:=bC hLL;have HW1:=bC hW1;have HB1:=bC hb1;have HB4:=bC hb4;have HW4:=bC hW4;have ERB:=bC hrb;have HR:=bC hR;have HON:=bC hon;have HVL:=bC hvl;have HLV:=bC hslv;have S0:Hid (selO (s.objs.take 0) ob G=LL.take 0):=rfl;clear hW1 hb1 hz1 pS pQ pZ hC hov hzb hlv hslv hG hLL hW4 hb4 hrb pR4 hR hon hvl;go_enter Tryz.func207,Tryz.ntmps207;go_upto_region 1 with(fail)
 rw[HW1.out,E2.out];go_upto_region 4 with(fail)
 rw[HW4.out,ERB.out];clear d0 q0 k0;have hbw4:=HB4.out;go_wp2_with fail;clear hbw4;go_loopw [6,24] (fun sv iv wr=>∃(k n sz:Nat) (ra:Option Addr) (rc:Nat) (cs:List Value),sv=.int .i64 (sz:Int)∧iv=.int .i64 (k:Int)∧k≤on∧n≤k∧Hid (selO (s.objs.take k) ob G=LL.take n)∧Hid (obSize (LL.take n)=sz∧sz≤246∧n≤LL.length)∧Hid (DvB W4 rb c lv LL n (.slice ra n rc) cs wr)) (fun _ iv _=>on- (intOf iv).toNat)
 case atStart=>exact⟨0,0,0,none,0,[],rfl,rfl,Nat.zero_le _,Nat.le_refl _,S0.out,⟨rfl,Nat.zero_le _,Nat.zero_le _⟩,B4.out⟩
 case round=>
  obtain⟨k,n,sz,ra,rc,cs,rfl,rfl,hk,hnk,hsel,hsz,hB⟩:=hrel;have hki:(0:Int)≤(k:Int):=Int.natCast_nonneg _;have HKP:Hid (Keeps (fun j=>j=rb) W4 wr):=hB.out.kp;have hbW:Hid (Below W1.heap.size W1 wr):=HB4.out.trans (HKP.out.below HB4.out.size (fun j hj e=>by have:=ERB.out;omega));by_cases hlt:k<on
  ·obtain ⟨x,hx⟩:=gs (l:=s.objs) HON.out hlt
   obtain⟨a',n',c',hv',-,-,-,-,hel⟩:=HR.out.ob.open_;simp only[Value.slice.injEq] at hv';obtain⟨rfl,rfl,rfl⟩:=hv';obtain⟨b,o,xa,xc,rfl,z0,z1,hxb⟩:=hel k x hx;have hBw:=bU HB1.out hbW.out;have y0:wr.cell? ⟨b,o+k*2,none⟩=some (.int .i64 x.id):=bD hBw z0;have y1:wr.cell? ⟨b,o+k*2+1,none⟩=some (.slice xa x.val.length xc):=bD hBw z1;have hkl:(k:Int)<(on:Int):=by omega
   have HX:=bC hx;have hxv:=HVL.out x (List.mem_of_getElem? hx);have hxi:Bs wr (.slice xa x.val.length xc) x.val:=hxb.keep hBw;obtain⟨q,hq⟩:=gE x.val.length;obtain⟨zi,hzi⟩:=gE x.id;rw[hq] at y1 hxv hxi;rw[hzi] at y0;have HQ:=bC hq;have HZI:=bC hzi;have HXI:=bC hxi;obtain⟨WX,hWX,hbx,px⟩:=alQ wr (.cells #[.int .i64 zi,.slice xa q xc] 165);have x0:=cF px 0 rfl;have x1:=cF px 1 rfl;have u0:=x0 WX (Below.refl _ _);have u1:=x1 WX (Below.refl _ _);have HBX:Hid (DvB W4 rb c lv LL n (.slice ra n rc) cs WX):=hB.out.bel hbx;have hPQ:=(HPQ.out WX HBX.out.kp).1;have v3:WX.cell? ⟨w.heap.size+1,3,none⟩=some (.int .i64 c):=bA hPQ 3;have v4:WX.cell? ⟨w.heap.size+1,4,none⟩=some (.int .i64 ob):=bA hPQ 4;have HWX:=bC hWX;have Hbx:=bC hbx;have HSZ:=hsz;clear hel hx hxb z0 z1 hq hzi hxi hWX px hbx hPQ hBw;by_cases h1:zi<ob
   ·have d1:decide (zi<ob)=true:=decide_eq_true h1
    have HSK:Hid (selO (s.objs.take (k+1)) ob G=LL.take n):=by show _=_;rw[selO_no HX.out (fun h=>by have:=h.1;rw[HZI.out] at this;omega)];exact hsel.out
    clear h1 x0 x1;exact z16_1
   have d1:decide (zi<ob)=false:=decide_eq_false h1;by_cases h2:G<zi
   ·have d2:decide (G<zi)=true:=decide_eq_true h2
    have HSK:Hid (selO (s.objs.take (k+1)) ob G=LL.take n):=by show _=_;rw[selO_no HX.out (fun h=>by have:=h.2;rw[HZI.out] at this;omega)];exact hsel.out
    clear h1 h2 x0 x1;exact z16_1
   have d2:decide (G<zi)=false:=decide_eq_false h2;have HST:Hid (LL[n]?=some x∧selO (s.objs.take (k+1)) ob G=LL.take (n+1)∧n+1≤LL.length):=by
    have h:=selO_step (l:=s.objs) (lo:=ob) (hi:=G) (k:=k) (n:=n) (x:=x) HX.out (by rw[HLL.out];exact hsel.out) (by rw[HLL.out];exact hsz.out.2.2) (by rw[HZI.out];omega) (by rw[HZI.out];omega);rw[HLL.out] at h;exact h
   obtain⟨A,hA⟩:∃A:Nat,2+q=A:=⟨_,rfl⟩
   have s1:IntKind.i64.wrap (2+(q:Int))=(A:Int):=(IntWalk.i64_in _ (by omega)).trans (by omega);obtain⟨S,hS⟩:∃S:Nat,sz+A=S:=⟨_,rfl⟩
   have s2:IntKind.i64.wrap ((sz:Int)+(A:Int))=(S:Int):=(IntWalk.i64_in _ (by have:=hsz.out;omega)).trans (by omega);have HSN:Hid (obSize (LL.take (n+1))=S):=by
    show _=_;rw[bT HST.out.1,obSize_snoc,hsz.out.1,HQ.out];omega
   have HSA:Hid (S=sz+(2+q)):=by show _=_;omega
   clear h1 h2 hA hS;by_cases h3:246<S
   ·have d3:decide ((246:Int)<(S:Int))=true:=decide_eq_true (by omega)
    have HN1:Hid (1≤n):=by
     show 1≤n;rcases Nat.eq_zero_or_pos n with e|e
     ·subst e
      have h4:=hsz.out.1;have h5:obSize (LL.take 0)=0:=rfl;have:=HSA.out;omega
     ·exact e
    have HFI:Hid (n=fitN 246 LL):=fitN_is (by have:=hsz.out;omega) (by have:=hsz.out;omega) (.inr (by rw[HSN.out];omega));clear h3;go_upto_region 8 with(fail)
    rw[HWX.out];clear y0 y1;go_quiet ((go_at_call 179;with_reducible exact Calls.quiet_of_same (v:=.int .i64 G) ((HG.out _).mono fun _ _ h=>⟨h.1,h.2.symm⟩)));have HBQ:Hid (DvB W4 rb c lv LL n (.slice ra n rc) cs (WX.drewN nq)):=HBX.out.bel (below_drewN (Below.refl _ _) _);have w0:=x0 (WX.drewN nq) (below_drewN (Below.refl _ _) _);have w1:=x1 (WX.drewN nq) (below_drewN (Below.refl _ _) _);generalize WX.drewN nq=WQ at*;have r5:WQ.cell? ⟨rb,5,none⟩=some (.bool false):=bA HBQ.out.r 5;have r6:WQ.cell? ⟨rb,6,none⟩=some (.int .i64 0):=bA HBQ.out.r 6;have f5:WQ.frozen? ⟨rb,5,none⟩=false:=bJ HBQ.out.r 5;have f6:WQ.frozen? ⟨rb,6,none⟩=false:=bJ HBQ.out.r 6;obtain⟨W5,hW5⟩:∃W,((WQ.setCell ⟨rb,5,none⟩ (.bool true)).setCell ⟨rb,6,none⟩ (.int .i64 zi)).drew=W:=⟨_,rfl⟩
    obtain⟨CC,hCC⟩:∃C:Array Value,DvqC 0 c lv true zi (.slice ra n rc)=C:=⟨_,rfl⟩
    have hcs8:CC.size=8:=(by rw[←hCC];rfl);have hi8:(Tryz.prog.info? 53).map (·.size)=some CC.size:=(by rw[hcs8];exact cQ);have h1c:CC.toList.all (·.oneCell')=true:=(by rw[←hCC];rfl)
    have pR2:W5.heap[rb]?=some (.cells CC 53):=by rw[←hW5,←hCC];exact bB (hpSetP (hpSetP HBQ.out.r rfl) rfl) (Below.refl _ _).drew
    have hk5:Keeps (fun j=>j=rb) WQ W5:=by rw[←hW5];exact(ks1 (ks1 (Keeps.refl _ _) _ _) _ _).trans (Keeps.of_below (F:=fun _=>False) (Below.refl _ _).drew) (fun _ _ e=>e.elim)
    have pZ2:W5.heap[zb]?=some (.cells #[.int .i64 0,.int .i64 0,.slice none 0 0,.int .i64 0,.int .i64 0,.bool false,.int .i64 0,.slice none 0 0] 53):=bG (HPQ.out WQ HBQ.out.kp).2 hk5 (by have:=HRB.out;omega);have r7:W5.cell? ⟨rb,7,none⟩=some (.slice ra n rc):=by rw[bA pR2 7,←hCC];rfl
    have gn:((n:Int)==0)=false:=b0 (by have:=HN1.out;omega);have HC5:=bC hCC;have HK5:=bC hk5;have HW5:=bC hW5;have HPR:=bC pR2;clear hCC hk5 hW5 pR2 x0 x1 u0 u1 v3 v4;go_upto_region 11 with(fail)
    go_region;rw[HW5.out];clear r5 r6 f5 f6 w0 w1;have pR2:=HPR.out;go_wp2_with ((first|(refine wpList_load_row rfl 53 (.tmp 5) rfl rb rfl 53 CC (0,0) _ pR2 Tryz.underlying53 rfl hi8 ?_)|(refine bE rfl 53 (.tmp 4) (.tmp 71) rfl zb 0 _ 53 CC rfl rfl pZ2 (by simp [hcs8]) hi8 h1c ?_;intro w8 g8 hk8 hz8)));have g9:w8.heap[zb]?=some (.cells CC 53):=by rw[g8,List.drop_eq_nil_of_le (by simp [hcs8])];simp
    refine bodyPost_ret (results_cell_row rfl _ _ (zb) 53 CC (0,0) _ rfl g9 Tryz.underlying53 rfl hi8) rfl ?_;refine .inr ⟨fun e=>(by have:=HST.out.2.2;rw[e] at this;cases this),?_⟩;have hnl:n<LL.length:=by have:=HST.out.2.2;omega
    exact DvB.ends (s:=s) (by rw[HLV.out];exact HBQ.out) HRB.out.1 (by have:=HRB.out;omega) ((HK5.out.mono (G:=fun j=>j=rb∨j=zb) (fun j _ e=>.inl e)).trans (hk8.mono (G:=fun j=>j=rb∨j=zb) (fun j _ e=>.inr e)) (fun _ _ e=>e)) (bU HB1.out HB4.out) (by have:=HRB.out;omega) HRB.out.2.2.2 HN1.out (Nat.le_of_lt hnl) (fun y hy=>by rw[HST.out.1] at hy;cases hy;exact HZI.out.symm) (fun e=>absurd e (by omega)) HFI.out (by rw[←HC5.out,HLV.out,decide_eq_true hnl])
   ·have d3:decide ((246:Int)<(S:Int))=false:=decide_eq_false (by omega)
    have HSZ2:Hid (obSize (LL.take (n+1))=S∧S≤246∧n+1≤LL.length):=⟨HSN.out,by omega,HST.out.2.2⟩
    clear h3;go_upto_region 8 with(fail)
    rw[HWX.out];clear y0 y1;go_quiet ((go_at_call 179;with_reducible exact Calls.quiet_of_same (v:=.int .i64 G) ((HG.out _).mono fun _ _ h=>⟨h.1,h.2.symm⟩)));have HBQ:Hid (DvB W4 rb c lv LL n (.slice ra n rc) cs (WX.drewN nq)):=HBX.out.bel (below_drewN (Below.refl _ _) _);have w0:∀X,Below (WX.drewN nq).heap.size (WX.drewN nq) X→X.cell? ⟨wr.heap.size,0,none⟩=some (.int .i64 zi):=fun X h=>bD h (x0 _ (below_drewN (Below.refl _ _) _))
    have w1:∀X,Below (WX.drewN nq).heap.size (WX.drewN nq) X→X.cell? ⟨wr.heap.size,1,none⟩=some (.slice xa q xc):=fun X h=>bD h (x1 _ (below_drewN (Below.refl _ _) _))
    have HXQ:Hid (Bs (WX.drewN nq) (.slice xa q xc) x.val):=(HXI.out.keep Hbx.out).keep (below_drewN (Below.refl _ _) _);clear x0 x1 u0 u1 v3 v4;generalize WX.drewN nq=WQ at*;have v0:=w0 WQ (Below.refl _ _);have v1:=w1 WQ (Below.refl _ _);go_upto_region 12 with(fail)
    have e7:∀X,Below WQ.heap.size WQ X→X.cell? ⟨rb,7,none⟩=some (.slice ra n rc):=fun X h=>bA (bB HBQ.out.r h) 7
    have k0:Below WQ.heap.size WQ WQ:=Below.refl _ _;have kd:Below WQ.heap.size WQ WQ.drew:=(Below.refl _ _).drew;have kA:∀W X,Below WQ.heap.size WQ W→Below WQ.heap.size WQ (W.alloc X):=fun W X h=>cJ h (Nat.le_refl _) X
    have HCL:Hid (∀X,Below WQ.heap.size WQ X→Calls Tryz.prog 80 #[.slice xa q xc] X fun r w'=>∃v',r=.returned v'∧w'.ownsRow X.heap.size 5 1 v' q (u8s x.val)∧Below X.heap.size X w'):=fun X hX=>by
     have h:=cL (.slice xa q xc) x.val X (HXQ.out.keep hX) (by have:=HQ.out;omega);rw[HQ.out] at h;exact h
    obtain⟨iO,hiO,hzO0,hzO1,hzO2⟩:=info_parts infoOb;have hrb4:=HRB.out.1;have HSW:Hid (W4.heap.size≤WQ.heap.size):=HBQ.out.kp.size;have hn16:n≤16:=by omega
    clear v0 v1;go_region_law (first
     |(refine step_appN rfl (.tmp 54) (.tmp 61) 51 rfl W4.heap.size 165 iO _ 2 32 Tryz.underlying51 hiO hzO0 hzO1 hzO2 rfl (by decide) (.slice ra n rc) n cs rfl HO5.out ⟨w5.heap.size,0,none⟩ 1 1 [.int .i64 zi,.slice a5 q c5] rfl rfl (newsNew w5 [.int .i64 zi,.slice a5 q c5] _) (by intro u hu;simp at hu;rcases hu with rfl|rfl<;>rfl) (by unfold maxLen;omega) (by omega) (by have:=hb5.size;have:=HSW.out;simp;omega) ?_;intro v6 w6 hown6 hgr6 hnew6;obtain⟨a6,c6,rfl⟩:=bN hown6;have hS:=bC (DvB.step HBQ.out hrb4 HST.out.1 hb5 HQ.out hown5 hgr6 hnew6 (by rw[HZI.out];exact hown6));have hr6:=DvB.old HBQ.out hrb4 hb5 hgr6;have g7:w6.cell? ⟨rb,7,none⟩=some (.slice ra n rc):=bA hr6 7;have z7:w6.frozen? ⟨rb,7,none⟩=false:=bJ hr6 7)
     |(go_wp2_with (go_at_call 80;refine(HCL.out _ kd).mono ?_;rintro r w5 ⟨v5,rfl,hown5,hbel5⟩;obtain⟨a5,c5,rfl⟩:=bN hown5;have hb5:=bU kd hbel5;have HO5:=bC ((bF HBQ.out.own (Keeps.of_below (F:=fun _=>False) hb5) (fun _ _ f=>f)).alloc (.cells #[.int .i64 zi,.slice a5 q c5] 165)))))
    all_goals
     rw[HZI.out] at hS;clear hown5 hbel5 hown6 hgr6 hnew6 hr6 hb5;go_wp2;go_roundw
     case rel=>exact⟨k+1,n+1,S,a6,c6,_,rfl,by go_num,by omega,by omega,HST.out.2.1,HSZ2.out,hS.out⟩
     case measure=>simp [intOf];omega
  ·obtain rfl:k=on:=by omega
   have HLN:Hid (LL=LL.take n):=by
    have h:=hsel.out;rw[List.take_of_length_le (by rw[HON.out];exact Nat.le_refl _),HLL.out] at h;exact h
   have HNL:Hid (n=LL.length):=by
    have h1:=congrArg List.length HLN.out;rw[List.length_take] at h1;have h2:=hsz.out.2.2;show n=_;omega
   have gR:=HKP.out;have HP:=bC (HPQ.out wr HKP.out);have e7:wr.cell? ⟨rb,7,none⟩=some (.slice ra n rc):=bA hB.out.r 7;by_cases h0:n=0
   ·have g0:((n:Int)==0)=true:=b1 (by omega)
    have HE:Hid (LL=[]):=List.length_eq_zero_iff.1 (by rw[←HNL.out];exact h0);have p0:=bA HP.out.1 0;have p1:=bA HP.out.1 1;have p2:=bA HP.out.1 2;have p3:=bA HP.out.1 3;have p4:=bA HP.out.1 4;clear h0;go_wp2_with (first
     |(go_at_call 209;(with_reducible refine(HRF.out _).mono ?_);rintro r w3 ⟨rfl,hb3⟩;have pz3:=bB HP.out.2 hb3)
     |(refine bE rfl 53 (.tmp 4) (.tmp 70) rfl zb 0 _ 53 #[.int .i64 43,.int .i64 2,.slice none 0 0,.int .i64 0,.int .i64 0,.bool false,.int .i64 0,.slice none 0 0] rfl rfl pz3 (by simp) cQ rfl ?_;intro w8 g8 hk8 hz8))
    have g9:w8.heap[zb]?=some (.cells #[.int .i64 43,.int .i64 2,.slice none 0 0,.int .i64 0,.int .i64 0,.bool false,.int .i64 0,.slice none 0 0] 53):=g8;refine bodyPost_ret (results_cell_row rfl _ _ zb 53 _ (0,0) _ rfl g9 Tryz.underlying53 rfl cQ) rfl ?_;exact .inl ⟨HE.out,TabPostD.no (bU HB1.out hbW.out) HRB.out.2.2.2 hb3 hk8⟩
   ·have g0:((n:Int)==0)=false:=b0 (by omega)
    have HN1:Hid (1≤n):=by show 1≤n;omega
    have HFI:Hid (n=fitN 246 LL):=fitN_is (by have:=hsz.out;omega) (by have:=hsz.out;omega) (.inl HNL.out);obtain⟨CC,hCC⟩:∃C:Array Value,DvqC 0 c lv false 0 (.slice ra n rc)=C:=⟨_,rfl⟩
    have hcs8:CC.size=8:=(by rw[←hCC];rfl);have hi8:(Tryz.prog.info? 53).map (·.size)=some CC.size:=(by rw[hcs8];exact cQ);have h1c:CC.toList.all (·.oneCell')=true:=(by rw[←hCC];rfl)
    have pR2:=hB.out.r;rw[hCC] at pR2;have pZ2:=HP.out.2;have HC5:=bC hCC;clear h0 hCC;go_wp2_with ((first|(refine wpList_load_row rfl 53 (.tmp 5) rfl rb rfl 53 CC (0,0) _ pR2 Tryz.underlying53 rfl hi8 ?_)|(refine bE rfl 53 (.tmp 4) (.tmp 71) rfl zb 0 _ 53 CC rfl rfl pZ2 (by simp [hcs8]) hi8 h1c ?_;intro w8 g8 hk8 hz8)));have g9:w8.heap[zb]?=some (.cells CC 53):=by rw[g8,List.drop_eq_nil_of_le (by simp [hcs8])];simp
    refine bodyPost_ret (results_cell_row rfl _ _ (zb) 53 CC (0,0) _ rfl g9 Tryz.underlying53 rfl hi8) rfl ?_;refine .inr ⟨fun e=>(by have h1:=HNL.out;have h2:=HN1.out;rw[e] at h1;have h3:n=0:=h1;omega),?_⟩;exact DvB.ends (s:=s) (by rw[HLV.out];exact hB.out) HRB.out.1 (by have:=HRB.out;omega) (hk8.mono (G:=fun j=>j=rb∨j=zb) (fun j _ e=>.inr e)) (bU HB1.out HB4.out) (by have:=HRB.out;omega) HRB.out.2.2.2 HN1.out (by have:=HNL.out;omega) (fun y hy=>by have:=(List.getElem?_eq_some_iff.1 hy).1;have:=HNL.out;omega) (fun _=>rfl) HFI.out (by rw[←HC5.out,HLV.out,decide_eq_false (by have:=HNL.out;omega)])
end Go.Proofs.YtoaoejaodhedaaaGreat
