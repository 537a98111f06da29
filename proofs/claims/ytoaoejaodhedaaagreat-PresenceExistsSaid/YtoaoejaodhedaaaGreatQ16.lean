import Derived.Test.YtoaoejaodhedaaaGreatQ09
import Derived.Test.YtoaoejaodhedaaaGreatQ10
namespace Go.Proofs.YtoaoejaodhedaaaGreat
open Go.RowKit
set_option maxHeartbeats 6400000
set_option maxRecDepth 100000
theorem possible_any (n:Int) (h0:0≤n) (h1:n<65536) (w:World):Calls Tryz.prog 206 #[.int .i64 n] w fun r w'=>r=.returned (.bool true)∧w=w':=by
 have d0:decide (0≤n)=true:=decide_eq_true h0;have d1:decide (n<65536)=true:=decide_eq_true h1;clear h0 h1;go_enter Tryz.func206,Tryz.ntmps206;go_wp2;go_ret;exact⟨rfl,rfl⟩
theorem pword_any (t a x:Int) (t0:1≤t) (t1:t≤4) (a0:0≤a) (a1:a<65536) (x0:0≤x) (x1:x≤65535) (w:World):
  Calls Tryz.prog 223 #[.int .i64 t,.int .i64 a,.int .i64 x] w fun r w'=>∃n:Int,r=.returned (.int .i64 n)∧Hid (n=wordV t a x)∧0≤n∧n<65536∧w=w':=by
 have b1:decide (t<1)=false:=decide_eq_false (by omega);have b2:decide (4<t)=false:=decide_eq_false (by omega);have HP1:=bC (possible_any a a0 a1);have HP2:=bC (possible_any x x0 (by omega));obtain⟨p,hp⟩:∃p,7919*a=p:=⟨_,rfl⟩
 have s1:IntKind.i64.wrap (7919*a)=p:=(IntWalk.i64_in _ (by omega)).trans hp;obtain⟨q,hq⟩:∃q,x+p=q:=⟨_,rfl⟩
 have s2:IntKind.i64.wrap (x+p)=q:=(IntWalk.i64_in _ (by omega)).trans hq;obtain⟨u,hu⟩:∃u,104729*t=u:=⟨_,rfl⟩
 have s3:IntKind.i64.wrap (104729*t)=u:=(IntWalk.i64_in _ (by omega)).trans hu;obtain⟨z,hz⟩:∃z,q+u=z:=⟨_,rfl⟩
 have s4:IntKind.i64.wrap (q+u)=z:=(IntWalk.i64_in _ (by omega)).trans hz;obtain⟨y,hy⟩:=gE (z.tmod 65536);have HY:Hid (y=wordV t a x∧0≤y∧y<65536):=by
  show _∧_∧_;rw[←hy,Int.tmod_eq_emod_of_nonneg (by omega)];unfold wordV;omega
 clear t0 t1 a0 a1 x0 x1 hp hq hu hz;go_enter Tryz.func223,Tryz.ntmps223;go_wp2_with (first
  |(go_at_call 206;(with_reducible refine(HP1.out _).mono ?_);rintro r w2 ⟨rfl,rfl⟩)
  |(go_at_call 206;(with_reducible refine(HP2.out _).mono ?_);rintro r w2 ⟨rfl,rfl⟩))
 go_ret;exact⟨y,rfl,HY.out.1,HY.out.2.1,HY.out.2.2,rfl⟩
def RefPost (w:World) (fn e:Int) (r:Ending) (w':World):Prop:=r=.returned (.agg #[.int .i64 fn,.int .i64 e,.slice none 0 0,.int .i64 0,.int .i64 0,.bool false,.int .i64 0,.slice none 0 0])∧Below w.heap.size w w'
theorem refuse_any (fn ad qt co ob e:Int) (w:World):Calls Tryz.prog 209 #[.agg #[.int .i64 fn,.int .i64 ad,.int .i64 qt,.int .i64 co,.int .i64 ob],.int .i64 e] w (RefPost w fn e):=by
 have hb:=cJ (bH w (.cells #[.int .i64 fn,.int .i64 ad,.int .i64 qt,.int .i64 co,.int .i64 ob] 45)) (Nat.le_refl _) (.cells #[.int .i64 fn,.int .i64 e,.slice none 0 0,.int .i64 0,.int .i64 0,.bool false,.int .i64 0,.slice none 0 0] 53);have hg:((w.alloc (.cells #[.int .i64 fn,.int .i64 ad,.int .i64 qt,.int .i64 co,.int .i64 ob] 45)).alloc (.cells #[.int .i64 fn,.int .i64 e,.slice none 0 0,.int .i64 0,.int .i64 0,.bool false,.int .i64 0,.slice none 0 0] 53)).heap[w.heap.size+1]?=some (.cells #[.int .i64 fn,.int .i64 e,.slice none 0 0,.int .i64 0,.int .i64 0,.bool false,.int .i64 0,.slice none 0 0] 53):=by
  have h:=bI (w.alloc (.cells #[.int .i64 fn,.int .i64 ad,.int .i64 qt,.int .i64 co,.int .i64 ob] 45)) (.cells #[.int .i64 fn,.int .i64 e,.slice none 0 0,.int .i64 0,.int .i64 0,.bool false,.int .i64 0,.slice none 0 0] 53);rw[World.size_alloc] at h;exact h
 go_enter Tryz.func209,Tryz.ntmps209;go_wp2;refine bodyPost_ret (results_cell_row rfl _ _ (w.heap.size+1) 53 _ (0,0) _ rfl hg Tryz.underlying53 rfl cQ) rfl ?_;exact⟨rfl,hb⟩
theorem TabPostD.no {w W1 w2 w8:World} {fn e:Int} {zb:Nat} (hb1:Below w.heap.size w W1) (hz:w.heap.size≤zb) (h2:Below W1.heap.size W1 w2) (h3:Keeps (· =zb) w2 w8):TabPostD w fn e [] (.returned (.agg (#[.int .i64 fn,.int .i64 e,(.slice none 0 0),.int .i64 0,.int .i64 0,.bool false,.int .i64 0,.slice none 0 0]))) w8:=
 ⟨none,0,rfl,Nat.zero_le _,World.ownsRow_nil _ _ _ _,(bU hb1 h2).trans (h3.below (by have:=hb1.size;have:=h2.size;omega) (fun j hj e=>by omega))⟩
theorem pread_exc (t:Tbl) (rv:Value) (fn ad qt x:Int) (h0:0≤ad) (h1:1≤qt) (h2:ad+qt≤65536) (w:World) (hl:Rgs w rv t.rd) (hgd:t.sup=true→rgsFrom (-1) t.rd=true) (e:Int)
  (he:(t.sup=false∧e=1)∨(t.sup=true∧t.most<qt∧e=3)∨(t.sup=true∧¬t.most<qt∧covB t.rd ad qt.toNat=false∧e=2)):
  Calls Tryz.prog 208 #[.agg #[.bool t.sup,rv,.int .i64 t.most],.agg #[.int .i64 fn,.int .i64 ad,.int .i64 qt,.int .i64 0,.int .i64 0],.int .i64 x] w (TabPostD w fn e []):=by
 obtain⟨ra,rc,hrv,-⟩:=id hl;obtain⟨rn,hrn⟩:=gE t.rd.length;rw[hrn] at hrv;subst hrv;obtain⟨W1,hW1⟩:∃W,((w.alloc (.cells #[.bool t.sup,.slice ra rn rc,.int .i64 t.most] 65)).alloc (.cells #[.int .i64 fn,.int .i64 ad,.int .i64 qt,.int .i64 0,.int .i64 0] 45)).alloc (.cells (#[.int .i64 0,.int .i64 0,(.slice none 0 0),.int .i64 0,.int .i64 0,.bool false,.int .i64 0,.slice none 0 0]) 53)=W:=⟨_,rfl⟩;have hz1:W1.heap.size=w.heap.size+3:=(by rw[←hW1];simp);have hb1:Below w.heap.size w W1:=(by rw[←hW1];exact cJ (cJ (bH w _) (Nat.le_refl _) _) (Nat.le_refl _) _);have pT:W1.heap[w.heap.size]?=some (.cells #[.bool t.sup,.slice ra rn rc,.int .i64 t.most] 65):=(by rw[←hW1];exact bB (bB (bI w _) (bH _ _)) (bH _ _));have pQ:W1.heap[w.heap.size+1]?=some (.cells #[.int .i64 fn,.int .i64 ad,.int .i64 qt,.int .i64 0,.int .i64 0] 45):=(by rw[←hW1];refine bB ?_ (bH _ _);simpa using bI (w.alloc (.cells #[.bool t.sup,.slice ra rn rc,.int .i64 t.most] 65)) (.cells #[.int .i64 fn,.int .i64 ad,.int .i64 qt,.int .i64 0,.int .i64 0] 45));have pZ:W1.heap[w.heap.size+2]?=some (.cells (#[.int .i64 0,.int .i64 0,(.slice none 0 0),.int .i64 0,.int .i64 0,.bool false,.int .i64 0,.slice none 0 0]) 53):=(by rw[←hW1];simpa using bI ((w.alloc (.cells #[.bool t.sup,.slice ra rn rc,.int .i64 t.most] 65)).alloc (.cells #[.int .i64 fn,.int .i64 ad,.int .i64 qt,.int .i64 0,.int .i64 0] 45)) (.cells (#[.int .i64 0,.int .i64 0,(.slice none 0 0),.int .i64 0,.int .i64 0,.bool false,.int .i64 0,.slice none 0 0]) 53));obtain⟨zb,hzb⟩:∃n,w.heap.size+2=n:=⟨_,rfl⟩;have E2:Hid (w.heap.size+1+1=zb):=hzb;rw[hzb] at pZ;have EZB:=bC hzb;have t0:=cF pT 0 rfl;have t1:=cF pT 1 rfl;have t2:=cF pT 2 rfl;have q0:=cF pQ 0 rfl;have q1:=cF pQ 1 rfl;have q2:=cF pQ 2 rfl;have q3:=cF pQ 3 rfl;have q4:=cF pQ 4 rfl;have k0:Below W1.heap.size W1 W1:=Below.refl _ _;have HCX:Hid (t.sup=true→covB t.rd ad qt.toNat=false→∀X,Below W1.heap.size W1 X→Calls Tryz.prog 222 #[.slice ra rn rc,.agg #[.int .i64 ad,.int .i64 qt]] X (BoolPost X false)):=fun hs hc X hX=>prg_covers ra rn rc t.rd (hgd hs) ad qt h0 h1 h2 X (hl.keep (bU hb1 hX)) false hc
 have HRF:Hid (∀X,Calls Tryz.prog 209 #[.agg #[.int .i64 fn,.int .i64 ad,.int .i64 qt,.int .i64 0,.int .i64 0],.int .i64 e] X (RefPost X fn e)):=fun X=>refuse_any fn ad qt 0 0 e X
 have HW1:=bC hW1;have HB1:=bC hb1;have HZ1:=bC hz1;have PZ:=bC pZ;clear hW1 hb1 hz1 pT pQ pZ hl hgd h0 h1 h2 hrn hzb;rcases he with⟨hs,rfl⟩|⟨hs,hm,rfl⟩|⟨hs,hm,hc,rfl⟩
 ·rw [hs] at HW1 t0 ⊢
  clear HCX hs;have pz2:=PZ.out;go_enter Tryz.func208,Tryz.ntmps208;go_upto_region 1 with(fail)
  rw[HW1.out,E2.out];go_wp2_with (first|(go_at_call 209;(with_reducible refine(HRF.out _).mono ?_);rintro r w3 ⟨rfl,hb3⟩;have pz3:=bB pz2 hb3)|(refine bE rfl 53 (.tmp 6) (.tmp 15) rfl zb 0 _ 53 (#[.int .i64 fn,.int .i64 1,(.slice none 0 0),.int .i64 0,.int .i64 0,.bool false,.int .i64 0,.slice none 0 0]) rfl rfl pz3 (by simp) cQ rfl ?_;intro w8 g8 hk8 hz8));have g9:w8.heap[zb]?=some (.cells (#[.int .i64 fn,.int .i64 1,(.slice none 0 0),.int .i64 0,.int .i64 0,.bool false,.int .i64 0,.slice none 0 0]) 53):=g8;refine bodyPost_ret (results_cell_row rfl _ _ zb 53 _ (0,0) _ rfl g9 Tryz.underlying53 rfl cQ) rfl ?_;exact TabPostD.no HB1.out (by have:=EZB.out;omega) hb3 hk8
 ·rw [hs] at HW1 t0 ⊢
  clear HCX hs;have pz2:=PZ.out;go_enter Tryz.func208,Tryz.ntmps208;go_upto_region 1 with(fail)
  rw[HW1.out,E2.out];go_wp2_with (first|(go_at_call 209;(with_reducible refine(HRF.out _).mono ?_);rintro r w3 ⟨rfl,hb3⟩;have pz3:=bB pz2 hb3)|(refine bE rfl 53 (.tmp 6) (.tmp 23) rfl zb 0 _ 53 (#[.int .i64 fn,.int .i64 3,(.slice none 0 0),.int .i64 0,.int .i64 0,.bool false,.int .i64 0,.slice none 0 0]) rfl rfl pz3 (by simp) cQ rfl ?_;intro w8 g8 hk8 hz8));have g9:w8.heap[zb]?=some (.cells (#[.int .i64 fn,.int .i64 3,(.slice none 0 0),.int .i64 0,.int .i64 0,.bool false,.int .i64 0,.slice none 0 0]) 53):=g8;refine bodyPost_ret (results_cell_row rfl _ _ zb 53 _ (0,0) _ rfl g9 Tryz.underlying53 rfl cQ) rfl ?_;exact TabPostD.no HB1.out (by have:=EZB.out;omega) hb3 hk8
 ·have HCY:=bC (HCX.out hs hc)
  rw[hs] at HW1 t0 ⊢;clear HCX hs hc;go_enter Tryz.func208,Tryz.ntmps208;go_upto_region 1 with(fail)
  rw[HW1.out,E2.out];go_upto_region 6 with(go_at_call 222;(with_reducible refine(HCY.out _ k0).mono ?_);rintro r w2 ⟨rfl,hb2⟩;have pz2:=bB PZ.out hb2)
  go_wp2_with (first|(go_at_call 209;(with_reducible refine(HRF.out _).mono ?_);rintro r w3 ⟨rfl,hb3⟩;have pz3:=bB pz2 hb3)|(refine bE rfl 53 (.tmp 6) (.tmp 35) rfl zb 0 _ 53 (#[.int .i64 fn,.int .i64 2,(.slice none 0 0),.int .i64 0,.int .i64 0,.bool false,.int .i64 0,.slice none 0 0]) rfl rfl pz3 (by simp) cQ rfl ?_;intro w8 g8 hk8 hz8));have g9:w8.heap[zb]?=some (.cells (#[.int .i64 fn,.int .i64 2,(.slice none 0 0),.int .i64 0,.int .i64 0,.bool false,.int .i64 0,.slice none 0 0]) 53):=g8;refine bodyPost_ret (results_cell_row rfl _ _ zb 53 _ (0,0) _ rfl g9 Tryz.underlying53 rfl cQ) rfl ?_;exact TabPostD.no HB1.out (by have:=EZB.out;omega) (bU hb2 hb3) hk8
theorem z15_1 {p:Prop} (h:p:=by
 ·obtain rfl:k=N:=by omega
  have dk:¬(k:Int)<qt:=by omega
  clear hN1
  obtain⟨C,hC⟩:∃C:Array Value,(#[.int .i64 fn,.int .i64 0,(.slice da D.length dc),.int .i64 0,.int .i64 0,.bool false,.int .i64 0,.slice none 0 0]:Array Value)=C:=⟨_,rfl⟩
  have hcs:C.size=8:=by rw[←hC];rfl
  have hi8:(Tryz.prog.info? 53).map (·.size)=some C.size:=by rw[hcs];exact cQ
  have h1c:C.toList.all (·.oneCell')=true:=by rw[←hC];rfl
  have pR2:=hst.out.r
  have pZ2:=hst.out.z
  rw[hC] at pR2
  have HC:=bC hC
  have HD:Hid (D.length≤250):=by show _≤_;have:=hD.out;omega
  clear hC
  go_wp2_with (first
   |(refine wpList_load_row rfl 53 (.tmp 7) rfl rb rfl 53 C (0,0) _ pR2 Tryz.underlying53 rfl hi8 ?_)
   |(refine bE rfl 53 (.tmp 6) (.tmp 89) rfl zb 0 _ 53 C rfl rfl pZ2 (by simp [hcs]) hi8 h1c ?_;intro w8 g8 hk8 hz8))
  have g9:w8.heap[zb]?=some (.cells C 53):=by
   rw[g8,List.drop_eq_nil_of_le (by simp [hcs])]
   simp
  refine bodyPost_ret (results_cell_row rfl _ _ zb 53 C (0,0) _ rfl g9 Tryz.underlying53 rfl hi8) rfl ?_
  have hz1:=HZ1.out
  have hez:=EZB.out
  have her:=HRL.out
  have hb13:=HB13.out.size
  rw[←hDD.out]
  refine⟨da,dc,by rw[←HC.out],HD.out,?_,?_⟩
  ·exact bQ (bF hst.out.own hk8 (fun j hj e=>by have:=(hst.out.own.lt j hj).1;omega)) (by omega)
  ·exact ((bU HB1.out HB13.out).trans (hst.out.kp.below (by omega) (fun j hj e=>by omega))).trans (hk8.below (by have:=hst.out.kp.size;omega) (fun j hj e=>by omega))):p:=h
theorem pread_words (t:Tbl) (rv:Value) (fn ad qt x:Int) (hf:fn=3∨fn=4) (h0:0≤ad) (h1:1≤qt) (hq:qt≤125) (h2:ad+qt≤65536) (x0:0≤x) (x1:x≤65535) (w:World) (hl:Rgs w rv t.rd) (hgd:rgsFrom (-1) t.rd=true)
  (hs:t.sup=true) (hm:¬t.most<qt) (ha:covB t.rd ad qt.toNat=true):
  Calls Tryz.prog 208 #[.agg #[.bool t.sup,rv,.int .i64 t.most],.agg #[.int .i64 fn,.int .i64 ad,.int .i64 qt,.int .i64 0,.int .i64 0],.int .i64 x] w (TabPostD w fn 0 (regsD fn ad x qt.toNat)):=by
 obtain⟨ra,rc,hrv,-⟩:=id hl;obtain⟨rn,hrn⟩:=gE t.rd.length;rw[hrn] at hrv;subst hrv;obtain⟨W1,hW1⟩:∃W,((w.alloc (.cells #[.bool t.sup,.slice ra rn rc,.int .i64 t.most] 65)).alloc (.cells #[.int .i64 fn,.int .i64 ad,.int .i64 qt,.int .i64 0,.int .i64 0] 45)).alloc (.cells (#[.int .i64 0,.int .i64 0,(.slice none 0 0),.int .i64 0,.int .i64 0,.bool false,.int .i64 0,.slice none 0 0]) 53)=W:=⟨_,rfl⟩;have hz1:W1.heap.size=w.heap.size+3:=(by rw[←hW1];simp);have hb1:Below w.heap.size w W1:=(by rw[←hW1];exact cJ (cJ (bH w _) (Nat.le_refl _) _) (Nat.le_refl _) _);have pT:W1.heap[w.heap.size]?=some (.cells #[.bool t.sup,.slice ra rn rc,.int .i64 t.most] 65):=(by rw[←hW1];exact bB (bB (bI w _) (bH _ _)) (bH _ _));have pQ:W1.heap[w.heap.size+1]?=some (.cells #[.int .i64 fn,.int .i64 ad,.int .i64 qt,.int .i64 0,.int .i64 0] 45):=(by rw[←hW1];refine bB ?_ (bH _ _);simpa using bI (w.alloc (.cells #[.bool t.sup,.slice ra rn rc,.int .i64 t.most] 65)) (.cells #[.int .i64 fn,.int .i64 ad,.int .i64 qt,.int .i64 0,.int .i64 0] 45));have pZ:W1.heap[w.heap.size+2]?=some (.cells (#[.int .i64 0,.int .i64 0,(.slice none 0 0),.int .i64 0,.int .i64 0,.bool false,.int .i64 0,.slice none 0 0]) 53):=(by rw[←hW1];simpa using bI ((w.alloc (.cells #[.bool t.sup,.slice ra rn rc,.int .i64 t.most] 65)).alloc (.cells #[.int .i64 fn,.int .i64 ad,.int .i64 qt,.int .i64 0,.int .i64 0] 45)) (.cells (#[.int .i64 0,.int .i64 0,(.slice none 0 0),.int .i64 0,.int .i64 0,.bool false,.int .i64 0,.slice none 0 0]) 53));obtain⟨zb,hzb⟩:∃n,w.heap.size+2=n:=⟨_,rfl⟩;have E2:Hid (w.heap.size+1+1=zb):=hzb;rw[hzb] at pZ;have EZB:=bC hzb;have t0:=cF pT 0 rfl;have t1:=cF pT 1 rfl;have t2:=cF pT 2 rfl;have q0:=cF pQ 0 rfl;have q1:=cF pQ 1 rfl;have q2:=cF pQ 2 rfl;have q3:=cF pQ 3 rfl;have q4:=cF pQ 4 rfl;have k0:Below W1.heap.size W1 W1:=Below.refl _ _;have HCX:Hid (Calls Tryz.prog 222 #[.slice ra rn rc,.agg #[.int .i64 ad,.int .i64 qt]] W1 (BoolPost W1 true)):=prg_covers ra rn rc t.rd hgd ad qt h0 h1 h2 W1 (hl.keep hb1) true ha;have HWD:Hid (∀(k:Nat) X,(k:Int)<qt→Calls Tryz.prog 223 #[.int .i64 fn,.int .i64 (ad+(k:Nat)),.int .i64 x] X fun r w'=>∃n:Int,r=.returned (.int .i64 n)∧Hid (n=wordV fn (ad+(k:Nat)) x)∧0≤n∧n<65536∧X=w'):=fun k X hk=>pword_any fn (ad+(k:Nat)) x (by omega) (by omega) (by omega) (by omega) x0 x1 X
 have HLM:Hid (∀X,Calls Tryz.prog 155 #[.int .i64 fn] X fun r w'=>r=.returned (.int .i64 125)∧X=w'):=fun X=>by
  have:=limit_any fn X;have e:limI fn=125:=by unfold limI;rw[if_neg (by omega),if_pos (by omega)]
  rw[e] at this;exact this
 have HW1:=bC hW1;have HB1:=bC hb1;have HZ1:=bC hz1;have PZ:=bC pZ;have PQ:=bC pQ;have HAD:=bC (And.intro h0 h2);obtain⟨N,hN⟩:=gE qt.toNat;rw[hN];have HN:Hid (qt=(N:Nat)∧N≤125):=by show _∧_;omega
 rw[hs] at HW1 t0 ⊢;clear hW1 hb1 hz1 pT pQ pZ hl hgd h0 h1 h2 hrn hzb hs ha hf x0 x1 hN hq;obtain⟨i5,hi,hz0,hzz1,hz2⟩:=info_parts infoB;go_enter Tryz.func208,Tryz.ntmps208;go_upto_region 1 with(fail)
 rw[HW1.out,E2.out];go_upto_region 7 with(go_at_call 222;(with_reducible refine HCX.out.mono ?_);rintro r w2 ⟨rfl,hb2⟩)
 obtain⟨W3,hW3⟩:∃W,w2.alloc (.cells (#[.int .i64 fn,.int .i64 0,(.slice none 0 0),.int .i64 0,.int .i64 0,.bool false,.int .i64 0,.slice none 0 0]) 53)=W:=⟨_,rfl⟩
 have hb3:Below w2.heap.size w2 W3:=by rw[←hW3];exact bH _ _
 obtain⟨rb,hrb⟩:=gE w2.heap.size;have pR3:W3.heap[rb]?=some (.cells (#[.int .i64 fn,.int .i64 0,(.slice none 0 0),.int .i64 0,.int .i64 0,.bool false,.int .i64 0,.slice none 0 0]) 53):=by rw[←hW3,←hrb];exact bI _ _
 have S0:Hid (TbL W3 rb zb fn [] (.slice none 0 0) W3):=⟨pR3,bB (bB PZ.out hb2) hb3,World.ownsRow_nil _ _ _ _,Keeps.refl _ _⟩
 have HB13:Hid (Below W1.heap.size W1 W3):=bU hb2 hb3;have HRL:Hid (rb<W3.heap.size∧zb<rb∧W1.heap.size≤rb):=⟨cI pR3,by have:=hb2.size;have:=HZ1.out;have:=EZB.out;omega,by have:=hb2.size;omega⟩
 have HRB:=bC hrb;have HW3:=bC hW3;have Q0:Hid (∀X,Keeps (fun j=>j=rb) W3 X→X.cell? ⟨w.heap.size+1,0,none⟩=some (.int .i64 fn)∧X.cell? ⟨w.heap.size+1,1,none⟩=some (.int .i64 ad)∧X.cell? ⟨w.heap.size+1,2,none⟩=some (.int .i64 qt)):=fun X hX=>by
  have:=bG (bB PQ.out HB13.out) hX (by have:=HRL.out;have:=EZB.out;omega);exact⟨bA this 0,bA this 1,bA this 2⟩
 have q0':=q0 w2 hb2;clear hW3 hb3 pR3 hrb t0 t1 t2 q0 q1 q2 q3 q4 k0;go_upto_region 8 with(fail)
 rw[HW3.out,HRB.out];obtain⟨q0,q1,q2⟩:=Q0.out W3 (Keeps.refl _ _);clear q0';go_wp2_with fail;clear q0 q1 q2;go_loopw [41] (fun iv wr=>∃(k:Nat) (D:List UInt8) (da:Option Addr) (dc:Nat),iv=.int .i64 (k:Int)∧k≤N∧Hid (D=regsD fn ad x k)∧Hid (D.length=2*k)∧Hid (TbL W3 rb zb fn D (.slice da D.length dc) wr)) (fun iv _=>N- (intOf iv).toNat)
 case atStart=>exact⟨0,[],none,0,rfl,Nat.zero_le _,rfl,rfl,S0.out⟩
 case round=>
  obtain⟨k,D,da,dc,rfl,hk,hDD,hD,hst⟩:=hrel;have hki:(0:Int)≤(k:Int):=Int.natCast_nonneg _;have hN1:=HN.out.1;have hN2:=HN.out.2;obtain⟨q0,q1,q2⟩:=Q0.out wr hst.out.kp;by_cases hlt:k<N
  ·have dk:(k:Int)<qt:=by omega
   obtain⟨A,hA⟩:∃A,ad+(k:Int)=A:=⟨_,rfl⟩
   have sA:IntKind.i64.wrap (ad+(k:Int))=A:=(IntWalk.i64_in _ (by have:=HAD.out;omega)).trans hA;have HW2:=HWD.out k wr dk;rw[hA] at HW2;have HW2:=bC HW2;have HAA:=bC hA;clear hA hN1;go_upto_region 13 with(first
    |(go_at_call 223;(with_reducible refine HW2.out.mono ?_);rintro r w5 ⟨n,rfl,hnv,n0,n1,rfl⟩)
    |(go_at_call 155;(with_reducible refine(HLM.out _).mono ?_);rintro r w5 ⟨rfl,rfl⟩))
   obtain⟨ln,hln⟩:=gE D.length;have r2:wr.cell? ⟨rb,2,none⟩=some (.slice da ln dc):=by have:=bA hst.out.r 2;rw[hln] at this;exact this
   have HAB:Hid (byteI (n/256)=UInt8.ofNat (n.toNat/256)∧byteI (n%256)=UInt8.ofNat (n.toNat%256)):=by
    refine⟨?_,?_⟩
    ·unfold byteI;congr 1;omega
    ·unfold byteI;congr 1;omega
   have HDN:Hid (D++[byteI (n/256),byteI (n%256)]=regsD fn ad x (k+1)):=by show _=_;have e:=hnv.out;rw[←HAA.out] at e;rw[hDD.out,HAB.out.1,HAB.out.2,e];rfl
   have OW:Hid (wr.ownsRow W3.heap.size 5 1 (.slice da ln dc) ln (u8s D)):=by have:=hst.out.own;rw[hln] at this;exact this
   have hzw:=hst.out.kp.size;have HLN:=bC hln;have hlc:ln≤250:=by have:=hD.out;omega
   have HLB:Hid (ln=2*k):=by show _=_;have:=hD.out;omega
   have HU:Hid (u8s (D++[byteI (n/256),byteI (n%256)])=u8s D++[.int .u8 (n/256),.int .u8 (n%256)]):=by
    show _=_;rw[u8s_append];have e1:((byteI (n/256)).toNat:Int)=n/256:=bP (by omega) (by omega);have e2:((byteI (n%256)).toNat:Int)=n%256:=bP (by omega) (by omega);show u8s D++[byteV (byteI (n/256)),byteV (byteI (n%256))]=_;unfold byteV;rw[e1,e2]
   clear hln;go_wp2_with (at_builtin;refine bZ rfl _ _ 50 rfl W3.heap.size 5 i5 _ 1 1 Tryz.underlying50 hi hz0 hzz1 hz2 rfl (by decide) (.slice da ln dc) ln (u8s D) rfl (OW.out.alloc _) ⟨wr.heap.size,0,none⟩ 2 2 [.int .u8 (n/256),.int .u8 (n%256)] rfl rfl (newsNew wr [.int .u8 (n/256),.int .u8 (n%256)] _) (by intro u hu;simp at hu;rcases hu with rfl|rfl<;>rfl) (by unfold maxLen;omega) (by omega) (by simp;omega) ?c3)
   case c3=>
    intro v6 w6 hown6 hgr6 hnew6;have hown6':w6.ownsRow W3.heap.size 5 1 v6 (ln+2) (u8s (D++[byteI (n/256),byteI (n%256)])):=by rw[HU.out];exact hown6
    have hk6:Keeps (fun j=>(Value.slice da ln dc).ownBlock=some j) wr w6:=(Keeps.of_below (bH wr _)).trans (Keeps.of_grown hgr6 (fun _ hk=>hk)) (fun _ _ e=>e);have hnb:∀j,(Value.slice da ln dc).ownBlock=some j→W3.heap.size≤j:=fun j hj=>(OW.out.lt j hj).1
    have hR6:=bG hst.out.r hk6 (fun e=>by have:=hnb _ e;have:=HRL.out.1;omega);have hZ6:=bG hst.out.z hk6 (fun e=>by have:=hnb _ e;have:=HRL.out;omega);have c6:w6.cell? ⟨rb,2,none⟩=some (.slice da ln dc):=by have:=bA hR6 2;rw[HLN.out] at this;exact this
    have f6:w6.frozen? ⟨rb,2,none⟩=false:=bJ hR6 2;obtain⟨a6,k6,rfl⟩:=bN hown6';have hne6:∀j,(Value.slice a6 (ln+2) k6).ownBlock=some j→j≠rb:=fun j hj e=>by
     have:=(hown6'.lt j hj).1;have:=HRL.out.1;omega
    have HLL:Hid ((D++[byteI (n/256),byteI (n%256)]).length=ln+2):=by show _=_;rw[List.length_append,HLN.out];rfl
    have HST6:Hid (TbL W3 rb zb fn (D++[byteI (n/256),byteI (n%256)]) (.slice a6 (ln+2) k6) (w6.setCell ⟨rb,2,none⟩ (.slice a6 (ln+2) k6))):=by
     refine⟨hpSetP hR6 rfl,(cH (fun e=>by have:=HRL.out;omega)).trans hZ6,?_,?_⟩
     ·rw [HLL.out]
      exact bF (F:=(· =rb)) hown6' (ks1 (Keeps.refl _ _) _ _) (fun j hj e=>hne6 j hj e)
     ·exact (hst.out.kp.trans hk6 (fun j hj e=>by have:=hnb j e;omega)).set _ _ rfl
    clear hown6 hown6' hgr6 hnew6 hk6 hnb hR6 hZ6 hne6;go_wp2;go_roundw
    case rel=>exact⟨k+1,D++[byteI (n/256),byteI (n%256)],a6,k6,by go_num,by omega,HDN.out,by show _=_;rw[HLL.out,HLB.out];omega,by rw[HLL.out];exact HST6.out⟩
    case measure=>simp [intOf];omega
  exact z15_1
theorem TbL.drew {W1:World} {rb zb:Nat} {fn:Int} {D:List UInt8} {v:Value} {W:World} (h:TbL W1 rb zb fn D v W):TbL W1 rb zb fn D v W.drew:=
 ⟨bB h.r (Below.refl _ _).drew,bB h.z (Below.refl _ _).drew,bF (F:=fun _=>False) h.own (Keeps.of_below (Below.refl _ _).drew) (fun _ _ e=>e),h.kp.trans (Keeps.of_below (F:=fun _=>False) (Below.refl _ _).drew) (fun _ _ e=>e.elim)⟩
theorem pread_bits (t:Tbl) (rv:Value) (fn ad qt x:Int) (hf:fn=1∨fn=2) (h0:0≤ad) (h1:1≤qt) (hq:qt≤2000) (h2:ad+qt≤65536) (x0:0≤x) (x1:x≤65535) (w:World) (hl:Rgs w rv t.rd) (hgd:rgsFrom (-1) t.rd=true)
  (hs:t.sup=true) (hm:¬t.most<qt) (ha:covB t.rd ad qt.toNat=true):
  Calls Tryz.prog 208 #[.agg #[.bool t.sup,rv,.int .i64 t.most],.agg #[.int .i64 fn,.int .i64 ad,.int .i64 qt,.int .i64 0,.int .i64 0],.int .i64 x] w (TabPostD w fn 0 (bitsL fn ad x ((qt.toNat+7)/8) qt.toNat)):=by
 obtain⟨ra,rc,hrv,-⟩:=id hl;obtain⟨rn,hrn⟩:=gE t.rd.length;rw[hrn] at hrv;subst hrv;obtain⟨W1,hW1⟩:∃W,((w.alloc (.cells #[.bool t.sup,.slice ra rn rc,.int .i64 t.most] 65)).alloc (.cells #[.int .i64 fn,.int .i64 ad,.int .i64 qt,.int .i64 0,.int .i64 0] 45)).alloc (.cells (#[.int .i64 0,.int .i64 0,(.slice none 0 0),.int .i64 0,.int .i64 0,.bool false,.int .i64 0,.slice none 0 0]) 53)=W:=⟨_,rfl⟩;have hz1:W1.heap.size=w.heap.size+3:=(by rw[←hW1];simp);have hb1:Below w.heap.size w W1:=(by rw[←hW1];exact cJ (cJ (bH w _) (Nat.le_refl _) _) (Nat.le_refl _) _);have pT:W1.heap[w.heap.size]?=some (.cells #[.bool t.sup,.slice ra rn rc,.int .i64 t.most] 65):=(by rw[←hW1];exact bB (bB (bI w _) (bH _ _)) (bH _ _));have pQ:W1.heap[w.heap.size+1]?=some (.cells #[.int .i64 fn,.int .i64 ad,.int .i64 qt,.int .i64 0,.int .i64 0] 45):=(by rw[←hW1];refine bB ?_ (bH _ _);simpa using bI (w.alloc (.cells #[.bool t.sup,.slice ra rn rc,.int .i64 t.most] 65)) (.cells #[.int .i64 fn,.int .i64 ad,.int .i64 qt,.int .i64 0,.int .i64 0] 45));have pZ:W1.heap[w.heap.size+2]?=some (.cells (#[.int .i64 0,.int .i64 0,(.slice none 0 0),.int .i64 0,.int .i64 0,.bool false,.int .i64 0,.slice none 0 0]) 53):=(by rw[←hW1];simpa using bI ((w.alloc (.cells #[.bool t.sup,.slice ra rn rc,.int .i64 t.most] 65)).alloc (.cells #[.int .i64 fn,.int .i64 ad,.int .i64 qt,.int .i64 0,.int .i64 0] 45)) (.cells (#[.int .i64 0,.int .i64 0,(.slice none 0 0),.int .i64 0,.int .i64 0,.bool false,.int .i64 0,.slice none 0 0]) 53));obtain⟨zb,hzb⟩:∃n,w.heap.size+2=n:=⟨_,rfl⟩;have E2:Hid (w.heap.size+1+1=zb):=hzb;rw[hzb] at pZ;have EZB:=bC hzb;have t0:=cF pT 0 rfl;have t1:=cF pT 1 rfl;have t2:=cF pT 2 rfl;have q0:=cF pQ 0 rfl;have q1:=cF pQ 1 rfl;have q2:=cF pQ 2 rfl;have q3:=cF pQ 3 rfl;have q4:=cF pQ 4 rfl;have k0:Below W1.heap.size W1 W1:=Below.refl _ _;have HCX:Hid (Calls Tryz.prog 222 #[.slice ra rn rc,.agg #[.int .i64 ad,.int .i64 qt]] W1 (BoolPost W1 true)):=prg_covers ra rn rc t.rd hgd ad qt h0 h1 h2 W1 (hl.keep hb1) true ha;have HWD:Hid (∀(k:Nat) X,(k:Int)<qt→Calls Tryz.prog 223 #[.int .i64 fn,.int .i64 (ad+(k:Nat)),.int .i64 x] X fun r w'=>∃n:Int,r=.returned (.int .i64 n)∧Hid (n=wordV fn (ad+(k:Nat)) x)∧0≤n∧n<65536∧X=w'):=fun k X hk=>pword_any fn (ad+(k:Nat)) x (by omega) (by omega) (by omega) (by omega) x0 x1 X
 have HLM:Hid (∀X,Calls Tryz.prog 155 #[.int .i64 fn] X fun r w'=>r=.returned (.int .i64 2000)∧X=w'):=fun X=>by
  have:=limit_any fn X;have e:limI fn=2000:=by unfold limI;rw[if_pos (by omega)]
  rw[e] at this;exact this
 have HW1:=bC hW1;have HB1:=bC hb1;have HZ1:=bC hz1;have PZ:=bC pZ;have PQ:=bC pQ;have HAD:=bC (And.intro h0 h2);obtain⟨N,hN⟩:=gE qt.toNat;rw[hN];have HN:Hid (qt=(N:Nat)∧N≤2000):=by show _∧_;omega
 rw[hs] at HW1 t0 ⊢;clear hW1 hb1 hz1 pT pQ pZ hl hgd h0 h1 h2 hrn hzb hs ha hf x0 x1 hN hq;obtain⟨i5,hi,hz0,hzz1,hz2⟩:=info_parts infoB;go_enter Tryz.func208,Tryz.ntmps208;go_upto_region 1 with(fail)
 rw[HW1.out,E2.out];go_upto_region 7 with(go_at_call 222;(with_reducible refine HCX.out.mono ?_);rintro r w2 ⟨rfl,hb2⟩)
 obtain⟨W3,hW3⟩:∃W,w2.alloc (.cells (#[.int .i64 fn,.int .i64 0,(.slice none 0 0),.int .i64 0,.int .i64 0,.bool false,.int .i64 0,.slice none 0 0]) 53)=W:=⟨_,rfl⟩
 have hb3:Below w2.heap.size w2 W3:=by rw[←hW3];exact bH _ _
 obtain⟨rb,hrb⟩:=gE w2.heap.size;have pR3:W3.heap[rb]?=some (.cells (#[.int .i64 fn,.int .i64 0,(.slice none 0 0),.int .i64 0,.int .i64 0,.bool false,.int .i64 0,.slice none 0 0]) 53):=by rw[←hW3,←hrb];exact bI _ _
 have S0:Hid (TbL W3 rb zb fn [] (.slice none 0 0) W3):=⟨pR3,bB (bB PZ.out hb2) hb3,World.ownsRow_nil _ _ _ _,Keeps.refl _ _⟩
 have HB13:Hid (Below W1.heap.size W1 W3):=bU hb2 hb3;have HRL:Hid (rb<W3.heap.size∧zb<rb∧W1.heap.size≤rb):=⟨cI pR3,by have:=hb2.size;have:=HZ1.out;have:=EZB.out;omega,by have:=hb2.size;omega⟩
 have HRB:=bC hrb;have HW3:=bC hW3;have Q0:Hid (∀X,Keeps (fun j=>j=rb) W3 X→X.cell? ⟨w.heap.size+1,0,none⟩=some (.int .i64 fn)∧X.cell? ⟨w.heap.size+1,1,none⟩=some (.int .i64 ad)∧X.cell? ⟨w.heap.size+1,2,none⟩=some (.int .i64 qt)):=fun X hX=>by
  have:=bG (bB PQ.out HB13.out) hX (by have:=HRL.out;have:=EZB.out;omega);exact⟨bA this 0,bA this 1,bA this 2⟩
 have q0':=q0 w2 hb2;clear hW3 hb3 pR3 hrb t0 t1 t2 q0 q1 q2 q3 q4 k0;go_upto_region 8 with(fail)
 rw[HW3.out,HRB.out];obtain⟨q0,q1,q2⟩:=Q0.out W3 (Keeps.refl _ _);clear q0';go_wp2_with fail;clear q0 q1 q2;go_loopw [41] (fun iv wr=>∃(k:Nat) (D:List UInt8) (da:Option Addr) (dc:Nat),iv=.int .i64 (k:Int)∧k≤N∧Hid (D=bitsL fn ad x ((k+7)/8) k)∧Hid (D.length=(k+7)/8)∧Hid (TbL W3 rb zb fn D (.slice da D.length dc) wr)) (fun iv _=>N- (intOf iv).toNat)
 case atStart=>exact⟨0,[],none,0,rfl,Nat.zero_le _,(bitsL_zero fn ad x 0).symm,rfl,S0.out⟩
 case round=>
  obtain⟨k,D,da,dc,rfl,hk,hDD,hD,hst⟩:=hrel;have hki:(0:Int)≤(k:Int):=Int.natCast_nonneg _;have hN1:=HN.out.1;have hN2:=HN.out.2;obtain⟨q0,q1,q2⟩:=Q0.out wr hst.out.kp;by_cases hlt:k<N
  ·have dk:(k:Int)<qt:=by omega
   obtain⟨A,hA⟩:∃A,ad+(k:Int)=A:=⟨_,rfl⟩
   have sA:IntKind.i64.wrap (ad+(k:Int))=A:=(IntWalk.i64_in _ (by have:=HAD.out;omega)).trans hA;have HW2:=HWD.out k wr dk;rw[hA] at HW2;have HW2:=bC HW2;have HAA:=bC hA;clear hA hN1;obtain⟨ln,hln⟩:=gE D.length;have r2:wr.cell? ⟨rb,2,none⟩=some (.slice da ln dc):=by have:=bA hst.out.r 2;rw[hln] at this;exact this
   have OW:Hid (wr.ownsRow W3.heap.size 5 1 (.slice da ln dc) ln (u8s D)):=by have:=hst.out.own;rw[hln] at this;exact this
   have hzw:=hst.out.kp.size;have HLN:=bC hln;have HLB:Hid (ln=(k+7)/8):=by show _=_;have:=hD.out;omega
   have hlc:ln≤250:=by have:=HLB.out;omega
   clear hln;by_cases h8:k%8=0
   ·have d8:((k:Int)%8==0)=true:=b1 (by omega)
    have HB8:Hid (bitsL fn ad x ((k+7)/8) k++[0]=bitsL fn ad x ((k+7)/8+1) k):=bitsL_more (by omega);have H8:=bC h8;have HU:Hid (u8s (D++[0])=u8s D++[.int .u8 0]):=by show _=_;rw[u8s_append];rfl
    clear h8;go_upto_region 15 with(first
     |(go_at_call 223;(with_reducible refine HW2.out.mono ?_);rintro r w5 ⟨n,rfl,hnv,n0,n1,rfl⟩)
     |(go_at_call 155;(with_reducible refine(HLM.out _).mono ?_);rintro r w5 ⟨rfl,rfl⟩))
    go_wp2_with (at_builtin;refine bZ rfl _ _ 50 rfl W3.heap.size 5 i5 _ 1 1 Tryz.underlying50 hi hz0 hzz1 hz2 rfl (by decide) (.slice da ln dc) ln (u8s D) rfl (OW.out.alloc _) ⟨wr.heap.size,0,none⟩ 1 1 [.int .u8 0] rfl rfl (newsNew wr [.int .u8 0] _) (by intro u hu;simp at hu;subst hu;rfl) (by unfold maxLen;omega) (by omega) (by simp;omega) ?c3)
    case c3=>
     intro v6 w6 hown6 hgr6 hnew6;have hown6':w6.ownsRow W3.heap.size 5 1 v6 (ln+1) (u8s (D++[0])):=by rw[HU.out];exact hown6
     have hk6:Keeps (fun j=>(Value.slice da ln dc).ownBlock=some j) wr w6:=(Keeps.of_below (bH wr _)).trans (Keeps.of_grown hgr6 (fun _ hk=>hk)) (fun _ _ e=>e);have hnb:∀j,(Value.slice da ln dc).ownBlock=some j→W3.heap.size≤j:=fun j hj=>(OW.out.lt j hj).1
     have hR6:=bG hst.out.r hk6 (fun e=>by have:=hnb _ e;have:=HRL.out.1;omega);have hZ6:=bG hst.out.z hk6 (fun e=>by have:=hnb _ e;have:=HRL.out;omega);have c6:w6.cell? ⟨rb,2,none⟩=some (.slice da ln dc):=by have:=bA hR6 2;rw[HLN.out] at this;exact this
     have f6:w6.frozen? ⟨rb,2,none⟩=false:=bJ hR6 2;obtain⟨a6,k6,rfl⟩:=bN hown6';have hne6:∀j,(Value.slice a6 (ln+1) k6).ownBlock=some j→j≠rb:=fun j hj e=>by
      have:=(hown6'.lt j hj).1;have:=HRL.out.1;omega
     have HST6:Hid (TbL W3 rb zb fn (D++[0]) (.slice a6 (ln+1) k6) (w6.setCell ⟨rb,2,none⟩ (.slice a6 (ln+1) k6))):=by
      refine⟨hpSetP hR6 rfl,(cH (fun e=>by have:=HRL.out;omega)).trans hZ6,?_,?_⟩
      ·have e:(D++[0]).length=ln+1:=by rw[List.length_append,HLN.out];rfl
       rw[e];exact bF (F:=(· =rb)) hown6' (ks1 (Keeps.refl _ _) _ _) (fun j hj e=>hne6 j hj e)
      ·exact (hst.out.kp.trans hk6 (fun j hj e=>by have:=hnb j e;omega)).set _ _ rfl
     have HDD6:Hid (D++[0]=bitsL fn ad x (ln+1) k):=by show _=_;rw[hDD.out,HB8.out,HLB.out]
     have HDL6:Hid ((D++[0]).length=ln+1):=by show _=_;rw[List.length_append,HLN.out];rfl
     have HM6:Hid (k/8<ln+1∧(k+1+7)/8=ln+1):=by show _∧_;have:=HLB.out;have:=H8.out;omega
     clear hown6 hown6' hgr6 hnew6 hk6 hnb hR6 hZ6 hne6;go_upto_region 16 with(fail)
     generalize w6.setCell ⟨rb,2,none⟩ (.slice a6 (ln+1) k6)=w7 at*;clear c6 f6 r2;have OW7:=HST6.out.own;rw[HDL6.out] at OW7;have r2w:=bA HST6.out.r 2;obtain⟨g,cap,hv1,hg,hnc,hcm⟩:=own_shapeR OW7 (by have:=HM6.out;omega);simp only[Value.slice.injEq,true_and] at hv1;obtain⟨rfl,rfl⟩:=hv1;have r2w:w7.cell? ⟨rb,2,none⟩=some (.slice (some ⟨g,0,none⟩) (ln+1) k6):=r2w;have hcl:=ownb_cellZ OW7 (k/8) HM6.out.1;have hfz:=OW7.frozenAt (k/8);have hkm:=HM6.out.1;obtain⟨Y,hY⟩:∃Y,UInt8.ofNat (bval fn ad x (k/8) (k%8)+bitV fn ad x k*2^(k%8))=Y:=⟨_,rfl⟩;have EV:Hid (Value.int .u8 (bits .or .u8 ((((D++[0])[k/8]?.getD 0).toNat:Nat):Int) (bits .and .i64 n 1%256*2^(k%8)%256))=byteV Y):=(by show _=_;rw[HDD6.out,←hY];exact or_bits HM6.out.1 (by rw[HAA.out];exact hnv.out));have HDN:Hid ((D++[0]).set (k/8) Y=bitsL fn ad x ((k+1+7)/8) (k+1)):=(by show _=_;rw[HM6.out.2,HDD6.out,←hY];exact bitsL_set HM6.out.1);have HLN2:Hid (((D++[0]).set (k/8) Y).length=(k+1+7)/8):=(by show _=_;rw[List.length_set,HM6.out.2];exact HDL6.out);have HST7:Hid (TbL W3 rb zb fn ((D++[0]).set (k/8) Y) (.slice (some ⟨g,0,none⟩) (ln+1) k6) (w7.setCell ⟨g,k/8,none⟩ (byteV Y))):=(by have h1:=(OW7.stored (k/8) (byteV Y)).1;rw[u8s_setZ] at h1;refine⟨(cH (by have:=HRL.out;omega)).trans HST6.out.r,(cH (by have:=HRL.out;omega)).trans HST6.out.z,?_,Keeps.setNew HST6.out.kp ⟨g,k/8,none⟩ _ hg⟩;rw[List.length_set,HDL6.out];exact h1);clear hY hnc hcm;go_region;go_wp2;go_roundw;(case rel=>exact⟨k+1,(D++[0]).set (k/8) Y,_,k6,by go_num,by omega,HDN,HLN2,by rw[EV.out,List.length_set,HDL6.out];exact TbL.drew HST7.out⟩);(case measure=>simp [intOf];omega)
   ·have d8:((k:Int)%8==0)=false:=b0 (by omega)
    have HST6:Hid (TbL W3 rb zb fn D (.slice da ln dc) wr):=by have:=hst.out;rw[HLN.out] at this;exact this
    have HDD6:Hid (D=bitsL fn ad x ln k):=by show _=_;rw[HLB.out];exact hDD.out
    have HDL6:Hid (D.length=ln):=HLN.out;have HM6:Hid (k/8<ln∧(k+1+7)/8=ln):=by show _∧_;have:=HLB.out;omega
    go_upto_region 16 with(first
     |(go_at_call 223;(with_reducible refine HW2.out.mono ?_);rintro r w5 ⟨n,rfl,hnv,n0,n1,rfl⟩)
     |(go_at_call 155;(with_reducible refine(HLM.out _).mono ?_);rintro r w5 ⟨rfl,rfl⟩))
    clear r2;have OW7:=HST6.out.own;rw[HDL6.out] at OW7;have r2w:=bA HST6.out.r 2;obtain⟨g,cap,hv1,hg,hnc,hcm⟩:=own_shapeR OW7 (by have:=HM6.out;omega);simp only[Value.slice.injEq,true_and] at hv1;obtain⟨rfl,rfl⟩:=hv1;have r2w:wr.cell? ⟨rb,2,none⟩=some (.slice (some ⟨g,0,none⟩) (ln) dc):=r2w;have hcl:=ownb_cellZ OW7 (k/8) HM6.out.1;have hfz:=OW7.frozenAt (k/8);have hkm:=HM6.out.1;obtain⟨Y,hY⟩:∃Y,UInt8.ofNat (bval fn ad x (k/8) (k%8)+bitV fn ad x k*2^(k%8))=Y:=⟨_,rfl⟩;have EV:Hid (Value.int .u8 (bits .or .u8 ((((D)[k/8]?.getD 0).toNat:Nat):Int) (bits .and .i64 n 1%256*2^(k%8)%256))=byteV Y):=(by show _=_;rw[HDD6.out,←hY];exact or_bits HM6.out.1 (by rw[HAA.out];exact hnv.out));have HDN:Hid ((D).set (k/8) Y=bitsL fn ad x ((k+1+7)/8) (k+1)):=(by show _=_;rw[HM6.out.2,HDD6.out,←hY];exact bitsL_set HM6.out.1);have HLN2:Hid (((D).set (k/8) Y).length=(k+1+7)/8):=(by show _=_;rw[List.length_set,HM6.out.2];exact HDL6.out);have HST7:Hid (TbL W3 rb zb fn ((D).set (k/8) Y) (.slice (some ⟨g,0,none⟩) (ln) dc) (wr.setCell ⟨g,k/8,none⟩ (byteV Y))):=(by have h1:=(OW7.stored (k/8) (byteV Y)).1;rw[u8s_setZ] at h1;refine⟨(cH (by have:=HRL.out;omega)).trans HST6.out.r,(cH (by have:=HRL.out;omega)).trans HST6.out.z,?_,Keeps.setNew HST6.out.kp ⟨g,k/8,none⟩ _ hg⟩;rw[List.length_set,HDL6.out];exact h1);clear hY hnc hcm;go_region;go_wp2;go_roundw;(case rel=>exact⟨k+1,(D).set (k/8) Y,_,dc,by go_num,by omega,HDN,HLN2,by rw[EV.out,List.length_set,HDL6.out];exact TbL.drew HST7.out⟩);(case measure=>simp [intOf];omega)
  exact z15_1
end Go.Proofs.YtoaoejaodhedaaaGreat
