import Derived.Test.YtoaoejaodhedaaaGreatQ38
namespace Go.Proofs.YtoaoejaodhedaaaGreat
open Go.RowKit
set_option maxHeartbeats 12800000
set_option maxRecDepth 100000
def TgMid (W:World) (Q:Rq) (s:Value) (w':World):Prop:=∃pb,s=.pointer (some ⟨pb,0,none⟩)∧w'.heap[pb]?=some (.cells #[.int .i64 Q.fn,.int .i64 Q.addr,.int .i64 Q.qty,.int .i64 Q.code,.int .i64 Q.obj] 45)∧W.heap.size≤pb∧Below W.heap.size W w'
def TgPost (w:World) (n:Nat) (Q:Rq) (r:Ending) (w':World):Prop:=∃(i:Nat) (u:Int),i<n∧(1≤u∧u≤247)∧r=.returned (.tuple #[.int .i64 (i:Int),.int .i64 u,.agg #[.int .i64 Q.fn,.int .i64 Q.addr,.int .i64 Q.qty,.int .i64 Q.code,.int .i64 Q.obj]])∧Below w.heap.size w w'
theorem z38_1 {p:Prop} (h:p:=by
 go_upto_region 10 with(fail);refine wp_region_held_drew (S:=fun V=>Keeps (· =w.heap.size+2) (wq) V) (by kernel_rfl) (Keeps.of_below (Below.refl _ _).drew) (fun hH=>?_);clear hH;have hBD:Below (wq).heap.size (wq) (wq).drew:=(Below.refl _ _).drew;have hKD:Keeps (· =w.heap.size+2) (wq) (wq).drew:=Keeps.of_below hBD;refine tG 0 70 ?_;refine tG 1 71 ?_;refine cR 2 72 (v:=.agg #[.int .i64 Q.fn,.int .i64 Q.addr,.int .i64 Q.qty,.int .i64 Q.code,.int .i64 Q.obj]) rfl (by kernel_rfl) (fun _ _ _ h=>h) rfl (by rfl) (by assumption) (fun Y hY=>cB 45 (.tmp 7) rfl ⟨pb,0,none⟩ rfl #[.int .i64 Q.fn,.int .i64 Q.addr,.int .i64 Q.qty,.int .i64 Q.code,.int .i64 Q.obj] _ (HPQ.out Y ((Keeps.of_below hWQ).trans hY (fun _ _ e=>e))) Tryz.underlying45 rfl infoRq5) ?_;simp only[cA];refine tG 3 4 ?_;refine tG 4 5 ?_;refine bM 5 rfl (fun K hK=>?_);refine bR rfl 45 (.tmp 6) (.tmp 72) rfl (w.heap.size+2) 0 _ 45 #[.int .i64 Q.fn,.int .i64 Q.addr,.int .i64 Q.qty,.int .i64 Q.code,.int .i64 Q.obj] rfl rfl (bB (bB (bB HPZ.out HBE.out) hWQ) hBD) (by simp) infoRq5 rfl ?_;intro y9 g9 hk9 hz9;have hB9:Below w.heap.size w y9:=((HB3.out.trans ((bU HBE.out hWQ).mono HB3.out.size)).trans (hBD.mono (by have:=HB3.out.size;have:=HBE.out.size;have:=(hWQ).size;omega))).trans (hk9.below (by have:=HB3.out.size;have:=HBE.out.size;have:=(hWQ).size;have:=hBD.size;omega) (fun j hj e=>by have e':j=w.heap.size+2:=e;omega));refine hK.out _ _ (hKD.trans hk9 (fun _ _ e=>e)) (fun hSx=>?_);clear hK K hSx;refine wpAnyH_done (by kernel_rfl) ?_ _;have g9':y9.heap[w.heap.size+2]?=some (.cells #[.int .i64 Q.fn,.int .i64 Q.addr,.int .i64 Q.qty,.int .i64 Q.code,.int .i64 Q.obj] 45):=g9;have e0:=cG g9' 0 rfl;have e1:=cG g9' 1 rfl;have e2:=cG g9' 2 rfl;have e3:=cG g9' 3 rfl;have e4:=cG g9' 4 rfl;go_wp2;refine bodyPost_ret (v:=.tuple #[.int .i64 (iS:Int),.int .i64 U,.agg #[.int .i64 Q.fn,.int .i64 Q.addr,.int .i64 Q.qty,.int .i64 Q.code,.int .i64 Q.obj]]) (by simp [results,Tryz.results15,go_sem,e0,e1,e2,e3,e4]) rfl ?_;exact⟨iS,U,(HIU.out).1,(HIU.out).2,rfl,hB9⟩):p:=h
theorem z38_2 {p:Prop} (h:p:=by
 refine hK.out _ _ hB4 (fun hSx=>?_);clear hK K hSx
 refine bM 7 rfl (fun K hK=>?_);go_simp
 refine(HMK.out _).mono ?_
 rintro r y3 ⟨rfl,hy3⟩
 have hB3:=bU hB4 hy3
 have p3:y3.heap[W3.heap.size]?=some (.cells #[.int .i64 0,.int .i64 0,.int .i64 0,.int .i64 0,.int .i64 0] 45):=bB (w:=(W3.alloc (.cells #[.int .i64 0,.int .i64 0,.int .i64 0,.int .i64 0,.int .i64 0] 45)).drew) (bI W3 _) hy3
 refine hK.out _ _ hB3 (fun hSx=>?_);clear hK K hSx
 refine bM 9 rfl (fun K hK=>?_);refine bR rfl 45 (.tmp 7) (.tmp 19) rfl W3.heap.size 0 _ 45 #[.int .i64 Q.fn,.int .i64 Q.addr,.int .i64 Q.qty,.int .i64 Q.code,.int .i64 Q.obj] rfl rfl p3 (by simp) infoRq5 rfl ?_;intro y5 g5 hk5 hz5
 have hB5:Below W3.heap.size W3 y5:=hB3.trans (hk5.below hB3.size (fun i hi e=>by have e':i=W3.heap.size:=e;omega))
 refine hK.out _ _ hB5 (fun hSx=>?_);clear hK K hSx
 refine wpAnyH_done (by kernel_rfl) ?_ _
 go_wp2
 go_meet
 case rel=>exact⟨_,rfl,g5,Nat.le_refl _,hB5⟩):p:=h
theorem target_any (c:Cf) (l:List Sl) (sv lv av cv kv:Value) (lp:Bool) (hn1:1≤c.sets.length) (hn2:c.sets.length≤6) (hB:BusP l) (x:Aq) (hx:wfA x) (w:World) (hR:Rgs w sv c.sets) (hL:Slvs w lv l):
  Calls Tryz.prog 15 #[.agg (ScnC c sv lv av lp cv kv),.agg x.C] w (TgPost w c.sets.length (mkRq x.fn x.a (x.b%12))):=by
 obtain⟨m,st,un,fn,a,b⟩:=x;obtain⟨f0,f1,f2,f3,f4,f5⟩:=hx;dsimp only at f0 f1 f2 f3 f4 f5;show Calls _ _ #[_,.agg #[.int .i64 m,.int .i64 st,.int .i64 un,.int .i64 fn,.int .i64 a,.int .i64 b]] w (TgPost w c.sets.length (mkRq fn a (b%12)));obtain⟨n,hn⟩:=gE c.sets.length;obtain⟨ln,hln⟩:=gE l.length;obtain⟨sa,sc,hsv,-⟩:=id hR;obtain⟨la,lc,hlv⟩:=hL.slc;rw[hn] at hsv hn1 hn2 ⊢;rw[hln] at hlv;subst hsv hlv;obtain⟨b12,hb12⟩:∃z,b%12=z:=⟨_,rfl⟩
 have hb0:=Int.emod_nonneg b (show (12:Int)≠0 by decide);have hb1:=Int.emod_lt_of_pos b (show (0:Int)<12 by decide);rw[hb12] at hb0 hb1 ⊢;obtain⟨Q,hQ⟩:=gE (mkRq fn a b12);rw[hQ];have hnp:(0:Int)<(n:Int):=by omega
 obtain⟨iS,hiS⟩:∃i:Nat,st%(n:Int)=(i:Int):=⟨(st%(n:Int)).toNat,by have:=Int.emod_nonneg st (show (n:Int)≠0 by omega);omega⟩
 have hiSn:iS<n:=by have:=Int.emod_lt_of_pos st hnp;omega
 obtain⟨um,hum⟩:∃z,un%247=z:=⟨_,rfl⟩
 have hu0:=Int.emod_nonneg un (show (247:Int)≠0 by decide);have hu1:=Int.emod_lt_of_pos un (show (0:Int)<247 by decide);rw[hum] at hu0 hu1;obtain⟨U,hU⟩:∃z,1+um=z:=⟨_,rfl⟩
 have sU:IntKind.i64.wrap (1+um)=U:=(IntWalk.i64_in _ (by omega)).trans hU;have HU:Hid (1≤U∧U≤247):=by show _∧_;omega
 have HM12:Hid (∀X,Calls Tryz.prog 38 #[.int .i64 b,.int .i64 12] X fun r w'=>r=.returned (.int .i64 b12)∧X=w'):=fun X=>by rw[←hb12];exact mod_any b 12 (by decide) (by decide) (wfJ f5) X
 have HMK:Hid (∀X,Calls Tryz.prog 52 #[.int .i64 fn,.int .i64 a,.int .i64 b12] X fun r w'=>r=.returned (.agg #[.int .i64 Q.fn,.int .i64 Q.addr,.int .i64 Q.qty,.int .i64 Q.code,.int .i64 Q.obj])∧Below X.heap.size X w'):=fun X=>by rw[←hQ];exact make_any fn a b12 (wfJ f3) (wfJ f4) (wfJ (by unfold wfI;omega)) X
 have HMS:Hid (∀X,Calls Tryz.prog 38 #[.int .i64 st,.int .i64 (n:Int)] X fun r w'=>r=.returned (.int .i64 (iS:Int))∧X=w'):=fun X=>by rw[←hiS];exact mod_any st n hnp (by omega) (wfJ f1) X
 have HMU:Hid (∀X,Calls Tryz.prog 38 #[.int .i64 un,.int .i64 247] X fun r w'=>r=.returned (.int .i64 um)∧X=w'):=fun X=>by rw[←hum];exact mod_any un 247 (by decide) (by decide) (wfJ f2) X
 obtain⟨D,hD⟩:=gE (ScnC c (.slice sa n sc) (.slice la ln lc) av lp cv kv);rw[hD];obtain⟨W3,hW3⟩:∃W,((w.alloc (.cells D 35)).alloc (.cells #[.int .i64 m,.int .i64 st,.int .i64 un,.int .i64 fn,.int .i64 a,.int .i64 b] 49)).alloc (.cells #[.int .i64 0,.int .i64 0,.int .i64 0,.int .i64 0,.int .i64 0] 45)=W:=⟨_,rfl⟩
 have hb3:Below w.heap.size w W3:=by rw[←hW3];exact cJ (cJ (bH w _) (Nat.le_refl _) _) (Nat.le_refl _) _
 have hz3:W3.heap.size=w.heap.size+3:=by rw[←hW3];simp
 have p0:W3.heap[w.heap.size]?=some (.cells D 35):=by rw[←hW3];exact bB (bB (bI w _) (bH _ _)) (bH _ _)
 have p1:W3.heap[w.heap.size+1]?=some (.cells #[.int .i64 m,.int .i64 st,.int .i64 un,.int .i64 fn,.int .i64 a,.int .i64 b] 49):=by
  rw[←hW3];have h:=bI (w.alloc (.cells D 35)) (.cells #[.int .i64 m,.int .i64 st,.int .i64 un,.int .i64 fn,.int .i64 a,.int .i64 b] 49);rw[World.size_alloc] at h;exact bB h (bH _ _)
 have p2:W3.heap[w.heap.size+2]?=some (.cells #[.int .i64 0,.int .i64 0,.int .i64 0,.int .i64 0,.int .i64 0] 45):=by
  rw[←hW3];have h:=bI ((w.alloc (.cells D 35)).alloc (.cells #[.int .i64 m,.int .i64 st,.int .i64 un,.int .i64 fn,.int .i64 a,.int .i64 b] 49)) (.cells #[.int .i64 0,.int .i64 0,.int .i64 0,.int .i64 0,.int .i64 0] 45);rw[World.size_alloc,World.size_alloc] at h;exact h
 have t0:∀X,Below W3.heap.size W3 X→X.cell? ⟨w.heap.size,0,none⟩=some (.slice sa n sc):=fun X h=>(bA (bB p0 h) 0).trans (by rw[←hD];rfl)
 have t16:∀X,Below W3.heap.size W3 X→X.cell? ⟨w.heap.size,16,none⟩=some (.slice la ln lc):=fun X h=>(bA (bB p0 h) 16).trans (by rw[←hD];rfl)
 have a0:=cF p1 0 rfl;have a1:=cF p1 1 rfl;have a2:=cF p1 2 rfl;have a3:=cF p1 3 rfl;have a4:=cF p1 4 rfl;have a5:=cF p1 5 rfl;have HW3:=bC hW3;have HB3:=bC hb3;have HZ3:=bC hz3;have HPZ:=bC p2;have HR:=bC hR;have HL:=bC hL;have HLN:=bC hln;have HN:=bC hn;have HB:=bC hB;have HNN:=bC (And.intro hn1 hn2);have HIS:=bC hiSn;have kD:Below W3.heap.size W3 W3.drew:=(Below.refl _ _).drew;have hi:(Tryz.prog.info? 68).map (·.size)=some 19:=infoSL;clear hn hln hR hL hb12 hb0 hb1 hQ hiS hum hu0 hu1 hU hD hW3 hb3 hz3 p0 p1 p2 hn1 hn2 hnp hB hiSn f0 f1 f2 f3 f4 f5;go_enter Tryz.func15,Tryz.ntmps15;go_upto_region 1 with(fail)
 rw[HW3.out];go_cut [7] from 12 to 19 (fun s7 wc=>TgMid W3 Q s7 wc)
 case first=>
  clear t0 t16;refine wp_region_held_drew (S:=fun V=>Below W3.heap.size W3 V) (by kernel_rfl) kD (fun hH=>?_);clear hH;refine tG 0 12 ?_;refine tG 1 13 ?_;refine tG 2 14 ?_;refine tG 3 15 ?_;refine tG 4 16 ?_;refine tG 5 17 ?_;refine wpAnyH_ready (rs:=[6,8]) (by kernel_rfl) (by simp) ?_;refine AllReadyH.cons rfl (fun K hK=>?_) (AllReadyH.cons rfl (fun K hK=>?_) AllReadyH.nil)
  ·go_simp
   refine(HM12.out _).mono ?_;rintro r wx ⟨rfl,rfl⟩;refine hK.out _ _ kD (fun hSx=>?_);clear hK K hSx;refine wpAnyH_ready (rs:=[7,8]) (by kernel_rfl) (by simp) ?_;refine AllReadyH.cons rfl (fun K hK=>?_) (AllReadyH.cons rfl (fun K hK=>?_) AllReadyH.nil)
   ·go_simp
    refine(HMK.out _).mono ?_;rintro r y3 ⟨rfl,hy3⟩;have hB3:=bU kD hy3;refine hK.out _ _ hB3 (fun hSx=>?_);clear hK K hSx;refine bM 8 rfl (fun K hK=>?_);go_simp;have hB4:Below W3.heap.size W3 (y3.alloc (.cells #[.int .i64 0,.int .i64 0,.int .i64 0,.int .i64 0,.int .i64 0] 45)):=cJ hB3 (Nat.le_refl _) _;refine hK.out _ _ hB4 (fun hSx=>?_);clear hK K hSx;refine bM 9 rfl (fun K hK=>?_);refine bR rfl 45 (.tmp 7) (.tmp 19) rfl y3.heap.size 0 _ 45 #[.int .i64 Q.fn,.int .i64 Q.addr,.int .i64 Q.qty,.int .i64 Q.code,.int .i64 Q.obj] rfl rfl (bI y3 (.cells #[.int .i64 0,.int .i64 0,.int .i64 0,.int .i64 0,.int .i64 0] 45)) (by simp) infoRq5 rfl ?_;intro y5 g5 hk5 hz5;have hB5:Below W3.heap.size W3 y5:=hB4.trans (hk5.below hB4.size (fun i hi e=>by have:=hB3.size;omega));refine hK.out _ _ hB5 (fun hSx=>?_);clear hK K hSx;refine wpAnyH_done (by kernel_rfl) ?_ _;go_wp2;go_meet
    case rel=>exact⟨_,rfl,g5,hB3.size,hB5⟩
   ·go_simp
    have hB4:Below W3.heap.size W3 (W3.alloc (.cells #[.int .i64 0,.int .i64 0,.int .i64 0,.int .i64 0,.int .i64 0] 45)).drew:=(bH W3 _).drew;exact z38_2
  ·go_simp
   have hB4:Below W3.heap.size W3 (W3.alloc (.cells #[.int .i64 0,.int .i64 0,.int .i64 0,.int .i64 0,.int .i64 0] 45)).drew:=(bH W3 _).drew;refine hK.out _ _ hB4 (fun hSx=>?_);clear hK K hSx;refine bM 6 rfl (fun K hK=>?_);go_simp;refine(HM12.out _).mono ?_;rintro r wx ⟨rfl,rfl⟩;exact z38_2
 case rest=>
  obtain⟨pb,rfl,hpq,hpb,hbc⟩:=hcut;obtain⟨WA,hWA⟩:∃W,W=wc:=⟨_,rfl⟩
  subst hWA;have HPQ0:=bC hpq;have HPB:=bC hpb;have HBC:=bC hbc;have q0:=t0 WA hbc;have q1:=a1 WA hbc;have q2:=a2 WA hbc;clear hpq hpb HM12 HMK kD a3 a4 a5 a1 a2;go_upto_region 2 with(fail)
  go_quiet (first
   |(go_at_call 38;with_reducible exact Calls.quiet_of_same (v:=.int .i64 (iS:Int)) ((HMS.out _).mono fun _ _ h=>⟨h.1,h.2.symm⟩))
   |(go_at_call 38;with_reducible exact Calls.quiet_of_same (v:=.int .i64 um) ((HMU.out _).mono fun _ _ h=>⟨h.1,h.2.symm⟩)))
  have hbq:Below WA.heap.size WA (WA.drewN nq):=below_drewN (Below.refl _ _) _;clear q0 q1 q2 HMS HMU sU hbc;generalize WA.drewN nq=wq at*;have hBE:=bU HBC.out hbq;have HBE:=bC hBE;have HPQ:Hid (∀X,Keeps (· =w.heap.size+2) wq X→∀j u,(#[.int .i64 Q.fn,.int .i64 Q.addr,.int .i64 Q.qty,.int .i64 Q.code,.int .i64 Q.obj]:Array Value).toList[j]?=some u→X.cell? ((⟨pb,0,none⟩:Addr).add j)=some u):=fun X hX j u hj=>by
   rw[Addr.add_lit,Nat.zero_add,bA (bG (bB HPQ0.out hbq) hX (fun e=>by have e':pb=w.heap.size+2:=e;have:=HPB.out;have:=HZ3.out;omega))];simpa using hj
  have v16:∀X,Below wq.heap.size wq X→X.cell? ⟨w.heap.size,16,none⟩=some (.slice la ln lc):=fun X hX=>t16 X (bU HBE.out hX)
  have va0:∀X,Below wq.heap.size wq X→X.cell? ⟨w.heap.size+1,0,none⟩=some (.int .i64 m):=fun X hX=>a0 X (bU HBE.out hX)
  have q16:=t16 wq hBE;have qa0:=a0 wq hBE;clear hbq;have hWQ:Below wq.heap.size wq wq:=Below.refl _ _;have HIU:Hid (iS<n∧1≤U∧U≤247):=⟨HIS.out,HU.out⟩
  by_cases hm:0≤m
  ·have g1:decide (0≤m)=true:=decide_eq_true hm
   by_cases hl:0<ln
   ·have g2:decide ((0:Int)<(ln:Int))=true:=decide_eq_true (by omega)
    have g2':(0:Int)<(ln:Int):=by omega
    obtain⟨jm,hjm⟩:∃j:Nat,m%(ln:Int)=(j:Int):=⟨(m%(ln:Int)).toNat,by have:=Int.emod_nonneg m (show (ln:Int)≠0 by omega);omega⟩
    have hjl:jm<ln:=by have:=Int.emod_lt_of_pos m g2';omega
    have r1:m.tmod (ln:Int)=(jm:Int):=by rw[Int.tmod_eq_emod_of_nonneg hm,hjm]
    have r3:¬(ln:Int)=0:=by omega
    have r4:¬ln=0:=by omega
    have r6:(0:Int)≤(jm:Int):=by omega
    have r7:(jm:Int)<(ln:Int):=by omega
    obtain⟨s,hs⟩:=gs (l:=l) HLN.out hjl;have hsv:s.val:=HB.out.2 s (List.mem_of_getElem? hs);have HSV:Hid (1≤s.un∧s.un≤247):=hsv.un;obtain⟨b2,o,rv,ov,sv2,hla,hSR,hsc⟩:=HL.out.at hs;subst hla;obtain⟨C,hC⟩:=gE (SlC s rv ov sv2);rw[hC] at hsc;have hcs:C.size=19:=by rw[←hC];rfl
    have hci:(Tryz.prog.info? 68).map (·.size)=some C.size:=by rw[←hC];exact infoSL
    have h1c:C.toList.all (·.oneCell')=true:=by rw[←hC];exact hSR.one
    have HROW:Hid (∀X,Below wq.heap.size wq X→∀j u,C.toList[j]?=some u→X.cell? ((⟨b2,o+jm*19,none⟩:Addr).add j)=some u):=fun X hX j u hj=>by
     rw[Addr.add_lit];exact bD (bU (bU HB3.out HBE.out) hX) (hsc j u (by simpa using hj))
    have HWB:=bC hSR.bd;have HWP:=bC hSR.pa;have HCC:=bC hC;clear hs hsv hSR hsc hC hjm hm hl hjl;go_upto_region 4 with(fail)
    refine wp_region_held_drew (S:=fun V=>Below wq.heap.size wq V) (by kernel_rfl) (Below.refl _ _).drew (fun hH=>?_);clear hH;have kQ:Below wq.heap.size wq wq.drew:=(Below.refl _ _).drew;refine tG 0 40 ?_;refine tG 1 41 ?_;refine tG 2 42 ?_;refine tG 3 43 ?_;refine tG 4 44 ?_;refine tG 5 45 ?_;refine tG 6 46 ?_;refine tG 7 47 ?_;refine tG 8 48 ?_;refine cR 9 49 (v:=.agg C) rfl (by kernel_rfl) (fun _ _ _ h=>h) rfl (by rfl) (by assumption) (fun X hX=>run_load_rowW 68 (.tmp 48) rfl ⟨b2,o+jm*19,none⟩ rfl C _ (HROW.out X hX) Tryz.underlying68 rfl hci) ?_;simp only[cA];refine bM 10 rfl (fun K hK=>?_);go_simp;refine hK.out _ _ ((bH wq _).drew) (fun hSx=>?_);clear hK K hSx;refine bM 11 rfl (fun K hK=>?_);refine bR rfl 68 (.tmp 10) (.tmp 49) rfl wq.heap.size 0 _ 68 C rfl rfl (bI wq _) (by simp [hcs]) hci h1c ?_;intro y5 g5 hk5 hz5;obtain⟨p5,hb5⟩:=var_new (by rw[hcs];rfl) g5 ((Keeps.of_below (Below.refl _ _).drew).trans hk5 (fun _ _ e=>e));refine hK.out _ _ hb5 (fun hSx=>?_);clear hK K hSx;refine wpAnyH_done (by kernel_rfl) ?_ _;have e0:∀X,Below y5.heap.size y5 X→X.cell? ⟨wq.heap.size,0,none⟩=some (.int .i64 s.bd):=fun X h=>(bA (bB p5 h) 0).trans (by rw[←HCC.out];rfl)
    have e1:∀X,Below y5.heap.size y5 X→X.cell? ⟨wq.heap.size,1,none⟩=some (.int .i64 s.pa):=fun X h=>(bA (bB p5 h) 1).trans (by rw[←HCC.out];rfl)
    have e2:∀X,Below y5.heap.size y5 X→X.cell? ⟨wq.heap.size,2,none⟩=some (.int .i64 s.un):=fun X h=>(bA (bB p5 h) 2).trans (by rw[←HCC.out];rfl)
    have HB5:=bC hb5;have HPQ5:Hid (∀X,Below y5.heap.size y5 X→Below wq.heap.size wq X):=fun X hX=>bU HB5.out hX
    clear g5 hk5 hz5 p5 hb5 q16 qa0 v16 va0 r1 r3 r4 r6 r7 g1 g2 g2' hci h1c hcs a0 t16;generalize s.bd=sb at*;generalize s.pa=sp at*;generalize s.un=su at*;go_wp2;go_loopw [8,9,11] (fun iv uv kv wr=>∃(i:Nat) (u:Int) (k:Nat),k≤n∧iv=.int .i64 (i:Int)∧uv=.int .i64 u∧kv=.int .i64 (k:Int)∧Hid (i<n∧1≤u∧u≤247)∧Below y5.heap.size y5 wr) (fun _ _ kv _=>n- (intOf kv).toNat)
    case atStart=>exact⟨iS,U,0,Nat.zero_le _,rfl,rfl,rfl,HIU.out,Below.refl _ _⟩
    case round=>
     obtain⟨i,u,k,hk,rfl,rfl,rfl,hiu,hbw⟩:=hrel;have hki:(0:Int)≤(k:Int):=Int.natCast_nonneg _;have HBW:=bC hbw;have x0:=t0 wr (bU HBE.out (HPQ5.out _ hbw));by_cases hlt:k<n
     ·have hkl:(k:Int)<(n:Int):=by omega
      have hn6:=HNN.out.2;obtain⟨y,hy⟩:=gs (l:=c.sets) HN.out hlt;obtain⟨b3,o3,c3,hv3,w0,w1,hcl⟩:=HR.out.at hy;rw[HN.out] at hv3;simp only[Value.slice.injEq,true_and] at hv3;obtain⟨rfl,rfl⟩:=hv3;obtain⟨v0,v1⟩:=hcl wr (bU (bU HB3.out HBE.out) (HPQ5.out _ hbw));have u0:=e0 wr hbw;have u1:=e1 wr hbw;have u2:=e2 wr hbw;obtain⟨yb,yp⟩:=y;dsimp only at v0 v1 w0 w1;obtain⟨B1,hB1⟩:=cN (p:=yb=sb∧yp=sp);have heq:∀X,(binOp .eql 61 (.agg #[.int .i64 yb,.int .i64 yp]) (.agg #[.int .i64 sb,.int .i64 sp])).run Tryz.prog X=.ok (.bool B1) X:=fun X=>eq_setB _ _ _ _ w0 w1 HWB.out HWP.out B1 hB1 X
      have HKS:Hid (k<n∧1≤su∧su≤247):=⟨hlt,HSV.out⟩
      clear hcl hB1 hy w0 w1 hbw;cases B1 with
      |false=>
       go_upto_region 8 with(fail)
       go_quiet (fail);go_wp2;go_roundw
       case rel=>exact⟨i,u,k+1,by omega,rfl,rfl,by go_num,hiu,below_drewN HBW.out _⟩
       case measure=>simp [intOf];omega
      |true=>
       go_upto_region 8 with(fail)
       go_quiet (fail);have hbn:Below y5.heap.size y5 (wr.drewN nq):=below_drewN HBW.out _;have u3:=e2 _ hbn;clear u0 u1 u2 v0 v1 heq x0;generalize wr.drewN nq=wn at*;go_upto_region 9 with(fail)
       go_quiet (fail);go_wp2;go_roundw
       case rel=>exact⟨k,su,k+1,by omega,rfl,rfl,by go_num,HKS.out,below_drewN hbn _⟩
       case measure=>simp [intOf];omega
     ·obtain rfl:k=n:=by omega
      have hkl:¬(k:Int)<(k:Int):=by omega
      have hXX:=HPQ5.out _ hbw;clear e0 e1 e2 t0 hbw;go_upto_region 10 with(fail);refine wp_region_held_drew (S:=fun V=>Keeps (· =w.heap.size+2) (wr) V) (by kernel_rfl) (Keeps.of_below (Below.refl _ _).drew) (fun hH=>?_);clear hH;have hBD:Below (wr).heap.size (wr) (wr).drew:=(Below.refl _ _).drew;have hKD:Keeps (· =w.heap.size+2) (wr) (wr).drew:=Keeps.of_below hBD;refine tG 0 70 ?_;refine tG 1 71 ?_;refine cR 2 72 (v:=.agg #[.int .i64 Q.fn,.int .i64 Q.addr,.int .i64 Q.qty,.int .i64 Q.code,.int .i64 Q.obj]) rfl (by kernel_rfl) (fun _ _ _ h=>h) rfl (by rfl) (by assumption) (fun Y hY=>cB 45 (.tmp 7) rfl ⟨pb,0,none⟩ rfl #[.int .i64 Q.fn,.int .i64 Q.addr,.int .i64 Q.qty,.int .i64 Q.code,.int .i64 Q.obj] _ (HPQ.out Y ((Keeps.of_below hXX).trans hY (fun _ _ e=>e))) Tryz.underlying45 rfl infoRq5) ?_;simp only[cA];refine tG 3 4 ?_;refine tG 4 5 ?_;refine bM 5 rfl (fun K hK=>?_);refine bR rfl 45 (.tmp 6) (.tmp 72) rfl (w.heap.size+2) 0 _ 45 #[.int .i64 Q.fn,.int .i64 Q.addr,.int .i64 Q.qty,.int .i64 Q.code,.int .i64 Q.obj] rfl rfl (bB (bB (bB HPZ.out HBE.out) hXX) hBD) (by simp) infoRq5 rfl ?_;intro y9 g9 hk9 hz9;have hB9:Below w.heap.size w y9:=((HB3.out.trans ((bU HBE.out hXX).mono HB3.out.size)).trans (hBD.mono (by have:=HB3.out.size;have:=HBE.out.size;have:=(hXX).size;omega))).trans (hk9.below (by have:=HB3.out.size;have:=HBE.out.size;have:=(hXX).size;have:=hBD.size;omega) (fun j hj e=>by have e':j=w.heap.size+2:=e;omega));refine hK.out _ _ (hKD.trans hk9 (fun _ _ e=>e)) (fun hSx=>?_);clear hK K hSx;refine wpAnyH_done (by kernel_rfl) ?_ _;have g9':y9.heap[w.heap.size+2]?=some (.cells #[.int .i64 Q.fn,.int .i64 Q.addr,.int .i64 Q.qty,.int .i64 Q.code,.int .i64 Q.obj] 45):=g9;have e0:=cG g9' 0 rfl;have e1:=cG g9' 1 rfl;have e2:=cG g9' 2 rfl;have e3:=cG g9' 3 rfl;have e4:=cG g9' 4 rfl;go_wp2;refine bodyPost_ret (v:=.tuple #[.int .i64 (i:Int),.int .i64 u,.agg #[.int .i64 Q.fn,.int .i64 Q.addr,.int .i64 Q.qty,.int .i64 Q.code,.int .i64 Q.obj]]) (by simp [results,Tryz.results15,go_sem,e0,e1,e2,e3,e4]) rfl ?_;exact⟨i,u,(hiu.out).1,(hiu.out).2,rfl,hB9⟩
   ·have g2:decide ((0:Int)<(ln:Int))=false:=decide_eq_false (by omega)
    have g2':¬(0:Int)<(ln:Int):=by omega
    clear hm hl t0 t16 a0 v16 va0;exact z38_1
  ·have g1:decide (0≤m)=false:=decide_eq_false hm
   clear hm t0 t16 a0 v16 va0;exact z38_1
end Go.Proofs.YtoaoejaodhedaaaGreat
