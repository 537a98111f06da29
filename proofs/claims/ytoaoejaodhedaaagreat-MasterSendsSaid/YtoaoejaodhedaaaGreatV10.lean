import Derived.Test.YtoaoejaodhedaaaGreatV09
namespace Go.Proofs.YtoaoejaodhedaaaGreat
open Go.RowKit
open Option renaming none→J,some→M
open Value renaming int→N
open IntKind renaming i64→O
open Obj renaming cells→G
set_option maxHeartbeats 12800000
set_option maxRecDepth 100000
variable {p:Prop}
def xaY (W:World) (Q:Rq) (s:Value) (w':World):Prop:=∃pb,s=.pointer (M ⟨pb,0,J⟩)∧w'.heap[pb]?=M (G #[N O Q.fn,N O Q.addr,N O Q.aF,N O Q.code,N O Q.obj] 45)∧W.heap.size≤pb∧Below W.heap.size W w'
def Fw (w:World) (n:Nat) (Q:Rq) (r:Ending) (w':World):Prop:=∃(i:Nat) (u:Int),i<n∧(1≤u∧u≤247)∧r=.returned (.tuple #[N O (i:Int),N O u,.agg #[N O Q.fn,N O Q.addr,N O Q.aF,N O Q.code,N O Q.obj]])∧Below w.heap.size w w'
theorem PO (h:p:=by
 go_upto_region 10 with(fail);refine wp_region_held_drew (S:=fun V=>Keeps (· =w.heap.size+2) (wq) V) (by kernel_rfl) (Keeps.af (Below.refl _ _).drew) (fun hH=>?_);clear hH;have hBD:Below (wq).heap.size (wq) (wq).drew:=(Below.refl _ _).drew;have hKD:Keeps (· =w.heap.size+2) (wq) (wq).drew:=Keeps.af hBD;refine tG 0 70 ?_;refine tG 1 71 ?_;refine tkD 2 72 (v:=.agg #[.int .i64 Q.fn,.int .i64 Q.addr,.int .i64 Q.aF,.int .i64 Q.code,.int .i64 Q.obj]) rfl (by kernel_rfl) (fun _ _ _ h=>h) rfl (by rfl) (by assumption) (fun Y hY=>run_load_rowT 45 (.tmp 7) rfl ⟨pb,0,none⟩ rfl #[.int .i64 Q.fn,.int .i64 Q.addr,.int .i64 Q.aF,.int .i64 Q.code,.int .i64 Q.obj] _ (HPQ.out Y ((Keeps.af hWQ).trans hY (fun _ _ e=>e))) Tryz.underlying45 rfl infoRq5) ?_;simp only[setS];refine tG 3 4 ?_;refine tG 4 5 ?_;refine rdyH 5 rfl (fun K hK=>?_);refine step_storeW rfl 45 (.tmp 6) (.tmp 72) rfl (w.heap.size+2) 0 _ 45 #[.int .i64 Q.fn,.int .i64 Q.addr,.int .i64 Q.aF,.int .i64 Q.code,.int .i64 Q.obj] rfl rfl (hpKeep (hpKeep (hpKeep HPZ.out HBE.out) hWQ) hBD) (by simp) infoRq5 rfl ?_;intro y9 g9 hk9 hz9;have hB9:Below w.heap.size w y9:=((HB3.out.trans ((bt HBE.out hWQ (Nat.le_refl _)).mono HB3.out.size)).trans (hBD.mono (by have:=HB3.out.size;have:=HBE.out.size;have:=(hWQ).size;omega))).trans (hk9.below (by have:=HB3.out.size;have:=HBE.out.size;have:=(hWQ).size;have:=hBD.size;omega) (fun j hj e=>by have e':j=w.heap.size+2:=e;omega));refine hK.out _ _ (hKD.trans hk9 (fun _ _ e=>e)) (fun hSx=>?_);clear hK K hSx;refine wpAnyH_done (by kernel_rfl) ?_ _;have g9':y9.heap[w.heap.size+2]?=some (.cells #[.int .i64 Q.fn,.int .i64 Q.addr,.int .i64 Q.aF,.int .i64 Q.code,.int .i64 Q.obj] 45):=g9;have e0:=cG g9' 0 rfl;have e1:=cG g9' 1 rfl;have e2:=cG g9' 2 rfl;have e3:=cG g9' 3 rfl;have e4:=cG g9' 4 rfl;go_wp2;refine bodyPost_ret (v:=.tuple #[.int .i64 (iS:Int),.int .i64 U,.agg #[.int .i64 Q.fn,.int .i64 Q.addr,.int .i64 Q.aF,.int .i64 Q.code,.int .i64 Q.obj]]) (by simp [results,Tryz.results15,go_sem,e0,e1,e2,e3,e4]) rfl ?_;exact⟨iS,U,(HIU.out).1,(HIU.out).2,rfl,hB9⟩):p:=h
theorem PR (h:p:=by
 refine hK.out _ _ hB4 (fun hSx=>?_);clear hK K hSx
 refine rdyH 7 rfl (fun K hK=>?_);go_simp
 refine(HMK.out _).mono ?_
 rintro r y3 ⟨rfl,hy3⟩
 have hB3:=bt hB4 hy3 (Nat.le_refl _)
 have p3:y3.heap[W3.heap.size]?=some (.cells #[.int .i64 0,.int .i64 0,.int .i64 0,.int .i64 0,.int .i64 0] 45):=hpKeep (w:=(W3.alloc (.cells #[.int .i64 0,.int .i64 0,.int .i64 0,.int .i64 0,.int .i64 0] 45)).drew) (hpNew W3 _) hy3
 refine hK.out _ _ hB3 (fun hSx=>?_);clear hK K hSx
 refine rdyH 9 rfl (fun K hK=>?_);refine step_storeW rfl 45 (.tmp 7) (.tmp 19) rfl W3.heap.size 0 _ 45 #[.int .i64 Q.fn,.int .i64 Q.addr,.int .i64 Q.aF,.int .i64 Q.code,.int .i64 Q.obj] rfl rfl p3 (by simp) infoRq5 rfl ?_;intro y5 g5 hk5 hz5
 have hB5:Below W3.heap.size W3 y5:=hB3.trans (hk5.below hB3.size (fun i hi e=>by have e':i=W3.heap.size:=e;omega))
 refine hK.out _ _ hB5 (fun hSx=>?_);clear hK K hSx
 refine wpAnyH_done (by kernel_rfl) ?_ _
 go_wp2
 go_meet
 case rel=>exact⟨_,rfl,g5,Nat.le_refl _,hB5⟩):p:=h
theorem Hy (c:Cf) (l:List Sl) (sv lv av cv kv:Value) (lp:Bool) (sY:1≤c.bj.length) (pJ:c.bj.length≤6) (hB:cW l) (x:Aq) (hx:wfA x) (w:World) (hR:dw w sv c.bj) (hL:dm w lv l):
  Calls Tryz.prog 15 #[.agg (wm c sv lv av lp cv kv),.agg x.C] w (Fw w c.bj.length (jY x.fn x.a (x.b%12))):=by
 obtain⟨m,st,un,fn,a,b⟩:=x;obtain⟨f0,f1,f2,f3,f4,f5⟩:=hx;dsimp only at f0 f1 f2 f3 f4 f5;show Calls _ _ #[_,.agg #[N O m,N O st,N O un,N O fn,N O a,N O b]] w (Fw w c.bj.length (jY fn a (b%12)));obtain⟨n,hn⟩:=gE c.bj.length;obtain⟨ln,kN⟩:=gE l.length;obtain⟨sa,sc,zJ,-⟩:=id hR;obtain⟨la,lc,qQ⟩:=hL.KH;rw[hn] at zJ sY pJ ⊢;rw[kN] at qQ;subst zJ qQ;obtain⟨B,vh⟩:∃z,b%12=z:=⟨_,rfl⟩
 have fB:=Int.emod_nonneg b (show (12:Int)≠0 by decide);have a6:=Int.emod_lt_of_pos b (show (0:Int)<12 by decide);rw[vh] at fB a6 ⊢;obtain⟨Q,hQ⟩:=gE (jY fn a B);rw[hQ];have Z:(0:Int)<(n:Int):=by omega
 obtain⟨iS,a8⟩:∃i:Nat,st%(n:Int)=(i:Int):=⟨(st%(n:Int)).toNat,by have:=Int.emod_nonneg st (show (n:Int)≠0 by omega);omega⟩
 have bx:iS<n:=by have:=Int.emod_lt_of_pos st Z;omega
 obtain⟨um,ab⟩:∃z,un%247=z:=⟨_,rfl⟩
 have bn:=Int.emod_nonneg un (show (247:Int)≠0 by decide);have bo:=Int.emod_lt_of_pos un (show (0:Int)<247 by decide);rw[ab] at bn bo;obtain⟨U,hU⟩:∃z,1+um=z:=⟨_,rfl⟩
 have sU:IntKind.i64.wrap (1+um)=U:=(IntWalk.i64_in _ (by omega)).trans hU;have HU:Hid (1≤U∧U≤247):=by show _∧_;omega
 have Xz:Hid (∀X,Calls Tryz.prog 38 #[N O b,N O 12] X fun r w'=>r=.returned (N O B)∧X=w'):=fun X=>by rw[←vh];exact fR b 12 (by decide) (by decide) (IT f5) X
 have HMK:Hid (∀X,Calls Tryz.prog 52 #[N O fn,N O a,N O B] X fun r w'=>r=.returned (.agg #[N O Q.fn,N O Q.addr,N O Q.aF,N O Q.code,N O Q.obj])∧Below X.heap.size X w'):=fun X=>by rw[←hQ];exact Gn fn a B (IT f3) (IT f4) (IT (by unfold bT;omega)) X
 have Aa:Hid (∀X,Calls Tryz.prog 38 #[N O st,N O (n:Int)] X fun r w'=>r=.returned (N O (iS:Int))∧X=w'):=fun X=>by rw[←a8];exact fR st n Z (by omega) (IT f1) X
 have aX:Hid (∀X,Calls Tryz.prog 38 #[N O un,N O 247] X fun r w'=>r=.returned (N O um)∧X=w'):=fun X=>by rw[←ab];exact fR un 247 (by decide) (by decide) (IT f2) X
 obtain⟨D,hD⟩:=gE (wm c (.slice sa n sc) (.slice la ln lc) av lp cv kv);rw[hD];obtain⟨W3,g⟩:∃W,((w.alloc (G D 35)).alloc (G #[N O m,N O st,N O un,N O fn,N O a,N O b] 49)).alloc (G #[N O 0,N O 0,N O 0,N O 0,N O 0] 45)=W:=⟨_,rfl⟩
 have a7:Below w.heap.size w W3:=by rw[←g];exact bta (bta (bal' w _) (Nat.le_refl _) _) (Nat.le_refl _) _
 have OF:W3.heap.size=w.heap.size+3:=by rw[←g];simp
 have p0:W3.heap[w.heap.size]?=M (G D 35):=by rw[←g];exact hpKeep (hpKeep (hpNew w _) (bal' _ _)) (bal' _ _)
 have p1:W3.heap[w.heap.size+1]?=M (G #[N O m,N O st,N O un,N O fn,N O a,N O b] 49):=by
  rw[←g];have h:=hpNew (w.alloc (G D 35)) (G #[N O m,N O st,N O un,N O fn,N O a,N O b] 49);rw[World.size_alloc] at h;exact hpKeep h (bal' _ _)
 have p2:W3.heap[w.heap.size+2]?=M (G #[N O 0,N O 0,N O 0,N O 0,N O 0] 45):=by
  rw[←g];have h:=hpNew ((w.alloc (G D 35)).alloc (G #[N O m,N O st,N O un,N O fn,N O a,N O b] 49)) (G #[N O 0,N O 0,N O 0,N O 0,N O 0] 45);rw[World.size_alloc,World.size_alloc] at h;exact h
 have t0:∀X,Below W3.heap.size W3 X→X.cell? ⟨w.heap.size,0,J⟩=M (.slice sa n sc):=fun X h=>(hpCell (hpKeep p0 h) 0).trans (by rw[←hD];rfl)
 have t16:∀X,Below W3.heap.size W3 X→X.cell? ⟨w.heap.size,16,J⟩=M (.slice la ln lc):=fun X h=>(hpCell (hpKeep p0 h) 16).trans (by rw[←hD];rfl)
 have a0:=cF p1 0 rfl;have a1:=cF p1 1 rfl;have a2:=cF p1 2 rfl;have a3:=cF p1 3 rfl;have a4:=cF p1 4 rfl;have a5:=cF p1 5 rfl;have Jr:=hid g;have HB3:=hid a7;have bZ:=hid OF;have HPZ:=hid p2;have HR:=hid hR;have HL:=hid hL;have bK:=hid kN;have HN:=hid hn;have HB:=hid hB;have CM:=hid (And.intro sY pJ);have C5:=hid bx;have kD:Below W3.heap.size W3 W3.drew:=(Below.refl _ _).drew;have hi:(Tryz.prog.info? 68).map (·.size)=M 19:=dX;clear hn kN hR hL vh fB a6 hQ a8 ab bn bo hU hD g a7 OF p0 p1 p2 sY pJ Z hB bx f0 f1 f2 f3 f4 f5;go_enter Tryz.func15,Tryz.ntmps15;go_upto_region 1 with(fail)
 rw[Jr.out];go_cut [7] from 12 to 19 (fun s7 wc=>xaY W3 Q s7 wc)
 case first=>
  clear t0 t16;refine wp_region_held_drew (S:=fun V=>Below W3.heap.size W3 V) (by kernel_rfl) kD (fun hH=>?_);clear hH;refine tG 0 12 ?_;refine tG 1 13 ?_;refine tG 2 14 ?_;refine tG 3 15 ?_;refine tG 4 16 ?_;refine tG 5 17 ?_;refine wpAnyH_ready (rs:=[6,8]) (by kernel_rfl) (by simp) ?_;refine AllReadyH.cons rfl (fun K hK=>?_) (AllReadyH.cons rfl (fun K hK=>?_) AllReadyH.nil)
  ·go_simp
   refine(Xz.out _).mono ?_;rintro r wx ⟨rfl,rfl⟩;refine hK.out _ _ kD (fun hSx=>?_);clear hK K hSx;refine wpAnyH_ready (rs:=[7,8]) (by kernel_rfl) (by simp) ?_;refine AllReadyH.cons rfl (fun K hK=>?_) (AllReadyH.cons rfl (fun K hK=>?_) AllReadyH.nil)
   ·go_simp
    refine(HMK.out _).mono ?_;rintro r y3 ⟨rfl,hy3⟩;have hB3:=bt kD hy3 (Nat.le_refl _);refine hK.out _ _ hB3 (fun hSx=>?_);clear hK K hSx;refine rdyH 8 rfl (fun K hK=>?_);go_simp;have hB4:Below W3.heap.size W3 (y3.alloc (G #[N O 0,N O 0,N O 0,N O 0,N O 0] 45)):=bta hB3 (Nat.le_refl _) _;refine hK.out _ _ hB4 (fun hSx=>?_);clear hK K hSx;refine rdyH 9 rfl (fun K hK=>?_);refine step_storeW rfl 45 (.tmp 7) (.tmp 19) rfl y3.heap.size 0 _ 45 #[N O Q.fn,N O Q.addr,N O Q.aF,N O Q.code,N O Q.obj] rfl rfl (hpNew y3 (G #[N O 0,N O 0,N O 0,N O 0,N O 0] 45)) (by simp) infoRq5 rfl ?_;intro y5 g5 hk5 hz5;have hB5:Below W3.heap.size W3 y5:=hB4.trans (hk5.below hB4.size (fun i hi e=>by have:=hB3.size;omega));refine hK.out _ _ hB5 (fun hSx=>?_);clear hK K hSx;refine wpAnyH_done (by kernel_rfl) ?_ _;go_wp2;go_meet
    case rel=>exact⟨_,rfl,g5,hB3.size,hB5⟩
   ·go_simp
    have hB4:Below W3.heap.size W3 (W3.alloc (G #[N O 0,N O 0,N O 0,N O 0,N O 0] 45)).drew:=(bal' W3 _).drew;exact PR
  ·go_simp
   have hB4:Below W3.heap.size W3 (W3.alloc (G #[N O 0,N O 0,N O 0,N O 0,N O 0] 45)).drew:=(bal' W3 _).drew;refine hK.out _ _ hB4 (fun hSx=>?_);clear hK K hSx;refine rdyH 6 rfl (fun K hK=>?_);go_simp;refine(Xz.out _).mono ?_;rintro r wx ⟨rfl,rfl⟩;exact PR
 case rest=>
  obtain⟨pb,rfl,bm,bc,zo⟩:=hcut;obtain⟨F,S5⟩:∃W,W=wc:=⟨_,rfl⟩
  subst S5;have b8:=hid bm;have RQ:=hid bc;have bA:=hid zo;have q0:=t0 F zo;have q1:=a1 F zo;have q2:=a2 F zo;clear bm bc Xz HMK kD a3 a4 a5 a1 a2;go_upto_region 2 with(fail)
  go_quiet (first
   |(go_at_call 38;with_reducible exact Calls.quiet_of_same (v:=N O (iS:Int)) ((Aa.out _).mono fun _ _ h=>⟨h.1,h.2.symm⟩))
   |(go_at_call 38;with_reducible exact Calls.quiet_of_same (v:=N O um) ((aX.out _).mono fun _ _ h=>⟨h.1,h.2.symm⟩)))
  have Tc:Below F.heap.size F (F.drewN nq):=below_drewN (Below.refl _ _) _;clear q0 q1 q2 Aa aX sU zo;generalize F.drewN nq=wq at*;have L:=bt bA.out Tc (Nat.le_refl _);have HBE:=hid L;have HPQ:Hid (∀X,Keeps (· =w.heap.size+2) wq X→∀j u,(#[N O Q.fn,N O Q.addr,N O Q.aF,N O Q.code,N O Q.obj]:Array Value).toList[j]?=M u→X.cell? ((⟨pb,0,J⟩:Addr).add j)=M u):=fun X t j u hj=>by
   rw[Addr.add_lit,Nat.zero_add,hpCell (hpKeeps (hpKeep b8.out Tc) t (fun e=>by have e':pb=w.heap.size+2:=e;have:=RQ.out;have:=bZ.out;omega))];simpa using hj
  have ad:∀X,Below wq.heap.size wq X→X.cell? ⟨w.heap.size,16,J⟩=M (.slice la ln lc):=fun X t=>t16 X (bt HBE.out t (Nat.le_refl _))
  have ak:∀X,Below wq.heap.size wq X→X.cell? ⟨w.heap.size+1,0,J⟩=M (N O m):=fun X t=>a0 X (bt HBE.out t (Nat.le_refl _))
  have b5:=t16 wq L;have b6:=a0 wq L;clear Tc;have hWQ:Below wq.heap.size wq wq:=Below.refl _ _;have HIU:Hid (iS<n∧1≤U∧U≤247):=⟨C5.out,HU.out⟩
  by_cases hm:0≤m
  ·have g1:decide (0≤m)=true:=decide_eq_true hm
   by_cases hl:0<ln
   ·have g2:decide ((0:Int)<(ln:Int))=true:=decide_eq_true (by omega)
    have I:(0:Int)<(ln:Int):=by omega
    obtain⟨jm,a9⟩:∃j:Nat,m%(ln:Int)=(j:Int):=⟨(m%(ln:Int)).toNat,by have:=Int.emod_nonneg m (show (ln:Int)≠0 by omega);omega⟩
    have wU:jm<ln:=by have:=Int.emod_lt_of_pos m I;omega
    have r1:m.tmod (ln:Int)=(jm:Int):=by rw[Int.tmod_eq_emod_of_nonneg hm,a9]
    have r3:¬(ln:Int)=0:=by omega
    have r4:¬ln=0:=by omega
    have r6:(0:Int)≤(jm:Int):=by omega
    have r7:(jm:Int)<(ln:Int):=by omega
    obtain⟨s,hs⟩:=gs (l:=l) bK.out wU;have zJ:s.val:=HB.out.2 s (List.mem_of_getElem? hs);have CP:Hid (1≤s.un∧s.un≤247):=zJ.un;obtain⟨b2,o,rv,ov,b7,Lh,E,Z5⟩:=HL.out.at hs;subst Lh;obtain⟨C,hC⟩:=gE (SlC s rv ov b7);rw[hC] at Z5;have R:C.size=19:=by rw[←hC];rfl
    have QG:(Tryz.prog.info? 68).map (·.size)=M C.size:=by rw[←hC];exact dX
    have aY:C.toList.all (·.oneCell')=true:=by rw[←hC];exact E.one
    have XO:Hid (∀X,Below wq.heap.size wq X→∀j u,C.toList[j]?=M u→X.cell? ((⟨b2,o+jm*19,J⟩:Addr).add j)=M u):=fun X t j u hj=>by
     rw[Addr.add_lit];exact cell_keep (bt (bt HB3.out HBE.out (Nat.le_refl _)) t (Nat.le_refl _)) (Z5 j u (by simpa using hj))
    have bQ:=hid E.bd;have bX:=hid E.pa;have U8:=hid hC;clear hs zJ E Z5 hC a9 hm hl wU;go_upto_region 4 with(fail)
    refine wp_region_held_drew (S:=fun V=>Below wq.heap.size wq V) (by kernel_rfl) (Below.refl _ _).drew (fun hH=>?_);clear hH;have kQ:Below wq.heap.size wq wq.drew:=(Below.refl _ _).drew;refine tG 0 40 ?_;refine tG 1 41 ?_;refine tG 2 42 ?_;refine tG 3 43 ?_;refine tG 4 44 ?_;refine tG 5 45 ?_;refine tG 6 46 ?_;refine tG 7 47 ?_;refine tG 8 48 ?_;refine tkD 9 49 (v:=.agg C) rfl (by kernel_rfl) (fun _ _ _ h=>h) rfl (by rfl) (by assumption) (fun X t=>bP 68 (.tmp 48) rfl ⟨b2,o+jm*19,J⟩ rfl C _ (XO.out X t) Tryz.underlying68 rfl QG) ?_;simp only[setS];refine rdyH 10 rfl (fun K hK=>?_);go_simp;refine hK.out _ _ ((bal' wq _).drew) (fun hSx=>?_);clear hK K hSx;refine rdyH 11 rfl (fun K hK=>?_);refine step_storeW rfl 68 (.tmp 10) (.tmp 49) rfl wq.heap.size 0 _ 68 C rfl rfl (hpNew wq _) (by simp [R]) QG aY ?_;intro y5 g5 hk5 hz5;obtain⟨p5,P⟩:=cJ (by rw[R];rfl) g5 ((Keeps.af (Below.refl _ _).drew).trans hk5 (fun _ _ e=>e));refine hK.out _ _ P (fun hSx=>?_);clear hK K hSx;refine wpAnyH_done (by kernel_rfl) ?_ _;have e0:∀X,Below y5.heap.size y5 X→X.cell? ⟨wq.heap.size,0,J⟩=M (N O s.bd):=fun X h=>(hpCell (hpKeep p5 h) 0).trans (by rw[←U8.out];rfl)
    have e1:∀X,Below y5.heap.size y5 X→X.cell? ⟨wq.heap.size,1,J⟩=M (N O s.pa):=fun X h=>(hpCell (hpKeep p5 h) 1).trans (by rw[←U8.out];rfl)
    have e2:∀X,Below y5.heap.size y5 X→X.cell? ⟨wq.heap.size,2,J⟩=M (N O s.un):=fun X h=>(hpCell (hpKeep p5 h) 2).trans (by rw[←U8.out];rfl)
    have oz:=hid P;have XM:Hid (∀X,Below y5.heap.size y5 X→Below wq.heap.size wq X):=fun X t=>bt oz.out t (Nat.le_refl _)
    clear g5 hk5 hz5 p5 P b5 b6 ad ak r1 r3 r4 r6 r7 g1 g2 I QG aY R a0 t16;generalize s.bd=sb at*;generalize s.pa=sp at*;generalize s.un=su at*;go_wp2;go_loopw [8,9,11] (fun iv uv kv wr=>∃(i:Nat) (u:Int) (k:Nat),k≤n∧iv=N O (i:Int)∧uv=N O u∧kv=N O (k:Int)∧Hid (i<n∧1≤u∧u≤247)∧Below y5.heap.size y5 wr) (fun _ _ kv _=>n- (intOf kv).toNat)
    case atStart=>exact⟨iS,U,0,Nat.zero_le _,rfl,rfl,rfl,HIU.out,Below.refl _ _⟩
    case round=>
     obtain⟨i,u,k,hk,rfl,rfl,rfl,T,f⟩:=hrel;have ca:(0:Int)≤(k:Int):=Int.natCast_nonneg _;have ao:=hid f;have x0:=t0 wr (bt HBE.out (XM.out _ f) (Nat.le_refl _));by_cases ba:k<n
     ·have b4:(k:Int)<(n:Int):=by omega
      have cb:=CM.out.2;obtain⟨y,hy⟩:=gs (l:=c.bj) HN.out ba;obtain⟨b3,o3,c3,Q5,w0,w1,fO⟩:=HR.out.at hy;rw[HN.out] at Q5;simp only[Value.slice.injEq,true_and] at Q5;obtain⟨rfl,rfl⟩:=Q5;obtain⟨v0,v1⟩:=fO wr (bt (bt HB3.out HBE.out (Nat.le_refl _)) (XM.out _ f) (Nat.le_refl _));have u0:=e0 wr f;have u1:=e1 wr f;have u2:=e2 wr f;obtain⟨yb,yp⟩:=y;dsimp only at v0 v1 w0 w1;obtain⟨B1,oU⟩:=bU (p:=yb=sb∧yp=sp);have heq:∀X,(binOp .eql 61 (.agg #[N O yb,N O yp]) (.agg #[N O sb,N O sp])).run Tryz.prog X=.ok (.bool B1) X:=fun X=>sT _ _ _ _ w0 w1 bQ.out bX.out B1 oU X
      have bC:Hid (k<n∧1≤su∧su≤247):=⟨ba,CP.out⟩
      clear fO oU hy w0 w1 f;cases B1 with
      |false=>
       go_upto_region 8 with(fail)
       go_quiet (fail);go_wp2;go_roundw
       case rel=>exact⟨i,u,k+1,by omega,rfl,rfl,by go_num,T,below_drewN ao.out _⟩
       case measure=>simp [intOf];omega
      |true=>
       go_upto_region 8 with(fail)
       go_quiet (fail);have yx:Below y5.heap.size y5 (wr.drewN nq):=below_drewN ao.out _;have u3:=e2 _ yx;clear u0 u1 u2 v0 v1 heq x0;generalize wr.drewN nq=wn at*;go_upto_region 9 with(fail)
       go_quiet (fail);go_wp2;go_roundw
       case rel=>exact⟨k,su,k+1,by omega,rfl,rfl,by go_num,bC.out,below_drewN yx _⟩
       case measure=>simp [intOf];omega
     ·obtain rfl:k=n:=by omega
      have b4:¬(k:Int)<(k:Int):=by omega
      have A:=XM.out _ f;clear e0 e1 e2 t0 f;go_upto_region 10 with(fail);refine wp_region_held_drew (S:=fun V=>Keeps (· =w.heap.size+2) (wr) V) (by kernel_rfl) (Keeps.af (Below.refl _ _).drew) (fun hH=>?_);clear hH;have hBD:Below (wr).heap.size (wr) (wr).drew:=(Below.refl _ _).drew;have hKD:Keeps (· =w.heap.size+2) (wr) (wr).drew:=Keeps.af hBD;refine tG 0 70 ?_;refine tG 1 71 ?_;refine tkD 2 72 (v:=.agg #[N O Q.fn,N O Q.addr,N O Q.aF,N O Q.code,N O Q.obj]) rfl (by kernel_rfl) (fun _ _ _ h=>h) rfl (by rfl) (by assumption) (fun Y hY=>run_load_rowT 45 (.tmp 7) rfl ⟨pb,0,J⟩ rfl #[N O Q.fn,N O Q.addr,N O Q.aF,N O Q.code,N O Q.obj] _ (HPQ.out Y ((Keeps.af A).trans hY (fun _ _ e=>e))) Tryz.underlying45 rfl infoRq5) ?_;simp only[setS];refine tG 3 4 ?_;refine tG 4 5 ?_;refine rdyH 5 rfl (fun K hK=>?_);refine step_storeW rfl 45 (.tmp 6) (.tmp 72) rfl (w.heap.size+2) 0 _ 45 #[N O Q.fn,N O Q.addr,N O Q.aF,N O Q.code,N O Q.obj] rfl rfl (hpKeep (hpKeep (hpKeep HPZ.out HBE.out) A) hBD) (by simp) infoRq5 rfl ?_;intro y9 g9 hk9 hz9;have hB9:Below w.heap.size w y9:=((HB3.out.trans ((bt HBE.out A (Nat.le_refl _)).mono HB3.out.size)).trans (hBD.mono (by have:=HB3.out.size;have:=HBE.out.size;have:=(A).size;omega))).trans (hk9.below (by have:=HB3.out.size;have:=HBE.out.size;have:=(A).size;have:=hBD.size;omega) (fun j hj e=>by have e':j=w.heap.size+2:=e;omega));refine hK.out _ _ (hKD.trans hk9 (fun _ _ e=>e)) (fun hSx=>?_);clear hK K hSx;refine wpAnyH_done (by kernel_rfl) ?_ _;have g9':y9.heap[w.heap.size+2]?=M (G #[N O Q.fn,N O Q.addr,N O Q.aF,N O Q.code,N O Q.obj] 45):=g9;have e0:=cG g9' 0 rfl;have e1:=cG g9' 1 rfl;have e2:=cG g9' 2 rfl;have e3:=cG g9' 3 rfl;have e4:=cG g9' 4 rfl;go_wp2;refine bodyPost_ret (v:=.tuple #[N O (i:Int),N O u,.agg #[N O Q.fn,N O Q.addr,N O Q.aF,N O Q.code,N O Q.obj]]) (by simp [results,Tryz.results15,go_sem,e0,e1,e2,e3,e4]) rfl ?_;exact⟨i,u,(T.out).1,(T.out).2,rfl,hB9⟩
   ·have g2:decide ((0:Int)<(ln:Int))=false:=decide_eq_false (by omega)
    have I:¬(0:Int)<(ln:Int):=by omega
    clear hm hl t0 t16 a0 ad ak;exact PO
  ·have g1:decide (0≤m)=false:=decide_eq_false hm
   clear hm t0 t16 a0 ad ak;exact PO
