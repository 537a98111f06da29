/-
 Texts 25 of the claim.
-/
import Derived.Test.YtoaoejaodhedaaaGreatE20
import Derived.Test.YtoaoejaodhedaaaGreatE24
import Derived.Test.YtoaoejaodhedaaaGreatE13
import Derived.Test.YtoaoejaodhedaaaGreatE08
import Derived.Test.YtoaoejaodhedaaaGreatE16
import Derived.Test.YtoaoejaodhedaaaGreatE14
import Derived.Test.YtoaoejaodhedaaaGreatE15
import Derived.Deep.CutRange
import Derived.Deep.CutBlock
import Derived.Test.YtoaoejaodhedaaaGreatE06
import Derived.Test.YtoaoejaodhedaaaGreatE10
namespace Go.Proofs.YtoaoejaodhedaaaGreat
open Go.RowKit
set_option maxHeartbeats 6400000
set_option maxRecDepth 100000
theorem run_load_rowT {P:Program} {ev:Operand→Value} {o:Oper} {w:World} (ty:TypeId) (x:Operand) (ho:o.op=.load ty x)
  (ad:Addr) (hx:ev x=.pointer (some ad)) (cs:Array Value) (d:TypeDesc) (hc:∀j v,cs.toList[j]?=some v→w.cell? (ad.add j)=some v)
  (hu:P.underlying ty=some d) (hd:(match d with|.struct _|.array _ _=>true|_=>false)=true) (hi:(P.info? ty).map (·.size)=some cs.size):
  (execOp ev o).run P w=.ok (.value (.agg cs)) w:=by
 unfold execOp
 simp only[ho,hx,Instr.loadAt,Instr.sureAddr,Sem.run_bind,Sem.run_pure,Result.andThen_ok,run_loadVar_at w ad ty cs d hc hu hd hi]
def flipL (f:List UInt8):List UInt8:=f.set (f.length-1) ((f.getD (f.length-1) 0)^^^255)
theorem flipL_len (f:List UInt8):(flipL f).length=f.length:=by unfold flipL;rw[List.length_set]
def ansF (l:List Sl) (x:Int):Int×Rq×List Nat→List UInt8
 |(_,_,[])=>[]
 |(u,q,j::ms)=>match l[j]? with
  |none=>[]
  |some s=>if ms=[] then frameOf u (s.ans q x) else flipL (frameOf u (s.ans q x))
def busAns (l:List Sl) (bd pa:Int) (f:List UInt8) (x:Int):Option (List UInt8):=(busDec l bd pa f).map (ansF l x)
def busBusy (l:List Sl) (bd pa:Int) (f:List UInt8):Option (List UInt8):=(busDec l bd pa f).map fun o=>if o.2.2.length=1 then frameOf o.1 (mkR o.2.1.fn 6 []) else ansF l 0 o
def AnPost (w:World) (o:Option (List UInt8)) (r:Ending) (w':World):Prop:=
 match o with
 |some f=>∃a c,r=.returned (.tuple #[.slice a f.length c,.bool true])∧w'.ownsRow w.heap.size 5 1 (.slice a f.length c) f.length (u8s f)∧Below w.heap.size w w'
 |none=>r=.returned (.tuple #[.slice none 0 0,.bool false])∧Below w.heap.size w w'
theorem pbans_any (la:Option Addr) (lc ln:Nat) (l:List Sl) (hl:l.length=ln) (hB:BusP l) (bd pa:Int) (f1:wfI bd) (f2:wfI pa) (fa:Option Addr) (fn fc:Nat) (f:List UInt8) (x:Int) (x0:0≤x) (x1:x≤65535) (w:World) (hL:Slvs w (.slice la ln lc) l) (hf:Bs w (.slice fa fn fc) f):
  Calls Tryz.prog 163 #[.slice la ln lc,.agg #[.int .i64 bd,.int .i64 pa],.slice fa fn fc,.int .i64 x] w (AnPost w (busAns l bd pa f x)):=by
 obtain⟨W1,hW1⟩:∃W,w.alloc (.cells #[.int .i64 bd,.int .i64 pa] 61)=W:=⟨_,rfl⟩
 have hb1:Below w.heap.size w W1:=by rw[←hW1];exact bal' w _
 have pS:W1.heap[w.heap.size]?=some (.cells #[.int .i64 bd,.int .i64 pa] 61):=by rw[←hW1];exact hpNew w _
 have s0:=hpCell pS 0
 have s1:=hpCell pS 1
 have HPS:=hid (pparse_any la lc ln l hl hB bd pa f1 f2 fa fn fc f W1 (hL.keep hb1) (hf.keep hb1))
 have HW1:=hid hW1
 have HB1:=hid hb1
 have HB:=hid hB
 have HL:=hid (hL.keep hb1)
 have HX:Hid (0≤x∧x≤65535):=⟨x0,x1⟩
 have HLN:=hid hl
 unfold busAns
 clear hW1 hb1 pS hB hL hf f1 f2 hl x0 x1
 cases ho:busDec l bd pa f with
 |none=>
  rw[ho] at HPS
  clear ho
  go_enter Tryz.func163,Tryz.ntmps163
  go_upto_region 1 with(fail)
  rw[HW1.out]
  go_wp2_with (go_at_call 185;(with_reducible refine HPS.out.mono ?_);rintro r w2 ⟨u2,f2,a2,n2,c2,o2,ma,mn,mc,rfl,hb2⟩)
  go_ret2
  exact⟨rfl,bta (bt HB1.out hb2 (Nat.le_refl _)) (Nat.le_refl _) _⟩
 |some o=>
  obtain⟨u,q,ms⟩:=o
  rw[ho] at HPS
  obtain⟨u1,u2,hqk,hms,hne⟩:=busDec_some ho
  clear ho
  cases ms with
  |nil=>exact absurd rfl hne
  |cons j rest=>
   have hjm:j∈memb l bd pa u l.length:=by rw[←hms];exact List.mem_cons_self
   obtain⟨s,hs,-⟩:=memb_mem hjm
   have hjn:j<ln:=by rw[←HLN.out];exact(List.getElem?_eq_some_iff.1 hs).1
   have hsv:s.val:=HB.out.2 s (List.mem_of_getElem? hs)
   obtain⟨ml,hml⟩:∃n,(j::rest).length=n:=⟨_,rfl⟩
   have HPS2:Hid (Calls Tryz.prog 185 #[.slice la ln lc,.agg #[.int .i64 bd,.int .i64 pa],.slice fa fn fc] W1 fun r w'=>∃a c,r=.returned (.tuple #[.int .i64 u,.agg #[.int .i64 q.fn,.int .i64 q.addr,.int .i64 q.qty,.int .i64 q.code,.int .i64 q.obj],.slice a ml c,.bool true])∧w'.ownsRow W1.heap.size 3 1 (.slice a ml c) ml ((j::rest).map fun i:Nat=>.int .i64 (i:Int))∧Below W1.heap.size W1 w'):=HPS.out.mono fun r w' h=>by
    obtain⟨a,c,h1,h2,h3⟩:=h
    rw[hml] at h1 h2
    exact⟨a,c,h1,h2,h3⟩
   have HML:Hid (ml=rest.length+1):=by show _=_;rw[←hml];rfl
   obtain⟨rp,hrp⟩:∃rp,s.ans q x=rp:=⟨_,rfl⟩
   have hok:rp.ok=true:=by rw[←hrp];exact Sl.ans_ok hsv hqk x
   obtain⟨F,hF⟩:∃F,frameOf u rp=F:=⟨_,rfl⟩
   have hFl:=frameOf_len u hok
   rw[hF] at hFl
   have HAN:Hid (Option.map (ansF l x) (some (u,q,j::rest))=some (if rest=[] then F else flipL F)):=by
    show some (ansF l x (u,q,j::rest))=_
    unfold ansF
    dsimp only
    rw[hs]
    dsimp only
    rw[hrp,hF]
   rw[HAN.out]
   obtain⟨FR,hFR⟩:∃FR,(if rest=[] then F else flipL F)=FR:=⟨_,rfl⟩
   rw[hFR]
   have HFR:=hid hFR
   clear hFR HAN
   have HSA:Hid (∀X rv ov sv,SlR X s rv ov sv→Calls Tryz.prog 187 #[.agg (SlC s rv ov sv),.agg #[.int .i64 q.fn,.int .i64 q.addr,.int .i64 q.qty,.int .i64 q.code,.int .i64 q.obj],.int .i64 x] X (RepPost X rp)):=fun X rv ov sv hR=>by rw[←hrp];exact panswer_ex s rv ov sv q x HX.out.1 HX.out.2 X hR hsv hqk
   have HBU:Hid (∀X da dc oa oc,RpIs X rp da dc oa oc→Calls Tryz.prog 186 #[.int .i64 u,.agg #[.int .i64 rp.fn,.int .i64 rp.exc,.slice da rp.data.length dc,.int .i64 rp.code,.int .i64 rp.level,.bool rp.more,.int .i64 rp.next,.slice oa rp.objs.length oc]] X (FrPost X F)):=fun X da dc oa oc hR=>by rw[←hF];exact pbuildf_any u u1 u2 rp hok da oa dc oc X hR
   have g1:decide (x<0)=false:=decide_eq_false (by have:=HX.out;omega)
   have g2:decide (65536≤x)=false:=decide_eq_false (by have:=HX.out;omega)
   have hj0:(0:Int)≤(j:Int):=Int.natCast_nonneg _
   have hjl:(j:Int)<(ln:Int):=by omega
   have hml0:(0:Int)<(ml:Int):=by have:=HML.out;omega
   have hml1:0<ml:=by have:=HML.out;omega
   have HS:=hid hs
   have HFL:=hid hFl
   clear HPS hml hrp hok hF hFl u1 u2 hqk hms hne hjm hs hsv hjn
   go_enter Tryz.func163,Tryz.ntmps163
   go_upto_region 1 with(fail)
   rw[HW1.out]
   go_upto_region 2 with(go_at_call 185;(with_reducible refine HPS2.out.mono ?_);rintro r w2 ⟨ma,mc,rfl,hown2,hb2⟩)
   obtain⟨W3,hW3⟩:∃W,w2.alloc (.cells #[.int .i64 q.fn,.int .i64 q.addr,.int .i64 q.qty,.int .i64 q.code,.int .i64 q.obj] 45)=W:=⟨_,rfl⟩
   have hb3:Below w2.heap.size w2 W3:=by rw[←hW3];exact bal' _ _
   have p3:W3.heap[w2.heap.size]?=some (.cells #[.int .i64 q.fn,.int .i64 q.addr,.int .i64 q.qty,.int .i64 q.code,.int .i64 q.obj] 45):=by rw[←hW3];exact hpNew _ _
   have hown3:W3.ownsRow W1.heap.size 3 1 (.slice ma ml mc) ml ((j::rest).map fun i:Nat=>.int .i64 (i:Int)):=own_keeps (F:=fun _=>False) hown2 (Keeps.of_below hb3) (fun _ _ e=>e)
   obtain⟨mg,cap,hv1,-,-,-⟩:=own_shapeR hown3 (by have:=HML.out;omega)
   simp only[Value.slice.injEq,true_and] at hv1
   obtain⟨rfl,rfl⟩:=hv1
   have hm0:W3.cell? ⟨mg,0,none⟩=some (.int .i64 (j:Int)):=by rw[hown3.cellAt 0 (by have:=HML.out;show 0<ml*1;omega)];rfl
   have hb13:Below W1.heap.size W1 W3:=bt hb2 hb3 (Nat.le_refl _)
   obtain⟨b,o,rv,ov,sv,rfl,hR,hc⟩:=(HL.out.keep hb13).at HS.out
   obtain⟨C,hC⟩:∃C,SlC s rv ov sv=C:=⟨_,rfl⟩
   have hi:(Tryz.prog.info? 68).map (·.size)=some C.size:=by rw[←hC];exact infoSL
   have HRW:Hid (∀X,Below W3.heap.size W3 X→∀k v,C.toList[k]?=some v→X.cell? ((⟨b,o+j*19,none⟩:Addr).add k)=some v):=fun X hX k v hk=>by
    have e:(⟨b,o+j*19,none⟩:Addr).add k=⟨b,o+j*19+k,none⟩:=by unfold Addr.add;split<;>simp_all
    rw[e]
    exact cell_keep hX (hc k v (by rw[hC];simpa using hk))
   have HSA2:Hid (∀X,Below W3.heap.size W3 X→Calls Tryz.prog 187 #[.agg C,.agg #[.int .i64 q.fn,.int .i64 q.addr,.int .i64 q.qty,.int .i64 q.code,.int .i64 q.obj],.int .i64 x] X (RepPost X rp)):=fun X hX=>by rw[←hC];exact HSA.out X rv ov sv (hR.keep hX)
   have c0:∀X,Below W3.heap.size W3 X→X.cell? ⟨mg,0,none⟩=some (.int .i64 (j:Int)):=fun X h=>cell_keep h hm0
   have r0:∀X,Below W3.heap.size W3 X→X.cell? ⟨w2.heap.size,0,none⟩=some (.int .i64 q.fn):=fun X h=>hpCell (hpKeep p3 h) 0
   have r1:∀X,Below W3.heap.size W3 X→X.cell? ⟨w2.heap.size,1,none⟩=some (.int .i64 q.addr):=fun X h=>hpCell (hpKeep p3 h) 1
   have r2:∀X,Below W3.heap.size W3 X→X.cell? ⟨w2.heap.size,2,none⟩=some (.int .i64 q.qty):=fun X h=>hpCell (hpKeep p3 h) 2
   have r3:∀X,Below W3.heap.size W3 X→X.cell? ⟨w2.heap.size,3,none⟩=some (.int .i64 q.code):=fun X h=>hpCell (hpKeep p3 h) 3
   have r4:∀X,Below W3.heap.size W3 X→X.cell? ⟨w2.heap.size,4,none⟩=some (.int .i64 q.obj):=fun X h=>hpCell (hpKeep p3 h) 4
   have HB03:Hid (Below w.heap.size w W3):=bt HB1.out hb13 (Nat.le_refl _)
   have HW3:=hid hW3
   have kD:Below W3.heap.size W3 W3.drew:=(Below.refl _ _).drew
   clear hW3 hb3 p3 hown2 hown3 hm0 hR hc hC hb13 hb2
   go_upto_region 4 with(fail)
   rw[HW3.out]
   refine wp_region_held_drew (S:=fun V=>Below W3.heap.size W3 V) (by kernel_rfl) kD (fun hH=>?_)
   clear hH
   refine tkE 0 34 rfl rfl ?_;simp only[setS]
   refine tkE 1 35 rfl rfl ?_;simp only[setS]
   refine tkE 2 36 rfl rfl ?_;simp only[setS]
   refine tkE 3 37 rfl rfl ?_;simp only[setS]
   refine tkE 4 38 rfl rfl ?_;simp only[setS]
   refine tkE 5 39 rfl rfl ?_;simp only[setS]
   refine tkD 6 40 (v:=.agg C) rfl (by kernel_rfl) (fun _ _ _ h=>h) rfl (by rfl) (by assumption) (fun X hX=>run_load_rowT 68 (.tmp 39) rfl ⟨b,o+j*19,none⟩ rfl C _ (HRW.out X hX) Tryz.underlying68 rfl hi) ?_;simp only[setS]
   refine tkE 7 41 rfl rfl ?_;simp only[setS]
   refine tkE 8 42 rfl rfl ?_;simp only[setS]
   refine rdyH 9 rfl (fun K hK=>?_);go_simp
   refine(HSA2.out _ kD).mono ?_
   rintro r w4 ⟨da,dc,oa,oc,rfl,hrd,hb4⟩
   have hB4:=bt kD hb4 (Nat.le_refl _)
   refine hK.out _ _ hB4 (fun hSx=>?_);clear hK K hSx
   refine rdyH 10 rfl (fun K hK=>?_);go_simp
   refine(HBU.out _ _ _ _ _ (hrd _ (Agree.refl _ _))).mono ?_
   rintro r w5 ⟨ba,bc,rfl,hown5,hb5⟩
   have hB5:=bt hB4 hb5 (Nat.le_refl _)
   refine hK.out _ _ hB5 (fun hSx=>?_);clear hK K hSx
   refine tkD 11 14 (v:=?_) rfl (by kernel_rfl) (fun _ _ _ h=>h) rfl (by rfl) (by assumption) ?_ ?_;rotate_left;(intro w hSw;(try dsimp only at hSw);(try go_simp);try rfl)
   refine wpAnyH_done (by kernel_rfl) ?_ _
   clear c0 r0 r1 r2 r3 r4
   have HBW:Hid (Below w.heap.size w w5):=bt HB03.out hB5 (Nat.le_refl _)
   have hz5:w.heap.size≤w4.heap.size:=by have:=HB03.out.size;have:=hB4.size;omega
   obtain⟨fl,hfl⟩:∃n,F.length=n:=⟨_,rfl⟩
   have HFN:=hid hfl
   have HOW:Hid (w5.ownsRow w.heap.size 5 1 (.slice ba fl bc) fl (u8s F)):=by have:=own_lower hown5 hz5;rw[hfl] at this;exact this
   rw[hfl]
   clear hown5 hz5 hrd hB4 hB5 kD
   have hfb:=HFL.out
   rw[hfl] at hfb
   clear hfl
   by_cases hr:rest=[]
   ·have HE:Hid (FR=F):=by show _=_;rw[←HFR.out,if_pos hr]
    have g3:decide ((1:Int)<(ml:Int))=false:=decide_eq_false (by have:=HML.out;rw[hr] at this;simp at this;omega)
    clear hr
    go_wp2
    go_ret2
    have e:=HFN.out
    subst e
    rw[HE.out]
    exact⟨ba,bc,rfl,HOW.out,HBW.out⟩
   ·have HE:Hid (FR=flipL F):=by show _=_;rw[←HFR.out,if_neg hr]
    have g3:decide ((1:Int)<(ml:Int))=true:=decide_eq_true (by have:=HML.out;have:=List.length_pos_iff.2 hr;omega)
    have g4:1<ml:=by have:=HML.out;have:=List.length_pos_iff.2 hr;omega
    clear hr
    have HOW2:=HOW
    obtain⟨g,cap,hv1,hg,-,-⟩:=own_shapeR HOW.out (by omega)
    simp only[Value.slice.injEq,true_and] at hv1
    obtain⟨rfl,rfl⟩:=hv1
    obtain⟨i,hi5⟩:∃i,fl=i+1:=⟨fl-1,by omega⟩
    have s9:IntKind.i64.wrap ((fl:Int)-1)=(i:Int):=(IntWalk.i64_in _ (by omega)).trans (by omega)
    have hi0:(0:Int)≤(i:Int):=Int.natCast_nonneg _
    have hil:(i:Int)<(fl:Int):=by omega
    have hcl:=ownb_cellZ HOW.out i (by omega)
    have hfz:=HOW.out.frozenAt i
    have hst:=(HOW.out.stored i (byteV ((F.getD i 0)^^^255))).1
    have hxb:=xor_byte (F.getD i 0)
    have HFF:Hid (flipL F=F.set i ((F.getD i 0)^^^255)):=by
     show _=_
     unfold flipL
     rw[HFN.out,hi5,Nat.add_sub_cancel]
    rw[u8s_setZ] at hst
    have HST:=hid hst
    have HXB:=hid hxb
    have HKS:Hid (∀v,Below w.heap.size w (w5.setCell ⟨g,i,none⟩ v)):=fun v=>HBW.out.trans ((ks1 (p:=g) (Keeps.refl _ _) i v).below HBW.out.size (fun j hj e=>by omega))
    clear hst hxb hi5
    go_wp2
    go_ret2
    have e:(flipL F).length=fl:=by rw[flipL_len,HFN.out]
    rw[HE.out]
    refine⟨some ⟨g,0,none⟩,bc,by rw[e]<;>rfl,?_,HKS.out _⟩
    rw[e,HFF.out]
    have hx:(Value.int .u8 (bits .xor .u8 ((((F[i]?.getD 0).toNat:Nat)):Int) 255))=byteV ((F.getD i 0)^^^255):=HXB.out
    rw[hx]
    exact HST.out
theorem ok_known {q:Rq} (h:q.ok=true):knownB q.fn=true:=by
 unfold knownB tblB
 rcases fn_cases h with⟨h1,h2⟩|h1|h1
 ·rw [decide_eq_true h1,decide_eq_true h2];rfl
 ·rw [h1];rfl
 ·rw [h1.1];rfl
theorem AnPost.up {w W:World} {o:Option (List UInt8)} {r:Ending} {w':World} (hb:Below w.heap.size w W) (h:AnPost W o r w'):AnPost w o r w':=by
 cases o with
 |none=>exact⟨h.1,bt hb h.2 (Nat.le_refl _)⟩
 |some f=>
  obtain⟨a,c,h1,h2,h3⟩:=h
  exact⟨a,c,h1,own_lower h2 hb.size,bt hb h3 (Nat.le_refl _)⟩
theorem AnPost.form {w:World} {o:Option (List UInt8)} {r:Ending} {w':World} (h:AnPost w o r w'):∃a n c B,r=.returned (.tuple #[.slice a n c,.bool B]):=by
 cases o with
 |none=>exact⟨none,0,0,false,h.1⟩
 |some f=>obtain⟨a,c,h1,-⟩:=h;exact⟨a,_,c,true,h1⟩
theorem pbbusy_any (la:Option Addr) (lc ln:Nat) (l:List Sl) (hl:l.length=ln) (hB:BusP l) (bd pa:Int) (f1:wfI bd) (f2:wfI pa) (fa:Option Addr) (fn fc:Nat) (f:List UInt8) (w:World) (hL:Slvs w (.slice la ln lc) l) (hf:Bs w (.slice fa fn fc) f):
  Calls Tryz.prog 162 #[.slice la ln lc,.agg #[.int .i64 bd,.int .i64 pa],.slice fa fn fc] w (AnPost w (busBusy l bd pa f)):=by
 obtain⟨W1,hW1⟩:∃W,w.alloc (.cells #[.int .i64 bd,.int .i64 pa] 61)=W:=⟨_,rfl⟩
 have hb1:Below w.heap.size w W1:=by rw[←hW1];exact bal' w _
 have pS:W1.heap[w.heap.size]?=some (.cells #[.int .i64 bd,.int .i64 pa] 61):=by rw[←hW1];exact hpNew w _
 have s0:∀X,Below W1.heap.size W1 X→X.cell? ⟨w.heap.size,0,none⟩=some (.int .i64 bd):=fun X h=>hpCell (hpKeep pS h) 0
 have s1:∀X,Below W1.heap.size W1 X→X.cell? ⟨w.heap.size,1,none⟩=some (.int .i64 pa):=fun X h=>hpCell (hpKeep pS h) 1
 have k0:Below W1.heap.size W1 W1:=Below.refl _ _
 have HPS:=hid (pparse_any la lc ln l hl hB bd pa f1 f2 fa fn fc f W1 (hL.keep hb1) (hf.keep hb1))
 have HAN:Hid (∀X,Below W1.heap.size W1 X→Calls Tryz.prog 163 #[.slice la ln lc,.agg #[.int .i64 bd,.int .i64 pa],.slice fa fn fc,.int .i64 0] X (AnPost X (busAns l bd pa f 0))):=fun X hX=>pbans_any la lc ln l hl hB bd pa f1 f2 fa fn fc f 0 (by decide) (by decide) X (hL.keep (bt hb1 hX (Nat.le_refl _))) (hf.keep (bt hb1 hX (Nat.le_refl _)))
 have HW1:=hid hW1
 have HB1:=hid hb1
 unfold busBusy
 unfold busAns at HAN
 clear hW1 hb1 pS hB hL hf f1 f2 hl
 cases ho:busDec l bd pa f with
 |none=>
  rw[ho] at HPS HAN
  clear ho
  go_enter Tryz.func162,Tryz.ntmps162
  go_upto_region 1 with(fail)
  rw[HW1.out]
  go_upto_region 2 with(go_at_call 185;(with_reducible refine HPS.out.mono ?_);rintro r w2 ⟨u2,f2,a2,n2,c2,o2,ma,mn,mc,rfl,hb2⟩)
  obtain⟨W3,hW3⟩:∃W,w2.alloc (.cells #[.int .i64 f2,.int .i64 a2,.int .i64 n2,.int .i64 c2,.int .i64 o2] 45)=W:=⟨_,rfl⟩
  have hb3:Below W1.heap.size W1 W3:=by rw[←hW3];exact bta hb2 (Nat.le_refl _) _
  rw[hW3]
  clear hW3
  go_wp2_with (go_at_call 163;(with_reducible refine(HAN.out _ hb3).mono ?_);rintro r w4 hp;obtain⟨ra,rn,rc,RB,rfl⟩:=hp.form;have HP:=hid hp;clear hp)
  go_ret2
  exact AnPost.up (bt HB1.out hb3 (Nat.le_refl _)) HP.out
 |some o=>
  obtain⟨u,q,ms⟩:=o
  rw[ho] at HPS HAN
  obtain⟨u1,u2,hqk,hms,hne⟩:=busDec_some ho
  clear ho hms
  obtain⟨ml,hml⟩:∃n,ms.length=n:=⟨_,rfl⟩
  have HPS2:Hid (Calls Tryz.prog 185 #[.slice la ln lc,.agg #[.int .i64 bd,.int .i64 pa],.slice fa fn fc] W1 fun r w'=>∃a c,r=.returned (.tuple #[.int .i64 u,.agg #[.int .i64 q.fn,.int .i64 q.addr,.int .i64 q.qty,.int .i64 q.code,.int .i64 q.obj],.slice a ml c,.bool true])∧Below W1.heap.size W1 w'):=HPS.out.mono fun r w' h=>by
   obtain⟨a,c,h1,h2,h3⟩:=h
   rw[hml] at h1
   exact⟨a,c,h1,h3⟩
  have hml0:0<ml:=by rw[←hml];exact List.length_pos_iff.2 hne
  obtain⟨FR,hFR⟩:∃FR,Option.map (fun o:Int×Rq×List Nat=>if o.2.2.length=1 then frameOf o.1 (mkR o.2.1.fn 6 []) else ansF l 0 o) (some (u,q,ms))=FR:=⟨_,rfl⟩
  rw[hFR]
  have hFR2:FR=some (if ml=1 then frameOf u (mkR q.fn 6 []) else ansF l 0 (u,q,ms)):=by rw[←hFR,←hml];rfl
  clear hFR
  by_cases h1:ml=1
  ·rw [if_pos h1] at hFR2
   obtain⟨rp,hrp⟩:∃rp,mkR q.fn 6 []=rp:=⟨_,rfl⟩
   have hok:rp.ok=true:=by rw[←hrp];exact mkR_ok (ok_known hqk) (by decide) (by decide)
   have HBU:Hid (∀X,Calls Tryz.prog 186 #[.int .i64 u,.agg #[.int .i64 q.fn,.int .i64 6,.slice none 0 0,.int .i64 0,.int .i64 0,.bool false,.int .i64 0,.slice none 0 0]] X (FrPost X (frameOf u rp))):=fun X=>by
    have h:=pbuildf_any u u1 u2 rp hok none none 0 0 X (by rw[←hrp];exact⟨Bs.nil X,Obs.nil X,(by show (0:Int)≤_;decide),(by show _≤(0:Int);decide)⟩)
    rw[←hrp] at h ⊢
    exact h
   rw[hrp] at hFR2
   have HFR:=hid hFR2
   have g3:decide ((1:Int)<(ml:Int))=false:=decide_eq_false (by omega)
   have g4:¬1<ml:=by omega
   clear HPS HAN hml hFR2 hrp hok u1 u2 hqk hne h1
   go_enter Tryz.func162,Tryz.ntmps162
   go_upto_region 1 with(fail)
   rw[HW1.out]
   go_upto_region 2 with(go_at_call 185;(with_reducible refine HPS2.out.mono ?_);rintro r w2 ⟨ma,mc,rfl,hb2⟩)
   go_wp2_with (go_at_call 186;(with_reducible refine(HBU.out _).mono ?_);rintro r w4 ⟨ba,bc,rfl,hown,hb4⟩)
   go_ret2
   rw[HFR.out]
   have hb3:Below W1.heap.size W1 _:=bta hb2 (Nat.le_refl _) (.cells #[.int .i64 q.fn,.int .i64 q.addr,.int .i64 q.qty,.int .i64 q.code,.int .i64 q.obj] 45)
   have h03:=bt HB1.out hb3 (Nat.le_refl _)
   exact⟨ba,bc,rfl,own_lower hown h03.size,bt h03 hb4 (Nat.le_refl _)⟩
  ·rw [if_neg h1] at hFR2
   have HFR:=hid hFR2
   have g3:decide ((1:Int)<(ml:Int))=true:=decide_eq_true (by omega)
   have g4:1<ml:=by omega
   clear HPS hml hFR2 u1 u2 hqk hne h1
   go_enter Tryz.func162,Tryz.ntmps162
   go_upto_region 1 with(fail)
   rw[HW1.out]
   go_upto_region 2 with(go_at_call 185;(with_reducible refine HPS2.out.mono ?_);rintro r w2 ⟨ma,mc,rfl,hb2⟩)
   obtain⟨W3,hW3⟩:∃W,w2.alloc (.cells #[.int .i64 q.fn,.int .i64 q.addr,.int .i64 q.qty,.int .i64 q.code,.int .i64 q.obj] 45)=W:=⟨_,rfl⟩
   have hb3:Below W1.heap.size W1 W3:=by rw[←hW3];exact bta hb2 (Nat.le_refl _) _
   rw[hW3]
   clear hW3
   go_wp2_with (go_at_call 163;(with_reducible refine(HAN.out _ hb3).mono ?_);rintro r w4 hp;obtain⟨ra,rn,rc,RB,rfl⟩:=hp.form;have HP:=hid hp;clear hp)
   go_ret2
   rw[HFR.out]
   exact AnPost.up (bt HB1.out hb3 (Nat.le_refl _)) HP.out
structure At where
 lat:Int
 fault:Int
 pos:Int
 mask:Int
 ticks:Int
 value:Int
def At.C (a:At):Array Value:=#[.int .i64 a.lat,.int .i64 a.fault,.int .i64 a.pos,.int .i64 a.mask,.int .i64 a.ticks,.int .i64 a.value]
def At.zero:At:=⟨0,0,0,0,0,0⟩
def At.ok (a:At):Prop:=0≤a.lat∧a.lat≤5000000∧0≤a.value∧a.value≤65535∧0≤a.ticks∧a.ticks≤5000000∧
  ((a.fault=0∨a.fault=1∨a.fault=2∨a.fault=5)∧a.pos=0∧a.mask=0∧a.ticks=0∨
   a.fault=3∧0≤a.pos∧a.pos≤255∧1≤a.mask∧a.mask≤65535∧a.mask%256≠0∧a.ticks=0∨
   a.fault=4∧a.pos=0∧a.mask=0∨
   a.fault=6∧1≤a.pos∧a.pos≤255∧a.mask=0)
theorem At.ok_mk (lat fault pos mask ticks value:Int):(At.mk lat fault pos mask ticks value).ok↔(0≤lat∧lat≤5000000∧0≤value∧value≤65535∧0≤ticks∧ticks≤5000000∧
  ((fault=0∨fault=1∨fault=2∨fault=5)∧pos=0∧mask=0∧ticks=0∨
   fault=3∧0≤pos∧pos≤255∧1≤mask∧mask≤65535∧mask%256≠0∧ticks=0∨
   fault=4∧pos=0∧mask=0∨
   fault=6∧1≤pos∧pos≤255∧mask=0)):=Iff.rfl
def AtPost (w:World) (a:At) (r:Ending) (w':World):Prop:=∃V:Bool,r=.returned (.bool V)∧Hid (V=true↔a.ok)∧Below w.heap.size w w'
theorem AtPost.no {w w':World} {a:At} (h:¬a.ok) (hb:Below w.heap.size w w'):AtPost w a (.returned (.bool false)) w':=⟨false,rfl,⟨fun e=>(by cases e),fun e=>absurd e h⟩,hb⟩
theorem AtPost.yes {w w':World} {a:At} (h:a.ok) (hb:Below w.heap.size w w'):AtPost w a (.returned (.bool true)) w':=⟨true,rfl,⟨fun _=>h,fun _=>rfl⟩,hb⟩
theorem infoAT:(Tryz.prog.info? 70).map (·.size)=some 6:=by kernel_rfl
end Go.Proofs.YtoaoejaodhedaaaGreat
