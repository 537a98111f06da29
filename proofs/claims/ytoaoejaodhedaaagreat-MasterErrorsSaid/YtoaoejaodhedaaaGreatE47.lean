import Derived.Test.YtoaoejaodhedaaaGreatE46
namespace Go.Proofs.YtoaoejaodhedaaaGreat
open Go.RowKit
set_option maxHeartbeats 12800000
set_option maxRecDepth 100000
theorem LnS.mono {P Q:Nat→Prop} {W:World} {g:Nat} {sv av:Value} {lp:Bool} {s:Ln} {tv pv:Value} {cs:List Value} (h:LnS P W g sv av lp s tv pv cs) (hq:∀j,P j→Q j) (hl:∀j,Q j→j<W.heap.size):LnS Q W g sv av lp s tv pv cs:=
 ⟨h.at_,hq g h.pg,hl,h.sn,fun j hj=>⟨(h.tb j hj).1,hq j (h.tb j hj).2⟩,h.pn.mono (fun j hj=>⟨hj.1,hj.2.1,hq j hj.2.2⟩),
  CsL.mono (fun r y hy=>SnQ.keeps (Keeps.refl (fun _=>False) W) (fun _ _ e=>e.elim) (fun j _ e=>by
   rcases e with e|e|e|e
   ·exact .inl e
   ·exact .inr (.inl e)
   ·exact .inr (.inr (.inl e))
   ·exact .inr (.inr (.inr (fun hp=>e (hq j hp))))) r y hy) _ _ h.sc⟩
theorem LnS.more {P:Nat→Prop} {W1 wr X3 w7:World} {g:Nat} {sv av:Value} {lp:Bool} {s:Ln} {l:List Ch} {tv pv v7:Value} {cs:List Value} (h:LnS (GrowP P W1 wr) wr g sv av lp {s with pend:=l} tv pv cs) (hp:∀j,P j→j<W1.heap.size) (h1:Keeps P W1 wr) (hb:Below wr.heap.size wr X3) (x:Ch)
  (hn:PnR (GrowP (fun j=>pv.ownBlock=some j) X3 w7) w7 v7 (l++[x])) (hk:Keeps (fun j=>pv.ownBlock=some j) X3 w7):
  LnS (GrowP P W1 (w7.setCell ⟨g,5,none⟩ v7)) (w7.setCell ⟨g,5,none⟩ v7) g sv av lp {s with pend:=l++[x]} tv v7 cs∧Keeps P W1 (w7.setCell ⟨g,5,none⟩ v7):=by
 have h3:=h.keepB hb
 have hg3:g<X3.heap.size:=hpLt h3.at_
 have hgp:¬pv.ownBlock=some g:=fun e=>(h3.pn.blk g e).1 rfl
 have hks:Keeps (fun j=>j=g) w7 (w7.setCell ⟨g,5,none⟩ v7):=(Keeps.refl _ _).set _ _ rfl
 have hkk:Keeps (fun j=>j=g∨pv.ownBlock=some j) X3 (w7.setCell ⟨g,5,none⟩ v7):=(hk.mono (fun _ _ e=>.inr e)).trans (hks.mono (fun _ _ e=>.inl e)) (fun _ _ e=>e)
 have hz:(w7.setCell ⟨g,5,none⟩ v7).heap.size=w7.heap.size:=by simp
 have z3:=hb.size
 have z7:=hk.size
 have z1:=h1.size
 obtain⟨a1,a2⟩:=h3.chg (s':={s with pend:=l++[x]}) hkk (hpSet (kU h3.at_ hk hgp) 5 v7) rfl ((hn.keeps hks (fun j hj e=>by
  rcases hj with e2|e2
  ·rw [e] at e2;exact hgp e2
  ·omega)).mono (fun j hj=>by rw[hz];exact hj))
 refine⟨a1.mono (fun j hj=>?_) (fun j hj=>hj.lt hp (by omega)),(h1.trans (Keeps.of_below (F:=fun _=>False) hb) (fun _ _ e=>e.elim)).trans a2 (fun i hi e=>?_)⟩
 ·rcases hj with(e|⟨e,e2⟩)|⟨e,e2⟩
  ·exact .inl e
  ·exact .inr ⟨e,by omega⟩
  ·exact .inr ⟨by omega,e2⟩
 ·rcases e with e|⟨e,_⟩
  ·exact e
  ·omega
def RcPost (P:Nat→Prop) (w:World) (g:Nat) (sv av:Value) (lp:Bool) (s:Ln) (tv:Value) (cs:List Value) (r:Ending) (w':World):Prop:=r=.returned (.tuple #[])∧(∃pv,LnS (GrowP P w w') w' g sv av lp s tv pv cs)∧Keeps P w w'
theorem z46_1 {p:Prop} (h:p:=by
 have hr3:Below wr.heap.size wr X3:=(HBC.out.trans (hB6.mono HBC.out.size)).trans (hb3.mono (by have:=HBC.out.size;have:=hB6.size;omega));have hL3:=HL.out.keepB hr3;refine rdyH 12 rfl (fun K hK=>?_);refine step_appPn rfl (.tmp 44) (.tmp 51) rfl rfl hL3.pn.own' (Ch.mk T (xb.toNat:Int) 0 C) ⟨w6.heap.size,0,none⟩ 1 rfl (fun j u hj=>rowAtW n3 j u hj) (by have:=HLB.out;simp only[List.length_append,chsN_len];omega) ?_;intro v7 w7 hn7 hk7;obtain⟨a7,c7,e7v,-⟩:=hn7.len;obtain⟨n7,hn7l⟩:∃n,(s.pend++chsN C st at_ rl k++[(Ch.mk T (xb.toNat:Int) 0 C)]).length=n:=⟨_,rfl⟩;rw[hn7l] at e7v;clear hn7l;subst e7v;have hgp:¬(Value.slice pa5 pn5 pc5).ownBlock=some g:=(fun e=>(hL3.pn.blk g e).1 rfl);have hS7:=kU kS3 hk7 (fun e=>by have h1:=(hL3.pn.blk _ e).2.2;exact HNB.out h1);have hg7:=kU hL3.at_ hk7 hgp;go_simp;refine hK.out _ _ hS7 (fun hSg=>?_);clear hK K;refine tkE 13 53 rfl rfl ?_;simp only[setS];refine tkE 14 54 rfl rfl ?_;simp only[setS];have e7:w7.cell? ⟨g,5,none⟩=some (.slice pa5 pn5 pc5):=cP hg7 5;have f7:w7.frozen? ⟨g,5,none⟩=false:=hpFree hg7 5;refine rdyH 15 rfl (fun K hK=>?_);go_simp;refine hK.out _ _ ((hpOther (by have:=HGN.out;omega)).trans hS7) (fun hSh=>?_);clear hK K;refine wpAnyH_done (by kernel_rfl) ?_ _;have HN7:=hid (HL.out.more HP.out HK1.out hr3 (Ch.mk T (xb.toNat:Int) 0 C) hn7 hk7);go_wp2;go_roundw;(case rel=>(refine⟨k+1,.slice a7 n7 c7,(by have:=HLT.out;omega),(by go_num),?_,HN7.out.2⟩;show LnS _ _ _ _ _ _ _ _ _ _;rw[chsN_succ,HCA.out,←List.append_assoc];exact HN7.out.1));(case measure=>(have:=HLT.out;simp [intOf];omega))):p:=h
theorem recv_any {P:Nat→Prop} {w:World} {g:Nat} {sv av:Value} {lp:Bool} {s:Ln} {tv pv:Value} {cs:List Value} (h:LnS P w g sv av lp s tv pv cs) (hok:s.ok) (bd pa:Int) (hset:Hid (Okset bd pa)) (ra:Option Addr) (rn rc:Nat) (rl:List UInt8) (hr:∀X,Keeps P w X→Bs X (.slice ra rn rc) rl) (hrl:rn≤256) (st:Int) (st0:0≤st) (st1:st≤topT+12400000)
  (at_:At) (ha:at_.ok) (hm:s.pend.length≤90000000):
  Calls Tryz.prog 126 #[.pointer (some ⟨g,0,none⟩),.agg #[.int .i64 bd,.int .i64 pa],.slice ra rn rc,.int .i64 st,.agg at_.C] w (RcPost P w g sv av lp {s with pend:=(chsN (charT bd) st at_ rl rl.length).foldl putL s.pend} tv cs):=by
 have hrn:rl.length=rn:=(hr w (Keeps.refl _ _)).capOf.1
 obtain⟨lat,hlat⟩:∃x,at_.lat=x:=⟨_,rfl⟩
 obtain⟨fault,hfault⟩:∃x,at_.fault=x:=⟨_,rfl⟩
 obtain⟨pos,hpos⟩:∃x,at_.pos=x:=⟨_,rfl⟩
 obtain⟨mask,hmask⟩:∃x,at_.mask=x:=⟨_,rfl⟩
 obtain⟨ticks,hticks⟩:∃x,at_.ticks=x:=⟨_,rfl⟩
 obtain⟨value,hvalue⟩:∃x,at_.value=x:=⟨_,rfl⟩
 have hAC:at_.C=#[.int .i64 lat,.int .i64 fault,.int .i64 pos,.int .i64 mask,.int .i64 ticks,.int .i64 value]:=by unfold At.C;rw[hlat,hfault,hpos,hmask,hticks,hvalue]
 obtain⟨q1,q2,q3,q4,q5,q6⟩:=At.ok_bd ha
 rw[hticks] at q5 q6
 obtain⟨t1,t2,-⟩:=time_bd hset.out
 obtain⟨C,hC⟩:∃C,charT bd=C:=⟨_,rfl⟩
 rw[hC] at t1 t2
 have HCH:Hid (∀W,Calls Tryz.prog 128 #[.agg #[.int .i64 bd,.int .i64 pa]] W fun r w'=>r=.returned (.int .i64 C)∧Below W.heap.size W w'):=fun W=>by rw[←hC];exact char_ok bd pa hset W
 rw[hAC,hC,hrn]
 obtain⟨W1,hW1⟩:∃W,(w.alloc (.cells #[.int .i64 bd,.int .i64 pa] 61)).alloc (.cells #[.int .i64 lat,.int .i64 fault,.int .i64 pos,.int .i64 mask,.int .i64 ticks,.int .i64 value] 70)=W:=⟨_,rfl⟩
 have hb1:Below w.heap.size w W1:=by rw[←hW1];exact bta (bal' w _) (Nat.le_refl _) _
 have hz1:W1.heap.size=w.heap.size+2:=by rw[←hW1];simp
 have pS:W1.heap[w.heap.size]?=some (.cells #[.int .i64 bd,.int .i64 pa] 61):=by rw[←hW1];exact kP (hpNew w _) (bal' _ _)
 obtain⟨ab,hab⟩:∃n,w.heap.size+1=n:=⟨_,rfl⟩
 have pA:W1.heap[ab]?=some (.cells #[.int .i64 lat,.int .i64 fault,.int .i64 pos,.int .i64 mask,.int .i64 ticks,.int .i64 value] 70):=by
  rw[←hab,←hW1]
  have:=hpNew (w.alloc (.cells #[.int .i64 bd,.int .i64 pa] 61)) (.cells #[.int .i64 lat,.int .i64 fault,.int .i64 pos,.int .i64 mask,.int .i64 ticks,.int .i64 value] 70)
  simpa using this
 obtain⟨sb,hsb⟩:∃n,w.heap.size=n:=⟨_,rfl⟩
 have HPL:Hid (∀j,P j→j<sb):=fun j hj=>by rw[←hsb];exact h.pl j hj
 have HP:Hid (∀j,P j→j<W1.heap.size):=fun j hj=>by have:=h.pl j hj;omega
 have HL0:Hid (LnS (GrowP P W1 W1) W1 g sv av lp {s with pend:=s.pend++chsN C st at_ rl 0} tv pv cs):=by
  show LnS _ _ _ _ _ _ _ _ _ _
  have e:s.pend++chsN C st at_ rl 0=s.pend:=List.append_nil _
  rw[e]
  exact(h.keepB hb1).mono (fun j hj=>.inl hj) (fun j hj=>hj.lt (fun j hj=>by have:=h.pl j hj;omega) (Nat.le_refl _))
 have HRB:Hid (∀X,Keeps P W1 X→Bs X (.slice ra rn rc) rl):=fun X hX=>hr X ((Keeps.of_below (F:=P) hb1).trans hX (fun _ _ e=>e))
 have HNS:Hid (¬P sb):=fun e=>by have:=HPL.out sb e;omega
 have HNA:Hid (¬P ab):=fun e=>by have:=HPL.out ab e;omega
 have HST:Hid (0≤st∧st≤topT+12400000):=⟨st0,st1⟩
 have HLB:Hid (s.pend.length≤90000000∧rn≤256):=⟨hm,hrl⟩
 have HTK:Hid (0≤ticks∧ticks≤5000000):=⟨q5,q6⟩
 have HCB:Hid (96≤C∧C≤9167):=⟨t1,t2⟩
 have HAT:Hid (∀i x,chAt C st at_ i x=⟨st+((i:Int)+1)*C+(if fault=6∧pos≤(i:Int) then ticks else 0),(x.toNat:Int),0,C⟩):=fun i x=>by unfold chAt;rw[hfault,hpos,hticks]
 have HGN:Hid (g<sb∧sb<W1.heap.size∧ab<W1.heap.size∧sb<ab):=by
  have:=hpLt h.at_
  show _∧_∧_∧_
  omega
 have HB1:=hid hb1
 have HPS:Hid (W1.heap[sb]?=some (.cells #[.int .i64 bd,.int .i64 pa] 61)):=by rw[←hsb];exact pS
 have HPA:=hid pA
 have HW1:=hid hW1
 have HSB:=hid (And.intro hsb hab)
 have HOK:=hid hok
 clear h hok hset hr hrl st0 st1 ha hm hrn hAC q1 q2 q3 q4 q5 q6 t1 t2 hC hb1 hz1 pS pA hW1 hsb hab hlat hfault hpos hmask hticks hvalue
 go_enter Tryz.func126,Tryz.ntmps126
 go_upto_region 1 with(fail)
 rw[HW1.out,HSB.out.2,HSB.out.1]
 go_upto_region 2 with(fail)
 go_loopw [15] (fun kv wr=>∃(k:Nat) (pv:Value),k≤rn∧kv=.int .i64 (k:Int)∧Hid (LnS (GrowP P W1 wr) wr g sv av lp {s with pend:=s.pend++chsN C st at_ rl k} tv pv cs)∧Hid (Keeps P W1 wr)) (fun kv _=>rn- (intOf kv).toNat)
 case atStart=>exact⟨0,pv,Nat.zero_le _,rfl,HL0.out,Keeps.refl _ _⟩
 case round=>
  clear HL0
  obtain⟨k,pv,hk,rfl,HL,HK1⟩:=hrel
  have hk0:(0:Int)≤(k:Int):=Int.natCast_nonneg _
  obtain⟨pa5,pc5,epv,-⟩:=HL.out.pn.len
  obtain⟨pn5,hpn5⟩:∃n,(s.pend++chsN C st at_ rl k).length=n:=⟨_,rfl⟩
  rw[show ({s with pend:=s.pend++chsN C st at_ rl k}:Ln).pend.length=pn5 from hpn5] at epv
  subst epv
  by_cases hlt:k<rn
  ·obtain ⟨b,o,rfl,hbc⟩:=(HRB.out wr HK1.out).byte hlt
   obtain⟨xb,hxb⟩:∃x,rl.getD k 0=x:=⟨_,rfl⟩
   rw[hxb] at hbc
   have hkl:(k:Int)<(rn:Int):=by omega
   obtain⟨k1,hk1⟩:∃x,k+1=x:=⟨_,rfl⟩
   obtain⟨z1,z2⟩:=HLB.out
   have s1:IntKind.i64.wrap ((k:Int)+1)=(k1:Int):=(IntWalk.i64_in _ (by omega)).trans (by omega)
   obtain⟨m,hm⟩:∃x:Int,(k1:Int)*C=x:=⟨_,rfl⟩
   obtain⟨c1,c2⟩:=HCB.out
   have m0:0≤m:=by rw[←hm];exact Int.mul_nonneg (by omega) (by omega)
   have m1:m≤256*9167:=by rw[←hm];exact Int.mul_le_mul (by omega) c2 (by omega) (by omega)
   have s2:IntKind.i64.wrap ((k1:Int)*C)=m:=by rw[hm];exact IntWalk.i64_in _ (by omega)
   obtain⟨y0,y1⟩:=HST.out
   have etop:topT=1152921504606846976:=rfl
   rw[etop] at y1
   obtain⟨z,hz⟩:∃z,st+m=z:=⟨_,rfl⟩
   have s3:IntKind.i64.wrap (st+m)=z:=(IntWalk.i64_in _ (by omega)).trans hz
   obtain⟨u0,u1⟩:=HTK.out
   obtain⟨zt,hzt⟩:∃x,z+ticks=x:=⟨_,rfl⟩
   have s4:IntKind.i64.wrap (z+ticks)=zt:=(IntWalk.i64_in _ (by omega)).trans hzt
   obtain⟨T,hT⟩:∃T,(if fault=6∧pos≤(k:Int) then zt else z)=T:=⟨_,rfl⟩
   have HCA:Hid (chAt C st at_ k (rl.getD k 0)=⟨T,(xb.toNat:Int),0,C⟩):=by
    show _=_
    have e1:((k:Int)+1)*C=m:=by rw[←hm,←hk1];rfl
    rw[HAT.out,hxb,e1,hz,←hT]
    split
    ·rw [hzt]
    ·rw [Int.add_zero]
   have hkm:k≤256:=by omega
   have HT:=hid hT
   have HLT:=hid hlt
   have p1:=kU HPS.out HK1.out HNS.out
   have p2:=kU HPA.out HK1.out HNA.out
   have x0:∀X,Below wr.heap.size wr X→X.cell? ⟨sb,0,none⟩=some (.int .i64 bd):=fun X h=>cP (kP p1 h) 0
   have x1:∀X,Below wr.heap.size wr X→X.cell? ⟨sb,1,none⟩=some (.int .i64 pa):=fun X h=>cP (kP p1 h) 1
   have a1:∀X,Below wr.heap.size wr X→X.cell? ⟨ab,1,none⟩=some (.int .i64 fault):=fun X h=>cP (kP p2 h) 1
   have a2:∀X,Below wr.heap.size wr X→X.cell? ⟨ab,2,none⟩=some (.int .i64 pos):=fun X h=>cP (kP p2 h) 2
   have a4:∀X,Below wr.heap.size wr X→X.cell? ⟨ab,4,none⟩=some (.int .i64 ticks):=fun X h=>cP (kP p2 h) 4
   have kr:Below wr.heap.size wr wr:=Below.refl _ _
   have HP1:=hid p1
   clear hxb hlt hm m0 m1 c1 c2 y0 y1 etop hz u0 u1 hzt hT z1 z2 p1 p2 hk1
   obtain⟨B,hB⟩:∃B:Bool,(B=true↔fault=6∧pos≤(k:Int)):=bool_is
   have HBB:=hid hB
   clear hB
   go_upto_region 5 with(go_at_call 128;(with_reducible refine(HCH.out _).mono ?_);rintro r wc ⟨rfl,hbc6⟩)
   have HBC:=hid hbc6
   have a1':=a1 _ hbc6
   have a2':=a2 _ hbc6
   have a4':=a4 _ hbc6
   clear hbc6 x0 x1 a1 a2 a4 kr s1 s2 s3
   go_cut [35] from 27 to 35 (fun s35 wd=>s35=.bool B∧wc=wd)
   case first=>
    by_cases h6:fault=6
    ·have e6:(fault==6)=true:=b1 h6
     by_cases hp:pos≤(k:Int)
     ·have HTE:Hid (B=true):=HBB.out.2 ⟨h6,hp⟩
      clear h6
      go_wp2
      go_meet
      case rel=>exact⟨by rw[HTE.out],rfl⟩
     ·have HTE:Hid (B=false):=by cases B with
       |false=>rfl
       |true=>exact absurd (HBB.out.1 rfl).2 hp
      have hp2:decide (pos≤(k:Int))=false:=dF hp
      clear h6
      go_wp2
      go_meet
      case rel=>exact⟨by rw[HTE.out],rfl⟩
    ·have e6:(fault==6)=false:=b0 h6
     have HTE:Hid (B=false):=by cases B with
      |false=>rfl
      |true=>exact absurd (HBB.out.1 rfl).1 h6
     clear h6
     go_wp2
     go_meet
     case rel=>exact⟨by rw[HTE.out],rfl⟩
   case rest=>
   obtain⟨rfl,hwc⟩:=hcut
   subst hwc
   have HTB:Hid ((if B=true then zt else z)=T):=by
    show _=_
    rw[←HT.out]
    cases B with
    |true=>rw[if_pos rfl,if_pos (HBB.out.1 rfl)]
    |false=>rw[if_neg (by decide),if_neg (fun h=>by have:=HBB.out.2 h;cases this)]
   clear a1' a2' HBB HT
   go_upto_if 35 with(fail)
   go_cut [12] from 35 to 39 (fun s12 wd=>s12=.int .i64 T∧wc=wd)
   case first=>
    cases B with
    |true=>
     have HTE:Hid (zt=T):=HTB.out
     clear HTB
     go_wp2
     go_meet
     case rel=>exact⟨by rw[HTE.out],rfl⟩
    |false=>
     have HTE:Hid (z=T):=HTB.out
     clear HTB
     go_wp2
     go_meet
     case rel=>exact⟨by rw[HTE.out],rfl⟩
   case rest=>
   obtain⟨rfl,hwc⟩:=hcut
   subst hwc
   clear HTB a4' s4
   have HS5:=hid (kP HP1.out HBC.out)
   have y0:∀X:World,X.heap[sb]?=some (.cells #[.int .i64 bd,.int .i64 pa] 61)→X.cell? ⟨sb,0,none⟩=some (.int .i64 bd):=fun X h=>cP h 0
   have y1:∀X:World,X.heap[sb]?=some (.cells #[.int .i64 bd,.int .i64 pa] 61)→X.cell? ⟨sb,1,none⟩=some (.int .i64 pa):=fun X h=>cP h 1
   have HGL:=hid (kP HL.out.at_ HBC.out)
   have kD:Below wc.heap.size wc wc.drew:=(Below.refl _ _).drew
   have kS:wc.drew.heap[sb]?=some (.cells #[.int .i64 bd,.int .i64 pa] 61):=kP HS5.out kD
   have d0:wc.drew.cell? ⟨g,5,none⟩=some (.slice pa5 pn5 pc5):=cP (kP HGL.out kD) 5
   have HNB:Hid (¬GrowP P W1 wr sb):=fun e=>by
    rcases e with e|e
    ·exact HNS.out e
    ·have:=HGN.out;omega
   go_upto_region 7 with(fail)
   refine wp_region_held_drew (S:=fun V=>V.heap[sb]?=some (.cells #[.int .i64 bd,.int .i64 pa] 61)) (by kernel_rfl) kS (fun hH=>?_)
   clear hH
   refine tkE 0 40 rfl rfl ?_;simp only[setS]
   refine tkE 1 41 rfl rfl ?_;simp only[setS]
   refine tkE 2 42 rfl rfl ?_;simp only[setS]
   refine tkE 3 43 rfl rfl ?_;simp only[setS]
   refine tkE 5 45 rfl rfl ?_;simp only[setS]
   refine tkE 6 46 rfl rfl ?_;simp only[setS]
   refine tkE 7 47 rfl rfl ?_;simp only[setS]
   refine tkE 8 48 rfl rfl ?_;simp only[setS]
   refine wpAnyH_ready (rs:=[4,9]) (by kernel_rfl) (by simp) ?_
   refine AllReadyH.cons rfl (fun K hK=>?_) (AllReadyH.cons rfl (fun K hK=>?_) AllReadyH.nil)
   ·go_simp
    refine hK.out _ _ kS (fun hSx=>?_);clear hK K hSx
    refine rdyH 9 rfl (fun K hK=>?_);go_simp
    refine(HCH.out _).mono ?_;rintro r w6 ⟨rfl,hb6⟩;have hB6:Below wc.heap.size wc w6:=bU kD hb6;have kS6:=kP HS5.out hB6;refine hK.out _ _ kS6 (fun hSx=>?_);clear hK K hSx
    refine tkE 10 50 rfl rfl ?_;simp only[setS]
    refine rdyH 11 rfl (fun K hK=>?_);go_simp
    obtain⟨X3,hX3⟩:∃X,w6.alloc (.cells #[.int .i64 T,.int .u8 (xb.toNat:Int),.int .i64 0,.int .i64 C] 174)=X:=⟨_,rfl⟩;have hb3:Below w6.heap.size w6 X3:=(by rw[←hX3];exact bal' _ _);have n3:X3.heap[w6.heap.size]?=some (.cells #[.int .i64 T,.int .u8 (xb.toNat:Int),.int .i64 0,.int .i64 C] 174):=(by rw[←hX3];exact hpNew _ _);rw[hX3];have kS3:=kP kS6 hb3;clear hX3;refine hK.out _ _ kS3 (fun hSx=>?_);clear hK K hSx
    exact z46_1
   ·go_simp
    refine(HCH.out _).mono ?_;rintro r w6 ⟨rfl,hb6⟩;have hB6:Below wc.heap.size wc w6:=bU kD hb6;have kS6:=kP HS5.out hB6;refine hK.out _ _ kS6 (fun hSx=>?_);clear hK K hSx
    refine tkE 10 50 rfl rfl ?_;simp only[setS]
    refine wpAnyH_ready (rs:=[4,11]) (by kernel_rfl) (by simp) ?_
    refine AllReadyH.cons rfl (fun K hK=>?_) (AllReadyH.cons rfl (fun K hK=>?_) AllReadyH.nil)
    ·have d6:w6.cell? ⟨g,5,none⟩=some (.slice pa5 pn5 pc5):=cP (kP HGL.out hB6) 5
     go_simp
     refine hK.out _ _ kS6 (fun hSx=>?_);clear hK K hSx
     refine rdyH 11 rfl (fun K hK=>?_);go_simp
     obtain⟨X3,hX3⟩:∃X,w6.alloc (.cells #[.int .i64 T,.int .u8 (xb.toNat:Int),.int .i64 0,.int .i64 C] 174)=X:=⟨_,rfl⟩;have hb3:Below w6.heap.size w6 X3:=(by rw[←hX3];exact bal' _ _);have n3:X3.heap[w6.heap.size]?=some (.cells #[.int .i64 T,.int .u8 (xb.toNat:Int),.int .i64 0,.int .i64 C] 174):=(by rw[←hX3];exact hpNew _ _);rw[hX3];have kS3:=kP kS6 hb3;clear hX3;refine hK.out _ _ kS3 (fun hSx=>?_);clear hK K hSx
     exact z46_1
    ·go_simp
     obtain⟨X3,hX3⟩:∃X,w6.alloc (.cells #[.int .i64 T,.int .u8 (xb.toNat:Int),.int .i64 0,.int .i64 C] 174)=X:=⟨_,rfl⟩;have hb3:Below w6.heap.size w6 X3:=(by rw[←hX3];exact bal' _ _);have n3:X3.heap[w6.heap.size]?=some (.cells #[.int .i64 T,.int .u8 (xb.toNat:Int),.int .i64 0,.int .i64 C] 174):=(by rw[←hX3];exact hpNew _ _);rw[hX3];have kS3:=kP kS6 hb3;clear hX3;refine hK.out _ _ kS3 (fun hSx=>?_);clear hK K hSx
     have d6:X3.cell? ⟨g,5,none⟩=some (.slice pa5 pn5 pc5):=cP (kP HGL.out (bU hB6 hb3)) 5
     refine rdyH 4 rfl (fun K hK=>?_);go_simp
     refine hK.out _ _ kS3 (fun hSx=>?_);clear hK K hSx
     exact z46_1
  ·obtain rfl:k=rn:=by omega
   have y5:wr.cell? ⟨g,5,none⟩=some (.slice pa5 pn5 pc5):=cP HL.out.at_ 5
   have HSO:=hid (sort_pn HL.out.pn HOK.out.asc (by rw[List.length_append,chsN_len];have:=HLB.out;omega))
   clear hlt hpn5 hk hk0
   go_wp2_with (go_at_call 159;(with_reducible refine HSO.out.mono ?_);rintro r w2 ⟨rfl,hp2,hk2⟩;have HP2:=hid hp2;have HK2:=hid hk2;clear hp2 hk2)
   go_end0
   have hgp:¬(Value.slice pa5 pn5 pc5).ownBlock=some g:=fun e=>(HL.out.pn.blk g e).1 rfl
   obtain⟨a1,a2⟩:=HL.out.chg (s':={s with pend:=(chsN C st at_ rl k).foldl putL s.pend}) (HK2.out.mono (fun _ _ e=>.inr e)) (kU HL.out.at_ HK2.out hgp) rfl (HP2.out.mono (fun j hj=>.inl hj))
   have hkw:Keeps P w w2:=((Keeps.of_below (F:=P) HB1.out).trans HK1.out (fun _ _ e=>e)).trans a2 (fun i hi e=>by
    rcases e with e|e
    ·exact e
    ·have:=HB1.out.size;omega)
   refine⟨rfl,⟨.slice pa5 pn5 pc5,?_⟩,hkw⟩
   refine a1.mono (fun j hj=>?_) (fun j hj=>hj.lt (fun j hj=>by have:=HP.out j hj;have:=HB1.out.size;have:=HPL.out j hj;have:=HSB.out.1;omega) hkw.size)
   have z1:=HB1.out.size
   have z2:=HK1.out.size
   have z3:=HK2.out.size
   rcases hj with(e|⟨e,e2⟩)|⟨e,e2⟩
   ·exact .inl e
   ·exact .inr ⟨by omega,by omega⟩
   ·exact .inr ⟨by omega,e2⟩
theorem pframe_ok (b p:Int) (h:Hid (Okset b p)) (n:Nat) (hn:n≤256) (w:World):
  Calls Tryz.prog 102 #[.agg #[.int .i64 b,.int .i64 p],.int .i64 (n:Int)] w fun r w'=>r=.returned (.int .i64 (frameT b n))∧Below w.heap.size w w':=by
 obtain⟨t1,t2,_,_,t5,t6⟩:=time_bd h.out
 obtain⟨C,hC⟩:∃C,charT b=C:=⟨_,rfl⟩
 have HCH:Hid (∀W,Calls Tryz.prog 128 #[.agg #[.int .i64 b,.int .i64 p]] W fun r w'=>r=.returned (.int .i64 C)∧Below W.heap.size W w'):=fun W=>by rw[←hC];exact char_ok b p h W
 have HF:Hid (frameT b n=(n:Int)*C):=by show _=_;unfold frameT;rw[hC]
 rw[hC] at t1 t2
 have hm:(0:Int)≤(n:Int)*C:=Int.mul_nonneg (by omega) (by omega)
 have hm2:(n:Int)*C≤256*9167:=Int.mul_le_mul (by omega) t2 (by omega) (by decide)
 have s1:IntKind.i64.wrap ((n:Int)*C)=(n:Int)*C:=IntWalk.i64_in _ (by omega)
 clear hC
 go_enter Tryz.func102,Tryz.ntmps102
 go_wp2_with (go_at_call 128;(with_reducible refine(HCH.out _).mono ?_);rintro r w1 ⟨rfl,hb1⟩)
 go_ret
 exact⟨by rw[HF.out];rfl,bU (bal' w _) hb1⟩
structure LnG (P:Nat→Prop) (w:World) (la:Option Addr) (ln lc:Nat) (aa:Option Addr) (an ac:Nat) (l:List Sl) (ats:List At) (lp:Bool):Prop where
 rd:∀X,Keeps P w X→Slvs X (.slice la ln lc) l∧Ats X (.slice aa an ac) ats
 ln_:l.length=ln
 an_:ats.length=an
 bus:BusP l
 ok:∀x∈ats,x.ok
 lp_:lp=true→0<an
theorem LnG.next {P Q:Nat→Prop} {w w':World} {la:Option Addr} {ln lc:Nat} {aa:Option Addr} {an ac:Nat} {l:List Sl} {ats:List At} {lp:Bool} (h:LnG P w la ln lc aa an ac l ats lp) (hk:Keeps P w w') (hq:∀j,j<w.heap.size→Q j→P j):LnG Q w' la ln lc aa an ac l ats lp:=
 ⟨fun X hX=>h.rd X (hk.trans hX hq),h.ln_,h.an_,h.bus,h.ok,h.lp_⟩
def SdPost (P:Nat→Prop) (w:World) (g:Nat) (sv av:Value) (lp:Bool) (s:Ln) (e:Int) (r:Ending) (w':World):Prop:=r=.returned (.tuple #[.int .i64 e,.int .i64 0])∧LnAt (GrowP P w w') w' g sv av lp s∧Keeps P w w'
end Go.Proofs.YtoaoejaodhedaaaGreat
