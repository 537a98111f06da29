/-
 Texts 3 of the claim.
-/
import Derived.Test.YtoaoejaodhedaaaGreatE02
namespace Go.Proofs.YtoaoejaodhedaaaGreat
open Go.RowKit
set_option maxHeartbeats 3200000
set_option maxRecDepth 100000
theorem rises_snoc (x:Ob):∀(l:List Ob) (last:Int),rises last (l++[x])=(rises last l&&decide (lastId last l<x.id)&&decide (x.id≤255))
 |[],last=>by show (decide _&&decide _&&true)=(true&&decide _&&decide _);rw[Bool.and_true,Bool.true_and];rfl
 |a::l,last=>by
  show (decide _&&decide _&&rises a.id (l++[x]))=(decide _&&decide _&&rises a.id l&&decide (lastId a.id l<x.id)&&decide (x.id≤255))
  rw[rises_snoc x l a.id]
  simp only[Bool.and_assoc]
theorem lastId_snoc (x:Ob):∀(l:List Ob) (last:Int),lastId last (l++[x])=x.id
 |[],last=>rfl
 |a::l,last=>by simp [lastId,lastId_snoc x l]
theorem obSize_snoc (x:Ob):∀(l:List Ob),obSize (l++[x])=obSize l+(2+x.val.length)
 |[]=>by simp [obSize]
 |a::l=>by simp [obSize,obSize_snoc x l];omega
theorem rises_pre (k:List Ob):∀(l:List Ob) (last:Int),rises last (l++k)=true→rises last l=true
 |[],last,_=>rfl
 |a::l,last,h=>by
  simp only[List.cons_append,rises,Bool.and_eq_true] at h ⊢
  exact⟨h.1,rises_pre k l _ h.2⟩
theorem obSize_pre (k:List Ob):∀(l:List Ob),obSize l≤obSize (l++k)
 |[]=>Nat.zero_le _
 |a::l=>by have:=obSize_pre k l;simp [obSize];omega
theorem take_succ_snoc {α:Type} {l:List α} {k:Nat} {x:α} (h:l[k]?=some x):l.take (k+1)=l.take k++[x]:=by
 rw[List.take_add_one,h];rfl
theorem objs_no {l:List Ob} {k:Nat} {x:Ob} (h:l[k]?=some x) (hb:¬(lastId (-1) (l.take k)<x.id∧x.id≤255∧obSize (l.take k)+(2+x.val.length)≤246)):objsB l=false:=by
 cases hx:objsB l with
 |false=>rfl
 |true=>
  exfalso
  apply hb
  unfold objsB at hx
  simp only[Bool.and_eq_true,decide_eq_true_eq] at hx
  have e:l=l.take (k+1)++l.drop (k+1):=(List.take_append_drop _ _).symm
  have h1:=hx.1
  have h2:=hx.2
  rw[e] at h1 h2
  have h3:=rises_pre _ _ _ h1
  have h4:=obSize_pre (l.drop (k+1)) (l.take (k+1))
  rw[take_succ_snoc h] at h3 h4 h2
  rw[rises_snoc] at h3
  rw[obSize_snoc] at h4
  simp only[Bool.and_eq_true,decide_eq_true_eq] at h3
  exact⟨h3.1.2,h3.2,by omega⟩
def Rp.headB (r:Rp):Bool:=r.data.isEmpty&&decide (1≤r.code)&&decide (r.code≤3)&&lvB r.level&&decide (0≤r.next)&&decide (r.next≤255)
theorem Rp.devB_eq (r:Rp):r.devB=(r.headB&&objsB r.objs&&(if r.more then !r.objs.isEmpty&&decide (lastId (-1) r.objs<r.next) else r.next==0)):=rfl
theorem validDevice_head (fn exc:Int) (dv:Value) (code level:Int) (more:Bool) (next:Int) (ov:Value) (data:List UInt8) (objs:List Ob) (w:World) (hd:Bs w dv data) (hl:level≤9223372036854775807) (hl2: -9223372036854775808≤level)
  (hh:Rp.headB ⟨fn,exc,data,code,level,more,next,objs⟩=false):
  Calls Tryz.prog 217 #[.agg #[.int .i64 fn,.int .i64 exc,dv,.int .i64 code,.int .i64 level,.bool more,.int .i64 next,ov]] w fun r w'=>r=.returned (.bool false)∧Below w.heap.size w w':=by
 obtain⟨a2,c2,rfl,hc⟩:=hd
 clear hc
 have H:Hid (data=[]→1≤code→code≤3→(1≤level∧level≤3∨129≤level∧level≤131)→0≤next→next≤255→False):=by
  intro a1 a2 a3 a4 a5 a6
  subst a1
  have:lvB level=true:=by unfold lvB;simp;omega
  simp [Rp.headB,a2,a3,this,a5,a6] at hh
 clear hh
 have H2:Hid (data.length=0→1≤code→code≤3→(1≤level∧level≤3∨129≤level∧level≤131)→0≤next→next≤255→False):=fun h=>H.out (List.eq_nil_of_length_eq_zero h)
 clear H
 generalize data.length=n at*
 by_cases h128:128<level
 all_goals
  go_enter Tryz.func217,Tryz.ntmps217
  go_wp2
  all_goals first
   |(go_ret;exact⟨rfl,bal' _ _⟩)
   |(exfalso;exact H2.out (by omega) (by omega) (by omega) (by omega) (by omega) (by omega))
theorem validDevice_body (fn exc:Int) (dv:Value) (code level:Int) (more:Bool) (next:Int) (ov:Value) (objs:List Ob) (w:World) (hd:Bs w dv []) (ho:Obs w ov objs)
  (hcode:1≤code) (hcode2:code≤3) (hlev:(1≤level∧level≤3)∨(129≤level∧level≤131)) (hn1:0≤next) (hn2:next≤255):
  Calls Tryz.prog 217 #[.agg #[.int .i64 fn,.int .i64 exc,dv,.int .i64 code,.int .i64 level,.bool more,.int .i64 next,ov]] w fun r w'=>r=.returned (.bool (objsB objs&&(if more then !objs.isEmpty&&decide (lastId (-1) objs<next) else next==0)))∧Below w.heap.size w w':=by
 obtain⟨a2,c2,rfl,hc⟩:=hd
 clear hc
 have HO:=hid ho
 obtain⟨a,c,rfl,hc⟩:=ho
 have hcm:objs.length≤9223372036854775807:=by have:=HO.out.len;unfold maxLen at this;omega
 clear hc
 rcases hlev with⟨hl1,hl2⟩|⟨hl1,hl2⟩
 all_goals
  go_enter Tryz.func217,Tryz.ntmps217
  go_wp2
  have hB:Below w.heap.size w (w.alloc (.cells #[.int .i64 fn,.int .i64 exc,.slice a2 ([]:List UInt8).length c2,.int .i64 code,.int .i64 level,.bool more,.int .i64 next,.slice a objs.length c] 53)):=bal' _ _
  have hc5:(w.alloc (.cells #[.int .i64 fn,.int .i64 exc,.slice a2 ([]:List UInt8).length c2,.int .i64 code,.int .i64 level,.bool more,.int .i64 next,.slice a objs.length c] 53)).cell? ⟨w.heap.size,5,none⟩=some (.bool more):=by rw[World.cell?_alloc_at _ _ _ _ rfl];rfl
  have hc6:(w.alloc (.cells #[.int .i64 fn,.int .i64 exc,.slice a2 ([]:List UInt8).length c2,.int .i64 code,.int .i64 level,.bool more,.int .i64 next,.slice a objs.length c] 53)).cell? ⟨w.heap.size,6,none⟩=some (.int .i64 next):=by rw[World.cell?_alloc_at _ _ _ _ rfl];rfl
  have hc7:(w.alloc (.cells #[.int .i64 fn,.int .i64 exc,.slice a2 ([]:List UInt8).length c2,.int .i64 code,.int .i64 level,.bool more,.int .i64 next,.slice a objs.length c] 53)).cell? ⟨w.heap.size,7,none⟩=some (.slice a objs.length c):=by rw[World.cell?_alloc_at _ _ _ _ rfl];rfl
  replace HO:=hid (HO.out.keep hB)
  generalize hbx:w.heap.size=bx at*
  simp only[List.length_nil] at hB hc5 hc6 hc7 HO
  generalize w.alloc (.cells #[.int .i64 fn,.int .i64 exc,.slice a2 0 c2,.int .i64 code,.int .i64 level,.bool more,.int .i64 next,.slice a objs.length c] 53)=W at*
  have hszW:bx≤W.heap.size:=by rw[←hbx];exact hB.size
  have HBX:=hid hbx
  clear hbx
  go_loopw [4,5,49] (fun la sz i wr=>∃k:Nat,k≤objs.length∧i=.int .i64 k∧la=.int .i64 (lastId (-1) (objs.take k))∧sz=.int .i64 (obSize (objs.take k))∧rises (-1) (objs.take k)=true∧obSize (objs.take k)≤246∧Below W.heap.size W wr) (fun _ _ i _=>objs.length- (intOf i).toNat)
  case atStart=>exact⟨0,Nat.zero_le _,rfl,rfl,rfl,rfl,by simp [obSize],Below.refl _ _⟩
  case round=>
   obtain⟨k,hk,rfl,rfl,rfl,hri,hsz,hbw⟩:=hrel
   replace hri:=hid hri
   replace hc5:=cell_keep hbw hc5
   replace hc6:=cell_keep hbw hc6
   replace hc7:=cell_keep hbw hc7
   by_cases hlt:k<objs.length
   ·obtain ⟨b,o,cc,hv,h1,h2,hcell⟩:=HO.out.at (by rintro rfl;simp at hlt)
    have hv':=hid hv
    simp only[Value.slice.injEq,true_and] at hv
    obtain⟨rfl,rfl⟩:=hv
    have hgx:objs[k]?=some objs[k]:=List.getElem?_eq_getElem hlt
    obtain⟨d1,vv,d2,hvv⟩:=hcell k _ hgx
    clear hcell
    have HG:=hid hgx
    generalize objs[k]=x at*
    obtain⟨xa,xc,rfl,hxl,_⟩:=id hvv
    replace d1:=cell_keep hbw d1
    replace d2:=cell_keep hbw d2
    have hxm:=hvv.len
    unfold maxLen at hxm
    clear hgx hvv
    have HNO:=hid (objs_no (l:=objs) (k:=k) (x:=x) HG.out)
    have HSN:=hid (show rises (-1) (objs.take (k+1))=(decide (lastId (-1) (objs.take k)<x.id)&&decide (x.id≤255))∧lastId (-1) (objs.take (k+1))=x.id∧obSize (objs.take (k+1))=obSize (objs.take k)+(2+x.val.length) by
     rw[take_succ_snoc HG.out,rises_snoc,lastId_snoc,obSize_snoc,hri.out,Bool.true_and]
     exact⟨rfl,rfl,rfl⟩)
    generalize lastId (-1) (objs.take k)=la at*
    generalize obSize (objs.take k)=sz at*
    generalize x.id=xi at*
    generalize x.val.length=xn at*
    have hki:(0:Int)≤(k:Int):=Int.natCast_nonneg _
    have hkl:(k:Int)<(objs.length:Int):=by omega
    generalize hol:objs.length=n at*
    replace hol:=hid hol
    by_cases hgood:la<xi∧xi≤255∧sz+(2+xn)≤246
    ·obtain ⟨g1,g2,g3⟩:=hgood
     go_wp2
     go_roundw
     case rel=>exact⟨k+1,by omega,by go_num,by rw[HSN.out.2.1],by rw[HSN.out.2.2];go_num,by rw[HSN.out.1];simp [g1,g2],by rw[HSN.out.2.2];omega,hbw.alloc hbw.size _⟩
     case measure=>simp [intOf];omega
    ·have HF:=hid (HNO.out hgood)
     go_wp2
     all_goals
      go_ret
      refine⟨by rw[HF.out];rfl,?_⟩
      have hfin:=hB.trans ((bta hbw (Nat.le_refl _) (.cells #[.int .i64 xi,.slice xa xn xc] 165)).mono hszW)
      rw[←HBX.out] at hfin
      exact hfin
   ·obtain rfl:k=objs.length:=by omega
    have HF:Hid (objsB objs=true):=by
     have h1:=hri.out
     rw[List.take_length] at h1 hsz
     exact show objsB objs=true by unfold objsB;rw[h1];simpa using hsz
    have HT:Hid (List.take objs.length objs=objs):=List.take_length
    rw[HT.out]
    clear hsz hri
    generalize hla:lastId (-1) objs=la at*
    replace hla:=hid hla
    have HE:Hid (objs.isEmpty=decide (objs.length=0)):=by
     show objs.isEmpty=decide (objs.length=0)
     cases objs<;>simp
    generalize objs.length=n at*
    cases more
    all_goals
     go_wp2
     all_goals
      go_ret
      have hfin:=hB.trans (hbw.mono hszW)
      rw[←HBX.out] at hfin
      refine⟨?_,hfin⟩
      clear hfin
      refine ret_bool ?_
      rw[HF.out]
      try rw[HE.out,hla.out]
      first|(simp [*];done)|(rw[Bool.eq_iff_iff];simp [*];omega)|(rw[Bool.eq_iff_iff];simp;omega)
theorem headB_false {fn exc:Int} {code level:Int} {more:Bool} {next:Int} {data:List UInt8} {objs:List Ob} (h:Rp.headB ⟨fn,exc,data,code,level,more,next,objs⟩=false):Rp.devB ⟨fn,exc,data,code,level,more,next,objs⟩=false:=by
 rw[Rp.devB_eq,h];rfl
theorem validDevice_any (fn exc:Int) (dv:Value) (code level:Int) (more:Bool) (next:Int) (ov:Value) (data:List UInt8) (objs:List Ob) (w:World) (hd:Bs w dv data) (ho:Obs w ov objs) (hl:level≤9223372036854775807) (hl2: -9223372036854775808≤level):
  Calls Tryz.prog 217 #[.agg #[.int .i64 fn,.int .i64 exc,dv,.int .i64 code,.int .i64 level,.bool more,.int .i64 next,ov]] w fun r w'=>r=.returned (.bool (Rp.devB ⟨fn,exc,data,code,level,more,next,objs⟩))∧Below w.heap.size w w':=by
 cases hh:Rp.headB ⟨fn,exc,data,code,level,more,next,objs⟩ with
 |false=>
  rw[headB_false hh]
  exact validDevice_head fn exc dv code level more next ov data objs w hd hl hl2 hh
 |true=>
  have h2:=hh
  simp only[Rp.headB,Bool.and_eq_true,decide_eq_true_eq,List.isEmpty_iff] at h2
  obtain⟨⟨⟨⟨⟨h1,h2⟩,h3⟩,h4⟩,h5⟩,h6⟩:=h2
  subst h1
  rw[Rp.devB_eq,hh,Bool.true_and]
  refine validDevice_body fn exc dv code level more next ov objs w hd ho h2 h3 ?_ h5 h6
  unfold lvB at h4
  simp at h4
  exact h4
theorem rvalid_any (fn exc:Int) (dv:Value) (code level:Int) (more:Bool) (next:Int) (ov:Value) (data:List UInt8) (objs:List Ob) (w:World) (hd:Bs w dv data) (ho:Obs w ov objs) (hl:level≤9223372036854775807) (hl2: -9223372036854775808≤level):
  Calls Tryz.prog 197 #[.agg #[.int .i64 fn,.int .i64 exc,dv,.int .i64 code,.int .i64 level,.bool more,.int .i64 next,ov]] w fun r w'=>r=.returned (.bool (Rp.ok ⟨fn,exc,data,code,level,more,next,objs⟩))∧Below w.heap.size w w':=by
 have HD:=hid hd
 have HO:=hid ho
 obtain⟨a2,c2,rfl,hc⟩:=hd
 clear hc
 obtain⟨a,c,rfl,hc⟩:=ho
 clear hc
 have HE:Hid (data.isEmpty=decide (data.length=0)):=by
  show data.isEmpty=decide (data.length=0)
  cases data<;>simp
 have HOK:Hid (Rp.ok ⟨fn,exc,data,code,level,more,next,objs⟩=(knownB fn&&
  if exc=0 then
   (if fn=43 then Rp.devB ⟨fn,exc,data,code,level,more,next,objs⟩ else if fn=17 then decide (1≤data.length)&&decide (data.length≤251)&&Rp.plain ⟨fn,exc,data,code,level,more,next,objs⟩ else decide (1≤data.length)&&decide (data.length≤250)&&Rp.plain ⟨fn,exc,data,code,level,more,next,objs⟩)
  else decide (1≤exc)&&decide (exc≤255)&&(data.isEmpty&&Rp.plain ⟨fn,exc,data,code,level,more,next,objs⟩))):=rfl
 have HP:Hid (∀W xv,Below w.heap.size w W→Calls Tryz.prog 216 #[.agg #[.int .i64 fn,.int .i64 exc,xv,.int .i64 code,.int .i64 level,.bool more,.int .i64 next,.slice a objs.length c]] W fun r w'=>r=.returned (.bool (Rp.plain ⟨fn,exc,data,code,level,more,next,objs⟩))∧Below W.heap.size W w'):=fun W xv h=>plain_any _ _ _ _ _ _ _ _ _ _ W (HO.out.keep h)
 have HV:Hid (∀W,Below w.heap.size w W→Calls Tryz.prog 217 #[.agg #[.int .i64 fn,.int .i64 exc,.slice a2 data.length c2,.int .i64 code,.int .i64 level,.bool more,.int .i64 next,.slice a objs.length c]] W fun r w'=>r=.returned (.bool (Rp.devB ⟨fn,exc,data,code,level,more,next,objs⟩))∧Below W.heap.size W w'):=fun W h=>validDevice_any _ _ _ _ _ _ _ _ _ _ W (HD.out.keep h) (HO.out.keep h) hl hl2
 rw[HOK.out]
 generalize Rp.plain ⟨fn,exc,data,code,level,more,next,objs⟩=pb at*
 generalize Rp.devB ⟨fn,exc,data,code,level,more,next,objs⟩=vb at*
 rw[HE.out]
 clear HE HOK HD HO
 generalize data.length=n at*
 generalize objs.length=m at*
 have hB:=bal' w (.cells #[.int .i64 fn,.int .i64 exc,.slice a2 n c2,.int .i64 code,.int .i64 level,.bool more,.int .i64 next,.slice a m c] 53)
 have hx:(¬exc=0∧(exc==0)=false∧(exc !=0)=true)∨exc=0:=by
  by_cases h:exc=0
  ·exact .inr h
  ·exact .inl ⟨h,by simpa using h,by simpa using h⟩
 have hf:(¬fn=43∧(fn==43)=false∧((¬fn=17∧(fn==17)=false)∨fn=17))∨fn=43:=by
  by_cases h:fn=43
  ·exact .inr h
  ·refine .inl ⟨h,by simpa using h,?_⟩
   by_cases h:fn=17
   ·exact .inr h
   ·exact .inl ⟨h,by simpa using h⟩
 cases hk:knownB fn
 all_goals
  rcases hx with⟨h,h',h''⟩|rfl
  all_goals
   rcases hf with⟨h1,h1',⟨h2,h2'⟩|rfl⟩|rfl
   all_goals
    go_enter Tryz.func197,Tryz.ntmps197
    go_wp2_with (first|(go_at_call 195;refine(known_any _ _).mono ?_;rintro r w1 ⟨rfl,rfl⟩)|(go_at_call 216;(with_reducible refine(HP.out _ _ (bal' w _)).mono ?_);rintro r w2 ⟨rfl,hb2⟩)|(go_at_call 217;(with_reducible refine(HV.out _ hB).mono ?_);rintro r w3 ⟨rfl,hb3⟩))
    all_goals
     go_ret
     refine⟨ret_bool ?_,by first|exact bal' w _|exact bt (bal' w _) (by assumption) (Nat.le_refl _)⟩
     first|(simp [*];done)|(rw[Bool.eq_iff_iff];simp [*];omega)|(rw[Bool.eq_iff_iff];simp;omega)
end Go.Proofs.YtoaoejaodhedaaaGreat
