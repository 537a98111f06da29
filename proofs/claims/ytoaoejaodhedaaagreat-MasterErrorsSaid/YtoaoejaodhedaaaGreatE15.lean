/-
 Texts 15 of the claim.
-/
import Derived.Test.YtoaoejaodhedaaaGreatRows
import Derived.Test.YtoaoejaodhedaaaGreatE01
import Derived.Test.YtoaoejaodhedaaaGreatE02
import Derived.Deep.RegionHeld3
import Derived.WalkKit
namespace Go.Proofs.YtoaoejaodhedaaaGreat
open Go.RowKit
set_option maxHeartbeats 800000
set_option maxRecDepth 100000
def splitB (chk:List UInt8→Bool) (l:List UInt8):Option (Int×List UInt8):=
 if 4≤l.length∧l.length≤256∧chk l=true∧1≤((l.getD 0 0).toNat:Int)∧((l.getD 0 0).toNat:Int)≤247 then some (((l.getD 0 0).toNat:Int),(l.take (l.length-2)).drop 1) else none
def SplitPost (w:World) (o:Option (Int×List UInt8)) (r:Ending) (w':World):Prop:=
 ∃(u:Int) (a:Option Addr) (n c:Nat) (e:Int),r=.returned (.tuple #[.int .i64 u,.slice a n c,.int .i64 e])∧Below w.heap.size w w'∧
  ((e=0∧∃p,o=some (u,p)∧∀W,Agree w.heap.size w' W→Bs W (.slice a n c) p)∨(e≠0∧o=none))
theorem SplitPost.err {w:World} {o:Option (Int×List UInt8)} {w':World} (ho:o=none) (u:Int) (a:Option Addr) (n c:Nat) (e:Int) (he:e≠0) (hb:Below w.heap.size w w'):
 SplitPost w o (.returned (.tuple #[.int .i64 u,.slice a n c,.int .i64 e])) w':=⟨u,a,n,c,e,rfl,hb,.inr ⟨he,ho⟩⟩
def crcStep (c:Nat):Nat:=if c%2=1 then (c/2)^^^40961 else c/2
def crcSteps:Nat→Nat→Nat
 |0,c=>c
 |k+1,c=>crcStep (crcSteps k c)
def crcUpd (c b:Nat):Nat:=crcSteps 8 (c^^^b)
def crcExt (c:Nat) (l:List UInt8):Nat:=l.foldl (fun c x=>crcUpd c x.toNat) c
theorem xor16 {a b:Nat} (ha:a<65536) (hb:b<65536):a^^^b<65536:=Nat.xor_lt_two_pow (n:=16) ha hb
theorem crcStep_lt {c:Nat} (h:c<65536):crcStep c<65536:=by
 unfold crcStep
 split
 ·exact xor16 (by omega) (by omega)
 ·omega
theorem crcSteps_lt (k:Nat) {c:Nat} (h:c<65536):crcSteps k c<65536:=by
 induction k with
 |zero=>exact h
 |succ k ih=>exact crcStep_lt ih
theorem crcUpd_lt {c b:Nat} (h:c<65536) (hb:b<256):crcUpd c b<65536:=crcSteps_lt 8 (xor16 h (by omega))
theorem byte_lt (x:UInt8):x.toNat<256:=x.toNat_lt
theorem crcExt_lt (l:List UInt8):∀{c:Nat},c<65536→crcExt c l<65536:=by
 induction l with
 |nil=>intro c h;exact h
 |cons x l ih=>intro c h;exact ih (crcUpd_lt h (byte_lt x))
theorem crcExt_append (c:Nat) (l k:List UInt8):crcExt c (l++k)=crcExt (crcExt c l) k:=by simp [crcExt]
theorem crcExt_take_succ (c:Nat) (l:List UInt8) (k:Nat) (h:k<l.length):crcExt c (l.take (k+1))=crcUpd (crcExt c (l.take k)) (l.getD k 0).toNat:=by
 rw[List.take_succ_eq_append_getElem h,crcExt_append]
 simp [crcExt,List.getD,h]
theorem upd_any (c b:Nat) (hc:c<65536) (hb:b<256) (w:World):
  Calls Tryz.prog 219 #[.int .u16 c,.int .u8 b] w fun r w'=>r=.returned (.int .u16 (crcUpd c b))∧w=w':=by
 have hx:bits .xor .u16 (c:Int) (b:Int)=((c^^^b:Nat):Int):=u16_xor_nat c b hc (by omega)
 go_enter Tryz.func219,Tryz.ntmps219
 go_wp2
 go_loop [0,5,10] (fun c5 _ i=>∃k:Nat,k≤8∧i=.int .i64 k∧c5=.int .u16 (crcSteps k (c^^^b))) (fun _ _ i=>8- (intOf i).toNat)
 case atStart=>exact⟨0,by omega,rfl,rfl⟩
 case round=>
  obtain⟨k,hk,rfl,rfl⟩:=hrel
  clear hx
  have hn:=crcSteps_lt k (xor16 hc (show b<65536 by omega))
  have hs:crcSteps (k+1) (c^^^b)=crcStep (crcSteps k (c^^^b)):=rfl
  generalize hg:crcSteps k (c^^^b)=n at*
  have HG:=hid hg
  clear hg
  have ha:bits .and .u16 (n:Int) 1=((n%2:Nat):Int):=by
   have:=u16_and_nat n 1 hn (by omega)
   rw[nat_mask1] at this
   exact this
  have hy:bits .xor .u16 ((n:Int)/2) 40961=((n/2^^^40961:Nat):Int):=u16_xor_nat (n/2) 40961 (by omega) (by omega)
  have HS:=hid hs
  clear hs
  by_cases hlt:k<8
  ·by_cases ho:n%2=1
   ·have ho2:(((n%2:Nat):Int)==1)=true:=by rw[ho];rfl
    have HO:=hid ho
    clear ho
    go_wp2
    go_round
    case rel=>exact⟨k+1,by omega,by go_num,by rw[HS.out,crcStep,if_pos HO.out]⟩
    case measure=>simp [intOf];omega
   ·have ho2:(((n%2:Nat):Int)==1)=false:=by simp;omega
    have HO:=hid ho
    clear ho
    go_wp2
    go_round
    case rel=>exact⟨k+1,by omega,by go_num,by rw[HS.out,crcStep,if_neg HO.out];rfl⟩
    case measure=>simp [intOf];omega
  ·have h8:k=8:=by omega
   subst h8
   go_wp2
   go_ret
   exact⟨ret_int (by rw[←HG.out];rfl),rfl⟩
theorem info5:(Tryz.prog.info? 5).map (fun i=>(i.zero,i.size,i.bytes))=some (some (.int .u8 0),1,1):=by kernel_rfl
theorem ext_any (c:Nat) (hc:c<65536) (v:Value) (l:List UInt8) (w:World) (hv:Bs w v l):
  Calls Tryz.prog 200 #[.int .u16 c,v] w fun r w'=>r=.returned (.int .u16 (crcExt c l))∧w=w':=by
 have hlen:=hv.len
 unfold maxLen at hlen
 by_cases hl:l=[]
 ·subst hl
  obtain⟨a,k,rfl,_⟩:=hv
  go_enter Tryz.func200,Tryz.ntmps200
  go_wp2
  go_loop [0,6,9] (fun c5 _ i=>i=.int .i64 0∧c5=.int .u16 c) (fun _ _ _=>0)
  case atStart=>exact⟨rfl,rfl⟩
  case round=>
   obtain⟨rfl,rfl⟩:=hrel
   go_wp2
   go_ret
   exact⟨rfl,rfl⟩
 ·obtain ⟨b,o,cap,rfl,h1,h2,hcell⟩:=hv.at hl
  clear hv
  unfold maxLen at h2
  have HL:=hid hl
  clear hl
  go_enter Tryz.func200,Tryz.ntmps200
  go_wp2
  go_loop [0,6,9] (fun c5 _ i=>∃k:Nat,k≤l.length∧i=.int .i64 k∧c5=.int .u16 (crcExt c (l.take k))) (fun _ _ i=>l.length- (intOf i).toNat)
  case atStart=>exact⟨0,Nat.zero_le _,rfl,rfl⟩
  case round=>
   obtain⟨k,hk,rfl,rfl⟩:=hrel
   have hn:=crcExt_lt (l.take k) hc
   by_cases hlt:k<l.length
   ·have HS:=hid (crcExt_take_succ c l k hlt)
    generalize crcExt c (l.take k)=n at*
    have hx:=byte_lt (l.getD k 0)
    have hcl:=hcell k hlt
    clear hcell
    generalize (l.getD k 0).toNat=x at*
    go_wp2_with (go_at_call 219;refine(upd_any _ _ hn hx _).mono ?_;rintro r w' ⟨rfl,rfl⟩)
    go_round
    case rel=>exact⟨k+1,by omega,by go_num,by rw[HS.out]⟩
    case measure=>simp [intOf];omega
   ·have hk2:k=l.length:=by omega
    subst hk2
    have HT:=hid (List.take_length (l:=l))
    go_wp2
    go_ret
    exact⟨ret_int (by first|rfl|rw[HT.out]),rfl⟩
theorem sum_any (v:Value) (l:List UInt8) (w:World) (hv:Bs w v l):
  Calls Tryz.prog 181 #[v] w fun r w'=>r=.returned (.int .u16 (crcExt 65535 l))∧w=w':=by
 go_enter Tryz.func181,Tryz.ntmps181
 go_wp2_with (go_at_call 200;refine(ext_any 65535 (by decide) _ _ _ hv).mono ?_;rintro r w' ⟨rfl,rfl⟩)
 go_ret
 exact⟨rfl,rfl⟩
theorem grow_any (n:Nat) (hn:0<n) (hn2:n≤140737488355328) (w:World):
  Calls Tryz.prog 201 #[.slice none 0 0,.int .i64 n] w fun r w'=>∃g cap,r=.returned (.slice (some ⟨g,0,none⟩) 0 cap)∧w'.ownsRow w.heap.size 5 1 (.slice (some ⟨g,0,none⟩) 0 cap) 0 []∧Below w.heap.size w w':=by
 obtain⟨i5,hi,hz0,hz1,hz2⟩:=info_parts info5
 go_enter Tryz.func201,Tryz.ntmps201
 go_wp2_with (at_builtin;refine wpList_zeros rfl _ _ 50 3 rfl w.heap.size 5 i5 (.int .u8 0) 1 Tryz.underlying50 Tryz.underlying3 hi hz0 hz1 hz2 rfl rfl _ 0 [] rfl (World.ownsRow_nil _ _ _ _) n rfl hn ?c1 ?c2 ?c3 ?c4)
 case c1=>unfold maxLen;omega
 case c2=>omega
 case c3=>exact Nat.le_refl _
 case c4=>
  intro g cap w1 hcap hcm hg hown hgr
  have hb:=(Below.refl w.heap.size w).grown hgr (Nat.le_refl _) (by intro k hk;simp [Value.ownBlock] at hk)
  have HO:=hid (own_cut hown (Nat.zero_le _))
  clear hown
  unfold maxLen at hcm
  go_wp2
  go_ret
  exact⟨g,cap,rfl,HO.out,hb⟩
def fcat (ls:List (List UInt8)) (k:Nat):List UInt8:=(ls.take k).flatten
def flen (ls:List (List UInt8)) (k:Nat):Nat:=(fcat ls k).length
theorem fcat_succ (ls:List (List UInt8)) (k:Nat) (h:k<ls.length):fcat ls (k+1)=fcat ls k++ls.getD k []:=by
 unfold fcat
 rw[List.take_succ_eq_append_getElem h]
 simp [List.getD,h,-List.take_append_getElem]
theorem flen_succ (ls:List (List UInt8)) (k:Nat) (h:k<ls.length):flen ls (k+1)=flen ls k+(ls.getD k []).length:=by
 unfold flen
 rw[fcat_succ ls k h,List.length_append]
theorem fcat_all (ls:List (List UInt8)):fcat ls ls.length=ls.flatten:=by simp [fcat]
theorem flen_le (ls:List (List UInt8)) (k:Nat):flen ls k≤flen ls ls.length:=by
 unfold flen
 rw[fcat_all]
 have:ls.flatten=(ls.take k).flatten++(ls.drop k).flatten:=by rw[←List.flatten_append,List.take_append_drop]
 rw[this]
 simp [fcat]
theorem concat_any (g o c:Nat) (vs:List Value) (ls:List (List UInt8)) (w:World) (hn:0<flen ls ls.length) (hn2:flen ls ls.length≤140737488355328) (hlc:ls.length≤c) (hc:c≤100)
  (hcell:∀i,i<ls.length→w.cell? ⟨g,o+i,none⟩=some (vs.getD i undef)) (hbs:∀i,i<ls.length→Bs w (vs.getD i undef) (ls.getD i [])):
  Calls Tryz.prog 182 #[.slice (some ⟨g,o,none⟩) ls.length c] w fun r w'=>∃v',r=.returned v'∧w'.ownsRow w.heap.size 5 1 v' (flen ls ls.length) (u8s (fcat ls ls.length))∧Below w.heap.size w w':=by
 obtain⟨i5,hi,hz0,hz1,hz2⟩:=info_parts info5
 have HB:=hid hbs
 have HC:=hid hcell
 clear hbs hcell
 go_enter Tryz.func182,Tryz.ntmps182
 go_wp2
 go_loop [3,5,11] (fun n _ i=>∃k:Nat,k≤ls.length∧i=.int .i64 k∧n=.int .i64 (flen ls k)) (fun _ _ i=>ls.length- (intOf i).toNat)
 case atStart=>exact⟨0,Nat.zero_le _,rfl,rfl⟩
 case round=>
  obtain⟨k,hk,rfl,rfl⟩:=hrel
  have hle:=flen_le ls k
  by_cases hlt:k<ls.length
  ·have hcl:=HC.out k hlt
   obtain⟨a,cp,hv,h1,h2,_⟩:=HB.out k hlt
   have hle2:=flen_le ls (k+1)
   have hfl:=flen_succ ls k hlt
   rw[hfl] at hle2
   rw[hv] at hcl
   have HF:=hid hfl
   clear hfl hv
   generalize (ls.getD k []).length=m at*
   go_wp2
   go_round
   case rel=>exact⟨k+1,by omega,by go_num,by rw[HF.out];go_num⟩
   case measure=>simp [intOf];omega
  ·have hk2:k=ls.length:=by omega
   subst hk2
   go_wp2_with (go_at_call 201;refine(grow_any _ hn hn2 _).mono ?_;rintro r w1 ⟨g1,cap1,rfl,hown,hbel⟩)
   go_loopw [6,8,27] (fun v _ i wr=>∃k:Nat,k≤ls.length∧i=.int .i64 k∧wr.ownsRow w.heap.size 5 1 v (flen ls k) (u8s (fcat ls k))∧Below w.heap.size w wr) (fun _ _ i _=>ls.length- (intOf i).toNat)
   case atStart=>exact⟨0,Nat.zero_le _,rfl,hown,hbel⟩
   case round=>
    clear hown hbel
    obtain⟨k,hk,rfl,hown,hbel⟩:=hrel
    by_cases hlt:k<ls.length
    ·have hcl:wr.cell? ⟨g,o+k,none⟩=some (vs.getD k undef):=by
      have h:=HC.out k hlt
      rw[hbel.cell (cell_lt h)];exact h
     have hbs:=(HB.out k hlt).keep hbel
     have hle2:=flen_le ls (k+1)
     have hfl:=flen_succ ls k hlt
     rw[hfl] at hle2
     have HF:=hid hfl
     have HG:=hid (fcat_succ ls k hlt)
     clear hfl
     generalize vs.getD k undef=y at*
     generalize ls.getD k []=ys at*
     go_wp2_with (at_builtin;refine wpList_app rfl _ _ 50 rfl w.heap.size 5 i5 Tryz.underlying50 hi hz0 hz1 hz2 _ (fcat ls k) rfl hown y ys rfl hbs ?c1 ?c2 ?c3)
     case c1=>unfold flen at hle2 hn2;omega
     case c2=>exact hbel.size
     case c3=>
      intro v' w2 hown2 hgr
      have hbel2:=hbel.grown hgr hbel.size (fun b hb=>(hown.lt b hb).1)
      have HO:Hid (w2.ownsRow w.heap.size 5 1 v' (flen ls (k+1)) (u8s (fcat ls (k+1)))):=by
       rw[HF.out,HG.out];exact hid hown2
      clear hown2 hown hgr hbel hbs hcl
      go_wp2
      go_roundw
      case rel=>exact⟨k+1,by omega,by go_num,HO.out,hbel2⟩
      case measure=>simp [intOf];omega
    ·have hk2:k=ls.length:=by omega
     subst hk2
     go_wp2
     go_ret
     exact⟨_,rfl,hown,hbel⟩
def crcTail (l:List UInt8):List UInt8:=[UInt8.ofNat (crcExt 65535 l),UInt8.ofNat (crcExt 65535 l/256)]
theorem bel_alloc2 (w:World) (o1 o2:Obj):Below w.heap.size w ((w.alloc o1).alloc o2):=
 ((Below.refl _ _).alloc (Nat.le_refl _) _).alloc (by simp) _
def appW (w:World) (v:Value) (s:Nat):World:=
 (w.alloc (.cells #[.int .u8 ((s:Int)%256),.int .u8 ((s:Int)/256)] 5)).alloc (.cells #[v,.slice (some ⟨w.heap.size,0,none⟩) 2 2] 50)
theorem appW_cells (w:World) (v:Value) (s:Nat) (ls:List (List UInt8)) (h2:ls.length=2):∀i,i<ls.length→
  (appW w v s).cell? ⟨w.heap.size+1,0+i,none⟩=some (([v,.slice (some ⟨w.heap.size,0,none⟩) 2 2]:List Value).getD i undef):=by
 intro i hi
 rw[h2] at hi
 unfold appW
 rw[World.cell?_alloc_at _ _ _ _ (by simp)]
 match i,hi with
 |0,_=>rfl
 |1,_=>rfl
theorem appW_bs (w:World) (v:Value) (s:Nat) (hs:s<65536) (l:List UInt8) (hv:Bs w v l):∀i,i<[l,[UInt8.ofNat s,UInt8.ofNat (s/256)]].length→
  Bs (appW w v s) (([v,.slice (some ⟨w.heap.size,0,none⟩) 2 2]:List Value).getD i undef) ([l,[UInt8.ofNat s,UInt8.ofNat (s/256)]].getD i []):=by
 intro i hi
 match i,hi with
 |0,_=>exact hv.keep (bel_alloc2 w _ _)
 |1,_=>
  refine Bs.mk (l:=[UInt8.ofNat s,UInt8.ofNat (s/256)]) (Nat.le_refl 2) (by unfold maxLen;decide) ?_
  intro i hi
  unfold appW
  rw[World.cell?_alloc_past _ _ _ (by simp),World.cell?_alloc_at _ _ _ _ rfl]
  match i,hi with
  |0,_=>simp
  |1,_=>simp;omega
theorem append_any (v:Value) (l:List UInt8) (w:World) (hv:Bs w v l) (hl:l.length≤140737488355326):
  Calls Tryz.prog 157 #[v] w fun r w'=>∃v',r=.returned v'∧w'.ownsRow w.heap.size 5 1 v' (l.length+2) (u8s (l++crcTail l))∧Below w.heap.size w w':=by
 have hs:=crcExt_lt l (show 65535<65536 by decide)
 have ht:crcTail l=[UInt8.ofNat (crcExt 65535 l),UInt8.ofNat (crcExt 65535 l/256)]:=rfl
 have HS:=hid (sum_any v l w hv)
 generalize crcExt 65535 l=s at*
 have hfl:fcat [l,crcTail l] 2=l++crcTail l:=by simp [fcat]
 have hll:flen [l,crcTail l] 2=l.length+2:=by unfold flen;rw[hfl,ht];simp
 have HW:=hid (appW_cells w v s [l,crcTail l] rfl)
 have HB:=appW_bs w v s hs l hv
 rw[←ht] at HB
 replace HB:=hid HB
 have HC:=hid (concat_any (w.heap.size+1) 0 2 [v,.slice (some ⟨w.heap.size,0,none⟩) 2 2] [l,crcTail l] (appW w v s) (by show 0<flen [l,crcTail l] 2;omega) (by show flen [l,crcTail l] 2≤_;omega) (Nat.le_refl 2) (by decide) HW.out HB.out)
 have HT:=hid ht
 have HF:=hid hfl
 have HL:=hid hll
 clear ht hfl hll HW HB
 have hv2:=hv
 obtain⟨a,c,rfl,_⟩:=hv2
 clear hv
 go_enter Tryz.func157,Tryz.ntmps157
 go_wp2_with (first|(go_at_call 181;refine HS.out.mono ?_;rintro r w1 ⟨rfl,rfl⟩)|(go_at_call 182;refine HC.out.mono ?_;rintro r w1 ⟨v',rfl,hown,hbel⟩))
 go_ret
 refine⟨_,rfl,?_,(bel_alloc2 w _ _).trans (hbel.mono (by simp [appW];omega))⟩
 rw[←HF.out,←HL.out]
 exact own_lower hown (by simp [appW];omega)
def crcChk (l:List UInt8):Bool:=decide (2≤l.length)&&((l.getD (l.length-2) 0).toNat==crcExt 65535 (l.take (l.length-2))%256)&&((l.getD (l.length-1) 0).toNat==crcExt 65535 (l.take (l.length-2))/256)
theorem Bs.take {w:World} {b o c:Nat} {l:List UInt8} (h:Bs w (.slice (some ⟨b,o,none⟩) l.length c) l) (k:Nat) (hk:k≤l.length):Bs w (.slice (some ⟨b,o,none⟩) k c) (l.take k):=by
 obtain⟨a,c',hv,h1,h2,h3,h4⟩:=h
 cases hv
 have e:(l.take k).length=k:=by simp;omega
 refine⟨_,_,by rw[e],by omega,h2,h3,fun hne=>?_⟩
 have hl:l≠[]:=by rintro rfl;simp at hne
 obtain⟨b',o',hb,hc⟩:=h4 hl
 cases hb
 refine⟨b,o,rfl,fun i hi=>?_⟩
 rw[e] at hi
 rw[hc i (by omega)]
 have:(l.take k).getD i 0=l.getD i 0:=by simp [List.getD,hi]
 rw[this]
theorem check_any (v:Value) (l:List UInt8) (w:World) (hv:Bs w v l):
  Calls Tryz.prog 175 #[v] w fun r w'=>r=.returned (.bool (crcChk l))∧Below w.heap.size w w':=by
 have hlen:=hv.len
 unfold maxLen at hlen
 by_cases hl:l.length<2
 ·obtain ⟨a,k,rfl,_⟩:=hv
  have hr:crcChk l=false:=by unfold crcChk;simp;omega
  replace hr:=hid hr
  go_enter Tryz.func175,Tryz.ntmps175
  go_wp2
  go_ret
  exact⟨by rw[hr.out];rfl,Below.refl _ _⟩
 ·obtain ⟨b,o,c,rfl,h1,h2,hcell⟩:=hv.at (by rintro rfl;simp at hl)
  have HS:=hid (sum_any _ _ w (hv.take (l.length-2) (by omega)))
  have hc0:=hcell (l.length-2) (by omega)
  have hc1:=hcell (l.length-1) (by omega)
  clear hcell hv
  unfold maxLen at h2
  have hs:=crcExt_lt (l.take (l.length-2)) (show 65535<65536 by decide)
  have hr:crcChk l=(((l.getD (l.length-2) 0).toNat==crcExt 65535 (l.take (l.length-2))%256)&&((l.getD (l.length-1) 0).toNat==crcExt 65535 (l.take (l.length-2))/256)):=by
   unfold crcChk
   rw[decide_eq_true (by omega),Bool.true_and]
  have hb0:=byte_lt (l.getD (l.length-2) 0)
  have hb1:=byte_lt (l.getD (l.length-1) 0)
  generalize crcExt 65535 (l.take (l.length-2))=s at*
  generalize (l.getD (l.length-2) 0).toNat=x0 at*
  generalize (l.getD (l.length-1) 0).toNat=x1 at*
  replace hr:=hid hr
  obtain⟨n,hn⟩:∃n,l.length=n+2:=⟨l.length-2,by omega⟩
  rw[hn] at HS hc0 hc1 h1
  rw[hn]
  rw[show n+2-2=n by omega] at HS hc0
  rw[show n+2-1=n+1 by omega] at hc1
  clear hn hl hlen
  go_enter Tryz.func175,Tryz.ntmps175
  go_wp2_with (first|(go_at_call 181;refine HS.out.mono ?_;rintro r w1 ⟨rfl,rfl⟩)|fail)
  all_goals
   go_ret
   refine⟨?_,Below.refl _ _⟩
   rw[hr.out]
   refine ret_bool ?_
   rw[Bool.eq_iff_iff]
   simp
   omega
end Go.Proofs.YtoaoejaodhedaaaGreat
