import Derived.Test.YtoaoejaodhedaaaGreatQ26
namespace Go.Proofs.YtoaoejaodhedaaaGreat
open Go.RowKit
set_option maxHeartbeats 6400000
set_option maxRecDepth 100000
structure Rx where
 ch:Int
 t15:Int
 t35:Int
 bs:List UInt8
 f1:Int
 f2:Int
 fl:Int
 act:Bool
 la:Int
 id:Int
def Rx.cells (x:Rx) (a:Option Addr) (n c:Nat):Array Value:=
 #[.int .i64 x.ch,.int .i64 x.t15,.int .i64 x.t35,.slice a n c,.int .i64 x.f1,.int .i64 x.f2,.int .i64 x.fl,.bool x.act,.int .i64 x.la,.int .i64 x.id]
def RxAt (w:World) (g:Nat) (x:Rx) (a:Option Addr) (n c:Nat):Prop:=w.heap[g]?=some (.cells (x.cells a n c) 209)
theorem RxAt.keep {w w':World} {g:Nat} {x:Rx} {a:Option Addr} {n c:Nat} (h:RxAt w g x a n c) (hb:Below w.heap.size w w'):RxAt w' g x a n c:=bB h hb
theorem RxAt.keeps {w w':World} {F:Nat→Prop} {g:Nat} {x:Rx} {a:Option Addr} {n c:Nat} (h:RxAt w g x a n c) (hk:Keeps F w w') (hn:¬F g):RxAt w' g x a n c:=bG h hk hn
theorem RxAt.cell {w:World} {g:Nat} {x:Rx} {a:Option Addr} {n c:Nat} (h:RxAt w g x a n c) (i:Nat):w.cell? ⟨g,i,none⟩=(x.cells a n c)[i]?:=bA h i
theorem RxAt.free {w:World} {g:Nat} {x:Rx} {a:Option Addr} {n c:Nat} (h:RxAt w g x a n c) (i:Nat):w.frozen? ⟨g,i,none⟩=false:=bJ h i
theorem RxAt.lt {w:World} {g:Nat} {x:Rx} {a:Option Addr} {n c:Nat} (h:RxAt w g x a n c):g<w.heap.size:=cI h
def Rx.empty (x:Rx):Rx:={x with bs:=[],f1:=0,f2:=0,fl:=0,act:=false}
def RxTaken (w:World) (g:Nat) (x:Rx) (a:Option Addr) (n c:Nat) (r:Ending) (w':World):Prop:=
 r=.returned (.agg #[.slice a n c,.int .i64 x.f1,.int .i64 x.f2,.int .i64 x.fl])∧RxAt w' g x.empty none 0 0∧Keeps (· =g) w w'
theorem rxtake_any (g:Nat) (x:Rx) (a:Option Addr) (n c:Nat) (w:World) (hx:RxAt w g x a n c):
  Calls Tryz.prog 144 #[.pointer (some ⟨g,0,none⟩)] w (RxTaken w g x a n c):=by
 have hg:=hx.lt;have c3:w.cell? ⟨g,3,none⟩=some (.slice a n c):=hx.cell 3;have c4:w.cell? ⟨g,4,none⟩=some (.int .i64 x.f1):=hx.cell 4;have c5:w.cell? ⟨g,5,none⟩=some (.int .i64 x.f2):=hx.cell 5;have c6:w.cell? ⟨g,6,none⟩=some (.int .i64 x.fl):=hx.cell 6;have c7:w.cell? ⟨g,7,none⟩=some (.bool x.act):=hx.cell 7;have f3:w.frozen? ⟨g,3,none⟩=false:=hx.free 3;have f4:w.frozen? ⟨g,4,none⟩=false:=hx.free 4;have f5:w.frozen? ⟨g,5,none⟩=false:=hx.free 5;have f6:w.frozen? ⟨g,6,none⟩=false:=hx.free 6;have f7:w.frozen? ⟨g,7,none⟩=false:=hx.free 7;have HX:=bC hx;clear hx;go_enter Tryz.func144,Tryz.ntmps144;go_wp2;refine bodyPost_ret (v:=.agg #[.slice a n c,.int .i64 x.f1,.int .i64 x.f2,.int .i64 x.fl]) (by simp [results,Tryz.results144,go_sem]) rfl ?_;refine⟨rfl,?_,?_⟩
 ·refine RxAt.keep (RxAt.keep ?_ (bH _ _)) (bH _ _)
  refine bS (c:=#[.int .i64 x.ch,.int .i64 x.t15,.int .i64 x.t35,.slice none 0 0,.int .i64 0,.int .i64 0,.int .i64 0,.bool x.act,.int .i64 x.la,.int .i64 x.id]) ?_ rfl;refine bS (c:=#[.int .i64 x.ch,.int .i64 x.t15,.int .i64 x.t35,.slice none 0 0,.int .i64 0,.int .i64 0,.int .i64 x.fl,.bool x.act,.int .i64 x.la,.int .i64 x.id]) ?_ rfl;refine bS (c:=#[.int .i64 x.ch,.int .i64 x.t15,.int .i64 x.t35,.slice none 0 0,.int .i64 0,.int .i64 x.f2,.int .i64 x.fl,.bool x.act,.int .i64 x.la,.int .i64 x.id]) ?_ rfl;refine bS (c:=#[.int .i64 x.ch,.int .i64 x.t15,.int .i64 x.t35,.slice none 0 0,.int .i64 x.f1,.int .i64 x.f2,.int .i64 x.fl,.bool x.act,.int .i64 x.la,.int .i64 x.id]) ?_ rfl;exact bS HX.out rfl
 ·exact ((bL (bL (bL (bL (bL (Keeps.refl _ _) _ _) _ _) _ _) _ _) _ _).trans (Keeps.of_below (bH _ _)) (fun _ _ h=>h)).trans (Keeps.of_below (bH _ _)) (fun _ _ h=>h)
theorem rxdead_yes (g:Nat) (x:Rx) (a:Option Addr) (n c:Nat) (w:World) (hx:RxAt w g x a n c) (ha:x.act=true) (h1:0≤x.la) (h2:x.la≤1152921504606846976) (h3:0≤x.t35) (h4:x.t35≤40000) (h5:0≤x.ch) (h6:x.ch≤40000):
  Calls Tryz.prog 107 #[.pointer (some ⟨g,0,none⟩)] w fun r w'=>r=.returned (.tuple #[.int .i64 (x.la+x.t35+x.ch),.bool true])∧Below w.heap.size w w':=by
 have c7:w.cell? ⟨g,7,none⟩=some (.bool true):=by rw[hx.cell 7];simp [Rx.cells,ha]
 have c0:w.cell? ⟨g,0,none⟩=some (.int .i64 x.ch):=hx.cell 0;have c2:w.cell? ⟨g,2,none⟩=some (.int .i64 x.t35):=hx.cell 2;have c8:w.cell? ⟨g,8,none⟩=some (.int .i64 x.la):=hx.cell 8;have s1:IntKind.i64.wrap (x.la+x.t35)=x.la+x.t35:=IntWalk.i64_in _ (by omega);have s2:IntKind.i64.wrap (x.la+x.t35+x.ch)=x.la+x.t35+x.ch:=IntWalk.i64_in _ (by omega);clear hx ha;go_enter Tryz.func107,Tryz.ntmps107;go_wp2;go_quiet (fail);go_wp2;go_ret2;exact⟨rfl,below_drewN (Below.refl _ _) _⟩
def orI (a b:Int):Int:=bits .or .i64 a b
def andI (a b:Int):Int:=bits .and .i64 a b
def gapF (x:Rx) (sil:Int):Int:=if x.act=true∧x.t15<sil then orI x.fl 4 else x.fl
def Rx.opened (x:Rx) (t sil:Int):Rx:={x with act:=true,f1:=if x.act=true then x.f1 else t,fl:=gapF x sil}
def Rx.add (x:Rx) (t:Int) (v:UInt8) (fl sil:Int):Rx:=
  {x with act:=true,f1:=if x.act=true then x.f1 else t,f2:=t,la:=t,
           bs:=if x.bs.length<256 then x.bs++[v] else x.bs,
           fl:=orI (if x.bs.length<256 then gapF x sil else orI (gapF x sil) 8) (andI fl 3)}
def RxAdded (w:World) (g:Nat) (base:Nat) (x y:Rx) (a:Option Addr) (c:Nat) (r:Ending) (w':World):Prop:=
 ∃a' c',r=.returned (.tuple #[])∧RxAt w' g y a' y.bs.length c'∧w'.ownsRow base 5 1 (.slice a' y.bs.length c') y.bs.length (u8s y.bs)∧NewOr w (.slice a x.bs.length c) (.slice a' y.bs.length c')∧Keeps (fun j=>j=g∨(Value.slice a x.bs.length c).ownBlock=some j) w w'
structure RxMid (w:World) (g base:Nat) (x:Rx) (a:Option Addr) (c:Nat) (t:Int) (v:UInt8) (fl sil:Int) (a':Option Addr) (c':Nat) (W:World):Prop where
 at_:RxAt W g {x.opened t sil with bs:=(x.add t v fl sil).bs,fl:=if x.bs.length<256 then gapF x sil else orI (gapF x sil) 8} a' (x.add t v fl sil).bs.length c'
 own:W.ownsRow base 5 1 (.slice a' (x.add t v fl sil).bs.length c') (x.add t v fl sil).bs.length (u8s (x.add t v fl sil).bs)
 new:NewOr w (.slice a x.bs.length c) (.slice a' (x.add t v fl sil).bs.length c')
 kp:Keeps (fun j=>j=g∨(Value.slice a x.bs.length c).ownBlock=some j) w W
 ev:W.heap[w.heap.size]?=some (.cells #[.int .i64 t,.int .u8 (v.toNat:Int),.int .i64 fl] 132)
theorem rxadd_any (g base:Nat) (x:Rx) (a:Option Addr) (c:Nat) (t:Int) (v:UInt8) (fl sil:Int) (w:World) (hx:RxAt w g x a x.bs.length c) (hown:w.ownsRow base 5 1 (.slice a x.bs.length c) x.bs.length (u8s x.bs)) (hg:g<base) (hb:base≤w.heap.size):
    Calls Tryz.prog 145 #[.pointer (some ⟨g,0,none⟩),.agg #[.int .i64 t,.int .u8 (v.toNat:Int),.int .i64 fl],.int .i64 sil] w (RxAdded w g base x (x.add t v fl sil) a c):=by
  obtain⟨i5,hi,hz0,hz1,hz2⟩:=info_parts infoB;have hgw:g<w.heap.size:=hx.lt;obtain⟨W0,hW0⟩:∃W,w.alloc (.cells #[.int .i64 t,.int .u8 (v.toNat:Int),.int .i64 fl] 132)=W:=⟨_,rfl⟩
  have hb0:Below w.heap.size w W0:=by rw[←hW0];exact bH w _
  have hzz:W0.heap.size=w.heap.size+1:=by rw[←hW0];simp
  have p0:W0.heap[w.heap.size]?=some (.cells #[.int .i64 t,.int .u8 (v.toNat:Int),.int .i64 fl] 132):=by rw[←hW0];exact bI w _
  have lx:=hx.keep hb0;have HAP:Hid (∀k,(Value.slice a x.bs.length c).ownBlock=some k→base≤k∧k<w.heap.size):=fun k h=>hown.lt k h
  have HX:=bC lx;have OW:=bC (bF (F:=fun _=>False) hown (Keeps.of_below hb0) (fun _ _ e=>e));have HW0:=bC hW0;have HB0:=bC hb0;have P0:=bC p0;have HZ:=bC hzz;have c7:W0.cell? ⟨g,7,none⟩=some (.bool x.act):=lx.cell 7;have c1:W0.cell? ⟨g,1,none⟩=some (.int .i64 x.t15):=lx.cell 1;have c6:W0.cell? ⟨g,6,none⟩=some (.int .i64 x.fl):=lx.cell 6;have e0:=cG p0 0 rfl;have c4:W0.cell? ⟨g,4,none⟩=some (.int .i64 x.f1):=lx.cell 4;have f4:=lx.free 4;have f6:=lx.free 6;have f7:=lx.free 7;clear hx hown lx hW0 hb0 p0 hzz;go_enter Tryz.func145,Tryz.ntmps145;go_upto_region 1 with(fail)
  rw[HW0.out];go_upto_if 14 with(fail)
  go_cut [] from 13 to 36 (fun wc=>Hid (RxAt wc g (x.opened t sil) a x.bs.length c∧wc.heap[w.heap.size]?=some (.cells #[.int .i64 t,.int .u8 (v.toNat:Int),.int .i64 fl] 132)∧Keeps (· =g) W0 wc))
  case first=>
    have h3:=HX.out;unfold RxAt Rx.cells at h3;cases hact:x.act with
    |false=>
      have ho:Hid (x.opened t sil={x with act:=true,f1:=t}):=by
        show _=_;unfold Rx.opened gapF;rw[hact];simp
      clear hact h3;go_wp2;go_meet
      case rel=>
        show _∧_∧_;rw[ho.out];exact⟨bS (bS HX.out rfl) rfl,bG P0.out (bL (bL (Keeps.refl (· =g) _) _ _) _ _) (fun e=>by have e':w.heap.size=g:=e;omega),bL (bL (Keeps.refl (· =g) _) _ _) _ _⟩
    |true=>
      rw[hact] at h3;have HXT:Hid (RxAt W0 g {x with act:=true} a x.bs.length c):=h3;by_cases h2:x.t15<sil
      · have ho:Hid (x.opened t sil={x with act:=true,fl:=orI x.fl 4}):=by
          show _=_;unfold Rx.opened gapF;rw[if_pos hact,if_pos ⟨hact,h2⟩]
        have d2:decide (x.t15<sil)=true:=decide_eq_true h2;clear hact h3 h2;go_wp2;go_meet
        case rel=>
          show _∧_∧_;rw[ho.out];exact⟨bS HXT.out rfl,bG P0.out (bL (Keeps.refl (· =g) _) _ _) (fun e=>by have e':w.heap.size=g:=e;omega),bL (Keeps.refl (· =g) _) _ _⟩
      · have ho:Hid (x.opened t sil={x with act:=true}):=by
          show _=_;unfold Rx.opened gapF;rw[if_pos hact,if_neg (fun h=>h2 h.2)]
        have d2:decide (x.t15<sil)=false:=decide_eq_false h2;clear hact h3 h2;go_wp2;go_meet
        case rel=>
          show _∧_∧_;rw[ho.out];exact⟨HXT.out,P0.out,Keeps.refl _ _⟩
  case rest=>
  obtain⟨WA,hWA⟩:∃W,W=wc:=⟨_,rfl⟩
  subst hWA;have HC1:=hcut;clear c7 c1 c4 c6 e0 f4 f6 f7;have own1:=bC (bF OW.out HC1.out.2.2 (fun k hk e=>by have h1:=(HAP.out k hk).1;have h2:k=g:=e;omega));have lx:RxAt WA g (x.opened t sil) a x.bs.length c:=HC1.out.1;have p1:=HC1.out.2.1;have hs1:w.heap.size<WA.heap.size:=cI p1;have K1:Hid (Keeps (· =g) w WA):=(Keeps.of_below HB0.out).trans HC1.out.2.2 (fun _ _ e=>e);have c3:WA.cell? ⟨g,3,none⟩=some (.slice a x.bs.length c):=lx.cell 3;have HL:=bC lx;have HP1:=bC p1;go_upto_if 41 with(fail)
  go_cut [] from 39 to 60 (fun wd=>∃a' c',Hid (RxMid w g base x a c t v fl sil a' c' wd))
  case first=>
    by_cases hn:x.bs.length<256
    · have hn':decide (x.bs.length<256)=true:=decide_eq_true hn
      have HAL:Hid ((x.add t v fl sil).bs=x.bs++[v]):=if_pos hn;have cA3:∀X,(WA.alloc X).cell? ⟨g,3,none⟩=some (.slice a x.bs.length c):=fun X=>(lx.keep (bH _ X)).cell 3
      have W3c:Hid ((WA.alloc (.cells #[.int .u8 (v.toNat:Int)] 5)).cell? ⟨g,3,none⟩=some (.slice a x.bs.length c)):=(lx.keep (bH _ _)).cell 3;have e1:WA.cell? ⟨w.heap.size,1,none⟩=some (.int .u8 (v.toNat:Int)):=bA p1 1;have hgo:Hid (some g≠(Value.slice a x.bs.length c).ownBlock):=fun h=>by have:=(HAP.out g h.symm).1;omega
      have hpo:Hid (some w.heap.size≠(Value.slice a x.bs.length c).ownBlock):=fun h=>by have:=(HAP.out _ h.symm).2;omega
      have hg1:g<WA.heap.size:=by omega
      have HB2:Hid (∀w2,(WA.alloc (.cells #[.int .u8 (v.toNat:Int)] 5)).drew.grownBy w2 (Value.slice a x.bs.length c).ownBlock→RxAt w2 g (x.opened t sil) a x.bs.length c∧w2.heap[w.heap.size]?=some (.cells #[.int .i64 t,.int .u8 (v.toNat:Int),.int .i64 fl] 132)):=fun w2 h=>
        ⟨(h.block g (by show g<(WA.alloc _).heap.size;simp;omega) hgo.out).trans (lx.keep (bH _ _).drew),(h.block w.heap.size (by show w.heap.size<(WA.alloc _).heap.size;simp;omega) hpo.out).trans (bB p1 (bH _ _).drew)⟩
      clear lx p1;go_upto_region 8 with(fail)
      go_region_law (refine step_appN rfl (.tmp 46) (.tmp 49) 50 rfl base 5 i5 (.int .u8 0) 1 1 Tryz.underlying50 hi hz0 hz1 hz2 rfl (by decide) (.slice a x.bs.length c) x.bs.length (u8s x.bs) rfl (own1.out.alloc _) ⟨WA.heap.size,0,none⟩ 1 1 [.int .u8 (v.toNat:Int)] rfl rfl (newsNew WA [.int .u8 (v.toNat:Int)] _) (by intro u hu;simp at hu;subst hu;rfl) (by unfold maxLen;omega) (by omega) (by simp;omega) ?_;intro v' w2 hown2 hgr hnew;obtain⟨a',c',rfl⟩:=bN hown2;have y3:w2.cell? ⟨g,3,none⟩=some (.slice a x.bs.length c):=(HB2.out w2 hgr).1.cell 3;have z3:w2.frozen? ⟨g,3,none⟩=false:=(HB2.out w2 hgr).1.free 3)
      all_goals
        have hb2:=HB2.out w2 hgr;have hk2:Keeps (fun j=>j=g∨(Value.slice a x.bs.length c).ownBlock=some j) w w2:=((K1.out.mono (fun k _ h=>Or.inl h)).trans ((Keeps.of_below (bH WA (.cells #[.int .u8 (v.toNat:Int)] 5)).drew).trans (Keeps.of_grown (F:=fun j=>j=g∨(Value.slice a x.bs.length c).ownBlock=some j) hgr (fun k hk=>.inr hk)) (fun _ _ h=>h)) (fun _ _ h=>h))
        have n3:NewOr w (.slice a x.bs.length c) (.slice a' (x.bs.length+1) c'):=by
          rcases hnew with h|⟨j,h,hj⟩
          · exact .inl h
          · refine .inr ⟨j,h,?_⟩
            have hj':(WA.alloc (.cells #[.int .u8 (v.toNat:Int)] 5)).heap.size≤j:=hj;simp at hj';omega
        have HM:Hid (∀X,X=w2.setCell ⟨g,3,none⟩ (.slice a' (x.bs.length+1) c')∨X=(w2.setCell ⟨g,3,none⟩ (.slice a' (x.bs.length+1) c')).drew→RxMid w g base x a c t v fl sil a' c' X):=by
          have hl:(x.bs++[v]).length=x.bs.length+1:=by simp
          have q:RxMid w g base x a c t v fl sil a' c' (w2.setCell ⟨g,3,none⟩ (.slice a' (x.bs.length+1) c')):=by
            refine⟨?_,?_,?_,?_,?_⟩
            · rw[HAL.out,hl,if_pos hn]
              exact bS hb2.1 rfl
            · rw[HAL.out,hl,u8s_append]
              exact bF hown2 (setK (p:=g)) (fun k hk e=>by have h1:=(hown2.lt k hk).1;have h2:k=g:=e;omega)
            · rw[HAL.out,hl]
              exact n3
            · exact hk2.set ⟨g,3,none⟩ _ (.inl rfl)
            · exact(cH (by omega)).trans hb2.2
          intro X hX;rcases hX with rfl|rfl
          · exact q
          · exact⟨q.at_,q.own,q.new,q.kp.trans (Keeps.of_below (Below.refl _ _).drew) (fun _ _ e=>e),q.ev⟩
        clear hb2 hk2 n3 hown2 hgr hnew y3 z3 c3 cA3 e1;go_wp2;go_meet
        case rel=>exact⟨a',c',HM.out _ (by first|exact .inl rfl|exact .inr rfl)⟩
    · have hn':decide (x.bs.length<256)=false:=decide_eq_false hn
      have HAL:Hid ((x.add t v fl sil).bs=x.bs):=if_neg hn;have c6:WA.cell? ⟨g,6,none⟩=some (.int .i64 (gapF x sil)):=lx.cell 6;have f6:=lx.free 6;clear lx p1;go_wp2;go_meet
      case rel=>
        refine⟨a,c,?_,?_,?_,?_,?_⟩
        · rw[HAL.out,if_neg hn]
          exact bS HL.out rfl
        · rw[HAL.out]
          exact bF own1.out (setK (p:=g)) (fun k hk e=>by have h1:=(HAP.out k hk).1;have h2:k=g:=e;omega)
        · rw[HAL.out]
          exact .inl rfl
        · exact(K1.out.mono (fun k _ h=>Or.inl h)).set ⟨g,6,none⟩ _ (.inl rfl)
        · exact(cH (by omega)).trans HP1.out
  case rest=>
  obtain⟨a',c',HM⟩:=hcut;have L3:=HM.out.at_;have c6:wc.cell? ⟨g,6,none⟩=some (.int .i64 (if x.bs.length<256 then gapF x sil else orI (gapF x sil) 8)):=L3.cell 6;obtain⟨F0,hF0⟩:∃F,(if x.bs.length<256 then gapF x sil else orI (gapF x sil) 8)=F:=⟨_,rfl⟩
  rw[hF0] at c6;have c5:wc.cell? ⟨g,5,none⟩=some (.int .i64 x.f2):=L3.cell 5;have c8:wc.cell? ⟨g,8,none⟩=some (.int .i64 x.la):=L3.cell 8;have f6:=L3.free 6;have f5:=L3.free 5;have f8:=L3.free 8;have q0:wc.cell? ⟨w.heap.size,0,none⟩=some (.int .i64 t):=bA HM.out.ev 0;have q2:wc.cell? ⟨w.heap.size,2,none⟩=some (.int .i64 fl):=bA HM.out.ev 2;have HF0:=bC hF0;clear L3 hF0 c3 own1 HC1 HP1 HL lx p1;go_wp2;go_region
  all_goals
    go_wp2;go_end0;obtain⟨W4,hW4⟩:∃W,((wc.setCell ⟨g,6,none⟩ (.int .i64 (bits .or .i64 F0 (bits .and .i64 fl 3)))).setCell ⟨g,5,none⟩ (.int .i64 t)).setCell ⟨g,8,none⟩ (.int .i64 t)=W:=⟨_,rfl⟩
    have hk4:Keeps (· =g) wc W4:=by rw[←hW4];exact bL (bL (bL (Keeps.refl _ _) _ _) _ _) _ _
    have hl4:RxAt W4 g (x.add t v fl sil) a' (x.add t v fl sil).bs.length c':=by
      have e1:x.add t v fl sil={x.opened t sil with bs:=(x.add t v fl sil).bs,fl:=orI F0 (andI fl 3),f2:=t,la:=t}:=by
        rw[←HF0.out];rfl
      have h:=HM.out.at_;rw[HF0.out] at h;have h4:RxAt W4 g {x.opened t sil with bs:=(x.add t v fl sil).bs,fl:=orI F0 (andI fl 3),f2:=t,la:=t} a' (x.add t v fl sil).bs.length c':=by rw[←hW4];exact bS (bS (bS h rfl) rfl) rfl
      rw[←e1] at h4;exact h4
    have ho4:=bF HM.out.own hk4 (fun k hk e=>by have h1:=(HM.out.own.lt k hk).1;have h2:k=g:=e;omega)
    first
      |(rw[hW4];exact⟨a',c',rfl,hl4,ho4,HM.out.new,HM.out.kp.trans hk4 (fun _ _ h=>.inl h)⟩)
      | (refine⟨a',c',rfl,?_,?_,HM.out.new,?_⟩
         · exact hW4▸hl4
         · exact hW4▸bF (F:=fun _=>False) ho4 (Keeps.of_below (Below.refl _ _).drew) (fun _ _ f=>f)
         · exact hW4▸(HM.out.kp.trans hk4 (fun _ _ h=>.inl h)).trans (Keeps.of_below (Below.refl _ _).drew) (fun _ _ h=>h))
def Rx.sil (x:Rx) (t:Int):Int:=if x.la<t-x.ch then t-x.ch-x.la else 0
def Rx.ends (x:Rx) (t:Int):Bool:=x.act&&decide (x.t35≤x.sil t)
def Rx.char (x:Rx) (t:Int) (v:UInt8) (fl:Int):Rx:=(if x.ends t=true then x.empty else x).add t v fl (x.sil t)
def RxCharred (w:World) (g:Nat) (base:Nat) (x y:Rx) (a:Option Addr) (c:Nat) (V:Bool) (r:Ending) (w':World):Prop:=
 ∃a' c' a2 n2 c2 z1 z2 z3,r=.returned (.tuple #[.agg #[.slice a2 n2 c2,.int .i64 z1,.int .i64 z2,.int .i64 z3],.bool V,.int .i64 0])∧RxAt w' g y a' y.bs.length c'∧w'.ownsRow base 5 1 (.slice a' y.bs.length c') y.bs.length (u8s y.bs)∧
  (∀k,(Value.slice a' y.bs.length c').ownBlock=some k→(Value.slice a x.bs.length c).ownBlock=some k∨w.heap.size≤k)∧Keeps (fun j=>j=g∨(Value.slice a x.bs.length c).ownBlock=some j) w w'
theorem rxchar_ok (g base:Nat) (x:Rx) (a:Option Addr) (c:Nat) (t:Int) (v:UInt8) (fl:Int) (w:World) (hx:RxAt w g x a x.bs.length c) (hown:w.ownsRow base 5 1 (.slice a x.bs.length c) x.bs.length (u8s x.bs)) (hg:g<base) (hb:base≤w.heap.size)
  (h1:0≤x.la) (h2:x.la≤t) (h3:x.id≤t) (h4:t≤1152921504606846976) (h5:0≤x.ch) (h6:x.ch≤40000) (V:Bool) (hV:Hid (x.ends t=V)):
  Calls Tryz.prog 105 #[.pointer (some ⟨g,0,none⟩),.agg #[.int .i64 t,.int .u8 (v.toNat:Int),.int .i64 fl]] w (RxCharred w g base x (x.char t v fl) a c V):=by
 have c0:w.cell? ⟨g,0,none⟩=some (.int .i64 x.ch):=hx.cell 0;have c2:w.cell? ⟨g,2,none⟩=some (.int .i64 x.t35):=hx.cell 2;have c7:w.cell? ⟨g,7,none⟩=some (.bool x.act):=hx.cell 7;have c8:w.cell? ⟨g,8,none⟩=some (.int .i64 x.la):=hx.cell 8;have c9:w.cell? ⟨g,9,none⟩=some (.int .i64 x.id):=hx.cell 9;have d0:decide (t<0)=false:=decide_eq_false (by omega);have d1:decide (t<x.la)=false:=decide_eq_false (by omega);have d2:decide (t<x.id)=false:=decide_eq_false (by omega);have d3:decide (1152921504606846976<t)=false:=decide_eq_false (by omega);have s1:IntKind.i64.wrap (t-x.ch)=t-x.ch:=IntWalk.i64_in _ (by omega);have s2:IntKind.i64.wrap (t-x.ch-x.la)=t-x.ch-x.la:=IntWalk.i64_in _ (by omega);have hgw:=hx.lt;have HX:=bC hx;have HO:=bC hown;clear hx hown;obtain⟨S,hS⟩:=gE (x.sil t);have HS:Hid ((if x.la<t-x.ch then t-x.ch-x.la else 0)=S):=hS;have HS2:=bC hS;clear hS;go_enter Tryz.func105,Tryz.ntmps105;go_wp2_with fail;go_quiet (fail);go_wp2_with fail;go_region;rw[HS.out];obtain⟨W0,hW0⟩:∃W,W=World.drewN ((w.alloc (.cells #[.int .i64 t,.int .u8 (v.toNat:Int),.int .i64 fl] 132)).alloc (.cells #[.slice none 0 0,.int .i64 0,.int .i64 0,.int .i64 0] 179)) (nq+1):=⟨_,rfl⟩
 rw[←hW0];have hb0:Below w.heap.size w W0:=by rw[hW0];exact below_drewN (cJ (bH w _) (Nat.le_refl _) _) _
 have hz0:W0.heap.size=w.heap.size+2:=by rw[hW0];simp
 have p0:W0.heap[w.heap.size]?=some (.cells #[.int .i64 t,.int .u8 (v.toNat:Int),.int .i64 fl] 132):=by rw[hW0];exact bB (bI w _) (below_drewN (bH _ _) _)
 have p1:W0.heap[w.heap.size+1]?=some (.cells #[.slice none 0 0,.int .i64 0,.int .i64 0,.int .i64 0] 179):=by
  rw[hW0];have:=bI (w.alloc (.cells #[.int .i64 t,.int .u8 (v.toNat:Int),.int .i64 fl] 132)) (.cells #[.slice none 0 0,.int .i64 0,.int .i64 0,.int .i64 0] 179);simpa using this
 have e0:=cG p0 0 rfl;have e1:=cG p0 1 rfl;have e2:=cG p0 2 rfl;have x2:W0.cell? ⟨g,2,none⟩=some (.int .i64 x.t35):=(HX.out.keep hb0).cell 2;have x7:W0.cell? ⟨g,7,none⟩=some (.bool x.act):=(HX.out.keep hb0).cell 7;have HX0:=bC (HX.out.keep hb0);have HO0:=bC (bF (F:=fun _=>False) HO.out (Keeps.of_below hb0) (fun _ _ f=>f));have hg0:g<W0.heap.size:=by omega
 have hg1:w.heap.size<W0.heap.size:=by omega
 have hg2:w.heap.size+1<W0.heap.size:=by omega
 have P1:=bC p1;have P0:=bC p0;have B0:=bC hb0;have Z0:=bC hz0;clear c0 c2 c7 c8 c9 hW0 p0 p1 hb0 hz0;cases V with
 |false=>
  have hY:Hid (x.char t v fl=x.add t v fl S):=by
   show _=_;unfold Rx.char;rw[hV.out,HS2.out];rfl
  have HAD:=bC (fun W h o b=>rxadd_any g base x a c t v fl S W h o hg b);rcases (show x.act=false∨(x.act=true∧decide (x.t35≤S)=false) by
   have h:=hV.out
   unfold Rx.ends at h
   rw[HS2.out] at h
   cases hx:x.act with
   |false=>exact .inl rfl
   |true=>rw[hx] at h;exact .inr ⟨rfl,by simpa using h⟩) with d4|⟨d4,d5⟩
  all_goals
   rw[d4] at x7;clear d4;go_wp2_with fail;obtain⟨W1,hW1⟩:∃W,W=W0.alloc (.cells #[.slice none 0 0,.int .i64 0,.int .i64 0,.int .i64 0] 179):=⟨_,rfl⟩
   rw[←hW1];have hb1:Below W0.heap.size W0 W1:=by rw[hW1];exact bH _ _
   have p2:W1.heap[W0.heap.size]?=some (.cells #[.slice none 0 0,.int .i64 0,.int .i64 0,.int .i64 0] 179):=by
    rw[hW1];exact bI _ _
   have HC:=bC (HAD.out W1 (HX0.out.keep hb1) (bF (F:=fun _=>False) HO0.out (Keeps.of_below hb1) (fun _ _ f=>f)) (Nat.le_trans hb (Nat.le_trans B0.out.size hb1.size)));clear hW1 e0 e1 e2 x2 x7;refine HC.out.mono ?_;rintro r w2 ⟨a',c',rfl,hx2,ho2,hn2,hk2⟩;have hk3:∀k,w.heap.size≤k→¬(k=g∨(Value.slice a x.bs.length c).ownBlock=some k):=fun k hk e=>by
    rcases e with e|e
    ·omega
    ·have:=(HO.out.lt k e).2
     omega
   have p1:=bG (bB P1.out hb1) hk2 (hk3 _ (by omega));have p3:=bG p2 hk2 (hk3 _ (by have:=Z0.out;omega));have hne:W0.heap.size≠w.heap.size+1:=by omega
   have HX2:=bC hx2;have HO2:=bC ho2;have HN2:Hid (∀k,(Value.slice a' (x.add t v fl S).bs.length c').ownBlock=some k→(Value.slice a x.bs.length c).ownBlock=some k∨w.heap.size+2≤k):=fun k hk=>by
    rcases hn2 with h|⟨j,h,hj⟩
    ·exact .inl (h▸hk)
    ·rw [h] at hk
     cases hk;have:=hb1.size;have:=Z0.out;exact .inr (by omega)
   have HK2:Hid (Keeps (fun j=>j=g∨(Value.slice a x.bs.length c).ownBlock=some j) w w2):=((Keeps.of_below B0.out).trans (Keeps.of_below hb1) (fun _ _ h=>h)).trans hk2 (fun _ _ h=>h);have HK3:=bC hk3;have hs2:w.heap.size+1<w2.heap.size:=cI p1;obtain⟨u0,u1,u2,u3⟩:w2.cell? ⟨W0.heap.size,0,none⟩=some (.slice none 0 0)∧w2.cell? ⟨W0.heap.size,1,none⟩=some (.int .i64 0)∧w2.cell? ⟨W0.heap.size,2,none⟩=some (.int .i64 0)∧w2.cell? ⟨W0.heap.size,3,none⟩=some (.int .i64 0):=⟨bA p3 0,bA p3 1,bA p3 2,bA p3 3⟩
   obtain⟨y0,y1,y2,y3⟩:w2.cell? ⟨w.heap.size+1,0,none⟩=some (.slice none 0 0)∧w2.cell? ⟨w.heap.size+1,1,none⟩=some (.int .i64 0)∧w2.cell? ⟨w.heap.size+1,2,none⟩=some (.int .i64 0)∧w2.cell? ⟨w.heap.size+1,3,none⟩=some (.int .i64 0):=⟨bA p1 0,bA p1 1,bA p1 2,bA p1 3⟩;obtain⟨z0,z1,z2,z3⟩:w2.frozen? ⟨w.heap.size+1,0,none⟩=false∧w2.frozen? ⟨w.heap.size+1,1,none⟩=false∧w2.frozen? ⟨w.heap.size+1,2,none⟩=false∧w2.frozen? ⟨w.heap.size+1,3,none⟩=false:=⟨bJ p1 0,bJ p1 1,bJ p1 2,bJ p1 3⟩
   go_wp2;obtain⟨W5,hW5⟩:∃W,W=(((w2.setCell ⟨w.heap.size+1,0,none⟩ (.slice none 0 0)).setCell ⟨w.heap.size+1,1,none⟩ (.int .i64 0)).setCell ⟨w.heap.size+1,2,none⟩ (.int .i64 0)).setCell ⟨w.heap.size+1,3,none⟩ (.int .i64 0):=⟨_,rfl⟩;rw[←hW5];have m5:=bX (bX (bX (bX p1 0 (.slice none 0 0)) 1 (.int .i64 0)) 2 (.int .i64 0)) 3 (.int .i64 0);rw[←hW5] at m5;obtain⟨q0,q1,q2,q3⟩:W5.cell? ⟨w.heap.size+1,0,none⟩=some (.slice none 0 0)∧W5.cell? ⟨w.heap.size+1,1,none⟩=some (.int .i64 0)∧W5.cell? ⟨w.heap.size+1,2,none⟩=some (.int .i64 0)∧W5.cell? ⟨w.heap.size+1,3,none⟩=some (.int .i64 0):=⟨bA m5 0,bA m5 1,bA m5 2,bA m5 3⟩;have hk5:Keeps (· =w.heap.size+1) w2 W5:=by rw[hW5];exact bL (bL (bL (bL (Keeps.refl _ _) _ _) _ _) _ _) _ _
   clear u0 u1 u2 u3 y0 y1 y2 y3 z0 z1 z2 z3 hW5 p1 p3;refine bodyPost_ret (v:=.tuple #[.agg #[.slice none 0 0,.int .i64 0,.int .i64 0,.int .i64 0],.bool false,.int .i64 0]) (by simp [results,Tryz.results105,go_sem,q0,q1,q2,q3]) rfl ?_;rw[hY.out];exact⟨a',c',_,_,_,_,_,_,rfl,HX2.out.keeps hk5 (fun e=>by omega),bF HO2.out hk5 (fun k hk e=>by
    have e':k=w.heap.size+1:=e
    subst e'
    rcases HN2.out _ hk with h|h
    ·have:=(HO.out.lt _ h).2
     omega
    ·omega),fun k hk=>(HN2.out k hk).imp id (fun h=>by omega),HK2.out.trans (hk5.mono (fun k hk e=>e)) (fun k hk e=>by have e':k=w.heap.size+1:=e;omega)⟩
 |true=>
  have hY:Hid (x.char t v fl=x.empty.add t v fl S):=by
   show _=_;unfold Rx.char;rw[hV.out,HS2.out];rfl
  have HAD:=bC (fun W h o b=>rxadd_any g base x.empty none 0 t v fl S W h o hg b);obtain⟨d4,d5⟩:x.act=true∧decide (x.t35≤S)=true:=by
   have h:=hV.out;unfold Rx.ends at h;rw[HS2.out] at h;simpa using h
  rw[d4] at x7;clear d4;go_wp2_with fail;obtain⟨W1,hW1⟩:∃W,W=W0.alloc (.cells #[.slice none 0 0,.int .i64 0,.int .i64 0,.int .i64 0] 179):=⟨_,rfl⟩
  rw[←hW1];have hb1:Below W0.heap.size W0 W1:=by rw[hW1];exact bH _ _
  have p2:W1.heap[W0.heap.size]?=some (.cells #[.slice none 0 0,.int .i64 0,.int .i64 0,.int .i64 0] 179):=by
   rw[hW1];exact bI _ _
  have hb1w:=bU B0.out hb1;have HT:=bC (rxtake_any g x a x.bs.length c W1 (HX0.out.keep hb1));clear hW1 e0 e1 e2 x2 x7;refine HT.out.mono ?_;rintro r w1 ⟨rfl,hx1,hk1⟩;have p0:=bG (bB P0.out hb1) hk1 (fun e=>by have e':w.heap.size=g:=e;omega);have p1:=bG (bB P1.out hb1) hk1 (fun e=>by have e':w.heap.size+1=g:=e;omega);have p3:=bG p2 hk1 (fun e=>by have e':W0.heap.size=g:=e;omega);have hz1:=Nat.le_trans hb1.size hk1.size;have hl3:=cI p3;obtain⟨e0,e1,e2⟩:w1.cell? ⟨w.heap.size,0,none⟩=some (.int .i64 t)∧w1.cell? ⟨w.heap.size,1,none⟩=some (.int .u8 (v.toNat:Int))∧w1.cell? ⟨w.heap.size,2,none⟩=some (.int .i64 fl):=⟨bA p0 0,bA p0 1,bA p0 2⟩
  obtain⟨u0,u1,u2,u3⟩:w1.cell? ⟨W0.heap.size,0,none⟩=some (.slice none 0 0)∧w1.cell? ⟨W0.heap.size,1,none⟩=some (.int .i64 0)∧w1.cell? ⟨W0.heap.size,2,none⟩=some (.int .i64 0)∧w1.cell? ⟨W0.heap.size,3,none⟩=some (.int .i64 0):=⟨bA p3 0,bA p3 1,bA p3 2,bA p3 3⟩
  obtain⟨v0,v1,v2,v3⟩:w1.frozen? ⟨W0.heap.size,0,none⟩=false∧w1.frozen? ⟨W0.heap.size,1,none⟩=false∧w1.frozen? ⟨W0.heap.size,2,none⟩=false∧w1.frozen? ⟨W0.heap.size,3,none⟩=false:=⟨bJ p3 0,bJ p3 1,bJ p3 2,bJ p3 3⟩
  have hne0:W0.heap.size≠w.heap.size:=by omega
  have HX1:=bC hx1;have HP1:=bC p1;have HP3:=bC p3;have HK1:=bC hk1;clear hx1 hk1 p1 p3 p0 p2;go_wp2_with fail;obtain⟨W6,hW6⟩:∃W,W=(((w1.setCell ⟨W0.heap.size,0,none⟩ (.slice a x.bs.length c)).setCell ⟨W0.heap.size,1,none⟩ (.int .i64 x.f1)).setCell ⟨W0.heap.size,2,none⟩ (.int .i64 x.f2)).setCell ⟨W0.heap.size,3,none⟩ (.int .i64 x.fl):=⟨_,rfl⟩
  rw[←hW6];have hk6:Keeps (· =W0.heap.size) w1 W6:=by rw[hW6];exact bL (bL (bL (bL (Keeps.refl _ _) _ _) _ _) _ _) _ _
  have p6:W6.heap[W0.heap.size]?=some (.cells #[.slice a x.bs.length c,.int .i64 x.f1,.int .i64 x.f2,.int .i64 x.fl] 179):=by rw[hW6];exact bX (bX (bX (bX HP3.out 0 _) 1 _) 2 _) 3 _
  have hk7:Keeps (· =g) w W6:=((Keeps.of_below hb1w).trans HK1.out (fun _ _ h=>h)).trans (hk6.mono (fun k hk e=>e)) (fun k hk e=>by have e':k=W0.heap.size:=e;omega);have hz6:=hk6.size;have HC:=bC (HAD.out W6 (HX1.out.keeps hk6 (fun e=>by have e':g=W0.heap.size:=e;omega)) (World.ownsRow_nil _ _ _ _) (by omega));have p1:=bG HP1.out hk6 (fun e=>by have e':w.heap.size+1=W0.heap.size:=e;omega);have HP1':=bC p1;clear hW6 u0 u1 u2 u3 v0 v1 v2 v3 e0 e1 e2 p1;refine HC.out.mono ?_;rintro r w2 ⟨a',c',rfl,hx2,ho2,hn2,hk2⟩;have hk2':Keeps (· =g) W6 w2:=hk2.mono (fun k hk e=>e.elim id (fun h=>by cases h));have p1:=bG HP1'.out hk2' (fun e=>by have e':w.heap.size+1=g:=e;omega);have p3:=bG p6 hk2' (fun e=>by have e':W0.heap.size=g:=e;omega);have hne:W0.heap.size≠w.heap.size+1:=by omega
  have HX2:=bC hx2;have HO2:=bC ho2;have HN2:Hid (∀k,(Value.slice a' (x.empty.add t v fl S).bs.length c').ownBlock=some k→w.heap.size+2≤k):=fun k hk=>by
   rcases hn2 with h|⟨j,h,hj⟩
   ·rw [h] at hk;cases hk
   ·rw [h] at hk
    cases hk;have:=Z0.out;omega
  have HK2:Hid (Keeps (· =g) w w2):=hk7.trans hk2' (fun _ _ h=>h);have hs2:w.heap.size+1<w2.heap.size:=cI p1;obtain⟨u0,u1,u2,u3⟩:w2.cell? ⟨W0.heap.size,0,none⟩=some (.slice a x.bs.length c)∧w2.cell? ⟨W0.heap.size,1,none⟩=some (.int .i64 x.f1)∧w2.cell? ⟨W0.heap.size,2,none⟩=some (.int .i64 x.f2)∧w2.cell? ⟨W0.heap.size,3,none⟩=some (.int .i64 x.fl):=⟨bA p3 0,bA p3 1,bA p3 2,bA p3 3⟩
  obtain⟨y0,y1,y2,y3⟩:w2.cell? ⟨w.heap.size+1,0,none⟩=some (.slice none 0 0)∧w2.cell? ⟨w.heap.size+1,1,none⟩=some (.int .i64 0)∧w2.cell? ⟨w.heap.size+1,2,none⟩=some (.int .i64 0)∧w2.cell? ⟨w.heap.size+1,3,none⟩=some (.int .i64 0):=⟨bA p1 0,bA p1 1,bA p1 2,bA p1 3⟩;obtain⟨z0,z1,z2,z3⟩:w2.frozen? ⟨w.heap.size+1,0,none⟩=false∧w2.frozen? ⟨w.heap.size+1,1,none⟩=false∧w2.frozen? ⟨w.heap.size+1,2,none⟩=false∧w2.frozen? ⟨w.heap.size+1,3,none⟩=false:=⟨bJ p1 0,bJ p1 1,bJ p1 2,bJ p1 3⟩
  clear p6 hk6 hk7 hx2 ho2 hn2 hk2 hk2';go_wp2;obtain⟨W5,hW5⟩:∃W,W=(((w2.setCell ⟨w.heap.size+1,0,none⟩ (.slice a x.bs.length c)).setCell ⟨w.heap.size+1,1,none⟩ (.int .i64 x.f1)).setCell ⟨w.heap.size+1,2,none⟩ (.int .i64 x.f2)).setCell ⟨w.heap.size+1,3,none⟩ (.int .i64 x.fl):=⟨_,rfl⟩;rw[←hW5];have m5:=bX (bX (bX (bX p1 0 (.slice a x.bs.length c)) 1 (.int .i64 x.f1)) 2 (.int .i64 x.f2)) 3 (.int .i64 x.fl);rw[←hW5] at m5;obtain⟨q0,q1,q2,q3⟩:W5.cell? ⟨w.heap.size+1,0,none⟩=some (.slice a x.bs.length c)∧W5.cell? ⟨w.heap.size+1,1,none⟩=some (.int .i64 x.f1)∧W5.cell? ⟨w.heap.size+1,2,none⟩=some (.int .i64 x.f2)∧W5.cell? ⟨w.heap.size+1,3,none⟩=some (.int .i64 x.fl):=⟨bA m5 0,bA m5 1,bA m5 2,bA m5 3⟩;have hk5:Keeps (· =w.heap.size+1) w2 W5:=by rw[hW5];exact bL (bL (bL (bL (Keeps.refl _ _) _ _) _ _) _ _) _ _
  clear u0 u1 u2 u3 y0 y1 y2 y3 z0 z1 z2 z3 hW5 p1 p3;refine bodyPost_ret (v:=.tuple #[.agg #[.slice a x.bs.length c,.int .i64 x.f1,.int .i64 x.f2,.int .i64 x.fl],.bool true,.int .i64 0]) (by simp [results,Tryz.results105,go_sem,q0,q1,q2,q3]) rfl ?_;rw[hY.out];exact⟨a',c',_,_,_,_,_,_,rfl,HX2.out.keeps hk5 (fun e=>by omega),bF HO2.out hk5 (fun k hk e=>by
   have e':k=w.heap.size+1:=e
   subst e'
   have:=HN2.out _ hk
   omega),fun k hk=>.inr (by have:=HN2.out k hk;omega),(HK2.out.mono (fun k hk e=>.inl e)).trans (hk5.mono (fun k hk e=>e)) (fun k hk e=>by have e':k=w.heap.size+1:=e;omega)⟩
def RxIdled (w:World) (g:Nat) (x:Rx) (a:Option Addr) (n c:Nat) (tick:Int) (r:Ending) (w':World):Prop:=
 r=.returned (.tuple #[.agg #[.slice a n c,.int .i64 x.f1,.int .i64 x.f2,.int .i64 x.fl],.bool true])∧RxAt w' g {x.empty with id:=tick} none 0 0∧Keeps (· =g) w w'
theorem rxidle_ok (g:Nat) (x:Rx) (a:Option Addr) (n c:Nat) (tick:Int) (w:World) (hx:RxAt w g x a n c) (ha:x.act=true) (h1:0≤x.la) (h2:x.la≤1152921504606846976) (h3:0≤x.t35) (h4:x.t35≤40000) (h5:0≤x.ch) (h6:x.ch≤40000) (h7:x.id≤tick) (h8:x.la+x.t35+x.ch≤tick) (h9:tick≤1152921504606846976):
  Calls Tryz.prog 108 #[.pointer (some ⟨g,0,none⟩),.int .i64 tick] w (RxIdled w g x a n c tick):=by
 have c8:w.cell? ⟨g,8,none⟩=some (.int .i64 x.la):=hx.cell 8;have c9:w.cell? ⟨g,9,none⟩=some (.int .i64 x.id):=hx.cell 9;have f9:w.frozen? ⟨g,9,none⟩=false:=hx.free 9;have d0:decide (tick<0)=false:=decide_eq_false (by omega);have d1:decide (tick<x.la)=false:=decide_eq_false (by omega);have d2:decide (tick<x.id)=false:=decide_eq_false (by omega);have d3:decide (1152921504606846976<tick)=false:=decide_eq_false (by omega);have d4:decide (tick<x.la+x.t35+x.ch)=false:=decide_eq_false (by omega);have hgw:=hx.lt;have HX:=bC hx;clear hx;go_enter Tryz.func108,Tryz.ntmps108;go_wp2_with fail;obtain⟨W1,hW1⟩:∃W,W=(w.setCell ⟨g,9,none⟩ (.int .i64 tick)).alloc (.cells #[.slice none 0 0,.int .i64 0,.int .i64 0,.int .i64 0] 179):=⟨_,rfl⟩
 rw[←hW1];have hx1:RxAt W1 g {x with id:=tick} a n c:=by rw[hW1];exact RxAt.keep (bS HX.out rfl) (bH _ _)
 have p1:W1.heap[w.heap.size]?=some (.cells #[.slice none 0 0,.int .i64 0,.int .i64 0,.int .i64 0] 179):=by
  rw[hW1];have:=bI (w.setCell ⟨g,9,none⟩ (.int .i64 tick)) (.cells #[.slice none 0 0,.int .i64 0,.int .i64 0,.int .i64 0] 179);simpa using this
 have hk1:Keeps (· =g) w W1:=by rw[hW1];exact(bL (Keeps.refl _ _) _ _).trans (Keeps.of_below (bH _ _)) (fun _ _ h=>h)
 have HD:=bC (rxdead_yes g _ a n c W1 hx1 ha h1 h2 h3 h4 h5 h6);have HX1:=bC hx1;have HP1:=bC p1;have HK1:=bC hk1;clear hW1 hx1 p1 hk1 c8 c9 f9 d0 d1 d2 d3 ha h7 h8 h9;refine HD.out.mono ?_;rintro r w2 ⟨rfl,hb2⟩;have HT:=bC (rxtake_any g _ a n c w2 (HX1.out.keep hb2));go_wp2_with fail;refine HT.out.mono ?_;rintro r w3 ⟨rfl,hx3,hk3⟩;have hz:=HK1.out.size;have p3:=bG (bB HP1.out hb2) hk3 (fun e=>by have e':w.heap.size=g:=e;omega);obtain⟨y0,y1,y2,y3⟩:w3.cell? ⟨w.heap.size,0,none⟩=some (.slice none 0 0)∧w3.cell? ⟨w.heap.size,1,none⟩=some (.int .i64 0)∧w3.cell? ⟨w.heap.size,2,none⟩=some (.int .i64 0)∧w3.cell? ⟨w.heap.size,3,none⟩=some (.int .i64 0):=⟨bA p3 0,bA p3 1,bA p3 2,bA p3 3⟩
 obtain⟨z0,z1,z2,z3⟩:w3.frozen? ⟨w.heap.size,0,none⟩=false∧w3.frozen? ⟨w.heap.size,1,none⟩=false∧w3.frozen? ⟨w.heap.size,2,none⟩=false∧w3.frozen? ⟨w.heap.size,3,none⟩=false:=⟨bJ p3 0,bJ p3 1,bJ p3 2,bJ p3 3⟩
 have HX3:=bC hx3;have HK3:Hid (Keeps (· =g) w w3):=(HK1.out.trans (Keeps.of_below hb2) (fun _ _ h=>h)).trans hk3 (fun _ _ h=>h);clear hx3 hk3;go_wp2;obtain⟨W5,hW5⟩:∃W,W=(((w3.setCell ⟨w.heap.size,0,none⟩ (.slice a n c)).setCell ⟨w.heap.size,1,none⟩ (.int .i64 x.f1)).setCell ⟨w.heap.size,2,none⟩ (.int .i64 x.f2)).setCell ⟨w.heap.size,3,none⟩ (.int .i64 x.fl):=⟨_,rfl⟩
 rw[←hW5];have m5:W5.heap[w.heap.size]?=some (.cells #[.slice a n c,.int .i64 x.f1,.int .i64 x.f2,.int .i64 x.fl] 179):=by rw[hW5];exact bX (bX (bX (bX p3 0 _) 1 _) 2 _) 3 _
 obtain⟨q0,q1,q2,q3⟩:W5.cell? ⟨w.heap.size,0,none⟩=some (.slice a n c)∧W5.cell? ⟨w.heap.size,1,none⟩=some (.int .i64 x.f1)∧W5.cell? ⟨w.heap.size,2,none⟩=some (.int .i64 x.f2)∧W5.cell? ⟨w.heap.size,3,none⟩=some (.int .i64 x.fl):=⟨bA m5 0,bA m5 1,bA m5 2,bA m5 3⟩
 have hk5:Keeps (· =w.heap.size) w3 W5:=by rw[hW5];exact bL (bL (bL (bL (Keeps.refl _ _) _ _) _ _) _ _) _ _
 clear y0 y1 y2 y3 z0 z1 z2 z3 hW5 p3 m5;refine bodyPost_ret (v:=.tuple #[.agg #[.slice a n c,.int .i64 x.f1,.int .i64 x.f2,.int .i64 x.fl],.bool true]) (by simp [results,Tryz.results108,go_sem,q0,q1,q2,q3]) rfl ?_;exact⟨rfl,HX3.out.keeps hk5 (fun e=>by have e':g=w.heap.size:=e;omega),HK3.out.trans (hk5.mono (fun k hk e=>e)) (fun k hk e=>by have e':k=w.heap.size:=e;omega)⟩
end Go.Proofs.YtoaoejaodhedaaaGreat
