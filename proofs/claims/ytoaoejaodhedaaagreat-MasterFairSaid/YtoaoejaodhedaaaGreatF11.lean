import Derived.Test.YtoaoejaodhedaaaGreatF10
namespace Go.Proofs.YtoaoejaodhedaaaGreat
open Go.RowKit
set_option maxHeartbeats 12800000
set_option maxRecDepth 100000
variable {c:Cf} {f:Fx} {l:List Sl} {y:Ms} {B gl gm i kk m t:Nat} {P:Nat→Prop} {sv v:Value} {W w:World} {s:lg}
def Y5 (w:World) (s:lg) (m:Nat) (r:Ending) (w':World):Prop:=∃V:Bool,r=.returned (.bool V)∧Hid (V=true↔Ef s m)∧Below w.heap.size w w'
theorem S5 (s:lg) (aa:Option Addr) (an ac:Nat) (lp:Bool) (a:Value) (m:Nat) (hm:m≤5) (lY:s.ok) (E:s.aC.length=an) (uj:s.loop=lp) (w:World) (U:ke w (.slice aa an ac) s.aC) (hc:dw w a s.cr):
  Calls Tryz.prog 12 #[.agg #[.slice aa an ac,.bool lp,a],.int .i64 (m:Int)] w (Y5 w s m):=by
 have Hs:Hid (∀X,Below w.heap.size w X→Calls Tryz.prog 48 #[.agg #[.slice aa an ac,.bool lp,a]] X (aj X true)):=fun X D=>by
  rw[←uj];exact(qJ s _ a X (U.ah D) (hc.ah D)).mono fun r w' ⟨V,N,h2,h3⟩=>⟨by rw[N,h2.out.2 lY],h3⟩
 have O:=lY.1;have En:Hid (∀(k:Nat) X,k≤1000000→Below w.heap.size w X→Calls Tryz.prog 19 #[.agg #[.slice aa an ac,.bool lp,a],.int .i64 (k:Int)] X (qB X (cA s.aC s.loop k))):=fun k X hk D=>by
  rw[uj];exact BJ aa an ac s.aC E lp a k (by omega) X (U.ah D)
 rw[E] at O;obtain⟨u,hu⟩:∃u:Nat→Bool,u=fun j=>Tc (cA s.aC s.loop j):=⟨_,rfl⟩
 have J:=hid hu;have p:=hid E;obtain⟨x,eC,A,pS⟩:=eY w (.cells #[.slice aa an ac,.bool lp,a] 32);have t0:=cF pS 0 rfl;have k0:Below x.heap.size x x:=Below.refl _ _;have L:=hid eC;have q:=hid A;have PS:=hid pS;clear eC A E uj U hc lY hu;have q1:¬(m:Int)<0:=by omega
 have q2:¬(5:Int)<(m:Int):=by omega
 go_enter Tryz.func12,Tryz.ntmps12;go_upto_region 1 with(fail)
 rw[L.out];go_upto_region 5 with(first
  |(refine wpList_load_row rfl 32 (.tmp 2) rfl w.heap.size rfl 32 #[.slice aa an ac,.bool lp,a] (0,0) _ pS Tryz.underlying32 rfl bu ?_)
  |(go_at_call 48;(with_reducible refine(Hs.out _ q.out).mono ?_);rintro r w2 ⟨rfl,Y⟩))
 go_loopw [5,6] (fun rv iv wr=>∃k:Nat,k≤an+m+1∧iv=.int .i64 (k:Int)∧rv=.int .i64 (vA u k:Nat)∧Hid (∀i,i<k→vA u (i+1)≤m)∧vA u k≤m∧Below x.heap.size x wr) (fun _ iv _=>an+m+1- (intOf iv).toNat)
 case atStart=>exact⟨0,Nat.zero_le _,rfl,rfl,fun i h=>by omega,Nat.zero_le _,Y⟩
 case round=>
  obtain⟨k,hk,rfl,rfl,jA,ab,d⟩:=hrel;have ad:(0:Int)≤(k:Int):=Int.natCast_nonneg _;have y0:=t0 wr d;have pR:=hpKeep PS.out d;have ao:IntKind.i64.wrap ((an:Int)+(m:Int))=(an:Int)+(m:Int):=IntWalk.i64_in _ (by omega);have av:IntKind.i64.wrap ((an:Int)+(m:Int)+1)=(an:Int)+(m:Int)+1:=IntWalk.i64_in _ (by omega);have F:=bt q.out d (Nat.le_refl _);by_cases ak:k<an+m+1
  ·have Z:(k:Int)<(an:Int)+(m:Int)+1:=by omega
   obtain⟨R,T⟩:=gE (vA u k);have aX:IntKind.i64.wrap ((R:Int)+1)=(R:Int)+1:=IntWalk.i64_in _ (by omega);obtain⟨C,S⟩:=gE ((cA s.aC s.loop k).C);obtain⟨B,Q⟩:=gE (Tc (cA s.aC s.loop k));have HA:=hid (En.out k wr (by omega) F);have G:Hid (∀X,Calls Tryz.prog 49 #[.agg C] X (aj X B)):=fun X=>by
    rw[←S,←Q];exact XK _ X
   have o:Hid (u k=B):=by show _=_;rw[J.out];exact Q
   have M:Hid (Calls Tryz.prog 19 #[.agg #[.slice aa an ac,.bool lp,a],.int .i64 (k:Int)] wr fun r w'=>r=.returned (.agg C)∧Below wr.heap.size wr w'):=HA.out.mono fun r w' h=>⟨by rw[h.1,S],h.2⟩
   have I:=hid T;rw[T] at ab ⊢;clear HA S Q T;cases B with
   |true=>
    have n:Hid (∀i,i<k+1→vA u (i+1)≤m):=fun i hi=>by
     by_cases e:i=k
     ·rw [e,vA,o.out,if_pos rfl];omega
     ·exact jA.out i (by omega)
    have g:Hid (vA u (k+1)=0):=by show _=_;rw[vA,o.out,if_pos rfl]
    have q3:¬(m:Int)<0:=by omega
    go_wp2_with (first
     |(refine wpList_load_row rfl 32 (.tmp 2) rfl w.heap.size rfl 32 #[.slice aa an ac,.bool lp,a] (0,0) _ pR Tryz.underlying32 rfl bu ?_)
     |(go_at_call 19;(with_reducible refine M.out.mono ?_);rintro r w3 ⟨rfl,b⟩)
     |(go_at_call 49;(with_reducible refine(G.out _).mono ?_);rintro r w4 ⟨rfl,z⟩))
    go_roundw
    case rel=>
     repeat apply Exists.intro
     refine⟨?_,rfl⟩;exact⟨k+1,by omega,by go_num,by rw[g.out];rfl,n.out,by rw[g.out];omega,bt (bt d b (Nat.le_refl _)) z (Nat.le_refl _)⟩
    case measure=>simp [intOf];omega
   |false=>
    have g:Hid (vA u (k+1)=R+1):=by show _=_;rw[vA,o.out,if_neg (by decide),I.out]
    by_cases c:(m:Int)<(R:Int)+1
    ·have K:Hid (¬Ef s m):=fun h=>by
      have N:=h k (by have:=p.out;omega);rw[←J.out,g.out] at N;omega
     go_wp2_with (first
      |(refine wpList_load_row rfl 32 (.tmp 2) rfl w.heap.size rfl 32 #[.slice aa an ac,.bool lp,a] (0,0) _ pR Tryz.underlying32 rfl bu ?_)
      |(go_at_call 19;(with_reducible refine M.out.mono ?_);rintro r w3 ⟨rfl,b⟩)
      |(go_at_call 49;(with_reducible refine(G.out _).mono ?_);rintro r w4 ⟨rfl,z⟩))
     go_ret;exact⟨false,rfl,⟨fun e=>(by cases e),fun e=>absurd e K.out⟩,bt (bt F b (Nat.le_refl _)) z (Nat.le_refl _)⟩
    ·have n:Hid (∀i,i<k+1→vA u (i+1)≤m):=fun i hi=>by
      by_cases e:i=k
      ·rw [e,g.out];omega
      ·exact jA.out i (by omega)
     go_wp2_with (first
      |(refine wpList_load_row rfl 32 (.tmp 2) rfl w.heap.size rfl 32 #[.slice aa an ac,.bool lp,a] (0,0) _ pR Tryz.underlying32 rfl bu ?_)
      |(go_at_call 19;(with_reducible refine M.out.mono ?_);rintro r w3 ⟨rfl,b⟩)
      |(go_at_call 49;(with_reducible refine(G.out _).mono ?_);rintro r w4 ⟨rfl,z⟩))
     go_roundw
     case rel=>exact⟨k+1,by omega,by go_num,by rw[g.out];go_num,n.out,by rw[g.out];omega,bt (bt d b (Nat.le_refl _)) z (Nat.le_refl _)⟩
     case measure=>simp [intOf];omega
  ·have Z:¬(k:Int)<(an:Int)+(m:Int)+1:=by omega
   have K:Hid (Ef s m):=fun i hi=>by
    rw[←J.out];exact jA.out i (by have:=p.out;omega)
   go_wp2;go_ret;exact⟨true,rfl,⟨fun _=>K.out,fun _=>rfl⟩,F⟩
theorem Idle.mono {a:Nat} (h:Idle gm gl B c l s i W) (k:a≤B):Idle gm gl a c l s i W:=by
 obtain⟨P,sv,f,y,b,d,e,g⟩:=h;exact⟨P,sv,f,y,b,d,fun j n=>Nat.le_trans k (e j n),g⟩
theorem Qx (h:nj gm gl P c sv f y kk w) (K:Int) (b:(y.n.aA.length:Int)=K):Calls Tryz.prog 20 #[.pointer (some ⟨gl,0,none⟩)] w fun r d=>r=.returned (.int .i64 K)∧w=d:=by
 obtain⟨g,k,e,Q,s,a,j⟩:=h;rw[←b];exact Km a.ln
theorem xaD (h:nj gm gl P c sv f y kk w) (b:y.n.pend=[]):Calls Tryz.prog 34 #[.pointer (some ⟨gl,0,none⟩)] w fun r d=>r=.returned (.int .i64 0)∧w=d:=by
 obtain⟨g,k,e,Q,s,a,j⟩:=h;have h:=Td a.ln;rw[b] at h;exact h
theorem Xz {T:TypeId} {a:Option Addr} {c:Nat} (h:w.ownsRow B T 1 (.slice a 1 c) 1 [v]):∃b,a=some ⟨b,0,none⟩∧w.cell? ⟨b,0,none⟩=some v:=by
 obtain⟨o,⟨_,j⟩|⟨g,cap,cur,n,-,k,-,-,-,e⟩⟩:=h
 ·cases j
 ·cases n
  refine⟨g,rfl,?_⟩;rw[hpCell k];have d:(cur.toList.take 1)[0]?=some v:=by rw[Nat.one_mul] at e;rw[e];rfl
  rw[List.getElem?_take] at d;simpa using d
structure Tdn (gm gl B:Nat) (c:Cf) (l:List Sl) (s:lg) (i:Nat) (SC:Sc) (t0:Int) (m:Nat) (d:Du) (W:World):Prop where
 dp:J8 SC m t0 d
 idle:∀X,Below W.heap.size W X→Idle gm gl B c l s (i+1) X
 xci:∀X,Below W.heap.size W X→Calls Tryz.prog 20 #[.pointer (some ⟨gl,0,none⟩)] X fun r w'=>r=.returned (.int .i64 ((SC.s0.length:Int)+(m:Int)))∧X=w'
 pend:∀X,Below W.heap.size W X→Calls Tryz.prog 34 #[.pointer (some ⟨gl,0,none⟩)] X fun r w'=>r=.returned (.int .i64 0)∧X=w'
theorem Tdn.of {b:Sc} {t0:Int} {d:Du} (e:J8 b m t0 d) (h:nj gm gl P c sv f (QQ d t) 1000000000 W) (k:∀j,P j→B≤j) (n:f.l=l∧f.aC=s.aC∧f.lp=s.loop) (g:b.re≤5) (o:t0≤20000000+90000000*i) (hs:b.s0.length≤6*i):Tdn gm gl B c l s i b t0 m d W:=
 {dp:=e
  idle:=fun X a=>⟨_,_,_,_,h.bW a,e.rest g o hs t,k,n⟩
  xci:=fun X a=>Qx (h.bW a) _ (by show (d.n.aA.length:Int)=_;rw[e.tr.aA,List.length_append,List.length_replicate];omega)
  pend:=fun X a=>xaD (h.bW a) e.tr.pend}
theorem infoRp8:(Tryz.prog.info? 53).map (·.size)=some 8:=by kernel_rfl
