import Derived.Test.YtoaoejaodhedaaaGreatTA03
namespace Go.Proofs.YtoaoejaodhedaaaGreat
open Go.RowKit
set_option maxHeartbeats 12800000
set_option maxRecDepth 100000
def Vs (w:World) (s:lg) (m:Nat) (r:Ending) (w':World):Prop:=∃V:Bool,r=.returned (.bool V)∧Hid (V=true↔qv s m)∧Below w.heap.size w w'
theorem Pg (s:lg) (aa:Option Addr) (an ac:Nat) (lp:Bool) (a:Value) (m:Nat) (hm:m≤5) (T:s.ok) (v:s.aC.length=an) (U:s.loop=lp) (w:World) (N:ke w (.slice aa an ac) s.aC) (hc:dw w a s.cr):
  Calls Tryz.prog 12 #[.agg #[.slice aa an ac,.bool lp,a],.int .i64 (m:Int)] w (Vs w s m):=by
 have ES:Hid (∀X,Below w.heap.size w X→Calls Tryz.prog 48 #[.agg #[.slice aa an ac,.bool lp,a]] X (aj X true)):=fun X t=>by
  rw[←U];exact(qJ s _ a X (N.ah t) (hc.ah t)).mono fun r Z ⟨V,I,h2,h3⟩=>⟨by rw[I,h2.out.2 T],h3⟩
 have J:=T.1;have vf:Hid (∀(k:Nat) X,k≤1000000→Below w.heap.size w X→Calls Tryz.prog 19 #[.agg #[.slice aa an ac,.bool lp,a],.int .i64 (k:Int)] X (qB X (cA s.aC s.loop k))):=fun k X hk t=>by
  rw[U];exact BJ aa an ac s.aC v lp a k (by omega) X (N.ah t)
 rw[v] at J;obtain⟨u,hu⟩:∃u:Nat→Bool,u=fun j=>Dg (cA s.aC s.loop j):=⟨_,rfl⟩
 have A:=hid hu;have tg:=hid v;obtain⟨o,bo,q,Y⟩:=eY w (.cells #[.slice aa an ac,.bool lp,a] 32);have t0:=cF Y 0 rfl;have k0:Below o.heap.size o o:=Below.refl _ _;have E:=hid bo;have n:=hid q;have PS:=hid Y;clear bo q v U N hc T hu;have q1:¬(m:Int)<0:=by omega
 have q2:¬(5:Int)<(m:Int):=by omega
 go_enter Tryz.func12,Tryz.ntmps12;go_upto_region 1 with(fail)
 rw[E.out];go_upto_region 5 with(first
  |(refine wpList_load_row rfl 32 (.tmp 2) rfl w.heap.size rfl 32 #[.slice aa an ac,.bool lp,a] (0,0) _ Y Tryz.underlying32 rfl bu ?_)
  |(go_at_call 48;(with_reducible refine(ES.out _ n.out).mono ?_);rintro r w2 ⟨rfl,O⟩))
 go_loopw [5,6] (fun rv S wr=>∃k:Nat,k≤an+m+1∧S=.int .i64 (k:Int)∧rv=.int .i64 (iA u k:Nat)∧Hid (∀i,i<k→iA u (i+1)≤m)∧iA u k≤m∧Below o.heap.size o wr) (fun _ S _=>an+m+1- (intOf S).toNat)
 case atStart=>exact⟨0,Nat.zero_le _,rfl,rfl,fun i h=>by omega,Nat.zero_le _,O⟩
 case round=>
  obtain⟨k,hk,rfl,rfl,G,Q,d⟩:=hrel;have ab:(0:Int)≤(k:Int):=Int.natCast_nonneg _;have y0:=t0 wr d;have W:=hpKeep PS.out d;have ak:IntKind.i64.wrap ((an:Int)+(m:Int))=(an:Int)+(m:Int):=IntWalk.i64_in _ (by omega);have ao:IntKind.i64.wrap ((an:Int)+(m:Int)+1)=(an:Int)+(m:Int)+1:=IntWalk.i64_in _ (by omega);have x:=bt n.out d (Nat.le_refl _);by_cases ad:k<an+m+1
  ·have P:(k:Int)<(an:Int)+(m:Int)+1:=by omega
   obtain⟨R,M⟩:=gE (iA u k);have av:IntKind.i64.wrap ((R:Int)+1)=(R:Int)+1:=IntWalk.i64_in _ (by omega);obtain⟨C,L⟩:=gE ((cA s.aC s.loop k).C);obtain⟨B,K⟩:=gE (Dg (cA s.aC s.loop k));have HA:=hid (vf.out k wr (by omega) x);have y:Hid (∀X,Calls Tryz.prog 49 #[.agg C] X (aj X B)):=fun X=>by
    rw[←L,←K];exact TR _ X
   have l:Hid (u k=B):=by show _=_;rw[A.out];exact K
   have F:Hid (Calls Tryz.prog 19 #[.agg #[.slice aa an ac,.bool lp,a],.int .i64 (k:Int)] wr fun r Z=>r=.returned (.agg C)∧Below wr.heap.size wr Z):=HA.out.mono fun r Z h=>⟨by rw[h.1,L],h.2⟩
   have z:=hid M;rw[M] at Q ⊢;clear HA L K M;cases B with
   |true=>
    have g:Hid (∀i,i<k+1→iA u (i+1)≤m):=fun i hi=>by
     by_cases e:i=k
     ·rw [e,iA,l.out,if_pos rfl];omega
     ·exact G.out i (by omega)
    have f:Hid (iA u (k+1)=0):=by show _=_;rw[iA,l.out,if_pos rfl]
    have q3:¬(m:Int)<0:=by omega
    go_wp2_with (first
     |(refine wpList_load_row rfl 32 (.tmp 2) rfl w.heap.size rfl 32 #[.slice aa an ac,.bool lp,a] (0,0) _ W Tryz.underlying32 rfl bu ?_)
     |(go_at_call 19;(with_reducible refine F.out.mono ?_);rintro r w3 ⟨rfl,b⟩)
     |(go_at_call 49;(with_reducible refine(y.out _).mono ?_);rintro r w4 ⟨rfl,p⟩))
    go_roundw
    case rel=>
     repeat apply Exists.intro
     refine⟨?_,rfl⟩;exact⟨k+1,by omega,by go_num,by rw[f.out];rfl,g.out,by rw[f.out];omega,bt (bt d b (Nat.le_refl _)) p (Nat.le_refl _)⟩
    case measure=>simp [intOf];omega
   |false=>
    have f:Hid (iA u (k+1)=R+1):=by show _=_;rw[iA,l.out,if_neg (by decide),z.out]
    by_cases c:(m:Int)<(R:Int)+1
    ·have D:Hid (¬qv s m):=fun h=>by
      have I:=h k (by have:=tg.out;omega);rw[←A.out,f.out] at I;omega
     go_wp2_with (first
      |(refine wpList_load_row rfl 32 (.tmp 2) rfl w.heap.size rfl 32 #[.slice aa an ac,.bool lp,a] (0,0) _ W Tryz.underlying32 rfl bu ?_)
      |(go_at_call 19;(with_reducible refine F.out.mono ?_);rintro r w3 ⟨rfl,b⟩)
      |(go_at_call 49;(with_reducible refine(y.out _).mono ?_);rintro r w4 ⟨rfl,p⟩))
     go_ret;exact⟨false,rfl,⟨fun e=>(by cases e),fun e=>absurd e D.out⟩,bt (bt x b (Nat.le_refl _)) p (Nat.le_refl _)⟩
    ·have g:Hid (∀i,i<k+1→iA u (i+1)≤m):=fun i hi=>by
      by_cases e:i=k
      ·rw [e,f.out];omega
      ·exact G.out i (by omega)
     go_wp2_with (first
      |(refine wpList_load_row rfl 32 (.tmp 2) rfl w.heap.size rfl 32 #[.slice aa an ac,.bool lp,a] (0,0) _ W Tryz.underlying32 rfl bu ?_)
      |(go_at_call 19;(with_reducible refine F.out.mono ?_);rintro r w3 ⟨rfl,b⟩)
      |(go_at_call 49;(with_reducible refine(y.out _).mono ?_);rintro r w4 ⟨rfl,p⟩))
     go_roundw
     case rel=>exact⟨k+1,by omega,by go_num,by rw[f.out];go_num,g.out,by rw[f.out];omega,bt (bt d b (Nat.le_refl _)) p (Nat.le_refl _)⟩
     case measure=>simp [intOf];omega
  ·have P:¬(k:Int)<(an:Int)+(m:Int)+1:=by omega
   have D:Hid (qv s m):=fun i hi=>by
    rw[←A.out];exact G.out i (by have:=tg.out;omega)
   go_wp2;go_ret;exact⟨true,rfl,⟨fun _=>D.out,fun _=>rfl⟩,x⟩
