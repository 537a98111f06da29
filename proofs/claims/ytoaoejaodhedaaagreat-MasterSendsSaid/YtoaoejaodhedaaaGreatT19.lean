import Derived.Test.YtoaoejaodhedaaaGreatT18
import Derived.Deep.RegionWith
namespace Go.Proofs.YtoaoejaodhedaaaGreat
open Go.RowKit
open Value renaming slice→J,int→U
open Option renaming none→M,some→N
open IntKind renaming i64→Y
open Obj renaming cells→O
set_option maxHeartbeats 12800000
set_option maxRecDepth 100000
variable {ag:List Ob} {a b c5 cap g k n sz:Nat} {rn rv:Nat→Value} {A B:Obj} {ov sv v v2:Value} {w w' w4 w5 wr:World}
theorem KL (s:Sl) (rv:Nat→Value) (ov sv v:Value) (c:k<4):(SlC s rv ov sv).setIfInBounds (3+k*3+1) v=SlC s (fun j=>if j=k then v else rv j) ov sv:=by
 rcases (show k=0∨k=1∨k=2∨k=3 by omega) with rfl|rfl|rfl|rfl<;>rfl
theorem AX (s:Sl) (rv:Nat→Value) (ov sv:Value) (h:∀k,k<4→(rv k).oneCell'=true) (e:ov.oneCell'=true) (f:sv.oneCell'=true):(SlC s rv ov sv).toList.all (·.oneCell')=true:=by
 have i:=h 0 (by decide);have d:=h 1 (by decide);have c:=h 2 (by decide);have j:=h 3 (by decide);show ([U Y s.bd,U Y s.pa,U Y s.un,.bool (s.ts 0).sup,rv 0,U Y (s.ts 0).al,.bool (s.ts 1).sup,rv 1,U Y (s.ts 1).al,.bool (s.ts 2).sup,rv 2,U Y (s.ts 2).al,.bool (s.ts 3).sup,rv 3,U Y (s.ts 3).al,U Y s.lv,ov,.bool s.hs,sv]:List Value).all (·.oneCell')=true;simp only[List.all_cons,List.all_nil,i,d,c,j,e,f];rfl
structure Qs (s:Sl):Prop where
 rd:∀k,k<4→(s.ts k).rd.length≤1000000
 ob:s.ag.length≤1000000
 vl:∀(i:Nat) (x:Ob),s.ag[i]?=N x→x.val.length≤1000000
 sd:s.sd.length≤1000000
structure TO (k:Nat) (w wr:World) (s:Sl) (rv:Nat→Value) (ov sv:Value) (Z:Array Value) (rn:Nat→Value):Prop where
 S:wr.heap[w.heap.size]?=N (O (SlC s rn ov sv) 68)
 R:wr.heap[w.heap.size+1]?=N (O Z 68)
 old:∀j,k≤j→j<4→rn j=rv j
 new:∀j,j<k→wr.ownsRow (w.heap.size+2) 24 2 (rn j) (s.ts j).rd.length (cO (s.ts j).rd)
 b:Below w.heap.size w wr
theorem TO.step {s:Sl} {Z:Array Value} (h:TO k w wr s rv ov sv Z rn) (p:k<4) (d:Below wr.heap.size wr w5) (r:w.heap.size+2≤wr.heap.size)
  (l:w5.ownsRow wr.heap.size 24 2 v (s.ts k).rd.length (cO (s.ts k).rd)):TO (k+1) w (w5.setCell ⟨w.heap.size,3+k*3+1,M⟩ v) s rv ov sv Z (fun j=>if j=k then v else rn j):=by
 have c:Keeps (· =w.heap.size) w5 (w5.setCell ⟨w.heap.size,3+k*3+1,M⟩ v):=(Keeps.refl _ _).set _ _ rfl;refine⟨?_,hpKeeps (hpKeep h.R d) c (fun e=>by have m:w.heap.size+1=w.heap.size:=e;omega),fun j t q=>?_,fun j o=>?_,h.b.trans ((d.mono h.b.size).trans (c.below (by have:=h.b.size;have:=d.size;omega) (fun j o e=>by omega)))⟩
 ·have:=hpSet (hpKeep h.S d) (3+k*3+1) v
  rw[KL s rn ov sv v p] at this;exact this
 ·rw [if_neg (by omega)]
  exact h.old j (by omega) q
 ·by_cases e:j=k
  ·subst e
   rw[if_pos rfl];exact own_keeps (own_lower l r) c (fun i hi e=>by have:=(l.lt i hi).1;have m:i=w.heap.size:=e;omega)
  ·rw [if_neg e]
   have f:=own_keeps (h.new j (by omega)) (Keeps.af (F:=fun _=>False) d) (fun _ _ e=>e);exact own_keeps f c (fun i hi e=>by have:=(f.lt i hi).1;have m:i=w.heap.size:=e;omega)
def Xk (w:World) (v2:Value):Nat→Prop:=fun k=>v2.ownBlock=N k∨k=w.heap.size∨k=w.heap.size+1
structure Px (k:Nat) (w w4 wr:World) (A B:Obj) (v2:Value) (ag:List Ob):Prop where
 A_:wr.heap[w.heap.size]?=N A
 B_:wr.heap[w.heap.size+1]?=N B
 row:∃cs,wr.ownsRow (w.heap.size+2) 165 2 v2 ag.length cs∧j0 (Xk w v2) wr cs ag∧∀i x,i<k→ag[i]?=N x→∃a c,cs[i*2+1]?=N (J a x.val.length c)∧∀ad,a=N ad→w.heap.size≤ad.block
 kp:Keeps (fun j=>v2.ownBlock=N j) w4 wr
theorem Px.step (h:Px k w w4 wr A B (J (N ⟨g,0,M⟩) ag.length cap) ag) (hw:w.heap.size+2≤wr.heap.size)
  (q:Below wr.heap.size wr w5) {x:Ob} (t:ag[k]?=N x) {E:TypeId} {p:Option Addr} (d:w5.ownsRow wr.heap.size E 1 (J p x.val.length c5) x.val.length (u8s x.val)):
  Px (k+1) w w4 (w5.setCell ⟨g,k*2+1,M⟩ (J p x.val.length c5)) A B (J (N ⟨g,0,M⟩) ag.length cap) ag:=by
 obtain⟨C,z,⟨cs,l,u,T⟩,Q⟩:=h;have W:=l.lt g rfl;have X:=hpLt C;have V:=hpLt z;have m:Keeps (fun k=>k=g) w5 (w5.setCell ⟨g,k*2+1,M⟩ (J p x.val.length c5)):=(Keeps.refl _ _).set _ _ rfl;have O:∀k,k=g→Xk w (J (N ⟨g,0,M⟩) ag.length cap) k:=fun k m=>.inl (by rw[m];rfl)
 have L:=own_keeps l (Keeps.af (F:=fun _=>False) q) (fun _ _ f=>f);have K:=u.keeps (Keeps.af (F:=fun _=>False) q) (fun _ f=>f.elim);have S:x.val≠[]→∀o,p=N o→¬Xk w (J (N ⟨g,0,M⟩) ag.length cap) o.block:=fun _ o r hF=>by
  have I:=(d.lt o.block (by rw[r];rfl)).1;rcases hF with e|e|e
  ·simp [Value.ownBlock] at e;omega
  ·omega
  ·omega
 refine⟨hpKeeps (hpKeep C q) m (fun e=>by have U:w.heap.size=g:=e;omega),hpKeeps (hpKeep z q) m (fun e=>by have U:w.heap.size+1=g:=e;omega),⟨cs.set (k*2+1) (J p x.val.length c5),(L.stored _ _).1,?_,?_⟩,?_⟩
 ·exact (K.set t (Bs.own d) S).keeps m O
 ·intro i y hi s
  have hlen:=u.1;have P:=(List.getElem?_eq_some_iff.1 t).1;by_cases D:i=k
  ·subst D
   rw[t] at s;cases s;exact⟨p,c5,List.getElem?_set_self (by omega),fun o r=>by have I:=(d.lt o.block (by rw[r];rfl)).1;omega⟩
  ·obtain ⟨a,c,G,R⟩:=T i y (by omega) s
   exact⟨a,c,by rw[List.getElem?_set_ne (by omega)];exact G,R⟩
 ·exact (Q.trans (Keeps.af (F:=fun _=>False) q) (fun _ _ e=>e.elim)).trans (m.mono (fun j _ e=>by subst e;rfl)) (fun _ _ e=>e)
theorem Px.ends {l:World} (h:Px k w w4 wr A B v2 ag) (E:ag.length≤k) (p:Keeps (fun j=>j=w.heap.size∨j=w.heap.size+1) wr l):∀W,ay w.heap.size l W→cY W v2 ag:=by
 obtain⟨_,_,⟨cs,d,y,s⟩,_⟩:=h;intro W r;have u:=own_keeps d p (fun j D e=>by have:=(d.lt j D).1;rcases e with e|e<;>omega);have m:=(y.keeps p (fun j e=>e.elim (fun e=>.inr (.inl e)) (fun e=>.inr (.inr e)))).cs;refine cY.iq (di (own_lower (base':=w.heap.size) u (by omega)) (Nat.le_refl _) r) ⟨m.1,fun i x f=>?_⟩ rfl;obtain⟨t,a,c,o,C⟩:=m.2 i x f;obtain⟨G,F,q,z⟩:=s i x (by have:=(List.getElem?_eq_some_iff.1 f).1;omega) f;rw[o] at q;cases q;exact⟨t,a,c,o,C.kj z r⟩
def Nw (w:World) (s:Sl) (r:Ending) (w':World):Prop:=∃rv ov sv,r=.returned (.agg (SlC s rv ov sv))∧(∀W,ay w.heap.size w' W→nO W s rv ov sv)∧Below w.heap.size w w'
theorem wT {base:Nat} {e:TypeId} {xs:List Value} (h:w.ownsRow base e sz v n xs):v.oneCell'=true:=by
 obtain⟨a,c,rfl⟩:=own_slice h;rfl
theorem Fz (s:Sl) (rv:Nat→Value) (ov sv:Value) (w:World) (hR:nO w s rv ov sv) (hs:Qs s):Calls Tryz.prog 69 #[.agg (SlC s rv ov sv)] w (Nw w s):=by
 obtain⟨C,hC⟩:=gE (SlC s rv ov sv);rw[hC];obtain⟨W0,bH⟩:∃W,(w.alloc (O C 68)).alloc (O #[U Y 0,U Y 0,U Y 0,.bool false,J none 0 0,U Y 0,.bool false,J none 0 0,U Y 0,.bool false,J none 0 0,U Y 0,.bool false,J none 0 0,U Y 0,U Y 0,J none 0 0,.bool false,J none 0 0] 68)=W:=⟨_,rfl⟩
 have cy:Below w.heap.size w W0:=by rw[←bH];exact bta (bal' w _) (Nat.le_refl _) _
 have a3:W0.heap.size=w.heap.size+2:=by rw[←bH];simp
 have pA:W0.heap[w.heap.size]?=N (O (SlC s rv ov sv) 68):=by rw[←bH,hC];exact hpKeep (hpNew w _) (bal' _ _)
 obtain⟨Z,hZ⟩:∃Z:Array Value,#[U Y 0,U Y 0,U Y 0,.bool false,J none 0 0,U Y 0,.bool false,J none 0 0,U Y 0,.bool false,J none 0 0,U Y 0,.bool false,J none 0 0,U Y 0,U Y 0,J none 0 0,.bool false,J none 0 0]=Z:=⟨_,rfl⟩
 have pB:W0.heap[w.heap.size+1]?=N (O Z 68):=by
  rw[←bH,←hZ];have:=hpNew (w.alloc (O C 68)) (O #[U Y 0,U Y 0,U Y 0,.bool false,J none 0 0,U Y 0,.bool false,J none 0 0,U Y 0,.bool false,J none 0 0,U Y 0,.bool false,J none 0 0,U Y 0,U Y 0,J none 0 0,.bool false,J none 0 0] 68);simpa using this
 have ab:Z.size=19:=by rw[←hZ];rfl
 have HT:Hid (TO 0 w W0 s rv ov sv Z rv):=⟨pA,pB,fun _ _ _=>rfl,fun j h=>by omega,cy⟩
 have HS:=hid hs;have G:=hid hR;have a4:=hid bH;have yt:=hid a3;have XP:=hid ab;clear bH hC hZ pA pB cy a3 ab hs hR;go_enter Tryz.func69,Tryz.ntmps69;go_upto_region 1 with(fail)
 rw[a4.out];go_upto_region 2 with(fail)
 go_loopw [5] (fun kv wr=>∃(k:Nat) (rn:Nat→Value),k≤4∧kv=U Y (k:Int)∧Hid (TO k w wr s rv ov sv Z rn)∧Hid (w.heap.size+2≤wr.heap.size)) (fun kv _=>4- (intOf kv).toNat)
 case atStart=>exact⟨0,rv,Nat.zero_le _,rfl,HT.out,by rw[yt.out];exact Nat.le_refl _⟩
 case round=>
  clear HT;obtain⟨k,rn,hk,rfl,o,I⟩:=hrel;have uU:(0:Int)≤(k:Int):=Int.natCast_nonneg _;by_cases m:k<4
  ·have b6:(k:Int)<4:=by omega
   have dN:=o.out.old k (Nat.le_refl _) m;have xY:dw wr (rn k) (s.ts k).rd:=by rw[dN];exact(G.out.rg k m).ah o.out.b
   have c1:wr.cell? ⟨w.heap.size,3+k*3+1,M⟩=N (rn k):=by rw[hpCell o.out.S];exact Ge s rn ov sv m
   have f1:wr.frozen? ⟨w.heap.size,3+k*3+1,M⟩=false:=hpFree o.out.S _;have ZS:w.heap.size<wr.heap.size:=hpLt o.out.S;obtain⟨v,S⟩:=gE (rn k);obtain⟨l,hl⟩:=gE ((s.ts k).rd);have oZ:=HS.out.rd k m;rw[S,hl] at xY;rw[S] at c1;rw[hl] at oZ;have m7:=hid (wB v l wr xY oZ);have HL:=hid hl;have L:=hid m;clear dN xY S hl oZ m;go_wp2_with (go_at_call 117;(with_reducible refine m7.out.mono ?_);rintro r w5 ⟨T,c5,rfl,c,d⟩;have y:=hid c;have j4:=hid d;have bK:w5.cell? ⟨w.heap.size,3+k*3+1,M⟩=N v:=cell_keep d c1;have b4:w5.frozen? ⟨w.heap.size,3+k*3+1,M⟩=false:=(by rw[d.frozen (p:=⟨w.heap.size,3+k*3+1,M⟩) ZS];exact f1);clear c d);go_roundw
   case rel=>
    have h5:=y.out;rw[←HL.out] at h5;refine⟨k+1,_,by have:=L.out;omega,by go_num,o.out.step L.out j4.out I.out (by rw[←HL.out];exact h5),?_⟩;show _≤_;have:=j4.out.size;have:=I.out;simp;omega
   case measure=>have:=L.out;simp [intOf];omega
  ·obtain rfl:k=4:=by omega
   clear m hk uU;have Bj:∀X,Below wr.heap.size wr X→X.cell? ⟨w.heap.size,16,M⟩=N ov:=fun X h=>hpCell (hpKeep o.out.S h) 16
   have f16:∀X,Below wr.heap.size wr X→X.frozen? ⟨w.heap.size,16,M⟩=false:=fun X h=>hpFree (hpKeep o.out.S h) 16
   have kr:Below wr.heap.size wr wr:=Below.refl _ _;have av:=hid (qL ov s.ag w wr G.out.ob o.out.b HS.out.ob);go_upto_region 7 with(go_at_call 118;(with_reducible refine av.out.mono ?_);rintro r w3 ⟨v2,cs,rfl,t,TD,P⟩;obtain⟨z,c2,rfl⟩:=own_slice t;have D:=hid t;have sy:=hid TD;have q:=hid P;have k3:=P;clear t TD P)
   obtain⟨E,nN⟩:∃W,w3.setCell ⟨w.heap.size,16,M⟩ (J z s.ag.length c2)=W:=⟨_,rfl⟩
   have R:Keeps (· =w.heap.size) w3 E:=by rw[←nN];exact(Keeps.refl _ _).set _ _ rfl
   have DF:=I.out;have Zy:=q.out.size;have TK:E.heap[w.heap.size]?=N (O (SlC s rn (J z s.ag.length c2) sv) 68):=by rw[←nN];exact hpSet (hpKeep o.out.S q.out) 16 (J z s.ag.length c2)
   have aX:E.heap[w.heap.size+1]?=N (O Z 68):=hpKeeps (hpKeep o.out.R q.out) R (fun e=>by have e':w.heap.size+1=w.heap.size:=e;omega);have aY:=own_keeps D.out R (fun j u e=>by have:=(D.out.lt j u).1;have e':j=w.heap.size:=e;omega);have ao:Hid (Px 0 w E E (O (SlC s rn (J z s.ag.length c2) sv) 68) (O Z 68) (J z s.ag.length c2) s.ag):=by
    refine⟨TK,aX,⟨cs,own_lower aY DF,?_,fun i x h=>absurd h (Nat.not_lt_zero _)⟩,Keeps.refl _ _⟩;have h2:j0 (Xk w (J z s.ag.length c2)) w3 cs s.ag:=j0.of sy.out (o.out.b.trans (q.out.mono o.out.b.size)) (fun j u hF=>by
     rcases hF with e|e|e
     ·have:=(D.out.lt j e).1
      omega
     ·omega
     ·omega)
    exact h2.keeps R (fun j e=>.inr (.inl e))
   have Q:Hid (∀j,j<4→E.ownsRow (w.heap.size+2) 24 2 (rn j) (s.ts j).rd.length (cO (s.ts j).rd)∧∀i,(rn j).ownBlock=N i→(Value.slice z s.ag.length c2).ownBlock≠some i):=fun j u=>by
    have h3:=own_keeps (o.out.new j u) (Keeps.af (F:=fun _=>False) q.out) (fun _ _ e=>e);refine⟨own_keeps h3 R (fun i hi e=>by have:=(h3.lt i hi).1;have e':i=w.heap.size:=e;omega),fun i hi e=>?_⟩;have h4:=(o.out.new j u).lt i hi;have:=(D.out.lt i e).1;omega
   have rM:Hid (Below w.heap.size w E):=(o.out.b.trans (q.out.mono o.out.b.size)).trans (R.below (by have:=o.out.b.size;omega) (fun j u e=>by omega));have a7:Hid (w.heap.size+2≤E.heap.size):=by show _≤_;have:=R.size;omega
   rw[nN];obtain⟨n,hN⟩:=gE s.ag.length;have V:=hid hN;have xp:n≤1000000:=by have:=HS.out.ob;omega
   have XH:E.cell? ⟨w.heap.size,16,M⟩=N (J z n c2):=by rw[←V.out];exact hpCell TK 16
   clear nN R DF Zy TK aX aY D sy q k3 Bj f16 kr av hN I o;go_upto_region 8 with(fail)
   clear XH;go_loopw [26] (fun idx wr=>∃k:Nat,k≤n∧idx=U Y k∧Hid (Px k w E wr (O (SlC s rn (J z s.ag.length c2) sv) 68) (O Z 68) (J z s.ag.length c2) s.ag)∧Hid (w.heap.size+2≤wr.heap.size)) (fun idx _=>n- (intOf idx).toNat)
   case atStart=>exact⟨0,Nat.zero_le _,rfl,ao.out,a7.out⟩
   case round=>
    obtain⟨k,hk,rfl,hrel,I⟩:=hrel;by_cases m:k<n
    ·obtain ⟨x,eR⟩:=gs (l:=s.ag) V.out m
     obtain⟨gA,gB,⟨Fk,f,zh,mH⟩,Sp⟩:=hrel.out;obtain⟨g,cap,S,hg,dM,cj⟩:=cK f (by rw[V.out];omega);simp only[Value.slice.injEq,true_and] at S;obtain⟨rfl,rfl⟩:=S;obtain⟨_,xa,xc,tI,gy,_⟩:=zh.2 k x eR;have e1:wr.cell? ⟨w.heap.size,16,M⟩=N (J (N ⟨g,0,M⟩) n c2):=by rw[←V.out];exact hpCell gA 16
     have e2:wr.cell? ⟨g,k*2+1,M⟩=N (J xa x.val.length xc):=by rw[f.cellAt _ (by rw[V.out];omega)];exact tI
     have e3:wr.frozen? ⟨g,k*2+1,M⟩=false:=f.frozenAt _;have BA:=(f.lt g rfl).2;have bX:=HS.out.vl k x eR;have m7:Hid (∀W,Below wr.heap.size wr W→Calls Tryz.prog 80 #[J xa x.val.length xc] W fun r w'=>∃v',r=.returned v'∧w'.ownsRow W.heap.size 5 1 v' x.val.length (u8s x.val)∧Below W.heap.size W w'):=fun W hW=>bY _ x.val W (gy.ah hW) (by omega)
     have HX:=hid eR;clear gA gB f zh mH Sp eR tI gy ao Q rM;have b5:(k:Int)<(n:Int):=by omega
     have uU:(0:Int)≤(k:Int):=Int.natCast_nonneg _;go_wp2_with fail;go_region_with (go_at_call 80;refine(m7.out _ (Below.refl _ _).drew).mono ?_;rintro r w5 ⟨v5,rfl,c,fU⟩;obtain⟨T,c5,rfl⟩:=own_slice c;have Xs:w5.frozen? ⟨g,k*2+1,M⟩=false:=(by rw[fU.frozen (p:=⟨g,k*2+1,M⟩) BA];exact e3);have YP:w5.cell? ⟨w.heap.size,16,M⟩=N (J (N ⟨g,0,M⟩) n c2):=cell_keep (w1:=wr.drew) fU e1;have bC:w5.cell? ⟨g,k*2+1,M⟩=N (J xa x.val.length xc):=cell_keep (w1:=wr.drew) fU e2)
     all_goals
      have d:Below wr.heap.size wr w5:=(Below.refl _ _).drew.trans fU;have HN:=hid (hrel.out.step I.out d HX.out c);have ba:Hid (w.heap.size+2≤(w5.setCell ⟨g,k*2+1,M⟩ (J T x.val.length c5)).heap.size):=(by show _≤_;have:=d.size;have:=I.out;simp;omega)
      go_wp2;go_roundw
      case rel=>exact⟨k+1,by omega,by go_num,HN.out,ba.out⟩
      case measure=>simp [intOf];omega
    ·have Xq:n≤k:=by omega
     have C7:wr.cell? ⟨w.heap.size,18,M⟩=N sv:=hpCell hrel.out.A_ 18;have f18:wr.frozen? ⟨w.heap.size,18,M⟩=false:=hpFree hrel.out.A_ 18;have RY:Below w.heap.size w wr:=rM.out.trans (hrel.out.kp.below rM.out.size (fun j u e=>by
      obtain⟨Fk,f,-⟩:=hrel.out.row
      have:=(f.lt j e).1
      omega))
     have Rl:=hid RY;have sy:=hid (bY sv s.sd wr (G.out.sd.ah RY) (by have:=HS.out.sd;omega));have ZS:w.heap.size<wr.heap.size:=hpLt hrel.out.A_;clear RY m hk;go_upto_region 13 with(go_at_call 80;(with_reducible refine sy.out.mono ?_);rintro r w5 ⟨v5,rfl,c,d⟩;obtain⟨T,c5,rfl⟩:=own_slice c;have y:=hid c;have j4:=hid d;have bA:w5.cell? ⟨w.heap.size,18,M⟩=N sv:=cell_keep d C7;have bQ:w5.frozen? ⟨w.heap.size,18,M⟩=false:=(by rw[d.frozen (p:=⟨w.heap.size,18,M⟩) ZS];exact f18);clear c d)
     obtain⟨W6,mF⟩:∃W,w5.setCell ⟨w.heap.size,18,M⟩ (J T s.sd.length c5)=W:=⟨_,rfl⟩
     have Pu:Keeps (· =w.heap.size) w5 W6:=by rw[←mF];exact(Keeps.refl _ _).set _ _ rfl
     obtain⟨K,sB⟩:=gE (SlC s rn (J z s.ag.length c2) (J T s.sd.length c5));have a8:W6.heap[w.heap.size]?=N (O K 68):=by rw[←mF,←sB];exact hpSet (hpKeep hrel.out.A_ j4.out) 18 (J T s.sd.length c5)
     have a9:W6.heap[w.heap.size+1]?=N (O Z 68):=hpKeeps (hpKeep hrel.out.B_ j4.out) Pu (fun e=>by have e':w.heap.size+1=w.heap.size:=e;omega);have hi:(Tryz.prog.info? 68).map (·.size)=N K.size:=by rw[←sB];exact dX
     have ad:K.size=19:=by rw[←sB];rfl
     have bn:K.toList.all (·.oneCell')=true:=by
      rw[←sB];exact AX s rn _ _ (fun j u=>wT (Q.out j u).1) rfl (wT y.out)
     have bm:=hid Pu;have a6:=hid sB;have zg:=XP.out;rw[mF];clear mF Pu sB C7 f18 sy;go_wp2_with (first
      |(refine wpList_load_row rfl 68 (.tmp 1) rfl w.heap.size rfl 68 K (0,0) _ a8 Tryz.underlying68 rfl hi ?_)
      |(refine wpList_storeW rfl 68 (.tmp 2) (.tmp 46) rfl (w.heap.size+1) 0 _ 68 K rfl rfl a9 (by simp [ad,zg]) hi bn ?_;intro w8 g8 bc bx))
     have g9:w8.heap[w.heap.size+1]?=N (O K 68):=by
      rw[g8,List.drop_eq_nil_of_le (by simp [ad,zg])];simp
     refine bodyPost_ret (results_cell_row rfl _ _ (w.heap.size+1) 68 K (0,0) _ rfl g9 Tryz.underlying68 rfl hi) rfl ?_;have ak:Keeps (fun j=>j=w.heap.size∨j=w.heap.size+1) w5 w8:=(bm.out.mono (fun j _ e=>.inl e)).trans bc (fun j _ e=>.inr e);have JJ:Keeps (fun j=>j=w.heap.size∨j=w.heap.size+1) wr w8:=(Keeps.af (F:=fun j=>j=w.heap.size∨j=w.heap.size+1) j4.out).trans ak (fun _ _ e=>e);obtain⟨Fk,r9,-⟩:=hrel.out.row;refine⟨rn,_,_,by rw[←a6.out],fun W hW=>⟨fun j u=>?_,hrel.out.ends (by rw[V.out];exact Xq) JJ W hW,?_,G.out.mo,G.out.un,G.out.lv,G.out.bd,G.out.pa⟩,Rl.out.trans ((JJ.below (by have:=Rl.out.size;omega) (fun j u e=>by rcases e with e|e<;>omega)))⟩
     ·obtain ⟨t1,t2⟩:=Q.out j u
      have t3:=own_keeps t1 hrel.out.kp (fun i hi e=>t2 i hi e);have t4:=own_keeps t3 JJ (fun i hi e=>by have:=(t3.lt i hi).1;rcases e with e|e<;>omega);exact gY.iq (di (own_lower (base':=w.heap.size) t4 (by omega)) (Nat.le_refl _) hW) (mq _ (G.out.rg j u).Wz) rfl
     ·have t4:=own_keeps y.out ak (fun i hi e=>by have:=(y.out.lt i hi).1;have:=I.out;rcases e with e|e<;>omega)
      exact Bs.own (di (own_lower (base':=w.heap.size) t4 (by have:=Rl.out.size;omega)) (Nat.le_refl _) hW)
structure lg where
 aC:List At
 loop:Bool
 cr:List (Int×Int)
def kY (l:List (Int×Int)) (i:Nat) (x:Int×Int):Prop:=0≤x.1∧x.1≤999999999∧0≤x.2∧x.2≤1000000∧∀y,0<i→l[i-1]?=N y→y.1<x.1
def lg.ok (s:lg):Prop:=s.aC.length≤4096∧¬(s.loop=true∧s.aC.length=0)∧s.cr.length≤8∧(∀i x,s.cr[i]?=N x→kY s.cr i x)∧∀x∈s.aC,x.ok
def er (w:World) (s:lg) (r:Ending) (w':World):Prop:=∃V:Bool,r=.returned (.bool V)∧Hid (V=true↔s.ok)∧Below w.heap.size w w'
theorem er.no {s:lg} (h:¬s.ok) (c:Below w.heap.size w w'):er w s (.returned (.bool false)) w':=⟨false,rfl,⟨fun e=>(by cases e),fun e=>absurd e h⟩,c⟩
theorem tC:(Tryz.prog.info? 161).map (·.size)=N 2:=by kernel_rfl
theorem Wm (h:¬a=b):(a==b)=false:=beq_eq_false_iff_ne.2 h
theorem BH (n m:Int) (c:0≤n) (d:n≤m) (w:World):Calls Tryz.prog 113 #[U Y n,U Y m] w fun r w'=>r=.returned (.bool true)∧w=w':=by
 go_enter Tryz.func113,Tryz.ntmps113;go_wp2;go_ret;exact⟨rfl,rfl⟩
theorem TU (k:Nat) (d:k<7):∃R:Array Value,R.size=4∧R.toList.all (·.oneCell')=true∧R[1]?=N (.bool (k==3||k==6))∧R[2]?=N (.bool (k==3))∧R[3]?=N (.bool (k==4||k==6))∧∀j v,R.toList[j]?=N v→RA[k*4+j]?=N v:=by
 refine⟨((RA.toList.drop (k*4)).take 4).toArray,?_,?_,?_,?_,?_,fun j v h=>?_⟩
 case refine_6=>
  have c:((RA.toList.drop (k*4)).take 4)[j]?=N v:=h;rw[List.getElem?_take] at c;split at c
  ·rw [List.getElem?_drop] at c
   simpa using c
  ·cases c
 all_goals rcases (show k=0∨k=1∨k=2∨k=3∨k=4∨k=5∨k=6 by omega) with e|e|e|e|e|e|e<;>subst e<;>rfl
theorem Jh (a:At) (L:a.ok) (w:World):Calls Tryz.prog 116 #[.agg a.C] w (aj w true):=by
 obtain⟨bf,fault,pos,mask,ai,value⟩:=a;obtain⟨h1,h2,h3,h4,h5,h6,S⟩:=(At.bG ..).1 L;obtain⟨k,rfl⟩:∃k:Nat,fault=(k:Int):=⟨fault.toNat,by omega⟩
 have E:k<7:=by omega
 obtain⟨R,u,J,F,Q,I,G⟩:=TU k E;obtain⟨C,f⟩:=gE ((At.mk bf k pos mask ai value).C);rw[f];obtain⟨c,P,o,j⟩:=eY w (O C 70);have t0:∀X,Below c.heap.size c X→X.cell? ⟨w.heap.size,0,M⟩=N (U Y bf):=fun X h=>by rw[hpCell (hpKeep j h) 0,←f];rfl
 have t1:∀X,Below c.heap.size c X→X.cell? ⟨w.heap.size,1,M⟩=N (U Y (k:Int)):=fun X h=>by rw[hpCell (hpKeep j h) 1,←f];rfl
 have t2:∀X,Below c.heap.size c X→X.cell? ⟨w.heap.size,2,M⟩=N (U Y pos):=fun X h=>by rw[hpCell (hpKeep j h) 2,←f];rfl
 have t3:∀X,Below c.heap.size c X→X.cell? ⟨w.heap.size,3,M⟩=N (U Y mask):=fun X h=>by rw[hpCell (hpKeep j h) 3,←f];rfl
 have t4:∀X,Below c.heap.size c X→X.cell? ⟨w.heap.size,4,M⟩=N (U Y ai):=fun X h=>by rw[hpCell (hpKeep j h) 4,←f];rfl
 have t5:∀X,Below c.heap.size c X→X.cell? ⟨w.heap.size,5,M⟩=N (U Y value):=fun X h=>by rw[hpCell (hpKeep j h) 5,←f];rfl
 have x:=hid P;have D:=hid o;have W:=hid Ct;have l:=hid BH;have hi:(Tryz.prog.info? 223).map (·.size)=N R.size:=by rw[u];exact Pl
 have H7:=hid S;have k0:(0:Int)≤(k:Int):=Int.natCast_nonneg _;have k6:(k:Int)≤6:=by omega
 have k7:(k:Int)<7:=by omega
 clear P o j f S L;go_enter Tryz.func116,Tryz.ntmps116;go_upto_region 1 with(fail)
 rw[x.out];go_upto_region 2 with(go_at_call 152;(with_reducible refine(W.out _).mono ?_);rintro r m ⟨rfl,⟨T,V⟩,e⟩)
 have u0:=t0 _ e;have u1:=t1 _ e;have u5:=t5 _ e;go_upto_region 5 with(first
  |(go_at_call 113;(with_reducible refine(l.out _ _ (by assumption) (by assumption) _).mono ?_);rintro r w3 ⟨rfl,rfl⟩)
  |(refine wpList_load_atH (by rfl) 223 (.tmp 31) rfl ⟨c.heap.size,k*4,M⟩ rfl R _ (Qp V (k*4) R G) Tryz.underlying223 rfl hi ?_)
  |(refine wpList_storeW rfl 223 (.tmp 4) (.tmp 32) rfl m.heap.size 0 _ 223 R rfl rfl (hpNew m _) (by simp [u]) hi J ?_;intro w5 K p y))
 obtain⟨t,q⟩:=cJ (by rw[u];rfl) K p;have d:=bt e q (Nat.le_refl _);have v1:=t1 _ d;have v2:=t2 _ d;have v3:=t3 _ d;have v4:=t4 _ d;have z1:w5.cell? ⟨m.heap.size,1,M⟩=N (.bool (k==3||k==6)):=by rw[hpCell t];exact F
 have Z:w5.cell? ⟨m.heap.size,2,M⟩=N (.bool (k==3)):=by rw[hpCell t];exact Q
 have z3:w5.cell? ⟨m.heap.size,3,M⟩=N (.bool (k==4||k==6)):=by rw[hpCell t];exact I
 have s:=hid (bt D.out d (Nat.le_refl _));clear u0 u1 u5 t V K p y q d e t0 t1 t2 t3 t4 t5 u J F Q I G hi;rcases H7.out with⟨i,rfl,rfl,rfl⟩|⟨i,p0,p1,m0,m1,m2,rfl⟩|⟨i,rfl,rfl⟩|⟨i,p0,p1,rfl⟩
 ·have d1:(k==3)=false:=Wm (by omega)
  have d2:(k==6)=false:=Wm (by omega);have d3:(k==4)=false:=Wm (by omega);rw[d1,d2] at z1;rw[d1] at Z;rw[d3,d2] at z3;clear i;go_quiet (fail);go_wp2_with (go_at_call 113;(with_reducible refine(l.out _ _ (by assumption) (by assumption) _).mono ?_);rintro r w3 ⟨rfl,rfl⟩);go_ret;exact⟨rfl,below_drewN s.out _⟩
 ·obtain rfl:k=3:=by omega
  have z:0≤mask:=by omega
  have hand:bits .and .i64 mask 255=mask%256:=uE mask z (by omega);have db:(mask%256 !=0)=true:=bne_iff_ne.2 m2;clear i;go_quiet (fail);go_wp2_with (go_at_call 113;(with_reducible refine(l.out _ _ (by assumption) (by assumption) _).mono ?_);rintro r w3 ⟨rfl,rfl⟩);go_ret;exact⟨rfl,below_drewN s.out _⟩
 ·obtain rfl:k=4:=by omega
  clear i;go_quiet (fail);go_wp2_with (go_at_call 113;(with_reducible refine(l.out _ _ (by assumption) (by assumption) _).mono ?_);rintro r w3 ⟨rfl,rfl⟩);go_ret;exact⟨rfl,below_drewN s.out _⟩
 ·obtain rfl:k=6:=by omega
  have ab:0≤pos:=by omega
  clear i;go_quiet (fail);go_wp2_with (go_at_call 113;(with_reducible refine(l.out _ _ (by assumption) (by assumption) _).mono ?_);rintro r w3 ⟨rfl,rfl⟩);go_ret;exact⟨rfl,below_drewN s.out _⟩
theorem J3 (a:At) (j:a.ok) (w:World):Calls Tryz.prog 115 #[.agg a.C] w (aj w false):=by
 obtain⟨C,d⟩:=gE a.C;have o:Hid (∀X,Calls Tryz.prog 116 #[.agg C] X (aj X true)):=fun X=>by rw[←d];exact Jh a j X
 have hi:(Tryz.prog.info? 70).map (·.size)=N C.size:=by rw[←d];exact ga
 rw[d];obtain⟨q,l,c,m⟩:=eY w (O C 70);have e:=hid l;have f:=hid c;clear l c d j;go_enter Tryz.func115,Tryz.ntmps115;go_upto_region 1 with(fail)
 rw[e.out];go_wp2_with (first
  |(refine wpList_load_row rfl 70 (.tmp 1) rfl w.heap.size rfl 70 C (0,0) _ m Tryz.underlying70 rfl hi ?_)
  |(go_at_call 116;(with_reducible refine(o.out _).mono ?_);rintro r p ⟨rfl,i⟩))
 go_ret;exact⟨rfl,bt f.out i (Nat.le_refl _)⟩
theorem FF (v:Value) (l:List At) (w:World) (f:ke w v l) (t:∀x∈l,x.ok):Calls Tryz.prog 114 #[v,.func (.func 115) #[] #[]] w (aj w false):=by
 have K:=hid f;have G:=hid t;obtain⟨a,c,rfl,u,y,-⟩:=id f;obtain⟨n,j⟩:=gE l.length;have s:=hid j;rw[j] at u ⊢;have D:n≤9223372036854775807:=by unfold maxLen at y;omega
 clear f j t y;have F:Hid (Calls Tryz.prog 151 #[J a n c,.func (.func 115) #[] #[]] w fun r w'=>r=.returned (U Y (-1))∧Below w.heap.size w w'):=by
  show Calls _ _ _ _ _;go_enter Tryz.func151,Tryz.ntmps151;go_wp2;go_loopw [8] (fun i wr=>∃k:Nat,k≤n∧i=U Y k∧Below w.heap.size w wr) (fun i _=>n- (intOf i).toNat)
  case atStart=>exact⟨0,Nat.zero_le _,rfl,Below.refl _ _⟩
  case round=>
   obtain⟨k,L,rfl,e⟩:=hrel;have C:(0:Int)≤(k:Int):=Int.natCast_nonneg _;by_cases m:k<n
   ·obtain ⟨x,p⟩:=gs (l:=l) s.out m
    obtain⟨b,o,P,q,z⟩:=K.out.at p;rw[s.out] at q;simp only[Value.slice.injEq,true_and] at q;obtain⟨rfl,rfl⟩:=q;have I:(k:Int)<(n:Int):=by omega
    obtain⟨y0,R,Q,M,O,N⟩:=z wr e;have E:Hid (Calls Tryz.prog 115 #[.agg #[U Y x.bf,U Y x.fault,U Y x.pos,U Y x.mask,U Y x.ai,U Y x.value]] wr (aj wr false)):=J3 x (G.out x (List.mem_of_getElem? p)) wr;clear p z;go_wp2_with fail;refine E.out.mono ?_;rintro r w1 ⟨rfl,d⟩;go_wp2;go_roundw
    case rel=>exact⟨k+1,by omega,by go_num,bt e d (Nat.le_refl _)⟩
    case measure=>simp [intOf];omega
   ·obtain rfl:k=n:=by omega
    go_wp2;go_ret;exact⟨rfl,e⟩
 clear u D;go_enter Tryz.func114,Tryz.ntmps114;go_wp2_with fail;refine F.out.mono ?_;rintro r w1 ⟨rfl,d⟩;go_wp2;go_ret;exact⟨rfl,d⟩
theorem LI (s:lg) (av cv:Value) (w:World) (ha:ke w av s.aC) (hc:dw w cv s.cr) (cX:s.ok):Calls Tryz.prog 67 #[.agg #[av,.bool s.loop,cv]] w (aj w true):=by
 obtain⟨aa,ac,rfl,-⟩:=id ha;obtain⟨ca,cc,rfl,lj,zE,-⟩:=id hc;obtain⟨an,fD⟩:=gE s.aC.length;obtain⟨y,iW⟩:=gE s.cr.length;obtain⟨lp,fG⟩:=gE s.loop;obtain⟨o1,o2,o3,o4,o5⟩:=cX;have aX:Hid (∀X,Below w.heap.size w X→Calls Tryz.prog 114 #[J aa an ac,.func (.func 115) #[] #[]] X (aj X false)):=fun X hX=>FF _ s.aC X (by rw[←fD];exact ha.ah hX) o5
 rw[fD] at o1 o2 ⊢;rw[iW] at hc o3 lj ⊢;rw[fG] at o2 ⊢;have u:=hid iW;have HC:=hid hc;have Wk:=hid o4;have R:=hid BH;obtain⟨F,ak,I,pS⟩:=eY w (O #[J aa an ac,.bool lp,J ca y cc] 32);have t0:=cF pS 0 rfl;have t1:=cF pS 1 rfl;have t2:=cF pS 2 rfl;have W:Below F.heap.size F F:=Below.refl _ _;have ab:=hid ak;have D:=hid I;have x0:=t0 _ W;have x1:=t1 _ W;have x2:=t2 _ W;have q1:¬(4096:Int)<(an:Int):=by omega
 have q2:lp=false∨(lp=true∧((an:Int)==0)=false):=by
  cases lp with
  |false=>exact .inl rfl
  |true=>exact .inr ⟨rfl,b0 (fun e=>o2 ⟨rfl,by omega⟩)⟩
 have q3:¬(8:Int)<(y:Int):=by omega
 clear ak I pS fD iW fG ha hc lj zE o1 o2 o4 o5;rcases q2 with rfl|⟨rfl,q2⟩<;>
 ·go_enter Tryz.func67,Tryz.ntmps67
  go_upto_region 1 with(fail)
  rw[ab.out];go_upto_region 4 with(fail)
  go_loopw [28] (fun kv wr=>∃k:Nat,k≤y∧kv=U Y k∧Below F.heap.size F wr) (fun kv _=>y- (intOf kv).toNat)
  case atStart=>exact⟨0,Nat.zero_le _,rfl,W⟩
  case round=>
   obtain⟨k,hk,rfl,m⟩:=hrel;have a2:(0:Int)≤(k:Int):=Int.natCast_nonneg _;clear x0 x1 x2;by_cases E:k<y
   ·obtain ⟨⟨st,kp⟩,hx⟩:=gs (l:=s.cr) u.out E
    obtain⟨b,o,c',dE,-,-,cz⟩:=HC.out.at hx;rw[u.out] at dE;simp only[Value.slice.injEq,true_and] at dE;obtain⟨rfl,rfl⟩:=dE;have aY:(k:Int)<(y:Int):=by omega
    have oO:=bt D.out m (Nat.le_refl _);obtain⟨y0,y1⟩:=cz wr oO;obtain⟨w1,w2,w3,w4,T⟩:=Wk.out k _ hx;dsimp only at y0 y1 w1 w2 w3 w4 T;have cd:∀j v,(#[U Y st,U Y kp]:Array Value).toList[j]?=N v→wr.cell? ((⟨b,o+k*2,M⟩:Addr).add j)=N v:=fun j v hj=>by
     rw[Addr.add_lit];rcases j with _|_|j
     ·cases hj;exact y0
     ·cases hj;exact y1
     ·cases hj
    go_upto_region 6 with(first
     |(refine wpList_load_atH (by rfl) 161 (.tmp 31) rfl ⟨b,o+k*2,M⟩ rfl #[U Y st,U Y kp] _ cd Tryz.underlying161 rfl tC ?_)
     |(refine wpList_storeW rfl 161 (.tmp 4) (.tmp 32) rfl wr.heap.size 0 _ 161 #[U Y st,U Y kp] rfl rfl (hpNew wr _) (by simp) tC rfl ?_;intro w5 g5 L ao))
    obtain⟨p5,Q⟩:=cJ (by simp) g5 L;have z0:=cF p5 0 rfl
    have z1:=cF p5 1 rfl
    have C:Below w5.heap.size w5 w5.drew:=(Below.refl _ _).drew;have z:=bt m Q (Nat.le_refl _);have x2:=fun X (h:Below w5.heap.size w5 X)=>t2 X (bt z h (Nat.le_refl _))
    have t:=hid (bt D.out z (Nat.le_refl _));have j4:=hid z;have m7:=hid cz;have Z:=hid E;clear p5 Q z g5 L ao cd y0 y1 cz E oO;dsimp only[Act.put];by_cases e0:0<k
    ·have Zu:(0:Int)<(k:Int):=by omega
     obtain⟨G,tD⟩:∃x,k-1=x:=⟨_,rfl⟩
     have a3:IntKind.i64.wrap ((k:Int)-1)=(G:Int):=(IntWalk.i64_in _ (by omega)).trans (by omega);obtain⟨⟨ys,yk⟩,hy⟩:=gs (l:=s.cr) u.out (show G<y by omega);obtain⟨b',o',a4,zS,-,-,nt⟩:=HC.out.at hy;rw[u.out] at zS;simp only[Value.slice.injEq,Option.some.injEq,Addr.mk.injEq,true_and,and_true] at zS;obtain⟨⟨rfl,rfl⟩,rfl⟩:=zS;have v0:∀X,Below w5.heap.size w5 X→X.cell? ⟨b,o+G*2,M⟩=N (U Y ys):=fun X h=>(nt X (bt t.out h (Nat.le_refl _))).1
     have a6:(0:Int)≤(G:Int):=Int.natCast_nonneg _;have a5:(G:Int)<(y:Int):=by omega
     have e1:¬st≤ys:=by
      have h:=T _ e0 (by rw[tD];exact hy);dsimp only at h;omega
     clear hy nt tD T hx;refine wp_region_held_drew (S:=fun V=>Below w5.heap.size w5 V) (by kernel_rfl) C (fun hH=>?_);clear hH;refine tG 0 33 ?_;refine tG 1 34 ?_;refine rdyH 2 rfl (fun K f=>?_);go_simp;refine(R.out _ _ (by assumption) (by assumption) _).mono ?_;rintro r wh ⟨rfl,rfl⟩;refine f.out _ _ C (fun c=>?_);clear f K c;refine tG 3 36 ?_;refine tG 4 37 ?_;refine tG 5 38 ?_;refine tG 6 39 ?_;refine rdyH 7 rfl (fun K f=>?_);go_simp;refine(R.out _ _ (by assumption) (by assumption) _).mono ?_;rintro r wh ⟨rfl,rfl⟩;refine f.out _ _ C (fun c=>?_);clear f K c;refine tG 8 41 ?_;refine tG 9 42 ?_;refine tG 10 43 ?_;refine tG 11 44 ?_;refine tG 12 45 ?_;refine tG 13 46 ?_;refine tG 14 47 ?_;refine tG 15 48 ?_;refine tG 16 49 ?_;refine tG 17 50 ?_;refine tG 18 51 ?_;refine tG 19 52 ?_;refine tG 20 53 ?_;refine tG 21 54 ?_;refine tG 22 55 ?_;refine tG 23 56 ?_;refine tG 24 57 ?_;refine tG 25 58 ?_;refine wpAnyH_done (by kernel_rfl) ?_ _;go_wp2;go_roundw
     case rel=>exact⟨k+1,Z.out,by go_num,bt j4.out C (Nat.le_refl _)⟩
     case measure=>have:=Z.out;simp [intOf];omega
    ·have Zu:¬(0:Int)<(k:Int):=by omega
     clear T hx m7;refine wp_region_held_drew (S:=fun V=>Below w5.heap.size w5 V) (by kernel_rfl) C (fun hH=>?_);clear hH;refine tG 0 33 ?_;refine tG 1 34 ?_;refine rdyH 2 rfl (fun K f=>?_);go_simp;refine(R.out _ _ (by assumption) (by assumption) _).mono ?_;rintro r wh ⟨rfl,rfl⟩;refine f.out _ _ C (fun c=>?_);clear f K c;refine tG 3 36 ?_;refine tG 4 37 ?_;refine tG 5 38 ?_;refine tG 6 39 ?_;refine rdyH 7 rfl (fun K f=>?_);go_simp;refine(R.out _ _ (by assumption) (by assumption) _).mono ?_;rintro r wh ⟨rfl,rfl⟩;refine f.out _ _ C (fun c=>?_);clear f K c;refine tG 8 41 ?_;refine tG 9 42 ?_;refine tG 10 43 ?_;refine tG 11 44 ?_;refine tG 12 45 ?_;refine tG 13 46 ?_;refine tU 14 47 ?_;refine tU 15 48 ?_;refine tU 16 49 ?_;refine tU 17 50 ?_;refine tU 18 51 ?_;refine tU 19 52 ?_;refine tU 20 53 ?_;refine tU 21 54 ?_;refine tU 22 55 ?_;refine tU 23 56 ?_;refine tG 24 57 ?_;refine tG 25 58 ?_;refine wpAnyH_done (by kernel_rfl) ?_ _;go_wp2;go_roundw
     case rel=>exact⟨k+1,Z.out,by go_num,bt j4.out C (Nat.le_refl _)⟩
     case measure=>have:=Z.out;simp [intOf];omega
   ·obtain rfl:k=y:=by omega
    have aY:¬(k:Int)<(k:Int):=by omega
    have y0:=t0 _ m;have t:=hid (bt D.out m (Nat.le_refl _));go_wp2_with (go_at_call 114;(with_reducible refine(aX.out _ t.out).mono ?_);rintro r w9 ⟨rfl,ad⟩);go_ret;exact⟨rfl,bt t.out ad (Nat.le_refl _)⟩
