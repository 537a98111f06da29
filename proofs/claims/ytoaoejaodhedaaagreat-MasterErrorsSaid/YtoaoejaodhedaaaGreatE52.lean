import Derived.Test.YtoaoejaodhedaaaGreatE51
namespace Go.Proofs.YtoaoejaodhedaaaGreat
open Go.RowKit
set_option maxHeartbeats 6400000
set_option maxRecDepth 100000
def LkActO (w:World) (s:Lk) (F:List UInt8) (r:Ending) (w':World):Prop:=
 ∃(a:Option Addr) (c:Nat),r=.returned (.agg #[.int .i64 1,.int .i64 s.now,.slice a F.length c])∧w'.ownsRow w.heap.size 5 1 (.slice a F.length c) F.length (u8s F)∧Below w.heap.size w w'
theorem own_base {w:World} {b b':Nat} {e:TypeId} {size:Nat} {v:Value} {n:Nat} {xs:List Value} (h:w.ownsRow b e size v n xs) (hb:b'≤b):w.ownsRow b' e size v n xs:=by
 obtain⟨h1,h2⟩:=h
 refine⟨h1,?_⟩
 rcases h2 with h2|⟨g,cap,cur,q1,q2,q3⟩
 ·exact .inl h2
 ·exact .inr ⟨g,cap,cur,q1,Nat.le_trans hb q2,q3⟩
theorem action_sendO (g:Nat) (s:Lk) (F:List UInt8) (w:World) (hl:LkAt w g s) (hph:s.ph=1) (hfr:Bs w (.slice s.fa s.fn s.fc) F) (hF:F.length≤1000):
  Calls Tryz.prog 61 #[.pointer (some ⟨g,0,none⟩)] w (LkActO w s F):=by
 have hg:=hl.lt
 obtain⟨W1,hW1⟩:∃W,w.alloc (.cells #[.int .i64 0,.int .i64 0,.slice none 0 0] 136)=W:=⟨_,rfl⟩
 have hb1:Below w.heap.size w W1:=by rw[←hW1];exact bal' w _
 have g1:W1.heap[w.heap.size]?=some (.cells #[.int .i64 0,.int .i64 0,.slice none 0 0] 136):=by rw[←hW1];exact hpNew w _
 have l1:=hl.keep hb1
 have c5:W1.cell? ⟨g,5,none⟩=some (.int .i64 1):=by rw[l1.cell 5];simp [Lk.cells,hph]
 have hgp:g≠w.heap.size:=by omega
 have c13:∀W,ActS W1 w.heap.size s.now W→W.cell? ⟨g,13,none⟩=some (.int .i64 s.now):=fun W h=>h.cell l1 hgp 13
 have c12:∀W,ActS W1 w.heap.size s.now W→W.cell? ⟨g,12,none⟩=some (.slice s.fa s.fn s.fc):=fun W h=>h.cell l1 hgp 12
 have kD:Below W1.heap.size W1 W1.drew:=(Below.refl _ _).drew
 have kS:ActS W1 w.heap.size s.now W1.drew:=.inl kD
 have HCL:Hid (∀W,Below W1.heap.size W1 W→Calls Tryz.prog 80 #[.slice s.fa s.fn s.fc] W fun r w'=>∃a c,r=.returned (.slice a F.length c)∧w'.ownsRow W.heap.size 5 1 (.slice a F.length c) F.length (u8s F)∧Below W.heap.size W w'):=fun W hW=>by
  refine(clone_any _ F W ((hfr.keep hb1).keep hW) (by omega)).mono ?_
  rintro r w' ⟨v',rfl,hown,hb⟩
  obtain⟨a,c,rfl⟩:=own_slice hown
  exact⟨a,c,rfl,hown,hb⟩
 have HR:∀X a n c,Below W1.heap.size W1 X→ActS W1 w.heap.size s.now (((X.setCell ⟨w.heap.size,0,none⟩ (.int .i64 1)).setCell ⟨w.heap.size,1,none⟩ (.int .i64 s.now)).setCell ⟨w.heap.size,2,none⟩ (.slice a n c)):=fun X a n c h=>.inr ⟨X,a,n,c,h,rfl⟩
 have HW1:=hid hW1
 have HB1:=hid hb1
 have G1:=hid g1
 clear hl hph hfr hW1 hb1 l1 g1 hF
 go_enter Tryz.func61,Tryz.ntmps61
 go_upto_region 1 with(fail)
 rw[HW1.out]
 go_wp2
 go_region_held3 (fun W=>ActS W1 w.heap.size s.now W) ((with_reducible (first|exact kS|assumption|exact HR _ _ _ _ hBL))) ((go_at_call 80;(with_reducible refine(HCL.out W1.drew kD).mono ?_);rintro r w2 ⟨a,c,rfl,hown,hb2⟩;have hBL:=bU kD hb2;have hSL:ActS W1 w.heap.size s.now w2:=.inl hBL;have gz:=kP G1.out hBL;have z0:=cP gz 0;have z1:=cP gz 1;have z2:=cP gz 2;have y0:=hpFree gz 0;have y1:=hpFree gz 1;have y2:=hpFree gz 2))
 have m3:=hpSet (hpSet (hpSet gz 0 (.int .i64 1)) 1 (.int .i64 s.now)) 2 (.slice a F.length c)
 obtain⟨q0,q1,q2⟩:(((w2.setCell ⟨w.heap.size,0,none⟩ (.int .i64 1)).setCell ⟨w.heap.size,1,none⟩ (.int .i64 s.now)).setCell ⟨w.heap.size,2,none⟩ (.slice a F.length c)).cell? ⟨w.heap.size,0,none⟩=some (.int .i64 1)∧(((w2.setCell ⟨w.heap.size,0,none⟩ (.int .i64 1)).setCell ⟨w.heap.size,1,none⟩ (.int .i64 s.now)).setCell ⟨w.heap.size,2,none⟩ (.slice a F.length c)).cell? ⟨w.heap.size,1,none⟩=some (.int .i64 s.now)∧(((w2.setCell ⟨w.heap.size,0,none⟩ (.int .i64 1)).setCell ⟨w.heap.size,1,none⟩ (.int .i64 s.now)).setCell ⟨w.heap.size,2,none⟩ (.slice a F.length c)).cell? ⟨w.heap.size,2,none⟩=some (.slice a F.length c):=⟨cP m3 0,cP m3 1,cP m3 2⟩
 obtain⟨W5,hW5⟩:∃W,W=((w2.setCell ⟨w.heap.size,0,none⟩ (.int .i64 1)).setCell ⟨w.heap.size,1,none⟩ (.int .i64 s.now)).setCell ⟨w.heap.size,2,none⟩ (.slice a F.length c):=⟨_,rfl⟩
 rw[←hW5] at q0 q1 q2 ⊢
 have HW5:=hid hW5
 have hlt:w.heap.size<W1.heap.size:=(Array.getElem?_eq_some_iff.1 G1.out).1
 clear hW5 m3 z0 z1 z2 y0 y1 y2 gz c13 c12 HR
 go_wp2
 refine bodyPost_ret (v:=.agg #[.int .i64 1,.int .i64 s.now,.slice a F.length c]) (by simp [results,Tryz.results61,go_sem,q0,q1,q2]) rfl ?_
 have hk:Keeps (· =w.heap.size) w2 W5:=by rw[HW5.out];exact kset' (kset' (kset' (Keeps.refl _ _) _ _) _ _) _ _
 refine⟨a,c,rfl,?_,?_⟩
 ·exact own_base (b:=W1.heap.size) (oQ hown hk (fun j hj e=>by
   have h1:=(hown.lt j hj).1
   have h2:j=w.heap.size:=e
   have h3:W1.heap.size≤j:=h1
   omega)) (show w.heap.size≤W1.heap.size by omega)
 ·have hbw:=bU HB1.out hBL
  exact hbw.trans (hk.below hbw.size (fun k hk e=>by omega))
theorem mwait_nil (w:World):Calls Tryz.prog 22 #[.pointer none] w fun r w'=>r=.returned (.tuple #[])∧w=w':=by
 go_enter Tryz.func22,Tryz.ntmps22
 go_wp2
 refine bodyPost_ret (results_none rfl _ _ _) rfl ?_
 exact⟨rfl,rfl⟩
theorem infoAc3:(Tryz.prog.info? 136).map (·.size)=some 3:=by kernel_rfl
theorem msend_nil (w:World):Calls Tryz.prog 27 #[.pointer none] w fun r w'=>r=.returned (.int .i64 13)∧w=w':=by
 go_enter Tryz.func27,Tryz.ntmps27
 go_wp2
 go_ret
 exact⟨rfl,rfl⟩
theorem msend_no {gm gl gj k:Nat} {P PL Q:Nat→Prop} {c:Cf} {sv:Value} {f:Fx} {y:Ms} {s:Lk} {w:World} (h:MsS gm gl gj k P PL Q c sv f y s w) (hb:y.b=false):Calls Tryz.prog 27 #[.pointer (some ⟨gm,0,none⟩)] w fun r w'=>r=.returned (.int .i64 14)∧w=w':=by
 have c17:=h.c17n hb
 clear h hb
 go_enter Tryz.func27,Tryz.ntmps27
 go_wp2
 go_ret
 exact⟨rfl,rfl⟩
theorem pk_actO {g k:Nat} {P:Nat→Prop} {x:Tx} {s:Lk} {W:World} (h:PK g k P x s W) (hp:x.ph=1) (F:List UInt8) (hF:x.bytes=F):Calls Tryz.prog 61 #[.pointer (some ⟨g,0,none⟩)] W fun r w'=>∃(a:Option Addr) (c:Nat),r=.returned (.agg #[.int .i64 1,.int .i64 x.now,.slice a F.length c])∧w'.ownsRow W.heap.size 5 1 (.slice a F.length c) F.length (u8s F)∧Below W.heap.size W w':=by
 have hph:=h.ph
 have hlv:x.live:=by unfold Tx.live;omega
 have hb:x.bytes=aduF (UInt8.ofNat x.un.toNat) x.q.pdu:=by unfold Tx.bytes;rw[if_pos hp]
 have hl:=aduF_length (UInt8.ofNat x.un.toNat) x.q.pdu
 have hl2:=Rq.pdu_len x.q
 rw[hb] at hF
 subst hF
 rw[←h.now]
 exact action_sendO g s _ W h.at_ (by omega) (h.fr hlv) (by omega)
theorem msend_any {gm gl gj k:Nat} {P PL Q:Nat→Prop} {c:Cf} {sv:Value} {f:Fx} {y:Ms} {s:Lk} {w:World} (h:MsS gm gl gj k P PL Q c sv f y s w) (hb:y.b=true) (hp:y.x.ph=1) (i:Nat) (x0 x1:Int) (hx:c.sets[i]?=some (x0,x1)) (hst:y.set=(i:Int)) (hxb:y.x.b=x0) (F:List UInt8) (hF:y.x.bytes=F) (he:y.n.sendE F.length y.x.now=0) (hm:y.n.pend.length≤90000000) (hm2:y.n.sent.length≤1000000000) (hk:k≤1000000000):
  Calls Tryz.prog 27 #[.pointer (some ⟨gm,0,none⟩)] w (MYes gm gl P c sv f ⟨y.n.send f.l f.ats f.lp x0 x1 F y.x.now,true,y.x.sent (y.x.now+frameT x0 F.length),i,y.x.now+frameT x0 F.length⟩ (k+1) w):=by
 have hG:=CfG.of h.chk
 have hset:Hid (Okset x0 x1):=hG.set (x0,x1) (List.mem_of_getElem? hx)
 have hkind:(y.x.kind !=1)=false:=by unfold Tx.kind;rw[if_neg (by omega),if_pos hp];rfl
 have c17:=h.c17 hb
 have HAC:=hid (maction_any h hb)
 have HKA:=hid (fun X (hX:Below w.heap.size w X)=>pk_actO ((h.pk hb).keeps (Q:=fun _=>False) (Keeps.of_below hX) (fun _ _ e=>e)) hp F hF)
 obtain⟨KD,hKD⟩:∃K,y.x.kind=K:=⟨_,rfl⟩
 rw[hKD] at HAC hkind
 obtain⟨b,o,cc,rfl,w0,w1',hcl⟩:=(h.rgs w (Keeps.refl _ _)).at hx
 obtain⟨n,hn⟩:∃n,c.sets.length=n:=⟨_,rfl⟩
 obtain⟨T,hT⟩:∃T,y.x.now=T:=⟨_,rfl⟩
 obtain⟨L,hL⟩:∃L,F.length=L:=⟨_,rfl⟩
 have hlen:1≤L∧L≤256:=by
  rw[hL] at he
  unfold Ln.sendE at he
  split at he
  ·cases he
  ·omega
 obtain⟨fb0,fb1⟩:=frame_bd hset.out hlen.2
 obtain⟨E,hE⟩:∃E,T+frameT x0 L=E:=⟨_,rfl⟩
 have hil:i<n:=by rw[←hn];exact(List.getElem?_eq_some_iff.1 hx).1
 have HRG:Hid (∀X,Keeps P w X→X.cell? ⟨b,o+i*2,none⟩=some (.int .i64 x0)∧X.cell? ⟨b,o+i*2+1,none⟩=some (.int .i64 x1)):=fun X hX=>by
  obtain⟨b',o',c',hv,-,-,hcl'⟩:=(h.rgs X hX).at hx
  simp only[Value.slice.injEq,Option.some.injEq,Addr.mk.injEq,and_true,true_and] at hv
  obtain⟨⟨rfl,rfl⟩,rfl⟩:=hv
  exact hcl' X (Below.refl _ _)
 have HLS:Hid (∀X (fa:Option Addr) (fc:Nat),Below w.heap.size w X→(∀Y,Keeps PL X Y→Bs Y (.slice fa L fc) F)→Calls Tryz.prog 74 #[.pointer (some ⟨gl,0,none⟩),.agg #[.int .i64 x0,.int .i64 x1],.slice fa L fc,.int .i64 T] X (SdPost PL X gl (.slice f.la f.ln f.lc) (.slice f.aa f.an f.ac) f.lp (y.n.send f.l f.ats f.lp x0 x1 F T) E)):=fun X fa fc hX hY=>by
  have hk1:Keeps PL w X:=Keeps.of_below hX
  have hl1:=h.ln.keep (F:=fun _=>False) (Keeps.of_below hX) (fun _ _ e=>e)
  have hg1:LnG PL X f.la f.ln f.lc f.aa f.an f.ac f.l f.ats f.lp:=h.G.next (Keeps.of_below hX) (fun j _ e=>h.pl j e)
  have h9:=send_go hl1 h.nok hg1 x0 x1 hset w0 w1' fa L fc F hY T (by rw[←hL,←hT];exact he) hm hm2
  rw[hE] at h9
  exact h9
 have HNOK:Hid ((y.n.send f.l f.ats f.lp x0 x1 F T).ok):=by
  have hT0:0≤T∧T≤topT:=by
   rw[hT] at he
   unfold Ln.sendE at he
   split at he
   ·cases he
   ·split at he
    ·cases he
    ·omega
  exact h.nok.send h.G.bus h.G.ok f.lp hset.out (by omega) hT0.1 hT0.2
 have HEB:Hid (T≤E∧E≤T+4000000):=by show _∧_;omega
 have hi0:(0:Int)≤(i:Int):=Int.natCast_nonneg _
 have hil':(i:Int)<(n:Int):=by omega
 rw[hT] at HKA
 rw[hL] at HKA
 have H:=hid h
 have HEQ:=hid (And.intro hn (And.intro hT (And.intro hL (And.intro hst (And.intro hb (And.intro hp (And.intro hxb hE)))))))
 rw[hn] at h H
 rw[hT,hL,hE]
 clear hG hx hcl hKD hn hT hL he hm hm2 hlen fb0 fb1 hE hil hb hp hst hxb hF w0 w1'
 have y16:∀X,Keeps PL w X→X.cell? ⟨gm,16,none⟩=some (.pointer (some ⟨gl,0,none⟩)):=fun X hX=>(cP (kU H.out.at_ hX H.out.gm1) 16).trans rfl
 clear h
 go_enter Tryz.func27,Tryz.ntmps27
 go_upto_region 6 with(first
  |(go_at_call 60;(with_reducible refine HAC.out.mono ?_);rintro r w1 ⟨rfl,hb1⟩;have c17':=cell_keep hb1 c17)
  |(go_at_call 61;(with_reducible refine(HKA.out _ hb1).mono ?_);rintro r w2 ⟨fa,fc,rfl,hown,hb2⟩)
  |(refine wpList_storeW rfl 136 (.tmp 3) (.tmp 22) rfl w2.heap.size 0 _ 136 #[.int .i64 1,.int .i64 T,.slice fa L fc] rfl rfl (hpNew w2 _) (by simp) infoAc3 rfl ?_;intro w4 g4 hk4 hz4))
 obtain⟨p4,hb4⟩:=var_new (by rfl) g4 hk4
 have HB4:Hid (Below w.heap.size w w4):=bU (bU hb1 hb2) (hb4.mono (Nat.le_refl _))
 have z1:=hb1.size
 have z2:=hb2.size
 have HZ:Hid (w.heap.size≤w1.heap.size∧w1.heap.size≤w2.heap.size):=⟨z1,z2⟩
 have hkW:∀X,Keeps PL w4 X→Keeps PL w X:=fun X hX=>(Keeps.of_below HB4.out).trans hX (fun _ _ e=>e)
 have hpq:∀j,PL j→j<w.heap.size:=H.out.ln.lts
 have hap:¬PL w2.heap.size:=fun e=>by have:=hpq _ e;omega
 have HBY:Hid (∀Y,Keeps PL w4 Y→Bs Y (.slice fa L fc) F):=fun Y hY=>by
  have hL:=HEQ.out.2.2.1
  have o2:=oQ (oQ hown (Keeps.of_below (F:=fun _=>False) hb4) (fun _ _ e=>e)) hY (fun j hj e=>by
   have h1:=(hown.lt j hj).1
   have:=hpq _ e
   omega)
  rw[←hL] at o2 ⊢
  exact Bs.own o2
 have u16:∀X,Keeps PL w4 X→X.cell? ⟨gm,16,none⟩=some (.pointer (some ⟨gl,0,none⟩)):=fun X hX=>y16 X (hkW X hX)
 have u0:∀X,Keeps PL w4 X→X.cell? ⟨gm,0,none⟩=some (.slice (some ⟨b,o,none⟩) n cc):=fun X hX=>(cP (kU H.out.at_ (hkW X hX) H.out.gm1) 0).trans rfl
 have u18:∀X,Keeps PL w4 X→X.cell? ⟨gm,18,none⟩=some (.int .i64 (i:Int)):=fun X hX=>(cP (kU H.out.at_ (hkW X hX) H.out.gm1) 18).trans (by rw[←HEQ.out.2.2.2.1];rfl)
 have v1:∀X,Keeps PL w4 X→X.cell? ⟨w2.heap.size,1,none⟩=some (.int .i64 T):=fun X hX=>cP (kU p4 hX hap) 1
 have v2:∀X,Keeps PL w4 X→X.cell? ⟨w2.heap.size,2,none⟩=some (.slice fa L fc):=fun X hX=>cP (kU p4 hX hap) 2
 have HRW:Hid (∀X,Keeps PL w4 X→∀j u,(#[.int .i64 x0,.int .i64 x1]:Array Value).toList[j]?=some u→X.cell? ((⟨b,o+i*2,none⟩:Addr).add j)=some u):=fun X hX j u hj=>by
  obtain⟨e0,e1⟩:=HRG.out X ((hkW X hX).mono (fun j _ e=>H.out.pl j e))
  rw[Addr.add_lit]
  rcases j with _|_|j
  ·cases hj;exact e0
  ·cases hj;exact e1
  ·cases hj
 have kD:Below w4.heap.size w4 w4.drew:=(Below.refl _ _).drew
 have kS:Keeps PL w4 w4.drew:=Keeps.of_below kD
 have HP4:=hid p4
 have hinf:(Tryz.prog.info? 61).map (·.size)=some 2:=infoSt2
 clear c17 c17' g4 hk4 hz4 hb1 hb2 hb4 hown z1 z2 p4 y16 hap HAC HKA hkind
 dsimp only[Act.put]
 refine wp_region_held_drew (S:=fun V=>Keeps PL w4 V) (by kernel_rfl) kS (fun hH=>?_)
 clear hH
 refine tkE 0 24 rfl rfl ?_;simp only[setS]
 refine tkE 1 25 rfl rfl ?_;simp only[setS]
 refine tkE 2 26 rfl rfl ?_;simp only[setS]
 refine tkE 3 27 rfl rfl ?_;simp only[setS]
 refine tkE 4 28 rfl rfl ?_;simp only[setS]
 refine tkE 5 29 rfl rfl ?_;simp only[setS]
 refine tkE 6 30 rfl rfl ?_;simp only[setS]
 refine tkE 7 31 rfl rfl ?_;simp only[setS]
 refine tkE 8 32 rfl rfl ?_;simp only[setS]
 refine tkE 9 33 rfl rfl ?_;simp only[setS]
 refine tkE 10 34 rfl rfl ?_;simp only[setS]
 refine tkE 11 35 rfl rfl ?_;simp only[setS]
 refine tkE 12 36 rfl rfl ?_;simp only[setS]
 refine tkE 13 37 rfl rfl ?_;simp only[setS]
 refine tkD 14 38 (v:=.agg #[.int .i64 x0,.int .i64 x1]) rfl (by kernel_rfl) (fun _ _ _ h=>h) rfl (by rfl) (by assumption) (fun X hX=>run_load_rowT 61 (.tmp 37) rfl ⟨b,o+i*2,none⟩ rfl #[.int .i64 x0,.int .i64 x1] _ (HRW.out X hX) Tryz.underlying61 rfl hinf) ?_;simp only[setS]
 refine tkE 15 39 rfl rfl ?_;simp only[setS]
 refine tkE 16 40 rfl rfl ?_;simp only[setS]
 refine tkE 17 41 rfl rfl ?_;simp only[setS]
 refine tkE 18 42 rfl rfl ?_;simp only[setS]
 refine rdyH 19 rfl (fun K hK=>?_);go_simp
 refine(HLS.out _ fa fc (bU HB4.out kD) (fun Y hY=>HBY.out Y (kS.trans hY (fun _ _ e=>e)))).mono ?_
 rintro r w5 ⟨rfl,hl5,hk5⟩
 have kS5:Keeps PL w4 w5:=kS.trans hk5 (fun _ _ e=>e)
 refine hK.out _ _ kS5 (fun hSx=>?_);clear hK K hSx
 refine tkE 20 23 rfl rfl ?_;simp only[setS]
 refine tkE 21 44 rfl rfl ?_;simp only[setS]
 refine tkE 22 45 rfl rfl ?_;simp only[setS]
 refine tkE 23 4 rfl rfl ?_;simp only[setS]
 refine tkE 24 5 rfl rfl ?_;simp only[setS]
 refine wpAnyH_done (by kernel_rfl) ?_ _
 have h4:=H.out.keepB (bU HB4.out kD)
 have HM5:=hid (h4.line hl5 hk5 HNOK.out).1
 have HK5:=hid (h4.line hl5 hk5 HNOK.out).2
 have x19:w5.cell? ⟨gm,19,none⟩=some (.int .i64 y.now):=(cP HM5.out.at_ 19).trans rfl
 have f19:=hpFree HM5.out.at_ 19
 obtain⟨now0,hnow0⟩:∃N,y.now=N:=⟨_,rfl⟩
 rw[hnow0] at x19
 have HKD:=hid kD
 clear u16 u0 u18 v1 v2 hl5 hk5 kS kS5 kD h4 hnow0 hinf hkW
 go_upto_region 10 with(fail)
 obtain⟨W6,hW6⟩:∃W,w5.setCell ⟨gm,19,none⟩ (.int .i64 E)=W:=⟨_,rfl⟩
 rw[hW6]
 obtain⟨e1,e2,e3,e4,e5,e6,e7,e8⟩:=HEQ.out
 have hks:Keeps (· =gm) w5 W6:=by rw[←hW6];exact ks1 (Keeps.refl (· =gm) w5) 19 _
 have hset6:W6.heap[gm]?=some (.cells (MC c (.slice (some ⟨b,o,none⟩) n cc) gl (lkV true gj) y.set E) 129):=by
  have h:=HM5.out.at_
  have e5':({y with n:=y.n.send f.l f.ats f.lp x0 x1 F T}:Ms).b=true:=e5
  rw[e5'] at h
  rw[←hW6]
  exact hpSetE h rfl
 have HM6:=hid (HM5.out.own (b':=true) (gj':=gj) (k':=k) (Q':=Q) (x':=y.x) (s':=s) (st':=y.set) (now':=E) hks hset6 (fun _=>HM5.out.pk e5) (fun j hj=>⟨HM5.out.qlt j hj,fun e=>HM5.out.dis j e hj,fun e=>HM5.out.gm2 (e▸hj),HM5.out.pq j hj⟩))
 have HSN:=hid (pk_sent (HM6.out.1.pk rfl) e6 hk E (by have:=HEB.out;show y.x.now≤E;omega) (by have:=HEB.out;show E≤y.x.now+4000000;omega))
 have x17:W6.cell? ⟨gm,17,none⟩=some (.pointer (some ⟨gj,0,none⟩)):=HM6.out.1.c17 rfl
 clear x19 f19 hks hset6 hW6 e1 e2 e3 e4 e5 e6 e7 e8
 go_wp2_with (go_at_call 75;(with_reducible refine HSN.out.mono ?_);rintro r w7 ⟨s',rfl,hpk,hkq⟩;have HPK:=hid hpk;have HKQ:=hid hkq;clear hpk hkq)
 go_ret
 obtain⟨e1,e2,e3,e4,e5,e6,e7,e8⟩:=HEQ.out
 obtain⟨q1,q2⟩:=HM6.out.1.link HPK.out HKQ.out
 have z4:=HB4.out.size
 have z5:w4.heap.size≤w5.heap.size:=HK5.out.size
 have z6:=HM6.out.2.size
 have z7:=HKQ.out.size
 have hkk:Keeps P w w7:=((((Keeps.of_below HB4.out).trans (Keeps.of_below HKD.out) (fun _ _ e=>e)).trans HK5.out (fun _ _ e=>e)).trans HM6.out.2 (fun j hj e=>by
  rcases e with e|e
  ·exact e
  ·have h1:w4.heap.size≤j:=e.1
   omega)).trans q2 (fun j hj e=>by
  rcases e with e|e
  ·exact e
  ·have h1:w4.heap.size≤j:=e.1
   omega)
 refine⟨gj,k+1,GrowP PL w4.drew w5,Grow Q W6 w7,s',rfl,?_,hkk,Nat.le_refl _⟩
 rw[←e4,e1]
 refine H.out.base q1 hkk (fun j hj=>?_)
 rcases hj with(e|e)|e
 ·exact .inl e
 ·have h1:w4.heap.size≤j:=e.1
  exact .inr ⟨by omega,by have:=e.2;omega⟩
 ·exact .inr ⟨by have:=e.1;omega,e.2⟩
def smpS (bd:Int):Sl:=⟨bd,0,7,fun k=>if k=2 then ⟨true,[(10,10)],5⟩ else ⟨false,[],0⟩,0,[],true,[9,255]⟩
def SmpC (bd:Int) (p q:Nat):Array Value:=#[.int .i64 bd,.int .i64 0,.int .i64 7,.bool false,.slice none 0 0,.int .i64 0,.bool false,.slice none 0 0,.int .i64 0,.bool true,.slice (some ⟨q,0,none⟩) 1 1,.int .i64 5,.bool false,.slice none 0 0,.int .i64 0,.int .i64 0,.slice none 0 0,.bool true,.slice (some ⟨p,0,none⟩) 2 2]
theorem infoTbW:(Tryz.prog.info? 65).map (·.size)=some 3:=by kernel_rfl
structure SmpR (w W:World) (p q:Nat):Prop where
 P:W.heap[p]?=some (.cells #[.int .u8 9,.int .u8 255] 5)
 Q:W.heap[q]?=some (.cells #[.int .i64 10,.int .i64 10] 24)
 b:Below w.heap.size w W
 lp:w.heap.size≤p
 lq:w.heap.size≤q
theorem SmpR.slr {w W X:World} {p q:Nat} (h:SmpR w W p q) (hX:Agree w.heap.size W X) (bd:Int) (hbd:wfI bd):SlR X (smpS bd) (fun k=>if k=2 then .slice (some ⟨q,0,none⟩) 1 1 else .slice none 0 0) (.slice none 0 0) (.slice (some ⟨p,0,none⟩) 2 2):=by
 have hp:X.heap[p]?=some (.cells #[.int .u8 9,.int .u8 255] 5):=by rw[hX.block p h.lp (hpLt h.P)];exact h.P
 have hq:X.heap[q]?=some (.cells #[.int .i64 10,.int .i64 10] 24):=by rw[hX.block q h.lq (hpLt h.Q)];exact h.Q
 have w0:wfI 0:=by unfold wfI;omega
 have w5:wfI 5:=by unfold wfI;omega
 have w7:wfI 7:=by unfold wfI;omega
 have w10:wfI 10:=by unfold wfI;omega
 refine⟨fun k hk=>?_,Obs.nil X,?_,fun k hk=>?_,w7,w0,hbd,w0⟩
 ·by_cases e:k=2
  ·subst e
   refine⟨some ⟨q,0,none⟩,1,rfl,Nat.le_refl 1,(by unfold maxLen;decide),(fun e=>by cases e),fun _=>⟨q,0,rfl,fun i x hx=>?_⟩⟩
   have hi:i=0:=by
    have h1:=(List.getElem?_eq_some_iff.1 hx).1
    have h2:i<1:=h1
    omega
   subst hi
   have hx':x=(10,10):=by
    have h3:some ((10,10):Int×Int)=some x:=hx
    injection h3 with h3
    exact h3.symm
   subst hx'
   refine⟨[.int .i64 10,.int .i64 10],rfl,⟨rfl,w10,w10⟩,fun j u hj=>?_⟩
   rw[cP hq]
   rcases j with _|_|j
   ·exact hj
   ·exact hj
   ·cases hj
  ·have e1:((smpS bd).ts k).rd=[]:=by unfold smpS;dsimp only;rw[if_neg e]
   rw[e1]
   rw[if_neg e]
   exact Sls.nil X
 ·refine Bs.mk (b:=p) (o:=0) (c:=2) (l:=[9,255]) (Nat.le_refl 2) (by unfold maxLen;decide) (fun i hi=>?_)
  rw[cP hp]
  have h2:i<2:=hi
  rcases (show i=0∨i=1 by omega) with rfl|rfl<;>rfl
 ·show wfI (if k=2 then (⟨true,[(10,10)],5⟩:Tbl) else ⟨false,[],0⟩).most
  split
  ·exact w5
  ·exact w0
def SmpPost (w:World) (r:Ending) (w':World):Prop:=∃p q,r=.returned (.agg (SmpC 9600 p q))∧SmpR w w' p q
theorem smp_any (w:World):Calls Tryz.prog 50 #[] w (SmpPost w):=by
 obtain⟨W1,hW1⟩:∃W,w.alloc (.cells #[.int .i64 0,.int .i64 0,.int .i64 0,.bool false,.slice none 0 0,.int .i64 0,.bool false,.slice none 0 0,.int .i64 0,.bool false,.slice none 0 0,.int .i64 0,.bool false,.slice none 0 0,.int .i64 0,.int .i64 0,.slice none 0 0,.bool false,.slice none 0 0] 68)=W:=⟨_,rfl⟩
 have hb1:Below w.heap.size w W1:=by rw[←hW1];exact bal' w _
 have hz1:W1.heap.size=w.heap.size+1:=by rw[←hW1];simp
 have pZ:W1.heap[w.heap.size]?=some (.cells #[.int .i64 0,.int .i64 0,.int .i64 0,.bool false,.slice none 0 0,.int .i64 0,.bool false,.slice none 0 0,.int .i64 0,.bool false,.slice none 0 0,.int .i64 0,.bool false,.slice none 0 0,.int .i64 0,.int .i64 0,.slice none 0 0,.bool false,.slice none 0 0] 68):=by rw[←hW1];exact hpNew w _
 have HW1:=hid hW1
 have HB1:=hid hb1
 have HZ1:=hid hz1
 have HPZ:=hid pZ
 clear hW1 hb1 hz1 pZ
 go_enter Tryz.func50,Tryz.ntmps50
 go_upto_region 1 with(fail)
 rw[HW1.out]
 go_upto_region 2 with(refine wpList_storeW rfl 68 (.tmp 1) (.tmp 4) rfl (W1.heap.size+1) 0 _ 68 #[.int .i64 9600,.int .i64 0,.int .i64 7,.bool false,.slice none 0 0,.int .i64 0,.bool false,.slice none 0 0,.int .i64 0,.bool false,.slice none 0 0,.int .i64 0,.bool false,.slice none 0 0,.int .i64 0,.int .i64 0,.slice none 0 0,.bool true,.slice (some ⟨W1.heap.size,0,none⟩) 2 2] rfl rfl (by have h:=hpNew (W1.alloc (.cells #[.int .u8 9,.int .u8 255] 5)) (.cells #[.int .i64 0,.int .i64 0,.int .i64 0,.bool false,.slice none 0 0,.int .i64 0,.bool false,.slice none 0 0,.int .i64 0,.bool false,.slice none 0 0,.int .i64 0,.bool false,.slice none 0 0,.int .i64 0,.int .i64 0,.slice none 0 0,.bool false,.slice none 0 0] 68);simpa using h) (by simp) infoSL rfl ?_;intro w2 g2 hk2 hz2)
 dsimp only[Act.put]
 obtain⟨p,hp⟩:∃n,W1.heap.size=n:=⟨_,rfl⟩
 rw[hp] at g2 hk2 ⊢
 obtain⟨sb,hsb⟩:∃n,p+1=n:=⟨_,rfl⟩
 rw[hsb] at g2 hk2 ⊢
 have gS2:w2.heap[sb]?=some (.cells #[.int .i64 9600,.int .i64 0,.int .i64 7,.bool false,.slice none 0 0,.int .i64 0,.bool false,.slice none 0 0,.int .i64 0,.bool false,.slice none 0 0,.int .i64 0,.bool false,.slice none 0 0,.int .i64 0,.int .i64 0,.slice none 0 0,.bool true,.slice (some ⟨p,0,none⟩) 2 2] 68):=g2
 have hab:Below W1.heap.size W1 ((W1.alloc (.cells #[.int .u8 9,.int .u8 255] 5)).alloc (.cells #[.int .i64 0,.int .i64 0,.int .i64 0,.bool false,.slice none 0 0,.int .i64 0,.bool false,.slice none 0 0,.int .i64 0,.bool false,.slice none 0 0,.int .i64 0,.bool false,.slice none 0 0,.int .i64 0,.int .i64 0,.slice none 0 0,.bool false,.slice none 0 0] 68)):=bta (bal' W1 _) (Nat.le_refl _) _
 have gP2:w2.heap[p]?=some (.cells #[.int .u8 9,.int .u8 255] 5):=kU (by rw[←hp];exact kP (hpNew W1 _) (bal' _ _)) hk2 (fun e=>by have e':p=sb:=e;omega)
 have gR2:w2.heap[w.heap.size]?=some (.cells #[.int .i64 0,.int .i64 0,.int .i64 0,.bool false,.slice none 0 0,.int .i64 0,.bool false,.slice none 0 0,.int .i64 0,.bool false,.slice none 0 0,.int .i64 0,.bool false,.slice none 0 0,.int .i64 0,.int .i64 0,.slice none 0 0,.bool false,.slice none 0 0] 68):=kU (kP HPZ.out hab) hk2 (fun e=>by have e':w.heap.size=sb:=e;have:=HZ1.out;omega)
 have hb2:Below w.heap.size w w2:=(bU HB1.out hab).trans (hk2.below (by have:=hab.size;have:=HZ1.out;omega) (fun j hj e=>by have:=HZ1.out;omega))
 have HB2:=hid hb2
 have HPP:Hid (w.heap.size<p∧p<sb):=by have:=HZ1.out;show _∧_;omega
 have HP2:=hid gP2
 have HR2:=hid gR2
 have HS2:=hid gS2
 have hgS:(w2.alloc (.cells #[.int .i64 10,.int .i64 10] 24)).heap[sb]?=some (.cells #[.int .i64 9600,.int .i64 0,.int .i64 7,.bool false,.slice none 0 0,.int .i64 0,.bool false,.slice none 0 0,.int .i64 0,.bool false,.slice none 0 0,.int .i64 0,.bool false,.slice none 0 0,.int .i64 0,.int .i64 0,.slice none 0 0,.bool true,.slice (some ⟨p,0,none⟩) 2 2] 68):=kP gS2 (bal' _ _)
 clear g2 hk2 hz2 hp hsb gS2 hab gP2 gR2 hb2
 go_upto_region 3 with(refine wpList_storeW rfl 65 (.tmp 9) (.tmp 7) rfl sb 9 _ 68 #[.bool true,.slice (some ⟨w2.heap.size,0,none⟩) 1 1,.int .i64 5] rfl rfl hgS (by simp) infoTbW rfl ?_;intro w3 g3 hk3 hz3)
 dsimp only[Act.put]
 obtain⟨q,hq⟩:∃n,w2.heap.size=n:=⟨_,rfl⟩
 rw[hq] at g3 ⊢
 have gS3:w3.heap[sb]?=some (.cells (SmpC 9600 p q) 68):=g3
 have hql:w.heap.size≤q∧sb<q:=by have:=HB2.out.size;have:=hpLt HS2.out;omega
 have gP3:w3.heap[p]?=some (.cells #[.int .u8 9,.int .u8 255] 5):=kU (kP HP2.out (bal' _ _)) hk3 (fun e=>by have e':p=sb:=e;have:=HPP.out;omega)
 have gQ3:w3.heap[q]?=some (.cells #[.int .i64 10,.int .i64 10] 24):=kU (by rw[←hq];exact hpNew w2 _) hk3 (fun e=>by have e':q=sb:=e;omega)
 have gR3:w3.heap[w.heap.size]?=some (.cells #[.int .i64 0,.int .i64 0,.int .i64 0,.bool false,.slice none 0 0,.int .i64 0,.bool false,.slice none 0 0,.int .i64 0,.bool false,.slice none 0 0,.int .i64 0,.bool false,.slice none 0 0,.int .i64 0,.int .i64 0,.slice none 0 0,.bool false,.slice none 0 0] 68):=kU (kP HR2.out (bal' _ _)) hk3 (fun e=>by have e':w.heap.size=sb:=e;have:=HPP.out;omega)
 have hb3:Below w.heap.size w w3:=(bta HB2.out (Nat.le_refl _) _).trans (hk3.below (by simp;have:=HB2.out.size;omega) (fun j hj e=>by have:=HPP.out;omega))
 obtain⟨C,hC⟩:∃C,SmpC 9600 p q=C:=⟨_,rfl⟩
 rw[hC] at gS3
 have hcs:C.size=19:=by rw[←hC];rfl
 have hi:(Tryz.prog.info? 68).map (·.size)=some C.size:=by rw[←hC];exact infoSL
 have h1c:C.toList.all (·.oneCell')=true:=by rw[←hC];rfl
 have HB3:=hid hb3
 have HP3:=hid gP3
 have HQ3:=hid gQ3
 have HCC:=hid hC
 have HQL:=hid hql
 clear g3 hk3 hz3 hq hgS hC hb3 gP3 gQ3 hql
 go_wp2_with (first
  |(refine wpList_load_row rfl 68 (.tmp 1) rfl sb rfl 68 C (0,0) _ gS3 Tryz.underlying68 rfl hi ?_)
  |(refine wpList_storeW rfl 68 (.tmp 0) (.tmp 10) rfl w.heap.size 0 _ 68 C rfl rfl gR3 (by simp [hcs]) hi h1c ?_;intro w8 g8 hk8 hz8))
 have g9:w8.heap[w.heap.size]?=some (.cells C 68):=by
  rw[g8,List.drop_eq_nil_of_le (by simp [hcs])]
  simp
 refine bodyPost_ret (results_cell_row rfl _ _ w.heap.size 68 C (0,0) _ rfl g9 Tryz.underlying68 rfl hi) rfl ?_
 obtain⟨l1,l2⟩:=HPP.out
 obtain⟨l3,l4⟩:=HQL.out
 refine⟨p,q,by rw[HCC.out],⟨kU HP3.out hk8 (fun e=>by have e':p=w.heap.size:=e;omega),kU HQ3.out hk8 (fun e=>by have e':q=w.heap.size:=e;omega),HB3.out.trans (hk8.below HB3.out.size (fun j hj e=>by omega)),by omega,l3⟩⟩
theorem LnMade.at {w w':World} {l:List Sl} {lp:Bool} {ats:List At} {r:Ending} (h:LnMade w l lp ats r w') (hB:BusP l) (ho:∀x∈ats,x.ok) (hl:lp=true→0<ats.length):
  ∃g a c a2 c2,r=.returned (.tuple #[.pointer (some ⟨g,0,none⟩),.int .i64 0])∧LnAt (fun j=>j=g) w' g (.slice a l.length c) (.slice a2 ats.length c2) lp Ln.zero∧LnG (fun j=>j=g) w' a l.length c a2 ats.length c2 l ats lp∧w.heap.size≤g∧Below w.heap.size w w':=by
 obtain⟨g,a,c,a2,c2,h1,h2,h3,h4,h5⟩:=h
 refine⟨g,a,c,a2,c2,h1,⟨.slice none 0 0,.slice none 0 0,[],h3,rfl,fun j hj=>?_,World.ownsRow_nil _ _ _ _,fun j hj=>(by cases hj),PnR.nil _ _,rfl⟩,⟨h4,rfl,rfl,hB,ho,hl⟩,h2,h5⟩
 subst hj
 exact hpLt h3
theorem slvs_one {X:World} {b:Nat} {s:Sl} {rv:Nat→Value} {ov sv:Value} (hR:SlR X s rv ov sv) (h:X.heap[b]?=some (.cells (SlC s rv ov sv) 68)):Slvs X (.slice (some ⟨b,0,none⟩) 1 1) [s]:=by
 refine⟨some ⟨b,0,none⟩,1,rfl,Nat.le_refl 1,(by unfold maxLen;decide),(fun e=>by cases e),fun _=>⟨b,0,rfl,fun i x hx=>?_⟩⟩
 have hi:i=0:=by
  have h1:=(List.getElem?_eq_some_iff.1 hx).1
  have h2:i<1:=h1
  omega
 subst hi
 have hx':x=s:=by
  have h3:some s=some x:=hx
  injection h3 with h3
  exact h3.symm
 subst hx'
 refine⟨(SlC x rv ov sv).toList,rfl,⟨rv,ov,sv,rfl,hR⟩,fun j u hj=>?_⟩
 rw[cP h]
 simpa using hj
def smpE:Sl:={smpS 9600 with pa:=1}
def cfE:Cf:=⟨[(9600,1)],1,2,1,1000,0,fun k=>if k=2 then (100,8) else (0,0),1,10000⟩
def q20:Rq:=⟨3,12,2,0,0⟩
def tx20:Tx:=(Tx.new 9600 1 1 1000 0).begun 7 q20 0
def fr20:List UInt8:=tx20.bytes
def ln20:Ln:=Ln.zero.send [smpE] [] false 9600 1 fr20 0
def en20:Int:=0+frameT 9600 8
def du20:Du:=(Du.mk ln20 (tx20.sent en20)).heard
theorem du20_eq:(Du.mk ln20 (tx20.sent en20)).heard=du20:=rfl
theorem fr20_len:fr20.length=8:=by kernel_rfl
theorem du20_ph:du20.x.ph=5:=by kernel_rfl
theorem du20_out:du20.x.out.verdict=1∧du20.x.out.reply.data.length=4:=by
 constructor
 ·kernel_rfl
 ·kernel_rfl
theorem du20_now:decide (0<du20.x.now)=true:=by kernel_rfl
theorem du20_sent:du20.n.sent.length=1:=by kernel_rfl
theorem du20_mu:decide ((Du.mk ln20 (tx20.sent en20)).mu≤1000)=true:=by kernel_rfl
theorem chk20:chkE cfE=0:=by kernel_rfl
end Go.Proofs.YtoaoejaodhedaaaGreat
