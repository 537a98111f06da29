import Derived.Test.YtoaoejaodhedaaaGreatQ12
import Derived.Test.YtoaoejaodhedaaaGreatQ13
namespace Go.Proofs.YtoaoejaodhedaaaGreat
open Go.RowKit
set_option maxHeartbeats 12800000
set_option maxRecDepth 100000
def readB (q:Rq) (b:List UInt8):Option Rp:=
 if q.ok=true then (match Rp.dec b with|some r=>if r.fn=q.fn∧matchB q r=true then some r else none|none=>none) else none
theorem readB_ok {q:Rq} {b:List UInt8} {r:Rp} (h:readB q b=some r):r.ok=true:=by
 unfold readB at h;split at h
 ·split at h
  ·split at h
   ·cases h
    rename_i h2;have:=h2.2;unfold matchB at this;simp only[Bool.and_eq_true] at this;exact this.1.1.2
   ·cases h
  ·cases h
 ·cases h
def RdOne (w:World) (o:Option Rp) (r:Ending) (w':World):Prop:=
 ∃(x:Rp) (da:Option Addr) (dc:Nat) (oa:Option Addr) (oc:Nat) (e:Int),r=.returned (.tuple #[.agg #[.int .i64 x.fn,.int .i64 x.exc,.slice da x.data.length dc,.int .i64 x.code,.int .i64 x.level,.bool x.more,.int .i64 x.next,.slice oa x.objs.length oc],.int .i64 e])∧Below w.heap.size w w'∧(∀W,Agree w.heap.size w' W→RpIs W x da dc oa oc)∧
  ((e=0∧o=some x)∨(e≠0∧1≤e∧e≤17∧o=none∧x=Rp.zero∧da=none∧dc=0∧oa=none∧oc=0))
theorem RpIs.zero (w:World):RpIs w Rp.zero none 0 none 0:=⟨Bs.nil _,Obs.nil _,by decide,by decide⟩
theorem DecPost.one {w:World} {o:Option Rp} {r:Ending} {w':World} (h:DecPost w o r w'):RdOne w o r w':=by
 rcases h with⟨x,da,dc,oa,oc,h1,h2,h3,h4⟩|⟨e,h1,h2,h3,h4,h5⟩
 ·exact ⟨x,da,dc,oa,oc,0,h2,h4,h3,.inl ⟨rfl,h1⟩⟩
 ·exact ⟨Rp.zero,none,0,none,0,e,h4,h5,fun W _=>RpIs.zero W,.inr ⟨by omega,h1,h2,h3,rfl,rfl,rfl,rfl,rfl⟩⟩
theorem RdOne.err {w:World} {o:Option Rp} {w':World} (ho:o=none) (e:Int) (h1:1≤e) (h2:e≤17) (hb:Below w.heap.size w w'):
  RdOne w o (.returned (.tuple #[.agg #[.int .i64 0,.int .i64 0,.slice none 0 0,.int .i64 0,.int .i64 0,.bool false,.int .i64 0,.slice none 0 0],.int .i64 e])) w':=
 ⟨Rp.zero,none,0,none,0,e,rfl,hb,fun W _=>RpIs.zero W,.inr ⟨by omega,h1,h2,ho,rfl,rfl,rfl,rfl,rfl⟩⟩
theorem Agree.of_new {B:Nat} {w W:World} {X:Obj} (h:Keeps (· =w.heap.size) (w.alloc X) W):Agree B w W:=
 ⟨Nat.le_trans (bH w X).size h.size,fun k _ hl=>by rw[h.block k (Nat.lt_of_lt_of_le hl (bH w X).size) (by omega),(bH w X).block k hl]⟩
def judgeR:Option Rp→Oc
 |some r=>if r.exc=6 then ⟨5,Rp.zero⟩ else if r.exc=0 then ⟨1,r⟩ else ⟨2,r⟩
 |none=>⟨4,Rp.zero⟩
def judgeB (chk:List UInt8→Bool) (unit:Int) (q:Rq) (flags:Int) (l:List UInt8):Oc:=
 match splitB chk l with
 |some (u,p)=>if flags=0∧u=unit then judgeR (readB q p) else ⟨4,Rp.zero⟩
 |none=>⟨4,Rp.zero⟩
def OcOne (w:World) (o:Oc) (r:Ending) (w':World):Prop:=
 ∃(da:Option Addr) (dc:Nat) (oa:Option Addr) (oc:Nat),r=.returned (.agg #[.int .i64 o.verdict,.int .i64 o.reply.fn,.int .i64 o.reply.exc,.slice da o.reply.data.length dc,.int .i64 o.reply.code,.int .i64 o.reply.level,.bool o.reply.more,.int .i64 o.reply.next,.slice oa o.reply.objs.length oc])∧(∀W,Agree w.heap.size w' W→RpIs W o.reply da dc oa oc)∧Below w.heap.size w w'
theorem OcOne.bare {w w':World} {o:Oc} (v:Int) (ho:o=⟨v,Rp.zero⟩) (hb:Below w.heap.size w w'):
  OcOne w o (.returned (.agg #[.int .i64 v,.int .i64 0,.int .i64 0,.slice none 0 0,.int .i64 0,.int .i64 0,.bool false,.int .i64 0,.slice none 0 0])) w':=by
 subst ho;exact⟨none,0,none,0,rfl,fun W _=>RpIs.zero W,hb⟩
theorem own2 (w:World) (base:Nat) (x y:Int) (h1:0≤x) (h2:x≤255) (h3:0≤y) (h4:y≤255) (hb:base≤w.heap.size):
  (w.alloc (.cells #[.int .u8 x,.int .u8 y] 5)).ownsRow base 5 1 (.slice (some ⟨w.heap.size,0,none⟩) 2 2) [byteI x,byteI y].length (u8s [byteI x,byteI y]):=by
 refine⟨rfl,.inr ⟨w.heap.size,2,_,rfl,hb,heap_alloc_new _ _,Nat.le_refl _,by decide,rfl,?_⟩⟩;show [Value.int .u8 x,.int .u8 y]=[.int .u8 ((byteI x).toNat:Int),.int .u8 ((byteI y).toNat:Int)];rw[bP h1 h2,bP h3 h4]
theorem own7 (w:World) (base:Nat) (a b c d e:Int) (ha:0≤a∧a≤255) (hb':0≤b∧b≤255) (hc:0≤c∧c≤255) (hd:0≤d∧d≤255) (he:0≤e∧e≤255) (hb:base≤w.heap.size):
  (w.alloc (.cells #[.int .u8 43,.int .u8 14,.int .u8 a,.int .u8 b,.int .u8 c,.int .u8 d,.int .u8 e] 5)).ownsRow base 5 1 (.slice (some ⟨w.heap.size,0,none⟩) 7 7) 7 (u8s [43,14,byteI a,byteI b,byteI c,byteI d,byteI e]):=by
 refine⟨rfl,.inr ⟨w.heap.size,7,_,rfl,hb,heap_alloc_new _ _,Nat.le_refl _,by decide,rfl,?_⟩⟩;show [Value.int .u8 43,.int .u8 14,.int .u8 a,.int .u8 b,.int .u8 c,.int .u8 d,.int .u8 e]=[.int .u8 43,.int .u8 14,.int .u8 ((byteI a).toNat:Int),.int .u8 ((byteI b).toNat:Int),.int .u8 ((byteI c).toNat:Int),.int .u8 ((byteI d).toNat:Int),.int .u8 ((byteI e).toNat:Int)];rw[bP ha.1 ha.2,bP hb'.1 hb'.2,bP hc.1 hc.2,bP hd.1 hd.2,bP he.1 he.2]
theorem ne_box {W:World} {v v5:Value} {b:Nat} (hn:NewOr W v v5) (h1:∀k,v.ownBlock=some k→k<b) (h2:b<W.heap.size):∀j,v5.ownBlock=some j→j≠b:=by
 intro j hj;rcases hn with h|⟨j2,h,hj2⟩
 ·rw [hj] at h
  have:=h1 _ h.symm;omega
 ·rw [hj] at h
  cases h;omega
theorem enc_exc (fn exc:Int) (code level:Int) (more:Bool) (next:Int) (data:List UInt8) (objs:List Ob) (da oa:Option Addr) (dc oc:Nat) (w:World) (hd:Bs w (.slice da data.length dc) data) (ho:Obs w (.slice oa objs.length oc) objs) (hl:level≤9223372036854775807) (hl2: -9223372036854775808≤level) (hk:Rp.ok ⟨fn,exc,data,code,level,more,next,objs⟩=true)
  (hf:1≤fn∧fn≤43) (hx:1≤exc∧exc≤255):
  Calls Tryz.prog 205 #[.agg #[.int .i64 fn,.int .i64 exc,.slice da data.length dc,.int .i64 code,.int .i64 level,.bool more,.int .i64 next,.slice oa objs.length oc]] w (EncPost w [byteI (fn+128),byteI exc]):=by
 have HV:Hid (∀X,Calls Tryz.prog 197 #[.agg #[.int .i64 fn,.int .i64 exc,.slice da data.length dc,.int .i64 code,.int .i64 level,.bool more,.int .i64 next,.slice oa objs.length oc]] (w.alloc X) fun r w'=>r=.returned (.bool true)∧Below (w.alloc X).heap.size (w.alloc X) w'):=fun X=>by rw[←hk];exact rvalid_any _ _ _ _ _ _ _ _ data objs _ (hd.keep (bH w X)) (ho.keep (bH w X)) hl hl2
 clear hd ho hk;obtain⟨f1,f2⟩:=hf;obtain⟨x1,x2⟩:=hx;have t1:(exc !=0)=true:=by rw[bne_iff_ne];omega
 have u1:IntKind.u8.wrap (fn+128)=fn+128:=by show (fn+128)%256=fn+128;omega
 have u2:IntKind.u8.wrap exc=exc:=by show exc%256=exc;omega
 go_enter Tryz.func205,Tryz.ntmps205;go_wp2_with fail;refine(HV.out _).mono ?_;rintro r w1 ⟨rfl,hb1⟩;have gB:w1.heap[w.heap.size]?=some (.cells #[.int .i64 fn,.int .i64 exc,.slice da data.length dc,.int .i64 code,.int .i64 level,.bool more,.int .i64 next,.slice oa objs.length oc] 53 (0,0)):=by rw[hb1.block _ (by simp)];exact heap_alloc_new _ _
 have p0:w1.cell? ⟨w.heap.size,0,none⟩=some (.int .i64 fn):=bW gB 0;have p1:w1.cell? ⟨w.heap.size,1,none⟩=some (.int .i64 exc):=bW gB 1;have hbw:=bU (bH w _) hb1;have HB:=bC (bs2 w1 w1.heap.size (fn+128) exc (by omega) (by omega) (by omega) x2 rfl);clear gB hb1;go_wp2;go_ret2;exact⟨_,_,rfl,HB.out,cJ hbw (Nat.le_refl _) _,fun ad h=>by cases h;exact hbw.size⟩
theorem enc_data (fn:Int) (code level:Int) (more:Bool) (next:Int) (data:List UInt8) (objs:List Ob) (da oa:Option Addr) (dc oc:Nat) (w:World) (hd:Bs w (.slice da data.length dc) data) (ho:Obs w (.slice oa objs.length oc) objs) (hl:level≤9223372036854775807) (hl2: -9223372036854775808≤level) (hk:Rp.ok ⟨fn,0,data,code,level,more,next,objs⟩=true)
  (hf:1≤fn∧fn≤42) (hx:data.length≤251):
  Calls Tryz.prog 205 #[.agg #[.int .i64 fn,.int .i64 0,.slice da data.length dc,.int .i64 code,.int .i64 level,.bool more,.int .i64 next,.slice oa objs.length oc]] w (EncPost w (byteI fn::byteI data.length::data)):=by
 obtain⟨i5,hi,hz0,hz1,hz2⟩:=info_parts infoB;have HV:Hid (∀X,Calls Tryz.prog 197 #[.agg #[.int .i64 fn,.int .i64 0,.slice da data.length dc,.int .i64 code,.int .i64 level,.bool more,.int .i64 next,.slice oa objs.length oc]] (w.alloc X) fun r w'=>r=.returned (.bool true)∧Below (w.alloc X).heap.size (w.alloc X) w'):=fun X=>by rw[←hk];exact rvalid_any _ _ _ _ _ _ _ _ data objs _ (hd.keep (bH w X)) (ho.keep (bH w X)) hl hl2
 have HD:=bC hd;clear hd ho hk;obtain⟨f1,f2⟩:=hf;have t1:(fn !=43)=true:=by rw[bne_iff_ne];omega
 have u1:IntKind.u8.wrap fn=fn:=by show fn%256=fn;omega
 have u2:IntKind.u8.wrap (data.length:Int)=data.length:=by show (data.length:Int)%256=data.length;omega
 go_enter Tryz.func205,Tryz.ntmps205;go_wp2_with fail;refine(HV.out _).mono ?_;rintro r w1 ⟨rfl,hb1⟩;have gB:w1.heap[w.heap.size]?=some (.cells #[.int .i64 fn,.int .i64 0,.slice da data.length dc,.int .i64 code,.int .i64 level,.bool more,.int .i64 next,.slice oa objs.length oc] 53 (0,0)):=by rw[hb1.block _ (by simp)];exact heap_alloc_new _ _
 have p0:w1.cell? ⟨w.heap.size,0,none⟩=some (.int .i64 fn):=bW gB 0;have p1:w1.cell? ⟨w.heap.size,1,none⟩=some (.int .i64 0):=bW gB 1;have p2:w1.cell? ⟨w.heap.size,2,none⟩=some (.slice da data.length dc):=bW gB 2;have p2':=bD (bH w1 (.cells #[.int .u8 fn,.int .u8 data.length] 5)) p2;have hbw:=bU (bH w _) hb1;have HO:=bC (own2 w1 w1.heap.size fn data.length (by omega) (by omega) (by omega) (by omega) (Nat.le_refl _));have HD1:=bC ((HD.out.keep hbw).keep (bH w1 (.cells #[.int .u8 fn,.int .u8 data.length] 5)));clear gB hb1;go_wp2_with (at_builtin;refine wpList_app rfl _ _ 50 rfl w1.heap.size 5 i5 Tryz.underlying50 hi hz0 hz1 hz2 (.slice (some ⟨w1.heap.size,0,none⟩) 2 2) [byteI fn,byteI data.length] rfl HO.out _ data rfl HD1.out ?c1 ?c2 ?c3)
 case c1=>simp;omega
 case c2=>simp
 case c3=>
  intro v2 w2 hown2 hgr2;have hb2:Below w1.heap.size w1 w2:=(bH w1 (.cells #[.int .u8 fn,.int .u8 data.length] 5)).grown hgr2 (bH w1 (.cells #[.int .u8 fn,.int .u8 data.length] 5)).size (by intro k hk;simp [Value.ownBlock] at hk;omega);obtain⟨a2,c2,rfl⟩:=bN hown2;have hll:=bC (show (byteI fn::byteI data.length::data).length=2+data.length by simp;omega);have HX:=bC (show Bs w2 (.slice a2 (2+data.length) c2) (byteI fn::byteI data.length::data) from Bs.own hown2);have HY:=bC (bU hbw hb2);have HLO:=bC hown2.lt;clear hown2 hgr2 hb2;go_wp2;go_ret2;exact⟨a2,c2,by rw[hll.out];rfl,by rw[hll.out];exact HX.out,HY.out,fun ad h=>Nat.le_trans hbw.size (HLO.out ad.block (by rw[h];rfl)).1⟩
theorem z13_1 {p:Prop} (h:p:=by
 have hlq:=bC (show (bs++([byteI x.id,byteI x.val.length]++x.val)).length=(bs++[byteI x.id,byteI x.val.length]).length+x.val.length by simp;omega)
 obtain⟨a6,c6,rfl⟩:=bN hown6
 clear hown6 hgr6 hown5 hown5' hgr5 hnew5 hne5 c50 c51 c60 c61 hb5 hx5 hb6 s0 s1 t0 t1 hszA hszB
 go_wp2
 go_roundw
 case rel=>exact⟨k+1,a6,c6,bs++([byteI x.id,byteI x.val.length]++x.val),by omega,by go_num,by first|(rw[hlq.out];done)|(rw[hlq.out];rfl),HLN.out,by have h:=HO6.out;rw[hlq.out] at h ⊢;exact h,HBS.out,HB6.out⟩
 case measure=>simp [intOf];omega):p:=h
theorem enc_dev (code level:Int) (more:Bool) (next:Int) (objs:List Ob) (da oa:Option Addr) (dc oc:Nat) (w:World) (hd:Bs w (.slice da ([]:List UInt8).length dc) []) (ho:Obs w (.slice oa objs.length oc) objs) (hk:Rp.ok ⟨43,0,[],code,level,more,next,objs⟩=true)
  (c1:1≤code) (c2:code≤3) (l1:1≤level) (l2:level≤131) (n1:0≤next) (n2:next≤255) (hob:objsB objs=true) (mm:Int) (hmm:mm=if more then 255 else 0):
  Calls Tryz.prog 205 #[.agg #[.int .i64 43,.int .i64 0,.slice da 0 dc,.int .i64 code,.int .i64 level,.bool more,.int .i64 next,.slice oa objs.length oc]] w (EncPost w (devHead ⟨43,0,[],code,level,more,next,objs⟩++encObs objs)):=by
 obtain⟨i5,hi,hz0,hz1,hz2⟩:=info_parts infoB;obtain⟨hb1,hb2,hb3⟩:=objsB_bd hob;have HV:Hid (∀X,Calls Tryz.prog 197 #[.agg #[.int .i64 43,.int .i64 0,.slice da 0 dc,.int .i64 code,.int .i64 level,.bool more,.int .i64 next,.slice oa objs.length oc]] (w.alloc X) fun r w'=>r=.returned (.bool true)∧Below (w.alloc X).heap.size (w.alloc X) w'):=fun X=>by rw[←hk];exact rvalid_any _ _ _ _ _ _ _ _ [] objs _ (hd.keep (bH w X)) (ho.keep (bH w X)) (by omega) (by omega)
 have HO:=bC ho;have hm1:0≤mm∧mm≤255:=by subst hmm;cases more<;>decide
 have HDH:Hid (devHead ⟨43,0,[],code,level,more,next,objs⟩=[43,14,byteI code,byteI level,byteI mm,byteI next,byteI objs.length]):=by show _=_;rw[hmm];rfl
 have HDL:Hid ((devHead ⟨43,0,[],code,level,more,next,objs⟩).length=7):=rfl;rw[HDH.out] at HDL ⊢;have HMM:=bC hmm;replace hb3:=bC hb3;clear hd ho hk hob hmm HDH;have hmore:(more=true∧mm=255)∨(more=false∧mm=0):=by
  have:=HMM.out;cases more
  ·exact .inr ⟨rfl,by simpa using this⟩
  ·exact .inl ⟨rfl,by simpa using this⟩
 clear HMM;rcases hmore with⟨rfl,rfl⟩|⟨rfl,rfl⟩
 ·go_enter Tryz.func205,Tryz.ntmps205
  go_wp2_with fail;refine(HV.out _).mono ?_;rintro r w1 ⟨rfl,hbv⟩;have gB:w1.heap[w.heap.size]?=some (.cells #[.int .i64 43,.int .i64 0,.slice da 0 dc,.int .i64 code,.int .i64 level,.bool true,.int .i64 next,.slice oa objs.length oc] 53 (0,0)):=by rw[hbv.block _ (by simp)];exact heap_alloc_new _ _
  have p0:w1.cell? ⟨w.heap.size,0,none⟩=some (.int .i64 43):=bW gB 0;have p1:w1.cell? ⟨w.heap.size,1,none⟩=some (.int .i64 0):=bW gB 1;have p2:w1.cell? ⟨w.heap.size,2,none⟩=some (.slice da 0 dc):=bW gB 2;have p3:w1.cell? ⟨w.heap.size,3,none⟩=some (.int .i64 code):=bW gB 3;have p4:w1.cell? ⟨w.heap.size,4,none⟩=some (.int .i64 level):=bW gB 4;have p5:=bW gB 5;simp only[List.getElem?_toArray,List.getElem?_cons_succ,List.getElem?_cons_zero] at p5;have p6:w1.cell? ⟨w.heap.size,6,none⟩=some (.int .i64 next):=bW gB 6;have p7:w1.cell? ⟨w.heap.size,7,none⟩=some (.slice oa objs.length oc):=bW gB 7;have hbw1:Below w.heap.size w w1:=bU (bH w _) hbv;have hlt1:w.heap.size<w1.heap.size:=(Array.getElem?_eq_some_iff.1 gB).1;have HO7:=bC (own7 w1 w1.heap.size code level _ next objs.length (by omega) (by omega) hm1 (by omega) (by omega) (Nat.le_refl _));obtain⟨ao,no,co,hvo,hlo,hno,hnco,hcmo,hel⟩:=(HO.out.keep hbw1).open_;simp only[Value.slice.injEq] at hvo;obtain⟨rfl,rfl,rfl⟩:=hvo;replace hel:=bC hel;have P7:=bC p7;clear gB hbv hlo;go_wp2_with fail;go_loopw [5,59] (fun bv idx wr=>∃(k:Nat) (ba:Option Addr) (bc:Nat) (bs:List UInt8),k≤objs.length∧idx=.int .i64 k∧bv=.slice ba bs.length bc∧bs.length≤253∧Hid (wr.ownsRow w1.heap.size 5 1 (.slice ba bs.length bc) bs.length (u8s bs))∧Hid (bs=[43,14,byteI code,byteI level,byteI 255,byteI next,byteI objs.length]++encObs (objs.take k))∧Below w1.heap.size w1 wr) (fun _ idx _=>objs.length- (intOf idx).toNat)
  case atStart=>exact⟨0,_,7,[43,14,byteI code,byteI level,byteI 255,byteI next,byteI objs.length],Nat.zero_le _,rfl,rfl,by simp,HO7.out,by show _=_;simp [encObs],bH w1 _⟩
  case round=>
   clear p0 p1 p2 p3 p4 p5 p6 p7 HO7;obtain⟨k,ba,bc,bs,hk,rfl,rfl,hbl,hown,hbs,hbw⟩:=hrel;have hszr:=hbw.size;have p7:wr.cell? ⟨w.heap.size,7,none⟩=some (.slice oa objs.length oc):=bD hbw P7.out;by_cases hlt:k<objs.length
   ·obtain ⟨x,hgx⟩:=get_some (n:=objs.length) rfl hlt
    obtain⟨b,o,xa,xc,rfl,d1,d2,hxb⟩:=hel.out k x hgx;obtain⟨x1,x2,x3⟩:=hb3.out k x hgx;replace d1:=bD hbw d1;replace d2:=bD hbw d2;have HXB:=bC hxb;have HSN:=bC (show encObs (objs.take (k+1))=encObs (objs.take k)++([byteI x.id,byteI x.val.length]++x.val) by rw[bT hgx,encObs_snoc]);have HLN:Hid ((bs++([byteI x.id,byteI x.val.length]++x.val)).length≤253):=by
     show _≤253;rw[hbs.out,List.append_assoc,←HSN.out,List.length_append,encObs_length];have:=obSize_pre (objs.drop (k+1)) (objs.take (k+1));rw[List.take_append_drop] at this;simp;omega
    have hki:(0:Int)≤(k:Int):=Int.natCast_nonneg _;have hkl:(k:Int)<(objs.length:Int):=by omega
    clear hgx hxb;go_wp2_with fail;have s0:(wr.alloc (.cells #[.int .i64 x.id,.slice xa x.val.length xc] 165)).cell? ⟨wr.heap.size,0,none⟩=some (.int .i64 x.id):=by rw[World.cell?_alloc_at _ _ _ _ rfl];rfl
    have s1:(wr.alloc (.cells #[.int .i64 x.id,.slice xa x.val.length xc] 165)).cell? ⟨wr.heap.size,1,none⟩=some (.slice xa x.val.length xc):=by rw[World.cell?_alloc_at _ _ _ _ rfl];rfl
    have t0:((wr.alloc (.cells #[.int .i64 x.id,.slice xa x.val.length xc] 165)).alloc (.cells #[.int .u8 x.id,.int .u8 x.val.length] 5)).cell? ⟨wr.heap.size,0,none⟩=some (.int .i64 x.id):=bD (bH _ _) s0;have t1:((wr.alloc (.cells #[.int .i64 x.id,.slice xa x.val.length xc] 165)).alloc (.cells #[.int .u8 x.id,.int .u8 x.val.length] 5)).cell? ⟨wr.heap.size,1,none⟩=some (.slice xa x.val.length xc):=bD (bH _ _) s1;have HO1:=bC ((hown.out.alloc (.cells #[.int .i64 x.id,.slice xa x.val.length xc] 165)).alloc (.cells #[.int .u8 x.id,.int .u8 x.val.length] 5));have HLT:=bC hown.out.lt;have HY1:=bC (bs2 (wr.alloc (.cells #[.int .i64 x.id,.slice xa x.val.length xc] 165)) (wr.heap.size+1) x.id x.val.length x1 x2 (by omega) (by omega) (by simp));have hbA:=bC ((cJ hbw (Nat.le_refl _) (.cells #[.int .i64 x.id,.slice xa x.val.length xc] 165)).alloc (by simp;omega) (.cells #[.int .u8 x.id,.int .u8 x.val.length] 5));have u1:IntKind.u8.wrap x.id=x.id:=by show x.id%256=x.id;omega
    have u2:IntKind.u8.wrap (x.val.length:Int)=x.val.length:=by show (x.val.length:Int)%256=x.val.length;omega
    have hszB:wr.heap.size<((wr.alloc (.cells #[.int .i64 x.id,.slice xa x.val.length xc] 165)).alloc (.cells #[.int .u8 x.id,.int .u8 x.val.length] 5)).drew.heap.size:=by show wr.heap.size<((wr.alloc (.cells #[.int .i64 x.id,.slice xa x.val.length xc] 165)).alloc (.cells #[.int .u8 x.id,.int .u8 x.val.length] 5)).heap.size;simp;omega
    have hszA:((wr.alloc (.cells #[.int .i64 x.id,.slice xa x.val.length xc] 165)).alloc (.cells #[.int .u8 x.id,.int .u8 x.val.length] 5)).heap.size=wr.heap.size+2:=by simp
    go_region_held3 (fun W=>W.cell? ⟨wr.heap.size,0,none⟩=some (.int .i64 x.id)∧W.cell? ⟨wr.heap.size,1,none⟩=some (.slice xa x.val.length xc)) ((first|exact⟨s0,s1⟩|exact⟨t0,t1⟩|exact⟨c50,c51⟩|exact⟨c60,c61⟩|assumption))
     ((first
      |(refine step_appB rfl (.tmp 63) (.tmp 71) 50 rfl w1.heap.size 5 i5 Tryz.underlying50 hi hz0 hz1 hz2 (.slice ba bs.length bc) bs rfl HO1.out _ [byteI x.id,byteI x.val.length] rfl HY1.out (by simp;omega) (by simp;omega) ?_;intro v5 w5 hown5 hgr5 hnew5;have c50:w5.cell? ⟨wr.heap.size,0,none⟩=some (.int .i64 x.id):=hgr5.cell t0 (fun e=>Nat.lt_irrefl _ (HLT.out _ e.symm).2);have c51:w5.cell? ⟨wr.heap.size,1,none⟩=some (.slice xa x.val.length xc):=hgr5.cell t1 (fun e=>Nat.lt_irrefl _ (HLT.out _ e.symm).2);have hb5:Below w1.heap.size w1 w5:=hbA.out.drew.grown hgr5 hbA.out.size (fun k hk=>(HLT.out k hk).1);have hx5:=HXB.out.keep hb5;have hne5:∀j,v5.ownBlock=some j→j≠wr.heap.size:=ne_box hnew5 (fun k hk=>(HLT.out k hk).2) hszB;have hown5':w5.ownsRow w1.heap.size 5 1 v5 (bs++[byteI x.id,byteI x.val.length]).length (u8s (bs++[byteI x.id,byteI x.val.length])):=(by rw[List.length_append];exact hown5))
      |(refine step_appB rfl (.tmp 72) (.tmp 74) 50 rfl w1.heap.size 5 i5 Tryz.underlying50 hi hz0 hz1 hz2 v5 (bs++[byteI x.id,byteI x.val.length]) rfl hown5' _ x.val rfl hx5 (by simp;omega) hb5.size ?_;intro v6 w6 hown6 hgr6 _;have c60:w6.cell? ⟨wr.heap.size,0,none⟩=some (.int .i64 x.id):=hgr6.cell c50 (fun e=>hne5 _ e.symm rfl);have c61:w6.cell? ⟨wr.heap.size,1,none⟩=some (.slice xa x.val.length xc):=hgr6.cell c51 (fun e=>hne5 _ e.symm rfl);have hb6:Below w1.heap.size w1 w6:=hb5.grown hgr6 hb5.size (fun k hk=>(hown5.lt k hk).1))))
    have HO6:Hid (w6.ownsRow w1.heap.size 5 1 v6 (bs++([byteI x.id,byteI x.val.length]++x.val)).length (u8s (bs++([byteI x.id,byteI x.val.length]++x.val)))):=by
     show w6.ownsRow w1.heap.size 5 1 v6 (bs++([byteI x.id,byteI x.val.length]++x.val)).length (u8s (bs++([byteI x.id,byteI x.val.length]++x.val)));rw[←List.append_assoc,List.length_append];exact hown6
    have HB6:=bC hb6;have HBS:Hid (bs++([byteI x.id,byteI x.val.length]++x.val)=[43,14,byteI code,byteI level,byteI 255,byteI next,byteI objs.length]++encObs (objs.take (k+1))):=by
     show _=_;rw[HSN.out];generalize [byteI x.id,byteI x.val.length]++x.val=tl;rw[←List.append_assoc,←hbs.out]
    exact z13_1
   ·obtain rfl:k=objs.length:=by omega
    have HBS:Hid (bs=[43,14,byteI code,byteI level,byteI 255,byteI next,byteI objs.length]++encObs objs):=by
     have h:=hbs.out;rw[List.take_length] at h;exact h
    have HF:Hid (Bs wr (.slice ba bs.length bc) bs∧Below w.heap.size w wr∧∀ad,ba=some ad→w.heap.size≤ad.block):=⟨Bs.own hown.out,bU hbw1 hbw,fun ad h=>Nat.le_trans hbw1.size (hown.out.lt ad.block (by rw[h];rfl)).1⟩
    clear hown hbs;go_wp2;go_ret2;refine(show EncPost w ([43,14,byteI code,byteI level,byteI 255,byteI next,byteI objs.length]++encObs objs) _ _ from ?_);rw[←HBS.out];exact⟨ba,bc,rfl,HF.out.1,HF.out.2.1,HF.out.2.2⟩
 ·go_enter Tryz.func205,Tryz.ntmps205
  go_wp2_with fail;refine(HV.out _).mono ?_;rintro r w1 ⟨rfl,hbv⟩;have gB:w1.heap[w.heap.size]?=some (.cells #[.int .i64 43,.int .i64 0,.slice da 0 dc,.int .i64 code,.int .i64 level,.bool false,.int .i64 next,.slice oa objs.length oc] 53 (0,0)):=by rw[hbv.block _ (by simp)];exact heap_alloc_new _ _
  have p0:w1.cell? ⟨w.heap.size,0,none⟩=some (.int .i64 43):=bW gB 0;have p1:w1.cell? ⟨w.heap.size,1,none⟩=some (.int .i64 0):=bW gB 1;have p2:w1.cell? ⟨w.heap.size,2,none⟩=some (.slice da 0 dc):=bW gB 2;have p3:w1.cell? ⟨w.heap.size,3,none⟩=some (.int .i64 code):=bW gB 3;have p4:w1.cell? ⟨w.heap.size,4,none⟩=some (.int .i64 level):=bW gB 4;have p5:=bW gB 5;simp only[List.getElem?_toArray,List.getElem?_cons_succ,List.getElem?_cons_zero] at p5;have p6:w1.cell? ⟨w.heap.size,6,none⟩=some (.int .i64 next):=bW gB 6;have p7:w1.cell? ⟨w.heap.size,7,none⟩=some (.slice oa objs.length oc):=bW gB 7;have hbw1:Below w.heap.size w w1:=bU (bH w _) hbv;have hlt1:w.heap.size<w1.heap.size:=(Array.getElem?_eq_some_iff.1 gB).1;have HO7:=bC (own7 w1 w1.heap.size code level _ next objs.length (by omega) (by omega) hm1 (by omega) (by omega) (Nat.le_refl _));obtain⟨ao,no,co,hvo,hlo,hno,hnco,hcmo,hel⟩:=(HO.out.keep hbw1).open_;simp only[Value.slice.injEq] at hvo;obtain⟨rfl,rfl,rfl⟩:=hvo;replace hel:=bC hel;have P7:=bC p7;clear gB hbv hlo;go_wp2_with fail;go_loopw [5,59] (fun bv idx wr=>∃(k:Nat) (ba:Option Addr) (bc:Nat) (bs:List UInt8),k≤objs.length∧idx=.int .i64 k∧bv=.slice ba bs.length bc∧bs.length≤253∧Hid (wr.ownsRow w1.heap.size 5 1 (.slice ba bs.length bc) bs.length (u8s bs))∧Hid (bs=[43,14,byteI code,byteI level,byteI 0,byteI next,byteI objs.length]++encObs (objs.take k))∧Below w1.heap.size w1 wr) (fun _ idx _=>objs.length- (intOf idx).toNat)
  case atStart=>exact⟨0,_,7,[43,14,byteI code,byteI level,byteI 0,byteI next,byteI objs.length],Nat.zero_le _,rfl,rfl,by simp,HO7.out,by show _=_;simp [encObs],bH w1 _⟩
  case round=>
   clear p0 p1 p2 p3 p4 p5 p6 p7 HO7;obtain⟨k,ba,bc,bs,hk,rfl,rfl,hbl,hown,hbs,hbw⟩:=hrel;have hszr:=hbw.size;have p7:wr.cell? ⟨w.heap.size,7,none⟩=some (.slice oa objs.length oc):=bD hbw P7.out;by_cases hlt:k<objs.length
   ·obtain ⟨x,hgx⟩:=get_some (n:=objs.length) rfl hlt
    obtain⟨b,o,xa,xc,rfl,d1,d2,hxb⟩:=hel.out k x hgx;obtain⟨x1,x2,x3⟩:=hb3.out k x hgx;replace d1:=bD hbw d1;replace d2:=bD hbw d2;have HXB:=bC hxb;have HSN:=bC (show encObs (objs.take (k+1))=encObs (objs.take k)++([byteI x.id,byteI x.val.length]++x.val) by rw[bT hgx,encObs_snoc]);have HLN:Hid ((bs++([byteI x.id,byteI x.val.length]++x.val)).length≤253):=by
     show _≤253;rw[hbs.out,List.append_assoc,←HSN.out,List.length_append,encObs_length];have:=obSize_pre (objs.drop (k+1)) (objs.take (k+1));rw[List.take_append_drop] at this;simp;omega
    have hki:(0:Int)≤(k:Int):=Int.natCast_nonneg _;have hkl:(k:Int)<(objs.length:Int):=by omega
    clear hgx hxb;go_wp2_with fail;have s0:(wr.alloc (.cells #[.int .i64 x.id,.slice xa x.val.length xc] 165)).cell? ⟨wr.heap.size,0,none⟩=some (.int .i64 x.id):=by rw[World.cell?_alloc_at _ _ _ _ rfl];rfl
    have s1:(wr.alloc (.cells #[.int .i64 x.id,.slice xa x.val.length xc] 165)).cell? ⟨wr.heap.size,1,none⟩=some (.slice xa x.val.length xc):=by rw[World.cell?_alloc_at _ _ _ _ rfl];rfl
    have t0:((wr.alloc (.cells #[.int .i64 x.id,.slice xa x.val.length xc] 165)).alloc (.cells #[.int .u8 x.id,.int .u8 x.val.length] 5)).cell? ⟨wr.heap.size,0,none⟩=some (.int .i64 x.id):=bD (bH _ _) s0;have t1:((wr.alloc (.cells #[.int .i64 x.id,.slice xa x.val.length xc] 165)).alloc (.cells #[.int .u8 x.id,.int .u8 x.val.length] 5)).cell? ⟨wr.heap.size,1,none⟩=some (.slice xa x.val.length xc):=bD (bH _ _) s1;have HO1:=bC ((hown.out.alloc (.cells #[.int .i64 x.id,.slice xa x.val.length xc] 165)).alloc (.cells #[.int .u8 x.id,.int .u8 x.val.length] 5));have HLT:=bC hown.out.lt;have HY1:=bC (bs2 (wr.alloc (.cells #[.int .i64 x.id,.slice xa x.val.length xc] 165)) (wr.heap.size+1) x.id x.val.length x1 x2 (by omega) (by omega) (by simp));have hbA:=bC ((cJ hbw (Nat.le_refl _) (.cells #[.int .i64 x.id,.slice xa x.val.length xc] 165)).alloc (by simp;omega) (.cells #[.int .u8 x.id,.int .u8 x.val.length] 5));have u1:IntKind.u8.wrap x.id=x.id:=by show x.id%256=x.id;omega
    have u2:IntKind.u8.wrap (x.val.length:Int)=x.val.length:=by show (x.val.length:Int)%256=x.val.length;omega
    have hszB:wr.heap.size<((wr.alloc (.cells #[.int .i64 x.id,.slice xa x.val.length xc] 165)).alloc (.cells #[.int .u8 x.id,.int .u8 x.val.length] 5)).drew.heap.size:=by show wr.heap.size<((wr.alloc (.cells #[.int .i64 x.id,.slice xa x.val.length xc] 165)).alloc (.cells #[.int .u8 x.id,.int .u8 x.val.length] 5)).heap.size;simp;omega
    have hszA:((wr.alloc (.cells #[.int .i64 x.id,.slice xa x.val.length xc] 165)).alloc (.cells #[.int .u8 x.id,.int .u8 x.val.length] 5)).heap.size=wr.heap.size+2:=by simp
    go_region_held3 (fun W=>W.cell? ⟨wr.heap.size,0,none⟩=some (.int .i64 x.id)∧W.cell? ⟨wr.heap.size,1,none⟩=some (.slice xa x.val.length xc)) ((first|exact⟨s0,s1⟩|exact⟨t0,t1⟩|exact⟨c50,c51⟩|exact⟨c60,c61⟩|assumption))
     ((first
      |(refine step_appB rfl (.tmp 63) (.tmp 71) 50 rfl w1.heap.size 5 i5 Tryz.underlying50 hi hz0 hz1 hz2 (.slice ba bs.length bc) bs rfl HO1.out _ [byteI x.id,byteI x.val.length] rfl HY1.out (by simp;omega) (by simp;omega) ?_;intro v5 w5 hown5 hgr5 hnew5;have c50:w5.cell? ⟨wr.heap.size,0,none⟩=some (.int .i64 x.id):=hgr5.cell t0 (fun e=>Nat.lt_irrefl _ (HLT.out _ e.symm).2);have c51:w5.cell? ⟨wr.heap.size,1,none⟩=some (.slice xa x.val.length xc):=hgr5.cell t1 (fun e=>Nat.lt_irrefl _ (HLT.out _ e.symm).2);have hb5:Below w1.heap.size w1 w5:=hbA.out.drew.grown hgr5 hbA.out.size (fun k hk=>(HLT.out k hk).1);have hx5:=HXB.out.keep hb5;have hne5:∀j,v5.ownBlock=some j→j≠wr.heap.size:=ne_box hnew5 (fun k hk=>(HLT.out k hk).2) hszB;have hown5':w5.ownsRow w1.heap.size 5 1 v5 (bs++[byteI x.id,byteI x.val.length]).length (u8s (bs++[byteI x.id,byteI x.val.length])):=(by rw[List.length_append];exact hown5))
      |(refine step_appB rfl (.tmp 72) (.tmp 74) 50 rfl w1.heap.size 5 i5 Tryz.underlying50 hi hz0 hz1 hz2 v5 (bs++[byteI x.id,byteI x.val.length]) rfl hown5' _ x.val rfl hx5 (by simp;omega) hb5.size ?_;intro v6 w6 hown6 hgr6 _;have c60:w6.cell? ⟨wr.heap.size,0,none⟩=some (.int .i64 x.id):=hgr6.cell c50 (fun e=>hne5 _ e.symm rfl);have c61:w6.cell? ⟨wr.heap.size,1,none⟩=some (.slice xa x.val.length xc):=hgr6.cell c51 (fun e=>hne5 _ e.symm rfl);have hb6:Below w1.heap.size w1 w6:=hb5.grown hgr6 hb5.size (fun k hk=>(hown5.lt k hk).1))))
    have HO6:Hid (w6.ownsRow w1.heap.size 5 1 v6 (bs++([byteI x.id,byteI x.val.length]++x.val)).length (u8s (bs++([byteI x.id,byteI x.val.length]++x.val)))):=by
     show w6.ownsRow w1.heap.size 5 1 v6 (bs++([byteI x.id,byteI x.val.length]++x.val)).length (u8s (bs++([byteI x.id,byteI x.val.length]++x.val)));rw[←List.append_assoc,List.length_append];exact hown6
    have HB6:=bC hb6;have HBS:Hid (bs++([byteI x.id,byteI x.val.length]++x.val)=[43,14,byteI code,byteI level,byteI 0,byteI next,byteI objs.length]++encObs (objs.take (k+1))):=by
     show _=_;rw[HSN.out];generalize [byteI x.id,byteI x.val.length]++x.val=tl;rw[←List.append_assoc,←hbs.out]
    exact z13_1
   ·obtain rfl:k=objs.length:=by omega
    have HBS:Hid (bs=[43,14,byteI code,byteI level,byteI 0,byteI next,byteI objs.length]++encObs objs):=by
     have h:=hbs.out;rw[List.take_length] at h;exact h
    have HF:Hid (Bs wr (.slice ba bs.length bc) bs∧Below w.heap.size w wr∧∀ad,ba=some ad→w.heap.size≤ad.block):=⟨Bs.own hown.out,bU hbw1 hbw,fun ad h=>Nat.le_trans hbw1.size (hown.out.lt ad.block (by rw[h];rfl)).1⟩
    clear hown hbs;go_wp2;go_ret2;refine(show EncPost w ([43,14,byteI code,byteI level,byteI 0,byteI next,byteI objs.length]++encObs objs) _ _ from ?_);rw[←HBS.out];exact⟨ba,bc,rfl,HF.out.1,HF.out.2.1,HF.out.2.2⟩
theorem enc_any (fn exc:Int) (code level:Int) (more:Bool) (next:Int) (data:List UInt8) (objs:List Ob) (da oa:Option Addr) (dc oc:Nat) (w:World) (hd:Bs w (.slice da data.length dc) data) (ho:Obs w (.slice oa objs.length oc) objs) (hl:level≤9223372036854775807) (hl2: -9223372036854775808≤level) (hk:Rp.ok ⟨fn,exc,data,code,level,more,next,objs⟩=true):
  Calls Tryz.prog 205 #[.agg #[.int .i64 fn,.int .i64 exc,.slice da data.length dc,.int .i64 code,.int .i64 level,.bool more,.int .i64 next,.slice oa objs.length oc]] w (EncPost w (Rp.pdu ⟨fn,exc,data,code,level,more,next,objs⟩)):=by
 obtain⟨hf,h|h|h⟩:=ok_cases hk
 ·obtain ⟨hx,h1,h2⟩:=h
  have e:Rp.pdu ⟨fn,exc,data,code,level,more,next,objs⟩=[byteI (fn+128),byteI exc]:=by unfold Rp.pdu;rw[if_neg hx]
  rw[e];exact enc_exc fn exc code level more next data objs da oa dc oc w hd ho hl hl2 hk hf ⟨h1,h2⟩
 ·obtain ⟨rfl,h43,h1,h2⟩:=h
  have e:Rp.pdu ⟨fn,0,data,code,level,more,next,objs⟩=byteI fn::byteI data.length::data:=by unfold Rp.pdu;rw[if_pos rfl,if_neg h43]
  rw[e];exact enc_data fn code level more next data objs da oa dc oc w hd ho hl hl2 hk ⟨hf.1,h1⟩ h2
 ·obtain ⟨rfl,rfl,rfl,h1,h2,h3,h4,h5,h6,h7⟩:=h
  have e:Rp.pdu ⟨43,0,[],code,level,more,next,objs⟩=devHead ⟨43,0,[],code,level,more,next,objs⟩++encObs objs:=by unfold Rp.pdu;rw[if_pos rfl,if_pos rfl]
  rw[e];exact enc_dev code level more next objs da oa dc oc w hd ho hk h1 h2 h3 h4 h5 h6 h7 _ rfl
theorem rp_ok_sizes {r:Rp} (h:r.ok=true):r.data.length≤1000∧r.objs.length≤1000∧∀(i:Nat) (x:Ob),r.objs[i]?=some x→x.val.length≤1000:=by
 obtain⟨fn,exc,data,code,level,more,next,objs⟩:=r;have hs:∀{r:Rp},r.short=true→r.data.length≤1000∧r.objs.length≤1000∧∀(i:Nat) (x:Ob),r.objs[i]?=some x→x.val.length≤1000:=by
  intro r hr;simp only[Rp.short,Rp.plain,Bool.and_eq_true,List.isEmpty_iff] at hr;rw[hr.1,hr.2.2];exact⟨by simp,by simp,fun i x hx=>by simp at hx⟩
 have hp:∀{r:Rp},r.plain=true→r.data.length≤1000→r.data.length≤1000∧r.objs.length≤1000∧∀(i:Nat) (x:Ob),r.objs[i]?=some x→x.val.length≤1000:=by
  intro r hr hd;simp only[Rp.plain,Bool.and_eq_true,List.isEmpty_iff] at hr;rw[hr.2];exact⟨hd,by simp,fun i x hx=>by simp at hx⟩
 unfold Rp.ok at h;rw[Bool.and_eq_true] at h;obtain⟨_,h⟩:=h;split at h
 ·split at h
  ·simp only[Rp.devB,Bool.and_eq_true,List.isEmpty_iff] at h
   obtain⟨h1,h2,h3⟩:=objsB_bd h.1.2;have hd:data=[]:=h.1.1.1.1.1.1.1;exact⟨by rw[hd];simp,by show objs.length≤1000;omega,fun i x hx=>by have:=(h3 i x hx).2.2;omega⟩
  ·split at h
   ·simp only[Bool.and_eq_true,decide_eq_true_eq] at h
    exact hp (r:=⟨fn,exc,data,code,level,more,next,objs⟩) h.2 (by have:=h.1.2;show data.length≤1000;omega)
   ·simp only[Bool.and_eq_true,decide_eq_true_eq] at h
    exact hp (r:=⟨fn,exc,data,code,level,more,next,objs⟩) h.2 (by have:=h.1.2;show data.length≤1000;omega)
 ·simp only[Bool.and_eq_true] at h
  exact hs (r:=⟨fn,exc,data,code,level,more,next,objs⟩) h.2
end Go.Proofs.YtoaoejaodhedaaaGreat
