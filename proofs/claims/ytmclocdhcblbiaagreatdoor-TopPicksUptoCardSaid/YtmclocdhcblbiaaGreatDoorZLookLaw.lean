/- Lemmas; conditions: as each states. -/
import Derived.Test.YtmclocdhcblbiaaGreatDoorZFlowAfter
set_option maxHeartbeats 4000000
namespace Go.Proofs.YtmclocdhcblbiaaGreatDoor
open Go.RowKit Go.Shelf Go.Lib Tryz
open Go.ChangeMaps (setBlock heap_setBlock_same heap_setBlock_other)
structure LK (w0 w:World) (kb mb:Nat) (hs:List Value) (tv:Value) (F:Asg Frm) (T:List Nat):Prop where
 below:Below w0.heap.size w0 w
 hkb:w0.heap.size<=kb
 hmb:w0.heap.size<=mb
 box:Blk w kb 131 (hs++[.map (some mb),tv])
 len:hs.length=9
 que:Que w w0.heap.size tv T
 map:zbm (QI w) w mb F
variable {w0 w w':World} {kb mb:Nat} {hs:List Value} {tv:Value} {F:Asg Frm} {T:List Nat}
theorem LK.size(h:LK w0 w kb mb hs tv F T):w0.heap.size<=w.heap.size:=h.below.size
theorem LK.step(h:LK w0 w kb mb hs tv F T)(A:Below w.heap.size w w'):LK w0 w' kb mb hs tv F T :=
 ⟨Qa h.below Xl A,h.hkb,h.hmb,h.box.step A,h.len,h.que.keep fun g B=>A.block g (h.que.lt g B).2,h.map.keep (A.block mb h.map.lt) fun _ _ _ k=>k.mono A⟩
theorem LK.ne(h:LK w0 w kb mb hs tv F T):kb≠mb:=fun e=>by
 obtain⟨C,A,B,_⟩:=h.map.ex;have:=h.box;rw[e]at this;unfold Blk at this;rw[B]at this;cases this
theorem LK.nem(h:LK w0 w kb mb hs tv F T):tv.ownBlock≠some mb:=fun e=>by
 obtain⟨G,A,C,_⟩:=h.map.ex;rcases h.que with⟨rfl,_⟩|⟨b,D,cap,E,rfl,_,B,_⟩
 ·cases e
 ·have e:b=mb:=Option.some.inj e;rw[e,C]at B;cases B
theorem LK.cell9(h:LK w0 w kb mb hs tv F T):w.cell? ⟨kb,9,none⟩=some (.map (some mb)):=by
 rw[h.box.cell 9,List.getElem?_append_right (by rw[h.len];omega),h.len];rfl
theorem LK.cell10(h:LK w0 w kb mb hs tv F T):w.cell? ⟨kb,10,none⟩=some tv:=by
 rw[h.box.cell 10,List.getElem?_append_right (by rw[h.len];omega),h.len];rfl
theorem LK.cellh(h:LK w0 w kb mb hs tv F T){i:Nat}{v:Value}(A:hs[i]? = some v):w.cell? ⟨kb,i,none⟩=some v:=by
 rw[h.box.cell i,List.getElem?_append_left (List.getElem?_eq_some_iff.1 A).1,A]
theorem QI.keepS{A B:Value}{f:Frm}(h:QI w A B f)(C:zX w w'):QI w' A B f:=⟨C.strs h.1,C.strs h.2⟩
theorem zX.map{C:Array MapEntry}{A:Nat}(h:w.heap[mb]? = some (.map C A))(o:Obj):zX w (setBlock w mb o) :=
 zX.blocks mb (fun k _ B=>heap_setBlock_other h o B) fun a s D e=>by
  unfold World.cell? at e;rw[D,h]at e;cases e
theorem LK.put(h:LK w0 w kb mb hs tv F T){i:Nat}(E:i<=64)(f:Frm)(B C:Value)(G:QI w B C f):
 ∃o,(Instr.mapUpdate 93 (.map (some mb)) (zae i) (.agg #[B,C])).run prog w=.ok () (setBlock w mb o)/\LK w0 (setBlock w mb o) kb mb hs tv (F.put i f) T:=by
 obtain⟨L,D,A,_⟩:=h.map.ex;obtain⟨o,H,I⟩:=h.map.put E f B C G;exact⟨o,H,qbs h.hmb A o h.below,h.hkb,h.hmb,(heap_setBlock_other A o h.ne).trans h.box,h.len,h.que.keep fun g J=>heap_setBlock_other A o (fun e=>h.nem (by rw[J,e])),I.keep rfl fun _ _ _ k=>k.keepS (zX.map A o)⟩
theorem ZeR{b base:Nat}{A:List Value}{v:Value}{l:List Nat}(B:Blk w b 131 A)(C:Que w base v l):v.ownBlock≠some b:=fun e=>by
 rcases C with⟨rfl,_⟩|⟨c,D,cap,E,rfl,_,F,_⟩
 ·cases e
 ·have e:c=b:=Option.some.inj e;unfold Blk at B;rw[<-e,F]at B;have:=Option.some.inj B;injection this with _ G _
  exact absurd G (by decide)
theorem Zdv{base:Nat}{v:Value}{l:List Nat}(A:Que w base v l)(s:Str):v≠.string s:=fun e=>by
 rcases A with⟨rfl,_⟩|⟨c,B,cap,C,rfl,_⟩<;>cases e
theorem LK.nek(h:LK w0 w kb mb hs tv F T):tv.ownBlock≠some kb:=ZeR h.box h.que
theorem zX.put{b j:Nat}{t:TypeId}{A:List Value}{u:Value}(D:Blk w b t A)(G:A[j]? = some u)(H:∀s,u≠.string s)(v:Value):zX w (w.setCell ⟨b,j,none⟩ v):=fun a s e=>by
 by_cases E:a.block=b
 ·obtain⟨c,B,C⟩:=a;have E:c=b:=E;subst E;cases C with
  |none =>
   rw[D.cell B]at e;rw[(D.put j v).cell B];by_cases F:j=B
   ·subst F;rw[G]at e;exact absurd (Option.some.inj e) (H s)
   ·rw[List.getElem?_set_ne F];exact e
  |some x =>
   unfold Blk at D;unfold World.cell? at e;rw[D]at e;cases e
 ·exact(World.cell?_of_block (Xk _ _ _ _ E)).trans e
theorem LK.todo(h:LK w0 w kb mb hs tv F T)(C:w.grownBy w' tv.ownBlock){tv':Value}{E:List Nat}(G:Que w' w0.heap.size tv' E):LK w0 (w'.setCell ⟨kb,10,none⟩ tv') kb mb hs tv' F E:=by
 have A:=h.box.grown C h.nek;have D:zX w (w'.setCell ⟨kb,10,none⟩ tv'):=(h.que.keepS C).trans (zX.put A (u:=tv) (by rw[List.getElem?_append_right (by rw[h.len];omega),h.len];rfl) (Zdv h.que) tv');have B:=A.put 10 tv';rw[List.set_append,if_neg (by rw[h.len];omega),h.len]at B;refine⟨(h.below.grown C h.size fun k e=>(h.que.lt k e).1).setCell h.hkb _,h.hkb,h.hmb,B,h.len,G.keep fun g e=>Xk _ _ _ _ fun H=>?_,h.map.keep ((Xk _ _ _ _ h.ne.symm).trans (C.block mb h.map.lt fun e=>h.nem e.symm)) fun _ _ _ k=>k.keepS D⟩;exact ZeR A G (by rw[e];exact congrArg some H)
theorem LK.cell10g(h:LK w0 w kb mb hs tv F T)(A:w.grownBy w' tv.ownBlock):w'.cell? ⟨kb,10,none⟩=some tv:=by
 rw[(h.box.grown A h.nek).cell 10,List.getElem?_append_right (by rw[h.len];omega),h.len];rfl
theorem Zbw{base:Nat}{v:Value}{l:List Nat}(A:Que w base v l):∃a c,v=.slice a l.length c:=by
 rcases A with⟨rfl,rfl⟩|⟨b,B,cap,C,rfl,_⟩
 ·exact⟨none,0,rfl⟩
 ·exact⟨_,_,rfl⟩
structure Q4 (w w':World) (kb mb:Nat) (tv tv':Value):Prop where
 size:w.heap.size<=w'.heap.size
 texts:zX w w'
 own:∀g,tv'.ownBlock=some g->tv.ownBlock=some g\/w.heap.size<=g
 block:∀b,b<w.heap.size->b≠kb->b≠mb->tv.ownBlock≠some b->w'.heap[b]? = w.heap[b]?
theorem Q4.trans{B C D:World}{E F G:Value}(h:Q4 B C kb mb E F)(k:Q4 C D kb mb F G):Q4 B D kb mb E G:=by
 have M:=h.size;have N:=k.size;refine⟨by omega,h.texts.trans k.texts,fun g A=>?_,fun b L H I J=>?_⟩
 ·rcases k.own g A with A|A
  ·exact h.own g A
  ·exact Or.inr (by omega)
 ·rw[k.block b (by omega) H I fun e=>?_,h.block b L H I J];rcases h.own b e with e|e
  ·exact J e
  ·omega
theorem Q4.below{w w':World}(h:Below w.heap.size w w')(kb mb:Nat)(tv:Value):Q4 w w' kb mb tv tv:=⟨h.size,zX.below h,fun _ A=>Or.inl A,fun b B _ _ _=>h.block b B⟩
theorem Q4.put(h:LK w0 w kb mb hs tv F T)(o:Obj):Q4 w (setBlock w mb o) kb mb tv tv:=by
 obtain⟨E,A,B,_⟩:=h.map.ex;refine⟨by simp[setBlock],zX.map B o,fun _ C=>Or.inl C,fun b _ _ D _=>heap_setBlock_other B o D⟩
theorem Q4.todo(h:LK w0 w kb mb hs tv F T)(A:w.grownBy w' tv.ownBlock){tv':Value}(C:∀g,tv'.ownBlock=some g->tv.ownBlock=some g\/w.heap.size<=g):Q4 w (w'.setCell ⟨kb,10,none⟩ tv') kb mb tv tv':=by
 have B:=h.box.grown A h.nek;exact⟨by rw[World.size_setCell];exact A.size,(h.que.keepS A).trans (zX.put B (u:=tv) (by rw[List.getElem?_append_right (by rw[h.len];omega),h.len];rfl) (Zdv h.que) tv'),C,fun b D E _ G=>(Xk _ _ _ _ E).trans (A.block b D fun e=>G e.symm)⟩
theorem LK.other(h:LK w0 w kb mb hs tv F T){b j:Nat}{t:TypeId}{A:List Value}{u:Value}(B:Blk w b t A)(C:A[j]? = some u)(D:∀s,u≠.string s)(E:w0.heap.size<=b)(G:kb≠b)(H:mb≠b)(I:tv.ownBlock≠some b)(v:Value):LK w0 (w.setCell ⟨b,j,none⟩ v) kb mb hs tv F T :=
 ⟨h.below.setCell E _,h.hkb,h.hmb,(Xk _ _ _ _ G).trans h.box,h.len,h.que.keep fun g e=>Xk _ _ _ _ fun J=>I (by rw[e];exact congrArg some J),h.map.keep (Xk _ _ _ _ H) fun _ _ _ k=>k.keepS (zX.put B C D v)⟩
theorem Q4.other{b j:Nat}{t:TypeId}{A:List Value}{u:Value}(C:Blk w b t A)(D:A[j]? = some u)(E:∀s,u≠.string s)(J:w'.heap.size<=b)(kb mb:Nat){tv tv':Value}(B:Q4 w' w kb mb tv tv')(v:Value):Q4 w' (w.setCell ⟨b,j,none⟩ v) kb mb tv tv' :=
 ⟨by rw[World.size_setCell];exact B.size,B.texts.trans (zX.put C D E v),B.own,fun c F G H I=>(Xk _ _ _ _ (by show c≠b;omega)).trans (B.block c F G H I)⟩
def Zbc(w2 wx:World)(g:Frm)(p:Value):Prop:=∃nb v1 v2,p=.pointer (some ⟨nb,0,none⟩)/\w2.heap.size<=nb/\Blk wx nb 133 [v1,v2]/\Below w2.heap.size w2 wx/\QI wx v1 v2 g
theorem Zbc.late{D A:World}{B C:Value}{g:Frm}(E:Below D.heap.size D A)(F:QI A B C g):Zbc D (A.alloc (.cells #[B,C] 133)) g (.pointer (some ⟨A.heap.size,0,none⟩)) :=
 ⟨_,B,C,rfl,E.size,Blk.new A 133 [B,C],E.alloc E.size _,F.mono (Xb.alloc Xl _)⟩
theorem Zbc.early{A D:World}{C E:Value}{g:Frm}(F:Below (A.alloc (.cells #[.slice none 0 0,.slice none 0 0] 133)).heap.size (A.alloc (.cells #[.slice none 0 0,.slice none 0 0] 133)) D)(G:QI D C E g):
 Zbc A ((D.setCell ⟨A.heap.size,0,none⟩ C).setCell ⟨A.heap.size,1,none⟩ E) g (.pointer (some ⟨A.heap.size,0,none⟩)):=by
 have K:=(Blk.new A 133 [.slice none 0 0,.slice none 0 0]).step F;have B:Below A.heap.size A D:=Qa (Xb.alloc Xl _) Xl F;have H:zX D ((D.setCell ⟨A.heap.size,0,none⟩ C).setCell ⟨A.heap.size,1,none⟩ E):=(zX.put K (j:=0) rfl (by simp) C).trans (zX.put (K.put 0 C) (j:=1) (u:=.slice none 0 0) rfl (by simp) E);exact⟨_,C,E,rfl,Xl,(K.put 0 C).put 1 E,(B.setCell Xl _).setCell Xl _,G.keepS H⟩
def Qbn(cs:List qa)(w0 w:World)(kb mb:Nat)(hs:List Value)(tv:Value)(F:Asg Frm)(T:List Nat)(i:Nat)(f:Frm)(e:Ending)(w':World):Prop:=match F i with
 |none=>e=.returned (.bool true)/\∃tv',LK w0 w' kb mb hs tv' (F.put i f) (T++[i])/\Q4 w w' kb mb tv tv'
 |some was=>if qau was f then (if ZaA cs was f=was then e=.returned (.bool true)/\LK w0 w' kb mb hs tv F T/\Q4 w w' kb mb tv tv
  else e=.returned (.bool true)/\∃tv',LK w0 w' kb mb hs tv' (F.put i (ZaA cs was f)) (T++[i])/\Q4 w w' kb mb tv tv') else e=.returned (.bool false)/\Below w0.heap.size w0 w'
set_option maxRecDepth 100000
theorem Qcn(l:List qa)(B:Nat)(ws w0:World)(hm:qh ws w0 B l)(w:World)(kb mb:Nat)(hs:List Value)(tv:Value)(F:Asg Frm)(T:List Nat)(h:LK w0 w kb mb hs tv F T)(h0:hs[0]? = some (.map (some B)))(i:Nat)(hi:i<=64)(f:Frm)(M N:Value)(hf:QI w M N f)(hfs:Qbq f)(hfr:qG (Za l) f=0)(hF:∀i f,F i=some f->Qbq f/\qG (Za l) f=0)(hT:T.length<=1000000):
 Calls prog 71 #[.pointer (some ⟨kb,0,none⟩),.int .i64 (i:Int),.agg #[M,N]] w (Qbn (Za l) w0 w kb mb hs tv F T i f):=by
 have C:Hid (∀(wx:World) (o:Obj),Below wx.heap.size wx (wx.alloc o)):=fun wx o=>Xb.alloc Xl o
 have P:=Xh (h.step (C.out w (.cells #[M,N] 133)));have k1:=Blk.new w 133 [M,N];have c9:=P.out.cell9;obtain⟨lv,sv,G,aG⟩:=P.out.map.look hi;have L1:=aG (w.alloc (.cells #[M,N] 133)) true rfl;rw[zae]at L1;unfold Qbn;cases aF:F i with
 |none =>
  rw[aF]at L1 G;dsimp only at G;obtain⟨rfl,rfl⟩:=G;dsimp only;clear aG;go_enter func71,ntmps71;go_upto_region 7 with fail;have Y:=P.out.step (C.out _ (.cells #[.slice none 0 0,.slice none 0 0] 133));have Z:=k1.step (C.out _ (.cells #[.slice none 0 0,.slice none 0 0] 133));have R:=(hf.mono (C.out w (.cells #[M,N] 133))).mono (C.out _ (.cells #[.slice none 0 0,.slice none 0 0] 133));have P2:=Xh (Q4.below (((C.out w (.cells #[M,N] 133)).alloc (by simp) (.cells #[.slice none 0 0,.slice none 0 0] 133)).drew) kb mb tv);generalize (w.alloc (.cells #[M,N] 133)).alloc (.cells #[.slice none 0 0,.slice none 0 0] 133)=L at *;obtain⟨o,hr,K3⟩:=(Y.step (Xb.drew)).put hi f M N (R.mono (Xb.drew));have P3:=Xh (P2.out.trans (Q4.put (Y.step (Xb.drew)) o));rw[zae]at hr;have HT:=Xh hT;have d9:=Y.cell9;have d0:=Z.cell 0;have d1:=Z.cell 1;clear h Y k1 L1 c9 P Z R hf hT h0 hm P2;go_region
  go_upto_region 8 with fail;generalize setBlock L.drew mb o=w3 at *;have X:=K3.step (C.out w3 (.cells #[zae i] 3));have P4:=Xh (P3.out.trans (Q4.below (C.out w3 (.cells #[zae i] 3)) kb mb tv));have e10:=K3.cell10;have e10':=X.cell10;have z10:=X.box.frozen 10;have a:=zbg w3 i 3;clear d9 d0 d1 hr P3;go_wp2_with (at_builtin;go_must (refine QN rfl _ _ rfl w0.heap.size _ T rfl X.que X.size i _ 1 rfl a (by unfold maxLen;have:=HT.out;omega) (by have:=HT.out;omega) ?_);intro v5 w5 hq5 z ho5;(have P5:=Xh (P4.out.trans (Q4.todo X z ho5)));(have K5:=X.todo z hq5);(have z5:=(X.box.grown z X.nek).frozen 10);(have y5:=X.cell10g z);obtain⟨a5,c5,rfl⟩:=Zbw hq5)
  go_ret;have P5':=P5.out;rw[show(T++[i]).length=T.length+1 by simp]at K5 P5';exact⟨rfl,_,K5,P5'⟩
 |some A =>
  rw[aF]at L1 G;dsimp only at G ⊢;obtain⟨hws,hwr⟩:=hF i A aF;obtain⟨⟨p1,n1,rfl,_⟩,⟨p2,n2,rfl,_⟩⟩:=And.intro G.1.open G.2.open;have I:=Blk.new (w.alloc (.cells #[M,N] 133)) 133 [.slice p1 A.locals.length n1,.slice p2 A.stack.length n2];have Y:=P.out.step (C.out _ (.cells #[.slice p1 A.locals.length n1,.slice p2 A.stack.length n2] 133));have Z:=k1.step (C.out _ (.cells #[.slice p1 A.locals.length n1,.slice p2 A.stack.length n2] 133));have R:=(hf.mono (C.out w (.cells #[M,N] 133))).mono (C.out _ (.cells #[.slice p1 A.locals.length n1,.slice p2 A.stack.length n2] 133));have r:=G.mono (C.out _ (.cells #[.slice p1 A.locals.length n1,.slice p2 A.stack.length n2] 133));have B2:Below w.heap.size w ((w.alloc (.cells #[M,N] 133)).alloc (.cells #[.slice p1 A.locals.length n1,.slice p2 A.stack.length n2] 133)):=(Xb.alloc Xl _).alloc (by simp) _;obtain⟨L,hw2⟩:∃L,L=(w.alloc (.cells #[M,N] 133)).alloc (.cells #[.slice p1 A.locals.length n1,.slice p2 A.stack.length n2] 133):=⟨_,rfl⟩;rw[<-hw2]at Y Z R r I B2;rw[World.size_alloc]at I;have HW2:=Xh hw2.symm;clear hw2;have hm2:=hm.step (w':=L) (Below.mono Y.below Xl);have S:Hid (∀wx,Below L.heap.size L wx->_):=fun wx hb=>ZeO ws wx B l (hm2.step hb) A f _ _ M N (r.mono hb) (R.mono hb) hws hfs hwr hfr
  have d0:=Y.cellh h0;have a0:=Z.cell 0;have a1:=Z.cell 1;have b0:=I.cell 0;have b1:=I.cell 1;have a0':=(Z.step (C.out L (.cells #[.slice none 0 0,.slice none 0 0] 133))).cell 0;have a1':=(Z.step (C.out L (.cells #[.slice none 0 0,.slice none 0 0] 133))).cell 1;have b0':=(I.step (C.out L (.cells #[.slice none 0 0,.slice none 0 0] 133))).cell 0;have b1':=(I.step (C.out L (.cells #[.slice none 0 0,.slice none 0 0] 133))).cell 1;have d0':=(Y.step (C.out L (.cells #[.slice none 0 0,.slice none 0 0] 133))).cellh h0;have U:=Xh Y;have Hk2:=Xh Z;have Hk2':=Xh I;have Hv2:=Xh r;have HB2:=Xh B2;have aB:=Xh (And.intro h.box.lt (And.intro h.map.lt fun(g:Nat) hg=>(h.que.lt g hg).2));have HS:=Xh h.size;have HT:=Xh hT;have Hf:=Xh hf;clear aG hf G R r B2 Y Z I h hfr hT P k1 hm hm2;cases y:qau A f with
  |true =>
   simp only[if_true];have d:=Xh y;clear y;go_enter func71,ntmps71;go_upto_region 3 with fail;rw[HW2.out];clear L1 c9;go_cut [9,10] (fun p b wx=>b=.bool true/\Zbc L wx (ZaA (Za l) A f) p)
   case first =>
    have K9:=(Blk.new L 133 [.slice none 0 0,.slice none 0 0]).step (Xb.drew);go_region_law (first
     |(go_simp;go_fit (S.out _ (Xb.drew));rintro e w3⟨D,⟨_,v1,v2,rfl,O⟩|⟨hz,_⟩⟩;rotate_left;(exact absurd (d.out.symm.trans hz) (by decide));obtain⟨⟨p3,n3,rfl,_⟩,⟨p4,n4,rfl,_⟩⟩:=And.intro O.1.open O.2.open)
     |(go_simp;go_fit (S.out _ ((C.out _ _).drew));rintro e w3⟨D,⟨_,v1,v2,rfl,O⟩|⟨hz,_⟩⟩;rotate_left;(exact absurd (d.out.symm.trans hz) (by decide));obtain⟨⟨p3,n3,rfl,_⟩,⟨p4,n4,rfl,_⟩⟩:=And.intro O.1.open O.2.open;(have E:=K9.step D);(have x0:=E.cell 0);(have x1:=E.cell 1);(have y0:=E.frozen 0);(have y1:=E.frozen 1)))
    all_goals (go_wp2_with fail;go_meet;first
     |exact⟨rfl,Zbc.late (Qa (Xb.drew) Xl D) O⟩
     |exact⟨rfl,Zbc.early (Qa (Xb.drew) Xl (by simpa using D)) O⟩)
   case rest =>
    obtain⟨rfl,nb,v1,v2,rfl,hnb,Kb,m,n⟩:=hcut;clear d0 a0 a1 b0 b1 a0' a1' b0' b1' d0' S;have X:=U.out.step m;have k4:=Hk2.out.step m;have aC:=Hk2'.out.step m;have hv4:=Hv2.out.mono m;have P4:=Xh (Q4.below (Qa HB2 Xl m) kb mb tv);have k:Hid (∀wx,Below wc.heap.size wc wx->_):=fun wx hb=>qcM (ZaA (Za l) A f) A v1 v2 _ _ wx (n.mono hb) (hv4.mono hb)
    have HF4:=Xh n;obtain⟨⟨p3,n3,rfl,_⟩,⟨p4,n4,rfl,_⟩⟩:=And.intro n.1.open n.2.open;have g0:=Kb.cell 0;have g1:=Kb.cell 1;have b0:=aC.cell 0;have b1:=aC.cell 1;clear hv4 aC n;have HKb:=Xh Kb;have aD:=Xh X;have Hk4:=Xh k4;clear Kb X k4;have t:Hid (∀s,M≠.string s):=by
     obtain⟨q,c,e,_⟩:=Hf.out.1.open;exact fun s e'=>by rw[e]at e';cases e'
    have v:Hid (∀s,N≠.string s):=by
     obtain⟨q,c,e,_⟩:=Hf.out.2.open;exact fun s e'=>by rw[e]at e';cases e'
    by_cases V:ZaA (Za l) A f=A
    ·have HEq:=Xh V;simp only[Xj V]at k;clear V;go_wp2_with (go_fit (k.out _ Xb);rintro e w5⟨rfl,H⟩)
     go_ret;exact⟨rfl,aD.out.step H,P4.out.trans (Q4.below H kb mb tv)⟩
    ·have HEq:=Xh V;simp only[Xi V]at k;clear V;go_upto_region 7 with(go_fit (k.out _ Xb);rintro e w5⟨rfl,H⟩;(have aE:=HKb.out.step H);(have g50:=aE.cell 0);(have g51:=aE.cell 1);(have k5:=Hk4.out.step H);(have c50:=k5.cell 0);(have c51:=k5.cell 1);(have z50:=k5.frozen 0);(have z51:=k5.frozen 1);(have HK5:=Xh (aD.out.step H));(have J:=Xh k5);(have HF5:=Xh (HF4.out.mono H));(have P5:=Xh (P4.out.trans (Q4.below H kb mb tv))))
     have N1:kb≠w.heap.size:=Nat.ne_of_lt aB.out.1;have N2:mb≠w.heap.size:=Nat.ne_of_lt aB.out.2.1;have N3:tv.ownBlock≠some w.heap.size:=fun e=>Nat.lt_irrefl _ (aB.out.2.2 _ e)
     have K6:=(HK5.out.other J.out (j:=0) rfl t.out HS.out N1 N2 N3 (.slice p3 (ZaA (Za l) A f).locals.length n3)).other (J.out.put 0 _) (j:=1) rfl v.out HS.out N1 N2 N3 (.slice p4 (ZaA (Za l) A f).stack.length n4);have P6:=Xh (Q4.other (J.out.put 0 _) (j:=1) rfl v.out Xl kb mb (Q4.other J.out (j:=0) rfl t.out Xl kb mb P5.out (.slice p3 (ZaA (Za l) A f).locals.length n3)) (.slice p4 (ZaA (Za l) A f).stack.length n4));have k6:=(J.out.put 0 (.slice p3 (ZaA (Za l) A f).locals.length n3)).put 1 (.slice p4 (ZaA (Za l) A f).stack.length n4);have hf6:=HF5.out.keepS ((zX.put J.out (j:=0) rfl t.out (.slice p3 (ZaA (Za l) A f).locals.length n3)).trans (zX.put (J.out.put 0 _) (j:=1) rfl v.out (.slice p4 (ZaA (Za l) A f).stack.length n4)));clear N1 N2 N3 g50 g51 c50 c51 z50 z51 k5 aE H HKb aD Hk4 HK5 J HF5 HF4 P4 P5 k g0 g1 b0 b1 t v;generalize (w5.setCell ⟨w.heap.size,0,none⟩ (.slice p3 (ZaA (Za l) A f).locals.length n3)).setCell ⟨w.heap.size,1,none⟩ (.slice p4 (ZaA (Za l) A f).stack.length n4)=w6 at *;obtain⟨o,hr,K3⟩:=(K6.step (Xb.drew)).put hi (ZaA (Za l) A f) _ _ (hf6.mono (Xb.drew));have P3:=Xh ((P6.out.trans (Q4.below (Xb.drew) kb mb tv)).trans (Q4.put (K6.step (Xb.drew)) o));rw[zae]at hr;have d9:=K6.cell9;have d0:=k6.cell 0;have d1:=k6.cell 1;clear K6 k6 hf6 P6;go_region
     go_upto_region 8 with fail;generalize setBlock w6.drew mb o=w7 at *;have x:=K3.step (C.out w7 (.cells #[zae i] 3));have P7:=Xh (P3.out.trans (Q4.below (C.out w7 (.cells #[zae i] 3)) kb mb tv));have e10:=K3.cell10;have e10':=x.cell10;have z10:=x.box.frozen 10;have a:=zbg w7 i 3;clear d9 d0 d1 hr P3;go_wp2_with (at_builtin;go_must (refine QN rfl _ _ rfl w0.heap.size _ T rfl x.que x.size i _ 1 rfl a (by unfold maxLen;have:=HT.out;omega) (by have:=HT.out;omega) ?_);intro v8 w8 hq8 aA ho8;(have P8:=Xh (P7.out.trans (Q4.todo x aA ho8)));(have K8:=x.todo aA hq8);(have z8:=(x.box.grown aA x.nek).frozen 10);(have y8:=x.cell10g aA);obtain⟨a8,c8,rfl⟩:=Zbw hq8)
     go_ret;have P8':=P8.out;rw[show(T++[i]).length=T.length+1 by simp]at K8 P8';exact⟨rfl,_,K8,P8'⟩
  |false =>
   simp only[Bool.false_eq_true,if_false];have d:=Xh y;clear y;go_enter func71,ntmps71;go_upto_region 3 with fail;rw[HW2.out];clear L1 c9;go_cut [9,10] (fun _ b wx=>b=.bool false/\Below w0.heap.size w0 wx)
   case first =>
    have K9:=(Blk.new L 133 [.slice none 0 0,.slice none 0 0]).step (Xb.drew);go_region_law (first
     |(go_simp;go_fit (S.out _ (Xb.drew));rintro e w3⟨D,⟨hz,_⟩|⟨_,rfl⟩⟩;(exact absurd (d.out.symm.trans hz) (by decide)))
     |(go_simp;go_fit (S.out _ ((C.out _ _).drew));rintro e w3⟨D,⟨hz,_⟩|⟨_,rfl⟩⟩;(exact absurd (d.out.symm.trans hz) (by decide));(have E:=K9.step D);(have x0:=E.cell 0);(have x1:=E.cell 1);(have y0:=E.frozen 0);(have y1:=E.frozen 1)))
    all_goals (go_wp2_with fail;go_meet;first
     |exact⟨rfl,(Qa U.out.below Xl (Qa (Xb.drew) Xl D)).alloc (Xf U.out.size D.size) _⟩
     |exact⟨rfl,((Qa U.out.below Xl (Qa (w:=L) ((Xb.alloc Xl _).drew) Xl D)).setCell U.out.size _).setCell U.out.size _⟩)
   case rest =>
    obtain⟨rfl,hB⟩:=hcut;clear d0 a0 a1 b0 b1 a0' a1' b0' b1' d0' S;go_wp2_with fail;go_ret;exact⟨rfl,hB⟩
section
variable {P:Type} [DecidableEq P] {W:Zp P}
theorem Zp.meets_cons(s:Asg P×List Nat)(p:Nat×P)(r:List (Nat×P)):W.meets s (p::r)=(W.meetT s p).bind fun A=>W.meets A r:=rfl
theorem Zp.meets_append:∀(a b:List (Nat×P)) (s:Asg P×List Nat),W.meets s (a++b)=(W.meets s a).bind fun A=>W.meets A b
 |[],b,s=>rfl
 |p::r,b,s=>by
  rw[List.cons_append,Zp.meets_cons,Zp.meets_cons,Option.bind_assoc];congr 1;funext A;exact Zp.meets_append r b A
end
def zbc(W:Zp Frm)(cs:List qa)(at':Nat)(f:Frm):Asg Frm×List Nat->List ZW->Option (Asg Frm×List Nat)
 |s,[]=>some s
 |s,h::r=>if h.lo<=(at':Int)/\(at':Int)<h.hi then (if qaz cs h.cls then (W.meetT s (h.dest.toNat,⟨f.locals,[Qc h.cls]⟩)).bind fun s'=>zbc W cs at' f s' r else none) else zbc W cs at' f s r
theorem qbK(W:Zp Frm)(cs:List qa)(A:Nat)(f:Frm):∀(hs:List ZW) (s:Asg Frm×List Nat),(qL cs A f hs).bind (W.meets s)=zbc W cs A f s hs
 |[],_=>rfl
 |h::r,s=>by
  unfold qL zbc;split
  ·split
   ·have C:=fun B=>qbK W cs A f r B
    rw[show(fun B=>zbc W cs A f B r)=fun B=>(qL cs A f r).bind (W.meets B) from funext fun B=>(C B).symm];cases qL cs A f r with
    |none =>
     rw[Option.map_none,Option.bind_none];cases W.meetT s (h.dest.toNat,⟨f.locals,[Qc h.cls]⟩)<;>rfl
    |some t=>rfl
   ·rfl
  ·exact qbK W cs A f r s
section
variable {l:List qa} {cls Zb:Str} {m:qc} {start:Frm}
theorem zdT(cs:List qa)(s:Asg Frm×List Nat)(i:Nat)(f:Frm):(zW cs cls Zb m start).look s i f=(zbc (zW cs cls Zb m start) cs i f s m.handlers).bind fun A=>(qad cs cls Zb m.code i f).bind fun b=>(zW cs cls Zb m start).meets A b:=by
 unfold Zp.look;show(qaF cs cls Zb m i f).bind _=_
 unfold qaF;rw[<-qbK];cases qL cs i f m.handlers with
 |none=>rfl
 |some a =>
  rw[Option.bind_some,Option.bind_some];cases qad cs cls Zb m.code i f with
  |none=>cases(zW cs cls Zb m start).meets s a<;>rfl
  |some b =>
   rw[Option.map_some,Option.bind_some,Zp.meets_append];rfl
def qa2(cs:List qa)(L:List Str)(Zb:Str):Bool:=L.all (fun t=>Zg cs t==0)&&(decide (Zb=⟨#[86]⟩)||Zg cs Zb==0)
theorem Zbf{cs:List qa}{L:List Str}{Zb:Str}(B:L.length<=8)(h:qa2 cs L Zb=true):qG cs ⟨L,[]⟩=0:=by
 unfold qa2 at h;rw[Bool.and_eq_true]at h;exact zaS B (by show([]:List Str).length<=8;decide) (fun k A=>beq_iff_eq.1 (List.all_eq_true.1 h.1 k A)) fun k A=>by cases A
def qE(cs:List qa)(cls Zb:Str)(m:qc)(L:List Str)(F:Option (Asg Frm)):Prop:=match F with
 |some F=>qa2 cs L Zb=true/\(zW cs cls Zb m ⟨L,[]⟩).Least F
 |none=>qa2 cs L Zb=true->∀G,¬(zW cs cls Zb m ⟨L,[]⟩).Closed G
theorem qb4(B:Qg l)(A:∀c∈l,Qf c=0)(C:ZC m.code=0)(D:Zw m.handlers m.code.length=0){L:List Str}(E:L.length<=8){F G:Option (Asg Frm)}(h:qE (Za l) cls Zb m L F)(k:qE (Za l) cls Zb m L G):F=G:=by
 cases F with
 |none =>
  cases G with
  |none=>rfl
  |some G=>exact absurd k.2.1 (h k.1 G)
 |some F =>
  cases G with
  |none=>exact absurd h.2.1 (k h.1 F)
  |some G=>rw[Zp.least_one (qbH B A C D (Zbf E h.1)) h.2 k.2]
theorem Qb4{α:Type}{f:α->List α->Nat}:∀{r a:List α},Zi f a r=0->∀x∈r,∃b,f x b=0
 |[],_,_,_,A=>by cases A
 |y::r,a,h,x,A=>by
  unfold Zi at h;split at h
  ·rename_i B;rcases List.mem_cons.1 A with rfl|A
   ·exact⟨a,B⟩
   ·exact Qb4 h x A
  ·rename_i B;exact absurd h B
structure QaJ (m:qc) (args:List Str) (g:Str) (many:Nat):Prop where
 type:Zl m.type=some (args,g)
 locals:m.locals=(many:Int)
 small:many<=8
 code:ZC m.code=0
 hands:Zw m.handlers m.code.length=0
 args:qar m<=many
theorem ZcQ{c:qa}(B:Qf c=0){m:qc}(I:m∈c.methods)(J:m.abs=false):∃args g C,QaJ m args g C:=by
 have L:Zi ZH [] c.methods=0:=by
  unfold Qf at B;split at B
  ·cases B
  ·split at B
   ·rename_i h;exact absurd B h
   ·split at B
    ·cases B
    ·split at B
     ·rename_i h;exact absurd B h
     ·split at B
      ·rename_i h;exact absurd B h
      ·rename_i h;exact Decidable.not_not.1 h
 obtain⟨b,A⟩:=Qb4 L m I;unfold ZH at A;split at A
 ·cases A
 ·split at A
  ·cases A
  ·rename_i H;split at A
   ·cases A
   ·split at A
    ·cases A
    ·rename_i M;unfold Zai at A;rw[J,if_neg (by decide)]at A;split at A
     ·rename_i h;exact absurd A h
     ·rename_i E;split at A
      ·cases A
      ·rename_i F;split at A
       ·cases A
       ·cases G:Zl m.type with
        |none=>rw[G]at H;exact absurd rfl H
        |some p =>
         obtain⟨C,D⟩:=Int.eq_ofNat_of_zero_le (show 0<=m.locals by omega);exact⟨p.1,p.2,C,G,D,by omega,Decidable.not_not.1 E,A,by omega⟩
end
