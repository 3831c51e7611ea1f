/- Lemmas; conditions: as each states. -/
import Derived.Test.YtlmfmioljeppfaaGreatDoorFirst
set_option maxHeartbeats 4000000
namespace Go.Proofs.YtlmfmioljeppfaaGreatDoor
open Go.RowKit Go.Shelf Go.Lib
open Go.ChangeMaps (setBlock heap_setBlock_same heap_setBlock_other)
structure LK (w0 w:World) (kb mb:Nat) (hs:List Value) (tv:Value) (F:Asg Frm) (T:List Nat):Prop where
 below:Below w0.heap.size w0 w
 hkb:w0.heap.size<=kb
 hmb:w0.heap.size<=mb
 box:Blk w kb 160 (hs++[.map (some mb),tv])
 len:hs.length=9
 que:Que w w0.heap.size tv T
 map:QaW (zk w) w mb F
variable {w0 w w':World} {kb mb:Nat} {hs:List Value} {tv:Value} {F:Asg Frm} {T:List Nat}
theorem LK.size(h:LK w0 w kb mb hs tv F T):w0.heap.size<=w.heap.size:=h.below.size
theorem LK.step(h:LK w0 w kb mb hs tv F T)(hb:Below w.heap.size w w'):LK w0 w' kb mb hs tv F T :=
 ⟨Qa h.below Xl hb,h.hkb,h.hmb,h.box.step hb,h.len,h.que.keep fun g hg=>hb.block g (h.que.lt g hg).2,h.map.keep (hb.block mb h.map.lt) fun _ _ _ k=>k.mono hb⟩
theorem LK.ne(h:LK w0 w kb mb hs tv F T):kb≠mb:=fun e=>by
 obtain⟨es,clock,h1,_⟩:=h.map.ex;have:=h.box;rw[e]at this;unfold Blk at this;rw[h1]at this;cases this
theorem LK.nem(h:LK w0 w kb mb hs tv F T):tv.ownBlock≠some mb:=fun e=>by
 obtain⟨es,clock,h1,_⟩:=h.map.ex;rcases h.que with⟨rfl,_⟩|⟨b,off,cap,cur,rfl,_,h2,_⟩
 ·cases e
 ·have e:b=mb:=Option.some.inj e;rw[e,h1]at h2;cases h2
theorem LK.cell9(h:LK w0 w kb mb hs tv F T):w.cell? ⟨kb,9,none⟩=some (.map (some mb)):=by
 rw[h.box.cell 9,List.getElem?_append_right (by rw[h.len];omega),h.len];rfl
theorem LK.cell10(h:LK w0 w kb mb hs tv F T):w.cell? ⟨kb,10,none⟩=some tv:=by
 rw[h.box.cell 10,List.getElem?_append_right (by rw[h.len];omega),h.len];rfl
theorem LK.cellh(h:LK w0 w kb mb hs tv F T){i:Nat}{v:Value}(hi:hs[i]? = some v):w.cell? ⟨kb,i,none⟩=some v:=by
 rw[h.box.cell i,List.getElem?_append_left (List.getElem?_eq_some_iff.1 hi).1,hi]
theorem zk.keepS{lv sv:Value}{f:Frm}(h:zk w lv sv f)(hk:Qy w w'):zk w' lv sv f:=⟨hk.strs h.1,hk.strs h.2⟩
theorem Qy.map{es:Array MapEntry}{clock:Nat}(h:w.heap[mb]? = some (.map es clock))(o:Obj):Qy w (setBlock w mb o) :=
 Qy.blocks mb (fun k _ hne=>heap_setBlock_other h o hne) fun a s ha e=>by
  unfold World.cell? at e;rw[ha,h]at e;cases e
theorem LK.put(h:LK w0 w kb mb hs tv F T){i:Nat}(hi:i<=64)(f:Frm)(lv sv:Value)(hf:zk w lv sv f):
 ∃o,(Instr.mapUpdate 116 (.map (some mb)) (ZV i) (.agg #[lv,sv])).run Tryz.prog w=.ok () (setBlock w mb o)/\LK w0 (setBlock w mb o) kb mb hs tv (F.put i f) T:=by
 obtain⟨es,clock,h1,_⟩:=h.map.ex;obtain⟨o,hr,hm⟩:=h.map.put hi f lv sv hf;exact⟨o,hr,za2 h.hmb h1 o h.below,h.hkb,h.hmb,(heap_setBlock_other h1 o h.ne).trans h.box,h.len,h.que.keep fun g hg=>heap_setBlock_other h1 o (fun e=>h.nem (by rw[hg,e])),hm.keep rfl fun _ _ _ k=>k.keepS (Qy.map h1 o)⟩
theorem qdS{b base:Nat}{vals:List Value}{v:Value}{l:List Nat}(hb:Blk w b 160 vals)(hq:Que w base v l):v.ownBlock≠some b:=fun e=>by
 rcases hq with⟨rfl,_⟩|⟨c,off,cap,cur,rfl,_,h2,_⟩
 ·cases e
 ·have e:c=b:=Option.some.inj e;unfold Blk at hb;rw[<-e,h2]at hb;have:=Option.some.inj hb;injection this with _ h3 _
  exact absurd h3 (by decide)
theorem qcP{base:Nat}{v:Value}{l:List Nat}(hq:Que w base v l)(s:Str):v≠.string s:=fun e=>by
 rcases hq with⟨rfl,_⟩|⟨c,off,cap,cur,rfl,_⟩<;>cases e
theorem LK.nek(h:LK w0 w kb mb hs tv F T):tv.ownBlock≠some kb:=qdS h.box h.que
theorem Qy.put{b j:Nat}{t:TypeId}{vals:List Value}{u:Value}(hb:Blk w b t vals)(hu:vals[j]? = some u)(hn:∀s,u≠.string s)(v:Value):Qy w (w.setCell ⟨b,j,none⟩ v):=fun a s e=>by
 by_cases ha:a.block=b
 ·obtain⟨c,off,spot⟩:=a;have ha:c=b:=ha;subst ha;cases spot with
  |none =>
   rw[hb.cell off]at e;rw[(hb.put j v).cell off];by_cases ho:j=off
   ·subst ho;rw[hu]at e;exact absurd (Option.some.inj e) (hn s)
   ·rw[List.getElem?_set_ne ho];exact e
  |some x =>
   unfold Blk at hb;unfold World.cell? at e;rw[hb]at e;cases e
 ·exact(World.cell?_of_block (Xk _ _ _ _ ha)).trans e
theorem LK.todo(h:LK w0 w kb mb hs tv F T)(hg:w.grownBy w' tv.ownBlock){tv':Value}{T':List Nat}(hq:Que w' w0.heap.size tv' T'):LK w0 (w'.setCell ⟨kb,10,none⟩ tv') kb mb hs tv' F T':=by
 have hb':=h.box.grown hg h.nek;have hks:Qy w (w'.setCell ⟨kb,10,none⟩ tv'):=(h.que.keepS hg).trans (Qy.put hb' (u:=tv) (by rw[List.getElem?_append_right (by rw[h.len];omega),h.len];rfl) (qcP h.que) tv');have hbx:=hb'.put 10 tv';rw[List.set_append,if_neg (by rw[h.len];omega),h.len]at hbx;refine⟨(h.below.grown hg h.size fun k e=>(h.que.lt k e).1).setCell h.hkb _,h.hkb,h.hmb,hbx,h.len,hq.keep fun g e=>Xk _ _ _ _ fun e'=>?_,h.map.keep ((Xk _ _ _ _ h.ne.symm).trans (hg.block mb h.map.lt fun e=>h.nem e.symm)) fun _ _ _ k=>k.keepS hks⟩;exact qdS hb' hq (by rw[e];exact congrArg some e')
theorem LK.cell10g(h:LK w0 w kb mb hs tv F T)(hg:w.grownBy w' tv.ownBlock):w'.cell? ⟨kb,10,none⟩=some tv:=by
 rw[(h.box.grown hg h.nek).cell 10,List.getElem?_append_right (by rw[h.len];omega),h.len];rfl
theorem zaN{base:Nat}{v:Value}{l:List Nat}(hq:Que w base v l):∃a c,v=.slice a l.length c:=by
 rcases hq with⟨rfl,rfl⟩|⟨b,off,cap,cur,rfl,_⟩
 ·exact⟨none,0,rfl⟩
 ·exact⟨_,_,rfl⟩
structure zX (w w':World) (kb mb:Nat) (tv tv':Value):Prop where
 size:w.heap.size<=w'.heap.size
 texts:Qy w w'
 own:∀g,tv'.ownBlock=some g->tv.ownBlock=some g\/w.heap.size<=g
 block:∀b,b<w.heap.size->b≠kb->b≠mb->tv.ownBlock≠some b->w'.heap[b]? = w.heap[b]?
theorem zX.trans{w1 w2 w3:World}{t1 t2 t3:Value}(h:zX w1 w2 kb mb t1 t2)(k:zX w2 w3 kb mb t2 t3):zX w1 w3 kb mb t1 t3:=by
 have h1:=h.size;have h2:=k.size;refine⟨by omega,h.texts.trans k.texts,fun g hg=>?_,fun b hb n1 n2 n3=>?_⟩
 ·rcases k.own g hg with hg|hg
  ·exact h.own g hg
  ·exact Or.inr (by omega)
 ·rw[k.block b (by omega) n1 n2 fun e=>?_,h.block b hb n1 n2 n3];rcases h.own b e with e|e
  ·exact n3 e
  ·omega
theorem zX.below{w w':World}(h:Below w.heap.size w w')(kb mb:Nat)(tv:Value):zX w w' kb mb tv tv:=⟨h.size,Qy.below h,fun _ hg=>Or.inl hg,fun b hb _ _ _=>h.block b hb⟩
theorem zX.put(h:LK w0 w kb mb hs tv F T)(o:Obj):zX w (setBlock w mb o) kb mb tv tv:=by
 obtain⟨es,clock,h1,_⟩:=h.map.ex;refine⟨by simp[setBlock],Qy.map h1 o,fun _ hg=>Or.inl hg,fun b _ _ n2 _=>heap_setBlock_other h1 o n2⟩
theorem zX.todo(h:LK w0 w kb mb hs tv F T)(hg:w.grownBy w' tv.ownBlock){tv':Value}(ho:∀g,tv'.ownBlock=some g->tv.ownBlock=some g\/w.heap.size<=g):zX w (w'.setCell ⟨kb,10,none⟩ tv') kb mb tv tv':=by
 have hb':=h.box.grown hg h.nek;exact⟨by rw[World.size_setCell];exact hg.size,(h.que.keepS hg).trans (Qy.put hb' (u:=tv) (by rw[List.getElem?_append_right (by rw[h.len];omega),h.len];rfl) (qcP h.que) tv'),ho,fun b hb n1 _ n3=>(Xk _ _ _ _ n1).trans (hg.block b hb fun e=>n3 e.symm)⟩
theorem LK.other(h:LK w0 w kb mb hs tv F T){b j:Nat}{t:TypeId}{vals:List Value}{u:Value}(hb:Blk w b t vals)(hu:vals[j]? = some u)(hn:∀s,u≠.string s)(h0:w0.heap.size<=b)(n1:kb≠b)(n2:mb≠b)(n3:tv.ownBlock≠some b)(v:Value):LK w0 (w.setCell ⟨b,j,none⟩ v) kb mb hs tv F T :=
 ⟨h.below.setCell h0 _,h.hkb,h.hmb,(Xk _ _ _ _ n1).trans h.box,h.len,h.que.keep fun g e=>Xk _ _ _ _ fun e'=>n3 (by rw[e];exact congrArg some e'),h.map.keep (Xk _ _ _ _ n2) fun _ _ _ k=>k.keepS (Qy.put hb hu hn v)⟩
theorem zX.other{b j:Nat}{t:TypeId}{vals:List Value}{u:Value}(hb:Blk w b t vals)(hu:vals[j]? = some u)(hn:∀s,u≠.string s)(h0:w'.heap.size<=b)(kb mb:Nat){tv tv':Value}(hk:zX w' w kb mb tv tv')(v:Value):zX w' (w.setCell ⟨b,j,none⟩ v) kb mb tv tv' :=
 ⟨by rw[World.size_setCell];exact hk.size,hk.texts.trans (Qy.put hb hu hn v),hk.own,fun c hc n1 n2 n3=>(Xk _ _ _ _ (by show c≠b;omega)).trans (hk.block c hc n1 n2 n3)⟩
def Qao(w2 wx:World)(g:Frm)(p:Value):Prop:=∃nb v1 v2,p=.pointer (some ⟨nb,0,none⟩)/\w2.heap.size<=nb/\Blk wx nb 27 [v1,v2]/\Below w2.heap.size w2 wx/\zk wx v1 v2 g
theorem Qao.late{w2 w3:World}{v1 v2:Value}{g:Frm}(hB:Below w2.heap.size w2 w3)(hv:zk w3 v1 v2 g):Qao w2 (w3.alloc (.cells #[v1,v2] 27)) g (.pointer (some ⟨w3.heap.size,0,none⟩)) :=
 ⟨_,v1,v2,rfl,hB.size,Blk.new w3 27 [v1,v2],hB.alloc hB.size _,hv.mono (Xb.alloc Xl _)⟩
theorem Qao.early{w2 w3:World}{v1 v2:Value}{g:Frm}(hB:Below (w2.alloc (.cells #[.slice none 0 0,.slice none 0 0] 27)).heap.size (w2.alloc (.cells #[.slice none 0 0,.slice none 0 0] 27)) w3)(hv:zk w3 v1 v2 g):
 Qao w2 ((w3.setCell ⟨w2.heap.size,0,none⟩ v1).setCell ⟨w2.heap.size,1,none⟩ v2) g (.pointer (some ⟨w2.heap.size,0,none⟩)):=by
 have K:=(Blk.new w2 27 [.slice none 0 0,.slice none 0 0]).step hB;have B:Below w2.heap.size w2 w3:=Qa (Xb.alloc Xl _) Xl hB;have hk:Qy w3 ((w3.setCell ⟨w2.heap.size,0,none⟩ v1).setCell ⟨w2.heap.size,1,none⟩ v2):=(Qy.put K (j:=0) rfl (by simp) v1).trans (Qy.put (K.put 0 v1) (j:=1) (u:=.slice none 0 0) rfl (by simp) v2);exact⟨_,v1,v2,rfl,Xl,(K.put 0 v1).put 1 v2,(B.setCell Xl _).setCell Xl _,hv.keepS hk⟩
def Qa1(cs:List Qb)(w0 w:World)(kb mb:Nat)(hs:List Value)(tv:Value)(F:Asg Frm)(T:List Nat)(i:Nat)(f:Frm)(e:Ending)(w':World):Prop:=match F i with
 |none=>e=.returned (.bool true)/\∃tv',LK w0 w' kb mb hs tv' (F.put i f) (T++[i])/\zX w w' kb mb tv tv'
 |some was=>if zQ was f then (if Q1 cs was f=was then e=.returned (.bool true)/\LK w0 w' kb mb hs tv F T/\zX w w' kb mb tv tv
  else e=.returned (.bool true)/\∃tv',LK w0 w' kb mb hs tv' (F.put i (Q1 cs was f)) (T++[i])/\zX w w' kb mb tv tv') else e=.returned (.bool false)/\Below w0.heap.size w0 w'
set_option maxRecDepth 100000
theorem Zb7(l:List Qb)(B:Nat)(ws w0:World)(hm:Qw ws w0 B l)(w:World)(kb mb:Nat)(hs:List Value)(tv:Value)(F:Asg Frm)(T:List Nat)(h:LK w0 w kb mb hs tv F T)(h0:hs[0]? = some (.map (some B)))(i:Nat)(hi:i<=64)(f:Frm)(f1 f2:Value)(hf:zk w f1 f2 f)(hfs:zaD f)(hfr:zz (Za l) f=0)(hF:∀i f,F i=some f->zaD f/\zz (Za l) f=0)(hT:T.length<=1000000):
 Calls Tryz.prog 107 #[.pointer (some ⟨kb,0,none⟩),.int .i64 (i:Int),.agg #[f1,f2]] w (Qa1 (Za l) w0 w kb mb hs tv F T i f):=by
 have HA:Hid (∀(wx:World) (o:Obj),Below wx.heap.size wx (wx.alloc o)):=fun wx o=>Xb.alloc Xl o
 have HK1:=Xh (h.step (HA.out w (.cells #[f1,f2] 27)));have k1:=Blk.new w 27 [f1,f2];have c9:=HK1.out.cell9;obtain⟨lv,sv,hlv,hlk⟩:=HK1.out.map.look hi;have L1:=hlk (w.alloc (.cells #[f1,f2] 27)) true rfl;rw[ZV]at L1;unfold Qa1;cases hFi:F i with
 |none =>
  rw[hFi]at L1 hlv;dsimp only at hlv;obtain⟨rfl,rfl⟩:=hlv;dsimp only;clear hlk;go_enter Tryz.func107,Tryz.ntmps107;go_upto_region 7 with fail;have K2:=HK1.out.step (HA.out _ (.cells #[.slice none 0 0,.slice none 0 0] 27));have k2:=k1.step (HA.out _ (.cells #[.slice none 0 0,.slice none 0 0] 27));have hf2:=(hf.mono (HA.out w (.cells #[f1,f2] 27))).mono (HA.out _ (.cells #[.slice none 0 0,.slice none 0 0] 27));have P2:=Xh (zX.below (((HA.out w (.cells #[f1,f2] 27)).alloc (by simp) (.cells #[.slice none 0 0,.slice none 0 0] 27)).drew) kb mb tv);generalize (w.alloc (.cells #[f1,f2] 27)).alloc (.cells #[.slice none 0 0,.slice none 0 0] 27)=w2 at *;obtain⟨o,hr,K3⟩:=(K2.step (Xb.drew)).put hi f f1 f2 (hf2.mono (Xb.drew));have P3:=Xh (P2.out.trans (zX.put (K2.step (Xb.drew)) o));rw[ZV]at hr;have HT:=Xh hT;have d9:=K2.cell9;have d0:=k2.cell 0;have d1:=k2.cell 1;clear h K2 k1 L1 c9 HK1 k2 hf2 hf hT h0 hm P2;go_region
  go_upto_region 8 with fail;generalize setBlock w2.drew mb o=w3 at *;have K4:=K3.step (HA.out w3 (.cells #[ZV i] 3));have P4:=Xh (P3.out.trans (zX.below (HA.out w3 (.cells #[ZV i] 3)) kb mb tv));have e10:=K3.cell10;have e10':=K4.cell10;have z10:=K4.box.frozen 10;have hone:=ZaR w3 i 3;clear d9 d0 d1 hr P3;go_wp2_with (at_builtin;go_must (refine QM rfl _ _ rfl w0.heap.size _ T rfl K4.que K4.size i _ 1 rfl hone (by unfold maxLen;have:=HT.out;omega) (by have:=HT.out;omega) ?_);intro v5 w5 hq5 hg5 ho5;(have P5:=Xh (P4.out.trans (zX.todo K4 hg5 ho5)));(have K5:=K4.todo hg5 hq5);(have z5:=(K4.box.grown hg5 K4.nek).frozen 10);(have y5:=K4.cell10g hg5);obtain⟨a5,c5,rfl⟩:=zaN hq5)
  go_ret;have P5':=P5.out;rw[show(T++[i]).length=T.length+1 by simp]at K5 P5';exact⟨rfl,_,K5,P5'⟩
 |some was =>
  rw[hFi]at L1 hlv;dsimp only at hlv ⊢;obtain⟨hws,hwr⟩:=hF i was hFi;obtain⟨⟨p1,n1,rfl,_⟩,⟨p2,n2,rfl,_⟩⟩:=And.intro hlv.1.open hlv.2.open;have k2':=Blk.new (w.alloc (.cells #[f1,f2] 27)) 27 [.slice p1 was.locals.length n1,.slice p2 was.stack.length n2];have K2:=HK1.out.step (HA.out _ (.cells #[.slice p1 was.locals.length n1,.slice p2 was.stack.length n2] 27));have k2:=k1.step (HA.out _ (.cells #[.slice p1 was.locals.length n1,.slice p2 was.stack.length n2] 27));have hf2:=(hf.mono (HA.out w (.cells #[f1,f2] 27))).mono (HA.out _ (.cells #[.slice p1 was.locals.length n1,.slice p2 was.stack.length n2] 27));have hv2:=hlv.mono (HA.out _ (.cells #[.slice p1 was.locals.length n1,.slice p2 was.stack.length n2] 27));have B2:Below w.heap.size w ((w.alloc (.cells #[f1,f2] 27)).alloc (.cells #[.slice p1 was.locals.length n1,.slice p2 was.stack.length n2] 27)):=(Xb.alloc Xl _).alloc (by simp) _;obtain⟨w2,hw2⟩:∃w2,w2=(w.alloc (.cells #[f1,f2] 27)).alloc (.cells #[.slice p1 was.locals.length n1,.slice p2 was.stack.length n2] 27):=⟨_,rfl⟩;rw[<-hw2]at K2 k2 hf2 hv2 k2' B2;rw[World.size_alloc]at k2';have HW2:=Xh hw2.symm;clear hw2;have hm2:=hm.step (w':=w2) (Below.mono K2.below Xl);have HBo:Hid (∀wx,Below w2.heap.size w2 wx->_):=fun wx hb=>QcK ws wx B l (hm2.step hb) was f _ _ f1 f2 (hv2.mono hb) (hf2.mono hb) hws hfs hwr hfr
  have d0:=K2.cellh h0;have a0:=k2.cell 0;have a1:=k2.cell 1;have b0:=k2'.cell 0;have b1:=k2'.cell 1;have a0':=(k2.step (HA.out w2 (.cells #[.slice none 0 0,.slice none 0 0] 27))).cell 0;have a1':=(k2.step (HA.out w2 (.cells #[.slice none 0 0,.slice none 0 0] 27))).cell 1;have b0':=(k2'.step (HA.out w2 (.cells #[.slice none 0 0,.slice none 0 0] 27))).cell 0;have b1':=(k2'.step (HA.out w2 (.cells #[.slice none 0 0,.slice none 0 0] 27))).cell 1;have d0':=(K2.step (HA.out w2 (.cells #[.slice none 0 0,.slice none 0 0] 27))).cellh h0;have HK2:=Xh K2;have Hk2:=Xh k2;have Hk2':=Xh k2';have Hv2:=Xh hv2;have HB2:=Xh B2;have HNk:=Xh (And.intro h.box.lt (And.intro h.map.lt fun(g:Nat) hg=>(h.que.lt g hg).2));have HS:=Xh h.size;have HT:=Xh hT;have Hf:=Xh hf;clear hlk hf hlv hf2 hv2 B2 K2 k2 k2' h hfr hT HK1 k1 hm hm2;cases hsh:zQ was f with
  |true =>
   simp only[if_true];have HSh:=Xh hsh;clear hsh;go_enter Tryz.func107,Tryz.ntmps107;go_upto_region 3 with fail;rw[HW2.out];clear L1 c9;go_cut [9,10] (fun p b wx=>b=.bool true/\Qao w2 wx (Q1 (Za l) was f) p)
   case first =>
    have K9:=(Blk.new w2 27 [.slice none 0 0,.slice none 0 0]).step (Xb.drew);go_region_law (first
     |(go_simp;go_fit (HBo.out _ (Xb.drew));rintro e w3⟨hB3,⟨_,v1,v2,rfl,hv3⟩|⟨hz,_⟩⟩;rotate_left;(exact absurd (HSh.out.symm.trans hz) (by decide));obtain⟨⟨p3,n3,rfl,_⟩,⟨p4,n4,rfl,_⟩⟩:=And.intro hv3.1.open hv3.2.open)
     |(go_simp;go_fit (HBo.out _ ((HA.out _ _).drew));rintro e w3⟨hB3,⟨_,v1,v2,rfl,hv3⟩|⟨hz,_⟩⟩;rotate_left;(exact absurd (HSh.out.symm.trans hz) (by decide));obtain⟨⟨p3,n3,rfl,_⟩,⟨p4,n4,rfl,_⟩⟩:=And.intro hv3.1.open hv3.2.open;(have K10:=K9.step hB3);(have x0:=K10.cell 0);(have x1:=K10.cell 1);(have y0:=K10.frozen 0);(have y1:=K10.frozen 1)))
    all_goals (go_wp2_with fail;go_meet;first
     |exact⟨rfl,Qao.late (Qa (Xb.drew) Xl hB3) hv3⟩
     |exact⟨rfl,Qao.early (Qa (Xb.drew) Xl (by simpa using hB3)) hv3⟩)
   case rest =>
    obtain⟨rfl,nb,v1,v2,rfl,hnb,Kb,hBw,hFv⟩:=hcut;clear d0 a0 a1 b0 b1 a0' a1' b0' b1' d0' HBo;have K4:=HK2.out.step hBw;have k4:=Hk2.out.step hBw;have k4':=Hk2'.out.step hBw;have hv4:=Hv2.out.mono hBw;have P4:=Xh (zX.below (Qa HB2 Xl hBw) kb mb tv);have HSm:Hid (∀wx,Below wc.heap.size wc wx->_):=fun wx hb=>Qcf (Q1 (Za l) was f) was v1 v2 _ _ wx (hFv.mono hb) (hv4.mono hb)
    have HF4:=Xh hFv;obtain⟨⟨p3,n3,rfl,_⟩,⟨p4,n4,rfl,_⟩⟩:=And.intro hFv.1.open hFv.2.open;have g0:=Kb.cell 0;have g1:=Kb.cell 1;have b0:=k4'.cell 0;have b1:=k4'.cell 1;clear hv4 k4' hFv;have HKb:=Xh Kb;have HK4:=Xh K4;have Hk4:=Xh k4;clear Kb K4 k4;have HN1:Hid (∀s,f1≠.string s):=by
     obtain⟨q,c,e,_⟩:=Hf.out.1.open;exact fun s e'=>by rw[e]at e';cases e'
    have HN2:Hid (∀s,f2≠.string s):=by
     obtain⟨q,c,e,_⟩:=Hf.out.2.open;exact fun s e'=>by rw[e]at e';cases e'
    by_cases hEq:Q1 (Za l) was f=was
    ·have HEq:=Xh hEq;simp only[Xj hEq]at HSm;clear hEq;go_wp2_with (go_fit (HSm.out _ Xb);rintro e w5⟨rfl,hB5⟩)
     go_ret;exact⟨rfl,HK4.out.step hB5,P4.out.trans (zX.below hB5 kb mb tv)⟩
    ·have HEq:=Xh hEq;simp only[Xi hEq]at HSm;clear hEq;go_upto_region 7 with(go_fit (HSm.out _ Xb);rintro e w5⟨rfl,hB5⟩;(have Kb5:=HKb.out.step hB5);(have g50:=Kb5.cell 0);(have g51:=Kb5.cell 1);(have k5:=Hk4.out.step hB5);(have c50:=k5.cell 0);(have c51:=k5.cell 1);(have z50:=k5.frozen 0);(have z51:=k5.frozen 1);(have HK5:=Xh (HK4.out.step hB5));(have Hk5:=Xh k5);(have HF5:=Xh (HF4.out.mono hB5));(have P5:=Xh (P4.out.trans (zX.below hB5 kb mb tv))))
     have N1:kb≠w.heap.size:=Nat.ne_of_lt HNk.out.1;have N2:mb≠w.heap.size:=Nat.ne_of_lt HNk.out.2.1;have N3:tv.ownBlock≠some w.heap.size:=fun e=>Nat.lt_irrefl _ (HNk.out.2.2 _ e)
     have K6:=(HK5.out.other Hk5.out (j:=0) rfl HN1.out HS.out N1 N2 N3 (.slice p3 (Q1 (Za l) was f).locals.length n3)).other (Hk5.out.put 0 _) (j:=1) rfl HN2.out HS.out N1 N2 N3 (.slice p4 (Q1 (Za l) was f).stack.length n4);have P6:=Xh (zX.other (Hk5.out.put 0 _) (j:=1) rfl HN2.out Xl kb mb (zX.other Hk5.out (j:=0) rfl HN1.out Xl kb mb P5.out (.slice p3 (Q1 (Za l) was f).locals.length n3)) (.slice p4 (Q1 (Za l) was f).stack.length n4));have k6:=(Hk5.out.put 0 (.slice p3 (Q1 (Za l) was f).locals.length n3)).put 1 (.slice p4 (Q1 (Za l) was f).stack.length n4);have hf6:=HF5.out.keepS ((Qy.put Hk5.out (j:=0) rfl HN1.out (.slice p3 (Q1 (Za l) was f).locals.length n3)).trans (Qy.put (Hk5.out.put 0 _) (j:=1) rfl HN2.out (.slice p4 (Q1 (Za l) was f).stack.length n4)));clear N1 N2 N3 g50 g51 c50 c51 z50 z51 k5 Kb5 hB5 HKb HK4 Hk4 HK5 Hk5 HF5 HF4 P4 P5 HSm g0 g1 b0 b1 HN1 HN2;generalize (w5.setCell ⟨w.heap.size,0,none⟩ (.slice p3 (Q1 (Za l) was f).locals.length n3)).setCell ⟨w.heap.size,1,none⟩ (.slice p4 (Q1 (Za l) was f).stack.length n4)=w6 at *;obtain⟨o,hr,K3⟩:=(K6.step (Xb.drew)).put hi (Q1 (Za l) was f) _ _ (hf6.mono (Xb.drew));have P3:=Xh ((P6.out.trans (zX.below (Xb.drew) kb mb tv)).trans (zX.put (K6.step (Xb.drew)) o));rw[ZV]at hr;have d9:=K6.cell9;have d0:=k6.cell 0;have d1:=k6.cell 1;clear K6 k6 hf6 P6;go_region
     go_upto_region 8 with fail;generalize setBlock w6.drew mb o=w7 at *;have K7:=K3.step (HA.out w7 (.cells #[ZV i] 3));have P7:=Xh (P3.out.trans (zX.below (HA.out w7 (.cells #[ZV i] 3)) kb mb tv));have e10:=K3.cell10;have e10':=K7.cell10;have z10:=K7.box.frozen 10;have hone:=ZaR w7 i 3;clear d9 d0 d1 hr P3;go_wp2_with (at_builtin;go_must (refine QM rfl _ _ rfl w0.heap.size _ T rfl K7.que K7.size i _ 1 rfl hone (by unfold maxLen;have:=HT.out;omega) (by have:=HT.out;omega) ?_);intro v8 w8 hq8 hg8 ho8;(have P8:=Xh (P7.out.trans (zX.todo K7 hg8 ho8)));(have K8:=K7.todo hg8 hq8);(have z8:=(K7.box.grown hg8 K7.nek).frozen 10);(have y8:=K7.cell10g hg8);obtain⟨a8,c8,rfl⟩:=zaN hq8)
     go_ret;have P8':=P8.out;rw[show(T++[i]).length=T.length+1 by simp]at K8 P8';exact⟨rfl,_,K8,P8'⟩
  |false =>
   simp only[Bool.false_eq_true,if_false];have HSh:=Xh hsh;clear hsh;go_enter Tryz.func107,Tryz.ntmps107;go_upto_region 3 with fail;rw[HW2.out];clear L1 c9;go_cut [9,10] (fun _ b wx=>b=.bool false/\Below w0.heap.size w0 wx)
   case first =>
    have K9:=(Blk.new w2 27 [.slice none 0 0,.slice none 0 0]).step (Xb.drew);go_region_law (first
     |(go_simp;go_fit (HBo.out _ (Xb.drew));rintro e w3⟨hB3,⟨hz,_⟩|⟨_,rfl⟩⟩;(exact absurd (HSh.out.symm.trans hz) (by decide)))
     |(go_simp;go_fit (HBo.out _ ((HA.out _ _).drew));rintro e w3⟨hB3,⟨hz,_⟩|⟨_,rfl⟩⟩;(exact absurd (HSh.out.symm.trans hz) (by decide));(have K10:=K9.step hB3);(have x0:=K10.cell 0);(have x1:=K10.cell 1);(have y0:=K10.frozen 0);(have y1:=K10.frozen 1)))
    all_goals (go_wp2_with fail;go_meet;first
     |exact⟨rfl,(Qa HK2.out.below Xl (Qa (Xb.drew) Xl hB3)).alloc (Xf HK2.out.size hB3.size) _⟩
     |exact⟨rfl,((Qa HK2.out.below Xl (Qa (w:=w2) ((Xb.alloc Xl _).drew) Xl hB3)).setCell HK2.out.size _).setCell HK2.out.size _⟩)
   case rest =>
    obtain⟨rfl,hB⟩:=hcut;clear d0 a0 a1 b0 b1 a0' a1' b0' b1' d0' HBo;go_wp2_with fail;go_ret;exact⟨rfl,hB⟩
set_option maxRecDepth 512
end Go.Proofs.YtlmfmioljeppfaaGreatDoor
