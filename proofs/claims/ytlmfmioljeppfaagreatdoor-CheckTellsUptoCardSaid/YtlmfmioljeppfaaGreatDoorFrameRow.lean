/- Lemmas; conditions: as each states. -/
import Derived.Test.YtlmfmioljeppfaaGreatDoorRefStep
import Derived.Test.YtlmfmioljeppfaaGreatDoorRefAfter
set_option maxHeartbeats 4000000
namespace Go.Proofs.YtlmfmioljeppfaaGreatDoor
open Go.RowKit Go.Shelf Go.Lib
theorem zc4{l:List Qb}(h:Qj l){x:Str}{d:Qb}(hd:Qc (Za l) x=some d):(∀a∈d.faces,(qh (Za l) a).face=true)/\(d.face=true->d.super=Zg)/\(d.super.size=0->x=Zg):=by
 have hm:d∈Za l:=List.mem_of_find?_eq_some hd;have hc:qh (Za l) x=d:=by unfold qh;rw[hd];rfl
 have h0:d.super.size=0->x=Zg:=fun hs=>h.top (by rw[hd];rfl) (by rw[hc];exact hs)
 unfold Za at hm;rcases List.mem_cons.1 hm with rfl|hm
 ·exact⟨(fun a ha=>by cases ha),(fun hf=>by cases hf),h0⟩
 ·rcases List.mem_cons.1 hm with rfl|hm
  ·exact⟨(fun a ha=>by cases ha),(fun hf=>by cases hf),h0⟩
  ·have hj:=h.joined d hm;obtain⟨_,g2⟩:=ZaS hj;refine⟨fun a ha=>?_,fun hf=>?_,h0⟩
   ·obtain⟨c,e1,e2⟩:=qav (g2 a ha);unfold qh;rw[e1];exact e2
   ·have hl:=h.face_line (c:=x) (by rw[hd];rfl) (by rw[hc];exact hf);by_cases hs:d.super.size=0
    ·have:=h0 hs;subst this;rw[Qj.line_top (by rw[hc];exact hs)]at hl;cases hl
    ·rw[h.line_up (by rw[hd];rfl) (by rw[hc];exact hs),hc]at hl;injection hl with _ hl
     have:=zal (cs:=Za l) d.super;rw[hl]at this;exact List.mem_singleton.1 this
theorem Zc4{l:List Qb}(h:Qj l){c:Str}(hk:(Qc (Za l) c).isSome=true):ZL (Qk (Za l) c) zC=ZL (Zq (Za l) c) zC:=by
 have hiff:zC∈Qk (Za l) c↔zC∈Zq (Za l) c:=by
  refine⟨fun hm=>?_,zb4 h hk⟩;obtain⟨_,_,_,g4⟩:=Qn h.closed hk;have:=g4 (fun x=>(Qc (Za l) x).isSome=true/\((qh (Za l) x).face=true\/x=Zg\/x∈Zq (Za l) c)) (fun x ⟨hx,hs⟩ a ha=>by
   refine⟨h.closed x hx a ha,?_⟩;obtain⟨d,hd⟩:=Option.isSome_iff_exists.1 hx;obtain⟨f1,f2,f3⟩:=zc4 h hd;have hc:qh (Za l) x=d:=(by unfold qh;rw[hd];rfl);have hab:Qo (Za l) x=if d.super.size=0 then d.faces else d.super::d.faces:=(by unfold Qo;rw[hd];rfl);rw[hab]at ha;split at ha
   ·exact Or.inl (f1 a ha)
   ·rename_i h0;rcases List.mem_cons.1 ha with rfl|ha
    ·rcases hs with hs|rfl|hs
     ·rw[hc]at hs;exact Or.inr (Or.inl (f2 hs))
     ·have e:d=qh (Za l) Zg:=hc.symm;rw[e]at h0;exact absurd rfl h0
     ·exact Or.inr (Or.inr (h.tree.trans c x _ hk hs ((h.line_mem hx).2 (Or.inr ⟨by rw[hc];exact h0,by rw[hc];exact zal _⟩))))
    ·exact Or.inl (f1 a ha)) ⟨hk,Or.inr (Or.inr (zal c))⟩ zC hm
  rcases this.2 with hs|hs|hs
  ·exact absurd hs (by rw[show(qh (Za l) zC).face=false from rfl];decide)
  ·exact absurd hs (by decide)
  ·exact hs
 cases h1:ZL (Qk (Za l) c) zC<;>cases h2:ZL (Zq (Za l) c) zC
 ·rfl
 ·have:=qx.2 (hiff.2 (qx.1 h2));rw[h1]at this;cases this
 ·have:=qx.2 (hiff.1 (qx.1 h1));rw[h2]at this;cases this
 ·rfl
theorem qc4{l:List Qb}(h:Qj l)(hcf:∀c∈l,qd c=0)(c:Str):Zad (Za l) c=((Qc (Za l) c).isSome&&ZL (Zq (Za l) c) zC):=by
 have e1:Zo (Zd c)=.ty (.cl c):=qz (Zbg c).symm;have e2:Zo (Zd zC)=.ty (.cl zC):=qz (Zbg zC).symm;unfold Zad;rw[e1,e2];cases hs:(Qc (Za l) c).isSome with
 |true =>
  rw[Zal hcf hs,<-Zc4 h hs];rfl
 |false =>
  rw[Bool.false_and,Bool.and_eq_false_iff];refine Or.inl (beq_eq_false_iff_ne.2 fun hz=>?_);have:=QS hz;rw[e1]at this;have h2:(Qc (Za l) c).isSome=true:=this.2;rw[hs]at h2;cases h2
theorem Qcl:(Tryz.prog.info? 112).map (fun i=>(i.zero,i.size,i.bytes))=some (some (.agg #[.int .i64 0,.slice none 0 0,.slice none 0 0]),3,56):=by kernel_rfl
def ZbE(w:World)(r:Option (List (Nat×Frm)))(e:Ending)(w':World):Prop:=Below w.heap.size w w'/\match r with
 |none=>e=.returned (.tuple #[.slice none 0 0,.bool false])
 |some t=>∃v ys,e=.returned (.tuple #[v,.bool true])/\zZ 112 w' (w.heap.size+2) v t.length ys/\qI w' t ys
structure EX (w wx:World) (mv:List Value) (f1 f2:Value):Prop where
 below:Below w.heap.size w wx
 mth:Blk wx w.heap.size 53 mv
 frm:Blk wx (w.heap.size+1) 27 [f1,f2]
theorem EX.step{w wx wy:World}{mv:List Value}{f1 f2:Value}(h:EX w wx mv f1 f2)(hb:Below wx.heap.size wx wy):EX w wy mv f1 f2:=⟨Qa h.below Xl hb,h.mth.step hb,h.frm.step hb⟩
theorem EX.grown{w wx wy:World}{mv:List Value}{f1 f2:Value}{r:Option Nat}(h:EX w wx mv f1 f2)(hg:wx.grownBy wy r)(hr:∀g,r=some g->w.heap.size+2<=g):EX w wy mv f1 f2 :=
 ⟨h.below.grown hg h.below.size (fun g e=>by have:=hr g e;omega),h.mth.grown hg (fun e=>by have:=hr _ e;omega),h.frm.grown hg (fun e=>by have:=hr _ e;omega)⟩
theorem EX.lt{w wx:World}{mv:List Value}{f1 f2:Value}(h:EX w wx mv f1 f2):w.heap.size+2<=wx.heap.size:=h.frm.lt
theorem Zb4{cs:List Qb}{i:Nat}{f:Frm}{hs:List Q0}{j:Nat}{h:Q0}(hj:hs[j]? = some h):ZF cs i f (hs.drop j)=if h.lo<=(i:Int)/\(i:Int)<h.hi then (if Zad cs h.cls then (ZF cs i f (hs.drop (j+1))).map fun t=>(h.dest.toNat,⟨f.locals,[Zd h.cls]⟩)::t else none) else ZF cs i f (hs.drop (j+1)):=by
 obtain⟨hk,rfl⟩:=List.getElem?_eq_some_iff.1 hj;rw[List.drop_eq_getElem_cons hk];rfl
def ZaV(wx:World)(mb fb b0 o:Nat)(cv u v:Value)(x:Ins):Prop:=wx.cell? ⟨mb,6,none⟩=some cv/\wx.cell? ⟨fb,0,none⟩=some u/\wx.cell? ⟨fb,1,none⟩=some v/\wx.cell? ⟨b0,o,none⟩=some (.int .i64 x.op)/\wx.cell? ⟨b0,o+1,none⟩=some (.int .i64 x.a)/\wx.cell? ⟨b0,o+1+1,none⟩=some (.int .i64 x.b)/\wx.cell? ⟨b0,o+1+1+1,none⟩=some (.string x.type)/\wx.cell? ⟨b0,o+1+1+1+1,none⟩=some (.string x.cls)/\wx.cell? ⟨b0,o+1+1+1+1+1,none⟩=some (.string x.name)
theorem ZaV.step{w w':World}{mb fb b0 o:Nat}{cv u v:Value}{x:Ins}(h:ZaV w mb fb b0 o cv u v x)(hb:Below w.heap.size w w'):ZaV w' mb fb b0 o cv u v x:=by
 obtain⟨k0,k1,k2,k3,k4,k5,k6,k7,k8⟩:=h;exact⟨(hb.cell (Zl k0)).trans k0,(hb.cell (Zl k1)).trans k1,(hb.cell (Zl k2)).trans k2,(hb.cell (Zl k3)).trans k3,(hb.cell (Zl k4)).trans k4,(hb.cell (Zl k5)).trans k5,(hb.cell (Zl k6)).trans k6,(hb.cell (Zl k7)).trans k7,(hb.cell (Zl k8)).trans k8⟩
theorem ZaV.other{w:World}{mb fb b0 o:Nat}{cv u v:Value}{x:Ins}(h:ZaV w mb fb b0 o cv u v x){c:Nat}(n1:mb<c)(n2:fb<c)(n3:b0<c)(p q:Value):ZaV ((w.setCell ⟨c,0,none⟩ p).setCell ⟨c,1,none⟩ q) mb fb b0 o cv u v x:=by
 obtain⟨k0,k1,k2,k3,k4,k5,k6,k7,k8⟩:=h;have m1:=Nat.ne_of_lt n1;have m2:=Nat.ne_of_lt n2;have m3:=Nat.ne_of_lt n3;exact⟨(zp (a:=⟨mb,_,none⟩) m1 _ _).trans k0,(zp (a:=⟨fb,_,none⟩) m2 _ _).trans k1,(zp (a:=⟨fb,_,none⟩) m2 _ _).trans k2,(zp (a:=⟨b0,_,none⟩) m3 _ _).trans k3,(zp (a:=⟨b0,_,none⟩) m3 _ _).trans k4,(zp (a:=⟨b0,_,none⟩) m3 _ _).trans k5,(zp (a:=⟨b0,_,none⟩) m3 _ _).trans k6,(zp (a:=⟨b0,_,none⟩) m3 _ _).trans k7,(zp (a:=⟨b0,_,none⟩) m3 _ _).trans k8⟩
def Qc4(so:Nat)(w6 wy:World)(v:Value):Prop:=(∀b,so<=b->b<w6.heap.size->wy.heap[b]? = w6.heap[b]?)/\(∀g,v.ownBlock=some g->g<so\/w6.heap.size<=g)/\Qy w6 wy/\w6.heap.size<=wy.heap.size
theorem Qc4.cell{so:Nat}{w6 wy:World}{v:Value}(h:Qc4 so w6 wy v){a:Addr}(h1:so<=a.block)(h2:a.block<w6.heap.size):wy.cell? a=w6.cell? a:=World.cell?_of_block (h.1 _ h1 h2)
theorem Qc4.grown{so:Nat}{w6 wy wz w9:World}{v v9:Value}(h:Qc4 so w6 wy v)(hb:Below wy.heap.size wy wz)(hg:wz.grownBy w9 v.ownBlock)(hs:Qy wz w9)(ho:∀g,v9.ownBlock=some g->v.ownBlock=some g\/wz.heap.size<=g):Qc4 so w6 w9 v9:=by
 obtain⟨h1,h2,h3,h4⟩:=h;have hsz:=hb.size;refine⟨fun b hb1 hb2=>?_,fun g e=>?_,(h3.trans (Qy.below hb)).trans hs,Xf h4 (Xf hsz hg.size)⟩
 ·rw[hg.block b (by omega) (fun e=>by have:=h2 b e.symm;omega),hb.block b (by omega)];exact h1 b hb1 hb2
 ·rcases ho g e with e|e
  ·exact h2 g e
  ·exact Or.inr (by omega)
set_option maxRecDepth 100000
theorem zcy(l:List Qb)(lv:Value)(hR:Qj l)(hcf:∀c∈l,qd c=0)(w:World)(hlv:qi w lv l)(cls g:Str)(m:Zk)(pc ph:Option Addr)(kc kh:Nat)(hcv:Qg w 6 qy (.slice pc m.code.length kc) m.code)(hhv:Qg w 4 qw (.slice ph m.handlers.length kh) m.handlers)(hc:qp m.code=0)(hh:Zm m.handlers m.code.length=0)(hio:∀x∈m.code,QaK x)(hgs:g.size<=maxLen)(i:Nat)(hin:i<m.code.length)(f:Frm)(f1 f2:Value)(hf:zk w f1 f2 f)(hfr:zz (Za l) f=0):
 Calls Tryz.prog 59 #[lv,.string cls,.string g,.agg #[.string m.name,.string m.type,.bool m.static,.bool m.abs,.bool m.priv,.int .i64 m.locals,.slice pc m.code.length kc,.slice ph m.handlers.length kh],.int .i64 (i:Int),.agg #[f1,f2]] w (ZbE w (Z1 (Za l) cls g m i f)):=by
 have HA:Hid (∀(wx:World) (o:Obj),Below wx.heap.size wx (wx.alloc o)):=fun wx o=>Xb.alloc Xl o
 have HLv:=Xh hlv;obtain⟨pl,cap,rfl,hpo⟩:=hlv.open;clear hpo;obtain⟨⟨p1,n1,rfl,hz1⟩,⟨p2,n2,rfl,hz2⟩⟩:=And.intro hf.1.open hf.2.open;clear hz1 hz2;obtain⟨mv,hmv⟩:∃mv:List Value,mv=[.string m.name,.string m.type,.bool m.static,.bool m.abs,.bool m.priv,.int .i64 m.locals,.slice pc m.code.length kc,.slice ph m.handlers.length kh]:=⟨_,rfl⟩;have K0:=Blk.new w 53 [.string m.name,.string m.type,.bool m.static,.bool m.abs,.bool m.priv,.int .i64 m.locals,.slice pc m.code.length kc,.slice ph m.handlers.length kh];have K1:=Blk.new (w.alloc (.cells #[.string m.name,.string m.type,.bool m.static,.bool m.abs,.bool m.priv,.int .i64 m.locals,.slice pc m.code.length kc,.slice ph m.handlers.length kh] 53)) 27 [.slice p1 f.locals.length n1,.slice p2 f.stack.length n2];have B1:Below w.heap.size w ((w.alloc (.cells #[.string m.name,.string m.type,.bool m.static,.bool m.abs,.bool m.priv,.int .i64 m.locals,.slice pc m.code.length kc,.slice ph m.handlers.length kh] 53)).alloc (.cells #[.slice p1 f.locals.length n1,.slice p2 f.stack.length n2] 27)):=(Xb.alloc Xl _).alloc (by simp) _;replace K0:=K0.step (HA.out _ (.cells #[.slice p1 f.locals.length n1,.slice p2 f.stack.length n2] 27));rw[World.size_alloc]at K1;obtain⟨w1,hw1⟩:∃w1,w1=(w.alloc (.cells #[.string m.name,.string m.type,.bool m.static,.bool m.abs,.bool m.priv,.int .i64 m.locals,.slice pc m.code.length kc,.slice ph m.handlers.length kh] 53)).alloc (.cells #[.slice p1 f.locals.length n1,.slice p2 f.stack.length n2] 27):=⟨_,rfl⟩;rw[<-hw1]at K0 K1 B1;rw[<-hmv]at K0;have HW:=Xh hw1.symm;have HE1:Hid (EX w w1 mv (.slice p1 f.locals.length n1) (.slice p2 f.stack.length n2)):=⟨B1,K0,K1⟩;have Hmv:=Xh hmv;have HRi:=Xh hR;have Hcf:=Xh hcf;have Hcv:=Xh hcv;have Hhv:=Xh hhv;have HCo:=Xh (Z2 hc);have HHo:=Xh (Zai hh);have Hio:=Xh hio;have Hf:=Xh hf;have Hfr:=Xh hfr;have hlen8:m.handlers.length<=8:=(Zai hh).1;have hi40:i<=40:=by have:=(Z2 hc).small;omega
 obtain⟨R,hRr⟩:∃R,ZF (Za l) i f m.handlers=R:=⟨_,rfl⟩;have HRr:=Xh hRr;have HEd:Hid (Z1 (Za l) cls g m i f=R.bind fun a=>(QX (Za l) cls g m.code i f).map fun b=>a++b):=by
  unfold Hid Z1;rw[hRr]
 have HCl:Hid (∀wx (n:Str),Below w.heap.size w wx->_):=fun wx n hb=>QA l (.slice pl l.length cap) n wx (hlv.mono hb)
 have HSu:Hid (∀wx (n:Str),Below w.heap.size w wx->(Qc (Za l) n).isSome=true->_):=fun wx n hb hk=>Qad l (.slice pl l.length cap) hR _ n wx (hlv.mono hb) hk Xl
 have HFb:Hid (∀c:Str,_):=fun c=>qc4 hR hcf c
 unfold qaj at HSu;unfold qJ at HCl;have HTh:Hid (∀wx (c:Str),c.size<=4194304->_):=fun wx c hc=>qaD c wx hc
 have HIn:Hid (∀wx v (l:List Str),Qh wx v l->_):=fun wx v l h=>qbk l v zC wx h
 clear hlv hf hmv hw1 hR hcf hcv hhv hc hh hio hfr hRr K0 K1 B1;go_enter Tryz.func59,Tryz.ntmps59;go_upto_region 1 with fail;rw[HW.out];go_wp2_with fail;go_loopw [14,15] (fun v x wr=>∃(j:Nat) (T:List (Nat×Frm)) (ys:List Value),j<=m.handlers.length/\x=.int .i64 j/\T.length<=j/\Hid (EX w wr mv (.slice p1 f.locals.length n1) (.slice p2 f.stack.length n2))/\Hid (zZ 112 wr (w.heap.size+2) v T.length ys)/\Hid (qI wr T ys)/\Hid ((ZF (Za l) i f (m.handlers.drop j)).map (fun t=>T++t)=R)) (fun _ x _=>m.handlers.length-(intOf x).toNat)
 case atStart=>exact⟨0,[],[],Nat.zero_le _,rfl,Xl,HE1,zZ.empty _ _ _,rfl,by
  have:=HRr.out;unfold Hid;rw[List.drop_zero,this];cases R<;>rfl⟩
 case round =>
  obtain⟨j,T,ys,hj,rfl,hTj,hE,hRow,hV,hI⟩:=hrel;obtain⟨va,vc,rfl⟩:=hRow.out.shape;have d7:=hE.out.mth.cell 7;rw[Hmv.out]at d7;replace d7:=show _=some (Value.slice ph m.handlers.length kh) from d7
  by_cases hjl:j<m.handlers.length
  ·obtain⟨h,hx⟩:∃x,m.handlers[j]? = some x:=⟨m.handlers[j],by simp[hjl]⟩;obtain⟨b0,o,cap0,vs,e',hhv2,hvl,qc⟩:=Hhv.out.at hjl;injection e' with e1 _ e2
   subst e1 e2;rw[show m.handlers[j]=h from Option.some.inj ((Xn hjl).symm.trans hx)]at hhv2;unfold qw at hhv2;subst hhv2;have qc:=qc.mono hE.out.below qc.lt;have Zc:=Zb4 (cs:=Za l) (i:=i) (f:=f) hx;obtain⟨_,_,ho3,ho4,ho5⟩:=HHo.out.2 h (Xe hx);obtain⟨lo,hi',dest,hcls⟩:=h;dsimp only at Zc ho3 ho4 ho5;obtain⟨d,rfl⟩:=Int.eq_ofNat_of_zero_le ho3;rw[Int.toNat_natCast]at Zc;obtain⟨c0,c1,c2,c3,_⟩:=qc;have Ba:=HA.out wr (.cells #[.int .i64 lo,.int .i64 hi',.int .i64 (d:Int),.string hcls] 126);have kh2:=Blk.new wr 126 [.int .i64 lo,.int .i64 hi',.int .i64 (d:Int),.string hcls];have HEa:=Xh (hE.out.step Ba);have HRowa:=Xh (hRow.out.below Ba);have HRlt:=Xh (hRow.out.lt);have HVa:=Xh (hV.out.keepS (Qy.below Ba));have HIa:=hI.out;rw[Zc]at HIa;have hjI:(j:Int)<(m.handlers.length:Int):=(by omega);have hj0:(0:Int)<=(j:Int):=Int.natCast_nonneg _;have hcs:=qb4 ho5;clear hx hvl ho3 ho4 ho5 Zc hI hE hRow hV;go_upto_region 6 with fail;obtain⟨wh,hwh⟩:∃wh,wh=wr.alloc (.cells #[.int .i64 lo,.int .i64 hi',.int .i64 (d:Int),.string hcls] 126):=⟨_,rfl⟩;rw[<-hwh]at kh2 HEa HRowa HVa Ba;rw[<-hwh];have y0:=kh2.cell 0;have y1:=kh2.cell 1;have y2:=kh2.cell 2;have y3:=kh2.cell 3;have Hkh:=Xh kh2;clear c0 c1 c2 c3 kh2 Ba hwh d7;by_cases hrg:lo<=(i:Int)/\(i:Int)<hi'
   ·rw[if_pos hrg]at HIa;obtain⟨g1,g2⟩:=hrg;have g1':¬(i:Int)<lo:=(by omega);have g2':¬hi'<=(i:Int):=(by omega);have HClh:=Xh (HCl.out wh hcls HEa.out.below);have Hfb:=Xh (HFb.out hcls);have Hx2:=Xh hcs;cases hs:(Qc (Za l) hcls).isSome with
    |false =>
     rw[hs]at HClh;have hfb:Zad (Za l) hcls=false:=(by rw[Hfb.out,hs];rfl);rw[hfb,if_neg (by decide)]at HIa;have HR0:Hid (R=none):=HIa.symm;clear hs hfb HIa;go_wp2_with (first
      |(go_fit (HClh.out);rintro e w5⟨pf,kf,pd,kd,pm,km,rfl,_,_,_,hB5,_⟩))
     exact bodyPost_ret (v:=.tuple #[.slice none 0 0,.bool false]) (by simp[results,Tryz.results59,go_sem, *]) rfl (by
      rw[HEd.out,HR0.out];exact⟨(Qa HEa.out.below Xl hB5).alloc (Xf HEa.out.below.size hB5.size) _,rfl⟩)
    |true =>
     rw[hs]at HClh;have HSuh:Hid (∀wx,Below wh.heap.size wh wx->_):=fun wx hb=>HSu.out wx hcls (Qa HEa.out.below Xl hb) hs
     have Hfb2:Hid (Zad (Za l) hcls=ZL (Zq (Za l) hcls) zC):=by
      unfold Hid;rw[Hfb.out,hs];rfl
     clear hs;obtain⟨bm,hbm⟩:∃bm,ZL (Zq (Za l) hcls) zC=bm:=⟨_,rfl⟩;have HInl:Hid (∀wx v,Qh wx v (Zq (Za l) hcls)->Calls Tryz.prog 38 #[v,.string ⟨#[70,97,117,108,116]⟩] wx fun e w'=>e=.returned (.bool bm)/\wx=w'):=fun wx v h=>by
      rw[<-hbm];exact HIn.out wx v _ h
     rw[hbm]at Hfb2;clear hbm;rw[Hfb2.out]at HIa;go_upto_region 8 with(first
      |(go_fit (HClh.out);rintro e w5⟨pf,kf,pd,kd,pm,km,rfl,_,_,_,hB5,_⟩))
     have hB6:Below wh.heap.size wh (w5.alloc (.cells #[.string ((Qc (Za l) hcls).getD zg).name,.string ((Qc (Za l) hcls).getD zg).super,.slice pf ((Qc (Za l) hcls).getD zg).faces.length kf,.bool ((Qc (Za l) hcls).getD zg).face,.slice pd ((Qc (Za l) hcls).getD zg).fields.length kd,.slice pm ((Qc (Za l) hcls).getD zg).methods.length km] 36)):=hB5.alloc hB5.size _;generalize (w5.alloc (.cells #[.string ((Qc (Za l) hcls).getD zg).name,.string ((Qc (Za l) hcls).getD zg).super,.slice pf ((Qc (Za l) hcls).getD zg).faces.length kf,.bool ((Qc (Za l) hcls).getD zg).face,.slice pd ((Qc (Za l) hcls).getD zg).fields.length kd,.slice pm ((Qc (Za l) hcls).getD zg).methods.length km] 36))=w6 at *;have HB6:=Xh hB6;have Hkh6:=Xh (Hkh.out.step hB6);clear y0 y1 y2 y3 hB5 hB6;have y0:=Hkh6.out.cell 0;have y3:=Hkh6.out.cell 3;cases bm with
     |false =>
      have HR0:Hid (R=none):=HIa.symm;clear HIa;go_wp2_with (first
       |(go_fit (HSuh.out _ HB6.out);rintro e w7⟨⟨v7,rfl,ho7⟩,hB7⟩;(have HB7:=Xh (Qa HB6 Xl hB7));(have HS7:=Xh (Ze ho7));clear ho7)
       |(go_fit (HInl.out _ _ HS7.out);rintro e w8⟨rfl,rfl⟩))
      exact bodyPost_ret (v:=.tuple #[.slice none 0 0,.bool false]) (by simp[results,Tryz.results59,go_sem, *]) rfl (by
       rw[HEd.out,HR0.out];exact⟨Qa HEa.out.below Xl HB7.out,rfl⟩)
     |true =>
      rw[if_pos rfl]at HIa;have HI3:Hid ((ZF (Za l) i f (m.handlers.drop (j+1))).map (fun t=>(T++[(d,(⟨f.locals,[Zd hcls]⟩:Frm))])++t)=R):=by
       unfold Hid;rw[<-HIa];cases ZF (Za l) i f (m.handlers.drop (j+1)) with
       |none=>rfl
       |some t=>simp
      clear HIa;go_upto_region 10 with(first
       |(go_fit (HSuh.out _ HB6.out);rintro e w7⟨⟨v7,rfl,ho7⟩,hB7⟩;(have HB7:=Xh (Qa HB6 Xl hB7));(have HS7:=Xh (Ze ho7));clear ho7)
       |(go_fit (HInl.out _ _ HS7.out);rintro e w8⟨rfl,rfl⟩))
      clear y0 y3 hB7;have HE7:=Xh (HEa.out.step HB7.out);have HRow7:=Xh (HRowa.out.below HB7.out);have HV7:=Xh (HVa.out.keepS (Qy.below HB7.out));have Hkh7:=Hkh.out.step HB7.out;have y2:=Hkh7.cell 2;have y3:=Hkh7.cell 3;have x0:=HE7.out.frm.cell 0;have HThc:Hid (∀wx,_):=fun wx=>HTh.out wx hcls (Xf Hx2.out (by decide))
      clear Hkh7;have BA:=((Below.refl w7.heap.size w7).drew).alloc (by exact Xl) (.cells #[.string (Zd hcls)] 9);have BB:=BA.alloc BA.size (.cells #[.int .i64 (d:Int),.slice p1 f.locals.length n1,.slice (some ⟨w7.heap.size,0,none⟩) 1 1] 112);have hRowB:=HRow7.out.below BB;have hbs:=(HE7.out.step BB).lt;have HEB:=Xh (HE7.out.step BB);have HVB:=Xh (HV7.out.keepS (Qy.below BB));have hSB:Hid (Qh (((w7.drew.alloc (.cells #[.string (Zd hcls)] 9)).alloc (.cells #[.int .i64 (d:Int),.slice p1 f.locals.length n1,.slice (some ⟨w7.heap.size,0,none⟩) 1 1] 112))) (.slice (some ⟨w7.heap.size,0,none⟩) 1 1) [Zd hcls]):=(Zt w7.drew (Zd hcls)).mono (HA.out _ _);have hFB:=Xh (Hf.out.1.mono (Qa HE7.out.below Xl BB));have hone:∀u∈[Value.int .i64 (d:Int),.slice p1 f.locals.length n1,.slice (some ⟨w7.heap.size,0,none⟩) 1 1],u.oneCell'=true:=fun u hu=>by
       simp at hu;rcases hu with rfl|rfl|rfl<;>rfl
      have hcel:∀(k:Nat) (u:Value),[Value.int .i64 (d:Int),.slice p1 f.locals.length n1,.slice (some ⟨w7.heap.size,0,none⟩) 1 1][k]? = some u->((w7.drew.alloc (.cells #[.string (Zd hcls)] 9)).alloc (.cells #[.int .i64 (d:Int),.slice p1 f.locals.length n1,.slice (some ⟨w7.heap.size,0,none⟩) 1 1] 112)).cell? ((⟨w7.heap.size+1,0,none⟩:Addr).add k)=some u:=fun k u hu=>by
       have:=(Blk.new (w7.drew.alloc (.cells #[.string (Zd hcls)] 9)) 112 [Value.int .i64 (d:Int),.slice p1 f.locals.length n1,.slice (some ⟨w7.heap.size,0,none⟩) 1 1]).cell k;rw[World.size_alloc]at this;rw[zaR rfl,Nat.zero_add];exact this.trans hu
      have h63:T.length+1<=maxLen:=(by unfold maxLen;omega);have h56:(T.length+1)*56<=140737488355328:=(by omega);have Hone:=Xh hone;have Hcel:=Xh hcel;have HkB:=Xh ((Hkh.out.step HB7.out).step BB);clear BA BB hone hcel;go_region_held3 (fun w'=>w'.cell? ⟨wr.heap.size,2,none⟩=some (.int .i64 (d:Int))/\w'.cell? ⟨wr.heap.size,3,none⟩=some (.string hcls)/\w'.cell? ⟨w.heap.size+1,0,none⟩=some (.slice p1 f.locals.length n1))
       (first|go_keep)
       (first
        |(go_fit (HThc.out _);rintro e w5⟨rfl,rfl⟩)
        |(refine QaM Tryz.underlying108 Qcl (by rfl) _ _ (by rfl) (w.heap.size+2) _ T.length ys (by rfl) hRowB hbs (.int .i64 (d:Int)) (.slice p1 f.locals.length n1) (.slice (some ⟨w7.heap.size,0,none⟩) 1 1) ⟨w7.heap.size+1,0,none⟩ 1 (by rfl) Hcel.out Hone.out (by simp[qar]) h63 h56 ?_;intro v9 w9 hR9 hg9 _;(have HR9:=Xh hR9);(have Hg9:=Xh hg9);(have HE9:=Xh (HEB.out.grown hg9 (fun g e=>(hRowB.lt g e).1)));(have kh9:=HkB.out.grown hg9 (fun e=>by have:=(HRlt.out _ e);omega));(have y2:=kh9.cell 2);(have y3:=kh9.cell 3);(have x0:=HE9.out.frm.cell 0);(have HS9:=Xh (hRowB.keepS hg9));clear hR9 hg9 kh9))
      all_goals
       clear y2 y3 x0;go_wp2_with fail;go_roundw;case rel =>
        refine⟨j+1,T++[(d,(⟨f.locals,[Zd hcls]⟩:Frm))],_,by omega,by simp,by rw[List.length_append];show _+1<=_;omega,HE9,?_,qI.snoc ⟨HS9.out.strs hFB.out,HS9.out.strs hSB.out⟩ (HVB.out.keepS HS9.out),HI3⟩;unfold Hid;rw[List.length_append];exact HR9.out
       case measure=>simp[intOf];omega
   ·rw[if_neg hrg]at HIa;have HI2:=Xh HIa;by_cases h1:lo<=(i:Int)
    ·have h2:¬(i:Int)<hi':=fun h2=>hrg ⟨h1,h2⟩
     have h1':¬(i:Int)<lo:=(by omega);have h2':hi'<=(i:Int):=(by omega);clear hrg HIa;go_wp2_with fail;go_roundw;case rel=>exact⟨j+1,T,ys,by omega,by simp,by omega,HEa,HRowa,HVa,HI2⟩
     case measure=>simp[intOf];omega
    ·have h1':(i:Int)<lo:=(by omega);clear hrg HIa;go_wp2_with fail;go_roundw;case rel=>exact⟨j+1,T,ys,by omega,by simp,by omega,HEa,HRowa,HVa,HI2⟩
     case measure=>simp[intOf];omega
  ·obtain rfl:j=m.handlers.length:=(by omega);have HRT:Hid (R=some T):=by
    have:=hI.out;rw[List.drop_length]at this;unfold Hid;rw[<-this];show some (T++[])=some T
    rw[List.append_nil]
   obtain⟨x,hx⟩:∃x,m.code[i]? = some x:=⟨m.code[i],by simp[hin]⟩;have hxm:=Xe hx;have HQ:Hid (Z1 (Za l) cls g m i f=(zq (Za l) cls g x f.locals f.stack).map fun p=>T++(qay x i).map fun k=>(k,⟨p.1,p.2⟩)):=by
    unfold Hid;rw[HEd.out,HRT,Option.bind_some];unfold QX;rw[hx];dsimp only;cases zq (Za l) cls g x f.locals f.stack<;>rfl
   obtain⟨b0,o,cap0,vs,e,hxv,hvl,qc⟩:=Hcv.out.at hin;injection e with e1 _ e2
   subst e1 e2;rw[show m.code[i]=x from Option.some.inj ((Xn hin).symm.trans hx)]at hxv;unfold qy at hxv;subst hxv;have qc:=qc.mono hE.out.below qc.lt;have Hxo:=Xh (And.intro (Hio.out x hxm) (HCo.out.ins x hxm));have Hxj:=Xh (HCo.out.jumps x hxm);have HSp:Hid (∀wx,Below w.heap.size w wx->_):=fun wx hb=>zcL l (.slice pl l.length cap) HRi.out Hcf.out wx (HLv.out.mono hb) cls g x.op x.a x.b x.type x.cls x.name f.locals f.stack _ _ (Hf.out.mono hb) Hfr.out Hxo.out.1.type (Xf Hxo.out.1.cls (by decide)) hgs Hxo.out.2
   have HRa:Hid (∀wx,Below w.heap.size w wx->_):=fun wx hb=>Zcy m.code (.slice (some ⟨b0,o,none⟩) m.code.length kc) wx (Hcv.out.mono hb (by decide) (fun _ _ h=>h)) i x hx (by omega) (fun hj=>(Hxj.out hj).1)
   clear hx hxm;obtain⟨op,xa,xb,type,xcls,name⟩:=x;obtain⟨c0,c1,c2,c3,c4,c5,_⟩:=qc;have HS:Hid (∀wx,Below wr.heap.size wr wx->ZaV wx w.heap.size (w.heap.size+1) b0 (o+i*6) (.slice (some ⟨b0,o,none⟩) m.code.length kc) (.slice p1 f.locals.length n1) (.slice p2 f.stack.length n2) ⟨op,xa,xb,type,xcls,name⟩) :=
    fun wx hb=>ZaV.step ⟨by rw[hE.out.mth.cell 6,Hmv.out];rfl,hE.out.frm.cell 0,hE.out.frm.cell 1,c0,c1,c2,c3,c4,c5⟩ hb
   have HLt:Hid (w.heap.size<wr.heap.size/\w.heap.size+1<wr.heap.size/\b0<wr.heap.size):=⟨hE.out.mth.lt,hE.out.frm.lt,Zl c0⟩;obtain⟨k0,k1,k2,k3,k4,k5,k6,k7,k8⟩:=HS.out wr Xb;have hinI:(i:Int)<(m.code.length:Int):=(by omega);have hi0:(0:Int)<=(i:Int):=Int.natCast_nonneg _;unfold ql at HSp;dsimp only at HSp HQ HRa Hxj;clear c0 c1 c2 c3 c4 c5 hvl hI;cases hst:zq (Za l) cls g ⟨op,xa,xb,type,xcls,name⟩ f.locals f.stack with
   |none =>
    rw[hst]at HSp HQ;have HQ0:Hid (Z1 (Za l) cls g m i f=none):=HQ.out;replace HSp:Hid (∀wx,Below wr.heap.size wr wx->Calls _ _ _ wx fun e w'=>(∃p n c q m d,e=.returned (.tuple #[.agg #[.slice p n c,.slice q m d],.bool false]))/\Below wx.heap.size wx w'/\ZaV w' w.heap.size (w.heap.size+1) b0 (o+i*6) (.slice (some ⟨b0,o,none⟩) m.code.length kc) (.slice p1 f.locals.length n1) (.slice p2 f.stack.length n2) ⟨op,xa,xb,type,xcls,name⟩):=fun wx hb=>(HSp.out wx (Qa hE.out.below Xl hb)).mono fun e w' ⟨hB,he⟩=>by
     rcases he with⟨_,he⟩|⟨_,_,_,_,he,_⟩
     ·exact⟨he,hB,HS.out w' (Qa hb Xl hB)⟩
     ·cases he
    clear hst HQ HRa;go_upto_region 11 with fail;clear d7;go_cut [19,20] from 75 to 87 (fun _ b wx=>b=.bool false/\Below w.heap.size w wx)
    case first =>
     go_region_held3 (fun w'=>w'.cell? ⟨w.heap.size,6,none⟩=some (.slice (some ⟨b0,o,none⟩) m.code.length kc)/\w'.cell? ⟨w.heap.size+1,0,none⟩=some (.slice p1 f.locals.length n1)/\w'.cell? ⟨w.heap.size+1,1,none⟩=some (.slice p2 f.stack.length n2)/\w'.cell? ⟨b0,o+i*6,none⟩=some (.int .i64 op)/\w'.cell? ⟨b0,o+i*6+1,none⟩=some (.int .i64 xa)/\w'.cell? ⟨b0,o+i*6+1+1,none⟩=some (.int .i64 xb)/\w'.cell? ⟨b0,o+i*6+1+1+1,none⟩=some (.string type)/\w'.cell? ⟨b0,o+i*6+1+1+1+1,none⟩=some (.string xcls)/\w'.cell? ⟨b0,o+i*6+1+1+1+1+1,none⟩=some (.string name))
      (first|go_keep|exact ZaV.other (x:=⟨op,xa,xb,type,xcls,name⟩) ⟨k0,k1,k2,k3,k4,k5,k6,k7,k8⟩ HLt.out.1 HLt.out.2.1 HLt.out.2.2 _ _)
      (first
       |(go_fit (HSp.out _ ?_);(first|exact Xb.drew|exact(Xb.alloc Xl _).drew);rintro e w3⟨⟨pa,na,ca,qa,ma,da,rfl⟩,hB3,k0,k1,k2,k3,k4,k5,k6,k7,k8⟩;(first|(have KB:Blk w3 wr.heap.size 27 [.slice none 0 0,.slice none 0 0]:=Blk.step (w:=(wr.alloc (.cells #[.slice none 0 0,.slice none 0 0] 27)).drew) (Blk.new wr 27 [.slice none 0 0,.slice none 0 0]) hB3;obtain⟨x0,x1⟩:=KB.cells2;(have f0:=KB.frozen 0);(have f1:=KB.frozen 1))|skip)))
     all_goals (go_wp2_with fail;go_meet;first
      |exact⟨rfl,(Qa hE.out.below Xl (Qa (Xb.drew) Xl hB3)).alloc (Xf hE.out.below.size hB3.size) _⟩
      |exact⟨rfl,((Qa hE.out.below Xl (Qa (w:=wr) ((Xb.alloc Xl _).drew) Xl hB3)).setCell hE.out.below.size _).setCell hE.out.below.size _⟩)
    case rest =>
     obtain⟨rfl,hB⟩:=hcut;clear k0 k1 k2 k3 k4 k5 k6 k7 k8 HSp;go_wp2_with fail;exact bodyPost_ret (v:=.tuple #[.slice none 0 0,.bool false]) (by simp[results,Tryz.results59,go_sem, *]) rfl (by
      rw[HQ0.out];exact⟨hB,rfl⟩)
   |some r =>
    obtain⟨L,S⟩:=r;rw[hst]at HSp HQ;have HQ1:Hid (Z1 (Za l) cls g m i f=some (T++(qay ⟨op,xa,xb,type,xcls,name⟩ i).map fun k=>(k,⟨L,S⟩))):=HQ.out;replace HSp:Hid (∀wx,Below wr.heap.size wr wx->Calls _ _ _ wx fun e w'=>(∃lv sv,e=.returned (.tuple #[.agg #[lv,sv],.bool true])/\zk w' lv sv ⟨L,S⟩)/\Below wx.heap.size wx w'/\ZaV w' w.heap.size (w.heap.size+1) b0 (o+i*6) (.slice (some ⟨b0,o,none⟩) m.code.length kc) (.slice p1 f.locals.length n1) (.slice p2 f.stack.length n2) ⟨op,xa,xb,type,xcls,name⟩):=fun wx hb=>(HSp.out wx (Qa hE.out.below Xl hb)).mono fun e w' ⟨hB,he⟩=>by
     rcases he with⟨he,_⟩|⟨L',S',v1,v2,he,h2,h3⟩
     ·cases he
     ·injection he with he
      injection he with e1 e2
      subst e1 e2;exact⟨⟨v1,v2,h2,h3⟩,hB,HS.out w' (Qa hb Xl hB)⟩
    clear hst HQ;go_upto_region 11 with fail;clear d7;go_cut [19,20] from 75 to 87 (fun p b wx=>b=.bool true/\Qao wr wx ⟨L,S⟩ p)
    case first =>
     go_region_held3 (fun w'=>w'.cell? ⟨w.heap.size,6,none⟩=some (.slice (some ⟨b0,o,none⟩) m.code.length kc)/\w'.cell? ⟨w.heap.size+1,0,none⟩=some (.slice p1 f.locals.length n1)/\w'.cell? ⟨w.heap.size+1,1,none⟩=some (.slice p2 f.stack.length n2)/\w'.cell? ⟨b0,o+i*6,none⟩=some (.int .i64 op)/\w'.cell? ⟨b0,o+i*6+1,none⟩=some (.int .i64 xa)/\w'.cell? ⟨b0,o+i*6+1+1,none⟩=some (.int .i64 xb)/\w'.cell? ⟨b0,o+i*6+1+1+1,none⟩=some (.string type)/\w'.cell? ⟨b0,o+i*6+1+1+1+1,none⟩=some (.string xcls)/\w'.cell? ⟨b0,o+i*6+1+1+1+1+1,none⟩=some (.string name))
      (first|go_keep|exact ZaV.other (x:=⟨op,xa,xb,type,xcls,name⟩) ⟨k0,k1,k2,k3,k4,k5,k6,k7,k8⟩ HLt.out.1 HLt.out.2.1 HLt.out.2.2 _ _)
      (first
       |(go_fit (HSp.out _ ?_);(first|exact Xb.drew|exact(Xb.alloc Xl _).drew);rintro e w3⟨⟨lv3,sv3,rfl,hv3⟩,hB3,k0,k1,k2,k3,k4,k5,k6,k7,k8⟩;obtain⟨⟨p3,n3,rfl,_⟩,⟨p4,n4,rfl,_⟩⟩:=And.intro hv3.1.open hv3.2.open;(first|(have KB:Blk w3 wr.heap.size 27 [.slice none 0 0,.slice none 0 0]:=Blk.step (w:=(wr.alloc (.cells #[.slice none 0 0,.slice none 0 0] 27)).drew) (Blk.new wr 27 [.slice none 0 0,.slice none 0 0]) hB3;obtain⟨x0,x1⟩:=KB.cells2;(have f0:=KB.frozen 0);(have f1:=KB.frozen 1))|skip)))
     all_goals (go_wp2_with fail;go_meet;first
      |exact⟨rfl,Qao.late (Qa (Xb.drew) Xl hB3) hv3⟩
      |exact⟨rfl,Qao.early (Qa (Xb.drew) Xl hB3) hv3⟩)
    case rest =>
     obtain⟨rfl,nb,v1,v2,rfl,hnb,Kb,hBw,hFv⟩:=hcut;obtain⟨⟨p3,n3,rfl,hz3⟩,⟨p4,n4,rfl,hz4⟩⟩:=And.intro hFv.1.open hFv.2.open;clear k0 k1 k2 k3 k4 k5 k6 k7 k8 HSp hz3 hz4;obtain⟨m6,_⟩:=HS.out wc hBw;have HEc:=Xh (hE.out.step hBw);have HRc:=Xh (hRow.out.below hBw);have HVc:=Xh (hV.out.keepS (Qy.below hBw));have HRlt:=Xh hRow.out.lt;have HKb:=Xh Kb;have HFv:=Xh hFv;have Hnb:=Xh hnb;have HRac:=Xh (HRa.out wc HEc.out.below);have hBw':=hBw.size;clear HRa Kb hBw hFv hnb hE hRow hV;obtain⟨N,hN⟩:∃N,qay ⟨op,xa,xb,type,xcls,name⟩ i=N:=⟨_,rfl⟩;have hNl:N.length<=2:=(by rw[<-hN];exact zcm _ i);rw[hN]at HRac HQ1;clear hN;go_upto_region 15 with(first
      |(go_fit (HRac.out);rintro e w6⟨v6,rfl,hB6,hq6⟩;obtain⟨a6,c6,rfl⟩:=zaN hq6))
     obtain⟨g6,g6a,g6b,g6c⟩:=qdl hq6;have HB6:=Xh hB6;have HG6:=Xh g6c;have HN40:=Xh hq6;have HE6:=Xh (HEc.out.step hB6);have HR6:=Xh (HRc.out.below hB6);have HV6:=Xh (HVc.out.keepS (Qy.below hB6));have HKb6:=Xh (HKb.out.step hB6);have HFv6:=Xh (HFv.out.mono hB6);have Hsz:Hid (wr.heap.size<=wc.heap.size/\wc.heap.size<=w6.heap.size):=⟨hBw',hB6.size⟩;clear hB6 hq6 g6a g6c m6;obtain⟨so,hso⟩:∃n,wr.heap.size=n:=⟨_,rfl⟩;have HS1:Hid (so<=nb/\nb<w6.heap.size/\so<=g6):=by
      have h1:=Hnb.out;have h2:=HKb6.out.lt;have h3:=Hsz.out.1;exact⟨by omega,h2,by omega⟩
     go_wp2_with fail;go_loopw [14,22] (fun v x wy=>∃(k:Nat) (ys2:List Value),k<=N.length/\x=.int .i64 k/\Hid (EX w wy mv (.slice p1 f.locals.length n1) (.slice p2 f.stack.length n2))/\Hid (zZ 112 wy (w.heap.size+2) v (T++(N.take k).map fun q=>(q,(⟨L,S⟩:Frm))).length ys2)/\Hid (qI wy (T++(N.take k).map fun q=>(q,(⟨L,S⟩:Frm))) ys2) /\
      Hid (Qc4 so w6 wy v)) (fun _ x _=>N.length-(intOf x).toNat)
     case atStart=>exact⟨0,ys,Nat.zero_le _,rfl,HE6,by unfold Hid;simpa using HR6.out,by unfold Hid;simpa using HV6.out,fun _ _ _=>rfl,fun g e=>Or.inl (by have:=(HRlt.out g e).2;omega),fun _ _ e=>e,Xl⟩
     case round =>
      obtain⟨k,ys2,hk,rfl,hE,hRow,hV,hI⟩:=hrel;obtain⟨va2,vc2,rfl⟩:=hRow.out.shape;by_cases hkl:k<N.length
      ·obtain⟨q,hq⟩:∃q,N[k]? = some q:=⟨N[k],by simp[hkl]⟩;obtain⟨off,cap2,e,hc⟩:=HG6.out k q hq;injection e with e1 _ e2
       subst e1 e2;have cq:=(hI.out.cell (a:=⟨g6,off+k,none⟩) HS1.out.2.2 (Zl hc)).trans hc;unfold ZV at cq;have x0:=(hI.out.cell (a:=⟨nb,0,none⟩) HS1.out.1 HS1.out.2.1).trans (HKb6.out.cell 0);have x1:=(hI.out.cell (a:=⟨nb,1,none⟩) HS1.out.1 HS1.out.2.1).trans (HKb6.out.cell 1);replace x0:=show _=some (Value.slice p3 L.length n3) from x0
       replace x1:=show _=some (Value.slice p4 S.length n4) from x1
       have HS1':=Xh (Zl hc);have Hcq:Hid (w6.cell? ⟨g6,off+k,none⟩=some (.int .i64 (q:Int))):=hc;obtain⟨TT,hTT⟩:∃TT,T++(N.take k).map (fun q=>(q,(⟨L,S⟩:Frm)))=TT:=⟨_,rfl⟩;have HTT:Hid (T++(N.take (k+1)).map (fun q=>(q,(⟨L,S⟩:Frm)))=TT++[(q,(⟨L,S⟩:Frm))]):=by
        unfold Hid;rw[<-hTT,List.take_add_one,hq];simp
       have hTl:TT.length<=10:=by
        rw[<-hTT,List.length_append,List.length_map,List.length_take];omega
       rw[hTT]at hRow hV;rw[hTT];have hIc:Hid (Qc4 so w6 wr (.slice va2 TT.length vc2)):=by
        have:=hI;rw[hTT]at this;exact this
       have hkI:(k:Int)<(N.length:Int):=(by omega);have hk0:(0:Int)<=(k:Int):=Int.natCast_nonneg _;clear hc hq hTT hI HN40;have BB:=((Below.refl wr.heap.size wr).drew).alloc (by exact Xl) (.cells #[.int .i64 (q:Int),.slice p3 L.length n3,.slice p4 S.length n4] 112);have hRowB:=hRow.out.below BB;have hbs:=(hE.out.step BB).lt;have HEB:=Xh (hE.out.step BB);have HVB:=Xh (hV.out.keepS (Qy.below BB));have HBB:=Xh BB;have Hone:Hid (∀u∈[Value.int .i64 (q:Int),.slice p3 L.length n3,.slice p4 S.length n4],u.oneCell'=true):=fun u hu=>by
        simp at hu;rcases hu with rfl|rfl|rfl<;>rfl
       have Hcel:Hid (∀(j:Nat) (u:Value),[Value.int .i64 (q:Int),.slice p3 L.length n3,.slice p4 S.length n4][j]? = some u->(wr.drew.alloc (.cells #[.int .i64 (q:Int),.slice p3 L.length n3,.slice p4 S.length n4] 112)).cell? ((⟨wr.heap.size,0,none⟩:Addr).add j)=some u):=fun j u hu=>by
        have:=(Blk.new wr.drew 112 [Value.int .i64 (q:Int),.slice p3 L.length n3,.slice p4 S.length n4]).cell j;rw[zaR rfl,Nat.zero_add];exact this.trans hu
       have h63:TT.length+1<=maxLen:=(by unfold maxLen;omega);have h56:(TT.length+1)*56<=140737488355328:=(by omega);clear BB;go_upto_region 18 with fail;go_region_held3 (fun w'=>w'.cell? ⟨g6,off+k,none⟩=some (.int .i64 (q:Int))/\w'.cell? ⟨nb,0,none⟩=some (.slice p3 L.length n3)/\w'.cell? ⟨nb,1,none⟩=some (.slice p4 S.length n4))
        (first|go_keep)
        (first
         |(refine QaM Tryz.underlying108 Qcl (by rfl) _ _ (by rfl) (w.heap.size+2) _ TT.length ys2 (by rfl) hRowB hbs (.int .i64 (q:Int)) (.slice p3 L.length n3) (.slice p4 S.length n4) ⟨wr.heap.size,0,none⟩ 1 (by rfl) Hcel.out Hone.out (by simp[qar]) h63 h56 ?_;intro v9 w9 hR9 hg9 ho9;(have HR9:=Xh hR9);(have HE9:=Xh (HEB.out.grown hg9 (fun g e=>(hRowB.lt g e).1)));(have HI9:=Xh (hIc.out.grown HBB.out hg9 (hRowB.keepS hg9) ho9));(have y1:=(HI9.out.cell (a:=⟨g6,off+k,none⟩) HS1.out.2.2 HS1'.out).trans Hcq.out);(have y2:=(HI9.out.cell (a:=⟨nb,0,none⟩) HS1.out.1 HS1.out.2.1).trans (HKb6.out.cell 0));(have y3:=(HI9.out.cell (a:=⟨nb,1,none⟩) HS1.out.1 HS1.out.2.1).trans (HKb6.out.cell 1));(have HS9:=Xh (hRowB.keepS hg9));clear hR9 hg9 ho9))
       all_goals
        clear x0 x1 cq;go_wp2_with fail;go_roundw;case rel =>
         refine⟨k+1,ys2++[.int .i64 (q:Int),.slice p3 L.length n3,.slice p4 S.length n4],by omega,by simp,HE9,?_,?_,?_⟩;all_goals unfold Hid
         ·rw[HTT.out,List.length_append];exact HR9.out
         ·rw[HTT.out];exact qI.snoc (HFv6.out.keepS HI9.out.2.2.1) (HVB.out.keepS HS9.out)
         ·exact HI9.out
        case measure=>simp[intOf];omega
      ·obtain rfl:k=N.length:=(by omega);go_wp2_with fail;exact bodyPost_ret (v:=.tuple #[.slice va2 (T++(N.take N.length).map fun q=>(q,(⟨L,S⟩:Frm))).length vc2,.bool true]) (by simp[results,Tryz.results59,go_sem, *]) rfl (by
        rw[HQ1.out];have h1:=hRow.out;have h2:=hV.out;rw[List.take_length]at h1 h2 ⊢;exact⟨hE.out.below,_,ys2,rfl,h1,h2⟩)
set_option maxRecDepth 512
def Qdt:Frm:=⟨[],[]⟩
def Qep(w:World)(b n:Nat)(F:Asg Frm):Prop:=∃cur:List Value,Blk w b 27 cur/\cur.length=n*2/\∀i,i<n->∃u v,cur[i*2]? = some u/\cur[i*2+1]? = some v/\zk w u v ((F i).getD Qdt)
def Zbs(n:Nat)(F:Asg Frm):List Value:=(List.range n).map fun i=>.bool (F i).isSome
theorem ZcL{n i:Nat}(hi:i<n)(F:Asg Frm):(Zbs n F)[i]? = some (.bool (F i).isSome):=by
 unfold Zbs;rw[List.getElem?_map,List.getElem?_range hi];rfl
theorem zdu{n i:Nat}(F:Asg Frm)(f:Frm):(Zbs n F).set i (.bool true)=Zbs n (F.put i f):=by
 refine List.ext_getElem? fun k=>?_
 rw[List.getElem?_set];unfold Zbs;simp only[List.length_map,List.length_range,List.getElem?_map];by_cases hk:k<n
 ·rw[List.getElem?_range hk];by_cases e:i=k
  ·subst e;rw[if_pos rfl,if_pos hk,Option.map_some,Asg.put_self];rfl
  ·rw[if_neg e,Option.map_some,Option.map_some,Asg.put_other F f (fun h=>e h.symm)]
 ·have h2:(List.range n)[k]? = none:=List.getElem?_eq_none (by rw[List.length_range];omega);rw[h2];split
  ·rename_i e;subst e;rw[if_neg hk];rfl
  ·rfl
theorem Za0{w:World}{u v:Value}{f:Frm}(h:zk w u v f):∃p k q d,u=.slice p f.locals.length k/\v=.slice q f.stack.length d:=by
 obtain⟨⟨p,k,h1,_⟩,⟨q,d,h2,_⟩⟩:=And.intro h.1.open h.2.open;exact⟨p,k,q,d,h1,h2⟩
structure FH (w:World) (b c n:Nat) (F:Asg Frm):Prop where
 fr:Qep w b n F
 has:Blk w c 4 (Zbs n F)
 ne:b≠c
theorem FH.lt{w:World}{b c n:Nat}{F:Asg Frm}(h:FH w b c n F):b<w.heap.size/\c<w.heap.size:=by
 obtain⟨cur,h1,_⟩:=h.fr;exact⟨h1.lt,h.has.lt⟩
theorem FH.keep{w w':World}{b c n:Nat}{F:Asg Frm}(h:FH w b c n F)(hk:Qy w w')(h1:w'.heap[b]? = w.heap[b]?)(h2:w'.heap[c]? = w.heap[c]?):FH w' b c n F:=by
 obtain⟨⟨cur,k1,k2,k3⟩,k4,k5⟩:=h;refine⟨⟨cur,h1.trans k1,k2,fun i hi=>?_⟩,h2.trans k4,k5⟩;obtain⟨u,v,a1,a2,a3⟩:=k3 i hi;exact⟨u,v,a1,a2,a3.keepS hk⟩
theorem FH.step{w w':World}{b c n:Nat}{F:Asg Frm}(h:FH w b c n F)(hb:Below w.heap.size w w'):FH w' b c n F:=h.keep (Qy.below hb) (hb.block b h.lt.1) (hb.block c h.lt.2)
theorem FH.at{w:World}{b c n:Nat}{F:Asg Frm}(h:FH w b c n F){i:Nat}(hi:i<n):∃p k q d,w.cell? ⟨b,i*2,none⟩=some (.slice p ((F i).getD Qdt).locals.length k)/\w.cell? ⟨b,i*2+1,none⟩=some (.slice q ((F i).getD Qdt).stack.length d)/\zk w (.slice p ((F i).getD Qdt).locals.length k) (.slice q ((F i).getD Qdt).stack.length d) ((F i).getD Qdt)/\w.frozen? ⟨b,i*2,none⟩=false/\w.frozen? ⟨b,i*2+1,none⟩=false/\w.cell? ⟨c,i,none⟩=some (.bool (F i).isSome)/\w.frozen? ⟨c,i,none⟩=false:=by
 obtain⟨⟨cur,k1,k2,k3⟩,k4,k5⟩:=h;obtain⟨u,v,a1,a2,a3⟩:=k3 i hi;obtain⟨p,k,q,d,rfl,rfl⟩:=Za0 a3;exact⟨p,k,q,d,(k1.cell _).trans a1,(k1.cell _).trans a2,a3,k1.frozen _,k1.frozen _,(k4.cell _).trans (ZcL hi F),k4.frozen _⟩
theorem zc5{w:World}{u v:Value}{f:Frm}(h:zk w u v f):(∀s,u≠.string s)/\∀s,v≠.string s:=by
 obtain⟨p,k,q,d,rfl,rfl⟩:=Za0 h;exact⟨fun s e=>(nomatch e),fun s e=>(nomatch e)⟩
def qcL(w:World)(b c i:Nat)(u v:Value):World:=((w.setCell ⟨b,i*2,none⟩ u).setCell ⟨b,i*2+1,none⟩ v).setCell ⟨c,i,none⟩ (.bool true)
theorem FH.puts{w:World}{b c n:Nat}{F:Asg Frm}(h:FH w b c n F){i:Nat}(hi:i<n)(u v:Value):Qy w (qcL w b c i u v):=by
 obtain⟨⟨cur,k1,k2,k3⟩,k4,k5⟩:=h;obtain⟨u0,v0,a1,a2,a3⟩:=k3 i hi;obtain⟨t1,t2⟩:=zc5 a3;have e1:=Qy.put k1 a1 t1 u;have K1:=k1.put (i*2) u;have a2':(cur.set (i*2) u)[i*2+1]? = some v0:=by
  rw[List.getElem?_set,if_neg (by omega)];exact a2
 have e2:=Qy.put K1 a2' t2 v;have K4:=(k4.other (fun e=>k5 e.symm) (i*2) u).other (fun e=>k5 e.symm) (i*2+1) v;have e3:=Qy.put K4 (ZcL hi F) (fun s e=>by cases e) (.bool true);exact(e1.trans e2).trans e3
theorem FH.put{w:World}{b c n:Nat}{F:Asg Frm}(h:FH w b c n F){i:Nat}(hi:i<n){u v:Value}{f:Frm}(hf:zk w u v f):FH (qcL w b c i u v) b c n (F.put i f):=by
 have hk:=h.puts hi u v;obtain⟨⟨cur,k1,k2,k3⟩,k4,k5⟩:=h;have K1:=((k1.put (i*2) u).put (i*2+1) v).other k5 i (.bool true);have K4:=(((k4.other (fun e=>k5 e.symm) (i*2) u).other (fun e=>k5 e.symm) (i*2+1) v)).put i (.bool true);rw[zdu F f]at K4;refine⟨⟨_,K1,by simp[k2],fun j hj=>?_⟩,K4,k5⟩;by_cases e:j=i
 ·subst e;rw[Asg.put_self];refine⟨u,v,?_,?_,hf.keepS hk⟩
  ·rw[List.getElem?_set,if_neg (by omega),List.getElem?_set,if_pos rfl,if_pos (by omega)]
  ·rw[List.getElem?_set,if_pos rfl,if_pos (by rw[List.length_set];omega)]
 ·obtain⟨u0,v0,a1,a2,a3⟩:=k3 j hj;rw[Asg.put_other F f e];refine⟨u0,v0,?_,?_,a3.keepS hk⟩
  ·rw[List.getElem?_set,if_neg (by omega),List.getElem?_set,if_neg (by omega)];exact a1
  ·rw[List.getElem?_set,if_neg (by omega),List.getElem?_set,if_neg (by omega)];exact a2
theorem zZ.at{te:TypeId}{w:World}{base:Nat}{v:Value}{l:List (Nat×Frm)}{xs:List Value}(h:zZ te w base v l.length xs)(hv:qI w l xs){i:Nat}{p:Nat×Frm}(hp:l[i]? = some p):∃g cap a k q d,v=.slice (some ⟨g,0,none⟩) l.length cap/\base<=g/\g<w.heap.size/\w.cell? ⟨g,i*3,none⟩=some (.int .i64 (p.1:Int))/\w.cell? ⟨g,i*3+1,none⟩=some (.slice a p.2.locals.length k)/\w.cell? ⟨g,i*3+1+1,none⟩=some (.slice q p.2.stack.length d)/\zk w (.slice a p.2.locals.length k) (.slice q p.2.stack.length d) p.2:=by
 obtain⟨lv,sv,hf,e1,e2,e3⟩:=hv.at hp;obtain⟨a,k,q,d,rfl,rfl⟩:=Za0 hf;rcases h with⟨_,h,_⟩|⟨g,cap,vals,rfl,h1,h2,_,_,_,_,_,h8⟩
 ·have:=(List.getElem?_eq_some_iff.1 hp).1;omega
 ·exact⟨g,cap,a,k,q,d,rfl,h1,h2.lt,(h2.cell _).trans (h8 _ _ e1),(h2.cell _).trans (h8 _ _ e2),(h2.cell _).trans (h8 _ _ e3),hf⟩
theorem Zdu:(Tryz.prog.info? 4).map (fun i=>(i.zero,i.size,i.bytes))=some (some (.bool false),1,1):=by kernel_rfl
theorem qdP:(Tryz.prog.info? 27).map (fun i=>(i.zero,i.size,i.bytes))=some (some (.agg #[.slice none 0 0,.slice none 0 0]),2,48):=by kernel_rfl
theorem Zc5(n:Nat)(hn:n<=16777216)(w:World):(Instr.makeSlice 58 (.int .i64 (n:Int)) (.int .i64 (n:Int))).run Tryz.prog w=.ok (.slice (some ⟨w.heap.size,0,none⟩) n n) (w.alloc (.cells (Array.replicate n (Value.bool false)) 4)):=by
 rw[run_make_row' 58 4 (.bool false) 1 Tryz.underlying58 Zdu rfl .i64 .i64 n (by omega) (by omega) w];have h:madeCells #[Value.bool false] n=Array.replicate n (Value.bool false):=by
  apply Array.toList_inj.1;rw[toList_madeCells_one,Array.toList_replicate]
 rw[h]
theorem qdu(n:Nat):madeCells #[Value.slice none 0 0,.slice none 0 0] (n*2)=Array.replicate (n*2) (Value.slice none 0 0):=by
 refine Array.ext (by simp[size_madeCells]) fun i h1 h2=>?_
 simp only[madeCells,Array.getElem_map,Array.getElem_range,Array.getElem_replicate];have:i % 2=0\/i % 2=1:=by omega
 show(#[Value.slice none 0 0,.slice none 0 0])[i % 2]! = _
 rcases this with h|h<;>simp[h]
theorem Qdu(n:Nat)(hn:n<=16777216)(w:World):(Instr.makeSlice 57 (.int .i64 (n:Int)) (.int .i64 (n:Int))).run Tryz.prog w=.ok (.slice (some ⟨w.heap.size,0,none⟩) n n) (w.alloc (.cells (Array.replicate (n*2) (Value.slice none 0 0)) 27)):=by
 obtain⟨i0,hi,hz0,hz1,hz2⟩:=info_parts qdP;have hr:=run_make (P:=Tryz.prog) w 57 27 i0 (.agg #[.slice none 0 0,.slice none 0 0]) Tryz.underlying57 hi hz0 .i64 .i64 n n (by omega) (Int.le_refl _) (by rw[hz2];omega) (by omega);rw[Int.toNat_natCast,hz1,show(Value.agg #[Value.slice none 0 0,.slice none 0 0]).cells=#[Value.slice none 0 0,.slice none 0 0] from rfl,qdu]at hr;exact hr
theorem FH.made(w:World)(n:Nat):FH ((w.alloc (.cells (Array.replicate (n*2) (Value.slice none 0 0)) 27)).alloc (.cells (Array.replicate n (Value.bool false)) 4)) w.heap.size (w.heap.size+1) n (fun _=>none):=by
 have b1:Blk (w.alloc (.cells (Array.replicate (n*2) (Value.slice none 0 0)) 27)) w.heap.size 27 (List.replicate (n*2) (Value.slice none 0 0)):=by
  have:=Blk.new w 27 (List.replicate (n*2) (Value.slice none 0 0));rwa [List.toArray_replicate]at this
 have b2:Blk ((w.alloc (.cells (Array.replicate (n*2) (Value.slice none 0 0)) 27)).alloc (.cells (Array.replicate n (Value.bool false)) 4)) (w.heap.size+1) 4 (Zbs n fun _=>none):=by
  have:=Blk.new (w.alloc (.cells (Array.replicate (n*2) (Value.slice none 0 0)) 27)) 4 (List.replicate n (Value.bool false));rw[List.toArray_replicate,World.size_alloc]at this;have e:Zbs n (fun _=>none)=List.replicate n (Value.bool false):=by
   unfold Zbs;rw[show(fun i=>Value.bool ((fun _=>none:Asg Frm) i).isSome)=fun _:Nat=>Value.bool false from rfl,List.map_const',List.length_range]
  rw[e];exact this
 refine⟨⟨_,b1.step (Xb.alloc Xl _),by simp,fun i hi=>⟨.slice none 0 0,.slice none 0 0,?_,?_,Or.inl ⟨rfl,rfl⟩,Or.inl ⟨rfl,rfl⟩⟩⟩,b2,by omega⟩
 ·rw[List.getElem?_replicate,if_pos (by omega)]
 ·rw[List.getElem?_replicate,if_pos (by omega)]
end Go.Proofs.YtlmfmioljeppfaaGreatDoor
