/- Lemmas; conditions: as each states. -/
import Derived.Test.YtlmfmioljeppfaaGreatDoorRefStep
import Derived.Test.YtlmfmioljeppfaaGreatDoorRefAfter
set_option maxHeartbeats 4000000
namespace Go.Proofs.YtlmfmioljeppfaaGreatDoor
open Go.RowKit Go.Shelf Go.Lib
theorem Zc7{l:List Qb}(h:Zk l){x:Str}{d:Qb}(C:Qc (Za l) x=some d):(∀a∈d.faces,(qh (Za l) a).face=true)/\(d.face=true->d.super=qg)/\(d.super.size=0->x=qg):=by
 have A:d∈Za l:=List.mem_of_find?_eq_some C;have D:qh (Za l) x=d:=by unfold qh;rw[C];rfl
 have G:d.super.size=0->x=qg:=fun hs=>h.top (by rw[C];rfl) (by rw[D];exact hs)
 unfold Za at A;rcases List.mem_cons.1 A with rfl|A
 ·exact⟨(fun a E=>by cases E),(fun F=>by cases F),G⟩
 ·rcases List.mem_cons.1 A with rfl|A
  ·exact⟨(fun a E=>by cases E),(fun F=>by cases F),G⟩
  ·have H:=h.joined d A;obtain⟨_,I⟩:=QaS H;refine⟨fun a E=>?_,fun F=>?_,G⟩
   ·obtain⟨c,J,L⟩:=Qau (I a E);unfold qh;rw[J];exact L
   ·have B:=h.face_line (c:=x) (by rw[C];rfl) (by rw[D];exact F);by_cases hs:d.super.size=0
    ·have:=G hs;subst this;rw[Zk.line_top (by rw[D];exact hs)]at B;cases B
    ·rw[h.line_up (by rw[C];rfl) (by rw[D];exact hs),D]at B;injection B with _ B
     have:=zal (cs:=Za l) d.super;rw[B]at this;exact List.mem_singleton.1 this
theorem qc7{l:List Qb}(h:Zk l){c:Str}(C:(Qc (Za l) c).isSome=true):QK (Qk (Za l) c) zC=QK (Zq (Za l) c) zC:=by
 have A:zC∈Qk (Za l) c↔zC∈Zq (Za l) c:=by
  refine⟨fun O=>?_,zb4 h C⟩;obtain⟨_,_,_,M⟩:=zo h.closed C;have:=M (fun x=>(Qc (Za l) x).isSome=true/\((qh (Za l) x).face=true\/x=qg\/x∈Zq (Za l) c)) (fun x ⟨H,hs⟩ a B=>by
   refine⟨h.closed x H a B,?_⟩;obtain⟨d,F⟩:=Option.isSome_iff_exists.1 H;obtain⟨L,N,P⟩:=Zc7 h F;have D:qh (Za l) x=d:=(by unfold qh;rw[F];rfl);have E:qp (Za l) x=if d.super.size=0 then d.faces else d.super::d.faces:=(by unfold qp;rw[F];rfl);rw[E]at B;split at B
   ·exact Or.inl (L a B)
   ·rename_i G;rcases List.mem_cons.1 B with rfl|B
    ·rcases hs with hs|rfl|hs
     ·rw[D]at hs;exact Or.inr (Or.inl (N hs))
     ·have e:d=qh (Za l) qg:=D.symm;rw[e]at G;exact absurd rfl G
     ·exact Or.inr (Or.inr (h.tree.trans c x _ C hs ((h.line_mem H).2 (Or.inr ⟨by rw[D];exact G,by rw[D];exact zal _⟩))))
    ·exact Or.inl (L a B)) ⟨C,Or.inr (Or.inr (zal c))⟩ zC O
  rcases this.2 with hs|hs|hs
  ·exact absurd hs (by rw[show(qh (Za l) zC).face=false from rfl];decide)
  ·exact absurd hs (by decide)
  ·exact hs
 cases I:QK (Qk (Za l) c) zC<;>cases J:QK (Zq (Za l) c) zC
 ·rfl
 ·have:=Zy.2 (A.2 (Zy.1 J));rw[I]at this;cases this
 ·have:=Zy.2 (A.1 (Zy.1 I));rw[J]at this;cases this
 ·rfl
theorem Qc7{l:List Qb}(h:Zk l)(A:∀c∈l,qd c=0)(c:Str):qaa (Za l) c=((Qc (Za l) c).isSome&&QK (Zq (Za l) c) zC):=by
 have B:Zo (Zd c)=.ty (.cl c):=qz (zbh c).symm;have D:Zo (Zd zC)=.ty (.cl zC):=qz (zbh zC).symm;unfold qaa;rw[B,D];cases hs:(Qc (Za l) c).isSome with
 |true =>
  rw[Zal A hs,<-qc7 h hs];rfl
 |false =>
  rw[Bool.false_and,Bool.and_eq_false_iff];refine Or.inl (beq_eq_false_iff_ne.2 fun E=>?_);have:=qU E;rw[B]at this;have C:(Qc (Za l) c).isSome=true:=this.2;rw[hs]at C;cases C
theorem Qcn:(Tryz.prog.info? 112).map (fun i=>(i.zero,i.size,i.bytes))=some (some (.agg #[.int .i64 0,.slice none 0 0,.slice none 0 0]),3,56):=by kernel_rfl
def zbC(w:World)(r:Option (List (Nat×Frm)))(e:Ending)(w':World):Prop:=Below w.heap.size w w'/\match r with
 |none=>e=.returned (.tuple #[.slice none 0 0,.bool false])
 |some t=>∃v ys,e=.returned (.tuple #[v,.bool true])/\z9 112 w' (w.heap.size+2) v t.length ys/\zS w' t ys
structure EX (w wx:World) (mv:List Value) (f1 f2:Value):Prop where
 below:Below w.heap.size w wx
 mth:Blk wx w.heap.size 53 mv
 frm:Blk wx (w.heap.size+1) 27 [f1,f2]
theorem EX.step{w wx wy:World}{B:List Value}{C D:Value}(h:EX w wx B C D)(A:Below wx.heap.size wx wy):EX w wy B C D:=⟨Qa h.below Xl A,h.mth.step A,h.frm.step A⟩
theorem EX.grown{w wx wy:World}{C:List Value}{D E:Value}{r:Option Nat}(h:EX w wx C D E)(A:wx.grownBy wy r)(B:∀g,r=some g->w.heap.size+2<=g):EX w wy C D E :=
 ⟨h.below.grown A h.below.size (fun g e=>by have:=B g e;omega),h.mth.grown A (fun e=>by have:=B _ e;omega),h.frm.grown A (fun e=>by have:=B _ e;omega)⟩
theorem EX.lt{w wx:World}{A:List Value}{B C:Value}(h:EX w wx A B C):w.heap.size+2<=wx.heap.size:=h.frm.lt
theorem Zb4{cs:List Qb}{i:Nat}{f:Frm}{hs:List zM}{j:Nat}{h:zM}(A:hs[j]? = some h):QF cs i f (hs.drop j)=if h.lo<=(i:Int)/\(i:Int)<h.hi then (if qaa cs h.cls then (QF cs i f (hs.drop (j+1))).map fun t=>(h.dest.toNat,⟨f.locals,[Zd h.cls]⟩)::t else none) else QF cs i f (hs.drop (j+1)):=by
 obtain⟨B,rfl⟩:=List.getElem?_eq_some_iff.1 A;rw[List.drop_eq_getElem_cons B];rfl
def ZaW(wx:World)(mb fb b0 o:Nat)(cv u v:Value)(x:Ins):Prop:=wx.cell? ⟨mb,6,none⟩=some cv/\wx.cell? ⟨fb,0,none⟩=some u/\wx.cell? ⟨fb,1,none⟩=some v/\wx.cell? ⟨b0,o,none⟩=some (.int .i64 x.op)/\wx.cell? ⟨b0,o+1,none⟩=some (.int .i64 x.a)/\wx.cell? ⟨b0,o+1+1,none⟩=some (.int .i64 x.b)/\wx.cell? ⟨b0,o+1+1+1,none⟩=some (.string x.type)/\wx.cell? ⟨b0,o+1+1+1+1,none⟩=some (.string x.cls)/\wx.cell? ⟨b0,o+1+1+1+1+1,none⟩=some (.string x.name)
theorem ZaW.step{w w':World}{B fb C o:Nat}{D u v:Value}{x:Ins}(h:ZaW w B fb C o D u v x)(A:Below w.heap.size w w'):ZaW w' B fb C o D u v x:=by
 obtain⟨E,F,G,H,I,J,L,M,N⟩:=h;exact⟨(A.cell (ql E)).trans E,(A.cell (ql F)).trans F,(A.cell (ql G)).trans G,(A.cell (ql H)).trans H,(A.cell (ql I)).trans I,(A.cell (ql J)).trans J,(A.cell (ql L)).trans L,(A.cell (ql M)).trans M,(A.cell (ql N)).trans N⟩
theorem ZaW.other{w:World}{C fb A o:Nat}{D u v:Value}{x:Ins}(h:ZaW w C fb A o D u v x){c:Nat}(F:C<c)(G:fb<c)(H:A<c)(p q:Value):ZaW ((w.setCell ⟨c,0,none⟩ p).setCell ⟨c,1,none⟩ q) C fb A o D u v x:=by
 obtain⟨J,L,M,N,O,P,R,S,T⟩:=h;have I:=Nat.ne_of_lt F;have E:=Nat.ne_of_lt G;have B:=Nat.ne_of_lt H;exact⟨(zj (a:=⟨C,_,none⟩) I _ _).trans J,(zj (a:=⟨fb,_,none⟩) E _ _).trans L,(zj (a:=⟨fb,_,none⟩) E _ _).trans M,(zj (a:=⟨A,_,none⟩) B _ _).trans N,(zj (a:=⟨A,_,none⟩) B _ _).trans O,(zj (a:=⟨A,_,none⟩) B _ _).trans P,(zj (a:=⟨A,_,none⟩) B _ _).trans R,(zj (a:=⟨A,_,none⟩) B _ _).trans S,(zj (a:=⟨A,_,none⟩) B _ _).trans T⟩
def zc8(so:Nat)(w6 wy:World)(v:Value):Prop:=(∀b,so<=b->b<w6.heap.size->wy.heap[b]? = w6.heap[b]?)/\(∀g,v.ownBlock=some g->g<so\/w6.heap.size<=g)/\qx w6 wy/\w6.heap.size<=wy.heap.size
theorem zc8.cell{B:Nat}{A wy:World}{v:Value}(h:zc8 B A wy v){a:Addr}(C:B<=a.block)(D:a.block<A.heap.size):wy.cell? a=A.cell? a:=World.cell?_of_block (h.1 _ C D)
theorem zc8.grown{G:Nat}{H wy A B:World}{v I:Value}(h:zc8 G H wy v)(C:Below wy.heap.size wy A)(J:A.grownBy B v.ownBlock)(hs:qx A B)(M:∀g,I.ownBlock=some g->v.ownBlock=some g\/A.heap.size<=g):zc8 G H B I:=by
 obtain⟨N,L,O,P⟩:=h;have D:=C.size;refine⟨fun b E F=>?_,fun g e=>?_,(O.trans (qx.below C)).trans hs,Xf P (Xf D J.size)⟩
 ·rw[J.block b (by omega) (fun e=>by have:=L b e.symm;omega),C.block b (by omega)];exact N b E F
 ·rcases M g e with e|e
  ·exact L g e
  ·exact Or.inr (by omega)
set_option maxRecDepth 100000
theorem qcz(l:List Qb)(lv:Value)(hR:Zk l)(hcf:∀c∈l,qd c=0)(w:World)(hlv:qj w lv l)(cls g:Str)(m:qi)(pc ph:Option Addr)(kc kh:Nat)(hcv:Zg w 6 Zw (.slice pc m.code.length kc) m.code)(hhv:Zg w 4 Qt (.slice ph m.handlers.length kh) m.handlers)(hc:qo m.code=0)(hh:zl m.handlers m.code.length=0)(hio:∀x∈m.code,qaL x)(hgs:g.size<=maxLen)(i:Nat)(hin:i<m.code.length)(f:Frm)(f1 f2:Value)(hf:zk w f1 f2 f)(hfr:Qx (Za l) f=0):
 Calls Tryz.prog 59 #[lv,.string cls,.string g,.agg #[.string m.name,.string m.type,.bool m.static,.bool m.abs,.bool m.priv,.int .i64 m.locals,.slice pc m.code.length kc,.slice ph m.handlers.length kh],.int .i64 (i:Int),.agg #[f1,f2]] w (zbC w (Qaa (Za l) cls g m i f)):=by
 have HA:Hid (∀(wx:World) (o:Obj),Below wx.heap.size wx (wx.alloc o)):=fun wx o=>Xb.alloc Xl o
 have HLv:=Xh hlv;obtain⟨pl,cap,rfl,hpo⟩:=hlv.open;clear hpo;obtain⟨⟨U,V,rfl,hz1⟩,⟨p2,n2,rfl,hz2⟩⟩:=And.intro hf.1.open hf.2.open;clear hz1 hz2;obtain⟨mv,hmv⟩:∃mv:List Value,mv=[.string m.name,.string m.type,.bool m.static,.bool m.abs,.bool m.priv,.int .i64 m.locals,.slice pc m.code.length kc,.slice ph m.handlers.length kh]:=⟨_,rfl⟩;have K0:=Blk.new w 53 [.string m.name,.string m.type,.bool m.static,.bool m.abs,.bool m.priv,.int .i64 m.locals,.slice pc m.code.length kc,.slice ph m.handlers.length kh];have K1:=Blk.new (w.alloc (.cells #[.string m.name,.string m.type,.bool m.static,.bool m.abs,.bool m.priv,.int .i64 m.locals,.slice pc m.code.length kc,.slice ph m.handlers.length kh] 53)) 27 [.slice U f.locals.length V,.slice p2 f.stack.length n2];have B1:Below w.heap.size w ((w.alloc (.cells #[.string m.name,.string m.type,.bool m.static,.bool m.abs,.bool m.priv,.int .i64 m.locals,.slice pc m.code.length kc,.slice ph m.handlers.length kh] 53)).alloc (.cells #[.slice U f.locals.length V,.slice p2 f.stack.length n2] 27)):=(Xb.alloc Xl _).alloc (by simp) _;replace K0:=K0.step (HA.out _ (.cells #[.slice U f.locals.length V,.slice p2 f.stack.length n2] 27));rw[World.size_alloc]at K1;obtain⟨w1,hw1⟩:∃w1,w1=(w.alloc (.cells #[.string m.name,.string m.type,.bool m.static,.bool m.abs,.bool m.priv,.int .i64 m.locals,.slice pc m.code.length kc,.slice ph m.handlers.length kh] 53)).alloc (.cells #[.slice U f.locals.length V,.slice p2 f.stack.length n2] 27):=⟨_,rfl⟩;rw[<-hw1]at K0 K1 B1;rw[<-hmv]at K0;have HW:=Xh hw1.symm;have HE1:Hid (EX w w1 mv (.slice U f.locals.length V) (.slice p2 f.stack.length n2)):=⟨B1,K0,K1⟩;have Hmv:=Xh hmv;have HRi:=Xh hR;have Hcf:=Xh hcf;have Hcv:=Xh hcv;have Hhv:=Xh hhv;have HCo:=Xh (zO hc);have HHo:=Xh (qL hh);have Hio:=Xh hio;have Hf:=Xh hf;have Hfr:=Xh hfr;have hlen8:m.handlers.length<=8:=(qL hh).1;have hi40:i<=40:=by have:=(zO hc).small;omega
 obtain⟨R,hRr⟩:∃R,QF (Za l) i f m.handlers=R:=⟨_,rfl⟩;have HRr:=Xh hRr;have HEd:Hid (Qaa (Za l) cls g m i f=R.bind fun a=>(ZY (Za l) cls g m.code i f).map fun b=>a++b):=by
  unfold Hid Qaa;rw[hRr]
 have HCl:Hid (∀wx (n:Str),Below w.heap.size w wx->_):=fun wx n Z=>QA l (.slice pl l.length cap) n wx (hlv.mono Z)
 have HSu:Hid (∀wx (n:Str),Below w.heap.size w wx->(Qc (Za l) n).isSome=true->_):=fun wx n Z hk=>Zae l (.slice pl l.length cap) hR _ n wx (hlv.mono Z) hk Xl
 have HFb:Hid (∀c:Str,_):=fun c=>Qc7 hR hcf c
 unfold qaj at HSu;unfold zJ at HCl;have HTh:Hid (∀wx (c:Str),c.size<=4194304->_):=fun wx c hc=>ZaD c wx hc
 have HIn:Hid (∀wx v (l:List Str),Qh wx v l->_):=fun wx v l h=>zbk l v zC wx h
 clear hlv hf hmv hw1 hR hcf hcv hhv hc hh hio hfr hRr K0 K1 B1;go_enter Tryz.func59,Tryz.ntmps59;go_upto_region 1 with fail;rw[HW.out];go_wp2_with fail;go_loopw [14,15] (fun v x wr=>∃(j:Nat) (T:List (Nat×Frm)) (ys:List Value),j<=m.handlers.length/\x=.int .i64 j/\T.length<=j/\Hid (EX w wr mv (.slice U f.locals.length V) (.slice p2 f.stack.length n2))/\Hid (z9 112 wr (w.heap.size+2) v T.length ys)/\Hid (zS wr T ys)/\Hid ((QF (Za l) i f (m.handlers.drop j)).map (fun t=>T++t)=R)) (fun _ x _=>m.handlers.length-(intOf x).toNat)
 case atStart=>exact⟨0,[],[],Nat.zero_le _,rfl,Xl,HE1,z9.empty _ _ _,rfl,by
  have:=HRr.out;unfold Hid;rw[List.drop_zero,this];cases R<;>rfl⟩
 case round =>
  obtain⟨j,T,ys,hj,rfl,hTj,J,B,hV,hI⟩:=hrel;obtain⟨va,vc,rfl⟩:=B.out.shape;have d7:=J.out.mth.cell 7;rw[Hmv.out]at d7;replace d7:=show _=some (Value.slice ph m.handlers.length kh) from d7
  by_cases hjl:j<m.handlers.length
  ·obtain⟨h,hx⟩:∃x,m.handlers[j]? = some x:=⟨m.handlers[j],by simp[hjl]⟩;obtain⟨M,o,cap0,vs,e',hhv2,hvl,qc⟩:=Hhv.out.at hjl;injection e' with e1 _ e2
   subst e1 e2;rw[show m.handlers[j]=h from Option.some.inj ((Xn hjl).symm.trans hx)]at hhv2;unfold Qt at hhv2;subst hhv2;have qc:=qc.mono J.out.below qc.lt;have Zc:=Zb4 (cs:=Za l) (i:=i) (f:=f) hx;obtain⟨_,_,ho3,ho4,ho5⟩:=HHo.out.2 h (Xe hx);obtain⟨lo,aC,dest,A⟩:=h;dsimp only at Zc ho3 ho4 ho5;obtain⟨d,rfl⟩:=Int.eq_ofNat_of_zero_le ho3;rw[Int.toNat_natCast]at Zc;obtain⟨c0,c1,c2,c3,_⟩:=qc;have Ba:=HA.out wr (.cells #[.int .i64 lo,.int .i64 aC,.int .i64 (d:Int),.string A] 126);have aA:=Blk.new wr 126 [.int .i64 lo,.int .i64 aC,.int .i64 (d:Int),.string A];have X:=Xh (J.out.step Ba);have Y:=Xh (B.out.below Ba);have HRlt:=Xh (B.out.lt);have HVa:=Xh (hV.out.keepS (qx.below Ba));have G:=hI.out;rw[Zc]at G;have hjI:(j:Int)<(m.handlers.length:Int):=(by omega);have hj0:(0:Int)<=(j:Int):=Int.natCast_nonneg _;have hcs:=qb4 ho5;clear hx hvl ho3 ho4 ho5 Zc hI J B hV;go_upto_region 6 with fail;obtain⟨wh,hwh⟩:∃wh,wh=wr.alloc (.cells #[.int .i64 lo,.int .i64 aC,.int .i64 (d:Int),.string A] 126):=⟨_,rfl⟩;rw[<-hwh]at aA X Y HVa Ba;rw[<-hwh];have y0:=aA.cell 0;have y1:=aA.cell 1;have y2:=aA.cell 2;have y3:=aA.cell 3;have Hkh:=Xh aA;clear c0 c1 c2 c3 aA Ba hwh d7;by_cases hrg:lo<=(i:Int)/\(i:Int)<aC
   ·rw[if_pos hrg]at G;obtain⟨g1,g2⟩:=hrg;have g1':¬(i:Int)<lo:=(by omega);have g2':¬aC<=(i:Int):=(by omega);have aD:=Xh (HCl.out wh A X.out.below);have Hfb:=Xh (HFb.out A);have Hx2:=Xh hcs;cases hs:(Qc (Za l) A).isSome with
    |false =>
     rw[hs]at aD;have hfb:qaa (Za l) A=false:=(by rw[Hfb.out,hs];rfl);rw[hfb,if_neg (by decide)]at G;have HR0:Hid (R=none):=G.symm;clear hs hfb G;go_wp2_with (first
      |(go_fit (aD.out);rintro e w5⟨pf,kf,pd,kd,pm,km,rfl,_,_,_,hB5,_⟩))
     exact bodyPost_ret (v:=.tuple #[.slice none 0 0,.bool false]) (by simp[results,Tryz.results59,go_sem, *]) rfl (by
      rw[HEd.out,HR0.out];exact⟨(Qa X.out.below Xl hB5).alloc (Xf X.out.below.size hB5.size) _,rfl⟩)
    |true =>
     rw[hs]at aD;have HSuh:Hid (∀wx,Below wh.heap.size wh wx->_):=fun wx Z=>HSu.out wx A (Qa X.out.below Xl Z) hs
     have Hfb2:Hid (qaa (Za l) A=QK (Zq (Za l) A) zC):=by
      unfold Hid;rw[Hfb.out,hs];rfl
     clear hs;obtain⟨bm,hbm⟩:∃bm,QK (Zq (Za l) A) zC=bm:=⟨_,rfl⟩;have HInl:Hid (∀wx v,Qh wx v (Zq (Za l) A)->Calls Tryz.prog 38 #[v,.string ⟨#[70,97,117,108,116]⟩] wx fun e w'=>e=.returned (.bool bm)/\wx=w'):=fun wx v h=>by
      rw[<-hbm];exact HIn.out wx v _ h
     rw[hbm]at Hfb2;clear hbm;rw[Hfb2.out]at G;go_upto_region 8 with(first
      |(go_fit (aD.out);rintro e w5⟨pf,kf,pd,kd,pm,km,rfl,_,_,_,hB5,_⟩))
     have H:Below wh.heap.size wh (w5.alloc (.cells #[.string ((Qc (Za l) A).getD zg).name,.string ((Qc (Za l) A).getD zg).super,.slice pf ((Qc (Za l) A).getD zg).faces.length kf,.bool ((Qc (Za l) A).getD zg).face,.slice pd ((Qc (Za l) A).getD zg).fields.length kd,.slice pm ((Qc (Za l) A).getD zg).methods.length km] 36)):=hB5.alloc hB5.size _;generalize (w5.alloc (.cells #[.string ((Qc (Za l) A).getD zg).name,.string ((Qc (Za l) A).getD zg).super,.slice pf ((Qc (Za l) A).getD zg).faces.length kf,.bool ((Qc (Za l) A).getD zg).face,.slice pd ((Qc (Za l) A).getD zg).fields.length kd,.slice pm ((Qc (Za l) A).getD zg).methods.length km] 36))=w6 at *;have HB6:=Xh H;have Hkh6:=Xh (Hkh.out.step H);clear y0 y1 y2 y3 hB5 H;have y0:=Hkh6.out.cell 0;have y3:=Hkh6.out.cell 3;cases bm with
     |false =>
      have HR0:Hid (R=none):=G.symm;clear G;go_wp2_with (first
       |(go_fit (HSuh.out _ HB6.out);rintro e y⟨⟨v7,rfl,ho7⟩,hB7⟩;(have aB:=Xh (Qa HB6 Xl hB7));(have HS7:=Xh (Ze ho7));clear ho7)
       |(go_fit (HInl.out _ _ HS7.out);rintro e w8⟨rfl,rfl⟩))
      exact bodyPost_ret (v:=.tuple #[.slice none 0 0,.bool false]) (by simp[results,Tryz.results59,go_sem, *]) rfl (by
       rw[HEd.out,HR0.out];exact⟨Qa X.out.below Xl aB.out,rfl⟩)
     |true =>
      rw[if_pos rfl]at G;have HI3:Hid ((QF (Za l) i f (m.handlers.drop (j+1))).map (fun t=>(T++[(d,(⟨f.locals,[Zd A]⟩:Frm))])++t)=R):=by
       unfold Hid;rw[<-G];cases QF (Za l) i f (m.handlers.drop (j+1)) with
       |none=>rfl
       |some t=>simp
      clear G;go_upto_region 10 with(first
       |(go_fit (HSuh.out _ HB6.out);rintro e y⟨⟨v7,rfl,ho7⟩,hB7⟩;(have aB:=Xh (Qa HB6 Xl hB7));(have HS7:=Xh (Ze ho7));clear ho7)
       |(go_fit (HInl.out _ _ HS7.out);rintro e w8⟨rfl,rfl⟩))
      clear y0 y3 hB7;have HE7:=Xh (X.out.step aB.out);have HRow7:=Xh (Y.out.below aB.out);have HV7:=Xh (HVa.out.keepS (qx.below aB.out));have Hkh7:=Hkh.out.step aB.out;have y2:=Hkh7.cell 2;have y3:=Hkh7.cell 3;have x0:=HE7.out.frm.cell 0;have HThc:Hid (∀wx,_):=fun wx=>HTh.out wx A (Xf Hx2.out (by decide))
      clear Hkh7;have BA:=((Below.refl y.heap.size y).drew).alloc (by exact Xl) (.cells #[.string (Zd A)] 9);have BB:=BA.alloc BA.size (.cells #[.int .i64 (d:Int),.slice U f.locals.length V,.slice (some ⟨y.heap.size,0,none⟩) 1 1] 112);have C:=HRow7.out.below BB;have hbs:=(HE7.out.step BB).lt;have HEB:=Xh (HE7.out.step BB);have HVB:=Xh (HV7.out.keepS (qx.below BB));have hSB:Hid (Qh (((y.drew.alloc (.cells #[.string (Zd A)] 9)).alloc (.cells #[.int .i64 (d:Int),.slice U f.locals.length V,.slice (some ⟨y.heap.size,0,none⟩) 1 1] 112))) (.slice (some ⟨y.heap.size,0,none⟩) 1 1) [Zd A]):=(Qs y.drew (Zd A)).mono (HA.out _ _);have hFB:=Xh (Hf.out.1.mono (Qa HE7.out.below Xl BB));have hone:∀u∈[Value.int .i64 (d:Int),.slice U f.locals.length V,.slice (some ⟨y.heap.size,0,none⟩) 1 1],u.oneCell'=true:=fun u hu=>by
       simp at hu;rcases hu with rfl|rfl|rfl<;>rfl
      have hcel:∀(k:Nat) (u:Value),[Value.int .i64 (d:Int),.slice U f.locals.length V,.slice (some ⟨y.heap.size,0,none⟩) 1 1][k]? = some u->((y.drew.alloc (.cells #[.string (Zd A)] 9)).alloc (.cells #[.int .i64 (d:Int),.slice U f.locals.length V,.slice (some ⟨y.heap.size,0,none⟩) 1 1] 112)).cell? ((⟨y.heap.size+1,0,none⟩:Addr).add k)=some u:=fun k u hu=>by
       have:=(Blk.new (y.drew.alloc (.cells #[.string (Zd A)] 9)) 112 [Value.int .i64 (d:Int),.slice U f.locals.length V,.slice (some ⟨y.heap.size,0,none⟩) 1 1]).cell k;rw[World.size_alloc]at this;rw[zbq rfl,Nat.zero_add];exact this.trans hu
      have h63:T.length+1<=maxLen:=(by unfold maxLen;omega);have h56:(T.length+1)*56<=140737488355328:=(by omega);have Hone:=Xh hone;have Hcel:=Xh hcel;have HkB:=Xh ((Hkh.out.step aB.out).step BB);clear BA BB hone hcel;go_region_held3 (fun w'=>w'.cell? ⟨wr.heap.size,2,none⟩=some (.int .i64 (d:Int))/\w'.cell? ⟨wr.heap.size,3,none⟩=some (.string A)/\w'.cell? ⟨w.heap.size+1,0,none⟩=some (.slice U f.locals.length V))
       (first|go_keep)
       (first
        |(go_fit (HThc.out _);rintro e w5⟨rfl,rfl⟩)
        |(refine qaN Tryz.underlying108 Qcn (by rfl) _ _ (by rfl) (w.heap.size+2) _ T.length ys (by rfl) C hbs (.int .i64 (d:Int)) (.slice U f.locals.length V) (.slice (some ⟨y.heap.size,0,none⟩) 1 1) ⟨y.heap.size+1,0,none⟩ 1 (by rfl) Hcel.out Hone.out (by simp[zaT]) h63 h56 ?_;intro v9 w9 hR9 O _;(have HR9:=Xh hR9);(have Hg9:=Xh O);(have HE9:=Xh (HEB.out.grown O (fun g e=>(C.lt g e).1)));(have kh9:=HkB.out.grown O (fun e=>by have:=(HRlt.out _ e);omega));(have y2:=kh9.cell 2);(have y3:=kh9.cell 3);(have x0:=HE9.out.frm.cell 0);(have HS9:=Xh (C.keepS O));clear hR9 O kh9))
      all_goals
       clear y2 y3 x0;go_wp2_with fail;go_roundw;case rel =>
        refine⟨j+1,T++[(d,(⟨f.locals,[Zd A]⟩:Frm))],_,by omega,by simp,by rw[List.length_append];show _+1<=_;omega,HE9,?_,zS.snoc ⟨HS9.out.strs hFB.out,HS9.out.strs hSB.out⟩ (HVB.out.keepS HS9.out),HI3⟩;unfold Hid;rw[List.length_append];exact HR9.out
       case measure=>simp[intOf];omega
   ·rw[if_neg hrg]at G;have HI2:=Xh G;by_cases h1:lo<=(i:Int)
    ·have h2:¬(i:Int)<aC:=fun h2=>hrg ⟨h1,h2⟩
     have h1':¬(i:Int)<lo:=(by omega);have h2':aC<=(i:Int):=(by omega);clear hrg G;go_wp2_with fail;go_roundw;case rel=>exact⟨j+1,T,ys,by omega,by simp,by omega,X,Y,HVa,HI2⟩
     case measure=>simp[intOf];omega
    ·have h1':(i:Int)<lo:=(by omega);clear hrg G;go_wp2_with fail;go_roundw;case rel=>exact⟨j+1,T,ys,by omega,by simp,by omega,X,Y,HVa,HI2⟩
     case measure=>simp[intOf];omega
  ·obtain rfl:j=m.handlers.length:=(by omega);have HRT:Hid (R=some T):=by
    have:=hI.out;rw[List.drop_length]at this;unfold Hid;rw[<-this];show some (T++[])=some T
    rw[List.append_nil]
   obtain⟨x,hx⟩:∃x,m.code[i]? = some x:=⟨m.code[i],by simp[hin]⟩;have hxm:=Xe hx;have HQ:Hid (Qaa (Za l) cls g m i f=(zp (Za l) cls g x f.locals f.stack).map fun p=>T++(qax x i).map fun k=>(k,⟨p.1,p.2⟩)):=by
    unfold Hid;rw[HEd.out,HRT,Option.bind_some];unfold ZY;rw[hx];dsimp only;cases zp (Za l) cls g x f.locals f.stack<;>rfl
   obtain⟨M,o,cap0,vs,e,hxv,hvl,qc⟩:=Hcv.out.at hin;injection e with e1 _ e2
   subst e1 e2;rw[show m.code[i]=x from Option.some.inj ((Xn hin).symm.trans hx)]at hxv;unfold Zw at hxv;subst hxv;have qc:=qc.mono J.out.below qc.lt;have Hxo:=Xh (And.intro (Hio.out x hxm) (HCo.out.ins x hxm));have Hxj:=Xh (HCo.out.jumps x hxm);have I:Hid (∀wx,Below w.heap.size w wx->_):=fun wx Z=>QcL l (.slice pl l.length cap) HRi.out Hcf.out wx (HLv.out.mono Z) cls g x.op x.a x.b x.type x.cls x.name f.locals f.stack _ _ (Hf.out.mono Z) Hfr.out Hxo.out.1.type (Xf Hxo.out.1.cls (by decide)) hgs Hxo.out.2
   have HRa:Hid (∀wx,Below w.heap.size w wx->_):=fun wx Z=>Qcz m.code (.slice (some ⟨M,o,none⟩) m.code.length kc) wx (Hcv.out.mono Z (by decide) (fun _ _ h=>h)) i x hx (by omega) (fun hj=>(Hxj.out hj).1)
   clear hx hxm;obtain⟨op,xa,xb,D,E,F⟩:=x;obtain⟨c0,c1,c2,c3,c4,c5,_⟩:=qc;have HS:Hid (∀wx,Below wr.heap.size wr wx->ZaW wx w.heap.size (w.heap.size+1) M (o+i*6) (.slice (some ⟨M,o,none⟩) m.code.length kc) (.slice U f.locals.length V) (.slice p2 f.stack.length n2) ⟨op,xa,xb,D,E,F⟩) :=
    fun wx Z=>ZaW.step ⟨by rw[J.out.mth.cell 6,Hmv.out];rfl,J.out.frm.cell 0,J.out.frm.cell 1,c0,c1,c2,c3,c4,c5⟩ Z
   have HLt:Hid (w.heap.size<wr.heap.size/\w.heap.size+1<wr.heap.size/\M<wr.heap.size):=⟨J.out.mth.lt,J.out.frm.lt,ql c0⟩;obtain⟨k0,k1,k2,k3,k4,k5,k6,k7,k8⟩:=HS.out wr Xb;have hinI:(i:Int)<(m.code.length:Int):=(by omega);have hi0:(0:Int)<=(i:Int):=Int.natCast_nonneg _;unfold Ql at I;dsimp only at I HQ HRa Hxj;clear c0 c1 c2 c3 c4 c5 hvl hI;cases hst:zp (Za l) cls g ⟨op,xa,xb,D,E,F⟩ f.locals f.stack with
   |none =>
    rw[hst]at I HQ;have HQ0:Hid (Qaa (Za l) cls g m i f=none):=HQ.out;replace I:Hid (∀wx,Below wr.heap.size wr wx->Calls _ _ _ wx fun e w'=>(∃p n c q m d,e=.returned (.tuple #[.agg #[.slice p n c,.slice q m d],.bool false]))/\Below wx.heap.size wx w'/\ZaW w' w.heap.size (w.heap.size+1) M (o+i*6) (.slice (some ⟨M,o,none⟩) m.code.length kc) (.slice U f.locals.length V) (.slice p2 f.stack.length n2) ⟨op,xa,xb,D,E,F⟩):=fun wx Z=>(I.out wx (Qa J.out.below Xl Z)).mono fun e w' ⟨hB,he⟩=>by
     rcases he with⟨_,he⟩|⟨_,_,_,_,he,_⟩
     ·exact⟨he,hB,HS.out w' (Qa Z Xl hB)⟩
     ·cases he
    clear hst HQ HRa;go_upto_region 11 with fail;clear d7;go_cut [19,20] from 75 to 87 (fun _ b wx=>b=.bool false/\Below w.heap.size w wx)
    case first =>
     go_region_held3 (fun w'=>w'.cell? ⟨w.heap.size,6,none⟩=some (.slice (some ⟨M,o,none⟩) m.code.length kc)/\w'.cell? ⟨w.heap.size+1,0,none⟩=some (.slice U f.locals.length V)/\w'.cell? ⟨w.heap.size+1,1,none⟩=some (.slice p2 f.stack.length n2)/\w'.cell? ⟨M,o+i*6,none⟩=some (.int .i64 op)/\w'.cell? ⟨M,o+i*6+1,none⟩=some (.int .i64 xa)/\w'.cell? ⟨M,o+i*6+1+1,none⟩=some (.int .i64 xb)/\w'.cell? ⟨M,o+i*6+1+1+1,none⟩=some (.string D)/\w'.cell? ⟨M,o+i*6+1+1+1+1,none⟩=some (.string E)/\w'.cell? ⟨M,o+i*6+1+1+1+1+1,none⟩=some (.string F))
      (first|go_keep|exact ZaW.other (x:=⟨op,xa,xb,D,E,F⟩) ⟨k0,k1,k2,k3,k4,k5,k6,k7,k8⟩ HLt.out.1 HLt.out.2.1 HLt.out.2.2 _ _)
      (first
       |(go_fit (I.out _ ?_);(first|exact Xb.drew|exact(Xb.alloc Xl _).drew);rintro e w3⟨⟨pa,na,ca,qa,ma,da,rfl⟩,z,k0,k1,k2,k3,k4,k5,k6,k7,k8⟩;(first|(have KB:Blk w3 wr.heap.size 27 [.slice none 0 0,.slice none 0 0]:=Blk.step (w:=(wr.alloc (.cells #[.slice none 0 0,.slice none 0 0] 27)).drew) (Blk.new wr 27 [.slice none 0 0,.slice none 0 0]) z;obtain⟨x0,x1⟩:=KB.cells2;(have f0:=KB.frozen 0);(have f1:=KB.frozen 1))|skip)))
     all_goals (go_wp2_with fail;go_meet;first
      |exact⟨rfl,(Qa J.out.below Xl (Qa (Xb.drew) Xl z)).alloc (Xf J.out.below.size z.size) _⟩
      |exact⟨rfl,((Qa J.out.below Xl (Qa (w:=wr) ((Xb.alloc Xl _).drew) Xl z)).setCell J.out.below.size _).setCell J.out.below.size _⟩)
    case rest =>
     obtain⟨rfl,hB⟩:=hcut;clear k0 k1 k2 k3 k4 k5 k6 k7 k8 I;go_wp2_with fail;exact bodyPost_ret (v:=.tuple #[.slice none 0 0,.bool false]) (by simp[results,Tryz.results59,go_sem, *]) rfl (by
      rw[HQ0.out];exact⟨hB,rfl⟩)
   |some r =>
    obtain⟨L,S⟩:=r;rw[hst]at I HQ;have HQ1:Hid (Qaa (Za l) cls g m i f=some (T++(qax ⟨op,xa,xb,D,E,F⟩ i).map fun k=>(k,⟨L,S⟩))):=HQ.out;replace I:Hid (∀wx,Below wr.heap.size wr wx->Calls _ _ _ wx fun e w'=>(∃lv sv,e=.returned (.tuple #[.agg #[lv,sv],.bool true])/\zk w' lv sv ⟨L,S⟩)/\Below wx.heap.size wx w'/\ZaW w' w.heap.size (w.heap.size+1) M (o+i*6) (.slice (some ⟨M,o,none⟩) m.code.length kc) (.slice U f.locals.length V) (.slice p2 f.stack.length n2) ⟨op,xa,xb,D,E,F⟩):=fun wx Z=>(I.out wx (Qa J.out.below Xl Z)).mono fun e w' ⟨hB,he⟩=>by
     rcases he with⟨he,_⟩|⟨L',S',v1,v2,he,h2,h3⟩
     ·cases he
     ·injection he with he
      injection he with e1 e2
      subst e1 e2;exact⟨⟨v1,v2,h2,h3⟩,hB,HS.out w' (Qa Z Xl hB)⟩
    clear hst HQ;go_upto_region 11 with fail;clear d7;go_cut [19,20] from 75 to 87 (fun p b wx=>b=.bool true/\qag wr wx ⟨L,S⟩ p)
    case first =>
     go_region_held3 (fun w'=>w'.cell? ⟨w.heap.size,6,none⟩=some (.slice (some ⟨M,o,none⟩) m.code.length kc)/\w'.cell? ⟨w.heap.size+1,0,none⟩=some (.slice U f.locals.length V)/\w'.cell? ⟨w.heap.size+1,1,none⟩=some (.slice p2 f.stack.length n2)/\w'.cell? ⟨M,o+i*6,none⟩=some (.int .i64 op)/\w'.cell? ⟨M,o+i*6+1,none⟩=some (.int .i64 xa)/\w'.cell? ⟨M,o+i*6+1+1,none⟩=some (.int .i64 xb)/\w'.cell? ⟨M,o+i*6+1+1+1,none⟩=some (.string D)/\w'.cell? ⟨M,o+i*6+1+1+1+1,none⟩=some (.string E)/\w'.cell? ⟨M,o+i*6+1+1+1+1+1,none⟩=some (.string F))
      (first|go_keep|exact ZaW.other (x:=⟨op,xa,xb,D,E,F⟩) ⟨k0,k1,k2,k3,k4,k5,k6,k7,k8⟩ HLt.out.1 HLt.out.2.1 HLt.out.2.2 _ _)
      (first
       |(go_fit (I.out _ ?_);(first|exact Xb.drew|exact(Xb.alloc Xl _).drew);rintro e w3⟨⟨lv3,sv3,rfl,hv3⟩,z,k0,k1,k2,k3,k4,k5,k6,k7,k8⟩;obtain⟨⟨p3,n3,rfl,_⟩,⟨p4,n4,rfl,_⟩⟩:=And.intro hv3.1.open hv3.2.open;(first|(have KB:Blk w3 wr.heap.size 27 [.slice none 0 0,.slice none 0 0]:=Blk.step (w:=(wr.alloc (.cells #[.slice none 0 0,.slice none 0 0] 27)).drew) (Blk.new wr 27 [.slice none 0 0,.slice none 0 0]) z;obtain⟨x0,x1⟩:=KB.cells2;(have f0:=KB.frozen 0);(have f1:=KB.frozen 1))|skip)))
     all_goals (go_wp2_with fail;go_meet;first
      |exact⟨rfl,qag.late (Qa (Xb.drew) Xl z) hv3⟩
      |exact⟨rfl,qag.early (Qa (Xb.drew) Xl z) hv3⟩)
    case rest =>
     obtain⟨rfl,nb,v1,v2,rfl,hnb,Kb,hBw,hFv⟩:=hcut;obtain⟨⟨p3,n3,rfl,hz3⟩,⟨p4,n4,rfl,hz4⟩⟩:=And.intro hFv.1.open hFv.2.open;clear k0 k1 k2 k3 k4 k5 k6 k7 k8 I hz3 hz4;obtain⟨m6,_⟩:=HS.out wc hBw;have HEc:=Xh (J.out.step hBw);have HRc:=Xh (B.out.below hBw);have HVc:=Xh (hV.out.keepS (qx.below hBw));have HRlt:=Xh B.out.lt;have HKb:=Xh Kb;have HFv:=Xh hFv;have Hnb:=Xh hnb;have HRac:=Xh (HRa.out wc HEc.out.below);have hBw':=hBw.size;clear HRa Kb hBw hFv hnb J B hV;obtain⟨N,hN⟩:∃N,qax ⟨op,xa,xb,D,E,F⟩ i=N:=⟨_,rfl⟩;have hNl:N.length<=2:=(by rw[<-hN];exact zco _ i);rw[hN]at HRac HQ1;clear hN;go_upto_region 15 with(first
      |(go_fit (HRac.out);rintro e w6⟨v6,rfl,H,hq6⟩;obtain⟨a6,c6,rfl⟩:=ZaA hq6))
     obtain⟨g6,g6a,g6b,g6c⟩:=Zdq hq6;have HB6:=Xh H;have HG6:=Xh g6c;have HN40:=Xh hq6;have HE6:=Xh (HEc.out.step H);have HR6:=Xh (HRc.out.below H);have HV6:=Xh (HVc.out.keepS (qx.below H));have s:=Xh (HKb.out.step H);have HFv6:=Xh (HFv.out.mono H);have Hsz:Hid (wr.heap.size<=wc.heap.size/\wc.heap.size<=w6.heap.size):=⟨hBw',H.size⟩;clear H hq6 g6a g6c m6;obtain⟨so,hso⟩:∃n,wr.heap.size=n:=⟨_,rfl⟩;have P:Hid (so<=nb/\nb<w6.heap.size/\so<=g6):=by
      have h1:=Hnb.out;have h2:=s.out.lt;have h3:=Hsz.out.1;exact⟨by omega,h2,by omega⟩
     go_wp2_with fail;go_loopw [14,22] (fun v x wy=>∃(k:Nat) (ys2:List Value),k<=N.length/\x=.int .i64 k/\Hid (EX w wy mv (.slice U f.locals.length V) (.slice p2 f.stack.length n2))/\Hid (z9 112 wy (w.heap.size+2) v (T++(N.take k).map fun q=>(q,(⟨L,S⟩:Frm))).length ys2)/\Hid (zS wy (T++(N.take k).map fun q=>(q,(⟨L,S⟩:Frm))) ys2) /\
      Hid (zc8 so w6 wy v)) (fun _ x _=>N.length-(intOf x).toNat)
     case atStart=>exact⟨0,ys,Nat.zero_le _,rfl,HE6,by unfold Hid;simpa using HR6.out,by unfold Hid;simpa using HV6.out,fun _ _ _=>rfl,fun g e=>Or.inl (by have:=(HRlt.out g e).2;omega),fun _ _ e=>e,Xl⟩
     case round =>
      obtain⟨k,ys2,hk,rfl,J,B,hV,hI⟩:=hrel;obtain⟨va2,vc2,rfl⟩:=B.out.shape;by_cases hkl:k<N.length
      ·obtain⟨q,hq⟩:∃q,N[k]? = some q:=⟨N[k],by simp[hkl]⟩;obtain⟨off,cap2,e,hc⟩:=HG6.out k q hq;injection e with e1 _ e2
       subst e1 e2;have cq:=(hI.out.cell (a:=⟨g6,off+k,none⟩) P.out.2.2 (ql hc)).trans hc;unfold zL at cq;have x0:=(hI.out.cell (a:=⟨nb,0,none⟩) P.out.1 P.out.2.1).trans (s.out.cell 0);have x1:=(hI.out.cell (a:=⟨nb,1,none⟩) P.out.1 P.out.2.1).trans (s.out.cell 1);replace x0:=show _=some (Value.slice p3 L.length n3) from x0
       replace x1:=show _=some (Value.slice p4 S.length n4) from x1
       have HS1':=Xh (ql hc);have Hcq:Hid (w6.cell? ⟨g6,off+k,none⟩=some (.int .i64 (q:Int))):=hc;obtain⟨TT,hTT⟩:∃TT,T++(N.take k).map (fun q=>(q,(⟨L,S⟩:Frm)))=TT:=⟨_,rfl⟩;have HTT:Hid (T++(N.take (k+1)).map (fun q=>(q,(⟨L,S⟩:Frm)))=TT++[(q,(⟨L,S⟩:Frm))]):=by
        unfold Hid;rw[<-hTT,List.take_add_one,hq];simp
       have hTl:TT.length<=10:=by
        rw[<-hTT,List.length_append,List.length_map,List.length_take];omega
       rw[hTT]at B hV;rw[hTT];have hIc:Hid (zc8 so w6 wr (.slice va2 TT.length vc2)):=by
        have:=hI;rw[hTT]at this;exact this
       have hkI:(k:Int)<(N.length:Int):=(by omega);have hk0:(0:Int)<=(k:Int):=Int.natCast_nonneg _;clear hc hq hTT hI HN40;have BB:=((Below.refl wr.heap.size wr).drew).alloc (by exact Xl) (.cells #[.int .i64 (q:Int),.slice p3 L.length n3,.slice p4 S.length n4] 112);have C:=B.out.below BB;have hbs:=(J.out.step BB).lt;have HEB:=Xh (J.out.step BB);have HVB:=Xh (hV.out.keepS (qx.below BB));have HBB:=Xh BB;have Hone:Hid (∀u∈[Value.int .i64 (q:Int),.slice p3 L.length n3,.slice p4 S.length n4],u.oneCell'=true):=fun u hu=>by
        simp at hu;rcases hu with rfl|rfl|rfl<;>rfl
       have Hcel:Hid (∀(j:Nat) (u:Value),[Value.int .i64 (q:Int),.slice p3 L.length n3,.slice p4 S.length n4][j]? = some u->(wr.drew.alloc (.cells #[.int .i64 (q:Int),.slice p3 L.length n3,.slice p4 S.length n4] 112)).cell? ((⟨wr.heap.size,0,none⟩:Addr).add j)=some u):=fun j u hu=>by
        have:=(Blk.new wr.drew 112 [Value.int .i64 (q:Int),.slice p3 L.length n3,.slice p4 S.length n4]).cell j;rw[zbq rfl,Nat.zero_add];exact this.trans hu
       have h63:TT.length+1<=maxLen:=(by unfold maxLen;omega);have h56:(TT.length+1)*56<=140737488355328:=(by omega);clear BB;go_upto_region 18 with fail;go_region_held3 (fun w'=>w'.cell? ⟨g6,off+k,none⟩=some (.int .i64 (q:Int))/\w'.cell? ⟨nb,0,none⟩=some (.slice p3 L.length n3)/\w'.cell? ⟨nb,1,none⟩=some (.slice p4 S.length n4))
        (first|go_keep)
        (first
         |(refine qaN Tryz.underlying108 Qcn (by rfl) _ _ (by rfl) (w.heap.size+2) _ TT.length ys2 (by rfl) C hbs (.int .i64 (q:Int)) (.slice p3 L.length n3) (.slice p4 S.length n4) ⟨wr.heap.size,0,none⟩ 1 (by rfl) Hcel.out Hone.out (by simp[zaT]) h63 h56 ?_;intro v9 w9 hR9 O ho9;(have HR9:=Xh hR9);(have HE9:=Xh (HEB.out.grown O (fun g e=>(C.lt g e).1)));(have HI9:=Xh (hIc.out.grown HBB.out O (C.keepS O) ho9));(have y1:=(HI9.out.cell (a:=⟨g6,off+k,none⟩) P.out.2.2 HS1'.out).trans Hcq.out);(have y2:=(HI9.out.cell (a:=⟨nb,0,none⟩) P.out.1 P.out.2.1).trans (s.out.cell 0));(have y3:=(HI9.out.cell (a:=⟨nb,1,none⟩) P.out.1 P.out.2.1).trans (s.out.cell 1));(have HS9:=Xh (C.keepS O));clear hR9 O ho9))
       all_goals
        clear x0 x1 cq;go_wp2_with fail;go_roundw;case rel =>
         refine⟨k+1,ys2++[.int .i64 (q:Int),.slice p3 L.length n3,.slice p4 S.length n4],by omega,by simp,HE9,?_,?_,?_⟩;all_goals unfold Hid
         ·rw[HTT.out,List.length_append];exact HR9.out
         ·rw[HTT.out];exact zS.snoc (HFv6.out.keepS HI9.out.2.2.1) (HVB.out.keepS HS9.out)
         ·exact HI9.out
        case measure=>simp[intOf];omega
      ·obtain rfl:k=N.length:=(by omega);go_wp2_with fail;exact bodyPost_ret (v:=.tuple #[.slice va2 (T++(N.take N.length).map fun q=>(q,(⟨L,S⟩:Frm))).length vc2,.bool true]) (by simp[results,Tryz.results59,go_sem, *]) rfl (by
        rw[HQ1.out];have h1:=B.out;have h2:=hV.out;rw[List.take_length]at h1 h2 ⊢;exact⟨J.out.below,_,ys2,rfl,h1,h2⟩)
set_option maxRecDepth 512
def qdy:Frm:=⟨[],[]⟩
def qev(w:World)(b n:Nat)(F:Asg Frm):Prop:=∃cur:List Value,Blk w b 27 cur/\cur.length=n*2/\∀i,i<n->∃u v,cur[i*2]? = some u/\cur[i*2+1]? = some v/\zk w u v ((F i).getD qdy)
def zbr(n:Nat)(F:Asg Frm):List Value:=(List.range n).map fun i=>.bool (F i).isSome
theorem zcM{n i:Nat}(A:i<n)(F:Asg Frm):(zbr n F)[i]? = some (.bool (F i).isSome):=by
 unfold zbr;rw[List.getElem?_map,List.getElem?_range A];rfl
theorem Qdy{n i:Nat}(F:Asg Frm)(f:Frm):(zbr n F).set i (.bool true)=zbr n (F.put i f):=by
 refine List.ext_getElem? fun k=>?_
 rw[List.getElem?_set];unfold zbr;simp only[List.length_map,List.length_range,List.getElem?_map];by_cases A:k<n
 ·rw[List.getElem?_range A];by_cases e:i=k
  ·subst e;rw[if_pos rfl,if_pos A,Option.map_some,Asg.put_self];rfl
  ·rw[if_neg e,Option.map_some,Option.map_some,Asg.put_other F f (fun h=>e h.symm)]
 ·have B:(List.range n)[k]? = none:=List.getElem?_eq_none (by rw[List.length_range];omega);rw[B];split
  ·rename_i e;subst e;rw[if_neg A];rfl
  ·rfl
theorem za1{w:World}{u v:Value}{f:Frm}(h:zk w u v f):∃p k q d,u=.slice p f.locals.length k/\v=.slice q f.stack.length d:=by
 obtain⟨⟨p,k,A,_⟩,⟨q,d,B,_⟩⟩:=And.intro h.1.open h.2.open;exact⟨p,k,q,d,A,B⟩
structure FH (w:World) (b c n:Nat) (F:Asg Frm):Prop where
 fr:qev w b n F
 has:Blk w c 4 (zbr n F)
 ne:b≠c
theorem FH.lt{w:World}{b c n:Nat}{F:Asg Frm}(h:FH w b c n F):b<w.heap.size/\c<w.heap.size:=by
 obtain⟨A,B,_⟩:=h.fr;exact⟨B.lt,h.has.lt⟩
theorem FH.keep{w w':World}{b c n:Nat}{F:Asg Frm}(h:FH w b c n F)(B:qx w w')(C:w'.heap[b]? = w.heap[b]?)(D:w'.heap[c]? = w.heap[c]?):FH w' b c n F:=by
 obtain⟨⟨A,E,G,H⟩,I,J⟩:=h;refine⟨⟨A,C.trans E,G,fun i O=>?_⟩,D.trans I,J⟩;obtain⟨u,v,L,M,N⟩:=H i O;exact⟨u,v,L,M,N.keepS B⟩
theorem FH.step{w w':World}{b c n:Nat}{F:Asg Frm}(h:FH w b c n F)(A:Below w.heap.size w w'):FH w' b c n F:=h.keep (qx.below A) (A.block b h.lt.1) (A.block c h.lt.2)
theorem FH.at{w:World}{b c n:Nat}{F:Asg Frm}(h:FH w b c n F){i:Nat}(B:i<n):∃p k q d,w.cell? ⟨b,i*2,none⟩=some (.slice p ((F i).getD qdy).locals.length k)/\w.cell? ⟨b,i*2+1,none⟩=some (.slice q ((F i).getD qdy).stack.length d)/\zk w (.slice p ((F i).getD qdy).locals.length k) (.slice q ((F i).getD qdy).stack.length d) ((F i).getD qdy)/\w.frozen? ⟨b,i*2,none⟩=false/\w.frozen? ⟨b,i*2+1,none⟩=false/\w.cell? ⟨c,i,none⟩=some (.bool (F i).isSome)/\w.frozen? ⟨c,i,none⟩=false:=by
 obtain⟨⟨E,A,J,G⟩,C,L⟩:=h;obtain⟨u,v,H,I,D⟩:=G i B;obtain⟨p,k,q,d,rfl,rfl⟩:=za1 D;exact⟨p,k,q,d,(A.cell _).trans H,(A.cell _).trans I,D,A.frozen _,A.frozen _,(C.cell _).trans (zcM B F),C.frozen _⟩
theorem Zc8{w:World}{u v:Value}{f:Frm}(h:zk w u v f):(∀s,u≠.string s)/\∀s,v≠.string s:=by
 obtain⟨p,k,q,d,rfl,rfl⟩:=za1 h;exact⟨fun s e=>(nomatch e),fun s e=>(nomatch e)⟩
def ZcM(w:World)(b c i:Nat)(u v:Value):World:=((w.setCell ⟨b,i*2,none⟩ u).setCell ⟨b,i*2+1,none⟩ v).setCell ⟨c,i,none⟩ (.bool true)
theorem FH.puts{w:World}{b c n:Nat}{F:Asg Frm}(h:FH w b c n F){i:Nat}(C:i<n)(u v:Value):qx w (ZcM w b c i u v):=by
 obtain⟨⟨B,D,V,M⟩,N,E⟩:=h;obtain⟨u0,O,P,R,S⟩:=M i C;obtain⟨T,U⟩:=Zc8 S;have G:=qx.put D P T u;have H:=D.put (i*2) u;have A:(B.set (i*2) u)[i*2+1]? = some O:=by
  rw[List.getElem?_set,if_neg (by omega)];exact R
 have I:=qx.put H A U v;have J:=(N.other (fun e=>E e.symm) (i*2) u).other (fun e=>E e.symm) (i*2+1) v;have L:=qx.put J (zcM C F) (fun s e=>by cases e) (.bool true);exact(G.trans I).trans L
theorem FH.put{w:World}{b c n:Nat}{F:Asg Frm}(h:FH w b c n F){i:Nat}(D:i<n){u v:Value}{f:Frm}(E:zk w u v f):FH (ZcM w b c i u v) b c n (F.put i f):=by
 have B:=h.puts D u v;obtain⟨⟨H,I,J,L⟩,M,A⟩:=h;have G:=((I.put (i*2) u).put (i*2+1) v).other A i (.bool true);have C:=(((M.other (fun e=>A e.symm) (i*2) u).other (fun e=>A e.symm) (i*2+1) v)).put i (.bool true);rw[Qdy F f]at C;refine⟨⟨_,G,by simp[J],fun j S=>?_⟩,C,A⟩;by_cases e:j=i
 ·subst e;rw[Asg.put_self];refine⟨u,v,?_,?_,E.keepS B⟩
  ·rw[List.getElem?_set,if_neg (by omega),List.getElem?_set,if_pos rfl,if_pos (by omega)]
  ·rw[List.getElem?_set,if_pos rfl,if_pos (by rw[List.length_set];omega)]
 ·obtain⟨u0,N,O,P,R⟩:=L j S;rw[Asg.put_other F f e];refine⟨u0,N,?_,?_,R.keepS B⟩
  ·rw[List.getElem?_set,if_neg (by omega),List.getElem?_set,if_neg (by omega)];exact O
  ·rw[List.getElem?_set,if_neg (by omega),List.getElem?_set,if_neg (by omega)];exact P
theorem z9.at{F:TypeId}{w:World}{base:Nat}{v:Value}{l:List (Nat×Frm)}{xs:List Value}(h:z9 F w base v l.length xs)(G:zS w l xs){i:Nat}{p:Nat×Frm}(C:l[i]? = some p):∃g cap a k q d,v=.slice (some ⟨g,0,none⟩) l.length cap/\base<=g/\g<w.heap.size/\w.cell? ⟨g,i*3,none⟩=some (.int .i64 (p.1:Int))/\w.cell? ⟨g,i*3+1,none⟩=some (.slice a p.2.locals.length k)/\w.cell? ⟨g,i*3+1+1,none⟩=some (.slice q p.2.stack.length d)/\zk w (.slice a p.2.locals.length k) (.slice q p.2.stack.length d) p.2:=by
 obtain⟨M,N,D,H,I,J⟩:=G.at C;obtain⟨a,k,q,d,rfl,rfl⟩:=za1 D;rcases h with⟨_,h,_⟩|⟨g,cap,E,rfl,L,A,_,_,_,_,_,B⟩
 ·have:=(List.getElem?_eq_some_iff.1 C).1;omega
 ·exact⟨g,cap,a,k,q,d,rfl,L,A.lt,(A.cell _).trans (B _ _ H),(A.cell _).trans (B _ _ I),(A.cell _).trans (B _ _ J),D⟩
theorem zdz:(Tryz.prog.info? 4).map (fun i=>(i.zero,i.size,i.bytes))=some (some (.bool false),1,1):=by kernel_rfl
theorem QdT:(Tryz.prog.info? 27).map (fun i=>(i.zero,i.size,i.bytes))=some (some (.agg #[.slice none 0 0,.slice none 0 0]),2,48):=by kernel_rfl
theorem qc8(n:Nat)(A:n<=16777216)(w:World):(Instr.makeSlice 58 (.int .i64 (n:Int)) (.int .i64 (n:Int))).run Tryz.prog w=.ok (.slice (some ⟨w.heap.size,0,none⟩) n n) (w.alloc (.cells (Array.replicate n (Value.bool false)) 4)):=by
 rw[run_make_row' 58 4 (.bool false) 1 Tryz.underlying58 zdz rfl .i64 .i64 n (by omega) (by omega) w];have h:madeCells #[Value.bool false] n=Array.replicate n (Value.bool false):=by
  apply Array.toList_inj.1;rw[toList_madeCells_one,Array.toList_replicate]
 rw[h]
theorem Zdz(n:Nat):madeCells #[Value.slice none 0 0,.slice none 0 0] (n*2)=Array.replicate (n*2) (Value.slice none 0 0):=by
 refine Array.ext (by simp[size_madeCells]) fun i A B=>?_
 simp only[madeCells,Array.getElem_map,Array.getElem_range,Array.getElem_replicate];have:i % 2=0\/i % 2=1:=by omega
 show(#[Value.slice none 0 0,.slice none 0 0])[i % 2]! = _
 rcases this with h|h<;>simp[h]
theorem qdz(n:Nat)(G:n<=16777216)(w:World):(Instr.makeSlice 57 (.int .i64 (n:Int)) (.int .i64 (n:Int))).run Tryz.prog w=.ok (.slice (some ⟨w.heap.size,0,none⟩) n n) (w.alloc (.cells (Array.replicate (n*2) (Value.slice none 0 0)) 27)):=by
 obtain⟨E,F,A,B,C⟩:=info_parts QdT;have D:=run_make (P:=Tryz.prog) w 57 27 E (.agg #[.slice none 0 0,.slice none 0 0]) Tryz.underlying57 F A .i64 .i64 n n (by omega) (Int.le_refl _) (by rw[C];omega) (by omega);rw[Int.toNat_natCast,B,show(Value.agg #[Value.slice none 0 0,.slice none 0 0]).cells=#[Value.slice none 0 0,.slice none 0 0] from rfl,Zdz]at D;exact D
theorem FH.made(w:World)(n:Nat):FH ((w.alloc (.cells (Array.replicate (n*2) (Value.slice none 0 0)) 27)).alloc (.cells (Array.replicate n (Value.bool false)) 4)) w.heap.size (w.heap.size+1) n (fun _=>none):=by
 have A:Blk (w.alloc (.cells (Array.replicate (n*2) (Value.slice none 0 0)) 27)) w.heap.size 27 (List.replicate (n*2) (Value.slice none 0 0)):=by
  have:=Blk.new w 27 (List.replicate (n*2) (Value.slice none 0 0));rwa [List.toArray_replicate]at this
 have B:Blk ((w.alloc (.cells (Array.replicate (n*2) (Value.slice none 0 0)) 27)).alloc (.cells (Array.replicate n (Value.bool false)) 4)) (w.heap.size+1) 4 (zbr n fun _=>none):=by
  have:=Blk.new (w.alloc (.cells (Array.replicate (n*2) (Value.slice none 0 0)) 27)) 4 (List.replicate n (Value.bool false));rw[List.toArray_replicate,World.size_alloc]at this;have e:zbr n (fun _=>none)=List.replicate n (Value.bool false):=by
   unfold zbr;rw[show(fun i=>Value.bool ((fun _=>none:Asg Frm) i).isSome)=fun _:Nat=>Value.bool false from rfl,List.map_const',List.length_range]
  rw[e];exact this
 refine⟨⟨_,A.step (Xb.alloc Xl _),by simp,fun i C=>⟨.slice none 0 0,.slice none 0 0,?_,?_,Or.inl ⟨rfl,rfl⟩,Or.inl ⟨rfl,rfl⟩⟩⟩,B,by omega⟩
 ·rw[List.getElem?_replicate,if_pos (by omega)]
 ·rw[List.getElem?_replicate,if_pos (by omega)]
end Go.Proofs.YtlmfmioljeppfaaGreatDoor
