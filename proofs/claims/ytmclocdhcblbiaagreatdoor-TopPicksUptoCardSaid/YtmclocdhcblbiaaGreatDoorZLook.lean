/- Lemmas; conditions: as each states. -/
import Derived.Test.YtmclocdhcblbiaaGreatDoorZLookLaw
import Derived.Test.YtmclocdhcblbiaaGreatDoorZFirst
set_option maxHeartbeats 4000000
namespace Go.Proofs.YtmclocdhcblbiaaGreatDoor
open Go.RowKit Go.Shelf Go.Lib
theorem Qa7{cs:List qa}{f:Frm}(h:qG cs f=0):Qbq f:=by
 obtain⟨_,_,B,C⟩:=Qt h;exact⟨fun k A=>Xf (Zaf (B k A)) (by decide),fun k A=>Xf (Zaf (C k A)) (by decide)⟩
def Zac(w0 w:World)(kb mb:Nat)(hs:List Value)(tv:Value)(r:Option (Asg Frm×List Nat))(e:Ending)(w':World):Prop:=match r with
 |none=>e=.returned (.bool false)/\Below w0.heap.size w0 w'
 |some s=>e=.returned (.bool true)/\∃tv',LK w0 w' kb mb hs tv' s.1 s.2/\Q4 w w' kb mb tv tv'
section
variable {l:List qa} {cls Zb:Str} {m:qc} {start:Frm} {w0 w w':World} {kb mb:Nat} {hs:List Value} {tv tv':Value} {F:Asg Frm} {T:List Nat}
theorem qcd{cs:List qa}{i:Nat}{f:Frm}{e:Ending}(h:Qbn cs w0 w kb mb hs tv F T i f e w'):Zac w0 w kb mb hs tv ((zW cs cls Zb m start).meetT (F,T) (i,f)) e w':=by
 unfold Qbn at h;have D:(zW cs cls Zb m start).meetT (F,T) (i,f)=((zW cs cls Zb m start).meet F i f).map fun r=>(r.1,if r.2 then T++[i] else T):=rfl
 rw[D];unfold Zp.meet;cases C:F i with
 |none =>
  rw[C]at h;exact h
 |some A =>
  rw[C]at h;dsimp only at h ⊢;by_cases hs:qau A f=true
  ·rw[if_pos hs]at h;rw[if_pos (show(zW cs cls Zb m start).fit A f=true from hs)];by_cases B:ZaA cs A f=A
   ·rw[if_pos B]at h;rw[if_pos (show(zW cs cls Zb m start).join A f=A from B)];exact⟨h.1,tv,h.2⟩
   ·rw[if_neg B]at h;rw[if_neg (show ¬(zW cs cls Zb m start).join A f=A from B)];exact h
  ·rw[if_neg hs]at h;rw[if_neg (show ¬(zW cs cls Zb m start).fit A f=true from hs)];exact h
theorem Q4.blk(h:Q4 w w' kb mb tv tv'){b:Nat}{t:TypeId}{A:List Value}(B:Blk w b t A)(C:b≠kb)(D:b≠mb)(E:tv.ownBlock≠some b):Blk w' b t A:=(h.block b B.lt C D E).trans B
theorem LK.fresh(h:LK w0 w kb mb hs tv F T){b:Nat}(A:w.heap.size<=b):b≠kb/\b≠mb/\tv.ownBlock≠some b:=⟨fun e=>by have:=h.box.lt;omega,fun e=>by have:=h.map.lt;omega,fun e=>by have:=(h.que.lt b e).2;omega⟩
theorem Q4.refl(w:World)(kb mb:Nat)(tv:Value):Q4 w w kb mb tv tv:=Q4.below Xb kb mb tv
end
theorem zeR{W:Zp Frm}(H:W.Good){F:Asg Frm}{T:List Nat}(h:W.Oks F):W.Met (F,T) (F,T) :=
 ⟨h,Zp.under_refl H h,⟨[],by simp⟩,fun _ _=>rfl,fun _ A=>Or.inl A,Xl,Xl⟩
theorem qdS(W:Zp Frm)(cs:List qa)(i:Nat)(f:Frm)(s:Asg Frm×List Nat){hs:List ZW}{j:Nat}{h:ZW}(B:hs[j]? = some h):
 zbc W cs i f s (hs.drop j)=if h.lo<=(i:Int)/\(i:Int)<h.hi then (if qaz cs h.cls then (W.meetT s (h.dest.toNat,⟨f.locals,[Qc h.cls]⟩)).bind fun C=>zbc W cs i f C (hs.drop (j+1)) else none) else zbc W cs i f s (hs.drop (j+1)):=by
 obtain⟨A,rfl⟩:=List.getElem?_eq_some_iff.1 B;rw[List.drop_eq_getElem_cons A];rfl
theorem QdS{c:Str}(h:zD (lst c)=true):c.size<=20:=by
 rw[show lst c=c.data.toList from rfl,qbQ]at h;simp only[Bool.and_eq_true,decide_eq_true_eq]at h;exact h.1.1.2
theorem qbi{l:List qa}(C:Qg l){cls Zb:Str}{x:Ins}(D:qo x=0){f:Frm}(A:qG (Za l) f=0){L S:List Str}(h:Qae (Za l) cls Zb x f.locals f.stack=some (L,S)):qG (Za l) ⟨L,S⟩=0:=by
 have B:=Qdp A A ⟨LeL.refl _ _,LeL.refl _ _⟩;obtain⟨G,H,e,E,F⟩:=Qcs C D B.1 B.2 h;exact(qcs E F).2.1
theorem Qcd{cs:List qa}{f:Frm}{c:Str}(B:qG cs f=0)(A:qaz cs c=true):qG cs ⟨f.locals,[Qc c]⟩=0:=by
 obtain⟨C,F,D,G⟩:=Qt B;refine zaS C (by show[Qc c].length<=8;simp) D fun k E=>?_
 rw[List.mem_singleton.1 E];unfold qaz at A;rw[Bool.and_eq_true]at A;exact beq_iff_eq.1 A.1
theorem qen(x:Ins)(i:Nat):(ZV x i).length<=2:=by
 unfold ZV;split<;>split<;>simp
theorem Qfa{w:World}{base:Nat}{v:Value}{xs:List Nat}(h:Que w base v xs):∃g,(∀b,v.ownBlock=some b->b=g)/\base<=g/\∀j x,xs[j]? = some x->∃A cap,v=.slice (some ⟨g,A,none⟩) xs.length cap/\w.cell? ⟨g,A+j,none⟩=some (zae x):=by
 rcases h with⟨rfl,rfl⟩|⟨b,A,cap,C,rfl,D,E,G,H,I,J,F⟩
 ·exact⟨base,(fun b e=>by cases e),Xl,fun j x B=>by simp at B⟩
 ·refine⟨b,fun c e=>(Option.some.inj e).symm,D,fun j x B=>⟨A,cap,rfl,?_⟩⟩;rw[cell_of_row w b (A+j) C 3 (0,0) E];exact F j x B
def qbl(wx:World)(kb B fb b0 o:Nat)(cv u v:Value)(x:Ins):Prop:=wx.cell? ⟨kb,0,none⟩=some (.map (some B))/\wx.cell? ⟨kb,7,none⟩=some cv/\wx.cell? ⟨fb,0,none⟩=some u/\wx.cell? ⟨fb,1,none⟩=some v/\wx.cell? ⟨b0,o,none⟩=some (.int .i64 x.op)/\wx.cell? ⟨b0,o+1,none⟩=some (.int .i64 x.a)/\wx.cell? ⟨b0,o+1+1,none⟩=some (.int .i64 x.b)/\wx.cell? ⟨b0,o+1+1+1,none⟩=some (.string x.type)/\wx.cell? ⟨b0,o+1+1+1+1,none⟩=some (.string x.cls)/\wx.cell? ⟨b0,o+1+1+1+1+1,none⟩=some (.string x.name)
theorem qbl.step{w w':World}{kb B C D o:Nat}{E u v:Value}{x:Ins}(h:qbl w kb B C D o E u v x)(A:Below w.heap.size w w'):qbl w' kb B C D o E u v x:=by
 obtain⟨F,G,H,I,J,L,M,N,O,P⟩:=h;exact⟨(A.cell (QV F)).trans F,(A.cell (QV G)).trans G,(A.cell (QV H)).trans H,(A.cell (QV I)).trans I,(A.cell (QV J)).trans J,(A.cell (QV L)).trans L,(A.cell (QV M)).trans M,(A.cell (QV N)).trans N,(A.cell (QV O)).trans O,(A.cell (QV P)).trans P⟩
theorem qbl.other{w:World}{kb B D A o:Nat}{E u v:Value}{x:Ins}(h:qbl w kb B D A o E u v x){c:Nat}(H:kb<c)(I:D<c)(J:A<c)(y z:Value):qbl ((w.setCell ⟨c,0,none⟩ y).setCell ⟨c,1,none⟩ z) kb B D A o E u v x:=by
 obtain⟨L,M,N,O,P,R,S,T,U,V⟩:=h;have F:=Nat.ne_of_lt H;have G:=Nat.ne_of_lt I;have C:=Nat.ne_of_lt J;exact⟨(QA (a:=⟨kb,_,none⟩) F _ _).trans L,(QA (a:=⟨kb,_,none⟩) F _ _).trans M,(QA (a:=⟨D,_,none⟩) G _ _).trans N,(QA (a:=⟨D,_,none⟩) G _ _).trans O,(QA (a:=⟨A,_,none⟩) C _ _).trans P,(QA (a:=⟨A,_,none⟩) C _ _).trans R,(QA (a:=⟨A,_,none⟩) C _ _).trans S,(QA (a:=⟨A,_,none⟩) C _ _).trans T,(QA (a:=⟨A,_,none⟩) C _ _).trans U,(QA (a:=⟨A,_,none⟩) C _ _).trans V⟩
set_option maxRecDepth 100000
theorem zeJ(l:List qa)(B:Nat)(ws w0:World)(hm:qh ws w0 B l)(m:qc)(cls Zb:Str)(start:Frm)(pc ph:Option Addr)(kc kh:Nat)(hs:List Value)(c:hs=[.map (some B),.string m.name,.string m.type,.bool m.static,.bool m.abs,.bool m.priv,.int .i64 m.locals,.slice pc m.code.length kc,.slice ph m.handlers.length kh])(hcv:Qe w0 6 Zv (.slice pc m.code.length kc) m.code)(hhv:Qe w0 4 Qp (.slice ph m.handlers.length kh) m.handlers)(hc:ZC m.code=0)(hh:Zw m.handlers m.code.length=0)(hio:∀x∈m.code,ZbB x)(hcs:cls.size<=maxLen)(hgs:Zb.size<=maxLen)(H:(zW (Za l) cls Zb m start).Good)(w:World)(kb mb:Nat)(tv:Value)(F:Asg Frm)(T:List Nat)(h:LK w0 w kb mb hs tv F T)(hok:(zW (Za l) cls Zb m start).Oks F)(hT:(zW (Za l) cls Zb m start).weight F+T.length<=900000)(i:Nat)(f:Frm)(hFi:F i=some f):
 Calls Tryz.prog 72 #[.pointer (some ⟨kb,0,none⟩),.string cls,.string Zb,.int .i64 (i:Int)] w (Zac w0 w kb mb hs tv ((zW (Za l) cls Zb m start).look (F,T) i f)):=by
 have HA:Hid (∀(wx:World) (o:Obj),Below wx.heap.size wx (wx.alloc o)):=fun wx o=>Xb.alloc Xl o
 obtain⟨hin,hfr⟩:=hok i f hFi;have hin:i<m.code.length:=hin;have hCo:=qaw hc;have hHo:=za3 hh;have hi:i<=64:=by have:=hCo.small;omega
 obtain⟨lv,sv,hlv,hlk⟩:=h.map.look hi;rw[hFi]at hlv hlk;dsimp only at hlv;have L1:=hlk w false rfl;rw[zae]at L1;have c9:=h.cell9;obtain⟨⟨p1,n1,rfl,_⟩,⟨p2,n2,rfl,_⟩⟩:=And.intro hlv.1.open hlv.2.open;have K1:=h.step (HA.out w (.cells #[.slice p1 f.locals.length n1,.slice p2 f.stack.length n2] 133));have k1:=Blk.new w 133 [.slice p1 f.locals.length n1,.slice p2 f.stack.length n2];have hf1:=hlv.mono (HA.out w (.cells #[.slice p1 f.locals.length n1,.slice p2 f.stack.length n2] 133));have P1:=Q4.below (HA.out w (.cells #[.slice p1 f.locals.length n1,.slice p2 f.stack.length n2] 133)) kb mb tv;have d8:=K1.cellh (i:=8) (v:=.slice ph m.handlers.length kh) (by rw[c];rfl);rw[zdT];generalize hW:zW (Za l) cls Zb m start=W at *;have HWn:Hid (W.n=m.code.length):=by rw[<-hW];exact rfl
 have q:Hid (∀g,W.ok g=(qG (Za l) g=0)):=by rw[<-hW];exact fun _=>rfl
 obtain⟨R1,hR1⟩:∃R,zbc W (Za l) i f (F,T) m.handlers=R:=⟨_,rfl⟩;rw[hR1];have HR1:=Xh hR1;have Hh8:=Xh (show ∀x:World,∀h:LK w0 x kb mb hs tv F T,True from fun _ _=>trivial);obtain⟨w1,hw1⟩:∃w1,w1=w.alloc (.cells #[.slice p1 f.locals.length n1,.slice p2 f.stack.length n2] 133):=⟨_,rfl⟩;rw[<-hw1]at K1 k1 hf1 P1 d8;have HW1:=Xh hw1.symm;have HRl:=Xh hm.right;have HK1:=Xh K1;have Hk1:=Xh k1;have Hf1:=Xh hf1;have HP1:=Xh P1;have HH:=Xh H;have HHo:=Xh hHo;have HCo:=Xh hCo;have Hok:=Xh hok;have HT:=Xh hT;have Hfr:Hid (qG (Za l) f=0):=by rw[<-q.out];exact hfr
 have Hio:=Xh hio;have Hcv:=Xh hcv;obtain⟨ph',kh',e,hl1,hl2,hcc⟩:=hhv.open;injection e with e1 _ e2
 subst e1 e2;have Hhv:=Xh hcc;have hlen8:=hHo.1;have Hhs:=Xh c;have HNf:=Xh (h.fresh Xl);have HSz:=Xh h.size;have Hm:=Xh hm;have HWe:=Xh hW;clear hcc hl1 hl2 hR1 hw1 K1 k1 hf1 P1 H hHo hCo hok hT hfr hio hcv hhv hm hlv h hW hh hc hlk Hh8;go_enter Tryz.func72,Tryz.ntmps72;go_upto_region 2 with fail;rw[HW1.out];go_wp2_with fail;clear L1 c9;go_loopw [30] (fun x wr=>∃(j:Nat) (s:Asg Frm×List Nat) (tw:Value),j<=m.handlers.length/\x=.int .i64 j/\Hid (LK w0 wr kb mb hs tw s.1 s.2)/\Hid (Q4 w1 wr kb mb tv tw)/\Hid (W.Met (F,T) s)/\Hid (zbc W (Za l) i f s (m.handlers.drop j)=R1)) (fun x _=>m.handlers.length-(intOf x).toNat)
 case atStart=>exact⟨0,(F,T),tv,Nat.zero_le _,rfl,HK1,Q4.refl _ _ _ _,zeR HH.out Hok.out,HR1⟩
 case round =>
  obtain⟨j,s,tw,hj,rfl,z,hP,hM,hR⟩:=hrel;clear d8;have hk:=hP.out.blk Hk1.out HNf.out.1 HNf.out.2.1 HNf.out.2.2;have hfw:QI wr (.slice p1 f.locals.length n1) (.slice p2 f.stack.length n2) f:=Hf1.out.keepS hP.out.texts;by_cases hjl:j<m.handlers.length
  ·obtain⟨x,hx⟩:∃x,m.handlers[j]? = some x:=⟨m.handlers[j],by simp[hjl]⟩;obtain⟨J,o,vs,rfl,hxv,hvl,Zd⟩:=Hhv.out j x hx;unfold Qp at hxv;subst hxv;have Zd:=Zd.mono z.out.below Zd.lt;have V:=qdS W (Za l) i f s hx;rw[hR.out]at V;obtain⟨ho1,ho2,ho3,ho4,ho5⟩:=HHo.out.2 x (Xe hx);obtain⟨lo,hi',dest,G⟩:=x;dsimp only at V ho1 ho2 ho3 ho4 ho5;obtain⟨d,rfl⟩:=Int.eq_ofNat_of_zero_le ho3;obtain⟨c0,c1,c2,c3,_⟩:=Zd;clear hx;by_cases hrg:lo<=(i:Int)/\(i:Int)<hi'
   ·rw[if_pos hrg]at V;obtain⟨i1,i2⟩:=hrg;have B2:Below wr.heap.size wr (wr.alloc (.cells #[.int .i64 lo,.int .i64 hi',.int .i64 (d:Int),.string G] 56)):=Xb.alloc Xl _;have t:=Blk.new wr 56 [.int .i64 lo,.int .i64 hi',.int .i64 (d:Int),.string G];obtain⟨w2,hw2⟩:∃w2,w2=wr.alloc (.cells #[.int .i64 lo,.int .i64 hi',.int .i64 (d:Int),.string G] 56):=⟨_,rfl⟩;rw[<-hw2]at B2 t;have HW2:=Xh hw2.symm;clear hw2;have Y:=Xh (z.out.step B2);have k2:=hk.step B2;have Hf2:=Xh (hfw.mono B2);have HP2:=Xh (hP.out.trans (Q4.below B2 kb mb tw));have d0:=Y.out.cellh (i:=0) (v:=.map (some B)) (by rw[c];rfl);have a0:=k2.cell 0;have a1:=k2.cell 1;have J:=t.cell 0;have b1:=t.cell 1;have b2:=t.cell 2;have b3:=t.cell 3;have k2':=k2.step (HA.out w2 (.cells #[.slice none 0 0,.slice none 0 0] 133));have y:=t.step (HA.out w2 (.cells #[.slice none 0 0,.slice none 0 0] 133));have d0':=(Y.out.step (HA.out w2 (.cells #[.slice none 0 0,.slice none 0 0] 133))).cellh (i:=0) (v:=.map (some B)) (by rw[c];rfl);have a0':=k2'.cell 0;have a1':=k2'.cell 1;have b0':=y.cell 0;have b1':=y.cell 1;have b2':=y.cell 2;have b3':=y.cell 3;have Hk2:=Xh k2;have Hb2:=Xh t;have K9:=(Blk.new w2 133 [.slice none 0 0,.slice none 0 0]).step (Xb.drew);have P:Hid (∀wx,Below w2.heap.size w2 wx->_):=fun wx hb=>zdo ws wx B l (Hm.out.step (Below.mono ((Y.out.step hb).below) Xl)) lo hi' (d:Int) G (.slice p1 f.locals.length n1) (.slice p2 f.stack.length n2) ⟨_,_,_,rfl⟩ (Xf (QdS ho5) (by decide))
    clear hk hfw z hP k2 k2' t y B2;cases aB:qaz (Za l) G with
    |true =>
     rw[aB]at P;rw[aB,if_pos rfl]at V;unfold zbI at P;have HFb:=Xh aB;have U:=Xh V;clear aB V;go_upto_region 6 with fail;rw[HW2.out];clear c0 c1 c2 c3;go_cut [12,13] from 31 to 64 (fun p b wx=>b=.bool true/\Zbc w2 wx ⟨f.locals,[Qc G]⟩ p)
     case first =>
      go_region_law (first
       |(go_simp;go_fit (P.out _ (Xb.drew));rintro e w3⟨C,⟨_,p4,n4,c4,rfl,hs4,_⟩|⟨hz,_⟩⟩;rotate_left;(exact absurd hz (by decide)))
       |(go_simp;go_fit (P.out _ ((HA.out _ _).drew));rintro e w3⟨C,⟨_,p4,n4,c4,rfl,hs4,_⟩|⟨hz,_⟩⟩;rotate_left;(exact absurd hz (by decide));(have Z:=K9.step C);(have x0:=Z.cell 0);(have x1:=Z.cell 1);(have y0:=Z.frozen 0);(have y1:=Z.frozen 1)))
      all_goals (go_wp2_with fail;go_meet;first
       |exact⟨rfl,Zbc.late (Qa (Xb.drew) Xl C) ⟨(Hf2.out.mono (Qa (Xb.drew) Xl C)).1,hs4⟩⟩
       |exact⟨rfl,Zbc.early (Qa (Xb.drew) Xl C) ⟨(Hf2.out.mono (Qa ((Xb.alloc Xl _).drew) Xl C)).1,hs4⟩⟩)
     case rest =>
      obtain⟨rfl,nb,v1,v2,rfl,hnb,Kb,aC,hFv⟩:=hcut;clear d0 a0 a1 J b1 b2 b3 d0' a0' a1' b0' b1' b2' b3' K9 P;have hdn:d<m.code.length:=(by have:=ho4;omega);have hd64:d<=64:=(by have:=HCo.out.small;omega);have X:=Qcd Hfr.out HFb.out;have A:=(Qcn l B ws w0 Hm.out wc kb mb hs tw s.1 s.2 (Y.out.step aC) (by rw[c];rfl) d hd64 ⟨f.locals,[Qc G]⟩ v1 v2 hFv (Qa7 X) X (fun k g e=>by have:=(hM.out.oks k g e).2;rw[q.out]at this;exact⟨Qa7 this,this⟩) (by have h1:W.weight s.1+s.2.length<=W.weight F+T.length:=hM.out.weight;have h2:=HT.out;omega)).mono (fun e w' hp=>(qcd (cls:=cls) (Zb:=Zb) (m:=m) (start:=start) hp));rw[HWe.out]at A;have HP3:=Xh (HP2.out.trans (Q4.below aC kb mb tw));have b23:=(Hb2.out.step aC).cell 2;have g0:=Kb.cell 0;have g1:=Kb.cell 1;have aA:Hid (∀a,W.meetT s (d,⟨f.locals,[Qc G]⟩)=some a->W.Met (F,T) a):=fun a e=>hM.out.trans HH.out Hok.out (Zp.meetT_yes HH.out hM.out.oks (by rw[HWn.out];exact hdn) (by rw[q.out];exact X) e).1
      have I:R1=(W.meetT s (d,⟨f.locals,[Qc G]⟩)).bind fun a=>zbc W (Za l) i f a (m.handlers.drop (j+1)):=U.out
      replace A:Calls _ _ _ _ (Zac w0 wc kb mb hs tw (W.meetT s (d,⟨f.locals,[Qc G]⟩))):=A;clear U;cases O:W.meetT s (d,⟨f.locals,[Qc G]⟩) with
      |none =>
       rw[O]at A I;have hR0:Hid (R1=none):=I;have A:=Xh A;unfold Zac at A;clear I O aA;go_wp2_with (go_fit (A.out);rintro e w5⟨rfl,hB5⟩)
       go_ret;rw[hR0.out];exact⟨rfl,hB5⟩
      |some a =>
       rw[O]at A I;have I:=Xh (show zbc W (Za l) i f a (m.handlers.drop (j+1))=R1 from I.symm);have hM':=Xh (aA.out a O);have A:=Xh A;unfold Zac at A;clear O aA;go_wp2_with (go_fit (A.out);rintro e w5⟨rfl,tw',K5,P5⟩)
       go_roundw;case rel =>
        exact⟨j+1,a,tw',by omega,by simp,K5,HP3.out.trans P5,hM',I⟩
       case measure=>simp[intOf];omega
    |false =>
     rw[aB]at P;rw[aB,if_neg (by decide)]at V;unfold zbI at P;have hR0:Hid (R1=none):=V;clear aB V;go_upto_region 6 with fail;rw[HW2.out];clear c0 c1 c2 c3;go_cut [12,13] from 31 to 64 (fun _ b wx=>b=.bool false/\Below w0.heap.size w0 wx)
     case first =>
      go_region_law (first
       |(go_simp;go_fit (P.out _ (Xb.drew));rintro e w3⟨C,⟨hz,_⟩|⟨_,rfl⟩⟩;(exact absurd hz (by decide)))
       |(go_simp;go_fit (P.out _ ((HA.out _ _).drew));rintro e w3⟨C,⟨hz,_⟩|⟨_,rfl⟩⟩;(exact absurd hz (by decide));(have Z:=K9.step C);(have x0:=Z.cell 0);(have x1:=Z.cell 1);(have y0:=Z.frozen 0);(have y1:=Z.frozen 1)))
      all_goals (go_wp2_with fail;go_meet;first
       |exact⟨rfl,(Qa Y.out.below Xl (Qa (Xb.drew) Xl C)).alloc (Xf Y.out.size C.size) _⟩
       |exact⟨rfl,((Qa Y.out.below Xl (Qa (w:=w2) ((Xb.alloc Xl _).drew) Xl C)).setCell Y.out.size _).setCell Y.out.size _⟩)
     case rest =>
      obtain⟨rfl,hB⟩:=hcut;clear d0 a0 a1 J b1 b2 b3 d0' a0' a1' b0' b1' b2' b3' K9 P;go_wp2_with fail;go_ret;rw[hR0.out];exact⟨rfl,hB⟩
   ·rw[if_neg hrg]at V;have HI:=Xh hrg;have U:=Xh V.symm;clear hrg V;go_wp2_with fail;all_goals first|(exfalso;have:=HI.out;omega)|skip
    all_goals
     go_roundw;case rel=>exact⟨j+1,s,tw,by omega,by simp,z.out.step (Xb.alloc Xl _),hP.out.trans (Q4.below (Xb.alloc Xl _) _ _ _),hM,U.out⟩
     case measure=>simp[intOf];omega
  ·obtain rfl:j=m.handlers.length:=(by omega);have hRs:R1=some s:=by
    have:=hR.out;rw[List.drop_length]at this;exact this.symm
   subst hRs;have hic:i<m.code.length:=(by rw[<-HWn.out];exact hin);obtain⟨x,hx⟩:∃x,m.code[i]? = some x:=⟨m.code[i],by simp[hic]⟩;have hxm:=Xe hx;have HQ:Hid (((qad (Za l) cls Zb m.code i f).bind fun b=>W.meets s b)=(Qae (Za l) cls Zb x f.locals f.stack).bind fun p=>W.meets s ((ZV x i).map fun k=>(k,⟨p.1,p.2⟩))):=by
    unfold Hid qad;rw[hx];dsimp only;cases Qae (Za l) cls Zb x f.locals f.stack<;>rfl
   obtain⟨J,o,cap,vs,e,hxv,hvl,Zd⟩:=Hcv.out.at hic;injection e with e1 _ e2
   subst e1 e2;rw[show m.code[i]=x from Option.some.inj ((Xn hic).symm.trans hx)]at hxv;unfold Zv at hxv;subst hxv;have Zd:=Zd.mono z.out.below Zd.lt;have hz:=Hfr.out;have Hxo:=Xh (And.intro (Hio.out x hxm) (HCo.out.ins x hxm));have Hxj:=Xh (HCo.out.jumps x hxm);have HSt:Hid (∀L S,Qae (Za l) cls Zb x f.locals f.stack=some (L,S)->qG (Za l) ⟨L,S⟩=0):=fun L S e=>qbi HRl.out (HCo.out.ins x hxm) Hfr.out e
   have Hnx:Hid (∀k∈ZV x i,k<m.code.length):=qdp HCo.out hx;have M:Hid (∀wx,Below wr.heap.size wr wx->_):=fun wx hb=>Qen ws wx B l (Hm.out.step (Below.mono ((z.out.step hb).below) Xl)) cls Zb x f (.slice p1 f.locals.length n1) (.slice p2 f.stack.length n2) (hfw.mono hb) Hfr.out Hxo.out.1 (qcz Hxo.out.2) hcs hgs
   have Hx:=Xh hx;clear hx hxm hz;obtain⟨op,xa,xb,D,E,name⟩:=x;obtain⟨c0,c1,c2,c3,c4,c5,_⟩:=Zd;have HS:Hid (∀wx,Below wr.heap.size wr wx->qbl wx kb B w.heap.size J (o+i*6) (.slice (some ⟨J,o,none⟩) m.code.length kc) (.slice p1 f.locals.length n1) (.slice p2 f.stack.length n2) ⟨op,xa,xb,D,E,name⟩) :=
    fun wx hb=>qbl.step ⟨z.out.cellh (i:=0) (v:=.map (some B)) (by rw[c];rfl),z.out.cellh (i:=7) (v:=.slice (some ⟨J,o,none⟩) m.code.length kc) (by rw[c];rfl),hk.cell 0,hk.cell 1,c0,c1,c2,c3,c4,c5⟩ hb
   have HLt:Hid (kb<wr.heap.size/\w.heap.size<wr.heap.size/\J<wr.heap.size):=⟨z.out.box.lt,hk.lt,QV c0⟩;obtain⟨k0,k1,k2,k3,k4,k5,k6,k7,k8,k9⟩:=HS.out wr Xb;clear c0 c1 c2 c3 c4 c5;clear hk hfw;unfold Zb4 zaq at M;dsimp only at M HQ HSt Hxj Hnx;have HL64:Hid (m.code.length<=40):=HCo.out.small;have hicI:(i:Int)<(m.code.length:Int):=(by omega);cases U:Qae (Za l) cls Zb ⟨op,xa,xb,D,E,name⟩ f.locals f.stack with
   |none =>
    rw[U]at M HQ;replace M:Hid (∀wx,Below wr.heap.size wr wx->Calls _ _ _ wx fun e w'=>e=_/\Below wx.heap.size wx w'/\qbl w' kb B w.heap.size J (o+i*6) (.slice (some ⟨J,o,none⟩) m.code.length kc) (.slice p1 f.locals.length n1) (.slice p2 f.stack.length n2) ⟨op,xa,xb,D,E,name⟩):=fun wx hb=>(M.out wx hb).mono fun e w' ⟨hB,he⟩=>⟨he,hB,HS.out w' (Qa hb Xl hB)⟩
    clear U;go_upto_region 10 with fail;go_cut [14,15] (fun _ b wx=>b=.bool false/\Below w0.heap.size w0 wx)
    case first =>
     go_region_held3 (fun w'=>w'.cell? ⟨kb,0,none⟩=some (.map (some B))/\w'.cell? ⟨kb,7,none⟩=some (.slice (some ⟨J,o,none⟩) m.code.length kc)/\w'.cell? ⟨w.heap.size,0,none⟩=some (.slice p1 f.locals.length n1)/\w'.cell? ⟨w.heap.size,1,none⟩=some (.slice p2 f.stack.length n2)/\w'.cell? ⟨J,o+i*6,none⟩=some (.int .i64 op)/\w'.cell? ⟨J,o+i*6+1,none⟩=some (.int .i64 xa)/\w'.cell? ⟨J,o+i*6+1+1,none⟩=some (.int .i64 xb)/\w'.cell? ⟨J,o+i*6+1+1+1,none⟩=some (.string D)/\w'.cell? ⟨J,o+i*6+1+1+1+1,none⟩=some (.string E)/\w'.cell? ⟨J,o+i*6+1+1+1+1+1,none⟩=some (.string name))
      (first|go_keep|exact qbl.other (x:=⟨op,xa,xb,D,E,name⟩) ⟨k0,k1,k2,k3,k4,k5,k6,k7,k8,k9⟩ HLt.out.1 HLt.out.2.1 HLt.out.2.2 _ _)
      (first
       |(go_fit (M.out _ ?_);(first|exact Xb.drew|exact(Xb.alloc Xl _).drew);rintro e w3⟨rfl,C,k0,k1,k2,k3,k4,k5,k6,k7,k8,k9⟩;(first|(have KB:Blk w3 wr.heap.size 133 [.slice none 0 0,.slice none 0 0]:=Blk.step (w:=(wr.alloc (.cells #[.slice none 0 0,.slice none 0 0] 133)).drew) (Blk.new wr 133 [.slice none 0 0,.slice none 0 0]) C;obtain⟨x0,x1⟩:=KB.cells2;(have f0:=KB.frozen 0);(have f1:=KB.frozen 1))|skip)))
     all_goals (go_wp2_with fail;go_meet;first
      |exact⟨rfl,(Qa z.out.below Xl (Qa (Xb.drew) Xl C)).alloc (Xf z.out.size C.size) _⟩
      |exact⟨rfl,((Qa z.out.below Xl (Qa (w:=wr) ((Xb.alloc Xl _).drew) Xl C)).setCell z.out.size _).setCell z.out.size _⟩)
    case rest =>
     obtain⟨rfl,hB⟩:=hcut;clear k0 k1 k2 k3 k4 k5 k6 k7 k8 k9 M;go_wp2_with fail;go_ret;(try rw[Option.bind_some])
     rw[HQ.out];exact⟨rfl,hB⟩
   |some r =>
    obtain⟨L,S⟩:=r;rw[U]at M HQ;dsimp only at M;replace M:Hid (∀wx,Below wr.heap.size wr wx->Calls _ _ _ wx fun e w'=>(∃lv sv,e=.returned (.tuple #[.agg #[lv,sv],.bool true])/\QI w' lv sv ⟨L,S⟩)/\Below wx.heap.size wx w'/\qbl w' kb B w.heap.size J (o+i*6) (.slice (some ⟨J,o,none⟩) m.code.length kc) (.slice p1 f.locals.length n1) (.slice p2 f.stack.length n2) ⟨op,xa,xb,D,E,name⟩):=fun wx hb=>(M.out wx hb).mono fun e w' ⟨hB,he⟩=>⟨he,hB,HS.out w' (Qa hb Xl hB)⟩
    have X:=HSt.out L S U;have HQ2:Hid (((qad (Za l) cls Zb m.code i f).bind fun b=>W.meets s b)=W.meets s ((ZV ⟨op,xa,xb,D,E,name⟩ i).map fun k=>(k,⟨L,S⟩))):=HQ.out;clear U HQ HSt;have hNl:=qen ⟨op,xa,xb,D,E,name⟩ i;generalize hNe:ZV ⟨op,xa,xb,D,E,name⟩ i=N at *;have HNe:=Xh hNe;clear hNe;go_upto_region 10 with fail;go_cut [14,15] (fun p b wx=>b=.bool true/\Zbc wr wx ⟨L,S⟩ p)
    case first =>
     go_region_held3 (fun w'=>w'.cell? ⟨kb,0,none⟩=some (.map (some B))/\w'.cell? ⟨kb,7,none⟩=some (.slice (some ⟨J,o,none⟩) m.code.length kc)/\w'.cell? ⟨w.heap.size,0,none⟩=some (.slice p1 f.locals.length n1)/\w'.cell? ⟨w.heap.size,1,none⟩=some (.slice p2 f.stack.length n2)/\w'.cell? ⟨J,o+i*6,none⟩=some (.int .i64 op)/\w'.cell? ⟨J,o+i*6+1,none⟩=some (.int .i64 xa)/\w'.cell? ⟨J,o+i*6+1+1,none⟩=some (.int .i64 xb)/\w'.cell? ⟨J,o+i*6+1+1+1,none⟩=some (.string D)/\w'.cell? ⟨J,o+i*6+1+1+1+1,none⟩=some (.string E)/\w'.cell? ⟨J,o+i*6+1+1+1+1+1,none⟩=some (.string name))
      (first|go_keep|exact qbl.other (x:=⟨op,xa,xb,D,E,name⟩) ⟨k0,k1,k2,k3,k4,k5,k6,k7,k8,k9⟩ HLt.out.1 HLt.out.2.1 HLt.out.2.2 _ _)
      (first
       |(go_fit (M.out _ ?_);(first|exact Xb.drew|exact(Xb.alloc Xl _).drew);rintro e w3⟨⟨lv3,sv3,rfl,hv3⟩,C,k0,k1,k2,k3,k4,k5,k6,k7,k8,k9⟩;obtain⟨⟨p3,n3,rfl,_⟩,⟨p4,n4,rfl,_⟩⟩:=And.intro hv3.1.open hv3.2.open;(first|(have KB:Blk w3 wr.heap.size 133 [.slice none 0 0,.slice none 0 0]:=Blk.step (w:=(wr.alloc (.cells #[.slice none 0 0,.slice none 0 0] 133)).drew) (Blk.new wr 133 [.slice none 0 0,.slice none 0 0]) C;obtain⟨x0,x1⟩:=KB.cells2;(have f0:=KB.frozen 0);(have f1:=KB.frozen 1))|skip)))
     all_goals (go_wp2_with fail;go_meet;first
      |exact⟨rfl,Zbc.late (Qa (Xb.drew) Xl C) hv3⟩
      |exact⟨rfl,Zbc.early (Qa (Xb.drew) Xl C) hv3⟩)
    case rest =>
     obtain⟨rfl,nb,v1,v2,rfl,hnb,Kb,aC,hFv⟩:=hcut;clear k0 k1 k2 k3 k4 k5 k6 k7 k8 k9 M;have KC:=z.out.step aC;have d7:=KC.cellh (i:=7) (v:=.slice (some ⟨J,o,none⟩) m.code.length kc) (by rw[c];rfl);have HFA:Hid (Calls _ _ _ wc _):=QcK m.code (.slice (some ⟨J,o,none⟩) m.code.length kc) wc (Hcv.out.mono KC.below (by decide) (fun _ _ h=>h)) i ⟨op,xa,xb,D,E,name⟩ Hx.out hi (fun hj=>(Hxj.out hj).1);rw[HNe.out]at HFA;have HKC:=Xh KC;have HKb:=Xh Kb;have HBw:=Xh aC;have HFv:=Xh hFv;have Hnb:=Xh hnb;have Hfr2:=Xh X;clear KC Kb aC hFv hnb X;go_wp2_with (go_fit (HFA.out);rintro e w6⟨v6,rfl,hB6,hq6⟩;obtain⟨a6,c6,rfl⟩:=Zbw hq6)
     obtain⟨g6,_,g6b,g6c⟩:=Qfa hq6;have HB6:=Xh hB6;have HG6:=Xh g6c;obtain⟨R2,hR2⟩:∃R,W.meets s (N.map fun k=>(k,(⟨L,S⟩:Frm)))=R:=⟨_,rfl⟩;have HQ3:Hid (((qad (Za l) cls Zb m.code i f).bind fun b=>W.meets s b)=R2):=HQ2.out.trans hR2;clear d7 HFA hq6 g6c hB6 HQ2;go_loopw [94] (fun x wy=>∃(j:Nat) (s2:Asg Frm×List Nat) (tw2:Value),j<=N.length/\x=.int .i64 j/\Hid (LK w0 wy kb mb _ tw2 s2.1 s2.2)/\Hid (Q4 w6 wy kb mb tw tw2)/\Hid (W.Met (F,T) s2)/\Hid (W.meets s2 ((N.drop j).map fun k=>(k,(⟨L,S⟩:Frm)))=R2)) (fun x _=>N.length-(intOf x).toNat)
     case atStart=>exact⟨0,s,tw,Nat.zero_le _,rfl,HKC.out.step HB6.out,Q4.refl _ _ _ _,hM,hR2⟩
     case round =>
      obtain⟨j,s2,tw2,hj,rfl,hK2,hP2,hM2,hR2⟩:=hrel;by_cases hjl:j<N.length
      ·obtain⟨k,hk⟩:∃k,N[j]? = some k:=⟨N[j],by simp[hjl]⟩;obtain⟨off,cap,e,hc⟩:=HG6.out j k hk;injection e with e1 _ e2
       subst e1 e2;have hf6:=HKC.out.fresh g6b;have hc2:wr.cell? ⟨g6,off+j,none⟩=some (.int .i64 (k:Int)):=(World.cell?_of_block (hP2.out.block g6 (QV hc) hf6.1 hf6.2.1 hf6.2.2)).trans hc;have hc2':wr.cell? ⟨g6,off+j*1,none⟩=some (.int .i64 (k:Int)):=(by rw[Nat.mul_one];exact hc2);have hfn:=z.out.fresh Hnb.out;have Kb6:=hP2.out.blk (HKb.out.step HB6.out) hfn.1 hfn.2.1 hfn.2.2;have g0:=Kb6.cell 0;have g1:=Kb6.cell 1;have hkn:=Hnx.out k (Xe hk);have hk64:k<=64:=(by have:=HL64.out;omega);have V:W.meets s2 ((N.drop j).map fun k=>(k,(⟨L,S⟩:Frm)))=(W.meetT s2 (k,⟨L,S⟩)).bind fun a=>W.meets a ((N.drop (j+1)).map fun k=>(k,(⟨L,S⟩:Frm))):=by
        obtain⟨hk2,rfl⟩:=List.getElem?_eq_some_iff.1 hk;rw[List.drop_eq_getElem_cons hk2];rfl
       rw[hR2.out]at V;have A:=(Qcn l B ws w0 Hm.out wr kb mb _ tw2 s2.1 s2.2 hK2.out (by rw[Hhs.out];rfl) k hk64 ⟨L,S⟩ v1 v2 ((HFv.out.mono HB6.out).keepS hP2.out.texts) (Qa7 Hfr2.out) Hfr2.out (fun k g e=>by have:=(hM2.out.oks k g e).2;rw[q.out]at this;exact⟨Qa7 this,this⟩) (by have h1:W.weight s2.1+s2.2.length<=W.weight F+T.length:=hM2.out.weight;have h2:=HT.out;omega)).mono (fun e w' hp=>(qcd (cls:=cls) (Zb:=Zb) (m:=m) (start:=start) hp));rw[HWe.out]at A;replace A:Calls _ _ _ _ (Zac w0 wr kb mb _ tw2 (W.meetT s2 (k,⟨L,S⟩))):=A;have aA:Hid (∀a,W.meetT s2 (k,⟨L,S⟩)=some a->W.Met (F,T) a):=fun a e=>hM2.out.trans HH.out Hok.out (Zp.meetT_yes HH.out hM2.out.oks (by rw[HWn.out];exact hkn) (by rw[q.out];exact Hfr2.out) e).1
       clear hk hf6 hc hfn Kb6 hkn;cases O:W.meetT s2 (k,⟨L,S⟩) with
       |none =>
        rw[O]at A V;have hR0:Hid (R2=none):=V;have A:=Xh A;unfold Zac at A;clear V O aA;go_wp2_with (go_fit (A.out);rintro e w7⟨rfl,hB7⟩)
        go_ret;(try rw[Option.bind_some])
        rw[HQ3.out,hR0.out];exact⟨rfl,hB7⟩
       |some a =>
        rw[O]at A V;have I:=Xh (show W.meets a ((N.drop (j+1)).map fun k=>(k,(⟨L,S⟩:Frm)))=R2 from V.symm);have hM':=Xh (aA.out a O);have A:=Xh A;unfold Zac at A;clear O aA V;go_wp2_with (go_fit (A.out);rintro e w7⟨rfl,tw',K7,P7⟩)
        go_roundw;case rel=>exact⟨j+1,a,tw',by omega,by simp,K7,hP2.out.trans P7,hM',I⟩
        case measure=>simp[intOf];omega
      ·obtain rfl:j=N.length:=(by omega);have hRs:Hid (R2=some s2):=by
        have:=hR2.out;rw[List.drop_length]at this;exact this.symm
       go_wp2_with fail;go_ret;(try rw[Option.bind_some])
       rw[HQ3.out,hRs.out];exact⟨rfl,tw2,hK2,(HP1.out.trans hP.out).trans (((Q4.below (Qa HBw Xl HB6) kb mb tw)).trans hP2.out)⟩
