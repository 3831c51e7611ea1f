/- Lemmas; conditions: as each states. -/
import Derived.Test.YtmclocdhcblbiaaGreatDoorLookLaw
import Derived.Test.YtmclocdhcblbiaaGreatDoorFirst
set_option maxHeartbeats 4000000
namespace Go.Proofs.YtmclocdhcblbiaaGreatDoor
open Go.RowKit Go.Shelf Go.Lib
theorem Za3{cs:List qa}{f:Frm}(h:qF cs f=0):Qbn f:=by
 obtain⟨_,_,B,C⟩:=Qt h;exact⟨fun k A=>Xf (qad (B k A)) (by decide),fun k A=>Xf (qad (C k A)) (by decide)⟩
def qaa(w0 w:World)(kb mb:Nat)(hs:List Value)(tv:Value)(r:Option (Asg Frm×List Nat))(e:Ending)(w':World):Prop:=match r with
 |none=>e=.returned (.bool false)/\Below w0.heap.size w0 w'
 |some s=>e=.returned (.bool true)/\∃tv',LK w0 w' kb mb hs tv' s.1 s.2/\QZ w w' kb mb tv tv'
section
variable {l:List qa} {cls Zb:Str} {m:zg} {start:Frm} {w0 w w':World} {kb mb:Nat} {hs:List Value} {tv tv':Value} {F:Asg Frm} {T:List Nat}
theorem Qcc{cs:List qa}{i:Nat}{f:Frm}{e:Ending}(h:zbl cs w0 w kb mb hs tv F T i f e w'):qaa w0 w kb mb hs tv ((qT cs cls Zb m start).meetT (F,T) (i,f)) e w':=by
 unfold zbl at h;have D:(qT cs cls Zb m start).meetT (F,T) (i,f)=((qT cs cls Zb m start).meet F i f).map fun r=>(r.1,if r.2 then T++[i] else T):=rfl
 rw[D];unfold Qp.meet;cases C:F i with
 |none =>
  rw[C]at h;exact h
 |some A =>
  rw[C]at h;dsimp only at h ⊢;by_cases hs:Zas A f=true
  ·rw[if_pos hs]at h;rw[if_pos (show(qT cs cls Zb m start).fit A f=true from hs)];by_cases B:Zax cs A f=A
   ·rw[if_pos B]at h;rw[if_pos (show(qT cs cls Zb m start).join A f=A from B)];exact⟨h.1,tv,h.2⟩
   ·rw[if_neg B]at h;rw[if_neg (show ¬(qT cs cls Zb m start).join A f=A from B)];exact h
  ·rw[if_neg hs]at h;rw[if_neg (show ¬(qT cs cls Zb m start).fit A f=true from hs)];exact h
theorem QZ.blk(h:QZ w w' kb mb tv tv'){b:Nat}{t:TypeId}{A:List Value}(B:Blk w b t A)(C:b≠kb)(D:b≠mb)(E:tv.ownBlock≠some b):Blk w' b t A:=(h.block b B.lt C D E).trans B
theorem LK.fresh(h:LK w0 w kb mb hs tv F T){b:Nat}(A:w.heap.size<=b):b≠kb/\b≠mb/\tv.ownBlock≠some b:=⟨fun e=>by have:=h.box.lt;omega,fun e=>by have:=h.map.lt;omega,fun e=>by have:=(h.que.lt b e).2;omega⟩
theorem QZ.refl(w:World)(kb mb:Nat)(tv:Value):QZ w w kb mb tv tv:=QZ.below Xb kb mb tv
end
theorem qeN{W:Qp Frm}(H:W.Good){F:Asg Frm}{T:List Nat}(h:W.Oks F):W.Met (F,T) (F,T) :=
 ⟨h,Qp.under_refl H h,⟨[],by simp⟩,fun _ _=>rfl,fun _ A=>Or.inl A,Xl,Xl⟩
theorem zdQ(W:Qp Frm)(cs:List qa)(i:Nat)(f:Frm)(s:Asg Frm×List Nat){hs:List QT}{j:Nat}{h:QT}(B:hs[j]? = some h):
 za8 W cs i f s (hs.drop j)=if h.lo<=(i:Int)/\(i:Int)<h.hi then (if qaw cs h.cls then (W.meetT s (h.dest.toNat,⟨f.locals,[Qc h.cls]⟩)).bind fun C=>za8 W cs i f C (hs.drop (j+1)) else none) else za8 W cs i f s (hs.drop (j+1)):=by
 obtain⟨A,rfl⟩:=List.getElem?_eq_some_iff.1 B;rw[List.drop_eq_getElem_cons A];rfl
theorem ZdQ{c:Str}(h:Zx (lst c)=true):c.size<=20:=by
 rw[show lst c=c.data.toList from rfl,QaG]at h;simp only[Bool.and_eq_true,decide_eq_true_eq]at h;exact h.1.1.2
theorem qbf{l:List qa}(C:zh l){cls Zb:Str}{x:Ins}(D:Qo x=0){f:Frm}(A:qF (Za l) f=0){L S:List Str}(h:qac (Za l) cls Zb x f.locals f.stack=some (L,S)):qF (Za l) ⟨L,S⟩=0:=by
 have B:=Qdn A A ⟨LeL.refl _ _,LeL.refl _ _⟩;obtain⟨G,H,e,E,F⟩:=zcr C D B.1 B.2 h;exact(Qcq E F).2.1
theorem zcd{cs:List qa}{f:Frm}{c:Str}(B:qF cs f=0)(A:qaw cs c=true):qF cs ⟨f.locals,[Qc c]⟩=0:=by
 obtain⟨C,F,D,G⟩:=Qt B;refine qaO C (by show[Qc c].length<=8;simp) D fun k E=>?_
 rw[List.mem_singleton.1 E];unfold qaw at A;rw[Bool.and_eq_true]at A;exact beq_iff_eq.1 A.1
theorem Qeo(x:Ins)(i:Nat):(QS x i).length<=2:=by
 unfold QS;split<;>split<;>simp
theorem qe5{w:World}{base:Nat}{v:Value}{xs:List Nat}(h:Que w base v xs):∃g,(∀b,v.ownBlock=some b->b=g)/\base<=g/\∀j x,xs[j]? = some x->∃A cap,v=.slice (some ⟨g,A,none⟩) xs.length cap/\w.cell? ⟨g,A+j,none⟩=some (zac x):=by
 rcases h with⟨rfl,rfl⟩|⟨b,A,cap,C,rfl,D,E,G,H,I,J,F⟩
 ·exact⟨base,(fun b e=>by cases e),Xl,fun j x B=>by simp at B⟩
 ·refine⟨b,fun c e=>(Option.some.inj e).symm,D,fun j x B=>⟨A,cap,rfl,?_⟩⟩;rw[cell_of_row w b (A+j) C 3 (0,0) E];exact F j x B
def Qbi(wx:World)(kb B fb b0 o:Nat)(cv u v:Value)(x:Ins):Prop:=wx.cell? ⟨kb,0,none⟩=some (.map (some B))/\wx.cell? ⟨kb,7,none⟩=some cv/\wx.cell? ⟨fb,0,none⟩=some u/\wx.cell? ⟨fb,1,none⟩=some v/\wx.cell? ⟨b0,o,none⟩=some (.int .i64 x.op)/\wx.cell? ⟨b0,o+1,none⟩=some (.int .i64 x.a)/\wx.cell? ⟨b0,o+1+1,none⟩=some (.int .i64 x.b)/\wx.cell? ⟨b0,o+1+1+1,none⟩=some (.string x.type)/\wx.cell? ⟨b0,o+1+1+1+1,none⟩=some (.string x.cls)/\wx.cell? ⟨b0,o+1+1+1+1+1,none⟩=some (.string x.name)
theorem Qbi.step{w w':World}{kb B C D o:Nat}{E u v:Value}{x:Ins}(h:Qbi w kb B C D o E u v x)(A:Below w.heap.size w w'):Qbi w' kb B C D o E u v x:=by
 obtain⟨F,G,H,I,J,L,M,N,O,P⟩:=h;exact⟨(A.cell (ZT F)).trans F,(A.cell (ZT G)).trans G,(A.cell (ZT H)).trans H,(A.cell (ZT I)).trans I,(A.cell (ZT J)).trans J,(A.cell (ZT L)).trans L,(A.cell (ZT M)).trans M,(A.cell (ZT N)).trans N,(A.cell (ZT O)).trans O,(A.cell (ZT P)).trans P⟩
theorem Qbi.other{w:World}{kb B D A o:Nat}{E u v:Value}{x:Ins}(h:Qbi w kb B D A o E u v x){c:Nat}(H:kb<c)(I:D<c)(J:A<c)(y z:Value):Qbi ((w.setCell ⟨c,0,none⟩ y).setCell ⟨c,1,none⟩ z) kb B D A o E u v x:=by
 obtain⟨L,M,N,O,P,R,S,T,U,V⟩:=h;have F:=Nat.ne_of_lt H;have G:=Nat.ne_of_lt I;have C:=Nat.ne_of_lt J;exact⟨(zA (a:=⟨kb,_,none⟩) F _ _).trans L,(zA (a:=⟨kb,_,none⟩) F _ _).trans M,(zA (a:=⟨D,_,none⟩) G _ _).trans N,(zA (a:=⟨D,_,none⟩) G _ _).trans O,(zA (a:=⟨A,_,none⟩) C _ _).trans P,(zA (a:=⟨A,_,none⟩) C _ _).trans R,(zA (a:=⟨A,_,none⟩) C _ _).trans S,(zA (a:=⟨A,_,none⟩) C _ _).trans T,(zA (a:=⟨A,_,none⟩) C _ _).trans U,(zA (a:=⟨A,_,none⟩) C _ _).trans V⟩
set_option maxRecDepth 100000
theorem QeF(l:List qa)(B:Nat)(ws w0:World)(hm:Zi ws w0 B l)(m:zg)(cls Zb:Str)(start:Frm)(pc ph:Option Addr)(kc kh:Nat)(hs:List Value)(q:hs=[.map (some B),.string m.name,.string m.type,.bool m.static,.bool m.abs,.bool m.priv,.int .i64 m.locals,.slice pc m.code.length kc,.slice ph m.handlers.length kh])(hcv:qe w0 6 qw (.slice pc m.code.length kc) m.code)(hhv:qe w0 4 qq (.slice ph m.handlers.length kh) m.handlers)(hc:zC m.code=0)(hh:zw m.handlers m.code.length=0)(hio:∀x∈m.code,ZbO x)(hcs:cls.size<=maxLen)(hgs:Zb.size<=maxLen)(H:(qT (Za l) cls Zb m start).Good)(w:World)(kb mb:Nat)(tv:Value)(F:Asg Frm)(T:List Nat)(h:LK w0 w kb mb hs tv F T)(hok:(qT (Za l) cls Zb m start).Oks F)(hT:(qT (Za l) cls Zb m start).weight F+T.length<=900000)(i:Nat)(f:Frm)(hFi:F i=some f):
 Calls Tryz.prog 72 #[.pointer (some ⟨kb,0,none⟩),.string cls,.string Zb,.int .i64 (i:Int)] w (qaa w0 w kb mb hs tv ((qT (Za l) cls Zb m start).look (F,T) i f)):=by
 have HA:Hid (∀(wx:World) (o:Obj),Below wx.heap.size wx (wx.alloc o)):=fun wx o=>Xb.alloc Xl o
 obtain⟨hin,hfr⟩:=hok i f hFi;have hin:i<m.code.length:=hin;have hCo:=zau hc;have hHo:=ZaZ hh;have hi:i<=64:=by have:=hCo.small;omega
 obtain⟨lv,sv,hlv,hlk⟩:=h.map.look hi;rw[hFi]at hlv hlk;dsimp only at hlv;have L1:=hlk w false rfl;rw[zac]at L1;have c9:=h.cell9;obtain⟨⟨p1,n1,rfl,_⟩,⟨p2,n2,rfl,_⟩⟩:=And.intro hlv.1.open hlv.2.open;have K1:=h.step (HA.out w (.cells #[.slice p1 f.locals.length n1,.slice p2 f.stack.length n2] 133));have k1:=Blk.new w 133 [.slice p1 f.locals.length n1,.slice p2 f.stack.length n2];have hf1:=hlv.mono (HA.out w (.cells #[.slice p1 f.locals.length n1,.slice p2 f.stack.length n2] 133));have P1:=QZ.below (HA.out w (.cells #[.slice p1 f.locals.length n1,.slice p2 f.stack.length n2] 133)) kb mb tv;have d8:=K1.cellh (i:=8) (v:=.slice ph m.handlers.length kh) (by rw[q];rfl);rw[qdQ];generalize hW:qT (Za l) cls Zb m start=W at *;have HWn:Hid (W.n=m.code.length):=by rw[<-hW];exact rfl
 have t:Hid (∀g,W.ok g=(qF (Za l) g=0)):=by rw[<-hW];exact fun _=>rfl
 obtain⟨R1,hR1⟩:∃R,za8 W (Za l) i f (F,T) m.handlers=R:=⟨_,rfl⟩;rw[hR1];have HR1:=Xh hR1;have Hh8:=Xh (show ∀x:World,∀h:LK w0 x kb mb hs tv F T,True from fun _ _=>trivial);obtain⟨w1,hw1⟩:∃w1,w1=w.alloc (.cells #[.slice p1 f.locals.length n1,.slice p2 f.stack.length n2] 133):=⟨_,rfl⟩;rw[<-hw1]at K1 k1 hf1 P1 d8;have HW1:=Xh hw1.symm;have HRl:=Xh hm.right;have HK1:=Xh K1;have Hk1:=Xh k1;have Hf1:=Xh hf1;have HP1:=Xh P1;have HH:=Xh H;have HHo:=Xh hHo;have HCo:=Xh hCo;have Hok:=Xh hok;have HT:=Xh hT;have Hfr:Hid (qF (Za l) f=0):=by rw[<-t.out];exact hfr
 have Hio:=Xh hio;have Hcv:=Xh hcv;obtain⟨ph',kh',e,hl1,hl2,hcc⟩:=hhv.open;injection e with e1 _ e2
 subst e1 e2;have Hhv:=Xh hcc;have hlen8:=hHo.1;have Hhs:=Xh q;have HNf:=Xh (h.fresh Xl);have HSz:=Xh h.size;have Hm:=Xh hm;have HWe:=Xh hW;clear hcc hl1 hl2 hR1 hw1 K1 k1 hf1 P1 H hHo hCo hok hT hfr hio hcv hhv hm hlv h hW hh hc hlk Hh8;go_enter Tryz.func72,Tryz.ntmps72;go_upto_region 2 with fail;rw[HW1.out];go_wp2_with fail;clear L1 c9;go_loopw [30] (fun x wr=>∃(j:Nat) (s:Asg Frm×List Nat) (tw:Value),j<=m.handlers.length/\x=.int .i64 j/\Hid (LK w0 wr kb mb hs tw s.1 s.2)/\Hid (QZ w1 wr kb mb tv tw)/\Hid (W.Met (F,T) s)/\Hid (za8 W (Za l) i f s (m.handlers.drop j)=R1)) (fun x _=>m.handlers.length-(intOf x).toNat)
 case atStart=>exact⟨0,(F,T),tv,Nat.zero_le _,rfl,HK1,QZ.refl _ _ _ _,qeN HH.out Hok.out,HR1⟩
 case round =>
  obtain⟨j,s,tw,hj,rfl,hK,hP,hM,hR⟩:=hrel;clear d8;have hk:=hP.out.blk Hk1.out HNf.out.1 HNf.out.2.1 HNf.out.2.2;have hfw:QG wr (.slice p1 f.locals.length n1) (.slice p2 f.stack.length n2) f:=Hf1.out.keepS hP.out.texts;by_cases hjl:j<m.handlers.length
  ·obtain⟨x,hx⟩:∃x,m.handlers[j]? = some x:=⟨m.handlers[j],by simp[hjl]⟩;obtain⟨M,o,vs,rfl,hxv,hvl,zd⟩:=Hhv.out j x hx;unfold qq at hxv;subst hxv;have zd:=zd.mono hK.out.below zd.lt;have X:=zdQ W (Za l) i f s hx;rw[hR.out]at X;obtain⟨ho1,ho2,ho3,ho4,ho5⟩:=HHo.out.2 x (Xe hx);obtain⟨lo,hi',dest,I⟩:=x;dsimp only at X ho1 ho2 ho3 ho4 ho5;obtain⟨d,rfl⟩:=Int.eq_ofNat_of_zero_le ho3;obtain⟨c0,c1,c2,c3,_⟩:=zd;clear hx;by_cases hrg:lo<=(i:Int)/\(i:Int)<hi'
   ·rw[if_pos hrg]at X;obtain⟨i1,i2⟩:=hrg;have B2:Below wr.heap.size wr (wr.alloc (.cells #[.int .i64 lo,.int .i64 hi',.int .i64 (d:Int),.string I] 56)):=Xb.alloc Xl _;have y:=Blk.new wr 56 [.int .i64 lo,.int .i64 hi',.int .i64 (d:Int),.string I];obtain⟨w2,hw2⟩:∃w2,w2=wr.alloc (.cells #[.int .i64 lo,.int .i64 hi',.int .i64 (d:Int),.string I] 56):=⟨_,rfl⟩;rw[<-hw2]at B2 y;have HW2:=Xh hw2.symm;clear hw2;have Z:=Xh (hK.out.step B2);have k2:=hk.step B2;have Hf2:=Xh (hfw.mono B2);have HP2:=Xh (hP.out.trans (QZ.below B2 kb mb tw));have d0:=Z.out.cellh (i:=0) (v:=.map (some B)) (by rw[q];rfl);have a0:=k2.cell 0;have a1:=k2.cell 1;have M:=y.cell 0;have b1:=y.cell 1;have b2:=y.cell 2;have b3:=y.cell 3;have k2':=k2.step (HA.out w2 (.cells #[.slice none 0 0,.slice none 0 0] 133));have z:=y.step (HA.out w2 (.cells #[.slice none 0 0,.slice none 0 0] 133));have d0':=(Z.out.step (HA.out w2 (.cells #[.slice none 0 0,.slice none 0 0] 133))).cellh (i:=0) (v:=.map (some B)) (by rw[q];rfl);have a0':=k2'.cell 0;have a1':=k2'.cell 1;have b0':=z.cell 0;have b1':=z.cell 1;have b2':=z.cell 2;have b3':=z.cell 3;have Hk2:=Xh k2;have Hb2:=Xh y;have K9:=(Blk.new w2 133 [.slice none 0 0,.slice none 0 0]).step (Xb.drew);have U:Hid (∀wx,Below w2.heap.size w2 wx->_):=fun wx hb=>zdm ws wx B l (Hm.out.step (Below.mono ((Z.out.step hb).below) Xl)) lo hi' (d:Int) I (.slice p1 f.locals.length n1) (.slice p2 f.stack.length n2) ⟨_,_,_,rfl⟩ (Xf (ZdQ ho5) (by decide))
    clear hk hfw hK hP k2 k2' y z B2;cases hfb:qaw (Za l) I with
    |true =>
     rw[hfb]at U;rw[hfb,if_pos rfl]at X;unfold zbG at U;have HFb:=Xh hfb;have V:=Xh X;clear hfb X;go_upto_region 6 with fail;rw[HW2.out];clear c0 c1 c2 c3;go_cut [12,13] from 31 to 64 (fun p b wx=>b=.bool true/\Za8 w2 wx ⟨f.locals,[Qc I]⟩ p)
     case first =>
      go_region_law (first
       |(go_simp;go_fit (U.out _ (Xb.drew));rintro e w3⟨C,⟨_,p4,n4,c4,rfl,hs4,_⟩|⟨hz,_⟩⟩;rotate_left;(exact absurd hz (by decide)))
       |(go_simp;go_fit (U.out _ ((HA.out _ _).drew));rintro e w3⟨C,⟨_,p4,n4,c4,rfl,hs4,_⟩|⟨hz,_⟩⟩;rotate_left;(exact absurd hz (by decide));(have a:=K9.step C);(have x0:=a.cell 0);(have x1:=a.cell 1);(have y0:=a.frozen 0);(have y1:=a.frozen 1)))
      all_goals (go_wp2_with fail;go_meet;first
       |exact⟨rfl,Za8.late (Qa (Xb.drew) Xl C) ⟨(Hf2.out.mono (Qa (Xb.drew) Xl C)).1,hs4⟩⟩
       |exact⟨rfl,Za8.early (Qa (Xb.drew) Xl C) ⟨(Hf2.out.mono (Qa ((Xb.alloc Xl _).drew) Xl C)).1,hs4⟩⟩)
     case rest =>
      obtain⟨rfl,nb,v1,v2,rfl,hnb,Kb,hBw,hFv⟩:=hcut;clear d0 a0 a1 M b1 b2 b3 d0' a0' a1' b0' b1' b2' b3' K9 U;have hdn:d<m.code.length:=(by have:=ho4;omega);have hd64:d<=64:=(by have:=HCo.out.small;omega);have Y:=zcd Hfr.out HFb.out;have A:=(Zcm l B ws w0 Hm.out wc kb mb hs tw s.1 s.2 (Z.out.step hBw) (by rw[q];rfl) d hd64 ⟨f.locals,[Qc I]⟩ v1 v2 hFv (Za3 Y) Y (fun k g e=>by have:=(hM.out.oks k g e).2;rw[t.out]at this;exact⟨Za3 this,this⟩) (by have h1:W.weight s.1+s.2.length<=W.weight F+T.length:=hM.out.weight;have h2:=HT.out;omega)).mono (fun e w' hp=>(Qcc (cls:=cls) (Zb:=Zb) (m:=m) (start:=start) hp));rw[HWe.out]at A;have HP3:=Xh (HP2.out.trans (QZ.below hBw kb mb tw));have b23:=(Hb2.out.step hBw).cell 2;have g0:=Kb.cell 0;have g1:=Kb.cell 1;have HMT:Hid (∀c,W.meetT s (d,⟨f.locals,[Qc I]⟩)=some c->W.Met (F,T) c):=fun c e=>hM.out.trans HH.out Hok.out (Qp.meetT_yes HH.out hM.out.oks (by rw[HWn.out];exact hdn) (by rw[t.out];exact Y) e).1
      have J:R1=(W.meetT s (d,⟨f.locals,[Qc I]⟩)).bind fun c=>za8 W (Za l) i f c (m.handlers.drop (j+1)):=V.out
      replace A:Calls _ _ _ _ (qaa w0 wc kb mb hs tw (W.meetT s (d,⟨f.locals,[Qc I]⟩))):=A;clear V;cases P:W.meetT s (d,⟨f.locals,[Qc I]⟩) with
      |none =>
       rw[P]at A J;have hR0:Hid (R1=none):=J;have A:=Xh A;unfold qaa at A;clear J P HMT;go_wp2_with (go_fit (A.out);rintro e w5⟨rfl,hB5⟩)
       go_ret;rw[hR0.out];exact⟨rfl,hB5⟩
      |some c =>
       rw[P]at A J;have J:=Xh (show za8 W (Za l) i f c (m.handlers.drop (j+1))=R1 from J.symm);have hM':=Xh (HMT.out c P);have A:=Xh A;unfold qaa at A;clear P HMT;go_wp2_with (go_fit (A.out);rintro e w5⟨rfl,tw',K5,P5⟩)
       go_roundw;case rel =>
        exact⟨j+1,c,tw',by omega,by simp,K5,HP3.out.trans P5,hM',J⟩
       case measure=>simp[intOf];omega
    |false =>
     rw[hfb]at U;rw[hfb,if_neg (by decide)]at X;unfold zbG at U;have hR0:Hid (R1=none):=X;clear hfb X;go_upto_region 6 with fail;rw[HW2.out];clear c0 c1 c2 c3;go_cut [12,13] from 31 to 64 (fun _ b wx=>b=.bool false/\Below w0.heap.size w0 wx)
     case first =>
      go_region_law (first
       |(go_simp;go_fit (U.out _ (Xb.drew));rintro e w3⟨C,⟨hz,_⟩|⟨_,rfl⟩⟩;(exact absurd hz (by decide)))
       |(go_simp;go_fit (U.out _ ((HA.out _ _).drew));rintro e w3⟨C,⟨hz,_⟩|⟨_,rfl⟩⟩;(exact absurd hz (by decide));(have a:=K9.step C);(have x0:=a.cell 0);(have x1:=a.cell 1);(have y0:=a.frozen 0);(have y1:=a.frozen 1)))
      all_goals (go_wp2_with fail;go_meet;first
       |exact⟨rfl,(Qa Z.out.below Xl (Qa (Xb.drew) Xl C)).alloc (Xf Z.out.size C.size) _⟩
       |exact⟨rfl,((Qa Z.out.below Xl (Qa (w:=w2) ((Xb.alloc Xl _).drew) Xl C)).setCell Z.out.size _).setCell Z.out.size _⟩)
     case rest =>
      obtain⟨rfl,hB⟩:=hcut;clear d0 a0 a1 M b1 b2 b3 d0' a0' a1' b0' b1' b2' b3' K9 U;go_wp2_with fail;go_ret;rw[hR0.out];exact⟨rfl,hB⟩
   ·rw[if_neg hrg]at X;have HI:=Xh hrg;have V:=Xh X.symm;clear hrg X;go_wp2_with fail;all_goals first|(exfalso;have:=HI.out;omega)|skip
    all_goals
     go_roundw;case rel=>exact⟨j+1,s,tw,by omega,by simp,hK.out.step (Xb.alloc Xl _),hP.out.trans (QZ.below (Xb.alloc Xl _) _ _ _),hM,V.out⟩
     case measure=>simp[intOf];omega
  ·obtain rfl:j=m.handlers.length:=(by omega);have hRs:R1=some s:=by
    have:=hR.out;rw[List.drop_length]at this;exact this.symm
   subst hRs;have hic:i<m.code.length:=(by rw[<-HWn.out];exact hin);obtain⟨x,hx⟩:∃x,m.code[i]? = some x:=⟨m.code[i],by simp[hic]⟩;have hxm:=Xe hx;have HQ:Hid (((qab (Za l) cls Zb m.code i f).bind fun b=>W.meets s b)=(qac (Za l) cls Zb x f.locals f.stack).bind fun p=>W.meets s ((QS x i).map fun k=>(k,⟨p.1,p.2⟩))):=by
    unfold Hid qab;rw[hx];dsimp only;cases qac (Za l) cls Zb x f.locals f.stack<;>rfl
   obtain⟨M,o,cap,vs,e,hxv,hvl,zd⟩:=Hcv.out.at hic;injection e with e1 _ e2
   subst e1 e2;rw[show m.code[i]=x from Option.some.inj ((Xn hic).symm.trans hx)]at hxv;unfold qw at hxv;subst hxv;have zd:=zd.mono hK.out.below zd.lt;have hz:=Hfr.out;have Hxo:=Xh (And.intro (Hio.out x hxm) (HCo.out.ins x hxm));have Hxj:=Xh (HCo.out.jumps x hxm);have HSt:Hid (∀L S,qac (Za l) cls Zb x f.locals f.stack=some (L,S)->qF (Za l) ⟨L,S⟩=0):=fun L S e=>qbf HRl.out (HCo.out.ins x hxm) Hfr.out e
   have Hnx:Hid (∀k∈QS x i,k<m.code.length):=qdn HCo.out hx;have O:Hid (∀wx,Below wr.heap.size wr wx->_):=fun wx hb=>zep ws wx B l (Hm.out.step (Below.mono ((hK.out.step hb).below) Xl)) cls Zb x f (.slice p1 f.locals.length n1) (.slice p2 f.stack.length n2) (hfw.mono hb) Hfr.out Hxo.out.1 (Qcx Hxo.out.2) hcs hgs
   have Hx:=Xh hx;clear hx hxm hz;obtain⟨op,xa,xb,D,E,G⟩:=x;obtain⟨c0,c1,c2,c3,c4,c5,_⟩:=zd;have HS:Hid (∀wx,Below wr.heap.size wr wx->Qbi wx kb B w.heap.size M (o+i*6) (.slice (some ⟨M,o,none⟩) m.code.length kc) (.slice p1 f.locals.length n1) (.slice p2 f.stack.length n2) ⟨op,xa,xb,D,E,G⟩) :=
    fun wx hb=>Qbi.step ⟨hK.out.cellh (i:=0) (v:=.map (some B)) (by rw[q];rfl),hK.out.cellh (i:=7) (v:=.slice (some ⟨M,o,none⟩) m.code.length kc) (by rw[q];rfl),hk.cell 0,hk.cell 1,c0,c1,c2,c3,c4,c5⟩ hb
   have HLt:Hid (kb<wr.heap.size/\w.heap.size<wr.heap.size/\M<wr.heap.size):=⟨hK.out.box.lt,hk.lt,ZT c0⟩;obtain⟨k0,k1,k2,k3,k4,k5,k6,k7,k8,k9⟩:=HS.out wr Xb;clear c0 c1 c2 c3 c4 c5;clear hk hfw;unfold zb4 qao at O;dsimp only at O HQ HSt Hxj Hnx;have HL64:Hid (m.code.length<=40):=HCo.out.small;have hicI:(i:Int)<(m.code.length:Int):=(by omega);cases V:qac (Za l) cls Zb ⟨op,xa,xb,D,E,G⟩ f.locals f.stack with
   |none =>
    rw[V]at O HQ;replace O:Hid (∀wx,Below wr.heap.size wr wx->Calls _ _ _ wx fun e w'=>e=_/\Below wx.heap.size wx w'/\Qbi w' kb B w.heap.size M (o+i*6) (.slice (some ⟨M,o,none⟩) m.code.length kc) (.slice p1 f.locals.length n1) (.slice p2 f.stack.length n2) ⟨op,xa,xb,D,E,G⟩):=fun wx hb=>(O.out wx hb).mono fun e w' ⟨hB,he⟩=>⟨he,hB,HS.out w' (Qa hb Xl hB)⟩
    clear V;go_upto_region 10 with fail;go_cut [14,15] (fun _ b wx=>b=.bool false/\Below w0.heap.size w0 wx)
    case first =>
     go_region_held3 (fun w'=>w'.cell? ⟨kb,0,none⟩=some (.map (some B))/\w'.cell? ⟨kb,7,none⟩=some (.slice (some ⟨M,o,none⟩) m.code.length kc)/\w'.cell? ⟨w.heap.size,0,none⟩=some (.slice p1 f.locals.length n1)/\w'.cell? ⟨w.heap.size,1,none⟩=some (.slice p2 f.stack.length n2)/\w'.cell? ⟨M,o+i*6,none⟩=some (.int .i64 op)/\w'.cell? ⟨M,o+i*6+1,none⟩=some (.int .i64 xa)/\w'.cell? ⟨M,o+i*6+1+1,none⟩=some (.int .i64 xb)/\w'.cell? ⟨M,o+i*6+1+1+1,none⟩=some (.string D)/\w'.cell? ⟨M,o+i*6+1+1+1+1,none⟩=some (.string E)/\w'.cell? ⟨M,o+i*6+1+1+1+1+1,none⟩=some (.string G))
      (first|go_keep|exact Qbi.other (x:=⟨op,xa,xb,D,E,G⟩) ⟨k0,k1,k2,k3,k4,k5,k6,k7,k8,k9⟩ HLt.out.1 HLt.out.2.1 HLt.out.2.2 _ _)
      (first
       |(go_fit (O.out _ ?_);(first|exact Xb.drew|exact(Xb.alloc Xl _).drew);rintro e w3⟨rfl,C,k0,k1,k2,k3,k4,k5,k6,k7,k8,k9⟩;(first|(have KB:Blk w3 wr.heap.size 133 [.slice none 0 0,.slice none 0 0]:=Blk.step (w:=(wr.alloc (.cells #[.slice none 0 0,.slice none 0 0] 133)).drew) (Blk.new wr 133 [.slice none 0 0,.slice none 0 0]) C;obtain⟨x0,x1⟩:=KB.cells2;(have f0:=KB.frozen 0);(have f1:=KB.frozen 1))|skip)))
     all_goals (go_wp2_with fail;go_meet;first
      |exact⟨rfl,(Qa hK.out.below Xl (Qa (Xb.drew) Xl C)).alloc (Xf hK.out.size C.size) _⟩
      |exact⟨rfl,((Qa hK.out.below Xl (Qa (w:=wr) ((Xb.alloc Xl _).drew) Xl C)).setCell hK.out.size _).setCell hK.out.size _⟩)
    case rest =>
     obtain⟨rfl,hB⟩:=hcut;clear k0 k1 k2 k3 k4 k5 k6 k7 k8 k9 O;go_wp2_with fail;go_ret;(try rw[Option.bind_some])
     rw[HQ.out];exact⟨rfl,hB⟩
   |some r =>
    obtain⟨L,S⟩:=r;rw[V]at O HQ;dsimp only at O;replace O:Hid (∀wx,Below wr.heap.size wr wx->Calls _ _ _ wx fun e w'=>(∃lv sv,e=.returned (.tuple #[.agg #[lv,sv],.bool true])/\QG w' lv sv ⟨L,S⟩)/\Below wx.heap.size wx w'/\Qbi w' kb B w.heap.size M (o+i*6) (.slice (some ⟨M,o,none⟩) m.code.length kc) (.slice p1 f.locals.length n1) (.slice p2 f.stack.length n2) ⟨op,xa,xb,D,E,G⟩):=fun wx hb=>(O.out wx hb).mono fun e w' ⟨hB,he⟩=>⟨he,hB,HS.out w' (Qa hb Xl hB)⟩
    have Y:=HSt.out L S V;have HQ2:Hid (((qab (Za l) cls Zb m.code i f).bind fun b=>W.meets s b)=W.meets s ((QS ⟨op,xa,xb,D,E,G⟩ i).map fun k=>(k,⟨L,S⟩))):=HQ.out;clear V HQ HSt;have hNl:=Qeo ⟨op,xa,xb,D,E,G⟩ i;generalize hNe:QS ⟨op,xa,xb,D,E,G⟩ i=N at *;have HNe:=Xh hNe;clear hNe;go_upto_region 10 with fail;go_cut [14,15] (fun p b wx=>b=.bool true/\Za8 wr wx ⟨L,S⟩ p)
    case first =>
     go_region_held3 (fun w'=>w'.cell? ⟨kb,0,none⟩=some (.map (some B))/\w'.cell? ⟨kb,7,none⟩=some (.slice (some ⟨M,o,none⟩) m.code.length kc)/\w'.cell? ⟨w.heap.size,0,none⟩=some (.slice p1 f.locals.length n1)/\w'.cell? ⟨w.heap.size,1,none⟩=some (.slice p2 f.stack.length n2)/\w'.cell? ⟨M,o+i*6,none⟩=some (.int .i64 op)/\w'.cell? ⟨M,o+i*6+1,none⟩=some (.int .i64 xa)/\w'.cell? ⟨M,o+i*6+1+1,none⟩=some (.int .i64 xb)/\w'.cell? ⟨M,o+i*6+1+1+1,none⟩=some (.string D)/\w'.cell? ⟨M,o+i*6+1+1+1+1,none⟩=some (.string E)/\w'.cell? ⟨M,o+i*6+1+1+1+1+1,none⟩=some (.string G))
      (first|go_keep|exact Qbi.other (x:=⟨op,xa,xb,D,E,G⟩) ⟨k0,k1,k2,k3,k4,k5,k6,k7,k8,k9⟩ HLt.out.1 HLt.out.2.1 HLt.out.2.2 _ _)
      (first
       |(go_fit (O.out _ ?_);(first|exact Xb.drew|exact(Xb.alloc Xl _).drew);rintro e w3⟨⟨lv3,sv3,rfl,hv3⟩,C,k0,k1,k2,k3,k4,k5,k6,k7,k8,k9⟩;obtain⟨⟨p3,n3,rfl,_⟩,⟨p4,n4,rfl,_⟩⟩:=And.intro hv3.1.open hv3.2.open;(first|(have KB:Blk w3 wr.heap.size 133 [.slice none 0 0,.slice none 0 0]:=Blk.step (w:=(wr.alloc (.cells #[.slice none 0 0,.slice none 0 0] 133)).drew) (Blk.new wr 133 [.slice none 0 0,.slice none 0 0]) C;obtain⟨x0,x1⟩:=KB.cells2;(have f0:=KB.frozen 0);(have f1:=KB.frozen 1))|skip)))
     all_goals (go_wp2_with fail;go_meet;first
      |exact⟨rfl,Za8.late (Qa (Xb.drew) Xl C) hv3⟩
      |exact⟨rfl,Za8.early (Qa (Xb.drew) Xl C) hv3⟩)
    case rest =>
     obtain⟨rfl,nb,v1,v2,rfl,hnb,Kb,hBw,hFv⟩:=hcut;clear k0 k1 k2 k3 k4 k5 k6 k7 k8 k9 O;have KC:=hK.out.step hBw;have d7:=KC.cellh (i:=7) (v:=.slice (some ⟨M,o,none⟩) m.code.length kc) (by rw[q];rfl);have HFA:Hid (Calls _ _ _ wc _):=qcJ m.code (.slice (some ⟨M,o,none⟩) m.code.length kc) wc (Hcv.out.mono KC.below (by decide) (fun _ _ h=>h)) i ⟨op,xa,xb,D,E,G⟩ Hx.out hi (fun hj=>(Hxj.out hj).1);rw[HNe.out]at HFA;have HKC:=Xh KC;have HKb:=Xh Kb;have HBw:=Xh hBw;have HFv:=Xh hFv;have Hnb:=Xh hnb;have Hfr2:=Xh Y;clear KC Kb hBw hFv hnb Y;go_wp2_with (go_fit (HFA.out);rintro e w6⟨v6,rfl,hB6,hq6⟩;obtain⟨a6,c6,rfl⟩:=qbt hq6)
     obtain⟨g6,_,g6b,g6c⟩:=qe5 hq6;have HB6:=Xh hB6;have HG6:=Xh g6c;obtain⟨R2,hR2⟩:∃R,W.meets s (N.map fun k=>(k,(⟨L,S⟩:Frm)))=R:=⟨_,rfl⟩;have HQ3:Hid (((qab (Za l) cls Zb m.code i f).bind fun b=>W.meets s b)=R2):=HQ2.out.trans hR2;clear d7 HFA hq6 g6c hB6 HQ2;go_loopw [94] (fun x wy=>∃(j:Nat) (s2:Asg Frm×List Nat) (tw2:Value),j<=N.length/\x=.int .i64 j/\Hid (LK w0 wy kb mb _ tw2 s2.1 s2.2)/\Hid (QZ w6 wy kb mb tw tw2)/\Hid (W.Met (F,T) s2)/\Hid (W.meets s2 ((N.drop j).map fun k=>(k,(⟨L,S⟩:Frm)))=R2)) (fun x _=>N.length-(intOf x).toNat)
     case atStart=>exact⟨0,s,tw,Nat.zero_le _,rfl,HKC.out.step HB6.out,QZ.refl _ _ _ _,hM,hR2⟩
     case round =>
      obtain⟨j,s2,tw2,hj,rfl,hK2,hP2,hM2,hR2⟩:=hrel;by_cases hjl:j<N.length
      ·obtain⟨k,hk⟩:∃k,N[j]? = some k:=⟨N[j],by simp[hjl]⟩;obtain⟨off,cap,e,hc⟩:=HG6.out j k hk;injection e with e1 _ e2
       subst e1 e2;have hf6:=HKC.out.fresh g6b;have hc2:wr.cell? ⟨g6,off+j,none⟩=some (.int .i64 (k:Int)):=(World.cell?_of_block (hP2.out.block g6 (ZT hc) hf6.1 hf6.2.1 hf6.2.2)).trans hc;have hc2':wr.cell? ⟨g6,off+j*1,none⟩=some (.int .i64 (k:Int)):=(by rw[Nat.mul_one];exact hc2);have hfn:=hK.out.fresh Hnb.out;have Kb6:=hP2.out.blk (HKb.out.step HB6.out) hfn.1 hfn.2.1 hfn.2.2;have g0:=Kb6.cell 0;have g1:=Kb6.cell 1;have hkn:=Hnx.out k (Xe hk);have hk64:k<=64:=(by have:=HL64.out;omega);have X:W.meets s2 ((N.drop j).map fun k=>(k,(⟨L,S⟩:Frm)))=(W.meetT s2 (k,⟨L,S⟩)).bind fun c=>W.meets c ((N.drop (j+1)).map fun k=>(k,(⟨L,S⟩:Frm))):=by
        obtain⟨hk2,rfl⟩:=List.getElem?_eq_some_iff.1 hk;rw[List.drop_eq_getElem_cons hk2];rfl
       rw[hR2.out]at X;have A:=(Zcm l B ws w0 Hm.out wr kb mb _ tw2 s2.1 s2.2 hK2.out (by rw[Hhs.out];rfl) k hk64 ⟨L,S⟩ v1 v2 ((HFv.out.mono HB6.out).keepS hP2.out.texts) (Za3 Hfr2.out) Hfr2.out (fun k g e=>by have:=(hM2.out.oks k g e).2;rw[t.out]at this;exact⟨Za3 this,this⟩) (by have h1:W.weight s2.1+s2.2.length<=W.weight F+T.length:=hM2.out.weight;have h2:=HT.out;omega)).mono (fun e w' hp=>(Qcc (cls:=cls) (Zb:=Zb) (m:=m) (start:=start) hp));rw[HWe.out]at A;replace A:Calls _ _ _ _ (qaa w0 wr kb mb _ tw2 (W.meetT s2 (k,⟨L,S⟩))):=A;have HMT:Hid (∀c,W.meetT s2 (k,⟨L,S⟩)=some c->W.Met (F,T) c):=fun c e=>hM2.out.trans HH.out Hok.out (Qp.meetT_yes HH.out hM2.out.oks (by rw[HWn.out];exact hkn) (by rw[t.out];exact Hfr2.out) e).1
       clear hk hf6 hc hfn Kb6 hkn;cases P:W.meetT s2 (k,⟨L,S⟩) with
       |none =>
        rw[P]at A X;have hR0:Hid (R2=none):=X;have A:=Xh A;unfold qaa at A;clear X P HMT;go_wp2_with (go_fit (A.out);rintro e w7⟨rfl,hB7⟩)
        go_ret;(try rw[Option.bind_some])
        rw[HQ3.out,hR0.out];exact⟨rfl,hB7⟩
       |some c =>
        rw[P]at A X;have J:=Xh (show W.meets c ((N.drop (j+1)).map fun k=>(k,(⟨L,S⟩:Frm)))=R2 from X.symm);have hM':=Xh (HMT.out c P);have A:=Xh A;unfold qaa at A;clear P HMT X;go_wp2_with (go_fit (A.out);rintro e w7⟨rfl,tw',K7,P7⟩)
        go_roundw;case rel=>exact⟨j+1,c,tw',by omega,by simp,K7,hP2.out.trans P7,hM',J⟩
        case measure=>simp[intOf];omega
      ·obtain rfl:j=N.length:=(by omega);have hRs:Hid (R2=some s2):=by
        have:=hR2.out;rw[List.drop_length]at this;exact this.symm
       go_wp2_with fail;go_ret;(try rw[Option.bind_some])
       rw[HQ3.out,hRs.out];exact⟨rfl,tw2,hK2,(HP1.out.trans hP.out).trans (((QZ.below (Qa HBw Xl HB6) kb mb tw)).trans hP2.out)⟩
set_option maxRecDepth 512
end Go.Proofs.YtmclocdhcblbiaaGreatDoor
