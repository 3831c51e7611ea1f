/- Lemmas; conditions: as each states. -/
import Derived.Test.YtlmfmioljeppfaaGreatDoorLooker
import Derived.Test.YtlmfmioljeppfaaGreatDoorLookLaw
set_option maxHeartbeats 4000000
namespace Go.Proofs.YtlmfmioljeppfaaGreatDoor
open Go.RowKit Go.Shelf Go.Lib
theorem Qaf{cs:List Qb}{f:Frm}(h:zz cs f=0):zaD f:=by
 obtain⟨_,_,h1,h2⟩:=zw h;exact⟨fun k hk=>Xf (qS (h1 k hk)) (by decide),fun k hk=>Xf (qS (h2 k hk)) (by decide)⟩
def Q4(w0 w:World)(kb mb:Nat)(hs:List Value)(tv:Value)(r:Option (Asg Frm×List Nat))(e:Ending)(w':World):Prop:=match r with
 |none=>e=.returned (.bool false)/\Below w0.heap.size w0 w'
 |some s=>e=.returned (.bool true)/\∃tv',LK w0 w' kb mb hs tv' s.1 s.2/\zX w w' kb mb tv tv'
section
variable {l:List Qb} {cls Zb:Str} {m:Zk} {start:Frm} {w0 w w':World} {kb mb:Nat} {hs:List Value} {tv tv':Value} {F:Asg Frm} {T:List Nat}
theorem ZbN{cs:List Qb}{i:Nat}{f:Frm}{e:Ending}(h:Qa1 cs w0 w kb mb hs tv F T i f e w'):Q4 w0 w kb mb hs tv ((zJ cs cls Zb m start).meetT (F,T) (i,f)) e w':=by
 unfold Qa1 at h;have hM:(zJ cs cls Zb m start).meetT (F,T) (i,f)=((zJ cs cls Zb m start).meet F i f).map fun r=>(r.1,if r.2 then T++[i] else T):=rfl
 rw[hM];unfold qm.meet;cases hF:F i with
 |none =>
  rw[hF]at h;exact h
 |some was =>
  rw[hF]at h;dsimp only at h ⊢;by_cases hs:zQ was f=true
  ·rw[if_pos hs]at h;rw[if_pos (show(zJ cs cls Zb m start).fit was f=true from hs)];by_cases hj:Q1 cs was f=was
   ·rw[if_pos hj]at h;rw[if_pos (show(zJ cs cls Zb m start).join was f=was from hj)];exact⟨h.1,tv,h.2⟩
   ·rw[if_neg hj]at h;rw[if_neg (show ¬(zJ cs cls Zb m start).join was f=was from hj)];exact h
  ·rw[if_neg hs]at h;rw[if_neg (show ¬(zJ cs cls Zb m start).fit was f=true from hs)];exact h
theorem zX.blk(h:zX w w' kb mb tv tv'){b:Nat}{t:TypeId}{vals:List Value}(hb:Blk w b t vals)(n1:b≠kb)(n2:b≠mb)(n3:tv.ownBlock≠some b):Blk w' b t vals:=(h.block b hb.lt n1 n2 n3).trans hb
theorem LK.fresh(h:LK w0 w kb mb hs tv F T){b:Nat}(hb:w.heap.size<=b):b≠kb/\b≠mb/\tv.ownBlock≠some b:=⟨fun e=>by have:=h.box.lt;omega,fun e=>by have:=h.map.lt;omega,fun e=>by have:=(h.que.lt b e).2;omega⟩
theorem zX.refl(w:World)(kb mb:Nat)(tv:Value):zX w w kb mb tv tv:=zX.below Xb kb mb tv
end
theorem zdS{W:qm Frm}(H:W.Good){F:Asg Frm}{T:List Nat}(h:W.Oks F):W.Met (F,T) (F,T) :=
 ⟨h,qm.under_refl H h,⟨[],by simp⟩,fun _ _=>rfl,fun _ hi=>Or.inl hi,Xl,Xl⟩
theorem Qc7(W:qm Frm)(cs:List Qb)(i:Nat)(f:Frm)(s:Asg Frm×List Nat){hs:List Q0}{j:Nat}{h:Q0}(hj:hs[j]? = some h):
 ZaO W cs i f s (hs.drop j)=if h.lo<=(i:Int)/\(i:Int)<h.hi then (if Zad cs h.cls then (W.meetT s (h.dest.toNat,⟨f.locals,[Zd h.cls]⟩)).bind fun s'=>ZaO W cs i f s' (hs.drop (j+1)) else none) else ZaO W cs i f s (hs.drop (j+1)):=by
 obtain⟨hk2,rfl⟩:=List.getElem?_eq_some_iff.1 hj;rw[List.drop_eq_getElem_cons hk2];rfl
theorem qb4{c:Str}(h:Qt (lst c)=true):c.size<=20:=by
 rw[show lst c=c.data.toList from rfl,Zax]at h;simp only[Bool.and_eq_true,decide_eq_true_eq]at h;exact h.1.1.2
theorem zc8{l:List Qb}(hR:Qj l){cls Zb:Str}{x:Ins}(hx:Zi x=0){f:Frm}(hf:zz (Za l) f=0){L S:List Str}(h:zq (Za l) cls Zb x f.locals f.stack=some (L,S)):zz (Za l) ⟨L,S⟩=0:=by
 have hl:=QcG hf hf ⟨LeL.refl _ _,LeL.refl _ _⟩;obtain⟨La,Sa,e,m1,m2⟩:=ZbX hR hx hl.1 hl.2 h;exact(zbX m1 m2).2.1
theorem ZcP{cs:List Qb}{f:Frm}{c:Str}(hf:zz cs f=0)(hb:Zad cs c=true):zz cs ⟨f.locals,[Zd c]⟩=0:=by
 obtain⟨z1,z2,z3,z4⟩:=zw hf;refine QaA z1 (by show[Zd c].length<=8;simp) z3 fun k hk=>?_
 rw[List.mem_singleton.1 hk];unfold Zad at hb;rw[Bool.and_eq_true]at hb;exact beq_iff_eq.1 hb.1
theorem zcm(x:Ins)(i:Nat):(qay x i).length<=2:=by
 unfold qay;split<;>split<;>simp
theorem qdl{w:World}{base:Nat}{v:Value}{xs:List Nat}(h:Que w base v xs):∃g,(∀b,v.ownBlock=some b->b=g)/\base<=g/\∀j x,xs[j]? = some x->∃off cap,v=.slice (some ⟨g,off,none⟩) xs.length cap/\w.cell? ⟨g,off+j,none⟩=some (ZV x):=by
 rcases h with⟨rfl,rfl⟩|⟨b,off,cap,cur,rfl,h1,h2,h3,h4,h5,h6,h7⟩
 ·exact⟨base,(fun b e=>by cases e),Xl,fun j x hx=>by simp at hx⟩
 ·refine⟨b,fun c e=>(Option.some.inj e).symm,h1,fun j x hx=>⟨off,cap,rfl,?_⟩⟩;rw[cell_of_row w b (off+j) cur 3 (0,0) h2];exact h7 j x hx
def QaV(wx:World)(kb B fb b0 o:Nat)(cv u v:Value)(x:Ins):Prop:=wx.cell? ⟨kb,0,none⟩=some (.map (some B))/\wx.cell? ⟨kb,7,none⟩=some cv/\wx.cell? ⟨fb,0,none⟩=some u/\wx.cell? ⟨fb,1,none⟩=some v/\wx.cell? ⟨b0,o,none⟩=some (.int .i64 x.op)/\wx.cell? ⟨b0,o+1,none⟩=some (.int .i64 x.a)/\wx.cell? ⟨b0,o+1+1,none⟩=some (.int .i64 x.b)/\wx.cell? ⟨b0,o+1+1+1,none⟩=some (.string x.type)/\wx.cell? ⟨b0,o+1+1+1+1,none⟩=some (.string x.cls)/\wx.cell? ⟨b0,o+1+1+1+1+1,none⟩=some (.string x.name)
theorem QaV.step{w w':World}{kb B fb b0 o:Nat}{cv u v:Value}{x:Ins}(h:QaV w kb B fb b0 o cv u v x)(hb:Below w.heap.size w w'):QaV w' kb B fb b0 o cv u v x:=by
 obtain⟨k0,k1,k2,k3,k4,k5,k6,k7,k8,k9⟩:=h;exact⟨(hb.cell (Zl k0)).trans k0,(hb.cell (Zl k1)).trans k1,(hb.cell (Zl k2)).trans k2,(hb.cell (Zl k3)).trans k3,(hb.cell (Zl k4)).trans k4,(hb.cell (Zl k5)).trans k5,(hb.cell (Zl k6)).trans k6,(hb.cell (Zl k7)).trans k7,(hb.cell (Zl k8)).trans k8,(hb.cell (Zl k9)).trans k9⟩
theorem QaV.other{w:World}{kb B fb b0 o:Nat}{cv u v:Value}{x:Ins}(h:QaV w kb B fb b0 o cv u v x){c:Nat}(n1:kb<c)(n2:fb<c)(n3:b0<c)(y z:Value):QaV ((w.setCell ⟨c,0,none⟩ y).setCell ⟨c,1,none⟩ z) kb B fb b0 o cv u v x:=by
 obtain⟨k0,k1,k2,k3,k4,k5,k6,k7,k8,k9⟩:=h;have m1:=Nat.ne_of_lt n1;have m2:=Nat.ne_of_lt n2;have m3:=Nat.ne_of_lt n3;exact⟨(zp (a:=⟨kb,_,none⟩) m1 _ _).trans k0,(zp (a:=⟨kb,_,none⟩) m1 _ _).trans k1,(zp (a:=⟨fb,_,none⟩) m2 _ _).trans k2,(zp (a:=⟨fb,_,none⟩) m2 _ _).trans k3,(zp (a:=⟨b0,_,none⟩) m3 _ _).trans k4,(zp (a:=⟨b0,_,none⟩) m3 _ _).trans k5,(zp (a:=⟨b0,_,none⟩) m3 _ _).trans k6,(zp (a:=⟨b0,_,none⟩) m3 _ _).trans k7,(zp (a:=⟨b0,_,none⟩) m3 _ _).trans k8,(zp (a:=⟨b0,_,none⟩) m3 _ _).trans k9⟩
set_option maxRecDepth 100000
theorem ZdS(l:List Qb)(B:Nat)(ws w0:World)(hm:Qw ws w0 B l)(m:Zk)(cls Zb:Str)(start:Frm)(pc ph:Option Addr)(kc kh:Nat)(hs:List Value)(hhs:hs=[.map (some B),.string m.name,.string m.type,.bool m.static,.bool m.abs,.bool m.priv,.int .i64 m.locals,.slice pc m.code.length kc,.slice ph m.handlers.length kh])(hcv:Qg w0 6 qy (.slice pc m.code.length kc) m.code)(hhv:Qg w0 4 qw (.slice ph m.handlers.length kh) m.handlers)(hc:qp m.code=0)(hh:Zm m.handlers m.code.length=0)(hio:∀x∈m.code,QaK x)(hcs:cls.size<=maxLen)(hgs:Zb.size<=maxLen)(H:(zJ (Za l) cls Zb m start).Good)(w:World)(kb mb:Nat)(tv:Value)(F:Asg Frm)(T:List Nat)(h:LK w0 w kb mb hs tv F T)(hok:(zJ (Za l) cls Zb m start).Oks F)(hT:(zJ (Za l) cls Zb m start).weight F+T.length<=900000)(i:Nat)(f:Frm)(hFi:F i=some f):
 Calls Tryz.prog 108 #[.pointer (some ⟨kb,0,none⟩),.string cls,.string Zb,.int .i64 (i:Int)] w (Q4 w0 w kb mb hs tv ((zJ (Za l) cls Zb m start).look (F,T) i f)):=by
 have HA:Hid (∀(wx:World) (o:Obj),Below wx.heap.size wx (wx.alloc o)):=fun wx o=>Xb.alloc Xl o
 obtain⟨hin,hfr⟩:=hok i f hFi;have hin:i<m.code.length:=hin;have hCo:=Z2 hc;have hHo:=Zai hh;have hi:i<=64:=by have:=hCo.small;omega
 obtain⟨lv,sv,hlv,hlk⟩:=h.map.look hi;rw[hFi]at hlv hlk;dsimp only at hlv;have L1:=hlk w false rfl;rw[ZV]at L1;have c9:=h.cell9;obtain⟨⟨p1,n1,rfl,_⟩,⟨p2,n2,rfl,_⟩⟩:=And.intro hlv.1.open hlv.2.open;have K1:=h.step (HA.out w (.cells #[.slice p1 f.locals.length n1,.slice p2 f.stack.length n2] 27));have k1:=Blk.new w 27 [.slice p1 f.locals.length n1,.slice p2 f.stack.length n2];have hf1:=hlv.mono (HA.out w (.cells #[.slice p1 f.locals.length n1,.slice p2 f.stack.length n2] 27));have P1:=zX.below (HA.out w (.cells #[.slice p1 f.locals.length n1,.slice p2 f.stack.length n2] 27)) kb mb tv;have d8:=K1.cellh (i:=8) (v:=.slice ph m.handlers.length kh) (by rw[hhs];rfl);rw[Zc8];generalize hW:zJ (Za l) cls Zb m start=W at *;have HWn:Hid (W.n=m.code.length):=by rw[<-hW];exact rfl
 have HWok:Hid (∀g,W.ok g=(zz (Za l) g=0)):=by rw[<-hW];exact fun _=>rfl
 obtain⟨R1,hR1⟩:∃R,ZaO W (Za l) i f (F,T) m.handlers=R:=⟨_,rfl⟩;rw[hR1];have HR1:=Xh hR1;have Hh8:=Xh (show ∀x:World,∀h:LK w0 x kb mb hs tv F T,True from fun _ _=>trivial);obtain⟨w1,hw1⟩:∃w1,w1=w.alloc (.cells #[.slice p1 f.locals.length n1,.slice p2 f.stack.length n2] 27):=⟨_,rfl⟩;rw[<-hw1]at K1 k1 hf1 P1 d8;have HW1:=Xh hw1.symm;have HRl:=Xh hm.right;have HK1:=Xh K1;have Hk1:=Xh k1;have Hf1:=Xh hf1;have HP1:=Xh P1;have HH:=Xh H;have HHo:=Xh hHo;have HCo:=Xh hCo;have Hok:=Xh hok;have HT:=Xh hT;have Hfr:Hid (zz (Za l) f=0):=by rw[<-HWok.out];exact hfr
 have Hio:=Xh hio;have Hcv:=Xh hcv;obtain⟨ph',kh',e,hl1,hl2,hcc⟩:=hhv.open;injection e with e1 _ e2
 subst e1 e2;have Hhv:=Xh hcc;have hlen8:=hHo.1;have Hhs:=Xh hhs;have HNf:=Xh (h.fresh Xl);have HSz:=Xh h.size;have Hm:=Xh hm;have HWe:=Xh hW;clear hcc hl1 hl2 hR1 hw1 K1 k1 hf1 P1 H hHo hCo hok hT hfr hio hcv hhv hm hlv h hW hh hc hlk Hh8;go_enter Tryz.func108,Tryz.ntmps108;go_upto_region 2 with fail;rw[HW1.out];go_wp2_with fail;clear L1 c9;go_loopw [30] (fun x wr=>∃(j:Nat) (s:Asg Frm×List Nat) (tw:Value),j<=m.handlers.length/\x=.int .i64 j/\Hid (LK w0 wr kb mb hs tw s.1 s.2)/\Hid (zX w1 wr kb mb tv tw)/\Hid (W.Met (F,T) s)/\Hid (ZaO W (Za l) i f s (m.handlers.drop j)=R1)) (fun x _=>m.handlers.length-(intOf x).toNat)
 case atStart=>exact⟨0,(F,T),tv,Nat.zero_le _,rfl,HK1,zX.refl _ _ _ _,zdS HH.out Hok.out,HR1⟩
 case round =>
  obtain⟨j,s,tw,hj,rfl,hK,hP,hM,hR⟩:=hrel;clear d8;have hk:=hP.out.blk Hk1.out HNf.out.1 HNf.out.2.1 HNf.out.2.2;have hfw:zk wr (.slice p1 f.locals.length n1) (.slice p2 f.stack.length n2) f:=Hf1.out.keepS hP.out.texts;by_cases hjl:j<m.handlers.length
  ·obtain⟨x,hx⟩:∃x,m.handlers[j]? = some x:=⟨m.handlers[j],by simp[hjl]⟩;obtain⟨b0,o,vs,rfl,hxv,hvl,qc⟩:=Hhv.out j x hx;unfold qw at hxv;subst hxv;have qc:=qc.mono hK.out.below qc.lt;have Zc:=Qc7 W (Za l) i f s hx;rw[hR.out]at Zc;obtain⟨ho1,ho2,ho3,ho4,ho5⟩:=HHo.out.2 x (Xe hx);obtain⟨lo,hi',dest,hcls⟩:=x;dsimp only at Zc ho1 ho2 ho3 ho4 ho5;obtain⟨d,rfl⟩:=Int.eq_ofNat_of_zero_le ho3;obtain⟨c0,c1,c2,c3,_⟩:=qc;clear hx;by_cases hrg:lo<=(i:Int)/\(i:Int)<hi'
   ·rw[if_pos hrg]at Zc;obtain⟨i1,i2⟩:=hrg;have B2:Below wr.heap.size wr (wr.alloc (.cells #[.int .i64 lo,.int .i64 hi',.int .i64 (d:Int),.string hcls] 126)):=Xb.alloc Xl _;have hb2:=Blk.new wr 126 [.int .i64 lo,.int .i64 hi',.int .i64 (d:Int),.string hcls];obtain⟨w2,hw2⟩:∃w2,w2=wr.alloc (.cells #[.int .i64 lo,.int .i64 hi',.int .i64 (d:Int),.string hcls] 126):=⟨_,rfl⟩;rw[<-hw2]at B2 hb2;have HW2:=Xh hw2.symm;clear hw2;have HK2:=Xh (hK.out.step B2);have k2:=hk.step B2;have Hf2:=Xh (hfw.mono B2);have HP2:=Xh (hP.out.trans (zX.below B2 kb mb tw));have d0:=HK2.out.cellh (i:=0) (v:=.map (some B)) (by rw[hhs];rfl);have a0:=k2.cell 0;have a1:=k2.cell 1;have b0:=hb2.cell 0;have b1:=hb2.cell 1;have b2:=hb2.cell 2;have b3:=hb2.cell 3;have k2':=k2.step (HA.out w2 (.cells #[.slice none 0 0,.slice none 0 0] 27));have hb2':=hb2.step (HA.out w2 (.cells #[.slice none 0 0,.slice none 0 0] 27));have d0':=(HK2.out.step (HA.out w2 (.cells #[.slice none 0 0,.slice none 0 0] 27))).cellh (i:=0) (v:=.map (some B)) (by rw[hhs];rfl);have a0':=k2'.cell 0;have a1':=k2'.cell 1;have b0':=hb2'.cell 0;have b1':=hb2'.cell 1;have b2':=hb2'.cell 2;have b3':=hb2'.cell 3;have Hk2:=Xh k2;have Hb2:=Xh hb2;have K9:=(Blk.new w2 27 [.slice none 0 0,.slice none 0 0]).step (Xb.drew);have HCa:Hid (∀wx,Below w2.heap.size w2 wx->_):=fun wx hb=>ZcI ws wx B l (Hm.out.step (Below.mono ((HK2.out.step hb).below) Xl)) lo hi' (d:Int) hcls (.slice p1 f.locals.length n1) (.slice p2 f.stack.length n2) ⟨_,_,_,rfl⟩ (Xf (qb4 ho5) (by decide))
    clear hk hfw hK hP k2 k2' hb2 hb2' B2;cases hfb:Zad (Za l) hcls with
    |true =>
     rw[hfb]at HCa;rw[hfb,if_pos rfl]at Zc;unfold qbi at HCa;have HFb:=Xh hfb;have hst:=Xh Zc;clear hfb Zc;go_upto_region 6 with fail;rw[HW2.out];clear c0 c1 c2 c3;go_cut [12,13] from 31 to 64 (fun p b wx=>b=.bool true/\Qao w2 wx ⟨f.locals,[Zd hcls]⟩ p)
     case first =>
      go_region_law (first
       |(go_simp;go_fit (HCa.out _ (Xb.drew));rintro e w3⟨hB3,⟨_,p4,n4,c4,rfl,hs4,_⟩|⟨hz,_⟩⟩;rotate_left;(exact absurd hz (by decide)))
       |(go_simp;go_fit (HCa.out _ ((HA.out _ _).drew));rintro e w3⟨hB3,⟨_,p4,n4,c4,rfl,hs4,_⟩|⟨hz,_⟩⟩;rotate_left;(exact absurd hz (by decide));(have K10:=K9.step hB3);(have x0:=K10.cell 0);(have x1:=K10.cell 1);(have y0:=K10.frozen 0);(have y1:=K10.frozen 1)))
      all_goals (go_wp2_with fail;go_meet;first
       |exact⟨rfl,Qao.late (Qa (Xb.drew) Xl hB3) ⟨(Hf2.out.mono (Qa (Xb.drew) Xl hB3)).1,hs4⟩⟩
       |exact⟨rfl,Qao.early (Qa (Xb.drew) Xl hB3) ⟨(Hf2.out.mono (Qa ((Xb.alloc Xl _).drew) Xl hB3)).1,hs4⟩⟩)
     case rest =>
      obtain⟨rfl,nb,v1,v2,rfl,hnb,Kb,hBw,hFv⟩:=hcut;clear d0 a0 a1 b0 b1 b2 b3 d0' a0' a1' b0' b1' b2' b3' K9 HCa;have hdn:d<m.code.length:=(by have:=ho4;omega);have hd64:d<=64:=(by have:=HCo.out.small;omega);have hfr2:=ZcP Hfr.out HFb.out;have HMt:=(Zb7 l B ws w0 Hm.out wc kb mb hs tw s.1 s.2 (HK2.out.step hBw) (by rw[hhs];rfl) d hd64 ⟨f.locals,[Zd hcls]⟩ v1 v2 hFv (Qaf hfr2) hfr2 (fun k g e=>by have:=(hM.out.oks k g e).2;rw[HWok.out]at this;exact⟨Qaf this,this⟩) (by have h1:W.weight s.1+s.2.length<=W.weight F+T.length:=hM.out.weight;have h2:=HT.out;omega)).mono (fun e w' hp=>(ZbN (cls:=cls) (Zb:=Zb) (m:=m) (start:=start) hp));rw[HWe.out]at HMt;have HP3:=Xh (HP2.out.trans (zX.below hBw kb mb tw));have b23:=(Hb2.out.step hBw).cell 2;have g0:=Kb.cell 0;have g1:=Kb.cell 1;have HMT:Hid (∀s',W.meetT s (d,⟨f.locals,[Zd hcls]⟩)=some s'->W.Met (F,T) s'):=fun s' e=>hM.out.trans HH.out Hok.out (qm.meetT_yes HH.out hM.out.oks (by rw[HWn.out];exact hdn) (by rw[HWok.out];exact hfr2) e).1
      have hst2:R1=(W.meetT s (d,⟨f.locals,[Zd hcls]⟩)).bind fun s'=>ZaO W (Za l) i f s' (m.handlers.drop (j+1)):=hst.out
      replace HMt:Calls _ _ _ _ (Q4 w0 wc kb mb hs tw (W.meetT s (d,⟨f.locals,[Zd hcls]⟩))):=HMt;clear hst;cases hmt:W.meetT s (d,⟨f.locals,[Zd hcls]⟩) with
      |none =>
       rw[hmt]at HMt hst2;have hR0:Hid (R1=none):=hst2;have HMt:=Xh HMt;unfold Q4 at HMt;clear hst2 hmt HMT;go_wp2_with (go_fit (HMt.out);rintro e w5⟨rfl,hB5⟩)
       go_ret;rw[hR0.out];exact⟨rfl,hB5⟩
      |some s' =>
       rw[hmt]at HMt hst2;have hst2:=Xh (show ZaO W (Za l) i f s' (m.handlers.drop (j+1))=R1 from hst2.symm);have hM':=Xh (HMT.out s' hmt);have HMt:=Xh HMt;unfold Q4 at HMt;clear hmt HMT;go_wp2_with (go_fit (HMt.out);rintro e w5⟨rfl,tw',K5,P5⟩)
       go_roundw;case rel =>
        exact⟨j+1,s',tw',by omega,by simp,K5,HP3.out.trans P5,hM',hst2⟩
       case measure=>simp[intOf];omega
    |false =>
     rw[hfb]at HCa;rw[hfb,if_neg (by decide)]at Zc;unfold qbi at HCa;have hR0:Hid (R1=none):=Zc;clear hfb Zc;go_upto_region 6 with fail;rw[HW2.out];clear c0 c1 c2 c3;go_cut [12,13] from 31 to 64 (fun _ b wx=>b=.bool false/\Below w0.heap.size w0 wx)
     case first =>
      go_region_law (first
       |(go_simp;go_fit (HCa.out _ (Xb.drew));rintro e w3⟨hB3,⟨hz,_⟩|⟨_,rfl⟩⟩;(exact absurd hz (by decide)))
       |(go_simp;go_fit (HCa.out _ ((HA.out _ _).drew));rintro e w3⟨hB3,⟨hz,_⟩|⟨_,rfl⟩⟩;(exact absurd hz (by decide));(have K10:=K9.step hB3);(have x0:=K10.cell 0);(have x1:=K10.cell 1);(have y0:=K10.frozen 0);(have y1:=K10.frozen 1)))
      all_goals (go_wp2_with fail;go_meet;first
       |exact⟨rfl,(Qa HK2.out.below Xl (Qa (Xb.drew) Xl hB3)).alloc (Xf HK2.out.size hB3.size) _⟩
       |exact⟨rfl,((Qa HK2.out.below Xl (Qa (w:=w2) ((Xb.alloc Xl _).drew) Xl hB3)).setCell HK2.out.size _).setCell HK2.out.size _⟩)
     case rest =>
      obtain⟨rfl,hB⟩:=hcut;clear d0 a0 a1 b0 b1 b2 b3 d0' a0' a1' b0' b1' b2' b3' K9 HCa;go_wp2_with fail;go_ret;rw[hR0.out];exact⟨rfl,hB⟩
   ·rw[if_neg hrg]at Zc;have HI:=Xh hrg;have hst:=Xh Zc.symm;clear hrg Zc;go_wp2_with fail;all_goals first|(exfalso;have:=HI.out;omega)|skip
    all_goals
     go_roundw;case rel=>exact⟨j+1,s,tw,by omega,by simp,hK.out.step (Xb.alloc Xl _),hP.out.trans (zX.below (Xb.alloc Xl _) _ _ _),hM,hst.out⟩
     case measure=>simp[intOf];omega
  ·obtain rfl:j=m.handlers.length:=(by omega);have hRs:R1=some s:=by
    have:=hR.out;rw[List.drop_length]at this;exact this.symm
   subst hRs;have hic:i<m.code.length:=(by rw[<-HWn.out];exact hin);obtain⟨x,hx⟩:∃x,m.code[i]? = some x:=⟨m.code[i],by simp[hic]⟩;have hxm:=Xe hx;have HQ:Hid (((QX (Za l) cls Zb m.code i f).bind fun b=>W.meets s b)=(zq (Za l) cls Zb x f.locals f.stack).bind fun p=>W.meets s ((qay x i).map fun k=>(k,⟨p.1,p.2⟩))):=by
    unfold Hid QX;rw[hx];dsimp only;cases zq (Za l) cls Zb x f.locals f.stack<;>rfl
   obtain⟨b0,o,cap,vs,e,hxv,hvl,qc⟩:=Hcv.out.at hic;injection e with e1 _ e2
   subst e1 e2;rw[show m.code[i]=x from Option.some.inj ((Xn hic).symm.trans hx)]at hxv;unfold qy at hxv;subst hxv;have qc:=qc.mono hK.out.below qc.lt;have hz:=Hfr.out;have Hxo:=Xh (And.intro (Hio.out x hxm) (HCo.out.ins x hxm));have Hxj:=Xh (HCo.out.jumps x hxm);have HSt:Hid (∀L S,zq (Za l) cls Zb x f.locals f.stack=some (L,S)->zz (Za l) ⟨L,S⟩=0):=fun L S e=>zc8 HRl.out (HCo.out.ins x hxm) Hfr.out e
   have Hnx:Hid (∀k∈qay x i,k<m.code.length):=qcG HCo.out hx;have HAf:Hid (∀wx,Below wr.heap.size wr wx->_):=fun wx hb=>qdx ws wx B l (Hm.out.step (Below.mono ((hK.out.step hb).below) Xl)) cls Zb x f (.slice p1 f.locals.length n1) (.slice p2 f.stack.length n2) (hfw.mono hb) Hfr.out Hxo.out.1 (qb7 Hxo.out.2) hcs hgs
   have Hx:=Xh hx;clear hx hxm hz;obtain⟨op,xa,xb,type,xcls,name⟩:=x;obtain⟨c0,c1,c2,c3,c4,c5,_⟩:=qc;have HS:Hid (∀wx,Below wr.heap.size wr wx->QaV wx kb B w.heap.size b0 (o+i*6) (.slice (some ⟨b0,o,none⟩) m.code.length kc) (.slice p1 f.locals.length n1) (.slice p2 f.stack.length n2) ⟨op,xa,xb,type,xcls,name⟩) :=
    fun wx hb=>QaV.step ⟨hK.out.cellh (i:=0) (v:=.map (some B)) (by rw[hhs];rfl),hK.out.cellh (i:=7) (v:=.slice (some ⟨b0,o,none⟩) m.code.length kc) (by rw[hhs];rfl),hk.cell 0,hk.cell 1,c0,c1,c2,c3,c4,c5⟩ hb
   have HLt:Hid (kb<wr.heap.size/\w.heap.size<wr.heap.size/\b0<wr.heap.size):=⟨hK.out.box.lt,hk.lt,Zl c0⟩;obtain⟨k0,k1,k2,k3,k4,k5,k6,k7,k8,k9⟩:=HS.out wr Xb;clear c0 c1 c2 c3 c4 c5;clear hk hfw;unfold qbF ZW at HAf;dsimp only at HAf HQ HSt Hxj Hnx;have HL64:Hid (m.code.length<=40):=HCo.out.small;have hicI:(i:Int)<(m.code.length:Int):=(by omega);cases hst:zq (Za l) cls Zb ⟨op,xa,xb,type,xcls,name⟩ f.locals f.stack with
   |none =>
    rw[hst]at HAf HQ;replace HAf:Hid (∀wx,Below wr.heap.size wr wx->Calls _ _ _ wx fun e w'=>e=_/\Below wx.heap.size wx w'/\QaV w' kb B w.heap.size b0 (o+i*6) (.slice (some ⟨b0,o,none⟩) m.code.length kc) (.slice p1 f.locals.length n1) (.slice p2 f.stack.length n2) ⟨op,xa,xb,type,xcls,name⟩):=fun wx hb=>(HAf.out wx hb).mono fun e w' ⟨hB,he⟩=>⟨he,hB,HS.out w' (Qa hb Xl hB)⟩
    clear hst;go_upto_region 10 with fail;go_cut [14,15] (fun _ b wx=>b=.bool false/\Below w0.heap.size w0 wx)
    case first =>
     go_region_held3 (fun w'=>w'.cell? ⟨kb,0,none⟩=some (.map (some B))/\w'.cell? ⟨kb,7,none⟩=some (.slice (some ⟨b0,o,none⟩) m.code.length kc)/\w'.cell? ⟨w.heap.size,0,none⟩=some (.slice p1 f.locals.length n1)/\w'.cell? ⟨w.heap.size,1,none⟩=some (.slice p2 f.stack.length n2)/\w'.cell? ⟨b0,o+i*6,none⟩=some (.int .i64 op)/\w'.cell? ⟨b0,o+i*6+1,none⟩=some (.int .i64 xa)/\w'.cell? ⟨b0,o+i*6+1+1,none⟩=some (.int .i64 xb)/\w'.cell? ⟨b0,o+i*6+1+1+1,none⟩=some (.string type)/\w'.cell? ⟨b0,o+i*6+1+1+1+1,none⟩=some (.string xcls)/\w'.cell? ⟨b0,o+i*6+1+1+1+1+1,none⟩=some (.string name))
      (first|go_keep|exact QaV.other (x:=⟨op,xa,xb,type,xcls,name⟩) ⟨k0,k1,k2,k3,k4,k5,k6,k7,k8,k9⟩ HLt.out.1 HLt.out.2.1 HLt.out.2.2 _ _)
      (first
       |(go_fit (HAf.out _ ?_);(first|exact Xb.drew|exact(Xb.alloc Xl _).drew);rintro e w3⟨rfl,hB3,k0,k1,k2,k3,k4,k5,k6,k7,k8,k9⟩;(first|(have KB:Blk w3 wr.heap.size 27 [.slice none 0 0,.slice none 0 0]:=Blk.step (w:=(wr.alloc (.cells #[.slice none 0 0,.slice none 0 0] 27)).drew) (Blk.new wr 27 [.slice none 0 0,.slice none 0 0]) hB3;obtain⟨x0,x1⟩:=KB.cells2;(have f0:=KB.frozen 0);(have f1:=KB.frozen 1))|skip)))
     all_goals (go_wp2_with fail;go_meet;first
      |exact⟨rfl,(Qa hK.out.below Xl (Qa (Xb.drew) Xl hB3)).alloc (Xf hK.out.size hB3.size) _⟩
      |exact⟨rfl,((Qa hK.out.below Xl (Qa (w:=wr) ((Xb.alloc Xl _).drew) Xl hB3)).setCell hK.out.size _).setCell hK.out.size _⟩)
    case rest =>
     obtain⟨rfl,hB⟩:=hcut;clear k0 k1 k2 k3 k4 k5 k6 k7 k8 k9 HAf;go_wp2_with fail;go_ret;(try rw[Option.bind_some])
     rw[HQ.out];exact⟨rfl,hB⟩
   |some r =>
    obtain⟨L,S⟩:=r;rw[hst]at HAf HQ;dsimp only at HAf;replace HAf:Hid (∀wx,Below wr.heap.size wr wx->Calls _ _ _ wx fun e w'=>(∃lv sv,e=.returned (.tuple #[.agg #[lv,sv],.bool true])/\zk w' lv sv ⟨L,S⟩)/\Below wx.heap.size wx w'/\QaV w' kb B w.heap.size b0 (o+i*6) (.slice (some ⟨b0,o,none⟩) m.code.length kc) (.slice p1 f.locals.length n1) (.slice p2 f.stack.length n2) ⟨op,xa,xb,type,xcls,name⟩):=fun wx hb=>(HAf.out wx hb).mono fun e w' ⟨hB,he⟩=>⟨he,hB,HS.out w' (Qa hb Xl hB)⟩
    have hfr2:=HSt.out L S hst;have HQ2:Hid (((QX (Za l) cls Zb m.code i f).bind fun b=>W.meets s b)=W.meets s ((qay ⟨op,xa,xb,type,xcls,name⟩ i).map fun k=>(k,⟨L,S⟩))):=HQ.out;clear hst HQ HSt;have hNl:=zcm ⟨op,xa,xb,type,xcls,name⟩ i;generalize hNe:qay ⟨op,xa,xb,type,xcls,name⟩ i=N at *;have HNe:=Xh hNe;clear hNe;go_upto_region 10 with fail;go_cut [14,15] (fun p b wx=>b=.bool true/\Qao wr wx ⟨L,S⟩ p)
    case first =>
     go_region_held3 (fun w'=>w'.cell? ⟨kb,0,none⟩=some (.map (some B))/\w'.cell? ⟨kb,7,none⟩=some (.slice (some ⟨b0,o,none⟩) m.code.length kc)/\w'.cell? ⟨w.heap.size,0,none⟩=some (.slice p1 f.locals.length n1)/\w'.cell? ⟨w.heap.size,1,none⟩=some (.slice p2 f.stack.length n2)/\w'.cell? ⟨b0,o+i*6,none⟩=some (.int .i64 op)/\w'.cell? ⟨b0,o+i*6+1,none⟩=some (.int .i64 xa)/\w'.cell? ⟨b0,o+i*6+1+1,none⟩=some (.int .i64 xb)/\w'.cell? ⟨b0,o+i*6+1+1+1,none⟩=some (.string type)/\w'.cell? ⟨b0,o+i*6+1+1+1+1,none⟩=some (.string xcls)/\w'.cell? ⟨b0,o+i*6+1+1+1+1+1,none⟩=some (.string name))
      (first|go_keep|exact QaV.other (x:=⟨op,xa,xb,type,xcls,name⟩) ⟨k0,k1,k2,k3,k4,k5,k6,k7,k8,k9⟩ HLt.out.1 HLt.out.2.1 HLt.out.2.2 _ _)
      (first
       |(go_fit (HAf.out _ ?_);(first|exact Xb.drew|exact(Xb.alloc Xl _).drew);rintro e w3⟨⟨lv3,sv3,rfl,hv3⟩,hB3,k0,k1,k2,k3,k4,k5,k6,k7,k8,k9⟩;obtain⟨⟨p3,n3,rfl,_⟩,⟨p4,n4,rfl,_⟩⟩:=And.intro hv3.1.open hv3.2.open;(first|(have KB:Blk w3 wr.heap.size 27 [.slice none 0 0,.slice none 0 0]:=Blk.step (w:=(wr.alloc (.cells #[.slice none 0 0,.slice none 0 0] 27)).drew) (Blk.new wr 27 [.slice none 0 0,.slice none 0 0]) hB3;obtain⟨x0,x1⟩:=KB.cells2;(have f0:=KB.frozen 0);(have f1:=KB.frozen 1))|skip)))
     all_goals (go_wp2_with fail;go_meet;first
      |exact⟨rfl,Qao.late (Qa (Xb.drew) Xl hB3) hv3⟩
      |exact⟨rfl,Qao.early (Qa (Xb.drew) Xl hB3) hv3⟩)
    case rest =>
     obtain⟨rfl,nb,v1,v2,rfl,hnb,Kb,hBw,hFv⟩:=hcut;clear k0 k1 k2 k3 k4 k5 k6 k7 k8 k9 HAf;have KC:=hK.out.step hBw;have d7:=KC.cellh (i:=7) (v:=.slice (some ⟨b0,o,none⟩) m.code.length kc) (by rw[hhs];rfl);have HFA:Hid (Calls _ _ _ wc _):=zcf m.code (.slice (some ⟨b0,o,none⟩) m.code.length kc) wc (Hcv.out.mono KC.below (by decide) (fun _ _ h=>h)) i ⟨op,xa,xb,type,xcls,name⟩ Hx.out hi (fun hj=>(Hxj.out hj).1);rw[HNe.out]at HFA;have HKC:=Xh KC;have HKb:=Xh Kb;have HBw:=Xh hBw;have HFv:=Xh hFv;have Hnb:=Xh hnb;have Hfr2:=Xh hfr2;clear KC Kb hBw hFv hnb hfr2;go_wp2_with (go_fit (HFA.out);rintro e w6⟨v6,rfl,hB6,hq6⟩;obtain⟨a6,c6,rfl⟩:=zaN hq6)
     obtain⟨g6,_,g6b,g6c⟩:=qdl hq6;have HB6:=Xh hB6;have HG6:=Xh g6c;obtain⟨R2,hR2⟩:∃R,W.meets s (N.map fun k=>(k,(⟨L,S⟩:Frm)))=R:=⟨_,rfl⟩;have HQ3:Hid (((QX (Za l) cls Zb m.code i f).bind fun b=>W.meets s b)=R2):=HQ2.out.trans hR2;clear d7 HFA hq6 g6c hB6 HQ2;go_loopw [94] (fun x wy=>∃(j:Nat) (s2:Asg Frm×List Nat) (tw2:Value),j<=N.length/\x=.int .i64 j/\Hid (LK w0 wy kb mb _ tw2 s2.1 s2.2)/\Hid (zX w6 wy kb mb tw tw2)/\Hid (W.Met (F,T) s2)/\Hid (W.meets s2 ((N.drop j).map fun k=>(k,(⟨L,S⟩:Frm)))=R2)) (fun x _=>N.length-(intOf x).toNat)
     case atStart=>exact⟨0,s,tw,Nat.zero_le _,rfl,HKC.out.step HB6.out,zX.refl _ _ _ _,hM,hR2⟩
     case round =>
      obtain⟨j,s2,tw2,hj,rfl,hK2,hP2,hM2,hR2⟩:=hrel;by_cases hjl:j<N.length
      ·obtain⟨k,hk⟩:∃k,N[j]? = some k:=⟨N[j],by simp[hjl]⟩;obtain⟨off,cap,e,hc⟩:=HG6.out j k hk;injection e with e1 _ e2
       subst e1 e2;have hf6:=HKC.out.fresh g6b;have hc2:wr.cell? ⟨g6,off+j,none⟩=some (.int .i64 (k:Int)):=(World.cell?_of_block (hP2.out.block g6 (Zl hc) hf6.1 hf6.2.1 hf6.2.2)).trans hc;have hc2':wr.cell? ⟨g6,off+j*1,none⟩=some (.int .i64 (k:Int)):=(by rw[Nat.mul_one];exact hc2);have hfn:=hK.out.fresh Hnb.out;have Kb6:=hP2.out.blk (HKb.out.step HB6.out) hfn.1 hfn.2.1 hfn.2.2;have g0:=Kb6.cell 0;have g1:=Kb6.cell 1;have hkn:=Hnx.out k (Xe hk);have hk64:k<=64:=(by have:=HL64.out;omega);have Zc:W.meets s2 ((N.drop j).map fun k=>(k,(⟨L,S⟩:Frm)))=(W.meetT s2 (k,⟨L,S⟩)).bind fun s'=>W.meets s' ((N.drop (j+1)).map fun k=>(k,(⟨L,S⟩:Frm))):=by
        obtain⟨hk2,rfl⟩:=List.getElem?_eq_some_iff.1 hk;rw[List.drop_eq_getElem_cons hk2];rfl
       rw[hR2.out]at Zc;have HMt:=(Zb7 l B ws w0 Hm.out wr kb mb _ tw2 s2.1 s2.2 hK2.out (by rw[Hhs.out];rfl) k hk64 ⟨L,S⟩ v1 v2 ((HFv.out.mono HB6.out).keepS hP2.out.texts) (Qaf Hfr2.out) Hfr2.out (fun k g e=>by have:=(hM2.out.oks k g e).2;rw[HWok.out]at this;exact⟨Qaf this,this⟩) (by have h1:W.weight s2.1+s2.2.length<=W.weight F+T.length:=hM2.out.weight;have h2:=HT.out;omega)).mono (fun e w' hp=>(ZbN (cls:=cls) (Zb:=Zb) (m:=m) (start:=start) hp));rw[HWe.out]at HMt;replace HMt:Calls _ _ _ _ (Q4 w0 wr kb mb _ tw2 (W.meetT s2 (k,⟨L,S⟩))):=HMt;have HMT:Hid (∀s',W.meetT s2 (k,⟨L,S⟩)=some s'->W.Met (F,T) s'):=fun s' e=>hM2.out.trans HH.out Hok.out (qm.meetT_yes HH.out hM2.out.oks (by rw[HWn.out];exact hkn) (by rw[HWok.out];exact Hfr2.out) e).1
       clear hk hf6 hc hfn Kb6 hkn;cases hmt:W.meetT s2 (k,⟨L,S⟩) with
       |none =>
        rw[hmt]at HMt Zc;have hR0:Hid (R2=none):=Zc;have HMt:=Xh HMt;unfold Q4 at HMt;clear Zc hmt HMT;go_wp2_with (go_fit (HMt.out);rintro e w7⟨rfl,hB7⟩)
        go_ret;(try rw[Option.bind_some])
        rw[HQ3.out,hR0.out];exact⟨rfl,hB7⟩
       |some s' =>
        rw[hmt]at HMt Zc;have hst2:=Xh (show W.meets s' ((N.drop (j+1)).map fun k=>(k,(⟨L,S⟩:Frm)))=R2 from Zc.symm);have hM':=Xh (HMT.out s' hmt);have HMt:=Xh HMt;unfold Q4 at HMt;clear hmt HMT Zc;go_wp2_with (go_fit (HMt.out);rintro e w7⟨rfl,tw',K7,P7⟩)
        go_roundw;case rel=>exact⟨j+1,s',tw',by omega,by simp,K7,hP2.out.trans P7,hM',hst2⟩
        case measure=>simp[intOf];omega
      ·obtain rfl:j=N.length:=(by omega);have hRs:Hid (R2=some s2):=by
        have:=hR2.out;rw[List.drop_length]at this;exact this.symm
       go_wp2_with fail;go_ret;(try rw[Option.bind_some])
       rw[HQ3.out,hRs.out];exact⟨rfl,tw2,hK2,(HP1.out.trans hP.out).trans (((zX.below (Qa HBw Xl HB6) kb mb tw)).trans hP2.out)⟩
set_option maxRecDepth 512
end Go.Proofs.YtlmfmioljeppfaaGreatDoor
