/- Lemmas; conditions: as each states. -/
import Derived.Test.YtlmfmioljeppfaaGreatDoorClassMethod
set_option maxHeartbeats 4000000
namespace Go.Proofs.YtlmfmioljeppfaaGreatDoor
open Go.RowKit Go.Shelf Go.Lib
structure qab (c:Qb):Prop where
 name:c.name.size<=1048576
 super:c.super.size<=1048576
 faces:∀x∈c.faces,x.size<=1048576
 fields:∀x∈c.fields,x.name.size<=1048576/\x.type.size<=1048576
 methods:∀x∈c.methods,Z1 x
def Qz(c:Qb)(fv dv mv:Value):Value:=.agg #[.string c.name,.string c.super,fv,.bool c.face,dv,mv]
theorem QS{α:Type}(f:α->List α->Nat)(l:List α)(k:Nat)(x:α)(h:l[k]? = some x):
 Qf f (l.take k) (l.drop k)=if f x (l.take k)=0 then Qf f (l.take (k+1)) (l.drop (k+1)) else f x (l.take k):=by
 obtain⟨A,rfl⟩:=List.getElem?_eq_some_iff.1 h;rw[List.drop_eq_getElem_cons A,Qf,List.take_succ_eq_append_getElem A]
theorem QM{w wx:World}{A B C D E F:Value}(h:zB w wx [A,B,C,D,E,F]):
 wx.cell? ⟨w.heap.size,0,none⟩=some A/\wx.cell? ⟨w.heap.size,1,none⟩=some B/\wx.cell? ⟨w.heap.size,2,none⟩=some C/\wx.cell? ⟨w.heap.size,3,none⟩=some D /\
 wx.cell? ⟨w.heap.size,4,none⟩=some E/\wx.cell? ⟨w.heap.size,5,none⟩=some F:=by
 obtain⟨G,H,I,J,L,M,_⟩:=h.cells;exact⟨G,H,I,J,L,M⟩
theorem zbB(s:ByteArray):zE (Qw s)=if qt (lst s) then .nilIface else .iface 29 (.int .i64 1):=by
 unfold Qw lst;cases qt s.data.toList<;>simp[zE]
theorem Zcm(s:ByteArray):zE (Q2 s)=if Zs (lst s) then .nilIface else .iface 29 (.int .i64 1):=by
 unfold Q2 lst;cases Zs s.data.toList<;>simp[zE]
theorem zep{w wx:World}{A B:Value}(h:zB w wx [A,B]):wx.cell? ⟨w.heap.size,0,none⟩=some A/\wx.cell? ⟨w.heap.size,1,none⟩=some B:=by
 obtain⟨C,D,_⟩:=h.cells;exact⟨C,D⟩
set_option maxRecDepth 100000
theorem qdv(c:Qb)(fv dv mv:Value)(w:World)(hl:QaB w)(ho:qab c)(hf:Qh w fv c.faces)(hd:Zg w 2 QE dv c.fields)(hm:Zg w 8 (zr w) mv c.methods)(v:Value)(hfv:zE (qd c)=v):
 Calls Tryz.prog 87 #[Qz c fv dv mv] w fun e w'=>e=.returned v/\Below w.heap.size w w':=by
 have q:Hid (∀wx,_):=fun wx=>ZR c.name wx (Xf ho.name (by decide))
 have t:Hid (∀wx,_):=fun wx=>ZR c.super wx (Xf ho.super (by decide))
 rw[zbB]at q t;obtain⟨pf,O,rfl,hf1,hf2,hfc⟩:=hf.open;obtain⟨pd,P,rfl,hd1,hd2,hdc⟩:=hd.open;obtain⟨pm,R,rfl,hm1,hm2,hmc⟩:=hm.open;have hmf:∀fn first cap w,(Instr.makeFunc fn first cap).run Tryz.prog w=.ok (.func fn first cap) w:=fun _ _ _ _=>rfl
 have HL:Hid (∀wx,Below w.heap.size w wx->QaB wx):=fun wx hb=>hl.mono hb hl.1
 have HO:=Xh ho;have HFS:=Xh hf;have HDS:=Xh hd;have HMS:=Xh hm;have HFC:=Xh hfc;have HDC:=Xh hdc;have HMC:=Xh hmc;clear hf hd hm hfc hdc hmc hl ho;obtain⟨M,E,C,N,A,B⟩:=c;unfold Qz;dsimp only at *;have I:Hid (v=zE (if !qt (lst M)||(E.size != 0&&!qt (lst E)) then 1
  else if Qf ZC [] C≠0 then Qf ZC [] C
  else if 8<C.length\/8<A.length\/8<B.length then 4
  else if Qf Qr [] A≠0 then Qf Qr [] A
  else if Qf qq [] B≠0 then Qf qq [] B
  else if N&&!A.isEmpty then 8 else 0)):=hfv.symm
 clear hfv;have zs:(E.size != 0)=!E.toList.isEmpty:=by rw[ZD];rfl
 rw[zs]at I;clear zs;obtain⟨ke,he⟩:∃k,E.toList.isEmpty=k:=⟨_,rfl⟩;rw[he]at I;generalize qt (lst M)=kn at *;generalize qt (lst E)=ks at *;by_cases J:(!kn||(!ke&&!ks))=true
 ·have D:Hid (v=.iface 29 (.int .i64 1)):=by rw[I.out,if_pos J];rfl
  clear I;go_enter Tryz.func87,Tryz.ntmps87;cases kn<;>cases ke<;>cases ks<;>first|(exact absurd J (by decide))|skip
  all_goals
   clear J;simp only[if_true,if_false,Bool.false_eq_true]at q t;go_wp2_with (first|(go_fit (q.out _);rintro e w2⟨rfl,T⟩;obtain⟨V,_⟩:=qaC T;(have Z:=V w.heap.size 1 (by simp)))|(go_fit (t.out _);rintro e w3⟨rfl,Y⟩))
   cases D.out;go_ret;first|exact⟨rfl,Qa (Xb.alloc Xl _) Xl T⟩|exact⟨rfl,Qa (Qa (Xb.alloc Xl _) Xl T) Xl Y⟩
 ·rw[if_neg J]at I;go_enter Tryz.func87,Tryz.ntmps87;go_upto_region 1 with fail;go_cut [24] (fun s wx=>s=.bool false/\zB w wx [.string M,.string E,.slice pf C.length O,.bool N,.slice pd A.length P,.slice pm B.length R])
  case first =>
   clear I;cases kn<;>cases ke<;>cases ks<;>first|(exact absurd (show(!false||_)=true from rfl) J)|(exact absurd (show(!true||(!false&&!false))=true from rfl) J)|skip
   all_goals
    clear J;simp only[if_true,if_false,Bool.false_eq_true]at q t;go_wp2_with (first|(go_fit (q.out _);rintro e w2⟨rfl,T⟩;obtain⟨V,_⟩:=qaC T;(have Z:=V w.heap.size 1 (by simp)))|(go_fit (t.out _);rintro e w3⟨rfl,Y⟩))
    go_meet;first|exact⟨rfl,zB.step (wx:=w.alloc _) ⟨Xb.alloc Xl _,by simp,by simp[QG]⟩ T⟩|exact⟨rfl,zB.step (zB.step (wx:=w.alloc _) ⟨Xb.alloc Xl _,by simp,by simp[QG]⟩ T) Y⟩
  case rest =>
   obtain⟨rfl,F⟩:=hcut;clear J q t he;obtain⟨g,Z,i,j,l,m⟩:=QM F;go_wp2_with fail;go_loopw [29] (fun x wr=>∃k,k<=C.length/\Hid (Qf ZC (C.take k) (C.drop k)=Qf ZC [] C)/\zB w wr [.string M,.string E,.slice pf C.length O,.bool N,.slice pd A.length P,.slice pm B.length R]/\x=.int .i64 k) (fun x _=>C.length-(intOf x).toNat)
   case atStart=>exact⟨0,by omega,rfl,F,rfl⟩
   case round =>
    obtain⟨k,hk,H,F,rfl⟩:=hrel;clear g Z i j l m;obtain⟨g,Z,i,j,l,m⟩:=QM F;have hlen:C.length<=9223372036854775807:=Xf hf1 hf2;by_cases hkl:k<C.length
    ·obtain⟨x,X⟩:∃x,C[k]? = some x:=⟨C[k],by simp[hkl]⟩;have U:=HO.out.faces x (Xe X);obtain⟨b,o,vs,rfl,rfl,_,d⟩:=HFC.out k x X;have d:=d.mono F.below d.lt;have G:=QS ZC C k x X;rw[H.out]at G;have HN:Hid (∀wx,_):=fun wx=>ZR x wx (Xf U (by decide))
     rw[zbB]at HN;have S:∀wx,Below w.heap.size w wx->_:=fun wx hb=>zan (C.take k) (.slice (some ⟨b,o,none⟩) k O) x wx ((Zg.take HFS.out rfl rfl hk).mono hb (by decide) (fun _ _ h=>h))
     have HC:=Xh S;have HX:=Xh X;clear X S U;rw[show ZC x (C.take k)=if !qt (lst x) then 1 else if QK (C.take k) x then 5 else 0 from rfl]at G;obtain⟨c0,_⟩:=d;rw[Nat.mul_one]at c0;generalize QK (C.take k) x=km at *;generalize qt (lst x)=kx at *;cases kx with
     |false =>
      replace G:Qf ZC [] C=1:=G;have D:Hid (v=.iface 29 (.int .i64 1)):=(by rw[I.out,if_pos (by rw[G];decide),G];rfl);simp only[if_false,Bool.false_eq_true]at HN;clear I G H HC;go_wp2_with (first|(go_fit (HN.out _);rintro e w2⟨rfl,T⟩))
      cases D.out;go_ret;exact⟨rfl,(F.step T).below⟩
     |true =>
      simp only[if_true]at HN;go_upto_region 8 with(go_fit (HN.out _);rintro e w2⟨rfl,T⟩)
      replace F:=F.step T;clear g Z i j l m T;obtain⟨g,Z,i,j,l,m⟩:=QM F;cases km with
      |true =>
       replace G:Qf ZC [] C=5:=G;have D:Hid (v=.iface 29 (.int .i64 5)):=(by rw[I.out,if_pos (by rw[G];decide),G];rfl);clear I G H;go_wp2_with (first|(go_fit (HC.out _ F.below);rintro e w3⟨rfl,rfl⟩))
       cases D.out;go_ret;exact⟨rfl,F.below⟩
      |false =>
       have hst:=Xh G.symm;clear I G H;go_wp2_with (first|(go_fit (HC.out _ F.below);rintro e w3⟨rfl,rfl⟩))
       exact⟨⟨k+1,by omega,hst.out,F,by simp⟩,by simp[intOf];omega⟩
    ·have L:Hid (Qf ZC [] C=0):=by
      rw[<-H.out,Xg (by omega)];rfl
     clear H;obtain rfl:k=C.length:=(by omega);rw[if_neg (by rw[L.out];decide)]at I;clear HFC HFS L;by_cases hmx:8<C.length\/8<A.length\/8<B.length
     ·have D:Hid (v=.iface 29 (.int .i64 4)):=(by rw[I.out,if_pos hmx];rfl);clear I;go_wp2_with fail;all_goals first|(exfalso;omega)|skip
      all_goals
       cases D.out;go_ret;exact⟨rfl,F.below⟩
     ·rw[if_neg hmx]at I;simp only[not_or,Nat.not_lt]at hmx;obtain⟨m1,m2,m3⟩:=hmx;go_upto_region 11 with fail;go_cut [56] (fun s wx=>s=.bool false/\wx=wr)
      case first =>
       clear I;go_wp2_with fail;all_goals first|(exfalso;omega)|skip
       all_goals
        go_meet;exact⟨by simp;omega,rfl⟩
      case rest =>
      obtain⟨rfl,rfl⟩:=hcut;go_wp2_with fail;go_loopw [61] (fun x wr=>∃k,k<=A.length/\Hid (Qf Qr (A.take k) (A.drop k)=Qf Qr [] A)/\zB w wr [.string M,.string E,.slice pf C.length O,.bool N,.slice pd A.length P,.slice pm B.length R]/\x=.int .i64 k) (fun x _=>A.length-(intOf x).toNat)
      case atStart=>exact⟨0,by omega,rfl,F,rfl⟩
      case round =>
       obtain⟨k,hk,H,F,rfl⟩:=hrel;clear g Z i j l m;obtain⟨g,Z,i,j,l,m⟩:=QM F;have hlen:A.length<=9223372036854775807:=Xf hd1 hd2;by_cases hkl:k<A.length
       ·obtain⟨x,X⟩:∃x,A[k]? = some x:=⟨A[k],by simp[hkl]⟩;have U:=HO.out.fields x (Xe X);obtain⟨b,o,vs,rfl,rfl,_,d⟩:=HDC.out k x X;have d:=d.mono F.below d.lt;have G:=QS Qr A k x X;rw[H.out,show Qr x (A.take k)=if !qt (lst x.name)||!Zs (lst x.type) then 1 else if (A.take k).any fun y=>decide (y.name=x.name) then 5 else 0 from rfl]at G;have HN:Hid (∀wx,_):=fun wx=>ZR x.name wx (Xf U.1 (by decide))
        have HT:Hid (∀wx,_):=fun wx=>qau x.type wx (Xf U.2 (by decide))
        rw[zbB]at HN;rw[Zcm]at HT;have HA:Hid (∀wx,zB wr wx [.string x.name,.string x.type]->Calls Tryz.prog 120 #[.slice (some ⟨b,o,none⟩) k P,.func (.func 121) #[] #[.pointer (some ⟨wr.heap.size,0,none⟩)]] wx fun e w'=>e=.returned (.bool ((A.take k).any fun y=>decide (y.name=x.name)))/\Below wx.heap.size wx w'):=by
         intro wx f;refine zcf QE (fun y=>decide (y.name=x.name)) 121 _ (enters_of Tryz.func121 (by kernel_rfl) rfl) (A.take k) _ wx ((Zg.take HDS.out rfl rfl hk).mono (F.step f.below).below (by decide) (fun _ _ h=>h)) ?_;rintro W y a0 a1 hy hh hW;unfold QE at hh;simp only[List.cons.injEq]at hh;obtain⟨rfl,rfl,_⟩:=hh;show Calls Tryz.prog 121 #[.agg #[.string y.name,.string y.type],.pointer (some ⟨wr.heap.size,0,none⟩)] W _
         exact qc5 y _ _ W (Nat.lt_of_lt_of_le f.size hW.size) ((hW.cell (p:=⟨_,0,none⟩) f.size).trans (zep f).1)
        have HX:=Xh X;clear X U;obtain⟨c0,c1,_⟩:=d;have hszw:=F.size;generalize ((A.take k).any fun y=>decide (y.name=x.name))=km at *;generalize qt (lst x.name)=kx at *;generalize Zs (lst x.type)=kt at *;cases kx with
        |false =>
         replace G:Qf Qr [] A=1:=G;have D:Hid (v=.iface 29 (.int .i64 1)):=(by rw[I.out,if_pos (by rw[G];decide),G];rfl);simp only[if_false,Bool.false_eq_true]at HN;clear I G H HA HT;go_wp2_with (first|(go_fit (HN.out _);rintro e w2⟨rfl,T⟩))
         cases D.out;go_ret;exact⟨rfl,((F.alloc _).step T).below⟩
        |true =>
         simp only[if_true]at HN;cases kt with
         |false =>
          replace G:Qf Qr [] A=1:=G;have D:Hid (v=.iface 29 (.int .i64 1)):=(by rw[I.out,if_pos (by rw[G];decide),G];rfl);simp only[if_false,Bool.false_eq_true]at HT;clear I G H HA;go_wp2_with (first|(go_fit (HN.out _);rintro e w2⟨rfl,T⟩;obtain⟨V,_⟩:=qaC T;(have r1:=V wr.heap.size 1 (by simp)))|(go_fit (HT.out _);rintro e w3⟨rfl,Y⟩))
          cases D.out;go_ret;exact⟨rfl,(((F.alloc _).step T).step Y).below⟩
         |true =>
          simp only[if_true]at HT;go_upto_region 18 with(first|(go_fit (HN.out _);rintro e w2⟨rfl,T⟩;obtain⟨V,_⟩:=qaC T;(have r1:=V wr.heap.size 1 (by simp)))|(go_fit (HT.out _);rintro e w3⟨rfl,Y⟩))
          have f:zB wr w3 [.string x.name,.string x.type]:=zB.step (zB.step (wx:=wr.alloc _) ⟨Xb.alloc Xl _,by simp,by simp[QG]⟩ T) Y;replace F:=F.step f.below;clear g Z i j l m r1 V T Y;obtain⟨g,Z,i,j,l,m⟩:=QM F;cases km with
          |true =>
           replace G:Qf Qr [] A=5:=G;have D:Hid (v=.iface 29 (.int .i64 5)):=(by rw[I.out,if_pos (by rw[G];decide),G];rfl);clear I G H;go_wp2_with (first|(go_fit (HA.out _ f);rintro e w4⟨rfl,a⟩))
           cases D.out;go_ret;exact⟨rfl,(F.step a).below⟩
          |false =>
           have hst:=Xh G.symm;clear I G H;go_wp2_with (first|(go_fit (HA.out _ f);rintro e w4⟨rfl,a⟩))
           exact⟨⟨k+1,by omega,hst.out,F.step a,by simp⟩,by simp[intOf];omega⟩
       ·have L:Hid (Qf Qr [] A=0):=by
         rw[<-H.out,Xg (by omega)];rfl
        clear H;obtain rfl:k=A.length:=(by omega);rw[if_neg (by rw[L.out];decide)]at I;clear HDC HDS L;go_wp2_with fail;go_loopw [88] (fun x wr=>∃k,k<=B.length/\Hid (Qf qq (B.take k) (B.drop k)=Qf qq [] B)/\zB w wr [.string M,.string E,.slice pf C.length O,.bool N,.slice pd A.length P,.slice pm B.length R]/\x=.int .i64 k) (fun x _=>B.length-(intOf x).toNat)
        case atStart=>exact⟨0,by omega,rfl,F,rfl⟩
        case round =>
         obtain⟨k,hk,H,F,rfl⟩:=hrel;clear g Z i j l m;obtain⟨g,Z,i,j,l,m⟩:=QM F;have hlen:B.length<=9223372036854775807:=Xf hm1 hm2;by_cases hkl:k<B.length
         ·obtain⟨x,X⟩:∃x,B[k]? = some x:=⟨B[k],by simp[hkl]⟩;have U:=HO.out.methods x (Xe X);obtain⟨b,o,vs,rfl,⟨cv,hv,rfl,hcv,hhv⟩,_,d⟩:=HMC.out k x X;have d:=d.mono F.below d.lt;have G:=QS qq B k x X;rw[H.out]at G;obtain⟨pc,cc,rfl,hc1,hc2,_⟩:=hcv.open;obtain⟨ph,ch,rfl,hh1,hh2,_⟩:=hhv.open;have S:∀wx,Below w.heap.size w wx->_:=fun wx hb=>Qc5 x _ _ (B.take k) (.slice (some ⟨b,o,none⟩) k R) wx (HL.out wx hb) U (hcv.mono hb (by decide) (fun _ _ h=>h)) (hhv.mono hb (by decide) (fun _ _ h=>h)) ((Zg.take HMS.out rfl rfl hk).mono hb (by decide) (fun _ _ h=>h.mono hb)) _ rfl
          have HX:=Xh X;clear X U hcv hhv;obtain⟨c0,c1,c2,c3,c4,c5,c6,c7,_⟩:=d;unfold qR at S;generalize qq x (B.take k)=fx at *;rcases qI fx with⟨z,hz⟩|⟨z,hz⟩
          ·rw[if_pos hz]at G;rw[z]at S;have hst:=Xh G.symm;have HC:=Xh S;clear S G I H z hz;have hszw:=F.size;go_upto_region 24 with fail;have f:zB wr (wr.alloc (.cells #[.string x.name,.string x.type,.bool x.static,.bool x.abs,.bool x.priv,.int .i64 x.locals,.slice pc x.code.length cc,.slice ph x.handlers.length ch] 53)) [.string x.name,.string x.type,.bool x.static,.bool x.abs,.bool x.priv,.int .i64 x.locals,.slice pc x.code.length cc,.slice ph x.handlers.length ch]:=⟨Xb.alloc Xl _,by simp,by simp[QG]⟩;generalize wr.alloc (.cells #[.string x.name,.string x.type,.bool x.static,.bool x.abs,.bool x.priv,.int .i64 x.locals,.slice pc x.code.length cc,.slice ph x.handlers.length ch] 53)=w3 at *;obtain⟨r0,r1,r2,r3,r4,r5,r6,r7⟩:=Qah f;replace F:=F.step f.below;clear g Z i j l m c0 c1 c2 c3 c4 c5 c6 c7;obtain⟨g,Z,i,j,l,m⟩:=QM F;go_cut [9] (fun s wx=>s=.nilIface/\zB w wx [.string M,.string E,.slice pf C.length O,.bool N,.slice pd A.length P,.slice (some ⟨b,o,none⟩) B.length R])
           case first =>
            go_region_with (go_fit (HC.out _ F.drew.below);rintro e w4⟨rfl,a⟩)
            all_goals
             go_wp2
             go_meet;exact⟨rfl,F.drew.step a⟩
           case rest =>
            obtain⟨rfl,F⟩:=hcut;go_wp2_with fail;exact⟨⟨k+1,by omega,hst.out,F,by simp⟩,by simp[intOf];omega⟩
          ·rw[if_neg hz]at G;rw[z]at S;have D:Hid (v=.iface 29 (.int .i64 fx)):=(by rw[I.out,if_pos (by rw[G];exact hz),G];exact z);have HC:=Xh S;clear S G I H z hz;have hszw:=F.size;go_upto_region 24 with fail;have f:zB wr (wr.alloc (.cells #[.string x.name,.string x.type,.bool x.static,.bool x.abs,.bool x.priv,.int .i64 x.locals,.slice pc x.code.length cc,.slice ph x.handlers.length ch] 53)) [.string x.name,.string x.type,.bool x.static,.bool x.abs,.bool x.priv,.int .i64 x.locals,.slice pc x.code.length cc,.slice ph x.handlers.length ch]:=⟨Xb.alloc Xl _,by simp,by simp[QG]⟩;generalize wr.alloc (.cells #[.string x.name,.string x.type,.bool x.static,.bool x.abs,.bool x.priv,.int .i64 x.locals,.slice pc x.code.length cc,.slice ph x.handlers.length ch] 53)=w3 at *;obtain⟨r0,r1,r2,r3,r4,r5,r6,r7⟩:=Qah f;replace F:=F.step f.below;clear g Z i j l m c0 c1 c2 c3 c4 c5 c6 c7;obtain⟨g,Z,i,j,l,m⟩:=QM F;go_cut [9] (fun s wx=>s=.iface 29 (.int .i64 fx)/\zB w wx [.string M,.string E,.slice pf C.length O,.bool N,.slice pd A.length P,.slice (some ⟨b,o,none⟩) B.length R])
           case first =>
            go_region_with (go_fit (HC.out _ F.drew.below);rintro e w4⟨rfl,a⟩)
            all_goals
             go_wp2
             go_meet;exact⟨rfl,F.drew.step a⟩
           case rest =>
            obtain⟨rfl,F⟩:=hcut;go_wp2_with fail;cases D.out;go_ret;exact⟨rfl,F.below⟩
         ·have L:Hid (Qf qq [] B=0):=by
           rw[<-H.out,Xg (by omega)];rfl
          clear H;obtain rfl:k=B.length:=(by omega);rw[if_neg (by rw[L.out];decide)]at I;clear HMC HMS L;cases N with
          |false =>
           have D:Hid (v=.nilIface):=(by rw[I.out];rfl);clear I;go_wp2_with fail;cases D.out;go_ret;exact⟨rfl,F.below⟩
          |true =>
           cases A with
           |nil =>
            have D:Hid (v=.nilIface):=(by rw[I.out];rfl);clear I;go_wp2_with fail;cases D.out;go_ret;exact⟨rfl,F.below⟩
           |cons y r =>
            have D:Hid (v=.iface 29 (.int .i64 8)):=(by rw[I.out];rfl);have hl:0<(y::r).length:=(by simp);clear I;generalize (y::r).length=n at *;go_wp2_with fail;all_goals first|(exfalso;omega)|skip
            cases D.out;go_ret;exact⟨rfl,F.below⟩
set_option maxRecDepth 512
end Go.Proofs.YtlmfmioljeppfaaGreatDoor
