/- Lemmas; conditions: as each states. -/
import Derived.Test.YtmclocdhcblbiaaGreatDoorClassMethod
set_option maxHeartbeats 4000000
namespace Go.Proofs.YtmclocdhcblbiaaGreatDoor
open Go.RowKit Go.Shelf Go.Lib
structure Z4 (c:qa):Prop where
 name:c.name.size<=1048576
 super:c.super.size<=1048576
 faces:∀x∈c.faces,x.size<=1048576
 fields:∀x∈c.fields,x.name.size<=1048576/\x.type.size<=1048576
 methods:∀x∈c.methods,Zav x
def Qv(c:qa)(fv dv mv:Value):Value:=.agg #[.string c.name,.string c.super,fv,.bool c.face,dv,mv]
theorem qav{α:Type}(f:α->List α->Nat)(l:List α)(k:Nat)(x:α)(h:l[k]? = some x):
 zi f (l.take k) (l.drop k)=if f x (l.take k)=0 then zi f (l.take (k+1)) (l.drop (k+1)) else f x (l.take k):=by
 obtain⟨A,rfl⟩:=List.getElem?_eq_some_iff.1 h;rw[List.drop_eq_getElem_cons A,zi,List.take_succ_eq_append_getElem A]
theorem QaH{w wx:World}{A B C D E F:Value}(h:QH w wx [A,B,C,D,E,F]):
 wx.cell? ⟨w.heap.size,0,none⟩=some A/\wx.cell? ⟨w.heap.size,1,none⟩=some B/\wx.cell? ⟨w.heap.size,2,none⟩=some C/\wx.cell? ⟨w.heap.size,3,none⟩=some D /\
 wx.cell? ⟨w.heap.size,4,none⟩=some E/\wx.cell? ⟨w.heap.size,5,none⟩=some F:=by
 obtain⟨G,H,I,J,L,M,_⟩:=h.cells;exact⟨G,H,I,J,L,M⟩
theorem zbZ(s:ByteArray):ZB (Qr s)=if Zx (lst s) then .nilIface else .iface 52 (.int .i64 1):=by
 unfold Qr lst;cases Zx s.data.toList<;>simp[ZB]
theorem QcO(s:ByteArray):ZB (Qaa s)=if qo (lst s) then .nilIface else .iface 52 (.int .i64 1):=by
 unfold Qaa lst;cases qo s.data.toList<;>simp[ZB]
theorem zfg{w wx:World}{A B:Value}(h:QH w wx [A,B]):wx.cell? ⟨w.heap.size,0,none⟩=some A/\wx.cell? ⟨w.heap.size,1,none⟩=some B:=by
 obtain⟨C,D,_⟩:=h.cells;exact⟨C,D⟩
set_option maxRecDepth 100000
theorem qee(c:qa)(fv dv mv:Value)(w:World)(hl:ZaB w)(ho:Z4 c)(hf:Zo w fv c.faces)(hd:qe w 2 zI dv c.fields)(hm:qe w 8 (Zt w) mv c.methods)(v:Value)(hfv:ZB (qf c)=v):
 Calls Tryz.prog 40 #[Qv c fv dv mv] w fun e w'=>e=.returned v/\Below w.heap.size w w':=by
 have q:Hid (∀wx,_):=fun wx=>ZP c.name wx (Xf ho.name (by decide))
 have t:Hid (∀wx,_):=fun wx=>ZP c.super wx (Xf ho.super (by decide))
 rw[zbZ]at q t;obtain⟨pf,O,rfl,hf1,hf2,hfc⟩:=hf.open;obtain⟨pd,P,rfl,hd1,hd2,hdc⟩:=hd.open;obtain⟨pm,R,rfl,hm1,hm2,hmc⟩:=hm.open;have hmf:∀fn first cap w,(Instr.makeFunc fn first cap).run Tryz.prog w=.ok (.func fn first cap) w:=fun _ _ _ _=>rfl
 have HL:Hid (∀wx,Below w.heap.size w wx->ZaB wx):=fun wx hb=>hl.mono hb hl.1
 have HO:=Xh ho;have HFS:=Xh hf;have HDS:=Xh hd;have HMS:=Xh hm;have HFC:=Xh hfc;have HDC:=Xh hdc;have HMC:=Xh hmc;clear hf hd hm hfc hdc hmc hl ho;obtain⟨M,E,C,N,A,B⟩:=c;unfold Qv;dsimp only at *;have I:Hid (v=ZB (if !Zx (lst M)||(E.size != 0&&!Zx (lst E)) then 1
  else if zi zab [] C≠0 then zi zab [] C
  else if 8<C.length\/8<A.length\/8<B.length then 4
  else if zi ZI [] A≠0 then zi ZI [] A
  else if zi ZG [] B≠0 then zi ZG [] B
  else if N&&!A.isEmpty then 8 else 0)):=hfv.symm
 clear hfv;have zs:(E.size != 0)=!E.toList.isEmpty:=by rw[qR];rfl
 rw[zs]at I;clear zs;obtain⟨ke,he⟩:∃k,E.toList.isEmpty=k:=⟨_,rfl⟩;rw[he]at I;generalize Zx (lst M)=kn at *;generalize Zx (lst E)=ks at *;by_cases J:(!kn||(!ke&&!ks))=true
 ·have D:Hid (v=.iface 52 (.int .i64 1)):=by rw[I.out,if_pos J];rfl
  clear I;go_enter Tryz.func40,Tryz.ntmps40;cases kn<;>cases ke<;>cases ks<;>first|(exact absurd J (by decide))|skip
  all_goals
   clear J;simp only[if_true,if_false,Bool.false_eq_true]at q t;go_wp2_with (first|(go_fit (q.out _);rintro e w2⟨rfl,T⟩;obtain⟨V,_⟩:=QaJ T;(have Z:=V w.heap.size 1 (by simp)))|(go_fit (t.out _);rintro e w3⟨rfl,Y⟩))
   cases D.out;go_ret;first|exact⟨rfl,Qa (Xb.alloc Xl _) Xl T⟩|exact⟨rfl,Qa (Qa (Xb.alloc Xl _) Xl T) Xl Y⟩
 ·rw[if_neg J]at I;go_enter Tryz.func40,Tryz.ntmps40;go_upto_region 1 with fail;go_cut [24] (fun s wx=>s=.bool false/\QH w wx [.string M,.string E,.slice pf C.length O,.bool N,.slice pd A.length P,.slice pm B.length R])
  case first =>
   clear I;cases kn<;>cases ke<;>cases ks<;>first|(exact absurd (show(!false||_)=true from rfl) J)|(exact absurd (show(!true||(!false&&!false))=true from rfl) J)|skip
   all_goals
    clear J;simp only[if_true,if_false,Bool.false_eq_true]at q t;go_wp2_with (first|(go_fit (q.out _);rintro e w2⟨rfl,T⟩;obtain⟨V,_⟩:=QaJ T;(have Z:=V w.heap.size 1 (by simp)))|(go_fit (t.out _);rintro e w3⟨rfl,Y⟩))
    go_meet;first|exact⟨rfl,QH.step (wx:=w.alloc _) ⟨Xb.alloc Xl _,by simp,by simp[QB]⟩ T⟩|exact⟨rfl,QH.step (QH.step (wx:=w.alloc _) ⟨Xb.alloc Xl _,by simp,by simp[QB]⟩ T) Y⟩
  case rest =>
   obtain⟨rfl,F⟩:=hcut;clear J q t he;obtain⟨g,Z,i,j,l,m⟩:=QaH F;go_wp2_with fail;go_loopw [29] (fun x wr=>∃k,k<=C.length/\Hid (zi zab (C.take k) (C.drop k)=zi zab [] C)/\QH w wr [.string M,.string E,.slice pf C.length O,.bool N,.slice pd A.length P,.slice pm B.length R]/\x=.int .i64 k) (fun x _=>C.length-(intOf x).toNat)
   case atStart=>exact⟨0,by omega,rfl,F,rfl⟩
   case round =>
    obtain⟨k,hk,H,F,rfl⟩:=hrel;clear g Z i j l m;obtain⟨g,Z,i,j,l,m⟩:=QaH F;have hlen:C.length<=9223372036854775807:=Xf hf1 hf2;by_cases hkl:k<C.length
    ·obtain⟨x,X⟩:∃x,C[k]? = some x:=⟨C[k],by simp[hkl]⟩;have U:=HO.out.faces x (Xe X);obtain⟨b,o,vs,rfl,rfl,_,d⟩:=HFC.out k x X;have d:=d.mono F.below d.lt;have G:=qav zab C k x X;rw[H.out]at G;have HN:Hid (∀wx,_):=fun wx=>ZP x wx (Xf U (by decide))
     rw[zbZ]at HN;have S:∀wx,Below w.heap.size w wx->_:=fun wx hb=>qan (C.take k) (.slice (some ⟨b,o,none⟩) k O) x wx ((qe.take HFS.out rfl rfl hk).mono hb (by decide) (fun _ _ h=>h))
     have HC:=Xh S;have HX:=Xh X;clear X S U;rw[show zab x (C.take k)=if !Zx (lst x) then 1 else if Q4 (C.take k) x then 5 else 0 from rfl]at G;obtain⟨c0,_⟩:=d;rw[Nat.mul_one]at c0;generalize Q4 (C.take k) x=km at *;generalize Zx (lst x)=kx at *;cases kx with
     |false =>
      replace G:zi zab [] C=1:=G;have D:Hid (v=.iface 52 (.int .i64 1)):=(by rw[I.out,if_pos (by rw[G];decide),G];rfl);simp only[if_false,Bool.false_eq_true]at HN;clear I G H HC;go_wp2_with (first|(go_fit (HN.out _);rintro e w2⟨rfl,T⟩))
      cases D.out;go_ret;exact⟨rfl,(F.step T).below⟩
     |true =>
      simp only[if_true]at HN;go_upto_region 8 with(go_fit (HN.out _);rintro e w2⟨rfl,T⟩)
      replace F:=F.step T;clear g Z i j l m T;obtain⟨g,Z,i,j,l,m⟩:=QaH F;cases km with
      |true =>
       replace G:zi zab [] C=5:=G;have D:Hid (v=.iface 52 (.int .i64 5)):=(by rw[I.out,if_pos (by rw[G];decide),G];rfl);clear I G H;go_wp2_with (first|(go_fit (HC.out _ F.below);rintro e w3⟨rfl,rfl⟩))
       cases D.out;go_ret;exact⟨rfl,F.below⟩
      |false =>
       have hst:=Xh G.symm;clear I G H;go_wp2_with (first|(go_fit (HC.out _ F.below);rintro e w3⟨rfl,rfl⟩))
       exact⟨⟨k+1,by omega,hst.out,F,by simp⟩,by simp[intOf];omega⟩
    ·have L:Hid (zi zab [] C=0):=by
      rw[<-H.out,Xg (by omega)];rfl
     clear H;obtain rfl:k=C.length:=(by omega);rw[if_neg (by rw[L.out];decide)]at I;clear HFC HFS L;by_cases hmx:8<C.length\/8<A.length\/8<B.length
     ·have D:Hid (v=.iface 52 (.int .i64 4)):=(by rw[I.out,if_pos hmx];rfl);clear I;go_wp2_with fail;all_goals first|(exfalso;omega)|skip
      all_goals
       cases D.out;go_ret;exact⟨rfl,F.below⟩
     ·rw[if_neg hmx]at I;simp only[not_or,Nat.not_lt]at hmx;obtain⟨m1,m2,m3⟩:=hmx;go_upto_region 11 with fail;go_cut [56] (fun s wx=>s=.bool false/\wx=wr)
      case first =>
       clear I;go_wp2_with fail;all_goals first|(exfalso;omega)|skip
       all_goals
        go_meet;exact⟨by simp;omega,rfl⟩
      case rest =>
      obtain⟨rfl,rfl⟩:=hcut;go_wp2_with fail;go_loopw [61] (fun x wr=>∃k,k<=A.length/\Hid (zi ZI (A.take k) (A.drop k)=zi ZI [] A)/\QH w wr [.string M,.string E,.slice pf C.length O,.bool N,.slice pd A.length P,.slice pm B.length R]/\x=.int .i64 k) (fun x _=>A.length-(intOf x).toNat)
      case atStart=>exact⟨0,by omega,rfl,F,rfl⟩
      case round =>
       obtain⟨k,hk,H,F,rfl⟩:=hrel;clear g Z i j l m;obtain⟨g,Z,i,j,l,m⟩:=QaH F;have hlen:A.length<=9223372036854775807:=Xf hd1 hd2;by_cases hkl:k<A.length
       ·obtain⟨x,X⟩:∃x,A[k]? = some x:=⟨A[k],by simp[hkl]⟩;have U:=HO.out.fields x (Xe X);obtain⟨b,o,vs,rfl,rfl,_,d⟩:=HDC.out k x X;have d:=d.mono F.below d.lt;have G:=qav ZI A k x X;rw[H.out,show ZI x (A.take k)=if !Zx (lst x.name)||!qo (lst x.type) then 1 else if (A.take k).any fun y=>decide (y.name=x.name) then 5 else 0 from rfl]at G;have HN:Hid (∀wx,_):=fun wx=>ZP x.name wx (Xf U.1 (by decide))
        have HT:Hid (∀wx,_):=fun wx=>zaF x.type wx (Xf U.2 (by decide))
        rw[zbZ]at HN;rw[QcO]at HT;have HA:Hid (∀wx,QH wr wx [.string x.name,.string x.type]->Calls Tryz.prog 59 #[.slice (some ⟨b,o,none⟩) k P,.func (.func 60) #[] #[.pointer (some ⟨wr.heap.size,0,none⟩)]] wx fun e w'=>e=.returned (.bool ((A.take k).any fun y=>decide (y.name=x.name)))/\Below wx.heap.size wx w'):=by
         intro wx f;refine ZcH zI (fun y=>decide (y.name=x.name)) 60 _ (enters_of Tryz.func60 (by kernel_rfl) rfl) (A.take k) _ wx ((qe.take HDS.out rfl rfl hk).mono (F.step f.below).below (by decide) (fun _ _ h=>h)) ?_;rintro W y a0 a1 hy hh hW;unfold zI at hh;simp only[List.cons.injEq]at hh;obtain⟨rfl,rfl,_⟩:=hh;show Calls Tryz.prog 60 #[.agg #[.string y.name,.string y.type],.pointer (some ⟨wr.heap.size,0,none⟩)] W _
         exact zdH y _ _ W (Nat.lt_of_lt_of_le f.size hW.size) ((hW.cell (p:=⟨_,0,none⟩) f.size).trans (zfg f).1)
        have HX:=Xh X;clear X U;obtain⟨c0,c1,_⟩:=d;have hszw:=F.size;generalize ((A.take k).any fun y=>decide (y.name=x.name))=km at *;generalize Zx (lst x.name)=kx at *;generalize qo (lst x.type)=kt at *;cases kx with
        |false =>
         replace G:zi ZI [] A=1:=G;have D:Hid (v=.iface 52 (.int .i64 1)):=(by rw[I.out,if_pos (by rw[G];decide),G];rfl);simp only[if_false,Bool.false_eq_true]at HN;clear I G H HA HT;go_wp2_with (first|(go_fit (HN.out _);rintro e w2⟨rfl,T⟩))
         cases D.out;go_ret;exact⟨rfl,((F.alloc _).step T).below⟩
        |true =>
         simp only[if_true]at HN;cases kt with
         |false =>
          replace G:zi ZI [] A=1:=G;have D:Hid (v=.iface 52 (.int .i64 1)):=(by rw[I.out,if_pos (by rw[G];decide),G];rfl);simp only[if_false,Bool.false_eq_true]at HT;clear I G H HA;go_wp2_with (first|(go_fit (HN.out _);rintro e w2⟨rfl,T⟩;obtain⟨V,_⟩:=QaJ T;(have r1:=V wr.heap.size 1 (by simp)))|(go_fit (HT.out _);rintro e w3⟨rfl,Y⟩))
          cases D.out;go_ret;exact⟨rfl,(((F.alloc _).step T).step Y).below⟩
         |true =>
          simp only[if_true]at HT;go_upto_region 18 with(first|(go_fit (HN.out _);rintro e w2⟨rfl,T⟩;obtain⟨V,_⟩:=QaJ T;(have r1:=V wr.heap.size 1 (by simp)))|(go_fit (HT.out _);rintro e w3⟨rfl,Y⟩))
          have f:QH wr w3 [.string x.name,.string x.type]:=QH.step (QH.step (wx:=wr.alloc _) ⟨Xb.alloc Xl _,by simp,by simp[QB]⟩ T) Y;replace F:=F.step f.below;clear g Z i j l m r1 V T Y;obtain⟨g,Z,i,j,l,m⟩:=QaH F;cases km with
          |true =>
           replace G:zi ZI [] A=5:=G;have D:Hid (v=.iface 52 (.int .i64 5)):=(by rw[I.out,if_pos (by rw[G];decide),G];rfl);clear I G H;go_wp2_with (first|(go_fit (HA.out _ f);rintro e w4⟨rfl,a⟩))
           cases D.out;go_ret;exact⟨rfl,(F.step a).below⟩
          |false =>
           have hst:=Xh G.symm;clear I G H;go_wp2_with (first|(go_fit (HA.out _ f);rintro e w4⟨rfl,a⟩))
           exact⟨⟨k+1,by omega,hst.out,F.step a,by simp⟩,by simp[intOf];omega⟩
       ·have L:Hid (zi ZI [] A=0):=by
         rw[<-H.out,Xg (by omega)];rfl
        clear H;obtain rfl:k=A.length:=(by omega);rw[if_neg (by rw[L.out];decide)]at I;clear HDC HDS L;go_wp2_with fail;go_loopw [88] (fun x wr=>∃k,k<=B.length/\Hid (zi ZG (B.take k) (B.drop k)=zi ZG [] B)/\QH w wr [.string M,.string E,.slice pf C.length O,.bool N,.slice pd A.length P,.slice pm B.length R]/\x=.int .i64 k) (fun x _=>B.length-(intOf x).toNat)
        case atStart=>exact⟨0,by omega,rfl,F,rfl⟩
        case round =>
         obtain⟨k,hk,H,F,rfl⟩:=hrel;clear g Z i j l m;obtain⟨g,Z,i,j,l,m⟩:=QaH F;have hlen:B.length<=9223372036854775807:=Xf hm1 hm2;by_cases hkl:k<B.length
         ·obtain⟨x,X⟩:∃x,B[k]? = some x:=⟨B[k],by simp[hkl]⟩;have U:=HO.out.methods x (Xe X);obtain⟨b,o,vs,rfl,⟨cv,hv,rfl,hcv,hhv⟩,_,d⟩:=HMC.out k x X;have d:=d.mono F.below d.lt;have G:=qav ZG B k x X;rw[H.out]at G;obtain⟨pc,cc,rfl,hc1,hc2,_⟩:=hcv.open;obtain⟨ph,ch,rfl,hh1,hh2,_⟩:=hhv.open;have S:∀wx,Below w.heap.size w wx->_:=fun wx hb=>ZdH x _ _ (B.take k) (.slice (some ⟨b,o,none⟩) k R) wx (HL.out wx hb) U (hcv.mono hb (by decide) (fun _ _ h=>h)) (hhv.mono hb (by decide) (fun _ _ h=>h)) ((qe.take HMS.out rfl rfl hk).mono hb (by decide) (fun _ _ h=>h.mono hb)) _ rfl
          have HX:=Xh X;clear X U hcv hhv;obtain⟨c0,c1,c2,c3,c4,c5,c6,c7,_⟩:=d;unfold qP at S;generalize ZG x (B.take k)=fx at *;rcases zS fx with⟨z,hz⟩|⟨z,hz⟩
          ·rw[if_pos hz]at G;rw[z]at S;have hst:=Xh G.symm;have HC:=Xh S;clear S G I H z hz;have hszw:=F.size;go_upto_region 24 with fail;have f:QH wr (wr.alloc (.cells #[.string x.name,.string x.type,.bool x.static,.bool x.abs,.bool x.priv,.int .i64 x.locals,.slice pc x.code.length cc,.slice ph x.handlers.length ch] 39)) [.string x.name,.string x.type,.bool x.static,.bool x.abs,.bool x.priv,.int .i64 x.locals,.slice pc x.code.length cc,.slice ph x.handlers.length ch]:=⟨Xb.alloc Xl _,by simp,by simp[QB]⟩;generalize wr.alloc (.cells #[.string x.name,.string x.type,.bool x.static,.bool x.abs,.bool x.priv,.int .i64 x.locals,.slice pc x.code.length cc,.slice ph x.handlers.length ch] 39)=w3 at *;obtain⟨r0,r1,r2,r3,r4,r5,r6,r7⟩:=Zbl f;replace F:=F.step f.below;clear g Z i j l m c0 c1 c2 c3 c4 c5 c6 c7;obtain⟨g,Z,i,j,l,m⟩:=QaH F;go_cut [9] (fun s wx=>s=.nilIface/\QH w wx [.string M,.string E,.slice pf C.length O,.bool N,.slice pd A.length P,.slice (some ⟨b,o,none⟩) B.length R])
           case first =>
            go_region_with (go_fit (HC.out _ F.drew.below);rintro e w4⟨rfl,a⟩)
            all_goals
             go_wp2
             go_meet;exact⟨rfl,F.drew.step a⟩
           case rest =>
            obtain⟨rfl,F⟩:=hcut;go_wp2_with fail;exact⟨⟨k+1,by omega,hst.out,F,by simp⟩,by simp[intOf];omega⟩
          ·rw[if_neg hz]at G;rw[z]at S;have D:Hid (v=.iface 52 (.int .i64 fx)):=(by rw[I.out,if_pos (by rw[G];exact hz),G];exact z);have HC:=Xh S;clear S G I H z hz;have hszw:=F.size;go_upto_region 24 with fail;have f:QH wr (wr.alloc (.cells #[.string x.name,.string x.type,.bool x.static,.bool x.abs,.bool x.priv,.int .i64 x.locals,.slice pc x.code.length cc,.slice ph x.handlers.length ch] 39)) [.string x.name,.string x.type,.bool x.static,.bool x.abs,.bool x.priv,.int .i64 x.locals,.slice pc x.code.length cc,.slice ph x.handlers.length ch]:=⟨Xb.alloc Xl _,by simp,by simp[QB]⟩;generalize wr.alloc (.cells #[.string x.name,.string x.type,.bool x.static,.bool x.abs,.bool x.priv,.int .i64 x.locals,.slice pc x.code.length cc,.slice ph x.handlers.length ch] 39)=w3 at *;obtain⟨r0,r1,r2,r3,r4,r5,r6,r7⟩:=Zbl f;replace F:=F.step f.below;clear g Z i j l m c0 c1 c2 c3 c4 c5 c6 c7;obtain⟨g,Z,i,j,l,m⟩:=QaH F;go_cut [9] (fun s wx=>s=.iface 52 (.int .i64 fx)/\QH w wx [.string M,.string E,.slice pf C.length O,.bool N,.slice pd A.length P,.slice (some ⟨b,o,none⟩) B.length R])
           case first =>
            go_region_with (go_fit (HC.out _ F.drew.below);rintro e w4⟨rfl,a⟩)
            all_goals
             go_wp2
             go_meet;exact⟨rfl,F.drew.step a⟩
           case rest =>
            obtain⟨rfl,F⟩:=hcut;go_wp2_with fail;cases D.out;go_ret;exact⟨rfl,F.below⟩
         ·have L:Hid (zi ZG [] B=0):=by
           rw[<-H.out,Xg (by omega)];rfl
          clear H;obtain rfl:k=B.length:=(by omega);rw[if_neg (by rw[L.out];decide)]at I;clear HMC HMS L;cases N with
          |false =>
           have D:Hid (v=.nilIface):=(by rw[I.out];rfl);clear I;go_wp2_with fail;cases D.out;go_ret;exact⟨rfl,F.below⟩
          |true =>
           cases A with
           |nil =>
            have D:Hid (v=.nilIface):=(by rw[I.out];rfl);clear I;go_wp2_with fail;cases D.out;go_ret;exact⟨rfl,F.below⟩
           |cons y r =>
            have D:Hid (v=.iface 52 (.int .i64 8)):=(by rw[I.out];rfl);have hl:0<(y::r).length:=(by simp);clear I;generalize (y::r).length=n at *;go_wp2_with fail;all_goals first|(exfalso;omega)|skip
            cases D.out;go_ret;exact⟨rfl,F.below⟩
set_option maxRecDepth 512
end Go.Proofs.YtmclocdhcblbiaaGreatDoor
