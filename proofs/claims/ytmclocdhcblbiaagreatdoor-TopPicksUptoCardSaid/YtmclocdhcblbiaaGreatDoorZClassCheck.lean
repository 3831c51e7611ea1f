/- Lemmas; conditions: as each states. -/
import Derived.Test.YtmclocdhcblbiaaGreatDoorZClassMethod
set_option maxHeartbeats 4000000
namespace Go.Proofs.YtmclocdhcblbiaaGreatDoor
open Go.RowKit Go.Shelf Go.Lib Tryz
structure qM (c:qa):Prop where
 name:c.name.size<=1048576
 super:c.super.size<=1048576
 faces:∀x∈c.faces,x.size<=1048576
 fields:∀x∈c.fields,x.name.size<=1048576/\x.type.size<=1048576
 methods:∀x∈c.methods,zay x
def Zu(c:qa)(fv dv mv:Value):Value:=.agg #[.string c.name,.string c.super,fv,.bool c.face,dv,mv]
theorem Qay{α:Type}(f:α->List α->Nat)(l:List α)(k:Nat)(x:α)(h:l[k]? = some x):
 Zi f (l.take k) (l.drop k)=if f x (l.take k)=0 then Zi f (l.take (k+1)) (l.drop (k+1)) else f x (l.take k):=by
 obtain⟨A,rfl⟩:=List.getElem?_eq_some_iff.1 h;rw[List.drop_eq_getElem_cons A,Zi,List.take_succ_eq_append_getElem A]
theorem qaU{w wx:World}{A B C D E F:Value}(h:zL w wx [A,B,C,D,E,F]):
 wx.cell? ⟨w.heap.size,0,none⟩=some A/\wx.cell? ⟨w.heap.size,1,none⟩=some B/\wx.cell? ⟨w.heap.size,2,none⟩=some C/\wx.cell? ⟨w.heap.size,3,none⟩=some D /\
 wx.cell? ⟨w.heap.size,4,none⟩=some E/\wx.cell? ⟨w.heap.size,5,none⟩=some F:=by
 obtain⟨G,H,I,J,L,M,_⟩:=h.cells;exact⟨G,H,I,J,L,M⟩
theorem Zb0(s:ByteArray):Qx (Qr s)=if zD (lst s) then .nilIface else .iface 52 (.int .i64 1):=by
 unfold Qr lst;cases zD s.data.toList<;>simp[Qx]
theorem qcQ(s:ByteArray):Qx (qac s)=if zp (lst s) then .nilIface else .iface 52 (.int .i64 1):=by
 unfold qac lst;cases zp s.data.toList<;>simp[Qx]
theorem Zfm{w wx:World}{A B:Value}(h:zL w wx [A,B]):wx.cell? ⟨w.heap.size,0,none⟩=some A/\wx.cell? ⟨w.heap.size,1,none⟩=some B:=by
 obtain⟨C,D,_⟩:=h.cells;exact⟨C,D⟩
set_option maxRecDepth 100000
theorem Zef(c:qa)(fv dv mv:Value)(w:World)(hl:Qax w)(ho:qM c)(hf:qp w fv c.faces)(hd:Qe w 2 ZN dv c.fields)(hm:Qe w 8 (zo w) mv c.methods)(v:Value)(hfv:Qx (Qf c)=v):
 Calls prog 40 #[Zu c fv dv mv] w fun e w'=>e=.returned v/\Below w.heap.size w w':=by
 have m:Hid (∀wx,_):=fun wx=>zR c.name wx (Xf ho.name (by decide))
 have q:Hid (∀wx,_):=fun wx=>zR c.super wx (Xf ho.super (by decide))
 rw[Zb0]at m q;obtain⟨pf,N,rfl,hf1,hf2,hfc⟩:=hf.open;obtain⟨pd,O,rfl,hd1,hd2,hdc⟩:=hd.open;obtain⟨pm,P,rfl,hm1,hm2,hmc⟩:=hm.open;have hmf:∀fn first cap w,(Instr.makeFunc fn first cap).run prog w=.ok (.func fn first cap) w:=fun _ _ _ _=>rfl
 have HL:Hid (∀wx,Below w.heap.size w wx->Qax wx):=fun wx hb=>hl.mono hb hl.1
 have HO:=Xh ho;have HFS:=Xh hf;have HDS:=Xh hd;have HMS:=Xh hm;have HFC:=Xh hfc;have HDC:=Xh hdc;have HMC:=Xh hmc;clear hf hd hm hfc hdc hmc hl ho;obtain⟨name,E,C,M,A,B⟩:=c;unfold Zu;dsimp only at *;have I:Hid (v=Qx (if !zD (lst name)||(E.size != 0&&!zD (lst E)) then 1
  else if Zi Qac [] C≠0 then Zi Qac [] C
  else if 8<C.length\/8<A.length\/8<B.length then 4
  else if Zi zK [] A≠0 then Zi zK [] A
  else if Zi ZH [] B≠0 then Zi ZH [] B
  else if M&&!A.isEmpty then 8 else 0)):=hfv.symm
 clear hfv;have zs:(E.size != 0)=!E.toList.isEmpty:=by rw[QZ];rfl
 rw[zs]at I;clear zs;obtain⟨ke,he⟩:∃k,E.toList.isEmpty=k:=⟨_,rfl⟩;rw[he]at I;generalize zD (lst name)=kn at *;generalize zD (lst E)=ks at *;by_cases J:(!kn||(!ke&&!ks))=true
 ·have D:Hid (v=.iface 52 (.int .i64 1)):=by rw[I.out,if_pos J];rfl
  clear I;go_enter func40,ntmps40;cases kn<;>cases ke<;>cases ks<;>first|(exact absurd J (by decide))|skip
  all_goals
   clear J;simp only[if_true,if_false,Bool.false_eq_true]at m q;go_wp2_with (first|(go_fit (m.out _);rintro e w2⟨rfl,S⟩;obtain⟨U,_⟩:=zaO S;(have Y:=U w.heap.size 1 (by simp)))|(go_fit (q.out _);rintro e w3⟨rfl,X⟩))
   cases D.out;go_ret;first|exact⟨rfl,Qa (Xb.alloc Xl _) Xl S⟩|exact⟨rfl,Qa (Qa (Xb.alloc Xl _) Xl S) Xl X⟩
 ·rw[if_neg J]at I;go_enter func40,ntmps40;go_upto_region 1 with fail;go_cut [24] (fun s wx=>s=.bool false/\zL w wx [.string name,.string E,.slice pf C.length N,.bool M,.slice pd A.length O,.slice pm B.length P])
  case first =>
   clear I;cases kn<;>cases ke<;>cases ks<;>first|(exact absurd (show(!false||_)=true from rfl) J)|(exact absurd (show(!true||(!false&&!false))=true from rfl) J)|skip
   all_goals
    clear J;simp only[if_true,if_false,Bool.false_eq_true]at m q;go_wp2_with (first|(go_fit (m.out _);rintro e w2⟨rfl,S⟩;obtain⟨U,_⟩:=zaO S;(have Y:=U w.heap.size 1 (by simp)))|(go_fit (q.out _);rintro e w3⟨rfl,X⟩))
    go_meet;first|exact⟨rfl,zL.step (wx:=w.alloc _) ⟨Xb.alloc Xl _,by simp,by simp[qw]⟩ S⟩|exact⟨rfl,zL.step (zL.step (wx:=w.alloc _) ⟨Xb.alloc Xl _,by simp,by simp[qw]⟩ S) X⟩
  case rest =>
   obtain⟨rfl,F⟩:=hcut;clear J m q he;obtain⟨f,Y,g,i,j,l⟩:=qaU F;go_wp2_with fail;go_loopw [29] (fun x wr=>∃k,k<=C.length/\Hid (Zi Qac (C.take k) (C.drop k)=Zi Qac [] C)/\zL w wr [.string name,.string E,.slice pf C.length N,.bool M,.slice pd A.length O,.slice pm B.length P]/\x=.int .i64 k) (fun x _=>C.length-(intOf x).toNat)
   case atStart=>exact⟨0,by omega,rfl,F,rfl⟩
   case round =>
    obtain⟨k,hk,H,F,rfl⟩:=hrel;clear f Y g i j l;obtain⟨f,Y,g,i,j,l⟩:=qaU F;have hlen:C.length<=9223372036854775807:=Xf hf1 hf2;by_cases aA:k<C.length
    ·obtain⟨x,V⟩:∃x,C[k]? = some x:=⟨C[k],by simp[aA]⟩;have T:=HO.out.faces x (Xe V);obtain⟨b,o,vs,rfl,rfl,_,a⟩:=HFC.out k x V;have a:=a.mono F.below a.lt;have G:=Qay Qac C k x V;rw[H.out]at G;have z:Hid (∀wx,_):=fun wx=>zR x wx (Xf T (by decide))
     rw[Zb0]at z;have R:∀wx,Below w.heap.size w wx->_:=fun wx hb=>Qao (C.take k) (.slice (some ⟨b,o,none⟩) k N) x wx ((Qe.take HFS.out rfl rfl hk).mono hb (by decide) (fun _ _ h=>h))
     have HC:=Xh R;have HX:=Xh V;clear V R T;rw[show Qac x (C.take k)=if !zD (lst x) then 1 else if zak (C.take k) x then 5 else 0 from rfl]at G;obtain⟨c0,_⟩:=a;rw[Nat.mul_one]at c0;generalize zak (C.take k) x=km at *;generalize zD (lst x)=kx at *;cases kx with
     |false =>
      replace G:Zi Qac [] C=1:=G;have D:Hid (v=.iface 52 (.int .i64 1)):=(by rw[I.out,if_pos (by rw[G];decide),G];rfl);simp only[if_false,Bool.false_eq_true]at z;clear I G H HC;go_wp2_with (first|(go_fit (z.out _);rintro e w2⟨rfl,S⟩))
      cases D.out;go_ret;exact⟨rfl,(F.step S).below⟩
     |true =>
      simp only[if_true]at z;go_upto_region 8 with(go_fit (z.out _);rintro e w2⟨rfl,S⟩)
      replace F:=F.step S;clear f Y g i j l S;obtain⟨f,Y,g,i,j,l⟩:=qaU F;cases km with
      |true =>
       replace G:Zi Qac [] C=5:=G;have D:Hid (v=.iface 52 (.int .i64 5)):=(by rw[I.out,if_pos (by rw[G];decide),G];rfl);clear I G H;go_wp2_with (first|(go_fit (HC.out _ F.below);rintro e w3⟨rfl,rfl⟩))
       cases D.out;go_ret;exact⟨rfl,F.below⟩
      |false =>
       have aB:=Xh G.symm;clear I G H;go_wp2_with (first|(go_fit (HC.out _ F.below);rintro e w3⟨rfl,rfl⟩))
       exact⟨⟨k+1,by omega,aB.out,F,by simp⟩,by simp[intOf];omega⟩
    ·have L:Hid (Zi Qac [] C=0):=by
      rw[<-H.out,Xg (by omega)];rfl
     clear H;obtain rfl:k=C.length:=(by omega);rw[if_neg (by rw[L.out];decide)]at I;clear HFC HFS L;by_cases aC:8<C.length\/8<A.length\/8<B.length
     ·have D:Hid (v=.iface 52 (.int .i64 4)):=(by rw[I.out,if_pos aC];rfl);clear I;go_wp2_with fail;all_goals first|(exfalso;omega)|skip
      all_goals
       cases D.out;go_ret;exact⟨rfl,F.below⟩
     ·rw[if_neg aC]at I;simp only[not_or,Nat.not_lt]at aC;obtain⟨m1,m2,m3⟩:=aC;go_upto_region 11 with fail;go_cut [56] (fun s wx=>s=.bool false/\wx=wr)
      case first =>
       clear I;go_wp2_with fail;all_goals first|(exfalso;omega)|skip
       all_goals
        go_meet;exact⟨by simp;omega,rfl⟩
      case rest =>
      obtain⟨rfl,rfl⟩:=hcut;go_wp2_with fail;go_loopw [61] (fun x wr=>∃k,k<=A.length/\Hid (Zi zK (A.take k) (A.drop k)=Zi zK [] A)/\zL w wr [.string name,.string E,.slice pf C.length N,.bool M,.slice pd A.length O,.slice pm B.length P]/\x=.int .i64 k) (fun x _=>A.length-(intOf x).toNat)
      case atStart=>exact⟨0,by omega,rfl,F,rfl⟩
      case round =>
       obtain⟨k,hk,H,F,rfl⟩:=hrel;clear f Y g i j l;obtain⟨f,Y,g,i,j,l⟩:=qaU F;have hlen:A.length<=9223372036854775807:=Xf hd1 hd2;by_cases aA:k<A.length
       ·obtain⟨x,V⟩:∃x,A[k]? = some x:=⟨A[k],by simp[aA]⟩;have T:=HO.out.fields x (Xe V);obtain⟨b,o,vs,rfl,rfl,_,a⟩:=HDC.out k x V;have a:=a.mono F.below a.lt;have G:=Qay zK A k x V;rw[H.out,show zK x (A.take k)=if !zD (lst x.name)||!zp (lst x.type) then 1 else if (A.take k).any fun y=>decide (y.name=x.name) then 5 else 0 from rfl]at G;have z:Hid (∀wx,_):=fun wx=>zR x.name wx (Xf T.1 (by decide))
        have HT:Hid (∀wx,_):=fun wx=>zaJ x.type wx (Xf T.2 (by decide))
        rw[Zb0]at z;rw[qcQ]at HT;have HA:Hid (∀wx,zL wr wx [.string x.name,.string x.type]->Calls prog 59 #[.slice (some ⟨b,o,none⟩) k O,.func (.func 60) #[] #[.pointer (some ⟨wr.heap.size,0,none⟩)]] wx fun e w'=>e=.returned (.bool ((A.take k).any fun y=>decide (y.name=x.name)))/\Below wx.heap.size wx w'):=by
         intro wx d;refine qcI ZN (fun y=>decide (y.name=x.name)) 60 _ (enters_of func60 (by kernel_rfl) rfl) (A.take k) _ wx ((Qe.take HDS.out rfl rfl hk).mono (F.step d.below).below (by decide) (fun _ _ h=>h)) ?_;rintro W y a0 a1 hy hh hW;unfold ZN at hh;simp only[List.cons.injEq]at hh;obtain⟨rfl,rfl,_⟩:=hh;show Calls prog 60 #[.agg #[.string y.name,.string y.type],.pointer (some ⟨wr.heap.size,0,none⟩)] W _
         exact ZdK y _ _ W (Nat.lt_of_lt_of_le d.size hW.size) ((hW.cell (p:=⟨_,0,none⟩) d.size).trans (Zfm d).1)
        have HX:=Xh V;clear V T;obtain⟨c0,c1,_⟩:=a;have hszw:=F.size;generalize ((A.take k).any fun y=>decide (y.name=x.name))=km at *;generalize zD (lst x.name)=kx at *;generalize zp (lst x.type)=kt at *;cases kx with
        |false =>
         replace G:Zi zK [] A=1:=G;have D:Hid (v=.iface 52 (.int .i64 1)):=(by rw[I.out,if_pos (by rw[G];decide),G];rfl);simp only[if_false,Bool.false_eq_true]at z;clear I G H HA HT;go_wp2_with (first|(go_fit (z.out _);rintro e w2⟨rfl,S⟩))
         cases D.out;go_ret;exact⟨rfl,((F.alloc _).step S).below⟩
        |true =>
         simp only[if_true]at z;cases kt with
         |false =>
          replace G:Zi zK [] A=1:=G;have D:Hid (v=.iface 52 (.int .i64 1)):=(by rw[I.out,if_pos (by rw[G];decide),G];rfl);simp only[if_false,Bool.false_eq_true]at HT;clear I G H HA;go_wp2_with (first|(go_fit (z.out _);rintro e w2⟨rfl,S⟩;obtain⟨U,_⟩:=zaO S;(have r1:=U wr.heap.size 1 (by simp)))|(go_fit (HT.out _);rintro e w3⟨rfl,X⟩))
          cases D.out;go_ret;exact⟨rfl,(((F.alloc _).step S).step X).below⟩
         |true =>
          simp only[if_true]at HT;go_upto_region 18 with(first|(go_fit (z.out _);rintro e w2⟨rfl,S⟩;obtain⟨U,_⟩:=zaO S;(have r1:=U wr.heap.size 1 (by simp)))|(go_fit (HT.out _);rintro e w3⟨rfl,X⟩))
          have d:zL wr w3 [.string x.name,.string x.type]:=zL.step (zL.step (wx:=wr.alloc _) ⟨Xb.alloc Xl _,by simp,by simp[qw]⟩ S) X;replace F:=F.step d.below;clear f Y g i j l r1 U S X;obtain⟨f,Y,g,i,j,l⟩:=qaU F;cases km with
          |true =>
           replace G:Zi zK [] A=5:=G;have D:Hid (v=.iface 52 (.int .i64 5)):=(by rw[I.out,if_pos (by rw[G];decide),G];rfl);clear I G H;go_wp2_with (first|(go_fit (HA.out _ d);rintro e w4⟨rfl,Z⟩))
           cases D.out;go_ret;exact⟨rfl,(F.step Z).below⟩
          |false =>
           have aB:=Xh G.symm;clear I G H;go_wp2_with (first|(go_fit (HA.out _ d);rintro e w4⟨rfl,Z⟩))
           exact⟨⟨k+1,by omega,aB.out,F.step Z,by simp⟩,by simp[intOf];omega⟩
       ·have L:Hid (Zi zK [] A=0):=by
         rw[<-H.out,Xg (by omega)];rfl
        clear H;obtain rfl:k=A.length:=(by omega);rw[if_neg (by rw[L.out];decide)]at I;clear HDC HDS L;go_wp2_with fail;go_loopw [88] (fun x wr=>∃k,k<=B.length/\Hid (Zi ZH (B.take k) (B.drop k)=Zi ZH [] B)/\zL w wr [.string name,.string E,.slice pf C.length N,.bool M,.slice pd A.length O,.slice pm B.length P]/\x=.int .i64 k) (fun x _=>B.length-(intOf x).toNat)
        case atStart=>exact⟨0,by omega,rfl,F,rfl⟩
        case round =>
         obtain⟨k,hk,H,F,rfl⟩:=hrel;clear f Y g i j l;obtain⟨f,Y,g,i,j,l⟩:=qaU F;have hlen:B.length<=9223372036854775807:=Xf hm1 hm2;by_cases aA:k<B.length
         ·obtain⟨x,V⟩:∃x,B[k]? = some x:=⟨B[k],by simp[aA]⟩;have T:=HO.out.methods x (Xe V);obtain⟨b,o,vs,rfl,⟨cv,hv,rfl,hcv,hhv⟩,_,a⟩:=HMC.out k x V;have a:=a.mono F.below a.lt;have G:=Qay ZH B k x V;rw[H.out]at G;obtain⟨pc,cc,rfl,hc1,hc2,_⟩:=hcv.open;obtain⟨ph,ch,rfl,hh1,hh2,_⟩:=hhv.open;have R:∀wx,Below w.heap.size w wx->_:=fun wx hb=>qdK x _ _ (B.take k) (.slice (some ⟨b,o,none⟩) k P) wx (HL.out wx hb) T (hcv.mono hb (by decide) (fun _ _ h=>h)) (hhv.mono hb (by decide) (fun _ _ h=>h)) ((Qe.take HMS.out rfl rfl hk).mono hb (by decide) (fun _ _ h=>h.mono hb)) _ rfl
          have HX:=Xh V;clear V T hcv hhv;obtain⟨c0,c1,c2,c3,c4,c5,c6,c7,_⟩:=a;unfold ZR at R;generalize ZH x (B.take k)=fx at *;rcases zB fx with⟨t,hz⟩|⟨t,hz⟩
          ·rw[if_pos hz]at G;rw[t]at R;have aB:=Xh G.symm;have HC:=Xh R;clear R G I H t hz;have hszw:=F.size;go_upto_region 24 with fail;have d:zL wr (wr.alloc (.cells #[.string x.name,.string x.type,.bool x.static,.bool x.abs,.bool x.priv,.int .i64 x.locals,.slice pc x.code.length cc,.slice ph x.handlers.length ch] 39)) [.string x.name,.string x.type,.bool x.static,.bool x.abs,.bool x.priv,.int .i64 x.locals,.slice pc x.code.length cc,.slice ph x.handlers.length ch]:=⟨Xb.alloc Xl _,by simp,by simp[qw]⟩;generalize wr.alloc (.cells #[.string x.name,.string x.type,.bool x.static,.bool x.abs,.bool x.priv,.int .i64 x.locals,.slice pc x.code.length cc,.slice ph x.handlers.length ch] 39)=w3 at *;obtain⟨r0,r1,r2,r3,r4,r5,r6,r7⟩:=zbo d;replace F:=F.step d.below;clear f Y g i j l c0 c1 c2 c3 c4 c5 c6 c7;obtain⟨f,Y,g,i,j,l⟩:=qaU F;go_cut [9] (fun s wx=>s=.nilIface/\zL w wx [.string name,.string E,.slice pf C.length N,.bool M,.slice pd A.length O,.slice (some ⟨b,o,none⟩) B.length P])
           case first =>
            go_region_with (go_fit (HC.out _ F.drew.below);rintro e w4⟨rfl,Z⟩)
            all_goals
             go_wp2
             go_meet;exact⟨rfl,F.drew.step Z⟩
           case rest =>
            obtain⟨rfl,F⟩:=hcut;go_wp2_with fail;exact⟨⟨k+1,by omega,aB.out,F,by simp⟩,by simp[intOf];omega⟩
          ·rw[if_neg hz]at G;rw[t]at R;have D:Hid (v=.iface 52 (.int .i64 fx)):=(by rw[I.out,if_pos (by rw[G];exact hz),G];exact t);have HC:=Xh R;clear R G I H t hz;have hszw:=F.size;go_upto_region 24 with fail;have d:zL wr (wr.alloc (.cells #[.string x.name,.string x.type,.bool x.static,.bool x.abs,.bool x.priv,.int .i64 x.locals,.slice pc x.code.length cc,.slice ph x.handlers.length ch] 39)) [.string x.name,.string x.type,.bool x.static,.bool x.abs,.bool x.priv,.int .i64 x.locals,.slice pc x.code.length cc,.slice ph x.handlers.length ch]:=⟨Xb.alloc Xl _,by simp,by simp[qw]⟩;generalize wr.alloc (.cells #[.string x.name,.string x.type,.bool x.static,.bool x.abs,.bool x.priv,.int .i64 x.locals,.slice pc x.code.length cc,.slice ph x.handlers.length ch] 39)=w3 at *;obtain⟨r0,r1,r2,r3,r4,r5,r6,r7⟩:=zbo d;replace F:=F.step d.below;clear f Y g i j l c0 c1 c2 c3 c4 c5 c6 c7;obtain⟨f,Y,g,i,j,l⟩:=qaU F;go_cut [9] (fun s wx=>s=.iface 52 (.int .i64 fx)/\zL w wx [.string name,.string E,.slice pf C.length N,.bool M,.slice pd A.length O,.slice (some ⟨b,o,none⟩) B.length P])
           case first =>
            go_region_with (go_fit (HC.out _ F.drew.below);rintro e w4⟨rfl,Z⟩)
            all_goals
             go_wp2
             go_meet;exact⟨rfl,F.drew.step Z⟩
           case rest =>
            obtain⟨rfl,F⟩:=hcut;go_wp2_with fail;cases D.out;go_ret;exact⟨rfl,F.below⟩
         ·have L:Hid (Zi ZH [] B=0):=by
           rw[<-H.out,Xg (by omega)];rfl
          clear H;obtain rfl:k=B.length:=(by omega);rw[if_neg (by rw[L.out];decide)]at I;clear HMC HMS L;cases M with
          |false =>
           have D:Hid (v=.nilIface):=(by rw[I.out];rfl);clear I;go_wp2_with fail;cases D.out;go_ret;exact⟨rfl,F.below⟩
          |true =>
           cases A with
           |nil =>
            have D:Hid (v=.nilIface):=(by rw[I.out];rfl);clear I;go_wp2_with fail;cases D.out;go_ret;exact⟨rfl,F.below⟩
           |cons y r =>
            have D:Hid (v=.iface 52 (.int .i64 8)):=(by rw[I.out];rfl);have hl:0<(y::r).length:=(by simp);clear I;generalize (y::r).length=n at *;go_wp2_with fail;all_goals first|(exfalso;omega)|skip
            cases D.out;go_ret;exact⟨rfl,F.below⟩
