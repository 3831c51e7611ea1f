/- Lemmas; conditions: as each states. -/
import Derived.Test.YtlmfmioljeppfaaGreatDoorRefMeth
import Derived.Test.YtlmfmioljeppfaaGreatDoorLineLaw
set_option maxHeartbeats 4000000
namespace Go.Proofs.YtlmfmioljeppfaaGreatDoor
open Go.RowKit Go.Shelf Go.Lib
theorem Za4(w:World)(c:Qb)(A B C:Value)(t:TypeId):zB w (w.alloc (.cells #[.string c.name,.string c.super,A,.bool c.face,B,C] t)) [.string c.name,.string c.super,A,.bool c.face,B,C]:=QY w _ _
set_option maxRecDepth 100000
theorem ZcC(c:Qb)(fv dv mv:Value)(w:World)(ho:qab c)(hf:Qh w fv c.faces)(hd:Zg w 2 QE dv c.fields)(hm:Zg w 8 (zr w) mv c.methods):
 Calls Tryz.prog 36 #[Qz c fv dv mv] w fun e w'=>e=.returned (.int .i64 (qd c))/\Below w.heap.size w w':=by
 obtain⟨kn,hkn⟩:∃k,qt (lst c.name)=k:=⟨_,rfl⟩;obtain⟨ks,hks⟩:∃k,qt (lst c.super)=k:=⟨_,rfl⟩;have HNa:=Xh (z7 (s:=c.name) ho.name hkn);have HSu:=Xh (z7 (s:=c.super) ho.super hks);obtain⟨l,J,rfl,hf1,hf2,hfc⟩:=hf.open;obtain⟨m,M,rfl,hd1,hd2,hdc⟩:=hd.open;obtain⟨p,L,rfl,hm1,hm2,hmc⟩:=hm.open;have HO:=Xh ho;have HFS:=Xh hf;have HDS:=Xh hd;have HMS:=Xh hm;have HFC:=Xh hfc;have f:=Xh hdc;have HMC:=Xh hmc;have HBX:Hid (∀i,_->_):=fun i=>(Za4 w c (.slice l c.faces.length J) (.slice m c.fields.length M) (.slice p c.methods.length L) 36).step (wy:=i)
 have HB0:=Xh (Za4 w c (.slice l c.faces.length J) (.slice m c.fields.length M) (.slice p c.methods.length L) 36);have H:Hid (qd c=if !qt (lst c.name)||(c.super.size != 0&&!qt (lst c.super)) then 1
  else if Qf ZC [] c.faces≠0 then Qf ZC [] c.faces
  else if 8<c.faces.length\/8<c.fields.length\/8<c.methods.length then 4
  else if Qf Qr [] c.fields≠0 then Qf Qr [] c.fields
  else if Qf qq [] c.methods≠0 then Qf qq [] c.methods
  else if c.face&&!c.fields.isEmpty then 8 else 0):=rfl
 clear hf hd hm hfc hdc hmc ho;have zs:(c.super.size != 0)=!c.super.toList.isEmpty:=by rw[ZD];rfl
 rw[zs,hkn,hks]at H;clear hkn hks zs;generalize qd c=S at *;obtain⟨R,I,C,P,A,B⟩:=c;unfold Qz;dsimp only at *;obtain⟨ke,he⟩:∃k,I.toList.isEmpty=k:=⟨_,rfl⟩;rw[he]at H;have hlf:C.length<=9223372036854775807:=Xf hf1 hf2;have hld:A.length<=9223372036854775807:=Xf hd1 hd2;have hlm:B.length<=9223372036854775807:=Xf hm1 hm2;by_cases N:(!kn||(!ke&&!ks))=true
 ·have D:Hid (S=1):=by unfold Hid;rw[H.out,if_pos N]
  clear H;go_enter Tryz.func36,Tryz.ntmps36;cases kn<;>cases ke<;>cases ks<;>first|(exact absurd N (by decide))|skip
  all_goals
   clear N;go_wp2_with (first|(go_fit (HNa.out _);rintro e i⟨rfl,rfl⟩)|(go_fit (HSu.out _);rintro e w3⟨rfl,rfl⟩))
   go_ret;exact⟨by rw[D.out];rfl,HB0.out.below⟩
 ·rw[if_neg N]at H;go_enter Tryz.func36,Tryz.ntmps36;go_upto_region 1 with fail;go_cut [22] (fun s wx=>s=.bool false/\zB w wx [.string R,.string I,.slice l C.length J,.bool P,.slice m A.length M,.slice p B.length L])
  case first =>
   clear H;cases kn<;>cases ke<;>cases ks<;>first|(exact absurd (show(!false||_)=true from rfl) N)|(exact absurd (show(!true||(!false&&!false))=true from rfl) N)|skip
   all_goals
    clear N;go_wp2_with (first|(go_fit (HNa.out _);rintro e i⟨rfl,rfl⟩)|(go_fit (HSu.out _);rintro e w3⟨rfl,rfl⟩))
    go_meet;exact⟨rfl,HB0⟩
  case rest =>
   obtain⟨rfl,G⟩:=hcut;clear N HNa HSu he HBX HB0;go_wp2_with fail;go_loopw [3] (fun x wr=>∃k:Nat,k<=C.length/\Hid (Qf ZC (C.take k) (C.drop k)=Qf ZC [] C)/\zB w wr [.string R,.string I,.slice l C.length J,.bool P,.slice m A.length M,.slice p B.length L]/\x=.int .i64 k) (fun x _=>C.length-(intOf x).toNat)
   case atStart=>exact⟨0,by omega,rfl,G,rfl⟩
   case round =>
    clear G;obtain⟨k,hk,F,G,rfl⟩:=hrel;obtain⟨q,t,v,q3,q4,q5⟩:=QM G;by_cases a:k<C.length
    ·obtain⟨x,U⟩:∃x,C[k]? = some x:=⟨C[k],by simp[a]⟩;have T:=HO.out.faces x (Xe U);obtain⟨b,o,vs,rfl,rfl,_,Y⟩:=HFC.out k x U;have Y:=Y.mono G.below Y.lt;have E:=QS ZC C k x U;rw[F.out]at E;obtain⟨kx,X⟩:∃k,qt (lst x)=k:=⟨_,rfl⟩;have HN:=Xh (z7 (s:=x) T X);have Z:∀wx,Below w.heap.size w wx->_:=fun wx hb=>zbk (C.take k) (.slice (some ⟨b,o,none⟩) k J) x wx ((Zg.take HFS.out rfl rfl hk).mono hb (by decide) (fun _ _ h=>h))
     have HC:=Xh Z;have HX:=Xh U;clear U Z T;rw[show ZC x (C.take k)=if !qt (lst x) then 1 else if QK (C.take k) x then 5 else 0 from rfl,X]at E;obtain⟨c0,_⟩:=Y;rw[Nat.mul_one]at c0;generalize QK (C.take k) x=km at *;clear X;cases kx with
     |false =>
      replace E:Qf ZC [] C=1:=E;have D:Hid (S=1):=(by unfold Hid;rw[H.out,if_pos (by rw[E];decide),E]);clear H E F HC;go_wp2_with (first|(go_fit (HN.out _);rintro e i⟨rfl,rfl⟩))
      go_ret;exact⟨by rw[D.out];rfl,G.below⟩
     |true =>
      go_upto_region 8 with(go_fit (HN.out _);rintro e i⟨rfl,rfl⟩)
      go_cut [46] (fun s wx=>s=.bool km/\zB w wx [.string R,.string I,.slice (some ⟨b,o,none⟩) C.length J,.bool P,.slice m A.length M,.slice p B.length L])
      case first =>
       clear H E F;go_region_with (go_fit (HC.out _ G.drew.below);rintro e w3⟨rfl,rfl⟩)
       all_goals
        go_wp2
        go_meet;exact⟨rfl,G.drew⟩
      case rest =>
       clear G q t v q3 q4 q5 c0;obtain⟨rfl,G⟩:=hcut;cases km with
       |true =>
        replace E:Qf ZC [] C=5:=E;have D:Hid (S=5):=(by unfold Hid;rw[H.out,if_pos (by rw[E];decide),E]);clear H E F;go_wp2_with fail;go_ret;exact⟨by rw[D.out];rfl,G.below⟩
       |false =>
        have V:=Xh E.symm;clear H E F;go_wp2_with fail;go_roundw;case rel=>exact⟨k+1,by omega,V.out,G,by simp⟩
        case measure=>simp[intOf];omega
    ·have O:Hid (Qf ZC [] C=0):=by
      rw[<-F.out,Xg (by omega)];rfl
     clear F;obtain rfl:k=C.length:=(by omega);rw[if_neg (by rw[O.out];decide)]at H;clear HFC HFS O;by_cases g:8<C.length\/8<A.length\/8<B.length
     ·have D:Hid (S=4):=(by unfold Hid;rw[H.out,if_pos g]);clear H;go_wp2_with fail;all_goals first|(exfalso;omega)|skip
      all_goals
       go_ret;exact⟨by rw[D.out];rfl,G.below⟩
     ·rw[if_neg g]at H;simp only[not_or,Nat.not_lt]at g;obtain⟨m1,m2,m3⟩:=g;go_upto_region 10 with fail;go_cut [62] (fun s wx=>s=.bool false/\wx=wr)
      case first =>
       clear H;go_wp2_with fail;all_goals first|(exfalso;omega)|skip
       all_goals
        go_meet;exact⟨by simp;omega,rfl⟩
      case rest =>
      obtain⟨rfl,rfl⟩:=hcut;clear q t v q3 q4 q5;go_wp2_with fail;go_loopw [4] (fun x wr=>∃k:Nat,k<=A.length/\Hid (Qf Qr (A.take k) (A.drop k)=Qf Qr [] A)/\zB w wr [.string R,.string I,.slice l C.length J,.bool P,.slice m A.length M,.slice p B.length L]/\x=.int .i64 k) (fun x _=>A.length-(intOf x).toNat)
      case atStart=>exact⟨0,by omega,rfl,G,rfl⟩
      case round =>
       clear G;obtain⟨k,hk,F,G,rfl⟩:=hrel;obtain⟨q,t,v,q3,q4,q5⟩:=QM G;by_cases a:k<A.length
       ·obtain⟨x,U⟩:∃x,A[k]? = some x:=⟨A[k],by simp[a]⟩;have T:=HO.out.fields x (Xe U);obtain⟨b,o,vs,rfl,rfl,_,Y⟩:=f.out k x U;have Y:=Y.mono G.below Y.lt;have E:=QS Qr A k x U;rw[F.out,show Qr x (A.take k)=if !qt (lst x.name)||!Zs (lst x.type) then 1 else if (A.take k).any fun y=>decide (y.name=x.name) then 5 else 0 from rfl]at E;obtain⟨kx,X⟩:∃k,qt (lst x.name)=k:=⟨_,rfl⟩;have HN:=Xh (z7 (s:=x.name) T.1 X);have HT:Hid (∀wx,_):=fun wx=>QL x.type wx (qF (Xf T.2 (by decide)))
        rw[X]at E;unfold lst at E;generalize Zs x.type.data.toList=kt at *;have HX:=Xh U;clear U T X;obtain⟨c0,c1,_⟩:=Y;cases kx with
        |false =>
         replace E:Qf Qr [] A=1:=E;have D:Hid (S=1):=(by unfold Hid;rw[H.out,if_pos (by rw[E];decide),E]);clear H E F HT;go_wp2_with (first|(go_fit (HN.out _);rintro e i⟨rfl,rfl⟩))
         go_ret;exact⟨by rw[D.out];rfl,G.below⟩
        |true =>
         cases kt with
         |false =>
          replace E:Qf Qr [] A=1:=E;have D:Hid (S=1):=(by unfold Hid;rw[H.out,if_pos (by rw[E];decide),E]);clear H E F;go_wp2_with (first|(go_fit (HN.out _);rintro e i⟨rfl,rfl⟩)|(go_fit (HT.out _);rintro e w3⟨rfl,rfl⟩))
          go_ret;exact⟨by rw[D.out];rfl,G.below⟩
         |true =>
          replace E:Qf Qr [] A=if (if (A.take k).any (fun y=>decide (y.name=x.name)) then 5 else 0)=0 then Qf Qr (A.take (k+1)) (A.drop (k+1)) else (if (A.take k).any (fun y=>decide (y.name=x.name)) then 5 else 0):=E
          have HS:=Xh E;clear E;go_wp2_with (first|(go_fit (HN.out _);rintro e i⟨rfl,rfl⟩)|(go_fit (HT.out _);rintro e w3⟨rfl,rfl⟩))
          clear HN HT;go_loopw [5] (fun z ws=>∃j:Nat,j<=k/\Hid ((((A.take k).drop j).any fun y=>decide (y.name=x.name))=(A.take k).any fun y=>decide (y.name=x.name))/\zB w ws [.string R,.string I,.slice l C.length J,.bool P,.slice (some ⟨b,o,none⟩) A.length M,.slice p B.length L]/\z=.int .i64 j) (fun z _=>k-(intOf z).toNat)
          case atStart=>exact⟨0,by omega,rfl,G,rfl⟩
          case round =>
           clear G q t v q3 q4 q5 c0 c1;obtain⟨j,hj,d,G,rfl⟩:=hrel;obtain⟨q,t,v,q3,q4,q5⟩:=QM G;by_cases hjk:j<k
           ·obtain⟨y,hy⟩:∃y,A[j]? = some y:=⟨A[j],Xn (by omega)⟩;obtain⟨b1,o1,vs1,hp1,hR1,_,hcy⟩:=f.out j y hy;obtain⟨b2,o2,vs2,hp2,hR2,_,hcx⟩:=f.out k x HX.out;injection hp1 with hp1
            injection hp1 with g1 g2
            injection hp2 with hp2
            injection hp2 with g3 g4
            subst g1 g2 g3 g4;unfold QE at hR1 hR2;subst hR1 hR2;have d0:=(hcy.mono G.below hcy.lt).1;have e0:=(hcx.mono G.below hcx.lt).1;have E:=qai (fun y:Qag=>decide (y.name=x.name)) (A.take k) j y (by rw[List.getElem?_take];simp[hjk,hy]);rw[d.out,<-q8]at E;clear hcy hcx hy;cases he:y.name.toList==x.name.toList with
            |true =>
             rw[he,Bool.true_or]at E;have D:Hid (S=5):=by
              have h5:Qf Qr [] A=5:=(by rw[HS.out,E];rfl);unfold Hid;rw[H.out,if_pos (by rw[h5];decide),h5]
             clear H E F HS d;go_upto_region 20 with fail;go_quiet (fail);go_wp2
             go_ret;exact⟨by rw[D.out];rfl,(G.drewN _).below⟩
            |false =>
             rw[he,Bool.false_or]at E;have V:=Xh E.symm;clear H E F HS d;go_upto_region 20 with fail;go_quiet (fail);go_wp2
             go_roundw;case rel=>exact⟨j+1,by omega,V.out,G.drewN _,by simp⟩
             case measure=>simp[intOf];omega
           ·obtain rfl:j=k:=(by omega);have hno:((A.take j).any fun y=>decide (y.name=x.name))=false:=by
             rw[<-d.out,Xg (by simp;omega)];rfl
            have V:Hid (Qf Qr (A.take (j+1)) (A.drop (j+1))=Qf Qr [] A):=by
             have:=HS.out;rw[hno]at this;exact this.symm
            clear H F HS d hno;go_wp2_with fail;go_roundw;case rel=>exact⟨j+1,by omega,V.out,G,by simp⟩
            case measure=>simp[intOf];omega
       ·have O:Hid (Qf Qr [] A=0):=by
         rw[<-F.out,Xg (by omega)];rfl
        clear F;obtain rfl:k=A.length:=(by omega);rw[if_neg (by rw[O.out];decide)]at H;clear f HDS O;go_wp2_with fail;go_loopw [6] (fun x wr=>∃k:Nat,k<=B.length/\Hid (Qf qq (B.take k) (B.drop k)=Qf qq [] B)/\zB w wr [.string R,.string I,.slice l C.length J,.bool P,.slice m A.length M,.slice p B.length L]/\x=.int .i64 k) (fun x _=>B.length-(intOf x).toNat)
        case atStart=>exact⟨0,by omega,rfl,G,rfl⟩
        case round =>
         clear G q t v q3 q4 q5;obtain⟨k,hk,F,G,rfl⟩:=hrel;obtain⟨q,t,v,q3,q4,q5⟩:=QM G;by_cases a:k<B.length
         ·obtain⟨x,U⟩:∃x,B[k]? = some x:=⟨B[k],by simp[a]⟩;have T:=HO.out.methods x (Xe U);obtain⟨b,o,vs,rfl,⟨cv,hv,rfl,hcv,hhv⟩,_,Y⟩:=HMC.out k x U;have Y:=Y.mono G.below Y.lt;have E:=QS qq B k x U;rw[F.out]at E;obtain⟨pc,cc,rfl,_⟩:=hcv.open;obtain⟨ph,ch,rfl,_⟩:=hhv.open;have Z:∀wx,Below w.heap.size w wx->_:=fun wx hb=>qcV x _ _ (.slice (some ⟨b,o,none⟩) k L) (B.take k) wx T (hcv.mono hb (by decide) (fun _ _ h=>h)) (hhv.mono hb (by decide) (fun _ _ h=>h)) ((Zg.take HMS.out rfl rfl hk).mono hb (by decide) (fun _ _ h=>h.mono hb))
          have HX:=Xh U;clear U T hcv hhv;obtain⟨c0,c1,c2,c3,c4,c5,c6,c7,_⟩:=Y;unfold qR at Z;have hnz:=zaF (qq x (B.take k));generalize qq x (B.take k)=fx at *;have HC:=Xh Z;clear Z;go_upto_region 25 with fail;go_cut [7] (fun s wx=>s=.int .i64 fx/\zB w wx [.string R,.string I,.slice l C.length J,.bool P,.slice m A.length M,.slice (some ⟨b,o,none⟩) B.length L])
          case first =>
           clear H F E hnz;go_region_with (go_fit (HC.out _ G.drew.below);rintro e w4⟨rfl,hB4⟩)
           all_goals
            go_wp2
            go_meet;exact⟨rfl,G.drew.step hB4⟩
          case rest =>
           clear G q t v q3 q4 q5 c0 c1 c2 c3 c4 c5 c6 c7 HC;obtain⟨rfl,G⟩:=hcut;by_cases hz:fx=0
           ·subst hz;rw[if_pos rfl]at E;have V:=Xh E.symm;clear E H F hnz;go_wp2_with fail;go_roundw;case rel=>exact⟨k+1,by omega,V.out,G,by simp⟩
            case measure=>simp[intOf];omega
           ·rw[if_neg hz]at E;rw[Xj hz]at hnz;have D:Hid (S=fx):=(by unfold Hid;rw[H.out,if_pos (by rw[E];exact hz),E]);clear E H F hz;go_wp2_with fail;go_ret;exact⟨by rw[D.out];rfl,G.below⟩
         ·have O:Hid (Qf qq [] B=0):=by
           rw[<-F.out,Xg (by omega)];rfl
          clear F;obtain rfl:k=B.length:=(by omega);rw[if_neg (by rw[O.out];decide)]at H;clear HMC HMS O;cases P with
          |false =>
           have D:Hid (S=0):=(by unfold Hid;rw[H.out];rfl);clear H;go_wp2_with fail;go_ret;exact⟨by rw[D.out];rfl,G.below⟩
          |true =>
           cases A with
           |nil =>
            have D:Hid (S=0):=(by unfold Hid;rw[H.out];rfl);clear H;go_wp2_with fail;go_ret;exact⟨by rw[D.out];rfl,G.below⟩
           |cons y r =>
            have D:Hid (S=8):=(by unfold Hid;rw[H.out];rfl);have hl:0<(y::r).length:=(by simp);clear H;generalize (y::r).length=n at *;go_wp2_with fail;all_goals first|(exfalso;omega)|skip
            go_ret;exact⟨by rw[D.out];rfl,G.below⟩
set_option maxRecDepth 512
end Go.Proofs.YtlmfmioljeppfaaGreatDoor
