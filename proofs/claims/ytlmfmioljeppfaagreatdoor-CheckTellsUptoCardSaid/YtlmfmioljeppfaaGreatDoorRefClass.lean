/- Lemmas; conditions: as each states. -/
import Derived.Test.YtlmfmioljeppfaaGreatDoorRefMeth
import Derived.Test.YtlmfmioljeppfaaGreatDoorLineLaw
set_option maxHeartbeats 4000000
namespace Go.Proofs.YtlmfmioljeppfaaGreatDoor
open Go.RowKit Go.Shelf Go.Lib
theorem za3(w:World)(c:Qb)(fv dv mv:Value)(t:TypeId):zB w (w.alloc (.cells #[.string c.name,.string c.super,fv,.bool c.face,dv,mv] t)) [.string c.name,.string c.super,fv,.bool c.face,dv,mv]:=ZY w _ _
set_option maxRecDepth 100000
theorem zcA(c:Qb)(fv dv mv:Value)(w:World)(ho:qV c)(hf:Qh w fv c.faces)(hd:Qg w 2 ZE dv c.fields)(hm:Qg w 8 (Zr w) mv c.methods):
 Calls Tryz.prog 36 #[Qz c fv dv mv] w fun e w'=>e=.returned (.int .i64 (qd c))/\Below w.heap.size w w':=by
 obtain⟨kn,hkn⟩:∃k,Qt (lst c.name)=k:=⟨_,rfl⟩;obtain⟨ks,hks⟩:∃k,Qt (lst c.super)=k:=⟨_,rfl⟩;have HNa:=Xh (Z8 (s:=c.name) ho.name hkn);have HSu:=Xh (Z8 (s:=c.super) ho.super hks);obtain⟨pf,capf,rfl,hf1,hf2,hfc⟩:=hf.open;obtain⟨pd,capd,rfl,hd1,hd2,hdc⟩:=hd.open;obtain⟨pm,capm,rfl,hm1,hm2,hmc⟩:=hm.open;have HO:=Xh ho;have HFS:=Xh hf;have HDS:=Xh hd;have HMS:=Xh hm;have HFC:=Xh hfc;have HDC:=Xh hdc;have HMC:=Xh hmc;have HBX:Hid (∀w2,_->_):=fun w2=>(za3 w c (.slice pf c.faces.length capf) (.slice pd c.fields.length capd) (.slice pm c.methods.length capm) 36).step (wy:=w2)
 have HB0:=Xh (za3 w c (.slice pf c.faces.length capf) (.slice pd c.fields.length capd) (.slice pm c.methods.length capm) 36);have HF:Hid (qd c=if !Qt (lst c.name)||(c.super.size != 0&&!Qt (lst c.super)) then 1
  else if Qf ZC [] c.faces≠0 then Qf ZC [] c.faces
  else if 8<c.faces.length\/8<c.fields.length\/8<c.methods.length then 4
  else if Qf qs [] c.fields≠0 then Qf qs [] c.fields
  else if Qf qq [] c.methods≠0 then Qf qq [] c.methods
  else if c.face&&!c.fields.isEmpty then 8 else 0):=rfl
 clear hf hd hm hfc hdc hmc ho;have zs:(c.super.size != 0)=!c.super.toList.isEmpty:=by rw[ZD];rfl
 rw[zs,hkn,hks]at HF;clear hkn hks zs;generalize qd c=res at *;obtain⟨name,super,faces,face,fields,methods⟩:=c;unfold Qz;dsimp only at *;obtain⟨ke,he⟩:∃k,super.toList.isEmpty=k:=⟨_,rfl⟩;rw[he]at HF;have hlf:faces.length<=9223372036854775807:=Xf hf1 hf2;have hld:fields.length<=9223372036854775807:=Xf hd1 hd2;have hlm:methods.length<=9223372036854775807:=Xf hm1 hm2;by_cases hbad:(!kn||(!ke&&!ks))=true
 ·have hfin:Hid (res=1):=by unfold Hid;rw[HF.out,if_pos hbad]
  clear HF;go_enter Tryz.func36,Tryz.ntmps36;cases kn<;>cases ke<;>cases ks<;>first|(exact absurd hbad (by decide))|skip
  all_goals
   clear hbad;go_wp2_with (first|(go_fit (HNa.out _);rintro e w2⟨rfl,rfl⟩)|(go_fit (HSu.out _);rintro e w3⟨rfl,rfl⟩))
   go_ret;exact⟨by rw[hfin.out];rfl,HB0.out.below⟩
 ·rw[if_neg hbad]at HF;go_enter Tryz.func36,Tryz.ntmps36;go_upto_region 1 with fail;go_cut [22] (fun s wx=>s=.bool false/\zB w wx [.string name,.string super,.slice pf faces.length capf,.bool face,.slice pd fields.length capd,.slice pm methods.length capm])
  case first =>
   clear HF;cases kn<;>cases ke<;>cases ks<;>first|(exact absurd (show(!false||_)=true from rfl) hbad)|(exact absurd (show(!true||(!false&&!false))=true from rfl) hbad)|skip
   all_goals
    clear hbad;go_wp2_with (first|(go_fit (HNa.out _);rintro e w2⟨rfl,rfl⟩)|(go_fit (HSu.out _);rintro e w3⟨rfl,rfl⟩))
    go_meet;exact⟨rfl,HB0⟩
  case rest =>
   obtain⟨rfl,BX⟩:=hcut;clear hbad HNa HSu he HBX HB0;go_wp2_with fail;go_loopw [3] (fun x wr=>∃k:Nat,k<=faces.length/\Hid (Qf ZC (faces.take k) (faces.drop k)=Qf ZC [] faces)/\zB w wr [.string name,.string super,.slice pf faces.length capf,.bool face,.slice pd fields.length capd,.slice pm methods.length capm]/\x=.int .i64 k) (fun x _=>faces.length-(intOf x).toNat)
   case atStart=>exact⟨0,by omega,rfl,BX,rfl⟩
   case round =>
    clear BX;obtain⟨k,hk,hff,BX,rfl⟩:=hrel;obtain⟨q0,q1,q2,q3,q4,q5⟩:=qM BX;by_cases hkl:k<faces.length
    ·obtain⟨x,hx⟩:∃x,faces[k]? = some x:=⟨faces[k],by simp[hkl]⟩;have hxs:=HO.out.faces x (Xe hx);obtain⟨b,o,vs,rfl,rfl,_,qc⟩:=HFC.out k x hx;have qc:=qc.mono BX.below qc.lt;have Zc:=zR ZC faces k x hx;rw[hff.out]at Zc;obtain⟨kx,hkx⟩:∃k,Qt (lst x)=k:=⟨_,rfl⟩;have HN:=Xh (Z8 (s:=x) hxs hkx);have hct:∀wx,Below w.heap.size w wx->_:=fun wx hb=>qbk (faces.take k) (.slice (some ⟨b,o,none⟩) k capf) x wx ((Qg.take HFS.out rfl rfl hk).mono hb (by decide) (fun _ _ h=>h))
     have HC:=Xh hct;have HX:=Xh hx;clear hx hct hxs;rw[show ZC x (faces.take k)=if !Qt (lst x) then 1 else if ZL (faces.take k) x then 5 else 0 from rfl,hkx]at Zc;obtain⟨c0,_⟩:=qc;rw[Nat.mul_one]at c0;generalize ZL (faces.take k) x=km at *;clear hkx;cases kx with
     |false =>
      replace Zc:Qf ZC [] faces=1:=Zc;have hfin:Hid (res=1):=(by unfold Hid;rw[HF.out,if_pos (by rw[Zc];decide),Zc]);clear HF Zc hff HC;go_wp2_with (first|(go_fit (HN.out _);rintro e w2⟨rfl,rfl⟩))
      go_ret;exact⟨by rw[hfin.out];rfl,BX.below⟩
     |true =>
      go_upto_region 8 with(go_fit (HN.out _);rintro e w2⟨rfl,rfl⟩)
      go_cut [46] (fun s wx=>s=.bool km/\zB w wx [.string name,.string super,.slice (some ⟨b,o,none⟩) faces.length capf,.bool face,.slice pd fields.length capd,.slice pm methods.length capm])
      case first =>
       clear HF Zc hff;go_region_with (go_fit (HC.out _ BX.drew.below);rintro e w3⟨rfl,rfl⟩)
       all_goals
        go_wp2
        go_meet;exact⟨rfl,BX.drew⟩
      case rest =>
       clear BX q0 q1 q2 q3 q4 q5 c0;obtain⟨rfl,BX⟩:=hcut;cases km with
       |true =>
        replace Zc:Qf ZC [] faces=5:=Zc;have hfin:Hid (res=5):=(by unfold Hid;rw[HF.out,if_pos (by rw[Zc];decide),Zc]);clear HF Zc hff;go_wp2_with fail;go_ret;exact⟨by rw[hfin.out];rfl,BX.below⟩
       |false =>
        have hst:=Xh Zc.symm;clear HF Zc hff;go_wp2_with fail;go_roundw;case rel=>exact⟨k+1,by omega,hst.out,BX,by simp⟩
        case measure=>simp[intOf];omega
    ·have hff0:Hid (Qf ZC [] faces=0):=by
      rw[<-hff.out,Xg (by omega)];rfl
     clear hff;obtain rfl:k=faces.length:=(by omega);rw[if_neg (by rw[hff0.out];decide)]at HF;clear HFC HFS hff0;by_cases hmx:8<faces.length\/8<fields.length\/8<methods.length
     ·have hfin:Hid (res=4):=(by unfold Hid;rw[HF.out,if_pos hmx]);clear HF;go_wp2_with fail;all_goals first|(exfalso;omega)|skip
      all_goals
       go_ret;exact⟨by rw[hfin.out];rfl,BX.below⟩
     ·rw[if_neg hmx]at HF;simp only[not_or,Nat.not_lt]at hmx;obtain⟨m1,m2,m3⟩:=hmx;go_upto_region 10 with fail;go_cut [62] (fun s wx=>s=.bool false/\wx=wr)
      case first =>
       clear HF;go_wp2_with fail;all_goals first|(exfalso;omega)|skip
       all_goals
        go_meet;exact⟨by simp;omega,rfl⟩
      case rest =>
      obtain⟨rfl,rfl⟩:=hcut;clear q0 q1 q2 q3 q4 q5;go_wp2_with fail;go_loopw [4] (fun x wr=>∃k:Nat,k<=fields.length/\Hid (Qf qs (fields.take k) (fields.drop k)=Qf qs [] fields)/\zB w wr [.string name,.string super,.slice pf faces.length capf,.bool face,.slice pd fields.length capd,.slice pm methods.length capm]/\x=.int .i64 k) (fun x _=>fields.length-(intOf x).toNat)
      case atStart=>exact⟨0,by omega,rfl,BX,rfl⟩
      case round =>
       clear BX;obtain⟨k,hk,hff,BX,rfl⟩:=hrel;obtain⟨q0,q1,q2,q3,q4,q5⟩:=qM BX;by_cases hkl:k<fields.length
       ·obtain⟨x,hx⟩:∃x,fields[k]? = some x:=⟨fields[k],by simp[hkl]⟩;have hxs:=HO.out.fields x (Xe hx);obtain⟨b,o,vs,rfl,rfl,_,qc⟩:=HDC.out k x hx;have qc:=qc.mono BX.below qc.lt;have Zc:=zR qs fields k x hx;rw[hff.out,show qs x (fields.take k)=if !Qt (lst x.name)||!Qs (lst x.type) then 1 else if (fields.take k).any fun y=>decide (y.name=x.name) then 5 else 0 from rfl]at Zc;obtain⟨kx,hkx⟩:∃k,Qt (lst x.name)=k:=⟨_,rfl⟩;have HN:=Xh (Z8 (s:=x.name) hxs.1 hkx);have HT:Hid (∀wx,_):=fun wx=>QL x.type wx (zF (Xf hxs.2 (by decide)))
        rw[hkx]at Zc;unfold lst at Zc;generalize Qs x.type.data.toList=kt at *;have HX:=Xh hx;clear hx hxs hkx;obtain⟨c0,c1,_⟩:=qc;cases kx with
        |false =>
         replace Zc:Qf qs [] fields=1:=Zc;have hfin:Hid (res=1):=(by unfold Hid;rw[HF.out,if_pos (by rw[Zc];decide),Zc]);clear HF Zc hff HT;go_wp2_with (first|(go_fit (HN.out _);rintro e w2⟨rfl,rfl⟩))
         go_ret;exact⟨by rw[hfin.out];rfl,BX.below⟩
        |true =>
         cases kt with
         |false =>
          replace Zc:Qf qs [] fields=1:=Zc;have hfin:Hid (res=1):=(by unfold Hid;rw[HF.out,if_pos (by rw[Zc];decide),Zc]);clear HF Zc hff;go_wp2_with (first|(go_fit (HN.out _);rintro e w2⟨rfl,rfl⟩)|(go_fit (HT.out _);rintro e w3⟨rfl,rfl⟩))
          go_ret;exact⟨by rw[hfin.out];rfl,BX.below⟩
         |true =>
          replace Zc:Qf qs [] fields=if (if (fields.take k).any (fun y=>decide (y.name=x.name)) then 5 else 0)=0 then Qf qs (fields.take (k+1)) (fields.drop (k+1)) else (if (fields.take k).any (fun y=>decide (y.name=x.name)) then 5 else 0):=Zc
          have HS:=Xh Zc;clear Zc;go_wp2_with (first|(go_fit (HN.out _);rintro e w2⟨rfl,rfl⟩)|(go_fit (HT.out _);rintro e w3⟨rfl,rfl⟩))
          clear HN HT;go_loopw [5] (fun z ws=>∃j:Nat,j<=k/\Hid ((((fields.take k).drop j).any fun y=>decide (y.name=x.name))=(fields.take k).any fun y=>decide (y.name=x.name))/\zB w ws [.string name,.string super,.slice pf faces.length capf,.bool face,.slice (some ⟨b,o,none⟩) fields.length capd,.slice pm methods.length capm]/\z=.int .i64 j) (fun z _=>k-(intOf z).toNat)
          case atStart=>exact⟨0,by omega,rfl,BX,rfl⟩
          case round =>
           clear BX q0 q1 q2 q3 q4 q5 c0 c1;obtain⟨j,hj,hfj,BX,rfl⟩:=hrel;obtain⟨q0,q1,q2,q3,q4,q5⟩:=qM BX;by_cases hjk:j<k
           ·obtain⟨y,hy⟩:∃y,fields[j]? = some y:=⟨fields[j],Xn (by omega)⟩;obtain⟨b1,o1,vs1,hp1,hR1,_,hcy⟩:=HDC.out j y hy;obtain⟨b2,o2,vs2,hp2,hR2,_,hcx⟩:=HDC.out k x HX.out;injection hp1 with hp1
            injection hp1 with g1 g2
            injection hp2 with hp2
            injection hp2 with g3 g4
            subst g1 g2 g3 g4;unfold ZE at hR1 hR2;subst hR1 hR2;have d0:=(hcy.mono BX.below hcy.lt).1;have e0:=(hcx.mono BX.below hcx.lt).1;have Zc:=qai (fun y:qag=>decide (y.name=x.name)) (fields.take k) j y (by rw[List.getElem?_take];simp[hjk,hy]);rw[hfj.out,<-Z5]at Zc;clear hcy hcx hy;cases he:y.name.toList==x.name.toList with
            |true =>
             rw[he,Bool.true_or]at Zc;have hfin:Hid (res=5):=by
              have h5:Qf qs [] fields=5:=(by rw[HS.out,Zc];rfl);unfold Hid;rw[HF.out,if_pos (by rw[h5];decide),h5]
             clear HF Zc hff HS hfj;go_upto_region 20 with fail;go_quiet (fail);go_wp2
             go_ret;exact⟨by rw[hfin.out];rfl,(BX.drewN _).below⟩
            |false =>
             rw[he,Bool.false_or]at Zc;have hst:=Xh Zc.symm;clear HF Zc hff HS hfj;go_upto_region 20 with fail;go_quiet (fail);go_wp2
             go_roundw;case rel=>exact⟨j+1,by omega,hst.out,BX.drewN _,by simp⟩
             case measure=>simp[intOf];omega
           ·obtain rfl:j=k:=(by omega);have hno:((fields.take j).any fun y=>decide (y.name=x.name))=false:=by
             rw[<-hfj.out,Xg (by simp;omega)];rfl
            have hst:Hid (Qf qs (fields.take (j+1)) (fields.drop (j+1))=Qf qs [] fields):=by
             have:=HS.out;rw[hno]at this;exact this.symm
            clear HF hff HS hfj hno;go_wp2_with fail;go_roundw;case rel=>exact⟨j+1,by omega,hst.out,BX,by simp⟩
            case measure=>simp[intOf];omega
       ·have hff0:Hid (Qf qs [] fields=0):=by
         rw[<-hff.out,Xg (by omega)];rfl
        clear hff;obtain rfl:k=fields.length:=(by omega);rw[if_neg (by rw[hff0.out];decide)]at HF;clear HDC HDS hff0;go_wp2_with fail;go_loopw [6] (fun x wr=>∃k:Nat,k<=methods.length/\Hid (Qf qq (methods.take k) (methods.drop k)=Qf qq [] methods)/\zB w wr [.string name,.string super,.slice pf faces.length capf,.bool face,.slice pd fields.length capd,.slice pm methods.length capm]/\x=.int .i64 k) (fun x _=>methods.length-(intOf x).toNat)
        case atStart=>exact⟨0,by omega,rfl,BX,rfl⟩
        case round =>
         clear BX q0 q1 q2 q3 q4 q5;obtain⟨k,hk,hff,BX,rfl⟩:=hrel;obtain⟨q0,q1,q2,q3,q4,q5⟩:=qM BX;by_cases hkl:k<methods.length
         ·obtain⟨x,hx⟩:∃x,methods[k]? = some x:=⟨methods[k],by simp[hkl]⟩;have hxs:=HO.out.methods x (Xe hx);obtain⟨b,o,vs,rfl,⟨cv,hv,rfl,hcv,hhv⟩,_,qc⟩:=HMC.out k x hx;have qc:=qc.mono BX.below qc.lt;have Zc:=zR qq methods k x hx;rw[hff.out]at Zc;obtain⟨pc,cc,rfl,_⟩:=hcv.open;obtain⟨ph,ch,rfl,_⟩:=hhv.open;have hct:∀wx,Below w.heap.size w wx->_:=fun wx hb=>qcS x _ _ (.slice (some ⟨b,o,none⟩) k capm) (methods.take k) wx hxs (hcv.mono hb (by decide) (fun _ _ h=>h)) (hhv.mono hb (by decide) (fun _ _ h=>h)) ((Qg.take HMS.out rfl rfl hk).mono hb (by decide) (fun _ _ h=>h.mono hb))
          have HX:=Xh hx;clear hx hxs hcv hhv;obtain⟨c0,c1,c2,c3,c4,c5,c6,c7,_⟩:=qc;unfold qQ at hct;have hnz:=ZaF (qq x (methods.take k));generalize qq x (methods.take k)=fx at *;have HC:=Xh hct;clear hct;go_upto_region 25 with fail;go_cut [7] (fun s wx=>s=.int .i64 fx/\zB w wx [.string name,.string super,.slice pf faces.length capf,.bool face,.slice pd fields.length capd,.slice (some ⟨b,o,none⟩) methods.length capm])
          case first =>
           clear HF hff Zc hnz;go_region_with (go_fit (HC.out _ BX.drew.below);rintro e w4⟨rfl,hB4⟩)
           all_goals
            go_wp2
            go_meet;exact⟨rfl,BX.drew.step hB4⟩
          case rest =>
           clear BX q0 q1 q2 q3 q4 q5 c0 c1 c2 c3 c4 c5 c6 c7 HC;obtain⟨rfl,BX⟩:=hcut;by_cases hz:fx=0
           ·subst hz;rw[if_pos rfl]at Zc;have hst:=Xh Zc.symm;clear Zc HF hff hnz;go_wp2_with fail;go_roundw;case rel=>exact⟨k+1,by omega,hst.out,BX,by simp⟩
            case measure=>simp[intOf];omega
           ·rw[if_neg hz]at Zc;rw[Xj hz]at hnz;have hfin:Hid (res=fx):=(by unfold Hid;rw[HF.out,if_pos (by rw[Zc];exact hz),Zc]);clear Zc HF hff hz;go_wp2_with fail;go_ret;exact⟨by rw[hfin.out];rfl,BX.below⟩
         ·have hff0:Hid (Qf qq [] methods=0):=by
           rw[<-hff.out,Xg (by omega)];rfl
          clear hff;obtain rfl:k=methods.length:=(by omega);rw[if_neg (by rw[hff0.out];decide)]at HF;clear HMC HMS hff0;cases face with
          |false =>
           have hfin:Hid (res=0):=(by unfold Hid;rw[HF.out];rfl);clear HF;go_wp2_with fail;go_ret;exact⟨by rw[hfin.out];rfl,BX.below⟩
          |true =>
           cases fields with
           |nil =>
            have hfin:Hid (res=0):=(by unfold Hid;rw[HF.out];rfl);clear HF;go_wp2_with fail;go_ret;exact⟨by rw[hfin.out];rfl,BX.below⟩
           |cons y r =>
            have hfin:Hid (res=8):=(by unfold Hid;rw[HF.out];rfl);have hl:0<(y::r).length:=(by simp);clear HF;generalize (y::r).length=n at *;go_wp2_with fail;all_goals first|(exfalso;omega)|skip
            go_ret;exact⟨by rw[hfin.out];rfl,BX.below⟩
set_option maxRecDepth 512
end Go.Proofs.YtlmfmioljeppfaaGreatDoor
