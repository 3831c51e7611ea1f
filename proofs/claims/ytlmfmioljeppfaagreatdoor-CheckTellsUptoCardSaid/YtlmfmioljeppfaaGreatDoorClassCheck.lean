/- Lemmas; conditions: as each states. -/
import Derived.Test.YtlmfmioljeppfaaGreatDoorClassMethod
set_option maxHeartbeats 4000000
namespace Go.Proofs.YtlmfmioljeppfaaGreatDoor
open Go.RowKit Go.Shelf Go.Lib
structure qV (c:Qb):Prop where
 name:c.name.size<=1048576
 super:c.super.size<=1048576
 faces:∀x∈c.faces,x.size<=1048576
 fields:∀x∈c.fields,x.name.size<=1048576/\x.type.size<=1048576
 methods:∀x∈c.methods,z9 x
def Qz(c:Qb)(fv dv mv:Value):Value:=.agg #[.string c.name,.string c.super,fv,.bool c.face,dv,mv]
theorem zR{α:Type}(f:α->List α->Nat)(l:List α)(k:Nat)(x:α)(h:l[k]? = some x):
 Qf f (l.take k) (l.drop k)=if f x (l.take k)=0 then Qf f (l.take (k+1)) (l.drop (k+1)) else f x (l.take k):=by
 obtain⟨hk,rfl⟩:=List.getElem?_eq_some_iff.1 h;rw[List.drop_eq_getElem_cons hk,Qf,List.take_succ_eq_append_getElem hk]
theorem qM{w wx:World}{a0 a1 a2 a3 a4 a5:Value}(h:zB w wx [a0,a1,a2,a3,a4,a5]):
 wx.cell? ⟨w.heap.size,0,none⟩=some a0/\wx.cell? ⟨w.heap.size,1,none⟩=some a1/\wx.cell? ⟨w.heap.size,2,none⟩=some a2/\wx.cell? ⟨w.heap.size,3,none⟩=some a3 /\
 wx.cell? ⟨w.heap.size,4,none⟩=some a4/\wx.cell? ⟨w.heap.size,5,none⟩=some a5:=by
 obtain⟨c0,c1,c2,c3,c4,c5,_⟩:=h.cells;exact⟨c0,c1,c2,c3,c4,c5⟩
theorem zbD(s:ByteArray):zE (Zw s)=if Qt (lst s) then .nilIface else .iface 29 (.int .i64 1):=by
 unfold Zw lst;cases Qt s.data.toList<;>simp[zE]
theorem zck(s:ByteArray):zE (Z3 s)=if Qs (lst s) then .nilIface else .iface 29 (.int .i64 1):=by
 unfold Z3 lst;cases Qs s.data.toList<;>simp[zE]
theorem Qej{w wx:World}{a0 a1:Value}(h:zB w wx [a0,a1]):wx.cell? ⟨w.heap.size,0,none⟩=some a0/\wx.cell? ⟨w.heap.size,1,none⟩=some a1:=by
 obtain⟨c0,c1,_⟩:=h.cells;exact⟨c0,c1⟩
set_option maxRecDepth 100000
theorem Qdq(c:Qb)(fv dv mv:Value)(w:World)(hl:Qaw w)(ho:qV c)(hf:Qh w fv c.faces)(hd:Qg w 2 ZE dv c.fields)(hm:Qg w 8 (Zr w) mv c.methods)(v:Value)(hfv:zE (qd c)=v):
 Calls Tryz.prog 87 #[Qz c fv dv mv] w fun e w'=>e=.returned v/\Below w.heap.size w w':=by
 have HNa:Hid (∀wx,_):=fun wx=>ZQ c.name wx (Xf ho.name (by decide))
 have HSu:Hid (∀wx,_):=fun wx=>ZQ c.super wx (Xf ho.super (by decide))
 rw[zbD]at HNa HSu;obtain⟨pf,capf,rfl,hf1,hf2,hfc⟩:=hf.open;obtain⟨pd,capd,rfl,hd1,hd2,hdc⟩:=hd.open;obtain⟨pm,capm,rfl,hm1,hm2,hmc⟩:=hm.open;have hmf:∀fn first cap w,(Instr.makeFunc fn first cap).run Tryz.prog w=.ok (.func fn first cap) w:=fun _ _ _ _=>rfl
 have HL:Hid (∀wx,Below w.heap.size w wx->Qaw wx):=fun wx hb=>hl.mono hb hl.1
 have HO:=Xh ho;have HFS:=Xh hf;have HDS:=Xh hd;have HMS:=Xh hm;have HFC:=Xh hfc;have HDC:=Xh hdc;have HMC:=Xh hmc;clear hf hd hm hfc hdc hmc hl ho;obtain⟨name,super,faces,face,fields,methods⟩:=c;unfold Qz;dsimp only at *;have HF:Hid (v=zE (if !Qt (lst name)||(super.size != 0&&!Qt (lst super)) then 1
  else if Qf ZC [] faces≠0 then Qf ZC [] faces
  else if 8<faces.length\/8<fields.length\/8<methods.length then 4
  else if Qf qs [] fields≠0 then Qf qs [] fields
  else if Qf qq [] methods≠0 then Qf qq [] methods
  else if face&&!fields.isEmpty then 8 else 0)):=hfv.symm
 clear hfv;have zs:(super.size != 0)=!super.toList.isEmpty:=by rw[ZD];rfl
 rw[zs]at HF;clear zs;obtain⟨ke,he⟩:∃k,super.toList.isEmpty=k:=⟨_,rfl⟩;rw[he]at HF;generalize Qt (lst name)=kn at *;generalize Qt (lst super)=ks at *;by_cases hbad:(!kn||(!ke&&!ks))=true
 ·have hfin:Hid (v=.iface 29 (.int .i64 1)):=by rw[HF.out,if_pos hbad];rfl
  clear HF;go_enter Tryz.func87,Tryz.ntmps87;cases kn<;>cases ke<;>cases ks<;>first|(exact absurd hbad (by decide))|skip
  all_goals
   clear hbad;simp only[if_true,if_false,Bool.false_eq_true]at HNa HSu;go_wp2_with (first|(go_fit (HNa.out _);rintro e w2⟨rfl,hB⟩;obtain⟨hcl,_⟩:=qaC hB;(have q1:=hcl w.heap.size 1 (by simp)))|(go_fit (HSu.out _);rintro e w3⟨rfl,hB3⟩))
   cases hfin.out;go_ret;first|exact⟨rfl,Qa (Xb.alloc Xl _) Xl hB⟩|exact⟨rfl,Qa (Qa (Xb.alloc Xl _) Xl hB) Xl hB3⟩
 ·rw[if_neg hbad]at HF;go_enter Tryz.func87,Tryz.ntmps87;go_upto_region 1 with fail;go_cut [24] (fun s wx=>s=.bool false/\zB w wx [.string name,.string super,.slice pf faces.length capf,.bool face,.slice pd fields.length capd,.slice pm methods.length capm])
  case first =>
   clear HF;cases kn<;>cases ke<;>cases ks<;>first|(exact absurd (show(!false||_)=true from rfl) hbad)|(exact absurd (show(!true||(!false&&!false))=true from rfl) hbad)|skip
   all_goals
    clear hbad;simp only[if_true,if_false,Bool.false_eq_true]at HNa HSu;go_wp2_with (first|(go_fit (HNa.out _);rintro e w2⟨rfl,hB⟩;obtain⟨hcl,_⟩:=qaC hB;(have q1:=hcl w.heap.size 1 (by simp)))|(go_fit (HSu.out _);rintro e w3⟨rfl,hB3⟩))
    go_meet;first|exact⟨rfl,zB.step (wx:=w.alloc _) ⟨Xb.alloc Xl _,by simp,by simp[qG]⟩ hB⟩|exact⟨rfl,zB.step (zB.step (wx:=w.alloc _) ⟨Xb.alloc Xl _,by simp,by simp[qG]⟩ hB) hB3⟩
  case rest =>
   obtain⟨rfl,BX⟩:=hcut;clear hbad HNa HSu he;obtain⟨q0,q1,q2,q3,q4,q5⟩:=qM BX;go_wp2_with fail;go_loopw [29] (fun x wr=>∃k,k<=faces.length/\Hid (Qf ZC (faces.take k) (faces.drop k)=Qf ZC [] faces)/\zB w wr [.string name,.string super,.slice pf faces.length capf,.bool face,.slice pd fields.length capd,.slice pm methods.length capm]/\x=.int .i64 k) (fun x _=>faces.length-(intOf x).toNat)
   case atStart=>exact⟨0,by omega,rfl,BX,rfl⟩
   case round =>
    obtain⟨k,hk,hff,BX,rfl⟩:=hrel;clear q0 q1 q2 q3 q4 q5;obtain⟨q0,q1,q2,q3,q4,q5⟩:=qM BX;have hlen:faces.length<=9223372036854775807:=Xf hf1 hf2;by_cases hkl:k<faces.length
    ·obtain⟨x,hx⟩:∃x,faces[k]? = some x:=⟨faces[k],by simp[hkl]⟩;have hxs:=HO.out.faces x (Xe hx);obtain⟨b,o,vs,rfl,rfl,_,qc⟩:=HFC.out k x hx;have qc:=qc.mono BX.below qc.lt;have Zc:=zR ZC faces k x hx;rw[hff.out]at Zc;have HN:Hid (∀wx,_):=fun wx=>ZQ x wx (Xf hxs (by decide))
     rw[zbD]at HN;have hct:∀wx,Below w.heap.size w wx->_:=fun wx hb=>qan (faces.take k) (.slice (some ⟨b,o,none⟩) k capf) x wx ((Qg.take HFS.out rfl rfl hk).mono hb (by decide) (fun _ _ h=>h))
     have HC:=Xh hct;have HX:=Xh hx;clear hx hct hxs;rw[show ZC x (faces.take k)=if !Qt (lst x) then 1 else if ZL (faces.take k) x then 5 else 0 from rfl]at Zc;obtain⟨c0,_⟩:=qc;rw[Nat.mul_one]at c0;generalize ZL (faces.take k) x=km at *;generalize Qt (lst x)=kx at *;cases kx with
     |false =>
      replace Zc:Qf ZC [] faces=1:=Zc;have hfin:Hid (v=.iface 29 (.int .i64 1)):=(by rw[HF.out,if_pos (by rw[Zc];decide),Zc];rfl);simp only[if_false,Bool.false_eq_true]at HN;clear HF Zc hff HC;go_wp2_with (first|(go_fit (HN.out _);rintro e w2⟨rfl,hB⟩))
      cases hfin.out;go_ret;exact⟨rfl,(BX.step hB).below⟩
     |true =>
      simp only[if_true]at HN;go_upto_region 8 with(go_fit (HN.out _);rintro e w2⟨rfl,hB⟩)
      replace BX:=BX.step hB;clear q0 q1 q2 q3 q4 q5 hB;obtain⟨q0,q1,q2,q3,q4,q5⟩:=qM BX;cases km with
      |true =>
       replace Zc:Qf ZC [] faces=5:=Zc;have hfin:Hid (v=.iface 29 (.int .i64 5)):=(by rw[HF.out,if_pos (by rw[Zc];decide),Zc];rfl);clear HF Zc hff;go_wp2_with (first|(go_fit (HC.out _ BX.below);rintro e w3⟨rfl,rfl⟩))
       cases hfin.out;go_ret;exact⟨rfl,BX.below⟩
      |false =>
       have hst:=Xh Zc.symm;clear HF Zc hff;go_wp2_with (first|(go_fit (HC.out _ BX.below);rintro e w3⟨rfl,rfl⟩))
       exact⟨⟨k+1,by omega,hst.out,BX,by simp⟩,by simp[intOf];omega⟩
    ·have hff0:Hid (Qf ZC [] faces=0):=by
      rw[<-hff.out,Xg (by omega)];rfl
     clear hff;obtain rfl:k=faces.length:=(by omega);rw[if_neg (by rw[hff0.out];decide)]at HF;clear HFC HFS hff0;by_cases hmx:8<faces.length\/8<fields.length\/8<methods.length
     ·have hfin:Hid (v=.iface 29 (.int .i64 4)):=(by rw[HF.out,if_pos hmx];rfl);clear HF;go_wp2_with fail;all_goals first|(exfalso;omega)|skip
      all_goals
       cases hfin.out;go_ret;exact⟨rfl,BX.below⟩
     ·rw[if_neg hmx]at HF;simp only[not_or,Nat.not_lt]at hmx;obtain⟨m1,m2,m3⟩:=hmx;go_upto_region 11 with fail;go_cut [56] (fun s wx=>s=.bool false/\wx=wr)
      case first =>
       clear HF;go_wp2_with fail;all_goals first|(exfalso;omega)|skip
       all_goals
        go_meet;exact⟨by simp;omega,rfl⟩
      case rest =>
      obtain⟨rfl,rfl⟩:=hcut;go_wp2_with fail;go_loopw [61] (fun x wr=>∃k,k<=fields.length/\Hid (Qf qs (fields.take k) (fields.drop k)=Qf qs [] fields)/\zB w wr [.string name,.string super,.slice pf faces.length capf,.bool face,.slice pd fields.length capd,.slice pm methods.length capm]/\x=.int .i64 k) (fun x _=>fields.length-(intOf x).toNat)
      case atStart=>exact⟨0,by omega,rfl,BX,rfl⟩
      case round =>
       obtain⟨k,hk,hff,BX,rfl⟩:=hrel;clear q0 q1 q2 q3 q4 q5;obtain⟨q0,q1,q2,q3,q4,q5⟩:=qM BX;have hlen:fields.length<=9223372036854775807:=Xf hd1 hd2;by_cases hkl:k<fields.length
       ·obtain⟨x,hx⟩:∃x,fields[k]? = some x:=⟨fields[k],by simp[hkl]⟩;have hxs:=HO.out.fields x (Xe hx);obtain⟨b,o,vs,rfl,rfl,_,qc⟩:=HDC.out k x hx;have qc:=qc.mono BX.below qc.lt;have Zc:=zR qs fields k x hx;rw[hff.out,show qs x (fields.take k)=if !Qt (lst x.name)||!Qs (lst x.type) then 1 else if (fields.take k).any fun y=>decide (y.name=x.name) then 5 else 0 from rfl]at Zc;have HN:Hid (∀wx,_):=fun wx=>ZQ x.name wx (Xf hxs.1 (by decide))
        have HT:Hid (∀wx,_):=fun wx=>Zav x.type wx (Xf hxs.2 (by decide))
        rw[zbD]at HN;rw[zck]at HT;have HA:Hid (∀wx,zB wr wx [.string x.name,.string x.type]->Calls Tryz.prog 120 #[.slice (some ⟨b,o,none⟩) k capd,.func (.func 121) #[] #[.pointer (some ⟨wr.heap.size,0,none⟩)]] wx fun e w'=>e=.returned (.bool ((fields.take k).any fun y=>decide (y.name=x.name)))/\Below wx.heap.size wx w'):=by
         intro wx BY;refine zce ZE (fun y=>decide (y.name=x.name)) 121 _ (enters_of Tryz.func121 (by kernel_rfl) rfl) (fields.take k) _ wx ((Qg.take HDS.out rfl rfl hk).mono (BX.step BY.below).below (by decide) (fun _ _ h=>h)) ?_;rintro W y a0 a1 hy hh hW;unfold ZE at hh;simp only[List.cons.injEq]at hh;obtain⟨rfl,rfl,_⟩:=hh;show Calls Tryz.prog 121 #[.agg #[.string y.name,.string y.type],.pointer (some ⟨wr.heap.size,0,none⟩)] W _
         exact zc2 y _ _ W (Nat.lt_of_lt_of_le BY.size hW.size) ((hW.cell (p:=⟨_,0,none⟩) BY.size).trans (Qej BY).1)
        have HX:=Xh hx;clear hx hxs;obtain⟨c0,c1,_⟩:=qc;have hszw:=BX.size;generalize ((fields.take k).any fun y=>decide (y.name=x.name))=km at *;generalize Qt (lst x.name)=kx at *;generalize Qs (lst x.type)=kt at *;cases kx with
        |false =>
         replace Zc:Qf qs [] fields=1:=Zc;have hfin:Hid (v=.iface 29 (.int .i64 1)):=(by rw[HF.out,if_pos (by rw[Zc];decide),Zc];rfl);simp only[if_false,Bool.false_eq_true]at HN;clear HF Zc hff HA HT;go_wp2_with (first|(go_fit (HN.out _);rintro e w2⟨rfl,hB⟩))
         cases hfin.out;go_ret;exact⟨rfl,((BX.alloc _).step hB).below⟩
        |true =>
         simp only[if_true]at HN;cases kt with
         |false =>
          replace Zc:Qf qs [] fields=1:=Zc;have hfin:Hid (v=.iface 29 (.int .i64 1)):=(by rw[HF.out,if_pos (by rw[Zc];decide),Zc];rfl);simp only[if_false,Bool.false_eq_true]at HT;clear HF Zc hff HA;go_wp2_with (first|(go_fit (HN.out _);rintro e w2⟨rfl,hB⟩;obtain⟨hcl,_⟩:=qaC hB;(have r1:=hcl wr.heap.size 1 (by simp)))|(go_fit (HT.out _);rintro e w3⟨rfl,hB3⟩))
          cases hfin.out;go_ret;exact⟨rfl,(((BX.alloc _).step hB).step hB3).below⟩
         |true =>
          simp only[if_true]at HT;go_upto_region 18 with(first|(go_fit (HN.out _);rintro e w2⟨rfl,hB⟩;obtain⟨hcl,_⟩:=qaC hB;(have r1:=hcl wr.heap.size 1 (by simp)))|(go_fit (HT.out _);rintro e w3⟨rfl,hB3⟩))
          have BY:zB wr w3 [.string x.name,.string x.type]:=zB.step (zB.step (wx:=wr.alloc _) ⟨Xb.alloc Xl _,by simp,by simp[qG]⟩ hB) hB3;replace BX:=BX.step BY.below;clear q0 q1 q2 q3 q4 q5 r1 hcl hB hB3;obtain⟨q0,q1,q2,q3,q4,q5⟩:=qM BX;cases km with
          |true =>
           replace Zc:Qf qs [] fields=5:=Zc;have hfin:Hid (v=.iface 29 (.int .i64 5)):=(by rw[HF.out,if_pos (by rw[Zc];decide),Zc];rfl);clear HF Zc hff;go_wp2_with (first|(go_fit (HA.out _ BY);rintro e w4⟨rfl,hB4⟩))
           cases hfin.out;go_ret;exact⟨rfl,(BX.step hB4).below⟩
          |false =>
           have hst:=Xh Zc.symm;clear HF Zc hff;go_wp2_with (first|(go_fit (HA.out _ BY);rintro e w4⟨rfl,hB4⟩))
           exact⟨⟨k+1,by omega,hst.out,BX.step hB4,by simp⟩,by simp[intOf];omega⟩
       ·have hff0:Hid (Qf qs [] fields=0):=by
         rw[<-hff.out,Xg (by omega)];rfl
        clear hff;obtain rfl:k=fields.length:=(by omega);rw[if_neg (by rw[hff0.out];decide)]at HF;clear HDC HDS hff0;go_wp2_with fail;go_loopw [88] (fun x wr=>∃k,k<=methods.length/\Hid (Qf qq (methods.take k) (methods.drop k)=Qf qq [] methods)/\zB w wr [.string name,.string super,.slice pf faces.length capf,.bool face,.slice pd fields.length capd,.slice pm methods.length capm]/\x=.int .i64 k) (fun x _=>methods.length-(intOf x).toNat)
        case atStart=>exact⟨0,by omega,rfl,BX,rfl⟩
        case round =>
         obtain⟨k,hk,hff,BX,rfl⟩:=hrel;clear q0 q1 q2 q3 q4 q5;obtain⟨q0,q1,q2,q3,q4,q5⟩:=qM BX;have hlen:methods.length<=9223372036854775807:=Xf hm1 hm2;by_cases hkl:k<methods.length
         ·obtain⟨x,hx⟩:∃x,methods[k]? = some x:=⟨methods[k],by simp[hkl]⟩;have hxs:=HO.out.methods x (Xe hx);obtain⟨b,o,vs,rfl,⟨cv,hv,rfl,hcv,hhv⟩,_,qc⟩:=HMC.out k x hx;have qc:=qc.mono BX.below qc.lt;have Zc:=zR qq methods k x hx;rw[hff.out]at Zc;obtain⟨pc,cc,rfl,hc1,hc2,_⟩:=hcv.open;obtain⟨ph,ch,rfl,hh1,hh2,_⟩:=hhv.open;have hct:∀wx,Below w.heap.size w wx->_:=fun wx hb=>Zc2 x _ _ (methods.take k) (.slice (some ⟨b,o,none⟩) k capm) wx (HL.out wx hb) hxs (hcv.mono hb (by decide) (fun _ _ h=>h)) (hhv.mono hb (by decide) (fun _ _ h=>h)) ((Qg.take HMS.out rfl rfl hk).mono hb (by decide) (fun _ _ h=>h.mono hb)) _ rfl
          have HX:=Xh hx;clear hx hxs hcv hhv;obtain⟨c0,c1,c2,c3,c4,c5,c6,c7,_⟩:=qc;unfold qQ at hct;generalize qq x (methods.take k)=fx at *;rcases QI fx with⟨hv0,hz⟩|⟨hv0,hz⟩
          ·rw[if_pos hz]at Zc;rw[hv0]at hct;have hst:=Xh Zc.symm;have HC:=Xh hct;clear hct Zc HF hff hv0 hz;have hszw:=BX.size;go_upto_region 24 with fail;have BY:zB wr (wr.alloc (.cells #[.string x.name,.string x.type,.bool x.static,.bool x.abs,.bool x.priv,.int .i64 x.locals,.slice pc x.code.length cc,.slice ph x.handlers.length ch] 53)) [.string x.name,.string x.type,.bool x.static,.bool x.abs,.bool x.priv,.int .i64 x.locals,.slice pc x.code.length cc,.slice ph x.handlers.length ch]:=⟨Xb.alloc Xl _,by simp,by simp[qG]⟩;generalize wr.alloc (.cells #[.string x.name,.string x.type,.bool x.static,.bool x.abs,.bool x.priv,.int .i64 x.locals,.slice pc x.code.length cc,.slice ph x.handlers.length ch] 53)=w3 at *;obtain⟨r0,r1,r2,r3,r4,r5,r6,r7⟩:=qah BY;replace BX:=BX.step BY.below;clear q0 q1 q2 q3 q4 q5 c0 c1 c2 c3 c4 c5 c6 c7;obtain⟨q0,q1,q2,q3,q4,q5⟩:=qM BX;go_cut [9] (fun s wx=>s=.nilIface/\zB w wx [.string name,.string super,.slice pf faces.length capf,.bool face,.slice pd fields.length capd,.slice (some ⟨b,o,none⟩) methods.length capm])
           case first =>
            go_region_with (go_fit (HC.out _ BX.drew.below);rintro e w4⟨rfl,hB4⟩)
            all_goals
             go_wp2
             go_meet;exact⟨rfl,BX.drew.step hB4⟩
           case rest =>
            obtain⟨rfl,BX⟩:=hcut;go_wp2_with fail;exact⟨⟨k+1,by omega,hst.out,BX,by simp⟩,by simp[intOf];omega⟩
          ·rw[if_neg hz]at Zc;rw[hv0]at hct;have hfin:Hid (v=.iface 29 (.int .i64 fx)):=(by rw[HF.out,if_pos (by rw[Zc];exact hz),Zc];exact hv0);have HC:=Xh hct;clear hct Zc HF hff hv0 hz;have hszw:=BX.size;go_upto_region 24 with fail;have BY:zB wr (wr.alloc (.cells #[.string x.name,.string x.type,.bool x.static,.bool x.abs,.bool x.priv,.int .i64 x.locals,.slice pc x.code.length cc,.slice ph x.handlers.length ch] 53)) [.string x.name,.string x.type,.bool x.static,.bool x.abs,.bool x.priv,.int .i64 x.locals,.slice pc x.code.length cc,.slice ph x.handlers.length ch]:=⟨Xb.alloc Xl _,by simp,by simp[qG]⟩;generalize wr.alloc (.cells #[.string x.name,.string x.type,.bool x.static,.bool x.abs,.bool x.priv,.int .i64 x.locals,.slice pc x.code.length cc,.slice ph x.handlers.length ch] 53)=w3 at *;obtain⟨r0,r1,r2,r3,r4,r5,r6,r7⟩:=qah BY;replace BX:=BX.step BY.below;clear q0 q1 q2 q3 q4 q5 c0 c1 c2 c3 c4 c5 c6 c7;obtain⟨q0,q1,q2,q3,q4,q5⟩:=qM BX;go_cut [9] (fun s wx=>s=.iface 29 (.int .i64 fx)/\zB w wx [.string name,.string super,.slice pf faces.length capf,.bool face,.slice pd fields.length capd,.slice (some ⟨b,o,none⟩) methods.length capm])
           case first =>
            go_region_with (go_fit (HC.out _ BX.drew.below);rintro e w4⟨rfl,hB4⟩)
            all_goals
             go_wp2
             go_meet;exact⟨rfl,BX.drew.step hB4⟩
           case rest =>
            obtain⟨rfl,BX⟩:=hcut;go_wp2_with fail;cases hfin.out;go_ret;exact⟨rfl,BX.below⟩
         ·have hff0:Hid (Qf qq [] methods=0):=by
           rw[<-hff.out,Xg (by omega)];rfl
          clear hff;obtain rfl:k=methods.length:=(by omega);rw[if_neg (by rw[hff0.out];decide)]at HF;clear HMC HMS hff0;cases face with
          |false =>
           have hfin:Hid (v=.nilIface):=(by rw[HF.out];rfl);clear HF;go_wp2_with fail;cases hfin.out;go_ret;exact⟨rfl,BX.below⟩
          |true =>
           cases fields with
           |nil =>
            have hfin:Hid (v=.nilIface):=(by rw[HF.out];rfl);clear HF;go_wp2_with fail;cases hfin.out;go_ret;exact⟨rfl,BX.below⟩
           |cons y r =>
            have hfin:Hid (v=.iface 29 (.int .i64 8)):=(by rw[HF.out];rfl);have hl:0<(y::r).length:=(by simp);clear HF;generalize (y::r).length=n at *;go_wp2_with fail;all_goals first|(exfalso;omega)|skip
            cases hfin.out;go_ret;exact⟨rfl,BX.below⟩
set_option maxRecDepth 512
end Go.Proofs.YtlmfmioljeppfaaGreatDoor
