/- Lemmas; conditions: as each states. -/
import Derived.Test.YtlmfmioljeppfaaGreatDoorRefFault
set_option maxHeartbeats 4000000
namespace Go.Proofs.YtlmfmioljeppfaaGreatDoor
open Go.RowKit Go.Shelf Go.Lib
theorem Qde(x:Ins)(w:World)(hs:QaK x):Calls Tryz.prog 13 #[ZW x] w fun e w'=>e=.returned (.int .i64 (Zi x))/\Below w.heap.size w w':=by
 by_cases h:x.op<1\/28<x.op
 ·exact zdb x w h
 ·obtain⟨op,a,b,type,cls,name⟩:=x;simp at h;exact QcS op a b type cls name w (by omega) (by omega) hs
theorem ZaF(n:Nat):((n:Int) != 0)=decide (n≠0):=by
 by_cases h:n=0
 ·subst h;rfl
 ·rw[Xj h];simpa using h
set_option maxRecDepth 100000
theorem qcV(l:List Ins)(cv:Value)(w:World)(hs:∀x∈l,QaK x)(h:Qg w 6 qy cv l):
 Calls Tryz.prog 116 #[cv] w fun e w'=>e=.returned (.int .i64 (qp l))/\Below w.heap.size w w':=by
 obtain⟨p,cap,rfl,hc1,hc2,hcc⟩:=h.open;have hlen:l.length<=9223372036854775807:=Xf hc1 hc2;by_cases h40:40<l.length
 ·have hf:Hid (qp l=4):=by unfold Hid qp;rw[if_pos h40]
  clear h hcc hs;go_enter Tryz.func116,Tryz.ntmps116;go_wp2_with fail;all_goals first|(exfalso;omega)|skip
  go_ret;exact⟨by rw[hf.out];rfl,Xb⟩
 have HI:Hid (∀w2 x,x∈l->_):=fun w2 x hx=>Qde x w2 (hs x hx)
 have HC:=Xh hcc;have hcf:Hid (qp l=if Zh Zi l≠0 then Zh Zi l
  else if l.any fun x=>qC x.op&&decide ((l.length:Int)<=x.a) then 2
  else match l.getLast? with
   |some x=>if zan x.op then 0 else 8
   |none=>8):=by
  unfold Hid qp;rw[if_neg h40];rfl
 have HJ:Hid (∀op w,_):=fun op w=>qaA op w
 have HE:Hid (∀op w,_):=fun op w=>QbO op w
 clear h hcc hs;unfold ZW at HI;go_enter Tryz.func116,Tryz.ntmps116;go_wp2_with fail;all_goals first|(exfalso;omega)|skip
 go_loopw [3] (fun x wr=>∃k:Nat,k<=l.length/\Hid (Zh Zi (l.drop k)=Zh Zi l)/\Below w.heap.size w wr/\x=.int .i64 k) (fun x _=>l.length-(intOf x).toNat)
 case atStart=>exact⟨0,by omega,rfl,Xb,rfl⟩
 case round =>
  obtain⟨k,hk,hff,hB,rfl⟩:=hrel;by_cases hkl:k<l.length
  ·obtain⟨x,hx⟩:∃x,l[k]? = some x:=⟨l[k],by simp[hkl]⟩;obtain⟨b,o,vs,rfl,hR,_,qc⟩:=HC.out k x hx;unfold qy at hR;subst hR;have qc:=qc.mono hB qc.lt;have hxm:Hid (x∈l):=Xe hx;have Zc:=ZS Zi l k x hx;have HX:=Xh hx;clear hx;obtain⟨c0,c1,c2,c3,c4,c5,_⟩:=qc;have hI:=HI.out wr x hxm.out;have hnz:=ZaF (Zi x);rw[hff.out]at Zc;by_cases hz:Zi x=0
   ·rw[if_pos hz]at Zc;rw[hz]at hI;have H:=Xh hI;have hst:=Xh Zc.symm;clear Zc hI HI HC hcf hnz hz HJ HE;go_wp2_with (go_fit H.out;rintro e w2⟨rfl,hB2⟩)
    go_roundw;case rel=>exact⟨k+1,by omega,hst.out,Qa hB Xl hB2,by simp⟩
    case measure=>simp[intOf];omega
   ·rw[if_neg hz]at Zc;rw[Xj hz]at hnz;have hfin:Hid (qp l=Zi x):=(by unfold Hid;rw[hcf.out,Zc,if_pos hz]);have H:=Xh hI;clear Zc hI HI HC hcf HJ HE hff;generalize Zi x=fx at *;clear hz;go_wp2_with (go_fit H.out;rintro e w2⟨rfl,hB2⟩)
    go_ret;exact⟨by rw[hfin.out];rfl,Qa hB Xl hB2⟩
  ·have hff0:Hid (Zh Zi l=0):=by
    rw[<-hff.out,Xg (by omega)];rfl
   clear hff HI;obtain rfl:k=l.length:=(by omega);go_wp2_with fail;go_loopw [5] (fun x wr=>∃k:Nat,k<=l.length/\Hid (((l.drop k).any fun x=>qC x.op&&decide ((l.length:Int)<=x.a))=(l.any fun x=>qC x.op&&decide ((l.length:Int)<=x.a)))/\Below w.heap.size w wr/\x=.int .i64 k) (fun x _=>l.length-(intOf x).toNat)
   case atStart=>exact⟨0,by omega,rfl,hB,rfl⟩
   case round =>
    clear hB;obtain⟨k,hk,hff,hB,rfl⟩:=hrel;by_cases hkl:k<l.length
    ·obtain⟨x,hx⟩:∃x,l[k]? = some x:=⟨l[k],by simp[hkl]⟩;obtain⟨b,o,vs,rfl,hR,_,qc⟩:=HC.out k x hx;unfold qy at hR;subst hR;have qc:=qc.mono hB qc.lt;have Zc:=qai (fun x=>qC x.op&&decide ((l.length:Int)<=x.a)) l k x hx;rw[hff.out]at Zc;have hj:=HJ.out x.op;cases hjb:qC x.op with
     |false =>
      rw[hjb]at Zc hj;have hst:=Xh Zc;have HX:=Xh hx;clear hx Zc hcf HE HJ;have HJ:=Xh hj;clear hj;obtain⟨c0,c1,c2,c3,c4,c5,_⟩:=qc;go_wp2_with (go_fit (HJ.out _);rintro e w2⟨rfl,rfl⟩)
      go_roundw;case rel=>exact⟨k+1,by omega,by simpa[Hid] using hst.out.symm,hB,by simp⟩
      case measure=>simp[intOf];omega
     |true =>
      rw[hjb]at Zc hj;have hst:=Xh Zc;have HX:=Xh hx;clear hx Zc;have HJ2:=Xh hj;clear hj;obtain⟨c0,c1,c2,c3,c4,c5,_⟩:=qc;by_cases hge:(l.length:Int)<=x.a
      ·have hfin:Hid (qp l=2):=by
        unfold Hid;rw[hcf.out,if_neg (by rw[hff0.out];simp),if_pos (by rw[hst.out];simp;left;omega)]
       clear hcf HJ HE;go_wp2_with (go_fit (HJ2.out _);rintro e w2⟨rfl,rfl⟩)
       all_goals first|(exfalso;omega)|skip
       go_ret;exact⟨by rw[hfin.out];rfl,hB⟩
      ·have hst2:Hid (((l.drop (k+1)).any fun x=>qC x.op&&decide ((l.length:Int)<=x.a))=(l.any fun x=>qC x.op&&decide ((l.length:Int)<=x.a))):=by
        unfold Hid;rw[hst.out,Xi hge];simp
       clear hcf HJ HE hst;go_wp2_with (go_fit (HJ2.out _);rintro e w2⟨rfl,rfl⟩)
       all_goals first|(exfalso;omega)|skip
       go_roundw;case rel=>exact⟨k+1,by omega,hst2.out,hB,by simp⟩
       case measure=>simp[intOf];omega
    ·obtain rfl:k=l.length:=(by omega);have hno:Hid ((l.any fun x=>qC x.op&&decide ((l.length:Int)<=x.a))=false):=by
      rw[<-hff.out,Xg (by omega)];rfl
     clear hff HJ;by_cases h0:l.length=0
     ·have hz0:((l.length:Int)==0)=true:=(by rw[beq_iff_eq];omega);have hfin:Hid (qp l=8):=by
       obtain rfl:=List.length_eq_zero_iff.1 h0;rfl
      clear hcf HC HE;go_wp2_with fail;all_goals first|(exfalso;omega)|skip
      go_ret;exact⟨by rw[hfin.out];rfl,hB⟩
     ·have hz0:((l.length:Int)==0)=false:=(by rw[beq_eq_false_iff_ne];omega);obtain⟨z,hz⟩:∃z,l[l.length-1]? = some z:=⟨l[l.length-1],Xn (by omega)⟩;obtain⟨b,o,vs,rfl,hR,_,qc⟩:=HC.out _ z hz;unfold qy at hR;subst hR;have qc:=qc.mono hB qc.lt;obtain⟨c0,_⟩:=qc;have hfin:Hid (qp l=if zan z.op then 0 else 8):=by
       unfold Hid;rw[hcf.out,if_neg (by rw[hff0.out];simp),if_neg (by rw[hno.out];simp),List.getLast?_eq_getElem?,hz]
      have he:=HE.out z.op;clear hcf HC hz HE;cases hee:zan z.op with
      |true =>
       rw[hee]at he hfin;have H:=Xh he;clear he hee;go_wp2_with (go_fit (H.out _);rintro e w2⟨rfl,rfl⟩)
       all_goals first|(exfalso;omega)|skip
       go_ret;exact⟨by rw[hfin.out];rfl,hB⟩
      |false =>
       rw[hee]at he hfin;have H:=Xh he;clear he hee;go_wp2_with (go_fit (H.out _);rintro e w2⟨rfl,rfl⟩)
       all_goals first|(exfalso;omega)|skip
       go_ret;exact⟨by rw[hfin.out];rfl,hB⟩
set_option maxRecDepth 512
theorem Z8{s:ByteArray}(hs:s.size<=1048576){k:Bool}(hk:Qt (lst s)=k)(w:World):Calls Tryz.prog 45 #[.string s] w fun e w'=>e=.returned (.bool k)/\w=w':=by
 subst hk;exact qaF s w (zF (Xf hs (by decide)))
set_option maxRecDepth 100000
theorem QbR(l:List Q0)(hv:Value)(many:Nat)(w:World)(_hm:many<=9223372036854775807)(hs:∀x∈l,zaL x)(h:Qg w 4 qw hv l):
 Calls Tryz.prog 117 #[hv,.int .i64 many] w fun e w'=>e=.returned (.int .i64 (Zm l many))/\Below w.heap.size w w':=by
 obtain⟨p,cap,rfl,hc1,hc2,hcc⟩:=h.open;have hlen:l.length<=9223372036854775807:=Xf hc1 hc2;have HI:Hid (∀x k,x∈l->Qt (lst x.cls)=k->∀w,_):=fun x k hx hk w=>Z8 (hs x hx).cls hk w
 have HC:=Xh hcc;have hcf:Hid (Zm l many=if Zh (Zs many) l≠0 then Zh (Zs many) l else if 8<l.length then 4 else 0):=rfl;clear h hcc hs;go_enter Tryz.func117,Tryz.ntmps117;go_wp2_with fail;go_loopw [5] (fun x wr=>∃k:Nat,k<=l.length/\Hid (Zh (Zs many) (l.drop k)=Zh (Zs many) l)/\Below w.heap.size w wr/\x=.int .i64 k) (fun x _=>l.length-(intOf x).toNat)
 case atStart=>exact⟨0,by omega,rfl,Xb,rfl⟩
 case round =>
  obtain⟨k,hk,hff,hB,rfl⟩:=hrel;by_cases hkl:k<l.length
  ·obtain⟨x,hx⟩:∃x,l[k]? = some x:=⟨l[k],by simp[hkl]⟩;obtain⟨b,o,vs,rfl,hR,_,qc⟩:=HC.out k x hx;unfold qw at hR;subst hR;have qc:=qc.mono hB qc.lt;have hxm:Hid (x∈l):=Xe hx;have Zc:=ZS (Zs many) l k x hx;have HX:=Xh hx;clear hx;obtain⟨c0,c1,c2,c3,_⟩:=qc;rw[hff.out]at Zc;by_cases hbad:x.lo<0\/x.hi<=x.lo\/(many:Int)<x.hi\/x.dest<0\/(many:Int)<=x.dest
   ·have h2:Zs many x=2:=(by unfold Zs;rw[if_pos hbad]);rw[h2,if_neg (by decide)]at Zc;have hfin:Hid (Zm l many=2):=(by unfold Hid;rw[hcf.out,Zc,if_pos (by decide)]);have HB:=Xh hbad;clear Zc HC HI hcf hff h2 hbad;go_wp2_with fail;all_goals first|(exfalso;have:=HB.out;omega)|skip
    all_goals
     go_ret;exact⟨by rw[hfin.out];rfl,by first|exact hB|exact hB.alloc hB.size _⟩
   ·have h0:Zs many x=if Qt (lst x.cls) then 0 else 1:=(by unfold Zs;rw[if_neg hbad]);simp only[not_or,Int.not_lt,Int.not_le]at hbad;obtain⟨b1,b2,b3,b4,b5⟩:=hbad;cases hnb:Qt (lst x.cls) with
    |true =>
     rw[hnb,if_pos rfl]at h0;rw[h0,if_pos rfl]at Zc;have hst:=Xh Zc.symm;have H:=Xh (HI.out x _ hxm.out hnb);clear Zc HC HI hcf h0 hnb;go_wp2_with (go_fit (H.out _);rintro e w2⟨rfl,rfl⟩)
     all_goals first|(exfalso;omega)|skip
     go_roundw;case rel=>exact⟨k+1,by omega,hst.out,by first|exact hB|exact hB.alloc hB.size _,by simp⟩
     case measure=>simp[intOf];omega
    |false =>
     rw[hnb,if_neg (by decide)]at h0;rw[h0,if_neg (by decide)]at Zc;have hfin:Hid (Zm l many=1):=(by unfold Hid;rw[hcf.out,Zc,if_pos (by decide)]);have H:=Xh (HI.out x _ hxm.out hnb);clear Zc HC HI hcf h0 hnb hff;go_wp2_with (go_fit (H.out _);rintro e w2⟨rfl,rfl⟩)
     all_goals first|(exfalso;omega)|skip
     go_ret;exact⟨by rw[hfin.out];rfl,by first|exact hB|exact hB.alloc hB.size _⟩
  ·have hff0:Hid (Zh (Zs many) l=0):=by
    rw[<-hff.out,Xg (by omega)];rfl
   obtain rfl:k=l.length:=(by omega);by_cases h8:8<l.length
   ·have hfin:Hid (Zm l many=4):=(by unfold Hid;rw[hcf.out,hff0.out,if_neg (by decide),if_pos h8]);clear HC HI hcf hff;go_wp2_with fail;all_goals first|(exfalso;omega)|skip
    go_ret;exact⟨by rw[hfin.out];rfl,hB⟩
   ·have hfin:Hid (Zm l many=0):=(by unfold Hid;rw[hcf.out,hff0.out,if_neg (by decide),if_neg h8]);clear HC HI hcf hff;go_wp2_with fail;all_goals first|(exfalso;omega)|skip
    go_ret;exact⟨by rw[hfin.out];rfl,hB⟩
set_option maxRecDepth 512
theorem QaT(w:World)(m:Zk)(cv hv:Value)(t:TypeId):zB w (w.alloc (.cells #[.string m.name,.string m.type,.bool m.static,.bool m.abs,.bool m.priv,.int .i64 m.locals,cv,hv] t)) [.string m.name,.string m.type,.bool m.static,.bool m.abs,.bool m.priv,.int .i64 m.locals,cv,hv]:=ZY w _ _
theorem zB.drewN{w wx:World}{vals:List Value}(h:zB w wx vals)(n:Nat):zB w (wx.drewN n) vals:=h.step (below_drewN Xb n)
theorem zbS{m:Zk}{ahead:List Zk}(h:Qt (lst m.name)=false\/zm m.type=none):qq m ahead=1:=by
 unfold qq;by_cases hn:Qt (lst m.name)=false
 ·rw[if_pos (by rw[hn];rfl)]
 ·rw[if_neg (by simpa using hn)];rcases h with h|h
  ·exact absurd h hn
  ·rw[if_pos (by rw[h];rfl)]
set_option maxRecDepth 100000
theorem QcV(m:Zk)(cv hv av:Value)(ahead:List Zk)(w:World)(ho:z9 m)(hav:Qg w 8 (Zr w) av ahead)(h:Qt (lst m.name)=false\/zm m.type=none):
 Calls Tryz.prog 73 #[qQ m cv hv,av] w fun e w'=>e=.returned (.int .i64 (qq m ahead))/\Below w.heap.size w w':=by
 have hf:=Xh (zbS (ahead:=ahead) h);obtain⟨kn,hkn⟩:∃k,Qt (lst m.name)=k:=⟨_,rfl⟩;have HN:=Xh (Z8 (s:=m.name) ho.name hkn);obtain⟨pa,ca,rfl,_⟩:=hav.open;unfold qQ;cases hm:zm m.type with
 |none =>
  have HM:=Xh (qaH ho.type hm);have HB:Hid (∀w2,_->_):=fun w2=>(QaT w m cv hv 53).step (wy:=w2)
  clear ho hav h hkn hm;obtain⟨name,type,static,abs,priv,locals,code,handlers⟩:=m;dsimp only at *;cases kn;all_goals
   go_enter Tryz.func73,Tryz.ntmps73;go_wp2_with (first|(go_fit (HM.out _);rintro e w2⟨rfl,hB⟩;(have BX:=HB.out w2 hB);obtain⟨q0,q1,q2,q3,q4,q5,q6,q7⟩:=qah BX)|(go_fit (HN.out _);rintro e w3⟨rfl,rfl⟩))
   go_ret;exact⟨by rw[hf.out];rfl,BX.below⟩
 |some ag =>
  obtain⟨args,g⟩:=ag;have HM:=Xh (q8 ho.type hm);have HB:Hid (∀w2,_->_):=fun w2=>(QaT w m cv hv 53).step (wy:=w2)
  obtain rfl:kn=false:=by rw[<-hkn];rcases h with h|h;exact h;rw[hm]at h;cases h
  clear ho hav h hkn hm;obtain⟨name,type,static,abs,priv,locals,code,handlers⟩:=m;dsimp only at *;go_enter Tryz.func73,Tryz.ntmps73;go_wp2_with (first|(go_fit (HM.out _);rintro e w2⟨va,vc,rfl,hV,hB⟩;(have BX:=HB.out w2 hB);obtain⟨q0,q1,q2,q3,q4,q5,q6,q7⟩:=qah BX)|(go_fit (HN.out _);rintro e w3⟨rfl,rfl⟩))
  go_ret;exact⟨by rw[hf.out];rfl,BX.below⟩
set_option maxRecDepth 512
theorem zcW{m:Zk}{args:List ByteArray}{g:ByteArray}(h:zm m.type=some (args,g)):((if m.static then (args.length:Int) else args.length+1):Int)=Q3 m:=by
 rw[QaI h];split<;>simp
set_option maxRecDepth 100000
theorem ZcC(m:Zk)(cv hv av:Value)(ahead:List Zk)(w:World)(ho:z9 m)(hcv:Qg w 6 qy cv m.code)(hhv:Qg w 4 qw hv m.handlers)(hav:Qg w 8 (Zr w) av ahead)(args:List ByteArray)(g:ByteArray)(hkn:Qt (lst m.name)=true)(hm:zm m.type=some (args,g)):
 Calls Tryz.prog 73 #[qQ m cv hv,av] w fun e w'=>e=.returned (.int .i64 (qq m ahead))/\Below w.heap.size w w':=by
 have hf:Hid (qq m ahead=if ahead.any fun x=>decide (x.name=m.name)&&decide (x.type=m.type) then 5 else if m.locals<0\/8<m.locals then 2 else zY m):=by
  unfold Hid qq;rw[if_neg (by rw[hkn];decide),if_neg (by rw[hm];simp)]
 have HN:=Xh (Z8 (s:=m.name) ho.name hkn);have HM:=Xh (q8 ho.type hm);have HB:Hid (∀w2,_->_):=fun w2=>(QaT w m cv hv 53).step (wy:=w2)
 have HCo:Hid (∀wx,Below w.heap.size w wx->_):=fun wx hb=>qcV m.code cv wx ho.code (hcv.mono hb (by decide) (fun _ _ h=>h))
 obtain⟨p,cap,rfl,hc1,hc2,hcc⟩:=hcv.open;have HHa:Hid (∀wx,Below w.heap.size w wx->_):=fun wx hb=>QbR m.handlers hv m.code.length wx (Xf hc1 hc2) ho.handlers (hhv.mono hb (by decide) (fun _ _ h=>h))
 obtain⟨ph,cah,rfl,hd1,hd2,_⟩:=hhv.open;obtain⟨pa,caa,rfl,ha1,ha2,haa⟩:=hav.open;have HA:=Xh haa;have HC:=Xh hcc;have h5:=zU hm;have hac:=Xh (zcW hm);have hbf:Hid (zY m=if m.abs then (if m.static||m.priv||!m.code.isEmpty||!m.handlers.isEmpty then 8 else 0)
  else if qp m.code≠0 then qp m.code
  else if m.locals<Q3 m then 2
  else if m.code.any fun x=>(x.op==4||x.op==5)&&decide (m.locals<=x.a) then 2
  else Zm m.handlers m.code.length):=rfl
 have hal:ahead.length<=9223372036854775807:=Xf ha1 ha2;have hcl:m.code.length<=9223372036854775807:=Xf hc1 hc2;clear haa hcc ho hcv hhv hav hkn hm;generalize qq m ahead=res at *;generalize zY m=bf at *;generalize Q3 m=ac at *;unfold qQ;obtain⟨name,type,static,abs,priv,locals,code,handlers⟩:=m;dsimp only at *;go_enter Tryz.func73,Tryz.ntmps73;go_wp2_with (first|(go_fit (HM.out _);rintro e w2⟨va,vc,rfl,hV,hB⟩;(have BX:=HB.out w2 hB);obtain⟨q0,q1,q2,q3,q4,q5,q6,q7⟩:=qah BX)|(go_fit (HN.out _);rintro e w3⟨rfl,rfl⟩))
 clear hV hB HM HN HB q0 q1 q2 q3 q4 q5 q6 q7;go_loopw [8] (fun x wr=>∃k:Nat,k<=ahead.length/\Hid (((ahead.drop k).any fun x=>decide (x.name=name)&&decide (x.type=type))=(ahead.any fun x=>decide (x.name=name)&&decide (x.type=type)))/\zB w wr [.string name,.string type,.bool static,.bool abs,.bool priv,.int .i64 locals,.slice p code.length cap,.slice ph handlers.length cah]/\x=.int .i64 k) (fun x _=>ahead.length-(intOf x).toNat)
 case atStart=>exact⟨0,by omega,rfl,BX,rfl⟩
 case round =>
  clear BX;obtain⟨k,hk,hff,BX,rfl⟩:=hrel;obtain⟨q0,q1,q2,q3,q4,q5,q6,q7⟩:=qah BX;by_cases hkl:k<ahead.length
  ·obtain⟨x,hx⟩:∃x,ahead[k]? = some x:=⟨ahead[k],by simp[hkl]⟩;obtain⟨b,o,vs,rfl,hR,_,qc⟩:=HA.out k x hx;obtain⟨xcv,xhv,rfl,_,_⟩:=hR;have qc:=qc.mono BX.below qc.lt;obtain⟨c0,c1,_⟩:=qc;have Zc:=qai (fun x=>decide (x.name=name)&&decide (x.type=type)) ahead k x hx;rw[hff.out]at Zc;rw[<-Z5,<-Z5]at Zc;have HX:=Xh hx;clear hx;cases h1:x.name.toList==name.toList<;>cases h2:x.type.toList==type.toList
   case true.true =>
    rw[h1,h2]at Zc;have hfin:Hid (res=5):=(by unfold Hid;rw[hf.out,if_pos (by rw[Zc];rfl)]);clear Zc hf hbf hff HCo HHa HC HA;go_upto_region 7 with fail;go_quiet (fail);go_wp2
    go_ret;exact⟨by rw[hfin.out];rfl,(BX.drewN _).below⟩
   all_goals
    rw[h1,h2]at Zc;have hst:Hid (((ahead.drop (k+1)).any fun x=>decide (x.name=name)&&decide (x.type=type))=(ahead.any fun x=>decide (x.name=name)&&decide (x.type=type))):=by
     unfold Hid;rw[Zc];simp
    clear Zc hf hbf hff HCo HHa HC HA;go_upto_region 7 with fail;go_quiet (fail);go_wp2
    go_roundw;case rel=>exact⟨k+1,by omega,hst.out,BX.drewN _,by simp⟩
    case measure=>simp[intOf];omega
  ·obtain rfl:k=ahead.length:=(by omega);have hno:Hid ((ahead.any fun x=>decide (x.name=name)&&decide (x.type=type))=false):=by
    unfold Hid;rw[<-hff.out,Xg Xl];rfl
   have hf2:Hid (res=if locals<0\/8<locals then 2 else bf):=(by unfold Hid;rw[hf.out,if_neg (by rw[hno.out];decide)]);clear hf hno hff HA;by_cases hlo:locals<0\/8<locals
   ·have hfin:Hid (res=2):=(by unfold Hid;rw[hf2.out,if_pos hlo]);clear hf2 hbf HCo HHa HC;go_wp2_with fail;all_goals first|(exfalso;omega)|skip
    all_goals
     go_ret;exact⟨by rw[hfin.out];rfl,BX.below⟩
   ·have hf3:Hid (res=bf):=(by unfold Hid;rw[hf2.out,if_neg hlo]);clear hf2;simp only[not_or,Int.not_lt]at hlo;obtain⟨hlo1,hlo2⟩:=hlo;cases abs with
    |true =>
     have hfin:Hid (res=if (static||priv||!code.isEmpty||!handlers.isEmpty)=true then 8 else 0):=(by unfold Hid;rw[hf3.out,hbf.out,if_pos rfl]);clear hf3 hbf HCo HHa HC;cases static with
     |true =>
      have hfin2:Hid (res=8):=(by unfold Hid;rw[hfin.out];rfl);go_wp2_with fail;all_goals first|(exfalso;omega)|skip
      go_ret;exact⟨by rw[hfin2.out];rfl,BX.below⟩
     |false =>
      cases priv with
      |true =>
       have hfin2:Hid (res=8):=(by unfold Hid;rw[hfin.out];rfl);go_wp2_with fail;all_goals first|(exfalso;omega)|skip
       go_ret;exact⟨by rw[hfin2.out];rfl,BX.below⟩
      |false =>
       cases code with
       |cons y r =>
        have hfin2:Hid (res=8):=(by unfold Hid;rw[hfin.out];rfl);have hl:0<(y::r).length:=(by simp);generalize (y::r).length=n at *;go_wp2_with fail;all_goals first|(exfalso;omega)|skip
        go_ret;exact⟨by rw[hfin2.out];rfl,BX.below⟩
       |nil =>
        cases handlers with
        |cons y r =>
         have hfin2:Hid (res=8):=(by unfold Hid;rw[hfin.out];rfl);have hl:0<(y::r).length:=(by simp);generalize (y::r).length=n at *;go_wp2_with fail;all_goals first|(exfalso;omega)|skip
         go_ret;exact⟨by rw[hfin2.out];rfl,BX.below⟩
        |nil =>
         have hfin2:Hid (res=0):=(by unfold Hid;rw[hfin.out];rfl);go_wp2_with fail;all_goals first|(exfalso;omega)|skip
         go_ret;exact⟨by rw[hfin2.out];rfl,BX.below⟩
    |false =>
     have hf4:Hid (res=if qp code≠0 then qp code
      else if locals<ac then 2
      else if code.any fun x=>(x.op==4||x.op==5)&&decide (locals<=x.a) then 2
      else Zm handlers code.length):=by unfold Hid;rw[hf3.out,hbf.out,if_neg (by decide)]
     clear hf3 hbf;have hCo:=HCo.out _ BX.below;have hnz:=ZaF (qp code);by_cases hz:qp code=0
     ·rw[hz]at hCo hf4;rw[if_neg (by decide)]at hf4;have HC2:=Xh hCo;clear hCo HCo hz hnz;by_cases hla:locals<ac
      ·rw[if_pos hla]at hf4;clear HHa HC;cases static;all_goals
        have hac2:=hac.out;simp at hac2;have ha1:=Int.le_of_eq hac2;have ha2:=Int.le_of_eq hac2.symm;clear hac2 hac;go_wp2_with (go_fit HC2.out;rintro e w4⟨rfl,hB4⟩;(have BX4:=BX.step hB4);obtain⟨r0,r1,r2,r3,r4,r5,r6,r7⟩:=qah BX4)
        all_goals first|(exfalso;omega)|skip
        go_ret;exact⟨by rw[hf4.out];rfl,BX4.below⟩
      ·rw[if_neg hla]at hf4;have hfin:Hid (∀b,(code.any fun x=>(x.op==4||x.op==5)&&decide (locals<=x.a))=b->res=if b then 2 else Zm handlers code.length):=fun b hb=>by rw[hf4.out,hb]
       clear hf4;cases static;all_goals
        have hac2:=hac.out;simp at hac2;have ha1:=Int.le_of_eq hac2;have ha2:=Int.le_of_eq hac2.symm;clear hac2 hac;go_wp2_with (go_fit HC2.out;rintro e w4⟨rfl,hB4⟩;(have BX4:=BX.step hB4);obtain⟨r0,r1,r2,r3,r4,r5,r6,r7⟩:=qah BX4)
        all_goals first|(exfalso;omega)|skip
        clear HC2 hB4 BX q0 q1 q2 q3 q4 q5 q6 q7 r0 r1 r2 r3 r4 r5 r6 r7;go_loopw [11] (fun x wr=>∃k:Nat,k<=code.length/\Hid (((code.drop k).any fun x=>(x.op==4||x.op==5)&&decide (locals<=x.a))=(code.any fun x=>(x.op==4||x.op==5)&&decide (locals<=x.a)))/\zB w wr [.string name,.string type,.bool _,.bool false,.bool priv,.int .i64 locals,.slice p code.length cap,.slice ph handlers.length cah]/\x=.int .i64 k) (fun x _=>code.length-(intOf x).toNat)
        case atStart=>exact⟨0,by omega,rfl,BX4,rfl⟩
        case round =>
         clear BX4;obtain⟨k,hk,hff,BX,rfl⟩:=hrel;obtain⟨q0,q1,q2,q3,q4,q5,q6,q7⟩:=qah BX;by_cases hkl:k<code.length
         ·obtain⟨x,hx⟩:∃x,code[k]? = some x:=⟨code[k],by simp[hkl]⟩;obtain⟨b,o,vs,rfl,hR,_,qc⟩:=HC.out k x hx;unfold qy at hR;subst hR;have qc:=qc.mono BX.below qc.lt;have Zc:=qai (fun x=>(x.op==4||x.op==5)&&decide (locals<=x.a)) code k x hx;rw[hff.out]at Zc;have HX:=Xh hx;clear hx;obtain⟨c0,c1,c2,c3,c4,c5,_⟩:=qc;obtain⟨k4,h4⟩:∃k,(x.op==4)=k:=⟨_,rfl⟩;obtain⟨k5,h5⟩:∃k,(x.op==5)=k:=⟨_,rfl⟩;obtain⟨ka,ha⟩:∃k,decide (locals<=x.a)=k:=⟨_,rfl⟩;rw[h4,h5,ha]at Zc;cases hls:(k4||k5)&&ka with
          |true =>
           rw[hls,Bool.true_or]at Zc;have hfin2:Hid (res=2):=hfin.out _ Zc;have HL:=Xh hls;clear hls Zc hfin HHa hff;cases k4<;>cases k5<;>cases ka<;>try (exact absurd HL.out (by decide))
           all_goals
            clear HL;go_upto_region 26 with fail;go_quiet (fail);go_wp2
            go_ret;exact⟨by rw[hfin2.out];rfl,(BX.drewN _).below⟩
          |false =>
           rw[hls,Bool.false_or]at Zc;have HL:=Xh hls;have hst:=Xh Zc.symm;clear hls Zc hfin HHa;cases k4<;>cases k5<;>cases ka<;>try (exact absurd HL.out (by decide))
           all_goals
            clear HL;go_upto_region 26 with fail;go_quiet (fail);go_wp2
            go_roundw;case rel=>exact⟨k+1,by omega,hst.out,BX.drewN _,by simp⟩
            case measure=>simp[intOf];omega
         ·obtain rfl:k=code.length:=(by omega);have hno:(code.any fun x=>(x.op==4||x.op==5)&&decide (locals<=x.a))=false:=by
           rw[<-hff.out,Xg Xl];rfl
          have hfin2:Hid (res=Zm handlers code.length):=hfin.out _ hno;have H:=Xh (HHa.out _ BX.below);clear hno hfin hff HHa HC;go_wp2_with (go_fit H.out;rintro e w5⟨rfl,hB5⟩)
          go_ret;exact⟨by rw[hfin2.out];rfl,(BX.step hB5).below⟩
     ·rw[if_pos hz]at hf4;rw[Xj hz]at hnz;have HC2:=Xh hCo;clear hCo HCo;generalize qp code=cf at *;clear hz;go_wp2_with (go_fit HC2.out;rintro e w4⟨rfl,hB4⟩;(have BX4:=BX.step hB4);obtain⟨r0,r1,r2,r3,r4,r5,r6,r7⟩:=qah BX4)
      all_goals first|(exfalso;omega)|skip
      go_ret;exact⟨by rw[hf4.out];rfl,BX4.below⟩
set_option maxRecDepth 512
theorem qcS(m:Zk)(cv hv av:Value)(ahead:List Zk)(w:World)(ho:z9 m)(hcv:Qg w 6 qy cv m.code)(hhv:Qg w 4 qw hv m.handlers)(hav:Qg w 8 (Zr w) av ahead):
 Calls Tryz.prog 73 #[qQ m cv hv,av] w fun e w'=>e=.returned (.int .i64 (qq m ahead))/\Below w.heap.size w w':=by
 by_cases h:Qt (lst m.name)=false\/zm m.type=none
 ·exact QcV m cv hv av ahead w ho hav h
 ·simp only[not_or]at h;obtain⟨h1,h2⟩:=h;cases hm:zm m.type with
  |none=>exact absurd hm h2
  |some ag=>exact ZcC m cv hv av ahead w ho hcv hhv hav ag.1 ag.2 (by simpa using h1) hm
end Go.Proofs.YtlmfmioljeppfaaGreatDoor
