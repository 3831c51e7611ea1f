/- Lemmas; conditions: as each states. -/
import Derived.Test.YtlmfmioljeppfaaGreatDoorRefFault
set_option maxHeartbeats 4000000
namespace Go.Proofs.YtlmfmioljeppfaaGreatDoor
open Go.RowKit Go.Shelf Go.Lib
theorem Zdj(x:Ins)(w:World)(hs:qaL x):Calls Tryz.prog 13 #[ZW x] w fun e w'=>e=.returned (.int .i64 (Zi x))/\Below w.heap.size w w':=by
 by_cases h:x.op<1\/28<x.op
 ·exact qdf x w h
 ·obtain⟨C,a,b,A,cls,B⟩:=x;simp at h;exact QcV C a b A cls B w (by omega) (by omega) hs
theorem zaF(n:Nat):((n:Int) != 0)=decide (n≠0):=by
 by_cases h:n=0
 ·subst h;rfl
 ·rw[Xj h];simpa using h
set_option maxRecDepth 100000
theorem qcY(l:List Ins)(cv:Value)(w:World)(hs:∀x∈l,qaL x)(h:Zg w 6 Zw cv l):
 Calls Tryz.prog 116 #[cv] w fun e w'=>e=.returned (.int .i64 (qo l))/\Below w.heap.size w w':=by
 obtain⟨p,cap,rfl,t,v,U⟩:=h.open;have hlen:l.length<=9223372036854775807:=Xf t v;by_cases Z:40<l.length
 ·have hf:Hid (qo l=4):=by unfold Hid qo;rw[if_pos Z]
  clear h U hs;go_enter Tryz.func116,Tryz.ntmps116;go_wp2_with fail;all_goals first|(exfalso;omega)|skip
  go_ret;exact⟨by rw[hf.out];rfl,Xb⟩
 have c:Hid (∀N x,x∈l->_):=fun N x I=>Zdj x N (hs x I)
 have S:=Xh U;have B:Hid (qo l=if Zh Zi l≠0 then Zh Zi l
  else if l.any fun x=>zu x.op&&decide ((l.length:Int)<=x.a) then 2
  else match l.getLast? with
   |some x=>if Zad x.op then 0 else 8
   |none=>8):=by
  unfold Hid qo;rw[if_neg Z];rfl
 have L:Hid (∀m w,_):=fun m w=>qao m w
 have O:Hid (∀m w,_):=fun m w=>zbO m w
 clear h U hs;unfold ZW at c;go_enter Tryz.func116,Tryz.ntmps116;go_wp2_with fail;all_goals first|(exfalso;omega)|skip
 go_loopw [3] (fun x wr=>∃k:Nat,k<=l.length/\Hid (Zh Zi (l.drop k)=Zh Zi l)/\Below w.heap.size w wr/\x=.int .i64 k) (fun x _=>l.length-(intOf x).toNat)
 case atStart=>exact⟨0,by omega,rfl,Xb,rfl⟩
 case round =>
  obtain⟨k,hk,C,G,rfl⟩:=hrel;by_cases T:k<l.length
  ·obtain⟨x,I⟩:∃x,l[k]? = some x:=⟨l[k],by simp[T]⟩;obtain⟨b,o,vs,rfl,R,_,D⟩:=S.out k x I;unfold Zw at R;subst R;have D:=D.mono G D.lt;have n:Hid (x∈l):=Xe I;have E:=zU Zi l k x I;have HX:=Xh I;clear I;obtain⟨y,c1,c2,c3,c4,c5,_⟩:=D;have d:=c.out wr x n.out;have f:=zaF (Zi x);rw[C.out]at E;by_cases J:Zi x=0
   ·rw[if_pos J]at E;rw[J]at d;have H:=Xh d;have F:=Xh E.symm;clear E d c S B f J L O;go_wp2_with (go_fit H.out;rintro e N⟨rfl,V⟩)
    go_roundw;case rel=>exact⟨k+1,by omega,F.out,Qa G Xl V,by simp⟩
    case measure=>simp[intOf];omega
   ·rw[if_neg J]at E;rw[Xj J]at f;have A:Hid (qo l=Zi x):=(by unfold Hid;rw[B.out,E,if_pos J]);have H:=Xh d;clear E d c S B L O C;generalize Zi x=fx at *;clear J;go_wp2_with (go_fit H.out;rintro e N⟨rfl,V⟩)
    go_ret;exact⟨by rw[A.out];rfl,Qa G Xl V⟩
  ·have P:Hid (Zh Zi l=0):=by
    rw[<-C.out,Xg (by omega)];rfl
   clear C c;obtain rfl:k=l.length:=(by omega);go_wp2_with fail;go_loopw [5] (fun x wr=>∃k:Nat,k<=l.length/\Hid (((l.drop k).any fun x=>zu x.op&&decide ((l.length:Int)<=x.a))=(l.any fun x=>zu x.op&&decide ((l.length:Int)<=x.a)))/\Below w.heap.size w wr/\x=.int .i64 k) (fun x _=>l.length-(intOf x).toNat)
   case atStart=>exact⟨0,by omega,rfl,G,rfl⟩
   case round =>
    clear G;obtain⟨k,hk,C,G,rfl⟩:=hrel;by_cases T:k<l.length
    ·obtain⟨x,I⟩:∃x,l[k]? = some x:=⟨l[k],by simp[T]⟩;obtain⟨b,o,vs,rfl,R,_,D⟩:=S.out k x I;unfold Zw at R;subst R;have D:=D.mono G D.lt;have E:=qai (fun x=>zu x.op&&decide ((l.length:Int)<=x.a)) l k x I;rw[C.out]at E;have X:=L.out x.op;cases j:zu x.op with
     |false =>
      rw[j]at E X;have F:=Xh E;have HX:=Xh I;clear I E B O L;have L:=Xh X;clear X;obtain⟨y,c1,c2,c3,c4,c5,_⟩:=D;go_wp2_with (go_fit (L.out _);rintro e N⟨rfl,rfl⟩)
      go_roundw;case rel=>exact⟨k+1,by omega,by simpa[Hid] using F.out.symm,G,by simp⟩
      case measure=>simp[intOf];omega
     |true =>
      rw[j]at E X;have F:=Xh E;have HX:=Xh I;clear I E;have g:=Xh X;clear X;obtain⟨y,c1,c2,c3,c4,c5,_⟩:=D;by_cases q:(l.length:Int)<=x.a
      ·have A:Hid (qo l=2):=by
        unfold Hid;rw[B.out,if_neg (by rw[P.out];simp),if_pos (by rw[F.out];simp;left;omega)]
       clear B L O;go_wp2_with (go_fit (g.out _);rintro e N⟨rfl,rfl⟩)
       all_goals first|(exfalso;omega)|skip
       go_ret;exact⟨by rw[A.out];rfl,G⟩
      ·have i:Hid (((l.drop (k+1)).any fun x=>zu x.op&&decide ((l.length:Int)<=x.a))=(l.any fun x=>zu x.op&&decide ((l.length:Int)<=x.a))):=by
        unfold Hid;rw[F.out,Xi q];simp
       clear B L O F;go_wp2_with (go_fit (g.out _);rintro e N⟨rfl,rfl⟩)
       all_goals first|(exfalso;omega)|skip
       go_roundw;case rel=>exact⟨k+1,by omega,i.out,G,by simp⟩
       case measure=>simp[intOf];omega
    ·obtain rfl:k=l.length:=(by omega);have r:Hid ((l.any fun x=>zu x.op&&decide ((l.length:Int)<=x.a))=false):=by
      rw[<-C.out,Xg (by omega)];rfl
     clear C L;by_cases h0:l.length=0
     ·have s:((l.length:Int)==0)=true:=(by rw[beq_iff_eq];omega);have A:Hid (qo l=8):=by
       obtain rfl:=List.length_eq_zero_iff.1 h0;rfl
      clear B S O;go_wp2_with fail;all_goals first|(exfalso;omega)|skip
      go_ret;exact⟨by rw[A.out];rfl,G⟩
     ·have s:((l.length:Int)==0)=false:=(by rw[beq_eq_false_iff_ne];omega);obtain⟨z,J⟩:∃z,l[l.length-1]? = some z:=⟨l[l.length-1],Xn (by omega)⟩;obtain⟨b,o,vs,rfl,R,_,D⟩:=S.out _ z J;unfold Zw at R;subst R;have D:=D.mono G D.lt;obtain⟨y,_⟩:=D;have A:Hid (qo l=if Zad z.op then 0 else 8):=by
       unfold Hid;rw[B.out,if_neg (by rw[P.out];simp),if_neg (by rw[r.out];simp),List.getLast?_eq_getElem?,J]
      have Y:=O.out z.op;clear B S J O;cases M:Zad z.op with
      |true =>
       rw[M]at Y A;have H:=Xh Y;clear Y M;go_wp2_with (go_fit (H.out _);rintro e N⟨rfl,rfl⟩)
       all_goals first|(exfalso;omega)|skip
       go_ret;exact⟨by rw[A.out];rfl,G⟩
      |false =>
       rw[M]at Y A;have H:=Xh Y;clear Y M;go_wp2_with (go_fit (H.out _);rintro e N⟨rfl,rfl⟩)
       all_goals first|(exfalso;omega)|skip
       go_ret;exact⟨by rw[A.out];rfl,G⟩
set_option maxRecDepth 512
theorem z7{s:ByteArray}(hs:s.size<=1048576){k:Bool}(A:qt (lst s)=k)(w:World):Calls Tryz.prog 45 #[.string s] w fun e w'=>e=.returned (.bool k)/\w=w':=by
 subst A;exact ZaF s w (qF (Xf hs (by decide)))
set_option maxRecDepth 100000
theorem ZbR(l:List zM)(Y:Value)(A:Nat)(w:World)(_hm:A<=9223372036854775807)(hs:∀x∈l,QaL x)(h:Zg w 4 Qt Y l):
 Calls Tryz.prog 117 #[Y,.int .i64 A] w fun e w'=>e=.returned (.int .i64 (zl l A))/\Below w.heap.size w w':=by
 obtain⟨p,cap,rfl,V,X,R⟩:=h.open;have Z:l.length<=9223372036854775807:=Xf V X;have L:Hid (∀x k,x∈l->qt (lst x.cls)=k->∀w,_):=fun x k M d w=>z7 (hs x M).cls d w
 have N:=Xh R;have D:Hid (zl l A=if Zh (qr A) l≠0 then Zh (qr A) l else if 8<l.length then 4 else 0):=rfl;clear h R hs;go_enter Tryz.func117,Tryz.ntmps117;go_wp2_with fail;go_loopw [5] (fun x wr=>∃k:Nat,k<=l.length/\Hid (Zh (qr A) (l.drop k)=Zh (qr A) l)/\Below w.heap.size w wr/\x=.int .i64 k) (fun x _=>l.length-(intOf x).toNat)
 case atStart=>exact⟨0,by omega,rfl,Xb,rfl⟩
 case round =>
  obtain⟨k,d,F,G,rfl⟩:=hrel;by_cases T:k<l.length
  ·obtain⟨x,M⟩:∃x,l[k]? = some x:=⟨l[k],by simp[T]⟩;obtain⟨b,o,vs,rfl,f,_,S⟩:=N.out k x M;unfold Qt at f;subst f;have S:=S.mono G S.lt;have P:Hid (x∈l):=Xe M;have I:=zU (qr A) l k x M;have j:=Xh M;clear M;obtain⟨m,n,q,r,_⟩:=S;rw[F.out]at I;by_cases C:x.lo<0\/x.hi<=x.lo\/(A:Int)<x.hi\/x.dest<0\/(A:Int)<=x.dest
   ·have a:qr A x=2:=(by unfold qr;rw[if_pos C]);rw[a,if_neg (by decide)]at I;have B:Hid (zl l A=2):=(by unfold Hid;rw[D.out,I,if_pos (by decide)]);have g:=Xh C;clear I N L D F a C;go_wp2_with fail;all_goals first|(exfalso;have:=g.out;omega)|skip
    all_goals
     go_ret;exact⟨by rw[B.out];rfl,by first|exact G|exact G.alloc G.size _⟩
   ·have O:qr A x=if qt (lst x.cls) then 0 else 1:=(by unfold qr;rw[if_neg C]);simp only[not_or,Int.not_lt,Int.not_le]at C;obtain⟨s,t,v,y,z⟩:=C;cases E:qt (lst x.cls) with
    |true =>
     rw[E,if_pos rfl]at O;rw[O,if_pos rfl]at I;have U:=Xh I.symm;have H:=Xh (L.out x _ P.out E);clear I N L D O E;go_wp2_with (go_fit (H.out _);rintro e i⟨rfl,rfl⟩)
     all_goals first|(exfalso;omega)|skip
     go_roundw;case rel=>exact⟨k+1,by omega,U.out,by first|exact G|exact G.alloc G.size _,by simp⟩
     case measure=>simp[intOf];omega
    |false =>
     rw[E,if_neg (by decide)]at O;rw[O,if_neg (by decide)]at I;have B:Hid (zl l A=1):=(by unfold Hid;rw[D.out,I,if_pos (by decide)]);have H:=Xh (L.out x _ P.out E);clear I N L D O E F;go_wp2_with (go_fit (H.out _);rintro e i⟨rfl,rfl⟩)
     all_goals first|(exfalso;omega)|skip
     go_ret;exact⟨by rw[B.out];rfl,by first|exact G|exact G.alloc G.size _⟩
  ·have J:Hid (Zh (qr A) l=0):=by
    rw[<-F.out,Xg (by omega)];rfl
   obtain rfl:k=l.length:=(by omega);by_cases c:8<l.length
   ·have B:Hid (zl l A=4):=(by unfold Hid;rw[D.out,J.out,if_neg (by decide),if_pos c]);clear N L D F;go_wp2_with fail;all_goals first|(exfalso;omega)|skip
    go_ret;exact⟨by rw[B.out];rfl,G⟩
   ·have B:Hid (zl l A=0):=(by unfold Hid;rw[D.out,J.out,if_neg (by decide),if_neg c]);clear N L D F;go_wp2_with fail;all_goals first|(exfalso;omega)|skip
    go_ret;exact⟨by rw[B.out];rfl,G⟩
set_option maxRecDepth 512
theorem QaU(w:World)(m:qi)(A B:Value)(t:TypeId):zB w (w.alloc (.cells #[.string m.name,.string m.type,.bool m.static,.bool m.abs,.bool m.priv,.int .i64 m.locals,A,B] t)) [.string m.name,.string m.type,.bool m.static,.bool m.abs,.bool m.priv,.int .i64 m.locals,A,B]:=QY w _ _
theorem zB.drewN{w wx:World}{A:List Value}(h:zB w wx A)(n:Nat):zB w (wx.drewN n) A:=h.step (below_drewN Xb n)
theorem qbR{m:qi}{ahead:List qi}(h:qt (lst m.name)=false\/Zm m.type=none):qq m ahead=1:=by
 unfold qq;by_cases A:qt (lst m.name)=false
 ·rw[if_pos (by rw[A];rfl)]
 ·rw[if_neg (by simpa using A)];rcases h with h|h
  ·exact absurd h A
  ·rw[if_pos (by rw[h];rfl)]
set_option maxRecDepth 100000
theorem QcY(m:qi)(N O U:Value)(ahead:List qi)(w:World)(F:Z1 m)(E:Zg w 8 (zr w) U ahead)(h:qt (lst m.name)=false\/Zm m.type=none):
 Calls Tryz.prog 73 #[qR m N O,U] w fun e w'=>e=.returned (.int .i64 (qq m ahead))/\Below w.heap.size w w':=by
 have V:=Xh (qbR (ahead:=ahead) h);obtain⟨Y,B⟩:∃k,qt (lst m.name)=k:=⟨_,rfl⟩;have X:=Xh (z7 (s:=m.name) F.name B);obtain⟨o,p,rfl,_⟩:=E.open;unfold qR;cases H:Zm m.type with
 |none =>
  have P:=Xh (ZaH F.type H);have R:Hid (∀D,_->_):=fun D=>(QaU w m N O 53).step (wy:=D)
  clear F E h B H;obtain⟨I,J,static,S,L,C,M,A⟩:=m;dsimp only at *;cases Y;all_goals
   go_enter Tryz.func73,Tryz.ntmps73;go_wp2_with (first|(go_fit (P.out _);rintro e D⟨rfl,T⟩;(have G:=R.out D T);obtain⟨Z,a,b,c,d,f,i,j⟩:=Qah G)|(go_fit (X.out _);rintro e l⟨rfl,rfl⟩))
   go_ret;exact⟨by rw[V.out];rfl,G.below⟩
 |some n =>
  obtain⟨args,g⟩:=n;have P:=Xh (Z7 F.type H);have R:Hid (∀D,_->_):=fun D=>(QaU w m N O 53).step (wy:=D)
  obtain rfl:Y=false:=by rw[<-B];rcases h with h|h;exact h;rw[H]at h;cases h
  clear F E h B H;obtain⟨I,J,static,S,L,C,M,A⟩:=m;dsimp only at *;go_enter Tryz.func73,Tryz.ntmps73;go_wp2_with (first|(go_fit (P.out _);rintro e D⟨q,r,rfl,t,T⟩;(have G:=R.out D T);obtain⟨Z,a,b,c,d,f,i,j⟩:=Qah G)|(go_fit (X.out _);rintro e l⟨rfl,rfl⟩))
  go_ret;exact⟨by rw[V.out];rfl,G.below⟩
set_option maxRecDepth 512
theorem zcZ{m:qi}{args:List ByteArray}{g:ByteArray}(h:Zm m.type=some (args,g)):((if m.static then (args.length:Int) else args.length+1):Int)=Z3 m:=by
 rw[qaI h];split<;>simp
set_option maxRecDepth 100000
theorem qcE(m:qi)(cv hv av:Value)(ahead:List qi)(w:World)(ho:Z1 m)(t:Zg w 6 Zw cv m.code)(v:Zg w 4 Qt hv m.handlers)(hav:Zg w 8 (zr w) av ahead)(args:List ByteArray)(g:ByteArray)(z:qt (lst m.name)=true)(hm:Zm m.type=some (args,g)):
 Calls Tryz.prog 73 #[qR m cv hv,av] w fun e w'=>e=.returned (.int .i64 (qq m ahead))/\Below w.heap.size w w':=by
 have hf:Hid (qq m ahead=if ahead.any fun x=>decide (x.name=m.name)&&decide (x.type=m.type) then 5 else if m.locals<0\/8<m.locals then 2 else qY m):=by
  unfold Hid qq;rw[if_neg (by rw[z];decide),if_neg (by rw[hm];simp)]
 have HN:=Xh (z7 (s:=m.name) ho.name z);have HM:=Xh (Z7 ho.type hm);have HB:Hid (∀w2,_->_):=fun w2=>(QaU w m cv hv 53).step (wy:=w2)
 have S:Hid (∀wx,Below w.heap.size w wx->_):=fun wx hb=>qcY m.code cv wx ho.code (t.mono hb (by decide) (fun _ _ h=>h))
 obtain⟨p,cap,rfl,hc1,hc2,hcc⟩:=t.open;have N:Hid (∀wx,Below w.heap.size w wx->_):=fun wx hb=>ZbR m.handlers hv m.code.length wx (Xf hc1 hc2) ho.handlers (v.mono hb (by decide) (fun _ _ h=>h))
 obtain⟨ph,cah,rfl,hd1,hd2,_⟩:=v.open;obtain⟨pa,caa,rfl,ha1,ha2,haa⟩:=hav.open;have HA:=Xh haa;have HC:=Xh hcc;have h5:=ZS hm;have d:=Xh (zcZ hm);have T:Hid (qY m=if m.abs then (if m.static||m.priv||!m.code.isEmpty||!m.handlers.isEmpty then 8 else 0)
  else if qo m.code≠0 then qo m.code
  else if m.locals<Z3 m then 2
  else if m.code.any fun x=>(x.op==4||x.op==5)&&decide (m.locals<=x.a) then 2
  else zl m.handlers m.code.length):=rfl
 have hal:ahead.length<=9223372036854775807:=Xf ha1 ha2;have hcl:m.code.length<=9223372036854775807:=Xf hc1 hc2;clear haa hcc ho t v hav z hm;generalize qq m ahead=J at *;generalize qY m=bf at *;generalize Z3 m=ac at *;unfold qR;obtain⟨G,I,static,abs,U,A,B,D⟩:=m;dsimp only at *;go_enter Tryz.func73,Tryz.ntmps73;go_wp2_with (first|(go_fit (HM.out _);rintro e w2⟨va,vc,rfl,hV,hB⟩;(have L:=HB.out w2 hB);obtain⟨q0,q1,q2,q3,q4,q5,q6,q7⟩:=Qah L)|(go_fit (HN.out _);rintro e w3⟨rfl,rfl⟩))
 clear hV hB HM HN HB q0 q1 q2 q3 q4 q5 q6 q7;go_loopw [8] (fun x wr=>∃k:Nat,k<=ahead.length/\Hid (((ahead.drop k).any fun x=>decide (x.name=G)&&decide (x.type=I))=(ahead.any fun x=>decide (x.name=G)&&decide (x.type=I)))/\zB w wr [.string G,.string I,.bool static,.bool abs,.bool U,.int .i64 A,.slice p B.length cap,.slice ph D.length cah]/\x=.int .i64 k) (fun x _=>ahead.length-(intOf x).toNat)
 case atStart=>exact⟨0,by omega,rfl,L,rfl⟩
 case round =>
  clear L;obtain⟨k,hk,M,L,rfl⟩:=hrel;obtain⟨q0,q1,q2,q3,q4,q5,q6,q7⟩:=Qah L;by_cases hkl:k<ahead.length
  ·obtain⟨x,q⟩:∃x,ahead[k]? = some x:=⟨ahead[k],by simp[hkl]⟩;obtain⟨b,o,vs,rfl,hR,_,f⟩:=HA.out k x q;obtain⟨xcv,xhv,rfl,_,_⟩:=hR;have f:=f.mono L.below f.lt;obtain⟨c0,c1,_⟩:=f;have R:=qai (fun x=>decide (x.name=G)&&decide (x.type=I)) ahead k x q;rw[M.out]at R;rw[<-q8,<-q8]at R;have HX:=Xh q;clear q;cases h1:x.name.toList==G.toList<;>cases h2:x.type.toList==I.toList
   case true.true =>
    rw[h1,h2]at R;have E:Hid (J=5):=(by unfold Hid;rw[hf.out,if_pos (by rw[R];rfl)]);clear R hf T M S N HC HA;go_upto_region 7 with fail;go_quiet (fail);go_wp2
    go_ret;exact⟨by rw[E.out];rfl,(L.drewN _).below⟩
   all_goals
    rw[h1,h2]at R;have hst:Hid (((ahead.drop (k+1)).any fun x=>decide (x.name=G)&&decide (x.type=I))=(ahead.any fun x=>decide (x.name=G)&&decide (x.type=I))):=by
     unfold Hid;rw[R];simp
    clear R hf T M S N HC HA;go_upto_region 7 with fail;go_quiet (fail);go_wp2
    go_roundw;case rel=>exact⟨k+1,by omega,hst.out,L.drewN _,by simp⟩
    case measure=>simp[intOf];omega
  ·obtain rfl:k=ahead.length:=(by omega);have Y:Hid ((ahead.any fun x=>decide (x.name=G)&&decide (x.type=I))=false):=by
    unfold Hid;rw[<-M.out,Xg Xl];rfl
   have i:Hid (J=if A<0\/8<A then 2 else bf):=(by unfold Hid;rw[hf.out,if_neg (by rw[Y.out];decide)]);clear hf Y M HA;by_cases j:A<0\/8<A
   ·have E:Hid (J=2):=(by unfold Hid;rw[i.out,if_pos j]);clear i T S N HC;go_wp2_with fail;all_goals first|(exfalso;omega)|skip
    all_goals
     go_ret;exact⟨by rw[E.out];rfl,L.below⟩
   ·have l:Hid (J=bf):=(by unfold Hid;rw[i.out,if_neg j]);clear i;simp only[not_or,Int.not_lt]at j;obtain⟨hlo1,hlo2⟩:=j;cases abs with
    |true =>
     have E:Hid (J=if (static||U||!B.isEmpty||!D.isEmpty)=true then 8 else 0):=(by unfold Hid;rw[l.out,T.out,if_pos rfl]);clear l T S N HC;cases static with
     |true =>
      have C:Hid (J=8):=(by unfold Hid;rw[E.out];rfl);go_wp2_with fail;all_goals first|(exfalso;omega)|skip
      go_ret;exact⟨by rw[C.out];rfl,L.below⟩
     |false =>
      cases U with
      |true =>
       have C:Hid (J=8):=(by unfold Hid;rw[E.out];rfl);go_wp2_with fail;all_goals first|(exfalso;omega)|skip
       go_ret;exact⟨by rw[C.out];rfl,L.below⟩
      |false =>
       cases B with
       |cons y r =>
        have C:Hid (J=8):=(by unfold Hid;rw[E.out];rfl);have hl:0<(y::r).length:=(by simp);generalize (y::r).length=n at *;go_wp2_with fail;all_goals first|(exfalso;omega)|skip
        go_ret;exact⟨by rw[C.out];rfl,L.below⟩
       |nil =>
        cases D with
        |cons y r =>
         have C:Hid (J=8):=(by unfold Hid;rw[E.out];rfl);have hl:0<(y::r).length:=(by simp);generalize (y::r).length=n at *;go_wp2_with fail;all_goals first|(exfalso;omega)|skip
         go_ret;exact⟨by rw[C.out];rfl,L.below⟩
        |nil =>
         have C:Hid (J=0):=(by unfold Hid;rw[E.out];rfl);go_wp2_with fail;all_goals first|(exfalso;omega)|skip
         go_ret;exact⟨by rw[C.out];rfl,L.below⟩
    |false =>
     have O:Hid (J=if qo B≠0 then qo B
      else if A<ac then 2
      else if B.any fun x=>(x.op==4||x.op==5)&&decide (A<=x.a) then 2
      else zl D B.length):=by unfold Hid;rw[l.out,T.out,if_neg (by decide)]
     clear l T;have Z:=S.out _ L.below;have hnz:=zaF (qo B);by_cases hz:qo B=0
     ·rw[hz]at Z O;rw[if_neg (by decide)]at O;have c:=Xh Z;clear Z S hz hnz;by_cases hla:A<ac
      ·rw[if_pos hla]at O;clear N HC;cases static;all_goals
        have F:=d.out;simp at F;have ha1:=Int.le_of_eq F;have ha2:=Int.le_of_eq F.symm;clear F d;go_wp2_with (go_fit c.out;rintro e w4⟨rfl,X⟩;(have P:=L.step X);obtain⟨r0,r1,r2,r3,r4,r5,r6,r7⟩:=Qah P)
        all_goals first|(exfalso;omega)|skip
        go_ret;exact⟨by rw[O.out];rfl,P.below⟩
      ·rw[if_neg hla]at O;have E:Hid (∀b,(B.any fun x=>(x.op==4||x.op==5)&&decide (A<=x.a))=b->J=if b then 2 else zl D B.length):=fun b hb=>by rw[O.out,hb]
       clear O;cases static;all_goals
        have F:=d.out;simp at F;have ha1:=Int.le_of_eq F;have ha2:=Int.le_of_eq F.symm;clear F d;go_wp2_with (go_fit c.out;rintro e w4⟨rfl,X⟩;(have P:=L.step X);obtain⟨r0,r1,r2,r3,r4,r5,r6,r7⟩:=Qah P)
        all_goals first|(exfalso;omega)|skip
        clear c X L q0 q1 q2 q3 q4 q5 q6 q7 r0 r1 r2 r3 r4 r5 r6 r7;go_loopw [11] (fun x wr=>∃k:Nat,k<=B.length/\Hid (((B.drop k).any fun x=>(x.op==4||x.op==5)&&decide (A<=x.a))=(B.any fun x=>(x.op==4||x.op==5)&&decide (A<=x.a)))/\zB w wr [.string G,.string I,.bool _,.bool false,.bool U,.int .i64 A,.slice p B.length cap,.slice ph D.length cah]/\x=.int .i64 k) (fun x _=>B.length-(intOf x).toNat)
        case atStart=>exact⟨0,by omega,rfl,P,rfl⟩
        case round =>
         clear P;obtain⟨k,hk,M,L,rfl⟩:=hrel;obtain⟨q0,q1,q2,q3,q4,q5,q6,q7⟩:=Qah L;by_cases hkl:k<B.length
         ·obtain⟨x,q⟩:∃x,B[k]? = some x:=⟨B[k],by simp[hkl]⟩;obtain⟨b,o,vs,rfl,hR,_,f⟩:=HC.out k x q;unfold Zw at hR;subst hR;have f:=f.mono L.below f.lt;have R:=qai (fun x=>(x.op==4||x.op==5)&&decide (A<=x.a)) B k x q;rw[M.out]at R;have HX:=Xh q;clear q;obtain⟨c0,c1,c2,c3,c4,c5,_⟩:=f;obtain⟨k4,h4⟩:∃k,(x.op==4)=k:=⟨_,rfl⟩;obtain⟨k5,h5⟩:∃k,(x.op==5)=k:=⟨_,rfl⟩;obtain⟨ka,ha⟩:∃k,decide (A<=x.a)=k:=⟨_,rfl⟩;rw[h4,h5,ha]at R;cases V:(k4||k5)&&ka with
          |true =>
           rw[V,Bool.true_or]at R;have C:Hid (J=2):=E.out _ R;have HL:=Xh V;clear V R E N M;cases k4<;>cases k5<;>cases ka<;>try (exact absurd HL.out (by decide))
           all_goals
            clear HL;go_upto_region 26 with fail;go_quiet (fail);go_wp2
            go_ret;exact⟨by rw[C.out];rfl,(L.drewN _).below⟩
          |false =>
           rw[V,Bool.false_or]at R;have HL:=Xh V;have hst:=Xh R.symm;clear V R E N;cases k4<;>cases k5<;>cases ka<;>try (exact absurd HL.out (by decide))
           all_goals
            clear HL;go_upto_region 26 with fail;go_quiet (fail);go_wp2
            go_roundw;case rel=>exact⟨k+1,by omega,hst.out,L.drewN _,by simp⟩
            case measure=>simp[intOf];omega
         ·obtain rfl:k=B.length:=(by omega);have Y:(B.any fun x=>(x.op==4||x.op==5)&&decide (A<=x.a))=false:=by
           rw[<-M.out,Xg Xl];rfl
          have C:Hid (J=zl D B.length):=E.out _ Y;have H:=Xh (N.out _ L.below);clear Y E M N HC;go_wp2_with (go_fit H.out;rintro e w5⟨rfl,hB5⟩)
          go_ret;exact⟨by rw[C.out];rfl,(L.step hB5).below⟩
     ·rw[if_pos hz]at O;rw[Xj hz]at hnz;have c:=Xh Z;clear Z S;generalize qo B=cf at *;clear hz;go_wp2_with (go_fit c.out;rintro e w4⟨rfl,X⟩;(have P:=L.step X);obtain⟨r0,r1,r2,r3,r4,r5,r6,r7⟩:=Qah P)
      all_goals first|(exfalso;omega)|skip
      go_ret;exact⟨by rw[O.out];rfl,P.below⟩
set_option maxRecDepth 512
theorem qcV(m:qi)(B C D:Value)(ahead:List qi)(w:World)(G:Z1 m)(E:Zg w 6 Zw B m.code)(F:Zg w 4 Qt C m.handlers)(A:Zg w 8 (zr w) D ahead):
 Calls Tryz.prog 73 #[qR m B C,D] w fun e w'=>e=.returned (.int .i64 (qq m ahead))/\Below w.heap.size w w':=by
 by_cases h:qt (lst m.name)=false\/Zm m.type=none
 ·exact QcY m B C D ahead w G A h
 ·simp only[not_or]at h;obtain⟨J,L⟩:=h;cases H:Zm m.type with
  |none=>exact absurd H L
  |some I=>exact qcE m B C D ahead w G E F A I.1 I.2 (by simpa using J) H
end Go.Proofs.YtlmfmioljeppfaaGreatDoor
