/- Lemmas; conditions: as each states. -/
import Derived.Test.YtmclocdhcblbiaaGreatDoorZInsForm
import Derived.Deep.DeepCutAuto
import Derived.Deep.RegionHeld3
set_option maxHeartbeats 4000000
namespace Go.Proofs.YtmclocdhcblbiaaGreatDoor
open Go.RowKit Go.Shelf Go.Lib Tryz
theorem qeL:∀A:Nat,A<29->1<=A->zbp (qat A) 65=zd8 A/\zbp (qat A) 66=Zd8 A/\zbp (qat A) 84=qd8 A/\zbp (qat A) 67=zcR A/\zbp (qat A) 78=ZcR A:=by
 decide
theorem Qc8(x:Ins)(w:World)(h:x.op<1\/28<x.op):Calls prog 153 #[zaq x] w fun e w'=>e=.returned (Qx (qo x))/\Below w.heap.size w w':=by
 obtain⟨B,a,b,A,cls,name⟩:=x;replace h:B<1\/28<B:=h;have C:Qx (qo ⟨B,a,b,A,cls,name⟩)=Qx 1:=by unfold qo;rw[if_pos h]
 rw[C];clear C;have E:Hid (∀w,_):=fun w=>Zfn B w h
 clear h;unfold zaq;go_enter func153,ntmps153;go_wp2_with (go_fit (E.out _);rintro e F⟨rfl,D⟩)
 go_ret;exact⟨rfl,(zaV (Xb.alloc Xl _) D).alloc (Xf (by simp) D.size) _⟩
theorem ZbD{s:ByteArray}(A:s.size<=1048576){v:Value}(B:Qx (Qr s)=v)(w:World):Calls prog 57 #[.string s] w fun e w'=>e=.returned v/\Below w.heap.size w w':=by
 subst B;exact zR s w (Q6 (Xf A (by decide)))
set_option maxRecDepth 100000
theorem qcK(C:Nat)(a b:Int)(A cls name:ByteArray)(w:World)(h1:1<=C)(h2:C<=28)(hl:Qax w)(hs:ZbB ⟨C,a,b,A,cls,name⟩):Calls prog 153 #[zaq ⟨C,a,b,A,cls,name⟩] w fun e w'=>e=.returned (Qx (qo ⟨C,a,b,A,cls,name⟩))/\Below w.heap.size w w':=by
 have hO:Hid (∀w,Qax w->_):=fun w hl=>Qe6 C w h1 h2 hl
 have hR:Hid (∀w,_):=fun w=>zdM ⟨C,a,b,A,cls,name⟩ w
 have hY:Hid (∀w,_):=fun w=>Zeg ⟨C,a,b,A,cls,name⟩ w hs.type
 obtain⟨e1,e2,e3,e4,e5⟩:=qeL C (by omega) h1;have q:∀(k:Bool) (c:UInt8),zbp (qat C) c=k->Hid (∀B w,w.cell? ⟨B,0,none⟩=some (.string (ZbZ C))->w.cell? ⟨B,1,none⟩=some (.string (qat C))->Calls prog 183 #[.string ⟨#[c]⟩,.pointer (some ⟨B,0,none⟩)] w fun e w'=>e=.returned (.bool k)/\w=w') :=
  fun k c hk B w T U=>hk▸qeg _ _ c B w T U
 have hA:=q _ _ e1;have t:=q _ _ e2;have hT:=q _ _ e3;have hC:=q _ _ e4;have hM:=q _ _ e5;clear q e1 e2 e3 e4 e5;have x:Hid (qo ⟨C,a,b,A,cls,name⟩=if ((!zd8 C&&a != 0)||(!Zd8 C&&b != 0)||(!qd8 C&&A.size != 0)||(!zcR C&&cls.size != 0)||(!ZcR C&&name.size != 0))=true then 1 else if (!qR ⟨C,a,b,A,cls,name⟩)=true then 2 else if (!Z5 ⟨C,a,b,A,cls,name⟩||(zcR C&&!zD (lst cls))||(ZcR C&&!zD (lst name)))=true then 1 else 0):=by
  unfold Hid qo;rw[if_neg (by simp;omega)]
 have N:∃v k,Qx (Qr cls)=v/\zD (lst cls)=k/\((v=.nilIface/\k=true)\/(v=.iface 52 (.int .i64 1)/\k=false)):=by
  refine⟨_,_,rfl,rfl,?_⟩;unfold Qr lst;cases zD cls.data.toList<;>simp[Qx]
 have O:∃v k,Qx (Qr name)=v/\zD (lst name)=k/\((v=.nilIface/\k=true)\/(v=.iface 52 (.int .i64 1)/\k=false)):=by
  refine⟨_,_,rfl,rfl,?_⟩;unfold Qr lst;cases zD name.data.toList<;>simp[Qx]
 obtain⟨vc,kc,N,aF,aG⟩:=N;obtain⟨vn,kn,O,aH,aI⟩:=O;have y:Hid (∀w,_):=fun w=>ZbD (s:=cls) hs.cls N w
 have aA:Hid (∀w,_):=fun w=>ZbD (s:=name) hs.name O w
 rw[aF,aH]at x;clear N aF O aH hs;have z1:(A.size != 0)=!A.toList.isEmpty:=by rw[QZ];rfl
 have z2:(cls.size != 0)=!cls.toList.isEmpty:=by rw[QZ];rfl
 have z3:(name.size != 0)=!name.toList.isEmpty:=by rw[QZ];rfl
 rw[z1,z2,z3]at x;clear z1 z2 z3;generalize qo ⟨C,a,b,A,cls,name⟩=res at *;generalize ZbZ C=Z at *;generalize qat C=d at *;generalize qR ⟨C,a,b,A,cls,name⟩=kR at *;generalize Z5 ⟨C,a,b,A,cls,name⟩=kY at *;generalize zd8 C=kA at *;generalize Zd8 C=kB at *;generalize qd8 C=kT at *;generalize zcR C=kC at *;generalize ZcR C=kN at *;generalize (C:Int)=z at *;obtain⟨za,l⟩:∃k,(a==0)=k:=⟨_,rfl⟩;obtain⟨zb,m⟩:∃k,(b==0)=k:=⟨_,rfl⟩;have aB:=Xh (show za=decide (a=0) by rw[<-l];rfl);have aC:=Xh (show zb=decide (b=0) by rw[<-m];rfl);obtain⟨zt,aJ⟩:∃k,A.toList.isEmpty=k:=⟨_,rfl⟩;obtain⟨zc,aK⟩:∃k,cls.toList.isEmpty=k:=⟨_,rfl⟩;obtain⟨zn,aL⟩:∃k,name.toList.isEmpty=k:=⟨_,rfl⟩;rw[aJ,aK,aL,show(a != 0)=!za by rw[<-l];rfl,show(b != 0)=!zb by rw[<-m];rfl]at x;have hmf:∀fn first cap w,(Instr.makeFunc fn first cap).run prog w=.ok (.func fn first cap) w:=fun _ _ _ _=>rfl
 unfold zaq at *;go_enter func153,ntmps153;go_upto_region 5 with(go_fit (hO.out _ ?_);(exact hl.mono (Xb.alloc Xl _) hl.1);rintro e J⟨rfl,hB⟩;obtain⟨aM,hfr⟩:=zaO hB)
 have hsz:=hB.size;simp only[World.size_alloc]at hsz;have S:=(Below.refl J.heap.size J).alloc Xl (Obj.cells #[.string Z,.string d] 234);have f:∀o,(J.alloc (Obj.cells #[.string Z,.string d] 234)).cell? ⟨w.heap.size,o,none⟩=(w.alloc (Obj.cells #[.int .i64 z,.int .i64 a,.int .i64 b,.string A,.string cls,.string name] 34)).cell? ⟨w.heap.size,o,none⟩:=fun o =>
  (S.cell (p:=⟨_,_,none⟩) (show w.heap.size<J.heap.size by omega)).trans (aM _ _ (by simp))
 have q0:=f 0;have q1:=f 1;have q2:=f 2;have q3:=f 3;have q4:=f 4;have q5:=f 5;simp at q0 q1 q2 q3 q4 q5;have T:(J.alloc (Obj.cells #[.string Z,.string d] 234)).cell? ⟨J.heap.size,0,none⟩=some (.string Z):=by simp
 have U:(J.alloc (Obj.cells #[.string Z,.string d] 234)).cell? ⟨J.heap.size,1,none⟩=some (.string d):=by simp
 have g:Below w.heap.size w (J.alloc (Obj.cells #[.string Z,.string d] 234)):=(zaV (Xb.alloc Xl _) hB).alloc (by omega) _;have h:J.heap.size<(J.alloc (Obj.cells #[.string Z,.string d] 234)).heap.size:=by simp
 clear f S aM hfr hB hO;generalize J.alloc (Obj.cells #[.string Z,.string d] 234)=w3 at *;generalize J.heap.size=r at *;generalize i:w.heap.size=M at *;replace i:=Xh i;generalize Value.agg #[.int .i64 z,.int .i64 a,.int .i64 b,.string A,.string cls,.string name]=ag;go_cut [63] (fun s63 wx=>s63=.bool ((!kA&&!za)||(!kB&&!zb)||(!kT&&!zt)||(!kC&&!zc)||(!kN&&!zn))/\wx=w3)
 case first =>
  clear hR hY y aA x g;go_wp2_with (first
   |(go_fit (hA.out _ _ T U);rintro e w4⟨rfl,rfl⟩)
   |(go_fit (t.out _ _ T U);rintro e w4⟨rfl,rfl⟩)
   |(go_fit (hT.out _ _ T U);rintro e w4⟨rfl,rfl⟩)
   |(go_fit (hC.out _ _ T U);rintro e w4⟨rfl,rfl⟩)
   |(go_fit (hM.out _ _ T U);rintro e w4⟨rfl,rfl⟩))
  all_goals
   go_meet;exact⟨by first|(simp[*];done)|(simp[*,aB.out,aC.out];done),rfl⟩
 case rest =>
  obtain⟨rfl,rfl⟩:=hcut;generalize ((!kA&&!za)||(!kB&&!zb)||(!kT&&!zt)||(!kC&&!zc)||(!kN&&!zn))=bad at *;clear hA t hT l m aJ aK aL;have E:M<wc.heap.size:=by omega
  rcases aG with⟨rfl,rfl⟩|⟨rfl,rfl⟩<;>rcases aI with⟨rfl,rfl⟩|⟨rfl,rfl⟩
  all_goals
   go_wp2_with (first
    |(go_fit (hR.out _);rintro e w5⟨rfl,P⟩;obtain⟨D,_⟩:=zaO P;(have p0:=(D M 0 E).trans q0);(have p1:=(D M 1 E).trans q1);(have p2:=(D M 2 E).trans q2);(have p3:=(D M 3 E).trans q3);(have p4:=(D M 4 E).trans q4);(have p5:=(D M 5 E).trans q5);(have d2:=(D r 0 h).trans T);(have d3:=(D r 1 h).trans U);(have G:=Nat.lt_of_lt_of_le E P.size);(have j:=Nat.lt_of_lt_of_le h P.size);(have V:=g.trans (P.mono (Nat.le_of_lt E)));clear D)
    |(go_fit (hY.out _);rintro e w6⟨rfl,R⟩;obtain⟨F,_⟩:=zaO R;(have o4:=(F M 4 G).trans p4);(have o5:=(F M 5 G).trans p5);(have d4:=(F r 0 j).trans d2);(have d5:=(F r 1 j).trans d3);(have H:=Nat.lt_of_lt_of_le G R.size);(have aD:=Nat.lt_of_lt_of_le j R.size);(have L:=V.trans (R.mono (Nat.le_of_lt G)));clear F)
    |(go_fit (hC.out _ _ ?_ ?_);(assumption);(assumption);rintro e w9⟨rfl,rfl⟩)
    |(go_fit (hM.out _ _ ?_ ?_);(assumption);(assumption);rintro e w9⟨rfl,rfl⟩)
    |(go_fit (y.out _);rintro e w7⟨rfl,n⟩;obtain⟨I,_⟩:=zaO n;(have n5:=(I M 5 H).trans o5);(have d6:=(I r 0 aD).trans d4);(have d7:=(I r 1 aD).trans d5);(have X:=L.trans (n.mono (Nat.le_of_lt H)));(have aE:=Nat.lt_of_lt_of_le H n.size);clear I)
    |(go_fit (aA.out _);rintro e w8⟨rfl,aN⟩;(first|(have Y:=X.trans (aN.mono (Nat.le_of_lt aE)))|(have Y:=L.trans (aN.mono (Nat.le_of_lt H))))))
   all_goals
    go_ret;refine⟨?_,?_⟩
    ·simp[*,x.out,Qx]
    ·rw[i.out];first|exact Y|exact X|exact L|exact V|exact g
theorem Qdo(A:Int)(w:World):Calls prog 140 #[.int .i64 A] w fun e w'=>e=.returned (.bool (qae A))/\w=w':=by
 go_enter func140,ntmps140;go_wp2
 all_goals
  go_ret;exact⟨QR (by simp[qae, *]),rfl⟩
theorem zc9(x:Ins)(w:World)(B:Qax w)(C:ZbB x):Calls prog 153 #[zaq x] w fun e w'=>e=.returned (Qx (qo x))/\Below w.heap.size w w':=by
 by_cases h:x.op<1\/28<x.op
 ·exact Qc8 x w h
 ·obtain⟨D,a,b,A,cls,name⟩:=x;obtain⟨n,rfl⟩:=Int.eq_ofNat_of_zero_le (show 0<=D by simp at h;omega);simp at h;exact qcK n a b A cls name w (by omega) (by omega) B C
def Zc9(x:Ins):List Value:=[.int .i64 x.op,.int .i64 x.a,.int .i64 x.b,.string x.type,.string x.cls,.string x.name]
theorem Zau{α:Type}(f:α->Nat)(l:List α)(k:Nat)(x:α)(h:l[k]? = some x):Zh f (l.drop k)=if f x=0 then Zh f (l.drop (k+1)) else f x:=by
 obtain⟨A,rfl⟩:=List.getElem?_eq_some_iff.1 h;rw[List.drop_eq_getElem_cons A];rfl
theorem ZbQ{α:Type}(f:α->Bool)(l:List α)(k:Nat)(x:α)(h:l[k]? = some x):(l.drop k).any f=(f x||(l.drop (k+1)).any f):=by
 obtain⟨A,rfl⟩:=List.getElem?_eq_some_iff.1 h;rw[List.drop_eq_getElem_cons A];rfl
theorem zB(n:Nat):(Qx n=.nilIface/\n=0)\/(Qx n=.iface 52 (.int .i64 n)/\n≠0):=by
 unfold Qx;by_cases h:n=0
 ·exact Or.inl ⟨by rw[if_pos h],h⟩
 ·exact Or.inr ⟨by rw[if_neg h],h⟩
theorem Qa{B:Nat}{w A C:World}(D:Below B w A)(E:B<=w.heap.size)(F:Below A.heap.size A C):Below B w C:=D.trans (F.mono (Xf E D.size))
theorem zcr(l:List Ins)(b o cap:Nat)(w:World)(f:Qax w)(q:∀x∈l,ZbB x)(h0:0<l.length)(h40:l.length<=40)(_hcap:l.length<=cap)(_hm:cap<=maxLen)(r:∀i x,l[i]? = some x->qw w b (o+i*6) (Zc9 x))(v:Value)(N:Qx (ZC l)=v):
 Calls prog 129 #[.slice (some ⟨b,o,none⟩) l.length cap] w fun e w'=>e=.returned v/\Below w.heap.size w w':=by
 have d:Hid (∀C,Below w.heap.size w C->∀x∈l,_):=fun C hb x H=>zc9 x C (f.mono hb f.1) (q x H)
 have O:Hid (∀i x,l[i]? = some x->qw w b (o+i*6) (Zc9 x)):=r;have D:Hid (v=Qx (if Zh qo l≠0 then Zh qo l
  else if l.any fun x=>ZU x.op&&decide ((l.length:Int)<=x.a) then 2
  else if qae (l[l.length-1]'(by omega)).op then 0 else 8)):=by
  unfold Hid;rw[<-N];unfold ZC;rw[if_neg (by omega),List.getLast?_eq_getElem?,Xn (by omega)]
 have B:Hid (l[l.length-1]? = some (l[l.length-1]'(by omega))):=by simp[Hid]
 generalize (l[l.length-1]'(by omega))=z at D B;clear r q f N;go_enter func129,ntmps129;go_wp2_with fail;go_loopw [14] (fun x wr=>∃k,k<=l.length/\Hid (Zh qo (l.drop k)=Zh qo l)/\Below w.heap.size w wr/\x=.int .i64 k) (fun x _=>l.length-(intOf x).toNat)
 case atStart=>exact⟨0,by omega,rfl,Xb,rfl⟩
 case round =>
  obtain⟨k,hk,G,E,rfl⟩:=hrel;by_cases P:k<l.length
  ·obtain⟨x,H⟩:∃x,l[k]? = some x:=⟨l[k],by simp[P]⟩;have S:=(O.out k x H).mono E (O.out k x H).lt;have X:Hid (x∈l):=Xe H;have I:=Zau qo l k x H;have s:=Xh H;clear H;obtain⟨m,t,y,c3,c4,c5,_⟩:=S;rcases zB (qo x) with⟨N,V⟩|⟨N,V⟩
   ·have J:Hid (∀C,Below w.heap.size w C->Calls prog 153 #[zaq x] C fun e w'=>e=.returned .nilIface/\Below C.heap.size C w'):=fun C p=>N▸d.out C p x X.out
    unfold zaq at J;rw[if_pos V,G.out]at I;have L:=Xh I.symm;clear I d O D B N V;go_wp2_with (first|(go_fit (J.out _ (E.alloc E.size _));rintro e C⟨rfl,R⟩))
    exact⟨⟨k+1,by omega,L.out,Qa (E.alloc E.size _) Xl R,by simp⟩,by simp[intOf];omega⟩
   ·have J:Hid (∀C,Below w.heap.size w C->Calls prog 153 #[zaq x] C fun e w'=>e=.returned (.iface 52 (.int .i64 (qo x)))/\Below C.heap.size C w'):=fun C p=>N▸d.out C p x X.out
    unfold zaq at J;rw[if_neg V,G.out]at I;have A:Hid (v=.iface 52 (.int .i64 (qo x))):=by
     rw[D.out,I,if_pos V];exact N
    clear I d O D B N V G;generalize qo x=fx at J A;go_wp2_with (first|(go_fit (J.out _ (E.alloc E.size _));rintro e C⟨rfl,R⟩))
    cases A.out;go_ret;exact⟨rfl,Qa (E.alloc E.size _) Xl R⟩
  ·have M:Hid (Zh qo l=0):=by
    rw[<-G.out,Xg (by omega)];rfl
   clear G;obtain rfl:k=l.length:=(by omega);go_wp2_with fail;go_loopw [26] (fun x wr=>∃k,k<=l.length/\Hid (((l.drop k).any fun x=>ZU x.op&&decide ((l.length:Int)<=x.a))=(l.any fun x=>ZU x.op&&decide ((l.length:Int)<=x.a)))/\Below w.heap.size w wr/\x=.int .i64 k) (fun x _=>l.length-(intOf x).toNat)
   case atStart=>exact⟨0,by omega,rfl,E,rfl⟩
   case round =>
    obtain⟨k,hk,G,E,rfl⟩:=hrel;by_cases P:k<l.length
    ·obtain⟨x,H⟩:∃x,l[k]? = some x:=⟨l[k],by simp[P]⟩;have S:=(O.out k x H).mono E (O.out k x H).lt;have I:=ZbQ (fun x=>ZU x.op&&decide ((l.length:Int)<=x.a)) l k x H;rw[G.out]at I;have T:∀c,_:=fun c=>Qbw x.op c
     cases Z:ZU x.op with
     |false =>
      rw[Z]at I T;have L:=Xh I;have s:=Xh H;clear H I;have g:=Xh T;clear T;obtain⟨m,t,y,c3,c4,c5,_⟩:=S;go_wp2_with (first|(go_fit (g.out _);rintro e C⟨rfl,rfl⟩))
      exact⟨⟨k+1,by omega,by simpa[Hid] using L.out.symm,E.alloc E.size _,by simp⟩,by simp[intOf];omega⟩
     |true =>
      rw[Z]at I T;have L:=Xh I;have s:=Xh H;clear H I;have g:=Xh T;clear T;obtain⟨m,t,y,c3,c4,c5,_⟩:=S;go_wp2_with (first|(go_fit (g.out _);rintro e C⟨rfl,rfl⟩))
      ·rename_i n;have A:Hid (v=.iface 52 (.int .i64 2)):=by
        rw[D.out,if_neg (by rw[M.out];simp),if_pos (by rw[L.out];simp;left;omega)];rfl
       clear D;cases A.out;go_ret;exact⟨rfl,E.alloc E.size _⟩
      ·rename_i n;exact⟨⟨k+1,by omega,by rw[L.out];simp[Hid];omega,E.alloc E.size _,by simp⟩,by simp[intOf];omega⟩
    ·obtain rfl:k=l.length:=(by omega);have Y:Hid ((l.any fun x=>ZU x.op&&decide ((l.length:Int)<=x.a))=false):=by
      rw[<-G.out,Xg (by omega)];rfl
     have S:=(O.out _ _ B.out).mono E (O.out _ _ B.out).lt;obtain⟨m,_⟩:=S;have h:=List.length_pos_iff.1 h0;have hne:((l.length:Int)==0)=false:=(by simpa using h);have F:∀c,_:=fun c=>Qdo z.op c
     clear G;cases U:qae z.op with
     |false =>
      rw[U]at F;have A:Hid (v=.iface 52 (.int .i64 8)):=by
       rw[D.out,if_neg (by rw[M.out];simp),if_neg (by rw[Y.out];simp),U];rfl
      have j:=Xh F;clear F U;go_wp2_with (first|(go_fit (j.out _);rintro e C⟨rfl,rfl⟩))
      all_goals first|(exfalso;omega)|skip
      clear D;cases A.out;go_ret;exact⟨rfl,E⟩
     |true =>
      rw[U]at F;have A:Hid (v=.nilIface):=by
       rw[D.out,if_neg (by rw[M.out];simp),if_neg (by rw[Y.out];simp),U];rfl
      have j:=Xh F;clear F U;go_wp2_with (first|(go_fit (j.out _);rintro e C⟨rfl,rfl⟩))
      all_goals first|(exfalso;omega)|skip
      clear D;cases A.out;go_ret;exact⟨rfl,E⟩
theorem Zcr(p:Option Addr)(n:Nat)(cap:Nat)(w:World)(h:40<n):
 Calls prog 129 #[.slice p n cap] w fun e w'=>e=.returned (.iface 52 (.int .i64 4))/\Below w.heap.size w w':=by
 go_enter func129,ntmps129;go_wp2_with fail;all_goals first|(exfalso;omega)|skip
 go_ret;exact⟨rfl,Xb⟩
theorem ZaV(p:Option Addr)(cap:Nat)(w:World):
 Calls prog 129 #[.slice p 0 cap] w fun e w'=>e=.returned (.iface 52 (.int .i64 8))/\Below w.heap.size w w':=by
 go_enter func129,ntmps129;go_wp2_with fail;go_loopw [14] (fun x wr=>w=wr/\x=.int .i64 0) (fun x _=>0)
 case atStart=>exact⟨rfl,rfl⟩
 case round =>
  obtain⟨rfl,rfl⟩:=hrel;go_wp2_with fail;go_loopw [26] (fun x wr=>w=wr/\x=.int .i64 0) (fun x _=>0)
  case atStart=>exact⟨rfl,rfl⟩
  case round =>
   obtain⟨rfl,rfl⟩:=hrel;go_wp2_with fail;go_ret;exact⟨rfl,Xb⟩
theorem zdp{l:List Ins}{w:World}{v:Value}(h:Qe w 6 Zv v l):(v=.slice none 0 0/\l=[])\/∃b o cap,v=.slice (some ⟨b,o,none⟩) l.length cap/\l.length<=cap/\cap<=maxLen/\(∀i x,l[i]? = some x->qw w b (o+i*6) (Zc9 x))\/∃a cap,v=.slice (some a) 0 cap/\l=[]:=by
 rcases h with h|⟨a,cap,B,F,G,C⟩
 ·exact Or.inl h
 ·cases l with
  |nil=>exact Or.inr ⟨a.block,a.off,cap,Or.inr ⟨a,cap,B,rfl⟩⟩
  |cons y r =>
   refine Or.inr ⟨a.block,a.off,cap,Or.inl ⟨?_,F,G,?_⟩⟩
   ·obtain⟨_,_,_,H,_⟩:=C 0 y rfl;rw[B];congr 2
   ·intro i x E;obtain⟨vs,A,_,_,D⟩:=C i x E;unfold Zv at A;subst A;exact D
theorem Qa2:Qx (ZC [])=.iface 52 (.int .i64 8):=by simp[ZC,Zh,Qx]
theorem qfn:Qx 4=.iface 52 (.int .i64 4):=by simp[Qx]
theorem zcJ(l:List Ins)(B:Value)(w:World)(C:Qax w)(D:∀x∈l,ZbB x)(h:Qe w 6 Zv B l):
 Calls prog 129 #[B] w fun e w'=>e=.returned (Qx (ZC l))/\Below w.heap.size w w':=by
 rcases zdp h with⟨rfl,rfl⟩|⟨b,o,cap,⟨rfl,F,G,H⟩|⟨a,cap,rfl,rfl⟩⟩
 ·rw[Qa2];exact ZaV _ _ _
 ·by_cases E:l.length=0
  ·obtain rfl:=List.length_eq_zero_iff.1 E;rw[Qa2];exact ZaV _ _ _
  by_cases A:40<l.length
  ·have:ZC l=4:=(by unfold ZC;rw[if_pos A]);rw[this,qfn];exact Zcr _ _ _ _ A
  ·exact zcr l b o cap w C D (by omega) (by omega) F G H _ rfl
 ·rw[Qa2];exact ZaV _ _ _
