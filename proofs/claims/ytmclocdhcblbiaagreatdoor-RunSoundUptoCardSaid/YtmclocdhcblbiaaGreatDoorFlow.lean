/- Lemmas; conditions: as each states. -/
import Derived.Test.YtmclocdhcblbiaaGreatDoorInsForm
import Derived.Deep.DeepCutAuto
import Derived.Deep.RegionHeld3
set_option maxHeartbeats 4000000
namespace Go.Proofs.YtmclocdhcblbiaaGreatDoor
open Go.RowKit Go.Shelf Go.Lib
theorem zeI:∀A:Nat,A<29->1<=A->zbm (zas A) 65=zd7 A/\zbm (zas A) 66=Zd7 A/\zbm (zas A) 84=qd7 A/\zbm (zas A) 67=zcP A/\zbm (zas A) 78=ZcP A:=by
 decide
theorem zc7(x:Ins)(w:World)(h:x.op<1\/28<x.op):Calls Tryz.prog 153 #[qao x] w fun e w'=>e=.returned (ZB (Qo x))/\Below w.heap.size w w':=by
 obtain⟨C,a,b,A,cls,B⟩:=x;replace h:C<1\/28<C:=h;have D:ZB (Qo ⟨C,a,b,A,cls,B⟩)=ZB 1:=by unfold Qo;rw[if_pos h]
 rw[D];clear D;have F:Hid (∀w,_):=fun w=>zfh C w h
 clear h;unfold qao;go_enter Tryz.func153,Tryz.ntmps153;go_wp2_with (go_fit (F.out _);rintro e G⟨rfl,E⟩)
 go_ret;exact⟨rfl,(ZaR (Xb.alloc Xl _) E).alloc (Xf (by simp) E.size) _⟩
theorem zbB{s:ByteArray}(A:s.size<=1048576){v:Value}(B:ZB (Qr s)=v)(w:World):Calls Tryz.prog 57 #[.string s] w fun e w'=>e=.returned v/\Below w.heap.size w w':=by
 subst B;exact ZP s w (ZR (Xf A (by decide)))
set_option maxRecDepth 100000
theorem ZcJ(D:Nat)(a b:Int)(C cls A:ByteArray)(w:World)(h1:1<=D)(h2:D<=28)(hl:ZaB w)(hs:ZbO ⟨D,a,b,C,cls,A⟩):Calls Tryz.prog 153 #[qao ⟨D,a,b,C,cls,A⟩] w fun e w'=>e=.returned (ZB (Qo ⟨D,a,b,C,cls,A⟩))/\Below w.heap.size w w':=by
 have hO:Hid (∀w,ZaB w->_):=fun w hl=>qe1 D w h1 h2 hl
 have hR:Hid (∀w,_):=fun w=>ZdJ ⟨D,a,b,C,cls,A⟩ w
 have hY:Hid (∀w,_):=fun w=>zeh ⟨D,a,b,C,cls,A⟩ w hs.type
 obtain⟨e1,e2,e3,e4,e5⟩:=zeI D (by omega) h1;have r:∀(k:Bool) (c:UInt8),zbm (zas D) c=k->Hid (∀B w,w.cell? ⟨B,0,none⟩=some (.string (Qb0 D))->w.cell? ⟨B,1,none⟩=some (.string (zas D))->Calls Tryz.prog 183 #[.string ⟨#[c]⟩,.pointer (some ⟨B,0,none⟩)] w fun e w'=>e=.returned (.bool k)/\w=w') :=
  fun k c hk B w U V=>hk▸Zeh _ _ c B w U V
 have hA:=r _ _ e1;have x:=r _ _ e2;have hT:=r _ _ e3;have hC:=r _ _ e4;have hM:=r _ _ e5;clear r e1 e2 e3 e4 e5;have y:Hid (Qo ⟨D,a,b,C,cls,A⟩=if ((!zd7 D&&a != 0)||(!Zd7 D&&b != 0)||(!qd7 D&&C.size != 0)||(!zcP D&&cls.size != 0)||(!ZcP D&&A.size != 0))=true then 1 else if (!QP ⟨D,a,b,C,cls,A⟩)=true then 2 else if (!Z0 ⟨D,a,b,C,cls,A⟩||(zcP D&&!Zx (lst cls))||(ZcP D&&!Zx (lst A)))=true then 1 else 0):=by
  unfold Hid Qo;rw[if_neg (by simp;omega)]
 have O:∃v k,ZB (Qr cls)=v/\Zx (lst cls)=k/\((v=.nilIface/\k=true)\/(v=.iface 52 (.int .i64 1)/\k=false)):=by
  refine⟨_,_,rfl,rfl,?_⟩;unfold Qr lst;cases Zx cls.data.toList<;>simp[ZB]
 have P:∃v k,ZB (Qr A)=v/\Zx (lst A)=k/\((v=.nilIface/\k=true)\/(v=.iface 52 (.int .i64 1)/\k=false)):=by
  refine⟨_,_,rfl,rfl,?_⟩;unfold Qr lst;cases Zx A.data.toList<;>simp[ZB]
 obtain⟨vc,kc,O,aG,aH⟩:=O;obtain⟨vn,kn,P,aI,aJ⟩:=P;have aA:Hid (∀w,_):=fun w=>zbB (s:=cls) hs.cls O w
 have aB:Hid (∀w,_):=fun w=>zbB (s:=A) hs.name P w
 rw[aG,aI]at y;clear O aG P aI hs;have z1:(C.size != 0)=!C.toList.isEmpty:=by rw[qR];rfl
 have z2:(cls.size != 0)=!cls.toList.isEmpty:=by rw[qR];rfl
 have z3:(A.size != 0)=!A.toList.isEmpty:=by rw[qR];rfl
 rw[z1,z2,z3]at y;clear z1 z2 z3;generalize Qo ⟨D,a,b,C,cls,A⟩=res at *;generalize Qb0 D=d at *;generalize zas D=f at *;generalize QP ⟨D,a,b,C,cls,A⟩=kR at *;generalize Z0 ⟨D,a,b,C,cls,A⟩=kY at *;generalize zd7 D=kA at *;generalize Zd7 D=kB at *;generalize qd7 D=kT at *;generalize zcP D=kC at *;generalize ZcP D=kN at *;generalize (D:Int)=z at *;obtain⟨za,m⟩:∃k,(a==0)=k:=⟨_,rfl⟩;obtain⟨zb,n⟩:∃k,(b==0)=k:=⟨_,rfl⟩;have aC:=Xh (show za=decide (a=0) by rw[<-m];rfl);have aD:=Xh (show zb=decide (b=0) by rw[<-n];rfl);obtain⟨zt,aK⟩:∃k,C.toList.isEmpty=k:=⟨_,rfl⟩;obtain⟨zc,aL⟩:∃k,cls.toList.isEmpty=k:=⟨_,rfl⟩;obtain⟨zn,aM⟩:∃k,A.toList.isEmpty=k:=⟨_,rfl⟩;rw[aK,aL,aM,show(a != 0)=!za by rw[<-m];rfl,show(b != 0)=!zb by rw[<-n];rfl]at y;have hmf:∀fn first cap w,(Instr.makeFunc fn first cap).run Tryz.prog w=.ok (.func fn first cap) w:=fun _ _ _ _=>rfl
 unfold qao at *;go_enter Tryz.func153,Tryz.ntmps153;go_upto_region 5 with(go_fit (hO.out _ ?_);(exact hl.mono (Xb.alloc Xl _) hl.1);rintro e L⟨rfl,hB⟩;obtain⟨aN,hfr⟩:=QaJ hB)
 have hsz:=hB.size;simp only[World.size_alloc]at hsz;have T:=(Below.refl L.heap.size L).alloc Xl (Obj.cells #[.string d,.string f] 234);have g:∀o,(L.alloc (Obj.cells #[.string d,.string f] 234)).cell? ⟨w.heap.size,o,none⟩=(w.alloc (Obj.cells #[.int .i64 z,.int .i64 a,.int .i64 b,.string C,.string cls,.string A] 34)).cell? ⟨w.heap.size,o,none⟩:=fun o =>
  (T.cell (p:=⟨_,_,none⟩) (show w.heap.size<L.heap.size by omega)).trans (aN _ _ (by simp))
 have q0:=g 0;have q1:=g 1;have q2:=g 2;have q3:=g 3;have q4:=g 4;have q5:=g 5;simp at q0 q1 q2 q3 q4 q5;have U:(L.alloc (Obj.cells #[.string d,.string f] 234)).cell? ⟨L.heap.size,0,none⟩=some (.string d):=by simp
 have V:(L.alloc (Obj.cells #[.string d,.string f] 234)).cell? ⟨L.heap.size,1,none⟩=some (.string f):=by simp
 have h:Below w.heap.size w (L.alloc (Obj.cells #[.string d,.string f] 234)):=(ZaR (Xb.alloc Xl _) hB).alloc (by omega) _;have i:L.heap.size<(L.alloc (Obj.cells #[.string d,.string f] 234)).heap.size:=by simp
 clear g T aN hfr hB hO;generalize L.alloc (Obj.cells #[.string d,.string f] 234)=w3 at *;generalize L.heap.size=t at *;generalize j:w.heap.size=N at *;replace j:=Xh j;generalize Value.agg #[.int .i64 z,.int .i64 a,.int .i64 b,.string C,.string cls,.string A]=ag;go_cut [63] (fun s63 wx=>s63=.bool ((!kA&&!za)||(!kB&&!zb)||(!kT&&!zt)||(!kC&&!zc)||(!kN&&!zn))/\wx=w3)
 case first =>
  clear hR hY aA aB y h;go_wp2_with (first
   |(go_fit (hA.out _ _ U V);rintro e w4⟨rfl,rfl⟩)
   |(go_fit (x.out _ _ U V);rintro e w4⟨rfl,rfl⟩)
   |(go_fit (hT.out _ _ U V);rintro e w4⟨rfl,rfl⟩)
   |(go_fit (hC.out _ _ U V);rintro e w4⟨rfl,rfl⟩)
   |(go_fit (hM.out _ _ U V);rintro e w4⟨rfl,rfl⟩))
  all_goals
   go_meet;exact⟨by first|(simp[*];done)|(simp[*,aC.out,aD.out];done),rfl⟩
 case rest =>
  obtain⟨rfl,rfl⟩:=hcut;generalize ((!kA&&!za)||(!kB&&!zb)||(!kT&&!zt)||(!kC&&!zc)||(!kN&&!zn))=bad at *;clear hA x hT m n aK aL aM;have F:N<wc.heap.size:=by omega
  rcases aH with⟨rfl,rfl⟩|⟨rfl,rfl⟩<;>rcases aJ with⟨rfl,rfl⟩|⟨rfl,rfl⟩
  all_goals
   go_wp2_with (first
    |(go_fit (hR.out _);rintro e w5⟨rfl,R⟩;obtain⟨E,_⟩:=QaJ R;(have p0:=(E N 0 F).trans q0);(have p1:=(E N 1 F).trans q1);(have p2:=(E N 2 F).trans q2);(have p3:=(E N 3 F).trans q3);(have p4:=(E N 4 F).trans q4);(have p5:=(E N 5 F).trans q5);(have d2:=(E t 0 i).trans U);(have d3:=(E t 1 i).trans V);(have H:=Nat.lt_of_lt_of_le F R.size);(have l:=Nat.lt_of_lt_of_le i R.size);(have X:=h.trans (R.mono (Nat.le_of_lt F)));clear E)
    |(go_fit (hY.out _);rintro e w6⟨rfl,S⟩;obtain⟨G,_⟩:=QaJ S;(have o4:=(G N 4 H).trans p4);(have o5:=(G N 5 H).trans p5);(have d4:=(G t 0 l).trans d2);(have d5:=(G t 1 l).trans d3);(have I:=Nat.lt_of_lt_of_le H S.size);(have aE:=Nat.lt_of_lt_of_le l S.size);(have M:=X.trans (S.mono (Nat.le_of_lt H)));clear G)
    |(go_fit (hC.out _ _ ?_ ?_);(assumption);(assumption);rintro e w9⟨rfl,rfl⟩)
    |(go_fit (hM.out _ _ ?_ ?_);(assumption);(assumption);rintro e w9⟨rfl,rfl⟩)
    |(go_fit (aA.out _);rintro e w7⟨rfl,q⟩;obtain⟨J,_⟩:=QaJ q;(have n5:=(J N 5 I).trans o5);(have d6:=(J t 0 aE).trans d4);(have d7:=(J t 1 aE).trans d5);(have Y:=M.trans (q.mono (Nat.le_of_lt I)));(have aF:=Nat.lt_of_lt_of_le I q.size);clear J)
    |(go_fit (aB.out _);rintro e w8⟨rfl,aO⟩;(first|(have Z:=Y.trans (aO.mono (Nat.le_of_lt aF)))|(have Z:=M.trans (aO.mono (Nat.le_of_lt I))))))
   all_goals
    go_ret;refine⟨?_,?_⟩
    ·simp[*,y.out,ZB]
    ·rw[j.out];first|exact Z|exact Y|exact M|exact X|exact h
set_option maxRecDepth 512
theorem Qdm(A:Int)(w:World):Calls Tryz.prog 140 #[.int .i64 A] w fun e w'=>e=.returned (.bool (Zac A))/\w=w':=by
 go_enter Tryz.func140,Tryz.ntmps140;go_wp2
 all_goals
  go_ret;exact⟨QC (by simp[Zac, *]),rfl⟩
theorem Zc7(x:Ins)(w:World)(C:ZaB w)(D:ZbO x):Calls Tryz.prog 153 #[qao x] w fun e w'=>e=.returned (ZB (Qo x))/\Below w.heap.size w w':=by
 by_cases h:x.op<1\/28<x.op
 ·exact zc7 x w h
 ·obtain⟨E,a,b,A,cls,B⟩:=x;obtain⟨n,rfl⟩:=Int.eq_ofNat_of_zero_le (show 0<=E by simp at h;omega);simp at h;exact ZcJ n a b A cls B w (by omega) (by omega) C D
def qc7(x:Ins):List Value:=[.int .i64 x.op,.int .i64 x.a,.int .i64 x.b,.string x.type,.string x.cls,.string x.name]
theorem Qar{α:Type}(f:α->Nat)(l:List α)(k:Nat)(x:α)(h:l[k]? = some x):Zh f (l.drop k)=if f x=0 then Zh f (l.drop (k+1)) else f x:=by
 obtain⟨A,rfl⟩:=List.getElem?_eq_some_iff.1 h;rw[List.drop_eq_getElem_cons A];rfl
theorem qbO{α:Type}(f:α->Bool)(l:List α)(k:Nat)(x:α)(h:l[k]? = some x):(l.drop k).any f=(f x||(l.drop (k+1)).any f):=by
 obtain⟨A,rfl⟩:=List.getElem?_eq_some_iff.1 h;rw[List.drop_eq_getElem_cons A];rfl
theorem zS(n:Nat):(ZB n=.nilIface/\n=0)\/(ZB n=.iface 52 (.int .i64 n)/\n≠0):=by
 unfold ZB;by_cases h:n=0
 ·exact Or.inl ⟨by rw[if_pos h],h⟩
 ·exact Or.inr ⟨by rw[if_neg h],h⟩
theorem Qa{B:Nat}{w A C:World}(D:Below B w A)(E:B<=w.heap.size)(F:Below A.heap.size A C):Below B w C:=D.trans (F.mono (Xf E D.size))
set_option maxRecDepth 100000
theorem Zcp(l:List Ins)(b o cap:Nat)(w:World)(f:ZaB w)(q:∀x∈l,ZbO x)(h0:0<l.length)(h40:l.length<=40)(_hcap:l.length<=cap)(_hm:cap<=maxLen)(r:∀i x,l[i]? = some x->QB w b (o+i*6) (qc7 x))(v:Value)(N:ZB (zC l)=v):
 Calls Tryz.prog 129 #[.slice (some ⟨b,o,none⟩) l.length cap] w fun e w'=>e=.returned v/\Below w.heap.size w w':=by
 have d:Hid (∀C,Below w.heap.size w C->∀x∈l,_):=fun C hb x H=>Zc7 x C (f.mono hb f.1) (q x H)
 have O:Hid (∀i x,l[i]? = some x->QB w b (o+i*6) (qc7 x)):=r;have D:Hid (v=ZB (if Zh Qo l≠0 then Zh Qo l
  else if l.any fun x=>ZS x.op&&decide ((l.length:Int)<=x.a) then 2
  else if Zac (l[l.length-1]'(by omega)).op then 0 else 8)):=by
  unfold Hid;rw[<-N];unfold zC;rw[if_neg (by omega),List.getLast?_eq_getElem?,Xn (by omega)]
 have B:Hid (l[l.length-1]? = some (l[l.length-1]'(by omega))):=by simp[Hid]
 generalize (l[l.length-1]'(by omega))=z at D B;clear r q f N;go_enter Tryz.func129,Tryz.ntmps129;go_wp2_with fail;go_loopw [14] (fun x wr=>∃k,k<=l.length/\Hid (Zh Qo (l.drop k)=Zh Qo l)/\Below w.heap.size w wr/\x=.int .i64 k) (fun x _=>l.length-(intOf x).toNat)
 case atStart=>exact⟨0,by omega,rfl,Xb,rfl⟩
 case round =>
  obtain⟨k,hk,G,E,rfl⟩:=hrel;by_cases P:k<l.length
  ·obtain⟨x,H⟩:∃x,l[k]? = some x:=⟨l[k],by simp[P]⟩;have S:=(O.out k x H).mono E (O.out k x H).lt;have X:Hid (x∈l):=Xe H;have I:=Qar Qo l k x H;have s:=Xh H;clear H;obtain⟨m,t,y,c3,c4,c5,_⟩:=S;rcases zS (Qo x) with⟨N,V⟩|⟨N,V⟩
   ·have J:Hid (∀C,Below w.heap.size w C->Calls Tryz.prog 153 #[qao x] C fun e w'=>e=.returned .nilIface/\Below C.heap.size C w'):=fun C p=>N▸d.out C p x X.out
    unfold qao at J;rw[if_pos V,G.out]at I;have L:=Xh I.symm;clear I d O D B N V;go_wp2_with (first|(go_fit (J.out _ (E.alloc E.size _));rintro e C⟨rfl,R⟩))
    exact⟨⟨k+1,by omega,L.out,Qa (E.alloc E.size _) Xl R,by simp⟩,by simp[intOf];omega⟩
   ·have J:Hid (∀C,Below w.heap.size w C->Calls Tryz.prog 153 #[qao x] C fun e w'=>e=.returned (.iface 52 (.int .i64 (Qo x)))/\Below C.heap.size C w'):=fun C p=>N▸d.out C p x X.out
    unfold qao at J;rw[if_neg V,G.out]at I;have A:Hid (v=.iface 52 (.int .i64 (Qo x))):=by
     rw[D.out,I,if_pos V];exact N
    clear I d O D B N V G;generalize Qo x=fx at J A;go_wp2_with (first|(go_fit (J.out _ (E.alloc E.size _));rintro e C⟨rfl,R⟩))
    cases A.out;go_ret;exact⟨rfl,Qa (E.alloc E.size _) Xl R⟩
  ·have M:Hid (Zh Qo l=0):=by
    rw[<-G.out,Xg (by omega)];rfl
   clear G;obtain rfl:k=l.length:=(by omega);go_wp2_with fail;go_loopw [26] (fun x wr=>∃k,k<=l.length/\Hid (((l.drop k).any fun x=>ZS x.op&&decide ((l.length:Int)<=x.a))=(l.any fun x=>ZS x.op&&decide ((l.length:Int)<=x.a)))/\Below w.heap.size w wr/\x=.int .i64 k) (fun x _=>l.length-(intOf x).toNat)
   case atStart=>exact⟨0,by omega,rfl,E,rfl⟩
   case round =>
    obtain⟨k,hk,G,E,rfl⟩:=hrel;by_cases P:k<l.length
    ·obtain⟨x,H⟩:∃x,l[k]? = some x:=⟨l[k],by simp[P]⟩;have S:=(O.out k x H).mono E (O.out k x H).lt;have I:=qbO (fun x=>ZS x.op&&decide ((l.length:Int)<=x.a)) l k x H;rw[G.out]at I;have T:∀c,_:=fun c=>Zbu x.op c
     cases Z:ZS x.op with
     |false =>
      rw[Z]at I T;have L:=Xh I;have s:=Xh H;clear H I;have g:=Xh T;clear T;obtain⟨m,t,y,c3,c4,c5,_⟩:=S;go_wp2_with (first|(go_fit (g.out _);rintro e C⟨rfl,rfl⟩))
      exact⟨⟨k+1,by omega,by simpa[Hid] using L.out.symm,E.alloc E.size _,by simp⟩,by simp[intOf];omega⟩
     |true =>
      rw[Z]at I T;have L:=Xh I;have s:=Xh H;clear H I;have g:=Xh T;clear T;obtain⟨m,t,y,c3,c4,c5,_⟩:=S;go_wp2_with (first|(go_fit (g.out _);rintro e C⟨rfl,rfl⟩))
      ·rename_i n;have A:Hid (v=.iface 52 (.int .i64 2)):=by
        rw[D.out,if_neg (by rw[M.out];simp),if_pos (by rw[L.out];simp;left;omega)];rfl
       clear D;cases A.out;go_ret;exact⟨rfl,E.alloc E.size _⟩
      ·rename_i n;exact⟨⟨k+1,by omega,by rw[L.out];simp[Hid];omega,E.alloc E.size _,by simp⟩,by simp[intOf];omega⟩
    ·obtain rfl:k=l.length:=(by omega);have Y:Hid ((l.any fun x=>ZS x.op&&decide ((l.length:Int)<=x.a))=false):=by
      rw[<-G.out,Xg (by omega)];rfl
     have S:=(O.out _ _ B.out).mono E (O.out _ _ B.out).lt;obtain⟨m,_⟩:=S;have h:=List.length_pos_iff.1 h0;have hne:((l.length:Int)==0)=false:=(by simpa using h);have F:∀c,_:=fun c=>Qdm z.op c
     clear G;cases U:Zac z.op with
     |false =>
      rw[U]at F;have A:Hid (v=.iface 52 (.int .i64 8)):=by
       rw[D.out,if_neg (by rw[M.out];simp),if_neg (by rw[Y.out];simp),U];rfl
      have j:=Xh F;clear F U;go_wp2_with (first|(go_fit (j.out _);rintro e C⟨rfl,rfl⟩))
      all_goals first|(exfalso;omega)|skip
      clear D;cases A.out;go_ret;exact⟨rfl,E⟩
     |true =>
      rw[U]at F;have A:Hid (v=.nilIface):=by
       rw[D.out,if_neg (by rw[M.out];simp),if_neg (by rw[Y.out];simp),U];rfl
      have j:=Xh F;clear F U;go_wp2_with (first|(go_fit (j.out _);rintro e C⟨rfl,rfl⟩))
      all_goals first|(exfalso;omega)|skip
      clear D;cases A.out;go_ret;exact⟨rfl,E⟩
set_option maxRecDepth 512
theorem qcp(p:Option Addr)(n:Nat)(cap:Nat)(w:World)(h:40<n):
 Calls Tryz.prog 129 #[.slice p n cap] w fun e w'=>e=.returned (.iface 52 (.int .i64 4))/\Below w.heap.size w w':=by
 go_enter Tryz.func129,Tryz.ntmps129;go_wp2_with fail;all_goals first|(exfalso;omega)|skip
 go_ret;exact⟨rfl,Xb⟩
set_option maxRecDepth 100000
theorem qaR(p:Option Addr)(cap:Nat)(w:World):
 Calls Tryz.prog 129 #[.slice p 0 cap] w fun e w'=>e=.returned (.iface 52 (.int .i64 8))/\Below w.heap.size w w':=by
 go_enter Tryz.func129,Tryz.ntmps129;go_wp2_with fail;go_loopw [14] (fun x wr=>w=wr/\x=.int .i64 0) (fun x _=>0)
 case atStart=>exact⟨rfl,rfl⟩
 case round =>
  obtain⟨rfl,rfl⟩:=hrel;go_wp2_with fail;go_loopw [26] (fun x wr=>w=wr/\x=.int .i64 0) (fun x _=>0)
  case atStart=>exact⟨rfl,rfl⟩
  case round =>
   obtain⟨rfl,rfl⟩:=hrel;go_wp2_with fail;go_ret;exact⟨rfl,Xb⟩
set_option maxRecDepth 512
theorem zdn{l:List Ins}{w:World}{v:Value}(h:qe w 6 qw v l):(v=.slice none 0 0/\l=[])\/∃b o cap,v=.slice (some ⟨b,o,none⟩) l.length cap/\l.length<=cap/\cap<=maxLen/\(∀i x,l[i]? = some x->QB w b (o+i*6) (qc7 x))\/∃a cap,v=.slice (some a) 0 cap/\l=[]:=by
 rcases h with h|⟨a,cap,B,F,G,C⟩
 ·exact Or.inl h
 ·cases l with
  |nil=>exact Or.inr ⟨a.block,a.off,cap,Or.inr ⟨a,cap,B,rfl⟩⟩
  |cons y r =>
   refine Or.inr ⟨a.block,a.off,cap,Or.inl ⟨?_,F,G,?_⟩⟩
   ·obtain⟨_,_,_,H,_⟩:=C 0 y rfl;rw[B];congr 2
   ·intro i x E;obtain⟨vs,A,_,_,D⟩:=C i x E;unfold qw at A;subst A;exact D
theorem zaZ:ZB (zC [])=.iface 52 (.int .i64 8):=by simp[zC,Zh,ZB]
theorem Zfh:ZB 4=.iface 52 (.int .i64 4):=by simp[ZB]
theorem QcH(l:List Ins)(B:Value)(w:World)(C:ZaB w)(D:∀x∈l,ZbO x)(h:qe w 6 qw B l):
 Calls Tryz.prog 129 #[B] w fun e w'=>e=.returned (ZB (zC l))/\Below w.heap.size w w':=by
 rcases zdn h with⟨rfl,rfl⟩|⟨b,o,cap,⟨rfl,F,G,H⟩|⟨a,cap,rfl,rfl⟩⟩
 ·rw[zaZ];exact qaR _ _ _
 ·by_cases E:l.length=0
  ·obtain rfl:=List.length_eq_zero_iff.1 E;rw[zaZ];exact qaR _ _ _
  by_cases A:40<l.length
  ·have:zC l=4:=(by unfold zC;rw[if_pos A]);rw[this,Zfh];exact qcp _ _ _ _ A
  ·exact Zcp l b o cap w C D (by omega) (by omega) F G H _ rfl
 ·rw[zaZ];exact qaR _ _ _
end Go.Proofs.YtmclocdhcblbiaaGreatDoor
