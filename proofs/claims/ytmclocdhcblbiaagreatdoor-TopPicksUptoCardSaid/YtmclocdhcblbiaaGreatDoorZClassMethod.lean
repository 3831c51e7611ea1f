/- Lemmas; conditions: as each states. -/
import Derived.Test.YtmclocdhcblbiaaGreatDoorZFlow
import Derived.Deep.RegionWith
import Derived.Shelf.GgClosure.Gives
set_option maxHeartbeats 4000000
namespace Go.Proofs.YtmclocdhcblbiaaGreatDoor
open Go.RowKit Go.Shelf Go.Lib Tryz
theorem Qe.open{α:Type}{w:World}{k:Nat}{R:α->List Value->Prop}{v:Value}{l:List α}(h:Qe w k R v l):
 ∃p cap,v=.slice p l.length cap/\l.length<=cap/\cap<=maxLen/\∀i x,l[i]? = some x->∃b o vs,p=some ⟨b,o,none⟩/\R x vs/\vs.length=k/\qw w b (o+i*k) vs:=by
 rcases h with⟨rfl,rfl⟩|⟨a,cap,E,F,G,H⟩
 ·exact⟨none,0,rfl,Xl,Nat.zero_le _,fun i x h=>by simp at h⟩
 ·refine⟨some a,cap,E,F,G,fun i x h=>?_⟩;obtain⟨vs,A,B,C,D⟩:=H i x h;exact⟨a.block,a.off,vs,by rw[<-C],A,B,D⟩
structure QY (x:ZW):Prop where
 lo:ZbA x.lo
 hi:ZbA x.hi
 dest:ZbA x.dest
 cls:x.cls.size<=1048576
structure zay (m:qc):Prop where
 name:m.name.size<=1048576
 type:m.type.size<=1048576
 locals:ZbA m.locals
 code:∀x∈m.code,ZbB x
 handlers:∀x∈m.handlers,QY x
def ZR(m:qc)(cv hv:Value):Value:=.agg #[.string m.name,.string m.type,.bool m.static,.bool m.abs,.bool m.priv,.int .i64 m.locals,cv,hv]
theorem QcI{m:qc}(h:Zl m.type=none):qar m=0:=by unfold qar;rw[h]
theorem Za2{m:qc}{args:List ByteArray}{g:ByteArray}(h:Zl m.type=some (args,g)):qar m=if m.static then args.length else args.length+1:=by unfold qar;rw[h]
theorem Zaw{s:ByteArray}{args:List ByteArray}{g:ByteArray}(h:Zl s=some (args,g)):args.length<=5:=by
 unfold Zl qQ at h;split at h
 ·rename_i A;injection h with h;rw[Prod.mk.injEq]at h;rw[<-h.1];exact A.2.1
 ·simp at h
theorem ZeJ(m:qc)(M N:Value)(w:World)(O:m.type.size<=1048576):
 Calls prog 130 #[ZR m M N] w fun e w'=>e=.returned (.int .i64 (qar m))/\Below w.heap.size w w':=by
 have D:∀w,_:=fun w=>zaz m.type w O
 obtain⟨name,A,B,P,J,F,L,E⟩:=m;unfold ZR;cases C:Zl A with
 |none =>
  rw[QcI C];replace D:Hid (∀w,Calls prog 28 #[.string A] w (zaF w none)):=fun w=>C▸D w
  clear C;go_enter func130,ntmps130;go_wp2_with (first|(go_fit (D.out _);rintro e T⟨G,rfl⟩))
  go_ret;exact⟨rfl,Qa (Xb.alloc Xl _) Xl G⟩
 |some U =>
  obtain⟨args,g⟩:=U;have V:=Zaw C;rw[Za2 C];replace D:Hid (∀w,Calls prog 28 #[.string A] w (zaF w (some (args,g)))):=fun w=>C▸D w
  clear C;cases B;all_goals
   go_enter func130,ntmps130;go_wp2_with (first|(go_fit (D.out _);rintro e T⟨G,v,rfl,I⟩;obtain⟨p,cap,rfl,R,S,_⟩:=I.open;obtain⟨H,_⟩:=zaO G;(have X:=H w.heap.size 2 (by simp))))
   go_ret;exact⟨rfl,Qa (Xb.alloc Xl _) Xl G⟩
set_option maxRecDepth 100000
theorem Zc7(m:qc)(r s:Value)(w:World)(t:∀x∈m.handlers,QY x)(T:Qe w 6 Zv r m.code)(U:Qe w 4 Qp s m.handlers)(v:Value)(N:Qx (Zw m.handlers m.code.length)=v):
 Calls prog 131 #[ZR m r s] w fun e w'=>e=.returned v/\Below w.heap.size w w':=by
 obtain⟨name,type,d,abs,priv,f,B,A⟩:=m;unfold ZR;obtain⟨p,cap,rfl,j,hc2,l⟩:=T.open;obtain⟨ph,n,rfl,X,q,Y⟩:=U.open;clear l T U;have y:=Xh Y;clear Y;have z:=Xh t;clear t;dsimp only at N y z j X ⊢;have aA:A.length<=9223372036854775807:=Xf X q;have J:Hid (Qx (Zw A B.length)=v):=N;clear N;go_enter func131,ntmps131;go_wp2_with fail;go_loopw [8] (fun x wr=>∃k,k<=A.length/\Hid (Zh (QE B.length) (A.drop k)=Zh (QE B.length) A)/\(Below w.heap.size w wr/\w.heap.size<wr.heap.size/\wr.cell? ⟨w.heap.size,6,none⟩=some (.slice p B.length cap)/\wr.cell? ⟨w.heap.size,7,none⟩=some (.slice ph A.length n))/\x=.int .i64 k) (fun x _=>A.length-(intOf x).toNat)
 case atStart=>exact⟨0,by omega,rfl,⟨Xb.alloc Xl _,by simp,by simp,by simp⟩,rfl⟩
 case round =>
  obtain⟨k,hk,P,⟨M,R,g6,g7⟩,rfl⟩:=hrel;by_cases g:k<A.length
  ·obtain⟨x,Z⟩:∃x,A[k]? = some x:=⟨A[k],by simp[g]⟩;obtain⟨b,o,vs,rfl,rfl,_,a⟩:=y.out k x Z;have a:=a.mono M a.lt;have V:=z.out x (Xe Z);have I:=Zau (QE B.length) A k x Z;rw[P.out]at I;have O:=fun w=>zR x.cls w (Xf V.cls (by decide))
   have HX:=Xh Z;clear Z V;obtain⟨c0,c1,c2,c3,_⟩:=a;by_cases D:x.lo<0\/x.hi<=x.lo\/(B.length:Int)<x.hi\/x.dest<0\/(B.length:Int)<=x.dest
   ·have h2:QE B.length x=2:=(by unfold QE;rw[if_pos D]);rw[h2,if_neg (by decide)]at I;have C:Hid (v=.iface 52 (.int .i64 2)):=by
     unfold Hid;rw[<-J.out];unfold Zw;rw[I,if_pos (by decide)];rfl
    clear h2 I O J;have HB:=Xh D;clear D;go_wp2_with fail;all_goals first|(exfalso;have:=HB.out;omega)|skip
    all_goals
     cases C.out;go_ret;exact⟨rfl,M.alloc M.size _⟩
   ·have c:QE B.length x=if zD (lst x.cls) then 0 else 1:=(by unfold QE;rw[if_neg D]);simp only[not_or,Int.not_lt,Int.not_le]at D;obtain⟨b1,b2,b3,b4,b5⟩:=D;cases F:zD x.cls.data.toList with
    |true =>
     have G:Qr x.cls=0:=(by unfold Qr;simp[F]);have H:QE B.length x=0:=(by rw[c];simp[lst,F]);rw[H,if_pos rfl]at I;rw[G]at O;have h:=Xh I.symm;have i:Hid (∀w,Calls prog 57 #[.string x.cls] w fun e w'=>e=.returned .nilIface/\Below w.heap.size w w'):=O;clear O c H G F I J;go_wp2_with (first|(go_fit (i.out _);rintro e w2⟨rfl,S⟩))
     have L:=Qa ((Below.refl wr.heap.size wr).alloc Xl (.cells #[.int .i64 x.lo,.int .i64 x.hi,.int .i64 x.dest,.string x.cls] 56)) Xl S;exact⟨⟨k+1,by omega,h.out,⟨Qa M Xl L,Nat.lt_of_lt_of_le R L.size,(L.cell (p:=⟨_,6,none⟩) R).trans g6,(L.cell (p:=⟨_,7,none⟩) R).trans g7⟩,by simp⟩,by simp[intOf];omega⟩
    |false =>
     have G:Qr x.cls=1:=(by unfold Qr;simp[F]);have H:QE B.length x=1:=(by rw[c];simp[lst,F]);rw[H,if_neg (by decide)]at I;rw[G]at O;have C:Hid (v=.iface 52 (.int .i64 1)):=by
      unfold Hid;rw[<-J.out];unfold Zw;rw[I,if_pos (by decide)];rfl
     have i:Hid (∀w,Calls prog 57 #[.string x.cls] w fun e w'=>e=.returned (.iface 52 (.int .i64 1))/\Below w.heap.size w w'):=O;clear O c H G F I J;go_wp2_with (first|(go_fit (i.out _);rintro e w2⟨rfl,S⟩))
     cases C.out;go_ret;exact⟨rfl,Qa (M.alloc M.size _) Xl S⟩
  ·have E:Hid (Zh (QE B.length) A=0):=by
    rw[<-P.out,Xg (by omega)];rfl
   clear P;obtain rfl:k=A.length:=(by omega);by_cases h8:8<A.length
   ·have C:Hid (v=.iface 52 (.int .i64 4)):=by
     unfold Hid;rw[<-J.out];unfold Zw;rw[E.out,if_neg (by decide),if_pos h8];rfl
    clear J E;go_wp2_with fail;all_goals first|(exfalso;omega)|skip
    cases C.out;go_ret;exact⟨rfl,M⟩
   ·have C:Hid (v=.nilIface):=by
     unfold Hid;rw[<-J.out];unfold Zw;rw[E.out,if_neg (by decide),if_neg h8];rfl
    clear J E;go_wp2_with fail;all_goals first|(exfalso;omega)|skip
    cases C.out;go_ret;exact⟨rfl,M⟩
theorem qeJ(m:qc)(O P:Value)(w:World)(G:Qe w 6 Zv O m.code)(H:Qe w 4 Qp P m.handlers)(R:m.abs=true)(v:Value)(F:Qx (Zai m)=v):
 Calls prog 100 #[ZR m O P] w fun e w'=>e=.returned v/\Below w.heap.size w w':=by
 obtain⟨name,S,C,T,D,M,E,B⟩:=m;unfold ZR;obtain⟨p,cap,rfl,J,U,_⟩:=G.open;obtain⟨Y,V,rfl,L,X,_⟩:=H.open;clear G H;dsimp only at R F J L ⊢;subst R;have I:Hid (Qx (if (C||D||!E.isEmpty||!B.isEmpty)=true then 8 else 0)=v):=by
  unfold Hid;rw[<-F];unfold Zai;rfl
 clear F;go_enter func100,ntmps100;cases C with
 |true =>
  have A:Hid (v=.iface 52 (.int .i64 8)):=by rw[<-I.out];rfl
  go_wp2_with fail;cases A.out;go_ret;exact⟨rfl,Xb.alloc Xl _⟩
 |false =>
  cases D with
  |true =>
   have A:Hid (v=.iface 52 (.int .i64 8)):=(by rw[<-I.out];rfl);go_wp2_with fail;cases A.out;go_ret;exact⟨rfl,Xb.alloc Xl _⟩
  |false =>
   cases E with
   |cons y r =>
    have A:Hid (v=.iface 52 (.int .i64 8)):=(by rw[<-I.out];rfl);have N:0<(y::r).length:=(by simp);generalize (y::r).length=n at N J;go_wp2_with fail;all_goals first|(exfalso;omega)|skip
    cases A.out;go_ret;exact⟨rfl,Xb.alloc Xl _⟩
   |nil =>
    cases B with
    |cons y r =>
     have A:Hid (v=.iface 52 (.int .i64 8)):=(by rw[<-I.out];rfl);have N:0<(y::r).length:=(by simp);generalize (y::r).length=n at N L;go_wp2_with fail;all_goals first|(exfalso;omega)|skip
     cases A.out;go_ret;exact⟨rfl,Xb.alloc Xl _⟩
    |nil =>
     have A:Hid (v=.nilIface):=(by rw[<-I.out];rfl);go_wp2_with fail;cases A.out;go_ret;exact⟨rfl,Xb.alloc Xl _⟩
structure zL (w wx:World) (vals:List Value):Prop where
 below:Below w.heap.size w wx
 size:w.heap.size<wx.heap.size
 cells:qw wx w.heap.size 0 vals
theorem zL.step{w wx C:World}{A:List Value}(h:zL w wx A)(B:Below wx.heap.size wx C):zL w C A :=
 ⟨Qa h.below Xl B,Nat.lt_of_lt_of_le h.size B.size,h.cells.mono B h.size⟩
theorem zL.drew{w wx:World}{A:List Value}(h:zL w wx A):zL w wx.drew A:=h.step (Xb.drew)
theorem zL.alloc{w wx:World}{A:List Value}(h:zL w wx A)(o:Obj):zL w (wx.alloc o) A:=h.step (Xb.alloc Xl o)
theorem zbo{w wx:World}{A B C D E F G H:Value}(h:zL w wx [A,B,C,D,E,F,G,H]):
 wx.cell? ⟨w.heap.size,0,none⟩=some A/\wx.cell? ⟨w.heap.size,1,none⟩=some B/\wx.cell? ⟨w.heap.size,2,none⟩=some C/\wx.cell? ⟨w.heap.size,3,none⟩=some D /\
 wx.cell? ⟨w.heap.size,4,none⟩=some E/\wx.cell? ⟨w.heap.size,5,none⟩=some F/\wx.cell? ⟨w.heap.size,6,none⟩=some G/\wx.cell? ⟨w.heap.size,7,none⟩=some H:=by
 obtain⟨I,J,L,M,N,O,P,R,_⟩:=h.cells;exact⟨I,J,L,M,N,O,P,R⟩
theorem qef(m:qc)(X U:Value)(w:World)(hl:Qax w)(l:zay m)(P:Qe w 6 Zv X m.code)(hhv:Qe w 4 Qp U m.handlers)(n:m.abs=false)(v:Value)(Y:Qx (Zai m)=v):
 Calls prog 100 #[ZR m X U] w fun e w'=>e=.returned v/\Below w.heap.size w w':=by
 have F:Hid (∀wx,Below w.heap.size w wx->_):=fun wx i=>zcJ m.code X wx (hl.mono i hl.1) l.code (P.mono i (by decide) (fun _ _ h=>h))
 have G:Hid (∀wx,Below w.heap.size w wx->_):=fun wx i=>Zc7 m X U wx l.handlers (P.mono i (by decide) (fun _ _ h=>h)) (hhv.mono i (by decide) (fun _ _ h=>h)) _ rfl
 have R:Hid (∀wx,_):=fun wx=>ZeJ m X U wx l.type
 obtain⟨p,cap,rfl,hc1,hc2,g⟩:=P.open;have HC:=Xh g;clear g;have C:Hid (v=Qx (if ZC m.code≠0 then ZC m.code
  else if m.locals<qar m then 2 else if m.code.any fun x=>(x.op==4||x.op==5)&&decide (m.locals<=x.a) then 2 else Zw m.handlers m.code.length)):=by
  unfold Hid;rw[<-Y];unfold Zai;rw[if_neg (by simp[n])]
 clear P Y hl;unfold ZR at *;obtain⟨name,N,D,abs,O,A,B,J⟩:=m;clear l;dsimp only at *;subst n;generalize qar _=ac at *;rcases zB (ZC B) with⟨L,j⟩|⟨L,j⟩
 ·rw[j,if_neg (by decide)]at C;rw[L]at F;clear L j;go_enter func100,ntmps100;go_upto_region 8 with(go_fit (F.out _ (Xb.alloc Xl _));rintro e w2⟨rfl,T⟩)
  have E:zL w w2 [.string name,.string N,.bool D,.bool false,.bool O,.int .i64 A,.slice p B.length cap,U]:=⟨Qa (Xb.alloc Xl _) Xl T,Nat.lt_of_lt_of_le (by simp) T.size,qw.mono T (by simp) (by simp[qw])⟩;obtain⟨r,t,y,z,q4,q5,q6,q7⟩:=zbo E;clear T;go_cut [37] (fun s wx=>s=.bool (decide (A<(ac:Int)))/\zL w wx [.string name,.string N,.bool D,.bool false,.bool O,.int .i64 A,.slice p B.length cap,U])
  case first =>
   go_region_with (go_fit (R.out _);rintro e w3⟨rfl,hB3⟩;(have Z:=E.step (Qa Xb.drew Xl hB3));obtain⟨r0,r1,r2,r3,r4,r5,r6,r7⟩:=zbo Z)
   all_goals
    go_wp2
    go_meet;exact⟨rfl,Z⟩
  case rest =>
   obtain⟨rfl,E⟩:=hcut;clear r t y z q4 q5 q6 q7;obtain⟨r,t,y,z,q4,q5,q6,q7⟩:=zbo E;by_cases H:A<(ac:Int)
   ·rw[if_pos H]at C;have c:decide (A<(ac:Int))=true:=(by simpa using H);cases C.out;rw[c];clear H c HC G F R;go_wp2_with fail;go_ret;exact⟨rfl,E.below⟩
   ·rw[if_neg H]at C;have c:decide (A<(ac:Int))=false:=(by simpa using H);rw[c];clear H c F R;go_wp2_with fail;go_loopw [42] (fun x wr=>∃k,k<=B.length/\Hid (((B.drop k).any fun x=>(x.op==4||x.op==5)&&decide (A<=x.a))=(B.any fun x=>(x.op==4||x.op==5)&&decide (A<=x.a)))/\zL w wr [.string name,.string N,.bool D,.bool false,.bool O,.int .i64 A,.slice p B.length cap,U]/\x=.int .i64 k) (fun x _=>B.length-(intOf x).toNat)
    case atStart=>exact⟨0,by omega,rfl,E,rfl⟩
    case round =>
     obtain⟨k,hk,V,E,rfl⟩:=hrel;clear r t y z q4 q5 q6 q7;obtain⟨r,t,y,z,q4,q5,q6,q7⟩:=zbo E;have hsz:=E.size;have hlen:B.length<=9223372036854775807:=Xf hc1 hc2;by_cases hkl:k<B.length
     ·obtain⟨x,hx⟩:∃x,B[k]? = some x:=⟨B[k],by simp[hkl]⟩;obtain⟨b,o,vs,rfl,rfl,_,q⟩:=HC.out k x hx;have q:=q.mono E.below q.lt;have S:=ZbQ (fun x=>(x.op==4||x.op==5)&&decide (A<=x.a)) B k x hx;rw[V.out]at S;have HX:=Xh hx;clear hx;obtain⟨c0,c1,c2,c3,c4,c5,_⟩:=q;obtain⟨k4,h4⟩:∃k,(x.op==4)=k:=⟨_,rfl⟩;obtain⟨k5,h5⟩:∃k,(x.op==5)=k:=⟨_,rfl⟩;obtain⟨ka,n⟩:∃k,decide (A<=x.a)=k:=⟨_,rfl⟩;rw[h4,h5,n]at S;cases I:(k4||k5)&&ka with
      |true =>
       rw[I,Bool.true_or]at S;have M:Hid (v=.iface 52 (.int .i64 2)):=(by rw[C.out,if_pos S];rfl);have d:=Xh I;clear I S C G;cases k4<;>cases k5<;>cases ka<;>try (exact absurd d.out (by decide))
       all_goals
        clear d;go_wp2_with fail;cases M.out;go_ret;exact⟨rfl,(E.alloc _).below⟩
      |false =>
       rw[I,Bool.false_or]at S;have d:=Xh I;have hst:=Xh S.symm;clear I S C G;cases k4<;>cases k5<;>cases ka<;>try (exact absurd d.out (by decide))
       all_goals
        clear d;go_wp2_with fail;exact⟨⟨k+1,by omega,hst.out,E.alloc _,by simp⟩,by simp[intOf];omega⟩
     ·have f:Hid ((B.any fun x=>(x.op==4||x.op==5)&&decide (A<=x.a))=false):=by
       rw[<-V.out,Xg (by omega)];rfl
      clear V;obtain rfl:k=B.length:=(by omega);have M:Hid (v=Qx (Zw J B.length)):=(by rw[C.out,if_neg (by rw[f.out];decide)];rfl);clear f C;rw[<-M.out]at G;go_wp2_with (go_fit (G.out _ E.below);rintro e w2⟨rfl,T⟩)
      go_ret;exact⟨rfl,Qa E.below Xl T⟩
 ·rw[if_pos j,L]at C;rw[L]at F;generalize ZC B=cf at *;clear L j R G;go_enter func100,ntmps100;go_wp2_with (go_fit (F.out _ (Xb.alloc Xl _));rintro e w2⟨rfl,T⟩)
  cases C.out;go_ret;exact⟨rfl,Qa (Xb.alloc Xl _) Xl T⟩
theorem QeJ(m:qc)(C D:Value)(w:World)(F:Qax w)(G:zay m)(A:Qe w 6 Zv C m.code)(B:Qe w 4 Qp D m.handlers):
 Calls prog 100 #[ZR m C D] w fun e w'=>e=.returned (Qx (Zai m))/\Below w.heap.size w w':=by
 cases E:m.abs with
 |true=>exact qeJ m C D w A B E _ rfl
 |false=>exact qef m C D w F G A B E _ rfl
def Qbl{α:Type}(f:α->Bool)(l:List α):Int:=match l.findIdx? f with|some i=>i|none=>-1
theorem zbP{α:Type}{f:α->Bool}{l:List α}{k:Nat}{x:α}(h:l[k]? = some x)(A:f x=true)(B:∀j y,j<k->l[j]? = some y->f y=false):Qbl f l=k:=by
 obtain⟨C,rfl⟩:=List.getElem?_eq_some_iff.1 h;unfold Qbl;have:l.findIdx? f=some k:=by
  rw[List.findIdx?_eq_some_iff_getElem];exact⟨C,A,fun j D=>by simp[B j _ D (Xn (by omega))]⟩
 rw[this]
theorem Qbv{α:Type}{f:α->Bool}{l:List α}(B:∀j y,j<l.length->l[j]? = some y->f y=false):Qbl f l = -1:=by
 unfold Qbl;have:l.findIdx? f=none:=by
  rw[List.findIdx?_eq_none_iff];intro x C;obtain⟨j,A,rfl⟩:=List.getElem_of_mem C;exact B j _ A (Xn A)
 rw[this]
theorem Zco{α:Type}(f:α->Bool)(l:List α):decide (0<=Qbl f l)=l.any f:=by
 unfold Qbl;cases h:l.findIdx? f with
 |none =>
  rw[List.findIdx?_eq_none_iff]at h;have:l.any f=false:=by rw[List.any_eq_false];intro x C;simp[h x C]
  rw[this];rfl
 |some i =>
  rw[List.findIdx?_eq_some_iff_getElem]at h;obtain⟨A,B,_⟩:=h;have:l.any f=true:=by rw[List.any_eq_true];exact⟨_,List.getElem_mem A,B⟩
  rw[this];simp
theorem Zbo{α:Type}(R:α->List Value->Prop)(f:α->Bool)(g:Nat)(Z:Array Value)(r:∀args w,(callFunc g args).run prog w=.ok (.enter g args) w)(l:List α)(v:Value)(w:World)(h:Qe w 8 R v l)(a:∀W x J L M N O P S T,x∈l->R x [J,L,M,N,O,P,S,T]->Below w.heap.size w W->Calls prog g (#[.agg #[J,L,M,N,O,P,S,T]]++Z) W fun e w'=>e=.returned (.bool (f x))/\Below W.heap.size W w'):
 Calls prog 26 #[v,.func (.func g) #[] Z] w fun e w'=>e=.returned (.int .i64 (Qbl f l))/\Below w.heap.size w w':=by
 obtain⟨p,cap,rfl,n,q,E⟩:=h.open;have U:=Xh E;clear E h;have V:=Xh a;clear a;have c:l.length<=9223372036854775807:=Xf n q;go_enter func26,ntmps26;go_wp2_with fail;go_loopw [5,8] (fun _ x wr=>∃k,k<=l.length/\Hid (∀j y,j<k->l[j]? = some y->f y=false)/\Below w.heap.size w wr/\x=.int .i64 k) (fun _ x _=>l.length-(intOf x).toNat)
 case atStart=>exact⟨0,by omega,fun j y h=>by omega,Xb,rfl⟩
 case round =>
  obtain⟨k,s,B,F,rfl⟩:=hrel;by_cases X:k<l.length
  ·obtain⟨x,I⟩:∃x,l[k]? = some x:=⟨l[k],by simp[X]⟩;obtain⟨b,o,vs,rfl,i,G,H⟩:=U.out k x I;have H:=H.mono F (by match vs,G with|_::_,_=>exact H.lt);match vs,G with
   |[J,L,M,N,O,P,S,T],_ =>
   have A:=V.out wr x J L M N O P S T (Xe I) i F;have d:=Xh I;clear I i;obtain⟨t,z,c2,c3,c4,c5,c6,c7,_⟩:=H;cases D:f x with
   |true =>
    rw[D]at A;have Y:=Xh D;clear D V U;go_wp2_with (go_at_fn g;refine A.mono ?_;rintro e w'⟨rfl,C⟩)
    go_ret;exact⟨by rw[zbP d.out Y.out B.out];rfl,Qa F Xl C⟩
   |false =>
    rw[D]at A;have Y:=Xh D;clear D V U;go_wp2_with (go_at_fn g;refine A.mono ?_;rintro e w'⟨rfl,C⟩)
    refine⟨⟨k+1,by omega,fun j y hj m=>?_,Qa F Xl C,by simp⟩,by simp[intOf];omega⟩;by_cases e:j=k
    ·subst e;have:=d.out;rw[m]at this;injection this with this;rw[this];exact Y.out
    ·exact B.out j y (by omega) m
  ·obtain rfl:k=l.length:=(by omega);go_wp2_with fail;go_ret;exact⟨by rw[Qbv B.out];rfl,F⟩
theorem qco{α:Type}(R:α->List Value->Prop)(f:α->Bool)(g:Nat)(A:Array Value)(M:∀args w,(callFunc g args).run prog w=.ok (.enter g args) w)(l:List α)(v:Value)(w:World)(h:Qe w 8 R v l)(C:∀W x D E F G H I J L,x∈l->R x [D,E,F,G,H,I,J,L]->Below w.heap.size w W->Calls prog g (#[.agg #[D,E,F,G,H,I,J,L]]++A) W fun e w'=>e=.returned (.bool (f x))/\Below W.heap.size W w'):
 Calls prog 98 #[v,.func (.func g) #[] A] w fun e w'=>e=.returned (.bool (l.any f))/\Below w.heap.size w w':=by
 rw[<-Zco];have N:=Xh (Zbo R f g A M l v w h C);obtain⟨p,cap,rfl,O,P,_⟩:=h.open;clear C h;generalize Qbl f l=r at *;go_enter func98,ntmps98;go_wp2_with (go_at_call 26;refine N.out.mono ?_;rintro e w'⟨rfl,B⟩)
 go_ret;exact⟨rfl,B⟩
theorem ZcJ{α:Type}(R:α->List Value->Prop)(f:α->Bool)(g:Nat)(S:Array Value)(c:∀args w,(callFunc g args).run prog w=.ok (.enter g args) w)(l:List α)(v:Value)(w:World)(h:Qe w 2 R v l)(T:∀W x J L,x∈l->R x [J,L]->Below w.heap.size w W->Calls prog g (#[.agg #[J,L]]++S) W fun e w'=>e=.returned (.bool (f x))/\Below W.heap.size W w'):
 Calls prog 97 #[v,.func (.func g) #[] S] w fun e w'=>e=.returned (.int .i64 (Qbl f l))/\Below w.heap.size w w':=by
 obtain⟨p,cap,rfl,Z,a,E⟩:=h.open;have M:=Xh E;clear E h;have N:=Xh T;clear T;have U:l.length<=9223372036854775807:=Xf Z a;go_enter func97,ntmps97;go_wp2_with fail;go_loopw [5,8] (fun _ x wr=>∃k,k<=l.length/\Hid (∀j y,j<k->l[j]? = some y->f y=false)/\Below w.heap.size w wr/\x=.int .i64 k) (fun _ x _=>l.length-(intOf x).toNat)
 case atStart=>exact⟨0,by omega,fun j y h=>by omega,Xb,rfl⟩
 case round =>
  obtain⟨k,d,B,F,rfl⟩:=hrel;by_cases O:k<l.length
  ·obtain⟨x,I⟩:∃x,l[k]? = some x:=⟨l[k],by simp[O]⟩;obtain⟨b,o,vs,rfl,X,G,H⟩:=M.out k x I;have H:=H.mono F (by match vs,G with|_::_,_=>exact H.lt);match vs,G with
   |[J,L],_ =>
   have A:=N.out wr x J L (Xe I) X F;have V:=Xh I;clear I X;obtain⟨i,m,_⟩:=H;cases D:f x with
   |true =>
    rw[D]at A;have P:=Xh D;clear D N M;go_wp2_with (go_at_fn g;refine A.mono ?_;rintro e w'⟨rfl,C⟩)
    go_ret;exact⟨by rw[zbP V.out P.out B.out];rfl,Qa F Xl C⟩
   |false =>
    rw[D]at A;have P:=Xh D;clear D N M;go_wp2_with (go_at_fn g;refine A.mono ?_;rintro e w'⟨rfl,C⟩)
    refine⟨⟨k+1,by omega,fun j y n Y=>?_,Qa F Xl C,by simp⟩,by simp[intOf];omega⟩;by_cases e:j=k
    ·subst e;have:=V.out;rw[Y]at this;injection this with this;rw[this];exact P.out
    ·exact B.out j y (by omega) Y
  ·obtain rfl:k=l.length:=(by omega);go_wp2_with fail;go_ret;exact⟨by rw[Qbv B.out];rfl,F⟩
theorem qcI{α:Type}(R:α->List Value->Prop)(f:α->Bool)(g:Nat)(A:Array Value)(F:∀args w,(callFunc g args).run prog w=.ok (.enter g args) w)(l:List α)(v:Value)(w:World)(h:Qe w 2 R v l)(C:∀W x D E,x∈l->R x [D,E]->Below w.heap.size w W->Calls prog g (#[.agg #[D,E]]++A) W fun e w'=>e=.returned (.bool (f x))/\Below W.heap.size W w'):
 Calls prog 59 #[v,.func (.func g) #[] A] w fun e w'=>e=.returned (.bool (l.any f))/\Below w.heap.size w w':=by
 rw[<-Zco];have G:=Xh (ZcJ R f g A F l v w h C);obtain⟨p,cap,rfl,H,I,_⟩:=h.open;clear C h;generalize Qbl f l=r at *;go_enter func59,ntmps59;go_wp2_with (go_at_call 97;refine G.out.mono ?_;rintro e w'⟨rfl,B⟩)
 go_ret;exact⟨rfl,B⟩
theorem Qco{α:Type}(R:α->List Value->Prop)(f:α->Bool)(g:Nat)(P:Array Value)(c:∀args w,(callFunc g args).run prog w=.ok (.enter g args) w)(l:List α)(v:Value)(w:World)(h:Qe w 1 R v l)(S:∀W x J,x∈l->R x [J]->Below w.heap.size w W->Calls prog g (#[J]++P) W fun e w'=>e=.returned (.bool (f x))/\Below W.heap.size W w'):
 Calls prog 101 #[v,.func (.func g) #[] P] w fun e w'=>e=.returned (.int .i64 (Qbl f l))/\Below w.heap.size w w':=by
 obtain⟨p,cap,rfl,Y,Z,E⟩:=h.open;have L:=Xh E;clear E h;have M:=Xh S;clear S;have T:l.length<=9223372036854775807:=Xf Y Z;go_enter func101,ntmps101;go_wp2_with fail;go_loopw [5,8] (fun _ x wr=>∃k,k<=l.length/\Hid (∀j y,j<k->l[j]? = some y->f y=false)/\Below w.heap.size w wr/\x=.int .i64 k) (fun _ x _=>l.length-(intOf x).toNat)
 case atStart=>exact⟨0,by omega,fun j y h=>by omega,Xb,rfl⟩
 case round =>
  obtain⟨k,d,B,F,rfl⟩:=hrel;by_cases N:k<l.length
  ·obtain⟨x,I⟩:∃x,l[k]? = some x:=⟨l[k],by simp[N]⟩;obtain⟨b,o,vs,rfl,V,G,H⟩:=L.out k x I;have H:=H.mono F (by match vs,G with|_::_,_=>exact H.lt);match vs,G with
   |[J],_ =>
   have A:=M.out wr x J (Xe I) V F;have U:=Xh I;clear I V;obtain⟨a,_⟩:=H;rw[Nat.mul_one]at a;cases D:f x with
   |true =>
    rw[D]at A;have O:=Xh D;clear D M L;go_wp2_with (go_at_fn g;refine A.mono ?_;rintro e w'⟨rfl,C⟩)
    go_ret;exact⟨by rw[zbP U.out O.out B.out];rfl,Qa F Xl C⟩
   |false =>
    rw[D]at A;have O:=Xh D;clear D M L;go_wp2_with (go_at_fn g;refine A.mono ?_;rintro e w'⟨rfl,C⟩)
    refine⟨⟨k+1,by omega,fun j y i X=>?_,Qa F Xl C,by simp⟩,by simp[intOf];omega⟩;by_cases e:j=k
    ·subst e;have:=U.out;rw[X]at this;injection this with this;rw[this];exact O.out
    ·exact B.out j y (by omega) X
  ·obtain rfl:k=l.length:=(by omega);go_wp2_with fail;go_ret;exact⟨by rw[Qbv B.out];rfl,F⟩
theorem zcp{α:Type}(R:α->List Value->Prop)(f:α->Bool)(g:Nat)(A:Array Value)(E:∀args w,(callFunc g args).run prog w=.ok (.enter g args) w)(l:List α)(v:Value)(w:World)(h:Qe w 1 R v l)(C:∀W x D,x∈l->R x [D]->Below w.heap.size w W->Calls prog g (#[D]++A) W fun e w'=>e=.returned (.bool (f x))/\Below W.heap.size W w'):
 Calls prog 63 #[v,.func (.func g) #[] A] w fun e w'=>e=.returned (.bool (l.any f))/\Below w.heap.size w w':=by
 rw[<-Zco];have F:=Xh (Qco R f g A E l v w h C);obtain⟨p,cap,rfl,G,H,_⟩:=h.open;clear C h;generalize Qbl f l=r at *;go_enter func63,ntmps63;go_wp2_with (go_at_call 101;refine F.out.mono ?_;rintro e w'⟨rfl,B⟩)
 go_ret;exact⟨rfl,B⟩
theorem Zay(a b:ByteArray):(a.toList==b.toList)=decide (a=b):=by
 rw[Bool.eq_iff_iff];simp only[beq_iff_eq,decide_eq_true_eq,ByteArray.toList_eq];constructor
 ·intro h;exact ByteArray.ext (Array.toList_inj.1 h)
 ·rintro rfl;rfl
theorem Qao(l:List ByteArray)(v:Value)(x:ByteArray)(w:World)(h:qp w v l):Calls prog 58 #[v,.string x] w fun e w'=>e=.returned (.bool (zak l x))/\w=w':=by
 obtain⟨p,cap,rfl,B,C,A⟩:=h.open;cases l with
 |nil=>exact(Tryz.slices_Contains_string_empty p cap x w).mono fun e w' ⟨B,C⟩=>⟨B,C.symm⟩
 |cons y r =>
  obtain⟨b,o,_,rfl,_⟩:=A 0 y rfl;refine(Tryz.slices_Contains_string b o _ cap (y::r) x w Xl (Xf B C) ?_).mono ?_
  ·intro j I;obtain⟨b',J,vs,D,G,_,H⟩:=A j (y::r)[j] (by simp);injection D with D;injection D with E F;subst E F
   unfold qt at G;subst G;rw[List.getD_eq_getElem?_getD,Xn I];have:=H.1;rwa [Nat.mul_one]at this
  ·rintro e w'⟨rfl,rfl⟩;refine⟨?_,rfl⟩;congr 2;rw[List.take_length,Bool.eq_iff_iff,QF,Lib.containsS_iff]
theorem Qe.take{α:Type}{w:World}{k:Nat}{R:α->List Value->Prop}{p:Option Addr}{n cap:Nat}{l:List α}(h:Qe w k R (.slice p n cap) l)(D:n=l.length){i:Nat}{b o:Nat}(E:p=some ⟨b,o,none⟩)(F:i<=l.length):
 Qe w k R (.slice p i cap) (l.take i):=by
 subst E D;rcases h with⟨h,_⟩|⟨a,C,G,L,H,I⟩
 ·simp at h
 ·injection G with B M J
  injection B with B
  subst B J;refine Or.inr ⟨_,cap,by rw[List.length_take,Nat.min_eq_left F],by rw[List.length_take];omega,H,fun j x A=>I j x ?_⟩;rw[List.getElem?_take]at A;split at A
  ·exact A
  ·simp at A
theorem Zdm(x:qc)(J L:Value)(F G:ByteArray)(B:Nat)(w:World)(P:B<w.heap.size)(M:w.cell? ⟨B,0,none⟩=some (.string F))(N:w.cell? ⟨B,1,none⟩=some (.string G)):
 Calls prog 99 #[ZR x J L,.pointer (some ⟨B,0,none⟩)] w fun e w'=>e=.returned (.bool (decide (x.name=F)&&decide (x.type=G)))/\Below w.heap.size w w':=by
 obtain⟨name,C,D,O,H,E,I,A⟩:=x;unfold ZR;dsimp only;rw[<-Zay,<-Zay];cases M:name.toList==F.toList<;>cases N:C.toList==G.toList
 all_goals
  go_enter func99,ntmps99;go_wp2
  go_ret;exact⟨rfl,Xb.alloc Xl _⟩
theorem ZdK(x:QJ)(A:ByteArray)(B:Nat)(w:World)(E:B<w.heap.size)(D:w.cell? ⟨B,0,none⟩=some (.string A)):
 Calls prog 60 #[.agg #[.string x.name,.string x.type],.pointer (some ⟨B,0,none⟩)] w fun e w'=>e=.returned (.bool (decide (x.name=A)))/\Below w.heap.size w w':=by
 obtain⟨name,C⟩:=x;dsimp only;rw[<-Zay];cases D:name.toList==A.toList;all_goals
  go_enter func60,ntmps60;go_wp2
  go_ret;exact⟨rfl,Xb.alloc Xl _⟩
theorem qdK(m:qc)(i j:Value)(B:List qc)(k:Value)(w:World)(q:Qax w)(l:zay m)(Y:Qe w 6 Zv i m.code)(Z:Qe w 4 Qp j m.handlers)(a:Qe w 8 (zo w) k B)(v:Value)(b:Qx (ZH m B)=v):
 Calls prog 61 #[ZR m i j,k] w fun e w'=>e=.returned v/\Below w.heap.size w w':=by
 have F:Hid (∀wx,_):=fun wx=>zR m.name wx (Xf l.name (by decide))
 have G:Hid (∀wx,_):=fun wx=>zaz m.type wx l.type
 have D:Hid (∀wx,Below w.heap.size w wx->_):=fun wx X=>QeJ m i j wx (q.mono X q.1) l (Y.mono X (by decide) (fun _ _ h=>h)) (Z.mono X (by decide) (fun _ _ h=>h))
 have H:Hid (∀wx,Below w.heap.size w wx->w.heap.size<wx.heap.size->wx.cell? ⟨w.heap.size,0,none⟩=some (.string m.name)->wx.cell? ⟨w.heap.size,1,none⟩=some (.string m.type)->Calls prog 98 #[k,.func (.func 99) #[] #[.pointer (some ⟨w.heap.size,0,none⟩)]] wx fun e w'=>e=.returned (.bool (B.any fun x=>decide (x.name=m.name)&&decide (x.type=m.type)))/\Below wx.heap.size wx w'):=by
  intro wx X z h0 h1;refine qco (zo wx) (fun x=>decide (x.name=m.name)&&decide (x.type=m.type)) 99 _ (enters_of func99 (by kernel_rfl) rfl) B k wx (a.mono X (by decide) (fun _ _ h=>h.mono X)) ?_;rintro W x a0 a1 a2 a3 a4 a5 a6 a7 hx⟨c,h,hh,_,_⟩s;simp only[List.cons.injEq]at hh;obtain⟨rfl,rfl,rfl,rfl,rfl,rfl,rfl,rfl,_⟩:=hh;show Calls prog 99 #[ZR x a6 a7,.pointer (some ⟨w.heap.size,0,none⟩)] W _
  exact Zdm x a6 a7 _ _ _ W (Nat.lt_of_lt_of_le z s.size) ((s.cell (p:=⟨_,0,none⟩) z).trans h0) ((s.cell (p:=⟨_,1,none⟩) z).trans h1)
 have hmf:∀fn first cap w,(Instr.makeFunc fn first cap).run prog w=.ok (.func fn first cap) w:=fun _ _ _ _=>rfl
 have E:Hid (v=Qx (if !zD (lst m.name) then 1 else if (Zl m.type).isNone then 1 else if B.any fun x=>decide (x.name=m.name)&&decide (x.type=m.type) then 5 else if m.locals<0\/8<m.locals then 2 else Zai m)):=b.symm;generalize (B.any fun x=>decide (x.name=m.name)&&decide (x.type=m.type))=tw at *;clear b q l Y Z a;unfold ZR at *;generalize Zai m=bf at *;obtain⟨name,P,L,r,f,C,aA,V⟩:=m;dsimp only at *;cases U:zD name.data.toList with
 |false =>
  have A:Hid (v=.iface 52 (.int .i64 1)):=by rw[E.out];simp[lst,U,Qx,Hid]
  have I:Qx (Qr name)=.iface 52 (.int .i64 1):=by unfold Qr;simp[U,Qx]
  rw[I]at F;clear E U I G D H;go_enter func61,ntmps61;go_wp2_with (go_fit (F.out _);rintro e w2⟨rfl,R⟩)
  cases A.out;go_ret;exact⟨rfl,Qa (Xb.alloc Xl _) Xl R⟩
 |true =>
  have I:Qx (Qr name)=.nilIface:=by unfold Qr;simp[U,Qx]
  rw[I]at F;rw[show zD (lst name)=true from U]at E;clear U I;cases n:Zl P with
  |none =>
   rw[n]at G E;have A:Hid (v=.iface 52 (.int .i64 1)):=(by rw[E.out];rfl);clear E n D H;go_enter func61,ntmps61;go_wp2_with (first|(go_fit (F.out _);rintro e w2⟨rfl,R⟩;obtain⟨M,_⟩:=zaO R;(have S:=M w.heap.size 1 (by simp)))|(go_fit (G.out _);rintro e w3⟨N,rfl⟩))
   cases A.out;go_ret;exact⟨rfl,Qa (Qa (Xb.alloc Xl _) Xl R) Xl N⟩
  |some ag =>
   obtain⟨args,g⟩:=ag;rw[n]at G E;clear n;go_enter func61,ntmps61;go_upto_region 6 with(first|(go_fit (F.out _);rintro e w2⟨rfl,R⟩;obtain⟨M,_⟩:=zaO R;(have S:=M w.heap.size 1 (by simp)))|(go_fit (G.out _);rintro e w3⟨N,mv,rfl,t⟩))
   have J:zL w w3 [.string name,.string P,.bool L,.bool r,.bool f,.int .i64 C,i,j]:=zL.step (zL.step (wx:=w.alloc _) ⟨Xb.alloc Xl _,by simp,by simp[qw]⟩ R) N;clear S M R N t;obtain⟨o,S,q2,q3,q4,q5,q6,q7⟩:=zbo J;have T:=J.size;cases tw with
   |true =>
    have A:Hid (v=.iface 52 (.int .i64 5)):=(by rw[E.out];rfl);clear E D;go_wp2_with (go_fit (H.out _ J.below T o S);rintro e w4⟨rfl,O⟩)
    cases A.out;go_ret;exact⟨rfl,(J.step O).below⟩
   |false =>
    go_upto_region 8 with(go_fit (H.out _ J.below T o S);rintro e w4⟨rfl,O⟩)
    replace J:=J.step O;clear o S q2 q3 q4 q5 q6 q7 T O H;obtain⟨o,S,q2,q3,q4,q5,q6,q7⟩:=zbo J;by_cases d:C<0\/8<C
    ·have A:Hid (v=.iface 52 (.int .i64 2)):=(by rw[E.out];simp only[d];rfl);clear E D;go_wp2_with fail;all_goals first|(exfalso;omega)|skip
     all_goals
      cases A.out;go_ret;exact⟨rfl,J.below⟩
    ·have A:Hid (v=Qx bf):=(by rw[E.out];simp only[d];rfl);rw[<-A.out]at D;clear E;go_wp2_with (go_fit (D.out _ J.below);rintro e w5⟨rfl,y⟩)
     all_goals first|(exfalso;omega)|skip
     go_ret;exact⟨rfl,(J.step y).below⟩
