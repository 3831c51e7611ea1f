/- Lemmas; conditions: as each states. -/
import Derived.Test.YtmclocdhcblbiaaGreatDoorFlow
import Derived.Deep.RegionWith
import Derived.Shelf.GgClosure.Gives
set_option maxHeartbeats 4000000
namespace Go.Proofs.YtmclocdhcblbiaaGreatDoor
open Go.RowKit Go.Shelf Go.Lib
theorem qe.open{α:Type}{w:World}{k:Nat}{R:α->List Value->Prop}{v:Value}{l:List α}(h:qe w k R v l):
 ∃p cap,v=.slice p l.length cap/\l.length<=cap/\cap<=maxLen/\∀i x,l[i]? = some x->∃b o vs,p=some ⟨b,o,none⟩/\R x vs/\vs.length=k/\QB w b (o+i*k) vs:=by
 rcases h with⟨rfl,rfl⟩|⟨a,cap,E,F,G,H⟩
 ·exact⟨none,0,rfl,Xl,Nat.zero_le _,fun i x h=>by simp at h⟩
 ·refine⟨some a,cap,E,F,G,fun i x h=>?_⟩;obtain⟨vs,A,B,C,D⟩:=H i x h;exact⟨a.block,a.off,vs,by rw[<-C],A,B,D⟩
structure ZW (x:QT):Prop where
 lo:ZbZ x.lo
 hi:ZbZ x.hi
 dest:ZbZ x.dest
 cls:x.cls.size<=1048576
structure Zav (m:zg):Prop where
 name:m.name.size<=1048576
 type:m.type.size<=1048576
 locals:ZbZ m.locals
 code:∀x∈m.code,ZbO x
 handlers:∀x∈m.handlers,ZW x
def qP(m:zg)(cv hv:Value):Value:=.agg #[.string m.name,.string m.type,.bool m.static,.bool m.abs,.bool m.priv,.int .i64 m.locals,cv,hv]
theorem qcH{m:zg}(h:qi m.type=none):qap m=0:=by unfold qap;rw[h]
theorem qaY{m:zg}{args:List ByteArray}{g:ByteArray}(h:qi m.type=some (args,g)):qap m=if m.static then args.length else args.length+1:=by unfold qap;rw[h]
theorem Qat{s:ByteArray}{args:List ByteArray}{g:ByteArray}(h:qi s=some (args,g)):args.length<=5:=by
 unfold qi Zw at h;split at h
 ·rename_i A;injection h with h;rw[Prod.mk.injEq]at h;rw[<-h.1];exact A.2.1
 ·simp at h
theorem zeG(m:zg)(N O:Value)(w:World)(P:m.type.size<=1048576):
 Calls Tryz.prog 130 #[qP m N O] w fun e w'=>e=.returned (.int .i64 (qap m))/\Below w.heap.size w w':=by
 have D:∀w,_:=fun w=>Qav m.type w P
 obtain⟨J,A,B,R,L,F,M,E⟩:=m;unfold qP;cases C:qi A with
 |none =>
  rw[qcH C];replace D:Hid (∀w,Calls Tryz.prog 28 #[.string A] w (qaB w none)):=fun w=>C▸D w
  clear C;go_enter Tryz.func130,Tryz.ntmps130;go_wp2_with (first|(go_fit (D.out _);rintro e U⟨G,rfl⟩))
  go_ret;exact⟨rfl,Qa (Xb.alloc Xl _) Xl G⟩
 |some V =>
  obtain⟨args,g⟩:=V;have X:=Qat C;rw[qaY C];replace D:Hid (∀w,Calls Tryz.prog 28 #[.string A] w (qaB w (some (args,g)))):=fun w=>C▸D w
  clear C;cases B;all_goals
   go_enter Tryz.func130,Tryz.ntmps130;go_wp2_with (first|(go_fit (D.out _);rintro e U⟨G,v,rfl,I⟩;obtain⟨p,cap,rfl,S,T,_⟩:=I.open;obtain⟨H,_⟩:=QaJ G;(have Y:=H w.heap.size 2 (by simp))))
   go_ret;exact⟨rfl,Qa (Xb.alloc Xl _) Xl G⟩
set_option maxRecDepth 100000
theorem Qc4(m:zg)(r s:Value)(w:World)(t:∀x∈m.handlers,ZW x)(T:qe w 6 qw r m.code)(U:qe w 4 qq s m.handlers)(v:Value)(N:ZB (zw m.handlers m.code.length)=v):
 Calls Tryz.prog 131 #[qP m r s] w fun e w'=>e=.returned v/\Below w.heap.size w w':=by
 obtain⟨name,type,d,abs,priv,f,B,A⟩:=m;unfold qP;obtain⟨p,cap,rfl,j,hc2,l⟩:=T.open;obtain⟨ph,n,rfl,X,q,Y⟩:=U.open;clear l T U;have y:=Xh Y;clear Y;have z:=Xh t;clear t;dsimp only at N y z j X ⊢;have aA:A.length<=9223372036854775807:=Xf X q;have J:Hid (ZB (zw A B.length)=v):=N;clear N;go_enter Tryz.func131,Tryz.ntmps131;go_wp2_with fail;go_loopw [8] (fun x wr=>∃k,k<=A.length/\Hid (Zh (ZE B.length) (A.drop k)=Zh (ZE B.length) A)/\(Below w.heap.size w wr/\w.heap.size<wr.heap.size/\wr.cell? ⟨w.heap.size,6,none⟩=some (.slice p B.length cap)/\wr.cell? ⟨w.heap.size,7,none⟩=some (.slice ph A.length n))/\x=.int .i64 k) (fun x _=>A.length-(intOf x).toNat)
 case atStart=>exact⟨0,by omega,rfl,⟨Xb.alloc Xl _,by simp,by simp,by simp⟩,rfl⟩
 case round =>
  obtain⟨k,hk,P,⟨M,R,g6,g7⟩,rfl⟩:=hrel;by_cases g:k<A.length
  ·obtain⟨x,Z⟩:∃x,A[k]? = some x:=⟨A[k],by simp[g]⟩;obtain⟨b,o,vs,rfl,rfl,_,a⟩:=y.out k x Z;have a:=a.mono M a.lt;have V:=z.out x (Xe Z);have I:=Qar (ZE B.length) A k x Z;rw[P.out]at I;have O:=fun w=>ZP x.cls w (Xf V.cls (by decide))
   have HX:=Xh Z;clear Z V;obtain⟨c0,c1,c2,c3,_⟩:=a;by_cases D:x.lo<0\/x.hi<=x.lo\/(B.length:Int)<x.hi\/x.dest<0\/(B.length:Int)<=x.dest
   ·have h2:ZE B.length x=2:=(by unfold ZE;rw[if_pos D]);rw[h2,if_neg (by decide)]at I;have C:Hid (v=.iface 52 (.int .i64 2)):=by
     unfold Hid;rw[<-J.out];unfold zw;rw[I,if_pos (by decide)];rfl
    clear h2 I O J;have HB:=Xh D;clear D;go_wp2_with fail;all_goals first|(exfalso;have:=HB.out;omega)|skip
    all_goals
     cases C.out;go_ret;exact⟨rfl,M.alloc M.size _⟩
   ·have c:ZE B.length x=if Zx (lst x.cls) then 0 else 1:=(by unfold ZE;rw[if_neg D]);simp only[not_or,Int.not_lt,Int.not_le]at D;obtain⟨b1,b2,b3,b4,b5⟩:=D;cases F:Zx x.cls.data.toList with
    |true =>
     have G:Qr x.cls=0:=(by unfold Qr;simp[F]);have H:ZE B.length x=0:=(by rw[c];simp[lst,F]);rw[H,if_pos rfl]at I;rw[G]at O;have h:=Xh I.symm;have i:Hid (∀w,Calls Tryz.prog 57 #[.string x.cls] w fun e w'=>e=.returned .nilIface/\Below w.heap.size w w'):=O;clear O c H G F I J;go_wp2_with (first|(go_fit (i.out _);rintro e w2⟨rfl,S⟩))
     have L:=Qa ((Below.refl wr.heap.size wr).alloc Xl (.cells #[.int .i64 x.lo,.int .i64 x.hi,.int .i64 x.dest,.string x.cls] 56)) Xl S;exact⟨⟨k+1,by omega,h.out,⟨Qa M Xl L,Nat.lt_of_lt_of_le R L.size,(L.cell (p:=⟨_,6,none⟩) R).trans g6,(L.cell (p:=⟨_,7,none⟩) R).trans g7⟩,by simp⟩,by simp[intOf];omega⟩
    |false =>
     have G:Qr x.cls=1:=(by unfold Qr;simp[F]);have H:ZE B.length x=1:=(by rw[c];simp[lst,F]);rw[H,if_neg (by decide)]at I;rw[G]at O;have C:Hid (v=.iface 52 (.int .i64 1)):=by
      unfold Hid;rw[<-J.out];unfold zw;rw[I,if_pos (by decide)];rfl
     have i:Hid (∀w,Calls Tryz.prog 57 #[.string x.cls] w fun e w'=>e=.returned (.iface 52 (.int .i64 1))/\Below w.heap.size w w'):=O;clear O c H G F I J;go_wp2_with (first|(go_fit (i.out _);rintro e w2⟨rfl,S⟩))
     cases C.out;go_ret;exact⟨rfl,Qa (M.alloc M.size _) Xl S⟩
  ·have E:Hid (Zh (ZE B.length) A=0):=by
    rw[<-P.out,Xg (by omega)];rfl
   clear P;obtain rfl:k=A.length:=(by omega);by_cases h8:8<A.length
   ·have C:Hid (v=.iface 52 (.int .i64 4)):=by
     unfold Hid;rw[<-J.out];unfold zw;rw[E.out,if_neg (by decide),if_pos h8];rfl
    clear J E;go_wp2_with fail;all_goals first|(exfalso;omega)|skip
    cases C.out;go_ret;exact⟨rfl,M⟩
   ·have C:Hid (v=.nilIface):=by
     unfold Hid;rw[<-J.out];unfold zw;rw[E.out,if_neg (by decide),if_neg h8];rfl
    clear J E;go_wp2_with fail;all_goals first|(exfalso;omega)|skip
    cases C.out;go_ret;exact⟨rfl,M⟩
theorem ZeG(m:zg)(O P:Value)(w:World)(G:qe w 6 qw O m.code)(H:qe w 4 qq P m.handlers)(R:m.abs=true)(v:Value)(F:ZB (Qag m)=v):
 Calls Tryz.prog 100 #[qP m O P] w fun e w'=>e=.returned v/\Below w.heap.size w w':=by
 obtain⟨S,T,C,U,D,M,E,B⟩:=m;unfold qP;obtain⟨p,cap,rfl,J,V,_⟩:=G.open;obtain⟨Z,X,rfl,L,Y,_⟩:=H.open;clear G H;dsimp only at R F J L ⊢;subst R;have I:Hid (ZB (if (C||D||!E.isEmpty||!B.isEmpty)=true then 8 else 0)=v):=by
  unfold Hid;rw[<-F];unfold Qag;rfl
 clear F;go_enter Tryz.func100,Tryz.ntmps100;cases C with
 |true =>
  have A:Hid (v=.iface 52 (.int .i64 8)):=by rw[<-I.out];rfl
  go_wp2_with fail;cases A.out;go_ret;exact⟨rfl,Xb.alloc Xl _⟩
 |false =>
  cases D with
  |true =>
   have A:Hid (v=.iface 52 (.int .i64 8)):=(by rw[<-I.out];rfl);go_wp2_with fail;cases A.out;go_ret;exact⟨rfl,Xb.alloc Xl _⟩
  |false =>
   cases E with
   |cons y r =>
    have A:Hid (v=.iface 52 (.int .i64 8)):=(by rw[<-I.out];rfl);have N:0<(y::r).length:=(by simp);generalize (y::r).length=n at N J;go_wp2_with fail;all_goals first|(exfalso;omega)|skip
    cases A.out;go_ret;exact⟨rfl,Xb.alloc Xl _⟩
   |nil =>
    cases B with
    |cons y r =>
     have A:Hid (v=.iface 52 (.int .i64 8)):=(by rw[<-I.out];rfl);have N:0<(y::r).length:=(by simp);generalize (y::r).length=n at N L;go_wp2_with fail;all_goals first|(exfalso;omega)|skip
     cases A.out;go_ret;exact⟨rfl,Xb.alloc Xl _⟩
    |nil =>
     have A:Hid (v=.nilIface):=(by rw[<-I.out];rfl);go_wp2_with fail;cases A.out;go_ret;exact⟨rfl,Xb.alloc Xl _⟩
set_option maxRecDepth 512
structure QH (w wx:World) (vals:List Value):Prop where
 below:Below w.heap.size w wx
 size:w.heap.size<wx.heap.size
 cells:QB wx w.heap.size 0 vals
theorem QH.step{w wx C:World}{A:List Value}(h:QH w wx A)(B:Below wx.heap.size wx C):QH w C A :=
 ⟨Qa h.below Xl B,Nat.lt_of_lt_of_le h.size B.size,h.cells.mono B h.size⟩
theorem QH.drew{w wx:World}{A:List Value}(h:QH w wx A):QH w wx.drew A:=h.step (Xb.drew)
theorem QH.alloc{w wx:World}{A:List Value}(h:QH w wx A)(o:Obj):QH w (wx.alloc o) A:=h.step (Xb.alloc Xl o)
theorem Zbl{w wx:World}{A B C D E F G H:Value}(h:QH w wx [A,B,C,D,E,F,G,H]):
 wx.cell? ⟨w.heap.size,0,none⟩=some A/\wx.cell? ⟨w.heap.size,1,none⟩=some B/\wx.cell? ⟨w.heap.size,2,none⟩=some C/\wx.cell? ⟨w.heap.size,3,none⟩=some D /\
 wx.cell? ⟨w.heap.size,4,none⟩=some E/\wx.cell? ⟨w.heap.size,5,none⟩=some F/\wx.cell? ⟨w.heap.size,6,none⟩=some G/\wx.cell? ⟨w.heap.size,7,none⟩=some H:=by
 obtain⟨I,J,L,M,N,O,P,R,_⟩:=h.cells;exact⟨I,J,L,M,N,O,P,R⟩
set_option maxRecDepth 100000
theorem Qee(m:zg)(Y V:Value)(w:World)(hl:ZaB w)(n:Zav m)(R:qe w 6 qw Y m.code)(hhv:qe w 4 qq V m.handlers)(q:m.abs=false)(v:Value)(Z:ZB (Qag m)=v):
 Calls Tryz.prog 100 #[qP m Y V] w fun e w'=>e=.returned v/\Below w.heap.size w w':=by
 have F:Hid (∀wx,Below w.heap.size w wx->_):=fun wx j=>QcH m.code Y wx (hl.mono j hl.1) n.code (R.mono j (by decide) (fun _ _ h=>h))
 have G:Hid (∀wx,Below w.heap.size w wx->_):=fun wx j=>Qc4 m Y V wx n.handlers (R.mono j (by decide) (fun _ _ h=>h)) (hhv.mono j (by decide) (fun _ _ h=>h)) _ rfl
 have S:Hid (∀wx,_):=fun wx=>zeG m Y V wx n.type
 obtain⟨p,cap,rfl,hc1,hc2,i⟩:=R.open;have HC:=Xh i;clear i;have C:Hid (v=ZB (if zC m.code≠0 then zC m.code
  else if m.locals<qap m then 2 else if m.code.any fun x=>(x.op==4||x.op==5)&&decide (m.locals<=x.a) then 2 else zw m.handlers m.code.length)):=by
  unfold Hid;rw[<-Z];unfold Qag;rw[if_neg (by simp[q])]
 clear R Z hl;unfold qP at *;obtain⟨N,O,D,abs,P,A,B,J⟩:=m;clear n;dsimp only at *;subst q;generalize qap _=ac at *;rcases zS (zC B) with⟨L,l⟩|⟨L,l⟩
 ·rw[l,if_neg (by decide)]at C;rw[L]at F;clear L l;go_enter Tryz.func100,Tryz.ntmps100;go_upto_region 8 with(go_fit (F.out _ (Xb.alloc Xl _));rintro e w2⟨rfl,U⟩)
  have E:QH w w2 [.string N,.string O,.bool D,.bool false,.bool P,.int .i64 A,.slice p B.length cap,V]:=⟨Qa (Xb.alloc Xl _) Xl U,Nat.lt_of_lt_of_le (by simp) U.size,QB.mono U (by simp) (by simp[QB])⟩;obtain⟨t,y,z,q3,q4,q5,q6,q7⟩:=Zbl E;clear U;go_cut [37] (fun s wx=>s=.bool (decide (A<(ac:Int)))/\QH w wx [.string N,.string O,.bool D,.bool false,.bool P,.int .i64 A,.slice p B.length cap,V])
  case first =>
   go_region_with (go_fit (S.out _);rintro e w3⟨rfl,hB3⟩;(have c:=E.step (Qa Xb.drew Xl hB3));obtain⟨r0,r1,r2,r3,r4,r5,r6,r7⟩:=Zbl c)
   all_goals
    go_wp2
    go_meet;exact⟨rfl,c⟩
  case rest =>
   obtain⟨rfl,E⟩:=hcut;clear t y z q3 q4 q5 q6 q7;obtain⟨t,y,z,q3,q4,q5,q6,q7⟩:=Zbl E;by_cases H:A<(ac:Int)
   ·rw[if_pos H]at C;have d:decide (A<(ac:Int))=true:=(by simpa using H);cases C.out;rw[d];clear H d HC G F S;go_wp2_with fail;go_ret;exact⟨rfl,E.below⟩
   ·rw[if_neg H]at C;have d:decide (A<(ac:Int))=false:=(by simpa using H);rw[d];clear H d F S;go_wp2_with fail;go_loopw [42] (fun x wr=>∃k,k<=B.length/\Hid (((B.drop k).any fun x=>(x.op==4||x.op==5)&&decide (A<=x.a))=(B.any fun x=>(x.op==4||x.op==5)&&decide (A<=x.a)))/\QH w wr [.string N,.string O,.bool D,.bool false,.bool P,.int .i64 A,.slice p B.length cap,V]/\x=.int .i64 k) (fun x _=>B.length-(intOf x).toNat)
    case atStart=>exact⟨0,by omega,rfl,E,rfl⟩
    case round =>
     obtain⟨k,hk,X,E,rfl⟩:=hrel;clear t y z q3 q4 q5 q6 q7;obtain⟨t,y,z,q3,q4,q5,q6,q7⟩:=Zbl E;have hsz:=E.size;have hlen:B.length<=9223372036854775807:=Xf hc1 hc2;by_cases hkl:k<B.length
     ·obtain⟨x,hx⟩:∃x,B[k]? = some x:=⟨B[k],by simp[hkl]⟩;obtain⟨b,o,vs,rfl,rfl,_,r⟩:=HC.out k x hx;have r:=r.mono E.below r.lt;have T:=qbO (fun x=>(x.op==4||x.op==5)&&decide (A<=x.a)) B k x hx;rw[X.out]at T;have HX:=Xh hx;clear hx;obtain⟨c0,c1,c2,c3,c4,c5,_⟩:=r;obtain⟨k4,h4⟩:∃k,(x.op==4)=k:=⟨_,rfl⟩;obtain⟨k5,h5⟩:∃k,(x.op==5)=k:=⟨_,rfl⟩;obtain⟨ka,q⟩:∃k,decide (A<=x.a)=k:=⟨_,rfl⟩;rw[h4,h5,q]at T;cases I:(k4||k5)&&ka with
      |true =>
       rw[I,Bool.true_or]at T;have M:Hid (v=.iface 52 (.int .i64 2)):=(by rw[C.out,if_pos T];rfl);have f:=Xh I;clear I T C G;cases k4<;>cases k5<;>cases ka<;>try (exact absurd f.out (by decide))
       all_goals
        clear f;go_wp2_with fail;cases M.out;go_ret;exact⟨rfl,(E.alloc _).below⟩
      |false =>
       rw[I,Bool.false_or]at T;have f:=Xh I;have hst:=Xh T.symm;clear I T C G;cases k4<;>cases k5<;>cases ka<;>try (exact absurd f.out (by decide))
       all_goals
        clear f;go_wp2_with fail;exact⟨⟨k+1,by omega,hst.out,E.alloc _,by simp⟩,by simp[intOf];omega⟩
     ·have g:Hid ((B.any fun x=>(x.op==4||x.op==5)&&decide (A<=x.a))=false):=by
       rw[<-X.out,Xg (by omega)];rfl
      clear X;obtain rfl:k=B.length:=(by omega);have M:Hid (v=ZB (zw J B.length)):=(by rw[C.out,if_neg (by rw[g.out];decide)];rfl);clear g C;rw[<-M.out]at G;go_wp2_with (go_fit (G.out _ E.below);rintro e w2⟨rfl,U⟩)
      go_ret;exact⟨rfl,Qa E.below Xl U⟩
 ·rw[if_pos l,L]at C;rw[L]at F;generalize zC B=cf at *;clear L l S G;go_enter Tryz.func100,Tryz.ntmps100;go_wp2_with (go_fit (F.out _ (Xb.alloc Xl _));rintro e w2⟨rfl,U⟩)
  cases C.out;go_ret;exact⟨rfl,Qa (Xb.alloc Xl _) Xl U⟩
set_option maxRecDepth 512
theorem qeG(m:zg)(C D:Value)(w:World)(F:ZaB w)(G:Zav m)(A:qe w 6 qw C m.code)(B:qe w 4 qq D m.handlers):
 Calls Tryz.prog 100 #[qP m C D] w fun e w'=>e=.returned (ZB (Qag m))/\Below w.heap.size w w':=by
 cases E:m.abs with
 |true=>exact ZeG m C D w A B E _ rfl
 |false=>exact Qee m C D w F G A B E _ rfl
def zbj{α:Type}(f:α->Bool)(l:List α):Int:=match l.findIdx? f with|some i=>i|none=>-1
theorem QbM{α:Type}{f:α->Bool}{l:List α}{k:Nat}{x:α}(h:l[k]? = some x)(A:f x=true)(B:∀j y,j<k->l[j]? = some y->f y=false):zbj f l=k:=by
 obtain⟨C,rfl⟩:=List.getElem?_eq_some_iff.1 h;unfold zbj;have:l.findIdx? f=some k:=by
  rw[List.findIdx?_eq_some_iff_getElem];exact⟨C,A,fun j D=>by simp[B j _ D (Xn (by omega))]⟩
 rw[this]
theorem zbt{α:Type}{f:α->Bool}{l:List α}(B:∀j y,j<l.length->l[j]? = some y->f y=false):zbj f l = -1:=by
 unfold zbj;have:l.findIdx? f=none:=by
  rw[List.findIdx?_eq_none_iff];intro x C;obtain⟨j,A,rfl⟩:=List.getElem_of_mem C;exact B j _ A (Xn A)
 rw[this]
theorem Qcm{α:Type}(f:α->Bool)(l:List α):decide (0<=zbj f l)=l.any f:=by
 unfold zbj;cases h:l.findIdx? f with
 |none =>
  rw[List.findIdx?_eq_none_iff]at h;have:l.any f=false:=by rw[List.any_eq_false];intro x C;simp[h x C]
  rw[this];rfl
 |some i =>
  rw[List.findIdx?_eq_some_iff_getElem]at h;obtain⟨A,B,_⟩:=h;have:l.any f=true:=by rw[List.any_eq_true];exact⟨_,List.getElem_mem A,B⟩
  rw[this];simp
theorem qbl{α:Type}(R:α->List Value->Prop)(f:α->Bool)(g:Nat)(Z:Array Value)(r:∀args w,(callFunc g args).run Tryz.prog w=.ok (.enter g args) w)(l:List α)(v:Value)(w:World)(h:qe w 8 R v l)(a:∀W x J L M N O P S T,x∈l->R x [J,L,M,N,O,P,S,T]->Below w.heap.size w W->Calls Tryz.prog g (#[.agg #[J,L,M,N,O,P,S,T]]++Z) W fun e w'=>e=.returned (.bool (f x))/\Below W.heap.size W w'):
 Calls Tryz.prog 26 #[v,.func (.func g) #[] Z] w fun e w'=>e=.returned (.int .i64 (zbj f l))/\Below w.heap.size w w':=by
 obtain⟨p,cap,rfl,n,q,E⟩:=h.open;have U:=Xh E;clear E h;have V:=Xh a;clear a;have c:l.length<=9223372036854775807:=Xf n q;go_enter Tryz.func26,Tryz.ntmps26;go_wp2_with fail;go_loopw [5,8] (fun _ x wr=>∃k,k<=l.length/\Hid (∀j y,j<k->l[j]? = some y->f y=false)/\Below w.heap.size w wr/\x=.int .i64 k) (fun _ x _=>l.length-(intOf x).toNat)
 case atStart=>exact⟨0,by omega,fun j y h=>by omega,Xb,rfl⟩
 case round =>
  obtain⟨k,s,B,F,rfl⟩:=hrel;by_cases X:k<l.length
  ·obtain⟨x,I⟩:∃x,l[k]? = some x:=⟨l[k],by simp[X]⟩;obtain⟨b,o,vs,rfl,i,G,H⟩:=U.out k x I;have H:=H.mono F (by match vs,G with|_::_,_=>exact H.lt);match vs,G with
   |[J,L,M,N,O,P,S,T],_ =>
   have A:=V.out wr x J L M N O P S T (Xe I) i F;have d:=Xh I;clear I i;obtain⟨t,z,c2,c3,c4,c5,c6,c7,_⟩:=H;cases D:f x with
   |true =>
    rw[D]at A;have Y:=Xh D;clear D V U;go_wp2_with (go_at_fn g;refine A.mono ?_;rintro e w'⟨rfl,C⟩)
    go_ret;exact⟨by rw[QbM d.out Y.out B.out];rfl,Qa F Xl C⟩
   |false =>
    rw[D]at A;have Y:=Xh D;clear D V U;go_wp2_with (go_at_fn g;refine A.mono ?_;rintro e w'⟨rfl,C⟩)
    refine⟨⟨k+1,by omega,fun j y hj m=>?_,Qa F Xl C,by simp⟩,by simp[intOf];omega⟩;by_cases e:j=k
    ·subst e;have:=d.out;rw[m]at this;injection this with this;rw[this];exact Y.out
    ·exact B.out j y (by omega) m
  ·obtain rfl:k=l.length:=(by omega);go_wp2_with fail;go_ret;exact⟨by rw[zbt B.out];rfl,F⟩
theorem zcn{α:Type}(R:α->List Value->Prop)(f:α->Bool)(g:Nat)(A:Array Value)(M:∀args w,(callFunc g args).run Tryz.prog w=.ok (.enter g args) w)(l:List α)(v:Value)(w:World)(h:qe w 8 R v l)(C:∀W x D E F G H I J L,x∈l->R x [D,E,F,G,H,I,J,L]->Below w.heap.size w W->Calls Tryz.prog g (#[.agg #[D,E,F,G,H,I,J,L]]++A) W fun e w'=>e=.returned (.bool (f x))/\Below W.heap.size W w'):
 Calls Tryz.prog 98 #[v,.func (.func g) #[] A] w fun e w'=>e=.returned (.bool (l.any f))/\Below w.heap.size w w':=by
 rw[<-Qcm];have N:=Xh (qbl R f g A M l v w h C);obtain⟨p,cap,rfl,O,P,_⟩:=h.open;clear C h;generalize zbj f l=r at *;go_enter Tryz.func98,Tryz.ntmps98;go_wp2_with (go_at_call 26;refine N.out.mono ?_;rintro e w'⟨rfl,B⟩)
 go_ret;exact⟨rfl,B⟩
theorem zcI{α:Type}(R:α->List Value->Prop)(f:α->Bool)(g:Nat)(S:Array Value)(c:∀args w,(callFunc g args).run Tryz.prog w=.ok (.enter g args) w)(l:List α)(v:Value)(w:World)(h:qe w 2 R v l)(T:∀W x J L,x∈l->R x [J,L]->Below w.heap.size w W->Calls Tryz.prog g (#[.agg #[J,L]]++S) W fun e w'=>e=.returned (.bool (f x))/\Below W.heap.size W w'):
 Calls Tryz.prog 97 #[v,.func (.func g) #[] S] w fun e w'=>e=.returned (.int .i64 (zbj f l))/\Below w.heap.size w w':=by
 obtain⟨p,cap,rfl,Z,a,E⟩:=h.open;have M:=Xh E;clear E h;have N:=Xh T;clear T;have U:l.length<=9223372036854775807:=Xf Z a;go_enter Tryz.func97,Tryz.ntmps97;go_wp2_with fail;go_loopw [5,8] (fun _ x wr=>∃k,k<=l.length/\Hid (∀j y,j<k->l[j]? = some y->f y=false)/\Below w.heap.size w wr/\x=.int .i64 k) (fun _ x _=>l.length-(intOf x).toNat)
 case atStart=>exact⟨0,by omega,fun j y h=>by omega,Xb,rfl⟩
 case round =>
  obtain⟨k,d,B,F,rfl⟩:=hrel;by_cases O:k<l.length
  ·obtain⟨x,I⟩:∃x,l[k]? = some x:=⟨l[k],by simp[O]⟩;obtain⟨b,o,vs,rfl,X,G,H⟩:=M.out k x I;have H:=H.mono F (by match vs,G with|_::_,_=>exact H.lt);match vs,G with
   |[J,L],_ =>
   have A:=N.out wr x J L (Xe I) X F;have V:=Xh I;clear I X;obtain⟨i,m,_⟩:=H;cases D:f x with
   |true =>
    rw[D]at A;have P:=Xh D;clear D N M;go_wp2_with (go_at_fn g;refine A.mono ?_;rintro e w'⟨rfl,C⟩)
    go_ret;exact⟨by rw[QbM V.out P.out B.out];rfl,Qa F Xl C⟩
   |false =>
    rw[D]at A;have P:=Xh D;clear D N M;go_wp2_with (go_at_fn g;refine A.mono ?_;rintro e w'⟨rfl,C⟩)
    refine⟨⟨k+1,by omega,fun j y n Y=>?_,Qa F Xl C,by simp⟩,by simp[intOf];omega⟩;by_cases e:j=k
    ·subst e;have:=V.out;rw[Y]at this;injection this with this;rw[this];exact P.out
    ·exact B.out j y (by omega) Y
  ·obtain rfl:k=l.length:=(by omega);go_wp2_with fail;go_ret;exact⟨by rw[zbt B.out];rfl,F⟩
theorem ZcH{α:Type}(R:α->List Value->Prop)(f:α->Bool)(g:Nat)(A:Array Value)(F:∀args w,(callFunc g args).run Tryz.prog w=.ok (.enter g args) w)(l:List α)(v:Value)(w:World)(h:qe w 2 R v l)(C:∀W x D E,x∈l->R x [D,E]->Below w.heap.size w W->Calls Tryz.prog g (#[.agg #[D,E]]++A) W fun e w'=>e=.returned (.bool (f x))/\Below W.heap.size W w'):
 Calls Tryz.prog 59 #[v,.func (.func g) #[] A] w fun e w'=>e=.returned (.bool (l.any f))/\Below w.heap.size w w':=by
 rw[<-Qcm];have G:=Xh (zcI R f g A F l v w h C);obtain⟨p,cap,rfl,H,I,_⟩:=h.open;clear C h;generalize zbj f l=r at *;go_enter Tryz.func59,Tryz.ntmps59;go_wp2_with (go_at_call 97;refine G.out.mono ?_;rintro e w'⟨rfl,B⟩)
 go_ret;exact⟨rfl,B⟩
theorem Zcn{α:Type}(R:α->List Value->Prop)(f:α->Bool)(g:Nat)(P:Array Value)(c:∀args w,(callFunc g args).run Tryz.prog w=.ok (.enter g args) w)(l:List α)(v:Value)(w:World)(h:qe w 1 R v l)(S:∀W x J,x∈l->R x [J]->Below w.heap.size w W->Calls Tryz.prog g (#[J]++P) W fun e w'=>e=.returned (.bool (f x))/\Below W.heap.size W w'):
 Calls Tryz.prog 101 #[v,.func (.func g) #[] P] w fun e w'=>e=.returned (.int .i64 (zbj f l))/\Below w.heap.size w w':=by
 obtain⟨p,cap,rfl,Y,Z,E⟩:=h.open;have L:=Xh E;clear E h;have M:=Xh S;clear S;have T:l.length<=9223372036854775807:=Xf Y Z;go_enter Tryz.func101,Tryz.ntmps101;go_wp2_with fail;go_loopw [5,8] (fun _ x wr=>∃k,k<=l.length/\Hid (∀j y,j<k->l[j]? = some y->f y=false)/\Below w.heap.size w wr/\x=.int .i64 k) (fun _ x _=>l.length-(intOf x).toNat)
 case atStart=>exact⟨0,by omega,fun j y h=>by omega,Xb,rfl⟩
 case round =>
  obtain⟨k,d,B,F,rfl⟩:=hrel;by_cases N:k<l.length
  ·obtain⟨x,I⟩:∃x,l[k]? = some x:=⟨l[k],by simp[N]⟩;obtain⟨b,o,vs,rfl,V,G,H⟩:=L.out k x I;have H:=H.mono F (by match vs,G with|_::_,_=>exact H.lt);match vs,G with
   |[J],_ =>
   have A:=M.out wr x J (Xe I) V F;have U:=Xh I;clear I V;obtain⟨a,_⟩:=H;rw[Nat.mul_one]at a;cases D:f x with
   |true =>
    rw[D]at A;have O:=Xh D;clear D M L;go_wp2_with (go_at_fn g;refine A.mono ?_;rintro e w'⟨rfl,C⟩)
    go_ret;exact⟨by rw[QbM U.out O.out B.out];rfl,Qa F Xl C⟩
   |false =>
    rw[D]at A;have O:=Xh D;clear D M L;go_wp2_with (go_at_fn g;refine A.mono ?_;rintro e w'⟨rfl,C⟩)
    refine⟨⟨k+1,by omega,fun j y i X=>?_,Qa F Xl C,by simp⟩,by simp[intOf];omega⟩;by_cases e:j=k
    ·subst e;have:=U.out;rw[X]at this;injection this with this;rw[this];exact O.out
    ·exact B.out j y (by omega) X
  ·obtain rfl:k=l.length:=(by omega);go_wp2_with fail;go_ret;exact⟨by rw[zbt B.out];rfl,F⟩
theorem qcn{α:Type}(R:α->List Value->Prop)(f:α->Bool)(g:Nat)(A:Array Value)(E:∀args w,(callFunc g args).run Tryz.prog w=.ok (.enter g args) w)(l:List α)(v:Value)(w:World)(h:qe w 1 R v l)(C:∀W x D,x∈l->R x [D]->Below w.heap.size w W->Calls Tryz.prog g (#[D]++A) W fun e w'=>e=.returned (.bool (f x))/\Below W.heap.size W w'):
 Calls Tryz.prog 63 #[v,.func (.func g) #[] A] w fun e w'=>e=.returned (.bool (l.any f))/\Below w.heap.size w w':=by
 rw[<-Qcm];have F:=Xh (Zcn R f g A E l v w h C);obtain⟨p,cap,rfl,G,H,_⟩:=h.open;clear C h;generalize zbj f l=r at *;go_enter Tryz.func63,Tryz.ntmps63;go_wp2_with (go_at_call 101;refine F.out.mono ?_;rintro e w'⟨rfl,B⟩)
 go_ret;exact⟨rfl,B⟩
theorem zaj(a b:ByteArray):(a.toList==b.toList)=decide (a=b):=by
 rw[Bool.eq_iff_iff];simp only[beq_iff_eq,decide_eq_true_eq,ByteArray.toList_eq];constructor
 ·intro h;exact ByteArray.ext (Array.toList_inj.1 h)
 ·rintro rfl;rfl
theorem qan(l:List ByteArray)(v:Value)(x:ByteArray)(w:World)(h:Zo w v l):Calls Tryz.prog 58 #[v,.string x] w fun e w'=>e=.returned (.bool (Q4 l x))/\w=w':=by
 obtain⟨p,cap,rfl,B,C,A⟩:=h.open;cases l with
 |nil=>exact(Tryz.slices_Contains_string_empty p cap x w).mono fun e w' ⟨B,C⟩=>⟨B,C.symm⟩
 |cons y r =>
  obtain⟨b,o,_,rfl,_⟩:=A 0 y rfl;refine(Tryz.slices_Contains_string b o _ cap (y::r) x w Xl (Xf B C) ?_).mono ?_
  ·intro j I;obtain⟨b',J,vs,D,G,_,H⟩:=A j (y::r)[j] (by simp);injection D with D;injection D with E F;subst E F
   unfold Qs at G;subst G;rw[List.getD_eq_getElem?_getD,Xn I];have:=H.1;rwa [Nat.mul_one]at this
  ·rintro e w'⟨rfl,rfl⟩;refine⟨?_,rfl⟩;congr 2;rw[List.take_length,Bool.eq_iff_iff,qA,Lib.containsS_iff]
theorem qe.take{α:Type}{w:World}{k:Nat}{R:α->List Value->Prop}{p:Option Addr}{n cap:Nat}{l:List α}(h:qe w k R (.slice p n cap) l)(D:n=l.length){i:Nat}{b o:Nat}(E:p=some ⟨b,o,none⟩)(F:i<=l.length):
 qe w k R (.slice p i cap) (l.take i):=by
 subst E D;rcases h with⟨h,_⟩|⟨a,C,G,L,H,I⟩
 ·simp at h
 ·injection G with B M J
  injection B with B
  subst B J;refine Or.inr ⟨_,cap,by rw[List.length_take,Nat.min_eq_left F],by rw[List.length_take];omega,H,fun j x A=>I j x ?_⟩;rw[List.getElem?_take]at A;split at A
  ·exact A
  ·simp at A
theorem Qdj(x:zg)(L M:Value)(G H:ByteArray)(B:Nat)(w:World)(R:B<w.heap.size)(N:w.cell? ⟨B,0,none⟩=some (.string G))(O:w.cell? ⟨B,1,none⟩=some (.string H)):
 Calls Tryz.prog 99 #[qP x L M,.pointer (some ⟨B,0,none⟩)] w fun e w'=>e=.returned (.bool (decide (x.name=G)&&decide (x.type=H)))/\Below w.heap.size w w':=by
 obtain⟨C,D,E,P,I,F,J,A⟩:=x;unfold qP;dsimp only;rw[<-zaj,<-zaj];cases N:C.toList==G.toList<;>cases O:D.toList==H.toList
 all_goals
  go_enter Tryz.func99,Tryz.ntmps99;go_wp2
  go_ret;exact⟨rfl,Xb.alloc Xl _⟩
theorem zdH(x:qH)(C:ByteArray)(B:Nat)(w:World)(F:B<w.heap.size)(E:w.cell? ⟨B,0,none⟩=some (.string C)):
 Calls Tryz.prog 60 #[.agg #[.string x.name,.string x.type],.pointer (some ⟨B,0,none⟩)] w fun e w'=>e=.returned (.bool (decide (x.name=C)))/\Below w.heap.size w w':=by
 obtain⟨A,D⟩:=x;dsimp only;rw[<-zaj];cases E:A.toList==C.toList;all_goals
  go_enter Tryz.func60,Tryz.ntmps60;go_wp2
  go_ret;exact⟨rfl,Xb.alloc Xl _⟩
set_option maxRecDepth 100000
theorem ZdH(m:zg)(j k:Value)(B:List zg)(l:Value)(w:World)(r:ZaB w)(n:Zav m)(Z:qe w 6 qw j m.code)(a:qe w 4 qq k m.handlers)(b:qe w 8 (Zt w) l B)(v:Value)(d:ZB (ZG m B)=v):
 Calls Tryz.prog 61 #[qP m j k,l] w fun e w'=>e=.returned v/\Below w.heap.size w w':=by
 have G:Hid (∀wx,_):=fun wx=>ZP m.name wx (Xf n.name (by decide))
 have H:Hid (∀wx,_):=fun wx=>Qav m.type wx n.type
 have E:Hid (∀wx,Below w.heap.size w wx->_):=fun wx Y=>qeG m j k wx (r.mono Y r.1) n (Z.mono Y (by decide) (fun _ _ h=>h)) (a.mono Y (by decide) (fun _ _ h=>h))
 have I:Hid (∀wx,Below w.heap.size w wx->w.heap.size<wx.heap.size->wx.cell? ⟨w.heap.size,0,none⟩=some (.string m.name)->wx.cell? ⟨w.heap.size,1,none⟩=some (.string m.type)->Calls Tryz.prog 98 #[l,.func (.func 99) #[] #[.pointer (some ⟨w.heap.size,0,none⟩)]] wx fun e w'=>e=.returned (.bool (B.any fun x=>decide (x.name=m.name)&&decide (x.type=m.type)))/\Below wx.heap.size wx w'):=by
  intro wx Y hs h0 h1;refine zcn (Zt wx) (fun x=>decide (x.name=m.name)&&decide (x.type=m.type)) 99 _ (enters_of Tryz.func99 (by kernel_rfl) rfl) B l wx (b.mono Y (by decide) (fun _ _ h=>h.mono Y)) ?_;rintro W x a0 a1 a2 a3 a4 a5 a6 a7 hx⟨c,h,hh,_,_⟩t;simp only[List.cons.injEq]at hh;obtain⟨rfl,rfl,rfl,rfl,rfl,rfl,rfl,rfl,_⟩:=hh;show Calls Tryz.prog 99 #[qP x a6 a7,.pointer (some ⟨w.heap.size,0,none⟩)] W _
  exact Qdj x a6 a7 _ _ _ W (Nat.lt_of_lt_of_le hs t.size) ((t.cell (p:=⟨_,0,none⟩) hs).trans h0) ((t.cell (p:=⟨_,1,none⟩) hs).trans h1)
 have hmf:∀fn first cap w,(Instr.makeFunc fn first cap).run Tryz.prog w=.ok (.func fn first cap) w:=fun _ _ _ _=>rfl
 have F:Hid (v=ZB (if !Zx (lst m.name) then 1 else if (qi m.type).isNone then 1 else if B.any fun x=>decide (x.name=m.name)&&decide (x.type=m.type) then 5 else if m.locals<0\/8<m.locals then 2 else Qag m)):=d.symm;generalize (B.any fun x=>decide (x.name=m.name)&&decide (x.type=m.type))=tw at *;clear d r n Z a b;unfold qP at *;generalize Qag m=bf at *;obtain⟨D,R,M,s,i,C,code,X⟩:=m;dsimp only at *;cases V:Zx D.data.toList with
 |false =>
  have A:Hid (v=.iface 52 (.int .i64 1)):=by rw[F.out];simp[lst,V,ZB,Hid]
  have J:ZB (Qr D)=.iface 52 (.int .i64 1):=by unfold Qr;simp[V,ZB]
  rw[J]at G;clear F V J H E I;go_enter Tryz.func61,Tryz.ntmps61;go_wp2_with (go_fit (G.out _);rintro e w2⟨rfl,S⟩)
  cases A.out;go_ret;exact⟨rfl,Qa (Xb.alloc Xl _) Xl S⟩
 |true =>
  have J:ZB (Qr D)=.nilIface:=by unfold Qr;simp[V,ZB]
  rw[J]at G;rw[show Zx (lst D)=true from V]at F;clear V J;cases o:qi R with
  |none =>
   rw[o]at H F;have A:Hid (v=.iface 52 (.int .i64 1)):=(by rw[F.out];rfl);clear F o E I;go_enter Tryz.func61,Tryz.ntmps61;go_wp2_with (first|(go_fit (G.out _);rintro e w2⟨rfl,S⟩;obtain⟨N,_⟩:=QaJ S;(have T:=N w.heap.size 1 (by simp)))|(go_fit (H.out _);rintro e w3⟨O,rfl⟩))
   cases A.out;go_ret;exact⟨rfl,Qa (Qa (Xb.alloc Xl _) Xl S) Xl O⟩
  |some ag =>
   obtain⟨args,g⟩:=ag;rw[o]at H F;clear o;go_enter Tryz.func61,Tryz.ntmps61;go_upto_region 6 with(first|(go_fit (G.out _);rintro e w2⟨rfl,S⟩;obtain⟨N,_⟩:=QaJ S;(have T:=N w.heap.size 1 (by simp)))|(go_fit (H.out _);rintro e w3⟨O,mv,rfl,y⟩))
   have L:QH w w3 [.string D,.string R,.bool M,.bool s,.bool i,.int .i64 C,j,k]:=QH.step (QH.step (wx:=w.alloc _) ⟨Xb.alloc Xl _,by simp,by simp[QB]⟩ S) O;clear T N S O y;obtain⟨q,T,q2,q3,q4,q5,q6,q7⟩:=Zbl L;have U:=L.size;cases tw with
   |true =>
    have A:Hid (v=.iface 52 (.int .i64 5)):=(by rw[F.out];rfl);clear F E;go_wp2_with (go_fit (I.out _ L.below U q T);rintro e w4⟨rfl,P⟩)
    cases A.out;go_ret;exact⟨rfl,(L.step P).below⟩
   |false =>
    go_upto_region 8 with(go_fit (I.out _ L.below U q T);rintro e w4⟨rfl,P⟩)
    replace L:=L.step P;clear q T q2 q3 q4 q5 q6 q7 U P I;obtain⟨q,T,q2,q3,q4,q5,q6,q7⟩:=Zbl L;by_cases f:C<0\/8<C
    ·have A:Hid (v=.iface 52 (.int .i64 2)):=(by rw[F.out];simp only[f];rfl);clear F E;go_wp2_with fail;all_goals first|(exfalso;omega)|skip
     all_goals
      cases A.out;go_ret;exact⟨rfl,L.below⟩
    ·have A:Hid (v=ZB bf):=(by rw[F.out];simp only[f];rfl);rw[<-A.out]at E;clear F;go_wp2_with (go_fit (E.out _ L.below);rintro e w5⟨rfl,z⟩)
     all_goals first|(exfalso;omega)|skip
     go_ret;exact⟨rfl,(L.step z).below⟩
set_option maxRecDepth 512
end Go.Proofs.YtmclocdhcblbiaaGreatDoor
