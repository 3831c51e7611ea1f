/- Lemmas; conditions: as each states. -/
import Derived.Test.YtlmfmioljeppfaaGreatDoorFlow
import Derived.Deep.RegionWith
import Derived.Shelf.GgClosure.Gives
set_option maxHeartbeats 4000000
namespace Go.Proofs.YtlmfmioljeppfaaGreatDoor
open Go.RowKit Go.Shelf Go.Lib
theorem Zg.open{α:Type}{w:World}{k:Nat}{R:α->List Value->Prop}{v:Value}{l:List α}(h:Zg w k R v l):
 ∃p cap,v=.slice p l.length cap/\l.length<=cap/\cap<=maxLen/\∀i x,l[i]? = some x->∃b o vs,p=some ⟨b,o,none⟩/\R x vs/\vs.length=k/\QG w b (o+i*k) vs:=by
 rcases h with⟨rfl,rfl⟩|⟨a,cap,E,F,G,H⟩
 ·exact⟨none,0,rfl,Xl,Nat.zero_le _,fun i x h=>by simp at h⟩
 ·refine⟨some a,cap,E,F,G,fun i x h=>?_⟩;obtain⟨vs,A,B,C,D⟩:=H i x h;exact⟨a.block,a.off,vs,by rw[<-C],A,B,D⟩
structure QaL (x:zM):Prop where
 lo:Zby x.lo
 hi:Zby x.hi
 dest:Zby x.dest
 cls:x.cls.size<=1048576
structure Z1 (m:qi):Prop where
 name:m.name.size<=1048576
 type:m.type.size<=1048576
 locals:Zby m.locals
 code:∀x∈m.code,qaL x
 handlers:∀x∈m.handlers,QaL x
def qR(m:qi)(cv hv:Value):Value:=.agg #[.string m.name,.string m.type,.bool m.static,.bool m.abs,.bool m.priv,.int .i64 m.locals,cv,hv]
theorem Zcf{m:qi}(h:Zm m.type=none):Z3 m=0:=by unfold Z3;rw[h]
theorem qaI{m:qi}{args:List ByteArray}{g:ByteArray}(h:Zm m.type=some (args,g)):Z3 m=if m.static then args.length else args.length+1:=by unfold Z3;rw[h]
theorem ZS{s:ByteArray}{args:List ByteArray}{g:ByteArray}(h:Zm s=some (args,g)):args.length<=5:=by
 unfold Zm QC at h;split at h
 ·rename_i A;injection h with h;rw[Prod.mk.injEq]at h;rw[<-h.1];exact A.2.1
 ·simp at h
theorem QdR(m:qi)(M N:Value)(w:World)(hs:m.type.size<=1048576):
 Calls Tryz.prog 201 #[qR m M N] w fun e w'=>e=.returned (.int .i64 (Z3 m))/\Below w.heap.size w w':=by
 have C:∀w,_:=fun w=>Zan m.type w hs
 obtain⟨I,A,static,O,J,E,L,D⟩:=m;unfold qR;cases B:Zm A with
 |none =>
  rw[Zcf B];replace C:Hid (∀w,Calls Tryz.prog 132 #[.string A] w (Qaq w none)):=fun w=>B▸C w
  clear B;go_enter Tryz.func201,Tryz.ntmps201;go_wp2_with (first|(go_fit (C.out _);rintro e S⟨F,rfl⟩))
  go_ret;exact⟨rfl,Qa (Xb.alloc Xl _) Xl F⟩
 |some T =>
  obtain⟨args,g⟩:=T;have U:=ZS B;rw[qaI B];replace C:Hid (∀w,Calls Tryz.prog 132 #[.string A] w (Qaq w (some (args,g)))):=fun w=>B▸C w
  clear B;cases static;all_goals
   go_enter Tryz.func201,Tryz.ntmps201;go_wp2_with (first|(go_fit (C.out _);rintro e S⟨F,v,rfl,H⟩;obtain⟨p,cap,rfl,P,R,_⟩:=H.open;obtain⟨G,_⟩:=qaC F;(have V:=G w.heap.size 2 (by simp))))
   go_ret;exact⟨rfl,Qa (Xb.alloc Xl _) Xl F⟩
set_option maxRecDepth 100000
theorem Zcx(m:qi)(q r:Value)(w:World)(hs:∀x∈m.handlers,QaL x)(T:Zg w 6 Zw q m.code)(U:Zg w 4 Qt r m.handlers)(v:Value)(N:zE (zl m.handlers m.code.length)=v):
 Calls Tryz.prog 202 #[qR m q r] w fun e w'=>e=.returned v/\Below w.heap.size w w':=by
 obtain⟨name,type,static,abs,priv,d,B,A⟩:=m;unfold qR;obtain⟨p,cap,rfl,i,hc2,j⟩:=T.open;obtain⟨ph,l,rfl,X,n,Y⟩:=U.open;clear j T U;have s:=Xh Y;clear Y;have t:=Xh hs;clear hs;dsimp only at N s t i X ⊢;have y:A.length<=9223372036854775807:=Xf X n;have J:Hid (zE (zl A B.length)=v):=N;clear N;go_enter Tryz.func202,Tryz.ntmps202;go_wp2_with fail;go_loopw [8] (fun x wr=>∃k,k<=A.length/\Hid (Zh (qr B.length) (A.drop k)=Zh (qr B.length) A)/\(Below w.heap.size w wr/\w.heap.size<wr.heap.size/\wr.cell? ⟨w.heap.size,6,none⟩=some (.slice p B.length cap)/\wr.cell? ⟨w.heap.size,7,none⟩=some (.slice ph A.length l))/\x=.int .i64 k) (fun x _=>A.length-(intOf x).toNat)
 case atStart=>exact⟨0,by omega,rfl,⟨Xb.alloc Xl _,by simp,by simp,by simp⟩,rfl⟩
 case round =>
  obtain⟨k,hk,P,⟨M,R,g6,g7⟩,rfl⟩:=hrel;by_cases f:k<A.length
  ·obtain⟨x,Z⟩:∃x,A[k]? = some x:=⟨A[k],by simp[f]⟩;obtain⟨b,o,vs,rfl,rfl,_,a⟩:=s.out k x Z;have a:=a.mono M a.lt;have V:=t.out x (Xe Z);have I:=zU (qr B.length) A k x Z;rw[P.out]at I;have O:=fun w=>ZR x.cls w (Xf V.cls (by decide))
   have HX:=Xh Z;clear Z V;obtain⟨c0,c1,c2,c3,_⟩:=a;by_cases D:x.lo<0\/x.hi<=x.lo\/(B.length:Int)<x.hi\/x.dest<0\/(B.length:Int)<=x.dest
   ·have z:qr B.length x=2:=(by unfold qr;rw[if_pos D]);rw[z,if_neg (by decide)]at I;have C:Hid (v=.iface 29 (.int .i64 2)):=by
     unfold Hid;rw[<-J.out];unfold zl;rw[I,if_pos (by decide)];rfl
    clear z I O J;have HB:=Xh D;clear D;go_wp2_with fail;all_goals first|(exfalso;have:=HB.out;omega)|skip
    all_goals
     cases C.out;go_ret;exact⟨rfl,M.alloc M.size _⟩
   ·have c:qr B.length x=if qt (lst x.cls) then 0 else 1:=(by unfold qr;rw[if_neg D]);simp only[not_or,Int.not_lt,Int.not_le]at D;obtain⟨b1,b2,b3,b4,b5⟩:=D;cases F:qt x.cls.data.toList with
    |true =>
     have G:Qw x.cls=0:=(by unfold Qw;simp[F]);have H:qr B.length x=0:=(by rw[c];simp[lst,F]);rw[H,if_pos rfl]at I;rw[G]at O;have g:=Xh I.symm;have h:Hid (∀w,Calls Tryz.prog 97 #[.string x.cls] w fun e w'=>e=.returned .nilIface/\Below w.heap.size w w'):=O;clear O c H G F I J;go_wp2_with (first|(go_fit (h.out _);rintro e w2⟨rfl,S⟩))
     have L:=Qa ((Below.refl wr.heap.size wr).alloc Xl (.cells #[.int .i64 x.lo,.int .i64 x.hi,.int .i64 x.dest,.string x.cls] 126)) Xl S;exact⟨⟨k+1,by omega,g.out,⟨Qa M Xl L,Nat.lt_of_lt_of_le R L.size,(L.cell (p:=⟨_,6,none⟩) R).trans g6,(L.cell (p:=⟨_,7,none⟩) R).trans g7⟩,by simp⟩,by simp[intOf];omega⟩
    |false =>
     have G:Qw x.cls=1:=(by unfold Qw;simp[F]);have H:qr B.length x=1:=(by rw[c];simp[lst,F]);rw[H,if_neg (by decide)]at I;rw[G]at O;have C:Hid (v=.iface 29 (.int .i64 1)):=by
      unfold Hid;rw[<-J.out];unfold zl;rw[I,if_pos (by decide)];rfl
     have h:Hid (∀w,Calls Tryz.prog 97 #[.string x.cls] w fun e w'=>e=.returned (.iface 29 (.int .i64 1))/\Below w.heap.size w w'):=O;clear O c H G F I J;go_wp2_with (first|(go_fit (h.out _);rintro e w2⟨rfl,S⟩))
     cases C.out;go_ret;exact⟨rfl,Qa (M.alloc M.size _) Xl S⟩
  ·have E:Hid (Zh (qr B.length) A=0):=by
    rw[<-P.out,Xg (by omega)];rfl
   clear P;obtain rfl:k=A.length:=(by omega);by_cases h8:8<A.length
   ·have C:Hid (v=.iface 29 (.int .i64 4)):=by
     unfold Hid;rw[<-J.out];unfold zl;rw[E.out,if_neg (by decide),if_pos h8];rfl
    clear J E;go_wp2_with fail;all_goals first|(exfalso;omega)|skip
    cases C.out;go_ret;exact⟨rfl,M⟩
   ·have C:Hid (v=.nilIface):=by
     unfold Hid;rw[<-J.out];unfold zl;rw[E.out,if_neg (by decide),if_neg h8];rfl
    clear J E;go_wp2_with fail;all_goals first|(exfalso;omega)|skip
    cases C.out;go_ret;exact⟨rfl,M⟩
theorem zdS(m:qi)(N O:Value)(w:World)(F:Zg w 6 Zw N m.code)(G:Zg w 4 Qt O m.handlers)(P:m.abs=true)(v:Value)(E:zE (qY m)=v):
 Calls Tryz.prog 171 #[qR m N O] w fun e w'=>e=.returned v/\Below w.heap.size w w':=by
 obtain⟨R,S,static,T,C,L,D,B⟩:=m;unfold qR;obtain⟨p,cap,rfl,I,U,_⟩:=F.open;obtain⟨Y,V,rfl,J,X,_⟩:=G.open;clear F G;dsimp only at P E I J ⊢;subst P;have H:Hid (zE (if (static||C||!D.isEmpty||!B.isEmpty)=true then 8 else 0)=v):=by
  unfold Hid;rw[<-E];unfold qY;rfl
 clear E;go_enter Tryz.func171,Tryz.ntmps171;cases static with
 |true =>
  have A:Hid (v=.iface 29 (.int .i64 8)):=by rw[<-H.out];rfl
  go_wp2_with fail;cases A.out;go_ret;exact⟨rfl,Xb.alloc Xl _⟩
 |false =>
  cases C with
  |true =>
   have A:Hid (v=.iface 29 (.int .i64 8)):=(by rw[<-H.out];rfl);go_wp2_with fail;cases A.out;go_ret;exact⟨rfl,Xb.alloc Xl _⟩
  |false =>
   cases D with
   |cons y r =>
    have A:Hid (v=.iface 29 (.int .i64 8)):=(by rw[<-H.out];rfl);have M:0<(y::r).length:=(by simp);generalize (y::r).length=n at M I;go_wp2_with fail;all_goals first|(exfalso;omega)|skip
    cases A.out;go_ret;exact⟨rfl,Xb.alloc Xl _⟩
   |nil =>
    cases B with
    |cons y r =>
     have A:Hid (v=.iface 29 (.int .i64 8)):=(by rw[<-H.out];rfl);have M:0<(y::r).length:=(by simp);generalize (y::r).length=n at M J;go_wp2_with fail;all_goals first|(exfalso;omega)|skip
     cases A.out;go_ret;exact⟨rfl,Xb.alloc Xl _⟩
    |nil =>
     have A:Hid (v=.nilIface):=(by rw[<-H.out];rfl);go_wp2_with fail;cases A.out;go_ret;exact⟨rfl,Xb.alloc Xl _⟩
set_option maxRecDepth 512
structure zB (w wx:World) (vals:List Value):Prop where
 below:Below w.heap.size w wx
 size:w.heap.size<wx.heap.size
 cells:QG wx w.heap.size 0 vals
theorem zB.step{w wx wy:World}{A:List Value}(h:zB w wx A)(B:Below wx.heap.size wx wy):zB w wy A :=
 ⟨Qa h.below Xl B,Nat.lt_of_lt_of_le h.size B.size,h.cells.mono B h.size⟩
theorem zB.drew{w wx:World}{A:List Value}(h:zB w wx A):zB w wx.drew A:=h.step (Xb.drew)
theorem zB.alloc{w wx:World}{A:List Value}(h:zB w wx A)(o:Obj):zB w (wx.alloc o) A:=h.step (Xb.alloc Xl o)
theorem Qah{w wx:World}{A B C D E F G H:Value}(h:zB w wx [A,B,C,D,E,F,G,H]):
 wx.cell? ⟨w.heap.size,0,none⟩=some A/\wx.cell? ⟨w.heap.size,1,none⟩=some B/\wx.cell? ⟨w.heap.size,2,none⟩=some C/\wx.cell? ⟨w.heap.size,3,none⟩=some D /\
 wx.cell? ⟨w.heap.size,4,none⟩=some E/\wx.cell? ⟨w.heap.size,5,none⟩=some F/\wx.cell? ⟨w.heap.size,6,none⟩=some G/\wx.cell? ⟨w.heap.size,7,none⟩=some H:=by
 obtain⟨I,J,L,M,N,O,P,R,_⟩:=h.cells;exact⟨I,J,L,M,N,O,P,R⟩
set_option maxRecDepth 100000
theorem Qdv(m:qi)(X U:Value)(w:World)(hl:QaB w)(l:Z1 m)(P:Zg w 6 Zw X m.code)(hhv:Zg w 4 Qt U m.handlers)(n:m.abs=false)(v:Value)(Y:zE (qY m)=v):
 Calls Tryz.prog 171 #[qR m X U] w fun e w'=>e=.returned v/\Below w.heap.size w w':=by
 have E:Hid (∀wx,Below w.heap.size w wx->_):=fun wx i=>qcf m.code X wx (hl.mono i hl.1) l.code (P.mono i (by decide) (fun _ _ h=>h))
 have F:Hid (∀wx,Below w.heap.size w wx->_):=fun wx i=>Zcx m X U wx l.handlers (P.mono i (by decide) (fun _ _ h=>h)) (hhv.mono i (by decide) (fun _ _ h=>h)) _ rfl
 have R:Hid (∀wx,_):=fun wx=>QdR m X U wx l.type
 obtain⟨p,cap,rfl,hc1,hc2,g⟩:=P.open;have HC:=Xh g;clear g;have C:Hid (v=zE (if qo m.code≠0 then qo m.code
  else if m.locals<Z3 m then 2 else if m.code.any fun x=>(x.op==4||x.op==5)&&decide (m.locals<=x.a) then 2 else zl m.handlers m.code.length)):=by
  unfold Hid;rw[<-Y];unfold qY;rw[if_neg (by simp[n])]
 clear P Y hl;unfold qR at *;obtain⟨M,N,static,abs,O,A,B,I⟩:=m;clear l;dsimp only at *;subst n;generalize Z3 _=ac at *;rcases qI (qo B) with⟨J,j⟩|⟨J,j⟩
 ·rw[j,if_neg (by decide)]at C;rw[J]at E;clear J j;go_enter Tryz.func171,Tryz.ntmps171;go_upto_region 8 with(go_fit (E.out _ (Xb.alloc Xl _));rintro e w2⟨rfl,T⟩)
  have D:zB w w2 [.string M,.string N,.bool static,.bool false,.bool O,.int .i64 A,.slice p B.length cap,U]:=⟨Qa (Xb.alloc Xl _) Xl T,Nat.lt_of_lt_of_le (by simp) T.size,QG.mono T (by simp) (by simp[QG])⟩;obtain⟨r,t,y,z,q4,q5,q6,q7⟩:=Qah D;clear T;go_cut [37] (fun s wx=>s=.bool (decide (A<(ac:Int)))/\zB w wx [.string M,.string N,.bool static,.bool false,.bool O,.int .i64 A,.slice p B.length cap,U])
  case first =>
   go_region_with (go_fit (R.out _);rintro e w3⟨rfl,hB3⟩;(have Z:=D.step (Qa Xb.drew Xl hB3));obtain⟨r0,r1,r2,r3,r4,r5,r6,r7⟩:=Qah Z)
   all_goals
    go_wp2
    go_meet;exact⟨rfl,Z⟩
  case rest =>
   obtain⟨rfl,D⟩:=hcut;clear r t y z q4 q5 q6 q7;obtain⟨r,t,y,z,q4,q5,q6,q7⟩:=Qah D;by_cases G:A<(ac:Int)
   ·rw[if_pos G]at C;have c:decide (A<(ac:Int))=true:=(by simpa using G);cases C.out;rw[c];clear G c HC F E R;go_wp2_with fail;go_ret;exact⟨rfl,D.below⟩
   ·rw[if_neg G]at C;have c:decide (A<(ac:Int))=false:=(by simpa using G);rw[c];clear G c E R;go_wp2_with fail;go_loopw [42] (fun x wr=>∃k,k<=B.length/\Hid (((B.drop k).any fun x=>(x.op==4||x.op==5)&&decide (A<=x.a))=(B.any fun x=>(x.op==4||x.op==5)&&decide (A<=x.a)))/\zB w wr [.string M,.string N,.bool static,.bool false,.bool O,.int .i64 A,.slice p B.length cap,U]/\x=.int .i64 k) (fun x _=>B.length-(intOf x).toNat)
    case atStart=>exact⟨0,by omega,rfl,D,rfl⟩
    case round =>
     obtain⟨k,hk,V,D,rfl⟩:=hrel;clear r t y z q4 q5 q6 q7;obtain⟨r,t,y,z,q4,q5,q6,q7⟩:=Qah D;have hsz:=D.size;have hlen:B.length<=9223372036854775807:=Xf hc1 hc2;by_cases hkl:k<B.length
     ·obtain⟨x,hx⟩:∃x,B[k]? = some x:=⟨B[k],by simp[hkl]⟩;obtain⟨b,o,vs,rfl,rfl,_,q⟩:=HC.out k x hx;have q:=q.mono D.below q.lt;have S:=qai (fun x=>(x.op==4||x.op==5)&&decide (A<=x.a)) B k x hx;rw[V.out]at S;have HX:=Xh hx;clear hx;obtain⟨c0,c1,c2,c3,c4,c5,_⟩:=q;obtain⟨k4,h4⟩:∃k,(x.op==4)=k:=⟨_,rfl⟩;obtain⟨k5,h5⟩:∃k,(x.op==5)=k:=⟨_,rfl⟩;obtain⟨ka,n⟩:∃k,decide (A<=x.a)=k:=⟨_,rfl⟩;rw[h4,h5,n]at S;cases H:(k4||k5)&&ka with
      |true =>
       rw[H,Bool.true_or]at S;have L:Hid (v=.iface 29 (.int .i64 2)):=(by rw[C.out,if_pos S];rfl);have d:=Xh H;clear H S C F;cases k4<;>cases k5<;>cases ka<;>try (exact absurd d.out (by decide))
       all_goals
        clear d;go_wp2_with fail;cases L.out;go_ret;exact⟨rfl,(D.alloc _).below⟩
      |false =>
       rw[H,Bool.false_or]at S;have d:=Xh H;have hst:=Xh S.symm;clear H S C F;cases k4<;>cases k5<;>cases ka<;>try (exact absurd d.out (by decide))
       all_goals
        clear d;go_wp2_with fail;exact⟨⟨k+1,by omega,hst.out,D.alloc _,by simp⟩,by simp[intOf];omega⟩
     ·have f:Hid ((B.any fun x=>(x.op==4||x.op==5)&&decide (A<=x.a))=false):=by
       rw[<-V.out,Xg (by omega)];rfl
      clear V;obtain rfl:k=B.length:=(by omega);have L:Hid (v=zE (zl I B.length)):=(by rw[C.out,if_neg (by rw[f.out];decide)];rfl);clear f C;rw[<-L.out]at F;go_wp2_with (go_fit (F.out _ D.below);rintro e w2⟨rfl,T⟩)
      go_ret;exact⟨rfl,Qa D.below Xl T⟩
 ·rw[if_pos j,J]at C;rw[J]at E;generalize qo B=cf at *;clear J j R F;go_enter Tryz.func171,Tryz.ntmps171;go_wp2_with (go_fit (E.out _ (Xb.alloc Xl _));rintro e w2⟨rfl,T⟩)
  cases C.out;go_ret;exact⟨rfl,Qa (Xb.alloc Xl _) Xl T⟩
set_option maxRecDepth 512
theorem ZdS(m:qi)(C D:Value)(w:World)(F:QaB w)(G:Z1 m)(A:Zg w 6 Zw C m.code)(B:Zg w 4 Qt D m.handlers):
 Calls Tryz.prog 171 #[qR m C D] w fun e w'=>e=.returned (zE (qY m))/\Below w.heap.size w w':=by
 cases E:m.abs with
 |true=>exact zdS m C D w A B E _ rfl
 |false=>exact Qdv m C D w F G A B E _ rfl
def zbQ{α:Type}(f:α->Bool)(l:List α):Int:=match l.findIdx? f with|some i=>i|none=>-1
theorem zbY{α:Type}{f:α->Bool}{l:List α}{k:Nat}{x:α}(h:l[k]? = some x)(A:f x=true)(B:∀j y,j<k->l[j]? = some y->f y=false):zbQ f l=k:=by
 obtain⟨C,rfl⟩:=List.getElem?_eq_some_iff.1 h;unfold zbQ;have:l.findIdx? f=some k:=by
  rw[List.findIdx?_eq_some_iff_getElem];exact⟨C,A,fun j D=>by simp[B j _ D (Xn (by omega))]⟩
 rw[this]
theorem ZbB{α:Type}{f:α->Bool}{l:List α}(B:∀j y,j<l.length->l[j]? = some y->f y=false):zbQ f l = -1:=by
 unfold zbQ;have:l.findIdx? f=none:=by
  rw[List.findIdx?_eq_none_iff];intro x C;obtain⟨j,A,rfl⟩:=List.getElem_of_mem C;exact B j _ A (Xn A)
 rw[this]
theorem ZbY{α:Type}(f:α->Bool)(l:List α):decide (0<=zbQ f l)=l.any f:=by
 unfold zbQ;cases h:l.findIdx? f with
 |none =>
  rw[List.findIdx?_eq_none_iff]at h;have:l.any f=false:=by rw[List.any_eq_false];intro x C;simp[h x C]
  rw[this];rfl
 |some i =>
  rw[List.findIdx?_eq_some_iff_getElem]at h;obtain⟨A,B,_⟩:=h;have:l.any f=true:=by rw[List.any_eq_true];exact⟨_,List.getElem_mem A,B⟩
  rw[this];simp
theorem qbY{α:Type}(R:α->List Value->Prop)(f:α->Bool)(g:Nat)(Z:Array Value)(r:∀args w,(callFunc g args).run Tryz.prog w=.ok (.enter g args) w)(l:List α)(v:Value)(w:World)(h:Zg w 8 R v l)(a:∀W x J L M N O P S T,x∈l->R x [J,L,M,N,O,P,S,T]->Below w.heap.size w W->Calls Tryz.prog g (#[.agg #[J,L,M,N,O,P,S,T]]++Z) W fun e w'=>e=.returned (.bool (f x))/\Below W.heap.size W w'):
 Calls Tryz.prog 199 #[v,.func (.func g) #[] Z] w fun e w'=>e=.returned (.int .i64 (zbQ f l))/\Below w.heap.size w w':=by
 obtain⟨p,cap,rfl,n,q,E⟩:=h.open;have U:=Xh E;clear E h;have V:=Xh a;clear a;have c:l.length<=9223372036854775807:=Xf n q;go_enter Tryz.func199,Tryz.ntmps199;go_wp2_with fail;go_loopw [5,8] (fun _ x wr=>∃k,k<=l.length/\Hid (∀j y,j<k->l[j]? = some y->f y=false)/\Below w.heap.size w wr/\x=.int .i64 k) (fun _ x _=>l.length-(intOf x).toNat)
 case atStart=>exact⟨0,by omega,fun j y h=>by omega,Xb,rfl⟩
 case round =>
  obtain⟨k,s,B,F,rfl⟩:=hrel;by_cases X:k<l.length
  ·obtain⟨x,I⟩:∃x,l[k]? = some x:=⟨l[k],by simp[X]⟩;obtain⟨b,o,vs,rfl,i,G,H⟩:=U.out k x I;have H:=H.mono F (by match vs,G with|_::_,_=>exact H.lt);match vs,G with
   |[J,L,M,N,O,P,S,T],_ =>
   have A:=V.out wr x J L M N O P S T (Xe I) i F;have d:=Xh I;clear I i;obtain⟨t,z,c2,c3,c4,c5,c6,c7,_⟩:=H;cases D:f x with
   |true =>
    rw[D]at A;have Y:=Xh D;clear D V U;go_wp2_with (go_at_fn g;refine A.mono ?_;rintro e w'⟨rfl,C⟩)
    go_ret;exact⟨by rw[zbY d.out Y.out B.out];rfl,Qa F Xl C⟩
   |false =>
    rw[D]at A;have Y:=Xh D;clear D V U;go_wp2_with (go_at_fn g;refine A.mono ?_;rintro e w'⟨rfl,C⟩)
    refine⟨⟨k+1,by omega,fun j y hj m=>?_,Qa F Xl C,by simp⟩,by simp[intOf];omega⟩;by_cases e:j=k
    ·subst e;have:=d.out;rw[m]at this;injection this with this;rw[this];exact Y.out
    ·exact B.out j y (by omega) m
  ·obtain rfl:k=l.length:=(by omega);go_wp2_with fail;go_ret;exact⟨by rw[ZbB B.out];rfl,F⟩
theorem QbY{α:Type}(R:α->List Value->Prop)(f:α->Bool)(g:Nat)(A:Array Value)(M:∀args w,(callFunc g args).run Tryz.prog w=.ok (.enter g args) w)(l:List α)(v:Value)(w:World)(h:Zg w 8 R v l)(C:∀W x D E F G H I J L,x∈l->R x [D,E,F,G,H,I,J,L]->Below w.heap.size w W->Calls Tryz.prog g (#[.agg #[D,E,F,G,H,I,J,L]]++A) W fun e w'=>e=.returned (.bool (f x))/\Below W.heap.size W w'):
 Calls Tryz.prog 169 #[v,.func (.func g) #[] A] w fun e w'=>e=.returned (.bool (l.any f))/\Below w.heap.size w w':=by
 rw[<-ZbY];have N:=Xh (qbY R f g A M l v w h C);obtain⟨p,cap,rfl,O,P,_⟩:=h.open;clear C h;generalize zbQ f l=r at *;go_enter Tryz.func169,Tryz.ntmps169;go_wp2_with (go_at_call 199;refine N.out.mono ?_;rintro e w'⟨rfl,B⟩)
 go_ret;exact⟨rfl,B⟩
theorem Qcf{α:Type}(R:α->List Value->Prop)(f:α->Bool)(g:Nat)(S:Array Value)(c:∀args w,(callFunc g args).run Tryz.prog w=.ok (.enter g args) w)(l:List α)(v:Value)(w:World)(h:Zg w 2 R v l)(T:∀W x J L,x∈l->R x [J,L]->Below w.heap.size w W->Calls Tryz.prog g (#[.agg #[J,L]]++S) W fun e w'=>e=.returned (.bool (f x))/\Below W.heap.size W w'):
 Calls Tryz.prog 168 #[v,.func (.func g) #[] S] w fun e w'=>e=.returned (.int .i64 (zbQ f l))/\Below w.heap.size w w':=by
 obtain⟨p,cap,rfl,Z,a,E⟩:=h.open;have M:=Xh E;clear E h;have N:=Xh T;clear T;have U:l.length<=9223372036854775807:=Xf Z a;go_enter Tryz.func168,Tryz.ntmps168;go_wp2_with fail;go_loopw [5,8] (fun _ x wr=>∃k,k<=l.length/\Hid (∀j y,j<k->l[j]? = some y->f y=false)/\Below w.heap.size w wr/\x=.int .i64 k) (fun _ x _=>l.length-(intOf x).toNat)
 case atStart=>exact⟨0,by omega,fun j y h=>by omega,Xb,rfl⟩
 case round =>
  obtain⟨k,d,B,F,rfl⟩:=hrel;by_cases O:k<l.length
  ·obtain⟨x,I⟩:∃x,l[k]? = some x:=⟨l[k],by simp[O]⟩;obtain⟨b,o,vs,rfl,X,G,H⟩:=M.out k x I;have H:=H.mono F (by match vs,G with|_::_,_=>exact H.lt);match vs,G with
   |[J,L],_ =>
   have A:=N.out wr x J L (Xe I) X F;have V:=Xh I;clear I X;obtain⟨i,m,_⟩:=H;cases D:f x with
   |true =>
    rw[D]at A;have P:=Xh D;clear D N M;go_wp2_with (go_at_fn g;refine A.mono ?_;rintro e w'⟨rfl,C⟩)
    go_ret;exact⟨by rw[zbY V.out P.out B.out];rfl,Qa F Xl C⟩
   |false =>
    rw[D]at A;have P:=Xh D;clear D N M;go_wp2_with (go_at_fn g;refine A.mono ?_;rintro e w'⟨rfl,C⟩)
    refine⟨⟨k+1,by omega,fun j y n Y=>?_,Qa F Xl C,by simp⟩,by simp[intOf];omega⟩;by_cases e:j=k
    ·subst e;have:=V.out;rw[Y]at this;injection this with this;rw[this];exact P.out
    ·exact B.out j y (by omega) Y
  ·obtain rfl:k=l.length:=(by omega);go_wp2_with fail;go_ret;exact⟨by rw[ZbB B.out];rfl,F⟩
theorem zcf{α:Type}(R:α->List Value->Prop)(f:α->Bool)(g:Nat)(A:Array Value)(F:∀args w,(callFunc g args).run Tryz.prog w=.ok (.enter g args) w)(l:List α)(v:Value)(w:World)(h:Zg w 2 R v l)(C:∀W x D E,x∈l->R x [D,E]->Below w.heap.size w W->Calls Tryz.prog g (#[.agg #[D,E]]++A) W fun e w'=>e=.returned (.bool (f x))/\Below W.heap.size W w'):
 Calls Tryz.prog 120 #[v,.func (.func g) #[] A] w fun e w'=>e=.returned (.bool (l.any f))/\Below w.heap.size w w':=by
 rw[<-ZbY];have G:=Xh (Qcf R f g A F l v w h C);obtain⟨p,cap,rfl,H,I,_⟩:=h.open;clear C h;generalize zbQ f l=r at *;go_enter Tryz.func120,Tryz.ntmps120;go_wp2_with (go_at_call 168;refine G.out.mono ?_;rintro e w'⟨rfl,B⟩)
 go_ret;exact⟨rfl,B⟩
theorem zbZ{α:Type}(R:α->List Value->Prop)(f:α->Bool)(g:Nat)(P:Array Value)(c:∀args w,(callFunc g args).run Tryz.prog w=.ok (.enter g args) w)(l:List α)(v:Value)(w:World)(h:Zg w 1 R v l)(S:∀W x J,x∈l->R x [J]->Below w.heap.size w W->Calls Tryz.prog g (#[J]++P) W fun e w'=>e=.returned (.bool (f x))/\Below W.heap.size W w'):
 Calls Tryz.prog 172 #[v,.func (.func g) #[] P] w fun e w'=>e=.returned (.int .i64 (zbQ f l))/\Below w.heap.size w w':=by
 obtain⟨p,cap,rfl,Y,Z,E⟩:=h.open;have L:=Xh E;clear E h;have M:=Xh S;clear S;have T:l.length<=9223372036854775807:=Xf Y Z;go_enter Tryz.func172,Tryz.ntmps172;go_wp2_with fail;go_loopw [5,8] (fun _ x wr=>∃k,k<=l.length/\Hid (∀j y,j<k->l[j]? = some y->f y=false)/\Below w.heap.size w wr/\x=.int .i64 k) (fun _ x _=>l.length-(intOf x).toNat)
 case atStart=>exact⟨0,by omega,fun j y h=>by omega,Xb,rfl⟩
 case round =>
  obtain⟨k,d,B,F,rfl⟩:=hrel;by_cases N:k<l.length
  ·obtain⟨x,I⟩:∃x,l[k]? = some x:=⟨l[k],by simp[N]⟩;obtain⟨b,o,vs,rfl,V,G,H⟩:=L.out k x I;have H:=H.mono F (by match vs,G with|_::_,_=>exact H.lt);match vs,G with
   |[J],_ =>
   have A:=M.out wr x J (Xe I) V F;have U:=Xh I;clear I V;obtain⟨a,_⟩:=H;rw[Nat.mul_one]at a;cases D:f x with
   |true =>
    rw[D]at A;have O:=Xh D;clear D M L;go_wp2_with (go_at_fn g;refine A.mono ?_;rintro e w'⟨rfl,C⟩)
    go_ret;exact⟨by rw[zbY U.out O.out B.out];rfl,Qa F Xl C⟩
   |false =>
    rw[D]at A;have O:=Xh D;clear D M L;go_wp2_with (go_at_fn g;refine A.mono ?_;rintro e w'⟨rfl,C⟩)
    refine⟨⟨k+1,by omega,fun j y i X=>?_,Qa F Xl C,by simp⟩,by simp[intOf];omega⟩;by_cases e:j=k
    ·subst e;have:=U.out;rw[X]at this;injection this with this;rw[this];exact O.out
    ·exact B.out j y (by omega) X
  ·obtain rfl:k=l.length:=(by omega);go_wp2_with fail;go_ret;exact⟨by rw[ZbB B.out];rfl,F⟩
theorem ZbZ{α:Type}(R:α->List Value->Prop)(f:α->Bool)(g:Nat)(A:Array Value)(E:∀args w,(callFunc g args).run Tryz.prog w=.ok (.enter g args) w)(l:List α)(v:Value)(w:World)(h:Zg w 1 R v l)(C:∀W x D,x∈l->R x [D]->Below w.heap.size w W->Calls Tryz.prog g (#[D]++A) W fun e w'=>e=.returned (.bool (f x))/\Below W.heap.size W w'):
 Calls Tryz.prog 124 #[v,.func (.func g) #[] A] w fun e w'=>e=.returned (.bool (l.any f))/\Below w.heap.size w w':=by
 rw[<-ZbY];have F:=Xh (zbZ R f g A E l v w h C);obtain⟨p,cap,rfl,G,H,_⟩:=h.open;clear C h;generalize zbQ f l=r at *;go_enter Tryz.func124,Tryz.ntmps124;go_wp2_with (go_at_call 172;refine F.out.mono ?_;rintro e w'⟨rfl,B⟩)
 go_ret;exact⟨rfl,B⟩
theorem q8(a b:ByteArray):(a.toList==b.toList)=decide (a=b):=by
 rw[Bool.eq_iff_iff];simp only[beq_iff_eq,decide_eq_true_eq,ByteArray.toList_eq];constructor
 ·intro h;exact ByteArray.ext (Array.toList_inj.1 h)
 ·rintro rfl;rfl
theorem zan(l:List ByteArray)(v:Value)(x:ByteArray)(w:World)(h:Qh w v l):Calls Tryz.prog 119 #[v,.string x] w fun e w'=>e=.returned (.bool (QK l x))/\w=w':=by
 obtain⟨p,cap,rfl,B,C,A⟩:=h.open;cases l with
 |nil=>exact(Tryz.slices_Contains_string_empty p cap x w).mono fun e w' ⟨B,C⟩=>⟨B,C.symm⟩
 |cons y r =>
  obtain⟨b,o,_,rfl,_⟩:=A 0 y rfl;refine(Tryz.slices_Contains_string b o _ cap (y::r) x w Xl (Xf B C) ?_).mono ?_
  ·intro j I;obtain⟨b',J,vs,D,G,_,H⟩:=A j (y::r)[j] (by simp);injection D with D;injection D with E F;subst E F
   unfold qs at G;subst G;rw[List.getD_eq_getElem?_getD,Xn I];have:=H.1;rwa [Nat.mul_one]at this
  ·rintro e w'⟨rfl,rfl⟩;refine⟨?_,rfl⟩;congr 2;rw[List.take_length,Bool.eq_iff_iff,Zy,Lib.containsS_iff]
theorem Zg.take{α:Type}{w:World}{k:Nat}{R:α->List Value->Prop}{p:Option Addr}{n cap:Nat}{l:List α}(h:Zg w k R (.slice p n cap) l)(D:n=l.length){i:Nat}{b o:Nat}(E:p=some ⟨b,o,none⟩)(F:i<=l.length):
 Zg w k R (.slice p i cap) (l.take i):=by
 subst E D;rcases h with⟨h,_⟩|⟨a,C,G,L,H,I⟩
 ·simp at h
 ·injection G with B M J
  injection B with B
  subst B J;refine Or.inr ⟨_,cap,by rw[List.length_take,Nat.min_eq_left F],by rw[List.length_take];omega,H,fun j x A=>I j x ?_⟩;rw[List.getElem?_take]at A;split at A
  ·exact A
  ·simp at A
theorem qcI(x:qi)(J L:Value)(F G:ByteArray)(B:Nat)(w:World)(P:B<w.heap.size)(M:w.cell? ⟨B,0,none⟩=some (.string F))(N:w.cell? ⟨B,1,none⟩=some (.string G)):
 Calls Tryz.prog 170 #[qR x J L,.pointer (some ⟨B,0,none⟩)] w fun e w'=>e=.returned (.bool (decide (x.name=F)&&decide (x.type=G)))/\Below w.heap.size w w':=by
 obtain⟨C,D,static,O,H,E,I,A⟩:=x;unfold qR;dsimp only;rw[<-q8,<-q8];cases M:C.toList==F.toList<;>cases N:D.toList==G.toList
 all_goals
  go_enter Tryz.func170,Tryz.ntmps170;go_wp2
  go_ret;exact⟨rfl,Xb.alloc Xl _⟩
theorem qc5(x:Qag)(C:ByteArray)(B:Nat)(w:World)(F:B<w.heap.size)(E:w.cell? ⟨B,0,none⟩=some (.string C)):
 Calls Tryz.prog 121 #[.agg #[.string x.name,.string x.type],.pointer (some ⟨B,0,none⟩)] w fun e w'=>e=.returned (.bool (decide (x.name=C)))/\Below w.heap.size w w':=by
 obtain⟨A,D⟩:=x;dsimp only;rw[<-q8];cases E:A.toList==C.toList;all_goals
  go_enter Tryz.func121,Tryz.ntmps121;go_wp2
  go_ret;exact⟨rfl,Xb.alloc Xl _⟩
set_option maxRecDepth 100000
theorem Qc5(m:qi)(f i:Value)(ahead:List qi)(j:Value)(w:World)(o:QaB w)(k:Z1 m)(X:Zg w 6 Zw f m.code)(Y:Zg w 4 Qt i m.handlers)(Z:Zg w 8 (zr w) j ahead)(v:Value)(a:zE (qq m ahead)=v):
 Calls Tryz.prog 122 #[qR m f i,j] w fun e w'=>e=.returned v/\Below w.heap.size w w':=by
 have F:Hid (∀wx,_):=fun wx=>ZR m.name wx (Xf k.name (by decide))
 have G:Hid (∀wx,_):=fun wx=>Zan m.type wx k.type
 have D:Hid (∀wx,Below w.heap.size w wx->_):=fun wx V=>ZdS m f i wx (o.mono V o.1) k (X.mono V (by decide) (fun _ _ h=>h)) (Y.mono V (by decide) (fun _ _ h=>h))
 have H:Hid (∀wx,Below w.heap.size w wx->w.heap.size<wx.heap.size->wx.cell? ⟨w.heap.size,0,none⟩=some (.string m.name)->wx.cell? ⟨w.heap.size,1,none⟩=some (.string m.type)->Calls Tryz.prog 169 #[j,.func (.func 170) #[] #[.pointer (some ⟨w.heap.size,0,none⟩)]] wx fun e w'=>e=.returned (.bool (ahead.any fun x=>decide (x.name=m.name)&&decide (x.type=m.type)))/\Below wx.heap.size wx w'):=by
  intro wx V hs h0 h1;refine QbY (zr wx) (fun x=>decide (x.name=m.name)&&decide (x.type=m.type)) 170 _ (enters_of Tryz.func170 (by kernel_rfl) rfl) ahead j wx (Z.mono V (by decide) (fun _ _ h=>h.mono V)) ?_;rintro W x a0 a1 a2 a3 a4 a5 a6 a7 hx⟨c,h,hh,_,_⟩r;simp only[List.cons.injEq]at hh;obtain⟨rfl,rfl,rfl,rfl,rfl,rfl,rfl,rfl,_⟩:=hh;show Calls Tryz.prog 170 #[qR x a6 a7,.pointer (some ⟨w.heap.size,0,none⟩)] W _
  exact qcI x a6 a7 _ _ _ W (Nat.lt_of_lt_of_le hs r.size) ((r.cell (p:=⟨_,0,none⟩) hs).trans h0) ((r.cell (p:=⟨_,1,none⟩) hs).trans h1)
 have hmf:∀fn first cap w,(Instr.makeFunc fn first cap).run Tryz.prog w=.ok (.func fn first cap) w:=fun _ _ _ _=>rfl
 have E:Hid (v=zE (if !qt (lst m.name) then 1 else if (Zm m.type).isNone then 1 else if ahead.any fun x=>decide (x.name=m.name)&&decide (x.type=m.type) then 5 else if m.locals<0\/8<m.locals then 2 else qY m)):=a.symm;generalize (ahead.any fun x=>decide (x.name=m.name)&&decide (x.type=m.type))=tw at *;clear a o k X Y Z;unfold qR at *;generalize qY m=bf at *;obtain⟨C,O,static,q,d,B,y,U⟩:=m;dsimp only at *;cases T:qt C.data.toList with
 |false =>
  have A:Hid (v=.iface 29 (.int .i64 1)):=by rw[E.out];simp[lst,T,zE,Hid]
  have I:zE (Qw C)=.iface 29 (.int .i64 1):=by unfold Qw;simp[T,zE]
  rw[I]at F;clear E T I G D H;go_enter Tryz.func122,Tryz.ntmps122;go_wp2_with (go_fit (F.out _);rintro e w2⟨rfl,P⟩)
  cases A.out;go_ret;exact⟨rfl,Qa (Xb.alloc Xl _) Xl P⟩
 |true =>
  have I:zE (Qw C)=.nilIface:=by unfold Qw;simp[T,zE]
  rw[I]at F;rw[show qt (lst C)=true from T]at E;clear T I;cases l:Zm O with
  |none =>
   rw[l]at G E;have A:Hid (v=.iface 29 (.int .i64 1)):=(by rw[E.out];rfl);clear E l D H;go_enter Tryz.func122,Tryz.ntmps122;go_wp2_with (first|(go_fit (F.out _);rintro e w2⟨rfl,P⟩;obtain⟨L,_⟩:=qaC P;(have R:=L w.heap.size 1 (by simp)))|(go_fit (G.out _);rintro e w3⟨M,rfl⟩))
   cases A.out;go_ret;exact⟨rfl,Qa (Qa (Xb.alloc Xl _) Xl P) Xl M⟩
  |some ag =>
   obtain⟨args,g⟩:=ag;rw[l]at G E;clear l;go_enter Tryz.func122,Tryz.ntmps122;go_upto_region 6 with(first|(go_fit (F.out _);rintro e w2⟨rfl,P⟩;obtain⟨L,_⟩:=qaC P;(have R:=L w.heap.size 1 (by simp)))|(go_fit (G.out _);rintro e w3⟨M,mv,rfl,s⟩))
   have J:zB w w3 [.string C,.string O,.bool static,.bool q,.bool d,.int .i64 B,f,i]:=zB.step (zB.step (wx:=w.alloc _) ⟨Xb.alloc Xl _,by simp,by simp[QG]⟩ P) M;clear R L P M s;obtain⟨n,R,z,q3,q4,q5,q6,q7⟩:=Qah J;have S:=J.size;cases tw with
   |true =>
    have A:Hid (v=.iface 29 (.int .i64 5)):=(by rw[E.out];rfl);clear E D;go_wp2_with (go_fit (H.out _ J.below S n R);rintro e w4⟨rfl,N⟩)
    cases A.out;go_ret;exact⟨rfl,(J.step N).below⟩
   |false =>
    go_upto_region 8 with(go_fit (H.out _ J.below S n R);rintro e w4⟨rfl,N⟩)
    replace J:=J.step N;clear n R z q3 q4 q5 q6 q7 S N H;obtain⟨n,R,z,q3,q4,q5,q6,q7⟩:=Qah J;by_cases b:B<0\/8<B
    ·have A:Hid (v=.iface 29 (.int .i64 2)):=(by rw[E.out];simp only[b];rfl);clear E D;go_wp2_with fail;all_goals first|(exfalso;omega)|skip
     all_goals
      cases A.out;go_ret;exact⟨rfl,J.below⟩
    ·have A:Hid (v=zE bf):=(by rw[E.out];simp only[b];rfl);rw[<-A.out]at D;clear E;go_wp2_with (go_fit (D.out _ J.below);rintro e w5⟨rfl,t⟩)
     all_goals first|(exfalso;omega)|skip
     go_ret;exact⟨rfl,(J.step t).below⟩
set_option maxRecDepth 512
end Go.Proofs.YtlmfmioljeppfaaGreatDoor
