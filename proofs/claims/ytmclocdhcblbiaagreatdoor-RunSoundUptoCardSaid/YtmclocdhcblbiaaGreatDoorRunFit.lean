/- Lemmas; conditions: as each states. -/
import Derived.Test.YtmclocdhcblbiaaGreatDoorRunHeaps
set_option maxHeartbeats 4000000
namespace Go.Proofs.YtmclocdhcblbiaaGreatDoor
open Go.RowKit Go.Shelf Go.Lib
theorem qz{α β:Type}{o:Option α}{f:α->Option β}{b:β}(h:o.bind f=some b):∃a,o=some a/\f a=some b:=by
 cases o with
 |none=>cases h
 |some a=>exact⟨a,rfl,h⟩
theorem Qbq{α β:Type}{o:Option α}{f:α->β}{b:β}(h:o.map f=some b):∃a,o=some a/\f a=b:=by
 cases o with
 |none=>cases h
 |some a=>exact⟨a,rfl,Option.some.inj h⟩
theorem Qk.pop1{cs:List qa}{h:List Zc}{S:List Val}{K K':List Str}{k:Str}(a:Qk cs h S K)(e:zB K=some (k,K')):1<=S.length:=by
 have:=(a.popped e).1;have h:=congrArg List.length this;rw[List.length_append]at h;simp at h;omega
theorem Zev{l:List qa}(M:zh l){h:List Zc}(N:zah (Za l) h){x:Ins}(Z:Qo x=0){Zb:Str}{L S:List Val}{O D E F:List Str}(c:Qk (Za l) h L O)(G:Qk (Za l) h S D)(A:qD (Za l) Zb x O D=some (E,F)):qcB x L S:=by
 obtain⟨_,_,I,e⟩:=qaP Z;clear Z;obtain⟨i,a,b,B,cls,J⟩:=x;refine⟨fun H=>?_,fun H=>?_,fun H=>?_,fun H=>?_,fun H=>?_,fun H=>?_⟩<;>dsimp only at H ⊢
 ·subst H;have A:QbB O D a=some (E,F):=A;unfold QbB at A;cases d:O[a.toNat]? with
  |none=>rw[d]at A;cases A
  |some k =>
   obtain⟨v,R,_⟩:=c.get d;exact⟨v,R⟩
 ·subst H;have A:qa0 O D a=some (E,F):=A;unfold qa0 at A;obtain⟨p,_,A⟩:=qz A;split at A
  ·rename_i V;rw[c.len];exact V
  ·cases A
 ·rcases H with rfl|rfl|rfl|rfl|rfl
  ·have I:(decide (0<=a)&&decide (a<8))=true:=I;rw[Bool.and_eq_true]at I;exact Xm I.1
  ·have I:(decide (0<=a)&&decide (a<8))=true:=I;rw[Bool.and_eq_true]at I;exact Xm I.1
  ·exact QcB (x:=⟨12,a,b,B,cls,J⟩) rfl I
  ·exact QcB (x:=⟨13,a,b,B,cls,J⟩) rfl I
  ·exact QcB (x:=⟨14,a,b,B,cls,J⟩) rfl I
 ·rcases H with rfl|rfl|rfl|rfl|rfl|rfl|⟨rfl,rfl⟩
  ·obtain⟨p,C,_⟩:=qz (show(zB D).bind _=some (E,F) from A);exact G.pop1 C
  ·obtain⟨p,C,_⟩:=Qbq (show(zB D).map _=some (E,F) from A);exact G.pop1 C
  ·obtain⟨p,C,_⟩:=qz (show(zB D).bind _=some (E,F) from A);exact G.pop1 C
  ·obtain⟨p,C,_⟩:=qz (show(Qf (Za l) [Zat B] D).bind _=some (E,F) from A);exact(G.take M N C).1
  ·obtain⟨p,C,_⟩:=Qbq (show(Qf (Za l) [kI] D).map _=some (E,F) from A);exact(G.take M N C).1
  ·obtain⟨p,C,_⟩:=qz (show(zB D).bind _=some (E,F) from A);exact G.pop1 C
  ·obtain⟨K,C,A⟩:=qz (show((Qf (Za l) (Qan 12 B) D).bind fun X=>(Qf (Za l) [B] X).bind fun Y=>zr O Y B)=some (E,F) from A);rw[show Qan 12 B=[] from rfl]at C;injection C with C
   subst C;obtain⟨f,P,_⟩:=qz A;exact(G.take M N P).1
 ·rcases H with rfl|rfl|⟨rfl,g⟩
  ·obtain⟨p,C,A⟩:=qz (show(zB D).bind _=some (E,F) from A);obtain⟨q,P,_⟩:=qz A;have R:=G.pop1 C;have T:=(G.popped C).2.1.pop1 P;rw[List.length_dropLast]at T;omega
  ·obtain⟨p,C,_⟩:=qz (show(Qf (Za l) [kJ,kJ] D).bind _=some (E,F) from A);exact(G.take M N C).1
  ·obtain⟨K,C,A⟩:=qz (show((Qf (Za l) (Qan a B) D).bind fun X=>(Qf (Za l) [B] X).bind fun Y=>zr O Y B)=some (E,F) from A);obtain⟨f,P,_⟩:=qz A;have U:∃t,Qan a B=[t]:=by
    unfold Qan;rw[if_neg g];split
    ·exact⟨_,rfl⟩
    ·exact⟨_,rfl⟩
   obtain⟨t,U⟩:=U;rw[U]at C;have R:=(G.take M N C).1;have T:=((G.take1 M N C).1.take M N P).1;rw[List.length_dropLast]at T;simp at R T;omega
 ·subst H;exact e
theorem QdT{cs:List qa}{h:List Zc}{v:Val}{k:Str}(A:zy cs h v k)(B:ZaS (qr k)=true)(C:0<v.n):v.n.toNat-1<h.length:=by
 obtain⟨x,D,_⟩:=(Qea A B).2.2 C;exact(List.getElem?_eq_some_iff.1 D).1
theorem Qbx{l:List qa}(C:zh l)(E:∀c∈l,qf c=0){h:List Zc}(F:Qx (Za l) h=0){v:Val}{cls n t:Str}(H:zy (Za l) h v (Qc cls))(L:qL (Za l) cls n=some t):
 (0<v.n->v.n.toNat-1<h.length)/\(Qb (Za l) cls).isSome=true/\∃k,zat (Za l) cls n=some k/\(0<v.n->k<(zl h v).has.length):=by
 obtain⟨B,p,A,rfl⟩:=QbJ L;obtain⟨O,I,_⟩:=qdy C E B B (qaS C B (Zab cls)) A;refine⟨fun G=>?_,B,O,I,fun G=>?_⟩
 ·obtain⟨x,k,J,_⟩:=ZaV C E F B H G A;exact(List.getElem?_eq_some_iff.1 J).1
 ·obtain⟨x,k,J,P,R,D,S⟩:=ZaV C E F B H G A;rw[I]at D;injection D with D
  subst D;rw[P];have M:=qaU (Zj F x R);have N:=(List.getElem?_eq_some_iff.1 S).1;omega
theorem Qe8{l:List qa}(A:zh l){h:List Zc}(B:zah (Za l) h){t u:Str}{S:List Val}{K K':List Str}(a:Qk (Za l) h S K)(e:Qf (Za l) [t,u] K=some K'):S=S.dropLast.dropLast++[Qj S.dropLast]++[Qj S]:=qb6 (a.take A B e).1
theorem zeb{l:List qa}(B:zh l){h:List Zc}(A:Qx (Za l) h=0){t:Str}{S:List Val}{K K':List Str}(a:Qk (Za l) h S K)(e:ZN (Za l) t K=some K')(G:qo (lst t)=true):
 2<=S.length/\(0<(Qj S.dropLast).n->(Qj S.dropLast).n.toNat-1<h.length/\∃e,qd (.ar e)=lst (zl h (Qj S.dropLast)).type):=by
 obtain⟨T,k,C,D,I⟩:=zbK e;have R:=(a.take B (Zj A) C).1;obtain⟨E,_⟩:=a.take1 B (Zj A) C;have H:=E.pop1 (Zau D).1;obtain⟨U,J,_⟩:=E.popR D;rw[List.length_dropLast]at H;refine⟨by omega,fun P=>?_⟩;obtain⟨x,y,L,M,N,O,_⟩:=zbr B A G J P I;refine⟨(List.getElem?_eq_some_iff.1 L).1,y,?_⟩;obtain⟨_,_,z,F⟩:=QI (Zj A x N);rw[M,<-F.text,<-F.of,O]
theorem qeV{l:List qa}(J:zh l)(Y:∀c∈l,qf c=0){h:List Zc}(R:Qx (Za l) h=0){x:Ins}(i:Qo x=0){Z:Str}{O G E F:List Str}{S:List Val}(L:Qk (Za l) h S G)(B:ZH (Za l) Z x O G=some (E,F)):zci (Za l) h x S:=by
 obtain⟨_,_,_,C⟩:=qaP i;clear i;have P:=Zj R;obtain⟨q,a,b,A,cls,I⟩:=x;have M:∀{t K'},Qf (Za l) [t] G=some K'->∃T v,S=T++[v]:=fun e=>⟨_,_,qat (L.take J P e).1⟩
 have N:∀{k K'},ZM G=some (k,K')->S=S.dropLast++[Qj S]:=fun e=>qat (L.pop1 (Zau e).1)
 refine⟨fun H=>?_,fun H=>?_,fun H=>?_,fun H=>?_,fun H=>?_,fun H=>?_,fun H=>?_,fun H=>?_,fun H=>?_⟩<;>dsimp only at H ⊢
 ·subst H;exact QaT (Zae (show knK (Za l) (Qc cls) _=some (E,F) from B)).1
 ·rcases H with rfl|rfl|rfl|rfl|rfl
  ·obtain⟨t,C,B⟩:=qz (show(qL (Za l) cls I).bind _=some (E,F) from B);obtain⟨K,D,_⟩:=qz B;exact M D
  ·obtain⟨K,D,_⟩:=qz (Zae (show knK (Za l) A ((Qf (Za l) [kI] G).bind fun X=>zr O X (Z1 A))=some (E,F) from B)).2;exact M D
  ·obtain⟨p,D,_⟩:=qz (show(ZM G).bind _=some (E,F) from B);exact⟨_,_,N D⟩
  ·obtain⟨p,D,_⟩:=qz (Zae (show knK (Za l) A ((ZM G).bind fun p=>zr O p.2 A)=some (E,F) from B)).2;exact⟨_,_,N D⟩
  ·obtain⟨p,D,_⟩:=qz (Zae (show knK (Za l) A ((ZM G).bind fun p=>zr O p.2 kI)=some (E,F) from B)).2;exact⟨_,_,N D⟩
 ·rcases H with rfl|rfl|rfl|rfl
  ·obtain⟨t,C,B⟩:=qz (show(qL (Za l) cls I).bind _=some (E,F) from B);obtain⟨K,D,_⟩:=qz B;exact(Qbx J Y R (L.take1 J P D).2 C).1
  ·obtain⟨p,D,_⟩:=qz (show(ZM G).bind _=some (E,F) from B);obtain⟨_,U,V⟩:=L.popR D;exact QdT U V
  ·obtain⟨p,D,_⟩:=qz (Zae (show knK (Za l) A ((ZM G).bind fun p=>zr O p.2 A)=some (E,F) from B)).2;obtain⟨_,U,V⟩:=L.popR D;exact QdT U V
  ·obtain⟨p,D,_⟩:=qz (Zae (show knK (Za l) A ((ZM G).bind fun p=>zr O p.2 kI)=some (E,F) from B)).2;obtain⟨_,U,V⟩:=L.popR D;exact QdT U V
 ·rcases H with rfl|rfl
  ·obtain⟨t,C,B⟩:=qz (show(qL (Za l) cls I).bind _=some (E,F) from B);obtain⟨K,D,_⟩:=Qbq (show(Qf (Za l) [t,Qc cls] G).map _=some (E,F) from B);exact⟨_,_,_,Qe8 J P L D,(Qbx J Y R (L.take2 J P D).2.2 C).1⟩
  ·have C:(qo (lst A)&&qo (91::lst A))=true:=C;rw[Bool.and_eq_true]at C;obtain⟨K,D,_⟩:=qz (show(ZN (Za l) A G).bind _=some (E,F) from B);obtain⟨d,f⟩:=zeb J R L D C.1;exact⟨_,_,_,qb6 d,fun n=>(f n).1⟩
 ·subst H;obtain⟨t,C,B⟩:=qz (show(qL (Za l) cls I).bind _=some (E,F) from B);obtain⟨K,D,_⟩:=qz B;exact(Qbx J Y R (L.take1 J P D).2 C).2
 ·subst H;obtain⟨t,C,B⟩:=qz (show(qL (Za l) cls I).bind _=some (E,F) from B);obtain⟨K,D,_⟩:=Qbq (show(Qf (Za l) [t,Qc cls] G).map _=some (E,F) from B);exact(Qbx J Y R (L.take2 J P D).2.2 C).2
 ·subst H;have C:(qo (lst A)&&qo (91::lst A))=true:=C;rw[Bool.and_eq_true]at C;exact⟨(Zae (show knK (Za l) A ((Qf (Za l) [kI] G).bind fun X=>zr O X (Z1 A))=some (E,F) from B)).1,C.2⟩
 ·subst H;have C:(qo (lst A)&&qo (91::lst A))=true:=C;rw[Bool.and_eq_true]at C;obtain⟨r,D,B⟩:=qz (Zae (show knK (Za l) A ((Qf (Za l) [A] G).bind fun X=>(ZN (Za l) A X).map fun o=>(O,o))=some (E,F) from B)).2;obtain⟨K,m,_⟩:=Qbq B;have d:=(L.take J P D).1;obtain⟨f,_⟩:=L.take1 J P D;obtain⟨U,V⟩:=zeb J R f m C.1;have e:=qb6 U;have j:=qat (S:=S) d;rw[e]at j;exact⟨_,_,_,_,j,V⟩
 ·rcases H with rfl|rfl
  ·have C:(qo (lst A)&&!ZO (lst A))=true:=C;rw[Bool.and_eq_true]at C;obtain⟨y,g⟩:=qX C.1;exact⟨(Zae (show knK (Za l) A ((ZM G).bind fun p=>zr O p.2 A)=some (E,F) from B)).1,y,g.text⟩
  ·have C:(qo (lst A)&&!ZO (lst A))=true:=C;rw[Bool.and_eq_true]at C;obtain⟨y,g⟩:=qX C.1;exact⟨(Zae (show knK (Za l) A ((ZM G).bind fun p=>zr O p.2 kI)=some (E,F) from B)).1,y,g.text⟩
structure zbV (given:List Val) (m:zg) (N:Nat):Prop where
 locals:m.locals=(N:Int)
 small:N<=8
 room:given.length<=N
theorem Zbg{l:List qa}(E:∀c∈l,qf c=0){d:Str}{m:zg}(F:(Qb (Za l) d).isSome=true)(G:m∈(Ze (Za l) d).methods)(H:m.abs=false){args:List Str}{g:Str}(I:qi m.type=some (args,g)){given:List Val}(J:given.length=if m.static then args.length else args.length+1):∃N,zbV given m N:=by
 obtain⟨c,L,_,B⟩:=Q2 F G;obtain⟨C,M,A,D⟩:=qcO (E c L) B H;refine⟨A,D.locals,D.small,?_⟩;rw[J,<-qaY I];exact D.args
structure Zdd (cs:List qa) (h:List Zc) (x:Ins) (S:List Val) (args:List Str) (ret:Str) (T0 given:List Val) (cn:Str) (m:zg):Prop where
 type:qi x.type=some (args,ret)
 stack:S=T0++given
 many:given.length=args.length+(if x.op=24 then 1 else 0)
 known:(Qb cs x.cls).isSome=true
 found:ZL cs x.cls x.name x.type=some (cn,m)
 locals:∃N:Nat,m.locals=(N:Int)
 enter:x.op=25\/m.priv=true->∃N,zbV given m N
 thing:x.op=24->0<(given.headD v0).n->(given.headD v0).n.toNat-1<h.length/\(Qb cs (ZY (zl h (given.headD v0)).type)).isSome=true/\∃y,qd y=lst (zl h (given.headD v0)).type/\qm y=true
 called:x.op=24->0<(given.headD v0).n->qai (qY cs (ZY (zl h (given.headD v0)).type) x.name x.type)=true->∃cn' m' N',qY cs (ZY (zl h (given.headD v0)).type) x.name x.type=some (cn',m')/\zbV given m' N'
theorem ze9{l:List qa}(I:zh l)(R:∀c∈l,qf c=0){h:List Zc}(o:Qx (Za l) h=0){J g:Str}{x:Ins}{fL q L' S':List Str}{S:List Val}(hS:Qk (Za l) h S q)(L:x.op=24\/x.op=25)(Y:qac (Za l) J g x fL q=some (L',S')):
 ∃args ret T0 given cn m,Zdd (Za l) h x S args ret T0 given cn m:=by
 have hh':qac (Za l) J g x fL q=Zap (Za l) J x.cls x.name x.type (decide (x.op=25)) fL q:=by
  rw[ZbV (by omega)];unfold ZH;rcases L with h|h<;>rw[h]<;>rfl
 rw[hh']at Y;obtain⟨hcf,args,r,S1,S2,s,h1,T,_⟩:=qcW Y;obtain⟨G,d,m,D,E,_⟩:=zbD hcf;obtain⟨k1,k2,k3⟩:=hS.rev I (Zj o) h1;obtain⟨d1,b,_,d4⟩:=zaO I G D;have A:=qaV I G d1;have Z:qi m.type=some (args,r):=by rw[show m.type=x.type from d4];exact s
 have a:∃N:Nat,m.locals=(N:Int):=by
  obtain⟨c,C,_,D⟩:=Q2 A b;have h0:0<=m.locals:=(ZbJ (R c C) D).1;exact⟨m.locals.toNat,by omega⟩
 rcases L with L|L
 ·have M:decide (x.op=25)=false:=by rw[L];rfl
  rw[M]at T E;have T:Qf (Za l) [Qc x.cls] S1=some S2:=T;obtain⟨_,g2⟩:=k2.take1 I (Zj o) T;have g0:=qat (k2.take I (Zj o) T).1;have F:(S.drop (S.length-args.length)).length=args.length:=by rw[List.length_drop];omega
  have O:(Qj (S.take (S.length-args.length))::S.drop (S.length-args.length)).length=args.length+1:=by rw[List.length_cons,F]
  have B:0<(Qj (S.take (S.length-args.length))).n->∃y:Zc,h[(Qj (S.take (S.length-args.length))).n.toNat-1]? = some y/\zl h (Qj (S.take (S.length-args.length)))=y/\(Qb (Za l) (ZY y.type)).isSome=true/\∃t,qd t=lst y.type/\qm t=true:=fun k=>by
   unfold zy at g2;rw[Qcd]at g2;obtain⟨_,y,v,f,U,V⟩:=Zam g2 rfl k;obtain⟨_,_,ty,H⟩:=QI (Zj o y U);refine⟨y,v,f,?_,ty,H.text,H.ref⟩;have hg:=H.good;unfold ZY;rw[H.of]at V ⊢;cases ty with
   |i=>cases V
   |j=>cases V
   |ar e=>exact zax l
   |cl c'=>exact hg
  refine⟨args,r,(S.take (S.length-args.length)).dropLast,Qj (S.take (S.length-args.length))::S.drop (S.length-args.length),d,m,s,?_,?_,G,D,a,fun z=>?_,fun _ k=>?_,fun _ k C=>?_⟩
  ·conv=>lhs;rw[<-List.take_append_drop (S.length-args.length) S,g0]
   simp
  ·rw[O,if_pos L]
  ·rcases z with z|z
   ·omega
   ·exact Zbg R A b (ZaT R A b (Or.inr z)) Z (by rw[O,E];rfl)
  ·obtain⟨y,v,f,U,V⟩:=B k;rw[List.headD_cons,f];exact⟨(List.getElem?_eq_some_iff.1 v).1,U,V⟩
  ·obtain⟨y,v,f,U,V⟩:=B k;rw[List.headD_cons,f]at C ⊢;cases P:qY (Za l) (ZY y.type) x.name x.type with
   |none=>rw[P]at C;cases C
   |some p =>
    rw[P]at C;obtain⟨e1,e2,_,e4⟩:=qbV I U P;obtain⟨pc,X⟩:=p;have C:(!X.static&&!X.priv&&!X.abs)=true:=C;simp only[Bool.and_eq_true,Bool.not_eq_true']at C;have hpt:qi X.type=some (args,r):=(by rw[show X.type=x.type from e4];exact s);obtain⟨N,hN⟩:=Zbg R (qaV I U e1) e2 C.2 hpt (given:=Qj (S.take (S.length-args.length))::S.drop (S.length-args.length)) (by rw[O,C.1.1];rfl);exact⟨pc,X,N,rfl,hN⟩
 ·have M:decide (x.op=25)=true:=by rw[L];rfl
  rw[M]at T E;have F:(S.drop (S.length-args.length)).length=args.length:=by rw[List.length_drop];omega
  refine⟨args,r,S.take (S.length-args.length),S.drop (S.length-args.length),d,m,s,(List.take_append_drop _ _).symm,?_,G,D,a,fun _=>?_,fun h24=>by omega,fun h24=>by omega⟩
  ·rw[F,if_neg (by omega),Nat.add_zero]
  ·exact Zbg R A b (ZaT R A b (Or.inl E)) Z (by rw[F,E];rfl)
structure Zeb (l:List qa) (h:List Zc) (c:Cal) (x:Ins):Prop where
 code:c.m.code[c.pc]? = some x
 lo:1<=x.op
 hi:x.op<=28
 place:c.pc<=40
 deep:c.S.length<=8
 plain:qcB x c.L c.S
 heap:zci (Za l) h x c.S
 call:x.op=24\/x.op=25->∃args ret T0 given cn m,Zdd (Za l) h x c.S args ret T0 given cn m
 one:x.op=27\/x.op=28->1<=c.S.length
 thrown:x.op=28->0<(Qj c.S).n->∃y:Zc,h[(Qj c.S).n.toNat-1]? = some y/\y∈h/\(Qb (Za l) (zam y.type)).isSome=true
theorem QeV{l:List qa}(G:zh l)(T:∀c∈l,qf c=0){b:Str}{h:List Zc}{c:Cal}{r:List Cal}(d:zaT l b ⟨h,c::r⟩):∃x,Zeb l h c x:=by
 obtain⟨L,_,c',r',g,e,⟨A,f,H,m,V,E⟩,_⟩:=d;dsimp only at L e V E;injection e with e1 e2
 subst e1 e2;obtain⟨n,x,X,P,⟨R,S,B,_⟩,_⟩:=H.at m;obtain⟨o,q,_,_⟩:=qaP P;have I:=Zj L;have J:=B;unfold qac at J;obtain⟨p,F,hq⟩:=qz J;obtain⟨L1,Y⟩:=p;have C:=Zev G I P V E F;obtain⟨z1,s,z3,z4⟩:=Qt n;refine⟨x,X,o,q,?_,?_,C,?_,fun D=>ze9 G T L E D B,fun D=>?_,fun D z=>?_⟩
 ·have U:=(List.getElem?_eq_some_iff.1 X).1;obtain⟨_,_,v,_⟩:=H.good;have h2:=(zau v.code).small;omega
 ·rw[E.len];exact s
 ·by_cases N:15<=x.op/\x.op<=25
  ·rw[ZbV N]at B;exact qeV G T L P E B
  ·exact⟨fun h=>by omega,fun h=>by omega,fun h=>by omega,fun h=>by omega,fun h=>by omega,fun h=>by omega,fun h=>by omega,fun h=>by omega,fun h=>by omega⟩
 ·rw[za9 (by omega)]at B;unfold qD at B;rcases D with D|D
  ·rw[D]at B;have B:(if (g.toList==[86])=true then none else (Qf (Za l) [g] f.stack).map fun Y=>(f.locals,Y))=some (R,S):=B;split at B
   ·cases B
   ·obtain⟨K,F,_⟩:=Qbq B;exact(E.take G I F).1
  ·rw[D]at B;obtain⟨K,F,_⟩:=Qbq (show(Qf (Za l) [Qc Zal] f.stack).map _=some (R,S) from B);exact(E.take G I F).1
 ·rw[za9 (by omega)]at B;unfold qD at B;rw[D]at B;obtain⟨K,F,_⟩:=Qbq (show(Qf (Za l) [Qc Zal] f.stack).map _=some (R,S) from B);have O:=(E.take1 G I F).2;unfold zy at O;rw[Qcd]at O;obtain⟨_,y,U,_,Z,M⟩:=Zam O rfl z;obtain⟨_,_,t,a⟩:=QI (I y Z);refine⟨y,U,Z,?_⟩;have k:=a.good;unfold zam;rw[a.of]at M ⊢;cases t with
  |i=>cases M
  |j=>cases M
  |ar e =>
   have:Zal=Zg:=Xm M;exact absurd this (by decide)
  |cl c =>
   have:str (zG (.cl c))=c:=ByteArray.ext (Array.ext' rfl);rw[this];exact k
end Go.Proofs.YtmclocdhcblbiaaGreatDoor
