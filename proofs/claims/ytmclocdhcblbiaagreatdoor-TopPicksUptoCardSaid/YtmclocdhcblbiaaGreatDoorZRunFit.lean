/- Lemmas; conditions: as each states. -/
import Derived.Test.YtmclocdhcblbiaaGreatDoorZRunHeaps
set_option maxHeartbeats 4000000
namespace Go.Proofs.YtmclocdhcblbiaaGreatDoor
open Go.RowKit Go.Shelf Go.Lib
theorem ZA{α β:Type}{o:Option α}{f:α->Option β}{b:β}(h:o.bind f=some b):∃a,o=some a/\f a=some b:=by
 cases o with
 |none=>cases h
 |some a=>exact⟨a,rfl,h⟩
theorem Zbt{α β:Type}{o:Option α}{f:α->β}{b:β}(h:o.map f=some b):∃a,o=some a/\f a=b:=by
 cases o with
 |none=>cases h
 |some a=>exact⟨a,rfl,Option.some.inj h⟩
theorem zl.pop1{cs:List qa}{h:List Zc}{S:List Val}{K K':List Str}{k:Str}(a:zl cs h S K)(e:zC K=some (k,K')):1<=S.length:=by
 have:=(a.popped e).1;have h:=congrArg List.length this;rw[List.length_append]at h;simp at h;omega
theorem zez{l:List qa}(I:Qg l){h:List Zc}(J:Qai (Za l) h){x:Ins}(X:qo x=0){Zb:Str}{L S:List Val}{M D E S':List Str}(Y:zl (Za l) h L M)(F:zl (Za l) h S D)(A:zE (Za l) Zb x M D=some (E,S')):qcE x L S:=by
 obtain⟨_,_,H,c⟩:=ZaT X;clear X;obtain⟨f,a,b,B,cls,name⟩:=x;refine⟨fun G=>?_,fun G=>?_,fun G=>?_,fun G=>?_,fun G=>?_,fun G=>?_⟩<;>dsimp only at G ⊢
 ·subst G;have A:zbE M D a=some (E,S'):=A;unfold zbE at A;cases Z:M[a.toNat]? with
  |none=>rw[Z]at A;cases A
  |some k =>
   obtain⟨v,O,_⟩:=Y.get Z;exact⟨v,O⟩
 ·subst G;have A:za4 M D a=some (E,S'):=A;unfold za4 at A;obtain⟨p,_,A⟩:=ZA A;split at A
  ·rename_i T;rw[Y.len];exact T
  ·cases A
 ·rcases G with rfl|rfl|rfl|rfl|rfl
  ·have H:(decide (0<=a)&&decide (a<8))=true:=H;rw[Bool.and_eq_true]at H;exact Xm H.1
  ·have H:(decide (0<=a)&&decide (a<8))=true:=H;rw[Bool.and_eq_true]at H;exact Xm H.1
  ·exact QcE (x:=⟨12,a,b,B,cls,name⟩) rfl H
  ·exact QcE (x:=⟨13,a,b,B,cls,name⟩) rfl H
  ·exact QcE (x:=⟨14,a,b,B,cls,name⟩) rfl H
 ·rcases G with rfl|rfl|rfl|rfl|rfl|rfl|⟨rfl,rfl⟩
  ·obtain⟨p,C,_⟩:=ZA (show(zC D).bind _=some (E,S') from A);exact F.pop1 C
  ·obtain⟨p,C,_⟩:=Zbt (show(zC D).map _=some (E,S') from A);exact F.pop1 C
  ·obtain⟨p,C,_⟩:=ZA (show(zC D).bind _=some (E,S') from A);exact F.pop1 C
  ·obtain⟨p,C,_⟩:=ZA (show(zg (Za l) [Qav B] D).bind _=some (E,S') from A);exact(F.take I J C).1
  ·obtain⟨p,C,_⟩:=Zbt (show(zg (Za l) [kI] D).map _=some (E,S') from A);exact(F.take I J C).1
  ·obtain⟨p,C,_⟩:=ZA (show(zC D).bind _=some (E,S') from A);exact F.pop1 C
  ·obtain⟨K,C,A⟩:=ZA (show((zg (Za l) (Qap 12 B) D).bind fun U=>(zg (Za l) [B] U).bind fun V=>qq M V B)=some (E,S') from A);rw[show Qap 12 B=[] from rfl]at C;injection C with C
   subst C;obtain⟨d,N,_⟩:=ZA A;exact(F.take I J N).1
 ·rcases G with rfl|rfl|⟨rfl,e⟩
  ·obtain⟨p,C,A⟩:=ZA (show(zC D).bind _=some (E,S') from A);obtain⟨q,N,_⟩:=ZA A;have O:=F.pop1 C;have P:=(F.popped C).2.1.pop1 N;rw[List.length_dropLast]at P;omega
  ·obtain⟨p,C,_⟩:=ZA (show(zg (Za l) [kJ,kJ] D).bind _=some (E,S') from A);exact(F.take I J C).1
  ·obtain⟨K,C,A⟩:=ZA (show((zg (Za l) (Qap a B) D).bind fun U=>(zg (Za l) [B] U).bind fun V=>qq M V B)=some (E,S') from A);obtain⟨d,N,_⟩:=ZA A;have R:∃t,Qap a B=[t]:=by
    unfold Qap;rw[if_neg e];split
    ·exact⟨_,rfl⟩
    ·exact⟨_,rfl⟩
   obtain⟨t,R⟩:=R;rw[R]at C;have O:=(F.take I J C).1;have P:=((F.take1 I J C).1.take I J N).1;rw[List.length_dropLast]at P;simp at O P;omega
 ·subst G;exact c
theorem qdX{cs:List qa}{h:List Zc}{v:Val}{k:Str}(A:Qy cs h v k)(B:zaW (Zr k)=true)(C:0<v.n):v.n.toNat-1<h.length:=by
 obtain⟨x,D,_⟩:=(Qeb A B).2.2 C;exact(List.getElem?_eq_some_iff.1 D).1
theorem Qbz{l:List qa}(C:Qg l)(E:∀c∈l,Qf c=0){h:List Zc}(F:Zy (Za l) h=0){v:Val}{cls n t:Str}(H:Qy (Za l) h v (Qc cls))(L:qN (Za l) cls n=some t):
 (0<v.n->v.n.toNat-1<h.length)/\(Qb (Za l) cls).isSome=true/\∃k,qav (Za l) cls n=some k/\(0<v.n->k<(qj h v).has.length):=by
 obtain⟨B,p,A,rfl⟩:=zbM L;obtain⟨O,I,_⟩:=qdC C E B B (zam C B (zad cls)) A;refine⟨fun G=>?_,B,O,I,fun G=>?_⟩
 ·obtain⟨x,k,J,_⟩:=Za0 C E F B H G A;exact(List.getElem?_eq_some_iff.1 J).1
 ·obtain⟨x,k,J,P,R,D,S⟩:=Za0 C E F B H G A;rw[I]at D;injection D with D
  subst D;rw[P];have M:=QaY (Qi F x R);have N:=(List.getElem?_eq_some_iff.1 S).1;omega
theorem Zff{l:List qa}(A:Qg l){h:List Zc}(B:Qai (Za l) h){t u:Str}{S:List Val}{K K':List Str}(a:zl (Za l) h S K)(e:zg (Za l) [t,u] K=some K'):S=S.dropLast.dropLast++[Qj S.dropLast]++[Qj S]:=zb8 (a.take A B e).1
theorem zec{l:List qa}(B:Qg l){h:List Zc}(A:Zy (Za l) h=0){t:Str}{S:List Val}{K K':List Str}(a:zl (Za l) h S K)(e:qP (Za l) t K=some K')(G:zp (lst t)=true):
 2<=S.length/\(0<(Qj S.dropLast).n->(Qj S.dropLast).n.toNat-1<h.length/\∃e,qe (.ar e)=lst (qj h (Qj S.dropLast)).type):=by
 obtain⟨T,k,C,D,I⟩:=ZbM e;have R:=(a.take B (Qi A) C).1;obtain⟨E,_⟩:=a.take1 B (Qi A) C;have H:=E.pop1 (Qaw D).1;obtain⟨U,J,_⟩:=E.popR D;rw[List.length_dropLast]at H;refine⟨by omega,fun P=>?_⟩;obtain⟨x,y,L,M,N,O,_⟩:=qbt B A G J P I;refine⟨(List.getElem?_eq_some_iff.1 L).1,y,?_⟩;obtain⟨_,_,z,F⟩:=qK (Qi A x N);rw[M,<-F.text,<-F.of,O]
theorem qe0{l:List qa}(H:Qg l)(V:∀c∈l,Qf c=0){h:List Zc}(O:Zy (Za l) h=0){x:Ins}(f:qo x=0){X:Str}{M F E S':List Str}{S:List Val}(I:zl (Za l) h S F)(B:qJ (Za l) X x M F=some (E,S')):zcj (Za l) h x S:=by
 obtain⟨_,_,_,C⟩:=ZaT f;clear f;have N:=Qi O;obtain⟨n,a,b,A,cls,name⟩:=x;have J:∀{t K'},zg (Za l) [t] F=some K'->∃T v,S=T++[v]:=fun e=>⟨_,_,zaw (I.take H N e).1⟩
 have L:∀{k K'},QD F=some (k,K')->S=S.dropLast++[Qj S]:=fun e=>zaw (I.pop1 (Qaw e).1)
 refine⟨fun G=>?_,fun G=>?_,fun G=>?_,fun G=>?_,fun G=>?_,fun G=>?_,fun G=>?_,fun G=>?_,fun G=>?_⟩<;>dsimp only at G ⊢
 ·subst G;exact zaY (Zag (show knK (Za l) (Qc cls) _=some (E,S') from B)).1
 ·rcases G with rfl|rfl|rfl|rfl|rfl
  ·obtain⟨t,C,B⟩:=ZA (show(qN (Za l) cls name).bind _=some (E,S') from B);obtain⟨K,D,_⟩:=ZA B;exact J D
  ·obtain⟨K,D,_⟩:=ZA (Zag (show knK (Za l) A ((zg (Za l) [kI] F).bind fun U=>qq M U (Q5 A))=some (E,S') from B)).2;exact J D
  ·obtain⟨p,D,_⟩:=ZA (show(QD F).bind _=some (E,S') from B);exact⟨_,_,L D⟩
  ·obtain⟨p,D,_⟩:=ZA (Zag (show knK (Za l) A ((QD F).bind fun p=>qq M p.2 A)=some (E,S') from B)).2;exact⟨_,_,L D⟩
  ·obtain⟨p,D,_⟩:=ZA (Zag (show knK (Za l) A ((QD F).bind fun p=>qq M p.2 kI)=some (E,S') from B)).2;exact⟨_,_,L D⟩
 ·rcases G with rfl|rfl|rfl|rfl
  ·obtain⟨t,C,B⟩:=ZA (show(qN (Za l) cls name).bind _=some (E,S') from B);obtain⟨K,D,_⟩:=ZA B;exact(Qbz H V O (I.take1 H N D).2 C).1
  ·obtain⟨p,D,_⟩:=ZA (show(QD F).bind _=some (E,S') from B);obtain⟨_,P,R⟩:=I.popR D;exact qdX P R
  ·obtain⟨p,D,_⟩:=ZA (Zag (show knK (Za l) A ((QD F).bind fun p=>qq M p.2 A)=some (E,S') from B)).2;obtain⟨_,P,R⟩:=I.popR D;exact qdX P R
  ·obtain⟨p,D,_⟩:=ZA (Zag (show knK (Za l) A ((QD F).bind fun p=>qq M p.2 kI)=some (E,S') from B)).2;obtain⟨_,P,R⟩:=I.popR D;exact qdX P R
 ·rcases G with rfl|rfl
  ·obtain⟨t,C,B⟩:=ZA (show(qN (Za l) cls name).bind _=some (E,S') from B);obtain⟨K,D,_⟩:=Zbt (show(zg (Za l) [t,Qc cls] F).map _=some (E,S') from B);exact⟨_,_,_,Zff H N I D,(Qbz H V O (I.take2 H N D).2.2 C).1⟩
  ·have C:(zp (lst A)&&zp (91::lst A))=true:=C;rw[Bool.and_eq_true]at C;obtain⟨K,D,_⟩:=ZA (show(qP (Za l) A F).bind _=some (E,S') from B);obtain⟨Y,Z⟩:=zec H O I D C.1;exact⟨_,_,_,zb8 Y,fun j=>(Z j).1⟩
 ·subst G;obtain⟨t,C,B⟩:=ZA (show(qN (Za l) cls name).bind _=some (E,S') from B);obtain⟨K,D,_⟩:=ZA B;exact(Qbz H V O (I.take1 H N D).2 C).2
 ·subst G;obtain⟨t,C,B⟩:=ZA (show(qN (Za l) cls name).bind _=some (E,S') from B);obtain⟨K,D,_⟩:=Zbt (show(zg (Za l) [t,Qc cls] F).map _=some (E,S') from B);exact(Qbz H V O (I.take2 H N D).2.2 C).2
 ·subst G;have C:(zp (lst A)&&zp (91::lst A))=true:=C;rw[Bool.and_eq_true]at C;exact⟨(Zag (show knK (Za l) A ((zg (Za l) [kI] F).bind fun U=>qq M U (Q5 A))=some (E,S') from B)).1,C.2⟩
 ·subst G;have C:(zp (lst A)&&zp (91::lst A))=true:=C;rw[Bool.and_eq_true]at C;obtain⟨o,D,B⟩:=ZA (Zag (show knK (Za l) A ((zg (Za l) [A] F).bind fun U=>(qP (Za l) A U).map fun m=>(M,m))=some (E,S') from B)).2;obtain⟨K,i,_⟩:=Zbt B;have Y:=(I.take H N D).1;obtain⟨Z,_⟩:=I.take1 H N D;obtain⟨P,R⟩:=zec H O Z i C.1;have e:=zb8 P;have g:=zaw (S:=S) Y;rw[e]at g;exact⟨_,_,_,_,g,R⟩
 ·rcases G with rfl|rfl
  ·have C:(zp (lst A)&&!QX (lst A))=true:=C;rw[Bool.and_eq_true]at C;obtain⟨y,d⟩:=Q8 C.1;exact⟨(Zag (show knK (Za l) A ((QD F).bind fun p=>qq M p.2 A)=some (E,S') from B)).1,y,d.text⟩
  ·have C:(zp (lst A)&&!QX (lst A))=true:=C;rw[Bool.and_eq_true]at C;obtain⟨y,d⟩:=Q8 C.1;exact⟨(Zag (show knK (Za l) A ((QD F).bind fun p=>qq M p.2 kI)=some (E,S') from B)).1,y,d.text⟩
structure zbX (given:List Val) (m:qc) (N:Nat):Prop where
 locals:m.locals=(N:Int)
 small:N<=8
 room:given.length<=N
theorem zbj{l:List qa}(E:∀c∈l,Qf c=0){d:Str}{m:qc}(F:(Qb (Za l) d).isSome=true)(G:m∈(Qd (Za l) d).methods)(H:m.abs=false){args:List Str}{g:Str}(I:Zl m.type=some (args,g)){given:List Val}(J:given.length=if m.static then args.length else args.length+1):∃N,zbX given m N:=by
 obtain⟨c,L,_,B⟩:=QU F G;obtain⟨C,M,A,D⟩:=ZcQ (E c L) B H;refine⟨A,D.locals,D.small,?_⟩;rw[J,<-Za2 I];exact D.args
structure qde (cs:List qa) (h:List Zc) (x:Ins) (S:List Val) (args:List Str) (ret:Str) (T0 given:List Val) (cn:Str) (m:qc):Prop where
 type:Zl x.type=some (args,ret)
 stack:S=T0++given
 many:given.length=args.length+(if x.op=24 then 1 else 0)
 known:(Qb cs x.cls).isSome=true
 found:qB cs x.cls x.name x.type=some (cn,m)
 locals:∃N:Nat,m.locals=(N:Int)
 enter:x.op=25\/m.priv=true->∃N,zbX given m N
 thing:x.op=24->0<(given.headD v0).n->(given.headD v0).n.toNat-1<h.length/\(Qb cs (ZO (qj h (given.headD v0)).type)).isSome=true/\∃y,qe y=lst (qj h (given.headD v0)).type/\Qm y=true
 called:x.op=24->0<(given.headD v0).n->QB (Qs cs (ZO (qj h (given.headD v0)).type) x.name x.type)=true->∃cn' m' N',Qs cs (ZO (qj h (given.headD v0)).type) x.name x.type=some (cn',m')/\zbX given m' N'
theorem qff{l:List qa}(I:Qg l)(R:∀c∈l,Qf c=0){h:List Zc}(o:Zy (Za l) h=0){J g:Str}{x:Ins}{fL q L' S':List Str}{S:List Val}(hS:zl (Za l) h S q)(L:x.op=24\/x.op=25)(Y:Qae (Za l) J g x fL q=some (L',S')):
 ∃args ret T0 given cn m,qde (Za l) h x S args ret T0 given cn m:=by
 have hh':Qae (Za l) J g x fL q=Zar (Za l) J x.cls x.name x.type (decide (x.op=25)) fL q:=by
  rw[qbX (by omega)];unfold qJ;rcases L with h|h<;>rw[h]<;>rfl
 rw[hh']at Y;obtain⟨hcf,args,r,S1,S2,s,h1,T,_⟩:=QcZ Y;obtain⟨G,d,m,D,E,_⟩:=qa4 hcf;obtain⟨k1,k2,k3⟩:=hS.rev I (Qi o) h1;obtain⟨d1,b,_,d4⟩:=ZaC I G D;have A:=qa0 I G d1;have Z:Zl m.type=some (args,r):=by rw[show m.type=x.type from d4];exact s
 have a:∃N:Nat,m.locals=(N:Int):=by
  obtain⟨c,C,_,D⟩:=QU A b;have h0:0<=m.locals:=(qbL (R c C) D).1;exact⟨m.locals.toNat,by omega⟩
 rcases L with L|L
 ·have M:decide (x.op=25)=false:=by rw[L];rfl
  rw[M]at T E;have T:zg (Za l) [Qc x.cls] S1=some S2:=T;obtain⟨_,g2⟩:=k2.take1 I (Qi o) T;have g0:=zaw (k2.take I (Qi o) T).1;have F:(S.drop (S.length-args.length)).length=args.length:=by rw[List.length_drop];omega
  have O:(Qj (S.take (S.length-args.length))::S.drop (S.length-args.length)).length=args.length+1:=by rw[List.length_cons,F]
  have B:0<(Qj (S.take (S.length-args.length))).n->∃y:Zc,h[(Qj (S.take (S.length-args.length))).n.toNat-1]? = some y/\qj h (Qj (S.take (S.length-args.length)))=y/\(Qb (Za l) (ZO y.type)).isSome=true/\∃t,qe t=lst y.type/\Qm t=true:=fun k=>by
   unfold Qy at g2;rw[zcg]at g2;obtain⟨_,y,v,f,U,V⟩:=Qan g2 rfl k;obtain⟨_,_,ty,H⟩:=qK (Qi o y U);refine⟨y,v,f,?_,ty,H.text,H.ref⟩;have hg:=H.good;unfold ZO;rw[H.of]at V ⊢;cases ty with
   |i=>cases V
   |j=>cases V
   |ar e=>exact zaA l
   |cl c'=>exact hg
  refine⟨args,r,(S.take (S.length-args.length)).dropLast,Qj (S.take (S.length-args.length))::S.drop (S.length-args.length),d,m,s,?_,?_,G,D,a,fun z=>?_,fun _ k=>?_,fun _ k C=>?_⟩
  ·conv=>lhs;rw[<-List.take_append_drop (S.length-args.length) S,g0]
   simp
  ·rw[O,if_pos L]
  ·rcases z with z|z
   ·omega
   ·exact zbj R A b (ZaX R A b (Or.inr z)) Z (by rw[O,E];rfl)
  ·obtain⟨y,v,f,U,V⟩:=B k;rw[List.headD_cons,f];exact⟨(List.getElem?_eq_some_iff.1 v).1,U,V⟩
  ·obtain⟨y,v,f,U,V⟩:=B k;rw[List.headD_cons,f]at C ⊢;cases P:Qs (Za l) (ZO y.type) x.name x.type with
   |none=>rw[P]at C;cases C
   |some p =>
    rw[P]at C;obtain⟨e1,e2,_,e4⟩:=Qbi I U P;obtain⟨pc,X⟩:=p;have C:(!X.static&&!X.priv&&!X.abs)=true:=C;simp only[Bool.and_eq_true,Bool.not_eq_true']at C;have hpt:Zl X.type=some (args,r):=(by rw[show X.type=x.type from e4];exact s);obtain⟨N,hN⟩:=zbj R (qa0 I U e1) e2 C.2 hpt (given:=Qj (S.take (S.length-args.length))::S.drop (S.length-args.length)) (by rw[O,C.1.1];rfl);exact⟨pc,X,N,rfl,hN⟩
 ·have M:decide (x.op=25)=true:=by rw[L];rfl
  rw[M]at T E;have F:(S.drop (S.length-args.length)).length=args.length:=by rw[List.length_drop];omega
  refine⟨args,r,S.take (S.length-args.length),S.drop (S.length-args.length),d,m,s,(List.take_append_drop _ _).symm,?_,G,D,a,fun _=>?_,fun h24=>by omega,fun h24=>by omega⟩
  ·rw[F,if_neg (by omega),Nat.add_zero]
  ·exact zbj R A b (ZaX R A b (Or.inl E)) Z (by rw[F,E];rfl)
structure Zec (l:List qa) (h:List Zc) (c:Cal) (x:Ins):Prop where
 code:c.m.code[c.pc]? = some x
 lo:1<=x.op
 hi:x.op<=28
 place:c.pc<=40
 deep:c.S.length<=8
 plain:qcE x c.L c.S
 heap:zcj (Za l) h x c.S
 call:x.op=24\/x.op=25->∃args ret T0 given cn m,qde (Za l) h x c.S args ret T0 given cn m
 one:x.op=27\/x.op=28->1<=c.S.length
 thrown:x.op=28->0<(Qj c.S).n->∃y:Zc,h[(Qj c.S).n.toNat-1]? = some y/\y∈h/\(Qb (Za l) (qan y.type)).isSome=true
theorem ZeZ{l:List qa}(G:Qg l)(S:∀c∈l,Qf c=0){a:Str}{h:List Zc}{c:Cal}{r:List Cal}(b:qa5 l a ⟨h,c::r⟩):∃x,Zec l h c x:=by
 obtain⟨L,_,c',r',g,e,⟨A,f,H,k,U,E⟩,_⟩:=b;dsimp only at L e U E;injection e with z e2
 subst z e2;obtain⟨m,x,V,P,⟨R,S',B,_⟩,_⟩:=H.at k;obtain⟨n,o,_,_⟩:=ZaT P;have I:=Qi L;have J:=B;unfold Qae at J;obtain⟨p,F,hq⟩:=ZA J;obtain⟨L1,X⟩:=p;have C:=zez G I P U E F;obtain⟨z1,q,z3,z4⟩:=Qt m;refine⟨x,V,n,o,?_,?_,C,?_,fun D=>qff G S L E D B,fun D=>?_,fun D v=>?_⟩
 ·have T:=(List.getElem?_eq_some_iff.1 V).1;obtain⟨_,_,s,_⟩:=H.good;have h2:=(qaw s.code).small;omega
 ·rw[E.len];exact q
 ·by_cases N:15<=x.op/\x.op<=25
  ·rw[qbX N]at B;exact qe0 G S L P E B
  ·exact⟨fun h=>by omega,fun h=>by omega,fun h=>by omega,fun h=>by omega,fun h=>by omega,fun h=>by omega,fun h=>by omega,fun h=>by omega,fun h=>by omega⟩
 ·rw[Zbd (by omega)]at B;unfold zE at B;rcases D with D|D
  ·rw[D]at B;have B:(if (g.toList==[86])=true then none else (zg (Za l) [g] f.stack).map fun X=>(f.locals,X))=some (R,S'):=B;split at B
   ·cases B
   ·obtain⟨K,F,_⟩:=Zbt B;exact(E.take G I F).1
  ·rw[D]at B;obtain⟨K,F,_⟩:=Zbt (show(zg (Za l) [Qc Zan] f.stack).map _=some (R,S') from B);exact(E.take G I F).1
 ·rw[Zbd (by omega)]at B;unfold zE at B;rw[D]at B;obtain⟨K,F,_⟩:=Zbt (show(zg (Za l) [Qc Zan] f.stack).map _=some (R,S') from B);have O:=(E.take1 G I F).2;unfold Qy at O;rw[zcg]at O;obtain⟨_,y,T,_,Y,M⟩:=Qan O rfl v;obtain⟨_,_,t,Z⟩:=qK (I y Y);refine⟨y,T,Y,?_⟩;have d:=Z.good;unfold qan;rw[Z.of]at M ⊢;cases t with
  |i=>cases M
  |j=>cases M
  |ar e =>
   have:Zan=zh:=Xm M;exact absurd this (by decide)
  |cl c =>
   have:str (zH (.cl c))=c:=ByteArray.ext (Array.ext' rfl);rw[this];exact d
