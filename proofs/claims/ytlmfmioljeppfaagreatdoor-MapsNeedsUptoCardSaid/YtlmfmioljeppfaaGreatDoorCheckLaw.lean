/- Lemmas; conditions: as each states. -/
import Derived.Test.YtlmfmioljeppfaaGreatDoorFixLaw
import Derived.Test.YtlmfmioljeppfaaGreatDoorGrowStep
set_option maxHeartbeats 4000000
namespace Go.Proofs.YtlmfmioljeppfaaGreatDoor
open Go.RowKit Go.Shelf Go.Lib
def QaZ(cs:List Qb):Ty->Nat
 |.cl c=>(Qk cs c).length
 |.ar x=>13+QaZ cs x
 |_=>0
def qbh(cs:List Qb):Kd->Nat
 |.n=>100
 |.t=>0
 |.ty x=>1+QaZ cs x
def ZH(cs:List Qb)(L:List Str):Nat:=(L.map fun k=>qbh cs (Zo k)).sum
section
variable {l:List Qb}
theorem Qcl(A:Zk l){c:Str}(B:(Qc (Za l) c).isSome=true):(Qk (Za l) c).length<=12:=by
 have C:=(zo A.closed B).1.length;have D:(Za l).length=l.length+2:=by simp[Za]
 have:=A.length;omega
theorem qc4(C:Zk l):∀c,(Qc (Za l) c).isSome=true->∀d∈Zq (Za l) c,d≠c->(Qk (Za l) d).length<(Qk (Za l) c).length:=by
 refine C.line_ind _ (fun x E F d A B=>?_) (fun x E F H d A B=>?_)
 ·rw[Zk.line_top F]at A;simp at A;exact absurd A B
 ·rcases(C.line_mem E).1 A with rfl|⟨_,A⟩
  ·exact absurd rfl B
  ·have D:=(C.up E F).2;by_cases G:d=(qh (Za l) x).super
   ·rw[G];exact D
   ·have:=H d A G;omega
theorem qdp(B:Zk l):∀{x y:Ty},qH (Za l) x=true->qH (Za l) y=true->Qba (Za l) x y->x≠y->QaZ (Za l) y<QaZ (Za l) x
 |.i,.i,_,_,_,h=>absurd rfl h
 |.j,.j,_,_,_,h=>absurd rfl h
 |.cl c,.cl d,C,_,A,h=>qc4 B c C d A fun e=>h (by rw[e])
 |.ar x,.cl d,_,D,A,_=>by
  show(Qk (Za l) d).length<13+_
  have:=Qcl B (c:=d) D;omega
 |.ar x,.ar y,C,D,A,h=>by
  have:=qdp B (x:=x) (y:=y) C D A fun e=>h (by rw[e])
  show 13+_<13+_
  omega
 |.i,.j,_,_,A,_=>A.elim
 |.i,.cl _,_,_,A,_=>A.elim
 |.i,.ar _,_,_,A,_=>A.elim
 |.j,.i,_,_,A,_=>A.elim
 |.j,.cl _,_,_,A,_=>A.elim
 |.j,.ar _,_,_,A,_=>A.elim
 |.cl _,.i,_,_,A,_=>A.elim
 |.cl _,.j,_,_,A,_=>A.elim
 |.cl _,.ar _,_,_,A,_=>A.elim
 |.ar _,.i,_,_,A,_=>A.elim
 |.ar _,.j,_,_,A,_=>A.elim
theorem Qc4(A:Zk l):∀{x:Ty},qH (Za l) x=true->QaZ (Za l) x<=13*zq x+12
 |.i,_=>Nat.zero_le _
 |.j,_=>Nat.zero_le _
 |.cl c,h=>by
  have:=Qcl A (c:=c) h;show(Qk (Za l) c).length<=_
  omega
 |.ar x,h=>by
  have:=Qc4 A (x:=x) h;show 13+QaZ (Za l) x<=13*(zq x+1)+12
  omega
theorem qec(B:Zk l){x y:Kd}(D:qK (Za l) x=true)(C:qK (Za l) y=true)(E:qah y<=3)(A:qap (Za l) x y)(h:x≠y):qbh (Za l) y<qbh (Za l) x:=by
 cases x with
 |n =>
  cases y with
  |n=>exact absurd rfl h
  |t=>show 0<100;decide
  |ty y =>
   have F:=Qc4 B (x:=y) C;have G:zq y<=3:=E;show 1+QaZ (Za l) y<100
   omega
 |t =>
  cases y with
  |n=>exact A.elim
  |t=>exact absurd rfl h
  |ty y=>exact A.elim
 |ty x =>
  cases y with
  |n=>exact A.elim
  |t=>show 0<1+_;omega
  |ty y =>
   have:=qdp B (x:=x) (y:=y) D C A fun e=>h (by rw[e])
   show 1+_<1+_
   omega
theorem Qeo(A:Zk l){x:Kd}(B:qK (Za l) x=true)(C:qah x<=3):qbh (Za l) x<=100:=by
 cases x with
 |n=>exact Xl
 |t=>exact Nat.zero_le _
 |ty x =>
  have D:=Qc4 A (x:=x) B;have E:zq x<=3:=C;show 1+QaZ (Za l) x<=100
  omega
theorem zbA(G:Zk l):∀{A B:List Str},LeL (Za l) A B->Qm (Za l) A->Qm (Za l) B->ZH (Za l) B<=ZH (Za l) A/\(A≠B->ZH (Za l) B<ZH (Za l) A)
 |[],[],_,_,_=>⟨Xl,fun h=>absurd rfl h⟩
 |x::r,y::s,h,I,J=>by
  obtain⟨O,L⟩:=zbA G (A:=r) (B:=s) h.2 (fun k C=>I k (List.mem_cons_of_mem _ C)) (fun k C=>J k (List.mem_cons_of_mem _ C));have H:=I x (List.mem_cons_self ..);have D:=J y (List.mem_cons_self ..);have M:ZH (Za l) (x::r)=qbh (Za l) (Zo x)+ZH (Za l) r:=by unfold ZH;rw[List.map_cons,List.sum_cons]
  have N:ZH (Za l) (y::s)=qbh (Za l) (Zo y)+ZH (Za l) s:=by unfold ZH;rw[List.map_cons,List.sum_cons]
  by_cases C:Zo x=Zo y
  ·have E:x=y:=(qU H).text (by rw[C];exact qU D);subst E;refine⟨by omega,fun F=>?_⟩;have:=L fun e=>F (by rw[e])
   omega
  ·have:=qec G (QI H) (QI D) (Qad D) h.1 C;exact⟨by omega,fun _=>by omega⟩
theorem qbW(B:Zk l):∀{A:List Str},Qm (Za l) A->ZH (Za l) A<=100*A.length
 |[],_=>Xl
 |x::r,h=>by
  have i:=qbW B (A:=r) fun k D=>h k (List.mem_cons_of_mem _ D)
  have C:=h x (List.mem_cons_self ..);have:=Qeo B (QI C) (Qad C);have E:ZH (Za l) (x::r)=qbh (Za l) (Zo x)+ZH (Za l) r:=by unfold ZH;rw[List.map_cons,List.sum_cons]
  rw[List.length_cons];omega
theorem LeL.refl(cs:List Qb):∀A:List Str,LeL cs A A
 |[]=>trivial
 |_::r=>⟨Za7 cs _,LeL.refl cs r⟩
theorem LeL.trans{cs:List Qb}(T:zbp cs):∀{A B C:List Str},Qm cs A->LeL cs A B->LeL cs B C->LeL cs A C
 |[],[],[],_,_,_=>trivial
 |x::_,_::_,_::_,h,D,E=>⟨zc5 T (QI (h x (List.mem_cons_self ..))) D.1 E.1,LeL.trans T (fun k F=>h k (List.mem_cons_of_mem _ F)) D.2 E.2⟩
theorem LeL.anti{cs:List Qb}(T:zbp cs):∀{A B:List Str},Qm cs A->Qm cs B->LeL cs A B->LeL cs B A->A=B
 |[],[],_,_,_,_=>rfl
 |x::r,y::s,G,H,I,J=>by
  have E:=G x (List.mem_cons_self ..);have F:=H y (List.mem_cons_self ..);have C:=zcm T (QI E) (QI F) I.1 J.1;have D:x=y:=(qU E).text (by rw[C];exact qU F);rw[D,LeL.anti T (A:=r) (B:=s) (fun k C=>G k (List.mem_cons_of_mem _ C)) (fun k C=>H k (List.mem_cons_of_mem _ C)) I.2 J.2]
theorem ZbA{cs:List Qb}(a b:Str):Zo (QaV cs a b)=QT cs (Zo a) (Zo b):=qz rfl
theorem QcH(D:Zk l)(A:∀c∈l,qd c=0){a b:Str}(B:zd (Za l) a=0)(C:zd (Za l) b=0):zd (Za l) (QaV (Za l) a b)=0 :=
 Zdv A (qU B) (qU C) B C ⟨rfl,(qbA D.tree (Zay l) (QI B) (QI C)).2.2⟩
theorem QbW(E:Zk l)(D:∀c∈l,qd c=0):∀{A B:List Str},A.length=B.length->Qm (Za l) A->Qm (Za l) B->Qm (Za l) (QO (Za l) A B)/\LeL (Za l) A (QO (Za l) A B)/\LeL (Za l) B (QO (Za l) A B)
 |[],[],_,_,_=>⟨fun _ h=>(by cases h),trivial,trivial⟩
 |x::r,y::s,N,H,I=>by
  obtain⟨J,L,M⟩:=QbW E D (A:=r) (B:=s) (by simpa using N) (fun k C=>H k (List.mem_cons_of_mem _ C)) (fun k C=>I k (List.mem_cons_of_mem _ C));have F:=H x (List.mem_cons_self ..);have G:=I y (List.mem_cons_self ..);obtain⟨u1,u2,_⟩:=qbA E.tree (Zay l) (QI F) (QI G);refine⟨fun k C=>?_,⟨?_,L⟩,⟨?_,M⟩⟩
  ·rcases List.mem_cons.1 (show k∈QaV (Za l) x y::QO (Za l) r s from C) with rfl|C
   ·exact QcH E D F G
   ·exact J k C
  ·rw[ZbA];exact u1
  ·rw[ZbA];exact u2
theorem QbA(E:Zk l):∀{A B C:List Str},Qm (Za l) A->Qm (Za l) B->LeL (Za l) A C->LeL (Za l) B C->LeL (Za l) (QO (Za l) A B) C
 |[],[],[],_,_,_,_=>trivial
 |[],_::_,[],_,_,_,h=>h.elim
 |[],_::_,_::_,_,_,h,_=>h.elim
 |_::_,[],[],_,_,h,_=>h.elim
 |_::_,[],_::_,_,_,_,h=>h.elim
 |x::r,y::s,z::t,F,G,H,I=>by
  refine⟨?_,QbA E (A:=r) (B:=s) (fun k D=>F k (List.mem_cons_of_mem _ D)) (fun k D=>G k (List.mem_cons_of_mem _ D)) H.2 I.2⟩;rw[ZbA];exact zbX E.tree (QI (F x (List.mem_cons_self ..))) (QI (G y (List.mem_cons_self ..))) H.1 I.1
def ZbX(cs:List Qb)(a b:Frm):Prop:=LeL cs a.locals b.locals/\LeL cs a.stack b.stack
def qaa(cs:List Qb)(c:Str):Bool:=zd cs (Zd c)==0&&Zx cs (Zo (Zd c)) (Zo (Zd zC))
def QF(cs:List Qb)(at':Nat)(f:Frm):List zM->Option (List (Nat×Frm))
 |[]=>some []
 |h::r=>if h.lo<=(at':Int)/\(at':Int)<h.hi then (if qaa cs h.cls then (QF cs at' f r).map fun t=>(h.dest.toNat,⟨f.locals,[Zd h.cls]⟩)::t else none) else QF cs at' f r
def qax(x:Ins)(at':Nat):List Nat:=(if Zad x.op then [] else [at'+1])++(if zu x.op&&(x.op==14||x.a != (at':Int)+1) then [x.a.toNat] else [])
def ZY(cs:List Qb)(cls Zb:Str)(code:List Ins)(at':Nat)(f:Frm):Option (List (Nat×Frm)):=match code[at']? with
 |none=>none
 |some x=>(zp cs cls Zb x f.locals f.stack).map fun p=>(qax x at').map fun i=>(i,⟨p.1,p.2⟩)
def Qaa(cs:List Qb)(cls Zb:Str)(m:qi)(at':Nat)(f:Frm):Option (List (Nat×Frm)):=(QF cs at' f m.handlers).bind fun a=>(ZY cs cls Zb m.code at' f).map fun b=>a++b
def zQ(cs:List Qb)(cls Zb:Str)(m:qi)(start:Frm):qm Frm where
 n:=m.code.length
 top:=1600
 start:=start
 ok:=fun f=>Qx cs f=0
 le:=ZbX cs
 fit:=zR
 join:=Q1 cs
 edges:=Qaa cs cls Zb m
 rank:=fun f=>ZH cs f.locals+ZH cs f.stack
structure Zc5 (code:List Ins):Prop where
 small:code.length<=40
 ins:∀x∈code,Zi x=0
 jumps:∀x∈code,zu x.op=true->0<=x.a/\x.a<(code.length:Int)
 last:∀i x,code[i]? = some x->Zad x.op=false->i+1<code.length
 pos:0<code.length
theorem zO{A:List Ins}(h:qo A=0):Zc5 A:=by
 unfold qo at h;split at h
 ·cases h
 ·rename_i N;split at h
  ·rename_i E;exact absurd h E
  ·rename_i E;have E:=Decidable.not_not.1 E;have C:=Z2 E;split at h
   ·cases h
   ·rename_i O;refine⟨by omega,C,fun x H G=>?_,fun i x B P=>?_,?_⟩
    ·have F:x.a<(A.length:Int):=by
      by_cases I:(A.length:Int)<=x.a
      ·exact absurd (List.any_eq_true.2 ⟨x,H,by rw[G,Xj I];rfl⟩) O
      ·omega
     refine⟨?_,F⟩;have B:=C x H;unfold Zi at B;split at B
     ·cases B
     ·split at B
      ·cases B
      ·split at B
       ·cases B
       ·rename_i D;have D:qM x=true:=(by cases R:qM x<;>simp_all);unfold qM at D;unfold zu at G;have J:x.op=12\/x.op=13\/x.op=14:=(by simpa[or_assoc] using G);rw[if_neg (by omega),if_neg (by omega),if_neg (by omega)]at D;unfold zu at D;rw[G]at D;simp at D;omega
    ·have F:i<A.length:=(List.getElem?_eq_some_iff.1 B).1;by_cases L:i+1=A.length
     ·have M:A.getLast? = some x:=(by rw[List.getLast?_eq_getElem?,<-L];exact B);rw[M]at h;dsimp only at h;rw[P]at h;cases h
     ·omega
    ·cases A with
     |nil=>cases h
     |cons _ _=>exact Nat.succ_pos _
theorem qL{l:List zM}{n:Nat}(h:zl l n=0):l.length<=8/\∀x∈l,0<=x.lo/\x.hi<=(n:Int)/\0<=x.dest/\x.dest<(n:Int)/\qt (lst x.cls)=true:=by
 unfold zl at h;split at h
 ·rename_i A;exact absurd h A
 ·rename_i A;have A:=Z2 (Decidable.not_not.1 A);split at h
  ·cases h
  ·refine⟨by omega,fun x D=>?_⟩;have B:=A x D;unfold qr at B;split at B
   ·cases B
   ·rename_i E;split at B
    ·rename_i C;exact⟨by omega,by omega,by omega,by omega,C⟩
    ·cases B
theorem ZaI{cs:List Qb}{n at':Nat}{f:Frm}(B:Qx cs f=0):∀{hs:List zM} {t:List (Nat×Frm)},(∀x∈hs,0<=x.dest/\x.dest<(n:Int))->QF cs at' f hs=some t->∀p∈t,p.1<n/\Qx cs p.2=0
 |[],t,_,h,p,A=>by
  injection h with h;subst h;cases A
 |x::r,t,E,h,p,A=>by
  have D:∀y∈r,0<=y.dest/\y.dest<(n:Int):=fun y J=>E y (List.mem_cons_of_mem _ J)
  unfold QF at h;split at h
  ·split at h
   ·rename_i C;obtain⟨M,F,G⟩:=Q8 h;subst G;rcases List.mem_cons.1 A with rfl|A
    ·obtain⟨N,O⟩:=E x (List.mem_cons_self ..);obtain⟨H,P,I,R⟩:=qw B;refine⟨by show x.dest.toNat<n;omega,Qaz H (by show[Zd x.cls].length<=8;simp) I fun k L=>?_⟩;rw[List.mem_singleton.1 L];unfold qaa at C;rw[Bool.and_eq_true]at C;exact beq_iff_eq.1 C.1
    ·exact ZaI B D F p A
   ·cases h
  ·exact ZaI B D h p A
theorem ZaC{cs:List Qb}{at':Nat}{a b:Frm}(A:ZbX cs a b):∀{hs:List zM} {C:List (Nat×Frm)},QF cs at' b hs=some C->∃D,QF cs at' a hs=some D/\∀p∈D,∃q∈C,p.1=q.1/\ZbX cs p.2 q.2
 |[],C,_=>⟨[],rfl,fun p B=>by cases B⟩
 |x::r,C,h=>by
  unfold QF at h ⊢;split at h
  ·rename_i E;rw[if_pos E];split at h
   ·rename_i M;rw[if_pos M];obtain⟨N,F,G⟩:=Q8 h;subst G;obtain⟨D,e,H⟩:=ZaC A F;refine⟨_,by rw[e];rfl,fun p B=>?_⟩;rcases List.mem_cons.1 B with rfl|B
    ·exact⟨_,List.mem_cons_self ..,rfl,A.1,LeL.refl cs _⟩
    ·obtain⟨q,I,J,L⟩:=H p B;exact⟨q,List.mem_cons_of_mem _ I,J,L⟩
   ·cases h
  ·rename_i E;rw[if_neg E];exact ZaC A h
theorem zcI{A:List Ins}(C:Zc5 A){x:Ins}{at':Nat}(D:A[at']? = some x):∀i∈qax x at',i<A.length:=by
 intro i B;unfold qax at B;rcases List.mem_append.1 B with B|B
 ·split at B
  ·cases B
  ·rename_i F;rw[List.mem_singleton.1 B];exact C.last at' x D (by simpa using F)
 ·split at B
  ·rename_i E;rw[Bool.and_eq_true]at E;rw[List.mem_singleton.1 B];have:=C.jumps x (Xe D) E.1;omega
  ·cases B
theorem ZcI{cs:List Qb}{a b:Frm}(A:Qx cs a=0)(B:Qx cs b=0)(h:ZbX cs a b):LeF cs a.locals b.locals/\LeF cs a.stack b.stack:=by
 obtain⟨C,D,E,F⟩:=qw A;obtain⟨I,J,G,H⟩:=qw B;exact⟨⟨h.1,E,G,C⟩,⟨h.2,F,H,D⟩⟩
theorem qbX{cs:List Qb}{L S C D:List Str}(A:LeF cs L C)(B:LeF cs S D):Qx cs ⟨L,S⟩=0/\Qx cs ⟨C,D⟩=0/\ZbX cs ⟨L,S⟩ ⟨C,D⟩ :=
 ⟨Qaz A.sm B.sm A.ka B.ka,Qaz (by rw[<-A.le.len];exact A.sm) (by rw[<-B.le.len];exact B.sm) A.kb B.kb,A.le,B.le⟩
theorem za0(I:Zk l){A:List Ins}(G:Zc5 A){cls Zb:Str}{at':Nat}{a b:Frm}(J:Qx (Za l) a=0)(L:Qx (Za l) b=0)(C:ZbX (Za l) a b){H:List (Nat×Frm)}(h:ZY (Za l) cls Zb A at' b=some H):
 ∃F,ZY (Za l) cls Zb A at' a=some F/\(∀p∈F,∃q∈H,p.1=q.1/\ZbX (Za l) p.2 q.2)/\∀p∈F,p.1<A.length/\Qx (Za l) p.2=0:=by
 unfold ZY at h ⊢;cases B:A[at']? with
 |none=>rw[B]at h;cases h
 |some x =>
  rw[B]at h;dsimp only at h ⊢;obtain⟨⟨V,X⟩,M,N⟩:=Q8 h;subst N;obtain⟨O,P⟩:=ZcI J L C;obtain⟨Y,Z,e,R,S⟩:=QbX I (G.ins x (Xe B)) O P M;obtain⟨T,_,U⟩:=qbX R S;refine⟨_,by rw[e];rfl,fun p E=>?_,fun p E=>?_⟩
  ·obtain⟨i,D,rfl⟩:=List.mem_map.1 E;exact⟨_,List.mem_map.2 ⟨i,D,rfl⟩,rfl,U⟩
  ·obtain⟨i,D,rfl⟩:=List.mem_map.1 E;exact⟨zcI G B i D,T⟩
theorem Qbh(D:Zk l)(O:∀c∈l,qd c=0){cls Zb:Str}{m:qi}(S:qo m.code=0)(Y:zl m.handlers m.code.length=0){start:Frm}(hs:Qx (Za l) start=0):(zQ (Za l) cls Zb m start).Good where
 pos:=(zO S).pos
 sok:=hs
 refl:=fun a _=>⟨LeL.refl _ _,LeL.refl _ _⟩
 trans:=fun a b c A _ _ B C=>by
  obtain⟨_,_,n,o⟩:=qw A;exact⟨LeL.trans D.tree n B.1 C.1,LeL.trans D.tree o B.2 C.2⟩
 anti:=fun a b A H B C=>by
  obtain⟨_,_,F,G⟩:=qw A;obtain⟨_,_,L,M⟩:=qw H;have I:=LeL.anti D.tree F L B.1 C.1;have J:=LeL.anti D.tree G M B.2 C.2;cases a;cases b;dsimp only at I J;rw[I,J]
 up:=fun a b A H N=>by
  obtain⟨f,g,F,G⟩:=qw A;obtain⟨_,_,L,M⟩:=qw H;have N:zR a b=true:=N;unfold zR at N;rw[Bool.and_eq_true]at N;have Z:=Xm N.1;have d:=Xm N.2;obtain⟨u1,u2,u3⟩:=QbW D O Z F L;obtain⟨r,s,v⟩:=QbW D O d G M;exact⟨Qaz (by show(QO (Za l) a.locals b.locals).length<=8;rw[Qam Z];exact f) (by show(QO (Za l) a.stack b.stack).length<=8;rw[Qam d];exact g) u1 r,⟨u2,s⟩,⟨u3,v⟩⟩
 lub:=fun a b z A H _ B C=>by
  obtain⟨_,_,F,G⟩:=qw A;obtain⟨_,_,L,M⟩:=qw H;refine⟨?_,QbA D F L B.1 C.1,QbA D G M B.2 C.2⟩;show zR a b=true
  unfold zR;rw[B.1.len,B.2.len,C.1.len,C.2.len];simp
 mono:=fun i a b lb _ A H P h=>by
  have h:Qaa (Za l) cls Zb m i b=some lb:=h;unfold Qaa at h;obtain⟨y,B,C⟩:=Qy h;obtain⟨sb,R,T⟩:=Q8 C;subst T;obtain⟨ta,I,t1⟩:=ZaC P B;obtain⟨j,J,t2,_⟩:=za0 D (zO S) A H P R;refine⟨ta++j,by show Qaa (Za l) cls Zb m i a=_;unfold Qaa;rw[I,Option.bind_some,J];rfl,fun p E=>?_⟩;rcases List.mem_append.1 E with E|E
  ·obtain⟨q,U,V⟩:=t1 p E;exact⟨q,List.mem_append_left _ U,V⟩
  ·obtain⟨q,U,V⟩:=t2 p E;exact⟨q,List.mem_append_right _ U,V⟩
 out:=fun i a t _ A h p E=>by
  have h:Qaa (Za l) cls Zb m i a=some t:=h;unfold Qaa at h;obtain⟨y,B,C⟩:=Qy h;obtain⟨sb,R,T⟩:=Q8 C;subst T;rcases List.mem_append.1 E with E|E
  ·exact ZaI A (fun x k=>⟨((qL Y).2 x k).2.2.1,((qL Y).2 x k).2.2.2.1⟩) B p E
  ·obtain⟨j,e,_,t3⟩:=za0 D (zO S) A A ⟨LeL.refl _ _,LeL.refl _ _⟩ R;rw[R]at e;injection e with e;subst e
   exact t3 p E
 fall:=fun a b A H h X=>by
  obtain⟨_,_,F,G⟩:=qw A;obtain⟨_,_,L,M⟩:=qw H;obtain⟨i1,i2⟩:=zbA D h.1 F L;obtain⟨j1,j2⟩:=zbA D h.2 G M;show ZH (Za l) b.locals+ZH (Za l) b.stack<ZH (Za l) a.locals+ZH (Za l) a.stack
  by_cases I:a.locals=b.locals
  ·have:=j2 fun J=>X (by cases a;cases b;dsimp only at I J;rw[I,J])
   omega
  ·have:=i2 I;omega
 cap:=fun a A=>by
  obtain⟨f,g,F,G⟩:=qw A;have B:=qbW D F;have C:=qbW D G;show ZH (Za l) a.locals+ZH (Za l) a.stack<=1600
  omega
end
end Go.Proofs.YtlmfmioljeppfaaGreatDoor
