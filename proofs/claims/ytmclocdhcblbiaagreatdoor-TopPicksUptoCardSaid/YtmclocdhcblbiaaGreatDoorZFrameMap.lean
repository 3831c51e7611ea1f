/- Lemmas; conditions: as each states. -/
import Derived.Test.YtmclocdhcblbiaaGreatDoorZFixLaw
import Derived.Test.YtmclocdhcblbiaaGreatDoorZGrowStep
set_option maxHeartbeats 4000000
namespace Go.Proofs.YtmclocdhcblbiaaGreatDoor
open Go.RowKit Go.Shelf Go.Lib Tryz
def Zbp(cs:List qa):Ty->Nat
 |.cl c=>(qi cs c).length
 |.ar x=>13+Zbp cs x
 |_=>0
def ZbI(cs:List qa):Kd->Nat
 |.n=>100
 |.t=>0
 |.ty x=>1+Zbp cs x
def zG(cs:List qa)(L:List Str):Nat:=(L.map fun k=>ZbI cs (Zr k)).sum
section
variable {l:List qa}
theorem qcR(A:Qg l){c:Str}(B:(Qb (Za l) c).isSome=true):(qi (Za l) c).length<=12:=by
 have C:=(Zo A.closed B).1.length;have D:(Za l).length=l.length+2:=by simp[Za]
 have:=A.length;omega
theorem ZdM(C:Qg l):∀c,(Qb (Za l) c).isSome=true->∀d∈zm (Za l) c,d≠c->(qi (Za l) d).length<(qi (Za l) c).length:=by
 refine C.line_ind _ (fun x E F d A B=>?_) (fun x E F H d A B=>?_)
 ·rw[Qg.line_top F]at A;simp at A;exact absurd A B
 ·rcases(C.line_mem E).1 A with rfl|⟨_,A⟩
  ·exact absurd rfl B
  ·have D:=(C.up E F).2;by_cases G:d=(Qd (Za l) x).super
   ·rw[G];exact D
   ·have:=H d A G;omega
theorem Qd8(B:Qg l):∀{x y:Ty},ZP (Za l) x=true->ZP (Za l) y=true->qbA (Za l) x y->x≠y->Zbp (Za l) y<Zbp (Za l) x
 |.i,.i,_,_,_,h=>absurd rfl h
 |.j,.j,_,_,_,h=>absurd rfl h
 |.cl c,.cl d,C,_,A,h=>ZdM B c C d A fun e=>h (by rw[e])
 |.ar x,.cl d,_,D,A,_=>by
  show(qi (Za l) d).length<13+_
  have:=qcR B (c:=d) D;omega
 |.ar x,.ar y,C,D,A,h=>by
  have:=Qd8 B (x:=x) (y:=y) C D A fun e=>h (by rw[e])
  show 13+_<13+_
  omega
 |.i,.j,_,_,A,_=>A.elim
 |.i,.cl _,_,_,A,_=>A.elim
 |.i,.ar _,_,_,A,_=>A.elim
 |.j,.i,_,_,A,_=>A.elim
 |.j,.cl _,_,_,A,_=>A.elim
 |.j,.ar _,_,_,A,_=>A.elim
 |.cl _,.i,_,_,A,_=>A.elim
 |.cl _,.j,_,_,A,_=>A.elim
 |.cl _,.ar _,_,_,A,_=>A.elim
 |.ar _,.i,_,_,A,_=>A.elim
 |.ar _,.j,_,_,A,_=>A.elim
theorem qdM(A:Qg l):∀{x:Ty},ZP (Za l) x=true->Zbp (Za l) x<=13*qD x+12
 |.i,_=>Nat.zero_le _
 |.j,_=>Nat.zero_le _
 |.cl c,h=>by
  have:=qcR A (c:=c) h;show(qi (Za l) c).length<=_
  omega
 |.ar x,h=>by
  have:=qdM A (x:=x) h;show 13+Zbp (Za l) x<=13*(qD x+1)+12
  omega
theorem ze7(B:Qg l){x y:Kd}(D:qS (Za l) x=true)(C:qS (Za l) y=true)(E:qbp y<=3)(A:Qaz (Za l) x y)(h:x≠y):ZbI (Za l) y<ZbI (Za l) x:=by
 cases x with
 |n =>
  cases y with
  |n=>exact absurd rfl h
  |t=>show 0<100;decide
  |ty y =>
   have F:=qdM B (x:=y) C;have G:qD y<=3:=E;show 1+Zbp (Za l) y<100
   omega
 |t =>
  cases y with
  |n=>exact A.elim
  |t=>exact absurd rfl h
  |ty y=>exact A.elim
 |ty x =>
  cases y with
  |n=>exact A.elim
  |t=>show 0<1+_;omega
  |ty y =>
   have:=Qd8 B (x:=x) (y:=y) D C A fun e=>h (by rw[e])
   show 1+_<1+_
   omega
theorem Qfn(A:Qg l){x:Kd}(B:qS (Za l) x=true)(C:qbp x<=3):ZbI (Za l) x<=100:=by
 cases x with
 |n=>exact Xl
 |t=>exact Nat.zero_le _
 |ty x =>
  have D:=qdM A (x:=x) B;have E:qD x<=3:=C;show 1+Zbp (Za l) x<=100
  omega
theorem qb1(G:Qg l):∀{A B:List Str},LeL (Za l) A B->ql (Za l) A->ql (Za l) B->zG (Za l) B<=zG (Za l) A/\(A≠B->zG (Za l) B<zG (Za l) A)
 |[],[],_,_,_=>⟨Xl,fun h=>absurd rfl h⟩
 |x::r,y::s,h,I,J=>by
  obtain⟨O,L⟩:=qb1 G (A:=r) (B:=s) h.2 (fun k C=>I k (List.mem_cons_of_mem _ C)) (fun k C=>J k (List.mem_cons_of_mem _ C));have H:=I x (List.mem_cons_self ..);have D:=J y (List.mem_cons_self ..);have M:zG (Za l) (x::r)=ZbI (Za l) (Zr x)+zG (Za l) r:=by unfold zG;rw[List.map_cons,List.sum_cons]
  have N:zG (Za l) (y::s)=ZbI (Za l) (Zr y)+zG (Za l) s:=by unfold zG;rw[List.map_cons,List.sum_cons]
  by_cases C:Zr x=Zr y
  ·have E:x=y:=(zas H).text (by rw[C];exact zas D);subst E;refine⟨by omega,fun F=>?_⟩;have:=L fun e=>F (by rw[e])
   omega
  ·have:=ze7 G (ZK H) (ZK D) (qcr D) h.1 C;exact⟨by omega,fun _=>by omega⟩
theorem Qcr(B:Qg l):∀{A:List Str},ql (Za l) A->zG (Za l) A<=100*A.length
 |[],_=>Xl
 |x::r,h=>by
  have i:=Qcr B (A:=r) fun k D=>h k (List.mem_cons_of_mem _ D)
  have C:=h x (List.mem_cons_self ..);have:=Qfn B (ZK C) (qcr C);have E:zG (Za l) (x::r)=ZbI (Za l) (Zr x)+zG (Za l) r:=by unfold zG;rw[List.map_cons,List.sum_cons]
  rw[List.length_cons];omega
theorem LeL.refl(cs:List qa):∀A:List Str,LeL cs A A
 |[]=>trivial
 |_::r=>⟨zbx cs _,LeL.refl cs r⟩
theorem LeL.trans{cs:List qa}(T:QbR cs):∀{A B C:List Str},ql cs A->LeL cs A B->LeL cs B C->LeL cs A C
 |[],[],[],_,_,_=>trivial
 |x::_,_::_,_::_,h,D,E=>⟨QdM T (ZK (h x (List.mem_cons_self ..))) D.1 E.1,LeL.trans T (fun k F=>h k (List.mem_cons_of_mem _ F)) D.2 E.2⟩
theorem LeL.anti{cs:List qa}(T:QbR cs):∀{A B:List Str},ql cs A->ql cs B->LeL cs A B->LeL cs B A->A=B
 |[],[],_,_,_,_=>rfl
 |x::r,y::s,G,H,I,J=>by
  have E:=G x (List.mem_cons_self ..);have F:=H y (List.mem_cons_self ..);have C:=QcR T (ZK E) (ZK F) I.1 J.1;have D:x=y:=(zas E).text (by rw[C];exact zas F);rw[D,LeL.anti T (A:=r) (B:=s) (fun k C=>G k (List.mem_cons_of_mem _ C)) (fun k C=>H k (List.mem_cons_of_mem _ C)) I.2 J.2]
theorem Qb1{cs:List qa}(a b:Str):Zr (qbD cs a b)=Q2 cs (Zr a) (Zr b):=ZL rfl
theorem Zdp(D:Qg l)(A:∀c∈l,Qf c=0){a b:Str}(B:Zg (Za l) a=0)(C:Zg (Za l) b=0):Zg (Za l) (qbD (Za l) a b)=0 :=
 Qeg A (zas B) (zas C) B C ⟨rfl,(zb2 D.tree (zaA l) (ZK B) (ZK C)).2.2⟩
theorem zcs(E:Qg l)(D:∀c∈l,Qf c=0):∀{A B:List Str},A.length=B.length->ql (Za l) A->ql (Za l) B->ql (Za l) (Zas (Za l) A B)/\LeL (Za l) A (Zas (Za l) A B)/\LeL (Za l) B (Zas (Za l) A B)
 |[],[],_,_,_=>⟨fun _ h=>(by cases h),trivial,trivial⟩
 |x::r,y::s,N,H,I=>by
  obtain⟨J,L,M⟩:=zcs E D (A:=r) (B:=s) (by simpa using N) (fun k C=>H k (List.mem_cons_of_mem _ C)) (fun k C=>I k (List.mem_cons_of_mem _ C));have F:=H x (List.mem_cons_self ..);have G:=I y (List.mem_cons_self ..);obtain⟨u1,u2,_⟩:=zb2 E.tree (zaA l) (ZK F) (ZK G);refine⟨fun k C=>?_,⟨?_,L⟩,⟨?_,M⟩⟩
  ·rcases List.mem_cons.1 (show k∈qbD (Za l) x y::Zas (Za l) r s from C) with rfl|C
   ·exact Zdp E D F G
   ·exact J k C
  ·rw[Qb1];exact u1
  ·rw[Qb1];exact u2
theorem Zb2(E:Qg l):∀{A B C:List Str},ql (Za l) A->ql (Za l) B->LeL (Za l) A C->LeL (Za l) B C->LeL (Za l) (Zas (Za l) A B) C
 |[],[],[],_,_,_,_=>trivial
 |[],_::_,[],_,_,_,h=>h.elim
 |[],_::_,_::_,_,_,h,_=>h.elim
 |_::_,[],[],_,_,h,_=>h.elim
 |_::_,[],_::_,_,_,_,h=>h.elim
 |x::r,y::s,z::t,F,G,H,I=>by
  refine⟨?_,Zb2 E (A:=r) (B:=s) (fun k D=>F k (List.mem_cons_of_mem _ D)) (fun k D=>G k (List.mem_cons_of_mem _ D)) H.2 I.2⟩;rw[Qb1];exact Zcs E.tree (ZK (F x (List.mem_cons_self ..))) (ZK (G y (List.mem_cons_self ..))) H.1 I.1
def Zbl(cs:List qa)(a b:Frm):Prop:=LeL cs a.locals b.locals/\LeL cs a.stack b.stack
def qaz(cs:List qa)(c:Str):Bool:=Zg cs (Qc c)==0&&ZS cs (Zr (Qc c)) (Zr (Qc qm))
def qL(cs:List qa)(at':Nat)(f:Frm):List ZW->Option (List (Nat×Frm))
 |[]=>some []
 |h::r=>if h.lo<=(at':Int)/\(at':Int)<h.hi then (if qaz cs h.cls then (qL cs at' f r).map fun t=>(h.dest.toNat,⟨f.locals,[Qc h.cls]⟩)::t else none) else qL cs at' f r
def ZV(x:Ins)(at':Nat):List Nat:=(if qae x.op then [] else [at'+1])++(if ZU x.op&&(x.op==14||x.a != (at':Int)+1) then [x.a.toNat] else [])
def qad(cs:List qa)(cls Zb:Str)(code:List Ins)(at':Nat)(f:Frm):Option (List (Nat×Frm)):=match code[at']? with
 |none=>none
 |some x=>(Qae cs cls Zb x f.locals f.stack).map fun p=>(ZV x at').map fun i=>(i,⟨p.1,p.2⟩)
def qaF(cs:List qa)(cls Zb:Str)(m:qc)(at':Nat)(f:Frm):Option (List (Nat×Frm)):=(qL cs at' f m.handlers).bind fun a=>(qad cs cls Zb m.code at' f).map fun b=>a++b
def zW(cs:List qa)(cls Zb:Str)(m:qc)(start:Frm):Zp Frm where
 n:=m.code.length
 top:=1600
 start:=start
 ok:=fun f=>qG cs f=0
 le:=Zbl cs
 fit:=qau
 join:=ZaA cs
 edges:=qaF cs cls Zb m
 rank:=fun f=>zG cs f.locals+zG cs f.stack
structure zdN (code:List Ins):Prop where
 small:code.length<=40
 ins:∀x∈code,qo x=0
 jumps:∀x∈code,ZU x.op=true->0<=x.a/\x.a<(code.length:Int)
 last:∀i x,code[i]? = some x->qae x.op=false->i+1<code.length
 pos:0<code.length
theorem qaw{A:List Ins}(h:ZC A=0):zdN A:=by
 unfold ZC at h;split at h
 ·cases h
 ·rename_i N;split at h
  ·rename_i E;exact absurd h E
  ·rename_i E;have E:=Decidable.not_not.1 E;have C:=qal E;split at h
   ·cases h
   ·rename_i O;refine⟨by omega,C,fun x H G=>?_,fun i x B P=>?_,?_⟩
    ·have F:x.a<(A.length:Int):=by
      by_cases I:(A.length:Int)<=x.a
      ·exact absurd (List.any_eq_true.2 ⟨x,H,by rw[G,Xj I];rfl⟩) O
      ·omega
     refine⟨?_,F⟩;have B:=C x H;unfold qo at B;split at B
     ·cases B
     ·split at B
      ·cases B
      ·split at B
       ·cases B
       ·rename_i D;have D:qR x=true:=(by cases R:qR x<;>simp_all);unfold qR at D;unfold ZU at G;have J:x.op=12\/x.op=13\/x.op=14:=(by simpa[or_assoc] using G);rw[if_neg (by omega),if_neg (by omega),if_neg (by omega)]at D;unfold ZU at D;rw[G]at D;simp at D;omega
    ·have F:i<A.length:=(List.getElem?_eq_some_iff.1 B).1;by_cases L:i+1=A.length
     ·have M:A.getLast? = some x:=(by rw[List.getLast?_eq_getElem?,<-L];exact B);rw[M]at h;dsimp only at h;rw[P]at h;cases h
     ·omega
    ·cases A with
     |nil=>cases h
     |cons _ _=>exact Nat.succ_pos _
theorem za3{l:List ZW}{n:Nat}(h:Zw l n=0):l.length<=8/\∀x∈l,0<=x.lo/\x.hi<=(n:Int)/\0<=x.dest/\x.dest<(n:Int)/\zD (lst x.cls)=true:=by
 unfold Zw at h;split at h
 ·rename_i A;exact absurd h A
 ·rename_i A;have A:=qal (Decidable.not_not.1 A);split at h
  ·cases h
  ·refine⟨by omega,fun x D=>?_⟩;have B:=A x D;unfold QE at B;split at B
   ·cases B
   ·rename_i E;split at B
    ·rename_i C;exact⟨by omega,by omega,by omega,by omega,C⟩
    ·cases B
theorem Za3{cs:List qa}{n B:Nat}{f:Frm}(C:qG cs f=0):∀{F:List ZW} {t:List (Nat×Frm)},(∀x∈F,0<=x.dest/\x.dest<(n:Int))->qL cs B f F=some t->∀p∈t,p.1<n/\qG cs p.2=0
 |[],t,_,h,p,A=>by
  injection h with h;subst h;cases A
 |x::r,t,G,h,p,A=>by
  have E:∀y∈r,0<=y.dest/\y.dest<(n:Int):=fun y M=>G y (List.mem_cons_of_mem _ M)
  unfold qL at h;split at h
  ·split at h
   ·rename_i D;obtain⟨O,H,I⟩:=zah h;subst I;rcases List.mem_cons.1 A with rfl|A
    ·obtain⟨P,R⟩:=G x (List.mem_cons_self ..);obtain⟨J,S,L,T⟩:=Qt C;refine⟨by show x.dest.toNat<n;omega,zaS J (by show[Qc x.cls].length<=8;simp) L fun k N=>?_⟩;rw[List.mem_singleton.1 N];unfold qaz at D;rw[Bool.and_eq_true]at D;exact beq_iff_eq.1 D.1
    ·exact Za3 C E H p A
   ·cases h
  ·exact Za3 C E h p A
theorem qaV{cs:List qa}{B:Nat}{a b:Frm}(A:Zbl cs a b):∀{G:List ZW} {D:List (Nat×Frm)},qL cs B b G=some D->∃E,qL cs B a G=some E/\∀p∈E,∃q∈D,p.1=q.1/\Zbl cs p.2 q.2
 |[],D,_=>⟨[],rfl,fun p C=>by cases C⟩
 |x::r,D,h=>by
  unfold qL at h ⊢;split at h
  ·rename_i F;rw[if_pos F];split at h
   ·rename_i O;rw[if_pos O];obtain⟨P,H,I⟩:=zah h;subst I;obtain⟨E,e,J⟩:=qaV A H;refine⟨_,by rw[e];rfl,fun p C=>?_⟩;rcases List.mem_cons.1 C with rfl|C
    ·exact⟨_,List.mem_cons_self ..,rfl,A.1,LeL.refl cs _⟩
    ·obtain⟨q,L,M,N⟩:=J p C;exact⟨q,List.mem_cons_of_mem _ L,M,N⟩
   ·cases h
  ·rename_i F;rw[if_neg F];exact qaV A h
theorem qdp{A:List Ins}(D:zdN A){x:Ins}{C:Nat}(E:A[C]? = some x):∀i∈ZV x C,i<A.length:=by
 intro i B;unfold ZV at B;rcases List.mem_append.1 B with B|B
 ·split at B
  ·cases B
  ·rename_i G;rw[List.mem_singleton.1 B];exact D.last C x E (by simpa using G)
 ·split at B
  ·rename_i F;rw[Bool.and_eq_true]at F;rw[List.mem_singleton.1 B];have:=D.jumps x (Xe E) F.1;omega
  ·cases B
theorem Qdp{cs:List qa}{a b:Frm}(A:qG cs a=0)(B:qG cs b=0)(h:Zbl cs a b):LeF cs a.locals b.locals/\LeF cs a.stack b.stack:=by
 obtain⟨C,D,E,F⟩:=Qt A;obtain⟨I,J,G,H⟩:=Qt B;exact⟨⟨h.1,E,G,C⟩,⟨h.2,F,H,D⟩⟩
theorem qcs{cs:List qa}{L S C S':List Str}(A:LeF cs L C)(B:LeF cs S S'):qG cs ⟨L,S⟩=0/\qG cs ⟨C,S'⟩=0/\Zbl cs ⟨L,S⟩ ⟨C,S'⟩ :=
 ⟨zaS A.sm B.sm A.ka B.ka,zaS (by rw[<-A.le.len];exact A.sm) (by rw[<-B.le.len];exact B.sm) A.kb B.kb,A.le,B.le⟩
theorem Qbp(J:Qg l){A:List Ins}(H:zdN A){cls Zb:Str}{B:Nat}{a b:Frm}(L:qG (Za l) a=0)(M:qG (Za l) b=0)(D:Zbl (Za l) a b){I:List (Nat×Frm)}(h:qad (Za l) cls Zb A B b=some I):
 ∃G,qad (Za l) cls Zb A B a=some G/\(∀p∈G,∃q∈I,p.1=q.1/\Zbl (Za l) p.2 q.2)/\∀p∈G,p.1<A.length/\qG (Za l) p.2=0:=by
 unfold qad at h ⊢;cases C:A[B]? with
 |none=>rw[C]at h;cases h
 |some x =>
  rw[C]at h;dsimp only at h ⊢;obtain⟨⟨X,S'⟩,N,O⟩:=zah h;subst O;obtain⟨P,R⟩:=Qdp L M D;obtain⟨Y,Z,e,S,T⟩:=Qcs J (H.ins x (Xe C)) P R N;obtain⟨U,_,V⟩:=qcs S T;refine⟨_,by rw[e];rfl,fun p F=>?_,fun p F=>?_⟩
  ·obtain⟨i,E,rfl⟩:=List.mem_map.1 F;exact⟨_,List.mem_map.2 ⟨i,E,rfl⟩,rfl,V⟩
  ·obtain⟨i,E,rfl⟩:=List.mem_map.1 F;exact⟨qdp H C i E,U⟩
theorem qbH(D:Qg l)(O:∀c∈l,Qf c=0){cls Zb:Str}{m:qc}(S:ZC m.code=0)(Y:Zw m.handlers m.code.length=0){start:Frm}(n:qG (Za l) start=0):(zW (Za l) cls Zb m start).Good where
 pos:=(qaw S).pos
 sok:=n
 refl:=fun a _=>⟨LeL.refl _ _,LeL.refl _ _⟩
 trans:=fun a b c A _ _ B C=>by
  obtain⟨_,_,o,r⟩:=Qt A;exact⟨LeL.trans D.tree o B.1 C.1,LeL.trans D.tree r B.2 C.2⟩
 anti:=fun a b A H B C=>by
  obtain⟨_,_,F,G⟩:=Qt A;obtain⟨_,_,L,M⟩:=Qt H;have I:=LeL.anti D.tree F L B.1 C.1;have J:=LeL.anti D.tree G M B.2 C.2;cases a;cases b;dsimp only at I J;rw[I,J]
 up:=fun a b A H N=>by
  obtain⟨f,g,F,G⟩:=Qt A;obtain⟨_,_,L,M⟩:=Qt H;have N:qau a b=true:=N;unfold qau at N;rw[Bool.and_eq_true]at N;have Z:=Xm N.1;have d:=Xm N.2;obtain⟨u1,u2,u3⟩:=zcs D O Z F L;obtain⟨s,v,y⟩:=zcs D O d G M;exact⟨zaS (by show(Zas (Za l) a.locals b.locals).length<=8;rw[ZaP Z];exact f) (by show(Zas (Za l) a.stack b.stack).length<=8;rw[ZaP d];exact g) u1 s,⟨u2,v⟩,⟨u3,y⟩⟩
 lub:=fun a b z A H _ B C=>by
  obtain⟨_,_,F,G⟩:=Qt A;obtain⟨_,_,L,M⟩:=Qt H;refine⟨?_,Zb2 D F L B.1 C.1,Zb2 D G M B.2 C.2⟩;show qau a b=true
  unfold qau;rw[B.1.len,B.2.len,C.1.len,C.2.len];simp
 mono:=fun i a b lb _ A H P h=>by
  have h:qaF (Za l) cls Zb m i b=some lb:=h;unfold qaF at h;obtain⟨tb,B,C⟩:=zu h;obtain⟨sb,R,T⟩:=zah C;subst T;obtain⟨ta,I,t1⟩:=qaV P B;obtain⟨j,J,t2,_⟩:=Qbp D (qaw S) A H P R;refine⟨ta++j,by show qaF (Za l) cls Zb m i a=_;unfold qaF;rw[I,Option.bind_some,J];rfl,fun p E=>?_⟩;rcases List.mem_append.1 E with E|E
  ·obtain⟨q,U,V⟩:=t1 p E;exact⟨q,List.mem_append_left _ U,V⟩
  ·obtain⟨q,U,V⟩:=t2 p E;exact⟨q,List.mem_append_right _ U,V⟩
 out:=fun i a t _ A h p E=>by
  have h:qaF (Za l) cls Zb m i a=some t:=h;unfold qaF at h;obtain⟨tb,B,C⟩:=zu h;obtain⟨sb,R,T⟩:=zah C;subst T;rcases List.mem_append.1 E with E|E
  ·exact Za3 A (fun x k=>⟨((za3 Y).2 x k).2.2.1,((za3 Y).2 x k).2.2.2.1⟩) B p E
  ·obtain⟨j,e,_,t3⟩:=Qbp D (qaw S) A A ⟨LeL.refl _ _,LeL.refl _ _⟩ R;rw[R]at e;injection e with e;subst e
   exact t3 p E
 fall:=fun a b A H h X=>by
  obtain⟨_,_,F,G⟩:=Qt A;obtain⟨_,_,L,M⟩:=Qt H;obtain⟨i1,i2⟩:=qb1 D h.1 F L;obtain⟨j1,j2⟩:=qb1 D h.2 G M;show zG (Za l) b.locals+zG (Za l) b.stack<zG (Za l) a.locals+zG (Za l) a.stack
  by_cases I:a.locals=b.locals
  ·have:=j2 fun J=>X (by cases a;cases b;dsimp only at I J;rw[I,J])
   omega
  ·have:=i2 I;omega
 cap:=fun a A=>by
  obtain⟨f,g,F,G⟩:=Qt A;have B:=Qcr D F;have C:=Qcr D G;show zG (Za l) a.locals+zG (Za l) a.stack<=1600
  omega
end
def zae(i:Nat):Value:=.int .i64 (i:Int)
theorem QeL:(prog.info? 3).map (fun i=>(i.zero,i.size,i.bytes))=some (some (.int .i64 0),1,8):=by kernel_rfl
def Que(w:World)(base:Nat)(v:Value)(xs:List Nat):Prop:=(v=.slice none 0 0/\xs=[]) \/
 ∃b off cap cur,v=.slice (some ⟨b,off,none⟩) xs.length cap/\base<=b/\w.heap[b]? = some (.cells cur 3 (0,0))/\xs.length<=cap/\cap<=maxLen/\off+cap<=cur.size/\(∀u∈cur.toList,∃k,u=.int .i64 k)/\∀j x,xs[j]? = some x->cur[off+j]? = some (zae x)
theorem Que.empty(w:World)(base:Nat):Que w base (.slice none 0 0) []:=Or.inl ⟨rfl,rfl⟩
theorem Que.lt{w:World}{base:Nat}{v:Value}{xs:List Nat}(h:Que w base v xs):∀g,v.ownBlock=some g->base<=g/\g<w.heap.size:=by
 intro g A;rcases h with⟨rfl,_⟩|⟨b,B,cap,C,rfl,D,E,_⟩
 ·cases A
 ·injection A with A
  subst A;exact⟨D,(Array.getElem?_eq_some_iff.1 E).1⟩
theorem Que.keep{w w':World}{base:Nat}{v:Value}{xs:List Nat}(h:Que w base v xs)(C:∀g,v.ownBlock=some g->w'.heap[g]? = w.heap[g]?):Que w' base v xs:=by
 rcases h with h|⟨b,A,cap,B,rfl,D,E,F⟩
 ·exact Or.inl h
 ·exact Or.inr ⟨b,A,cap,B,rfl,D,(C b rfl).trans E,F⟩
theorem zeh{n:Nat}{u:Value}(h:u∈(Builtin.zeroCells (Value.int .i64 0).cells n).toList):∃k,u=.int .i64 k:=by
 unfold Builtin.zeroCells at h;simp only[Array.toList_map,List.mem_map]at h;obtain⟨i,_,rfl⟩:=h;rw[show i % (Value.int .i64 0).cells.size=0 from Nat.mod_one i];exact⟨0,rfl⟩
theorem Que.made(w:World){base cap:Nat}{xs:List Nat}(C:base<=w.heap.size)(D:xs.length<=cap)(E:cap<=maxLen):Que (w.alloc (.cells ((xs.map zae).toArray++Builtin.zeroCells (Value.int .i64 0).cells (cap-xs.length)) 3)) base (.slice (some ⟨w.heap.size,0,none⟩) xs.length cap) xs:=by
 refine Or.inr ⟨w.heap.size,0,cap,_,rfl,C,heap_alloc_new _ _,D,E,?_,fun u A=>?_,fun j x B=>?_⟩
 ·rw[Array.size_append,size_zeroCells,List.size_toArray,List.length_map];show 0+cap<=xs.length+(cap-xs.length)*1
  omega
 ·rw[Array.toList_append,List.mem_append]at A;rcases A with A|A
  ·obtain⟨x,_,rfl⟩:=List.mem_map.1 A;exact⟨_,rfl⟩
  ·exact zeh A
 ·have F:=(List.getElem?_eq_some_iff.1 B).1;rw[Nat.zero_add,Array.getElem?_append_left (by simpa using F)];simp[B]
def zX(w w':World):Prop:=∀a s,w.cell? a=some (.string s)->w'.cell? a=some (.string s)
theorem QV{w:World}{a:Addr}{v:Value}(h:w.cell? a=some v):a.block<w.heap.size:=by
 unfold World.cell? at h;cases A:w.heap[a.block]? with
 |none=>simp[A]at h
 |some B=>exact(Array.getElem?_eq_some_iff.1 A).1
theorem zX.trans{a b c:World}(h:zX a b)(k:zX b c):zX a c:=fun x s e=>k x s (h x s e)
theorem zX.below{w w':World}(h:Below w.heap.size w w'):zX w w':=fun _ _ e=>(h.cell (QV e)).trans e
theorem zX.blocks{w w':World}(g:Nat)(B:∀k,k<w.heap.size->k≠g->w'.heap[k]? = w.heap[k]?)(C:∀a s,a.block=g->w.cell? a≠some (.string s)):zX w w':=fun a s e=>by
 by_cases A:a.block=g
 ·exact absurd e (C a s A)
 ·exact(World.cell?_of_block (B a.block (QV e) A)).trans e
theorem Que.keepS{w w':World}{base:Nat}{v:Value}{xs:List Nat}(h:Que w base v xs)(C:w.grownBy w' v.ownBlock):zX w w':=by
 rcases h with⟨rfl,_⟩|⟨b,E,cap,F,rfl,_,G,_,_,_,H,_⟩
 ·exact fun a s e=>(World.cell?_of_block (C.block a.block (QV e) (by simp[Value.ownBlock]))).trans e
 ·refine zX.blocks b (fun k A B=>C.block k A fun e=>B (Option.some.inj e)) fun a s D e=>?_
  unfold World.cell? at e;rw[D,G]at e;dsimp only at e;split at e
  ·cases e
  ·obtain⟨k,A⟩:=H _ (Array.mem_toList_iff.2 (Array.mem_of_getElem? e));cases A
theorem zX.strs{w w':World}(h:zX w w'){v:Value}{l:List Str}(A:qp w v l):qp w' v l:=by
 rcases A with A|⟨a,cap,G,H,I,J⟩
 ·exact Or.inl A
 ·refine Or.inr ⟨a,cap,G,H,I,fun i x F=>?_⟩;obtain⟨vs,C,L,D,E⟩:=J i x F;have B:vs=[.string x]:=C;subst B;exact⟨_,rfl,rfl,D,h _ _ E.1,trivial⟩
theorem Que.head{w:World}{base:Nat}{v:Value}{x:Nat}{xs:List Nat}(h:Que w base v (x::xs)):∃b A cap,v=.slice (some ⟨b,A,none⟩) (xs.length+1) (cap+1)/\w.cell? ⟨b,A,none⟩=some (zae x)/\xs.length<=cap/\cap+1<=maxLen /\
 Que w base (.slice (if cap=0 then some ⟨b,A,none⟩ else some ⟨b,A+1,none⟩) xs.length cap) xs:=by
 rcases h with⟨_,h⟩|⟨b,A,cap,B,rfl,E,C,J,L,M,F,G⟩
 ·cases h
 ·rw[List.length_cons]at J;obtain⟨c,rfl⟩:∃c,cap=c+1:=⟨cap-1,by omega⟩;refine⟨b,A,c,rfl,?_,by omega,L,?_⟩
  ·have:=G 0 x rfl;rw[cell_of_row w b A B 3 (0,0) C];simpa using this
  ·by_cases D:c=0
   ·subst D;have:xs=[]:=List.eq_nil_of_length_eq_zero (by omega);subst this;exact Or.inr ⟨b,A,0,B,rfl,E,C,Xl,Nat.zero_le _,by omega,F,fun j x H=>by simp at H⟩
   ·rw[if_neg D];refine Or.inr ⟨b,A+1,c,B,rfl,E,C,by omega,by omega,by omega,F,fun j y I=>?_⟩;have:=G (j+1) y (by simpa using I);rw[<-this];congr 1;omega
theorem zct{w:World}(ty:TypeId){base:Nat}{v:Value}{xs:List Nat}(h:Que w base v xs)(D:base<=w.heap.size)(x:Nat)(R:Addr)(c:Nat)(t:w.cell? (R.add 0)=some (zae x))(T:xs.length+1<=maxLen)(E:(xs.length+1)*8<=140737488355328):
 ∃q w',(Builtin.append_ #[129,129] ty #[v,.slice (some R) 1 c]).run prog w=.ok q w'/\Que w' base q (xs++[x])/\w.grownBy w' v.ownBlock/\∀g,q.ownBlock=some g->v.ownBlock=some g\/w.heap.size<=g:=by
 obtain⟨a,o,V,H,X⟩:=info_parts QeL;have i:∀j u,[zae x][j]? = some u->w.cell? (R.add j)=some u:=fun j u B=>by
  cases j with
  |zero=>simp at B;subst B;exact t
  |succ j=>simp at B
 have z:∀u∈[zae x],u.oneCell'=true:=fun u B=>by rw[List.mem_singleton.1 B];rfl
 have F:(xs++[x]).length=xs.length+1:=by simp
 rcases h with⟨rfl,rfl⟩|⟨b,A,cap,C,rfl,hb,f,hlc,r,Z,O,J⟩
 ·have S:=run_append_nil (P:=prog) (w:=w) 129 ty 3 a (.int .i64 0) underlying129 o V R 1 c [zae x] (by rw[H];rfl) i (by decide) (by decide) (by rw[X];decide);exact⟨_,_,S,Que.made w.drew (xs:=[x]) D (grownCap_ge w 1 0 3) (grownCap_le_maxLen w 1 0 3 (by decide)),⟨rfl,rfl,rfl,by simp,fun k d _=>heap_alloc_old w.drew _ d⟩,fun g Y=>Or.inr (Nat.le_of_eq (Option.some.inj Y))⟩
 ·by_cases L:xs.length+1<=cap
  ·have I:A+xs.length<C.size:=(by omega);have M:w.cell? ⟨b,A+xs.length,none⟩=some C[A+xs.length]:=by
    rw[cell_of_row w b (A+xs.length) C 3 (0,0) f,Array.getElem?_eq_getElem I]
   have l:w.frozen? ⟨b,A+xs.length,none⟩=false:=(by simp[World.frozen?,f]);have G:a.size=1:=H;have S:=run_append_room_cells (P:=prog) w 129 ty 3 a underlying129 o b A xs.length cap R 1 c [zae x] (by rw[G];rfl) i z L
    (fun j U=>by
     rw[G];have:j=0:=by simpa using U
     subst this;rw[Nat.mul_one,Nat.add_zero,M];rfl)
    (fun j U=>by
     rw[G];have:j=0:=by simpa using U
     subst this;rw[Nat.mul_one,Nat.add_zero];exact l)
   rw[G,Nat.mul_one]at S;refine⟨_,_,S,Or.inr ⟨b,A,cap,C.setIfInBounds (A+xs.length) (zae x),by rw[F],hb,heap_setCell_same w b (A+xs.length) C 3 (zae x) f,by omega,r,by simpa using Z,fun u B=>?_,fun j y N=>?_⟩,⟨rfl,rfl,rfl,by simp[World.setCells],fun k d p=>?_⟩,fun g Y=>Or.inl Y⟩
   ·rw[Array.toList_setIfInBounds]at B;rcases List.mem_or_eq_of_mem_set B with B|rfl
    ·exact O u B
    ·exact⟨_,rfl⟩
   ·by_cases U:j<xs.length
    ·rw[List.getElem?_append_left U]at N;rw[Array.getElem?_setIfInBounds_ne (by omega)];exact J j y N
    ·have m:j=xs.length:=by
      have:=(List.getElem?_eq_some_iff.1 N).1;rw[F]at this;omega
     subst m;rw[List.getElem?_append_right Xl,Nat.sub_self]at N;have N:x=y:=Option.some.inj N;rw[<-N,Array.getElem?_setIfInBounds_self_of_lt I]
   ·exact Xk _ _ _ _ (fun e=>p (by rw[e];rfl))
  ·have S:=run_append_grow (P:=prog) (w:=w) 129 ty 3 a (.int .i64 0) underlying129 o V ⟨b,A,none⟩ xs.length cap (xs.map zae) (by rw[H];simp)
    (fun j u B=>by
     rw[List.getElem?_map]at B;cases n:xs[j]? with
     |none=>rw[n]at B;cases B
     |some y =>
      rw[n]at B;have B:zae y=u:=Option.some.inj B;rw[<-B,zci rfl,cell_of_row w b (A+j) C 3 (0,0) f];exact J j y n) R 1 c [zae x] (by rw[H];rfl) i (by omega) (by unfold maxLen at T;omega) (growslice_fits (by omega) (by rw[X];exact E))
   have s:=Que.made w.drew (xs:=xs++[x]) (base:=base) (cap:=grownCap w (xs.length+1) cap 3) D (by rw[F];exact grownCap_ge w _ _ _) (grownCap_le_maxLen w _ _ _ T);rw[F,List.map_append,<-List.append_toArray]at s;exact⟨_,_,S,s,⟨rfl,rfl,rfl,by simp,fun k d _=>heap_alloc_old w.drew _ d⟩,fun g Y=>Or.inr (Nat.le_of_eq (Option.some.inj Y))⟩
theorem QN{w:World}{E:Array Oper}{B:List Oper}{o:Oper}{a:Act}{Q:Exit->Act->World->Prop}(F:o.guard=none)(s x:Operand)(I:o.op=.call { callee:=.builtin .append,args:=#[s,x],argTypes:=#[129,129] })(base:Nat)(v:Value)(xs:List Nat)(J:a.eval s=v)(h:Que w base v xs)(C:base<=w.heap.size)(y:Nat)(G:Addr)(c:Nat)(L:a.eval x=.slice (some G) 1 c)(M:w.cell? (G.add 0)=some (zae y))(H:xs.length+1<=maxLen)(A:(xs.length+1)*8<=140737488355328)(N:∀D w',Que w' base D (xs++[y])->w.grownBy w' v.ownBlock->(∀g,D.ownBlock=some g->v.ownBlock=some g\/w.heap.size<=g)->wpList prog E Q B (a.put o.dst D) w'):wpList prog E Q (o::B) a w:=by
 obtain⟨D,w',O,P,R,S⟩:=zct o.type h C y G c M H A;exact Lib.wpList_append_run w F s x 129 129 I v _ J L D w' O (N D w' P R S)
open Go.RowKit Go.Shelf Go.Lib Go.ChangeMaps Tryz
theorem qc9:prog.underlying 3=some (.int .i64):=by kernel_rfl
theorem zbS:prog.underlying 93=some (.map 3 133):=by kernel_rfl
def Zfs:Value:=.agg #[.slice none 0 0,.slice none 0 0]
theorem Zeh(w:World):(zeroValue 133).run prog w=.ok Zfs w:=by kernel_rfl
theorem Qc9{i:Nat}(A:i<=64):keyOf prog 3 (zae i)=some (.int .i64 (i:Int)):=by
 refine Go.Maps.keyOf_int_mk qc9 ?_;unfold Lit.wf;simp;exact⟨by
  have:IntKind.i64.min<=0:=by decide
  omega,by
   have:(64:Int)<=IntKind.i64.max:=(by decide);omega⟩
theorem Zct{i k:Nat}(h:zae i=zae k):i=k:=by
 unfold zae at h;injection h with _ h
 omega
structure zbm (R:Value->Value->Frm->Prop) (w:World) (mb:Nat) (F:Asg Frm):Prop where
 ex:∃es clock,w.heap[mb]? = some (.map es clock)/\(es.toList.map (·.key)).Nodup/\(∀e∈es.toList,∃i f lv sv,i<=64/\e.key=zae i/\e.val=.agg #[lv,sv]/\F i=some f/\R lv sv f)/\(∀i f,F i=some f->∃e∈es.toList,e.key=zae i)/\(es.toList.map (·.born)).Nodup/\∀e∈es.toList,e.born<clock
theorem zbm.lt{R:Value->Value->Frm->Prop}{w:World}{B:Nat}{F:Asg Frm}(h:zbm R w B F):B<w.heap.size:=by
 obtain⟨D,A,C,_⟩:=h.ex;exact(Array.getElem?_eq_some_iff.1 C).1
theorem zbm.keep{R E:Value->Value->Frm->Prop}{w w':World}{B:Nat}{F:Asg Frm}(h:zbm R w B F)(G:w'.heap[B]? = w.heap[B]?)(H:∀C D f,R C D f->E C D f):zbm E w' B F:=by
 obtain⟨I,A,J,L,M,N⟩:=h.ex;exact⟨I,A,G.trans J,L,(fun e V=>by
  obtain⟨i,f,C,D,O,P,S,T,U⟩:=M e V;exact⟨i,f,C,D,O,P,S,T,H _ _ _ U⟩),N⟩
theorem zbm.made(R:Value->Value->Frm->Prop)(w:World):zbm R (w.alloc (.map #[] 0)) w.heap.size (fun _=>none) :=
 ⟨#[],0,heap_alloc_new _ _,by simp,fun e A=>by simp at A,(fun i f h=>by cases h),by simp,fun e A=>by simp at A⟩
theorem zbm.keys{A:Array MapEntry}{R:Value->Value->Frm->Prop}{F:Asg Frm}(D:∀e∈A.toList,∃i f B C,i<=64/\e.key=zae i/\e.val=.agg #[B,C]/\F i=some f/\R B C f):∀e∈A.toList,∃l,keyOf prog 3 e.key=some l:=fun e H=>by
 obtain⟨i,_,_,_,E,G,_⟩:=D e H;exact⟨_,by rw[G];exact Qc9 E⟩
theorem qct{l:List MapEntry}(h:(l.map (·.key)).Nodup){n j:Nat}(C:n<l.length)(D:j<l.length)(B:n≠j):l[n].key≠l[j].key:=by
 have h:=List.pairwise_map.1 h;rw[List.pairwise_iff_getElem]at h;rcases Nat.lt_or_gt_of_ne B with A|A
 ·exact h n j C D A
 ·exact fun e=>h j n D C A e.symm
theorem Ze7{l:List MapEntry}(h:(l.map (·.key)).Nodup){a b:MapEntry}(B:a∈l)(C:b∈l)(e:a.key=b.key):a=b:=by
 obtain⟨i,D,rfl⟩:=List.getElem_of_mem B;obtain⟨k,E,rfl⟩:=List.getElem_of_mem C;by_cases A:i=k
 ·subst A;rfl
 ·exact absurd e (qct h D E A)
theorem zdq{α:Type}{l:List α}{j:Nat}{x:α}(h:l[j]? = some x):l.set j x=l:=by
 refine List.ext_getElem? fun n=>?_
 rw[List.getElem?_set];split
 ·rename_i e;subst e;rw[h,if_pos (List.getElem?_eq_some_iff.1 h).1]
 ·rfl
theorem zbm.look{R:Value->Value->Frm->Prop}{w:World}{J:Nat}{F:Asg Frm}(h:zbm R w J F){i:Nat}(g:i<=64):
 ∃C D,(match F i with|none=>C=.slice none 0 0/\D=.slice none 0 0|some f=>R C D f) /\
  ∀(wx:World) (ok:Bool),wx.heap[J]? = w.heap[J]?->(Instr.lookup 93 (.map (some J)) (zae i) ok).run prog wx=.ok (if ok then .tuple #[.agg #[C,D],.bool (F i).isSome] else .agg #[C,D]) wx:=by
 obtain⟨b,T,c,l,U,m,_⟩:=h.ex;have K:=Go.Maps.int_keyed (P:=prog) qc9;have A:=Qc9 g;have H:=zbm.keys U;cases S:F i with
 |none =>
  refine⟨.slice none 0 0,.slice none 0 0,⟨rfl,rfl⟩,fun wx ok X=>?_⟩;have B:=X.trans c;rcases K.find wx A b.toList H with⟨L,_⟩|⟨j,Y,_,I,Z⟩
  ·have a:=Zeh wx;unfold Zfs at a;cases ok<;>simp[Instr.lookup,run_underlying zbS,MapKept.run_getObj_map B,K.check wx _ A,L,a,Result.andThen]
  ·obtain⟨k,f,C,D,_,n,_,d,_⟩:=U Y (Xe I);have:k=i:=Zct (n.symm.trans Z);subst this;rw[S]at d;cases d
 |some f =>
  obtain⟨V,E,G⟩:=m i f S;obtain⟨o,p,C,D,_,q,r,e,s⟩:=U V E;have M:o=i:=Zct (q.symm.trans G);subst M;rw[S]at e;have N:f=p:=Option.some.inj e;subst N;refine⟨C,D,s,fun wx ok X=>?_⟩;have B:=X.trans c;rcases K.find wx A b.toList H with⟨_,I⟩|⟨j,Y,L,I,Z⟩
  ·exact absurd G (I V E)
  ·have O:Y=V:=Ze7 l (Xe I) E (Z.trans G.symm);subst O;rw[r]at L;cases ok<;>simp[Instr.lookup,run_underlying zbS,MapKept.run_getObj_map B,K.check wx _ A,L,Result.andThen]
theorem zbm.put{R:Value->Value->Frm->Prop}{w:World}{V:Nat}{F:Asg Frm}(h:zbm R w V F){i:Nat}(g:i<=64)(f:Frm)(J L:Value)(hR:R J L f):
 ∃o,(Instr.mapUpdate 93 (.map (some V)) (zae i) (.agg #[J,L])).run prog w=.ok () (setBlock w V o)/\zbm R (setBlock w V o) V (F.put i f):=by
 obtain⟨G,D,U,q,r,h4,h5,c⟩:=h.ex;have K:=Go.Maps.int_keyed (P:=prog) qc9;have E:=Qc9 g;have l:=zbm.keys r;rcases K.find w E G.toList l with⟨g1,I⟩|⟨j,T,g1,I,d⟩
 ·refine⟨.map (G.push ⟨zae i,.agg #[J,L],D⟩) (D+1),?_,_,_,heap_setBlock_same U _,?_,?_,?_,?_,?_⟩
  ·simp[Instr.mapUpdate,run_underlying zbS,MapKept.run_getObj_map U,K.check w false E,g1,MapKept.run_setObj_map _ U,Result.andThen,setBlock]
  ·rw[Array.toList_push,List.map_append,List.nodup_append];refine⟨q,by simp,fun x hx y b=>?_⟩;rw[List.map_singleton,List.mem_singleton]at b;subst b;obtain⟨e,A,rfl⟩:=List.mem_map.1 hx;exact I e A
  ·intro e A;rw[Array.toList_push]at A;rcases List.mem_append.1 A with A|A
   ·obtain⟨k,S,s,t,v,Z,z,a4,a5⟩:=r e A;have O:k≠i:=fun M=>I e A (by rw[Z,M])
    exact⟨k,S,s,t,v,Z,z,by rw[Asg.put_other F f O];exact a4,a5⟩
   ·rw[List.mem_singleton.1 A];exact⟨i,f,J,L,g,rfl,rfl,Asg.put_self F i f,hR⟩
  ·intro k S a;rw[Array.toList_push];by_cases C:k=i
   ·exact⟨_,List.mem_append_right _ (List.mem_singleton.2 rfl),by rw[C]⟩
   ·rw[Asg.put_other F f C]at a;obtain⟨e,A,H⟩:=h4 k S a;exact⟨e,List.mem_append_left _ A,H⟩
  ·rw[Array.toList_push,List.map_append,List.nodup_append];refine⟨h5,by simp,fun x hx y b=>?_⟩;rw[List.map_singleton,List.mem_singleton]at b;subst b;obtain⟨e,A,rfl⟩:=List.mem_map.1 hx;exact Nat.ne_of_lt (c e A)
  ·intro e A;rw[Array.toList_push]at A;rcases List.mem_append.1 A with A|A
   ·exact Nat.lt_succ_of_lt (c e A)
   ·rw[List.mem_singleton.1 A];exact Nat.lt_succ_self _
 ·have hj:G[j]? = some T:=by simpa using I
  have X:j<G.toList.length:=(List.getElem?_eq_some_iff.1 I).1;have B:(G.modify j (fun M=>{ M with key:=zae i,val:=.agg #[J,L] })).toList=G.toList.set j { T with key:=zae i,val:=.agg #[J,L] }:=by rw[Array.toList_modify,Go.ChangeMaps.modify_eq_set _ _ _ _ I]
  refine⟨.map (G.modify j (fun M=>{ M with key:=zae i,val:=.agg #[J,L] })) D,?_,_,_,heap_setBlock_same U _,?_,?_,?_,?_,?_⟩
  ·simp[Instr.mapUpdate,run_underlying zbS,MapKept.run_getObj_map U,K.check w false E,g1,hj,d,K.stays w E,MapKept.run_setObj_map _ U,Result.andThen,setBlock]
  ·rw[B,List.map_set];have:(G.toList.map (·.key)).set j (zae i)=G.toList.map (·.key):=by
    refine zdq ?_;rw[List.getElem?_map,I];show some T.key=_
    rw[d]
   rw[this];exact q
  ·intro e A;rw[B]at A;obtain⟨n,hn,N⟩:=List.getElem_of_mem A;rw[List.getElem_set]at N;split at N
   ·subst N;exact⟨i,f,J,L,g,rfl,rfl,Asg.put_self F i f,hR⟩
   ·rename_i O;have Y:n<G.toList.length:=(by simpa using hn);have m:e∈G.toList:=N▸List.getElem_mem Y;obtain⟨k,S,s,t,v,Z,z,a4,a5⟩:=r e m;have C:k≠i:=fun M=>by
     refine qct q Y X (Ne.symm O) ?_;rw[N,Z,M,(List.getElem?_eq_some_iff.1 I).2,d]
    exact⟨k,S,s,t,v,Z,z,by rw[Asg.put_other F f C];exact a4,a5⟩
  ·intro k S a;rw[B];by_cases C:k=i
   ·exact⟨{ T with key:=zae i,val:=.agg #[J,L] },List.mem_iff_getElem.2 ⟨j,by simpa using X,by simp⟩,by rw[C]⟩
   ·rw[Asg.put_other F f C]at a;obtain⟨e,A,H⟩:=h4 k S a;obtain⟨n,hn,N⟩:=List.getElem_of_mem A;have p:j≠n:=fun M=>by
     subst M;have:e=T:=(by rw[<-N];exact(List.getElem?_eq_some_iff.1 I).2);rw[this,d]at H;exact C (Zct H).symm
    exact⟨e,List.mem_iff_getElem.2 ⟨n,by simpa using hn,by rw[List.getElem_set_ne p,N]⟩,H⟩
  ·rw[B,List.map_set];have:(G.toList.map (·.born)).set j T.born=G.toList.map (·.born):=zdq (by rw[List.getElem?_map,I];rfl);rw[this];exact h5
  ·intro e A;rw[B]at A;rcases List.mem_or_eq_of_mem_set A with A|rfl
   ·exact c e A
   ·exact c T (Xe I)
