/- Lemmas; conditions: as each states. -/
import Derived.Test.YtmclocdhcblbiaaGreatDoorFixLaw
import Derived.Test.YtmclocdhcblbiaaGreatDoorGrowStep
set_option maxHeartbeats 4000000
namespace Go.Proofs.YtmclocdhcblbiaaGreatDoor
open Go.RowKit Go.Shelf Go.Lib
def Zbm(cs:List qa):Ty->Nat
 |.cl c=>(zj cs c).length
 |.ar x=>13+Zbm cs x
 |_=>0
def ZbG(cs:List qa):Kd->Nat
 |.n=>100
 |.t=>0
 |.ty x=>1+Zbm cs x
def zF(cs:List qa)(L:List Str):Nat:=(L.map fun k=>ZbG cs (qr k)).sum
section
variable {l:List qa}
theorem qcP(A:zh l){c:Str}(B:(Qb (Za l) c).isSome=true):(zj (Za l) c).length<=12:=by
 have C:=(qp A.closed B).1.length;have D:(Za l).length=l.length+2:=by simp[Za]
 have:=A.length;omega
theorem qdJ(C:zh l):∀c,(Qb (Za l) c).isSome=true->∀d∈Zl (Za l) c,d≠c->(zj (Za l) d).length<(zj (Za l) c).length:=by
 refine C.line_ind _ (fun x E F d A B=>?_) (fun x E F H d A B=>?_)
 ·rw[zh.line_top F]at A;simp at A;exact absurd A B
 ·rcases(C.line_mem E).1 A with rfl|⟨_,A⟩
  ·exact absurd rfl B
  ·have D:=(C.up E F).2;by_cases G:d=(Ze (Za l) x).super
   ·rw[G];exact D
   ·have:=H d A G;omega
theorem Qd7(B:zh l):∀{x y:Ty},zN (Za l) x=true->zN (Za l) y=true->zbz (Za l) x y->x≠y->Zbm (Za l) y<Zbm (Za l) x
 |.i,.i,_,_,_,h=>absurd rfl h
 |.j,.j,_,_,_,h=>absurd rfl h
 |.cl c,.cl d,C,_,A,h=>qdJ B c C d A fun e=>h (by rw[e])
 |.ar x,.cl d,_,D,A,_=>by
  show(zj (Za l) d).length<13+_
  have:=qcP B (c:=d) D;omega
 |.ar x,.ar y,C,D,A,h=>by
  have:=Qd7 B (x:=x) (y:=y) C D A fun e=>h (by rw[e])
  show 13+_<13+_
  omega
 |.i,.j,_,_,A,_=>A.elim
 |.i,.cl _,_,_,A,_=>A.elim
 |.i,.ar _,_,_,A,_=>A.elim
 |.j,.i,_,_,A,_=>A.elim
 |.j,.cl _,_,_,A,_=>A.elim
 |.j,.ar _,_,_,A,_=>A.elim
 |.cl _,.i,_,_,A,_=>A.elim
 |.cl _,.j,_,_,A,_=>A.elim
 |.cl _,.ar _,_,_,A,_=>A.elim
 |.ar _,.i,_,_,A,_=>A.elim
 |.ar _,.j,_,_,A,_=>A.elim
theorem QdJ(A:zh l):∀{x:Ty},zN (Za l) x=true->Zbm (Za l) x<=13*ZD x+12
 |.i,_=>Nat.zero_le _
 |.j,_=>Nat.zero_le _
 |.cl c,h=>by
  have:=qcP A (c:=c) h;show(zj (Za l) c).length<=_
  omega
 |.ar x,h=>by
  have:=QdJ A (x:=x) h;show 13+Zbm (Za l) x<=13*(ZD x+1)+12
  omega
theorem Qe1(B:zh l){x y:Kd}(D:ZQ (Za l) x=true)(C:ZQ (Za l) y=true)(E:qbm y<=3)(A:Qaw (Za l) x y)(h:x≠y):ZbG (Za l) y<ZbG (Za l) x:=by
 cases x with
 |n =>
  cases y with
  |n=>exact absurd rfl h
  |t=>show 0<100;decide
  |ty y =>
   have F:=QdJ B (x:=y) C;have G:ZD y<=3:=E;show 1+Zbm (Za l) y<100
   omega
 |t =>
  cases y with
  |n=>exact A.elim
  |t=>exact absurd rfl h
  |ty y=>exact A.elim
 |ty x =>
  cases y with
  |n=>exact A.elim
  |t=>show 0<1+_;omega
  |ty y =>
   have:=Qd7 B (x:=x) (y:=y) D C A fun e=>h (by rw[e])
   show 1+_<1+_
   omega
theorem qfh(A:zh l){x:Kd}(B:ZQ (Za l) x=true)(C:qbm x<=3):ZbG (Za l) x<=100:=by
 cases x with
 |n=>exact Xl
 |t=>exact Nat.zero_le _
 |ty x =>
  have D:=QdJ A (x:=x) B;have E:ZD x<=3:=C;show 1+Zbm (Za l) x<=100
  omega
theorem zb1(G:zh l):∀{A B:List Str},LeL (Za l) A B->ql (Za l) A->ql (Za l) B->zF (Za l) B<=zF (Za l) A/\(A≠B->zF (Za l) B<zF (Za l) A)
 |[],[],_,_,_=>⟨Xl,fun h=>absurd rfl h⟩
 |x::r,y::s,h,I,J=>by
  obtain⟨O,L⟩:=zb1 G (A:=r) (B:=s) h.2 (fun k C=>I k (List.mem_cons_of_mem _ C)) (fun k C=>J k (List.mem_cons_of_mem _ C));have H:=I x (List.mem_cons_self ..);have D:=J y (List.mem_cons_self ..);have M:zF (Za l) (x::r)=ZbG (Za l) (qr x)+zF (Za l) r:=by unfold zF;rw[List.map_cons,List.sum_cons]
  have N:zF (Za l) (y::s)=ZbG (Za l) (qr y)+zF (Za l) s:=by unfold zF;rw[List.map_cons,List.sum_cons]
  by_cases C:qr x=qr y
  ·have E:x=y:=(Qap H).text (by rw[C];exact Qap D);subst E;refine⟨by omega,fun F=>?_⟩;have:=L fun e=>F (by rw[e])
   omega
  ·have:=Qe1 G (qI H) (qI D) (Qcp D) h.1 C;exact⟨by omega,fun _=>by omega⟩
theorem zcq(B:zh l):∀{A:List Str},ql (Za l) A->zF (Za l) A<=100*A.length
 |[],_=>Xl
 |x::r,h=>by
  have i:=zcq B (A:=r) fun k D=>h k (List.mem_cons_of_mem _ D)
  have C:=h x (List.mem_cons_self ..);have:=qfh B (qI C) (Qcp C);have E:zF (Za l) (x::r)=ZbG (Za l) (qr x)+zF (Za l) r:=by unfold zF;rw[List.map_cons,List.sum_cons]
  rw[List.length_cons];omega
theorem LeL.refl(cs:List qa):∀A:List Str,LeL cs A A
 |[]=>trivial
 |_::r=>⟨qbu cs _,LeL.refl cs r⟩
theorem LeL.trans{cs:List qa}(T:zbQ cs):∀{A B C:List Str},ql cs A->LeL cs A B->LeL cs B C->LeL cs A C
 |[],[],[],_,_,_=>trivial
 |x::_,_::_,_::_,h,D,E=>⟨zdK T (qI (h x (List.mem_cons_self ..))) D.1 E.1,LeL.trans T (fun k F=>h k (List.mem_cons_of_mem _ F)) D.2 E.2⟩
theorem LeL.anti{cs:List qa}(T:zbQ cs):∀{A B:List Str},ql cs A->ql cs B->LeL cs A B->LeL cs B A->A=B
 |[],[],_,_,_,_=>rfl
 |x::r,y::s,G,H,I,J=>by
  have E:=G x (List.mem_cons_self ..);have F:=H y (List.mem_cons_self ..);have C:=QcP T (qI E) (qI F) I.1 J.1;have D:x=y:=(Qap E).text (by rw[C];exact Qap F);rw[D,LeL.anti T (A:=r) (B:=s) (fun k C=>G k (List.mem_cons_of_mem _ C)) (fun k C=>H k (List.mem_cons_of_mem _ C)) I.2 J.2]
theorem Zb1{cs:List qa}(a b:Str):qr (ZbB cs a b)=zY cs (qr a) (qr b):=zK rfl
theorem Zdn(D:zh l)(A:∀c∈l,qf c=0){a b:Str}(B:Qg (Za l) a=0)(C:Qg (Za l) b=0):Qg (Za l) (ZbB (Za l) a b)=0 :=
 qeh A (Qap B) (Qap C) B C ⟨rfl,(qb1 D.tree (zax l) (qI B) (qI C)).2.2⟩
theorem Zcq(E:zh l)(D:∀c∈l,qf c=0):∀{A B:List Str},A.length=B.length->ql (Za l) A->ql (Za l) B->ql (Za l) (zaq (Za l) A B)/\LeL (Za l) A (zaq (Za l) A B)/\LeL (Za l) B (zaq (Za l) A B)
 |[],[],_,_,_=>⟨fun _ h=>(by cases h),trivial,trivial⟩
 |x::r,y::s,N,H,I=>by
  obtain⟨J,L,M⟩:=Zcq E D (A:=r) (B:=s) (by simpa using N) (fun k C=>H k (List.mem_cons_of_mem _ C)) (fun k C=>I k (List.mem_cons_of_mem _ C));have F:=H x (List.mem_cons_self ..);have G:=I y (List.mem_cons_self ..);obtain⟨u1,u2,_⟩:=qb1 E.tree (zax l) (qI F) (qI G);refine⟨fun k C=>?_,⟨?_,L⟩,⟨?_,M⟩⟩
  ·rcases List.mem_cons.1 (show k∈ZbB (Za l) x y::zaq (Za l) r s from C) with rfl|C
   ·exact Zdn E D F G
   ·exact J k C
  ·rw[Zb1];exact u1
  ·rw[Zb1];exact u2
theorem Qb1(E:zh l):∀{A B C:List Str},ql (Za l) A->ql (Za l) B->LeL (Za l) A C->LeL (Za l) B C->LeL (Za l) (zaq (Za l) A B) C
 |[],[],[],_,_,_,_=>trivial
 |[],_::_,[],_,_,_,h=>h.elim
 |[],_::_,_::_,_,_,h,_=>h.elim
 |_::_,[],[],_,_,h,_=>h.elim
 |_::_,[],_::_,_,_,_,h=>h.elim
 |x::r,y::s,z::t,F,G,H,I=>by
  refine⟨?_,Qb1 E (A:=r) (B:=s) (fun k D=>F k (List.mem_cons_of_mem _ D)) (fun k D=>G k (List.mem_cons_of_mem _ D)) H.2 I.2⟩;rw[Zb1];exact qcq E.tree (qI (F x (List.mem_cons_self ..))) (qI (G y (List.mem_cons_self ..))) H.1 I.1
def qbi(cs:List qa)(a b:Frm):Prop:=LeL cs a.locals b.locals/\LeL cs a.stack b.stack
def qaw(cs:List qa)(c:Str):Bool:=Qg cs (Qc c)==0&&zQ cs (qr (Qc c)) (qr (Qc Ql))
def ZK(cs:List qa)(at':Nat)(f:Frm):List QT->Option (List (Nat×Frm))
 |[]=>some []
 |h::r=>if h.lo<=(at':Int)/\(at':Int)<h.hi then (if qaw cs h.cls then (ZK cs at' f r).map fun t=>(h.dest.toNat,⟨f.locals,[Qc h.cls]⟩)::t else none) else ZK cs at' f r
def QS(x:Ins)(at':Nat):List Nat:=(if Zac x.op then [] else [at'+1])++(if ZS x.op&&(x.op==14||x.a != (at':Int)+1) then [x.a.toNat] else [])
def qab(cs:List qa)(cls Zb:Str)(code:List Ins)(at':Nat)(f:Frm):Option (List (Nat×Frm)):=match code[at']? with
 |none=>none
 |some x=>(qac cs cls Zb x f.locals f.stack).map fun p=>(QS x at').map fun i=>(i,⟨p.1,p.2⟩)
def zaC(cs:List qa)(cls Zb:Str)(m:zg)(at':Nat)(f:Frm):Option (List (Nat×Frm)):=(ZK cs at' f m.handlers).bind fun a=>(qab cs cls Zb m.code at' f).map fun b=>a++b
def qT(cs:List qa)(cls Zb:Str)(m:zg)(start:Frm):Qp Frm where
 n:=m.code.length
 top:=1600
 start:=start
 ok:=fun f=>qF cs f=0
 le:=qbi cs
 fit:=Zas
 join:=Zax cs
 edges:=zaC cs cls Zb m
 rank:=fun f=>zF cs f.locals+zF cs f.stack
structure ZdK (code:List Ins):Prop where
 small:code.length<=40
 ins:∀x∈code,Qo x=0
 jumps:∀x∈code,ZS x.op=true->0<=x.a/\x.a<(code.length:Int)
 last:∀i x,code[i]? = some x->Zac x.op=false->i+1<code.length
 pos:0<code.length
theorem zau{A:List Ins}(h:zC A=0):ZdK A:=by
 unfold zC at h;split at h
 ·cases h
 ·rename_i N;split at h
  ·rename_i E;exact absurd h E
  ·rename_i E;have E:=Decidable.not_not.1 E;have C:=Zak E;split at h
   ·cases h
   ·rename_i O;refine⟨by omega,C,fun x H G=>?_,fun i x B P=>?_,?_⟩
    ·have F:x.a<(A.length:Int):=by
      by_cases I:(A.length:Int)<=x.a
      ·exact absurd (List.any_eq_true.2 ⟨x,H,by rw[G,Xj I];rfl⟩) O
      ·omega
     refine⟨?_,F⟩;have B:=C x H;unfold Qo at B;split at B
     ·cases B
     ·split at B
      ·cases B
      ·split at B
       ·cases B
       ·rename_i D;have D:QP x=true:=(by cases R:QP x<;>simp_all);unfold QP at D;unfold ZS at G;have J:x.op=12\/x.op=13\/x.op=14:=(by simpa[or_assoc] using G);rw[if_neg (by omega),if_neg (by omega),if_neg (by omega)]at D;unfold ZS at D;rw[G]at D;simp at D;omega
    ·have F:i<A.length:=(List.getElem?_eq_some_iff.1 B).1;by_cases L:i+1=A.length
     ·have M:A.getLast? = some x:=(by rw[List.getLast?_eq_getElem?,<-L];exact B);rw[M]at h;dsimp only at h;rw[P]at h;cases h
     ·omega
    ·cases A with
     |nil=>cases h
     |cons _ _=>exact Nat.succ_pos _
theorem ZaZ{l:List QT}{n:Nat}(h:zw l n=0):l.length<=8/\∀x∈l,0<=x.lo/\x.hi<=(n:Int)/\0<=x.dest/\x.dest<(n:Int)/\Zx (lst x.cls)=true:=by
 unfold zw at h;split at h
 ·rename_i A;exact absurd h A
 ·rename_i A;have A:=Zak (Decidable.not_not.1 A);split at h
  ·cases h
  ·refine⟨by omega,fun x D=>?_⟩;have B:=A x D;unfold ZE at B;split at B
   ·cases B
   ·rename_i E;split at B
    ·rename_i C;exact⟨by omega,by omega,by omega,by omega,C⟩
    ·cases B
theorem qaZ{cs:List qa}{n B:Nat}{f:Frm}(C:qF cs f=0):∀{F:List QT} {t:List (Nat×Frm)},(∀x∈F,0<=x.dest/\x.dest<(n:Int))->ZK cs B f F=some t->∀p∈t,p.1<n/\qF cs p.2=0
 |[],t,_,h,p,A=>by
  injection h with h;subst h;cases A
 |x::r,t,G,h,p,A=>by
  have E:∀y∈r,0<=y.dest/\y.dest<(n:Int):=fun y M=>G y (List.mem_cons_of_mem _ M)
  unfold ZK at h;split at h
  ·split at h
   ·rename_i D;obtain⟨O,H,I⟩:=qaf h;subst I;rcases List.mem_cons.1 A with rfl|A
    ·obtain⟨P,R⟩:=G x (List.mem_cons_self ..);obtain⟨J,S,L,T⟩:=Qt C;refine⟨by show x.dest.toNat<n;omega,qaO J (by show[Qc x.cls].length<=8;simp) L fun k N=>?_⟩;rw[List.mem_singleton.1 N];unfold qaw at D;rw[Bool.and_eq_true]at D;exact beq_iff_eq.1 D.1
    ·exact qaZ C E H p A
   ·cases h
  ·exact qaZ C E h p A
theorem QaR{cs:List qa}{B:Nat}{a b:Frm}(A:qbi cs a b):∀{G:List QT} {D:List (Nat×Frm)},ZK cs B b G=some D->∃E,ZK cs B a G=some E/\∀p∈E,∃q∈D,p.1=q.1/\qbi cs p.2 q.2
 |[],D,_=>⟨[],rfl,fun p C=>by cases C⟩
 |x::r,D,h=>by
  unfold ZK at h ⊢;split at h
  ·rename_i F;rw[if_pos F];split at h
   ·rename_i O;rw[if_pos O];obtain⟨P,H,I⟩:=qaf h;subst I;obtain⟨E,e,J⟩:=QaR A H;refine⟨_,by rw[e];rfl,fun p C=>?_⟩;rcases List.mem_cons.1 C with rfl|C
    ·exact⟨_,List.mem_cons_self ..,rfl,A.1,LeL.refl cs _⟩
    ·obtain⟨q,L,M,N⟩:=J p C;exact⟨q,List.mem_cons_of_mem _ L,M,N⟩
   ·cases h
  ·rename_i F;rw[if_neg F];exact QaR A h
theorem qdn{A:List Ins}(D:ZdK A){x:Ins}{C:Nat}(E:A[C]? = some x):∀i∈QS x C,i<A.length:=by
 intro i B;unfold QS at B;rcases List.mem_append.1 B with B|B
 ·split at B
  ·cases B
  ·rename_i G;rw[List.mem_singleton.1 B];exact D.last C x E (by simpa using G)
 ·split at B
  ·rename_i F;rw[Bool.and_eq_true]at F;rw[List.mem_singleton.1 B];have:=D.jumps x (Xe E) F.1;omega
  ·cases B
theorem Qdn{cs:List qa}{a b:Frm}(A:qF cs a=0)(B:qF cs b=0)(h:qbi cs a b):LeF cs a.locals b.locals/\LeF cs a.stack b.stack:=by
 obtain⟨C,D,E,F⟩:=Qt A;obtain⟨I,J,G,H⟩:=Qt B;exact⟨⟨h.1,E,G,C⟩,⟨h.2,F,H,D⟩⟩
theorem Qcq{cs:List qa}{L S C D:List Str}(A:LeF cs L C)(B:LeF cs S D):qF cs ⟨L,S⟩=0/\qF cs ⟨C,D⟩=0/\qbi cs ⟨L,S⟩ ⟨C,D⟩ :=
 ⟨qaO A.sm B.sm A.ka B.ka,qaO (by rw[<-A.le.len];exact A.sm) (by rw[<-B.le.len];exact B.sm) A.kb B.kb,A.le,B.le⟩
theorem Qbm(J:zh l){A:List Ins}(H:ZdK A){cls Zb:Str}{B:Nat}{a b:Frm}(L:qF (Za l) a=0)(M:qF (Za l) b=0)(D:qbi (Za l) a b){I:List (Nat×Frm)}(h:qab (Za l) cls Zb A B b=some I):
 ∃G,qab (Za l) cls Zb A B a=some G/\(∀p∈G,∃q∈I,p.1=q.1/\qbi (Za l) p.2 q.2)/\∀p∈G,p.1<A.length/\qF (Za l) p.2=0:=by
 unfold qab at h ⊢;cases C:A[B]? with
 |none=>rw[C]at h;cases h
 |some x =>
  rw[C]at h;dsimp only at h ⊢;obtain⟨⟨X,Y⟩,N,O⟩:=qaf h;subst O;obtain⟨P,R⟩:=Qdn L M D;obtain⟨Z,c,e,S,T⟩:=zcr J (H.ins x (Xe C)) P R N;obtain⟨U,_,V⟩:=Qcq S T;refine⟨_,by rw[e];rfl,fun p F=>?_,fun p F=>?_⟩
  ·obtain⟨i,E,rfl⟩:=List.mem_map.1 F;exact⟨_,List.mem_map.2 ⟨i,E,rfl⟩,rfl,V⟩
  ·obtain⟨i,E,rfl⟩:=List.mem_map.1 F;exact⟨qdn H C i E,U⟩
theorem ZbF(D:zh l)(O:∀c∈l,qf c=0){cls Zb:Str}{m:zg}(S:zC m.code=0)(Y:zw m.handlers m.code.length=0){start:Frm}(n:qF (Za l) start=0):(qT (Za l) cls Zb m start).Good where
 pos:=(zau S).pos
 sok:=n
 refl:=fun a _=>⟨LeL.refl _ _,LeL.refl _ _⟩
 trans:=fun a b c A _ _ B C=>by
  obtain⟨_,_,o,r⟩:=Qt A;exact⟨LeL.trans D.tree o B.1 C.1,LeL.trans D.tree r B.2 C.2⟩
 anti:=fun a b A H B C=>by
  obtain⟨_,_,F,G⟩:=Qt A;obtain⟨_,_,L,M⟩:=Qt H;have I:=LeL.anti D.tree F L B.1 C.1;have J:=LeL.anti D.tree G M B.2 C.2;cases a;cases b;dsimp only at I J;rw[I,J]
 up:=fun a b A H N=>by
  obtain⟨f,g,F,G⟩:=Qt A;obtain⟨_,_,L,M⟩:=Qt H;have N:Zas a b=true:=N;unfold Zas at N;rw[Bool.and_eq_true]at N;have Z:=Xm N.1;have d:=Xm N.2;obtain⟨u1,u2,u3⟩:=Zcq D O Z F L;obtain⟨s,v,y⟩:=Zcq D O d G M;exact⟨qaO (by show(zaq (Za l) a.locals b.locals).length<=8;rw[zaL Z];exact f) (by show(zaq (Za l) a.stack b.stack).length<=8;rw[zaL d];exact g) u1 s,⟨u2,v⟩,⟨u3,y⟩⟩
 lub:=fun a b z A H _ B C=>by
  obtain⟨_,_,F,G⟩:=Qt A;obtain⟨_,_,L,M⟩:=Qt H;refine⟨?_,Qb1 D F L B.1 C.1,Qb1 D G M B.2 C.2⟩;show Zas a b=true
  unfold Zas;rw[B.1.len,B.2.len,C.1.len,C.2.len];simp
 mono:=fun i a b lb _ A H P h=>by
  have h:zaC (Za l) cls Zb m i b=some lb:=h;unfold zaC at h;obtain⟨tb,B,C⟩:=Zu h;obtain⟨sb,R,T⟩:=qaf C;subst T;obtain⟨ta,I,t1⟩:=QaR P B;obtain⟨j,J,t2,_⟩:=Qbm D (zau S) A H P R;refine⟨ta++j,by show zaC (Za l) cls Zb m i a=_;unfold zaC;rw[I,Option.bind_some,J];rfl,fun p E=>?_⟩;rcases List.mem_append.1 E with E|E
  ·obtain⟨q,U,V⟩:=t1 p E;exact⟨q,List.mem_append_left _ U,V⟩
  ·obtain⟨q,U,V⟩:=t2 p E;exact⟨q,List.mem_append_right _ U,V⟩
 out:=fun i a t _ A h p E=>by
  have h:zaC (Za l) cls Zb m i a=some t:=h;unfold zaC at h;obtain⟨tb,B,C⟩:=Zu h;obtain⟨sb,R,T⟩:=qaf C;subst T;rcases List.mem_append.1 E with E|E
  ·exact qaZ A (fun x k=>⟨((ZaZ Y).2 x k).2.2.1,((ZaZ Y).2 x k).2.2.2.1⟩) B p E
  ·obtain⟨j,e,_,t3⟩:=Qbm D (zau S) A A ⟨LeL.refl _ _,LeL.refl _ _⟩ R;rw[R]at e;injection e with e;subst e
   exact t3 p E
 fall:=fun a b A H h X=>by
  obtain⟨_,_,F,G⟩:=Qt A;obtain⟨_,_,L,M⟩:=Qt H;obtain⟨i1,i2⟩:=zb1 D h.1 F L;obtain⟨j1,j2⟩:=zb1 D h.2 G M;show zF (Za l) b.locals+zF (Za l) b.stack<zF (Za l) a.locals+zF (Za l) a.stack
  by_cases I:a.locals=b.locals
  ·have:=j2 fun J=>X (by cases a;cases b;dsimp only at I J;rw[I,J])
   omega
  ·have:=i2 I;omega
 cap:=fun a A=>by
  obtain⟨f,g,F,G⟩:=Qt A;have B:=zcq D F;have C:=zcq D G;show zF (Za l) a.locals+zF (Za l) a.stack<=1600
  omega
end
def zac(i:Nat):Value:=.int .i64 (i:Int)
theorem ZeI:(Tryz.prog.info? 3).map (fun i=>(i.zero,i.size,i.bytes))=some (some (.int .i64 0),1,8):=by kernel_rfl
def Que(w:World)(base:Nat)(v:Value)(xs:List Nat):Prop:=(v=.slice none 0 0/\xs=[]) \/
 ∃b off cap cur,v=.slice (some ⟨b,off,none⟩) xs.length cap/\base<=b/\w.heap[b]? = some (.cells cur 3 (0,0))/\xs.length<=cap/\cap<=maxLen/\off+cap<=cur.size/\(∀u∈cur.toList,∃k,u=.int .i64 k)/\∀j x,xs[j]? = some x->cur[off+j]? = some (zac x)
theorem Que.empty(w:World)(base:Nat):Que w base (.slice none 0 0) []:=Or.inl ⟨rfl,rfl⟩
theorem Que.lt{w:World}{base:Nat}{v:Value}{xs:List Nat}(h:Que w base v xs):∀g,v.ownBlock=some g->base<=g/\g<w.heap.size:=by
 intro g A;rcases h with⟨rfl,_⟩|⟨b,B,cap,C,rfl,D,E,_⟩
 ·cases A
 ·injection A with A
  subst A;exact⟨D,(Array.getElem?_eq_some_iff.1 E).1⟩
theorem Que.keep{w w':World}{base:Nat}{v:Value}{xs:List Nat}(h:Que w base v xs)(C:∀g,v.ownBlock=some g->w'.heap[g]? = w.heap[g]?):Que w' base v xs:=by
 rcases h with h|⟨b,A,cap,B,rfl,D,E,F⟩
 ·exact Or.inl h
 ·exact Or.inr ⟨b,A,cap,B,rfl,D,(C b rfl).trans E,F⟩
theorem Qeh{n:Nat}{u:Value}(h:u∈(Builtin.zeroCells (Value.int .i64 0).cells n).toList):∃k,u=.int .i64 k:=by
 unfold Builtin.zeroCells at h;simp only[Array.toList_map,List.mem_map]at h;obtain⟨i,_,rfl⟩:=h;rw[show i % (Value.int .i64 0).cells.size=0 from Nat.mod_one i];exact⟨0,rfl⟩
theorem Que.made(w:World){base cap:Nat}{xs:List Nat}(C:base<=w.heap.size)(D:xs.length<=cap)(E:cap<=maxLen):Que (w.alloc (.cells ((xs.map zac).toArray++Builtin.zeroCells (Value.int .i64 0).cells (cap-xs.length)) 3)) base (.slice (some ⟨w.heap.size,0,none⟩) xs.length cap) xs:=by
 refine Or.inr ⟨w.heap.size,0,cap,_,rfl,C,heap_alloc_new _ _,D,E,?_,fun u A=>?_,fun j x B=>?_⟩
 ·rw[Array.size_append,size_zeroCells,List.size_toArray,List.length_map];show 0+cap<=xs.length+(cap-xs.length)*1
  omega
 ·rw[Array.toList_append,List.mem_append]at A;rcases A with A|A
  ·obtain⟨x,_,rfl⟩:=List.mem_map.1 A;exact⟨_,rfl⟩
  ·exact Qeh A
 ·have F:=(List.getElem?_eq_some_iff.1 B).1;rw[Nat.zero_add,Array.getElem?_append_left (by simpa using F)];simp[B]
def qU(w w':World):Prop:=∀a s,w.cell? a=some (.string s)->w'.cell? a=some (.string s)
theorem ZT{w:World}{a:Addr}{v:Value}(h:w.cell? a=some v):a.block<w.heap.size:=by
 unfold World.cell? at h;cases A:w.heap[a.block]? with
 |none=>simp[A]at h
 |some B=>exact(Array.getElem?_eq_some_iff.1 A).1
theorem qU.trans{a b c:World}(h:qU a b)(k:qU b c):qU a c:=fun x s e=>k x s (h x s e)
theorem qU.below{w w':World}(h:Below w.heap.size w w'):qU w w':=fun _ _ e=>(h.cell (ZT e)).trans e
theorem qU.blocks{w w':World}(g:Nat)(B:∀k,k<w.heap.size->k≠g->w'.heap[k]? = w.heap[k]?)(C:∀a s,a.block=g->w.cell? a≠some (.string s)):qU w w':=fun a s e=>by
 by_cases A:a.block=g
 ·exact absurd e (C a s A)
 ·exact(World.cell?_of_block (B a.block (ZT e) A)).trans e
theorem Que.keepS{w w':World}{base:Nat}{v:Value}{xs:List Nat}(h:Que w base v xs)(C:w.grownBy w' v.ownBlock):qU w w':=by
 rcases h with⟨rfl,_⟩|⟨b,E,cap,F,rfl,_,G,_,_,_,H,_⟩
 ·exact fun a s e=>(World.cell?_of_block (C.block a.block (ZT e) (by simp[Value.ownBlock]))).trans e
 ·refine qU.blocks b (fun k A B=>C.block k A fun e=>B (Option.some.inj e)) fun a s D e=>?_
  unfold World.cell? at e;rw[D,G]at e;dsimp only at e;split at e
  ·cases e
  ·obtain⟨k,A⟩:=H _ (Array.mem_toList_iff.2 (Array.mem_of_getElem? e));cases A
theorem qU.strs{w w':World}(h:qU w w'){v:Value}{l:List Str}(A:Zo w v l):Zo w' v l:=by
 rcases A with A|⟨a,cap,G,H,I,J⟩
 ·exact Or.inl A
 ·refine Or.inr ⟨a,cap,G,H,I,fun i x F=>?_⟩;obtain⟨vs,C,L,D,E⟩:=J i x F;have B:vs=[.string x]:=C;subst B;exact⟨_,rfl,rfl,D,h _ _ E.1,trivial⟩
theorem Que.head{w:World}{base:Nat}{v:Value}{x:Nat}{xs:List Nat}(h:Que w base v (x::xs)):∃b A cap,v=.slice (some ⟨b,A,none⟩) (xs.length+1) (cap+1)/\w.cell? ⟨b,A,none⟩=some (zac x)/\xs.length<=cap/\cap+1<=maxLen /\
 Que w base (.slice (if cap=0 then some ⟨b,A,none⟩ else some ⟨b,A+1,none⟩) xs.length cap) xs:=by
 rcases h with⟨_,h⟩|⟨b,A,cap,B,rfl,E,C,J,L,M,F,G⟩
 ·cases h
 ·rw[List.length_cons]at J;obtain⟨c,rfl⟩:∃c,cap=c+1:=⟨cap-1,by omega⟩;refine⟨b,A,c,rfl,?_,by omega,L,?_⟩
  ·have:=G 0 x rfl;rw[cell_of_row w b A B 3 (0,0) C];simpa using this
  ·by_cases D:c=0
   ·subst D;have:xs=[]:=List.eq_nil_of_length_eq_zero (by omega);subst this;exact Or.inr ⟨b,A,0,B,rfl,E,C,Xl,Nat.zero_le _,by omega,F,fun j x H=>by simp at H⟩
   ·rw[if_neg D];refine Or.inr ⟨b,A+1,c,B,rfl,E,C,by omega,by omega,by omega,F,fun j y I=>?_⟩;have:=G (j+1) y (by simpa using I);rw[<-this];congr 1;omega
theorem Zcr{w:World}(ty:TypeId){base:Nat}{v:Value}{xs:List Nat}(h:Que w base v xs)(D:base<=w.heap.size)(x:Nat)(R:Addr)(c:Nat)(t:w.cell? (R.add 0)=some (zac x))(T:xs.length+1<=maxLen)(E:(xs.length+1)*8<=140737488355328):
 ∃q w',(Builtin.append_ #[129,129] ty #[v,.slice (some R) 1 c]).run Tryz.prog w=.ok q w'/\Que w' base q (xs++[x])/\w.grownBy w' v.ownBlock/\∀g,q.ownBlock=some g->v.ownBlock=some g\/w.heap.size<=g:=by
 obtain⟨a,o,V,H,X⟩:=info_parts ZeI;have i:∀j u,[zac x][j]? = some u->w.cell? (R.add j)=some u:=fun j u B=>by
  cases j with
  |zero=>simp at B;subst B;exact t
  |succ j=>simp at B
 have z:∀u∈[zac x],u.oneCell'=true:=fun u B=>by rw[List.mem_singleton.1 B];rfl
 have F:(xs++[x]).length=xs.length+1:=by simp
 rcases h with⟨rfl,rfl⟩|⟨b,A,cap,C,rfl,hb,f,hlc,r,Z,O,J⟩
 ·have S:=run_append_nil (P:=Tryz.prog) (w:=w) 129 ty 3 a (.int .i64 0) Tryz.underlying129 o V R 1 c [zac x] (by rw[H];rfl) i (by decide) (by decide) (by rw[X];decide);exact⟨_,_,S,Que.made w.drew (xs:=[x]) D (grownCap_ge w 1 0 3) (grownCap_le_maxLen w 1 0 3 (by decide)),⟨rfl,rfl,rfl,by simp,fun k d _=>heap_alloc_old w.drew _ d⟩,fun g Y=>Or.inr (Nat.le_of_eq (Option.some.inj Y))⟩
 ·by_cases L:xs.length+1<=cap
  ·have I:A+xs.length<C.size:=(by omega);have M:w.cell? ⟨b,A+xs.length,none⟩=some C[A+xs.length]:=by
    rw[cell_of_row w b (A+xs.length) C 3 (0,0) f,Array.getElem?_eq_getElem I]
   have l:w.frozen? ⟨b,A+xs.length,none⟩=false:=(by simp[World.frozen?,f]);have G:a.size=1:=H;have S:=run_append_room_cells (P:=Tryz.prog) w 129 ty 3 a Tryz.underlying129 o b A xs.length cap R 1 c [zac x] (by rw[G];rfl) i z L
    (fun j U=>by
     rw[G];have:j=0:=by simpa using U
     subst this;rw[Nat.mul_one,Nat.add_zero,M];rfl)
    (fun j U=>by
     rw[G];have:j=0:=by simpa using U
     subst this;rw[Nat.mul_one,Nat.add_zero];exact l)
   rw[G,Nat.mul_one]at S;refine⟨_,_,S,Or.inr ⟨b,A,cap,C.setIfInBounds (A+xs.length) (zac x),by rw[F],hb,heap_setCell_same w b (A+xs.length) C 3 (zac x) f,by omega,r,by simpa using Z,fun u B=>?_,fun j y N=>?_⟩,⟨rfl,rfl,rfl,by simp[World.setCells],fun k d p=>?_⟩,fun g Y=>Or.inl Y⟩
   ·rw[Array.toList_setIfInBounds]at B;rcases List.mem_or_eq_of_mem_set B with B|rfl
    ·exact O u B
    ·exact⟨_,rfl⟩
   ·by_cases U:j<xs.length
    ·rw[List.getElem?_append_left U]at N;rw[Array.getElem?_setIfInBounds_ne (by omega)];exact J j y N
    ·have m:j=xs.length:=by
      have:=(List.getElem?_eq_some_iff.1 N).1;rw[F]at this;omega
     subst m;rw[List.getElem?_append_right Xl,Nat.sub_self]at N;have N:x=y:=Option.some.inj N;rw[<-N,Array.getElem?_setIfInBounds_self_of_lt I]
   ·exact Xk _ _ _ _ (fun e=>p (by rw[e];rfl))
  ·have S:=run_append_grow (P:=Tryz.prog) (w:=w) 129 ty 3 a (.int .i64 0) Tryz.underlying129 o V ⟨b,A,none⟩ xs.length cap (xs.map zac) (by rw[H];simp)
    (fun j u B=>by
     rw[List.getElem?_map]at B;cases n:xs[j]? with
     |none=>rw[n]at B;cases B
     |some y =>
      rw[n]at B;have B:zac y=u:=Option.some.inj B;rw[<-B,zch rfl,cell_of_row w b (A+j) C 3 (0,0) f];exact J j y n) R 1 c [zac x] (by rw[H];rfl) i (by omega) (by unfold maxLen at T;omega) (growslice_fits (by omega) (by rw[X];exact E))
   have s:=Que.made w.drew (xs:=xs++[x]) (base:=base) (cap:=grownCap w (xs.length+1) cap 3) D (by rw[F];exact grownCap_ge w _ _ _) (grownCap_le_maxLen w _ _ _ T);rw[F,List.map_append,<-List.append_toArray]at s;exact⟨_,_,S,s,⟨rfl,rfl,rfl,by simp,fun k d _=>heap_alloc_old w.drew _ d⟩,fun g Y=>Or.inr (Nat.le_of_eq (Option.some.inj Y))⟩
theorem QL{w:World}{E:Array Oper}{B:List Oper}{o:Oper}{a:Act}{Q:Exit->Act->World->Prop}(F:o.guard=none)(s x:Operand)(I:o.op=.call { callee:=.builtin .append,args:=#[s,x],argTypes:=#[129,129] })(base:Nat)(v:Value)(xs:List Nat)(J:a.eval s=v)(h:Que w base v xs)(C:base<=w.heap.size)(y:Nat)(G:Addr)(c:Nat)(L:a.eval x=.slice (some G) 1 c)(M:w.cell? (G.add 0)=some (zac y))(H:xs.length+1<=maxLen)(A:(xs.length+1)*8<=140737488355328)(N:∀D w',Que w' base D (xs++[y])->w.grownBy w' v.ownBlock->(∀g,D.ownBlock=some g->v.ownBlock=some g\/w.heap.size<=g)->wpList Tryz.prog E Q B (a.put o.dst D) w'):wpList Tryz.prog E Q (o::B) a w:=by
 obtain⟨D,w',O,P,R,S⟩:=Zcr o.type h C y G c M H A;exact Lib.wpList_append_run w F s x 129 129 I v _ J L D w' O (N D w' P R S)
open Go.RowKit Go.Shelf Go.Lib Go.ChangeMaps
theorem Qc7:Tryz.prog.underlying 3=some (.int .i64):=by kernel_rfl
theorem ZbQ:Tryz.prog.underlying 93=some (.map 3 133):=by kernel_rfl
def qfm:Value:=.agg #[.slice none 0 0,.slice none 0 0]
theorem zei(w:World):(zeroValue 133).run Tryz.prog w=.ok qfm w:=by kernel_rfl
theorem zc8{i:Nat}(A:i<=64):keyOf Tryz.prog 3 (zac i)=some (.int .i64 (i:Int)):=by
 refine Go.Maps.keyOf_int_mk Qc7 ?_;unfold Lit.wf;simp;exact⟨by
  have:IntKind.i64.min<=0:=by decide
  omega,by
   have:(64:Int)<=IntKind.i64.max:=(by decide);omega⟩
theorem qcr{i k:Nat}(h:zac i=zac k):i=k:=by
 unfold zac at h;injection h with _ h
 omega
structure Zbj (R:Value->Value->Frm->Prop) (w:World) (mb:Nat) (F:Asg Frm):Prop where
 ex:∃es clock,w.heap[mb]? = some (.map es clock)/\(es.toList.map (·.key)).Nodup/\(∀e∈es.toList,∃i f lv sv,i<=64/\e.key=zac i/\e.val=.agg #[lv,sv]/\F i=some f/\R lv sv f)/\(∀i f,F i=some f->∃e∈es.toList,e.key=zac i)/\(es.toList.map (·.born)).Nodup/\∀e∈es.toList,e.born<clock
theorem Zbj.lt{R:Value->Value->Frm->Prop}{w:World}{B:Nat}{F:Asg Frm}(h:Zbj R w B F):B<w.heap.size:=by
 obtain⟨D,A,C,_⟩:=h.ex;exact(Array.getElem?_eq_some_iff.1 C).1
theorem Zbj.keep{R E:Value->Value->Frm->Prop}{w w':World}{B:Nat}{F:Asg Frm}(h:Zbj R w B F)(G:w'.heap[B]? = w.heap[B]?)(H:∀C D f,R C D f->E C D f):Zbj E w' B F:=by
 obtain⟨I,A,J,L,M,N⟩:=h.ex;exact⟨I,A,G.trans J,L,(fun e V=>by
  obtain⟨i,f,C,D,O,P,S,T,U⟩:=M e V;exact⟨i,f,C,D,O,P,S,T,H _ _ _ U⟩),N⟩
theorem Zbj.made(R:Value->Value->Frm->Prop)(w:World):Zbj R (w.alloc (.map #[] 0)) w.heap.size (fun _=>none) :=
 ⟨#[],0,heap_alloc_new _ _,by simp,fun e A=>by simp at A,(fun i f h=>by cases h),by simp,fun e A=>by simp at A⟩
theorem Zbj.keys{A:Array MapEntry}{R:Value->Value->Frm->Prop}{F:Asg Frm}(D:∀e∈A.toList,∃i f B C,i<=64/\e.key=zac i/\e.val=.agg #[B,C]/\F i=some f/\R B C f):∀e∈A.toList,∃l,keyOf Tryz.prog 3 e.key=some l:=fun e H=>by
 obtain⟨i,_,_,_,E,G,_⟩:=D e H;exact⟨_,by rw[G];exact zc8 E⟩
theorem Qcr{l:List MapEntry}(h:(l.map (·.key)).Nodup){n j:Nat}(C:n<l.length)(D:j<l.length)(B:n≠j):l[n].key≠l[j].key:=by
 have h:=List.pairwise_map.1 h;rw[List.pairwise_iff_getElem]at h;rcases Nat.lt_or_gt_of_ne B with A|A
 ·exact h n j C D A
 ·exact fun e=>h j n D C A e.symm
theorem ze2{l:List MapEntry}(h:(l.map (·.key)).Nodup){a b:MapEntry}(B:a∈l)(C:b∈l)(e:a.key=b.key):a=b:=by
 obtain⟨i,D,rfl⟩:=List.getElem_of_mem B;obtain⟨k,E,rfl⟩:=List.getElem_of_mem C;by_cases A:i=k
 ·subst A;rfl
 ·exact absurd e (Qcr h D E A)
theorem zdo{α:Type}{l:List α}{j:Nat}{x:α}(h:l[j]? = some x):l.set j x=l:=by
 refine List.ext_getElem? fun n=>?_
 rw[List.getElem?_set];split
 ·rename_i e;subst e;rw[h,if_pos (List.getElem?_eq_some_iff.1 h).1]
 ·rfl
theorem Zbj.look{R:Value->Value->Frm->Prop}{w:World}{J:Nat}{F:Asg Frm}(h:Zbj R w J F){i:Nat}(g:i<=64):
 ∃C D,(match F i with|none=>C=.slice none 0 0/\D=.slice none 0 0|some f=>R C D f) /\
  ∀(wx:World) (ok:Bool),wx.heap[J]? = w.heap[J]?->(Instr.lookup 93 (.map (some J)) (zac i) ok).run Tryz.prog wx=.ok (if ok then .tuple #[.agg #[C,D],.bool (F i).isSome] else .agg #[C,D]) wx:=by
 obtain⟨b,T,c,l,U,m,_⟩:=h.ex;have K:=Go.Maps.int_keyed (P:=Tryz.prog) Qc7;have A:=zc8 g;have H:=Zbj.keys U;cases S:F i with
 |none =>
  refine⟨.slice none 0 0,.slice none 0 0,⟨rfl,rfl⟩,fun wx ok X=>?_⟩;have B:=X.trans c;rcases K.find wx A b.toList H with⟨L,_⟩|⟨j,Y,_,I,Z⟩
  ·have a:=zei wx;unfold qfm at a;cases ok<;>simp[Instr.lookup,run_underlying ZbQ,MapKept.run_getObj_map B,K.check wx _ A,L,a,Result.andThen]
  ·obtain⟨k,f,C,D,_,n,_,d,_⟩:=U Y (Xe I);have:k=i:=qcr (n.symm.trans Z);subst this;rw[S]at d;cases d
 |some f =>
  obtain⟨V,E,G⟩:=m i f S;obtain⟨o,p,C,D,_,q,r,e,s⟩:=U V E;have M:o=i:=qcr (q.symm.trans G);subst M;rw[S]at e;have N:f=p:=Option.some.inj e;subst N;refine⟨C,D,s,fun wx ok X=>?_⟩;have B:=X.trans c;rcases K.find wx A b.toList H with⟨_,I⟩|⟨j,Y,L,I,Z⟩
  ·exact absurd G (I V E)
  ·have O:Y=V:=ze2 l (Xe I) E (Z.trans G.symm);subst O;rw[r]at L;cases ok<;>simp[Instr.lookup,run_underlying ZbQ,MapKept.run_getObj_map B,K.check wx _ A,L,Result.andThen]
theorem Zbj.put{R:Value->Value->Frm->Prop}{w:World}{V:Nat}{F:Asg Frm}(h:Zbj R w V F){i:Nat}(g:i<=64)(f:Frm)(J L:Value)(hR:R J L f):
 ∃o,(Instr.mapUpdate 93 (.map (some V)) (zac i) (.agg #[J,L])).run Tryz.prog w=.ok () (setBlock w V o)/\Zbj R (setBlock w V o) V (F.put i f):=by
 obtain⟨G,D,U,q,r,h4,h5,c⟩:=h.ex;have K:=Go.Maps.int_keyed (P:=Tryz.prog) Qc7;have E:=zc8 g;have l:=Zbj.keys r;rcases K.find w E G.toList l with⟨g1,I⟩|⟨j,T,g1,I,d⟩
 ·refine⟨.map (G.push ⟨zac i,.agg #[J,L],D⟩) (D+1),?_,_,_,heap_setBlock_same U _,?_,?_,?_,?_,?_⟩
  ·simp[Instr.mapUpdate,run_underlying ZbQ,MapKept.run_getObj_map U,K.check w false E,g1,MapKept.run_setObj_map _ U,Result.andThen,setBlock]
  ·rw[Array.toList_push,List.map_append,List.nodup_append];refine⟨q,by simp,fun x hx y b=>?_⟩;rw[List.map_singleton,List.mem_singleton]at b;subst b;obtain⟨e,A,rfl⟩:=List.mem_map.1 hx;exact I e A
  ·intro e A;rw[Array.toList_push]at A;rcases List.mem_append.1 A with A|A
   ·obtain⟨k,S,s,t,v,Z,z,a4,a5⟩:=r e A;have O:k≠i:=fun M=>I e A (by rw[Z,M])
    exact⟨k,S,s,t,v,Z,z,by rw[Asg.put_other F f O];exact a4,a5⟩
   ·rw[List.mem_singleton.1 A];exact⟨i,f,J,L,g,rfl,rfl,Asg.put_self F i f,hR⟩
  ·intro k S a;rw[Array.toList_push];by_cases C:k=i
   ·exact⟨_,List.mem_append_right _ (List.mem_singleton.2 rfl),by rw[C]⟩
   ·rw[Asg.put_other F f C]at a;obtain⟨e,A,H⟩:=h4 k S a;exact⟨e,List.mem_append_left _ A,H⟩
  ·rw[Array.toList_push,List.map_append,List.nodup_append];refine⟨h5,by simp,fun x hx y b=>?_⟩;rw[List.map_singleton,List.mem_singleton]at b;subst b;obtain⟨e,A,rfl⟩:=List.mem_map.1 hx;exact Nat.ne_of_lt (c e A)
  ·intro e A;rw[Array.toList_push]at A;rcases List.mem_append.1 A with A|A
   ·exact Nat.lt_succ_of_lt (c e A)
   ·rw[List.mem_singleton.1 A];exact Nat.lt_succ_self _
 ·have hj:G[j]? = some T:=by simpa using I
  have X:j<G.toList.length:=(List.getElem?_eq_some_iff.1 I).1;have B:(G.modify j (fun M=>{ M with key:=zac i,val:=.agg #[J,L] })).toList=G.toList.set j { T with key:=zac i,val:=.agg #[J,L] }:=by rw[Array.toList_modify,Go.ChangeMaps.modify_eq_set _ _ _ _ I]
  refine⟨.map (G.modify j (fun M=>{ M with key:=zac i,val:=.agg #[J,L] })) D,?_,_,_,heap_setBlock_same U _,?_,?_,?_,?_,?_⟩
  ·simp[Instr.mapUpdate,run_underlying ZbQ,MapKept.run_getObj_map U,K.check w false E,g1,hj,d,K.stays w E,MapKept.run_setObj_map _ U,Result.andThen,setBlock]
  ·rw[B,List.map_set];have:(G.toList.map (·.key)).set j (zac i)=G.toList.map (·.key):=by
    refine zdo ?_;rw[List.getElem?_map,I];show some T.key=_
    rw[d]
   rw[this];exact q
  ·intro e A;rw[B]at A;obtain⟨n,hn,N⟩:=List.getElem_of_mem A;rw[List.getElem_set]at N;split at N
   ·subst N;exact⟨i,f,J,L,g,rfl,rfl,Asg.put_self F i f,hR⟩
   ·rename_i O;have Y:n<G.toList.length:=(by simpa using hn);have m:e∈G.toList:=N▸List.getElem_mem Y;obtain⟨k,S,s,t,v,Z,z,a4,a5⟩:=r e m;have C:k≠i:=fun M=>by
     refine Qcr q Y X (Ne.symm O) ?_;rw[N,Z,M,(List.getElem?_eq_some_iff.1 I).2,d]
    exact⟨k,S,s,t,v,Z,z,by rw[Asg.put_other F f C];exact a4,a5⟩
  ·intro k S a;rw[B];by_cases C:k=i
   ·exact⟨{ T with key:=zac i,val:=.agg #[J,L] },List.mem_iff_getElem.2 ⟨j,by simpa using X,by simp⟩,by rw[C]⟩
   ·rw[Asg.put_other F f C]at a;obtain⟨e,A,H⟩:=h4 k S a;obtain⟨n,hn,N⟩:=List.getElem_of_mem A;have p:j≠n:=fun M=>by
     subst M;have:e=T:=(by rw[<-N];exact(List.getElem?_eq_some_iff.1 I).2);rw[this,d]at H;exact C (qcr H).symm
    exact⟨e,List.mem_iff_getElem.2 ⟨n,by simpa using hn,by rw[List.getElem_set_ne p,N]⟩,H⟩
  ·rw[B,List.map_set];have:(G.toList.map (·.born)).set j T.born=G.toList.map (·.born):=zdo (by rw[List.getElem?_map,I];rfl);rw[this];exact h5
  ·intro e A;rw[B]at A;rcases List.mem_or_eq_of_mem_set A with A|rfl
   ·exact c e A
   ·exact c T (Xe I)
end Go.Proofs.YtmclocdhcblbiaaGreatDoor
