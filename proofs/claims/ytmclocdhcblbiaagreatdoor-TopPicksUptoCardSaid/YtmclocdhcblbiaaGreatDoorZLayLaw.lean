/- Lemmas; conditions: as each states. -/
import Derived.Test.YtmclocdhcblbiaaGreatDoorZLineLaw
import Derived.Sort.Walk0
set_option maxHeartbeats 4000000
namespace Go.Proofs.YtmclocdhcblbiaaGreatDoor
open Go.RowKit Go.Shelf Go.Lib
inductive Ty where
 |i:Ty
 |j:Ty
 |cl:Str->Ty
 |ar:Ty->Ty
 deriving DecidableEq
inductive Kd where
 |n:Kd
 |t:Kd
 |ty:Ty->Kd
 deriving DecidableEq
def qe:Ty->List UInt8
 |.i=>[73]
 |.j=>[74]
 |.cl c=>76::(lst c++[59])
 |.ar x=>91::qe x
def Qo:Kd->List UInt8
 |.n=>[78]
 |.t=>[84]
 |.ty x=>qe x
def ZP(cs:List qa):Ty->Bool
 |.i=>true
 |.j=>true
 |.cl c=>(Qb cs c).isSome
 |.ar x=>ZP cs x
def qS(cs:List qa):Kd->Bool
 |.ty x=>ZP cs x
 |_=>true
def Qm:Ty->Bool
 |.i=>false
 |.j=>false
 |_=>true
def zH:Ty->List UInt8
 |.cl c=>lst c
 |.ar x=>zH x
 |_=>[]
def ZB(cs:List qa):Ty->Ty->Bool
 |.i,.i=>true
 |.j,.j=>true
 |.cl c,.cl d=>zak (qi cs c) d
 |.ar _,.cl d=>decide (d=zh)
 |.ar a,.ar b=>ZB cs a b
 |_,_=>false
def ZS(cs:List qa):Kd->Kd->Bool
 |_,.t=>true
 |.n,.n=>true
 |.n,.ty y=>Qm y
 |.ty x,.ty y=>ZB cs x y
 |_,_=>false
def ZaO(m:List Str):List Str->Str
 |[]=>zh
 |c::r=>if zak m c then c else ZaO m r
def qbT(cs:List qa)(c d:Str):Str:=ZaO (zm cs d) (zm cs c)
def qaa(cs:List qa):Ty->Ty->Option Ty
 |.i,.i=>some .i
 |.j,.j=>some .j
 |.cl c,.cl d=>some (.cl (qbT cs c d))
 |.ar a,.ar b=>match qaa cs a b with
  |some x=>some (.ar x)
  |none=>some (.cl zh)
 |.ar _,.cl _=>some (.cl zh)
 |.cl _,.ar _=>some (.cl zh)
 |_,_=>none
def Q2(cs:List qa):Kd->Kd->Kd
 |.n,.n=>.n
 |.n,.ty y=>if Qm y then .ty y else .t
 |.ty x,.n=>if Qm x then .ty x else .t
 |.ty x,.ty y=>match qaa cs x y with
  |some z=>.ty z
  |none=>.t
 |_,_=>.t
def qbA(cs:List qa):Ty->Ty->Prop
 |.i,.i=>True
 |.j,.j=>True
 |.cl c,.cl d=>d∈zm cs c
 |.ar _,.cl d=>d=zh
 |.ar a,.ar b=>qbA cs a b
 |_,_=>False
def Qaz(cs:List qa):Kd->Kd->Prop
 |_,.t=>True
 |.n,.n=>True
 |.n,.ty y=>Qm y=true
 |.ty x,.ty y=>qbA cs x y
 |_,_=>False
theorem qby(x:Ty):qe x≠[]:=by cases x<;>simp[qe]
theorem Qbh:∀{x y:Ty},qe x=qe y->x=y
 |.i,.i,_=>rfl
 |.j,.j,_=>rfl
 |.cl c,.cl d,h=>by
  simp only[qe,List.cons.injEq,true_and,List.append_cancel_right_eq]at h;rw[ByteArray.ext (Array.toList_inj.1 h)]
 |.ar a,.ar b,h=>by
  simp only[qe,List.cons.injEq,true_and]at h;rw[Qbh h]
 |.i,.j,h=>by simp[qe]at h
 |.i,.cl _,h=>by simp[qe]at h
 |.i,.ar _,h=>by simp[qe]at h
 |.j,.i,h=>by simp[qe]at h
 |.j,.cl _,h=>by simp[qe]at h
 |.j,.ar _,h=>by simp[qe]at h
 |.cl _,.i,h=>by simp[qe]at h
 |.cl _,.j,h=>by simp[qe]at h
 |.cl _,.ar _,h=>by simp[qe]at h
 |.ar _,.i,h=>by simp[qe]at h
 |.ar _,.j,h=>by simp[qe]at h
 |.ar _,.cl _,h=>by simp[qe]at h
theorem Zbe{x y:Kd}(h:Qo x=Qo y):x=y:=by
 have A:∀z:Ty,qe z≠[78]/\qe z≠[84]:=fun z=>by cases z<;>simp[qe]
 cases x with
 |n=>cases y with
  |n=>rfl
  |t=>simp[Qo]at h
  |ty z=>exact absurd h.symm (A z).1
 |t=>cases y with
  |n=>simp[Qo]at h
  |t=>rfl
  |ty z=>exact absurd h.symm (A z).2
 |ty z=>cases y with
  |n=>exact absurd h (A z).1
  |t=>exact absurd h (A z).2
  |ty B=>rw[Qbh h]
theorem qcx:∀r:List UInt8,qr r+1=r.length->r=r.take (qr r)++[59]
 |[],h=>by simp[qr]at h
 |c::r,h=>by
  unfold qr at h ⊢;by_cases A:c=59
  ·subst A;simp only[if_true]at h ⊢;simp only[List.length_cons]at h;have:r=[]:=List.length_eq_zero_iff.1 (by omega);subst this;rfl
  ·simp only[if_neg A]at h ⊢;simp only[List.length_cons]at h;rw[List.take_succ_cons,List.cons_append,<-qcx r (by omega)]
def QaM:Ty->Bool
 |.cl c=>zD (lst c)
 |.ar x=>QaM x
 |_=>true
theorem za9:∀s:List UInt8,zp s=true->∃x:Ty,qe x=s/\qaJ s=zH x/\QaM x=true
 |[],h=>by cases h
 |c::r,h=>by
  unfold zp at h;rw[Bool.and_eq_true,beq_iff_eq]at h;obtain⟨_,h⟩:=h;by_cases F:c=91
  ·subst F;have A:Qv (91::r)=Qv r+1:=(by simp[Qv]);unfold zr at h;rw[A]at h;simp only[List.drop_succ_cons,List.length_cons]at h;split at h
   ·rename_i D;have J:zp r=true:=by
     unfold zp zr;rw[if_pos ⟨by omega,D.2⟩,Bool.and_eq_true,beq_iff_eq];refine⟨?_,by omega⟩;cases r with
     |nil=>simp[Qv,zJ]at D
     |cons _ _=>rfl
    obtain⟨x,M,I,C⟩:=za9 r J;refine⟨.ar x,by rw[qe,M],?_,C⟩;unfold qaJ at I ⊢;rw[A,List.drop_succ_cons];exact I
   ·omega
  ·have A:Qv (c::r)=0:=(by simp[Qv,F]);unfold zr at h;rw[A]at h;simp only[List.drop_zero,List.length_cons]at h;split at h
   ·rename_i D;unfold zJ at h;simp only at h;by_cases B:c=73\/c=74
    ·rw[if_pos B]at h;have:r=[]:=List.length_eq_zero_iff.1 (by omega);subst this;rcases B with rfl|rfl
     ·exact⟨.i,rfl,rfl,rfl⟩
     ·exact⟨.j,rfl,rfl,rfl⟩
    ·rw[if_neg B]at h;by_cases G:c=76
     ·subst G;rw[if_pos rfl]at h;split at h
      ·rename_i E;have L:=qcx r (by omega);have H:(r.take (qr r)).length=qr r:=(by rw[List.length_take];omega);refine⟨.cl (str (r.take (qr r))),?_,?_,E.2⟩
       ·show 76::(r.take (qr r)++[59])=_
        rw[<-L]
       ·unfold qaJ;rw[A];show r.take (r.length-1)=r.take (qr r)
        congr 1;omega
      ·omega
     ·rw[if_neg G]at h;omega
   ·omega
def Zg(cs:List qa)(k:Str):Nat :=
 if lst k=[78]\/lst k=[84] then 0
 else if !zp (lst k) then 1
 else if (qaJ (lst k)).isEmpty then 0
 else if (Qb cs (str (qaJ (lst k)))).isSome then 0 else 3
theorem ZcU{cs:List qa}:∀x:Ty,QaM x=true->(zH x=[]\/(Qb cs (str (zH x))).isSome=true)->ZP cs x=true
 |.i,_,_=>rfl
 |.j,_,_=>rfl
 |.cl c,h,g=>by
  rcases g with A|A
  ·exact absurd A (by unfold QaM at h;intro B;unfold zH at B;rw[B]at h;cases h)
  ·exact A
 |.ar x,h,g=>ZcU x h g
theorem Qb3{cs:List qa}:∀x:Ty,ZP cs x=true->zH x=[]\/(Qb cs (str (zH x))).isSome=true
 |.i,_=>Or.inl rfl
 |.j,_=>Or.inl rfl
 |.cl _,h=>Or.inr h
 |.ar x,h=>Qb3 x h
theorem QT{cs:List qa}{k:Str}(h:Zg cs k=0):∃x:Kd,Qo x=lst k/\qS cs x=true:=by
 unfold Zg at h;split at h
 ·rename_i A;rcases A with A|A
  ·exact⟨.n,A.symm,rfl⟩
  ·exact⟨.t,A.symm,rfl⟩
 ·split at h
  ·cases h
  ·rename_i E;obtain⟨x,B,C,D⟩:=za9 (lst k) (by simpa using E);refine⟨.ty x,B,ZcU x D ?_⟩;rw[C]at h;split at h
   ·rename_i F;exact Or.inl (List.isEmpty_iff.1 F)
   ·split at h
    ·rename_i G;exact Or.inr G
    ·cases h
structure QbR (cs:List qa):Prop where
 refl:∀c,c∈zm cs c
 trans:∀c d e,(Qb cs c).isSome=true->d∈zm cs c->e∈zm cs d->e∈zm cs c
 anti:∀c d,(Qb cs c).isSome=true->(Qb cs d).isSome=true->d∈zm cs c->c∈zm cs d->c=d
 known:∀c d,(Qb cs c).isSome=true->d∈zm cs c->(Qb cs d).isSome=true
 top:∀c,(Qb cs c).isSome=true->zh∈zm cs c
 root:∀d,d∈zm cs zh->d=zh
 lub1:∀c d,(Qb cs c).isSome=true->(Qb cs d).isSome=true->qbT cs c d∈zm cs c/\qbT cs c d∈zm cs d
 lub2:∀c d e,(Qb cs c).isSome=true->(Qb cs d).isSome=true->e∈zm cs c->e∈zm cs d->e∈zm cs (qbT cs c d)
theorem Qg.line_mem{l:List qa}(h:Qg l){x y:Str}(B:(Qb (Za l) x).isSome=true):y∈zm (Za l) x↔y=x\/((Qd (Za l) x).super.size≠0/\y∈zm (Za l) (Qd (Za l) x).super):=by
 by_cases A:(Qd (Za l) x).super.size=0
 ·rw[Qg.line_top A];simp[A]
 ·rw[h.line_up B A,List.mem_cons];simp[A]
theorem zad{cs:List qa}(x:Str):x∈zm cs x:=by unfold zm;rw[QbJ];simp
theorem Qg.line_ind{l:List qa}(h:Qg l)(P:Str->Prop)(D:∀x,(Qb (Za l) x).isSome=true->(Qd (Za l) x).super.size=0->P x)(E:∀x,(Qb (Za l) x).isSome=true->(Qd (Za l) x).super.size≠0->P (Qd (Za l) x).super->P x):∀x,(Qb (Za l) x).isSome=true->P x:=by
 have:∀(k:Nat) (x:Str),(Qb (Za l) x).isSome=true->(qi (Za l) x).length<=k->P x:=by
  intro k;induction k with
  |zero =>
   intro x A G;have:=List.length_pos_of_mem (Zo h.closed A).2.1;omega
  |succ k H =>
   intro x A G;by_cases B:(Qd (Za l) x).super.size=0
   ·exact D x A B
   ·obtain⟨C,F⟩:=h.up A B;exact E x A B (H _ C (by omega))
 exact fun x A=>this _ x A Xl
theorem qcU{m:List Str}:∀l:List Str,(∃x∈l,x∈m)->ZaO m l∈l/\ZaO m l∈m
 |[],⟨x,D,_⟩=>by cases D
 |c::r,⟨x,D,E⟩=>by
  unfold ZaO;cases C:zak m c with
  |true=>rw[if_pos rfl];exact⟨by simp,QF.1 C⟩
  |false =>
   rw[if_neg (by decide)];have A:x≠c:=(by rintro rfl;rw[QF.2 E]at C;cases C);have B:x∈r:=by
    rcases List.mem_cons.1 D with h|h
    ·exact absurd h A
    ·exact h
   obtain⟨F,G⟩:=qcU r ⟨x,B,E⟩;exact⟨by simp[F],G⟩
theorem Qg.tree{l:List qa}(h:Qg l):QbR (Za l):=by
 have D:∀c d,(Qb (Za l) c).isSome=true->d∈zm (Za l) c->(Qb (Za l) d).isSome=true:=fun c d B A =>
  (Zo h.closed B).1.known d ((h.line_facts _ c B Xl).1 d A)
 have E:∀c,(Qb (Za l) c).isSome=true->∀d e,d∈zm (Za l) c->e∈zm (Za l) d->e∈zm (Za l) c:=by
  refine h.line_ind _ (fun x B H d e A N=>?_) (fun x B H R d e A N=>?_)
  ·rw[Qg.line_top H]at A;simp at A;subst A;exact N
  ·rcases(h.line_mem B).1 A with rfl|⟨_,A⟩
   ·exact N
   ·exact(h.line_mem B).2 (Or.inr ⟨H,R d e A N⟩)
 have O:∀c d,(Qb (Za l) c).isSome=true->(Qb (Za l) d).isSome=true->d∈zm (Za l) c->c∈zm (Za l) d->c=d:=by
  intro c d G A C M;rcases(h.line_mem G).1 C with rfl|⟨H,C⟩
  ·rfl
  ·exfalso;obtain⟨L,X⟩:=h.up G H;have T:=E _ L d c C M;have U:=(h.line_facts _ _ L Xl).1 c T;have e:=Zo h.closed L;have g:=Zo h.closed G;have:=zaR (qi (Za l) c) (qi (Za l) (Qd (Za l) c).super) g.1.nodup (g.2.2.2 (fun x=>x∈qi (Za l) (Qd (Za l) c).super) e.2.2.1 U);omega
 have F:∀c,(Qb (Za l) c).isSome=true->zh∈zm (Za l) c:=fun c B=>by
  obtain⟨t,Y⟩:=(h.line_facts _ c B Xl).2;rw[Y];simp
 have I:∀d,d∈zm (Za l) zh->d=zh:=fun d A=>by
  rw[Qg.line_top (show(Qd (Za l) zh).super.size=0 from rfl)]at A;simpa using A
 have J:∀c d,(Qb (Za l) c).isSome=true->(Qb (Za l) d).isSome=true->qbT (Za l) c d∈zm (Za l) c/\qbT (Za l) c d∈zm (Za l) d:=fun c d G A =>
  qcU _ ⟨zh,F c G,F d A⟩
 have P:∀c,(Qb (Za l) c).isSome=true->∀d e,(Qb (Za l) d).isSome=true->e∈zm (Za l) c->e∈zm (Za l) d->e∈zm (Za l) (qbT (Za l) c d):=by
  refine h.line_ind _ (fun x B H d e A C M=>?_) (fun x B H R d e A C M=>?_)
  ·have V:x=zh:=h.top B H;subst V;rw[I e C];exact F _ (D d _ A (J _ d B A).2)
  ·unfold qbT;rw[h.line_up B H,ZaO];cases S:zak (zm (Za l) d) x with
   |true=>rw[if_pos rfl];exact C
   |false =>
    rw[if_neg (by decide)];rcases(h.line_mem B).1 C with rfl|⟨_,C⟩
    ·rw[QF.2 M]at S;cases S
    ·exact R d e A C M
 exact⟨zad,fun c d e G A N=>E c G d e A N,O,D,F,I,J,fun c d e G A C M=>P c G d e A C M⟩
theorem Qby(cs:List qa):∀x,qbA cs x x
 |.i=>trivial
 |.j=>trivial
 |.cl c=>zad c
 |.ar x=>Qby cs x
theorem Qcx{cs:List qa}:∀{x y:Ty},qbA cs x y->Qm x=Qm y
 |.i,.i,_=>rfl
 |.j,.j,_=>rfl
 |.cl _,.cl _,_=>rfl
 |.ar _,.cl _,_=>rfl
 |.ar _,.ar _,_=>rfl
theorem zcy{cs:List qa}(T:QbR cs):∀{x y z:Ty},ZP cs x=true->qbA cs x y->qbA cs y z->qbA cs x z
 |.i,.i,.i,_,_,_=>trivial
 |.j,.j,.j,_,_,_=>trivial
 |.cl c,.cl d,.cl e,C,A,B=>T.trans c d e C A B
 |.ar _,.cl _,.cl e,_,A,B=>by
  have A:_=zh:=A;subst A;exact T.root e B
 |.ar _,.ar _,.cl _,_,_,B=>B
 |.ar a,.ar b,.ar c,C,A,B=>zcy T (x:=a) (y:=b) (z:=c) C A B
theorem QcU{cs:List qa}(T:QbR cs):∀{x y:Ty},ZP cs x=true->ZP cs y=true->qbA cs x y->qbA cs y x->x=y
 |.i,.i,_,_,_,_=>rfl
 |.j,.j,_,_,_,_=>rfl
 |.cl c,.cl d,A,B,C,D=>by rw[T.anti c d A B C D]
 |.ar a,.ar b,A,B,C,D=>by rw[QcU T (x:=a) (y:=b) A B C D]
theorem zaA(l:List qa):(Qb (Za l) zh).isSome=true:=rfl
theorem zcV{cs:List qa}(T:QbR cs)(C:(Qb cs zh).isSome=true):∀{x y z:Ty},ZP cs x=true->ZP cs y=true->qaa cs x y=some z->qbA cs x z/\qbA cs y z/\ZP cs z=true
 |.i,.i,_,_,_,h=>by cases h;exact⟨trivial,trivial,rfl⟩
 |.j,.j,_,_,_,h=>by cases h;exact⟨trivial,trivial,rfl⟩
 |.cl c,.cl d,_,A,B,h=>by
  cases h;obtain⟨D,F⟩:=T.lub1 c d A B;exact⟨D,F,T.known c _ A D⟩
 |.ar a,.ar b,z,A,B,h=>by
  unfold qaa at h;cases E:qaa cs a b with
  |some w =>
   rw[E]at h;cases h;obtain⟨D,F,G⟩:=zcV T C (x:=a) (y:=b) A B E;exact⟨D,F,G⟩
  |none=>rw[E]at h;cases h;exact⟨rfl,rfl,C⟩
 |.ar _,.cl d,_,_,B,h=>by cases h;exact⟨rfl,T.top d B,C⟩
 |.cl c,.ar _,_,A,_,h=>by cases h;exact⟨T.top c A,rfl,C⟩
 |.i,.j,_,_,_,h=>by cases h
 |.i,.cl _,_,_,_,h=>by cases h
 |.i,.ar _,_,_,_,h=>by cases h
 |.j,.i,_,_,_,h=>by cases h
 |.j,.cl _,_,_,_,h=>by cases h
 |.j,.ar _,_,_,_,h=>by cases h
 |.cl _,.i,_,_,_,h=>by cases h
 |.cl _,.j,_,_,_,h=>by cases h
 |.ar _,.i,_,_,_,h=>by cases h
 |.ar _,.j,_,_,_,h=>by cases h
theorem qdR{cs:List qa}(T:QbR cs):∀(x y z:Ty),ZP cs x=true->ZP cs y=true->qbA cs x z->qbA cs y z->∃w,qaa cs x y=some w/\qbA cs w z:=by
 intro x;induction x with
 |i=>intro y z _ _ B A;cases z<;>cases y<;>first|exact B.elim|exact A.elim|exact⟨_,rfl,trivial⟩
 |j=>intro y z _ _ B A;cases z<;>cases y<;>first|exact B.elim|exact A.elim|exact⟨_,rfl,trivial⟩
 |cl c =>
  intro y z C D B A;cases z with
  |cl e =>
   cases y with
   |cl d=>exact⟨_,rfl,T.lub2 c d e C D B A⟩
   |ar b =>
    have A:e=zh:=A;subst A;exact⟨_,rfl,zad _⟩
   |i=>exact A.elim
   |j=>exact A.elim
  |i=>exact B.elim
  |j=>exact B.elim
  |ar _=>exact B.elim
 |ar a G =>
  intro y z C D B A;cases z with
  |cl e =>
   have B:e=zh:=B;subst B;cases y with
   |cl d=>exact⟨_,rfl,zad _⟩
   |ar b =>
    unfold qaa;cases qaa cs a b with
    |some w=>exact⟨_,rfl,rfl⟩
    |none=>exact⟨_,rfl,zad _⟩
   |i=>exact A.elim
   |j=>exact A.elim
  |ar c =>
   cases y with
   |ar b =>
    obtain⟨w,E,F⟩:=G b c C D B A;exact⟨.ar w,by unfold qaa;rw[E],F⟩
   |cl d=>exact A.elim
   |i=>exact A.elim
   |j=>exact A.elim
  |i=>exact B.elim
  |j=>exact B.elim
theorem QdR{cs:List qa}:∀{x y:Ty},Qm x=true->Qm y=true->∃w,qaa cs x y=some w
 |.cl _,.cl _,_,_=>⟨_,rfl⟩
 |.ar a,.ar b,_,_=>by
  unfold qaa;cases qaa cs a b with
  |some w=>exact⟨_,rfl⟩
  |none=>exact⟨_,rfl⟩
 |.ar _,.cl _,_,_=>⟨_,rfl⟩
 |.cl _,.ar _,_,_=>⟨_,rfl⟩
theorem Za9(cs:List qa)(y:Ty):Q2 cs .n (.ty y)=if Qm y then .ty y else .t:=rfl
theorem qa9(cs:List qa)(x:Ty):Q2 cs (.ty x) .n=if Qm x then .ty x else .t:=rfl
theorem qaG(cs:List qa)(x y:Ty):Q2 cs (.ty x) (.ty y)=match qaa cs x y with
 |some z=>.ty z
 |none=>.t:=rfl
theorem zbx(cs:List qa):∀x,Qaz cs x x
 |.n=>trivial
 |.t=>trivial
 |.ty x=>Qby cs x
theorem QdM{cs:List qa}(T:QbR cs){x y z:Kd}(C:qS cs x=true)(A:Qaz cs x y)(B:Qaz cs y z):Qaz cs x z:=by
 cases z with
 |t=>cases x<;>trivial
 |n =>
  cases y with
  |n=>exact A
  |t=>exact B.elim
  |ty _=>exact B.elim
 |ty z =>
  cases y with
  |t=>exact B.elim
  |n =>
   cases x with
   |n=>exact B
   |t=>exact A.elim
   |ty _=>exact A.elim
  |ty y =>
   cases x with
   |n =>
    show Qm z=true
    rw[<-Qcx (cs:=cs) (x:=y) (y:=z) B];exact A
   |t=>exact A.elim
   |ty x=>exact zcy T (x:=x) (y:=y) (z:=z) C A B
theorem QcR{cs:List qa}(T:QbR cs):∀{x y:Kd},qS cs x=true->qS cs y=true->Qaz cs x y->Qaz cs y x->x=y
 |.n,.n,_,_,_,_=>rfl
 |.t,.t,_,_,_,_=>rfl
 |.ty _,.ty _,A,B,C,D=>by rw[QcU T A B C D]
theorem zb2{cs:List qa}(T:QbR cs)(C:(Qb cs zh).isSome=true){x y:Kd}(A:qS cs x=true)(B:qS cs y=true):Qaz cs x (Q2 cs x y)/\Qaz cs y (Q2 cs x y)/\qS cs (Q2 cs x y)=true:=by
 cases x with
 |t=>cases y<;>exact⟨trivial,trivial,rfl⟩
 |n =>
  cases y with
  |n=>exact⟨trivial,trivial,rfl⟩
  |t=>exact⟨trivial,trivial,rfl⟩
  |ty y =>
   rw[Za9];by_cases h:Qm y=true
   ·rw[if_pos h];exact⟨h,Qby cs y,B⟩
   ·rw[if_neg h];exact⟨trivial,trivial,rfl⟩
 |ty x =>
  cases y with
  |n =>
   rw[qa9];by_cases h:Qm x=true
   ·rw[if_pos h];exact⟨Qby cs x,h,A⟩
   ·rw[if_neg h];exact⟨trivial,trivial,rfl⟩
  |t=>exact⟨trivial,trivial,rfl⟩
  |ty y =>
   rw[qaG];cases D:qaa cs x y with
   |some z =>
    obtain⟨E,F,G⟩:=zcV T C (x:=x) (y:=y) A B D;exact⟨E,F,G⟩
   |none=>exact⟨trivial,trivial,rfl⟩
theorem Zcs{cs:List qa}(T:QbR cs){x y z:Kd}(D:qS cs x=true)(E:qS cs y=true)(A:Qaz cs x z)(B:Qaz cs y z):Qaz cs (Q2 cs x y) z:=by
 cases z with
 |t=>cases Q2 cs x y<;>trivial
 |n =>
  cases x with
  |t=>exact A.elim
  |ty _=>exact A.elim
  |n =>
   cases y with
   |n=>trivial
   |t=>exact B.elim
   |ty _=>exact B.elim
 |ty z =>
  cases x with
  |t=>exact A.elim
  |n =>
   cases y with
   |n=>exact A
   |t=>exact B.elim
   |ty y =>
    have C:Qm y=true:=(by rw[Qcx (cs:=cs) (x:=y) (y:=z) B];exact A);rw[Za9,if_pos C];exact B
  |ty x =>
   cases y with
   |t=>exact B.elim
   |n =>
    have C:Qm x=true:=(by rw[Qcx (cs:=cs) (x:=x) (y:=z) A];exact B);rw[qa9,if_pos C];exact A
   |ty y =>
    obtain⟨w,F,G⟩:=qdR T x y z D E A B;rw[qaG,F];exact G
theorem Zfa{cs:List qa}(T:QbR cs)(D:(Qb cs zh).isSome=true){x y:Kd}(B:qS cs x=true)(A:qS cs y=true):Q2 cs x y=y↔Qaz cs x y:=by
 obtain⟨C,E,F⟩:=zb2 T D B A;constructor
 ·intro h;rw[h]at C;exact C
 ·intro h;exact QcR T F A (Zcs T B A h (zbx cs y)) E
theorem Qei{cs:List qa}(T:QbR cs)(B:(Qb cs zh).isSome=true){x:Kd}(A:qS cs x=true):Q2 cs x x=x:=(Zfa T B A A).2 (zbx cs x)
theorem zam{l:List qa}(h:Qg l){c d:Str}(A:(Qb (Za l) c).isSome=true)(B:d∈zm (Za l) c):d∈qi (Za l) c:=(h.line_facts _ c A Xl).1 d B
theorem ZcV{l:List qa}(h:Qg l):∀{x y:Ty},ZP (Za l) x=true->qbA (Za l) x y->ZB (Za l) x y=true
 |.i,.i,_,_=>rfl
 |.j,.j,_,_=>rfl
 |.cl _,.cl _,B,A=>QF.2 (zam h B A)
 |.ar _,.cl _,_,A=>Xj A
 |.ar a,.ar b,B,A=>ZcV h (x:=a) (y:=b) B A
theorem qdb{l:List qa}(h:Qg l):∀{x y:Kd},qS (Za l) x=true->Qaz (Za l) x y->ZS (Za l) x y=true
 |.n,.t,_,_=>rfl
 |.t,.t,_,_=>rfl
 |.ty _,.t,_,_=>rfl
 |.n,.n,_,_=>rfl
 |.n,.ty _,_,A=>A
 |.ty _,.ty _,B,A=>ZcV h B A
theorem Qbr{l:List qa}(h:Qg l){c d e:Str}(B:(Qb (Za l) c).isSome=true)(A:d∈qi (Za l) c)(C:e∈qi (Za l) d):e∈qi (Za l) c:=by
 have g:=Zo h.closed B;exact(Zo h.closed (g.1.known d A)).2.2.2 (fun x=>x∈qi (Za l) c) g.2.2.1 A e C
theorem zbi{l:List qa}(h:Qg l){d:Str}(B:d∈qi (Za l) zh):d=zh:=by
 refine(Zo h.closed (n:=zh) rfl).2.2.2 (fun x=>x=zh) (fun x C a A=>?_) rfl d B;subst C;unfold zw at A;rw[show Qb (Za l) zh=some Z8 from rfl]at A;simp[Z8,qg]at A
theorem ZaZ{l:List qa}(h:Qg l):∀x:Ty,ZP (Za l) x=true->ZB (Za l) x x=true
 |.i,_=>rfl
 |.j,_=>rfl
 |.cl _,A=>QF.2 (Zo h.closed A).2.1
 |.ar x,A=>ZaZ h x A
theorem qbI{cs:List qa}:∀{x y:Ty},ZB cs x y=true->Qm x=Qm y
 |.i,.i,_=>rfl
 |.j,.j,_=>rfl
 |.cl _,.cl _,_=>rfl
 |.ar _,.cl _,_=>rfl
 |.ar _,.ar _,_=>rfl
 |.i,.j,h=>by cases h
 |.i,.cl _,h=>by cases h
 |.i,.ar _,h=>by cases h
 |.j,.i,h=>by cases h
 |.j,.cl _,h=>by cases h
 |.j,.ar _,h=>by cases h
 |.cl _,.i,h=>by cases h
 |.cl _,.j,h=>by cases h
 |.ar _,.i,h=>by cases h
 |.ar _,.j,h=>by cases h
theorem QaP{l:List qa}(h:Qg l):∀{x y z:Ty},ZP (Za l) x=true->ZB (Za l) x y=true->ZB (Za l) y z=true->ZB (Za l) x z=true
 |.i,.i,_,_,_,A=>A
 |.j,.j,_,_,_,A=>A
 |.cl _,.cl _,.cl _,C,B,A=>QF.2 (Qbr h C (QF.1 B) (QF.1 A))
 |.ar _,.cl _,.cl e,_,B,A=>by
  have B:_=zh:=Xm B;subst B;exact Xj (zbi h (QF.1 A))
 |.ar _,.ar _,.cl _,_,_,A=>A
 |.ar a,.ar b,.ar c,C,B,A=>QaP h (x:=a) (y:=b) (z:=c) C B A
theorem qem{l:List qa}(h:Qg l):∀x:Kd,qS (Za l) x=true->ZS (Za l) x x=true
 |.n,_=>rfl
 |.t,_=>rfl
 |.ty x,A=>ZaZ h x A
theorem Zcw{l:List qa}(h:Qg l){x y z:Kd}(C:qS (Za l) x=true)(A:ZS (Za l) x y=true)(B:ZS (Za l) y z=true):ZS (Za l) x z=true:=by
 cases z with
 |t=>cases x<;>rfl
 |n =>
  cases y with
  |n=>exact A
  |t=>cases B
  |ty _=>cases B
 |ty z =>
  cases y with
  |t=>cases B
  |n =>
   cases x with
   |n=>exact B
   |t=>cases A
   |ty _=>cases A
  |ty y =>
   cases x with
   |n =>
    show Qm z=true
    rw[<-qbI (cs:=Za l) (x:=y) (y:=z) B];exact A
   |t=>cases A
   |ty x=>exact QaP h (x:=x) (y:=y) (z:=z) C A B
def Qa3(cs:List qa)(k:Str)(x:Kd):Prop:=Qo x=lst k/\qS cs x=true
theorem Qa3.same{cs:List qa}{k:Str}{x y:Kd}(h:Qa3 cs k x)(g:Qa3 cs k y):x=y:=Zbe (h.1.trans g.1.symm)
theorem Qa3.text{cs:List qa}{k m:Str}{x:Kd}(h:Qa3 cs k x)(g:Qa3 cs m x):k=m:=ByteArray.ext (Array.toList_inj.1 (h.1.symm.trans g.1))
theorem qdt{c:List UInt8}(h:∀x∈c,x≠59):qr (c++[59])=c.length:=by
 induction c with
 |nil=>rfl
 |cons a r B =>
  show(if a=59 then 0 else qr (r++[59])+1)=_
  rw[if_neg (h a (by simp)),B (fun x A=>h x (by simp[A]))];rfl
theorem Qem{c:List UInt8}(h:zD c=true):∀x∈c,x≠59:=by
 intro x A;cases c with
 |nil=>cases A
 |cons a r =>
  unfold zD at h;simp only[Bool.and_eq_true,List.all_eq_true]at h;have:=h.2 x A;rintro rfl;exact absurd this (by decide)
def qD:Ty->Nat
 |.ar x=>qD x+1
 |_=>0
theorem Zbb:∀x:Ty,Qv (qe x)=qD x
 |.i=>rfl
 |.j=>rfl
 |.cl c=>by simp[qe,Qv,qD]
 |.ar x=>by simp[qe,Qv,qD,Zbb x]
def ZaB:Ty->Ty
 |.ar x=>ZaB x
 |x=>x
theorem Zdc:∀x:Ty,(qe x).drop (qD x)=qe (ZaB x)
 |.i=>rfl
 |.j=>rfl
 |.cl _=>rfl
 |.ar x=>by simp[qe,qD,ZaB,Zdc x]
theorem Zcy:∀x:Ty,(ZaB x=.i/\zH x=[])\/(ZaB x=.j/\zH x=[])\/∃c,ZaB x=.cl c/\zH x=lst c
 |.i=>Or.inl ⟨rfl,rfl⟩
 |.j=>Or.inr (Or.inl ⟨rfl,rfl⟩)
 |.cl c=>Or.inr (Or.inr ⟨c,rfl,rfl⟩)
 |.ar x=>Zcy x
def Q5(a:Str):Str:=⟨#[91]⟩++a
theorem Zcv(a:Str):lst (Q5 a)=91::lst a:=by
 unfold Q5 lst;rw[ByteArray.data_append,Array.toList_append];rfl
theorem Qa3.arr{cs:List qa}{a:Str}{x:Kd}(h:Qa3 cs (Q5 a) x):∃t:Ty,x=.ty (.ar t)/\Qa3 cs a (.ty t):=by
 obtain⟨A,B⟩:=h;rw[Zcv]at A;cases x with
 |n=>simp[Qo]at A
 |t=>simp[Qo]at A
 |ty y =>
  cases y with
  |i=>simp[Qo,qe]at A
  |j=>simp[Qo,qe]at A
  |cl c=>simp[Qo,qe]at A
  |ar t =>
   simp only[Qo,qe,List.cons.injEq,true_and]at A;exact⟨t,rfl,A,B⟩
theorem qa8(x:Ty):QX (qe x)=!Qm x:=by
 cases x with
 |i=>rfl
 |j=>rfl
 |cl c=>simp[QX,qe,Qm]
 |ar x=>simp[QX,qe,Qm]
theorem Zcc{cs:List qa}{x y:Ty}(h:Qm x=false\/Qm y=false):ZB cs x y=decide (x=y):=by
 cases x<;>cases y<;>first|rfl|(rcases h with h|h<;>cases h)
def zA:Kd->Bool
 |.ty x=>Qm x
 |_=>false
theorem Qdt{l:List qa}:∀a:List qa,Zi ZG a l=0->∀c∈l,Qf c=0:=by
 induction l with
 |nil=>intro a _ c B;cases B
 |cons d r D =>
  intro a h c B;rw[Zi]at h;by_cases A:ZG d a=0
  ·rw[if_pos A]at h;rcases List.mem_cons.1 B with rfl|B
   ·unfold ZG at A;by_cases C:Qf c≠0
    ·rw[if_pos C]at A;exact absurd A C
    ·simpa using C
   ·exact D _ h c B
  ·rw[if_neg A]at h;exact absurd h A
theorem zdu{l:List qa}(h:zj l=0):∀c∈l,Qf c=0:=by
 unfold zj at h;split at h
 ·cases h
 ·split at h
  ·rename_i A;exact absurd h A
  ·rename_i A;exact Qdt [] (by simpa using A)
theorem zbD{cs:List qa}{n:Str}{f:Bool}(h:qv cs n f=0):∃c,Qb cs n=some c/\c.face=f:=by
 unfold qv at h;split at h
 ·cases h
 ·rename_i c A;refine⟨c,A,?_⟩;split at h
  ·assumption
  ·cases h
theorem zbR{cs:List qa}{c:qa}(h:zF cs c=0):qv cs c.super false=0/\∀a∈c.faces,qv cs a true=0:=by
 unfold zF at h;split at h
 ·cases h
 ·split at h
  ·cases h
  ·split at h
   ·cases h
   ·split at h
    ·rename_i A;exact absurd h A
    ·rename_i A;split at h
     ·rename_i B;exact absurd h B
     ·rename_i B;exact⟨by simpa using A,qal (by simpa using B)⟩
theorem zb4(l:List Str)(x:Str):x∈Zad l↔x∈l:=by
 rw[<-QF,Za8,QF]
theorem zdP(m l:List Str)(k:Nat)(x:Str)(h:l[k]? = some x):ZaO m (l.drop k)=if zak m x then x else ZaO m (l.drop (k+1)):=by
 obtain⟨A,rfl⟩:=List.getElem?_eq_some_iff.1 h;rw[List.drop_eq_getElem_cons A];rfl
theorem Qg.face_line{l:List qa}(h:Qg l){c:Str}(G:(Qb (Za l) c).isSome=true)(D:(Qd (Za l) c).face=true):zm (Za l) c=[c,zh]:=by
 rw[Option.isSome_iff_exists]at G;obtain⟨d,F⟩:=G;have B:d∈Za l:=List.mem_of_find?_eq_some F;have E:Qd (Za l) c=d:=by unfold Qd;rw[F];rfl
 rw[E]at D;unfold Za at B;rcases List.mem_cons.1 B with rfl|B
 ·cases D
 ·rcases List.mem_cons.1 B with rfl|B
  ·cases D
  ·have A:=h.joined d B;have H:d.super=zh:=by
    unfold zF at A;split at A
    ·cases A
    ·split at A
     ·cases A
     ·split at A
      ·cases A
      ·split at A
       ·rename_i C;exact absurd A C
       ·split at A
        ·rename_i C;exact absurd A C
        ·split at A
         ·cases A
         ·rename_i C;simp[D]at C;exact C
   rw[h.line_up (by rw[F];rfl) (by rw[E,H];decide),E,H,Qg.line_top (show(Qd (Za l) zh).super.size=0 from rfl)]
theorem Qg.line_noface{l:List qa}(h:Qg l):∀c,(Qb (Za l) c).isSome=true->∀d∈zm (Za l) c,d≠c->(Qd (Za l) d).face=false:=by
 refine h.line_ind _ (fun x E F d A B=>?_) (fun x E F M d A B=>?_)
 ·rw[Qg.line_top F]at A;simp at A;exact absurd A B
 ·rcases(h.line_mem E).1 A with rfl|⟨_,A⟩
  ·exact absurd rfl B
  ·by_cases H:d=(Qd (Za l) x).super
   ·rw[Option.isSome_iff_exists]at E;obtain⟨c,I⟩:=E;have C:c∈Za l:=List.mem_of_find?_eq_some I;have D:Qd (Za l) x=c:=(by unfold Qd;rw[I];rfl);rw[H,D];unfold Za at C;rcases List.mem_cons.1 C with rfl|C
    ·rw[D]at F;exact absurd rfl F
    ·rcases List.mem_cons.1 C with rfl|C
     ·rfl
     ·obtain⟨J,_⟩:=zbR (h.joined c C);obtain⟨e,L,G⟩:=zbD J;unfold Qd;rw[L];exact G
   ·exact M d A H
theorem Qg.classes{l:List qa}(h:Qg l){c d:Str}(E:(Qb (Za l) c).isSome=true)(F:(Qb (Za l) d).isSome=true)(D:c≠d):
 (if ((Qd (Za l) c).face||(Qd (Za l) d).face)=true then zh else qbT (Za l) c d)=qbT (Za l) c d:=by
 by_cases A:((Qd (Za l) c).face||(Qd (Za l) d).face)=true
 ·rw[if_pos A];obtain⟨B,C⟩:=h.tree.lub1 c d E F;rw[Bool.or_eq_true]at A;rcases A with A|A
  ·rw[h.face_line E A]at B;simp at B;rcases B with B|B
   ·rw[B]at C;have:=h.line_noface d F c C D;rw[A]at this;cases this
   ·exact B.symm
  ·rw[h.face_line F A]at C;simp at C;rcases C with C|C
   ·rw[C]at B;have:=h.line_noface c E d B (fun h=>D h.symm);rw[A]at this;cases this
   ·exact C.symm
 ·rw[if_neg A]
theorem qcc{cs:List qa}{x y:Ty}(A:x≠y)(h:Qm x=false\/Qm y=false):qaa cs x y=none:=by
 cases x<;>cases y<;>first|rfl|(exact absurd rfl A)|(rcases h with h|h<;>cases h)
theorem zej{cs:List qa}{x y:Kd}(B:x≠y)(C:¬(x=.n/\zA y=true))(D:¬(y=.n/\zA x=true))(h:zA x=false\/zA y=false):Q2 cs x y=.t:=by
 cases x with
 |n=>cases y with
  |n=>exact absurd rfl B
  |t=>rfl
  |ty z =>
   rw[Za9];cases A:Qm z with
   |true=>exact absurd ⟨rfl,A⟩ C
   |false=>rfl
 |t=>cases y<;>rfl
 |ty u=>cases y with
  |n =>
   rw[qa9];cases A:Qm u with
   |true=>exact absurd ⟨rfl,A⟩ D
   |false=>rfl
  |t=>rfl
  |ty v =>
   rw[qaG,qcc (fun e=>B (by rw[e])) h]
theorem QeN{cs:List qa}{x y:Ty}(B:Qm x=true)(C:Qm y=true):∃z,Q2 cs (.ty x) (.ty y)=.ty z/\Q2 cs (.ty (.ar x)) (.ty (.ar y))=.ty (.ar z):=by
 obtain⟨z,A⟩:=QdR (cs:=cs) B C;refine⟨z,by rw[qaG,A],?_⟩;rw[qaG];unfold qaa;rw[A]
theorem ZcM{cs:List qa}{x y:Ty}(A:x≠y)(h:Qm x=false\/Qm y=false):Q2 cs (.ty (.ar x)) (.ty (.ar y))=.ty (.cl zh):=by
 rw[qaG];unfold qaa;rw[qcc A h]
theorem Zdu{l:List qa}(C:∀c∈l,Qf c=0){x:Str}(D:(Qb (Za l) x).isSome=true):zD (lst x)=true:=by
 obtain⟨c,A,rfl⟩:=QaS D;unfold Za at A;rcases List.mem_cons.1 A with rfl|A
 ·decide
 ·rcases List.mem_cons.1 A with rfl|A
  ·decide
  ·have h:=C c A;unfold Qf at h;split at h
   ·cases h
   ·rename_i B;rw[Bool.not_eq_true,Bool.or_eq_false_iff,Bool.not_eq_false']at B;exact B.1
theorem qbx{l:List qa}(A:∀c∈l,Qf c=0):∀x:Ty,ZP (Za l) x=true->QaM x=true
 |.i,_=>rfl
 |.j,_=>rfl
 |.cl _,h=>Zdu A h
 |.ar x,h=>qbx A x h
theorem ZbV:∀x:Ty,QaM x=true->zJ (qe (ZaB x))=(qe (ZaB x)).length
 |.i,_=>rfl
 |.j,_=>rfl
 |.cl c,h=>by
  have A:=qdt (Qem (c:=lst c) h);show(if (76:UInt8)=73\/(76:UInt8)=74 then 1 else if (76:UInt8)=76 then (if qr (lst c++[59])<(lst c++[59]).length/\zD ((lst c++[59]).take (qr (lst c++[59])))=true then qr (lst c++[59])+2 else 0) else 0)=(76::(lst c++[59])).length
  rw[if_neg (by decide),if_pos rfl,A,List.take_left,if_pos ⟨by simp,h⟩];simp
 |.ar x,h=>ZbV x h
theorem Qcc:∀x:Ty,(qe x).length=qD x+(qe (ZaB x)).length
 |.i=>rfl
 |.j=>rfl
 |.cl c=>by simp[qD,ZaB]
 |.ar x=>by
  have:=Qcc x;simp only[qe,qD,ZaB,List.length_cons];omega
theorem Zbi{x:Ty}(A:QaM x=true)(B:qD x<=3):zp (qe x)=true:=by
 have C:=ZbV x A;have D:=Qcc x;have E:0<(qe (ZaB x)).length:=List.length_pos_iff.2 (qby _);unfold zp zr;rw[Zbb,Zdc,if_pos ⟨B,by omega⟩,Bool.and_eq_true,beq_iff_eq];refine⟨?_,by omega⟩;cases h:qe x with
 |nil=>exact absurd h (qby x)
 |cons _ _=>rfl
theorem ZaQ{x:Ty}(h:zp (qe x)=true):qD x<=3:=by
 unfold zp zr at h;rw[Zbb,Bool.and_eq_true,beq_iff_eq]at h;have B:0<(qe x).length:=List.length_pos_iff.2 (qby _);split at h
 ·rename_i A;exact A.1
 ·omega
def qbp:Kd->Nat
 |.ty x=>qD x
 |_=>0
theorem qcy{x:Ty}(h:QaM x=true)(A:qD x<=3):qaJ (qe x)=zH x:=by
 obtain⟨y,B,C,_⟩:=za9 (qe x) (Zbi h A);rw[C,Qbh B]
theorem QbH{l:List qa}(F:∀c∈l,Qf c=0){k:Str}{x:Kd}(h:Qa3 (Za l) k x)(C:qbp x<=3):Zg (Za l) k=0:=by
 obtain⟨G,E⟩:=h;unfold Zg;rw[<-G];cases x with
 |n=>exact if_pos (Or.inl rfl)
 |t=>exact if_pos (Or.inr rfl)
 |ty y =>
  have D:=qbx F y E;have A:∀z:Ty,qe z≠[78]/\qe z≠[84]:=fun z=>by cases z<;>simp[qe]
  show(if qe y=[78]\/qe y=[84] then 0 else if !zp (qe y) then 1 else if (qaJ (qe y)).isEmpty then 0 else if (Qb (Za l) (str (qaJ (qe y)))).isSome then 0 else 3)=0
  rw[if_neg (fun h=>by rcases h with h|h;exact(A y).1 h;exact(A y).2 h),Zbi D C,if_neg (by decide),qcy D C];rcases Qb3 y E with B|B
  ·rw[B];rfl
  ·rw[B];split<;>rfl
theorem qbg{cs:List qa}{k:Str}{x:Kd}(h:Qa3 cs k x)(A:Zg cs k=0):qbp x<=3:=by
 cases x with
 |n=>exact Nat.zero_le _
 |t=>exact Nat.zero_le _
 |ty y =>
  unfold Zg at A;rw[<-h.1]at A;have B:∀z:Ty,qe z≠[78]/\qe z≠[84]:=fun z=>by cases z<;>simp[qe]
  change (if qe y=[78]\/qe y=[84] then 0 else if !zp (qe y) then 1 else _)=0 at A;rw[if_neg (fun h=>by rcases h with h|h;exact(B y).1 h;exact(B y).2 h)]at A;cases C:zp (qe y) with
  |true=>exact ZaQ C
  |false=>rw[C]at A;cases A
theorem zcd{cs:List qa}:∀{x y z:Ty},qaa cs x y=some z->qD z<=max (qD x) (qD y)
 |.i,.i,_,h=>by cases h;exact Nat.zero_le _
 |.j,.j,_,h=>by cases h;exact Nat.zero_le _
 |.cl _,.cl _,_,h=>by cases h;exact Nat.zero_le _
 |.ar a,.ar b,z,h=>by
  unfold qaa at h;cases A:qaa cs a b with
  |some w =>
   rw[A]at h;cases h;have:=zcd A;simp only[qD];omega
  |none=>rw[A]at h;cases h;exact Nat.zero_le _
 |.ar _,.cl _,_,h=>by cases h;exact Nat.zero_le _
 |.cl _,.ar _,_,h=>by cases h;exact Nat.zero_le _
 |.i,.j,_,h=>by cases h
 |.i,.cl _,_,h=>by cases h
 |.i,.ar _,_,h=>by cases h
 |.j,.i,_,h=>by cases h
 |.j,.cl _,_,h=>by cases h
 |.j,.ar _,_,h=>by cases h
 |.cl _,.i,_,h=>by cases h
 |.cl _,.j,_,h=>by cases h
 |.ar _,.i,_,h=>by cases h
 |.ar _,.j,_,h=>by cases h
theorem qdu{cs:List qa}(x y:Kd):qbp (Q2 cs x y)<=max (qbp x) (qbp y):=by
 cases x with
 |n=>cases y with
  |n=>exact Nat.zero_le _
  |t=>exact Nat.zero_le _
  |ty z =>
   rw[Za9];split
   ·exact Nat.le_max_right _ _
   ·exact Nat.zero_le _
 |t=>cases y<;>exact Nat.zero_le _
 |ty u=>cases y with
  |n =>
   rw[qa9];split
   ·exact Nat.le_max_left _ _
   ·exact Nat.zero_le _
  |t=>exact Nat.zero_le _
  |ty v =>
   rw[qaG];cases A:qaa cs u v with
   |some z=>exact zcd A
   |none=>exact Nat.zero_le _
theorem Qeg{l:List qa}(A:∀c∈l,Qf c=0){a b z:Str}{x y:Kd}(B:Qa3 (Za l) a x)(C:Qa3 (Za l) b y)(D:Zg (Za l) a=0)(E:Zg (Za l) b=0)(F:Qa3 (Za l) z (Q2 (Za l) x y)):Zg (Za l) z=0:=by
 have G:=qbg B D;have H:=qbg C E;have I:=qdu (cs:=Za l) x y;exact QbH A F (by omega)
def QH:qc:=⟨.empty,.empty,false,false,false,0,[],[]⟩
def Z3(n:Str):List QJ->Option QJ
 |[]=>none
 |f::r=>if f.name=n then some f else Z3 n r
theorem qc8(n:Str)(l:List QJ)(k:Nat)(x:QJ)(h:l[k]? = some x):Z3 n (l.drop k)=if x.name=n then some x else Z3 n (l.drop (k+1)):=by
 obtain⟨A,rfl⟩:=List.getElem?_eq_some_iff.1 h;rw[List.drop_eq_getElem_cons A];rfl
def qab(cs:List qa)(n:Str):List Str->Option (Str×QJ)
 |[]=>none
 |c::r=>match Z3 n (Qd cs c).fields with
  |some f=>some (c,f)
  |none=>qab cs n r
theorem Zc8(cs:List qa)(n:Str)(l:List Str)(k:Nat)(x:Str)(h:l[k]? = some x):qab cs n (l.drop k)=match Z3 n (Qd cs x).fields with
 |some f=>some (x,f)
 |none=>qab cs n (l.drop (k+1)):=by
 obtain⟨A,rfl⟩:=List.getElem?_eq_some_iff.1 h;rw[List.drop_eq_getElem_cons A];rfl
def Zal(n t:Str):List qc->Option qc
 |[]=>none
 |m::r=>if m.name=n/\m.type=t then some m else Zal n t r
theorem ZdL(n t:Str)(l:List qc)(k:Nat)(x:qc)(h:l[k]? = some x):Zal n t (l.drop k)=if x.name=n/\x.type=t then some x else Zal n t (l.drop (k+1)):=by
 obtain⟨A,rfl⟩:=List.getElem?_eq_some_iff.1 h;rw[List.drop_eq_getElem_cons A];rfl
def zS(cs:List qa)(n t:Str):List Str->Option (Str×qc)
 |[]=>none
 |c::r=>match Zal n t (Qd cs c).methods with
  |some m=>some (c,m)
  |none=>zS cs n t r
theorem ZcK(cs:List qa)(n t:Str)(l:List Str)(k:Nat)(x:Str)(h:l[k]? = some x):zS cs n t (l.drop k)=match Zal n t (Qd cs x).methods with
 |some m=>some (x,m)
 |none=>zS cs n t (l.drop (k+1)):=by
 obtain⟨A,rfl⟩:=List.getElem?_eq_some_iff.1 h;rw[List.drop_eq_getElem_cons A];rfl
def zI(cs:List qa)(n t:Str)(a:Bool):List Str->Option (Str×qc)
 |[]=>none
 |c::r=>match Zal n t (Qd cs c).methods with
  |some m=>if ((Qd cs c).face&&(m.abs==a))=true then some (c,m) else zI cs n t a r
  |none=>zI cs n t a r
theorem qdn(cs:List qa)(n t:Str)(a:Bool)(l:List Str)(k:Nat)(x:Str)(h:l[k]? = some x):zI cs n t a (l.drop k)=match Zal n t (Qd cs x).methods with
 |some m=>if ((Qd cs x).face&&(m.abs==a))=true then some (x,m) else zI cs n t a (l.drop (k+1))
 |none=>zI cs n t a (l.drop (k+1)):=by
 obtain⟨A,rfl⟩:=List.getElem?_eq_some_iff.1 h;rw[List.drop_eq_getElem_cons A];rfl
def zaM(cs:List qa)(cls n:Str):Option (Str×QJ):=qab cs n (zm cs cls)
def qB(cs:List qa)(cls n t:Str):Option (Str×qc) :=
 match zS cs n t (zm cs cls) with
 |some x=>some x
 |none=>match zI cs n t false (Zad (qi cs cls)) with
  |some x=>some x
  |none=>zI cs n t true (Zad (qi cs cls))
theorem Qg.line_nodup{l:List qa}(h:Qg l):∀c,(Qb (Za l) c).isSome=true->(zm (Za l) c).Nodup:=by
 refine h.line_ind _ (fun x A B=>?_) (fun x A B H=>?_)
 ·rw[Qg.line_top B];simp
 ·rw[h.line_up A B,List.nodup_cons];refine⟨fun E=>?_,H⟩;obtain⟨C,D⟩:=h.up A B;have F:(Qd (Za l) x).super∈zm (Za l) x:=(h.line_mem A).2 (Or.inr ⟨B,zad _⟩);have G:=h.tree.anti _ _ A C F E;rw[<-G]at D;omega
def qas(cs:List qa)(c:Str):List (Str×QJ):=(Qd cs c).fields.map fun f=>(c,f)
def zQ(cs:List qa)(line:List Str):List (Str×QJ):=line.flatMap (qas cs)
def qW(cs:List qa)(c:Str):List (Str×QJ):=zQ cs (zm cs c).reverse
def Zq(l:List (Str×QJ)):List Str:=l.map fun x=>x.2.type
theorem Qau(cs:List qa)(a b:List Str):zQ cs (a++b)=zQ cs a++zQ cs b:=by
 unfold zQ;rw[List.flatMap_append]
theorem qaP(cs:List qa)(c:Str):zQ cs [c]=qas cs c:=by
 unfold zQ;simp
theorem qfa{l:List qa}(h:Qg l){c:Str}(A:(Qb (Za l) c).isSome=true)(B:(Qd (Za l) c).super.size≠0):
 qW (Za l) c=qW (Za l) (Qd (Za l) c).super++qas (Za l) c:=by
 unfold qW;rw[h.line_up A B,List.reverse_cons,Qau,qaP]
theorem Zbq(a:List (Str×QJ)):(Zq a).length=a.length:=by
 unfold Zq;rw[List.length_map]
def qX{α:Type}[DecidableEq α](x:α):List α->Option Nat
 |[]=>none
 |y::r=>if x=y then some 0 else (qX x r).map (· + 1)
def qfs:Option Nat->Int
 |some n=>n
 |none=>-1
theorem Qcy{α:Type}[DecidableEq α]{x:α}{b:List α}:∀{a:List α} {k:Nat},qX x a=some k->qX x (a++b)=some k
 |[],_,h=>by cases h
 |y::r,k,h=>by
  unfold qX at h;show(if x=y then some 0 else (qX x (r++b)).map (· + 1))=some k
  by_cases B:x=y
  ·rw[if_pos B]at h ⊢;exact h
  ·rw[if_neg B]at h ⊢;cases A:qX x r with
   |none=>rw[A]at h;cases h
   |some j=>rw[A]at h;rw[Qcy A];exact h
theorem Zcd{α:Type}[DecidableEq α]{x:α}{b:List α}:∀{a:List α},x∉a->qX x (a++b)=(qX x b).map (a.length + ·)
 |[],_=>by
  show qX x b=_
  cases qX x b<;>simp
 |y::r,h=>by
  show(if x=y then some 0 else (qX x (r++b)).map (· + 1))=_
  rw[if_neg (fun A=>h (by simp[A])),Zcd (fun B=>h (by simp[B]))];cases qX x b with
  |none=>rfl
  |some j=>simp;omega
def qbb(n:Str):List QJ->Option Nat
 |[]=>none
 |f::r=>if f.name=n then some 0 else (qbb n r).map (· + 1)
theorem qbV{n:Str}:∀{l:List QJ} {f:QJ},Z3 n l=some f->f.name=n
 |[],_,h=>by cases h
 |g::r,f,h=>by
  unfold Z3 at h;by_cases A:g.name=n
  ·rw[if_pos A]at h;injection h with h;subst h;exact A
  ·rw[if_neg A]at h;exact qbV h
theorem qbE{n:Str}:∀{l:List QJ},Z3 n l=none->qbb n l=none
 |[],_=>rfl
 |g::r,h=>by
  unfold Z3 at h;unfold qbb;by_cases A:g.name=n
  ·rw[if_pos A]at h;cases h
  ·rw[if_neg A]at h ⊢;rw[qbE h];rfl
theorem QbV{n c:Str}:∀{l:List QJ} {f:QJ},Z3 n l=some f->∃k,qbb n l=some k/\qX (c,f) (l.map fun f=>(c,f))=some k
 |[],_,h=>by cases h
 |g::r,f,h=>by
  have C:=qbV h;unfold Z3 at h;unfold qbb;by_cases A:g.name=n
  ·rw[if_pos A]at h ⊢;injection h with h;subst h
   exact⟨0,rfl,by simp[qX]⟩
  ·rw[if_neg A]at h ⊢;obtain⟨k,D,E⟩:=QbV (c:=c) h;refine⟨k+1,by rw[D];rfl,?_⟩;show(if (c,f)=(c,g) then some 0 else (qX (c,f) (r.map fun f=>(c,f))).map (· + 1))=_
   rw[if_neg (fun B=>A (by injection B with _ B;rw[<-B];exact C)),E];rfl
def zbW(cs:List qa)(n:Str):List Str->Option Nat
 |[]=>none
 |c::r=>match qbb n (Qd cs c).fields with
  |some i=>some ((zQ cs r.reverse).length+i)
  |none=>zbW cs n r
def qav(cs:List qa)(c n:Str):Option Nat:=zbW cs n (zm cs c)
theorem qdc{cs:List qa}{c:Str}{f:QJ}{A:List Str}(h:(c,f)∈zQ cs A):c∈A:=by
 unfold zQ at h;obtain⟨d,D,C⟩:=List.mem_flatMap.1 h;unfold qas at C;obtain⟨g,_,B⟩:=List.mem_map.1 C;injection B with B _
 rw[<-B];exact D
theorem qcV(cs:List qa)(n:Str):∀A:List Str,A.Nodup ->
 (match qab cs n A with
 |some x=>∃k,zbW cs n A=some k/\qX x (zQ cs A.reverse)=some k
 |none=>zbW cs n A=none)
 |[],_=>rfl
 |c::r,B=>by
  rw[List.nodup_cons]at B;have C:=qcV cs n r B.2;unfold qab zbW;rw[List.reverse_cons,Qau,qaP];cases F:Z3 n (Qd cs c).fields with
  |some f =>
   obtain⟨k,D,E⟩:=QbV (c:=c) F;refine⟨_,by rw[D],?_⟩;rw[Zcd (fun H=>B.1 (List.mem_reverse.1 (qdc H)))];unfold qas;rw[E];rfl
  |none =>
   rw[qbE F];dsimp only;cases G:qab cs n r with
   |some x =>
    rw[G]at C;obtain⟨k,D,E⟩:=C;exact⟨k,D,Qcy E⟩
   |none=>rw[G]at C;exact C
theorem Qdu{l:List qa}(h:Qg l){c n:Str}(A:(Qb (Za l) c).isSome=true):
 match zaM (Za l) c n with
 |some x=>∃k,qav (Za l) c n=some k/\qX x (qW (Za l) c)=some k
 |none=>qav (Za l) c n=none:=qcV (Za l) n _ (h.line_nodup c A)
