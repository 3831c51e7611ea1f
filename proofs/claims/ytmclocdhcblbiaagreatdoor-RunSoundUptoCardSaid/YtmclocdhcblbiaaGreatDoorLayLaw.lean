/- Lemmas; conditions: as each states. -/
import Derived.Test.YtmclocdhcblbiaaGreatDoorLineLaw
import Derived.Sort.Walk0
set_option maxHeartbeats 4000000
namespace Go.Proofs.YtmclocdhcblbiaaGreatDoor
open Go.RowKit Go.Shelf Go.Lib
inductive Ty where
 |i:Ty
 |j:Ty
 |cl:Str->Ty
 |ar:Ty->Ty
 deriving DecidableEq
inductive Kd where
 |n:Kd
 |t:Kd
 |ty:Ty->Kd
 deriving DecidableEq
def qd:Ty->List UInt8
 |.i=>[73]
 |.j=>[74]
 |.cl c=>76::(lst c++[59])
 |.ar x=>91::qd x
def zp:Kd->List UInt8
 |.n=>[78]
 |.t=>[84]
 |.ty x=>qd x
def zN(cs:List qa):Ty->Bool
 |.i=>true
 |.j=>true
 |.cl c=>(Qb cs c).isSome
 |.ar x=>zN cs x
def ZQ(cs:List qa):Kd->Bool
 |.ty x=>zN cs x
 |_=>true
def qm:Ty->Bool
 |.i=>false
 |.j=>false
 |_=>true
def zG:Ty->List UInt8
 |.cl c=>lst c
 |.ar x=>zG x
 |_=>[]
def ZA(cs:List qa):Ty->Ty->Bool
 |.i,.i=>true
 |.j,.j=>true
 |.cl c,.cl d=>Q4 (zj cs c) d
 |.ar _,.cl d=>decide (d=Zg)
 |.ar a,.ar b=>ZA cs a b
 |_,_=>false
def zQ(cs:List qa):Kd->Kd->Bool
 |_,.t=>true
 |.n,.n=>true
 |.n,.ty y=>qm y
 |.ty x,.ty y=>ZA cs x y
 |_,_=>false
def zaK(m:List Str):List Str->Str
 |[]=>Zg
 |c::r=>if Q4 m c then c else zaK m r
def QbR(cs:List qa)(c d:Str):Str:=zaK (Zl cs d) (Zl cs c)
def q8(cs:List qa):Ty->Ty->Option Ty
 |.i,.i=>some .i
 |.j,.j=>some .j
 |.cl c,.cl d=>some (.cl (QbR cs c d))
 |.ar a,.ar b=>match q8 cs a b with
  |some x=>some (.ar x)
  |none=>some (.cl Zg)
 |.ar _,.cl _=>some (.cl Zg)
 |.cl _,.ar _=>some (.cl Zg)
 |_,_=>none
def zY(cs:List qa):Kd->Kd->Kd
 |.n,.n=>.n
 |.n,.ty y=>if qm y then .ty y else .t
 |.ty x,.n=>if qm x then .ty x else .t
 |.ty x,.ty y=>match q8 cs x y with
  |some z=>.ty z
  |none=>.t
 |_,_=>.t
def zbz(cs:List qa):Ty->Ty->Prop
 |.i,.i=>True
 |.j,.j=>True
 |.cl c,.cl d=>d∈Zl cs c
 |.ar _,.cl d=>d=Zg
 |.ar a,.ar b=>zbz cs a b
 |_,_=>False
def Qaw(cs:List qa):Kd->Kd->Prop
 |_,.t=>True
 |.n,.n=>True
 |.n,.ty y=>qm y=true
 |.ty x,.ty y=>zbz cs x y
 |_,_=>False
theorem zbw(x:Ty):qd x≠[]:=by cases x<;>simp[qd]
theorem Zbe:∀{x y:Ty},qd x=qd y->x=y
 |.i,.i,_=>rfl
 |.j,.j,_=>rfl
 |.cl c,.cl d,h=>by
  simp only[qd,List.cons.injEq,true_and,List.append_cancel_right_eq]at h;rw[ByteArray.ext (Array.toList_inj.1 h)]
 |.ar a,.ar b,h=>by
  simp only[qd,List.cons.injEq,true_and]at h;rw[Zbe h]
 |.i,.j,h=>by simp[qd]at h
 |.i,.cl _,h=>by simp[qd]at h
 |.i,.ar _,h=>by simp[qd]at h
 |.j,.i,h=>by simp[qd]at h
 |.j,.cl _,h=>by simp[qd]at h
 |.j,.ar _,h=>by simp[qd]at h
 |.cl _,.i,h=>by simp[qd]at h
 |.cl _,.j,h=>by simp[qd]at h
 |.cl _,.ar _,h=>by simp[qd]at h
 |.ar _,.i,h=>by simp[qd]at h
 |.ar _,.j,h=>by simp[qd]at h
 |.ar _,.cl _,h=>by simp[qd]at h
theorem zbb{x y:Kd}(h:zp x=zp y):x=y:=by
 have A:∀z:Ty,qd z≠[78]/\qd z≠[84]:=fun z=>by cases z<;>simp[qd]
 cases x with
 |n=>cases y with
  |n=>rfl
  |t=>simp[zp]at h
  |ty z=>exact absurd h.symm (A z).1
 |t=>cases y with
  |n=>simp[zp]at h
  |t=>rfl
  |ty z=>exact absurd h.symm (A z).2
 |ty z=>cases y with
  |n=>exact absurd h (A z).1
  |t=>exact absurd h (A z).2
  |ty B=>rw[Zbe h]
theorem zcw:∀r:List UInt8,Zn r+1=r.length->r=r.take (Zn r)++[59]
 |[],h=>by simp[Zn]at h
 |c::r,h=>by
  unfold Zn at h ⊢;by_cases A:c=59
  ·subst A;simp only[if_true]at h ⊢;simp only[List.length_cons]at h;have:r=[]:=List.length_eq_zero_iff.1 (by omega);subst this;rfl
  ·simp only[if_neg A]at h ⊢;simp only[List.length_cons]at h;rw[List.take_succ_cons,List.cons_append,<-zcw r (by omega)]
def ZaI:Ty->Bool
 |.cl c=>Zx (lst c)
 |.ar x=>ZaI x
 |_=>true
theorem qa4:∀s:List UInt8,qo s=true->∃x:Ty,qd x=s/\QaF s=zG x/\ZaI x=true
 |[],h=>by cases h
 |c::r,h=>by
  unfold qo at h;rw[Bool.and_eq_true,beq_iff_eq]at h;obtain⟨_,h⟩:=h;by_cases F:c=91
  ·subst F;have A:zq (91::r)=zq r+1:=(by simp[zq]);unfold Qn at h;rw[A]at h;simp only[List.drop_succ_cons,List.length_cons]at h;split at h
   ·rename_i D;have J:qo r=true:=by
     unfold qo Qn;rw[if_pos ⟨by omega,D.2⟩,Bool.and_eq_true,beq_iff_eq];refine⟨?_,by omega⟩;cases r with
     |nil=>simp[zq,QA]at D
     |cons _ _=>rfl
    obtain⟨x,M,I,C⟩:=qa4 r J;refine⟨.ar x,by rw[qd,M],?_,C⟩;unfold QaF at I ⊢;rw[A,List.drop_succ_cons];exact I
   ·omega
  ·have A:zq (c::r)=0:=(by simp[zq,F]);unfold Qn at h;rw[A]at h;simp only[List.drop_zero,List.length_cons]at h;split at h
   ·rename_i D;unfold QA at h;simp only at h;by_cases B:c=73\/c=74
    ·rw[if_pos B]at h;have:r=[]:=List.length_eq_zero_iff.1 (by omega);subst this;rcases B with rfl|rfl
     ·exact⟨.i,rfl,rfl,rfl⟩
     ·exact⟨.j,rfl,rfl,rfl⟩
    ·rw[if_neg B]at h;by_cases G:c=76
     ·subst G;rw[if_pos rfl]at h;split at h
      ·rename_i E;have L:=zcw r (by omega);have H:(r.take (Zn r)).length=Zn r:=(by rw[List.length_take];omega);refine⟨.cl (str (r.take (Zn r))),?_,?_,E.2⟩
       ·show 76::(r.take (Zn r)++[59])=_
        rw[<-L]
       ·unfold QaF;rw[A];show r.take (r.length-1)=r.take (Zn r)
        congr 1;omega
      ·omega
     ·rw[if_neg G]at h;omega
   ·omega
def Qg(cs:List qa)(k:Str):Nat :=
 if lst k=[78]\/lst k=[84] then 0
 else if !qo (lst k) then 1
 else if (QaF (lst k)).isEmpty then 0
 else if (Qb cs (str (QaF (lst k)))).isSome then 0 else 3
theorem ZcS{cs:List qa}:∀x:Ty,ZaI x=true->(zG x=[]\/(Qb cs (str (zG x))).isSome=true)->zN cs x=true
 |.i,_,_=>rfl
 |.j,_,_=>rfl
 |.cl c,h,g=>by
  rcases g with A|A
  ·exact absurd A (by unfold ZaI at h;intro B;unfold zG at B;rw[B]at h;cases h)
  ·exact A
 |.ar x,h,g=>ZcS x h g
theorem Qb3{cs:List qa}:∀x:Ty,zN cs x=true->zG x=[]\/(Qb cs (str (zG x))).isSome=true
 |.i,_=>Or.inl rfl
 |.j,_=>Or.inl rfl
 |.cl _,h=>Or.inr h
 |.ar x,h=>Qb3 x h
theorem zR{cs:List qa}{k:Str}(h:Qg cs k=0):∃x:Kd,zp x=lst k/\ZQ cs x=true:=by
 unfold Qg at h;split at h
 ·rename_i A;rcases A with A|A
  ·exact⟨.n,A.symm,rfl⟩
  ·exact⟨.t,A.symm,rfl⟩
 ·split at h
  ·cases h
  ·rename_i E;obtain⟨x,B,C,D⟩:=qa4 (lst k) (by simpa using E);refine⟨.ty x,B,ZcS x D ?_⟩;rw[C]at h;split at h
   ·rename_i F;exact Or.inl (List.isEmpty_iff.1 F)
   ·split at h
    ·rename_i G;exact Or.inr G
    ·cases h
structure zbQ (cs:List qa):Prop where
 refl:∀c,c∈Zl cs c
 trans:∀c d e,(Qb cs c).isSome=true->d∈Zl cs c->e∈Zl cs d->e∈Zl cs c
 anti:∀c d,(Qb cs c).isSome=true->(Qb cs d).isSome=true->d∈Zl cs c->c∈Zl cs d->c=d
 known:∀c d,(Qb cs c).isSome=true->d∈Zl cs c->(Qb cs d).isSome=true
 top:∀c,(Qb cs c).isSome=true->Zg∈Zl cs c
 root:∀d,d∈Zl cs Zg->d=Zg
 lub1:∀c d,(Qb cs c).isSome=true->(Qb cs d).isSome=true->QbR cs c d∈Zl cs c/\QbR cs c d∈Zl cs d
 lub2:∀c d e,(Qb cs c).isSome=true->(Qb cs d).isSome=true->e∈Zl cs c->e∈Zl cs d->e∈Zl cs (QbR cs c d)
theorem zh.line_mem{l:List qa}(h:zh l){x y:Str}(B:(Qb (Za l) x).isSome=true):y∈Zl (Za l) x↔y=x\/((Ze (Za l) x).super.size≠0/\y∈Zl (Za l) (Ze (Za l) x).super):=by
 by_cases A:(Ze (Za l) x).super.size=0
 ·rw[zh.line_top A];simp[A]
 ·rw[h.line_up B A,List.mem_cons];simp[A]
theorem Zab{cs:List qa}(x:Str):x∈Zl cs x:=by unfold Zl;rw[QbH];simp
theorem zh.line_ind{l:List qa}(h:zh l)(P:Str->Prop)(D:∀x,(Qb (Za l) x).isSome=true->(Ze (Za l) x).super.size=0->P x)(E:∀x,(Qb (Za l) x).isSome=true->(Ze (Za l) x).super.size≠0->P (Ze (Za l) x).super->P x):∀x,(Qb (Za l) x).isSome=true->P x:=by
 have:∀(k:Nat) (x:Str),(Qb (Za l) x).isSome=true->(zj (Za l) x).length<=k->P x:=by
  intro k;induction k with
  |zero =>
   intro x A G;have:=List.length_pos_of_mem (qp h.closed A).2.1;omega
  |succ k H =>
   intro x A G;by_cases B:(Ze (Za l) x).super.size=0
   ·exact D x A B
   ·obtain⟨C,F⟩:=h.up A B;exact E x A B (H _ C (by omega))
 exact fun x A=>this _ x A Xl
theorem qcS{m:List Str}:∀l:List Str,(∃x∈l,x∈m)->zaK m l∈l/\zaK m l∈m
 |[],⟨x,D,_⟩=>by cases D
 |c::r,⟨x,D,E⟩=>by
  unfold zaK;cases C:Q4 m c with
  |true=>rw[if_pos rfl];exact⟨by simp,qA.1 C⟩
  |false =>
   rw[if_neg (by decide)];have A:x≠c:=(by rintro rfl;rw[qA.2 E]at C;cases C);have B:x∈r:=by
    rcases List.mem_cons.1 D with h|h
    ·exact absurd h A
    ·exact h
   obtain⟨F,G⟩:=qcS r ⟨x,B,E⟩;exact⟨by simp[F],G⟩
theorem zh.tree{l:List qa}(h:zh l):zbQ (Za l):=by
 have D:∀c d,(Qb (Za l) c).isSome=true->d∈Zl (Za l) c->(Qb (Za l) d).isSome=true:=fun c d B A =>
  (qp h.closed B).1.known d ((h.line_facts _ c B Xl).1 d A)
 have E:∀c,(Qb (Za l) c).isSome=true->∀d e,d∈Zl (Za l) c->e∈Zl (Za l) d->e∈Zl (Za l) c:=by
  refine h.line_ind _ (fun x B H d e A N=>?_) (fun x B H R d e A N=>?_)
  ·rw[zh.line_top H]at A;simp at A;subst A;exact N
  ·rcases(h.line_mem B).1 A with rfl|⟨_,A⟩
   ·exact N
   ·exact(h.line_mem B).2 (Or.inr ⟨H,R d e A N⟩)
 have O:∀c d,(Qb (Za l) c).isSome=true->(Qb (Za l) d).isSome=true->d∈Zl (Za l) c->c∈Zl (Za l) d->c=d:=by
  intro c d G A C M;rcases(h.line_mem G).1 C with rfl|⟨H,C⟩
  ·rfl
  ·exfalso;obtain⟨L,X⟩:=h.up G H;have T:=E _ L d c C M;have U:=(h.line_facts _ _ L Xl).1 c T;have e:=qp h.closed L;have g:=qp h.closed G;have:=zaN (zj (Za l) c) (zj (Za l) (Ze (Za l) c).super) g.1.nodup (g.2.2.2 (fun x=>x∈zj (Za l) (Ze (Za l) c).super) e.2.2.1 U);omega
 have F:∀c,(Qb (Za l) c).isSome=true->Zg∈Zl (Za l) c:=fun c B=>by
  obtain⟨t,Y⟩:=(h.line_facts _ c B Xl).2;rw[Y];simp
 have I:∀d,d∈Zl (Za l) Zg->d=Zg:=fun d A=>by
  rw[zh.line_top (show(Ze (Za l) Zg).super.size=0 from rfl)]at A;simpa using A
 have J:∀c d,(Qb (Za l) c).isSome=true->(Qb (Za l) d).isSome=true->QbR (Za l) c d∈Zl (Za l) c/\QbR (Za l) c d∈Zl (Za l) d:=fun c d G A =>
  qcS _ ⟨Zg,F c G,F d A⟩
 have P:∀c,(Qb (Za l) c).isSome=true->∀d e,(Qb (Za l) d).isSome=true->e∈Zl (Za l) c->e∈Zl (Za l) d->e∈Zl (Za l) (QbR (Za l) c d):=by
  refine h.line_ind _ (fun x B H d e A C M=>?_) (fun x B H R d e A C M=>?_)
  ·have V:x=Zg:=h.top B H;subst V;rw[I e C];exact F _ (D d _ A (J _ d B A).2)
  ·unfold QbR;rw[h.line_up B H,zaK];cases S:Q4 (Zl (Za l) d) x with
   |true=>rw[if_pos rfl];exact C
   |false =>
    rw[if_neg (by decide)];rcases(h.line_mem B).1 C with rfl|⟨_,C⟩
    ·rw[qA.2 M]at S;cases S
    ·exact R d e A C M
 exact⟨Zab,fun c d e G A N=>E c G d e A N,O,D,F,I,J,fun c d e G A C M=>P c G d e A C M⟩
theorem Zbw(cs:List qa):∀x,zbz cs x x
 |.i=>trivial
 |.j=>trivial
 |.cl c=>Zab c
 |.ar x=>Zbw cs x
theorem Zcw{cs:List qa}:∀{x y:Ty},zbz cs x y->qm x=qm y
 |.i,.i,_=>rfl
 |.j,.j,_=>rfl
 |.cl _,.cl _,_=>rfl
 |.ar _,.cl _,_=>rfl
 |.ar _,.ar _,_=>rfl
theorem qcw{cs:List qa}(T:zbQ cs):∀{x y z:Ty},zN cs x=true->zbz cs x y->zbz cs y z->zbz cs x z
 |.i,.i,.i,_,_,_=>trivial
 |.j,.j,.j,_,_,_=>trivial
 |.cl c,.cl d,.cl e,C,A,B=>T.trans c d e C A B
 |.ar _,.cl _,.cl e,_,A,B=>by
  have A:_=Zg:=A;subst A;exact T.root e B
 |.ar _,.ar _,.cl _,_,_,B=>B
 |.ar a,.ar b,.ar c,C,A,B=>qcw T (x:=a) (y:=b) (z:=c) C A B
theorem QcS{cs:List qa}(T:zbQ cs):∀{x y:Ty},zN cs x=true->zN cs y=true->zbz cs x y->zbz cs y x->x=y
 |.i,.i,_,_,_,_=>rfl
 |.j,.j,_,_,_,_=>rfl
 |.cl c,.cl d,A,B,C,D=>by rw[T.anti c d A B C D]
 |.ar a,.ar b,A,B,C,D=>by rw[QcS T (x:=a) (y:=b) A B C D]
theorem zax(l:List qa):(Qb (Za l) Zg).isSome=true:=rfl
theorem zcT{cs:List qa}(T:zbQ cs)(C:(Qb cs Zg).isSome=true):∀{x y z:Ty},zN cs x=true->zN cs y=true->q8 cs x y=some z->zbz cs x z/\zbz cs y z/\zN cs z=true
 |.i,.i,_,_,_,h=>by cases h;exact⟨trivial,trivial,rfl⟩
 |.j,.j,_,_,_,h=>by cases h;exact⟨trivial,trivial,rfl⟩
 |.cl c,.cl d,_,A,B,h=>by
  cases h;obtain⟨D,F⟩:=T.lub1 c d A B;exact⟨D,F,T.known c _ A D⟩
 |.ar a,.ar b,z,A,B,h=>by
  unfold q8 at h;cases E:q8 cs a b with
  |some w =>
   rw[E]at h;cases h;obtain⟨D,F,G⟩:=zcT T C (x:=a) (y:=b) A B E;exact⟨D,F,G⟩
  |none=>rw[E]at h;cases h;exact⟨rfl,rfl,C⟩
 |.ar _,.cl d,_,_,B,h=>by cases h;exact⟨rfl,T.top d B,C⟩
 |.cl c,.ar _,_,A,_,h=>by cases h;exact⟨T.top c A,rfl,C⟩
 |.i,.j,_,_,_,h=>by cases h
 |.i,.cl _,_,_,_,h=>by cases h
 |.i,.ar _,_,_,_,h=>by cases h
 |.j,.i,_,_,_,h=>by cases h
 |.j,.cl _,_,_,_,h=>by cases h
 |.j,.ar _,_,_,_,h=>by cases h
 |.cl _,.i,_,_,_,h=>by cases h
 |.cl _,.j,_,_,_,h=>by cases h
 |.ar _,.i,_,_,_,h=>by cases h
 |.ar _,.j,_,_,_,h=>by cases h
theorem QdO{cs:List qa}(T:zbQ cs):∀(x y z:Ty),zN cs x=true->zN cs y=true->zbz cs x z->zbz cs y z->∃w,q8 cs x y=some w/\zbz cs w z:=by
 intro x;induction x with
 |i=>intro y z _ _ B A;cases z<;>cases y<;>first|exact B.elim|exact A.elim|exact⟨_,rfl,trivial⟩
 |j=>intro y z _ _ B A;cases z<;>cases y<;>first|exact B.elim|exact A.elim|exact⟨_,rfl,trivial⟩
 |cl c =>
  intro y z C D B A;cases z with
  |cl e =>
   cases y with
   |cl d=>exact⟨_,rfl,T.lub2 c d e C D B A⟩
   |ar b =>
    have A:e=Zg:=A;subst A;exact⟨_,rfl,Zab _⟩
   |i=>exact A.elim
   |j=>exact A.elim
  |i=>exact B.elim
  |j=>exact B.elim
  |ar _=>exact B.elim
 |ar a G =>
  intro y z C D B A;cases z with
  |cl e =>
   have B:e=Zg:=B;subst B;cases y with
   |cl d=>exact⟨_,rfl,Zab _⟩
   |ar b =>
    unfold q8;cases q8 cs a b with
    |some w=>exact⟨_,rfl,rfl⟩
    |none=>exact⟨_,rfl,Zab _⟩
   |i=>exact A.elim
   |j=>exact A.elim
  |ar c =>
   cases y with
   |ar b =>
    obtain⟨w,E,F⟩:=G b c C D B A;exact⟨.ar w,by unfold q8;rw[E],F⟩
   |cl d=>exact A.elim
   |i=>exact A.elim
   |j=>exact A.elim
  |i=>exact B.elim
  |j=>exact B.elim
theorem zdP{cs:List qa}:∀{x y:Ty},qm x=true->qm y=true->∃w,q8 cs x y=some w
 |.cl _,.cl _,_,_=>⟨_,rfl⟩
 |.ar a,.ar b,_,_=>by
  unfold q8;cases q8 cs a b with
  |some w=>exact⟨_,rfl⟩
  |none=>exact⟨_,rfl⟩
 |.ar _,.cl _,_,_=>⟨_,rfl⟩
 |.cl _,.ar _,_,_=>⟨_,rfl⟩
theorem Qa4(cs:List qa)(y:Ty):zY cs .n (.ty y)=if qm y then .ty y else .t:=rfl
theorem za5(cs:List qa)(x:Ty):zY cs (.ty x) .n=if qm x then .ty x else .t:=rfl
theorem zaD(cs:List qa)(x y:Ty):zY cs (.ty x) (.ty y)=match q8 cs x y with
 |some z=>.ty z
 |none=>.t:=rfl
theorem qbu(cs:List qa):∀x,Qaw cs x x
 |.n=>trivial
 |.t=>trivial
 |.ty x=>Zbw cs x
theorem zdK{cs:List qa}(T:zbQ cs){x y z:Kd}(C:ZQ cs x=true)(A:Qaw cs x y)(B:Qaw cs y z):Qaw cs x z:=by
 cases z with
 |t=>cases x<;>trivial
 |n =>
  cases y with
  |n=>exact A
  |t=>exact B.elim
  |ty _=>exact B.elim
 |ty z =>
  cases y with
  |t=>exact B.elim
  |n =>
   cases x with
   |n=>exact B
   |t=>exact A.elim
   |ty _=>exact A.elim
  |ty y =>
   cases x with
   |n =>
    show qm z=true
    rw[<-Zcw (cs:=cs) (x:=y) (y:=z) B];exact A
   |t=>exact A.elim
   |ty x=>exact qcw T (x:=x) (y:=y) (z:=z) C A B
theorem QcP{cs:List qa}(T:zbQ cs):∀{x y:Kd},ZQ cs x=true->ZQ cs y=true->Qaw cs x y->Qaw cs y x->x=y
 |.n,.n,_,_,_,_=>rfl
 |.t,.t,_,_,_,_=>rfl
 |.ty _,.ty _,A,B,C,D=>by rw[QcS T A B C D]
theorem qb1{cs:List qa}(T:zbQ cs)(C:(Qb cs Zg).isSome=true){x y:Kd}(A:ZQ cs x=true)(B:ZQ cs y=true):Qaw cs x (zY cs x y)/\Qaw cs y (zY cs x y)/\ZQ cs (zY cs x y)=true:=by
 cases x with
 |t=>cases y<;>exact⟨trivial,trivial,rfl⟩
 |n =>
  cases y with
  |n=>exact⟨trivial,trivial,rfl⟩
  |t=>exact⟨trivial,trivial,rfl⟩
  |ty y =>
   rw[Qa4];by_cases h:qm y=true
   ·rw[if_pos h];exact⟨h,Zbw cs y,B⟩
   ·rw[if_neg h];exact⟨trivial,trivial,rfl⟩
 |ty x =>
  cases y with
  |n =>
   rw[za5];by_cases h:qm x=true
   ·rw[if_pos h];exact⟨Zbw cs x,h,A⟩
   ·rw[if_neg h];exact⟨trivial,trivial,rfl⟩
  |t=>exact⟨trivial,trivial,rfl⟩
  |ty y =>
   rw[zaD];cases D:q8 cs x y with
   |some z =>
    obtain⟨E,F,G⟩:=zcT T C (x:=x) (y:=y) A B D;exact⟨E,F,G⟩
   |none=>exact⟨trivial,trivial,rfl⟩
theorem qcq{cs:List qa}(T:zbQ cs){x y z:Kd}(D:ZQ cs x=true)(E:ZQ cs y=true)(A:Qaw cs x z)(B:Qaw cs y z):Qaw cs (zY cs x y) z:=by
 cases z with
 |t=>cases zY cs x y<;>trivial
 |n =>
  cases x with
  |t=>exact A.elim
  |ty _=>exact A.elim
  |n =>
   cases y with
   |n=>trivial
   |t=>exact B.elim
   |ty _=>exact B.elim
 |ty z =>
  cases x with
  |t=>exact A.elim
  |n =>
   cases y with
   |n=>exact A
   |t=>exact B.elim
   |ty y =>
    have C:qm y=true:=(by rw[Zcw (cs:=cs) (x:=y) (y:=z) B];exact A);rw[Qa4,if_pos C];exact B
  |ty x =>
   cases y with
   |t=>exact B.elim
   |n =>
    have C:qm x=true:=(by rw[Zcw (cs:=cs) (x:=x) (y:=z) A];exact B);rw[za5,if_pos C];exact A
   |ty y =>
    obtain⟨w,F,G⟩:=QdO T x y z D E A B;rw[zaD,F];exact G
theorem ze5{cs:List qa}(T:zbQ cs)(D:(Qb cs Zg).isSome=true){x y:Kd}(B:ZQ cs x=true)(A:ZQ cs y=true):zY cs x y=y↔Qaw cs x y:=by
 obtain⟨C,E,F⟩:=qb1 T D B A;constructor
 ·intro h;rw[h]at C;exact C
 ·intro h;exact QcP T F A (qcq T B A h (qbu cs y)) E
theorem qej{cs:List qa}(T:zbQ cs)(B:(Qb cs Zg).isSome=true){x:Kd}(A:ZQ cs x=true):zY cs x x=x:=(ze5 T B A A).2 (qbu cs x)
theorem qaS{l:List qa}(h:zh l){c d:Str}(A:(Qb (Za l) c).isSome=true)(B:d∈Zl (Za l) c):d∈zj (Za l) c:=(h.line_facts _ c A Xl).1 d B
theorem ZcT{l:List qa}(h:zh l):∀{x y:Ty},zN (Za l) x=true->zbz (Za l) x y->ZA (Za l) x y=true
 |.i,.i,_,_=>rfl
 |.j,.j,_,_=>rfl
 |.cl _,.cl _,B,A=>qA.2 (qaS h B A)
 |.ar _,.cl _,_,A=>Xj A
 |.ar a,.ar b,B,A=>ZcT h (x:=a) (y:=b) B A
theorem Qc9{l:List qa}(h:zh l):∀{x y:Kd},ZQ (Za l) x=true->Qaw (Za l) x y->zQ (Za l) x y=true
 |.n,.t,_,_=>rfl
 |.t,.t,_,_=>rfl
 |.ty _,.t,_,_=>rfl
 |.n,.n,_,_=>rfl
 |.n,.ty _,_,A=>A
 |.ty _,.ty _,B,A=>ZcT h B A
theorem Qbo{l:List qa}(h:zh l){c d e:Str}(B:(Qb (Za l) c).isSome=true)(A:d∈zj (Za l) c)(C:e∈zj (Za l) d):e∈zj (Za l) c:=by
 have g:=qp h.closed B;exact(qp h.closed (g.1.known d A)).2.2.2 (fun x=>x∈zj (Za l) c) g.2.2.1 A e C
theorem qbe{l:List qa}(h:zh l){d:Str}(B:d∈zj (Za l) Zg):d=Zg:=by
 refine(qp h.closed (n:=Zg) rfl).2.2.2 (fun x=>x=Zg) (fun x C a A=>?_) rfl d B;subst C;unfold Zz at A;rw[show Qb (Za l) Zg=some ZU from rfl]at A;simp[ZU,qg]at A
theorem QaU{l:List qa}(h:zh l):∀x:Ty,zN (Za l) x=true->ZA (Za l) x x=true
 |.i,_=>rfl
 |.j,_=>rfl
 |.cl _,A=>qA.2 (qp h.closed A).2.1
 |.ar x,A=>QaU h x A
theorem qbG{cs:List qa}:∀{x y:Ty},ZA cs x y=true->qm x=qm y
 |.i,.i,_=>rfl
 |.j,.j,_=>rfl
 |.cl _,.cl _,_=>rfl
 |.ar _,.cl _,_=>rfl
 |.ar _,.ar _,_=>rfl
 |.i,.j,h=>by cases h
 |.i,.cl _,h=>by cases h
 |.i,.ar _,h=>by cases h
 |.j,.i,h=>by cases h
 |.j,.cl _,h=>by cases h
 |.j,.ar _,h=>by cases h
 |.cl _,.i,h=>by cases h
 |.cl _,.j,h=>by cases h
 |.ar _,.i,h=>by cases h
 |.ar _,.j,h=>by cases h
theorem QaL{l:List qa}(h:zh l):∀{x y z:Ty},zN (Za l) x=true->ZA (Za l) x y=true->ZA (Za l) y z=true->ZA (Za l) x z=true
 |.i,.i,_,_,_,A=>A
 |.j,.j,_,_,_,A=>A
 |.cl _,.cl _,.cl _,C,B,A=>qA.2 (Qbo h C (qA.1 B) (qA.1 A))
 |.ar _,.cl _,.cl e,_,B,A=>by
  have B:_=Zg:=Xm B;subst B;exact Xj (qbe h (qA.1 A))
 |.ar _,.ar _,.cl _,_,_,A=>A
 |.ar a,.ar b,.ar c,C,B,A=>QaL h (x:=a) (y:=b) (z:=c) C B A
theorem Zen{l:List qa}(h:zh l):∀x:Kd,ZQ (Za l) x=true->zQ (Za l) x x=true
 |.n,_=>rfl
 |.t,_=>rfl
 |.ty x,A=>QaU h x A
theorem Qcu{l:List qa}(h:zh l){x y z:Kd}(C:ZQ (Za l) x=true)(A:zQ (Za l) x y=true)(B:zQ (Za l) y z=true):zQ (Za l) x z=true:=by
 cases z with
 |t=>cases x<;>rfl
 |n =>
  cases y with
  |n=>exact A
  |t=>cases B
  |ty _=>cases B
 |ty z =>
  cases y with
  |t=>cases B
  |n =>
   cases x with
   |n=>exact B
   |t=>cases A
   |ty _=>cases A
  |ty y =>
   cases x with
   |n =>
    show qm z=true
    rw[<-qbG (cs:=Za l) (x:=y) (y:=z) B];exact A
   |t=>cases A
   |ty x=>exact QaL h (x:=x) (y:=y) (z:=z) C A B
def Za0(cs:List qa)(k:Str)(x:Kd):Prop:=zp x=lst k/\ZQ cs x=true
theorem Za0.same{cs:List qa}{k:Str}{x y:Kd}(h:Za0 cs k x)(g:Za0 cs k y):x=y:=zbb (h.1.trans g.1.symm)
theorem Za0.text{cs:List qa}{k m:Str}{x:Kd}(h:Za0 cs k x)(g:Za0 cs m x):k=m:=ByteArray.ext (Array.toList_inj.1 (h.1.symm.trans g.1))
theorem qdr{c:List UInt8}(h:∀x∈c,x≠59):Zn (c++[59])=c.length:=by
 induction c with
 |nil=>rfl
 |cons a r B =>
  show(if a=59 then 0 else Zn (r++[59])+1)=_
  rw[if_neg (h a (by simp)),B (fun x A=>h x (by simp[A]))];rfl
theorem qen{c:List UInt8}(h:Zx c=true):∀x∈c,x≠59:=by
 intro x A;cases c with
 |nil=>cases A
 |cons a r =>
  unfold Zx at h;simp only[Bool.and_eq_true,List.all_eq_true]at h;have:=h.2 x A;rintro rfl;exact absurd this (by decide)
def ZD:Ty->Nat
 |.ar x=>ZD x+1
 |_=>0
theorem za7:∀x:Ty,zq (qd x)=ZD x
 |.i=>rfl
 |.j=>rfl
 |.cl c=>by simp[qd,zq,ZD]
 |.ar x=>by simp[qd,zq,ZD,za7 x]
def Zay:Ty->Ty
 |.ar x=>Zay x
 |x=>x
theorem qda:∀x:Ty,(qd x).drop (ZD x)=qd (Zay x)
 |.i=>rfl
 |.j=>rfl
 |.cl _=>rfl
 |.ar x=>by simp[qd,ZD,Zay,qda x]
theorem Qcw:∀x:Ty,(Zay x=.i/\zG x=[])\/(Zay x=.j/\zG x=[])\/∃c,Zay x=.cl c/\zG x=lst c
 |.i=>Or.inl ⟨rfl,rfl⟩
 |.j=>Or.inr (Or.inl ⟨rfl,rfl⟩)
 |.cl c=>Or.inr (Or.inr ⟨c,rfl,rfl⟩)
 |.ar x=>Qcw x
def Z1(a:Str):Str:=⟨#[91]⟩++a
theorem qct(a:Str):lst (Z1 a)=91::lst a:=by
 unfold Z1 lst;rw[ByteArray.data_append,Array.toList_append];rfl
theorem Za0.arr{cs:List qa}{a:Str}{x:Kd}(h:Za0 cs (Z1 a) x):∃t:Ty,x=.ty (.ar t)/\Za0 cs a (.ty t):=by
 obtain⟨A,B⟩:=h;rw[qct]at A;cases x with
 |n=>simp[zp]at A
 |t=>simp[zp]at A
 |ty y =>
  cases y with
  |i=>simp[zp,qd]at A
  |j=>simp[zp,qd]at A
  |cl c=>simp[zp,qd]at A
  |ar t =>
   simp only[zp,qd,List.cons.injEq,true_and]at A;exact⟨t,rfl,A,B⟩
theorem za4(x:Ty):ZO (qd x)=!qm x:=by
 cases x with
 |i=>rfl
 |j=>rfl
 |cl c=>simp[ZO,qd,qm]
 |ar x=>simp[ZO,qd,qm]
theorem Qca{cs:List qa}{x y:Ty}(h:qm x=false\/qm y=false):ZA cs x y=decide (x=y):=by
 cases x<;>cases y<;>first|rfl|(rcases h with h|h<;>cases h)
def zz:Kd->Bool
 |.ty x=>qm x
 |_=>false
theorem Qdr{l:List qa}:∀a:List qa,zi ZF a l=0->∀c∈l,qf c=0:=by
 induction l with
 |nil=>intro a _ c B;cases B
 |cons d r D =>
  intro a h c B;rw[zi]at h;by_cases A:ZF d a=0
  ·rw[if_pos A]at h;rcases List.mem_cons.1 B with rfl|B
   ·unfold ZF at A;by_cases C:qf c≠0
    ·rw[if_pos C]at A;exact absurd A C
    ·simpa using C
   ·exact D _ h c B
  ·rw[if_neg A]at h;exact absurd h A
theorem zds{l:List qa}(h:Zp l=0):∀c∈l,qf c=0:=by
 unfold Zp at h;split at h
 ·cases h
 ·split at h
  ·rename_i A;exact absurd h A
  ·rename_i A;exact Qdr [] (by simpa using A)
theorem QbA{cs:List qa}{n:Str}{f:Bool}(h:Zv cs n f=0):∃c,Qb cs n=some c/\c.face=f:=by
 unfold Zv at h;split at h
 ·cases h
 ·rename_i c A;refine⟨c,A,?_⟩;split at h
  ·assumption
  ·cases h
theorem ZbP{cs:List qa}{c:qa}(h:qE cs c=0):Zv cs c.super false=0/\∀a∈c.faces,Zv cs a true=0:=by
 unfold qE at h;split at h
 ·cases h
 ·split at h
  ·cases h
  ·split at h
   ·cases h
   ·split at h
    ·rename_i A;exact absurd h A
    ·rename_i A;split at h
     ·rename_i B;exact absurd h B
     ·rename_i B;exact⟨by simpa using A,Zak (by simpa using B)⟩
theorem qcT(l:List Str)(x:Str):x∈zaf l↔x∈l:=by
 rw[<-qA,Qa3,qA]
theorem ZdM(m l:List Str)(k:Nat)(x:Str)(h:l[k]? = some x):zaK m (l.drop k)=if Q4 m x then x else zaK m (l.drop (k+1)):=by
 obtain⟨A,rfl⟩:=List.getElem?_eq_some_iff.1 h;rw[List.drop_eq_getElem_cons A];rfl
theorem zh.face_line{l:List qa}(h:zh l){c:Str}(G:(Qb (Za l) c).isSome=true)(D:(Ze (Za l) c).face=true):Zl (Za l) c=[c,Zg]:=by
 rw[Option.isSome_iff_exists]at G;obtain⟨d,F⟩:=G;have B:d∈Za l:=List.mem_of_find?_eq_some F;have E:Ze (Za l) c=d:=by unfold Ze;rw[F];rfl
 rw[E]at D;unfold Za at B;rcases List.mem_cons.1 B with rfl|B
 ·cases D
 ·rcases List.mem_cons.1 B with rfl|B
  ·cases D
  ·have A:=h.joined d B;have H:d.super=Zg:=by
    unfold qE at A;split at A
    ·cases A
    ·split at A
     ·cases A
     ·split at A
      ·cases A
      ·split at A
       ·rename_i C;exact absurd A C
       ·split at A
        ·rename_i C;exact absurd A C
        ·split at A
         ·cases A
         ·rename_i C;simp[D]at C;exact C
   rw[h.line_up (by rw[F];rfl) (by rw[E,H];decide),E,H,zh.line_top (show(Ze (Za l) Zg).super.size=0 from rfl)]
theorem zh.line_noface{l:List qa}(h:zh l):∀c,(Qb (Za l) c).isSome=true->∀d∈Zl (Za l) c,d≠c->(Ze (Za l) d).face=false:=by
 refine h.line_ind _ (fun x E F d A B=>?_) (fun x E F M d A B=>?_)
 ·rw[zh.line_top F]at A;simp at A;exact absurd A B
 ·rcases(h.line_mem E).1 A with rfl|⟨_,A⟩
  ·exact absurd rfl B
  ·by_cases H:d=(Ze (Za l) x).super
   ·rw[Option.isSome_iff_exists]at E;obtain⟨c,I⟩:=E;have C:c∈Za l:=List.mem_of_find?_eq_some I;have D:Ze (Za l) x=c:=(by unfold Ze;rw[I];rfl);rw[H,D];unfold Za at C;rcases List.mem_cons.1 C with rfl|C
    ·rw[D]at F;exact absurd rfl F
    ·rcases List.mem_cons.1 C with rfl|C
     ·rfl
     ·obtain⟨J,_⟩:=ZbP (h.joined c C);obtain⟨e,L,G⟩:=QbA J;unfold Ze;rw[L];exact G
   ·exact M d A H
theorem zh.classes{l:List qa}(h:zh l){c d:Str}(E:(Qb (Za l) c).isSome=true)(F:(Qb (Za l) d).isSome=true)(D:c≠d):
 (if ((Ze (Za l) c).face||(Ze (Za l) d).face)=true then Zg else QbR (Za l) c d)=QbR (Za l) c d:=by
 by_cases A:((Ze (Za l) c).face||(Ze (Za l) d).face)=true
 ·rw[if_pos A];obtain⟨B,C⟩:=h.tree.lub1 c d E F;rw[Bool.or_eq_true]at A;rcases A with A|A
  ·rw[h.face_line E A]at B;simp at B;rcases B with B|B
   ·rw[B]at C;have:=h.line_noface d F c C D;rw[A]at this;cases this
   ·exact B.symm
  ·rw[h.face_line F A]at C;simp at C;rcases C with C|C
   ·rw[C]at B;have:=h.line_noface c E d B (fun h=>D h.symm);rw[A]at this;cases this
   ·exact C.symm
 ·rw[if_neg A]
theorem zcb{cs:List qa}{x y:Ty}(A:x≠y)(h:qm x=false\/qm y=false):q8 cs x y=none:=by
 cases x<;>cases y<;>first|rfl|(exact absurd rfl A)|(rcases h with h|h<;>cases h)
theorem Qej{cs:List qa}{x y:Kd}(B:x≠y)(C:¬(x=.n/\zz y=true))(D:¬(y=.n/\zz x=true))(h:zz x=false\/zz y=false):zY cs x y=.t:=by
 cases x with
 |n=>cases y with
  |n=>exact absurd rfl B
  |t=>rfl
  |ty z =>
   rw[Qa4];cases A:qm z with
   |true=>exact absurd ⟨rfl,A⟩ C
   |false=>rfl
 |t=>cases y<;>rfl
 |ty u=>cases y with
  |n =>
   rw[za5];cases A:qm u with
   |true=>exact absurd ⟨rfl,A⟩ D
   |false=>rfl
  |t=>rfl
  |ty v =>
   rw[zaD,zcb (fun e=>B (by rw[e])) h]
theorem ZeK{cs:List qa}{x y:Ty}(B:qm x=true)(C:qm y=true):∃z,zY cs (.ty x) (.ty y)=.ty z/\zY cs (.ty (.ar x)) (.ty (.ar y))=.ty (.ar z):=by
 obtain⟨z,A⟩:=zdP (cs:=cs) B C;refine⟨z,by rw[zaD,A],?_⟩;rw[zaD];unfold q8;rw[A]
theorem QcK{cs:List qa}{x y:Ty}(A:x≠y)(h:qm x=false\/qm y=false):zY cs (.ty (.ar x)) (.ty (.ar y))=.ty (.cl Zg):=by
 rw[zaD];unfold q8;rw[zcb A h]
theorem Zcb{l:List qa}(C:∀c∈l,qf c=0){x:Str}(D:(Qb (Za l) x).isSome=true):Zx (lst x)=true:=by
 obtain⟨c,A,rfl⟩:=Za7 D;unfold Za at A;rcases List.mem_cons.1 A with rfl|A
 ·decide
 ·rcases List.mem_cons.1 A with rfl|A
  ·decide
  ·have h:=C c A;unfold qf at h;split at h
   ·cases h
   ·rename_i B;rw[Bool.not_eq_true,Bool.or_eq_false_iff,Bool.not_eq_false']at B;exact B.1
theorem zbv{l:List qa}(A:∀c∈l,qf c=0):∀x:Ty,zN (Za l) x=true->ZaI x=true
 |.i,_=>rfl
 |.j,_=>rfl
 |.cl _,h=>Zcb A h
 |.ar x,h=>zbv A x h
theorem ZbT:∀x:Ty,ZaI x=true->QA (qd (Zay x))=(qd (Zay x)).length
 |.i,_=>rfl
 |.j,_=>rfl
 |.cl c,h=>by
  have A:=qdr (qen (c:=lst c) h);show(if (76:UInt8)=73\/(76:UInt8)=74 then 1 else if (76:UInt8)=76 then (if Zn (lst c++[59])<(lst c++[59]).length/\Zx ((lst c++[59]).take (Zn (lst c++[59])))=true then Zn (lst c++[59])+2 else 0) else 0)=(76::(lst c++[59])).length
  rw[if_neg (by decide),if_pos rfl,A,List.take_left,if_pos ⟨by simp,h⟩];simp
 |.ar x,h=>ZbT x h
theorem qcb:∀x:Ty,(qd x).length=ZD x+(qd (Zay x)).length
 |.i=>rfl
 |.j=>rfl
 |.cl c=>by simp[ZD,Zay]
 |.ar x=>by
  have:=qcb x;simp only[qd,ZD,Zay,List.length_cons];omega
theorem Qbe{x:Ty}(A:ZaI x=true)(B:ZD x<=3):qo (qd x)=true:=by
 have C:=ZbT x A;have D:=qcb x;have E:0<(qd (Zay x)).length:=List.length_pos_iff.2 (zbw _);unfold qo Qn;rw[za7,qda,if_pos ⟨B,by omega⟩,Bool.and_eq_true,beq_iff_eq];refine⟨?_,by omega⟩;cases h:qd x with
 |nil=>exact absurd h (zbw x)
 |cons _ _=>rfl
theorem ZaM{x:Ty}(h:qo (qd x)=true):ZD x<=3:=by
 unfold qo Qn at h;rw[za7,Bool.and_eq_true,beq_iff_eq]at h;have B:0<(qd x).length:=List.length_pos_iff.2 (zbw _);split at h
 ·rename_i A;exact A.1
 ·omega
def qbm:Kd->Nat
 |.ty x=>ZD x
 |_=>0
theorem zcx{x:Ty}(h:ZaI x=true)(A:ZD x<=3):QaF (qd x)=zG x:=by
 obtain⟨y,B,C,_⟩:=qa4 (qd x) (Qbe h A);rw[C,Zbe B]
theorem QbF{l:List qa}(F:∀c∈l,qf c=0){k:Str}{x:Kd}(h:Za0 (Za l) k x)(C:qbm x<=3):Qg (Za l) k=0:=by
 obtain⟨G,E⟩:=h;unfold Qg;rw[<-G];cases x with
 |n=>exact if_pos (Or.inl rfl)
 |t=>exact if_pos (Or.inr rfl)
 |ty y =>
  have D:=zbv F y E;have A:∀z:Ty,qd z≠[78]/\qd z≠[84]:=fun z=>by cases z<;>simp[qd]
  show(if qd y=[78]\/qd y=[84] then 0 else if !qo (qd y) then 1 else if (QaF (qd y)).isEmpty then 0 else if (Qb (Za l) (str (QaF (qd y)))).isSome then 0 else 3)=0
  rw[if_neg (fun h=>by rcases h with h|h;exact(A y).1 h;exact(A y).2 h),Qbe D C,if_neg (by decide),zcx D C];rcases Qb3 y E with B|B
  ·rw[B];rfl
  ·rw[B];split<;>rfl
theorem zbd{cs:List qa}{k:Str}{x:Kd}(h:Za0 cs k x)(A:Qg cs k=0):qbm x<=3:=by
 cases x with
 |n=>exact Nat.zero_le _
 |t=>exact Nat.zero_le _
 |ty y =>
  unfold Qg at A;rw[<-h.1]at A;have B:∀z:Ty,qd z≠[78]/\qd z≠[84]:=fun z=>by cases z<;>simp[qd]
  change (if qd y=[78]\/qd y=[84] then 0 else if !qo (qd y) then 1 else _)=0 at A;rw[if_neg (fun h=>by rcases h with h|h;exact(B y).1 h;exact(B y).2 h)]at A;cases C:qo (qd y) with
  |true=>exact ZaM C
  |false=>rw[C]at A;cases A
theorem Qcb{cs:List qa}:∀{x y z:Ty},q8 cs x y=some z->ZD z<=max (ZD x) (ZD y)
 |.i,.i,_,h=>by cases h;exact Nat.zero_le _
 |.j,.j,_,h=>by cases h;exact Nat.zero_le _
 |.cl _,.cl _,_,h=>by cases h;exact Nat.zero_le _
 |.ar a,.ar b,z,h=>by
  unfold q8 at h;cases A:q8 cs a b with
  |some w =>
   rw[A]at h;cases h;have:=Qcb A;simp only[ZD];omega
  |none=>rw[A]at h;cases h;exact Nat.zero_le _
 |.ar _,.cl _,_,h=>by cases h;exact Nat.zero_le _
 |.cl _,.ar _,_,h=>by cases h;exact Nat.zero_le _
 |.i,.j,_,h=>by cases h
 |.i,.cl _,_,h=>by cases h
 |.i,.ar _,_,h=>by cases h
 |.j,.i,_,h=>by cases h
 |.j,.cl _,_,h=>by cases h
 |.j,.ar _,_,h=>by cases h
 |.cl _,.i,_,h=>by cases h
 |.cl _,.j,_,h=>by cases h
 |.ar _,.i,_,h=>by cases h
 |.ar _,.j,_,h=>by cases h
theorem Zds{cs:List qa}(x y:Kd):qbm (zY cs x y)<=max (qbm x) (qbm y):=by
 cases x with
 |n=>cases y with
  |n=>exact Nat.zero_le _
  |t=>exact Nat.zero_le _
  |ty z =>
   rw[Qa4];split
   ·exact Nat.le_max_right _ _
   ·exact Nat.zero_le _
 |t=>cases y<;>exact Nat.zero_le _
 |ty u=>cases y with
  |n =>
   rw[za5];split
   ·exact Nat.le_max_left _ _
   ·exact Nat.zero_le _
  |t=>exact Nat.zero_le _
  |ty v =>
   rw[zaD];cases A:q8 cs u v with
   |some z=>exact Qcb A
   |none=>exact Nat.zero_le _
theorem qeh{l:List qa}(A:∀c∈l,qf c=0){a b z:Str}{x y:Kd}(B:Za0 (Za l) a x)(C:Za0 (Za l) b y)(D:Qg (Za l) a=0)(E:Qg (Za l) b=0)(F:Za0 (Za l) z (zY (Za l) x y)):Qg (Za l) z=0:=by
 have G:=zbd B D;have H:=zbd C E;have I:=Zds (cs:=Za l) x y;exact QbF A F (by omega)
def qN:zg:=⟨.empty,.empty,false,false,false,0,[],[]⟩
def QY(n:Str):List qH->Option qH
 |[]=>none
 |f::r=>if f.name=n then some f else QY n r
theorem Qc6(n:Str)(l:List qH)(k:Nat)(x:qH)(h:l[k]? = some x):QY n (l.drop k)=if x.name=n then some x else QY n (l.drop (k+1)):=by
 obtain⟨A,rfl⟩:=List.getElem?_eq_some_iff.1 h;rw[List.drop_eq_getElem_cons A];rfl
def Q9(cs:List qa)(n:Str):List Str->Option (Str×qH)
 |[]=>none
 |c::r=>match QY n (Ze cs c).fields with
  |some f=>some (c,f)
  |none=>Q9 cs n r
theorem Zc6(cs:List qa)(n:Str)(l:List Str)(k:Nat)(x:Str)(h:l[k]? = some x):Q9 cs n (l.drop k)=match QY n (Ze cs x).fields with
 |some f=>some (x,f)
 |none=>Q9 cs n (l.drop (k+1)):=by
 obtain⟨A,rfl⟩:=List.getElem?_eq_some_iff.1 h;rw[List.drop_eq_getElem_cons A];rfl
def zaR(n t:Str):List zg->Option zg
 |[]=>none
 |m::r=>if m.name=n/\m.type=t then some m else zaR n t r
theorem qdI(n t:Str)(l:List zg)(k:Nat)(x:zg)(h:l[k]? = some x):zaR n t (l.drop k)=if x.name=n/\x.type=t then some x else zaR n t (l.drop (k+1)):=by
 obtain⟨A,rfl⟩:=List.getElem?_eq_some_iff.1 h;rw[List.drop_eq_getElem_cons A];rfl
def Zaf(cs:List qa)(n t:Str):List Str->Option (Str×zg)
 |[]=>none
 |c::r=>match zaR n t (Ze cs c).methods with
  |some m=>some (c,m)
  |none=>Zaf cs n t r
theorem zcJ(cs:List qa)(n t:Str)(l:List Str)(k:Nat)(x:Str)(h:l[k]? = some x):Zaf cs n t (l.drop k)=match zaR n t (Ze cs x).methods with
 |some m=>some (x,m)
 |none=>Zaf cs n t (l.drop (k+1)):=by
 obtain⟨A,rfl⟩:=List.getElem?_eq_some_iff.1 h;rw[List.drop_eq_getElem_cons A];rfl
def qO(cs:List qa)(n t:Str)(a:Bool):List Str->Option (Str×zg)
 |[]=>none
 |c::r=>match zaR n t (Ze cs c).methods with
  |some m=>if ((Ze cs c).face&&(m.abs==a))=true then some (c,m) else qO cs n t a r
  |none=>qO cs n t a r
theorem qdl(cs:List qa)(n t:Str)(a:Bool)(l:List Str)(k:Nat)(x:Str)(h:l[k]? = some x):qO cs n t a (l.drop k)=match zaR n t (Ze cs x).methods with
 |some m=>if ((Ze cs x).face&&(m.abs==a))=true then some (x,m) else qO cs n t a (l.drop (k+1))
 |none=>qO cs n t a (l.drop (k+1)):=by
 obtain⟨A,rfl⟩:=List.getElem?_eq_some_iff.1 h;rw[List.drop_eq_getElem_cons A];rfl
def qaH(cs:List qa)(cls n:Str):Option (Str×qH):=Q9 cs n (Zl cs cls)
def ZL(cs:List qa)(cls n t:Str):Option (Str×zg) :=
 match Zaf cs n t (Zl cs cls) with
 |some x=>some x
 |none=>match qO cs n t false (zaf (zj cs cls)) with
  |some x=>some x
  |none=>qO cs n t true (zaf (zj cs cls))
theorem zh.line_nodup{l:List qa}(h:zh l):∀c,(Qb (Za l) c).isSome=true->(Zl (Za l) c).Nodup:=by
 refine h.line_ind _ (fun x A B=>?_) (fun x A B H=>?_)
 ·rw[zh.line_top B];simp
 ·rw[h.line_up A B,List.nodup_cons];refine⟨fun E=>?_,H⟩;obtain⟨C,D⟩:=h.up A B;have F:(Ze (Za l) x).super∈Zl (Za l) x:=(h.line_mem A).2 (Or.inr ⟨B,Zab _⟩);have G:=h.tree.anti _ _ A C F E;rw[<-G]at D;omega
def Zaq(cs:List qa)(c:Str):List (Str×qH):=(Ze cs c).fields.map fun f=>(c,f)
def zO(cs:List qa)(line:List Str):List (Str×qH):=line.flatMap (Zaq cs)
def zU(cs:List qa)(c:Str):List (Str×qH):=zO cs (Zl cs c).reverse
def Qq(l:List (Str×qH)):List Str:=l.map fun x=>x.2.type
theorem qas(cs:List qa)(a b:List Str):zO cs (a++b)=zO cs a++zO cs b:=by
 unfold zO;rw[List.flatMap_append]
theorem qaL(cs:List qa)(c:Str):zO cs [c]=Zaq cs c:=by
 unfold zO;simp
theorem Ze5{l:List qa}(h:zh l){c:Str}(A:(Qb (Za l) c).isSome=true)(B:(Ze (Za l) c).super.size≠0):
 zU (Za l) c=zU (Za l) (Ze (Za l) c).super++Zaq (Za l) c:=by
 unfold zU;rw[h.line_up A B,List.reverse_cons,qas,qaL]
theorem Zbn(a:List (Str×qH)):(Qq a).length=a.length:=by
 unfold Qq;rw[List.length_map]
def zV{α:Type}[DecidableEq α](x:α):List α->Option Nat
 |[]=>none
 |y::r=>if x=y then some 0 else (zV x r).map (· + 1)
def Qfm:Option Nat->Int
 |some n=>n
 |none=>-1
theorem Zcx{α:Type}[DecidableEq α]{x:α}{b:List α}:∀{a:List α} {k:Nat},zV x a=some k->zV x (a++b)=some k
 |[],_,h=>by cases h
 |y::r,k,h=>by
  unfold zV at h;show(if x=y then some 0 else (zV x (r++b)).map (· + 1))=some k
  by_cases B:x=y
  ·rw[if_pos B]at h ⊢;exact h
  ·rw[if_neg B]at h ⊢;cases A:zV x r with
   |none=>rw[A]at h;cases h
   |some j=>rw[A]at h;rw[Zcx A];exact h
theorem zcc{α:Type}[DecidableEq α]{x:α}{b:List α}:∀{a:List α},x∉a->zV x (a++b)=(zV x b).map (a.length + ·)
 |[],_=>by
  show zV x b=_
  cases zV x b<;>simp
 |y::r,h=>by
  show(if x=y then some 0 else (zV x (r++b)).map (· + 1))=_
  rw[if_neg (fun A=>h (by simp[A])),zcc (fun B=>h (by simp[B]))];cases zV x b with
  |none=>rfl
  |some j=>simp;omega
def qa7(n:Str):List qH->Option Nat
 |[]=>none
 |f::r=>if f.name=n then some 0 else (qa7 n r).map (· + 1)
theorem qbT{n:Str}:∀{l:List qH} {f:qH},QY n l=some f->f.name=n
 |[],_,h=>by cases h
 |g::r,f,h=>by
  unfold QY at h;by_cases A:g.name=n
  ·rw[if_pos A]at h;injection h with h;subst h;exact A
  ·rw[if_neg A]at h;exact qbT h
theorem ZbC{n:Str}:∀{l:List qH},QY n l=none->qa7 n l=none
 |[],_=>rfl
 |g::r,h=>by
  unfold QY at h;unfold qa7;by_cases A:g.name=n
  ·rw[if_pos A]at h;cases h
  ·rw[if_neg A]at h ⊢;rw[ZbC h];rfl
theorem QbT{n c:Str}:∀{l:List qH} {f:qH},QY n l=some f->∃k,qa7 n l=some k/\zV (c,f) (l.map fun f=>(c,f))=some k
 |[],_,h=>by cases h
 |g::r,f,h=>by
  have C:=qbT h;unfold QY at h;unfold qa7;by_cases A:g.name=n
  ·rw[if_pos A]at h ⊢;injection h with h;subst h
   exact⟨0,rfl,by simp[zV]⟩
  ·rw[if_neg A]at h ⊢;obtain⟨k,D,E⟩:=QbT (c:=c) h;refine⟨k+1,by rw[D];rfl,?_⟩;show(if (c,f)=(c,g) then some 0 else (zV (c,f) (r.map fun f=>(c,f))).map (· + 1))=_
   rw[if_neg (fun B=>A (by injection B with _ B;rw[<-B];exact C)),E];rfl
def zbU(cs:List qa)(n:Str):List Str->Option Nat
 |[]=>none
 |c::r=>match qa7 n (Ze cs c).fields with
  |some i=>some ((zO cs r.reverse).length+i)
  |none=>zbU cs n r
def zat(cs:List qa)(c n:Str):Option Nat:=zbU cs n (Zl cs c)
theorem Qda{cs:List qa}{c:Str}{f:qH}{A:List Str}(h:(c,f)∈zO cs A):c∈A:=by
 unfold zO at h;obtain⟨d,D,C⟩:=List.mem_flatMap.1 h;unfold Zaq at C;obtain⟨g,_,B⟩:=List.mem_map.1 C;injection B with B _
 rw[<-B];exact D
theorem QcT(cs:List qa)(n:Str):∀A:List Str,A.Nodup ->
 (match Q9 cs n A with
 |some x=>∃k,zbU cs n A=some k/\zV x (zO cs A.reverse)=some k
 |none=>zbU cs n A=none)
 |[],_=>rfl
 |c::r,B=>by
  rw[List.nodup_cons]at B;have C:=QcT cs n r B.2;unfold Q9 zbU;rw[List.reverse_cons,qas,qaL];cases F:QY n (Ze cs c).fields with
  |some f =>
   obtain⟨k,D,E⟩:=QbT (c:=c) F;refine⟨_,by rw[D],?_⟩;rw[zcc (fun H=>B.1 (List.mem_reverse.1 (Qda H)))];unfold Zaq;rw[E];rfl
  |none =>
   rw[ZbC F];dsimp only;cases G:Q9 cs n r with
   |some x =>
    rw[G]at C;obtain⟨k,D,E⟩:=C;exact⟨k,D,Zcx E⟩
   |none=>rw[G]at C;exact C
theorem qds{l:List qa}(h:zh l){c n:Str}(A:(Qb (Za l) c).isSome=true):
 match qaH (Za l) c n with
 |some x=>∃k,zat (Za l) c n=some k/\zV x (zU (Za l) c)=some k
 |none=>zat (Za l) c n=none:=QcT (Za l) n _ (h.line_nodup c A)
end Go.Proofs.YtmclocdhcblbiaaGreatDoor
