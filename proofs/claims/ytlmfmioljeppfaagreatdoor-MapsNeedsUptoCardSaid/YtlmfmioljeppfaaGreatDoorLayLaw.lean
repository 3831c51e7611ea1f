/- Lemmas; conditions: as each states. -/
import Derived.Test.YtlmfmioljeppfaaGreatDoorLineLaw
import Derived.Sort.Walk0
set_option maxHeartbeats 4000000
namespace Go.Proofs.YtlmfmioljeppfaaGreatDoor
open Go.RowKit Go.Shelf Go.Lib
inductive Ty where
 |i:Ty
 |j:Ty
 |cl:Str->Ty
 |ar:Ty->Ty
 deriving DecidableEq
inductive Kd where
 |n:Kd
 |t:Kd
 |ty:Ty->Kd
 deriving DecidableEq
def Zf:Ty->List UInt8
 |.i=>[73]
 |.j=>[74]
 |.cl c=>76::(lst c++[59])
 |.ar x=>91::Zf x
def Qo:Kd->List UInt8
 |.n=>[78]
 |.t=>[84]
 |.ty x=>Zf x
def qH(cs:List Qb):Ty->Bool
 |.i=>true
 |.j=>true
 |.cl c=>(Qc cs c).isSome
 |.ar x=>qH cs x
def qK(cs:List Qb):Kd->Bool
 |.ty x=>qH cs x
 |_=>true
def zm:Ty->Bool
 |.i=>false
 |.j=>false
 |_=>true
def qA:Ty->List UInt8
 |.cl c=>lst c
 |.ar x=>qA x
 |_=>[]
def ZV(cs:List Qb):Ty->Ty->Bool
 |.i,.i=>true
 |.j,.j=>true
 |.cl c,.cl d=>QK (Qk cs c) d
 |.ar _,.cl d=>decide (d=qg)
 |.ar a,.ar b=>ZV cs a b
 |_,_=>false
def Zx(cs:List Qb):Kd->Kd->Bool
 |_,.t=>true
 |.n,.n=>true
 |.n,.ty y=>zm y
 |.ty x,.ty y=>ZV cs x y
 |_,_=>false
def Zah(m:List Str):List Str->Str
 |[]=>qg
 |c::r=>if QK m c then c else Zah m r
def zbb(cs:List Qb)(c d:Str):Str:=Zah (Zq cs d) (Zq cs c)
def qZ(cs:List Qb):Ty->Ty->Option Ty
 |.i,.i=>some .i
 |.j,.j=>some .j
 |.cl c,.cl d=>some (.cl (zbb cs c d))
 |.ar a,.ar b=>match qZ cs a b with
  |some x=>some (.ar x)
  |none=>some (.cl qg)
 |.ar _,.cl _=>some (.cl qg)
 |.cl _,.ar _=>some (.cl qg)
 |_,_=>none
def QT(cs:List Qb):Kd->Kd->Kd
 |.n,.n=>.n
 |.n,.ty y=>if zm y then .ty y else .t
 |.ty x,.n=>if zm x then .ty x else .t
 |.ty x,.ty y=>match qZ cs x y with
  |some z=>.ty z
  |none=>.t
 |_,_=>.t
def Qba(cs:List Qb):Ty->Ty->Prop
 |.i,.i=>True
 |.j,.j=>True
 |.cl c,.cl d=>d∈Zq cs c
 |.ar _,.cl d=>d=qg
 |.ar a,.ar b=>Qba cs a b
 |_,_=>False
def qap(cs:List Qb):Kd->Kd->Prop
 |_,.t=>True
 |.n,.n=>True
 |.n,.ty y=>zm y=true
 |.ty x,.ty y=>Qba cs x y
 |_,_=>False
theorem qaA(x:Ty):Zf x≠[]:=by cases x<;>simp[Zf]
theorem zaE:∀{x y:Ty},Zf x=Zf y->x=y
 |.i,.i,_=>rfl
 |.j,.j,_=>rfl
 |.cl c,.cl d,h=>by
  simp only[Zf,List.cons.injEq,true_and,List.append_cancel_right_eq]at h;rw[ByteArray.ext (Array.toList_inj.1 h)]
 |.ar a,.ar b,h=>by
  simp only[Zf,List.cons.injEq,true_and]at h;rw[zaE h]
 |.i,.j,h=>by simp[Zf]at h
 |.i,.cl _,h=>by simp[Zf]at h
 |.i,.ar _,h=>by simp[Zf]at h
 |.j,.i,h=>by simp[Zf]at h
 |.j,.cl _,h=>by simp[Zf]at h
 |.j,.ar _,h=>by simp[Zf]at h
 |.cl _,.i,h=>by simp[Zf]at h
 |.cl _,.j,h=>by simp[Zf]at h
 |.cl _,.ar _,h=>by simp[Zf]at h
 |.ar _,.i,h=>by simp[Zf]at h
 |.ar _,.j,h=>by simp[Zf]at h
 |.ar _,.cl _,h=>by simp[Zf]at h
theorem Zbh{x y:Kd}(h:Qo x=Qo y):x=y:=by
 have A:∀z:Ty,Zf z≠[78]/\Zf z≠[84]:=fun z=>by cases z<;>simp[Zf]
 cases x with
 |n=>cases y with
  |n=>rfl
  |t=>simp[Qo]at h
  |ty z=>exact absurd h.symm (A z).1
 |t=>cases y with
  |n=>simp[Qo]at h
  |t=>rfl
  |ty z=>exact absurd h.symm (A z).2
 |ty z=>cases y with
  |n=>exact absurd h (A z).1
  |t=>exact absurd h (A z).2
  |ty B=>rw[zaE h]
theorem Qb5:∀r:List UInt8,zw r+1=r.length->r=r.take (zw r)++[59]
 |[],h=>by simp[zw]at h
 |c::r,h=>by
  unfold zw at h ⊢;by_cases A:c=59
  ·subst A;simp only[if_true]at h ⊢;simp only[List.length_cons]at h;have:r=[]:=List.length_eq_zero_iff.1 (by omega);subst this;rfl
  ·simp only[if_neg A]at h ⊢;simp only[List.length_cons]at h;rw[List.take_succ_cons,List.cons_append,<-Qb5 r (by omega)]
def zao:Ty->Bool
 |.cl c=>qt (lst c)
 |.ar x=>zao x
 |_=>true
theorem Qav:∀s:List UInt8,Zs s=true->∃x:Ty,Zf x=s/\zak s=qA x/\zao x=true
 |[],h=>by cases h
 |c::r,h=>by
  unfold Zs at h;rw[Bool.and_eq_true,beq_iff_eq]at h;obtain⟨_,h⟩:=h;by_cases F:c=91
  ·subst F;have A:Qu (91::r)=Qu r+1:=(by simp[Qu]);unfold ZA at h;rw[A]at h;simp only[List.drop_succ_cons,List.length_cons]at h;split at h
   ·rename_i D;have J:Zs r=true:=by
     unfold Zs ZA;rw[if_pos ⟨by omega,D.2⟩,Bool.and_eq_true,beq_iff_eq];refine⟨?_,by omega⟩;cases r with
     |nil=>simp[Qu,ZT]at D
     |cons _ _=>rfl
    obtain⟨x,L,I,C⟩:=Qav r J;refine⟨.ar x,by rw[Zf,L],?_,C⟩;unfold zak at I ⊢;rw[A,List.drop_succ_cons];exact I
   ·omega
  ·have A:Qu (c::r)=0:=(by simp[Qu,F]);unfold ZA at h;rw[A]at h;simp only[List.drop_zero,List.length_cons]at h;split at h
   ·rename_i D;unfold ZT at h;simp only at h;by_cases B:c=73\/c=74
    ·rw[if_pos B]at h;have:r=[]:=List.length_eq_zero_iff.1 (by omega);subst this;rcases B with rfl|rfl
     ·exact⟨.i,rfl,rfl,rfl⟩
     ·exact⟨.j,rfl,rfl,rfl⟩
    ·rw[if_neg B]at h;by_cases G:c=76
     ·subst G;rw[if_pos rfl]at h;split at h
      ·rename_i E;have hs:=Qb5 r (by omega);have H:(r.take (zw r)).length=zw r:=(by rw[List.length_take];omega);refine⟨.cl (str (r.take (zw r))),?_,?_,E.2⟩
       ·show 76::(r.take (zw r)++[59])=_
        rw[<-hs]
       ·unfold zak;rw[A];show r.take (r.length-1)=r.take (zw r)
        congr 1;omega
      ·omega
     ·rw[if_neg G]at h;omega
   ·omega
def zd(cs:List Qb)(k:Str):Nat :=
 if lst k=[78]\/lst k=[84] then 0
 else if !Zs (lst k) then 1
 else if (zak (lst k)).isEmpty then 0
 else if (Qc cs (str (zak (lst k)))).isSome then 0 else 3
theorem qco{cs:List Qb}:∀x:Ty,zao x=true->(qA x=[]\/(Qc cs (str (qA x))).isSome=true)->qH cs x=true
 |.i,_,_=>rfl
 |.j,_,_=>rfl
 |.cl c,h,g=>by
  rcases g with A|A
  ·exact absurd A (by unfold zao at h;intro B;unfold qA at B;rw[B]at h;cases h)
  ·exact A
 |.ar x,h,g=>qco x h g
theorem QbC{cs:List Qb}:∀x:Ty,qH cs x=true->qA x=[]\/(Qc cs (str (qA x))).isSome=true
 |.i,_=>Or.inl rfl
 |.j,_=>Or.inl rfl
 |.cl _,h=>Or.inr h
 |.ar x,h=>QbC x h
theorem ZM{cs:List Qb}{k:Str}(h:zd cs k=0):∃x:Kd,Qo x=lst k/\qK cs x=true:=by
 unfold zd at h;split at h
 ·rename_i A;rcases A with A|A
  ·exact⟨.n,A.symm,rfl⟩
  ·exact⟨.t,A.symm,rfl⟩
 ·split at h
  ·cases h
  ·rename_i E;obtain⟨x,B,C,D⟩:=Qav (lst k) (by simpa using E);refine⟨.ty x,B,qco x D ?_⟩;rw[C]at h;split at h
   ·rename_i F;exact Or.inl (List.isEmpty_iff.1 F)
   ·split at h
    ·rename_i G;exact Or.inr G
    ·cases h
structure zbp (cs:List Qb):Prop where
 refl:∀c,c∈Zq cs c
 trans:∀c d e,(Qc cs c).isSome=true->d∈Zq cs c->e∈Zq cs d->e∈Zq cs c
 anti:∀c d,(Qc cs c).isSome=true->(Qc cs d).isSome=true->d∈Zq cs c->c∈Zq cs d->c=d
 known:∀c d,(Qc cs c).isSome=true->d∈Zq cs c->(Qc cs d).isSome=true
 top:∀c,(Qc cs c).isSome=true->qg∈Zq cs c
 root:∀d,d∈Zq cs qg->d=qg
 lub1:∀c d,(Qc cs c).isSome=true->(Qc cs d).isSome=true->zbb cs c d∈Zq cs c/\zbb cs c d∈Zq cs d
 lub2:∀c d e,(Qc cs c).isSome=true->(Qc cs d).isSome=true->e∈Zq cs c->e∈Zq cs d->e∈Zq cs (zbb cs c d)
theorem Zk.line_mem{l:List Qb}(h:Zk l){x y:Str}(B:(Qc (Za l) x).isSome=true):y∈Zq (Za l) x↔y=x\/((qh (Za l) x).super.size≠0/\y∈Zq (Za l) (qh (Za l) x).super):=by
 by_cases A:(qh (Za l) x).super.size=0
 ·rw[Zk.line_top A];simp[A]
 ·rw[h.line_up B A,List.mem_cons];simp[A]
theorem zal{cs:List Qb}(x:Str):x∈Zq cs x:=by unfold Zq;rw[Qbk];simp
theorem Zk.line_ind{l:List Qb}(h:Zk l)(P:Str->Prop)(D:∀x,(Qc (Za l) x).isSome=true->(qh (Za l) x).super.size=0->P x)(E:∀x,(Qc (Za l) x).isSome=true->(qh (Za l) x).super.size≠0->P (qh (Za l) x).super->P x):∀x,(Qc (Za l) x).isSome=true->P x:=by
 have:∀(k:Nat) (x:Str),(Qc (Za l) x).isSome=true->(Qk (Za l) x).length<=k->P x:=by
  intro k;induction k with
  |zero =>
   intro x A G;have:=List.length_pos_of_mem (zo h.closed A).2.1;omega
  |succ k H =>
   intro x A G;by_cases B:(qh (Za l) x).super.size=0
   ·exact D x A B
   ·obtain⟨C,F⟩:=h.up A B;exact E x A B (H _ C (by omega))
 exact fun x A=>this _ x A Xl
theorem Qco{m:List Str}:∀l:List Str,(∃x∈l,x∈m)->Zah m l∈l/\Zah m l∈m
 |[],⟨x,D,_⟩=>by cases D
 |c::r,⟨x,D,E⟩=>by
  unfold Zah;cases C:QK m c with
  |true=>rw[if_pos rfl];exact⟨by simp,Zy.1 C⟩
  |false =>
   rw[if_neg (by decide)];have A:x≠c:=(by rintro rfl;rw[Zy.2 E]at C;cases C);have B:x∈r:=by
    rcases List.mem_cons.1 D with h|h
    ·exact absurd h A
    ·exact h
   obtain⟨F,G⟩:=Qco r ⟨x,B,E⟩;exact⟨by simp[F],G⟩
theorem Zk.tree{l:List Qb}(h:Zk l):zbp (Za l):=by
 have D:∀c d,(Qc (Za l) c).isSome=true->d∈Zq (Za l) c->(Qc (Za l) d).isSome=true:=fun c d B A =>
  (zo h.closed B).1.known d ((h.line_facts _ c B Xl).1 d A)
 have E:∀c,(Qc (Za l) c).isSome=true->∀d e,d∈Zq (Za l) c->e∈Zq (Za l) d->e∈Zq (Za l) c:=by
  refine h.line_ind _ (fun x B H d e A N=>?_) (fun x B H R d e A N=>?_)
  ·rw[Zk.line_top H]at A;simp at A;subst A;exact N
  ·rcases(h.line_mem B).1 A with rfl|⟨_,A⟩
   ·exact N
   ·exact(h.line_mem B).2 (Or.inr ⟨H,R d e A N⟩)
 have O:∀c d,(Qc (Za l) c).isSome=true->(Qc (Za l) d).isSome=true->d∈Zq (Za l) c->c∈Zq (Za l) d->c=d:=by
  intro c d G A C M;rcases(h.line_mem G).1 C with rfl|⟨H,C⟩
  ·rfl
  ·exfalso;obtain⟨L,X⟩:=h.up G H;have T:=E _ L d c C M;have U:=(h.line_facts _ _ L Xl).1 c T;have e:=zo h.closed L;have g:=zo h.closed G;have:=qay (Qk (Za l) c) (Qk (Za l) (qh (Za l) c).super) g.1.nodup (g.2.2.2 (fun x=>x∈Qk (Za l) (qh (Za l) c).super) e.2.2.1 U);omega
 have F:∀c,(Qc (Za l) c).isSome=true->qg∈Zq (Za l) c:=fun c B=>by
  obtain⟨t,Y⟩:=(h.line_facts _ c B Xl).2;rw[Y];simp
 have I:∀d,d∈Zq (Za l) qg->d=qg:=fun d A=>by
  rw[Zk.line_top (show(qh (Za l) qg).super.size=0 from rfl)]at A;simpa using A
 have J:∀c d,(Qc (Za l) c).isSome=true->(Qc (Za l) d).isSome=true->zbb (Za l) c d∈Zq (Za l) c/\zbb (Za l) c d∈Zq (Za l) d:=fun c d G A =>
  Qco _ ⟨qg,F c G,F d A⟩
 have P:∀c,(Qc (Za l) c).isSome=true->∀d e,(Qc (Za l) d).isSome=true->e∈Zq (Za l) c->e∈Zq (Za l) d->e∈Zq (Za l) (zbb (Za l) c d):=by
  refine h.line_ind _ (fun x B H d e A C M=>?_) (fun x B H R d e A C M=>?_)
  ·have V:x=qg:=h.top B H;subst V;rw[I e C];exact F _ (D d _ A (J _ d B A).2)
  ·unfold zbb;rw[h.line_up B H,Zah];cases S:QK (Zq (Za l) d) x with
   |true=>rw[if_pos rfl];exact C
   |false =>
    rw[if_neg (by decide)];rcases(h.line_mem B).1 C with rfl|⟨_,C⟩
    ·rw[Zy.2 M]at S;cases S
    ·exact R d e A C M
 exact⟨zal,fun c d e G A N=>E c G d e A N,O,D,F,I,J,fun c d e G A C M=>P c G d e A C M⟩
theorem Za8(cs:List Qb):∀x,Qba cs x x
 |.i=>trivial
 |.j=>trivial
 |.cl c=>zal c
 |.ar x=>Za8 cs x
theorem zb6{cs:List Qb}:∀{x y:Ty},Qba cs x y->zm x=zm y
 |.i,.i,_=>rfl
 |.j,.j,_=>rfl
 |.cl _,.cl _,_=>rfl
 |.ar _,.cl _,_=>rfl
 |.ar _,.ar _,_=>rfl
theorem Zb6{cs:List Qb}(T:zbp cs):∀{x y z:Ty},qH cs x=true->Qba cs x y->Qba cs y z->Qba cs x z
 |.i,.i,.i,_,_,_=>trivial
 |.j,.j,.j,_,_,_=>trivial
 |.cl c,.cl d,.cl e,C,A,B=>T.trans c d e C A B
 |.ar _,.cl _,.cl e,_,A,B=>by
  have A:_=qg:=A;subst A;exact T.root e B
 |.ar _,.ar _,.cl _,_,_,B=>B
 |.ar a,.ar b,.ar c,C,A,B=>Zb6 T (x:=a) (y:=b) (z:=c) C A B
theorem zcp{cs:List Qb}(T:zbp cs):∀{x y:Ty},qH cs x=true->qH cs y=true->Qba cs x y->Qba cs y x->x=y
 |.i,.i,_,_,_,_=>rfl
 |.j,.j,_,_,_,_=>rfl
 |.cl c,.cl d,A,B,C,D=>by rw[T.anti c d A B C D]
 |.ar a,.ar b,A,B,C,D=>by rw[zcp T (x:=a) (y:=b) A B C D]
theorem Zay(l:List Qb):(Qc (Za l) qg).isSome=true:=rfl
theorem Zcp{cs:List Qb}(T:zbp cs)(C:(Qc cs qg).isSome=true):∀{x y z:Ty},qH cs x=true->qH cs y=true->qZ cs x y=some z->Qba cs x z/\Qba cs y z/\qH cs z=true
 |.i,.i,_,_,_,h=>by cases h;exact⟨trivial,trivial,rfl⟩
 |.j,.j,_,_,_,h=>by cases h;exact⟨trivial,trivial,rfl⟩
 |.cl c,.cl d,_,A,B,h=>by
  cases h;obtain⟨D,F⟩:=T.lub1 c d A B;exact⟨D,F,T.known c _ A D⟩
 |.ar a,.ar b,z,A,B,h=>by
  unfold qZ at h;cases E:qZ cs a b with
  |some w =>
   rw[E]at h;cases h;obtain⟨D,F,G⟩:=Zcp T C (x:=a) (y:=b) A B E;exact⟨D,F,G⟩
  |none=>rw[E]at h;cases h;exact⟨rfl,rfl,C⟩
 |.ar _,.cl d,_,_,B,h=>by cases h;exact⟨rfl,T.top d B,C⟩
 |.cl c,.ar _,_,A,_,h=>by cases h;exact⟨T.top c A,rfl,C⟩
 |.i,.j,_,_,_,h=>by cases h
 |.i,.cl _,_,_,_,h=>by cases h
 |.i,.ar _,_,_,_,h=>by cases h
 |.j,.i,_,_,_,h=>by cases h
 |.j,.cl _,_,_,_,h=>by cases h
 |.j,.ar _,_,_,_,h=>by cases h
 |.cl _,.i,_,_,_,h=>by cases h
 |.cl _,.j,_,_,_,h=>by cases h
 |.ar _,.i,_,_,_,h=>by cases h
 |.ar _,.j,_,_,_,h=>by cases h
theorem qc9{cs:List Qb}(T:zbp cs):∀(x y z:Ty),qH cs x=true->qH cs y=true->Qba cs x z->Qba cs y z->∃w,qZ cs x y=some w/\Qba cs w z:=by
 intro x;induction x with
 |i=>intro y z _ _ B A;cases z<;>cases y<;>first|exact B.elim|exact A.elim|exact⟨_,rfl,trivial⟩
 |j=>intro y z _ _ B A;cases z<;>cases y<;>first|exact B.elim|exact A.elim|exact⟨_,rfl,trivial⟩
 |cl c =>
  intro y z C D B A;cases z with
  |cl e =>
   cases y with
   |cl d=>exact⟨_,rfl,T.lub2 c d e C D B A⟩
   |ar b =>
    have A:e=qg:=A;subst A;exact⟨_,rfl,zal _⟩
   |i=>exact A.elim
   |j=>exact A.elim
  |i=>exact B.elim
  |j=>exact B.elim
  |ar _=>exact B.elim
 |ar a G =>
  intro y z C D B A;cases z with
  |cl e =>
   have B:e=qg:=B;subst B;cases y with
   |cl d=>exact⟨_,rfl,zal _⟩
   |ar b =>
    unfold qZ;cases qZ cs a b with
    |some w=>exact⟨_,rfl,rfl⟩
    |none=>exact⟨_,rfl,zal _⟩
   |i=>exact A.elim
   |j=>exact A.elim
  |ar c =>
   cases y with
   |ar b =>
    obtain⟨w,E,F⟩:=G b c C D B A;exact⟨.ar w,by unfold qZ;rw[E],F⟩
   |cl d=>exact A.elim
   |i=>exact A.elim
   |j=>exact A.elim
  |i=>exact B.elim
  |j=>exact B.elim
theorem Qc9{cs:List Qb}:∀{x y:Ty},zm x=true->zm y=true->∃w,qZ cs x y=some w
 |.cl _,.cl _,_,_=>⟨_,rfl⟩
 |.ar a,.ar b,_,_=>by
  unfold qZ;cases qZ cs a b with
  |some w=>exact⟨_,rfl⟩
  |none=>exact⟨_,rfl⟩
 |.ar _,.cl _,_,_=>⟨_,rfl⟩
 |.cl _,.ar _,_,_=>⟨_,rfl⟩
theorem QaM(cs:List Qb)(y:Ty):QT cs .n (.ty y)=if zm y then .ty y else .t:=rfl
theorem zaN(cs:List Qb)(x:Ty):QT cs (.ty x) .n=if zm x then .ty x else .t:=rfl
theorem zas(cs:List Qb)(x y:Ty):QT cs (.ty x) (.ty y)=match qZ cs x y with
 |some z=>.ty z
 |none=>.t:=rfl
theorem Za7(cs:List Qb):∀x,qap cs x x
 |.n=>trivial
 |.t=>trivial
 |.ty x=>Za8 cs x
theorem zc5{cs:List Qb}(T:zbp cs){x y z:Kd}(C:qK cs x=true)(A:qap cs x y)(B:qap cs y z):qap cs x z:=by
 cases z with
 |t=>cases x<;>trivial
 |n =>
  cases y with
  |n=>exact A
  |t=>exact B.elim
  |ty _=>exact B.elim
 |ty z =>
  cases y with
  |t=>exact B.elim
  |n =>
   cases x with
   |n=>exact B
   |t=>exact A.elim
   |ty _=>exact A.elim
  |ty y =>
   cases x with
   |n =>
    show zm z=true
    rw[<-zb6 (cs:=cs) (x:=y) (y:=z) B];exact A
   |t=>exact A.elim
   |ty x=>exact Zb6 T (x:=x) (y:=y) (z:=z) C A B
theorem zcm{cs:List Qb}(T:zbp cs):∀{x y:Kd},qK cs x=true->qK cs y=true->qap cs x y->qap cs y x->x=y
 |.n,.n,_,_,_,_=>rfl
 |.t,.t,_,_,_,_=>rfl
 |.ty _,.ty _,A,B,C,D=>by rw[zcp T A B C D]
theorem qbA{cs:List Qb}(T:zbp cs)(C:(Qc cs qg).isSome=true){x y:Kd}(A:qK cs x=true)(B:qK cs y=true):qap cs x (QT cs x y)/\qap cs y (QT cs x y)/\qK cs (QT cs x y)=true:=by
 cases x with
 |t=>cases y<;>exact⟨trivial,trivial,rfl⟩
 |n =>
  cases y with
  |n=>exact⟨trivial,trivial,rfl⟩
  |t=>exact⟨trivial,trivial,rfl⟩
  |ty y =>
   rw[QaM];by_cases h:zm y=true
   ·rw[if_pos h];exact⟨h,Za8 cs y,B⟩
   ·rw[if_neg h];exact⟨trivial,trivial,rfl⟩
 |ty x =>
  cases y with
  |n =>
   rw[zaN];by_cases h:zm x=true
   ·rw[if_pos h];exact⟨Za8 cs x,h,A⟩
   ·rw[if_neg h];exact⟨trivial,trivial,rfl⟩
  |t=>exact⟨trivial,trivial,rfl⟩
  |ty y =>
   rw[zas];cases D:qZ cs x y with
   |some z =>
    obtain⟨E,F,G⟩:=Zcp T C (x:=x) (y:=y) A B D;exact⟨E,F,G⟩
   |none=>exact⟨trivial,trivial,rfl⟩
theorem zbX{cs:List Qb}(T:zbp cs){x y z:Kd}(D:qK cs x=true)(E:qK cs y=true)(A:qap cs x z)(B:qap cs y z):qap cs (QT cs x y) z:=by
 cases z with
 |t=>cases QT cs x y<;>trivial
 |n =>
  cases x with
  |t=>exact A.elim
  |ty _=>exact A.elim
  |n =>
   cases y with
   |n=>trivial
   |t=>exact B.elim
   |ty _=>exact B.elim
 |ty z =>
  cases x with
  |t=>exact A.elim
  |n =>
   cases y with
   |n=>exact A
   |t=>exact B.elim
   |ty y =>
    have C:zm y=true:=(by rw[zb6 (cs:=cs) (x:=y) (y:=z) B];exact A);rw[QaM,if_pos C];exact B
  |ty x =>
   cases y with
   |t=>exact B.elim
   |n =>
    have C:zm x=true:=(by rw[zb6 (cs:=cs) (x:=x) (y:=z) A];exact B);rw[zaN,if_pos C];exact A
   |ty y =>
    obtain⟨w,F,G⟩:=qc9 T x y z D E A B;rw[zas,F];exact G
theorem qee{cs:List Qb}(T:zbp cs)(D:(Qc cs qg).isSome=true){x y:Kd}(B:qK cs x=true)(A:qK cs y=true):QT cs x y=y↔qap cs x y:=by
 obtain⟨C,E,F⟩:=qbA T D B A;constructor
 ·intro h;rw[h]at C;exact C
 ·intro h;exact zcm T F A (zbX T B A h (Za7 cs y)) E
theorem zdy{cs:List Qb}(T:zbp cs)(B:(Qc cs qg).isSome=true){x:Kd}(A:qK cs x=true):QT cs x x=x:=(qee T B A A).2 (Za7 cs x)
theorem zb4{l:List Qb}(h:Zk l){c d:Str}(A:(Qc (Za l) c).isSome=true)(B:d∈Zq (Za l) c):d∈Qk (Za l) c:=(h.line_facts _ c A Xl).1 d B
theorem qcp{l:List Qb}(h:Zk l):∀{x y:Ty},qH (Za l) x=true->Qba (Za l) x y->ZV (Za l) x y=true
 |.i,.i,_,_=>rfl
 |.j,.j,_,_=>rfl
 |.cl _,.cl _,B,A=>Zy.2 (zb4 h B A)
 |.ar _,.cl _,_,A=>Xj A
 |.ar a,.ar b,B,A=>qcp h (x:=a) (y:=b) B A
theorem qdq{l:List Qb}(h:Zk l):∀{x y:Kd},qK (Za l) x=true->qap (Za l) x y->Zx (Za l) x y=true
 |.n,.t,_,_=>rfl
 |.t,.t,_,_=>rfl
 |.ty _,.t,_,_=>rfl
 |.n,.n,_,_=>rfl
 |.n,.ty _,_,A=>A
 |.ty _,.ty _,B,A=>qcp h B A
theorem ZcN{l:List Qb}(h:Zk l){c d e:Str}(B:(Qc (Za l) c).isSome=true)(A:d∈Qk (Za l) c)(C:e∈Qk (Za l) d):e∈Qk (Za l) c:=by
 have g:=zo h.closed B;exact(zo h.closed (g.1.known d A)).2.2.2 (fun x=>x∈Qk (Za l) c) g.2.2.1 A e C
theorem ZcA{l:List Qb}(h:Zk l){d:Str}(B:d∈Qk (Za l) qg):d=qg:=by
 refine(zo h.closed (n:=qg) rfl).2.2.2 (fun x=>x=qg) (fun x C a A=>?_) rfl d B;subst C;unfold qp at A;rw[show Qc (Za l) qg=some QN from rfl]at A;simp[QN,zg]at A
theorem qbK{l:List Qb}(h:Zk l):∀x:Ty,qH (Za l) x=true->ZV (Za l) x x=true
 |.i,_=>rfl
 |.j,_=>rfl
 |.cl _,A=>Zy.2 (zo h.closed A).2.1
 |.ar x,A=>qbK h x A
theorem Zbk{cs:List Qb}:∀{x y:Ty},ZV cs x y=true->zm x=zm y
 |.i,.i,_=>rfl
 |.j,.j,_=>rfl
 |.cl _,.cl _,_=>rfl
 |.ar _,.cl _,_=>rfl
 |.ar _,.ar _,_=>rfl
 |.i,.j,h=>by cases h
 |.i,.cl _,h=>by cases h
 |.i,.ar _,h=>by cases h
 |.j,.i,h=>by cases h
 |.j,.cl _,h=>by cases h
 |.j,.ar _,h=>by cases h
 |.cl _,.i,h=>by cases h
 |.cl _,.j,h=>by cases h
 |.ar _,.i,h=>by cases h
 |.ar _,.j,h=>by cases h
theorem Zbr{l:List Qb}(h:Zk l):∀{x y z:Ty},qH (Za l) x=true->ZV (Za l) x y=true->ZV (Za l) y z=true->ZV (Za l) x z=true
 |.i,.i,_,_,_,A=>A
 |.j,.j,_,_,_,A=>A
 |.cl _,.cl _,.cl _,C,B,A=>Zy.2 (ZcN h C (Zy.1 B) (Zy.1 A))
 |.ar _,.cl _,.cl e,_,B,A=>by
  have B:_=qg:=Xm B;subst B;exact Xj (ZcA h (Zy.1 A))
 |.ar _,.ar _,.cl _,_,_,A=>A
 |.ar a,.ar b,.ar c,C,B,A=>Zbr h (x:=a) (y:=b) (z:=c) C B A
theorem zdB{l:List Qb}(h:Zk l):∀x:Kd,qK (Za l) x=true->Zx (Za l) x x=true
 |.n,_=>rfl
 |.t,_=>rfl
 |.ty x,A=>qbK h x A
theorem zb5{l:List Qb}(h:Zk l){x y z:Kd}(C:qK (Za l) x=true)(A:Zx (Za l) x y=true)(B:Zx (Za l) y z=true):Zx (Za l) x z=true:=by
 cases z with
 |t=>cases x<;>rfl
 |n =>
  cases y with
  |n=>exact A
  |t=>cases B
  |ty _=>cases B
 |ty z =>
  cases y with
  |t=>cases B
  |n =>
   cases x with
   |n=>exact B
   |t=>cases A
   |ty _=>cases A
  |ty y =>
   cases x with
   |n =>
    show zm z=true
    rw[<-Zbk (cs:=Za l) (x:=y) (y:=z) B];exact A
   |t=>cases A
   |ty x=>exact Zbr h (x:=x) (y:=y) (z:=z) C A B
def qaX(cs:List Qb)(k:Str)(x:Kd):Prop:=Qo x=lst k/\qK cs x=true
theorem qaX.text{cs:List Qb}{k m:Str}{x:Kd}(h:qaX cs k x)(g:qaX cs m x):k=m:=ByteArray.ext (Array.toList_inj.1 (h.1.symm.trans g.1))
theorem qcN{c:List UInt8}(h:∀x∈c,x≠59):zw (c++[59])=c.length:=by
 induction c with
 |nil=>rfl
 |cons a r B =>
  show(if a=59 then 0 else zw (r++[59])+1)=_
  rw[if_neg (h a (by simp)),B (fun x A=>h x (by simp[A]))];rfl
theorem ZdB{c:List UInt8}(h:qt c=true):∀x∈c,x≠59:=by
 intro x A;cases c with
 |nil=>cases A
 |cons a r =>
  unfold qt at h;simp only[Bool.and_eq_true,List.all_eq_true]at h;have:=h.2 x A;rintro rfl;exact absurd this (by decide)
def zq:Ty->Nat
 |.ar x=>zq x+1
 |_=>0
theorem QaA:∀x:Ty,Qu (Zf x)=zq x
 |.i=>rfl
 |.j=>rfl
 |.cl c=>by simp[Zf,Qu,zq]
 |.ar x=>by simp[Zf,Qu,zq,QaA x]
def Q3:Ty->Ty
 |.ar x=>Q3 x
 |x=>x
theorem qbr:∀x:Ty,(Zf x).drop (zq x)=Zf (Q3 x)
 |.i=>rfl
 |.j=>rfl
 |.cl _=>rfl
 |.ar x=>by simp[Zf,zq,Q3,qbr x]
theorem qaT:∀x:Ty,(Q3 x=.i/\qA x=[])\/(Q3 x=.j/\qA x=[])\/∃c,Q3 x=.cl c/\qA x=lst c
 |.i=>Or.inl ⟨rfl,rfl⟩
 |.j=>Or.inr (Or.inl ⟨rfl,rfl⟩)
 |.cl c=>Or.inr (Or.inr ⟨c,rfl,rfl⟩)
 |.ar x=>qaT x
def ZF(a:Str):Str:=⟨#[91]⟩++a
theorem Qa0(a:Str):lst (ZF a)=91::lst a:=by
 unfold ZF lst;rw[ByteArray.data_append,Array.toList_append];rfl
theorem QcN(x:Ty):zah (Zf x)=!zm x:=by
 cases x with
 |i=>rfl
 |j=>rfl
 |cl c=>simp[zah,Zf,zm]
 |ar x=>simp[zah,Zf,zm]
theorem Za1{cs:List Qb}{x y:Ty}(h:zm x=false\/zm y=false):ZV cs x y=decide (x=y):=by
 cases x<;>cases y<;>first|rfl|(rcases h with h|h<;>cases h)
def Zt:Kd->Bool
 |.ty x=>zm x
 |_=>false
theorem Qee{s:List UInt8}(h:qt s=true):s≠[]:=by rintro rfl;cases h
theorem qbQ{c:Qb}(h:qd c=0):c.name.size≠0:=by
 unfold qd at h;split at h
 ·cases h
 ·rename_i A;rw[Bool.not_eq_true,Bool.or_eq_false_iff,Bool.not_eq_false']at A;intro B;have:lst c.name=[]:=by
   unfold lst;rw[<-List.length_eq_zero_iff];exact B
  exact Qee A.1 this
theorem zcO{l:List Qb}(B:∀c∈l,qd c=0)(x:Str)(C:(Qc (Za l) x).isSome=true):x.size≠0:=by
 obtain⟨c,A,rfl⟩:=Zas C;unfold Za at A;rcases List.mem_cons.1 A with rfl|A
 ·decide
 ·rcases List.mem_cons.1 A with rfl|A
  ·decide
  ·exact qbQ (B c A)
theorem ZcO{l:List Qb}:∀a:List Qb,Qf qv a l=0->∀c∈l,qd c=0:=by
 induction l with
 |nil=>intro a _ c B;cases B
 |cons d r D =>
  intro a h c B;rw[Qf]at h;by_cases A:qv d a=0
  ·rw[if_pos A]at h;rcases List.mem_cons.1 B with rfl|B
   ·unfold qv at A;by_cases C:qd c≠0
    ·rw[if_pos C]at A;exact absurd A C
    ·simpa using C
   ·exact D _ h c B
  ·rw[if_neg A]at h;exact absurd h A
theorem qal{l:List Qb}(h:Zp l=0):∀c∈l,qd c=0:=by
 unfold Zp at h;split at h
 ·cases h
 ·split at h
  ·rename_i A;exact absurd h A
  ·rename_i A;exact ZcO [] (by simpa using A)
def upC(cs:List Qb)(n:Str):List Str:=zab (qp cs) (cs.length+1) 0 (qp cs n)
theorem qb6{cs:List Qb}(A:Qaw cs){n:Str}(B:(Qc cs n).isSome=true)(C:(qp cs n).Nodup):
 Qay cs (upC cs n)/\(∀x∈qp cs n,x∈upC cs n)/\(∀x∈upC cs n,∀a∈qp cs x,a∈upC cs n) /\
  (∀S:Str->Prop,(∀x,S x->∀a∈qp cs x,S a)->(∀x∈qp cs n,S x)->∀x∈upC cs n,S x) :=
 QbK A (cs.length+1) 0 (qp cs n) ⟨C,A n B⟩ (by omega) (fun j x D=>by omega)
theorem zdV{cs:List Qb}(A:Qaw cs){n:Str}(C:(Qc cs n).isSome=true)(E:(qp cs n).Nodup)(x:Str):x∈upC cs n↔∃a∈qp cs n,x∈Qk cs a:=by
 obtain⟨L,F,G,H⟩:=qb6 A C E;constructor
 ·refine H (fun x=>∃a∈qp cs n,x∈Qk cs a) ?_ ?_ x
  ·rintro y⟨a,B,D⟩b I;exact⟨a,B,(zo A (A n C a B)).2.2.1 y D b I⟩
  ·intro y D;exact⟨y,D,(zo A (A n C y D)).2.1⟩
 ·rintro⟨a,B,J⟩;exact(zo A (A n C a B)).2.2.2 (fun y=>y∈upC cs n) G (F a B) x J
theorem ZdV{cs:List Qb}(A:Qaw cs){n:Str}(D:(Qc cs n).isSome=true)(E:(qp cs n).Nodup):QK (upC cs n) n=zT cs n:=by
 unfold zT;rw[Bool.eq_iff_iff,Zy,zdV A D E,List.any_eq_true];constructor
 ·rintro⟨a,B,C⟩;exact⟨a,B,Zy.2 C⟩
 ·rintro⟨a,B,C⟩;exact⟨a,B,Zy.1 C⟩
theorem qcO:∀(r a:List Str),a.Nodup->Qf ZC a r=0->(a++r).Nodup:=by
 intro r;induction r with
 |nil=>intro a B _;simpa using B
 |cons x r G =>
  intro a B h;rw[Qf]at h;by_cases A:ZC x a=0
  ·rw[if_pos A]at h;have C:QK a x=false:=by
    unfold ZC at A;split at A
    ·cases A
    ·split at A
     ·cases A
     ·rename_i E;simpa using E
   have:=G (a++[x]) (by
    rw[List.nodup_append];refine⟨B,by simp,fun y F z D=>?_⟩;simp at D;subst D;rintro rfl;rw[Zy.2 F]at C;cases C) h
   simpa using this
  ·rw[if_neg A]at h;exact absurd h A
theorem zbD{c:Qb}(h:qd c=0):c.faces.Nodup:=by
 unfold qd at h;split at h
 ·cases h
 ·split at h
  ·rename_i A;exact absurd h A
  ·rename_i A;simpa using qcO c.faces [] (by simp) (by simpa using A)
theorem Qau{cs:List Qb}{n:Str}{f:Bool}(h:Zu cs n f=0):∃c,Qc cs n=some c/\c.face=f:=by
 unfold Zu at h;split at h
 ·cases h
 ·rename_i c A;refine⟨c,A,?_⟩;split at h
  ·assumption
  ·cases h
theorem QaS{cs:List Qb}{c:Qb}(h:Qv cs c=0):Zu cs c.super false=0/\∀a∈c.faces,Zu cs a true=0:=by
 unfold Qv at h;split at h
 ·cases h
 ·split at h
  ·cases h
  ·split at h
   ·cases h
   ·split at h
    ·rename_i A;exact absurd h A
    ·rename_i A;split at h
     ·rename_i B;exact absurd h B
     ·rename_i B;exact⟨by simpa using A,Z2 (by simpa using B)⟩
theorem zaG{l:List Qb}(H:∀c∈l,qd c=0)(I:∀c∈l,Qv (Za l) c=0){n:Str}(D:(Qc (Za l) n).isSome=true):(qp (Za l) n).Nodup:=by
 rw[Option.isSome_iff_exists]at D;obtain⟨c,F⟩:=D;have B:c∈Za l:=List.mem_of_find?_eq_some F;unfold qp;rw[F];simp only[Option.getD_some];unfold Za at B;rcases List.mem_cons.1 B with rfl|B
 ·decide
 ·rcases List.mem_cons.1 B with rfl|B
  ·decide
  ·have E:=zbD (H c B);obtain⟨J,L⟩:=QaS (I c B);split
   ·exact E
   ·rw[List.nodup_cons];refine⟨fun C=>?_,E⟩;obtain⟨d,M,N⟩:=Qau J;obtain⟨O,A,G⟩:=Qau (L _ C);rw[M]at A;injection A with A;subst A
    rw[N]at G;cases G
def qas(out:List Str)(acc x:Str):Str:=if !QK out x&&(acc.toList.isEmpty||Op.bytesLess x.toList acc.toList) then x else acc
def QZ(out:List Str)(l:List Str)(acc:Str):Str:=l.foldl (qas out) acc
theorem zbL(A:List Str)(a:Str)(l:List Str)(acc:Str):QZ A (a::l) acc=QZ A l (qas A acc a):=rfl
theorem QcO(A l:List Str)(acc:Str)(k:Nat)(x:Str)(h:l[k]? = some x):QZ A (l.drop k) acc=QZ A (l.drop (k+1)) (qas A acc x):=by
 obtain⟨B,rfl⟩:=List.getElem?_eq_some_iff.1 h;rw[List.drop_eq_getElem_cons B,zbL]
theorem zcP{x y:Str}:Op.bytesLess x.toList y.toList=true↔x.data.toList<y.data.toList:=by
 rw[bytesLess_eq,ByteArray.toList_eq,ByteArray.toList_eq];simp
theorem ZbL(A:List Str):∀(l:List Str) (acc:Str),(∀x∈l,x.size≠0) ->
 (QZ A l acc=acc\/(QZ A l acc∈l/\QK A (QZ A l acc)=false)) /\
 (∀x∈l,QK A x=false->(QZ A l acc).size≠0/\¬x.data.toList<(QZ A l acc).data.toList) /\
 (acc.size≠0->(QZ A l acc).size≠0/\¬acc.data.toList<(QZ A l acc).data.toList)
 |[],acc,_=>⟨Or.inl rfl,(fun x C=>by cases C),fun h=>⟨h,List.lt_irrefl _⟩⟩
 |a::l,acc,J=>by
  rw[zbL];have R:=J a (by simp);have H:∀x∈l,x.size≠0:=fun x C=>J x (by simp[C])
  obtain⟨B,P,G⟩:=ZbL A l (qas A acc a) H;generalize QZ A l (qas A acc a)=r at *;unfold qas at B G;by_cases E:(!QK A a&&(acc.toList.isEmpty||Op.bytesLess a.toList acc.toList))=true
  ·rw[if_pos E]at B G;rw[Bool.and_eq_true,Bool.or_eq_true,Bool.not_eq_true',ZD,decide_eq_true_eq,zcP]at E;obtain⟨U,N⟩:=E;obtain⟨L,M⟩:=G R;refine⟨Or.inr ?_,fun x C D=>?_,fun I=>⟨L,fun O=>?_⟩⟩
   ·rcases B with rfl|⟨B,F⟩
    ·exact⟨by simp,U⟩
    ·exact⟨by simp[B],F⟩
   ·rcases List.mem_cons.1 C with rfl|C
    ·exact⟨L,M⟩
    ·exact P x C D
   ·rcases N with h|h
    ·exact I h
    ·exact M (List.lt_trans h O)
  ·rw[if_neg E]at B G;rw[Bool.and_eq_true,Bool.or_eq_true,Bool.not_eq_true',ZD,decide_eq_true_eq,zcP]at E;refine⟨?_,fun x C D=>?_,G⟩
   ·rcases B with B|⟨B,F⟩
    ·exact Or.inl B
    ·exact Or.inr ⟨by simp[B],F⟩
   ·rcases List.mem_cons.1 C with rfl|C
    ·have S:acc.size≠0:=fun h=>E ⟨D,Or.inl h⟩
     have T:¬x.data.toList<acc.data.toList:=fun h=>E ⟨D,Or.inr h⟩
     obtain⟨L,M⟩:=G S;refine⟨L,fun O=>M ?_⟩;exact List.lt_of_le_of_lt (List.not_lt.1 T) O
    ·exact P x C D
theorem Qcp(l:List Str)(x:Str):x∈zF l↔x∈l:=by
 rw[<-Zy,qaM,Zy]
theorem ZaE(l:List Str):(zF l).Pairwise fun x y=>¬y.data.toList<x.data.toList:=by
 unfold zF;rw[List.pairwise_map];have h:=List.pairwise_mergeSort (le:=fun x y:List UInt8=>decide (x<=y)) (fun a b c B C=>by simp at *;exact List.le_trans B C) (fun a b=>by simp;exact List.le_total a b) (l.map (·.data.toList));refine h.imp fun {a b} A=>?_
 simpa using A
theorem zbl(l:List Str):(zF l).Perm l:=by
 have h:=(List.mergeSort_perm (l.map (·.data.toList)) fun x y=>decide (x<=y)).map fun x:List UInt8=>(⟨x.toArray⟩:Str)
 rw[List.map_map]at h;have e:l.map ((fun x:List UInt8=>(⟨x.toArray⟩:Str)) ∘ fun x=>x.data.toList)=l:=by
  conv=>rhs;rw[<-List.map_id l]
  exact List.map_congr_left fun x _=>rfl
 rw[e]at h;exact h
theorem ZcP{l:List Str}(h:l.Nodup):(zF l).Nodup:=(zbl l).nodup_iff.2 h
theorem zda{l:List Str}(N:l.Nodup)(E:∀x∈l,x.size≠0)(k:Nat)(x:Str)(I:(zF l)[k]? = some x):QZ ((zF l).take k) l .empty=x:=by
 obtain⟨C,V,_⟩:=ZbL ((zF l).take k) l .empty E;obtain⟨L,B⟩:=List.getElem?_eq_some_iff.1 I;have hs:=ZcP N;have O:=ZaE l;have F:QK ((zF l).take k) x=false:=by
  cases U:QK ((zF l).take k) x with
  |false=>rfl
  |true =>
   exfalso;obtain⟨j,H,A⟩:=List.getElem_of_mem (Zy.1 U);simp at H;rw[List.getElem_take]at A;exact List.pairwise_iff_getElem.1 hs j k (by omega) L (by omega) (by rw[A,B])
 have G:x∈l:=(Qcp l x).1 (Xe I);obtain⟨M,X⟩:=V x G F;rcases C with C|⟨C,D⟩
 ·rw[C]at M;exact absurd rfl M
 ·obtain⟨j,H,A⟩:=List.getElem_of_mem ((Qcp l _).2 C);have P:k<=j:=by
   by_cases R:j<k
   ·exfalso;have:QZ ((zF l).take k) l .empty∈(zF l).take k:=by
     rw[List.mem_take_iff_getElem];exact⟨j,by omega,A⟩
    rw[Zy.2 this]at D;cases D
   ·omega
  by_cases S:j=k
  ·subst S;rw[<-A,B]
  ·have J:=List.pairwise_iff_getElem.1 O k j L H (by omega);rw[B,A]at J;have T:(QZ ((zF l).take k) l .empty).data.toList=x.data.toList:=List.le_antisymm (List.not_lt.1 X) (List.not_lt.1 J);exact ByteArray.ext (Array.toList_inj.1 T)
theorem Zda{l m:List Str}(A:l.Nodup)(B:m.Nodup)(h:∀x,x∈l↔x∈m):zF l=zF m:=by
 have C:(zF l).Perm (zF m):=(zbl l).trans (((List.perm_ext_iff_of_nodup A B).2 h).trans (zbl m).symm);refine List.Perm.eq_of_pairwise (le:=fun x y:Str=>¬y.data.toList<x.data.toList) (fun a b _ _ D E=>?_) (ZaE l) (ZaE m) C;exact ByteArray.ext (Array.toList_inj.1 (List.le_antisymm (List.not_lt.1 D) (List.not_lt.1 E)))
theorem qdV{l:List Qb}(h:Zk l)(S:∀c∈l,qd c=0){n:Str}(D:(Qc (Za l) n).isSome=true):
 (n::upC (Za l) n).Nodup/\zF (n::upC (Za l) n)=zF (Qk (Za l) n):=by
 have M:=zaG S h.joined D;obtain⟨O,T,U,V⟩:=qb6 h.closed D M;obtain⟨X,P,R,Y⟩:=zo h.closed D;have B:n∉upC (Za l) n:=by
  intro J;obtain⟨a,A,E⟩:=(zdV h.closed D M n).1 J;have N:zT (Za l) n=true:=by
   unfold zT;rw[List.any_eq_true];exact⟨a,A,Zy.2 E⟩
  obtain⟨c,C,rfl⟩:=Zas D;unfold Za at C;rcases List.mem_cons.1 C with rfl|C
  ·unfold qp at A;rw[show Qc (Za l) QN.name=some QN from rfl]at A;simp[QN,zg]at A
  ·rcases List.mem_cons.1 C with rfl|C
   ·have G:a=qg:=by
     unfold qp at A;rw[show Qc (Za l) ZX.name=some ZX from h.find (c:=ZX) (by simp[Za])]at A;simp[ZX,zg]at A;exact A.2
    subst G;have H:=(zo h.closed (n:=qg) rfl).2.2.2 (fun x=>x=qg) (fun x F b L=>by
     subst F;unfold qp at L;rw[show Qc (Za l) qg=some QN from rfl]at L;simp[QN,zg]at L) rfl _ E
    exact absurd H (by decide)
   ·rw[h.round c C]at N;cases N
 refine⟨List.nodup_cons.2 ⟨B,O.nodup⟩,Zda (List.nodup_cons.2 ⟨B,O.nodup⟩) X.nodup fun x=>?_⟩;rw[List.mem_cons];constructor
 ·rintro(rfl|F)
  ·exact P
  ·exact V (fun y=>y∈Qk (Za l) n) R (fun y I=>R n P y I) x F
 ·intro F;refine Y (fun y=>y=n\/y∈upC (Za l) n) ?_ (Or.inl rfl) x F;rintro y (rfl|I) a A
  ·exact Or.inr (T a A)
  ·exact Or.inr (U y I a A)
theorem Zeq{l:List Qb}(C:∀c∈l,qd c=0)(A:∀c∈l,Qv (Za l) c=0){c:Qb}(B:c∈l):QK (upC (Za l) c.name) c.name=zT (Za l) c.name :=
 ZdV (qa8 A) (qaO B) (zaG C A (qaO B))
theorem Qb2(m l:List Str)(k:Nat)(x:Str)(h:l[k]? = some x):Zah m (l.drop k)=if QK m x then x else Zah m (l.drop (k+1)):=by
 obtain⟨A,rfl⟩:=List.getElem?_eq_some_iff.1 h;rw[List.drop_eq_getElem_cons A];rfl
theorem Zk.face_line{l:List Qb}(h:Zk l){c:Str}(G:(Qc (Za l) c).isSome=true)(D:(qh (Za l) c).face=true):Zq (Za l) c=[c,qg]:=by
 rw[Option.isSome_iff_exists]at G;obtain⟨d,F⟩:=G;have B:d∈Za l:=List.mem_of_find?_eq_some F;have E:qh (Za l) c=d:=by unfold qh;rw[F];rfl
 rw[E]at D;unfold Za at B;rcases List.mem_cons.1 B with rfl|B
 ·cases D
 ·rcases List.mem_cons.1 B with rfl|B
  ·cases D
  ·have A:=h.joined d B;have hs:d.super=qg:=by
    unfold Qv at A;split at A
    ·cases A
    ·split at A
     ·cases A
     ·split at A
      ·cases A
      ·split at A
       ·rename_i C;exact absurd A C
       ·split at A
        ·rename_i C;exact absurd A C
        ·split at A
         ·cases A
         ·rename_i C;simp[D]at C;exact C
   rw[h.line_up (by rw[F];rfl) (by rw[E,hs];decide),E,hs,Zk.line_top (show(qh (Za l) qg).super.size=0 from rfl)]
theorem Zk.line_noface{l:List Qb}(h:Zk l):∀c,(Qc (Za l) c).isSome=true->∀d∈Zq (Za l) c,d≠c->(qh (Za l) d).face=false:=by
 refine h.line_ind _ (fun x E F d A B=>?_) (fun x E F L d A B=>?_)
 ·rw[Zk.line_top F]at A;simp at A;exact absurd A B
 ·rcases(h.line_mem E).1 A with rfl|⟨_,A⟩
  ·exact absurd rfl B
  ·by_cases hs:d=(qh (Za l) x).super
   ·rw[Option.isSome_iff_exists]at E;obtain⟨c,H⟩:=E;have C:c∈Za l:=List.mem_of_find?_eq_some H;have D:qh (Za l) x=c:=(by unfold qh;rw[H];rfl);rw[hs,D];unfold Za at C;rcases List.mem_cons.1 C with rfl|C
    ·rw[D]at F;exact absurd rfl F
    ·rcases List.mem_cons.1 C with rfl|C
     ·rfl
     ·obtain⟨I,_⟩:=QaS (h.joined c C);obtain⟨e,J,G⟩:=Qau I;unfold qh;rw[J];exact G
   ·exact L d A hs
theorem Zk.classes{l:List Qb}(h:Zk l){c d:Str}(E:(Qc (Za l) c).isSome=true)(F:(Qc (Za l) d).isSome=true)(D:c≠d):
 (if ((qh (Za l) c).face||(qh (Za l) d).face)=true then qg else zbb (Za l) c d)=zbb (Za l) c d:=by
 by_cases A:((qh (Za l) c).face||(qh (Za l) d).face)=true
 ·rw[if_pos A];obtain⟨B,C⟩:=h.tree.lub1 c d E F;rw[Bool.or_eq_true]at A;rcases A with A|A
  ·rw[h.face_line E A]at B;simp at B;rcases B with B|B
   ·rw[B]at C;have:=h.line_noface d F c C D;rw[A]at this;cases this
   ·exact B.symm
  ·rw[h.face_line F A]at C;simp at C;rcases C with C|C
   ·rw[C]at B;have:=h.line_noface c E d B (fun h=>D h.symm);rw[A]at this;cases this
   ·exact C.symm
 ·rw[if_neg A]
theorem qbL{cs:List Qb}{x y:Ty}(A:x≠y)(h:zm x=false\/zm y=false):qZ cs x y=none:=by
 cases x<;>cases y<;>first|rfl|(exact absurd rfl A)|(rcases h with h|h<;>cases h)
theorem Zdy{cs:List Qb}{x y:Kd}(B:x≠y)(C:¬(x=.n/\Zt y=true))(D:¬(y=.n/\Zt x=true))(h:Zt x=false\/Zt y=false):QT cs x y=.t:=by
 cases x with
 |n=>cases y with
  |n=>exact absurd rfl B
  |t=>rfl
  |ty z =>
   rw[QaM];cases A:zm z with
   |true=>exact absurd ⟨rfl,A⟩ C
   |false=>rfl
 |t=>cases y<;>rfl
 |ty u=>cases y with
  |n =>
   rw[zaN];cases A:zm u with
   |true=>exact absurd ⟨rfl,A⟩ D
   |false=>rfl
  |t=>rfl
  |ty v =>
   rw[zas,qbL (fun e=>B (by rw[e])) h]
theorem qcL{cs:List Qb}{x y:Ty}(B:zm x=true)(C:zm y=true):∃z,QT cs (.ty x) (.ty y)=.ty z/\QT cs (.ty (.ar x)) (.ty (.ar y))=.ty (.ar z):=by
 obtain⟨z,A⟩:=Qc9 (cs:=cs) B C;refine⟨z,by rw[zas,A],?_⟩;rw[zas];unfold qZ;rw[A]
theorem zbd{cs:List Qb}{x y:Ty}(A:x≠y)(h:zm x=false\/zm y=false):QT cs (.ty (.ar x)) (.ty (.ar y))=.ty (.cl qg):=by
 rw[zas];unfold qZ;rw[qbL A h]
theorem qcP{l:List Qb}(C:∀c∈l,qd c=0){x:Str}(D:(Qc (Za l) x).isSome=true):qt (lst x)=true:=by
 obtain⟨c,A,rfl⟩:=Zas D;unfold Za at A;rcases List.mem_cons.1 A with rfl|A
 ·decide
 ·rcases List.mem_cons.1 A with rfl|A
  ·decide
  ·have h:=C c A;unfold qd at h;split at h
   ·cases h
   ·rename_i B;rw[Bool.not_eq_true,Bool.or_eq_false_iff,Bool.not_eq_false']at B;exact B.1
theorem Qa8{l:List Qb}(A:∀c∈l,qd c=0):∀x:Ty,qH (Za l) x=true->zao x=true
 |.i,_=>rfl
 |.j,_=>rfl
 |.cl _,h=>qcP A h
 |.ar x,h=>Qa8 A x h
theorem Qbr:∀x:Ty,zao x=true->ZT (Zf (Q3 x))=(Zf (Q3 x)).length
 |.i,_=>rfl
 |.j,_=>rfl
 |.cl c,h=>by
  have hs:=qcN (ZdB (c:=lst c) h);show(if (76:UInt8)=73\/(76:UInt8)=74 then 1 else if (76:UInt8)=76 then (if zw (lst c++[59])<(lst c++[59]).length/\qt ((lst c++[59]).take (zw (lst c++[59])))=true then zw (lst c++[59])+2 else 0) else 0)=(76::(lst c++[59])).length
  rw[if_neg (by decide),if_pos rfl,hs,List.take_left,if_pos ⟨by simp,h⟩];simp
 |.ar x,h=>Qbr x h
theorem ZaG:∀x:Ty,(Zf x).length=zq x+(Zf (Q3 x)).length
 |.i=>rfl
 |.j=>rfl
 |.cl c=>by simp[zq,Q3]
 |.ar x=>by
  have:=ZaG x;simp only[Zf,zq,Q3,List.length_cons];omega
theorem qaE{x:Ty}(A:zao x=true)(B:zq x<=3):Zs (Zf x)=true:=by
 have C:=Qbr x A;have D:=ZaG x;have E:0<(Zf (Q3 x)).length:=List.length_pos_iff.2 (qaA _);unfold Zs ZA;rw[QaA,qbr,if_pos ⟨B,by omega⟩,Bool.and_eq_true,beq_iff_eq];refine⟨?_,by omega⟩;cases h:Zf x with
 |nil=>exact absurd h (qaA x)
 |cons _ _=>rfl
theorem qbq{x:Ty}(h:Zs (Zf x)=true):zq x<=3:=by
 unfold Zs ZA at h;rw[QaA,Bool.and_eq_true,beq_iff_eq]at h;have B:0<(Zf x).length:=List.length_pos_iff.2 (qaA _);split at h
 ·rename_i A;exact A.1
 ·omega
def qah:Kd->Nat
 |.ty x=>zq x
 |_=>0
theorem Qb6{x:Ty}(h:zao x=true)(A:zq x<=3):zak (Zf x)=qA x:=by
 obtain⟨y,B,C,_⟩:=Qav (Zf x) (qaE h A);rw[C,zaE B]
theorem qbi{l:List Qb}(F:∀c∈l,qd c=0){k:Str}{x:Kd}(h:qaX (Za l) k x)(C:qah x<=3):zd (Za l) k=0:=by
 obtain⟨G,E⟩:=h;unfold zd;rw[<-G];cases x with
 |n=>exact if_pos (Or.inl rfl)
 |t=>exact if_pos (Or.inr rfl)
 |ty y =>
  have D:=Qa8 F y E;have A:∀z:Ty,Zf z≠[78]/\Zf z≠[84]:=fun z=>by cases z<;>simp[Zf]
  show(if Zf y=[78]\/Zf y=[84] then 0 else if !Zs (Zf y) then 1 else if (zak (Zf y)).isEmpty then 0 else if (Qc (Za l) (str (zak (Zf y)))).isSome then 0 else 3)=0
  rw[if_neg (fun h=>by rcases h with h|h;exact(A y).1 h;exact(A y).2 h),qaE D C,if_neg (by decide),Qb6 D C];rcases QbC y E with B|B
  ·rw[B];rfl
  ·rw[B];split<;>rfl
theorem qar{cs:List Qb}{k:Str}{x:Kd}(h:qaX cs k x)(A:zd cs k=0):qah x<=3:=by
 cases x with
 |n=>exact Nat.zero_le _
 |t=>exact Nat.zero_le _
 |ty y =>
  unfold zd at A;rw[<-h.1]at A;have B:∀z:Ty,Zf z≠[78]/\Zf z≠[84]:=fun z=>by cases z<;>simp[Zf]
  change (if Zf y=[78]\/Zf y=[84] then 0 else if !Zs (Zf y) then 1 else _)=0 at A;rw[if_neg (fun h=>by rcases h with h|h;exact(B y).1 h;exact(B y).2 h)]at A;cases C:Zs (Zf y) with
  |true=>exact qbq C
  |false=>rw[C]at A;cases A
theorem QbL{cs:List Qb}:∀{x y z:Ty},qZ cs x y=some z->zq z<=max (zq x) (zq y)
 |.i,.i,_,h=>by cases h;exact Nat.zero_le _
 |.j,.j,_,h=>by cases h;exact Nat.zero_le _
 |.cl _,.cl _,_,h=>by cases h;exact Nat.zero_le _
 |.ar a,.ar b,z,h=>by
  unfold qZ at h;cases A:qZ cs a b with
  |some w =>
   rw[A]at h;cases h;have:=QbL A;simp only[zq];omega
  |none=>rw[A]at h;cases h;exact Nat.zero_le _
 |.ar _,.cl _,_,h=>by cases h;exact Nat.zero_le _
 |.cl _,.ar _,_,h=>by cases h;exact Nat.zero_le _
 |.i,.j,_,h=>by cases h
 |.i,.cl _,_,h=>by cases h
 |.i,.ar _,_,h=>by cases h
 |.j,.i,_,h=>by cases h
 |.j,.cl _,_,h=>by cases h
 |.j,.ar _,_,h=>by cases h
 |.cl _,.i,_,h=>by cases h
 |.cl _,.j,_,h=>by cases h
 |.ar _,.i,_,h=>by cases h
 |.ar _,.j,_,h=>by cases h
theorem QcP{cs:List Qb}(x y:Kd):qah (QT cs x y)<=max (qah x) (qah y):=by
 cases x with
 |n=>cases y with
  |n=>exact Nat.zero_le _
  |t=>exact Nat.zero_le _
  |ty z =>
   rw[QaM];split
   ·exact Nat.le_max_right _ _
   ·exact Nat.zero_le _
 |t=>cases y<;>exact Nat.zero_le _
 |ty u=>cases y with
  |n =>
   rw[zaN];split
   ·exact Nat.le_max_left _ _
   ·exact Nat.zero_le _
  |t=>exact Nat.zero_le _
  |ty v =>
   rw[zas];cases A:qZ cs u v with
   |some z=>exact QbL A
   |none=>exact Nat.zero_le _
theorem Zdv{l:List Qb}(A:∀c∈l,qd c=0){a b z:Str}{x y:Kd}(B:qaX (Za l) a x)(C:qaX (Za l) b y)(D:zd (Za l) a=0)(E:zd (Za l) b=0)(F:qaX (Za l) z (QT (Za l) x y)):zd (Za l) z=0:=by
 have G:=qar B D;have H:=qar C E;have I:=QcP (cs:=Za l) x y;exact qbi A F (by omega)
def zH:qi:=⟨.empty,.empty,false,false,false,0,[],[]⟩
def Qab(n:Str):List Qag->Option Qag
 |[]=>none
 |f::r=>if f.name=n then some f else Qab n r
theorem Qbp(n:Str)(l:List Qag)(k:Nat)(x:Qag)(h:l[k]? = some x):Qab n (l.drop k)=if x.name=n then some x else Qab n (l.drop (k+1)):=by
 obtain⟨A,rfl⟩:=List.getElem?_eq_some_iff.1 h;rw[List.drop_eq_getElem_cons A];rfl
def Q0(cs:List Qb)(n:Str):List Str->Option (Str×Qag)
 |[]=>none
 |c::r=>match Qab n (qh cs c).fields with
  |some f=>some (c,f)
  |none=>Q0 cs n r
theorem qbp(cs:List Qb)(n:Str)(l:List Str)(k:Nat)(x:Str)(h:l[k]? = some x):Q0 cs n (l.drop k)=match Qab n (qh cs x).fields with
 |some f=>some (x,f)
 |none=>Q0 cs n (l.drop (k+1)):=by
 obtain⟨A,rfl⟩:=List.getElem?_eq_some_iff.1 h;rw[List.drop_eq_getElem_cons A];rfl
def qan(n t:Str):List qi->Option qi
 |[]=>none
 |m::r=>if m.name=n/\m.type=t then some m else qan n t r
theorem qbZ(n t:Str)(l:List qi)(k:Nat)(x:qi)(h:l[k]? = some x):qan n t (l.drop k)=if x.name=n/\x.type=t then some x else qan n t (l.drop (k+1)):=by
 obtain⟨A,rfl⟩:=List.getElem?_eq_some_iff.1 h;rw[List.drop_eq_getElem_cons A];rfl
def QU(cs:List Qb)(n t:Str):List Str->Option (Str×qi)
 |[]=>none
 |c::r=>match qan n t (qh cs c).methods with
  |some m=>some (c,m)
  |none=>QU cs n t r
theorem zbc(cs:List Qb)(n t:Str)(l:List Str)(k:Nat)(x:Str)(h:l[k]? = some x):QU cs n t (l.drop k)=match qan n t (qh cs x).methods with
 |some m=>some (x,m)
 |none=>QU cs n t (l.drop (k+1)):=by
 obtain⟨A,rfl⟩:=List.getElem?_eq_some_iff.1 h;rw[List.drop_eq_getElem_cons A];rfl
def QH(cs:List Qb)(n t:Str)(a:Bool):List Str->Option (Str×qi)
 |[]=>none
 |c::r=>match qan n t (qh cs c).methods with
  |some m=>if ((qh cs c).face&&(m.abs==a))=true then some (c,m) else QH cs n t a r
  |none=>QH cs n t a r
theorem zbJ(cs:List Qb)(n t:Str)(a:Bool)(l:List Str)(k:Nat)(x:Str)(h:l[k]? = some x):QH cs n t a (l.drop k)=match qan n t (qh cs x).methods with
 |some m=>if ((qh cs x).face&&(m.abs==a))=true then some (x,m) else QH cs n t a (l.drop (k+1))
 |none=>QH cs n t a (l.drop (k+1)):=by
 obtain⟨A,rfl⟩:=List.getElem?_eq_some_iff.1 h;rw[List.drop_eq_getElem_cons A];rfl
def zam(cs:List Qb)(cls n:Str):Option (Str×Qag):=Q0 cs n (Zq cs cls)
def Qal(cs:List Qb)(cls n t:Str):Option (Str×qi) :=
 match QU cs n t (Zq cs cls) with
 |some x=>some x
 |none=>match QH cs n t false (zF (Qk cs cls)) with
  |some x=>some x
  |none=>QH cs n t true (zF (Qk cs cls))
end Go.Proofs.YtlmfmioljeppfaaGreatDoor
