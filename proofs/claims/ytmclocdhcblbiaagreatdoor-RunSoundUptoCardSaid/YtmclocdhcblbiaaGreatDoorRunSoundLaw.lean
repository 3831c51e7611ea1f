/- Lemmas; conditions: as each states. -/
import Derived.Test.YtmclocdhcblbiaaGreatDoorRunCallR
set_option maxHeartbeats 4000000
namespace Go.Proofs.YtmclocdhcblbiaaGreatDoor
open Go.RowKit Go.Shelf Go.Lib
theorem QcX{l:List qa}(G:zh l)(H:∀c∈l,qf c=0)(A:Zao l){I:Str}:∀{f:Nat} {k:zdW} {v:Val} {t:Str} {n:Nat},zaT l I k->QaI (Za l) f k=.done v t n->ZdW l I v t
 |0,_,_,_,_,_,h=>by cases h
 |f+1,k,v,t,n,J,h=>by
  unfold QaI at h;have B:=Qeb G H A J;cases D:QbD (Za l) k with
  |full=>rw[D]at h;cases h
  |ends L M =>
   rw[D]at h B;injection h with E F _
   subst E F;exact B
  |on N =>
   rw[D]at h B;dsimp only at h;cases C:QaI (Za l) f N with
   |full=>rw[C]at h;cases h
   |fuel=>rw[C]at h;cases h
   |done L M O =>
    rw[C]at h;injection h with E F _
    subst E F;exact QcX G H A B C
def qfe(l:List qa)(g:Str)(v:Val)(t:Str):Prop :=
 ((t.toList==[])=false/\v=v0/\(Qb (Za l) t).isSome=true/\Q4 (Zl (Za l) t) Ql=true) \/
 ((t.toList==[])=true/\(((g.toList==[86])=true/\v=v0)\/((g.toList==[86])=false /\
  (((g.toList==[73])=true/\v.kind=1/\-2147483648<=v.n/\v.n<=2147483647)\/((g.toList==[73])=false/\(g.toList==[74])=true/\v.kind=2)\/((g.toList==[73])=false/\(g.toList==[74])=false/\qbj (lst g)=true/\v.kind=3)))))
theorem qdW{l:List qa}(B:∀c∈l,qf c=0){t:Str}(h:(Qb (Za l) t).isSome=true):(t.toList==[])=false:=by
 have A:=Zcb B h;rw[ByteArray.toList_eq];cases C:t.data.toList with
 |cons a b=>rfl
 |nil =>
  have A:Zx t.data.toList=true:=A;rw[C]at A;cases A
theorem qdB{cs:List qa}{h:List Zc}{v:Val}{y:Ty}(A:zm cs h v y=true)(B:qm y=true):v.kind=3:=by
 unfold zm at A;split at A
 ·rw[Bool.and_eq_true]at A;have:=Xm A.1;subst this;cases B
 ·split at A
  ·have:=Xm A;subst this;cases B
  ·split at A
   ·rename_i C;exact C
   ·cases A
theorem QdV{l:List qa}(I:zh l)(J:∀c∈l,qf c=0){D g:Str}{ts:List Str}(L:qi D=some (ts,g)){v:Val}{t:Str}(h:ZdW l g v t):qfe l g v t:=by
 rcases h with⟨rfl,h⟩|⟨M,A,N⟩
 ·refine Or.inr ⟨by rw[ByteArray.toList_eq];rfl,?_⟩;rcases h with h|⟨H,O,h⟩
  ·exact Or.inl h
  ·refine Or.inr ⟨H,?_⟩;have B:=zbW L;unfold qJ at B;rw[H,Bool.false_or]at B;have B:qo (lst g)=true:=B;unfold zy at h;rw[qby B]at h;obtain⟨y,G⟩:=qX B;rw[G.of]at h;have h:zm (Za l) O v y=true:=h;rw[ByteArray.toList_eq];have E:=G.text;have C:lst g=g.data.toList:=rfl;cases y with
   |i =>
    have e:g.data.toList=[73]:=(by rw[<-C,<-E];rfl);rw[e];refine Or.inl ⟨rfl,?_⟩;unfold zm at h;split at h
    ·rename_i A;rw[Bool.and_eq_true,Bool.and_eq_true]at h;exact⟨A,Xm h.2.1,Xm h.2.2⟩
    ·split at h
     ·cases Xm h
     ·split at h
      ·simp[qm]at h
      ·cases h
   |j =>
    have e:g.data.toList=[74]:=(by rw[<-C,<-E];rfl);rw[e];refine Or.inr (Or.inl ⟨rfl,rfl,?_⟩);unfold zm at h;split at h
    ·simp at h
    ·split at h
     ·rename_i A;exact A
     ·split at h
      ·simp[qm]at h
      ·cases h
   |cl c =>
    have A:=qdB h rfl;have e:g.data.toList=76::(lst c++[59]):=(by rw[<-C,<-E];rfl);have F:qbj (lst g)=true:=by
     unfold qbj ZO;rw[B,C,e];rfl
    rw[e];exact Or.inr (Or.inr ⟨rfl,rfl,F,A⟩)
   |ar z =>
    have A:=qdB h rfl;have e:g.data.toList=91::qd z:=(by rw[<-C,<-E];rfl);have F:qbj (lst g)=true:=by
     unfold qbj ZO;rw[B,C,e];rfl
    rw[e];exact Or.inr (Or.inr ⟨rfl,rfl,F,A⟩)
 ·refine Or.inl ⟨qdW J A,M,A,?_⟩;rcases qcD I A (qA.1 N) rfl with h|h
  ·exact qA.2 h
  ·exact absurd h (by decide)
end Go.Proofs.YtmclocdhcblbiaaGreatDoor
