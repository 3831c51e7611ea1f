/- Lemmas; conditions: as each states. -/
import Derived.Test.YtlmfmioljeppfaaGreatDoorLineLaw
import Derived.Sort.Walk0
set_option maxHeartbeats 4000000
namespace Go.Proofs.YtlmfmioljeppfaaGreatDoor
open Go.RowKit Go.Shelf Go.Lib
inductive Ty where
 |i:Ty
 |j:Ty
 |cl:Str->Ty
 |ar:Ty->Ty
 deriving DecidableEq
inductive Kd where
 |n:Kd
 |t:Kd
 |ty:Ty->Kd
 deriving DecidableEq
def Zf:Ty->List UInt8
 |.i=>[73]
 |.j=>[74]
 |.cl c=>76::(lst c++[59])
 |.ar x=>91::Zf x
def qo:Kd->List UInt8
 |.n=>[78]
 |.t=>[84]
 |.ty x=>Zf x
def ZH(cs:List Qb):Ty->Bool
 |.i=>true
 |.j=>true
 |.cl c=>(Qc cs c).isSome
 |.ar x=>ZH cs x
def zL(cs:List Qb):Kd->Bool
 |.ty x=>ZH cs x
 |_=>true
def Ql:Ty->Bool
 |.i=>false
 |.j=>false
 |_=>true
def qA:Ty->List UInt8
 |.cl c=>lst c
 |.ar x=>qA x
 |_=>[]
def qT(cs:List Qb):Ty->Ty->Bool
 |.i,.i=>true
 |.j,.j=>true
 |.cl c,.cl d=>ZL (Qk cs c) d
 |.ar _,.cl d=>decide (d=Zg)
 |.ar a,.ar b=>qT cs a b
 |_,_=>false
def Zx(cs:List Qb):Kd->Kd->Bool
 |_,.t=>true
 |.n,.n=>true
 |.n,.ty y=>Ql y
 |.ty x,.ty y=>qT cs x y
 |_,_=>false
def zah(m:List Str):List Str->Str
 |[]=>Zg
 |c::r=>if ZL m c then c else zah m r
def zba(cs:List Qb)(c d:Str):Str:=zah (Zq cs d) (Zq cs c)
def ZZ(cs:List Qb):Ty->Ty->Option Ty
 |.i,.i=>some .i
 |.j,.j=>some .j
 |.cl c,.cl d=>some (.cl (zba cs c d))
 |.ar a,.ar b=>match ZZ cs a b with
  |some x=>some (.ar x)
  |none=>some (.cl Zg)
 |.ar _,.cl _=>some (.cl Zg)
 |.cl _,.ar _=>some (.cl Zg)
 |_,_=>none
def zS(cs:List Qb):Kd->Kd->Kd
 |.n,.n=>.n
 |.n,.ty y=>if Ql y then .ty y else .t
 |.ty x,.n=>if Ql x then .ty x else .t
 |.ty x,.ty y=>match ZZ cs x y with
  |some z=>.ty z
  |none=>.t
 |_,_=>.t
def Qa9(cs:List Qb):Ty->Ty->Prop
 |.i,.i=>True
 |.j,.j=>True
 |.cl c,.cl d=>d∈Zq cs c
 |.ar _,.cl d=>d=Zg
 |.ar a,.ar b=>Qa9 cs a b
 |_,_=>False
def zaq(cs:List Qb):Kd->Kd->Prop
 |_,.t=>True
 |.n,.n=>True
 |.n,.ty y=>Ql y=true
 |.ty x,.ty y=>Qa9 cs x y
 |_,_=>False
theorem zaB(x:Ty):Zf x≠[]:=by cases x<;>simp[Zf]
theorem ZaE:∀{x y:Ty},Zf x=Zf y->x=y
 |.i,.i,_=>rfl
 |.j,.j,_=>rfl
 |.cl c,.cl d,h=>by
  simp only[Zf,List.cons.injEq,true_and,List.append_cancel_right_eq]at h;rw[ByteArray.ext (Array.toList_inj.1 h)]
 |.ar a,.ar b,h=>by
  simp only[Zf,List.cons.injEq,true_and]at h;rw[ZaE h]
 |.i,.j,h=>by simp[Zf]at h
 |.i,.cl _,h=>by simp[Zf]at h
 |.i,.ar _,h=>by simp[Zf]at h
 |.j,.i,h=>by simp[Zf]at h
 |.j,.cl _,h=>by simp[Zf]at h
 |.j,.ar _,h=>by simp[Zf]at h
 |.cl _,.i,h=>by simp[Zf]at h
 |.cl _,.j,h=>by simp[Zf]at h
 |.cl _,.ar _,h=>by simp[Zf]at h
 |.ar _,.i,h=>by simp[Zf]at h
 |.ar _,.j,h=>by simp[Zf]at h
 |.ar _,.cl _,h=>by simp[Zf]at h
theorem qbg{x y:Kd}(h:qo x=qo y):x=y:=by
 have hn:∀z:Ty,Zf z≠[78]/\Zf z≠[84]:=fun z=>by cases z<;>simp[Zf]
 cases x with
 |n=>cases y with
  |n=>rfl
  |t=>simp[qo]at h
  |ty z=>exact absurd h.symm (hn z).1
 |t=>cases y with
  |n=>simp[qo]at h
  |t=>rfl
  |ty z=>exact absurd h.symm (hn z).2
 |ty z=>cases y with
  |n=>exact absurd h (hn z).1
  |t=>exact absurd h (hn z).2
  |ty z2=>rw[ZaE h]
theorem Qb5:∀r:List UInt8,Qv r+1=r.length->r=r.take (Qv r)++[59]
 |[],h=>by simp[Qv]at h
 |c::r,h=>by
  unfold Qv at h ⊢;by_cases hc:c=59
  ·subst hc;simp only[if_true]at h ⊢;simp only[List.length_cons]at h;have:r=[]:=List.length_eq_zero_iff.1 (by omega);subst this;rfl
  ·simp only[if_neg hc]at h ⊢;simp only[List.length_cons]at h;rw[List.take_succ_cons,List.cons_append,<-Qb5 r (by omega)]
def qao:Ty->Bool
 |.cl c=>Qt (lst c)
 |.ar x=>qao x
 |_=>true
theorem zax:∀s:List UInt8,Qs s=true->∃x:Ty,Zf x=s/\zak s=qA x/\qao x=true
 |[],h=>by cases h
 |c::r,h=>by
  unfold Qs at h;rw[Bool.and_eq_true,beq_iff_eq]at h;obtain⟨_,h⟩:=h;by_cases hc:c=91
  ·subst hc;have hd:qu (91::r)=qu r+1:=(by simp[qu]);unfold ZA at h;rw[hd]at h;simp only[List.drop_succ_cons,List.length_cons]at h;split at h
   ·rename_i hh;have hr:Qs r=true:=by
     unfold Qs ZA;rw[if_pos ⟨by omega,hh.2⟩,Bool.and_eq_true,beq_iff_eq];refine⟨?_,by omega⟩;cases r with
     |nil=>simp[qu,qR]at hh
     |cons _ _=>rfl
    obtain⟨x,hx,hb,hno⟩:=zax r hr;refine⟨.ar x,by rw[Zf,hx],?_,hno⟩;unfold zak at hb ⊢;rw[hd,List.drop_succ_cons];exact hb
   ·omega
  ·have hd:qu (c::r)=0:=(by simp[qu,hc]);unfold ZA at h;rw[hd]at h;simp only[List.drop_zero,List.length_cons]at h;split at h
   ·rename_i hh;unfold qR at h;simp only at h;by_cases h1:c=73\/c=74
    ·rw[if_pos h1]at h;have:r=[]:=List.length_eq_zero_iff.1 (by omega);subst this;rcases h1 with rfl|rfl
     ·exact⟨.i,rfl,rfl,rfl⟩
     ·exact⟨.j,rfl,rfl,rfl⟩
    ·rw[if_neg h1]at h;by_cases h2:c=76
     ·subst h2;rw[if_pos rfl]at h;split at h
      ·rename_i hnm;have hs:=Qb5 r (by omega);have hlen:(r.take (Qv r)).length=Qv r:=(by rw[List.length_take];omega);refine⟨.cl (str (r.take (Qv r))),?_,?_,hnm.2⟩
       ·show 76::(r.take (Qv r)++[59])=_
        rw[<-hs]
       ·unfold zak;rw[hd];show r.take (r.length-1)=r.take (Qv r)
        congr 1;omega
      ·omega
     ·rw[if_neg h2]at h;omega
   ·omega
def zd(cs:List Qb)(k:Str):Nat :=
 if lst k=[78]\/lst k=[84] then 0
 else if !Qs (lst k) then 1
 else if (zak (lst k)).isEmpty then 0
 else if (Qc cs (str (zak (lst k)))).isSome then 0 else 3
theorem qcm{cs:List Qb}:∀x:Ty,qao x=true->(qA x=[]\/(Qc cs (str (qA x))).isSome=true)->ZH cs x=true
 |.i,_,_=>rfl
 |.j,_,_=>rfl
 |.cl c,h,g=>by
  rcases g with hc|hc
  ·exact absurd hc (by unfold qao at h;intro h0;unfold qA at h0;rw[h0]at h;cases h)
  ·exact hc
 |.ar x,h,g=>qcm x h g
theorem zbF{cs:List Qb}:∀x:Ty,ZH cs x=true->qA x=[]\/(Qc cs (str (qA x))).isSome=true
 |.i,_=>Or.inl rfl
 |.j,_=>Or.inl rfl
 |.cl _,h=>Or.inr h
 |.ar x,h=>zbF x h
theorem zM{cs:List Qb}{k:Str}(h:zd cs k=0):∃x:Kd,qo x=lst k/\zL cs x=true:=by
 unfold zd at h;split at h
 ·rename_i h1;rcases h1 with h1|h1
  ·exact⟨.n,h1.symm,rfl⟩
  ·exact⟨.t,h1.symm,rfl⟩
 ·split at h
  ·cases h
  ·rename_i h2;obtain⟨x,h3,h4,h5⟩:=zax (lst k) (by simpa using h2);refine⟨.ty x,h3,qcm x h5 ?_⟩;rw[h4]at h;split at h
   ·rename_i h6;exact Or.inl (List.isEmpty_iff.1 h6)
   ·split at h
    ·rename_i h7;exact Or.inr h7
    ·cases h
structure Zbp (cs:List Qb):Prop where
 refl:∀c,c∈Zq cs c
 trans:∀c d e,(Qc cs c).isSome=true->d∈Zq cs c->e∈Zq cs d->e∈Zq cs c
 anti:∀c d,(Qc cs c).isSome=true->(Qc cs d).isSome=true->d∈Zq cs c->c∈Zq cs d->c=d
 known:∀c d,(Qc cs c).isSome=true->d∈Zq cs c->(Qc cs d).isSome=true
 top:∀c,(Qc cs c).isSome=true->Zg∈Zq cs c
 root:∀d,d∈Zq cs Zg->d=Zg
 lub1:∀c d,(Qc cs c).isSome=true->(Qc cs d).isSome=true->zba cs c d∈Zq cs c/\zba cs c d∈Zq cs d
 lub2:∀c d e,(Qc cs c).isSome=true->(Qc cs d).isSome=true->e∈Zq cs c->e∈Zq cs d->e∈Zq cs (zba cs c d)
theorem Qj.line_mem{l:List Qb}(h:Qj l){x y:Str}(hk:(Qc (Za l) x).isSome=true):y∈Zq (Za l) x↔y=x\/((qh (Za l) x).super.size≠0/\y∈Zq (Za l) (qh (Za l) x).super):=by
 by_cases h0:(qh (Za l) x).super.size=0
 ·rw[Qj.line_top h0];simp[h0]
 ·rw[h.line_up hk h0,List.mem_cons];simp[h0]
theorem zal{cs:List Qb}(x:Str):x∈Zq cs x:=by unfold Zq;rw[Zbl];simp
theorem Qj.line_ind{l:List Qb}(h:Qj l)(P:Str->Prop)(h1:∀x,(Qc (Za l) x).isSome=true->(qh (Za l) x).super.size=0->P x)(h2:∀x,(Qc (Za l) x).isSome=true->(qh (Za l) x).super.size≠0->P (qh (Za l) x).super->P x):∀x,(Qc (Za l) x).isSome=true->P x:=by
 have:∀(k:Nat) (x:Str),(Qc (Za l) x).isSome=true->(Qk (Za l) x).length<=k->P x:=by
  intro k;induction k with
  |zero =>
   intro x hk hf;have:=List.length_pos_of_mem (Qn h.closed hk).2.1;omega
  |succ k ih =>
   intro x hk hf;by_cases h0:(qh (Za l) x).super.size=0
   ·exact h1 x hk h0
   ·obtain⟨hks,hlt⟩:=h.up hk h0;exact h2 x hk h0 (ih _ hks (by omega))
 exact fun x hk=>this _ x hk Xl
theorem Qcm{m:List Str}:∀l:List Str,(∃x∈l,x∈m)->zah m l∈l/\zah m l∈m
 |[],⟨x,hx,_⟩=>by cases hx
 |c::r,⟨x,hx,hm⟩=>by
  unfold zah;cases hc:ZL m c with
  |true=>rw[if_pos rfl];exact⟨by simp,qx.1 hc⟩
  |false =>
   rw[if_neg (by decide)];have hne:x≠c:=(by rintro rfl;rw[qx.2 hm]at hc;cases hc);have hxr:x∈r:=by
    rcases List.mem_cons.1 hx with h|h
    ·exact absurd h hne
    ·exact h
   obtain⟨g1,g2⟩:=Qcm r ⟨x,hxr,hm⟩;exact⟨by simp[g1],g2⟩
theorem Qj.tree{l:List Qb}(h:Qj l):Zbp (Za l):=by
 have known:∀c d,(Qc (Za l) c).isSome=true->d∈Zq (Za l) c->(Qc (Za l) d).isSome=true:=fun c d hk hd =>
  (Qn h.closed hk).1.known d ((h.line_facts _ c hk Xl).1 d hd)
 have trans:∀c,(Qc (Za l) c).isSome=true->∀d e,d∈Zq (Za l) c->e∈Zq (Za l) d->e∈Zq (Za l) c:=by
  refine h.line_ind _ (fun x hk h0 d e hd he=>?_) (fun x hk h0 ih d e hd he=>?_)
  ·rw[Qj.line_top h0]at hd;simp at hd;subst hd;exact he
  ·rcases(h.line_mem hk).1 hd with rfl|⟨_,hd⟩
   ·exact he
   ·exact(h.line_mem hk).2 (Or.inr ⟨h0,ih d e hd he⟩)
 have anti:∀c d,(Qc (Za l) c).isSome=true->(Qc (Za l) d).isSome=true->d∈Zq (Za l) c->c∈Zq (Za l) d->c=d:=by
  intro c d hc hd h1 h2;rcases(h.line_mem hc).1 h1 with rfl|⟨h0,h1⟩
  ·rfl
  ·exfalso;obtain⟨hks,hlt⟩:=h.up hc h0;have h3:=trans _ hks d c h1 h2;have h4:=(h.line_facts _ _ hks Xl).1 c h3;have e:=Qn h.closed hks;have g:=Qn h.closed hc;have:=Zaz (Qk (Za l) c) (Qk (Za l) (qh (Za l) c).super) g.1.nodup (g.2.2.2 (fun x=>x∈Qk (Za l) (qh (Za l) c).super) e.2.2.1 h4);omega
 have top:∀c,(Qc (Za l) c).isSome=true->Zg∈Zq (Za l) c:=fun c hk=>by
  obtain⟨t,ht⟩:=(h.line_facts _ c hk Xl).2;rw[ht];simp
 have root:∀d,d∈Zq (Za l) Zg->d=Zg:=fun d hd=>by
  rw[Qj.line_top (show(qh (Za l) Zg).super.size=0 from rfl)]at hd;simpa using hd
 have lub1:∀c d,(Qc (Za l) c).isSome=true->(Qc (Za l) d).isSome=true->zba (Za l) c d∈Zq (Za l) c/\zba (Za l) c d∈Zq (Za l) d:=fun c d hc hd =>
  Qcm _ ⟨Zg,top c hc,top d hd⟩
 have lub2:∀c,(Qc (Za l) c).isSome=true->∀d e,(Qc (Za l) d).isSome=true->e∈Zq (Za l) c->e∈Zq (Za l) d->e∈Zq (Za l) (zba (Za l) c d):=by
  refine h.line_ind _ (fun x hk h0 d e hd h1 h2=>?_) (fun x hk h0 ih d e hd h1 h2=>?_)
  ·have hx:x=Zg:=h.top hk h0;subst hx;rw[root e h1];exact top _ (known d _ hd (lub1 _ d hk hd).2)
  ·unfold zba;rw[h.line_up hk h0,zah];cases hm:ZL (Zq (Za l) d) x with
   |true=>rw[if_pos rfl];exact h1
   |false =>
    rw[if_neg (by decide)];rcases(h.line_mem hk).1 h1 with rfl|⟨_,h1⟩
    ·rw[qx.2 h2]at hm;cases hm
    ·exact ih d e hd h1 h2
 exact⟨zal,fun c d e hc hd he=>trans c hc d e hd he,anti,known,top,root,lub1,fun c d e hc hd h1 h2=>lub2 c hc d e hd h1 h2⟩
theorem qa7(cs:List Qb):∀x,Qa9 cs x x
 |.i=>trivial
 |.j=>trivial
 |.cl c=>zal c
 |.ar x=>qa7 cs x
theorem zb6{cs:List Qb}:∀{x y:Ty},Qa9 cs x y->Ql x=Ql y
 |.i,.i,_=>rfl
 |.j,.j,_=>rfl
 |.cl _,.cl _,_=>rfl
 |.ar _,.cl _,_=>rfl
 |.ar _,.ar _,_=>rfl
theorem Zb6{cs:List Qb}(T:Zbp cs):∀{x y z:Ty},ZH cs x=true->Qa9 cs x y->Qa9 cs y z->Qa9 cs x z
 |.i,.i,.i,_,_,_=>trivial
 |.j,.j,.j,_,_,_=>trivial
 |.cl c,.cl d,.cl e,hx,h1,h2=>T.trans c d e hx h1 h2
 |.ar _,.cl _,.cl e,_,h1,h2=>by
  have h1:_=Zg:=h1;subst h1;exact T.root e h2
 |.ar _,.ar _,.cl _,_,_,h2=>h2
 |.ar a,.ar b,.ar c,hx,h1,h2=>Zb6 T (x:=a) (y:=b) (z:=c) hx h1 h2
theorem zcn{cs:List Qb}(T:Zbp cs):∀{x y:Ty},ZH cs x=true->ZH cs y=true->Qa9 cs x y->Qa9 cs y x->x=y
 |.i,.i,_,_,_,_=>rfl
 |.j,.j,_,_,_,_=>rfl
 |.cl c,.cl d,hx,hy,h1,h2=>by rw[T.anti c d hx hy h1 h2]
 |.ar a,.ar b,hx,hy,h1,h2=>by rw[zcn T (x:=a) (y:=b) hx hy h1 h2]
theorem zaz(l:List Qb):(Qc (Za l) Zg).isSome=true:=rfl
theorem Zcn{cs:List Qb}(T:Zbp cs)(ho:(Qc cs Zg).isSome=true):∀{x y z:Ty},ZH cs x=true->ZH cs y=true->ZZ cs x y=some z->Qa9 cs x z/\Qa9 cs y z/\ZH cs z=true
 |.i,.i,_,_,_,h=>by cases h;exact⟨trivial,trivial,rfl⟩
 |.j,.j,_,_,_,h=>by cases h;exact⟨trivial,trivial,rfl⟩
 |.cl c,.cl d,_,hx,hy,h=>by
  cases h;obtain⟨g1,g2⟩:=T.lub1 c d hx hy;exact⟨g1,g2,T.known c _ hx g1⟩
 |.ar a,.ar b,z,hx,hy,h=>by
  unfold ZZ at h;cases hj:ZZ cs a b with
  |some w =>
   rw[hj]at h;cases h;obtain⟨g1,g2,g3⟩:=Zcn T ho (x:=a) (y:=b) hx hy hj;exact⟨g1,g2,g3⟩
  |none=>rw[hj]at h;cases h;exact⟨rfl,rfl,ho⟩
 |.ar _,.cl d,_,_,hy,h=>by cases h;exact⟨rfl,T.top d hy,ho⟩
 |.cl c,.ar _,_,hx,_,h=>by cases h;exact⟨T.top c hx,rfl,ho⟩
 |.i,.j,_,_,_,h=>by cases h
 |.i,.cl _,_,_,_,h=>by cases h
 |.i,.ar _,_,_,_,h=>by cases h
 |.j,.i,_,_,_,h=>by cases h
 |.j,.cl _,_,_,_,h=>by cases h
 |.j,.ar _,_,_,_,h=>by cases h
 |.cl _,.i,_,_,_,h=>by cases h
 |.cl _,.j,_,_,_,h=>by cases h
 |.ar _,.i,_,_,_,h=>by cases h
 |.ar _,.j,_,_,_,h=>by cases h
theorem Zc6{cs:List Qb}(T:Zbp cs):∀(x y z:Ty),ZH cs x=true->ZH cs y=true->Qa9 cs x z->Qa9 cs y z->∃w,ZZ cs x y=some w/\Qa9 cs w z:=by
 intro x;induction x with
 |i=>intro y z _ _ h1 h2;cases z<;>cases y<;>first|exact h1.elim|exact h2.elim|exact⟨_,rfl,trivial⟩
 |j=>intro y z _ _ h1 h2;cases z<;>cases y<;>first|exact h1.elim|exact h2.elim|exact⟨_,rfl,trivial⟩
 |cl c =>
  intro y z hx hy h1 h2;cases z with
  |cl e =>
   cases y with
   |cl d=>exact⟨_,rfl,T.lub2 c d e hx hy h1 h2⟩
   |ar b =>
    have h2:e=Zg:=h2;subst h2;exact⟨_,rfl,zal _⟩
   |i=>exact h2.elim
   |j=>exact h2.elim
  |i=>exact h1.elim
  |j=>exact h1.elim
  |ar _=>exact h1.elim
 |ar a ih =>
  intro y z hx hy h1 h2;cases z with
  |cl e =>
   have h1:e=Zg:=h1;subst h1;cases y with
   |cl d=>exact⟨_,rfl,zal _⟩
   |ar b =>
    unfold ZZ;cases ZZ cs a b with
    |some w=>exact⟨_,rfl,rfl⟩
    |none=>exact⟨_,rfl,zal _⟩
   |i=>exact h2.elim
   |j=>exact h2.elim
  |ar c =>
   cases y with
   |ar b =>
    obtain⟨w,g1,g2⟩:=ih b c hx hy h1 h2;exact⟨.ar w,by unfold ZZ;rw[g1],g2⟩
   |cl d=>exact h2.elim
   |i=>exact h2.elim
   |j=>exact h2.elim
  |i=>exact h1.elim
  |j=>exact h1.elim
theorem qc6{cs:List Qb}:∀{x y:Ty},Ql x=true->Ql y=true->∃w,ZZ cs x y=some w
 |.cl _,.cl _,_,_=>⟨_,rfl⟩
 |.ar a,.ar b,_,_=>by
  unfold ZZ;cases ZZ cs a b with
  |some w=>exact⟨_,rfl⟩
  |none=>exact⟨_,rfl⟩
 |.ar _,.cl _,_,_=>⟨_,rfl⟩
 |.cl _,.ar _,_,_=>⟨_,rfl⟩
theorem ZaM(cs:List Qb)(y:Ty):zS cs .n (.ty y)=if Ql y then .ty y else .t:=rfl
theorem qaM(cs:List Qb)(x:Ty):zS cs (.ty x) .n=if Ql x then .ty x else .t:=rfl
theorem zat(cs:List Qb)(x y:Ty):zS cs (.ty x) (.ty y)=match ZZ cs x y with
 |some z=>.ty z
 |none=>.t:=rfl
theorem za6(cs:List Qb):∀x,zaq cs x x
 |.n=>trivial
 |.t=>trivial
 |.ty x=>qa7 cs x
theorem qc1{cs:List Qb}(T:Zbp cs){x y z:Kd}(hx:zL cs x=true)(h1:zaq cs x y)(h2:zaq cs y z):zaq cs x z:=by
 cases z with
 |t=>cases x<;>trivial
 |n =>
  cases y with
  |n=>exact h1
  |t=>exact h2.elim
  |ty _=>exact h2.elim
 |ty z =>
  cases y with
  |t=>exact h2.elim
  |n =>
   cases x with
   |n=>exact h2
   |t=>exact h1.elim
   |ty _=>exact h1.elim
  |ty y =>
   cases x with
   |n =>
    show Ql z=true
    rw[<-zb6 (cs:=cs) (x:=y) (y:=z) h2];exact h1
   |t=>exact h1.elim
   |ty x=>exact Zb6 T (x:=x) (y:=y) (z:=z) hx h1 h2
theorem Qcj{cs:List Qb}(T:Zbp cs):∀{x y:Kd},zL cs x=true->zL cs y=true->zaq cs x y->zaq cs y x->x=y
 |.n,.n,_,_,_,_=>rfl
 |.t,.t,_,_,_,_=>rfl
 |.ty _,.ty _,hx,hy,h1,h2=>by rw[zcn T hx hy h1 h2]
theorem QbB{cs:List Qb}(T:Zbp cs)(ho:(Qc cs Zg).isSome=true){x y:Kd}(hx:zL cs x=true)(hy:zL cs y=true):zaq cs x (zS cs x y)/\zaq cs y (zS cs x y)/\zL cs (zS cs x y)=true:=by
 cases x with
 |t=>cases y<;>exact⟨trivial,trivial,rfl⟩
 |n =>
  cases y with
  |n=>exact⟨trivial,trivial,rfl⟩
  |t=>exact⟨trivial,trivial,rfl⟩
  |ty y =>
   rw[ZaM];by_cases h:Ql y=true
   ·rw[if_pos h];exact⟨h,qa7 cs y,hy⟩
   ·rw[if_neg h];exact⟨trivial,trivial,rfl⟩
 |ty x =>
  cases y with
  |n =>
   rw[qaM];by_cases h:Ql x=true
   ·rw[if_pos h];exact⟨qa7 cs x,h,hx⟩
   ·rw[if_neg h];exact⟨trivial,trivial,rfl⟩
  |t=>exact⟨trivial,trivial,rfl⟩
  |ty y =>
   rw[zat];cases hj:ZZ cs x y with
   |some z =>
    obtain⟨g1,g2,g3⟩:=Zcn T ho (x:=x) (y:=y) hx hy hj;exact⟨g1,g2,g3⟩
   |none=>exact⟨trivial,trivial,rfl⟩
theorem QbW{cs:List Qb}(T:Zbp cs){x y z:Kd}(hx:zL cs x=true)(hy:zL cs y=true)(h1:zaq cs x z)(h2:zaq cs y z):zaq cs (zS cs x y) z:=by
 cases z with
 |t=>cases zS cs x y<;>trivial
 |n =>
  cases x with
  |t=>exact h1.elim
  |ty _=>exact h1.elim
  |n =>
   cases y with
   |n=>trivial
   |t=>exact h2.elim
   |ty _=>exact h2.elim
 |ty z =>
  cases x with
  |t=>exact h1.elim
  |n =>
   cases y with
   |n=>exact h1
   |t=>exact h2.elim
   |ty y =>
    have hr:Ql y=true:=(by rw[zb6 (cs:=cs) (x:=y) (y:=z) h2];exact h1);rw[ZaM,if_pos hr];exact h2
  |ty x =>
   cases y with
   |t=>exact h2.elim
   |n =>
    have hr:Ql x=true:=(by rw[zb6 (cs:=cs) (x:=x) (y:=z) h1];exact h2);rw[qaM,if_pos hr];exact h1
   |ty y =>
    obtain⟨w,g1,g2⟩:=Zc6 T x y z hx hy h1 h2;rw[zat,g1];exact g2
theorem Zd9{cs:List Qb}(T:Zbp cs)(ho:(Qc cs Zg).isSome=true){x y:Kd}(hx:zL cs x=true)(hy:zL cs y=true):zS cs x y=y↔zaq cs x y:=by
 obtain⟨g1,g2,g3⟩:=QbB T ho hx hy;constructor
 ·intro h;rw[h]at g1;exact g1
 ·intro h;exact Qcj T g3 hy (QbW T hx hy h (za6 cs y)) g2
theorem Zdt{cs:List Qb}(T:Zbp cs)(ho:(Qc cs Zg).isSome=true){x:Kd}(hx:zL cs x=true):zS cs x x=x:=(Zd9 T ho hx hx).2 (za6 cs x)
theorem zb4{l:List Qb}(h:Qj l){c d:Str}(hk:(Qc (Za l) c).isSome=true)(hd:d∈Zq (Za l) c):d∈Qk (Za l) c:=(h.line_facts _ c hk Xl).1 d hd
theorem qcn{l:List Qb}(h:Qj l):∀{x y:Ty},ZH (Za l) x=true->Qa9 (Za l) x y->qT (Za l) x y=true
 |.i,.i,_,_=>rfl
 |.j,.j,_,_=>rfl
 |.cl _,.cl _,hx,h1=>qx.2 (zb4 h hx h1)
 |.ar _,.cl _,_,h1=>Xj h1
 |.ar a,.ar b,hx,h1=>qcn h (x:=a) (y:=b) hx h1
theorem Qdl{l:List Qb}(h:Qj l):∀{x y:Kd},zL (Za l) x=true->zaq (Za l) x y->Zx (Za l) x y=true
 |.n,.t,_,_=>rfl
 |.t,.t,_,_=>rfl
 |.ty _,.t,_,_=>rfl
 |.n,.n,_,_=>rfl
 |.n,.ty _,_,h1=>h1
 |.ty _,.ty _,hx,h1=>qcn h hx h1
theorem qcM{l:List Qb}(h:Qj l){c d e:Str}(hk:(Qc (Za l) c).isSome=true)(h1:d∈Qk (Za l) c)(h2:e∈Qk (Za l) d):e∈Qk (Za l) c:=by
 have g:=Qn h.closed hk;exact(Qn h.closed (g.1.known d h1)).2.2.2 (fun x=>x∈Qk (Za l) c) g.2.2.1 h1 e h2
theorem Qcy{l:List Qb}(h:Qj l){d:Str}(h1:d∈Qk (Za l) Zg):d=Zg:=by
 refine(Qn h.closed (n:=Zg) rfl).2.2.2 (fun x=>x=Zg) (fun x hx a ha=>?_) rfl d h1;subst hx;unfold Qo at ha;rw[show Qc (Za l) Zg=some QN from rfl]at ha;simp[QN,zg]at ha
theorem QbL{l:List Qb}(h:Qj l):∀x:Ty,ZH (Za l) x=true->qT (Za l) x x=true
 |.i,_=>rfl
 |.j,_=>rfl
 |.cl _,hx=>qx.2 (Qn h.closed hx).2.1
 |.ar x,hx=>QbL h x hx
theorem Qbk{cs:List Qb}:∀{x y:Ty},qT cs x y=true->Ql x=Ql y
 |.i,.i,_=>rfl
 |.j,.j,_=>rfl
 |.cl _,.cl _,_=>rfl
 |.ar _,.cl _,_=>rfl
 |.ar _,.ar _,_=>rfl
 |.i,.j,h=>by cases h
 |.i,.cl _,h=>by cases h
 |.i,.ar _,h=>by cases h
 |.j,.i,h=>by cases h
 |.j,.cl _,h=>by cases h
 |.j,.ar _,h=>by cases h
 |.cl _,.i,h=>by cases h
 |.cl _,.j,h=>by cases h
 |.ar _,.i,h=>by cases h
 |.ar _,.j,h=>by cases h
theorem qbs{l:List Qb}(h:Qj l):∀{x y z:Ty},ZH (Za l) x=true->qT (Za l) x y=true->qT (Za l) y z=true->qT (Za l) x z=true
 |.i,.i,_,_,_,h2=>h2
 |.j,.j,_,_,_,h2=>h2
 |.cl _,.cl _,.cl _,hx,h1,h2=>qx.2 (qcM h hx (qx.1 h1) (qx.1 h2))
 |.ar _,.cl _,.cl e,_,h1,h2=>by
  have h1:_=Zg:=Xm h1;subst h1;exact Xj (Qcy h (qx.1 h2))
 |.ar _,.ar _,.cl _,_,_,h2=>h2
 |.ar a,.ar b,.ar c,hx,h1,h2=>qbs h (x:=a) (y:=b) (z:=c) hx h1 h2
theorem Zdw{l:List Qb}(h:Qj l):∀x:Kd,zL (Za l) x=true->Zx (Za l) x x=true
 |.n,_=>rfl
 |.t,_=>rfl
 |.ty x,hx=>QbL h x hx
theorem zb5{l:List Qb}(h:Qj l){x y z:Kd}(hx:zL (Za l) x=true)(h1:Zx (Za l) x y=true)(h2:Zx (Za l) y z=true):Zx (Za l) x z=true:=by
 cases z with
 |t=>cases x<;>rfl
 |n =>
  cases y with
  |n=>exact h1
  |t=>cases h2
  |ty _=>cases h2
 |ty z =>
  cases y with
  |t=>cases h2
  |n =>
   cases x with
   |n=>exact h2
   |t=>cases h1
   |ty _=>cases h1
  |ty y =>
   cases x with
   |n =>
    show Ql z=true
    rw[<-Qbk (cs:=Za l) (x:=y) (y:=z) h2];exact h1
   |t=>cases h1
   |ty x=>exact qbs h (x:=x) (y:=y) (z:=z) hx h1 h2
def zaX(cs:List Qb)(k:Str)(x:Kd):Prop:=qo x=lst k/\zL cs x=true
theorem zaX.text{cs:List Qb}{k m:Str}{x:Kd}(h:zaX cs k x)(g:zaX cs m x):k=m:=ByteArray.ext (Array.toList_inj.1 (h.1.symm.trans g.1))
theorem QcM{c:List UInt8}(h:∀x∈c,x≠59):Qv (c++[59])=c.length:=by
 induction c with
 |nil=>rfl
 |cons a r ih =>
  show(if a=59 then 0 else Qv (r++[59])+1)=_
  rw[if_neg (h a (by simp)),ih (fun x hx=>h x (by simp[hx]))];rfl
theorem qdw{c:List UInt8}(h:Qt c=true):∀x∈c,x≠59:=by
 intro x hx;cases c with
 |nil=>cases hx
 |cons a r =>
  unfold Qt at h;simp only[Bool.and_eq_true,List.all_eq_true]at h;have:=h.2 x hx;rintro rfl;exact absurd this (by decide)
def Qp:Ty->Nat
 |.ar x=>Qp x+1
 |_=>0
theorem ZaB:∀x:Ty,qu (Zf x)=Qp x
 |.i=>rfl
 |.j=>rfl
 |.cl c=>by simp[Zf,qu,Qp]
 |.ar x=>by simp[Zf,qu,Qp,ZaB x]
def Z4:Ty->Ty
 |.ar x=>Z4 x
 |x=>x
theorem Qbs:∀x:Ty,(Zf x).drop (Qp x)=Zf (Z4 x)
 |.i=>rfl
 |.j=>rfl
 |.cl _=>rfl
 |.ar x=>by simp[Zf,Qp,Z4,Qbs x]
theorem QaS:∀x:Ty,(Z4 x=.i/\qA x=[])\/(Z4 x=.j/\qA x=[])\/∃c,Z4 x=.cl c/\qA x=lst c
 |.i=>Or.inl ⟨rfl,rfl⟩
 |.j=>Or.inr (Or.inl ⟨rfl,rfl⟩)
 |.cl c=>Or.inr (Or.inr ⟨c,rfl,rfl⟩)
 |.ar x=>QaS x
def QE(a:Str):Str:=⟨#[91]⟩++a
theorem za0(a:Str):lst (QE a)=91::lst a:=by
 unfold QE lst;rw[ByteArray.data_append,Array.toList_append];rfl
theorem zcN(x:Ty):Qag (Zf x)=!Ql x:=by
 cases x with
 |i=>rfl
 |j=>rfl
 |cl c=>simp[Qag,Zf,Ql]
 |ar x=>simp[Qag,Zf,Ql]
theorem qa0{cs:List Qb}{x y:Ty}(h:Ql x=false\/Ql y=false):qT cs x y=decide (x=y):=by
 cases x<;>cases y<;>first|rfl|(rcases h with h|h<;>cases h)
def qt:Kd->Bool
 |.ty x=>Ql x
 |_=>false
theorem qd9{s:List UInt8}(h:Qt s=true):s≠[]:=by rintro rfl;cases h
theorem ZbR{c:Qb}(h:qd c=0):c.name.size≠0:=by
 unfold qd at h;split at h
 ·cases h
 ·rename_i h1;rw[Bool.not_eq_true,Bool.or_eq_false_iff,Bool.not_eq_false']at h1;intro h0;have:lst c.name=[]:=by
   unfold lst;rw[<-List.length_eq_zero_iff];exact h0
  exact qd9 h1.1 this
theorem ZcN{l:List Qb}(hcf:∀c∈l,qd c=0)(x:Str)(hx:(Qc (Za l) x).isSome=true):x.size≠0:=by
 obtain⟨c,hc,rfl⟩:=Zat hx;unfold Za at hc;rcases List.mem_cons.1 hc with rfl|hc
 ·decide
 ·rcases List.mem_cons.1 hc with rfl|hc
  ·decide
  ·exact ZbR (hcf c hc)
theorem qcN{l:List Qb}:∀a:List Qb,Qf Zv a l=0->∀c∈l,qd c=0:=by
 induction l with
 |nil=>intro a _ c hc;cases hc
 |cons d r ih =>
  intro a h c hc;rw[Qf]at h;by_cases h0:Zv d a=0
  ·rw[if_pos h0]at h;rcases List.mem_cons.1 hc with rfl|hc
   ·unfold Zv at h0;by_cases h1:qd c≠0
    ·rw[if_pos h1]at h0;exact absurd h0 h1
    ·simpa using h1
   ·exact ih _ h c hc
  ·rw[if_neg h0]at h;exact absurd h h0
theorem Q5{l:List Qb}(h:Zj l=0):∀c∈l,qd c=0:=by
 unfold Zj at h;split at h
 ·cases h
 ·split at h
  ·rename_i h1;exact absurd h h1
  ·rename_i h1;exact qcN [] (by simpa using h1)
def upC(cs:List Qb)(n:Str):List Str:=qaa (Qo cs) (cs.length+1) 0 (Qo cs n)
theorem qb6{cs:List Qb}(hcl:zay cs){n:Str}(hk:(Qc cs n).isSome=true)(hn:(Qo cs n).Nodup):
 qaz cs (upC cs n)/\(∀x∈Qo cs n,x∈upC cs n)/\(∀x∈upC cs n,∀a∈Qo cs x,a∈upC cs n) /\
  (∀S:Str->Prop,(∀x,S x->∀a∈Qo cs x,S a)->(∀x∈Qo cs n,S x)->∀x∈upC cs n,S x) :=
 zbM hcl (cs.length+1) 0 (Qo cs n) ⟨hn,hcl n hk⟩ (by omega) (fun j x hj=>by omega)
theorem QdQ{cs:List Qb}(hcl:zay cs){n:Str}(hk:(Qc cs n).isSome=true)(hn:(Qo cs n).Nodup)(x:Str):x∈upC cs n↔∃a∈Qo cs n,x∈Qk cs a:=by
 obtain⟨h1,h2,h3,h4⟩:=qb6 hcl hk hn;constructor
 ·refine h4 (fun x=>∃a∈Qo cs n,x∈Qk cs a) ?_ ?_ x
  ·rintro y⟨a,ha,hy⟩b hb;exact⟨a,ha,(Qn hcl (hcl n hk a ha)).2.2.1 y hy b hb⟩
  ·intro y hy;exact⟨y,hy,(Qn hcl (hcl n hk y hy)).2.1⟩
 ·rintro⟨a,ha,hx⟩;exact(Qn hcl (hcl n hk a ha)).2.2.2 (fun y=>y∈upC cs n) h3 (h2 a ha) x hx
theorem zdR{cs:List Qb}(hcl:zay cs){n:Str}(hk:(Qc cs n).isSome=true)(hn:(Qo cs n).Nodup):ZL (upC cs n) n=ZR cs n:=by
 unfold ZR;rw[Bool.eq_iff_iff,qx,QdQ hcl hk hn,List.any_eq_true];constructor
 ·rintro⟨a,h1,h2⟩;exact⟨a,h1,qx.2 h2⟩
 ·rintro⟨a,h1,h2⟩;exact⟨a,h1,qx.1 h2⟩
theorem QcN:∀(r a:List Str),a.Nodup->Qf ZC a r=0->(a++r).Nodup:=by
 intro r;induction r with
 |nil=>intro a ha _;simpa using ha
 |cons x r ih =>
  intro a ha h;rw[Qf]at h;by_cases h0:ZC x a=0
  ·rw[if_pos h0]at h;have hx:ZL a x=false:=by
    unfold ZC at h0;split at h0
    ·cases h0
    ·split at h0
     ·cases h0
     ·rename_i h2;simpa using h2
   have:=ih (a++[x]) (by
    rw[List.nodup_append];refine⟨ha,by simp,fun y hy z hz=>?_⟩;simp at hz;subst hz;rintro rfl;rw[qx.2 hy]at hx;cases hx) h
   simpa using this
  ·rw[if_neg h0]at h;exact absurd h h0
theorem ZbF{c:Qb}(h:qd c=0):c.faces.Nodup:=by
 unfold qd at h;split at h
 ·cases h
 ·split at h
  ·rename_i h1;exact absurd h h1
  ·rename_i h1;simpa using QcN c.faces [] (by simp) (by simpa using h1)
theorem qav{cs:List Qb}{n:Str}{f:Bool}(h:zu cs n f=0):∃c,Qc cs n=some c/\c.face=f:=by
 unfold zu at h;split at h
 ·cases h
 ·rename_i c hc;refine⟨c,hc,?_⟩;split at h
  ·assumption
  ·cases h
theorem ZaS{cs:List Qb}{c:Qb}(h:qv cs c=0):zu cs c.super false=0/\∀a∈c.faces,zu cs a true=0:=by
 unfold qv at h;split at h
 ·cases h
 ·split at h
  ·cases h
  ·split at h
   ·cases h
   ·split at h
    ·rename_i h1;exact absurd h h1
    ·rename_i h1;split at h
     ·rename_i h2;exact absurd h h2
     ·rename_i h2;exact⟨by simpa using h1,Q2 (by simpa using h2)⟩
theorem ZaG{l:List Qb}(hf:∀c∈l,qd c=0)(hj:∀c∈l,qv (Za l) c=0){n:Str}(hk:(Qc (Za l) n).isSome=true):(Qo (Za l) n).Nodup:=by
 rw[Option.isSome_iff_exists]at hk;obtain⟨c,hc⟩:=hk;have hm:c∈Za l:=List.mem_of_find?_eq_some hc;unfold Qo;rw[hc];simp only[Option.getD_some];unfold Za at hm;rcases List.mem_cons.1 hm with rfl|hm
 ·decide
 ·rcases List.mem_cons.1 hm with rfl|hm
  ·decide
  ·have h1:=ZbF (hf c hm);obtain⟨h2,h3⟩:=ZaS (hj c hm);split
   ·exact h1
   ·rw[List.nodup_cons];refine⟨fun hin=>?_,h1⟩;obtain⟨d,hd,e1⟩:=qav h2;obtain⟨d2,hd2,e2⟩:=qav (h3 _ hin);rw[hd]at hd2;injection hd2 with hd2;subst hd2
    rw[e1]at e2;cases e2
def qat(out:List Str)(acc x:Str):Str:=if !ZL out x&&(acc.toList.isEmpty||Op.bytesLess x.toList acc.toList) then x else acc
def qZ(out:List Str)(l:List Str)(acc:Str):Str:=l.foldl (qat out) acc
theorem ZbM(out:List Str)(a:Str)(l:List Str)(acc:Str):qZ out (a::l) acc=qZ out l (qat out acc a):=rfl
theorem zcO(out l:List Str)(acc:Str)(k:Nat)(x:Str)(h:l[k]? = some x):qZ out (l.drop k) acc=qZ out (l.drop (k+1)) (qat out acc x):=by
 obtain⟨hk,rfl⟩:=List.getElem?_eq_some_iff.1 h;rw[List.drop_eq_getElem_cons hk,ZbM]
theorem ZcO{x y:Str}:Op.bytesLess x.toList y.toList=true↔x.data.toList<y.data.toList:=by
 rw[bytesLess_eq,ByteArray.toList_eq,ByteArray.toList_eq];simp
theorem qbM(out:List Str):∀(l:List Str) (acc:Str),(∀x∈l,x.size≠0) ->
 (qZ out l acc=acc\/(qZ out l acc∈l/\ZL out (qZ out l acc)=false)) /\
 (∀x∈l,ZL out x=false->(qZ out l acc).size≠0/\¬x.data.toList<(qZ out l acc).data.toList) /\
 (acc.size≠0->(qZ out l acc).size≠0/\¬acc.data.toList<(qZ out l acc).data.toList)
 |[],acc,_=>⟨Or.inl rfl,(fun x hx=>by cases hx),fun h=>⟨h,List.lt_irrefl _⟩⟩
 |a::l,acc,hne=>by
  rw[ZbM];have ha:=hne a (by simp);have hne':∀x∈l,x.size≠0:=fun x hx=>hne x (by simp[hx])
  obtain⟨h1,h2,h3⟩:=qbM out l (qat out acc a) hne';generalize qZ out l (qat out acc a)=r at *;unfold qat at h1 h3;by_cases hc:(!ZL out a&&(acc.toList.isEmpty||Op.bytesLess a.toList acc.toList))=true
  ·rw[if_pos hc]at h1 h3;rw[Bool.and_eq_true,Bool.or_eq_true,Bool.not_eq_true',ZD,decide_eq_true_eq,ZcO]at hc;obtain⟨hm,hlt⟩:=hc;obtain⟨g1,g2⟩:=h3 ha;refine⟨Or.inr ?_,fun x hx hxm=>?_,fun hacc=>⟨g1,fun hl=>?_⟩⟩
   ·rcases h1 with rfl|⟨h1,h1'⟩
    ·exact⟨by simp,hm⟩
    ·exact⟨by simp[h1],h1'⟩
   ·rcases List.mem_cons.1 hx with rfl|hx
    ·exact⟨g1,g2⟩
    ·exact h2 x hx hxm
   ·rcases hlt with h|h
    ·exact hacc h
    ·exact g2 (List.lt_trans h hl)
  ·rw[if_neg hc]at h1 h3;rw[Bool.and_eq_true,Bool.or_eq_true,Bool.not_eq_true',ZD,decide_eq_true_eq,ZcO]at hc;refine⟨?_,fun x hx hxm=>?_,h3⟩
   ·rcases h1 with h1|⟨h1,h1'⟩
    ·exact Or.inl h1
    ·exact Or.inr ⟨by simp[h1],h1'⟩
   ·rcases List.mem_cons.1 hx with rfl|hx
    ·have h0:acc.size≠0:=fun h=>hc ⟨hxm,Or.inl h⟩
     have h4:¬x.data.toList<acc.data.toList:=fun h=>hc ⟨hxm,Or.inr h⟩
     obtain⟨g1,g2⟩:=h3 h0;refine⟨g1,fun hl=>g2 ?_⟩;exact List.lt_of_le_of_lt (List.not_lt.1 h4) hl
    ·exact h2 x hx hxm
theorem Qcn(l:List Str)(x:Str):x∈qE l↔x∈l:=by
 rw[<-qx,zaM,qx]
theorem qaE(l:List Str):(qE l).Pairwise fun x y=>¬y.data.toList<x.data.toList:=by
 unfold qE;rw[List.pairwise_map];have h:=List.pairwise_mergeSort (le:=fun x y:List UInt8=>decide (x<=y)) (fun a b c h1 h2=>by simp at *;exact List.le_trans h1 h2) (fun a b=>by simp;exact List.le_total a b) (l.map (·.data.toList));refine h.imp fun {a b} hab=>?_
 simpa using hab
theorem qbl(l:List Str):(qE l).Perm l:=by
 have h:=(List.mergeSort_perm (l.map (·.data.toList)) fun x y=>decide (x<=y)).map fun x:List UInt8=>(⟨x.toArray⟩:Str)
 rw[List.map_map]at h;have e:l.map ((fun x:List UInt8=>(⟨x.toArray⟩:Str)) ∘ fun x=>x.data.toList)=l:=by
  conv=>rhs;rw[<-List.map_id l]
  exact List.map_congr_left fun x _=>rfl
 rw[e]at h;exact h
theorem qcO{l:List Str}(h:l.Nodup):(qE l).Nodup:=(qbl l).nodup_iff.2 h
theorem Qc6{l:List Str}(hn:l.Nodup)(hne:∀x∈l,x.size≠0)(k:Nat)(x:Str)(hx:(qE l)[k]? = some x):qZ ((qE l).take k) l .empty=x:=by
 obtain⟨h1,h2,_⟩:=qbM ((qE l).take k) l .empty hne;obtain⟨hk,hkx⟩:=List.getElem?_eq_some_iff.1 hx;have hs:=qcO hn;have hp:=qaE l;have hxm:ZL ((qE l).take k) x=false:=by
  cases hm:ZL ((qE l).take k) x with
  |false=>rfl
  |true =>
   exfalso;obtain⟨j,hj,hjx⟩:=List.getElem_of_mem (qx.1 hm);simp at hj;rw[List.getElem_take]at hjx;exact List.pairwise_iff_getElem.1 hs j k (by omega) hk (by omega) (by rw[hjx,hkx])
 have hxl:x∈l:=(Qcn l x).1 (Xe hx);obtain⟨g1,g2⟩:=h2 x hxl hxm;rcases h1 with h1|⟨h1,h1'⟩
 ·rw[h1]at g1;exact absurd rfl g1
 ·obtain⟨j,hj,hjx⟩:=List.getElem_of_mem ((Qcn l _).2 h1);have hjk:k<=j:=by
   by_cases hlt:j<k
   ·exfalso;have:qZ ((qE l).take k) l .empty∈(qE l).take k:=by
     rw[List.mem_take_iff_getElem];exact⟨j,by omega,hjx⟩
    rw[qx.2 this]at h1';cases h1'
   ·omega
  by_cases he:j=k
  ·subst he;rw[<-hjx,hkx]
  ·have h3:=List.pairwise_iff_getElem.1 hp k j hk hj (by omega);rw[hkx,hjx]at h3;have h4:(qZ ((qE l).take k) l .empty).data.toList=x.data.toList:=List.le_antisymm (List.not_lt.1 g2) (List.not_lt.1 h3);exact ByteArray.ext (Array.toList_inj.1 h4)
theorem zc7{l m:List Str}(hl:l.Nodup)(hm:m.Nodup)(h:∀x,x∈l↔x∈m):qE l=qE m:=by
 have hp:(qE l).Perm (qE m):=(qbl l).trans (((List.perm_ext_iff_of_nodup hl hm).2 h).trans (qbl m).symm);refine List.Perm.eq_of_pairwise (le:=fun x y:Str=>¬y.data.toList<x.data.toList) (fun a b _ _ h1 h2=>?_) (qaE l) (qaE m) hp;exact ByteArray.ext (Array.toList_inj.1 (List.le_antisymm (List.not_lt.1 h1) (List.not_lt.1 h2)))
theorem ZdR{l:List Qb}(h:Qj l)(hf:∀c∈l,qd c=0){n:Str}(hk:(Qc (Za l) n).isSome=true):
 (n::upC (Za l) n).Nodup/\qE (n::upC (Za l) n)=qE (Qk (Za l) n):=by
 have hn:=ZaG hf h.joined hk;obtain⟨h1,h2,h3,h4⟩:=qb6 h.closed hk hn;obtain⟨e1,e2,e3,e4⟩:=Qn h.closed hk;have hnot:n∉upC (Za l) n:=by
  intro hin;obtain⟨a,ha,hna⟩:=(QdQ h.closed hk hn n).1 hin;have hr:ZR (Za l) n=true:=by
   unfold ZR;rw[List.any_eq_true];exact⟨a,ha,qx.2 hna⟩
  obtain⟨c,hc,rfl⟩:=Zat hk;unfold Za at hc;rcases List.mem_cons.1 hc with rfl|hc
  ·unfold Qo at ha;rw[show Qc (Za l) QN.name=some QN from rfl]at ha;simp[QN,zg]at ha
  ·rcases List.mem_cons.1 hc with rfl|hc
   ·have ha':a=Zg:=by
     unfold Qo at ha;rw[show Qc (Za l) QW.name=some QW from h.find (c:=QW) (by simp[Za])]at ha;simp[QW,zg]at ha;exact ha.2
    subst ha';have hob:=(Qn h.closed (n:=Zg) rfl).2.2.2 (fun x=>x=Zg) (fun x hx b hb=>by
     subst hx;unfold Qo at hb;rw[show Qc (Za l) Zg=some QN from rfl]at hb;simp[QN,zg]at hb) rfl _ hna
    exact absurd hob (by decide)
   ·rw[h.round c hc]at hr;cases hr
 refine⟨List.nodup_cons.2 ⟨hnot,h1.nodup⟩,zc7 (List.nodup_cons.2 ⟨hnot,h1.nodup⟩) e1.nodup fun x=>?_⟩;rw[List.mem_cons];constructor
 ·rintro(rfl|hx)
  ·exact e2
  ·exact h4 (fun y=>y∈Qk (Za l) n) e3 (fun y hy=>e3 n e2 y hy) x hx
 ·intro hx;refine e4 (fun y=>y=n\/y∈upC (Za l) n) ?_ (Or.inl rfl) x hx;rintro y (rfl|hy) a ha
  ·exact Or.inr (h2 a ha)
  ·exact Or.inr (h3 y hy a ha)
theorem zel{l:List Qb}(hf:∀c∈l,qd c=0)(hj:∀c∈l,qv (Za l) c=0){c:Qb}(hc:c∈l):ZL (upC (Za l) c.name) c.name=ZR (Za l) c.name :=
 zdR (Qa7 hj) (QaL hc) (ZaG hf hj (QaL hc))
theorem zb3(m l:List Str)(k:Nat)(x:Str)(h:l[k]? = some x):zah m (l.drop k)=if ZL m x then x else zah m (l.drop (k+1)):=by
 obtain⟨hk,rfl⟩:=List.getElem?_eq_some_iff.1 h;rw[List.drop_eq_getElem_cons hk];rfl
theorem Qj.face_line{l:List Qb}(h:Qj l){c:Str}(hk:(Qc (Za l) c).isSome=true)(hf:(qh (Za l) c).face=true):Zq (Za l) c=[c,Zg]:=by
 rw[Option.isSome_iff_exists]at hk;obtain⟨d,hd⟩:=hk;have hm:d∈Za l:=List.mem_of_find?_eq_some hd;have hc:qh (Za l) c=d:=by unfold qh;rw[hd];rfl
 rw[hc]at hf;unfold Za at hm;rcases List.mem_cons.1 hm with rfl|hm
 ·cases hf
 ·rcases List.mem_cons.1 hm with rfl|hm
  ·cases hf
  ·have hj:=h.joined d hm;have hs:d.super=Zg:=by
    unfold qv at hj;split at hj
    ·cases hj
    ·split at hj
     ·cases hj
     ·split at hj
      ·cases hj
      ·split at hj
       ·rename_i h1;exact absurd hj h1
       ·split at hj
        ·rename_i h1;exact absurd hj h1
        ·split at hj
         ·cases hj
         ·rename_i h1;simp[hf]at h1;exact h1
   rw[h.line_up (by rw[hd];rfl) (by rw[hc,hs];decide),hc,hs,Qj.line_top (show(qh (Za l) Zg).super.size=0 from rfl)]
theorem Qj.line_noface{l:List Qb}(h:Qj l):∀c,(Qc (Za l) c).isSome=true->∀d∈Zq (Za l) c,d≠c->(qh (Za l) d).face=false:=by
 refine h.line_ind _ (fun x hk h0 d hd hne=>?_) (fun x hk h0 ih d hd hne=>?_)
 ·rw[Qj.line_top h0]at hd;simp at hd;exact absurd hd hne
 ·rcases(h.line_mem hk).1 hd with rfl|⟨_,hd⟩
  ·exact absurd rfl hne
  ·by_cases hs:d=(qh (Za l) x).super
   ·rw[Option.isSome_iff_exists]at hk;obtain⟨c,hc⟩:=hk;have hm:c∈Za l:=List.mem_of_find?_eq_some hc;have hcc:qh (Za l) x=c:=(by unfold qh;rw[hc];rfl);rw[hs,hcc];unfold Za at hm;rcases List.mem_cons.1 hm with rfl|hm
    ·rw[hcc]at h0;exact absurd rfl h0
    ·rcases List.mem_cons.1 hm with rfl|hm
     ·rfl
     ·obtain⟨g1,_⟩:=ZaS (h.joined c hm);obtain⟨e,he,hef⟩:=qav g1;unfold qh;rw[he];exact hef
   ·exact ih d hd hs
theorem Qj.classes{l:List Qb}(h:Qj l){c d:Str}(hc:(Qc (Za l) c).isSome=true)(hd:(Qc (Za l) d).isSome=true)(hne:c≠d):
 (if ((qh (Za l) c).face||(qh (Za l) d).face)=true then Zg else zba (Za l) c d)=zba (Za l) c d:=by
 by_cases hf:((qh (Za l) c).face||(qh (Za l) d).face)=true
 ·rw[if_pos hf];obtain⟨g1,g2⟩:=h.tree.lub1 c d hc hd;rw[Bool.or_eq_true]at hf;rcases hf with hf|hf
  ·rw[h.face_line hc hf]at g1;simp at g1;rcases g1 with g1|g1
   ·rw[g1]at g2;have:=h.line_noface d hd c g2 hne;rw[hf]at this;cases this
   ·exact g1.symm
  ·rw[h.face_line hd hf]at g2;simp at g2;rcases g2 with g2|g2
   ·rw[g2]at g1;have:=h.line_noface c hc d g1 (fun h=>hne h.symm);rw[hf]at this;cases this
   ·exact g2.symm
 ·rw[if_neg hf]
theorem QbM{cs:List Qb}{x y:Ty}(h2:x≠y)(h:Ql x=false\/Ql y=false):ZZ cs x y=none:=by
 cases x<;>cases y<;>first|rfl|(exact absurd rfl h2)|(rcases h with h|h<;>cases h)
theorem qdt{cs:List Qb}{x y:Kd}(h2:x≠y)(h3:¬(x=.n/\qt y=true))(h4:¬(y=.n/\qt x=true))(h:qt x=false\/qt y=false):zS cs x y=.t:=by
 cases x with
 |n=>cases y with
  |n=>exact absurd rfl h2
  |t=>rfl
  |ty z =>
   rw[ZaM];cases hz:Ql z with
   |true=>exact absurd ⟨rfl,hz⟩ h3
   |false=>rfl
 |t=>cases y<;>rfl
 |ty u=>cases y with
  |n =>
   rw[qaM];cases hz:Ql u with
   |true=>exact absurd ⟨rfl,hz⟩ h4
   |false=>rfl
  |t=>rfl
  |ty v =>
   rw[zat,QbM (fun e=>h2 (by rw[e])) h]
theorem qcK{cs:List Qb}{x y:Ty}(hx:Ql x=true)(hy:Ql y=true):∃z,zS cs (.ty x) (.ty y)=.ty z/\zS cs (.ty (.ar x)) (.ty (.ar y))=.ty (.ar z):=by
 obtain⟨z,hz⟩:=qc6 (cs:=cs) hx hy;refine⟨z,by rw[zat,hz],?_⟩;rw[zat];unfold ZZ;rw[hz]
theorem Zbc{cs:List Qb}{x y:Ty}(hne:x≠y)(h:Ql x=false\/Ql y=false):zS cs (.ty (.ar x)) (.ty (.ar y))=.ty (.cl Zg):=by
 rw[zat];unfold ZZ;rw[QbM hne h]
theorem QcO{l:List Qb}(hf:∀c∈l,qd c=0){x:Str}(hx:(Qc (Za l) x).isSome=true):Qt (lst x)=true:=by
 obtain⟨c,hc,rfl⟩:=Zat hx;unfold Za at hc;rcases List.mem_cons.1 hc with rfl|hc
 ·decide
 ·rcases List.mem_cons.1 hc with rfl|hc
  ·decide
  ·have h:=hf c hc;unfold qd at h;split at h
   ·cases h
   ·rename_i h1;rw[Bool.not_eq_true,Bool.or_eq_false_iff,Bool.not_eq_false']at h1;exact h1.1
theorem za8{l:List Qb}(hf:∀c∈l,qd c=0):∀x:Ty,ZH (Za l) x=true->qao x=true
 |.i,_=>rfl
 |.j,_=>rfl
 |.cl _,h=>QcO hf h
 |.ar x,h=>za8 hf x h
theorem zbt:∀x:Ty,qao x=true->qR (Zf (Z4 x))=(Zf (Z4 x)).length
 |.i,_=>rfl
 |.j,_=>rfl
 |.cl c,h=>by
  have hs:=QcM (qdw (c:=lst c) h);show(if (76:UInt8)=73\/(76:UInt8)=74 then 1 else if (76:UInt8)=76 then (if Qv (lst c++[59])<(lst c++[59]).length/\Qt ((lst c++[59]).take (Qv (lst c++[59])))=true then Qv (lst c++[59])+2 else 0) else 0)=(76::(lst c++[59])).length
  rw[if_neg (by decide),if_pos rfl,hs,List.take_left,if_pos ⟨by simp,h⟩];simp
 |.ar x,h=>zbt x h
theorem qaG:∀x:Ty,(Zf x).length=Qp x+(Zf (Z4 x)).length
 |.i=>rfl
 |.j=>rfl
 |.cl c=>by simp[Qp,Z4]
 |.ar x=>by
  have:=qaG x;simp only[Zf,Qp,Z4,List.length_cons];omega
theorem QaE{x:Ty}(hn:qao x=true)(hd:Qp x<=3):Qs (Zf x)=true:=by
 have h1:=zbt x hn;have h2:=qaG x;have hp:0<(Zf (Z4 x)).length:=List.length_pos_iff.2 (zaB _);unfold Qs ZA;rw[ZaB,Qbs,if_pos ⟨hd,by omega⟩,Bool.and_eq_true,beq_iff_eq];refine⟨?_,by omega⟩;cases h:Zf x with
 |nil=>exact absurd h (zaB x)
 |cons _ _=>rfl
theorem Qbr{x:Ty}(h:Qs (Zf x)=true):Qp x<=3:=by
 unfold Qs ZA at h;rw[ZaB,Bool.and_eq_true,beq_iff_eq]at h;have hp:0<(Zf x).length:=List.length_pos_iff.2 (zaB _);split at h
 ·rename_i h1;exact h1.1
 ·omega
def Zah:Kd->Nat
 |.ty x=>Qp x
 |_=>0
theorem Qb6{x:Ty}(h:qao x=true)(hd:Qp x<=3):zak (Zf x)=qA x:=by
 obtain⟨y,h1,h2,_⟩:=zax (Zf x) (QaE h hd);rw[h2,ZaE h1]
theorem Qbi{l:List Qb}(hf:∀c∈l,qd c=0){k:Str}{x:Kd}(h:zaX (Za l) k x)(hd:Zah x<=3):zd (Za l) k=0:=by
 obtain⟨h1,h2⟩:=h;unfold zd;rw[<-h1];cases x with
 |n=>exact if_pos (Or.inl rfl)
 |t=>exact if_pos (Or.inr rfl)
 |ty y =>
  have hn:=za8 hf y h2;have hne:∀z:Ty,Zf z≠[78]/\Zf z≠[84]:=fun z=>by cases z<;>simp[Zf]
  show(if Zf y=[78]\/Zf y=[84] then 0 else if !Qs (Zf y) then 1 else if (zak (Zf y)).isEmpty then 0 else if (Qc (Za l) (str (zak (Zf y)))).isSome then 0 else 3)=0
  rw[if_neg (fun h=>by rcases h with h|h;exact(hne y).1 h;exact(hne y).2 h),QaE hn hd,if_neg (by decide),Qb6 hn hd];rcases zbF y h2 with hb|hb
  ·rw[hb];rfl
  ·rw[hb];split<;>rfl
theorem qas{cs:List Qb}{k:Str}{x:Kd}(h:zaX cs k x)(hk:zd cs k=0):Zah x<=3:=by
 cases x with
 |n=>exact Nat.zero_le _
 |t=>exact Nat.zero_le _
 |ty y =>
  unfold zd at hk;rw[<-h.1]at hk;have hne:∀z:Ty,Zf z≠[78]/\Zf z≠[84]:=fun z=>by cases z<;>simp[Zf]
  change (if Zf y=[78]\/Zf y=[84] then 0 else if !Qs (Zf y) then 1 else _)=0 at hk;rw[if_neg (fun h=>by rcases h with h|h;exact(hne y).1 h;exact(hne y).2 h)]at hk;cases ht:Qs (Zf y) with
  |true=>exact Qbr ht
  |false=>rw[ht]at hk;cases hk
theorem zbN{cs:List Qb}:∀{x y z:Ty},ZZ cs x y=some z->Qp z<=max (Qp x) (Qp y)
 |.i,.i,_,h=>by cases h;exact Nat.zero_le _
 |.j,.j,_,h=>by cases h;exact Nat.zero_le _
 |.cl _,.cl _,_,h=>by cases h;exact Nat.zero_le _
 |.ar a,.ar b,z,h=>by
  unfold ZZ at h;cases hj:ZZ cs a b with
  |some w =>
   rw[hj]at h;cases h;have:=zbN hj;simp only[Qp];omega
  |none=>rw[hj]at h;cases h;exact Nat.zero_le _
 |.ar _,.cl _,_,h=>by cases h;exact Nat.zero_le _
 |.cl _,.ar _,_,h=>by cases h;exact Nat.zero_le _
 |.i,.j,_,h=>by cases h
 |.i,.cl _,_,h=>by cases h
 |.i,.ar _,_,h=>by cases h
 |.j,.i,_,h=>by cases h
 |.j,.cl _,_,h=>by cases h
 |.j,.ar _,_,h=>by cases h
 |.cl _,.i,_,h=>by cases h
 |.cl _,.j,_,h=>by cases h
 |.ar _,.i,_,h=>by cases h
 |.ar _,.j,_,h=>by cases h
theorem zcP{cs:List Qb}(x y:Kd):Zah (zS cs x y)<=max (Zah x) (Zah y):=by
 cases x with
 |n=>cases y with
  |n=>exact Nat.zero_le _
  |t=>exact Nat.zero_le _
  |ty z =>
   rw[ZaM];split
   ·exact Nat.le_max_right _ _
   ·exact Nat.zero_le _
 |t=>cases y<;>exact Nat.zero_le _
 |ty u=>cases y with
  |n =>
   rw[qaM];split
   ·exact Nat.le_max_left _ _
   ·exact Nat.zero_le _
  |t=>exact Nat.zero_le _
  |ty v =>
   rw[zat];cases hj:ZZ cs u v with
   |some z=>exact zbN hj
   |none=>exact Nat.zero_le _
theorem qdq{l:List Qb}(hf:∀c∈l,qd c=0){a b z:Str}{x y:Kd}(hx:zaX (Za l) a x)(hy:zaX (Za l) b y)(ka:zd (Za l) a=0)(kb:zd (Za l) b=0)(hz:zaX (Za l) z (zS (Za l) x y)):zd (Za l) z=0:=by
 have h1:=qas hx ka;have h2:=qas hy kb;have h3:=zcP (cs:=Za l) x y;exact Qbi hf hz (by omega)
def QG:Zk:=⟨.empty,.empty,false,false,false,0,[],[]⟩
def zab(n:Str):List qag->Option qag
 |[]=>none
 |f::r=>if f.name=n then some f else zab n r
theorem zbr(n:Str)(l:List qag)(k:Nat)(x:qag)(h:l[k]? = some x):zab n (l.drop k)=if x.name=n then some x else zab n (l.drop (k+1)):=by
 obtain⟨hk,rfl⟩:=List.getElem?_eq_some_iff.1 h;rw[List.drop_eq_getElem_cons hk];rfl
def Z0(cs:List Qb)(n:Str):List Str->Option (Str×qag)
 |[]=>none
 |c::r=>match zab n (qh cs c).fields with
  |some f=>some (c,f)
  |none=>Z0 cs n r
theorem Qbq(cs:List Qb)(n:Str)(l:List Str)(k:Nat)(x:Str)(h:l[k]? = some x):Z0 cs n (l.drop k)=match zab n (qh cs x).fields with
 |some f=>some (x,f)
 |none=>Z0 cs n (l.drop (k+1)):=by
 obtain⟨hk,rfl⟩:=List.getElem?_eq_some_iff.1 h;rw[List.drop_eq_getElem_cons hk];rfl
def zao(n t:Str):List Zk->Option Zk
 |[]=>none
 |m::r=>if m.name=n/\m.type=t then some m else zao n t r
theorem ZbZ(n t:Str)(l:List Zk)(k:Nat)(x:Zk)(h:l[k]? = some x):zao n t (l.drop k)=if x.name=n/\x.type=t then some x else zao n t (l.drop (k+1)):=by
 obtain⟨hk,rfl⟩:=List.getElem?_eq_some_iff.1 h;rw[List.drop_eq_getElem_cons hk];rfl
def zT(cs:List Qb)(n t:Str):List Str->Option (Str×Zk)
 |[]=>none
 |c::r=>match zao n t (qh cs c).methods with
  |some m=>some (c,m)
  |none=>zT cs n t r
theorem Zbb(cs:List Qb)(n t:Str)(l:List Str)(k:Nat)(x:Str)(h:l[k]? = some x):zT cs n t (l.drop k)=match zao n t (qh cs x).methods with
 |some m=>some (x,m)
 |none=>zT cs n t (l.drop (k+1)):=by
 obtain⟨hk,rfl⟩:=List.getElem?_eq_some_iff.1 h;rw[List.drop_eq_getElem_cons hk];rfl
def qH(cs:List Qb)(n t:Str)(a:Bool):List Str->Option (Str×Zk)
 |[]=>none
 |c::r=>match zao n t (qh cs c).methods with
  |some m=>if ((qh cs c).face&&(m.abs==a))=true then some (c,m) else qH cs n t a r
  |none=>qH cs n t a r
theorem ZbK(cs:List Qb)(n t:Str)(a:Bool)(l:List Str)(k:Nat)(x:Str)(h:l[k]? = some x):qH cs n t a (l.drop k)=match zao n t (qh cs x).methods with
 |some m=>if ((qh cs x).face&&(m.abs==a))=true then some (x,m) else qH cs n t a (l.drop (k+1))
 |none=>qH cs n t a (l.drop (k+1)):=by
 obtain⟨hk,rfl⟩:=List.getElem?_eq_some_iff.1 h;rw[List.drop_eq_getElem_cons hk];rfl
def Zam(cs:List Qb)(cls n:Str):Option (Str×qag):=Z0 cs n (Zq cs cls)
def zam(cs:List Qb)(cls n t:Str):Option (Str×Zk) :=
 match zT cs n t (Zq cs cls) with
 |some x=>some x
 |none=>match qH cs n t false (qE (Qk cs cls)) with
  |some x=>some x
  |none=>qH cs n t true (qE (Qk cs cls))
end Go.Proofs.YtlmfmioljeppfaaGreatDoor
