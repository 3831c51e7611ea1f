/- Lemmas; conditions: as each states. -/
import Derived.Test.YtlmfmioljeppfaaGreatDoorFixLaw
import Derived.Test.YtlmfmioljeppfaaGreatDoorGrowStep
set_option maxHeartbeats 4000000
namespace Go.Proofs.YtlmfmioljeppfaaGreatDoor
open Go.RowKit Go.Shelf Go.Lib
def zaZ(cs:List Qb):Ty->Nat
 |.cl c=>(Qk cs c).length
 |.ar x=>13+zaZ cs x
 |_=>0
def Qbg(cs:List Qb):Kd->Nat
 |.n=>100
 |.t=>0
 |.ty x=>1+zaZ cs x
def zH(cs:List Qb)(L:List Str):Nat:=(L.map fun k=>Qbg cs (Zo k)).sum
section
variable {l:List Qb}
theorem qcj(hR:Qj l){c:Str}(hc:(Qc (Za l) c).isSome=true):(Qk (Za l) c).length<=12:=by
 have h1:=(Qn hR.closed hc).1.length;have h2:(Za l).length=l.length+2:=by simp[Za]
 have:=hR.length;omega
theorem zc1(hR:Qj l):∀c,(Qc (Za l) c).isSome=true->∀d∈Zq (Za l) c,d≠c->(Qk (Za l) d).length<(Qk (Za l) c).length:=by
 refine hR.line_ind _ (fun x hk h0 d hd hne=>?_) (fun x hk h0 ih d hd hne=>?_)
 ·rw[Qj.line_top h0]at hd;simp at hd;exact absurd hd hne
 ·rcases(hR.line_mem hk).1 hd with rfl|⟨_,hd⟩
  ·exact absurd rfl hne
  ·have hlt:=(hR.up hk h0).2;by_cases h2:d=(qh (Za l) x).super
   ·rw[h2];exact hlt
   ·have:=ih d hd h2;omega
theorem Qdk(hR:Qj l):∀{x y:Ty},ZH (Za l) x=true->ZH (Za l) y=true->Qa9 (Za l) x y->x≠y->zaZ (Za l) y<zaZ (Za l) x
 |.i,.i,_,_,_,h=>absurd rfl h
 |.j,.j,_,_,_,h=>absurd rfl h
 |.cl c,.cl d,hx,_,hl,h=>zc1 hR c hx d hl fun e=>h (by rw[e])
 |.ar x,.cl d,_,hy,hl,_=>by
  show(Qk (Za l) d).length<13+_
  have:=qcj hR (c:=d) hy;omega
 |.ar x,.ar y,hx,hy,hl,h=>by
  have:=Qdk hR (x:=x) (y:=y) hx hy hl fun e=>h (by rw[e])
  show 13+_<13+_
  omega
 |.i,.j,_,_,hl,_=>hl.elim
 |.i,.cl _,_,_,hl,_=>hl.elim
 |.i,.ar _,_,_,hl,_=>hl.elim
 |.j,.i,_,_,hl,_=>hl.elim
 |.j,.cl _,_,_,hl,_=>hl.elim
 |.j,.ar _,_,_,hl,_=>hl.elim
 |.cl _,.i,_,_,hl,_=>hl.elim
 |.cl _,.j,_,_,hl,_=>hl.elim
 |.cl _,.ar _,_,_,hl,_=>hl.elim
 |.ar _,.i,_,_,hl,_=>hl.elim
 |.ar _,.j,_,_,hl,_=>hl.elim
theorem Zc1(hR:Qj l):∀{x:Ty},ZH (Za l) x=true->zaZ (Za l) x<=13*Qp x+12
 |.i,_=>Nat.zero_le _
 |.j,_=>Nat.zero_le _
 |.cl c,h=>by
  have:=qcj hR (c:=c) h;show(Qk (Za l) c).length<=_
  omega
 |.ar x,h=>by
  have:=Zc1 hR (x:=x) h;show 13+zaZ (Za l) x<=13*(Qp x+1)+12
  omega
theorem Zd7(hR:Qj l){x y:Kd}(hx:zL (Za l) x=true)(hy:zL (Za l) y=true)(dy:Zah y<=3)(hl:zaq (Za l) x y)(h:x≠y):Qbg (Za l) y<Qbg (Za l) x:=by
 cases x with
 |n =>
  cases y with
  |n=>exact absurd rfl h
  |t=>show 0<100;decide
  |ty y =>
   have h1:=Zc1 hR (x:=y) hy;have h2:Qp y<=3:=dy;show 1+zaZ (Za l) y<100
   omega
 |t =>
  cases y with
  |n=>exact hl.elim
  |t=>exact absurd rfl h
  |ty y=>exact hl.elim
 |ty x =>
  cases y with
  |n=>exact hl.elim
  |t=>show 0<1+_;omega
  |ty y =>
   have:=Qdk hR (x:=x) (y:=y) hx hy hl fun e=>h (by rw[e])
   show 1+_<1+_
   omega
theorem Zej(hR:Qj l){x:Kd}(hx:zL (Za l) x=true)(dx:Zah x<=3):Qbg (Za l) x<=100:=by
 cases x with
 |n=>exact Xl
 |t=>exact Nat.zero_le _
 |ty x =>
  have h1:=Zc1 hR (x:=x) hx;have h2:Qp x<=3:=dx;show 1+zaZ (Za l) x<=100
  omega
theorem ZbB(hR:Qj l):∀{A B:List Str},LeL (Za l) A B->Qm (Za l) A->Qm (Za l) B->zH (Za l) B<=zH (Za l) A/\(A≠B->zH (Za l) B<zH (Za l) A)
 |[],[],_,_,_=>⟨Xl,fun h=>absurd rfl h⟩
 |x::r,y::s,h,ha,hb=>by
  obtain⟨i1,i2⟩:=ZbB hR (A:=r) (B:=s) h.2 (fun k hk=>ha k (List.mem_cons_of_mem _ hk)) (fun k hk=>hb k (List.mem_cons_of_mem _ hk));have hx:=ha x (List.mem_cons_self ..);have hy:=hb y (List.mem_cons_self ..);have e1:zH (Za l) (x::r)=Qbg (Za l) (Zo x)+zH (Za l) r:=by unfold zH;rw[List.map_cons,List.sum_cons]
  have e2:zH (Za l) (y::s)=Qbg (Za l) (Zo y)+zH (Za l) s:=by unfold zH;rw[List.map_cons,List.sum_cons]
  by_cases hk:Zo x=Zo y
  ·have hxy:x=y:=(QS hx).text (by rw[hk];exact QS hy);subst hxy;refine⟨by omega,fun hne=>?_⟩;have:=i2 fun e=>hne (by rw[e])
   omega
  ·have:=Zd7 hR (ZJ hx) (ZJ hy) (zad hy) h.1 hk;exact⟨by omega,fun _=>by omega⟩
theorem ZbW(hR:Qj l):∀{A:List Str},Qm (Za l) A->zH (Za l) A<=100*A.length
 |[],_=>Xl
 |x::r,h=>by
  have i:=ZbW hR (A:=r) fun k hk=>h k (List.mem_cons_of_mem _ hk)
  have hx:=h x (List.mem_cons_self ..);have:=Zej hR (ZJ hx) (zad hx);have e1:zH (Za l) (x::r)=Qbg (Za l) (Zo x)+zH (Za l) r:=by unfold zH;rw[List.map_cons,List.sum_cons]
  rw[List.length_cons];omega
theorem LeL.refl(cs:List Qb):∀A:List Str,LeL cs A A
 |[]=>trivial
 |_::r=>⟨za6 cs _,LeL.refl cs r⟩
theorem LeL.trans{cs:List Qb}(T:Zbp cs):∀{A B C:List Str},Qm cs A->LeL cs A B->LeL cs B C->LeL cs A C
 |[],[],[],_,_,_=>trivial
 |x::_,_::_,_::_,h,h1,h2=>⟨qc1 T (ZJ (h x (List.mem_cons_self ..))) h1.1 h2.1,LeL.trans T (fun k hk=>h k (List.mem_cons_of_mem _ hk)) h1.2 h2.2⟩
theorem LeL.anti{cs:List Qb}(T:Zbp cs):∀{A B:List Str},Qm cs A->Qm cs B->LeL cs A B->LeL cs B A->A=B
 |[],[],_,_,_,_=>rfl
 |x::r,y::s,ha,hb,h1,h2=>by
  have hx:=ha x (List.mem_cons_self ..);have hy:=hb y (List.mem_cons_self ..);have hk:=Qcj T (ZJ hx) (ZJ hy) h1.1 h2.1;have hxy:x=y:=(QS hx).text (by rw[hk];exact QS hy);rw[hxy,LeL.anti T (A:=r) (B:=s) (fun k hk=>ha k (List.mem_cons_of_mem _ hk)) (fun k hk=>hb k (List.mem_cons_of_mem _ hk)) h1.2 h2.2]
theorem qbB{cs:List Qb}(a b:Str):Zo (QaU cs a b)=zS cs (Zo a) (Zo b):=qz rfl
theorem ZcG(hR:Qj l)(hcf:∀c∈l,qd c=0){a b:Str}(ha:zd (Za l) a=0)(hb:zd (Za l) b=0):zd (Za l) (QaU (Za l) a b)=0 :=
 qdq hcf (QS ha) (QS hb) ha hb ⟨rfl,(QbB hR.tree (zaz l) (ZJ ha) (ZJ hb)).2.2⟩
theorem qbW(hR:Qj l)(hcf:∀c∈l,qd c=0):∀{A B:List Str},A.length=B.length->Qm (Za l) A->Qm (Za l) B->Qm (Za l) (QO (Za l) A B)/\LeL (Za l) A (QO (Za l) A B)/\LeL (Za l) B (QO (Za l) A B)
 |[],[],_,_,_=>⟨fun _ h=>(by cases h),trivial,trivial⟩
 |x::r,y::s,hn,ha,hb=>by
  obtain⟨i1,i2,i3⟩:=qbW hR hcf (A:=r) (B:=s) (by simpa using hn) (fun k hk=>ha k (List.mem_cons_of_mem _ hk)) (fun k hk=>hb k (List.mem_cons_of_mem _ hk));have hx:=ha x (List.mem_cons_self ..);have hy:=hb y (List.mem_cons_self ..);obtain⟨u1,u2,_⟩:=QbB hR.tree (zaz l) (ZJ hx) (ZJ hy);refine⟨fun k hk=>?_,⟨?_,i2⟩,⟨?_,i3⟩⟩
  ·rcases List.mem_cons.1 (show k∈QaU (Za l) x y::QO (Za l) r s from hk) with rfl|hk
   ·exact ZcG hR hcf hx hy
   ·exact i1 k hk
  ·rw[qbB];exact u1
  ·rw[qbB];exact u2
theorem zbC(hR:Qj l):∀{A B C:List Str},Qm (Za l) A->Qm (Za l) B->LeL (Za l) A C->LeL (Za l) B C->LeL (Za l) (QO (Za l) A B) C
 |[],[],[],_,_,_,_=>trivial
 |[],_::_,[],_,_,_,h=>h.elim
 |[],_::_,_::_,_,_,h,_=>h.elim
 |_::_,[],[],_,_,h,_=>h.elim
 |_::_,[],_::_,_,_,_,h=>h.elim
 |x::r,y::s,z::t,ha,hb,h1,h2=>by
  refine⟨?_,zbC hR (A:=r) (B:=s) (fun k hk=>ha k (List.mem_cons_of_mem _ hk)) (fun k hk=>hb k (List.mem_cons_of_mem _ hk)) h1.2 h2.2⟩;rw[qbB];exact QbW hR.tree (ZJ (ha x (List.mem_cons_self ..))) (ZJ (hb y (List.mem_cons_self ..))) h1.1 h2.1
def zbo(cs:List Qb)(a b:Frm):Prop:=LeL cs a.locals b.locals/\LeL cs a.stack b.stack
def Zad(cs:List Qb)(c:Str):Bool:=zd cs (Zd c)==0&&Zx cs (Zo (Zd c)) (Zo (Zd zC))
def ZF(cs:List Qb)(at':Nat)(f:Frm):List Q0->Option (List (Nat×Frm))
 |[]=>some []
 |h::r=>if h.lo<=(at':Int)/\(at':Int)<h.hi then (if Zad cs h.cls then (ZF cs at' f r).map fun t=>(h.dest.toNat,⟨f.locals,[Zd h.cls]⟩)::t else none) else ZF cs at' f r
def qay(x:Ins)(at':Nat):List Nat:=(if zan x.op then [] else [at'+1])++(if qC x.op&&(x.op==14||x.a != (at':Int)+1) then [x.a.toNat] else [])
def QX(cs:List Qb)(cls Zb:Str)(code:List Ins)(at':Nat)(f:Frm):Option (List (Nat×Frm)):=match code[at']? with
 |none=>none
 |some x=>(zq cs cls Zb x f.locals f.stack).map fun p=>(qay x at').map fun i=>(i,⟨p.1,p.2⟩)
def Z1(cs:List Qb)(cls Zb:Str)(m:Zk)(at':Nat)(f:Frm):Option (List (Nat×Frm)):=(ZF cs at' f m.handlers).bind fun a=>(QX cs cls Zb m.code at' f).map fun b=>a++b
def zJ(cs:List Qb)(cls Zb:Str)(m:Zk)(start:Frm):qm Frm where
 n:=m.code.length
 top:=1600
 start:=start
 ok:=fun f=>zz cs f=0
 le:=zbo cs
 fit:=zQ
 join:=Q1 cs
 edges:=Z1 cs cls Zb m
 rank:=fun f=>zH cs f.locals+zH cs f.stack
structure Qc1 (code:List Ins):Prop where
 small:code.length<=40
 ins:∀x∈code,Zi x=0
 jumps:∀x∈code,qC x.op=true->0<=x.a/\x.a<(code.length:Int)
 last:∀i x,code[i]? = some x->zan x.op=false->i+1<code.length
 pos:0<code.length
theorem Z2{code:List Ins}(h:qp code=0):Qc1 code:=by
 unfold qp at h;split at h
 ·cases h
 ·rename_i h40;split at h
  ·rename_i h1;exact absurd h h1
  ·rename_i h1;have h1:=Decidable.not_not.1 h1;have hins:=Q2 h1;split at h
   ·cases h
   ·rename_i h2;refine⟨by omega,hins,fun x hx hj=>?_,fun i x hi he=>?_,?_⟩
    ·have hlt:x.a<(code.length:Int):=by
      by_cases hc:(code.length:Int)<=x.a
      ·exact absurd (List.any_eq_true.2 ⟨x,hx,by rw[hj,Xj hc];rfl⟩) h2
      ·omega
     refine⟨?_,hlt⟩;have hi:=hins x hx;unfold Zi at hi;split at hi
     ·cases hi
     ·split at hi
      ·cases hi
      ·split at hi
       ·cases hi
       ·rename_i hr;have hr:ZM x=true:=(by cases hq:ZM x<;>simp_all);unfold ZM at hr;unfold qC at hj;have hop:x.op=12\/x.op=13\/x.op=14:=(by simpa[or_assoc] using hj);rw[if_neg (by omega),if_neg (by omega),if_neg (by omega)]at hr;unfold qC at hr;rw[hj]at hr;simp at hr;omega
    ·have hlt:i<code.length:=(List.getElem?_eq_some_iff.1 hi).1;by_cases hl:i+1=code.length
     ·have hg:code.getLast? = some x:=(by rw[List.getLast?_eq_getElem?,<-hl];exact hi);rw[hg]at h;dsimp only at h;rw[he]at h;cases h
     ·omega
    ·cases code with
     |nil=>cases h
     |cons _ _=>exact Nat.succ_pos _
theorem Zai{l:List Q0}{n:Nat}(h:Zm l n=0):l.length<=8/\∀x∈l,0<=x.lo/\x.hi<=(n:Int)/\0<=x.dest/\x.dest<(n:Int)/\Qt (lst x.cls)=true:=by
 unfold Zm at h;split at h
 ·rename_i h1;exact absurd h h1
 ·rename_i h1;have h1:=Q2 (Decidable.not_not.1 h1);split at h
  ·cases h
  ·refine⟨by omega,fun x hx=>?_⟩;have h2:=h1 x hx;unfold Zs at h2;split at h2
   ·cases h2
   ·rename_i h3;split at h2
    ·rename_i h4;exact⟨by omega,by omega,by omega,by omega,h4⟩
    ·cases h2
theorem qaI{cs:List Qb}{n at':Nat}{f:Frm}(hf:zz cs f=0):∀{hs:List Q0} {t:List (Nat×Frm)},(∀x∈hs,0<=x.dest/\x.dest<(n:Int))->ZF cs at' f hs=some t->∀p∈t,p.1<n/\zz cs p.2=0
 |[],t,_,h,p,hp=>by
  injection h with h;subst h;cases hp
 |x::r,t,hh,h,p,hp=>by
  have hr:∀y∈r,0<=y.dest/\y.dest<(n:Int):=fun y hy=>hh y (List.mem_cons_of_mem _ hy)
  unfold ZF at h;split at h
  ·split at h
   ·rename_i hb;obtain⟨t',h1,h2⟩:=Z9 h;subst h2;rcases List.mem_cons.1 hp with rfl|hp
    ·obtain⟨d1,d2⟩:=hh x (List.mem_cons_self ..);obtain⟨z1,z2,z3,z4⟩:=zw hf;refine⟨by show x.dest.toNat<n;omega,QaA z1 (by show[Zd x.cls].length<=8;simp) z3 fun k hk=>?_⟩;rw[List.mem_singleton.1 hk];unfold Zad at hb;rw[Bool.and_eq_true]at hb;exact beq_iff_eq.1 hb.1
    ·exact qaI hf hr h1 p hp
   ·cases h
  ·exact qaI hf hr h p hp
theorem zaC{cs:List Qb}{at':Nat}{a b:Frm}(hab:zbo cs a b):∀{hs:List Q0} {tb:List (Nat×Frm)},ZF cs at' b hs=some tb->∃ta,ZF cs at' a hs=some ta/\∀p∈ta,∃q∈tb,p.1=q.1/\zbo cs p.2 q.2
 |[],tb,_=>⟨[],rfl,fun p hp=>by cases hp⟩
 |x::r,tb,h=>by
  unfold ZF at h ⊢;split at h
  ·rename_i hc;rw[if_pos hc];split at h
   ·rename_i hb;rw[if_pos hb];obtain⟨t',h1,h2⟩:=Z9 h;subst h2;obtain⟨ta,e,ht⟩:=zaC hab h1;refine⟨_,by rw[e];rfl,fun p hp=>?_⟩;rcases List.mem_cons.1 hp with rfl|hp
    ·exact⟨_,List.mem_cons_self ..,rfl,hab.1,LeL.refl cs _⟩
    ·obtain⟨q,hq,q1,q2⟩:=ht p hp;exact⟨q,List.mem_cons_of_mem _ hq,q1,q2⟩
   ·cases h
  ·rename_i hc;rw[if_neg hc];exact zaC hab h
theorem qcG{code:List Ins}(hc:Qc1 code){x:Ins}{at':Nat}(hx:code[at']? = some x):∀i∈qay x at',i<code.length:=by
 intro i hi;unfold qay at hi;rcases List.mem_append.1 hi with hi|hi
 ·split at hi
  ·cases hi
  ·rename_i he;rw[List.mem_singleton.1 hi];exact hc.last at' x hx (by simpa using he)
 ·split at hi
  ·rename_i hj;rw[Bool.and_eq_true]at hj;rw[List.mem_singleton.1 hi];have:=hc.jumps x (Xe hx) hj.1;omega
  ·cases hi
theorem QcG{cs:List Qb}{a b:Frm}(ha:zz cs a=0)(hb:zz cs b=0)(h:zbo cs a b):LeF cs a.locals b.locals/\LeF cs a.stack b.stack:=by
 obtain⟨a1,a2,a3,a4⟩:=zw ha;obtain⟨b1,b2,b3,b4⟩:=zw hb;exact⟨⟨h.1,a3,b3,a1⟩,⟨h.2,a4,b4,a2⟩⟩
theorem zbX{cs:List Qb}{L S L' S':List Str}(h1:LeF cs L L')(h2:LeF cs S S'):zz cs ⟨L,S⟩=0/\zz cs ⟨L',S'⟩=0/\zbo cs ⟨L,S⟩ ⟨L',S'⟩ :=
 ⟨QaA h1.sm h2.sm h1.ka h2.ka,QaA (by rw[<-h1.le.len];exact h1.sm) (by rw[<-h2.le.len];exact h2.sm) h1.kb h2.kb,h1.le,h2.le⟩
theorem ZaZ(hR:Qj l){code:List Ins}(hc:Qc1 code){cls Zb:Str}{at':Nat}{a b:Frm}(ha:zz (Za l) a=0)(hb:zz (Za l) b=0)(hab:zbo (Za l) a b){tb:List (Nat×Frm)}(h:QX (Za l) cls Zb code at' b=some tb):
 ∃ta,QX (Za l) cls Zb code at' a=some ta/\(∀p∈ta,∃q∈tb,p.1=q.1/\zbo (Za l) p.2 q.2)/\∀p∈ta,p.1<code.length/\zz (Za l) p.2=0:=by
 unfold QX at h ⊢;cases hx:code[at']? with
 |none=>rw[hx]at h;cases h
 |some x =>
  rw[hx]at h;dsimp only at h ⊢;obtain⟨⟨L',S'⟩,h1,h2⟩:=Z9 h;subst h2;obtain⟨g1,g2⟩:=QcG ha hb hab;obtain⟨La,Sa,e,m1,m2⟩:=ZbX hR (hc.ins x (Xe hx)) g1 g2 h1;obtain⟨k1,_,k3⟩:=zbX m1 m2;refine⟨_,by rw[e];rfl,fun p hp=>?_,fun p hp=>?_⟩
  ·obtain⟨i,hi,rfl⟩:=List.mem_map.1 hp;exact⟨_,List.mem_map.2 ⟨i,hi,rfl⟩,rfl,k3⟩
  ·obtain⟨i,hi,rfl⟩:=List.mem_map.1 hp;exact⟨qcG hc hx i hi,k1⟩
theorem QaB(hR:Qj l)(hcf:∀c∈l,qd c=0){cls Zb:Str}{m:Zk}(hc:qp m.code=0)(hh:Zm m.handlers m.code.length=0){start:Frm}(hs:zz (Za l) start=0):(zJ (Za l) cls Zb m start).Good where
 pos:=(Z2 hc).pos
 sok:=hs
 refl:=fun a _=>⟨LeL.refl _ _,LeL.refl _ _⟩
 trans:=fun a b c ha _ _ h1 h2=>by
  obtain⟨_,_,k1,k2⟩:=zw ha;exact⟨LeL.trans hR.tree k1 h1.1 h2.1,LeL.trans hR.tree k2 h1.2 h2.2⟩
 anti:=fun a b ha hb h1 h2=>by
  obtain⟨_,_,a1,a2⟩:=zw ha;obtain⟨_,_,b1,b2⟩:=zw hb;have e1:=LeL.anti hR.tree a1 b1 h1.1 h2.1;have e2:=LeL.anti hR.tree a2 b2 h1.2 h2.2;cases a;cases b;dsimp only at e1 e2;rw[e1,e2]
 up:=fun a b ha hb hf=>by
  obtain⟨n1,n2,a1,a2⟩:=zw ha;obtain⟨_,_,b1,b2⟩:=zw hb;have hf:zQ a b=true:=hf;unfold zQ at hf;rw[Bool.and_eq_true]at hf;have f1:=Xm hf.1;have f2:=Xm hf.2;obtain⟨u1,u2,u3⟩:=qbW hR hcf f1 a1 b1;obtain⟨v1,v2,v3⟩:=qbW hR hcf f2 a2 b2;exact⟨QaA (by show(QO (Za l) a.locals b.locals).length<=8;rw[Zan f1];exact n1) (by show(QO (Za l) a.stack b.stack).length<=8;rw[Zan f2];exact n2) u1 v1,⟨u2,v2⟩,⟨u3,v3⟩⟩
 lub:=fun a b z ha hb _ h1 h2=>by
  obtain⟨_,_,a1,a2⟩:=zw ha;obtain⟨_,_,b1,b2⟩:=zw hb;refine⟨?_,zbC hR a1 b1 h1.1 h2.1,zbC hR a2 b2 h1.2 h2.2⟩;show zQ a b=true
  unfold zQ;rw[h1.1.len,h1.2.len,h2.1.len,h2.2.len];simp
 mono:=fun i a b lb _ ha hb hab h=>by
  have h:Z1 (Za l) cls Zb m i b=some lb:=h;unfold Z1 at h;obtain⟨tb,h1,h2⟩:=zy h;obtain⟨sb,h3,h4⟩:=Z9 h2;subst h4;obtain⟨ta,e1,t1⟩:=zaC hab h1;obtain⟨sa,e2,t2,_⟩:=ZaZ hR (Z2 hc) ha hb hab h3;refine⟨ta++sa,by show Z1 (Za l) cls Zb m i a=_;unfold Z1;rw[e1,Option.bind_some,e2];rfl,fun p hp=>?_⟩;rcases List.mem_append.1 hp with hp|hp
  ·obtain⟨q,hq,q1⟩:=t1 p hp;exact⟨q,List.mem_append_left _ hq,q1⟩
  ·obtain⟨q,hq,q1⟩:=t2 p hp;exact⟨q,List.mem_append_right _ hq,q1⟩
 out:=fun i a t _ ha h p hp=>by
  have h:Z1 (Za l) cls Zb m i a=some t:=h;unfold Z1 at h;obtain⟨tb,h1,h2⟩:=zy h;obtain⟨sb,h3,h4⟩:=Z9 h2;subst h4;rcases List.mem_append.1 hp with hp|hp
  ·exact qaI ha (fun x hx=>⟨((Zai hh).2 x hx).2.2.1,((Zai hh).2 x hx).2.2.2.1⟩) h1 p hp
  ·obtain⟨sa,e,_,t3⟩:=ZaZ hR (Z2 hc) ha ha ⟨LeL.refl _ _,LeL.refl _ _⟩ h3;rw[h3]at e;injection e with e;subst e
   exact t3 p hp
 fall:=fun a b ha hb h hne=>by
  obtain⟨_,_,a1,a2⟩:=zw ha;obtain⟨_,_,b1,b2⟩:=zw hb;obtain⟨i1,i2⟩:=ZbB hR h.1 a1 b1;obtain⟨j1,j2⟩:=ZbB hR h.2 a2 b2;show zH (Za l) b.locals+zH (Za l) b.stack<zH (Za l) a.locals+zH (Za l) a.stack
  by_cases e1:a.locals=b.locals
  ·have:=j2 fun e2=>hne (by cases a;cases b;dsimp only at e1 e2;rw[e1,e2])
   omega
  ·have:=i2 e1;omega
 cap:=fun a ha=>by
  obtain⟨n1,n2,a1,a2⟩:=zw ha;have h1:=ZbW hR a1;have h2:=ZbW hR a2;show zH (Za l) a.locals+zH (Za l) a.stack<=1600
  omega
end
end Go.Proofs.YtlmfmioljeppfaaGreatDoor
