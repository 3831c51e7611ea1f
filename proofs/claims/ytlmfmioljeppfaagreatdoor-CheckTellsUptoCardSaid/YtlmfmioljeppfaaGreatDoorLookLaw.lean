/- Lemmas; conditions: as each states. -/
import Derived.Test.YtlmfmioljeppfaaGreatDoorCheckLaw
set_option maxHeartbeats 4000000
namespace Go.Proofs.YtlmfmioljeppfaaGreatDoor
open Go.RowKit Go.Shelf Go.Lib
section
variable {P:Type} [DecidableEq P] {W:qm P}
theorem qm.meets_cons(s:Asg P×List Nat)(p:Nat×P)(r:List (Nat×P)):W.meets s (p::r)=(W.meetT s p).bind fun s'=>W.meets s' r:=rfl
theorem qm.meets_append:∀(a b:List (Nat×P)) (s:Asg P×List Nat),W.meets s (a++b)=(W.meets s a).bind fun s'=>W.meets s' b
 |[],b,s=>rfl
 |p::r,b,s=>by
  rw[List.cons_append,qm.meets_cons,qm.meets_cons,Option.bind_assoc];congr 1;funext s';exact qm.meets_append r b s'
end
def ZaO(W:qm Frm)(cs:List Qb)(at':Nat)(f:Frm):Asg Frm×List Nat->List Q0->Option (Asg Frm×List Nat)
 |s,[]=>some s
 |s,h::r=>if h.lo<=(at':Int)/\(at':Int)<h.hi then (if Zad cs h.cls then (W.meetT s (h.dest.toNat,⟨f.locals,[Zd h.cls]⟩)).bind fun s'=>ZaO W cs at' f s' r else none) else ZaO W cs at' f s r
theorem Zbm(W:qm Frm)(cs:List Qb)(at':Nat)(f:Frm):∀(hs:List Q0) (s:Asg Frm×List Nat),(ZF cs at' f hs).bind (W.meets s)=ZaO W cs at' f s hs
 |[],_=>rfl
 |h::r,s=>by
  unfold ZF ZaO;split
  ·split
   ·have ih:=fun s'=>Zbm W cs at' f r s'
    rw[show(fun s'=>ZaO W cs at' f s' r)=fun s'=>(ZF cs at' f r).bind (W.meets s') from funext fun s'=>(ih s').symm];cases ZF cs at' f r with
    |none =>
     rw[Option.map_none,Option.bind_none];cases W.meetT s (h.dest.toNat,⟨f.locals,[Zd h.cls]⟩)<;>rfl
    |some t=>rfl
   ·rfl
  ·exact Zbm W cs at' f r s
section
variable {l:List Qb} {cls Zb:Str} {m:Zk} {start:Frm}
theorem Zc8(cs:List Qb)(s:Asg Frm×List Nat)(i:Nat)(f:Frm):(zJ cs cls Zb m start).look s i f=(ZaO (zJ cs cls Zb m start) cs i f s m.handlers).bind fun s'=>(QX cs cls Zb m.code i f).bind fun b=>(zJ cs cls Zb m start).meets s' b:=by
 unfold qm.look;show(Z1 cs cls Zb m i f).bind _=_
 unfold Z1;rw[<-Zbm];cases ZF cs i f m.handlers with
 |none=>rfl
 |some a =>
  rw[Option.bind_some,Option.bind_some];cases QX cs cls Zb m.code i f with
  |none=>cases(zJ cs cls Zb m start).meets s a<;>rfl
  |some b =>
   rw[Option.map_some,Option.bind_some,qm.meets_append];rfl
def qaq(cs:List Qb)(L:List Str)(Zb:Str):Bool:=L.all (fun t=>zd cs t==0)&&(decide (Zb=⟨#[86]⟩)||zd cs Zb==0)
theorem Qaz{cs:List Qb}{L:List Str}{Zb:Str}(hn:L.length<=8)(h:qaq cs L Zb=true):zz cs ⟨L,[]⟩=0:=by
 unfold qaq at h;rw[Bool.and_eq_true]at h;exact QaA hn (by show([]:List Str).length<=8;decide) (fun k hk=>beq_iff_eq.1 (List.all_eq_true.1 h.1 k hk)) fun k hk=>by cases hk
def Qr(cs:List Qb)(cls Zb:Str)(m:Zk)(L:List Str)(F:Option (Asg Frm)):Prop:=match F with
 |some F=>qaq cs L Zb=true/\(zJ cs cls Zb m ⟨L,[]⟩).Least F
 |none=>qaq cs L Zb=true->∀G,¬(zJ cs cls Zb m ⟨L,[]⟩).Closed G
theorem qaf(hR:Qj l)(hcf:∀c∈l,qd c=0)(hc:qp m.code=0)(hh:Zm m.handlers m.code.length=0){L:List Str}(hn:L.length<=8){F G:Option (Asg Frm)}(h:Qr (Za l) cls Zb m L F)(k:Qr (Za l) cls Zb m L G):F=G:=by
 cases F with
 |none =>
  cases G with
  |none=>rfl
  |some G=>exact absurd k.2.1 (h k.1 G)
 |some F =>
  cases G with
  |none=>exact absurd h.2.1 (k h.1 F)
  |some G=>rw[qm.least_one (QaB hR hcf hc hh (Qaz hn h.1)) h.2 k.2]
def zV(cls:Str)(at':Int):List Qb->Option Zk
 |[]=>none
 |c::r=>if c.name=cls/\0<=at'/\at'<(c.methods.length:Int) then c.methods[at'.toNat]? else zV cls at' r
def zG(l:List Qb)(cls:Str)(at':Int):Nat:=if Zj l≠0 then Zj l else match zV cls at' l with
 |none=>3
 |some m=>if m.abs then 1 else 0
theorem QaQ{cls:Str}{at':Int}{m:Zk}:∀{l:List Qb},zV cls at' l=some m->∃c∈l,c.name=cls/\m∈c.methods
 |[],h=>by cases h
 |c::r,h=>by
  unfold zV at h;split at h
  ·rename_i hc;exact⟨c,List.mem_cons_self ..,hc.1,Xe h⟩
  ·obtain⟨d,hd,h1,h2⟩:=QaQ h;exact⟨d,List.mem_cons_of_mem _ hd,h1,h2⟩
def Zag(F:Asg Frm)(n:Nat):List (Nat×Frm):=(List.range n).filterMap fun i=>(F i).map fun f=>(i,f)
theorem zbi{F:Asg Frm}{n:Nat}{f:Frm}(h:F n=some f):Zag F (n+1)=Zag F n++[(n,f)]:=by
 unfold Zag;rw[List.range_succ,List.filterMap_append];simp[h]
theorem Qbh{F:Asg Frm}{n:Nat}(h:F n=none):Zag F (n+1)=Zag F n:=by
 unfold Zag;rw[List.range_succ,List.filterMap_append];simp[h]
theorem QbC(F:Asg Frm):∀n,(Zag F n).length<=n
 |0=>Xl
 |n+1=>by
  have:=QbC F n;cases hF:F n with
  |none=>rw[Qbh hF];omega
  |some f=>rw[zbi hF,List.length_append];show _+1<=_;omega
theorem Zco{α:Type}{f:α->List α->Nat}:∀{r a:List α},Qf f a r=0->∀x∈r,∃b,f x b=0
 |[],_,_,_,hx=>by cases hx
 |y::r,a,h,x,hx=>by
  unfold Qf at h;split at h
  ·rename_i h0;rcases List.mem_cons.1 hx with rfl|hx
   ·exact⟨a,h0⟩
   ·exact Zco h x hx
  ·rename_i h0;exact absurd h h0
structure qac (m:Zk) (args:List Str) (g:Str) (many:Nat):Prop where
 type:zm m.type=some (args,g)
 locals:m.locals=(many:Int)
 small:many<=8
 code:qp m.code=0
 hands:Zm m.handlers m.code.length=0
 args:Q3 m<=many
theorem Qa4{c:Qb}(hc:qd c=0){m:Zk}(hm:m∈c.methods)(ha:m.abs=false):∃args g many,qac m args g many:=by
 have h1:Qf qq [] c.methods=0:=by
  unfold qd at hc;split at hc
  ·cases hc
  ·split at hc
   ·rename_i h;exact absurd hc h
   ·split at hc
    ·cases hc
    ·split at hc
     ·rename_i h;exact absurd hc h
     ·split at hc
      ·rename_i h;exact absurd hc h
      ·rename_i h;exact Decidable.not_not.1 h
 obtain⟨b,h2⟩:=Zco h1 m hm;unfold qq at h2;split at h2
 ·cases h2
 ·split at h2
  ·cases h2
  ·rename_i ht;split at h2
   ·cases h2
   ·split at h2
    ·cases h2
    ·rename_i hl;unfold zY at h2;rw[ha,if_neg (by decide)]at h2;split at h2
     ·rename_i h;exact absurd h2 h
     ·rename_i hcode;split at h2
      ·cases h2
      ·rename_i hargs;split at h2
       ·cases h2
       ·cases hr:zm m.type with
        |none=>rw[hr]at ht;exact absurd rfl ht
        |some p =>
         obtain⟨many,hmany⟩:=Int.eq_ofNat_of_zero_le (show 0<=m.locals by omega);exact⟨p.1,p.2,many,hr,hmany,by omega,Decidable.not_not.1 hcode,h2,by omega⟩
end
end Go.Proofs.YtlmfmioljeppfaaGreatDoor
