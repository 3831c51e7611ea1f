/- Lemmas; conditions: as each states. -/
import Derived.Test.YtlmfmioljeppfaaGreatDoorCheckLaw
set_option maxHeartbeats 4000000
namespace Go.Proofs.YtlmfmioljeppfaaGreatDoor
open Go.RowKit Go.Shelf Go.Lib
section
variable {P:Type} [DecidableEq P] {W:qm P}
theorem qm.meets_cons(s:Asg P×List Nat)(p:Nat×P)(r:List (Nat×P)):W.meets s (p::r)=(W.meetT s p).bind fun A=>W.meets A r:=rfl
theorem qm.meets_append:∀(a b:List (Nat×P)) (s:Asg P×List Nat),W.meets s (a++b)=(W.meets s a).bind fun A=>W.meets A b
 |[],b,s=>rfl
 |p::r,b,s=>by
  rw[List.cons_append,qm.meets_cons,qm.meets_cons,Option.bind_assoc];congr 1;funext A;exact qm.meets_append r b A
end
def zaP(W:qm Frm)(cs:List Qb)(at':Nat)(f:Frm):Asg Frm×List Nat->List zM->Option (Asg Frm×List Nat)
 |s,[]=>some s
 |s,h::r=>if h.lo<=(at':Int)/\(at':Int)<h.hi then (if qaa cs h.cls then (W.meetT s (h.dest.toNat,⟨f.locals,[Zd h.cls]⟩)).bind fun s'=>zaP W cs at' f s' r else none) else zaP W cs at' f s r
theorem Qbl(W:qm Frm)(cs:List Qb)(at':Nat)(f:Frm):∀(hs:List zM) (s:Asg Frm×List Nat),(QF cs at' f hs).bind (W.meets s)=zaP W cs at' f s hs
 |[],_=>rfl
 |h::r,s=>by
  unfold QF zaP;split
  ·split
   ·have B:=fun A=>Qbl W cs at' f r A
    rw[show(fun A=>zaP W cs at' f A r)=fun A=>(QF cs at' f r).bind (W.meets A) from funext fun A=>(B A).symm];cases QF cs at' f r with
    |none =>
     rw[Option.map_none,Option.bind_none];cases W.meetT s (h.dest.toNat,⟨f.locals,[Zd h.cls]⟩)<;>rfl
    |some t=>rfl
   ·rfl
  ·exact Qbl W cs at' f r s
section
variable {l:List Qb} {cls Zb:Str} {m:qi} {start:Frm}
theorem Zdb(cs:List Qb)(s:Asg Frm×List Nat)(i:Nat)(f:Frm):(zQ cs cls Zb m start).look s i f=(zaP (zQ cs cls Zb m start) cs i f s m.handlers).bind fun A=>(ZY cs cls Zb m.code i f).bind fun b=>(zQ cs cls Zb m start).meets A b:=by
 unfold qm.look;show(Qaa cs cls Zb m i f).bind _=_
 unfold Qaa;rw[<-Qbl];cases QF cs i f m.handlers with
 |none=>rfl
 |some a =>
  rw[Option.bind_some,Option.bind_some];cases ZY cs cls Zb m.code i f with
  |none=>cases(zQ cs cls Zb m start).meets s a<;>rfl
  |some b =>
   rw[Option.map_some,Option.bind_some,qm.meets_append];rfl
def Zaa(cs:List Qb)(L:List Str)(Zb:Str):Bool:=L.all (fun t=>zd cs t==0)&&(decide (Zb=⟨#[86]⟩)||zd cs Zb==0)
theorem zay{cs:List Qb}{L:List Str}{Zb:Str}(B:L.length<=8)(h:Zaa cs L Zb=true):Qx cs ⟨L,[]⟩=0:=by
 unfold Zaa at h;rw[Bool.and_eq_true]at h;exact Qaz B (by show([]:List Str).length<=8;decide) (fun k A=>beq_iff_eq.1 (List.all_eq_true.1 h.1 k A)) fun k A=>by cases A
def QD(cs:List Qb)(cls Zb:Str)(m:qi)(L:List Str)(F:Option (Asg Frm)):Prop:=match F with
 |some F=>Zaa cs L Zb=true/\(zQ cs cls Zb m ⟨L,[]⟩).Least F
 |none=>Zaa cs L Zb=true->∀G,¬(zQ cs cls Zb m ⟨L,[]⟩).Closed G
theorem ZaP(B:Zk l)(A:∀c∈l,qd c=0)(C:qo m.code=0)(D:zl m.handlers m.code.length=0){L:List Str}(E:L.length<=8){F G:Option (Asg Frm)}(h:QD (Za l) cls Zb m L F)(k:QD (Za l) cls Zb m L G):F=G:=by
 cases F with
 |none =>
  cases G with
  |none=>rfl
  |some G=>exact absurd k.2.1 (h k.1 G)
 |some F =>
  cases G with
  |none=>exact absurd h.2.1 (k h.1 F)
  |some G=>rw[qm.least_one (Qbh B A C D (zay E h.1)) h.2 k.2]
def qS(cls:Str)(at':Int):List Qb->Option qi
 |[]=>none
 |c::r=>if c.name=cls/\0<=at'/\at'<(c.methods.length:Int) then c.methods[at'.toNat]? else qS cls at' r
def qD(l:List Qb)(cls:Str)(at':Int):Nat:=if Zp l≠0 then Zp l else match qS cls at' l with
 |none=>3
 |some m=>if m.abs then 1 else 0
theorem zaC{cls:Str}{at':Int}{m:qi}:∀{l:List Qb},qS cls at' l=some m->∃c∈l,c.name=cls/\m∈c.methods
 |[],h=>by cases h
 |c::r,h=>by
  unfold qS at h;split at h
  ·rename_i D;exact⟨c,List.mem_cons_self ..,D.1,Xe h⟩
  ·obtain⟨d,A,B,C⟩:=zaC h;exact⟨d,List.mem_cons_of_mem _ A,B,C⟩
theorem Zcq{α:Type}{f:α->List α->Nat}:∀{r a:List α},Qf f a r=0->∀x∈r,∃b,f x b=0
 |[],_,_,_,A=>by cases A
 |y::r,a,h,x,A=>by
  unfold Qf at h;split at h
  ·rename_i B;rcases List.mem_cons.1 A with rfl|A
   ·exact⟨a,B⟩
   ·exact Zcq h x A
  ·rename_i B;exact absurd h B
structure Z8 (m:qi) (args:List Str) (g:Str) (many:Nat):Prop where
 type:Zm m.type=some (args,g)
 locals:m.locals=(many:Int)
 small:many<=8
 code:qo m.code=0
 hands:zl m.handlers m.code.length=0
 args:Z3 m<=many
theorem zby{c:Qb}(B:qd c=0){m:qi}(I:m∈c.methods)(J:m.abs=false):∃args g C,Z8 m args g C:=by
 have L:Qf qq [] c.methods=0:=by
  unfold qd at B;split at B
  ·cases B
  ·split at B
   ·rename_i h;exact absurd B h
   ·split at B
    ·cases B
    ·split at B
     ·rename_i h;exact absurd B h
     ·split at B
      ·rename_i h;exact absurd B h
      ·rename_i h;exact Decidable.not_not.1 h
 obtain⟨b,A⟩:=Zcq L m I;unfold qq at A;split at A
 ·cases A
 ·split at A
  ·cases A
  ·rename_i H;split at A
   ·cases A
   ·split at A
    ·cases A
    ·rename_i M;unfold qY at A;rw[J,if_neg (by decide)]at A;split at A
     ·rename_i h;exact absurd A h
     ·rename_i E;split at A
      ·cases A
      ·rename_i F;split at A
       ·cases A
       ·cases G:Zm m.type with
        |none=>rw[G]at H;exact absurd rfl H
        |some p =>
         obtain⟨C,D⟩:=Int.eq_ofNat_of_zero_le (show 0<=m.locals by omega);exact⟨p.1,p.2,C,G,D,by omega,Decidable.not_not.1 E,A,by omega⟩
end
end Go.Proofs.YtlmfmioljeppfaaGreatDoor
