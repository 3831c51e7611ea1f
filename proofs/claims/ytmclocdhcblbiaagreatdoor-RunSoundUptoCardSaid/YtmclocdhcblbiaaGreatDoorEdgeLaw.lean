/- Lemmas; conditions: as each states. -/
import Derived.Test.YtmclocdhcblbiaaGreatDoorFrameMap
set_option maxHeartbeats 4000000
namespace Go.Proofs.YtmclocdhcblbiaaGreatDoor
open Go.RowKit Go.Shelf Go.Lib
def ZZ(cs:List qa)(every:List Str)(pos:Int):List QT->Int×Bool
 |[]=>(-1,true)
 |h::r =>
  if pos<h.lo\/h.hi<=pos then ZZ cs every pos r
  else if !(Qb cs h.cls).isSome then (-1,false)
  else if Q4 every h.cls then (h.dest,true)
  else ZZ cs every pos r
theorem Qc5(cs:List qa)(A:List Str)(B:Int)(l:List QT)(k:Nat)(h:QT)(D:l[k]? = some h):
 ZZ cs A B (l.drop k)=if B<h.lo\/h.hi<=B then ZZ cs A B (l.drop (k+1))
 else if !(Qb cs h.cls).isSome then (-1,false) else if Q4 A h.cls then (h.dest,true) else ZZ cs A B (l.drop (k+1)):=by
 obtain⟨C,rfl⟩:=List.getElem?_eq_some_iff.1 D;rw[List.drop_eq_getElem_cons C];rfl
theorem zdl{l:List qa}(A:∀c∈l,qf c=0){c:Str}(h:(Qb (Za l) c).isSome=true):Qg (Za l) (Qc c)=0:=QbF A (x:=.ty (.cl c)) ⟨(QaA c).symm,h⟩ (Nat.zero_le _)
def Qfd(op:Int):Prop:=op=4\/op=5\/op=6\/op=7\/op=8\/op=13\/op=19\/op=20\/op=21\/op=22\/op=23
instance (op:Int):Decidable (Qfd op):=by unfold Qfd;infer_instance
theorem ZdI{l:List qa}(h:zh l){x:Str}{d:qa}(C:Qb (Za l) x=some d):(∀a∈d.faces,(Ze (Za l) a).face=true)/\(d.face=true->d.super=Zg)/\(d.super.size=0->x=Zg):=by
 have A:d∈Za l:=List.mem_of_find?_eq_some C;have D:Ze (Za l) x=d:=by unfold Ze;rw[C];rfl
 have H:d.super.size=0->x=Zg:=fun E=>h.top (by rw[C];rfl) (by rw[D];exact E)
 unfold Za at A;rcases List.mem_cons.1 A with rfl|A
 ·exact⟨(fun a F=>by cases F),(fun G=>by cases G),H⟩
 ·rcases List.mem_cons.1 A with rfl|A
  ·exact⟨(fun a F=>by cases F),(fun G=>by cases G),H⟩
  ·have I:=h.joined d A;obtain⟨_,J⟩:=ZbP I;refine⟨fun a F=>?_,fun G=>?_,H⟩
   ·obtain⟨c,L,M⟩:=QbA (J a F);unfold Ze;rw[L];exact M
   ·have B:=h.face_line (c:=x) (by rw[C];rfl) (by rw[D];exact G);by_cases E:d.super.size=0
    ·have:=H E;subst this;rw[zh.line_top (by rw[D];exact E)]at B;cases B
    ·rw[h.line_up (by rw[C];rfl) (by rw[D];exact E),D]at B;injection B with _ B
     have:=Zab (cs:=Za l) d.super;rw[B]at this;exact List.mem_singleton.1 this
end Go.Proofs.YtmclocdhcblbiaaGreatDoor
