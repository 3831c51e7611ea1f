/- Lemmas; conditions: as each states. -/
import Derived.Test.YtmclocdhcblbiaaGreatDoorZFrameMap
set_option maxHeartbeats 4000000
namespace Go.Proofs.YtmclocdhcblbiaaGreatDoor
open Go.RowKit Go.Shelf Go.Lib
def Q3(cs:List qa)(every:List Str)(pos:Int):List ZW->Int×Bool
 |[]=>(-1,true)
 |h::r =>
  if pos<h.lo\/h.hi<=pos then Q3 cs every pos r
  else if !(Qb cs h.cls).isSome then (-1,false)
  else if zak every h.cls then (h.dest,true)
  else Q3 cs every pos r
theorem Qc7(cs:List qa)(A:List Str)(B:Int)(l:List ZW)(k:Nat)(h:ZW)(D:l[k]? = some h):
 Q3 cs A B (l.drop k)=if B<h.lo\/h.hi<=B then Q3 cs A B (l.drop (k+1))
 else if !(Qb cs h.cls).isSome then (-1,false) else if zak A h.cls then (h.dest,true) else Q3 cs A B (l.drop (k+1)):=by
 obtain⟨C,rfl⟩:=List.getElem?_eq_some_iff.1 D;rw[List.drop_eq_getElem_cons C];rfl
theorem zdn{l:List qa}(A:∀c∈l,Qf c=0){c:Str}(h:(Qb (Za l) c).isSome=true):Zg (Za l) (Qc c)=0:=QbH A (x:=.ty (.cl c)) ⟨(QaE c).symm,h⟩ (Nat.zero_le _)
def Zfj(op:Int):Prop:=op=4\/op=5\/op=6\/op=7\/op=8\/op=13\/op=19\/op=20\/op=21\/op=22\/op=23
instance (op:Int):Decidable (Zfj op):=by unfold Zfj;infer_instance
theorem zdL{l:List qa}(h:Qg l){x:Str}{d:qa}(C:Qb (Za l) x=some d):(∀a∈d.faces,(Qd (Za l) a).face=true)/\(d.face=true->d.super=zh)/\(d.super.size=0->x=zh):=by
 have A:d∈Za l:=List.mem_of_find?_eq_some C;have D:Qd (Za l) x=d:=by unfold Qd;rw[C];rfl
 have H:d.super.size=0->x=zh:=fun E=>h.top (by rw[C];rfl) (by rw[D];exact E)
 unfold Za at A;rcases List.mem_cons.1 A with rfl|A
 ·exact⟨(fun a F=>by cases F),(fun G=>by cases G),H⟩
 ·rcases List.mem_cons.1 A with rfl|A
  ·exact⟨(fun a F=>by cases F),(fun G=>by cases G),H⟩
  ·have I:=h.joined d A;obtain⟨_,J⟩:=zbR I;refine⟨fun a F=>?_,fun G=>?_,H⟩
   ·obtain⟨c,L,M⟩:=zbD (J a F);unfold Qd;rw[L];exact M
   ·have B:=h.face_line (c:=x) (by rw[C];rfl) (by rw[D];exact G);by_cases E:d.super.size=0
    ·have:=H E;subst this;rw[Qg.line_top (by rw[D];exact E)]at B;cases B
    ·rw[h.line_up (by rw[C];rfl) (by rw[D];exact E),D]at B;injection B with _ B
     have:=zad (cs:=Za l) d.super;rw[B]at this;exact List.mem_singleton.1 this
