/- Lemmas; conditions: as each states. -/
import Derived.Test.YtlmfmioljeppfaaGreatDoorLookLaw
import Derived.Test.YtlmfmioljeppfaaGreatDoorFirst
set_option maxHeartbeats 4000000
namespace Go.Proofs.YtlmfmioljeppfaaGreatDoor
open Go.RowKit Go.Shelf Go.Lib
def QbT(cs:List Qb)(M:Asg Frm)(i:Nat)(f:Frm):Bool:=match M i with
 |none=>false
 |some m=>zR f m&&decide (Q1 cs f m=m)
def QbR(cs:List Qb)(M:Asg Frm)(at':Nat)(f:Frm):List zM->Bool
 |[]=>true
 |h::r=>if h.lo<=(at':Int)/\(at':Int)<h.hi then (qaa cs h.cls&&QbT cs M h.dest.toNat ⟨f.locals,[Zd h.cls]⟩)&&QbR cs M at' f r else QbR cs M at' f r
def Zcv(cs:List Qb)(M:Asg Frm)(at':Nat)(s:Option Frm):Option (Option Frm):=match M at' with
 |none=>some s
 |some m=>match s with
  |none=>some (some m)
  |some f=>if QbT cs M at' f then some (some m) else none
def zdp(cs:List Qb)(cls Zb:Str)(hs:List zM)(M:Asg Frm)(at':Nat)(x:Ins)(f:Frm):Option (Option Frm) :=
 if QbR cs M at' f hs then (zp cs cls Zb x f.locals f.stack).bind fun p=>if zu x.op&&!QbT cs M x.a.toNat ⟨p.1,p.2⟩ then none else some (if Zad x.op then none else some ⟨p.1,p.2⟩) else none
def qaV(cs:List Qb)(cls Zb:Str)(hs:List zM)(M:Asg Frm):Nat->List Ins->Option Frm->Bool
 |_,[],_=>true
 |at',x::r,s=>match Zcv cs M at' s with
  |none=>false
  |some none=>qaV cs cls Zb hs M (at'+1) r none
  |some (some f)=>match zdp cs cls Zb hs M at' x f with
   |none=>false
   |some s'=>qaV cs cls Zb hs M (at'+1) r s'
section
variable {l:List Qb} {cls Zb:Str} {m:qi} {start:Frm}
end
def Zdp(cs:List Qb)(cls g:Str)(m:qi)(M:Asg Frm)(L:List Str):Bool:=Zaa cs L g&&qaV cs cls g m.handlers M 0 m.code (some ⟨L,[]⟩)
end Go.Proofs.YtlmfmioljeppfaaGreatDoor
