/- Lemmas; conditions: as each states. -/
import Derived.Test.YtlmfmioljeppfaaGreatDoorProg
import Derived.WalkKit
import Derived.Lib.Strings
import Derived.Lib.IndexLaws
import Derived.WalkSpells
import Derived.WalkLawsBesides
import Derived.Lib.Hide
set_option maxHeartbeats 4000000
namespace Go.Proofs.YtlmfmioljeppfaaGreatDoor
open Go.RowKit
theorem Xl{n:Nat}:n<=n:=Nat.le_refl n
theorem Xb{n:Nat}{w:World}:Below n w w:=Below.refl n w
theorem Xh{p:Prop}(h:p):Hid p:=h
theorem Xa:type_of% @List.setIfInBounds_toArray:=by exact List.setIfInBounds_toArray
theorem Xc:type_of% @List.set_cons_zero:=by exact List.set_cons_zero
theorem Xd:type_of% @List.set_cons_succ:=by exact List.set_cons_succ
theorem Xe:type_of% @List.mem_of_getElem?:=by exact List.mem_of_getElem?
theorem Xf:type_of% @Nat.le_trans:=by exact Nat.le_trans
theorem Xg:type_of% @List.drop_eq_nil_of_le:=by exact List.drop_eq_nil_of_le
theorem Xi:type_of% @decide_eq_false:=by exact decide_eq_false
theorem Xj:type_of% @decide_eq_true:=by exact decide_eq_true
theorem Xk:type_of% @heap_setCell_other:=by exact heap_setCell_other
theorem Xm:type_of% @of_decide_eq_true:=by exact of_decide_eq_true
theorem Xn:type_of% @List.getElem?_eq_getElem:=by exact List.getElem?_eq_getElem
structure Ins where
 op:Int
 a:Int
 b:Int
 type:ByteArray
 cls:ByteArray
 name:ByteArray
 deriving DecidableEq
structure qag where
 name:ByteArray
 type:ByteArray
 deriving DecidableEq
structure Q0 where
 lo:Int
 hi:Int
 dest:Int
 cls:ByteArray
 deriving DecidableEq
structure Zk where
 name:ByteArray
 type:ByteArray
 static:Bool
 abs:Bool
 priv:Bool
 locals:Int
 code:List Ins
 handlers:List Q0
 deriving DecidableEq
structure Qb where
 name:ByteArray
 super:ByteArray
 faces:List ByteArray
 face:Bool
 fields:List qag
 methods:List Zk
 deriving DecidableEq
def qG(w:World)(b:Nat):Nat->List Value->Prop
 |_,[]=>True
 |o,v::r=>w.cell? ⟨b,o,none⟩=some v/\qG w b (o+1) r
def Qg{α:Type}(w:World)(k:Nat)(R:α->List Value->Prop)(v:Value)(l:List α):Prop :=
 (v=.slice none 0 0/\l=[]) \/
 ∃a cap,v=.slice (some a) l.length cap/\l.length<=cap/\cap<=maxLen /\
  ∀i x,l[i]? = some x->∃vs,R x vs/\vs.length=k/\a=⟨a.block,a.off,none⟩/\qG w a.block (a.off+i*k) vs
def zr(x:ByteArray)(vs:List Value):Prop:=vs=[.string x]
def qy(x:Ins)(vs:List Value):Prop:=vs=[.int .i64 x.op,.int .i64 x.a,.int .i64 x.b,.string x.type,.string x.cls,.string x.name]
def ZE(x:qag)(vs:List Value):Prop:=vs=[.string x.name,.string x.type]
def qw(x:Q0)(vs:List Value):Prop:=vs=[.int .i64 x.lo,.int .i64 x.hi,.int .i64 x.dest,.string x.cls]
def Zr(w:World)(x:Zk)(vs:List Value):Prop:=∃cv hv,vs=[.string x.name,.string x.type,.bool x.static,.bool x.abs,.bool x.priv,.int .i64 x.locals,cv,hv] /\
 Qg w 6 qy cv x.code/\Qg w 4 qw hv x.handlers
def Z6(w:World)(x:Qb)(vs:List Value):Prop:=∃fv dv mv,vs=[.string x.name,.string x.super,fv,.bool x.face,dv,mv] /\
 Qg w 1 zr fv x.faces/\Qg w 2 ZE dv x.fields/\Qg w 8 (Zr w) mv x.methods
def qi(w:World)(v:Value)(l:List Qb):Prop:=Qg w 6 (Z6 w) v l
def Qh(w:World)(v:Value)(l:List ByteArray):Prop:=Qg w 1 zr v l
theorem qG.mono{B:Nat}{w w':World}(hb:Below B w w'){b:Nat}(h:b<B):∀{vs:List Value} {o:Nat},qG w b o vs->qG w' b o vs
 |[],_,_=>trivial
 |_::_,_,⟨h1,h2⟩=>⟨(hb.cell (p:=⟨b,_,none⟩) h).trans h1,h2.mono hb h⟩
theorem qG.lt{w:World}{b o:Nat}{v:Value}{r:List Value}(h:qG w b o (v::r)):b<w.heap.size:=by
 have h1:=h.1;unfold World.cell? at h1;cases hb:w.heap[b]? with
 |none=>simp[hb]at h1
 |some o' =>
  exact(Array.getElem?_eq_some_iff.1 hb).1
theorem Qg.mono{α:Type}{w w':World}(hb:Below w.heap.size w w'){k:Nat}(hk:0<k){R R':α->List Value->Prop}(hR:∀x vs,R x vs->R' x vs){v:Value}{l:List α}(h:Qg w k R v l):Qg w' k R' v l:=by
 rcases h with h|⟨a,cap,h1,h2,h3,h4⟩
 ·exact Or.inl h
 ·refine Or.inr ⟨a,cap,h1,h2,h3,fun i x hi=>?_⟩;obtain⟨vs,r1,r2,r3,r4⟩:=h4 i x hi;refine⟨vs,hR _ _ r1,r2,r3,?_⟩;cases vs with
  |nil=>simp at r2;omega
  |cons v r=>exact r4.mono hb r4.lt
theorem Zr.mono{w w':World}(hb:Below w.heap.size w w'){x:Zk}{vs:List Value}:Zr w x vs->Zr w' x vs
 |⟨cv,hv,h1,h2,h3⟩=>⟨cv,hv,h1,h2.mono hb (by decide) (fun _ _ h=>h),h3.mono hb (by decide) (fun _ _ h=>h)⟩
theorem Z6.mono{w w':World}(hb:Below w.heap.size w w'){x:Qb}{vs:List Value}:Z6 w x vs->Z6 w' x vs
 |⟨fv,dv,mv,h1,h2,h3,h4⟩=>⟨fv,dv,mv,h1,h2.mono hb (by decide) (fun _ _ h=>h),h3.mono hb (by decide) (fun _ _ h=>h),h4.mono hb (by decide) (fun _ _ h=>h.mono hb)⟩
theorem qi.mono{w w':World}(hb:Below w.heap.size w w'){v:Value}{l:List Qb}(h:qi w v l):qi w' v l :=
 Qg.mono hb (by decide) (fun _ _ h=>h.mono hb) h
theorem Qh.mono{w w':World}(hb:Below w.heap.size w w'){v:Value}{l:List ByteArray}(h:Qh w v l):Qh w' v l :=
 Qg.mono hb (by decide) (fun _ _ h=>h) h
theorem Qg.at{α:Type}{w:World}{k:Nat}{R:α->List Value->Prop}{v:Value}{l:List α}(h:Qg w k R v l){i:Nat}(hi:i<l.length):
 ∃b o cap vs,v=.slice (some ⟨b,o,none⟩) l.length cap/\R l[i] vs/\vs.length=k/\qG w b (o+i*k) vs:=by
 rcases h with⟨_,h⟩|⟨a,cap,h1,h2,h3,h4⟩
 ·subst h;simp at hi
 ·obtain⟨vs,r1,r2,r3,r4⟩:=h4 i l[i] (by simp[hi]);exact⟨a.block,a.off,cap,vs,by rw[h1];congr 2,r1,r2,r4⟩
end Go.Proofs.YtlmfmioljeppfaaGreatDoor
namespace Go.Proofs.YtlmfmioljeppfaaGreatDoor
abbrev Str:=ByteArray
abbrev lst(s:Str):List UInt8:=s.data.toList
def str(l:List UInt8):Str:=⟨l.toArray⟩
def ZL(l:List Str)(s:Str):Bool:=l.any fun y=>decide (y=s)
theorem qx{l:List Str}{s:Str}:ZL l s=true↔s∈l:=by
 unfold ZL;rw[List.any_eq_true];constructor
 ·rintro⟨y,h1,h2⟩;rw[Xm h2]at h1;exact h1
 ·intro h;exact⟨s,h,by simp⟩
def qap(c:UInt8):Bool:=(97<=c&&c<=122)||(65<=c&&c<=90)||c==95
def QV(c:UInt8):Bool:=48<=c&&c<=57
def Qt(s:List UInt8):Bool :=
 match s with
 |[]=>false
 |c::_=>decide (s.length<=20)&&!QV c&&s.all fun c=>qap c||QV c
def qu:List UInt8->Nat
 |[]=>0
 |c::r=>if c=91 then qu r+1 else 0
def Qv:List UInt8->Nat
 |[]=>0
 |c::r=>if c=59 then 0 else Qv r+1
def qR(r:List UInt8):Nat :=
 match r with
 |[]=>0
 |c::q=>if c=73\/c=74 then 1 else if c=76 then (if Qv q<q.length/\Qt (q.take (Qv q))=true then Qv q+2 else 0) else 0
def ZA(s:List UInt8):Nat :=
 if qu s<=3/\0<qR (s.drop (qu s)) then qu s+qR (s.drop (qu s)) else 0
def Qs(s:List UInt8):Bool:=!s.isEmpty&&ZA s==s.length
def Qag(s:List UInt8):Bool:=s==[73]||s==[74]
def qdb(s:List UInt8):Bool:=Qs s&&!Qag s
def zak(s:List UInt8):List UInt8 :=
 match s.drop (qu s) with
 |76::q=>q.take (q.length-1)
 |_=>[]
def Qax:Nat->ByteArray->List ByteArray->ByteArray×List ByteArray×Bool
 |0,r,acc=>(r,acc,false)
 |n+1,r,acc=>if Lib.hasPrefix r.data.toList [41]=true then (r,acc,true) else if ZA r.data.toList=0 then (r,acc,false) else Qax n (r.extract (ZA r.data.toList) r.size) (acc++[r.extract 0 (ZA r.data.toList)])
def zA(r:ByteArray)(is:Bool)(acc:List ByteArray):ByteArray×List ByteArray×Bool:=if is then Qax (r.size+1) r acc else (r,acc,false)
def Q6(r:ByteArray):ByteArray:=⟨(Lib.trimPrefix r.data.toList [41]).toArray⟩
def qX(g:ByteArray):Bool:=g.toList==[86]||Qs g.data.toList
def QC(x:ByteArray×List ByteArray×Bool):Option (List ByteArray×ByteArray) :=
 if x.2.2=true/\x.2.1.length<=5/\qX (Q6 x.1)=true then some (x.2.1,Q6 x.1) else none
def zm(s:ByteArray):Option (List ByteArray×ByteArray) :=
 QC (zA ⟨(Lib.trimPrefix s.data.toList [40]).toArray⟩ (Lib.hasPrefix s.data.toList [40]) [])
def qC(op:Int):Bool:=op==12||op==13||op==14
def zan(op:Int):Bool:=op==14||op==26||op==27||op==28
def Zb1(op:Int):Bool:=op==2||op==4||op==5||op==9||qC op
def qb1(op:Int):Bool:=op==12
def qbK(op:Int):Bool:=op==2||op==9||op==10||op==18||op==20||op==21||op==22||op==23||op==24||op==25
def qbb(op:Int):Bool:=op==15||op==16||op==17||op==24||op==25
def Qbb(op:Int):Bool:=op==16||op==17||op==24||op==25
def ZM(x:Ins):Bool :=
 if x.op=2 then !(lst x.type==[73])||(decide (-2147483648<=x.a)&&decide (x.a<=2147483647))
 else if x.op=4\/x.op=5 then decide (0<=x.a)&&decide (x.a<8)
 else if x.op=9 then decide (1<=x.a)&&decide (x.a<=12)
 else !qC x.op||(decide (0<=x.a)&&decide (x.a<=40)&&decide (0<=x.b)&&decide (x.b<=5))
def Qx(x:Ins):Bool :=
 if x.op=2\/x.op=9\/x.op=10 then Qag (lst x.type)
 else if x.op=18\/x.op=20\/x.op=21 then Qs (lst x.type)&&Qs (91::lst x.type)
 else if x.op=22\/x.op=23 then Qs (lst x.type)&&!Qag (lst x.type)
 else if x.op=24\/x.op=25 then (zm x.type).isSome
 else true
def Zi(x:Ins):Nat :=
 if x.op<1\/28<x.op then 1
 else if (!Zb1 x.op&&x.a != 0)||(!qb1 x.op&&x.b != 0)||(!qbK x.op&&x.type.size != 0)||(!qbb x.op&&x.cls.size != 0)||(!Qbb x.op&&x.name.size != 0) then 1
 else if !ZM x then 2
 else if !Qx x||(qbb x.op&&!Qt (lst x.cls))||(Qbb x.op&&!Qt (lst x.name)) then 1
 else 0
def Zh{α:Type}(f:α->Nat):List α->Nat
 |[]=>0
 |x::r=>if f x=0 then Zh f r else f x
def qp(l:List Ins):Nat :=
 if 40<l.length then 4
 else if Zh Zi l≠0 then Zh Zi l
 else if l.any fun x=>qC x.op&&decide ((l.length:Int)<=x.a) then 2
 else match l.getLast? with
  |some x=>if zan x.op then 0 else 8
  |none=>8
def Zs(many:Nat)(h:Q0):Nat :=
 if h.lo<0\/h.hi<=h.lo\/(many:Int)<h.hi\/h.dest<0\/(many:Int)<=h.dest then 2
 else if Qt (lst h.cls) then 0 else 1
def Zm(l:List Q0)(many:Nat):Nat :=
 if Zh (Zs many) l≠0 then Zh (Zs many) l else if 8<l.length then 4 else 0
def Q3(m:Zk):Nat :=
 match zm m.type with
 |some (args,_)=>if m.static then args.length else args.length+1
 |none=>0
def zY(m:Zk):Nat :=
 if m.abs then (if m.static||m.priv||!m.code.isEmpty||!m.handlers.isEmpty then 8 else 0)
 else if qp m.code≠0 then qp m.code
 else if m.locals<Q3 m then 2
 else if m.code.any fun x=>(x.op==4||x.op==5)&&decide (m.locals<=x.a) then 2
 else Zm m.handlers m.code.length
def qq(m:Zk)(ahead:List Zk):Nat :=
 if !Qt (lst m.name) then 1
 else if (zm m.type).isNone then 1
 else if ahead.any fun x=>decide (x.name=m.name)&&decide (x.type=m.type) then 5
 else if m.locals<0\/8<m.locals then 2
 else zY m
def Qf{α:Type}(f:α->List α->Nat):List α->List α->Nat
 |_,[]=>0
 |ahead,x::r=>if f x ahead=0 then Qf f (ahead++[x]) r else f x ahead
def ZC(s:Str)(ahead:List Str):Nat:=if !Qt (lst s) then 1 else if ZL ahead s then 5 else 0
def qs(x:qag)(ahead:List qag):Nat :=
 if !Qt (lst x.name)||!Qs (lst x.type) then 1 else if ahead.any fun y=>decide (y.name=x.name) then 5 else 0
def qd(c:Qb):Nat :=
 if !Qt (lst c.name)||(c.super.size != 0&&!Qt (lst c.super)) then 1
 else if Qf ZC [] c.faces≠0 then Qf ZC [] c.faces
 else if 8<c.faces.length\/8<c.fields.length\/8<c.methods.length then 4
 else if Qf qs [] c.fields≠0 then Qf qs [] c.fields
 else if Qf qq [] c.methods≠0 then Qf qq [] c.methods
 else if c.face&&!c.fields.isEmpty then 8 else 0
def Zg:Str:=⟨#[79,98,106,101,99,116]⟩
def zC:Str:=⟨#[70,97,117,108,116]⟩
def zg:Qb:=⟨.empty,.empty,[],false,[],[]⟩
def QN:Qb:={ zg with name:=Zg }
def QW:Qb:={ zg with name:=zC,super:=Zg }
def zdo(w:List Qb)(n:Str):Option Qb :=
 if n=Zg then some QN else if n=zC then some QW else w.find? fun c=>decide (c.name=n)
def Zdo(w:List Qb)(n:Str):Qb:=(zdo w n).getD zg
def zeh(w:List Qb)(c:Qb):Nat :=
 if c.super.size=0 then 1
 else if (c.super::c.faces).any fun n=>(zdo w n).isNone then 3
 else if (Zdo w c.super).face then 7
 else if c.faces.any fun n=>!(Zdo w n).face then 7
 else if c.face&&decide (c.super≠Zg) then 7 else 0
def Zeq(w:List Qb):List Str:=Zg::zC::w.map (·.name)
theorem QbG(l:List UInt8):qu l<=l.length:=by
 induction l with
 |nil=>simp[qu]
 |cons c r ih=>unfold qu;split<;>simp<;>omega
theorem zdk{l:List UInt8}:∀{k:Nat},k<qu l->l[k]? = some 91:=by
 induction l with
 |nil=>intro k h;simp[qu]at h
 |cons c r ih =>
  intro k h;unfold qu at h;split at h
  ·cases k with
   |zero=>simp[*]
   |succ k=>simpa using ih (by omega)
  ·omega
theorem zcZ(l:List UInt8):l[qu l]?≠some 91:=by
 induction l with
 |nil=>simp[qu]
 |cons c r ih =>
  unfold qu;split
  ·simpa using ih
  ·simpa using ‹_›
theorem zdK(l:List UInt8):Qv l<=l.length:=by
 induction l with
 |nil=>simp[Qv]
 |cons c r ih=>unfold Qv;split<;>simp<;>omega
theorem Zdk{l:List UInt8}(h:Qv l<l.length):l[Qv l]? = some 59:=by
 induction l with
 |nil=>simp[Qv]at h
 |cons c r ih =>
  unfold Qv at h ⊢;split
  ·simp[*]
  ·rename_i hc;rw[if_neg hc]at h;simpa using ih (by simpa using h)
theorem zci{l:List UInt8}:∀{k:Nat},k<Qv l->l[k]?≠some 59:=by
 induction l with
 |nil=>intro k h;simp[Qv]at h
 |cons c r ih =>
  intro k h;unfold Qv at h;split at h
  ·omega
  ·rename_i hc;cases k with
   |zero=>simpa using hc
   |succ k=>simpa using ih (by omega)
theorem Zby{s:ByteArray}{i:Nat}(h:i<s.size):s.data.toList[i]? = some s[i]:=by
 have e:s.data.toList[i]'(by simpa using h)=s[i]:=rfl;rw[<-e];simp
theorem QB(s:ByteArray):s.data.toList.length=s.size:=by simp
theorem qbT(l:List UInt8)(a k:Nat):(l.drop a)[k]? = l[a+k]?:=by simp
end Go.Proofs.YtlmfmioljeppfaaGreatDoor
namespace Go.Proofs.YtlmfmioljeppfaaGreatDoor
open Go.RowKit
theorem zx{a b:Bool}(h:a=b):Ending.returned (.bool a)=Ending.returned (.bool b):=by rw[h]
theorem ZcU(c:UInt8):QV c=true↔48<=(c.toNat:Int)/\(c.toNat:Int)<=57:=by
 unfold QV;simp[UInt8.le_iff_toNat_le];omega
theorem qcB(c:UInt8):qap c=true↔(97<=(c.toNat:Int)/\(c.toNat:Int)<=122)\/(65<=(c.toNat:Int)/\(c.toNat:Int)<=90)\/(c.toNat:Int)=95:=by
 unfold qap;simp[UInt8.le_iff_toNat_le,<-UInt8.toNat_inj];omega
def Zaq(c:UInt8):Bool:=qap c||QV c
theorem Zbe{s:ByteArray}{k:Nat}(h:k<s.size)(hp:(s.data.toList.take k).all Zaq=true)(hc:Zaq s[k]=true):(s.data.toList.take (k+1)).all Zaq=true:=by
 have e:s.data.toList.take (k+1)=s.data.toList.take k++[s[k]]:=by
  rw[List.take_succ_eq_append_getElem (by simpa using h)];rfl
 rw[e,List.all_append,hp];simp[hc]
theorem qdE{s:ByteArray}{k:Nat}(h:k<s.size)(hc:Zaq s[k]=false):s.data.toList.all Zaq=false:=by
 rw[Bool.eq_false_iff];intro h2;rw[List.all_eq_true]at h2;have:=h2 s[k] (by
  have:s.data.toList[k]'(by simpa using h)=s[k]:=rfl;rw[<-this];exact List.getElem_mem _)
 rw[hc]at this;cases this
theorem Zax(s:ByteArray):Qt s.data.toList=(decide (0<s.size)&&decide (s.size<=20)&&(match s.data.toList with|[]=>false|c::_=>!QV c)&&s.data.toList.all Zaq):=by
 have hs:s.data.toList.length=s.size:=by simp
 unfold Qt;cases h:s.data.toList with
 |nil=>rw[h]at hs;simp at hs;simp[<-hs]
 |cons c r =>
  rw[h]at hs;have h0:0<s.size:=by rw[<-hs];simp
  rw[hs];have e:Zaq=fun c=>qap c||QV c:=rfl
  simp[h0,e]
theorem zbn{s:ByteArray}(h:0<s.size):(match s.data.toList with|[]=>false|c::_=>!QV c)=!QV s[0]:=by
 have e:s.data.toList[0]'(by simpa using h)=s[0]:=rfl;cases h2:s.data.toList with
 |nil =>
  have:s.data.toList.length=s.size:=by simp
  rw[h2]at this;simp at this;omega
 |cons c r =>
  have h3:=List.getElem_of_eq h2 (i:=0) (by simpa using h);rw[e]at h3;rw[h3];rfl
structure ZdK (s:ByteArray) (at' i:Nat):Prop where
 le:at'<=i
 hi:i<=s.size
 pre:∀j (h:j<s.size),at'<=j->j<i->s[j]=91
 stop:∀(h:i<s.size),s[i]≠91
theorem ZbI(s:ByteArray)(a:Nat)(ha:a<=s.size):ZdK s a (a+qu (s.data.toList.drop a)):=by
 have h1:=QbG (s.data.toList.drop a);simp only[List.length_drop,QB]at h1;refine⟨by omega,by omega,fun j h h2 h3=>?_,fun h e=>?_⟩
 ·have:=zdk (l:=s.data.toList.drop a) (k:=j-a) (by omega);rw[qbT,show a+(j-a)=j by omega,Zby h]at this;simpa using this
 ·have:=zcZ (s.data.toList.drop a);rw[qbT,Zby h]at this;exact this (by rw[e])
theorem qa8{s:ByteArray}{i:Nat}{h:i<s.size}{c:UInt8}{n:Int}(e:s[i]'h=c)(hn:(c.toNat:Int)=n):(((s[i]'h).toNat:Int)==n)=true:=by
 rw[e,hn];simp
theorem Qap{s:ByteArray}{i:Nat}{h:i<s.size}{c:UInt8}{n:Int}(e:s[i]'h≠c)(hn:(c.toNat:Int)=n):(((s[i]'h).toNat:Int)==n)=false:=by
 rw[beq_eq_false_iff_ne,<-hn];intro h2;exact e (UInt8.toNat_inj.1 (by omega))
theorem za9{s:ByteArray}{i:Nat}{h:i<s.size}{c:UInt8}{n:Int}(e:s[i]'h≠c)(hn:(c.toNat:Int)=n):(((s[i]'h).toNat:Int) != n)=true:=by
 rw[bne,Qap e hn];rfl
theorem qbx{s:ByteArray}{i:Nat}{h:i<s.size}{c:UInt8}{n:Int}(e:s[i]'h=c)(hn:(c.toNat:Int)=n):(((s[i]'h).toNat:Int) != n)=false:=by
 rw[bne,qa8 e hn];rfl
theorem Zdm(s:ByteArray)(i:Nat)(h:i<s.size):qR (s.data.toList.drop i) =
 if s[i]=73\/s[i]=74 then 1 else if s[i]=76 then (if i+1+Qv (s.data.toList.drop (i+1))<s.size/\Qt ((s.extract (i+1) (i+1+Qv (s.data.toList.drop (i+1)))).data.toList)=true then Qv (s.data.toList.drop (i+1))+2 else 0) else 0:=by
 have e:s.data.toList.drop i=s[i]::s.data.toList.drop (i+1):=by
  rw[List.drop_eq_getElem_cons (by simpa using h)];rfl
 have hl:(s.data.toList.drop (i+1)).length=s.size-(i+1):=by simp
 have hx:(s.extract (i+1) (i+1+Qv (s.data.toList.drop (i+1)))).data.toList=(s.data.toList.drop (i+1)).take (Qv (s.data.toList.drop (i+1))):=by
  rw[Lib.extract_data];congr 1;omega
 rw[hx,e];unfold qR;simp only[hl];have:(Qv (s.data.toList.drop (i+1))<s.size-(i+1))↔(i+1+Qv (s.data.toList.drop (i+1))<s.size):=by omega
 simp only[this]
theorem zcQ(s:ByteArray)(i:Nat)(h:s.size<=i):qR (s.data.toList.drop i)=0:=by
 rw[List.drop_of_length_le (by simpa using h)];rfl
def Zac(s:ByteArray)(a:Nat):Int:=if ZA (s.data.toList.drop a)=0 then 0 else (a:Int)+ZA (s.data.toList.drop a)
theorem Zdd(s:ByteArray)(a i:Nat)(hi:i=a+qu (s.data.toList.drop a)):
 Zac s a=if i-a<=3/\0<qR (s.data.toList.drop i) then (i:Int)+qR (s.data.toList.drop i) else 0:=by
 unfold Zac ZA;have e:(s.data.toList.drop a).drop (qu (s.data.toList.drop a))=s.data.toList.drop i:=by rw[List.drop_drop,hi]
 rw[e];have e2:qu (s.data.toList.drop a)=i-a:=by omega
 rw[e2];by_cases h:i-a<=3/\0<qR (s.data.toList.drop i)
 ·rw[if_pos h,if_pos h,if_neg (by omega)];omega
 ·rw[if_neg h,if_neg h,if_pos rfl]
structure qdK (s:ByteArray) (b e:Nat):Prop where
 lo:b<=e
 hi:e<=s.size
 pre:∀j (h:j<s.size),b<=j->j<e->s[j]≠59
 stop:∀(h:e<s.size),s[e]=59
theorem QdE(s:ByteArray)(b:Nat)(hb:b<=s.size):qdK s b (b+Qv (s.data.toList.drop b)):=by
 have h1:=zdK (s.data.toList.drop b);simp only[List.length_drop,QB]at h1;refine⟨by omega,by omega,fun j h h2 h3 e=>?_,fun h=>?_⟩
 ·have:=zci (l:=s.data.toList.drop b) (k:=j-b) (by omega);rw[qbT,show b+(j-b)=j by omega,Zby h]at this;exact this (by rw[e])
 ·have:=Zdk (l:=s.data.toList.drop b) (by simp;omega);rw[qbT,Zby h]at this;simpa using this
theorem zaw{a b:Int}(h:a=b):Ending.returned (.int .i64 a)=Ending.returned (.int .i64 b):=by rw[h]
theorem Qav{s:ByteArray}{a b:Nat}(h:s.size<=maxLen):(s.extract a b).size<=maxLen:=by
 have:(s.extract a b).size<=s.size:=by simp;omega
 omega
end Go.Proofs.YtlmfmioljeppfaaGreatDoor
