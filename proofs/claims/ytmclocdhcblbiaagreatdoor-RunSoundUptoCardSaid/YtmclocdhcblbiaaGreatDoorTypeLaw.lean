/- Lemmas; conditions: as each states. -/
import Derived.WalkKit
import Derived.Lib.Strings
import Derived.Lib.IndexLaws
set_option maxHeartbeats 4000000
namespace Go.Proofs.YtmclocdhcblbiaaGreatDoor
open Go.RowKit
theorem Xl{n:Nat}:n<=n:=Nat.le_refl n
theorem Xb{n:Nat}{w:World}:Below n w w:=Below.refl n w
theorem Xh{p:Prop}(h:p):Hid p:=h
theorem Xa:type_of% @List.setIfInBounds_toArray:=by exact List.setIfInBounds_toArray
theorem Xc:type_of% @List.set_cons_zero:=by exact List.set_cons_zero
theorem Xd:type_of% @List.set_cons_succ:=by exact List.set_cons_succ
theorem Xe:type_of% @List.mem_of_getElem?:=by exact List.mem_of_getElem?
theorem Xf:type_of% @Nat.le_trans:=by exact Nat.le_trans
theorem Xg:type_of% @List.drop_eq_nil_of_le:=by exact List.drop_eq_nil_of_le
theorem Xi:type_of% @decide_eq_false:=by exact decide_eq_false
theorem Xj:type_of% @decide_eq_true:=by exact decide_eq_true
theorem Xk:type_of% @heap_setCell_other:=by exact heap_setCell_other
theorem Xm:type_of% @of_decide_eq_true:=by exact of_decide_eq_true
theorem Xn:type_of% @List.getElem?_eq_getElem:=by exact List.getElem?_eq_getElem
structure Ins where
 op:Int
 a:Int
 b:Int
 type:ByteArray
 cls:ByteArray
 name:ByteArray
 deriving DecidableEq
structure qH where
 name:ByteArray
 type:ByteArray
 deriving DecidableEq
structure QT where
 lo:Int
 hi:Int
 dest:Int
 cls:ByteArray
 deriving DecidableEq
structure zg where
 name:ByteArray
 type:ByteArray
 static:Bool
 abs:Bool
 priv:Bool
 locals:Int
 code:List Ins
 handlers:List QT
 deriving DecidableEq
structure qa where
 name:ByteArray
 super:ByteArray
 faces:List ByteArray
 face:Bool
 fields:List qH
 methods:List zg
 deriving DecidableEq
def QB(w:World)(b:Nat):Nat->List Value->Prop
 |_,[]=>True
 |o,v::r=>w.cell? ⟨b,o,none⟩=some v/\QB w b (o+1) r
def qe{α:Type}(w:World)(k:Nat)(R:α->List Value->Prop)(v:Value)(l:List α):Prop :=
 (v=.slice none 0 0/\l=[]) \/
 ∃a cap,v=.slice (some a) l.length cap/\l.length<=cap/\cap<=maxLen /\
  ∀i x,l[i]? = some x->∃vs,R x vs/\vs.length=k/\a=⟨a.block,a.off,none⟩/\QB w a.block (a.off+i*k) vs
def Qs(x:ByteArray)(vs:List Value):Prop:=vs=[.string x]
def qw(x:Ins)(vs:List Value):Prop:=vs=[.int .i64 x.op,.int .i64 x.a,.int .i64 x.b,.string x.type,.string x.cls,.string x.name]
def zI(x:qH)(vs:List Value):Prop:=vs=[.string x.name,.string x.type]
def qq(x:QT)(vs:List Value):Prop:=vs=[.int .i64 x.lo,.int .i64 x.hi,.int .i64 x.dest,.string x.cls]
def Zt(w:World)(x:zg)(vs:List Value):Prop:=∃cv hv,vs=[.string x.name,.string x.type,.bool x.static,.bool x.abs,.bool x.priv,.int .i64 x.locals,cv,hv] /\
 qe w 6 qw cv x.code/\qe w 4 qq hv x.handlers
def qal(w:World)(x:qa)(vs:List Value):Prop:=∃fv dv mv,vs=[.string x.name,.string x.super,fv,.bool x.face,dv,mv] /\
 qe w 1 Qs fv x.faces/\qe w 2 zI dv x.fields/\qe w 8 (Zt w) mv x.methods
def QJ(w:World)(v:Value)(l:List qa):Prop:=qe w 6 (qal w) v l
def Zo(w:World)(v:Value)(l:List ByteArray):Prop:=qe w 1 Qs v l
theorem QB.mono{B:Nat}{w w':World}(A:Below B w w'){b:Nat}(h:b<B):∀{vs:List Value} {o:Nat},QB w b o vs->QB w' b o vs
 |[],_,_=>trivial
 |_::_,_,⟨C,D⟩=>⟨(A.cell (p:=⟨b,_,none⟩) h).trans C,D.mono A h⟩
theorem QB.lt{w:World}{b o:Nat}{v:Value}{r:List Value}(h:QB w b o (v::r)):b<w.heap.size:=by
 have A:=h.1;unfold World.cell? at A;cases B:w.heap[b]? with
 |none=>simp[B]at A
 |some C =>
  exact(Array.getElem?_eq_some_iff.1 B).1
theorem qe.mono{α:Type}{w w':World}(D:Below w.heap.size w w'){k:Nat}(N:0<k){R A:α->List Value->Prop}(E:∀x vs,R x vs->A x vs){v:Value}{l:List α}(h:qe w k R v l):qe w' k A v l:=by
 rcases h with h|⟨a,cap,I,J,L,M⟩
 ·exact Or.inl h
 ·refine Or.inr ⟨a,cap,I,J,L,fun i x H=>?_⟩;obtain⟨vs,F,B,G,C⟩:=M i x H;refine⟨vs,E _ _ F,B,G,?_⟩;cases vs with
  |nil=>simp at B;omega
  |cons v r=>exact C.mono D C.lt
theorem Zt.mono{w w':World}(A:Below w.heap.size w w'){x:zg}{vs:List Value}:Zt w x vs->Zt w' x vs
 |⟨B,C,D,E,F⟩=>⟨B,C,D,E.mono A (by decide) (fun _ _ h=>h),F.mono A (by decide) (fun _ _ h=>h)⟩
theorem qal.mono{w w':World}(A:Below w.heap.size w w'){x:qa}{vs:List Value}:qal w x vs->qal w' x vs
 |⟨B,C,D,E,F,G,H⟩=>⟨B,C,D,E,F.mono A (by decide) (fun _ _ h=>h),G.mono A (by decide) (fun _ _ h=>h),H.mono A (by decide) (fun _ _ h=>h.mono A)⟩
theorem QJ.mono{w w':World}(A:Below w.heap.size w w'){v:Value}{l:List qa}(h:QJ w v l):QJ w' v l :=
 qe.mono A (by decide) (fun _ _ h=>h.mono A) h
theorem Zo.mono{w w':World}(A:Below w.heap.size w w'){v:Value}{l:List ByteArray}(h:Zo w v l):Zo w' v l :=
 qe.mono A (by decide) (fun _ _ h=>h) h
theorem qe.at{α:Type}{w:World}{k:Nat}{R:α->List Value->Prop}{v:Value}{l:List α}(h:qe w k R v l){i:Nat}(A:i<l.length):
 ∃b o cap vs,v=.slice (some ⟨b,o,none⟩) l.length cap/\R l[i] vs/\vs.length=k/\QB w b (o+i*k) vs:=by
 rcases h with⟨_,h⟩|⟨a,cap,E,H,I,F⟩
 ·subst h;simp at A
 ·obtain⟨vs,B,C,G,D⟩:=F i l[i] (by simp[A]);exact⟨a.block,a.off,cap,vs,by rw[E];congr 2,B,C,D⟩
end Go.Proofs.YtmclocdhcblbiaaGreatDoor
namespace Go.Proofs.YtmclocdhcblbiaaGreatDoor
abbrev Str:=ByteArray
abbrev lst(s:Str):List UInt8:=s.data.toList
def str(l:List UInt8):Str:=⟨l.toArray⟩
def Q4(l:List Str)(s:Str):Bool:=l.any fun y=>decide (y=s)
theorem qA{l:List Str}{s:Str}:Q4 l s=true↔s∈l:=by
 unfold Q4;rw[List.any_eq_true];constructor
 ·rintro⟨y,A,B⟩;rw[Xm B]at A;exact A
 ·intro h;exact⟨s,h,by simp⟩
def zaw(c:UInt8):Bool:=(97<=c&&c<=122)||(65<=c&&c<=90)||c==95
def zZ(c:UInt8):Bool:=48<=c&&c<=57
def Zx(s:List UInt8):Bool :=
 match s with
 |[]=>false
 |c::_=>decide (s.length<=20)&&!zZ c&&s.all fun c=>zaw c||zZ c
def zq:List UInt8->Nat
 |[]=>0
 |c::r=>if c=91 then zq r+1 else 0
def Zn:List UInt8->Nat
 |[]=>0
 |c::r=>if c=59 then 0 else Zn r+1
def QA(r:List UInt8):Nat :=
 match r with
 |[]=>0
 |c::q=>if c=73\/c=74 then 1 else if c=76 then (if Zn q<q.length/\Zx (q.take (Zn q))=true then Zn q+2 else 0) else 0
def Qn(s:List UInt8):Nat :=
 if zq s<=3/\0<QA (s.drop (zq s)) then zq s+QA (s.drop (zq s)) else 0
def qo(s:List UInt8):Bool:=!s.isEmpty&&Qn s==s.length
def ZO(s:List UInt8):Bool:=s==[73]||s==[74]
def qbj(s:List UInt8):Bool:=qo s&&!ZO s
def QaF(s:List UInt8):List UInt8 :=
 match s.drop (zq s) with
 |76::q=>q.take (q.length-1)
 |_=>[]
def zav:Nat->ByteArray->List ByteArray->ByteArray×List ByteArray×Bool
 |0,r,acc=>(r,acc,false)
 |n+1,r,acc=>if Lib.hasPrefix r.data.toList [41]=true then (r,acc,true) else if Qn r.data.toList=0 then (r,acc,false) else zav n (r.extract (Qn r.data.toList) r.size) (acc++[r.extract 0 (Qn r.data.toList)])
def qv(r:ByteArray)(is:Bool)(acc:List ByteArray):ByteArray×List ByteArray×Bool:=if is then zav (r.size+1) r acc else (r,acc,false)
def Qac(r:ByteArray):ByteArray:=⟨(Lib.trimPrefix r.data.toList [41]).toArray⟩
def qJ(g:ByteArray):Bool:=g.toList==[86]||qo g.data.toList
def Zw(x:ByteArray×List ByteArray×Bool):Option (List ByteArray×ByteArray) :=
 if x.2.2=true/\x.2.1.length<=5/\qJ (Qac x.1)=true then some (x.2.1,Qac x.1) else none
def qi(s:ByteArray):Option (List ByteArray×ByteArray) :=
 Zw (qv ⟨(Lib.trimPrefix s.data.toList [40]).toArray⟩ (Lib.hasPrefix s.data.toList [40]) [])
def ZS(op:Int):Bool:=op==12||op==13||op==14
def Zac(op:Int):Bool:=op==14||op==26||op==27||op==28
def zd7(op:Int):Bool:=op==2||op==4||op==5||op==9||ZS op
def Zd7(op:Int):Bool:=op==12
def qd7(op:Int):Bool:=op==2||op==9||op==10||op==18||op==20||op==21||op==22||op==23||op==24||op==25
def zcP(op:Int):Bool:=op==15||op==16||op==17||op==24||op==25
def ZcP(op:Int):Bool:=op==16||op==17||op==24||op==25
def QP(x:Ins):Bool :=
 if x.op=2 then !(lst x.type==[73])||(decide (-2147483648<=x.a)&&decide (x.a<=2147483647))
 else if x.op=4\/x.op=5 then decide (0<=x.a)&&decide (x.a<8)
 else if x.op=9 then decide (1<=x.a)&&decide (x.a<=12)
 else !ZS x.op||(decide (0<=x.a)&&decide (x.a<=40)&&decide (0<=x.b)&&decide (x.b<=5))
def Z0(x:Ins):Bool :=
 if x.op=2\/x.op=9\/x.op=10 then ZO (lst x.type)
 else if x.op=18\/x.op=20\/x.op=21 then qo (lst x.type)&&qo (91::lst x.type)
 else if x.op=22\/x.op=23 then qo (lst x.type)&&!ZO (lst x.type)
 else if x.op=24\/x.op=25 then (qi x.type).isSome
 else true
def Qo(x:Ins):Nat :=
 if x.op<1\/28<x.op then 1
 else if (!zd7 x.op&&x.a != 0)||(!Zd7 x.op&&x.b != 0)||(!qd7 x.op&&x.type.size != 0)||(!zcP x.op&&x.cls.size != 0)||(!ZcP x.op&&x.name.size != 0) then 1
 else if !QP x then 2
 else if !Z0 x||(zcP x.op&&!Zx (lst x.cls))||(ZcP x.op&&!Zx (lst x.name)) then 1
 else 0
def Zh{α:Type}(f:α->Nat):List α->Nat
 |[]=>0
 |x::r=>if f x=0 then Zh f r else f x
def zC(l:List Ins):Nat :=
 if 40<l.length then 4
 else if Zh Qo l≠0 then Zh Qo l
 else if l.any fun x=>ZS x.op&&decide ((l.length:Int)<=x.a) then 2
 else match l.getLast? with
  |some x=>if Zac x.op then 0 else 8
  |none=>8
def ZE(many:Nat)(h:QT):Nat :=
 if h.lo<0\/h.hi<=h.lo\/(many:Int)<h.hi\/h.dest<0\/(many:Int)<=h.dest then 2
 else if Zx (lst h.cls) then 0 else 1
def zw(l:List QT)(many:Nat):Nat :=
 if Zh (ZE many) l≠0 then Zh (ZE many) l else if 8<l.length then 4 else 0
def qap(m:zg):Nat :=
 match qi m.type with
 |some (args,_)=>if m.static then args.length else args.length+1
 |none=>0
def Qag(m:zg):Nat :=
 if m.abs then (if m.static||m.priv||!m.code.isEmpty||!m.handlers.isEmpty then 8 else 0)
 else if zC m.code≠0 then zC m.code
 else if m.locals<qap m then 2
 else if m.code.any fun x=>(x.op==4||x.op==5)&&decide (m.locals<=x.a) then 2
 else zw m.handlers m.code.length
def ZG(m:zg)(ahead:List zg):Nat :=
 if !Zx (lst m.name) then 1
 else if (qi m.type).isNone then 1
 else if ahead.any fun x=>decide (x.name=m.name)&&decide (x.type=m.type) then 5
 else if m.locals<0\/8<m.locals then 2
 else Qag m
def zi{α:Type}(f:α->List α->Nat):List α->List α->Nat
 |_,[]=>0
 |ahead,x::r=>if f x ahead=0 then zi f (ahead++[x]) r else f x ahead
def zab(s:Str)(ahead:List Str):Nat:=if !Zx (lst s) then 1 else if Q4 ahead s then 5 else 0
def ZI(x:qH)(ahead:List qH):Nat :=
 if !Zx (lst x.name)||!qo (lst x.type) then 1 else if ahead.any fun y=>decide (y.name=x.name) then 5 else 0
def qf(c:qa):Nat :=
 if !Zx (lst c.name)||(c.super.size != 0&&!Zx (lst c.super)) then 1
 else if zi zab [] c.faces≠0 then zi zab [] c.faces
 else if 8<c.faces.length\/8<c.fields.length\/8<c.methods.length then 4
 else if zi ZI [] c.fields≠0 then zi ZI [] c.fields
 else if zi ZG [] c.methods≠0 then zi ZG [] c.methods
 else if c.face&&!c.fields.isEmpty then 8 else 0
def Zg:Str:=⟨#[79,98,106,101,99,116]⟩
def Ql:Str:=⟨#[70,97,117,108,116]⟩
def qg:qa:=⟨.empty,.empty,[],false,[],[]⟩
def ZU:qa:={ qg with name:=Zg }
def Zad:qa:={ qg with name:=Ql,super:=Zg }
def Zff(w:List qa)(n:Str):Option qa :=
 if n=Zg then some ZU else if n=Ql then some Zad else w.find? fun c=>decide (c.name=n)
def qfr(w:List qa):List Str:=Zg::Ql::w.map (·.name)
end Go.Proofs.YtmclocdhcblbiaaGreatDoor
