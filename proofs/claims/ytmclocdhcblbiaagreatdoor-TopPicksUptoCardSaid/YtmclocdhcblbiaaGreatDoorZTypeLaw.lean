/- Lemmas; conditions: as each states. -/
import Derived.WalkKit
import Derived.Lib.Strings
import Derived.Lib.IndexLaws
set_option maxHeartbeats 4000000
namespace Go.Proofs.YtmclocdhcblbiaaGreatDoor
open Go.RowKit
theorem Xl{n:Nat}:n<=n:=Nat.le_refl n
theorem Xb{n:Nat}{w:World}:Below n w w:=Below.refl n w
theorem Xh{p:Prop}(h:p):Hid p:=h
theorem Xa:type_of% @List.setIfInBounds_toArray:=by exact List.setIfInBounds_toArray
theorem Xc:type_of% @List.set_cons_zero:=by exact List.set_cons_zero
theorem Xd:type_of% @List.set_cons_succ:=by exact List.set_cons_succ
theorem Xe:type_of% @List.mem_of_getElem?:=by exact List.mem_of_getElem?
theorem Xf:type_of% @Nat.le_trans:=by exact Nat.le_trans
theorem Xg:type_of% @List.drop_eq_nil_of_le:=by exact List.drop_eq_nil_of_le
theorem Xi:type_of% @decide_eq_false:=by exact decide_eq_false
theorem Xj:type_of% @decide_eq_true:=by exact decide_eq_true
theorem Xk:type_of% @heap_setCell_other:=by exact heap_setCell_other
theorem Xm:type_of% @of_decide_eq_true:=by exact of_decide_eq_true
theorem Xn:type_of% @List.getElem?_eq_getElem:=by exact List.getElem?_eq_getElem
structure Ins where
 op:Int
 a:Int
 b:Int
 type:ByteArray
 cls:ByteArray
 name:ByteArray
 deriving DecidableEq
structure QJ where
 name:ByteArray
 type:ByteArray
 deriving DecidableEq
structure ZW where
 lo:Int
 hi:Int
 dest:Int
 cls:ByteArray
 deriving DecidableEq
structure qc where
 name:ByteArray
 type:ByteArray
 static:Bool
 abs:Bool
 priv:Bool
 locals:Int
 code:List Ins
 handlers:List ZW
 deriving DecidableEq
structure qa where
 name:ByteArray
 super:ByteArray
 faces:List ByteArray
 face:Bool
 fields:List QJ
 methods:List qc
 deriving DecidableEq
def qw(w:World)(b:Nat):Nat->List Value->Prop
 |_,[]=>True
 |o,v::r=>w.cell? ⟨b,o,none⟩=some v/\qw w b (o+1) r
def Qe{α:Type}(w:World)(k:Nat)(R:α->List Value->Prop)(v:Value)(l:List α):Prop :=
 (v=.slice none 0 0/\l=[]) \/
 ∃a cap,v=.slice (some a) l.length cap/\l.length<=cap/\cap<=maxLen /\
  ∀i x,l[i]? = some x->∃vs,R x vs/\vs.length=k/\a=⟨a.block,a.off,none⟩/\qw w a.block (a.off+i*k) vs
def qt(x:ByteArray)(vs:List Value):Prop:=vs=[.string x]
def Zv(x:Ins)(vs:List Value):Prop:=vs=[.int .i64 x.op,.int .i64 x.a,.int .i64 x.b,.string x.type,.string x.cls,.string x.name]
def ZN(x:QJ)(vs:List Value):Prop:=vs=[.string x.name,.string x.type]
def Qp(x:ZW)(vs:List Value):Prop:=vs=[.int .i64 x.lo,.int .i64 x.hi,.int .i64 x.dest,.string x.cls]
def zo(w:World)(x:qc)(vs:List Value):Prop:=∃cv hv,vs=[.string x.name,.string x.type,.bool x.static,.bool x.abs,.bool x.priv,.int .i64 x.locals,cv,hv] /\
 Qe w 6 Zv cv x.code/\Qe w 4 Qp hv x.handlers
def ZQ(w:World)(x:qa)(vs:List Value):Prop:=∃fv dv mv,vs=[.string x.name,.string x.super,fv,.bool x.face,dv,mv] /\
 Qe w 1 qt fv x.faces/\Qe w 2 ZN dv x.fields/\Qe w 8 (zo w) mv x.methods
def zx(w:World)(v:Value)(l:List qa):Prop:=Qe w 6 (ZQ w) v l
def qp(w:World)(v:Value)(l:List ByteArray):Prop:=Qe w 1 qt v l
theorem qw.mono{B:Nat}{w w':World}(A:Below B w w'){b:Nat}(h:b<B):∀{vs:List Value} {o:Nat},qw w b o vs->qw w' b o vs
 |[],_,_=>trivial
 |_::_,_,⟨C,D⟩=>⟨(A.cell (p:=⟨b,_,none⟩) h).trans C,D.mono A h⟩
theorem qw.lt{w:World}{b o:Nat}{v:Value}{r:List Value}(h:qw w b o (v::r)):b<w.heap.size:=by
 have A:=h.1;unfold World.cell? at A;cases B:w.heap[b]? with
 |none=>simp[B]at A
 |some C =>
  exact(Array.getElem?_eq_some_iff.1 B).1
theorem Qe.mono{α:Type}{w w':World}(D:Below w.heap.size w w'){k:Nat}(N:0<k){R A:α->List Value->Prop}(E:∀x vs,R x vs->A x vs){v:Value}{l:List α}(h:Qe w k R v l):Qe w' k A v l:=by
 rcases h with h|⟨a,cap,I,J,L,M⟩
 ·exact Or.inl h
 ·refine Or.inr ⟨a,cap,I,J,L,fun i x H=>?_⟩;obtain⟨vs,F,B,G,C⟩:=M i x H;refine⟨vs,E _ _ F,B,G,?_⟩;cases vs with
  |nil=>simp at B;omega
  |cons v r=>exact C.mono D C.lt
theorem zo.mono{w w':World}(A:Below w.heap.size w w'){x:qc}{vs:List Value}:zo w x vs->zo w' x vs
 |⟨B,C,D,E,F⟩=>⟨B,C,D,E.mono A (by decide) (fun _ _ h=>h),F.mono A (by decide) (fun _ _ h=>h)⟩
theorem ZQ.mono{w w':World}(A:Below w.heap.size w w'){x:qa}{vs:List Value}:ZQ w x vs->ZQ w' x vs
 |⟨B,C,D,E,F,G,H⟩=>⟨B,C,D,E,F.mono A (by decide) (fun _ _ h=>h),G.mono A (by decide) (fun _ _ h=>h),H.mono A (by decide) (fun _ _ h=>h.mono A)⟩
theorem zx.mono{w w':World}(A:Below w.heap.size w w'){v:Value}{l:List qa}(h:zx w v l):zx w' v l :=
 Qe.mono A (by decide) (fun _ _ h=>h.mono A) h
theorem qp.mono{w w':World}(A:Below w.heap.size w w'){v:Value}{l:List ByteArray}(h:qp w v l):qp w' v l :=
 Qe.mono A (by decide) (fun _ _ h=>h) h
theorem Qe.at{α:Type}{w:World}{k:Nat}{R:α->List Value->Prop}{v:Value}{l:List α}(h:Qe w k R v l){i:Nat}(A:i<l.length):
 ∃b o cap vs,v=.slice (some ⟨b,o,none⟩) l.length cap/\R l[i] vs/\vs.length=k/\qw w b (o+i*k) vs:=by
 rcases h with⟨_,h⟩|⟨a,cap,E,H,I,F⟩
 ·subst h;simp at A
 ·obtain⟨vs,B,C,G,D⟩:=F i l[i] (by simp[A]);exact⟨a.block,a.off,cap,vs,by rw[E];congr 2,B,C,D⟩
end Go.Proofs.YtmclocdhcblbiaaGreatDoor
namespace Go.Proofs.YtmclocdhcblbiaaGreatDoor
abbrev Str:=ByteArray
abbrev lst(s:Str):List UInt8:=s.data.toList
def str(l:List UInt8):Str:=⟨l.toArray⟩
def zak(l:List Str)(s:Str):Bool:=l.any fun y=>decide (y=s)
theorem QF{l:List Str}{s:Str}:zak l s=true↔s∈l:=by
 unfold zak;rw[List.any_eq_true];constructor
 ·rintro⟨y,A,B⟩;rw[Xm B]at A;exact A
 ·intro h;exact⟨s,h,by simp⟩
def qbo(c:UInt8):Bool:=(97<=c&&c<=122)||(65<=c&&c<=90)||c==95
def zap(c:UInt8):Bool:=48<=c&&c<=57
def zD(s:List UInt8):Bool :=
 match s with
 |[]=>false
 |c::_=>decide (s.length<=20)&&!zap c&&s.all fun c=>qbo c||zap c
def Qv:List UInt8->Nat
 |[]=>0
 |c::r=>if c=91 then Qv r+1 else 0
def qr:List UInt8->Nat
 |[]=>0
 |c::r=>if c=59 then 0 else qr r+1
def zJ(r:List UInt8):Nat :=
 match r with
 |[]=>0
 |c::q=>if c=73\/c=74 then 1 else if c=76 then (if qr q<q.length/\zD (q.take (qr q))=true then qr q+2 else 0) else 0
def zr(s:List UInt8):Nat :=
 if Qv s<=3/\0<zJ (s.drop (Qv s)) then Qv s+zJ (s.drop (Qv s)) else 0
def zp(s:List UInt8):Bool:=!s.isEmpty&&zr s==s.length
def QX(s:List UInt8):Bool:=s==[73]||s==[74]
def QcL(s:List UInt8):Bool:=zp s&&!QX s
def qaJ(s:List UInt8):List UInt8 :=
 match s.drop (Qv s) with
 |76::q=>q.take (q.length-1)
 |_=>[]
def qay:Nat->ByteArray->List ByteArray->ByteArray×List ByteArray×Bool
 |0,r,acc=>(r,acc,false)
 |n+1,r,acc=>if Lib.hasPrefix r.data.toList [41]=true then (r,acc,true) else if zr r.data.toList=0 then (r,acc,false) else qay n (r.extract (zr r.data.toList) r.size) (acc++[r.extract 0 (zr r.data.toList)])
def qC(r:ByteArray)(is:Bool)(acc:List ByteArray):ByteArray×List ByteArray×Bool:=if is then qay (r.size+1) r acc else (r,acc,false)
def qao(r:ByteArray):ByteArray:=⟨(Lib.trimPrefix r.data.toList [41]).toArray⟩
def qZ(g:ByteArray):Bool:=g.toList==[86]||zp g.data.toList
def qQ(x:ByteArray×List ByteArray×Bool):Option (List ByteArray×ByteArray) :=
 if x.2.2=true/\x.2.1.length<=5/\qZ (qao x.1)=true then some (x.2.1,qao x.1) else none
def Zl(s:ByteArray):Option (List ByteArray×ByteArray) :=
 qQ (qC ⟨(Lib.trimPrefix s.data.toList [40]).toArray⟩ (Lib.hasPrefix s.data.toList [40]) [])
def ZU(op:Int):Bool:=op==12||op==13||op==14
def qae(op:Int):Bool:=op==14||op==26||op==27||op==28
def zd8(op:Int):Bool:=op==2||op==4||op==5||op==9||ZU op
def Zd8(op:Int):Bool:=op==12
def qd8(op:Int):Bool:=op==2||op==9||op==10||op==18||op==20||op==21||op==22||op==23||op==24||op==25
def zcR(op:Int):Bool:=op==15||op==16||op==17||op==24||op==25
def ZcR(op:Int):Bool:=op==16||op==17||op==24||op==25
def qR(x:Ins):Bool :=
 if x.op=2 then !(lst x.type==[73])||(decide (-2147483648<=x.a)&&decide (x.a<=2147483647))
 else if x.op=4\/x.op=5 then decide (0<=x.a)&&decide (x.a<8)
 else if x.op=9 then decide (1<=x.a)&&decide (x.a<=12)
 else !ZU x.op||(decide (0<=x.a)&&decide (x.a<=40)&&decide (0<=x.b)&&decide (x.b<=5))
def Z5(x:Ins):Bool :=
 if x.op=2\/x.op=9\/x.op=10 then QX (lst x.type)
 else if x.op=18\/x.op=20\/x.op=21 then zp (lst x.type)&&zp (91::lst x.type)
 else if x.op=22\/x.op=23 then zp (lst x.type)&&!QX (lst x.type)
 else if x.op=24\/x.op=25 then (Zl x.type).isSome
 else true
def qo(x:Ins):Nat :=
 if x.op<1\/28<x.op then 1
 else if (!zd8 x.op&&x.a != 0)||(!Zd8 x.op&&x.b != 0)||(!qd8 x.op&&x.type.size != 0)||(!zcR x.op&&x.cls.size != 0)||(!ZcR x.op&&x.name.size != 0) then 1
 else if !qR x then 2
 else if !Z5 x||(zcR x.op&&!zD (lst x.cls))||(ZcR x.op&&!zD (lst x.name)) then 1
 else 0
def Zh{α:Type}(f:α->Nat):List α->Nat
 |[]=>0
 |x::r=>if f x=0 then Zh f r else f x
def ZC(l:List Ins):Nat :=
 if 40<l.length then 4
 else if Zh qo l≠0 then Zh qo l
 else if l.any fun x=>ZU x.op&&decide ((l.length:Int)<=x.a) then 2
 else match l.getLast? with
  |some x=>if qae x.op then 0 else 8
  |none=>8
def QE(many:Nat)(h:ZW):Nat :=
 if h.lo<0\/h.hi<=h.lo\/(many:Int)<h.hi\/h.dest<0\/(many:Int)<=h.dest then 2
 else if zD (lst h.cls) then 0 else 1
def Zw(l:List ZW)(many:Nat):Nat :=
 if Zh (QE many) l≠0 then Zh (QE many) l else if 8<l.length then 4 else 0
def qar(m:qc):Nat :=
 match Zl m.type with
 |some (args,_)=>if m.static then args.length else args.length+1
 |none=>0
def Zai(m:qc):Nat :=
 if m.abs then (if m.static||m.priv||!m.code.isEmpty||!m.handlers.isEmpty then 8 else 0)
 else if ZC m.code≠0 then ZC m.code
 else if m.locals<qar m then 2
 else if m.code.any fun x=>(x.op==4||x.op==5)&&decide (m.locals<=x.a) then 2
 else Zw m.handlers m.code.length
def ZH(m:qc)(ahead:List qc):Nat :=
 if !zD (lst m.name) then 1
 else if (Zl m.type).isNone then 1
 else if ahead.any fun x=>decide (x.name=m.name)&&decide (x.type=m.type) then 5
 else if m.locals<0\/8<m.locals then 2
 else Zai m
def Zi{α:Type}(f:α->List α->Nat):List α->List α->Nat
 |_,[]=>0
 |ahead,x::r=>if f x ahead=0 then Zi f (ahead++[x]) r else f x ahead
def Qac(s:Str)(ahead:List Str):Nat:=if !zD (lst s) then 1 else if zak ahead s then 5 else 0
def zK(x:QJ)(ahead:List QJ):Nat :=
 if !zD (lst x.name)||!zp (lst x.type) then 1 else if ahead.any fun y=>decide (y.name=x.name) then 5 else 0
def Qf(c:qa):Nat :=
 if !zD (lst c.name)||(c.super.size != 0&&!zD (lst c.super)) then 1
 else if Zi Qac [] c.faces≠0 then Zi Qac [] c.faces
 else if 8<c.faces.length\/8<c.fields.length\/8<c.methods.length then 4
 else if Zi zK [] c.fields≠0 then Zi zK [] c.fields
 else if Zi ZH [] c.methods≠0 then Zi ZH [] c.methods
 else if c.face&&!c.fields.isEmpty then 8 else 0
def zh:Str:=⟨#[79,98,106,101,99,116]⟩
def qm:Str:=⟨#[70,97,117,108,116]⟩
def qg:qa:=⟨.empty,.empty,[],false,[],[]⟩
def Z8:qa:={ qg with name:=zh }
def Zam:qa:={ qg with name:=qm,super:=zh }
def Zfv(w:List qa)(n:Str):Option qa :=
 if n=zh then some Z8 else if n=qm then some Zam else w.find? fun c=>decide (c.name=n)
def Qcj(w:List qa)(n:Str):qa:=(Zfv w n).getD qg
def qfi(w:List qa)(n:Str):List Str :=
 if (Qcj w n).super.size=0 then (Qcj w n).faces else (Qcj w n).super::(Qcj w n).faces
def qfv(w:List qa):Nat->Nat->List Str->List Str
 |0,_,out=>out
 |n+1,i,out =>
  match out[i]? with
  |none=>out
  |some x=>qfv w n (i+1) ((qfi w x).foldl (fun o a=>if zak o a then o else o++[a]) out)
def qfx(w:List qa):List Str:=zh::qm::w.map (·.name)
