/- Lemmas; conditions: as each states. -/
import Derived.Test.YtlmfmioljeppfaaGreatDoorProg
import Derived.WalkKit
import Derived.Lib.Strings
import Derived.Lib.IndexLaws
import Derived.WalkSpells
import Derived.WalkLawsBesides
import Derived.Lib.Hide
set_option maxHeartbeats 4000000
namespace Go.Proofs.YtlmfmioljeppfaaGreatDoor
open Go.RowKit
theorem Xl{n:Nat}:n<=n:=Nat.le_refl n
theorem Xb{n:Nat}{w:World}:Below n w w:=Below.refl n w
theorem Xh{p:Prop}(h:p):Hid p:=h
theorem Xa:type_of% @List.setIfInBounds_toArray:=by exact List.setIfInBounds_toArray
theorem Xc:type_of% @List.set_cons_zero:=by exact List.set_cons_zero
theorem Xd:type_of% @List.set_cons_succ:=by exact List.set_cons_succ
theorem Xe:type_of% @List.mem_of_getElem?:=by exact List.mem_of_getElem?
theorem Xf:type_of% @Nat.le_trans:=by exact Nat.le_trans
theorem Xg:type_of% @List.drop_eq_nil_of_le:=by exact List.drop_eq_nil_of_le
theorem Xi:type_of% @decide_eq_false:=by exact decide_eq_false
theorem Xj:type_of% @decide_eq_true:=by exact decide_eq_true
theorem Xk:type_of% @heap_setCell_other:=by exact heap_setCell_other
theorem Xm:type_of% @of_decide_eq_true:=by exact of_decide_eq_true
theorem Xn:type_of% @List.getElem?_eq_getElem:=by exact List.getElem?_eq_getElem
structure Ins where
 op:Int
 a:Int
 b:Int
 type:ByteArray
 cls:ByteArray
 name:ByteArray
 deriving DecidableEq
structure Qag where
 name:ByteArray
 type:ByteArray
 deriving DecidableEq
structure zM where
 lo:Int
 hi:Int
 dest:Int
 cls:ByteArray
 deriving DecidableEq
structure qi where
 name:ByteArray
 type:ByteArray
 static:Bool
 abs:Bool
 priv:Bool
 locals:Int
 code:List Ins
 handlers:List zM
 deriving DecidableEq
structure Qb where
 name:ByteArray
 super:ByteArray
 faces:List ByteArray
 face:Bool
 fields:List Qag
 methods:List qi
 deriving DecidableEq
def QG(w:World)(b:Nat):Nat->List Value->Prop
 |_,[]=>True
 |o,v::r=>w.cell? ⟨b,o,none⟩=some v/\QG w b (o+1) r
def Zg{α:Type}(w:World)(k:Nat)(R:α->List Value->Prop)(v:Value)(l:List α):Prop :=
 (v=.slice none 0 0/\l=[]) \/
 ∃a cap,v=.slice (some a) l.length cap/\l.length<=cap/\cap<=maxLen /\
  ∀i x,l[i]? = some x->∃vs,R x vs/\vs.length=k/\a=⟨a.block,a.off,none⟩/\QG w a.block (a.off+i*k) vs
def qs(x:ByteArray)(vs:List Value):Prop:=vs=[.string x]
def Zw(x:Ins)(vs:List Value):Prop:=vs=[.int .i64 x.op,.int .i64 x.a,.int .i64 x.b,.string x.type,.string x.cls,.string x.name]
def QE(x:Qag)(vs:List Value):Prop:=vs=[.string x.name,.string x.type]
def Qt(x:zM)(vs:List Value):Prop:=vs=[.int .i64 x.lo,.int .i64 x.hi,.int .i64 x.dest,.string x.cls]
def zr(w:World)(x:qi)(vs:List Value):Prop:=∃cv hv,vs=[.string x.name,.string x.type,.bool x.static,.bool x.abs,.bool x.priv,.int .i64 x.locals,cv,hv] /\
 Zg w 6 Zw cv x.code/\Zg w 4 Qt hv x.handlers
def Q4(w:World)(x:Qb)(vs:List Value):Prop:=∃fv dv mv,vs=[.string x.name,.string x.super,fv,.bool x.face,dv,mv] /\
 Zg w 1 qs fv x.faces/\Zg w 2 QE dv x.fields/\Zg w 8 (zr w) mv x.methods
def qj(w:World)(v:Value)(l:List Qb):Prop:=Zg w 6 (Q4 w) v l
def Qh(w:World)(v:Value)(l:List ByteArray):Prop:=Zg w 1 qs v l
theorem QG.mono{B:Nat}{w w':World}(A:Below B w w'){b:Nat}(h:b<B):∀{vs:List Value} {o:Nat},QG w b o vs->QG w' b o vs
 |[],_,_=>trivial
 |_::_,_,⟨C,D⟩=>⟨(A.cell (p:=⟨b,_,none⟩) h).trans C,D.mono A h⟩
theorem QG.lt{w:World}{b o:Nat}{v:Value}{r:List Value}(h:QG w b o (v::r)):b<w.heap.size:=by
 have A:=h.1;unfold World.cell? at A;cases B:w.heap[b]? with
 |none=>simp[B]at A
 |some C =>
  exact(Array.getElem?_eq_some_iff.1 B).1
theorem Zg.mono{α:Type}{w w':World}(D:Below w.heap.size w w'){k:Nat}(N:0<k){R A:α->List Value->Prop}(E:∀x vs,R x vs->A x vs){v:Value}{l:List α}(h:Zg w k R v l):Zg w' k A v l:=by
 rcases h with h|⟨a,cap,I,J,L,M⟩
 ·exact Or.inl h
 ·refine Or.inr ⟨a,cap,I,J,L,fun i x H=>?_⟩;obtain⟨vs,F,B,G,C⟩:=M i x H;refine⟨vs,E _ _ F,B,G,?_⟩;cases vs with
  |nil=>simp at B;omega
  |cons v r=>exact C.mono D C.lt
theorem zr.mono{w w':World}(A:Below w.heap.size w w'){x:qi}{vs:List Value}:zr w x vs->zr w' x vs
 |⟨B,C,D,E,F⟩=>⟨B,C,D,E.mono A (by decide) (fun _ _ h=>h),F.mono A (by decide) (fun _ _ h=>h)⟩
theorem Q4.mono{w w':World}(A:Below w.heap.size w w'){x:Qb}{vs:List Value}:Q4 w x vs->Q4 w' x vs
 |⟨B,C,D,E,F,G,H⟩=>⟨B,C,D,E,F.mono A (by decide) (fun _ _ h=>h),G.mono A (by decide) (fun _ _ h=>h),H.mono A (by decide) (fun _ _ h=>h.mono A)⟩
theorem qj.mono{w w':World}(A:Below w.heap.size w w'){v:Value}{l:List Qb}(h:qj w v l):qj w' v l :=
 Zg.mono A (by decide) (fun _ _ h=>h.mono A) h
theorem Qh.mono{w w':World}(A:Below w.heap.size w w'){v:Value}{l:List ByteArray}(h:Qh w v l):Qh w' v l :=
 Zg.mono A (by decide) (fun _ _ h=>h) h
theorem Zg.at{α:Type}{w:World}{k:Nat}{R:α->List Value->Prop}{v:Value}{l:List α}(h:Zg w k R v l){i:Nat}(A:i<l.length):
 ∃b o cap vs,v=.slice (some ⟨b,o,none⟩) l.length cap/\R l[i] vs/\vs.length=k/\QG w b (o+i*k) vs:=by
 rcases h with⟨_,h⟩|⟨a,cap,E,H,I,F⟩
 ·subst h;simp at A
 ·obtain⟨vs,B,C,G,D⟩:=F i l[i] (by simp[A]);exact⟨a.block,a.off,cap,vs,by rw[E];congr 2,B,C,D⟩
end Go.Proofs.YtlmfmioljeppfaaGreatDoor
namespace Go.Proofs.YtlmfmioljeppfaaGreatDoor
abbrev Str:=ByteArray
abbrev lst(s:Str):List UInt8:=s.data.toList
def str(l:List UInt8):Str:=⟨l.toArray⟩
def QK(l:List Str)(s:Str):Bool:=l.any fun y=>decide (y=s)
theorem Zy{l:List Str}{s:Str}:QK l s=true↔s∈l:=by
 unfold QK;rw[List.any_eq_true];constructor
 ·rintro⟨y,A,B⟩;rw[Xm B]at A;exact A
 ·intro h;exact⟨s,h,by simp⟩
def zap(c:UInt8):Bool:=(97<=c&&c<=122)||(65<=c&&c<=90)||c==95
def qW(c:UInt8):Bool:=48<=c&&c<=57
def qt(s:List UInt8):Bool :=
 match s with
 |[]=>false
 |c::_=>decide (s.length<=20)&&!qW c&&s.all fun c=>zap c||qW c
def Qu:List UInt8->Nat
 |[]=>0
 |c::r=>if c=91 then Qu r+1 else 0
def zw:List UInt8->Nat
 |[]=>0
 |c::r=>if c=59 then 0 else zw r+1
def ZT(r:List UInt8):Nat :=
 match r with
 |[]=>0
 |c::q=>if c=73\/c=74 then 1 else if c=76 then (if zw q<q.length/\qt (q.take (zw q))=true then zw q+2 else 0) else 0
def ZA(s:List UInt8):Nat :=
 if Qu s<=3/\0<ZT (s.drop (Qu s)) then Qu s+ZT (s.drop (Qu s)) else 0
def Zs(s:List UInt8):Bool:=!s.isEmpty&&ZA s==s.length
def zah(s:List UInt8):Bool:=s==[73]||s==[74]
def zdg(s:List UInt8):Bool:=Zs s&&!zah s
def zak(s:List UInt8):List UInt8 :=
 match s.drop (Qu s) with
 |76::q=>q.take (q.length-1)
 |_=>[]
def qaw:Nat->ByteArray->List ByteArray->ByteArray×List ByteArray×Bool
 |0,r,acc=>(r,acc,false)
 |n+1,r,acc=>if Lib.hasPrefix r.data.toList [41]=true then (r,acc,true) else if ZA r.data.toList=0 then (r,acc,false) else qaw n (r.extract (ZA r.data.toList) r.size) (acc++[r.extract 0 (ZA r.data.toList)])
def zA(r:ByteArray)(is:Bool)(acc:List ByteArray):ByteArray×List ByteArray×Bool:=if is then qaw (r.size+1) r acc else (r,acc,false)
def Z5(r:ByteArray):ByteArray:=⟨(Lib.trimPrefix r.data.toList [41]).toArray⟩
def zY(g:ByteArray):Bool:=g.toList==[86]||Zs g.data.toList
def QC(x:ByteArray×List ByteArray×Bool):Option (List ByteArray×ByteArray) :=
 if x.2.2=true/\x.2.1.length<=5/\zY (Z5 x.1)=true then some (x.2.1,Z5 x.1) else none
def Zm(s:ByteArray):Option (List ByteArray×ByteArray) :=
 QC (zA ⟨(Lib.trimPrefix s.data.toList [40]).toArray⟩ (Lib.hasPrefix s.data.toList [40]) [])
def zu(op:Int):Bool:=op==12||op==13||op==14
def Zad(op:Int):Bool:=op==14||op==26||op==27||op==28
def zb1(op:Int):Bool:=op==2||op==4||op==5||op==9||zu op
def Zb1(op:Int):Bool:=op==12
def ZbJ(op:Int):Bool:=op==2||op==9||op==10||op==18||op==20||op==21||op==22||op==23||op==24||op==25
def Zbc(op:Int):Bool:=op==15||op==16||op==17||op==24||op==25
def qbc(op:Int):Bool:=op==16||op==17||op==24||op==25
def qM(x:Ins):Bool :=
 if x.op=2 then !(lst x.type==[73])||(decide (-2147483648<=x.a)&&decide (x.a<=2147483647))
 else if x.op=4\/x.op=5 then decide (0<=x.a)&&decide (x.a<8)
 else if x.op=9 then decide (1<=x.a)&&decide (x.a<=12)
 else !zu x.op||(decide (0<=x.a)&&decide (x.a<=40)&&decide (0<=x.b)&&decide (x.b<=5))
def qy(x:Ins):Bool :=
 if x.op=2\/x.op=9\/x.op=10 then zah (lst x.type)
 else if x.op=18\/x.op=20\/x.op=21 then Zs (lst x.type)&&Zs (91::lst x.type)
 else if x.op=22\/x.op=23 then Zs (lst x.type)&&!zah (lst x.type)
 else if x.op=24\/x.op=25 then (Zm x.type).isSome
 else true
def Zi(x:Ins):Nat :=
 if x.op<1\/28<x.op then 1
 else if (!zb1 x.op&&x.a != 0)||(!Zb1 x.op&&x.b != 0)||(!ZbJ x.op&&x.type.size != 0)||(!Zbc x.op&&x.cls.size != 0)||(!qbc x.op&&x.name.size != 0) then 1
 else if !qM x then 2
 else if !qy x||(Zbc x.op&&!qt (lst x.cls))||(qbc x.op&&!qt (lst x.name)) then 1
 else 0
def Zh{α:Type}(f:α->Nat):List α->Nat
 |[]=>0
 |x::r=>if f x=0 then Zh f r else f x
def qo(l:List Ins):Nat :=
 if 40<l.length then 4
 else if Zh Zi l≠0 then Zh Zi l
 else if l.any fun x=>zu x.op&&decide ((l.length:Int)<=x.a) then 2
 else match l.getLast? with
  |some x=>if Zad x.op then 0 else 8
  |none=>8
def qr(many:Nat)(h:zM):Nat :=
 if h.lo<0\/h.hi<=h.lo\/(many:Int)<h.hi\/h.dest<0\/(many:Int)<=h.dest then 2
 else if qt (lst h.cls) then 0 else 1
def zl(l:List zM)(many:Nat):Nat :=
 if Zh (qr many) l≠0 then Zh (qr many) l else if 8<l.length then 4 else 0
def Z3(m:qi):Nat :=
 match Zm m.type with
 |some (args,_)=>if m.static then args.length else args.length+1
 |none=>0
def qY(m:qi):Nat :=
 if m.abs then (if m.static||m.priv||!m.code.isEmpty||!m.handlers.isEmpty then 8 else 0)
 else if qo m.code≠0 then qo m.code
 else if m.locals<Z3 m then 2
 else if m.code.any fun x=>(x.op==4||x.op==5)&&decide (m.locals<=x.a) then 2
 else zl m.handlers m.code.length
def qq(m:qi)(ahead:List qi):Nat :=
 if !qt (lst m.name) then 1
 else if (Zm m.type).isNone then 1
 else if ahead.any fun x=>decide (x.name=m.name)&&decide (x.type=m.type) then 5
 else if m.locals<0\/8<m.locals then 2
 else qY m
def Qf{α:Type}(f:α->List α->Nat):List α->List α->Nat
 |_,[]=>0
 |ahead,x::r=>if f x ahead=0 then Qf f (ahead++[x]) r else f x ahead
def ZC(s:Str)(ahead:List Str):Nat:=if !qt (lst s) then 1 else if QK ahead s then 5 else 0
def Qr(x:Qag)(ahead:List Qag):Nat :=
 if !qt (lst x.name)||!Zs (lst x.type) then 1 else if ahead.any fun y=>decide (y.name=x.name) then 5 else 0
def qd(c:Qb):Nat :=
 if !qt (lst c.name)||(c.super.size != 0&&!qt (lst c.super)) then 1
 else if Qf ZC [] c.faces≠0 then Qf ZC [] c.faces
 else if 8<c.faces.length\/8<c.fields.length\/8<c.methods.length then 4
 else if Qf Qr [] c.fields≠0 then Qf Qr [] c.fields
 else if Qf qq [] c.methods≠0 then Qf qq [] c.methods
 else if c.face&&!c.fields.isEmpty then 8 else 0
def qg:Str:=⟨#[79,98,106,101,99,116]⟩
def zC:Str:=⟨#[70,97,117,108,116]⟩
def zg:Qb:=⟨.empty,.empty,[],false,[],[]⟩
def QN:Qb:={ zg with name:=qg }
def ZX:Qb:={ zg with name:=zC,super:=qg }
def Qds(w:List Qb)(n:Str):Option Qb :=
 if n=qg then some QN else if n=zC then some ZX else w.find? fun c=>decide (c.name=n)
def zdt(w:List Qb)(n:Str):Qb:=(Qds w n).getD zg
def qem(w:List Qb)(c:Qb):Nat :=
 if c.super.size=0 then 1
 else if (c.super::c.faces).any fun n=>(Qds w n).isNone then 3
 else if (zdt w c.super).face then 7
 else if c.faces.any fun n=>!(zdt w n).face then 7
 else if c.face&&decide (c.super≠qg) then 7 else 0
def zew(w:List Qb):List Str:=qg::zC::w.map (·.name)
theorem zbF(l:List UInt8):Qu l<=l.length:=by
 induction l with
 |nil=>simp[Qu]
 |cons c r A=>unfold Qu;split<;>simp<;>omega
theorem qdo{l:List UInt8}:∀{k:Nat},k<Qu l->l[k]? = some 91:=by
 induction l with
 |nil=>intro k h;simp[Qu]at h
 |cons c r A =>
  intro k h;unfold Qu at h;split at h
  ·cases k with
   |zero=>simp[*]
   |succ k=>simpa using A (by omega)
  ·omega
theorem zc2(l:List UInt8):l[Qu l]?≠some 91:=by
 induction l with
 |nil=>simp[Qu]
 |cons c r A =>
  unfold Qu;split
  ·simpa using A
  ·simpa using ‹_›
theorem ZdP(l:List UInt8):zw l<=l.length:=by
 induction l with
 |nil=>simp[zw]
 |cons c r A=>unfold zw;split<;>simp<;>omega
theorem Qdo{l:List UInt8}(h:zw l<l.length):l[zw l]? = some 59:=by
 induction l with
 |nil=>simp[zw]at h
 |cons c r B =>
  unfold zw at h ⊢;split
  ·simp[*]
  ·rename_i A;rw[if_neg A]at h;simpa using B (by simpa using h)
theorem Qcj{l:List UInt8}:∀{k:Nat},k<zw l->l[k]?≠some 59:=by
 induction l with
 |nil=>intro k h;simp[zw]at h
 |cons c r B =>
  intro k h;unfold zw at h;split at h
  ·omega
  ·rename_i A;cases k with
   |zero=>simpa using A
   |succ k=>simpa using B (by omega)
theorem qbw{s:ByteArray}{i:Nat}(h:i<s.size):s.data.toList[i]? = some s[i]:=by
 have e:s.data.toList[i]'(by simpa using h)=s[i]:=rfl;rw[<-e];simp
theorem QB(s:ByteArray):s.data.toList.length=s.size:=by simp
theorem ZbT(l:List UInt8)(a k:Nat):(l.drop a)[k]? = l[a+k]?:=by simp
end Go.Proofs.YtlmfmioljeppfaaGreatDoor
namespace Go.Proofs.YtlmfmioljeppfaaGreatDoor
open Go.RowKit
theorem zx{a b:Bool}(h:a=b):Ending.returned (.bool a)=Ending.returned (.bool b):=by rw[h]
theorem ZcX(c:UInt8):qW c=true↔48<=(c.toNat:Int)/\(c.toNat:Int)<=57:=by
 unfold qW;simp[UInt8.le_iff_toNat_le];omega
theorem QcD(c:UInt8):zap c=true↔(97<=(c.toNat:Int)/\(c.toNat:Int)<=122)\/(65<=(c.toNat:Int)/\(c.toNat:Int)<=90)\/(c.toNat:Int)=95:=by
 unfold zap;simp[UInt8.le_iff_toNat_le,<-UInt8.toNat_inj];omega
def zaq(c:UInt8):Bool:=zap c||qW c
theorem zbf{s:ByteArray}{k:Nat}(h:k<s.size)(A:(s.data.toList.take k).all zaq=true)(B:zaq s[k]=true):(s.data.toList.take (k+1)).all zaq=true:=by
 have e:s.data.toList.take (k+1)=s.data.toList.take k++[s[k]]:=by
  rw[List.take_succ_eq_append_getElem (by simpa using h)];rfl
 rw[e,List.all_append,A];simp[B]
theorem QdJ{s:ByteArray}{k:Nat}(h:k<s.size)(B:zaq s[k]=false):s.data.toList.all zaq=false:=by
 rw[Bool.eq_false_iff];intro A;rw[List.all_eq_true]at A;have:=A s[k] (by
  have:s.data.toList[k]'(by simpa using h)=s[k]:=rfl;rw[<-this];exact List.getElem_mem _)
 rw[B]at this;cases this
theorem zaw(s:ByteArray):qt s.data.toList=(decide (0<s.size)&&decide (s.size<=20)&&(match s.data.toList with|[]=>false|c::_=>!qW c)&&s.data.toList.all zaq):=by
 have hs:s.data.toList.length=s.size:=by simp
 unfold qt;cases h:s.data.toList with
 |nil=>rw[h]at hs;simp at hs;simp[<-hs]
 |cons c r =>
  rw[h]at hs;have A:0<s.size:=by rw[<-hs];simp
  rw[hs];have e:zaq=fun c=>zap c||qW c:=rfl
  simp[A,e]
theorem Qbm{s:ByteArray}(h:0<s.size):(match s.data.toList with|[]=>false|c::_=>!qW c)=!qW s[0]:=by
 have e:s.data.toList[0]'(by simpa using h)=s[0]:=rfl;cases B:s.data.toList with
 |nil =>
  have:s.data.toList.length=s.size:=by simp
  rw[B]at this;simp at this;omega
 |cons c r =>
  have A:=List.getElem_of_eq B (i:=0) (by simpa using h);rw[e]at A;rw[A];rfl
structure qdP (s:ByteArray) (at' i:Nat):Prop where
 le:at'<=i
 hi:i<=s.size
 pre:∀j (h:j<s.size),at'<=j->j<i->s[j]=91
 stop:∀(h:i<s.size),s[i]≠91
theorem QbG(s:ByteArray)(a:Nat)(B:a<=s.size):qdP s a (a+Qu (s.data.toList.drop a)):=by
 have A:=zbF (s.data.toList.drop a);simp only[List.length_drop,QB]at A;refine⟨by omega,by omega,fun j h C D=>?_,fun h e=>?_⟩
 ·have:=qdo (l:=s.data.toList.drop a) (k:=j-a) (by omega);rw[ZbT,show a+(j-a)=j by omega,qbw h]at this;simpa using this
 ·have:=zc2 (s.data.toList.drop a);rw[ZbT,qbw h]at this;exact this (by rw[e])
theorem qa9{s:ByteArray}{i:Nat}{h:i<s.size}{c:UInt8}{n:Int}(e:s[i]'h=c)(A:(c.toNat:Int)=n):(((s[i]'h).toNat:Int)==n)=true:=by
 rw[e,A];simp
theorem Zap{s:ByteArray}{i:Nat}{h:i<s.size}{c:UInt8}{n:Int}(e:s[i]'h≠c)(A:(c.toNat:Int)=n):(((s[i]'h).toNat:Int)==n)=false:=by
 rw[beq_eq_false_iff_ne,<-A];intro B;exact e (UInt8.toNat_inj.1 (by omega))
theorem zba{s:ByteArray}{i:Nat}{h:i<s.size}{c:UInt8}{n:Int}(e:s[i]'h≠c)(A:(c.toNat:Int)=n):(((s[i]'h).toNat:Int) != n)=true:=by
 rw[bne,Zap e A];rfl
theorem Qbv{s:ByteArray}{i:Nat}{h:i<s.size}{c:UInt8}{n:Int}(e:s[i]'h=c)(A:(c.toNat:Int)=n):(((s[i]'h).toNat:Int) != n)=false:=by
 rw[bne,qa9 e A];rfl
theorem zdr(s:ByteArray)(i:Nat)(h:i<s.size):ZT (s.data.toList.drop i) =
 if s[i]=73\/s[i]=74 then 1 else if s[i]=76 then (if i+1+zw (s.data.toList.drop (i+1))<s.size/\qt ((s.extract (i+1) (i+1+zw (s.data.toList.drop (i+1)))).data.toList)=true then zw (s.data.toList.drop (i+1))+2 else 0) else 0:=by
 have e:s.data.toList.drop i=s[i]::s.data.toList.drop (i+1):=by
  rw[List.drop_eq_getElem_cons (by simpa using h)];rfl
 have A:(s.data.toList.drop (i+1)).length=s.size-(i+1):=by simp
 have B:(s.extract (i+1) (i+1+zw (s.data.toList.drop (i+1)))).data.toList=(s.data.toList.drop (i+1)).take (zw (s.data.toList.drop (i+1))):=by
  rw[Lib.extract_data];congr 1;omega
 rw[B,e];unfold ZT;simp only[A];have:(zw (s.data.toList.drop (i+1))<s.size-(i+1))↔(i+1+zw (s.data.toList.drop (i+1))<s.size):=by omega
 simp only[this]
theorem qcR(s:ByteArray)(i:Nat)(h:s.size<=i):ZT (s.data.toList.drop i)=0:=by
 rw[List.drop_of_length_le (by simpa using h)];rfl
def zad(s:ByteArray)(a:Nat):Int:=if ZA (s.data.toList.drop a)=0 then 0 else (a:Int)+ZA (s.data.toList.drop a)
theorem Qdh(s:ByteArray)(a i:Nat)(A:i=a+Qu (s.data.toList.drop a)):
 zad s a=if i-a<=3/\0<ZT (s.data.toList.drop i) then (i:Int)+ZT (s.data.toList.drop i) else 0:=by
 unfold zad ZA;have e:(s.data.toList.drop a).drop (Qu (s.data.toList.drop a))=s.data.toList.drop i:=by rw[List.drop_drop,A]
 rw[e];have B:Qu (s.data.toList.drop a)=i-a:=by omega
 rw[B];by_cases h:i-a<=3/\0<ZT (s.data.toList.drop i)
 ·rw[if_pos h,if_pos h,if_neg (by omega)];omega
 ·rw[if_neg h,if_neg h,if_pos rfl]
structure QdP (s:ByteArray) (b e:Nat):Prop where
 lo:b<=e
 hi:e<=s.size
 pre:∀j (h:j<s.size),b<=j->j<e->s[j]≠59
 stop:∀(h:e<s.size),s[e]=59
theorem zdK(s:ByteArray)(b:Nat)(B:b<=s.size):QdP s b (b+zw (s.data.toList.drop b)):=by
 have A:=ZdP (s.data.toList.drop b);simp only[List.length_drop,QB]at A;refine⟨by omega,by omega,fun j h C D e=>?_,fun h=>?_⟩
 ·have:=Qcj (l:=s.data.toList.drop b) (k:=j-b) (by omega);rw[ZbT,show b+(j-b)=j by omega,qbw h]at this;exact this (by rw[e])
 ·have:=Qdo (l:=s.data.toList.drop b) (by simp;omega);rw[ZbT,qbw h]at this;simpa using this
theorem Zav{a b:Int}(h:a=b):Ending.returned (.int .i64 a)=Ending.returned (.int .i64 b):=by rw[h]
theorem zav{s:ByteArray}{a b:Nat}(h:s.size<=maxLen):(s.extract a b).size<=maxLen:=by
 have:(s.extract a b).size<=s.size:=by simp;omega
 omega
end Go.Proofs.YtlmfmioljeppfaaGreatDoor
