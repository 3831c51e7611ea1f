/- Lemmas; conditions: as each states. -/
import Derived.Test.YtmclocdhcblbiaaGreatDoorTypeLaw
import Derived.Test.YtmclocdhcblbiaaGreatDoorShelf
import Derived.WalkSpells
import Derived.WalkLawsBesides
import Derived.Lib.Hide
import Derived.Shelf.Strings.SlTrimAscii
import Derived.Deep.QuietTactic
import Derived.BigQuiet
import Derived.WalkSmall
set_option maxHeartbeats 4000000
namespace Go.Proofs.YtmclocdhcblbiaaGreatDoor
theorem qbZ(l:List UInt8):zq l<=l.length:=by
 induction l with
 |nil=>simp[zq]
 |cons c r A=>unfold zq;split<;>simp<;>omega
theorem qdH{l:List UInt8}:∀{k:Nat},k<zq l->l[k]? = some 91:=by
 induction l with
 |nil=>intro k h;simp[zq]at h
 |cons c r A =>
  intro k h;unfold zq at h;split at h
  ·cases k with
   |zero=>simp[*]
   |succ k=>simpa using A (by omega)
  ·omega
theorem zdk(l:List UInt8):l[zq l]?≠some 91:=by
 induction l with
 |nil=>simp[zq]
 |cons c r A =>
  unfold zq;split
  ·simpa using A
  ·simpa using ‹_›
theorem zef(l:List UInt8):Zn l<=l.length:=by
 induction l with
 |nil=>simp[Zn]
 |cons c r A=>unfold Zn;split<;>simp<;>omega
theorem QdH{l:List UInt8}(h:Zn l<l.length):l[Zn l]? = some 59:=by
 induction l with
 |nil=>simp[Zn]at h
 |cons c r B =>
  unfold Zn at h ⊢;split
  ·simp[*]
  ·rename_i A;rw[if_neg A]at h;simpa using B (by simpa using h)
theorem ZcI{l:List UInt8}:∀{k:Nat},k<Zn l->l[k]?≠some 59:=by
 induction l with
 |nil=>intro k h;simp[Zn]at h
 |cons c r B =>
  intro k h;unfold Zn at h;split at h
  ·omega
  ·rename_i A;cases k with
   |zero=>simpa using A
   |succ k=>simpa using B (by omega)
theorem Zcg{s:ByteArray}{i:Nat}(h:i<s.size):s.data.toList[i]? = some s[i]:=by
 have e:s.data.toList[i]'(by simpa using h)=s[i]:=rfl;rw[<-e];simp
theorem qB(s:ByteArray):s.data.toList.length=s.size:=by simp
theorem qcg(l:List UInt8)(a k:Nat):(l.drop a)[k]? = l[a+k]?:=by simp
theorem QC{a b:Bool}(h:a=b):Ending.returned (.bool a)=Ending.returned (.bool b):=by rw[h]
theorem Zdk(c:UInt8):zZ c=true↔48<=(c.toNat:Int)/\(c.toNat:Int)<=57:=by
 unfold zZ;simp[UInt8.le_iff_toNat_le];omega
theorem zc5(c:UInt8):zaw c=true↔(97<=(c.toNat:Int)/\(c.toNat:Int)<=122)\/(65<=(c.toNat:Int)/\(c.toNat:Int)<=90)\/(c.toNat:Int)=95:=by
 unfold zaw;simp[UInt8.le_iff_toNat_le,<-UInt8.toNat_inj];omega
def ZaA(c:UInt8):Bool:=zaw c||zZ c
theorem qbA{s:ByteArray}{k:Nat}(h:k<s.size)(A:(s.data.toList.take k).all ZaA=true)(B:ZaA s[k]=true):(s.data.toList.take (k+1)).all ZaA=true:=by
 have e:s.data.toList.take (k+1)=s.data.toList.take k++[s[k]]:=by
  rw[List.take_succ_eq_append_getElem (by simpa using h)];rfl
 rw[e,List.all_append,A];simp[B]
theorem Zef{s:ByteArray}{k:Nat}(h:k<s.size)(B:ZaA s[k]=false):s.data.toList.all ZaA=false:=by
 rw[Bool.eq_false_iff];intro A;rw[List.all_eq_true]at A;have:=A s[k] (by
  have:s.data.toList[k]'(by simpa using h)=s[k]:=rfl;rw[<-this];exact List.getElem_mem _)
 rw[B]at this;cases this
theorem QaG(s:ByteArray):Zx s.data.toList=(decide (0<s.size)&&decide (s.size<=20)&&(match s.data.toList with|[]=>false|c::_=>!zZ c)&&s.data.toList.all ZaA):=by
 have A:s.data.toList.length=s.size:=by simp
 unfold Zx;cases h:s.data.toList with
 |nil=>rw[h]at A;simp at A;simp[<-A]
 |cons c r =>
  rw[h]at A;have B:0<s.size:=by rw[<-A];simp
  rw[A];have e:ZaA=fun c=>zaw c||zZ c:=rfl
  simp[B,e]
theorem qbF{s:ByteArray}(h:0<s.size):(match s.data.toList with|[]=>false|c::_=>!zZ c)=!zZ s[0]:=by
 have e:s.data.toList[0]'(by simpa using h)=s[0]:=rfl;cases B:s.data.toList with
 |nil =>
  have:s.data.toList.length=s.size:=by simp
  rw[B]at this;simp at this;omega
 |cons c r =>
  have A:=List.getElem_of_eq B (i:=0) (by simpa using h);rw[e]at A;rw[A];rfl
structure qef (s:ByteArray) (at' i:Nat):Prop where
 le:at'<=i
 hi:i<=s.size
 pre:∀j (h:j<s.size),at'<=j->j<i->s[j]=91
 stop:∀(h:i<s.size),s[i]≠91
theorem Qef(s:ByteArray)(a:Nat)(B:a<=s.size):qef s a (a+zq (s.data.toList.drop a)):=by
 have A:=qbZ (s.data.toList.drop a);simp only[List.length_drop,qB]at A;refine⟨by omega,by omega,fun j h C D=>?_,fun h e=>?_⟩
 ·have:=qdH (l:=s.data.toList.drop a) (k:=j-a) (by omega);rw[qcg,show a+(j-a)=j by omega,Zcg h]at this;simpa using this
 ·have:=zdk (s.data.toList.drop a);rw[qcg,Zcg h]at this;exact this (by rw[e])
theorem Qcg{s:ByteArray}{i:Nat}{h:i<s.size}{c:UInt8}{n:Int}(e:s[i]'h=c)(A:(c.toNat:Int)=n):(((s[i]'h).toNat:Int)==n)=true:=by
 rw[e,A];simp
theorem qaQ{s:ByteArray}{i:Nat}{h:i<s.size}{c:UInt8}{n:Int}(e:s[i]'h≠c)(A:(c.toNat:Int)=n):(((s[i]'h).toNat:Int)==n)=false:=by
 rw[beq_eq_false_iff_ne,<-A];intro B;exact e (UInt8.toNat_inj.1 (by omega))
theorem Qbt{s:ByteArray}{i:Nat}{h:i<s.size}{c:UInt8}{n:Int}(e:s[i]'h≠c)(A:(c.toNat:Int)=n):(((s[i]'h).toNat:Int) != n)=true:=by
 rw[bne,qaQ e A];rfl
theorem QbO{s:ByteArray}{i:Nat}{h:i<s.size}{c:UInt8}{n:Int}(e:s[i]'h=c)(A:(c.toNat:Int)=n):(((s[i]'h).toNat:Int) != n)=false:=by
 rw[bne,Qcg e A];rfl
theorem Zd6(s:ByteArray)(i:Nat)(h:i<s.size):QA (s.data.toList.drop i) =
 if s[i]=73\/s[i]=74 then 1 else if s[i]=76 then (if i+1+Zn (s.data.toList.drop (i+1))<s.size/\Zx ((s.extract (i+1) (i+1+Zn (s.data.toList.drop (i+1)))).data.toList)=true then Zn (s.data.toList.drop (i+1))+2 else 0) else 0:=by
 have e:s.data.toList.drop i=s[i]::s.data.toList.drop (i+1):=by
  rw[List.drop_eq_getElem_cons (by simpa using h)];rfl
 have A:(s.data.toList.drop (i+1)).length=s.size-(i+1):=by simp
 have B:(s.extract (i+1) (i+1+Zn (s.data.toList.drop (i+1)))).data.toList=(s.data.toList.drop (i+1)).take (Zn (s.data.toList.drop (i+1))):=by
  rw[Lib.extract_data];congr 1;omega
 rw[B,e];unfold QA;simp only[A];have:(Zn (s.data.toList.drop (i+1))<s.size-(i+1))↔(i+1+Zn (s.data.toList.drop (i+1))<s.size):=by omega
 simp only[this]
theorem qdk(s:ByteArray)(i:Nat)(h:s.size<=i):QA (s.data.toList.drop i)=0:=by
 rw[List.drop_of_length_le (by simpa using h)];rfl
def qah(s:ByteArray)(a:Nat):Int:=if Qn (s.data.toList.drop a)=0 then 0 else (a:Int)+Qn (s.data.toList.drop a)
theorem zdI(s:ByteArray)(a i:Nat)(A:i=a+zq (s.data.toList.drop a)):
 qah s a=if i-a<=3/\0<QA (s.data.toList.drop i) then (i:Int)+QA (s.data.toList.drop i) else 0:=by
 unfold qah Qn;have e:(s.data.toList.drop a).drop (zq (s.data.toList.drop a))=s.data.toList.drop i:=by rw[List.drop_drop,A]
 rw[e];have B:zq (s.data.toList.drop a)=i-a:=by omega
 rw[B];by_cases h:i-a<=3/\0<QA (s.data.toList.drop i)
 ·rw[if_pos h,if_pos h,if_neg (by omega)];omega
 ·rw[if_neg h,if_neg h,if_pos rfl]
structure zeg (s:ByteArray) (b e:Nat):Prop where
 lo:b<=e
 hi:e<=s.size
 pre:∀j (h:j<s.size),b<=j->j<e->s[j]≠59
 stop:∀(h:e<s.size),s[e]=59
theorem Zeg(s:ByteArray)(b:Nat)(B:b<=s.size):zeg s b (b+Zn (s.data.toList.drop b)):=by
 have A:=zef (s.data.toList.drop b);simp only[List.length_drop,qB]at A;refine⟨by omega,by omega,fun j h C D e=>?_,fun h=>?_⟩
 ·have:=ZcI (l:=s.data.toList.drop b) (k:=j-b) (by omega);rw[qcg,show b+(j-b)=j by omega,Zcg h]at this;exact this (by rw[e])
 ·have:=QdH (l:=s.data.toList.drop b) (by simp;omega);rw[qcg,Zcg h]at this;simpa using this
theorem QaK{a b:Int}(h:a=b):Ending.returned (.int .i64 a)=Ending.returned (.int .i64 b):=by rw[h]
theorem ZaF{s:ByteArray}{a b:Nat}(h:s.size<=maxLen):(s.extract a b).size<=maxLen:=by
 have:(s.extract a b).size<=s.size:=by simp;omega
 omega
open Go.RowKit Go.Shelf Go.Lib
def Qah:List UInt8:=[48,49,50,51,52,53,54,55,56,57]
def Zaw:List UInt8:=[97,98,99,100,101,102,103,104,105,106,107,108,109,110,111,112,113,114,115,116,117,118,119,120,121,122,65,66,67,68,69,70,71,72,73,74,75,76,77,78,79,80,81,82,83,84,85,86,87,88,89,90,95]
theorem QeG(p:UInt8->Bool)(h:(List.range 256).all (fun n=>p (UInt8.ofNat n))=true)(c:UInt8):p c=true:=by
 have:=List.all_eq_true.1 h c.toNat (List.mem_range.2 c.toNat_lt);simpa using this
theorem Qcn(c:UInt8):(Zaw++Qah).contains c=(zaw c||zZ c):=by
 have:=QeG (fun c=>(Zaw++Qah).contains c==(zaw c||zZ c)) (by decide +kernel) c;simpa using this
theorem ZaU{α:Type}{p:α->Bool}{l:List α}:l.dropWhile p=[]↔∀x∈l,p x=true:=by
 induction l with
 |nil=>simp
 |cons a l A=>cases h:p a<;>simp[List.dropWhile,h,A]
theorem qa3{α:Type}{p:α->Bool}{x:α}:∀{l:List α},x∈l.takeWhile p->p x=true
 |[],h=>by simp at h
 |a::l,h=>by
  cases A:p a with
  |false=>simp[A]at h
  |true =>
   simp[A]at h;rcases h with rfl|h
   ·exact A
   ·exact qa3 h
theorem qcI(l cs:List UInt8):Lib.trimS l cs=[]↔l.all (cs.contains ·)=true:=by
 unfold Lib.trimS Lib.trimLeftS Lib.trimRightS;constructor
 ·intro h;rw[List.all_eq_true];intro x C;rw[ZaU]at h;by_cases B:cs.contains x=true
  ·exact B
  ·exfalso;have E:=List.takeWhile_append_dropWhile (p:=(cs.contains ·)) (l:=l.reverse);have A:x∈l.reverse:=(by simpa using C);rw[<-E,List.mem_append]at A;rcases A with D|D
   ·have:=qa3 D;exact B this
   ·exact B (h x (by simpa using D))
 ·intro h;rw[List.all_eq_true]at h;rw[ZaU];intro x C;have:x∈l.reverse.dropWhile (cs.contains ·):=by simpa using C
  have:=(List.dropWhile_suffix (cs.contains ·)).subset this;exact h x (by simpa using this)
theorem QbZ(c:UInt8):(0<=Lib.indexByte Qah c)↔zZ c=true:=by
 have:=QeG (fun c=>decide (0<=Lib.indexByte Qah c)==zZ c) (by decide +kernel) c;rw[beq_iff_eq]at this;rw[<-this,decide_eq_true_eq]
theorem zco(s:ByteArray)(w:World)(A:s.size<=9223372036854775807):
 Calls Tryz.prog 95 #[.string s,.string ⟨#[97,98,99,100,101,102,103,104,105,106,107,108,109,110,111,112,113,114,115,116,117,118,119,120,121,122,65,66,67,68,69,70,71,72,73,74,75,76,77,78,79,80,81,82,83,84,85,86,87,88,89,90,95,48,49,50,51,52,53,54,55,56,57]⟩] w fun e w'=>e=.returned (.string ⟨(Lib.trimS s.data.toList (Zaw++Qah)).toArray⟩)/\Below w.heap.size w w' :=
 Any.strings_Trim_laid Tryz.lays160 (by kernel_rfl) s ⟨#[97,98,99,100,101,102,103,104,105,106,107,108,109,110,111,112,113,114,115,116,117,118,119,120,121,122,65,66,67,68,69,70,71,72,73,74,75,76,77,78,79,80,81,82,83,84,85,86,87,88,89,90,95,48,49,50,51,52,53,54,55,56,57]⟩ w A (by decide) (ascii_of_all (by decide))
theorem Zc5(c:UInt8)(w:World):
 Calls Tryz.prog 76 #[.string ⟨#[48,49,50,51,52,53,54,55,56,57]⟩,.int .u8 (c.toNat:Int)] w fun e w'=>e=.returned (.int .i64 (Lib.indexByte Qah c))/\w=w':=by
 refine(Tryz.strings_IndexByte ⟨#[48,49,50,51,52,53,54,55,56,57]⟩ (c.toNat:Int) w).mono ?_;rintro e w'⟨rfl,rfl⟩;refine⟨?_,rfl⟩;have:(c.toNat:Int).toNat.toUInt8=c:=by simp
 rw[this];rfl
def ZB(e:Nat):Value:=if e=0 then .nilIface else .iface 52 (.int .i64 e)
def Qr(s:ByteArray):Nat:=if Zx s.data.toList=true then 0 else 1
theorem qR(s:ByteArray):s.toList.isEmpty=decide (s.size=0):=by
 rw[ByteArray.toList_eq,Bool.eq_iff_iff,List.isEmpty_iff,<-List.length_eq_zero_iff];simp
theorem Zco(s:ByteArray)(w:World)(C:s.size<=9223372036854775807)(H:s.toList.isEmpty=false)(D:s.size<=20)(r:ByteArray)(B:r=⟨(Lib.trimS s.data.toList (Zaw++Qah)).toArray⟩)(E:r.toList.isEmpty=false):
 Calls Tryz.prog 57 #[.string s] w fun e w'=>e=.returned (ZB 1)/\Below w.heap.size w w':=by
 have A:=zco s w C;rw[<-B]at A;have F:=Xh A;clear A B;go_enter Tryz.func57,Tryz.ntmps57;go_wp2_with (go_fit F.out;rintro e w'⟨rfl,G⟩)
 go_ret;exact⟨rfl,G⟩
theorem Zbi(s:ByteArray)(w:World)(G:s.size<=9223372036854775807)(N:s.toList.isEmpty=false)(O:0<s.size)(H:s.size<=20)(r:ByteArray)(E:r=⟨(Lib.trimS s.data.toList (Zaw++Qah)).toArray⟩)(I:r.toList.isEmpty=true)(k:Nat)(P:k<=1)(n:Int)(B:Lib.indexByte Qah s[0]=n)(D:(k=1/\0<=n)\/(k=0/\n<0)):
 Calls Tryz.prog 57 #[.string s] w fun e w'=>e=.returned (ZB k)/\Below w.heap.size w w':=by
 have A:=zco s w G;rw[<-E]at A;have J:=Xh A;have F:∀C,Calls Tryz.prog 76 #[.string ⟨#[48,49,50,51,52,53,54,55,56,57]⟩,.int .u8 (s[0].toNat:Int)] C fun e w'=>e=.returned (.int .i64 n)/\C=w':=by
  intro C;have:=Zc5 s[0] C;rwa [B]at this
 have L:=Xh F;clear A E F B;rcases D with⟨rfl,B⟩|⟨rfl,B⟩;all_goals
  go_enter Tryz.func57,Tryz.ntmps57;go_wp2_with (first|(go_fit J.out;rintro e w'⟨rfl,M⟩)|(go_fit (L.out _);rintro e w'⟨rfl,rfl⟩))
  go_ret;exact⟨rfl,M⟩
theorem ZP(s:ByteArray)(w:World)(O:s.size<=maxLen):
 Calls Tryz.prog 57 #[.string s] w fun e w'=>e=.returned (ZB (Qr s))/\Below w.heap.size w w':=by
 unfold maxLen at O;have B:s.size<=9223372036854775807:=O;by_cases C:s.size=0
 ·have A:Qr s=1:=by unfold Qr;rw[QaG];simp[C]
  have I:s.toList.isEmpty=true:=by rw[qR];simp[C]
  rw[A];clear A C;go_enter Tryz.func57,Tryz.ntmps57;go_wp2_with fail;go_ret;exact⟨rfl,Xb⟩
 ·have I:s.toList.isEmpty=false:=by rw[qR];simp[C]
  by_cases R:20<s.size
  ·have A:Qr s=1:=(by unfold Qr;rw[QaG];simp;omega);rw[A];clear A C;go_enter Tryz.func57,Tryz.ntmps57;go_wp2_with fail;go_ret;exact⟨rfl,Xb⟩
  ·have J:0<s.size:=(by omega);have D:s.data.toList.all ZaA=s.data.toList.all ((Zaw++Qah).contains ·):=(by congr 1;funext c;exact(Qcn c).symm);have M:Zx s.data.toList=(!zZ s[0]&&s.data.toList.all ZaA):=by
    rw[QaG,qbF J,Xj J,Xj (show s.size<=20 by omega)];rfl
   have N:=qcI s.data.toList (Zaw++Qah);rw[<-D]at N;have P:=QbZ s[0];generalize L:(⟨(Lib.trimS s.data.toList (Zaw++Qah)).toArray⟩:ByteArray)=r;have E:r.toList=Lib.trimS s.data.toList (Zaw++Qah):=(by rw[<-L,ByteArray.toList_mk]);cases G:s.data.toList.all ZaA with
   |false =>
    have A:Qr s=1:=(by unfold Qr;rw[M,G];simp);rw[A];refine Zco s w B I (by omega) r L.symm ?_;rw[E,List.isEmpty_eq_false_iff];intro h;rw[N.1 h]at G;cases G
   |true =>
    have F:r.toList.isEmpty=true:=(by rw[E,N.2 G];rfl);cases H:zZ s[0] with
    |true =>
     have A:Qr s=1:=(by unfold Qr;rw[M,H];simp);rw[A];exact Zbi s w B I J (by omega) r L.symm F 1 (by omega) _ rfl (Or.inl ⟨rfl,P.2 H⟩)
    |false =>
     have A:Qr s=0:=(by unfold Qr;rw[M,H,G];simp);rw[A];refine Zbi s w B I J (by omega) r L.symm F 0 (by omega) _ rfl (Or.inr ⟨rfl,?_⟩);have:¬0<=Lib.indexByte Qah s[0]:=fun h=>by rw[P.1 h]at H;cases H
     omega
theorem QcI(l:List UInt8):Lib.trimLeftB l 91=l.drop (zq l):=by
 unfold Lib.trimLeftB;induction l with
 |nil=>rfl
 |cons c r A =>
  unfold zq;by_cases h:c=91
  ·subst h;simpa using A
  ·rw[if_neg h];simp[h]
theorem zbP(s:ByteArray)(w:World):Calls Tryz.prog 75 #[.string s,.string ⟨#[91]⟩] w fun e w'=>e=.returned (.string (s.extract (zq s.data.toList) s.size))/\w=w':=by
 refine(Tryz.strings_TrimLeft_one s 91 (by decide) w).mono ?_;rintro e w'⟨rfl,rfl⟩;refine⟨?_,rfl⟩;rw[QcI];congr 2;have:=Lib.extract_to_end s (zq s.data.toList);rw[<-this]
def QaQ(s r:ByteArray):Prop:=∀w,Calls Tryz.prog 75 #[.string s,.string ⟨#[91]⟩] w fun e w'=>e=.returned (.string r)/\w=w'
theorem QaQ.at{s r:ByteArray}(h:QaQ s r)(w:World):Calls Tryz.prog 75 #[.string s,.string ⟨#[91]⟩] w fun e w'=>e=.returned (.string r)/\w=w':=h w
def zb0(t:ByteArray)(n:Int):Prop:=∀w,Calls Tryz.prog 76 #[.string t,.int .u8 59] w fun e w'=>e=.returned (.int .i64 n)/\w=w'
theorem zb0.at{t:ByteArray}{n:Int}(h:zb0 t n)(w:World):Calls Tryz.prog 76 #[.string t,.int .u8 59] w fun e w'=>e=.returned (.int .i64 n)/\w=w':=h w
def Zbc(s:ByteArray):Value:=.tuple #[.string .empty,.string s,.bool false]
def Qdk(s:ByteArray)(n:Nat):Value:=.tuple #[.string (s.extract 0 n),.string (s.extract n s.size),.bool true]
def Qbl(t:ByteArray)(k:Nat):Prop:=∀w,Calls Tryz.prog 57 #[.string t] w fun e w'=>e=.returned (ZB k)/\Below w.heap.size w w'
theorem Qbl.bad{t:ByteArray}(h:Qbl t 1)(w:World):Calls Tryz.prog 57 #[.string t] w fun e w'=>e=.returned (.iface 52 (.int .i64 1))/\Below w.heap.size w w':=h w
theorem Qbl.good{t:ByteArray}(h:Qbl t 0)(w:World):Calls Tryz.prog 57 #[.string t] w fun e w'=>e=.returned .nilIface/\Below w.heap.size w w':=h w
theorem zeH(s r:ByteArray)(B:s.size<=9223372036854775807)(h:3<(s.size:Int)-r.size)(w:World)(_h1:r.size<=s.size)(A:QaQ s r):
 Calls Tryz.prog 47 #[.string s] w fun e w'=>e=.returned (Zbc s)/\Below w.heap.size w w':=by
 go_enter Tryz.func47,Tryz.ntmps47;go_wp2_with (first|(go_fit (A.at _);rintro e w'⟨rfl,rfl⟩))
 go_ret3;exact⟨rfl,Xb⟩
theorem qeg(s r t:ByteArray)(_hs:s.size<=9223372036854775807)(h:(s.size:Int)-r.size<=3)(B:s.extract (s.size-r.size) s.size=t)(C:t.toList.isEmpty=true)(w:World)(D:r.size<=s.size)(A:QaQ s r):
 Calls Tryz.prog 47 #[.string s] w fun e w'=>e=.returned (Zbc s)/\Below w.heap.size w w':=by
 go_enter Tryz.func47,Tryz.ntmps47;go_wp2_with (first|(go_fit (A.at _);rintro e w'⟨rfl,rfl⟩))
 go_ret3;exact⟨rfl,Xb⟩
theorem Qeg(s r t:ByteArray)(_hs:s.size<=9223372036854775807)(h:(s.size:Int)-r.size<=3)(B:s.extract (s.size-r.size) s.size=t)(C:t.toList.isEmpty=false)(D:0<t.size)(E:((t[0].toNat:Int)==73)=false)(F:((t[0].toNat:Int)==74)=false)(G:((t[0].toNat:Int)==76)=false)(w:World)(H:r.size<=s.size)(A:QaQ s r):
 Calls Tryz.prog 47 #[.string s] w fun e w'=>e=.returned (Zbc s)/\Below w.heap.size w w':=by
 go_enter Tryz.func47,Tryz.ntmps47;go_wp2_with (first|(go_fit (A.at _);rintro e w'⟨rfl,rfl⟩))
 go_ret3;exact⟨rfl,Xb⟩
theorem zfm(s r t:ByteArray)(_hs:s.size<=9223372036854775807)(h:(s.size:Int)-r.size<=3)(G:s.extract (s.size-r.size) s.size=t)(H:t.toList.isEmpty=false)(I:0<t.size)(J:((t[0].toNat:Int)==73)=true)(_c2:((t[0].toNat:Int)==74)=false)(_c3:((t[0].toNat:Int)==76)=false)(A:1<=r.size)(w:World)(L:r.size<=s.size)(B:QaQ s r):
 Calls Tryz.prog 47 #[.string s] w fun e w'=>e=.returned (Qdk s (s.size-r.size+1))/\Below w.heap.size w w':=by
 have C:IntKind.i64.wrap ((s.size:Int)-r.size+1)=(s.size:Int)-r.size+1:=IntWalk.i64_in _ (by omega);have D:0<=(s.size:Int)-r.size+1:=by omega
 have E:((s.size:Int)-r.size+1).toNat=s.size-r.size+1:=by omega
 have F:(s.size:Int)-r.size+1<=s.size:=by omega
 go_enter Tryz.func47,Tryz.ntmps47;go_wp2_with (first|(go_fit (B.at _);rintro e w'⟨rfl,rfl⟩))
 go_quiet (fail);clear C D E F;go_wp2_with fail;go_ret3;exact⟨rfl,below_drewN Xb _⟩
theorem Zfm(s r t:ByteArray)(_hs:s.size<=9223372036854775807)(h:(s.size:Int)-r.size<=3)(G:s.extract (s.size-r.size) s.size=t)(H:t.toList.isEmpty=false)(I:0<t.size)(J:((t[0].toNat:Int)==73)=false)(L:((t[0].toNat:Int)==74)=true)(_c3:((t[0].toNat:Int)==76)=false)(A:1<=r.size)(w:World)(M:r.size<=s.size)(B:QaQ s r):
 Calls Tryz.prog 47 #[.string s] w fun e w'=>e=.returned (Qdk s (s.size-r.size+1))/\Below w.heap.size w w':=by
 have C:IntKind.i64.wrap ((s.size:Int)-r.size+1)=(s.size:Int)-r.size+1:=IntWalk.i64_in _ (by omega);have D:0<=(s.size:Int)-r.size+1:=by omega
 have E:((s.size:Int)-r.size+1).toNat=s.size-r.size+1:=by omega
 have F:(s.size:Int)-r.size+1<=s.size:=by omega
 go_enter Tryz.func47,Tryz.ntmps47;go_wp2_with (first|(go_fit (B.at _);rintro e w'⟨rfl,rfl⟩))
 go_quiet (fail);clear C D E F;go_wp2_with fail;go_ret3;exact⟨rfl,below_drewN Xb _⟩
theorem Zfg(s r t:ByteArray)(_hs:s.size<=9223372036854775807)(h:(s.size:Int)-r.size<=3)(C:s.extract (s.size-r.size) s.size=t)(D:t.toList.isEmpty=false)(E:0<t.size)(F:((t[0].toNat:Int)==73)=false)(G:((t[0].toNat:Int)==74)=false)(H:((t[0].toNat:Int)==76)=true)(A:zb0 t (-1))(w:World)(I:r.size<=s.size)(B:QaQ s r):
 Calls Tryz.prog 47 #[.string s] w fun e w'=>e=.returned (Zbc s)/\Below w.heap.size w w':=by
 go_enter Tryz.func47,Tryz.ntmps47;go_wp2_with (first|(go_fit (B.at _);rintro e w'⟨rfl,rfl⟩)|(go_fit (A.at _);rintro e w'⟨rfl,rfl⟩))
 go_ret3;exact⟨rfl,Xb⟩
theorem qfg(s r t:ByteArray)(_hs:s.size<=9223372036854775807)(h:(s.size:Int)-r.size<=3)(H:s.extract (s.size-r.size) s.size=t)(I:t.toList.isEmpty=false)(J:0<t.size)(L:((t[0].toNat:Int)==73)=false)(M:((t[0].toNat:Int)==74)=false)(N:((t[0].toNat:Int)==76)=true)(m:Nat)(A:t.size<=9223372036854775807)(B:zb0 t m)(C:1<=m)(D:m<t.size)(E:Qbl (t.extract 1 m) 1)(w:World)(O:r.size<=s.size)(F:QaQ s r):
 Calls Tryz.prog 47 #[.string s] w fun e w'=>e=.returned (Zbc s)/\Below w.heap.size w w':=by
 go_enter Tryz.func47,Tryz.ntmps47;go_wp2_with (first|(go_fit (F.at _);rintro e w'⟨rfl,rfl⟩)|(go_fit (B.at _);rintro e w'⟨rfl,rfl⟩)|(go_fit (E.bad _);rintro e w'⟨rfl,G⟩))
 go_ret3;exact⟨rfl,G⟩
theorem Qfg(s r t:ByteArray)(N:s.size<=9223372036854775807)(h:(s.size:Int)-r.size<=3)(O:s.extract (s.size-r.size) s.size=t)(P:t.toList.isEmpty=false)(R:0<t.size)(S:((t[0].toNat:Int)==73)=false)(T:((t[0].toNat:Int)==74)=false)(U:((t[0].toNat:Int)==76)=true)(m:Nat)(A:t.size<=9223372036854775807)(B:m+1<=r.size)(C:zb0 t m)(D:1<=m)(E:m<t.size)(F:Qbl (t.extract 1 m) 0)(w:World)(V:r.size<=s.size)(G:QaQ s r):
 Calls Tryz.prog 47 #[.string s] w fun e w'=>e=.returned (Qdk s (s.size-r.size+(m+1)))/\Below w.heap.size w w':=by
 have H:IntKind.i64.wrap ((s.size:Int)-r.size+(m+1))=(s.size:Int)-r.size+(m+1):=IntWalk.i64_in _ (by omega);have I:0<=(s.size:Int)-r.size+(m+1):=by omega
 have J:((s.size:Int)-r.size+(m+1)).toNat=s.size-r.size+(m+1):=by omega
 have L:(s.size:Int)-r.size+(m+1)<=s.size:=by omega
 go_enter Tryz.func47,Tryz.ntmps47;go_wp2_with (first|(go_fit (G.at _);rintro e w'⟨rfl,rfl⟩)|(go_fit (C.at _);rintro e w'⟨rfl,rfl⟩)|(go_fit (F.good _);rintro e w'⟨rfl,M⟩))
 go_quiet (fail);clear H I J L;go_wp2_with fail;go_ret3;exact⟨rfl,below_drewN M _⟩
theorem qco(q:List UInt8):Lib.indexByte q 59=if Zn q<q.length then (Zn q:Int) else -1:=by
 induction q with
 |nil=>simp[Lib.indexByte]
 |cons c q D =>
  unfold Lib.indexByte Zn;by_cases h:c=59
  ·subst h;simp
  ·have B:(c==59)=false:=(by simpa using h);rw[B,if_neg h,D];simp only[List.length_cons];by_cases A:Zn q<q.length
   ·have C:((Zn q:Int)==-1)=false:=(by rw[beq_eq_false_iff_ne];omega);simp[A,C]
   ·simp[A]
theorem Zb0(t:ByteArray)(n:Int)(h:Lib.indexByte t.data.toList 59=n):zb0 t n:=by
 intro w;refine(Tryz.strings_IndexByte t 59 w).mono ?_;rintro e w'⟨rfl,rfl⟩;exact⟨by rw[<-h];rfl,rfl⟩
def ZeH(s:ByteArray):Value:=if Qn s.data.toList=0 then Zbc s else Qdk s (Qn s.data.toList)
theorem ze1(s:ByteArray)(d:Nat)(A:d=zq s.data.toList):ZeH s=if d<=3/\0<QA (s.data.toList.drop d) then Qdk s (d+QA (s.data.toList.drop d)) else Zbc s:=by
 unfold ZeH Qn;rw[<-A];by_cases h:d<=3/\0<QA (s.data.toList.drop d)
 ·rw[if_pos h,if_pos h,if_neg (by omega)]
 ·rw[if_neg h,if_neg h,if_pos rfl]
theorem qd6(s:ByteArray)(w:World)(j:s.size<=maxLen):
 Calls Tryz.prog 47 #[.string s] w fun e w'=>e=.returned (ZeH s)/\Below w.heap.size w w':=by
 have A:s.size<=9223372036854775807:=j;have a:=qbZ s.data.toList;simp only[qB]at a;have H:QaQ s (s.extract (zq s.data.toList) s.size):=fun w=>zbP s w
 have I:=ze1 s _ rfl;generalize p:zq s.data.toList=d at *;have b:(s.extract d s.size).size=s.size-d:=by simp
 have G:s.size-(s.extract d s.size).size=d:=by rw[b];omega
 have M:s.extract (s.size-(s.extract d s.size).size) s.size=s.extract d s.size:=by rw[G]
 have J:(s.extract d s.size).size<=s.size:=by omega
 by_cases c:d<=3
 ·have B:(s.size:Int)-(s.extract d s.size).size<=3:=by omega
  by_cases L:d<s.size
  ·have V:0<(s.extract d s.size).size:=(by omega);have C:(s.extract d s.size).toList.isEmpty=false:=(by rw[qR];simp;omega);have D:(s.extract d s.size)[0]=s[d]:=by
    have l:(s.extract d s.size).data.toList[0]'(by rw[qB];omega)=(s.extract d s.size)[0]:=rfl;have f:s.data.toList[d]'(by simp;omega)=s[d]:=rfl;rw[<-l,<-f];have n:(s.extract d s.size).data.toList=s.data.toList.drop d:=Lib.extract_to_end s d;rw[List.getElem_of_eq n];simp
   have E:=Zd6 s d L;by_cases N:s[d]=73
   ·have O:QA (s.data.toList.drop d)=1:=(by rw[E,if_pos (Or.inl N)]);rw[I,O,if_pos ⟨c,by omega⟩];have:=zfm s _ _ A B M C V (by rw[D,N];rfl) (by rw[D,N];rfl) (by rw[D,N];rfl) (by omega) w J H;rwa [G]at this
   by_cases P:s[d]=74
   ·have O:QA (s.data.toList.drop d)=1:=(by rw[E,if_pos (Or.inr P)]);rw[I,O,if_pos ⟨c,by omega⟩];have:=Zfm s _ _ A B M C V (by rw[D,P];rfl) (by rw[D,P];rfl) (by rw[D,P];rfl) (by omega) w J H;rwa [G]at this
   by_cases R:s[d]=76
   ·rw[if_neg (by simp[N,P]),if_pos R]at E;have o:(s.extract d s.size).data.toList=76::s.data.toList.drop (d+1):=by
     rw[Lib.extract_to_end,List.drop_eq_getElem_cons (by simpa using L)];have f:s.data.toList[d]'(by simp;omega)=s[d]:=rfl;rw[f,R]
    have g:(s.data.toList.drop (d+1)).length=s.size-(d+1):=(by simp);have F:Lib.indexByte (s.extract d s.size).data.toList 59=if Zn (s.data.toList.drop (d+1))<s.size-(d+1) then ((Zn (s.data.toList.drop (d+1))+1:Nat):Int) else -1:=by
     rw[o,qco];have e:Zn (76::s.data.toList.drop (d+1))=Zn (s.data.toList.drop (d+1))+1:=by
      conv=>lhs;unfold Zn
      rw[if_neg (by decide)]
     rw[e,List.length_cons,g];by_cases h:Zn (s.data.toList.drop (d+1))<s.size-(d+1)
     ·rw[if_pos (by omega),if_pos h]
     ·rw[if_neg (by omega),if_neg h]
    have S:(((s.extract d s.size)[0].toNat:Int)==73)=false:=(by rw[D,R];rfl);have T:(((s.extract d s.size)[0].toNat:Int)==74)=false:=(by rw[D,R];rfl);have U:(((s.extract d s.size)[0].toNat:Int)==76)=true:=(by rw[D,R];rfl);generalize q:Zn (s.data.toList.drop (d+1))=m at *;have k:(s.extract d s.size).extract 1 (m+1)=s.extract (d+1) (d+1+m):=by
     apply ByteArray.ext;apply Array.toList_inj.1;rw[Lib.extract_data,Lib.extract_to_end,Lib.extract_data,List.drop_drop];congr 1;omega
    have X:(s.extract (d+1) (d+1+m)).size<=maxLen:=ZaF j;by_cases Y:m<s.size-(d+1)
    ·rw[if_pos Y]at F;cases Z:Zx (s.extract (d+1) (d+1+m)).data.toList with
     |true =>
      rw[if_pos ⟨by omega,Z⟩]at E;rw[I,E,if_pos ⟨c,by omega⟩];have i:Qbl ((s.extract d s.size).extract 1 (m+1)) 0:=by
       intro w;rw[k];have:=ZP _ w X;unfold Qr at this;rwa [if_pos Z]at this
      have:=Qfg s _ _ A B M C V S T U (m+1) (by omega) (by omega) (Zb0 _ _ F) (by omega) (by omega) i w J H;rwa [G]at this
     |false =>
      rw[if_neg (by rw[Z];simp)]at E;rw[I,E,if_neg (by omega)];have i:Qbl ((s.extract d s.size).extract 1 (m+1)) 1:=by
       intro w;rw[k];have:=ZP _ w X;unfold Qr at this;rwa [if_neg (by rw[Z];simp)]at this
      exact qfg s _ _ A B M C V S T U (m+1) (by omega) (Zb0 _ _ F) (by omega) (by omega) i w J H
    ·rw[if_neg Y]at F;rw[if_neg (by omega)]at E;rw[I,E,if_neg (by omega)];exact Zfg s _ _ A B M C V S T U (Zb0 _ _ F) w J H
   ·rw[if_neg (by simp[N,P]),if_neg R]at E;rw[I,E,if_neg (by omega)];exact Qeg s _ _ A B M C V (qaQ (by rw[D];exact N) rfl) (qaQ (by rw[D];exact P) rfl) (qaQ (by rw[D];exact R) rfl) w J H
  ·rw[I,qdk s d (by omega),if_neg (by omega)];exact qeg s _ _ A B M (by rw[qR];simp;omega) w J H
 ·rw[I,if_neg (by omega)];exact zeH s _ A (by omega) w J H
end Go.Proofs.YtmclocdhcblbiaaGreatDoor
