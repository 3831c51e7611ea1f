/- Lemmas; conditions: as each states. -/
import Derived.Test.YtmclocdhcblbiaaGreatDoorZTypeLaw
import Derived.Test.YtmclocdhcblbiaaGreatDoorZShelf
import Derived.WalkSpells
import Derived.WalkLawsBesides
import Derived.Lib.Hide
import Derived.Shelf.Strings.SlTrimAscii
import Derived.Deep.QuietTactic
import Derived.BigQuiet
import Derived.WalkSmall
set_option maxHeartbeats 4000000
namespace Go.Proofs.YtmclocdhcblbiaaGreatDoor
theorem QcQ(l:List UInt8):Qv l<=l.length:=by
 induction l with
 |nil=>simp[Qv]
 |cons c r A=>unfold Qv;split<;>simp<;>omega
theorem zP(s:ByteArray):s.data.toList.length=s.size:=by simp
theorem QR{a b:Bool}(h:a=b):Ending.returned (.bool a)=Ending.returned (.bool b):=by rw[h]
def qdm(c:UInt8):Bool:=qbo c||zap c
theorem qbQ(s:ByteArray):zD s.data.toList=(decide (0<s.size)&&decide (s.size<=20)&&(match s.data.toList with|[]=>false|c::_=>!zap c)&&s.data.toList.all qdm):=by
 have A:s.data.toList.length=s.size:=by simp
 unfold zD;cases h:s.data.toList with
 |nil=>rw[h]at A;simp at A;simp[<-A]
 |cons c r =>
  rw[h]at A;have B:0<s.size:=by rw[<-A];simp
  rw[A];have e:qdm=fun c=>qbo c||zap c:=rfl
  simp[B,e]
theorem QdK{s:ByteArray}(h:0<s.size):(match s.data.toList with|[]=>false|c::_=>!zap c)=!zap s[0]:=by
 have e:s.data.toList[0]'(by simpa using h)=s[0]:=rfl;cases B:s.data.toList with
 |nil =>
  have:s.data.toList.length=s.size:=by simp
  rw[B]at this;simp at this;omega
 |cons c r =>
  have A:=List.getElem_of_eq B (i:=0) (by simpa using h);rw[e]at A;rw[A];rfl
theorem Zcp{s:ByteArray}{i:Nat}{h:i<s.size}{c:UInt8}{n:Int}(e:s[i]'h≠c)(A:(c.toNat:Int)=n):(((s[i]'h).toNat:Int)==n)=false:=by
 rw[beq_eq_false_iff_ne,<-A];intro B;exact e (UInt8.toNat_inj.1 (by omega))
theorem ze6(s:ByteArray)(i:Nat)(h:i<s.size):zJ (s.data.toList.drop i) =
 if s[i]=73\/s[i]=74 then 1 else if s[i]=76 then (if i+1+qr (s.data.toList.drop (i+1))<s.size/\zD ((s.extract (i+1) (i+1+qr (s.data.toList.drop (i+1)))).data.toList)=true then qr (s.data.toList.drop (i+1))+2 else 0) else 0:=by
 have e:s.data.toList.drop i=s[i]::s.data.toList.drop (i+1):=by
  rw[List.drop_eq_getElem_cons (by simpa using h)];rfl
 have A:(s.data.toList.drop (i+1)).length=s.size-(i+1):=by simp
 have B:(s.extract (i+1) (i+1+qr (s.data.toList.drop (i+1)))).data.toList=(s.data.toList.drop (i+1)).take (qr (s.data.toList.drop (i+1))):=by
  rw[Lib.extract_data];congr 1;omega
 rw[B,e];unfold zJ;simp only[A];have:(qr (s.data.toList.drop (i+1))<s.size-(i+1))↔(i+1+qr (s.data.toList.drop (i+1))<s.size):=by omega
 simp only[this]
theorem zeK(s:ByteArray)(i:Nat)(h:s.size<=i):zJ (s.data.toList.drop i)=0:=by
 rw[List.drop_of_length_le (by simpa using h)];rfl
theorem qcJ{s:ByteArray}{a b:Nat}(h:s.size<=maxLen):(s.extract a b).size<=maxLen:=by
 have:(s.extract a b).size<=s.size:=by simp;omega
 omega
open Go.RowKit Go.Shelf Go.Lib Tryz
def Zaj:List UInt8:=[48,49,50,51,52,53,54,55,56,57]
def Zaz:List UInt8:=[97,98,99,100,101,102,103,104,105,106,107,108,109,110,111,112,113,114,115,116,117,118,119,120,121,122,65,66,67,68,69,70,71,72,73,74,75,76,77,78,79,80,81,82,83,84,85,86,87,88,89,90,95]
theorem ZeK(p:UInt8->Bool)(h:(List.range 256).all (fun n=>p (UInt8.ofNat n))=true)(c:UInt8):p c=true:=by
 have:=List.all_eq_true.1 h c.toNat (List.mem_range.2 c.toNat_lt);simpa using this
theorem qcp(c:UInt8):(Zaz++Zaj).contains c=(qbo c||zap c):=by
 have:=ZeK (fun c=>(Zaz++Zaj).contains c==(qbo c||zap c)) (by decide +kernel) c;simpa using this
theorem qaY{α:Type}{p:α->Bool}{l:List α}:l.dropWhile p=[]↔∀x∈l,p x=true:=by
 induction l with
 |nil=>simp
 |cons a l A=>cases h:p a<;>simp[List.dropWhile,h,A]
theorem za8{α:Type}{p:α->Bool}{x:α}:∀{l:List α},x∈l.takeWhile p->p x=true
 |[],h=>by simp at h
 |a::l,h=>by
  cases A:p a with
  |false=>simp[A]at h
  |true =>
   simp[A]at h;rcases h with rfl|h
   ·exact A
   ·exact za8 h
theorem QcJ(l cs:List UInt8):Lib.trimS l cs=[]↔l.all (cs.contains ·)=true:=by
 unfold Lib.trimS Lib.trimLeftS Lib.trimRightS;constructor
 ·intro h;rw[List.all_eq_true];intro x C;rw[qaY]at h;by_cases B:cs.contains x=true
  ·exact B
  ·exfalso;have E:=List.takeWhile_append_dropWhile (p:=(cs.contains ·)) (l:=l.reverse);have A:x∈l.reverse:=(by simpa using C);rw[<-E,List.mem_append]at A;rcases A with D|D
   ·have:=za8 D;exact B this
   ·exact B (h x (by simpa using D))
 ·intro h;rw[List.all_eq_true]at h;rw[qaY];intro x C;have:x∈l.reverse.dropWhile (cs.contains ·):=by simpa using C
  have:=(List.dropWhile_suffix (cs.contains ·)).subset this;exact h x (by simpa using this)
theorem qb0(c:UInt8):(0<=Lib.indexByte Zaj c)↔zap c=true:=by
 have:=ZeK (fun c=>decide (0<=Lib.indexByte Zaj c)==zap c) (by decide +kernel) c;rw[beq_iff_eq]at this;rw[<-this,decide_eq_true_eq]
theorem Qcp(s:ByteArray)(w:World)(A:s.size<=9223372036854775807):
 Calls prog 95 #[.string s,.string ⟨#[97,98,99,100,101,102,103,104,105,106,107,108,109,110,111,112,113,114,115,116,117,118,119,120,121,122,65,66,67,68,69,70,71,72,73,74,75,76,77,78,79,80,81,82,83,84,85,86,87,88,89,90,95,48,49,50,51,52,53,54,55,56,57]⟩] w fun e w'=>e=.returned (.string ⟨(Lib.trimS s.data.toList (Zaz++Zaj)).toArray⟩)/\Below w.heap.size w w' :=
 Any.strings_Trim_laid Tryz.lays160 (by kernel_rfl) s ⟨#[97,98,99,100,101,102,103,104,105,106,107,108,109,110,111,112,113,114,115,116,117,118,119,120,121,122,65,66,67,68,69,70,71,72,73,74,75,76,77,78,79,80,81,82,83,84,85,86,87,88,89,90,95,48,49,50,51,52,53,54,55,56,57]⟩ w A (by decide) (ascii_of_all (by decide))
theorem qc7(c:UInt8)(w:World):
 Calls prog 76 #[.string ⟨#[48,49,50,51,52,53,54,55,56,57]⟩,.int .u8 (c.toNat:Int)] w fun e w'=>e=.returned (.int .i64 (Lib.indexByte Zaj c))/\w=w':=by
 refine(Tryz.strings_IndexByte ⟨#[48,49,50,51,52,53,54,55,56,57]⟩ (c.toNat:Int) w).mono ?_;rintro e w'⟨rfl,rfl⟩;refine⟨?_,rfl⟩;have:(c.toNat:Int).toNat.toUInt8=c:=by simp
 rw[this];rfl
def Qx(e:Nat):Value:=if e=0 then .nilIface else .iface 52 (.int .i64 e)
def Qr(s:ByteArray):Nat:=if zD s.data.toList=true then 0 else 1
theorem QZ(s:ByteArray):s.toList.isEmpty=decide (s.size=0):=by
 rw[ByteArray.toList_eq,Bool.eq_iff_iff,List.isEmpty_iff,<-List.length_eq_zero_iff];simp
theorem zcq(s:ByteArray)(w:World)(C:s.size<=9223372036854775807)(H:s.toList.isEmpty=false)(D:s.size<=20)(r:ByteArray)(B:r=⟨(Lib.trimS s.data.toList (Zaz++Zaj)).toArray⟩)(E:r.toList.isEmpty=false):
 Calls prog 57 #[.string s] w fun e w'=>e=.returned (Qx 1)/\Below w.heap.size w w':=by
 have A:=Qcp s w C;rw[<-B]at A;have F:=Xh A;clear A B;go_enter func57,ntmps57;go_wp2_with (go_fit F.out;rintro e w'⟨rfl,G⟩)
 go_ret;exact⟨rfl,G⟩
theorem zbl(s:ByteArray)(w:World)(G:s.size<=9223372036854775807)(N:s.toList.isEmpty=false)(O:0<s.size)(H:s.size<=20)(r:ByteArray)(E:r=⟨(Lib.trimS s.data.toList (Zaz++Zaj)).toArray⟩)(I:r.toList.isEmpty=true)(k:Nat)(P:k<=1)(n:Int)(B:Lib.indexByte Zaj s[0]=n)(D:(k=1/\0<=n)\/(k=0/\n<0)):
 Calls prog 57 #[.string s] w fun e w'=>e=.returned (Qx k)/\Below w.heap.size w w':=by
 have A:=Qcp s w G;rw[<-E]at A;have J:=Xh A;have F:∀C,Calls prog 76 #[.string ⟨#[48,49,50,51,52,53,54,55,56,57]⟩,.int .u8 (s[0].toNat:Int)] C fun e w'=>e=.returned (.int .i64 n)/\C=w':=by
  intro C;have:=qc7 s[0] C;rwa [B]at this
 have L:=Xh F;clear A E F B;rcases D with⟨rfl,B⟩|⟨rfl,B⟩;all_goals
  go_enter func57,ntmps57;go_wp2_with (first|(go_fit J.out;rintro e w'⟨rfl,M⟩)|(go_fit (L.out _);rintro e w'⟨rfl,rfl⟩))
  go_ret;exact⟨rfl,M⟩
theorem zR(s:ByteArray)(w:World)(O:s.size<=maxLen):
 Calls prog 57 #[.string s] w fun e w'=>e=.returned (Qx (Qr s))/\Below w.heap.size w w':=by
 unfold maxLen at O;have B:s.size<=9223372036854775807:=O;by_cases C:s.size=0
 ·have A:Qr s=1:=by unfold Qr;rw[qbQ];simp[C]
  have I:s.toList.isEmpty=true:=by rw[QZ];simp[C]
  rw[A];clear A C;go_enter func57,ntmps57;go_wp2_with fail;go_ret;exact⟨rfl,Xb⟩
 ·have I:s.toList.isEmpty=false:=by rw[QZ];simp[C]
  by_cases R:20<s.size
  ·have A:Qr s=1:=(by unfold Qr;rw[qbQ];simp;omega);rw[A];clear A C;go_enter func57,ntmps57;go_wp2_with fail;go_ret;exact⟨rfl,Xb⟩
  ·have J:0<s.size:=(by omega);have D:s.data.toList.all qdm=s.data.toList.all ((Zaz++Zaj).contains ·):=(by congr 1;funext c;exact(qcp c).symm);have M:zD s.data.toList=(!zap s[0]&&s.data.toList.all qdm):=by
    rw[qbQ,QdK J,Xj J,Xj (show s.size<=20 by omega)];rfl
   have N:=QcJ s.data.toList (Zaz++Zaj);rw[<-D]at N;have P:=qb0 s[0];generalize L:(⟨(Lib.trimS s.data.toList (Zaz++Zaj)).toArray⟩:ByteArray)=r;have E:r.toList=Lib.trimS s.data.toList (Zaz++Zaj):=(by rw[<-L,ByteArray.toList_mk]);cases G:s.data.toList.all qdm with
   |false =>
    have A:Qr s=1:=(by unfold Qr;rw[M,G];simp);rw[A];refine zcq s w B I (by omega) r L.symm ?_;rw[E,List.isEmpty_eq_false_iff];intro h;rw[N.1 h]at G;cases G
   |true =>
    have F:r.toList.isEmpty=true:=(by rw[E,N.2 G];rfl);cases H:zap s[0] with
    |true =>
     have A:Qr s=1:=(by unfold Qr;rw[M,H];simp);rw[A];exact zbl s w B I J (by omega) r L.symm F 1 (by omega) _ rfl (Or.inl ⟨rfl,P.2 H⟩)
    |false =>
     have A:Qr s=0:=(by unfold Qr;rw[M,H,G];simp);rw[A];refine zbl s w B I J (by omega) r L.symm F 0 (by omega) _ rfl (Or.inr ⟨rfl,?_⟩);have:¬0<=Lib.indexByte Zaj s[0]:=fun h=>by rw[P.1 h]at H;cases H
     omega
theorem zcK(l:List UInt8):Lib.trimLeftB l 91=l.drop (Qv l):=by
 unfold Lib.trimLeftB;induction l with
 |nil=>rfl
 |cons c r A =>
  unfold Qv;by_cases h:c=91
  ·subst h;simpa using A
  ·rw[if_neg h];simp[h]
theorem QbQ(s:ByteArray)(w:World):Calls prog 75 #[.string s,.string ⟨#[91]⟩] w fun e w'=>e=.returned (.string (s.extract (Qv s.data.toList) s.size))/\w=w':=by
 refine(Tryz.strings_TrimLeft_one s 91 (by decide) w).mono ?_;rintro e w'⟨rfl,rfl⟩;refine⟨?_,rfl⟩;rw[zcK];congr 2;have:=Lib.extract_to_end s (Qv s.data.toList);rw[<-this]
def QaU(s r:ByteArray):Prop:=∀w,Calls prog 75 #[.string s,.string ⟨#[91]⟩] w fun e w'=>e=.returned (.string r)/\w=w'
theorem QaU.at{s r:ByteArray}(h:QaU s r)(w:World):Calls prog 75 #[.string s,.string ⟨#[91]⟩] w fun e w'=>e=.returned (.string r)/\w=w':=h w
def Qb0(t:ByteArray)(n:Int):Prop:=∀w,Calls prog 76 #[.string t,.int .u8 59] w fun e w'=>e=.returned (.int .i64 n)/\w=w'
theorem Qb0.at{t:ByteArray}{n:Int}(h:Qb0 t n)(w:World):Calls prog 76 #[.string t,.int .u8 59] w fun e w'=>e=.returned (.int .i64 n)/\w=w':=h w
def qbf(s:ByteArray):Value:=.tuple #[.string .empty,.string s,.bool false]
def Qdm(s:ByteArray)(n:Nat):Value:=.tuple #[.string (s.extract 0 n),.string (s.extract n s.size),.bool true]
def Qbo(t:ByteArray)(k:Nat):Prop:=∀w,Calls prog 57 #[.string t] w fun e w'=>e=.returned (Qx k)/\Below w.heap.size w w'
theorem Qbo.bad{t:ByteArray}(h:Qbo t 1)(w:World):Calls prog 57 #[.string t] w fun e w'=>e=.returned (.iface 52 (.int .i64 1))/\Below w.heap.size w w':=h w
theorem Qbo.good{t:ByteArray}(h:Qbo t 0)(w:World):Calls prog 57 #[.string t] w fun e w'=>e=.returned .nilIface/\Below w.heap.size w w':=h w
theorem qeK(s r:ByteArray)(B:s.size<=9223372036854775807)(h:3<(s.size:Int)-r.size)(w:World)(_h1:r.size<=s.size)(A:QaU s r):
 Calls prog 47 #[.string s] w fun e w'=>e=.returned (qbf s)/\Below w.heap.size w w':=by
 go_enter func47,ntmps47;go_wp2_with (first|(go_fit (A.at _);rintro e w'⟨rfl,rfl⟩))
 go_ret3;exact⟨rfl,Xb⟩
theorem Qef(s r t:ByteArray)(_hs:s.size<=9223372036854775807)(h:(s.size:Int)-r.size<=3)(B:s.extract (s.size-r.size) s.size=t)(C:t.toList.isEmpty=true)(w:World)(D:r.size<=s.size)(A:QaU s r):
 Calls prog 47 #[.string s] w fun e w'=>e=.returned (qbf s)/\Below w.heap.size w w':=by
 go_enter func47,ntmps47;go_wp2_with (first|(go_fit (A.at _);rintro e w'⟨rfl,rfl⟩))
 go_ret3;exact⟨rfl,Xb⟩
theorem zeg(s r t:ByteArray)(_hs:s.size<=9223372036854775807)(h:(s.size:Int)-r.size<=3)(B:s.extract (s.size-r.size) s.size=t)(C:t.toList.isEmpty=false)(D:0<t.size)(E:((t[0].toNat:Int)==73)=false)(F:((t[0].toNat:Int)==74)=false)(G:((t[0].toNat:Int)==76)=false)(w:World)(H:r.size<=s.size)(A:QaU s r):
 Calls prog 47 #[.string s] w fun e w'=>e=.returned (qbf s)/\Below w.heap.size w w':=by
 go_enter func47,ntmps47;go_wp2_with (first|(go_fit (A.at _);rintro e w'⟨rfl,rfl⟩))
 go_ret3;exact⟨rfl,Xb⟩
theorem Qfr(s r t:ByteArray)(_hs:s.size<=9223372036854775807)(h:(s.size:Int)-r.size<=3)(G:s.extract (s.size-r.size) s.size=t)(H:t.toList.isEmpty=false)(I:0<t.size)(J:((t[0].toNat:Int)==73)=true)(_c2:((t[0].toNat:Int)==74)=false)(_c3:((t[0].toNat:Int)==76)=false)(A:1<=r.size)(w:World)(L:r.size<=s.size)(B:QaU s r):
 Calls prog 47 #[.string s] w fun e w'=>e=.returned (Qdm s (s.size-r.size+1))/\Below w.heap.size w w':=by
 have C:IntKind.i64.wrap ((s.size:Int)-r.size+1)=(s.size:Int)-r.size+1:=IntWalk.i64_in _ (by omega);have D:0<=(s.size:Int)-r.size+1:=by omega
 have E:((s.size:Int)-r.size+1).toNat=s.size-r.size+1:=by omega
 have F:(s.size:Int)-r.size+1<=s.size:=by omega
 go_enter func47,ntmps47;go_wp2_with (first|(go_fit (B.at _);rintro e w'⟨rfl,rfl⟩))
 go_quiet (fail);clear C D E F;go_wp2_with fail;go_ret3;exact⟨rfl,below_drewN Xb _⟩
theorem zfs(s r t:ByteArray)(_hs:s.size<=9223372036854775807)(h:(s.size:Int)-r.size<=3)(G:s.extract (s.size-r.size) s.size=t)(H:t.toList.isEmpty=false)(I:0<t.size)(J:((t[0].toNat:Int)==73)=false)(L:((t[0].toNat:Int)==74)=true)(_c3:((t[0].toNat:Int)==76)=false)(A:1<=r.size)(w:World)(M:r.size<=s.size)(B:QaU s r):
 Calls prog 47 #[.string s] w fun e w'=>e=.returned (Qdm s (s.size-r.size+1))/\Below w.heap.size w w':=by
 have C:IntKind.i64.wrap ((s.size:Int)-r.size+1)=(s.size:Int)-r.size+1:=IntWalk.i64_in _ (by omega);have D:0<=(s.size:Int)-r.size+1:=by omega
 have E:((s.size:Int)-r.size+1).toNat=s.size-r.size+1:=by omega
 have F:(s.size:Int)-r.size+1<=s.size:=by omega
 go_enter func47,ntmps47;go_wp2_with (first|(go_fit (B.at _);rintro e w'⟨rfl,rfl⟩))
 go_quiet (fail);clear C D E F;go_wp2_with fail;go_ret3;exact⟨rfl,below_drewN Xb _⟩
theorem qfm(s r t:ByteArray)(_hs:s.size<=9223372036854775807)(h:(s.size:Int)-r.size<=3)(C:s.extract (s.size-r.size) s.size=t)(D:t.toList.isEmpty=false)(E:0<t.size)(F:((t[0].toNat:Int)==73)=false)(G:((t[0].toNat:Int)==74)=false)(H:((t[0].toNat:Int)==76)=true)(A:Qb0 t (-1))(w:World)(I:r.size<=s.size)(B:QaU s r):
 Calls prog 47 #[.string s] w fun e w'=>e=.returned (qbf s)/\Below w.heap.size w w':=by
 go_enter func47,ntmps47;go_wp2_with (first|(go_fit (B.at _);rintro e w'⟨rfl,rfl⟩)|(go_fit (A.at _);rintro e w'⟨rfl,rfl⟩))
 go_ret3;exact⟨rfl,Xb⟩
theorem Qfm(s r t:ByteArray)(_hs:s.size<=9223372036854775807)(h:(s.size:Int)-r.size<=3)(H:s.extract (s.size-r.size) s.size=t)(I:t.toList.isEmpty=false)(J:0<t.size)(L:((t[0].toNat:Int)==73)=false)(M:((t[0].toNat:Int)==74)=false)(N:((t[0].toNat:Int)==76)=true)(m:Nat)(A:t.size<=9223372036854775807)(B:Qb0 t m)(C:1<=m)(D:m<t.size)(E:Qbo (t.extract 1 m) 1)(w:World)(O:r.size<=s.size)(F:QaU s r):
 Calls prog 47 #[.string s] w fun e w'=>e=.returned (qbf s)/\Below w.heap.size w w':=by
 go_enter func47,ntmps47;go_wp2_with (first|(go_fit (F.at _);rintro e w'⟨rfl,rfl⟩)|(go_fit (B.at _);rintro e w'⟨rfl,rfl⟩)|(go_fit (E.bad _);rintro e w'⟨rfl,G⟩))
 go_ret3;exact⟨rfl,G⟩
theorem zfn(s r t:ByteArray)(N:s.size<=9223372036854775807)(h:(s.size:Int)-r.size<=3)(O:s.extract (s.size-r.size) s.size=t)(P:t.toList.isEmpty=false)(R:0<t.size)(S:((t[0].toNat:Int)==73)=false)(T:((t[0].toNat:Int)==74)=false)(U:((t[0].toNat:Int)==76)=true)(m:Nat)(A:t.size<=9223372036854775807)(B:m+1<=r.size)(C:Qb0 t m)(D:1<=m)(E:m<t.size)(F:Qbo (t.extract 1 m) 0)(w:World)(V:r.size<=s.size)(G:QaU s r):
 Calls prog 47 #[.string s] w fun e w'=>e=.returned (Qdm s (s.size-r.size+(m+1)))/\Below w.heap.size w w':=by
 have H:IntKind.i64.wrap ((s.size:Int)-r.size+(m+1))=(s.size:Int)-r.size+(m+1):=IntWalk.i64_in _ (by omega);have I:0<=(s.size:Int)-r.size+(m+1):=by omega
 have J:((s.size:Int)-r.size+(m+1)).toNat=s.size-r.size+(m+1):=by omega
 have L:(s.size:Int)-r.size+(m+1)<=s.size:=by omega
 go_enter func47,ntmps47;go_wp2_with (first|(go_fit (G.at _);rintro e w'⟨rfl,rfl⟩)|(go_fit (C.at _);rintro e w'⟨rfl,rfl⟩)|(go_fit (F.good _);rintro e w'⟨rfl,M⟩))
 go_quiet (fail);clear H I J L;go_wp2_with fail;go_ret3;exact⟨rfl,below_drewN M _⟩
theorem Zcq(q:List UInt8):Lib.indexByte q 59=if qr q<q.length then (qr q:Int) else -1:=by
 induction q with
 |nil=>simp[Lib.indexByte]
 |cons c q D =>
  unfold Lib.indexByte qr;by_cases h:c=59
  ·subst h;simp
  ·have B:(c==59)=false:=(by simpa using h);rw[B,if_neg h,D];simp only[List.length_cons];by_cases A:qr q<q.length
   ·have C:((qr q:Int)==-1)=false:=(by rw[beq_eq_false_iff_ne];omega);simp[A,C]
   ·simp[A]
theorem zb1(t:ByteArray)(n:Int)(h:Lib.indexByte t.data.toList 59=n):Qb0 t n:=by
 intro w;refine(Tryz.strings_IndexByte t 59 w).mono ?_;rintro e w'⟨rfl,rfl⟩;exact⟨by rw[<-h];rfl,rfl⟩
def QeK(s:ByteArray):Value:=if zr s.data.toList=0 then qbf s else Qdm s (zr s.data.toList)
theorem Ze6(s:ByteArray)(d:Nat)(A:d=Qv s.data.toList):QeK s=if d<=3/\0<zJ (s.data.toList.drop d) then Qdm s (d+zJ (s.data.toList.drop d)) else qbf s:=by
 unfold QeK zr;rw[<-A];by_cases h:d<=3/\0<zJ (s.data.toList.drop d)
 ·rw[if_pos h,if_pos h,if_neg (by omega)]
 ·rw[if_neg h,if_neg h,if_pos rfl]
theorem qd7(s:ByteArray)(w:World)(j:s.size<=maxLen):
 Calls prog 47 #[.string s] w fun e w'=>e=.returned (QeK s)/\Below w.heap.size w w':=by
 have A:s.size<=9223372036854775807:=j;have a:=QcQ s.data.toList;simp only[zP]at a;have H:QaU s (s.extract (Qv s.data.toList) s.size):=fun w=>QbQ s w
 have I:=Ze6 s _ rfl;generalize p:Qv s.data.toList=d at *;have b:(s.extract d s.size).size=s.size-d:=by simp
 have G:s.size-(s.extract d s.size).size=d:=by rw[b];omega
 have M:s.extract (s.size-(s.extract d s.size).size) s.size=s.extract d s.size:=by rw[G]
 have J:(s.extract d s.size).size<=s.size:=by omega
 by_cases c:d<=3
 ·have B:(s.size:Int)-(s.extract d s.size).size<=3:=by omega
  by_cases L:d<s.size
  ·have V:0<(s.extract d s.size).size:=(by omega);have C:(s.extract d s.size).toList.isEmpty=false:=(by rw[QZ];simp;omega);have D:(s.extract d s.size)[0]=s[d]:=by
    have l:(s.extract d s.size).data.toList[0]'(by rw[zP];omega)=(s.extract d s.size)[0]:=rfl;have f:s.data.toList[d]'(by simp;omega)=s[d]:=rfl;rw[<-l,<-f];have n:(s.extract d s.size).data.toList=s.data.toList.drop d:=Lib.extract_to_end s d;rw[List.getElem_of_eq n];simp
   have E:=ze6 s d L;by_cases N:s[d]=73
   ·have O:zJ (s.data.toList.drop d)=1:=(by rw[E,if_pos (Or.inl N)]);rw[I,O,if_pos ⟨c,by omega⟩];have:=Qfr s _ _ A B M C V (by rw[D,N];rfl) (by rw[D,N];rfl) (by rw[D,N];rfl) (by omega) w J H;rwa [G]at this
   by_cases P:s[d]=74
   ·have O:zJ (s.data.toList.drop d)=1:=(by rw[E,if_pos (Or.inr P)]);rw[I,O,if_pos ⟨c,by omega⟩];have:=zfs s _ _ A B M C V (by rw[D,P];rfl) (by rw[D,P];rfl) (by rw[D,P];rfl) (by omega) w J H;rwa [G]at this
   by_cases R:s[d]=76
   ·rw[if_neg (by simp[N,P]),if_pos R]at E;have o:(s.extract d s.size).data.toList=76::s.data.toList.drop (d+1):=by
     rw[Lib.extract_to_end,List.drop_eq_getElem_cons (by simpa using L)];have f:s.data.toList[d]'(by simp;omega)=s[d]:=rfl;rw[f,R]
    have g:(s.data.toList.drop (d+1)).length=s.size-(d+1):=(by simp);have F:Lib.indexByte (s.extract d s.size).data.toList 59=if qr (s.data.toList.drop (d+1))<s.size-(d+1) then ((qr (s.data.toList.drop (d+1))+1:Nat):Int) else -1:=by
     rw[o,Zcq];have e:qr (76::s.data.toList.drop (d+1))=qr (s.data.toList.drop (d+1))+1:=by
      conv=>lhs;unfold qr
      rw[if_neg (by decide)]
     rw[e,List.length_cons,g];by_cases h:qr (s.data.toList.drop (d+1))<s.size-(d+1)
     ·rw[if_pos (by omega),if_pos h]
     ·rw[if_neg (by omega),if_neg h]
    have S:(((s.extract d s.size)[0].toNat:Int)==73)=false:=(by rw[D,R];rfl);have T:(((s.extract d s.size)[0].toNat:Int)==74)=false:=(by rw[D,R];rfl);have U:(((s.extract d s.size)[0].toNat:Int)==76)=true:=(by rw[D,R];rfl);generalize q:qr (s.data.toList.drop (d+1))=m at *;have k:(s.extract d s.size).extract 1 (m+1)=s.extract (d+1) (d+1+m):=by
     apply ByteArray.ext;apply Array.toList_inj.1;rw[Lib.extract_data,Lib.extract_to_end,Lib.extract_data,List.drop_drop];congr 1;omega
    have X:(s.extract (d+1) (d+1+m)).size<=maxLen:=qcJ j;by_cases Y:m<s.size-(d+1)
    ·rw[if_pos Y]at F;cases Z:zD (s.extract (d+1) (d+1+m)).data.toList with
     |true =>
      rw[if_pos ⟨by omega,Z⟩]at E;rw[I,E,if_pos ⟨c,by omega⟩];have i:Qbo ((s.extract d s.size).extract 1 (m+1)) 0:=by
       intro w;rw[k];have:=zR _ w X;unfold Qr at this;rwa [if_pos Z]at this
      have:=zfn s _ _ A B M C V S T U (m+1) (by omega) (by omega) (zb1 _ _ F) (by omega) (by omega) i w J H;rwa [G]at this
     |false =>
      rw[if_neg (by rw[Z];simp)]at E;rw[I,E,if_neg (by omega)];have i:Qbo ((s.extract d s.size).extract 1 (m+1)) 1:=by
       intro w;rw[k];have:=zR _ w X;unfold Qr at this;rwa [if_neg (by rw[Z];simp)]at this
      exact Qfm s _ _ A B M C V S T U (m+1) (by omega) (zb1 _ _ F) (by omega) (by omega) i w J H
    ·rw[if_neg Y]at F;rw[if_neg (by omega)]at E;rw[I,E,if_neg (by omega)];exact qfm s _ _ A B M C V S T U (zb1 _ _ F) w J H
   ·rw[if_neg (by simp[N,P]),if_neg R]at E;rw[I,E,if_neg (by omega)];exact zeg s _ _ A B M C V (Zcp (by rw[D];exact N) rfl) (Zcp (by rw[D];exact P) rfl) (Zcp (by rw[D];exact R) rfl) w J H
  ·rw[I,zeK s d (by omega),if_neg (by omega)];exact Qef s _ _ A B M (by rw[QZ];simp;omega) w J H
 ·rw[I,if_neg (by omega)];exact qeK s _ A (by omega) w J H
