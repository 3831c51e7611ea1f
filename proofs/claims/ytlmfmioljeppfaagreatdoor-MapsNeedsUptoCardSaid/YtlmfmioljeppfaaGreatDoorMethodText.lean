/- Lemmas; conditions: as each states. -/
import Derived.Test.YtlmfmioljeppfaaGreatDoorShelf
import Derived.Test.YtlmfmioljeppfaaGreatDoorTypeLaw
import Derived.Shelf.Strings.SlTrimAscii
import Derived.Deep.QuietTactic
import Derived.BigQuiet
import Derived.WalkSmall
set_option maxHeartbeats 4000000
namespace Go.Proofs.YtlmfmioljeppfaaGreatDoor
open Go.RowKit Go.Shelf Go.Lib
def qac:List UInt8:=[48,49,50,51,52,53,54,55,56,57]
def Qao:List UInt8:=[97,98,99,100,101,102,103,104,105,106,107,108,109,110,111,112,113,114,115,116,117,118,119,120,121,122,65,66,67,68,69,70,71,72,73,74,75,76,77,78,79,80,81,82,83,84,85,86,87,88,89,90,95]
theorem qdY(p:UInt8->Bool)(h:(List.range 256).all (fun n=>p (UInt8.ofNat n))=true)(c:UInt8):p c=true:=by
 have:=List.all_eq_true.1 h c.toNat (List.mem_range.2 c.toNat_lt);simpa using this
theorem zb9(c:UInt8):(Qao++qac).contains c=(zap c||qW c):=by
 have:=qdY (fun c=>(Qao++qac).contains c==(zap c||qW c)) (by decide +kernel) c;simpa using this
theorem qaG{α:Type}{p:α->Bool}{l:List α}:l.dropWhile p=[]↔∀x∈l,p x=true:=by
 induction l with
 |nil=>simp
 |cons a l A=>cases h:p a<;>simp[List.dropWhile,h,A]
theorem qaP{α:Type}{p:α->Bool}{x:α}:∀{l:List α},x∈l.takeWhile p->p x=true
 |[],h=>by simp at h
 |a::l,h=>by
  cases A:p a with
  |false=>simp[A]at h
  |true =>
   simp[A]at h;rcases h with rfl|h
   ·exact A
   ·exact qaP h
theorem zci(l cs:List UInt8):Lib.trimS l cs=[]↔l.all (cs.contains ·)=true:=by
 unfold Lib.trimS Lib.trimLeftS Lib.trimRightS;constructor
 ·intro h;rw[List.all_eq_true];intro x C;rw[qaG]at h;by_cases B:cs.contains x=true
  ·exact B
  ·exfalso;have hs:=List.takeWhile_append_dropWhile (p:=(cs.contains ·)) (l:=l.reverse);have A:x∈l.reverse:=(by simpa using C);rw[<-hs,List.mem_append]at A;rcases A with D|D
   ·have:=qaP D;exact B this
   ·exact B (h x (by simpa using D))
 ·intro h;rw[List.all_eq_true]at h;rw[qaG];intro x C;have:x∈l.reverse.dropWhile (cs.contains ·):=by simpa using C
  have:=(List.dropWhile_suffix (cs.contains ·)).subset this;exact h x (by simpa using this)
theorem ZbE(c:UInt8):(0<=Lib.indexByte qac c)↔qW c=true:=by
 have:=qdY (fun c=>decide (0<=Lib.indexByte qac c)==qW c) (by decide +kernel) c;rw[beq_iff_eq]at this;rw[<-this,decide_eq_true_eq]
theorem Zb9(s:ByteArray)(w:World)(hs:s.size<=9223372036854775807):
 Calls Tryz.prog 133 #[.string s,.string ⟨#[97,98,99,100,101,102,103,104,105,106,107,108,109,110,111,112,113,114,115,116,117,118,119,120,121,122,65,66,67,68,69,70,71,72,73,74,75,76,77,78,79,80,81,82,83,84,85,86,87,88,89,90,95,48,49,50,51,52,53,54,55,56,57]⟩] w fun e w'=>e=.returned (.string ⟨(Lib.trimS s.data.toList (Qao++qac)).toArray⟩)/\Below w.heap.size w w' :=
 Any.strings_Trim_laid Tryz.lays160 (by kernel_rfl) s ⟨#[97,98,99,100,101,102,103,104,105,106,107,108,109,110,111,112,113,114,115,116,117,118,119,120,121,122,65,66,67,68,69,70,71,72,73,74,75,76,77,78,79,80,81,82,83,84,85,86,87,88,89,90,95,48,49,50,51,52,53,54,55,56,57]⟩ w hs (by decide) (ascii_of_all (by decide))
theorem QcA(c:UInt8)(w:World):
 Calls Tryz.prog 134 #[.string ⟨#[48,49,50,51,52,53,54,55,56,57]⟩,.int .u8 (c.toNat:Int)] w fun e w'=>e=.returned (.int .i64 (Lib.indexByte qac c))/\w=w':=by
 refine(Tryz.strings_IndexByte ⟨#[48,49,50,51,52,53,54,55,56,57]⟩ (c.toNat:Int) w).mono ?_;rintro e w'⟨rfl,rfl⟩;refine⟨?_,rfl⟩;have:(c.toNat:Int).toNat.toUInt8=c:=by simp
 rw[this];rfl
def zE(e:Nat):Value:=if e=0 then .nilIface else .iface 29 (.int .i64 e)
def Qw(s:ByteArray):Nat:=if qt s.data.toList=true then 0 else 1
theorem ZD(s:ByteArray):s.toList.isEmpty=decide (s.size=0):=by
 rw[ByteArray.toList_eq,Bool.eq_iff_iff,List.isEmpty_iff,<-List.length_eq_zero_iff];simp
theorem qb9(s:ByteArray)(w:World)(hs:s.size<=9223372036854775807)(G:s.toList.isEmpty=false)(C:s.size<=20)(r:ByteArray)(B:r=⟨(Lib.trimS s.data.toList (Qao++qac)).toArray⟩)(D:r.toList.isEmpty=false):
 Calls Tryz.prog 97 #[.string s] w fun e w'=>e=.returned (zE 1)/\Below w.heap.size w w':=by
 have A:=Zb9 s w hs;rw[<-B]at A;have E:=Xh A;clear A B;go_enter Tryz.func97,Tryz.ntmps97;go_wp2_with (go_fit E.out;rintro e w'⟨rfl,F⟩)
 go_ret;exact⟨rfl,F⟩
theorem zaX(s:ByteArray)(w:World)(hs:s.size<=9223372036854775807)(M:s.toList.isEmpty=false)(N:0<s.size)(G:s.size<=20)(r:ByteArray)(E:r=⟨(Lib.trimS s.data.toList (Qao++qac)).toArray⟩)(H:r.toList.isEmpty=true)(k:Nat)(O:k<=1)(n:Int)(B:Lib.indexByte qac s[0]=n)(D:(k=1/\0<=n)\/(k=0/\n<0)):
 Calls Tryz.prog 97 #[.string s] w fun e w'=>e=.returned (zE k)/\Below w.heap.size w w':=by
 have A:=Zb9 s w hs;rw[<-E]at A;have I:=Xh A;have F:∀C,Calls Tryz.prog 134 #[.string ⟨#[48,49,50,51,52,53,54,55,56,57]⟩,.int .u8 (s[0].toNat:Int)] C fun e w'=>e=.returned (.int .i64 n)/\C=w':=by
  intro C;have:=QcA s[0] C;rwa [B]at this
 have J:=Xh F;clear A E F B;rcases D with⟨rfl,B⟩|⟨rfl,B⟩;all_goals
  go_enter Tryz.func97,Tryz.ntmps97;go_wp2_with (first|(go_fit I.out;rintro e w'⟨rfl,L⟩)|(go_fit (J.out _);rintro e w'⟨rfl,rfl⟩))
  go_ret;exact⟨rfl,L⟩
theorem ZR(s:ByteArray)(w:World)(hs:s.size<=maxLen):
 Calls Tryz.prog 97 #[.string s] w fun e w'=>e=.returned (zE (Qw s))/\Below w.heap.size w w':=by
 unfold maxLen at hs;have B:s.size<=9223372036854775807:=hs;by_cases C:s.size=0
 ·have A:Qw s=1:=by unfold Qw;rw[zaw];simp[C]
  have I:s.toList.isEmpty=true:=by rw[ZD];simp[C]
  rw[A];clear A C;go_enter Tryz.func97,Tryz.ntmps97;go_wp2_with fail;go_ret;exact⟨rfl,Xb⟩
 ·have I:s.toList.isEmpty=false:=by rw[ZD];simp[C]
  by_cases P:20<s.size
  ·have A:Qw s=1:=(by unfold Qw;rw[zaw];simp;omega);rw[A];clear A C;go_enter Tryz.func97,Tryz.ntmps97;go_wp2_with fail;go_ret;exact⟨rfl,Xb⟩
  ·have J:0<s.size:=(by omega);have D:s.data.toList.all zaq=s.data.toList.all ((Qao++qac).contains ·):=(by congr 1;funext c;exact(zb9 c).symm);have M:qt s.data.toList=(!qW s[0]&&s.data.toList.all zaq):=by
    rw[zaw,Qbm J,Xj J,Xj (show s.size<=20 by omega)];rfl
   have N:=zci s.data.toList (Qao++qac);rw[<-D]at N;have O:=ZbE s[0];generalize L:(⟨(Lib.trimS s.data.toList (Qao++qac)).toArray⟩:ByteArray)=r;have E:r.toList=Lib.trimS s.data.toList (Qao++qac):=(by rw[<-L,ByteArray.toList_mk]);cases G:s.data.toList.all zaq with
   |false =>
    have A:Qw s=1:=(by unfold Qw;rw[M,G];simp);rw[A];refine qb9 s w B I (by omega) r L.symm ?_;rw[E,List.isEmpty_eq_false_iff];intro h;rw[N.1 h]at G;cases G
   |true =>
    have F:r.toList.isEmpty=true:=(by rw[E,N.2 G];rfl);cases H:qW s[0] with
    |true =>
     have A:Qw s=1:=(by unfold Qw;rw[M,H];simp);rw[A];exact zaX s w B I J (by omega) r L.symm F 1 (by omega) _ rfl (Or.inl ⟨rfl,O.2 H⟩)
    |false =>
     have A:Qw s=0:=(by unfold Qw;rw[M,H,G];simp);rw[A];refine zaX s w B I J (by omega) r L.symm F 0 (by omega) _ rfl (Or.inr ⟨rfl,?_⟩);have:¬0<=Lib.indexByte qac s[0]:=fun h=>by rw[O.1 h]at H;cases H
     omega
theorem Zci(l:List UInt8):Lib.trimLeftB l 91=l.drop (Qu l):=by
 unfold Lib.trimLeftB;induction l with
 |nil=>rfl
 |cons c r A =>
  unfold Qu;by_cases h:c=91
  ·subst h;simpa using A
  ·rw[if_neg h];simp[h]
theorem Zbs(s:ByteArray)(w:World):Calls Tryz.prog 135 #[.string s,.string ⟨#[91]⟩] w fun e w'=>e=.returned (.string (s.extract (Qu s.data.toList) s.size))/\w=w':=by
 refine(Tryz.strings_TrimLeft_one s 91 (by decide) w).mono ?_;rintro e w'⟨rfl,rfl⟩;refine⟨?_,rfl⟩;rw[Zci];congr 2;have:=Lib.extract_to_end s (Qu s.data.toList);rw[<-this]
def QaE(s r:ByteArray):Prop:=∀w,Calls Tryz.prog 135 #[.string s,.string ⟨#[91]⟩] w fun e w'=>e=.returned (.string r)/\w=w'
theorem QaE.at{s r:ByteArray}(h:QaE s r)(w:World):Calls Tryz.prog 135 #[.string s,.string ⟨#[91]⟩] w fun e w'=>e=.returned (.string r)/\w=w':=h w
def qbE(t:ByteArray)(n:Int):Prop:=∀w,Calls Tryz.prog 134 #[.string t,.int .u8 59] w fun e w'=>e=.returned (.int .i64 n)/\w=w'
theorem qbE.at{t:ByteArray}{n:Int}(h:qbE t n)(w:World):Calls Tryz.prog 134 #[.string t,.int .u8 59] w fun e w'=>e=.returned (.int .i64 n)/\w=w':=h w
def zaU(s:ByteArray):Value:=.tuple #[.string .empty,.string s,.bool false]
def ZcR(s:ByteArray)(n:Nat):Value:=.tuple #[.string (s.extract 0 n),.string (s.extract n s.size),.bool true]
def Za3(t:ByteArray)(k:Nat):Prop:=∀w,Calls Tryz.prog 97 #[.string t] w fun e w'=>e=.returned (zE k)/\Below w.heap.size w w'
theorem Za3.bad{t:ByteArray}(h:Za3 t 1)(w:World):Calls Tryz.prog 97 #[.string t] w fun e w'=>e=.returned (.iface 29 (.int .i64 1))/\Below w.heap.size w w':=h w
theorem Za3.good{t:ByteArray}(h:Za3 t 0)(w:World):Calls Tryz.prog 97 #[.string t] w fun e w'=>e=.returned .nilIface/\Below w.heap.size w w':=h w
theorem QdY(s r:ByteArray)(hs:s.size<=9223372036854775807)(h:3<(s.size:Int)-r.size)(w:World)(_h1:r.size<=s.size)(A:QaE s r):
 Calls Tryz.prog 98 #[.string s] w fun e w'=>e=.returned (zaU s)/\Below w.heap.size w w':=by
 go_enter Tryz.func98,Tryz.ntmps98;go_wp2_with (first|(go_fit (A.at _);rintro e w'⟨rfl,rfl⟩))
 go_ret3;exact⟨rfl,Xb⟩
theorem QdD(s r t:ByteArray)(_hs:s.size<=9223372036854775807)(h:(s.size:Int)-r.size<=3)(B:s.extract (s.size-r.size) s.size=t)(C:t.toList.isEmpty=true)(w:World)(D:r.size<=s.size)(A:QaE s r):
 Calls Tryz.prog 98 #[.string s] w fun e w'=>e=.returned (zaU s)/\Below w.heap.size w w':=by
 go_enter Tryz.func98,Tryz.ntmps98;go_wp2_with (first|(go_fit (A.at _);rintro e w'⟨rfl,rfl⟩))
 go_ret3;exact⟨rfl,Xb⟩
theorem zdE(s r t:ByteArray)(_hs:s.size<=9223372036854775807)(h:(s.size:Int)-r.size<=3)(B:s.extract (s.size-r.size) s.size=t)(C:t.toList.isEmpty=false)(D:0<t.size)(E:((t[0].toNat:Int)==73)=false)(F:((t[0].toNat:Int)==74)=false)(G:((t[0].toNat:Int)==76)=false)(w:World)(H:r.size<=s.size)(A:QaE s r):
 Calls Tryz.prog 98 #[.string s] w fun e w'=>e=.returned (zaU s)/\Below w.heap.size w w':=by
 go_enter Tryz.func98,Tryz.ntmps98;go_wp2_with (first|(go_fit (A.at _);rintro e w'⟨rfl,rfl⟩))
 go_ret3;exact⟨rfl,Xb⟩
theorem Qet(s r t:ByteArray)(_hs:s.size<=9223372036854775807)(h:(s.size:Int)-r.size<=3)(G:s.extract (s.size-r.size) s.size=t)(H:t.toList.isEmpty=false)(I:0<t.size)(J:((t[0].toNat:Int)==73)=true)(_c2:((t[0].toNat:Int)==74)=false)(_c3:((t[0].toNat:Int)==76)=false)(A:1<=r.size)(w:World)(L:r.size<=s.size)(B:QaE s r):
 Calls Tryz.prog 98 #[.string s] w fun e w'=>e=.returned (ZcR s (s.size-r.size+1))/\Below w.heap.size w w':=by
 have C:IntKind.i64.wrap ((s.size:Int)-r.size+1)=(s.size:Int)-r.size+1:=IntWalk.i64_in _ (by omega);have D:0<=(s.size:Int)-r.size+1:=by omega
 have E:((s.size:Int)-r.size+1).toNat=s.size-r.size+1:=by omega
 have F:(s.size:Int)-r.size+1<=s.size:=by omega
 go_enter Tryz.func98,Tryz.ntmps98;go_wp2_with (first|(go_fit (B.at _);rintro e w'⟨rfl,rfl⟩))
 go_quiet (fail);clear C D E F;go_wp2_with fail;go_ret3;exact⟨rfl,below_drewN Xb _⟩
theorem zeu(s r t:ByteArray)(_hs:s.size<=9223372036854775807)(h:(s.size:Int)-r.size<=3)(G:s.extract (s.size-r.size) s.size=t)(H:t.toList.isEmpty=false)(I:0<t.size)(J:((t[0].toNat:Int)==73)=false)(L:((t[0].toNat:Int)==74)=true)(_c3:((t[0].toNat:Int)==76)=false)(A:1<=r.size)(w:World)(M:r.size<=s.size)(B:QaE s r):
 Calls Tryz.prog 98 #[.string s] w fun e w'=>e=.returned (ZcR s (s.size-r.size+1))/\Below w.heap.size w w':=by
 have C:IntKind.i64.wrap ((s.size:Int)-r.size+1)=(s.size:Int)-r.size+1:=IntWalk.i64_in _ (by omega);have D:0<=(s.size:Int)-r.size+1:=by omega
 have E:((s.size:Int)-r.size+1).toNat=s.size-r.size+1:=by omega
 have F:(s.size:Int)-r.size+1<=s.size:=by omega
 go_enter Tryz.func98,Tryz.ntmps98;go_wp2_with (first|(go_fit (B.at _);rintro e w'⟨rfl,rfl⟩))
 go_quiet (fail);clear C D E F;go_wp2_with fail;go_ret3;exact⟨rfl,below_drewN Xb _⟩
theorem zer(s r t:ByteArray)(_hs:s.size<=9223372036854775807)(h:(s.size:Int)-r.size<=3)(C:s.extract (s.size-r.size) s.size=t)(D:t.toList.isEmpty=false)(E:0<t.size)(F:((t[0].toNat:Int)==73)=false)(G:((t[0].toNat:Int)==74)=false)(H:((t[0].toNat:Int)==76)=true)(A:qbE t (-1))(w:World)(I:r.size<=s.size)(B:QaE s r):
 Calls Tryz.prog 98 #[.string s] w fun e w'=>e=.returned (zaU s)/\Below w.heap.size w w':=by
 go_enter Tryz.func98,Tryz.ntmps98;go_wp2_with (first|(go_fit (B.at _);rintro e w'⟨rfl,rfl⟩)|(go_fit (A.at _);rintro e w'⟨rfl,rfl⟩))
 go_ret3;exact⟨rfl,Xb⟩
theorem Zer(s r t:ByteArray)(_hs:s.size<=9223372036854775807)(h:(s.size:Int)-r.size<=3)(H:s.extract (s.size-r.size) s.size=t)(I:t.toList.isEmpty=false)(J:0<t.size)(L:((t[0].toNat:Int)==73)=false)(M:((t[0].toNat:Int)==74)=false)(N:((t[0].toNat:Int)==76)=true)(m:Nat)(A:t.size<=9223372036854775807)(B:qbE t m)(C:1<=m)(D:m<t.size)(E:Za3 (t.extract 1 m) 1)(w:World)(O:r.size<=s.size)(F:QaE s r):
 Calls Tryz.prog 98 #[.string s] w fun e w'=>e=.returned (zaU s)/\Below w.heap.size w w':=by
 go_enter Tryz.func98,Tryz.ntmps98;go_wp2_with (first|(go_fit (F.at _);rintro e w'⟨rfl,rfl⟩)|(go_fit (B.at _);rintro e w'⟨rfl,rfl⟩)|(go_fit (E.bad _);rintro e w'⟨rfl,G⟩))
 go_ret3;exact⟨rfl,G⟩
theorem qer(s r t:ByteArray)(hs:s.size<=9223372036854775807)(h:(s.size:Int)-r.size<=3)(N:s.extract (s.size-r.size) s.size=t)(O:t.toList.isEmpty=false)(P:0<t.size)(R:((t[0].toNat:Int)==73)=false)(S:((t[0].toNat:Int)==74)=false)(T:((t[0].toNat:Int)==76)=true)(m:Nat)(A:t.size<=9223372036854775807)(B:m+1<=r.size)(C:qbE t m)(D:1<=m)(E:m<t.size)(F:Za3 (t.extract 1 m) 0)(w:World)(U:r.size<=s.size)(G:QaE s r):
 Calls Tryz.prog 98 #[.string s] w fun e w'=>e=.returned (ZcR s (s.size-r.size+(m+1)))/\Below w.heap.size w w':=by
 have H:IntKind.i64.wrap ((s.size:Int)-r.size+(m+1))=(s.size:Int)-r.size+(m+1):=IntWalk.i64_in _ (by omega);have I:0<=(s.size:Int)-r.size+(m+1):=by omega
 have J:((s.size:Int)-r.size+(m+1)).toNat=s.size-r.size+(m+1):=by omega
 have L:(s.size:Int)-r.size+(m+1)<=s.size:=by omega
 go_enter Tryz.func98,Tryz.ntmps98;go_wp2_with (first|(go_fit (G.at _);rintro e w'⟨rfl,rfl⟩)|(go_fit (C.at _);rintro e w'⟨rfl,rfl⟩)|(go_fit (F.good _);rintro e w'⟨rfl,M⟩))
 go_quiet (fail);clear H I J L;go_wp2_with fail;go_ret3;exact⟨rfl,below_drewN M _⟩
theorem Qb9(q:List UInt8):Lib.indexByte q 59=if zw q<q.length then (zw q:Int) else -1:=by
 induction q with
 |nil=>simp[Lib.indexByte]
 |cons c q D =>
  unfold Lib.indexByte zw;by_cases h:c=59
  ·subst h;simp
  ·have B:(c==59)=false:=(by simpa using h);rw[B,if_neg h,D];simp only[List.length_cons];by_cases A:zw q<q.length
   ·have C:((zw q:Int)==-1)=false:=(by rw[beq_eq_false_iff_ne];omega);simp[A,C]
   ·simp[A]
theorem QbE(t:ByteArray)(n:Int)(h:Lib.indexByte t.data.toList 59=n):qbE t n:=by
 intro w;refine(Tryz.strings_IndexByte t 59 w).mono ?_;rintro e w'⟨rfl,rfl⟩;exact⟨by rw[<-h];rfl,rfl⟩
def zdZ(s:ByteArray):Value:=if ZA s.data.toList=0 then zaU s else ZcR s (ZA s.data.toList)
theorem Zef(s:ByteArray)(d:Nat)(A:d=Qu s.data.toList):zdZ s=if d<=3/\0<ZT (s.data.toList.drop d) then ZcR s (d+ZT (s.data.toList.drop d)) else zaU s:=by
 unfold zdZ ZA;rw[<-A];by_cases h:d<=3/\0<ZT (s.data.toList.drop d)
 ·rw[if_pos h,if_pos h,if_neg (by omega)]
 ·rw[if_neg h,if_neg h,if_pos rfl]
theorem Qdq(s:ByteArray)(w:World)(hs:s.size<=maxLen):
 Calls Tryz.prog 98 #[.string s] w fun e w'=>e=.returned (zdZ s)/\Below w.heap.size w w':=by
 have A:s.size<=9223372036854775807:=hs;have a:=zbF s.data.toList;simp only[QB]at a;have H:QaE s (s.extract (Qu s.data.toList) s.size):=fun w=>Zbs s w
 have I:=Zef s _ rfl;generalize o:Qu s.data.toList=d at *;have b:(s.extract d s.size).size=s.size-d:=by simp
 have G:s.size-(s.extract d s.size).size=d:=by rw[b];omega
 have M:s.extract (s.size-(s.extract d s.size).size) s.size=s.extract d s.size:=by rw[G]
 have J:(s.extract d s.size).size<=s.size:=by omega
 by_cases c:d<=3
 ·have B:(s.size:Int)-(s.extract d s.size).size<=3:=by omega
  by_cases L:d<s.size
  ·have V:0<(s.extract d s.size).size:=(by omega);have C:(s.extract d s.size).toList.isEmpty=false:=(by rw[ZD];simp;omega);have D:(s.extract d s.size)[0]=s[d]:=by
    have k:(s.extract d s.size).data.toList[0]'(by rw[QB];omega)=(s.extract d s.size)[0]:=rfl;have f:s.data.toList[d]'(by simp;omega)=s[d]:=rfl;rw[<-k,<-f];have l:(s.extract d s.size).data.toList=s.data.toList.drop d:=Lib.extract_to_end s d;rw[List.getElem_of_eq l];simp
   have E:=zdr s d L;by_cases N:s[d]=73
   ·have O:ZT (s.data.toList.drop d)=1:=(by rw[E,if_pos (Or.inl N)]);rw[I,O,if_pos ⟨c,by omega⟩];have:=Qet s _ _ A B M C V (by rw[D,N];rfl) (by rw[D,N];rfl) (by rw[D,N];rfl) (by omega) w J H;rwa [G]at this
   by_cases P:s[d]=74
   ·have O:ZT (s.data.toList.drop d)=1:=(by rw[E,if_pos (Or.inr P)]);rw[I,O,if_pos ⟨c,by omega⟩];have:=zeu s _ _ A B M C V (by rw[D,P];rfl) (by rw[D,P];rfl) (by rw[D,P];rfl) (by omega) w J H;rwa [G]at this
   by_cases R:s[d]=76
   ·rw[if_neg (by simp[N,P]),if_pos R]at E;have n:(s.extract d s.size).data.toList=76::s.data.toList.drop (d+1):=by
     rw[Lib.extract_to_end,List.drop_eq_getElem_cons (by simpa using L)];have f:s.data.toList[d]'(by simp;omega)=s[d]:=rfl;rw[f,R]
    have g:(s.data.toList.drop (d+1)).length=s.size-(d+1):=(by simp);have F:Lib.indexByte (s.extract d s.size).data.toList 59=if zw (s.data.toList.drop (d+1))<s.size-(d+1) then ((zw (s.data.toList.drop (d+1))+1:Nat):Int) else -1:=by
     rw[n,Qb9];have e:zw (76::s.data.toList.drop (d+1))=zw (s.data.toList.drop (d+1))+1:=by
      conv=>lhs;unfold zw
      rw[if_neg (by decide)]
     rw[e,List.length_cons,g];by_cases h:zw (s.data.toList.drop (d+1))<s.size-(d+1)
     ·rw[if_pos (by omega),if_pos h]
     ·rw[if_neg (by omega),if_neg h]
    have S:(((s.extract d s.size)[0].toNat:Int)==73)=false:=(by rw[D,R];rfl);have T:(((s.extract d s.size)[0].toNat:Int)==74)=false:=(by rw[D,R];rfl);have U:(((s.extract d s.size)[0].toNat:Int)==76)=true:=(by rw[D,R];rfl);generalize p:zw (s.data.toList.drop (d+1))=m at *;have j:(s.extract d s.size).extract 1 (m+1)=s.extract (d+1) (d+1+m):=by
     apply ByteArray.ext;apply Array.toList_inj.1;rw[Lib.extract_data,Lib.extract_to_end,Lib.extract_data,List.drop_drop];congr 1;omega
    have X:(s.extract (d+1) (d+1+m)).size<=maxLen:=zav hs;by_cases Y:m<s.size-(d+1)
    ·rw[if_pos Y]at F;cases Z:qt (s.extract (d+1) (d+1+m)).data.toList with
     |true =>
      rw[if_pos ⟨by omega,Z⟩]at E;rw[I,E,if_pos ⟨c,by omega⟩];have i:Za3 ((s.extract d s.size).extract 1 (m+1)) 0:=by
       intro w;rw[j];have:=ZR _ w X;unfold Qw at this;rwa [if_pos Z]at this
      have:=qer s _ _ A B M C V S T U (m+1) (by omega) (by omega) (QbE _ _ F) (by omega) (by omega) i w J H;rwa [G]at this
     |false =>
      rw[if_neg (by rw[Z];simp)]at E;rw[I,E,if_neg (by omega)];have i:Za3 ((s.extract d s.size).extract 1 (m+1)) 1:=by
       intro w;rw[j];have:=ZR _ w X;unfold Qw at this;rwa [if_neg (by rw[Z];simp)]at this
      exact Zer s _ _ A B M C V S T U (m+1) (by omega) (QbE _ _ F) (by omega) (by omega) i w J H
    ·rw[if_neg Y]at F;rw[if_neg (by omega)]at E;rw[I,E,if_neg (by omega)];exact zer s _ _ A B M C V S T U (QbE _ _ F) w J H
   ·rw[if_neg (by simp[N,P]),if_neg R]at E;rw[I,E,if_neg (by omega)];exact zdE s _ _ A B M C V (Zap (by rw[D];exact N) rfl) (Zap (by rw[D];exact P) rfl) (Zap (by rw[D];exact R) rfl) w J H
  ·rw[I,qcR s d (by omega),if_neg (by omega)];exact QdD s _ _ A B M (by rw[ZD];simp;omega) w J H
 ·rw[I,if_neg (by omega)];exact QdY s _ A (by omega) w J H
theorem zcx{s:ByteArray}(hs:s.size<=maxLen)(h:ZA s.data.toList=0)(w:World):
 Calls Tryz.prog 98 #[.string s] w fun e w'=>e=.returned (.tuple #[.string .empty,.string s,.bool false])/\Below w.heap.size w w':=by
 have:=Qdq s w hs;unfold zdZ at this;rwa [if_pos h]at this
theorem Zbo{s:ByteArray}{n:Nat}(hs:s.size<=maxLen)(h:ZA s.data.toList=n+1)(w:World):
 Calls Tryz.prog 98 #[.string s] w fun e w'=>e=.returned (.tuple #[.string (s.extract 0 (n+1)),.string (s.extract (n+1) s.size),.bool true])/\Below w.heap.size w w':=by
 have:=Qdq s w hs;unfold zdZ at this;rw[if_neg (by omega),h]at this;exact this
theorem Zdc(l:List UInt8):ZT l<=l.length:=by
 unfold ZT;cases l with
 |nil=>simp
 |cons c q =>
  simp only[List.length_cons];split
  ·omega
  ·split
   ·split
    ·rename_i h;omega
    ·omega
   ·omega
theorem qaq(l:List UInt8):ZA l<=l.length:=by
 unfold ZA;split
 ·have:=Zdc (l.drop (Qu l));simp at this;have:=zbF l;omega
 ·omega
def Q2(s:ByteArray):Nat:=if Zs s.data.toList=true then 0 else 1
theorem ZbF(s:ByteArray):Zs s.data.toList=true↔0<s.size/\ZA s.data.toList=s.size:=by
 have:=QB s;unfold Zs;cases h:s.data.toList with
 |nil=>rw[h]at this;simp at this;simp[<-this]
 |cons c r=>rw[h]at this;rw[<-this];simp
theorem qau(s:ByteArray)(w:World)(hs:s.size<=maxLen):
 Calls Tryz.prog 53 #[.string s] w fun e w'=>e=.returned (zE (Q2 s))/\Below w.heap.size w w':=by
 have B:=qaq s.data.toList;rw[QB]at B;have C:=ZbF s;cases E:ZA s.data.toList with
 |zero =>
  have D:Q2 s=1:=by unfold Q2;rw[if_neg];rw[C];omega
  rw[D];have H:=Xh E;clear E D C B;go_enter Tryz.func53,Tryz.ntmps53;go_wp2_with (go_fit (zcx hs H.out _);rintro e w'⟨rfl,F⟩)
  go_ret;exact⟨rfl,F⟩
 |succ n =>
  have H:=Xh E;by_cases D:n+1=s.size
  ·have A:Q2 s=0:=(by unfold Q2;rw[if_pos];rw[C];omega);have G:(s.extract (n+1) s.size).toList.isEmpty=true:=(by rw[ZD];simp;omega);rw[A];clear E D C B A;go_enter Tryz.func53,Tryz.ntmps53;go_wp2_with (go_fit (Zbo hs H.out _);rintro e w'⟨rfl,F⟩)
   go_ret;exact⟨rfl,F⟩
  ·have A:Q2 s=1:=(by unfold Q2;rw[if_neg];rw[C];omega);have G:(s.extract (n+1) s.size).toList.isEmpty=false:=(by rw[ZD];simp;omega);rw[A];clear E D C B A;go_enter Tryz.func53,Tryz.ntmps53;go_wp2_with (go_fit (Zbo hs H.out _);rintro e w'⟨rfl,F⟩)
   go_ret;exact⟨rfl,F⟩
theorem Qbi(s:ByteArray)(w:World):
 Calls Tryz.prog 131 #[.string s] w fun e w'=>e=.returned (.bool (zah s.data.toList))/\w=w':=by
 rw[<-ByteArray.toList_eq];go_enter Tryz.func131,Tryz.ntmps131;go_wp2
 all_goals
  go_ret;simp[zah, *]
theorem Zr{w w':World}{base:Nat}{e:TypeId}{size:Nat}{v:Value}{n:Nat}{xs:List Value}(h:w.ownsRow base e size v n xs)(C:Below w.heap.size w w'):w'.ownsRow base e size v n xs:=by
 refine⟨h.1,?_⟩;rcases h.2 with E|⟨g,cap,A,rfl,F,B,G⟩
 ·exact .inl E
 ·have D:g<w.heap.size:=(Array.getElem?_eq_some_iff.1 B).1;exact .inr ⟨g,cap,A,rfl,F,by rw[C.block g D];exact B,G⟩
theorem Ze{w:World}{base:Nat}{e:TypeId}{v:Value}{l:List ByteArray}(h:w.ownsRow base e 1 v l.length (l.map Value.string)):Qh w v l:=by
 rcases h.2 with⟨E,B⟩|⟨g,cap,A,rfl,E,B,G,H,J,I⟩
 ·exact Or.inl ⟨E,List.length_eq_zero_iff.1 B⟩
 ·refine Or.inr ⟨⟨g,0,none⟩,cap,rfl,G,H,fun i x D=>⟨[.string x],rfl,rfl,rfl,?_,trivial⟩⟩;rw[cell_of_row w g (0+i*1) A e (0,0) B];have:A.toList[i]? = some (.string x):=by
   have C:(A.toList.take (l.length*1))[i]? = some (.string x):=(by rw[I];simp[D]);have F:i<l.length:=(List.getElem?_eq_some_iff.1 D).1;rw[List.getElem?_take_of_lt (by omega)]at C;exact C
  simpa using this
theorem qbM:∀(n m:Nat) (r:ByteArray) (acc:List ByteArray),r.size<n->r.size<m->qaw n r acc=qaw m r acc
 |0,_,_,_,h,_=>absurd h (Nat.not_lt_zero _)
 |_+1,0,_,_,_,h=>absurd h (Nat.not_lt_zero _)
 |n+1,m+1,r,acc,C,D=>by
  unfold qaw;split
  ·rfl
  ·split
   ·rfl
   ·rename_i B;have A:=qaq r.data.toList;rw[QB]at A;have hs:(r.extract (ZA r.data.toList) r.size).size=r.size-ZA r.data.toList:=(by simp);exact qbM n m _ _ (by omega) (by omega)
theorem qbV{r:ByteArray}{acc:List ByteArray}(h:Lib.hasPrefix r.data.toList [41]=true):zA r true acc=(r,acc,true):=by
 unfold zA qaw;rw[if_pos rfl,if_pos h]
theorem ZbS{r:ByteArray}{acc:List ByteArray}(h:Lib.hasPrefix r.data.toList [41]=false)(A:ZA r.data.toList=0):zA r true acc=zA r false acc:=by
 unfold zA qaw;rw[if_pos rfl,if_neg (by rw[h];decide),if_pos A];rfl
theorem zbW{r:ByteArray}{acc:List ByteArray}{n:Nat}(h:Lib.hasPrefix r.data.toList [41]=false)(B:ZA r.data.toList=n+1):zA r true acc=zA (r.extract (n+1) r.size) true (acc++[r.extract 0 (n+1)]):=by
 have A:=qaq r.data.toList;rw[QB]at A;have hs:(r.extract (n+1) r.size).size=r.size-(n+1):=by simp
 have e:zA r true acc=qaw r.size (r.extract (n+1) r.size) (acc++[r.extract 0 (n+1)]):=by
  conv=>lhs;unfold zA qaw
  rw[if_pos rfl,if_neg (by rw[h];decide),if_neg (by omega),B]
 rw[e];unfold zA;rw[if_pos rfl];exact qbM _ _ _ _ (by omega) (by omega)
def zbS:Value->Nat|.string s=>s.size|_=>0
def Qbz:Value->Bool|.bool b=>b|_=>false
theorem qO:(Tryz.prog.info? 9).map (fun i=>(i.zero,i.size,i.bytes))=some (some (.string .empty),1,16):=by kernel_rfl
theorem Qbb(s p:ByteArray)(w:World):Calls Tryz.prog 175 #[.string s,.string p] w fun e w'=>e=.returned (.tuple #[.string ⟨(Lib.trimPrefix s.data.toList p.data.toList).toArray⟩,.bool (Lib.hasPrefix s.data.toList p.data.toList)])/\w=w' :=
 (Tryz.strings_CutPrefix s p w).mono fun _ _ h=>⟨h.1,h.2.symm⟩
theorem zz(s p:ByteArray)(w:World):Calls Tryz.prog 145 #[.string s,.string p] w fun e w'=>e=.returned (.bool (Lib.hasPrefix s.data.toList p.data.toList))/\w=w' :=
 (Tryz.strings_HasPrefix s p w).mono fun _ _ h=>⟨h.1,h.2.symm⟩
theorem zca(s p:ByteArray)(w:World):Calls Tryz.prog 176 #[.string s,.string p] w fun e w'=>e=.returned (.string ⟨(Lib.trimPrefix s.data.toList p.data.toList).toArray⟩)/\w=w' :=
 (Tryz.strings_TrimPrefix s p w).mono fun _ _ h=>⟨h.1,h.2.symm⟩
theorem ZL(r:ByteArray)(w:World):Calls Tryz.prog 176 #[.string r,.string ⟨#[41]⟩] w fun e w'=>e=.returned (.string (Z5 r))/\w=w':=zca r ⟨#[41]⟩ w
theorem QbV(r:ByteArray):(Z5 r).size<=r.size:=by
 have h:(Lib.trimPrefix r.data.toList [41]).length<=r.data.toList.length:=by unfold Lib.trimPrefix;split<;>simp
 rw[QB]at h;have e:(Z5 r).size=(Lib.trimPrefix r.data.toList [41]).length:=by simp[Z5,ByteArray.size]
 omega
theorem qad{g:ByteArray}(hs:g.size<=maxLen)(h:Zs g.data.toList=true)(w:World):Calls Tryz.prog 53 #[.string g] w fun e w'=>e=.returned .nilIface/\Below w.heap.size w w':=by
 have:=qau g w hs;unfold Q2 at this;rwa [if_pos h]at this
theorem Zai{g:ByteArray}(hs:g.size<=maxLen)(h:Zs g.data.toList=false)(w:World):Calls Tryz.prog 53 #[.string g] w fun e w'=>e=.returned (.iface 29 (.int .i64 1))/\Below w.heap.size w w':=by
 have:=qau g w hs;unfold Q2 at this;rwa [if_neg (by rw[h];decide)]at this
theorem qF{n:Nat}(h:n<=9223372036854775807):n<=maxLen:=h
theorem Q9{r g:ByteArray}{acc:List ByteArray}(A:acc.length<=5)(B:Z5 r=g)(C:zY g=true):QC (r,acc,true)=some (acc,g):=by
 subst B;unfold QC;exact if_pos ⟨rfl,A,C⟩
theorem zaI{r:ByteArray}{acc:List ByteArray}(A:¬acc.length<=5):QC (r,acc,true)=none:=if_neg fun h=>A h.2.1
theorem QaH{r g:ByteArray}{acc:List ByteArray}(A:Z5 r=g)(B:zY g=false):QC (r,acc,true)=none:=by
 subst A;exact if_neg fun h=>by have:=h.2.2;rw[B]at this;cases this
theorem qe{w:World}{base:Nat}{e:TypeId}{size:Nat}{v:Value}{n:Nat}{xs:List Value}(h:w.ownsRow base e size v n xs):∃a c,v=.slice a n c:=by
 rcases h.2 with⟨A,B⟩|⟨g,cap,C,A,_⟩
 ·exact⟨none,0,by rw[A,B]⟩
 ·exact⟨_,_,A⟩
def Qaq(w:World)(m:Option (List ByteArray×ByteArray))(e:Ending)(w':World):Prop :=
 Below w.heap.size w w'/\match m with
  |none=>e=.returned (.tuple #[.slice none 0 0,.string .empty,.iface 29 (.int .i64 1)])
  |some (args,g)=>∃v,e=.returned (.tuple #[v,.string g,.nilIface])/\Qh w' v args
theorem qbF{w w':World}{m:Option (List ByteArray×ByteArray)}(A:m=none)(B:Below w.heap.size w w'):
 Qaq w m (.returned (.tuple #[.slice none 0 0,.string .empty,.iface 29 (.int .i64 1)])) w':=by subst A;exact⟨B,rfl⟩
theorem Zca{w w':World}{m:Option (List ByteArray×ByteArray)}{args:List ByteArray}{g:ByteArray}{v:Value}(A:m=some (args,g))(B:Below w.heap.size w w')(C:Qh w' v args):
 Qaq w m (.returned (.tuple #[v,.string g,.nilIface])) w':=by subst A;exact⟨B,v,rfl,C⟩
set_option maxRecDepth 100000
theorem QcR(s h:ByteArray)(P:Bool)(w:World)(hs:s.size<=1048576)(Y:h.size<=s.size)(h0:Lib.trimPrefix s.data.toList [40]=h.data.toList)(l:Lib.hasPrefix s.data.toList [40]=P)(r:ByteArray)(acc:List ByteArray)(Z:Bool)(hf:zA h P []=(r,acc,Z))(m:Option (List ByteArray×ByteArray))(hm:QC (r,acc,Z)=m):
 Calls Tryz.prog 132 #[.string s] w (Qaq w m):=by
 have M:=Xh hm;clear hm;have HF:=Xh hf;obtain⟨i0,hi,aA,aB,aC⟩:=info_parts qO;clear hf;go_enter Tryz.func132,Tryz.ntmps132;go_wp2_with (go_fit (Qbb _ _ _);rintro e w'⟨rfl,rfl⟩)
 clear h0 l;go_loopw [5,6,7] (fun x y v wr=>∃(F:ByteArray) (N:Bool) (A:List ByteArray),Hid (zA F N A=(r,acc,Z))/\F.size+A.length<=s.size/\wr.ownsRow w.heap.size 9 1 v A.length (A.map Value.string)/\Below w.heap.size w wr/\x=.string F/\y=.bool N)
  (fun x y _ _=>if Qbz y then zbS x+1 else 0)
 case atStart=>exact⟨h,P,[],HF,by simpa using Y,World.ownsRow_nil _ _ _ _,Xb,rfl,rfl⟩
 case round =>
  clear HF;obtain⟨F,N,A,E,d,C,B,rfl,rfl⟩:=hrel;cases N with
  |false =>
   have G:=E.out;unfold zA at G;simp only[Bool.false_eq_true,if_false,Prod.mk.injEq]at G;obtain⟨rfl,rfl,rfl⟩:=G;have J:Hid (m=none):=(by unfold Hid;rw[<-M.out];simp[QC]);clear E M C;go_wp2_with (go_fit (ZL _ _);rintro e w'⟨rfl,rfl⟩)
   go_ret3;exact qbF J.out B
  |true =>
   cases z:Lib.hasPrefix F.data.toList [41] with
   |true =>
    have G:=E.out;rw[qbV z]at G;simp only[Prod.mk.injEq]at G;obtain⟨rfl,rfl,rfl⟩:=G;clear E;have H:(Z5 F).size<=maxLen:=qF (by have:=QbV F;omega);have D:Hid (QC (F,A,true)=m):=M.out;clear M;obtain⟨va,vc,rfl⟩:=qe C;generalize hg:Z5 F=g at *;by_cases o:A.length<=5
    ·cases hV:(g.toList==[86]) with
     |true =>
      have L:Hid (m=some (A,g)):=(by unfold Hid;rw[<-D.out];exact Q9 o hg (by simp[zY,hV]));have hv:=Xh (Ze C);have HG:=Xh H;clear C D H;go_wp2_with (first|(go_fit (zz _ _ _);rintro e w'⟨rfl,rfl⟩)|(go_fit (ZL _ _);rintro e w'⟨rfl,rfl⟩))
      go_ret3;exact Zca L.out B hv.out
     |false =>
      cases X:Zs g.data.toList with
      |true =>
       have L:Hid (m=some (A,g)):=(by unfold Hid;rw[<-D.out];exact Q9 o hg (by simp[zY,X]));have p:=Xh (qad H X);have HO:=Xh C;clear C D H X;go_wp2_with (first|(go_fit (zz _ _ _);rintro e w'⟨rfl,rfl⟩)|(go_fit (ZL _ _);rintro e w'⟨rfl,rfl⟩)|(go_fit (p.out _);rintro e f⟨rfl,I⟩))
       go_ret3;exact Zca L.out (B.trans (I.mono B.size)) (Ze (Zr HO.out I))
      |false =>
       have J:Hid (m=none):=(by unfold Hid;rw[<-D.out];exact QaH hg (by simp[zY,X,hV]));have p:=Xh (Zai H X);clear C D H X;go_wp2_with (first|(go_fit (zz _ _ _);rintro e w'⟨rfl,rfl⟩)|(go_fit (ZL _ _);rintro e w'⟨rfl,rfl⟩)|(go_fit (p.out _);rintro e f⟨rfl,I⟩))
       go_ret3;exact qbF J.out (B.trans (I.mono B.size))
    ·have J:Hid (m=none):=(by unfold Hid;rw[<-D.out];exact zaI o);clear D H C;go_wp2_with (first|(go_fit (zz _ _ _);rintro e w'⟨rfl,rfl⟩)|(go_fit (ZL _ _);rintro e w'⟨rfl,rfl⟩))
     go_ret3;exact qbF J.out B
   |false =>
    cases T:ZA F.data.toList with
    |zero =>
     have i:=Xh T;have a:Hid (zA F false A=(r,acc,Z)):=(by unfold Hid;rw[<-ZbS z T];exact E.out);clear T E;go_wp2_with (first|(go_fit (zz _ _ _);rintro e w'⟨rfl,rfl⟩)|(go_fit (zcx (qF (by omega)) i.out _);rintro e f⟨rfl,I⟩))
     go_roundw;case rel=>exact⟨F,false,A,a,d,Zr C I,B.trans (I.mono B.size),rfl,rfl⟩
     case measure=>simp[Qbz]
    |succ n =>
     have b:=qaq F.data.toList;rw[QB,T]at b;have i:=Xh T;have a:Hid (zA (F.extract (n+1) F.size) true (A++[F.extract 0 (n+1)])=(r,acc,Z)):=(by unfold Hid;rw[<-zbW z T];exact E.out);have c:(F.extract (n+1) F.size).size=F.size-(n+1):=(by simp);have j:=Xh c;clear T E c;generalize hr2:F.extract (n+1) F.size=r2 at a j;generalize hx:F.extract 0 (n+1)=V at a;go_wp2_with (go_fit (zz _ _ _);rintro e w'⟨rfl,rfl⟩)
     (with_reducible refine(Zbo (qF (by omega)) i.out _).mono ?_)
     rintro e f⟨rfl,I⟩;have ho:=Zr C I;have R:Below w.heap.size w (f.alloc (.cells #[.string V] 9)):=(B.trans (I.mono B.size)).alloc (Xf B.size I.size) _;have c2:∀u∈[Value.string V],u.oneCell'=true:=fun u hu=>by simp at hu;subst hu;rfl
     have c3:A.length+1<=maxLen:=qF (by omega);have c4:(A.length+1)*16<=140737488355328:=(by omega);have c5:=R.size;have q:=Xh R;have HZ:Hid ((r2.size:Nat)+(A++[V]).length<=s.size):=(by unfold Hid;rw[j.out];simp;omega);have HM:Hid (r2.size<F.size):=(by unfold Hid;rw[j.out];omega);clear C I B R b d Y j i;go_wp2_with (at_builtin;refine wpList_append_own _ rfl _ _ 25 rfl w.heap.size 9 i0 (.string .empty) 1 16 Tryz.underlying25 hi aA aB aC rfl (by decide) _ _ _ rfl (ho.alloc _) ⟨f.heap.size,0,none⟩ 1 1 [.string V] rfl rfl (cell_one_new _ _ _) c2 c3 c4 c5 ?_;intro v2 w3 U O _)
     have t:Below w.heap.size w w3:=q.out.grown O c5 (fun k hk=>(ho.lt k hk).1);have S:w3.ownsRow w.heap.size 9 1 v2 (A++[V]).length ((A++[V]).map Value.string):=(by simpa using U);go_roundw;case rel=>exact⟨r2,true,A++[V],a,HZ,S,t,rfl,rfl⟩
     case measure=>have:=HM.out;simp[Qbz,zbS];omega
set_option maxRecDepth 512
theorem Zan(s:ByteArray)(w:World)(hs:s.size<=1048576):Calls Tryz.prog 132 #[.string s] w (Qaq w (Zm s)):=by
 have A:(Lib.trimPrefix s.data.toList [40]).length<=s.data.toList.length:=by unfold Lib.trimPrefix;split<;>simp
 rw[QB]at A;exact QcR s ⟨(Lib.trimPrefix s.data.toList [40]).toArray⟩ (Lib.hasPrefix s.data.toList [40]) w hs (by show(Lib.trimPrefix s.data.toList [40]).toArray.size<=s.size;rw[List.size_toArray];exact A) rfl rfl _ _ _ rfl _ rfl
end Go.Proofs.YtlmfmioljeppfaaGreatDoor
