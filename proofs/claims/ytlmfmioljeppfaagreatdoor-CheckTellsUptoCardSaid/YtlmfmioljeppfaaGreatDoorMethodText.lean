/- Lemmas; conditions: as each states. -/
import Derived.Test.YtlmfmioljeppfaaGreatDoorShelf
import Derived.Test.YtlmfmioljeppfaaGreatDoorTypeLaw
import Derived.Shelf.Strings.SlTrimAscii
import Derived.Deep.QuietTactic
import Derived.BigQuiet
import Derived.WalkSmall
set_option maxHeartbeats 4000000
namespace Go.Proofs.YtlmfmioljeppfaaGreatDoor
open Go.RowKit Go.Shelf Go.Lib
def Qab:List UInt8:=[48,49,50,51,52,53,54,55,56,57]
def Zap:List UInt8:=[97,98,99,100,101,102,103,104,105,106,107,108,109,110,111,112,113,114,115,116,117,118,119,120,121,122,65,66,67,68,69,70,71,72,73,74,75,76,77,78,79,80,81,82,83,84,85,86,87,88,89,90,95]
theorem qdT(p:UInt8->Bool)(h:(List.range 256).all (fun n=>p (UInt8.ofNat n))=true)(c:UInt8):p c=true:=by
 have:=List.all_eq_true.1 h c.toNat (List.mem_range.2 c.toNat_lt);simpa using this
theorem Qb7(c:UInt8):(Zap++Qab).contains c=(qap c||QV c):=by
 have:=qdT (fun c=>(Zap++Qab).contains c==(qap c||QV c)) (by decide +kernel) c;simpa using this
theorem QaG{α:Type}{p:α->Bool}{l:List α}:l.dropWhile p=[]↔∀x∈l,p x=true:=by
 induction l with
 |nil=>simp
 |cons a l ih=>cases h:p a<;>simp[List.dropWhile,h,ih]
theorem qaO{α:Type}{p:α->Bool}{x:α}:∀{l:List α},x∈l.takeWhile p->p x=true
 |[],h=>by simp at h
 |a::l,h=>by
  cases ha:p a with
  |false=>simp[ha]at h
  |true =>
   simp[ha]at h;rcases h with rfl|h
   ·exact ha
   ·exact qaO h
theorem Zcg(l cs:List UInt8):Lib.trimS l cs=[]↔l.all (cs.contains ·)=true:=by
 unfold Lib.trimS Lib.trimLeftS Lib.trimRightS;constructor
 ·intro h;rw[List.all_eq_true];intro x hx;rw[QaG]at h;by_cases hc:cs.contains x=true
  ·exact hc
  ·exfalso;have hs:=List.takeWhile_append_dropWhile (p:=(cs.contains ·)) (l:=l.reverse);have hx':x∈l.reverse:=(by simpa using hx);rw[<-hs,List.mem_append]at hx';rcases hx' with h1|h1
   ·have:=qaO h1;exact hc this
   ·exact hc (h x (by simpa using h1))
 ·intro h;rw[List.all_eq_true]at h;rw[QaG];intro x hx;have:x∈l.reverse.dropWhile (cs.contains ·):=by simpa using hx
  have:=(List.dropWhile_suffix (cs.contains ·)).subset this;exact h x (by simpa using this)
theorem zbG(c:UInt8):(0<=Lib.indexByte Qab c)↔QV c=true:=by
 have:=qdT (fun c=>decide (0<=Lib.indexByte Qab c)==QV c) (by decide +kernel) c;rw[beq_iff_eq]at this;rw[<-this,decide_eq_true_eq]
theorem zb8(s:ByteArray)(w:World)(hs:s.size<=9223372036854775807):
 Calls Tryz.prog 133 #[.string s,.string ⟨#[97,98,99,100,101,102,103,104,105,106,107,108,109,110,111,112,113,114,115,116,117,118,119,120,121,122,65,66,67,68,69,70,71,72,73,74,75,76,77,78,79,80,81,82,83,84,85,86,87,88,89,90,95,48,49,50,51,52,53,54,55,56,57]⟩] w fun e w'=>e=.returned (.string ⟨(Lib.trimS s.data.toList (Zap++Qab)).toArray⟩)/\Below w.heap.size w w' :=
 Any.strings_Trim_laid Tryz.lays160 (by kernel_rfl) s ⟨#[97,98,99,100,101,102,103,104,105,106,107,108,109,110,111,112,113,114,115,116,117,118,119,120,121,122,65,66,67,68,69,70,71,72,73,74,75,76,77,78,79,80,81,82,83,84,85,86,87,88,89,90,95,48,49,50,51,52,53,54,55,56,57]⟩ w hs (by decide) (ascii_of_all (by decide))
theorem zcz(c:UInt8)(w:World):
 Calls Tryz.prog 134 #[.string ⟨#[48,49,50,51,52,53,54,55,56,57]⟩,.int .u8 (c.toNat:Int)] w fun e w'=>e=.returned (.int .i64 (Lib.indexByte Qab c))/\w=w':=by
 refine(Tryz.strings_IndexByte ⟨#[48,49,50,51,52,53,54,55,56,57]⟩ (c.toNat:Int) w).mono ?_;rintro e w'⟨rfl,rfl⟩;refine⟨?_,rfl⟩;have:(c.toNat:Int).toNat.toUInt8=c:=by simp
 rw[this];rfl
def zE(e:Nat):Value:=if e=0 then .nilIface else .iface 29 (.int .i64 e)
def Zw(s:ByteArray):Nat:=if Qt s.data.toList=true then 0 else 1
theorem ZD(s:ByteArray):s.toList.isEmpty=decide (s.size=0):=by
 rw[ByteArray.toList_eq,Bool.eq_iff_iff,List.isEmpty_iff,<-List.length_eq_zero_iff];simp
theorem Zb8(s:ByteArray)(w:World)(hs:s.size<=9223372036854775807)(h0:s.toList.isEmpty=false)(h20:s.size<=20)(r:ByteArray)(hr:r=⟨(Lib.trimS s.data.toList (Zap++Qab)).toArray⟩)(hrn:r.toList.isEmpty=false):
 Calls Tryz.prog 97 #[.string s] w fun e w'=>e=.returned (zE 1)/\Below w.heap.size w w':=by
 have hcon:=zb8 s w hs;rw[<-hr]at hcon;have HC:=Xh hcon;clear hcon hr;go_enter Tryz.func97,Tryz.ntmps97;go_wp2_with (go_fit HC.out;rintro e w'⟨rfl,hB⟩)
 go_ret;exact⟨rfl,hB⟩
theorem ZaW(s:ByteArray)(w:World)(hs:s.size<=9223372036854775807)(h0:s.toList.isEmpty=false)(hp:0<s.size)(h20:s.size<=20)(r:ByteArray)(hr:r=⟨(Lib.trimS s.data.toList (Zap++Qab)).toArray⟩)(hrn:r.toList.isEmpty=true)(k:Nat)(hk:k<=1)(n:Int)(hn:Lib.indexByte Qab s[0]=n)(hnk:(k=1/\0<=n)\/(k=0/\n<0)):
 Calls Tryz.prog 97 #[.string s] w fun e w'=>e=.returned (zE k)/\Below w.heap.size w w':=by
 have hcon:=zb8 s w hs;rw[<-hr]at hcon;have HC:=Xh hcon;have hi:∀w1,Calls Tryz.prog 134 #[.string ⟨#[48,49,50,51,52,53,54,55,56,57]⟩,.int .u8 (s[0].toNat:Int)] w1 fun e w'=>e=.returned (.int .i64 n)/\w1=w':=by
  intro w1;have:=zcz s[0] w1;rwa [hn]at this
 have HI:=Xh hi;clear hcon hr hi hn;rcases hnk with⟨rfl,hn⟩|⟨rfl,hn⟩;all_goals
  go_enter Tryz.func97,Tryz.ntmps97;go_wp2_with (first|(go_fit HC.out;rintro e w'⟨rfl,hB⟩)|(go_fit (HI.out _);rintro e w'⟨rfl,rfl⟩))
  go_ret;exact⟨rfl,hB⟩
theorem ZQ(s:ByteArray)(w:World)(hs:s.size<=maxLen):
 Calls Tryz.prog 97 #[.string s] w fun e w'=>e=.returned (zE (Zw s))/\Below w.heap.size w w':=by
 unfold maxLen at hs;have hs':s.size<=9223372036854775807:=hs;by_cases h0:s.size=0
 ·have hn:Zw s=1:=by unfold Zw;rw[Zax];simp[h0]
  have h1:s.toList.isEmpty=true:=by rw[ZD];simp[h0]
  rw[hn];clear hn h0;go_enter Tryz.func97,Tryz.ntmps97;go_wp2_with fail;go_ret;exact⟨rfl,Xb⟩
 ·have h1:s.toList.isEmpty=false:=by rw[ZD];simp[h0]
  by_cases h20:20<s.size
  ·have hn:Zw s=1:=(by unfold Zw;rw[Zax];simp;omega);rw[hn];clear hn h0;go_enter Tryz.func97,Tryz.ntmps97;go_wp2_with fail;go_ret;exact⟨rfl,Xb⟩
  ·have hp:0<s.size:=(by omega);have hall:s.data.toList.all Zaq=s.data.toList.all ((Zap++Qab).contains ·):=(by congr 1;funext c;exact(Qb7 c).symm);have hB:Qt s.data.toList=(!QV s[0]&&s.data.toList.all Zaq):=by
    rw[Zax,zbn hp,Xj hp,Xj (show s.size<=20 by omega)];rfl
   have hT:=Zcg s.data.toList (Zap++Qab);rw[<-hall]at hT;have hD:=zbG s[0];generalize hr:(⟨(Lib.trimS s.data.toList (Zap++Qab)).toArray⟩:ByteArray)=r;have hrl:r.toList=Lib.trimS s.data.toList (Zap++Qab):=(by rw[<-hr,ByteArray.toList_mk]);cases ha:s.data.toList.all Zaq with
   |false =>
    have hn:Zw s=1:=(by unfold Zw;rw[hB,ha];simp);rw[hn];refine Zb8 s w hs' h1 (by omega) r hr.symm ?_;rw[hrl,List.isEmpty_eq_false_iff];intro h;rw[hT.1 h]at ha;cases ha
   |true =>
    have hre:r.toList.isEmpty=true:=(by rw[hrl,hT.2 ha];rfl);cases hd:QV s[0] with
    |true =>
     have hn:Zw s=1:=(by unfold Zw;rw[hB,hd];simp);rw[hn];exact ZaW s w hs' h1 hp (by omega) r hr.symm hre 1 (by omega) _ rfl (Or.inl ⟨rfl,hD.2 hd⟩)
    |false =>
     have hn:Zw s=0:=(by unfold Zw;rw[hB,hd,ha];simp);rw[hn];refine ZaW s w hs' h1 hp (by omega) r hr.symm hre 0 (by omega) _ rfl (Or.inr ⟨rfl,?_⟩);have:¬0<=Lib.indexByte Qab s[0]:=fun h=>by rw[hD.1 h]at hd;cases hd
     omega
theorem qcg(l:List UInt8):Lib.trimLeftB l 91=l.drop (qu l):=by
 unfold Lib.trimLeftB;induction l with
 |nil=>rfl
 |cons c r ih =>
  unfold qu;by_cases h:c=91
  ·subst h;simpa using ih
  ·rw[if_neg h];simp[h]
theorem zbu(s:ByteArray)(w:World):Calls Tryz.prog 135 #[.string s,.string ⟨#[91]⟩] w fun e w'=>e=.returned (.string (s.extract (qu s.data.toList) s.size))/\w=w':=by
 refine(Tryz.strings_TrimLeft_one s 91 (by decide) w).mono ?_;rintro e w'⟨rfl,rfl⟩;refine⟨?_,rfl⟩;rw[qcg];congr 2;have:=Lib.extract_to_end s (qu s.data.toList);rw[<-this]
def zaF(s r:ByteArray):Prop:=∀w,Calls Tryz.prog 135 #[.string s,.string ⟨#[91]⟩] w fun e w'=>e=.returned (.string r)/\w=w'
theorem zaF.at{s r:ByteArray}(h:zaF s r)(w:World):Calls Tryz.prog 135 #[.string s,.string ⟨#[91]⟩] w fun e w'=>e=.returned (.string r)/\w=w':=h w
def ZbG(t:ByteArray)(n:Int):Prop:=∀w,Calls Tryz.prog 134 #[.string t,.int .u8 59] w fun e w'=>e=.returned (.int .i64 n)/\w=w'
theorem ZbG.at{t:ByteArray}{n:Int}(h:ZbG t n)(w:World):Calls Tryz.prog 134 #[.string t,.int .u8 59] w fun e w'=>e=.returned (.int .i64 n)/\w=w':=h w
def zaT(s:ByteArray):Value:=.tuple #[.string .empty,.string s,.bool false]
def QcP(s:ByteArray)(n:Nat):Value:=.tuple #[.string (s.extract 0 n),.string (s.extract n s.size),.bool true]
def Za2(t:ByteArray)(k:Nat):Prop:=∀w,Calls Tryz.prog 97 #[.string t] w fun e w'=>e=.returned (zE k)/\Below w.heap.size w w'
theorem Za2.bad{t:ByteArray}(h:Za2 t 1)(w:World):Calls Tryz.prog 97 #[.string t] w fun e w'=>e=.returned (.iface 29 (.int .i64 1))/\Below w.heap.size w w':=h w
theorem Za2.good{t:ByteArray}(h:Za2 t 0)(w:World):Calls Tryz.prog 97 #[.string t] w fun e w'=>e=.returned .nilIface/\Below w.heap.size w w':=h w
theorem QdT(s r:ByteArray)(hs:s.size<=9223372036854775807)(h:3<(s.size:Int)-r.size)(w:World)(_h1:r.size<=s.size)(hr:zaF s r):
 Calls Tryz.prog 98 #[.string s] w fun e w'=>e=.returned (zaT s)/\Below w.heap.size w w':=by
 go_enter Tryz.func98,Tryz.ntmps98;go_wp2_with (first|(go_fit (hr.at _);rintro e w'⟨rfl,rfl⟩))
 go_ret3;exact⟨rfl,Xb⟩
theorem zdz(s r t:ByteArray)(_hs:s.size<=9223372036854775807)(h:(s.size:Int)-r.size<=3)(ht:s.extract (s.size-r.size) s.size=t)(h0:t.toList.isEmpty=true)(w:World)(h1:r.size<=s.size)(hr:zaF s r):
 Calls Tryz.prog 98 #[.string s] w fun e w'=>e=.returned (zaT s)/\Below w.heap.size w w':=by
 go_enter Tryz.func98,Tryz.ntmps98;go_wp2_with (first|(go_fit (hr.at _);rintro e w'⟨rfl,rfl⟩))
 go_ret3;exact⟨rfl,Xb⟩
theorem Zdz(s r t:ByteArray)(_hs:s.size<=9223372036854775807)(h:(s.size:Int)-r.size<=3)(ht:s.extract (s.size-r.size) s.size=t)(h0:t.toList.isEmpty=false)(hp:0<t.size)(c1:((t[0].toNat:Int)==73)=false)(c2:((t[0].toNat:Int)==74)=false)(c3:((t[0].toNat:Int)==76)=false)(w:World)(h1:r.size<=s.size)(hr:zaF s r):
 Calls Tryz.prog 98 #[.string s] w fun e w'=>e=.returned (zaT s)/\Below w.heap.size w w':=by
 go_enter Tryz.func98,Tryz.ntmps98;go_wp2_with (first|(go_fit (hr.at _);rintro e w'⟨rfl,rfl⟩))
 go_ret3;exact⟨rfl,Xb⟩
theorem zeo(s r t:ByteArray)(_hs:s.size<=9223372036854775807)(h:(s.size:Int)-r.size<=3)(ht:s.extract (s.size-r.size) s.size=t)(h0:t.toList.isEmpty=false)(hp:0<t.size)(c1:((t[0].toNat:Int)==73)=true)(_c2:((t[0].toNat:Int)==74)=false)(_c3:((t[0].toNat:Int)==76)=false)(hr1:1<=r.size)(w:World)(h1:r.size<=s.size)(hr:zaF s r):
 Calls Tryz.prog 98 #[.string s] w fun e w'=>e=.returned (QcP s (s.size-r.size+1))/\Below w.heap.size w w':=by
 have e1:IntKind.i64.wrap ((s.size:Int)-r.size+1)=(s.size:Int)-r.size+1:=IntWalk.i64_in _ (by omega);have e2:0<=(s.size:Int)-r.size+1:=by omega
 have e3:((s.size:Int)-r.size+1).toNat=s.size-r.size+1:=by omega
 have e4:(s.size:Int)-r.size+1<=s.size:=by omega
 go_enter Tryz.func98,Tryz.ntmps98;go_wp2_with (first|(go_fit (hr.at _);rintro e w'⟨rfl,rfl⟩))
 go_quiet (fail);clear e1 e2 e3 e4;go_wp2_with fail;go_ret3;exact⟨rfl,below_drewN Xb _⟩
theorem Zeo(s r t:ByteArray)(_hs:s.size<=9223372036854775807)(h:(s.size:Int)-r.size<=3)(ht:s.extract (s.size-r.size) s.size=t)(h0:t.toList.isEmpty=false)(hp:0<t.size)(c1:((t[0].toNat:Int)==73)=false)(c2:((t[0].toNat:Int)==74)=true)(_c3:((t[0].toNat:Int)==76)=false)(hr1:1<=r.size)(w:World)(h1:r.size<=s.size)(hr:zaF s r):
 Calls Tryz.prog 98 #[.string s] w fun e w'=>e=.returned (QcP s (s.size-r.size+1))/\Below w.heap.size w w':=by
 have e1:IntKind.i64.wrap ((s.size:Int)-r.size+1)=(s.size:Int)-r.size+1:=IntWalk.i64_in _ (by omega);have e2:0<=(s.size:Int)-r.size+1:=by omega
 have e3:((s.size:Int)-r.size+1).toNat=s.size-r.size+1:=by omega
 have e4:(s.size:Int)-r.size+1<=s.size:=by omega
 go_enter Tryz.func98,Tryz.ntmps98;go_wp2_with (first|(go_fit (hr.at _);rintro e w'⟨rfl,rfl⟩))
 go_quiet (fail);clear e1 e2 e3 e4;go_wp2_with fail;go_ret3;exact⟨rfl,below_drewN Xb _⟩
theorem Zel(s r t:ByteArray)(_hs:s.size<=9223372036854775807)(h:(s.size:Int)-r.size<=3)(ht:s.extract (s.size-r.size) s.size=t)(h0:t.toList.isEmpty=false)(hp:0<t.size)(c1:((t[0].toNat:Int)==73)=false)(c2:((t[0].toNat:Int)==74)=false)(c3:((t[0].toNat:Int)==76)=true)(hn:ZbG t (-1))(w:World)(h1:r.size<=s.size)(hr:zaF s r):
 Calls Tryz.prog 98 #[.string s] w fun e w'=>e=.returned (zaT s)/\Below w.heap.size w w':=by
 go_enter Tryz.func98,Tryz.ntmps98;go_wp2_with (first|(go_fit (hr.at _);rintro e w'⟨rfl,rfl⟩)|(go_fit (hn.at _);rintro e w'⟨rfl,rfl⟩))
 go_ret3;exact⟨rfl,Xb⟩
theorem qel(s r t:ByteArray)(_hs:s.size<=9223372036854775807)(h:(s.size:Int)-r.size<=3)(ht:s.extract (s.size-r.size) s.size=t)(h0:t.toList.isEmpty=false)(hp:0<t.size)(c1:((t[0].toNat:Int)==73)=false)(c2:((t[0].toNat:Int)==74)=false)(c3:((t[0].toNat:Int)==76)=true)(m:Nat)(hts:t.size<=9223372036854775807)(hn:ZbG t m)(hm1:1<=m)(hm2:m<t.size)(hc:Za2 (t.extract 1 m) 1)(w:World)(h1:r.size<=s.size)(hr:zaF s r):
 Calls Tryz.prog 98 #[.string s] w fun e w'=>e=.returned (zaT s)/\Below w.heap.size w w':=by
 go_enter Tryz.func98,Tryz.ntmps98;go_wp2_with (first|(go_fit (hr.at _);rintro e w'⟨rfl,rfl⟩)|(go_fit (hn.at _);rintro e w'⟨rfl,rfl⟩)|(go_fit (hc.bad _);rintro e w'⟨rfl,hB⟩))
 go_ret3;exact⟨rfl,hB⟩
theorem Qel(s r t:ByteArray)(hs:s.size<=9223372036854775807)(h:(s.size:Int)-r.size<=3)(ht:s.extract (s.size-r.size) s.size=t)(h0:t.toList.isEmpty=false)(hp:0<t.size)(c1:((t[0].toNat:Int)==73)=false)(c2:((t[0].toNat:Int)==74)=false)(c3:((t[0].toNat:Int)==76)=true)(m:Nat)(hts:t.size<=9223372036854775807)(hr1:m+1<=r.size)(hn:ZbG t m)(hm1:1<=m)(hm2:m<t.size)(hc:Za2 (t.extract 1 m) 0)(w:World)(h1:r.size<=s.size)(hr:zaF s r):
 Calls Tryz.prog 98 #[.string s] w fun e w'=>e=.returned (QcP s (s.size-r.size+(m+1)))/\Below w.heap.size w w':=by
 have e1:IntKind.i64.wrap ((s.size:Int)-r.size+(m+1))=(s.size:Int)-r.size+(m+1):=IntWalk.i64_in _ (by omega);have e2:0<=(s.size:Int)-r.size+(m+1):=by omega
 have e3:((s.size:Int)-r.size+(m+1)).toNat=s.size-r.size+(m+1):=by omega
 have e4:(s.size:Int)-r.size+(m+1)<=s.size:=by omega
 go_enter Tryz.func98,Tryz.ntmps98;go_wp2_with (first|(go_fit (hr.at _);rintro e w'⟨rfl,rfl⟩)|(go_fit (hn.at _);rintro e w'⟨rfl,rfl⟩)|(go_fit (hc.good _);rintro e w'⟨rfl,hB⟩))
 go_quiet (fail);clear e1 e2 e3 e4;go_wp2_with fail;go_ret3;exact⟨rfl,below_drewN hB _⟩
theorem qb8(q:List UInt8):Lib.indexByte q 59=if Qv q<q.length then (Qv q:Int) else -1:=by
 induction q with
 |nil=>simp[Lib.indexByte]
 |cons c q ih =>
  unfold Lib.indexByte Qv;by_cases h:c=59
  ·subst h;simp
  ·have hb:(c==59)=false:=(by simpa using h);rw[hb,if_neg h,ih];simp only[List.length_cons];by_cases hl:Qv q<q.length
   ·have h1:((Qv q:Int)==-1)=false:=(by rw[beq_eq_false_iff_ne];omega);simp[hl,h1]
   ·simp[hl]
theorem qbG(t:ByteArray)(n:Int)(h:Lib.indexByte t.data.toList 59=n):ZbG t n:=by
 intro w;refine(Tryz.strings_IndexByte t 59 w).mono ?_;rintro e w'⟨rfl,rfl⟩;exact⟨by rw[<-h];rfl,rfl⟩
def zdU(s:ByteArray):Value:=if ZA s.data.toList=0 then zaT s else QcP s (ZA s.data.toList)
theorem Qd9(s:ByteArray)(d:Nat)(hd:d=qu s.data.toList):zdU s=if d<=3/\0<qR (s.data.toList.drop d) then QcP s (d+qR (s.data.toList.drop d)) else zaT s:=by
 unfold zdU ZA;rw[<-hd];by_cases h:d<=3/\0<qR (s.data.toList.drop d)
 ·rw[if_pos h,if_pos h,if_neg (by omega)]
 ·rw[if_neg h,if_neg h,if_pos rfl]
theorem zdm(s:ByteArray)(w:World)(hs:s.size<=maxLen):
 Calls Tryz.prog 98 #[.string s] w fun e w'=>e=.returned (zdU s)/\Below w.heap.size w w':=by
 have hs':s.size<=9223372036854775807:=hs;have hdl:=QbG s.data.toList;simp only[QB]at hdl;have hr:zaF s (s.extract (qu s.data.toList) s.size):=fun w=>zbu s w
 have hE:=Qd9 s _ rfl;generalize hd:qu s.data.toList=d at *;have hrs:(s.extract d s.size).size=s.size-d:=by simp
 have hds:s.size-(s.extract d s.size).size=d:=by rw[hrs];omega
 have ht:s.extract (s.size-(s.extract d s.size).size) s.size=s.extract d s.size:=by rw[hds]
 have h1:(s.extract d s.size).size<=s.size:=by omega
 by_cases h3:d<=3
 ·have hle:(s.size:Int)-(s.extract d s.size).size<=3:=by omega
  by_cases hds2:d<s.size
  ·have hp:0<(s.extract d s.size).size:=(by omega);have hne:(s.extract d s.size).toList.isEmpty=false:=(by rw[ZD];simp;omega);have h0:(s.extract d s.size)[0]=s[d]:=by
    have e1:(s.extract d s.size).data.toList[0]'(by rw[QB];omega)=(s.extract d s.size)[0]:=rfl;have e2:s.data.toList[d]'(by simp;omega)=s[d]:=rfl;rw[<-e1,<-e2];have e3:(s.extract d s.size).data.toList=s.data.toList.drop d:=Lib.extract_to_end s d;rw[List.getElem_of_eq e3];simp
   have hC:=Zdm s d hds2;by_cases hI:s[d]=73
   ·have hcl:qR (s.data.toList.drop d)=1:=(by rw[hC,if_pos (Or.inl hI)]);rw[hE,hcl,if_pos ⟨h3,by omega⟩];have:=zeo s _ _ hs' hle ht hne hp (by rw[h0,hI];rfl) (by rw[h0,hI];rfl) (by rw[h0,hI];rfl) (by omega) w h1 hr;rwa [hds]at this
   by_cases hJ:s[d]=74
   ·have hcl:qR (s.data.toList.drop d)=1:=(by rw[hC,if_pos (Or.inr hJ)]);rw[hE,hcl,if_pos ⟨h3,by omega⟩];have:=Zeo s _ _ hs' hle ht hne hp (by rw[h0,hJ];rfl) (by rw[h0,hJ];rfl) (by rw[h0,hJ];rfl) (by omega) w h1 hr;rwa [hds]at this
   by_cases hL:s[d]=76
   ·rw[if_neg (by simp[hI,hJ]),if_pos hL]at hC;have hq:(s.extract d s.size).data.toList=76::s.data.toList.drop (d+1):=by
     rw[Lib.extract_to_end,List.drop_eq_getElem_cons (by simpa using hds2)];have e2:s.data.toList[d]'(by simp;omega)=s[d]:=rfl;rw[e2,hL]
    have hql:(s.data.toList.drop (d+1)).length=s.size-(d+1):=(by simp);have hix:Lib.indexByte (s.extract d s.size).data.toList 59=if Qv (s.data.toList.drop (d+1))<s.size-(d+1) then ((Qv (s.data.toList.drop (d+1))+1:Nat):Int) else -1:=by
     rw[hq,qb8];have e:Qv (76::s.data.toList.drop (d+1))=Qv (s.data.toList.drop (d+1))+1:=by
      conv=>lhs;unfold Qv
      rw[if_neg (by decide)]
     rw[e,List.length_cons,hql];by_cases h:Qv (s.data.toList.drop (d+1))<s.size-(d+1)
     ·rw[if_pos (by omega),if_pos h]
     ·rw[if_neg (by omega),if_neg h]
    have hc1:(((s.extract d s.size)[0].toNat:Int)==73)=false:=(by rw[h0,hL];rfl);have hc2:(((s.extract d s.size)[0].toNat:Int)==74)=false:=(by rw[h0,hL];rfl);have hc3:(((s.extract d s.size)[0].toNat:Int)==76)=true:=(by rw[h0,hL];rfl);generalize hm:Qv (s.data.toList.drop (d+1))=m at *;have hx:(s.extract d s.size).extract 1 (m+1)=s.extract (d+1) (d+1+m):=by
     apply ByteArray.ext;apply Array.toList_inj.1;rw[Lib.extract_data,Lib.extract_to_end,Lib.extract_data,List.drop_drop];congr 1;omega
    have hxs:(s.extract (d+1) (d+1+m)).size<=maxLen:=Qav hs;by_cases hin:m<s.size-(d+1)
    ·rw[if_pos hin]at hix;cases hn:Qt (s.extract (d+1) (d+1+m)).data.toList with
     |true =>
      rw[if_pos ⟨by omega,hn⟩]at hC;rw[hE,hC,if_pos ⟨h3,by omega⟩];have hN:Za2 ((s.extract d s.size).extract 1 (m+1)) 0:=by
       intro w;rw[hx];have:=ZQ _ w hxs;unfold Zw at this;rwa [if_pos hn]at this
      have:=Qel s _ _ hs' hle ht hne hp hc1 hc2 hc3 (m+1) (by omega) (by omega) (qbG _ _ hix) (by omega) (by omega) hN w h1 hr;rwa [hds]at this
     |false =>
      rw[if_neg (by rw[hn];simp)]at hC;rw[hE,hC,if_neg (by omega)];have hN:Za2 ((s.extract d s.size).extract 1 (m+1)) 1:=by
       intro w;rw[hx];have:=ZQ _ w hxs;unfold Zw at this;rwa [if_neg (by rw[hn];simp)]at this
      exact qel s _ _ hs' hle ht hne hp hc1 hc2 hc3 (m+1) (by omega) (qbG _ _ hix) (by omega) (by omega) hN w h1 hr
    ·rw[if_neg hin]at hix;rw[if_neg (by omega)]at hC;rw[hE,hC,if_neg (by omega)];exact Zel s _ _ hs' hle ht hne hp hc1 hc2 hc3 (qbG _ _ hix) w h1 hr
   ·rw[if_neg (by simp[hI,hJ]),if_neg hL]at hC;rw[hE,hC,if_neg (by omega)];exact Zdz s _ _ hs' hle ht hne hp (Qap (by rw[h0];exact hI) rfl) (Qap (by rw[h0];exact hJ) rfl) (Qap (by rw[h0];exact hL) rfl) w h1 hr
  ·rw[hE,zcQ s d (by omega),if_neg (by omega)];exact zdz s _ _ hs' hle ht (by rw[ZD];simp;omega) w h1 hr
 ·rw[hE,if_neg (by omega)];exact QdT s _ hs' (by omega) w h1 hr
theorem qcv{s:ByteArray}(hs:s.size<=maxLen)(h:ZA s.data.toList=0)(w:World):
 Calls Tryz.prog 98 #[.string s] w fun e w'=>e=.returned (.tuple #[.string .empty,.string s,.bool false])/\Below w.heap.size w w':=by
 have:=zdm s w hs;unfold zdU at this;rwa [if_pos h]at this
theorem qbo{s:ByteArray}{n:Nat}(hs:s.size<=maxLen)(h:ZA s.data.toList=n+1)(w:World):
 Calls Tryz.prog 98 #[.string s] w fun e w'=>e=.returned (.tuple #[.string (s.extract 0 (n+1)),.string (s.extract (n+1) s.size),.bool true])/\Below w.heap.size w w':=by
 have:=zdm s w hs;unfold zdU at this;rw[if_neg (by omega),h]at this;exact this
theorem Qc8(l:List UInt8):qR l<=l.length:=by
 unfold qR;cases l with
 |nil=>simp
 |cons c q =>
  simp only[List.length_cons];split
  ·omega
  ·split
   ·split
    ·rename_i h;omega
    ·omega
   ·omega
theorem zar(l:List UInt8):ZA l<=l.length:=by
 unfold ZA;split
 ·have:=Qc8 (l.drop (qu l));simp at this;have:=QbG l;omega
 ·omega
def Z3(s:ByteArray):Nat:=if Qs s.data.toList=true then 0 else 1
theorem zbH(s:ByteArray):Qs s.data.toList=true↔0<s.size/\ZA s.data.toList=s.size:=by
 have:=QB s;unfold Qs;cases h:s.data.toList with
 |nil=>rw[h]at this;simp at this;simp[<-this]
 |cons c r=>rw[h]at this;rw[<-this];simp
theorem Zav(s:ByteArray)(w:World)(hs:s.size<=maxLen):
 Calls Tryz.prog 53 #[.string s] w fun e w'=>e=.returned (zE (Z3 s))/\Below w.heap.size w w':=by
 have hle:=zar s.data.toList;rw[QB]at hle;have hT:=zbH s;cases hn:ZA s.data.toList with
 |zero =>
  have hf:Z3 s=1:=by unfold Z3;rw[if_neg];rw[hT];omega
  rw[hf];have H:=Xh hn;clear hn hf hT hle;go_enter Tryz.func53,Tryz.ntmps53;go_wp2_with (go_fit (qcv hs H.out _);rintro e w'⟨rfl,hB⟩)
  go_ret;exact⟨rfl,hB⟩
 |succ n =>
  have H:=Xh hn;by_cases hf:n+1=s.size
  ·have hf2:Z3 s=0:=(by unfold Z3;rw[if_pos];rw[hT];omega);have he:(s.extract (n+1) s.size).toList.isEmpty=true:=(by rw[ZD];simp;omega);rw[hf2];clear hn hf hT hle hf2;go_enter Tryz.func53,Tryz.ntmps53;go_wp2_with (go_fit (qbo hs H.out _);rintro e w'⟨rfl,hB⟩)
   go_ret;exact⟨rfl,hB⟩
  ·have hf2:Z3 s=1:=(by unfold Z3;rw[if_neg];rw[hT];omega);have he:(s.extract (n+1) s.size).toList.isEmpty=false:=(by rw[ZD];simp;omega);rw[hf2];clear hn hf hT hle hf2;go_enter Tryz.func53,Tryz.ntmps53;go_wp2_with (go_fit (qbo hs H.out _);rintro e w'⟨rfl,hB⟩)
   go_ret;exact⟨rfl,hB⟩
theorem zbj(s:ByteArray)(w:World):
 Calls Tryz.prog 131 #[.string s] w fun e w'=>e=.returned (.bool (Qag s.data.toList))/\w=w':=by
 rw[<-ByteArray.toList_eq];go_enter Tryz.func131,Tryz.ntmps131;go_wp2
 all_goals
  go_ret;simp[Qag, *]
theorem qr{w w':World}{base:Nat}{e:TypeId}{size:Nat}{v:Value}{n:Nat}{xs:List Value}(h:w.ownsRow base e size v n xs)(hb:Below w.heap.size w w'):w'.ownsRow base e size v n xs:=by
 refine⟨h.1,?_⟩;rcases h.2 with hn|⟨g,cap,cur,rfl,h1,h2,h3⟩
 ·exact .inl hn
 ·have hg:g<w.heap.size:=(Array.getElem?_eq_some_iff.1 h2).1;exact .inr ⟨g,cap,cur,rfl,h1,by rw[hb.block g hg];exact h2,h3⟩
theorem Ze{w:World}{base:Nat}{e:TypeId}{v:Value}{l:List ByteArray}(h:w.ownsRow base e 1 v l.length (l.map Value.string)):Qh w v l:=by
 rcases h.2 with⟨h1,h2⟩|⟨g,cap,cur,rfl,h1,h2,h3,h4,h5,h6⟩
 ·exact Or.inl ⟨h1,List.length_eq_zero_iff.1 h2⟩
 ·refine Or.inr ⟨⟨g,0,none⟩,cap,rfl,h3,h4,fun i x hi=>⟨[.string x],rfl,rfl,rfl,?_,trivial⟩⟩;rw[cell_of_row w g (0+i*1) cur e (0,0) h2];have:cur.toList[i]? = some (.string x):=by
   have h7:(cur.toList.take (l.length*1))[i]? = some (.string x):=(by rw[h6];simp[hi]);have hil:i<l.length:=(List.getElem?_eq_some_iff.1 hi).1;rw[List.getElem?_take_of_lt (by omega)]at h7;exact h7
  simpa using this
theorem QbN:∀(n m:Nat) (r:ByteArray) (acc:List ByteArray),r.size<n->r.size<m->Qax n r acc=Qax m r acc
 |0,_,_,_,h,_=>absurd h (Nat.not_lt_zero _)
 |_+1,0,_,_,_,h=>absurd h (Nat.not_lt_zero _)
 |n+1,m+1,r,acc,h1,h2=>by
  unfold Qax;split
  ·rfl
  ·split
   ·rfl
   ·rename_i h3;have hle:=zar r.data.toList;rw[QB]at hle;have hs:(r.extract (ZA r.data.toList) r.size).size=r.size-ZA r.data.toList:=(by simp);exact QbN n m _ _ (by omega) (by omega)
theorem ZbV{r:ByteArray}{acc:List ByteArray}(h:Lib.hasPrefix r.data.toList [41]=true):zA r true acc=(r,acc,true):=by
 unfold zA Qax;rw[if_pos rfl,if_pos h]
theorem qbS{r:ByteArray}{acc:List ByteArray}(h:Lib.hasPrefix r.data.toList [41]=false)(h2:ZA r.data.toList=0):zA r true acc=zA r false acc:=by
 unfold zA Qax;rw[if_pos rfl,if_neg (by rw[h];decide),if_pos h2];rfl
theorem QbV{r:ByteArray}{acc:List ByteArray}{n:Nat}(h:Lib.hasPrefix r.data.toList [41]=false)(h2:ZA r.data.toList=n+1):zA r true acc=zA (r.extract (n+1) r.size) true (acc++[r.extract 0 (n+1)]):=by
 have hle:=zar r.data.toList;rw[QB]at hle;have hs:(r.extract (n+1) r.size).size=r.size-(n+1):=by simp
 have e:zA r true acc=Qax r.size (r.extract (n+1) r.size) (acc++[r.extract 0 (n+1)]):=by
  conv=>lhs;unfold zA Qax
  rw[if_pos rfl,if_neg (by rw[h];decide),if_neg (by omega),h2]
 rw[e];unfold zA;rw[if_pos rfl];exact QbN _ _ _ _ (by omega) (by omega)
def ZbS:Value->Nat|.string s=>s.size|_=>0
def zbB:Value->Bool|.bool b=>b|_=>false
theorem qO:(Tryz.prog.info? 9).map (fun i=>(i.zero,i.size,i.bytes))=some (some (.string .empty),1,16):=by kernel_rfl
theorem Qba(s p:ByteArray)(w:World):Calls Tryz.prog 175 #[.string s,.string p] w fun e w'=>e=.returned (.tuple #[.string ⟨(Lib.trimPrefix s.data.toList p.data.toList).toArray⟩,.bool (Lib.hasPrefix s.data.toList p.data.toList)])/\w=w' :=
 (Tryz.strings_CutPrefix s p w).mono fun _ _ h=>⟨h.1,h.2.symm⟩
theorem Zy(s p:ByteArray)(w:World):Calls Tryz.prog 145 #[.string s,.string p] w fun e w'=>e=.returned (.bool (Lib.hasPrefix s.data.toList p.data.toList))/\w=w' :=
 (Tryz.strings_HasPrefix s p w).mono fun _ _ h=>⟨h.1,h.2.symm⟩
theorem Qb8(s p:ByteArray)(w:World):Calls Tryz.prog 176 #[.string s,.string p] w fun e w'=>e=.returned (.string ⟨(Lib.trimPrefix s.data.toList p.data.toList).toArray⟩)/\w=w' :=
 (Tryz.strings_TrimPrefix s p w).mono fun _ _ h=>⟨h.1,h.2.symm⟩
theorem qL(r:ByteArray)(w:World):Calls Tryz.prog 176 #[.string r,.string ⟨#[41]⟩] w fun e w'=>e=.returned (.string (Q6 r))/\w=w':=Qb8 r ⟨#[41]⟩ w
theorem qbV(r:ByteArray):(Q6 r).size<=r.size:=by
 have h:(Lib.trimPrefix r.data.toList [41]).length<=r.data.toList.length:=by unfold Lib.trimPrefix;split<;>simp
 rw[QB]at h;have e:(Q6 r).size=(Lib.trimPrefix r.data.toList [41]).length:=by simp[Q6,ByteArray.size]
 omega
theorem Qac{g:ByteArray}(hs:g.size<=maxLen)(h:Qs g.data.toList=true)(w:World):Calls Tryz.prog 53 #[.string g] w fun e w'=>e=.returned .nilIface/\Below w.heap.size w w':=by
 have:=Zav g w hs;unfold Z3 at this;rwa [if_pos h]at this
theorem zai{g:ByteArray}(hs:g.size<=maxLen)(h:Qs g.data.toList=false)(w:World):Calls Tryz.prog 53 #[.string g] w fun e w'=>e=.returned (.iface 29 (.int .i64 1))/\Below w.heap.size w w':=by
 have:=Zav g w hs;unfold Z3 at this;rwa [if_neg (by rw[h];decide)]at this
theorem zF{n:Nat}(h:n<=9223372036854775807):n<=maxLen:=h
theorem zaa{r g:ByteArray}{acc:List ByteArray}(h5:acc.length<=5)(hr:Q6 r=g)(hg:qX g=true):QC (r,acc,true)=some (acc,g):=by
 subst hr;unfold QC;exact if_pos ⟨rfl,h5,hg⟩
theorem ZaI{r:ByteArray}{acc:List ByteArray}(h5:¬acc.length<=5):QC (r,acc,true)=none:=if_neg fun h=>h5 h.2.1
theorem zaI{r g:ByteArray}{acc:List ByteArray}(hr:Q6 r=g)(hg:qX g=false):QC (r,acc,true)=none:=by
 subst hr;exact if_neg fun h=>by have:=h.2.2;rw[hg]at this;cases this
theorem qe{w:World}{base:Nat}{e:TypeId}{size:Nat}{v:Value}{n:Nat}{xs:List Value}(h:w.ownsRow base e size v n xs):∃a c,v=.slice a n c:=by
 rcases h.2 with⟨h1,h2⟩|⟨g,cap,cur,h1,_⟩
 ·exact⟨none,0,by rw[h1,h2]⟩
 ·exact⟨_,_,h1⟩
def Qar(w:World)(m:Option (List ByteArray×ByteArray))(e:Ending)(w':World):Prop :=
 Below w.heap.size w w'/\match m with
  |none=>e=.returned (.tuple #[.slice none 0 0,.string .empty,.iface 29 (.int .i64 1)])
  |some (args,g)=>∃v,e=.returned (.tuple #[v,.string g,.nilIface])/\Qh w' v args
theorem ZbH{w w':World}{m:Option (List ByteArray×ByteArray)}(hm:m=none)(hb:Below w.heap.size w w'):
 Qar w m (.returned (.tuple #[.slice none 0 0,.string .empty,.iface 29 (.int .i64 1)])) w':=by subst hm;exact⟨hb,rfl⟩
theorem zb9{w w':World}{m:Option (List ByteArray×ByteArray)}{args:List ByteArray}{g:ByteArray}{v:Value}(hm:m=some (args,g))(hb:Below w.heap.size w w')(hv:Qh w' v args):
 Qar w m (.returned (.tuple #[v,.string g,.nilIface])) w':=by subst hm;exact⟨hb,v,rfl,hv⟩
set_option maxRecDepth 100000
theorem ZcQ(s r0:ByteArray)(is0:Bool)(w:World)(hs:s.size<=1048576)(hr0:r0.size<=s.size)(h0:Lib.trimPrefix s.data.toList [40]=r0.data.toList)(hi0:Lib.hasPrefix s.data.toList [40]=is0)(r:ByteArray)(acc:List ByteArray)(is:Bool)(hf:zA r0 is0 []=(r,acc,is))(m:Option (List ByteArray×ByteArray))(hm:QC (r,acc,is)=m):
 Calls Tryz.prog 132 #[.string s] w (Qar w m):=by
 have HMF:=Xh hm;clear hm;have HF:=Xh hf;obtain⟨i0,hi,hz0,hz1,hz2⟩:=info_parts qO;clear hf;go_enter Tryz.func132,Tryz.ntmps132;go_wp2_with (go_fit (Qba _ _ _);rintro e w'⟨rfl,rfl⟩)
 clear h0 hi0;go_loopw [5,6,7] (fun x y v wr=>∃(r1:ByteArray) (is1:Bool) (acc1:List ByteArray),Hid (zA r1 is1 acc1=(r,acc,is))/\r1.size+acc1.length<=s.size/\wr.ownsRow w.heap.size 9 1 v acc1.length (acc1.map Value.string)/\Below w.heap.size w wr/\x=.string r1/\y=.bool is1)
  (fun x y _ _=>if zbB y then ZbS x+1 else 0)
 case atStart=>exact⟨r0,is0,[],HF,by simpa using hr0,World.ownsRow_nil _ _ _ _,Xb,rfl,rfl⟩
 case round =>
  clear HF;obtain⟨r1,is1,acc1,hfin,hsz,hown,hbel,rfl,rfl⟩:=hrel;cases is1 with
  |false =>
   have hfo:=hfin.out;unfold zA at hfo;simp only[Bool.false_eq_true,if_false,Prod.mk.injEq]at hfo;obtain⟨rfl,rfl,rfl⟩:=hfo;have hno:Hid (m=none):=(by unfold Hid;rw[<-HMF.out];simp[QC]);clear hfin HMF hown;go_wp2_with (go_fit (qL _ _);rintro e w'⟨rfl,rfl⟩)
   go_ret3;exact ZbH hno.out hbel
  |true =>
   cases hp:Lib.hasPrefix r1.data.toList [41] with
   |true =>
    have hfo:=hfin.out;rw[ZbV hp]at hfo;simp only[Prod.mk.injEq]at hfo;obtain⟨rfl,rfl,rfl⟩:=hfo;clear hfin;have hgs:(Q6 r1).size<=maxLen:=zF (by have:=qbV r1;omega);have HMF2:Hid (QC (r1,acc1,true)=m):=HMF.out;clear HMF;obtain⟨va,vc,rfl⟩:=qe hown;generalize hg:Q6 r1=g at *;by_cases h5:acc1.length<=5
    ·cases hV:(g.toList==[86]) with
     |true =>
      have hyes:Hid (m=some (acc1,g)):=(by unfold Hid;rw[<-HMF2.out];exact zaa h5 hg (by simp[qX,hV]));have hv:=Xh (Ze hown);have HG:=Xh hgs;clear hown HMF2 hgs;go_wp2_with (first|(go_fit (Zy _ _ _);rintro e w'⟨rfl,rfl⟩)|(go_fit (qL _ _);rintro e w'⟨rfl,rfl⟩))
      go_ret3;exact zb9 hyes.out hbel hv.out
     |false =>
      cases hT:Qs g.data.toList with
      |true =>
       have hyes:Hid (m=some (acc1,g)):=(by unfold Hid;rw[<-HMF2.out];exact zaa h5 hg (by simp[qX,hT]));have hC:=Xh (Qac hgs hT);have HO:=Xh hown;clear hown HMF2 hgs hT;go_wp2_with (first|(go_fit (Zy _ _ _);rintro e w'⟨rfl,rfl⟩)|(go_fit (qL _ _);rintro e w'⟨rfl,rfl⟩)|(go_fit (hC.out _);rintro e w2⟨rfl,hB⟩))
       go_ret3;exact zb9 hyes.out (hbel.trans (hB.mono hbel.size)) (Ze (qr HO.out hB))
      |false =>
       have hno:Hid (m=none):=(by unfold Hid;rw[<-HMF2.out];exact zaI hg (by simp[qX,hT,hV]));have hC:=Xh (zai hgs hT);clear hown HMF2 hgs hT;go_wp2_with (first|(go_fit (Zy _ _ _);rintro e w'⟨rfl,rfl⟩)|(go_fit (qL _ _);rintro e w'⟨rfl,rfl⟩)|(go_fit (hC.out _);rintro e w2⟨rfl,hB⟩))
       go_ret3;exact ZbH hno.out (hbel.trans (hB.mono hbel.size))
    ·have hno:Hid (m=none):=(by unfold Hid;rw[<-HMF2.out];exact ZaI h5);clear HMF2 hgs hown;go_wp2_with (first|(go_fit (Zy _ _ _);rintro e w'⟨rfl,rfl⟩)|(go_fit (qL _ _);rintro e w'⟨rfl,rfl⟩))
     go_ret3;exact ZbH hno.out hbel
   |false =>
    cases ht:ZA r1.data.toList with
    |zero =>
     have HT:=Xh ht;have HN:Hid (zA r1 false acc1=(r,acc,is)):=(by unfold Hid;rw[<-qbS hp ht];exact hfin.out);clear ht hfin;go_wp2_with (first|(go_fit (Zy _ _ _);rintro e w'⟨rfl,rfl⟩)|(go_fit (qcv (zF (by omega)) HT.out _);rintro e w2⟨rfl,hB⟩))
     go_roundw;case rel=>exact⟨r1,false,acc1,HN,hsz,qr hown hB,hbel.trans (hB.mono hbel.size),rfl,rfl⟩
     case measure=>simp[zbB]
    |succ n =>
     have hle:=zar r1.data.toList;rw[QB,ht]at hle;have HT:=Xh ht;have HN:Hid (zA (r1.extract (n+1) r1.size) true (acc1++[r1.extract 0 (n+1)])=(r,acc,is)):=(by unfold Hid;rw[<-QbV hp ht];exact hfin.out);have hx1:(r1.extract (n+1) r1.size).size=r1.size-(n+1):=(by simp);have HX:=Xh hx1;clear ht hfin hx1;generalize hr2:r1.extract (n+1) r1.size=r2 at HN HX;generalize hx:r1.extract 0 (n+1)=x1 at HN;go_wp2_with (go_fit (Zy _ _ _);rintro e w'⟨rfl,rfl⟩)
     (with_reducible refine(qbo (zF (by omega)) HT.out _).mono ?_)
     rintro e w2⟨rfl,hB⟩;have ho:=qr hown hB;have hb2:Below w.heap.size w (w2.alloc (.cells #[.string x1] 9)):=(hbel.trans (hB.mono hbel.size)).alloc (Xf hbel.size hB.size) _;have c2:∀u∈[Value.string x1],u.oneCell'=true:=fun u hu=>by simp at hu;subst hu;rfl
     have c3:acc1.length+1<=maxLen:=zF (by omega);have c4:(acc1.length+1)*16<=140737488355328:=(by omega);have c5:=hb2.size;have HB2:=Xh hb2;have HZ:Hid ((r2.size:Nat)+(acc1++[x1]).length<=s.size):=(by unfold Hid;rw[HX.out];simp;omega);have HM:Hid (r2.size<r1.size):=(by unfold Hid;rw[HX.out];omega);clear hown hB hbel hb2 hle hsz hr0 HX HT;go_wp2_with (at_builtin;refine wpList_append_own _ rfl _ _ 25 rfl w.heap.size 9 i0 (.string .empty) 1 16 Tryz.underlying25 hi hz0 hz1 hz2 rfl (by decide) _ _ _ rfl (ho.alloc _) ⟨w2.heap.size,0,none⟩ 1 1 [.string x1] rfl rfl (cell_one_new _ _ _) c2 c3 c4 c5 ?_;intro v2 w3 hown3 hgrow3 _)
     have hb3:Below w.heap.size w w3:=HB2.out.grown hgrow3 c5 (fun k hk=>(ho.lt k hk).1);have hown4:w3.ownsRow w.heap.size 9 1 v2 (acc1++[x1]).length ((acc1++[x1]).map Value.string):=(by simpa using hown3);go_roundw;case rel=>exact⟨r2,true,acc1++[x1],HN,HZ,hown4,hb3,rfl,rfl⟩
     case measure=>have:=HM.out;simp[zbB,ZbS];omega
set_option maxRecDepth 512
theorem Qan(s:ByteArray)(w:World)(hs:s.size<=1048576):Calls Tryz.prog 132 #[.string s] w (Qar w (zm s)):=by
 have hsz:(Lib.trimPrefix s.data.toList [40]).length<=s.data.toList.length:=by unfold Lib.trimPrefix;split<;>simp
 rw[QB]at hsz;exact ZcQ s ⟨(Lib.trimPrefix s.data.toList [40]).toArray⟩ (Lib.hasPrefix s.data.toList [40]) w hs (by show(Lib.trimPrefix s.data.toList [40]).toArray.size<=s.size;rw[List.size_toArray];exact hsz) rfl rfl _ _ _ rfl _ rfl
end Go.Proofs.YtlmfmioljeppfaaGreatDoor
