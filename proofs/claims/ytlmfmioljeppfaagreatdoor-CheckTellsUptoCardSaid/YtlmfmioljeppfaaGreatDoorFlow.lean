/- Lemmas; conditions: as each states. -/
import Derived.Test.YtlmfmioljeppfaaGreatDoorMethodText
import Derived.Deep.DeepCutAuto
import Derived.Deep.RegionHeld3
set_option maxHeartbeats 4000000
namespace Go.Proofs.YtlmfmioljeppfaaGreatDoor
open Go.RowKit Go.Shelf Go.Lib
def ZW(x:Ins):Value:=.agg #[.int .i64 x.op,.int .i64 x.a,.int .i64 x.b,.string x.type,.string x.cls,.string x.name]
def qbz(n:Int):Prop:=-9223372036854775808<=n/\n<=9223372036854775807
structure QaK (x:Ins):Prop where
 op:qbz x.op
 a:qbz x.a
 b:qbz x.b
 type:x.type.size<=1048576
 cls:x.cls.size<=1048576
 name:x.name.size<=1048576
theorem Za6(op:Int)(w:World):Calls Tryz.prog 70 #[.int .i64 op] w fun e w'=>e=.returned (.bool (qC op))/\w=w':=by
 go_enter Tryz.func70,Tryz.ntmps70;go_wp2
 all_goals
  go_ret;exact⟨zx (by simp[qC, *]),rfl⟩
theorem qdr(a:Int):(a==wrap64 (wrap32 a))=(decide (-2147483648<=a)&&decide (a<=2147483647)):=by
 rw[Bool.eq_iff_iff];simp;unfold wrap64 wrap32;omega
theorem Qc2(x:Ins)(w:World):Calls Tryz.prog 95 #[ZW x] w fun e w'=>e=.returned (.bool (ZM x))/\Below w.heap.size w w':=by
 obtain⟨op,a,b,type,cls,name⟩:=x;unfold ZW;by_cases h2:op=2
 ·subst h2;have hw:=qdr a;cases hI:(type.toList==[73]) with
  |true =>
   have hfin:Hid (ZM ⟨2,a,b,type,cls,name⟩=(decide (-2147483648<=a)&&decide (a<=2147483647))):=by
    unfold Hid ZM;rw[if_pos rfl,lst,<-ByteArray.toList_eq,hI];rfl
   go_enter Tryz.func95,Tryz.ntmps95;go_wp2
   go_ret;exact⟨zx (by rw[hfin.out]),Xb.alloc Xl _⟩
  |false =>
   have hfin:Hid (ZM ⟨2,a,b,type,cls,name⟩=true):=by
    unfold Hid ZM;rw[if_pos rfl,lst,<-ByteArray.toList_eq,hI];rfl
   go_enter Tryz.func95,Tryz.ntmps95;go_wp2
   go_ret;exact⟨zx (by rw[hfin.out]),Xb.alloc Xl _⟩
 have n2:(op==2)=false:=by simpa using h2
 by_cases h4:op=4\/op=5
 ·have hfin:Hid (ZM ⟨op,a,b,type,cls,name⟩=(decide (0<=a)&&decide (a<8))):=by
   unfold Hid ZM;rw[if_neg h2,if_pos h4]
  rcases h4 with rfl|rfl;all_goals
   clear h2 n2;go_enter Tryz.func95,Tryz.ntmps95;go_wp2
   all_goals
    go_ret;exact⟨zx (by rw[hfin.out,Bool.eq_iff_iff];simp;omega),Xb.alloc Xl _⟩
 have n4:(op==4)=false:=by simp;omega
 have n5:(op==5)=false:=by simp;omega
 by_cases h9:op=9
 ·have hfin:Hid (ZM ⟨op,a,b,type,cls,name⟩=(decide (1<=a)&&decide (a<=12))):=by
   unfold Hid ZM;rw[if_neg h2,if_neg h4,if_pos h9]
  subst h9;clear h2 n2 h4 n4 n5;go_enter Tryz.func95,Tryz.ntmps95;go_wp2
  all_goals
   go_ret;exact⟨zx (by rw[hfin.out,Bool.eq_iff_iff];simp;omega),Xb.alloc Xl _⟩
 have n9:(op==9)=false:=by simpa using h9
 have hfin:Hid (ZM ⟨op,a,b,type,cls,name⟩=(!qC op||(decide (0<=a)&&decide (a<=40)&&decide (0<=b)&&decide (b<=5)))):=by
  unfold Hid ZM;rw[if_neg h2,if_neg h4,if_neg h9]
 clear h2 h4 h9;cases hj:qC op with
 |false =>
  go_enter Tryz.func95,Tryz.ntmps95;go_wp2_with (go_fit (Za6 _ _);rintro e w'⟨rfl,rfl⟩)
  all_goals
   go_ret;exact⟨zx (by rw[hfin.out,hj];rfl),Xb.alloc Xl _⟩
 |true =>
  go_enter Tryz.func95,Tryz.ntmps95;go_wp2_with (go_fit (Za6 _ _);rintro e w'⟨rfl,rfl⟩)
  all_goals
   go_ret;exact⟨zx (by rw[hfin.out,hj,Bool.eq_iff_iff];simp;omega),Xb.alloc Xl _⟩
theorem Zcf{s:ByteArray}(hs:s.size<=1048576)(h:zm s=none)(w:World):Calls Tryz.prog 132 #[.string s] w fun e w'=>e=.returned (.tuple #[.slice none 0 0,.string .empty,.iface 29 (.int .i64 1)])/\Below w.heap.size w w':=by
 have:=Qan s w hs;rw[h]at this;exact this.mono fun e w' ⟨h1,h2⟩=>⟨h2,h1⟩
def Qdr(w:World)(args:List ByteArray)(g:ByteArray)(e:Ending)(w':World):Prop:=∃a c,e=.returned (.tuple #[.slice a args.length c,.string g,.nilIface])/\Qh w' (.slice a args.length c) args/\Below w.heap.size w w'
theorem qbr{w:World}{v:Value}{l:List ByteArray}(h:Qh w v l):∃a c,v=.slice a l.length c:=by
 rcases h with⟨h1,h2⟩|⟨a,c,h1,_⟩
 ·exact⟨none,0,by rw[h1,h2];rfl⟩
 ·exact⟨_,_,h1⟩
theorem zb1{s:ByteArray}{args:List ByteArray}{g:ByteArray}(hs:s.size<=1048576)(h:zm s=some (args,g))(w:World):Calls Tryz.prog 132 #[.string s] w (Qdr w args g):=by
 have:=Qan s w hs;rw[h]at this;refine this.mono fun e w' ⟨h1,v,h2,h3⟩=>?_
 obtain⟨a,c,rfl⟩:=qbr h3;exact⟨a,c,h2,h3,h1⟩
theorem qaC{w w1:World}(hb:Below w.heap.size w w1):(∀b o,b<w.heap.size->w1.cell? ⟨b,o,none⟩=w.cell? ⟨b,o,none⟩)/\(∀b o,b<w.heap.size->w1.frozen? ⟨b,o,none⟩=w.frozen? ⟨b,o,none⟩) :=
 ⟨fun b o h=>hb.cell (p:=⟨b,o,none⟩) h,fun b o h=>hb.frozen (p:=⟨b,o,none⟩) h⟩
theorem zas{w w1 w2:World}(h:Below w.heap.size w w1)(h2:Below w1.heap.size w1 w2):Below w.heap.size w w2:=h.trans (h2.mono h.size)
theorem zds(x:Ins)(w:World)(h:x.op=2\/x.op=9\/x.op=10):Calls Tryz.prog 96 #[ZW x] w fun e w'=>e=.returned (.bool (Qx x))/\Below w.heap.size w w':=by
 obtain⟨op,a,b,type,cls,name⟩:=x;have hfin:Hid (Qx ⟨op,a,b,type,cls,name⟩=Qag type.data.toList):=by unfold Hid Qx;rw[if_pos h]
 unfold ZW;rcases h with rfl|rfl|rfl;all_goals
  go_enter Tryz.func96,Tryz.ntmps96;go_wp2_with (go_fit (zbj _ _);rintro e w'⟨rfl,rfl⟩)
  go_ret;exact⟨zx (by rw[hfin.out]),Xb.alloc Xl _⟩
theorem Zds(x:Ins)(w:World)(hs:x.type.size<=1048576)(h:x.op=22\/x.op=23):Calls Tryz.prog 96 #[ZW x] w fun e w'=>e=.returned (.bool (Qx x))/\Below w.heap.size w w':=by
 obtain⟨op,a,b,type,cls,name⟩:=x;have hm:type.size<=maxLen:=zF (Xf hs (by decide));replace h:op=22\/op=23:=h;have hfin:Hid (Qx ⟨op,a,b,type,cls,name⟩=(Qs type.data.toList&&!Qag type.data.toList)):=by
  unfold Hid Qx;rw[if_neg (by simp;omega),if_neg (by simp;omega),if_pos h]
 unfold ZW;cases hT:Qs type.data.toList with
 |false =>
  have hC:=Xh (zai hm hT);have HT:=Xh hT;clear hT;rcases h with rfl|rfl;all_goals
   go_enter Tryz.func96,Tryz.ntmps96;go_wp2_with (go_fit (hC.out _);rintro e w2⟨rfl,hB⟩)
   go_ret;exact⟨zx (by rw[hfin.out,HT.out];rfl),zas (Xb.alloc Xl _) hB⟩
 |true =>
  have hC:=Xh (Qac hm hT);have HT:=Xh hT;clear hT;rcases h with rfl|rfl;all_goals
   go_enter Tryz.func96,Tryz.ntmps96;go_wp2_with (first|(go_fit (hC.out _);rintro e w2⟨rfl,hB⟩;obtain⟨hcl,hfr⟩:=qaC hB)|(go_fit (zbj _ _);rintro e w'⟨rfl,rfl⟩))
   go_ret;exact⟨zx (by rw[hfin.out,HT.out];rfl),zas (Xb.alloc Xl _) hB⟩
theorem zc3(x:Ins)(w:World)(hs:x.type.size<=1048576)(h:x.op=24\/x.op=25):Calls Tryz.prog 96 #[ZW x] w fun e w'=>e=.returned (.bool (Qx x))/\Below w.heap.size w w':=by
 obtain⟨op,a,b,type,cls,name⟩:=x;replace h:op=24\/op=25:=h;replace hs:type.size<=1048576:=hs;have hfin:Hid (Qx ⟨op,a,b,type,cls,name⟩=(zm type).isSome):=by
  unfold Hid Qx;rw[if_neg (by simp;omega),if_neg (by simp;omega),if_neg (by simp;omega),if_pos h]
 unfold ZW;cases hm:zm type with
 |none =>
  have hC:=Xh (Zcf hs hm);have HT:=Xh hm;clear hm;rcases h with rfl|rfl;all_goals
   go_enter Tryz.func96,Tryz.ntmps96;go_wp2_with (go_fit (hC.out _);rintro e w2⟨rfl,hB⟩)
   go_ret;exact⟨zx (by rw[hfin.out,HT.out];rfl),zas (Xb.alloc Xl _) hB⟩
 |some m =>
  obtain⟨args,g⟩:=m;have hC:=Xh (zb1 hs hm);have HT:=Xh hm;clear hm;rcases h with rfl|rfl;all_goals
   go_enter Tryz.func96,Tryz.ntmps96;go_wp2_with (go_fit (hC.out _);rintro e w2⟨va,vc,rfl,hV,hB⟩)
   go_ret;exact⟨zx (by rw[hfin.out,HT.out];rfl),zas (Xb.alloc Xl _) hB⟩
theorem Zc3(x:Ins)(w:World)(h:¬(x.op=2\/x.op=9\/x.op=10))(h2:¬(x.op=18\/x.op=20\/x.op=21))(h3:¬(x.op=22\/x.op=23))(h4:¬(x.op=24\/x.op=25)):Calls Tryz.prog 96 #[ZW x] w fun e w'=>e=.returned (.bool (Qx x))/\Below w.heap.size w w':=by
 obtain⟨op,a,b,type,cls,name⟩:=x;have hfin:Hid (Qx ⟨op,a,b,type,cls,name⟩=true):=by
  unfold Hid Qx;rw[if_neg h,if_neg h2,if_neg h3,if_neg h4]
 simp only[not_or]at h h2 h3 h4;have n2:(op==2)=false:=by simp[h.1]
 have n9:(op==9)=false:=by simp[h.2.1]
 have n10:(op==10)=false:=by simp[h.2.2]
 have n18:(op==18)=false:=by simp[h2.1]
 have n20:(op==20)=false:=by simp[h2.2.1]
 have n21:(op==21)=false:=by simp[h2.2.2]
 have n22:(op==22)=false:=by simp[h3.1]
 have n23:(op==23)=false:=by simp[h3.2]
 have n24:(op==24)=false:=by simp[h4.1]
 have n25:(op==25)=false:=by simp[h4.2]
 unfold ZW;clear h h2 h3 h4;go_enter Tryz.func96,Tryz.ntmps96;go_wp2_with fail;go_ret;exact⟨zx (by rw[hfin.out]),Xb.alloc Xl _⟩
theorem Zbj(t:ByteArray):((⟨#[91]⟩:ByteArray)++t).data.toList=91::t.data.toList:=by
 simp[ByteArray.data_append]
theorem qc3(t:ByteArray):((⟨#[91]⟩:ByteArray)++t).size=t.size+1:=by
 rw[<-QB,Zbj,List.length_cons,QB]
theorem qds(x:Ins)(w:World)(hs:x.type.size<=1048576)(h:x.op=18\/x.op=20\/x.op=21):Calls Tryz.prog 96 #[ZW x] w fun e w'=>e=.returned (.bool (Qx x))/\Below w.heap.size w w':=by
 obtain⟨op,a,b,type,cls,name⟩:=x;have hm:type.size<=maxLen:=zF (Xf hs (by decide));replace h:op=18\/op=20\/op=21:=h;replace hs:type.size<=1048576:=hs;have hfin:Hid (Qx ⟨op,a,b,type,cls,name⟩=(Qs type.data.toList&&Qs (91::type.data.toList))):=by
  unfold Hid Qx;rw[if_neg (by simp;omega),if_pos h]
 unfold ZW;cases hT:Qs type.data.toList with
 |false =>
  have hC:=Xh (zai hm hT);have HT:=Xh hT;clear hT;rcases h with rfl|rfl|rfl;all_goals
   go_enter Tryz.func96,Tryz.ntmps96;go_wp2_with (go_fit (hC.out _);rintro e w2⟨rfl,hB⟩)
   go_ret;exact⟨zx (by rw[hfin.out,HT.out];rfl),zas (Xb.alloc Xl _) hB⟩
 |true =>
  have hC:=Xh (Qac hm hT);have HT:=Xh hT;have hm2:((⟨#[91]⟩:ByteArray)++type).size<=maxLen:=zF (by rw[qc3];omega);clear hT;cases hT2:Qs ((⟨#[91]⟩:ByteArray)++type).data.toList with
  |false =>
   have hC2:=Xh (zai hm2 hT2);have HT2:=Xh hT2;clear hT2;rcases h with rfl|rfl|rfl;all_goals
    go_enter Tryz.func96,Tryz.ntmps96;go_wp2_with (first|(go_fit (hC.out _);rintro e w2⟨rfl,hB⟩;obtain⟨hcl,hfr⟩:=qaC hB)|(go_fit (hC2.out _);rintro e w3⟨rfl,hB2⟩))
    go_ret;exact⟨zx (by rw[hfin.out,HT,<-Zbj,HT2.out];rfl),zas (zas (Xb.alloc Xl _) hB) hB2⟩
  |true =>
   have hC2:=Xh (Qac hm2 hT2);have HT2:=Xh hT2;clear hT2;rcases h with rfl|rfl|rfl;all_goals
    go_enter Tryz.func96,Tryz.ntmps96;go_wp2_with (first|(go_fit (hC.out _);rintro e w2⟨rfl,hB⟩;obtain⟨hcl,hfr⟩:=qaC hB)|(go_fit (hC2.out _);rintro e w3⟨rfl,hB2⟩))
    go_ret;exact⟨zx (by rw[hfin.out,HT,<-Zbj,HT2.out];rfl),zas (zas (Xb.alloc Xl _) hB) hB2⟩
theorem Qds(x:Ins)(w:World)(hs:x.type.size<=1048576):Calls Tryz.prog 96 #[ZW x] w fun e w'=>e=.returned (.bool (Qx x))/\Below w.heap.size w w':=by
 by_cases h1:x.op=2\/x.op=9\/x.op=10
 ·exact zds x w h1
 by_cases h2:x.op=18\/x.op=20\/x.op=21
 ·exact qds x w hs h2
 by_cases h3:x.op=22\/x.op=23
 ·exact Zds x w hs h3
 by_cases h4:x.op=24\/x.op=25
 ·exact zc3 x w hs h4
 exact Zc3 x w h1 h2 h3 h4
def Qbz:List (List UInt8):=[[],[110,111,112],[112,117,115,104],[110,117,108,108],[108,111,97,100],[115,116,111,114,101],[112,111,112],[100,117,112],[115,119,97,112],[109,97,116,104],[99,111,110,118],[111,114,100,101,114],[105,102],[105,102,110,117,108,108],[103,111,116,111],[110,101,119],[103,101,116],[112,117,116],[110,101,119,97,114,114,97,121],[108,101,110,103,116,104],[97,108,111,97,100],[97,115,116,111,114,101],[99,97,115,116],[105,115],[99,97,108,108],[99,97,108,108,115],[114,101,116,117,114,110],[103,105,118,101],[116,104,114,111,119]]
def zbA:List (List UInt8):=[[],[],[65,84],[],[65],[65],[],[],[],[65,84],[84],[],[65,66],[65],[65],[67],[67,78],[67,78],[84],[],[84],[84],[84],[84],[84,67,78],[84,67,78],[],[],[]]
def ZbA(op:Nat):ByteArray:=⟨(Qbz.getD op []).toArray⟩
def Zaj(op:Nat):ByteArray:=⟨(zbA.getD op []).toArray⟩
def Qaw(w:World):Prop:=0<w.heap.size/\∀i,i<29->w.cell? ⟨0,i*2,none⟩=some (.string (ZbA i))/\w.cell? ⟨0,i*2+1,none⟩=some (.string (Zaj i))
theorem Qaw.mono{B:Nat}{w w':World}(h:Qaw w)(hb:Below B w w')(hB:0<B):Qaw w' :=
 ⟨Nat.lt_of_lt_of_le h.1 hb.size,fun i hi=>⟨(hb.cell (p:=⟨_,_,none⟩) hB).trans (h.2 i hi).1,(hb.cell (p:=⟨_,_,none⟩) hB).trans (h.2 i hi).2⟩⟩
theorem zek(op:Int)(w:World)(h:op<1\/28<op):Calls Tryz.prog 92 #[.int .i64 op] w fun e w'=>e=.returned (.tuple #[.agg #[.string .empty,.string .empty],.bool false])/\Below w.heap.size w w':=by
 rcases h with h|h;all_goals
  go_enter Tryz.func92,Tryz.ntmps92;go_wp2
  exact bodyPost_ret (v:=.tuple #[.agg #[.string .empty,.string .empty],.bool false]) (by simp[results,Tryz.results92,go_sem];rfl) rfl ⟨rfl,Xb.alloc Xl _⟩
theorem zd8(op:Nat)(w:World)(h1:1<=op)(h2:op<=28)(hl:Qaw w):Calls Tryz.prog 92 #[.int .i64 op] w fun e w'=>e=.returned (.tuple #[.agg #[.string (ZbA op),.string (Zaj op)],.bool true])/\Below w.heap.size w w':=by
 obtain⟨c1,c2⟩:=hl.2 op (by omega);have hg:=hl.1;generalize ZbA op=wd at *;generalize Zaj op=nd at *;clear hl;go_enter Tryz.func92,Tryz.ntmps92;go_wp2
 exact bodyPost_ret (v:=.tuple #[.agg #[.string wd,.string nd],.bool true]) (by simp[results,Tryz.results92,go_sem]) rfl ⟨rfl,Xb.alloc Xl _⟩
def QaZ(nd:ByteArray)(c:UInt8):Bool:=decide (0<=Lib.indexByte nd.data.toList c)
theorem zdt(wd nd:ByteArray)(c:UInt8)(B:Nat)(w:World)(_h0:w.cell? ⟨B,0,none⟩=some (.string wd))(h1:w.cell? ⟨B,1,none⟩=some (.string nd)):
 Calls Tryz.prog 93 #[.string ⟨#[c]⟩,.pointer (some ⟨B,0,none⟩)] w fun e w'=>e=.returned (.bool (QaZ nd c))/\w=w':=by
 have hC:Hid (∀w,Calls Tryz.prog 94 #[.string nd,.string ⟨#[c]⟩] w fun e w'=>e=.returned (.bool (QaZ nd c))/\w=w'):=fun w=>(Tryz.strings_Contains_one nd c w).mono fun _ _ h=>⟨h.1,h.2.symm⟩
 go_enter Tryz.func93,Tryz.ntmps93;go_wp2_with (go_fit (hC.out _);rintro e w'⟨rfl,rfl⟩)
 go_ret;exact⟨rfl,rfl⟩
theorem zdP:∀op:Nat,op<29->1<=op->QaZ (Zaj op) 65=Zb1 op/\QaZ (Zaj op) 66=qb1 op/\QaZ (Zaj op) 84=qbK op/\QaZ (Zaj op) 67=qbb op/\QaZ (Zaj op) 78=Qbb op:=by
 decide
theorem Qcw(x:Ins)(w:World)(h:x.op<1\/28<x.op):Calls Tryz.prog 52 #[ZW x] w fun e w'=>e=.returned (zE (Zi x))/\Below w.heap.size w w':=by
 obtain⟨op,a,b,type,cls,name⟩:=x;replace h:op<1\/28<op:=h;have hf:zE (Zi ⟨op,a,b,type,cls,name⟩)=zE 1:=by unfold Zi;rw[if_pos h]
 rw[hf];clear hf;have hO:Hid (∀w,_):=fun w=>zek op w h
 clear h;unfold ZW;go_enter Tryz.func52,Tryz.ntmps52;go_wp2_with (go_fit (hO.out _);rintro e w2⟨rfl,hB⟩)
 go_ret;exact⟨rfl,(zas (Xb.alloc Xl _) hB).alloc (Xf (by simp) hB.size) _⟩
theorem zbc{s:ByteArray}(hs:s.size<=1048576){v:Value}(hv:zE (Zw s)=v)(w:World):Calls Tryz.prog 97 #[.string s] w fun e w'=>e=.returned v/\Below w.heap.size w w':=by
 subst hv;exact ZQ s w (zF (Xf hs (by decide)))
set_option maxRecDepth 100000
theorem qcf(op:Nat)(a b:Int)(type cls name:ByteArray)(w:World)(h1:1<=op)(h2:op<=28)(hl:Qaw w)(hs:QaK ⟨op,a,b,type,cls,name⟩):Calls Tryz.prog 52 #[ZW ⟨op,a,b,type,cls,name⟩] w fun e w'=>e=.returned (zE (Zi ⟨op,a,b,type,cls,name⟩))/\Below w.heap.size w w':=by
 have hO:Hid (∀w,Qaw w->_):=fun w hl=>zd8 op w h1 h2 hl
 have hR:Hid (∀w,_):=fun w=>Qc2 ⟨op,a,b,type,cls,name⟩ w
 have hY:Hid (∀w,_):=fun w=>Qds ⟨op,a,b,type,cls,name⟩ w hs.type
 obtain⟨e1,e2,e3,e4,e5⟩:=zdP op (by omega) h1;have hN:∀(k:Bool) (c:UInt8),QaZ (Zaj op) c=k->Hid (∀B w,w.cell? ⟨B,0,none⟩=some (.string (ZbA op))->w.cell? ⟨B,1,none⟩=some (.string (Zaj op))->Calls Tryz.prog 93 #[.string ⟨#[c]⟩,.pointer (some ⟨B,0,none⟩)] w fun e w'=>e=.returned (.bool k)/\w=w') :=
  fun k c hk B w d0 d1=>hk▸zdt _ _ c B w d0 d1
 have hA:=hN _ _ e1;have hBn:=hN _ _ e2;have hT:=hN _ _ e3;have hC:=hN _ _ e4;have hM:=hN _ _ e5;clear hN e1 e2 e3 e4 e5;have hf:Hid (Zi ⟨op,a,b,type,cls,name⟩=if ((!Zb1 op&&a != 0)||(!qb1 op&&b != 0)||(!qbK op&&type.size != 0)||(!qbb op&&cls.size != 0)||(!Qbb op&&name.size != 0))=true then 1 else if (!ZM ⟨op,a,b,type,cls,name⟩)=true then 2 else if (!Qx ⟨op,a,b,type,cls,name⟩||(qbb op&&!Qt (lst cls))||(Qbb op&&!Qt (lst name)))=true then 1 else 0):=by
  unfold Hid Zi;rw[if_neg (by simp;omega)]
 have hvc:∃v k,zE (Zw cls)=v/\Qt (lst cls)=k/\((v=.nilIface/\k=true)\/(v=.iface 29 (.int .i64 1)/\k=false)):=by
  refine⟨_,_,rfl,rfl,?_⟩;unfold Zw lst;cases Qt cls.data.toList<;>simp[zE]
 have hvn:∃v k,zE (Zw name)=v/\Qt (lst name)=k/\((v=.nilIface/\k=true)\/(v=.iface 29 (.int .i64 1)/\k=false)):=by
  refine⟨_,_,rfl,rfl,?_⟩;unfold Zw lst;cases Qt name.data.toList<;>simp[zE]
 obtain⟨vc,kc,hvc,hkc,hvc2⟩:=hvc;obtain⟨vn,kn,hvn,hkn,hvn2⟩:=hvn;have hNC:Hid (∀w,_):=fun w=>zbc (s:=cls) hs.cls hvc w
 have hNN:Hid (∀w,_):=fun w=>zbc (s:=name) hs.name hvn w
 rw[hkc,hkn]at hf;clear hvc hkc hvn hkn hs;have z1:(type.size != 0)=!type.toList.isEmpty:=by rw[ZD];rfl
 have z2:(cls.size != 0)=!cls.toList.isEmpty:=by rw[ZD];rfl
 have z3:(name.size != 0)=!name.toList.isEmpty:=by rw[ZD];rfl
 rw[z1,z2,z3]at hf;clear z1 z2 z3;generalize Zi ⟨op,a,b,type,cls,name⟩=res at *;generalize ZbA op=wd at *;generalize Zaj op=nd at *;generalize ZM ⟨op,a,b,type,cls,name⟩=kR at *;generalize Qx ⟨op,a,b,type,cls,name⟩=kY at *;generalize Zb1 op=kA at *;generalize qb1 op=kB at *;generalize qbK op=kT at *;generalize qbb op=kC at *;generalize Qbb op=kN at *;generalize (op:Int)=z at *;obtain⟨za,hza⟩:∃k,(a==0)=k:=⟨_,rfl⟩;obtain⟨zb,hzb⟩:∃k,(b==0)=k:=⟨_,rfl⟩;have hza2:=Xh (show za=decide (a=0) by rw[<-hza];rfl);have hzb2:=Xh (show zb=decide (b=0) by rw[<-hzb];rfl);obtain⟨zt,hzt⟩:∃k,type.toList.isEmpty=k:=⟨_,rfl⟩;obtain⟨zc,hzc⟩:∃k,cls.toList.isEmpty=k:=⟨_,rfl⟩;obtain⟨zn,hzn⟩:∃k,name.toList.isEmpty=k:=⟨_,rfl⟩;rw[hzt,hzc,hzn,show(a != 0)=!za by rw[<-hza];rfl,show(b != 0)=!zb by rw[<-hzb];rfl]at hf;have hmf:∀fn first cap w,(Instr.makeFunc fn first cap).run Tryz.prog w=.ok (.func fn first cap) w:=fun _ _ _ _=>rfl
 unfold ZW at *;go_enter Tryz.func52,Tryz.ntmps52;go_upto_region 5 with(go_fit (hO.out _ ?_);(exact hl.mono (Xb.alloc Xl _) hl.1);rintro e w2⟨rfl,hB⟩;obtain⟨hcl,hfr⟩:=qaC hB)
 have hsz:=hB.size;simp only[World.size_alloc]at hsz;have hall:=(Below.refl w2.heap.size w2).alloc Xl (Obj.cells #[.string wd,.string nd] 143);have hq:∀o,(w2.alloc (Obj.cells #[.string wd,.string nd] 143)).cell? ⟨w.heap.size,o,none⟩=(w.alloc (Obj.cells #[.int .i64 z,.int .i64 a,.int .i64 b,.string type,.string cls,.string name] 24)).cell? ⟨w.heap.size,o,none⟩:=fun o =>
  (hall.cell (p:=⟨_,_,none⟩) (show w.heap.size<w2.heap.size by omega)).trans (hcl _ _ (by simp))
 have q0:=hq 0;have q1:=hq 1;have q2:=hq 2;have q3:=hq 3;have q4:=hq 4;have q5:=hq 5;simp at q0 q1 q2 q3 q4 q5;have d0:(w2.alloc (Obj.cells #[.string wd,.string nd] 143)).cell? ⟨w2.heap.size,0,none⟩=some (.string wd):=by simp
 have d1:(w2.alloc (Obj.cells #[.string wd,.string nd] 143)).cell? ⟨w2.heap.size,1,none⟩=some (.string nd):=by simp
 have hB3:Below w.heap.size w (w2.alloc (Obj.cells #[.string wd,.string nd] 143)):=(zas (Xb.alloc Xl _) hB).alloc (by omega) _;have hs3:w2.heap.size<(w2.alloc (Obj.cells #[.string wd,.string nd] 143)).heap.size:=by simp
 clear hq hall hcl hfr hB hO;generalize w2.alloc (Obj.cells #[.string wd,.string nd] 143)=w3 at *;generalize w2.heap.size=b3 at *;generalize hb1:w.heap.size=b1 at *;replace hb1:=Xh hb1;generalize Value.agg #[.int .i64 z,.int .i64 a,.int .i64 b,.string type,.string cls,.string name]=ag;go_cut [63] (fun s63 wx=>s63=.bool ((!kA&&!za)||(!kB&&!zb)||(!kT&&!zt)||(!kC&&!zc)||(!kN&&!zn))/\wx=w3)
 case first =>
  clear hR hY hNC hNN hf hB3;go_wp2_with (first
   |(go_fit (hA.out _ _ d0 d1);rintro e w4⟨rfl,rfl⟩)
   |(go_fit (hBn.out _ _ d0 d1);rintro e w4⟨rfl,rfl⟩)
   |(go_fit (hT.out _ _ d0 d1);rintro e w4⟨rfl,rfl⟩)
   |(go_fit (hC.out _ _ d0 d1);rintro e w4⟨rfl,rfl⟩)
   |(go_fit (hM.out _ _ d0 d1);rintro e w4⟨rfl,rfl⟩))
  all_goals
   go_meet;exact⟨by first|(simp[*];done)|(simp[*,hza2.out,hzb2.out];done),rfl⟩
 case rest =>
  obtain⟨rfl,rfl⟩:=hcut;generalize ((!kA&&!za)||(!kB&&!zb)||(!kT&&!zt)||(!kC&&!zc)||(!kN&&!zn))=bad at *;clear hA hBn hT hza hzb hzt hzc hzn;have hbs:b1<wc.heap.size:=by omega
  rcases hvc2 with⟨rfl,rfl⟩|⟨rfl,rfl⟩<;>rcases hvn2 with⟨rfl,rfl⟩|⟨rfl,rfl⟩
  all_goals
   go_wp2_with (first
    |(go_fit (hR.out _);rintro e w5⟨rfl,hB5⟩;obtain⟨hcl5,_⟩:=qaC hB5;(have p0:=(hcl5 b1 0 hbs).trans q0);(have p1:=(hcl5 b1 1 hbs).trans q1);(have p2:=(hcl5 b1 2 hbs).trans q2);(have p3:=(hcl5 b1 3 hbs).trans q3);(have p4:=(hcl5 b1 4 hbs).trans q4);(have p5:=(hcl5 b1 5 hbs).trans q5);(have d2:=(hcl5 b3 0 hs3).trans d0);(have d3:=(hcl5 b3 1 hs3).trans d1);(have hbs5:=Nat.lt_of_lt_of_le hbs hB5.size);(have hs5:=Nat.lt_of_lt_of_le hs3 hB5.size);(have hB35:=hB3.trans (hB5.mono (Nat.le_of_lt hbs)));clear hcl5)
    |(go_fit (hY.out _);rintro e w6⟨rfl,hB6⟩;obtain⟨hcl6,_⟩:=qaC hB6;(have o4:=(hcl6 b1 4 hbs5).trans p4);(have o5:=(hcl6 b1 5 hbs5).trans p5);(have d4:=(hcl6 b3 0 hs5).trans d2);(have d5:=(hcl6 b3 1 hs5).trans d3);(have hbs6:=Nat.lt_of_lt_of_le hbs5 hB6.size);(have hs6:=Nat.lt_of_lt_of_le hs5 hB6.size);(have hB36:=hB35.trans (hB6.mono (Nat.le_of_lt hbs5)));clear hcl6)
    |(go_fit (hC.out _ _ ?_ ?_);(assumption);(assumption);rintro e w9⟨rfl,rfl⟩)
    |(go_fit (hM.out _ _ ?_ ?_);(assumption);(assumption);rintro e w9⟨rfl,rfl⟩)
    |(go_fit (hNC.out _);rintro e w7⟨rfl,hB7⟩;obtain⟨hcl7,_⟩:=qaC hB7;(have n5:=(hcl7 b1 5 hbs6).trans o5);(have d6:=(hcl7 b3 0 hs6).trans d4);(have d7:=(hcl7 b3 1 hs6).trans d5);(have hB37:=hB36.trans (hB7.mono (Nat.le_of_lt hbs6)));(have hbs7:=Nat.lt_of_lt_of_le hbs6 hB7.size);clear hcl7)
    |(go_fit (hNN.out _);rintro e w8⟨rfl,hB8⟩;(first|(have hB38:=hB37.trans (hB8.mono (Nat.le_of_lt hbs7)))|(have hB38:=hB36.trans (hB8.mono (Nat.le_of_lt hbs6))))))
   all_goals
    go_ret;refine⟨?_,?_⟩
    ·simp[*,hf.out,zE]
    ·rw[hb1.out];first|exact hB38|exact hB37|exact hB36|exact hB35|exact hB3
set_option maxRecDepth 512
theorem QcH(op:Int)(w:World):Calls Tryz.prog 113 #[.int .i64 op] w fun e w'=>e=.returned (.bool (zan op))/\w=w':=by
 go_enter Tryz.func113,Tryz.ntmps113;go_wp2
 all_goals
  go_ret;exact⟨zx (by simp[zan, *]),rfl⟩
theorem zcx(x:Ins)(w:World)(hl:Qaw w)(hs:QaK x):Calls Tryz.prog 52 #[ZW x] w fun e w'=>e=.returned (zE (Zi x))/\Below w.heap.size w w':=by
 by_cases h:x.op<1\/28<x.op
 ·exact Qcw x w h
 ·obtain⟨op,a,b,type,cls,name⟩:=x;obtain⟨n,rfl⟩:=Int.eq_ofNat_of_zero_le (show 0<=op by simp at h;omega);simp at h;exact qcf n a b type cls name w (by omega) (by omega) hl hs
def Zcx(x:Ins):List Value:=[.int .i64 x.op,.int .i64 x.a,.int .i64 x.b,.string x.type,.string x.cls,.string x.name]
theorem ZS{α:Type}(f:α->Nat)(l:List α)(k:Nat)(x:α)(h:l[k]? = some x):Zh f (l.drop k)=if f x=0 then Zh f (l.drop (k+1)) else f x:=by
 obtain⟨hk,rfl⟩:=List.getElem?_eq_some_iff.1 h;rw[List.drop_eq_getElem_cons hk];rfl
theorem qai{α:Type}(f:α->Bool)(l:List α)(k:Nat)(x:α)(h:l[k]? = some x):(l.drop k).any f=(f x||(l.drop (k+1)).any f):=by
 obtain⟨hk,rfl⟩:=List.getElem?_eq_some_iff.1 h;rw[List.drop_eq_getElem_cons hk];rfl
theorem QI(n:Nat):(zE n=.nilIface/\n=0)\/(zE n=.iface 29 (.int .i64 n)/\n≠0):=by
 unfold zE;by_cases h:n=0
 ·exact Or.inl ⟨by rw[if_pos h],h⟩
 ·exact Or.inr ⟨by rw[if_neg h],h⟩
theorem Qa{B:Nat}{w w1 w2:World}(h1:Below B w w1)(hB:B<=w.heap.size)(h2:Below w1.heap.size w1 w2):Below B w w2:=h1.trans (h2.mono (Xf hB h1.size))
set_option maxRecDepth 100000
theorem Qb1(l:List Ins)(b o cap:Nat)(w:World)(hl:Qaw w)(hs:∀x∈l,QaK x)(h0:0<l.length)(h40:l.length<=40)(_hcap:l.length<=cap)(_hm:cap<=maxLen)(hc:∀i x,l[i]? = some x->qG w b (o+i*6) (Zcx x))(v:Value)(hv:zE (qp l)=v):
 Calls Tryz.prog 200 #[.slice (some ⟨b,o,none⟩) l.length cap] w fun e w'=>e=.returned v/\Below w.heap.size w w':=by
 have hC:Hid (∀w2,Below w.heap.size w w2->∀x∈l,_):=fun w2 hb x hx=>zcx x w2 (hl.mono hb hl.1) (hs x hx)
 have HC:Hid (∀i x,l[i]? = some x->qG w b (o+i*6) (Zcx x)):=hc;have hcf:Hid (v=zE (if Zh Zi l≠0 then Zh Zi l
  else if l.any fun x=>qC x.op&&decide ((l.length:Int)<=x.a) then 2
  else if zan (l[l.length-1]'(by omega)).op then 0 else 8)):=by
  unfold Hid;rw[<-hv];unfold qp;rw[if_neg (by omega),List.getLast?_eq_getElem?,Xn (by omega)]
 have hlast:Hid (l[l.length-1]? = some (l[l.length-1]'(by omega))):=by simp[Hid]
 generalize (l[l.length-1]'(by omega))=z at hcf hlast;clear hc hs hl hv;go_enter Tryz.func200,Tryz.ntmps200;go_wp2_with fail;go_loopw [14] (fun x wr=>∃k,k<=l.length/\Hid (Zh Zi (l.drop k)=Zh Zi l)/\Below w.heap.size w wr/\x=.int .i64 k) (fun x _=>l.length-(intOf x).toNat)
 case atStart=>exact⟨0,by omega,rfl,Xb,rfl⟩
 case round =>
  obtain⟨k,hk,hff,hB,rfl⟩:=hrel;by_cases hkl:k<l.length
  ·obtain⟨x,hx⟩:∃x,l[k]? = some x:=⟨l[k],by simp[hkl]⟩;have qc:=(HC.out k x hx).mono hB (HC.out k x hx).lt;have hxm:Hid (x∈l):=Xe hx;have Zc:=ZS Zi l k x hx;have HX:=Xh hx;clear hx;obtain⟨c0,c1,c2,c3,c4,c5,_⟩:=qc;rcases QI (Zi x) with⟨hv,hz⟩|⟨hv,hz⟩
   ·have hC2:Hid (∀w2,Below w.heap.size w w2->Calls Tryz.prog 52 #[ZW x] w2 fun e w'=>e=.returned .nilIface/\Below w2.heap.size w2 w'):=fun w2 h2=>hv▸hC.out w2 h2 x hxm.out
    unfold ZW at hC2;rw[if_pos hz,hff.out]at Zc;have hst:=Xh Zc.symm;clear Zc hC HC hcf hlast hv hz;go_wp2_with (first|(go_fit (hC2.out _ (hB.alloc hB.size _));rintro e w2⟨rfl,hB2⟩))
    exact⟨⟨k+1,by omega,hst.out,Qa (hB.alloc hB.size _) Xl hB2,by simp⟩,by simp[intOf];omega⟩
   ·have hC2:Hid (∀w2,Below w.heap.size w w2->Calls Tryz.prog 52 #[ZW x] w2 fun e w'=>e=.returned (.iface 29 (.int .i64 (Zi x)))/\Below w2.heap.size w2 w'):=fun w2 h2=>hv▸hC.out w2 h2 x hxm.out
    unfold ZW at hC2;rw[if_neg hz,hff.out]at Zc;have hfin:Hid (v=.iface 29 (.int .i64 (Zi x))):=by
     rw[hcf.out,Zc,if_pos hz];exact hv
    clear Zc hC HC hcf hlast hv hz hff;generalize Zi x=fx at hC2 hfin;go_wp2_with (first|(go_fit (hC2.out _ (hB.alloc hB.size _));rintro e w2⟨rfl,hB2⟩))
    cases hfin.out;go_ret;exact⟨rfl,Qa (hB.alloc hB.size _) Xl hB2⟩
  ·have hff0:Hid (Zh Zi l=0):=by
    rw[<-hff.out,Xg (by omega)];rfl
   clear hff;obtain rfl:k=l.length:=(by omega);go_wp2_with fail;go_loopw [26] (fun x wr=>∃k,k<=l.length/\Hid (((l.drop k).any fun x=>qC x.op&&decide ((l.length:Int)<=x.a))=(l.any fun x=>qC x.op&&decide ((l.length:Int)<=x.a)))/\Below w.heap.size w wr/\x=.int .i64 k) (fun x _=>l.length-(intOf x).toNat)
   case atStart=>exact⟨0,by omega,rfl,hB,rfl⟩
   case round =>
    obtain⟨k,hk,hff,hB,rfl⟩:=hrel;by_cases hkl:k<l.length
    ·obtain⟨x,hx⟩:∃x,l[k]? = some x:=⟨l[k],by simp[hkl]⟩;have qc:=(HC.out k x hx).mono hB (HC.out k x hx).lt;have Zc:=qai (fun x=>qC x.op&&decide ((l.length:Int)<=x.a)) l k x hx;rw[hff.out]at Zc;have hj:∀w1,_:=fun w1=>Za6 x.op w1
     cases hjb:qC x.op with
     |false =>
      rw[hjb]at Zc hj;have hst:=Xh Zc;have HX:=Xh hx;clear hx Zc;have HJ:=Xh hj;clear hj;obtain⟨c0,c1,c2,c3,c4,c5,_⟩:=qc;go_wp2_with (first|(go_fit (HJ.out _);rintro e w2⟨rfl,rfl⟩))
      exact⟨⟨k+1,by omega,by simpa[Hid] using hst.out.symm,hB.alloc hB.size _,by simp⟩,by simp[intOf];omega⟩
     |true =>
      rw[hjb]at Zc hj;have hst:=Xh Zc;have HX:=Xh hx;clear hx Zc;have HJ:=Xh hj;clear hj;obtain⟨c0,c1,c2,c3,c4,c5,_⟩:=qc;go_wp2_with (first|(go_fit (HJ.out _);rintro e w2⟨rfl,rfl⟩))
      ·rename_i hge;have hfin:Hid (v=.iface 29 (.int .i64 2)):=by
        rw[hcf.out,if_neg (by rw[hff0.out];simp),if_pos (by rw[hst.out];simp;left;omega)];rfl
       clear hcf;cases hfin.out;go_ret;exact⟨rfl,hB.alloc hB.size _⟩
      ·rename_i hge;exact⟨⟨k+1,by omega,by rw[hst.out];simp[Hid];omega,hB.alloc hB.size _,by simp⟩,by simp[intOf];omega⟩
    ·obtain rfl:k=l.length:=(by omega);have hno:Hid ((l.any fun x=>qC x.op&&decide ((l.length:Int)<=x.a))=false):=by
      rw[<-hff.out,Xg (by omega)];rfl
     have qc:=(HC.out _ _ hlast.out).mono hB (HC.out _ _ hlast.out).lt;obtain⟨c0,_⟩:=qc;have h0':=List.length_pos_iff.1 h0;have hne:((l.length:Int)==0)=false:=(by simpa using h0');have hend:∀w1,_:=fun w1=>QcH z.op w1
     clear hff;cases he:zan z.op with
     |false =>
      rw[he]at hend;have hfin:Hid (v=.iface 29 (.int .i64 8)):=by
       rw[hcf.out,if_neg (by rw[hff0.out];simp),if_neg (by rw[hno.out];simp),he];rfl
      have HE:=Xh hend;clear hend he;go_wp2_with (first|(go_fit (HE.out _);rintro e w2⟨rfl,rfl⟩))
      all_goals first|(exfalso;omega)|skip
      clear hcf;cases hfin.out;go_ret;exact⟨rfl,hB⟩
     |true =>
      rw[he]at hend;have hfin:Hid (v=.nilIface):=by
       rw[hcf.out,if_neg (by rw[hff0.out];simp),if_neg (by rw[hno.out];simp),he];rfl
      have HE:=Xh hend;clear hend he;go_wp2_with (first|(go_fit (HE.out _);rintro e w2⟨rfl,rfl⟩))
      all_goals first|(exfalso;omega)|skip
      clear hcf;cases hfin.out;go_ret;exact⟨rfl,hB⟩
set_option maxRecDepth 512
theorem zb2(p:Option Addr)(n:Nat)(cap:Nat)(w:World)(h:40<n):
 Calls Tryz.prog 200 #[.slice p n cap] w fun e w'=>e=.returned (.iface 29 (.int .i64 4))/\Below w.heap.size w w':=by
 go_enter Tryz.func200,Tryz.ntmps200;go_wp2_with fail;all_goals first|(exfalso;omega)|skip
 go_ret;exact⟨rfl,Xb⟩
set_option maxRecDepth 100000
theorem QaC(p:Option Addr)(cap:Nat)(w:World):
 Calls Tryz.prog 200 #[.slice p 0 cap] w fun e w'=>e=.returned (.iface 29 (.int .i64 8))/\Below w.heap.size w w':=by
 go_enter Tryz.func200,Tryz.ntmps200;go_wp2_with fail;go_loopw [14] (fun x wr=>w=wr/\x=.int .i64 0) (fun x _=>0)
 case atStart=>exact⟨rfl,rfl⟩
 case round =>
  obtain⟨rfl,rfl⟩:=hrel;go_wp2_with fail;go_loopw [26] (fun x wr=>w=wr/\x=.int .i64 0) (fun x _=>0)
  case atStart=>exact⟨rfl,rfl⟩
  case round =>
   obtain⟨rfl,rfl⟩:=hrel;go_wp2_with fail;go_ret;exact⟨rfl,Xb⟩
set_option maxRecDepth 512
theorem ZcJ{l:List Ins}{w:World}{v:Value}(h:Qg w 6 qy v l):(v=.slice none 0 0/\l=[])\/∃b o cap,v=.slice (some ⟨b,o,none⟩) l.length cap/\l.length<=cap/\cap<=maxLen/\(∀i x,l[i]? = some x->qG w b (o+i*6) (Zcx x))\/∃a cap,v=.slice (some a) 0 cap/\l=[]:=by
 rcases h with h|⟨a,cap,h1,h2,h3,h4⟩
 ·exact Or.inl h
 ·cases l with
  |nil=>exact Or.inr ⟨a.block,a.off,cap,Or.inr ⟨a,cap,h1,rfl⟩⟩
  |cons y r =>
   refine Or.inr ⟨a.block,a.off,cap,Or.inl ⟨?_,h2,h3,?_⟩⟩
   ·obtain⟨_,_,_,hp,_⟩:=h4 0 y rfl;rw[h1];congr 2
   ·intro i x hx;obtain⟨vs,r1,_,_,r4⟩:=h4 i x hx;unfold qy at r1;subst r1;exact r4
theorem ZaJ:zE (qp [])=.iface 29 (.int .i64 8):=by simp[qp,Zh,zE]
theorem Zek:zE 4=.iface 29 (.int .i64 4):=by simp[zE]
theorem qce(l:List Ins)(cv:Value)(w:World)(hl:Qaw w)(hs:∀x∈l,QaK x)(h:Qg w 6 qy cv l):
 Calls Tryz.prog 200 #[cv] w fun e w'=>e=.returned (zE (qp l))/\Below w.heap.size w w':=by
 rcases ZcJ h with⟨rfl,rfl⟩|⟨b,o,cap,⟨rfl,h2,h3,h4⟩|⟨a,cap,rfl,rfl⟩⟩
 ·rw[ZaJ];exact QaC _ _ _
 ·by_cases h0:l.length=0
  ·obtain rfl:=List.length_eq_zero_iff.1 h0;rw[ZaJ];exact QaC _ _ _
  by_cases h40:40<l.length
  ·have:qp l=4:=(by unfold qp;rw[if_pos h40]);rw[this,Zek];exact zb2 _ _ _ _ h40
  ·exact Qb1 l b o cap w hl hs (by omega) (by omega) h2 h3 h4 _ rfl
 ·rw[ZaJ];exact QaC _ _ _
end Go.Proofs.YtlmfmioljeppfaaGreatDoor
