/- Lemmas; conditions: as each states. -/
import Derived.Test.YtlmfmioljeppfaaGreatDoorMethodText
import Derived.Deep.DeepCutAuto
import Derived.Deep.RegionHeld3
set_option maxHeartbeats 4000000
namespace Go.Proofs.YtlmfmioljeppfaaGreatDoor
open Go.RowKit Go.Shelf Go.Lib
def ZW(x:Ins):Value:=.agg #[.int .i64 x.op,.int .i64 x.a,.int .i64 x.b,.string x.type,.string x.cls,.string x.name]
def Zby(n:Int):Prop:=-9223372036854775808<=n/\n<=9223372036854775807
structure qaL (x:Ins):Prop where
 op:Zby x.op
 a:Zby x.a
 b:Zby x.b
 type:x.type.size<=1048576
 cls:x.cls.size<=1048576
 name:x.name.size<=1048576
theorem qaz(A:Int)(w:World):Calls Tryz.prog 70 #[.int .i64 A] w fun e w'=>e=.returned (.bool (zu A))/\w=w':=by
 go_enter Tryz.func70,Tryz.ntmps70;go_wp2
 all_goals
  go_ret;exact⟨zx (by simp[zu, *]),rfl⟩
theorem Zdw(a:Int):(a==wrap64 (wrap32 a))=(decide (-2147483648<=a)&&decide (a<=2147483647)):=by
 rw[Bool.eq_iff_iff];simp;unfold wrap64 wrap32;omega
theorem Zc6(x:Ins)(w:World):Calls Tryz.prog 95 #[ZW x] w fun e w'=>e=.returned (.bool (qM x))/\Below w.heap.size w w':=by
 obtain⟨D,a,b,B,cls,C⟩:=x;unfold ZW;by_cases E:D=2
 ·subst E;have N:=Zdw a;cases I:(B.toList==[73]) with
  |true =>
   have A:Hid (qM ⟨2,a,b,B,cls,C⟩=(decide (-2147483648<=a)&&decide (a<=2147483647))):=by
    unfold Hid qM;rw[if_pos rfl,lst,<-ByteArray.toList_eq,I];rfl
   go_enter Tryz.func95,Tryz.ntmps95;go_wp2
   go_ret;exact⟨zx (by rw[A.out]),Xb.alloc Xl _⟩
  |false =>
   have A:Hid (qM ⟨2,a,b,B,cls,C⟩=true):=by
    unfold Hid qM;rw[if_pos rfl,lst,<-ByteArray.toList_eq,I];rfl
   go_enter Tryz.func95,Tryz.ntmps95;go_wp2
   go_ret;exact⟨zx (by rw[A.out]),Xb.alloc Xl _⟩
 have H:(D==2)=false:=by simpa using E
 by_cases F:D=4\/D=5
 ·have A:Hid (qM ⟨D,a,b,B,cls,C⟩=(decide (0<=a)&&decide (a<8))):=by
   unfold Hid qM;rw[if_neg E,if_pos F]
  rcases F with rfl|rfl;all_goals
   clear E H;go_enter Tryz.func95,Tryz.ntmps95;go_wp2
   all_goals
    go_ret;exact⟨zx (by rw[A.out,Bool.eq_iff_iff];simp;omega),Xb.alloc Xl _⟩
 have L:(D==4)=false:=by simp;omega
 have M:(D==5)=false:=by simp;omega
 by_cases G:D=9
 ·have A:Hid (qM ⟨D,a,b,B,cls,C⟩=(decide (1<=a)&&decide (a<=12))):=by
   unfold Hid qM;rw[if_neg E,if_neg F,if_pos G]
  subst G;clear E H F L M;go_enter Tryz.func95,Tryz.ntmps95;go_wp2
  all_goals
   go_ret;exact⟨zx (by rw[A.out,Bool.eq_iff_iff];simp;omega),Xb.alloc Xl _⟩
 have O:(D==9)=false:=by simpa using G
 have A:Hid (qM ⟨D,a,b,B,cls,C⟩=(!zu D||(decide (0<=a)&&decide (a<=40)&&decide (0<=b)&&decide (b<=5)))):=by
  unfold Hid qM;rw[if_neg E,if_neg F,if_neg G]
 clear E F G;cases J:zu D with
 |false =>
  go_enter Tryz.func95,Tryz.ntmps95;go_wp2_with (go_fit (qaz _ _);rintro e w'⟨rfl,rfl⟩)
  all_goals
   go_ret;exact⟨zx (by rw[A.out,J];rfl),Xb.alloc Xl _⟩
 |true =>
  go_enter Tryz.func95,Tryz.ntmps95;go_wp2_with (go_fit (qaz _ _);rintro e w'⟨rfl,rfl⟩)
  all_goals
   go_ret;exact⟨zx (by rw[A.out,J,Bool.eq_iff_iff];simp;omega),Xb.alloc Xl _⟩
theorem Zcg{s:ByteArray}(hs:s.size<=1048576)(h:Zm s=none)(w:World):Calls Tryz.prog 132 #[.string s] w fun e w'=>e=.returned (.tuple #[.slice none 0 0,.string .empty,.iface 29 (.int .i64 1)])/\Below w.heap.size w w':=by
 have:=Zan s w hs;rw[h]at this;exact this.mono fun e w' ⟨A,B⟩=>⟨B,A⟩
def qdw(w:World)(args:List ByteArray)(g:ByteArray)(e:Ending)(w':World):Prop:=∃a c,e=.returned (.tuple #[.slice a args.length c,.string g,.nilIface])/\Qh w' (.slice a args.length c) args/\Below w.heap.size w w'
theorem Zbq{w:World}{v:Value}{l:List ByteArray}(h:Qh w v l):∃a c,v=.slice a l.length c:=by
 rcases h with⟨A,B⟩|⟨a,c,A,_⟩
 ·exact⟨none,0,by rw[A,B];rfl⟩
 ·exact⟨_,_,A⟩
theorem Qb0{s:ByteArray}{args:List ByteArray}{g:ByteArray}(hs:s.size<=1048576)(h:Zm s=some (args,g))(w:World):Calls Tryz.prog 132 #[.string s] w (qdw w args g):=by
 have:=Zan s w hs;rw[h]at this;refine this.mono fun e w' ⟨B,v,C,A⟩=>?_
 obtain⟨a,c,rfl⟩:=Zbq A;exact⟨a,c,C,A,B⟩
theorem qaC{w A:World}(B:Below w.heap.size w A):(∀b o,b<w.heap.size->A.cell? ⟨b,o,none⟩=w.cell? ⟨b,o,none⟩)/\(∀b o,b<w.heap.size->A.frozen? ⟨b,o,none⟩=w.frozen? ⟨b,o,none⟩) :=
 ⟨fun b o h=>B.cell (p:=⟨b,o,none⟩) h,fun b o h=>B.frozen (p:=⟨b,o,none⟩) h⟩
theorem zar{w A B:World}(h:Below w.heap.size w A)(C:Below A.heap.size A B):Below w.heap.size w B:=h.trans (C.mono h.size)
theorem Qdw(x:Ins)(w:World)(h:x.op=2\/x.op=9\/x.op=10):Calls Tryz.prog 96 #[ZW x] w fun e w'=>e=.returned (.bool (qy x))/\Below w.heap.size w w':=by
 obtain⟨D,a,b,A,cls,C⟩:=x;have B:Hid (qy ⟨D,a,b,A,cls,C⟩=zah A.data.toList):=by unfold Hid qy;rw[if_pos h]
 unfold ZW;rcases h with rfl|rfl|rfl;all_goals
  go_enter Tryz.func96,Tryz.ntmps96;go_wp2_with (go_fit (Qbi _ _);rintro e w'⟨rfl,rfl⟩)
  go_ret;exact⟨zx (by rw[B.out]),Xb.alloc Xl _⟩
theorem zdx(x:Ins)(w:World)(hs:x.type.size<=1048576)(h:x.op=22\/x.op=23):Calls Tryz.prog 96 #[ZW x] w fun e w'=>e=.returned (.bool (qy x))/\Below w.heap.size w w':=by
 obtain⟨H,a,b,A,cls,D⟩:=x;have I:A.size<=maxLen:=qF (Xf hs (by decide));replace h:H=22\/H=23:=h;have B:Hid (qy ⟨H,a,b,A,cls,D⟩=(Zs A.data.toList&&!zah A.data.toList)):=by
  unfold Hid qy;rw[if_neg (by simp;omega),if_neg (by simp;omega),if_pos h]
 unfold ZW;cases C:Zs A.data.toList with
 |false =>
  have F:=Xh (Zai I C);have G:=Xh C;clear C;rcases h with rfl|rfl;all_goals
   go_enter Tryz.func96,Tryz.ntmps96;go_wp2_with (go_fit (F.out _);rintro e M⟨rfl,E⟩)
   go_ret;exact⟨zx (by rw[B.out,G.out];rfl),zar (Xb.alloc Xl _) E⟩
 |true =>
  have F:=Xh (qad I C);have G:=Xh C;clear C;rcases h with rfl|rfl;all_goals
   go_enter Tryz.func96,Tryz.ntmps96;go_wp2_with (first|(go_fit (F.out _);rintro e M⟨rfl,E⟩;obtain⟨J,L⟩:=qaC E)|(go_fit (Qbi _ _);rintro e w'⟨rfl,rfl⟩))
   go_ret;exact⟨zx (by rw[B.out,G.out];rfl),zar (Xb.alloc Xl _) E⟩
theorem qc6(x:Ins)(w:World)(hs:x.type.size<=1048576)(h:x.op=24\/x.op=25):Calls Tryz.prog 96 #[ZW x] w fun e w'=>e=.returned (.bool (qy x))/\Below w.heap.size w w':=by
 obtain⟨G,a,b,A,cls,D⟩:=x;replace h:G=24\/G=25:=h;replace hs:A.size<=1048576:=hs;have B:Hid (qy ⟨G,a,b,A,cls,D⟩=(Zm A).isSome):=by
  unfold Hid qy;rw[if_neg (by simp;omega),if_neg (by simp;omega),if_neg (by simp;omega),if_pos h]
 unfold ZW;cases C:Zm A with
 |none =>
  have E:=Xh (Zcg hs C);have F:=Xh C;clear C;rcases h with rfl|rfl;all_goals
   go_enter Tryz.func96,Tryz.ntmps96;go_wp2_with (go_fit (E.out _);rintro e I⟨rfl,H⟩)
   go_ret;exact⟨zx (by rw[B.out,F.out];rfl),zar (Xb.alloc Xl _) H⟩
 |some m =>
  obtain⟨args,g⟩:=m;have E:=Xh (Qb0 hs C);have F:=Xh C;clear C;rcases h with rfl|rfl;all_goals
   go_enter Tryz.func96,Tryz.ntmps96;go_wp2_with (go_fit (E.out _);rintro e I⟨J,L,rfl,M,H⟩)
   go_ret;exact⟨zx (by rw[B.out,F.out];rfl),zar (Xb.alloc Xl _) H⟩
theorem Qc6(x:Ins)(w:World)(h:¬(x.op=2\/x.op=9\/x.op=10))(B:¬(x.op=18\/x.op=20\/x.op=21))(C:¬(x.op=22\/x.op=23))(D:¬(x.op=24\/x.op=25)):Calls Tryz.prog 96 #[ZW x] w fun e w'=>e=.returned (.bool (qy x))/\Below w.heap.size w w':=by
 obtain⟨A,a,b,F,cls,G⟩:=x;have E:Hid (qy ⟨A,a,b,F,cls,G⟩=true):=by
  unfold Hid qy;rw[if_neg h,if_neg B,if_neg C,if_neg D]
 simp only[not_or]at h B C D;have R:(A==2)=false:=by simp[h.1]
 have S:(A==9)=false:=by simp[h.2.1]
 have H:(A==10)=false:=by simp[h.2.2]
 have I:(A==18)=false:=by simp[B.1]
 have J:(A==20)=false:=by simp[B.2.1]
 have L:(A==21)=false:=by simp[B.2.2]
 have M:(A==22)=false:=by simp[C.1]
 have N:(A==23)=false:=by simp[C.2]
 have O:(A==24)=false:=by simp[D.1]
 have P:(A==25)=false:=by simp[D.2]
 unfold ZW;clear h B C D;go_enter Tryz.func96,Tryz.ntmps96;go_wp2_with fail;go_ret;exact⟨zx (by rw[E.out]),Xb.alloc Xl _⟩
theorem zbj(t:ByteArray):((⟨#[91]⟩:ByteArray)++t).data.toList=91::t.data.toList:=by
 simp[ByteArray.data_append]
theorem zc7(t:ByteArray):((⟨#[91]⟩:ByteArray)++t).size=t.size+1:=by
 rw[<-QB,zbj,List.length_cons,QB]
theorem Zdx(x:Ins)(w:World)(hs:x.type.size<=1048576)(h:x.op=18\/x.op=20\/x.op=21):Calls Tryz.prog 96 #[ZW x] w fun e w'=>e=.returned (.bool (qy x))/\Below w.heap.size w w':=by
 obtain⟨N,a,b,A,cls,J⟩:=x;have R:A.size<=maxLen:=qF (Xf hs (by decide));replace h:N=18\/N=20\/N=21:=h;replace hs:A.size<=1048576:=hs;have C:Hid (qy ⟨N,a,b,A,cls,J⟩=(Zs A.data.toList&&Zs (91::A.data.toList))):=by
  unfold Hid qy;rw[if_neg (by simp;omega),if_pos h]
 unfold ZW;cases H:Zs A.data.toList with
 |false =>
  have L:=Xh (Zai R H);have M:=Xh H;clear H;rcases h with rfl|rfl|rfl;all_goals
   go_enter Tryz.func96,Tryz.ntmps96;go_wp2_with (go_fit (L.out _);rintro e S⟨rfl,F⟩)
   go_ret;exact⟨zx (by rw[C.out,M.out];rfl),zar (Xb.alloc Xl _) F⟩
 |true =>
  have L:=Xh (qad R H);have M:=Xh H;have I:((⟨#[91]⟩:ByteArray)++A).size<=maxLen:=qF (by rw[zc7];omega);clear H;cases B:Zs ((⟨#[91]⟩:ByteArray)++A).data.toList with
  |false =>
   have D:=Xh (Zai I B);have E:=Xh B;clear B;rcases h with rfl|rfl|rfl;all_goals
    go_enter Tryz.func96,Tryz.ntmps96;go_wp2_with (first|(go_fit (L.out _);rintro e S⟨rfl,F⟩;obtain⟨O,P⟩:=qaC F)|(go_fit (D.out _);rintro e T⟨rfl,G⟩))
    go_ret;exact⟨zx (by rw[C.out,M,<-zbj,E.out];rfl),zar (zar (Xb.alloc Xl _) F) G⟩
  |true =>
   have D:=Xh (qad I B);have E:=Xh B;clear B;rcases h with rfl|rfl|rfl;all_goals
    go_enter Tryz.func96,Tryz.ntmps96;go_wp2_with (first|(go_fit (L.out _);rintro e S⟨rfl,F⟩;obtain⟨O,P⟩:=qaC F)|(go_fit (D.out _);rintro e T⟨rfl,G⟩))
    go_ret;exact⟨zx (by rw[C.out,M,<-zbj,E.out];rfl),zar (zar (Xb.alloc Xl _) F) G⟩
theorem qdx(x:Ins)(w:World)(hs:x.type.size<=1048576):Calls Tryz.prog 96 #[ZW x] w fun e w'=>e=.returned (.bool (qy x))/\Below w.heap.size w w':=by
 by_cases A:x.op=2\/x.op=9\/x.op=10
 ·exact Qdw x w A
 by_cases B:x.op=18\/x.op=20\/x.op=21
 ·exact Zdx x w hs B
 by_cases C:x.op=22\/x.op=23
 ·exact zdx x w hs C
 by_cases D:x.op=24\/x.op=25
 ·exact qc6 x w hs D
 exact Qc6 x w A B C D
def qby:List (List UInt8):=[[],[110,111,112],[112,117,115,104],[110,117,108,108],[108,111,97,100],[115,116,111,114,101],[112,111,112],[100,117,112],[115,119,97,112],[109,97,116,104],[99,111,110,118],[111,114,100,101,114],[105,102],[105,102,110,117,108,108],[103,111,116,111],[110,101,119],[103,101,116],[112,117,116],[110,101,119,97,114,114,97,121],[108,101,110,103,116,104],[97,108,111,97,100],[97,115,116,111,114,101],[99,97,115,116],[105,115],[99,97,108,108],[99,97,108,108,115],[114,101,116,117,114,110],[103,105,118,101],[116,104,114,111,119]]
def Qby:List (List UInt8):=[[],[],[65,84],[],[65],[65],[],[],[],[65,84],[84],[],[65,66],[65],[65],[67],[67,78],[67,78],[84],[],[84],[84],[84],[84],[84,67,78],[84,67,78],[],[],[]]
def zbz(op:Nat):ByteArray:=⟨(qby.getD op []).toArray⟩
def Zaj(op:Nat):ByteArray:=⟨(Qby.getD op []).toArray⟩
def QaB(w:World):Prop:=0<w.heap.size/\∀i,i<29->w.cell? ⟨0,i*2,none⟩=some (.string (zbz i))/\w.cell? ⟨0,i*2+1,none⟩=some (.string (Zaj i))
theorem QaB.mono{B:Nat}{w w':World}(h:QaB w)(A:Below B w w')(C:0<B):QaB w' :=
 ⟨Nat.lt_of_lt_of_le h.1 A.size,fun i D=>⟨(A.cell (p:=⟨_,_,none⟩) C).trans (h.2 i D).1,(A.cell (p:=⟨_,_,none⟩) C).trans (h.2 i D).2⟩⟩
theorem Zep(A:Int)(w:World)(h:A<1\/28<A):Calls Tryz.prog 92 #[.int .i64 A] w fun e w'=>e=.returned (.tuple #[.agg #[.string .empty,.string .empty],.bool false])/\Below w.heap.size w w':=by
 rcases h with h|h;all_goals
  go_enter Tryz.func92,Tryz.ntmps92;go_wp2
  exact bodyPost_ret (v:=.tuple #[.agg #[.string .empty,.string .empty],.bool false]) (by simp[results,Tryz.results92,go_sem];rfl) rfl ⟨rfl,Xb.alloc Xl _⟩
theorem Zed(A:Nat)(w:World)(E:1<=A)(F:A<=28)(B:QaB w):Calls Tryz.prog 92 #[.int .i64 A] w fun e w'=>e=.returned (.tuple #[.agg #[.string (zbz A),.string (Zaj A)],.bool true])/\Below w.heap.size w w':=by
 obtain⟨H,I⟩:=B.2 A (by omega);have G:=B.1;generalize zbz A=C at *;generalize Zaj A=D at *;clear B;go_enter Tryz.func92,Tryz.ntmps92;go_wp2
 exact bodyPost_ret (v:=.tuple #[.agg #[.string C,.string D],.bool true]) (by simp[results,Tryz.results92,go_sem]) rfl ⟨rfl,Xb.alloc Xl _⟩
def qa0(nd:ByteArray)(c:UInt8):Bool:=decide (0<=Lib.indexByte nd.data.toList c)
theorem Qdx(C A:ByteArray)(c:UInt8)(B:Nat)(w:World)(_h0:w.cell? ⟨B,0,none⟩=some (.string C))(E:w.cell? ⟨B,1,none⟩=some (.string A)):
 Calls Tryz.prog 93 #[.string ⟨#[c]⟩,.pointer (some ⟨B,0,none⟩)] w fun e w'=>e=.returned (.bool (qa0 A c))/\w=w':=by
 have D:Hid (∀w,Calls Tryz.prog 94 #[.string A,.string ⟨#[c]⟩] w fun e w'=>e=.returned (.bool (qa0 A c))/\w=w'):=fun w=>(Tryz.strings_Contains_one A c w).mono fun _ _ h=>⟨h.1,h.2.symm⟩
 go_enter Tryz.func93,Tryz.ntmps93;go_wp2_with (go_fit (D.out _);rintro e w'⟨rfl,rfl⟩)
 go_ret;exact⟨rfl,rfl⟩
theorem zdT:∀A:Nat,A<29->1<=A->qa0 (Zaj A) 65=zb1 A/\qa0 (Zaj A) 66=Zb1 A/\qa0 (Zaj A) 84=ZbJ A/\qa0 (Zaj A) 67=Zbc A/\qa0 (Zaj A) 78=qbc A:=by
 decide
theorem Zcy(x:Ins)(w:World)(h:x.op<1\/28<x.op):Calls Tryz.prog 52 #[ZW x] w fun e w'=>e=.returned (zE (Zi x))/\Below w.heap.size w w':=by
 obtain⟨C,a,b,A,cls,B⟩:=x;replace h:C<1\/28<C:=h;have D:zE (Zi ⟨C,a,b,A,cls,B⟩)=zE 1:=by unfold Zi;rw[if_pos h]
 rw[D];clear D;have F:Hid (∀w,_):=fun w=>Zep C w h
 clear h;unfold ZW;go_enter Tryz.func52,Tryz.ntmps52;go_wp2_with (go_fit (F.out _);rintro e G⟨rfl,E⟩)
 go_ret;exact⟨rfl,(zar (Xb.alloc Xl _) E).alloc (Xf (by simp) E.size) _⟩
theorem Qbc{s:ByteArray}(hs:s.size<=1048576){v:Value}(A:zE (Qw s)=v)(w:World):Calls Tryz.prog 97 #[.string s] w fun e w'=>e=.returned v/\Below w.heap.size w w':=by
 subst A;exact ZR s w (qF (Xf hs (by decide)))
set_option maxRecDepth 100000
theorem qcg(D:Nat)(a b:Int)(C cls A:ByteArray)(w:World)(h1:1<=D)(h2:D<=28)(hl:QaB w)(hs:qaL ⟨D,a,b,C,cls,A⟩):Calls Tryz.prog 52 #[ZW ⟨D,a,b,C,cls,A⟩] w fun e w'=>e=.returned (zE (Zi ⟨D,a,b,C,cls,A⟩))/\Below w.heap.size w w':=by
 have hO:Hid (∀w,QaB w->_):=fun w hl=>Zed D w h1 h2 hl
 have hR:Hid (∀w,_):=fun w=>Zc6 ⟨D,a,b,C,cls,A⟩ w
 have hY:Hid (∀w,_):=fun w=>qdx ⟨D,a,b,C,cls,A⟩ w hs.type
 obtain⟨e1,e2,e3,e4,e5⟩:=zdT D (by omega) h1;have r:∀(k:Bool) (c:UInt8),qa0 (Zaj D) c=k->Hid (∀B w,w.cell? ⟨B,0,none⟩=some (.string (zbz D))->w.cell? ⟨B,1,none⟩=some (.string (Zaj D))->Calls Tryz.prog 93 #[.string ⟨#[c]⟩,.pointer (some ⟨B,0,none⟩)] w fun e w'=>e=.returned (.bool k)/\w=w') :=
  fun k c hk B w U V=>hk▸Qdx _ _ c B w U V
 have hA:=r _ _ e1;have x:=r _ _ e2;have hT:=r _ _ e3;have hC:=r _ _ e4;have hM:=r _ _ e5;clear r e1 e2 e3 e4 e5;have y:Hid (Zi ⟨D,a,b,C,cls,A⟩=if ((!zb1 D&&a != 0)||(!Zb1 D&&b != 0)||(!ZbJ D&&C.size != 0)||(!Zbc D&&cls.size != 0)||(!qbc D&&A.size != 0))=true then 1 else if (!qM ⟨D,a,b,C,cls,A⟩)=true then 2 else if (!qy ⟨D,a,b,C,cls,A⟩||(Zbc D&&!qt (lst cls))||(qbc D&&!qt (lst A)))=true then 1 else 0):=by
  unfold Hid Zi;rw[if_neg (by simp;omega)]
 have O:∃v k,zE (Qw cls)=v/\qt (lst cls)=k/\((v=.nilIface/\k=true)\/(v=.iface 29 (.int .i64 1)/\k=false)):=by
  refine⟨_,_,rfl,rfl,?_⟩;unfold Qw lst;cases qt cls.data.toList<;>simp[zE]
 have P:∃v k,zE (Qw A)=v/\qt (lst A)=k/\((v=.nilIface/\k=true)\/(v=.iface 29 (.int .i64 1)/\k=false)):=by
  refine⟨_,_,rfl,rfl,?_⟩;unfold Qw lst;cases qt A.data.toList<;>simp[zE]
 obtain⟨vc,kc,O,aG,aH⟩:=O;obtain⟨vn,kn,P,aI,aJ⟩:=P;have aA:Hid (∀w,_):=fun w=>Qbc (s:=cls) hs.cls O w
 have aB:Hid (∀w,_):=fun w=>Qbc (s:=A) hs.name P w
 rw[aG,aI]at y;clear O aG P aI hs;have z1:(C.size != 0)=!C.toList.isEmpty:=by rw[ZD];rfl
 have z2:(cls.size != 0)=!cls.toList.isEmpty:=by rw[ZD];rfl
 have z3:(A.size != 0)=!A.toList.isEmpty:=by rw[ZD];rfl
 rw[z1,z2,z3]at y;clear z1 z2 z3;generalize Zi ⟨D,a,b,C,cls,A⟩=res at *;generalize zbz D=d at *;generalize Zaj D=f at *;generalize qM ⟨D,a,b,C,cls,A⟩=kR at *;generalize qy ⟨D,a,b,C,cls,A⟩=kY at *;generalize zb1 D=kA at *;generalize Zb1 D=kB at *;generalize ZbJ D=kT at *;generalize Zbc D=kC at *;generalize qbc D=kN at *;generalize (D:Int)=z at *;obtain⟨za,m⟩:∃k,(a==0)=k:=⟨_,rfl⟩;obtain⟨zb,n⟩:∃k,(b==0)=k:=⟨_,rfl⟩;have aC:=Xh (show za=decide (a=0) by rw[<-m];rfl);have aD:=Xh (show zb=decide (b=0) by rw[<-n];rfl);obtain⟨zt,aK⟩:∃k,C.toList.isEmpty=k:=⟨_,rfl⟩;obtain⟨zc,aL⟩:∃k,cls.toList.isEmpty=k:=⟨_,rfl⟩;obtain⟨zn,aM⟩:∃k,A.toList.isEmpty=k:=⟨_,rfl⟩;rw[aK,aL,aM,show(a != 0)=!za by rw[<-m];rfl,show(b != 0)=!zb by rw[<-n];rfl]at y;have hmf:∀fn first cap w,(Instr.makeFunc fn first cap).run Tryz.prog w=.ok (.func fn first cap) w:=fun _ _ _ _=>rfl
 unfold ZW at *;go_enter Tryz.func52,Tryz.ntmps52;go_upto_region 5 with(go_fit (hO.out _ ?_);(exact hl.mono (Xb.alloc Xl _) hl.1);rintro e L⟨rfl,hB⟩;obtain⟨aN,hfr⟩:=qaC hB)
 have hsz:=hB.size;simp only[World.size_alloc]at hsz;have T:=(Below.refl L.heap.size L).alloc Xl (Obj.cells #[.string d,.string f] 143);have g:∀o,(L.alloc (Obj.cells #[.string d,.string f] 143)).cell? ⟨w.heap.size,o,none⟩=(w.alloc (Obj.cells #[.int .i64 z,.int .i64 a,.int .i64 b,.string C,.string cls,.string A] 24)).cell? ⟨w.heap.size,o,none⟩:=fun o =>
  (T.cell (p:=⟨_,_,none⟩) (show w.heap.size<L.heap.size by omega)).trans (aN _ _ (by simp))
 have q0:=g 0;have q1:=g 1;have q2:=g 2;have q3:=g 3;have q4:=g 4;have q5:=g 5;simp at q0 q1 q2 q3 q4 q5;have U:(L.alloc (Obj.cells #[.string d,.string f] 143)).cell? ⟨L.heap.size,0,none⟩=some (.string d):=by simp
 have V:(L.alloc (Obj.cells #[.string d,.string f] 143)).cell? ⟨L.heap.size,1,none⟩=some (.string f):=by simp
 have h:Below w.heap.size w (L.alloc (Obj.cells #[.string d,.string f] 143)):=(zar (Xb.alloc Xl _) hB).alloc (by omega) _;have i:L.heap.size<(L.alloc (Obj.cells #[.string d,.string f] 143)).heap.size:=by simp
 clear g T aN hfr hB hO;generalize L.alloc (Obj.cells #[.string d,.string f] 143)=w3 at *;generalize L.heap.size=t at *;generalize j:w.heap.size=N at *;replace j:=Xh j;generalize Value.agg #[.int .i64 z,.int .i64 a,.int .i64 b,.string C,.string cls,.string A]=ag;go_cut [63] (fun s63 wx=>s63=.bool ((!kA&&!za)||(!kB&&!zb)||(!kT&&!zt)||(!kC&&!zc)||(!kN&&!zn))/\wx=w3)
 case first =>
  clear hR hY aA aB y h;go_wp2_with (first
   |(go_fit (hA.out _ _ U V);rintro e w4⟨rfl,rfl⟩)
   |(go_fit (x.out _ _ U V);rintro e w4⟨rfl,rfl⟩)
   |(go_fit (hT.out _ _ U V);rintro e w4⟨rfl,rfl⟩)
   |(go_fit (hC.out _ _ U V);rintro e w4⟨rfl,rfl⟩)
   |(go_fit (hM.out _ _ U V);rintro e w4⟨rfl,rfl⟩))
  all_goals
   go_meet;exact⟨by first|(simp[*];done)|(simp[*,aC.out,aD.out];done),rfl⟩
 case rest =>
  obtain⟨rfl,rfl⟩:=hcut;generalize ((!kA&&!za)||(!kB&&!zb)||(!kT&&!zt)||(!kC&&!zc)||(!kN&&!zn))=bad at *;clear hA x hT m n aK aL aM;have F:N<wc.heap.size:=by omega
  rcases aH with⟨rfl,rfl⟩|⟨rfl,rfl⟩<;>rcases aJ with⟨rfl,rfl⟩|⟨rfl,rfl⟩
  all_goals
   go_wp2_with (first
    |(go_fit (hR.out _);rintro e w5⟨rfl,R⟩;obtain⟨E,_⟩:=qaC R;(have p0:=(E N 0 F).trans q0);(have p1:=(E N 1 F).trans q1);(have p2:=(E N 2 F).trans q2);(have p3:=(E N 3 F).trans q3);(have p4:=(E N 4 F).trans q4);(have p5:=(E N 5 F).trans q5);(have d2:=(E t 0 i).trans U);(have d3:=(E t 1 i).trans V);(have H:=Nat.lt_of_lt_of_le F R.size);(have l:=Nat.lt_of_lt_of_le i R.size);(have X:=h.trans (R.mono (Nat.le_of_lt F)));clear E)
    |(go_fit (hY.out _);rintro e w6⟨rfl,S⟩;obtain⟨G,_⟩:=qaC S;(have o4:=(G N 4 H).trans p4);(have o5:=(G N 5 H).trans p5);(have d4:=(G t 0 l).trans d2);(have d5:=(G t 1 l).trans d3);(have I:=Nat.lt_of_lt_of_le H S.size);(have aE:=Nat.lt_of_lt_of_le l S.size);(have M:=X.trans (S.mono (Nat.le_of_lt H)));clear G)
    |(go_fit (hC.out _ _ ?_ ?_);(assumption);(assumption);rintro e w9⟨rfl,rfl⟩)
    |(go_fit (hM.out _ _ ?_ ?_);(assumption);(assumption);rintro e w9⟨rfl,rfl⟩)
    |(go_fit (aA.out _);rintro e w7⟨rfl,q⟩;obtain⟨J,_⟩:=qaC q;(have n5:=(J N 5 I).trans o5);(have d6:=(J t 0 aE).trans d4);(have d7:=(J t 1 aE).trans d5);(have Y:=M.trans (q.mono (Nat.le_of_lt I)));(have aF:=Nat.lt_of_lt_of_le I q.size);clear J)
    |(go_fit (aB.out _);rintro e w8⟨rfl,aO⟩;(first|(have Z:=Y.trans (aO.mono (Nat.le_of_lt aF)))|(have Z:=M.trans (aO.mono (Nat.le_of_lt I))))))
   all_goals
    go_ret;refine⟨?_,?_⟩
    ·simp[*,y.out,zE]
    ·rw[j.out];first|exact Z|exact Y|exact M|exact X|exact h
set_option maxRecDepth 512
theorem zbU(A:Int)(w:World):Calls Tryz.prog 113 #[.int .i64 A] w fun e w'=>e=.returned (.bool (Zad A))/\w=w':=by
 go_enter Tryz.func113,Tryz.ntmps113;go_wp2
 all_goals
  go_ret;exact⟨zx (by simp[Zad, *]),rfl⟩
theorem qcy(x:Ins)(w:World)(C:QaB w)(hs:qaL x):Calls Tryz.prog 52 #[ZW x] w fun e w'=>e=.returned (zE (Zi x))/\Below w.heap.size w w':=by
 by_cases h:x.op<1\/28<x.op
 ·exact Zcy x w h
 ·obtain⟨D,a,b,A,cls,B⟩:=x;obtain⟨n,rfl⟩:=Int.eq_ofNat_of_zero_le (show 0<=D by simp at h;omega);simp at h;exact qcg n a b A cls B w (by omega) (by omega) C hs
def Qcy(x:Ins):List Value:=[.int .i64 x.op,.int .i64 x.a,.int .i64 x.b,.string x.type,.string x.cls,.string x.name]
theorem zU{α:Type}(f:α->Nat)(l:List α)(k:Nat)(x:α)(h:l[k]? = some x):Zh f (l.drop k)=if f x=0 then Zh f (l.drop (k+1)) else f x:=by
 obtain⟨A,rfl⟩:=List.getElem?_eq_some_iff.1 h;rw[List.drop_eq_getElem_cons A];rfl
theorem qai{α:Type}(f:α->Bool)(l:List α)(k:Nat)(x:α)(h:l[k]? = some x):(l.drop k).any f=(f x||(l.drop (k+1)).any f):=by
 obtain⟨A,rfl⟩:=List.getElem?_eq_some_iff.1 h;rw[List.drop_eq_getElem_cons A];rfl
theorem qI(n:Nat):(zE n=.nilIface/\n=0)\/(zE n=.iface 29 (.int .i64 n)/\n≠0):=by
 unfold zE;by_cases h:n=0
 ·exact Or.inl ⟨by rw[if_pos h],h⟩
 ·exact Or.inr ⟨by rw[if_neg h],h⟩
theorem Qa{B:Nat}{w A C:World}(D:Below B w A)(E:B<=w.heap.size)(F:Below A.heap.size A C):Below B w C:=D.trans (F.mono (Xf E D.size))
set_option maxRecDepth 100000
theorem qb1(l:List Ins)(b o cap:Nat)(w:World)(f:QaB w)(hs:∀x∈l,qaL x)(h0:0<l.length)(h40:l.length<=40)(_hcap:l.length<=cap)(_hm:cap<=maxLen)(q:∀i x,l[i]? = some x->QG w b (o+i*6) (Qcy x))(v:Value)(N:zE (qo l)=v):
 Calls Tryz.prog 200 #[.slice (some ⟨b,o,none⟩) l.length cap] w fun e w'=>e=.returned v/\Below w.heap.size w w':=by
 have d:Hid (∀C,Below w.heap.size w C->∀x∈l,_):=fun C hb x H=>qcy x C (f.mono hb f.1) (hs x H)
 have O:Hid (∀i x,l[i]? = some x->QG w b (o+i*6) (Qcy x)):=q;have D:Hid (v=zE (if Zh Zi l≠0 then Zh Zi l
  else if l.any fun x=>zu x.op&&decide ((l.length:Int)<=x.a) then 2
  else if Zad (l[l.length-1]'(by omega)).op then 0 else 8)):=by
  unfold Hid;rw[<-N];unfold qo;rw[if_neg (by omega),List.getLast?_eq_getElem?,Xn (by omega)]
 have B:Hid (l[l.length-1]? = some (l[l.length-1]'(by omega))):=by simp[Hid]
 generalize (l[l.length-1]'(by omega))=z at D B;clear q hs f N;go_enter Tryz.func200,Tryz.ntmps200;go_wp2_with fail;go_loopw [14] (fun x wr=>∃k,k<=l.length/\Hid (Zh Zi (l.drop k)=Zh Zi l)/\Below w.heap.size w wr/\x=.int .i64 k) (fun x _=>l.length-(intOf x).toNat)
 case atStart=>exact⟨0,by omega,rfl,Xb,rfl⟩
 case round =>
  obtain⟨k,hk,G,E,rfl⟩:=hrel;by_cases P:k<l.length
  ·obtain⟨x,H⟩:∃x,l[k]? = some x:=⟨l[k],by simp[P]⟩;have S:=(O.out k x H).mono E (O.out k x H).lt;have X:Hid (x∈l):=Xe H;have I:=zU Zi l k x H;have r:=Xh H;clear H;obtain⟨m,s,t,y,c4,c5,_⟩:=S;rcases qI (Zi x) with⟨N,V⟩|⟨N,V⟩
   ·have J:Hid (∀C,Below w.heap.size w C->Calls Tryz.prog 52 #[ZW x] C fun e w'=>e=.returned .nilIface/\Below C.heap.size C w'):=fun C p=>N▸d.out C p x X.out
    unfold ZW at J;rw[if_pos V,G.out]at I;have L:=Xh I.symm;clear I d O D B N V;go_wp2_with (first|(go_fit (J.out _ (E.alloc E.size _));rintro e C⟨rfl,R⟩))
    exact⟨⟨k+1,by omega,L.out,Qa (E.alloc E.size _) Xl R,by simp⟩,by simp[intOf];omega⟩
   ·have J:Hid (∀C,Below w.heap.size w C->Calls Tryz.prog 52 #[ZW x] C fun e w'=>e=.returned (.iface 29 (.int .i64 (Zi x)))/\Below C.heap.size C w'):=fun C p=>N▸d.out C p x X.out
    unfold ZW at J;rw[if_neg V,G.out]at I;have A:Hid (v=.iface 29 (.int .i64 (Zi x))):=by
     rw[D.out,I,if_pos V];exact N
    clear I d O D B N V G;generalize Zi x=fx at J A;go_wp2_with (first|(go_fit (J.out _ (E.alloc E.size _));rintro e C⟨rfl,R⟩))
    cases A.out;go_ret;exact⟨rfl,Qa (E.alloc E.size _) Xl R⟩
  ·have M:Hid (Zh Zi l=0):=by
    rw[<-G.out,Xg (by omega)];rfl
   clear G;obtain rfl:k=l.length:=(by omega);go_wp2_with fail;go_loopw [26] (fun x wr=>∃k,k<=l.length/\Hid (((l.drop k).any fun x=>zu x.op&&decide ((l.length:Int)<=x.a))=(l.any fun x=>zu x.op&&decide ((l.length:Int)<=x.a)))/\Below w.heap.size w wr/\x=.int .i64 k) (fun x _=>l.length-(intOf x).toNat)
   case atStart=>exact⟨0,by omega,rfl,E,rfl⟩
   case round =>
    obtain⟨k,hk,G,E,rfl⟩:=hrel;by_cases P:k<l.length
    ·obtain⟨x,H⟩:∃x,l[k]? = some x:=⟨l[k],by simp[P]⟩;have S:=(O.out k x H).mono E (O.out k x H).lt;have I:=qai (fun x=>zu x.op&&decide ((l.length:Int)<=x.a)) l k x H;rw[G.out]at I;have T:∀c,_:=fun c=>qaz x.op c
     cases Z:zu x.op with
     |false =>
      rw[Z]at I T;have L:=Xh I;have r:=Xh H;clear H I;have g:=Xh T;clear T;obtain⟨m,s,t,y,c4,c5,_⟩:=S;go_wp2_with (first|(go_fit (g.out _);rintro e C⟨rfl,rfl⟩))
      exact⟨⟨k+1,by omega,by simpa[Hid] using L.out.symm,E.alloc E.size _,by simp⟩,by simp[intOf];omega⟩
     |true =>
      rw[Z]at I T;have L:=Xh I;have r:=Xh H;clear H I;have g:=Xh T;clear T;obtain⟨m,s,t,y,c4,c5,_⟩:=S;go_wp2_with (first|(go_fit (g.out _);rintro e C⟨rfl,rfl⟩))
      ·rename_i n;have A:Hid (v=.iface 29 (.int .i64 2)):=by
        rw[D.out,if_neg (by rw[M.out];simp),if_pos (by rw[L.out];simp;left;omega)];rfl
       clear D;cases A.out;go_ret;exact⟨rfl,E.alloc E.size _⟩
      ·rename_i n;exact⟨⟨k+1,by omega,by rw[L.out];simp[Hid];omega,E.alloc E.size _,by simp⟩,by simp[intOf];omega⟩
    ·obtain rfl:k=l.length:=(by omega);have Y:Hid ((l.any fun x=>zu x.op&&decide ((l.length:Int)<=x.a))=false):=by
      rw[<-G.out,Xg (by omega)];rfl
     have S:=(O.out _ _ B.out).mono E (O.out _ _ B.out).lt;obtain⟨m,_⟩:=S;have h:=List.length_pos_iff.1 h0;have hne:((l.length:Int)==0)=false:=(by simpa using h);have F:∀c,_:=fun c=>zbU z.op c
     clear G;cases U:Zad z.op with
     |false =>
      rw[U]at F;have A:Hid (v=.iface 29 (.int .i64 8)):=by
       rw[D.out,if_neg (by rw[M.out];simp),if_neg (by rw[Y.out];simp),U];rfl
      have j:=Xh F;clear F U;go_wp2_with (first|(go_fit (j.out _);rintro e C⟨rfl,rfl⟩))
      all_goals first|(exfalso;omega)|skip
      clear D;cases A.out;go_ret;exact⟨rfl,E⟩
     |true =>
      rw[U]at F;have A:Hid (v=.nilIface):=by
       rw[D.out,if_neg (by rw[M.out];simp),if_neg (by rw[Y.out];simp),U];rfl
      have j:=Xh F;clear F U;go_wp2_with (first|(go_fit (j.out _);rintro e C⟨rfl,rfl⟩))
      all_goals first|(exfalso;omega)|skip
      clear D;cases A.out;go_ret;exact⟨rfl,E⟩
set_option maxRecDepth 512
theorem Qb1(p:Option Addr)(n:Nat)(cap:Nat)(w:World)(h:40<n):
 Calls Tryz.prog 200 #[.slice p n cap] w fun e w'=>e=.returned (.iface 29 (.int .i64 4))/\Below w.heap.size w w':=by
 go_enter Tryz.func200,Tryz.ntmps200;go_wp2_with fail;all_goals first|(exfalso;omega)|skip
 go_ret;exact⟨rfl,Xb⟩
set_option maxRecDepth 100000
theorem QaC(p:Option Addr)(cap:Nat)(w:World):
 Calls Tryz.prog 200 #[.slice p 0 cap] w fun e w'=>e=.returned (.iface 29 (.int .i64 8))/\Below w.heap.size w w':=by
 go_enter Tryz.func200,Tryz.ntmps200;go_wp2_with fail;go_loopw [14] (fun x wr=>w=wr/\x=.int .i64 0) (fun x _=>0)
 case atStart=>exact⟨rfl,rfl⟩
 case round =>
  obtain⟨rfl,rfl⟩:=hrel;go_wp2_with fail;go_loopw [26] (fun x wr=>w=wr/\x=.int .i64 0) (fun x _=>0)
  case atStart=>exact⟨rfl,rfl⟩
  case round =>
   obtain⟨rfl,rfl⟩:=hrel;go_wp2_with fail;go_ret;exact⟨rfl,Xb⟩
set_option maxRecDepth 512
theorem ZcK{l:List Ins}{w:World}{v:Value}(h:Zg w 6 Zw v l):(v=.slice none 0 0/\l=[])\/∃b o cap,v=.slice (some ⟨b,o,none⟩) l.length cap/\l.length<=cap/\cap<=maxLen/\(∀i x,l[i]? = some x->QG w b (o+i*6) (Qcy x))\/∃a cap,v=.slice (some a) 0 cap/\l=[]:=by
 rcases h with h|⟨a,cap,B,F,G,C⟩
 ·exact Or.inl h
 ·cases l with
  |nil=>exact Or.inr ⟨a.block,a.off,cap,Or.inr ⟨a,cap,B,rfl⟩⟩
  |cons y r =>
   refine Or.inr ⟨a.block,a.off,cap,Or.inl ⟨?_,F,G,?_⟩⟩
   ·obtain⟨_,_,_,H,_⟩:=C 0 y rfl;rw[B];congr 2
   ·intro i x E;obtain⟨vs,A,_,_,D⟩:=C i x E;unfold Zw at A;subst A;exact D
theorem zaJ:zE (qo [])=.iface 29 (.int .i64 8):=by simp[qo,Zh,zE]
theorem qep:zE 4=.iface 29 (.int .i64 4):=by simp[zE]
theorem qcf(l:List Ins)(B:Value)(w:World)(C:QaB w)(hs:∀x∈l,qaL x)(h:Zg w 6 Zw B l):
 Calls Tryz.prog 200 #[B] w fun e w'=>e=.returned (zE (qo l))/\Below w.heap.size w w':=by
 rcases ZcK h with⟨rfl,rfl⟩|⟨b,o,cap,⟨rfl,E,F,G⟩|⟨a,cap,rfl,rfl⟩⟩
 ·rw[zaJ];exact QaC _ _ _
 ·by_cases D:l.length=0
  ·obtain rfl:=List.length_eq_zero_iff.1 D;rw[zaJ];exact QaC _ _ _
  by_cases A:40<l.length
  ·have:qo l=4:=(by unfold qo;rw[if_pos A]);rw[this,qep];exact Qb1 _ _ _ _ A
  ·exact qb1 l b o cap w C hs (by omega) (by omega) E F G _ rfl
 ·rw[zaJ];exact QaC _ _ _
end Go.Proofs.YtlmfmioljeppfaaGreatDoor
