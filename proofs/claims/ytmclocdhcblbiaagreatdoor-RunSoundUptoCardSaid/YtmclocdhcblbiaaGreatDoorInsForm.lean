/- Lemmas; conditions: as each states. -/
import Derived.Test.YtmclocdhcblbiaaGreatDoorMethodText
set_option maxHeartbeats 4000000
namespace Go.Proofs.YtmclocdhcblbiaaGreatDoor
open Go.RowKit Go.Shelf Go.Lib
def qao(x:Ins):Value:=.agg #[.int .i64 x.op,.int .i64 x.a,.int .i64 x.b,.string x.type,.string x.cls,.string x.name]
def ZbZ(n:Int):Prop:=-9223372036854775808<=n/\n<=9223372036854775807
structure ZbO (x:Ins):Prop where
 op:ZbZ x.op
 a:ZbZ x.a
 b:ZbZ x.b
 type:x.type.size<=1048576
 cls:x.cls.size<=1048576
 name:x.name.size<=1048576
theorem Zbu(A:Int)(w:World):Calls Tryz.prog 141 #[.int .i64 A] w fun e w'=>e=.returned (.bool (ZS A))/\w=w':=by
 go_enter Tryz.func141,Tryz.ntmps141;go_wp2
 all_goals
  go_ret;exact⟨QC (by simp[ZS, *]),rfl⟩
theorem Zem(a:Int):(a==wrap64 (wrap32 a))=(decide (-2147483648<=a)&&decide (a<=2147483647)):=by
 rw[Bool.eq_iff_iff];simp;unfold wrap64 wrap32;omega
theorem ZdJ(x:Ins)(w:World):Calls Tryz.prog 185 #[qao x] w fun e w'=>e=.returned (.bool (QP x))/\Below w.heap.size w w':=by
 obtain⟨D,a,b,B,cls,C⟩:=x;unfold qao;by_cases E:D=2
 ·subst E;have N:=Zem a;cases I:(B.toList==[73]) with
  |true =>
   have A:Hid (QP ⟨2,a,b,B,cls,C⟩=(decide (-2147483648<=a)&&decide (a<=2147483647))):=by
    unfold Hid QP;rw[if_pos rfl,lst,<-ByteArray.toList_eq,I];rfl
   go_enter Tryz.func185,Tryz.ntmps185;go_wp2
   go_ret;exact⟨QC (by rw[A.out]),Xb.alloc Xl _⟩
  |false =>
   have A:Hid (QP ⟨2,a,b,B,cls,C⟩=true):=by
    unfold Hid QP;rw[if_pos rfl,lst,<-ByteArray.toList_eq,I];rfl
   go_enter Tryz.func185,Tryz.ntmps185;go_wp2
   go_ret;exact⟨QC (by rw[A.out]),Xb.alloc Xl _⟩
 have H:(D==2)=false:=by simpa using E
 by_cases F:D=4\/D=5
 ·have A:Hid (QP ⟨D,a,b,B,cls,C⟩=(decide (0<=a)&&decide (a<8))):=by
   unfold Hid QP;rw[if_neg E,if_pos F]
  rcases F with rfl|rfl;all_goals
   clear E H;go_enter Tryz.func185,Tryz.ntmps185;go_wp2
   all_goals
    go_ret;exact⟨QC (by rw[A.out,Bool.eq_iff_iff];simp;omega),Xb.alloc Xl _⟩
 have L:(D==4)=false:=by simp;omega
 have M:(D==5)=false:=by simp;omega
 by_cases G:D=9
 ·have A:Hid (QP ⟨D,a,b,B,cls,C⟩=(decide (1<=a)&&decide (a<=12))):=by
   unfold Hid QP;rw[if_neg E,if_neg F,if_pos G]
  subst G;clear E H F L M;go_enter Tryz.func185,Tryz.ntmps185;go_wp2
  all_goals
   go_ret;exact⟨QC (by rw[A.out,Bool.eq_iff_iff];simp;omega),Xb.alloc Xl _⟩
 have O:(D==9)=false:=by simpa using G
 have A:Hid (QP ⟨D,a,b,B,cls,C⟩=(!ZS D||(decide (0<=a)&&decide (a<=40)&&decide (0<=b)&&decide (b<=5)))):=by
  unfold Hid QP;rw[if_neg E,if_neg F,if_neg G]
 clear E F G;cases J:ZS D with
 |false =>
  go_enter Tryz.func185,Tryz.ntmps185;go_wp2_with (go_fit (Zbu _ _);rintro e w'⟨rfl,rfl⟩)
  all_goals
   go_ret;exact⟨QC (by rw[A.out,J];rfl),Xb.alloc Xl _⟩
 |true =>
  go_enter Tryz.func185,Tryz.ntmps185;go_wp2_with (go_fit (Zbu _ _);rintro e w'⟨rfl,rfl⟩)
  all_goals
   go_ret;exact⟨QC (by rw[A.out,J,Bool.eq_iff_iff];simp;omega),Xb.alloc Xl _⟩
theorem ZcL{s:ByteArray}(A:s.size<=1048576)(h:qi s=none)(w:World):Calls Tryz.prog 28 #[.string s] w fun e w'=>e=.returned (.tuple #[.slice none 0 0,.string .empty,.iface 52 (.int .i64 1)])/\Below w.heap.size w w':=by
 have:=Qav s w A;rw[h]at this;exact this.mono fun e w' ⟨B,C⟩=>⟨C,B⟩
def Qbv(w:World)(args:List ByteArray)(g:ByteArray)(e:Ending)(w':World):Prop:=∃a c,e=.returned (.tuple #[.slice a args.length c,.string g,.nilIface])/\Zo w' (.slice a args.length c) args/\Below w.heap.size w w'
theorem Zda{w:World}{v:Value}{l:List ByteArray}(h:Zo w v l):∃a c,v=.slice a l.length c:=by
 rcases h with⟨A,B⟩|⟨a,c,A,_⟩
 ·exact⟨none,0,by rw[A,B];rfl⟩
 ·exact⟨_,_,A⟩
theorem zay{s:ByteArray}{args:List ByteArray}{g:ByteArray}(B:s.size<=1048576)(h:qi s=some (args,g))(w:World):Calls Tryz.prog 28 #[.string s] w (Qbv w args g):=by
 have:=Qav s w B;rw[h]at this;refine this.mono fun e w' ⟨C,v,D,A⟩=>?_
 obtain⟨a,c,rfl⟩:=Zda A;exact⟨a,c,D,A,C⟩
theorem QaJ{w A:World}(B:Below w.heap.size w A):(∀b o,b<w.heap.size->A.cell? ⟨b,o,none⟩=w.cell? ⟨b,o,none⟩)/\(∀b o,b<w.heap.size->A.frozen? ⟨b,o,none⟩=w.frozen? ⟨b,o,none⟩) :=
 ⟨fun b o h=>B.cell (p:=⟨b,o,none⟩) h,fun b o h=>B.frozen (p:=⟨b,o,none⟩) h⟩
theorem ZaR{w A B:World}(h:Below w.heap.size w A)(C:Below A.heap.size A B):Below w.heap.size w B:=h.trans (C.mono h.size)
theorem qem(x:Ins)(w:World)(h:x.op=2\/x.op=9\/x.op=10):Calls Tryz.prog 186 #[qao x] w fun e w'=>e=.returned (.bool (Z0 x))/\Below w.heap.size w w':=by
 obtain⟨D,a,b,A,cls,C⟩:=x;have B:Hid (Z0 ⟨D,a,b,A,cls,C⟩=ZO A.data.toList):=by unfold Hid Z0;rw[if_pos h]
 unfold qao;rcases h with rfl|rfl|rfl;all_goals
  go_enter Tryz.func186,Tryz.ntmps186;go_wp2_with (go_fit (ZbH _ _);rintro e w'⟨rfl,rfl⟩)
  go_ret;exact⟨QC (by rw[B.out]),Xb.alloc Xl _⟩
theorem Qem(x:Ins)(w:World)(J:x.type.size<=1048576)(h:x.op=22\/x.op=23):Calls Tryz.prog 186 #[qao x] w fun e w'=>e=.returned (.bool (Z0 x))/\Below w.heap.size w w':=by
 obtain⟨H,a,b,A,cls,D⟩:=x;have I:A.size<=maxLen:=ZR (Xf J (by decide));replace h:H=22\/H=23:=h;have B:Hid (Z0 ⟨H,a,b,A,cls,D⟩=(qo A.data.toList&&!ZO A.data.toList)):=by
  unfold Hid Z0;rw[if_neg (by simp;omega),if_neg (by simp;omega),if_pos h]
 unfold qao;cases C:qo A.data.toList with
 |false =>
  have F:=Xh (zap I C);have G:=Xh C;clear C;rcases h with rfl|rfl;all_goals
   go_enter Tryz.func186,Tryz.ntmps186;go_wp2_with (go_fit (F.out _);rintro e N⟨rfl,E⟩)
   go_ret;exact⟨QC (by rw[B.out,G.out];rfl),ZaR (Xb.alloc Xl _) E⟩
 |true =>
  have F:=Xh (Zaj I C);have G:=Xh C;clear C;rcases h with rfl|rfl;all_goals
   go_enter Tryz.func186,Tryz.ntmps186;go_wp2_with (first|(go_fit (F.out _);rintro e N⟨rfl,E⟩;obtain⟨L,M⟩:=QaJ E)|(go_fit (ZbH _ _);rintro e w'⟨rfl,rfl⟩))
   go_ret;exact⟨QC (by rw[B.out,G.out];rfl),ZaR (Xb.alloc Xl _) E⟩
theorem zdO(x:Ins)(w:World)(E:x.type.size<=1048576)(h:x.op=24\/x.op=25):Calls Tryz.prog 186 #[qao x] w fun e w'=>e=.returned (.bool (Z0 x))/\Below w.heap.size w w':=by
 obtain⟨H,a,b,A,cls,D⟩:=x;replace h:H=24\/H=25:=h;replace E:A.size<=1048576:=E;have B:Hid (Z0 ⟨H,a,b,A,cls,D⟩=(qi A).isSome):=by
  unfold Hid Z0;rw[if_neg (by simp;omega),if_neg (by simp;omega),if_neg (by simp;omega),if_pos h]
 unfold qao;cases C:qi A with
 |none =>
  have F:=Xh (ZcL E C);have G:=Xh C;clear C;rcases h with rfl|rfl;all_goals
   go_enter Tryz.func186,Tryz.ntmps186;go_wp2_with (go_fit (F.out _);rintro e J⟨rfl,I⟩)
   go_ret;exact⟨QC (by rw[B.out,G.out];rfl),ZaR (Xb.alloc Xl _) I⟩
 |some m =>
  obtain⟨args,g⟩:=m;have F:=Xh (zay E C);have G:=Xh C;clear C;rcases h with rfl|rfl;all_goals
   go_enter Tryz.func186,Tryz.ntmps186;go_wp2_with (go_fit (F.out _);rintro e J⟨L,M,rfl,N,I⟩)
   go_ret;exact⟨QC (by rw[B.out,G.out];rfl),ZaR (Xb.alloc Xl _) I⟩
theorem ZdO(x:Ins)(w:World)(h:¬(x.op=2\/x.op=9\/x.op=10))(B:¬(x.op=18\/x.op=20\/x.op=21))(C:¬(x.op=22\/x.op=23))(D:¬(x.op=24\/x.op=25)):Calls Tryz.prog 186 #[qao x] w fun e w'=>e=.returned (.bool (Z0 x))/\Below w.heap.size w w':=by
 obtain⟨A,a,b,F,cls,G⟩:=x;have E:Hid (Z0 ⟨A,a,b,F,cls,G⟩=true):=by
  unfold Hid Z0;rw[if_neg h,if_neg B,if_neg C,if_neg D]
 simp only[not_or]at h B C D;have R:(A==2)=false:=by simp[h.1]
 have S:(A==9)=false:=by simp[h.2.1]
 have H:(A==10)=false:=by simp[h.2.2]
 have I:(A==18)=false:=by simp[B.1]
 have J:(A==20)=false:=by simp[B.2.1]
 have L:(A==21)=false:=by simp[B.2.2]
 have M:(A==22)=false:=by simp[C.1]
 have N:(A==23)=false:=by simp[C.2]
 have O:(A==24)=false:=by simp[D.1]
 have P:(A==25)=false:=by simp[D.2]
 unfold qao;clear h B C D;go_enter Tryz.func186,Tryz.ntmps186;go_wp2_with fail;go_ret;exact⟨QC (by rw[E.out]),Xb.alloc Xl _⟩
theorem qbH(t:ByteArray):((⟨#[91]⟩:ByteArray)++t).data.toList=91::t.data.toList:=by
 simp[ByteArray.data_append]
theorem qdO(t:ByteArray):((⟨#[91]⟩:ByteArray)++t).size=t.size+1:=by
 rw[<-qB,qbH,List.length_cons,qB]
theorem zen(x:Ins)(w:World)(O:x.type.size<=1048576)(h:x.op=18\/x.op=20\/x.op=21):Calls Tryz.prog 186 #[qao x] w fun e w'=>e=.returned (.bool (Z0 x))/\Below w.heap.size w w':=by
 obtain⟨N,a,b,A,cls,J⟩:=x;have S:A.size<=maxLen:=ZR (Xf O (by decide));replace h:N=18\/N=20\/N=21:=h;replace O:A.size<=1048576:=O;have C:Hid (Z0 ⟨N,a,b,A,cls,J⟩=(qo A.data.toList&&qo (91::A.data.toList))):=by
  unfold Hid Z0;rw[if_neg (by simp;omega),if_pos h]
 unfold qao;cases H:qo A.data.toList with
 |false =>
  have L:=Xh (zap S H);have M:=Xh H;clear H;rcases h with rfl|rfl|rfl;all_goals
   go_enter Tryz.func186,Tryz.ntmps186;go_wp2_with (go_fit (L.out _);rintro e T⟨rfl,F⟩)
   go_ret;exact⟨QC (by rw[C.out,M.out];rfl),ZaR (Xb.alloc Xl _) F⟩
 |true =>
  have L:=Xh (Zaj S H);have M:=Xh H;have I:((⟨#[91]⟩:ByteArray)++A).size<=maxLen:=ZR (by rw[qdO];omega);clear H;cases B:qo ((⟨#[91]⟩:ByteArray)++A).data.toList with
  |false =>
   have D:=Xh (zap I B);have E:=Xh B;clear B;rcases h with rfl|rfl|rfl;all_goals
    go_enter Tryz.func186,Tryz.ntmps186;go_wp2_with (first|(go_fit (L.out _);rintro e T⟨rfl,F⟩;obtain⟨P,R⟩:=QaJ F)|(go_fit (D.out _);rintro e U⟨rfl,G⟩))
    go_ret;exact⟨QC (by rw[C.out,M,<-qbH,E.out];rfl),ZaR (ZaR (Xb.alloc Xl _) F) G⟩
  |true =>
   have D:=Xh (Zaj I B);have E:=Xh B;clear B;rcases h with rfl|rfl|rfl;all_goals
    go_enter Tryz.func186,Tryz.ntmps186;go_wp2_with (first|(go_fit (L.out _);rintro e T⟨rfl,F⟩;obtain⟨P,R⟩:=QaJ F)|(go_fit (D.out _);rintro e U⟨rfl,G⟩))
    go_ret;exact⟨QC (by rw[C.out,M,<-qbH,E.out];rfl),ZaR (ZaR (Xb.alloc Xl _) F) G⟩
theorem zeh(x:Ins)(w:World)(A:x.type.size<=1048576):Calls Tryz.prog 186 #[qao x] w fun e w'=>e=.returned (.bool (Z0 x))/\Below w.heap.size w w':=by
 by_cases B:x.op=2\/x.op=9\/x.op=10
 ·exact qem x w B
 by_cases C:x.op=18\/x.op=20\/x.op=21
 ·exact zen x w A C
 by_cases D:x.op=22\/x.op=23
 ·exact Qem x w A D
 by_cases E:x.op=24\/x.op=25
 ·exact zdO x w A E
 exact ZdO x w B C D E
def Zb3:List (List UInt8):=[[],[110,111,112],[112,117,115,104],[110,117,108,108],[108,111,97,100],[115,116,111,114,101],[112,111,112],[100,117,112],[115,119,97,112],[109,97,116,104],[99,111,110,118],[111,114,100,101,114],[105,102],[105,102,110,117,108,108],[103,111,116,111],[110,101,119],[103,101,116],[112,117,116],[110,101,119,97,114,114,97,121],[108,101,110,103,116,104],[97,108,111,97,100],[97,115,116,111,114,101],[99,97,115,116],[105,115],[99,97,108,108],[99,97,108,108,115],[114,101,116,117,114,110],[103,105,118,101],[116,104,114,111,119]]
def qb3:List (List UInt8):=[[],[],[65,84],[],[65],[65],[],[],[],[65,84],[84],[],[65,66],[65],[65],[67],[67,78],[67,78],[84],[],[84],[84],[84],[84],[84,67,78],[84,67,78],[],[],[]]
def Qb0(op:Nat):ByteArray:=⟨(Zb3.getD op []).toArray⟩
def zas(op:Nat):ByteArray:=⟨(qb3.getD op []).toArray⟩
def ZaB(w:World):Prop:=3<w.heap.size/\∀i,i<29->w.cell? ⟨3,i*2,none⟩=some (.string (Qb0 i))/\w.cell? ⟨3,i*2+1,none⟩=some (.string (zas i))
theorem ZaB.mono{B:Nat}{w w':World}(h:ZaB w)(A:Below B w w')(C:3<B):ZaB w' :=
 ⟨Nat.lt_of_lt_of_le h.1 A.size,fun i D=>⟨(A.cell (p:=⟨_,_,none⟩) C).trans (h.2 i D).1,(A.cell (p:=⟨_,_,none⟩) C).trans (h.2 i D).2⟩⟩
theorem zfh(A:Int)(w:World)(h:A<1\/28<A):Calls Tryz.prog 182 #[.int .i64 A] w fun e w'=>e=.returned (.tuple #[.agg #[.string .empty,.string .empty],.bool false])/\Below w.heap.size w w':=by
 rcases h with h|h;all_goals
  go_enter Tryz.func182,Tryz.ntmps182;go_wp2
  exact bodyPost_ret (v:=.tuple #[.agg #[.string .empty,.string .empty],.bool false]) (by simp[results,Tryz.results182,go_sem];rfl) rfl ⟨rfl,Xb.alloc Xl _⟩
theorem qe1(A:Nat)(w:World)(E:1<=A)(F:A<=28)(B:ZaB w):Calls Tryz.prog 182 #[.int .i64 A] w fun e w'=>e=.returned (.tuple #[.agg #[.string (Qb0 A),.string (zas A)],.bool true])/\Below w.heap.size w w':=by
 obtain⟨H,I⟩:=B.2 A (by omega);have G:=B.1;generalize Qb0 A=C at *;generalize zas A=D at *;clear B;go_enter Tryz.func182,Tryz.ntmps182;go_wp2
 exact bodyPost_ret (v:=.tuple #[.agg #[.string C,.string D],.bool true]) (by simp[results,Tryz.results182,go_sem]) rfl ⟨rfl,Xb.alloc Xl _⟩
def zbm(nd:ByteArray)(c:UInt8):Bool:=decide (0<=Lib.indexByte nd.data.toList c)
theorem Zeh(C A:ByteArray)(c:UInt8)(B:Nat)(w:World)(_h0:w.cell? ⟨B,0,none⟩=some (.string C))(E:w.cell? ⟨B,1,none⟩=some (.string A)):
 Calls Tryz.prog 183 #[.string ⟨#[c]⟩,.pointer (some ⟨B,0,none⟩)] w fun e w'=>e=.returned (.bool (zbm A c))/\w=w':=by
 have D:Hid (∀w,Calls Tryz.prog 184 #[.string A,.string ⟨#[c]⟩] w fun e w'=>e=.returned (.bool (zbm A c))/\w=w'):=fun w=>(Tryz.strings_Contains_one A c w).mono fun _ _ h=>⟨h.1,h.2.symm⟩
 go_enter Tryz.func183,Tryz.ntmps183;go_wp2_with (go_fit (D.out _);rintro e w'⟨rfl,rfl⟩)
 go_ret;exact⟨rfl,rfl⟩
end Go.Proofs.YtmclocdhcblbiaaGreatDoor
