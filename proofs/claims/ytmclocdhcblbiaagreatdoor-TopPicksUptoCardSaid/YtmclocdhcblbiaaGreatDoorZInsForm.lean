/- Lemmas; conditions: as each states. -/
import Derived.Test.YtmclocdhcblbiaaGreatDoorZMethodText
set_option maxHeartbeats 4000000
namespace Go.Proofs.YtmclocdhcblbiaaGreatDoor
open Go.RowKit Go.Shelf Go.Lib Tryz
def zaq(x:Ins):Value:=.agg #[.int .i64 x.op,.int .i64 x.a,.int .i64 x.b,.string x.type,.string x.cls,.string x.name]
def ZbA(n:Int):Prop:=-9223372036854775808<=n/\n<=9223372036854775807
structure ZbB (x:Ins):Prop where
 op:ZbA x.op
 a:ZbA x.a
 b:ZbA x.b
 type:x.type.size<=1048576
 cls:x.cls.size<=1048576
 name:x.name.size<=1048576
theorem Qbw(A:Int)(w:World):Calls prog 141 #[.int .i64 A] w fun e w'=>e=.returned (.bool (ZU A))/\w=w':=by
 go_enter func141,ntmps141;go_wp2
 all_goals
  go_ret;exact⟨QR (by simp[ZU, *]),rfl⟩
theorem qel(a:Int):(a==wrap64 (wrap32 a))=(decide (-2147483648<=a)&&decide (a<=2147483647)):=by
 rw[Bool.eq_iff_iff];simp;unfold wrap64 wrap32;omega
theorem zdM(x:Ins)(w:World):Calls prog 185 #[zaq x] w fun e w'=>e=.returned (.bool (qR x))/\Below w.heap.size w w':=by
 obtain⟨C,a,b,B,cls,name⟩:=x;unfold zaq;by_cases D:C=2
 ·subst D;have M:=qel a;cases H:(B.toList==[73]) with
  |true =>
   have A:Hid (qR ⟨2,a,b,B,cls,name⟩=(decide (-2147483648<=a)&&decide (a<=2147483647))):=by
    unfold Hid qR;rw[if_pos rfl,lst,<-ByteArray.toList_eq,H];rfl
   go_enter func185,ntmps185;go_wp2
   go_ret;exact⟨QR (by rw[A.out]),Xb.alloc Xl _⟩
  |false =>
   have A:Hid (qR ⟨2,a,b,B,cls,name⟩=true):=by
    unfold Hid qR;rw[if_pos rfl,lst,<-ByteArray.toList_eq,H];rfl
   go_enter func185,ntmps185;go_wp2
   go_ret;exact⟨QR (by rw[A.out]),Xb.alloc Xl _⟩
 have G:(C==2)=false:=by simpa using D
 by_cases E:C=4\/C=5
 ·have A:Hid (qR ⟨C,a,b,B,cls,name⟩=(decide (0<=a)&&decide (a<8))):=by
   unfold Hid qR;rw[if_neg D,if_pos E]
  rcases E with rfl|rfl;all_goals
   clear D G;go_enter func185,ntmps185;go_wp2
   all_goals
    go_ret;exact⟨QR (by rw[A.out,Bool.eq_iff_iff];simp;omega),Xb.alloc Xl _⟩
 have J:(C==4)=false:=by simp;omega
 have L:(C==5)=false:=by simp;omega
 by_cases F:C=9
 ·have A:Hid (qR ⟨C,a,b,B,cls,name⟩=(decide (1<=a)&&decide (a<=12))):=by
   unfold Hid qR;rw[if_neg D,if_neg E,if_pos F]
  subst F;clear D G E J L;go_enter func185,ntmps185;go_wp2
  all_goals
   go_ret;exact⟨QR (by rw[A.out,Bool.eq_iff_iff];simp;omega),Xb.alloc Xl _⟩
 have N:(C==9)=false:=by simpa using F
 have A:Hid (qR ⟨C,a,b,B,cls,name⟩=(!ZU C||(decide (0<=a)&&decide (a<=40)&&decide (0<=b)&&decide (b<=5)))):=by
  unfold Hid qR;rw[if_neg D,if_neg E,if_neg F]
 clear D E F;cases I:ZU C with
 |false =>
  go_enter func185,ntmps185;go_wp2_with (go_fit (Qbw _ _);rintro e w'⟨rfl,rfl⟩)
  all_goals
   go_ret;exact⟨QR (by rw[A.out,I];rfl),Xb.alloc Xl _⟩
 |true =>
  go_enter func185,ntmps185;go_wp2_with (go_fit (Qbw _ _);rintro e w'⟨rfl,rfl⟩)
  all_goals
   go_ret;exact⟨QR (by rw[A.out,I,Bool.eq_iff_iff];simp;omega),Xb.alloc Xl _⟩
theorem QcM{s:ByteArray}(A:s.size<=1048576)(h:Zl s=none)(w:World):Calls prog 28 #[.string s] w fun e w'=>e=.returned (.tuple #[.slice none 0 0,.string .empty,.iface 52 (.int .i64 1)])/\Below w.heap.size w w':=by
 have:=zaz s w A;rw[h]at this;exact this.mono fun e w' ⟨B,C⟩=>⟨C,B⟩
def Zby(w:World)(args:List ByteArray)(g:ByteArray)(e:Ending)(w':World):Prop:=∃a c,e=.returned (.tuple #[.slice a args.length c,.string g,.nilIface])/\qp w' (.slice a args.length c) args/\Below w.heap.size w w'
theorem zdc{w:World}{v:Value}{l:List ByteArray}(h:qp w v l):∃a c,v=.slice a l.length c:=by
 rcases h with⟨A,B⟩|⟨a,c,A,_⟩
 ·exact⟨none,0,by rw[A,B];rfl⟩
 ·exact⟨_,_,A⟩
theorem zaB{s:ByteArray}{args:List ByteArray}{g:ByteArray}(B:s.size<=1048576)(h:Zl s=some (args,g))(w:World):Calls prog 28 #[.string s] w (Zby w args g):=by
 have:=zaz s w B;rw[h]at this;refine this.mono fun e w' ⟨C,v,D,A⟩=>?_
 obtain⟨a,c,rfl⟩:=zdc A;exact⟨a,c,D,A,C⟩
theorem zaO{w A:World}(B:Below w.heap.size w A):(∀b o,b<w.heap.size->A.cell? ⟨b,o,none⟩=w.cell? ⟨b,o,none⟩)/\(∀b o,b<w.heap.size->A.frozen? ⟨b,o,none⟩=w.frozen? ⟨b,o,none⟩) :=
 ⟨fun b o h=>B.cell (p:=⟨b,o,none⟩) h,fun b o h=>B.frozen (p:=⟨b,o,none⟩) h⟩
theorem zaV{w A B:World}(h:Below w.heap.size w A)(C:Below A.heap.size A B):Below w.heap.size w B:=h.trans (C.mono h.size)
theorem Qel(x:Ins)(w:World)(h:x.op=2\/x.op=9\/x.op=10):Calls prog 186 #[zaq x] w fun e w'=>e=.returned (.bool (Z5 x))/\Below w.heap.size w w':=by
 obtain⟨C,a,b,A,cls,name⟩:=x;have B:Hid (Z5 ⟨C,a,b,A,cls,name⟩=QX A.data.toList):=by unfold Hid Z5;rw[if_pos h]
 unfold zaq;rcases h with rfl|rfl|rfl;all_goals
  go_enter func186,ntmps186;go_wp2_with (go_fit (ZbJ _ _);rintro e w'⟨rfl,rfl⟩)
  go_ret;exact⟨QR (by rw[B.out]),Xb.alloc Xl _⟩
theorem zem(x:Ins)(w:World)(I:x.type.size<=1048576)(h:x.op=22\/x.op=23):Calls prog 186 #[zaq x] w fun e w'=>e=.returned (.bool (Z5 x))/\Below w.heap.size w w':=by
 obtain⟨G,a,b,A,cls,name⟩:=x;have H:A.size<=maxLen:=Q6 (Xf I (by decide));replace h:G=22\/G=23:=h;have B:Hid (Z5 ⟨G,a,b,A,cls,name⟩=(zp A.data.toList&&!QX A.data.toList)):=by
  unfold Hid Z5;rw[if_neg (by simp;omega),if_neg (by simp;omega),if_pos h]
 unfold zaq;cases C:zp A.data.toList with
 |false =>
  have E:=Xh (zar H C);have F:=Xh C;clear C;rcases h with rfl|rfl;all_goals
   go_enter func186,ntmps186;go_wp2_with (go_fit (E.out _);rintro e M⟨rfl,D⟩)
   go_ret;exact⟨QR (by rw[B.out,F.out];rfl),zaV (Xb.alloc Xl _) D⟩
 |true =>
  have E:=Xh (Qak H C);have F:=Xh C;clear C;rcases h with rfl|rfl;all_goals
   go_enter func186,ntmps186;go_wp2_with (first|(go_fit (E.out _);rintro e M⟨rfl,D⟩;obtain⟨J,L⟩:=zaO D)|(go_fit (ZbJ _ _);rintro e w'⟨rfl,rfl⟩))
   go_ret;exact⟨QR (by rw[B.out,F.out];rfl),zaV (Xb.alloc Xl _) D⟩
theorem QdQ(x:Ins)(w:World)(D:x.type.size<=1048576)(h:x.op=24\/x.op=25):Calls prog 186 #[zaq x] w fun e w'=>e=.returned (.bool (Z5 x))/\Below w.heap.size w w':=by
 obtain⟨G,a,b,A,cls,name⟩:=x;replace h:G=24\/G=25:=h;replace D:A.size<=1048576:=D;have B:Hid (Z5 ⟨G,a,b,A,cls,name⟩=(Zl A).isSome):=by
  unfold Hid Z5;rw[if_neg (by simp;omega),if_neg (by simp;omega),if_neg (by simp;omega),if_pos h]
 unfold zaq;cases C:Zl A with
 |none =>
  have E:=Xh (QcM D C);have F:=Xh C;clear C;rcases h with rfl|rfl;all_goals
   go_enter func186,ntmps186;go_wp2_with (go_fit (E.out _);rintro e I⟨rfl,H⟩)
   go_ret;exact⟨QR (by rw[B.out,F.out];rfl),zaV (Xb.alloc Xl _) H⟩
 |some m =>
  obtain⟨args,g⟩:=m;have E:=Xh (zaB D C);have F:=Xh C;clear C;rcases h with rfl|rfl;all_goals
   go_enter func186,ntmps186;go_wp2_with (go_fit (E.out _);rintro e I⟨J,L,rfl,M,H⟩)
   go_ret;exact⟨QR (by rw[B.out,F.out];rfl),zaV (Xb.alloc Xl _) H⟩
theorem zdR(x:Ins)(w:World)(h:¬(x.op=2\/x.op=9\/x.op=10))(B:¬(x.op=18\/x.op=20\/x.op=21))(C:¬(x.op=22\/x.op=23))(D:¬(x.op=24\/x.op=25)):Calls prog 186 #[zaq x] w fun e w'=>e=.returned (.bool (Z5 x))/\Below w.heap.size w w':=by
 obtain⟨A,a,b,F,cls,name⟩:=x;have E:Hid (Z5 ⟨A,a,b,F,cls,name⟩=true):=by
  unfold Hid Z5;rw[if_neg h,if_neg B,if_neg C,if_neg D]
 simp only[not_or]at h B C D;have P:(A==2)=false:=by simp[h.1]
 have R:(A==9)=false:=by simp[h.2.1]
 have G:(A==10)=false:=by simp[h.2.2]
 have H:(A==18)=false:=by simp[B.1]
 have I:(A==20)=false:=by simp[B.2.1]
 have J:(A==21)=false:=by simp[B.2.2]
 have L:(A==22)=false:=by simp[C.1]
 have M:(A==23)=false:=by simp[C.2]
 have N:(A==24)=false:=by simp[D.1]
 have O:(A==25)=false:=by simp[D.2]
 unfold zaq;clear h B C D;go_enter func186,ntmps186;go_wp2_with fail;go_ret;exact⟨QR (by rw[E.out]),Xb.alloc Xl _⟩
theorem qbJ(t:ByteArray):((⟨#[91]⟩:ByteArray)++t).data.toList=91::t.data.toList:=by
 simp[ByteArray.data_append]
theorem ZdR(t:ByteArray):((⟨#[91]⟩:ByteArray)++t).size=t.size+1:=by
 rw[<-zP,qbJ,List.length_cons,zP]
theorem Zem(x:Ins)(w:World)(N:x.type.size<=1048576)(h:x.op=18\/x.op=20\/x.op=21):Calls prog 186 #[zaq x] w fun e w'=>e=.returned (.bool (Z5 x))/\Below w.heap.size w w':=by
 obtain⟨M,a,b,A,cls,name⟩:=x;have R:A.size<=maxLen:=Q6 (Xf N (by decide));replace h:M=18\/M=20\/M=21:=h;replace N:A.size<=1048576:=N;have C:Hid (Z5 ⟨M,a,b,A,cls,name⟩=(zp A.data.toList&&zp (91::A.data.toList))):=by
  unfold Hid Z5;rw[if_neg (by simp;omega),if_pos h]
 unfold zaq;cases H:zp A.data.toList with
 |false =>
  have J:=Xh (zar R H);have L:=Xh H;clear H;rcases h with rfl|rfl|rfl;all_goals
   go_enter func186,ntmps186;go_wp2_with (go_fit (J.out _);rintro e S⟨rfl,F⟩)
   go_ret;exact⟨QR (by rw[C.out,L.out];rfl),zaV (Xb.alloc Xl _) F⟩
 |true =>
  have J:=Xh (Qak R H);have L:=Xh H;have I:((⟨#[91]⟩:ByteArray)++A).size<=maxLen:=Q6 (by rw[ZdR];omega);clear H;cases B:zp ((⟨#[91]⟩:ByteArray)++A).data.toList with
  |false =>
   have D:=Xh (zar I B);have E:=Xh B;clear B;rcases h with rfl|rfl|rfl;all_goals
    go_enter func186,ntmps186;go_wp2_with (first|(go_fit (J.out _);rintro e S⟨rfl,F⟩;obtain⟨O,P⟩:=zaO F)|(go_fit (D.out _);rintro e T⟨rfl,G⟩))
    go_ret;exact⟨QR (by rw[C.out,L,<-qbJ,E.out];rfl),zaV (zaV (Xb.alloc Xl _) F) G⟩
  |true =>
   have D:=Xh (Qak I B);have E:=Xh B;clear B;rcases h with rfl|rfl|rfl;all_goals
    go_enter func186,ntmps186;go_wp2_with (first|(go_fit (J.out _);rintro e S⟨rfl,F⟩;obtain⟨O,P⟩:=zaO F)|(go_fit (D.out _);rintro e T⟨rfl,G⟩))
    go_ret;exact⟨QR (by rw[C.out,L,<-qbJ,E.out];rfl),zaV (zaV (Xb.alloc Xl _) F) G⟩
theorem Zeg(x:Ins)(w:World)(A:x.type.size<=1048576):Calls prog 186 #[zaq x] w fun e w'=>e=.returned (.bool (Z5 x))/\Below w.heap.size w w':=by
 by_cases B:x.op=2\/x.op=9\/x.op=10
 ·exact Qel x w B
 by_cases C:x.op=18\/x.op=20\/x.op=21
 ·exact Zem x w A C
 by_cases D:x.op=22\/x.op=23
 ·exact zem x w A D
 by_cases E:x.op=24\/x.op=25
 ·exact QdQ x w A E
 exact zdR x w B C D E
def QbY:List (List UInt8):=[[],[110,111,112],[112,117,115,104],[110,117,108,108],[108,111,97,100],[115,116,111,114,101],[112,111,112],[100,117,112],[115,119,97,112],[109,97,116,104],[99,111,110,118],[111,114,100,101,114],[105,102],[105,102,110,117,108,108],[103,111,116,111],[110,101,119],[103,101,116],[112,117,116],[110,101,119,97,114,114,97,121],[108,101,110,103,116,104],[97,108,111,97,100],[97,115,116,111,114,101],[99,97,115,116],[105,115],[99,97,108,108],[99,97,108,108,115],[114,101,116,117,114,110],[103,105,118,101],[116,104,114,111,119]]
def zbZ:List (List UInt8):=[[],[],[65,84],[],[65],[65],[],[],[],[65,84],[84],[],[65,66],[65],[65],[67],[67,78],[67,78],[84],[],[84],[84],[84],[84],[84,67,78],[84,67,78],[],[],[]]
def ZbZ(op:Nat):ByteArray:=⟨(QbY.getD op []).toArray⟩
def qat(op:Nat):ByteArray:=⟨(zbZ.getD op []).toArray⟩
def Qax(w:World):Prop:=3<w.heap.size/\∀i,i<29->w.cell? ⟨3,i*2,none⟩=some (.string (ZbZ i))/\w.cell? ⟨3,i*2+1,none⟩=some (.string (qat i))
theorem Qax.mono{B:Nat}{w w':World}(h:Qax w)(A:Below B w w')(C:3<B):Qax w' :=
 ⟨Nat.lt_of_lt_of_le h.1 A.size,fun i D=>⟨(A.cell (p:=⟨_,_,none⟩) C).trans (h.2 i D).1,(A.cell (p:=⟨_,_,none⟩) C).trans (h.2 i D).2⟩⟩
theorem Zfn(A:Int)(w:World)(h:A<1\/28<A):Calls prog 182 #[.int .i64 A] w fun e w'=>e=.returned (.tuple #[.agg #[.string .empty,.string .empty],.bool false])/\Below w.heap.size w w':=by
 rcases h with h|h;all_goals
  go_enter func182,ntmps182;go_wp2
  exact bodyPost_ret (v:=.tuple #[.agg #[.string .empty,.string .empty],.bool false]) (by simp[results,results182,go_sem];rfl) rfl ⟨rfl,Xb.alloc Xl _⟩
theorem Qe6(A:Nat)(w:World)(E:1<=A)(F:A<=28)(B:Qax w):Calls prog 182 #[.int .i64 A] w fun e w'=>e=.returned (.tuple #[.agg #[.string (ZbZ A),.string (qat A)],.bool true])/\Below w.heap.size w w':=by
 obtain⟨H,I⟩:=B.2 A (by omega);have G:=B.1;generalize ZbZ A=C at *;generalize qat A=D at *;clear B;go_enter func182,ntmps182;go_wp2
 exact bodyPost_ret (v:=.tuple #[.agg #[.string C,.string D],.bool true]) (by simp[results,results182,go_sem]) rfl ⟨rfl,Xb.alloc Xl _⟩
def zbp(nd:ByteArray)(c:UInt8):Bool:=decide (0<=Lib.indexByte nd.data.toList c)
theorem qeg(C A:ByteArray)(c:UInt8)(B:Nat)(w:World)(_h0:w.cell? ⟨B,0,none⟩=some (.string C))(E:w.cell? ⟨B,1,none⟩=some (.string A)):
 Calls prog 183 #[.string ⟨#[c]⟩,.pointer (some ⟨B,0,none⟩)] w fun e w'=>e=.returned (.bool (zbp A c))/\w=w':=by
 have D:Hid (∀w,Calls prog 184 #[.string A,.string ⟨#[c]⟩] w fun e w'=>e=.returned (.bool (zbp A c))/\w=w'):=fun w=>(Tryz.strings_Contains_one A c w).mono fun _ _ h=>⟨h.1,h.2.symm⟩
 go_enter func183,ntmps183;go_wp2_with (go_fit (D.out _);rintro e w'⟨rfl,rfl⟩)
 go_ret;exact⟨rfl,rfl⟩
