/- Lemmas; conditions: as each states. -/
import Derived.Test.YtmclocdhcblbiaaGreatDoorFlow
set_option maxHeartbeats 4000000
namespace Go.Proofs.YtmclocdhcblbiaaGreatDoor
open Go.RowKit
theorem qa8(c:UInt8)(w:World):Calls Tryz.prog 93 #[.int .u8 (c.toNat:Int)] w fun e w'=>e=.returned (.bool (zZ c))/\w=w':=by
 go_enter Tryz.func93,Tryz.ntmps93;go_wp2
 all_goals
  go_ret;exact⟨QC (by rw[Bool.eq_iff_iff,Zdk];simp;omega),rfl⟩
theorem zbJ(c:UInt8)(w:World):Calls Tryz.prog 94 #[.int .u8 (c.toNat:Int)] w fun e w'=>e=.returned (.bool (zaw c))/\w=w':=by
 go_enter Tryz.func94,Tryz.ntmps94;go_wp2
 all_goals
  go_ret;exact⟨QC (by rw[Bool.eq_iff_iff,zc5];simp;omega),rfl⟩
theorem zcA(s:ByteArray)(w:World)(I:s.size<=maxLen):Calls Tryz.prog 56 #[.string s] w fun e w'=>e=.returned (.bool (Zx s.data.toList))/\w=w':=by
 unfold maxLen at I;by_cases G:s.size=0
 ·have B:Zx s.data.toList=false:=by rw[QaG];simp[G]
  have J:((s.size:Int)==0)=true:=by simp[G]
  rw[B];clear B G;go_enter Tryz.func56,Tryz.ntmps56;go_wp2_with fail;go_ret;exact⟨rfl,rfl⟩
 ·have J:((s.size:Int)==0)=false:=by simp[G]
  by_cases L:20<s.size
  ·have B:Zx s.data.toList=false:=(by rw[QaG];simp;omega);rw[B];clear B;go_enter Tryz.func56,Tryz.ntmps56;go_wp2_with fail;go_ret;exact⟨rfl,rfl⟩
  ·have C:0<s.size:=(by omega);clear G;cases F:zZ s[0] with
   |true =>
    have B:Zx s.data.toList=false:=by
     rw[QaG];rw[qbF C];simp[F]
    rw[B];clear B;go_enter Tryz.func56,Tryz.ntmps56;go_wp2_with (go_fit (qa8 _ _);rintro e w'⟨rfl,rfl⟩)
    go_ret;exact⟨rfl,rfl⟩
   |false =>
    have B:Hid (Zx s.data.toList=s.data.toList.all ZaA):=by
     unfold Hid;rw[QaG,qbF C];simp[C,F];omega
    go_enter Tryz.func56,Tryz.ntmps56;go_wp2_with (go_fit (qa8 _ _);rintro e w'⟨rfl,rfl⟩)
    clear F;go_loop [3] (fun i=>∃k:Nat,k<=s.size/\Hid ((s.data.toList.take k).all ZaA=true)/\i=.int .i64 k) (fun i=>s.size-(intOf i).toNat)
    case atStart=>exact⟨0,Nat.zero_le _,rfl,rfl⟩
    case round =>
     obtain⟨k,N,D,rfl⟩:=hrel;by_cases E:k<s.size
     ·cases H:zaw s[k] with
      |true =>
       have A:Hid ((s.data.toList.take (k+1)).all ZaA=true):=qbA E D.out (by simp[ZaA,H]);go_wp2_with (first|(go_fit (zbJ _ _);rintro e w'⟨rfl,rfl⟩)|(go_fit (qa8 _ _);rintro e w'⟨rfl,rfl⟩))
       go_round
       case rel=>exact⟨k+1,by omega,A,by go_num⟩
       case measure=>simp[intOf];omega
      |false =>
       cases F:zZ s[k] with
       |true =>
        have A:Hid ((s.data.toList.take (k+1)).all ZaA=true):=qbA E D.out (by simp[ZaA,F]);go_wp2_with (first|(go_fit (zbJ _ _);rintro e w'⟨rfl,rfl⟩)|(go_fit (qa8 _ _);rintro e w'⟨rfl,rfl⟩))
        go_round
        case rel=>exact⟨k+1,by omega,A,by go_num⟩
        case measure=>simp[intOf];omega
       |false =>
        have M:Hid (s.data.toList.all ZaA=false):=Zef E (by simp[ZaA,H,F]);go_wp2_with (first|(go_fit (zbJ _ _);rintro e w'⟨rfl,rfl⟩)|(go_fit (qa8 _ _);rintro e w'⟨rfl,rfl⟩))
        go_ret;exact⟨QC (by rw[B.out,M.out]),rfl⟩
     ·go_wp2_with fail;go_ret;exact⟨QC (by rw[B.out,<-D.out,List.take_of_length_le (by simp;omega)]),rfl⟩
theorem ZcA(s:ByteArray)(a:Nat)(w:World)(b:s.size<=maxLen)(z:a<=s.size):
 Calls Tryz.prog 35 #[.string s,.int .i64 a] w fun e w'=>e=.returned (.int .i64 (qah s a))/\w=w':=by
 obtain⟨f1,f2,p,q⟩:=Qef s a z;generalize v:a+zq (s.data.toList.drop a)=i at *;have C:=Xh (zdI s a i v.symm);have P:=b;unfold maxLen at b;have d:=Xh p;have V:=Xh q;have f:=Xh P;clear p q v P;go_enter Tryz.func35,Tryz.ntmps35;go_wp2_with fail;go_loop [5] (fun x=>∃k:Nat,a<=k/\k<=i/\x=.int .i64 k) (fun x=>i-(intOf x).toNat)
 case atStart=>exact⟨a,by omega,by omega,rfl⟩
 case round =>
  obtain⟨k,R,Y,rfl⟩:=hrel;by_cases E:k<i
  ·have F:k<s.size:=(by omega);have T:(((s[k]).toNat:Int)==91)=true:=Qcg (c:=91) (d.out k F R E) rfl;go_wp2_with fail;go_round
   case rel=>exact⟨k+1,by omega,by omega,by go_num⟩
   case measure=>simp[intOf];omega
  ·have X:k=i:=(by omega);subst X;clear R Y E d;by_cases F:k<s.size
   ·have T:(((s[k]).toNat:Int)==91)=false:=qaQ (c:=91) (V.out F) rfl;clear V;by_cases hd:3<k-a
    ·go_wp2_with fail;go_ret;exact⟨QaK (by rw[C.out,if_neg (by omega)]),rfl⟩
    ·have I:=Xh (Zd6 s k F);by_cases G:s[k]=73
     ·have A:Hid (qah s a=(k:Int)+1):=by
       unfold Hid;rw[C.out,I,if_pos (Or.inl G),if_pos (by omega)];rfl
      have g:=Qcg G (n:=73) rfl;clear G I C;go_wp2_with fail;go_ret;exact⟨QaK (by rw[A.out]),rfl⟩
     ·have g:=qaQ G (n:=73) rfl;by_cases J:s[k]=74
      ·have A:Hid (qah s a=(k:Int)+1):=by
        unfold Hid;rw[C.out,I,if_pos (Or.inr J),if_pos (by omega)];rfl
       have h:=Qcg J (n:=74) rfl;clear G J I C;go_wp2_with fail;go_ret;exact⟨QaK (by rw[A.out]),rfl⟩
      ·have h:=qaQ J (n:=74) rfl;by_cases N:s[k]=76
       ·have l:=QbO N (n:=76) rfl;have D:Hid (QA (s.data.toList.drop k)=if k+1+Zn (s.data.toList.drop (k+1))<s.size/\Zx ((s.extract (k+1) (k+1+Zn (s.data.toList.drop (k+1)))).data.toList)=true then Zn (s.data.toList.drop (k+1))+2 else 0):=by
         unfold Hid;rw[I.out,if_neg (by simp[G,J]),if_pos N]
        obtain⟨g1,g2,r,t⟩:=Zeg s (k+1) (by omega);generalize hm:Zn (s.data.toList.drop (k+1))=m at *;generalize y:k+1+m=e at *;have o:=Xh r;have U:=Xh t;have HE:=Xh y;clear I G J N r t hm y;go_wp2_with fail;go_loop [6] (fun x=>∃j:Nat,k+1<=j/\j<=e/\x=.int .i64 j) (fun x=>e-(intOf x).toNat)
        case atStart=>exact⟨k+1,by omega,by omega,by go_num⟩
        case round =>
         obtain⟨j,S,Z,rfl⟩:=hrel;clear T g h l;by_cases E:j<e
         ·have H:j<s.size:=(by omega);have T:=Qbt (o.out j H S E) (n:=59) rfl;go_wp2_with fail;go_round
          case rel=>exact⟨j+1,by omega,by omega,by go_num⟩
          case measure=>simp[intOf];omega
         ·have L:j=e:=(by omega);subst L;clear S Z E o;by_cases H:j<s.size
          ·have T:=QbO (U.out H) (n:=59) rfl;have hne:((j:Int)==(s.size:Int))=false:=(by simp;omega);cases O:Zx ((s.extract (k+1) j).data.toList) with
           |true =>
            have A:Hid (qah s a=(j:Int)+1):=by
             have B:=D.out;rw[if_pos ⟨H,O⟩]at B;unfold Hid;rw[C.out,B,if_pos (by omega)];have:=HE.out;omega
            have M:=Xh O;clear D C U O;go_wp2_with (go_at_call 56;refine(zcA _ _ ?hsz).mono ?_;(case hsz=>exact ZaF f.out);rintro e w'⟨rfl,rfl⟩;rw[M.out])
            go_ret;exact⟨QaK (by rw[A.out]),rfl⟩
           |false =>
            have A:Hid (qah s a=0):=by
             have B:=D.out;rw[if_neg (by rw[O];simp)]at B;unfold Hid;rw[C.out,B,if_neg (by omega)]
            have M:=Xh O;clear D C U O;go_wp2_with (go_at_call 56;refine(zcA _ _ ?hsz).mono ?_;(case hsz=>exact ZaF f.out);rintro e w'⟨rfl,rfl⟩;rw[M.out])
            go_ret;exact⟨QaK (by rw[A.out]),rfl⟩
          ·have A:Hid (qah s a=0):=by
            have B:=D.out;rw[if_neg (by omega)]at B;unfold Hid;rw[C.out,B,if_neg (by omega)]
           have L:j=s.size:=(by omega);have heq:((j:Int)==(s.size:Int))=true:=(by simp;omega);clear D C U L;go_wp2_with fail;go_ret;exact⟨QaK (by rw[A.out]),rfl⟩
       ·have l:=Qbt N (n:=76) rfl;have A:Hid (qah s a=0):=by
         have B:=I.out;rw[if_neg (by simp[G,J]),if_neg N]at B;unfold Hid;rw[C.out,B,if_neg (by omega)]
        clear G J N I C;go_wp2_with fail;go_ret;exact⟨QaK (by rw[A.out]),rfl⟩
   ·clear V;by_cases hd:3<k-a
    ·go_wp2_with fail;go_ret;exact⟨QaK (by rw[C.out,if_neg (by omega)]),rfl⟩
    ·go_wp2_with fail;go_ret;exact⟨QaK (by rw[C.out,qdk s k (by omega),if_neg (by omega)]),rfl⟩
open Go.RowKit Go.Shelf Go.Lib
theorem qdv(s:ByteArray):qah s 0=(Qn s.data.toList:Int):=by
 unfold qah;rw[List.drop_zero];split
 ·rename_i h;rw[h];rfl
 ·simp
theorem Za1(s:ByteArray)(w:World)(E:s.size<=maxLen):Calls Tryz.prog 36 #[.string s] w fun e w'=>e=.returned (.bool (qo s.data.toList))/\w=w':=by
 have A:Calls Tryz.prog 35 #[.string s,.int .i64 0] w fun e w'=>e=.returned (.int .i64 (qah s 0))/\w=w':=ZcA s 0 w E (Nat.zero_le _)
 rw[qdv]at A;have B:=ZcU s;by_cases D:s.size=0
 ·have C:qo s.data.toList=false:=by rw[Bool.eq_false_iff];intro h;rw[B]at h;omega
  have F:((s.size:Int)==0)=true:=by simp[D]
  rw[C];clear B C A;go_enter Tryz.func36,Tryz.ntmps36;go_wp2
  all_goals first|(exfalso;omega)|skip
  go_ret;exact⟨rfl,rfl⟩
 ·have C:Hid (qo s.data.toList=decide (Qn s.data.toList=s.size)):=by
   unfold Hid;rw[Bool.eq_iff_iff,B];simp;omega
  have G:0<s.size:=by omega
  have H:=Xh A;clear B D A;generalize Qn s.data.toList=n at *;go_enter Tryz.func36,Tryz.ntmps36;go_wp2_with (go_fit H.out;rintro e w'⟨rfl,rfl⟩)
  all_goals first|(exfalso;omega)|skip
  go_ret;exact⟨QC (by rw[C.out,Bool.eq_iff_iff];simp;omega),rfl⟩
theorem QcL(s:ByteArray)(w:World):Calls Tryz.prog 38 #[.string s] w fun e w'=>e=.returned (.bool (ZO s.data.toList))/\w=w':=by
 rw[<-ByteArray.toList_eq];go_enter Tryz.func38,Tryz.ntmps38;go_wp2
 all_goals
  go_ret;simp[ZO, *]
theorem Zdc(s:ByteArray)(w:World)(A:s.size<=maxLen):Calls Tryz.prog 21 #[.string s] w fun e w'=>e=.returned (.bool (qbj s.data.toList))/\w=w':=by
 have B:=Xh (Za1 s w A);have C:=Xh (QcL s w);unfold qbj;generalize qo s.data.toList=a at *;generalize ZO s.data.toList=b at *;cases a<;>cases b
 all_goals
  go_enter Tryz.func21,Tryz.ntmps21;go_wp2_with (first|(go_fit B.out;rintro e w'⟨rfl,rfl⟩)|(go_fit C.out;rintro e w'⟨rfl,rfl⟩))
  go_ret;exact⟨rfl,rfl⟩
theorem zcM(n:Int)(w:World):Calls Tryz.prog 20 #[.int .i64 n] w fun e w'=>e=.returned (.bool (decide (-2147483648<=n)&&decide (n<=2147483647)))/\w=w':=by
 go_enter Tryz.func20,Tryz.ntmps20;go_wp2
 all_goals
  go_ret;exact⟨QC (by rw[Bool.eq_iff_iff];simp;omega),rfl⟩
theorem ZcM(l:List UInt8)(c:UInt8):Lib.hasPrefix l [c]=(match l with|[]=>false|d::_=>d==c):=by
 unfold Lib.hasPrefix;cases l with
 |nil=>rfl
 |cons d r =>
  show(c==d&&List.isPrefixOf [] r)=(d==c)
  rw[Bool.eq_iff_iff];simp[List.isPrefixOf];exact eq_comm
theorem QW(s:ByteArray)(i:Nat):(s.extract i s.size).data.toList=s.data.toList.drop i:=by
 rw[Lib.extract_data];exact List.take_of_length_le (by simp)
theorem zea(s:ByteArray)(i:Nat):(⟨(s.data.toList.drop i).toArray⟩:ByteArray)=s.extract i s.size:=by
 apply ByteArray.ext;apply Array.toList_inj.1;rw[QW]
theorem zbx{s:ByteArray}{i:Nat}(h:i<s.size)(c:UInt8):Lib.hasPrefix (s.extract i s.size).data.toList [c]=(s[i]==c):=by
 rw[QW,ZcM,List.drop_eq_getElem_cons (by simpa using h)];rfl
theorem qdc{s:ByteArray}(h:0<s.size)(B:s[0]=40):qi s=Zw (qv (s.extract 1 s.size) true []):=by
 have A:Lib.hasPrefix s.data.toList [40]=true:=by
  have:=zbx h 40;rw[QW,List.drop_zero]at this;rw[this,B];rfl
 unfold qi;rw[A];unfold Lib.trimPrefix;rw[A,if_pos rfl];show Zw (qv ⟨(List.drop 1 s.data.toList).toArray⟩ true [])=_
 rw[zea]
theorem ZbU{s:ByteArray}(h:∀h:0<s.size,s[0]≠40):qi s=none:=by
 have B:Lib.hasPrefix s.data.toList [40]=false:=by
  by_cases A:0<s.size
  ·have:=zbx A 40;rw[QW,List.drop_zero]at this;rw[this];simpa using h A
  ·have:s.data.toList=[]:=(by apply List.length_eq_zero_iff.1;rw[qB];omega);rw[this];rfl
 unfold qi;rw[B];simp[qv,Zw]
theorem Qdc{s:ByteArray}{i:Nat}(h:i<s.size)(A:s[i]=41):Qac (s.extract i s.size)=s.extract (i+1) s.size:=by
 unfold Qac Lib.trimPrefix;rw[zbx h,A,if_pos (by decide),QW,List.drop_drop];show(⟨(List.drop (i+1) s.data.toList).toArray⟩:ByteArray)=_
 rw[zea]
theorem Zet(s:ByteArray)(i n:Nat)(_hi:i<=s.size):(s.extract i s.size).extract n (s.extract i s.size).size=s.extract (i+n) s.size:=by
 apply ByteArray.ext;apply Array.toList_inj.1;rw[QW,QW,QW,List.drop_drop]
theorem ZdS(s:ByteArray)(i n:Nat):(s.extract i s.size).extract 0 n=s.extract i (i+n):=by
 apply ByteArray.ext;apply Array.toList_inj.1;rw[Lib.extract_data,QW,Lib.extract_data];simp
def zaG(w:World)(m:Option (List ByteArray×ByteArray))(e:Ending)(w':World):Prop :=
 Below w.heap.size w w'/\match m with
  |none=>e=.returned (.tuple #[.slice none 0 0,.string .empty,.bool false])
  |some (args,g)=>∃v,e=.returned (.tuple #[v,.string g,.bool true])/\Zo w' v args
theorem zao{w w':World}{m:Option (List ByteArray×ByteArray)}(A:m=none)(B:Below w.heap.size w w'):
 zaG w m (.returned (.tuple #[.slice none 0 0,.string .empty,.bool false])) w':=by subst A;exact⟨B,rfl⟩
theorem qbC{w w':World}{m:Option (List ByteArray×ByteArray)}{args:List ByteArray}{g:ByteArray}{v:Value}(A:m=some (args,g))(B:Below w.heap.size w w')(C:Zo w' v args):
 zaG w m (.returned (.tuple #[v,.string g,.bool true])) w':=by subst A;exact⟨B,v,rfl,C⟩
set_option maxRecDepth 100000
theorem qcM(s:ByteArray)(w:World)(hs:s.size<=1048576):Calls Tryz.prog 17 #[.string s] w (zaG w (qi s)):=by
 have y:s.size<=maxLen:=ZR (Xf hs (by decide));obtain⟨i0,hi,p,q,r⟩:=info_parts Q3;by_cases Y:0<s.size
 ·have z:((s.size:Int)==0)=false:=by rw[beq_eq_false_iff_ne];omega
  by_cases G:s[0]=40
  ·have d:=QbO (h:=Y) G (n:=40) rfl;have HM:Hid (Zw (qv (s.extract 1 s.size) true [])=qi s):=(qdc Y G).symm;have HS:=Xh y;generalize qi s=m at *;clear G y;go_enter Tryz.func17,Tryz.ntmps17;go_wp2_with fail;go_loopw [5,6] (fun v x wr=>∃(i:Nat) (acc:List ByteArray),Hid (Zw (qv (s.extract i s.size) true acc)=m)/\acc.length+1<=i/\i<=s.size/\wr.ownsRow w.heap.size 9 1 v acc.length (acc.map Value.string)/\Below w.heap.size w wr/\x=.int .i64 i) (fun _ x _=>s.size-(intOf x).toNat)
   case atStart=>exact⟨1,[],HM,by simp,by omega,World.ownsRow_nil _ _ _ _,Xb,rfl⟩
   case round =>
    clear HM d z;obtain⟨i,acc,B,hla,c,A,C,rfl⟩:=hrel;obtain⟨va,vc,rfl⟩:=Qd A;by_cases J:i<s.size
    ·have E:=zbx J 41;by_cases D:s[i]=41
     ·have d:=QbO (h:=J) D (n:=41) rfl;have N:Hid (Zw (s.extract i s.size,acc,true)=m):=by
       unfold Hid;rw[<-qcj (acc:=acc) (by rw[E,D];rfl)];exact B.out
      have O:=Qdc J D;have H:(s.extract (i+1) s.size).size<=maxLen:=ZaF HS.out;clear D E B;generalize hge:s.extract (i+1) s.size=g at *;by_cases f:acc.length<=5
      ·cases hV:(g.toList==[86]) with
       |true =>
        have I:Hid (m=some (acc,g)):=(by unfold Hid;rw[<-N.out];exact Zag f O (by simp[qJ,hV]));have j:=Xh (Qi A);clear A N O H;go_wp2_with fail;all_goals first|(exfalso;omega)|skip
        go_ret3;exact qbC I.out C j.out
       |false =>
        cases V:qo g.data.toList with
        |true =>
         have I:Hid (m=some (acc,g)):=(by unfold Hid;rw[<-N.out];exact Zag f O (by simp[qJ,V]));have P:=Za1 g;rw[V]at P;have l:Hid (∀wx,_):=fun wx=>P wx H
         have j:=Xh (Qi A);clear A N O H V P;go_wp2_with (go_fit (l.out _);rintro e t⟨rfl,rfl⟩)
         all_goals first|(exfalso;omega)|skip
         go_ret3;exact qbC I.out C j.out
        |false =>
         have F:Hid (m=none):=(by unfold Hid;rw[<-N.out];exact QaX O (by simp[qJ,V,hV]));have P:=Za1 g;rw[V]at P;have l:Hid (∀wx,_):=fun wx=>P wx H
         clear A N O H V P;go_wp2_with (go_fit (l.out _);rintro e t⟨rfl,rfl⟩)
         all_goals first|(exfalso;omega)|skip
         go_ret3;exact zao F.out C
      ·have F:Hid (m=none):=(by unfold Hid;rw[<-N.out];exact zaY f);clear N O H A;go_wp2_with fail;all_goals first|(exfalso;omega)|skip
       go_ret3;exact zao F.out C
     ·have d:=Qbt (h:=J) D (n:=41) rfl;rw[show(s[i]==41)=false by simpa using D]at E;have Z:=Xh (ZcA s i wr HS.out c);have L:qah s i=if Qn (s.extract i s.size).data.toList=0 then 0 else (i:Int)+Qn (s.extract i s.size).data.toList:=by
       unfold qah;rw[QW]
      cases S:Qn (s.extract i s.size).data.toList with
      |zero =>
       have U:Hid (m=none):=by
        unfold Hid;rw[<-B.out,Qcf E S];simp[qv,Zw]
       rw[L,S]at Z;simp only[if_true]at Z;clear B A S L E D;go_wp2_with (go_fit Z.out;rintro e t⟨rfl,rfl⟩)
       go_ret3;exact zao U.out C
      |succ n =>
       have a:=zaB (s.extract i s.size).data.toList;rw[QW,List.length_drop,qB,<-QW,S]at a;have U:Hid (Zw (qv (s.extract (i+(n+1)) s.size) true (acc++[s.extract i (i+(n+1))]))=m):=by
        unfold Hid;rw[<-B.out,zck E S,Zet _ _ _ c,ZdS]
       rw[L,S,if_neg (by omega)]at Z;have hne:(((i:Int)+((n+1:Nat):Int))==0)=false:=(by rw[beq_eq_false_iff_ne];omega);clear B S L E D;have c2:∀x:Str,∀u∈[Value.string x],u.oneCell'=true:=fun x u hu=>by simp at hu;subst hu;rfl
       have c3:acc.length+1<=maxLen:=ZR (by omega);have c4:(acc.length+1)*16<=140737488355328:=(by omega);have c5:=C.size;have HB:=Xh C;have HO:=Xh A;generalize hx:s.extract i (i+(n+1))=X at U;go_wp2_with (first|(go_fit Z.out;rintro e t⟨rfl,rfl⟩)|(at_builtin;refine wpList_append_own _ rfl _ _ 27 rfl w.heap.size 9 i0 (.string .empty) 1 16 Tryz.underlying27 hi p q r rfl (by decide) _ _ _ rfl (A.alloc _) ⟨wr.heap.size,0,none⟩ 1 1 [.string X] rfl rfl (cell_one_new _ _ _) (c2 X) c3 c4 (by simpa using Nat.le_succ_of_le c5) ?_;intro v2 w3 T M _))
       have b:=HB.out.alloc c5 (.cells #[.string X] 9);have o:=b.grown M b.size (fun k hk=>(HO.out.lt k hk).1);have R:w3.ownsRow w.heap.size 9 1 v2 (acc++[X]).length ((acc++[X]).map Value.string):=(by simpa using T);go_roundw;case rel=>exact⟨i+(n+1),acc++[X],U,by simp;omega,by omega,R,o,by simp⟩
       case measure=>simp[intOf];omega
    ·obtain rfl:i=s.size:=(by omega);have U:Hid (m=none):=by
      have hl:(s.extract s.size s.size).data.toList=[]:=(by rw[QW];simp);unfold Hid;rw[<-B.out,Qcf (by rw[hl];rfl) (by rw[hl];rfl)];simp[qv,Zw]
     clear B A;go_wp2_with fail;all_goals first|(exfalso;omega)|skip
     go_ret3;exact zao U.out C
  ·have d:=Qbt (h:=Y) G (n:=40) rfl;have F:Hid (qi s=none):=ZbU (fun _=>G);clear G;go_enter Tryz.func17,Tryz.ntmps17;go_wp2_with fail;go_ret3;exact zao F.out Xb
 ·have F:Hid (qi s=none):=ZbU (fun h=>absurd h Y);have z:((s.size:Int)==0)=true:=by rw[beq_iff_eq];omega
  clear Y;go_enter Tryz.func17,Tryz.ntmps17;go_wp2_with fail;go_ret3;exact zao F.out Xb
set_option maxRecDepth 512
end Go.Proofs.YtmclocdhcblbiaaGreatDoor
