/- Lemmas; conditions: as each states. -/
import Derived.Test.YtlmfmioljeppfaaGreatDoorFlow
set_option maxHeartbeats 4000000
namespace Go.Proofs.YtlmfmioljeppfaaGreatDoor
open Go.RowKit
theorem ZaQ(c:UInt8)(w:World):Calls Tryz.prog 79 #[.int .u8 (c.toNat:Int)] w fun e w'=>e=.returned (.bool (qW c))/\w=w':=by
 go_enter Tryz.func79,Tryz.ntmps79;go_wp2
 all_goals
  go_ret;exact⟨zx (by rw[Bool.eq_iff_iff,ZcX];simp;omega),rfl⟩
theorem Zbn(c:UInt8)(w:World):Calls Tryz.prog 80 #[.int .u8 (c.toNat:Int)] w fun e w'=>e=.returned (.bool (zap c))/\w=w':=by
 go_enter Tryz.func80,Tryz.ntmps80;go_wp2
 all_goals
  go_ret;exact⟨zx (by rw[Bool.eq_iff_iff,QcD];simp;omega),rfl⟩
theorem ZaF(s:ByteArray)(w:World)(hs:s.size<=maxLen):Calls Tryz.prog 45 #[.string s] w fun e w'=>e=.returned (.bool (qt s.data.toList))/\w=w':=by
 unfold maxLen at hs;by_cases G:s.size=0
 ·have B:qt s.data.toList=false:=by rw[zaw];simp[G]
  have I:((s.size:Int)==0)=true:=by simp[G]
  rw[B];clear B G;go_enter Tryz.func45,Tryz.ntmps45;go_wp2_with fail;go_ret;exact⟨rfl,rfl⟩
 ·have I:((s.size:Int)==0)=false:=by simp[G]
  by_cases J:20<s.size
  ·have B:qt s.data.toList=false:=(by rw[zaw];simp;omega);rw[B];clear B;go_enter Tryz.func45,Tryz.ntmps45;go_wp2_with fail;go_ret;exact⟨rfl,rfl⟩
  ·have C:0<s.size:=(by omega);clear G;cases F:qW s[0] with
   |true =>
    have B:qt s.data.toList=false:=by
     rw[zaw];rw[Qbm C];simp[F]
    rw[B];clear B;go_enter Tryz.func45,Tryz.ntmps45;go_wp2_with (go_fit (ZaQ _ _);rintro e w'⟨rfl,rfl⟩)
    go_ret;exact⟨rfl,rfl⟩
   |false =>
    have B:Hid (qt s.data.toList=s.data.toList.all zaq):=by
     unfold Hid;rw[zaw,Qbm C];simp[C,F];omega
    go_enter Tryz.func45,Tryz.ntmps45;go_wp2_with (go_fit (ZaQ _ _);rintro e w'⟨rfl,rfl⟩)
    clear F;go_loop [3] (fun i=>∃k:Nat,k<=s.size/\Hid ((s.data.toList.take k).all zaq=true)/\i=.int .i64 k) (fun i=>s.size-(intOf i).toNat)
    case atStart=>exact⟨0,Nat.zero_le _,rfl,rfl⟩
    case round =>
     obtain⟨k,M,D,rfl⟩:=hrel;by_cases E:k<s.size
     ·cases H:zap s[k] with
      |true =>
       have A:Hid ((s.data.toList.take (k+1)).all zaq=true):=zbf E D.out (by simp[zaq,H]);go_wp2_with (first|(go_fit (Zbn _ _);rintro e w'⟨rfl,rfl⟩)|(go_fit (ZaQ _ _);rintro e w'⟨rfl,rfl⟩))
       go_round
       case rel=>exact⟨k+1,by omega,A,by go_num⟩
       case measure=>simp[intOf];omega
      |false =>
       cases F:qW s[k] with
       |true =>
        have A:Hid ((s.data.toList.take (k+1)).all zaq=true):=zbf E D.out (by simp[zaq,F]);go_wp2_with (first|(go_fit (Zbn _ _);rintro e w'⟨rfl,rfl⟩)|(go_fit (ZaQ _ _);rintro e w'⟨rfl,rfl⟩))
        go_round
        case rel=>exact⟨k+1,by omega,A,by go_num⟩
        case measure=>simp[intOf];omega
       |false =>
        have L:Hid (s.data.toList.all zaq=false):=QdJ E (by simp[zaq,H,F]);go_wp2_with (first|(go_fit (Zbn _ _);rintro e w'⟨rfl,rfl⟩)|(go_fit (ZaQ _ _);rintro e w'⟨rfl,rfl⟩))
        go_ret;exact⟨zx (by rw[B.out,L.out]),rfl⟩
     ·go_wp2_with fail;go_ret;exact⟨zx (by rw[B.out,<-D.out,List.take_of_length_le (by simp;omega)]),rfl⟩
theorem Zcd(s:ByteArray)(a:Nat)(w:World)(hs:s.size<=maxLen)(y:a<=s.size):
 Calls Tryz.prog 46 #[.string s,.int .i64 a] w fun e w'=>e=.returned (.int .i64 (zad s a))/\w=w':=by
 obtain⟨f1,f2,o,p⟩:=QbG s a y;generalize t:a+Qu (s.data.toList.drop a)=i at *;have C:=Xh (Qdh s a i t.symm);have P:=hs;unfold maxLen at hs;have b:=Xh o;have V:=Xh p;have d:=Xh P;clear o p t P;go_enter Tryz.func46,Tryz.ntmps46;go_wp2_with fail;go_loop [5] (fun x=>∃k:Nat,a<=k/\k<=i/\x=.int .i64 k) (fun x=>i-(intOf x).toNat)
 case atStart=>exact⟨a,by omega,by omega,rfl⟩
 case round =>
  obtain⟨k,R,Y,rfl⟩:=hrel;by_cases E:k<i
  ·have F:k<s.size:=(by omega);have T:(((s[k]).toNat:Int)==91)=true:=qa9 (c:=91) (b.out k F R E) rfl;go_wp2_with fail;go_round
   case rel=>exact⟨k+1,by omega,by omega,by go_num⟩
   case measure=>simp[intOf];omega
  ·have X:k=i:=(by omega);subst X;clear R Y E b;by_cases F:k<s.size
   ·have T:(((s[k]).toNat:Int)==91)=false:=Zap (c:=91) (V.out F) rfl;clear V;by_cases z:3<k-a
    ·go_wp2_with fail;go_ret;exact⟨Zav (by rw[C.out,if_neg (by omega)]),rfl⟩
    ·have I:=Xh (zdr s k F);by_cases G:s[k]=73
     ·have A:Hid (zad s a=(k:Int)+1):=by
       unfold Hid;rw[C.out,I,if_pos (Or.inl G),if_pos (by omega)];rfl
      have f:=qa9 G (n:=73) rfl;clear G I C;go_wp2_with fail;go_ret;exact⟨Zav (by rw[A.out]),rfl⟩
     ·have f:=Zap G (n:=73) rfl;by_cases J:s[k]=74
      ·have A:Hid (zad s a=(k:Int)+1):=by
        unfold Hid;rw[C.out,I,if_pos (Or.inr J),if_pos (by omega)];rfl
       have g:=qa9 J (n:=74) rfl;clear G J I C;go_wp2_with fail;go_ret;exact⟨Zav (by rw[A.out]),rfl⟩
      ·have g:=Zap J (n:=74) rfl;by_cases N:s[k]=76
       ·have h:=Qbv N (n:=76) rfl;have D:Hid (ZT (s.data.toList.drop k)=if k+1+zw (s.data.toList.drop (k+1))<s.size/\qt ((s.extract (k+1) (k+1+zw (s.data.toList.drop (k+1)))).data.toList)=true then zw (s.data.toList.drop (k+1))+2 else 0):=by
         unfold Hid;rw[I.out,if_neg (by simp[G,J]),if_pos N]
        obtain⟨g1,g2,q,r⟩:=zdK s (k+1) (by omega);generalize hm:zw (s.data.toList.drop (k+1))=m at *;generalize v:k+1+m=e at *;have l:=Xh q;have U:=Xh r;have HE:=Xh v;clear I G J N q r hm v;go_wp2_with fail;go_loop [6] (fun x=>∃j:Nat,k+1<=j/\j<=e/\x=.int .i64 j) (fun x=>e-(intOf x).toNat)
        case atStart=>exact⟨k+1,by omega,by omega,by go_num⟩
        case round =>
         obtain⟨j,S,Z,rfl⟩:=hrel;clear T f g h;by_cases E:j<e
         ·have H:j<s.size:=(by omega);have T:=zba (l.out j H S E) (n:=59) rfl;go_wp2_with fail;go_round
          case rel=>exact⟨j+1,by omega,by omega,by go_num⟩
          case measure=>simp[intOf];omega
         ·have L:j=e:=(by omega);subst L;clear S Z E l;by_cases H:j<s.size
          ·have T:=Qbv (U.out H) (n:=59) rfl;have hne:((j:Int)==(s.size:Int))=false:=(by simp;omega);cases O:qt ((s.extract (k+1) j).data.toList) with
           |true =>
            have A:Hid (zad s a=(j:Int)+1):=by
             have B:=D.out;rw[if_pos ⟨H,O⟩]at B;unfold Hid;rw[C.out,B,if_pos (by omega)];have:=HE.out;omega
            have M:=Xh O;clear D C U O;go_wp2_with (go_at_call 45;refine(ZaF _ _ ?hsz).mono ?_;(case hsz=>exact zav d.out);rintro e w'⟨rfl,rfl⟩;rw[M.out])
            go_ret;exact⟨Zav (by rw[A.out]),rfl⟩
           |false =>
            have A:Hid (zad s a=0):=by
             have B:=D.out;rw[if_neg (by rw[O];simp)]at B;unfold Hid;rw[C.out,B,if_neg (by omega)]
            have M:=Xh O;clear D C U O;go_wp2_with (go_at_call 45;refine(ZaF _ _ ?hsz).mono ?_;(case hsz=>exact zav d.out);rintro e w'⟨rfl,rfl⟩;rw[M.out])
            go_ret;exact⟨Zav (by rw[A.out]),rfl⟩
          ·have A:Hid (zad s a=0):=by
            have B:=D.out;rw[if_neg (by omega)]at B;unfold Hid;rw[C.out,B,if_neg (by omega)]
           have L:j=s.size:=(by omega);have heq:((j:Int)==(s.size:Int))=true:=(by simp;omega);clear D C U L;go_wp2_with fail;go_ret;exact⟨Zav (by rw[A.out]),rfl⟩
       ·have h:=zba N (n:=76) rfl;have A:Hid (zad s a=0):=by
         have B:=I.out;rw[if_neg (by simp[G,J]),if_neg N]at B;unfold Hid;rw[C.out,B,if_neg (by omega)]
        clear G J N I C;go_wp2_with fail;go_ret;exact⟨Zav (by rw[A.out]),rfl⟩
   ·clear V;by_cases z:3<k-a
    ·go_wp2_with fail;go_ret;exact⟨Zav (by rw[C.out,if_neg (by omega)]),rfl⟩
    ·go_wp2_with fail;go_ret;exact⟨Zav (by rw[C.out,qcR s k (by omega),if_neg (by omega)]),rfl⟩
end Go.Proofs.YtlmfmioljeppfaaGreatDoor
namespace Go.Proofs.YtlmfmioljeppfaaGreatDoor
open Go.RowKit Go.Shelf Go.Lib
theorem qcX(s:ByteArray):zad s 0=(ZA s.data.toList:Int):=by
 unfold zad;rw[List.drop_zero];split
 ·rename_i h;rw[h];rfl
 ·simp
theorem QL(s:ByteArray)(w:World)(hs:s.size<=maxLen):Calls Tryz.prog 15 #[.string s] w fun e w'=>e=.returned (.bool (Zs s.data.toList))/\w=w':=by
 have A:Calls Tryz.prog 46 #[.string s,.int .i64 0] w fun e w'=>e=.returned (.int .i64 (zad s 0))/\w=w':=Zcd s 0 w hs (Nat.zero_le _)
 rw[qcX]at A;have B:=ZbF s;by_cases D:s.size=0
 ·have C:Zs s.data.toList=false:=by rw[Bool.eq_false_iff];intro h;rw[B]at h;omega
  have E:((s.size:Int)==0)=true:=by simp[D]
  rw[C];clear B C A;go_enter Tryz.func15,Tryz.ntmps15;go_wp2
  all_goals first|(exfalso;omega)|skip
  go_ret;exact⟨rfl,rfl⟩
 ·have C:Hid (Zs s.data.toList=decide (ZA s.data.toList=s.size)):=by
   unfold Hid;rw[Bool.eq_iff_iff,B];simp;omega
  have F:0<s.size:=by omega
  have H:=Xh A;clear B D A;generalize ZA s.data.toList=n at *;go_enter Tryz.func15,Tryz.ntmps15;go_wp2_with (go_fit H.out;rintro e w'⟨rfl,rfl⟩)
  all_goals first|(exfalso;omega)|skip
  go_ret;exact⟨zx (by rw[C.out,Bool.eq_iff_iff];simp;omega),rfl⟩
theorem Zbf(s:ByteArray)(w:World):Calls Tryz.prog 76 #[.string s] w fun e w'=>e=.returned (.bool (zah s.data.toList))/\w=w':=by
 rw[<-ByteArray.toList_eq];go_enter Tryz.func76,Tryz.ntmps76;go_wp2
 all_goals
  go_ret;simp[zah, *]
theorem Qbt(s:ByteArray)(w:World)(hs:s.size<=maxLen):Calls Tryz.prog 78 #[.string s] w fun e w'=>e=.returned (.bool (zdg s.data.toList))/\w=w':=by
 have A:=Xh (QL s w hs);have B:=Xh (Zbf s w);unfold zdg;generalize Zs s.data.toList=a at *;generalize zah s.data.toList=b at *;cases a<;>cases b
 all_goals
  go_enter Tryz.func78,Tryz.ntmps78;go_wp2_with (first|(go_fit A.out;rintro e w'⟨rfl,rfl⟩)|(go_fit B.out;rintro e w'⟨rfl,rfl⟩))
  go_ret;exact⟨rfl,rfl⟩
theorem QcX(s:ByteArray)(w:World)(hs:s.size<=maxLen):Calls Tryz.prog 77 #[.string s] w fun e w'=>e=.returned (.int .i64 (Qu s.data.toList))/\w=w':=by
 obtain⟨I,L,D,E⟩:=QbG s 0 (Nat.zero_le _);rw[List.drop_zero,Nat.zero_add]at *;generalize Qu s.data.toList=i at *;unfold maxLen at hs;have F:=Xh D;have G:=Xh E;clear I D E;go_enter Tryz.func77,Tryz.ntmps77;go_wp2_with fail;go_loop [3] (fun x=>∃k:Nat,k<=i/\x=.int .i64 k) (fun x=>i-(intOf x).toNat)
 case atStart=>exact⟨0,by omega,rfl⟩
 case round =>
  obtain⟨k,J,rfl⟩:=hrel;by_cases B:k<i
  ·have A:k<s.size:=(by omega);have H:(((s[k]).toNat:Int)==91)=true:=qa9 (c:=91) (F.out k A (Nat.zero_le _) B) rfl;go_wp2_with fail;go_round
   case rel=>exact⟨k+1,by omega,by go_num⟩
   case measure=>simp[intOf];omega
  ·have C:k=i:=(by omega);subst C;by_cases A:k<s.size
   ·have H:(((s[k]).toNat:Int)==91)=false:=Zap (c:=91) (G.out A) rfl;go_wp2_with fail;go_ret;exact⟨rfl,rfl⟩
   ·go_wp2_with fail;go_ret;exact⟨rfl,rfl⟩
theorem qci(n:Int)(w:World):Calls Tryz.prog 42 #[.int .i64 n] w fun e w'=>e=.returned (.bool (decide (-2147483648<=n)&&decide (n<=2147483647)))/\w=w':=by
 go_enter Tryz.func42,Tryz.ntmps42;go_wp2
 all_goals
  go_ret;exact⟨zx (by rw[Bool.eq_iff_iff];simp;omega),rfl⟩
theorem qao(A:Int)(w:World):Calls Tryz.prog 43 #[.int .i64 A] w fun e w'=>e=.returned (.bool (zu A))/\w=w':=by
 go_enter Tryz.func43,Tryz.ntmps43;go_wp2
 all_goals
  go_ret;exact⟨zx (by simp[zu, *]),rfl⟩
theorem zbO(A:Int)(w:World):Calls Tryz.prog 65 #[.int .i64 A] w fun e w'=>e=.returned (.bool (Zad A))/\w=w':=by
 go_enter Tryz.func65,Tryz.ntmps65;go_wp2
 all_goals
  go_ret;exact⟨zx (by simp[Zad, *]),rfl⟩
theorem zcj(l:List UInt8)(c:UInt8):Lib.hasPrefix l [c]=(match l with|[]=>false|d::_=>d==c):=by
 unfold Lib.hasPrefix;cases l with
 |nil=>rfl
 |cons d r =>
  show(c==d&&List.isPrefixOf [] r)=(d==c)
  rw[Bool.eq_iff_iff];simp[List.isPrefixOf];exact eq_comm
theorem zW(s:ByteArray)(i:Nat):(s.extract i s.size).data.toList=s.data.toList.drop i:=by
 rw[Lib.extract_data];exact List.take_of_length_le (by simp)
theorem Zds(s:ByteArray)(i:Nat):(⟨(s.data.toList.drop i).toArray⟩:ByteArray)=s.extract i s.size:=by
 apply ByteArray.ext;apply Array.toList_inj.1;rw[zW]
theorem Zba{s:ByteArray}{i:Nat}(h:i<s.size)(c:UInt8):Lib.hasPrefix (s.extract i s.size).data.toList [c]=(s[i]==c):=by
 rw[zW,zcj,List.drop_eq_getElem_cons (by simpa using h)];rfl
theorem zcE{s:ByteArray}(h:0<s.size)(B:s[0]=40):Zm s=QC (zA (s.extract 1 s.size) true []):=by
 have A:Lib.hasPrefix s.data.toList [40]=true:=by
  have:=Zba h 40;rw[zW,List.drop_zero]at this;rw[this,B];rfl
 unfold Zm;rw[A];unfold Lib.trimPrefix;rw[A,if_pos rfl];show QC (zA ⟨(List.drop 1 s.data.toList).toArray⟩ true [])=_
 rw[Zds]
theorem zbw{s:ByteArray}(h:∀h:0<s.size,s[0]≠40):Zm s=none:=by
 have B:Lib.hasPrefix s.data.toList [40]=false:=by
  by_cases A:0<s.size
  ·have:=Zba A 40;rw[zW,List.drop_zero]at this;rw[this];simpa using h A
  ·have:s.data.toList=[]:=(by apply List.length_eq_zero_iff.1;rw[QB];omega);rw[this];rfl
 unfold Zm;rw[B];simp[zA,QC]
theorem ZcE{s:ByteArray}{i:Nat}(h:i<s.size)(A:s[i]=41):Z5 (s.extract i s.size)=s.extract (i+1) s.size:=by
 unfold Z5 Lib.trimPrefix;rw[Zba h,A,if_pos (by decide),zW,List.drop_drop];show(⟨(List.drop (i+1) s.data.toList).toArray⟩:ByteArray)=_
 rw[Zds]
theorem ZdK(s:ByteArray)(i n:Nat)(_hi:i<=s.size):(s.extract i s.size).extract n (s.extract i s.size).size=s.extract (i+n) s.size:=by
 apply ByteArray.ext;apply Array.toList_inj.1;rw[zW,zW,zW,List.drop_drop]
theorem zdi(s:ByteArray)(i n:Nat):(s.extract i s.size).extract 0 n=s.extract i (i+n):=by
 apply ByteArray.ext;apply Array.toList_inj.1;rw[Lib.extract_data,zW,Lib.extract_data];simp
def qav(w:World)(m:Option (List ByteArray×ByteArray))(e:Ending)(w':World):Prop :=
 Below w.heap.size w w'/\match m with
  |none=>e=.returned (.tuple #[.slice none 0 0,.string .empty,.bool false])
  |some (args,g)=>∃v,e=.returned (.tuple #[v,.string g,.bool true])/\Qh w' v args
theorem Zag{w w':World}{m:Option (List ByteArray×ByteArray)}(A:m=none)(B:Below w.heap.size w w'):
 qav w m (.returned (.tuple #[.slice none 0 0,.string .empty,.bool false])) w':=by subst A;exact⟨B,rfl⟩
theorem qbf{w w':World}{m:Option (List ByteArray×ByteArray)}{args:List ByteArray}{g:ByteArray}{v:Value}(A:m=some (args,g))(B:Below w.heap.size w w')(C:Qh w' v args):
 qav w m (.returned (.tuple #[v,.string g,.bool true])) w':=by subst A;exact⟨B,v,rfl,C⟩
set_option maxRecDepth 100000
theorem QaJ(s:ByteArray)(w:World)(hs:s.size<=1048576):Calls Tryz.prog 27 #[.string s] w (qav w (Zm s)):=by
 have y:s.size<=maxLen:=qF (Xf hs (by decide));obtain⟨i0,hi,p,q,r⟩:=info_parts qO;by_cases Y:0<s.size
 ·have z:((s.size:Int)==0)=false:=by rw[beq_eq_false_iff_ne];omega
  by_cases G:s[0]=40
  ·have d:=Qbv (h:=Y) G (n:=40) rfl;have HM:Hid (QC (zA (s.extract 1 s.size) true [])=Zm s):=(zcE Y G).symm;have HS:=Xh y;generalize Zm s=m at *;clear G y;go_enter Tryz.func27,Tryz.ntmps27;go_wp2_with fail;go_loopw [5,6] (fun v x wr=>∃(i:Nat) (acc:List ByteArray),Hid (QC (zA (s.extract i s.size) true acc)=m)/\acc.length+1<=i/\i<=s.size/\wr.ownsRow w.heap.size 9 1 v acc.length (acc.map Value.string)/\Below w.heap.size w wr/\x=.int .i64 i) (fun _ x _=>s.size-(intOf x).toNat)
   case atStart=>exact⟨1,[],HM,by simp,by omega,World.ownsRow_nil _ _ _ _,Xb,rfl⟩
   case round =>
    clear HM d z;obtain⟨i,acc,B,hla,c,A,C,rfl⟩:=hrel;obtain⟨va,vc,rfl⟩:=qe A;by_cases J:i<s.size
    ·have E:=Zba J 41;by_cases D:s[i]=41
     ·have d:=Qbv (h:=J) D (n:=41) rfl;have N:Hid (QC (s.extract i s.size,acc,true)=m):=by
       unfold Hid;rw[<-qbV (acc:=acc) (by rw[E,D];rfl)];exact B.out
      have O:=ZcE J D;have H:(s.extract (i+1) s.size).size<=maxLen:=zav HS.out;clear D E B;generalize hge:s.extract (i+1) s.size=g at *;by_cases f:acc.length<=5
      ·cases hV:(g.toList==[86]) with
       |true =>
        have I:Hid (m=some (acc,g)):=(by unfold Hid;rw[<-N.out];exact Q9 f O (by simp[zY,hV]));have j:=Xh (Ze A);clear A N O H;go_wp2_with fail;all_goals first|(exfalso;omega)|skip
        go_ret3;exact qbf I.out C j.out
       |false =>
        cases V:Zs g.data.toList with
        |true =>
         have I:Hid (m=some (acc,g)):=(by unfold Hid;rw[<-N.out];exact Q9 f O (by simp[zY,V]));have P:=QL g;rw[V]at P;have l:Hid (∀wx,_):=fun wx=>P wx H
         have j:=Xh (Ze A);clear A N O H V P;go_wp2_with (go_fit (l.out _);rintro e t⟨rfl,rfl⟩)
         all_goals first|(exfalso;omega)|skip
         go_ret3;exact qbf I.out C j.out
        |false =>
         have F:Hid (m=none):=(by unfold Hid;rw[<-N.out];exact QaH O (by simp[zY,V,hV]));have P:=QL g;rw[V]at P;have l:Hid (∀wx,_):=fun wx=>P wx H
         clear A N O H V P;go_wp2_with (go_fit (l.out _);rintro e t⟨rfl,rfl⟩)
         all_goals first|(exfalso;omega)|skip
         go_ret3;exact Zag F.out C
      ·have F:Hid (m=none):=(by unfold Hid;rw[<-N.out];exact zaI f);clear N O H A;go_wp2_with fail;all_goals first|(exfalso;omega)|skip
       go_ret3;exact Zag F.out C
     ·have d:=zba (h:=J) D (n:=41) rfl;rw[show(s[i]==41)=false by simpa using D]at E;have Z:=Xh (Zcd s i wr HS.out c);have L:zad s i=if ZA (s.extract i s.size).data.toList=0 then 0 else (i:Int)+ZA (s.extract i s.size).data.toList:=by
       unfold zad;rw[zW]
      cases S:ZA (s.extract i s.size).data.toList with
      |zero =>
       have U:Hid (m=none):=by
        unfold Hid;rw[<-B.out,ZbS E S];simp[zA,QC]
       rw[L,S]at Z;simp only[if_true]at Z;clear B A S L E D;go_wp2_with (go_fit Z.out;rintro e t⟨rfl,rfl⟩)
       go_ret3;exact Zag U.out C
      |succ n =>
       have a:=qaq (s.extract i s.size).data.toList;rw[zW,List.length_drop,QB,<-zW,S]at a;have U:Hid (QC (zA (s.extract (i+(n+1)) s.size) true (acc++[s.extract i (i+(n+1))]))=m):=by
        unfold Hid;rw[<-B.out,zbW E S,ZdK _ _ _ c,zdi]
       rw[L,S,if_neg (by omega)]at Z;have hne:(((i:Int)+((n+1:Nat):Int))==0)=false:=(by rw[beq_eq_false_iff_ne];omega);clear B S L E D;have c2:∀x:Str,∀u∈[Value.string x],u.oneCell'=true:=fun x u hu=>by simp at hu;subst hu;rfl
       have c3:acc.length+1<=maxLen:=qF (by omega);have c4:(acc.length+1)*16<=140737488355328:=(by omega);have c5:=C.size;have HB:=Xh C;have HO:=Xh A;generalize hx:s.extract i (i+(n+1))=X at U;go_wp2_with (first|(go_fit Z.out;rintro e t⟨rfl,rfl⟩)|(at_builtin;refine wpList_append_own _ rfl _ _ 25 rfl w.heap.size 9 i0 (.string .empty) 1 16 Tryz.underlying25 hi p q r rfl (by decide) _ _ _ rfl (A.alloc _) ⟨wr.heap.size,0,none⟩ 1 1 [.string X] rfl rfl (cell_one_new _ _ _) (c2 X) c3 c4 (by simpa using Nat.le_succ_of_le c5) ?_;intro v2 w3 T M _))
       have b:=HB.out.alloc c5 (.cells #[.string X] 9);have o:=b.grown M b.size (fun k hk=>(HO.out.lt k hk).1);have R:w3.ownsRow w.heap.size 9 1 v2 (acc++[X]).length ((acc++[X]).map Value.string):=(by simpa using T);go_roundw;case rel=>exact⟨i+(n+1),acc++[X],U,by simp;omega,by omega,R,o,by simp⟩
       case measure=>simp[intOf];omega
    ·obtain rfl:i=s.size:=(by omega);have U:Hid (m=none):=by
      have hl:(s.extract s.size s.size).data.toList=[]:=(by rw[zW];simp);unfold Hid;rw[<-B.out,ZbS (by rw[hl];rfl) (by rw[hl];rfl)];simp[zA,QC]
     clear B A;go_wp2_with fail;all_goals first|(exfalso;omega)|skip
     go_ret3;exact Zag U.out C
  ·have d:=zba (h:=Y) G (n:=40) rfl;have F:Hid (Zm s=none):=zbw (fun _=>G);clear G;go_enter Tryz.func27,Tryz.ntmps27;go_wp2_with fail;go_ret3;exact Zag F.out Xb
 ·have F:Hid (Zm s=none):=zbw (fun h=>absurd h Y);have z:((s.size:Int)==0)=true:=by rw[beq_iff_eq];omega
  clear Y;go_enter Tryz.func27,Tryz.ntmps27;go_wp2_with fail;go_ret3;exact Zag F.out Xb
set_option maxRecDepth 512
theorem Zd7{n:Nat}(A:1<=n)(B:n<=28){P:Nat->Prop}(h:∀k:Fin 28,P (k.val+1)):P n:=by
 have:=h ⟨n-1,by omega⟩;rwa [show n-1+1=n by omega]at this
def Qcc(op:Int):Value:=.agg #[.bool (zb1 op),.bool (Zb1 op),.bool (ZbJ op),.bool (Zbc op),.bool (qbc op)]
theorem qcC(A:Nat)(w:World)(B:1<=A)(C:A<=28):Calls Tryz.prog 41 #[.int .i64 A] w fun e w'=>e=.returned (Qcc A)/\Below w.heap.size w w':=by
 refine Zd7 (P:=fun A=>Calls Tryz.prog 41 #[.int .i64 ((A:Nat):Int)] w fun e w'=>e=.returned (Qcc (A:Nat))/\Below w.heap.size w w') B C fun k=>?_
 have D:Hid (∀A wx,_):=fun A wx=>qao A wx
 match k with
 |⟨0,_⟩|⟨1,_⟩|⟨2,_⟩|⟨3,_⟩|⟨4,_⟩|⟨5,_⟩|⟨6,_⟩|⟨7,_⟩|⟨8,_⟩|⟨9,_⟩|⟨10,_⟩|⟨11,_⟩|⟨12,_⟩|⟨13,_⟩|⟨14,_⟩|⟨15,_⟩|⟨16,_⟩|⟨17,_⟩|⟨18,_⟩|⟨19,_⟩|⟨20,_⟩|⟨21,_⟩|⟨22,_⟩|⟨23,_⟩|⟨24,_⟩|⟨25,_⟩|⟨26,_⟩|⟨27,_⟩ =>
  dsimp only;go_enter Tryz.func41,Tryz.ntmps41;go_wp2_with (go_fit (D.out _ _);rintro e w'⟨rfl,rfl⟩)
  exact bodyPost_ret (v:=Qcc _) (by simp[results,Tryz.results41,go_sem];rfl) rfl ⟨rfl,Xb.alloc Xl _⟩
 |⟨_+28,h⟩=>exact absurd h (by omega)
theorem Zdi(t:ByteArray)(h:Zs t.data.toList=true):Zs (91::t.data.toList)=decide (Qu t.data.toList<3):=by
 have D:=(ZbF t).1 h;obtain⟨H,A⟩:=D;have E:Qu (91::t.data.toList)=Qu t.data.toList+1:=by rw[Qu,if_pos rfl]
 have F:(91::t.data.toList).drop (Qu t.data.toList+1)=t.data.toList.drop (Qu t.data.toList):=rfl;have G:=QB t;unfold ZA at A;unfold Zs ZA;rw[E,F];by_cases B:Qu t.data.toList<=3/\0<ZT (t.data.toList.drop (Qu t.data.toList))
 ·rw[if_pos B]at A;by_cases C:Qu t.data.toList<3
  ·rw[if_pos (by omega),Xj C];simp;omega
  ·rw[if_neg (by omega),Xi C];simp
 ·rw[if_neg B]at A;omega
theorem ZaH{s:ByteArray}(hs:s.size<=1048576)(h:Zm s=none)(w:World):Calls Tryz.prog 27 #[.string s] w fun e w'=>e=.returned (.tuple #[.slice none 0 0,.string .empty,.bool false])/\Below w.heap.size w w':=by
 have:=QaJ s w hs;rw[h]at this;exact this.mono fun e w' ⟨A,B⟩=>⟨B,A⟩
def qbu(w:World)(args:List ByteArray)(g:ByteArray)(e:Ending)(w':World):Prop:=∃a c,e=.returned (.tuple #[.slice a args.length c,.string g,.bool true])/\Qh w' (.slice a args.length c) args/\Below w.heap.size w w'
theorem Z7{s:ByteArray}{args:List ByteArray}{g:ByteArray}(hs:s.size<=1048576)(h:Zm s=some (args,g))(w:World):Calls Tryz.prog 27 #[.string s] w (qbu w args g):=by
 have:=QaJ s w hs;rw[h]at this;refine this.mono fun e w' ⟨B,v,C,A⟩=>?_
 obtain⟨a,c,rfl⟩:=Zbq A;exact⟨a,c,C,A,B⟩
theorem qdi(x:Ins)(w:World)(h:x.op=2\/x.op=9\/x.op=10):Calls Tryz.prog 44 #[ZW x] w fun e w'=>e=.returned (.bool (qy x))/\Below w.heap.size w w':=by
 obtain⟨E,a,b,A,cls,C⟩:=x;have B:Hid (qy ⟨E,a,b,A,cls,C⟩=zah A.data.toList):=by unfold Hid qy;rw[if_pos h]
 have D:=Xh (Zbf A);unfold ZW;rcases h with rfl|rfl|rfl;all_goals
  go_enter Tryz.func44,Tryz.ntmps44;go_wp2_with (go_fit (D.out _);rintro e w'⟨rfl,rfl⟩)
  go_ret;exact⟨zx (by rw[B.out]),by first|exact Xb|exact Xb.alloc Xl _⟩
theorem Qdi(x:Ins)(w:World)(hs:x.type.size<=1048576)(h:x.op=22\/x.op=23):Calls Tryz.prog 44 #[ZW x] w fun e w'=>e=.returned (.bool (qy x))/\Below w.heap.size w w':=by
 obtain⟨D,a,b,A,cls,C⟩:=x;have E:A.size<=maxLen:=qF (Xf hs (by decide));replace h:D=22\/D=23:=h;have B:Hid (qy ⟨D,a,b,A,cls,C⟩=zdg A.data.toList):=by
  unfold Hid qy zdg;rw[if_neg (by simp;omega),if_neg (by simp;omega),if_pos h]
 have F:Hid (∀w,_):=fun w=>Qbt A w E
 unfold ZW;clear hs E;rcases h with rfl|rfl;all_goals
  go_enter Tryz.func44,Tryz.ntmps44;go_wp2_with (go_fit (F.out _);rintro e w'⟨rfl,rfl⟩)
  go_ret;exact⟨zx (by rw[B.out]),by first|exact Xb|exact Xb.alloc Xl _⟩
theorem zcY(x:Ins)(w:World)(hs:x.type.size<=1048576)(h:x.op=24\/x.op=25):Calls Tryz.prog 44 #[ZW x] w fun e w'=>e=.returned (.bool (qy x))/\Below w.heap.size w w':=by
 obtain⟨H,a,b,A,cls,D⟩:=x;replace h:H=24\/H=25:=h;replace hs:A.size<=1048576:=hs;have B:Hid (qy ⟨H,a,b,A,cls,D⟩=(Zm A).isSome):=by
  unfold Hid qy;rw[if_neg (by simp;omega),if_neg (by simp;omega),if_neg (by simp;omega),if_pos h]
 unfold ZW;cases C:Zm A with
 |none =>
  have F:=Xh (ZaH hs C);have G:=Xh C;clear C hs;rcases h with rfl|rfl;all_goals
   go_enter Tryz.func44,Tryz.ntmps44;go_wp2_with (go_fit (F.out _);rintro e I⟨rfl,E⟩)
   go_ret;exact⟨zx (by rw[B.out,G.out];rfl),by first|exact E|exact zar (Xb.alloc Xl _) E⟩
 |some m =>
  obtain⟨args,g⟩:=m;have F:=Xh (Z7 hs C);have G:=Xh C;clear C hs;rcases h with rfl|rfl;all_goals
   go_enter Tryz.func44,Tryz.ntmps44;go_wp2_with (go_fit (F.out _);rintro e I⟨J,L,rfl,M,E⟩)
   go_ret;exact⟨zx (by rw[B.out,G.out];rfl),by first|exact E|exact zar (Xb.alloc Xl _) E⟩
theorem ZcY(x:Ins)(w:World)(h:¬(x.op=2\/x.op=9\/x.op=10))(B:¬(x.op=18\/x.op=20\/x.op=21))(C:¬(x.op=22\/x.op=23))(D:¬(x.op=24\/x.op=25)):Calls Tryz.prog 44 #[ZW x] w fun e w'=>e=.returned (.bool (qy x))/\Below w.heap.size w w':=by
 obtain⟨A,a,b,F,cls,G⟩:=x;have E:Hid (qy ⟨A,a,b,F,cls,G⟩=true):=by
  unfold Hid qy;rw[if_neg h,if_neg B,if_neg C,if_neg D]
 simp only[not_or]at h B C D;have R:(A==2)=false:=by simp[h.1]
 have S:(A==9)=false:=by simp[h.2.1]
 have H:(A==10)=false:=by simp[h.2.2]
 have I:(A==18)=false:=by simp[B.1]
 have J:(A==20)=false:=by simp[B.2.1]
 have L:(A==21)=false:=by simp[B.2.2]
 have M:(A==22)=false:=by simp[C.1]
 have N:(A==23)=false:=by simp[C.2]
 have O:(A==24)=false:=by simp[D.1]
 have P:(A==25)=false:=by simp[D.2]
 unfold ZW;clear h B C D;go_enter Tryz.func44,Tryz.ntmps44;go_wp2_with fail;go_ret;exact⟨zx (by rw[E.out]),by first|exact Xb|exact Xb.alloc Xl _⟩
theorem zdj(x:Ins)(w:World)(hs:x.type.size<=1048576)(h:x.op=18\/x.op=20\/x.op=21):Calls Tryz.prog 44 #[ZW x] w fun e w'=>e=.returned (.bool (qy x))/\Below w.heap.size w w':=by
 obtain⟨H,a,b,A,cls,G⟩:=x;have F:A.size<=maxLen:=qF (Xf hs (by decide));replace h:H=18\/H=20\/H=21:=h;replace hs:A.size<=1048576:=hs;have B:Hid (qy ⟨H,a,b,A,cls,G⟩=(Zs A.data.toList&&Zs (91::A.data.toList))):=by
  unfold Hid qy;rw[if_neg (by simp;omega),if_pos h]
 have E:=QL A;have L:Hid (∀w,_):=fun w=>QcX A w F
 have D:=Zdi A;unfold ZW;cases C:Zs A.data.toList with
 |false =>
  rw[C]at E B;have I:Hid (∀w,_):=fun w=>E w F
  clear E C F hs D;rcases h with rfl|rfl|rfl;all_goals
   go_enter Tryz.func44,Tryz.ntmps44;go_wp2_with (go_fit (I.out _);rintro e J⟨rfl,rfl⟩)
   go_ret;exact⟨zx (by rw[B.out];rfl),by first|exact Xb|exact Xb.alloc Xl _⟩
 |true =>
  rw[C,D C]at B;rw[C]at E;have I:Hid (∀w,_):=fun w=>E w F
  clear E C F hs D;generalize Qu A.data.toList=d at *;rcases h with rfl|rfl|rfl;all_goals
   go_enter Tryz.func44,Tryz.ntmps44;go_wp2_with (first|(go_fit (I.out _);rintro e J⟨rfl,rfl⟩)|(go_fit (L.out _);rintro e J⟨rfl,rfl⟩))
   go_ret;exact⟨zx (by rw[B.out,Bool.eq_iff_iff];simp;try omega),by first|exact Xb|exact Xb.alloc Xl _⟩
theorem Qdf(x:Ins)(w:World)(hs:x.type.size<=1048576):Calls Tryz.prog 44 #[ZW x] w fun e w'=>e=.returned (.bool (qy x))/\Below w.heap.size w w':=by
 by_cases A:x.op=2\/x.op=9\/x.op=10
 ·exact qdi x w A
 by_cases B:x.op=18\/x.op=20\/x.op=21
 ·exact zdj x w hs B
 by_cases C:x.op=22\/x.op=23
 ·exact Qdi x w hs C
 by_cases D:x.op=24\/x.op=25
 ·exact zcY x w hs D
 exact ZcY x w A B C D
end Go.Proofs.YtlmfmioljeppfaaGreatDoor
