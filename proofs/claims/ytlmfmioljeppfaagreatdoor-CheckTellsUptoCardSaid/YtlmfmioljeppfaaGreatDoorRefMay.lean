/- Lemmas; conditions: as each states. -/
import Derived.Test.YtlmfmioljeppfaaGreatDoorFlow
set_option maxHeartbeats 4000000
namespace Go.Proofs.YtlmfmioljeppfaaGreatDoor
open Go.RowKit
theorem ZaP(c:UInt8)(w:World):Calls Tryz.prog 79 #[.int .u8 (c.toNat:Int)] w fun e w'=>e=.returned (.bool (QV c))/\w=w':=by
 go_enter Tryz.func79,Tryz.ntmps79;go_wp2
 all_goals
  go_ret;exact⟨zx (by rw[Bool.eq_iff_iff,ZcU];simp;omega),rfl⟩
theorem qbn(c:UInt8)(w:World):Calls Tryz.prog 80 #[.int .u8 (c.toNat:Int)] w fun e w'=>e=.returned (.bool (qap c))/\w=w':=by
 go_enter Tryz.func80,Tryz.ntmps80;go_wp2
 all_goals
  go_ret;exact⟨zx (by rw[Bool.eq_iff_iff,qcB];simp;omega),rfl⟩
theorem qaF(s:ByteArray)(w:World)(hs:s.size<=maxLen):Calls Tryz.prog 45 #[.string s] w fun e w'=>e=.returned (.bool (Qt s.data.toList))/\w=w':=by
 unfold maxLen at hs;by_cases h0:s.size=0
 ·have hn:Qt s.data.toList=false:=by rw[Zax];simp[h0]
  have hz:((s.size:Int)==0)=true:=by simp[h0]
  rw[hn];clear hn h0;go_enter Tryz.func45,Tryz.ntmps45;go_wp2_with fail;go_ret;exact⟨rfl,rfl⟩
 ·have hz:((s.size:Int)==0)=false:=by simp[h0]
  by_cases h20:20<s.size
  ·have hn:Qt s.data.toList=false:=(by rw[Zax];simp;omega);rw[hn];clear hn;go_enter Tryz.func45,Tryz.ntmps45;go_wp2_with fail;go_ret;exact⟨rfl,rfl⟩
  ·have hpos:0<s.size:=(by omega);clear h0;cases hd:QV s[0] with
   |true =>
    have hn:Qt s.data.toList=false:=by
     rw[Zax];rw[zbn hpos];simp[hd]
    rw[hn];clear hn;go_enter Tryz.func45,Tryz.ntmps45;go_wp2_with (go_fit (ZaP _ _);rintro e w'⟨rfl,rfl⟩)
    go_ret;exact⟨rfl,rfl⟩
   |false =>
    have hn:Hid (Qt s.data.toList=s.data.toList.all Zaq):=by
     unfold Hid;rw[Zax,zbn hpos];simp[hpos,hd];omega
    go_enter Tryz.func45,Tryz.ntmps45;go_wp2_with (go_fit (ZaP _ _);rintro e w'⟨rfl,rfl⟩)
    clear hd;go_loop [3] (fun i=>∃k:Nat,k<=s.size/\Hid ((s.data.toList.take k).all Zaq=true)/\i=.int .i64 k) (fun i=>s.size-(intOf i).toNat)
    case atStart=>exact⟨0,Nat.zero_le _,rfl,rfl⟩
    case round =>
     obtain⟨k,hk,hall,rfl⟩:=hrel;by_cases hlt:k<s.size
     ·cases hl:qap s[k] with
      |true =>
       have hnext:Hid ((s.data.toList.take (k+1)).all Zaq=true):=Zbe hlt hall.out (by simp[Zaq,hl]);go_wp2_with (first|(go_fit (qbn _ _);rintro e w'⟨rfl,rfl⟩)|(go_fit (ZaP _ _);rintro e w'⟨rfl,rfl⟩))
       go_round
       case rel=>exact⟨k+1,by omega,hnext,by go_num⟩
       case measure=>simp[intOf];omega
      |false =>
       cases hd:QV s[k] with
       |true =>
        have hnext:Hid ((s.data.toList.take (k+1)).all Zaq=true):=Zbe hlt hall.out (by simp[Zaq,hd]);go_wp2_with (first|(go_fit (qbn _ _);rintro e w'⟨rfl,rfl⟩)|(go_fit (ZaP _ _);rintro e w'⟨rfl,rfl⟩))
        go_round
        case rel=>exact⟨k+1,by omega,hnext,by go_num⟩
        case measure=>simp[intOf];omega
       |false =>
        have hf:Hid (s.data.toList.all Zaq=false):=qdE hlt (by simp[Zaq,hl,hd]);go_wp2_with (first|(go_fit (qbn _ _);rintro e w'⟨rfl,rfl⟩)|(go_fit (ZaP _ _);rintro e w'⟨rfl,rfl⟩))
        go_ret;exact⟨zx (by rw[hn.out,hf.out]),rfl⟩
     ·go_wp2_with fail;go_ret;exact⟨zx (by rw[hn.out,<-hall.out,List.take_of_length_le (by simp;omega)]),rfl⟩
theorem qcb(s:ByteArray)(a:Nat)(w:World)(hs:s.size<=maxLen)(ha:a<=s.size):
 Calls Tryz.prog 46 #[.string s,.int .i64 a] w fun e w'=>e=.returned (.int .i64 (Zac s a))/\w=w':=by
 obtain⟨f1,f2,f3,f4⟩:=ZbI s a ha;generalize hi:a+qu (s.data.toList.drop a)=i at *;have HN:=Xh (Zdd s a i hi.symm);have hs':=hs;unfold maxLen at hs;have F3:=Xh f3;have F4:=Xh f4;have HS:=Xh hs';clear f3 f4 hi hs';go_enter Tryz.func46,Tryz.ntmps46;go_wp2_with fail;go_loop [5] (fun x=>∃k:Nat,a<=k/\k<=i/\x=.int .i64 k) (fun x=>i-(intOf x).toNat)
 case atStart=>exact⟨a,by omega,by omega,rfl⟩
 case round =>
  obtain⟨k,hk1,hk2,rfl⟩:=hrel;by_cases hlt:k<i
  ·have hks:k<s.size:=(by omega);have hc:(((s[k]).toNat:Int)==91)=true:=qa8 (c:=91) (F3.out k hks hk1 hlt) rfl;go_wp2_with fail;go_round
   case rel=>exact⟨k+1,by omega,by omega,by go_num⟩
   case measure=>simp[intOf];omega
  ·have hki:k=i:=(by omega);subst hki;clear hk1 hk2 hlt F3;by_cases hks:k<s.size
   ·have hc:(((s[k]).toNat:Int)==91)=false:=Qap (c:=91) (F4.out hks) rfl;clear F4;by_cases hd:3<k-a
    ·go_wp2_with fail;go_ret;exact⟨zaw (by rw[HN.out,if_neg (by omega)]),rfl⟩
    ·have HC:=Xh (Zdm s k hks);by_cases hI:s[k]=73
     ·have hfin:Hid (Zac s a=(k:Int)+1):=by
       unfold Hid;rw[HN.out,HC,if_pos (Or.inl hI),if_pos (by omega)];rfl
      have h1:=qa8 hI (n:=73) rfl;clear hI HC HN;go_wp2_with fail;go_ret;exact⟨zaw (by rw[hfin.out]),rfl⟩
     ·have h1:=Qap hI (n:=73) rfl;by_cases hJ:s[k]=74
      ·have hfin:Hid (Zac s a=(k:Int)+1):=by
        unfold Hid;rw[HN.out,HC,if_pos (Or.inr hJ),if_pos (by omega)];rfl
       have h2:=qa8 hJ (n:=74) rfl;clear hI hJ HC HN;go_wp2_with fail;go_ret;exact⟨zaw (by rw[hfin.out]),rfl⟩
      ·have h2:=Qap hJ (n:=74) rfl;by_cases hL:s[k]=76
       ·have h3:=qbx hL (n:=76) rfl;have HC2:Hid (qR (s.data.toList.drop k)=if k+1+Qv (s.data.toList.drop (k+1))<s.size/\Qt ((s.extract (k+1) (k+1+Qv (s.data.toList.drop (k+1)))).data.toList)=true then Qv (s.data.toList.drop (k+1))+2 else 0):=by
         unfold Hid;rw[HC.out,if_neg (by simp[hI,hJ]),if_pos hL]
        obtain⟨g1,g2,g3,g4⟩:=QdE s (k+1) (by omega);generalize hm:Qv (s.data.toList.drop (k+1))=m at *;generalize he:k+1+m=e at *;have G3:=Xh g3;have G4:=Xh g4;have HE:=Xh he;clear HC hI hJ hL g3 g4 hm he;go_wp2_with fail;go_loop [6] (fun x=>∃j:Nat,k+1<=j/\j<=e/\x=.int .i64 j) (fun x=>e-(intOf x).toNat)
        case atStart=>exact⟨k+1,by omega,by omega,by go_num⟩
        case round =>
         obtain⟨j,hj1,hj2,rfl⟩:=hrel;clear hc h1 h2 h3;by_cases hlt:j<e
         ·have hjs:j<s.size:=(by omega);have hc:=za9 (G3.out j hjs hj1 hlt) (n:=59) rfl;go_wp2_with fail;go_round
          case rel=>exact⟨j+1,by omega,by omega,by go_num⟩
          case measure=>simp[intOf];omega
         ·have hje:j=e:=(by omega);subst hje;clear hj1 hj2 hlt G3;by_cases hjs:j<s.size
          ·have hc:=qbx (G4.out hjs) (n:=59) rfl;have hne:((j:Int)==(s.size:Int))=false:=(by simp;omega);cases hn:Qt ((s.extract (k+1) j).data.toList) with
           |true =>
            have hfin:Hid (Zac s a=(j:Int)+1):=by
             have hcl:=HC2.out;rw[if_pos ⟨hjs,hn⟩]at hcl;unfold Hid;rw[HN.out,hcl,if_pos (by omega)];have:=HE.out;omega
            have HNm:=Xh hn;clear HC2 HN G4 hn;go_wp2_with (go_at_call 45;refine(qaF _ _ ?hsz).mono ?_;(case hsz=>exact Qav HS.out);rintro e w'⟨rfl,rfl⟩;rw[HNm.out])
            go_ret;exact⟨zaw (by rw[hfin.out]),rfl⟩
           |false =>
            have hfin:Hid (Zac s a=0):=by
             have hcl:=HC2.out;rw[if_neg (by rw[hn];simp)]at hcl;unfold Hid;rw[HN.out,hcl,if_neg (by omega)]
            have HNm:=Xh hn;clear HC2 HN G4 hn;go_wp2_with (go_at_call 45;refine(qaF _ _ ?hsz).mono ?_;(case hsz=>exact Qav HS.out);rintro e w'⟨rfl,rfl⟩;rw[HNm.out])
            go_ret;exact⟨zaw (by rw[hfin.out]),rfl⟩
          ·have hfin:Hid (Zac s a=0):=by
            have hcl:=HC2.out;rw[if_neg (by omega)]at hcl;unfold Hid;rw[HN.out,hcl,if_neg (by omega)]
           have hje:j=s.size:=(by omega);have heq:((j:Int)==(s.size:Int))=true:=(by simp;omega);clear HC2 HN G4 hje;go_wp2_with fail;go_ret;exact⟨zaw (by rw[hfin.out]),rfl⟩
       ·have h3:=za9 hL (n:=76) rfl;have hfin:Hid (Zac s a=0):=by
         have hcl:=HC.out;rw[if_neg (by simp[hI,hJ]),if_neg hL]at hcl;unfold Hid;rw[HN.out,hcl,if_neg (by omega)]
        clear hI hJ hL HC HN;go_wp2_with fail;go_ret;exact⟨zaw (by rw[hfin.out]),rfl⟩
   ·clear F4;by_cases hd:3<k-a
    ·go_wp2_with fail;go_ret;exact⟨zaw (by rw[HN.out,if_neg (by omega)]),rfl⟩
    ·go_wp2_with fail;go_ret;exact⟨zaw (by rw[HN.out,zcQ s k (by omega),if_neg (by omega)]),rfl⟩
end Go.Proofs.YtlmfmioljeppfaaGreatDoor
namespace Go.Proofs.YtlmfmioljeppfaaGreatDoor
open Go.RowKit Go.Shelf Go.Lib
theorem qcU(s:ByteArray):Zac s 0=(ZA s.data.toList:Int):=by
 unfold Zac;rw[List.drop_zero];split
 ·rename_i h;rw[h];rfl
 ·simp
theorem QL(s:ByteArray)(w:World)(hs:s.size<=maxLen):Calls Tryz.prog 15 #[.string s] w fun e w'=>e=.returned (.bool (Qs s.data.toList))/\w=w':=by
 have HT:Calls Tryz.prog 46 #[.string s,.int .i64 0] w fun e w'=>e=.returned (.int .i64 (Zac s 0))/\w=w':=qcb s 0 w hs (Nat.zero_le _)
 rw[qcU]at HT;have hb:=zbH s;by_cases h0:s.size=0
 ·have hf:Qs s.data.toList=false:=by rw[Bool.eq_false_iff];intro h;rw[hb]at h;omega
  have hz:((s.size:Int)==0)=true:=by simp[h0]
  rw[hf];clear hb hf HT;go_enter Tryz.func15,Tryz.ntmps15;go_wp2
  all_goals first|(exfalso;omega)|skip
  go_ret;exact⟨rfl,rfl⟩
 ·have hf:Hid (Qs s.data.toList=decide (ZA s.data.toList=s.size)):=by
   unfold Hid;rw[Bool.eq_iff_iff,hb];simp;omega
  have hp:0<s.size:=by omega
  have H:=Xh HT;clear hb h0 HT;generalize ZA s.data.toList=n at *;go_enter Tryz.func15,Tryz.ntmps15;go_wp2_with (go_fit H.out;rintro e w'⟨rfl,rfl⟩)
  all_goals first|(exfalso;omega)|skip
  go_ret;exact⟨zx (by rw[hf.out,Bool.eq_iff_iff];simp;omega),rfl⟩
theorem qbe(s:ByteArray)(w:World):Calls Tryz.prog 76 #[.string s] w fun e w'=>e=.returned (.bool (Qag s.data.toList))/\w=w':=by
 rw[<-ByteArray.toList_eq];go_enter Tryz.func76,Tryz.ntmps76;go_wp2
 all_goals
  go_ret;simp[Qag, *]
theorem qbv(s:ByteArray)(w:World)(hs:s.size<=maxLen):Calls Tryz.prog 78 #[.string s] w fun e w'=>e=.returned (.bool (qdb s.data.toList))/\w=w':=by
 have HT:=Xh (QL s w hs);have HW:=Xh (qbe s w);unfold qdb;generalize Qs s.data.toList=a at *;generalize Qag s.data.toList=b at *;cases a<;>cases b
 all_goals
  go_enter Tryz.func78,Tryz.ntmps78;go_wp2_with (first|(go_fit HT.out;rintro e w'⟨rfl,rfl⟩)|(go_fit HW.out;rintro e w'⟨rfl,rfl⟩))
  go_ret;exact⟨rfl,rfl⟩
theorem QcU(s:ByteArray)(w:World)(hs:s.size<=maxLen):Calls Tryz.prog 77 #[.string s] w fun e w'=>e=.returned (.int .i64 (qu s.data.toList))/\w=w':=by
 obtain⟨f1,f2,f3,f4⟩:=ZbI s 0 (Nat.zero_le _);rw[List.drop_zero,Nat.zero_add]at *;generalize qu s.data.toList=i at *;unfold maxLen at hs;have F3:=Xh f3;have F4:=Xh f4;clear f1 f3 f4;go_enter Tryz.func77,Tryz.ntmps77;go_wp2_with fail;go_loop [3] (fun x=>∃k:Nat,k<=i/\x=.int .i64 k) (fun x=>i-(intOf x).toNat)
 case atStart=>exact⟨0,by omega,rfl⟩
 case round =>
  obtain⟨k,hk2,rfl⟩:=hrel;by_cases hlt:k<i
  ·have hks:k<s.size:=(by omega);have hc:(((s[k]).toNat:Int)==91)=true:=qa8 (c:=91) (F3.out k hks (Nat.zero_le _) hlt) rfl;go_wp2_with fail;go_round
   case rel=>exact⟨k+1,by omega,by go_num⟩
   case measure=>simp[intOf];omega
  ·have hki:k=i:=(by omega);subst hki;by_cases hks:k<s.size
   ·have hc:(((s[k]).toNat:Int)==91)=false:=Qap (c:=91) (F4.out hks) rfl;go_wp2_with fail;go_ret;exact⟨rfl,rfl⟩
   ·go_wp2_with fail;go_ret;exact⟨rfl,rfl⟩
theorem Qcg(n:Int)(w:World):Calls Tryz.prog 42 #[.int .i64 n] w fun e w'=>e=.returned (.bool (decide (-2147483648<=n)&&decide (n<=2147483647)))/\w=w':=by
 go_enter Tryz.func42,Tryz.ntmps42;go_wp2
 all_goals
  go_ret;exact⟨zx (by rw[Bool.eq_iff_iff];simp;omega),rfl⟩
theorem qaA(op:Int)(w:World):Calls Tryz.prog 43 #[.int .i64 op] w fun e w'=>e=.returned (.bool (qC op))/\w=w':=by
 go_enter Tryz.func43,Tryz.ntmps43;go_wp2
 all_goals
  go_ret;exact⟨zx (by simp[qC, *]),rfl⟩
theorem QbO(op:Int)(w:World):Calls Tryz.prog 65 #[.int .i64 op] w fun e w'=>e=.returned (.bool (zan op))/\w=w':=by
 go_enter Tryz.func65,Tryz.ntmps65;go_wp2
 all_goals
  go_ret;exact⟨zx (by simp[zan, *]),rfl⟩
theorem Zch(l:List UInt8)(c:UInt8):Lib.hasPrefix l [c]=(match l with|[]=>false|d::_=>d==c):=by
 unfold Lib.hasPrefix;cases l with
 |nil=>rfl
 |cons d r =>
  show(c==d&&List.isPrefixOf [] r)=(d==c)
  rw[Bool.eq_iff_iff];simp[List.isPrefixOf];exact eq_comm
theorem QU(s:ByteArray)(i:Nat):(s.extract i s.size).data.toList=s.data.toList.drop i:=by
 rw[Lib.extract_data];exact List.take_of_length_le (by simp)
theorem qdn(s:ByteArray)(i:Nat):(⟨(s.data.toList.drop i).toArray⟩:ByteArray)=s.extract i s.size:=by
 apply ByteArray.ext;apply Array.toList_inj.1;rw[QU]
theorem Za9{s:ByteArray}{i:Nat}(h:i<s.size)(c:UInt8):Lib.hasPrefix (s.extract i s.size).data.toList [c]=(s[i]==c):=by
 rw[QU,Zch,List.drop_eq_getElem_cons (by simpa using h)];rfl
theorem QcB{s:ByteArray}(h:0<s.size)(h0:s[0]=40):zm s=QC (zA (s.extract 1 s.size) true []):=by
 have hp:Lib.hasPrefix s.data.toList [40]=true:=by
  have:=Za9 h 40;rw[QU,List.drop_zero]at this;rw[this,h0];rfl
 unfold zm;rw[hp];unfold Lib.trimPrefix;rw[hp,if_pos rfl];show QC (zA ⟨(List.drop 1 s.data.toList).toArray⟩ true [])=_
 rw[qdn]
theorem Qbx{s:ByteArray}(h:∀h:0<s.size,s[0]≠40):zm s=none:=by
 have hp:Lib.hasPrefix s.data.toList [40]=false:=by
  by_cases h0:0<s.size
  ·have:=Za9 h0 40;rw[QU,List.drop_zero]at this;rw[this];simpa using h h0
  ·have:s.data.toList=[]:=(by apply List.length_eq_zero_iff.1;rw[QB];omega);rw[this];rfl
 unfold zm;rw[hp];simp[zA,QC]
theorem zcC{s:ByteArray}{i:Nat}(h:i<s.size)(hc:s[i]=41):Q6 (s.extract i s.size)=s.extract (i+1) s.size:=by
 unfold Q6 Lib.trimPrefix;rw[Za9 h,hc,if_pos (by decide),QU,List.drop_drop];show(⟨(List.drop (i+1) s.data.toList).toArray⟩:ByteArray)=_
 rw[qdn]
theorem zdF(s:ByteArray)(i n:Nat)(_hi:i<=s.size):(s.extract i s.size).extract n (s.extract i s.size).size=s.extract (i+n) s.size:=by
 apply ByteArray.ext;apply Array.toList_inj.1;rw[QU,QU,QU,List.drop_drop]
theorem qdd(s:ByteArray)(i n:Nat):(s.extract i s.size).extract 0 n=s.extract i (i+n):=by
 apply ByteArray.ext;apply Array.toList_inj.1;rw[Lib.extract_data,QU,Lib.extract_data];simp
def Zaw(w:World)(m:Option (List ByteArray×ByteArray))(e:Ending)(w':World):Prop :=
 Below w.heap.size w w'/\match m with
  |none=>e=.returned (.tuple #[.slice none 0 0,.string .empty,.bool false])
  |some (args,g)=>∃v,e=.returned (.tuple #[v,.string g,.bool true])/\Qh w' v args
theorem zag{w w':World}{m:Option (List ByteArray×ByteArray)}(hm:m=none)(hb:Below w.heap.size w w'):
 Zaw w m (.returned (.tuple #[.slice none 0 0,.string .empty,.bool false])) w':=by subst hm;exact⟨hb,rfl⟩
theorem Qbe{w w':World}{m:Option (List ByteArray×ByteArray)}{args:List ByteArray}{g:ByteArray}{v:Value}(hm:m=some (args,g))(hb:Below w.heap.size w w')(hv:Qh w' v args):
 Zaw w m (.returned (.tuple #[v,.string g,.bool true])) w':=by subst hm;exact⟨hb,v,rfl,hv⟩
set_option maxRecDepth 100000
theorem QaJ(s:ByteArray)(w:World)(hs:s.size<=1048576):Calls Tryz.prog 27 #[.string s] w (Zaw w (zm s)):=by
 have hm:s.size<=maxLen:=zF (Xf hs (by decide));obtain⟨i0,hi,hz0,hz1,hz2⟩:=info_parts qO;by_cases hp:0<s.size
 ·have hz:((s.size:Int)==0)=false:=by rw[beq_eq_false_iff_ne];omega
  by_cases h40:s[0]=40
  ·have hc:=qbx (h:=hp) h40 (n:=40) rfl;have HM:Hid (QC (zA (s.extract 1 s.size) true [])=zm s):=(QcB hp h40).symm;have HS:=Xh hm;generalize zm s=m at *;clear h40 hm;go_enter Tryz.func27,Tryz.ntmps27;go_wp2_with fail;go_loopw [5,6] (fun v x wr=>∃(i:Nat) (acc:List ByteArray),Hid (QC (zA (s.extract i s.size) true acc)=m)/\acc.length+1<=i/\i<=s.size/\wr.ownsRow w.heap.size 9 1 v acc.length (acc.map Value.string)/\Below w.heap.size w wr/\x=.int .i64 i) (fun _ x _=>s.size-(intOf x).toNat)
   case atStart=>exact⟨1,[],HM,by simp,by omega,World.ownsRow_nil _ _ _ _,Xb,rfl⟩
   case round =>
    clear HM hc hz;obtain⟨i,acc,hfin,hla,hle,hown,hbel,rfl⟩:=hrel;obtain⟨va,vc,rfl⟩:=qe hown;by_cases hlt:i<s.size
    ·have hph:=Za9 hlt 41;by_cases h41:s[i]=41
     ·have hc:=qbx (h:=hlt) h41 (n:=41) rfl;have HF:Hid (QC (s.extract i s.size,acc,true)=m):=by
       unfold Hid;rw[<-ZbV (acc:=acc) (by rw[hph,h41];rfl)];exact hfin.out
      have hg:=zcC hlt h41;have hgs:(s.extract (i+1) s.size).size<=maxLen:=Qav HS.out;clear h41 hph hfin;generalize hge:s.extract (i+1) s.size=g at *;by_cases h5:acc.length<=5
      ·cases hV:(g.toList==[86]) with
       |true =>
        have hyes:Hid (m=some (acc,g)):=(by unfold Hid;rw[<-HF.out];exact zaa h5 hg (by simp[qX,hV]));have hv:=Xh (Ze hown);clear hown HF hg hgs;go_wp2_with fail;all_goals first|(exfalso;omega)|skip
        go_ret3;exact Qbe hyes.out hbel hv.out
       |false =>
        cases hT:Qs g.data.toList with
        |true =>
         have hyes:Hid (m=some (acc,g)):=(by unfold Hid;rw[<-HF.out];exact zaa h5 hg (by simp[qX,hT]));have hC:=QL g;rw[hT]at hC;have HC:Hid (∀wx,_):=fun wx=>hC wx hgs
         have hv:=Xh (Ze hown);clear hown HF hg hgs hT hC;go_wp2_with (go_fit (HC.out _);rintro e w2⟨rfl,rfl⟩)
         all_goals first|(exfalso;omega)|skip
         go_ret3;exact Qbe hyes.out hbel hv.out
        |false =>
         have hno:Hid (m=none):=(by unfold Hid;rw[<-HF.out];exact zaI hg (by simp[qX,hT,hV]));have hC:=QL g;rw[hT]at hC;have HC:Hid (∀wx,_):=fun wx=>hC wx hgs
         clear hown HF hg hgs hT hC;go_wp2_with (go_fit (HC.out _);rintro e w2⟨rfl,rfl⟩)
         all_goals first|(exfalso;omega)|skip
         go_ret3;exact zag hno.out hbel
      ·have hno:Hid (m=none):=(by unfold Hid;rw[<-HF.out];exact ZaI h5);clear HF hg hgs hown;go_wp2_with fail;all_goals first|(exfalso;omega)|skip
       go_ret3;exact zag hno.out hbel
     ·have hc:=za9 (h:=hlt) h41 (n:=41) rfl;rw[show(s[i]==41)=false by simpa using h41]at hph;have HT:=Xh (qcb s i wr HS.out hle);have htn:Zac s i=if ZA (s.extract i s.size).data.toList=0 then 0 else (i:Int)+ZA (s.extract i s.size).data.toList:=by
       unfold Zac;rw[QU]
      cases ht:ZA (s.extract i s.size).data.toList with
      |zero =>
       have HN:Hid (m=none):=by
        unfold Hid;rw[<-hfin.out,qbS hph ht];simp[zA,QC]
       rw[htn,ht]at HT;simp only[if_true]at HT;clear hfin hown ht htn hph h41;go_wp2_with (go_fit HT.out;rintro e w2⟨rfl,rfl⟩)
       go_ret3;exact zag HN.out hbel
      |succ n =>
       have hle2:=zar (s.extract i s.size).data.toList;rw[QU,List.length_drop,QB,<-QU,ht]at hle2;have HN:Hid (QC (zA (s.extract (i+(n+1)) s.size) true (acc++[s.extract i (i+(n+1))]))=m):=by
        unfold Hid;rw[<-hfin.out,QbV hph ht,zdF _ _ _ hle,qdd]
       rw[htn,ht,if_neg (by omega)]at HT;have hne:(((i:Int)+((n+1:Nat):Int))==0)=false:=(by rw[beq_eq_false_iff_ne];omega);clear hfin ht htn hph h41;have c2:∀x:Str,∀u∈[Value.string x],u.oneCell'=true:=fun x u hu=>by simp at hu;subst hu;rfl
       have c3:acc.length+1<=maxLen:=zF (by omega);have c4:(acc.length+1)*16<=140737488355328:=(by omega);have c5:=hbel.size;have HB:=Xh hbel;have HO:=Xh hown;generalize hx:s.extract i (i+(n+1))=x1 at HN;go_wp2_with (first|(go_fit HT.out;rintro e w2⟨rfl,rfl⟩)|(at_builtin;refine wpList_append_own _ rfl _ _ 25 rfl w.heap.size 9 i0 (.string .empty) 1 16 Tryz.underlying25 hi hz0 hz1 hz2 rfl (by decide) _ _ _ rfl (hown.alloc _) ⟨wr.heap.size,0,none⟩ 1 1 [.string x1] rfl rfl (cell_one_new _ _ _) (c2 x1) c3 c4 (by simpa using Nat.le_succ_of_le c5) ?_;intro v2 w3 hown3 hgrow3 _))
       have hb2:=HB.out.alloc c5 (.cells #[.string x1] 9);have hb3:=hb2.grown hgrow3 hb2.size (fun k hk=>(HO.out.lt k hk).1);have hown4:w3.ownsRow w.heap.size 9 1 v2 (acc++[x1]).length ((acc++[x1]).map Value.string):=(by simpa using hown3);go_roundw;case rel=>exact⟨i+(n+1),acc++[x1],HN,by simp;omega,by omega,hown4,hb3,by simp⟩
       case measure=>simp[intOf];omega
    ·obtain rfl:i=s.size:=(by omega);have HN:Hid (m=none):=by
      have hl:(s.extract s.size s.size).data.toList=[]:=(by rw[QU];simp);unfold Hid;rw[<-hfin.out,qbS (by rw[hl];rfl) (by rw[hl];rfl)];simp[zA,QC]
     clear hfin hown;go_wp2_with fail;all_goals first|(exfalso;omega)|skip
     go_ret3;exact zag HN.out hbel
  ·have hc:=za9 (h:=hp) h40 (n:=40) rfl;have hno:Hid (zm s=none):=Qbx (fun _=>h40);clear h40;go_enter Tryz.func27,Tryz.ntmps27;go_wp2_with fail;go_ret3;exact zag hno.out Xb
 ·have hno:Hid (zm s=none):=Qbx (fun h=>absurd h hp);have hz:((s.size:Int)==0)=true:=by rw[beq_iff_eq];omega
  clear hp;go_enter Tryz.func27,Tryz.ntmps27;go_wp2_with fail;go_ret3;exact zag hno.out Xb
set_option maxRecDepth 512
theorem qd1{n:Nat}(h1:1<=n)(h2:n<=28){P:Nat->Prop}(h:∀k:Fin 28,P (k.val+1)):P n:=by
 have:=h ⟨n-1,by omega⟩;rwa [show n-1+1=n by omega]at this
def zcb(op:Int):Value:=.agg #[.bool (Zb1 op),.bool (qb1 op),.bool (qbK op),.bool (qbb op),.bool (Qbb op)]
theorem ZcA(op:Nat)(w:World)(h1:1<=op)(h2:op<=28):Calls Tryz.prog 41 #[.int .i64 op] w fun e w'=>e=.returned (zcb op)/\Below w.heap.size w w':=by
 refine qd1 (P:=fun op=>Calls Tryz.prog 41 #[.int .i64 ((op:Nat):Int)] w fun e w'=>e=.returned (zcb (op:Nat))/\Below w.heap.size w w') h1 h2 fun k=>?_
 have HJ:Hid (∀op wx,_):=fun op wx=>qaA op wx
 match k with
 |⟨0,_⟩|⟨1,_⟩|⟨2,_⟩|⟨3,_⟩|⟨4,_⟩|⟨5,_⟩|⟨6,_⟩|⟨7,_⟩|⟨8,_⟩|⟨9,_⟩|⟨10,_⟩|⟨11,_⟩|⟨12,_⟩|⟨13,_⟩|⟨14,_⟩|⟨15,_⟩|⟨16,_⟩|⟨17,_⟩|⟨18,_⟩|⟨19,_⟩|⟨20,_⟩|⟨21,_⟩|⟨22,_⟩|⟨23,_⟩|⟨24,_⟩|⟨25,_⟩|⟨26,_⟩|⟨27,_⟩ =>
  dsimp only;go_enter Tryz.func41,Tryz.ntmps41;go_wp2_with (go_fit (HJ.out _ _);rintro e w'⟨rfl,rfl⟩)
  exact bodyPost_ret (v:=zcb _) (by simp[results,Tryz.results41,go_sem];rfl) rfl ⟨rfl,Xb.alloc Xl _⟩
 |⟨_+28,h⟩=>exact absurd h (by omega)
theorem Qdd(t:ByteArray)(h:Qs t.data.toList=true):Qs (91::t.data.toList)=decide (qu t.data.toList<3):=by
 have hb:=(zbH t).1 h;obtain⟨h1,h2⟩:=hb;have hd:qu (91::t.data.toList)=qu t.data.toList+1:=by rw[qu,if_pos rfl]
 have hr:(91::t.data.toList).drop (qu t.data.toList+1)=t.data.toList.drop (qu t.data.toList):=rfl;have hl:=QB t;unfold ZA at h2;unfold Qs ZA;rw[hd,hr];by_cases hc:qu t.data.toList<=3/\0<qR (t.data.toList.drop (qu t.data.toList))
 ·rw[if_pos hc]at h2;by_cases h3:qu t.data.toList<3
  ·rw[if_pos (by omega),Xj h3];simp;omega
  ·rw[if_neg (by omega),Xi h3];simp
 ·rw[if_neg hc]at h2;omega
theorem qaH{s:ByteArray}(hs:s.size<=1048576)(h:zm s=none)(w:World):Calls Tryz.prog 27 #[.string s] w fun e w'=>e=.returned (.tuple #[.slice none 0 0,.string .empty,.bool false])/\Below w.heap.size w w':=by
 have:=QaJ s w hs;rw[h]at this;exact this.mono fun e w' ⟨h1,h2⟩=>⟨h2,h1⟩
def Zbw(w:World)(args:List ByteArray)(g:ByteArray)(e:Ending)(w':World):Prop:=∃a c,e=.returned (.tuple #[.slice a args.length c,.string g,.bool true])/\Qh w' (.slice a args.length c) args/\Below w.heap.size w w'
theorem q8{s:ByteArray}{args:List ByteArray}{g:ByteArray}(hs:s.size<=1048576)(h:zm s=some (args,g))(w:World):Calls Tryz.prog 27 #[.string s] w (Zbw w args g):=by
 have:=QaJ s w hs;rw[h]at this;refine this.mono fun e w' ⟨h1,v,h2,h3⟩=>?_
 obtain⟨a,c,rfl⟩:=qbr h3;exact⟨a,c,h2,h3,h1⟩
theorem zde(x:Ins)(w:World)(h:x.op=2\/x.op=9\/x.op=10):Calls Tryz.prog 44 #[ZW x] w fun e w'=>e=.returned (.bool (Qx x))/\Below w.heap.size w w':=by
 obtain⟨op,a,b,type,cls,name⟩:=x;have hfin:Hid (Qx ⟨op,a,b,type,cls,name⟩=Qag type.data.toList):=by unfold Hid Qx;rw[if_pos h]
 have HW:=Xh (qbe type);unfold ZW;rcases h with rfl|rfl|rfl;all_goals
  go_enter Tryz.func44,Tryz.ntmps44;go_wp2_with (go_fit (HW.out _);rintro e w'⟨rfl,rfl⟩)
  go_ret;exact⟨zx (by rw[hfin.out]),by first|exact Xb|exact Xb.alloc Xl _⟩
theorem Zde(x:Ins)(w:World)(hs:x.type.size<=1048576)(h:x.op=22\/x.op=23):Calls Tryz.prog 44 #[ZW x] w fun e w'=>e=.returned (.bool (Qx x))/\Below w.heap.size w w':=by
 obtain⟨op,a,b,type,cls,name⟩:=x;have hm:type.size<=maxLen:=zF (Xf hs (by decide));replace h:op=22\/op=23:=h;have hfin:Hid (Qx ⟨op,a,b,type,cls,name⟩=qdb type.data.toList):=by
  unfold Hid Qx qdb;rw[if_neg (by simp;omega),if_neg (by simp;omega),if_pos h]
 have HR:Hid (∀w,_):=fun w=>qbv type w hm
 unfold ZW;clear hs hm;rcases h with rfl|rfl;all_goals
  go_enter Tryz.func44,Tryz.ntmps44;go_wp2_with (go_fit (HR.out _);rintro e w'⟨rfl,rfl⟩)
  go_ret;exact⟨zx (by rw[hfin.out]),by first|exact Xb|exact Xb.alloc Xl _⟩
theorem zcV(x:Ins)(w:World)(hs:x.type.size<=1048576)(h:x.op=24\/x.op=25):Calls Tryz.prog 44 #[ZW x] w fun e w'=>e=.returned (.bool (Qx x))/\Below w.heap.size w w':=by
 obtain⟨op,a,b,type,cls,name⟩:=x;replace h:op=24\/op=25:=h;replace hs:type.size<=1048576:=hs;have hfin:Hid (Qx ⟨op,a,b,type,cls,name⟩=(zm type).isSome):=by
  unfold Hid Qx;rw[if_neg (by simp;omega),if_neg (by simp;omega),if_neg (by simp;omega),if_pos h]
 unfold ZW;cases hm:zm type with
 |none =>
  have hC:=Xh (qaH hs hm);have HT:=Xh hm;clear hm hs;rcases h with rfl|rfl;all_goals
   go_enter Tryz.func44,Tryz.ntmps44;go_wp2_with (go_fit (hC.out _);rintro e w2⟨rfl,hB⟩)
   go_ret;exact⟨zx (by rw[hfin.out,HT.out];rfl),by first|exact hB|exact zas (Xb.alloc Xl _) hB⟩
 |some m =>
  obtain⟨args,g⟩:=m;have hC:=Xh (q8 hs hm);have HT:=Xh hm;clear hm hs;rcases h with rfl|rfl;all_goals
   go_enter Tryz.func44,Tryz.ntmps44;go_wp2_with (go_fit (hC.out _);rintro e w2⟨va,vc,rfl,hV,hB⟩)
   go_ret;exact⟨zx (by rw[hfin.out,HT.out];rfl),by first|exact hB|exact zas (Xb.alloc Xl _) hB⟩
theorem ZcV(x:Ins)(w:World)(h:¬(x.op=2\/x.op=9\/x.op=10))(h2:¬(x.op=18\/x.op=20\/x.op=21))(h3:¬(x.op=22\/x.op=23))(h4:¬(x.op=24\/x.op=25)):Calls Tryz.prog 44 #[ZW x] w fun e w'=>e=.returned (.bool (Qx x))/\Below w.heap.size w w':=by
 obtain⟨op,a,b,type,cls,name⟩:=x;have hfin:Hid (Qx ⟨op,a,b,type,cls,name⟩=true):=by
  unfold Hid Qx;rw[if_neg h,if_neg h2,if_neg h3,if_neg h4]
 simp only[not_or]at h h2 h3 h4;have n2:(op==2)=false:=by simp[h.1]
 have n9:(op==9)=false:=by simp[h.2.1]
 have n10:(op==10)=false:=by simp[h.2.2]
 have n18:(op==18)=false:=by simp[h2.1]
 have n20:(op==20)=false:=by simp[h2.2.1]
 have n21:(op==21)=false:=by simp[h2.2.2]
 have n22:(op==22)=false:=by simp[h3.1]
 have n23:(op==23)=false:=by simp[h3.2]
 have n24:(op==24)=false:=by simp[h4.1]
 have n25:(op==25)=false:=by simp[h4.2]
 unfold ZW;clear h h2 h3 h4;go_enter Tryz.func44,Tryz.ntmps44;go_wp2_with fail;go_ret;exact⟨zx (by rw[hfin.out]),by first|exact Xb|exact Xb.alloc Xl _⟩
theorem qde(x:Ins)(w:World)(hs:x.type.size<=1048576)(h:x.op=18\/x.op=20\/x.op=21):Calls Tryz.prog 44 #[ZW x] w fun e w'=>e=.returned (.bool (Qx x))/\Below w.heap.size w w':=by
 obtain⟨op,a,b,type,cls,name⟩:=x;have hm:type.size<=maxLen:=zF (Xf hs (by decide));replace h:op=18\/op=20\/op=21:=h;replace hs:type.size<=1048576:=hs;have hfin:Hid (Qx ⟨op,a,b,type,cls,name⟩=(Qs type.data.toList&&Qs (91::type.data.toList))):=by
  unfold Hid Qx;rw[if_neg (by simp;omega),if_pos h]
 have hT:=QL type;have HD:Hid (∀w,_):=fun w=>QcU type w hm
 have hdl:=Qdd type;unfold ZW;cases hTT:Qs type.data.toList with
 |false =>
  rw[hTT]at hT hfin;have HT:Hid (∀w,_):=fun w=>hT w hm
  clear hT hTT hm hs hdl;rcases h with rfl|rfl|rfl;all_goals
   go_enter Tryz.func44,Tryz.ntmps44;go_wp2_with (go_fit (HT.out _);rintro e w2⟨rfl,rfl⟩)
   go_ret;exact⟨zx (by rw[hfin.out];rfl),by first|exact Xb|exact Xb.alloc Xl _⟩
 |true =>
  rw[hTT,hdl hTT]at hfin;rw[hTT]at hT;have HT:Hid (∀w,_):=fun w=>hT w hm
  clear hT hTT hm hs hdl;generalize qu type.data.toList=d at *;rcases h with rfl|rfl|rfl;all_goals
   go_enter Tryz.func44,Tryz.ntmps44;go_wp2_with (first|(go_fit (HT.out _);rintro e w2⟨rfl,rfl⟩)|(go_fit (HD.out _);rintro e w2⟨rfl,rfl⟩))
   go_ret;exact⟨zx (by rw[hfin.out,Bool.eq_iff_iff];simp;try omega),by first|exact Xb|exact Xb.alloc Xl _⟩
theorem Zdb(x:Ins)(w:World)(hs:x.type.size<=1048576):Calls Tryz.prog 44 #[ZW x] w fun e w'=>e=.returned (.bool (Qx x))/\Below w.heap.size w w':=by
 by_cases h1:x.op=2\/x.op=9\/x.op=10
 ·exact zde x w h1
 by_cases h2:x.op=18\/x.op=20\/x.op=21
 ·exact qde x w hs h2
 by_cases h3:x.op=22\/x.op=23
 ·exact Zde x w hs h3
 by_cases h4:x.op=24\/x.op=25
 ·exact zcV x w hs h4
 exact ZcV x w h1 h2 h3 h4
end Go.Proofs.YtlmfmioljeppfaaGreatDoor
