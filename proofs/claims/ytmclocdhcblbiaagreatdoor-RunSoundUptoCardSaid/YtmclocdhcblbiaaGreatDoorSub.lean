/- Lemmas; conditions: as each states. -/
import Derived.Test.YtmclocdhcblbiaaGreatDoorLayLaw
set_option maxHeartbeats 4000000
namespace Go.Proofs.YtmclocdhcblbiaaGreatDoor
open Go.RowKit Go.Shelf Go.Lib
set_option maxRecDepth 100000
theorem ZV(k:Str)(x:Ty)(w:World)(h:qd x=lst k)(H:k.size<=maxLen):Calls Tryz.prog 78 #[.string k] w fun e w'=>e=.returned (.string (str (zG x)))/\w=w':=by
 have G:=Xh (zbP k w);have D:lst (k.extract (zq k.data.toList) k.size)=qd (Zay x):=by
  have F:=Lib.extract_to_end k (zq k.data.toList);rw[show k.data.toList=qd x from h.symm,za7,qda]at F;rw[show k.data.toList=qd x from h.symm,za7];unfold lst;rw[<-F]
 have L:(k.extract (zq k.data.toList) k.size).size<=k.size:=by rw[ByteArray.size_extract];omega
 generalize k.extract (zq k.data.toList) k.size=r at *;have C:Hid (∀w,_):=fun w=>ZbH r w
 rw[show r.data.toList=qd (Zay x) from D,za4]at C;clear h;rcases Qcw x with⟨A,B⟩|⟨A,B⟩|⟨c,A,B⟩
 ·rw[A]at C;rw[B];clear D A B;go_enter Tryz.func78,Tryz.ntmps78;go_wp2_with (first
   |(go_fit G.out;rintro e I⟨rfl,rfl⟩)
   |(go_fit (C.out _);rintro e J⟨rfl,rfl⟩))
  go_ret;exact⟨rfl,rfl⟩
 ·rw[A]at C;rw[B];clear D A B;go_enter Tryz.func78,Tryz.ntmps78;go_wp2_with (first
   |(go_fit G.out;rintro e I⟨rfl,rfl⟩)
   |(go_fit (C.out _);rintro e J⟨rfl,rfl⟩))
  go_ret;exact⟨rfl,rfl⟩
 ·rw[A]at C D;rw[B];have M:r.size=c.size+2:=by
   have:=congrArg List.length D;simp[qd,lst]at this;have P:r.size=r.data.size:=rfl;have N:c.size=c.data.size:=rfl;omega
  have hcut:r.extract 1 (c.size+2-1)=str (lst c):=by
   apply ByteArray.ext;apply Array.toList_inj.1;have F:(r.extract 1 (c.size+2-1)).data.toList=((lst r).drop 1).take (c.size+2-1-1):=by
    rw[ByteArray.data_extract,Array.toList_extract,List.extract_eq_take_drop]
   rw[F,D];show(lst c++[59]).take (c.size+2-1-1)=lst c
   have N:(lst c).length=c.size:=rfl;rw[List.take_append_of_le_length (by omega),List.take_of_length_le (by omega)]
  have E:=Xh hcut;have O:c.size+2<=9223372036854775807:=by unfold maxLen at H;omega
  clear A B H hcut;go_enter Tryz.func78,Tryz.ntmps78;go_wp2_with (first
   |(go_fit G.out;rintro e I⟨rfl,rfl⟩)
   |(go_fit (C.out _);rintro e J⟨rfl,rfl⟩))
  go_ret;exact⟨by rw[<-E.out];rfl,rfl⟩
set_option maxRecDepth 512
theorem QeD(x:Kd):(Lib.hasPrefix (zp x) [76]||Lib.hasPrefix (zp x) [91])=zz x:=by
 cases x with
 |n=>rfl
 |t=>rfl
 |ty y=>cases y<;>rfl
theorem qK(k:Str)(x:Kd)(w:World)(h:zp x=lst k):Calls Tryz.prog 51 #[.string k] w fun e w'=>e=.returned (.bool (zz x))/\w=w':=by
 have A:=Xh (qu k ⟨#[76]⟩ w);have B:=Xh (qu k ⟨#[91]⟩ w);rw[show k.data.toList=zp x from h.symm]at A B;have C:Hid ((Lib.hasPrefix (zp x) [76]||Lib.hasPrefix (zp x) [91])=zz x):=QeD x;simp only at A B;generalize Lib.hasPrefix (zp x) [76]=a at *;generalize Lib.hasPrefix (zp x) [91]=b at *;clear h;cases a<;>cases b
 all_goals
  go_enter Tryz.func51,Tryz.ntmps51;go_wp2_with (first
   |(go_fit A.out;rintro e D⟨rfl,rfl⟩)
   |(go_fit B.out;rintro e E⟨rfl,rfl⟩))
  go_ret;exact⟨by rw[<-C.out];rfl,rfl⟩
def zeZ:Str:=⟨#[76,79,98,106,101,99,116,59]⟩
theorem qbd(w:World):Calls Tryz.prog 79 #[.string ⟨#[79,98,106,101,99,116]⟩] w fun e w'=>e=.returned (.string zeZ)/\w=w':=by
 go_enter Tryz.func79,Tryz.ntmps79;go_wp2
 go_ret;exact⟨rfl,rfl⟩
theorem Zed:∀x:Ty,(zG x).length<=(qd x).length
 |.i=>Nat.zero_le _
 |.j=>Nat.zero_le _
 |.cl c=>by simp[zG,qd];omega
 |.ar x=>Xf (Zed x) (by simp[qd])
theorem qaq{k:Str}{x:Kd}(h:zp x=lst k)(z:Kd):(k.toList==zp z)=decide (x=z):=by
 rw[ByteArray.toList_eq,show k.data.toList=zp x from h.symm,Bool.eq_iff_iff,beq_iff_eq,decide_eq_true_eq];exact⟨zbb,fun h=>by rw[h]⟩
theorem Zbv{k m:Str}{x y:Kd}(h:zp x=lst k)(g:zp y=lst m):(k.toList==m.toList)=decide (x=y):=by
 have:=qaq h y;rwa [show zp y=m.toList from by rw[g,ByteArray.toList_eq]]at this
set_option maxRecDepth 100000
theorem zcm(Y w:World)(B:Nat)(cs:List qa)(O:zo Y w B cs)(P:(cs.map (·.name)).Nodup)(k:Str)(I:k.size<=maxLen):
 Calls Tryz.prog 70 #[.map (some B),.string k] w fun e w'=>e=.returned (ZB (Qg cs k))/\Below w.heap.size w w':=by
 by_cases D:lst k=[78]\/lst k=[84]
 ·have C:Qg cs k=0:=by unfold Qg;rw[if_pos D]
  rw[C];have G:(k.toList==[78])=decide (lst k=[78]):=by rw[ByteArray.toList_eq,Bool.eq_iff_iff];simp
  have H:(k.toList==[84])=decide (lst k=[84]):=by rw[ByteArray.toList_eq,Bool.eq_iff_iff];simp
  clear O P C;rcases D with D|D
  ·rw[Xj D]at G;clear H D;go_enter Tryz.func70,Tryz.ntmps70;go_wp2
   go_ret;exact⟨rfl,Xb⟩
  ·rw[Xj D]at H;rw[Xi (by rw[D];decide)]at G;clear D;go_enter Tryz.func70,Tryz.ntmps70;go_wp2
   go_ret;exact⟨rfl,Xb⟩
 ·have G:(k.toList==[78])=false:=by rw[ByteArray.toList_eq];simpa using fun h=>D (Or.inl h)
  have H:(k.toList==[84])=false:=by rw[ByteArray.toList_eq];simpa using fun h=>D (Or.inr h)
  have F:=Xh (zaF k w I);rw[QcO]at F;have E:Hid (Qg cs k=if !qo (lst k) then 1 else if (QaF (lst k)).isEmpty then 0 else if (Qb cs (str (QaF (lst k)))).isSome then 0 else 3):=by unfold Hid Qg;rw[if_neg D]
  clear D;cases M:qo (lst k) with
  |false =>
   rw[M]at F E;have C:Qg cs k=1:=E.out;rw[C,show ZB 1=.iface 52 (.int .i64 1) from rfl];replace F:Hid (Calls Tryz.prog 49 #[.string k] w fun e w'=>e=.returned (.iface 52 (.int .i64 1))/\Below w.heap.size w w'):=F;clear E C M O P I;go_enter Tryz.func70,Tryz.ntmps70;go_wp2_with (go_fit F.out;rintro e U⟨rfl,A⟩)
   go_ret;exact⟨rfl,A⟩
  |true =>
   rw[M]at F E;replace F:Hid (Calls Tryz.prog 49 #[.string k] w fun e w'=>e=.returned .nilIface/\Below w.heap.size w w'):=F;obtain⟨x,T,V,_⟩:=qa4 (lst k) M;rw[V]at E;replace E:Hid (Qg cs k=if (zG x).isEmpty then 0 else if (Qb cs (str (zG x))).isSome then 0 else 3):=E;have R:Hid (∀wx,_):=fun wx=>ZV k x wx T I
   have J:(str (zG x)).size<=maxLen:=by
    have:=Zed x;rw[T]at this;exact Xf this I
   have Z:(str (zG x)).toList.isEmpty=(zG x).isEmpty:=(by rw[ByteArray.toList_eq];rfl);obtain⟨f,g,i,j,l,m,_,_,_,N⟩:=O.look3 P (str (zG x)) J;have L:=Xh N;clear N O P I T V M J;generalize (Qb cs (str (zG x))).isSome=a at *;generalize (Qb cs (str (zG x))).getD qg=d at *;generalize str (zG x)=b at *;generalize (zG x).isEmpty=c at *;obtain⟨n,o,p,q,r,s⟩:=d;unfold Qv at L;dsimp only at L;cases c with
   |true =>
    have C:Qg cs k=0:=E.out;rw[C,show ZB 0=.nilIface from rfl];clear E C L;go_enter Tryz.func70,Tryz.ntmps70;go_wp2_with (first
     |(go_fit F.out;rintro e U⟨rfl,A⟩)
     |(go_fit (R.out _);rintro e X⟨rfl,rfl⟩))
    go_ret;exact⟨rfl,A⟩
   |false =>
    cases a with
    |true =>
     have C:Qg cs k=0:=E.out;rw[C,show ZB 0=.nilIface from rfl];clear E C;go_enter Tryz.func70,Tryz.ntmps70;go_upto_region 8 with(first
      |(go_fit F.out;rintro e U⟨rfl,A⟩)
      |(go_fit (R.out _);rintro e X⟨rfl,rfl⟩))
     have S:=(L.out _ A).1;go_wp2_with fail;go_ret;exact⟨rfl,A.alloc A.size _⟩
    |false =>
     have C:Qg cs k=3:=E.out;rw[C,show ZB 3=.iface 52 (.int .i64 3) from rfl];clear E C;go_enter Tryz.func70,Tryz.ntmps70;go_upto_region 8 with(first
      |(go_fit F.out;rintro e U⟨rfl,A⟩)
      |(go_fit (R.out _);rintro e X⟨rfl,rfl⟩))
     have S:=(L.out _ A).1;go_wp2_with fail;go_ret;exact⟨rfl,A.alloc A.size _⟩
set_option maxRecDepth 512
def Za5:Ty->Bool
 |.cl _=>true
 |_=>false
theorem zaH{k:Str}{x:Ty}(h:qd x=lst k):∃B:0<k.size,(((k[0]'B).toNat:Int)==76)=Za5 x:=by
 have B:0<k.size:=by
  have C:(lst k).length=k.size:=rfl;rw[<-h]at C;have:=List.length_pos_iff.2 (zbw x);omega
 refine⟨B,?_⟩;have D:k[0]'B=(lst k)[0]'(by have C:(lst k).length=k.size:=rfl;omega):=rfl;have A:(lst k)[0]? = (qd x)[0]?:=by rw[h]
 rw[D];have E:(lst k)[0]? = some ((lst k)[0]'(by have C:(lst k).length=k.size:=rfl;omega)):=Xn _;rw[E]at A;generalize (lst k)[0]'(by have C:(lst k).length=k.size:=rfl;omega)=b at *;cases x with
 |i=>simp[qd]at A;subst A;rfl
 |j=>simp[qd]at A;subst A;rfl
 |cl c=>simp[qd]at A;subst A;rfl
 |ar y=>simp[qd]at A;subst A;rfl
theorem zeE{l:List qa}(A:zh l){x y:Kd}(B:ZQ (Za l) x=true)(h:y=.t\/x=y\/(x=.n/\zz y=true)):zQ (Za l) x y=true:=by
 rcases h with rfl|rfl|⟨rfl,h⟩
 ·cases x<;>rfl
 ·exact Zen A x B
 ·cases y with
  |n=>rfl
  |t=>rfl
  |ty z=>exact h
theorem ZeE{cs:List qa}{x y:Kd}(C:y≠.t)(A:x≠y)(D:¬(x=.n/\zz y=true))(h:zz x=false\/zz y=false):zQ cs x y=false:=by
 cases y with
 |t=>exact absurd rfl C
 |n=>cases x with
  |n=>exact absurd rfl A
  |t=>rfl
  |ty _=>rfl
 |ty z=>cases x with
  |n =>
   cases B:qm z with
   |true=>exact absurd ⟨rfl,B⟩ D
   |false=>exact B
  |t=>rfl
  |ty u =>
   show ZA cs u z=false
   rw[Qca h];exact Xi fun E=>A (by rw[E])
set_option maxRecDepth 100000
theorem QcF(f w:World)(B:Nat)(l:List qa)(M:Zi f w B l)(a b:Str)(x y:Kd)(H:zp x=lst a)(I:zp y=lst b)(N:ZQ (Za l) x=true)(h:(y=.t\/x=y\/(x=.n/\zz y=true))\/(zz x=false\/zz y=false)):
 Calls Tryz.prog 52 #[.map (some B),.string a,.string b] w fun e w'=>e=.returned (.bool (zQ (Za l) x y))/\w=w':=by
 have O:=qaq I .t;have V:=Zbv H I;have P:=qaq H .n;have g:Hid (∀wx,_):=fun wx=>qK a x wx H
 have X:Hid (∀wx,_):=fun wx=>qK b y wx I
 simp only[zp]at O P;by_cases C:y=.t\/x=y\/(x=.n/\zz y=true)
 ·rw[zeE M.right N C];obtain⟨Y,F⟩:∃e,decide (y=Kd.t)=e:=⟨_,rfl⟩;obtain⟨Z,G⟩:∃e,decide (x=y)=e:=⟨_,rfl⟩;obtain⟨J,A⟩:∃e,decide (x=Kd.n)=e:=⟨_,rfl⟩;have D:(Y||Z||(J&&zz y))=true:=by
   rw[<-F,<-G,<-A];rcases C with C|C|⟨C,L⟩<;>simp[*]
  rw[F]at O;rw[G]at V;rw[A]at P;clear F G A C h M H I N;generalize zz x=d at *;generalize zz y=U at *;cases Y<;>cases Z<;>cases J<;>cases U<;>first|(exact absurd D (by decide))|skip
  all_goals
   clear D;go_enter Tryz.func52,Tryz.ntmps52;go_wp2_with (go_fit (X.out _);rintro e c⟨rfl,rfl⟩)
   go_ret;exact⟨rfl,rfl⟩
 ·have L:y≠.t:=fun h=>C (Or.inl h)
  have R:x≠y:=fun h=>C (Or.inr (Or.inl h))
  have S:¬(x=.n/\zz y=true):=fun h=>C (Or.inr (Or.inr h))
  have T:zz x=false\/zz y=false:=by
   rcases h with h|h
   ·exact absurd h C
   ·exact h
  rw[ZeE L R S T];rw[Xi L]at O;rw[Xi R]at V;obtain⟨J,A⟩:∃e,decide (x=Kd.n)=e:=⟨_,rfl⟩;have D:(J&&zz y)=false:=by
   rw[<-A];cases i:zz y with
   |false=>simp
   |true=>simp;exact fun h=>S ⟨h,i⟩
  have E:(zz x&&zz y)=false:=by
   rcases T with h|h<;>simp[h]
  rw[A]at P;clear A C h M H I N L R S T;generalize zz x=d at *;generalize zz y=U at *;cases J<;>cases d<;>cases U<;>first|(exact absurd D (by decide))|(exact absurd E (by decide))|skip
  all_goals
   clear D E;go_enter Tryz.func52,Tryz.ntmps52;go_wp2_with (first
    |(go_fit (g.out _);rintro e c⟨rfl,rfl⟩)
    |(go_fit (X.out _);rintro e c⟨rfl,rfl⟩))
   go_ret;exact⟨rfl,rfl⟩
set_option maxRecDepth 512
theorem qaC{k:Str}{x:Ty}(h:qd (.ar x)=lst k):qd x=lst (k.extract 1 k.size)/\(k.extract 1 k.size).size<=k.size/\1<=k.size:=by
 have A:lst (k.extract 1 k.size)=(lst k).drop 1:=by
  unfold lst;exact(Lib.extract_to_end k 1).symm▸rfl
 refine⟨by rw[A,<-h];rfl,by rw[ByteArray.size_extract];omega,?_⟩;have B:(lst k).length=k.size:=rfl;rw[<-B,<-h];simp[qd]
theorem zaM(c:Str):str (lst c)=c:=rfl
set_option maxRecDepth 100000
theorem zd8(m:World)(B:Nat)(l:List qa):∀(x:Ty) (w:World) (a b:Str) (y:Ty),Zi m w B l->qd x=lst a->qd y=lst b->zN (Za l) x=true->a.size<=maxLen->b.size<=maxLen ->
 Calls Tryz.prog 52 #[.map (some B),.string a,.string b] w fun e w'=>e=.returned (.bool (ZA (Za l) x y))/\Below w.heap.size w w':=by
 have E:∀(x:Ty) (w:World) (a b:Str) (y:Ty),Zi m w B l->qd x=lst a->qd y=lst b->zN (Za l) x=true->(x=y\/qm x=false\/qm y=false) ->
  Calls Tryz.prog 52 #[.map (some B),.string a,.string b] w fun e w'=>e=.returned (.bool (ZA (Za l) x y))/\Below w.heap.size w w':=fun x w a b y F D A I h =>
  (QcF m w B l F a b (.ty x) (.ty y) D A I (by
   rcases h with h|h
   ·exact Or.inl (Or.inr (Or.inl (by rw[h])))
   ·exact Or.inr h)).mono fun e w' ⟨h1,h2⟩=>⟨h1,h2▸Xb⟩
 intro x;induction x with
 |i=>intro w a b y F D A I _ _;exact E _ w a b y F D A I (Or.inr (Or.inl rfl))
 |j=>intro w a b y F D A I _ _;exact E _ w a b y F D A I (Or.inr (Or.inl rfl))
 |cl c =>
  intro w a b y F D A I J H;by_cases C:Ty.cl c=y\/qm y=false
  ·exact E _ w a b y F D A I (by rcases C with C|C;exact Or.inl C;exact Or.inr (Or.inr C))
  ·have G:Ty.cl c≠y:=fun h=>C (Or.inl h)
   have T:=qaq (x:=.ty y) A .t;have o:=Zbv (x:=.ty (.cl c)) (y:=.ty y) D A;have U:=qaq (x:=.ty (.cl c)) D .n;simp only[zp]at T U;rw[Xi (by intro h;cases h)]at T U;rw[Xi (by intro h;injection h with h;exact G h)]at o;have O:Hid (∀wx,_):=fun wx=>qK a (.ty (.cl c)) wx D
   have N:Hid (∀wx,_):=fun wx=>qK b (.ty y) wx A
   have P:Hid (∀wx,_):=fun wx=>ZV a (.cl c) wx D J
   have R:Hid (∀wx,_):=fun wx=>ZV b y wx A H
   obtain⟨s,fa⟩:=zaH D;obtain⟨hpb,f⟩:=zaH A;have V:=Xh (zbu m w B (Za l) F.map F.right.nodup F.faces F.right.small F.right.closed c I);have M:Hid (∀d v wx,Zo wx v (zaf (zj (Za l) c))->_):=fun d v wx h=>qan (zaf (zj (Za l) c)) v d wx h
   simp only[zz,qm,zG,zaM,Za5]at O P fa;clear F D I J G;cases y with
   |i=>exact absurd (Or.inr rfl) C
   |j=>exact absurd (Or.inr rfl) C
   |cl d =>
    simp only[zz,qm,zG,zaM,Za5]at N R f;have X:=Xh (M.out d);rw[Qa3]at X;show Calls _ _ _ _ fun e w'=>e=.returned (.bool (Q4 (zj (Za l) c) d))/\Below w.heap.size w w'
    generalize Q4 (zj (Za l) c) d=r at *;clear C M A H;go_enter Tryz.func52,Tryz.ntmps52;go_wp2_with (first
     |(go_fit (O.out _);rintro e L⟨rfl,rfl⟩)
     |(go_fit (N.out _);rintro e L⟨rfl,rfl⟩)
     |(go_fit (P.out _);rintro e L⟨rfl,rfl⟩)
     |(go_fit (R.out _);rintro e L⟨rfl,rfl⟩)
     |(go_fit V.out;rintro e w4⟨⟨v,rfl,hv⟩,S⟩)
     |(go_fit (X.out _ _ hv);rintro e w5⟨rfl,rfl⟩))
    go_ret;exact⟨rfl,S⟩
   |ar z =>
    simp only[zz,qm,Za5]at N f;clear C M P R V A H;go_enter Tryz.func52,Tryz.ntmps52;go_wp2_with (first
     |(go_fit (O.out _);rintro e L⟨rfl,rfl⟩)
     |(go_fit (N.out _);rintro e L⟨rfl,rfl⟩))
    go_ret;exact⟨rfl,Xb⟩
 |ar u ih =>
  intro w a b y F D A I J H;by_cases C:Ty.ar u=y\/qm y=false
  ·exact E _ w a b y F D A I (by rcases C with C|C;exact Or.inl C;exact Or.inr (Or.inr C))
  ·have G:Ty.ar u≠y:=fun h=>C (Or.inl h)
   have T:=qaq (x:=.ty y) A .t;have o:=Zbv (x:=.ty (.ar u)) (y:=.ty y) D A;have U:=qaq (x:=.ty (.ar u)) D .n;simp only[zp]at T U;rw[Xi (by intro h;cases h)]at T U;rw[Xi (by intro h;injection h with h;exact G h)]at o;have O:Hid (∀wx,_):=fun wx=>qK a (.ty (.ar u)) wx D
   have N:Hid (∀wx,_):=fun wx=>qK b (.ty y) wx A
   obtain⟨s,fa⟩:=zaH D;obtain⟨hpb,f⟩:=zaH A;simp only[zz,qm,Za5]at O fa;cases y with
   |i=>exact absurd (Or.inr rfl) C
   |j=>exact absurd (Or.inr rfl) C
   |cl d =>
    have hO:=qaq (x:=.ty (.cl d)) A (.ty (.cl Zg));rw[show zp (.ty (.cl Zg))=zeZ.toList by rw[ByteArray.toList_eq];rfl]at hO;have p:Hid (∀wx,_):=fun wx=>qbd wx
    simp only[zz,qm,Za5]at N f;show Calls _ _ _ _ fun e w'=>e=.returned (.bool (decide (d=Zg)))/\Below w.heap.size w w'
    rw[show decide (Kd.ty (.cl d)=.ty (.cl Zg))=decide (d=Zg) by rw[Bool.eq_iff_iff];simp]at hO;generalize decide (d=Zg)=r at *;clear C F D A I J H G ih;go_enter Tryz.func52,Tryz.ntmps52;go_wp2_with (first
     |(go_fit (O.out _);rintro e L⟨rfl,rfl⟩)
     |(go_fit (N.out _);rintro e L⟨rfl,rfl⟩)
     |(go_fit (p.out _);rintro e L⟨rfl,rfl⟩))
    go_ret;exact⟨rfl,Xb⟩
   |ar v =>
    simp only[zz,qm,Za5]at N f;obtain⟨ta,g,hsz1⟩:=qaC D;obtain⟨tb,k,hsz2⟩:=qaC A;have Y:Hid (∀wx,_):=fun wx=>qK (a.extract 1 a.size) (.ty u) wx ta
    have Z:Hid (∀wx,_):=fun wx=>qK (b.extract 1 b.size) (.ty v) wx tb
    have HI:Hid (∀wx,Below w.heap.size w wx->_):=fun wx A=>ih wx (a.extract 1 a.size) (b.extract 1 b.size) v (F.step A) ta tb I (Xf g J) (Xf k H)
    have hw:Hid (qm u=false\/qm v=false->ZA (Za l) u v=false):=fun h=>by
     rw[Qca h];exact Xi fun C=>G (by rw[C])
    simp only[zz]at Y Z;show Calls _ _ _ _ fun e w'=>e=.returned (.bool (ZA (Za l) u v))/\Below w.heap.size w w'
    clear C F D A I J H G ih ta g tb k;generalize qm u=ru at *;generalize qm v=rv at *;generalize ZA (Za l) u v=r at *;generalize hxa:a.extract 1 a.size=a1 at *;generalize hxb:b.extract 1 b.size=b1 at *;have q:Hid ((ru&&rv)=false->r=false):=fun h=>hw.out (by cases ru<;>cases rv<;>simp at *)
    clear hw;cases ru<;>cases rv
    all_goals
     go_enter Tryz.func52,Tryz.ntmps52;go_upto_region 9 with(first
      |(go_fit (O.out _);rintro e L⟨rfl,rfl⟩)
      |(go_fit (N.out _);rintro e L⟨rfl,rfl⟩))
     go_quiet (fail);go_wp2_with (first
      |(go_fit (Y.out _);rintro e L⟨rfl,rfl⟩)
      |(go_fit (Z.out _);rintro e L⟨rfl,rfl⟩)
      |(go_fit (HI.out _ (below_drewN Xb _));rintro e w4⟨rfl,S⟩))
     go_ret;first
      |exact⟨rfl,Qa (below_drewN Xb _) Xl S⟩
      |exact⟨by rw[q.out rfl];rfl,below_drewN Xb _⟩
set_option maxRecDepth 512
theorem zcp(D w:World)(B:Nat)(l:List qa)(G:Zi D w B l)(a b:Str)(x y:Kd)(C:Za0 (Za l) a x)(H:Za0 (Za l) b y)(E:a.size<=maxLen)(F:b.size<=maxLen):
 Calls Tryz.prog 52 #[.map (some B),.string a,.string b] w fun e w'=>e=.returned (.bool (zQ (Za l) x y))/\Below w.heap.size w w':=by
 have A:(y=.t\/x=y\/(x=.n/\zz y=true))\/(zz x=false\/zz y=false)->Calls Tryz.prog 52 #[.map (some B),.string a,.string b] w fun e w'=>e=.returned (.bool (zQ (Za l) x y))/\Below w.heap.size w w':=fun h =>
  (QcF D w B l G a b x y C.1 H.1 C.2 h).mono fun e w' ⟨I,J⟩=>⟨I,J▸Xb⟩
 cases x with
 |n=>exact A (Or.inr (Or.inl rfl))
 |t=>exact A (Or.inr (Or.inl rfl))
 |ty u =>
  cases y with
  |n=>exact A (Or.inr (Or.inr rfl))
  |t=>exact A (Or.inl (Or.inl rfl))
  |ty v=>exact zd8 D B l u w a b v G C.1 H.1 C.2 E F
def Qc(c:Str):Str:=(⟨#[76]⟩++c)++⟨#[59]⟩
theorem QaA(c:Str):lst (Qc c)=qd (.cl c):=by
 unfold Qc lst;rw[ByteArray.data_append,ByteArray.data_append,Array.toList_append,Array.toList_append];rfl
theorem Zan(c:Str):(Qc c).size=c.size+2:=by
 unfold Qc;rw[ByteArray.size_append,ByteArray.size_append];show 1+c.size+1=_;omega
theorem zW(c:Str)(w:World)(B:c.size<=4194304):Calls Tryz.prog 79 #[.string c] w fun e w'=>e=.returned (.string (Qc c))/\w=w':=by
 have A:(⟨#[76]⟩++c:ByteArray).size<=4194305:=by rw[ByteArray.size_append];show 1+c.size<=_;omega
 go_enter Tryz.func79,Tryz.ntmps79;go_wp2
 go_ret;exact⟨rfl,rfl⟩
theorem qaM{l:List qa}(D:∀c∈l,qf c=0){x:Str}(E:(Qb (Za l) x).isSome=true):x.size<=20:=by
 obtain⟨c,A,rfl⟩:=Za7 E;unfold Za at A;rcases List.mem_cons.1 A with rfl|A
 ·decide
 ·rcases List.mem_cons.1 A with rfl|A
  ·decide
  ·have h:=D c A;unfold qf at h;split at h
   ·cases h
   ·rename_i C;rw[Bool.not_eq_true,Bool.or_eq_false_iff,Bool.not_eq_false']at C;have B:=C.1;unfold Zx at B;split at B
    ·cases B
    ·rw[Bool.and_eq_true,Bool.and_eq_true]at B;exact Xm B.1.1
end Go.Proofs.YtmclocdhcblbiaaGreatDoor
