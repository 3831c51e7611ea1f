/- Lemmas; conditions: as each states. -/
import Derived.Test.YtmclocdhcblbiaaGreatDoorZLayLaw
set_option maxHeartbeats 4000000
namespace Go.Proofs.YtmclocdhcblbiaaGreatDoor
open Go.RowKit Go.Shelf Go.Lib Tryz
set_option maxRecDepth 100000
theorem zY(k:Str)(x:Ty)(w:World)(h:qe x=lst k)(H:k.size<=maxLen):Calls prog 78 #[.string k] w fun e w'=>e=.returned (.string (str (zH x)))/\w=w':=by
 have G:=Xh (QbQ k w);have D:lst (k.extract (Qv k.data.toList) k.size)=qe (ZaB x):=by
  have F:=Lib.extract_to_end k (Qv k.data.toList);rw[show k.data.toList=qe x from h.symm,Zbb,Zdc]at F;rw[show k.data.toList=qe x from h.symm,Zbb];unfold lst;rw[<-F]
 have L:(k.extract (Qv k.data.toList) k.size).size<=k.size:=by rw[ByteArray.size_extract];omega
 generalize k.extract (Qv k.data.toList) k.size=r at *;have C:Hid (∀w,_):=fun w=>ZbJ r w
 rw[show r.data.toList=qe (ZaB x) from D,qa8]at C;clear h;rcases Zcy x with⟨A,B⟩|⟨A,B⟩|⟨c,A,B⟩
 ·rw[A]at C;rw[B];clear D A B;go_enter func78,ntmps78;go_wp2_with (first
   |(go_fit G.out;rintro e I⟨rfl,rfl⟩)
   |(go_fit (C.out _);rintro e J⟨rfl,rfl⟩))
  go_ret;exact⟨rfl,rfl⟩
 ·rw[A]at C;rw[B];clear D A B;go_enter func78,ntmps78;go_wp2_with (first
   |(go_fit G.out;rintro e I⟨rfl,rfl⟩)
   |(go_fit (C.out _);rintro e J⟨rfl,rfl⟩))
  go_ret;exact⟨rfl,rfl⟩
 ·rw[A]at C D;rw[B];have M:r.size=c.size+2:=by
   have:=congrArg List.length D;simp[qe,lst]at this;have P:r.size=r.data.size:=rfl;have N:c.size=c.data.size:=rfl;omega
  have hcut:r.extract 1 (c.size+2-1)=str (lst c):=by
   apply ByteArray.ext;apply Array.toList_inj.1;have F:(r.extract 1 (c.size+2-1)).data.toList=((lst r).drop 1).take (c.size+2-1-1):=by
    rw[ByteArray.data_extract,Array.toList_extract,List.extract_eq_take_drop]
   rw[F,D];show(lst c++[59]).take (c.size+2-1-1)=lst c
   have N:(lst c).length=c.size:=rfl;rw[List.take_append_of_le_length (by omega),List.take_of_length_le (by omega)]
  have E:=Xh hcut;have O:c.size+2<=9223372036854775807:=by unfold maxLen at H;omega
  clear A B H hcut;go_enter func78,ntmps78;go_wp2_with (first
   |(go_fit G.out;rintro e I⟨rfl,rfl⟩)
   |(go_fit (C.out _);rintro e J⟨rfl,rfl⟩))
  go_ret;exact⟨by rw[<-E.out];rfl,rfl⟩
theorem ZeF(x:Kd):(Lib.hasPrefix (Qo x) [76]||Lib.hasPrefix (Qo x) [91])=zA x:=by
 cases x with
 |n=>rfl
 |t=>rfl
 |ty y=>cases y<;>rfl
theorem QL(k:Str)(x:Kd)(w:World)(h:Qo x=lst k):Calls prog 51 #[.string k] w fun e w'=>e=.returned (.bool (zA x))/\w=w':=by
 have A:=Xh (qu k ⟨#[76]⟩ w);have B:=Xh (qu k ⟨#[91]⟩ w);rw[show k.data.toList=Qo x from h.symm]at A B;have C:Hid ((Lib.hasPrefix (Qo x) [76]||Lib.hasPrefix (Qo x) [91])=zA x):=ZeF x;simp only at A B;generalize Lib.hasPrefix (Qo x) [76]=a at *;generalize Lib.hasPrefix (Qo x) [91]=b at *;clear h;cases a<;>cases b
 all_goals
  go_enter func51,ntmps51;go_wp2_with (first
   |(go_fit A.out;rintro e D⟨rfl,rfl⟩)
   |(go_fit B.out;rintro e E⟨rfl,rfl⟩))
  go_ret;exact⟨by rw[<-C.out];rfl,rfl⟩
def qe3:Str:=⟨#[76,79,98,106,101,99,116,59]⟩
theorem zbh(w:World):Calls prog 79 #[.string ⟨#[79,98,106,101,99,116]⟩] w fun e w'=>e=.returned (.string qe3)/\w=w':=by
 go_enter func79,ntmps79;go_wp2
 go_ret;exact⟨rfl,rfl⟩
theorem Zed:∀x:Ty,(zH x).length<=(qe x).length
 |.i=>Nat.zero_le _
 |.j=>Nat.zero_le _
 |.cl c=>by simp[zH,qe];omega
 |.ar x=>Xf (Zed x) (by simp[qe])
theorem Qas{k:Str}{x:Kd}(h:Qo x=lst k)(z:Kd):(k.toList==Qo z)=decide (x=z):=by
 rw[ByteArray.toList_eq,show k.data.toList=Qo x from h.symm,Bool.eq_iff_iff,beq_iff_eq,decide_eq_true_eq];exact⟨Zbe,fun h=>by rw[h]⟩
theorem Qbx{k m:Str}{x y:Kd}(h:Qo x=lst k)(g:Qo y=lst m):(k.toList==m.toList)=decide (x=y):=by
 have:=Qas h y;rwa [show Qo y=m.toList from by rw[g,ByteArray.toList_eq]]at this
theorem qcn(Y w:World)(B:Nat)(cs:List qa)(O:Qn Y w B cs)(P:(cs.map (·.name)).Nodup)(k:Str)(I:k.size<=maxLen):
 Calls prog 70 #[.map (some B),.string k] w fun e w'=>e=.returned (Qx (Zg cs k))/\Below w.heap.size w w':=by
 by_cases D:lst k=[78]\/lst k=[84]
 ·have C:Zg cs k=0:=by unfold Zg;rw[if_pos D]
  rw[C];have G:(k.toList==[78])=decide (lst k=[78]):=by rw[ByteArray.toList_eq,Bool.eq_iff_iff];simp
  have H:(k.toList==[84])=decide (lst k=[84]):=by rw[ByteArray.toList_eq,Bool.eq_iff_iff];simp
  clear O P C;rcases D with D|D
  ·rw[Xj D]at G;clear H D;go_enter func70,ntmps70;go_wp2
   go_ret;exact⟨rfl,Xb⟩
  ·rw[Xj D]at H;rw[Xi (by rw[D];decide)]at G;clear D;go_enter func70,ntmps70;go_wp2
   go_ret;exact⟨rfl,Xb⟩
 ·have G:(k.toList==[78])=false:=by rw[ByteArray.toList_eq];simpa using fun h=>D (Or.inl h)
  have H:(k.toList==[84])=false:=by rw[ByteArray.toList_eq];simpa using fun h=>D (Or.inr h)
  have F:=Xh (zaJ k w I);rw[qcQ]at F;have E:Hid (Zg cs k=if !zp (lst k) then 1 else if (qaJ (lst k)).isEmpty then 0 else if (Qb cs (str (qaJ (lst k)))).isSome then 0 else 3):=by unfold Hid Zg;rw[if_neg D]
  clear D;cases M:zp (lst k) with
  |false =>
   rw[M]at F E;have C:Zg cs k=1:=E.out;rw[C,show Qx 1=.iface 52 (.int .i64 1) from rfl];replace F:Hid (Calls prog 49 #[.string k] w fun e w'=>e=.returned (.iface 52 (.int .i64 1))/\Below w.heap.size w w'):=F;clear E C M O P I;go_enter func70,ntmps70;go_wp2_with (go_fit F.out;rintro e U⟨rfl,A⟩)
   go_ret;exact⟨rfl,A⟩
  |true =>
   rw[M]at F E;replace F:Hid (Calls prog 49 #[.string k] w fun e w'=>e=.returned .nilIface/\Below w.heap.size w w'):=F;obtain⟨x,T,V,_⟩:=za9 (lst k) M;rw[V]at E;replace E:Hid (Zg cs k=if (zH x).isEmpty then 0 else if (Qb cs (str (zH x))).isSome then 0 else 3):=E;have R:Hid (∀wx,_):=fun wx=>zY k x wx T I
   have J:(str (zH x)).size<=maxLen:=by
    have:=Zed x;rw[T]at this;exact Xf this I
   have Z:(str (zH x)).toList.isEmpty=(zH x).isEmpty:=(by rw[ByteArray.toList_eq];rfl);obtain⟨f,g,i,j,l,m,_,_,_,N⟩:=O.look3 P (str (zH x)) J;have L:=Xh N;clear N O P I T V M J;generalize (Qb cs (str (zH x))).isSome=a at *;generalize (Qb cs (str (zH x))).getD qg=d at *;generalize str (zH x)=b at *;generalize (zH x).isEmpty=c at *;obtain⟨n,o,p,q,r,s⟩:=d;unfold Zu at L;dsimp only at L;cases c with
   |true =>
    have C:Zg cs k=0:=E.out;rw[C,show Qx 0=.nilIface from rfl];clear E C L;go_enter func70,ntmps70;go_wp2_with (first
     |(go_fit F.out;rintro e U⟨rfl,A⟩)
     |(go_fit (R.out _);rintro e X⟨rfl,rfl⟩))
    go_ret;exact⟨rfl,A⟩
   |false =>
    cases a with
    |true =>
     have C:Zg cs k=0:=E.out;rw[C,show Qx 0=.nilIface from rfl];clear E C;go_enter func70,ntmps70;go_upto_region 8 with(first
      |(go_fit F.out;rintro e U⟨rfl,A⟩)
      |(go_fit (R.out _);rintro e X⟨rfl,rfl⟩))
     have S:=(L.out _ A).1;go_wp2_with fail;go_ret;exact⟨rfl,A.alloc A.size _⟩
    |false =>
     have C:Zg cs k=3:=E.out;rw[C,show Qx 3=.iface 52 (.int .i64 3) from rfl];clear E C;go_enter func70,ntmps70;go_upto_region 8 with(first
      |(go_fit F.out;rintro e U⟨rfl,A⟩)
      |(go_fit (R.out _);rintro e X⟨rfl,rfl⟩))
     have S:=(L.out _ A).1;go_wp2_with fail;go_ret;exact⟨rfl,A.alloc A.size _⟩
def Qa9:Ty->Bool
 |.cl _=>true
 |_=>false
theorem qaK{k:Str}{x:Ty}(h:qe x=lst k):∃B:0<k.size,(((k[0]'B).toNat:Int)==76)=Qa9 x:=by
 have B:0<k.size:=by
  have C:(lst k).length=k.size:=rfl;rw[<-h]at C;have:=List.length_pos_iff.2 (qby x);omega
 refine⟨B,?_⟩;have D:k[0]'B=(lst k)[0]'(by have C:(lst k).length=k.size:=rfl;omega):=rfl;have A:(lst k)[0]? = (qe x)[0]?:=by rw[h]
 rw[D];have E:(lst k)[0]? = some ((lst k)[0]'(by have C:(lst k).length=k.size:=rfl;omega)):=Xn _;rw[E]at A;generalize (lst k)[0]'(by have C:(lst k).length=k.size:=rfl;omega)=b at *;cases x with
 |i=>simp[qe]at A;subst A;rfl
 |j=>simp[qe]at A;subst A;rfl
 |cl c=>simp[qe]at A;subst A;rfl
 |ar y=>simp[qe]at A;subst A;rfl
theorem qeF{l:List qa}(A:Qg l){x y:Kd}(B:qS (Za l) x=true)(h:y=.t\/x=y\/(x=.n/\zA y=true)):ZS (Za l) x y=true:=by
 rcases h with rfl|rfl|⟨rfl,h⟩
 ·cases x<;>rfl
 ·exact qem A x B
 ·cases y with
  |n=>rfl
  |t=>rfl
  |ty z=>exact h
theorem QeF{cs:List qa}{x y:Kd}(C:y≠.t)(A:x≠y)(D:¬(x=.n/\zA y=true))(h:zA x=false\/zA y=false):ZS cs x y=false:=by
 cases y with
 |t=>exact absurd rfl C
 |n=>cases x with
  |n=>exact absurd rfl A
  |t=>rfl
  |ty _=>rfl
 |ty z=>cases x with
  |n =>
   cases B:Qm z with
   |true=>exact absurd ⟨rfl,B⟩ D
   |false=>exact B
  |t=>rfl
  |ty u =>
   show ZB cs u z=false
   rw[Zcc h];exact Xi fun E=>A (by rw[E])
theorem QcH(f w:World)(B:Nat)(l:List qa)(M:qh f w B l)(a b:Str)(x y:Kd)(H:Qo x=lst a)(I:Qo y=lst b)(N:qS (Za l) x=true)(h:(y=.t\/x=y\/(x=.n/\zA y=true))\/(zA x=false\/zA y=false)):
 Calls prog 52 #[.map (some B),.string a,.string b] w fun e w'=>e=.returned (.bool (ZS (Za l) x y))/\w=w':=by
 have O:=Qas I .t;have V:=Qbx H I;have P:=Qas H .n;have g:Hid (∀wx,_):=fun wx=>QL a x wx H
 have X:Hid (∀wx,_):=fun wx=>QL b y wx I
 simp only[Qo]at O P;by_cases C:y=.t\/x=y\/(x=.n/\zA y=true)
 ·rw[qeF M.right N C];obtain⟨Y,F⟩:∃e,decide (y=Kd.t)=e:=⟨_,rfl⟩;obtain⟨Z,G⟩:∃e,decide (x=y)=e:=⟨_,rfl⟩;obtain⟨J,A⟩:∃e,decide (x=Kd.n)=e:=⟨_,rfl⟩;have D:(Y||Z||(J&&zA y))=true:=by
   rw[<-F,<-G,<-A];rcases C with C|C|⟨C,L⟩<;>simp[*]
  rw[F]at O;rw[G]at V;rw[A]at P;clear F G A C h M H I N;generalize zA x=d at *;generalize zA y=U at *;cases Y<;>cases Z<;>cases J<;>cases U<;>first|(exact absurd D (by decide))|skip
  all_goals
   clear D;go_enter func52,ntmps52;go_wp2_with (go_fit (X.out _);rintro e c⟨rfl,rfl⟩)
   go_ret;exact⟨rfl,rfl⟩
 ·have L:y≠.t:=fun h=>C (Or.inl h)
  have R:x≠y:=fun h=>C (Or.inr (Or.inl h))
  have S:¬(x=.n/\zA y=true):=fun h=>C (Or.inr (Or.inr h))
  have T:zA x=false\/zA y=false:=by
   rcases h with h|h
   ·exact absurd h C
   ·exact h
  rw[QeF L R S T];rw[Xi L]at O;rw[Xi R]at V;obtain⟨J,A⟩:∃e,decide (x=Kd.n)=e:=⟨_,rfl⟩;have D:(J&&zA y)=false:=by
   rw[<-A];cases i:zA y with
   |false=>simp
   |true=>simp;exact fun h=>S ⟨h,i⟩
  have E:(zA x&&zA y)=false:=by
   rcases T with h|h<;>simp[h]
  rw[A]at P;clear A C h M H I N L R S T;generalize zA x=d at *;generalize zA y=U at *;cases J<;>cases d<;>cases U<;>first|(exact absurd D (by decide))|(exact absurd E (by decide))|skip
  all_goals
   clear D E;go_enter func52,ntmps52;go_wp2_with (first
    |(go_fit (g.out _);rintro e c⟨rfl,rfl⟩)
    |(go_fit (X.out _);rintro e c⟨rfl,rfl⟩))
   go_ret;exact⟨rfl,rfl⟩
theorem zaG{k:Str}{x:Ty}(h:qe (.ar x)=lst k):qe x=lst (k.extract 1 k.size)/\(k.extract 1 k.size).size<=k.size/\1<=k.size:=by
 have A:lst (k.extract 1 k.size)=(lst k).drop 1:=by
  unfold lst;exact(Lib.extract_to_end k 1).symm▸rfl
 refine⟨by rw[A,<-h];rfl,by rw[ByteArray.size_extract];omega,?_⟩;have B:(lst k).length=k.size:=rfl;rw[<-B,<-h];simp[qe]
theorem zaQ(c:Str):str (lst c)=c:=rfl
theorem zd9(m:World)(B:Nat)(l:List qa):∀(x:Ty) (w:World) (a b:Str) (y:Ty),qh m w B l->qe x=lst a->qe y=lst b->ZP (Za l) x=true->a.size<=maxLen->b.size<=maxLen ->
 Calls prog 52 #[.map (some B),.string a,.string b] w fun e w'=>e=.returned (.bool (ZB (Za l) x y))/\Below w.heap.size w w':=by
 have E:∀(x:Ty) (w:World) (a b:Str) (y:Ty),qh m w B l->qe x=lst a->qe y=lst b->ZP (Za l) x=true->(x=y\/Qm x=false\/Qm y=false) ->
  Calls prog 52 #[.map (some B),.string a,.string b] w fun e w'=>e=.returned (.bool (ZB (Za l) x y))/\Below w.heap.size w w':=fun x w a b y F D A I h =>
  (QcH m w B l F a b (.ty x) (.ty y) D A I (by
   rcases h with h|h
   ·exact Or.inl (Or.inr (Or.inl (by rw[h])))
   ·exact Or.inr h)).mono fun e w' ⟨h1,h2⟩=>⟨h1,h2▸Xb⟩
 intro x;induction x with
 |i=>intro w a b y F D A I _ _;exact E _ w a b y F D A I (Or.inr (Or.inl rfl))
 |j=>intro w a b y F D A I _ _;exact E _ w a b y F D A I (Or.inr (Or.inl rfl))
 |cl c =>
  intro w a b y F D A I J H;by_cases C:Ty.cl c=y\/Qm y=false
  ·exact E _ w a b y F D A I (by rcases C with C|C;exact Or.inl C;exact Or.inr (Or.inr C))
  ·have G:Ty.cl c≠y:=fun h=>C (Or.inl h)
   have T:=Qas (x:=.ty y) A .t;have o:=Qbx (x:=.ty (.cl c)) (y:=.ty y) D A;have U:=Qas (x:=.ty (.cl c)) D .n;simp only[Qo]at T U;rw[Xi (by intro h;cases h)]at T U;rw[Xi (by intro h;injection h with h;exact G h)]at o;have O:Hid (∀wx,_):=fun wx=>QL a (.ty (.cl c)) wx D
   have N:Hid (∀wx,_):=fun wx=>QL b (.ty y) wx A
   have P:Hid (∀wx,_):=fun wx=>zY a (.cl c) wx D J
   have R:Hid (∀wx,_):=fun wx=>zY b y wx A H
   obtain⟨s,fa⟩:=qaK D;obtain⟨hpb,f⟩:=qaK A;have V:=Xh (qbw m w B (Za l) F.map F.right.nodup F.faces F.right.small F.right.closed c I);have M:Hid (∀d v wx,qp wx v (Zad (qi (Za l) c))->_):=fun d v wx h=>Qao (Zad (qi (Za l) c)) v d wx h
   simp only[zA,Qm,zH,zaQ,Qa9]at O P fa;clear F D I J G;cases y with
   |i=>exact absurd (Or.inr rfl) C
   |j=>exact absurd (Or.inr rfl) C
   |cl d =>
    simp only[zA,Qm,zH,zaQ,Qa9]at N R f;have X:=Xh (M.out d);rw[Za8]at X;show Calls _ _ _ _ fun e w'=>e=.returned (.bool (zak (qi (Za l) c) d))/\Below w.heap.size w w'
    generalize zak (qi (Za l) c) d=r at *;clear C M A H;go_enter func52,ntmps52;go_wp2_with (first
     |(go_fit (O.out _);rintro e L⟨rfl,rfl⟩)
     |(go_fit (N.out _);rintro e L⟨rfl,rfl⟩)
     |(go_fit (P.out _);rintro e L⟨rfl,rfl⟩)
     |(go_fit (R.out _);rintro e L⟨rfl,rfl⟩)
     |(go_fit V.out;rintro e w4⟨⟨v,rfl,hv⟩,S⟩)
     |(go_fit (X.out _ _ hv);rintro e w5⟨rfl,rfl⟩))
    go_ret;exact⟨rfl,S⟩
   |ar z =>
    simp only[zA,Qm,Qa9]at N f;clear C M P R V A H;go_enter func52,ntmps52;go_wp2_with (first
     |(go_fit (O.out _);rintro e L⟨rfl,rfl⟩)
     |(go_fit (N.out _);rintro e L⟨rfl,rfl⟩))
    go_ret;exact⟨rfl,Xb⟩
 |ar u ih =>
  intro w a b y F D A I J H;by_cases C:Ty.ar u=y\/Qm y=false
  ·exact E _ w a b y F D A I (by rcases C with C|C;exact Or.inl C;exact Or.inr (Or.inr C))
  ·have G:Ty.ar u≠y:=fun h=>C (Or.inl h)
   have T:=Qas (x:=.ty y) A .t;have o:=Qbx (x:=.ty (.ar u)) (y:=.ty y) D A;have U:=Qas (x:=.ty (.ar u)) D .n;simp only[Qo]at T U;rw[Xi (by intro h;cases h)]at T U;rw[Xi (by intro h;injection h with h;exact G h)]at o;have O:Hid (∀wx,_):=fun wx=>QL a (.ty (.ar u)) wx D
   have N:Hid (∀wx,_):=fun wx=>QL b (.ty y) wx A
   obtain⟨s,fa⟩:=qaK D;obtain⟨hpb,f⟩:=qaK A;simp only[zA,Qm,Qa9]at O fa;cases y with
   |i=>exact absurd (Or.inr rfl) C
   |j=>exact absurd (Or.inr rfl) C
   |cl d =>
    have hO:=Qas (x:=.ty (.cl d)) A (.ty (.cl zh));rw[show Qo (.ty (.cl zh))=qe3.toList by rw[ByteArray.toList_eq];rfl]at hO;have p:Hid (∀wx,_):=fun wx=>zbh wx
    simp only[zA,Qm,Qa9]at N f;show Calls _ _ _ _ fun e w'=>e=.returned (.bool (decide (d=zh)))/\Below w.heap.size w w'
    rw[show decide (Kd.ty (.cl d)=.ty (.cl zh))=decide (d=zh) by rw[Bool.eq_iff_iff];simp]at hO;generalize decide (d=zh)=r at *;clear C F D A I J H G ih;go_enter func52,ntmps52;go_wp2_with (first
     |(go_fit (O.out _);rintro e L⟨rfl,rfl⟩)
     |(go_fit (N.out _);rintro e L⟨rfl,rfl⟩)
     |(go_fit (p.out _);rintro e L⟨rfl,rfl⟩))
    go_ret;exact⟨rfl,Xb⟩
   |ar v =>
    simp only[zA,Qm,Qa9]at N f;obtain⟨ta,g,hsz1⟩:=zaG D;obtain⟨tb,k,hsz2⟩:=zaG A;have Y:Hid (∀wx,_):=fun wx=>QL (a.extract 1 a.size) (.ty u) wx ta
    have Z:Hid (∀wx,_):=fun wx=>QL (b.extract 1 b.size) (.ty v) wx tb
    have HI:Hid (∀wx,Below w.heap.size w wx->_):=fun wx A=>ih wx (a.extract 1 a.size) (b.extract 1 b.size) v (F.step A) ta tb I (Xf g J) (Xf k H)
    have hw:Hid (Qm u=false\/Qm v=false->ZB (Za l) u v=false):=fun h=>by
     rw[Zcc h];exact Xi fun C=>G (by rw[C])
    simp only[zA]at Y Z;show Calls _ _ _ _ fun e w'=>e=.returned (.bool (ZB (Za l) u v))/\Below w.heap.size w w'
    clear C F D A I J H G ih ta g tb k;generalize Qm u=ru at *;generalize Qm v=rv at *;generalize ZB (Za l) u v=r at *;generalize hxa:a.extract 1 a.size=a1 at *;generalize hxb:b.extract 1 b.size=b1 at *;have q:Hid ((ru&&rv)=false->r=false):=fun h=>hw.out (by cases ru<;>cases rv<;>simp at *)
    clear hw;cases ru<;>cases rv
    all_goals
     go_enter func52,ntmps52;go_upto_region 9 with(first
      |(go_fit (O.out _);rintro e L⟨rfl,rfl⟩)
      |(go_fit (N.out _);rintro e L⟨rfl,rfl⟩))
     go_quiet (fail);go_wp2_with (first
      |(go_fit (Y.out _);rintro e L⟨rfl,rfl⟩)
      |(go_fit (Z.out _);rintro e L⟨rfl,rfl⟩)
      |(go_fit (HI.out _ (below_drewN Xb _));rintro e w4⟨rfl,S⟩))
     go_ret;first
      |exact⟨rfl,Qa (below_drewN Xb _) Xl S⟩
      |exact⟨by rw[q.out rfl];rfl,below_drewN Xb _⟩
theorem Qcq(D w:World)(B:Nat)(l:List qa)(G:qh D w B l)(a b:Str)(x y:Kd)(C:Qa3 (Za l) a x)(H:Qa3 (Za l) b y)(E:a.size<=maxLen)(F:b.size<=maxLen):
 Calls prog 52 #[.map (some B),.string a,.string b] w fun e w'=>e=.returned (.bool (ZS (Za l) x y))/\Below w.heap.size w w':=by
 have A:(y=.t\/x=y\/(x=.n/\zA y=true))\/(zA x=false\/zA y=false)->Calls prog 52 #[.map (some B),.string a,.string b] w fun e w'=>e=.returned (.bool (ZS (Za l) x y))/\Below w.heap.size w w':=fun h =>
  (QcH D w B l G a b x y C.1 H.1 C.2 h).mono fun e w' ⟨I,J⟩=>⟨I,J▸Xb⟩
 cases x with
 |n=>exact A (Or.inr (Or.inl rfl))
 |t=>exact A (Or.inr (Or.inl rfl))
 |ty u =>
  cases y with
  |n=>exact A (Or.inr (Or.inr rfl))
  |t=>exact A (Or.inl (Or.inl rfl))
  |ty v=>exact zd9 D B l u w a b v G C.1 H.1 C.2 E F
def Qc(c:Str):Str:=(⟨#[76]⟩++c)++⟨#[59]⟩
theorem QaE(c:Str):lst (Qc c)=qe (.cl c):=by
 unfold Qc lst;rw[ByteArray.data_append,ByteArray.data_append,Array.toList_append,Array.toList_append];rfl
theorem Zao(c:Str):(Qc c).size=c.size+2:=by
 unfold Qc;rw[ByteArray.size_append,ByteArray.size_append];show 1+c.size+1=_;omega
theorem ZZ(c:Str)(w:World)(B:c.size<=4194304):Calls prog 79 #[.string c] w fun e w'=>e=.returned (.string (Qc c))/\w=w':=by
 have A:(⟨#[76]⟩++c:ByteArray).size<=4194305:=by rw[ByteArray.size_append];show 1+c.size<=_;omega
 go_enter func79,ntmps79;go_wp2
 go_ret;exact⟨rfl,rfl⟩
theorem qaQ{l:List qa}(D:∀c∈l,Qf c=0){x:Str}(E:(Qb (Za l) x).isSome=true):x.size<=20:=by
 obtain⟨c,A,rfl⟩:=QaS E;unfold Za at A;rcases List.mem_cons.1 A with rfl|A
 ·decide
 ·rcases List.mem_cons.1 A with rfl|A
  ·decide
  ·have h:=D c A;unfold Qf at h;split at h
   ·cases h
   ·rename_i C;rw[Bool.not_eq_true,Bool.or_eq_false_iff,Bool.not_eq_false']at C;have B:=C.1;unfold zD at B;split at B
    ·cases B
    ·rw[Bool.and_eq_true,Bool.and_eq_true]at B;exact Xm B.1.1
