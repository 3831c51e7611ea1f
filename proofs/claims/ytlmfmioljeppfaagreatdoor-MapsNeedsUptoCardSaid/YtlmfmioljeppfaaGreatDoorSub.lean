/- Lemmas; conditions: as each states. -/
import Derived.Test.YtlmfmioljeppfaaGreatDoorLayLaw
set_option maxHeartbeats 4000000
namespace Go.Proofs.YtlmfmioljeppfaaGreatDoor
open Go.RowKit Go.Shelf Go.Lib
set_option maxRecDepth 100000
theorem Qai(k:Str)(x:Ty)(w:World)(h:Zf x=lst k)(hs:k.size<=maxLen):Calls Tryz.prog 129 #[.string k] w fun e w'=>e=.returned (.string (str (qA x)))/\w=w':=by
 have G:=Xh (Zbs k w);have D:lst (k.extract (Qu k.data.toList) k.size)=Zf (Q3 x):=by
  have F:=Lib.extract_to_end k (Qu k.data.toList);rw[show k.data.toList=Zf x from h.symm,QaA,qbr]at F;rw[show k.data.toList=Zf x from h.symm,QaA];unfold lst;rw[<-F]
 have J:(k.extract (Qu k.data.toList) k.size).size<=k.size:=by rw[ByteArray.size_extract];omega
 generalize k.extract (Qu k.data.toList) k.size=r at *;have C:Hid (∀w,_):=fun w=>Qbi r w
 rw[show r.data.toList=Zf (Q3 x) from D,QcN]at C;clear h;rcases qaT x with⟨A,B⟩|⟨A,B⟩|⟨c,A,B⟩
 ·rw[A]at C;rw[B];clear D A B;go_enter Tryz.func129,Tryz.ntmps129;go_wp2_with (first
   |(go_fit G.out;rintro e H⟨rfl,rfl⟩)
   |(go_fit (C.out _);rintro e I⟨rfl,rfl⟩))
  go_ret;exact⟨rfl,rfl⟩
 ·rw[A]at C;rw[B];clear D A B;go_enter Tryz.func129,Tryz.ntmps129;go_wp2_with (first
   |(go_fit G.out;rintro e H⟨rfl,rfl⟩)
   |(go_fit (C.out _);rintro e I⟨rfl,rfl⟩))
  go_ret;exact⟨rfl,rfl⟩
 ·rw[A]at C D;rw[B];have L:r.size=c.size+2:=by
   have:=congrArg List.length D;simp[Zf,lst]at this;have O:r.size=r.data.size:=rfl;have M:c.size=c.data.size:=rfl;omega
  have hcut:r.extract 1 (c.size+2-1)=str (lst c):=by
   apply ByteArray.ext;apply Array.toList_inj.1;have F:(r.extract 1 (c.size+2-1)).data.toList=((lst r).drop 1).take (c.size+2-1-1):=by
    rw[ByteArray.data_extract,Array.toList_extract,List.extract_eq_take_drop]
   rw[F,D];show(lst c++[59]).take (c.size+2-1-1)=lst c
   have M:(lst c).length=c.size:=rfl;rw[List.take_append_of_le_length (by omega),List.take_of_length_le (by omega)]
  have E:=Xh hcut;have N:c.size+2<=9223372036854775807:=by unfold maxLen at hs;omega
  clear A B hs hcut;go_enter Tryz.func129,Tryz.ntmps129;go_wp2_with (first
   |(go_fit G.out;rintro e H⟨rfl,rfl⟩)
   |(go_fit (C.out _);rintro e I⟨rfl,rfl⟩))
  go_ret;exact⟨by rw[<-E.out];rfl,rfl⟩
set_option maxRecDepth 512
theorem zdP(x:Kd):(Lib.hasPrefix (Qo x) [76]||Lib.hasPrefix (Qo x) [91])=Zt x:=by
 cases x with
 |n=>rfl
 |t=>rfl
 |ty y=>cases y<;>rfl
theorem zN(k:Str)(x:Kd)(w:World)(h:Qo x=lst k):Calls Tryz.prog 151 #[.string k] w fun e w'=>e=.returned (.bool (Zt x))/\w=w':=by
 have A:=Xh (zz k ⟨#[76]⟩ w);have B:=Xh (zz k ⟨#[91]⟩ w);rw[show k.data.toList=Qo x from h.symm]at A B;have C:Hid ((Lib.hasPrefix (Qo x) [76]||Lib.hasPrefix (Qo x) [91])=Zt x):=zdP x;simp only at A B;generalize Lib.hasPrefix (Qo x) [76]=a at *;generalize Lib.hasPrefix (Qo x) [91]=b at *;clear h;cases a<;>cases b
 all_goals
  go_enter Tryz.func151,Tryz.ntmps151;go_wp2_with (first
   |(go_fit A.out;rintro e D⟨rfl,rfl⟩)
   |(go_fit B.out;rintro e E⟨rfl,rfl⟩))
  go_ret;exact⟨by rw[<-C.out];rfl,rfl⟩
def zbH:Str:=⟨#[76,79,98,106,101,99,116,59]⟩
theorem qaS(w:World):Calls Tryz.prog 142 #[.string ⟨#[79,98,106,101,99,116]⟩] w fun e w'=>e=.returned (.string zbH)/\w=w':=by
 go_enter Tryz.func142,Tryz.ntmps142;go_wp2
 go_ret;exact⟨rfl,rfl⟩
theorem qds:∀x:Ty,(qA x).length<=(Zf x).length
 |.i=>Nat.zero_le _
 |.j=>Nat.zero_le _
 |.cl c=>by simp[qA,Zf];omega
 |.ar x=>Xf (qds x) (by simp[Zf])
theorem ZP{k:Str}{x:Kd}(h:Qo x=lst k)(z:Kd):(k.toList==Qo z)=decide (x=z):=by
 rw[ByteArray.toList_eq,show k.data.toList=Qo x from h.symm,Bool.eq_iff_iff,beq_iff_eq,decide_eq_true_eq];exact⟨Zbh,fun h=>by rw[h]⟩
theorem zac{k m:Str}{x y:Kd}(h:Qo x=lst k)(g:Qo y=lst m):(k.toList==m.toList)=decide (x=y):=by
 have:=ZP h y;rwa [show Qo y=m.toList from by rw[g,ByteArray.toList_eq]]at this
set_option maxRecDepth 100000
theorem Qbn(X w:World)(B:Nat)(cs:List Qb)(N:Qp X w B cs)(O:(cs.map (·.name)).Nodup)(k:Str)(hs:k.size<=maxLen):
 Calls Tryz.prog 91 #[.map (some B),.string k] w fun e w'=>e=.returned (zE (zd cs k))/\Below w.heap.size w w':=by
 by_cases D:lst k=[78]\/lst k=[84]
 ·have C:zd cs k=0:=by unfold zd;rw[if_pos D]
  rw[C];have G:(k.toList==[78])=decide (lst k=[78]):=by rw[ByteArray.toList_eq,Bool.eq_iff_iff];simp
  have H:(k.toList==[84])=decide (lst k=[84]):=by rw[ByteArray.toList_eq,Bool.eq_iff_iff];simp
  clear N O C;rcases D with D|D
  ·rw[Xj D]at G;clear H D;go_enter Tryz.func91,Tryz.ntmps91;go_wp2
   go_ret;exact⟨rfl,Xb⟩
  ·rw[Xj D]at H;rw[Xi (by rw[D];decide)]at G;clear D;go_enter Tryz.func91,Tryz.ntmps91;go_wp2
   go_ret;exact⟨rfl,Xb⟩
 ·have G:(k.toList==[78])=false:=by rw[ByteArray.toList_eq];simpa using fun h=>D (Or.inl h)
  have H:(k.toList==[84])=false:=by rw[ByteArray.toList_eq];simpa using fun h=>D (Or.inr h)
  have F:=Xh (qau k w hs);rw[Zcm]at F;have E:Hid (zd cs k=if !Zs (lst k) then 1 else if (zak (lst k)).isEmpty then 0 else if (Qc cs (str (zak (lst k)))).isSome then 0 else 3):=by unfold Hid zd;rw[if_neg D]
  clear D;cases L:Zs (lst k) with
  |false =>
   rw[L]at F E;have C:zd cs k=1:=E.out;rw[C,show zE 1=.iface 29 (.int .i64 1) from rfl];replace F:Hid (Calls Tryz.prog 53 #[.string k] w fun e w'=>e=.returned (.iface 29 (.int .i64 1))/\Below w.heap.size w w'):=F;clear E C L N O hs;go_enter Tryz.func91,Tryz.ntmps91;go_wp2_with (go_fit F.out;rintro e T⟨rfl,A⟩)
   go_ret;exact⟨rfl,A⟩
  |true =>
   rw[L]at F E;replace F:Hid (Calls Tryz.prog 53 #[.string k] w fun e w'=>e=.returned .nilIface/\Below w.heap.size w w'):=F;obtain⟨x,S,U,_⟩:=Qav (lst k) L;rw[U]at E;replace E:Hid (zd cs k=if (qA x).isEmpty then 0 else if (Qc cs (str (qA x))).isSome then 0 else 3):=E;have P:Hid (∀wx,_):=fun wx=>Qai k x wx S hs
   have I:(str (qA x)).size<=maxLen:=by
    have:=qds x;rw[S]at this;exact Xf this hs
   have Y:(str (qA x)).toList.isEmpty=(qA x).isEmpty:=(by rw[ByteArray.toList_eq];rfl);obtain⟨c,f,g,i,j,l,_,_,_,M⟩:=N.look3 O (str (qA x)) I;have J:=Xh M;clear M N O hs S U L I;generalize (Qc cs (str (qA x))).isSome=Z at *;generalize (Qc cs (str (qA x))).getD zg=d at *;generalize str (qA x)=b at *;generalize (qA x).isEmpty=a at *;obtain⟨m,n,o,p,q,r⟩:=d;unfold Qz at J;dsimp only at J;cases a with
   |true =>
    have C:zd cs k=0:=E.out;rw[C,show zE 0=.nilIface from rfl];clear E C J;go_enter Tryz.func91,Tryz.ntmps91;go_wp2_with (first
     |(go_fit F.out;rintro e T⟨rfl,A⟩)
     |(go_fit (P.out _);rintro e V⟨rfl,rfl⟩))
    go_ret;exact⟨rfl,A⟩
   |false =>
    cases Z with
    |true =>
     have C:zd cs k=0:=E.out;rw[C,show zE 0=.nilIface from rfl];clear E C;go_enter Tryz.func91,Tryz.ntmps91;go_upto_region 8 with(first
      |(go_fit F.out;rintro e T⟨rfl,A⟩)
      |(go_fit (P.out _);rintro e V⟨rfl,rfl⟩))
     have R:=(J.out _ A).1;go_wp2_with fail;go_ret;exact⟨rfl,A.alloc A.size _⟩
    |false =>
     have C:zd cs k=3:=E.out;rw[C,show zE 3=.iface 29 (.int .i64 3) from rfl];clear E C;go_enter Tryz.func91,Tryz.ntmps91;go_upto_region 8 with(first
      |(go_fit F.out;rintro e T⟨rfl,A⟩)
      |(go_fit (P.out _);rintro e V⟨rfl,rfl⟩))
     have R:=(J.out _ A).1;go_wp2_with fail;go_ret;exact⟨rfl,A.alloc A.size _⟩
set_option maxRecDepth 512
def Zac:Ty->Bool
 |.cl _=>true
 |_=>false
theorem QJ{k:Str}{x:Ty}(h:Zf x=lst k):∃B:0<k.size,(((k[0]'B).toNat:Int)==76)=Zac x:=by
 have B:0<k.size:=by
  have C:(lst k).length=k.size:=rfl;rw[<-h]at C;have:=List.length_pos_iff.2 (qaA x);omega
 refine⟨B,?_⟩;have D:k[0]'B=(lst k)[0]'(by have C:(lst k).length=k.size:=rfl;omega):=rfl;have A:(lst k)[0]? = (Zf x)[0]?:=by rw[h]
 rw[D];have E:(lst k)[0]? = some ((lst k)[0]'(by have C:(lst k).length=k.size:=rfl;omega)):=Xn _;rw[E]at A;generalize (lst k)[0]'(by have C:(lst k).length=k.size:=rfl;omega)=b at *;cases x with
 |i=>simp[Zf]at A;subst A;rfl
 |j=>simp[Zf]at A;subst A;rfl
 |cl c=>simp[Zf]at A;subst A;rfl
 |ar y=>simp[Zf]at A;subst A;rfl
theorem Qcr{l:List Qb}(A:Zk l){x y:Kd}(B:qK (Za l) x=true)(h:y=.t\/x=y\/(x=.n/\Zt y=true)):Zx (Za l) x y=true:=by
 rcases h with rfl|rfl|⟨rfl,h⟩
 ·cases x<;>rfl
 ·exact zdB A x B
 ·cases y with
  |n=>rfl
  |t=>rfl
  |ty z=>exact h
theorem zcs{cs:List Qb}{x y:Kd}(C:y≠.t)(A:x≠y)(D:¬(x=.n/\Zt y=true))(h:Zt x=false\/Zt y=false):Zx cs x y=false:=by
 cases y with
 |t=>exact absurd rfl C
 |n=>cases x with
  |n=>exact absurd rfl A
  |t=>rfl
  |ty _=>rfl
 |ty z=>cases x with
  |n =>
   cases B:zm z with
   |true=>exact absurd ⟨rfl,B⟩ D
   |false=>exact B
  |t=>rfl
  |ty u =>
   show ZV cs u z=false
   rw[Za1 h];exact Xi fun E=>A (by rw[E])
set_option maxRecDepth 100000
theorem Qce(f w:World)(B:Nat)(l:List Qb)(M:zy f w B l)(a b:Str)(x y:Kd)(H:Qo x=lst a)(I:Qo y=lst b)(N:qK (Za l) x=true)(h:(y=.t\/x=y\/(x=.n/\Zt y=true))\/(Zt x=false\/Zt y=false)):
 Calls Tryz.prog 185 #[.map (some B),.string a,.string b] w fun e w'=>e=.returned (.bool (Zx (Za l) x y))/\w=w':=by
 have O:=ZP I .t;have V:=zac H I;have P:=ZP H .n;have g:Hid (∀wx,_):=fun wx=>zN a x wx H
 have X:Hid (∀wx,_):=fun wx=>zN b y wx I
 simp only[Qo]at O P;by_cases C:y=.t\/x=y\/(x=.n/\Zt y=true)
 ·rw[Qcr M.right N C];obtain⟨Y,F⟩:∃e,decide (y=Kd.t)=e:=⟨_,rfl⟩;obtain⟨Z,G⟩:∃e,decide (x=y)=e:=⟨_,rfl⟩;obtain⟨J,A⟩:∃e,decide (x=Kd.n)=e:=⟨_,rfl⟩;have D:(Y||Z||(J&&Zt y))=true:=by
   rw[<-F,<-G,<-A];rcases C with C|C|⟨C,L⟩<;>simp[*]
  rw[F]at O;rw[G]at V;rw[A]at P;clear F G A C h M H I N;generalize Zt x=d at *;generalize Zt y=U at *;cases Y<;>cases Z<;>cases J<;>cases U<;>first|(exact absurd D (by decide))|skip
  all_goals
   clear D;go_enter Tryz.func185,Tryz.ntmps185;go_wp2_with (go_fit (X.out _);rintro e c⟨rfl,rfl⟩)
   go_ret;exact⟨rfl,rfl⟩
 ·have L:y≠.t:=fun h=>C (Or.inl h)
  have R:x≠y:=fun h=>C (Or.inr (Or.inl h))
  have S:¬(x=.n/\Zt y=true):=fun h=>C (Or.inr (Or.inr h))
  have T:Zt x=false\/Zt y=false:=by
   rcases h with h|h
   ·exact absurd h C
   ·exact h
  rw[zcs L R S T];rw[Xi L]at O;rw[Xi R]at V;obtain⟨J,A⟩:∃e,decide (x=Kd.n)=e:=⟨_,rfl⟩;have D:(J&&Zt y)=false:=by
   rw[<-A];cases i:Zt y with
   |false=>simp
   |true=>simp;exact fun h=>S ⟨h,i⟩
  have E:(Zt x&&Zt y)=false:=by
   rcases T with h|h<;>simp[h]
  rw[A]at P;clear A C h M H I N L R S T;generalize Zt x=d at *;generalize Zt y=U at *;cases J<;>cases d<;>cases U<;>first|(exact absurd D (by decide))|(exact absurd E (by decide))|skip
  all_goals
   clear D E;go_enter Tryz.func185,Tryz.ntmps185;go_wp2_with (first
    |(go_fit (g.out _);rintro e c⟨rfl,rfl⟩)
    |(go_fit (X.out _);rintro e c⟨rfl,rfl⟩))
   go_ret;exact⟨rfl,rfl⟩
set_option maxRecDepth 512
theorem zaa{k:Str}{x:Ty}(h:Zf (.ar x)=lst k):Zf x=lst (k.extract 1 k.size)/\(k.extract 1 k.size).size<=k.size/\1<=k.size:=by
 have A:lst (k.extract 1 k.size)=(lst k).drop 1:=by
  unfold lst;exact(Lib.extract_to_end k 1).symm▸rfl
 refine⟨by rw[A,<-h];rfl,by rw[ByteArray.size_extract];omega,?_⟩;have B:(lst k).length=k.size:=rfl;rw[<-B,<-h];simp[Zf]
theorem ZaS(c:Str):str (lst c)=c:=rfl
set_option maxRecDepth 100000
theorem Zel(k:World)(B:Nat)(l:List Qb):∀(x:Ty) (w:World) (a b:Str) (y:Ty),zy k w B l->Zf x=lst a->Zf y=lst b->qH (Za l) x=true->a.size<=maxLen->b.size<=maxLen ->
 Calls Tryz.prog 185 #[.map (some B),.string a,.string b] w fun e w'=>e=.returned (.bool (ZV (Za l) x y))/\Below w.heap.size w w':=by
 have E:∀(x:Ty) (w:World) (a b:Str) (y:Ty),zy k w B l->Zf x=lst a->Zf y=lst b->qH (Za l) x=true->(x=y\/zm x=false\/zm y=false) ->
  Calls Tryz.prog 185 #[.map (some B),.string a,.string b] w fun e w'=>e=.returned (.bool (ZV (Za l) x y))/\Below w.heap.size w w':=fun x w a b y F D A I h =>
  (Qce k w B l F a b (.ty x) (.ty y) D A I (by
   rcases h with h|h
   ·exact Or.inl (Or.inr (Or.inl (by rw[h])))
   ·exact Or.inr h)).mono fun e w' ⟨h1,h2⟩=>⟨h1,h2▸Xb⟩
 intro x;induction x with
 |i=>intro w a b y F D A I _ _;exact E _ w a b y F D A I (Or.inr (Or.inl rfl))
 |j=>intro w a b y F D A I _ _;exact E _ w a b y F D A I (Or.inr (Or.inl rfl))
 |cl c =>
  intro w a b y F D A I J H;by_cases C:Ty.cl c=y\/zm y=false
  ·exact E _ w a b y F D A I (by rcases C with C|C;exact Or.inl C;exact Or.inr (Or.inr C))
  ·have G:Ty.cl c≠y:=fun h=>C (Or.inl h)
   have T:=ZP (x:=.ty y) A .t;have m:=zac (x:=.ty (.cl c)) (y:=.ty y) D A;have U:=ZP (x:=.ty (.cl c)) D .n;simp only[Qo]at T U;rw[Xi (by intro h;cases h)]at T U;rw[Xi (by intro h;injection h with h;exact G h)]at m;have O:Hid (∀wx,_):=fun wx=>zN a (.ty (.cl c)) wx D
   have N:Hid (∀wx,_):=fun wx=>zN b (.ty y) wx A
   have P:Hid (∀wx,_):=fun wx=>Qai a (.cl c) wx D J
   have R:Hid (∀wx,_):=fun wx=>Qai b y wx A H
   obtain⟨q,s⟩:=QJ D;obtain⟨aA,fb⟩:=QJ A;have V:=Xh (qbB k w B (Za l) F.map F.right.nodup F.faces F.right.small F.right.closed c I);have M:Hid (∀d v wx,Qh wx v (zF (Qk (Za l) c))->_):=fun d v wx h=>zan (zF (Qk (Za l) c)) v d wx h
   simp only[Zt,zm,qA,ZaS,Zac]at O P s;clear F D I J G;cases y with
   |i=>exact absurd (Or.inr rfl) C
   |j=>exact absurd (Or.inr rfl) C
   |cl d =>
    simp only[Zt,zm,qA,ZaS,Zac]at N R fb;have X:=Xh (M.out d);rw[qaM]at X;show Calls _ _ _ _ fun e w'=>e=.returned (.bool (QK (Qk (Za l) c) d))/\Below w.heap.size w w'
    generalize QK (Qk (Za l) c) d=r at *;clear C M A H;go_enter Tryz.func185,Tryz.ntmps185;go_wp2_with (first
     |(go_fit (O.out _);rintro e L⟨rfl,rfl⟩)
     |(go_fit (N.out _);rintro e L⟨rfl,rfl⟩)
     |(go_fit (P.out _);rintro e L⟨rfl,rfl⟩)
     |(go_fit (R.out _);rintro e L⟨rfl,rfl⟩)
     |(go_fit V.out;rintro e w4⟨⟨v,rfl,hv⟩,S⟩)
     |(go_fit (X.out _ _ hv);rintro e w5⟨rfl,rfl⟩))
    go_ret;exact⟨rfl,S⟩
   |ar z =>
    simp only[Zt,zm,Zac]at N fb;clear C M P R V A H;go_enter Tryz.func185,Tryz.ntmps185;go_wp2_with (first
     |(go_fit (O.out _);rintro e L⟨rfl,rfl⟩)
     |(go_fit (N.out _);rintro e L⟨rfl,rfl⟩))
    go_ret;exact⟨rfl,Xb⟩
 |ar u ih =>
  intro w a b y F D A I J H;by_cases C:Ty.ar u=y\/zm y=false
  ·exact E _ w a b y F D A I (by rcases C with C|C;exact Or.inl C;exact Or.inr (Or.inr C))
  ·have G:Ty.ar u≠y:=fun h=>C (Or.inl h)
   have T:=ZP (x:=.ty y) A .t;have m:=zac (x:=.ty (.ar u)) (y:=.ty y) D A;have U:=ZP (x:=.ty (.ar u)) D .n;simp only[Qo]at T U;rw[Xi (by intro h;cases h)]at T U;rw[Xi (by intro h;injection h with h;exact G h)]at m;have O:Hid (∀wx,_):=fun wx=>zN a (.ty (.ar u)) wx D
   have N:Hid (∀wx,_):=fun wx=>zN b (.ty y) wx A
   obtain⟨q,s⟩:=QJ D;obtain⟨aA,fb⟩:=QJ A;simp only[Zt,zm,Zac]at O s;cases y with
   |i=>exact absurd (Or.inr rfl) C
   |j=>exact absurd (Or.inr rfl) C
   |cl d =>
    have hO:=ZP (x:=.ty (.cl d)) A (.ty (.cl qg));rw[show Qo (.ty (.cl qg))=zbH.toList by rw[ByteArray.toList_eq];rfl]at hO;have o:Hid (∀wx,_):=fun wx=>qaS wx
    simp only[Zt,zm,Zac]at N fb;show Calls _ _ _ _ fun e w'=>e=.returned (.bool (decide (d=qg)))/\Below w.heap.size w w'
    rw[show decide (Kd.ty (.cl d)=.ty (.cl qg))=decide (d=qg) by rw[Bool.eq_iff_iff];simp]at hO;generalize decide (d=qg)=r at *;clear C F D A I J H G ih;go_enter Tryz.func185,Tryz.ntmps185;go_wp2_with (first
     |(go_fit (O.out _);rintro e L⟨rfl,rfl⟩)
     |(go_fit (N.out _);rintro e L⟨rfl,rfl⟩)
     |(go_fit (o.out _);rintro e L⟨rfl,rfl⟩))
    go_ret;exact⟨rfl,Xb⟩
   |ar v =>
    simp only[Zt,zm,Zac]at N fb;obtain⟨ta,f,hsz1⟩:=zaa D;obtain⟨tb,g,hsz2⟩:=zaa A;have Y:Hid (∀wx,_):=fun wx=>zN (a.extract 1 a.size) (.ty u) wx ta
    have Z:Hid (∀wx,_):=fun wx=>zN (b.extract 1 b.size) (.ty v) wx tb
    have HI:Hid (∀wx,Below w.heap.size w wx->_):=fun wx A=>ih wx (a.extract 1 a.size) (b.extract 1 b.size) v (F.step A) ta tb I (Xf f J) (Xf g H)
    have hw:Hid (zm u=false\/zm v=false->ZV (Za l) u v=false):=fun h=>by
     rw[Za1 h];exact Xi fun C=>G (by rw[C])
    simp only[Zt]at Y Z;show Calls _ _ _ _ fun e w'=>e=.returned (.bool (ZV (Za l) u v))/\Below w.heap.size w w'
    clear C F D A I J H G ih ta f tb g;generalize zm u=ru at *;generalize zm v=rv at *;generalize ZV (Za l) u v=r at *;generalize hxa:a.extract 1 a.size=a1 at *;generalize hxb:b.extract 1 b.size=b1 at *;have p:Hid ((ru&&rv)=false->r=false):=fun h=>hw.out (by cases ru<;>cases rv<;>simp at *)
    clear hw;cases ru<;>cases rv
    all_goals
     go_enter Tryz.func185,Tryz.ntmps185;go_upto_region 9 with(first
      |(go_fit (O.out _);rintro e L⟨rfl,rfl⟩)
      |(go_fit (N.out _);rintro e L⟨rfl,rfl⟩))
     go_quiet (fail);go_wp2_with (first
      |(go_fit (Y.out _);rintro e L⟨rfl,rfl⟩)
      |(go_fit (Z.out _);rintro e L⟨rfl,rfl⟩)
      |(go_fit (HI.out _ (below_drewN Xb _));rintro e w4⟨rfl,S⟩))
     go_ret;first
      |exact⟨rfl,Qa (below_drewN Xb _) Xl S⟩
      |exact⟨by rw[p.out rfl];rfl,below_drewN Xb _⟩
set_option maxRecDepth 512
theorem qcJ(D w:World)(B:Nat)(l:List Qb)(G:zy D w B l)(a b:Str)(x y:Kd)(C:qaX (Za l) a x)(H:qaX (Za l) b y)(E:a.size<=maxLen)(F:b.size<=maxLen):
 Calls Tryz.prog 185 #[.map (some B),.string a,.string b] w fun e w'=>e=.returned (.bool (Zx (Za l) x y))/\Below w.heap.size w w':=by
 have A:(y=.t\/x=y\/(x=.n/\Zt y=true))\/(Zt x=false\/Zt y=false)->Calls Tryz.prog 185 #[.map (some B),.string a,.string b] w fun e w'=>e=.returned (.bool (Zx (Za l) x y))/\Below w.heap.size w w':=fun h =>
  (Qce D w B l G a b x y C.1 H.1 C.2 h).mono fun e w' ⟨I,J⟩=>⟨I,J▸Xb⟩
 cases x with
 |n=>exact A (Or.inr (Or.inl rfl))
 |t=>exact A (Or.inr (Or.inl rfl))
 |ty u =>
  cases y with
  |n=>exact A (Or.inr (Or.inr rfl))
  |t=>exact A (Or.inl (Or.inl rfl))
  |ty v=>exact Zel D B l u w a b v G C.1 H.1 C.2 E F
def Zd(c:Str):Str:=(⟨#[76]⟩++c)++⟨#[59]⟩
theorem zbh(c:Str):lst (Zd c)=Zf (.cl c):=by
 unfold Zd lst;rw[ByteArray.data_append,ByteArray.data_append,Array.toList_append,Array.toList_append];rfl
theorem Zam(c:Str):(Zd c).size=c.size+2:=by
 unfold Zd;rw[ByteArray.size_append,ByteArray.size_append];show 1+c.size+1=_;omega
theorem QX(c:Str)(w:World)(hs:c.size<=4194304):Calls Tryz.prog 142 #[.string c] w fun e w'=>e=.returned (.string (Zd c))/\w=w':=by
 have A:(⟨#[76]⟩++c:ByteArray).size<=4194305:=by rw[ByteArray.size_append];show 1+c.size<=_;omega
 go_enter Tryz.func142,Tryz.ntmps142;go_wp2
 go_ret;exact⟨rfl,rfl⟩
theorem Qbq{l:List Qb}(D:∀c∈l,qd c=0){x:Str}(E:(Qc (Za l) x).isSome=true):x.size<=20:=by
 obtain⟨c,A,rfl⟩:=Zas E;unfold Za at A;rcases List.mem_cons.1 A with rfl|A
 ·decide
 ·rcases List.mem_cons.1 A with rfl|A
  ·decide
  ·have h:=D c A;unfold qd at h;split at h
   ·cases h
   ·rename_i C;rw[Bool.not_eq_true,Bool.or_eq_false_iff,Bool.not_eq_false']at C;have B:=C.1;unfold qt at B;split at B
    ·cases B
    ·rw[Bool.and_eq_true,Bool.and_eq_true]at B;exact Xm B.1.1
end Go.Proofs.YtlmfmioljeppfaaGreatDoor
