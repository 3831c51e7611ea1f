/- Lemmas; conditions: as each states. -/
import Derived.Test.YtlmfmioljeppfaaGreatDoorRefNames
set_option maxHeartbeats 4000000
namespace Go.Proofs.YtlmfmioljeppfaaGreatDoor
open Go.RowKit Go.Shelf Go.Lib
def ZbO:Ty->Bool
 |.ar _=>true
 |_=>false
theorem Zak{k:Str}{x:Ty}(h:Zf x=lst k)(B:0<k.size):(((k[0]'B).toNat:Int)==91)=ZbO x:=by
 have D:k[0]'B=(lst k)[0]'(by have C:(lst k).length=k.size:=rfl;omega):=rfl;have A:(lst k)[0]? = (Zf x)[0]?:=by rw[h]
 rw[D];have E:(lst k)[0]? = some ((lst k)[0]'(by have C:(lst k).length=k.size:=rfl;omega)):=Xn _;rw[E]at A;generalize (lst k)[0]'(by have C:(lst k).length=k.size:=rfl;omega)=b at *;cases x with
 |i=>simp[Zf]at A;subst A;rfl
 |j=>simp[Zf]at A;subst A;rfl
 |cl c=>simp[Zf]at A;subst A;rfl
 |ar y=>simp[Zf]at A;subst A;rfl
theorem zet{k:Str}{x:Ty}{c:Str}(h:Zf x=lst k)(A:Q3 x=.cl c):k.size=zq x+c.size+2/\k.extract (zq x+1) (k.size-1)=c:=by
 have C:(lst k).length=k.size:=rfl;have D:=ZaG x;have E:(Zf (.cl c)).length=c.size+2:=by
  have B:(lst c).length=c.size:=rfl;simp[Zf,B]
 rw[A,E,h,C]at D;refine⟨by omega,?_⟩;apply ByteArray.ext;apply Array.toList_inj.1;have F:(k.extract (zq x+1) (k.size-1)).data.toList=((lst k).drop (zq x+1)).take (k.size-1-(zq x+1)):=by
  rw[ByteArray.data_extract,Array.toList_extract,List.extract_eq_take_drop]
 have G:(lst k).drop (zq x+1)=lst c++[59]:=by
  rw[<-h,<-List.drop_drop,qbr,A];rfl
 have B:(lst c).length=c.size:=rfl;rw[F,G,List.take_append_of_le_length (by omega),List.take_of_length_le (by omega)]
theorem qeu{k:Str}{x:Ty}(h:Zf x=lst k)(C:zq x<k.size):(((k[zq x]'C).toNat:Int)==76)=Zac (Q3 x):=by
 have E:k[zq x]'C=(lst k)[zq x]'(by have D:(lst k).length=k.size:=rfl;omega):=rfl;have A:(lst k)[zq x]? = (Zf (Q3 x))[0]?:=by
  rw[<-h,<-qbr,List.getElem?_drop,Nat.add_zero]
 rw[E];have F:(lst k)[zq x]? = some ((lst k)[zq x]'(by have D:(lst k).length=k.size:=rfl;omega)):=Xn _;rw[F]at A;generalize (lst k)[zq x]'(by have D:(lst k).length=k.size:=rfl;omega)=b at *;rcases qaT x with⟨B,_⟩|⟨B,_⟩|⟨c,B,_⟩<;>rw[B]at A ⊢<;>simp[Zf]at A<;>subst A<;>rfl
set_option maxRecDepth 100000
theorem zag(k:Str)(x:Ty)(w:World)(h:Zf x=lst k)(hs:k.size<=maxLen):Calls Tryz.prog 75 #[.string k] w fun e w'=>e=.returned (.string (str (qA x)))/\w=w':=by
 obtain⟨Y,Z,M,N⟩:=QbG k 0 (Nat.zero_le _);rw[List.drop_zero,Nat.zero_add]at *;have O:Qu k.data.toList=zq x:=by rw[show k.data.toList=Zf x from h.symm,QaA]
 rw[O]at M N;have B:zq x<k.size:=by
  have S:(lst k).length=k.size:=rfl;rw[<-S,<-h,ZaG];have:=List.length_pos_iff.2 (qaA (Q3 x));omega
 have D:=qeu h B;have hcut:∀c,Q3 x=.cl c->k.size=zq x+c.size+2/\k.extract (zq x+1) (k.size-1)=c:=fun c J=>zet h J
 have E:=qaT x;generalize zq x=n at *;generalize Q3 x=y at *;generalize qA x=d at *;unfold maxLen at hs;have T:=Xh M;have U:=Xh N;have V:=Xh hcut;have F:=Xh D;have G:=Xh E;clear Y Z M N hcut D E h O;go_enter Tryz.func75,Tryz.ntmps75;go_wp2_with fail;go_loop [3] (fun x=>∃j:Nat,j<=n/\x=.int .i64 j) (fun x=>n-(intOf x).toNat)
 case atStart=>exact⟨0,by omega,rfl⟩
 case round =>
  obtain⟨j,a,rfl⟩:=hrel;by_cases H:j<n
  ·have I:j<k.size:=(by omega);have J:(((k[j]).toNat:Int)==91)=true:=qa9 (c:=91) (T.out j I (Nat.zero_le _) H) rfl;go_wp2_with fail;go_round
   case rel=>exact⟨j+1,by omega,by go_num⟩
   case measure=>simp[intOf];omega
  ·have L:j=n:=(by omega);subst L;have J:(((k[j]).toNat:Int)==91)=false:=Zap (c:=91) (U.out B) rfl;rcases G.out with⟨A,rfl⟩|⟨A,rfl⟩|⟨c,A,rfl⟩
   ·have C:=F.out;rw[A]at C;simp only[Zac]at C;clear A;go_wp2_with fail;go_ret;exact⟨rfl,rfl⟩
   ·have C:=F.out;rw[A]at C;simp only[Zac]at C;clear A;go_wp2_with fail;go_ret;exact⟨rfl,rfl⟩
   ·have C:=F.out;rw[A]at C;simp only[Zac]at C;obtain⟨b,R⟩:=V.out c A;have P:k.extract (j+1) (j+c.size+1)=c:=(by rw[show j+c.size+1=k.size-1 by omega];exact R);have X:=Xh P;clear A R P;go_wp2_with fail;go_ret;exact⟨congrArg (fun z=>Ending.returned (.string z)) X.out,rfl⟩
set_option maxRecDepth 512
theorem Zei{x:Kd}(h:∀y,x=.ty y->Zs (Zf y)=true):zdg (Qo x)=Zt x:=by
 cases x with
 |n=>rfl
 |t=>rfl
 |ty y =>
  show zdg (Zf y)=zm y
  unfold zdg;rw[h y rfl,QcN,Bool.true_and,Bool.not_not]
theorem qE(k:Str)(x:Kd)(w:World)(h:Qo x=lst k)(A:∀y,x=.ty y->Zs (Zf y)=true)(hs:k.size<=maxLen):
 Calls Tryz.prog 78 #[.string k] w fun e w'=>e=.returned (.bool (Zt x))/\w=w':=by
 rw[<-Zei A,h];exact Qbt k w hs
set_option maxRecDepth 100000
theorem qV(l:List Qb)(L:Value)(k:Str)(w:World)(E:qj w L l)(hs:k.size<=maxLen):
 Calls Tryz.prog 40 #[L,.string k] w fun e w'=>e=.returned (.int .i64 (zd (Za l) k))/\Below w.heap.size w w':=by
 have B:Hid (∀n,_):=fun n=>QA l L n w E
 unfold zJ at B;obtain⟨V,cap,rfl,_⟩:=E.open;clear E;by_cases A:lst k=[78]\/lst k=[84]
 ·have D:zd (Za l) k=0:=by unfold zd;rw[if_pos A]
  rw[D];have F:(k.toList==[78])=decide (lst k=[78]):=by rw[ByteArray.toList_eq,Bool.eq_iff_iff];simp
  have G:(k.toList==[84])=decide (lst k=[84]):=by rw[ByteArray.toList_eq,Bool.eq_iff_iff];simp
  clear B D;rcases A with A|A
  ·rw[Xj A]at F;clear G A;go_enter Tryz.func40,Tryz.ntmps40;go_wp2
   go_ret;exact⟨rfl,Xb⟩
  ·rw[Xj A]at G;rw[Xi (by rw[A];decide)]at F;clear A;go_enter Tryz.func40,Tryz.ntmps40;go_wp2
   go_ret;exact⟨rfl,Xb⟩
 ·have F:(k.toList==[78])=false:=by rw[ByteArray.toList_eq];simpa using fun h=>A (Or.inl h)
  have G:(k.toList==[84])=false:=by rw[ByteArray.toList_eq];simpa using fun h=>A (Or.inr h)
  have H:Hid (∀wx,_):=fun wx=>QL k wx hs
  rw[show k.data.toList=lst k from rfl]at H;have C:Hid (zd (Za l) k=if !Zs (lst k) then 1 else if (zak (lst k)).isEmpty then 0 else if (Qc (Za l) (str (zak (lst k)))).isSome then 0 else 3):=by unfold Hid zd;rw[if_neg A]
  clear A;cases I:Zs (lst k) with
  |false =>
   rw[I]at H C;have D:zd (Za l) k=1:=C.out;rw[D];clear C D I hs B;go_enter Tryz.func40,Tryz.ntmps40;go_wp2_with (go_fit (H.out _);rintro e S⟨rfl,rfl⟩)
   go_ret;exact⟨rfl,Xb⟩
  |true =>
   rw[I]at H C;obtain⟨x,N,O,_⟩:=Qav (lst k) I;rw[O]at C;replace C:Hid (zd (Za l) k=if (qA x).isEmpty then 0 else if (Qc (Za l) (str (qA x))).isSome then 0 else 3):=C;have P:Hid (∀wx,_):=fun wx=>zag k x wx N hs
   have R:((str (qA x)).toList==[])=(qA x).isEmpty:=(by rw[ByteArray.toList_eq];show(qA x==[])=_;cases qA x<;>rfl);have M:=Xh (B.out (str (qA x)));clear hs N O I B;generalize (Qc (Za l) (str (qA x))).isSome=T at *;generalize (Qc (Za l) (str (qA x))).getD zg=d at *;generalize str (qA x)=b at *;generalize (qA x).isEmpty=U at *;generalize zd (Za l) k=r at *;obtain⟨X,Y,Z,a,c,f⟩:=d;dsimp only at M;cases U<;>cases T
   all_goals
    have D:=C.out;simp only[if_true,if_false,Bool.false_eq_true]at D;subst D;clear C;go_enter Tryz.func40,Tryz.ntmps40;go_wp2_with (first
     |(go_fit (H.out _);rintro e S⟨rfl,rfl⟩)
     |(go_fit (P.out _);rintro e g⟨rfl,rfl⟩)
     |(go_fit M.out;rintro e i⟨j,m,o,p,q,s,rfl,_,_,_,J,_⟩))
    go_ret;exact⟨rfl,J.alloc J.size _⟩
set_option maxRecDepth 512
theorem Zdg{l:List Qb}(A:∀c∈l,qd c=0){x:Ty}(h:qH (Za l) x=true)(B:zq x<=3):Zs (Zf x)=true:=qaE (Qa8 A x h) B
theorem qP{l:List Qb}(A:∀c∈l,qd c=0){x:Kd}(h:qK (Za l) x=true)(B:qah x<=3):∀y,x=.ty y->Zs (Zf y)=true:=by
 rintro y rfl;exact Zdg A h B
theorem qaU{y:Ty}(h:zao y=true)(A:zq y<=3):∀z,Kd.ty y=.ty z->Zs (Zf z)=true:=by
 rintro z⟨⟩;exact qaE h A
set_option maxRecDepth 100000
theorem zbe(w:World)(l:List Qb)(f:Value)(T:Zk l)(E:∀c∈l,qd c=0)(F:qj w f l)(a b:Str)(x y:Kd)(N:Qo x=lst a)(O:Qo y=lst b)(R:qK (Za l) x=true)(G:qah x<=3)(H:∀z,y=.ty z->Zs (Zf z)=true)(I:a.size<=maxLen)(J:b.size<=maxLen)(h:(y=.t\/x=y\/(x=.n/\Zt y=true))\/(Zt x=false\/Zt y=false)):
 Calls Tryz.prog 49 #[f,.string a,.string b] w fun e w'=>e=.returned (.bool (Zx (Za l) x y))/\w=w':=by
 have U:=ZP O .t;have g:=zac N O;have V:=ZP N .n;have p:Hid (∀wx,_):=fun wx=>qE a x wx N (qP E R G) I
 have i:Hid (∀wx,_):=fun wx=>qE b y wx O H J
 obtain⟨r,cap,rfl,_⟩:=F.open;simp only[Qo]at U V;by_cases B:y=.t\/x=y\/(x=.n/\Zt y=true)
 ·rw[Qcr T R B];obtain⟨j,L⟩:∃e,decide (y=Kd.t)=e:=⟨_,rfl⟩;obtain⟨k,M⟩:∃e,decide (x=y)=e:=⟨_,rfl⟩;obtain⟨P,A⟩:∃e,decide (x=Kd.n)=e:=⟨_,rfl⟩;have C:(j||k||(P&&Zt y))=true:=by
   rw[<-L,<-M,<-A];rcases B with B|B|⟨B,S⟩<;>simp[*]
  rw[L]at U;rw[M]at g;rw[A]at V;clear L M A B h N O R H T E F G I J;generalize Zt x=o at *;generalize Zt y=d at *;cases j<;>cases k<;>cases P<;>cases d<;>first|(exact absurd C (by decide))|skip
  all_goals
   clear C;go_enter Tryz.func49,Tryz.ntmps49;go_wp2_with (go_fit (i.out _);rintro e m⟨rfl,rfl⟩)
   go_ret;exact⟨rfl,rfl⟩
 ·have S:y≠.t:=fun h=>B (Or.inl h)
  have X:x≠y:=fun h=>B (Or.inr (Or.inl h))
  have Y:¬(x=.n/\Zt y=true):=fun h=>B (Or.inr (Or.inr h))
  have Z:Zt x=false\/Zt y=false:=by
   rcases h with h|h
   ·exact absurd h B
   ·exact h
  rw[zcs S X Y Z];rw[Xi S]at U;rw[Xi X]at g;obtain⟨P,A⟩:∃e,decide (x=Kd.n)=e:=⟨_,rfl⟩;have C:(P&&Zt y)=false:=by
   rw[<-A];cases q:Zt y with
   |false=>simp
   |true=>simp;exact fun h=>Y ⟨h,q⟩
  have D:(Zt x&&Zt y)=false:=by
   rcases Z with h|h<;>simp[h]
  rw[A]at V;clear A B h N O R H T E F G I J S X Y Z;generalize Zt x=o at *;generalize Zt y=d at *;cases P<;>cases o<;>cases d<;>first|(exact absurd C (by decide))|(exact absurd D (by decide))|skip
  all_goals
   clear C D;go_enter Tryz.func49,Tryz.ntmps49;go_wp2_with (first
    |(go_fit (p.out _);rintro e m⟨rfl,rfl⟩)
    |(go_fit (i.out _);rintro e m⟨rfl,rfl⟩))
   go_ret;exact⟨rfl,rfl⟩
theorem zcW(w:World)(V:Option Addr)(n cap:Nat)(a b I J:Str)(E F r:Bool)(L:∀wx,Calls Tryz.prog 78 #[.string a] wx fun e w'=>e=.returned (.bool true)/\wx=w')(M:∀wx,Calls Tryz.prog 78 #[.string b] wx fun e w'=>e=.returned (.bool true)/\wx=w')(C:∀wx,Calls Tryz.prog 78 #[.string I] wx fun e w'=>e=.returned (.bool E)/\wx=w')(D:∀wx,Calls Tryz.prog 78 #[.string J] wx fun e w'=>e=.returned (.bool F)/\wx=w')(N:∀wx,Below w.heap.size w wx->Calls Tryz.prog 49 #[.slice V n cap,.string I,.string J] wx fun e w'=>e=.returned (.bool r)/\Below wx.heap.size wx w')(A:(E&&F)=false->r=false)(O:0<a.size)(P:0<b.size)(Z:(((a[0]'O).toNat:Int)==91)=true)(c:(((b[0]'P).toNat:Int)==91)=true)(X:a.extract 1 a.size=I)(Y:b.extract 1 b.size=J)(R:a.size<=maxLen)(S:b.size<=maxLen)(d:(b.toList==[84])=false)(f:(a.toList==b.toList)=false)(g:(a.toList==[78])=false)(i:(b.toList==[76,79,98,106,101,99,116,59])=false):
 Calls Tryz.prog 49 #[.slice V n cap,.string a,.string b] w fun e w'=>e=.returned (.bool r)/\Below w.heap.size w w':=by
 replace L:=Xh L;replace M:=Xh M;have G:Hid (∀wx,Calls Tryz.prog 78 #[.string I] wx fun e w'=>e=.returned (.bool E)/\w'=wx):=fun wx=>(C wx).mono fun e w' h=>⟨h.1,h.2.symm⟩
 have H:Hid (∀wx,Calls Tryz.prog 78 #[.string J] wx fun e w'=>e=.returned (.bool F)/\w'=wx):=fun wx=>(D wx).mono fun e w' h=>⟨h.1,h.2.symm⟩
 replace C:=Xh C;replace D:=Xh D;replace N:=Xh N;replace A:=Xh A;unfold maxLen at R S;have j:(0:Int)<(a.size:Int):=by omega
 have k:(0:Int)<(b.size:Int):=by omega
 have l:(1:Int)<=(a.size:Int):=by omega
 have m:(1:Int)<=(b.size:Int):=by omega
 have o:(a.size:Int)<=9223372036854775807:=by omega
 by_cases B:(E&&F)=true
 ·rw[Bool.and_eq_true]at B;obtain⟨rfl,rfl⟩:=B;clear A;go_enter Tryz.func49,Tryz.ntmps49;go_upto_region 10 with(first
   |(go_fit (L.out _);rintro e T⟨rfl,rfl⟩)
   |(go_fit (M.out _);rintro e T⟨rfl,rfl⟩))
  refine wp_region_still_tail 14 (by kernel_rfl) (by kernel_rfl) ?_;simp only[List.take_succ_cons,List.take_zero,List.drop_succ_cons,List.drop_zero];repeat still_step
  still_call (G.out _)
  repeat still_step
  still_call (H.out _)
  repeat still_step
  refine wpStill_nil ?_;change wpList _ _ _ _ _ w.drew;go_wp2_with (go_fit (N.out _ Xb.drew);rintro e p⟨rfl,U⟩)
  go_ret;exact⟨rfl,Qa Xb.drew Xl U⟩
 ·rw[Bool.not_eq_true]at B;rw[A.out B];clear A N;cases E<;>cases F<;>first|(exact absurd B (by decide))|skip
  all_goals
   go_enter Tryz.func49,Tryz.ntmps49;go_upto_region 10 with(first
    |(go_fit (L.out _);rintro e T⟨rfl,rfl⟩)
    |(go_fit (M.out _);rintro e T⟨rfl,rfl⟩))
   go_quiet (first
    |(go_at_call 78;with_reducible exact Calls.quiet_of_same (G.out _))
    |(go_at_call 78;with_reducible exact Calls.quiet_of_same (H.out _)))
   go_wp2
   go_ret;exact⟨rfl,below_drewN Xb _⟩
theorem qdg(l:List Qb)(k:Value)(m:Zk l)(I:∀c∈l,qd c=0):∀(x:Ty) (w:World) (a b:Str) (y:Ty),qj w k l->Zf x=lst a->Zf y=lst b->qH (Za l) x=true->zao y=true->zq x<=3->zq y<=3->a.size<=maxLen->b.size<=maxLen ->
 Calls Tryz.prog 49 #[k,.string a,.string b] w fun e w'=>e=.returned (.bool (ZV (Za l) x y))/\Below w.heap.size w w':=by
 have F:∀(x:Ty) (w:World) (a b:Str) (y:Ty),qj w k l->Zf x=lst a->Zf y=lst b->qH (Za l) x=true->zao y=true->zq x<=3->zq y<=3->a.size<=maxLen->b.size<=maxLen->(x=y\/zm x=false\/zm y=false) ->
  Calls Tryz.prog 49 #[k,.string a,.string b] w fun e w'=>e=.returned (.bool (ZV (Za l) x y))/\Below w.heap.size w w':=fun x w a b y M G E J L C D B A h =>
  (zbe w l k m I M a b (.ty x) (.ty y) G E J C (qaU L D) B A (by
   rcases h with h|h
   ·exact Or.inl (Or.inr (Or.inl (by rw[h])))
   ·exact Or.inr h)).mono fun e w' ⟨h1,h2⟩=>⟨h1,h2▸Xb⟩
 intro x;induction x with
 |i=>intro w a b y M G E J L C D B A;exact F _ w a b y M G E J L C D B A (Or.inr (Or.inl rfl))
 |j=>intro w a b y M G E J L C D B A;exact F _ w a b y M G E J L C D B A (Or.inr (Or.inl rfl))
 |cl c =>
  intro w a b y M G E J L C D B A;by_cases H:Ty.cl c=y\/zm y=false
  ·exact F _ w a b y M G E J L C D B A (by rcases H with H|H;exact Or.inl H;exact Or.inr (Or.inr H))
  ·have N:Ty.cl c≠y:=fun h=>H (Or.inl h)
   have o:=ZP (x:=.ty y) E .t;have hE:=zac (x:=.ty (.cl c)) (y:=.ty y) G E;have p:=ZP (x:=.ty (.cl c)) G .n;simp only[Qo]at o p;rw[Xi (by intro h;cases h)]at o p;rw[Xi (by intro h;injection h with h;exact N h)]at hE;have U:=ZP (x:=.ty y) E (.ty (.cl qg));rw[show Qo (.ty (.cl qg))=[76,79,98,106,101,99,116,59] from rfl]at U;have V:Hid (∀wx,_):=fun wx=>qE a (.ty (.cl c)) wx G (qP I J C) B
   have P:Hid (∀wx,_):=fun wx=>qE b (.ty y) wx E (qaU L D) A
   have X:Hid (∀wx,_):=fun wx=>zag a (.cl c) wx G B
   have Y:Hid (∀wx,_):=fun wx=>zag b y wx E A
   obtain⟨R,fa⟩:=QJ G;obtain⟨S,fb⟩:=QJ E;have ga:=Zak G R;have q:=Zak E S;have Z:=Xh (zbu l k c w m I M J (zcO I));unfold qaj at Z;have O:Hid (∀d v wx,Qh wx v (zF (Qk (Za l) c))->_):=fun d v wx h=>zbk (zF (Qk (Za l) c)) v d wx h
   have f:=m.object _ c J Xl;obtain⟨pl,cap,rfl,_⟩:=M.open;simp only[Zt,zm,qA,ZaS,Zac,ZbO]at V X fa ga;clear M G J B N;cases y with
   |i=>exact absurd (Or.inr rfl) H
   |j=>exact absurd (Or.inr rfl) H
   |cl d =>
    simp only[Zt,zm,qA,ZaS,Zac,ZbO]at P Y fb q;have s:=Xh (O.out d);rw[qaM]at s;show Calls _ _ _ _ fun e w'=>e=.returned (.bool (QK (Qk (Za l) c) d))/\Below w.heap.size w w'
    rw[show decide (Kd.ty (.cl d)=.ty (.cl qg))=decide (d=qg) by rw[Bool.eq_iff_iff];simp]at U;have aA:decide (d=qg)=true->QK (Qk (Za l) c) d=true:=fun h=>by rw[Xm h];exact Zy.2 f
    have g:=Xh aA;generalize decide (d=qg)=r2 at *;generalize QK (Qk (Za l) c) d=r at *;clear H O E L A f aA m I C D;cases r2 with
    |true =>
     rw[g.out rfl];clear g;go_enter Tryz.func49,Tryz.ntmps49;go_wp2_with (first
      |(go_fit (V.out _);rintro e T⟨rfl,rfl⟩)
      |(go_fit (P.out _);rintro e T⟨rfl,rfl⟩))
     go_ret;exact⟨rfl,Xb⟩
    |false =>
     clear g;go_enter Tryz.func49,Tryz.ntmps49;go_wp2_with (first
      |(go_fit (V.out _);rintro e T⟨rfl,rfl⟩)
      |(go_fit (P.out _);rintro e T⟨rfl,rfl⟩)
      |(go_fit (X.out _);rintro e T⟨rfl,rfl⟩)
      |(go_fit (Y.out _);rintro e T⟨rfl,rfl⟩)
      |(go_fit Z.out;rintro e w4⟨⟨v,rfl,hv⟩,hB4⟩;(have hv2:=Ze hv);obtain⟨pv,kv,rfl⟩:=qe hv)
      |(go_fit (s.out _ _ hv2);rintro e w5⟨rfl,rfl⟩))
     go_ret;exact⟨rfl,hB4⟩
   |ar z =>
    rw[Xi (by intro h;cases h)]at U;simp only[Zt,zm,Zac,ZbO]at P fb q;clear H O X Y Z E L A f m I C D;go_enter Tryz.func49,Tryz.ntmps49;go_wp2_with (first
     |(go_fit (V.out _);rintro e T⟨rfl,rfl⟩)
     |(go_fit (P.out _);rintro e T⟨rfl,rfl⟩))
    go_ret;exact⟨rfl,Xb⟩
 |ar u ih =>
  intro w a b y M G E J L C D B A;by_cases H:Ty.ar u=y\/zm y=false
  ·exact F _ w a b y M G E J L C D B A (by rcases H with H|H;exact Or.inl H;exact Or.inr (Or.inr H))
  ·have N:Ty.ar u≠y:=fun h=>H (Or.inl h)
   have o:=ZP (x:=.ty y) E .t;have hE:=zac (x:=.ty (.ar u)) (y:=.ty y) G E;have p:=ZP (x:=.ty (.ar u)) G .n;simp only[Qo]at o p;rw[Xi (by intro h;cases h)]at o p;rw[Xi (by intro h;injection h with h;exact N h)]at hE;have U:=ZP (x:=.ty y) E (.ty (.cl qg));rw[show Qo (.ty (.cl qg))=[76,79,98,106,101,99,116,59] from rfl]at U;have V:Hid (∀wx,_):=fun wx=>qE a (.ty (.ar u)) wx G (qP I J C) B
   have P:Hid (∀wx,_):=fun wx=>qE b (.ty y) wx E (qaU L D) A
   obtain⟨R,fa⟩:=QJ G;obtain⟨S,fb⟩:=QJ E;have ga:=Zak G R;have q:=Zak E S;obtain⟨pl,cap,rfl,_⟩:=M.open;simp only[Zt,zm,Zac,ZbO]at V fa ga;cases y with
   |i=>exact absurd (Or.inr rfl) H
   |j=>exact absurd (Or.inr rfl) H
   |cl d =>
    simp only[Zt,zm,Zac,ZbO]at P fb q;show Calls _ _ _ _ fun e w'=>e=.returned (.bool (decide (d=qg)))/\Below w.heap.size w w'
    rw[show decide (Kd.ty (.cl d)=.ty (.cl qg))=decide (d=qg) by rw[Bool.eq_iff_iff];simp]at U;generalize decide (d=qg)=r at *;clear H M G E J L B A N ih F C D m I;cases r;all_goals
     go_enter Tryz.func49,Tryz.ntmps49;go_wp2_with (first
      |(go_fit (V.out _);rintro e T⟨rfl,rfl⟩)
      |(go_fit (P.out _);rintro e T⟨rfl,rfl⟩))
     go_ret;exact⟨rfl,Xb⟩
   |ar v =>
    rw[Xi (by intro h;cases h)]at U;simp only[Zt,zm,Zac,ZbO]at P fb q;obtain⟨ta,aD,hsz1⟩:=zaa G;obtain⟨tb,aE,hsz2⟩:=zaa E;have du:zq u<=3:=(by simp only[zq]at C;omega);have dv:zq v<=3:=(by simp only[zq]at D;omega);have aB:Hid (∀wx,_):=fun wx=>qE (a.extract 1 a.size) (.ty u) wx ta (qP I J du) (Xf aD B)
    have aC:Hid (∀wx,_):=fun wx=>qE (b.extract 1 b.size) (.ty v) wx tb (qaU (y:=v) L dv) (Xf aE A)
    have HI:Hid (∀wx,Below w.heap.size w wx->_):=fun wx E=>ih wx (a.extract 1 a.size) (b.extract 1 b.size) v (M.mono E) ta tb J L du dv (Xf aD B) (Xf aE A)
    have hw:Hid (zm u=false\/zm v=false->ZV (Za l) u v=false):=fun h=>by
     rw[Za1 h];exact Xi fun H=>N (by rw[H])
    simp only[Zt]at aB aC;show Calls _ _ _ _ fun e w'=>e=.returned (.bool (ZV (Za l) u v))/\Below w.heap.size w w'
    exact zcW w pl _ cap a b _ _ (zm u) (zm v) _ V.out P.out aB.out aC.out HI.out (fun h=>hw.out (by cases hu:zm u<;>cases hv:zm v<;>simp[hu,hv]at h ⊢)) R S ga q rfl rfl B A o hE p U
set_option maxRecDepth 512
theorem qa4(l:List Qb)(C:Value)(J:Zk l)(B:∀c∈l,qd c=0)(w:World)(L:qj w C l)(a b:Str)(x y:Kd)(H:qaX (Za l) a x)(I:qaX (Za l) b y)(D:qah x<=3)(E:qah y<=3)(F:a.size<=maxLen)(G:b.size<=maxLen):
 Calls Tryz.prog 49 #[C,.string a,.string b] w fun e w'=>e=.returned (.bool (Zx (Za l) x y))/\Below w.heap.size w w':=by
 have A:(y=.t\/x=y\/(x=.n/\Zt y=true))\/(Zt x=false\/Zt y=false)->Calls Tryz.prog 49 #[C,.string a,.string b] w fun e w'=>e=.returned (.bool (Zx (Za l) x y))/\Below w.heap.size w w':=fun h =>
  (zbe w l C J B L a b x y H.1 I.1 H.2 D (qP B I.2 E) F G h).mono fun e w' ⟨M,N⟩=>⟨M,N▸Xb⟩
 cases x with
 |n=>exact A (Or.inr (Or.inl rfl))
 |t=>exact A (Or.inr (Or.inl rfl))
 |ty u =>
  cases y with
  |n=>exact A (Or.inr (Or.inr rfl))
  |t=>exact A (Or.inl (Or.inl rfl))
  |ty v=>exact qdg l C J B u w a b v L H.1 I.1 H.2 (Qa8 B v I.2) D E F G
theorem Zcs{w:World}{b o:Nat}{v:Value}(h:w.cell? ⟨b,o,none⟩=some v):b<w.heap.size:=QG.lt (w:=w) (b:=b) (o:=o) (v:=v) (r:=[]) ⟨h,trivial⟩
set_option maxRecDepth 100000
theorem Qa4(l:List Qb)(lv:Value)(c n:Str)(w:World)(O:Zk l)(I:qj w lv l)(hk:(Qc (Za l) c).isSome=true):
 Calls Tryz.prog 83 #[lv,.string c,.string n] w fun e w'=>e=.returned (zaR (zam (Za l) c n))/\Below w.heap.size w w':=by
 have HL:Hid (∀wx,Below w.heap.size w wx->_):=fun wx hb=>Zae l lv O _ c wx (I.mono hb) hk Xl
 unfold qaj at HL;have q:Hid (∀(a:Str) wx,Below w.heap.size w wx->_):=fun a wx hb=>QA l lv a wx (I.mono hb)
 unfold zJ at q;obtain⟨pl,cap,rfl,_⟩:=I.open;have P:Blk (w.alloc (.cells #[.string ⟨#[]⟩,.string ⟨#[]⟩] 130)) w.heap.size 130 zbi:=Blk.new w _ zbi;have S:Below w.heap.size w (w.alloc (.cells #[.string ⟨#[]⟩,.string ⟨#[]⟩] 130)):=Xb.alloc Xl _;unfold zam;clear I hk O;generalize Zq (Za l) c=L at *;go_enter Tryz.func83,Tryz.ntmps83;go_wp2_with (go_fit (HL.out _ S);rintro e w3⟨⟨v3,rfl,Z⟩,g⟩;obtain⟨pv,kv,rfl⟩:=qe Z)
 have r:=Ze Z;obtain⟨pv',kv',he,h1,h2,z⟩:=r.open;injection he with i m p
 subst i p;clear m;have HC:=Xh z;have hlen:L.length<=9223372036854775807:=Xf h1 h2;have s:Hid (Blk w3 w.heap.size 130 zbi):=P.step g;have T:=Xh (Qa S Xl g);clear r z Z P S g HL;go_loopw [10] (fun x wr=>∃k:Nat,k<=L.length/\Hid (Q0 (Za l) n (L.drop k)=Q0 (Za l) n L)/\Below w3.heap.size w3 wr/\x=.int .i64 k) (fun x _=>L.length-(intOf x).toNat)
 case atStart=>exact⟨0,by omega,rfl,Xb,rfl⟩
 case round =>
  obtain⟨k,hk,M,D,rfl⟩:=hrel;by_cases hkl:k<L.length
  ·obtain⟨a,ha⟩:∃a,L[k]? = some a:=⟨L[k],by simp[hkl]⟩;obtain⟨b,o,vs,rfl,O,_,Y⟩:=HC.out k a ha;unfold qs at O;subst O;have G:Hid (∀wx,Below w3.heap.size w3 wx->wx.cell? ⟨b,o+k,none⟩=some (.string a)):=fun wx hb=>by have:=(Y.mono hb Y.lt).1;rwa [Nat.mul_one]at this
   have c0:=G.out wr D;have Zc:=qbp (Za l) n L k a ha;rw[M.out]at Zc;have U:=Xh (q.out a wr (Qa T Xl D));rw[show(Qc (Za l) a).getD zg=qh (Za l) a from rfl]at U;have HX:=Xh ha;clear ha Y M;generalize qh (Za l) a=d at *;generalize (Qc (Za l) a).isSome=is at *;obtain⟨n2,s2,f2,b2,F,m2⟩:=d;dsimp only at U Zc;have HS:=Xh Zc;have HBr:=Xh D;clear Zc D;go_wp2_with (go_fit U.out;rintro e w4⟨p1,k1,p2,k2,p3,k3,rfl,_,hfs,_,hB4,_⟩)
   have BX:=QY w4 #[.string n2,.string s2,.slice p1 f2.length k1,.bool b2,.slice p2 F.length k2,.slice p3 m2.length k3] 36;have t:=Qa (Qa HBr Xl hB4) Xl BX.below;have R:=hfs.mono BX.below (by decide) (fun _ _ h=>h);generalize w4.alloc (.cells #[.string n2,.string s2,.slice p1 f2.length k1,.bool b2,.slice p2 F.length k2,.slice p3 m2.length k3] 36)=w5 at *;obtain⟨pd',kd',he,g1,g2,aA⟩:=R.open;injection he with i m p
   subst i p;clear m R hfs;have HD:=Xh aA;have hlen2:F.length<=9223372036854775807:=Xf g1 g2;have HBX:=Xh BX;have y:=Xh t;clear aA BX t hB4 c0;go_loopw [13] (fun x wy=>∃j:Nat,j<=F.length/\Hid (Qab n (F.drop j)=Qab n F)/\Below w5.heap.size w5 wy/\x=.int .i64 j) (fun x _=>F.length-(intOf x).toNat)
   case atStart=>exact⟨0,by omega,rfl,Xb,rfl⟩
   case round =>
    obtain⟨j,hj,N,D,rfl⟩:=hrel;obtain⟨y0,y1,y2,y3,y4,y5⟩:=QM (HBX.out.step D);clear y0 y1 y2 y3 y5;by_cases hjl:j<F.length
    ·obtain⟨f,hf⟩:∃a,F[j]? = some a:=⟨F[j],by simp[hjl]⟩;obtain⟨bb,oo,vs,rfl,O,_,Y⟩:=HD.out j f hf;unfold QE at O;subst O;obtain⟨u0,u1,_⟩:=Y.mono D Y.lt;have A:=Qbp n F j f hf;rw[N.out]at A;have HXf:=Xh hf;have e1:=q8 f.name n;clear hf Y N;by_cases B:f.name=n
     ·rw[if_pos B]at A;rw[Xj B]at e1;have E:=HS.out;rw[A]at E;have J:=Qa y Xl D;have C:=s.out.step J;obtain⟨q0,q1⟩:=C.field;have hfz:=C.frozen;have hlt:=C.lt;have c0:=G.out wr J;have HF:=Xh E;have HE:=Xh (Q5 (Qa T Xl J) (Nat.le_refl w.heap.size) (.string f.name) (.string f.type)).drew;clear A E B C D J;go_upto_region 10 with fail;go_region
      all_goals go_wp2
      all_goals exact bodyPost_ret (v:=.tuple #[.string a,.agg #[.string f.name,.string f.type],.bool true]) (by simp[results,Tryz.results83,go_sem, *]) rfl ⟨by rw[HF.out];rfl,HE⟩
     ·rw[if_neg B]at A;rw[Xi B]at e1;have V:=Xh A.symm;have X:=Xh D;clear A B D;go_wp2_with fail;go_roundw;case rel=>exact⟨j+1,by omega,V.out,X,by simp⟩
      case measure=>simp[intOf];omega
    ·obtain rfl:j=F.length:=(by omega);have H:Qab n F=none:=(by rw[<-N.out,Xg Xl];rfl);have E:=HS.out;rw[H]at E;have V:Hid (Q0 (Za l) n (L.drop (k+1))=Q0 (Za l) n L):=E.symm;have X:=Xh (Qa y Xl D);clear H E N D;go_wp2_with fail;go_roundw;case rel=>exact⟨k+1,by omega,V.out,X,by simp⟩
     case measure=>simp[intOf];omega
  ·obtain rfl:k=L.length:=(by omega);have H:Q0 (Za l) n L=none:=(by rw[<-M.out,Xg Xl];rfl);have C:=s.out.step D;obtain⟨q0,q1⟩:=C.field;have hfz:=C.frozen;have hlt:=C.lt;have HS:=Xh H;have HE:=Xh (Q5 (Qa T Xl D) (Nat.le_refl w.heap.size) (.string ⟨#[]⟩) (.string ⟨#[]⟩));clear H M C D;go_wp2_with fail;exact bodyPost_ret (v:=.tuple #[.string ⟨#[]⟩,.agg #[.string ⟨#[]⟩,.string ⟨#[]⟩],.bool false]) (by simp[results,Tryz.results83,go_sem, *]) rfl ⟨by rw[HS.out];rfl,HE⟩
set_option maxRecDepth 512
def qat(m:qi)(v:Value):Prop:=∃pc kc ph kh,v=.agg #[.string m.name,.string m.type,.bool m.static,.bool m.abs,.bool m.priv,.int .i64 m.locals,.slice pc m.code.length kc,.slice ph m.handlers.length kh]
theorem qat.none:qat zH (.agg Zn.toArray):=⟨.none,0,.none,0,rfl⟩
def zcd(w:World)(o:Option qi)(e:Ending)(w':World):Prop:=(∃v,e=.returned (.tuple #[v,.bool o.isSome])/\qat (o.getD zH) v)/\Below w.heap.size w w'
set_option maxRecDepth 100000
theorem Qdg(l:List Qb)(lv:Value)(c n t:Str)(w:World)(I:qj w lv l):
 Calls Tryz.prog 198 #[lv,.string c,.string n,.string t] w (zcd w (qan n t (qh (Za l) c).methods)):=by
 have J:Hid (∀wx,Below w.heap.size w wx->_):=fun wx hb=>QA l lv c wx (I.mono hb)
 unfold zJ at J;obtain⟨pl,cap,rfl,_⟩:=I.open;have G:Blk (w.alloc (.cells #[.string ⟨#[]⟩,.string ⟨#[]⟩,.bool false,.bool false,.bool false,.int .i64 0,.slice none 0 0,.slice none 0 0] 53)) w.heap.size 53 Zn:=Blk.new w _ Zn;have L:Below w.heap.size w (w.alloc (.cells #[.string ⟨#[]⟩,.string ⟨#[]⟩,.bool false,.bool false,.bool false,.int .i64 0,.slice none 0 0,.slice none 0 0] 53)):=Xb.alloc Xl _;rw[show(Qc (Za l) c).getD zg=qh (Za l) c from rfl]at J;clear I;generalize qh (Za l) c=d at *;generalize (Qc (Za l) c).isSome=is at *;obtain⟨Y,Z,f,S,g,D⟩:=d;dsimp only at *;go_enter Tryz.func198,Tryz.ntmps198;go_wp2_with (go_fit (J.out _ L);rintro e p⟨r,N,s,O,y,z,rfl,_,_,X,P,_⟩)
 have R:=QY p #[.string Y,.string Z,.slice r f.length N,.bool S,.slice s g.length O,.slice y D.length z] 36;have T:=Xh (Qa (Qa L Xl P) Xl R.below);have H:Zg (p.alloc (.cells #[.string Y,.string Z,.slice r f.length N,.bool S,.slice s g.length O,.slice y D.length z] 36)) 8 (zr _) _ _:=X.mono R.below (by decide) (fun _ _ h=>h.mono R.below);have U:Hid (Blk (p.alloc (.cells #[.string Y,.string Z,.slice r f.length N,.bool S,.slice s g.length O,.slice y D.length z] 36)) w.heap.size 53 Zn):=(G.step P).step R.below;generalize p.alloc (.cells #[.string Y,.string Z,.slice r f.length N,.bool S,.slice s g.length O,.slice y D.length z] 36)=w5 at *;obtain⟨pd',kd',he,g1,g2,V⟩:=H.open;injection he with he1 he2 he3
 subst he1 he3;clear he2 H X;have HD:=Xh V;have hlen2:D.length<=9223372036854775807:=Xf g1 g2;have HBX:=Xh R;clear V R P L G;go_loopw [12] (fun x wy=>∃j:Nat,j<=D.length/\Hid (qan n t (D.drop j)=qan n t D)/\Below w5.heap.size w5 wy/\x=.int .i64 j) (fun x _=>D.length-(intOf x).toNat)
 case atStart=>exact⟨0,by omega,rfl,Xb,rfl⟩
 case round =>
  obtain⟨k,hk,F,E,rfl⟩:=hrel;obtain⟨y0,y1,y2,y3,y4,y5⟩:=QM (HBX.out.step E);clear y0 y1 y2 y3 y4;by_cases hkl:k<D.length
  ·obtain⟨m,i⟩:∃a,D[k]? = some a:=⟨D[k],by simp[hkl]⟩;obtain⟨b,o,vs,rfl,⟨cv,hv,rfl,N,O⟩,_,qc⟩:=HD.out k m i;obtain⟨c0,c1,c2,c3,c4,c5,c6,c7,_⟩:=qc.mono E qc.lt;have M:=qbZ n t D k m i;rw[F.out]at M;obtain⟨pc,kc,rfl,_⟩:=N.open;obtain⟨ph,kh,rfl,_⟩:=O.open;have e1:=q8 m.name n;have e2:=q8 m.type t;have HX:=Xh i;clear N O qc F i;by_cases A:m.name=n/\m.type=t
   ·rw[if_pos A]at M;rw[Xj A.1]at e1;rw[Xj A.2]at e2;have B:=U.out.step E;obtain⟨q0,q1,q2,q3,q4,q5,q6,q7⟩:=B.method;have hfz:=B.frozen;have hlt:=B.lt;have HS:=Xh M;have HE:=Xh (ZB (Qa T Xl E) (Nat.le_refl w.heap.size) (.string m.name) (.string m.type) (.bool m.static) (.bool m.abs) (.bool m.priv) (.int .i64 m.locals) (.slice pc m.code.length kc) (.slice ph m.handlers.length kh));clear M A B E;go_wp2_with fail;exact bodyPost_ret (v:=.tuple #[.agg #[.string m.name,.string m.type,.bool m.static,.bool m.abs,.bool m.priv,.int .i64 m.locals,.slice pc m.code.length kc,.slice ph m.handlers.length kh],.bool true]) (by simp[results,Tryz.results198,go_sem, *]) rfl (by rw[HS.out];exact⟨⟨_,rfl,pc,kc,ph,kh,rfl⟩,HE⟩)
   ·rw[if_neg A]at M;have hst:=Xh M.symm;have C:(decide (m.name=n)&&decide (m.type=t))=false:=by
     rw[Bool.and_eq_false_iff,decide_eq_false_iff_not,decide_eq_false_iff_not];by_cases h1:m.name=n
     ·exact Or.inr fun h2=>A ⟨h1,h2⟩
     ·exact Or.inl h1
    rw[<-e1,<-e2]at C;have HBa:=Xh E;clear M A E e1 e2;obtain⟨b1,g1⟩:∃q,(m.name.toList==n.toList)=q:=⟨_,rfl⟩;obtain⟨S,g2⟩:∃q,(m.type.toList==t.toList)=q:=⟨_,rfl⟩;rw[g1,g2]at C;cases b1<;>cases S
    all_goals first
     |(exact absurd C (by decide))
     |(
      clear C;go_wp2_with fail;go_roundw;case rel=>exact⟨k+1,by omega,hst.out,HBa,by simp⟩
      case measure=>simp[intOf];omega)
  ·obtain rfl:k=D.length:=(by omega);have C:qan n t D=none:=(by rw[<-F.out,Xg Xl];rfl);have B:=U.out.step E;obtain⟨q0,q1,q2,q3,q4,q5,q6,q7⟩:=B.method;have hfz:=B.frozen;have hlt:=B.lt;have HS:=Xh C;have HE:=Xh (ZB (Qa T Xl E) (Nat.le_refl w.heap.size) (.string ⟨#[]⟩) (.string ⟨#[]⟩) (.bool false) (.bool false) (.bool false) (.int .i64 0) (.slice none 0 0) (.slice none 0 0));clear C F B E;go_wp2_with fail;exact bodyPost_ret (v:=.tuple #[.agg Zn.toArray,.bool false]) (by simp[results,Tryz.results198,go_sem, *,Zn]) rfl (by rw[HS.out];exact⟨⟨_,rfl,qat.none⟩,HE⟩)
set_option maxRecDepth 512
def Zbu(w:World)(o:Option (Str×qi))(e:Ending)(w':World):Prop:=(∃v,e=.returned (ZaM v o)/\qat ((o.map (·.2)).getD zH) v)/\Below w.heap.size w w'
set_option maxRecDepth 100000
theorem QcC(l:List Qb)(lv:Value)(c n t:Str)(w:World)(hR:Zk l)(hcf:∀c∈l,qd c=0)(V:qj w lv l)(hk:(Qc (Za l) c).isSome=true):
 Calls Tryz.prog 166 #[lv,.string c,.string n,.string t] w (Zbu w (Qal (Za l) c n t)):=by
 have HL:Hid (∀wx,Below w.heap.size w wx->_):=fun wx Y=>Zae l lv hR _ c wx (V.mono Y) hk Xl
 have HEv:Hid (∀wx,Below w.heap.size w wx->_):=fun wx Y=>zbu l lv c wx hR hcf (V.mono Y) hk (fun x hx=>zcO hcf x hx)
 unfold qaj at HL HEv;have HCO:Hid (∀(a:Str) wx,Below w.heap.size w wx->_):=fun a wx Y=>QA l lv a wx (V.mono Y)
 have p:Hid (∀(a:Str) wx,Below w.heap.size w wx->_):=fun a wx Y=>Qdg l lv a n t wx (V.mono Y)
 unfold zJ at HCO;unfold zcd at p;obtain⟨pl,cap,rfl,_⟩:=V.open;have hblk:Blk (w.alloc (.cells #[.string ⟨#[]⟩,.string ⟨#[]⟩,.bool false,.bool false,.bool false,.int .i64 0,.slice none 0 0,.slice none 0 0] 53)) w.heap.size 53 Zn:=Blk.new w _ Zn;have hB1:Below w.heap.size w (w.alloc (.cells #[.string ⟨#[]⟩,.string ⟨#[]⟩,.bool false,.bool false,.bool false,.int .i64 0,.slice none 0 0,.slice none 0 0] 53)):=Xb.alloc Xl _;have HMC:Hid (Qal (Za l) c n t=match QU (Za l) n t (Zq (Za l) c) with
  |some x=>some x
  |none=>Qan (Za l) n t (zF (Qk (Za l) c)) [false,true]):=by
   unfold Hid;rw[<-QbZ];rfl
 clear V hk hR hcf;generalize Qal (Za l) c n t=N at *;generalize Zq (Za l) c=L at *;generalize zF (Qk (Za l) c)=E at *;go_enter Tryz.func166,Tryz.ntmps166;go_wp2_with (go_fit (HL.out _ hB1);rintro e w3⟨⟨v3,rfl,hv3⟩,hB3⟩;obtain⟨pv,kv,rfl⟩:=qe hv3)
 have hs3:=Ze hv3;obtain⟨pv',kv',he,h1,h2,hcc⟩:=hs3.open;injection he with he1 he2 he3
 subst he1 he3;clear he2;have HC:=Xh hcc;have hlen:L.length<=9223372036854775807:=Xf h1 h2;have HBl:Hid (Blk w3 w.heap.size 53 Zn):=hblk.step hB3;have r:=Xh (Qa hB1 Xl hB3);clear hs3 hcc hv3 hblk hB1 hB3 HL;go_loopw [12] (fun x wr=>∃k:Nat,k<=L.length/\Hid (QU (Za l) n t (L.drop k)=QU (Za l) n t L)/\Below w3.heap.size w3 wr/\x=.int .i64 k) (fun x _=>L.length-(intOf x).toNat)
 case atStart=>exact⟨0,by omega,rfl,Xb,rfl⟩
 case round =>
  obtain⟨k,hk,F,B,rfl⟩:=hrel;by_cases hkl:k<L.length
  ·obtain⟨a,U⟩:∃a,L[k]? = some a:=⟨L[k],by simp[hkl]⟩;obtain⟨b,o,vs,rfl,hR,_,qc⟩:=HC.out k a U;unfold qs at hR;subst hR;have A:Hid (∀wx,Below w3.heap.size w3 wx->wx.cell? ⟨b,o+k,none⟩=some (.string a)):=fun wx Y=>by have:=(qc.mono Y qc.lt).1;rwa [Nat.mul_one]at this
   have c0:=A.out wr B;have D:=zbc (Za l) n t L k a U;rw[F.out]at D;have HO:=Xh (p.out a wr (Qa r Xl B));have HX:=Xh U;clear U qc F;generalize (qh (Za l) a).methods=m2 at *;cases hq:qan n t m2 with
   |some m =>
    rw[hq]at D HO;simp only[Option.isSome_some,Option.getD_some]at HO;have G:Hid (N=some (a,m)):=(by unfold Hid;rw[HMC.out,D]);have I:=Xh B;clear D hq HMC B;go_upto_region 7 with(go_fit HO.out;rintro e w5⟨⟨v5,rfl,Z,f,g,h,rfl⟩,C⟩)
    have H:=Qa I Xl C;have O:=HBl.out.step H;obtain⟨q0,q1,q2,q3,q4,q5,q6,q7⟩:=O.method;have hfz:=O.frozen;have hlt:=O.lt;have c1:=A.out w5 H;have hbl:=Zcs (A.out w3 Xb);have hblt:b<w5.heap.size:=Nat.lt_of_lt_of_le hbl H.size;have J:=Qa r Xl H;have HE:=Xh ((ZB J (Nat.le_refl w.heap.size) (.string m.name) (.string m.type) (.bool m.static) (.bool m.abs) (.bool m.priv) (.int .i64 m.locals) (.slice Z m.code.length f) (.slice g m.handlers.length h)).alloc (Xf J.size (by simp)) (.cells #[.string m.name,.string m.type,.bool m.static,.bool m.abs,.bool m.priv,.int .i64 m.locals,.slice Z m.code.length f,.slice g m.handlers.length h] 53)).drew;clear O J C H;go_region
    all_goals go_wp2
    all_goals exact bodyPost_ret (v:=.tuple #[.string a,.agg #[.string m.name,.string m.type,.bool m.static,.bool m.abs,.bool m.priv,.int .i64 m.locals,.slice Z m.code.length f,.slice g m.handlers.length h],.bool true]) (by simp[results,Tryz.results166,go_sem, *]) rfl (by rw[G.out];exact⟨⟨_,rfl,Z,f,g,h,rfl⟩,HE⟩)
   |none =>
    rw[hq]at D HO;simp only[Option.isSome_none,Option.getD_none]at HO;have M:Hid (QU (Za l) n t (L.drop (k+1))=QU (Za l) n t L):=D.symm;have I:=Xh B;clear D hq B;go_wp2_with (go_fit HO.out;rintro e w5⟨⟨v5,rfl,Z,f,g,h,rfl⟩,C⟩)
    go_roundw;case rel=>exact⟨k+1,by omega,M.out,(Qa I Xl C).alloc (Qa I Xl C).size _,by simp⟩
    case measure=>simp[intOf];omega
  ·obtain rfl:k=L.length:=(by omega);have s:QU (Za l) n t L=none:=(by rw[<-F.out,Xg Xl];rfl);have HM2:Hid (N=Qan (Za l) n t E [false,true]):=(by unfold Hid;rw[HMC.out,s]);have I:=Xh (Qa r Xl B);have HEw:=Xh (HEv.out wr (Qa r Xl B));have HBl4:Hid (Blk wr w.heap.size 53 Zn):=HBl.out.step B;clear s F HMC B r HBl HC;go_wp2_with (go_fit HEw.out;rintro e w6⟨⟨v6,rfl,hv6⟩,hB6⟩;obtain⟨pe,ke,rfl⟩:=qe hv6)
   have hs6:=Ze hv6;obtain⟨pe',ke',he,h3,h4,hee⟩:=hs6.open;injection he with he1 he2 he3
   subst he1 he3;clear he2;have HCe:=Xh hee;have hlenE:E.length<=9223372036854775807:=Xf h3 h4;have HB6:=Xh (Qa I Xl hB6);have HBl6:Hid (Blk w6 w.heap.size 53 Zn):=HBl4.out.step hB6;clear hee hs6 hv6 hB6 HEw HBl4 I;go_loopw [16] (fun x wx=>∃j:Nat,j<=2/\Hid (N=Qan (Za l) n t E ([false,true].drop j))/\Below w6.heap.size w6 wx/\x=.int .i64 j) (fun x _=>2-(intOf x).toNat)
   case atStart=>exact⟨0,by omega,HM2,Xb,rfl⟩
   case round =>
    obtain⟨j,hj,hgg,B,rfl⟩:=hrel;by_cases hjl:j<2
    ·obtain⟨a,U⟩:∃a,[false,true][j]? = some a:=⟨[false,true][j]'(by simp;omega),by simp⟩;have hja:(((j:Int))==1)=a:=by
      match j,U with
      |0,U=>simp at U;subst U;rfl
      |1,U=>simp at U;subst U;rfl
     have D:=QbI (Za l) n t E [false,true] j a U;have HG:Hid (N=match QH (Za l) n t a E with
      |some x=>some x
      |none=>Qan (Za l) n t E ([false,true].drop (j+1))):=hgg.out.trans D
     have hji:(j:Int)<2:=(by omega);have HBj:=Xh B;clear U D hgg;go_wp2_with fail;go_loopw [17] (fun x wy=>∃i:Nat,i<=E.length/\Hid (QH (Za l) n t a (E.drop i)=QH (Za l) n t a E)/\Below w6.heap.size w6 wy/\x=.int .i64 i) (fun x _=>E.length-(intOf x).toNat)
     case atStart=>exact⟨0,by omega,rfl,B,rfl⟩
     case round =>
      clear B;obtain⟨i,hi,F,B,rfl⟩:=hrel;by_cases hil:i<E.length
      ·obtain⟨z,hz⟩:∃a,E[i]? = some a:=⟨E[i],by simp[hil]⟩;obtain⟨be,oe,vs,rfl,hR,_,qc⟩:=HCe.out i z hz;unfold qs at hR;subst hR;have A:Hid (∀wx,Below w6.heap.size w6 wx->wx.cell? ⟨be,oe+i,none⟩=some (.string z)):=fun wx Y=>by have:=(qc.mono Y qc.lt).1;rwa [Nat.mul_one]at this
       have c0:=A.out wr B;have D:=zbJ (Za l) n t a E i z hz;rw[F.out]at D;have P:=Qa HB6 Xl B;have HCz:=Xh (HCO.out z wr P);have HOz:Hid (∀wx,Below wr.heap.size wr wx->_):=fun wx Y=>p.out z wx (Qa P Xl Y)
       rw[show(Qc (Za l) z).getD zg=qh (Za l) z from rfl]at HCz;have HZ:=Xh hz;have HBwr:=Xh P;clear hz qc F P;generalize qh (Za l) z=d at *;generalize (Qc (Za l) z).isSome=is at *;obtain⟨n2,s2,f2,b2,d2,m2⟩:=d;dsimp only at D HCz HOz;have y:=Xh B;clear B;go_upto_region 16 with(go_fit HCz.out;rintro e w4⟨p1,k1,p2,k2,p3,k3,rfl,_,_,_,hB4,_⟩)
       have BX:=QY w4 #[.string n2,.string s2,.slice p1 f2.length k1,.bool b2,.slice p2 d2.length k2,.slice p3 m2.length k3] 36;have C:=Qa hB4 Xl BX.below;generalize w4.alloc (.cells #[.string n2,.string s2,.slice p1 f2.length k1,.bool b2,.slice p2 d2.length k2,.slice p3 m2.length k3] 36)=w5 at *;have c1:=A.out w5 (Qa y Xl C);have X:=Xh (HOz.out w5 C);have HBX:=Xh BX;have HB5:=Xh C;clear BX C hB4 HCz HOz c0;cases hq:qan n t m2 with
       |none =>
        rw[hq]at D X;simp only[Option.isSome_none,Option.getD_none]at X;have M:Hid (QH (Za l) n t a (E.drop (i+1))=QH (Za l) n t a E):=D.symm;clear D hq;go_wp2_with (go_fit X.out;rintro e w7⟨⟨v7,rfl,Z,f,g,h,rfl⟩,aC⟩)
        go_roundw;case rel =>
         have hBq:=Qa (Qa y Xl HB5) Xl aC;exact⟨i+1,by omega,M.out,hBq.alloc hBq.size _,by simp⟩
        case measure=>simp[intOf];omega
       |some m =>
        rw[hq]at D X;simp only[Option.isSome_some,Option.getD_some]at X;clear hq;go_upto_region 17 with(go_fit X.out;rintro e w7⟨⟨v7,rfl,Z,f,g,h,rfl⟩,aC⟩)
        have aA:=HBX.out.step aC;obtain⟨y0,y1,y2,y3,y4,y5⟩:=QM aA;have hlt7:=aA.size;have R:=Qa (Qa y Xl HB5) Xl aC;have hBa7:=R.alloc R.size (.cells #[.string m.name,.string m.type,.bool m.static,.bool m.abs,.bool m.priv,.int .i64 m.locals,.slice Z m.code.length f,.slice g m.handlers.length h] 53);obtain⟨yes,hy⟩:∃q,(m.abs==a)=q:=⟨_,rfl⟩;rw[hy]at D;have HBa7:=Xh hBa7;have S:=Xh R;have HS:=Xh D;clear D hBa7 R aC aA y0 y1 y2 y4 y5;by_cases aB:(b2&&yes)=true
        ·rw[Bool.and_eq_true]at aB;obtain⟨rfl,rfl⟩:=aB;have G:Hid (N=some (z,m)):=by
          unfold Hid;rw[HG.out,HS.out];rfl
         have T:=HBl6.out.step S.out;obtain⟨q0,q1,q2,q3,q4,q5,q6,q7⟩:=T.method;have hfz:=T.frozen;have hlt:=T.lt;have c7:=A.out w7 S.out;have hblt:be<w7.heap.size:=Nat.lt_of_lt_of_le (Zcs (A.out w6 Xb)) S.out.size;have J:=Qa HB6 Xl S.out;have HE:=Xh ((ZB J (Nat.le_refl w.heap.size) (.string m.name) (.string m.type) (.bool m.static) (.bool m.abs) (.bool m.priv) (.int .i64 m.locals) (.slice Z m.code.length f) (.slice g m.handlers.length h)).alloc (Xf J.size (by simp)) (.cells #[.string m.name,.string m.type,.bool m.static,.bool m.abs,.bool m.priv,.int .i64 m.locals,.slice Z m.code.length f,.slice g m.handlers.length h] 53)).drew;clear T J;go_upto_region 18 with fail;go_region
         all_goals go_wp2
         all_goals exact bodyPost_ret (v:=.tuple #[.string z,.agg #[.string m.name,.string m.type,.bool m.static,.bool m.abs,.bool m.priv,.int .i64 m.locals,.slice Z m.code.length f,.slice g m.handlers.length h],.bool true]) (by simp[results,Tryz.results166,go_sem, *]) rfl (by rw[G.out];exact⟨⟨_,rfl,Z,f,g,h,rfl⟩,HE⟩)
        ·have M:Hid (QH (Za l) n t a (E.drop (i+1))=QH (Za l) n t a E):=by
          unfold Hid;rw[HS.out,if_neg aB]
         cases b2<;>cases yes<;>first|(exact absurd rfl aB)|skip
         all_goals
          clear aB;go_wp2_with fail;go_roundw;case rel=>exact⟨i+1,by omega,M.out,HBa7,by simp⟩
          case measure=>simp[intOf];omega
      ·obtain rfl:i=E.length:=(by omega);have s:QH (Za l) n t a E=none:=(by rw[<-F.out,Xg Xl];rfl);have M:Hid (N=Qan (Za l) n t E ([false,true].drop (j+1))):=(by unfold Hid;rw[HG.out,s]);have HBe:=Xh B;clear s F B HG;go_wp2_with fail;go_roundw;case rel=>exact⟨j+1,by omega,M.out,HBe,by simp⟩
       case measure=>simp[intOf];omega
    ·obtain rfl:j=2:=(by omega);have G:Hid (N=none):=hgg.out;have hBl:=HBl6.out.step B;obtain⟨q0,q1,q2,q3,q4,q5,q6,q7⟩:=hBl.method;have hfz:=hBl.frozen;have hlt:=hBl.lt;have HE:=Xh (ZB (Qa HB6 Xl B) (Nat.le_refl w.heap.size) (.string ⟨#[]⟩) (.string ⟨#[]⟩) (.bool false) (.bool false) (.bool false) (.int .i64 0) (.slice none 0 0) (.slice none 0 0));clear hgg hBl B;go_wp2_with fail;exact bodyPost_ret (v:=.tuple #[.string ⟨#[]⟩,.agg Zn.toArray,.bool false]) (by simp[results,Tryz.results166,go_sem, *,Zn]) rfl (by rw[G.out];exact⟨⟨_,rfl,qat.none⟩,HE⟩)
set_option maxRecDepth 512
end Go.Proofs.YtlmfmioljeppfaaGreatDoor
