/- Lemmas; conditions: as each states. -/
import Derived.Test.YtlmfmioljeppfaaGreatDoorRefFind
set_option maxHeartbeats 4000000
namespace Go.Proofs.YtlmfmioljeppfaaGreatDoor
open Go.RowKit Go.Shelf Go.Lib
theorem Zem(k:Nat)(A:k≠0)(w:World):Calls Tryz.prog 18 #[.iface 29 (.int .i64 k),.int .i64 k] w fun e w'=>e=.returned (.bool true)/\w=w':=by
 have:=qcs k k w;rcases qI k with⟨_,h⟩|⟨h,_⟩
 ·exact absurd h A
 ·rw[h,Xj rfl]at this;exact this
theorem qeq(w:World):Calls Tryz.prog 18 #[.nilIface,.int .i64 0] w fun e w'=>e=.returned (.bool true)/\w=w':=qcs 0 0 w
set_option maxRecDepth 100000
theorem Zbe(w:World)(l:List Qb)(N:Value)(O:Zk l)(A:∀c∈l,qd c=0)(B:qj w N l)(a b:Str)(x y:Kd)(C:Qo x=lst a)(D:Qo y=lst b)(J:qK (Za l) x=true)(P:qK (Za l) y=true)(E:qah x<=3)(F:qah y<=3)(G:a.size<=4194304)(H:b.size<=4194304)(h:x=y\/(x=.n/\Zt y=true)\/(y=.n/\Zt x=true)\/(Zt x=false\/Zt y=false)):
 Calls Tryz.prog 148 #[N,.string a,.string b] w (qak w (Za l) x y (30+a.size+b.size)):=by
 have f:=zac C D;have R:=ZP C .n;have S:=ZP D .n;have T:Hid (∀wx,_):=fun wx=>qE a x wx C (qP A J E) (Xf G (by decide))
 have U:Hid (∀wx,_):=fun wx=>qE b y wx D (qP A P F) (Xf H (by decide))
 have L:=zdq O.tree (Zay l) C D J h;obtain⟨i,cap,rfl,_⟩:=B.open;unfold qak;simp only[Qo]at R S;generalize QT (Za l) x y=r at *;have I:(decide (x=y)||(decide (x=.n)&&Zt y)||(decide (y=.n)&&Zt x)||!(Zt x)||!(Zt y))=true:=by
  rcases h with h|⟨h,g⟩|⟨h,g⟩|h|h<;>simp[*]
 clear B O A E F G H C D J P h;generalize decide (x=y)=eE at *;generalize decide (x=.n)=X at *;generalize decide (y=.n)=Y at *;generalize Zt x=Z at *;generalize Zt y=d at *;cases eE<;>cases X<;>cases Y<;>cases Z<;>cases d<;>first|(exact absurd I (by decide))|skip
 all_goals
  clear I;simp only[if_true,if_false,Bool.and_true,Bool.and_false,Bool.false_eq_true]at L;have M:=Xh L;clear L;go_enter Tryz.func148,Tryz.ntmps148;go_wp2_with (first
   |(go_fit (T.out _);rintro e V⟨rfl,rfl⟩)
   |(go_fit (U.out _);rintro e V⟨rfl,rfl⟩))
  go_ret;first
   |exact⟨⟨a,rfl,M,by omega⟩,Xb⟩
   |exact⟨⟨b,rfl,M,by omega⟩,Xb⟩
   |exact⟨⟨⟨#[84]⟩,rfl,M,by show 1<=_;omega⟩,Xb⟩
theorem ZcW(w:World)(l:List Qb)(lv:Value)(I:Zk l)(J:∀c∈l,qd c=0)(B:qj w lv l)(a b c d:Str)(U:Zf (.cl c)=lst a)(A:Zf (.cl d)=lst b)(V:(Qc (Za l) c).isSome=true)(hy:(Qc (Za l) d).isSome=true)(X:c≠d)(hsa:a.size<=4194304)(hsb:b.size<=4194304):
 Calls Tryz.prog 148 #[lv,.string a,.string b] w (qak w (Za l) (.ty (.cl c)) (.ty (.cl d)) (30+a.size+b.size)):=by
 have hE:=zac (x:=.ty (.cl c)) (y:=.ty (.cl d)) U A;have hN:=ZP (x:=.ty (.cl c)) U .n;have hM:=ZP (x:=.ty (.cl d)) A .n;simp only[Qo]at hN hM;rw[Xi (by intro h;cases h)]at hN hM;rw[Xi (by intro h;injection h with h;injection h with h;exact X h)]at hE;have ma:a.size<=maxLen:=Xf hsa (by decide);have mb:b.size<=maxLen:=Xf hsb (by decide);have HA:Hid (∀wx,_):=fun wx=>qE a (.ty (.cl c)) wx U (qP J V (Nat.zero_le _)) ma
 have HB:Hid (∀wx,_):=fun wx=>qE b (.ty (.cl d)) wx A (qP J hy (Nat.zero_le _)) mb
 have HCa:Hid (∀wx,_):=fun wx=>zag a (.cl c) wx U ma
 have HCb:Hid (∀wx,_):=fun wx=>zag b (.cl d) wx A mb
 obtain⟨hpa,fa⟩:=QJ U;obtain⟨hpb,fb⟩:=QJ A;have ga:=Zak U hpa;have gb:=Zak A hpb;simp only[Zt,zm,qA,ZaS,Zac,ZbO]at HA HCa fa ga HB HCb fb gb;have Y:Hid (∀wx,Below w.heap.size w wx->_):=fun wx A=>Zae l lv I _ c wx (B.mono A) V Xl
 have Z:Hid (∀wx,Below w.heap.size w wx->_):=fun wx A=>Zae l lv I _ d wx (B.mono A) hy Xl
 unfold qaj at Y Z;have f:Hid (∀wx,Below w.heap.size w wx->_):=fun wx A=>QA l lv c wx (B.mono A)
 have g:Hid (∀wx,Below w.heap.size w wx->_):=fun wx A=>QA l lv d wx (B.mono A)
 unfold zJ at f g;have hnc:(qh (Za l) c).name=c:=by
  obtain⟨e,p⟩:=Option.isSome_iff_exists.1 V;unfold qh;rw[p];have:=List.find?_some p;simpa using this
 have hnd:(qh (Za l) d).name=d:=by
  obtain⟨e,p⟩:=Option.isSome_iff_exists.1 hy;unfold qh;rw[p];have:=List.find?_some p;simpa using this
 have hcl:=I.classes V hy X;have O:=Qbq J (I.tree.known c _ V (I.tree.lub1 c d V hy).1);unfold qak;rw[zcn];rw[show(Qc (Za l) c).getD zg=qh (Za l) c from rfl]at f;rw[show(Qc (Za l) d).getD zg=qh (Za l) d from rfl]at g;obtain⟨pl,cap,rfl,_⟩:=B.open;have P:zbb (Za l) c d=Zah (Zq (Za l) d) (Zq (Za l) c):=rfl;have i:Hid (∀z:Str,z.size<=20->(Zd z).size<=30+a.size+b.size):=fun z h=>by rw[Zam];omega
 have E:Hid (zbH.size<=30+a.size+b.size):=by unfold Hid;show 8<=_;omega
 clear B I J U A V hy X hsa hsb ma mb;generalize (Qc (Za l) c).isSome=ic at *;generalize (Qc (Za l) d).isSome=id at *;generalize qh (Za l) c=x at *;generalize qh (Za l) d=y at *;generalize Zq (Za l) c=D at *;generalize Zq (Za l) d=T at *;generalize zbb (Za l) c d=r at *;obtain⟨n1,s1,f1,b1,d1,m1⟩:=x;obtain⟨n2,s2,f2,b2,d2,m2⟩:=y;dsimp only at *;subst hnc hnd;have HLCA:=Xh O;have HCL:=Xh hcl;have HRC:=Xh P;clear O hcl P;go_enter Tryz.func148,Tryz.ntmps148;go_upto_region 17 with(first
  |(go_fit (HA.out _);rintro e w3⟨rfl,rfl⟩)
  |(go_fit (HB.out _);rintro e w3⟨rfl,rfl⟩)
  |(go_fit (HCa.out _);rintro e w3⟨rfl,rfl⟩)
  |(go_fit (f.out _ Xb);rintro e w4⟨p1,k1,p2,k2,p3,k3,rfl,_,_,_,hB4,_⟩))
 have BX:=QY w4 #[.string n1,.string s1,.slice p1 f1.length k1,.bool b1,.slice p2 d1.length k2,.slice p3 m1.length k3] 36;have j:=Qa hB4 Xl BX.below;generalize w4.alloc (.cells #[.string n1,.string s1,.slice p1 f1.length k1,.bool b1,.slice p2 d1.length k2,.slice p3 m1.length k3] 36)=w5 at *;have HBX:=Xh BX;clear BX hB4;go_upto_region 18 with(first
  |(go_fit (HCb.out _);rintro e w3⟨rfl,rfl⟩)
  |(go_fit (g.out _ j);rintro e w6⟨p4,k4,p5,k5,p6,k6,rfl,_,_,_,hB6,_⟩))
 have BY:=QY w6 #[.string n2,.string s2,.slice p4 f2.length k4,.bool b2,.slice p5 d2.length k5,.slice p6 m2.length k6] 36;have F:=Qa hB6 Xl BY.below;have L:=Qa j Xl F;generalize w6.alloc (.cells #[.string n2,.string s2,.slice p4 f2.length k4,.bool b2,.slice p5 d2.length k5,.slice p6 m2.length k6] 36)=w7 at *;have R:=Xh (HBX.out.step F);have m:=Xh BY;clear BY hB6 F HBX j;obtain⟨x0,x1,x2,x3,x4,x5⟩:=QM R.out;obtain⟨y0,y1,y2,y3,y4,y5⟩:=QM m.out;clear x1 x2 x4 x5 y1 y2 y4 y5;by_cases G:(b1||b2)=true
 ·have hro:=HCL.out;rw[if_pos G]at hro;subst hro;cases b1<;>cases b2<;>first|(exact absurd G (by decide))|skip
  all_goals
   clear G;go_wp2_with fail;go_ret;exact⟨⟨_,rfl,rfl,E.out⟩,L⟩
 ·rw[Bool.not_eq_true,Bool.or_eq_false_iff]at G;obtain⟨rfl,rfl⟩:=G;clear HCL;go_upto_region 21 with(go_fit (Y.out _ L);rintro e w8⟨⟨v8,rfl,q⟩,s⟩;obtain⟨pa,ca,rfl⟩:=qe q)
  have S:=Xh (m.out.step s);have H:=Qa L Xl s;clear x0 x3 y0 y3;obtain⟨y0,y1,y2,y3,y4,y5⟩:=QM S.out;clear y1 y2 y3 y4 y5;go_wp2_with (go_fit (Z.out _ H);rintro e w9⟨⟨v9,rfl,t⟩,v⟩;obtain⟨pb,cb,rfl⟩:=qe t)
  have hs8:=(Ze q).mono v;have hs9:=Ze t;have hB:=Qa H Xl v;obtain⟨pa',ca',p,h1,h2,hcc⟩:=hs8.open;injection p with he1 he2 he3
  subst he1 he3;clear he2;have HC:=Xh hcc;have HIn:Hid (∀x,_):=fun x=>zbk T _ x w9 hs9
  have hlen:D.length<=9223372036854775807:=Xf h1 h2;clear hs8 hs9 hcc q t L s H v Y Z y0 R m S;go_loopw [14] (fun x wr=>∃k:Nat,k<=D.length/\Hid (Zah T (D.drop k)=Zah T D)/\w9=wr/\x=.int .i64 k) (fun x _=>D.length-(intOf x).toNat)
  case atStart=>exact⟨0,by omega,rfl,rfl,rfl⟩
  case round =>
   obtain⟨k,hk,N,rfl,rfl⟩:=hrel;by_cases hkl:k<D.length
   ·obtain⟨z,hz⟩:∃z,D[k]? = some z:=⟨D[k],by simp[hkl]⟩;obtain⟨bb,oo,vs,rfl,I,_,qc⟩:=HC.out k z hz;unfold qs at I;subst I;have c0:=qc.1;rw[Nat.mul_one]at c0;have M:=Qb2 T D k z hz;rw[N.out]at M;have C:=HIn.out z;have HX:=Xh hz;clear hz qc N;cases hm:QK T z with
    |true =>
     rw[hm]at C M;replace M:Zah T D=z:=M;have hrz:r=z:=HRC.out.trans M;subst hrz;have hz20:=HLCA.out;have hz1:(⟨#[76]⟩++r:ByteArray).size<=21:=(by rw[ByteArray.size_append];show 1+r.size<=_;omega);have o:=Xh C;clear M C hm;go_wp2_with (go_fit o.out;rintro e w5⟨rfl,rfl⟩)
     go_ret;exact⟨⟨Zd r,rfl,(zbh r).symm,i.out r hz20⟩,hB⟩
    |false =>
     rw[hm]at C M;have hst:Hid (Zah T (D.drop (k+1))=Zah T D):=M.symm;have o:=Xh C;clear M C hm;go_wp2_with (go_fit o.out;rintro e w5⟨rfl,rfl⟩)
     go_roundw;case rel=>exact⟨k+1,by omega,hst.out,by simp,by simp⟩
     case measure=>simp[intOf];omega
   ·obtain rfl:k=D.length:=(by omega);have hno:r=qg:=(by rw[HRC.out,<-N.out,Xg Xl];rfl);subst hno;clear N;go_wp2_with fail;go_ret;exact⟨⟨_,rfl,rfl,E.out⟩,hB⟩
theorem qcW(w:World)(Y:Option Addr)(n cap m:Nat)(T:Str->Prop)(a b L M:Str)(F G:Bool)(N:∀wx,Calls Tryz.prog 78 #[.string a] wx fun e w'=>e=.returned (.bool true)/\wx=w')(O:∀wx,Calls Tryz.prog 78 #[.string b] wx fun e w'=>e=.returned (.bool true)/\wx=w')(C:∀wx,Calls Tryz.prog 78 #[.string L] wx fun e w'=>e=.returned (.bool F)/\wx=w')(D:∀wx,Calls Tryz.prog 78 #[.string M] wx fun e w'=>e=.returned (.bool G)/\wx=w')(H:(F&&G)=true->∀wx,Below w.heap.size w wx->Calls Tryz.prog 148 #[.slice Y n cap,.string L,.string M] wx fun e w'=>(∃z,e=.returned (.string z)/\T (ZF z)/\z.size<=m)/\Below wx.heap.size wx w')(A:(F&&G)=false->T zbH)(i:7<=m)(Z:m<=9000000)(P:0<a.size)(R:0<b.size)(j:(((a[0]'P).toNat:Int)==91)=true)(k:(((b[0]'R).toNat:Int)==91)=true)(c:a.extract 1 a.size=L)(d:b.extract 1 b.size=M)(S:a.size<=maxLen)(U:b.size<=maxLen)(l:(a.toList==b.toList)=false)(o:(a.toList==[78])=false)(p:(b.toList==[78])=false):
 Calls Tryz.prog 148 #[.slice Y n cap,.string a,.string b] w fun e w'=>(∃z,e=.returned (.string z)/\T z/\z.size<=m+1)/\Below w.heap.size w w':=by
 have I:Hid (∀wx,Calls Tryz.prog 78 #[.string L] wx fun e w'=>e=.returned (.bool F)/\w'=wx):=fun wx=>(C wx).mono fun e w' h=>⟨h.1,h.2.symm⟩
 have J:Hid (∀wx,Calls Tryz.prog 78 #[.string M] wx fun e w'=>e=.returned (.bool G)/\w'=wx):=fun wx=>(D wx).mono fun e w' h=>⟨h.1,h.2.symm⟩
 replace N:=Xh N;replace O:=Xh O;replace C:=Xh C;replace D:=Xh D;replace H:=Xh H;replace A:=Xh A;unfold maxLen at S U;have q:(0:Int)<(a.size:Int):=by omega
 have r:(0:Int)<(b.size:Int):=by omega
 have s:(1:Int)<=(a.size:Int):=by omega
 have t:(1:Int)<=(b.size:Int):=by omega
 by_cases B:(F&&G)=true
 ·replace H:=Xh (H.out B);rw[Bool.and_eq_true]at B;obtain⟨rfl,rfl⟩:=B;clear A I J;go_enter Tryz.func148,Tryz.ntmps148;go_upto_region 12 with(first
   |(go_fit (N.out _);rintro e E⟨rfl,rfl⟩)
   |(go_fit (O.out _);rintro e E⟨rfl,rfl⟩)
   |(go_fit (C.out _);rintro e E⟨rfl,rfl⟩)
   |(go_fit (D.out _);rintro e E⟨rfl,rfl⟩))
  refine wp_region_still_tail 5 (by kernel_rfl) (by kernel_rfl) ?_;simp only[List.take_succ_cons,List.take_zero,List.drop_succ_cons,List.drop_zero];repeat still_step
  refine wpStill_nil ?_;change wpList _ _ _ _ _ w.drew;go_wp2_with (go_fit (H.out _ Xb.drew);rintro e v⟨⟨f,rfl,V,g⟩,X⟩)
  go_ret;exact⟨⟨ZF f,rfl,V,by rw[QbJ];omega⟩,Qa Xb.drew Xl X⟩
 ·rw[Bool.not_eq_true]at B;replace A:=Xh (A.out B);clear H I J;cases F<;>cases G<;>first|(exact absurd B (by decide))|skip
  all_goals
   go_enter Tryz.func148,Tryz.ntmps148;go_wp2_with (first
    |(go_fit (N.out _);rintro e E⟨rfl,rfl⟩)
    |(go_fit (O.out _);rintro e E⟨rfl,rfl⟩)
    |(go_fit (C.out _);rintro e E⟨rfl,rfl⟩)
    |(go_fit (D.out _);rintro e E⟨rfl,rfl⟩))
   go_ret;exact⟨⟨zbH,rfl,A.out,by show 8<=_;omega⟩,Xb⟩
theorem qbe(w:World)(F:Option Addr)(n cap:Nat)(a b:Str)(p q:Bool)(B:∀wx,Calls Tryz.prog 78 #[.string a] wx fun e w'=>e=.returned (.bool true)/\wx=w')(C:∀wx,Calls Tryz.prog 78 #[.string b] wx fun e w'=>e=.returned (.bool true)/\wx=w')(D:0<a.size)(E:0<b.size)(H:(((a[0]'D).toNat:Int)==91)=p)(I:(((b[0]'E).toNat:Int)==91)=q)(A:(p&&q)=false/\(p||q)=true)(J:(a.toList==b.toList)=false)(L:(a.toList==[78])=false)(M:(b.toList==[78])=false):
 Calls Tryz.prog 148 #[.slice F n cap,.string a,.string b] w fun e w'=>e=.returned (.string zbH)/\w=w':=by
 replace B:=Xh B;replace C:=Xh C;cases p<;>cases q<;>first|(exact absurd A (by decide))|skip
 all_goals
  clear A;go_enter Tryz.func148,Tryz.ntmps148;go_wp2_with (first
   |(go_fit (B.out _);rintro e G⟨rfl,rfl⟩)
   |(go_fit (C.out _);rintro e G⟨rfl,rfl⟩))
  go_ret;exact⟨rfl,rfl⟩
set_option maxRecDepth 512
theorem zdh(l:List Qb)(Y:Value)(hR:Zk l)(G:∀c∈l,qd c=0):∀(x:Ty) (w:World) (a b:Str) (y:Ty),qj w Y l->Zf x=lst a->Zf y=lst b->qH (Za l) x=true->qH (Za l) y=true->zq x<=3->zq y<=3->a.size<=4194304->b.size<=4194304 ->
 Calls Tryz.prog 148 #[Y,.string a,.string b] w (qak w (Za l) (.ty x) (.ty y) (30+a.size+b.size)):=by
 have I:∀(x:Ty) (w:World) (a b:Str) (y:Ty),qj w Y l->Zf x=lst a->Zf y=lst b->qH (Za l) x=true->qH (Za l) y=true->zq x<=3->zq y<=3->a.size<=4194304->b.size<=4194304->(x=y\/zm x=false\/zm y=false) ->
  Calls Tryz.prog 148 #[Y,.string a,.string b] w (qak w (Za l) (.ty x) (.ty y) (30+a.size+b.size)):=fun x w a b y P F C N O D E A B h =>
  Zbe w l Y hR G P a b (.ty x) (.ty y) F C N O D E A B (by
   rcases h with h|h
   ·exact Or.inl (by rw[h])
   ·exact Or.inr (Or.inr (Or.inr h)))
 have H:∀{s:Str},s.size<=4194304->s.size<=maxLen:=fun h=>Xf h (by decide)
 intro x;induction x with
 |i=>intro w a b y P F C N O D E A B;exact I _ w a b y P F C N O D E A B (Or.inr (Or.inl rfl))
 |j=>intro w a b y P F C N O D E A B;exact I _ w a b y P F C N O D E A B (Or.inr (Or.inl rfl))
 |cl c =>
  intro w a b y P F C N O D E A B;by_cases J:Ty.cl c=y\/zm y=false
  ·exact I _ w a b y P F C N O D E A B (by rcases J with J|J;exact Or.inl J;exact Or.inr (Or.inr J))
  ·have R:Ty.cl c≠y:=fun h=>J (Or.inl h)
   cases y with
   |i=>exact absurd (Or.inr rfl) J
   |j=>exact absurd (Or.inr rfl) J
   |cl d=>exact ZcW w l Y hR G P a b c d F C N O (fun h=>R (by rw[h])) A B
   |ar z =>
    have T:=zac (x:=.ty (.cl c)) (y:=.ty (.ar z)) F C;have U:=ZP (x:=.ty (.cl c)) F .n;have V:=ZP (x:=.ty (.ar z)) C .n;rw[Xi (by intro h;cases h)]at T U V;obtain⟨L,_⟩:=QJ F;obtain⟨M,_⟩:=QJ C;obtain⟨Z,cap,rfl,_⟩:=P.open;refine(qbe w Z _ cap a b false true (fun wx=>qE a (.ty (.cl c)) wx F (qP G N D) (H A)) (fun wx=>qE b (.ty (.ar z)) wx C (qP G O E) (H B)) L M (Zak F L) (Zak C M) ⟨rfl,rfl⟩ T U V).mono ?_;rintro e w'⟨rfl,rfl⟩;exact⟨⟨_,rfl,rfl,by show 8<=_;omega⟩,Xb⟩
 |ar u ih =>
  intro w a b y P F C N O D E A B;by_cases J:Ty.ar u=y\/zm y=false
  ·exact I _ w a b y P F C N O D E A B (by rcases J with J|J;exact Or.inl J;exact Or.inr (Or.inr J))
  ·have R:Ty.ar u≠y:=fun h=>J (Or.inl h)
   cases y with
   |i=>exact absurd (Or.inr rfl) J
   |j=>exact absurd (Or.inr rfl) J
   |cl d =>
    have T:=zac (x:=.ty (.ar u)) (y:=.ty (.cl d)) F C;have U:=ZP (x:=.ty (.ar u)) F .n;have V:=ZP (x:=.ty (.cl d)) C .n;rw[Xi (by intro h;cases h)]at T U V;obtain⟨L,_⟩:=QJ F;obtain⟨M,_⟩:=QJ C;obtain⟨Z,cap,rfl,_⟩:=P.open;refine(qbe w Z _ cap a b true false (fun wx=>qE a (.ty (.ar u)) wx F (qP G N D) (H A)) (fun wx=>qE b (.ty (.cl d)) wx C (qP G O E) (H B)) L M (Zak F L) (Zak C M) ⟨rfl,rfl⟩ T U V).mono ?_;rintro e w'⟨rfl,rfl⟩;exact⟨⟨_,rfl,rfl,by show 8<=_;omega⟩,Xb⟩
   |ar v =>
    have T:=zac (x:=.ty (.ar u)) (y:=.ty (.ar v)) F C;have U:=ZP (x:=.ty (.ar u)) F .n;have V:=ZP (x:=.ty (.ar v)) C .n;rw[Xi (by intro h;cases h)]at U V;rw[Xi (by intro h;injection h with h;exact R h)]at T;obtain⟨L,_⟩:=QJ F;obtain⟨M,_⟩:=QJ C;obtain⟨ta,f,hsz1⟩:=zaa F;obtain⟨tb,g,hsz2⟩:=zaa C;have du:zq u<=3:=(by simp only[zq]at D;omega);have dv:zq v<=3:=(by simp only[zq]at E;omega);have es1:(a.extract 1 a.size).size=a.size-1:=(by rw[ByteArray.size_extract];omega);have es2:(b.extract 1 b.size).size=b.size-1:=(by rw[ByteArray.size_extract];omega);have m:u≠v:=fun h=>R (by rw[h])
    have HI:∀wx,Below w.heap.size w wx->_:=fun wx C=>ih wx (a.extract 1 a.size) (b.extract 1 b.size) v (P.mono C) ta tb N O du dv (Xf f A) (Xf g B)
    have HA:=fun wx=>qE a (.ty (.ar u)) wx F (qP G N D) (H A)
    have HB:=fun wx=>qE b (.ty (.ar v)) wx C (qP G O E) (H B)
    have o:=fun wx=>qE (a.extract 1 a.size) (.ty u) wx ta (qP G N du) (H (Xf f A))
    have p:=fun wx=>qE (b.extract 1 b.size) (.ty v) wx tb (qP G O dv) (H (Xf g B))
    obtain⟨Z,cap,rfl,_⟩:=P.open;refine(qcW w Z _ cap (29+a.size+b.size) (fun z=>Qo (QT (Za l) (.ty (.ar u)) (.ty (.ar v)))=lst z) a b _ _ (zm u) (zm v) HA HB o p ?_ ?_ (by omega) (by omega) L M (Zak F L) (Zak C M) rfl rfl (H A) (H B) T U V).mono ?_
    ·intro k wx C;rw[Bool.and_eq_true]at k;obtain⟨z,q,r⟩:=qcL (cs:=Za l) k.1 k.2;refine(HI wx C).mono ?_;rintro e w'⟨⟨t,rfl,S,aA⟩,X⟩;rw[q]at S;exact⟨⟨t,rfl,by rw[r,Qa0,<-S];rfl,by omega⟩,X⟩
    ·intro k;rw[zbd m (by cases hu:zm u<;>cases hv:zm v<;>simp[hu,hv]at k ⊢)];rfl
    ·rintro e w'⟨⟨t,rfl,S,aA⟩,X⟩;exact⟨⟨t,rfl,S,by omega⟩,X⟩
theorem QcW(l:List Qb)(G:Value)(J:Zk l)(B:∀c∈l,qd c=0)(w:World)(L:qj w G l)(a b:Str)(x y:Kd)(H:qaX (Za l) a x)(I:qaX (Za l) b y)(C:qah x<=3)(D:qah y<=3)(E:a.size<=4194304)(F:b.size<=4194304):
 Calls Tryz.prog 148 #[G,.string a,.string b] w (qak w (Za l) x y (30+a.size+b.size)):=by
 have A:=Zbe w l G J B L a b x y H.1 I.1 H.2 I.2 C D E F;cases x with
 |n=>exact A (Or.inr (Or.inr (Or.inr (Or.inl rfl))))
 |t=>exact A (Or.inr (Or.inr (Or.inr (Or.inl rfl))))
 |ty u =>
  cases y with
  |n=>exact A (Or.inr (Or.inr (Or.inr (Or.inr rfl))))
  |t=>exact A (Or.inr (Or.inr (Or.inr (Or.inr rfl))))
  |ty v=>exact zdh l G J B u w a b v L H.1 I.1 H.2 I.2 C D E F
theorem Qbu(a b:List Str)(T U:Value)(w:World)(V:Qh w T a)(X:Qh w U b):Calls Tryz.prog 105 #[T,U] w fun e w'=>e=.returned (.bool (decide (a=b)))/\Below w.heap.size w w':=by
 obtain⟨p,cap,rfl,l,m,F⟩:=V.open;obtain⟨q,n,rfl,r,s,G⟩:=X.open;have c:=Xh F;have d:=Xh G;have Y:a.length<=9223372036854775807:=Xf l m;clear V X F G;by_cases J:a.length=b.length
 ·have M:((a.length:Int) != (b.length:Int))=false:=by simp[J]
  go_enter Tryz.func105,Tryz.ntmps105;go_wp2_with fail;all_goals first|(exfalso;omega)|skip
  go_loopw [5] (fun i wr=>∃k:Nat,k<=a.length/\Hid (decide (a.drop k=b.drop k)=decide (a=b))/\Below w.heap.size w wr/\i=.int .i64 k) (fun i _=>a.length-(intOf i).toNat)
  case atStart=>exact⟨0,by omega,rfl,Xb,rfl⟩
  case round =>
   obtain⟨k,t,H,B,rfl⟩:=hrel;by_cases E:k<a.length
   ·obtain⟨x,L⟩:∃x,a[k]? = some x:=⟨a[k],by simp[E]⟩;obtain⟨y,R⟩:∃y,b[k]? = some y:=⟨b[k]'(by omega),by simp[<-J,E]⟩;obtain⟨v,z,vs,rfl,I,_,S⟩:=c.out k x L;unfold qs at I;subst I;obtain⟨b2,o2,vs,rfl,I,_,A⟩:=d.out k y R;unfold qs at I;subst I;have f:=(S.mono B S.lt).1;have g:=(A.mono B A.lt).1;rw[Nat.mul_one]at f g;have D:=Qb3 a b J k x y L R;rw[H.out,<-q8]at D;have o:=Xh L;have j:k<b.length:=(by omega);clear L R S A;cases Z:x.toList==y.toList with
    |true =>
     rw[Z,Bool.true_and]at D;have N:=Xh D.symm;clear D;go_upto_region 6 with fail;go_quiet (fail);go_wp2
     go_roundw;case rel=>exact⟨k+1,by omega,N.out,⟨B.os,B.tape,B.output,B.size,B.block⟩,by simp⟩
     case measure=>simp[intOf];omega
    |false =>
     rw[Z,Bool.false_and]at D;have O:=Xh D;clear D;go_upto_region 6 with fail;go_quiet (fail);go_wp2
     go_ret;exact⟨by rw[O.out];rfl,⟨B.os,B.tape,B.output,B.size,B.block⟩⟩
   ·obtain rfl:k=a.length:=(by omega);have C:decide (a=b)=true:=(by rw[<-H.out,Xg Xl,Xg (by omega)];rfl);have O:=Xh C;clear C;go_wp2_with fail;go_ret;exact⟨by rw[O.out];rfl,B⟩
 ·have P:decide (a=b)=false:=by simpa using fun h=>J (by rw[h])
  have M:((a.length:Int) != (b.length:Int))=true:=by simp;omega
  rw[P];go_enter Tryz.func105,Tryz.ntmps105;go_wp2_with fail;all_goals first|(exfalso;omega)|skip
  go_ret;exact⟨rfl,Xb⟩
set_option maxRecDepth 100000
theorem ZbH(a b:Frm)(D E F G:Value)(w:World)(L:zk w D E a)(M:zk w F G b):
 Calls Tryz.prog 61 #[.agg #[D,E],.agg #[F,G]] w fun e w'=>e=.returned (.bool (decide (a=b)))/\Below w.heap.size w w':=by
 have H:Hid (∀wx,Below w.heap.size w wx->_):=fun wx h=>Qbu a.locals b.locals D F wx (L.1.mono h) (M.1.mono h)
 have N:Hid (∀wx,Below w.heap.size w wx->_):=fun wx h=>Qbu a.stack b.stack E G wx (L.2.mono h) (M.2.mono h)
 rw[ZdT];clear L M;have I:=Xh (((Below.refl w.heap.size w).alloc Xl (.cells #[D,E] 27)).alloc (by simp) (.cells #[F,G] 27));obtain⟨J,B⟩:∃J,J=(w.alloc (.cells #[D,E] 27)).alloc (.cells #[F,G] 27):=⟨_,rfl⟩;have O:Hid (Blk J w.heap.size 27 [D,E]):=by
  rw[B];exact(Blk.new w 27 [D,E]).step (Xb.alloc Xl _)
 have P:Hid (Blk J (w.heap.size+1) 27 [F,G]):=by
  rw[B];have:=Blk.new (w.alloc (.cells #[D,E] 27)) 27 [F,G];unfold Hid;simpa using this
 rw[<-B]at I;have S:=Xh B.symm;clear B;generalize decide (a.locals=b.locals)=d at *;cases d with
 |true =>
  rw[Bool.true_and];generalize decide (a.stack=b.stack)=r at *;go_enter Tryz.func61,Tryz.ntmps61;go_wp2_with (first
   |(go_at_call 105;rw[S.out];(with_reducible refine(H.out _ I.out).mono ?_);rintro e T⟨rfl,C⟩;(have A:=Qa I Xl C);obtain⟨U,V⟩:=(O.out.step C).cells2;obtain⟨X,Y⟩:=(P.out.step C).cells2)
   |(go_fit (N.out _ A);rintro e Z⟨rfl,R⟩))
  go_ret;exact⟨rfl,Qa A Xl R⟩
 |false =>
  rw[Bool.false_and];go_enter Tryz.func61,Tryz.ntmps61;go_wp2_with (first
   |(go_at_call 105;rw[S.out];(with_reducible refine(H.out _ I.out).mono ?_);rintro e T⟨rfl,C⟩;(have A:=Qa I Xl C)))
  go_ret;exact⟨rfl,A⟩
set_option maxRecDepth 512
def Qeu(cs:List Qb)(a b:List Str):Prop:=(∀k∈a,zd cs k=0/\k.size<=4194304)/\∀k∈b,zd cs k=0/\k.size<=4194304
set_option maxRecDepth 100000
theorem za5(l:List Qb)(s:Value)(J:Zk l)(f:∀c∈l,qd c=0)(w:World)(P:qj w s l)(a b:List Str)(av bv:Value)(ha:Qh w av a)(t:Qh w bv b)(R:Qeu (Za l) a b)(h:a.length=b.length)(h8:a.length<=8):
 Calls Tryz.prog 104 #[s,av,bv] w fun e w'=>(∃v,e=.returned v/\Qh w' v (QO (Za l) a b))/\Below w.heap.size w w':=by
 have HO:Hid (∀wx x y,Below w.heap.size w wx->x∈a->y∈b->Calls Tryz.prog 148 #[s,.string x,.string y] wx fun e w'=>e=.returned (.string (QaV (Za l) x y))/\Below wx.heap.size wx w'):=fun wx x y N h1 h2=>by
  have L:=R.1 x h1;have M:=R.2 y h2;obtain⟨X,hX⟩:=ZM L.1;obtain⟨Y,hY⟩:=ZM M.1;refine(QcW l s J f wx (P.mono N) x y X Y hX hY (qar hX L.1) (qar hY M.1) L.2 M.2).mono ?_;rintro e w'⟨⟨z,rfl,hz,_⟩,hB'⟩;exact⟨by rw[qb3 hX.1 hY.1 hz],hB'⟩
 obtain⟨p1,c1,rfl,_,_,q⟩:=ha.open;obtain⟨p2,c2,rfl,_,_,r⟩:=t.open;obtain⟨pl,cap,rfl,_⟩:=P.open;obtain⟨n,F⟩:∃n,a.length=n:=⟨_,rfl⟩;have S:b.length=n:=by rw[<-h,F]
 rw[F,S];rw[F]at h8;have HA:=Xh q;have HB:=Xh r;have C:=Xh F;have T:=Xh S;obtain⟨i0,hi,hz0,hz1,hz2⟩:=info_parts qO;clear ha t q r F S h R P J f;generalize Za l=cs at *;go_enter Tryz.func104,Tryz.ntmps104;go_wp2_with fail;go_loopw [7,8] (fun v x wr=>∃k:Nat,k<=n/\Hid (wr.ownsRow w.heap.size 9 1 v k ((QO cs (a.take k) (b.take k)).map Value.string))/\Below w.heap.size w wr/\x=.int .i64 k) (fun _ x _=>n-(intOf x).toNat)
 case atStart=>exact⟨0,by omega,World.ownsRow_nil _ _ _ _,Xb,rfl⟩
 case round =>
  obtain⟨k,hk,A,N,rfl⟩:=hrel;obtain⟨va,vc,rfl⟩:=qe A.out;by_cases i:k<n
  ·obtain⟨x,L⟩:∃x,a[k]? = some x:=⟨a[k]'(by rw[C.out];exact i),by simp⟩;obtain⟨y,M⟩:∃y,b[k]? = some y:=⟨b[k]'(by rw[T.out];exact i),by simp⟩;obtain⟨ba,oa,vs,rfl,J,_,Z⟩:=HA.out k x L;unfold qs at J;subst J;obtain⟨bb,ob,vs,rfl,J,_,d⟩:=HB.out k y M;unfold qs at J;subst J;have c0:=(Z.mono N Z.lt).1;have d0:=(d.mono N d.lt).1;rw[Nat.mul_one]at c0 d0;have j:=qbj (cs:=cs) L M;have m:=Xh (fun wx t=>HO.out wx x y t (Xe L) (Xe M));generalize QaV cs x y=z at *;have aA:=Xh j;have I:=Xh N;clear j L M Z d N;go_upto_region 5 with fail;have o:k+1<=maxLen:=(by unfold maxLen;omega);have p:(k+1)*16<=140737488355328:=(by omega);have hi1:(k:Int)<(n:Int):=(by omega);have hi0:(0:Int)<=(k:Int):=(by omega);go_region_law (first
    |(refine step_append_lies _ (by rfl) _ _ 25 (by rfl) w.heap.size 9 i0 (.string .empty) 1 16 Tryz.underlying25 hi hz0 hz1 hz2 rfl (by decide) _ k _ (by rfl) E ⟨w6.heap.size,0,none⟩ 1 1 [.string z] (by rfl) rfl (zaA w6 _ 9) (Zcz _) (by decide) o p B (w6.heap.size+1) (by simp) ?_;intro g cap w8 G H hat hlt)
    |(go_simp;go_at_call 148;refine(m.out _ (I.out.drew)).mono ?_;rintro e w6⟨rfl,O⟩;(have U:=Qa ((Below.refl wr.heap.size wr).drew) Xl O);(have D:=U.alloc U.size (.cells #[.string z] 9));(have E:=ZN A.out D);(have B:=Xf I.out.size D.size)))
   all_goals
    have aB:=Xh G;have aC:=Xh ((Qa I Xl D).grown H (Qa I Xl D).size (fun g e=>(A.out.lt g e).1));clear D E B H hat hlt G U O A m c0 d0;go_wp2_with fail;go_roundw;case rel=>exact⟨k+1,by omega,by unfold Hid;rw[aA.out,List.map_append];exact aB.out,aC,by simp⟩
    case measure=>simp[intOf];omega
  ·obtain rfl:n=k:=(by omega);have R:=Qbj (cs:=cs) (a:=a) (b:=b) (by rw[C.out,T.out]);rw[C.out]at R;have V:=A.out;rw[R]at V;have aD:=Xh V;have aE:=Xh N;clear A N V R;go_wp2_with fail;go_ret;exact⟨⟨_,rfl,Ze (l:=QO cs a b) (by rw[Qam (by rw[C.out,T.out]),C.out];exact aD.out)⟩,aE⟩
theorem zbv(l:List Qb)(lv:Value)(hR:Zk l)(hcf:∀c∈l,qd c=0)(w:World)(I:qj w lv l)(a b:Frm)(a1 a2 b1 b2:Value)(ha:zk w a1 a2 a)(F:zk w b1 b2 b)(i:zaD a)(j:zaD b)(hza:Qx (Za l) a=0)(hzb:Qx (Za l) b=0):
 Calls Tryz.prog 60 #[lv,.agg #[a1,a2],.agg #[b1,b2]] w (ZaN w (Za l) a b):=by
 obtain⟨hla,hsa,X,Y⟩:=qw hza;obtain⟨_,_,Z,d⟩:=qw hzb;have o:Hid (a.locals.length=b.locals.length->∀wx,Below w.heap.size w wx->_):=fun hn wx E=>za5 l lv hR hcf wx (I.mono E) a.locals b.locals a1 b1 (ha.1.mono E) (F.1.mono E) ⟨fun k h=>⟨X k h,i.1 k h⟩,fun k h=>⟨Z k h,j.1 k h⟩⟩ hn hla
 have q:Hid (a.stack.length=b.stack.length->∀wx,Below w.heap.size w wx->_):=fun hn wx E=>za5 l lv hR hcf wx (I.mono E) a.stack b.stack a2 b2 (ha.2.mono E) (F.2.mono E) ⟨fun k h=>⟨Y k h,i.2 k h⟩,fun k h=>⟨d k h,j.2 k h⟩⟩ hn hsa
 obtain⟨J,L,rfl,_⟩:=ha.1.open;obtain⟨M,N,rfl,_⟩:=ha.2.open;obtain⟨O,P,rfl,_⟩:=F.1.open;obtain⟨R,S,rfl,_⟩:=F.2.open;obtain⟨pl,cap,rfl,_⟩:=I.open;obtain⟨n,T⟩:∃n,a.locals.length=n:=⟨_,rfl⟩;obtain⟨U,V⟩:∃n,b.locals.length=n:=⟨_,rfl⟩;obtain⟨m,G⟩:∃n,a.stack.length=n:=⟨_,rfl⟩;obtain⟨f,H⟩:∃n,b.stack.length=n:=⟨_,rfl⟩;have A:zR a b=(decide (n=U)&&decide (m=f)):=by unfold zR;rw[T,V,G,H]
 rw[T,V]at o;rw[G,H]at q;rw[T,V,G,H];obtain⟨B,D⟩:∃B,B=((w.alloc (.cells #[.slice J n L,.slice M m N] 27)).alloc (.cells #[.slice O U P,.slice R f S] 27)).alloc (.cells #[.slice none 0 0,.slice none 0 0] 27):=⟨_,rfl⟩;have r:Hid (Below w.heap.size w B):=by rw[D];exact((Xb.alloc Xl _).alloc (by simp) _).alloc (by simp;omega) _
 have t:Hid (Blk B w.heap.size 27 [.slice J n L,.slice M m N]):=by
  rw[D];exact(Blk.new w 27 _).step ((Xb.alloc Xl _).alloc (by simp) _)
 have x:Hid (Blk B (w.heap.size+1) 27 [.slice O U P,.slice R f S]):=by
  rw[D];have:=(Blk.new (w.alloc (.cells #[.slice J n L,.slice M m N] 27)) 27 [.slice O U P,.slice R f S]).step (Xb.alloc Xl (.cells #[.slice none 0 0,.slice none 0 0] 27));unfold Hid;simpa using this
 have HK2:Hid (Blk B (w.heap.size+1+1) 27 [.slice none 0 0,.slice none 0 0]):=by
  rw[D];have:=Blk.new ((w.alloc (.cells #[.slice J n L,.slice M m N] 27)).alloc (.cells #[.slice O U P,.slice R f S] 27)) 27 [.slice none 0 0,.slice none 0 0];unfold Hid;simpa using this
 have HW:=Xh D.symm;have y:=Xh ((((Below.refl w.heap.size w).alloc Xl (.cells #[.slice J n L,.slice M m N] 27)).alloc (by simp) (.cells #[.slice O U P,.slice R f S] 27)).alloc (by simp;omega) (.cells #[.slice none 0 0,.slice none 0 0] 27));unfold ZaN;clear X Y Z d hza hzb i j ha F I D T V G H hla hsa;by_cases h1:n=U
 ·by_cases h2:m=f
  ·subst h1 h2;have z:((n:Int) != (n:Int))=false:=(by simp);have z2:((m:Int) != (m:Int))=false:=(by simp);rw[Xj rfl,Xj rfl,Bool.and_true]at A;have HS:=Xh A;have HL1:=Xh (o.out rfl);have HL2:=Xh (q.out rfl);clear A y o q;go_enter Tryz.func60,Tryz.ntmps60;go_upto_region 3 with fail;rw[HW.out];obtain⟨q0,q1⟩:=t.out.cells2;obtain⟨q2,q3⟩:=x.out.cells2;have HC1:Hid (∀wx,Below B.heap.size B wx->Calls Tryz.prog 104 #[.slice pl l.length cap,.slice J n L,.slice O n P] wx fun e w'=>(∃p k,e=.returned (.slice p (QO (Za l) a.locals b.locals).length k)/\Qh w' (.slice p (QO (Za l) a.locals b.locals).length k) (QO (Za l) a.locals b.locals)/\Below wx.heap.size wx w')/\Below B.heap.size B w'/\w'.cell? ⟨w.heap.size,0,none⟩=some (.slice J n L)/\w'.cell? ⟨w.heap.size,1,none⟩=some (.slice M m N)/\w'.cell? ⟨w.heap.size+1,0,none⟩=some (.slice O n P)/\w'.cell? ⟨w.heap.size+1,1,none⟩=some (.slice R m S)):=fun wx F =>
    (HL1.out wx (Qa r Xl F)).mono fun e w' ⟨⟨v,he,hv⟩,E⟩=>by
     obtain⟨p,k,rfl,_⟩:=hv.open;have C:=Qa F Xl E;obtain⟨z0,z⟩:=(t.out.step C).cells2;obtain⟨z2,z3⟩:=(x.out.step C).cells2;exact⟨⟨p,k,he,hv,E⟩,C,z0,z,z2,z3⟩
   have HC2:Hid (∀wx,Below B.heap.size B wx->Calls Tryz.prog 104 #[.slice pl l.length cap,.slice M m N,.slice R m S] wx fun e w'=>(∃p k,e=.returned (.slice p (QO (Za l) a.stack b.stack).length k)/\Qh w' (.slice p (QO (Za l) a.stack b.stack).length k) (QO (Za l) a.stack b.stack)/\Below wx.heap.size wx w')/\Below B.heap.size B w'/\w'.cell? ⟨w.heap.size,0,none⟩=some (.slice J n L)/\w'.cell? ⟨w.heap.size,1,none⟩=some (.slice M m N)/\w'.cell? ⟨w.heap.size+1,0,none⟩=some (.slice O n P)/\w'.cell? ⟨w.heap.size+1,1,none⟩=some (.slice R m S)):=fun wx F =>
    (HL2.out wx (Qa r Xl F)).mono fun e w' ⟨⟨v,he,hv⟩,E⟩=>by
     obtain⟨p,k,rfl,_⟩:=hv.open;have C:=Qa F Xl E;obtain⟨z0,z⟩:=(t.out.step C).cells2;obtain⟨z2,z3⟩:=(x.out.step C).cells2;exact⟨⟨p,k,he,hv,E⟩,C,z0,z,z2,z3⟩
   have hBd:=(Below.refl B.heap.size B).drew;clear HL1 HL2;have G:¬w.heap.size=w.heap.size+1+1:=(by omega);have H:¬w.heap.size+1+1=w.heap.size:=(by omega);go_region_held3 (fun w'=>w'.cell? ⟨w.heap.size,0,none⟩=some (.slice J n L)/\w'.cell? ⟨w.heap.size,1,none⟩=some (.slice M m N)/\w'.cell? ⟨w.heap.size+1,0,none⟩=some (.slice O n P)/\w'.cell? ⟨w.heap.size+1,1,none⟩=some (.slice R m S)) (go_keep)
    (first
     |(go_fit (HC1.out _ ?_);(exact hBd);rintro e w4⟨⟨pa,ka,rfl,hv1,_⟩,hB4,z0,z,z2,z3⟩)
     |(go_fit (HC2.out _ ?_);(exact hB4);rintro e w5⟨⟨pb,kb,rfl,hv2,hB45⟩,hB5,y0,y1,y2,y3⟩;(have i2:=HK2.out.step hB5);obtain⟨s0,s1⟩:=i2.cells2;(have f0:=i2.frozen 0);(have f1:=i2.frozen 1)))
   all_goals
    have hr1:=Qh.apart (hv1.mono hB45) i2 (fun s h=>by cases h) (fun s h=>by cases h) (w':=((w5.setCell ⟨w.heap.size+1+1,0,none⟩ (.slice pa (QO (Za l) a.locals b.locals).length ka)).setCell ⟨w.heap.size+1+1,1,none⟩ (.slice pb (QO (Za l) a.stack b.stack).length kb))) (fun g hg=>by rw[Xk _ _ _ _ hg,Xk _ _ _ _ hg]);have hr2:=Qh.apart hv2 i2 (fun s h=>by cases h) (fun s h=>by cases h) (w':=((w5.setCell ⟨w.heap.size+1+1,0,none⟩ (.slice pa (QO (Za l) a.locals b.locals).length ka)).setCell ⟨w.heap.size+1+1,1,none⟩ (.slice pb (QO (Za l) a.stack b.stack).length kb))) (fun g hg=>by rw[Xk _ _ _ _ hg,Xk _ _ _ _ hg]);have hbs:=Q5 (b:=w.heap.size+1+1) (Qa r Xl hB5) (by omega) (.slice pa (QO (Za l) a.locals b.locals).length ka) (.slice pb (QO (Za l) a.stack b.stack).length kb);have HR1:=Xh hr1;have HR2:=Xh hr2;have HBs:=Xh hbs;clear hr1 hr2 hbs;go_wp2_with fail;exact bodyPost_ret (v:=.tuple #[.agg #[.slice pa (QO (Za l) a.locals b.locals).length ka,.slice pb (QO (Za l) a.stack b.stack).length kb],.bool true]) (by simp[results,Tryz.results60,go_sem, *]) rfl ⟨HBs,Or.inl ⟨HS,_,_,rfl,HR1,HR2⟩⟩
  ·have z:((n:Int) != (U:Int))=false:=(by simp[h1]);have z2:((m:Int) != (f:Int))=true:=(by simp;omega);rw[Xi h2,Bool.and_false]at A;have HS:=Xh A;clear A h1 h2;go_enter Tryz.func60,Tryz.ntmps60;go_wp2_with fail;exact bodyPost_ret (v:=.tuple #[.agg #[.slice none 0 0,.slice none 0 0],.bool false]) (by simp[results,Tryz.results60,go_sem, *]) rfl ⟨y,Or.inr ⟨HS,rfl⟩⟩
 ·have z:((n:Int) != (U:Int))=true:=by simp;omega
  rw[Xi h1,Bool.false_and]at A;have HS:=Xh A;clear A h1;go_enter Tryz.func60,Tryz.ntmps60;go_wp2_with fail;exact bodyPost_ret (v:=.tuple #[.agg #[.slice none 0 0,.slice none 0 0],.bool false]) (by simp[results,Tryz.results60,go_sem, *]) rfl ⟨y,Or.inr ⟨HS,rfl⟩⟩
set_option maxRecDepth 512
end Go.Proofs.YtlmfmioljeppfaaGreatDoor
