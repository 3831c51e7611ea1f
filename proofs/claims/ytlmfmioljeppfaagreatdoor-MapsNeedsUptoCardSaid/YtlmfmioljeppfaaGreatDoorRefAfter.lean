/- Lemmas; conditions: as each states. -/
import Derived.Test.YtlmfmioljeppfaaGreatDoorRefNames
import Derived.Test.YtlmfmioljeppfaaGreatDoorMethodMaps
set_option maxHeartbeats 4000000
namespace Go.Proofs.YtlmfmioljeppfaaGreatDoor
open Go.RowKit Go.Shelf Go.Lib
theorem Zcc(w:World){base:Nat}(B:base<=w.heap.size)(x:Nat):Que (w.alloc (.cells #[.int .i64 (x:Int)] 3)) base (.slice (some ⟨w.heap.size,0,none⟩) 1 1) [x]:=by
 refine Or.inr ⟨w.heap.size,0,1,_,rfl,B,heap_alloc_new _ _,Xl,by decide,Xl,fun u C=>?_,fun j y A=>?_⟩
 ·exact⟨_,by simpa using C⟩
 ·cases j with
  |zero=>rw[show x=y by simpa using A];rfl
  |succ j=>simp at A
theorem zd6(w:World){base:Nat}(C:base<=w.heap.size)(x y:Nat):Que (w.alloc (.cells #[.int .i64 (x:Int),.int .i64 (y:Int)] 3)) base (.slice (some ⟨w.heap.size,0,none⟩) 2 2) [x,y]:=by
 refine Or.inr ⟨w.heap.size,0,2,_,rfl,C,heap_alloc_new _ _,Xl,by decide,Xl,fun u B=>?_,fun j z A=>?_⟩
 ·have B:u=.int .i64 (x:Int)\/u=.int .i64 (y:Int):=by simpa using B
  rcases B with rfl|rfl
  ·exact⟨_,rfl⟩
  ·exact⟨_,rfl⟩
 ·match j,A with
  |0,A=>rw[show x=z by simpa using A];rfl
  |1,A=>rw[show y=z by simpa using A];rfl
  |j+2,A=>simp at A
set_option maxRecDepth 100000
theorem Qcz(A:List Ins)(V:Value)(w:World)(h:Zg w 6 Zw V A)(i:Nat)(x:Ins)(X:A[i]? = some x)(f:i<=64)(N:zu x.op=true->0<=x.a):
 Calls Tryz.prog 28 #[V,.int .i64 (i:Int)] w fun e w'=>∃v,e=.returned v/\Below w.heap.size w w'/\Que w' w.heap.size v (qax x i):=by
 obtain⟨S,rfl⟩:=List.getElem?_eq_some_iff.1 X;obtain⟨b,o,cap,vs,rfl,T,_,U⟩:=h.at S;unfold Zw at T;have Y:qax A[i] i=(if Zad A[i].op then [] else [i+1])++(if zu A[i].op&&(A[i].op==14||A[i].a != (i:Int)+1) then [A[i].a.toNat] else []):=rfl;rw[Y];have O:Hid (∀wx,_):=fun wx=>zbO A[i].op wx
 have M:Hid (∀wx,_):=fun wx=>qao A[i].op wx
 have d:(i:Int)<(A.length:Int):=by omega
 obtain⟨j,k,l,m,p,q,_⟩:=(by rw[T]at U;exact U:QG w b (o+i*6) [.int .i64 A[i].op,.int .i64 A[i].a,.int .i64 A[i].b,.string A[i].type,.string A[i].cls,.string A[i].name]);clear Y T U h X;generalize A[i]=y at *;obtain⟨D,a,I,B,cls,C⟩:=y;dsimp only at *;have Z:(i:Int)+1<=100:=by omega
 have F:zu D=true->Zad D=true->(D==14)=true:=by
  unfold zu Zad;intro R c;have R:D=12\/D=13\/D=14:=by simpa[or_assoc] using R
  rcases R with rfl|rfl|rfl
  ·exact absurd c (by decide)
  ·exact absurd c (by decide)
  ·rfl
 go_enter Tryz.func28,Tryz.ntmps28;cases J:(D==14) with
 |true =>
  obtain rfl:D=14:=by simpa using J
  obtain⟨n,rfl⟩:=Int.eq_ofNat_of_zero_le (N (by decide));clear F J N;simp only[show Zad 14=true from rfl,show zu 14=true from rfl,if_true,Bool.true_and,Bool.true_or,List.nil_append,Int.toNat_natCast];have G:Below w.heap.size w ((w.alloc (.cells #[.int .i64 14,.int .i64 (n:Int),.int .i64 I,.string B,.string cls,.string C] 24)).alloc (.cells #[.int .i64 (n:Int)] 3)):=(Xb.alloc Xl _).alloc (by simp) _;have E:=Zcc (w.alloc (.cells #[.int .i64 14,.int .i64 (n:Int),.int .i64 I,.string B,.string cls,.string C] 24)) (base:=w.heap.size) (by simp) n;rw[World.size_alloc]at E;go_wp2_with (first
   |(go_fit (O.out _);rintro e L⟨rfl,rfl⟩)
   |(go_fit (M.out _);rintro e L⟨rfl,rfl⟩))
  go_ret;exact⟨_,rfl,G,E⟩
 |false =>
  cases P:Zad D with
  |true =>
   have H:zu D=false:=by
    cases H:zu D with
    |false=>rfl
    |true=>rw[F H P]at J;cases J
   rw[P]at O;rw[H]at M ⊢;simp only[if_true,Bool.false_and,Bool.false_eq_true,if_false,List.append_nil];clear F P H N;have G:Below w.heap.size w (w.alloc (.cells #[.int .i64 D,.int .i64 a,.int .i64 I,.string B,.string cls,.string C] 24)):=Xb.alloc Xl _;have E:=Que.empty (w.alloc (.cells #[.int .i64 D,.int .i64 a,.int .i64 I,.string B,.string cls,.string C] 24)) w.heap.size;go_wp2_with (first
    |(go_fit (O.out _);rintro e L⟨rfl,rfl⟩)
    |(go_fit (M.out _);rintro e L⟨rfl,rfl⟩))
   go_ret;exact⟨_,rfl,G,E⟩
  |false =>
   rw[P]at O;cases H:zu D with
   |true =>
    obtain⟨n,rfl⟩:=Int.eq_ofNat_of_zero_le (N H);rw[H]at M;cases g:((n:Int) != (i:Int)+1) with
    |true =>
     simp only[Bool.false_eq_true,if_false,Bool.true_and,Bool.or_true,if_true,List.cons_append,List.nil_append,Int.toNat_natCast];clear F P H N;have G:Below w.heap.size w ((w.alloc (.cells #[.int .i64 D,.int .i64 (n:Int),.int .i64 I,.string B,.string cls,.string C] 24)).alloc (.cells #[.int .i64 ((i+1:Nat):Int),.int .i64 (n:Int)] 3)):=(Xb.alloc Xl _).alloc (by simp) _;have E:=zd6 (w.alloc (.cells #[.int .i64 D,.int .i64 (n:Int),.int .i64 I,.string B,.string cls,.string C] 24)) (base:=w.heap.size) (by simp) (i+1) n;rw[World.size_alloc]at E;simp only[Int.natCast_add,Int.natCast_one]at G E;go_wp2_with (first
     |(go_fit (O.out _);rintro e L⟨rfl,rfl⟩)
     |(go_fit (M.out _);rintro e L⟨rfl,rfl⟩))
     go_ret;exact⟨_,rfl,G,E⟩
    |false =>
     simp only[Bool.false_eq_true,if_false,Bool.true_and,Bool.or_false,List.append_nil];clear F P H N;have G:Below w.heap.size w ((w.alloc (.cells #[.int .i64 D,.int .i64 (n:Int),.int .i64 I,.string B,.string cls,.string C] 24)).alloc (.cells #[.int .i64 ((i+1:Nat):Int)] 3)):=(Xb.alloc Xl _).alloc (by simp) _;have E:=Zcc (w.alloc (.cells #[.int .i64 D,.int .i64 (n:Int),.int .i64 I,.string B,.string cls,.string C] 24)) (base:=w.heap.size) (by simp) (i+1);rw[World.size_alloc]at E;simp only[Int.natCast_add,Int.natCast_one]at G E;go_wp2_with (first
     |(go_fit (O.out _);rintro e L⟨rfl,rfl⟩)
     |(go_fit (M.out _);rintro e L⟨rfl,rfl⟩))
     go_ret;exact⟨_,rfl,G,E⟩
   |false =>
    rw[H]at M;simp only[Bool.false_eq_true,if_false,Bool.false_and,List.append_nil];clear F P H N;have G:Below w.heap.size w ((w.alloc (.cells #[.int .i64 D,.int .i64 a,.int .i64 I,.string B,.string cls,.string C] 24)).alloc (.cells #[.int .i64 ((i+1:Nat):Int)] 3)):=(Xb.alloc Xl _).alloc (by simp) _;have E:=Zcc (w.alloc (.cells #[.int .i64 D,.int .i64 a,.int .i64 I,.string B,.string cls,.string C] 24)) (base:=w.heap.size) (by simp) (i+1);rw[World.size_alloc]at E;simp only[Int.natCast_add,Int.natCast_one]at G E;go_wp2_with (first
     |(go_fit (O.out _);rintro e L⟨rfl,rfl⟩)
     |(go_fit (M.out _);rintro e L⟨rfl,rfl⟩))
    go_ret;exact⟨_,rfl,G,E⟩
set_option maxRecDepth 512
def qcc(w:World)(l:List Qb)(cls:Str)(at':Int)(e:Ending)(w':World):Prop :=
 Below w.heap.size w w'/\((qD l cls at'=0/\∃m v,qS cls at' l=some m/\Hid (m.abs=false)/\e=.returned (.tuple #[v,.int .i64 0])/\zZ w m v) \/
  (qD l cls at'≠0/\e=.returned (.tuple #[.agg Zn.toArray,.int .i64 (qD l cls at')])))
set_option maxRecDepth 100000
theorem Zbm(l:List Qb)(lv:Value)(cls:Str)(at':Int)(w:World)(ho:∀c∈l,qab c)(M:qj w lv l):
 Calls Tryz.prog 23 #[lv,.string cls,.int .i64 at'] w (qcc w l cls at'):=by
 have y:Below w.heap.size w (w.alloc (.cells #[.string ⟨#[]⟩,.string ⟨#[]⟩,.bool false,.bool false,.bool false,.int .i64 0,.slice none 0 0,.slice none 0 0] 53)):=Xb.alloc Xl _;have J:=Xh (zcC l lv _ ho (M.mono y));obtain⟨pl,cap,rfl,hn1,hn2,g⟩:=M.open;have HC:=Xh g;have hlen:l.length<=9223372036854775807:=Xf hn1 hn2;have z:=Blk.new w 53 Zn;clear g M ho;by_cases S:Zp l=0
 ·have T:Hid (qD l cls at'=match qS cls at' l with|none=>3|some m=>if m.abs then 1 else 0):=by
   unfold Hid qD;rw[if_neg (by rw[S];decide)];cases qS cls at' l<;>rfl
  rw[S]at J;clear S;go_enter Tryz.func23,Tryz.ntmps23;go_wp2_with (go_fit (J.out);rintro e w2⟨rfl,D⟩)
  have U:=z.step D;have F:=Xh (Qa y Xl D);have X:=Xh U;clear z y D U J;go_loopw [9] (fun x wr=>∃k:Nat,k<=l.length/\x=.int .i64 k/\w2=wr/\Hid (qS cls at' (l.drop k)=qS cls at' l)) (fun x _=>l.length-(intOf x).toNat)
  case atStart=>exact⟨0,Nat.zero_le _,rfl,rfl,rfl⟩
  case round =>
   obtain⟨k,hk,rfl,rfl,hN⟩:=hrel;by_cases hkl:k<l.length
   ·obtain⟨c,hx⟩:∃x,l[k]? = some x:=⟨l[k],by simp[hkl]⟩;obtain⟨b,o,vs,rfl,⟨fv,dv,mv,rfl,q1,q2,V⟩,_,Y⟩:=HC.out k c hx;have Y:=Y.mono F.out Y.lt;have G:=ZbM (cls:=cls) (at':=at') hx;rw[hN.out]at G;obtain⟨cn,cs,cf,cb,cd,O⟩:=c;dsimp only at G Y V;obtain⟨pm,km,rfl,hm1,hm2,i⟩:=V.open;obtain⟨c0,c1,c2,c3,c4,c5,_⟩:=Y;have c5':w2.cell? ⟨b,o+k*6+5,none⟩=some (.slice pm O.length km):=c5;have e1:=q8 cn cls;have hmlen:O.length<=9223372036854775807:=Xf hm1 hm2;have HMc:=Xh i;have Hx:=Xh hx;clear hx i q1 q2 V;by_cases B:cn=cls
    ·rw[Xj B]at e1;by_cases ha:0<=at'/\at'<(O.length:Int)
     ·obtain⟨P,ha1⟩:=ha;obtain⟨a,rfl⟩:=Int.eq_ofNat_of_zero_le P;rw[if_pos ⟨B,P,ha1⟩]at G;have hal:a<O.length:=(by omega);obtain⟨C,R⟩:∃x,O[a]? = some x:=⟨O[a],by simp[hal]⟩;have A:qS cls (a:Int) l=some C:=(by rw[G];exact R);obtain⟨bb,oo,vs,rfl,⟨cv,hv,rfl,k1,U⟩,_,H⟩:=HMc.out a C R;have H:=H.mono F.out H.lt;obtain⟨pc,kc,rfl,_⟩:=k1.open;obtain⟨ph,kh,rfl,_⟩:=U.open;have Z:Hid (zZ w C (.agg #[.string C.name,.string C.type,.bool C.static,.bool C.abs,.bool C.priv,.int .i64 C.locals,.slice pc C.code.length kc,.slice ph C.handlers.length kh])):=⟨pc,kc,ph,kh,rfl,k1,U⟩;have HSt:=Xh A;have I:Hid (qD l cls (a:Int)=if C.abs then 1 else 0):=by
       unfold Hid;rw[T.out,A]
      clear A G R k1 U T hN P;subst B;obtain⟨mn,mt,j,p,q,r,s,t⟩:=C;dsimp only at H I Z;obtain⟨u0,u1,u2,u3,u4,u5,u6,u7,_⟩:=H;have u3':w2.cell? ⟨bb,oo+a*8+3,none⟩=some (.bool p):=u3;have E:=X.out;obtain⟨q0,q1,q2,V,q4,q5,q6,q7⟩:=E.method;have d:=E.frozen;cases p with
      |true =>
       have L:Hid (qD l cn (a:Int)=1):=I.out;have N:=Xh (ZB F.out Xl (.string ⟨#[]⟩) (.string ⟨#[]⟩) (.bool false) (.bool false) (.bool false) (.int .i64 0) (.slice none 0 0) (.slice none 0 0));clear E I;go_wp2_with fail;exact bodyPost_ret (v:=.tuple #[.agg Zn.toArray,.int .i64 1]) (by simp[results,Tryz.results23,go_sem, *,Zn]) rfl ⟨N,Or.inr ⟨by rw[L.out];decide,by rw[L.out];rfl⟩⟩
      |false =>
       have L:Hid (qD l cn (a:Int)=0):=I.out;have N:=Xh (ZB F.out Xl (.string mn) (.string mt) (.bool j) (.bool false) (.bool q) (.int .i64 r) (.slice pc s.length kc) (.slice ph t.length kh));clear E I;go_wp2_with fail;exact bodyPost_ret (v:=.tuple #[.agg #[.string mn,.string mt,.bool j,.bool false,.bool q,.int .i64 r,.slice pc s.length kc,.slice ph t.length kh],.int .i64 0]) (by simp[results,Tryz.results23,go_sem, *]) rfl ⟨N,Or.inl ⟨L,_,_,HSt,rfl,rfl,Z⟩⟩
     ·rw[if_neg (fun h=>ha h.2)]at G;have A:=Xh G.symm;have HI:=Xh ha;clear G ha;by_cases h0:0<=at'
      ·have h1:¬at'<(O.length:Int):=fun h=>HI.out ⟨h0,h⟩
       go_wp2_with fail;go_roundw;case rel=>exact⟨k+1,by omega,by simp,trivial,A⟩
       case measure=>simp[intOf];omega
      ·go_wp2_with fail;go_roundw;case rel=>exact⟨k+1,by omega,by simp,trivial,A⟩
       case measure=>simp[intOf];omega
    ·rw[Xi B]at e1;rw[if_neg (fun h=>B h.1)]at G;have A:=Xh G.symm;clear G B;go_wp2_with fail;go_roundw;case rel=>exact⟨k+1,by omega,by simp,trivial,A⟩
     case measure=>simp[intOf];omega
   ·obtain rfl:k=l.length:=(by omega);have hNo:qS cls at' l=none:=by
     rw[<-hN.out,List.drop_length];rfl
    have f:Hid (qD l cls at'=3):=by
     unfold Hid;rw[T.out,hNo]
    have E:=X.out;obtain⟨q0,q1,q2,V,q4,q5,q6,q7⟩:=E.method;have d:=E.frozen;have N:=Xh (ZB F.out Xl (.string ⟨#[]⟩) (.string ⟨#[]⟩) (.bool false) (.bool false) (.bool false) (.int .i64 0) (.slice none 0 0) (.slice none 0 0));clear E;go_wp2_with fail;exact bodyPost_ret (v:=.tuple #[.agg Zn.toArray,.int .i64 3]) (by simp[results,Tryz.results23,go_sem, *,Zn]) rfl ⟨N,Or.inr ⟨by rw[f.out];decide,by rw[f.out];rfl⟩⟩
 ·have T:Hid (qD l cls at'=Zp l):=by
   unfold Hid qD;rw[if_pos S]
  have HZ:=Xh S;have hzI:¬((Zp l:Nat):Int)=0:=by omega
  clear S;generalize Zp l=n at *;go_enter Tryz.func23,Tryz.ntmps23;go_upto_region 3 with(go_fit (J.out);rintro e w2⟨rfl,D⟩)
  have E:=z.step D;obtain⟨q0,q1,q2,V,q4,q5,q6,q7⟩:=E.method;have d:=E.frozen;have N:=Xh (ZB (Qa y Xl D) Xl (.string ⟨#[]⟩) (.string ⟨#[]⟩) (.bool false) (.bool false) (.bool false) (.int .i64 0) (.slice none 0 0) (.slice none 0 0));clear E z;go_wp2_with fail;exact bodyPost_ret (v:=.tuple #[.agg Zn.toArray,.int .i64 (n:Int)]) (by simp[results,Tryz.results23,go_sem, *,Zn]) rfl ⟨N,Or.inr ⟨by rw[T.out];exact HZ.out,by rw[T.out]⟩⟩
set_option maxRecDepth 512
end Go.Proofs.YtlmfmioljeppfaaGreatDoor
