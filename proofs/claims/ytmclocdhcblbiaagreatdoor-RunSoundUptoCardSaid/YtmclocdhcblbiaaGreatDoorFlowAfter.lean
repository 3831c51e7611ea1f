/- Lemmas; conditions: as each states. -/
import Derived.Test.YtmclocdhcblbiaaGreatDoorFrameMap
set_option maxHeartbeats 4000000
namespace Go.Proofs.YtmclocdhcblbiaaGreatDoor
open Go.RowKit Go.Shelf Go.Lib
theorem Qbc(w:World)(x:Nat)(t:TypeId):(w.alloc (.cells #[.int .i64 (x:Int)] t)).cell? ((⟨w.heap.size,0,none⟩:Addr).add 0)=some (zac x):=by
 rw[zch rfl,cell_of_row _ _ _ #[.int .i64 (x:Int)] t (0,0) (heap_alloc_new _ _)];rfl
set_option maxRecDepth 100000
theorem qcJ(A:List Ins)(l:Value)(w:World)(h:qe w 6 qw l A)(i:Nat)(x:Ins)(m:A[i]? = some x)(hi:i<=64)(p:ZS x.op=true->0<=x.a):
 Calls Tryz.prog 107 #[l,.int .i64 (i:Int)] w fun e w'=>∃v,e=.returned v/\Below w.heap.size w w'/\Que w' w.heap.size v (QS x i):=by
 obtain⟨Z,rfl⟩:=List.getElem?_eq_some_iff.1 m;obtain⟨b,o,cap,vs,rfl,c,_,d⟩:=h.at Z;unfold qw at c;have q:QS A[i] i=(if Zac A[i].op then [] else [i+1])++(if ZS A[i].op&&(A[i].op==14||A[i].a != (i:Int)+1) then [A[i].a.toNat] else []):=rfl;rw[q];have T:Hid (∀wx,_):=fun wx=>Qdm A[i].op wx
 have S:Hid (∀wx,_):=fun wx=>Zbu A[i].op wx
 have aA:(i:Int)<(A.length:Int):=by omega
 obtain⟨c0,c1,c2,c3,c4,c5,_⟩:=(by rw[c]at d;exact d:QB w b (o+i*6) [.int .i64 A[i].op,.int .i64 A[i].a,.int .i64 A[i].b,.string A[i].type,.string A[i].cls,.string A[i].name]);clear q c d h m;generalize A[i]=y at *;obtain⟨G,a,O,B,cls,C⟩:=y;dsimp only at *;have r:(i:Int)+1<=100:=by omega
 cases t:Zac G with
 |true =>
  rw[t]at T;go_enter Tryz.func107,Tryz.ntmps107;cases U:ZS G with
  |false =>
   rw[U]at S;have I:Below w.heap.size w (w.alloc (.cells #[.int .i64 G,.int .i64 a,.int .i64 O,.string B,.string cls,.string C] 34)):=Xb.alloc Xl _;have J:=Que.empty (w.alloc (.cells #[.int .i64 G,.int .i64 a,.int .i64 O,.string B,.string cls,.string C] 34)) w.heap.size;go_wp2_with (first
    |(go_fit (T.out _);rintro e H⟨rfl,rfl⟩)
    |(go_fit (S.out _);rintro e H⟨rfl,rfl⟩))
   go_ret;exact⟨_,rfl,I,J⟩
  |true =>
   rw[U]at S;obtain⟨n,rfl⟩:=Int.eq_ofNat_of_zero_le (p U);cases Y:(G==14) with
   |true =>
    have L:=Que.empty ((w.alloc (.cells #[.int .i64 G,.int .i64 (n:Int),.int .i64 O,.string B,.string cls,.string C] 34)).alloc (.cells #[.int .i64 (n:Int)] 3)) w.heap.size;have F:Below w.heap.size w ((w.alloc (.cells #[.int .i64 G,.int .i64 (n:Int),.int .i64 O,.string B,.string cls,.string C] 34)).alloc (.cells #[.int .i64 (n:Int)] 3)):=(Xb.alloc Xl _).alloc (by simp) _;have D:=Qbc (w.alloc (.cells #[.int .i64 G,.int .i64 (n:Int),.int .i64 O,.string B,.string cls,.string C] 34)) n 3;rw[World.size_alloc]at D;have E:=F.size;go_wp2_with (first
     |(go_fit (T.out _);rintro e H⟨rfl,rfl⟩)
     |(go_fit (S.out _);rintro e H⟨rfl,rfl⟩)
     |(at_builtin;go_must (refine QL rfl _ _ rfl w.heap.size _ [] rfl L E n _ 1 rfl D (by simp[maxLen]) (by simp) ?_);intro f j M N _))
    go_ret;exact⟨_,rfl,F.grown N F.size (fun g e=>(L.lt g e).1),M⟩
   |false =>
    cases hn:((n:Int) != (i:Int)+1) with
    |true =>
     have L:=Que.empty ((w.alloc (.cells #[.int .i64 G,.int .i64 (n:Int),.int .i64 O,.string B,.string cls,.string C] 34)).alloc (.cells #[.int .i64 (n:Int)] 3)) w.heap.size;have F:Below w.heap.size w ((w.alloc (.cells #[.int .i64 G,.int .i64 (n:Int),.int .i64 O,.string B,.string cls,.string C] 34)).alloc (.cells #[.int .i64 (n:Int)] 3)):=(Xb.alloc Xl _).alloc (by simp) _;have D:=Qbc (w.alloc (.cells #[.int .i64 G,.int .i64 (n:Int),.int .i64 O,.string B,.string cls,.string C] 34)) n 3;rw[World.size_alloc]at D;have E:=F.size;go_wp2_with (first
      |(go_fit (T.out _);rintro e H⟨rfl,rfl⟩)
      |(go_fit (S.out _);rintro e H⟨rfl,rfl⟩)
      |(at_builtin;go_must (refine QL rfl _ _ rfl w.heap.size _ [] rfl L E n _ 1 rfl D (by simp[maxLen]) (by simp) ?_);intro f j M N _))
     go_ret;exact⟨_,rfl,F.grown N F.size (fun g e=>(L.lt g e).1),M⟩
    |false =>
     have I:Below w.heap.size w (w.alloc (.cells #[.int .i64 G,.int .i64 (n:Int),.int .i64 O,.string B,.string cls,.string C] 34)):=Xb.alloc Xl _;have J:=Que.empty (w.alloc (.cells #[.int .i64 G,.int .i64 (n:Int),.int .i64 O,.string B,.string cls,.string C] 34)) w.heap.size;go_wp2_with (first
      |(go_fit (T.out _);rintro e H⟨rfl,rfl⟩)
      |(go_fit (S.out _);rintro e H⟨rfl,rfl⟩))
     go_ret;exact⟨_,rfl,I,J⟩
 |false =>
  rw[t]at T;have L:=Que.empty ((w.alloc (.cells #[.int .i64 G,.int .i64 a,.int .i64 O,.string B,.string cls,.string C] 34)).alloc (.cells #[.int .i64 ((i:Int)+1)] 3)) w.heap.size;have F:Below w.heap.size w ((w.alloc (.cells #[.int .i64 G,.int .i64 a,.int .i64 O,.string B,.string cls,.string C] 34)).alloc (.cells #[.int .i64 ((i:Int)+1)] 3)):=(Xb.alloc Xl _).alloc (by simp) _;have E:=F.size;have D:=Qbc (w.alloc (.cells #[.int .i64 G,.int .i64 a,.int .i64 O,.string B,.string cls,.string C] 34)) (i+1) 3;rw[World.size_alloc,show(((i+1:Nat)):Int)=(i:Int)+1 from rfl]at D;have K:=(Blk.new w 34 [.int .i64 G,.int .i64 a,.int .i64 O,.string B,.string cls,.string C]).step (Xb.alloc Xl (.cells #[.int .i64 ((i:Int)+1)] 3));go_enter Tryz.func107,Tryz.ntmps107;go_upto_region 5 with(first
   |(go_fit (T.out _);rintro e H⟨rfl,rfl⟩)
   |(at_builtin;go_must (refine QL rfl _ _ rfl w.heap.size _ [] rfl L E (i+1) _ 1 rfl D (by decide) (by decide) ?_);intro z X R V _))
  have P:=F.grown V F.size (fun g e=>(L.lt g e).1);have s:=K.grown V (fun e=>by cases e);obtain⟨k0,k1,_,_,_,_⟩:=s.cells6;clear L F E K s V D;cases U:ZS G with
  |false =>
   rw[U]at S;have I:=P;have J:=R;go_wp2_with (first
    |(go_fit (T.out _);rintro e H⟨rfl,rfl⟩)
    |(go_fit (S.out _);rintro e H⟨rfl,rfl⟩))
   go_ret;exact⟨_,rfl,I,J⟩
  |true =>
   rw[U]at S;obtain⟨n,rfl⟩:=Int.eq_ofNat_of_zero_le (p U);cases Y:(G==14) with
   |true =>
    have L:Que (X.alloc (.cells #[.int .i64 (n:Int)] 3)) w.heap.size z [i+1]:=R.keep (fun g k=>heap_alloc_old _ _ (R.lt g k).2);have F:Below w.heap.size w (X.alloc (.cells #[.int .i64 (n:Int)] 3)):=P.alloc P.size _;have D:=Qbc X n 3;have E:=F.size;go_wp2_with (first
     |(go_fit (T.out _);rintro e H⟨rfl,rfl⟩)
     |(go_fit (S.out _);rintro e H⟨rfl,rfl⟩)
     |(at_builtin;go_must (refine QL rfl _ _ rfl w.heap.size _ [i+1] rfl L E n _ 1 rfl D (by simp[maxLen]) (by simp) ?_);intro f j M N _))
    go_ret;exact⟨_,rfl,F.grown N F.size (fun g e=>(L.lt g e).1),M⟩
   |false =>
    cases hn:((n:Int) != (i:Int)+1) with
    |true =>
     have L:Que (X.alloc (.cells #[.int .i64 (n:Int)] 3)) w.heap.size z [i+1]:=R.keep (fun g k=>heap_alloc_old _ _ (R.lt g k).2);have F:Below w.heap.size w (X.alloc (.cells #[.int .i64 (n:Int)] 3)):=P.alloc P.size _;have D:=Qbc X n 3;have E:=F.size;go_wp2_with (first
      |(go_fit (T.out _);rintro e H⟨rfl,rfl⟩)
      |(go_fit (S.out _);rintro e H⟨rfl,rfl⟩)
      |(at_builtin;go_must (refine QL rfl _ _ rfl w.heap.size _ [i+1] rfl L E n _ 1 rfl D (by simp[maxLen]) (by simp) ?_);intro f j M N _))
     go_ret;exact⟨_,rfl,F.grown N F.size (fun g e=>(L.lt g e).1),M⟩
    |false =>
     have I:=P;have J:=R;go_wp2_with (first
      |(go_fit (T.out _);rintro e H⟨rfl,rfl⟩)
      |(go_fit (S.out _);rintro e H⟨rfl,rfl⟩))
     go_ret;exact⟨_,rfl,I,J⟩
set_option maxRecDepth 512
end Go.Proofs.YtmclocdhcblbiaaGreatDoor
