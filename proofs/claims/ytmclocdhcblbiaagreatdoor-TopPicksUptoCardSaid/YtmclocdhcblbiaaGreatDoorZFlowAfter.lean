/- Lemmas; conditions: as each states. -/
import Derived.Test.YtmclocdhcblbiaaGreatDoorZFrameMap
set_option maxHeartbeats 4000000
namespace Go.Proofs.YtmclocdhcblbiaaGreatDoor
open Go.RowKit Go.Shelf Go.Lib Tryz
theorem zbg(w:World)(x:Nat)(t:TypeId):(w.alloc (.cells #[.int .i64 (x:Int)] t)).cell? ((⟨w.heap.size,0,none⟩:Addr).add 0)=some (zae x):=by
 rw[zci rfl,cell_of_row _ _ _ #[.int .i64 (x:Int)] t (0,0) (heap_alloc_new _ _)];rfl
set_option maxRecDepth 100000
theorem QcK(A:List Ins)(k:Value)(w:World)(h:Qe w 6 Zv k A)(i:Nat)(x:Ins)(l:A[i]? = some x)(hi:i<=64)(m:ZU x.op=true->0<=x.a):
 Calls prog 107 #[k,.int .i64 (i:Int)] w fun e w'=>∃v,e=.returned v/\Below w.heap.size w w'/\Que w' w.heap.size v (ZV x i):=by
 obtain⟨Y,rfl⟩:=List.getElem?_eq_some_iff.1 l;obtain⟨b,o,cap,vs,rfl,Z,_,c⟩:=h.at Y;unfold Zv at Z;have p:ZV A[i] i=(if qae A[i].op then [] else [i+1])++(if ZU A[i].op&&(A[i].op==14||A[i].a != (i:Int)+1) then [A[i].a.toNat] else []):=rfl;rw[p];have S:Hid (∀wx,_):=fun wx=>Qdo A[i].op wx
 have R:Hid (∀wx,_):=fun wx=>Qbw A[i].op wx
 have z:(i:Int)<(A.length:Int):=by omega
 obtain⟨c0,c1,c2,c3,c4,c5,_⟩:=(by rw[Z]at c;exact c:qw w b (o+i*6) [.int .i64 A[i].op,.int .i64 A[i].a,.int .i64 A[i].b,.string A[i].type,.string A[i].cls,.string A[i].name]);clear p Z c h l;generalize A[i]=y at *;obtain⟨F,a,N,B,cls,name⟩:=y;dsimp only at *;have q:(i:Int)+1<=100:=by omega
 cases s:qae F with
 |true =>
  rw[s]at S;go_enter func107,ntmps107;cases T:ZU F with
  |false =>
   rw[T]at R;have H:Below w.heap.size w (w.alloc (.cells #[.int .i64 F,.int .i64 a,.int .i64 N,.string B,.string cls,.string name] 34)):=Xb.alloc Xl _;have I:=Que.empty (w.alloc (.cells #[.int .i64 F,.int .i64 a,.int .i64 N,.string B,.string cls,.string name] 34)) w.heap.size;go_wp2_with (first
    |(go_fit (S.out _);rintro e G⟨rfl,rfl⟩)
    |(go_fit (R.out _);rintro e G⟨rfl,rfl⟩))
   go_ret;exact⟨_,rfl,H,I⟩
  |true =>
   rw[T]at R;obtain⟨n,rfl⟩:=Int.eq_ofNat_of_zero_le (m T);cases X:(F==14) with
   |true =>
    have J:=Que.empty ((w.alloc (.cells #[.int .i64 F,.int .i64 (n:Int),.int .i64 N,.string B,.string cls,.string name] 34)).alloc (.cells #[.int .i64 (n:Int)] 3)) w.heap.size;have E:Below w.heap.size w ((w.alloc (.cells #[.int .i64 F,.int .i64 (n:Int),.int .i64 N,.string B,.string cls,.string name] 34)).alloc (.cells #[.int .i64 (n:Int)] 3)):=(Xb.alloc Xl _).alloc (by simp) _;have C:=zbg (w.alloc (.cells #[.int .i64 F,.int .i64 (n:Int),.int .i64 N,.string B,.string cls,.string name] 34)) n 3;rw[World.size_alloc]at C;have D:=E.size;go_wp2_with (first
     |(go_fit (S.out _);rintro e G⟨rfl,rfl⟩)
     |(go_fit (R.out _);rintro e G⟨rfl,rfl⟩)
     |(at_builtin;go_must (refine QN rfl _ _ rfl w.heap.size _ [] rfl J D n _ 1 rfl C (by simp[maxLen]) (by simp) ?_);intro d f L M _))
    go_ret;exact⟨_,rfl,E.grown M E.size (fun g e=>(J.lt g e).1),L⟩
   |false =>
    cases hn:((n:Int) != (i:Int)+1) with
    |true =>
     have J:=Que.empty ((w.alloc (.cells #[.int .i64 F,.int .i64 (n:Int),.int .i64 N,.string B,.string cls,.string name] 34)).alloc (.cells #[.int .i64 (n:Int)] 3)) w.heap.size;have E:Below w.heap.size w ((w.alloc (.cells #[.int .i64 F,.int .i64 (n:Int),.int .i64 N,.string B,.string cls,.string name] 34)).alloc (.cells #[.int .i64 (n:Int)] 3)):=(Xb.alloc Xl _).alloc (by simp) _;have C:=zbg (w.alloc (.cells #[.int .i64 F,.int .i64 (n:Int),.int .i64 N,.string B,.string cls,.string name] 34)) n 3;rw[World.size_alloc]at C;have D:=E.size;go_wp2_with (first
      |(go_fit (S.out _);rintro e G⟨rfl,rfl⟩)
      |(go_fit (R.out _);rintro e G⟨rfl,rfl⟩)
      |(at_builtin;go_must (refine QN rfl _ _ rfl w.heap.size _ [] rfl J D n _ 1 rfl C (by simp[maxLen]) (by simp) ?_);intro d f L M _))
     go_ret;exact⟨_,rfl,E.grown M E.size (fun g e=>(J.lt g e).1),L⟩
    |false =>
     have H:Below w.heap.size w (w.alloc (.cells #[.int .i64 F,.int .i64 (n:Int),.int .i64 N,.string B,.string cls,.string name] 34)):=Xb.alloc Xl _;have I:=Que.empty (w.alloc (.cells #[.int .i64 F,.int .i64 (n:Int),.int .i64 N,.string B,.string cls,.string name] 34)) w.heap.size;go_wp2_with (first
      |(go_fit (S.out _);rintro e G⟨rfl,rfl⟩)
      |(go_fit (R.out _);rintro e G⟨rfl,rfl⟩))
     go_ret;exact⟨_,rfl,H,I⟩
 |false =>
  rw[s]at S;have J:=Que.empty ((w.alloc (.cells #[.int .i64 F,.int .i64 a,.int .i64 N,.string B,.string cls,.string name] 34)).alloc (.cells #[.int .i64 ((i:Int)+1)] 3)) w.heap.size;have E:Below w.heap.size w ((w.alloc (.cells #[.int .i64 F,.int .i64 a,.int .i64 N,.string B,.string cls,.string name] 34)).alloc (.cells #[.int .i64 ((i:Int)+1)] 3)):=(Xb.alloc Xl _).alloc (by simp) _;have D:=E.size;have C:=zbg (w.alloc (.cells #[.int .i64 F,.int .i64 a,.int .i64 N,.string B,.string cls,.string name] 34)) (i+1) 3;rw[World.size_alloc,show(((i+1:Nat)):Int)=(i:Int)+1 from rfl]at C;have K:=(Blk.new w 34 [.int .i64 F,.int .i64 a,.int .i64 N,.string B,.string cls,.string name]).step (Xb.alloc Xl (.cells #[.int .i64 ((i:Int)+1)] 3));go_enter func107,ntmps107;go_upto_region 5 with(first
   |(go_fit (S.out _);rintro e G⟨rfl,rfl⟩)
   |(at_builtin;go_must (refine QN rfl _ _ rfl w.heap.size _ [] rfl J D (i+1) _ 1 rfl C (by decide) (by decide) ?_);intro t V P U _))
  have O:=E.grown U E.size (fun g e=>(J.lt g e).1);have r:=K.grown U (fun e=>by cases e);obtain⟨k0,k1,_,_,_,_⟩:=r.cells6;clear J E D K r U C;cases T:ZU F with
  |false =>
   rw[T]at R;have H:=O;have I:=P;go_wp2_with (first
    |(go_fit (S.out _);rintro e G⟨rfl,rfl⟩)
    |(go_fit (R.out _);rintro e G⟨rfl,rfl⟩))
   go_ret;exact⟨_,rfl,H,I⟩
  |true =>
   rw[T]at R;obtain⟨n,rfl⟩:=Int.eq_ofNat_of_zero_le (m T);cases X:(F==14) with
   |true =>
    have J:Que (V.alloc (.cells #[.int .i64 (n:Int)] 3)) w.heap.size t [i+1]:=P.keep (fun g j=>heap_alloc_old _ _ (P.lt g j).2);have E:Below w.heap.size w (V.alloc (.cells #[.int .i64 (n:Int)] 3)):=O.alloc O.size _;have C:=zbg V n 3;have D:=E.size;go_wp2_with (first
     |(go_fit (S.out _);rintro e G⟨rfl,rfl⟩)
     |(go_fit (R.out _);rintro e G⟨rfl,rfl⟩)
     |(at_builtin;go_must (refine QN rfl _ _ rfl w.heap.size _ [i+1] rfl J D n _ 1 rfl C (by simp[maxLen]) (by simp) ?_);intro d f L M _))
    go_ret;exact⟨_,rfl,E.grown M E.size (fun g e=>(J.lt g e).1),L⟩
   |false =>
    cases hn:((n:Int) != (i:Int)+1) with
    |true =>
     have J:Que (V.alloc (.cells #[.int .i64 (n:Int)] 3)) w.heap.size t [i+1]:=P.keep (fun g j=>heap_alloc_old _ _ (P.lt g j).2);have E:Below w.heap.size w (V.alloc (.cells #[.int .i64 (n:Int)] 3)):=O.alloc O.size _;have C:=zbg V n 3;have D:=E.size;go_wp2_with (first
      |(go_fit (S.out _);rintro e G⟨rfl,rfl⟩)
      |(go_fit (R.out _);rintro e G⟨rfl,rfl⟩)
      |(at_builtin;go_must (refine QN rfl _ _ rfl w.heap.size _ [i+1] rfl J D n _ 1 rfl C (by simp[maxLen]) (by simp) ?_);intro d f L M _))
     go_ret;exact⟨_,rfl,E.grown M E.size (fun g e=>(J.lt g e).1),L⟩
    |false =>
     have H:=O;have I:=P;go_wp2_with (first
      |(go_fit (S.out _);rintro e G⟨rfl,rfl⟩)
      |(go_fit (R.out _);rintro e G⟨rfl,rfl⟩))
     go_ret;exact⟨_,rfl,H,I⟩
