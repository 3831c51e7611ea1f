/- Lemmas; conditions: as each states. -/
import Derived.Test.YtlmfmioljeppfaaGreatDoorFirst
import Derived.Test.YtlmfmioljeppfaaGreatDoorRefWants
set_option maxHeartbeats 4000000
namespace Go.Proofs.YtlmfmioljeppfaaGreatDoor
open Go.RowKit Go.Shelf Go.Lib
structure GX (w wx:World) (mv:List Value) (r1 r2:Value):Prop where
 below:Below w.heap.size w wx
 box:Blk wx w.heap.size 53 mv
 res:Blk wx (w.heap.size+1) 27 [r1,r2]
theorem GX.step{w wx wy:World}{B:List Value}{C D:Value}(h:GX w wx B C D)(A:Below wx.heap.size wx wy):GX w wy B C D:=⟨Qa h.below Xl A,h.box.step A,h.res.step A⟩
theorem GX.grown{w wx wy:World}{C:List Value}{D E:Value}{r:Option Nat}(h:GX w wx C D E)(A:wx.grownBy wy r)(B:∀g,r=some g->w.heap.size+2<=g):GX w wy C D E :=
 ⟨h.below.grown A h.below.size (fun g e=>by have:=B g e;omega),h.box.grown A (fun e=>by have:=B _ e;omega),h.res.grown A (fun e=>by have:=B _ e;omega)⟩
theorem GX.lt{w wx:World}{A:List Value}{B C:Value}(h:GX w wx A B C):w.heap.size+2<=wx.heap.size:=h.res.lt
set_option maxRecDepth 100000
theorem zcD(w:World)(cls C B:Str)(static E D:Bool)(A:Nat)(j k:Option Addr)(l m o q:Nat)(args:List Str)(g:Str)(hm:Zm B=some (args,g))(hty:B.size<=1048576)(hc:cls.size<=1048576)(hn:A<=8)(ha:args.length<=5):
 Calls Tryz.prog 58 #[.string cls,.agg #[.string C,.string B,.bool static,.bool E,.bool D,.int .i64 (A:Int),.slice j l m,.slice k o q]] w (ZaK w (QP cls static args A) g):=by
 have HTh:Hid (∀wx,_):=fun wx=>ZaD cls wx (Xf hc (by decide))
 have HD:Hid (∀wx,_):=fun wx=>Z7 hty hm wx
 unfold qbu at HD;obtain⟨mv,R⟩:∃mv,mv=[Value.string C,.string B,.bool static,.bool E,.bool D,.int .i64 (A:Int),.slice j l m,.slice k o q]:=⟨_,rfl⟩;have U:=Blk.new w 53 [.string C,.string B,.bool static,.bool E,.bool D,.int .i64 (A:Int),.slice j l m,.slice k o q];have K1:=Blk.new (w.alloc (.cells #[.string C,.string B,.bool static,.bool E,.bool D,.int .i64 (A:Int),.slice j l m,.slice k o q] 53)) 27 [.slice none 0 0,.slice none 0 0];have B1:Below w.heap.size w ((w.alloc (.cells #[.string C,.string B,.bool static,.bool E,.bool D,.int .i64 (A:Int),.slice j l m,.slice k o q] 53)).alloc (.cells #[.slice none 0 0,.slice none 0 0] 27)):=(Xb.alloc Xl _).alloc (by simp) _;replace U:=U.step (Xb.alloc Xl (.cells #[.slice none 0 0,.slice none 0 0] 27));rw[World.size_alloc]at K1;obtain⟨w1,h⟩:∃w1,w1=(w.alloc (.cells #[.string C,.string B,.bool static,.bool E,.bool D,.int .i64 (A:Int),.slice j l m,.slice k o q] 53)).alloc (.cells #[.slice none 0 0,.slice none 0 0] 27):=⟨_,rfl⟩;rw[<-h]at U K1 B1;rw[<-R]at U;have HW:=Xh h.symm;have X:=Xh R;have HG1:Hid (GX w w1 mv (.slice none 0 0) (.slice none 0 0)):=⟨B1,U,K1⟩;clear h;have q1:w1.cell? ⟨w.heap.size,1,none⟩=some (.string B):=by rw[R]at U;exact U.cell 1
 clear R;go_enter Tryz.func58,Tryz.ntmps58;go_upto_region 1 with fail;rw[HW.out];go_upto_region 3 with(first|(go_fit (HD.out _);rintro e G⟨a3,c3,rfl,hs3,hB3⟩))
 have H:=Xh (HG1.out.step hB3);have r:=Xh hs3;clear U K1 B1 q1 hB3 hs3 HW;cases static;case' true =>
  have q2:G.cell? ⟨w.heap.size,2,none⟩=some (.bool true):=by have:=H.out.box.cell 2;rwa [X.out]at this
  have I:G.ownsRow (w.heap.size+2) 9 1 (.slice none 0 0) 0 []:=⟨rfl,Or.inl ⟨rfl,rfl⟩⟩;have Y:0+args.length<=maxLen:=Xf (show 0+args.length<=8 by omega) (by decide);have Z:(0+args.length)*16<=140737488355328:=by omega
  have hSt:=r.out;have hsz:=H.out.lt;go_wp2_with (first
   |(at_builtin;go_must (refine Qg rfl _ _ rfl (w.heap.size+2) _ 0 [] rfl I _ args rfl hSt Y Z hsz ?_);intro v6 w6 F T _;obtain⟨a6,c6,rfl⟩:=qe F;(have T6:=H.out.grown T (fun g e=>by cases e))))
  obtain⟨L,S⟩:∃L,Qak cls true++args=L:=⟨_,rfl⟩;have J:w6.ownsRow (w.heap.size+2) 9 1 (.slice a6 L.length c6) L.length (L.map Value.string):=by
   rw[<-S];simp only[Qak,if_true,List.length_append,List.length_nil,List.map_append,List.map_nil];exact F
  have a:args.length=L.length:=by rw[<-S];simp[Qak]
  (try rw[Nat.zero_add])
  rw[a];have N:QP cls true args A=L++List.replicate (A-L.length) QaI:=by unfold QP;rw[S]
  rw[N];have d:L.length<=8:=by rw[<-S];simp[Qak];omega
 case' false =>
  have q2:G.cell? ⟨w.heap.size,2,none⟩=some (.bool false):=by have:=H.out.box.cell 2;rwa [X.out]at this
  have s:=Xh (H.out.step (Xb.alloc Xl (.cells #[.string (Zd cls)] 9)));have t:=s.out.lt;have I:(G.alloc (.cells #[.string (Zd cls)] 9)).ownsRow (w.heap.size+2) 9 1 (.slice none 0 0) 0 []:=⟨rfl,Or.inl ⟨rfl,rfl⟩⟩;have x:Qh (G.alloc (.cells #[.string (Zd cls)] 9)) (.slice (some ⟨G.heap.size,0,none⟩) 1 1) [Zd cls]:=Qs _ _;have HSt:Hid (∀wx,Below G.heap.size G wx->Qh wx (.slice a3 args.length c3) args):=fun wx hb=>r.out.mono hb
  have Y:1+args.length<=maxLen:=Xf (show 1+args.length<=8 by omega) (by decide);have Z:(1+args.length)*16<=140737488355328:=by omega
  have y:Hid (Below G.heap.size G (G.alloc (.cells #[.string (Zd cls)] 9))):=Xb.alloc Xl _;go_wp2_with (first
   |(go_fit (HTh.out _);rintro e w5⟨rfl,rfl⟩)
   |(at_builtin;(refine Qg rfl _ _ rfl (w.heap.size+2) _ 1 [.string (Zd cls)] rfl O _ args rfl hS5 Y Z T5.out.lt ?_);intro v6 w6 F T _;obtain⟨a6,c6,rfl⟩:=qe F;(have T6:=T5.out.grown T (fun g e=>(O.lt g e).1)))
   |(at_builtin;(refine Qg rfl _ _ rfl (w.heap.size+2) _ 0 [] rfl I _ [Zd cls] rfl x (by simp;decide) (by simp;try omega) t ?_);intro v5 w5 O i _;obtain⟨a5,c5,rfl⟩:=qe O;(have T5:=Xh (s.out.grown i (fun g e=>by cases e)));(have hS5:=HSt.out _ (y.out.grown i y.out.size (fun g e=>by cases e)));(have O:w5.ownsRow (w.heap.size+2) 9 1 (.slice a5 (0+[Zd cls].length) c5) 1 [.string (Zd cls)]:=O);clear i))
  obtain⟨L,S⟩:∃L,Qak cls false++args=L:=⟨_,rfl⟩;have J:w6.ownsRow (w.heap.size+2) 9 1 (.slice a6 L.length c6) L.length (L.map Value.string):=by
   rw[<-S];simp only[Qak,Bool.false_eq_true,if_false,List.length_append,List.length_singleton,List.map_append,List.map_nil,List.map_cons];exact F
  have a:1+args.length=L.length:=by rw[<-S];simp[Qak];try omega
  rw[a];have N:QP cls false args A=L++List.replicate (A-L.length) QaI:=by unfold QP;rw[S]
  rw[N];have d:L.length<=8:=by rw[<-S];simp[Qak];omega
 all_goals
  have z:=Xh J;have aA:=Xh T6;have HL8:=Xh d;have HfL:=Xh N;clear J T6 d N F T q2;go_loopw [9] (fun v wr=>∃(p:Option Addr) (n c:Nat) (M:List Str),v=.slice p n c/\Hid (GX w wr mv (.slice none 0 0) (.slice none 0 0))/\Hid (wr.ownsRow (w.heap.size+2) 9 1 (.slice p n c) n (M.map Value.string))/\Hid (M.length=n)/\Hid (M++List.replicate (A-n) QaI=L++List.replicate (A-L.length) QaI)/\Hid (n<=8)) (fun v _=>A-(match v with|.slice _ n _=>n|_=>0))
  case atStart=>exact⟨_,_,_,L,rfl,aA,z,rfl,rfl,HL8⟩
  case round =>
   clear aA z;obtain⟨p,n,c,M,rfl,V,hO,hMn,hM,hn8⟩:=hrel;have c5:=V.out.box.cell 5;rw[X.out]at c5;replace c5:=show _=some (Value.int .i64 (A:Int)) from c5
   by_cases hlt:n<A
   ·have hltI:(n:Int)<(A:Int):=(by omega);have HT2:=Xh (V.out.step (Xb.alloc Xl (.cells #[.string QaI] 9)));go_wp2_with (at_builtin;go_must (refine Qg rfl _ _ rfl (w.heap.size+2) _ n (M.map Value.string) rfl (Zr hO.out (Xb.alloc Xl (.cells #[.string QaI] 9))) _ [QaI] rfl (Qs _ _) (Xf (show n+1<=9 by have:=hn8.out;omega) (by decide)) (by have:=hn8.out;simp;omega) HT2.out.lt ?_);intro v' G ho3 hg3 _;obtain⟨a3,c3,rfl⟩:=qe ho3;(have T3:=HT2.out.grown hg3 (fun g e=>(World.ownsRow.lt hO.out g e).1)))
    go_roundw;case rel =>
     refine⟨a3,n+1,c3,M++[QaI],rfl,T3,?_,?_,?_,?_⟩
     ·unfold Hid;rw[List.map_append];exact ho3
     ·unfold Hid;rw[List.length_append,hMn.out];rfl
     ·rw[<-hM.out];unfold Hid;rw[show A-n=(A-(n+1))+1 by omega,List.replicate_succ,List.append_assoc];rfl
     ·unfold Hid;omega
    case measure=>simp;omega
   ·have hltI:¬(n:Int)<(A:Int):=(by omega);have d0:=V.out.res.cell 0;have d1:=V.out.res.cell 1;have e0:=V.out.res.frozen 0;have e1:=V.out.res.frozen 1;have hmn:A-n=0:=(by omega);have P:=hM.out;rw[hmn]at P;rw[List.replicate_zero,List.append_nil]at P;have f:=qG (qG hO.out (show w.heap.size+1<w.heap.size+2 by omega) 0 (.slice p n c)) (show w.heap.size+1<w.heap.size+2 by omega) 1 (.slice none 0 0);rw[P]at f;have hB2:Below w.heap.size w ((wr.setCell ⟨w.heap.size+1,0,none⟩ (.slice p n c)).setCell ⟨w.heap.size+1,1,none⟩ (.slice none 0 0)):=((V.out.below).setCell (show w.heap.size<=w.heap.size+1 by omega) _).setCell (show w.heap.size<=w.heap.size+1 by omega) _;have R2:=(V.out.res.put 0 (.slice p n c)).put 1 (.slice none 0 0);have HO2:=Xh f;have HB2:=Xh hB2;have HM2:=Xh P;have hn':=hMn.out;have x0:=R2.cell 0;have x1:=R2.cell 1;have HR2:=Xh R2;clear f hB2 P R2 hmn;go_wp2_with fail;have hlen:n=(L++List.replicate (A-L.length) QaI).length:=(by rw[<-HM2.out];exact hn'.symm);have hS2:Qh ((wr.setCell ⟨w.heap.size+1,0,none⟩ (.slice p n c)).setCell ⟨w.heap.size+1,1,none⟩ (.slice none 0 0)) (.slice p n c) (L++List.replicate (A-L.length) QaI):=by
     have:=HO2.out;rw[hlen]at this ⊢;exact Ze this
    exact bodyPost_ret (v:=.tuple #[.agg #[.slice p n c,.slice none 0 0],.string g]) (by simp[results,Tryz.results58,go_sem, *]) rfl ⟨HB2,p,n,c,rfl,by rw[HfL.out];exact hS2,fun b hb=>by
     have:=HO2.out.lt b hb;exact⟨by omega,by simpa using this.2⟩⟩
set_option maxRecDepth 512
end Go.Proofs.YtlmfmioljeppfaaGreatDoor
