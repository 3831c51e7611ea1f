/- Lemmas; conditions: as each states. -/
import Derived.Test.YtlmfmioljeppfaaGreatDoorFirst
import Derived.Test.YtlmfmioljeppfaaGreatDoorRefWants
set_option maxHeartbeats 4000000
namespace Go.Proofs.YtlmfmioljeppfaaGreatDoor
open Go.RowKit Go.Shelf Go.Lib
structure GX (w wx:World) (mv:List Value) (r1 r2:Value):Prop where
 below:Below w.heap.size w wx
 box:Blk wx w.heap.size 53 mv
 res:Blk wx (w.heap.size+1) 27 [r1,r2]
theorem GX.step{w wx wy:World}{mv:List Value}{r1 r2:Value}(h:GX w wx mv r1 r2)(hb:Below wx.heap.size wx wy):GX w wy mv r1 r2:=⟨Qa h.below Xl hb,h.box.step hb,h.res.step hb⟩
theorem GX.grown{w wx wy:World}{mv:List Value}{r1 r2:Value}{r:Option Nat}(h:GX w wx mv r1 r2)(hg:wx.grownBy wy r)(hr:∀g,r=some g->w.heap.size+2<=g):GX w wy mv r1 r2 :=
 ⟨h.below.grown hg h.below.size (fun g e=>by have:=hr g e;omega),h.box.grown hg (fun e=>by have:=hr _ e;omega),h.res.grown hg (fun e=>by have:=hr _ e;omega)⟩
theorem GX.lt{w wx:World}{mv:List Value}{r1 r2:Value}(h:GX w wx mv r1 r2):w.heap.size+2<=wx.heap.size:=h.res.lt
set_option maxRecDepth 100000
theorem QcA(w:World)(cls name type:Str)(static abs priv:Bool)(many:Nat)(pc ph:Option Addr)(nc cc nh ch:Nat)(args:List Str)(g:Str)(hm:zm type=some (args,g))(hty:type.size<=1048576)(hc:cls.size<=1048576)(hn:many<=8)(ha:args.length<=5):
 Calls Tryz.prog 58 #[.string cls,.agg #[.string name,.string type,.bool static,.bool abs,.bool priv,.int .i64 (many:Int),.slice pc nc cc,.slice ph nh ch]] w (qa6 w (ZI cls static args many) g):=by
 have HTh:Hid (∀wx,_):=fun wx=>qaD cls wx (Xf hc (by decide))
 have HD:Hid (∀wx,_):=fun wx=>q8 hty hm wx
 unfold Zbw at HD;obtain⟨mv,hmv⟩:∃mv,mv=[Value.string name,.string type,.bool static,.bool abs,.bool priv,.int .i64 (many:Int),.slice pc nc cc,.slice ph nh ch]:=⟨_,rfl⟩;have K0:=Blk.new w 53 [.string name,.string type,.bool static,.bool abs,.bool priv,.int .i64 (many:Int),.slice pc nc cc,.slice ph nh ch];have K1:=Blk.new (w.alloc (.cells #[.string name,.string type,.bool static,.bool abs,.bool priv,.int .i64 (many:Int),.slice pc nc cc,.slice ph nh ch] 53)) 27 [.slice none 0 0,.slice none 0 0];have B1:Below w.heap.size w ((w.alloc (.cells #[.string name,.string type,.bool static,.bool abs,.bool priv,.int .i64 (many:Int),.slice pc nc cc,.slice ph nh ch] 53)).alloc (.cells #[.slice none 0 0,.slice none 0 0] 27)):=(Xb.alloc Xl _).alloc (by simp) _;replace K0:=K0.step (Xb.alloc Xl (.cells #[.slice none 0 0,.slice none 0 0] 27));rw[World.size_alloc]at K1;obtain⟨w1,hw1⟩:∃w1,w1=(w.alloc (.cells #[.string name,.string type,.bool static,.bool abs,.bool priv,.int .i64 (many:Int),.slice pc nc cc,.slice ph nh ch] 53)).alloc (.cells #[.slice none 0 0,.slice none 0 0] 27):=⟨_,rfl⟩;rw[<-hw1]at K0 K1 B1;rw[<-hmv]at K0;have HW:=Xh hw1.symm;have HHm:=Xh hmv;have HG1:Hid (GX w w1 mv (.slice none 0 0) (.slice none 0 0)):=⟨B1,K0,K1⟩;clear hw1;have q1:w1.cell? ⟨w.heap.size,1,none⟩=some (.string type):=by rw[hmv]at K0;exact K0.cell 1
 clear hmv;go_enter Tryz.func58,Tryz.ntmps58;go_upto_region 1 with fail;rw[HW.out];go_upto_region 3 with(first|(go_fit (HD.out _);rintro e w3⟨a3,c3,rfl,hs3,hB3⟩))
 have HG3:=Xh (HG1.out.step hB3);have HS3:=Xh hs3;clear K0 K1 B1 q1 hB3 hs3 HW;cases static;case' true =>
  have q2:w3.cell? ⟨w.heap.size,2,none⟩=some (.bool true):=by have:=HG3.out.box.cell 2;rwa [HHm.out]at this
  have hown:w3.ownsRow (w.heap.size+2) 9 1 (.slice none 0 0) 0 []:=⟨rfl,Or.inl ⟨rfl,rfl⟩⟩;have n63:0+args.length<=maxLen:=Xf (show 0+args.length<=8 by omega) (by decide);have n16:(0+args.length)*16<=140737488355328:=by omega
  have hSt:=HS3.out;have hsz:=HG3.out.lt;go_wp2_with (first
   |(at_builtin;go_must (refine qg rfl _ _ rfl (w.heap.size+2) _ 0 [] rfl hown _ args rfl hSt n63 n16 hsz ?_);intro v6 w6 ho6 hg6 _;obtain⟨a6,c6,rfl⟩:=qe ho6;(have T6:=HG3.out.grown hg6 (fun g e=>by cases e))))
  obtain⟨L,hL⟩:∃L,Qak cls true++args=L:=⟨_,rfl⟩;have own8:w6.ownsRow (w.heap.size+2) 9 1 (.slice a6 L.length c6) L.length (L.map Value.string):=by
   rw[<-hL];simp only[Qak,if_true,List.length_append,List.length_nil,List.map_append,List.map_nil];exact ho6
  have hn7:args.length=L.length:=by rw[<-hL];simp[Qak]
  (try rw[Nat.zero_add])
  rw[hn7];have hfL:ZI cls true args many=L++List.replicate (many-L.length) zaJ:=by unfold ZI;rw[hL]
  rw[hfL];have hL8:L.length<=8:=by rw[<-hL];simp[Qak];omega
 case' false =>
  have q2:w3.cell? ⟨w.heap.size,2,none⟩=some (.bool false):=by have:=HG3.out.box.cell 2;rwa [HHm.out]at this
  have HG5:=Xh (HG3.out.step (Xb.alloc Xl (.cells #[.string (Zd cls)] 9)));have hsz5:=HG5.out.lt;have hown:(w3.alloc (.cells #[.string (Zd cls)] 9)).ownsRow (w.heap.size+2) 9 1 (.slice none 0 0) 0 []:=⟨rfl,Or.inl ⟨rfl,rfl⟩⟩;have hone:Qh (w3.alloc (.cells #[.string (Zd cls)] 9)) (.slice (some ⟨w3.heap.size,0,none⟩) 1 1) [Zd cls]:=Zt _ _;have HSt:Hid (∀wx,Below w3.heap.size w3 wx->Qh wx (.slice a3 args.length c3) args):=fun wx hb=>HS3.out.mono hb
  have n63:1+args.length<=maxLen:=Xf (show 1+args.length<=8 by omega) (by decide);have n16:(1+args.length)*16<=140737488355328:=by omega
  have HB5:Hid (Below w3.heap.size w3 (w3.alloc (.cells #[.string (Zd cls)] 9))):=Xb.alloc Xl _;go_wp2_with (first
   |(go_fit (HTh.out _);rintro e w5⟨rfl,rfl⟩)
   |(at_builtin;(refine qg rfl _ _ rfl (w.heap.size+2) _ 1 [.string (Zd cls)] rfl ho5 _ args rfl hS5 n63 n16 T5.out.lt ?_);intro v6 w6 ho6 hg6 _;obtain⟨a6,c6,rfl⟩:=qe ho6;(have T6:=T5.out.grown hg6 (fun g e=>(ho5.lt g e).1)))
   |(at_builtin;(refine qg rfl _ _ rfl (w.heap.size+2) _ 0 [] rfl hown _ [Zd cls] rfl hone (by simp;decide) (by simp;try omega) hsz5 ?_);intro v5 w5 ho5 hg5 _;obtain⟨a5,c5,rfl⟩:=qe ho5;(have T5:=Xh (HG5.out.grown hg5 (fun g e=>by cases e)));(have hS5:=HSt.out _ (HB5.out.grown hg5 HB5.out.size (fun g e=>by cases e)));(have ho5:w5.ownsRow (w.heap.size+2) 9 1 (.slice a5 (0+[Zd cls].length) c5) 1 [.string (Zd cls)]:=ho5);clear hg5))
  obtain⟨L,hL⟩:∃L,Qak cls false++args=L:=⟨_,rfl⟩;have own8:w6.ownsRow (w.heap.size+2) 9 1 (.slice a6 L.length c6) L.length (L.map Value.string):=by
   rw[<-hL];simp only[Qak,Bool.false_eq_true,if_false,List.length_append,List.length_singleton,List.map_append,List.map_nil,List.map_cons];exact ho6
  have hn7:1+args.length=L.length:=by rw[<-hL];simp[Qak];try omega
  rw[hn7];have hfL:ZI cls false args many=L++List.replicate (many-L.length) zaJ:=by unfold ZI;rw[hL]
  rw[hfL];have hL8:L.length<=8:=by rw[<-hL];simp[Qak];omega
 all_goals
  have HO8:=Xh own8;have HT8:=Xh T6;have HL8:=Xh hL8;have HfL:=Xh hfL;clear own8 T6 hL8 hfL ho6 hg6 q2;go_loopw [9] (fun v wr=>∃(p:Option Addr) (n c:Nat) (M:List Str),v=.slice p n c/\Hid (GX w wr mv (.slice none 0 0) (.slice none 0 0))/\Hid (wr.ownsRow (w.heap.size+2) 9 1 (.slice p n c) n (M.map Value.string))/\Hid (M.length=n)/\Hid (M++List.replicate (many-n) zaJ=L++List.replicate (many-L.length) zaJ)/\Hid (n<=8)) (fun v _=>many-(match v with|.slice _ n _=>n|_=>0))
  case atStart=>exact⟨_,_,_,L,rfl,HT8,HO8,rfl,rfl,HL8⟩
  case round =>
   clear HT8 HO8;obtain⟨p,n,c,M,rfl,hT,hO,hMn,hM,hn8⟩:=hrel;have c5:=hT.out.box.cell 5;rw[HHm.out]at c5;replace c5:=show _=some (Value.int .i64 (many:Int)) from c5
   by_cases hlt:n<many
   ·have hltI:(n:Int)<(many:Int):=(by omega);have HT2:=Xh (hT.out.step (Xb.alloc Xl (.cells #[.string zaJ] 9)));go_wp2_with (at_builtin;go_must (refine qg rfl _ _ rfl (w.heap.size+2) _ n (M.map Value.string) rfl (qr hO.out (Xb.alloc Xl (.cells #[.string zaJ] 9))) _ [zaJ] rfl (Zt _ _) (Xf (show n+1<=9 by have:=hn8.out;omega) (by decide)) (by have:=hn8.out;simp;omega) HT2.out.lt ?_);intro v' w3 ho3 hg3 _;obtain⟨a3,c3,rfl⟩:=qe ho3;(have T3:=HT2.out.grown hg3 (fun g e=>(World.ownsRow.lt hO.out g e).1)))
    go_roundw;case rel =>
     refine⟨a3,n+1,c3,M++[zaJ],rfl,T3,?_,?_,?_,?_⟩
     ·unfold Hid;rw[List.map_append];exact ho3
     ·unfold Hid;rw[List.length_append,hMn.out];rfl
     ·rw[<-hM.out];unfold Hid;rw[show many-n=(many-(n+1))+1 by omega,List.replicate_succ,List.append_assoc];rfl
     ·unfold Hid;omega
    case measure=>simp;omega
   ·have hltI:¬(n:Int)<(many:Int):=(by omega);have d0:=hT.out.res.cell 0;have d1:=hT.out.res.cell 1;have e0:=hT.out.res.frozen 0;have e1:=hT.out.res.frozen 1;have hmn:many-n=0:=(by omega);have hM':=hM.out;rw[hmn]at hM';rw[List.replicate_zero,List.append_nil]at hM';have hO2:=ZG (ZG hO.out (show w.heap.size+1<w.heap.size+2 by omega) 0 (.slice p n c)) (show w.heap.size+1<w.heap.size+2 by omega) 1 (.slice none 0 0);rw[hM']at hO2;have hB2:Below w.heap.size w ((wr.setCell ⟨w.heap.size+1,0,none⟩ (.slice p n c)).setCell ⟨w.heap.size+1,1,none⟩ (.slice none 0 0)):=((hT.out.below).setCell (show w.heap.size<=w.heap.size+1 by omega) _).setCell (show w.heap.size<=w.heap.size+1 by omega) _;have R2:=(hT.out.res.put 0 (.slice p n c)).put 1 (.slice none 0 0);have HO2:=Xh hO2;have HB2:=Xh hB2;have HM2:=Xh hM';have hn':=hMn.out;have x0:=R2.cell 0;have x1:=R2.cell 1;have HR2:=Xh R2;clear hO2 hB2 hM' R2 hmn;go_wp2_with fail;have hlen:n=(L++List.replicate (many-L.length) zaJ).length:=(by rw[<-HM2.out];exact hn'.symm);have hS2:Qh ((wr.setCell ⟨w.heap.size+1,0,none⟩ (.slice p n c)).setCell ⟨w.heap.size+1,1,none⟩ (.slice none 0 0)) (.slice p n c) (L++List.replicate (many-L.length) zaJ):=by
     have:=HO2.out;rw[hlen]at this ⊢;exact Ze this
    exact bodyPost_ret (v:=.tuple #[.agg #[.slice p n c,.slice none 0 0],.string g]) (by simp[results,Tryz.results58,go_sem, *]) rfl ⟨HB2,p,n,c,rfl,by rw[HfL.out];exact hS2,fun b hb=>by
     have:=HO2.out.lt b hb;exact⟨by omega,by simpa using this.2⟩⟩
set_option maxRecDepth 512
end Go.Proofs.YtlmfmioljeppfaaGreatDoor
