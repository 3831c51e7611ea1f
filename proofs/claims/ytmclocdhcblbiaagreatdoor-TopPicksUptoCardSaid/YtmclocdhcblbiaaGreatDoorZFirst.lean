/- Lemmas; conditions: as each states. -/
import Derived.Test.YtmclocdhcblbiaaGreatDoorZFrameMap
set_option maxHeartbeats 4000000
namespace Go.Proofs.YtmclocdhcblbiaaGreatDoor
open Go.RowKit Go.Shelf Go.Lib Tryz
def zbI(w:World)(fb:Bool)(cls:Str)(f1:Value)(e:Ending)(w':World):Prop :=
 Below w.heap.size w w'/\((fb=true/\∃p n c,e=.returned (.tuple #[.agg #[f1,.slice p n c],.bool true])/\qp w' (.slice p n c) [Qc cls]/\∀g,(Value.slice p n c).ownBlock=some g->w.heap.size<=g/\g<w'.heap.size) \/
  (fb=false/\e=.returned (.tuple #[.agg #[.slice none 0 0,.slice none 0 0],.bool false])))
structure CX (w wx:World) (lo hi dest:Int) (cls:Str) (f1 f2 r1 r2:Value):Prop where
 below:Below w.heap.size w wx
 box:Blk wx w.heap.size 56 [.int .i64 lo,.int .i64 hi,.int .i64 dest,.string cls]
 frm:Blk wx (w.heap.size+1) 133 [f1,f2]
 res:Blk wx (w.heap.size+1+1) 133 [r1,r2]
variable {w wx wy:World} {lo hi dest:Int} {cls:Str} {f1 f2 r1 r2:Value}
theorem CX.step(h:CX w wx lo hi dest cls f1 f2 r1 r2)(A:Below wx.heap.size wx wy):CX w wy lo hi dest cls f1 f2 r1 r2:=⟨Qa h.below Xl A,h.box.step A,h.frm.step A,h.res.step A⟩
theorem CX.new(w:World)(lo hi dest:Int)(cls:Str)(f1 f2:Value):CX w (((w.alloc (.cells #[.int .i64 lo,.int .i64 hi,.int .i64 dest,.string cls] 56)).alloc (.cells #[f1,f2] 133)).alloc (.cells #[.slice none 0 0,.slice none 0 0] 133)) lo hi dest cls f1 f2 (.slice none 0 0) (.slice none 0 0):=by
 refine⟨((Xb.alloc Xl _).alloc (by simp) _).alloc (by simp;omega) _,?_,?_,?_⟩
 ·exact(Blk.new w 56 _).step ((Xb.alloc Xl _).alloc (by simp) _)
 ·have:=(Blk.new (w.alloc (.cells #[.int .i64 lo,.int .i64 hi,.int .i64 dest,.string cls] 56)) 133 [f1,f2]).step (Xb.alloc Xl (.cells #[.slice none 0 0,.slice none 0 0] 133));simpa using this
 ·have:=Blk.new ((w.alloc (.cells #[.int .i64 lo,.int .i64 hi,.int .i64 dest,.string cls] 56)).alloc (.cells #[f1,f2] 133)) 133 [.slice none 0 0,.slice none 0 0];simpa using this
theorem CX.cells(h:CX w wx lo hi dest cls f1 f2 r1 r2):wx.cell? ⟨w.heap.size,3,none⟩=some (.string cls)/\wx.cell? ⟨w.heap.size+1,0,none⟩=some f1/\wx.cell? ⟨w.heap.size+1+1,0,none⟩=some r1/\wx.cell? ⟨w.heap.size+1+1,1,none⟩=some r2/\wx.frozen? ⟨w.heap.size+1+1,0,none⟩=false/\wx.frozen? ⟨w.heap.size+1+1,1,none⟩=false:=⟨h.box.cell 3,h.frm.cell 0,h.res.cell 0,h.res.cell 1,h.res.frozen 0,h.res.frozen 1⟩
theorem CX.set(h:CX w wx lo hi dest cls f1 f2 r1 r2)(u v:Value):CX w ((wx.setCell ⟨w.heap.size+1+1,0,none⟩ u).setCell ⟨w.heap.size+1+1,1,none⟩ v) lo hi dest cls f1 f2 u v :=
 ⟨ZaF h.below (by omega) u v,(h.box.other (by omega) 0 u).other (by omega) 1 v,(h.frm.other (by omega) 0 u).other (by omega) 1 v,h.res.put2 u v⟩
theorem CX.put(h:CX w wx lo hi dest cls f1 f2 r1 r2)(u v:Value):Below w.heap.size w ((wx.setCell ⟨w.heap.size+1+1,0,none⟩ u).setCell ⟨w.heap.size+1+1,1,none⟩ v):=ZaF h.below (by omega) u v
theorem Qdn(l:List qa):(Qb (Za l) qm).isSome=true:=rfl
theorem zeL{n:Nat}(h:n≠0):Qx n=.iface 52 (.int .i64 (n:Int)):=by unfold Qx;rw[if_neg h]
set_option maxRecDepth 100000
theorem zdo(w0 w:World)(B:Nat)(l:List qa)(d:qh w0 w B l)(lo hi dest:Int)(cls:Str)(f1 f2:Value)(hf1:∃p n c,f1=.slice p n c)(hc:cls.size<=1048576):
 Calls prog 105 #[.map (some B),.agg #[.int .i64 lo,.int .i64 hi,.int .i64 dest,.string cls],.agg #[f1,f2]] w (zbI w (qaz (Za l) cls) cls f1):=by
 obtain⟨J,L,M,rfl⟩:=hf1;have o:(Qc cls).size<=maxLen:=by rw[Zao];exact Xf (Nat.add_le_add_right hc 2) (by decide)
 have P:Zg (Za l) (Qc qm)=0:=QbH d.faults (x:=.ty (.cl qm)) ⟨(QaE _).symm,Qdn l⟩ (Nat.zero_le _);have I:Hid (∀wx,_):=fun wx=>ZZ cls wx (Xf hc (by decide))
 have q:Hid (∀wx,Calls prog 79 #[.string ⟨#[70,97,117,108,116]⟩] wx fun e w'=>e=.returned (.string (Qc qm))/\wx=w'):=fun wx=>ZZ qm wx (by decide)
 have D:Hid (∀wx,Below w.heap.size w wx->_):=fun wx hb=>qcn w0 wx B (Za l) (d.map.step hb) d.right.nodup (Qc cls) o
 have r:=CX.new w lo hi dest cls (.slice J L M) f2;obtain⟨w1,N⟩:∃w1,w1=((w.alloc (.cells #[.int .i64 lo,.int .i64 hi,.int .i64 dest,.string cls] 56)).alloc (.cells #[.slice J L M,f2] 133)).alloc (.cells #[.slice none 0 0,.slice none 0 0] 133):=⟨_,rfl⟩;rw[<-N]at r;have HW:=Xh N.symm;have f:=Xh r;obtain⟨c3,g0,r0,r1,z0,z1⟩:=r.cells;by_cases h:Zg (Za l) (Qc cls)=0
 ·have s:Hid (∀wx,Below w.heap.size w wx->_):=fun wx hb=>Qcq w0 wx B l (d.step hb) (Qc cls) (Qc qm) _ _ (zas h) (zas P) o (by decide)
  have E:qaz (Za l) cls=ZS (Za l) (Zr (Qc cls)) (Zr (Qc qm)):=by unfold qaz;rw[h];rfl
  rw[h,show Qx 0=.nilIface from rfl]at D;rw[E];clear E h P d N r;generalize ZS (Za l) (Zr (Qc cls)) (Zr (Qc qm))=fb at *;cases fb with
  |false =>
   go_enter func105,ntmps105;go_upto_region 1 with fail;rw[HW.out];go_wp2_with (first
    |(go_fit (I.out _);rintro e w2⟨rfl,rfl⟩)
    |(go_fit (q.out _);rintro e w2⟨rfl,rfl⟩)
    |(go_fit (D.out _ f.out.below);rintro e w3⟨rfl,F⟩;(have H:=f.out.step F);obtain⟨U,V,X,Y,Z,a⟩:=H.cells)
    |(go_fit (s.out _ H.below);rintro e A⟨rfl,b⟩;(have R:=H.step b);obtain⟨U,V,X,Y,Z,a⟩:=R.cells;(have t:=Xh R)))
   exact bodyPost_ret (v:=.tuple #[.agg #[.slice none 0 0,.slice none 0 0],.bool false]) (by simp[results,results105,go_sem, *]) rfl ⟨t.out.put _ _,Or.inr ⟨rfl,rfl⟩⟩
  |true =>
   go_enter func105,ntmps105;go_upto_region 1 with fail;rw[HW.out];go_upto_region 3 with(first
    |(go_fit (I.out _);rintro e w2⟨rfl,rfl⟩)
    |(go_fit (q.out _);rintro e w2⟨rfl,rfl⟩)
    |(go_fit (D.out _ f.out.below);rintro e w3⟨rfl,F⟩;(have H:=f.out.step F);obtain⟨U,V,X,Y,Z,a⟩:=H.cells)
    |(go_fit (s.out _ H.below);rintro e A⟨rfl,b⟩;(have R:=H.step b);(have t:=Xh R)))
   have T5:=Xh (R.step Xb.drew);obtain⟨d3,d0,e0,e1,x0,x1⟩:=R.cells;refine wp_region_held_drew (S:=fun w'=>w'.cell? ⟨w.heap.size+1,0,none⟩=some (.slice J L M)/\w'.cell? ⟨w.heap.size,3,none⟩=some (.string cls)) (by kernel_rfl) ⟨d0,d3⟩ (fun hHeld=>?_);change wpAnyH _ _ _ _ _ 9 _ _ _;iterate 4 ((first|(refine tkN rfl rfl hHeld ?_)|(refine tkY (v:=?_) rfl rfl hHeld ?_ ?_;rotate_left;focus (intro w G;(obtain⟨s0,s1⟩:=G);go_simp;all_goals with_reducible rfl)));try simp only[Act.put,Xa,Xc,Xd])
   refine wpAnyH_ready (rs:=[4]) (fuel:=4) (by kernel_rfl) (by simp) ?_;refine AllReadyH.cons (i:=4) rfl (fun K O=>?_) AllReadyH.nil;go_simp;refine(I.out _).mono ?_;rintro e w6⟨rfl,rfl⟩;refine O.out _ _ hHeld (fun hHeld=>?_);clear O K;(try simp only[Act.put]);(try simp only[Xa]);(try simp only[Xd]);(try simp only[Xc])
   have j:=T5.out.step (Xb.alloc Xl (.cells #[.string (Qc cls)] 9));have C:=qbR A.drew (Qc cls);refine wpAnyH_ready (rs:=[5]) (fuel:=3) (by kernel_rfl) (by simp) ?_;refine AllReadyH.cons (i:=5) rfl (fun K O=>?_) AllReadyH.nil;go_simp;refine O.out _ _ ⟨j.frm.cell 0,j.box.cell 3⟩ (fun hHeld=>?_);clear O K;(try simp only[Act.put]);(try simp only[Xa]);(try simp only[Xd]);(try simp only[Xc])
   change wpAnyH _ _ _ _ _ 3 _ _ _;iterate 1 ((first|(refine tkN rfl rfl hHeld ?_)|(refine tkY (v:=?_) rfl rfl hHeld ?_ ?_;rotate_left;focus (intro w G;(obtain⟨s0,s1⟩:=G);go_simp;all_goals with_reducible rfl)));(try simp only[Act.put]);(try simp only[Xa]);(try simp only[Xd]);(try simp only[Xc]))
   have y:A.heap.size<((A.alloc (.cells #[.string (Qc cls)] 9)).drew).heap.size:=(by simp);have z:w.heap.size<=A.heap.size:=R.below.size;replace j:CX w ((A.alloc (.cells #[.string (Qc cls)] 9)).drew) lo hi dest cls (.slice J L M) f2 (.slice none 0 0) (.slice none 0 0):=j;replace C:qp ((A.alloc (.cells #[.string (Qc cls)] 9)).drew) (.slice (some ⟨A.heap.size,0,none⟩) 1 1) [Qc cls]:=C;have T:=Xh j;have HO6:=Xh C;try rw[show(A.drew.alloc (.cells #[.string (Qc cls)] 9))=(A.alloc (.cells #[.string (Qc cls)] 9)).drew from rfl]
   clear j C hHeld d3 d0 e0 e1 x0 x1 T5;generalize (A.alloc (.cells #[.string (Qc cls)] 9)).drew=w6 at *;obtain⟨_,_,y0,y1,v0,v1⟩:=T.out.cells;refine wpAnyH_ready (rs:=[7]) (fuel:=1) (by kernel_rfl) (by simp) ?_;refine AllReadyH.cons (i:=7) rfl (fun K O=>?_) AllReadyH.nil;go_simp;have k:=T.out.set (.slice J L M) (.slice (some ⟨A.heap.size,0,none⟩) 1 1);refine O.out _ _ ⟨k.frm.cell 0,k.box.cell 3⟩ (fun hHeld=>?_);clear O K;(try simp only[Act.put]);(try simp only[Xa]);(try simp only[Xd]);(try simp only[Xc])
   change wpAnyH _ _ _ _ _ 1 _ _ _;iterate 1 ((first|(refine tkN rfl rfl hHeld ?_)|(refine tkY (v:=?_) rfl rfl hHeld ?_ ?_;rotate_left;focus (intro w G;(obtain⟨s0,s1⟩:=G);go_simp;all_goals with_reducible rfl)));(try simp only[Act.put]);(try simp only[Xa]);(try simp only[Xd]);(try simp only[Xc]))
   refine wpAnyH_done (by kernel_rfl) ?_ _;have HT7:=Xh k;have aA:=(HO6.out).apart T.out.res (by simp) (by simp) (w':=(w6.setCell ⟨w.heap.size+1+1,0,none⟩ (.slice J L M)).setCell ⟨w.heap.size+1+1,1,none⟩ (.slice (some ⟨A.heap.size,0,none⟩) 1 1)) fun g m=>(Xk _ _ _ _ m).trans (Xk _ _ _ _ m)
   have HOb:=Xh aA;have HSz:Hid (w.heap.size<=A.heap.size/\A.heap.size<((w6.setCell ⟨w.heap.size+1+1,0,none⟩ (.slice J L M)).setCell ⟨w.heap.size+1+1,1,none⟩ (.slice (some ⟨A.heap.size,0,none⟩) 1 1)).heap.size):=⟨z,by simpa using y⟩;have k0:=k.res.cell 0;have k1:=k.res.cell 1;clear hHeld k aA y0 y1 v0 v1 y z;generalize (w6.setCell ⟨w.heap.size+1+1,0,none⟩ (.slice J L M)).setCell ⟨w.heap.size+1+1,1,none⟩ (.slice (some ⟨A.heap.size,0,none⟩) 1 1)=w7 at *;go_wp2_with fail;exact bodyPost_ret (v:=.tuple #[.agg #[.slice J L M,.slice (some ⟨A.heap.size,0,none⟩) 1 1],.bool true]) (by simp[results,results105,go_sem, *]) rfl ⟨HT7.out.below,Or.inl ⟨rfl,_,_,_,rfl,HOb,fun g m=>by injection m with m;subst m;exact HSz.out⟩⟩
 ·have E:qaz (Za l) cls=false:=by unfold qaz;rw[beq_eq_false_iff_ne.2 h];rfl
  rw[zeL h]at D;rw[E];clear E P d N r;go_enter func105,ntmps105;go_upto_region 1 with fail;rw[HW.out];go_wp2_with (first
   |(go_fit (I.out _);rintro e w2⟨rfl,rfl⟩)
   |(go_fit (D.out _ f.out.below);rintro e w3⟨rfl,F⟩;(have H:=f.out.step F);obtain⟨U,V,X,Y,Z,a⟩:=H.cells;(have HT3:=Xh H)))
  exact bodyPost_ret (v:=.tuple #[.agg #[.slice none 0 0,.slice none 0 0],.bool false]) (by simp[results,results105,go_sem, *]) rfl ⟨HT3.out.put _ _,Or.inr ⟨rfl,rfl⟩⟩
def Zb1:Str:=⟨#[84]⟩
def zaK(cls:Str)(static:Bool):List Str:=if static then [] else [Qc cls]
def zaa(cls:Str)(static:Bool)(args:List Str)(many:Nat):List Str:=zaK cls static++args++List.replicate (many-(zaK cls static++args).length) Zb1
def zcQ(w:World)(L:List Str)(g:Str)(e:Ending)(w':World):Prop :=
 Below w.heap.size w w'/\∃p n c,e=.returned (.tuple #[.agg #[.slice p n c,.slice none 0 0],.string g])/\qp w' (.slice p n c) L/\∀b,(Value.slice p n c).ownBlock=some b->w.heap.size<=b/\b<w'.heap.size
structure FX (w wx:World) (mv:List Value) (fb:Nat) (r1 r2 l1 l2:Value):Prop where
 below:Below w.heap.size w wx
 box:Blk wx w.heap.size 39 mv
 res:Blk wx (w.heap.size+1) 133 [r1,r2]
 frm:Blk wx fb 133 [l1,l2]
 gt:w.heap.size+1<fb
variable {w wx wy:World} {mv:List Value} {fb:Nat} {r1 r2 l1 l2:Value}
theorem FX.step(h:FX w wx mv fb r1 r2 l1 l2)(A:Below wx.heap.size wx wy):FX w wy mv fb r1 r2 l1 l2:=⟨Qa h.below Xl A,h.box.step A,h.res.step A,h.frm.step A,h.gt⟩
theorem FX.grown{r:Option Nat}(h:FX w wx mv fb r1 r2 l1 l2)(A:wx.grownBy wy r)(B:∀g,r=some g->fb<g):FX w wy mv fb r1 r2 l1 l2:=by
 have C:=h.gt;exact⟨h.below.grown A h.below.size (fun g e=>by have:=B g e;omega),h.box.grown A (fun e=>by have:=B _ e;omega),h.res.grown A (fun e=>by have:=B _ e;omega),h.frm.grown A (fun e=>by have:=B _ e;omega),C⟩
theorem FX.lset(h:FX w wx mv fb r1 r2 l1 l2)(v:Value):FX w (wx.setCell ⟨fb,0,none⟩ v) mv fb r1 r2 v l2:=by
 have A:=h.gt;exact⟨h.below.setCell (by show w.heap.size<=fb;omega) _,h.box.other (by omega) 0 v,h.res.other (by omega) 0 v,h.frm.put 0 v,A⟩
theorem QdL{w:World}{b:Nat}{t:TypeId}{x y v:Value}{l:List Str}(h:qp w v l)(A:Blk w b t [x,y])(u:Value)(B:∀s,x≠.string s:=by simp)(C:∀s,y≠.string s:=by simp):qp (w.setCell ⟨b,0,none⟩ u) v l:=h.apart A B C fun _ D=>Xk _ _ _ _ D
def ZeL(w:World)(fb:Nat):Nat:=match w.cell? ⟨fb,0,none⟩ with
 |some (.slice _ n _)=>n
 |_=>0
theorem Zdo{p:Option Addr}{n c:Nat}(h:wx.cell? ⟨fb,0,none⟩=some (.slice p n c)):ZeL wx fb=n:=by unfold ZeL;rw[h]
theorem Zcn(w:World)(cls name C:Str)(B H D:Bool)(A:Nat)(pc ph:Option Addr)(nc cc nh ch:Nat)(args:List Str)(g:Str)(hm:Zl C=some (args,g))(hty:C.size<=1048576)(hc:cls.size<=1048576)(hn:A<=8)(ha:args.length<=5):
 Calls prog 69 #[.string cls,.agg #[.string name,.string C,.bool B,.bool H,.bool D,.int .i64 (A:Int),.slice pc nc cc,.slice ph nh ch]] w (zcQ w (zaa cls B args A) g):=by
 have HTh:Hid (∀wx,_):=fun wx=>ZZ cls wx (Xf hc (by decide))
 have HD:Hid (∀wx,_):=fun wx=>zbn C wx hty
 rw[hm]at HD;unfold Qbe at HD;dsimp only at HD;obtain⟨mv,Y⟩:∃mv,mv=[Value.string name,.string C,.bool B,.bool H,.bool D,.int .i64 (A:Int),.slice pc nc cc,.slice ph nh ch]:=⟨_,rfl⟩;have d:=Blk.new w 39 [.string name,.string C,.bool B,.bool H,.bool D,.int .i64 (A:Int),.slice pc nc cc,.slice ph nh ch];have K1:=Blk.new (w.alloc (.cells #[.string name,.string C,.bool B,.bool H,.bool D,.int .i64 (A:Int),.slice pc nc cc,.slice ph nh ch] 39)) 133 [.slice none 0 0,.slice none 0 0];have B1:Below w.heap.size w ((w.alloc (.cells #[.string name,.string C,.bool B,.bool H,.bool D,.int .i64 (A:Int),.slice pc nc cc,.slice ph nh ch] 39)).alloc (.cells #[.slice none 0 0,.slice none 0 0] 133)):=(Xb.alloc Xl _).alloc (by simp) _;replace d:=d.step (Xb.alloc Xl (.cells #[.slice none 0 0,.slice none 0 0] 133));rw[World.size_alloc]at K1;obtain⟨w1,y⟩:∃w1,w1=(w.alloc (.cells #[.string name,.string C,.bool B,.bool H,.bool D,.int .i64 (A:Int),.slice pc nc cc,.slice ph nh ch] 39)).alloc (.cells #[.slice none 0 0,.slice none 0 0] 133):=⟨_,rfl⟩;rw[<-y]at d K1 B1;rw[<-Y]at d;have HW:=Xh y.symm;have i:=Xh Y;clear y;have q1:w1.cell? ⟨w.heap.size,1,none⟩=some (.string C):=by rw[Y]at d;exact d.cell 1
 clear Y;go_enter func69,ntmps69;go_upto_region 1 with fail;rw[HW.out];go_upto_region 5 with(first|(go_fit (HD.out _);rintro e U⟨S,v3,rfl,T⟩))
 have K03:=d.step S;have K13:=K1.step S;have hgt:w.heap.size+1<U.heap.size:=Nat.lt_of_lt_of_le K1.lt S.size;have J:FX w (U.alloc (.cells #[.slice none 0 0,.slice none 0 0] 133)) mv U.heap.size (.slice none 0 0) (.slice none 0 0) (.slice none 0 0) (.slice none 0 0) :=
  ⟨(Qa B1 Xl S).alloc (by omega) _,K03.step (Xb.alloc Xl _),K13.step (Xb.alloc Xl _),Blk.new U 133 [.slice none 0 0,.slice none 0 0],hgt⟩
 have hA4:=(Zk T).mono ((Below.refl U.heap.size U).alloc Xl (.cells #[.slice none 0 0,.slice none 0 0] 133));generalize hW4:U.alloc (.cells #[.slice none 0 0,.slice none 0 0] 133)=N at *;have O:U.heap.size+1<=N.heap.size:=J.frm.lt;generalize U.heap.size=fb at *;have j:=Xh hA4;have V:=Xh J;clear T hA4 d K1 K03 K13 B1 q1 S hW4 HW;cases B;case' true =>
  have q2:N.cell? ⟨w.heap.size,2,none⟩=some (.bool true):=by have:=J.box.cell 2;rwa [i.out]at this
  have f0:=J.frm.cell 0;have E:N.ownsRow (fb+1) 9 1 (.slice none 0 0) 0 []:=⟨rfl,Or.inl ⟨rfl,rfl⟩⟩;have k:0+args.length<=maxLen:=Xf (show 0+args.length<=8 by omega) (by decide);have l:(0+args.length)*16<=140737488355328:=by omega
  have m:=j.out;have z0:=J.frm.frozen 0;clear J;go_upto_region 8 with(first
   |(at_builtin;go_must (refine Z2 rfl _ _ rfl (fb+1) _ 0 [] rfl E _ args rfl m k l O ?_);intro v6 w6 I a _;obtain⟨f,h,rfl⟩:=Ze I;(have o:=V.out.grown a (fun g e=>by cases e));(have k6:=o.frm.cell 0);(have z6:=o.frm.frozen 0)))
  obtain⟨L,Z⟩:∃L,zaK cls true++args=L:=⟨_,rfl⟩;have P:(w6.setCell ⟨fb,0,none⟩ (.slice f L.length h)).ownsRow (fb+1) 9 1 (.slice f L.length h) L.length (L.map Value.string):=by
   rw[<-Z];simp only[zaK,if_true,List.length_append,List.length_nil,List.map_append,List.map_nil];exact ZD I (Nat.lt_succ_self _) 0 _
  have q:0+args.length=L.length:=by rw[<-Z];simp[zaK];try omega
  have hn7:args.length=L.length:=by omega
  rw[q]at *;rw[hn7];have T8:=o.lset (.slice f L.length h);have R:zaa cls true args A=L++List.replicate (A-L.length) Zb1:=by unfold zaa;rw[Z]
  rw[R];have r:L.length<=8:=by rw[<-Z];simp[zaK];omega
 case' false =>
  have q2:N.cell? ⟨w.heap.size,2,none⟩=some (.bool false):=by have:=J.box.cell 2;rwa [i.out]at this
  have f0:=J.frm.cell 0;have z0:=J.frm.frozen 0;have f0':=(J.step (Xb.alloc Xl (.cells #[.string (Qc cls)] 9))).frm.cell 0;have z0':=(J.step (Xb.alloc Xl (.cells #[.string (Qc cls)] 9))).frm.frozen 0;clear J;go_upto_region 7 with(first|(go_fit (HTh.out _);rintro e w5⟨rfl,rfl⟩))
  have T5:=Xh ((V.out.step (Xb.alloc Xl (.cells #[.string (Qc cls)] 9))).lset (.slice (some ⟨N.heap.size,0,none⟩) 1 1));have E:=ZD (ZaK N (fb+1) (.string (Qc cls)) O) (Nat.lt_succ_self fb) 0 (.slice (some ⟨N.heap.size,0,none⟩) 1 1);have m:=QdL (j.out.mono (Xb.alloc Xl (.cells #[.string (Qc cls)] 9))) (V.out.step (Xb.alloc Xl (.cells #[.string (Qc cls)] 9))).frm (.slice (some ⟨N.heap.size,0,none⟩) 1 1);have hfb5:fb+1<=((N.alloc (.cells #[.string (Qc cls)] 9)).setCell ⟨fb,0,none⟩ (.slice (some ⟨N.heap.size,0,none⟩) 1 1)).heap.size:=T5.out.frm.lt;have k:1+args.length<=maxLen:=Xf (show 1+args.length<=8 by omega) (by decide);have l:(1+args.length)*16<=140737488355328:=by omega
  clear f0 z0 f0' z0' q2;generalize (N.alloc (.cells #[.string (Qc cls)] 9)).setCell ⟨fb,0,none⟩ (.slice (some ⟨N.heap.size,0,none⟩) 1 1)=w5 at *;have f0:=T5.out.frm.cell 0;go_upto_region 8 with(first
   |(at_builtin;go_must (refine Z2 rfl _ _ rfl (fb+1) _ 1 [.string (Qc cls)] rfl E _ args rfl m k l hfb5 ?_);intro v6 w6 I a _;obtain⟨f,h,rfl⟩:=Ze I;(have o:=T5.out.grown a (fun g e=>(E.lt g e).1));(have k6:=o.frm.cell 0);(have z6:=o.frm.frozen 0)))
  obtain⟨L,Z⟩:∃L,zaK cls false++args=L:=⟨_,rfl⟩;have P:(w6.setCell ⟨fb,0,none⟩ (.slice f L.length h)).ownsRow (fb+1) 9 1 (.slice f L.length h) L.length (L.map Value.string):=by
   rw[<-Z];simp only[zaK,Bool.false_eq_true,if_false,List.length_append,List.length_singleton,List.map_append,List.map_nil,List.map_cons];exact ZD I (Nat.lt_succ_self _) 0 _
  have q:1+args.length=L.length:=by rw[<-Z];simp[zaK];try omega
  rw[q]at *;have T8:=o.lset (.slice f L.length h);have R:zaa cls false args A=L++List.replicate (A-L.length) Zb1:=by unfold zaa;rw[Z]
  rw[R];have r:L.length<=8:=by rw[<-Z];simp[zaK];omega
 all_goals
  generalize hW8:w6.setCell ⟨fb,0,none⟩ (.slice f L.length h)=w8 at *;have HfL:=Xh R;clear hW8 I a z6 E R;have HO8:=Xh P;have HT8:=Xh T8;have Hfb8:=Xh T8.frm.lt;have HL8:=Xh r;have F:=Xh T8.gt;clear P T8 V j O r hgt;go_loopw [] (fun wr=>∃(p:Option Addr) (n c:Nat) (M:List Str),Hid (FX w wr mv fb (.slice none 0 0) (.slice none 0 0) (.slice p n c) (.slice none 0 0))/\Hid (wr.ownsRow (fb+1) 9 1 (.slice p n c) n (M.map Value.string))/\Hid (M.length=n)/\Hid (M++List.replicate (A-n) Zb1=L++List.replicate (A-L.length) Zb1)/\Hid (n<=8)) (fun wr=>A-ZeL wr fb)
  case atStart=>exact⟨_,_,_,L,HT8,HO8,rfl,rfl,HL8⟩
  case round =>
   clear HT8 HO8;obtain⟨p,n,c,M,G,hO,z,hM,hn8⟩:=hrel;have c0:=G.out.frm.cell 0;have z0:=G.out.frm.frozen 0;have c5:=G.out.box.cell 5;rw[i.out]at c5;replace c5:=show _=some (Value.int .i64 (A:Int)) from c5
   by_cases hlt:n<A
   ·have hltI:(n:Int)<(A:Int):=(by omega);have c0':=(G.out.step (Xb.alloc Xl (.cells #[.string Zb1] 9))).frm.cell 0;have z0':=(G.out.step (Xb.alloc Xl (.cells #[.string Zb1] 9))).frm.frozen 0;go_wp2_with (at_builtin;go_must (refine Z2 rfl _ _ rfl (fb+1) _ n (M.map Value.string) rfl (QW hO.out (Xb.alloc Xl (.cells #[.string Zb1] 9))) _ [Zb1] rfl (qbR _ _) (Xf (show n+1<=9 by have:=hn8.out;omega) (by decide)) (by have:=hn8.out;simp;omega) (by simp;have:=Hfb8.out;have:=G.out.frm.lt;omega) ?_);intro v' U T hg3 _;obtain⟨a3,c3,rfl⟩:=Ze T;(have T3:=(G.out.step (Xb.alloc Xl (.cells #[.string Zb1] 9))).grown hg3 (fun g e=>(World.ownsRow.lt hO.out g e).1));(have k3:=T3.frm.cell 0);(have z3:=T3.frm.frozen 0))
    go_roundw;case rel =>
     refine⟨a3,n+1,c3,M++[Zb1],T3.lset _,?_,?_,?_,?_⟩
     ·have:=ZD T (Nat.lt_succ_self fb) 0 (.slice a3 (n+1) c3);unfold Hid;rw[List.map_append];exact this
     ·unfold Hid;rw[List.length_append,z.out];rfl
     ·rw[<-hM.out];unfold Hid;rw[show A-n=(A-(n+1))+1 by omega,List.replicate_succ,List.append_assoc];rfl
     ·unfold Hid;omega
    case measure =>
     rw[Zdo c0,Zdo (T3.lset (.slice a3 (n+1) c3) |>.frm.cell 0)];omega
   ·have hltI:¬(n:Int)<(A:Int):=(by omega);have c1:=G.out.frm.cell 1;have z1:=G.out.frm.frozen 1;have d0:=G.out.res.cell 0;have d1:=G.out.res.cell 1;have e0:=G.out.res.frozen 0;have e1:=G.out.res.frozen 1;go_wp2_with fail;have hmn:A-n=0:=(by omega);have s:=hM.out;rw[hmn]at s;rw[List.replicate_zero,List.append_nil]at s;have X:=s.trans HfL.out.symm;have t:=ZD (ZD hO.out (Nat.lt_trans F.out (Nat.lt_succ_self fb)) 0 (.slice p n c)) (Nat.lt_trans F.out (Nat.lt_succ_self fb)) 1 (.slice none 0 0);rw[X]at t;have hB2:Below w.heap.size w ((wr.setCell ⟨w.heap.size+1,0,none⟩ (.slice p n c)).setCell ⟨w.heap.size+1,1,none⟩ (.slice none 0 0)):=((G.out.below).setCell (show w.heap.size<=w.heap.size+1 by omega) _).setCell (show w.heap.size<=w.heap.size+1 by omega) _;have R2:=(G.out.res.put 0 (.slice p n c)).put 1 (.slice none 0 0);have rr0:((wr.setCell ⟨w.heap.size+1,0,none⟩ (.slice p n c)).setCell ⟨w.heap.size+1,1,none⟩ (.slice none 0 0)).cell? ⟨w.heap.size+1,0,none⟩=some (.slice p n c):=R2.cell 0;have rr1:((wr.setCell ⟨w.heap.size+1,0,none⟩ (.slice p n c)).setCell ⟨w.heap.size+1,1,none⟩ (.slice none 0 0)).cell? ⟨w.heap.size+1,1,none⟩=some (.slice none 0 0):=R2.cell 1;have hO3:=t;rw[<-z.out,X]at hO3;have hS2:=Zk hO3;rw[<-X,z,X]at hS2;have x:∀b,(Value.slice p n c).ownBlock=some b->w.heap.size<=b/\b<((wr.setCell ⟨w.heap.size+1,0,none⟩ (.slice p n c)).setCell ⟨w.heap.size+1,1,none⟩ (.slice none 0 0)).heap.size:=fun b hb=>by
     have h2:=World.ownsRow.lt t b hb;have:=F.out;exact⟨by omega,h2.2⟩
    exact bodyPost_ret (v:=.tuple #[.agg #[.slice p n c,.slice none 0 0],.string g]) (by simp[results,results69,go_sem, *]) rfl ⟨hB2,p,n,c,rfl,hS2,x⟩
