/- Lemmas; conditions: as each states. -/
import Derived.Test.YtlmfmioljeppfaaGreatDoorOddLaw
import Derived.Test.YtlmfmioljeppfaaGreatDoorRightTells
set_option maxHeartbeats 4000000
namespace Go.Proofs.YtlmfmioljeppfaaGreatDoor
open Go.RowKit Go.Shelf Go.Lib
structure RX (w wx:World) (op a b:Int) (type cls name:Str):Prop where
 below:Below w.heap.size w wx
 box:Blk wx w.heap.size 24 [.int .i64 op,.int .i64 a,.int .i64 b,.string type,.string cls,.string name]
theorem RX.new(w:World)(C a b:Int)(A cls B:Str):RX w (w.alloc (.cells #[.int .i64 C,.int .i64 a,.int .i64 b,.string A,.string cls,.string B] 24)) C a b A cls B :=
 ⟨Xb.alloc Xl _,Blk.new w 24 _⟩
theorem RX.step{w wx wy:World}{C a b:Int}{A cls B:Str}(h:RX w wx C a b A cls B)(D:Below wx.heap.size wx wy):RX w wy C a b A cls B:=⟨Qa h.below Xl D,h.box.step D⟩
theorem RX.alloc{w wx:World}{C a b:Int}{A cls B:Str}(h:RX w wx C a b A cls B)(o:Obj):RX w (wx.alloc o) C a b A cls B:=h.step (Xb.alloc Xl o)
theorem RX.drew{w wx:World}{C a b:Int}{A cls B:Str}(h:RX w wx C a b A cls B):RX w wx.drew C a b A cls B:=h.step (Xb.drew)
theorem RX.grown{w wx wy:World}{C a b:Int}{A cls B:Str}{r:Option Nat}(h:RX w wx C a b A cls B)(D:wx.grownBy wy r)(E:∀g,r=some g->w.heap.size+1<=g):RX w wy C a b A cls B :=
 ⟨h.below.grown D h.below.size (fun g e=>by have:=E g e;omega),h.box.grown D (fun e=>by have:=E _ e;omega)⟩
theorem RX.cells{w wx:World}{C a b:Int}{A cls B:Str}(h:RX w wx C a b A cls B):wx.cell? ⟨w.heap.size,0,none⟩=some (.int .i64 C)/\wx.cell? ⟨w.heap.size,1,none⟩=some (.int .i64 a)/\wx.cell? ⟨w.heap.size,2,none⟩=some (.int .i64 b)/\wx.cell? ⟨w.heap.size,3,none⟩=some (.string A)/\wx.cell? ⟨w.heap.size,4,none⟩=some (.string cls)/\wx.cell? ⟨w.heap.size,5,none⟩=some (.string B):=h.box.cells6
def Zj(w:World)(o:Option (List Str×List Str))(e:Ending)(w':World):Prop :=
 Below w.heap.size w w'/\((o=none/\∃v1 v2,e=.returned (.tuple #[v1,v2,.bool false]))\/∃ks ps v1 v2,o=some (ks,ps)/\e=.returned (.tuple #[v1,v2,.bool true])/\Qh w' v1 ks/\Qh w' v2 ps)
theorem Zj.no{w w':World}{o:Option (List Str×List Str)}{A B:Value}(h:o=none)(C:Below w.heap.size w w'):Zj w o (.returned (.tuple #[A,B,.bool false])) w':=⟨C,Or.inl ⟨h,_,_,rfl⟩⟩
theorem Zj.yes{w w':World}{o:Option (List Str×List Str)}{ks A:List Str}{B C:Value}(h:o=some (ks,A))(D:Below w.heap.size w w')(E:Qh w' B ks)(F:Qh w' C A):Zj w o (.returned (.tuple #[B,C,.bool true])) w':=⟨D,Or.inr ⟨ks,A,B,C,h,rfl,E,F⟩⟩
theorem qQ(w:World):Qh w (.slice none 0 0) []:=Or.inl ⟨rfl,rfl⟩
theorem ZaD(c:Str)(w:World)(hs:c.size<=4194304):Calls Tryz.prog 82 #[.string c] w fun e w'=>e=.returned (.string (Zd c))/\w=w':=by
 have A:(⟨#[76]⟩++c:ByteArray).size<=4194305:=by rw[ByteArray.size_append];show 1+c.size<=_;omega
 go_enter Tryz.func82,Tryz.ntmps82;go_wp2
 go_ret;exact⟨rfl,rfl⟩
theorem Zd8{cs:List Qb}{k:Str}(B:zd cs k=0):Z9 (Zo k)=((k.toList==[78])||Zt (Zo k)):=by
 obtain⟨x,A,_⟩:=ZM B;have C:k.toList=Qo x:=by rw[A,ByteArray.toList_eq]
 unfold Z9;rw[qz A,C];cases x with
 |n=>rfl
 |t=>rfl
 |ty y=>cases y<;>rfl
theorem qej{l:List Qb}(A:∀c∈l,qd c=0){k:Str}{x:Kd}(C:zd (Za l) k=0)(B:qaX (Za l) k x):∀y,x=.ty y->Zs (Zf y)=true:=qP A B.2 (qar B C)
theorem qbn{l:List Qb}(B:∀c∈l,qd c=0)(k:Str)(w:World)(A:zd (Za l) k=0):Calls Tryz.prog 81 #[.string k] w fun e w'=>e=.returned (.bool (Z9 (Zo k)))/\w=w':=by
 have C:=Zd8 A;obtain⟨x,D⟩:=ZM A;have hs:k.size<=maxLen:=Xf (ZU A) (by decide);have E:Hid (∀wx,_):=fun wx=>qE k x wx D.1 (qej B A D) hs
 rw[qz D.1]at C ⊢;rw[C];clear C;generalize Zt x=r at *;cases F:(k.toList==[78]) with
 |true =>
  rw[Bool.true_or];go_enter Tryz.func81,Tryz.ntmps81;go_wp2
  go_ret;exact⟨rfl,rfl⟩
 |false =>
  rw[Bool.false_or];go_enter Tryz.func81,Tryz.ntmps81;go_wp2_with (go_fit (E.out _);rintro e G⟨rfl,rfl⟩)
  go_ret;exact⟨rfl,rfl⟩
theorem zc1{cs:List Qb}{qb cls A B:Str}{static:Bool}(h:Zz cs qb cls A B static≠0):Qax cs qb cls A B static=none:=by unfold Qax;rw[if_pos h]
set_option maxRecDepth 100000
theorem ZcF(l:List Qb)(E:Value)(I:Zk l)(D:∀c∈l,qd c=0)(w:World)(C:qj w E l)(qb:Str)(F a b:Int)(A cls B:Str)(static:Bool)(N:(F==25)=static)(J:Zz (Za l) qb cls B A static≠0):
 Calls Tryz.prog 84 #[E,.string qb,.agg #[.int .i64 F,.int .i64 a,.int .i64 b,.string A,.string cls,.string B]] w (Zj w (Qax (Za l) qb cls B A static)):=by
 have O:Hid (∀wx,Below w.heap.size w wx->_):=fun wx P=>QbO l E qb cls B A static wx I D (C.mono P)
 have L:=zc1 J;rw[L];generalize Zz (Za l) qb cls B A static=n at *;have R:((n:Int) != 0)=true:=by simp;omega
 obtain⟨S,cap,rfl,_⟩:=C.open;have G:=RX.new w F a b A cls B;obtain⟨T,U,V,X,Y,Z⟩:=G.cells;clear C I D L J;have M:=Xh G;clear G;go_enter Tryz.func84,Tryz.ntmps84;go_wp2_with (go_fit (O.out _ M.out.below);rintro e d⟨rfl,H⟩)
 go_ret3;exact Zj.no rfl (Qa M.out.below Xl H)
set_option maxRecDepth 512
theorem qd8{args:List Str}{j i:Nat}{k:Str}(A:args[i]? = some k)(C:i+j+1=args.length):args.reverse.take (j+1)=args.reverse.take j++[k]:=by
 have B:args.reverse[j]? = some k:=by
  rw[List.getElem?_reverse (by omega),<-A];congr 1;omega
 rw[List.take_add_one,B];rfl
theorem Qd8{cs:List Qb}{static:Bool}{cls:Str}{args:List Str}{g k:Str}(h:k∈args)(A:¬zd cs k=0):qbs cs static cls args g=none:=by
 unfold qbs;rw[if_neg];intro B;exact A (beq_iff_eq.1 (List.all_eq_true.1 B k h))
theorem QdL{cs:List Qb}{static:Bool}{cls:Str}{args:List Str}{g:Str}(A:args.reverse.all (fun k=>zd cs k==0)=true)(B:(g.toList==[86])=true):qbs cs static cls args g=some (args.reverse++QaG static cls,[]):=by
 unfold qbs;rw[if_pos (by rwa [List.all_reverse]at A),if_pos B]
theorem zd9{cs:List Qb}{static:Bool}{cls:Str}{args:List Str}{g:Str}(A:args.reverse.all (fun k=>zd cs k==0)=true)(B:(g.toList==[86])=false)(C:zd cs g=0):qbs cs static cls args g=some (args.reverse++QaG static cls,[g]):=by
 unfold qbs;rw[if_pos (by rwa [List.all_reverse]at A),if_neg (by rw[B];decide),if_pos C]
theorem zdM{cs:List Qb}{static:Bool}{cls:Str}{args:List Str}{g:Str}(B:(g.toList==[86])=false)(C:¬zd cs g=0):qbs cs static cls args g=none:=by
 unfold qbs;by_cases A:args.all (fun k=>zd cs k==0)=true
 ·rw[if_pos A,if_neg (by rw[B];decide),if_neg C]
 ·rw[if_neg A]
theorem ZdM{cs:List Qb}{qb cls B A:Str}{static:Bool}{args:List Str}{g:Str}(h:Zz cs qb cls B A static=0)(C:Zm A=some (args,g)):Qax cs qb cls B A static=qbs cs static cls args g:=by
 unfold Qax;rw[if_neg (by rw[h];decide),C]
set_option maxRecDepth 100000
theorem qcj(l:List Qb)(lv:Value)(hR:Zk l)(hcf:∀c∈l,qd c=0)(w:World)(V:qj w lv l)(qb:Str)(op a b:Int)(H cls N:Str)(static:Bool)(h24:(op==24)=!static)(X:(op==25)=static)(hty:H.size<=1048576)(hcl:cls.size<=4194304)(args:List Str)(g:Str)(hm:Zm H=some (args,g))(hf:Zz (Za l) qb cls N H static=0):
 Calls Tryz.prog 84 #[lv,.string qb,.agg #[.int .i64 op,.int .i64 a,.int .i64 b,.string H,.string cls,.string N]] w (Zj w (qbs (Za l) static cls args g)):=by
 have HC:Hid (∀wx,Below w.heap.size w wx->_):=fun wx hb=>QbO l lv qb cls N H static wx hR hcf (V.mono hb)
 rw[hf]at HC;have HM:Hid (∀wx,_):=fun wx=>QaJ H wx hty
 rw[hm]at HM;unfold qav at HM;dsimp only at HM;have HTh:Hid (∀wx,_):=fun wx=>ZaD cls wx hcl
 obtain⟨hsz1,hsz2⟩:=QQ hm;have HKi:Hid (∀wx k,Below w.heap.size w wx->k∈args->_):=fun wx k hb U=>qV l lv k wx (V.mono hb) (Xf (Xf (hsz1 k U) hty) (by decide))
 have HKg:Hid (∀wx,Below w.heap.size w wx->_):=fun wx hb=>qV l lv g wx (V.mono hb) (Xf (Xf hsz2 hty) (by decide))
 have h5:=ZS hm;have hsw:=Xh (fun(k:Str) (h:k∈args) (U:¬zd (Za l) k=0)=>Qd8 (static:=static) (cls:=cls) (g:=g) h U);have hsv:=Xh (fun(ha:args.reverse.all (fun k=>zd (Za l) k==0)=true) (q:(g.toList==[86])=true)=>QdL (static:=static) (cls:=cls) ha q);have hso:=Xh (fun(ha:args.reverse.all (fun k=>zd (Za l) k==0)=true) (q:(g.toList==[86])=false) (U:zd (Za l) g=0)=>zd9 (static:=static) (cls:=cls) ha q U);have M:=Xh (fun(q:(g.toList==[86])=false) (U:¬zd (Za l) g=0)=>zdM (static:=static) (cls:=cls) (args:=args) q U);generalize qbs (Za l) static cls args g=res at *;obtain⟨pl,cap,rfl,_⟩:=V.open;have T0:=RX.new w op a b H cls N;obtain⟨c0,c1,c2,c3,c4,c5⟩:=T0.cells;obtain⟨i0,hi,y,z,aA⟩:=info_parts qO;clear V hR hcf hf hm hsz1 hsz2;have HT:=Xh T0;clear T0;obtain⟨n,hn⟩:∃n,args.length=n:=⟨_,rfl⟩;have o:=Xh hn;rw[hn]at h5;have z1:wrap64 ((n:Int)-1)=(n:Int)-1:=by unfold wrap64;omega
 clear hn;go_enter Tryz.func84,Tryz.ntmps84;go_wp2_with (first
  |(go_fit (HC.out _ HT.out.below);rintro e w2⟨rfl,hB2⟩;(have T2:=HT.out.step hB2);obtain⟨d0,d1,d2,d3,d4,d5⟩:=T2.cells)
  |(go_fit (HM.out _);rintro e Z⟨hB3,v,rfl,q⟩;(have T3:=T2.step hB3);obtain⟨p,c,rfl,_⟩:=q.open;rw[o.out]at q ⊢))
 have HV:=Xh q;have HT3:=Xh T3;clear HC HM HT T2 T3 hB2 hB3 q;go_loopw [12,13] (fun v x wr=>∃j:Nat,j<=n/\Hid ((args.reverse.take j).all (fun k=>zd (Za l) k==0)=true)/\wr.ownsRow Z.heap.size 9 1 v j ((args.reverse.take j).map Value.string)/\RX w wr op a b H cls N/\Below Z.heap.size Z wr/\x=.int .i64 ((n:Int)-1-j)) (fun _ x _=>(intOf x+1).toNat)
 case atStart=>exact⟨0,by omega,rfl,World.ownsRow_nil _ _ _ _,HT3,Xb,by simp⟩
 case round =>
  obtain⟨j,hj,I,A,T,hB,rfl⟩:=hrel;obtain⟨va,vc,rfl⟩:=qe A;by_cases hjl:j<n
  ·obtain⟨i,hi'⟩:∃i:Nat,i+j+1=n:=⟨n-1-j,by omega⟩;have r:(n:Int)-1-(j:Int)=(i:Int):=(by omega);rw[r];obtain⟨k,U⟩:∃k,args[i]? = some k:=⟨args[i]'(by rw[o.out];omega),by simp⟩;have s:=HV.out.mono hB;obtain⟨⟨ba,oa,rfl⟩,-⟩:=s.ptr (by rw[o.out];omega);have hcell:=s.cell U;have X:=qd8 U (by rw[o.out];omega:i+j+1=args.length);have R:=Xe U;have HK:=Xh (HKi.out wr k T.below R);have z2:wrap64 ((i:Int)-1)=(i:Int)-1:=(by unfold wrap64;omega);have hi0:(0:Int)<=(i:Int):=(by omega);have hi1:(i:Int)<(n:Int):=(by omega);have hin:i<n:=(by omega);have hlen:n<=9223372036854775807:=(by omega);by_cases L:zd (Za l) k=0
   ·rw[L]at HK;have HSt:=Xh X;have HA2:Hid ((args.reverse.take (j+1)).all (fun k=>zd (Za l) k==0)=true):=by
     unfold Hid;rw[X,List.all_append,I.out,List.all_cons,beq_iff_eq.2 L];rfl
    have J:=Xh T;have O:=Xh hB;have n2:∀u∈[Value.string k],u.oneCell'=true:=fun u hu=>by simp at hu;subst hu;rfl
    have n3:j+1<=maxLen:=Xf (by omega:j+1<=6) (by decide);have n4:(j+1)*16<=140737488355328:=(by omega);have J:=Xh T;have O:=Xh hB;have HI:=Xh hi';have HX:=Xh r;have HKk:=Xh U;clear X L U R s T hB I hi' r d0 d1 d2 d3 d4 d5 c0 c1 c2 c3 c4 c5 hjl hj;go_upto_region 10 with(first|(go_fit HK.out;rintro e w4⟨rfl,G⟩))
    have T4:=J.out.step G;have B4:=(O.out.trans (G.mono O.out.size)).alloc (Xf O.out.size G.size) (.cells #[.string k] 9);have n5:=B4.size;have P:=Zr A G;have hcell4:=(HV.out.mono (O.out.trans (G.mono O.out.size))).cell (k:=i) (x:=k) HKk.out;go_wp2_with (at_builtin;go_must (refine wpList_append_own_at _ rfl _ _ 25 rfl Z.heap.size 9 i0 (.string .empty) 1 16 Tryz.underlying25 hi y z aA rfl (by decide) _ _ _ rfl (P.alloc _) ⟨w4.heap.size,0,none⟩ 1 1 [.string k] rfl rfl (cell_one_new _ _ _) n2 n3 n4 n5 ?_);intro v5 w5 E B _ f)
    have F:w5.ownsRow Z.heap.size 9 1 v5 (j+1) ((args.reverse.take (j+1)).map Value.string):=(by rw[HSt.out,List.map_append];exact E);go_roundw;case rel =>
     exact⟨j+1,by have:=HI.out;omega,HA2,F,(T4.alloc _).grown B (fun g e=>Xf HT3.out.box.lt (P.lt g e).1),B4.grown B n5 (fun g e=>(P.lt g e).1),by have:=HI.out;have:=HX.out;congr 1;omega⟩
    case measure=>simp[intOf]
   ·have S:=Xh (hsw.out k R L);have hzb:(((zd (Za l) k:Nat):Int) != 0)=true:=(by simpa using L);have J:=Xh T;clear X R s T hB I hi' r d0 d1 d2 d3 d4 d5 c0 c1 c2 c3 c4 c5 hjl hj L hsw hsv hso M;generalize zd (Za l) k=m at *;go_wp2_with (first|(go_fit HK.out;rintro e w4⟨rfl,G⟩))
    go_ret3;exact Zj.no S.out (Qa J.out.below Xl G)
  ·obtain rfl:n=j:=(by omega);rw[show(n:Int)-1-(n:Int) = -1 by omega];have Y:args.reverse.take n=args.reverse:=List.take_of_length_le (by rw[List.length_reverse,o.out];omega);rw[Y]at I A;have C:=Xh (hsv.out I.out);have D:=Xh (hso.out I.out);have J:=Xh T;have O:=Xh hB;obtain⟨d0,d1,d2,d3,d4,d5⟩:=T.cells;have HW0:=Xh HT3.out.box.lt;have n3:n+1<=maxLen:=Xf (by omega:n+1<=6) (by decide);have n4:(n+1)*16<=140737488355328:=(by omega);have n2:∀u∈[Value.string (Zd cls)],u.oneCell'=true:=fun u hu=>by simp at hu;subst hu;rfl
   have B4:=hB.alloc hB.size (.cells #[.string (Zd cls)] 9);have n5:=B4.size;have t:=Xh (fun wx (h:Below w.heap.size w wx)=>HKg.out wx h);clear Y hsv hso hsw HKi HKg hB T I hj hjl z1 h5;cases static with
   |true =>
    rw[show QaG true cls=[] from rfl,List.append_nil]at C D;rw[Bool.not_true]at h24;cases hV:(g.toList==[86]) with
    |true =>
     have S:=Xh (C.out hV);have hs:=Xh (Ze (l:=args.reverse) (by rw[List.length_reverse,o.out];exact A));clear A C D M;go_wp2_with fail;go_ret3;exact Zj.yes S.out J.out.below hs.out (qQ _)
    |false =>
     have hs:=Xh (Ze (l:=args.reverse) (by rw[List.length_reverse,o.out];exact A));have T1:=J.out.alloc (.cells #[.string g] 9);have HK:=Xh (t.out _ T1.below);by_cases L:zd (Za l) g=0
     ·have S:=Xh (D.out hV L);rw[L]at HK;have HT1:=Xh T1;clear A C D M L T1;go_wp2_with (first|(go_fit HK.out;rintro e w4⟨rfl,G⟩))
      go_ret3;exact Zj.yes S.out (Qa HT1.out.below Xl G) (hs.out.mono ((Xb.alloc Xl _).trans (G.mono (by simp)))) ((Qs _ _).mono G)
     ·have S:=Xh (M.out hV L);have hzb:(((zd (Za l) g:Nat):Int)==0)=false:=(by simpa using L);have HT1:=Xh T1;clear A C D M L T1;generalize zd (Za l) g=m at *;go_wp2_with (first|(go_fit HK.out;rintro e w4⟨rfl,G⟩))
      go_ret3;exact Zj.no S.out (Qa HT1.out.below Xl G)
   |false =>
    rw[show QaG false cls=[Zd cls] from rfl]at C D;rw[Bool.not_false]at h24;cases hV:(g.toList==[86]) with
    |true =>
     have S:=Xh (C.out hV);clear C D M;go_wp2_with (first
      |(go_fit (HTh.out _);rintro e w4⟨rfl,rfl⟩)
      |(at_builtin;go_must (refine wpList_append_own_at _ rfl _ _ 25 rfl Z.heap.size 9 i0 (.string .empty) 1 16 Tryz.underlying25 hi y z aA rfl (by decide) _ _ _ rfl (A.alloc _) ⟨wr.heap.size,0,none⟩ 1 1 [.string (Zd cls)] rfl rfl (cell_one_new _ _ _) n2 n3 n4 n5 ?_);intro v5 w5 E B _ f;(have F:w5.ownsRow Z.heap.size 9 1 v5 (args.reverse++[Zd cls]).length ((args.reverse++[Zd cls]).map Value.string):=by simpa[o.out] using E);(have T5:=(J.out.alloc (.cells #[.string (Zd cls)] 9)).grown B (fun g e=>Xf HW0.out (A.lt g e).1));obtain⟨e0,e1,e2,e3,e4,e5⟩:=T5.cells))
     go_ret3;exact Zj.yes S.out T5.below (Ze F) (qQ _)
    |false =>
     by_cases L:zd (Za l) g=0
     ·have S:=Xh (D.out hV L);clear C D M;rw[L]at t;clear L;go_wp2_with (first
       |(go_fit (HTh.out _);rintro e w4⟨rfl,rfl⟩)
       |(go_at_call 40;(have T6:=T5.alloc (.cells #[.string g] 9));(with_reducible refine(t.out _ T6.below).mono ?_);rintro e w7⟨rfl,d⟩)
       |(at_builtin;go_must (refine wpList_append_own_at _ rfl _ _ 25 rfl Z.heap.size 9 i0 (.string .empty) 1 16 Tryz.underlying25 hi y z aA rfl (by decide) _ _ _ rfl (A.alloc _) ⟨wr.heap.size,0,none⟩ 1 1 [.string (Zd cls)] rfl rfl (cell_one_new _ _ _) n2 n3 n4 n5 ?_);intro v5 w5 E B _ f;(have F:w5.ownsRow Z.heap.size 9 1 v5 (args.reverse++[Zd cls]).length ((args.reverse++[Zd cls]).map Value.string):=by simpa[o.out] using E);(have T5:=(J.out.alloc (.cells #[.string (Zd cls)] 9)).grown B (fun g e=>Xf HW0.out (A.lt g e).1));obtain⟨e0,e1,e2,e3,e4,e5⟩:=T5.cells))
      go_ret3;exact Zj.yes S.out (Qa T6.below Xl d) ((Ze F).mono ((Xb.alloc Xl _).trans (d.mono (by simp)))) ((Qs _ _).mono d)
     ·have S:=Xh (M.out hV L);have hzb:(((zd (Za l) g:Nat):Int)==0)=false:=(by simpa using L);clear C D M L;generalize zd (Za l) g=m at *;go_wp2_with (first
       |(go_fit (HTh.out _);rintro e w4⟨rfl,rfl⟩)
       |(go_at_call 40;(have T6:=T5.alloc (.cells #[.string g] 9));(with_reducible refine(t.out _ T6.below).mono ?_);rintro e w7⟨rfl,d⟩)
       |(at_builtin;go_must (refine wpList_append_own_at _ rfl _ _ 25 rfl Z.heap.size 9 i0 (.string .empty) 1 16 Tryz.underlying25 hi y z aA rfl (by decide) _ _ _ rfl (A.alloc _) ⟨wr.heap.size,0,none⟩ 1 1 [.string (Zd cls)] rfl rfl (cell_one_new _ _ _) n2 n3 n4 n5 ?_);intro v5 w5 E B _ f;(have F:w5.ownsRow Z.heap.size 9 1 v5 (args.reverse++[Zd cls]).length ((args.reverse++[Zd cls]).map Value.string):=by simpa[o.out] using E);(have T5:=(J.out.alloc (.cells #[.string (Zd cls)] 9)).grown B (fun g e=>Xf HW0.out (A.lt g e).1));obtain⟨e0,e1,e2,e3,e4,e5⟩:=T5.cells))
      go_ret3;exact Zj.no S.out (Qa T6.below Xl d)
set_option maxRecDepth 512
theorem Qbf(l:List Qb)(G:Value)(N:Zk l)(C:∀c∈l,qd c=0)(w:World)(D:qj w G l)(qb:Str)(E a b:Int)(A cls B:Str)(static:Bool)(H:(E==24)=!static)(F:(E==25)=static)(I:A.size<=1048576)(J:cls.size<=4194304)(O:(Zm A).isSome=true):
 Calls Tryz.prog 84 #[G,.string qb,.agg #[.int .i64 E,.int .i64 a,.int .i64 b,.string A,.string cls,.string B]] w (Zj w (Qax (Za l) qb cls B A static)):=by
 by_cases L:Zz (Za l) qb cls B A static=0
 ·cases M:Zm A with
  |none=>rw[M]at O;cases O
  |some p =>
   obtain⟨args,g⟩:=p;rw[ZdM L M];exact qcj l G N C w D qb E a b A cls B static H F I J args g M L
 ·exact ZcF l G N C w D qb E a b A cls B static F L
end Go.Proofs.YtlmfmioljeppfaaGreatDoor
