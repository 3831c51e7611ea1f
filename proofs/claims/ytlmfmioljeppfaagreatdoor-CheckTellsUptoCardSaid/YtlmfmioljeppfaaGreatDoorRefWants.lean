/- Lemmas; conditions: as each states. -/
import Derived.Test.YtlmfmioljeppfaaGreatDoorOddLaw
import Derived.Test.YtlmfmioljeppfaaGreatDoorRightTells
set_option maxHeartbeats 4000000
namespace Go.Proofs.YtlmfmioljeppfaaGreatDoor
open Go.RowKit Go.Shelf Go.Lib
structure RX (w wx:World) (op a b:Int) (type cls name:Str):Prop where
 below:Below w.heap.size w wx
 box:Blk wx w.heap.size 24 [.int .i64 op,.int .i64 a,.int .i64 b,.string type,.string cls,.string name]
theorem RX.new(w:World)(op a b:Int)(type cls name:Str):RX w (w.alloc (.cells #[.int .i64 op,.int .i64 a,.int .i64 b,.string type,.string cls,.string name] 24)) op a b type cls name :=
 ⟨Xb.alloc Xl _,Blk.new w 24 _⟩
theorem RX.step{w wx wy:World}{op a b:Int}{type cls name:Str}(h:RX w wx op a b type cls name)(hb:Below wx.heap.size wx wy):RX w wy op a b type cls name:=⟨Qa h.below Xl hb,h.box.step hb⟩
theorem RX.alloc{w wx:World}{op a b:Int}{type cls name:Str}(h:RX w wx op a b type cls name)(o:Obj):RX w (wx.alloc o) op a b type cls name:=h.step (Xb.alloc Xl o)
theorem RX.drew{w wx:World}{op a b:Int}{type cls name:Str}(h:RX w wx op a b type cls name):RX w wx.drew op a b type cls name:=h.step (Xb.drew)
theorem RX.grown{w wx wy:World}{op a b:Int}{type cls name:Str}{r:Option Nat}(h:RX w wx op a b type cls name)(hg:wx.grownBy wy r)(hr:∀g,r=some g->w.heap.size+1<=g):RX w wy op a b type cls name :=
 ⟨h.below.grown hg h.below.size (fun g e=>by have:=hr g e;omega),h.box.grown hg (fun e=>by have:=hr _ e;omega)⟩
theorem RX.cells{w wx:World}{op a b:Int}{type cls name:Str}(h:RX w wx op a b type cls name):wx.cell? ⟨w.heap.size,0,none⟩=some (.int .i64 op)/\wx.cell? ⟨w.heap.size,1,none⟩=some (.int .i64 a)/\wx.cell? ⟨w.heap.size,2,none⟩=some (.int .i64 b)/\wx.cell? ⟨w.heap.size,3,none⟩=some (.string type)/\wx.cell? ⟨w.heap.size,4,none⟩=some (.string cls)/\wx.cell? ⟨w.heap.size,5,none⟩=some (.string name):=h.box.cells6
def zj(w:World)(o:Option (List Str×List Str))(e:Ending)(w':World):Prop :=
 Below w.heap.size w w'/\((o=none/\∃v1 v2,e=.returned (.tuple #[v1,v2,.bool false]))\/∃ks ps v1 v2,o=some (ks,ps)/\e=.returned (.tuple #[v1,v2,.bool true])/\Qh w' v1 ks/\Qh w' v2 ps)
theorem zj.no{w w':World}{o:Option (List Str×List Str)}{v1 v2:Value}(h:o=none)(hb:Below w.heap.size w w'):zj w o (.returned (.tuple #[v1,v2,.bool false])) w':=⟨hb,Or.inl ⟨h,_,_,rfl⟩⟩
theorem zj.yes{w w':World}{o:Option (List Str×List Str)}{ks ps:List Str}{v1 v2:Value}(h:o=some (ks,ps))(hb:Below w.heap.size w w')(h1:Qh w' v1 ks)(h2:Qh w' v2 ps):zj w o (.returned (.tuple #[v1,v2,.bool true])) w':=⟨hb,Or.inr ⟨ks,ps,v1,v2,h,rfl,h1,h2⟩⟩
theorem QP(w:World):Qh w (.slice none 0 0) []:=Or.inl ⟨rfl,rfl⟩
theorem qaD(c:Str)(w:World)(hs:c.size<=4194304):Calls Tryz.prog 82 #[.string c] w fun e w'=>e=.returned (.string (Zd c))/\w=w':=by
 have hs2:(⟨#[76]⟩++c:ByteArray).size<=4194305:=by rw[ByteArray.size_append];show 1+c.size<=_;omega
 go_enter Tryz.func82,Tryz.ntmps82;go_wp2
 go_ret;exact⟨rfl,rfl⟩
theorem qd2{cs:List Qb}{k:Str}(hk:zd cs k=0):q9 (Zo k)=((k.toList==[78])||qt (Zo k)):=by
 obtain⟨x,hx,_⟩:=zM hk;have hl:k.toList=qo x:=by rw[hx,ByteArray.toList_eq]
 unfold q9;rw[qz hx,hl];cases x with
 |n=>rfl
 |t=>rfl
 |ty y=>cases y<;>rfl
theorem Qed{l:List Qb}(hcf:∀c∈l,qd c=0){k:Str}{x:Kd}(hk:zd (Za l) k=0)(hx:zaX (Za l) k x):∀y,x=.ty y->Qs (Zf y)=true:=qP hcf hx.2 (qas hx hk)
theorem Qbn{l:List Qb}(hcf:∀c∈l,qd c=0)(k:Str)(w:World)(hk:zd (Za l) k=0):Calls Tryz.prog 81 #[.string k] w fun e w'=>e=.returned (.bool (q9 (Zo k)))/\w=w':=by
 have hn:=qd2 hk;obtain⟨x,hx⟩:=zM hk;have hs:k.size<=maxLen:=Xf (qS hk) (by decide);have HR:Hid (∀wx,_):=fun wx=>QD k x wx hx.1 (Qed hcf hk hx) hs
 rw[qz hx.1]at hn ⊢;rw[hn];clear hn;generalize qt x=r at *;cases h78:(k.toList==[78]) with
 |true =>
  rw[Bool.true_or];go_enter Tryz.func81,Tryz.ntmps81;go_wp2
  go_ret;exact⟨rfl,rfl⟩
 |false =>
  rw[Bool.false_or];go_enter Tryz.func81,Tryz.ntmps81;go_wp2_with (go_fit (HR.out _);rintro e w2⟨rfl,rfl⟩)
  go_ret;exact⟨rfl,rfl⟩
theorem zcY{cs:List Qb}{qb cls name type:Str}{static:Bool}(h:Zz cs qb cls name type static≠0):Qay cs qb cls name type static=none:=by unfold Qay;rw[if_pos h]
set_option maxRecDepth 100000
theorem zcD(l:List Qb)(lv:Value)(hR:Qj l)(hcf:∀c∈l,qd c=0)(w:World)(hlv:qi w lv l)(qb:Str)(op a b:Int)(type cls name:Str)(static:Bool)(hst:(op==25)=static)(hf:Zz (Za l) qb cls name type static≠0):
 Calls Tryz.prog 84 #[lv,.string qb,.agg #[.int .i64 op,.int .i64 a,.int .i64 b,.string type,.string cls,.string name]] w (zj w (Qay (Za l) qb cls name type static)):=by
 have HC:Hid (∀wx,Below w.heap.size w wx->_):=fun wx hb=>qbP l lv qb cls name type static wx hR hcf (hlv.mono hb)
 have hr:=zcY hf;rw[hr];generalize Zz (Za l) qb cls name type static=n at *;have hn:((n:Int) != 0)=true:=by simp;omega
 obtain⟨pl,cap,rfl,_⟩:=hlv.open;have T0:=RX.new w op a b type cls name;obtain⟨c0,c1,c2,c3,c4,c5⟩:=T0.cells;clear hlv hR hcf hr hf;have HT:=Xh T0;clear T0;go_enter Tryz.func84,Tryz.ntmps84;go_wp2_with (go_fit (HC.out _ HT.out.below);rintro e w2⟨rfl,hB2⟩)
 go_ret3;exact zj.no rfl (Qa HT.out.below Xl hB2)
set_option maxRecDepth 512
theorem Qd2{args:List Str}{j i:Nat}{k:Str}(hk:args[i]? = some k)(hi:i+j+1=args.length):args.reverse.take (j+1)=args.reverse.take j++[k]:=by
 have h1:args.reverse[j]? = some k:=by
  rw[List.getElem?_reverse (by omega),<-hk];congr 1;omega
 rw[List.take_add_one,h1];rfl
theorem zd3{cs:List Qb}{static:Bool}{cls:Str}{args:List Str}{g k:Str}(h:k∈args)(hk:¬zd cs k=0):Zbu cs static cls args g=none:=by
 unfold Zbu;rw[if_neg];intro ha;exact hk (beq_iff_eq.1 (List.all_eq_true.1 ha k h))
theorem qdG{cs:List Qb}{static:Bool}{cls:Str}{args:List Str}{g:Str}(ha:args.reverse.all (fun k=>zd cs k==0)=true)(hv:(g.toList==[86])=true):Zbu cs static cls args g=some (args.reverse++zaH static cls,[]):=by
 unfold Zbu;rw[if_pos (by rwa [List.all_reverse]at ha),if_pos hv]
theorem Zd3{cs:List Qb}{static:Bool}{cls:Str}{args:List Str}{g:Str}(ha:args.reverse.all (fun k=>zd cs k==0)=true)(hv:(g.toList==[86])=false)(hk:zd cs g=0):Zbu cs static cls args g=some (args.reverse++zaH static cls,[g]):=by
 unfold Zbu;rw[if_pos (by rwa [List.all_reverse]at ha),if_neg (by rw[hv];decide),if_pos hk]
theorem QdG{cs:List Qb}{static:Bool}{cls:Str}{args:List Str}{g:Str}(hv:(g.toList==[86])=false)(hk:¬zd cs g=0):Zbu cs static cls args g=none:=by
 unfold Zbu;by_cases ha:args.all (fun k=>zd cs k==0)=true
 ·rw[if_pos ha,if_neg (by rw[hv];decide),if_neg hk]
 ·rw[if_neg ha]
theorem zdH{cs:List Qb}{qb cls name type:Str}{static:Bool}{args:List Str}{g:Str}(h:Zz cs qb cls name type static=0)(hm:zm type=some (args,g)):Qay cs qb cls name type static=Zbu cs static cls args g:=by
 unfold Qay;rw[if_neg (by rw[h];decide),hm]
set_option maxRecDepth 100000
theorem Qch(l:List Qb)(lv:Value)(hR:Qj l)(hcf:∀c∈l,qd c=0)(w:World)(hlv:qi w lv l)(qb:Str)(op a b:Int)(type cls name:Str)(static:Bool)(h24:(op==24)=!static)(hst:(op==25)=static)(hty:type.size<=1048576)(hcl:cls.size<=4194304)(args:List Str)(g:Str)(hm:zm type=some (args,g))(hf:Zz (Za l) qb cls name type static=0):
 Calls Tryz.prog 84 #[lv,.string qb,.agg #[.int .i64 op,.int .i64 a,.int .i64 b,.string type,.string cls,.string name]] w (zj w (Zbu (Za l) static cls args g)):=by
 have HC:Hid (∀wx,Below w.heap.size w wx->_):=fun wx hb=>qbP l lv qb cls name type static wx hR hcf (hlv.mono hb)
 rw[hf]at HC;have HM:Hid (∀wx,_):=fun wx=>QaJ type wx hty
 rw[hm]at HM;unfold Zaw at HM;dsimp only at HM;have HTh:Hid (∀wx,_):=fun wx=>qaD cls wx hcl
 obtain⟨hsz1,hsz2⟩:=QT hm;have HKi:Hid (∀wx k,Below w.heap.size w wx->k∈args->_):=fun wx k hb hk=>ZU l lv k wx (hlv.mono hb) (Xf (Xf (hsz1 k hk) hty) (by decide))
 have HKg:Hid (∀wx,Below w.heap.size w wx->_):=fun wx hb=>ZU l lv g wx (hlv.mono hb) (Xf (Xf hsz2 hty) (by decide))
 have h5:=zU hm;have hsw:=Xh (fun(k:Str) (h:k∈args) (hk:¬zd (Za l) k=0)=>zd3 (static:=static) (cls:=cls) (g:=g) h hk);have hsv:=Xh (fun(ha:args.reverse.all (fun k=>zd (Za l) k==0)=true) (hv:(g.toList==[86])=true)=>qdG (static:=static) (cls:=cls) ha hv);have hso:=Xh (fun(ha:args.reverse.all (fun k=>zd (Za l) k==0)=true) (hv:(g.toList==[86])=false) (hk:zd (Za l) g=0)=>Zd3 (static:=static) (cls:=cls) ha hv hk);have hsn:=Xh (fun(hv:(g.toList==[86])=false) (hk:¬zd (Za l) g=0)=>QdG (static:=static) (cls:=cls) (args:=args) hv hk);generalize Zbu (Za l) static cls args g=res at *;obtain⟨pl,cap,rfl,_⟩:=hlv.open;have T0:=RX.new w op a b type cls name;obtain⟨c0,c1,c2,c3,c4,c5⟩:=T0.cells;obtain⟨i0,hi,hz0,hz1,hz2⟩:=info_parts qO;clear hlv hR hcf hf hm hsz1 hsz2;have HT:=Xh T0;clear T0;obtain⟨n,hn⟩:∃n,args.length=n:=⟨_,rfl⟩;have HN:=Xh hn;rw[hn]at h5;have z1:wrap64 ((n:Int)-1)=(n:Int)-1:=by unfold wrap64;omega
 clear hn;go_enter Tryz.func84,Tryz.ntmps84;go_wp2_with (first
  |(go_fit (HC.out _ HT.out.below);rintro e w2⟨rfl,hB2⟩;(have T2:=HT.out.step hB2);obtain⟨d0,d1,d2,d3,d4,d5⟩:=T2.cells)
  |(go_fit (HM.out _);rintro e w3⟨hB3,v,rfl,hv⟩;(have T3:=T2.step hB3);obtain⟨p,c,rfl,_⟩:=hv.open;rw[HN.out]at hv ⊢))
 have HV:=Xh hv;have HT3:=Xh T3;clear HC HM HT T2 T3 hB2 hB3 hv;go_loopw [12,13] (fun v x wr=>∃j:Nat,j<=n/\Hid ((args.reverse.take j).all (fun k=>zd (Za l) k==0)=true)/\wr.ownsRow w3.heap.size 9 1 v j ((args.reverse.take j).map Value.string)/\RX w wr op a b type cls name/\Below w3.heap.size w3 wr/\x=.int .i64 ((n:Int)-1-j)) (fun _ x _=>(intOf x+1).toNat)
 case atStart=>exact⟨0,by omega,rfl,World.ownsRow_nil _ _ _ _,HT3,Xb,by simp⟩
 case round =>
  obtain⟨j,hj,hall,hown,T,hB,rfl⟩:=hrel;obtain⟨va,vc,rfl⟩:=qe hown;by_cases hjl:j<n
  ·obtain⟨i,hi'⟩:∃i:Nat,i+j+1=n:=⟨n-1-j,by omega⟩;have hix:(n:Int)-1-(j:Int)=(i:Int):=(by omega);rw[hix];obtain⟨k,hk⟩:∃k,args[i]? = some k:=⟨args[i]'(by rw[HN.out];omega),by simp⟩;have hv3:=HV.out.mono hB;obtain⟨⟨ba,oa,rfl⟩,-⟩:=hv3.ptr (by rw[HN.out];omega);have hcell:=hv3.cell hk;have hst:=Qd2 hk (by rw[HN.out];omega:i+j+1=args.length);have hmem:=Xe hk;have HK:=Xh (HKi.out wr k T.below hmem);have z2:wrap64 ((i:Int)-1)=(i:Int)-1:=(by unfold wrap64;omega);have hi0:(0:Int)<=(i:Int):=(by omega);have hi1:(i:Int)<(n:Int):=(by omega);have hin:i<n:=(by omega);have hlen:n<=9223372036854775807:=(by omega);by_cases hz:zd (Za l) k=0
   ·rw[hz]at HK;have HSt:=Xh hst;have HA2:Hid ((args.reverse.take (j+1)).all (fun k=>zd (Za l) k==0)=true):=by
     unfold Hid;rw[hst,List.all_append,hall.out,List.all_cons,beq_iff_eq.2 hz];rfl
    have HTr:=Xh T;have HBr:=Xh hB;have n2:∀u∈[Value.string k],u.oneCell'=true:=fun u hu=>by simp at hu;subst hu;rfl
    have n3:j+1<=maxLen:=Xf (by omega:j+1<=6) (by decide);have n4:(j+1)*16<=140737488355328:=(by omega);have HTr:=Xh T;have HBr:=Xh hB;have HI:=Xh hi';have HX:=Xh hix;have HKk:=Xh hk;clear hst hz hk hmem hv3 T hB hall hi' hix d0 d1 d2 d3 d4 d5 c0 c1 c2 c3 c4 c5 hjl hj;go_upto_region 10 with(first|(go_fit HK.out;rintro e w4⟨rfl,hB4⟩))
    have T4:=HTr.out.step hB4;have B4:=(HBr.out.trans (hB4.mono HBr.out.size)).alloc (Xf HBr.out.size hB4.size) (.cells #[.string k] 9);have n5:=B4.size;have hown4:=qr hown hB4;have hcell4:=(HV.out.mono (HBr.out.trans (hB4.mono HBr.out.size))).cell (k:=i) (x:=k) HKk.out;go_wp2_with (at_builtin;go_must (refine wpList_append_own_at _ rfl _ _ 25 rfl w3.heap.size 9 i0 (.string .empty) 1 16 Tryz.underlying25 hi hz0 hz1 hz2 rfl (by decide) _ _ _ rfl (hown4.alloc _) ⟨w4.heap.size,0,none⟩ 1 1 [.string k] rfl rfl (cell_one_new _ _ _) n2 n3 n4 n5 ?_);intro v5 w5 hown5 hgrow5 _ hat5)
    have hown6:w5.ownsRow w3.heap.size 9 1 v5 (j+1) ((args.reverse.take (j+1)).map Value.string):=(by rw[HSt.out,List.map_append];exact hown5);go_roundw;case rel =>
     exact⟨j+1,by have:=HI.out;omega,HA2,hown6,(T4.alloc _).grown hgrow5 (fun g e=>Xf HT3.out.box.lt (hown4.lt g e).1),B4.grown hgrow5 n5 (fun g e=>(hown4.lt g e).1),by have:=HI.out;have:=HX.out;congr 1;omega⟩
    case measure=>simp[intOf]
   ·have hr:=Xh (hsw.out k hmem hz);have hzb:(((zd (Za l) k:Nat):Int) != 0)=true:=(by simpa using hz);have HTr:=Xh T;clear hst hmem hv3 T hB hall hi' hix d0 d1 d2 d3 d4 d5 c0 c1 c2 c3 c4 c5 hjl hj hz hsw hsv hso hsn;generalize zd (Za l) k=m at *;go_wp2_with (first|(go_fit HK.out;rintro e w4⟨rfl,hB4⟩))
    go_ret3;exact zj.no hr.out (Qa HTr.out.below Xl hB4)
  ·obtain rfl:n=j:=(by omega);rw[show(n:Int)-1-(n:Int) = -1 by omega];have hfull:args.reverse.take n=args.reverse:=List.take_of_length_le (by rw[List.length_reverse,HN.out];omega);rw[hfull]at hall hown;have hsv':=Xh (hsv.out hall.out);have hso':=Xh (hso.out hall.out);have HTr:=Xh T;have HBr:=Xh hB;obtain⟨d0,d1,d2,d3,d4,d5⟩:=T.cells;have HW0:=Xh HT3.out.box.lt;have n3:n+1<=maxLen:=Xf (by omega:n+1<=6) (by decide);have n4:(n+1)*16<=140737488355328:=(by omega);have n2:∀u∈[Value.string (Zd cls)],u.oneCell'=true:=fun u hu=>by simp at hu;subst hu;rfl
   have B4:=hB.alloc hB.size (.cells #[.string (Zd cls)] 9);have n5:=B4.size;have HKw:=Xh (fun wx (h:Below w.heap.size w wx)=>HKg.out wx h);clear hfull hsv hso hsw HKi HKg hB T hall hj hjl z1 h5;cases static with
   |true =>
    rw[show zaH true cls=[] from rfl,List.append_nil]at hsv' hso';rw[Bool.not_true]at h24;cases hV:(g.toList==[86]) with
    |true =>
     have hr:=Xh (hsv'.out hV);have hs:=Xh (Ze (l:=args.reverse) (by rw[List.length_reverse,HN.out];exact hown));clear hown hsv' hso' hsn;go_wp2_with fail;go_ret3;exact zj.yes hr.out HTr.out.below hs.out (QP _)
    |false =>
     have hs:=Xh (Ze (l:=args.reverse) (by rw[List.length_reverse,HN.out];exact hown));have T1:=HTr.out.alloc (.cells #[.string g] 9);have HK:=Xh (HKw.out _ T1.below);by_cases hz:zd (Za l) g=0
     ·have hr:=Xh (hso'.out hV hz);rw[hz]at HK;have HT1:=Xh T1;clear hown hsv' hso' hsn hz T1;go_wp2_with (first|(go_fit HK.out;rintro e w4⟨rfl,hB4⟩))
      go_ret3;exact zj.yes hr.out (Qa HT1.out.below Xl hB4) (hs.out.mono ((Xb.alloc Xl _).trans (hB4.mono (by simp)))) ((Zt _ _).mono hB4)
     ·have hr:=Xh (hsn.out hV hz);have hzb:(((zd (Za l) g:Nat):Int)==0)=false:=(by simpa using hz);have HT1:=Xh T1;clear hown hsv' hso' hsn hz T1;generalize zd (Za l) g=m at *;go_wp2_with (first|(go_fit HK.out;rintro e w4⟨rfl,hB4⟩))
      go_ret3;exact zj.no hr.out (Qa HT1.out.below Xl hB4)
   |false =>
    rw[show zaH false cls=[Zd cls] from rfl]at hsv' hso';rw[Bool.not_false]at h24;cases hV:(g.toList==[86]) with
    |true =>
     have hr:=Xh (hsv'.out hV);clear hsv' hso' hsn;go_wp2_with (first
      |(go_fit (HTh.out _);rintro e w4⟨rfl,rfl⟩)
      |(at_builtin;go_must (refine wpList_append_own_at _ rfl _ _ 25 rfl w3.heap.size 9 i0 (.string .empty) 1 16 Tryz.underlying25 hi hz0 hz1 hz2 rfl (by decide) _ _ _ rfl (hown.alloc _) ⟨wr.heap.size,0,none⟩ 1 1 [.string (Zd cls)] rfl rfl (cell_one_new _ _ _) n2 n3 n4 n5 ?_);intro v5 w5 hown5 hgrow5 _ hat5;(have hown6:w5.ownsRow w3.heap.size 9 1 v5 (args.reverse++[Zd cls]).length ((args.reverse++[Zd cls]).map Value.string):=by simpa[HN.out] using hown5);(have T5:=(HTr.out.alloc (.cells #[.string (Zd cls)] 9)).grown hgrow5 (fun g e=>Xf HW0.out (hown.lt g e).1));obtain⟨e0,e1,e2,e3,e4,e5⟩:=T5.cells))
     go_ret3;exact zj.yes hr.out T5.below (Ze hown6) (QP _)
    |false =>
     by_cases hz:zd (Za l) g=0
     ·have hr:=Xh (hso'.out hV hz);clear hsv' hso' hsn;rw[hz]at HKw;clear hz;go_wp2_with (first
       |(go_fit (HTh.out _);rintro e w4⟨rfl,rfl⟩)
       |(go_at_call 40;(have T6:=T5.alloc (.cells #[.string g] 9));(with_reducible refine(HKw.out _ T6.below).mono ?_);rintro e w7⟨rfl,hB7⟩)
       |(at_builtin;go_must (refine wpList_append_own_at _ rfl _ _ 25 rfl w3.heap.size 9 i0 (.string .empty) 1 16 Tryz.underlying25 hi hz0 hz1 hz2 rfl (by decide) _ _ _ rfl (hown.alloc _) ⟨wr.heap.size,0,none⟩ 1 1 [.string (Zd cls)] rfl rfl (cell_one_new _ _ _) n2 n3 n4 n5 ?_);intro v5 w5 hown5 hgrow5 _ hat5;(have hown6:w5.ownsRow w3.heap.size 9 1 v5 (args.reverse++[Zd cls]).length ((args.reverse++[Zd cls]).map Value.string):=by simpa[HN.out] using hown5);(have T5:=(HTr.out.alloc (.cells #[.string (Zd cls)] 9)).grown hgrow5 (fun g e=>Xf HW0.out (hown.lt g e).1));obtain⟨e0,e1,e2,e3,e4,e5⟩:=T5.cells))
      go_ret3;exact zj.yes hr.out (Qa T6.below Xl hB7) ((Ze hown6).mono ((Xb.alloc Xl _).trans (hB7.mono (by simp)))) ((Zt _ _).mono hB7)
     ·have hr:=Xh (hsn.out hV hz);have hzb:(((zd (Za l) g:Nat):Int)==0)=false:=(by simpa using hz);clear hsv' hso' hsn hz;generalize zd (Za l) g=m at *;go_wp2_with (first
       |(go_fit (HTh.out _);rintro e w4⟨rfl,rfl⟩)
       |(go_at_call 40;(have T6:=T5.alloc (.cells #[.string g] 9));(with_reducible refine(HKw.out _ T6.below).mono ?_);rintro e w7⟨rfl,hB7⟩)
       |(at_builtin;go_must (refine wpList_append_own_at _ rfl _ _ 25 rfl w3.heap.size 9 i0 (.string .empty) 1 16 Tryz.underlying25 hi hz0 hz1 hz2 rfl (by decide) _ _ _ rfl (hown.alloc _) ⟨wr.heap.size,0,none⟩ 1 1 [.string (Zd cls)] rfl rfl (cell_one_new _ _ _) n2 n3 n4 n5 ?_);intro v5 w5 hown5 hgrow5 _ hat5;(have hown6:w5.ownsRow w3.heap.size 9 1 v5 (args.reverse++[Zd cls]).length ((args.reverse++[Zd cls]).map Value.string):=by simpa[HN.out] using hown5);(have T5:=(HTr.out.alloc (.cells #[.string (Zd cls)] 9)).grown hgrow5 (fun g e=>Xf HW0.out (hown.lt g e).1));obtain⟨e0,e1,e2,e3,e4,e5⟩:=T5.cells))
      go_ret3;exact zj.no hr.out (Qa T6.below Xl hB7)
set_option maxRecDepth 512
theorem zbf(l:List Qb)(lv:Value)(hR:Qj l)(hcf:∀c∈l,qd c=0)(w:World)(hlv:qi w lv l)(qb:Str)(op a b:Int)(type cls name:Str)(static:Bool)(h24:(op==24)=!static)(hst:(op==25)=static)(hty:type.size<=1048576)(hcl:cls.size<=4194304)(hm:(zm type).isSome=true):
 Calls Tryz.prog 84 #[lv,.string qb,.agg #[.int .i64 op,.int .i64 a,.int .i64 b,.string type,.string cls,.string name]] w (zj w (Qay (Za l) qb cls name type static)):=by
 by_cases hf:Zz (Za l) qb cls name type static=0
 ·cases hq:zm type with
  |none=>rw[hq]at hm;cases hm
  |some p =>
   obtain⟨args,g⟩:=p;rw[zdH hf hq];exact Qch l lv hR hcf w hlv qb op a b type cls name static h24 hst hty hcl args g hq hf
 ·exact zcD l lv hR hcf w hlv qb op a b type cls name static hst hf
end Go.Proofs.YtlmfmioljeppfaaGreatDoor
