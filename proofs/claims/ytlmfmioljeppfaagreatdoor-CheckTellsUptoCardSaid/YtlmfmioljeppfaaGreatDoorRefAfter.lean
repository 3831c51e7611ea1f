/- Lemmas; conditions: as each states. -/
import Derived.Test.YtlmfmioljeppfaaGreatDoorRefNames
import Derived.Test.YtlmfmioljeppfaaGreatDoorMethodMaps
set_option maxHeartbeats 4000000
namespace Go.Proofs.YtlmfmioljeppfaaGreatDoor
open Go.RowKit Go.Shelf Go.Lib
theorem qca(w:World){base:Nat}(hb:base<=w.heap.size)(x:Nat):Que (w.alloc (.cells #[.int .i64 (x:Int)] 3)) base (.slice (some ⟨w.heap.size,0,none⟩) 1 1) [x]:=by
 refine Or.inr ⟨w.heap.size,0,1,_,rfl,hb,heap_alloc_new _ _,Xl,by decide,Xl,fun u hu=>?_,fun j y hy=>?_⟩
 ·exact⟨_,by simpa using hu⟩
 ·cases j with
  |zero=>rw[show x=y by simpa using hy];rfl
  |succ j=>simp at hy
theorem Zd0(w:World){base:Nat}(hb:base<=w.heap.size)(x y:Nat):Que (w.alloc (.cells #[.int .i64 (x:Int),.int .i64 (y:Int)] 3)) base (.slice (some ⟨w.heap.size,0,none⟩) 2 2) [x,y]:=by
 refine Or.inr ⟨w.heap.size,0,2,_,rfl,hb,heap_alloc_new _ _,Xl,by decide,Xl,fun u hu=>?_,fun j z hz=>?_⟩
 ·have hu:u=.int .i64 (x:Int)\/u=.int .i64 (y:Int):=by simpa using hu
  rcases hu with rfl|rfl
  ·exact⟨_,rfl⟩
  ·exact⟨_,rfl⟩
 ·match j,hz with
  |0,hz=>rw[show x=z by simpa using hz];rfl
  |1,hz=>rw[show y=z by simpa using hz];rfl
  |j+2,hz=>simp at hz
set_option maxRecDepth 100000
theorem Zcy(code:List Ins)(cv:Value)(w:World)(h:Qg w 6 qy cv code)(i:Nat)(x:Ins)(hx:code[i]? = some x)(hi:i<=64)(ha:qC x.op=true->0<=x.a):
 Calls Tryz.prog 28 #[cv,.int .i64 (i:Int)] w fun e w'=>∃v,e=.returned v/\Below w.heap.size w w'/\Que w' w.heap.size v (qay x i):=by
 obtain⟨hlt,rfl⟩:=List.getElem?_eq_some_iff.1 hx;obtain⟨b,o,cap,vs,rfl,hR,_,qc⟩:=h.at hlt;unfold qy at hR;have hr:qay code[i] i=(if zan code[i].op then [] else [i+1])++(if qC code[i].op&&(code[i].op==14||code[i].a != (i:Int)+1) then [code[i].a.toNat] else []):=rfl;rw[hr];have HE:Hid (∀wx,_):=fun wx=>QbO code[i].op wx
 have HJ:Hid (∀wx,_):=fun wx=>qaA code[i].op wx
 have hil:(i:Int)<(code.length:Int):=by omega
 obtain⟨c0,c1,c2,c3,c4,c5,_⟩:=(by rw[hR]at qc;exact qc:qG w b (o+i*6) [.int .i64 code[i].op,.int .i64 code[i].a,.int .i64 code[i].b,.string code[i].type,.string code[i].cls,.string code[i].name]);clear hr hR qc h hx;generalize code[i]=y at *;obtain⟨op,a,bb,type,cls,name⟩:=y;dsimp only at *;have hi63:(i:Int)+1<=100:=by omega
 have hjo:qC op=true->zan op=true->(op==14)=true:=by
  unfold qC zan;intro h1 h2;have h1:op=12\/op=13\/op=14:=by simpa[or_assoc] using h1
  rcases h1 with rfl|rfl|rfl
  ·exact absurd h2 (by decide)
  ·exact absurd h2 (by decide)
  ·rfl
 go_enter Tryz.func28,Tryz.ntmps28;cases h14:(op==14) with
 |true =>
  obtain rfl:op=14:=by simpa using h14
  obtain⟨n,rfl⟩:=Int.eq_ofNat_of_zero_le (ha (by decide));clear hjo h14 ha;simp only[show zan 14=true from rfl,show qC 14=true from rfl,if_true,Bool.true_and,Bool.true_or,List.nil_append,Int.toNat_natCast];have hB:Below w.heap.size w ((w.alloc (.cells #[.int .i64 14,.int .i64 (n:Int),.int .i64 bb,.string type,.string cls,.string name] 24)).alloc (.cells #[.int .i64 (n:Int)] 3)):=(Xb.alloc Xl _).alloc (by simp) _;have hQ:=qca (w.alloc (.cells #[.int .i64 14,.int .i64 (n:Int),.int .i64 bb,.string type,.string cls,.string name] 24)) (base:=w.heap.size) (by simp) n;rw[World.size_alloc]at hQ;go_wp2_with (first
   |(go_fit (HE.out _);rintro e w2⟨rfl,rfl⟩)
   |(go_fit (HJ.out _);rintro e w2⟨rfl,rfl⟩))
  go_ret;exact⟨_,rfl,hB,hQ⟩
 |false =>
  cases he:zan op with
  |true =>
   have hj:qC op=false:=by
    cases hj:qC op with
    |false=>rfl
    |true=>rw[hjo hj he]at h14;cases h14
   rw[he]at HE;rw[hj]at HJ ⊢;simp only[if_true,Bool.false_and,Bool.false_eq_true,if_false,List.append_nil];clear hjo he hj ha;have hB:Below w.heap.size w (w.alloc (.cells #[.int .i64 op,.int .i64 a,.int .i64 bb,.string type,.string cls,.string name] 24)):=Xb.alloc Xl _;have hQ:=Que.empty (w.alloc (.cells #[.int .i64 op,.int .i64 a,.int .i64 bb,.string type,.string cls,.string name] 24)) w.heap.size;go_wp2_with (first
    |(go_fit (HE.out _);rintro e w2⟨rfl,rfl⟩)
    |(go_fit (HJ.out _);rintro e w2⟨rfl,rfl⟩))
   go_ret;exact⟨_,rfl,hB,hQ⟩
  |false =>
   rw[he]at HE;cases hj:qC op with
   |true =>
    obtain⟨n,rfl⟩:=Int.eq_ofNat_of_zero_le (ha hj);rw[hj]at HJ;cases hn:((n:Int) != (i:Int)+1) with
    |true =>
     simp only[Bool.false_eq_true,if_false,Bool.true_and,Bool.or_true,if_true,List.cons_append,List.nil_append,Int.toNat_natCast];clear hjo he hj ha;have hB:Below w.heap.size w ((w.alloc (.cells #[.int .i64 op,.int .i64 (n:Int),.int .i64 bb,.string type,.string cls,.string name] 24)).alloc (.cells #[.int .i64 ((i+1:Nat):Int),.int .i64 (n:Int)] 3)):=(Xb.alloc Xl _).alloc (by simp) _;have hQ:=Zd0 (w.alloc (.cells #[.int .i64 op,.int .i64 (n:Int),.int .i64 bb,.string type,.string cls,.string name] 24)) (base:=w.heap.size) (by simp) (i+1) n;rw[World.size_alloc]at hQ;simp only[Int.natCast_add,Int.natCast_one]at hB hQ;go_wp2_with (first
     |(go_fit (HE.out _);rintro e w2⟨rfl,rfl⟩)
     |(go_fit (HJ.out _);rintro e w2⟨rfl,rfl⟩))
     go_ret;exact⟨_,rfl,hB,hQ⟩
    |false =>
     simp only[Bool.false_eq_true,if_false,Bool.true_and,Bool.or_false,List.append_nil];clear hjo he hj ha;have hB:Below w.heap.size w ((w.alloc (.cells #[.int .i64 op,.int .i64 (n:Int),.int .i64 bb,.string type,.string cls,.string name] 24)).alloc (.cells #[.int .i64 ((i+1:Nat):Int)] 3)):=(Xb.alloc Xl _).alloc (by simp) _;have hQ:=qca (w.alloc (.cells #[.int .i64 op,.int .i64 (n:Int),.int .i64 bb,.string type,.string cls,.string name] 24)) (base:=w.heap.size) (by simp) (i+1);rw[World.size_alloc]at hQ;simp only[Int.natCast_add,Int.natCast_one]at hB hQ;go_wp2_with (first
     |(go_fit (HE.out _);rintro e w2⟨rfl,rfl⟩)
     |(go_fit (HJ.out _);rintro e w2⟨rfl,rfl⟩))
     go_ret;exact⟨_,rfl,hB,hQ⟩
   |false =>
    rw[hj]at HJ;simp only[Bool.false_eq_true,if_false,Bool.false_and,List.append_nil];clear hjo he hj ha;have hB:Below w.heap.size w ((w.alloc (.cells #[.int .i64 op,.int .i64 a,.int .i64 bb,.string type,.string cls,.string name] 24)).alloc (.cells #[.int .i64 ((i+1:Nat):Int)] 3)):=(Xb.alloc Xl _).alloc (by simp) _;have hQ:=qca (w.alloc (.cells #[.int .i64 op,.int .i64 a,.int .i64 bb,.string type,.string cls,.string name] 24)) (base:=w.heap.size) (by simp) (i+1);rw[World.size_alloc]at hQ;simp only[Int.natCast_add,Int.natCast_one]at hB hQ;go_wp2_with (first
     |(go_fit (HE.out _);rintro e w2⟨rfl,rfl⟩)
     |(go_fit (HJ.out _);rintro e w2⟨rfl,rfl⟩))
    go_ret;exact⟨_,rfl,hB,hQ⟩
set_option maxRecDepth 512
def Qca(w:World)(l:List Qb)(cls:Str)(at':Int)(e:Ending)(w':World):Prop :=
 Below w.heap.size w w'/\((zG l cls at'=0/\∃m v,zV cls at' l=some m/\Hid (m.abs=false)/\e=.returned (.tuple #[v,.int .i64 0])/\qY w m v) \/
  (zG l cls at'≠0/\e=.returned (.tuple #[.agg zo.toArray,.int .i64 (zG l cls at')])))
set_option maxRecDepth 100000
theorem qbh(l:List Qb)(lv:Value)(cls:Str)(at':Int)(w:World)(ho:∀c∈l,qV c)(hlv:qi w lv l):
 Calls Tryz.prog 23 #[lv,.string cls,.int .i64 at'] w (Qca w l cls at'):=by
 have B0:Below w.heap.size w (w.alloc (.cells #[.string ⟨#[]⟩,.string ⟨#[]⟩,.bool false,.bool false,.bool false,.int .i64 0,.slice none 0 0,.slice none 0 0] 53)):=Xb.alloc Xl _;have HRd:=Xh (Qbp l lv _ ho (hlv.mono B0));obtain⟨pl,cap,rfl,hn1,hn2,hcc⟩:=hlv.open;have HC:=Xh hcc;have hlen:l.length<=9223372036854775807:=Xf hn1 hn2;have k0:=Blk.new w 53 zo;clear hcc hlv ho;by_cases hz:Zj l=0
 ·have HN:Hid (zG l cls at'=match zV cls at' l with|none=>3|some m=>if m.abs then 1 else 0):=by
   unfold Hid zG;rw[if_neg (by rw[hz];decide)];cases zV cls at' l<;>rfl
  rw[hz]at HRd;clear hz;go_enter Tryz.func23,Tryz.ntmps23;go_wp2_with (go_fit (HRd.out);rintro e w2⟨rfl,hB2⟩)
  have k2:=k0.step hB2;have HB2:=Xh (Qa B0 Xl hB2);have Hk2:=Xh k2;clear k0 B0 hB2 k2 HRd;go_loopw [9] (fun x wr=>∃k:Nat,k<=l.length/\x=.int .i64 k/\w2=wr/\Hid (zV cls at' (l.drop k)=zV cls at' l)) (fun x _=>l.length-(intOf x).toNat)
  case atStart=>exact⟨0,Nat.zero_le _,rfl,rfl,rfl⟩
  case round =>
   obtain⟨k,hk,rfl,rfl,hN⟩:=hrel;by_cases hkl:k<l.length
   ·obtain⟨c,hx⟩:∃x,l[k]? = some x:=⟨l[k],by simp[hkl]⟩;obtain⟨b,o,vs,rfl,⟨fv,dv,mv,rfl,q1,q2,q3⟩,_,qc⟩:=HC.out k c hx;have qc:=qc.mono HB2.out qc.lt;have Zc:=qbN (cls:=cls) (at':=at') hx;rw[hN.out]at Zc;obtain⟨cn,cs,cf,cb,cd,cm⟩:=c;dsimp only at Zc qc q3;obtain⟨pm,km,rfl,hm1,hm2,hmc⟩:=q3.open;obtain⟨c0,c1,c2,c3,c4,c5,_⟩:=qc;have c5':w2.cell? ⟨b,o+k*6+5,none⟩=some (.slice pm cm.length km):=c5;have e1:=Z5 cn cls;have hmlen:cm.length<=9223372036854775807:=Xf hm1 hm2;have HMc:=Xh hmc;have Hx:=Xh hx;clear hx hmc q1 q2 q3;by_cases hcn:cn=cls
    ·rw[Xj hcn]at e1;by_cases ha:0<=at'/\at'<(cm.length:Int)
     ·obtain⟨ha0,ha1⟩:=ha;obtain⟨a,rfl⟩:=Int.eq_ofNat_of_zero_le ha0;rw[if_pos ⟨hcn,ha0,ha1⟩]at Zc;have hal:a<cm.length:=(by omega);obtain⟨mm,hmm⟩:∃x,cm[a]? = some x:=⟨cm[a],by simp[hal]⟩;have hst:zV cls (a:Int) l=some mm:=(by rw[Zc];exact hmm);obtain⟨bb,oo,vs,rfl,⟨cv,hv,rfl,k1,k2⟩,_,hcl⟩:=HMc.out a mm hmm;have hcl:=hcl.mono HB2.out hcl.lt;obtain⟨pc,kc,rfl,_⟩:=k1.open;obtain⟨ph,kh,rfl,_⟩:=k2.open;have HMi:Hid (qY w mm (.agg #[.string mm.name,.string mm.type,.bool mm.static,.bool mm.abs,.bool mm.priv,.int .i64 mm.locals,.slice pc mm.code.length kc,.slice ph mm.handlers.length kh])):=⟨pc,kc,ph,kh,rfl,k1,k2⟩;have HSt:=Xh hst;have hN1:Hid (zG l cls (a:Int)=if mm.abs then 1 else 0):=by
       unfold Hid;rw[HN.out,hst]
      clear hst Zc hmm k1 k2 HN hN ha0;subst hcn;obtain⟨mn,mt,mst,mab,mpr,mlo,mco,mha⟩:=mm;dsimp only at hcl hN1 HMi;obtain⟨u0,u1,u2,u3,u4,u5,u6,u7,_⟩:=hcl;have u3':w2.cell? ⟨bb,oo+a*8+3,none⟩=some (.bool mab):=u3;have k3:=Hk2.out;obtain⟨q0,q1,q2,q3,q4,q5,q6,q7⟩:=k3.method;have hfz:=k3.frozen;cases mab with
      |true =>
       have HN2:Hid (zG l cn (a:Int)=1):=hN1.out;have HE:=Xh (ZB HB2.out Xl (.string ⟨#[]⟩) (.string ⟨#[]⟩) (.bool false) (.bool false) (.bool false) (.int .i64 0) (.slice none 0 0) (.slice none 0 0));clear k3 hN1;go_wp2_with fail;exact bodyPost_ret (v:=.tuple #[.agg zo.toArray,.int .i64 1]) (by simp[results,Tryz.results23,go_sem, *,zo]) rfl ⟨HE,Or.inr ⟨by rw[HN2.out];decide,by rw[HN2.out];rfl⟩⟩
      |false =>
       have HN2:Hid (zG l cn (a:Int)=0):=hN1.out;have HE:=Xh (ZB HB2.out Xl (.string mn) (.string mt) (.bool mst) (.bool false) (.bool mpr) (.int .i64 mlo) (.slice pc mco.length kc) (.slice ph mha.length kh));clear k3 hN1;go_wp2_with fail;exact bodyPost_ret (v:=.tuple #[.agg #[.string mn,.string mt,.bool mst,.bool false,.bool mpr,.int .i64 mlo,.slice pc mco.length kc,.slice ph mha.length kh],.int .i64 0]) (by simp[results,Tryz.results23,go_sem, *]) rfl ⟨HE,Or.inl ⟨HN2,_,_,HSt,rfl,rfl,HMi⟩⟩
     ·rw[if_neg (fun h=>ha h.2)]at Zc;have hst:=Xh Zc.symm;have HI:=Xh ha;clear Zc ha;by_cases h0:0<=at'
      ·have h1:¬at'<(cm.length:Int):=fun h=>HI.out ⟨h0,h⟩
       go_wp2_with fail;go_roundw;case rel=>exact⟨k+1,by omega,by simp,trivial,hst⟩
       case measure=>simp[intOf];omega
      ·go_wp2_with fail;go_roundw;case rel=>exact⟨k+1,by omega,by simp,trivial,hst⟩
       case measure=>simp[intOf];omega
    ·rw[Xi hcn]at e1;rw[if_neg (fun h=>hcn h.1)]at Zc;have hst:=Xh Zc.symm;clear Zc hcn;go_wp2_with fail;go_roundw;case rel=>exact⟨k+1,by omega,by simp,trivial,hst⟩
     case measure=>simp[intOf];omega
   ·obtain rfl:k=l.length:=(by omega);have hNo:zV cls at' l=none:=by
     rw[<-hN.out,List.drop_length];rfl
    have HN3:Hid (zG l cls at'=3):=by
     unfold Hid;rw[HN.out,hNo]
    have k3:=Hk2.out;obtain⟨q0,q1,q2,q3,q4,q5,q6,q7⟩:=k3.method;have hfz:=k3.frozen;have HE:=Xh (ZB HB2.out Xl (.string ⟨#[]⟩) (.string ⟨#[]⟩) (.bool false) (.bool false) (.bool false) (.int .i64 0) (.slice none 0 0) (.slice none 0 0));clear k3;go_wp2_with fail;exact bodyPost_ret (v:=.tuple #[.agg zo.toArray,.int .i64 3]) (by simp[results,Tryz.results23,go_sem, *,zo]) rfl ⟨HE,Or.inr ⟨by rw[HN3.out];decide,by rw[HN3.out];rfl⟩⟩
 ·have HN:Hid (zG l cls at'=Zj l):=by
   unfold Hid zG;rw[if_pos hz]
  have HZ:=Xh hz;have hzI:¬((Zj l:Nat):Int)=0:=by omega
  clear hz;generalize Zj l=n at *;go_enter Tryz.func23,Tryz.ntmps23;go_upto_region 3 with(go_fit (HRd.out);rintro e w2⟨rfl,hB2⟩)
  have k3:=k0.step hB2;obtain⟨q0,q1,q2,q3,q4,q5,q6,q7⟩:=k3.method;have hfz:=k3.frozen;have HE:=Xh (ZB (Qa B0 Xl hB2) Xl (.string ⟨#[]⟩) (.string ⟨#[]⟩) (.bool false) (.bool false) (.bool false) (.int .i64 0) (.slice none 0 0) (.slice none 0 0));clear k3 k0;go_wp2_with fail;exact bodyPost_ret (v:=.tuple #[.agg zo.toArray,.int .i64 (n:Int)]) (by simp[results,Tryz.results23,go_sem, *,zo]) rfl ⟨HE,Or.inr ⟨by rw[HN.out];exact HZ.out,by rw[HN.out]⟩⟩
set_option maxRecDepth 512
end Go.Proofs.YtlmfmioljeppfaaGreatDoor
