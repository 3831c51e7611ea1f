/- Lemmas; conditions: as each states. -/
import Derived.Test.YtlmfmioljeppfaaGreatDoorRefMay
import Derived.Test.YtlmfmioljeppfaaGreatDoorClassCheck
import Derived.Laws.IdiomRangeMap
set_option maxHeartbeats 4000000
namespace Go.Proofs.YtlmfmioljeppfaaGreatDoor
open Go.RowKit Go.Shelf Go.Lib
theorem zcq{w:World}{b:Nat}:∀{vs:List Value} {o:Nat},(∀i v,vs[i]? = some v->w.cell? ⟨b,o+i,none⟩=some v)->qG w b o vs
 |[],_,_=>trivial
 |v::r,o,h=>⟨h 0 v rfl,zcq fun i x hx=>by
  have:=h (i+1) x (by simpa using hx);rwa [show o+(i+1)=o+1+i by omega]at this⟩
theorem ZY(w:World)(cs:Array Value)(t:TypeId):zB w (w.alloc (.cells cs t)) cs.toList :=
 ⟨Xb.alloc Xl _,by simp,zcq fun i v h=>by
  rw[cell_of_row (w.alloc (.cells cs t)) w.heap.size (0+i) cs t (0,0) (heap_alloc_new _ _),Nat.zero_add];simpa using h⟩
theorem zen{w wx:World}{a0 a1 a2 a3 a4:Value}(h:zB w wx [a0,a1,a2,a3,a4]):
 wx.cell? ⟨w.heap.size,0,none⟩=some a0/\wx.cell? ⟨w.heap.size,1,none⟩=some a1/\wx.cell? ⟨w.heap.size,2,none⟩=some a2/\wx.cell? ⟨w.heap.size,3,none⟩=some a3/\wx.cell? ⟨w.heap.size,4,none⟩=some a4:=by
 obtain⟨c0,c1,c2,c3,c4,_⟩:=h.cells;exact⟨c0,c1,c2,c3,c4⟩
set_option maxRecDepth 100000
theorem zdb(x:Ins)(w:World)(h:x.op<1\/28<x.op):Calls Tryz.prog 13 #[ZW x] w fun e w'=>e=.returned (.int .i64 (Zi x))/\Below w.heap.size w w':=by
 obtain⟨op,a,b,type,cls,name⟩:=x;replace h:op<1\/28<op:=h;have hf:Hid (Zi ⟨op,a,b,type,cls,name⟩=1):=by unfold Hid Zi;rw[if_pos h]
 unfold ZW;go_enter Tryz.func13,Tryz.ntmps13;go_wp2
 all_goals first|(exfalso;omega)|skip
 all_goals
  go_ret;exact⟨by rw[hf.out];rfl,by first|exact Xb|exact Xb.alloc Xl _⟩
theorem QcS(op:Int)(a b:Int)(type cls name:ByteArray)(w:World)(h1:1<=op)(h2:op<=28)(hs:QaK ⟨op,a,b,type,cls,name⟩):Calls Tryz.prog 13 #[ZW ⟨op,a,b,type,cls,name⟩] w fun e w'=>e=.returned (.int .i64 (Zi ⟨op,a,b,type,cls,name⟩))/\Below w.heap.size w w':=by
 have HNd:Hid (∀w,Calls Tryz.prog 41 #[.int .i64 op] w fun e w'=>e=.returned (zcb op)/\Below w.heap.size w w'):=fun w=>by
  have:=ZcA op.toNat w (by omega) (by omega);rwa [Int.toNat_of_nonneg (by omega)]at this
 have HM:Hid (∀a b w,Calls Tryz.prog 44 #[ZW ⟨op,a,b,type,cls,name⟩] w fun e w'=>e=.returned (.bool (Qx ⟨op,0,0,type,cls,name⟩))/\Below w.heap.size w w'):=fun a b w=>Zdb ⟨op,a,b,type,cls,name⟩ w hs.type
 have hs2:cls.size<=maxLen:=zF (Xf hs.cls (by decide));have hs3:name.size<=maxLen:=zF (Xf hs.name (by decide));have HC:Hid (∀w,_):=fun w=>qaF cls w hs2
 have HN:Hid (∀w,_):=fun w=>qaF name w hs3
 have HJ:Hid (∀op w,_):=fun op w=>qaA op w
 have HW:Hid (∀n w,_):=fun n w=>Qcg n w
 have hf:Hid (Zi ⟨op,a,b,type,cls,name⟩=if ((!Zb1 op&&a != 0)||(!qb1 op&&b != 0)||(!qbK op&&type.size != 0)||(!qbb op&&cls.size != 0)||(!Qbb op&&name.size != 0))=true then 1 else if (!ZM ⟨op,a,b,type,cls,name⟩)=true then 2 else if (!Qx ⟨op,0,0,type,cls,name⟩||(qbb op&&!Qt (lst cls))||(Qbb op&&!Qt (lst name)))=true then 1 else 0):=by
  unfold Hid Zi;rw[if_neg (by simp;omega)];rfl
 have z1:(type.size != 0)=!type.toList.isEmpty:=by rw[ZD];rfl
 have z2:(cls.size != 0)=!cls.toList.isEmpty:=by rw[ZD];rfl
 have z3:(name.size != 0)=!name.toList.isEmpty:=by rw[ZD];rfl
 have z4:(lst type==[73])=(type.toList==[73]):=by rw[lst,ByteArray.toList_eq]
 rw[z1,z2,z3]at hf;unfold ZM at hf;simp only[z4]at hf;clear z1 z2 z3 z4 hs hs2 hs3;generalize Zi ⟨op,a,b,type,cls,name⟩=res at *;generalize Qx ⟨op,0,0,type,cls,name⟩=kY at *;unfold lst at hf;generalize Qt cls.data.toList=kc at *;generalize Qt name.data.toList=kn at *;obtain⟨za,hza⟩:∃k,(a==0)=k:=⟨_,rfl⟩;obtain⟨zb,hzb⟩:∃k,(b==0)=k:=⟨_,rfl⟩;have hza2:=Xh (show za=decide (a=0) by rw[<-hza];rfl);have hzb2:=Xh (show zb=decide (b=0) by rw[<-hzb];rfl);obtain⟨zt,hzt⟩:∃k,type.toList.isEmpty=k:=⟨_,rfl⟩;obtain⟨zc,hzc⟩:∃k,cls.toList.isEmpty=k:=⟨_,rfl⟩;obtain⟨zn,hzn⟩:∃k,name.toList.isEmpty=k:=⟨_,rfl⟩;obtain⟨zi,hzi⟩:∃k,(type.toList==[73])=k:=⟨_,rfl⟩;rw[hzt,hzc,hzn,show(a != 0)=!za by rw[<-hza];rfl,show(b != 0)=!zb by rw[<-hzb];rfl]at hf;simp only[hzi]at hf;have hcase:op=1\/op=2\/op=3\/op=4\/op=5\/op=6\/op=7\/op=8\/op=9\/op=10\/op=11\/op=12\/op=13\/op=14\/op=15\/op=16\/op=17\/op=18\/op=19\/op=20\/op=21\/op=22\/op=23\/op=24\/op=25\/op=26\/op=27\/op=28:=by omega
 clear h1 h2;unfold ZW at HM ⊢;dsimp only at HM;rcases hcase with rfl|rfl|rfl|rfl|rfl|rfl|rfl|rfl|rfl|rfl|rfl|rfl|rfl|rfl|rfl|rfl|rfl|rfl|rfl|rfl|rfl|rfl|rfl|rfl|rfl|rfl|rfl|rfl;all_goals
  dsimp only;have hf2:=hf.out;have hn2:=HNd.out;simp[zcb,Zb1,qb1,qbK,qbb,Qbb,qC]at hf2 hn2;have HF:=Xh hf2;have HNd:=Xh hn2;clear hf hf2 hn2;go_enter Tryz.func13,Tryz.ntmps13;go_wp2_with (first
   |(go_fit (HNd.out _);rintro e w2⟨rfl,hB⟩;(have BX:zB w w2 [.int .i64 _,.int .i64 a,.int .i64 b,.string type,.string cls,.string name]:=zB.step (wx:=w.alloc _) ⟨Xb.alloc Xl _,by simp,by simp[qG];rfl⟩ hB);obtain⟨q0,q1,q2,q3,q4,q5⟩:=qM BX;(have hsz:=BX.size))
   |(go_fit (HJ.out _ _);rintro e w2⟨rfl,rfl⟩)
   |(go_fit (HW.out _ _);rintro e w2⟨rfl,rfl⟩)
   |(go_fit (HM.out _ _ _);rintro e w3⟨rfl,hB3⟩;(have BX3:=(BX.alloc _).step hB3);(have BN3:zB w2 w3 [_,_,_,_,_]:=(ZY w2 _ _).step hB3);obtain⟨p0,p1,p2,p3,p4,p5⟩:=qM BX3;obtain⟨n0,n1,n2,n3,n4⟩:=zen BN3)
   |(go_fit (HC.out _);rintro e w2⟨rfl,rfl⟩)
   |(go_fit (HN.out _);rintro e w2⟨rfl,rfl⟩))
  all_goals
   go_ret;refine⟨zaw ?_,?_⟩
   ·have hres:=HF.out;have ea:=hza2.out;have eb:=hzb2.out;clear HNd HM HC HN HJ HW hza hzb hzt hzc hzn hzi HF hza2 hzb2;go_light
    rw[hres];repeat' split
    all_goals first|rfl|omega|(exfalso;simp_all;done)|(exfalso;simp_all;omega)
   ·first|exact BX3.below|exact(BX.alloc _).below|exact Xb.alloc Xl _
set_option maxRecDepth 512
end Go.Proofs.YtlmfmioljeppfaaGreatDoor
