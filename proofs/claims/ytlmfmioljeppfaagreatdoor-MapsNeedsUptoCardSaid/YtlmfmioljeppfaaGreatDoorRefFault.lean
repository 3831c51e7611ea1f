/- Lemmas; conditions: as each states. -/
import Derived.Test.YtlmfmioljeppfaaGreatDoorRefMay
import Derived.Test.YtlmfmioljeppfaaGreatDoorClassCheck
import Derived.Laws.IdiomRangeMap
set_option maxHeartbeats 4000000
namespace Go.Proofs.YtlmfmioljeppfaaGreatDoor
open Go.RowKit Go.Shelf Go.Lib
theorem qcr{w:World}{b:Nat}:∀{vs:List Value} {o:Nat},(∀i v,vs[i]? = some v->w.cell? ⟨b,o+i,none⟩=some v)->QG w b o vs
 |[],_,_=>trivial
 |v::r,o,h=>⟨h 0 v rfl,qcr fun i x A=>by
  have:=h (i+1) x (by simpa using A);rwa [show o+(i+1)=o+1+i by omega]at this⟩
theorem QY(w:World)(cs:Array Value)(t:TypeId):zB w (w.alloc (.cells cs t)) cs.toList :=
 ⟨Xb.alloc Xl _,by simp,qcr fun i v h=>by
  rw[cell_of_row (w.alloc (.cells cs t)) w.heap.size (0+i) cs t (0,0) (heap_alloc_new _ _),Nat.zero_add];simpa using h⟩
theorem Qes{w wx:World}{A B C D E:Value}(h:zB w wx [A,B,C,D,E]):
 wx.cell? ⟨w.heap.size,0,none⟩=some A/\wx.cell? ⟨w.heap.size,1,none⟩=some B/\wx.cell? ⟨w.heap.size,2,none⟩=some C/\wx.cell? ⟨w.heap.size,3,none⟩=some D/\wx.cell? ⟨w.heap.size,4,none⟩=some E:=by
 obtain⟨F,G,H,I,J,_⟩:=h.cells;exact⟨F,G,H,I,J⟩
set_option maxRecDepth 100000
theorem qdf(x:Ins)(w:World)(h:x.op<1\/28<x.op):Calls Tryz.prog 13 #[ZW x] w fun e w'=>e=.returned (.int .i64 (Zi x))/\Below w.heap.size w w':=by
 obtain⟨C,a,b,A,cls,B⟩:=x;replace h:C<1\/28<C:=h;have D:Hid (Zi ⟨C,a,b,A,cls,B⟩=1):=by unfold Hid Zi;rw[if_pos h]
 unfold ZW;go_enter Tryz.func13,Tryz.ntmps13;go_wp2
 all_goals first|(exfalso;omega)|skip
 all_goals
  go_ret;exact⟨by rw[D.out];rfl,by first|exact Xb|exact Xb.alloc Xl _⟩
theorem QcV(C:Int)(a b:Int)(B cls A:ByteArray)(w:World)(s:1<=C)(t:C<=28)(hs:qaL ⟨C,a,b,B,cls,A⟩):Calls Tryz.prog 13 #[ZW ⟨C,a,b,B,cls,A⟩] w fun e w'=>e=.returned (.int .i64 (Zi ⟨C,a,b,B,cls,A⟩))/\Below w.heap.size w w':=by
 have D:Hid (∀w,Calls Tryz.prog 41 #[.int .i64 C] w fun e w'=>e=.returned (Qcc C)/\Below w.heap.size w w'):=fun w=>by
  have:=qcC C.toNat w (by omega) (by omega);rwa [Int.toNat_of_nonneg (by omega)]at this
 have Z:Hid (∀a b w,Calls Tryz.prog 44 #[ZW ⟨C,a,b,B,cls,A⟩] w fun e w'=>e=.returned (.bool (qy ⟨C,0,0,B,cls,A⟩))/\Below w.heap.size w w'):=fun a b w=>Qdf ⟨C,a,b,B,cls,A⟩ w hs.type
 have O:cls.size<=maxLen:=qF (Xf hs.cls (by decide));have P:A.size<=maxLen:=qF (Xf hs.name (by decide));have f:Hid (∀w,_):=fun w=>ZaF cls w O
 have g:Hid (∀w,_):=fun w=>ZaF A w P
 have h:Hid (∀C w,_):=fun C w=>qao C w
 have i:Hid (∀n w,_):=fun n w=>qci n w
 have E:Hid (Zi ⟨C,a,b,B,cls,A⟩=if ((!zb1 C&&a != 0)||(!Zb1 C&&b != 0)||(!ZbJ C&&B.size != 0)||(!Zbc C&&cls.size != 0)||(!qbc C&&A.size != 0))=true then 1 else if (!qM ⟨C,a,b,B,cls,A⟩)=true then 2 else if (!qy ⟨C,0,0,B,cls,A⟩||(Zbc C&&!qt (lst cls))||(qbc C&&!qt (lst A)))=true then 1 else 0):=by
  unfold Hid Zi;rw[if_neg (by simp;omega)];rfl
 have j:(B.size != 0)=!B.toList.isEmpty:=by rw[ZD];rfl
 have l:(cls.size != 0)=!cls.toList.isEmpty:=by rw[ZD];rfl
 have m:(A.size != 0)=!A.toList.isEmpty:=by rw[ZD];rfl
 have o:(lst B==[73])=(B.toList==[73]):=by rw[lst,ByteArray.toList_eq]
 rw[j,l,m]at E;unfold qM at E;simp only[o]at E;clear j l m o hs O P;generalize Zi ⟨C,a,b,B,cls,A⟩=z at *;generalize qy ⟨C,0,0,B,cls,A⟩=kY at *;unfold lst at E;generalize qt cls.data.toList=kc at *;generalize qt A.data.toList=kn at *;obtain⟨q,L⟩:∃k,(a==0)=k:=⟨_,rfl⟩;obtain⟨r,M⟩:∃k,(b==0)=k:=⟨_,rfl⟩;have F:=Xh (show q=decide (a=0) by rw[<-L];rfl);have G:=Xh (show r=decide (b=0) by rw[<-M];rfl);obtain⟨zt,T⟩:∃k,B.toList.isEmpty=k:=⟨_,rfl⟩;obtain⟨zc,U⟩:∃k,cls.toList.isEmpty=k:=⟨_,rfl⟩;obtain⟨zn,V⟩:∃k,A.toList.isEmpty=k:=⟨_,rfl⟩;obtain⟨zi,X⟩:∃k,(B.toList==[73])=k:=⟨_,rfl⟩;rw[T,U,V,show(a != 0)=!q by rw[<-L];rfl,show(b != 0)=!r by rw[<-M];rfl]at E;simp only[X]at E;have H:C=1\/C=2\/C=3\/C=4\/C=5\/C=6\/C=7\/C=8\/C=9\/C=10\/C=11\/C=12\/C=13\/C=14\/C=15\/C=16\/C=17\/C=18\/C=19\/C=20\/C=21\/C=22\/C=23\/C=24\/C=25\/C=26\/C=27\/C=28:=by omega
 clear s t;unfold ZW at Z ⊢;dsimp only at Z;rcases H with rfl|rfl|rfl|rfl|rfl|rfl|rfl|rfl|rfl|rfl|rfl|rfl|rfl|rfl|rfl|rfl|rfl|rfl|rfl|rfl|rfl|rfl|rfl|rfl|rfl|rfl|rfl|rfl;all_goals
  dsimp only;have I:=E.out;have J:=D.out;simp[Qcc,zb1,Zb1,ZbJ,Zbc,qbc,zu]at I J;have p:=Xh I;have D:=Xh J;clear E I J;go_enter Tryz.func13,Tryz.ntmps13;go_wp2_with (first
   |(go_fit (D.out _);rintro e N⟨rfl,x⟩;(have c:zB w N [.int .i64 _,.int .i64 a,.int .i64 b,.string B,.string cls,.string A]:=zB.step (wx:=w.alloc _) ⟨Xb.alloc Xl _,by simp,by simp[QG];rfl⟩ x);obtain⟨q0,q1,q2,q3,q4,q5⟩:=QM c;(have v:=c.size))
   |(go_fit (h.out _ _);rintro e N⟨rfl,rfl⟩)
   |(go_fit (i.out _ _);rintro e N⟨rfl,rfl⟩)
   |(go_fit (Z.out _ _ _);rintro e y⟨rfl,Y⟩;(have R:=(c.alloc _).step Y);(have d:zB N y [_,_,_,_,_]:=(QY N _ _).step Y);obtain⟨p0,p1,p2,p3,p4,p5⟩:=QM R;obtain⟨n0,n1,n2,n3,n4⟩:=Qes d)
   |(go_fit (f.out _);rintro e N⟨rfl,rfl⟩)
   |(go_fit (g.out _);rintro e N⟨rfl,rfl⟩))
  all_goals
   go_ret;refine⟨Zav ?_,?_⟩
   ·have S:=p.out;have ea:=F.out;have eb:=G.out;clear D Z f g h i L M T U V X p F G;go_light
    rw[S];repeat' split
    all_goals first|rfl|omega|(exfalso;simp_all;done)|(exfalso;simp_all;omega)
   ·first|exact R.below|exact(c.alloc _).below|exact Xb.alloc Xl _
set_option maxRecDepth 512
end Go.Proofs.YtlmfmioljeppfaaGreatDoor
