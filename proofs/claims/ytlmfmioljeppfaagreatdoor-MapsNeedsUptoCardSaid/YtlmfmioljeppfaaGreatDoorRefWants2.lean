/- Lemmas; conditions: as each states. -/
import Derived.Test.YtlmfmioljeppfaaGreatDoorRefWants
set_option maxHeartbeats 4000000
namespace Go.Proofs.YtlmfmioljeppfaaGreatDoor
open Go.RowKit Go.Shelf Go.Lib
theorem Qh.drewS{w:World}{v:Value}{l:List Str}(h:Qh w v l):Qh w.drew v l:=h.mono (Xb.drew)
theorem Qh.allocS{w:World}{v:Value}{l:List Str}(h:Qh w v l)(o:Obj):Qh (w.alloc o) v l:=h.mono (Xb.alloc Xl o)
theorem Zaw(w:World)(s t:Str):Qh (w.alloc (.cells #[.string s,.string t] 9)) (.slice (some ⟨w.heap.size,0,none⟩) 2 2) [s,t] :=
 Ze (base:=w.heap.size) (l:=[s,t]) ⟨rfl,Or.inr ⟨w.heap.size,2,#[.string s,.string t],rfl,Xl,heap_alloc_new _ _,Xl,by decide,rfl,rfl⟩⟩
theorem qT(w:World)(s:Str)(o:Obj):Qh ((w.alloc o).alloc (.cells #[.string s] 9)) (.slice (some ⟨w.heap.size+1,0,none⟩) 1 1) [s]:=by
 have:=Qs (w.alloc o) s;rwa [World.size_alloc]at this
theorem qba(w:World)(s t:Str)(o:Obj):Qh ((w.alloc o).alloc (.cells #[.string s,.string t] 9)) (.slice (some ⟨w.heap.size+1,0,none⟩) 2 2) [s,t]:=by
 have:=Zaw (w.alloc o) s t;rwa [World.size_alloc]at this
theorem Zd9{t:Str}(h:zah (lst t)=true):t=kI\/t=kJ:=by
 unfold zah at h;simp only[Bool.or_eq_true,beq_iff_eq]at h;rcases h with h|h
 ·exact Or.inl (ByteArray.ext (Array.toList_inj.1 h))
 ·exact Or.inr (ByteArray.ext (Array.toList_inj.1 h))
theorem Qdk{C a b:Int}{A cls B:Str}(h:Zi ⟨C,a,b,A,cls,B⟩=0)(D:C=9\/C=10):zah (lst A)=true:=by
 have:=zaB h;unfold qy at this;rwa [if_pos (by dsimp only;omega)]at this
theorem zce{cs:List Qb}{c n:Str}(h:¬(Qc cs c).isSome=true):zG cs c n=none:=by
 unfold zG;rw[if_pos (fun A=>h (QaY A))]
theorem zbP{cs:List Qb}{c n:Str}(h:zam cs c n=none):zG cs c n=none:=by
 unfold zG;rw[h];split<;>rfl
theorem ZbP{cs:List Qb}{c n d:Str}{f:Qag}(A:zd cs (Zd c)=0)(h:zam cs c n=some (d,f))(B:zd cs f.type=0):zG cs c n=some f.type:=by
 unfold zG;rw[h,if_neg (by rw[A];decide)];exact if_pos B
theorem Zce{cs:List Qb}{c n d:Str}{f:Qag}(h:zam cs c n=some (d,f))(A:¬zd cs f.type=0):zG cs c n=none:=by
 unfold zG;rw[h];split
 ·rfl
 ·exact if_neg A
theorem zbx{l:List Qb}(A:∀c∈l,qd c=0){c n d:Str}{f:Qag}(h:zam (Za l) c n=some (d,f)):f.type.size<=maxLen:=by
 obtain⟨y,B⟩:=Zaq (QaF A d f (qaY h));exact B.size
theorem zaV{C a b:Int}{A cls B:Str}(h:Zi ⟨C,a,b,A,cls,B⟩=0)(D:C=18\/C=20\/C=21):Zs A.data.toList=true:=by
 have:=zaB h;unfold qy at this;rw[if_neg (by dsimp only;omega),if_pos (by dsimp only;exact D)]at this;exact(Bool.and_eq_true_iff.1 this).1
theorem Qcu{C a b:Int}{A cls B:Str}(h:Zi ⟨C,a,b,A,cls,B⟩=0)(D:C=24\/C=25):(Zm A).isSome=true:=by
 have:=zaB h;unfold qy at this;rwa [if_neg (by dsimp only;omega),if_neg (by dsimp only;omega),if_neg (by dsimp only;omega),if_pos (by dsimp only;exact D)]at this
theorem qdM{C a b:Int}{A cls B:Str}(h:Zi ⟨C,a,b,A,cls,B⟩=0):1<=C/\C<=28:=by
 unfold Zi at h;split at h
 ·cases h
 ·rename_i D;dsimp only at D;omega
theorem QdM(cs:List Qb)(qb Zb:Str)(a b:Int)(A cls B:Str):
 Qq cs qb Zb ⟨1,a,b,A,cls,B⟩=some ([],[])/\Qq cs qb Zb ⟨14,a,b,A,cls,B⟩=some ([],[])
 /\Qq cs qb Zb ⟨2,a,b,A,cls,B⟩=some ([],[A])/\Qq cs qb Zb ⟨3,a,b,A,cls,B⟩=some ([],[kN])
 /\Qq cs qb Zb ⟨9,a,b,A,cls,B⟩=some (zaz a A++[A],[A])
 /\Qq cs qb Zb ⟨10,a,b,A,cls,B⟩=some ([zaf A],[A])
 /\Qq cs qb Zb ⟨11,a,b,A,cls,B⟩=some ([kJ,kJ],[kI])/\Qq cs qb Zb ⟨12,a,b,A,cls,B⟩=some ([kI],[])
 /\Qq cs qb Zb ⟨15,a,b,A,cls,B⟩=(if (Qc cs cls).isSome&&!(qh cs cls).face then some ([],[Zd cls]) else none)
 /\Qq cs qb Zb ⟨16,a,b,A,cls,B⟩=((zG cs cls B).map fun t=>([Zd cls],[t]))
 /\Qq cs qb Zb ⟨17,a,b,A,cls,B⟩=((zG cs cls B).map fun t=>([t,Zd cls],[]))
 /\Qq cs qb Zb ⟨18,a,b,A,cls,B⟩=(if zd cs A=0 then some ([kI],[ZF A]) else none)
 /\Qq cs qb Zb ⟨24,a,b,A,cls,B⟩=Qax cs qb cls B A false
 /\Qq cs qb Zb ⟨25,a,b,A,cls,B⟩=Qax cs qb cls B A true
 /\Qq cs qb Zb ⟨26,a,b,A,cls,B⟩=(if (Zb.toList==[86])=true then some ([],[]) else none)
 /\Qq cs qb Zb ⟨27,a,b,A,cls,B⟩=(if (Zb.toList==[86])=true then none else if zd cs Zb=0 then some ([Zb],[]) else none)
 /\Qq cs qb Zb ⟨28,a,b,A,cls,B⟩=some ([Zd Zaf],[]) :=
 ⟨rfl,rfl,rfl,rfl,rfl,rfl,rfl,rfl,rfl,rfl,rfl,rfl,rfl,rfl,rfl,rfl,rfl⟩
set_option maxRecDepth 100000
theorem zcF(l:List Qb)(lv:Value)(hR:Zk l)(hcf:∀c∈l,qd c=0)(w:World)(hlv:qj w lv l)(qb Zb:Str)(op a b:Int)(A cls C:Str)(hty:A.size<=1048576)(hcl:cls.size<=4194304)(hgs:Zb.size<=maxLen)(Z:Zi ⟨op,a,b,A,cls,C⟩=0)(N:¬q9 op):
 Calls Tryz.prog 48 #[lv,.string qb,.string Zb,.agg #[.int .i64 op,.int .i64 a,.int .i64 b,.string A,.string cls,.string C]] w (Zj w (Qq (Za l) qb Zb ⟨op,a,b,A,cls,C⟩)):=by
 have HTh:Hid (∀wx,_):=fun wx=>ZaD cls wx hcl
 have HThF:Hid (∀wx,Calls Tryz.prog 82 #[.string ⟨#[70,97,117,108,116]⟩] wx fun e w'=>e=.returned (.string (Zd Zaf))/\wx=w'):=fun wx=>ZaD Zaf wx (by decide)
 have HCO:Hid (∀wx,Below w.heap.size w wx->_):=fun wx hb=>QA l lv cls wx (hlv.mono hb)
 unfold zJ at HCO;have hts:A.size<=maxLen:=Xf hty (by decide);have HKt:Hid (∀wx,Below w.heap.size w wx->_):=fun wx hb=>qV l lv A wx (hlv.mono hb) hts
 have HIt:Hid (∀wx,_):=fun wx=>QL A wx hts
 obtain⟨pl,cap,rfl,_⟩:=hlv.open;have HLv:=Xh hlv;have HRi:=Xh hR;have HCf:=Xh hcf;have T0:=RX.new w op a b A cls C;obtain⟨c0,c1,c2,c3,c4,c5⟩:=T0.cells;have HT:=Xh T0;obtain⟨is,his⟩:∃b,(Qc (Za l) cls).isSome=b:=⟨_,rfl⟩;obtain⟨d,hd⟩:∃c,(Qc (Za l) cls).getD zg=c:=⟨_,rfl⟩;obtain⟨ty,hty'⟩:∃b,Zs A.data.toList=b:=⟨_,rfl⟩;obtain⟨kt,hkt⟩:∃n,zd (Za l) A=n:=⟨_,rfl⟩;rw[his,hd]at HCO;rw[hty']at HIt;rw[hkt]at HKt;have HIs:=Xh his;have HD:=Xh hd;have HTy:=Xh hty';have HKT:=Xh hkt;obtain⟨n2,s2,f2,b2,d2,m2⟩:=d;dsimp only at HCO;clear T0 hlv hR hcf his hd hty' hkt hts;go_enter Tryz.func48,Tryz.ntmps48;go_upto_region 3 with(first
  |(go_fit (HTh.out _);rintro e w2⟨rfl,rfl⟩)
  |(go_fit (HCO.out _ HT.out.below);rintro e i⟨p1,k1,p2,k2,p3,k3,rfl,_,_,_,X,_⟩;(have z:=HT.out.step X);(have U:=z.box.lt);(have T4:=z.alloc (.cells #[.string n2,.string s2,.slice p1 f2.length k1,.bool b2,.slice p2 d2.length k2,.slice p3 m2.length k3] 36));obtain⟨g0,g1,g2,g3,g4,g5⟩:=z.cells))
 go_cut [14] (fun s wx=>s=.bool (decide (kt=0)&&ty)/\RX w wx op a b A cls C)
 case first =>
  by_cases hz:kt=0
  ·subst hz;go_wp2_with (first
    |(go_fit (HKt.out _ T4.below);rintro e w5⟨rfl,Y⟩;(have T5:=T4.step Y);obtain⟨o,p,r,t,v,x⟩:=T5.cells)
    |(go_fit (HIt.out _);rintro e w6⟨rfl,rfl⟩))
   go_meet;exact⟨rfl,T5⟩
  ·have hzb:((kt:Int)==0)=false:=(by simpa using hz);go_wp2_with (first
    |(go_fit (HKt.out _ T4.below);rintro e w5⟨rfl,Y⟩))
   go_meet;exact⟨by rw[Xi hz,Bool.false_and],T4.step Y⟩
 case rest =>
  obtain⟨rfl,T⟩:=hcut;obtain⟨j,O,k,m,g,H,P,R,F,D,E,I,J,L,M,G,S⟩:=QdM (Za l) qb Zb a b A cls C;by_cases c1:op=1
  ·subst c1;obtain⟨o,p,r,t,v,x⟩:=T.cells;have U:=T.box.lt;have V:Hid (Qq (Za l) qb Zb ⟨1,a,b,A,cls,C⟩=some ([],[])):=j;have B:=Xh T;clear T N Z j O k m g H P R F D E I J L M G S;go_wp2_with fail;go_ret3;exact Zj.yes V.out B.out.below (qQ _) (qQ _)
  by_cases c14:op=14
  ·subst c14;obtain⟨o,p,r,t,v,x⟩:=T.cells;have U:=T.box.lt;have V:Hid (Qq (Za l) qb Zb ⟨14,a,b,A,cls,C⟩=some ([],[])):=O;have B:=Xh T;clear T N Z j O k m g H P R F D E I J L M G S;go_wp2_with fail;go_ret3;exact Zj.yes V.out B.out.below (qQ _) (qQ _)
  by_cases c2:op=2
  ·subst c2;obtain⟨o,p,r,t,v,x⟩:=T.cells;have U:=T.box.lt;have V:Hid (Qq (Za l) qb Zb ⟨2,a,b,A,cls,C⟩=some ([],[A])):=k;have B:=Xh T;clear T N Z j O k m g H P R F D E I J L M G S;go_upto_region 9 with fail;go_region
   all_goals
    go_wp2_with fail;go_ret3;exact Zj.yes V.out (B.out.alloc _).drew.below (qQ _) (Qs _ _).drewS
  by_cases c3:op=3
  ·subst c3;obtain⟨o,p,r,t,v,x⟩:=T.cells;have U:=T.box.lt;have V:Hid (Qq (Za l) qb Zb ⟨3,a,b,A,cls,C⟩=some ([],[kN])):=m;have B:=Xh T;clear T N Z j O k m g H P R F D E I J L M G S;go_wp2_with fail;go_ret3;exact Zj.yes V.out (B.out.alloc _).below (qQ _) (Qs _ _)
  by_cases c9:op=9
  ·subst c9;by_cases a12:a=12
   ·subst a12;obtain⟨o,p,r,t,v,x⟩:=T.cells;have U:=T.box.lt;have V:Hid (Qq (Za l) qb Zb ⟨9,12,b,A,cls,C⟩=some ([A],[A])):=g;have B:=Xh T;clear T N Z j O k m g H P R F D E I J L M G S;go_upto_region 14 with fail;go_region
    all_goals
     go_wp2_with fail;go_ret3;exact Zj.yes V.out ((B.out.alloc _).alloc _).drew.below (by first|exact((Qs _ _).allocS _).drewS|exact(qT _ _ _).drewS) (by first|exact((Qs _ _).allocS _).drewS|exact(qT _ _ _).drewS)
   by_cases a9:a=9
   ·subst a9;obtain⟨o,p,r,t,v,x⟩:=T.cells;have U:=T.box.lt;have V:Hid (Qq (Za l) qb Zb ⟨9,9,b,A,cls,C⟩=some ([kI,A],[A])):=g;have B:=Xh T;clear T N Z j O k m g H P R F D E I J L M G S;go_upto_region 18 with fail;go_region
    all_goals
     go_wp2_with fail;go_ret3;exact Zj.yes V.out ((B.out.alloc _).alloc _).drew.below (by first|exact((Zaw _ _ _).allocS _).drewS|exact(qba _ _ _ _).drewS) (by first|exact((Qs _ _).allocS _).drewS|exact(qT _ _ _).drewS)
   by_cases a10:a=10
   ·subst a10;obtain⟨o,p,r,t,v,x⟩:=T.cells;have U:=T.box.lt;have V:Hid (Qq (Za l) qb Zb ⟨9,10,b,A,cls,C⟩=some ([kI,A],[A])):=g;have B:=Xh T;clear T N Z j O k m g H P R F D E I J L M G S;go_upto_region 18 with fail;go_region
    all_goals
     go_wp2_with fail;go_ret3;exact Zj.yes V.out ((B.out.alloc _).alloc _).drew.below (by first|exact((Zaw _ _ _).allocS _).drewS|exact(qba _ _ _ _).drewS) (by first|exact((Qs _ _).allocS _).drewS|exact(qT _ _ _).drewS)
   by_cases a11:a=11
   ·subst a11;obtain⟨o,p,r,t,v,x⟩:=T.cells;have U:=T.box.lt;have V:Hid (Qq (Za l) qb Zb ⟨9,11,b,A,cls,C⟩=some ([kI,A],[A])):=g;have B:=Xh T;clear T N Z j O k m g H P R F D E I J L M G S;go_upto_region 18 with fail;go_region
    all_goals
     go_wp2_with fail;go_ret3;exact Zj.yes V.out ((B.out.alloc _).alloc _).drew.below (by first|exact((Zaw _ _ _).allocS _).drewS|exact(qba _ _ _ _).drewS) (by first|exact((Qs _ _).allocS _).drewS|exact(qT _ _ _).drewS)
   have y12:(a==12)=false:=(by simpa using a12);have y9:(a==9)=false:=(by simpa using a9);have y10:(a==10)=false:=(by simpa using a10);have y11:(a==11)=false:=(by simpa using a11);obtain⟨o,p,r,t,v,x⟩:=T.cells;have U:=T.box.lt;have V:Hid (Qq (Za l) qb Zb ⟨9,a,b,A,cls,C⟩=some ([A,A],[A])):=(by unfold Hid;rw[g];unfold zaz;rw[if_neg a12,if_neg (by omega)];rfl);have B:=Xh T;clear T N Z j O k m g H P R F D E I J L M G S;go_upto_region 18 with fail;go_region
   all_goals
    go_wp2_with fail;go_ret3;exact Zj.yes V.out ((B.out.alloc _).alloc _).drew.below (by first|exact((Zaw _ _ _).allocS _).drewS|exact(qba _ _ _ _).drewS) (by first|exact((Qs _ _).allocS _).drewS|exact(qT _ _ _).drewS)
  by_cases c10:op=10
  ·subst c10;rcases Zd9 (Qdk Z (Or.inr rfl)) with rfl|rfl
   ·have hk:(kI.toList==[73])=true:=(by rw[ByteArray.toList_eq];rfl);obtain⟨o,p,r,t,v,x⟩:=T.cells;have U:=T.box.lt;have V:Hid (Qq (Za l) qb Zb ⟨10,a,b,kI,cls,C⟩=some ([kJ],[kI])):=(by unfold Hid;rw[H];unfold zaf;rw[hk];rfl);have B:=Xh T;clear T N Z j O k m g H P R F D E I J L M G S;go_wp2_with fail;go_ret3;exact Zj.yes V.out ((B.out.alloc _).alloc _).below ((Qs _ _).allocS _) (qT _ _ _)
   ·have hk:(kJ.toList==[73])=false:=(by rw[ByteArray.toList_eq];rfl);obtain⟨o,p,r,t,v,x⟩:=T.cells;have U:=T.box.lt;have V:Hid (Qq (Za l) qb Zb ⟨10,a,b,kJ,cls,C⟩=some ([kI],[kJ])):=(by unfold Hid;rw[H];unfold zaf;rw[hk];rfl);have B:=Xh T;clear T N Z j O k m g H P R F D E I J L M G S;go_wp2_with fail;go_ret3;exact Zj.yes V.out ((B.out.alloc _).alloc _).below ((Qs _ _).allocS _) (qT _ _ _)
  by_cases c11:op=11
  ·subst c11;obtain⟨o,p,r,t,v,x⟩:=T.cells;have U:=T.box.lt;have V:Hid (Qq (Za l) qb Zb ⟨11,a,b,A,cls,C⟩=some ([kJ,kJ],[kI])):=P;have B:=Xh T;clear T N Z j O k m g H P R F D E I J L M G S;go_wp2_with fail;go_ret3;exact Zj.yes V.out ((B.out.alloc _).alloc _).below ((Zaw _ _ _).allocS _) (qT _ _ _)
  by_cases c12:op=12
  ·subst c12;obtain⟨o,p,r,t,v,x⟩:=T.cells;have U:=T.box.lt;have V:Hid (Qq (Za l) qb Zb ⟨12,a,b,A,cls,C⟩=some ([kI],[])):=R;have B:=Xh T;clear T N Z j O k m g H P R F D E I J L M G S;go_wp2_with fail;go_ret3;exact Zj.yes V.out (B.out.alloc _).below (Qs _ _) (qQ _)
  by_cases c15:op=15
  ·subst c15;cases is with
   |false =>
    obtain⟨o,p,r,t,v,x⟩:=T.cells;have U:=T.box.lt;have V:Hid (Qq (Za l) qb Zb ⟨15,a,b,A,cls,C⟩=none):=(by unfold Hid;rw[F,HIs.out];rfl);have B:=Xh T;clear T N Z j O k m g H P R F D E I J L M G S;go_upto_region 29 with((go_fit (HCO.out _ B.out.below);rintro e i⟨p1,k1,p2,k2,p3,k3,rfl,_,_,_,X,_⟩;(have z:=B.out.step X);(have hl3:=z.box.lt);(have q3:(i.alloc (.cells #[.string n2,.string s2,.slice p1 f2.length k1,.bool b2,.slice p2 d2.length k2,.slice p3 m2.length k3] 36)).cell? ⟨i.heap.size,3,none⟩=some (.bool b2):=(Blk.new i 36 [.string n2,.string s2,.slice p1 f2.length k1,.bool b2,.slice p2 d2.length k2,.slice p3 m2.length k3]).cell 3)))
    go_region
    all_goals
     go_wp2_with fail;go_ret3;exact Zj.no V.out ((z.alloc _).alloc _).drew.below
   |true =>
    have hcl':(qh (Za l) cls).face=b2:=(by show((Qc (Za l) cls).getD zg).face=b2;rw[HD.out]);cases b2 with
    |true =>
     obtain⟨o,p,r,t,v,x⟩:=T.cells;have U:=T.box.lt;have V:Hid (Qq (Za l) qb Zb ⟨15,a,b,A,cls,C⟩=none):=(by unfold Hid;rw[F,HIs,hcl'];rfl);have B:=Xh T;clear T N Z j O k m g H P R F D E I J L M G S;go_upto_region 29 with((go_fit (HCO.out _ B.out.below);rintro e i⟨p1,k1,p2,k2,p3,k3,rfl,_,_,_,X,_⟩;(have z:=B.out.step X);(have hl3:=z.box.lt);(have q3:(i.alloc (.cells #[.string n2,.string s2,.slice p1 f2.length k1,.bool true,.slice p2 d2.length k2,.slice p3 m2.length k3] 36)).cell? ⟨i.heap.size,3,none⟩=some (.bool true):=(Blk.new i 36 [.string n2,.string s2,.slice p1 f2.length k1,.bool true,.slice p2 d2.length k2,.slice p3 m2.length k3]).cell 3)))
     go_region
     all_goals
      go_wp2_with fail;go_ret3;exact Zj.no V.out ((z.alloc _).alloc _).drew.below
    |false =>
     obtain⟨o,p,r,t,v,x⟩:=T.cells;have U:=T.box.lt;have V:Hid (Qq (Za l) qb Zb ⟨15,a,b,A,cls,C⟩=some ([],[Zd cls])):=(by unfold Hid;rw[F,HIs,hcl'];rfl);have B:=Xh T;clear T N Z j O k m g H P R F D E I J L M G S;go_upto_region 29 with((go_fit (HCO.out _ B.out.below);rintro e i⟨p1,k1,p2,k2,p3,k3,rfl,_,_,_,X,_⟩;(have z:=B.out.step X);(have hl3:=z.box.lt);(have q3:(i.alloc (.cells #[.string n2,.string s2,.slice p1 f2.length k1,.bool false,.slice p2 d2.length k2,.slice p3 m2.length k3] 36)).cell? ⟨i.heap.size,3,none⟩=some (.bool false):=(Blk.new i 36 [.string n2,.string s2,.slice p1 f2.length k1,.bool false,.slice p2 d2.length k2,.slice p3 m2.length k3]).cell 3)))
     go_region
     all_goals
      go_wp2_with fail;go_ret3;exact Zj.yes V.out ((z.alloc _).alloc _).drew.below (qQ _) (qT _ _ _).drewS
  by_cases c16:op=16
  ·subst c16;cases is with
   |false =>
    obtain⟨o,p,r,t,v,x⟩:=T.cells;have U:=T.box.lt;have V:Hid (Qq (Za l) qb Zb ⟨16,a,b,A,cls,C⟩=none):=(by unfold Hid;rw[D,zce (by rw[HIs.out];decide)];rfl);have B:=Xh T;clear T N Z j O k m g H P R F D E I J L M G S;go_wp2_with fail;go_ret3;exact Zj.no V.out B.out.below
   |true =>
    have y:Hid (∀wx,Below w.heap.size w wx->_):=fun wx hb=>Qa4 l (.slice pl l.length cap) cls C wx HRi.out (HLv.out.mono hb) HIs.out
    have HKn:=Xh (Zal HCf.out HIs.out);cases hf:zam (Za l) cls C with
    |none =>
     rw[hf]at y;unfold zaR at y;obtain⟨o,p,r,t,v,x⟩:=T.cells;have U:=T.box.lt;have V:Hid (Qq (Za l) qb Zb ⟨16,a,b,A,cls,C⟩=none):=(by unfold Hid;rw[D,zbP hf];rfl);have B:=Xh T;clear T N Z j O k m g H P R F D E I J L M G S;clear hf;go_wp2_with (first|(go_fit (y.out _ B.out.below);rintro e i⟨rfl,X⟩;(have z:=B.out.step X);(have hl3:=z.box.lt);(have T4:=z.alloc (.cells #[.string ⟨#[]⟩,.string ⟨#[]⟩] 130));(obtain⟨g0,g1,g2,g3,g4,g5⟩:=T4.cells);(obtain⟨r0,r1⟩:=(Blk.new i 130 [.string ⟨#[]⟩,.string ⟨#[]⟩]).cells2)))
     go_ret3;exact Zj.no V.out T4.below
    |some cf =>
     obtain⟨fc,f⟩:=cf;rw[hf]at y;unfold zaR at y;have hfs:f.type.size<=maxLen:=zbx HCf.out hf;have HKf:Hid (∀wx,Below w.heap.size w wx->_):=fun wx hb=>qV l (.slice pl l.length cap) f.type wx (HLv.out.mono hb) hfs
     by_cases hz:zd (Za l) f.type=0
     ·rw[hz]at HKf;obtain⟨o,p,r,t,v,x⟩:=T.cells;have U:=T.box.lt;have V:Hid (Qq (Za l) qb Zb ⟨16,a,b,A,cls,C⟩=some ([Zd cls],[f.type])):=(by unfold Hid;rw[D,ZbP HKn.out hf hz];rfl);have B:=Xh T;clear T N Z j O k m g H P R F D E I J L M G S;clear hf hz hfs;go_upto_region 38 with(first|(go_fit (y.out _ B.out.below);rintro e i⟨rfl,X⟩;(have z:=B.out.step X);(have hl3:=z.box.lt);(have T4:=z.alloc (.cells #[.string f.name,.string f.type] 130));(obtain⟨g0,g1,g2,g3,g4,g5⟩:=T4.cells);(obtain⟨r0,r1⟩:=(Blk.new i 130 [.string f.name,.string f.type]).cells2))|(go_fit (HKf.out _ T4.below);rintro e w5⟨rfl,Y⟩;(have T5:=T4.step Y);(have hl5:=T5.box.lt);(have hl6:i.heap.size<w5.heap.size:=(Blk.step (Blk.new i 130 [.string f.name,.string f.type]) Y).lt);(obtain⟨j0,j1,j2,j3,j4,j5⟩:=T5.cells);(obtain⟨s0,s1⟩:=(Blk.step (Blk.new i 130 [.string f.name,.string f.type]) Y).cells2)))
      go_region
      all_goals
       go_wp2_with fail;go_ret3;exact Zj.yes V.out ((T5.alloc _).alloc _).drew.below (by first|exact((Qs _ _).allocS _).drewS|exact(qT _ _ _).drewS) (by first|exact((Qs _ _).allocS _).drewS|exact(qT _ _ _).drewS)
     ·have hzb:(((zd (Za l) f.type:Nat):Int) != 0)=true:=(by simpa using hz);obtain⟨o,p,r,t,v,x⟩:=T.cells;have U:=T.box.lt;have V:Hid (Qq (Za l) qb Zb ⟨16,a,b,A,cls,C⟩=none):=(by unfold Hid;rw[D,Zce hf hz];rfl);have B:=Xh T;clear T N Z j O k m g H P R F D E I J L M G S;clear hf hz hfs;generalize zd (Za l) f.type=fk at *;go_wp2_with (first|(go_fit (y.out _ B.out.below);rintro e i⟨rfl,X⟩;(have z:=B.out.step X);(have hl3:=z.box.lt);(have T4:=z.alloc (.cells #[.string f.name,.string f.type] 130));(obtain⟨g0,g1,g2,g3,g4,g5⟩:=T4.cells);(obtain⟨r0,r1⟩:=(Blk.new i 130 [.string f.name,.string f.type]).cells2))|(go_fit (HKf.out _ T4.below);rintro e w5⟨rfl,Y⟩;(have T5:=T4.step Y);(have hl5:=T5.box.lt);(have hl6:i.heap.size<w5.heap.size:=(Blk.step (Blk.new i 130 [.string f.name,.string f.type]) Y).lt);(obtain⟨j0,j1,j2,j3,j4,j5⟩:=T5.cells);(obtain⟨s0,s1⟩:=(Blk.step (Blk.new i 130 [.string f.name,.string f.type]) Y).cells2)))
      go_ret3;exact Zj.no V.out T5.below
  by_cases c17:op=17
  ·subst c17;cases is with
   |false =>
    obtain⟨o,p,r,t,v,x⟩:=T.cells;have U:=T.box.lt;have V:Hid (Qq (Za l) qb Zb ⟨17,a,b,A,cls,C⟩=none):=(by unfold Hid;rw[E,zce (by rw[HIs.out];decide)];rfl);have B:=Xh T;clear T N Z j O k m g H P R F D E I J L M G S;go_wp2_with fail;go_ret3;exact Zj.no V.out B.out.below
   |true =>
    have y:Hid (∀wx,Below w.heap.size w wx->_):=fun wx hb=>Qa4 l (.slice pl l.length cap) cls C wx HRi.out (HLv.out.mono hb) HIs.out
    have HKn:=Xh (Zal HCf.out HIs.out);cases hf:zam (Za l) cls C with
    |none =>
     rw[hf]at y;unfold zaR at y;obtain⟨o,p,r,t,v,x⟩:=T.cells;have U:=T.box.lt;have V:Hid (Qq (Za l) qb Zb ⟨17,a,b,A,cls,C⟩=none):=(by unfold Hid;rw[E,zbP hf];rfl);have B:=Xh T;clear T N Z j O k m g H P R F D E I J L M G S;clear hf;go_wp2_with (first|(go_fit (y.out _ B.out.below);rintro e i⟨rfl,X⟩;(have z:=B.out.step X);(have hl3:=z.box.lt);(have T4:=z.alloc (.cells #[.string ⟨#[]⟩,.string ⟨#[]⟩] 130));(obtain⟨g0,g1,g2,g3,g4,g5⟩:=T4.cells);(obtain⟨r0,r1⟩:=(Blk.new i 130 [.string ⟨#[]⟩,.string ⟨#[]⟩]).cells2)))
     go_ret3;exact Zj.no V.out T4.below
    |some cf =>
     obtain⟨fc,f⟩:=cf;rw[hf]at y;unfold zaR at y;have hfs:f.type.size<=maxLen:=zbx HCf.out hf;have HKf:Hid (∀wx,Below w.heap.size w wx->_):=fun wx hb=>qV l (.slice pl l.length cap) f.type wx (HLv.out.mono hb) hfs
     by_cases hz:zd (Za l) f.type=0
     ·rw[hz]at HKf;obtain⟨o,p,r,t,v,x⟩:=T.cells;have U:=T.box.lt;have V:Hid (Qq (Za l) qb Zb ⟨17,a,b,A,cls,C⟩=some ([f.type,Zd cls],[])):=(by unfold Hid;rw[E,ZbP HKn.out hf hz];rfl);have B:=Xh T;clear T N Z j O k m g H P R F D E I J L M G S;clear hf hz hfs;go_wp2_with (first|(go_fit (y.out _ B.out.below);rintro e i⟨rfl,X⟩;(have z:=B.out.step X);(have hl3:=z.box.lt);(have T4:=z.alloc (.cells #[.string f.name,.string f.type] 130));(obtain⟨g0,g1,g2,g3,g4,g5⟩:=T4.cells);(obtain⟨r0,r1⟩:=(Blk.new i 130 [.string f.name,.string f.type]).cells2))|(go_fit (HKf.out _ T4.below);rintro e w5⟨rfl,Y⟩;(have T5:=T4.step Y);(have hl5:=T5.box.lt);(have hl6:i.heap.size<w5.heap.size:=(Blk.step (Blk.new i 130 [.string f.name,.string f.type]) Y).lt);(obtain⟨j0,j1,j2,j3,j4,j5⟩:=T5.cells);(obtain⟨s0,s1⟩:=(Blk.step (Blk.new i 130 [.string f.name,.string f.type]) Y).cells2)))
      go_ret3;exact Zj.yes V.out (T5.alloc _).below (Zaw _ _ _) (qQ _)
     ·have hzb:(((zd (Za l) f.type:Nat):Int) != 0)=true:=(by simpa using hz);obtain⟨o,p,r,t,v,x⟩:=T.cells;have U:=T.box.lt;have V:Hid (Qq (Za l) qb Zb ⟨17,a,b,A,cls,C⟩=none):=(by unfold Hid;rw[E,Zce hf hz];rfl);have B:=Xh T;clear T N Z j O k m g H P R F D E I J L M G S;clear hf hz hfs;generalize zd (Za l) f.type=fk at *;go_wp2_with (first|(go_fit (y.out _ B.out.below);rintro e i⟨rfl,X⟩;(have z:=B.out.step X);(have hl3:=z.box.lt);(have T4:=z.alloc (.cells #[.string f.name,.string f.type] 130));(obtain⟨g0,g1,g2,g3,g4,g5⟩:=T4.cells);(obtain⟨r0,r1⟩:=(Blk.new i 130 [.string f.name,.string f.type]).cells2))|(go_fit (HKf.out _ T4.below);rintro e w5⟨rfl,Y⟩;(have T5:=T4.step Y);(have hl5:=T5.box.lt);(have hl6:i.heap.size<w5.heap.size:=(Blk.step (Blk.new i 130 [.string f.name,.string f.type]) Y).lt);(obtain⟨j0,j1,j2,j3,j4,j5⟩:=T5.cells);(obtain⟨s0,s1⟩:=(Blk.step (Blk.new i 130 [.string f.name,.string f.type]) Y).cells2)))
      go_ret3;exact Zj.no V.out T5.below
  by_cases c18:op=18
  ·subst c18;have hty1:ty=true:=(by rw[<-HTy.out];exact zaV Z (Or.inl rfl));subst hty1;by_cases hz:kt=0
   ·subst hz;have hkz:(decide ((0:Nat)=0)&&true)=true:=rfl;rw[hkz]at *;obtain⟨o,p,r,t,v,x⟩:=T.cells;have U:=T.box.lt;have V:Hid (Qq (Za l) qb Zb ⟨18,a,b,A,cls,C⟩=some ([kI],[ZF A])):=(by unfold Hid;rw[I,HKT.out];rfl);have B:=Xh T;clear T N Z j O k m g H P R F D E I J L M G S;clear hkz;go_upto_region 41 with fail;go_region
    all_goals
     go_wp2_with fail;go_ret3;exact Zj.yes V.out ((B.out.alloc _).alloc _).drew.below (by first|exact((Qs _ _).allocS _).drewS|exact(qT _ _ _).drewS) (by first|exact((Qs _ (ZF A)).allocS _).drewS|exact(qT _ (ZF A) _).drewS)
   ·have hkz:(decide (kt=0)&&true)=false:=(by rw[Xi hz];rfl);rw[hkz]at *;obtain⟨o,p,r,t,v,x⟩:=T.cells;have U:=T.box.lt;have V:Hid (Qq (Za l) qb Zb ⟨18,a,b,A,cls,C⟩=none):=(by unfold Hid;rw[I,HKT,if_neg hz]);have B:=Xh T;clear T N Z j O k m g H P R F D E I J L M G S;clear hkz;go_upto_region 41 with fail;go_region
    all_goals
     go_wp2_with fail;go_ret3;exact Zj.no V.out ((B.out.alloc _).alloc _).drew.below
  by_cases c24:op=24
  ·subst c24;have HCW:Hid (∀wx,Below w.heap.size w wx->_):=fun wx hb=>Qbf l (.slice pl l.length cap) HRi.out HCf.out wx (HLv.out.mono hb) qb 24 a b A cls C false rfl rfl hty hcl (Qcu Z (Or.inl rfl))
   cases hq:Qax (Za l) qb cls C A false with
   |none =>
    rw[hq]at HCW;obtain⟨o,p,r,t,v,x⟩:=T.cells;have U:=T.box.lt;have V:Hid (Qq (Za l) qb Zb ⟨24,a,b,A,cls,C⟩=none):=J.trans hq;have B:=Xh T;clear T N Z j O k m g H P R F D E I J L M G S;go_wp2_with (first|(go_fit (HCW.out _ B.out.below);rintro e i⟨X,hP⟩;rcases hP with⟨-,v1,v2,rfl⟩|⟨_,_,_,_,h,_⟩;rotate_left;(cases h)))
    go_ret3;exact Zj.no V.out (Qa B.out.below Xl X)
   |some q =>
    obtain⟨ks,ps⟩:=q;rw[hq]at HCW;obtain⟨o,p,r,t,v,x⟩:=T.cells;have U:=T.box.lt;have V:Hid (Qq (Za l) qb Zb ⟨24,a,b,A,cls,C⟩=some (ks,ps)):=J.trans hq;have B:=Xh T;clear T N Z j O k m g H P R F D E I J L M G S;go_wp2_with (first|(go_fit (HCW.out _ B.out.below);rintro e i⟨X,hP⟩;rcases hP with⟨h,_⟩|⟨_,_,v1,v2,he,rfl,hs1,hs2⟩;(cases h);(injection he with he;injection he with e1 e2;subst e1 e2)))
    go_ret3;exact Zj.yes V.out (Qa B.out.below Xl X) hs1 hs2
  by_cases c25:op=25
  ·subst c25;have HCW:Hid (∀wx,Below w.heap.size w wx->_):=fun wx hb=>Qbf l (.slice pl l.length cap) HRi.out HCf.out wx (HLv.out.mono hb) qb 25 a b A cls C true rfl rfl hty hcl (Qcu Z (Or.inr rfl))
   cases hq:Qax (Za l) qb cls C A true with
   |none =>
    rw[hq]at HCW;obtain⟨o,p,r,t,v,x⟩:=T.cells;have U:=T.box.lt;have V:Hid (Qq (Za l) qb Zb ⟨25,a,b,A,cls,C⟩=none):=L.trans hq;have B:=Xh T;clear T N Z j O k m g H P R F D E I J L M G S;go_wp2_with (first|(go_fit (HCW.out _ B.out.below);rintro e i⟨X,hP⟩;rcases hP with⟨-,v1,v2,rfl⟩|⟨_,_,_,_,h,_⟩;rotate_left;(cases h)))
    go_ret3;exact Zj.no V.out (Qa B.out.below Xl X)
   |some q =>
    obtain⟨ks,ps⟩:=q;rw[hq]at HCW;obtain⟨o,p,r,t,v,x⟩:=T.cells;have U:=T.box.lt;have V:Hid (Qq (Za l) qb Zb ⟨25,a,b,A,cls,C⟩=some (ks,ps)):=L.trans hq;have B:=Xh T;clear T N Z j O k m g H P R F D E I J L M G S;go_wp2_with (first|(go_fit (HCW.out _ B.out.below);rintro e i⟨X,hP⟩;rcases hP with⟨h,_⟩|⟨_,_,v1,v2,he,rfl,hs1,hs2⟩;(cases h);(injection he with he;injection he with e1 e2;subst e1 e2)))
    go_ret3;exact Zj.yes V.out (Qa B.out.below Xl X) hs1 hs2
  by_cases c26:op=26
  ·subst c26;cases hv:(Zb.toList==[86]) with
   |true =>
    obtain⟨o,p,r,t,v,x⟩:=T.cells;have U:=T.box.lt;have V:Hid (Qq (Za l) qb Zb ⟨26,a,b,A,cls,C⟩=some ([],[])):=(by unfold Hid;rw[M,hv];rfl);have B:=Xh T;clear T N Z j O k m g H P R F D E I J L M G S;go_wp2_with fail;go_ret3;exact Zj.yes V.out B.out.below (qQ _) (qQ _)
   |false =>
    obtain⟨o,p,r,t,v,x⟩:=T.cells;have U:=T.box.lt;have V:Hid (Qq (Za l) qb Zb ⟨26,a,b,A,cls,C⟩=none):=(by unfold Hid;rw[M,hv];rfl);have B:=Xh T;clear T N Z j O k m g H P R F D E I J L M G S;go_wp2_with fail;go_ret3;exact Zj.no V.out B.out.below
  by_cases c27:op=27
  ·subst c27;cases hv:(Zb.toList==[86]) with
   |true =>
    obtain⟨o,p,r,t,v,x⟩:=T.cells;have U:=T.box.lt;have V:Hid (Qq (Za l) qb Zb ⟨27,a,b,A,cls,C⟩=none):=(by unfold Hid;rw[G,hv];rfl);have B:=Xh T;clear T N Z j O k m g H P R F D E I J L M G S;go_wp2_with fail;go_ret3;exact Zj.no V.out (B.out.alloc _).below
   |false =>
    have HKg:Hid (∀wx,Below w.heap.size w wx->_):=fun wx hb=>qV l (.slice pl l.length cap) Zb wx (HLv.out.mono hb) hgs
    by_cases hz:zd (Za l) Zb=0
    ·rw[hz]at HKg;obtain⟨o,p,r,t,v,x⟩:=T.cells;have U:=T.box.lt;have V:Hid (Qq (Za l) qb Zb ⟨27,a,b,A,cls,C⟩=some ([Zb],[])):=(by unfold Hid;rw[G,hv,hz];rfl);have B:=Xh T;clear T N Z j O k m g H P R F D E I J L M G S;clear hz;go_wp2_with (first|(go_fit (HKg.out _ (B.out.alloc _).below);rintro e w5⟨rfl,Y⟩))
     go_ret3;exact Zj.yes V.out (Qa (B.out.alloc _).below Xl Y) ((Qs _ _).mono Y) (qQ _)
    ·have hzb:(((zd (Za l) Zb:Nat):Int)==0)=false:=(by simpa using hz);obtain⟨o,p,r,t,v,x⟩:=T.cells;have U:=T.box.lt;have V:Hid (Qq (Za l) qb Zb ⟨27,a,b,A,cls,C⟩=none):=(by unfold Hid;rw[G,hv,if_neg (by decide),if_neg hz]);have B:=Xh T;clear T N Z j O k m g H P R F D E I J L M G S;clear hz;generalize zd (Za l) Zb=fk at *;go_wp2_with (first|(go_fit (HKg.out _ (B.out.alloc _).below);rintro e w5⟨rfl,Y⟩))
     go_ret3;exact Zj.no V.out (Qa (B.out.alloc _).below Xl Y)
  by_cases c28:op=28
  ·subst c28;obtain⟨o,p,r,t,v,x⟩:=T.cells;have U:=T.box.lt;have V:Hid (Qq (Za l) qb Zb ⟨28,a,b,A,cls,C⟩=some ([Zd Zaf],[])):=S;have B:=Xh T;clear T N Z j O k m g H P R F D E I J L M G S;go_wp2_with (first|(go_fit (HThF.out _);rintro e w5⟨rfl,rfl⟩))
   go_ret3;exact Zj.yes V.out (B.out.alloc _).below (Qs _ _) (qQ _)
  exact absurd (qdM Z) (by unfold q9 at N;omega)
set_option maxRecDepth 512
end Go.Proofs.YtlmfmioljeppfaaGreatDoor
