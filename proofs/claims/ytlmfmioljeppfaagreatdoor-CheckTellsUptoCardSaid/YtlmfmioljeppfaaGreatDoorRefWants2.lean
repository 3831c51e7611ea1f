/- Lemmas; conditions: as each states. -/
import Derived.Test.YtlmfmioljeppfaaGreatDoorRefWants
set_option maxHeartbeats 4000000
namespace Go.Proofs.YtlmfmioljeppfaaGreatDoor
open Go.RowKit Go.Shelf Go.Lib
theorem Qh.drewS{w:World}{v:Value}{l:List Str}(h:Qh w v l):Qh w.drew v l:=h.mono (Xb.drew)
theorem Qh.allocS{w:World}{v:Value}{l:List Str}(h:Qh w v l)(o:Obj):Qh (w.alloc o) v l:=h.mono (Xb.alloc Xl o)
theorem qax(w:World)(s t:Str):Qh (w.alloc (.cells #[.string s,.string t] 9)) (.slice (some ⟨w.heap.size,0,none⟩) 2 2) [s,t] :=
 Ze (base:=w.heap.size) (l:=[s,t]) ⟨rfl,Or.inr ⟨w.heap.size,2,#[.string s,.string t],rfl,Xl,heap_alloc_new _ _,Xl,by decide,rfl,rfl⟩⟩
theorem QR(w:World)(s:Str)(o:Obj):Qh ((w.alloc o).alloc (.cells #[.string s] 9)) (.slice (some ⟨w.heap.size+1,0,none⟩) 1 1) [s]:=by
 have:=Zt (w.alloc o) s;rwa [World.size_alloc]at this
theorem qa9(w:World)(s t:Str)(o:Obj):Qh ((w.alloc o).alloc (.cells #[.string s,.string t] 9)) (.slice (some ⟨w.heap.size+1,0,none⟩) 2 2) [s,t]:=by
 have:=qax (w.alloc o) s t;rwa [World.size_alloc]at this
theorem qd3{t:Str}(h:Qag (lst t)=true):t=kI\/t=kJ:=by
 unfold Qag at h;simp only[Bool.or_eq_true,beq_iff_eq]at h;rcases h with h|h
 ·exact Or.inl (ByteArray.ext (Array.toList_inj.1 h))
 ·exact Or.inr (ByteArray.ext (Array.toList_inj.1 h))
theorem Zdg{op a b:Int}{type cls name:Str}(h:Zi ⟨op,a,b,type,cls,name⟩=0)(ho:op=9\/op=10):Qag (lst type)=true:=by
 have:=qaB h;unfold Qx at this;rwa [if_pos (by dsimp only;omega)]at this
theorem Zcc{cs:List Qb}{c n:Str}(h:¬(Qc cs c).isSome=true):qF cs c n=none:=by
 unfold qF;rw[if_pos (fun hk=>h (zaY hk))]
theorem QbP{cs:List Qb}{c n:Str}(h:Zam cs c n=none):qF cs c n=none:=by
 unfold qF;rw[h];split<;>rfl
theorem zbQ{cs:List Qb}{c n d:Str}{f:qag}(hk:zd cs (Zd c)=0)(h:Zam cs c n=some (d,f))(hz:zd cs f.type=0):qF cs c n=some f.type:=by
 unfold qF;rw[h,if_neg (by rw[hk];decide)];exact if_pos hz
theorem qcc{cs:List Qb}{c n d:Str}{f:qag}(h:Zam cs c n=some (d,f))(hz:¬zd cs f.type=0):qF cs c n=none:=by
 unfold qF;rw[h];split
 ·rfl
 ·exact if_neg hz
theorem Qby{l:List Qb}(hcf:∀c∈l,qd c=0){c n d:Str}{f:qag}(h:Zam (Za l) c n=some (d,f)):f.type.size<=maxLen:=by
 obtain⟨y,hy⟩:=Qaq (zaG hcf d f (QaX h));exact hy.size
theorem zaU{op a b:Int}{type cls name:Str}(h:Zi ⟨op,a,b,type,cls,name⟩=0)(ho:op=18\/op=20\/op=21):Qs type.data.toList=true:=by
 have:=qaB h;unfold Qx at this;rw[if_neg (by dsimp only;omega),if_pos (by dsimp only;exact ho)]at this;exact(Bool.and_eq_true_iff.1 this).1
theorem zct{op a b:Int}{type cls name:Str}(h:Zi ⟨op,a,b,type,cls,name⟩=0)(ho:op=24\/op=25):(zm type).isSome=true:=by
 have:=qaB h;unfold Qx at this;rwa [if_neg (by dsimp only;omega),if_neg (by dsimp only;omega),if_neg (by dsimp only;omega),if_pos (by dsimp only;exact ho)]at this
theorem ZdH{op a b:Int}{type cls name:Str}(h:Zi ⟨op,a,b,type,cls,name⟩=0):1<=op/\op<=28:=by
 unfold Zi at h;split at h
 ·cases h
 ·rename_i h1;dsimp only at h1;omega
theorem qdH(cs:List Qb)(qb Zb:Str)(a b:Int)(type cls name:Str):
 Qq cs qb Zb ⟨1,a,b,type,cls,name⟩=some ([],[])/\Qq cs qb Zb ⟨14,a,b,type,cls,name⟩=some ([],[])
 /\Qq cs qb Zb ⟨2,a,b,type,cls,name⟩=some ([],[type])/\Qq cs qb Zb ⟨3,a,b,type,cls,name⟩=some ([],[kN])
 /\Qq cs qb Zb ⟨9,a,b,type,cls,name⟩=some (zaA a type++[type],[type])
 /\Qq cs qb Zb ⟨10,a,b,type,cls,name⟩=some ([Zae type],[type])
 /\Qq cs qb Zb ⟨11,a,b,type,cls,name⟩=some ([kJ,kJ],[kI])/\Qq cs qb Zb ⟨12,a,b,type,cls,name⟩=some ([kI],[])
 /\Qq cs qb Zb ⟨15,a,b,type,cls,name⟩=(if (Qc cs cls).isSome&&!(qh cs cls).face then some ([],[Zd cls]) else none)
 /\Qq cs qb Zb ⟨16,a,b,type,cls,name⟩=((qF cs cls name).map fun t=>([Zd cls],[t]))
 /\Qq cs qb Zb ⟨17,a,b,type,cls,name⟩=((qF cs cls name).map fun t=>([t,Zd cls],[]))
 /\Qq cs qb Zb ⟨18,a,b,type,cls,name⟩=(if zd cs type=0 then some ([kI],[QE type]) else none)
 /\Qq cs qb Zb ⟨24,a,b,type,cls,name⟩=Qay cs qb cls name type false
 /\Qq cs qb Zb ⟨25,a,b,type,cls,name⟩=Qay cs qb cls name type true
 /\Qq cs qb Zb ⟨26,a,b,type,cls,name⟩=(if (Zb.toList==[86])=true then some ([],[]) else none)
 /\Qq cs qb Zb ⟨27,a,b,type,cls,name⟩=(if (Zb.toList==[86])=true then none else if zd cs Zb=0 then some ([Zb],[]) else none)
 /\Qq cs qb Zb ⟨28,a,b,type,cls,name⟩=some ([Zd qae],[]) :=
 ⟨rfl,rfl,rfl,rfl,rfl,rfl,rfl,rfl,rfl,rfl,rfl,rfl,rfl,rfl,rfl,rfl,rfl⟩
set_option maxRecDepth 100000
theorem QcC(l:List Qb)(lv:Value)(hR:Qj l)(hcf:∀c∈l,qd c=0)(w:World)(hlv:qi w lv l)(qb Zb:Str)(op a b:Int)(type cls name:Str)(hty:type.size<=1048576)(hcl:cls.size<=4194304)(hgs:Zb.size<=maxLen)(hx:Zi ⟨op,a,b,type,cls,name⟩=0)(hop:¬Q9 op):
 Calls Tryz.prog 48 #[lv,.string qb,.string Zb,.agg #[.int .i64 op,.int .i64 a,.int .i64 b,.string type,.string cls,.string name]] w (zj w (Qq (Za l) qb Zb ⟨op,a,b,type,cls,name⟩)):=by
 have HTh:Hid (∀wx,_):=fun wx=>qaD cls wx hcl
 have HThF:Hid (∀wx,Calls Tryz.prog 82 #[.string ⟨#[70,97,117,108,116]⟩] wx fun e w'=>e=.returned (.string (Zd qae))/\wx=w'):=fun wx=>qaD qae wx (by decide)
 have HCO:Hid (∀wx,Below w.heap.size w wx->_):=fun wx hb=>QA l lv cls wx (hlv.mono hb)
 unfold qJ at HCO;have hts:type.size<=maxLen:=Xf hty (by decide);have HKt:Hid (∀wx,Below w.heap.size w wx->_):=fun wx hb=>ZU l lv type wx (hlv.mono hb) hts
 have HIt:Hid (∀wx,_):=fun wx=>QL type wx hts
 obtain⟨pl,cap,rfl,_⟩:=hlv.open;have HLv:=Xh hlv;have HRi:=Xh hR;have HCf:=Xh hcf;have T0:=RX.new w op a b type cls name;obtain⟨c0,c1,c2,c3,c4,c5⟩:=T0.cells;have HT:=Xh T0;obtain⟨is,his⟩:∃b,(Qc (Za l) cls).isSome=b:=⟨_,rfl⟩;obtain⟨d,hd⟩:∃c,(Qc (Za l) cls).getD zg=c:=⟨_,rfl⟩;obtain⟨ty,hty'⟩:∃b,Qs type.data.toList=b:=⟨_,rfl⟩;obtain⟨kt,hkt⟩:∃n,zd (Za l) type=n:=⟨_,rfl⟩;rw[his,hd]at HCO;rw[hty']at HIt;rw[hkt]at HKt;have HIs:=Xh his;have HD:=Xh hd;have HTy:=Xh hty';have HKT:=Xh hkt;obtain⟨n2,s2,f2,b2,d2,m2⟩:=d;dsimp only at HCO;clear T0 hlv hR hcf his hd hty' hkt hts;go_enter Tryz.func48,Tryz.ntmps48;go_upto_region 3 with(first
  |(go_fit (HTh.out _);rintro e w2⟨rfl,rfl⟩)
  |(go_fit (HCO.out _ HT.out.below);rintro e w3⟨p1,k1,p2,k2,p3,k3,rfl,_,_,_,hB3,_⟩;(have T3:=HT.out.step hB3);(have hlt:=T3.box.lt);(have T4:=T3.alloc (.cells #[.string n2,.string s2,.slice p1 f2.length k1,.bool b2,.slice p2 d2.length k2,.slice p3 m2.length k3] 36));obtain⟨g0,g1,g2,g3,g4,g5⟩:=T3.cells))
 go_cut [14] (fun s wx=>s=.bool (decide (kt=0)&&ty)/\RX w wx op a b type cls name)
 case first =>
  by_cases hz:kt=0
  ·subst hz;go_wp2_with (first
    |(go_fit (HKt.out _ T4.below);rintro e w5⟨rfl,hB5⟩;(have T5:=T4.step hB5);obtain⟨h0,h1,h2,h3,h4,h5⟩:=T5.cells)
    |(go_fit (HIt.out _);rintro e w6⟨rfl,rfl⟩))
   go_meet;exact⟨rfl,T5⟩
  ·have hzb:((kt:Int)==0)=false:=(by simpa using hz);go_wp2_with (first
    |(go_fit (HKt.out _ T4.below);rintro e w5⟨rfl,hB5⟩))
   go_meet;exact⟨by rw[Xi hz,Bool.false_and],T4.step hB5⟩
 case rest =>
  obtain⟨rfl,T⟩:=hcut;obtain⟨E1,E14,E2,E3,E9,E10,E11,E12,E15,E16,E17,E18,E24,E25,E26,E27,E28⟩:=qdH (Za l) qb Zb a b type cls name;by_cases c1:op=1
  ·subst c1;obtain⟨h0,h1,h2,h3,h4,h5⟩:=T.cells;have hlt:=T.box.lt;have HW:Hid (Qq (Za l) qb Zb ⟨1,a,b,type,cls,name⟩=some ([],[])):=E1;have HTc:=Xh T;clear T hop hx E1 E14 E2 E3 E9 E10 E11 E12 E15 E16 E17 E18 E24 E25 E26 E27 E28;go_wp2_with fail;go_ret3;exact zj.yes HW.out HTc.out.below (QP _) (QP _)
  by_cases c14:op=14
  ·subst c14;obtain⟨h0,h1,h2,h3,h4,h5⟩:=T.cells;have hlt:=T.box.lt;have HW:Hid (Qq (Za l) qb Zb ⟨14,a,b,type,cls,name⟩=some ([],[])):=E14;have HTc:=Xh T;clear T hop hx E1 E14 E2 E3 E9 E10 E11 E12 E15 E16 E17 E18 E24 E25 E26 E27 E28;go_wp2_with fail;go_ret3;exact zj.yes HW.out HTc.out.below (QP _) (QP _)
  by_cases c2:op=2
  ·subst c2;obtain⟨h0,h1,h2,h3,h4,h5⟩:=T.cells;have hlt:=T.box.lt;have HW:Hid (Qq (Za l) qb Zb ⟨2,a,b,type,cls,name⟩=some ([],[type])):=E2;have HTc:=Xh T;clear T hop hx E1 E14 E2 E3 E9 E10 E11 E12 E15 E16 E17 E18 E24 E25 E26 E27 E28;go_upto_region 9 with fail;go_region
   all_goals
    go_wp2_with fail;go_ret3;exact zj.yes HW.out (HTc.out.alloc _).drew.below (QP _) (Zt _ _).drewS
  by_cases c3:op=3
  ·subst c3;obtain⟨h0,h1,h2,h3,h4,h5⟩:=T.cells;have hlt:=T.box.lt;have HW:Hid (Qq (Za l) qb Zb ⟨3,a,b,type,cls,name⟩=some ([],[kN])):=E3;have HTc:=Xh T;clear T hop hx E1 E14 E2 E3 E9 E10 E11 E12 E15 E16 E17 E18 E24 E25 E26 E27 E28;go_wp2_with fail;go_ret3;exact zj.yes HW.out (HTc.out.alloc _).below (QP _) (Zt _ _)
  by_cases c9:op=9
  ·subst c9;by_cases a12:a=12
   ·subst a12;obtain⟨h0,h1,h2,h3,h4,h5⟩:=T.cells;have hlt:=T.box.lt;have HW:Hid (Qq (Za l) qb Zb ⟨9,12,b,type,cls,name⟩=some ([type],[type])):=E9;have HTc:=Xh T;clear T hop hx E1 E14 E2 E3 E9 E10 E11 E12 E15 E16 E17 E18 E24 E25 E26 E27 E28;go_upto_region 14 with fail;go_region
    all_goals
     go_wp2_with fail;go_ret3;exact zj.yes HW.out ((HTc.out.alloc _).alloc _).drew.below (by first|exact((Zt _ _).allocS _).drewS|exact(QR _ _ _).drewS) (by first|exact((Zt _ _).allocS _).drewS|exact(QR _ _ _).drewS)
   by_cases a9:a=9
   ·subst a9;obtain⟨h0,h1,h2,h3,h4,h5⟩:=T.cells;have hlt:=T.box.lt;have HW:Hid (Qq (Za l) qb Zb ⟨9,9,b,type,cls,name⟩=some ([kI,type],[type])):=E9;have HTc:=Xh T;clear T hop hx E1 E14 E2 E3 E9 E10 E11 E12 E15 E16 E17 E18 E24 E25 E26 E27 E28;go_upto_region 18 with fail;go_region
    all_goals
     go_wp2_with fail;go_ret3;exact zj.yes HW.out ((HTc.out.alloc _).alloc _).drew.below (by first|exact((qax _ _ _).allocS _).drewS|exact(qa9 _ _ _ _).drewS) (by first|exact((Zt _ _).allocS _).drewS|exact(QR _ _ _).drewS)
   by_cases a10:a=10
   ·subst a10;obtain⟨h0,h1,h2,h3,h4,h5⟩:=T.cells;have hlt:=T.box.lt;have HW:Hid (Qq (Za l) qb Zb ⟨9,10,b,type,cls,name⟩=some ([kI,type],[type])):=E9;have HTc:=Xh T;clear T hop hx E1 E14 E2 E3 E9 E10 E11 E12 E15 E16 E17 E18 E24 E25 E26 E27 E28;go_upto_region 18 with fail;go_region
    all_goals
     go_wp2_with fail;go_ret3;exact zj.yes HW.out ((HTc.out.alloc _).alloc _).drew.below (by first|exact((qax _ _ _).allocS _).drewS|exact(qa9 _ _ _ _).drewS) (by first|exact((Zt _ _).allocS _).drewS|exact(QR _ _ _).drewS)
   by_cases a11:a=11
   ·subst a11;obtain⟨h0,h1,h2,h3,h4,h5⟩:=T.cells;have hlt:=T.box.lt;have HW:Hid (Qq (Za l) qb Zb ⟨9,11,b,type,cls,name⟩=some ([kI,type],[type])):=E9;have HTc:=Xh T;clear T hop hx E1 E14 E2 E3 E9 E10 E11 E12 E15 E16 E17 E18 E24 E25 E26 E27 E28;go_upto_region 18 with fail;go_region
    all_goals
     go_wp2_with fail;go_ret3;exact zj.yes HW.out ((HTc.out.alloc _).alloc _).drew.below (by first|exact((qax _ _ _).allocS _).drewS|exact(qa9 _ _ _ _).drewS) (by first|exact((Zt _ _).allocS _).drewS|exact(QR _ _ _).drewS)
   have y12:(a==12)=false:=(by simpa using a12);have y9:(a==9)=false:=(by simpa using a9);have y10:(a==10)=false:=(by simpa using a10);have y11:(a==11)=false:=(by simpa using a11);obtain⟨h0,h1,h2,h3,h4,h5⟩:=T.cells;have hlt:=T.box.lt;have HW:Hid (Qq (Za l) qb Zb ⟨9,a,b,type,cls,name⟩=some ([type,type],[type])):=(by unfold Hid;rw[E9];unfold zaA;rw[if_neg a12,if_neg (by omega)];rfl);have HTc:=Xh T;clear T hop hx E1 E14 E2 E3 E9 E10 E11 E12 E15 E16 E17 E18 E24 E25 E26 E27 E28;go_upto_region 18 with fail;go_region
   all_goals
    go_wp2_with fail;go_ret3;exact zj.yes HW.out ((HTc.out.alloc _).alloc _).drew.below (by first|exact((qax _ _ _).allocS _).drewS|exact(qa9 _ _ _ _).drewS) (by first|exact((Zt _ _).allocS _).drewS|exact(QR _ _ _).drewS)
  by_cases c10:op=10
  ·subst c10;rcases qd3 (Zdg hx (Or.inr rfl)) with rfl|rfl
   ·have hk:(kI.toList==[73])=true:=(by rw[ByteArray.toList_eq];rfl);obtain⟨h0,h1,h2,h3,h4,h5⟩:=T.cells;have hlt:=T.box.lt;have HW:Hid (Qq (Za l) qb Zb ⟨10,a,b,kI,cls,name⟩=some ([kJ],[kI])):=(by unfold Hid;rw[E10];unfold Zae;rw[hk];rfl);have HTc:=Xh T;clear T hop hx E1 E14 E2 E3 E9 E10 E11 E12 E15 E16 E17 E18 E24 E25 E26 E27 E28;go_wp2_with fail;go_ret3;exact zj.yes HW.out ((HTc.out.alloc _).alloc _).below ((Zt _ _).allocS _) (QR _ _ _)
   ·have hk:(kJ.toList==[73])=false:=(by rw[ByteArray.toList_eq];rfl);obtain⟨h0,h1,h2,h3,h4,h5⟩:=T.cells;have hlt:=T.box.lt;have HW:Hid (Qq (Za l) qb Zb ⟨10,a,b,kJ,cls,name⟩=some ([kI],[kJ])):=(by unfold Hid;rw[E10];unfold Zae;rw[hk];rfl);have HTc:=Xh T;clear T hop hx E1 E14 E2 E3 E9 E10 E11 E12 E15 E16 E17 E18 E24 E25 E26 E27 E28;go_wp2_with fail;go_ret3;exact zj.yes HW.out ((HTc.out.alloc _).alloc _).below ((Zt _ _).allocS _) (QR _ _ _)
  by_cases c11:op=11
  ·subst c11;obtain⟨h0,h1,h2,h3,h4,h5⟩:=T.cells;have hlt:=T.box.lt;have HW:Hid (Qq (Za l) qb Zb ⟨11,a,b,type,cls,name⟩=some ([kJ,kJ],[kI])):=E11;have HTc:=Xh T;clear T hop hx E1 E14 E2 E3 E9 E10 E11 E12 E15 E16 E17 E18 E24 E25 E26 E27 E28;go_wp2_with fail;go_ret3;exact zj.yes HW.out ((HTc.out.alloc _).alloc _).below ((qax _ _ _).allocS _) (QR _ _ _)
  by_cases c12:op=12
  ·subst c12;obtain⟨h0,h1,h2,h3,h4,h5⟩:=T.cells;have hlt:=T.box.lt;have HW:Hid (Qq (Za l) qb Zb ⟨12,a,b,type,cls,name⟩=some ([kI],[])):=E12;have HTc:=Xh T;clear T hop hx E1 E14 E2 E3 E9 E10 E11 E12 E15 E16 E17 E18 E24 E25 E26 E27 E28;go_wp2_with fail;go_ret3;exact zj.yes HW.out (HTc.out.alloc _).below (Zt _ _) (QP _)
  by_cases c15:op=15
  ·subst c15;cases is with
   |false =>
    obtain⟨h0,h1,h2,h3,h4,h5⟩:=T.cells;have hlt:=T.box.lt;have HW:Hid (Qq (Za l) qb Zb ⟨15,a,b,type,cls,name⟩=none):=(by unfold Hid;rw[E15,HIs.out];rfl);have HTc:=Xh T;clear T hop hx E1 E14 E2 E3 E9 E10 E11 E12 E15 E16 E17 E18 E24 E25 E26 E27 E28;go_upto_region 29 with((go_fit (HCO.out _ HTc.out.below);rintro e w3⟨p1,k1,p2,k2,p3,k3,rfl,_,_,_,hB3,_⟩;(have T3:=HTc.out.step hB3);(have hl3:=T3.box.lt);(have q3:(w3.alloc (.cells #[.string n2,.string s2,.slice p1 f2.length k1,.bool b2,.slice p2 d2.length k2,.slice p3 m2.length k3] 36)).cell? ⟨w3.heap.size,3,none⟩=some (.bool b2):=(Blk.new w3 36 [.string n2,.string s2,.slice p1 f2.length k1,.bool b2,.slice p2 d2.length k2,.slice p3 m2.length k3]).cell 3)))
    go_region
    all_goals
     go_wp2_with fail;go_ret3;exact zj.no HW.out ((T3.alloc _).alloc _).drew.below
   |true =>
    have hcl':(qh (Za l) cls).face=b2:=(by show((Qc (Za l) cls).getD zg).face=b2;rw[HD.out]);cases b2 with
    |true =>
     obtain⟨h0,h1,h2,h3,h4,h5⟩:=T.cells;have hlt:=T.box.lt;have HW:Hid (Qq (Za l) qb Zb ⟨15,a,b,type,cls,name⟩=none):=(by unfold Hid;rw[E15,HIs,hcl'];rfl);have HTc:=Xh T;clear T hop hx E1 E14 E2 E3 E9 E10 E11 E12 E15 E16 E17 E18 E24 E25 E26 E27 E28;go_upto_region 29 with((go_fit (HCO.out _ HTc.out.below);rintro e w3⟨p1,k1,p2,k2,p3,k3,rfl,_,_,_,hB3,_⟩;(have T3:=HTc.out.step hB3);(have hl3:=T3.box.lt);(have q3:(w3.alloc (.cells #[.string n2,.string s2,.slice p1 f2.length k1,.bool true,.slice p2 d2.length k2,.slice p3 m2.length k3] 36)).cell? ⟨w3.heap.size,3,none⟩=some (.bool true):=(Blk.new w3 36 [.string n2,.string s2,.slice p1 f2.length k1,.bool true,.slice p2 d2.length k2,.slice p3 m2.length k3]).cell 3)))
     go_region
     all_goals
      go_wp2_with fail;go_ret3;exact zj.no HW.out ((T3.alloc _).alloc _).drew.below
    |false =>
     obtain⟨h0,h1,h2,h3,h4,h5⟩:=T.cells;have hlt:=T.box.lt;have HW:Hid (Qq (Za l) qb Zb ⟨15,a,b,type,cls,name⟩=some ([],[Zd cls])):=(by unfold Hid;rw[E15,HIs,hcl'];rfl);have HTc:=Xh T;clear T hop hx E1 E14 E2 E3 E9 E10 E11 E12 E15 E16 E17 E18 E24 E25 E26 E27 E28;go_upto_region 29 with((go_fit (HCO.out _ HTc.out.below);rintro e w3⟨p1,k1,p2,k2,p3,k3,rfl,_,_,_,hB3,_⟩;(have T3:=HTc.out.step hB3);(have hl3:=T3.box.lt);(have q3:(w3.alloc (.cells #[.string n2,.string s2,.slice p1 f2.length k1,.bool false,.slice p2 d2.length k2,.slice p3 m2.length k3] 36)).cell? ⟨w3.heap.size,3,none⟩=some (.bool false):=(Blk.new w3 36 [.string n2,.string s2,.slice p1 f2.length k1,.bool false,.slice p2 d2.length k2,.slice p3 m2.length k3]).cell 3)))
     go_region
     all_goals
      go_wp2_with fail;go_ret3;exact zj.yes HW.out ((T3.alloc _).alloc _).drew.below (QP _) (QR _ _ _).drewS
  by_cases c16:op=16
  ·subst c16;cases is with
   |false =>
    obtain⟨h0,h1,h2,h3,h4,h5⟩:=T.cells;have hlt:=T.box.lt;have HW:Hid (Qq (Za l) qb Zb ⟨16,a,b,type,cls,name⟩=none):=(by unfold Hid;rw[E16,Zcc (by rw[HIs.out];decide)];rfl);have HTc:=Xh T;clear T hop hx E1 E14 E2 E3 E9 E10 E11 E12 E15 E16 E17 E18 E24 E25 E26 E27 E28;go_wp2_with fail;go_ret3;exact zj.no HW.out HTc.out.below
   |true =>
    have HFO:Hid (∀wx,Below w.heap.size w wx->_):=fun wx hb=>qa3 l (.slice pl l.length cap) cls name wx HRi.out (HLv.out.mono hb) HIs.out
    have HKn:=Xh (Zal HCf.out HIs.out);cases hf:Zam (Za l) cls name with
    |none =>
     rw[hf]at HFO;unfold QaP at HFO;obtain⟨h0,h1,h2,h3,h4,h5⟩:=T.cells;have hlt:=T.box.lt;have HW:Hid (Qq (Za l) qb Zb ⟨16,a,b,type,cls,name⟩=none):=(by unfold Hid;rw[E16,QbP hf];rfl);have HTc:=Xh T;clear T hop hx E1 E14 E2 E3 E9 E10 E11 E12 E15 E16 E17 E18 E24 E25 E26 E27 E28;clear hf;go_wp2_with (first|(go_fit (HFO.out _ HTc.out.below);rintro e w3⟨rfl,hB3⟩;(have T3:=HTc.out.step hB3);(have hl3:=T3.box.lt);(have T4:=T3.alloc (.cells #[.string ⟨#[]⟩,.string ⟨#[]⟩] 130));(obtain⟨g0,g1,g2,g3,g4,g5⟩:=T4.cells);(obtain⟨r0,r1⟩:=(Blk.new w3 130 [.string ⟨#[]⟩,.string ⟨#[]⟩]).cells2)))
     go_ret3;exact zj.no HW.out T4.below
    |some cf =>
     obtain⟨fc,f⟩:=cf;rw[hf]at HFO;unfold QaP at HFO;have hfs:f.type.size<=maxLen:=Qby HCf.out hf;have HKf:Hid (∀wx,Below w.heap.size w wx->_):=fun wx hb=>ZU l (.slice pl l.length cap) f.type wx (HLv.out.mono hb) hfs
     by_cases hz:zd (Za l) f.type=0
     ·rw[hz]at HKf;obtain⟨h0,h1,h2,h3,h4,h5⟩:=T.cells;have hlt:=T.box.lt;have HW:Hid (Qq (Za l) qb Zb ⟨16,a,b,type,cls,name⟩=some ([Zd cls],[f.type])):=(by unfold Hid;rw[E16,zbQ HKn.out hf hz];rfl);have HTc:=Xh T;clear T hop hx E1 E14 E2 E3 E9 E10 E11 E12 E15 E16 E17 E18 E24 E25 E26 E27 E28;clear hf hz hfs;go_upto_region 38 with(first|(go_fit (HFO.out _ HTc.out.below);rintro e w3⟨rfl,hB3⟩;(have T3:=HTc.out.step hB3);(have hl3:=T3.box.lt);(have T4:=T3.alloc (.cells #[.string f.name,.string f.type] 130));(obtain⟨g0,g1,g2,g3,g4,g5⟩:=T4.cells);(obtain⟨r0,r1⟩:=(Blk.new w3 130 [.string f.name,.string f.type]).cells2))|(go_fit (HKf.out _ T4.below);rintro e w5⟨rfl,hB5⟩;(have T5:=T4.step hB5);(have hl5:=T5.box.lt);(have hl6:w3.heap.size<w5.heap.size:=(Blk.step (Blk.new w3 130 [.string f.name,.string f.type]) hB5).lt);(obtain⟨j0,j1,j2,j3,j4,j5⟩:=T5.cells);(obtain⟨s0,s1⟩:=(Blk.step (Blk.new w3 130 [.string f.name,.string f.type]) hB5).cells2)))
      go_region
      all_goals
       go_wp2_with fail;go_ret3;exact zj.yes HW.out ((T5.alloc _).alloc _).drew.below (by first|exact((Zt _ _).allocS _).drewS|exact(QR _ _ _).drewS) (by first|exact((Zt _ _).allocS _).drewS|exact(QR _ _ _).drewS)
     ·have hzb:(((zd (Za l) f.type:Nat):Int) != 0)=true:=(by simpa using hz);obtain⟨h0,h1,h2,h3,h4,h5⟩:=T.cells;have hlt:=T.box.lt;have HW:Hid (Qq (Za l) qb Zb ⟨16,a,b,type,cls,name⟩=none):=(by unfold Hid;rw[E16,qcc hf hz];rfl);have HTc:=Xh T;clear T hop hx E1 E14 E2 E3 E9 E10 E11 E12 E15 E16 E17 E18 E24 E25 E26 E27 E28;clear hf hz hfs;generalize zd (Za l) f.type=fk at *;go_wp2_with (first|(go_fit (HFO.out _ HTc.out.below);rintro e w3⟨rfl,hB3⟩;(have T3:=HTc.out.step hB3);(have hl3:=T3.box.lt);(have T4:=T3.alloc (.cells #[.string f.name,.string f.type] 130));(obtain⟨g0,g1,g2,g3,g4,g5⟩:=T4.cells);(obtain⟨r0,r1⟩:=(Blk.new w3 130 [.string f.name,.string f.type]).cells2))|(go_fit (HKf.out _ T4.below);rintro e w5⟨rfl,hB5⟩;(have T5:=T4.step hB5);(have hl5:=T5.box.lt);(have hl6:w3.heap.size<w5.heap.size:=(Blk.step (Blk.new w3 130 [.string f.name,.string f.type]) hB5).lt);(obtain⟨j0,j1,j2,j3,j4,j5⟩:=T5.cells);(obtain⟨s0,s1⟩:=(Blk.step (Blk.new w3 130 [.string f.name,.string f.type]) hB5).cells2)))
      go_ret3;exact zj.no HW.out T5.below
  by_cases c17:op=17
  ·subst c17;cases is with
   |false =>
    obtain⟨h0,h1,h2,h3,h4,h5⟩:=T.cells;have hlt:=T.box.lt;have HW:Hid (Qq (Za l) qb Zb ⟨17,a,b,type,cls,name⟩=none):=(by unfold Hid;rw[E17,Zcc (by rw[HIs.out];decide)];rfl);have HTc:=Xh T;clear T hop hx E1 E14 E2 E3 E9 E10 E11 E12 E15 E16 E17 E18 E24 E25 E26 E27 E28;go_wp2_with fail;go_ret3;exact zj.no HW.out HTc.out.below
   |true =>
    have HFO:Hid (∀wx,Below w.heap.size w wx->_):=fun wx hb=>qa3 l (.slice pl l.length cap) cls name wx HRi.out (HLv.out.mono hb) HIs.out
    have HKn:=Xh (Zal HCf.out HIs.out);cases hf:Zam (Za l) cls name with
    |none =>
     rw[hf]at HFO;unfold QaP at HFO;obtain⟨h0,h1,h2,h3,h4,h5⟩:=T.cells;have hlt:=T.box.lt;have HW:Hid (Qq (Za l) qb Zb ⟨17,a,b,type,cls,name⟩=none):=(by unfold Hid;rw[E17,QbP hf];rfl);have HTc:=Xh T;clear T hop hx E1 E14 E2 E3 E9 E10 E11 E12 E15 E16 E17 E18 E24 E25 E26 E27 E28;clear hf;go_wp2_with (first|(go_fit (HFO.out _ HTc.out.below);rintro e w3⟨rfl,hB3⟩;(have T3:=HTc.out.step hB3);(have hl3:=T3.box.lt);(have T4:=T3.alloc (.cells #[.string ⟨#[]⟩,.string ⟨#[]⟩] 130));(obtain⟨g0,g1,g2,g3,g4,g5⟩:=T4.cells);(obtain⟨r0,r1⟩:=(Blk.new w3 130 [.string ⟨#[]⟩,.string ⟨#[]⟩]).cells2)))
     go_ret3;exact zj.no HW.out T4.below
    |some cf =>
     obtain⟨fc,f⟩:=cf;rw[hf]at HFO;unfold QaP at HFO;have hfs:f.type.size<=maxLen:=Qby HCf.out hf;have HKf:Hid (∀wx,Below w.heap.size w wx->_):=fun wx hb=>ZU l (.slice pl l.length cap) f.type wx (HLv.out.mono hb) hfs
     by_cases hz:zd (Za l) f.type=0
     ·rw[hz]at HKf;obtain⟨h0,h1,h2,h3,h4,h5⟩:=T.cells;have hlt:=T.box.lt;have HW:Hid (Qq (Za l) qb Zb ⟨17,a,b,type,cls,name⟩=some ([f.type,Zd cls],[])):=(by unfold Hid;rw[E17,zbQ HKn.out hf hz];rfl);have HTc:=Xh T;clear T hop hx E1 E14 E2 E3 E9 E10 E11 E12 E15 E16 E17 E18 E24 E25 E26 E27 E28;clear hf hz hfs;go_wp2_with (first|(go_fit (HFO.out _ HTc.out.below);rintro e w3⟨rfl,hB3⟩;(have T3:=HTc.out.step hB3);(have hl3:=T3.box.lt);(have T4:=T3.alloc (.cells #[.string f.name,.string f.type] 130));(obtain⟨g0,g1,g2,g3,g4,g5⟩:=T4.cells);(obtain⟨r0,r1⟩:=(Blk.new w3 130 [.string f.name,.string f.type]).cells2))|(go_fit (HKf.out _ T4.below);rintro e w5⟨rfl,hB5⟩;(have T5:=T4.step hB5);(have hl5:=T5.box.lt);(have hl6:w3.heap.size<w5.heap.size:=(Blk.step (Blk.new w3 130 [.string f.name,.string f.type]) hB5).lt);(obtain⟨j0,j1,j2,j3,j4,j5⟩:=T5.cells);(obtain⟨s0,s1⟩:=(Blk.step (Blk.new w3 130 [.string f.name,.string f.type]) hB5).cells2)))
      go_ret3;exact zj.yes HW.out (T5.alloc _).below (qax _ _ _) (QP _)
     ·have hzb:(((zd (Za l) f.type:Nat):Int) != 0)=true:=(by simpa using hz);obtain⟨h0,h1,h2,h3,h4,h5⟩:=T.cells;have hlt:=T.box.lt;have HW:Hid (Qq (Za l) qb Zb ⟨17,a,b,type,cls,name⟩=none):=(by unfold Hid;rw[E17,qcc hf hz];rfl);have HTc:=Xh T;clear T hop hx E1 E14 E2 E3 E9 E10 E11 E12 E15 E16 E17 E18 E24 E25 E26 E27 E28;clear hf hz hfs;generalize zd (Za l) f.type=fk at *;go_wp2_with (first|(go_fit (HFO.out _ HTc.out.below);rintro e w3⟨rfl,hB3⟩;(have T3:=HTc.out.step hB3);(have hl3:=T3.box.lt);(have T4:=T3.alloc (.cells #[.string f.name,.string f.type] 130));(obtain⟨g0,g1,g2,g3,g4,g5⟩:=T4.cells);(obtain⟨r0,r1⟩:=(Blk.new w3 130 [.string f.name,.string f.type]).cells2))|(go_fit (HKf.out _ T4.below);rintro e w5⟨rfl,hB5⟩;(have T5:=T4.step hB5);(have hl5:=T5.box.lt);(have hl6:w3.heap.size<w5.heap.size:=(Blk.step (Blk.new w3 130 [.string f.name,.string f.type]) hB5).lt);(obtain⟨j0,j1,j2,j3,j4,j5⟩:=T5.cells);(obtain⟨s0,s1⟩:=(Blk.step (Blk.new w3 130 [.string f.name,.string f.type]) hB5).cells2)))
      go_ret3;exact zj.no HW.out T5.below
  by_cases c18:op=18
  ·subst c18;have hty1:ty=true:=(by rw[<-HTy.out];exact zaU hx (Or.inl rfl));subst hty1;by_cases hz:kt=0
   ·subst hz;have hkz:(decide ((0:Nat)=0)&&true)=true:=rfl;rw[hkz]at *;obtain⟨h0,h1,h2,h3,h4,h5⟩:=T.cells;have hlt:=T.box.lt;have HW:Hid (Qq (Za l) qb Zb ⟨18,a,b,type,cls,name⟩=some ([kI],[QE type])):=(by unfold Hid;rw[E18,HKT.out];rfl);have HTc:=Xh T;clear T hop hx E1 E14 E2 E3 E9 E10 E11 E12 E15 E16 E17 E18 E24 E25 E26 E27 E28;clear hkz;go_upto_region 41 with fail;go_region
    all_goals
     go_wp2_with fail;go_ret3;exact zj.yes HW.out ((HTc.out.alloc _).alloc _).drew.below (by first|exact((Zt _ _).allocS _).drewS|exact(QR _ _ _).drewS) (by first|exact((Zt _ (QE type)).allocS _).drewS|exact(QR _ (QE type) _).drewS)
   ·have hkz:(decide (kt=0)&&true)=false:=(by rw[Xi hz];rfl);rw[hkz]at *;obtain⟨h0,h1,h2,h3,h4,h5⟩:=T.cells;have hlt:=T.box.lt;have HW:Hid (Qq (Za l) qb Zb ⟨18,a,b,type,cls,name⟩=none):=(by unfold Hid;rw[E18,HKT,if_neg hz]);have HTc:=Xh T;clear T hop hx E1 E14 E2 E3 E9 E10 E11 E12 E15 E16 E17 E18 E24 E25 E26 E27 E28;clear hkz;go_upto_region 41 with fail;go_region
    all_goals
     go_wp2_with fail;go_ret3;exact zj.no HW.out ((HTc.out.alloc _).alloc _).drew.below
  by_cases c24:op=24
  ·subst c24;have HCW:Hid (∀wx,Below w.heap.size w wx->_):=fun wx hb=>zbf l (.slice pl l.length cap) HRi.out HCf.out wx (HLv.out.mono hb) qb 24 a b type cls name false rfl rfl hty hcl (zct hx (Or.inl rfl))
   cases hq:Qay (Za l) qb cls name type false with
   |none =>
    rw[hq]at HCW;obtain⟨h0,h1,h2,h3,h4,h5⟩:=T.cells;have hlt:=T.box.lt;have HW:Hid (Qq (Za l) qb Zb ⟨24,a,b,type,cls,name⟩=none):=E24.trans hq;have HTc:=Xh T;clear T hop hx E1 E14 E2 E3 E9 E10 E11 E12 E15 E16 E17 E18 E24 E25 E26 E27 E28;go_wp2_with (first|(go_fit (HCW.out _ HTc.out.below);rintro e w3⟨hB3,hP⟩;rcases hP with⟨-,v1,v2,rfl⟩|⟨_,_,_,_,h,_⟩;rotate_left;(cases h)))
    go_ret3;exact zj.no HW.out (Qa HTc.out.below Xl hB3)
   |some q =>
    obtain⟨ks,ps⟩:=q;rw[hq]at HCW;obtain⟨h0,h1,h2,h3,h4,h5⟩:=T.cells;have hlt:=T.box.lt;have HW:Hid (Qq (Za l) qb Zb ⟨24,a,b,type,cls,name⟩=some (ks,ps)):=E24.trans hq;have HTc:=Xh T;clear T hop hx E1 E14 E2 E3 E9 E10 E11 E12 E15 E16 E17 E18 E24 E25 E26 E27 E28;go_wp2_with (first|(go_fit (HCW.out _ HTc.out.below);rintro e w3⟨hB3,hP⟩;rcases hP with⟨h,_⟩|⟨_,_,v1,v2,he,rfl,hs1,hs2⟩;(cases h);(injection he with he;injection he with e1 e2;subst e1 e2)))
    go_ret3;exact zj.yes HW.out (Qa HTc.out.below Xl hB3) hs1 hs2
  by_cases c25:op=25
  ·subst c25;have HCW:Hid (∀wx,Below w.heap.size w wx->_):=fun wx hb=>zbf l (.slice pl l.length cap) HRi.out HCf.out wx (HLv.out.mono hb) qb 25 a b type cls name true rfl rfl hty hcl (zct hx (Or.inr rfl))
   cases hq:Qay (Za l) qb cls name type true with
   |none =>
    rw[hq]at HCW;obtain⟨h0,h1,h2,h3,h4,h5⟩:=T.cells;have hlt:=T.box.lt;have HW:Hid (Qq (Za l) qb Zb ⟨25,a,b,type,cls,name⟩=none):=E25.trans hq;have HTc:=Xh T;clear T hop hx E1 E14 E2 E3 E9 E10 E11 E12 E15 E16 E17 E18 E24 E25 E26 E27 E28;go_wp2_with (first|(go_fit (HCW.out _ HTc.out.below);rintro e w3⟨hB3,hP⟩;rcases hP with⟨-,v1,v2,rfl⟩|⟨_,_,_,_,h,_⟩;rotate_left;(cases h)))
    go_ret3;exact zj.no HW.out (Qa HTc.out.below Xl hB3)
   |some q =>
    obtain⟨ks,ps⟩:=q;rw[hq]at HCW;obtain⟨h0,h1,h2,h3,h4,h5⟩:=T.cells;have hlt:=T.box.lt;have HW:Hid (Qq (Za l) qb Zb ⟨25,a,b,type,cls,name⟩=some (ks,ps)):=E25.trans hq;have HTc:=Xh T;clear T hop hx E1 E14 E2 E3 E9 E10 E11 E12 E15 E16 E17 E18 E24 E25 E26 E27 E28;go_wp2_with (first|(go_fit (HCW.out _ HTc.out.below);rintro e w3⟨hB3,hP⟩;rcases hP with⟨h,_⟩|⟨_,_,v1,v2,he,rfl,hs1,hs2⟩;(cases h);(injection he with he;injection he with e1 e2;subst e1 e2)))
    go_ret3;exact zj.yes HW.out (Qa HTc.out.below Xl hB3) hs1 hs2
  by_cases c26:op=26
  ·subst c26;cases hv:(Zb.toList==[86]) with
   |true =>
    obtain⟨h0,h1,h2,h3,h4,h5⟩:=T.cells;have hlt:=T.box.lt;have HW:Hid (Qq (Za l) qb Zb ⟨26,a,b,type,cls,name⟩=some ([],[])):=(by unfold Hid;rw[E26,hv];rfl);have HTc:=Xh T;clear T hop hx E1 E14 E2 E3 E9 E10 E11 E12 E15 E16 E17 E18 E24 E25 E26 E27 E28;go_wp2_with fail;go_ret3;exact zj.yes HW.out HTc.out.below (QP _) (QP _)
   |false =>
    obtain⟨h0,h1,h2,h3,h4,h5⟩:=T.cells;have hlt:=T.box.lt;have HW:Hid (Qq (Za l) qb Zb ⟨26,a,b,type,cls,name⟩=none):=(by unfold Hid;rw[E26,hv];rfl);have HTc:=Xh T;clear T hop hx E1 E14 E2 E3 E9 E10 E11 E12 E15 E16 E17 E18 E24 E25 E26 E27 E28;go_wp2_with fail;go_ret3;exact zj.no HW.out HTc.out.below
  by_cases c27:op=27
  ·subst c27;cases hv:(Zb.toList==[86]) with
   |true =>
    obtain⟨h0,h1,h2,h3,h4,h5⟩:=T.cells;have hlt:=T.box.lt;have HW:Hid (Qq (Za l) qb Zb ⟨27,a,b,type,cls,name⟩=none):=(by unfold Hid;rw[E27,hv];rfl);have HTc:=Xh T;clear T hop hx E1 E14 E2 E3 E9 E10 E11 E12 E15 E16 E17 E18 E24 E25 E26 E27 E28;go_wp2_with fail;go_ret3;exact zj.no HW.out (HTc.out.alloc _).below
   |false =>
    have HKg:Hid (∀wx,Below w.heap.size w wx->_):=fun wx hb=>ZU l (.slice pl l.length cap) Zb wx (HLv.out.mono hb) hgs
    by_cases hz:zd (Za l) Zb=0
    ·rw[hz]at HKg;obtain⟨h0,h1,h2,h3,h4,h5⟩:=T.cells;have hlt:=T.box.lt;have HW:Hid (Qq (Za l) qb Zb ⟨27,a,b,type,cls,name⟩=some ([Zb],[])):=(by unfold Hid;rw[E27,hv,hz];rfl);have HTc:=Xh T;clear T hop hx E1 E14 E2 E3 E9 E10 E11 E12 E15 E16 E17 E18 E24 E25 E26 E27 E28;clear hz;go_wp2_with (first|(go_fit (HKg.out _ (HTc.out.alloc _).below);rintro e w5⟨rfl,hB5⟩))
     go_ret3;exact zj.yes HW.out (Qa (HTc.out.alloc _).below Xl hB5) ((Zt _ _).mono hB5) (QP _)
    ·have hzb:(((zd (Za l) Zb:Nat):Int)==0)=false:=(by simpa using hz);obtain⟨h0,h1,h2,h3,h4,h5⟩:=T.cells;have hlt:=T.box.lt;have HW:Hid (Qq (Za l) qb Zb ⟨27,a,b,type,cls,name⟩=none):=(by unfold Hid;rw[E27,hv,if_neg (by decide),if_neg hz]);have HTc:=Xh T;clear T hop hx E1 E14 E2 E3 E9 E10 E11 E12 E15 E16 E17 E18 E24 E25 E26 E27 E28;clear hz;generalize zd (Za l) Zb=fk at *;go_wp2_with (first|(go_fit (HKg.out _ (HTc.out.alloc _).below);rintro e w5⟨rfl,hB5⟩))
     go_ret3;exact zj.no HW.out (Qa (HTc.out.alloc _).below Xl hB5)
  by_cases c28:op=28
  ·subst c28;obtain⟨h0,h1,h2,h3,h4,h5⟩:=T.cells;have hlt:=T.box.lt;have HW:Hid (Qq (Za l) qb Zb ⟨28,a,b,type,cls,name⟩=some ([Zd qae],[])):=E28;have HTc:=Xh T;clear T hop hx E1 E14 E2 E3 E9 E10 E11 E12 E15 E16 E17 E18 E24 E25 E26 E27 E28;go_wp2_with (first|(go_fit (HThF.out _);rintro e w5⟨rfl,rfl⟩))
   go_ret3;exact zj.yes HW.out (HTc.out.alloc _).below (Zt _ _) (QP _)
  exact absurd (ZdH hx) (by unfold Q9 at hop;omega)
set_option maxRecDepth 512
end Go.Proofs.YtlmfmioljeppfaaGreatDoor
