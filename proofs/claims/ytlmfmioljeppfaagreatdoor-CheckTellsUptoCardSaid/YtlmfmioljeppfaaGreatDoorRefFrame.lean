/- Lemmas; conditions: as each states. -/
import Derived.Test.YtlmfmioljeppfaaGreatDoorRefFind
set_option maxHeartbeats 4000000
namespace Go.Proofs.YtlmfmioljeppfaaGreatDoor
open Go.RowKit Go.Shelf Go.Lib
theorem qeg(k:Nat)(hk:k≠0)(w:World):Calls Tryz.prog 18 #[.iface 29 (.int .i64 k),.int .i64 k] w fun e w'=>e=.returned (.bool true)/\w=w':=by
 have:=qbC k k w;rcases QI k with⟨_,h⟩|⟨h,_⟩
 ·exact absurd h hk
 ·rw[h,Xj rfl]at this;exact this
theorem qej(w:World):Calls Tryz.prog 18 #[.nilIface,.int .i64 0] w fun e w'=>e=.returned (.bool true)/\w=w':=qbC 0 0 w
set_option maxRecDepth 100000
theorem qbd(w:World)(l:List Qb)(lv:Value)(hR:Qj l)(hcf:∀c∈l,qd c=0)(hlv:qi w lv l)(a b:Str)(x y:Kd)(ha:qo x=lst a)(hb:qo y=lst b)(hx:zL (Za l) x=true)(hy:zL (Za l) y=true)(hdx:Zah x<=3)(hdy:Zah y<=3)(hsa:a.size<=4194304)(hsb:b.size<=4194304)(h:x=y\/(x=.n/\qt y=true)\/(y=.n/\qt x=true)\/(qt x=false\/qt y=false)):
 Calls Tryz.prog 148 #[lv,.string a,.string b] w (qak w (Za l) x y (30+a.size+b.size)):=by
 have hE:=Zab ha hb;have hN:=ZP ha .n;have hM:=ZP hb .n;have HA:Hid (∀wx,_):=fun wx=>QD a x wx ha (qP hcf hx hdx) (Xf hsa (by decide))
 have HB:Hid (∀wx,_):=fun wx=>QD b y wx hb (qP hcf hy hdy) (Xf hsb (by decide))
 have hT:=Zdl hR.tree (zaz l) ha hb hx h;obtain⟨pl,cap,rfl,_⟩:=hlv.open;unfold qak;simp only[qo]at hN hM;generalize zS (Za l) x y=r at *;have hor:(decide (x=y)||(decide (x=.n)&&qt y)||(decide (y=.n)&&qt x)||!(qt x)||!(qt y))=true:=by
  rcases h with h|⟨h,g⟩|⟨h,g⟩|h|h<;>simp[*]
 clear hlv hR hcf hdx hdy hsa hsb ha hb hx hy h;generalize decide (x=y)=eE at *;generalize decide (x=.n)=eN at *;generalize decide (y=.n)=eM at *;generalize qt x=rx at *;generalize qt y=ry at *;cases eE<;>cases eN<;>cases eM<;>cases rx<;>cases ry<;>first|(exact absurd hor (by decide))|skip
 all_goals
  clear hor;simp only[if_true,if_false,Bool.and_true,Bool.and_false,Bool.false_eq_true]at hT;have HT:=Xh hT;clear hT;go_enter Tryz.func148,Tryz.ntmps148;go_wp2_with (first
   |(go_fit (HA.out _);rintro e w3⟨rfl,rfl⟩)
   |(go_fit (HB.out _);rintro e w3⟨rfl,rfl⟩))
  go_ret;first
   |exact⟨⟨a,rfl,HT,by omega⟩,Xb⟩
   |exact⟨⟨b,rfl,HT,by omega⟩,Xb⟩
   |exact⟨⟨⟨#[84]⟩,rfl,HT,by show 1<=_;omega⟩,Xb⟩
theorem ZcT(w:World)(l:List Qb)(lv:Value)(hR:Qj l)(hcf:∀c∈l,qd c=0)(hlv:qi w lv l)(a b c d:Str)(ha:Zf (.cl c)=lst a)(hb:Zf (.cl d)=lst b)(hx:(Qc (Za l) c).isSome=true)(hy:(Qc (Za l) d).isSome=true)(hne:c≠d)(hsa:a.size<=4194304)(hsb:b.size<=4194304):
 Calls Tryz.prog 148 #[lv,.string a,.string b] w (qak w (Za l) (.ty (.cl c)) (.ty (.cl d)) (30+a.size+b.size)):=by
 have hE:=Zab (x:=.ty (.cl c)) (y:=.ty (.cl d)) ha hb;have hN:=ZP (x:=.ty (.cl c)) ha .n;have hM:=ZP (x:=.ty (.cl d)) hb .n;simp only[qo]at hN hM;rw[Xi (by intro h;cases h)]at hN hM;rw[Xi (by intro h;injection h with h;injection h with h;exact hne h)]at hE;have ma:a.size<=maxLen:=Xf hsa (by decide);have mb:b.size<=maxLen:=Xf hsb (by decide);have HA:Hid (∀wx,_):=fun wx=>QD a (.ty (.cl c)) wx ha (qP hcf hx (Nat.zero_le _)) ma
 have HB:Hid (∀wx,_):=fun wx=>QD b (.ty (.cl d)) wx hb (qP hcf hy (Nat.zero_le _)) mb
 have HCa:Hid (∀wx,_):=fun wx=>Zaf a (.cl c) wx ha ma
 have HCb:Hid (∀wx,_):=fun wx=>Zaf b (.cl d) wx hb mb
 obtain⟨hpa,fa⟩:=ZK ha;obtain⟨hpb,fb⟩:=ZK hb;have ga:=Zak ha hpa;have gb:=Zak hb hpb;simp only[qt,Ql,qA,QaR,qab,zbP]at HA HCa fa ga HB HCb fb gb;have HLc:Hid (∀wx,Below w.heap.size w wx->_):=fun wx hb=>Qad l lv hR _ c wx (hlv.mono hb) hx Xl
 have HLd:Hid (∀wx,Below w.heap.size w wx->_):=fun wx hb=>Qad l lv hR _ d wx (hlv.mono hb) hy Xl
 unfold qaj at HLc HLd;have HOc:Hid (∀wx,Below w.heap.size w wx->_):=fun wx hb=>QA l lv c wx (hlv.mono hb)
 have HOd:Hid (∀wx,Below w.heap.size w wx->_):=fun wx hb=>QA l lv d wx (hlv.mono hb)
 unfold qJ at HOc HOd;have hnc:(qh (Za l) c).name=c:=by
  obtain⟨e,he⟩:=Option.isSome_iff_exists.1 hx;unfold qh;rw[he];have:=List.find?_some he;simpa using this
 have hnd:(qh (Za l) d).name=d:=by
  obtain⟨e,he⟩:=Option.isSome_iff_exists.1 hy;unfold qh;rw[he];have:=List.find?_some he;simpa using this
 have hcl:=hR.classes hx hy hne;have hlca:=zbs hcf (hR.tree.known c _ hx (hR.tree.lub1 c d hx hy).1);unfold qak;rw[Qck];rw[show(Qc (Za l) c).getD zg=qh (Za l) c from rfl]at HOc;rw[show(Qc (Za l) d).getD zg=qh (Za l) d from rfl]at HOd;obtain⟨pl,cap,rfl,_⟩:=hlv.open;have hlcd:zba (Za l) c d=zah (Zq (Za l) d) (Zq (Za l) c):=rfl;have hfinT:Hid (∀z:Str,z.size<=20->(Zd z).size<=30+a.size+b.size):=fun z h=>by rw[qam];omega
 have hfinO:Hid (qbI.size<=30+a.size+b.size):=by unfold Hid;show 8<=_;omega
 clear hlv hR hcf ha hb hx hy hne hsa hsb ma mb;generalize (Qc (Za l) c).isSome=ic at *;generalize (Qc (Za l) d).isSome=id at *;generalize qh (Za l) c=x at *;generalize qh (Za l) d=y at *;generalize Zq (Za l) c=Lc at *;generalize Zq (Za l) d=Ld at *;generalize zba (Za l) c d=r at *;obtain⟨n1,s1,f1,b1,d1,m1⟩:=x;obtain⟨n2,s2,f2,b2,d2,m2⟩:=y;dsimp only at *;subst hnc hnd;have HLCA:=Xh hlca;have HCL:=Xh hcl;have HRC:=Xh hlcd;clear hlca hcl hlcd;go_enter Tryz.func148,Tryz.ntmps148;go_upto_region 17 with(first
  |(go_fit (HA.out _);rintro e w3⟨rfl,rfl⟩)
  |(go_fit (HB.out _);rintro e w3⟨rfl,rfl⟩)
  |(go_fit (HCa.out _);rintro e w3⟨rfl,rfl⟩)
  |(go_fit (HOc.out _ Xb);rintro e w4⟨p1,k1,p2,k2,p3,k3,rfl,_,_,_,hB4,_⟩))
 have BX:=ZY w4 #[.string n1,.string s1,.slice p1 f1.length k1,.bool b1,.slice p2 d1.length k2,.slice p3 m1.length k3] 36;have hB5:=Qa hB4 Xl BX.below;generalize w4.alloc (.cells #[.string n1,.string s1,.slice p1 f1.length k1,.bool b1,.slice p2 d1.length k2,.slice p3 m1.length k3] 36)=w5 at *;have HBX:=Xh BX;clear BX hB4;go_upto_region 18 with(first
  |(go_fit (HCb.out _);rintro e w3⟨rfl,rfl⟩)
  |(go_fit (HOd.out _ hB5);rintro e w6⟨p4,k4,p5,k5,p6,k6,rfl,_,_,_,hB6,_⟩))
 have BY:=ZY w6 #[.string n2,.string s2,.slice p4 f2.length k4,.bool b2,.slice p5 d2.length k5,.slice p6 m2.length k6] 36;have hB57:=Qa hB6 Xl BY.below;have hB7:=Qa hB5 Xl hB57;generalize w6.alloc (.cells #[.string n2,.string s2,.slice p4 f2.length k4,.bool b2,.slice p5 d2.length k5,.slice p6 m2.length k6] 36)=w7 at *;have HBX7:=Xh (HBX.out.step hB57);have HBY:=Xh BY;clear BY hB6 hB57 HBX hB5;obtain⟨x0,x1,x2,x3,x4,x5⟩:=qM HBX7.out;obtain⟨y0,y1,y2,y3,y4,y5⟩:=qM HBY.out;clear x1 x2 x4 x5 y1 y2 y4 y5;by_cases hbb:(b1||b2)=true
 ·have hro:=HCL.out;rw[if_pos hbb]at hro;subst hro;cases b1<;>cases b2<;>first|(exact absurd hbb (by decide))|skip
  all_goals
   clear hbb;go_wp2_with fail;go_ret;exact⟨⟨_,rfl,rfl,hfinO.out⟩,hB7⟩
 ·rw[Bool.not_eq_true,Bool.or_eq_false_iff]at hbb;obtain⟨rfl,rfl⟩:=hbb;clear HCL;go_upto_region 21 with(go_fit (HLc.out _ hB7);rintro e w8⟨⟨v8,rfl,hv8⟩,hB8⟩;obtain⟨pa,ca,rfl⟩:=qe hv8)
  have HBY8:=Xh (HBY.out.step hB8);have hB8w:=Qa hB7 Xl hB8;clear x0 x3 y0 y3;obtain⟨y0,y1,y2,y3,y4,y5⟩:=qM HBY8.out;clear y1 y2 y3 y4 y5;go_wp2_with (go_fit (HLd.out _ hB8w);rintro e w9⟨⟨v9,rfl,hv9⟩,hB9⟩;obtain⟨pb,cb,rfl⟩:=qe hv9)
  have hs8:=(Ze hv8).mono hB9;have hs9:=Ze hv9;have hB:=Qa hB8w Xl hB9;obtain⟨pa',ca',he,h1,h2,hcc⟩:=hs8.open;injection he with he1 he2 he3
  subst he1 he3;clear he2;have HC:=Xh hcc;have HIn:Hid (∀x,_):=fun x=>qbk Ld _ x w9 hs9
  have hlen:Lc.length<=9223372036854775807:=Xf h1 h2;clear hs8 hs9 hcc hv8 hv9 hB7 hB8 hB8w hB9 HLc HLd y0 HBX7 HBY HBY8;go_loopw [14] (fun x wr=>∃k:Nat,k<=Lc.length/\Hid (zah Ld (Lc.drop k)=zah Ld Lc)/\w9=wr/\x=.int .i64 k) (fun x _=>Lc.length-(intOf x).toNat)
  case atStart=>exact⟨0,by omega,rfl,rfl,rfl⟩
  case round =>
   obtain⟨k,hk,hff,rfl,rfl⟩:=hrel;by_cases hkl:k<Lc.length
   ·obtain⟨z,hz⟩:∃z,Lc[k]? = some z:=⟨Lc[k],by simp[hkl]⟩;obtain⟨bb,oo,vs,rfl,hR,_,qc⟩:=HC.out k z hz;unfold zr at hR;subst hR;have c0:=qc.1;rw[Nat.mul_one]at c0;have Zc:=zb3 Ld Lc k z hz;rw[hff.out]at Zc;have hin:=HIn.out z;have HX:=Xh hz;clear hz qc hff;cases hm:ZL Ld z with
    |true =>
     rw[hm]at hin Zc;replace Zc:zah Ld Lc=z:=Zc;have hrz:r=z:=HRC.out.trans Zc;subst hrz;have hz20:=HLCA.out;have hz1:(⟨#[76]⟩++r:ByteArray).size<=21:=(by rw[ByteArray.size_append];show 1+r.size<=_;omega);have HI1:=Xh hin;clear Zc hin hm;go_wp2_with (go_fit HI1.out;rintro e w5⟨rfl,rfl⟩)
     go_ret;exact⟨⟨Zd r,rfl,(Zbg r).symm,hfinT.out r hz20⟩,hB⟩
    |false =>
     rw[hm]at hin Zc;have hst:Hid (zah Ld (Lc.drop (k+1))=zah Ld Lc):=Zc.symm;have HI1:=Xh hin;clear Zc hin hm;go_wp2_with (go_fit HI1.out;rintro e w5⟨rfl,rfl⟩)
     go_roundw;case rel=>exact⟨k+1,by omega,hst.out,by simp,by simp⟩
     case measure=>simp[intOf];omega
   ·obtain rfl:k=Lc.length:=(by omega);have hno:r=Zg:=(by rw[HRC.out,<-hff.out,Xg Xl];rfl);subst hno;clear hff;go_wp2_with fail;go_ret;exact⟨⟨_,rfl,rfl,hfinO.out⟩,hB⟩
theorem qcT(w:World)(pl:Option Addr)(n cap m:Nat)(T:Str->Prop)(a b a1 b1:Str)(ru rv:Bool)(HA:∀wx,Calls Tryz.prog 78 #[.string a] wx fun e w'=>e=.returned (.bool true)/\wx=w')(HB:∀wx,Calls Tryz.prog 78 #[.string b] wx fun e w'=>e=.returned (.bool true)/\wx=w')(HA2:∀wx,Calls Tryz.prog 78 #[.string a1] wx fun e w'=>e=.returned (.bool ru)/\wx=w')(HB2:∀wx,Calls Tryz.prog 78 #[.string b1] wx fun e w'=>e=.returned (.bool rv)/\wx=w')(HI:(ru&&rv)=true->∀wx,Below w.heap.size w wx->Calls Tryz.prog 148 #[.slice pl n cap,.string a1,.string b1] wx fun e w'=>(∃z,e=.returned (.string z)/\T (QE z)/\z.size<=m)/\Below wx.heap.size wx w')(hrf:(ru&&rv)=false->T qbI)(hm:7<=m)(hm2:m<=9000000)(hpa:0<a.size)(hpb:0<b.size)(ga:(((a[0]'hpa).toNat:Int)==91)=true)(gb:(((b[0]'hpb).toNat:Int)==91)=true)(hxa:a.extract 1 a.size=a1)(hxb:b.extract 1 b.size=b1)(hsa:a.size<=maxLen)(hsb:b.size<=maxLen)(hE:(a.toList==b.toList)=false)(hN:(a.toList==[78])=false)(hM:(b.toList==[78])=false):
 Calls Tryz.prog 148 #[.slice pl n cap,.string a,.string b] w fun e w'=>(∃z,e=.returned (.string z)/\T z/\z.size<=m+1)/\Below w.heap.size w w':=by
 have QA2:Hid (∀wx,Calls Tryz.prog 78 #[.string a1] wx fun e w'=>e=.returned (.bool ru)/\w'=wx):=fun wx=>(HA2 wx).mono fun e w' h=>⟨h.1,h.2.symm⟩
 have QB2:Hid (∀wx,Calls Tryz.prog 78 #[.string b1] wx fun e w'=>e=.returned (.bool rv)/\w'=wx):=fun wx=>(HB2 wx).mono fun e w' h=>⟨h.1,h.2.symm⟩
 replace HA:=Xh HA;replace HB:=Xh HB;replace HA2:=Xh HA2;replace HB2:=Xh HB2;replace HI:=Xh HI;replace hrf:=Xh hrf;unfold maxLen at hsa hsb;have i1:(0:Int)<(a.size:Int):=by omega
 have i2:(0:Int)<(b.size:Int):=by omega
 have i3:(1:Int)<=(a.size:Int):=by omega
 have i4:(1:Int)<=(b.size:Int):=by omega
 by_cases hrr:(ru&&rv)=true
 ·replace HI:=Xh (HI.out hrr);rw[Bool.and_eq_true]at hrr;obtain⟨rfl,rfl⟩:=hrr;clear hrf QA2 QB2;go_enter Tryz.func148,Tryz.ntmps148;go_upto_region 12 with(first
   |(go_fit (HA.out _);rintro e w3⟨rfl,rfl⟩)
   |(go_fit (HB.out _);rintro e w3⟨rfl,rfl⟩)
   |(go_fit (HA2.out _);rintro e w3⟨rfl,rfl⟩)
   |(go_fit (HB2.out _);rintro e w3⟨rfl,rfl⟩))
  refine wp_region_still_tail 5 (by kernel_rfl) (by kernel_rfl) ?_;simp only[List.take_succ_cons,List.take_zero,List.drop_succ_cons,List.drop_zero];repeat still_step
  refine wpStill_nil ?_;change wpList _ _ _ _ _ w.drew;go_wp2_with (go_fit (HI.out _ Xb.drew);rintro e w4⟨⟨z4,rfl,hz4,hs4⟩,hB4⟩)
  go_ret;exact⟨⟨QE z4,rfl,hz4,by rw[zbL];omega⟩,Qa Xb.drew Xl hB4⟩
 ·rw[Bool.not_eq_true]at hrr;replace hrf:=Xh (hrf.out hrr);clear HI QA2 QB2;cases ru<;>cases rv<;>first|(exact absurd hrr (by decide))|skip
  all_goals
   go_enter Tryz.func148,Tryz.ntmps148;go_wp2_with (first
    |(go_fit (HA.out _);rintro e w3⟨rfl,rfl⟩)
    |(go_fit (HB.out _);rintro e w3⟨rfl,rfl⟩)
    |(go_fit (HA2.out _);rintro e w3⟨rfl,rfl⟩)
    |(go_fit (HB2.out _);rintro e w3⟨rfl,rfl⟩))
   go_ret;exact⟨⟨qbI,rfl,hrf.out,by show 8<=_;omega⟩,Xb⟩
theorem Qbd(w:World)(pl:Option Addr)(n cap:Nat)(a b:Str)(p q:Bool)(HA:∀wx,Calls Tryz.prog 78 #[.string a] wx fun e w'=>e=.returned (.bool true)/\wx=w')(HB:∀wx,Calls Tryz.prog 78 #[.string b] wx fun e w'=>e=.returned (.bool true)/\wx=w')(hpa:0<a.size)(hpb:0<b.size)(ga:(((a[0]'hpa).toNat:Int)==91)=p)(gb:(((b[0]'hpb).toNat:Int)==91)=q)(hpq:(p&&q)=false/\(p||q)=true)(hE:(a.toList==b.toList)=false)(hN:(a.toList==[78])=false)(hM:(b.toList==[78])=false):
 Calls Tryz.prog 148 #[.slice pl n cap,.string a,.string b] w fun e w'=>e=.returned (.string qbI)/\w=w':=by
 replace HA:=Xh HA;replace HB:=Xh HB;cases p<;>cases q<;>first|(exact absurd hpq (by decide))|skip
 all_goals
  clear hpq;go_enter Tryz.func148,Tryz.ntmps148;go_wp2_with (first
   |(go_fit (HA.out _);rintro e w3⟨rfl,rfl⟩)
   |(go_fit (HB.out _);rintro e w3⟨rfl,rfl⟩))
  go_ret;exact⟨rfl,rfl⟩
set_option maxRecDepth 512
theorem qdc(l:List Qb)(lv:Value)(hR:Qj l)(hcf:∀c∈l,qd c=0):∀(x:Ty) (w:World) (a b:Str) (y:Ty),qi w lv l->Zf x=lst a->Zf y=lst b->ZH (Za l) x=true->ZH (Za l) y=true->Qp x<=3->Qp y<=3->a.size<=4194304->b.size<=4194304 ->
 Calls Tryz.prog 148 #[lv,.string a,.string b] w (qak w (Za l) (.ty x) (.ty y) (30+a.size+b.size)):=by
 have plain:∀(x:Ty) (w:World) (a b:Str) (y:Ty),qi w lv l->Zf x=lst a->Zf y=lst b->ZH (Za l) x=true->ZH (Za l) y=true->Qp x<=3->Qp y<=3->a.size<=4194304->b.size<=4194304->(x=y\/Ql x=false\/Ql y=false) ->
  Calls Tryz.prog 148 #[lv,.string a,.string b] w (qak w (Za l) (.ty x) (.ty y) (30+a.size+b.size)):=fun x w a b y hm ha hb hx hy hdx hdy hsa hsb h =>
  qbd w l lv hR hcf hm a b (.ty x) (.ty y) ha hb hx hy hdx hdy hsa hsb (by
   rcases h with h|h
   ·exact Or.inl (by rw[h])
   ·exact Or.inr (Or.inr (Or.inr h)))
 have big:∀{s:Str},s.size<=4194304->s.size<=maxLen:=fun h=>Xf h (by decide)
 intro x;induction x with
 |i=>intro w a b y hm ha hb hx hy hdx hdy hsa hsb;exact plain _ w a b y hm ha hb hx hy hdx hdy hsa hsb (Or.inr (Or.inl rfl))
 |j=>intro w a b y hm ha hb hx hy hdx hdy hsa hsb;exact plain _ w a b y hm ha hb hx hy hdx hdy hsa hsb (Or.inr (Or.inl rfl))
 |cl c =>
  intro w a b y hm ha hb hx hy hdx hdy hsa hsb;by_cases he:Ty.cl c=y\/Ql y=false
  ·exact plain _ w a b y hm ha hb hx hy hdx hdy hsa hsb (by rcases he with he|he;exact Or.inl he;exact Or.inr (Or.inr he))
  ·have hne:Ty.cl c≠y:=fun h=>he (Or.inl h)
   cases y with
   |i=>exact absurd (Or.inr rfl) he
   |j=>exact absurd (Or.inr rfl) he
   |cl d=>exact ZcT w l lv hR hcf hm a b c d ha hb hx hy (fun h=>hne (by rw[h])) hsa hsb
   |ar z =>
    have hE:=Zab (x:=.ty (.cl c)) (y:=.ty (.ar z)) ha hb;have hN:=ZP (x:=.ty (.cl c)) ha .n;have hM:=ZP (x:=.ty (.ar z)) hb .n;rw[Xi (by intro h;cases h)]at hE hN hM;obtain⟨hpa,_⟩:=ZK ha;obtain⟨hpb,_⟩:=ZK hb;obtain⟨pl,cap,rfl,_⟩:=hm.open;refine(Qbd w pl _ cap a b false true (fun wx=>QD a (.ty (.cl c)) wx ha (qP hcf hx hdx) (big hsa)) (fun wx=>QD b (.ty (.ar z)) wx hb (qP hcf hy hdy) (big hsb)) hpa hpb (Zak ha hpa) (Zak hb hpb) ⟨rfl,rfl⟩ hE hN hM).mono ?_;rintro e w'⟨rfl,rfl⟩;exact⟨⟨_,rfl,rfl,by show 8<=_;omega⟩,Xb⟩
 |ar u ih =>
  intro w a b y hm ha hb hx hy hdx hdy hsa hsb;by_cases he:Ty.ar u=y\/Ql y=false
  ·exact plain _ w a b y hm ha hb hx hy hdx hdy hsa hsb (by rcases he with he|he;exact Or.inl he;exact Or.inr (Or.inr he))
  ·have hne:Ty.ar u≠y:=fun h=>he (Or.inl h)
   cases y with
   |i=>exact absurd (Or.inr rfl) he
   |j=>exact absurd (Or.inr rfl) he
   |cl d =>
    have hE:=Zab (x:=.ty (.ar u)) (y:=.ty (.cl d)) ha hb;have hN:=ZP (x:=.ty (.ar u)) ha .n;have hM:=ZP (x:=.ty (.cl d)) hb .n;rw[Xi (by intro h;cases h)]at hE hN hM;obtain⟨hpa,_⟩:=ZK ha;obtain⟨hpb,_⟩:=ZK hb;obtain⟨pl,cap,rfl,_⟩:=hm.open;refine(Qbd w pl _ cap a b true false (fun wx=>QD a (.ty (.ar u)) wx ha (qP hcf hx hdx) (big hsa)) (fun wx=>QD b (.ty (.cl d)) wx hb (qP hcf hy hdy) (big hsb)) hpa hpb (Zak ha hpa) (Zak hb hpb) ⟨rfl,rfl⟩ hE hN hM).mono ?_;rintro e w'⟨rfl,rfl⟩;exact⟨⟨_,rfl,rfl,by show 8<=_;omega⟩,Xb⟩
   |ar v =>
    have hE:=Zab (x:=.ty (.ar u)) (y:=.ty (.ar v)) ha hb;have hN:=ZP (x:=.ty (.ar u)) ha .n;have hM:=ZP (x:=.ty (.ar v)) hb .n;rw[Xi (by intro h;cases h)]at hN hM;rw[Xi (by intro h;injection h with h;exact hne h)]at hE;obtain⟨hpa,_⟩:=ZK ha;obtain⟨hpb,_⟩:=ZK hb;obtain⟨ta,tas,hsz1⟩:=Zaa ha;obtain⟨tb,tbs,hsz2⟩:=Zaa hb;have du:Qp u<=3:=(by simp only[Qp]at hdx;omega);have dv:Qp v<=3:=(by simp only[Qp]at hdy;omega);have es1:(a.extract 1 a.size).size=a.size-1:=(by rw[ByteArray.size_extract];omega);have es2:(b.extract 1 b.size).size=b.size-1:=(by rw[ByteArray.size_extract];omega);have huv:u≠v:=fun h=>hne (by rw[h])
    have HI:∀wx,Below w.heap.size w wx->_:=fun wx hb=>ih wx (a.extract 1 a.size) (b.extract 1 b.size) v (hm.mono hb) ta tb hx hy du dv (Xf tas hsa) (Xf tbs hsb)
    have HA:=fun wx=>QD a (.ty (.ar u)) wx ha (qP hcf hx hdx) (big hsa)
    have HB:=fun wx=>QD b (.ty (.ar v)) wx hb (qP hcf hy hdy) (big hsb)
    have HA2:=fun wx=>QD (a.extract 1 a.size) (.ty u) wx ta (qP hcf hx du) (big (Xf tas hsa))
    have HB2:=fun wx=>QD (b.extract 1 b.size) (.ty v) wx tb (qP hcf hy dv) (big (Xf tbs hsb))
    obtain⟨pl,cap,rfl,_⟩:=hm.open;refine(qcT w pl _ cap (29+a.size+b.size) (fun z=>qo (zS (Za l) (.ty (.ar u)) (.ty (.ar v)))=lst z) a b _ _ (Ql u) (Ql v) HA HB HA2 HB2 ?_ ?_ (by omega) (by omega) hpa hpb (Zak ha hpa) (Zak hb hpb) rfl rfl (big hsa) (big hsb) hE hN hM).mono ?_
    ·intro hr wx hb;rw[Bool.and_eq_true]at hr;obtain⟨z,hz1,hz2⟩:=qcK (cs:=Za l) hr.1 hr.2;refine(HI wx hb).mono ?_;rintro e w'⟨⟨z4,rfl,hz4,hs4⟩,hB4⟩;rw[hz1]at hz4;exact⟨⟨z4,rfl,by rw[hz2,za0,<-hz4];rfl,by omega⟩,hB4⟩
    ·intro hr;rw[Zbc huv (by cases hu:Ql u<;>cases hv:Ql v<;>simp[hu,hv]at hr ⊢)];rfl
    ·rintro e w'⟨⟨z4,rfl,hz4,hs4⟩,hB4⟩;exact⟨⟨z4,rfl,hz4,by omega⟩,hB4⟩
theorem QcT(l:List Qb)(lv:Value)(hR:Qj l)(hcf:∀c∈l,qd c=0)(w:World)(hm:qi w lv l)(a b:Str)(x y:Kd)(ha:zaX (Za l) a x)(hb:zaX (Za l) b y)(hdx:Zah x<=3)(hdy:Zah y<=3)(hsa:a.size<=4194304)(hsb:b.size<=4194304):
 Calls Tryz.prog 148 #[lv,.string a,.string b] w (qak w (Za l) x y (30+a.size+b.size)):=by
 have plain:=qbd w l lv hR hcf hm a b x y ha.1 hb.1 ha.2 hb.2 hdx hdy hsa hsb;cases x with
 |n=>exact plain (Or.inr (Or.inr (Or.inr (Or.inl rfl))))
 |t=>exact plain (Or.inr (Or.inr (Or.inr (Or.inl rfl))))
 |ty u =>
  cases y with
  |n=>exact plain (Or.inr (Or.inr (Or.inr (Or.inr rfl))))
  |t=>exact plain (Or.inr (Or.inr (Or.inr (Or.inr rfl))))
  |ty v=>exact qdc l lv hR hcf u w a b v hm ha.1 hb.1 ha.2 hb.2 hdx hdy hsa hsb
theorem qbw(a b:List Str)(va vb:Value)(w:World)(ha:Qh w va a)(hb:Qh w vb b):Calls Tryz.prog 105 #[va,vb] w fun e w'=>e=.returned (.bool (decide (a=b)))/\Below w.heap.size w w':=by
 obtain⟨p,cap,rfl,h1,h2,hcc⟩:=ha.open;obtain⟨q,cbp,rfl,k1,k2,hdd⟩:=hb.open;have HC:=Xh hcc;have HD:=Xh hdd;have hlen:a.length<=9223372036854775807:=Xf h1 h2;clear ha hb hcc hdd;by_cases hl:a.length=b.length
 ·have hl':((a.length:Int) != (b.length:Int))=false:=by simp[hl]
  go_enter Tryz.func105,Tryz.ntmps105;go_wp2_with fail;all_goals first|(exfalso;omega)|skip
  go_loopw [5] (fun i wr=>∃k:Nat,k<=a.length/\Hid (decide (a.drop k=b.drop k)=decide (a=b))/\Below w.heap.size w wr/\i=.int .i64 k) (fun i _=>a.length-(intOf i).toNat)
  case atStart=>exact⟨0,by omega,rfl,Xb,rfl⟩
  case round =>
   obtain⟨k,hk,hff,hB,rfl⟩:=hrel;by_cases hkl:k<a.length
   ·obtain⟨x,hx⟩:∃x,a[k]? = some x:=⟨a[k],by simp[hkl]⟩;obtain⟨y,hy⟩:∃y,b[k]? = some y:=⟨b[k]'(by omega),by simp[<-hl,hkl]⟩;obtain⟨b1,o1,vs,rfl,hR,_,qc⟩:=HC.out k x hx;unfold zr at hR;subst hR;obtain⟨b2,o2,vs,rfl,hR,_,hcellt⟩:=HD.out k y hy;unfold zr at hR;subst hR;have c0:=(qc.mono hB qc.lt).1;have d0:=(hcellt.mono hB hcellt.lt).1;rw[Nat.mul_one]at c0 d0;have Zc:=Qbj a b hl k x y hx hy;rw[hff.out,<-Z5]at Zc;have HX:=Xh hx;have hkb:k<b.length:=(by omega);clear hx hy qc hcellt;cases he:x.toList==y.toList with
    |true =>
     rw[he,Bool.true_and]at Zc;have hst:=Xh Zc.symm;clear Zc;go_upto_region 6 with fail;go_quiet (fail);go_wp2
     go_roundw;case rel=>exact⟨k+1,by omega,hst.out,⟨hB.os,hB.tape,hB.output,hB.size,hB.block⟩,by simp⟩
     case measure=>simp[intOf];omega
    |false =>
     rw[he,Bool.false_and]at Zc;have HS:=Xh Zc;clear Zc;go_upto_region 6 with fail;go_quiet (fail);go_wp2
     go_ret;exact⟨by rw[HS.out];rfl,⟨hB.os,hB.tape,hB.output,hB.size,hB.block⟩⟩
   ·obtain rfl:k=a.length:=(by omega);have hyes:decide (a=b)=true:=(by rw[<-hff.out,Xg Xl,Xg (by omega)];rfl);have HS:=Xh hyes;clear hyes;go_wp2_with fail;go_ret;exact⟨by rw[HS.out];rfl,hB⟩
 ·have hne:decide (a=b)=false:=by simpa using fun h=>hl (by rw[h])
  have hl':((a.length:Int) != (b.length:Int))=true:=by simp;omega
  rw[hne];go_enter Tryz.func105,Tryz.ntmps105;go_wp2_with fail;all_goals first|(exfalso;omega)|skip
  go_ret;exact⟨rfl,Xb⟩
set_option maxRecDepth 100000
theorem QbI(a b:Frm)(a1 a2 b1 b2:Value)(w:World)(ha:zk w a1 a2 a)(hb:zk w b1 b2 b):
 Calls Tryz.prog 61 #[.agg #[a1,a2],.agg #[b1,b2]] w fun e w'=>e=.returned (.bool (decide (a=b)))/\Below w.heap.size w w':=by
 have HE1:Hid (∀wx,Below w.heap.size w wx->_):=fun wx h=>qbw a.locals b.locals a1 b1 wx (ha.1.mono h) (hb.1.mono h)
 have HE2:Hid (∀wx,Below w.heap.size w wx->_):=fun wx h=>qbw a.stack b.stack a2 b2 wx (ha.2.mono h) (hb.2.mono h)
 rw[Qc3];clear ha hb;have HB:=Xh (((Below.refl w.heap.size w).alloc Xl (.cells #[a1,a2] 27)).alloc (by simp) (.cells #[b1,b2] 27));obtain⟨wb,hwb⟩:∃wb,wb=(w.alloc (.cells #[a1,a2] 27)).alloc (.cells #[b1,b2] 27):=⟨_,rfl⟩;have HA1:Hid (Blk wb w.heap.size 27 [a1,a2]):=by
  rw[hwb];exact(Blk.new w 27 [a1,a2]).step (Xb.alloc Xl _)
 have HA2:Hid (Blk wb (w.heap.size+1) 27 [b1,b2]):=by
  rw[hwb];have:=Blk.new (w.alloc (.cells #[a1,a2] 27)) 27 [b1,b2];unfold Hid;simpa using this
 rw[<-hwb]at HB;have HW:=Xh hwb.symm;clear hwb;generalize decide (a.locals=b.locals)=d at *;cases d with
 |true =>
  rw[Bool.true_and];generalize decide (a.stack=b.stack)=r at *;go_enter Tryz.func61,Tryz.ntmps61;go_wp2_with (first
   |(go_at_call 105;rw[HW.out];(with_reducible refine(HE1.out _ HB.out).mono ?_);rintro e w3⟨rfl,hB3⟩;(have hB3':=Qa HB Xl hB3);obtain⟨q0,q1⟩:=(HA1.out.step hB3).cells2;obtain⟨q2,q3⟩:=(HA2.out.step hB3).cells2)
   |(go_fit (HE2.out _ hB3');rintro e w4⟨rfl,hB4⟩))
  go_ret;exact⟨rfl,Qa hB3' Xl hB4⟩
 |false =>
  rw[Bool.false_and];go_enter Tryz.func61,Tryz.ntmps61;go_wp2_with (first
   |(go_at_call 105;rw[HW.out];(with_reducible refine(HE1.out _ HB.out).mono ?_);rintro e w3⟨rfl,hB3⟩;(have hB3':=Qa HB Xl hB3)))
  go_ret;exact⟨rfl,hB3'⟩
set_option maxRecDepth 512
def zep(cs:List Qb)(a b:List Str):Prop:=(∀k∈a,zd cs k=0/\k.size<=4194304)/\∀k∈b,zd cs k=0/\k.size<=4194304
set_option maxRecDepth 100000
theorem Qa3(l:List Qb)(lv:Value)(hR:Qj l)(hcf:∀c∈l,qd c=0)(w:World)(hlv:qi w lv l)(a b:List Str)(av bv:Value)(ha:Qh w av a)(hb:Qh w bv b)(hj:zep (Za l) a b)(hab:a.length=b.length)(h8:a.length<=8):
 Calls Tryz.prog 104 #[lv,av,bv] w fun e w'=>(∃v,e=.returned v/\Qh w' v (QO (Za l) a b))/\Below w.heap.size w w':=by
 have HO:Hid (∀wx x y,Below w.heap.size w wx->x∈a->y∈b->Calls Tryz.prog 148 #[lv,.string x,.string y] wx fun e w'=>e=.returned (.string (QaU (Za l) x y))/\Below wx.heap.size wx w'):=fun wx x y hB h1 h2=>by
  have hx:=hj.1 x h1;have hy:=hj.2 y h2;obtain⟨X,hX⟩:=zM hx.1;obtain⟨Y,hY⟩:=zM hy.1;refine(QcT l lv hR hcf wx (hlv.mono hB) x y X Y hX hY (qas hX hx.1) (qas hY hy.1) hx.2 hy.2).mono ?_;rintro e w'⟨⟨z,rfl,hz,_⟩,hB'⟩;exact⟨by rw[Qb3 hX.1 hY.1 hz],hB'⟩
 obtain⟨p1,c1,rfl,_,_,ha1⟩:=ha.open;obtain⟨p2,c2,rfl,_,_,hb1⟩:=hb.open;obtain⟨pl,cap,rfl,_⟩:=hlv.open;obtain⟨n,hn1⟩:∃n,a.length=n:=⟨_,rfl⟩;have hn2:b.length=n:=by rw[<-hab,hn1]
 rw[hn1,hn2];rw[hn1]at h8;have HA:=Xh ha1;have HB:=Xh hb1;have HN1:=Xh hn1;have HN2:=Xh hn2;obtain⟨i0,hi,hz0,hz1,hz2⟩:=info_parts qO;clear ha hb ha1 hb1 hn1 hn2 hab hj hlv hR hcf;generalize Za l=cs at *;go_enter Tryz.func104,Tryz.ntmps104;go_wp2_with fail;go_loopw [7,8] (fun v x wr=>∃k:Nat,k<=n/\Hid (wr.ownsRow w.heap.size 9 1 v k ((QO cs (a.take k) (b.take k)).map Value.string))/\Below w.heap.size w wr/\x=.int .i64 k) (fun _ x _=>n-(intOf x).toNat)
 case atStart=>exact⟨0,by omega,World.ownsRow_nil _ _ _ _,Xb,rfl⟩
 case round =>
  obtain⟨k,hk,hown,hB,rfl⟩:=hrel;obtain⟨va,vc,rfl⟩:=qe hown.out;by_cases hkl:k<n
  ·obtain⟨x,hx⟩:∃x,a[k]? = some x:=⟨a[k]'(by rw[HN1.out];exact hkl),by simp⟩;obtain⟨y,hy⟩:∃y,b[k]? = some y:=⟨b[k]'(by rw[HN2.out];exact hkl),by simp⟩;obtain⟨ba,oa,vs,rfl,hR,_,hca⟩:=HA.out k x hx;unfold zr at hR;subst hR;obtain⟨bb,ob,vs,rfl,hR,_,hcb⟩:=HB.out k y hy;unfold zr at hR;subst hR;have c0:=(hca.mono hB hca.lt).1;have d0:=(hcb.mono hB hcb.lt).1;rw[Nat.mul_one]at c0 d0;have hst:=zbk (cs:=cs) hx hy;have HOx:=Xh (fun wx hb=>HO.out wx x y hb (Xe hx) (Xe hy));generalize QaU cs x y=z at *;have HSt:=Xh hst;have HBr:=Xh hB;clear hst hx hy hca hcb hB;go_upto_region 5 with fail;have hb63:k+1<=maxLen:=(by unfold maxLen;omega);have hb16:(k+1)*16<=140737488355328:=(by omega);have hi1:(k:Int)<(n:Int):=(by omega);have hi0:(0:Int)<=(k:Int):=(by omega);go_region_law (first
    |(refine step_append_lies _ (by rfl) _ _ 25 (by rfl) w.heap.size 9 i0 (.string .empty) 1 16 Tryz.underlying25 hi hz0 hz1 hz2 rfl (by decide) _ k _ (by rfl) hown7 ⟨w6.heap.size,0,none⟩ 1 1 [.string z] (by rfl) rfl (zbE w6 _ 9) (Qcx _) (by decide) hb63 hb16 hbase7 (w6.heap.size+1) (by simp) ?_;intro g cap w8 hown8 hgrow hat hlt)
    |(go_simp;go_at_call 148;refine(HOx.out _ (HBr.out.drew)).mono ?_;rintro e w6⟨rfl,hB6'⟩;(have hB6:=Qa ((Below.refl wr.heap.size wr).drew) Xl hB6');(have hBy:=hB6.alloc hB6.size (.cells #[.string z] 9));(have hown7:=ZN hown.out hBy);(have hbase7:=Xf HBr.out.size hBy.size)))
   all_goals
    have hO8:=Xh hown8;have hB8:=Xh ((Qa HBr Xl hBy).grown hgrow (Qa HBr Xl hBy).size (fun g e=>(hown.out.lt g e).1));clear hBy hown7 hbase7 hgrow hat hlt hown8 hB6 hB6' hown HOx c0 d0;go_wp2_with fail;go_roundw;case rel=>exact⟨k+1,by omega,by unfold Hid;rw[HSt.out,List.map_append];exact hO8.out,hB8,by simp⟩
    case measure=>simp[intOf];omega
  ·obtain rfl:n=k:=(by omega);have hj:=Zbk (cs:=cs) (a:=a) (b:=b) (by rw[HN1.out,HN2.out]);rw[HN1.out]at hj;have ho1:=hown.out;rw[hj]at ho1;have HO1:=Xh ho1;have HBw:=Xh hB;clear hown hB ho1 hj;go_wp2_with fail;go_ret;exact⟨⟨_,rfl,Ze (l:=QO cs a b) (by rw[Zan (by rw[HN1.out,HN2.out]),HN1.out];exact HO1.out)⟩,HBw⟩
theorem Qbw(l:List Qb)(lv:Value)(hR:Qj l)(hcf:∀c∈l,qd c=0)(w:World)(hlv:qi w lv l)(a b:Frm)(a1 a2 b1 b2:Value)(ha:zk w a1 a2 a)(hb:zk w b1 b2 b)(hSa:zaD a)(hSb:zaD b)(hza:zz (Za l) a=0)(hzb:zz (Za l) b=0):
 Calls Tryz.prog 60 #[lv,.agg #[a1,a2],.agg #[b1,b2]] w (ZaD w (Za l) a b):=by
 obtain⟨hla,hsa,hka1,hka2⟩:=zw hza;obtain⟨_,_,hkb1,hkb2⟩:=zw hzb;have HJ1:Hid (a.locals.length=b.locals.length->∀wx,Below w.heap.size w wx->_):=fun hn wx hB=>Qa3 l lv hR hcf wx (hlv.mono hB) a.locals b.locals a1 b1 (ha.1.mono hB) (hb.1.mono hB) ⟨fun k h=>⟨hka1 k h,hSa.1 k h⟩,fun k h=>⟨hkb1 k h,hSb.1 k h⟩⟩ hn hla
 have HJ2:Hid (a.stack.length=b.stack.length->∀wx,Below w.heap.size w wx->_):=fun hn wx hB=>Qa3 l lv hR hcf wx (hlv.mono hB) a.stack b.stack a2 b2 (ha.2.mono hB) (hb.2.mono hB) ⟨fun k h=>⟨hka2 k h,hSa.2 k h⟩,fun k h=>⟨hkb2 k h,hSb.2 k h⟩⟩ hn hsa
 obtain⟨p1,c1,rfl,_⟩:=ha.1.open;obtain⟨p2,c2,rfl,_⟩:=ha.2.open;obtain⟨p3,c3,rfl,_⟩:=hb.1.open;obtain⟨p4,c4,rfl,_⟩:=hb.2.open;obtain⟨pl,cap,rfl,_⟩:=hlv.open;obtain⟨n,hn1⟩:∃n,a.locals.length=n:=⟨_,rfl⟩;obtain⟨n',hn2⟩:∃n,b.locals.length=n:=⟨_,rfl⟩;obtain⟨m,hm1⟩:∃n,a.stack.length=n:=⟨_,rfl⟩;obtain⟨m',hm2⟩:∃n,b.stack.length=n:=⟨_,rfl⟩;have hsh:zQ a b=(decide (n=n')&&decide (m=m')):=by unfold zQ;rw[hn1,hn2,hm1,hm2]
 rw[hn1,hn2]at HJ1;rw[hm1,hm2]at HJ2;rw[hn1,hn2,hm1,hm2];obtain⟨w1,hw1⟩:∃w1,w1=((w.alloc (.cells #[.slice p1 n c1,.slice p2 m c2] 27)).alloc (.cells #[.slice p3 n' c3,.slice p4 m' c4] 27)).alloc (.cells #[.slice none 0 0,.slice none 0 0] 27):=⟨_,rfl⟩;have HB1:Hid (Below w.heap.size w w1):=by rw[hw1];exact((Xb.alloc Xl _).alloc (by simp) _).alloc (by simp;omega) _
 have HK0:Hid (Blk w1 w.heap.size 27 [.slice p1 n c1,.slice p2 m c2]):=by
  rw[hw1];exact(Blk.new w 27 _).step ((Xb.alloc Xl _).alloc (by simp) _)
 have HK1:Hid (Blk w1 (w.heap.size+1) 27 [.slice p3 n' c3,.slice p4 m' c4]):=by
  rw[hw1];have:=(Blk.new (w.alloc (.cells #[.slice p1 n c1,.slice p2 m c2] 27)) 27 [.slice p3 n' c3,.slice p4 m' c4]).step (Xb.alloc Xl (.cells #[.slice none 0 0,.slice none 0 0] 27));unfold Hid;simpa using this
 have HK2:Hid (Blk w1 (w.heap.size+1+1) 27 [.slice none 0 0,.slice none 0 0]):=by
  rw[hw1];have:=Blk.new ((w.alloc (.cells #[.slice p1 n c1,.slice p2 m c2] 27)).alloc (.cells #[.slice p3 n' c3,.slice p4 m' c4] 27)) 27 [.slice none 0 0,.slice none 0 0];unfold Hid;simpa using this
 have HW:=Xh hw1.symm;have HBn:=Xh ((((Below.refl w.heap.size w).alloc Xl (.cells #[.slice p1 n c1,.slice p2 m c2] 27)).alloc (by simp) (.cells #[.slice p3 n' c3,.slice p4 m' c4] 27)).alloc (by simp;omega) (.cells #[.slice none 0 0,.slice none 0 0] 27));unfold ZaD;clear hka1 hka2 hkb1 hkb2 hza hzb hSa hSb ha hb hlv hw1 hn1 hn2 hm1 hm2 hla hsa;by_cases h1:n=n'
 ·by_cases h2:m=m'
  ·subst h1 h2;have z1:((n:Int) != (n:Int))=false:=(by simp);have z2:((m:Int) != (m:Int))=false:=(by simp);rw[Xj rfl,Xj rfl,Bool.and_true]at hsh;have HS:=Xh hsh;have HL1:=Xh (HJ1.out rfl);have HL2:=Xh (HJ2.out rfl);clear hsh HBn HJ1 HJ2;go_enter Tryz.func60,Tryz.ntmps60;go_upto_region 3 with fail;rw[HW.out];obtain⟨q0,q1⟩:=HK0.out.cells2;obtain⟨q2,q3⟩:=HK1.out.cells2;have HC1:Hid (∀wx,Below w1.heap.size w1 wx->Calls Tryz.prog 104 #[.slice pl l.length cap,.slice p1 n c1,.slice p3 n c3] wx fun e w'=>(∃p k,e=.returned (.slice p (QO (Za l) a.locals b.locals).length k)/\Qh w' (.slice p (QO (Za l) a.locals b.locals).length k) (QO (Za l) a.locals b.locals)/\Below wx.heap.size wx w')/\Below w1.heap.size w1 w'/\w'.cell? ⟨w.heap.size,0,none⟩=some (.slice p1 n c1)/\w'.cell? ⟨w.heap.size,1,none⟩=some (.slice p2 m c2)/\w'.cell? ⟨w.heap.size+1,0,none⟩=some (.slice p3 n c3)/\w'.cell? ⟨w.heap.size+1,1,none⟩=some (.slice p4 m c4)):=fun wx hb =>
    (HL1.out wx (Qa HB1 Xl hb)).mono fun e w' ⟨⟨v,he,hv⟩,hB⟩=>by
     obtain⟨p,k,rfl,_⟩:=hv.open;have hb':=Qa hb Xl hB;obtain⟨z0,z1⟩:=(HK0.out.step hb').cells2;obtain⟨z2,z3⟩:=(HK1.out.step hb').cells2;exact⟨⟨p,k,he,hv,hB⟩,hb',z0,z1,z2,z3⟩
   have HC2:Hid (∀wx,Below w1.heap.size w1 wx->Calls Tryz.prog 104 #[.slice pl l.length cap,.slice p2 m c2,.slice p4 m c4] wx fun e w'=>(∃p k,e=.returned (.slice p (QO (Za l) a.stack b.stack).length k)/\Qh w' (.slice p (QO (Za l) a.stack b.stack).length k) (QO (Za l) a.stack b.stack)/\Below wx.heap.size wx w')/\Below w1.heap.size w1 w'/\w'.cell? ⟨w.heap.size,0,none⟩=some (.slice p1 n c1)/\w'.cell? ⟨w.heap.size,1,none⟩=some (.slice p2 m c2)/\w'.cell? ⟨w.heap.size+1,0,none⟩=some (.slice p3 n c3)/\w'.cell? ⟨w.heap.size+1,1,none⟩=some (.slice p4 m c4)):=fun wx hb =>
    (HL2.out wx (Qa HB1 Xl hb)).mono fun e w' ⟨⟨v,he,hv⟩,hB⟩=>by
     obtain⟨p,k,rfl,_⟩:=hv.open;have hb':=Qa hb Xl hB;obtain⟨z0,z1⟩:=(HK0.out.step hb').cells2;obtain⟨z2,z3⟩:=(HK1.out.step hb').cells2;exact⟨⟨p,k,he,hv,hB⟩,hb',z0,z1,z2,z3⟩
   have hBd:=(Below.refl w1.heap.size w1).drew;clear HL1 HL2;have hm1:¬w.heap.size=w.heap.size+1+1:=(by omega);have hm2:¬w.heap.size+1+1=w.heap.size:=(by omega);go_region_held3 (fun w'=>w'.cell? ⟨w.heap.size,0,none⟩=some (.slice p1 n c1)/\w'.cell? ⟨w.heap.size,1,none⟩=some (.slice p2 m c2)/\w'.cell? ⟨w.heap.size+1,0,none⟩=some (.slice p3 n c3)/\w'.cell? ⟨w.heap.size+1,1,none⟩=some (.slice p4 m c4)) (go_keep)
    (
     first
     |(go_fit (HC1.out _ ?_);(exact hBd);rintro e w4⟨⟨pa,ka,rfl,hv1,_⟩,hB4,z0,z1,z2,z3⟩)
     |(go_fit (HC2.out _ ?_);(exact hB4);rintro e w5⟨⟨pb,kb,rfl,hv2,hB45⟩,hB5,y0,y1,y2,y3⟩;(have i2:=HK2.out.step hB5);obtain⟨s0,s1⟩:=i2.cells2;(have f0:=i2.frozen 0);(have f1:=i2.frozen 1)))
   all_goals
    have hr1:=Qh.apart (hv1.mono hB45) i2 (fun s h=>by cases h) (fun s h=>by cases h) (w':=((w5.setCell ⟨w.heap.size+1+1,0,none⟩ (.slice pa (QO (Za l) a.locals b.locals).length ka)).setCell ⟨w.heap.size+1+1,1,none⟩ (.slice pb (QO (Za l) a.stack b.stack).length kb))) (fun g hg=>by rw[Xk _ _ _ _ hg,Xk _ _ _ _ hg]);have hr2:=Qh.apart hv2 i2 (fun s h=>by cases h) (fun s h=>by cases h) (w':=((w5.setCell ⟨w.heap.size+1+1,0,none⟩ (.slice pa (QO (Za l) a.locals b.locals).length ka)).setCell ⟨w.heap.size+1+1,1,none⟩ (.slice pb (QO (Za l) a.stack b.stack).length kb))) (fun g hg=>by rw[Xk _ _ _ _ hg,Xk _ _ _ _ hg]);have hbs:=z7 (b:=w.heap.size+1+1) (Qa HB1 Xl hB5) (by omega) (.slice pa (QO (Za l) a.locals b.locals).length ka) (.slice pb (QO (Za l) a.stack b.stack).length kb);have HR1:=Xh hr1;have HR2:=Xh hr2;have HBs:=Xh hbs;clear hr1 hr2 hbs;go_wp2_with fail;exact bodyPost_ret (v:=.tuple #[.agg #[.slice pa (QO (Za l) a.locals b.locals).length ka,.slice pb (QO (Za l) a.stack b.stack).length kb],.bool true]) (by simp[results,Tryz.results60,go_sem, *]) rfl ⟨HBs,Or.inl ⟨HS,_,_,rfl,HR1,HR2⟩⟩
  ·have z1:((n:Int) != (n':Int))=false:=(by simp[h1]);have z2:((m:Int) != (m':Int))=true:=(by simp;omega);rw[Xi h2,Bool.and_false]at hsh;have HS:=Xh hsh;clear hsh h1 h2;go_enter Tryz.func60,Tryz.ntmps60;go_wp2_with fail;exact bodyPost_ret (v:=.tuple #[.agg #[.slice none 0 0,.slice none 0 0],.bool false]) (by simp[results,Tryz.results60,go_sem, *]) rfl ⟨HBn,Or.inr ⟨HS,rfl⟩⟩
 ·have z1:((n:Int) != (n':Int))=true:=by simp;omega
  rw[Xi h1,Bool.false_and]at hsh;have HS:=Xh hsh;clear hsh h1;go_enter Tryz.func60,Tryz.ntmps60;go_wp2_with fail;exact bodyPost_ret (v:=.tuple #[.agg #[.slice none 0 0,.slice none 0 0],.bool false]) (by simp[results,Tryz.results60,go_sem, *]) rfl ⟨HBn,Or.inr ⟨HS,rfl⟩⟩
set_option maxRecDepth 512
end Go.Proofs.YtlmfmioljeppfaaGreatDoor
