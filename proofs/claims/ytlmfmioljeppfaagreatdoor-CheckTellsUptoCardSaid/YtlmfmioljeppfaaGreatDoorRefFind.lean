/- Lemmas; conditions: as each states. -/
import Derived.Test.YtlmfmioljeppfaaGreatDoorRefNames
set_option maxHeartbeats 4000000
namespace Go.Proofs.YtlmfmioljeppfaaGreatDoor
open Go.RowKit Go.Shelf Go.Lib
def zbP:Ty->Bool
 |.ar _=>true
 |_=>false
theorem Zak{k:Str}{x:Ty}(h:Zf x=lst k)(hp:0<k.size):(((k[0]'hp).toNat:Int)==91)=zbP x:=by
 have hk:k[0]'hp=(lst k)[0]'(by have h1:(lst k).length=k.size:=rfl;omega):=rfl;have h0:(lst k)[0]? = (Zf x)[0]?:=by rw[h]
 rw[hk];have h2:(lst k)[0]? = some ((lst k)[0]'(by have h1:(lst k).length=k.size:=rfl;omega)):=Xn _;rw[h2]at h0;generalize (lst k)[0]'(by have h1:(lst k).length=k.size:=rfl;omega)=b at *;cases x with
 |i=>simp[Zf]at h0;subst h0;rfl
 |j=>simp[Zf]at h0;subst h0;rfl
 |cl c=>simp[Zf]at h0;subst h0;rfl
 |ar y=>simp[Zf]at h0;subst h0;rfl
theorem Zen{k:Str}{x:Ty}{c:Str}(h:Zf x=lst k)(hc:Z4 x=.cl c):k.size=Qp x+c.size+2/\k.extract (Qp x+1) (k.size-1)=c:=by
 have h1:(lst k).length=k.size:=rfl;have h2:=qaG x;have h3:(Zf (.cl c)).length=c.size+2:=by
  have e2:(lst c).length=c.size:=rfl;simp[Zf,e2]
 rw[hc,h3,h,h1]at h2;refine⟨by omega,?_⟩;apply ByteArray.ext;apply Array.toList_inj.1;have h4:(k.extract (Qp x+1) (k.size-1)).data.toList=((lst k).drop (Qp x+1)).take (k.size-1-(Qp x+1)):=by
  rw[ByteArray.data_extract,Array.toList_extract,List.extract_eq_take_drop]
 have h5:(lst k).drop (Qp x+1)=lst c++[59]:=by
  rw[<-h,<-List.drop_drop,Qbs,hc];rfl
 have e2:(lst c).length=c.size:=rfl;rw[h4,h5,List.take_append_of_le_length (by omega),List.take_of_length_le (by omega)]
theorem Qeo{k:Str}{x:Ty}(h:Zf x=lst k)(hp:Qp x<k.size):(((k[Qp x]'hp).toNat:Int)==76)=qab (Z4 x):=by
 have hk:k[Qp x]'hp=(lst k)[Qp x]'(by have h1:(lst k).length=k.size:=rfl;omega):=rfl;have h0:(lst k)[Qp x]? = (Zf (Z4 x))[0]?:=by
  rw[<-h,<-Qbs,List.getElem?_drop,Nat.add_zero]
 rw[hk];have h2:(lst k)[Qp x]? = some ((lst k)[Qp x]'(by have h1:(lst k).length=k.size:=rfl;omega)):=Xn _;rw[h2]at h0;generalize (lst k)[Qp x]'(by have h1:(lst k).length=k.size:=rfl;omega)=b at *;rcases QaS x with⟨hc,_⟩|⟨hc,_⟩|⟨c,hc,_⟩<;>rw[hc]at h0 ⊢<;>simp[Zf]at h0<;>subst h0<;>rfl
set_option maxRecDepth 100000
theorem Zaf(k:Str)(x:Ty)(w:World)(h:Zf x=lst k)(hs:k.size<=maxLen):Calls Tryz.prog 75 #[.string k] w fun e w'=>e=.returned (.string (str (qA x)))/\w=w':=by
 obtain⟨f1,f2,f3,f4⟩:=ZbI k 0 (Nat.zero_le _);rw[List.drop_zero,Nat.zero_add]at *;have hd:qu k.data.toList=Qp x:=by rw[show k.data.toList=Zf x from h.symm,ZaB]
 rw[hd]at f3 f4;have hlen:Qp x<k.size:=by
  have h1:(lst k).length=k.size:=rfl;rw[<-h1,<-h,qaG];have:=List.length_pos_iff.2 (zaB (Z4 x));omega
 have hat:=Qeo h hlen;have hcut:∀c,Z4 x=.cl c->k.size=Qp x+c.size+2/\k.extract (Qp x+1) (k.size-1)=c:=fun c hc=>Zen h hc
 have hcc:=QaS x;generalize Qp x=n at *;generalize Z4 x=y at *;generalize qA x=bs at *;unfold maxLen at hs;have F3:=Xh f3;have F4:=Xh f4;have HC:=Xh hcut;have HA:=Xh hat;have HCC:=Xh hcc;clear f1 f2 f3 f4 hcut hat hcc h hd;go_enter Tryz.func75,Tryz.ntmps75;go_wp2_with fail;go_loop [3] (fun x=>∃j:Nat,j<=n/\x=.int .i64 j) (fun x=>n-(intOf x).toNat)
 case atStart=>exact⟨0,by omega,rfl⟩
 case round =>
  obtain⟨j,hj,rfl⟩:=hrel;by_cases hlt:j<n
  ·have hks:j<k.size:=(by omega);have hc:(((k[j]).toNat:Int)==91)=true:=qa8 (c:=91) (F3.out j hks (Nat.zero_le _) hlt) rfl;go_wp2_with fail;go_round
   case rel=>exact⟨j+1,by omega,by go_num⟩
   case measure=>simp[intOf];omega
  ·have hki:j=n:=(by omega);subst hki;have hc:(((k[j]).toNat:Int)==91)=false:=Qap (c:=91) (F4.out hlen) rfl;rcases HCC.out with⟨hcy,rfl⟩|⟨hcy,rfl⟩|⟨c,hcy,rfl⟩
   ·have h6:=HA.out;rw[hcy]at h6;simp only[qab]at h6;clear hcy;go_wp2_with fail;go_ret;exact⟨rfl,rfl⟩
   ·have h6:=HA.out;rw[hcy]at h6;simp only[qab]at h6;clear hcy;go_wp2_with fail;go_ret;exact⟨rfl,rfl⟩
   ·have h6:=HA.out;rw[hcy]at h6;simp only[qab]at h6;obtain⟨g1,g2⟩:=HC.out c hcy;have g3:k.extract (j+1) (j+c.size+1)=c:=(by rw[show j+c.size+1=k.size-1 by omega];exact g2);have HG:=Xh g3;clear hcy g2 g3;go_wp2_with fail;go_ret;exact⟨congrArg (fun z=>Ending.returned (.string z)) HG.out,rfl⟩
set_option maxRecDepth 512
theorem qec{x:Kd}(h:∀y,x=.ty y->Qs (Zf y)=true):qdb (qo x)=qt x:=by
 cases x with
 |n=>rfl
 |t=>rfl
 |ty y =>
  show qdb (Zf y)=Ql y
  unfold qdb;rw[h y rfl,zcN,Bool.true_and,Bool.not_not]
theorem QD(k:Str)(x:Kd)(w:World)(h:qo x=lst k)(ht:∀y,x=.ty y->Qs (Zf y)=true)(hs:k.size<=maxLen):
 Calls Tryz.prog 78 #[.string k] w fun e w'=>e=.returned (.bool (qt x))/\w=w':=by
 rw[<-qec ht,h];exact qbv k w hs
set_option maxRecDepth 100000
theorem ZU(l:List Qb)(lv:Value)(k:Str)(w:World)(hlv:qi w lv l)(hs:k.size<=maxLen):
 Calls Tryz.prog 40 #[lv,.string k] w fun e w'=>e=.returned (.int .i64 (zd (Za l) k))/\Below w.heap.size w w':=by
 have HCO:Hid (∀n,_):=fun n=>QA l lv n w hlv
 unfold qJ at HCO;obtain⟨pl,cap,rfl,_⟩:=hlv.open;clear hlv;by_cases h1:lst k=[78]\/lst k=[84]
 ·have hr:zd (Za l) k=0:=by unfold zd;rw[if_pos h1]
  rw[hr];have hk1:(k.toList==[78])=decide (lst k=[78]):=by rw[ByteArray.toList_eq,Bool.eq_iff_iff];simp
  have hk2:(k.toList==[84])=decide (lst k=[84]):=by rw[ByteArray.toList_eq,Bool.eq_iff_iff];simp
  clear HCO hr;rcases h1 with h1|h1
  ·rw[Xj h1]at hk1;clear hk2 h1;go_enter Tryz.func40,Tryz.ntmps40;go_wp2
   go_ret;exact⟨rfl,Xb⟩
  ·rw[Xj h1]at hk2;rw[Xi (by rw[h1];decide)]at hk1;clear h1;go_enter Tryz.func40,Tryz.ntmps40;go_wp2
   go_ret;exact⟨rfl,Xb⟩
 ·have hk1:(k.toList==[78])=false:=by rw[ByteArray.toList_eq];simpa using fun h=>h1 (Or.inl h)
  have hk2:(k.toList==[84])=false:=by rw[ByteArray.toList_eq];simpa using fun h=>h1 (Or.inr h)
  have HT:Hid (∀wx,_):=fun wx=>QL k wx hs
  rw[show k.data.toList=lst k from rfl]at HT;have HK:Hid (zd (Za l) k=if !Qs (lst k) then 1 else if (zak (lst k)).isEmpty then 0 else if (Qc (Za l) (str (zak (lst k)))).isSome then 0 else 3):=by unfold Hid zd;rw[if_neg h1]
  clear h1;cases ht:Qs (lst k) with
  |false =>
   rw[ht]at HT HK;have hr:zd (Za l) k=1:=HK.out;rw[hr];clear HK hr ht hs HCO;go_enter Tryz.func40,Tryz.ntmps40;go_wp2_with (go_fit (HT.out _);rintro e w2⟨rfl,rfl⟩)
   go_ret;exact⟨rfl,Xb⟩
  |true =>
   rw[ht]at HT HK;obtain⟨x,h3,h4,_⟩:=zax (lst k) ht;rw[h4]at HK;replace HK:Hid (zd (Za l) k=if (qA x).isEmpty then 0 else if (Qc (Za l) (str (qA x))).isSome then 0 else 3):=HK;have HC:Hid (∀wx,_):=fun wx=>Zaf k x wx h3 hs
   have hbe:((str (qA x)).toList==[])=(qA x).isEmpty:=(by rw[ByteArray.toList_eq];show(qA x==[])=_;cases qA x<;>rfl);have HL:=Xh (HCO.out (str (qA x)));clear hs h3 h4 ht HCO;generalize (Qc (Za l) (str (qA x))).isSome=is at *;generalize (Qc (Za l) (str (qA x))).getD zg=d at *;generalize str (qA x)=b at *;generalize (qA x).isEmpty=em at *;generalize zd (Za l) k=r at *;obtain⟨n2,s2,f2,b2,d2,m2⟩:=d;dsimp only at HL;cases em<;>cases is
   all_goals
    have hr:=HK.out;simp only[if_true,if_false,Bool.false_eq_true]at hr;subst hr;clear HK;go_enter Tryz.func40,Tryz.ntmps40;go_wp2_with (first
     |(go_fit (HT.out _);rintro e w2⟨rfl,rfl⟩)
     |(go_fit (HC.out _);rintro e w3⟨rfl,rfl⟩)
     |(go_fit HL.out;rintro e w4⟨p1,k1,p2,k2,p3,k3,rfl,_,_,_,hB4,_⟩))
    go_ret;exact⟨rfl,hB4.alloc hB4.size _⟩
set_option maxRecDepth 512
theorem Qdb{l:List Qb}(hf:∀c∈l,qd c=0){x:Ty}(h:ZH (Za l) x=true)(hd:Qp x<=3):Qs (Zf x)=true:=QaE (za8 hf x h) hd
theorem qP{l:List Qb}(hf:∀c∈l,qd c=0){x:Kd}(h:zL (Za l) x=true)(hd:Zah x<=3):∀y,x=.ty y->Qs (Zf y)=true:=by
 rintro y rfl;exact Qdb hf h hd
theorem qaT{y:Ty}(h:qao y=true)(hd:Qp y<=3):∀z,Kd.ty y=.ty z->Qs (Zf z)=true:=by
 rintro z⟨⟩;exact QaE h hd
set_option maxRecDepth 100000
theorem Zbd(w:World)(l:List Qb)(lv:Value)(hR:Qj l)(hcf:∀c∈l,qd c=0)(hlv:qi w lv l)(a b:Str)(x y:Kd)(ha:qo x=lst a)(hb:qo y=lst b)(hx:zL (Za l) x=true)(hdx:Zah x<=3)(hty:∀z,y=.ty z->Qs (Zf z)=true)(hsa:a.size<=maxLen)(hsb:b.size<=maxLen)(h:(y=.t\/x=y\/(x=.n/\qt y=true))\/(qt x=false\/qt y=false)):
 Calls Tryz.prog 49 #[lv,.string a,.string b] w fun e w'=>e=.returned (.bool (Zx (Za l) x y))/\w=w':=by
 have hT:=ZP hb .t;have hE:=Zab ha hb;have hN:=ZP ha .n;have HA:Hid (∀wx,_):=fun wx=>QD a x wx ha (qP hcf hx hdx) hsa
 have HB:Hid (∀wx,_):=fun wx=>QD b y wx hb hty hsb
 obtain⟨pl,cap,rfl,_⟩:=hlv.open;simp only[qo]at hT hN;by_cases h0:y=.t\/x=y\/(x=.n/\qt y=true)
 ·rw[Zcq hR hx h0];obtain⟨eT,hT2⟩:∃e,decide (y=Kd.t)=e:=⟨_,rfl⟩;obtain⟨eE,hE2⟩:∃e,decide (x=y)=e:=⟨_,rfl⟩;obtain⟨eN,hN2⟩:∃e,decide (x=Kd.n)=e:=⟨_,rfl⟩;have hor:(eT||eE||(eN&&qt y))=true:=by
   rw[<-hT2,<-hE2,<-hN2];rcases h0 with h0|h0|⟨h0,h1⟩<;>simp[*]
  rw[hT2]at hT;rw[hE2]at hE;rw[hN2]at hN;clear hT2 hE2 hN2 h0 h ha hb hx hty hR hcf hlv hdx hsa hsb;generalize qt x=rx at *;generalize qt y=ry at *;cases eT<;>cases eE<;>cases eN<;>cases ry<;>first|(exact absurd hor (by decide))|skip
  all_goals
   clear hor;go_enter Tryz.func49,Tryz.ntmps49;go_wp2_with (go_fit (HB.out _);rintro e w3⟨rfl,rfl⟩)
   go_ret;exact⟨rfl,rfl⟩
 ·have h1:y≠.t:=fun h=>h0 (Or.inl h)
  have h2:x≠y:=fun h=>h0 (Or.inr (Or.inl h))
  have h3:¬(x=.n/\qt y=true):=fun h=>h0 (Or.inr (Or.inr h))
  have hw:qt x=false\/qt y=false:=by
   rcases h with h|h
   ·exact absurd h h0
   ·exact h
  rw[qcq h1 h2 h3 hw];rw[Xi h1]at hT;rw[Xi h2]at hE;obtain⟨eN,hN2⟩:∃e,decide (x=Kd.n)=e:=⟨_,rfl⟩;have hor:(eN&&qt y)=false:=by
   rw[<-hN2];cases hr:qt y with
   |false=>simp
   |true=>simp;exact fun h=>h3 ⟨h,hr⟩
  have hor2:(qt x&&qt y)=false:=by
   rcases hw with h|h<;>simp[h]
  rw[hN2]at hN;clear hN2 h0 h ha hb hx hty hR hcf hlv hdx hsa hsb h1 h2 h3 hw;generalize qt x=rx at *;generalize qt y=ry at *;cases eN<;>cases rx<;>cases ry<;>first|(exact absurd hor (by decide))|(exact absurd hor2 (by decide))|skip
  all_goals
   clear hor hor2;go_enter Tryz.func49,Tryz.ntmps49;go_wp2_with (first
    |(go_fit (HA.out _);rintro e w3⟨rfl,rfl⟩)
    |(go_fit (HB.out _);rintro e w3⟨rfl,rfl⟩))
   go_ret;exact⟨rfl,rfl⟩
theorem zcT(w:World)(pl:Option Addr)(n cap:Nat)(a b a1 b1:Str)(ru rv r:Bool)(HA:∀wx,Calls Tryz.prog 78 #[.string a] wx fun e w'=>e=.returned (.bool true)/\wx=w')(HB:∀wx,Calls Tryz.prog 78 #[.string b] wx fun e w'=>e=.returned (.bool true)/\wx=w')(HA2:∀wx,Calls Tryz.prog 78 #[.string a1] wx fun e w'=>e=.returned (.bool ru)/\wx=w')(HB2:∀wx,Calls Tryz.prog 78 #[.string b1] wx fun e w'=>e=.returned (.bool rv)/\wx=w')(HI:∀wx,Below w.heap.size w wx->Calls Tryz.prog 49 #[.slice pl n cap,.string a1,.string b1] wx fun e w'=>e=.returned (.bool r)/\Below wx.heap.size wx w')(hrf:(ru&&rv)=false->r=false)(hpa:0<a.size)(hpb:0<b.size)(ga:(((a[0]'hpa).toNat:Int)==91)=true)(gb:(((b[0]'hpb).toNat:Int)==91)=true)(hxa:a.extract 1 a.size=a1)(hxb:b.extract 1 b.size=b1)(hsa:a.size<=maxLen)(hsb:b.size<=maxLen)(hT:(b.toList==[84])=false)(hE:(a.toList==b.toList)=false)(hN:(a.toList==[78])=false)(hO:(b.toList==[76,79,98,106,101,99,116,59])=false):
 Calls Tryz.prog 49 #[.slice pl n cap,.string a,.string b] w fun e w'=>e=.returned (.bool r)/\Below w.heap.size w w':=by
 replace HA:=Xh HA;replace HB:=Xh HB;have QA2:Hid (∀wx,Calls Tryz.prog 78 #[.string a1] wx fun e w'=>e=.returned (.bool ru)/\w'=wx):=fun wx=>(HA2 wx).mono fun e w' h=>⟨h.1,h.2.symm⟩
 have QB2:Hid (∀wx,Calls Tryz.prog 78 #[.string b1] wx fun e w'=>e=.returned (.bool rv)/\w'=wx):=fun wx=>(HB2 wx).mono fun e w' h=>⟨h.1,h.2.symm⟩
 replace HA2:=Xh HA2;replace HB2:=Xh HB2;replace HI:=Xh HI;replace hrf:=Xh hrf;unfold maxLen at hsa hsb;have i1:(0:Int)<(a.size:Int):=by omega
 have i2:(0:Int)<(b.size:Int):=by omega
 have i3:(1:Int)<=(a.size:Int):=by omega
 have i4:(1:Int)<=(b.size:Int):=by omega
 have i5:(a.size:Int)<=9223372036854775807:=by omega
 by_cases hrr:(ru&&rv)=true
 ·rw[Bool.and_eq_true]at hrr;obtain⟨rfl,rfl⟩:=hrr;clear hrf;go_enter Tryz.func49,Tryz.ntmps49;go_upto_region 10 with(first
   |(go_fit (HA.out _);rintro e w3⟨rfl,rfl⟩)
   |(go_fit (HB.out _);rintro e w3⟨rfl,rfl⟩))
  refine wp_region_still_tail 14 (by kernel_rfl) (by kernel_rfl) ?_;simp only[List.take_succ_cons,List.take_zero,List.drop_succ_cons,List.drop_zero];repeat still_step
  still_call (QA2.out _)
  repeat still_step
  still_call (QB2.out _)
  repeat still_step
  refine wpStill_nil ?_;change wpList _ _ _ _ _ w.drew;go_wp2_with (go_fit (HI.out _ Xb.drew);rintro e w4⟨rfl,hB4⟩)
  go_ret;exact⟨rfl,Qa Xb.drew Xl hB4⟩
 ·rw[Bool.not_eq_true]at hrr;rw[hrf.out hrr];clear hrf HI;cases ru<;>cases rv<;>first|(exact absurd hrr (by decide))|skip
  all_goals
   go_enter Tryz.func49,Tryz.ntmps49;go_upto_region 10 with(first
    |(go_fit (HA.out _);rintro e w3⟨rfl,rfl⟩)
    |(go_fit (HB.out _);rintro e w3⟨rfl,rfl⟩))
   go_quiet (first
    |(go_at_call 78;with_reducible exact Calls.quiet_of_same (QA2.out _))
    |(go_at_call 78;with_reducible exact Calls.quiet_of_same (QB2.out _)))
   go_wp2
   go_ret;exact⟨rfl,below_drewN Xb _⟩
theorem zdc(l:List Qb)(lv:Value)(hR:Qj l)(hcf:∀c∈l,qd c=0):∀(x:Ty) (w:World) (a b:Str) (y:Ty),qi w lv l->Zf x=lst a->Zf y=lst b->ZH (Za l) x=true->qao y=true->Qp x<=3->Qp y<=3->a.size<=maxLen->b.size<=maxLen ->
 Calls Tryz.prog 49 #[lv,.string a,.string b] w fun e w'=>e=.returned (.bool (qT (Za l) x y))/\Below w.heap.size w w':=by
 have plain:∀(x:Ty) (w:World) (a b:Str) (y:Ty),qi w lv l->Zf x=lst a->Zf y=lst b->ZH (Za l) x=true->qao y=true->Qp x<=3->Qp y<=3->a.size<=maxLen->b.size<=maxLen->(x=y\/Ql x=false\/Ql y=false) ->
  Calls Tryz.prog 49 #[lv,.string a,.string b] w fun e w'=>e=.returned (.bool (qT (Za l) x y))/\Below w.heap.size w w':=fun x w a b y hm ha hb hx hy hdx hdy hsa hsb h =>
  (Zbd w l lv hR hcf hm a b (.ty x) (.ty y) ha hb hx hdx (qaT hy hdy) hsa hsb (by
   rcases h with h|h
   ·exact Or.inl (Or.inr (Or.inl (by rw[h])))
   ·exact Or.inr h)).mono fun e w' ⟨h1,h2⟩=>⟨h1,h2▸Xb⟩
 intro x;induction x with
 |i=>intro w a b y hm ha hb hx hy hdx hdy hsa hsb;exact plain _ w a b y hm ha hb hx hy hdx hdy hsa hsb (Or.inr (Or.inl rfl))
 |j=>intro w a b y hm ha hb hx hy hdx hdy hsa hsb;exact plain _ w a b y hm ha hb hx hy hdx hdy hsa hsb (Or.inr (Or.inl rfl))
 |cl c =>
  intro w a b y hm ha hb hx hy hdx hdy hsa hsb;by_cases he:Ty.cl c=y\/Ql y=false
  ·exact plain _ w a b y hm ha hb hx hy hdx hdy hsa hsb (by rcases he with he|he;exact Or.inl he;exact Or.inr (Or.inr he))
  ·have hne:Ty.cl c≠y:=fun h=>he (Or.inl h)
   have hT:=ZP (x:=.ty y) hb .t;have hE:=Zab (x:=.ty (.cl c)) (y:=.ty y) ha hb;have hN:=ZP (x:=.ty (.cl c)) ha .n;simp only[qo]at hT hN;rw[Xi (by intro h;cases h)]at hT hN;rw[Xi (by intro h;injection h with h;exact hne h)]at hE;have hO:=ZP (x:=.ty y) hb (.ty (.cl Zg));rw[show qo (.ty (.cl Zg))=[76,79,98,106,101,99,116,59] from rfl]at hO;have HA:Hid (∀wx,_):=fun wx=>QD a (.ty (.cl c)) wx ha (qP hcf hx hdx) hsa
   have HB:Hid (∀wx,_):=fun wx=>QD b (.ty y) wx hb (qaT hy hdy) hsb
   have HCa:Hid (∀wx,_):=fun wx=>Zaf a (.cl c) wx ha hsa
   have HCb:Hid (∀wx,_):=fun wx=>Zaf b y wx hb hsb
   obtain⟨hpa,fa⟩:=ZK ha;obtain⟨hpb,fb⟩:=ZK hb;have ga:=Zak ha hpa;have gb:=Zak hb hpb;have HEv:=Xh (Qbv l lv c w hR hcf hm hx (ZcN hcf));unfold qaj at HEv;have HCon:Hid (∀d v wx,Qh wx v (qE (Qk (Za l) c))->_):=fun d v wx h=>qbk (qE (Qk (Za l) c)) v d wx h
   have hob:=hR.object _ c hx Xl;obtain⟨pl,cap,rfl,_⟩:=hm.open;simp only[qt,Ql,qA,QaR,qab,zbP]at HA HCa fa ga;clear hm ha hx hsa hne;cases y with
   |i=>exact absurd (Or.inr rfl) he
   |j=>exact absurd (Or.inr rfl) he
   |cl d =>
    simp only[qt,Ql,qA,QaR,qab,zbP]at HB HCb fb gb;have HC2:=Xh (HCon.out d);rw[zaM]at HC2;show Calls _ _ _ _ fun e w'=>e=.returned (.bool (ZL (Qk (Za l) c) d))/\Below w.heap.size w w'
    rw[show decide (Kd.ty (.cl d)=.ty (.cl Zg))=decide (d=Zg) by rw[Bool.eq_iff_iff];simp]at hO;have hOr:decide (d=Zg)=true->ZL (Qk (Za l) c) d=true:=fun h=>by rw[Xm h];exact qx.2 hob
    have HOR:=Xh hOr;generalize decide (d=Zg)=r2 at *;generalize ZL (Qk (Za l) c) d=r at *;clear he HCon hb hy hsb hob hOr hR hcf hdx hdy;cases r2 with
    |true =>
     rw[HOR.out rfl];clear HOR;go_enter Tryz.func49,Tryz.ntmps49;go_wp2_with (first
      |(go_fit (HA.out _);rintro e w3⟨rfl,rfl⟩)
      |(go_fit (HB.out _);rintro e w3⟨rfl,rfl⟩))
     go_ret;exact⟨rfl,Xb⟩
    |false =>
     clear HOR;go_enter Tryz.func49,Tryz.ntmps49;go_wp2_with (first
      |(go_fit (HA.out _);rintro e w3⟨rfl,rfl⟩)
      |(go_fit (HB.out _);rintro e w3⟨rfl,rfl⟩)
      |(go_fit (HCa.out _);rintro e w3⟨rfl,rfl⟩)
      |(go_fit (HCb.out _);rintro e w3⟨rfl,rfl⟩)
      |(go_fit HEv.out;rintro e w4⟨⟨v,rfl,hv⟩,hB4⟩;(have hv2:=Ze hv);obtain⟨pv,kv,rfl⟩:=qe hv)
      |(go_fit (HC2.out _ _ hv2);rintro e w5⟨rfl,rfl⟩))
     go_ret;exact⟨rfl,hB4⟩
   |ar z =>
    rw[Xi (by intro h;cases h)]at hO;simp only[qt,Ql,qab,zbP]at HB fb gb;clear he HCon HCa HCb HEv hb hy hsb hob hR hcf hdx hdy;go_enter Tryz.func49,Tryz.ntmps49;go_wp2_with (first
     |(go_fit (HA.out _);rintro e w3⟨rfl,rfl⟩)
     |(go_fit (HB.out _);rintro e w3⟨rfl,rfl⟩))
    go_ret;exact⟨rfl,Xb⟩
 |ar u ih =>
  intro w a b y hm ha hb hx hy hdx hdy hsa hsb;by_cases he:Ty.ar u=y\/Ql y=false
  ·exact plain _ w a b y hm ha hb hx hy hdx hdy hsa hsb (by rcases he with he|he;exact Or.inl he;exact Or.inr (Or.inr he))
  ·have hne:Ty.ar u≠y:=fun h=>he (Or.inl h)
   have hT:=ZP (x:=.ty y) hb .t;have hE:=Zab (x:=.ty (.ar u)) (y:=.ty y) ha hb;have hN:=ZP (x:=.ty (.ar u)) ha .n;simp only[qo]at hT hN;rw[Xi (by intro h;cases h)]at hT hN;rw[Xi (by intro h;injection h with h;exact hne h)]at hE;have hO:=ZP (x:=.ty y) hb (.ty (.cl Zg));rw[show qo (.ty (.cl Zg))=[76,79,98,106,101,99,116,59] from rfl]at hO;have HA:Hid (∀wx,_):=fun wx=>QD a (.ty (.ar u)) wx ha (qP hcf hx hdx) hsa
   have HB:Hid (∀wx,_):=fun wx=>QD b (.ty y) wx hb (qaT hy hdy) hsb
   obtain⟨hpa,fa⟩:=ZK ha;obtain⟨hpb,fb⟩:=ZK hb;have ga:=Zak ha hpa;have gb:=Zak hb hpb;obtain⟨pl,cap,rfl,_⟩:=hm.open;simp only[qt,Ql,qab,zbP]at HA fa ga;cases y with
   |i=>exact absurd (Or.inr rfl) he
   |j=>exact absurd (Or.inr rfl) he
   |cl d =>
    simp only[qt,Ql,qab,zbP]at HB fb gb;show Calls _ _ _ _ fun e w'=>e=.returned (.bool (decide (d=Zg)))/\Below w.heap.size w w'
    rw[show decide (Kd.ty (.cl d)=.ty (.cl Zg))=decide (d=Zg) by rw[Bool.eq_iff_iff];simp]at hO;generalize decide (d=Zg)=r at *;clear he hm ha hb hx hy hsa hsb hne ih plain hdx hdy hR hcf;cases r;all_goals
     go_enter Tryz.func49,Tryz.ntmps49;go_wp2_with (first
      |(go_fit (HA.out _);rintro e w3⟨rfl,rfl⟩)
      |(go_fit (HB.out _);rintro e w3⟨rfl,rfl⟩))
     go_ret;exact⟨rfl,Xb⟩
   |ar v =>
    rw[Xi (by intro h;cases h)]at hO;simp only[qt,Ql,qab,zbP]at HB fb gb;obtain⟨ta,tas,hsz1⟩:=Zaa ha;obtain⟨tb,tbs,hsz2⟩:=Zaa hb;have du:Qp u<=3:=(by simp only[Qp]at hdx;omega);have dv:Qp v<=3:=(by simp only[Qp]at hdy;omega);have HA2:Hid (∀wx,_):=fun wx=>QD (a.extract 1 a.size) (.ty u) wx ta (qP hcf hx du) (Xf tas hsa)
    have HB2:Hid (∀wx,_):=fun wx=>QD (b.extract 1 b.size) (.ty v) wx tb (qaT (y:=v) hy dv) (Xf tbs hsb)
    have HI:Hid (∀wx,Below w.heap.size w wx->_):=fun wx hb=>ih wx (a.extract 1 a.size) (b.extract 1 b.size) v (hm.mono hb) ta tb hx hy du dv (Xf tas hsa) (Xf tbs hsb)
    have hw:Hid (Ql u=false\/Ql v=false->qT (Za l) u v=false):=fun h=>by
     rw[qa0 h];exact Xi fun he=>hne (by rw[he])
    simp only[qt]at HA2 HB2;show Calls _ _ _ _ fun e w'=>e=.returned (.bool (qT (Za l) u v))/\Below w.heap.size w w'
    exact zcT w pl _ cap a b _ _ (Ql u) (Ql v) _ HA.out HB.out HA2.out HB2.out HI.out (fun h=>hw.out (by cases hu:Ql u<;>cases hv:Ql v<;>simp[hu,hv]at h ⊢)) hpa hpb ga gb rfl rfl hsa hsb hT hE hN hO
set_option maxRecDepth 512
theorem Za3(l:List Qb)(lv:Value)(hR:Qj l)(hcf:∀c∈l,qd c=0)(w:World)(hm:qi w lv l)(a b:Str)(x y:Kd)(ha:zaX (Za l) a x)(hb:zaX (Za l) b y)(hdx:Zah x<=3)(hdy:Zah y<=3)(hsa:a.size<=maxLen)(hsb:b.size<=maxLen):
 Calls Tryz.prog 49 #[lv,.string a,.string b] w fun e w'=>e=.returned (.bool (Zx (Za l) x y))/\Below w.heap.size w w':=by
 have plain:(y=.t\/x=y\/(x=.n/\qt y=true))\/(qt x=false\/qt y=false)->Calls Tryz.prog 49 #[lv,.string a,.string b] w fun e w'=>e=.returned (.bool (Zx (Za l) x y))/\Below w.heap.size w w':=fun h =>
  (Zbd w l lv hR hcf hm a b x y ha.1 hb.1 ha.2 hdx (qP hcf hb.2 hdy) hsa hsb h).mono fun e w' ⟨h1,h2⟩=>⟨h1,h2▸Xb⟩
 cases x with
 |n=>exact plain (Or.inr (Or.inl rfl))
 |t=>exact plain (Or.inr (Or.inl rfl))
 |ty u =>
  cases y with
  |n=>exact plain (Or.inr (Or.inr rfl))
  |t=>exact plain (Or.inl (Or.inl rfl))
  |ty v=>exact zdc l lv hR hcf u w a b v hm ha.1 hb.1 ha.2 (za8 hcf v hb.2) hdx hdy hsa hsb
theorem Qcq{w:World}{b o:Nat}{v:Value}(h:w.cell? ⟨b,o,none⟩=some v):b<w.heap.size:=qG.lt (w:=w) (b:=b) (o:=o) (v:=v) (r:=[]) ⟨h,trivial⟩
set_option maxRecDepth 100000
theorem qa3(l:List Qb)(lv:Value)(c n:Str)(w:World)(hR:Qj l)(hlv:qi w lv l)(hk:(Qc (Za l) c).isSome=true):
 Calls Tryz.prog 83 #[lv,.string c,.string n] w fun e w'=>e=.returned (QaP (Zam (Za l) c n))/\Below w.heap.size w w':=by
 have HL:Hid (∀wx,Below w.heap.size w wx->_):=fun wx hb=>Qad l lv hR _ c wx (hlv.mono hb) hk Xl
 unfold qaj at HL;have HCO:Hid (∀(a:Str) wx,Below w.heap.size w wx->_):=fun a wx hb=>QA l lv a wx (hlv.mono hb)
 unfold qJ at HCO;obtain⟨pl,cap,rfl,_⟩:=hlv.open;have hblk:Blk (w.alloc (.cells #[.string ⟨#[]⟩,.string ⟨#[]⟩] 130)) w.heap.size 130 Zbi:=Blk.new w _ Zbi;have hB1:Below w.heap.size w (w.alloc (.cells #[.string ⟨#[]⟩,.string ⟨#[]⟩] 130)):=Xb.alloc Xl _;unfold Zam;clear hlv hk hR;generalize Zq (Za l) c=L at *;go_enter Tryz.func83,Tryz.ntmps83;go_wp2_with (go_fit (HL.out _ hB1);rintro e w3⟨⟨v3,rfl,hv3⟩,hB3⟩;obtain⟨pv,kv,rfl⟩:=qe hv3)
 have hs3:=Ze hv3;obtain⟨pv',kv',he,h1,h2,hcc⟩:=hs3.open;injection he with he1 he2 he3
 subst he1 he3;clear he2;have HC:=Xh hcc;have hlen:L.length<=9223372036854775807:=Xf h1 h2;have HBl:Hid (Blk w3 w.heap.size 130 Zbi):=hblk.step hB3;have HBw:=Xh (Qa hB1 Xl hB3);clear hs3 hcc hv3 hblk hB1 hB3 HL;go_loopw [10] (fun x wr=>∃k:Nat,k<=L.length/\Hid (Z0 (Za l) n (L.drop k)=Z0 (Za l) n L)/\Below w3.heap.size w3 wr/\x=.int .i64 k) (fun x _=>L.length-(intOf x).toNat)
 case atStart=>exact⟨0,by omega,rfl,Xb,rfl⟩
 case round =>
  obtain⟨k,hk,hff,hB,rfl⟩:=hrel;by_cases hkl:k<L.length
  ·obtain⟨a,ha⟩:∃a,L[k]? = some a:=⟨L[k],by simp[hkl]⟩;obtain⟨b,o,vs,rfl,hR,_,qc⟩:=HC.out k a ha;unfold zr at hR;subst hR;have HCell:Hid (∀wx,Below w3.heap.size w3 wx->wx.cell? ⟨b,o+k,none⟩=some (.string a)):=fun wx hb=>by have:=(qc.mono hb qc.lt).1;rwa [Nat.mul_one]at this
   have c0:=HCell.out wr hB;have Zc:=Qbq (Za l) n L k a ha;rw[hff.out]at Zc;have HCa:=Xh (HCO.out a wr (Qa HBw Xl hB));rw[show(Qc (Za l) a).getD zg=qh (Za l) a from rfl]at HCa;have HX:=Xh ha;clear ha qc hff;generalize qh (Za l) a=d at *;generalize (Qc (Za l) a).isSome=is at *;obtain⟨n2,s2,f2,b2,d2,m2⟩:=d;dsimp only at HCa Zc;have HS:=Xh Zc;have HBr:=Xh hB;clear Zc hB;go_wp2_with (go_fit HCa.out;rintro e w4⟨p1,k1,p2,k2,p3,k3,rfl,_,hfs,_,hB4,_⟩)
   have BX:=ZY w4 #[.string n2,.string s2,.slice p1 f2.length k1,.bool b2,.slice p2 d2.length k2,.slice p3 m2.length k3] 36;have hB5:=Qa (Qa HBr Xl hB4) Xl BX.below;have hfs5:=hfs.mono BX.below (by decide) (fun _ _ h=>h);generalize w4.alloc (.cells #[.string n2,.string s2,.slice p1 f2.length k1,.bool b2,.slice p2 d2.length k2,.slice p3 m2.length k3] 36)=w5 at *;obtain⟨pd',kd',he,g1,g2,hdd⟩:=hfs5.open;injection he with he1 he2 he3
   subst he1 he3;clear he2 hfs5 hfs;have HD:=Xh hdd;have hlen2:d2.length<=9223372036854775807:=Xf g1 g2;have HBX:=Xh BX;have HB5:=Xh hB5;clear hdd BX hB5 hB4 c0;go_loopw [13] (fun x wy=>∃j:Nat,j<=d2.length/\Hid (zab n (d2.drop j)=zab n d2)/\Below w5.heap.size w5 wy/\x=.int .i64 j) (fun x _=>d2.length-(intOf x).toNat)
   case atStart=>exact⟨0,by omega,rfl,Xb,rfl⟩
   case round =>
    obtain⟨j,hj,hgg,hB,rfl⟩:=hrel;obtain⟨y0,y1,y2,y3,y4,y5⟩:=qM (HBX.out.step hB);clear y0 y1 y2 y3 y5;by_cases hjl:j<d2.length
    ·obtain⟨f,hf⟩:∃a,d2[j]? = some a:=⟨d2[j],by simp[hjl]⟩;obtain⟨bb,oo,vs,rfl,hR,_,qc⟩:=HD.out j f hf;unfold ZE at hR;subst hR;obtain⟨u0,u1,_⟩:=qc.mono hB qc.lt;have hst2:=zbr n d2 j f hf;rw[hgg.out]at hst2;have HXf:=Xh hf;have e1:=Z5 f.name n;clear hf qc hgg;by_cases hyes:f.name=n
     ·rw[if_pos hyes]at hst2;rw[Xj hyes]at e1;have hS2:=HS.out;rw[hst2]at hS2;have hBe:=Qa HB5 Xl hB;have hBl:=HBl.out.step hBe;obtain⟨q0,q1⟩:=hBl.field;have hfz:=hBl.frozen;have hlt:=hBl.lt;have c0:=HCell.out wr hBe;have HF:=Xh hS2;have HE:=Xh (z7 (Qa HBw Xl hBe) (Nat.le_refl w.heap.size) (.string f.name) (.string f.type)).drew;clear hst2 hS2 hyes hBl hB hBe;go_upto_region 10 with fail;go_region
      all_goals go_wp2
      all_goals exact bodyPost_ret (v:=.tuple #[.string a,.agg #[.string f.name,.string f.type],.bool true]) (by simp[results,Tryz.results83,go_sem, *]) rfl ⟨by rw[HF.out];rfl,HE⟩
     ·rw[if_neg hyes]at hst2;rw[Xi hyes]at e1;have hst:=Xh hst2.symm;have HBa:=Xh hB;clear hst2 hyes hB;go_wp2_with fail;go_roundw;case rel=>exact⟨j+1,by omega,hst.out,HBa,by simp⟩
      case measure=>simp[intOf];omega
    ·obtain rfl:j=d2.length:=(by omega);have hno:zab n d2=none:=(by rw[<-hgg.out,Xg Xl];rfl);have hS2:=HS.out;rw[hno]at hS2;have hst:Hid (Z0 (Za l) n (L.drop (k+1))=Z0 (Za l) n L):=hS2.symm;have HBa:=Xh (Qa HB5 Xl hB);clear hno hS2 hgg hB;go_wp2_with fail;go_roundw;case rel=>exact⟨k+1,by omega,hst.out,HBa,by simp⟩
     case measure=>simp[intOf];omega
  ·obtain rfl:k=L.length:=(by omega);have hno:Z0 (Za l) n L=none:=(by rw[<-hff.out,Xg Xl];rfl);have hBl:=HBl.out.step hB;obtain⟨q0,q1⟩:=hBl.field;have hfz:=hBl.frozen;have hlt:=hBl.lt;have HS:=Xh hno;have HE:=Xh (z7 (Qa HBw Xl hB) (Nat.le_refl w.heap.size) (.string ⟨#[]⟩) (.string ⟨#[]⟩));clear hno hff hBl hB;go_wp2_with fail;exact bodyPost_ret (v:=.tuple #[.string ⟨#[]⟩,.agg #[.string ⟨#[]⟩,.string ⟨#[]⟩],.bool false]) (by simp[results,Tryz.results83,go_sem, *]) rfl ⟨by rw[HS.out];rfl,HE⟩
set_option maxRecDepth 512
def Zau(m:Zk)(v:Value):Prop:=∃pc kc ph kh,v=.agg #[.string m.name,.string m.type,.bool m.static,.bool m.abs,.bool m.priv,.int .i64 m.locals,.slice pc m.code.length kc,.slice ph m.handlers.length kh]
theorem Zau.none:Zau QG (.agg zo.toArray):=⟨.none,0,.none,0,rfl⟩
def Zcb(w:World)(o:Option Zk)(e:Ending)(w':World):Prop:=(∃v,e=.returned (.tuple #[v,.bool o.isSome])/\Zau (o.getD QG) v)/\Below w.heap.size w w'
set_option maxRecDepth 100000
theorem Zdc(l:List Qb)(lv:Value)(c n t:Str)(w:World)(hlv:qi w lv l):
 Calls Tryz.prog 198 #[lv,.string c,.string n,.string t] w (Zcb w (zao n t (qh (Za l) c).methods)):=by
 have HCO:Hid (∀wx,Below w.heap.size w wx->_):=fun wx hb=>QA l lv c wx (hlv.mono hb)
 unfold qJ at HCO;obtain⟨pl,cap,rfl,_⟩:=hlv.open;have hblk:Blk (w.alloc (.cells #[.string ⟨#[]⟩,.string ⟨#[]⟩,.bool false,.bool false,.bool false,.int .i64 0,.slice none 0 0,.slice none 0 0] 53)) w.heap.size 53 zo:=Blk.new w _ zo;have hB1:Below w.heap.size w (w.alloc (.cells #[.string ⟨#[]⟩,.string ⟨#[]⟩,.bool false,.bool false,.bool false,.int .i64 0,.slice none 0 0,.slice none 0 0] 53)):=Xb.alloc Xl _;rw[show(Qc (Za l) c).getD zg=qh (Za l) c from rfl]at HCO;clear hlv;generalize qh (Za l) c=d at *;generalize (Qc (Za l) c).isSome=is at *;obtain⟨n2,s2,f2,b2,d2,ms⟩:=d;dsimp only at *;go_enter Tryz.func198,Tryz.ntmps198;go_wp2_with (go_fit (HCO.out _ hB1);rintro e w4⟨p1,k1,p2,k2,p3,k3,rfl,_,_,hms,hB4,_⟩)
 have BX:=ZY w4 #[.string n2,.string s2,.slice p1 f2.length k1,.bool b2,.slice p2 d2.length k2,.slice p3 ms.length k3] 36;have HB5:=Xh (Qa (Qa hB1 Xl hB4) Xl BX.below);have hms5:Qg (w4.alloc (.cells #[.string n2,.string s2,.slice p1 f2.length k1,.bool b2,.slice p2 d2.length k2,.slice p3 ms.length k3] 36)) 8 (Zr _) _ _:=hms.mono BX.below (by decide) (fun _ _ h=>h.mono BX.below);have HBl:Hid (Blk (w4.alloc (.cells #[.string n2,.string s2,.slice p1 f2.length k1,.bool b2,.slice p2 d2.length k2,.slice p3 ms.length k3] 36)) w.heap.size 53 zo):=(hblk.step hB4).step BX.below;generalize w4.alloc (.cells #[.string n2,.string s2,.slice p1 f2.length k1,.bool b2,.slice p2 d2.length k2,.slice p3 ms.length k3] 36)=w5 at *;obtain⟨pd',kd',he,g1,g2,hdd⟩:=hms5.open;injection he with he1 he2 he3
 subst he1 he3;clear he2 hms5 hms;have HD:=Xh hdd;have hlen2:ms.length<=9223372036854775807:=Xf g1 g2;have HBX:=Xh BX;clear hdd BX hB4 hB1 hblk;go_loopw [12] (fun x wy=>∃j:Nat,j<=ms.length/\Hid (zao n t (ms.drop j)=zao n t ms)/\Below w5.heap.size w5 wy/\x=.int .i64 j) (fun x _=>ms.length-(intOf x).toNat)
 case atStart=>exact⟨0,by omega,rfl,Xb,rfl⟩
 case round =>
  obtain⟨k,hk,hff,hB,rfl⟩:=hrel;obtain⟨y0,y1,y2,y3,y4,y5⟩:=qM (HBX.out.step hB);clear y0 y1 y2 y3 y4;by_cases hkl:k<ms.length
  ·obtain⟨m,hx⟩:∃a,ms[k]? = some a:=⟨ms[k],by simp[hkl]⟩;obtain⟨b,o,vs,rfl,⟨cv,hv,rfl,k1,k2⟩,_,qc⟩:=HD.out k m hx;obtain⟨c0,c1,c2,c3,c4,c5,c6,c7,_⟩:=qc.mono hB qc.lt;have Zc:=ZbZ n t ms k m hx;rw[hff.out]at Zc;obtain⟨pc,kc,rfl,_⟩:=k1.open;obtain⟨ph,kh,rfl,_⟩:=k2.open;have e1:=Z5 m.name n;have e2:=Z5 m.type t;have HX:=Xh hx;clear k1 k2 qc hff hx;by_cases hyes:m.name=n/\m.type=t
   ·rw[if_pos hyes]at Zc;rw[Xj hyes.1]at e1;rw[Xj hyes.2]at e2;have hBl:=HBl.out.step hB;obtain⟨q0,q1,q2,q3,q4,q5,q6,q7⟩:=hBl.method;have hfz:=hBl.frozen;have hlt:=hBl.lt;have HS:=Xh Zc;have HE:=Xh (ZB (Qa HB5 Xl hB) (Nat.le_refl w.heap.size) (.string m.name) (.string m.type) (.bool m.static) (.bool m.abs) (.bool m.priv) (.int .i64 m.locals) (.slice pc m.code.length kc) (.slice ph m.handlers.length kh));clear Zc hyes hBl hB;go_wp2_with fail;exact bodyPost_ret (v:=.tuple #[.agg #[.string m.name,.string m.type,.bool m.static,.bool m.abs,.bool m.priv,.int .i64 m.locals,.slice pc m.code.length kc,.slice ph m.handlers.length kh],.bool true]) (by simp[results,Tryz.results198,go_sem, *]) rfl (by rw[HS.out];exact⟨⟨_,rfl,pc,kc,ph,kh,rfl⟩,HE⟩)
   ·rw[if_neg hyes]at Zc;have hst:=Xh Zc.symm;have hno:(decide (m.name=n)&&decide (m.type=t))=false:=by
     rw[Bool.and_eq_false_iff,decide_eq_false_iff_not,decide_eq_false_iff_not];by_cases h1:m.name=n
     ·exact Or.inr fun h2=>hyes ⟨h1,h2⟩
     ·exact Or.inl h1
    rw[<-e1,<-e2]at hno;have HBa:=Xh hB;clear Zc hyes hB e1 e2;obtain⟨b1,g1⟩:∃q,(m.name.toList==n.toList)=q:=⟨_,rfl⟩;obtain⟨b2,g2⟩:∃q,(m.type.toList==t.toList)=q:=⟨_,rfl⟩;rw[g1,g2]at hno;cases b1<;>cases b2
    all_goals first
     |(exact absurd hno (by decide))
     |(
      clear hno;go_wp2_with fail;go_roundw;case rel=>exact⟨k+1,by omega,hst.out,HBa,by simp⟩
      case measure=>simp[intOf];omega)
  ·obtain rfl:k=ms.length:=(by omega);have hno:zao n t ms=none:=(by rw[<-hff.out,Xg Xl];rfl);have hBl:=HBl.out.step hB;obtain⟨q0,q1,q2,q3,q4,q5,q6,q7⟩:=hBl.method;have hfz:=hBl.frozen;have hlt:=hBl.lt;have HS:=Xh hno;have HE:=Xh (ZB (Qa HB5 Xl hB) (Nat.le_refl w.heap.size) (.string ⟨#[]⟩) (.string ⟨#[]⟩) (.bool false) (.bool false) (.bool false) (.int .i64 0) (.slice none 0 0) (.slice none 0 0));clear hno hff hBl hB;go_wp2_with fail;exact bodyPost_ret (v:=.tuple #[.agg zo.toArray,.bool false]) (by simp[results,Tryz.results198,go_sem, *,zo]) rfl (by rw[HS.out];exact⟨⟨_,rfl,Zau.none⟩,HE⟩)
set_option maxRecDepth 512
def zbw(w:World)(o:Option (Str×Zk))(e:Ending)(w':World):Prop:=(∃v,e=.returned (qaL v o)/\Zau ((o.map (·.2)).getD QG) v)/\Below w.heap.size w w'
set_option maxRecDepth 100000
theorem qcA(l:List Qb)(lv:Value)(c n t:Str)(w:World)(hR:Qj l)(hcf:∀c∈l,qd c=0)(hlv:qi w lv l)(hk:(Qc (Za l) c).isSome=true):
 Calls Tryz.prog 166 #[lv,.string c,.string n,.string t] w (zbw w (zam (Za l) c n t)):=by
 have HL:Hid (∀wx,Below w.heap.size w wx->_):=fun wx hb=>Qad l lv hR _ c wx (hlv.mono hb) hk Xl
 have HEv:Hid (∀wx,Below w.heap.size w wx->_):=fun wx hb=>Qbv l lv c wx hR hcf (hlv.mono hb) hk (fun x hx=>ZcN hcf x hx)
 unfold qaj at HL HEv;have HCO:Hid (∀(a:Str) wx,Below w.heap.size w wx->_):=fun a wx hb=>QA l lv a wx (hlv.mono hb)
 have HOwn:Hid (∀(a:Str) wx,Below w.heap.size w wx->_):=fun a wx hb=>Zdc l lv a n t wx (hlv.mono hb)
 unfold qJ at HCO;unfold Zcb at HOwn;obtain⟨pl,cap,rfl,_⟩:=hlv.open;have hblk:Blk (w.alloc (.cells #[.string ⟨#[]⟩,.string ⟨#[]⟩,.bool false,.bool false,.bool false,.int .i64 0,.slice none 0 0,.slice none 0 0] 53)) w.heap.size 53 zo:=Blk.new w _ zo;have hB1:Below w.heap.size w (w.alloc (.cells #[.string ⟨#[]⟩,.string ⟨#[]⟩,.bool false,.bool false,.bool false,.int .i64 0,.slice none 0 0,.slice none 0 0] 53)):=Xb.alloc Xl _;have HMC:Hid (zam (Za l) c n t=match zT (Za l) n t (Zq (Za l) c) with
  |some x=>some x
  |none=>Zao (Za l) n t (qE (Qk (Za l) c)) [false,true]):=by
   unfold Hid;rw[<-qbZ];rfl
 clear hlv hk hR hcf;generalize zam (Za l) c n t=res at *;generalize Zq (Za l) c=L at *;generalize qE (Qk (Za l) c)=E at *;go_enter Tryz.func166,Tryz.ntmps166;go_wp2_with (go_fit (HL.out _ hB1);rintro e w3⟨⟨v3,rfl,hv3⟩,hB3⟩;obtain⟨pv,kv,rfl⟩:=qe hv3)
 have hs3:=Ze hv3;obtain⟨pv',kv',he,h1,h2,hcc⟩:=hs3.open;injection he with he1 he2 he3
 subst he1 he3;clear he2;have HC:=Xh hcc;have hlen:L.length<=9223372036854775807:=Xf h1 h2;have HBl:Hid (Blk w3 w.heap.size 53 zo):=hblk.step hB3;have HBw:=Xh (Qa hB1 Xl hB3);clear hs3 hcc hv3 hblk hB1 hB3 HL;go_loopw [12] (fun x wr=>∃k:Nat,k<=L.length/\Hid (zT (Za l) n t (L.drop k)=zT (Za l) n t L)/\Below w3.heap.size w3 wr/\x=.int .i64 k) (fun x _=>L.length-(intOf x).toNat)
 case atStart=>exact⟨0,by omega,rfl,Xb,rfl⟩
 case round =>
  obtain⟨k,hk,hff,hB,rfl⟩:=hrel;by_cases hkl:k<L.length
  ·obtain⟨a,ha⟩:∃a,L[k]? = some a:=⟨L[k],by simp[hkl]⟩;obtain⟨b,o,vs,rfl,hR,_,qc⟩:=HC.out k a ha;unfold zr at hR;subst hR;have HCell:Hid (∀wx,Below w3.heap.size w3 wx->wx.cell? ⟨b,o+k,none⟩=some (.string a)):=fun wx hb=>by have:=(qc.mono hb qc.lt).1;rwa [Nat.mul_one]at this
   have c0:=HCell.out wr hB;have Zc:=Zbb (Za l) n t L k a ha;rw[hff.out]at Zc;have HO:=Xh (HOwn.out a wr (Qa HBw Xl hB));have HX:=Xh ha;clear ha qc hff;generalize (qh (Za l) a).methods=m2 at *;cases hq:zao n t m2 with
   |some m =>
    rw[hq]at Zc HO;simp only[Option.isSome_some,Option.getD_some]at HO;have hres:Hid (res=some (a,m)):=(by unfold Hid;rw[HMC.out,Zc]);have HBr:=Xh hB;clear Zc hq HMC hB;go_upto_region 7 with(go_fit HO.out;rintro e w5⟨⟨v5,rfl,pc,kc,ph,kh,rfl⟩,hB5⟩)
    have hB5r:=Qa HBr Xl hB5;have hBl5:=HBl.out.step hB5r;obtain⟨q0,q1,q2,q3,q4,q5,q6,q7⟩:=hBl5.method;have hfz:=hBl5.frozen;have hlt:=hBl5.lt;have c1:=HCell.out w5 hB5r;have hbl:=Qcq (HCell.out w3 Xb);have hblt:b<w5.heap.size:=Nat.lt_of_lt_of_le hbl hB5r.size;have hBe:=Qa HBw Xl hB5r;have HE:=Xh ((ZB hBe (Nat.le_refl w.heap.size) (.string m.name) (.string m.type) (.bool m.static) (.bool m.abs) (.bool m.priv) (.int .i64 m.locals) (.slice pc m.code.length kc) (.slice ph m.handlers.length kh)).alloc (Xf hBe.size (by simp)) (.cells #[.string m.name,.string m.type,.bool m.static,.bool m.abs,.bool m.priv,.int .i64 m.locals,.slice pc m.code.length kc,.slice ph m.handlers.length kh] 53)).drew;clear hBl5 hBe hB5 hB5r;go_region
    all_goals go_wp2
    all_goals exact bodyPost_ret (v:=.tuple #[.string a,.agg #[.string m.name,.string m.type,.bool m.static,.bool m.abs,.bool m.priv,.int .i64 m.locals,.slice pc m.code.length kc,.slice ph m.handlers.length kh],.bool true]) (by simp[results,Tryz.results166,go_sem, *]) rfl (by rw[hres.out];exact⟨⟨_,rfl,pc,kc,ph,kh,rfl⟩,HE⟩)
   |none =>
    rw[hq]at Zc HO;simp only[Option.isSome_none,Option.getD_none]at HO;have hst:Hid (zT (Za l) n t (L.drop (k+1))=zT (Za l) n t L):=Zc.symm;have HBr:=Xh hB;clear Zc hq hB;go_wp2_with (go_fit HO.out;rintro e w5⟨⟨v5,rfl,pc,kc,ph,kh,rfl⟩,hB5⟩)
    go_roundw;case rel=>exact⟨k+1,by omega,hst.out,(Qa HBr Xl hB5).alloc (Qa HBr Xl hB5).size _,by simp⟩
    case measure=>simp[intOf];omega
  ·obtain rfl:k=L.length:=(by omega);have hno:zT (Za l) n t L=none:=(by rw[<-hff.out,Xg Xl];rfl);have HM2:Hid (res=Zao (Za l) n t E [false,true]):=(by unfold Hid;rw[HMC.out,hno]);have HBr:=Xh (Qa HBw Xl hB);have HEw:=Xh (HEv.out wr (Qa HBw Xl hB));have HBl4:Hid (Blk wr w.heap.size 53 zo):=HBl.out.step hB;clear hno hff HMC hB HBw HBl HC;go_wp2_with (go_fit HEw.out;rintro e w6⟨⟨v6,rfl,hv6⟩,hB6⟩;obtain⟨pe,ke,rfl⟩:=qe hv6)
   have hs6:=Ze hv6;obtain⟨pe',ke',he,h3,h4,hee⟩:=hs6.open;injection he with he1 he2 he3
   subst he1 he3;clear he2;have HCe:=Xh hee;have hlenE:E.length<=9223372036854775807:=Xf h3 h4;have HB6:=Xh (Qa HBr Xl hB6);have HBl6:Hid (Blk w6 w.heap.size 53 zo):=HBl4.out.step hB6;clear hee hs6 hv6 hB6 HEw HBl4 HBr;go_loopw [16] (fun x wx=>∃j:Nat,j<=2/\Hid (res=Zao (Za l) n t E ([false,true].drop j))/\Below w6.heap.size w6 wx/\x=.int .i64 j) (fun x _=>2-(intOf x).toNat)
   case atStart=>exact⟨0,by omega,HM2,Xb,rfl⟩
   case round =>
    obtain⟨j,hj,hgg,hB,rfl⟩:=hrel;by_cases hjl:j<2
    ·obtain⟨a,ha⟩:∃a,[false,true][j]? = some a:=⟨[false,true][j]'(by simp;omega),by simp⟩;have hja:(((j:Int))==1)=a:=by
      match j,ha with
      |0,ha=>simp at ha;subst ha;rfl
      |1,ha=>simp at ha;subst ha;rfl
     have Zc:=zbK (Za l) n t E [false,true] j a ha;have HG:Hid (res=match qH (Za l) n t a E with
      |some x=>some x
      |none=>Zao (Za l) n t E ([false,true].drop (j+1))):=hgg.out.trans Zc
     have hji:(j:Int)<2:=(by omega);have HBj:=Xh hB;clear ha Zc hgg;go_wp2_with fail;go_loopw [17] (fun x wy=>∃i:Nat,i<=E.length/\Hid (qH (Za l) n t a (E.drop i)=qH (Za l) n t a E)/\Below w6.heap.size w6 wy/\x=.int .i64 i) (fun x _=>E.length-(intOf x).toNat)
     case atStart=>exact⟨0,by omega,rfl,hB,rfl⟩
     case round =>
      clear hB;obtain⟨i,hi,hff,hB,rfl⟩:=hrel;by_cases hil:i<E.length
      ·obtain⟨z,hz⟩:∃a,E[i]? = some a:=⟨E[i],by simp[hil]⟩;obtain⟨be,oe,vs,rfl,hR,_,qc⟩:=HCe.out i z hz;unfold zr at hR;subst hR;have HCell:Hid (∀wx,Below w6.heap.size w6 wx->wx.cell? ⟨be,oe+i,none⟩=some (.string z)):=fun wx hb=>by have:=(qc.mono hb qc.lt).1;rwa [Nat.mul_one]at this
       have c0:=HCell.out wr hB;have Zc:=ZbK (Za l) n t a E i z hz;rw[hff.out]at Zc;have hBwr:=Qa HB6 Xl hB;have HCz:=Xh (HCO.out z wr hBwr);have HOz:Hid (∀wx,Below wr.heap.size wr wx->_):=fun wx hb=>HOwn.out z wx (Qa hBwr Xl hb)
       rw[show(Qc (Za l) z).getD zg=qh (Za l) z from rfl]at HCz;have HZ:=Xh hz;have HBwr:=Xh hBwr;clear hz qc hff hBwr;generalize qh (Za l) z=d at *;generalize (Qc (Za l) z).isSome=is at *;obtain⟨n2,s2,f2,b2,d2,m2⟩:=d;dsimp only at Zc HCz HOz;have HBr2:=Xh hB;clear hB;go_upto_region 16 with(go_fit HCz.out;rintro e w4⟨p1,k1,p2,k2,p3,k3,rfl,_,_,_,hB4,_⟩)
       have BX:=ZY w4 #[.string n2,.string s2,.slice p1 f2.length k1,.bool b2,.slice p2 d2.length k2,.slice p3 m2.length k3] 36;have hB5:=Qa hB4 Xl BX.below;generalize w4.alloc (.cells #[.string n2,.string s2,.slice p1 f2.length k1,.bool b2,.slice p2 d2.length k2,.slice p3 m2.length k3] 36)=w5 at *;have c1:=HCell.out w5 (Qa HBr2 Xl hB5);have HO5:=Xh (HOz.out w5 hB5);have HBX:=Xh BX;have HB5:=Xh hB5;clear BX hB5 hB4 HCz HOz c0;cases hq:zao n t m2 with
       |none =>
        rw[hq]at Zc HO5;simp only[Option.isSome_none,Option.getD_none]at HO5;have hst:Hid (qH (Za l) n t a (E.drop (i+1))=qH (Za l) n t a E):=Zc.symm;clear Zc hq;go_wp2_with (go_fit HO5.out;rintro e w7⟨⟨v7,rfl,pc,kc,ph,kh,rfl⟩,hB7⟩)
        go_roundw;case rel =>
         have hBq:=Qa (Qa HBr2 Xl HB5) Xl hB7;exact⟨i+1,by omega,hst.out,hBq.alloc hBq.size _,by simp⟩
        case measure=>simp[intOf];omega
       |some m =>
        rw[hq]at Zc HO5;simp only[Option.isSome_some,Option.getD_some]at HO5;clear hq;go_upto_region 17 with(go_fit HO5.out;rintro e w7⟨⟨v7,rfl,pc,kc,ph,kh,rfl⟩,hB7⟩)
        have hBx7:=HBX.out.step hB7;obtain⟨y0,y1,y2,y3,y4,y5⟩:=qM hBx7;have hlt7:=hBx7.size;have hB7w:=Qa (Qa HBr2 Xl HB5) Xl hB7;have hBa7:=hB7w.alloc hB7w.size (.cells #[.string m.name,.string m.type,.bool m.static,.bool m.abs,.bool m.priv,.int .i64 m.locals,.slice pc m.code.length kc,.slice ph m.handlers.length kh] 53);obtain⟨yes,hy⟩:∃q,(m.abs==a)=q:=⟨_,rfl⟩;rw[hy]at Zc;have HBa7:=Xh hBa7;have HB7w:=Xh hB7w;have HS:=Xh Zc;clear Zc hBa7 hB7w hB7 hBx7 y0 y1 y2 y4 y5;by_cases hbb:(b2&&yes)=true
        ·rw[Bool.and_eq_true]at hbb;obtain⟨rfl,rfl⟩:=hbb;have hres:Hid (res=some (z,m)):=by
          unfold Hid;rw[HG.out,HS.out];rfl
         have hBl7:=HBl6.out.step HB7w.out;obtain⟨q0,q1,q2,q3,q4,q5,q6,q7⟩:=hBl7.method;have hfz:=hBl7.frozen;have hlt:=hBl7.lt;have c7:=HCell.out w7 HB7w.out;have hblt:be<w7.heap.size:=Nat.lt_of_lt_of_le (Qcq (HCell.out w6 Xb)) HB7w.out.size;have hBe:=Qa HB6 Xl HB7w.out;have HE:=Xh ((ZB hBe (Nat.le_refl w.heap.size) (.string m.name) (.string m.type) (.bool m.static) (.bool m.abs) (.bool m.priv) (.int .i64 m.locals) (.slice pc m.code.length kc) (.slice ph m.handlers.length kh)).alloc (Xf hBe.size (by simp)) (.cells #[.string m.name,.string m.type,.bool m.static,.bool m.abs,.bool m.priv,.int .i64 m.locals,.slice pc m.code.length kc,.slice ph m.handlers.length kh] 53)).drew;clear hBl7 hBe;go_upto_region 18 with fail;go_region
         all_goals go_wp2
         all_goals exact bodyPost_ret (v:=.tuple #[.string z,.agg #[.string m.name,.string m.type,.bool m.static,.bool m.abs,.bool m.priv,.int .i64 m.locals,.slice pc m.code.length kc,.slice ph m.handlers.length kh],.bool true]) (by simp[results,Tryz.results166,go_sem, *]) rfl (by rw[hres.out];exact⟨⟨_,rfl,pc,kc,ph,kh,rfl⟩,HE⟩)
        ·have hst:Hid (qH (Za l) n t a (E.drop (i+1))=qH (Za l) n t a E):=by
          unfold Hid;rw[HS.out,if_neg hbb]
         cases b2<;>cases yes<;>first|(exact absurd rfl hbb)|skip
         all_goals
          clear hbb;go_wp2_with fail;go_roundw;case rel=>exact⟨i+1,by omega,hst.out,HBa7,by simp⟩
          case measure=>simp[intOf];omega
      ·obtain rfl:i=E.length:=(by omega);have hno:qH (Za l) n t a E=none:=(by rw[<-hff.out,Xg Xl];rfl);have hst:Hid (res=Zao (Za l) n t E ([false,true].drop (j+1))):=(by unfold Hid;rw[HG.out,hno]);have HBe:=Xh hB;clear hno hff hB HG;go_wp2_with fail;go_roundw;case rel=>exact⟨j+1,by omega,hst.out,HBe,by simp⟩
       case measure=>simp[intOf];omega
    ·obtain rfl:j=2:=(by omega);have hres:Hid (res=none):=hgg.out;have hBl:=HBl6.out.step hB;obtain⟨q0,q1,q2,q3,q4,q5,q6,q7⟩:=hBl.method;have hfz:=hBl.frozen;have hlt:=hBl.lt;have HE:=Xh (ZB (Qa HB6 Xl hB) (Nat.le_refl w.heap.size) (.string ⟨#[]⟩) (.string ⟨#[]⟩) (.bool false) (.bool false) (.bool false) (.int .i64 0) (.slice none 0 0) (.slice none 0 0));clear hgg hBl hB;go_wp2_with fail;exact bodyPost_ret (v:=.tuple #[.string ⟨#[]⟩,.agg zo.toArray,.bool false]) (by simp[results,Tryz.results166,go_sem, *,zo]) rfl (by rw[hres.out];exact⟨⟨_,rfl,Zau.none⟩,HE⟩)
set_option maxRecDepth 512
end Go.Proofs.YtlmfmioljeppfaaGreatDoor
