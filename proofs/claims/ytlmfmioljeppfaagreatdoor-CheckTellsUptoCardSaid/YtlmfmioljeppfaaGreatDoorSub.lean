/- Lemmas; conditions: as each states. -/
import Derived.Test.YtlmfmioljeppfaaGreatDoorLayLaw
set_option maxHeartbeats 4000000
namespace Go.Proofs.YtlmfmioljeppfaaGreatDoor
open Go.RowKit Go.Shelf Go.Lib
set_option maxRecDepth 100000
theorem Qai(k:Str)(x:Ty)(w:World)(h:Zf x=lst k)(hs:k.size<=maxLen):Calls Tryz.prog 129 #[.string k] w fun e w'=>e=.returned (.string (str (qA x)))/\w=w':=by
 have HT:=Xh (zbu k w);have hr:lst (k.extract (qu k.data.toList) k.size)=Zf (Z4 x):=by
  have h1:=Lib.extract_to_end k (qu k.data.toList);rw[show k.data.toList=Zf x from h.symm,ZaB,Qbs]at h1;rw[show k.data.toList=Zf x from h.symm,ZaB];unfold lst;rw[<-h1]
 have hrk:(k.extract (qu k.data.toList) k.size).size<=k.size:=by rw[ByteArray.size_extract];omega
 generalize k.extract (qu k.data.toList) k.size=r at *;have HN:Hid (∀w,_):=fun w=>zbj r w
 rw[show r.data.toList=Zf (Z4 x) from hr,zcN]at HN;clear h;rcases QaS x with⟨hc,hb⟩|⟨hc,hb⟩|⟨c,hc,hb⟩
 ·rw[hc]at HN;rw[hb];clear hr hc hb;go_enter Tryz.func129,Tryz.ntmps129;go_wp2_with (first
   |(go_fit HT.out;rintro e w2⟨rfl,rfl⟩)
   |(go_fit (HN.out _);rintro e w3⟨rfl,rfl⟩))
  go_ret;exact⟨rfl,rfl⟩
 ·rw[hc]at HN;rw[hb];clear hr hc hb;go_enter Tryz.func129,Tryz.ntmps129;go_wp2_with (first
   |(go_fit HT.out;rintro e w2⟨rfl,rfl⟩)
   |(go_fit (HN.out _);rintro e w3⟨rfl,rfl⟩))
  go_ret;exact⟨rfl,rfl⟩
 ·rw[hc]at HN hr;rw[hb];have hsz:r.size=c.size+2:=by
   have:=congrArg List.length hr;simp[Zf,lst]at this;have e1:r.size=r.data.size:=rfl;have e2:c.size=c.data.size:=rfl;omega
  have hcut:r.extract 1 (c.size+2-1)=str (lst c):=by
   apply ByteArray.ext;apply Array.toList_inj.1;have h1:(r.extract 1 (c.size+2-1)).data.toList=((lst r).drop 1).take (c.size+2-1-1):=by
    rw[ByteArray.data_extract,Array.toList_extract,List.extract_eq_take_drop]
   rw[h1,hr];show(lst c++[59]).take (c.size+2-1-1)=lst c
   have e2:(lst c).length=c.size:=rfl;rw[List.take_append_of_le_length (by omega),List.take_of_length_le (by omega)]
  have HCut:=Xh hcut;have hrs:c.size+2<=9223372036854775807:=by unfold maxLen at hs;omega
  clear hc hb hs hcut;go_enter Tryz.func129,Tryz.ntmps129;go_wp2_with (first
   |(go_fit HT.out;rintro e w2⟨rfl,rfl⟩)
   |(go_fit (HN.out _);rintro e w3⟨rfl,rfl⟩))
  go_ret;exact⟨by rw[<-HCut.out];rfl,rfl⟩
set_option maxRecDepth 512
theorem QdJ(x:Kd):(Lib.hasPrefix (qo x) [76]||Lib.hasPrefix (qo x) [91])=qt x:=by
 cases x with
 |n=>rfl
 |t=>rfl
 |ty y=>cases y<;>rfl
theorem zN(k:Str)(x:Kd)(w:World)(h:qo x=lst k):Calls Tryz.prog 151 #[.string k] w fun e w'=>e=.returned (.bool (qt x))/\w=w':=by
 have H1:=Xh (Zy k ⟨#[76]⟩ w);have H2:=Xh (Zy k ⟨#[91]⟩ w);rw[show k.data.toList=qo x from h.symm]at H1 H2;have hr:Hid ((Lib.hasPrefix (qo x) [76]||Lib.hasPrefix (qo x) [91])=qt x):=QdJ x;simp only at H1 H2;generalize Lib.hasPrefix (qo x) [76]=a at *;generalize Lib.hasPrefix (qo x) [91]=b at *;clear h;cases a<;>cases b
 all_goals
  go_enter Tryz.func151,Tryz.ntmps151;go_wp2_with (first
   |(go_fit H1.out;rintro e w2⟨rfl,rfl⟩)
   |(go_fit H2.out;rintro e w3⟨rfl,rfl⟩))
  go_ret;exact⟨by rw[<-hr.out];rfl,rfl⟩
def qbI:Str:=⟨#[76,79,98,106,101,99,116,59]⟩
theorem zaS(w:World):Calls Tryz.prog 142 #[.string ⟨#[79,98,106,101,99,116]⟩] w fun e w'=>e=.returned (.string qbI)/\w=w':=by
 go_enter Tryz.func142,Tryz.ntmps142;go_wp2
 go_ret;exact⟨rfl,rfl⟩
theorem Qdn:∀x:Ty,(qA x).length<=(Zf x).length
 |.i=>Nat.zero_le _
 |.j=>Nat.zero_le _
 |.cl c=>by simp[qA,Zf];omega
 |.ar x=>Xf (Qdn x) (by simp[Zf])
theorem ZP{k:Str}{x:Kd}(h:qo x=lst k)(z:Kd):(k.toList==qo z)=decide (x=z):=by
 rw[ByteArray.toList_eq,show k.data.toList=qo x from h.symm,Bool.eq_iff_iff,beq_iff_eq,decide_eq_true_eq];exact⟨qbg,fun h=>by rw[h]⟩
theorem Zab{k m:Str}{x y:Kd}(h:qo x=lst k)(g:qo y=lst m):(k.toList==m.toList)=decide (x=y):=by
 have:=ZP h y;rwa [show qo y=m.toList from by rw[g,ByteArray.toList_eq]]at this
set_option maxRecDepth 100000
theorem qb0(w0 w:World)(B:Nat)(cs:List Qb)(hm:Zp w0 w B cs)(hn:(cs.map (·.name)).Nodup)(k:Str)(hs:k.size<=maxLen):
 Calls Tryz.prog 91 #[.map (some B),.string k] w fun e w'=>e=.returned (zE (zd cs k))/\Below w.heap.size w w':=by
 by_cases h1:lst k=[78]\/lst k=[84]
 ·have hr:zd cs k=0:=by unfold zd;rw[if_pos h1]
  rw[hr];have hk1:(k.toList==[78])=decide (lst k=[78]):=by rw[ByteArray.toList_eq,Bool.eq_iff_iff];simp
  have hk2:(k.toList==[84])=decide (lst k=[84]):=by rw[ByteArray.toList_eq,Bool.eq_iff_iff];simp
  clear hm hn hr;rcases h1 with h1|h1
  ·rw[Xj h1]at hk1;clear hk2 h1;go_enter Tryz.func91,Tryz.ntmps91;go_wp2
   go_ret;exact⟨rfl,Xb⟩
  ·rw[Xj h1]at hk2;rw[Xi (by rw[h1];decide)]at hk1;clear h1;go_enter Tryz.func91,Tryz.ntmps91;go_wp2
   go_ret;exact⟨rfl,Xb⟩
 ·have hk1:(k.toList==[78])=false:=by rw[ByteArray.toList_eq];simpa using fun h=>h1 (Or.inl h)
  have hk2:(k.toList==[84])=false:=by rw[ByteArray.toList_eq];simpa using fun h=>h1 (Or.inr h)
  have HD:=Xh (Zav k w hs);rw[zck]at HD;have HK:Hid (zd cs k=if !Qs (lst k) then 1 else if (zak (lst k)).isEmpty then 0 else if (Qc cs (str (zak (lst k)))).isSome then 0 else 3):=by unfold Hid zd;rw[if_neg h1]
  clear h1;cases ht:Qs (lst k) with
  |false =>
   rw[ht]at HD HK;have hr:zd cs k=1:=HK.out;rw[hr,show zE 1=.iface 29 (.int .i64 1) from rfl];replace HD:Hid (Calls Tryz.prog 53 #[.string k] w fun e w'=>e=.returned (.iface 29 (.int .i64 1))/\Below w.heap.size w w'):=HD;clear HK hr ht hm hn hs;go_enter Tryz.func91,Tryz.ntmps91;go_wp2_with (go_fit HD.out;rintro e w2⟨rfl,hB2⟩)
   go_ret;exact⟨rfl,hB2⟩
  |true =>
   rw[ht]at HD HK;replace HD:Hid (Calls Tryz.prog 53 #[.string k] w fun e w'=>e=.returned .nilIface/\Below w.heap.size w w'):=HD;obtain⟨x,h3,h4,_⟩:=zax (lst k) ht;rw[h4]at HK;replace HK:Hid (zd cs k=if (qA x).isEmpty then 0 else if (Qc cs (str (qA x))).isSome then 0 else 3):=HK;have HC:Hid (∀wx,_):=fun wx=>Qai k x wx h3 hs
   have hbs:(str (qA x)).size<=maxLen:=by
    have:=Qdn x;rw[h3]at this;exact Xf this hs
   have hbe:(str (qA x)).toList.isEmpty=(qA x).isEmpty:=(by rw[ByteArray.toList_eq];rfl);obtain⟨p1,k1,p2,k2,p3,k3,_,_,_,hlk⟩:=hm.look3 hn (str (qA x)) hbs;have HL:=Xh hlk;clear hlk hm hn hs h3 h4 ht hbs;generalize (Qc cs (str (qA x))).isSome=is at *;generalize (Qc cs (str (qA x))).getD zg=d at *;generalize str (qA x)=b at *;generalize (qA x).isEmpty=em at *;obtain⟨n2,s2,f2,b2,d2,m2⟩:=d;unfold Qz at HL;dsimp only at HL;cases em with
   |true =>
    have hr:zd cs k=0:=HK.out;rw[hr,show zE 0=.nilIface from rfl];clear HK hr HL;go_enter Tryz.func91,Tryz.ntmps91;go_wp2_with (first
     |(go_fit HD.out;rintro e w2⟨rfl,hB2⟩)
     |(go_fit (HC.out _);rintro e w3⟨rfl,rfl⟩))
    go_ret;exact⟨rfl,hB2⟩
   |false =>
    cases is with
    |true =>
     have hr:zd cs k=0:=HK.out;rw[hr,show zE 0=.nilIface from rfl];clear HK hr;go_enter Tryz.func91,Tryz.ntmps91;go_upto_region 8 with(first
      |(go_fit HD.out;rintro e w2⟨rfl,hB2⟩)
      |(go_fit (HC.out _);rintro e w3⟨rfl,rfl⟩))
     have hl2:=(HL.out _ hB2).1;go_wp2_with fail;go_ret;exact⟨rfl,hB2.alloc hB2.size _⟩
    |false =>
     have hr:zd cs k=3:=HK.out;rw[hr,show zE 3=.iface 29 (.int .i64 3) from rfl];clear HK hr;go_enter Tryz.func91,Tryz.ntmps91;go_upto_region 8 with(first
      |(go_fit HD.out;rintro e w2⟨rfl,hB2⟩)
      |(go_fit (HC.out _);rintro e w3⟨rfl,rfl⟩))
     have hl2:=(HL.out _ hB2).1;go_wp2_with fail;go_ret;exact⟨rfl,hB2.alloc hB2.size _⟩
set_option maxRecDepth 512
def qab:Ty->Bool
 |.cl _=>true
 |_=>false
theorem ZK{k:Str}{x:Ty}(h:Zf x=lst k):∃hp:0<k.size,(((k[0]'hp).toNat:Int)==76)=qab x:=by
 have hp:0<k.size:=by
  have h1:(lst k).length=k.size:=rfl;rw[<-h]at h1;have:=List.length_pos_iff.2 (zaB x);omega
 refine⟨hp,?_⟩;have hk:k[0]'hp=(lst k)[0]'(by have h1:(lst k).length=k.size:=rfl;omega):=rfl;have h0:(lst k)[0]? = (Zf x)[0]?:=by rw[h]
 rw[hk];have h2:(lst k)[0]? = some ((lst k)[0]'(by have h1:(lst k).length=k.size:=rfl;omega)):=Xn _;rw[h2]at h0;generalize (lst k)[0]'(by have h1:(lst k).length=k.size:=rfl;omega)=b at *;cases x with
 |i=>simp[Zf]at h0;subst h0;rfl
 |j=>simp[Zf]at h0;subst h0;rfl
 |cl c=>simp[Zf]at h0;subst h0;rfl
 |ar y=>simp[Zf]at h0;subst h0;rfl
theorem Zcq{l:List Qb}(hr:Qj l){x y:Kd}(hx:zL (Za l) x=true)(h:y=.t\/x=y\/(x=.n/\qt y=true)):Zx (Za l) x y=true:=by
 rcases h with rfl|rfl|⟨rfl,h⟩
 ·cases x<;>rfl
 ·exact Zdw hr x hx
 ·cases y with
  |n=>rfl
  |t=>rfl
  |ty z=>exact h
theorem qcq{cs:List Qb}{x y:Kd}(h1:y≠.t)(h2:x≠y)(h3:¬(x=.n/\qt y=true))(h:qt x=false\/qt y=false):Zx cs x y=false:=by
 cases y with
 |t=>exact absurd rfl h1
 |n=>cases x with
  |n=>exact absurd rfl h2
  |t=>rfl
  |ty _=>rfl
 |ty z=>cases x with
  |n =>
   cases hz:Ql z with
   |true=>exact absurd ⟨rfl,hz⟩ h3
   |false=>exact hz
  |t=>rfl
  |ty u =>
   show qT cs u z=false
   rw[qa0 h];exact Xi fun he=>h2 (by rw[he])
set_option maxRecDepth 100000
theorem zcd(w0 w:World)(B:Nat)(l:List Qb)(hm:Qw w0 w B l)(a b:Str)(x y:Kd)(ha:qo x=lst a)(hb:qo y=lst b)(hx:zL (Za l) x=true)(h:(y=.t\/x=y\/(x=.n/\qt y=true))\/(qt x=false\/qt y=false)):
 Calls Tryz.prog 185 #[.map (some B),.string a,.string b] w fun e w'=>e=.returned (.bool (Zx (Za l) x y))/\w=w':=by
 have hT:=ZP hb .t;have hE:=Zab ha hb;have hN:=ZP ha .n;have HA:Hid (∀wx,_):=fun wx=>zN a x wx ha
 have HB:Hid (∀wx,_):=fun wx=>zN b y wx hb
 simp only[qo]at hT hN;by_cases h0:y=.t\/x=y\/(x=.n/\qt y=true)
 ·rw[Zcq hm.right hx h0];obtain⟨eT,hT2⟩:∃e,decide (y=Kd.t)=e:=⟨_,rfl⟩;obtain⟨eE,hE2⟩:∃e,decide (x=y)=e:=⟨_,rfl⟩;obtain⟨eN,hN2⟩:∃e,decide (x=Kd.n)=e:=⟨_,rfl⟩;have hor:(eT||eE||(eN&&qt y))=true:=by
   rw[<-hT2,<-hE2,<-hN2];rcases h0 with h0|h0|⟨h0,h1⟩<;>simp[*]
  rw[hT2]at hT;rw[hE2]at hE;rw[hN2]at hN;clear hT2 hE2 hN2 h0 h hm ha hb hx;generalize qt x=rx at *;generalize qt y=ry at *;cases eT<;>cases eE<;>cases eN<;>cases ry<;>first|(exact absurd hor (by decide))|skip
  all_goals
   clear hor;go_enter Tryz.func185,Tryz.ntmps185;go_wp2_with (go_fit (HB.out _);rintro e w3⟨rfl,rfl⟩)
   go_ret;exact⟨rfl,rfl⟩
 ·have h1:y≠.t:=fun h=>h0 (Or.inl h)
  have h2:x≠y:=fun h=>h0 (Or.inr (Or.inl h))
  have h3:¬(x=.n/\qt y=true):=fun h=>h0 (Or.inr (Or.inr h))
  have hw:qt x=false\/qt y=false:=by
   rcases h with h|h
   ·exact absurd h h0
   ·exact h
  rw[qcq h1 h2 h3 hw];rw[Xi h1]at hT;rw[Xi h2]at hE;obtain⟨eN,hN2⟩:∃e,decide (x=Kd.n)=e:=⟨_,rfl⟩;have hor:(eN&&qt y)=false:=by
   rw[<-hN2];cases hr:qt y with
   |false=>simp
   |true=>simp;exact fun h=>h3 ⟨h,hr⟩
  have hor2:(qt x&&qt y)=false:=by
   rcases hw with h|h<;>simp[h]
  rw[hN2]at hN;clear hN2 h0 h hm ha hb hx h1 h2 h3 hw;generalize qt x=rx at *;generalize qt y=ry at *;cases eN<;>cases rx<;>cases ry<;>first|(exact absurd hor (by decide))|(exact absurd hor2 (by decide))|skip
  all_goals
   clear hor hor2;go_enter Tryz.func185,Tryz.ntmps185;go_wp2_with (first
    |(go_fit (HA.out _);rintro e w3⟨rfl,rfl⟩)
    |(go_fit (HB.out _);rintro e w3⟨rfl,rfl⟩))
   go_ret;exact⟨rfl,rfl⟩
set_option maxRecDepth 512
theorem Zaa{k:Str}{x:Ty}(h:Zf (.ar x)=lst k):Zf x=lst (k.extract 1 k.size)/\(k.extract 1 k.size).size<=k.size/\1<=k.size:=by
 have h1:lst (k.extract 1 k.size)=(lst k).drop 1:=by
  unfold lst;exact(Lib.extract_to_end k 1).symm▸rfl
 refine⟨by rw[h1,<-h];rfl,by rw[ByteArray.size_extract];omega,?_⟩;have h2:(lst k).length=k.size:=rfl;rw[<-h2,<-h];simp[Zf]
theorem QaR(c:Str):str (lst c)=c:=rfl
set_option maxRecDepth 100000
theorem qef(w0:World)(B:Nat)(l:List Qb):∀(x:Ty) (w:World) (a b:Str) (y:Ty),Qw w0 w B l->Zf x=lst a->Zf y=lst b->ZH (Za l) x=true->a.size<=maxLen->b.size<=maxLen ->
 Calls Tryz.prog 185 #[.map (some B),.string a,.string b] w fun e w'=>e=.returned (.bool (qT (Za l) x y))/\Below w.heap.size w w':=by
 have plain:∀(x:Ty) (w:World) (a b:Str) (y:Ty),Qw w0 w B l->Zf x=lst a->Zf y=lst b->ZH (Za l) x=true->(x=y\/Ql x=false\/Ql y=false) ->
  Calls Tryz.prog 185 #[.map (some B),.string a,.string b] w fun e w'=>e=.returned (.bool (qT (Za l) x y))/\Below w.heap.size w w':=fun x w a b y hm ha hb hx h =>
  (zcd w0 w B l hm a b (.ty x) (.ty y) ha hb hx (by
   rcases h with h|h
   ·exact Or.inl (Or.inr (Or.inl (by rw[h])))
   ·exact Or.inr h)).mono fun e w' ⟨h1,h2⟩=>⟨h1,h2▸Xb⟩
 intro x;induction x with
 |i=>intro w a b y hm ha hb hx _ _;exact plain _ w a b y hm ha hb hx (Or.inr (Or.inl rfl))
 |j=>intro w a b y hm ha hb hx _ _;exact plain _ w a b y hm ha hb hx (Or.inr (Or.inl rfl))
 |cl c =>
  intro w a b y hm ha hb hx hsa hsb;by_cases he:Ty.cl c=y\/Ql y=false
  ·exact plain _ w a b y hm ha hb hx (by rcases he with he|he;exact Or.inl he;exact Or.inr (Or.inr he))
  ·have hne:Ty.cl c≠y:=fun h=>he (Or.inl h)
   have hT:=ZP (x:=.ty y) hb .t;have hE:=Zab (x:=.ty (.cl c)) (y:=.ty y) ha hb;have hN:=ZP (x:=.ty (.cl c)) ha .n;simp only[qo]at hT hN;rw[Xi (by intro h;cases h)]at hT hN;rw[Xi (by intro h;injection h with h;exact hne h)]at hE;have HA:Hid (∀wx,_):=fun wx=>zN a (.ty (.cl c)) wx ha
   have HB:Hid (∀wx,_):=fun wx=>zN b (.ty y) wx hb
   have HCa:Hid (∀wx,_):=fun wx=>Qai a (.cl c) wx ha hsa
   have HCb:Hid (∀wx,_):=fun wx=>Qai b y wx hb hsb
   obtain⟨hpa,fa⟩:=ZK ha;obtain⟨hpb,fb⟩:=ZK hb;have HEv:=Xh (qbD w0 w B (Za l) hm.map hm.right.nodup hm.faces hm.right.small hm.right.closed c hx);have HCon:Hid (∀d v wx,Qh wx v (qE (Qk (Za l) c))->_):=fun d v wx h=>qan (qE (Qk (Za l) c)) v d wx h
   simp only[qt,Ql,qA,QaR,qab]at HA HCa fa;clear hm ha hx hsa hne;cases y with
   |i=>exact absurd (Or.inr rfl) he
   |j=>exact absurd (Or.inr rfl) he
   |cl d =>
    simp only[qt,Ql,qA,QaR,qab]at HB HCb fb;have HC2:=Xh (HCon.out d);rw[zaM]at HC2;show Calls _ _ _ _ fun e w'=>e=.returned (.bool (ZL (Qk (Za l) c) d))/\Below w.heap.size w w'
    generalize ZL (Qk (Za l) c) d=r at *;clear he HCon hb hsb;go_enter Tryz.func185,Tryz.ntmps185;go_wp2_with (first
     |(go_fit (HA.out _);rintro e w3⟨rfl,rfl⟩)
     |(go_fit (HB.out _);rintro e w3⟨rfl,rfl⟩)
     |(go_fit (HCa.out _);rintro e w3⟨rfl,rfl⟩)
     |(go_fit (HCb.out _);rintro e w3⟨rfl,rfl⟩)
     |(go_fit HEv.out;rintro e w4⟨⟨v,rfl,hv⟩,hB4⟩)
     |(go_fit (HC2.out _ _ hv);rintro e w5⟨rfl,rfl⟩))
    go_ret;exact⟨rfl,hB4⟩
   |ar z =>
    simp only[qt,Ql,qab]at HB fb;clear he HCon HCa HCb HEv hb hsb;go_enter Tryz.func185,Tryz.ntmps185;go_wp2_with (first
     |(go_fit (HA.out _);rintro e w3⟨rfl,rfl⟩)
     |(go_fit (HB.out _);rintro e w3⟨rfl,rfl⟩))
    go_ret;exact⟨rfl,Xb⟩
 |ar u ih =>
  intro w a b y hm ha hb hx hsa hsb;by_cases he:Ty.ar u=y\/Ql y=false
  ·exact plain _ w a b y hm ha hb hx (by rcases he with he|he;exact Or.inl he;exact Or.inr (Or.inr he))
  ·have hne:Ty.ar u≠y:=fun h=>he (Or.inl h)
   have hT:=ZP (x:=.ty y) hb .t;have hE:=Zab (x:=.ty (.ar u)) (y:=.ty y) ha hb;have hN:=ZP (x:=.ty (.ar u)) ha .n;simp only[qo]at hT hN;rw[Xi (by intro h;cases h)]at hT hN;rw[Xi (by intro h;injection h with h;exact hne h)]at hE;have HA:Hid (∀wx,_):=fun wx=>zN a (.ty (.ar u)) wx ha
   have HB:Hid (∀wx,_):=fun wx=>zN b (.ty y) wx hb
   obtain⟨hpa,fa⟩:=ZK ha;obtain⟨hpb,fb⟩:=ZK hb;simp only[qt,Ql,qab]at HA fa;cases y with
   |i=>exact absurd (Or.inr rfl) he
   |j=>exact absurd (Or.inr rfl) he
   |cl d =>
    have hO:=ZP (x:=.ty (.cl d)) hb (.ty (.cl Zg));rw[show qo (.ty (.cl Zg))=qbI.toList by rw[ByteArray.toList_eq];rfl]at hO;have HTh:Hid (∀wx,_):=fun wx=>zaS wx
    simp only[qt,Ql,qab]at HB fb;show Calls _ _ _ _ fun e w'=>e=.returned (.bool (decide (d=Zg)))/\Below w.heap.size w w'
    rw[show decide (Kd.ty (.cl d)=.ty (.cl Zg))=decide (d=Zg) by rw[Bool.eq_iff_iff];simp]at hO;generalize decide (d=Zg)=r at *;clear he hm ha hb hx hsa hsb hne ih;go_enter Tryz.func185,Tryz.ntmps185;go_wp2_with (first
     |(go_fit (HA.out _);rintro e w3⟨rfl,rfl⟩)
     |(go_fit (HB.out _);rintro e w3⟨rfl,rfl⟩)
     |(go_fit (HTh.out _);rintro e w3⟨rfl,rfl⟩))
    go_ret;exact⟨rfl,Xb⟩
   |ar v =>
    simp only[qt,Ql,qab]at HB fb;obtain⟨ta,tas,hsz1⟩:=Zaa ha;obtain⟨tb,tbs,hsz2⟩:=Zaa hb;have HA2:Hid (∀wx,_):=fun wx=>zN (a.extract 1 a.size) (.ty u) wx ta
    have HB2:Hid (∀wx,_):=fun wx=>zN (b.extract 1 b.size) (.ty v) wx tb
    have HI:Hid (∀wx,Below w.heap.size w wx->_):=fun wx hb=>ih wx (a.extract 1 a.size) (b.extract 1 b.size) v (hm.step hb) ta tb hx (Xf tas hsa) (Xf tbs hsb)
    have hw:Hid (Ql u=false\/Ql v=false->qT (Za l) u v=false):=fun h=>by
     rw[qa0 h];exact Xi fun he=>hne (by rw[he])
    simp only[qt]at HA2 HB2;show Calls _ _ _ _ fun e w'=>e=.returned (.bool (qT (Za l) u v))/\Below w.heap.size w w'
    clear he hm ha hb hx hsa hsb hne ih ta tas tb tbs;generalize Ql u=ru at *;generalize Ql v=rv at *;generalize qT (Za l) u v=r at *;generalize hxa:a.extract 1 a.size=a1 at *;generalize hxb:b.extract 1 b.size=b1 at *;have hrf:Hid ((ru&&rv)=false->r=false):=fun h=>hw.out (by cases ru<;>cases rv<;>simp at *)
    clear hw;cases ru<;>cases rv
    all_goals
     go_enter Tryz.func185,Tryz.ntmps185;go_upto_region 9 with(first
      |(go_fit (HA.out _);rintro e w3⟨rfl,rfl⟩)
      |(go_fit (HB.out _);rintro e w3⟨rfl,rfl⟩))
     go_quiet (fail);go_wp2_with (first
      |(go_fit (HA2.out _);rintro e w3⟨rfl,rfl⟩)
      |(go_fit (HB2.out _);rintro e w3⟨rfl,rfl⟩)
      |(go_fit (HI.out _ (below_drewN Xb _));rintro e w4⟨rfl,hB4⟩))
     go_ret;first
      |exact⟨rfl,Qa (below_drewN Xb _) Xl hB4⟩
      |exact⟨by rw[hrf.out rfl];rfl,below_drewN Xb _⟩
set_option maxRecDepth 512
theorem qcI(w0 w:World)(B:Nat)(l:List Qb)(hm:Qw w0 w B l)(a b:Str)(x y:Kd)(ha:zaX (Za l) a x)(hb:zaX (Za l) b y)(hsa:a.size<=maxLen)(hsb:b.size<=maxLen):
 Calls Tryz.prog 185 #[.map (some B),.string a,.string b] w fun e w'=>e=.returned (.bool (Zx (Za l) x y))/\Below w.heap.size w w':=by
 have plain:(y=.t\/x=y\/(x=.n/\qt y=true))\/(qt x=false\/qt y=false)->Calls Tryz.prog 185 #[.map (some B),.string a,.string b] w fun e w'=>e=.returned (.bool (Zx (Za l) x y))/\Below w.heap.size w w':=fun h =>
  (zcd w0 w B l hm a b x y ha.1 hb.1 ha.2 h).mono fun e w' ⟨h1,h2⟩=>⟨h1,h2▸Xb⟩
 cases x with
 |n=>exact plain (Or.inr (Or.inl rfl))
 |t=>exact plain (Or.inr (Or.inl rfl))
 |ty u =>
  cases y with
  |n=>exact plain (Or.inr (Or.inr rfl))
  |t=>exact plain (Or.inl (Or.inl rfl))
  |ty v=>exact qef w0 B l u w a b v hm ha.1 hb.1 ha.2 hsa hsb
def Zd(c:Str):Str:=(⟨#[76]⟩++c)++⟨#[59]⟩
theorem Zbg(c:Str):lst (Zd c)=Zf (.cl c):=by
 unfold Zd lst;rw[ByteArray.data_append,ByteArray.data_append,Array.toList_append,Array.toList_append];rfl
theorem qam(c:Str):(Zd c).size=c.size+2:=by
 unfold Zd;rw[ByteArray.size_append,ByteArray.size_append];show 1+c.size+1=_;omega
theorem ZX(c:Str)(w:World)(hs:c.size<=4194304):Calls Tryz.prog 142 #[.string c] w fun e w'=>e=.returned (.string (Zd c))/\w=w':=by
 have hs2:(⟨#[76]⟩++c:ByteArray).size<=4194305:=by rw[ByteArray.size_append];show 1+c.size<=_;omega
 go_enter Tryz.func142,Tryz.ntmps142;go_wp2
 go_ret;exact⟨rfl,rfl⟩
theorem zbs{l:List Qb}(hf:∀c∈l,qd c=0){x:Str}(hx:(Qc (Za l) x).isSome=true):x.size<=20:=by
 obtain⟨c,hc,rfl⟩:=Zat hx;unfold Za at hc;rcases List.mem_cons.1 hc with rfl|hc
 ·decide
 ·rcases List.mem_cons.1 hc with rfl|hc
  ·decide
  ·have h:=hf c hc;unfold qd at h;split at h
   ·cases h
   ·rename_i h1;rw[Bool.not_eq_true,Bool.or_eq_false_iff,Bool.not_eq_false']at h1;have h2:=h1.1;unfold Qt at h2;split at h2
    ·cases h2
    ·rw[Bool.and_eq_true,Bool.and_eq_true]at h2;exact Xm h2.1.1
end Go.Proofs.YtlmfmioljeppfaaGreatDoor
