/- Lemmas; conditions: as each states. -/
import Derived.Test.YtlmfmioljeppfaaGreatDoorMethodMaps
set_option maxHeartbeats 4000000
namespace Go.Proofs.YtlmfmioljeppfaaGreatDoor
open Go.RowKit Go.Shelf Go.Lib
def zO(l:List Qb)(cls:Str)(m:Zk):Prop:=m.abs=true\/∃args g many A,qac m args g many/\Qr (Za l) cls g m (ZI cls m.static args many) (some A)
def qcD(l:List Qb)(cls:Str)(m:Zk):Prop:=m.abs=false/\∃args g many,qac m args g many/\Qr (Za l) cls g m (ZI cls m.static args many) none
def qaw(l:List Qb)(n:Nat):Prop:=(Zj l≠0/\n=Zj l)\/(Zj l=0/\n=0/\∀c∈l,∀m∈c.methods,zO l c.name m)\/(Zj l=0/\n=7/\∃c∈l,∃m∈c.methods,qcD l c.name m)
def Zcd(w:World)(l:List Qb)(e:Ending)(w':World):Prop:=Below w.heap.size w w'/\∃n,qaw l n/\((n=0/\∃ws B,e=.returned (.tuple #[.map (some B),.nilIface])/\Qw ws w' B l)\/(n≠0/\e=.returned (.tuple #[.map none,.iface 29 (.int .i64 n)])))
set_option maxRecDepth 100000
theorem qcd(l:List Qb)(lv:Value)(w:World)(hl:Qaw w)(ho:∀c∈l,qV c)(hlv:qi w lv l):
 Calls Tryz.prog 57 #[lv] w (Zcd w l):=by
 have HRd:=Xh (qdo l lv w hl ho hlv);have HA:Hid (∀(wx:World) (o:Obj),Below wx.heap.size wx (wx.alloc o)):=fun wx o=>Xb.alloc Xl o
 obtain⟨pl,cap,rfl,hn1,hn2,hcc⟩:=hlv.open;have hlen:l.length<=9223372036854775807:=Xf hn1 hn2;have HC:=Xh hcc;have HO:=Xh ho;clear hcc hlv hl ho;unfold zeg at HRd;by_cases hz:Zj l=0
 ·have HZ:=Xh hz;clear hz;go_enter Tryz.func57,Tryz.ntmps57;go_wp2_with (go_fit (HRd.out);rintro e w2⟨hB2,⟨_,ws,B,rfl,hm⟩|⟨hz,_⟩⟩;rotate_left;(exact absurd HZ.out hz))
  have HB2:=Xh hB2;have Hm:=Xh hm;clear hB2 hm HRd;go_loopw [22] (fun x wr=>∃k:Nat,k<=l.length/\x=.int .i64 k/\Hid (Below w2.heap.size w2 wr)/\Hid (∀c∈l.take k,∀m∈c.methods,zO l c.name m)) (fun x _=>l.length-(intOf x).toNat)
  case atStart=>exact⟨0,Nat.zero_le _,rfl,Xb,fun c hc=>by simp at hc⟩
  case round =>
   obtain⟨k,hk,rfl,hB,hY⟩:=hrel;by_cases hkl:k<l.length
   ·obtain⟨c,hx⟩:∃x,l[k]? = some x:=⟨l[k],by simp[hkl]⟩;have hcm:=Xe hx;obtain⟨b,o,vs,rfl,⟨fv,dv,mv,rfl,q1,q2,q3⟩,_,qc⟩:=HC.out k c hx;have qc:=qc.mono (Qa HB2 Xl hB) qc.lt;have hok:=HO.out c hcm;have hcf:=Hm.out.faults c hcm;have hYc:Hid ((∀m∈c.methods,zO l c.name m)->∀d∈l.take (k+1),∀m∈d.methods,zO l d.name m):=fun h d hd=>by
     rw[List.take_add_one,hx]at hd;rcases List.mem_append.1 hd with hd|hd
     ·exact hY.out d hd
     ·rw[show d=c by simpa using hd];exact h
    obtain⟨cn,cs,cf,cb,cd,cm⟩:=c;dsimp only at qc q3 hYc;obtain⟨c0,c1,c2,c3,c4,c5,_⟩:=qc;obtain⟨pm,km,rfl,hm1,hm2,hmc⟩:=q3.open;obtain⟨pf,kf,rfl,_⟩:=q1.open;obtain⟨pd,kd,rfl,_⟩:=q2.open;have hmlen:cm.length<=9223372036854775807:=Xf hm1 hm2;have HMc:=Xh hmc;have Hcm:=Xh hcm;have Hok:=Xh hok;have Hcf:=Xh hcf;have B3:=HA.out wr (.cells #[.string cn,.string cs,.slice pf cf.length kf,.bool cb,.slice pd cd.length kd,.slice pm cm.length km] 36);have k3:=Blk.new wr 36 [.string cn,.string cs,.slice pf cf.length kf,.bool cb,.slice pd cd.length kd,.slice pm cm.length km];have g5:=k3.cell 5;have HB3:=Xh (Qa hB Xl B3);have Hk3:=Xh k3;clear hx hmc q1 q2 q3 hcm hok hcf B3 k3;go_upto_region 7 with fail;generalize wr.alloc (.cells #[.string cn,.string cs,.slice pf cf.length kf,.bool cb,.slice pd cd.length kd,.slice pm cm.length km] 36)=w3 at *;clear c0 c1 c2 c3 c4 c5;go_wp2_with fail;clear g5;go_loopw [29] (fun x wy=>∃j:Nat,j<=cm.length/\x=.int .i64 j/\Hid (Below w3.heap.size w3 wy)/\Hid (∀m∈cm.take j,zO l cn m)) (fun x _=>cm.length-(intOf x).toNat)
    case atStart=>exact⟨0,Nat.zero_le _,rfl,Xb,fun m hm=>by simp at hm⟩
    case round =>
     obtain⟨j,hj,rfl,hBj,hYj⟩:=hrel;by_cases hjl:j<cm.length
     ·obtain⟨m,hmx⟩:∃x,cm[j]? = some x:=⟨cm[j],by simp[hjl]⟩;have hmm:=Xe hmx;obtain⟨bb,oo,vs,rfl,⟨cv,hv,rfl,k1,k2⟩,_,hcl⟩:=HMc.out j m hmx;have Bw3:=Qa HB2 Xl HB3.out;have hcl:=hcl.mono (Qa Bw3 Xl hBj) hcl.lt;obtain⟨pc,kc,rfl,_⟩:=k1.open;obtain⟨ph,kh,rfl,_⟩:=k2.open;obtain⟨u0,u1,u2,u3,u4,u5,u6,u7,_⟩:=hcl;have hYm:Hid (zO l cn m->∀d∈cm.take (j+1),zO l cn d):=fun h d hd=>by
       rw[List.take_add_one,hmx]at hd;rcases List.mem_append.1 hd with hd|hd
       ·exact hYj.out d hd
       ·rw[show d=m by simpa using hd];exact h
      cases hab:m.abs with
      |true =>
       have hY2:=Xh (hYm.out (Or.inl hab));have HB4:=Xh (Qa hBj Xl (HA.out wr (.cells #[.string m.name,.string m.type,.bool m.static,.bool true,.bool m.priv,.int .i64 m.locals,.slice pc m.code.length kc,.slice ph m.handlers.length kh] 53)));rw[hab]at u3;clear hmx hmm k1 k2 Bw3 hab;go_wp2_with fail;go_roundw;case rel=>exact⟨j+1,by omega,by simp,HB4,hY2⟩
       case measure=>simp[intOf];omega
      |false =>
       have B4:=HA.out wr (.cells #[.string m.name,.string m.type,.bool m.static,.bool false,.bool m.priv,.int .i64 m.locals,.slice pc m.code.length kc,.slice ph m.handlers.length kh] 53);have k4:=Blk.new wr 53 [.string m.name,.string m.type,.bool m.static,.bool false,.bool m.priv,.int .i64 m.locals,.slice pc m.code.length kc,.slice ph m.handlers.length kh];have g0:=((Hk3.out.step hBj.out).step B4).cell 0;have m0:=k4.cell 0;have m1:=k4.cell 1;have m2:=k4.cell 2;have m3:=k4.cell 3;have m4:=k4.cell 4;have m5:=k4.cell 5;have m6:=k4.cell 6;have m7:=k4.cell 7;have HB4:=Xh (Qa hBj Xl B4);obtain⟨args,g,many,hG⟩:=Qa4 Hcf.out hmm hab;have Bw4:=Qa Bw3 Xl HB4.out;have hLo:=QbT l B ws (wr.alloc (.cells #[.string m.name,.string m.type,.bool m.static,.bool false,.bool m.priv,.int .i64 m.locals,.slice pc m.code.length kc,.slice ph m.handlers.length kh] 53)) ((Hm.out.step (Qa (Below.mono HB3.out Xl) Xl hBj.out)).step B4) m cn g args many pc ph kc kh hG (Hok.out.methods m hmm) Hok.out.name (k1.mono Bw4 (by decide) (fun _ _ h=>h)) (k2.mono Bw4 (by decide) (fun _ _ h=>h));rw[hab]at u3 hLo;unfold Qbf at hLo;have HLo:=Xh hLo;have HG:=Xh hG;have Hab:=Xh hab;have Hmm:=Xh hmm;clear hmx hmm k1 k2 k4 B4 Bw3 Bw4 hab hLo hG;go_upto_region 11 with fail;generalize wr.alloc (.cells #[.string m.name,.string m.type,.bool m.static,.bool false,.bool m.priv,.int .i64 m.locals,.slice pc m.code.length kc,.slice ph m.handlers.length kh] 53)=w4 at *;clear u0 u1 u2 u3 u4 u5 u6 u7;by_cases hex:∃A,Qr (Za l) cn g m (ZI cn m.static args many) (some A)
       ·have HEx:=Xh hex;obtain⟨A,hA⟩:=hex;have hY2:=Xh (hYm.out (Or.inr ⟨args,g,many,A,HG,hA⟩));clear hA;go_wp2_with (go_fit (HLo.out);rintro e w5⟨hB5,⟨F,mb,hF,rfl,hFm⟩|⟨hF,_⟩⟩;rotate_left;(exact absurd HEx.out (fun⟨A,k1,k2⟩=>hF k1 A k2.1)))
        go_roundw;case rel=>exact⟨j+1,by omega,by simp,Qa HB4 Xl hB5,hY2⟩
        case measure=>simp[intOf];omega
       ·have HEx:=Xh hex;clear hex;go_wp2_with (go_fit (HLo.out);rintro e w5⟨hB5,⟨F,mb,hF,_⟩|⟨hF,rfl⟩⟩;(exact absurd ⟨F,hF⟩ HEx.out))
        go_ret2;exact⟨Qa (Qa HB2 Xl HB3) Xl (Qa HB4 Xl hB5),7,Or.inr (Or.inr ⟨HZ,rfl,_,Hcm,m,Hmm,Hab,args,g,many,HG,hF⟩),Or.inr ⟨by decide,rfl⟩⟩
     ·obtain rfl:j=cm.length:=(by omega);have hY2:=Xh (hYc.out (by have:=hYj.out;rwa [List.take_length]at this));go_wp2_with fail;go_roundw;case rel=>exact⟨k+1,by omega,by simp,Qa HB3 Xl hBj,hY2⟩
      case measure=>simp[intOf];omega
   ·obtain rfl:k=l.length:=(by omega);have hY2:Hid (∀c∈l,∀m∈c.methods,zO l c.name m):=(by have:=hY.out;rwa [List.take_length]at this);go_wp2_with fail;go_ret2;exact⟨Qa HB2 Xl hB,0,Or.inr (Or.inl ⟨HZ,rfl,hY2⟩),Or.inl ⟨rfl,ws,B,rfl,Hm.out.step hB.out⟩⟩
 ·have HZ:=Xh hz;clear hz;go_enter Tryz.func57,Tryz.ntmps57;go_wp2_with (go_fit (HRd.out);rintro e w2⟨hB2,⟨hz,_⟩|⟨_,rfl⟩⟩;(exact absurd hz HZ.out))
  go_ret2;exact⟨hB2,_,Or.inl ⟨HZ,rfl⟩,Or.inr ⟨HZ,rfl⟩⟩
theorem qaX(l:List Qb)(lv:Value)(w:World)(hl:Qaw w)(ho:∀c∈l,qV c)(hlv:qi w lv l):
 Calls Tryz.prog 21 #[lv] w fun e w'=>Below w.heap.size w w'/\∃n,qaw l n/\e=.returned (zE n):=by
 have HRd:Hid (Calls Tryz.prog 57 #[lv] w fun e w'=>Below w.heap.size w w'/\∃n v u,qaw l n/\u=zE n/\e=.returned (.tuple #[v,u])):=(qcd l lv w hl ho hlv).mono fun e w' ⟨hB,n,hn,hr⟩=>by
  rcases hr with⟨rfl,ws,B,rfl,_⟩|⟨hn0,rfl⟩
  ·exact⟨hB,0,_,_,hn,rfl,rfl⟩
  ·rcases QI n with⟨_,h0⟩|⟨h1,_⟩
   ·exact absurd h0 hn0
   ·exact⟨hB,n,_,_,hn,h1.symm,rfl⟩
 clear hl ho hlv;go_enter Tryz.func21,Tryz.ntmps21;go_wp2_with (go_fit (HRd.out);rintro e w2⟨hB2,n,v,u,hn,hu,rfl⟩;(have Hu:=Xh hu);clear hu)
 go_ret;exact⟨hB2,n,hn,by rw[<-Hu.out];rfl⟩
set_option maxRecDepth 512
def adI(op a:Int)(t:Str):Ins:=⟨op,a,0,t,⟨#[]⟩,⟨#[]⟩⟩
def adK:Str:=⟨#[73]⟩
def qal:Str:=⟨#[65]⟩
def adM:Zk:=⟨⟨#[97,100,100]⟩,⟨#[40,73,73,41,73]⟩,true,false,false,2,[adI 4 0 ⟨#[]⟩,adI 4 1 ⟨#[]⟩,adI 9 1 adK,adI 27 0 ⟨#[]⟩],[]⟩
def adC:Qb:=⟨qal,⟨#[79,98,106,101,99,116]⟩,[],false,[],[adM]⟩
def adF:Nat->Frm
 |0=>⟨[adK,adK],[]⟩
 |1=>⟨[adK,adK],[adK]⟩
 |2=>⟨[adK,adK],[adK,adK]⟩
 |_=>⟨[adK,adK],[adK]⟩
def adA:Asg Frm:=fun i=>if i<4 then some (adF i) else none
theorem qct:Zj [adC]=0:=by kernel_rfl
theorem Qd4:zm adM.type=some ([adK,adK],adK):=by kernel_rfl
theorem qdk:qp adM.code=0:=by kernel_rfl
theorem QdK:zV qal 0 [adC]=some adM:=by kernel_rfl
theorem QcD:ZI qal adM.static [adK,adK] 2=[adK,adK]:=by kernel_rfl
theorem zdL:qaq (Za [adC]) [adK,adK] adK=true:=by kernel_rfl
theorem zcE:∀i,i<3->Z1 (Za [adC]) qal adK adM i (adF i)=some [(i+1,adF (i+1))]
 |0,_=>by kernel_rfl
 |1,_=>by kernel_rfl
 |2,_=>by kernel_rfl
theorem zd5:Z1 (Za [adC]) qal adK adM 3 (adF 3)=some []:=by kernel_rfl
theorem za5:∀i,i<4->zz (Za [adC]) (adF i)=0
 |0,_=>by kernel_rfl
 |1,_=>by kernel_rfl
 |2,_=>by kernel_rfl
 |3,_=>by kernel_rfl
theorem Zd5:(zJ (Za [adC]) qal adK adM ⟨[adK,adK],[]⟩).Good:=QaB (Qal qct) (fun c hc=>by rw[List.mem_singleton.1 hc];kernel_rfl) qdk (by kernel_rfl) (za5 0 (by decide))
theorem Qct{i:Nat}{f:Frm}(h:adA i=some f):i<4/\f=adF i:=by
 unfold adA at h;split at h
 ·rename_i hi;exact⟨hi,(Option.some.inj h).symm⟩
 ·cases h
theorem ZdL:(zJ (Za [adC]) qal adK adM ⟨[adK,adK],[]⟩).Least adA:=by
 have H:=Zd5;have hrf:∀f,zbo (Za [adC]) f f:=fun f=>⟨LeL.refl _ _,LeL.refl _ _⟩
 refine⟨⟨fun i f h=>?_,fun i f h=>?_,_,rfl,hrf _⟩,fun G hG=>?_⟩
 ·obtain⟨h1,rfl⟩:=Qct h;exact⟨h1,za5 i h1⟩
 ·obtain⟨h1,rfl⟩:=Qct h;by_cases h3:i<3
  ·refine⟨_,zcE i h3,fun p hp=>?_⟩;rw[List.mem_singleton.1 hp];exact⟨adF (i+1),if_pos (by omega),hrf _⟩
  ·obtain rfl:i=3:=(by omega);exact⟨_,zd5,fun p hp=>by cases hp⟩
 ·have step:∀i,i<4->∃g,G i=some g/\zbo (Za [adC]) (adF i) g:=fun i=>by
   induction i with
   |zero=>exact fun _=>hG.2.2
   |succ i ih =>
    intro hi;obtain⟨g,e,hle⟩:=ih (by omega);obtain⟨hin,hok⟩:=hG.1 i g e;obtain⟨lb,eb,sb⟩:=hG.2.1 i g e;obtain⟨la,ea,hp⟩:=H.mono i (adF i) g lb hin (za5 i (by omega)) hok hle eb;rw[show(zJ (Za [adC]) qal adK adM ⟨[adK,adK],[]⟩).edges i (adF i)=some [(i+1,adF (i+1))] from zcE i (by omega)]at ea;obtain rfl:=Option.some.inj ea;obtain⟨q,hq,q1,q2⟩:=hp _ (List.mem_singleton.2 rfl);obtain⟨h,eh,lh⟩:=sb q hq;have hob:=H.out i g lb hin hok eb q hq;refine⟨h,by rw[<-q1]at eh;exact eh,H.trans _ q.2 h (za5 (i+1) hi) hob.2 (hG.1 _ h eh).2 q2 lh⟩
  intro i f h;obtain⟨h1,rfl⟩:=Qct h;exact step i h1
theorem qd5:Zag adA adM.code.length=[(0,adF 0),(1,adF 1),(2,adF 2),(3,adF 3)]:=by rfl
theorem Zci{w:World}{b:Nat}:∀{vs:List Value} {o:Nat},(∀(j:Nat) (u:Value),vs[j]? = some u->w.cell? ⟨b,o+j,none⟩=some u)->qG w b o vs
 |[],_,_=>trivial
 |_::r,o,h=>⟨h 0 _ rfl,Zci (vs:=r) (o:=o+1) fun j u hj=>by
  rw[show o+1+j=o+(j+1) by omega];exact h (j+1) u (by simpa using hj)⟩
theorem zbU{α:Type}{w:World}{k b:Nat}{t:TypeId}{R:α->List Value->Prop}{x:α}{vs:List Value}(hk:Blk w b t vs)(hr:R x vs)(hl:vs.length=k):Qg w k R (.slice (some ⟨b,0,none⟩) 1 1) [x]:=by
 refine Or.inr ⟨⟨b,0,none⟩,1,rfl,Xl,by decide,fun i y hi=>?_⟩;cases i with
 |zero =>
  have hi:x=y:=by simpa using hi
  subst hi;exact⟨vs,hr,hl,rfl,Zci fun j u hj=>(hk.cell _).trans (by simpa using hj)⟩
 |succ i=>simp at hi
def zbg:List Value:=[.int .i64 4,.int .i64 0,.int .i64 0,.string ⟨#[]⟩,.string ⟨#[]⟩,.string ⟨#[]⟩,.int .i64 4,.int .i64 1,.int .i64 0,.string ⟨#[]⟩,.string ⟨#[]⟩,.string ⟨#[]⟩,.int .i64 9,.int .i64 1,.int .i64 0,.string ⟨#[73]⟩,.string ⟨#[]⟩,.string ⟨#[]⟩,.int .i64 27,.int .i64 0,.int .i64 0,.string ⟨#[]⟩,.string ⟨#[]⟩,.string ⟨#[]⟩]
theorem qdL{w:World}{b:Nat}{t:TypeId}(hk:Blk w b t zbg):Qg w 6 qy (.slice (some ⟨b,0,none⟩) 4 4) adM.code:=by
 refine Or.inr ⟨⟨b,0,none⟩,4,rfl,Xl,by decide,fun i y hi=>?_⟩;have hc:∀j u,zbg[j]? = some u->w.cell? ⟨b,j,none⟩=some u:=fun j u h=>(hk.cell j).trans h
 match i,hi with
 |0,hi =>
  obtain rfl:adI 4 0 ⟨#[]⟩=y:=Option.some.inj hi;exact⟨_,rfl,rfl,rfl,hc 0 _ rfl,hc 1 _ rfl,hc 2 _ rfl,hc 3 _ rfl,hc 4 _ rfl,hc 5 _ rfl,trivial⟩
 |1,hi =>
  obtain rfl:adI 4 1 ⟨#[]⟩=y:=Option.some.inj hi;exact⟨_,rfl,rfl,rfl,hc 6 _ rfl,hc 7 _ rfl,hc 8 _ rfl,hc 9 _ rfl,hc 10 _ rfl,hc 11 _ rfl,trivial⟩
 |2,hi =>
  obtain rfl:adI 9 1 adK=y:=Option.some.inj hi;exact⟨_,rfl,rfl,rfl,hc 12 _ rfl,hc 13 _ rfl,hc 14 _ rfl,hc 15 _ rfl,hc 16 _ rfl,hc 17 _ rfl,trivial⟩
 |3,hi =>
  obtain rfl:adI 27 0 ⟨#[]⟩=y:=Option.some.inj hi;exact⟨_,rfl,rfl,rfl,hc 18 _ rfl,hc 19 _ rfl,hc 20 _ rfl,hc 21 _ rfl,hc 22 _ rfl,hc 23 _ rfl,trivial⟩
 |i+4,hi=>cases hi
set_option maxRecDepth 100000
theorem Qdo(w:World):Calls Tryz.prog 56 #[] w fun e w'=>∃a,e=.returned (.slice (some a) 1 1)/\qi w' (.slice (some a) 1 1) [adC]/\Below w.heap.size w w':=by
 have HA:Hid (∀(wx:World) (o:Obj),Below wx.heap.size wx (wx.alloc o)):=fun wx o=>Xb.alloc Xl o
 have K1:=Blk.new w 24 zbg;have K2:=K1.step (HA.out _ (.cells #[.string ⟨#[97,100,100]⟩,.string ⟨#[40,73,73,41,73]⟩,.bool true,.bool false,.bool false,.int .i64 2,.slice (some ⟨w.heap.size,0,none⟩) 4 4,.slice none 0 0] 53));have K3:=K2.step (HA.out _ (.cells #[.string ⟨#[97,100,100]⟩,.string ⟨#[40,73,73,41,73]⟩,.bool true,.bool false,.bool false,.int .i64 2,.slice (some ⟨w.heap.size,0,none⟩) 4 4,.slice none 0 0] 53));have K4:=K3.step (HA.out _ (.cells #[.string ⟨#[65]⟩,.string ⟨#[79,98,106,101,99,116]⟩,.slice none 0 0,.bool false,.slice none 0 0,.slice (some ⟨w.heap.size+1+1,0,none⟩) 1 1] 36));have M3:=Blk.new ((w.alloc (.cells zbg.toArray 24)).alloc (.cells #[.string ⟨#[97,100,100]⟩,.string ⟨#[40,73,73,41,73]⟩,.bool true,.bool false,.bool false,.int .i64 2,.slice (some ⟨w.heap.size,0,none⟩) 4 4,.slice none 0 0] 53)) 53 [.string ⟨#[97,100,100]⟩,.string ⟨#[40,73,73,41,73]⟩,.bool true,.bool false,.bool false,.int .i64 2,.slice (some ⟨w.heap.size,0,none⟩) 4 4,.slice none 0 0];have M4:=M3.step (HA.out _ (.cells #[.string ⟨#[65]⟩,.string ⟨#[79,98,106,101,99,116]⟩,.slice none 0 0,.bool false,.slice none 0 0,.slice (some ⟨w.heap.size+1+1,0,none⟩) 1 1] 36));have C4:=Blk.new (((w.alloc (.cells zbg.toArray 24)).alloc (.cells #[.string ⟨#[97,100,100]⟩,.string ⟨#[40,73,73,41,73]⟩,.bool true,.bool false,.bool false,.int .i64 2,.slice (some ⟨w.heap.size,0,none⟩) 4 4,.slice none 0 0] 53)).alloc (.cells #[.string ⟨#[97,100,100]⟩,.string ⟨#[40,73,73,41,73]⟩,.bool true,.bool false,.bool false,.int .i64 2,.slice (some ⟨w.heap.size,0,none⟩) 4 4,.slice none 0 0] 53)) 36 [.string ⟨#[65]⟩,.string ⟨#[79,98,106,101,99,116]⟩,.slice none 0 0,.bool false,.slice none 0 0,.slice (some ⟨w.heap.size+1+1,0,none⟩) 1 1];have B4:Below w.heap.size w ((((w.alloc (.cells zbg.toArray 24)).alloc (.cells #[.string ⟨#[97,100,100]⟩,.string ⟨#[40,73,73,41,73]⟩,.bool true,.bool false,.bool false,.int .i64 2,.slice (some ⟨w.heap.size,0,none⟩) 4 4,.slice none 0 0] 53)).alloc (.cells #[.string ⟨#[97,100,100]⟩,.string ⟨#[40,73,73,41,73]⟩,.bool true,.bool false,.bool false,.int .i64 2,.slice (some ⟨w.heap.size,0,none⟩) 4 4,.slice none 0 0] 53)).alloc (.cells #[.string ⟨#[65]⟩,.string ⟨#[79,98,106,101,99,116]⟩,.slice none 0 0,.bool false,.slice none 0 0,.slice (some ⟨w.heap.size+1+1,0,none⟩) 1 1] 36)) :=
  (((Xb.alloc Xl _).alloc (by simp) _).alloc (by simp;omega) _).alloc (by simp;omega) _
 simp only[World.size_alloc]at M4 C4;have HCl:=Xh (zbU (R:=Z6 _) (x:=adC) C4 ⟨_,_,_,rfl,Or.inl ⟨rfl,rfl⟩,Or.inl ⟨rfl,rfl⟩,zbU (R:=Zr _) (x:=adM) M4 ⟨_,_,rfl,qdL K4,Or.inl ⟨rfl,rfl⟩⟩ rfl⟩ rfl);have HB4:=Xh B4;clear K1 K2 K3 K4 M3 M4 C4 B4;unfold zbg at HCl HB4;go_enter Tryz.func56,Tryz.ntmps56;go_wp2_with fail;go_ret;exact⟨_,rfl,HCl,HB4⟩
set_option maxRecDepth 512
theorem Zeg:∀c∈[adC],qV c:=fun c hc=>by
 rw[List.mem_singleton.1 hc];refine⟨by decide,by decide,(fun x hx=>by cases hx),(fun x hx=>by cases hx),fun x hx=>?_⟩;rw[List.mem_singleton.1 hx];refine⟨by decide,by decide,by unfold qbz;decide,fun y hy=>?_,(fun y hy=>by cases hy)⟩;have hb:y=adI 4 0 ⟨#[]⟩\/y=adI 4 1 ⟨#[]⟩\/y=adI 9 1 adK\/y=adI 27 0 ⟨#[]⟩:=by simpa[adM] using hy
 rcases hb with rfl|rfl|rfl|rfl<;>exact⟨by unfold qbz adI;decide,by unfold qbz adI;decide,by unfold qbz adI;decide,by decide,by decide,by decide⟩
theorem Zeh:Qr (Za [adC]) qal adK adM (ZI qal adM.static [adK,adK] 2) (some adA):=by
 rw[QcD];exact⟨zdL,ZdL⟩
theorem QdL{args:List Str}{g:Str}{many:Nat}(h:qac adM args g many):args=[adK,adK]/\g=adK/\many=2:=by
 have h1:=h.type;rw[Qd4]at h1;injection h1 with h1
 injection h1 with h1 h2
 have h3:(2:Int)=(many:Int):=h.locals;exact⟨h1.symm,h2.symm,by omega⟩
theorem qba{G:Option (Asg Frm)}(h:Qr (Za [adC]) qal adK adM (ZI qal adM.static [adK,adK] 2) G):G=some adA :=
 qaf (Qal qct) (fun c hc=>by rw[List.mem_singleton.1 hc];kernel_rfl) qdk (by kernel_rfl) (by rw[QcD];decide) h Zeh
theorem zdM{n:Nat}{F:Option (Zk×Asg Frm)}(h:qaP [adC] qal 0 n F):n=0/\F=some (adM,adA):=by
 rcases h with⟨h,_⟩|⟨_,m,args,g,many,h1,_,h3,G,h4,h5⟩
 ·exact absurd (by kernel_rfl) h
 ·rw[QdK]at h1;obtain rfl:=Option.some.inj h1;obtain⟨rfl,rfl,rfl⟩:=QdL h3;rw[qba h4]at h5;exact h5
theorem ZdM{n:Nat}(h:qaw [adC] n):n=0:=by
 rcases h with⟨h,_⟩|⟨_,h,_⟩|⟨_,_,c,hc,m,hm,_,args,g,many,h3,h4⟩
 ·exact absurd qct h
 ·exact h
 ·obtain rfl:=List.mem_singleton.1 hc;obtain rfl:m=adM:=List.mem_singleton.1 hm;obtain⟨rfl,rfl,rfl⟩:=QdL h3;cases qba h4
set_option maxRecDepth 100000
theorem ZcE(w:World)(hl:Qaw w):Calls Tryz.prog 20 #[] w fun e w'=>e=.returned (.bool true)/\Below w.heap.size w w':=by
 have HAd:Hid (∀wx,_):=fun wx=>Qdo wx
 have HMe:Hid (∀(wx:World) (a:Addr),Below w.heap.size w wx->qi wx (.slice (some a) 1 1) [adC]->Calls Tryz.prog 25 #[.slice (some a) 1 1,.string ⟨#[65]⟩,.int .i64 0] wx fun e w'=>Below wx.heap.size wx w'/\∃b o cap p c,e=.returned (.tuple #[.slice (some ⟨b,o,none⟩) 4 cap,.nilIface])/\w'.cell? ⟨b,o+11,none⟩=some (.slice p 1 c)):=fun wx a hb hv =>
  (qaU [adC] _ qal 0 wx (hl.mono hb hl.1) Zeg hv).mono fun e w' ⟨hB,n,F,hC,hF⟩=>by
   obtain⟨rfl,rfl⟩:=zdM hC;obtain⟨v,rfl,hM⟩:=hF;rw[qd5]at hM;obtain⟨b,o,cap,vs,rfl,⟨lv,sv,rfl,hf⟩,_,hc⟩:=Qg.at hM (i:=3) (by decide);obtain⟨p,c,rfl,_⟩:=hf.2.open;exact⟨hB,b,o,cap,p,c,rfl,hc.2.2.1⟩
 have HWo:Hid (∀(wx:World) (a:Addr),Below w.heap.size w wx->qi wx (.slice (some a) 1 1) [adC]->Calls Tryz.prog 21 #[.slice (some a) 1 1] wx fun e w'=>Below wx.heap.size wx w'/\e=.returned .nilIface):=fun wx a hb hv =>
  (qaX [adC] _ wx (hl.mono hb hl.1) Zeg hv).mono fun e w' ⟨hB,n,hC,he⟩=>by
   obtain rfl:=ZdM hC;exact⟨hB,he⟩
 clear hl;go_enter Tryz.func20,Tryz.ntmps20;go_wp2_with (first
  |(go_fit (HAd.out _);rintro e w2⟨a2,rfl,hv2,hB2⟩;(have HV2:=Xh hv2);(have HB2:=Xh hB2);clear hv2 hB2)
  |(go_fit (HMe.out _ _ HB2.out HV2.out);rintro e w3⟨hB3,b3,o3,c3,p3,d3,rfl,x3⟩;(have HB3:=Xh (Qa HB2 Xl hB3)))
  |(go_fit (HWo.out _ _ (Qa HB3 Xl HB2) HV2.out);rintro e w5⟨hB5,rfl⟩;(have HB5:=Xh (Qa (Qa HB3 Xl HB2) Xl hB5))))
 go_ret;exact⟨rfl,HB5⟩
set_option maxRecDepth 512
end Go.Proofs.YtlmfmioljeppfaaGreatDoor
