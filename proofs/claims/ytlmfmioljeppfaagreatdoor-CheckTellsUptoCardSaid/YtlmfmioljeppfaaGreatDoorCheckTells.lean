/- Lemmas; conditions: as each states. -/
import Derived.Test.YtlmfmioljeppfaaGreatDoorRefFrames
import Derived.Test.YtlmfmioljeppfaaGreatDoorAdder
import Derived.Test.YtlmfmioljeppfaaGreatDoorShelf
import Derived.Sort.OwnSortedInts
import Derived.Lib.SlicesCompact
set_option maxHeartbeats 4000000
namespace Go.Proofs.YtlmfmioljeppfaaGreatDoor
open Go.RowKit Go.Shelf Go.Lib
def CkS(wx:World)(b o bb oo:Nat)(cn:Str)(mv:Value)(m:Zk)(cv hv:Value):Prop:=wx.cell? ⟨b,o,none⟩=some (.string cn)/\wx.cell? ⟨b,o+5,none⟩=some mv/\wx.cell? ⟨bb,oo,none⟩=some (.string m.name)/\wx.cell? ⟨bb,oo+1,none⟩=some (.string m.type)/\wx.cell? ⟨bb,oo+1+1,none⟩=some (.bool m.static)/\wx.cell? ⟨bb,oo+1+1+1,none⟩=some (.bool false)/\wx.cell? ⟨bb,oo+1+1+1+1,none⟩=some (.bool m.priv)/\wx.cell? ⟨bb,oo+1+1+1+1+1,none⟩=some (.int .i64 m.locals)/\wx.cell? ⟨bb,oo+1+1+1+1+1+1,none⟩=some cv/\wx.cell? ⟨bb,oo+1+1+1+1+1+1+1,none⟩=some hv
theorem CkS.step{w w':World}{b o bb oo:Nat}{cn:Str}{mv:Value}{m:Zk}{cv hv:Value}(h:CkS w b o bb oo cn mv m cv hv)(hb:Below w.heap.size w w'):CkS w' b o bb oo cn mv m cv hv:=by
 obtain⟨k0,k1,k2,k3,k4,k5,k6,k7,k8,k9⟩:=h;exact⟨(hb.cell (Zl k0)).trans k0,(hb.cell (Zl k1)).trans k1,(hb.cell (Zl k2)).trans k2,(hb.cell (Zl k3)).trans k3,(hb.cell (Zl k4)).trans k4,(hb.cell (Zl k5)).trans k5,(hb.cell (Zl k6)).trans k6,(hb.cell (Zl k7)).trans k7,(hb.cell (Zl k8)).trans k8,(hb.cell (Zl k9)).trans k9⟩
set_option maxRecDepth 100000
theorem qbp(l:List Qb)(lv:Value)(w:World)(ho:∀c∈l,qV c)(hlv:qi w lv l):
 Calls Tryz.prog 22 #[lv] w fun e w'=>Below w.heap.size w w'/\∃n:Nat,qaw l n/\e=.returned (.int .i64 n):=by
 have HRd:=Xh (Qbp l lv w ho hlv);have HLv:=Xh hlv;obtain⟨pl,cap,rfl,hn1,hn2,hcc⟩:=hlv.open;have hlen:l.length<=9223372036854775807:=Xf hn1 hn2;have HC:=Xh hcc;have HO:=Xh ho;clear hcc hlv ho;by_cases hz:Zj l=0
 ·have HZ:=Xh hz;have HRi:=Xh (Qal hz);have Hcf:=Xh (Q5 hz);rw[hz]at HRd;clear hz;go_enter Tryz.func22,Tryz.ntmps22;go_wp2_with (go_fit (HRd.out);rintro e w2⟨rfl,hB2⟩)
  have HB2:=Xh hB2;clear hB2 HRd;go_loopw [4] (fun x wr=>∃k:Nat,k<=l.length/\x=.int .i64 k/\Hid (Below w.heap.size w wr)/\Hid (∀c∈l.take k,∀m∈c.methods,zO l c.name m)) (fun x _=>l.length-(intOf x).toNat)
  case atStart=>exact⟨0,Nat.zero_le _,rfl,HB2,fun c hc=>by simp at hc⟩
  case round =>
   obtain⟨k,hk,rfl,hB,hY⟩:=hrel;by_cases hkl:k<l.length
   ·obtain⟨c,hx⟩:∃x,l[k]? = some x:=⟨l[k],by simp[hkl]⟩;have hcm:=Xe hx;obtain⟨b,o,vs,rfl,⟨fv,dv,mv,rfl,q1,q2,q3⟩,_,qc⟩:=HC.out k c hx;have HCe:=Xh qc;have hok:=HO.out c hcm;have hcf:=Hcf.out c hcm;have hYc:Hid ((∀m∈c.methods,zO l c.name m)->∀d∈l.take (k+1),∀m∈d.methods,zO l d.name m):=fun h d hd=>by
     rw[List.take_add_one,hx]at hd;rcases List.mem_append.1 hd with hd|hd
     ·exact hY.out d hd
     ·rw[show d=c by simpa using hd];exact h
    obtain⟨cn,cs,cf,cb,cd,cm⟩:=c;dsimp only at HCe q3 hYc;obtain⟨pm,km,rfl,hm1,hm2,hmc⟩:=q3.open;have hmlen:cm.length<=9223372036854775807:=Xf hm1 hm2;have HMc:=Xh hmc;have Hcm:=Xh hcm;have Hok:=Xh hok;have Hcf1:=Xh hcf;clear hx hmc q1 q2 q3 hcm hok hcf qc;have hkI:(k:Int)<(l.length:Int):=(by omega);have hk0:(0:Int)<=(k:Int):=Int.natCast_nonneg _;go_wp2_with fail;go_loopw [5] (fun x wy=>∃j:Nat,j<=cm.length/\x=.int .i64 j/\Hid (Below w.heap.size w wy)/\Hid (∀m∈cm.take j,zO l cn m)) (fun x _=>cm.length-(intOf x).toNat)
    case atStart=>exact⟨0,Nat.zero_le _,rfl,hB,fun m hm=>by simp at hm⟩
    case round =>
     obtain⟨j,hj,rfl,hBj,hYj⟩:=hrel;have hcl:=HCe.out.mono hBj.out HCe.out.lt;obtain⟨c0,c1,c2,c3,c4,c5,_⟩:=hcl;have c5':wr.cell? ⟨b,o+k*6+5,none⟩=some (.slice pm cm.length km):=c5;clear c1 c2 c3 c4;by_cases hjl:j<cm.length
     ·obtain⟨m,hmx⟩:∃x,cm[j]? = some x:=⟨cm[j],by simp[hjl]⟩;have hmm:=Xe hmx;obtain⟨bb,oo,vs,rfl,⟨cv,hv,rfl,k1,k2⟩,_,hcl⟩:=HMc.out j m hmx;have hcl:=hcl.mono hBj.out hcl.lt;obtain⟨pc,kc,rfl,_⟩:=k1.open;obtain⟨ph,kh,rfl,_⟩:=k2.open;obtain⟨u0,u1,u2,u3,u4,u5,u6,u7,_⟩:=hcl;have u3':wr.cell? ⟨bb,oo+j*8+3,none⟩=some (.bool m.abs):=u3;have hjI:(j:Int)<(cm.length:Int):=(by omega);have hj0:(0:Int)<=(j:Int):=Int.natCast_nonneg _;have hYm:Hid (zO l cn m->∀d∈cm.take (j+1),zO l cn d):=fun h d hd=>by
       rw[List.take_add_one,hmx]at hd;rcases List.mem_append.1 hd with hd|hd
       ·exact hYj.out d hd
       ·rw[show d=m by simpa using hd];exact h
      cases hab:m.abs with
      |true =>
       have hY2:=Xh (hYm.out (Or.inl hab));rw[hab]at u3 u3';clear hmx hmm k1 k2 hab u0 u1 u2 u4 u5 u6 u7;go_wp2_with fail;go_roundw;case rel=>exact⟨j+1,by omega,by simp,hBj,hY2⟩
       case measure=>simp[intOf];omega
      |false =>
       obtain⟨args,g,many,hG⟩:=Qa4 Hcf1.out hmm hab;have HSS:Hid (CkS wr b (o+k*6) bb (oo+j*8) cn (.slice (some ⟨bb,oo,none⟩) cm.length km) m (.slice pc m.code.length kc) (.slice ph m.handlers.length kh)):=⟨c0,c5,u0,u1,u2,by rw[<-hab];exact u3,u4,u5,u6,u7⟩;have HFr:Hid (∀wx,Below wr.heap.size wr wx->Calls _ _ _ wx fun e w'=>zbh wx (Za l) cn g m (ZI cn m.static args many) e w'/\CkS w' b (o+k*6) bb (oo+j*8) cn (.slice (some ⟨bb,oo,none⟩) cm.length km) m (.slice pc m.code.length kc) (.slice ph m.handlers.length kh)):=fun wx hb =>
        (zbb l (.slice (some ⟨b,o,none⟩) l.length cap) HRi.out Hcf.out wx (HLv.out.mono (Qa hBj Xl hb)) m cn g args many pc ph kc kh hG (Hok.out.methods m hmm) Hok.out.name (k1.mono (Qa hBj Xl hb) (by decide) (fun _ _ h=>h)) (k2.mono (Qa hBj Xl hb) (by decide) (fun _ _ h=>h))).mono fun e w' h=>⟨h,HSS.out.step (Qa hb Xl h.1)⟩
       rw[hab]at HFr u3 u3';have HG:=Xh hG;have Hab:=Xh hab;have Hmm:=Xh hmm;clear hmx hmm k1 k2 hG hab;by_cases hex:∃A,Qr (Za l) cn g m (ZI cn m.static args many) (some A)
       ·have HEx:=Xh hex;obtain⟨A,hA⟩:=hex;have hY2:=Xh (hYm.out (Or.inr ⟨args,g,many,A,HG,hA⟩));clear hA;replace HFr:Hid (∀wx,Below wr.heap.size wr wx->Calls _ _ _ wx fun e w'=>(∃v1 v2,e=.returned (.tuple #[v1,v2,.bool true]))/\Below wx.heap.size wx w'/\CkS w' b (o+k*6) bb (oo+j*8) cn (.slice (some ⟨bb,oo,none⟩) cm.length km) m (.slice pc m.code.length kc) (.slice ph m.handlers.length kh)):=fun wx hb=>(HFr.out wx hb).mono fun e w' h=>by
         obtain⟨⟨hB3,R,hR,h2⟩,h3⟩:=h;cases R with
         |none=>exact absurd HEx.out (fun⟨A,k1,k2⟩=>hR k1 A k2.1)
         |some F=>exact⟨⟨_,_,h2.1⟩,hB3,h3⟩
        unfold CkS at HFr;go_upto_region 11 with fail;go_cut [6,7,8] from 39 to 58 (fun _ _ v wx=>v=.bool true/\Below w.heap.size w wx)
        case first =>
         go_region_held3 (fun w'=>w'.cell? ⟨b,o+k*6,none⟩=some (.string cn)/\w'.cell? ⟨b,o+k*6+5,none⟩=some (.slice (some ⟨bb,oo,none⟩) cm.length km)/\w'.cell? ⟨bb,oo+j*8,none⟩=some (.string m.name)/\w'.cell? ⟨bb,oo+j*8+1,none⟩=some (.string m.type)/\w'.cell? ⟨bb,oo+j*8+1+1,none⟩=some (.bool m.static)/\w'.cell? ⟨bb,oo+j*8+1+1+1,none⟩=some (.bool false)/\w'.cell? ⟨bb,oo+j*8+1+1+1+1,none⟩=some (.bool m.priv)/\w'.cell? ⟨bb,oo+j*8+1+1+1+1+1,none⟩=some (.int .i64 m.locals)/\w'.cell? ⟨bb,oo+j*8+1+1+1+1+1+1,none⟩=some (.slice pc m.code.length kc)/\w'.cell? ⟨bb,oo+j*8+1+1+1+1+1+1+1,none⟩=some (.slice ph m.handlers.length kh))
          (first|go_keep)
          (first
           |(go_fit (HFr.out _ ?_);exact Xb.drew;rintro e w3⟨⟨v1,v2,rfl⟩,hB3,k0,k1',k2',k3,k4,k5,k6,k7,k8,k9⟩))
         all_goals (go_wp2_with fail;go_meet;exact⟨rfl,Qa hBj Xl (Qa (Xb.drew) Xl hB3)⟩)
        case rest =>
         obtain⟨rfl,hBw⟩:=hcut;go_wp2_with fail;go_roundw;case rel=>exact⟨j+1,by omega,by simp,hBw,hY2⟩
         case measure=>simp[intOf];omega
       ·have HEx:=Xh hex;clear hex;replace HFr:Hid (∀wx,Below wr.heap.size wr wx->Calls _ _ _ wx fun e w'=>(∃v1 v2,e=.returned (.tuple #[v1,v2,.bool false])/\Qr (Za l) cn g m (ZI cn m.static args many) none)/\Below wx.heap.size wx w'/\CkS w' b (o+k*6) bb (oo+j*8) cn (.slice (some ⟨bb,oo,none⟩) cm.length km) m (.slice pc m.code.length kc) (.slice ph m.handlers.length kh)):=fun wx hb=>(HFr.out wx hb).mono fun e w' h=>by
         obtain⟨⟨hB3,R,hR,h2⟩,h3⟩:=h;cases R with
         |none=>exact⟨⟨_,_,h2,hR⟩,hB3,h3⟩
         |some F=>exact absurd ⟨F,hR⟩ HEx.out
        unfold CkS at HFr;go_upto_region 11 with fail;go_cut [6,7,8] from 39 to 58 (fun _ _ v wx=>v=.bool false/\Hid (Qr (Za l) cn g m (ZI cn m.static args many) none)/\Below w.heap.size w wx)
        case first =>
         go_region_held3 (fun w'=>w'.cell? ⟨b,o+k*6,none⟩=some (.string cn)/\w'.cell? ⟨b,o+k*6+5,none⟩=some (.slice (some ⟨bb,oo,none⟩) cm.length km)/\w'.cell? ⟨bb,oo+j*8,none⟩=some (.string m.name)/\w'.cell? ⟨bb,oo+j*8+1,none⟩=some (.string m.type)/\w'.cell? ⟨bb,oo+j*8+1+1,none⟩=some (.bool m.static)/\w'.cell? ⟨bb,oo+j*8+1+1+1,none⟩=some (.bool false)/\w'.cell? ⟨bb,oo+j*8+1+1+1+1,none⟩=some (.bool m.priv)/\w'.cell? ⟨bb,oo+j*8+1+1+1+1+1,none⟩=some (.int .i64 m.locals)/\w'.cell? ⟨bb,oo+j*8+1+1+1+1+1+1,none⟩=some (.slice pc m.code.length kc)/\w'.cell? ⟨bb,oo+j*8+1+1+1+1+1+1+1,none⟩=some (.slice ph m.handlers.length kh))
          (first|go_keep)
          (first
           |(go_fit (HFr.out _ ?_);exact Xb.drew;rintro e w3⟨⟨v1,v2,rfl,hN⟩,hB3,k0,k1',k2',k3,k4,k5,k6,k7,k8,k9⟩))
         all_goals (go_wp2_with fail;go_meet;exact⟨rfl,hN,Qa hBj Xl (Qa (Xb.drew) Xl hB3)⟩)
        case rest =>
         obtain⟨rfl,hN,hBw⟩:=hcut;go_wp2_with fail;go_ret;exact⟨hBw,7,Or.inr (Or.inr ⟨HZ,rfl,_,Hcm,m,Hmm,Hab,args,g,many,HG,hN⟩),rfl⟩
     ·obtain rfl:j=cm.length:=(by omega);have hY2:=Xh (hYc.out (by have:=hYj.out;rwa [List.take_length]at this));clear c0 c5;go_wp2_with fail;go_roundw;case rel=>exact⟨k+1,by omega,by simp,hBj,hY2⟩
      case measure=>simp[intOf];omega
   ·obtain rfl:k=l.length:=(by omega);have hY2:Hid (∀c∈l,∀m∈c.methods,zO l c.name m):=(by have:=hY.out;rwa [List.take_length]at this);go_wp2_with fail;go_ret;exact⟨hB,0,Or.inr (Or.inl ⟨HZ,rfl,hY2⟩),rfl⟩
 ·have HZ:=Xh hz;have hzb:(((Zj l:Nat):Int) != 0)=true:=by simpa using hz
  clear hz;generalize hn:Zj l=n at *;have Hn:=Xh hn;clear hn;go_enter Tryz.func22,Tryz.ntmps22;go_wp2_with (go_fit (HRd.out);rintro e w2⟨rfl,hB2⟩)
  go_ret;exact⟨hB2,_,Or.inl ⟨by rw[Hn.out];exact HZ.out,Hn.out.symm⟩,rfl⟩
theorem qaQ(L:List (Nat×Frm))(av bv:Value)(w:World)(ha:ZbC w av L)(hb:ZbC w bv L):
 Calls Tryz.prog 26 #[av,bv] w fun e w'=>e=.returned (.bool true)/\Below w.heap.size w w':=by
 obtain⟨pa,ka,rfl,ha1,ha2,ha3⟩:=ha.open;obtain⟨pb,kb,rfl,hb1,hb2,hb3⟩:=hb.open;have hlen:L.length<=9223372036854775807:=Xf ha1 ha2;have HAc:=Xh ha3;have HBc:=Xh hb3;clear ha hb ha3 hb3 ha1 ha2 hb1 hb2;go_enter Tryz.func26,Tryz.ntmps26;go_wp2_with fail;go_loopw [5] (fun x wr=>∃j:Nat,j<=L.length/\x=.int .i64 j/\Hid (Below w.heap.size w wr)) (fun x _=>L.length-(intOf x).toNat)
 case atStart=>exact⟨0,Nat.zero_le _,rfl,Xb⟩
 case round =>
  obtain⟨j,hj,rfl,hB⟩:=hrel;by_cases hjl:j<L.length
  ·obtain⟨⟨k,f⟩,hx⟩:∃x,L[j]? = some x:=⟨L[j],by simp[hjl]⟩;obtain⟨b,o,vs,rfl,⟨lv,sv,rfl,hf⟩,_,hc⟩:=HAc.out j _ hx;obtain⟨b',o',vs',rfl,⟨lv',sv',rfl,hf'⟩,_,hc'⟩:=HBc.out j _ hx;have hc:=hc.mono hB.out hc.lt;have hc':=hc'.mono hB.out hc'.lt;obtain⟨c0,c1,c2,_⟩:=hc;obtain⟨d0,d1,d2,_⟩:=hc';dsimp only[ZV]at c0 d0 hf hf';have hf:=hf.mono hB.out;have hf':=hf'.mono hB.out;obtain⟨⟨p1,n1,rfl,_⟩,⟨p2,n2,rfl,_⟩⟩:=And.intro hf.1.open hf.2.open;obtain⟨⟨p3,n3,rfl,_⟩,⟨p4,n4,rfl,_⟩⟩:=And.intro hf'.1.open hf'.2.open;have HSm:Hid (∀wx,Below wr.heap.size wr wx->Calls _ _ _ wx fun e w'=>e=.returned (.bool true)/\Below wx.heap.size wx w'/\w'.cell? ⟨b,o+j*3,none⟩=some (.int .i64 (k:Int))/\w'.cell? ⟨b,o+j*3+1,none⟩=some (.slice p1 f.locals.length n1)/\w'.cell? ⟨b,o+j*3+1+1,none⟩=some (.slice p2 f.stack.length n2)/\w'.cell? ⟨b',o'+j*3,none⟩=some (.int .i64 (k:Int))/\w'.cell? ⟨b',o'+j*3+1,none⟩=some (.slice p3 f.locals.length n3)/\w'.cell? ⟨b',o'+j*3+1+1,none⟩=some (.slice p4 f.stack.length n4)):=fun wx hb=>(Qcd f f _ _ _ _ wx (hf.mono hb) (hf'.mono hb)).mono fun e w' h=>by
    have hq:=Qa hb Xl h.2;exact⟨by rw[h.1,Xj rfl],h.2,(hq.cell (Zl c0)).trans c0,(hq.cell (Zl c1)).trans c1,(hq.cell (Zl c2)).trans c2,(hq.cell (Zl d0)).trans d0,(hq.cell (Zl d1)).trans d1,(hq.cell (Zl d2)).trans d2⟩
   have hjI:(j:Int)<(L.length:Int):=(by omega);have hj0:(0:Int)<=(j:Int):=Int.natCast_nonneg _;clear hx hf hf';go_upto_region 6 with fail;go_cut [41] from 17 to 42 (fun v wx=>v=.bool false/\Below w.heap.size w wx)
   case first =>
    go_region_held3 (fun w'=>w'.cell? ⟨b,o+j*3,none⟩=some (.int .i64 (k:Int))/\w'.cell? ⟨b,o+j*3+1,none⟩=some (.slice p1 f.locals.length n1)/\w'.cell? ⟨b,o+j*3+1+1,none⟩=some (.slice p2 f.stack.length n2)/\w'.cell? ⟨b',o'+j*3,none⟩=some (.int .i64 (k:Int))/\w'.cell? ⟨b',o'+j*3+1,none⟩=some (.slice p3 f.locals.length n3)/\w'.cell? ⟨b',o'+j*3+1+1,none⟩=some (.slice p4 f.stack.length n4))
     (first|go_keep)
     (first
      |(go_fit (HSm.out _ ?_);exact Xb.drew;rintro e w3⟨rfl,hB3,k0,k1,k2,k3,k4,k5⟩))
    all_goals (go_wp2_with fail;go_meet;exact⟨rfl,Qa hB Xl (Qa (Xb.drew) Xl hB3)⟩)
   case rest =>
    obtain⟨rfl,hBw⟩:=hcut;go_wp2_with fail;go_roundw;case rel=>exact⟨j+1,by omega,by simp,hBw⟩
    case measure=>simp[intOf];omega
  ·obtain rfl:j=L.length:=(by omega);go_wp2_with fail;go_ret;exact⟨rfl,hB⟩
set_option maxRecDepth 512
theorem zcH{l:List Qb}(ho:∀c∈l,qV c){cls:Str}{at':Int}{m:Zk}(h:zV cls at' l=some m):z9 m/\cls.size<=1048576/\(Qc (Za l) cls).isSome=true:=by
 obtain⟨c,hc,hcn,hmc⟩:=QaQ h;exact⟨(ho c hc).methods m hmc,by rw[<-hcn];exact(ho c hc).name,by rw[<-hcn];exact QaL hc⟩
theorem zbq{m:Zk}{args args':List Str}{g g':Str}{many many':Nat}(h:qac m args g many)(k:qac m args' g' many'):args'=args/\g'=g/\many'=many:=by
 have e1:=h.type;rw[k.type]at e1;injection e1 with e1
 injection e1 with e1 e2
 have e3:(many':Int)=(many:Int):=k.locals.symm.trans h.locals;exact⟨e1,e2,by omega⟩
theorem Zbh{l:List Qb}{cls:Str}{at':Int}(hz:zG l cls at'=0):Zj l=0:=by
 unfold zG at hz;split at hz
 ·rename_i h0;exact absurd hz h0
 ·rename_i h0;exact Decidable.not_not.1 h0
theorem qaZ{l:List Qb}(hcf:Zj l=0->∀c∈l,qd c=0){cls:Str}{at':Int}{n n':Nat}{F F':Option (Zk×Asg Frm)}(h:qaP l cls at' n F)(k:qaP l cls at' n' F'):n=n'/\F=F':=by
 rcases h with⟨h0,rfl,rfl⟩|⟨h0,m,args,g,many,h1,_,h3,G,h4,h5⟩
 ·rcases k with⟨_,rfl,rfl⟩|⟨k0,_⟩
  ·exact⟨rfl,rfl⟩
  ·exact absurd k0 h0
 ·rcases k with⟨k0,_⟩|⟨_,m',args',g',many',k1,_,k3,G',k4,k5⟩
  ·exact absurd h0 k0
  ·rw[h1]at k1;obtain rfl:=Option.some.inj k1;obtain⟨rfl,rfl,rfl⟩:=zbq h3 k3;have hz:=Zbh h0;obtain rfl:=qaf (Qal hz) (hcf hz) h3.code h3.hands (Zar h3) h4 k4;cases G with
   |none =>
    obtain⟨rfl,rfl⟩:=h5;obtain⟨rfl,rfl⟩:=k5;exact⟨rfl,rfl⟩
   |some A =>
    obtain⟨rfl,rfl⟩:=h5;obtain⟨rfl,rfl⟩:=k5;exact⟨rfl,rfl⟩
theorem Zbq{l:List Qb}{n k:Nat}(h:qaw l n)(g:qaw l k):n=k:=by
 have key:Zj l=0->(∀c∈l,∀m∈c.methods,zO l c.name m)->(∃c∈l,∃m∈c.methods,qcD l c.name m)->False:=fun hz hy ⟨c,hc,m,hm,ha,args,g,many,h3,h4⟩=>by
  rcases hy c hc m hm with h|⟨args',g',many',A,k3,k4⟩
  ·rw[ha]at h;cases h
  ·obtain⟨rfl,rfl,rfl⟩:=zbq h3 k3;cases qaf (Qal hz) (Q5 hz) h3.code h3.hands (Zar h3) h4 k4
 rcases h with⟨h1,rfl⟩|⟨h1,rfl,h2⟩|⟨h1,rfl,h2⟩<;>rcases g with⟨g1,rfl⟩|⟨g1,rfl,g2⟩|⟨g1,rfl,g2⟩
 ·rfl
 ·exact absurd g1 h1
 ·exact absurd g1 h1
 ·exact absurd h1 g1
 ·rfl
 ·exact(key h1 h2 g2).elim
 ·exact absurd h1 g1
 ·exact(key h1 g2 h2).elim
 ·rfl
set_option maxRecDepth 100000
theorem qbX(l:List Qb)(lv:Value)(cls:Str)(at':Int)(w:World)(hl:Qaw w)(ho:∀c∈l,qV c)(hlv:qi w lv l):
 Calls Tryz.prog 4 #[lv,.string cls,.int .i64 at'] w fun e w'=>e=.returned (.bool true)/\Below w.heap.size w w':=by
 have HCd:=Xh (ZcE w hl);have HWd:Hid (∀wx,Below w.heap.size w wx->_):=fun wx hb=>qaX l lv wx (hl.mono hb hl.1) ho (hlv.mono hb)
 have HCf:Hid (∀wx,Below w.heap.size w wx->_):=fun wx hb=>qbp l lv wx ho (hlv.mono hb)
 have HMf:Hid (∀wx,Below w.heap.size w wx->_):=fun wx hb=>qbh l lv cls at' wx ho (hlv.mono hb)
 have HMe:Hid (∀wx,Below w.heap.size w wx->_):=fun wx hb=>qaU l lv cls at' wx (hl.mono hb hl.1) ho (hlv.mono hb)
 have HLv:=Xh hlv;have HO:=Xh ho;obtain⟨pl,cap,rfl,hpo⟩:=hlv.open;clear hpo hl ho hlv;by_cases hca:∃n,qaw l n
 ·obtain⟨n,hn⟩:=hca;replace HWd:Hid (∀wx,Below w.heap.size w wx->Calls _ _ _ wx fun e w'=>e=.returned (zE n)/\Below wx.heap.size wx w'):=fun wx hb=>(HWd.out wx hb).mono fun e w' ⟨hB,k,hk,h⟩=>by
   obtain rfl:=Zbq hn hk;exact⟨h,hB⟩
  replace HCf:Hid (∀wx,Below w.heap.size w wx->Calls _ _ _ wx fun e w'=>e=.returned (.int .i64 n)/\Below wx.heap.size wx w'):=fun wx hb=>(HCf.out wx hb).mono fun e w' ⟨hB,k,hk,h⟩=>by
   obtain rfl:=Zbq hn hk;exact⟨h,hB⟩
  have HE:Hid (∀wx,Calls _ _ _ wx _):=fun wx=>qbC n n wx
  rw[Xj rfl]at HE;have HA:Hid (∀(wx:World) (o:Obj),Below wx.heap.size wx (wx.alloc o)):=fun wx o=>Xb.alloc Xl o
  clear hn;generalize zE n=ev at *;generalize ((n:Nat):Int)=ni at *;by_cases hz:zG l cls at'=0
  ·have HZ:=Xh hz;clear hz;go_enter Tryz.func4,Tryz.ntmps4;go_upto_region 6 with(first
    |(go_fit (HCd.out);rintro e w2⟨rfl,hB2⟩)
    |(go_fit (HWd.out _ hB2);rintro e w3⟨rfl,hB3⟩;(have B3:=Qa hB2 Xl hB3))
    |(go_fit (HCf.out _ B3);rintro e w4⟨rfl,hB4⟩;(have B4:=Qa B3 Xl hB4))
    |(go_fit (HE.out _);rintro e w5⟨rfl,rfl⟩)
    |(go_fit (HMf.out _ B4);rintro e w6⟨hB6,⟨_,m,v,hnm,hab,rfl,⟨pc,kc,ph,kh,rfl,hcv,hhv⟩⟩|⟨hz,_⟩⟩;rotate_left;(exact absurd HZ.out hz)))
   obtain⟨c,hc,hcn,hmc⟩:=QaQ hnm;have hr0:=Zbh HZ.out;obtain⟨args,g,many,hG⟩:=Qa4 (Q5 hr0 c hc) hmc hab.out;obtain⟨hmo,hcl,_⟩:=zcH HO.out hnm;have B6:=Qa B4 Xl hB6;have Ba:=HA.out w6 (.cells #[.string m.name,.string m.type,.bool m.static,.bool m.abs,.bool m.priv,.int .i64 m.locals,.slice pc m.code.length kc,.slice ph m.handlers.length kh] 53);have k7:=Blk.new w6 53 [.string m.name,.string m.type,.bool m.static,.bool m.abs,.bool m.priv,.int .i64 m.locals,.slice pc m.code.length kc,.slice ph m.handlers.length kh];have B7:=Qa B6 Xl Ba;have B47:=Qa hB6 Xl Ba;generalize w6.alloc (.cells #[.string m.name,.string m.type,.bool m.static,.bool m.abs,.bool m.priv,.int .i64 m.locals,.slice pc m.code.length kc,.slice ph m.handlers.length kh] 53)=w7 at *;have hFr:=zbb l (.slice pl l.length cap) (Qal hr0) (Q5 hr0) w7 (HLv.out.mono B7) m cls g args many pc ph kc kh hG hmo hcl (hcv.mono B47 (by decide) (fun _ _ h=>h)) (hhv.mono B47 (by decide) (fun _ _ h=>h));unfold zbh at hFr;have HFr:=Xh hFr;have q0:=k7.cell 0;have q1:=k7.cell 1;have q2:=k7.cell 2;have q3:=k7.cell 3;have q4:=k7.cell 4;have q5:=k7.cell 5;have q6:=k7.cell 6;have q7:=k7.cell 7;have hcl40:=(Z2 hG.code).small;have HB7:=Xh B7;have HNm:=Xh (And.intro hnm (And.intro hab.out hG));clear hB2 B3 hB3 hB4 B4 hB6 B6 Ba B47 B7 k7 hnm hab hG hmo hcl hc hcn hmc hcv hhv hFr hr0;by_cases hex:∃A,Qr (Za l) cls g m (ZI cls m.static args many) (some A)
   ·obtain⟨A,hA⟩:=hex;have hC:qaP l cls at' 0 (some (m,A)):=Or.inr ⟨HZ,m,args,g,many,HNm.out.1,HNm.out.2.1,HNm.out.2.2,some A,hA,rfl,rfl⟩;replace HMe:Hid (∀wx,Below w.heap.size w wx->Calls _ _ _ wx fun e w'=>Below wx.heap.size wx w'/\∃v,e=.returned (.tuple #[v,.nilIface])/\ZbC w' v (Zag A m.code.length)):=fun wx hb=>(HMe.out wx hb).mono fun e w' ⟨hB,n,F,hC',hF⟩=>by
     obtain⟨_,rfl⟩:=qaZ Q5 hC hC';exact⟨hB,hF⟩
    replace HFr:Hid (Calls _ _ _ w7 fun e w'=>Below w7.heap.size w7 w'/\e=.returned (.tuple #[.slice (some ⟨w7.heap.size+1,0,none⟩) m.code.length m.code.length,.slice (some ⟨w7.heap.size+1+1,0,none⟩) m.code.length m.code.length,.bool true])/\FH w' (w7.heap.size+1) (w7.heap.size+1+1) m.code.length A):=HFr.out.mono fun e w' ⟨hB,R,hR,h⟩=>by
     have hG:=HNm.out.2.2;have hr0:=Zbh HZ.out;obtain rfl:=qaf (Qal hr0) (Q5 hr0) hG.code hG.hands (Zar hG) hA hR;exact⟨hB,h⟩
    clear hA hC;go_upto_region 11 with(go_fit (HFr.out);rintro e w8⟨hB8,rfl,hF8⟩)
    have HB8:=Xh (Qa HB7 Xl hB8);have HF8:=Xh hF8;clear hB8 hF8 q0 q1 q2 q3 q4 q5 q6 q7;go_wp2_with fail;go_loopw [11,15] (fun v x wr=>∃(j:Nat) (xs:List Value),j<=m.code.length/\x=.int .i64 j/\Hid (Below w8.heap.size w8 wr)/\Hid (qbQ wr w8.heap.size v (Zag A j).length xs)/\Hid (qI wr (Zag A j) xs)) (fun _ x _=>m.code.length-(intOf x).toNat)
    case atStart=>exact⟨0,[],Nat.zero_le _,rfl,Xb,qbQ.empty _ _,rfl⟩
    case round =>
     obtain⟨j,xs,hj,rfl,hB,hR,hV⟩:=hrel;obtain⟨va,vc,rfl⟩:=hR.out.shape;by_cases hjl:j<m.code.length
     ·obtain⟨p1,n1,p2,n2,a0,a1,hfa,_,_,a2,_⟩:=(HF8.out.step hB.out).at hjl;have hjI:(j:Int)<(m.code.length:Int):=(by omega);have hj0:(0:Int)<=(j:Int):=Int.natCast_nonneg _;cases hFj:A j with
      |none =>
       rw[hFj]at a2;replace a2:=show _=some (Value.bool false) from a2
       have HMn:=Xh (Qbh hFj);clear hFj hfa a0 a1;go_wp2_with fail;go_roundw;case rel=>exact⟨j+1,xs,by omega,by simp,hB,by unfold Hid;rw[HMn.out];exact hR.out,by unfold Hid;rw[HMn.out];exact hV.out⟩
       case measure=>simp[intOf];omega
      |some f =>
       rw[hFj]at a0 a1 a2 hfa;replace a0:=show _=some (Value.slice p1 f.locals.length n1) from a0
       replace a1:=show _=some (Value.slice p2 f.stack.length n2) from a1
       replace a2:=show _=some (Value.bool true) from a2
       replace hfa:zk wr (.slice p1 f.locals.length n1) (.slice p2 f.stack.length n2) f:=hfa;have hmn:=Xh (zbi hFj);have Ba:=HA.out wr (.cells #[.int .i64 (j:Int),.slice p1 f.locals.length n1,.slice p2 f.stack.length n2] 62);have k8:=Blk.new wr 62 [.int .i64 (j:Int),.slice p1 f.locals.length n1,.slice p2 f.stack.length n2];have R8:=hR.out.below Ba;have HV8:=Xh (hV.out.keepS (Qy.below Ba));have Hv8:=Xh (hfa.mono Ba);have HB9:=Xh (Qa hB Xl Ba);have hml:=QbC A j;have h63:(Zag A j).length+1<=maxLen:=(by unfold maxLen;omega);have h56:((Zag A j).length+1)*56<=140737488355328:=(by omega);have hbs:w8.heap.size<=(wr.alloc (.cells #[.int .i64 (j:Int),.slice p1 f.locals.length n1,.slice p2 f.stack.length n2] 62)).heap.size:=HB9.out.size;have hone:∀u∈[Value.int .i64 (j:Int),.slice p1 f.locals.length n1,.slice p2 f.stack.length n2],u.oneCell'=true:=fun u hu=>by
        simp at hu;rcases hu with rfl|rfl|rfl<;>rfl
       have hcel:∀(i:Nat) (u:Value),[Value.int .i64 (j:Int),.slice p1 f.locals.length n1,.slice p2 f.stack.length n2][i]? = some u->(wr.alloc (.cells #[.int .i64 (j:Int),.slice p1 f.locals.length n1,.slice p2 f.stack.length n2] 62)).cell? ((⟨wr.heap.size,0,none⟩:Addr).add i)=some u:=fun i u hu=>by
        rw[zaR rfl,Nat.zero_add,k8.cell];exact hu
       clear hFj hfa Ba k8 hml;go_wp2_with (at_builtin;go_must (refine ZaC rfl _ _ rfl w8.heap.size _ (Zag A j).length xs rfl R8 hbs (.int .i64 (j:Int)) (.slice p1 f.locals.length n1) (.slice p2 f.stack.length n2) ⟨wr.heap.size,0,none⟩ 1 rfl hcel hone (by simp[qar]) h63 h56 ?_);intro v9 w9 hR9 hg9 _;(have HR9:=Xh hR9);(have Hg9:=Xh hg9);(have HS9:=Xh (R8.keepS hg9));obtain⟨a9,c9,rfl⟩:=hR9.shape)
       go_roundw;case rel =>
        refine⟨j+1,xs++[.int .i64 (j:Int),.slice p1 f.locals.length n1,.slice p2 f.stack.length n2],by omega,by simp,HB9.out.grown Hg9.out HB9.out.size (fun g e=>(qbQ.lt R8 g e).1),?_,?_⟩
        ·unfold Hid;rw[hmn.out,List.length_append];exact HR9.out
        ·unfold Hid;rw[hmn.out];exact qI.snoc (Hv8.out.keepS HS9.out) (HV8.out.keepS HS9.out)
       case measure=>simp[intOf];omega
     ·obtain rfl:j=m.code.length:=(by omega);have HMx:=Xh (hR.out.maps hV.out);have HB9:=Xh (Qa HB8 Xl hB);clear hR hV;have HE0:Hid (∀wx,_):=qej;have HSm:Hid (∀wx v,Below wr.heap.size wr wx->ZbC wx v (Zag A m.code.length)->_):=fun wx v hb hv=>qaQ (Zag A m.code.length) v _ wx hv (Qg.mono hb (by decide) (fun _ _ ⟨lv,sv,h1,h2⟩=>⟨lv,sv,h1,h2.mono hb⟩) HMx.out)
      go_wp2_with (first
       |(go_fit (HMe.out _ HB9.out);rintro e w10⟨hB10,v10,rfl,hM10⟩)
       |(go_fit (HE0.out _);rintro e w11⟨rfl,rfl⟩)
       |(go_fit (HSm.out _ _ hB10 hM10);rintro e w12⟨rfl,hB12⟩))
      go_ret;exact⟨rfl,Qa HB9 Xl (Qa hB10 Xl hB12)⟩
   ·have HEx:=Xh hex;clear hex;replace HFr:Hid (Calls _ _ _ w7 fun e w'=>Below w7.heap.size w7 w'/\e=.returned (.tuple #[.slice none 0 0,.slice none 0 0,.bool false])/\Qr (Za l) cls g m (ZI cls m.static args many) none):=HFr.out.mono fun e w' ⟨hB,R,hR,h⟩=>by
     cases R with
     |none=>exact⟨hB,h,hR⟩
     |some F=>exact absurd ⟨F,hR⟩ HEx.out
    go_upto_region 11 with(go_fit (HFr.out);rintro e w8⟨hB8,rfl,hA⟩)
    have hC:qaP l cls at' 7 none:=Or.inr ⟨HZ,m,args,g,many,HNm.out.1,HNm.out.2.1,HNm.out.2.2,none,hA,rfl,rfl⟩;replace HMe:Hid (∀wx,Below w.heap.size w wx->Calls _ _ _ wx fun e w'=>Below wx.heap.size wx w'/\e=.returned (.tuple #[.slice none 0 0,.iface 29 (.int .i64 7)])):=fun wx hb=>(HMe.out wx hb).mono fun e w' ⟨hB,n,F,hC',hF⟩=>by
     obtain⟨rfl,rfl⟩:=qaZ Q5 hC hC';exact⟨hB,hF.2⟩
    have HB8:=Xh (Qa HB7 Xl hB8);have HE0:Hid (∀wx,Calls _ _ #[.iface 29 (.int .i64 7),.int .i64 7] wx _):=qeg 7 (by decide);have HSm:Hid (∀wx,_):=fun wx=>qaQ [] (.slice none 0 0) (.slice none 0 0) wx (Or.inl ⟨rfl,rfl⟩) (Or.inl ⟨rfl,rfl⟩)
    clear hB8 hA hC q0 q1 q2 q3 q4 q5 q6 q7;go_wp2_with fail;go_loopw [11,15] (fun v x wr=>v=.slice none 0 0/\x=.int .i64 0/\w8=wr) (fun _ _ _=>0)
    case atStart=>exact⟨rfl,rfl,rfl⟩
    case round =>
     obtain⟨rfl,rfl,rfl⟩:=hrel;go_wp2_with (first
      |(go_fit (HMe.out _ HB8.out);rintro e w10⟨hB10,rfl⟩)
      |(go_fit (HE0.out _);rintro e w11⟨rfl,rfl⟩)
      |(go_fit (HSm.out _);rintro e w12⟨rfl,hB12⟩))
     go_ret;exact⟨rfl,Qa HB8 Xl (Qa hB10 Xl hB12)⟩
  ·have HZ:=Xh hz;clear hz;have hC:qaP l cls at' (zG l cls at') none:=Or.inl ⟨HZ,rfl,rfl⟩;replace HMe:Hid (∀wx,Below w.heap.size w wx->Calls _ _ _ wx fun e w'=>Below wx.heap.size wx w'/\e=.returned (.tuple #[.slice none 0 0,.iface 29 (.int .i64 ((zG l cls at':Nat):Int))])):=fun wx hb=>(HMe.out wx hb).mono fun e w' ⟨hB,n,F,hC',hF⟩=>by
    obtain⟨rfl,rfl⟩:=qaZ Q5 hC hC';exact⟨hB,hF.2⟩
   replace HMf:Hid (∀wx,Below w.heap.size w wx->Calls _ _ _ wx fun e w'=>e=.returned (.tuple #[.agg #[.string ⟨#[]⟩,.string ⟨#[]⟩,.bool false,.bool false,.bool false,.int .i64 0,.slice none 0 0,.slice none 0 0],.int .i64 ((zG l cls at':Nat):Int)])/\Below wx.heap.size wx w'):=fun wx hb=>(HMf.out wx hb).mono fun e w' ⟨hB,h⟩=>by
    rcases h with⟨h,_⟩|⟨_,h⟩
    ·exact absurd h HZ.out
    ·exact⟨h,hB⟩
   have HE0:Hid (∀wx,_):=qeg (zG l cls at') HZ.out;have hzb:(((zG l cls at':Nat):Int)==0)=false:=by
    have:=HZ.out;rw[beq_eq_false_iff_ne];omega
   have HSm:Hid (∀wx,_):=fun wx=>qaQ [] (.slice none 0 0) (.slice none 0 0) wx (Or.inl ⟨rfl,rfl⟩) (Or.inl ⟨rfl,rfl⟩)
   clear hC HZ;generalize zG l cls at'=k at *;go_enter Tryz.func4,Tryz.ntmps4;go_upto_region 6 with(first
    |(go_fit (HCd.out);rintro e w2⟨rfl,hB2⟩)
    |(go_fit (HWd.out _ hB2);rintro e w3⟨rfl,hB3⟩;(have B3:=Qa hB2 Xl hB3))
    |(go_fit (HCf.out _ B3);rintro e w4⟨rfl,hB4⟩;(have B4:=Qa B3 Xl hB4))
    |(go_fit (HE.out _);rintro e w5⟨rfl,rfl⟩)
    |(go_fit (HMf.out _ B4);rintro e w6⟨rfl,hB6⟩))
   have B7:=Qa (Qa B4 Xl hB6) Xl (HA.out w6 (.cells #[.string ⟨#[]⟩,.string ⟨#[]⟩,.bool false,.bool false,.bool false,.int .i64 0,.slice none 0 0,.slice none 0 0] 53));have HB7:=Xh B7;clear hB2 B3 hB3 hB4 B4 hB6 B7;go_wp2_with (first
    |(go_fit (HMe.out _ HB7.out);rintro e w10⟨hB10,rfl⟩)
    |(go_fit (HE0.out _);rintro e w11⟨rfl,rfl⟩)
    |(go_fit (HSm.out _);rintro e w12⟨rfl,hB12⟩))
   go_ret;exact⟨rfl,Qa HB7 Xl (Qa hB10 Xl hB12)⟩
 ·have HX:=Xh hca;clear hca;go_enter Tryz.func4,Tryz.ntmps4;go_wp2_with (first
   |(go_fit (HCd.out);rintro e w2⟨rfl,hB2⟩)
   |(go_fit (HWd.out _ hB2);rintro e w3⟨_,k,hk,_⟩;exact absurd ⟨k,hk⟩ HX.out))
set_option maxRecDepth 512
end Go.Proofs.YtlmfmioljeppfaaGreatDoor
