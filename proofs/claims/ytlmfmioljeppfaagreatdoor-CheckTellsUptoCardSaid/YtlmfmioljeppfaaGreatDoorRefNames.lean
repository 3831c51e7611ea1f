/- Lemmas; conditions: as each states. -/
import Derived.Test.YtlmfmioljeppfaaGreatDoorRefJoined
import Derived.LaidEql
set_option maxHeartbeats 4000000
namespace Go.Proofs.YtlmfmioljeppfaaGreatDoor
open Go.RowKit Go.Shelf Go.Lib
theorem ZdF{B:Nat}{w w7:World}{p:Nat}(h:Below B w w7)(hp:B<=p){a0 a1 a2 a3 a4 a5:Value}:
 Below B w ((((((w7.setCell ⟨p,0,none⟩ a0).setCell ⟨p,1,none⟩ a1).setCell ⟨p,2,none⟩ a2).setCell ⟨p,3,none⟩ a3).setCell ⟨p,4,none⟩ a4).setCell ⟨p,5,none⟩ a5) :=
 (((((h.setCell hp _).setCell hp _).setCell hp _).setCell hp _).setCell hp _).setCell hp _
set_option maxRecDepth 100000
theorem Qbp(l:List Qb)(lv:Value)(w:World)(ho:∀c∈l,qV c)(hlv:qi w lv l):
 Calls Tryz.prog 11 #[lv] w fun e w'=>e=.returned (.int .i64 (Zj l))/\Below w.heap.size w w':=by
 have HLV:Hid (∀wx,Below w.heap.size w wx->qi wx lv l):=fun wx hb=>hlv.mono hb
 obtain⟨pl,cap,rfl,hc1,hc2,hcc⟩:=hlv.open;have HCl:Hid (∀wx c fv dv mv,Below w.heap.size w wx->c∈l->Qh w fv c.faces->Qg w 2 ZE dv c.fields->Qg w 8 (Zr w) mv c.methods->_):=fun wx c fv dv mv hb hc h1 h2 h3 =>
  zcA c fv dv mv wx (ho c hc) (h1.mono hb) (h2.mono hb (by decide) (fun _ _ h=>h)) (h3.mono hb (by decide) (fun _ _ h=>h.mono hb))
 have HC:Hid (∀(i:Nat) (x:Qb),l[i]? = some x->∃b o vs,pl=some ⟨b,o,none⟩/\Z6 w x vs/\vs.length=6/\qG w b (o+i*6) vs):=hcc;clear hcc hlv ho;by_cases h10:10<l.length
 ·have hf:Zj l=4:=by unfold Zj;rw[if_pos h10]
  have HF:=Xh hf;clear hf HC HCl;go_enter Tryz.func11,Tryz.ntmps11;go_wp2_with fail;all_goals first|(exfalso;omega)|skip
  go_ret;exact⟨by rw[HF.out];rfl,Xb⟩
 ·have HF:Hid (Zj l=if Qf Zv [] l≠0 then Qf Zv [] l else if Zh (qv (Za l)) l≠0 then Zh (qv (Za l)) l else if l.any (fun c=>ZR (Za l) c.name) then 6 else 0):=by
   unfold Hid Zj;rw[if_neg h10]
  have hlen:l.length<=10:=by omega
  clear h10;generalize Zj l=res at *;go_enter Tryz.func11,Tryz.ntmps11;go_wp2_with fail;all_goals first|(exfalso;omega)|skip
  go_loopw [3] (fun x wr=>∃k:Nat,k<=l.length/\Hid (Qf Zv (l.take k) (l.drop k)=Qf Zv [] l)/\Hid (∀c∈l.take k,qd c=0)/\Below w.heap.size w wr/\x=.int .i64 k) (fun x _=>l.length-(intOf x).toNat)
  case atStart=>exact⟨0,by omega,rfl,(fun c hc=>by simp at hc),Xb,rfl⟩
  case round =>
   obtain⟨k,hk,hff,HA,hB,rfl⟩:=hrel;by_cases hkl:k<l.length
   ·obtain⟨c,hx⟩:∃x,l[k]? = some x:=⟨l[k],by simp[hkl]⟩;obtain⟨b,o,vs,rfl,⟨fv,dv,mv,rfl,k1,k2,k3⟩,_,qc⟩:=HC.out k c hx;have qc:=qc.mono hB qc.lt;have Zc:=zR Zv l k c hx;rw[hff.out]at Zc;obtain⟨pf,capf,rfl,_⟩:=k1.open;obtain⟨pd,capd,rfl,_⟩:=k2.open;obtain⟨pm,capm,rfl,_⟩:=k3.open;have hcla:∀wx,Below w.heap.size w wx->_:=fun wx hb=>HCl.out wx c _ _ _ hb (Xe hx) k1 k2 k3
    unfold Qz at hcla;have HX:=Xh hx;have hcp:=qc;obtain⟨c0,c1,c2,c3,c4,c5,_⟩:=qc;clear hx k1 k2 k3;by_cases hz:qd c=0
    ·rw[hz]at hcla;have hst1:Zv c (l.take k)=if (Qc (Za (l.take k)) c.name).isSome then 5 else 0:=(by unfold Zv;rw[if_neg (by rw[hz];decide)]);rw[hst1]at Zc;have HA2:Hid (∀c∈l.take (k+1),qd c=0):=fun d hd=>by
      rw[List.take_add_one,HX.out]at hd;rcases List.mem_append.1 hd with h|h
      ·exact HA.out d h
      ·simp at h;subst h;exact hz
     have HCla:=Xh hcla;have HCP:=Xh hcp;clear hz hcla hst1 hff HA hcp;go_upto_region 9 with(go_fit (HCla.out _ hB);rintro e w2⟨rfl,hB2⟩)
     have hBw:=Qa hB Xl hB2;have hcp:=HCP.out.mono hB2 HCP.out.lt;have hlb:=hcp.lt;obtain⟨n0,_⟩:=hcp;have hco:∀wx,Below w.heap.size w wx->_:=fun wx hb=>QA (l.take k) (.slice (some ⟨b,o,none⟩) k cap) c.name wx (Qg.take (HLV.out wx hb) rfl rfl hk)
     unfold qJ at hco;generalize (Qc (Za (l.take k)) c.name).isSome=is at *;generalize (Qc (Za (l.take k)) c.name).getD zg=d at *;obtain⟨n2,s2,f2,b2,d2,m2⟩:=d;dsimp only at hco;have HCO:=Xh hco;clear hco c0 c1 c2 c3 c4 c5 HCla HCP hB hB2;go_cut [6] (fun s wx=>s=.bool is/\Below w.heap.size w wx)
     case first =>
      clear HF Zc;go_region_with (first
       |(go_fit (HCO.out _ (Qa hBw Xl (Xb.drew)));rintro e w7⟨pf2,kf2,pd2,kd2,pm2,km2,rfl,_,_,_,hB7,_⟩;(have hBe:=Qa hBw Xl (Qa ((Below.refl w2.heap.size w2).drew) Xl hB7)))
       |(go_fit (HCO.out _ (Qa hBw Xl ((Xb.alloc Xl _).drew)));rintro e w7⟨pf2,kf2,pd2,kd2,pm2,km2,rfl,_,_,_,hB7,_⟩;(have BZ:=((ZY w2 #[.string ⟨#[]⟩,.string ⟨#[]⟩,.slice none 0 0,.bool false,.slice none 0 0,.slice none 0 0] 36).drew).step hB7);obtain⟨z0,z1,z2,z3,z4,z5⟩:=qM BZ;(have hfr:∀i,w7.frozen? ⟨w2.heap.size,i,none⟩=false:=fun i=>(hB7.frozen (p:=⟨w2.heap.size,i,none⟩) (by simp)).trans (by simp));(have hlt7:=BZ.size);(have hBe:=Qa hBw Xl (Qa (((Below.refl w2.heap.size w2).alloc Xl _).drew) Xl hB7))))
      all_goals
       go_wp2
       go_meet;first
        |(with_reducible refine⟨rfl,ZdF hBe hBw.size⟩)
        |(with_reducible refine⟨rfl,hBe.alloc hBe.size _⟩)
     case rest =>
      clear hBw n0 hlb HCO;obtain⟨rfl,hB⟩:=hcut;cases is with
      |true =>
       replace Zc:Qf Zv [] l=5:=Zc;have hfin:Hid (res=5):=(by unfold Hid;rw[HF.out,if_pos (by rw[Zc];decide),Zc]);clear HF Zc;go_wp2_with fail;go_ret;exact⟨by rw[hfin.out];rfl,hB⟩
      |false =>
       replace Zc:Qf Zv [] l=Qf Zv (l.take (k+1)) (l.drop (k+1)):=Zc;have hst:=Xh Zc.symm;clear HF Zc;go_wp2_with fail;go_roundw;case rel=>exact⟨k+1,by omega,hst.out,HA2,hB,by simp⟩
       case measure=>simp[intOf];omega
    ·rw[show Zv c (l.take k)=qd c from by unfold Zv;rw[if_pos hz],if_neg hz]at Zc;have hfin:Hid (res=qd c):=(by unfold Hid;rw[HF.out,if_pos (by rw[Zc];exact hz),Zc]);have hnz:=ZaF (qd c);have HCla:=Xh hcla;rw[Xj hz]at hnz;clear hcla Zc HF hff hcp hz HA;generalize qd c=fc at *;go_wp2_with (go_fit (HCla.out _ hB);rintro e w2⟨rfl,hB2⟩)
     go_ret;exact⟨by rw[hfin.out];rfl,Qa hB Xl hB2⟩
   ·have hff0:Hid (Qf Zv [] l=0):=by
     rw[<-hff.out,Xg (by omega)];rfl
    obtain rfl:k=l.length:=(by omega);have HA2:Hid (∀c∈l,qd c=0):=(by have:=HA.out;rwa [List.take_length]at this);rw[if_neg (by rw[hff0.out];decide)]at HF;have HJ:Hid (∀wx c fv dv mv,Below w.heap.size w wx->c∈l->Qh w fv c.faces->_):=fun wx c fv dv mv hb hc h1=>zch l _ c fv dv mv wx (HLV.out wx hb) (h1.mono hb) (Xf (Zbv (HA2.out c hc)) (by decide))
    clear hff hff0 HA HCl;go_wp2_with fail;go_loopw [7] (fun x wr=>∃k:Nat,k<=l.length/\Hid (Zh (qv (Za l)) (l.drop k)=Zh (qv (Za l)) l)/\Below w.heap.size w wr/\x=.int .i64 k) (fun x _=>l.length-(intOf x).toNat)
    case atStart=>exact⟨0,by omega,rfl,hB,rfl⟩
    case round =>
     clear hB;obtain⟨k,hk,hff,hB,rfl⟩:=hrel;by_cases hkl:k<l.length
     ·obtain⟨c,hx⟩:∃x,l[k]? = some x:=⟨l[k],by simp[hkl]⟩;obtain⟨b,o,vs,rfl,⟨fv,dv,mv,rfl,k1,k2,k3⟩,_,qc⟩:=HC.out k c hx;have qc:=qc.mono hB qc.lt;have Zc:=ZS (qv (Za l)) l k c hx;rw[hff.out]at Zc;obtain⟨pf,capf,rfl,_⟩:=k1.open;obtain⟨pd,capd,rfl,_⟩:=k2.open;obtain⟨pm,capm,rfl,_⟩:=k3.open;have hj:=HJ.out wr c _ (.slice pd c.fields.length capd) (.slice pm c.methods.length capm) hB (Xe hx) k1;unfold Qz at hj;have hnz:=ZaF (qv (Za l) c);have HX:=Xh hx;clear hx k1 k2 k3 hff;obtain⟨c0,c1,c2,c3,c4,c5,_⟩:=qc;by_cases hz:qv (Za l) c=0
      ·rw[if_pos hz]at Zc;have hst:=Xh Zc.symm;rw[hz]at hj hnz;have HJc:=Xh hj;clear hj Zc HF hz hnz;go_wp2_with (go_fit HJc.out;rintro e w2⟨rfl,hB2⟩)
       go_roundw;case rel=>exact⟨k+1,by omega,hst.out,Qa hB Xl hB2,by simp⟩
       case measure=>simp[intOf];omega
      ·rw[if_neg hz]at Zc;rw[Xj hz]at hnz;have hfin:Hid (res=qv (Za l) c):=(by unfold Hid;rw[HF.out,if_pos (by rw[Zc];exact hz),Zc]);have HJc:=Xh hj;clear hj Zc HF hz;generalize qv (Za l) c=fc at *;go_wp2_with (go_fit HJc.out;rintro e w2⟨rfl,hB2⟩)
       go_ret;exact⟨by rw[hfin.out];rfl,Qa hB Xl hB2⟩
     ·have hff0:Hid (Zh (qv (Za l)) l=0):=by
       rw[<-hff.out,Xg (by omega)];rfl
      obtain rfl:k=l.length:=(by omega);rw[if_neg (by rw[hff0.out];decide)]at HF;have hja:=Q2 hff0.out;have hcl:=Qa7 hja;have h12:(Za l).length<=12:=(by unfold Za;simp;omega);have HU:Hid (∀wx c,Below w.heap.size w wx->c∈l->_):=fun wx c hb hc=>zbe l _ c.name wx (HLV.out wx hb) (fun d hd=>Xf (Zbv (HA2.out d hd)) (by decide)) h12 hcl (QaL hc) (ZaG HA2.out hja (QaL hc))
      have HRd:Hid (∀c∈l,ZL (upC (Za l) c.name) c.name=ZR (Za l) c.name):=fun c hc=>zel HA2.out hja hc
      unfold qaj at HU;clear hff hff0 hja hcl h12 HJ;go_wp2_with fail;go_loopw [9] (fun x wr=>∃k:Nat,k<=l.length/\Hid (((l.drop k).any fun c=>ZR (Za l) c.name)=(l.any fun c=>ZR (Za l) c.name))/\Below w.heap.size w wr/\x=.int .i64 k) (fun x _=>l.length-(intOf x).toNat)
      case atStart=>exact⟨0,by omega,rfl,hB,rfl⟩
      case round =>
       clear hB;obtain⟨k,hk,hff,hB,rfl⟩:=hrel;by_cases hkl:k<l.length
       ·obtain⟨c,hx⟩:∃x,l[k]? = some x:=⟨l[k],by simp[hkl]⟩;obtain⟨b,o,vs,rfl,⟨fv,dv,mv,rfl,k1,k2,k3⟩,_,qc⟩:=HC.out k c hx;have qc:=qc.mono hB qc.lt;have Zc:=qai (fun c=>ZR (Za l) c.name) l k c hx;rw[hff.out,<-HRd.out c (Xe hx)]at Zc;have hu:=HU.out wr.drew c (Qa hB Xl (Xb.drew)) (Xe hx);have HX:=Xh hx;have hlb:=qc.lt;obtain⟨n0,_⟩:=qc;clear hx k1 k2 k3 hff;generalize upC (Za l) c.name=U at *;have hIn:∀wx v,Qh wx v U->_:=fun wx v h=>qbk U v c.name wx h
        generalize ZL U c.name=r at *;have HUc:=Xh hu;have HIn:=Xh hIn;clear hu hIn;go_upto_region 21 with fail;go_cut [73] (fun s wx=>s=.bool r/\Below w.heap.size w wx)
        case first =>
         clear HF Zc HRd;go_region_with (first
          |(go_fit HUc.out;rintro e w7⟨⟨v7,rfl,hv7⟩,hB7⟩;(have hn7:=(hB7.cell (p:=⟨b,o+k*6,none⟩) hlb).trans n0);(have hs7:=Ze hv7);(have hBe:=Qa hB Xl (Qa ((Below.refl wr.heap.size wr).drew) Xl hB7)))
          |(go_fit (HIn.out _ _ hs7);rintro e w8⟨rfl,rfl⟩))
         all_goals
          go_wp2
          go_meet;exact⟨rfl,hBe⟩
        case rest =>
         clear hB n0 hlb HUc HIn;obtain⟨rfl,hB⟩:=hcut;cases r with
         |true =>
          rw[Bool.true_or]at Zc;have hfin:Hid (res=6):=(by unfold Hid;rw[HF.out,if_pos Zc]);clear HF Zc;go_wp2_with fail;go_ret;exact⟨by rw[hfin.out];rfl,hB⟩
         |false =>
          rw[Bool.false_or]at Zc;have hst:=Xh Zc.symm;clear HF Zc;go_wp2_with fail;go_roundw;case rel=>exact⟨k+1,by omega,hst.out,hB,by simp⟩
          case measure=>simp[intOf];omega
       ·have hno:Hid ((l.any fun c=>ZR (Za l) c.name)=false):=by
         rw[<-hff.out,Xg (by omega)];rfl
        obtain rfl:k=l.length:=(by omega);have hfin:Hid (res=0):=(by unfold Hid;rw[HF.out,if_neg (by rw[hno.out];decide)]);clear hff hno HF HU;go_wp2_with fail;go_ret;exact⟨by rw[hfin.out];rfl,hB⟩
set_option maxRecDepth 512
theorem ZaX{P:Program}(w:World)(d:Nat){ti tn:TypeId}{ms:Array (String×TypeId)}{i:TypeInfo}{k:IntKind}(a b:Int)(hi:P.underlying ti=some (.interface ms))(hn:P.underlying tn=some (.int k))(hinfo:P.info? tn=some i)(hcomp:i.comparable=true):
 (Op.equalIn (d+2) ti (.iface tn (.int k a)) (.iface tn (.int k b))).run P w=.ok (a==b) w:=by
 simp[Op.equalIn,run_underlying hi,run_underlying hn,typeInfo,hinfo,hcomp]
theorem zby{P:Program}(w:World){ti tn:TypeId}{ms:Array (String×TypeId)}{i:TypeInfo}{k:IntKind}(a b:Int)(hi:P.underlying ti=some (.interface ms))(hn:P.underlying tn=some (.int k))(hinfo:P.info? tn=some i)(hcomp:i.comparable=true):
 (binOp .eql ti (.iface tn (.int k a)) (.iface tn (.int k b))).run P w=.ok (.bool (a==b)) w:=by
 simp only[binOp];simp[Op.equal,Op.maxDepth,ZaX w 9998 a b hi hn hinfo hcomp]
set_option maxRecDepth 100000
theorem zed:∃i,Tryz.prog.info? 29=some i/\i.comparable=true:=⟨_,rfl,rfl⟩
set_option maxRecDepth 512
theorem Zed(a b:Int)(w:World):(binOp .eql 43 (.iface 29 (.int .i64 a)) (.iface 29 (.int .i64 b))).run Tryz.prog w=.ok (.bool (a==b)) w:=by
 obtain⟨i,h1,h2⟩:=zed;exact zby w a b Tryz.underlying43 Tryz.underlying29 h1 h2
theorem ZcW(b:Int)(w:World):(binOp .eql 43 .nilIface (.iface 29 (.int .i64 b))).run Tryz.prog w=.ok (.bool false) w:=by kernel_rfl
theorem qbC(a b:Nat)(w:World):Calls Tryz.prog 18 #[zE a,.int .i64 b] w fun e w'=>e=.returned (.bool (decide (a=b)))/\w=w':=by
 by_cases hb:b=0
 ·subst hb;rcases QI a with⟨hv,rfl⟩|⟨hv,hz⟩
  ·rw[hv];clear hv;go_enter Tryz.func18,Tryz.ntmps18;go_wp2
   go_ret;exact⟨rfl,rfl⟩
  ·rw[hv,Xi hz];clear hv hz;go_enter Tryz.func18,Tryz.ntmps18;go_wp2
   go_ret;exact⟨rfl,rfl⟩
 ·have hb0:((b:Int)==0)=false:=by simpa using hb
  rcases QI a with⟨hv,rfl⟩|⟨hv,hz⟩
  ·rw[hv,Xi (fun h=>hb h.symm)];have hq:=ZcW (b:Int);clear hv hb;go_enter Tryz.func18,Tryz.ntmps18;go_wp2
   go_ret;exact⟨rfl,rfl⟩
  ·rw[hv];have hq:=Zed (a:Int) (b:Int);have hd:((a:Int)==(b:Int))=decide (a=b):=(by rw[Bool.eq_iff_iff,beq_iff_eq,decide_eq_true_eq];omega);rw[hd]at hq;generalize decide (a=b)=r at *;clear hv hb hz hd;go_enter Tryz.func18,Tryz.ntmps18;go_wp2
   go_ret;exact⟨rfl,rfl⟩
theorem qcC{w:World}{base base':Nat}{e:TypeId}{size:Nat}{v:Value}{n:Nat}{xs:List Value}(h:w.ownsRow base e size v n xs)(hb:base'<=base):w.ownsRow base' e size v n xs:=by
 rcases h with⟨h1,h2|⟨g,cap,cur,k1,k2,k3⟩⟩
 ·exact⟨h1,Or.inl h2⟩
 ·exact⟨h1,Or.inr ⟨g,cap,cur,k1,Xf hb k2,k3⟩⟩
theorem qcW{l:List Qb}(h:Qj l){n:Str}(hk:(Qc (Za l) n).isSome=true):(Zq (Za l) n).length<=13:=by
 have h1:=qaR (Za l) (Qk (Za l) n).length n;have h2:=(Qn h.closed hk).1.length;have h3:=h.small;unfold Zq;omega
set_option maxRecDepth 100000
theorem Qad(l:List Qb)(lv:Value)(hR:Qj l):∀(k:Nat) (n:Str) (w:World),qi w lv l->(Qc (Za l) n).isSome=true->(Qk (Za l) n).length<=k ->
 Calls Tryz.prog 103 #[lv,.string n] w (qaj w (Zq (Za l) n)):=by
 intro k;induction k with
 |zero =>
  intro n w _ hk hf;have:=List.length_pos_of_mem (Qn hR.closed hk).2.1;omega
 |succ k ih =>
  intro n w hlv hk hf;have HCO:=Xh (QA l lv n w hlv);unfold qJ at HCO;have HLV:Hid (∀wx,Below w.heap.size w wx->qi wx lv l):=fun wx hb=>hlv.mono hb
  obtain⟨pl,cap,rfl,_⟩:=hlv.open;rw[hk]at HCO;have ze:(qh (Za l) n).super.toList.isEmpty=decide ((qh (Za l) n).super.size=0):=ZD _;by_cases h0:(qh (Za l) n).super.size=0
  ·rw[Qj.line_top h0];rw[Xj h0]at ze;clear ih hlv hk hf h0 HLV hR;unfold qh at ze;generalize (Qc (Za l) n).getD zg=d at *;obtain⟨n2,s2,f2,b2,d2,m2⟩:=d;dsimp only at HCO ze;go_enter Tryz.func103,Tryz.ntmps103;go_wp2_with (go_fit HCO.out;rintro e w7⟨pf2,kf2,pd2,kd2,pm2,km2,rfl,_,_,_,hB7,_⟩)
   go_ret;have hB8:=hB7.alloc hB7.size (.cells #[.string n2,.string s2,.slice pf2 f2.length kf2,.bool b2,.slice pd2 d2.length kd2,.slice pm2 m2.length km2] 36);have:=QY (w7.alloc (.cells #[.string n2,.string s2,.slice pf2 f2.length kf2,.bool b2,.slice pd2 d2.length kd2,.slice pm2 m2.length km2] 36)) w.heap.size (.string n) hB8.size;exact⟨⟨_,rfl,by simpa using this⟩,hB8.alloc hB8.size _⟩
  ·obtain⟨hks,hlt⟩:=hR.up hk h0;have hll:=qcW hR hks;rw[hR.line_up hk h0];rw[Xi h0]at ze;have HS:Hid (∀wx,Below w.heap.size w wx->_):=fun wx hb=>ih (qh (Za l) n).super wx (HLV.out wx hb) hks (by omega)
   unfold qaj at HS;clear ih hlv hk hf h0 HLV hR hks hlt;generalize Zq (Za l) (qh (Za l) n).super=L at *;unfold qh at ze HS;generalize (Qc (Za l) n).getD zg=d at *;obtain⟨n2,s2,f2,b2,d2,m2⟩:=d;dsimp only at HCO ze HS;have hc3:1+L.length<=maxLen:=Xf (show 1+L.length<=14 by omega) (by decide);have hc4:(1+L.length)*16<=140737488355328:=(by omega);have HF3:=Xh hc3;have HF4:=Xh hc4;clear hc3 hc4;go_enter Tryz.func103,Tryz.ntmps103;go_upto_region 2 with(go_fit HCO.out;rintro e w7⟨pf2,kf2,pd2,kd2,pm2,km2,rfl,_,_,_,hB7,_⟩)
   have BX:=ZY w7 #[.string n2,.string s2,.slice pf2 f2.length kf2,.bool b2,.slice pd2 d2.length kd2,.slice pm2 m2.length km2] 36;have hB8:=hB7.alloc hB7.size (.cells #[.string n2,.string s2,.slice pf2 f2.length kf2,.bool b2,.slice pd2 d2.length kd2,.slice pm2 m2.length km2] 36);generalize w7.alloc (.cells #[.string n2,.string s2,.slice pf2 f2.length kf2,.bool b2,.slice pd2 d2.length kd2,.slice pm2 m2.length km2] 36)=w8 at *;obtain⟨q0,q1,q2,q3,q4,q5⟩:=qM BX;have hone:=QY w8 w8.heap.size (.string n) Xl;have hBb:Below w8.heap.size w8 (w8.alloc (.cells #[.string n] 9)):=Xb.alloc Xl _;have hlt:=BX.size;have hB9:=Qa hB8 Xl hBb;go_wp2_with (first
    |(go_fit (HS.out _ hB9);rintro e w10⟨⟨v10,rfl,hv10⟩,hB10⟩;(have hs10:=Ze hv10);(have hone10:=qr hone hB10);(have hB8a:=Qa hBb Xl hB10))
    |(at_builtin;(refine qg rfl _ _ rfl w8.heap.size _ _ _ rfl hone10 _ L rfl hs10 HF3.out HF4.out hB8a.size ?_);intro v6 w6 hown6 hgrow6 _))
   go_ret;have hB11:Below w.heap.size w w6:=Qa hB8 Xl (hB8a.grown hgrow6 hB8a.size (fun k hk=>(hone10.lt k hk).1));have hown7:w6.ownsRow w8.heap.size 9 1 v6 (n::L).length ((n::L).map Value.string):=(by simpa[Nat.add_comm] using hown6);exact⟨⟨_,rfl,qcC hown7 hB8.size⟩,hB11⟩
theorem Qbv(l:List Qb)(lv:Value)(n:Str)(w:World)(hR:Qj l)(hcf:∀c∈l,qd c=0)(hlv:qi w lv l)(hk:(Qc (Za l) n).isSome=true)(hne:∀x,(Qc (Za l) x).isSome=true->x.size≠0):
 Calls Tryz.prog 85 #[lv,.string n] w (qaj w (qE (Qk (Za l) n))):=by
 have hnd:=ZaG hcf hR.joined hk;have HU:Hid (∀wx,Below w.heap.size w wx->_):=fun wx hb=>zbe l lv n wx (hlv.mono hb) (fun c hc=>Xf (Zbv (hcf c hc)) (by decide)) hR.small hR.closed hk hnd
 unfold qaj at HU;obtain⟨hn1,hs1⟩:=ZdR hR hcf hk;obtain⟨g1,_⟩:=qb6 hR.closed hk hnd;have hLs:=hR.small;have hLl:=g1.length;rw[<-hs1];have HLe:Hid (∀k x,(qE (n::upC (Za l) n))[k]? = some x->qZ ((qE (n::upC (Za l) n)).take k) (n::upC (Za l) n) .empty=x):=Qc6 hn1 (fun x hx=>by
  rcases List.mem_cons.1 hx with rfl|hx
  ·exact hne _ hk
  ·exact hne x (g1.known x hx))
 have hsl:=Qbu (n::upC (Za l) n);obtain⟨pl,cap,rfl,_⟩:=hlv.open;clear hlv hnd hR hcf hk hne hs1 g1 hn1;generalize upC (Za l) n=U at *;have hc3:1+U.length<=maxLen:=Xf (show 1+U.length<=13 by omega) (by decide);have hc4:(1+U.length)*16<=140737488355328:=by omega
 have HF3:=Xh hc3;have HF4:=Xh hc4;have hone:=QY w w.heap.size (.string n) Xl;have hBb:Below w.heap.size w (w.alloc (.cells #[.string n] 9)):=Xb.alloc Xl _;rw[List.length_cons]at hsl;clear hc3 hc4;go_enter Tryz.func85,Tryz.ntmps85;go_upto_region 2 with(first
  |(go_fit (HU.out _ hBb);rintro e w3⟨⟨v3,rfl,hv3⟩,hB3⟩;(have hs3:=Ze hv3);(have hone3:=qr hone hB3);(have hB4:=Qa hBb Xl hB3))
  |(at_builtin;(refine qg rfl _ _ rfl w.heap.size _ _ _ rfl hone3 _ U rfl hs3 HF3.out HF4.out hB4.size ?_);intro v6 w6 hown6 hgrow6 _))
 have hB6:=hB4.grown hgrow6 hB4.size (fun k hk=>(hone3.lt k hk).1);have hown7:w6.ownsRow w.heap.size 9 1 v6 (n::U).length ((n::U).map Value.string):=by simpa[Nat.add_comm] using hown6
 have hs7:=Ze hown7;obtain⟨pL,kL,rfl,hL1,hL2,_⟩:=hs7.open;have hLb:Hid (∀g,(Value.slice pL (n::U).length kL).ownBlock=some g->g<w6.heap.size):=fun g hg=>(hown7.lt g hg).2
 have HLc:Hid ((n::U).length=U.length+1):=List.length_cons;clear hone hBb hs3 hone3 hB4 hown6 hgrow6 hown7 HF3 HF4 HU hv3 hB3;have hL13:(n::U).length<=13:=by rw[List.length_cons];omega
 generalize hL:n::U=L at *;have HLL:=Xh hL;clear hL;have hsl2:(qE L).length=L.length:=by rw[hsl,HLc.out]
 clear hsl;generalize qE L=S at *;have hlen:L.length<=9223372036854775807:=Xf hL1 hL2;go_wp2_with fail;go_loopw [6] (fun v wr=>∃k:Nat,k<=L.length/\wr.ownsRow w.heap.size 9 1 v k ((S.take k).map Value.string)/\Below w.heap.size w wr/\Qh wr (.slice pL L.length kL) L/\Hid (∀g,v.ownBlock=some g->(Value.slice pL L.length kL).ownBlock≠some g)) (fun v _=>match v with|.slice _ m _=>L.length-m|_=>0)
 case atStart=>exact⟨0,by omega,za4 _ _,hB6,hs7,fun g hg=>by cases hg⟩
 case round =>
  clear hB6 hs7;obtain⟨k,hk,hown,hB,hS,hsep⟩:=hrel;obtain⟨va,vc,rfl⟩:=qe hown;by_cases hkl:k<L.length
  ·obtain⟨s,hs⟩:∃s,S[k]? = some s:=⟨S[k]'(by omega),by simp[hsl2,hkl]⟩;have hle:=HLe.out k s hs;have hts:(S.take k).length=k:=(by rw[List.length_take];omega);have hIn:∀x,_:=fun x=>qbk (S.take k) (.slice va k vc) x wr (Ze (by rw[hts];exact hown))
   have HIn:=Xh hIn;have HLs:=Xh hle;have HSk:=Xh hs;have HTs:=Xh hts;clear hIn hle hs hts;generalize hT:S.take k=T at *;have HT:=Xh hT;clear hT;obtain⟨⟨bL,oL,rfl⟩,_⟩:=hS.ptr (by omega);go_wp2_with fail;go_loopw [7,8] (fun a x ws=>∃(j:Nat) (acc:Str),j<=L.length/\Hid (qZ T (L.drop j) acc=s)/\a=.string acc/\wr=ws/\x=.int .i64 j) (fun _ x _=>L.length-(intOf x).toNat)
   case atStart=>exact⟨0,.empty,by omega,HLs,rfl,rfl,rfl⟩
   case round =>
    obtain⟨j,acc,hj,hff,rfl,rfl,rfl⟩:=hrel;by_cases hjl:j<L.length
    ·obtain⟨x,hx⟩:∃x,L[j]? = some x:=⟨L[j],by simp[hjl]⟩;have u0:=hS.cell hx;have Zc:=zcO T L acc j x hx;rw[hff.out]at Zc;unfold qat at Zc;have hi:=HIn.out x;have HX:=Xh hx;clear hx hff;cases hm:ZL T x with
     |true =>
      rw[hm]at hi Zc;replace Zc:s=qZ T (L.drop (j+1)) acc:=Zc;have hst:=Xh Zc.symm;have HI:=Xh hi;clear Zc hi hm;go_wp2_with (go_fit HI.out;rintro e w8⟨rfl,rfl⟩)
      go_roundw;case rel=>exact⟨j+1,acc,by omega,hst.out,by simp,by simp,by simp⟩
      case measure=>simp[intOf];omega
     |false =>
      rw[hm]at hi Zc;have HI:=Xh hi;clear hi hm;cases he:acc.toList.isEmpty with
      |true =>
       rw[he]at Zc;replace Zc:s=qZ T (L.drop (j+1)) x:=Zc;have hst:=Xh Zc.symm;clear Zc;go_wp2_with (go_fit HI.out;rintro e w8⟨rfl,rfl⟩)
       go_roundw;case rel=>exact⟨j+1,x,by omega,hst.out,by simp,by simp,by simp⟩
       case measure=>simp[intOf];omega
      |false =>
       rw[he]at Zc;cases hb:Op.bytesLess x.toList acc.toList with
       |true =>
        rw[hb]at Zc;replace Zc:s=qZ T (L.drop (j+1)) x:=Zc;have hst:=Xh Zc.symm;clear Zc;go_wp2_with (go_fit HI.out;rintro e w8⟨rfl,rfl⟩)
        go_roundw;case rel=>exact⟨j+1,x,by omega,hst.out,by simp,by simp,by simp⟩
        case measure=>simp[intOf];omega
       |false =>
        rw[hb]at Zc;replace Zc:s=qZ T (L.drop (j+1)) acc:=Zc;have hst:=Xh Zc.symm;clear Zc;go_wp2_with (go_fit HI.out;rintro e w8⟨rfl,rfl⟩)
        go_roundw;case rel=>exact⟨j+1,acc,by omega,hst.out,by simp,by simp,by simp⟩
        case measure=>simp[intOf];omega
    ·obtain rfl:j=L.length:=(by omega);have hdone:Hid (acc=s):=by
      have:=hff.out;rw[Xg (by omega)]at this;exact this
     cases hdone.out;clear hdone hff;have hone:=Zt wr s;have hBc:Below wr.heap.size wr (wr.alloc (.cells #[.string s] 9)):=Xb.alloc Xl _;have hownA:=qr hown hBc;have hSA:=hS.mono hBc;have hBA:=Qa hB Xl hBc;have hc3:k+[s].length<=maxLen:=Xf (show k+1<=14 by omega) (by decide);have hc4:(k+[s].length)*16<=140737488355328:=(by show(k+1)*16<=_;omega);have HF3:=Xh hc3;have HF4:=Xh hc4;have HOW:=Xh hown;have HSS:=Xh hS;clear hc3 hc4 hown hS hB;go_wp2_with (at_builtin;(refine qg rfl _ _ rfl w.heap.size _ _ _ rfl hownA _ [s] rfl hone HF3.out HF4.out hBA.size ?_);intro v6 w7 hown6 hgrow6 hat6)
     have hown7:w7.ownsRow w.heap.size 9 1 v6 (k+1) ((S.take (k+1)).map Value.string):=by
      rw[List.take_add_one,HSk,HT.out];simpa using hown6
     have hB7:Below w.heap.size w w7:=hBA.grown hgrow6 hBA.size (fun k hk=>(hownA.lt k hk).1);obtain⟨gL,hgL,hgLlt⟩:=zau HSS.out (List.ne_nil_of_length_pos (by omega));have hS7:Qh w7 (.slice (some ⟨bL,oL,none⟩) L.length kL) L:=hSA.grown hgrow6 (Or.inr fun he=>hsep.out _ (he.symm.trans hgL) hgL);have hsep7:Hid (∀g,v6.ownBlock=some g->(Value.slice (some ⟨bL,oL,none⟩) L.length kL).ownBlock≠some g):=fun g h1 h2=>by
      rcases hat6 with h|h
      ·exact hsep.out g (h.symm.trans h1) h2
      ·rw[h]at h1;injection h1 with h1
       rw[hgL]at h2;injection h2 with h2
       rw[World.size_alloc]at h1;omega
     obtain⟨va6,vc6,rfl⟩:=qe hown7;clear hown6 hgrow6 hat6 hownA hSA hBA hone hBc;go_roundw;case rel=>exact⟨k+1,by omega,hown7,hB7,hS7,hsep7⟩
     case measure=>simp;omega
  ·obtain rfl:k=L.length:=(by omega);have hall:S.take L.length=S:=List.take_of_length_le (by omega);rw[hall]at hown;have HO:=Xh hown;have HBw:=Xh hB;clear hown hB hall hsep hS;go_wp2_with fail;go_ret;exact⟨⟨_,rfl,by rw[hsl2];exact HO.out⟩,HBw⟩
set_option maxRecDepth 512
end Go.Proofs.YtlmfmioljeppfaaGreatDoor
