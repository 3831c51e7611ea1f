/- Lemmas; conditions: as each states. -/
import Derived.Test.YtlmfmioljeppfaaGreatDoorRefJoined
import Derived.LaidEql
set_option maxHeartbeats 4000000
namespace Go.Proofs.YtlmfmioljeppfaaGreatDoor
open Go.RowKit Go.Shelf Go.Lib
theorem qdK{B:Nat}{w C:World}{p:Nat}(h:Below B w C)(A:B<=p){D E F G H I:Value}:
 Below B w ((((((C.setCell ⟨p,0,none⟩ D).setCell ⟨p,1,none⟩ E).setCell ⟨p,2,none⟩ F).setCell ⟨p,3,none⟩ G).setCell ⟨p,4,none⟩ H).setCell ⟨p,5,none⟩ I) :=
 (((((h.setCell A _).setCell A _).setCell A _).setCell A _).setCell A _).setCell A _
set_option maxRecDepth 100000
theorem zcC(l:List Qb)(lv:Value)(w:World)(ho:∀c∈l,qab c)(hlv:qj w lv l):
 Calls Tryz.prog 11 #[lv] w fun e w'=>e=.returned (.int .i64 (Zp l))/\Below w.heap.size w w':=by
 have HLV:Hid (∀wx,Below w.heap.size w wx->qj wx lv l):=fun wx N=>hlv.mono N
 obtain⟨pl,cap,rfl,hc1,hc2,hcc⟩:=hlv.open;have HCl:Hid (∀wx c a q t,Below w.heap.size w wx->c∈l->Qh w a c.faces->Zg w 2 QE q c.fields->Zg w 8 (zr w) t c.methods->_):=fun wx c a q t N g h1 h2 h3 =>
  ZcC c a q t wx (ho c g) (h1.mono N) (h2.mono N (by decide) (fun _ _ h=>h)) (h3.mono N (by decide) (fun _ _ h=>h.mono N))
 have HC:Hid (∀(i:Nat) (x:Qb),l[i]? = some x->∃b o vs,pl=some ⟨b,o,none⟩/\Q4 w x vs/\vs.length=6/\QG w b (o+i*6) vs):=hcc;clear hcc hlv ho;by_cases h10:10<l.length
 ·have hf:Zp l=4:=by unfold Zp;rw[if_pos h10]
  have G:=Xh hf;clear hf HC HCl;go_enter Tryz.func11,Tryz.ntmps11;go_wp2_with fail;all_goals first|(exfalso;omega)|skip
  go_ret;exact⟨by rw[G.out];rfl,Xb⟩
 ·have G:Hid (Zp l=if Qf qv [] l≠0 then Qf qv [] l else if Zh (Qv (Za l)) l≠0 then Zh (Qv (Za l)) l else if l.any (fun c=>zT (Za l) c.name) then 6 else 0):=by
   unfold Hid Zp;rw[if_neg h10]
  have hlen:l.length<=10:=by omega
  clear h10;generalize Zp l=Z at *;go_enter Tryz.func11,Tryz.ntmps11;go_wp2_with fail;all_goals first|(exfalso;omega)|skip
  go_loopw [3] (fun x wr=>∃k:Nat,k<=l.length/\Hid (Qf qv (l.take k) (l.drop k)=Qf qv [] l)/\Hid (∀c∈l.take k,qd c=0)/\Below w.heap.size w wr/\x=.int .i64 k) (fun x _=>l.length-(intOf x).toNat)
  case atStart=>exact⟨0,by omega,rfl,(fun c g=>by simp at g),Xb,rfl⟩
  case round =>
   obtain⟨k,hk,B,HA,D,rfl⟩:=hrel;by_cases V:k<l.length
   ·obtain⟨c,I⟩:∃x,l[k]? = some x:=⟨l[k],by simp[V]⟩;obtain⟨b,o,vs,rfl,⟨a,q,t,rfl,y,k2,k3⟩,_,M⟩:=HC.out k c I;have M:=M.mono D M.lt;have A:=QS qv l k c I;rw[B.out]at A;obtain⟨pf,capf,rfl,_⟩:=y.open;obtain⟨pd,capd,rfl,_⟩:=k2.open;obtain⟨pm,capm,rfl,_⟩:=k3.open;have E:∀wx,Below w.heap.size w wx->_:=fun wx N=>HCl.out wx c _ _ _ N (Xe I) y k2 k3
    unfold Qz at E;have HX:=Xh I;have P:=M;obtain⟨c0,c1,c2,c3,c4,c5,_⟩:=M;clear I y k2 k3;by_cases J:qd c=0
    ·rw[J]at E;have z:qv c (l.take k)=if (Qc (Za (l.take k)) c.name).isSome then 5 else 0:=(by unfold qv;rw[if_neg (by rw[J];decide)]);rw[z]at A;have R:Hid (∀c∈l.take (k+1),qd c=0):=fun d hd=>by
      rw[List.take_add_one,HX.out]at hd;rcases List.mem_append.1 hd with h|h
      ·exact HA.out d h
      ·simp at h;subst h;exact J
     have O:=Xh E;have HCP:=Xh P;clear J E z B HA P;go_upto_region 9 with(go_fit (O.out _ D);rintro e f⟨rfl,H⟩)
     have S:=Qa D Xl H;have P:=HCP.out.mono H HCP.out.lt;have j:=P.lt;obtain⟨n0,_⟩:=P;have m:∀wx,Below w.heap.size w wx->_:=fun wx N=>QA (l.take k) (.slice (some ⟨b,o,none⟩) k cap) c.name wx (Zg.take (HLV.out wx N) rfl rfl hk)
     unfold zJ at m;generalize (Qc (Za (l.take k)) c.name).isSome=is at *;generalize (Qc (Za (l.take k)) c.name).getD zg=d at *;obtain⟨n2,s2,f2,b2,d2,m2⟩:=d;dsimp only at m;have HCO:=Xh m;clear m c0 c1 c2 c3 c4 c5 O HCP D H;go_cut [6] (fun s wx=>s=.bool is/\Below w.heap.size w wx)
     case first =>
      clear G A;go_region_with (first
       |(go_fit (HCO.out _ (Qa S Xl (Xb.drew)));rintro e w7⟨pf2,kf2,pd2,kd2,pm2,km2,rfl,_,_,_,L,_⟩;(have T:=Qa S Xl (Qa ((Below.refl f.heap.size f).drew) Xl L)))
       |(go_fit (HCO.out _ (Qa S Xl ((Xb.alloc Xl _).drew)));rintro e w7⟨pf2,kf2,pd2,kd2,pm2,km2,rfl,_,_,_,L,_⟩;(have BZ:=((QY f #[.string ⟨#[]⟩,.string ⟨#[]⟩,.slice none 0 0,.bool false,.slice none 0 0,.slice none 0 0] 36).drew).step L);obtain⟨z0,z1,z2,z3,z4,z5⟩:=QM BZ;(have hfr:∀i,w7.frozen? ⟨f.heap.size,i,none⟩=false:=fun i=>(L.frozen (p:=⟨f.heap.size,i,none⟩) (by simp)).trans (by simp));(have hlt7:=BZ.size);(have T:=Qa S Xl (Qa (((Below.refl f.heap.size f).alloc Xl _).drew) Xl L))))
      all_goals
       go_wp2
       go_meet;first
        |(with_reducible refine⟨rfl,qdK T S.size⟩)
        |(with_reducible refine⟨rfl,T.alloc T.size _⟩)
     case rest =>
      clear S n0 j HCO;obtain⟨rfl,D⟩:=hcut;cases is with
      |true =>
       replace A:Qf qv [] l=5:=A;have C:Hid (Z=5):=(by unfold Hid;rw[G.out,if_pos (by rw[A];decide),A]);clear G A;go_wp2_with fail;go_ret;exact⟨by rw[C.out];rfl,D⟩
      |false =>
       replace A:Qf qv [] l=Qf qv (l.take (k+1)) (l.drop (k+1)):=A;have X:=Xh A.symm;clear G A;go_wp2_with fail;go_roundw;case rel=>exact⟨k+1,by omega,X.out,R,D,by simp⟩
       case measure=>simp[intOf];omega
    ·rw[show qv c (l.take k)=qd c from by unfold qv;rw[if_pos J],if_neg J]at A;have C:Hid (Z=qd c):=(by unfold Hid;rw[G.out,if_pos (by rw[A];exact J),A]);have Y:=zaF (qd c);have O:=Xh E;rw[Xj J]at Y;clear E A G B P J HA;generalize qd c=fc at *;go_wp2_with (go_fit (O.out _ D);rintro e f⟨rfl,H⟩)
     go_ret;exact⟨by rw[C.out];rfl,Qa D Xl H⟩
   ·have F:Hid (Qf qv [] l=0):=by
     rw[<-B.out,Xg (by omega)];rfl
    obtain rfl:k=l.length:=(by omega);have R:Hid (∀c∈l,qd c=0):=(by have:=HA.out;rwa [List.take_length]at this);rw[if_neg (by rw[F.out];decide)]at G;have HJ:Hid (∀wx c a q t,Below w.heap.size w wx->c∈l->Qh w a c.faces->_):=fun wx c a q t N g h1=>Qci l _ c a q t wx (HLV.out wx N) (h1.mono N) (Xf (qbt (R.out c g)) (by decide))
    clear B F HA HCl;go_wp2_with fail;go_loopw [7] (fun x wr=>∃k:Nat,k<=l.length/\Hid (Zh (Qv (Za l)) (l.drop k)=Zh (Qv (Za l)) l)/\Below w.heap.size w wr/\x=.int .i64 k) (fun x _=>l.length-(intOf x).toNat)
    case atStart=>exact⟨0,by omega,rfl,D,rfl⟩
    case round =>
     clear D;obtain⟨k,hk,B,D,rfl⟩:=hrel;by_cases V:k<l.length
     ·obtain⟨c,I⟩:∃x,l[k]? = some x:=⟨l[k],by simp[V]⟩;obtain⟨b,o,vs,rfl,⟨a,q,t,rfl,y,k2,k3⟩,_,M⟩:=HC.out k c I;have M:=M.mono D M.lt;have A:=zU (Qv (Za l)) l k c I;rw[B.out]at A;obtain⟨pf,capf,rfl,_⟩:=y.open;obtain⟨pd,capd,rfl,_⟩:=k2.open;obtain⟨pm,capm,rfl,_⟩:=k3.open;have hj:=HJ.out wr c _ (.slice pd c.fields.length capd) (.slice pm c.methods.length capm) D (Xe I) y;unfold Qz at hj;have Y:=zaF (Qv (Za l) c);have HX:=Xh I;clear I y k2 k3 B;obtain⟨c0,c1,c2,c3,c4,c5,_⟩:=M;by_cases J:Qv (Za l) c=0
      ·rw[if_pos J]at A;have X:=Xh A.symm;rw[J]at hj Y;have HJc:=Xh hj;clear hj A G J Y;go_wp2_with (go_fit HJc.out;rintro e f⟨rfl,H⟩)
       go_roundw;case rel=>exact⟨k+1,by omega,X.out,Qa D Xl H,by simp⟩
       case measure=>simp[intOf];omega
      ·rw[if_neg J]at A;rw[Xj J]at Y;have C:Hid (Z=Qv (Za l) c):=(by unfold Hid;rw[G.out,if_pos (by rw[A];exact J),A]);have HJc:=Xh hj;clear hj A G J;generalize Qv (Za l) c=fc at *;go_wp2_with (go_fit HJc.out;rintro e f⟨rfl,H⟩)
       go_ret;exact⟨by rw[C.out];rfl,Qa D Xl H⟩
     ·have F:Hid (Zh (Qv (Za l)) l=0):=by
       rw[<-B.out,Xg (by omega)];rfl
      obtain rfl:k=l.length:=(by omega);rw[if_neg (by rw[F.out];decide)]at G;have n:=Z2 F.out;have hcl:=qa8 n;have h12:(Za l).length<=12:=(by unfold Za;simp;omega);have HU:Hid (∀wx c,Below w.heap.size w wx->c∈l->_):=fun wx c N g=>Qbe l _ c.name wx (HLV.out wx N) (fun d hd=>Xf (qbt (R.out d hd)) (by decide)) h12 hcl (qaO g) (zaG R.out n (qaO g))
      have HRd:Hid (∀c∈l,QK (upC (Za l) c.name) c.name=zT (Za l) c.name):=fun c g=>Zeq R.out n g
      unfold qaj at HU;clear B F n hcl h12 HJ;go_wp2_with fail;go_loopw [9] (fun x wr=>∃k:Nat,k<=l.length/\Hid (((l.drop k).any fun c=>zT (Za l) c.name)=(l.any fun c=>zT (Za l) c.name))/\Below w.heap.size w wr/\x=.int .i64 k) (fun x _=>l.length-(intOf x).toNat)
      case atStart=>exact⟨0,by omega,rfl,D,rfl⟩
      case round =>
       clear D;obtain⟨k,hk,B,D,rfl⟩:=hrel;by_cases V:k<l.length
       ·obtain⟨c,I⟩:∃x,l[k]? = some x:=⟨l[k],by simp[V]⟩;obtain⟨b,o,vs,rfl,⟨a,q,t,rfl,y,k2,k3⟩,_,M⟩:=HC.out k c I;have M:=M.mono D M.lt;have A:=qai (fun c=>zT (Za l) c.name) l k c I;rw[B.out,<-HRd.out c (Xe I)]at A;have hu:=HU.out wr.drew c (Qa D Xl (Xb.drew)) (Xe I);have HX:=Xh I;have j:=M.lt;obtain⟨n0,_⟩:=M;clear I y k2 k3 B;generalize upC (Za l) c.name=U at *;have hIn:∀wx v,Qh wx v U->_:=fun wx v h=>zbk U v c.name wx h
        generalize QK U c.name=r at *;have HUc:=Xh hu;have HIn:=Xh hIn;clear hu hIn;go_upto_region 21 with fail;go_cut [73] (fun s wx=>s=.bool r/\Below w.heap.size w wx)
        case first =>
         clear G A HRd;go_region_with (first
          |(go_fit HUc.out;rintro e w7⟨⟨v7,rfl,hv7⟩,L⟩;(have hn7:=(L.cell (p:=⟨b,o+k*6,none⟩) j).trans n0);(have hs7:=Ze hv7);(have T:=Qa D Xl (Qa ((Below.refl wr.heap.size wr).drew) Xl L)))
          |(go_fit (HIn.out _ _ hs7);rintro e w8⟨rfl,rfl⟩))
         all_goals
          go_wp2
          go_meet;exact⟨rfl,T⟩
        case rest =>
         clear D n0 j HUc HIn;obtain⟨rfl,D⟩:=hcut;cases r with
         |true =>
          rw[Bool.true_or]at A;have C:Hid (Z=6):=(by unfold Hid;rw[G.out,if_pos A]);clear G A;go_wp2_with fail;go_ret;exact⟨by rw[C.out];rfl,D⟩
         |false =>
          rw[Bool.false_or]at A;have X:=Xh A.symm;clear G A;go_wp2_with fail;go_roundw;case rel=>exact⟨k+1,by omega,X.out,D,by simp⟩
          case measure=>simp[intOf];omega
       ·have hno:Hid ((l.any fun c=>zT (Za l) c.name)=false):=by
         rw[<-B.out,Xg (by omega)];rfl
        obtain rfl:k=l.length:=(by omega);have C:Hid (Z=0):=(by unfold Hid;rw[G.out,if_neg (by rw[hno.out];decide)]);clear B hno G HU;go_wp2_with fail;go_ret;exact⟨by rw[C.out];rfl,D⟩
set_option maxRecDepth 512
theorem QaX{P:Program}(w:World)(d:Nat){D C:TypeId}{E:Array (String×TypeId)}{i:TypeInfo}{k:IntKind}(a b:Int)(F:P.underlying D=some (.interface E))(G:P.underlying C=some (.int k))(A:P.info? C=some i)(B:i.comparable=true):
 (Op.equalIn (d+2) D (.iface C (.int k a)) (.iface C (.int k b))).run P w=.ok (a==b) w:=by
 simp[Op.equalIn,run_underlying F,run_underlying G,typeInfo,A,B]
theorem Zbw{P:Program}(w:World){D C:TypeId}{E:Array (String×TypeId)}{i:TypeInfo}{k:IntKind}(a b:Int)(F:P.underlying D=some (.interface E))(G:P.underlying C=some (.int k))(A:P.info? C=some i)(B:i.comparable=true):
 (binOp .eql D (.iface C (.int k a)) (.iface C (.int k b))).run P w=.ok (.bool (a==b)) w:=by
 simp only[binOp];simp[Op.equal,Op.maxDepth,QaX w 9998 a b F G A B]
set_option maxRecDepth 100000
theorem Qei:∃i,Tryz.prog.info? 29=some i/\i.comparable=true:=⟨_,rfl,rfl⟩
set_option maxRecDepth 512
theorem zej(a b:Int)(w:World):(binOp .eql 43 (.iface 29 (.int .i64 a)) (.iface 29 (.int .i64 b))).run Tryz.prog w=.ok (.bool (a==b)) w:=by
 obtain⟨i,A,B⟩:=Qei;exact Zbw w a b Tryz.underlying43 Tryz.underlying29 A B
theorem ZcZ(b:Int)(w:World):(binOp .eql 43 .nilIface (.iface 29 (.int .i64 b))).run Tryz.prog w=.ok (.bool false) w:=by kernel_rfl
theorem qcs(a b:Nat)(w:World):Calls Tryz.prog 18 #[zE a,.int .i64 b] w fun e w'=>e=.returned (.bool (decide (a=b)))/\w=w':=by
 by_cases B:b=0
 ·subst B;rcases qI a with⟨A,rfl⟩|⟨A,C⟩
  ·rw[A];clear A;go_enter Tryz.func18,Tryz.ntmps18;go_wp2
   go_ret;exact⟨rfl,rfl⟩
  ·rw[A,Xi C];clear A C;go_enter Tryz.func18,Tryz.ntmps18;go_wp2
   go_ret;exact⟨rfl,rfl⟩
 ·have F:((b:Int)==0)=false:=by simpa using B
  rcases qI a with⟨A,rfl⟩|⟨A,C⟩
  ·rw[A,Xi (fun h=>B h.symm)];have D:=ZcZ (b:Int);clear A B;go_enter Tryz.func18,Tryz.ntmps18;go_wp2
   go_ret;exact⟨rfl,rfl⟩
  ·rw[A];have D:=zej (a:Int) (b:Int);have E:((a:Int)==(b:Int))=decide (a=b):=(by rw[Bool.eq_iff_iff,beq_iff_eq,decide_eq_true_eq];omega);rw[E]at D;generalize decide (a=b)=r at *;clear A B C E;go_enter Tryz.func18,Tryz.ntmps18;go_wp2
   go_ret;exact⟨rfl,rfl⟩
theorem QcE{w:World}{base A:Nat}{e:TypeId}{size:Nat}{v:Value}{n:Nat}{xs:List Value}(h:w.ownsRow base e size v n xs)(D:A<=base):w.ownsRow A e size v n xs:=by
 rcases h with⟨C,E|⟨g,cap,B,F,G,H⟩⟩
 ·exact⟨C,Or.inl E⟩
 ·exact⟨C,Or.inr ⟨g,cap,B,F,Xf D G,H⟩⟩
theorem qcZ{l:List Qb}(h:Zk l){n:Str}(A:(Qc (Za l) n).isSome=true):(Zq (Za l) n).length<=13:=by
 have B:=zaS (Za l) (Qk (Za l) n).length n;have C:=(zo h.closed A).1.length;have D:=h.small;unfold Zq;omega
set_option maxRecDepth 100000
theorem Zae(l:List Qb)(v:Value)(Z:Zk l):∀(k:Nat) (n:Str) (w:World),qj w v l->(Qc (Za l) n).isSome=true->(Qk (Za l) n).length<=k ->
 Calls Tryz.prog 103 #[v,.string n] w (qaj w (Zq (Za l) n)):=by
 intro k;induction k with
 |zero =>
  intro n w _ O hf;have:=List.length_pos_of_mem (zo Z.closed O).2.1;omega
 |succ k ih =>
  intro n w N O hf;have C:=Xh (QA l v n w N);unfold zJ at C;have S:Hid (∀wx,Below w.heap.size w wx->qj wx v l):=fun wx hb=>N.mono hb
  obtain⟨pl,cap,rfl,_⟩:=N.open;rw[O]at C;have a:(qh (Za l) n).super.toList.isEmpty=decide ((qh (Za l) n).super.size=0):=ZD _;by_cases T:(qh (Za l) n).super.size=0
  ·rw[Zk.line_top T];rw[Xj T]at a;clear ih N O hf T S Z;unfold qh at a;generalize (Qc (Za l) n).getD zg=d at *;obtain⟨b,c,f,g,h,i⟩:=d;dsimp only at C a;go_enter Tryz.func103,Tryz.ntmps103;go_wp2_with (go_fit C.out;rintro e y⟨D,E,F,G,H,I,rfl,_,_,_,M,_⟩)
   go_ret;have A:=M.alloc M.size (.cells #[.string b,.string c,.slice D f.length E,.bool g,.slice F h.length G,.slice H i.length I] 36);have:=ZZ (y.alloc (.cells #[.string b,.string c,.slice D f.length E,.bool g,.slice F h.length G,.slice H i.length I] 36)) w.heap.size (.string n) A.size;exact⟨⟨_,rfl,by simpa using this⟩,A.alloc A.size _⟩
  ·obtain⟨V,q⟩:=Z.up O T;have hll:=qcZ Z V;rw[Z.line_up O T];rw[Xi T]at a;have x:Hid (∀wx,Below w.heap.size w wx->_):=fun wx hb=>ih (qh (Za l) n).super wx (S.out wx hb) V (by omega)
   unfold qaj at x;clear ih N O hf T S Z V q;generalize Zq (Za l) (qh (Za l) n).super=L at *;unfold qh at a x;generalize (Qc (Za l) n).getD zg=d at *;obtain⟨b,c,f,g,h,i⟩:=d;dsimp only at C a x;have j:1+L.length<=maxLen:=Xf (show 1+L.length<=14 by omega) (by decide);have m:(1+L.length)*16<=140737488355328:=(by omega);have z:=Xh j;have aA:=Xh m;clear j m;go_enter Tryz.func103,Tryz.ntmps103;go_upto_region 2 with(go_fit C.out;rintro e y⟨D,E,F,G,H,I,rfl,_,_,_,M,_⟩)
   have BX:=QY y #[.string b,.string c,.slice D f.length E,.bool g,.slice F h.length G,.slice H i.length I] 36;have A:=M.alloc M.size (.cells #[.string b,.string c,.slice D f.length E,.bool g,.slice F h.length G,.slice H i.length I] 36);generalize y.alloc (.cells #[.string b,.string c,.slice D f.length E,.bool g,.slice F h.length G,.slice H i.length I] 36)=Y at *;obtain⟨q0,q1,q2,q3,q4,q5⟩:=QM BX;have o:=ZZ Y Y.heap.size (.string n) Xl;have p:Below Y.heap.size Y (Y.alloc (.cells #[.string n] 9)):=Xb.alloc Xl _;have q:=BX.size;have aB:=Qa A Xl p;go_wp2_with (first
    |(go_fit (x.out _ aB);rintro e w10⟨⟨v10,rfl,t⟩,R⟩;(have r:=Ze t);(have B:=Zr o R);(have J:=Qa p Xl R))
    |(at_builtin;(refine Qg rfl _ _ rfl Y.heap.size _ _ _ rfl B _ L rfl r z.out aA.out J.size ?_);intro v6 w6 X P _))
   go_ret;have s:Below w.heap.size w w6:=Qa A Xl (J.grown P J.size (fun k O=>(B.lt k O).1));have U:w6.ownsRow Y.heap.size 9 1 v6 (n::L).length ((n::L).map Value.string):=(by simpa[Nat.add_comm] using X);exact⟨⟨_,rfl,QcE U A.size⟩,s⟩
theorem zbu(l:List Qb)(lv:Value)(n:Str)(w:World)(q:Zk l)(R:∀c∈l,qd c=0)(r:qj w lv l)(J:(Qc (Za l) n).isSome=true)(t:∀x,(Qc (Za l) x).isSome=true->x.size≠0):
 Calls Tryz.prog 85 #[lv,.string n] w (qaj w (zF (Qk (Za l) n))):=by
 have y:=zaG R q.joined J;have HU:Hid (∀wx,Below w.heap.size w wx->_):=fun wx hb=>Qbe l lv n wx (r.mono hb) (fun c hc=>Xf (qbt (R c hc)) (by decide)) q.small q.closed J y
 unfold qaj at HU;obtain⟨hn1,hs1⟩:=qdV q R J;obtain⟨g1,_⟩:=qb6 q.closed J y;have hLs:=q.small;have hLl:=g1.length;rw[<-hs1];have HLe:Hid (∀k x,(zF (n::upC (Za l) n))[k]? = some x->QZ ((zF (n::upC (Za l) n)).take k) (n::upC (Za l) n) .empty=x):=zda hn1 (fun x o=>by
  rcases List.mem_cons.1 o with rfl|o
  ·exact t _ J
  ·exact t x (g1.known x o))
 have z:=zbt (n::upC (Za l) n);obtain⟨pl,cap,rfl,_⟩:=r.open;clear r y q R J t hs1 g1 hn1;generalize upC (Za l) n=U at *;have M:1+U.length<=maxLen:=Xf (show 1+U.length<=13 by omega) (by decide);have N:(1+U.length)*16<=140737488355328:=by omega
 have V:=Xh M;have X:=Xh N;have F:=ZZ w w.heap.size (.string n) Xl;have aA:Below w.heap.size w (w.alloc (.cells #[.string n] 9)):=Xb.alloc Xl _;rw[List.length_cons]at z;clear M N;go_enter Tryz.func85,Tryz.ntmps85;go_upto_region 2 with(first
  |(go_fit (HU.out _ aA);rintro e w3⟨⟨v3,rfl,hv3⟩,aF⟩;(have hs3:=Ze hv3);(have G:=Zr F aF);(have Y:=Qa aA Xl aF))
  |(at_builtin;(refine Qg rfl _ _ rfl w.heap.size _ _ _ rfl G _ U rfl hs3 V.out X.out Y.size ?_);intro v6 w6 E A _))
 have hB6:=Y.grown A Y.size (fun k J=>(G.lt k J).1);have B:w6.ownsRow w.heap.size 9 1 v6 (n::U).length ((n::U).map Value.string):=by simpa[Nat.add_comm] using E
 have aB:=Ze B;obtain⟨pL,kL,rfl,hL1,hL2,_⟩:=aB.open;have hLb:Hid (∀g,(Value.slice pL (n::U).length kL).ownBlock=some g->g<w6.heap.size):=fun g hg=>(B.lt g hg).2
 have HLc:Hid ((n::U).length=U.length+1):=List.length_cons;clear F aA hs3 G Y E A B V X HU hv3 aF;have hL13:(n::U).length<=13:=by rw[List.length_cons];omega
 generalize hL:n::U=L at *;have HLL:=Xh hL;clear hL;have f:(zF L).length=L.length:=by rw[z,HLc.out]
 clear z;generalize zF L=S at *;have hlen:L.length<=9223372036854775807:=Xf hL1 hL2;go_wp2_with fail;go_loopw [6] (fun v wr=>∃k:Nat,k<=L.length/\wr.ownsRow w.heap.size 9 1 v k ((S.take k).map Value.string)/\Below w.heap.size w wr/\Qh wr (.slice pL L.length kL) L/\Hid (∀g,v.ownBlock=some g->(Value.slice pL L.length kL).ownBlock≠some g)) (fun v _=>match v with|.slice _ m _=>L.length-m|_=>0)
 case atStart=>exact⟨0,by omega,Za5 _ _,hB6,aB,fun g hg=>by cases hg⟩
 case round =>
  clear hB6 aB;obtain⟨k,J,C,hB,hS,P⟩:=hrel;obtain⟨va,vc,rfl⟩:=qe C;by_cases hkl:k<L.length
  ·obtain⟨s,hs⟩:∃s,S[k]? = some s:=⟨S[k]'(by omega),by simp[f,hkl]⟩;have hle:=HLe.out k s hs;have aC:(S.take k).length=k:=(by rw[List.length_take];omega);have hIn:∀x,_:=fun x=>zbk (S.take k) (.slice va k vc) x wr (Ze (by rw[aC];exact C))
   have HIn:=Xh hIn;have HLs:=Xh hle;have HSk:=Xh hs;have HTs:=Xh aC;clear hIn hle hs aC;generalize hT:S.take k=T at *;have HT:=Xh hT;clear hT;obtain⟨⟨bL,oL,rfl⟩,_⟩:=hS.ptr (by omega);go_wp2_with fail;go_loopw [7,8] (fun a x ws=>∃(j:Nat) (acc:Str),j<=L.length/\Hid (QZ T (L.drop j) acc=s)/\a=.string acc/\wr=ws/\x=.int .i64 j) (fun _ x _=>L.length-(intOf x).toNat)
   case atStart=>exact⟨0,.empty,by omega,HLs,rfl,rfl,rfl⟩
   case round =>
    obtain⟨j,acc,hj,d,rfl,rfl,rfl⟩:=hrel;by_cases hjl:j<L.length
    ·obtain⟨x,o⟩:∃x,L[j]? = some x:=⟨L[j],by simp[hjl]⟩;have u0:=hS.cell o;have D:=QcO T L acc j x o;rw[d.out]at D;unfold qas at D;have hi:=HIn.out x;have HX:=Xh o;clear o d;cases hm:QK T x with
     |true =>
      rw[hm]at hi D;replace D:s=QZ T (L.drop (j+1)) acc:=D;have H:=Xh D.symm;have HI:=Xh hi;clear D hi hm;go_wp2_with (go_fit HI.out;rintro e w8⟨rfl,rfl⟩)
      go_roundw;case rel=>exact⟨j+1,acc,by omega,H.out,by simp,by simp,by simp⟩
      case measure=>simp[intOf];omega
     |false =>
      rw[hm]at hi D;have HI:=Xh hi;clear hi hm;cases he:acc.toList.isEmpty with
      |true =>
       rw[he]at D;replace D:s=QZ T (L.drop (j+1)) x:=D;have H:=Xh D.symm;clear D;go_wp2_with (go_fit HI.out;rintro e w8⟨rfl,rfl⟩)
       go_roundw;case rel=>exact⟨j+1,x,by omega,H.out,by simp,by simp,by simp⟩
       case measure=>simp[intOf];omega
      |false =>
       rw[he]at D;cases hb:Op.bytesLess x.toList acc.toList with
       |true =>
        rw[hb]at D;replace D:s=QZ T (L.drop (j+1)) x:=D;have H:=Xh D.symm;clear D;go_wp2_with (go_fit HI.out;rintro e w8⟨rfl,rfl⟩)
        go_roundw;case rel=>exact⟨j+1,x,by omega,H.out,by simp,by simp,by simp⟩
        case measure=>simp[intOf];omega
       |false =>
        rw[hb]at D;replace D:s=QZ T (L.drop (j+1)) acc:=D;have H:=Xh D.symm;clear D;go_wp2_with (go_fit HI.out;rintro e w8⟨rfl,rfl⟩)
        go_roundw;case rel=>exact⟨j+1,acc,by omega,H.out,by simp,by simp,by simp⟩
        case measure=>simp[intOf];omega
    ·obtain rfl:j=L.length:=(by omega);have O:Hid (acc=s):=by
      have:=d.out;rw[Xg (by omega)]at this;exact this
     cases O.out;clear O d;have F:=Qs wr s;have Z:Below wr.heap.size wr (wr.alloc (.cells #[.string s] 9)):=Xb.alloc Xl _;have I:=Zr C Z;have hSA:=hS.mono Z;have b:=Qa hB Xl Z;have M:k+[s].length<=maxLen:=Xf (show k+1<=14 by omega) (by decide);have N:(k+[s].length)*16<=140737488355328:=(by show(k+1)*16<=_;omega);have V:=Xh M;have X:=Xh N;have HOW:=Xh C;have HSS:=Xh hS;clear M N C hS hB;go_wp2_with (at_builtin;(refine Qg rfl _ _ rfl w.heap.size _ _ _ rfl I _ [s] rfl F V.out X.out b.size ?_);intro v6 w7 E A p)
     have B:w7.ownsRow w.heap.size 9 1 v6 (k+1) ((S.take (k+1)).map Value.string):=by
      rw[List.take_add_one,HSk,HT.out];simpa using E
     have hB7:Below w.heap.size w w7:=b.grown A b.size (fun k J=>(I.lt k J).1);obtain⟨gL,aE,hgLlt⟩:=Zat HSS.out (List.ne_nil_of_length_pos (by omega));have hS7:Qh w7 (.slice (some ⟨bL,oL,none⟩) L.length kL) L:=hSA.grown A (Or.inr fun he=>P.out _ (he.symm.trans aE) aE);have aD:Hid (∀g,v6.ownBlock=some g->(Value.slice (some ⟨bL,oL,none⟩) L.length kL).ownBlock≠some g):=fun g h1 h2=>by
      rcases p with h|h
      ·exact P.out g (h.symm.trans h1) h2
      ·rw[h]at h1;injection h1 with h1
       rw[aE]at h2;injection h2 with h2
       rw[World.size_alloc]at h1;omega
     obtain⟨va6,vc6,rfl⟩:=qe B;clear E A p I hSA b F Z;go_roundw;case rel=>exact⟨k+1,by omega,B,hB7,hS7,aD⟩
     case measure=>simp;omega
  ·obtain rfl:k=L.length:=(by omega);have i:S.take L.length=S:=List.take_of_length_le (by omega);rw[i]at C;have HO:=Xh C;have HBw:=Xh hB;clear C hB i P hS;go_wp2_with fail;go_ret;exact⟨⟨_,rfl,by rw[f];exact HO.out⟩,HBw⟩
set_option maxRecDepth 512
end Go.Proofs.YtlmfmioljeppfaaGreatDoor
