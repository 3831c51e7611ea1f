/- Lemmas; conditions: as each states. -/
import Derived.Test.YtlmfmioljeppfaaGreatDoorFrameRow
import Derived.Test.YtlmfmioljeppfaaGreatDoorRefFirst
import Derived.Test.YtlmfmioljeppfaaGreatDoorRefFrame
set_option maxHeartbeats 4000000
namespace Go.Proofs.YtlmfmioljeppfaaGreatDoor
open Go.RowKit Go.Shelf Go.Lib
structure RFX (w wx:World) (mv:List Value) (n:Nat) (F:Asg Frm):Prop where
 below:Below w.heap.size w wx
 mth:Blk wx w.heap.size 53 mv
 rows:FH wx (w.heap.size+1) (w.heap.size+1+1) n F
theorem RFX.step{w wx wy:World}{B:List Value}{n:Nat}{F:Asg Frm}(h:RFX w wx B n F)(A:Below wx.heap.size wx wy):RFX w wy B n F:=⟨Qa h.below Xl A,h.mth.step A,h.rows.step A⟩
theorem RFX.lt{w wx:World}{A:List Value}{n:Nat}{F:Asg Frm}(h:RFX w wx A n F):w.heap.size+3<=wx.heap.size:=h.rows.lt.2
theorem RFX.put{w wx:World}{A:List Value}{n:Nat}{F:Asg Frm}(h:RFX w wx A n F){i:Nat}(B:i<n){u v:Value}{f:Frm}(C:zk wx u v f):RFX w (ZcM wx (w.heap.size+1) (w.heap.size+1+1) i u v) A n (F.put i f) :=
 ⟨((h.below.setCell (by show _<=w.heap.size+1;omega) u).setCell (by show _<=w.heap.size+1;omega) v).setCell (by show _<=w.heap.size+1+1;omega) _,((h.mth.other (by omega) _ _).other (by omega) _ _).other (by omega) _ _,h.rows.put B C⟩
def FrS(wx:World)(mb b o:Nat)(m:qi)(cv hv u v:Value):Prop:=wx.cell? ⟨mb,0,none⟩=some (.string m.name)/\wx.cell? ⟨mb,1,none⟩=some (.string m.type)/\wx.cell? ⟨mb,2,none⟩=some (.bool m.static)/\wx.cell? ⟨mb,3,none⟩=some (.bool m.abs)/\wx.cell? ⟨mb,4,none⟩=some (.bool m.priv)/\wx.cell? ⟨mb,5,none⟩=some (.int .i64 m.locals)/\wx.cell? ⟨mb,6,none⟩=some cv/\wx.cell? ⟨mb,7,none⟩=some hv/\wx.cell? ⟨b,o,none⟩=some u/\wx.cell? ⟨b,o+1,none⟩=some v
theorem FrS.step{w w':World}{B b o:Nat}{m:qi}{C D u v:Value}(h:FrS w B b o m C D u v)(A:Below w.heap.size w w'):FrS w' B b o m C D u v:=by
 obtain⟨E,F,G,H,I,J,L,M,N,O⟩:=h;exact⟨(A.cell (ql E)).trans E,(A.cell (ql F)).trans F,(A.cell (ql G)).trans G,(A.cell (ql H)).trans H,(A.cell (ql I)).trans I,(A.cell (ql J)).trans J,(A.cell (ql L)).trans L,(A.cell (ql M)).trans M,(A.cell (ql N)).trans N,(A.cell (ql O)).trans O⟩
def Zd6(r:List Nat):Bool:=!r.isEmpty
theorem qd6{r:List Nat}(h:Zd6 r=false):r=[]:=by
 cases r with
 |nil=>rfl
 |cons a r=>cases h
theorem Qcs(r:List Nat)(k:Nat):Zd6 (r++[k])=true:=by cases r<;>rfl
theorem Qd6(r:List Nat):(if Zd6 r then 1 else 0)<=r.length:=by
 cases r with
 |nil=>exact Xl
 |cons a r=>show 1<=r.length+1;omega
theorem QdI(w:World)(q:Nat):Below w.heap.size w (w.drewN q):=⟨rfl,rfl,rfl,Xl,fun _ _=>rfl⟩
theorem zds{W:qm Frm}{F:Asg Frm}(h:W.Oks F){k:Nat}{f:Frm}(B:k<W.n)(C:W.ok f):W.Oks (F.put k f):=fun i g e=>by
 by_cases A:i=k
 ·subst A;rw[Asg.put_self]at e;injection e with e
  subst e;exact⟨B,C⟩
 ·rw[Asg.put_other F f A]at e;exact h i g e
def JnS(wx:World)(b o gb:Nat)(u v x y:Value):Prop:=wx.cell? ⟨b,o,none⟩=some u/\wx.cell? ⟨b,o+1,none⟩=some v/\wx.cell? ⟨gb,0,none⟩=some x/\wx.cell? ⟨gb,1,none⟩=some y
theorem JnS.step{w w':World}{b o B:Nat}{u v x y:Value}(h:JnS w b o B u v x y)(A:Below w.heap.size w w'):JnS w' b o B u v x y:=by
 obtain⟨C,D,E,F⟩:=h;exact⟨(A.cell (ql C)).trans C,(A.cell (ql D)).trans D,(A.cell (ql E)).trans E,(A.cell (ql F)).trans F⟩
theorem JnS.other{w:World}{b o A:Nat}{u v x y:Value}(h:JnS w b o A u v x y){c:Nat}(D:b<c)(E:A<c)(p q:Value):JnS ((w.setCell ⟨c,0,none⟩ p).setCell ⟨c,1,none⟩ q) b o A u v x y:=by
 obtain⟨F,G,H,I⟩:=h;have B:=Nat.ne_of_lt D;have C:=Nat.ne_of_lt E;exact⟨(zj (a:=⟨b,_,none⟩) B _ _).trans F,(zj (a:=⟨b,_,none⟩) B _ _).trans G,(zj (a:=⟨A,_,none⟩) C _ _).trans H,(zj (a:=⟨A,_,none⟩) C _ _).trans I⟩
theorem zct{wx:World}{A:Nat}{x y:Value}(B:Blk wx A 27 [x,y])(C:∀s,x≠.string s)(D:∀s,y≠.string s)(u v:Value):qx wx ((wx.setCell ⟨A,0,none⟩ u).setCell ⟨A,1,none⟩ v) :=
 (qx.put B (j:=0) rfl C u).trans (qx.put (B.put 0 u) (j:=1) rfl D v)
theorem Zbv(wx:World){A g:Nat}(B:g≠A)(u v:Value):((wx.setCell ⟨A,0,none⟩ u).setCell ⟨A,1,none⟩ v).heap[g]? = wx.heap[g]?:=by
 rw[Xk _ ⟨A,1,none⟩ g _ B,Xk _ ⟨A,0,none⟩ g _ B]
theorem RFX.box{w wx:World}{B:List Value}{n:Nat}{F:Asg Frm}(h:RFX w wx B n F){A:Nat}(G:w.heap.size+3<=A){x y:Value}(C:Blk wx A 27 [x,y])(D:∀s,x≠.string s)(E:∀s,y≠.string s)(u v:Value):RFX w ((wx.setCell ⟨A,0,none⟩ u).setCell ⟨A,1,none⟩ v) B n F :=
 ⟨(h.below.setCell (by show _<=A;omega) u).setCell (by show _<=A;omega) v,(Zbv wx (by omega) u v).trans h.mth,h.rows.keep (zct C D E u v) (Zbv wx (by omega) u v) (Zbv wx (by omega) u v)⟩
theorem zd7{A:TypeId}{w:World}{base:Nat}{v:Value}{n:Nat}{xs:List Value}(h:z9 A w base v n xs):n<=9223372036854775807:=by
 rcases h with⟨_,rfl,_⟩|⟨_,cap,_,_,_,_,B,C,_⟩
 ·omega
 ·exact Xf B C
theorem zcX{A:TypeId}{w:World}{base:Nat}{v:Value}{n:Nat}{xs:List Value}(h:z9 A w base v n xs){b c:Nat}(B:b<base)(C:c<base)(i:Nat)(u x:Value):z9 A (ZcM w b c i u x) base v n xs:=h.keep fun g e=>by
 have D:=(h.lt g e).1;unfold ZcM;rw[Xk _ ⟨c,i,none⟩ g _ (by show g≠c;omega),Xk _ ⟨b,i*2+1,none⟩ g _ (by show g≠b;omega),Xk _ ⟨b,i*2,none⟩ g _ (by show g≠b;omega)]
theorem zdJ(cs:List Qb)(cls g:Str)(m:qi)(start:Frm):∀(F:Asg Frm) (i:Nat) (f:Frm),(F i=none->(zQ cs cls g m start).meet F i f=some (F.put i f,true))/\∀A,F i=some A->(zR A f=false->(zQ cs cls g m start).meet F i f=none)/\(zR A f=true->(Q1 cs A f=A->(zQ cs cls g m start).meet F i f=some (F,false))/\(Q1 cs A f≠A->(zQ cs cls g m start).meet F i f=some (F.put i (Q1 cs A f),true))):=by
 intro F i f;unfold qm.meet;refine⟨fun h=>by rw[h],fun A h=>?_⟩;rw[h];refine⟨fun B=>?_,fun B=>⟨fun C=>?_,fun C=>?_⟩⟩
 ·exact if_neg (by show ¬zR A f=true;rw[B];decide)
 ·exact(if_pos (show(zQ cs cls g m start).fit A f=true from B)).trans (if_pos C)
 ·exact(if_pos (show(zQ cs cls g m start).fit A f=true from B)).trans (if_neg C)
def qb8(w:World)(cs:List Qb)(cls g:Str)(m:qi)(L:List Str)(e:Ending)(w':World):Prop:=Below w.heap.size w w'/\∃R:Option (Asg Frm),QD cs cls g m L R/\match R with
 |none=>e=.returned (.tuple #[.slice none 0 0,.slice none 0 0,.bool false])
 |some F=>e=.returned (.tuple #[.slice (some ⟨w.heap.size+1,0,none⟩) m.code.length m.code.length,.slice (some ⟨w.heap.size+1+1,0,none⟩) m.code.length m.code.length,.bool true])/\FH w' (w.heap.size+1) (w.heap.size+1+1) m.code.length F
set_option maxRecDepth 100000
theorem qch(l:List Qb)(lv:Value)(hR:Zk l)(hcf:∀c∈l,qd c=0)(w:World)(hlv:qj w lv l)(m:qi)(cls g:Str)(args:List Str)(many:Nat)(pc ph:Option Addr)(kc kh:Nat)(hG:Z8 m args g many)(hmo:Z1 m)(hcl:cls.size<=1048576)(hcv:Zg w 6 Zw (.slice pc m.code.length kc) m.code)(hhv:Zg w 4 Qt (.slice ph m.handlers.length kh) m.handlers):
 Calls Tryz.prog 24 #[lv,.string cls,.agg #[.string m.name,.string m.type,.bool m.static,.bool m.abs,.bool m.priv,.int .i64 m.locals,.slice pc m.code.length kc,.slice ph m.handlers.length kh]] w (qb8 w (Za l) cls g m (QP cls m.static args many)):=by
 have HA:Hid (∀(wx:World) (o:Obj),Below wx.heap.size wx (wx.alloc o)):=fun wx o=>Xb.alloc Xl o
 obtain⟨mv,hmv⟩:∃mv:List Value,mv=[.string m.name,.string m.type,.bool m.static,.bool m.abs,.bool m.priv,.int .i64 m.locals,.slice pc m.code.length kc,.slice ph m.handlers.length kh]:=⟨_,rfl⟩;have HF:Hid (∀wx,_):=fun wx=>zcD wx cls m.name m.type m.static m.abs m.priv many pc ph m.code.length kc m.handlers.length kh args g hG.type hmo.type hcl hG.small (ZS hG.type)
 rw[<-hG.locals]at HF;have HLv:=Xh hlv;have hL8:=qaB (cls:=cls) hG;have HLs:=Xh (QaQ hcl hmo.type hG);have hgs:g.size<=maxLen:=Xf (Xf (QQ hG.type).2 hmo.type) (by decide);generalize QP cls m.static args many=L at *;have HKi:Hid (∀(wx:World) (k:Str),Below w.heap.size w wx->k.size<=maxLen->_):=fun wx k I hk=>qV l lv k wx (hlv.mono I) hk
 obtain⟨pl,cap,rfl,hpo⟩:=hlv.open;clear hpo;unfold ZaK at HF;have hn40:=(zO hG.code).small;have hcp:=(zO hG.code).pos;have HRi:=Xh hR;have Hcf:=Xh hcf;have HG:=Xh hG;have Hmo:=Xh hmo;have Hcv:=Xh hcv;have Hhv:=Xh hhv;have hmf:=qdz m.code.length (by omega);have hmb:=qc8 m.code.length (by omega);have K0:=(Blk.new w 53 [.string m.name,.string m.type,.bool m.static,.bool m.abs,.bool m.priv,.int .i64 m.locals,.slice pc m.code.length kc,.slice ph m.handlers.length kh]);have X1:=FH.made (w.alloc (.cells #[.string m.name,.string m.type,.bool m.static,.bool m.abs,.bool m.priv,.int .i64 m.locals,.slice pc m.code.length kc,.slice ph m.handlers.length kh] 53)) m.code.length;rw[World.size_alloc]at X1;have BX:Below w.heap.size w (((w.alloc (.cells #[.string m.name,.string m.type,.bool m.static,.bool m.abs,.bool m.priv,.int .i64 m.locals,.slice pc m.code.length kc,.slice ph m.handlers.length kh] 53)).alloc (.cells (Array.replicate (m.code.length*2) (Value.slice none 0 0)) 27)).alloc (.cells (Array.replicate m.code.length (Value.bool false)) 4)):=((Xb.alloc Xl _).alloc (by simp only[World.size_alloc];omega) _).alloc (by simp only[World.size_alloc];omega) _;have X0:=(K0.step (HA.out _ (.cells (Array.replicate (m.code.length*2) (Value.slice none 0 0)) 27))).step (HA.out _ (.cells (Array.replicate m.code.length (Value.bool false)) 4));obtain⟨w1,hw1⟩:∃w1,w1=(((w.alloc (.cells #[.string m.name,.string m.type,.bool m.static,.bool m.abs,.bool m.priv,.int .i64 m.locals,.slice pc m.code.length kc,.slice ph m.handlers.length kh] 53)).alloc (.cells (Array.replicate (m.code.length*2) (Value.slice none 0 0)) 27)).alloc (.cells (Array.replicate m.code.length (Value.bool false)) 4)):=⟨_,rfl⟩;rw[<-hw1]at X0 X1 BX;rw[<-hmv]at X0;have HW:=Xh hw1.symm;have R:Hid (RFX w w1 mv m.code.length fun _=>none):=⟨BX,X0,X1⟩;have Hmv:=Xh hmv;clear hlv hmv hw1 hR hcf hcv hhv hG hmo X0 X1 BX K0;go_enter Tryz.func24,Tryz.ntmps24;go_upto_region 4 with fail;rw[HW.out];have hsz:w.heap.size+1+1=w.heap.size+2:=rfl;have d0:=R.out.mth.cell 0;have d1:=R.out.mth.cell 1;have d2:=R.out.mth.cell 2;have d3:=R.out.mth.cell 3;have d4:=R.out.mth.cell 4;have d5:=R.out.mth.cell 5;have d6:=R.out.mth.cell 6;have d7:=R.out.mth.cell 7;rw[Hmv.out]at d0 d1 d2 d3 d4 d5 d6 d7;replace d0:=show _=some (Value.string m.name) from d0
 replace d1:=show _=some (Value.string m.type) from d1
 replace d2:=show _=some (Value.bool m.static) from d2
 replace d3:=show _=some (Value.bool m.abs) from d3
 replace d4:=show _=some (Value.bool m.priv) from d4
 replace d5:=show _=some (Value.int .i64 m.locals) from d5
 replace d6:=show _=some (Value.slice pc m.code.length kc) from d6
 replace d7:=show _=some (Value.slice ph m.handlers.length kh) from d7
 clear hmf hmb hsz;go_upto_region 5 with(go_fit (HF.out _);rintro e w2⟨hB2,p,n,c,rfl,hS2,_⟩)
 obtain⟨p',c',e,hn1,hn2,hcc⟩:=hS2.open;injection e with e1 e2 e3
 subst e1 e2 e3;have HX3:=Xh ((R.out.step hB2).step (HA.out w2 (.cells #[.slice p L.length c,.slice none 0 0] 27)));have f3:=Blk.new w2 27 [.slice p L.length c,.slice none 0 0];have HS3:Hid (zk (w2.alloc (.cells #[.slice p L.length c,.slice none 0 0] 27)) (.slice p L.length c) (.slice none 0 0) ⟨L,[]⟩):=⟨hS2.mono (HA.out w2 _),Or.inl ⟨rfl,rfl⟩⟩;have HCc:Hid (∀i x,L[i]? = some x->∃b o,p=some ⟨b,o,none⟩/\(w2.alloc (.cells #[.slice p L.length c,.slice none 0 0] 27)).cell? ⟨b,o+i,none⟩=some (.string x)):=fun i x hx=>by
  obtain⟨b,o,vs,h1,h2,_,h4⟩:=hcc i x hx;have h2:vs=[.string x]:=h2;subst h2;have h5:=h4.1;rw[Nat.mul_one]at h5;exact⟨b,o,h1,((HA.out w2 _).cell (ql h5)).trans h5⟩
 have hlt2:=Xh (show w.heap.size+3<=w2.heap.size from(R.out.step hB2).lt);obtain⟨fb,hfb⟩:∃fb,w2.heap.size=fb:=⟨_,rfl⟩;rw[hfb]at f3 hlt2;rw[hfb];generalize (w2.alloc (.cells #[.slice p L.length c,.slice none 0 0] 27))=w3 at *;have Hf3:=Xh f3;clear f3 hcc hS2 d0 d1 d2 d3 d4 d5 d6 d7 hB2 R HW HF hfb;go_wp2_with fail;go_loopw [14] (fun x wr=>∃j:Nat,j<=L.length/\x=.int .i64 j/\Hid (Below w3.heap.size w3 wr)/\Hid (qaK (Za l) L j)) (fun x _=>L.length-(intOf x).toNat)
 case atStart=>exact⟨0,Nat.zero_le _,rfl,Xb,fun k hk=>by simp at hk⟩
 case round =>
  obtain⟨j,hj,rfl,hB,hI⟩:=hrel;have g3:=Hf3.out.step hB.out;have g0:=g3.cell 0;replace g0:=show _=some (Value.slice p L.length c) from g0
  by_cases hjl:j<L.length
  ·obtain⟨k,hk⟩:∃k,L[j]? = some k:=⟨L[j],by simp[hjl]⟩;have hkm:=Xe hk;obtain⟨b,o,rfl,c0⟩:=HCc.out j k hk;replace c0:=(hB.out.cell (ql c0)).trans c0;have HKk:=Xh (HKi.out wr k (Qa HX3.out.below Xl hB.out) (Xf (HLs.out k hkm) (by decide)));have hjI:(j:Int)<(L.length:Int):=(by omega);have hj0:(0:Int)<=(j:Int):=Int.natCast_nonneg _;by_cases hz:zd (Za l) k=0
   ·rw[hz]at HKk;have hI2:Hid (qaK (Za l) L (j+1)):=fun y hy=>by
     rw[List.take_add_one,hk]at hy;rcases List.mem_append.1 hy with hy|hy
     ·exact hI.out y hy
     ·rw[show y=k by simpa using hy];exact hz
    clear hk hkm hz g3;go_wp2_with (go_fit (HKk.out);rintro e w4⟨rfl,O⟩)
    go_roundw;case rel=>exact⟨j+1,by omega,by simp,Qa hB Xl O,hI2⟩
    case measure=>simp[intOf];omega
   ·have hbad:Hid (QD (Za l) cls g m L none):=fun U=>by
     unfold Zaa at U;rw[Bool.and_eq_true]at U;exact absurd (beq_iff_eq.1 (List.all_eq_true.1 U.1 k hkm)) hz
    have hzi:((zd (Za l) k:Nat):Int)≠0:=(by omega);have hzb:(((zd (Za l) k:Nat):Int) != 0)=true:=(by simpa using hz);generalize zd (Za l) k=f at *;clear hk hkm g3;go_wp2_with (go_fit (HKk.out);rintro e w4⟨rfl,O⟩)
    exact bodyPost_ret (v:=.tuple #[.slice none 0 0,.slice none 0 0,.bool false]) (by simp[results,Tryz.results24,go_sem, *]) rfl
     (by exact⟨Qa HX3.out.below Xl (Qa hB Xl O),none,hbad.out,rfl⟩)
  ·obtain rfl:j=L.length:=(by omega);have hall:Hid (∀k∈L,zd (Za l) k=0):=fun k hk=>hI.out k (by rw[List.take_length];exact hk)
   have HX4:=Xh (HX3.out.step hB.out);have HKg:=Xh (HKi.out wr g (Qa HX3.out.below Xl hB.out) hgs);have HSt:Hid ((g=⟨#[86]⟩\/zd (Za l) g=0)->Zaa (Za l) L g=true):=fun h=>by
    unfold Zaa;rw[Bool.and_eq_true,Bool.or_eq_true];exact⟨List.all_eq_true.2 fun k hk=>beq_iff_eq.2 (hall.out k hk),h.imp Xj beq_iff_eq.2⟩
   have Hk4:=Xh g3;have HS4:=Xh (HS3.out.mono hB.out);clear g3;by_cases J:g=⟨#[86]⟩\/zd (Za l) g=0
   ·have hstB:=HSt.out J;go_upto_region 10 with fail;go_cut [59] (fun s wx=>s=.bool false/\Below wr.heap.size wr wx)
    case first =>
     clear g0;by_cases hV:g=⟨#[86]⟩
     ·subst hV;go_wp2_with fail;go_meet;exact⟨rfl,Xb⟩
     ·have hz:=J.resolve_left hV;rw[hz]at HKg;have hne:¬g.toList=[86]:=fun e=>hV (ByteArray.ext (Array.ext' (by rw[<-ByteArray.toList_eq];exact e)))
      clear hz J;go_wp2_with (go_fit (HKg.out);rintro e w4⟨rfl,O⟩)
      go_meet;exact⟨rfl,O⟩
    case rest =>
     obtain⟨rfl,O⟩:=hcut;clear g0 HKg HKi HSt;have U:=zay hL8 hstB;have hGd:=Qbh HRi.out Hcf.out (cls:=cls) (Zb:=g) HG.out.code HG.out.hands U;have HX5:=HX4.out.step O;have k5:=Hk4.out.step O;have g0:=k5.cell 0;have g1:=k5.cell 1;replace g0:=show _=some (Value.slice p L.length c) from g0
     replace g1:=show _=some (Value.slice none 0 0) from g1
     have HS5:=Xh (HS4.out.mono O);obtain⟨_,_,_,_,t0,t1,_,z0,z1,t2,z2⟩:=HX5.rows.at hcp;rw[Nat.zero_mul]at t0 t1 z0 z1;rw[Nat.zero_add]at t1 z1;have HX6:Hid (RFX w (ZcM wc (w.heap.size+1) (w.heap.size+1+1) 0 (.slice p L.length c) (.slice none 0 0)) mv m.code.length (Asg.put (fun _=>none) 0 ⟨L,[]⟩)):=HX5.put hcp HS5.out;have HKS6:=Xh (HX5.rows.puts hcp (.slice p L.length c) (.slice none 0 0));clear k5 HX5;have hn1I:(0:Int)<(m.code.length:Int):=(by omega);go_upto_region 14 with fail;obtain⟨w6,hw6⟩:∃w6,((wc.setCell ⟨w.heap.size+1,0,none⟩ (.slice p L.length c)).setCell ⟨w.heap.size+1,1,none⟩ (.slice none 0 0)).setCell ⟨w.heap.size+1+1,0,none⟩ (.bool true)=w6:=⟨_,rfl⟩;have HX6':Hid (RFX w w6 mv m.code.length (Asg.put (fun _=>none) 0 ⟨L,[]⟩)):=by
      rw[<-hw6];exact HX6.out
     rw[hw6];obtain⟨W,hW⟩:∃W,zQ (Za l) cls g m ⟨L,[]⟩=W:=⟨_,rfl⟩;rw[hW]at hGd;have hWs:W.start=⟨L,[]⟩:=(by rw[<-hW];rfl);have hWn:W.n=m.code.length:=(by rw[<-hW];rfl);have HWe:=Xh hW;have HWE:Hid (∀i f,W.edges i f=Qaa (Za l) cls g m i f):=fun i f=>by rw[<-HWe.out];rfl
     have HWo:Hid (∀f,W.ok f->Qx (Za l) f=0):=fun f h=>by rw[<-HWe.out]at h;exact h
     have HWm:Hid (∀F i f,(F i=none->W.meet F i f=some (F.put i f,true))/\∀A,F i=some A->(zR A f=false->W.meet F i f=none)/\(zR A f=true->(Q1 (Za l) A f=A->W.meet F i f=some (F,false))/\(Q1 (Za l) A f≠A->W.meet F i f=some (F.put i (Q1 (Za l) A f),true)))):=by
      rw[<-HWe.out];exact zdJ _ _ _ _ _
     have HLi:Hid (W.RInv (Asg.put (fun _=>none) 0 ⟨L,[]⟩,[]) 0):=by
      have:=qm.rinv_first hGd (fun _=>none) (fun _=>rfl);rwa [hWs]at this
     have HWn:=Xh hWn;have HGd:=Xh hGd;have HsB:=Xh hstB;clear hW hWs hWn hGd U hstB J HX6 HKS6 hw6 t0 t1 t2 z0 z1 z2 g0 g1 HS5 O hn1I;generalize Asg.put (fun _=>none) 0 (⟨L,[]⟩:Frm)=F0 at *;go_wp2_with fail;go_loopg [15] (2*W.weight F0+1) (fun k x wr=>∃(F:Asg Frm) (b:Bool),x=.bool b/\k=2*W.weight F+(if b then 1 else 0)/\Hid (RFX w wr mv m.code.length F)/\Hid (if b then W.RInv (F,[]) 0 else W.RInv (F,[]) m.code.length))
     case atStart=>exact⟨F0,true,rfl,rfl,HX6',HLi⟩
     case round =>
      obtain⟨F,b,rfl,hgk,H,hI⟩:=hrel;cases b with
      |false =>
       have HLe:Hid (W.Least F):=by
        have:=hI.out;rw[if_neg (by decide),<-HWn.out]at this;exact qm.rinv_end this
       go_wp2_with fail;exact bodyPost_ret (v:=.tuple #[.slice (some ⟨w.heap.size+1,0,none⟩) m.code.length m.code.length,.slice (some ⟨w.heap.size+1+1,0,none⟩) m.code.length m.code.length,.bool true]) (by simp[results,Tryz.results24,go_sem, *]) rfl
        (by exact⟨H.out.below,some F,⟨HsB,by rw[HWe.out];exact HLe.out⟩,rfl,H.out.rows⟩)
      |true =>
       have HI0:Hid (W.RInv (F,[]) 0):=hI.out;have Hgk:=Xh hgk;clear hgk hI;go_wp2_with fail;go_loopw [15,16] (fun x15 x16 wy=>∃(i:Nat) (F1:Asg Frm) (r:List Nat) (b:Bool),i<=m.code.length/\x15=.bool b/\x16=.int .i64 i/\Hid (b=Zd6 r)/\Hid (RFX w wy mv m.code.length F1)/\Hid (W.RInv (F1,r) i)/\Hid (W.weight F1+r.length<=W.weight F)) (fun _ x _=>m.code.length-(intOf x).toNat)
       case atStart=>exact⟨0,F,[],false,Nat.zero_le _,rfl,rfl,rfl,H,HI0,Xl⟩
       case round =>
        obtain⟨i,F1,r,b,hi,rfl,rfl,I,H,hI,hwt⟩:=hrel;by_cases hin:i<m.code.length
        ·obtain⟨p1,k1,p2,k2,a0,a1,hfa,_,_,a2,_⟩:=H.out.rows.at hin;have V:=Xh hfa;clear hfa;have hinI:(i:Int)<(m.code.length:Int):=(by omega);have hi0:(0:Int)<=(i:Int):=Int.natCast_nonneg _;cases hF1:F1 i with
         |none =>
          rw[hF1]at a2;replace a2:=show _=some (Value.bool false) from a2
          have HI2:=Xh (qm.rinv_skip hI.out hF1);clear hF1 V a0 a1;go_wp2_with fail;go_roundw;case rel=>exact⟨i+1,F1,r,b,by omega,rfl,by simp,I,H,HI2,hwt⟩
          case measure=>simp[intOf];omega
         |some f =>
          rw[hF1]at a0 a1 a2 V;replace a0:=show _=some (Value.slice p1 f.locals.length k1) from a0
          replace a1:=show _=some (Value.slice p2 f.stack.length k2) from a1
          replace a2:=show _=some (Value.bool true) from a2
          replace V:Hid (zk wr (.slice p1 f.locals.length k1) (.slice p2 f.stack.length k2) f):=V;have hfr:=HWo.out f (hI.out.oks i f hF1).2;have hrs:Hid (∀wx,Below wr.heap.size wr wx->FrS wx w.heap.size (w.heap.size+1) (i*2) m (.slice pc m.code.length kc) (.slice ph m.handlers.length kh) (.slice p1 f.locals.length k1) (.slice p2 f.stack.length k2)) :=
           fun wx I=>FrS.step ⟨by rw[H.out.mth.cell 0,Hmv.out];rfl,by rw[H.out.mth.cell 1,Hmv.out];rfl,by rw[H.out.mth.cell 2,Hmv.out];rfl,by rw[H.out.mth.cell 3,Hmv.out];rfl,by rw[H.out.mth.cell 4,Hmv.out];rfl,by rw[H.out.mth.cell 5,Hmv.out];rfl,by rw[H.out.mth.cell 6,Hmv.out];rfl,by rw[H.out.mth.cell 7,Hmv.out];rfl,a0,a1⟩ I
          have HEd:Hid (∀wx,Below wr.heap.size wr wx->Calls _ _ _ wx fun e w'=>zbC wx (Qaa (Za l) cls g m i f) e w'/\FrS w' w.heap.size (w.heap.size+1) (i*2) m (.slice pc m.code.length kc) (.slice ph m.handlers.length kh) (.slice p1 f.locals.length k1) (.slice p2 f.stack.length k2)):=fun wx I =>
           (qcz l (.slice pl l.length cap) HRi.out Hcf.out wx (HLv.out.mono (Qa H.out.below Xl I)) cls g m pc ph kc kh (Hcv.out.mono (Qa H.out.below Xl I) (by decide) (fun _ _ h=>h)) (Hhv.out.mono (Qa H.out.below Xl I) (by decide) (fun _ _ h=>h)) HG.out.code HG.out.hands Hmo.out.code hgs i hin f _ _ (V.out.mono I) hfr).mono fun e w' h=>⟨h,hrs.out w' (Qa I Xl h.1)⟩
          unfold zbC FrS at HEd;obtain⟨k0,k1',k2',k3,k4,k5,k6,k7,k8,k9⟩:=hrs.out wr Xb;have HF1:=Xh hF1;clear hrs hF1 hfr V a0 a1;cases he:Qaa (Za l) cls g m i f with
          |none =>
           rw[he]at HEd;have hno:Hid (∀G,¬W.Closed G):=qm.rinv_fail HGd.out hI.out HF1.out (by unfold qm.look;rw[HWE.out,he];rfl);clear he;go_upto_region 21 with fail;go_cut [17,18] from 76 to 88 (fun _ b wx=>b=.bool false/\Below w.heap.size w wx)
           case first =>
            go_region_held3 (fun w'=>w'.cell? ⟨w.heap.size,0,none⟩=some (.string m.name)/\w'.cell? ⟨w.heap.size,1,none⟩=some (.string m.type)/\w'.cell? ⟨w.heap.size,2,none⟩=some (.bool m.static)/\w'.cell? ⟨w.heap.size,3,none⟩=some (.bool m.abs)/\w'.cell? ⟨w.heap.size,4,none⟩=some (.bool m.priv)/\w'.cell? ⟨w.heap.size,5,none⟩=some (.int .i64 m.locals)/\w'.cell? ⟨w.heap.size,6,none⟩=some (.slice pc m.code.length kc)/\w'.cell? ⟨w.heap.size,7,none⟩=some (.slice ph m.handlers.length kh)/\w'.cell? ⟨w.heap.size+1,i*2,none⟩=some (.slice p1 f.locals.length k1)/\w'.cell? ⟨w.heap.size+1,i*2+1,none⟩=some (.slice p2 f.stack.length k2))
             (first|go_keep)
             (first
              |(go_fit (HEd.out _ ?_);exact Xb.drew;rintro e w3⟨⟨E,rfl⟩,k0,k1',k2',k3,k4,k5,k6,k7,k8,k9⟩))
            all_goals (go_wp2_with fail;go_meet;exact⟨rfl,Qa H.out.below Xl (Qa (Xb.drew) Xl E)⟩)
           case rest =>
            obtain⟨rfl,hB⟩:=hcut;clear k0 k1' k2' k3 k4 k5 k6 k7 k8 k9 HEd;go_wp2_with fail;exact bodyPost_ret (v:=.tuple #[.slice none 0 0,.slice none 0 0,.bool false]) (by simp[results,Tryz.results24,go_sem, *]) rfl
             (by exact⟨hB,none,fun _=>by rw[HWe.out];exact hno.out,rfl⟩)
          |some t =>
           rw[he]at HEd;have HEt:Hid (W.edges i f=some t):=by
            unfold Hid;rw[HWE.out,he]
           clear he;go_upto_region 21 with fail;go_cut [17,18] from 76 to 88 (fun v b wx=>b=.bool true/\∃ys,Below wr.heap.size wr wx/\z9 112 wx (wr.heap.size+2) v t.length ys/\zS wx t ys)
           case first =>
            go_region_held3 (fun w'=>w'.cell? ⟨w.heap.size,0,none⟩=some (.string m.name)/\w'.cell? ⟨w.heap.size,1,none⟩=some (.string m.type)/\w'.cell? ⟨w.heap.size,2,none⟩=some (.bool m.static)/\w'.cell? ⟨w.heap.size,3,none⟩=some (.bool m.abs)/\w'.cell? ⟨w.heap.size,4,none⟩=some (.bool m.priv)/\w'.cell? ⟨w.heap.size,5,none⟩=some (.int .i64 m.locals)/\w'.cell? ⟨w.heap.size,6,none⟩=some (.slice pc m.code.length kc)/\w'.cell? ⟨w.heap.size,7,none⟩=some (.slice ph m.handlers.length kh)/\w'.cell? ⟨w.heap.size+1,i*2,none⟩=some (.slice p1 f.locals.length k1)/\w'.cell? ⟨w.heap.size+1,i*2+1,none⟩=some (.slice p2 f.stack.length k2))
             (first|go_keep)
             (first
              |(go_fit (HEd.out _ ?_);exact Xb.drew;rintro e w3⟨⟨E,v3,ys3,rfl,hR3,hV3⟩,k0,k1',k2',k3,k4,k5,k6,k7,k8,k9⟩))
            all_goals (go_wp2_with fail;go_meet;exact⟨rfl,ys3,Qa (Xb.drew) Xl E,hR3,hV3⟩)
           case rest =>
            obtain⟨rfl,ys,hBw,hRw,hVw⟩:=hcut;obtain⟨va,vc,rfl⟩:=hRw.shape;clear k0 k1' k2' k3 k4 k5 k6 k7 k8 k9 HEd;obtain⟨so,hso⟩:∃so,wr.heap.size+2=so:=⟨_,rfl⟩;have Hso:Hid (w.heap.size+5<=so):=(by have:=H.out.lt;unfold Hid;omega);rw[hso]at hRw;have X:=Xh (H.out.step hBw);have HRc:=Xh hRw;have HVc:=Xh hVw;have Hnx:=Xh (HGd.out.out i f t (by rw[HWn.out];exact hin) (hI.out.oks i f HF1.out).2 HEt.out);have HO1:=Xh hI.out.oks;have ht9:=zd7 hRw;clear hBw hRw hVw hso H;go_wp2_with fail;go_loopw [15,19] (fun x15 x19 wy=>∃(j:Nat) (D:Asg Frm) (r2:List Nat) (b2:Bool),j<=t.length/\x15=.bool b2/\x19=.int .i64 j/\Hid (b2=Zd6 r2)/\Hid (RFX w wy mv m.code.length D)/\Hid (W.meets (D,r2) (t.drop j)=W.meets (F1,r) t)/\Hid (z9 112 wy so (.slice va t.length vc) t.length ys)/\Hid (zS wy t ys)/\Hid (W.Oks D)) (fun _ x _=>t.length-(intOf x).toNat)
            case atStart=>exact⟨0,F1,r,b,Nat.zero_le _,rfl,rfl,I,X,rfl,HRc,HVc,HO1⟩
            case round =>
             obtain⟨j,D,r2,b2,hj,rfl,rfl,hb2,H,hM,hRw,hVw,hO⟩:=hrel;by_cases hjl:j<t.length
             ·obtain⟨⟨k,B⟩,hp⟩:∃x,t[j]? = some x:=⟨t[j],by simp[hjl]⟩;obtain⟨P,hko⟩:=Hnx.out _ (Xe hp);rw[HWn.out]at P;dsimp only at P hko;have hzr:=HWo.out B hko;obtain⟨g0,vc2,a,ka,q,kq,e,hg1,hg2,c0,c1,c2,hfr⟩:=hRw.out.at hVw.out hp;injection e with e1 _ e2
              subst e1 e2;dsimp only at c0 c1 c2 hfr;have hM2:Hid ((W.meetT (D,r2) (k,B)).bind (fun s=>W.meets s (t.drop (j+1)))=W.meets (F1,r) t):=by
               unfold Hid;rw[<-hM.out,List.drop_eq_getElem_cons hjl,show t[j]=(k,B) from Option.some.inj ((Xn hjl).symm.trans hp)];rfl
              have hjI:(j:Int)<(t.length:Int):=(by omega);have hj0:(0:Int)<=(j:Int):=Int.natCast_nonneg _;have hkI:(k:Int)<(m.code.length:Int):=(by omega);have hk0:(0:Int)<=(k:Int):=Int.natCast_nonneg _;have Ba:=HA.out wr (.cells #[.slice a B.locals.length ka,.slice q B.stack.length kq] 27);have kb:=Blk.new wr 27 [.slice a B.locals.length ka,.slice q B.stack.length kq];have S:=Xh (H.out.step Ba);have HRa:=Xh (hRw.out.below Ba);have HVa:=Xh (hVw.out.keepS (qx.below Ba));have V:=Xh (hfr.mono Ba);have Hlt:=Xh (show w.heap.size+3<=wr.heap.size from H.out.lt);have Hg0:Hid (so<=g0/\g0<wr.heap.size):=⟨hg1,hg2⟩;have Hzr:=Xh hzr;clear hp hzr hfr hM H hRw hVw hg1 hg2 Ba;go_upto_region 29 with fail;obtain⟨T,hgb⟩:∃T,wr.heap.size=T:=⟨_,rfl⟩;rw[hgb]at kb Hlt Hg0;rw[hgb];obtain⟨d,hw7⟩:∃d,wr.alloc (.cells #[.slice a B.locals.length ka,.slice q B.stack.length kq] 27)=d:=⟨_,rfl⟩;rw[hw7]at kb S HRa HVa V;rw[hw7];clear c0 c1 c2 hw7 hgb;have M:=kb.cell 0;have N:=kb.cell 1;have z0:=kb.frozen 0;have z1:=kb.frozen 1;replace M:=show _=some (Value.slice a B.locals.length ka) from M
              replace N:=show _=some (Value.slice q B.stack.length kq) from N
              obtain⟨p3,n3,p4,n4,Y,Z,hfy,y0z,y1z,y2,y2z⟩:=S.out.rows.at P;have Hfy:=Xh hfy;have Hkb:=Xh kb;clear hfy kb;cases hF2:D k with
              |none =>
               rw[hF2]at Y Z y2;replace y2:=show _=some (Value.bool false) from y2
               have HmT:Hid (W.meetT (D,r2) (k,B)=some (D.put k B,r2++[k])):=by
                unfold Hid qm.meetT;rw[show W.meet (D,r2).1 (k,B).1 (k,B).2=some (D.put k B,true) from(HWm.out D k B).1 hF2];rfl
               have HOp:Hid (W.Oks (D.put k B)):=zds hO.out (by rw[HWn.out];exact P) hko;clear hF2 Hfy;go_upto_region 34 with fail;go_cut [137] from 124 to 138 (fun c wx=>c=.bool true/\Below d.heap.size d wx)
               case first =>
                go_quiet (fail);go_wp2_with fail;go_meet;exact⟨rfl,QdI _ _⟩
               case rest =>
               obtain⟨rfl,hB8⟩:=hcut;have X:=Xh (S.out.step hB8);have HRc:=Xh (HRa.out.below hB8);have HVc:=Xh (HVa.out.keepS (qx.below hB8));have Hfc:=Xh (V.out.mono hB8);have hkb8:=Hkb.out.step hB8;clear M N z0 z1 Y Z y0z y1z y2 y2z hB8;have M:=hkb8.cell 0;have N:=hkb8.cell 1;replace M:=show _=some (Value.slice a B.locals.length ka) from M
               replace N:=show _=some (Value.slice q B.stack.length kq) from N
               obtain⟨p3,n3,p4,n4,Y,Z,_,y0z,y1z,y2,y2z⟩:=X.out.rows.at P;have HXp:=Xh (X.out.put P Hfc.out);have HKp:=Xh (X.out.rows.puts P (.slice a B.locals.length ka) (.slice q B.stack.length kq));have HRp:Hid (z9 112 (ZcM wc (w.heap.size+1) (w.heap.size+1+1) k (.slice a B.locals.length ka) (.slice q B.stack.length kq)) so (.slice (some ⟨g0,0,none⟩) t.length vc) t.length ys):=zcX HRc.out (by have:=Hso.out;omega) (by have:=Hso.out;omega) k _ _;clear hkb8;go_wp2_with fail;go_roundw;case rel =>
                refine⟨j+1,D.put k B,r2++[k],true,by omega,rfl,by simp,(Qcs _ _).symm,HXp,?_,HRp,HVc.out.keepS HKp.out,HOp⟩;have:=hM2.out;rw[HmT.out]at this;exact this
               case measure=>simp[intOf];omega
              |some A =>
               rw[hF2]at Y Z y2 Hfy;replace Y:=show _=some (Value.slice p3 A.locals.length n3) from Y
               replace Z:=show _=some (Value.slice p4 A.stack.length n4) from Z
               replace y2:=show _=some (Value.bool true) from y2
               replace Hfy:Hid (zk d (.slice p3 A.locals.length n3) (.slice p4 A.stack.length n4) A):=Hfy;have hwo:=(hO.out k A hF2).2;have hwz:=HWo.out A hwo;have HJ:Hid (∀wx,Below d.heap.size d wx->Calls _ _ _ wx fun e w'=>ZaN wx (Za l) A B e w'/\JnS w' (w.heap.size+1) (k*2) T (.slice p3 A.locals.length n3) (.slice p4 A.stack.length n4) (.slice a B.locals.length ka) (.slice q B.stack.length kq)):=fun wx I =>
                (zbv l (.slice pl l.length cap) HRi.out Hcf.out wx (HLv.out.mono (Qa S.out.below Xl I)) A B _ _ _ _ (Hfy.out.mono I) (V.out.mono I) (Qas hwz) (Qas Hzr.out) hwz Hzr.out).mono fun e w' h=>⟨h,JnS.step ⟨Y,Z,M,N⟩ (Qa I Xl h.1)⟩
               unfold ZaN at HJ;have HLt:Hid (w.heap.size+1<d.heap.size/\T<d.heap.size):=⟨by have:=S.out.lt;omega,Hkb.out.lt⟩;have HmW:=Xh ((HWm.out D k B).2 A hF2);have HF2:=Xh hF2;clear hF2;cases hs:zR A B with
               |false =>
                simp only[hs]at HJ;have hno:Hid (∀G,¬W.Closed G):=qm.rinv_fail HGd.out hI.out HF1.out (by
                 unfold qm.look;rw[HEt.out,Option.bind_some,<-hM2.out];unfold qm.meetT;rw[show W.meet (D,r2).1 (k,B).1 (k,B).2=none from HmW.out.1 hs];rfl)
                replace HJ:Hid (∀wx,Below d.heap.size d wx->Calls _ _ _ wx fun e w'=>e=.returned (.tuple #[.agg #[.slice none 0 0,.slice none 0 0],.bool false])/\Below wx.heap.size wx w'/\JnS w' (w.heap.size+1) (k*2) T (.slice p3 A.locals.length n3) (.slice p4 A.stack.length n4) (.slice a B.locals.length ka) (.slice q B.stack.length kq)):=fun wx I=>(HJ.out wx I).mono fun e w' h=>by
                 obtain⟨⟨h1,h2|h2⟩,h3⟩:=h
                 ·cases h2.1
                 ·exact⟨h2.2,h1,h3⟩
                unfold JnS at HJ;clear hs hwo hwz z0 z1 y0z y1z y2z;go_upto_region 30 with fail;clear y2;go_cut [22,23] from 112 to 121 (fun _ b wx=>b=.bool false/\Below w.heap.size w wx)
                case first =>
                 go_region_held3 (fun w'=>w'.cell? ⟨w.heap.size+1,k*2,none⟩=some (.slice p3 A.locals.length n3)/\w'.cell? ⟨w.heap.size+1,k*2+1,none⟩=some (.slice p4 A.stack.length n4)/\w'.cell? ⟨T,0,none⟩=some (.slice a B.locals.length ka)/\w'.cell? ⟨T,1,none⟩=some (.slice q B.stack.length kq))
                  (first|go_keep|exact JnS.other ⟨Y,Z,M,N⟩ HLt.out.1 HLt.out.2 _ _)
                  (first
                   |(go_fit (HJ.out _ ?_);(first|exact Xb.drew|exact(Xb.alloc Xl _).drew);rintro e w3⟨rfl,E,Y,Z,M,N⟩;(first|(have KB:Blk w3 d.heap.size 27 [.slice none 0 0,.slice none 0 0]:=Blk.step (w:=(d.alloc (.cells #[.slice none 0 0,.slice none 0 0] 27)).drew) (Blk.new d 27 [.slice none 0 0,.slice none 0 0]) E;obtain⟨q0,q1⟩:=KB.cells2;(have f0:=KB.frozen 0);(have f1:=KB.frozen 1))|skip)))
                 all_goals (go_wp2_with fail;go_meet;first
                  |exact⟨rfl,(Qa S.out.below Xl (Qa (Xb.drew) Xl E)).alloc (Xf S.out.below.size E.size) _⟩
                  |exact⟨rfl,((Qa S.out.below Xl (Qa (w:=d) ((Xb.alloc Xl _).drew) Xl E)).setCell S.out.below.size _).setCell S.out.below.size _⟩)
                case rest =>
                 obtain⟨rfl,hB⟩:=hcut;clear Y Z M N;go_wp2_with fail;exact bodyPost_ret (v:=.tuple #[.slice none 0 0,.slice none 0 0,.bool false]) (by simp[results,Tryz.results24,go_sem, *]) rfl
                  (by exact⟨hB,none,fun _=>by rw[HWe.out];exact hno.out,rfl⟩)
               |true =>
                simp only[hs]at HJ;have HmJ:=Xh (HmW.out.2 hs);obtain⟨C,hbt⟩:∃C,Q1 (Za l) A B=C:=⟨_,rfl⟩;rw[hbt]at HJ HmJ;have Hbo:Hid (W.ok C):=by
                 have h1:=(HGd.out.up A B hwo hko (by rw[<-HWe.out];exact hs)).1;rw[<-HWe.out]at h1 ⊢;rw[<-hbt];exact h1
                replace HJ:Hid (∀wx,Below d.heap.size d wx->Calls _ _ _ wx fun e w'=>(∃v1 v2,e=.returned (.tuple #[.agg #[v1,v2],.bool true])/\zk w' v1 v2 C)/\Below wx.heap.size wx w'/\JnS w' (w.heap.size+1) (k*2) T (.slice p3 A.locals.length n3) (.slice p4 A.stack.length n4) (.slice a B.locals.length ka) (.slice q B.stack.length kq)):=fun wx I=>(HJ.out wx I).mono fun e w' h=>by
                 obtain⟨⟨h1,h2|h2⟩,h3⟩:=h
                 ·exact⟨h2.2,h1,h3⟩
                 ·cases h2.1
                unfold JnS at HJ;clear hs hwo hwz z0 z1 y0z y1z y2z hbt HmW;go_upto_region 30 with fail;clear y2;go_cut [22,23] from 112 to 121 (fun p b wx=>b=.bool true/\qag d wx C p)
                case first =>
                 go_region_held3 (fun w'=>w'.cell? ⟨w.heap.size+1,k*2,none⟩=some (.slice p3 A.locals.length n3)/\w'.cell? ⟨w.heap.size+1,k*2+1,none⟩=some (.slice p4 A.stack.length n4)/\w'.cell? ⟨T,0,none⟩=some (.slice a B.locals.length ka)/\w'.cell? ⟨T,1,none⟩=some (.slice q B.stack.length kq))
                  (first|go_keep|exact JnS.other ⟨Y,Z,M,N⟩ HLt.out.1 HLt.out.2 _ _)
                  (first
                   |(go_fit (HJ.out _ ?_);(first|exact Xb.drew|exact(Xb.alloc Xl _).drew);rintro e w3⟨⟨lv3,sv3,rfl,hv3⟩,E,Y,Z,M,N⟩;obtain⟨⟨q3,c3,rfl,_⟩,⟨q4,c4,rfl,_⟩⟩:=And.intro hv3.1.open hv3.2.open;(first|(have KB:Blk w3 d.heap.size 27 [.slice none 0 0,.slice none 0 0]:=Blk.step (w:=(d.alloc (.cells #[.slice none 0 0,.slice none 0 0] 27)).drew) (Blk.new d 27 [.slice none 0 0,.slice none 0 0]) E;obtain⟨q0,q1⟩:=KB.cells2;(have f0:=KB.frozen 0);(have f1:=KB.frozen 1))|skip)))
                 all_goals (go_wp2_with fail;go_meet;first
                  |exact⟨rfl,qag.late (Qa (Xb.drew) Xl E) hv3⟩
                  |exact⟨rfl,qag.early (Qa (Xb.drew) Xl E) hv3⟩)
                case rest =>
                 obtain⟨rfl,nb,v1,v2,rfl,hnb,Kb,hBw,hFv⟩:=hcut;obtain⟨⟨p5,n5,rfl,hz5⟩,⟨p6,n6,rfl,hz6⟩⟩:=And.intro hFv.1.open hFv.2.open;clear hz5 hz6 Y Z M N HJ;have kg:=Hkb.out.step hBw;have M:=kg.cell 0;have N:=kg.cell 1;have z0:=kg.frozen 0;have z1:=kg.frozen 1;replace M:=show _=some (Value.slice a B.locals.length ka) from M
                 replace N:=show _=some (Value.slice q B.stack.length kq) from N
                 have e0:=Kb.cell 0;have e1:=Kb.cell 1;replace e0:=show _=some (Value.slice p5 C.locals.length n5) from e0
                 replace e1:=show _=some (Value.slice p6 C.stack.length n6) from e1
                 have hgl:=Hlt.out;have HX9:Hid (RFX w ((wc.setCell ⟨T,0,none⟩ (.slice p5 C.locals.length n5)).setCell ⟨T,1,none⟩ (.slice p6 C.stack.length n6)) mv m.code.length D):=(S.out.step hBw).box hgl kg (fun s e=>(nomatch e)) (fun s e=>(nomatch e)) _ _;have hks:=zct kg (fun s e=>(nomatch e)) (fun s e=>(nomatch e)) (.slice p5 C.locals.length n5) (.slice p6 C.stack.length n6);have HR9:Hid (z9 112 ((wc.setCell ⟨T,0,none⟩ (.slice p5 C.locals.length n5)).setCell ⟨T,1,none⟩ (.slice p6 C.stack.length n6)) so (.slice (some ⟨g0,0,none⟩) t.length vc) t.length ys):=(HRa.out.below hBw).keep fun g e=>Zbv wc (by
                  have:g0=g:=Option.some.inj e;have:=Hg0.out.2;omega) _ _
                 have HV9:=Xh ((HVa.out.keepS (qx.below hBw)).keepS hks);have HFy9:=Xh ((Hfy.out.mono hBw).keepS hks);have HFv9:=Xh (hFv.keepS hks);have HK9:Hid (Blk ((wc.setCell ⟨T,0,none⟩ (.slice p5 C.locals.length n5)).setCell ⟨T,1,none⟩ (.slice p6 C.stack.length n6)) T 27 [.slice p5 C.locals.length n5,.slice p6 C.stack.length n6]):=kg.put2 _ _;clear kg Kb hBw hFv hgl hks hnb;go_upto_region 34 with fail;obtain⟨w9,hw9⟩:∃w9,(wc.setCell ⟨T,0,none⟩ (.slice p5 C.locals.length n5)).setCell ⟨T,1,none⟩ (.slice p6 C.stack.length n6)=w9:=⟨_,rfl⟩;rw[hw9]at HX9 HR9 HV9 HFy9 HFv9 HK9;rw[hw9];clear M N z0 z1 e0 e1 hw9;obtain⟨p7,n7,p8,n8,Y,Z,hfw,y0z,y1z,y2,y2z⟩:=HX9.out.rows.at P;rw[HF2.out]at Y Z y2 hfw;replace Y:=show _=some (Value.slice p7 A.locals.length n7) from Y
                 replace Z:=show _=some (Value.slice p8 A.stack.length n8) from Z
                 replace y2:=show _=some (Value.bool true) from y2
                 have Hfw:Hid (zk w9 (.slice p7 A.locals.length n7) (.slice p8 A.stack.length n8) A):=hfw;have M:=HK9.out.cell 0;have N:=HK9.out.cell 1;replace M:=show _=some (Value.slice p5 C.locals.length n5) from M
                 replace N:=show _=some (Value.slice p6 C.stack.length n6) from N
                 obtain⟨bs,hbs⟩:∃bs,decide (C=A)=bs:=⟨_,rfl⟩;have HSm:Hid (∀wx,Below w9.heap.size w9 wx->Calls _ _ _ wx fun e w'=>(e=.returned (.bool bs)/\Below wx.heap.size wx w')/\JnS w' (w.heap.size+1) (k*2) T (.slice p7 A.locals.length n7) (.slice p8 A.stack.length n8) (.slice p5 C.locals.length n5) (.slice p6 C.stack.length n6)/\w'.cell? ⟨w.heap.size+1+1,k,none⟩=some (.bool true)):=fun wx I =>
                  (ZbH C A _ _ _ _ wx (HFv9.out.mono I) (Hfw.out.mono I)).mono fun e w' h=>by
                   rw[hbs]at h;exact⟨⟨h.1,h.2⟩,JnS.step ⟨Y,Z,M,N⟩ (Qa I Xl h.2),((Qa I Xl h.2).cell (ql y2)).trans y2⟩
                 unfold JnS at HSm;have Hbs:=Xh hbs;clear hfw hbs;go_cut [137] from 124 to 138 (fun c wx=>c=.bool (!bs)/\Below w9.heap.size w9 wx)
                 case first =>
                  go_region_held3 (fun w'=>w'.cell? ⟨w.heap.size+1,k*2,none⟩=some (.slice p7 A.locals.length n7)/\w'.cell? ⟨w.heap.size+1,k*2+1,none⟩=some (.slice p8 A.stack.length n8)/\w'.cell? ⟨T,0,none⟩=some (.slice p5 C.locals.length n5)/\w'.cell? ⟨T,1,none⟩=some (.slice p6 C.stack.length n6)/\w'.cell? ⟨w.heap.size+1+1,k,none⟩=some (.bool true))
                   (first|go_keep)
                   (first
                    |(go_fit (HSm.out _ ?_);exact Xb.drew;rintro e w3⟨⟨rfl,E⟩,⟨Y,Z,M,N⟩,y2⟩))
                  all_goals (go_wp2_with fail;go_meet;exact⟨rfl,Qa (Xb.drew) Xl E⟩)
                 case rest =>
                 obtain⟨rfl,hB⟩:=hcut;have X:=Xh (HX9.out.step hB);have HRc:=Xh (HR9.out.below hB);have HVc:=Xh (HV9.out.keepS (qx.below hB));have Hfc:=Xh (HFv9.out.mono hB);have hkc:=HK9.out.step hB;clear M N Y Z y0z y1z y2 y2z hB HSm;cases bs with
                 |true =>
                  have HmT:Hid (W.meetT (D,r2) (k,B)=some (D,r2)):=by
                   unfold Hid qm.meetT;rw[show W.meet (D,r2).1 (k,B).1 (k,B).2=some (D,false) from HmJ.out.1 (Xm Hbs.out)];rfl
                  clear hkc;go_wp2_with fail;go_roundw;case rel =>
                   refine⟨j+1,D,r2,b2,by omega,rfl,by simp,hb2,X,?_,HRc,HVc,hO⟩;have:=hM2.out;rw[HmT.out]at this;exact this
                  case measure=>simp[intOf];omega
                 |false =>
                  have HmT:Hid (W.meetT (D,r2) (k,B)=some (D.put k C,r2++[k])):=by
                   unfold Hid qm.meetT;rw[show W.meet (D,r2).1 (k,B).1 (k,B).2=some (D.put k C,true) from HmJ.out.2 (of_decide_eq_false Hbs.out)];rfl
                  have HOp:Hid (W.Oks (D.put k C)):=zds hO.out (by rw[HWn.out];exact P) Hbo.out;have M:=hkc.cell 0;have N:=hkc.cell 1;replace M:=show _=some (Value.slice p5 C.locals.length n5) from M
                  replace N:=show _=some (Value.slice p6 C.stack.length n6) from N
                  obtain⟨p3,n3,p4,n4,Y,Z,_,y0z,y1z,y2,y2z⟩:=X.out.rows.at P;have HXp:=Xh (X.out.put P Hfc.out);have HKp:=Xh (X.out.rows.puts P (.slice p5 C.locals.length n5) (.slice p6 C.stack.length n6));have HRp:Hid (z9 112 (ZcM wc (w.heap.size+1) (w.heap.size+1+1) k (.slice p5 C.locals.length n5) (.slice p6 C.stack.length n6)) so (.slice (some ⟨g0,0,none⟩) t.length vc) t.length ys):=zcX HRc.out (by have:=Hso.out;omega) (by have:=Hso.out;omega) k _ _;clear hkc;go_wp2_with fail;go_roundw;case rel =>
                   refine⟨j+1,D.put k C,r2++[k],true,by omega,rfl,by simp,(Qcs _ _).symm,HXp,?_,HRp,HVc.out.keepS HKp.out,HOp⟩;have:=hM2.out;rw[HmT.out]at this;exact this
                  case measure=>simp[intOf];omega
             ·obtain rfl:j=t.length:=(by omega);have HLk:Hid (W.look (F1,r) i f=some (D,r2)):=by
               unfold Hid qm.look;rw[HEt.out,Option.bind_some,<-hM.out,List.drop_length];rfl
              obtain⟨h1,h2⟩:=qm.rinv_step HGd.out hI.out HF1.out HLk.out;have H1:=Xh h1;have H2:=Xh h2;clear h1 h2;go_wp2_with fail;go_roundw;case rel=>exact⟨i+1,D,r2,b2,by omega,rfl,by simp,hb2,H,H1,Xf H2.out hwt.out⟩
              case measure=>simp[intOf];omega
        ·obtain rfl:i=m.code.length:=(by omega);go_wp2_with fail;go_roundg (2*W.weight F1+(if b then 1 else 0))
         case measure =>
          have h1:=hwt.out;have h2:gk=2*W.weight F+1:=Hgk.out;have h3:=Qd6 r;rw[<-I.out]at h3;rw[h2];have h4:(if b=true then 1 else 0)<=1:=(by split<;>omega);generalize (if b=true then 1 else 0)=z at *;have h5:=h1;clear hI H Hgk;omega
         case rel =>
          refine⟨F1,b,rfl,rfl,H,?_⟩;have h1:=hI.out;unfold Hid;split
          ·exact qm.rinv_start h1
          ·rename_i hbf;have:r=[]:=qd6 (by rw[<-I.out];simpa using hbf);rw[this]at h1;exact h1
   ·rw[not_or]at J;obtain⟨hV,hz⟩:=J;have hne:¬g.toList=[86]:=fun e=>hV (ByteArray.ext (Array.ext' (by rw[<-ByteArray.toList_eq];exact e)))
    have hne2:(g.toList==[86])=false:=(by simpa using hne);have hbad:Hid (QD (Za l) cls g m L none):=fun U=>by
     unfold Zaa at U;rw[Bool.and_eq_true,Bool.or_eq_true]at U;rcases U.2 with h|h
     ·exact absurd (Xm h) hV
     ·exact absurd (beq_iff_eq.1 h) hz
    have hzi:((zd (Za l) g:Nat):Int)≠0:=(by omega);have hzb:(((zd (Za l) g:Nat):Int) != 0)=true:=(by simpa using hz);generalize zd (Za l) g=f at *;go_wp2_with (go_fit (HKg.out);rintro e w4⟨rfl,O⟩)
    exact bodyPost_ret (v:=.tuple #[.slice none 0 0,.slice none 0 0,.bool false]) (by simp[results,Tryz.results24,go_sem, *]) rfl
     (by exact⟨Qa HX3.out.below Xl (Qa hB Xl O),none,hbad.out,rfl⟩)
set_option maxRecDepth 512
end Go.Proofs.YtlmfmioljeppfaaGreatDoor
