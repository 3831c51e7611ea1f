/- Lemmas; conditions: as each states. -/
import Derived.Test.YtlmfmioljeppfaaGreatDoorAcceptLaw
import Derived.Test.YtlmfmioljeppfaaGreatDoorMethodMaps
set_option maxHeartbeats 4000000
namespace Go.Proofs.YtlmfmioljeppfaaGreatDoor
open Go.RowKit Go.Shelf Go.Lib
structure WK (w:World) (kb mb:Nat) (hs:List Value) (M:Asg Frm):Prop where
 box:Blk w kb 123 (hs++[.map (some mb)])
 len:hs.length=9
 map:zaK (zk w) w mb M
theorem WK.step{w w':World}{C A:Nat}{hs:List Value}{M:Asg Frm}(h:WK w C A hs M)(B:Below w.heap.size w w'):WK w' C A hs M :=
 ⟨h.box.step B,h.len,h.map.keep (B.block A h.map.lt) fun _ _ _ k=>k.mono B⟩
theorem WK.cell9{w:World}{A B:Nat}{hs:List Value}{M:Asg Frm}(h:WK w A B hs M):w.cell? ⟨A,9,none⟩=some (.map (some B)):=by
 rw[h.box.cell 9,List.getElem?_append_right (by rw[h.len];omega),h.len];rfl
theorem WK.cellh{w:World}{A C:Nat}{hs:List Value}{M:Asg Frm}(h:WK w A C hs M){i:Nat}{v:Value}(B:hs[i]? = some v):w.cell? ⟨A,i,none⟩=some v:=by
 rw[h.box.cell i,List.getElem?_append_left (List.getElem?_eq_some_iff.1 B).1,B]
theorem WK.other{w:World}{B C:Nat}{hs:List Value}{M:Asg Frm}(h:WK w B C hs M){b j:Nat}{t:TypeId}{A:List Value}{u:Value}(D:Blk w b t A)(E:A[j]? = some u)(F:∀s,u≠.string s)(G:B≠b)(H:C≠b)(v:Value):WK (w.setCell ⟨b,j,none⟩ v) B C hs M :=
 ⟨(Xk _ _ _ _ G).trans h.box,h.len,h.map.keep (Xk _ _ _ _ H) fun _ _ _ k=>k.keepS (qx.put D E F v)⟩
theorem Zc2{cs:List Qb}{cls g:Str}{hs:List zM}{M:Asg Frm}{A:List Ins}{j:Nat}{x:Ins}(B:A[j]? = some x)(s:Option Frm):qaV cs cls g hs M j (A.drop j) s=match Zcv cs M j s with
 |none=>false
 |some none=>qaV cs cls g hs M (j+1) (A.drop (j+1)) none
 |some (some f)=>match zdp cs cls g hs M j x f with
  |none=>false
  |some D=>qaV cs cls g hs M (j+1) (A.drop (j+1)) D:=by
 obtain⟨C,rfl⟩:=List.getElem?_eq_some_iff.1 B;rw[List.drop_eq_getElem_cons C];rfl
def za6(v:Value):Prop:=∃p n c,v=.slice p n c
structure qaQ (w0 w:World) (kb mb fb:Nat) (hs:List Value) (M:Asg Frm) (cs:List Qb) (s:Option Frm):Prop where
 below:Below w0.heap.size w0 w
 wk:WK w kb mb hs M
 k0:kb<w0.heap.size
 m0:mb<w0.heap.size
 f0:w0.heap.size<=fb
 at':∃v1 v2,Blk w fb 27 [v1,v2]/\za6 v1/\za6 v2/\∀f,s=some f->zk w v1 v2 f/\Qx cs f=0
theorem qaQ.step{B w w':World}{C D fb:Nat}{hs:List Value}{M:Asg Frm}{cs:List Qb}{s:Option Frm}(h:qaQ B w C D fb hs M cs s)(A:Below w.heap.size w w'):qaQ B w' C D fb hs M cs s:=by
 obtain⟨F,G,H,I,J,E⟩:=h.at';exact⟨Qa h.below Xl A,h.wk.step A,h.k0,h.m0,h.f0,F,G,H.step A,I,J,fun f e=>⟨(E f e).1.mono A,(E f e).2⟩⟩
theorem qaQ.store{H w:World}{D E fb:Nat}{hs:List Value}{M:Asg Frm}{cs:List Qb}{s I:Option Frm}(h:qaQ H w D E fb hs M cs s){u1 u2:Value}(Z:za6 u1)(a:za6 u2)(J:∀f,I=some f->zk w u1 u2 f/\Qx cs f=0):
 qaQ H ((w.setCell ⟨fb,0,none⟩ u1).setCell ⟨fb,1,none⟩ u2) D E fb hs M cs I:=by
 obtain⟨g,i,G,⟨O,P,R,rfl⟩,⟨S,T,U,rfl⟩,_⟩:=h.at';obtain⟨A,B,C,rfl⟩:=Z;obtain⟨V,X,Y,rfl⟩:=a;have L:D≠fb:=by have:=h.k0;have:=h.f0;omega
 have N:E≠fb:=by have:=h.m0;have:=h.f0;omega
 have F:=Blk.put (w:=w) G 0 (.slice A B C);have b:=Blk.put F 1 (.slice V X Y);have c:qx w (w.setCell ⟨fb,0,none⟩ (.slice A B C)):=qx.put G (u:=.slice O P R) rfl (fun _ e=>by cases e) _;have d:qx (w.setCell ⟨fb,0,none⟩ (.slice A B C)) ((w.setCell ⟨fb,0,none⟩ (.slice A B C)).setCell ⟨fb,1,none⟩ (.slice V X Y)):=qx.put F (u:=.slice S T U) rfl (fun _ e=>by cases e) _;exact⟨(h.below.setCell h.f0 _).setCell h.f0 _,(h.wk.other G (u:=.slice O P R) rfl (fun _ e=>by cases e) L N _).other F (u:=.slice S T U) rfl (fun _ e=>by cases e) L N _,h.k0,h.m0,h.f0,_,_,b,⟨_,_,_,rfl⟩,⟨_,_,_,rfl⟩,fun f e=>⟨((J f e).1.keepS c).keepS d,(J f e).2⟩⟩
def qbb(wx:World)(kb B fb xb:Nat)(u v:Value)(x:Ins):Prop:=wx.cell? ⟨kb,0,none⟩=some (.map (some B))/\wx.cell? ⟨fb,0,none⟩=some u/\wx.cell? ⟨fb,1,none⟩=some v/\wx.cell? ⟨xb,0,none⟩=some (.int .i64 x.op)/\wx.cell? ⟨xb,1,none⟩=some (.int .i64 x.a)/\wx.cell? ⟨xb,2,none⟩=some (.int .i64 x.b)/\wx.cell? ⟨xb,3,none⟩=some (.string x.type)/\wx.cell? ⟨xb,4,none⟩=some (.string x.cls)/\wx.cell? ⟨xb,5,none⟩=some (.string x.name)
theorem qbb.step{w w':World}{C B fb D:Nat}{u v:Value}{x:Ins}(h:qbb w C B fb D u v x)(A:Below w.heap.size w w'):qbb w' C B fb D u v x:=by
 obtain⟨E,F,G,H,I,J,L,M,N⟩:=h;exact⟨(A.cell (ql E)).trans E,(A.cell (ql F)).trans F,(A.cell (ql G)).trans G,(A.cell (ql H)).trans H,(A.cell (ql I)).trans I,(A.cell (ql J)).trans J,(A.cell (ql L)).trans L,(A.cell (ql M)).trans M,(A.cell (ql N)).trans N⟩
theorem qbb.other{w:World}{D B fb A:Nat}{u v:Value}{x:Ins}(h:qbb w D B fb A u v x){c:Nat}(F:D<c)(G:fb<c)(H:A<c)(p q:Value):qbb ((w.setCell ⟨c,0,none⟩ p).setCell ⟨c,1,none⟩ q) D B fb A u v x:=by
 obtain⟨J,L,M,N,O,P,R,S,T⟩:=h;have I:=Nat.ne_of_lt F;have E:=Nat.ne_of_lt G;have C:=Nat.ne_of_lt H;exact⟨(zj (a:=⟨D,_,none⟩) I _ _).trans J,(zj (a:=⟨fb,_,none⟩) E _ _).trans L,(zj (a:=⟨fb,_,none⟩) E _ _).trans M,(zj (a:=⟨A,_,none⟩) C _ _).trans N,(zj (a:=⟨A,_,none⟩) C _ _).trans O,(zj (a:=⟨A,_,none⟩) C _ _).trans P,(zj (a:=⟨A,_,none⟩) C _ _).trans R,(zj (a:=⟨A,_,none⟩) C _ _).trans S,(zj (a:=⟨A,_,none⟩) C _ _).trans T⟩
def QcF(wx:World)(nb xb:Nat)(u v:Value)(op:Int):Prop:=wx.cell? ⟨nb,0,none⟩=some u/\wx.cell? ⟨nb,1,none⟩=some v/\wx.cell? ⟨xb,0,none⟩=some (.int .i64 op)
theorem QcF.step{w w':World}{B C:Nat}{u v:Value}{D:Int}(h:QcF w B C u v D)(A:Below w.heap.size w w'):QcF w' B C u v D:=by
 obtain⟨E,F,G⟩:=h;exact⟨(A.cell (ql E)).trans E,(A.cell (ql F)).trans F,(A.cell (ql G)).trans G⟩
theorem QcF.other{w:World}{A B:Nat}{u v:Value}{C:Int}(h:QcF w A B u v C){c:Nat}(D:A≠c)(E:B≠c)(p q:Value):QcF ((w.setCell ⟨c,0,none⟩ p).setCell ⟨c,1,none⟩ q) A B u v C:=by
 obtain⟨F,G,H⟩:=h;exact⟨(zj (a:=⟨A,_,none⟩) D _ _).trans F,(zj (a:=⟨A,_,none⟩) D _ _).trans G,(zj (a:=⟨B,_,none⟩) E _ _).trans H⟩
theorem qea(A:Option Addr)(B:Nat)(v:Value)(w:World):Calls Tryz.prog 191 #[.slice A 0 B,v] w fun e w'=>e=.returned (.int .i64 (-1))/\w=w':=by
 go_enter Tryz.func191,Tryz.ntmps191;go_wp2_with fail;go_loopw [8] (fun x wr=>x=.int .i64 0/\w=wr) (fun _ _=>0)
 case atStart=>exact⟨rfl,rfl⟩
 case round =>
  obtain⟨rfl,rfl⟩:=hrel;go_wp2_with fail;go_ret;exact⟨rfl,rfl⟩
theorem qc2(A:Option Addr)(B:Nat)(v:Value)(w:World):Calls Tryz.prog 153 #[.slice A 0 B,v] w fun e w'=>e=.returned (.bool false)/\w=w':=by
 have C:Hid (∀wx,_):=fun wx=>qea A B v wx
 go_enter Tryz.func153,Tryz.ntmps153;go_wp2_with (go_fit (C.out _);rintro e D⟨rfl,rfl⟩)
 go_ret;exact⟨rfl,rfl⟩
theorem QbP(w:World)(A P:Nat)(hs:List Value)(M:Asg Frm)(h:WK w A P hs M)(J:Option Addr)(L:Nat)(R:hs[8]? = some (.slice J 0 L))(i:Nat)(B:Option Addr)(C D:Nat)(E:Option Addr)(F G:Nat):
 Calls Tryz.prog 112 #[.pointer (some ⟨A,0,none⟩),.int .i64 (i:Int),.agg #[.slice B C D,.slice E F G]] w fun e w'=>e=.returned (.bool true)/\Below w.heap.size w w':=by
 have S:Hid (∀v wx,_):=fun v wx=>qc2 J L v wx
 have H:Below w.heap.size w (((w.alloc (.cells #[.pointer (some ⟨A,0,none⟩)] 121)).alloc (.cells #[.int .i64 (i:Int)] 3)).alloc (.cells #[.slice B C D,.slice E F G] 27)):=((Xb.alloc Xl _).alloc (by simp) _).alloc (by simp only[World.size_alloc];omega) _;have N:=(Below.refl (w.alloc (.cells #[.pointer (some ⟨A,0,none⟩)] 121)).heap.size (w.alloc (.cells #[.pointer (some ⟨A,0,none⟩)] 121))).alloc Xl (.cells #[.int .i64 (i:Int)] 3);have O:=((Blk.new w 121 [.pointer (some ⟨A,0,none⟩)]).step N).step (Xb.alloc Xl (.cells #[.slice B C D,.slice E F G] 27));have T:=(h.step H).cellh R;have U:=O.cell 0;have I:=Xh H;clear H N O h;go_enter Tryz.func112,Tryz.ntmps112;go_wp2_with (go_fit (S.out _ _);rintro e V⟨rfl,rfl⟩)
 go_ret;exact⟨rfl,I⟩
set_option maxRecDepth 100000
theorem Zdt(l:List Qb)(B:Nat)(ws w:World)(hm:zy ws w B l)(m:qi)(cls g:Str)(args:List Str)(U:Nat)(pc ph:Option Addr)(kc kh:Nat)(hG:Z8 m args g U)(hmo:Z1 m)(hcl:cls.size<=1048576)(hcv:Zg w 6 Zw (.slice pc m.code.length kc) m.code)(hhv:Zg w 4 Qt (.slice ph m.handlers.length kh) m.handlers)(kb mb:Nat)(hs:List Value)(I:hs=[.map (some B),.string m.name,.string m.type,.bool m.static,.bool m.abs,.bool m.priv,.int .i64 m.locals,.slice pc m.code.length kc,.slice ph m.handlers.length kh])(M:Asg Frm)(hK:WK w kb mb hs M)(hM:∀i,M i=none)(hh0:m.handlers=[])(hj:∀x∈m.code,zu x.op=false)(hT:Zdp (Za l) cls g m M (QP cls m.static args U)=true):
 Calls Tryz.prog 69 #[.pointer (some ⟨kb,0,none⟩),.string cls] w fun e w'=>e=.returned (.bool true)/\Below w.heap.size w w':=by
 have HA:Hid (∀(wx:World) (o:Obj),Below wx.heap.size wx (wx.alloc o)):=fun wx o=>Xb.alloc Xl o
 have HF:Hid (∀wx,_):=fun wx=>zaY wx cls m.name m.type m.static m.abs m.priv U pc ph m.code.length kc m.handlers.length kh args g hG.type hmo.type hcl hG.small (ZS hG.type)
 rw[<-hG.locals]at HF;have hL8:=qaB (cls:=cls) hG;have HLs:=Xh (QaQ hcl hmo.type hG);have hgs:g.size<=maxLen:=Xf (Xf (QQ hG.type).2 hmo.type) (by decide);generalize QP cls m.static args U=L at *;have HKi:Hid (∀(wx:World) (k:Str),Below w.heap.size w wx->k.size<=maxLen->_):=fun wx k q t=>Qbn ws wx B (Za l) (hm.map.step q) hm.right.nodup k t
 unfold ZaK at HF;have m0:=hK.cellh (i:=1) (v:=.string m.name) (by rw[I];rfl);have m1:=hK.cellh (i:=2) (v:=.string m.type) (by rw[I];rfl);have m2:=hK.cellh (i:=3) (v:=.bool m.static) (by rw[I];rfl);have m3:=hK.cellh (i:=4) (v:=.bool m.abs) (by rw[I];rfl);have m4:=hK.cellh (i:=5) (v:=.bool m.priv) (by rw[I];rfl);have m5:=hK.cellh (i:=6) (v:=.int .i64 m.locals) (by rw[I];rfl);have m6:=hK.cellh (i:=7) (v:=.slice pc m.code.length kc) (by rw[I];rfl);have m7:=hK.cellh (i:=8) (v:=.slice ph m.handlers.length kh) (by rw[I];rfl);have HK:=Xh hK;have Hm:=Xh hm;have HG:=Xh hG;have Hmo:=Xh hmo;have Hcv:=Xh hcv;have Hhv:=Xh hhv;have Hcl:=Xh hcl;have Hhs:=Xh I;have HM:=Xh hM;have Hh0:=Xh hh0;have Hjp:=Xh hj;obtain⟨hst0,hT⟩:=Bool.and_eq_true_iff.1 hT;have HT:=Xh hT;have Hs0:=Xh hst0;clear hK hm hG hmo hcv hhv hcl I hM hh0 hj hT hst0;go_enter Tryz.func69,Tryz.ntmps69;go_upto_region 2 with(go_fit (HF.out _);rintro e d⟨hB2,p,n,c,rfl,hS2,_⟩)
 obtain⟨p',c',e,hn1,hn2,hcc⟩:=hS2.open;injection e with e1 e2 e3
 subst e1 e2 e3;have f3:=Blk.new d 27 [.slice p L.length c,.slice none 0 0];have B3:=hB2.alloc hB2.size (.cells #[.slice p L.length c,.slice none 0 0] 27);have S3:zk (d.alloc (.cells #[.slice p L.length c,.slice none 0 0] 27)) (.slice p L.length c) (.slice none 0 0) ⟨L,[]⟩:=⟨hS2.mono (HA.out d _),Or.inl ⟨rfl,rfl⟩⟩;have HCc:Hid (∀i x,L[i]? = some x->∃b o,p=some ⟨b,o,none⟩/\(d.alloc (.cells #[.slice p L.length c,.slice none 0 0] 27)).cell? ⟨b,o+i,none⟩=some (.string x)):=fun i x hx=>by
  obtain⟨b,o,vs,h1,h2,_,h4⟩:=hcc i x hx;have h2:vs=[.string x]:=h2;subst h2;have h5:=h4.1;rw[Nat.mul_one]at h5;exact⟨b,o,h1,((HA.out d _).cell (ql h5)).trans h5⟩
 have hfbs:w.heap.size<=d.heap.size:=hB2.size;generalize (d.alloc (.cells #[.slice p L.length c,.slice none 0 0] 27))=w3 at *;generalize d.heap.size=fb at *;have f0:=f3.cell 0;have f1:=f3.cell 1;have HS3:=Xh S3;have Hf3:=Xh f3;have HB3:=Xh B3;have Hfb:=Xh hfbs;clear S3 f3 hcc hS2 m0 m1 m2 m3 m4 m5 m6 m7 hB2 B3 hfbs;go_wp2_with fail;clear f0 f1;go_loopw [28] (fun x wr=>∃j:Nat,j<=L.length/\x=.int .i64 j/\Hid (Below w3.heap.size w3 wr)/\Hid (qaK (Za l) L j)) (fun x _=>L.length-(intOf x).toNat)
 case atStart=>exact⟨0,Nat.zero_le _,rfl,Xb,fun k t=>by simp at t⟩
 case round =>
  obtain⟨j,hj,rfl,hB,hI⟩:=hrel;have d0:=((HK.out.step HB3.out).step hB.out).cellh (i:=0) (v:=.map (some B)) (by rw[Hhs.out];rfl);by_cases hjl:j<L.length
  ·obtain⟨k,t⟩:∃k,L[j]? = some k:=⟨L[j],by simp[hjl]⟩;have hkm:=Xe t;obtain⟨b,o,rfl,c0⟩:=HCc.out j k t;replace c0:=(hB.out.cell (ql c0)).trans c0;have HKk:=Xh (HKi.out wr k (Qa HB3 Xl hB) (Xf (HLs.out k hkm) (by decide)));rcases qI (zd (Za l) k) with⟨hv,hz⟩|⟨hv,hz⟩
   ·rw[hv]at HKk;have hI2:Hid (qaK (Za l) L (j+1)):=fun y hy=>by
     rw[List.take_add_one,t]at hy;rcases List.mem_append.1 hy with hy|hy
     ·exact hI.out y hy
     ·rw[show y=k by simpa using hy];exact hz
    clear t hkm hv hz;go_wp2_with (go_fit (HKk.out);rintro e w4⟨rfl,a⟩)
    go_roundw;case rel=>exact⟨j+1,by omega,by simp,Qa hB Xl a,hI2⟩
    case measure=>simp[intOf];omega
   ·have C:=Hs0.out;unfold Zaa at C;rw[Bool.and_eq_true]at C;exact absurd (beq_iff_eq.1 (List.all_eq_true.1 C.1 k hkm)) hz
  ·obtain rfl:j=L.length:=(by omega);have hall:Hid (∀k∈L,zd (Za l) k=0):=fun k t=>hI.out k (by rw[List.take_length];exact t)
   have HKg:=Xh (HKi.out wr g (Qa HB3 Xl hB) hgs);have HSt:Hid (Zaa (Za l) L g=(decide (g=⟨#[86]⟩)||zd (Za l) g==0)):=by
    unfold Hid Zaa;rw[List.all_eq_true.2 fun k t=>beq_iff_eq.2 (hall.out k t),Bool.true_and]
   by_cases D:g=⟨#[86]⟩\/zd (Za l) g=0
   ·have hstB:Zaa (Za l) L g=true:=by
     rw[HSt.out,Bool.or_eq_true];exact D.imp Xj beq_iff_eq.2
    go_upto_region 8 with fail;go_cut [50] (fun s wx=>s=.bool false/\Below wr.heap.size wr wx)
    case first =>
     by_cases hV:g=⟨#[86]⟩
     ·subst hV;go_wp2_with fail;go_meet;exact⟨rfl,Xb⟩
     ·have hz:=D.resolve_left hV;rw[hz,show zE 0=.nilIface from rfl]at HKg;have hne:¬g.toList=[86]:=fun e=>hV (ByteArray.ext (Array.ext' (by rw[<-ByteArray.toList_eq];exact e)))
      clear hz D;go_wp2_with (go_fit (HKg.out);rintro e w4⟨rfl,a⟩)
      go_meet;exact⟨rfl,a⟩
    case rest =>
     obtain⟨rfl,a⟩:=hcut;have Bc:=Qa hB Xl a;have Bwc:=Qa HB3 Xl Bc;have hfr0:=zay hL8 hstB;have HWA:Hid (qaQ w wc kb mb fb hs M (Za l) (some ⟨L,[]⟩)):=⟨Bwc,HK.out.step Bwc,HK.out.box.lt,HK.out.map.lt,Hfb,_,_,Hf3.out.step Bc,⟨_,_,_,rfl⟩,⟨_,_,_,rfl⟩,fun f e=>by
      injection e with e
      subst e;exact⟨HS3.out.mono Bc,hfr0⟩⟩
     have HR:Hid (qaV (Za l) cls g m.handlers M 0 (m.code.drop 0) (some ⟨L,[]⟩)=true):=HT.out;have d7:=(HK.out.step Bwc).cellh (i:=7) (v:=.slice pc m.code.length kc) (by rw[Hhs.out];rfl);have hc40:=(zO HG.out.code).small;have HCo:=Xh (zO HG.out.code);have HRi:=Xh Hm.out.right;clear a Bc Bwc hfr0 hB hI d0 hall HKg HSt D hstB;go_wp2_with fail;clear d7;go_loopw [9,57] (fun y x wr=>∃(j:Nat) (s:Option Frm),j<=m.code.length/\y=.bool s.isSome/\x=.int .i64 j/\Hid (qaQ w wr kb mb fb hs M (Za l) s)/\Hid (qaV (Za l) cls g m.handlers M j (m.code.drop j) s=true)) (fun _ x _=>m.code.length-(intOf x).toNat)
     case atStart=>exact⟨0,some ⟨L,[]⟩,Nat.zero_le _,rfl,rfl,HWA,HR⟩
     case round =>
      obtain⟨j,s,hj,rfl,rfl,hWA,hWR⟩:=hrel;by_cases hjl:j<m.code.length
      ·obtain⟨x,hx⟩:∃x,m.code[j]? = some x:=⟨m.code[j],by simp[hjl]⟩;have hxm:=Xe hx;obtain⟨b0,o,cap,vs,e,hxv,hvl,qc⟩:=Hcv.out.at hjl;injection e with e1 _ e2
       subst e1 e2;rw[show m.code[j]=x from Option.some.inj ((Xn hjl).symm.trans hx)]at hxv;unfold Zw at hxv;subst hxv;have qc:=qc.mono hWA.out.below qc.lt;have Zc:=Zc2 (cs:=Za l) (cls:=cls) (g:=g) (hs:=m.handlers) (M:=M) hx s;rw[hWR.out]at Zc;have Hxo:=Xh (And.intro (Hmo.out.code x hxm) (HCo.out.ins x hxm));have Hxj:=Xh (Hjp.out x hxm);have HSt:Hid (∀f L S,Qx (Za l) f=0->zp (Za l) cls g x f.locals f.stack=some (L,S)->Qx (Za l) ⟨L,S⟩=0):=fun f L S hf e=>qbT HRi.out Hxo.out.2 hf e
       have HAf:Hid (∀(wx:World) (f:Frm) (f1 f2:Value),Below w.heap.size w wx->zk wx f1 f2 f->Qx (Za l) f=0->_):=fun wx f f1 f2 q hf hz=>zck ws wx B l (Hm.out.step q) cls g x f f1 f2 hf hz Hxo.out.1 (ZaY Hxo.out.2) (Xf Hcl.out (by decide)) hgs
       clear hx hxm;obtain⟨O,xa,xb,F,G,H⟩:=x;obtain⟨c0,c1,c2,c3,c4,c5,_⟩:=qc;have Ba:=HA.out wr (.cells #[.int .i64 O,.int .i64 xa,.int .i64 xb,.string F,.string G,.string H] 24);have kx:=Blk.new wr 24 [.int .i64 O,.int .i64 xa,.int .i64 xb,.string F,.string G,.string H];have hxlt:fb<wr.heap.size:=by
        obtain⟨v1,v2,k1,_⟩:=hWA.out.at';exact k1.lt
       obtain⟨w1,hw1⟩:∃w1,w1=wr.alloc (.cells #[.int .i64 O,.int .i64 xa,.int .i64 xb,.string F,.string G,.string H] 24):=⟨_,rfl⟩;rw[<-hw1]at Ba kx;have HW1:=Xh hw1.symm;clear hw1;have HWA1:=Xh (hWA.out.step Ba);have c9:=HWA1.out.wk.cell9;obtain⟨lv,sv,hlv,hlk⟩:=HWA1.out.wk.map.look (i:=j) (by omega);have L1:=hlk w1 true rfl;rw[zL]at L1;clear hlk;obtain⟨⟨p1,n1,q1,rfl⟩,⟨p2,n2,q2,rfl⟩⟩:za6 lv/\za6 sv:=by
        cases hMj:M j with
        |none =>
         rw[hMj]at hlv;obtain⟨rfl,rfl⟩:=hlv;exact⟨⟨_,_,_,rfl⟩,⟨_,_,_,rfl⟩⟩
        |some g=>rw[HM.out j]at hMj;cases hMj
       have Bb:=HA.out w1 (.cells #[.slice p1 n1 q1,.slice p2 n2 q2] 27);have kx2:=kx.step Bb;have HWA2:=Xh (HWA1.out.step Bb);have hmb:w1.heap.size≠fb:=by
        have:=Ba.size;omega
       have hfx:wr.heap.size≠fb:=(by omega);obtain⟨d,hw2⟩:∃d,d=w1.alloc (.cells #[.slice p1 n1 q1,.slice p2 n2 q2] 27):=⟨_,rfl⟩;rw[<-hw2]at kx2 HWA2;have HW2:=Xh hw2.symm;clear hw2 hlv;have Hkx:=Xh kx2;have Hne:=Xh (And.intro hmb hfx);have A:=Xh Zc;obtain⟨bm,hbm⟩:∃b,(M j).isSome=b:=⟨_,rfl⟩;rw[hbm]at L1;have Hbm:=Xh hbm;clear hbm Zc hmb hfx Ba Bb kx kx2 hxlt;have hb2:false=bm:=(by rw[<-Hbm.out,HM.out j];rfl);subst hb2;go_upto_region 14 with fail;rw[HW1.out];go_upto_if 71 with fail
       rw[HW2.out];clear c0 c1 c2 c3 c4 c5 c9 L1;have R:Zcv (Za l) M j s=some s:=by
        unfold Zcv;rw[HM.out j]
       rw[R]at A;clear R;have HWc:=HWA2;have Hxc:=Hkx;clear HWA2 Hkx;cases s with
        |none =>
         dsimp only[Option.isSome]at A ⊢;go_wp2_with fail;go_roundw;case rel=>exact⟨j+1,none,by omega,rfl,by simp,HWc,A.out.symm⟩
         case measure=>simp[intOf];omega
        |some f =>
         dsimp only[Option.isSome]at A ⊢;obtain⟨v1,v2,J,⟨p1,n1,q1,rfl⟩,⟨p2,n2,q2,rfl⟩,hFf⟩:=HWc.out.at';obtain⟨T,hFr⟩:=hFf f rfl;have b0:=J.cell 0;have b1:=J.cell 1;have HFv:=Xh T;have HFr:=Xh hFr;have HFb:=Xh J;have HCt:Hid (Calls _ _ _ d _):=QbP d kb mb hs M HWc.out.wk ph kh (by rw[Hhs.out,Hh0.out];rfl) j p1 n1 q1 p2 n2 q2;clear hFf T hFr J;have Hct:Hid (QbR (Za l) M j f m.handlers=true):=by
          unfold Hid;rw[Hh0.out];rfl
         go_upto_region 22 with(first
          |(go_fit (HCt.out);rintro e V⟨rfl,P⟩))
         have HWd:=Xh (HWc.out.step P);have HFv5:=Xh (HFv.out.mono P);have HS:Hid (∀wx,Below V.heap.size V wx->qbb wx kb B fb wr.heap.size (.slice p1 n1 q1) (.slice p2 n2 q2) ⟨O,xa,xb,F,G,H⟩):=by
          have X:=Hxc.out.step P;have kf5:=HFb.out.step P;exact fun wx q=>qbb.step ⟨HWd.out.wk.cellh (by rw[Hhs.out];rfl),kf5.cell 0,kf5.cell 1,X.cell 0,X.cell 1,X.cell 2,X.cell 3,X.cell 4,X.cell 5⟩ q
         have HLt:Hid (kb<V.heap.size/\fb<V.heap.size/\wr.heap.size<V.heap.size):=⟨HWd.out.wk.box.lt,(HFb.out.step P).lt,(Hxc.out.step P).lt⟩;have Hxd:=Xh (Hxc.out.step P);have E:Hid (∀wx,Below V.heap.size V wx->_):=fun wx q=>HAf.out wx f (.slice p1 n1 q1) (.slice p2 n2 q2) (Qa HWd.out.below Xl q) (HFv5.out.mono q) HFr.out
         unfold Za6 ZW at E;clear b0 b1 P HCt HAf;obtain⟨k0,k1,k2,k3,k4,k5,k6,k7,k8⟩:=HS.out V Xb;dsimp only at E;cases C:zp (Za l) cls g ⟨O,xa,xb,F,G,H⟩ f.locals f.stack with
         |none =>
          have:=A.out;unfold zdp at this;rw[Hct.out,C]at this;cases this
         |some r =>
          obtain⟨z,S'⟩:=r;rw[C]at E;dsimp only at E;have Hfr2:=Xh (HSt.out f z S' HFr.out C);have Hst2:Hid (true=match (if zu O&&!QbT (Za l) M xa.toNat ⟨z,S'⟩ then none else some (if Zad O then none else some (⟨z,S'⟩:Frm))) with
           |none=>false
           |some s'=>qaV (Za l) cls g m.handlers M (j+1) (m.code.drop (j+1)) s'):=by
           have:=A.out;unfold zdp at this;rw[Hct.out,C]at this;exact this
          replace E:Hid (∀wx,Below V.heap.size V wx->Calls _ _ _ wx fun e w'=>(∃lv sv,e=.returned (.tuple #[.agg #[lv,sv],.bool true])/\zk w' lv sv ⟨z,S'⟩)/\Below wx.heap.size wx w'/\qbb w' kb B fb wr.heap.size (.slice p1 n1 q1) (.slice p2 n2 q2) ⟨O,xa,xb,F,G,H⟩):=fun wx q=>(E.out wx q).mono fun e w' ⟨hB,he⟩=>⟨he,hB,HS.out w' (Qa q Xl hB)⟩
          clear C A HSt;go_cut [14,15] from 88 to 99 (fun p b wx=>b=.bool true/\qag V wx ⟨z,S'⟩ p)
          case first =>
           go_region_held3 (fun w'=>w'.cell? ⟨kb,0,none⟩=some (.map (some B))/\w'.cell? ⟨fb,0,none⟩=some (.slice p1 n1 q1)/\w'.cell? ⟨fb,1,none⟩=some (.slice p2 n2 q2)/\w'.cell? ⟨wr.heap.size,0,none⟩=some (.int .i64 O)/\w'.cell? ⟨wr.heap.size,1,none⟩=some (.int .i64 xa)/\w'.cell? ⟨wr.heap.size,2,none⟩=some (.int .i64 xb)/\w'.cell? ⟨wr.heap.size,3,none⟩=some (.string F)/\w'.cell? ⟨wr.heap.size,4,none⟩=some (.string G)/\w'.cell? ⟨wr.heap.size,5,none⟩=some (.string H))
            (first|go_keep|exact qbb.other (x:=⟨O,xa,xb,F,G,H⟩) ⟨k0,k1,k2,k3,k4,k5,k6,k7,k8⟩ HLt.out.1 HLt.out.2.1 HLt.out.2.2 _ _)
            (first
             |(go_fit (E.out _ ?_);(first|exact Xb.drew|exact(Xb.alloc Xl _).drew);rintro e w3⟨⟨lv3,sv3,rfl,hv3⟩,hB3,k0,k1,k2,k3,k4,k5,k6,k7,k8⟩;obtain⟨⟨p3,n3,rfl,_⟩,⟨p4,n4,rfl,_⟩⟩:=And.intro hv3.1.open hv3.2.open;(first|(have KB:Blk w3 V.heap.size 27 [.slice none 0 0,.slice none 0 0]:=Blk.step (w:=(V.alloc (.cells #[.slice none 0 0,.slice none 0 0] 27)).drew) (Blk.new V 27 [.slice none 0 0,.slice none 0 0]) hB3;obtain⟨x0,x1⟩:=KB.cells2;(have f0:=KB.frozen 0);(have f1:=KB.frozen 1))|skip)))
           all_goals (go_wp2_with fail;go_meet;first
            |exact⟨rfl,qag.late (Qa (Xb.drew) Xl hB3) hv3⟩
            |exact⟨rfl,qag.early (Qa (Xb.drew) Xl hB3) hv3⟩)
          case rest =>
           obtain⟨rfl,nb,u1,u2,rfl,hnb,Kb,Z,T⟩:=hcut;obtain⟨⟨p3,n3,rfl,hz1⟩,⟨p4,n4,rfl,hz2⟩⟩:=And.intro T.1.open T.2.open;clear hz1 hz2 k0 k1 k2 k3 k4 k5 k6 k7 k8 E;obtain⟨d0,_,_,x0,x1,_⟩:=HS.out wc Z;have HWe:=Xh (HWd.out.step Z);have Hxe:=Xh (Hxd.out.step Z);have HKb:=Xh Kb;have HFv:=Xh T;have Hnb:=Xh hnb;have g0:=Kb.cell 0;have g1:=Kb.cell 1;have HJ:Hid (∀wx,_):=fun wx=>qaz O wx
           have HE:Hid (∀wx,_):=fun wx=>zbU O wx
           clear d0 Kb Z T hnb;cases N:(zu O&&!QbT (Za l) M xa.toNat ⟨z,S'⟩) with
           |true =>
            rw[Bool.and_eq_true]at N;exact absurd (N.1.symm.trans Hxj.out) (by decide)
           |false =>
            rw[N]at Hst2;have Y:Hid (true=qaV (Za l) cls g m.handlers M (j+1) (m.code.drop (j+1)) (if Zad O then none else some ⟨z,S'⟩)):=Hst2.out;have Hbad:=Xh N;clear N Hst2;generalize wc=w6 at *;go_upto_region 23 with fail;go_cut [114] from 100 to 113 (fun b wx=>b=.bool false/\Below w6.heap.size w6 wx)
            case first =>
             rw[show zu O=false from Hxj.out]at HJ;go_wp2_with (first
              |(go_fit (HJ.out _);rintro e w7⟨rfl,rfl⟩))
             go_meet;exact⟨rfl,Xb⟩
            case rest =>
             obtain⟨rfl,hB7⟩:=hcut;have HWg:=Xh (HWe.out.step hB7);have HF7:=Xh (HFv.out.mono hB7);have kb7:=HKb.out.step hB7;have kx7:=Hxe.out.step hB7;have HS7:Hid (∀wx,Below wc.heap.size wc wx->QcF wx nb wr.heap.size (.slice p3 _ n3) (.slice p4 _ n4) O):=fun wx q=>QcF.step ⟨kb7.cell 0,kb7.cell 1,kx7.cell 0⟩ q
             have HLt7:Hid (nb≠fb/\wr.heap.size≠fb):=⟨by have:=HLt.out.2.1;have:=Hnb.out;omega,fun e=>Hne.out.2 e⟩;obtain⟨v1,v2,J,⟨p5,n5,q5,rfl⟩,⟨p6,n6,q6,rfl⟩,hFf⟩:=HWg.out.at';have b0:=J.cell 0;have b1:=J.cell 1;have z0:=J.frozen 0;have z1:=J.frozen 1;clear g0 g1 x0 x1 hFf J kb7 kx7 hB7;obtain⟨e0,e1,e2⟩:=HS7.out wc Xb;generalize wc=w8 at *;have HWn:Hid (∀s'':Option Frm,(∀f,s''=some f->f=⟨z,S'⟩)->qaQ w (((w8.setCell ⟨fb,0,none⟩ (.slice p3 z.length n3)).setCell ⟨fb,1,none⟩ (.slice p4 S'.length n4)).drew) kb mb fb hs M (Za l) s''):=fun s'' hs''=>(HWg.out.store ⟨_,_,_,rfl⟩ ⟨_,_,_,rfl⟩ fun f e=>by
              rw[hs'' f e];exact⟨HF7,Hfr2⟩).step (Xb.drew)
             cases R:Zad O with
             |true =>
              rw[R]at HE Y;have HR3:Hid (qaV (Za l) cls g m.handlers M (j+1) (m.code.drop (j+1)) none=true):=Y.out.symm;have HWs:=Xh (HWn.out none (fun f e=>by cases e));clear R Y HWn;go_upto_region 25 with fail;go_region_law (first
               |(go_simp;go_fit (HE.out _);rintro e w9⟨rfl,rfl⟩))
              all_goals
               go_wp2_with fail;go_roundw;case rel=>exact⟨j+1,none,by omega,rfl,by simp,HWs,HR3⟩
               case measure=>simp[intOf];omega
             |false =>
              rw[R]at HE Y;have HR3:Hid (qaV (Za l) cls g m.handlers M (j+1) (m.code.drop (j+1)) (some ⟨z,S'⟩)=true):=Y.out.symm;have HWs:=Xh (HWn.out (some ⟨z,S'⟩) (fun f e=>(Option.some.inj e).symm));clear R Y HWn;go_upto_region 25 with fail;go_region_law (first
               |(go_simp;go_fit (HE.out _);rintro e w9⟨rfl,rfl⟩))
              all_goals
               go_wp2_with fail;go_roundw;case rel=>exact⟨j+1,(some ⟨z,S'⟩),by omega,rfl,by simp,HWs,HR3⟩
               case measure=>simp[intOf];omega
      ·obtain rfl:j=m.code.length:=(by omega);have Z:=Xh hWA.out.below;clear hWA;go_wp2_with fail;go_ret;exact⟨rfl,Z⟩
   ·rw[not_or]at D;obtain⟨hV,hz⟩:=D;have C:=Hs0.out;unfold Zaa at C;rw[Bool.and_eq_true,Bool.or_eq_true]at C;rcases C.2 with h|h
    ·exact absurd (Xm h) hV
    ·exact absurd (beq_iff_eq.1 h) hz
theorem qbH(l:List Qb)(p:Value)(cls:Str)(at':Int)(w:World)(hl:QaB w)(q:∀c∈l,qab c)(N:qj w p l)(T:∀m args g A,qS cls at' l=some m->Z8 m args g A->m.handlers=[]/\(∀x∈m.code,zu x.op=false)/\Zdp (Za l) cls g m (fun _=>none) (QP cls m.static args A)=true):
 Calls Tryz.prog 31 #[p,.string cls,.int .i64 at',.slice none 0 0] w fun e w'=>Below w.heap.size w w'/\e=.returned (zE (qD l cls at')):=by
 have J:=Xh (Zck l p cls at' w hl q N);obtain⟨pl,cap,rfl,hpo⟩:=N.open;clear hpo;have r:=Xh q;have s:=Xh T;have HA:Hid (∀(wx:World) (o:Obj),Below wx.heap.size wx (wx.alloc o)):=fun wx o=>Xb.alloc Xl o
 clear hl q N T;unfold Qbx Zn at J;by_cases M:qD l cls at'=0
 ·have U:=Xh M;clear M;go_enter Tryz.func31,Tryz.ntmps31;go_upto_region 2 with(go_fit (J.out);rintro e d⟨D,⟨_,m,ws,B,v,S,f,rfl,⟨E,F,G,H,rfl,i,j⟩,hM⟩|⟨M,_⟩⟩;rotate_left;(exact absurd U.out M))
  obtain⟨c,n,Y,R⟩:=zaC S;have V:=(r.out c n).methods m R;have X:cls.size<=1048576:=by rw[<-Y];exact(r.out c n).name
  obtain⟨args,g,A,hG⟩:=zby (hM.faults c n) R f.out;obtain⟨Z,a,b⟩:=s.out m args g A S hG;have I:=Blk.new d 53 [.string m.name,.string m.type,.bool m.static,.bool m.abs,.bool m.priv,.int .i64 m.locals,.slice E m.code.length F,.slice G m.handlers.length H];have B3:Below w.heap.size w (d.alloc (.cells #[.string m.name,.string m.type,.bool m.static,.bool m.abs,.bool m.priv,.int .i64 m.locals,.slice E m.code.length F,.slice G m.handlers.length H] 53)):=D.alloc D.size _;have M3:=hM.step (HA.out d (.cells #[.string m.name,.string m.type,.bool m.static,.bool m.abs,.bool m.priv,.int .i64 m.locals,.slice E m.code.length F,.slice G m.handlers.length H] 53));generalize d.alloc (.cells #[.string m.name,.string m.type,.bool m.static,.bool m.abs,.bool m.priv,.int .i64 m.locals,.slice E m.code.length F,.slice G m.handlers.length H] 53)=C at *;have z:=Xh i;have aA:=Xh j;have HG:=Xh hG;have aB:=Xh V;have aC:=Xh X;have Hh:=Xh (And.intro Z (And.intro a b));have HM3:=Xh M3;have HB3:=Xh B3;have Hk3:=Xh I;have m0:=I.cell 0;have m1:=I.cell 1;have m2:=I.cell 2;have m3:=I.cell 3;have m4:=I.cell 4;have m5:=I.cell 5;have m6:=I.cell 6;have m7:=I.cell 7;clear S f hM i j D n Y R V X hG I B3 M3 r J Z a b;have hmm:=fun t w=>run_makeMap (P:=Tryz.prog) t w
  go_upto_region 7 with fail;obtain⟨hs,L⟩:∃hs:List Value,hs=[.map (some B),.string m.name,.string m.type,.bool m.static,.bool m.abs,.bool m.priv,.int .i64 m.locals,.slice E m.code.length F,.slice G m.handlers.length H]:=⟨_,rfl⟩;have B4:Below C.heap.size C ((C.alloc (.map #[] 0)).alloc (.cells #[.map (some B),.string m.name,.string m.type,.bool m.static,.bool m.abs,.bool m.priv,.int .i64 m.locals,.slice E m.code.length F,.slice G m.handlers.length H,.map (some C.heap.size)] 123)):=(Xb.alloc Xl _).alloc (by simp) _;have K4:WK ((C.alloc (.map #[] 0)).alloc (.cells #[.map (some B),.string m.name,.string m.type,.bool m.static,.bool m.abs,.bool m.priv,.int .i64 m.locals,.slice E m.code.length F,.slice G m.handlers.length H,.map (some C.heap.size)] 123)) (C.heap.size+1) C.heap.size hs (fun _=>none):=by
   refine⟨?_,by rw[L];rfl,?_⟩
   ·have:=Blk.new (C.alloc (.map #[] 0)) 123 [.map (some B),.string m.name,.string m.type,.bool m.static,.bool m.abs,.bool m.priv,.int .i64 m.locals,.slice E m.code.length F,.slice G m.handlers.length H,.map (some C.heap.size)];rw[World.size_alloc]at this;rw[L];exact this
   ·have:=zaK.made (zk ((C.alloc (.map #[] 0)).alloc (.cells #[.map (some B),.string m.name,.string m.type,.bool m.static,.bool m.abs,.bool m.priv,.int .i64 m.locals,.slice E m.code.length F,.slice G m.handlers.length H,.map (some C.heap.size)] 123))) C;exact this.keep (heap_alloc_old _ _ (by simp)) fun _ _ _ k=>k
  have O:=Xh (Qa HB3 Xl B4);have HM4:=Xh (HM3.out.step B4);generalize ((C.alloc (.map #[] 0)).alloc (.cells #[.map (some B),.string m.name,.string m.type,.bool m.static,.bool m.abs,.bool m.priv,.int .i64 m.locals,.slice E m.code.length F,.slice G m.handlers.length H,.map (some C.heap.size)] 123))=w4 at *;generalize C.heap.size+1=kb at *;generalize C.heap.size=mb at *;have HWk:Hid (Calls _ _ _ w4 _):=Zdt l B ws w4 HM4.out m cls g args A E G F H HG.out aB.out aC.out (z.out.mono O.out (by decide) (fun _ _ h=>h)) (aA.out.mono O.out (by decide) (fun _ _ h=>h)) kb mb hs L (fun _=>none) K4 (fun _=>rfl) Hh.out.1 Hh.out.2.1 Hh.out.2.2;clear m0 m1 m2 m3 m4 m5 m6 m7 hmm K4 B4 L;go_wp2_with fail;go_loopw [38] (fun y wr=>y=.int .i64 0/\w4=wr) (fun _ _=>0)
  case atStart=>exact⟨rfl,rfl⟩
  case round =>
   obtain⟨rfl,rfl⟩:=hrel;go_wp2_with (go_fit (HWk.out);rintro e w5⟨rfl,hB5⟩)
   go_ret;exact⟨Qa O Xl hB5,by rw[U.out];rfl⟩
 ·have U:=Xh M;clear M;go_enter Tryz.func31,Tryz.ntmps31;go_wp2_with (go_fit (J.out);rintro e d⟨D,⟨M,_⟩|⟨_,rfl⟩⟩;(exact absurd M U.out))
  go_ret;exact⟨D.alloc D.size _,by unfold zE;rw[if_neg U.out];rfl⟩
set_option maxRecDepth 512
end Go.Proofs.YtlmfmioljeppfaaGreatDoor
