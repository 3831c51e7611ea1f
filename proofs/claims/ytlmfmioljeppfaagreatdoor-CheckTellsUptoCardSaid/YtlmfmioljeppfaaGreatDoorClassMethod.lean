/- Lemmas; conditions: as each states. -/
import Derived.Test.YtlmfmioljeppfaaGreatDoorFlow
import Derived.Deep.RegionWith
import Derived.Shelf.GgClosure.Gives
set_option maxHeartbeats 4000000
namespace Go.Proofs.YtlmfmioljeppfaaGreatDoor
open Go.RowKit Go.Shelf Go.Lib
theorem Qg.open{α:Type}{w:World}{k:Nat}{R:α->List Value->Prop}{v:Value}{l:List α}(h:Qg w k R v l):
 ∃p cap,v=.slice p l.length cap/\l.length<=cap/\cap<=maxLen/\∀i x,l[i]? = some x->∃b o vs,p=some ⟨b,o,none⟩/\R x vs/\vs.length=k/\qG w b (o+i*k) vs:=by
 rcases h with⟨rfl,rfl⟩|⟨a,cap,h1,h2,h3,h4⟩
 ·exact⟨none,0,rfl,Xl,Nat.zero_le _,fun i x h=>by simp at h⟩
 ·refine⟨some a,cap,h1,h2,h3,fun i x h=>?_⟩;obtain⟨vs,r1,r2,r3,r4⟩:=h4 i x h;exact⟨a.block,a.off,vs,by rw[<-r3],r1,r2,r4⟩
structure zaL (x:Q0):Prop where
 lo:qbz x.lo
 hi:qbz x.hi
 dest:qbz x.dest
 cls:x.cls.size<=1048576
structure z9 (m:Zk):Prop where
 name:m.name.size<=1048576
 type:m.type.size<=1048576
 locals:qbz m.locals
 code:∀x∈m.code,QaK x
 handlers:∀x∈m.handlers,zaL x
def qQ(m:Zk)(cv hv:Value):Value:=.agg #[.string m.name,.string m.type,.bool m.static,.bool m.abs,.bool m.priv,.int .i64 m.locals,cv,hv]
theorem Zce{m:Zk}(h:zm m.type=none):Q3 m=0:=by unfold Q3;rw[h]
theorem QaI{m:Zk}{args:List ByteArray}{g:ByteArray}(h:zm m.type=some (args,g)):Q3 m=if m.static then args.length else args.length+1:=by unfold Q3;rw[h]
theorem zU{s:ByteArray}{args:List ByteArray}{g:ByteArray}(h:zm s=some (args,g)):args.length<=5:=by
 unfold zm QC at h;split at h
 ·rename_i h1;injection h with h;rw[Prod.mk.injEq]at h;rw[<-h.1];exact h1.2.1
 ·simp at h
theorem QdN(m:Zk)(cv hv:Value)(w:World)(hs:m.type.size<=1048576):
 Calls Tryz.prog 201 #[qQ m cv hv] w fun e w'=>e=.returned (.int .i64 (Q3 m))/\Below w.heap.size w w':=by
 have hM:∀w,_:=fun w=>Qan m.type w hs
 obtain⟨name,type,static,abs,priv,locals,code,handlers⟩:=m;unfold qQ;cases hm:zm type with
 |none =>
  rw[Zce hm];replace hM:Hid (∀w,Calls Tryz.prog 132 #[.string type] w (Qar w none)):=fun w=>hm▸hM w
  clear hm;go_enter Tryz.func201,Tryz.ntmps201;go_wp2_with (first|(go_fit (hM.out _);rintro e w2⟨hB,rfl⟩))
  go_ret;exact⟨rfl,Qa (Xb.alloc Xl _) Xl hB⟩
 |some ag =>
  obtain⟨args,g⟩:=ag;have h5:=zU hm;rw[QaI hm];replace hM:Hid (∀w,Calls Tryz.prog 132 #[.string type] w (Qar w (some (args,g)))):=fun w=>hm▸hM w
  clear hm;cases static;all_goals
   go_enter Tryz.func201,Tryz.ntmps201;go_wp2_with (first|(go_fit (hM.out _);rintro e w2⟨hB,v,rfl,hvv⟩;obtain⟨p,cap,rfl,hc1,hc2,_⟩:=hvv.open;obtain⟨hcl,_⟩:=qaC hB;(have q2:=hcl w.heap.size 2 (by simp))))
   go_ret;exact⟨rfl,Qa (Xb.alloc Xl _) Xl hB⟩
set_option maxRecDepth 100000
theorem Qcv(m:Zk)(cv hv:Value)(w:World)(hs:∀x∈m.handlers,zaL x)(hcv:Qg w 6 qy cv m.code)(hhv:Qg w 4 qw hv m.handlers)(v:Value)(hfv:zE (Zm m.handlers m.code.length)=v):
 Calls Tryz.prog 202 #[qQ m cv hv] w fun e w'=>e=.returned v/\Below w.heap.size w w':=by
 obtain⟨name,type,static,abs,priv,locals,code,handlers⟩:=m;unfold qQ;obtain⟨p,cap,rfl,hc1,hc2,hcc⟩:=hcv.open;obtain⟨ph,cah,rfl,hd1,hd2,hdd⟩:=hhv.open;clear hcc hcv hhv;have HD:=Xh hdd;clear hdd;have HS:=Xh hs;clear hs;dsimp only at hfv HD HS hc1 hd1 ⊢;have hlen:handlers.length<=9223372036854775807:=Xf hd1 hd2;have HF:Hid (zE (Zm handlers code.length)=v):=hfv;clear hfv;go_enter Tryz.func202,Tryz.ntmps202;go_wp2_with fail;go_loopw [8] (fun x wr=>∃k,k<=handlers.length/\Hid (Zh (Zs code.length) (handlers.drop k)=Zh (Zs code.length) handlers)/\(Below w.heap.size w wr/\w.heap.size<wr.heap.size/\wr.cell? ⟨w.heap.size,6,none⟩=some (.slice p code.length cap)/\wr.cell? ⟨w.heap.size,7,none⟩=some (.slice ph handlers.length cah))/\x=.int .i64 k) (fun x _=>handlers.length-(intOf x).toNat)
 case atStart=>exact⟨0,by omega,rfl,⟨Xb.alloc Xl _,by simp,by simp,by simp⟩,rfl⟩
 case round =>
  obtain⟨k,hk,hff,⟨hB,hsz,g6,g7⟩,rfl⟩:=hrel;by_cases hkl:k<handlers.length
  ·obtain⟨x,hx⟩:∃x,handlers[k]? = some x:=⟨handlers[k],by simp[hkl]⟩;obtain⟨b,o,vs,rfl,rfl,_,qc⟩:=HD.out k x hx;have qc:=qc.mono hB qc.lt;have hxo:=HS.out x (Xe hx);have Zc:=ZS (Zs code.length) handlers k x hx;rw[hff.out]at Zc;have hN:=fun w=>ZQ x.cls w (Xf hxo.cls (by decide))
   have HX:=Xh hx;clear hx hxo;obtain⟨c0,c1,c2,c3,_⟩:=qc;by_cases hbad:x.lo<0\/x.hi<=x.lo\/(code.length:Int)<x.hi\/x.dest<0\/(code.length:Int)<=x.dest
   ·have h2:Zs code.length x=2:=(by unfold Zs;rw[if_pos hbad]);rw[h2,if_neg (by decide)]at Zc;have hfin:Hid (v=.iface 29 (.int .i64 2)):=by
     unfold Hid;rw[<-HF.out];unfold Zm;rw[Zc,if_pos (by decide)];rfl
    clear h2 Zc hN HF;have HB:=Xh hbad;clear hbad;go_wp2_with fail;all_goals first|(exfalso;have:=HB.out;omega)|skip
    all_goals
     cases hfin.out;go_ret;exact⟨rfl,hB.alloc hB.size _⟩
   ·have h0:Zs code.length x=if Qt (lst x.cls) then 0 else 1:=(by unfold Zs;rw[if_neg hbad]);simp only[not_or,Int.not_lt,Int.not_le]at hbad;obtain⟨b1,b2,b3,b4,b5⟩:=hbad;cases hnb:Qt x.cls.data.toList with
    |true =>
     have hno:Zw x.cls=0:=(by unfold Zw;simp[hnb]);have h0':Zs code.length x=0:=(by rw[h0];simp[lst,hnb]);rw[h0',if_pos rfl]at Zc;rw[hno]at hN;have hst:=Xh Zc.symm;have HN:Hid (∀w,Calls Tryz.prog 97 #[.string x.cls] w fun e w'=>e=.returned .nilIface/\Below w.heap.size w w'):=hN;clear hN h0 h0' hno hnb Zc HF;go_wp2_with (first|(go_fit (HN.out _);rintro e w2⟨rfl,hB2⟩))
     have hBr:=Qa ((Below.refl wr.heap.size wr).alloc Xl (.cells #[.int .i64 x.lo,.int .i64 x.hi,.int .i64 x.dest,.string x.cls] 126)) Xl hB2;exact⟨⟨k+1,by omega,hst.out,⟨Qa hB Xl hBr,Nat.lt_of_lt_of_le hsz hBr.size,(hBr.cell (p:=⟨_,6,none⟩) hsz).trans g6,(hBr.cell (p:=⟨_,7,none⟩) hsz).trans g7⟩,by simp⟩,by simp[intOf];omega⟩
    |false =>
     have hno:Zw x.cls=1:=(by unfold Zw;simp[hnb]);have h0':Zs code.length x=1:=(by rw[h0];simp[lst,hnb]);rw[h0',if_neg (by decide)]at Zc;rw[hno]at hN;have hfin:Hid (v=.iface 29 (.int .i64 1)):=by
      unfold Hid;rw[<-HF.out];unfold Zm;rw[Zc,if_pos (by decide)];rfl
     have HN:Hid (∀w,Calls Tryz.prog 97 #[.string x.cls] w fun e w'=>e=.returned (.iface 29 (.int .i64 1))/\Below w.heap.size w w'):=hN;clear hN h0 h0' hno hnb Zc HF;go_wp2_with (first|(go_fit (HN.out _);rintro e w2⟨rfl,hB2⟩))
     cases hfin.out;go_ret;exact⟨rfl,Qa (hB.alloc hB.size _) Xl hB2⟩
  ·have hff0:Hid (Zh (Zs code.length) handlers=0):=by
    rw[<-hff.out,Xg (by omega)];rfl
   clear hff;obtain rfl:k=handlers.length:=(by omega);by_cases h8:8<handlers.length
   ·have hfin:Hid (v=.iface 29 (.int .i64 4)):=by
     unfold Hid;rw[<-HF.out];unfold Zm;rw[hff0.out,if_neg (by decide),if_pos h8];rfl
    clear HF hff0;go_wp2_with fail;all_goals first|(exfalso;omega)|skip
    cases hfin.out;go_ret;exact⟨rfl,hB⟩
   ·have hfin:Hid (v=.nilIface):=by
     unfold Hid;rw[<-HF.out];unfold Zm;rw[hff0.out,if_neg (by decide),if_neg h8];rfl
    clear HF hff0;go_wp2_with fail;all_goals first|(exfalso;omega)|skip
    cases hfin.out;go_ret;exact⟨rfl,hB⟩
theorem zdO(m:Zk)(cv hv:Value)(w:World)(hcv:Qg w 6 qy cv m.code)(hhv:Qg w 4 qw hv m.handlers)(ha:m.abs=true)(v:Value)(hfv:zE (zY m)=v):
 Calls Tryz.prog 171 #[qQ m cv hv] w fun e w'=>e=.returned v/\Below w.heap.size w w':=by
 obtain⟨name,type,static,abs,priv,locals,code,handlers⟩:=m;unfold qQ;obtain⟨p,cap,rfl,hc1,hc2,_⟩:=hcv.open;obtain⟨ph,cah,rfl,hd1,hd2,_⟩:=hhv.open;clear hcv hhv;dsimp only at ha hfv hc1 hd1 ⊢;subst ha;have HF:Hid (zE (if (static||priv||!code.isEmpty||!handlers.isEmpty)=true then 8 else 0)=v):=by
  unfold Hid;rw[<-hfv];unfold zY;rfl
 clear hfv;go_enter Tryz.func171,Tryz.ntmps171;cases static with
 |true =>
  have hfin:Hid (v=.iface 29 (.int .i64 8)):=by rw[<-HF.out];rfl
  go_wp2_with fail;cases hfin.out;go_ret;exact⟨rfl,Xb.alloc Xl _⟩
 |false =>
  cases priv with
  |true =>
   have hfin:Hid (v=.iface 29 (.int .i64 8)):=(by rw[<-HF.out];rfl);go_wp2_with fail;cases hfin.out;go_ret;exact⟨rfl,Xb.alloc Xl _⟩
  |false =>
   cases code with
   |cons y r =>
    have hfin:Hid (v=.iface 29 (.int .i64 8)):=(by rw[<-HF.out];rfl);have hl:0<(y::r).length:=(by simp);generalize (y::r).length=n at hl hc1;go_wp2_with fail;all_goals first|(exfalso;omega)|skip
    cases hfin.out;go_ret;exact⟨rfl,Xb.alloc Xl _⟩
   |nil =>
    cases handlers with
    |cons y r =>
     have hfin:Hid (v=.iface 29 (.int .i64 8)):=(by rw[<-HF.out];rfl);have hl:0<(y::r).length:=(by simp);generalize (y::r).length=n at hl hd1;go_wp2_with fail;all_goals first|(exfalso;omega)|skip
     cases hfin.out;go_ret;exact⟨rfl,Xb.alloc Xl _⟩
    |nil =>
     have hfin:Hid (v=.nilIface):=(by rw[<-HF.out];rfl);go_wp2_with fail;cases hfin.out;go_ret;exact⟨rfl,Xb.alloc Xl _⟩
set_option maxRecDepth 512
structure zB (w wx:World) (vals:List Value):Prop where
 below:Below w.heap.size w wx
 size:w.heap.size<wx.heap.size
 cells:qG wx w.heap.size 0 vals
theorem zB.step{w wx wy:World}{vals:List Value}(h:zB w wx vals)(hb:Below wx.heap.size wx wy):zB w wy vals :=
 ⟨Qa h.below Xl hb,Nat.lt_of_lt_of_le h.size hb.size,h.cells.mono hb h.size⟩
theorem zB.drew{w wx:World}{vals:List Value}(h:zB w wx vals):zB w wx.drew vals:=h.step (Xb.drew)
theorem zB.alloc{w wx:World}{vals:List Value}(h:zB w wx vals)(o:Obj):zB w (wx.alloc o) vals:=h.step (Xb.alloc Xl o)
theorem qah{w wx:World}{a0 a1 a2 a3 a4 a5 a6 a7:Value}(h:zB w wx [a0,a1,a2,a3,a4,a5,a6,a7]):
 wx.cell? ⟨w.heap.size,0,none⟩=some a0/\wx.cell? ⟨w.heap.size,1,none⟩=some a1/\wx.cell? ⟨w.heap.size,2,none⟩=some a2/\wx.cell? ⟨w.heap.size,3,none⟩=some a3 /\
 wx.cell? ⟨w.heap.size,4,none⟩=some a4/\wx.cell? ⟨w.heap.size,5,none⟩=some a5/\wx.cell? ⟨w.heap.size,6,none⟩=some a6/\wx.cell? ⟨w.heap.size,7,none⟩=some a7:=by
 obtain⟨c0,c1,c2,c3,c4,c5,c6,c7,_⟩:=h.cells;exact⟨c0,c1,c2,c3,c4,c5,c6,c7⟩
set_option maxRecDepth 100000
theorem zdr(m:Zk)(cv hv:Value)(w:World)(hl:Qaw w)(ho:z9 m)(hcv:Qg w 6 qy cv m.code)(hhv:Qg w 4 qw hv m.handlers)(ha:m.abs=false)(v:Value)(hfv:zE (zY m)=v):
 Calls Tryz.prog 171 #[qQ m cv hv] w fun e w'=>e=.returned v/\Below w.heap.size w w':=by
 have HFl:Hid (∀wx,Below w.heap.size w wx->_):=fun wx hb=>qce m.code cv wx (hl.mono hb hl.1) ho.code (hcv.mono hb (by decide) (fun _ _ h=>h))
 have HHa:Hid (∀wx,Below w.heap.size w wx->_):=fun wx hb=>Qcv m cv hv wx ho.handlers (hcv.mono hb (by decide) (fun _ _ h=>h)) (hhv.mono hb (by decide) (fun _ _ h=>h)) _ rfl
 have HAr:Hid (∀wx,_):=fun wx=>QdN m cv hv wx ho.type
 obtain⟨p,cap,rfl,hc1,hc2,hcc⟩:=hcv.open;have HC:=Xh hcc;clear hcc;have hbf:Hid (v=zE (if qp m.code≠0 then qp m.code
  else if m.locals<Q3 m then 2 else if m.code.any fun x=>(x.op==4||x.op==5)&&decide (m.locals<=x.a) then 2 else Zm m.handlers m.code.length)):=by
  unfold Hid;rw[<-hfv];unfold zY;rw[if_neg (by simp[ha])]
 clear hcv hfv hl;unfold qQ at *;obtain⟨name,type,static,abs,priv,locals,code,handlers⟩:=m;clear ho;dsimp only at *;subst ha;generalize Q3 _=ac at *;rcases QI (qp code) with⟨hv1,hz⟩|⟨hv1,hz⟩
 ·rw[hz,if_neg (by decide)]at hbf;rw[hv1]at HFl;clear hv1 hz;go_enter Tryz.func171,Tryz.ntmps171;go_upto_region 8 with(go_fit (HFl.out _ (Xb.alloc Xl _));rintro e w2⟨rfl,hB⟩)
  have BX:zB w w2 [.string name,.string type,.bool static,.bool false,.bool priv,.int .i64 locals,.slice p code.length cap,hv]:=⟨Qa (Xb.alloc Xl _) Xl hB,Nat.lt_of_lt_of_le (by simp) hB.size,qG.mono hB (by simp) (by simp[qG])⟩;obtain⟨q0,q1,q2,q3,q4,q5,q6,q7⟩:=qah BX;clear hB;go_cut [37] (fun s wx=>s=.bool (decide (locals<(ac:Int)))/\zB w wx [.string name,.string type,.bool static,.bool false,.bool priv,.int .i64 locals,.slice p code.length cap,hv])
  case first =>
   go_region_with (go_fit (HAr.out _);rintro e w3⟨rfl,hB3⟩;(have BX3:=BX.step (Qa Xb.drew Xl hB3));obtain⟨r0,r1,r2,r3,r4,r5,r6,r7⟩:=qah BX3)
   all_goals
    go_wp2
    go_meet;exact⟨rfl,BX3⟩
  case rest =>
   obtain⟨rfl,BX⟩:=hcut;clear q0 q1 q2 q3 q4 q5 q6 q7;obtain⟨q0,q1,q2,q3,q4,q5,q6,q7⟩:=qah BX;by_cases hlo:locals<(ac:Int)
   ·rw[if_pos hlo]at hbf;have hd:decide (locals<(ac:Int))=true:=(by simpa using hlo);cases hbf.out;rw[hd];clear hlo hd HC HHa HFl HAr;go_wp2_with fail;go_ret;exact⟨rfl,BX.below⟩
   ·rw[if_neg hlo]at hbf;have hd:decide (locals<(ac:Int))=false:=(by simpa using hlo);rw[hd];clear hlo hd HFl HAr;go_wp2_with fail;go_loopw [42] (fun x wr=>∃k,k<=code.length/\Hid (((code.drop k).any fun x=>(x.op==4||x.op==5)&&decide (locals<=x.a))=(code.any fun x=>(x.op==4||x.op==5)&&decide (locals<=x.a)))/\zB w wr [.string name,.string type,.bool static,.bool false,.bool priv,.int .i64 locals,.slice p code.length cap,hv]/\x=.int .i64 k) (fun x _=>code.length-(intOf x).toNat)
    case atStart=>exact⟨0,by omega,rfl,BX,rfl⟩
    case round =>
     obtain⟨k,hk,hff,BX,rfl⟩:=hrel;clear q0 q1 q2 q3 q4 q5 q6 q7;obtain⟨q0,q1,q2,q3,q4,q5,q6,q7⟩:=qah BX;have hsz:=BX.size;have hlen:code.length<=9223372036854775807:=Xf hc1 hc2;by_cases hkl:k<code.length
     ·obtain⟨x,hx⟩:∃x,code[k]? = some x:=⟨code[k],by simp[hkl]⟩;obtain⟨b,o,vs,rfl,rfl,_,qc⟩:=HC.out k x hx;have qc:=qc.mono BX.below qc.lt;have Zc:=qai (fun x=>(x.op==4||x.op==5)&&decide (locals<=x.a)) code k x hx;rw[hff.out]at Zc;have HX:=Xh hx;clear hx;obtain⟨c0,c1,c2,c3,c4,c5,_⟩:=qc;obtain⟨k4,h4⟩:∃k,(x.op==4)=k:=⟨_,rfl⟩;obtain⟨k5,h5⟩:∃k,(x.op==5)=k:=⟨_,rfl⟩;obtain⟨ka,ha⟩:∃k,decide (locals<=x.a)=k:=⟨_,rfl⟩;rw[h4,h5,ha]at Zc;cases hls:(k4||k5)&&ka with
      |true =>
       rw[hls,Bool.true_or]at Zc;have hfin:Hid (v=.iface 29 (.int .i64 2)):=(by rw[hbf.out,if_pos Zc];rfl);have HL:=Xh hls;clear hls Zc hbf HHa;cases k4<;>cases k5<;>cases ka<;>try (exact absurd HL.out (by decide))
       all_goals
        clear HL;go_wp2_with fail;cases hfin.out;go_ret;exact⟨rfl,(BX.alloc _).below⟩
      |false =>
       rw[hls,Bool.false_or]at Zc;have HL:=Xh hls;have hst:=Xh Zc.symm;clear hls Zc hbf HHa;cases k4<;>cases k5<;>cases ka<;>try (exact absurd HL.out (by decide))
       all_goals
        clear HL;go_wp2_with fail;exact⟨⟨k+1,by omega,hst.out,BX.alloc _,by simp⟩,by simp[intOf];omega⟩
     ·have hno:Hid ((code.any fun x=>(x.op==4||x.op==5)&&decide (locals<=x.a))=false):=by
       rw[<-hff.out,Xg (by omega)];rfl
      clear hff;obtain rfl:k=code.length:=(by omega);have hfin:Hid (v=zE (Zm handlers code.length)):=(by rw[hbf.out,if_neg (by rw[hno.out];decide)];rfl);clear hno hbf;rw[<-hfin.out]at HHa;go_wp2_with (go_fit (HHa.out _ BX.below);rintro e w2⟨rfl,hB⟩)
      go_ret;exact⟨rfl,Qa BX.below Xl hB⟩
 ·rw[if_pos hz,hv1]at hbf;rw[hv1]at HFl;generalize qp code=cf at *;clear hv1 hz HAr HHa;go_enter Tryz.func171,Tryz.ntmps171;go_wp2_with (go_fit (HFl.out _ (Xb.alloc Xl _));rintro e w2⟨rfl,hB⟩)
  cases hbf.out;go_ret;exact⟨rfl,Qa (Xb.alloc Xl _) Xl hB⟩
set_option maxRecDepth 512
theorem ZdO(m:Zk)(cv hv:Value)(w:World)(hl:Qaw w)(ho:z9 m)(hcv:Qg w 6 qy cv m.code)(hhv:Qg w 4 qw hv m.handlers):
 Calls Tryz.prog 171 #[qQ m cv hv] w fun e w'=>e=.returned (zE (zY m))/\Below w.heap.size w w':=by
 cases ha:m.abs with
 |true=>exact zdO m cv hv w hcv hhv ha _ rfl
 |false=>exact zdr m cv hv w hl ho hcv hhv ha _ rfl
def QbQ{α:Type}(f:α->Bool)(l:List α):Int:=match l.findIdx? f with|some i=>i|none=>-1
theorem QbX{α:Type}{f:α->Bool}{l:List α}{k:Nat}{x:α}(h:l[k]? = some x)(hf:f x=true)(hn:∀j y,j<k->l[j]? = some y->f y=false):QbQ f l=k:=by
 obtain⟨hk,rfl⟩:=List.getElem?_eq_some_iff.1 h;unfold QbQ;have:l.findIdx? f=some k:=by
  rw[List.findIdx?_eq_some_iff_getElem];exact⟨hk,hf,fun j hj=>by simp[hn j _ hj (Xn (by omega))]⟩
 rw[this]
theorem ZbD{α:Type}{f:α->Bool}{l:List α}(hn:∀j y,j<l.length->l[j]? = some y->f y=false):QbQ f l = -1:=by
 unfold QbQ;have:l.findIdx? f=none:=by
  rw[List.findIdx?_eq_none_iff];intro x hx;obtain⟨j,hj,rfl⟩:=List.getElem_of_mem hx;exact hn j _ hj (Xn hj)
 rw[this]
theorem zbY{α:Type}(f:α->Bool)(l:List α):decide (0<=QbQ f l)=l.any f:=by
 unfold QbQ;cases h:l.findIdx? f with
 |none =>
  rw[List.findIdx?_eq_none_iff]at h;have:l.any f=false:=by rw[List.any_eq_false];intro x hx;simp[h x hx]
  rw[this];rfl
 |some i =>
  rw[List.findIdx?_eq_some_iff_getElem]at h;obtain⟨hi,hf,_⟩:=h;have:l.any f=true:=by rw[List.any_eq_true];exact⟨_,List.getElem_mem hi,hf⟩
  rw[this];simp
theorem ZbY{α:Type}(R:α->List Value->Prop)(f:α->Bool)(g:Nat)(lb:Array Value)(eg:∀args w,(callFunc g args).run Tryz.prog w=.ok (.enter g args) w)(l:List α)(v:Value)(w:World)(h:Qg w 8 R v l)(hp:∀W x a0 a1 a2 a3 a4 a5 a6 a7,x∈l->R x [a0,a1,a2,a3,a4,a5,a6,a7]->Below w.heap.size w W->Calls Tryz.prog g (#[.agg #[a0,a1,a2,a3,a4,a5,a6,a7]]++lb) W fun e w'=>e=.returned (.bool (f x))/\Below W.heap.size W w'):
 Calls Tryz.prog 199 #[v,.func (.func g) #[] lb] w fun e w'=>e=.returned (.int .i64 (QbQ f l))/\Below w.heap.size w w':=by
 obtain⟨p,cap,rfl,h1,h2,hcc⟩:=h.open;have HC:=Xh hcc;clear hcc h;have HP:=Xh hp;clear hp;have hlen:l.length<=9223372036854775807:=Xf h1 h2;go_enter Tryz.func199,Tryz.ntmps199;go_wp2_with fail;go_loopw [5,8] (fun _ x wr=>∃k,k<=l.length/\Hid (∀j y,j<k->l[j]? = some y->f y=false)/\Below w.heap.size w wr/\x=.int .i64 k) (fun _ x _=>l.length-(intOf x).toNat)
 case atStart=>exact⟨0,by omega,fun j y h=>by omega,Xb,rfl⟩
 case round =>
  obtain⟨k,hk,hff,hB,rfl⟩:=hrel;by_cases hkl:k<l.length
  ·obtain⟨x,hx⟩:∃x,l[k]? = some x:=⟨l[k],by simp[hkl]⟩;obtain⟨b,o,vs,rfl,hR,hvl,qc⟩:=HC.out k x hx;have qc:=qc.mono hB (by match vs,hvl with|_::_,_=>exact qc.lt);match vs,hvl with
   |[a0,a1,a2,a3,a4,a5,a6,a7],_ =>
   have hcall:=HP.out wr x a0 a1 a2 a3 a4 a5 a6 a7 (Xe hx) hR hB;have HX:=Xh hx;clear hx hR;obtain⟨c0,c1,c2,c3,c4,c5,c6,c7,_⟩:=qc;cases hq:f x with
   |true =>
    rw[hq]at hcall;have HQ:=Xh hq;clear hq HP HC;go_wp2_with (go_at_fn g;refine hcall.mono ?_;rintro e w'⟨rfl,hb'⟩)
    go_ret;exact⟨by rw[QbX HX.out HQ.out hff.out];rfl,Qa hB Xl hb'⟩
   |false =>
    rw[hq]at hcall;have HQ:=Xh hq;clear hq HP HC;go_wp2_with (go_at_fn g;refine hcall.mono ?_;rintro e w'⟨rfl,hb'⟩)
    refine⟨⟨k+1,by omega,fun j y hj hy=>?_,Qa hB Xl hb',by simp⟩,by simp[intOf];omega⟩;by_cases e:j=k
    ·subst e;have:=HX.out;rw[hy]at this;injection this with this;rw[this];exact HQ.out
    ·exact hff.out j y (by omega) hy
  ·obtain rfl:k=l.length:=(by omega);go_wp2_with fail;go_ret;exact⟨by rw[ZbD hff.out];rfl,hB⟩
theorem qbY{α:Type}(R:α->List Value->Prop)(f:α->Bool)(g:Nat)(lb:Array Value)(eg:∀args w,(callFunc g args).run Tryz.prog w=.ok (.enter g args) w)(l:List α)(v:Value)(w:World)(h:Qg w 8 R v l)(hp:∀W x a0 a1 a2 a3 a4 a5 a6 a7,x∈l->R x [a0,a1,a2,a3,a4,a5,a6,a7]->Below w.heap.size w W->Calls Tryz.prog g (#[.agg #[a0,a1,a2,a3,a4,a5,a6,a7]]++lb) W fun e w'=>e=.returned (.bool (f x))/\Below W.heap.size W w'):
 Calls Tryz.prog 169 #[v,.func (.func g) #[] lb] w fun e w'=>e=.returned (.bool (l.any f))/\Below w.heap.size w w':=by
 rw[<-zbY];have HI:=Xh (ZbY R f g lb eg l v w h hp);obtain⟨p,cap,rfl,h1,h2,_⟩:=h.open;clear hp h;generalize QbQ f l=r at *;go_enter Tryz.func169,Tryz.ntmps169;go_wp2_with (go_at_call 199;refine HI.out.mono ?_;rintro e w'⟨rfl,hb'⟩)
 go_ret;exact⟨rfl,hb'⟩
theorem Qce{α:Type}(R:α->List Value->Prop)(f:α->Bool)(g:Nat)(lb:Array Value)(eg:∀args w,(callFunc g args).run Tryz.prog w=.ok (.enter g args) w)(l:List α)(v:Value)(w:World)(h:Qg w 2 R v l)(hp:∀W x a0 a1,x∈l->R x [a0,a1]->Below w.heap.size w W->Calls Tryz.prog g (#[.agg #[a0,a1]]++lb) W fun e w'=>e=.returned (.bool (f x))/\Below W.heap.size W w'):
 Calls Tryz.prog 168 #[v,.func (.func g) #[] lb] w fun e w'=>e=.returned (.int .i64 (QbQ f l))/\Below w.heap.size w w':=by
 obtain⟨p,cap,rfl,h1,h2,hcc⟩:=h.open;have HC:=Xh hcc;clear hcc h;have HP:=Xh hp;clear hp;have hlen:l.length<=9223372036854775807:=Xf h1 h2;go_enter Tryz.func168,Tryz.ntmps168;go_wp2_with fail;go_loopw [5,8] (fun _ x wr=>∃k,k<=l.length/\Hid (∀j y,j<k->l[j]? = some y->f y=false)/\Below w.heap.size w wr/\x=.int .i64 k) (fun _ x _=>l.length-(intOf x).toNat)
 case atStart=>exact⟨0,by omega,fun j y h=>by omega,Xb,rfl⟩
 case round =>
  obtain⟨k,hk,hff,hB,rfl⟩:=hrel;by_cases hkl:k<l.length
  ·obtain⟨x,hx⟩:∃x,l[k]? = some x:=⟨l[k],by simp[hkl]⟩;obtain⟨b,o,vs,rfl,hR,hvl,qc⟩:=HC.out k x hx;have qc:=qc.mono hB (by match vs,hvl with|_::_,_=>exact qc.lt);match vs,hvl with
   |[a0,a1],_ =>
   have hcall:=HP.out wr x a0 a1 (Xe hx) hR hB;have HX:=Xh hx;clear hx hR;obtain⟨c0,c1,_⟩:=qc;cases hq:f x with
   |true =>
    rw[hq]at hcall;have HQ:=Xh hq;clear hq HP HC;go_wp2_with (go_at_fn g;refine hcall.mono ?_;rintro e w'⟨rfl,hb'⟩)
    go_ret;exact⟨by rw[QbX HX.out HQ.out hff.out];rfl,Qa hB Xl hb'⟩
   |false =>
    rw[hq]at hcall;have HQ:=Xh hq;clear hq HP HC;go_wp2_with (go_at_fn g;refine hcall.mono ?_;rintro e w'⟨rfl,hb'⟩)
    refine⟨⟨k+1,by omega,fun j y hj hy=>?_,Qa hB Xl hb',by simp⟩,by simp[intOf];omega⟩;by_cases e:j=k
    ·subst e;have:=HX.out;rw[hy]at this;injection this with this;rw[this];exact HQ.out
    ·exact hff.out j y (by omega) hy
  ·obtain rfl:k=l.length:=(by omega);go_wp2_with fail;go_ret;exact⟨by rw[ZbD hff.out];rfl,hB⟩
theorem zce{α:Type}(R:α->List Value->Prop)(f:α->Bool)(g:Nat)(lb:Array Value)(eg:∀args w,(callFunc g args).run Tryz.prog w=.ok (.enter g args) w)(l:List α)(v:Value)(w:World)(h:Qg w 2 R v l)(hp:∀W x a0 a1,x∈l->R x [a0,a1]->Below w.heap.size w W->Calls Tryz.prog g (#[.agg #[a0,a1]]++lb) W fun e w'=>e=.returned (.bool (f x))/\Below W.heap.size W w'):
 Calls Tryz.prog 120 #[v,.func (.func g) #[] lb] w fun e w'=>e=.returned (.bool (l.any f))/\Below w.heap.size w w':=by
 rw[<-zbY];have HI:=Xh (Qce R f g lb eg l v w h hp);obtain⟨p,cap,rfl,h1,h2,_⟩:=h.open;clear hp h;generalize QbQ f l=r at *;go_enter Tryz.func120,Tryz.ntmps120;go_wp2_with (go_at_call 168;refine HI.out.mono ?_;rintro e w'⟨rfl,hb'⟩)
 go_ret;exact⟨rfl,hb'⟩
theorem QbY{α:Type}(R:α->List Value->Prop)(f:α->Bool)(g:Nat)(lb:Array Value)(eg:∀args w,(callFunc g args).run Tryz.prog w=.ok (.enter g args) w)(l:List α)(v:Value)(w:World)(h:Qg w 1 R v l)(hp:∀W x a0,x∈l->R x [a0]->Below w.heap.size w W->Calls Tryz.prog g (#[a0]++lb) W fun e w'=>e=.returned (.bool (f x))/\Below W.heap.size W w'):
 Calls Tryz.prog 172 #[v,.func (.func g) #[] lb] w fun e w'=>e=.returned (.int .i64 (QbQ f l))/\Below w.heap.size w w':=by
 obtain⟨p,cap,rfl,h1,h2,hcc⟩:=h.open;have HC:=Xh hcc;clear hcc h;have HP:=Xh hp;clear hp;have hlen:l.length<=9223372036854775807:=Xf h1 h2;go_enter Tryz.func172,Tryz.ntmps172;go_wp2_with fail;go_loopw [5,8] (fun _ x wr=>∃k,k<=l.length/\Hid (∀j y,j<k->l[j]? = some y->f y=false)/\Below w.heap.size w wr/\x=.int .i64 k) (fun _ x _=>l.length-(intOf x).toNat)
 case atStart=>exact⟨0,by omega,fun j y h=>by omega,Xb,rfl⟩
 case round =>
  obtain⟨k,hk,hff,hB,rfl⟩:=hrel;by_cases hkl:k<l.length
  ·obtain⟨x,hx⟩:∃x,l[k]? = some x:=⟨l[k],by simp[hkl]⟩;obtain⟨b,o,vs,rfl,hR,hvl,qc⟩:=HC.out k x hx;have qc:=qc.mono hB (by match vs,hvl with|_::_,_=>exact qc.lt);match vs,hvl with
   |[a0],_ =>
   have hcall:=HP.out wr x a0 (Xe hx) hR hB;have HX:=Xh hx;clear hx hR;obtain⟨c0,_⟩:=qc;rw[Nat.mul_one]at c0;cases hq:f x with
   |true =>
    rw[hq]at hcall;have HQ:=Xh hq;clear hq HP HC;go_wp2_with (go_at_fn g;refine hcall.mono ?_;rintro e w'⟨rfl,hb'⟩)
    go_ret;exact⟨by rw[QbX HX.out HQ.out hff.out];rfl,Qa hB Xl hb'⟩
   |false =>
    rw[hq]at hcall;have HQ:=Xh hq;clear hq HP HC;go_wp2_with (go_at_fn g;refine hcall.mono ?_;rintro e w'⟨rfl,hb'⟩)
    refine⟨⟨k+1,by omega,fun j y hj hy=>?_,Qa hB Xl hb',by simp⟩,by simp[intOf];omega⟩;by_cases e:j=k
    ·subst e;have:=HX.out;rw[hy]at this;injection this with this;rw[this];exact HQ.out
    ·exact hff.out j y (by omega) hy
  ·obtain rfl:k=l.length:=(by omega);go_wp2_with fail;go_ret;exact⟨by rw[ZbD hff.out];rfl,hB⟩
theorem zbZ{α:Type}(R:α->List Value->Prop)(f:α->Bool)(g:Nat)(lb:Array Value)(eg:∀args w,(callFunc g args).run Tryz.prog w=.ok (.enter g args) w)(l:List α)(v:Value)(w:World)(h:Qg w 1 R v l)(hp:∀W x a0,x∈l->R x [a0]->Below w.heap.size w W->Calls Tryz.prog g (#[a0]++lb) W fun e w'=>e=.returned (.bool (f x))/\Below W.heap.size W w'):
 Calls Tryz.prog 124 #[v,.func (.func g) #[] lb] w fun e w'=>e=.returned (.bool (l.any f))/\Below w.heap.size w w':=by
 rw[<-zbY];have HI:=Xh (QbY R f g lb eg l v w h hp);obtain⟨p,cap,rfl,h1,h2,_⟩:=h.open;clear hp h;generalize QbQ f l=r at *;go_enter Tryz.func124,Tryz.ntmps124;go_wp2_with (go_at_call 172;refine HI.out.mono ?_;rintro e w'⟨rfl,hb'⟩)
 go_ret;exact⟨rfl,hb'⟩
theorem Z5(a b:ByteArray):(a.toList==b.toList)=decide (a=b):=by
 rw[Bool.eq_iff_iff];simp only[beq_iff_eq,decide_eq_true_eq,ByteArray.toList_eq];constructor
 ·intro h;exact ByteArray.ext (Array.toList_inj.1 h)
 ·rintro rfl;rfl
theorem qan(l:List ByteArray)(v:Value)(x:ByteArray)(w:World)(h:Qh w v l):Calls Tryz.prog 119 #[v,.string x] w fun e w'=>e=.returned (.bool (ZL l x))/\w=w':=by
 obtain⟨p,cap,rfl,h1,h2,hcc⟩:=h.open;cases l with
 |nil=>exact(Tryz.slices_Contains_string_empty p cap x w).mono fun e w' ⟨h1,h2⟩=>⟨h1,h2.symm⟩
 |cons y r =>
  obtain⟨b,o,_,rfl,_⟩:=hcc 0 y rfl;refine(Tryz.slices_Contains_string b o _ cap (y::r) x w Xl (Xf h1 h2) ?_).mono ?_
  ·intro j hj;obtain⟨b',o',vs,hp,hR,_,qc⟩:=hcc j (y::r)[j] (by simp);injection hp with hp;injection hp with hp1 hp2;subst hp1 hp2
   unfold zr at hR;subst hR;rw[List.getD_eq_getElem?_getD,Xn hj];have:=qc.1;rwa [Nat.mul_one]at this
  ·rintro e w'⟨rfl,rfl⟩;refine⟨?_,rfl⟩;congr 2;rw[List.take_length,Bool.eq_iff_iff,qx,Lib.containsS_iff]
theorem Qg.take{α:Type}{w:World}{k:Nat}{R:α->List Value->Prop}{p:Option Addr}{n cap:Nat}{l:List α}(h:Qg w k R (.slice p n cap) l)(hn:n=l.length){i:Nat}{b o:Nat}(hp:p=some ⟨b,o,none⟩)(hi:i<=l.length):
 Qg w k R (.slice p i cap) (l.take i):=by
 subst hp hn;rcases h with⟨h,_⟩|⟨a,cap',h1,h2,h3,h4⟩
 ·simp at h
 ·injection h1 with ha hb hc
  injection ha with ha
  subst ha hc;refine Or.inr ⟨_,cap,by rw[List.length_take,Nat.min_eq_left hi],by rw[List.length_take];omega,h3,fun j x hj=>h4 j x ?_⟩;rw[List.getElem?_take]at hj;split at hj
  ·exact hj
  ·simp at hj
theorem ZcH(x:Zk)(cv hv:Value)(mn mt:ByteArray)(B:Nat)(w:World)(hB:B<w.heap.size)(h0:w.cell? ⟨B,0,none⟩=some (.string mn))(h1:w.cell? ⟨B,1,none⟩=some (.string mt)):
 Calls Tryz.prog 170 #[qQ x cv hv,.pointer (some ⟨B,0,none⟩)] w fun e w'=>e=.returned (.bool (decide (x.name=mn)&&decide (x.type=mt)))/\Below w.heap.size w w':=by
 obtain⟨name,type,static,abs,priv,locals,code,handlers⟩:=x;unfold qQ;dsimp only;rw[<-Z5,<-Z5];cases h0:name.toList==mn.toList<;>cases h1:type.toList==mt.toList
 all_goals
  go_enter Tryz.func170,Tryz.ntmps170;go_wp2
  go_ret;exact⟨rfl,Xb.alloc Xl _⟩
theorem zc2(x:qag)(fn:ByteArray)(B:Nat)(w:World)(hB:B<w.heap.size)(h0:w.cell? ⟨B,0,none⟩=some (.string fn)):
 Calls Tryz.prog 121 #[.agg #[.string x.name,.string x.type],.pointer (some ⟨B,0,none⟩)] w fun e w'=>e=.returned (.bool (decide (x.name=fn)))/\Below w.heap.size w w':=by
 obtain⟨name,type⟩:=x;dsimp only;rw[<-Z5];cases h0:name.toList==fn.toList;all_goals
  go_enter Tryz.func121,Tryz.ntmps121;go_wp2
  go_ret;exact⟨rfl,Xb.alloc Xl _⟩
set_option maxRecDepth 100000
theorem Zc2(m:Zk)(cv hv:Value)(ahead:List Zk)(av:Value)(w:World)(hl:Qaw w)(ho:z9 m)(hcv:Qg w 6 qy cv m.code)(hhv:Qg w 4 qw hv m.handlers)(hav:Qg w 8 (Zr w) av ahead)(v:Value)(hfv:zE (qq m ahead)=v):
 Calls Tryz.prog 122 #[qQ m cv hv,av] w fun e w'=>e=.returned v/\Below w.heap.size w w':=by
 have HNa:Hid (∀wx,_):=fun wx=>ZQ m.name wx (Xf ho.name (by decide))
 have HMe:Hid (∀wx,_):=fun wx=>Qan m.type wx ho.type
 have HBo:Hid (∀wx,Below w.heap.size w wx->_):=fun wx hb=>ZdO m cv hv wx (hl.mono hb hl.1) ho (hcv.mono hb (by decide) (fun _ _ h=>h)) (hhv.mono hb (by decide) (fun _ _ h=>h))
 have HAn:Hid (∀wx,Below w.heap.size w wx->w.heap.size<wx.heap.size->wx.cell? ⟨w.heap.size,0,none⟩=some (.string m.name)->wx.cell? ⟨w.heap.size,1,none⟩=some (.string m.type)->Calls Tryz.prog 169 #[av,.func (.func 170) #[] #[.pointer (some ⟨w.heap.size,0,none⟩)]] wx fun e w'=>e=.returned (.bool (ahead.any fun x=>decide (x.name=m.name)&&decide (x.type=m.type)))/\Below wx.heap.size wx w'):=by
  intro wx hb hs h0 h1;refine qbY (Zr wx) (fun x=>decide (x.name=m.name)&&decide (x.type=m.type)) 170 _ (enters_of Tryz.func170 (by kernel_rfl) rfl) ahead av wx (hav.mono hb (by decide) (fun _ _ h=>h.mono hb)) ?_;rintro W x a0 a1 a2 a3 a4 a5 a6 a7 hx⟨c,h,hh,_,_⟩hW;simp only[List.cons.injEq]at hh;obtain⟨rfl,rfl,rfl,rfl,rfl,rfl,rfl,rfl,_⟩:=hh;show Calls Tryz.prog 170 #[qQ x a6 a7,.pointer (some ⟨w.heap.size,0,none⟩)] W _
  exact ZcH x a6 a7 _ _ _ W (Nat.lt_of_lt_of_le hs hW.size) ((hW.cell (p:=⟨_,0,none⟩) hs).trans h0) ((hW.cell (p:=⟨_,1,none⟩) hs).trans h1)
 have hmf:∀fn first cap w,(Instr.makeFunc fn first cap).run Tryz.prog w=.ok (.func fn first cap) w:=fun _ _ _ _=>rfl
 have HF:Hid (v=zE (if !Qt (lst m.name) then 1 else if (zm m.type).isNone then 1 else if ahead.any fun x=>decide (x.name=m.name)&&decide (x.type=m.type) then 5 else if m.locals<0\/8<m.locals then 2 else zY m)):=hfv.symm;generalize (ahead.any fun x=>decide (x.name=m.name)&&decide (x.type=m.type))=tw at *;clear hfv hl ho hcv hhv hav;unfold qQ at *;generalize zY m=bf at *;obtain⟨name,type,static,abs,priv,locals,code,handlers⟩:=m;dsimp only at *;cases hn:Qt name.data.toList with
 |false =>
  have hfin:Hid (v=.iface 29 (.int .i64 1)):=by rw[HF.out];simp[lst,hn,zE,Hid]
  have hno:zE (Zw name)=.iface 29 (.int .i64 1):=by unfold Zw;simp[hn,zE]
  rw[hno]at HNa;clear HF hn hno HMe HBo HAn;go_enter Tryz.func122,Tryz.ntmps122;go_wp2_with (go_fit (HNa.out _);rintro e w2⟨rfl,hB⟩)
  cases hfin.out;go_ret;exact⟨rfl,Qa (Xb.alloc Xl _) Xl hB⟩
 |true =>
  have hno:zE (Zw name)=.nilIface:=by unfold Zw;simp[hn,zE]
  rw[hno]at HNa;rw[show Qt (lst name)=true from hn]at HF;clear hn hno;cases hm:zm type with
  |none =>
   rw[hm]at HMe HF;have hfin:Hid (v=.iface 29 (.int .i64 1)):=(by rw[HF.out];rfl);clear HF hm HBo HAn;go_enter Tryz.func122,Tryz.ntmps122;go_wp2_with (first|(go_fit (HNa.out _);rintro e w2⟨rfl,hB⟩;obtain⟨hcl,_⟩:=qaC hB;(have q1:=hcl w.heap.size 1 (by simp)))|(go_fit (HMe.out _);rintro e w3⟨hB3,rfl⟩))
   cases hfin.out;go_ret;exact⟨rfl,Qa (Qa (Xb.alloc Xl _) Xl hB) Xl hB3⟩
  |some ag =>
   obtain⟨args,g⟩:=ag;rw[hm]at HMe HF;clear hm;go_enter Tryz.func122,Tryz.ntmps122;go_upto_region 6 with(first|(go_fit (HNa.out _);rintro e w2⟨rfl,hB⟩;obtain⟨hcl,_⟩:=qaC hB;(have q1:=hcl w.heap.size 1 (by simp)))|(go_fit (HMe.out _);rintro e w3⟨hB3,mv,rfl,hmv⟩))
   have BX:zB w w3 [.string name,.string type,.bool static,.bool abs,.bool priv,.int .i64 locals,cv,hv]:=zB.step (zB.step (wx:=w.alloc _) ⟨Xb.alloc Xl _,by simp,by simp[qG]⟩ hB) hB3;clear q1 hcl hB hB3 hmv;obtain⟨q0,q1,q2,q3,q4,q5,q6,q7⟩:=qah BX;have hsz:=BX.size;cases tw with
   |true =>
    have hfin:Hid (v=.iface 29 (.int .i64 5)):=(by rw[HF.out];rfl);clear HF HBo;go_wp2_with (go_fit (HAn.out _ BX.below hsz q0 q1);rintro e w4⟨rfl,hB4⟩)
    cases hfin.out;go_ret;exact⟨rfl,(BX.step hB4).below⟩
   |false =>
    go_upto_region 8 with(go_fit (HAn.out _ BX.below hsz q0 q1);rintro e w4⟨rfl,hB4⟩)
    replace BX:=BX.step hB4;clear q0 q1 q2 q3 q4 q5 q6 q7 hsz hB4 HAn;obtain⟨q0,q1,q2,q3,q4,q5,q6,q7⟩:=qah BX;by_cases hlo:locals<0\/8<locals
    ·have hfin:Hid (v=.iface 29 (.int .i64 2)):=(by rw[HF.out];simp only[hlo];rfl);clear HF HBo;go_wp2_with fail;all_goals first|(exfalso;omega)|skip
     all_goals
      cases hfin.out;go_ret;exact⟨rfl,BX.below⟩
    ·have hfin:Hid (v=zE bf):=(by rw[HF.out];simp only[hlo];rfl);rw[<-hfin.out]at HBo;clear HF;go_wp2_with (go_fit (HBo.out _ BX.below);rintro e w5⟨rfl,hB5⟩)
     all_goals first|(exfalso;omega)|skip
     go_ret;exact⟨rfl,(BX.step hB5).below⟩
set_option maxRecDepth 512
end Go.Proofs.YtlmfmioljeppfaaGreatDoor
