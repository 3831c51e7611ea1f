/- Lemmas; conditions: as each states. -/
import Derived.Test.YtmclocdhcblbiaaGreatDoorZLook
set_option maxHeartbeats 4000000
namespace Go.Proofs.YtmclocdhcblbiaaGreatDoor
open Go.RowKit Go.Shelf Go.Lib Tryz
def Qcm(w:World)(cs:List qa)(cls g:Str)(m:qc)(L:List Str)(e:Ending)(w':World):Prop :=
 Below w.heap.size w w'/\((∃F mb,qE cs cls g m L (some F)/\e=.returned (.tuple #[.map (some mb),.bool true])/\zbm (QI w') w' mb F)\/(qE cs cls g m L none/\e=.returned (.tuple #[.map none,.bool false])))
theorem zcn{cls:Str}{m:qc}{args:List Str}{g:Str}{A:Nat}(h:QaJ m args g A):(zaa cls m.static args A).length<=8:=by
 have D:=h.args;have E:=h.small;have B:qar m=if m.static then args.length else args.length+1:=Za2 h.type
 unfold zaa zaK;cases C:m.static with
 |true =>
  rw[C,if_pos rfl]at B;simp only[if_true,List.nil_append,List.length_append,List.length_replicate];omega
 |false =>
  rw[C,if_neg (by decide)]at B;simp only[Bool.false_eq_true,if_false,List.length_append,List.length_replicate,List.length_singleton];omega
theorem zc7{cls:Str}(C:cls.size<=1048576){m:qc}(D:m.type.size<=1048576){args:List Str}{g:Str}{B:Nat}(h:QaJ m args g B):∀k∈zaa cls m.static args B,k.size<=1048578:=by
 intro k A;unfold zaa zaK at A;rcases List.mem_append.1 A with A|A
 ·rcases List.mem_append.1 A with A|A
  ·split at A
   ·cases A
   ·rw[List.mem_singleton.1 A,Zao];omega
  ·have:=(Qah h.type).1 k A;omega
 ·rw[(List.mem_replicate.1 A).2];decide
theorem Qee{W:Zp Frm}(H:W.Good){F:Asg Frm}(B:W.Oks F):W.weight F<=W.n*(W.top+1):=by
 have A:∀l:List Nat,(l.map (W.w1 F)).sum<=l.length*(W.top+1):=fun l=>by
  induction l with
  |nil=>simp
  |cons x r C =>
   rw[List.map_cons,List.sum_cons,List.length_cons,Nat.succ_mul];have:W.w1 F x<=W.top+1:=by
    unfold Zp.w1;cases h:F x with
    |none=>exact Xl
    |some f =>
     have:=H.cap f (B x f h).2;dsimp only;omega
   omega
 have:=A (List.range W.n);rwa [List.length_range]at this
def Qdl(cs:List qa)(L:List Str)(j:Nat):Prop:=∀k∈L.take j,Zg cs k=0
set_option maxRecDepth 100000
theorem zdK(l:List qa)(B:Nat)(ws w:World)(hm:qh ws w B l)(m:qc)(cls g:Str)(args:List Str)(S:Nat)(pc J:Option Addr)(M N:Nat)(hG:QaJ m args g S)(d:zay m)(hcl:cls.size<=1048576)(hcv:Qe w 6 Zv (.slice pc m.code.length M) m.code)(hhv:Qe w 4 Qp (.slice J m.handlers.length N) m.handlers):
 Calls prog 44 #[.map (some B),.string cls,.agg #[.string m.name,.string m.type,.bool m.static,.bool m.abs,.bool m.priv,.int .i64 m.locals,.slice pc m.code.length M,.slice J m.handlers.length N]] w (Qcm w (Za l) cls g m (zaa cls m.static args S)):=by
 have HA:Hid (∀(wx:World) (o:Obj),Below wx.heap.size wx (wx.alloc o)):=fun wx o=>Xb.alloc Xl o
 obtain⟨hs,hhs⟩:∃hs:List Value,hs=[.map (some B),.string m.name,.string m.type,.bool m.static,.bool m.abs,.bool m.priv,.int .i64 m.locals,.slice pc m.code.length M,.slice J m.handlers.length N]:=⟨_,rfl⟩;have HF:Hid (∀wx,_):=fun wx=>Zcn wx cls m.name m.type m.static m.abs m.priv S pc J m.code.length M m.handlers.length N args g hG.type d.type hcl hG.small (Zaw hG.type)
 rw[<-hG.locals]at HF;have hL8:=zcn (cls:=cls) hG;have HLs:=Xh (zc7 hcl d.type hG);have hgs:g.size<=maxLen:=Xf (Xf (Qah hG.type).2 d.type) (by decide);generalize zaa cls m.static args S=L at *;have HKi:Hid (∀(wx:World) (k:Str),Below w.heap.size w wx->k.size<=maxLen->_):=fun wx k hb Z=>qcn ws wx B (Za l) (hm.map.step hb) hm.right.nodup k Z
 unfold zcQ at HF;have hmm:=fun t w=>run_makeMap (P:=prog) t w
 go_enter func44,ntmps44;go_upto_region 2 with fail;have kM:=((Blk.new w 39 [.string m.name,.string m.type,.bool m.static,.bool m.abs,.bool m.priv,.int .i64 m.locals,.slice pc m.code.length M,.slice J m.handlers.length N]).step (HA.out _ (.map #[] 0))).step (HA.out _ (.cells #[.map (some B),.string m.name,.string m.type,.bool m.static,.bool m.abs,.bool m.priv,.int .i64 m.locals,.slice pc m.code.length M,.slice J m.handlers.length N,.map (some (w.heap.size+1)),.slice none 0 0] 131));have B1:Below w.heap.size w (((w.alloc (.cells #[.string m.name,.string m.type,.bool m.static,.bool m.abs,.bool m.priv,.int .i64 m.locals,.slice pc m.code.length M,.slice J m.handlers.length N] 39)).alloc (.map #[] 0)).alloc (.cells #[.map (some B),.string m.name,.string m.type,.bool m.static,.bool m.abs,.bool m.priv,.int .i64 m.locals,.slice pc m.code.length M,.slice J m.handlers.length N,.map (some (w.heap.size+1)),.slice none 0 0] 131)):=((Xb.alloc Xl _).alloc (by simp) _).alloc (by simp;omega) _;have K1:LK w (((w.alloc (.cells #[.string m.name,.string m.type,.bool m.static,.bool m.abs,.bool m.priv,.int .i64 m.locals,.slice pc m.code.length M,.slice J m.handlers.length N] 39)).alloc (.map #[] 0)).alloc (.cells #[.map (some B),.string m.name,.string m.type,.bool m.static,.bool m.abs,.bool m.priv,.int .i64 m.locals,.slice pc m.code.length M,.slice J m.handlers.length N,.map (some (w.heap.size+1)),.slice none 0 0] 131)) (w.heap.size+1+1) (w.heap.size+1) hs (.slice none 0 0) (fun _=>none) []:=by
  refine⟨B1,by omega,by omega,?_,by rw[hhs];rfl,Que.empty _ _,?_⟩
  ·have:=Blk.new ((w.alloc (.cells #[.string m.name,.string m.type,.bool m.static,.bool m.abs,.bool m.priv,.int .i64 m.locals,.slice pc m.code.length M,.slice J m.handlers.length N] 39)).alloc (.map #[] 0)) 131 [.map (some B),.string m.name,.string m.type,.bool m.static,.bool m.abs,.bool m.priv,.int .i64 m.locals,.slice pc m.code.length M,.slice J m.handlers.length N,.map (some (w.heap.size+1)),.slice none 0 0];rw[World.size_alloc,World.size_alloc]at this;rw[hhs];exact this
  ·have:=zbm.made (QI (((w.alloc (.cells #[.string m.name,.string m.type,.bool m.static,.bool m.abs,.bool m.priv,.int .i64 m.locals,.slice pc m.code.length M,.slice J m.handlers.length N] 39)).alloc (.map #[] 0)).alloc (.cells #[.map (some B),.string m.name,.string m.type,.bool m.static,.bool m.abs,.bool m.priv,.int .i64 m.locals,.slice pc m.code.length M,.slice J m.handlers.length N,.map (some (w.heap.size+1)),.slice none 0 0] 131))) (w.alloc (.cells #[.string m.name,.string m.type,.bool m.static,.bool m.abs,.bool m.priv,.int .i64 m.locals,.slice pc m.code.length M,.slice J m.handlers.length N] 39));rw[World.size_alloc]at this;exact this.keep (heap_alloc_old _ _ (by simp)) fun _ _ _ k=>k
 generalize (((w.alloc (.cells #[.string m.name,.string m.type,.bool m.static,.bool m.abs,.bool m.priv,.int .i64 m.locals,.slice pc m.code.length M,.slice J m.handlers.length N] 39)).alloc (.map #[] 0)).alloc (.cells #[.map (some B),.string m.name,.string m.type,.bool m.static,.bool m.abs,.bool m.priv,.int .i64 m.locals,.slice pc m.code.length M,.slice J m.handlers.length N,.map (some (w.heap.size+1)),.slice none 0 0] 131))=w1 at *;have m0:=kM.cell 0;have m1:=kM.cell 1;have m2:=kM.cell 2;have m3:=kM.cell 3;have m4:=kM.cell 4;have m5:=kM.cell 5;have m6:=kM.cell 6;have m7:=kM.cell 7;have HK1:=Xh K1;have HB1:=Xh B1;have Hm:=Xh hm;have HG:=Xh hG;have Hmo:=Xh d;have Hcv:=Xh hcv;have Hhv:=Xh hhv;have Hcl:=Xh hcl;have Hhs:=Xh hhs;clear K1 B1 kM hm hG d hcv hhv hcl hhs hmm;go_upto_region 3 with(go_fit (HF.out _);rintro e w2⟨hB2,p,n,c,rfl,hS2,_⟩)
 obtain⟨p',c',e,hn1,hn2,hcc⟩:=hS2.open;injection e with e1 e2 e3
 subst e1 e2 e3;have K3:=(HK1.out.step hB2).step (HA.out w2 (.cells #[.slice p L.length c,.slice none 0 0] 133));have f3:=Blk.new w2 133 [.slice p L.length c,.slice none 0 0];have S3:QI (w2.alloc (.cells #[.slice p L.length c,.slice none 0 0] 133)) (.slice p L.length c) (.slice none 0 0) ⟨L,[]⟩:=⟨hS2.mono (HA.out w2 _),Or.inl ⟨rfl,rfl⟩⟩;have HCc:Hid (∀i x,L[i]? = some x->∃b o,p=some ⟨b,o,none⟩/\(w2.alloc (.cells #[.slice p L.length c,.slice none 0 0] 133)).cell? ⟨b,o+i,none⟩=some (.string x)):=fun i x hx=>by
  obtain⟨b,o,vs,h1,q,_,h4⟩:=hcc i x hx;have q:vs=[.string x]:=q;subst q;have h5:=h4.1;rw[Nat.mul_one]at h5;exact⟨b,o,h1,((HA.out w2 _).cell (QV h5)).trans h5⟩
 generalize (w2.alloc (.cells #[.slice p L.length c,.slice none 0 0] 133))=w3 at *;have f0:=f3.cell 0;have f1:=f3.cell 1;have v:=Xh K3;have HS3:=Xh S3;have Hf3:=Xh f3;clear K3 S3 f3 hcc hS2 m0 m1 m2 m3 m4 m5 m6 m7 hB2;go_wp2_with fail;clear f0 f1;go_loopw [28] (fun x wr=>∃j:Nat,j<=L.length/\x=.int .i64 j/\Hid (Below w3.heap.size w3 wr)/\Hid (Qdl (Za l) L j)) (fun x _=>L.length-(intOf x).toNat)
 case atStart=>exact⟨0,Nat.zero_le _,rfl,Xb,fun k Z=>by simp at Z⟩
 case round =>
  obtain⟨j,hj,rfl,hB,hI⟩:=hrel;by_cases hjl:j<L.length
  ·obtain⟨k,Z⟩:∃k,L[j]? = some k:=⟨L[j],by simp[hjl]⟩;have hkm:=Xe Z;obtain⟨b,o,rfl,c0⟩:=HCc.out j k Z;replace c0:=(hB.out.cell (QV c0)).trans c0;have HKk:=Xh (HKi.out wr k (Qa v.out.below Xl hB.out) (Xf (HLs.out k hkm) (by decide)));rcases zB (Zg (Za l) k) with⟨hv,a⟩|⟨hv,a⟩
   ·rw[hv]at HKk;have hI2:Hid (Qdl (Za l) L (j+1)):=fun y hy=>by
     rw[List.take_add_one,Z]at hy;rcases List.mem_append.1 hy with hy|hy
     ·exact hI.out y hy
     ·rw[show y=k by simpa using hy];exact a
    clear Z hkm hv a;go_wp2_with (go_fit (HKk.out);rintro e w4⟨rfl,E⟩)
    go_roundw;case rel=>exact⟨j+1,by omega,by simp,Qa hB Xl E,hI2⟩
    case measure=>simp[intOf];omega
   ·rw[hv]at HKk;have H:Hid (qE (Za l) cls g m L none):=fun D=>by
     unfold qa2 at D;rw[Bool.and_eq_true]at D;exact absurd (beq_iff_eq.1 (List.all_eq_true.1 D.1 k hkm)) a
    clear Z hkm hv a;go_wp2_with (go_fit (HKk.out);rintro e w4⟨rfl,E⟩)
    go_ret2;exact⟨Qa v.out.below Xl (Qa hB Xl E),Or.inr ⟨H.out,rfl⟩⟩
  ·obtain rfl:j=L.length:=(by omega);have hall:Hid (∀k∈L,Zg (Za l) k=0):=fun k Z=>hI.out k (by rw[List.take_length];exact Z)
   have K4:=v.out.step hB.out;have k4:=Hf3.out.step hB.out;have z:=Xh (HKi.out wr g (Qa v.out.below Xl hB.out) hgs);have HSt:Hid ((g=⟨#[86]⟩\/Zg (Za l) g=0)->qa2 (Za l) L g=true):=fun h=>by
    unfold qa2;rw[Bool.and_eq_true,Bool.or_eq_true];exact⟨List.all_eq_true.2 fun k Z=>beq_iff_eq.2 (hall.out k Z),h.imp Xj beq_iff_eq.2⟩
   have g0:=k4.cell 0;have g1:=k4.cell 1;have HK4:=Xh K4;have Hk4:=Xh k4;have HS4:=Xh (HS3.out.mono hB.out);clear K4 k4;by_cases I:g=⟨#[86]⟩\/Zg (Za l) g=0
   ·have aA:=HSt.out I;go_upto_region 9 with fail;go_cut [44] (fun s wx=>s=.bool false/\Below wr.heap.size wr wx)
    case first =>
     clear g0 g1;by_cases hV:g=⟨#[86]⟩
     ·subst hV;go_wp2_with fail;go_meet;exact⟨rfl,Xb⟩
     ·have a:=I.resolve_left hV;rw[a,show Qx 0=.nilIface from rfl]at z;have hne:¬g.toList=[86]:=fun e=>hV (ByteArray.ext (Array.ext' (by rw[<-ByteArray.toList_eq];exact e)))
      clear a I;go_wp2_with (go_fit (z.out);rintro e w4⟨rfl,E⟩)
      go_meet;exact⟨rfl,E⟩
    case rest =>
     obtain⟨rfl,E⟩:=hcut;clear g0 g1 z HKi HSt;have D:=Zbf hL8 aA;have U:=qbH Hm.out.right Hm.out.faults (cls:=cls) (Zb:=g) HG.out.code HG.out.hands D;have V:Calls _ _ _ _ _:=Qcn l B ws w Hm.out wc (w.heap.size+1+1) (w.heap.size+1) hs (.slice none 0 0) (fun _=>none) [] (HK4.out.step E) (by rw[Hhs.out];rfl) 0 (Nat.zero_le _) ⟨L,[]⟩ (.slice p L.length c) (.slice none 0 0) (HS4.out.mono E) (Qa7 D) D (fun k f e=>by cases e) (Nat.zero_le _);unfold Qbn at V;dsimp only at V;replace V:Hid (Calls prog 71 #[.pointer (some ⟨w.heap.size+1+1,0,none⟩),.int .i64 0,.agg #[.slice p L.length c,.slice none 0 0]] wc (fun e w'=>e=.returned (.bool true)/\∃tv',LK w w' (w.heap.size+1+1) (w.heap.size+1) hs tv' (Asg.put (fun _=>none) 0 ⟨L,[]⟩) [0]/\Q4 wc w' (w.heap.size+1+1) (w.heap.size+1) (.slice none 0 0) tv')):=V;have k5:=Hk4.out.step E;have g0:=k5.cell 0;have g1:=k5.cell 1;go_upto_region 12 with(go_fit (V.out);rintro e w6⟨rfl,tw,K6,_⟩)
     obtain⟨W,hW⟩:∃W,zW (Za l) cls g m ⟨L,[]⟩=W:=⟨_,rfl⟩;rw[hW]at U;have hWs:W.start=⟨L,[]⟩:=(by rw[<-hW];rfl);have hLi:W.LInv (Asg.put (fun _=>none) 0 ⟨L,[]⟩,[0]):=by
      have:=Zp.linv_start U (fun _=>none) (fun _=>rfl);rwa [hWs]at this
     have hw0:2*W.weight (Asg.put (fun _=>none) 0 ⟨L,[]⟩)+[0].length<=200000:=by
      have h1:=Qee U hLi.oks;have q:W.n=m.code.length:=(by rw[<-hW];rfl);have h3:W.top=1600:=(by rw[<-hW];rfl);have h4:=(qaw HG.out.code).small;dsimp only at h1;rw[q,h3]at h1;have h5:m.code.length*(1600+1)<=40*1601:=Nat.mul_le_mul h4 Xl;show 2*_+1<=_
      omega
     have HWe:=Xh hW;have HGd:=Xh U;have HLi:=Xh hLi;have Hw0:=Xh hw0;have HsB:=Xh aA;have HK6:=Xh K6;have HLk:Hid (∀(wx:World) (tv:Value) (F:Asg Frm) (T:List Nat) (i:Nat) (f:Frm),LK w wx (w.heap.size+1+1) (w.heap.size+1) hs tv F T->W.Oks F->W.weight F+T.length<=900000->F i=some f->Calls prog 72 #[.pointer (some ⟨w.heap.size+1+1,0,none⟩),.string cls,.string g,.int .i64 (i:Int)] wx (Zac w wx (w.heap.size+1+1) (w.heap.size+1) hs tv (W.look (F,T) i f))):=fun wx tv F T i f h1 q h3 h4=>by
      subst hW;exact zeJ l B ws w Hm.out m cls g ⟨L,[]⟩ pc J M N hs Hhs.out Hcv.out Hhv.out HG.out.code HG.out.hands Hmo.out.code (Xf Hcl.out (by decide)) hgs U wx _ _ tv F T h1 q h3 i f h4
     clear hW hWs hLi hw0 U D aA k5 g0 g1 K6 V E;go_loopg [] (2*W.weight (Asg.put (fun _=>none) 0 ⟨L,[]⟩)+[0].length) (fun k wr=>∃(F:Asg Frm) (T:List Nat) (tw:Value),k=2*W.weight F+T.length/\k<=200000/\Hid (LK w wr (w.heap.size+1+1) (w.heap.size+1) hs tw F T)/\Hid (W.LInv (F,T)))
     case atStart=>exact⟨_,[0],tw,rfl,Hw0,HK6,HLi⟩
     case round =>
      obtain⟨F,T,tw,hgk,hg2,hK,hI⟩:=hrel;have c10:=hK.out.cell10;have c9:=hK.out.cell9;cases T with
      |nil =>
       obtain⟨a6,c6,rfl⟩:=Zbw hK.out.que;go_wp2_with fail;go_ret2;have hl:=Zp.linv_end hI.out;rw[<-HWe.out]at hl;exact⟨hK.out.below,Or.inl ⟨F,_,⟨HsB,hl⟩,rfl,hK.out.map⟩⟩
      |cons i r =>
       obtain⟨b,off,cap,rfl,hc0,hle,hmx,hq'⟩:=hK.out.que.head;obtain⟨f,hFi⟩:=hI.out.todo i (List.mem_cons_self ..);replace hc0:wr.cell? ⟨b,off,none⟩=some (.int .i64 (i:Int)):=hc0;have z10:=hK.out.box.frozen 10;have hlen:r.length+1<=200000:=by
        rw[List.length_cons]at hgk;omega
       have K7:=hK.out.todo (World.grownBy.refl wr _) hq';have A:=HLk.out _ _ F r i f K7 hI.out.oks (by rw[List.length_cons]at hgk;omega) hFi;have X:Hid (∀O,W.look (F,r) i f=some O->W.LInv O/\2*W.weight O.1+O.2.length<2*W.weight F+(r.length+1)):=fun O e=>Zp.linv_step HGd.out hI.out hFi e
       have Y:Hid (W.look (F,r) i f=none->∀G,¬W.Closed G):=fun e=>Zp.linv_fail HGd.out hI.out hFi e
       have Hgk:Hid (gk=2*W.weight F+(r.length+1)):=hgk;clear hgk hI hFi hq';by_cases hcap:cap=0
       ·subst hcap;obtain rfl:r=[]:=List.eq_nil_of_length_eq_zero (Nat.le_zero.1 hle);simp only[if_true,List.length_nil]at K7 A;have HK7:=Xh K7;clear K7;cases C:W.look (F,[]) i f with
        |none =>
         rw[C]at A;have A:=Xh A;unfold Zac at A;have hn:=Y.out C;rw[<-HWe.out]at hn;have H:Hid (qE (Za l) cls g m L none):=fun _=>hn
         clear hn C X Y;go_wp2_with (go_fit (A.out);rintro e w8⟨rfl,hB8⟩)
         go_ret2;exact⟨hB8,Or.inr ⟨H.out,rfl⟩⟩
        |some O =>
         rw[C]at A;have A:=Xh A;unfold Zac at A;have R:=Xh (X.out O C);clear C X Y;go_wp2_with (go_fit (A.out);rintro e w8⟨rfl,tw',K8,_⟩)
         go_roundg (2*W.weight O.1+O.2.length)
         case measure =>
          have h1:=R.out.2;have q:=Hgk.out;omega
         case rel =>
          have h1:=R.out.2;have q:=Hgk.out;exact⟨O.1,O.2,tw',rfl,by omega,K8,R.out.1⟩
       ·rw[if_neg hcap]at K7 A;have HK7:=Xh K7;clear K7;cases C:W.look (F,r) i f with
        |none =>
         rw[C]at A;have A:=Xh A;unfold Zac at A;have hn:=Y.out C;rw[<-HWe.out]at hn;have H:Hid (qE (Za l) cls g m L none):=fun _=>hn
         clear hn C X Y;go_wp2_with (go_fit (A.out);rintro e w8⟨rfl,hB8⟩)
         go_ret2;exact⟨hB8,Or.inr ⟨H.out,rfl⟩⟩
        |some O =>
         rw[C]at A;have A:=Xh A;unfold Zac at A;have R:=Xh (X.out O C);clear C X Y;go_wp2_with (go_fit (A.out);rintro e w8⟨rfl,tw',K8,_⟩)
         go_roundg (2*W.weight O.1+O.2.length)
         case measure =>
          have h1:=R.out.2;have q:=Hgk.out;omega
         case rel =>
          have h1:=R.out.2;have q:=Hgk.out;exact⟨O.1,O.2,tw',rfl,by omega,K8,R.out.1⟩
   ·rw[not_or]at I;obtain⟨hV,a⟩:=I;have hne:¬g.toList=[86]:=fun e=>hV (ByteArray.ext (Array.ext' (by rw[<-ByteArray.toList_eq];exact e)))
    have hne2:(g.toList==[86])=false:=(by simpa using hne);have H:Hid (qE (Za l) cls g m L none):=fun D=>by
     unfold qa2 at D;rw[Bool.and_eq_true,Bool.or_eq_true]at D;rcases D.2 with h|h
     ·exact absurd (Xm h) hV
     ·exact absurd (beq_iff_eq.1 h) a
    rcases zB (Zg (Za l) g) with⟨_,hz'⟩|⟨hv,_⟩
    ·exact absurd hz' a
    ·rw[hv]at z;clear a hV hv;go_wp2_with (go_fit (z.out);rintro e w4⟨rfl,E⟩)
     go_ret2;exact⟨Qa v.out.below Xl (Qa hB Xl E),Or.inr ⟨H.out,rfl⟩⟩
def zai(l:List qa)(cls:Str)(m:qc):Prop:=m.abs=true\/∃args g many A,QaJ m args g many/\qE (Za l) cls g m (zaa cls m.static args many) (some A)
def zdm(l:List qa)(cls:Str)(m:qc):Prop:=m.abs=false/\∃args g many,QaJ m args g many/\qE (Za l) cls g m (zaa cls m.static args many) none
def Qar(l:List qa)(n:Nat):Prop:=(zj l≠0/\n=zj l)\/(zj l=0/\n=0/\∀c∈l,∀m∈c.methods,zai l c.name m)\/(zj l=0/\n=7/\∃c∈l,∃m∈c.methods,zdm l c.name m)
def qbC(w:World)(l:List qa)(e:Ending)(w':World):Prop:=Below w.heap.size w w'/\∃n,Qar l n/\((n=0/\∃ws B,e=.returned (.tuple #[.map (some B),.nilIface])/\qh ws w' B l)\/(n≠0/\e=.returned (.tuple #[.map none,.iface 52 (.int .i64 n)])))
theorem QbC(l:List qa)(lv:Value)(w:World)(hl:Qax w)(ho:∀c∈l,qM c)(f:zx w lv l):
 Calls prog 25 #[lv] w (qbC w l):=by
 have N:=Xh (zef l lv w hl ho f);have HA:Hid (∀(wx:World) (o:Obj),Below wx.heap.size wx (wx.alloc o)):=fun wx o=>Xb.alloc Xl o
 obtain⟨pl,cap,rfl,hn1,hn2,hcc⟩:=f.open;have hlen:l.length<=9223372036854775807:=Xf hn1 hn2;have HC:=Xh hcc;have HO:=Xh ho;clear hcc f hl ho;unfold zfj at N;by_cases a:zj l=0
 ·have i:=Xh a;clear a;go_enter func25,ntmps25;go_wp2_with (go_fit (N.out);rintro e w2⟨Z,⟨_,ws,B,rfl,hm⟩|⟨a,_⟩⟩;rotate_left;(exact absurd i.out a))
  have O:=Xh Z;have Hm:=Xh hm;clear Z hm N;go_loopw [22] (fun x wr=>∃k:Nat,k<=l.length/\x=.int .i64 k/\Hid (Below w2.heap.size w2 wr)/\Hid (∀c∈l.take k,∀m∈c.methods,zai l c.name m)) (fun x _=>l.length-(intOf x).toNat)
  case atStart=>exact⟨0,Nat.zero_le _,rfl,Xb,fun c hc=>by simp at hc⟩
  case round =>
   obtain⟨k,hk,rfl,hB,hY⟩:=hrel;by_cases hkl:k<l.length
   ·obtain⟨c,hx⟩:∃x,l[k]? = some x:=⟨l[k],by simp[hkl]⟩;have P:=Xe hx;obtain⟨b,o,vs,rfl,⟨fv,dv,mv,rfl,q1,q2,q3⟩,_,Zd⟩:=HC.out k c hx;have Zd:=Zd.mono (Qa O Xl hB) Zd.lt;have hok:=HO.out c P;have hcf:=Hm.out.faults c P;have hYc:Hid ((∀m∈c.methods,zai l c.name m)->∀d∈l.take (k+1),∀m∈d.methods,zai l d.name m):=fun h d H=>by
     rw[List.take_add_one,hx]at H;rcases List.mem_append.1 H with H|H
     ·exact hY.out d H
     ·rw[show d=c by simpa using H];exact h
    obtain⟨Y,cs,cf,cb,cd,I⟩:=c;dsimp only at Zd q3 hYc;obtain⟨c0,c1,c2,c3,c4,c5,_⟩:=Zd;obtain⟨pm,km,rfl,hm1,hm2,hmc⟩:=q3.open;obtain⟨pf,kf,rfl,_⟩:=q1.open;obtain⟨pd,kd,rfl,_⟩:=q2.open;have hmlen:I.length<=9223372036854775807:=Xf hm1 hm2;have HMc:=Xh hmc;have Hcm:=Xh P;have Hok:=Xh hok;have Hcf:=Xh hcf;have B3:=HA.out wr (.cells #[.string Y,.string cs,.slice pf cf.length kf,.bool cb,.slice pd cd.length kd,.slice pm I.length km] 31);have k3:=Blk.new wr 31 [.string Y,.string cs,.slice pf cf.length kf,.bool cb,.slice pd cd.length kd,.slice pm I.length km];have g5:=k3.cell 5;have R:=Xh (Qa hB Xl B3);have Hk3:=Xh k3;clear hx hmc q1 q2 q3 P hok hcf B3 k3;go_upto_region 7 with fail;generalize wr.alloc (.cells #[.string Y,.string cs,.slice pf cf.length kf,.bool cb,.slice pd cd.length kd,.slice pm I.length km] 31)=w3 at *;clear c0 c1 c2 c3 c4 c5;go_wp2_with fail;clear g5;go_loopw [29] (fun x wy=>∃j:Nat,j<=I.length/\x=.int .i64 j/\Hid (Below w3.heap.size w3 wy)/\Hid (∀m∈I.take j,zai l Y m)) (fun x _=>I.length-(intOf x).toNat)
    case atStart=>exact⟨0,Nat.zero_le _,rfl,Xb,fun m hm=>by simp at hm⟩
    case round =>
     obtain⟨j,hj,rfl,G,hYj⟩:=hrel;by_cases hjl:j<I.length
     ·obtain⟨m,M⟩:∃x,I[j]? = some x:=⟨I[j],by simp[hjl]⟩;have J:=Xe M;obtain⟨bb,oo,vs,rfl,⟨cv,hv,rfl,r,s⟩,_,T⟩:=HMc.out j m M;have S:=Qa O Xl R.out;have T:=T.mono (Qa S Xl G) T.lt;obtain⟨pc,t,rfl,_⟩:=r.open;obtain⟨v,y,rfl,_⟩:=s.open;obtain⟨u0,u1,u2,u3,u4,u5,u6,u7,_⟩:=T;have hYm:Hid (zai l Y m->∀d∈I.take (j+1),zai l Y d):=fun h d H=>by
       rw[List.take_add_one,M]at H;rcases List.mem_append.1 H with H|H
       ·exact hYj.out d H
       ·rw[show d=m by simpa using H];exact h
      cases D:m.abs with
      |true =>
       have C:=Xh (hYm.out (Or.inl D));have L:=Xh (Qa G Xl (HA.out wr (.cells #[.string m.name,.string m.type,.bool m.static,.bool true,.bool m.priv,.int .i64 m.locals,.slice pc m.code.length t,.slice v m.handlers.length y] 39)));rw[D]at u3;clear M J r s S D;go_wp2_with fail;go_roundw;case rel=>exact⟨j+1,by omega,by simp,L,C⟩
       case measure=>simp[intOf];omega
      |false =>
       have B4:=HA.out wr (.cells #[.string m.name,.string m.type,.bool m.static,.bool false,.bool m.priv,.int .i64 m.locals,.slice pc m.code.length t,.slice v m.handlers.length y] 39);have U:=Blk.new wr 39 [.string m.name,.string m.type,.bool m.static,.bool false,.bool m.priv,.int .i64 m.locals,.slice pc m.code.length t,.slice v m.handlers.length y];have g0:=((Hk3.out.step G.out).step B4).cell 0;have m0:=U.cell 0;have m1:=U.cell 1;have m2:=U.cell 2;have m3:=U.cell 3;have m4:=U.cell 4;have m5:=U.cell 5;have m6:=U.cell 6;have m7:=U.cell 7;have L:=Xh (Qa G Xl B4);obtain⟨args,g,E,hG⟩:=ZcQ Hcf.out J D;have n:=Qa S Xl L.out;have V:=zdK l B ws (wr.alloc (.cells #[.string m.name,.string m.type,.bool m.static,.bool false,.bool m.priv,.int .i64 m.locals,.slice pc m.code.length t,.slice v m.handlers.length y] 39)) ((Hm.out.step (Qa (Below.mono R.out Xl) Xl G.out)).step B4) m Y g args E pc v t y hG (Hok.out.methods m J) Hok.out.name (r.mono n (by decide) (fun _ _ h=>h)) (s.mono n (by decide) (fun _ _ h=>h));rw[D]at u3 V;unfold Qcm at V;have HLo:=Xh V;have HG:=Xh hG;have Hab:=Xh D;have Hmm:=Xh J;clear M J r s U B4 S n D V hG;go_upto_region 11 with fail;generalize wr.alloc (.cells #[.string m.name,.string m.type,.bool m.static,.bool false,.bool m.priv,.int .i64 m.locals,.slice pc m.code.length t,.slice v m.handlers.length y] 39)=w4 at *;clear u0 u1 u2 u3 u4 u5 u6 u7;by_cases X:∃A,qE (Za l) Y g m (zaa Y m.static args E) (some A)
       ·have p:=Xh X;obtain⟨A,hA⟩:=X;have C:=Xh (hYm.out (Or.inr ⟨args,g,E,A,HG,hA⟩));clear hA;go_wp2_with (go_fit (HLo.out);rintro e w5⟨q,⟨F,mb,z,rfl,hFm⟩|⟨z,_⟩⟩;rotate_left;(exact absurd p.out (fun⟨A,r,s⟩=>z r A s.1)))
        go_roundw;case rel=>exact⟨j+1,by omega,by simp,Qa L Xl q,C⟩
        case measure=>simp[intOf];omega
       ·have p:=Xh X;clear X;go_wp2_with (go_fit (HLo.out);rintro e w5⟨q,⟨F,mb,z,_⟩|⟨z,rfl⟩⟩;(exact absurd ⟨F,z⟩ p.out))
        go_ret2;exact⟨Qa (Qa O Xl R) Xl (Qa L Xl q),7,Or.inr (Or.inr ⟨i,rfl,_,Hcm,m,Hmm,Hab,args,g,E,HG,z⟩),Or.inr ⟨by decide,rfl⟩⟩
     ·obtain rfl:j=I.length:=(by omega);have C:=Xh (hYc.out (by have:=hYj.out;rwa [List.take_length]at this));go_wp2_with fail;go_roundw;case rel=>exact⟨k+1,by omega,by simp,Qa R Xl G,C⟩
      case measure=>simp[intOf];omega
   ·obtain rfl:k=l.length:=(by omega);have C:Hid (∀c∈l,∀m∈c.methods,zai l c.name m):=(by have:=hY.out;rwa [List.take_length]at this);go_wp2_with fail;go_ret2;exact⟨Qa O Xl hB,0,Or.inr (Or.inl ⟨i,rfl,C⟩),Or.inl ⟨rfl,ws,B,rfl,Hm.out.step hB.out⟩⟩
 ·have i:=Xh a;clear a;go_enter func25,ntmps25;go_wp2_with (go_fit (N.out);rintro e w2⟨Z,⟨a,_⟩|⟨_,rfl⟩⟩;(exact absurd a i.out))
  go_ret2;exact⟨Z,_,Or.inl ⟨i,rfl⟩,Or.inr ⟨i,rfl⟩⟩
theorem zco(l:List qa)(C:Value)(w:World)(H:Qax w)(I:∀c∈l,qM c)(A:zx w C l):
 Calls prog 12 #[C] w fun e w'=>Below w.heap.size w w'/\∃n,Qar l n/\e=.returned (Qx n):=by
 have E:Hid (Calls prog 25 #[C] w fun e w'=>Below w.heap.size w w'/\∃n v u,Qar l n/\u=Qx n/\e=.returned (.tuple #[v,u])):=(QbC l C w H I A).mono fun e w' ⟨L,n,D,N⟩=>by
  rcases N with⟨rfl,S,B,rfl,_⟩|⟨G,rfl⟩
  ·exact⟨L,0,_,_,D,rfl,rfl⟩
  ·rcases zB n with⟨_,O⟩|⟨P,_⟩
   ·exact absurd O G
   ·exact⟨L,n,_,_,D,P.symm,rfl⟩
 clear H I A;go_enter func12,ntmps12;go_wp2_with (go_fit (E.out);rintro e R⟨F,n,v,u,D,J,rfl⟩;(have M:=Xh J);clear J)
 go_ret;exact⟨F,n,D,by rw[<-M.out];rfl⟩
