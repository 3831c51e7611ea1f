/- Lemmas; conditions: as each states. -/
import Derived.Test.YtlmfmioljeppfaaGreatDoorLook
set_option maxHeartbeats 4000000
namespace Go.Proofs.YtlmfmioljeppfaaGreatDoor
open Go.RowKit Go.Shelf Go.Lib
def qb7(w:World)(cs:List Qb)(cls g:Str)(m:qi)(L:List Str)(e:Ending)(w':World):Prop :=
 Below w.heap.size w w'/\((∃F mb,QD cs cls g m L (some F)/\e=.returned (.tuple #[.map (some mb),.bool true])/\zaK (zk w') w' mb F)\/(QD cs cls g m L none/\e=.returned (.tuple #[.map none,.bool false])))
theorem qaB{cls:Str}{m:qi}{args:List Str}{g:Str}{A:Nat}(h:Z8 m args g A):(QP cls m.static args A).length<=8:=by
 have C:=h.args;have D:=h.small;have B:Z3 m=if m.static then args.length else args.length+1:=qaI h.type
 unfold QP Qak;cases hs:m.static with
 |true =>
  rw[hs,if_pos rfl]at B;simp only[if_true,List.nil_append,List.length_append,List.length_replicate];omega
 |false =>
  rw[hs,if_neg (by decide)]at B;simp only[Bool.false_eq_true,if_false,List.length_append,List.length_replicate,List.length_singleton];omega
theorem QaQ{cls:Str}(C:cls.size<=1048576){m:qi}(D:m.type.size<=1048576){args:List Str}{g:Str}{B:Nat}(h:Z8 m args g B):∀k∈QP cls m.static args B,k.size<=1048578:=by
 intro k A;unfold QP Qak at A;rcases List.mem_append.1 A with A|A
 ·rcases List.mem_append.1 A with A|A
  ·split at A
   ·cases A
   ·rw[List.mem_singleton.1 A,Zam];omega
  ·have:=(QQ h.type).1 k A;omega
 ·rw[(List.mem_replicate.1 A).2];decide
theorem ZdC{W:qm Frm}(H:W.Good){F:Asg Frm}(B:W.Oks F):W.weight F<=W.n*(W.top+1):=by
 have A:∀l:List Nat,(l.map (W.w1 F)).sum<=l.length*(W.top+1):=fun l=>by
  induction l with
  |nil=>simp
  |cons x r C =>
   rw[List.map_cons,List.sum_cons,List.length_cons,Nat.succ_mul];have:W.w1 F x<=W.top+1:=by
    unfold qm.w1;cases h:F x with
    |none=>exact Xl
    |some f =>
     have:=H.cap f (B x f h).2;dsimp only;omega
   omega
 have:=A (List.range W.n);rwa [List.length_range]at this
def qaK(cs:List Qb)(L:List Str)(j:Nat):Prop:=∀k∈L.take j,zd cs k=0
set_option maxRecDepth 100000
theorem qdb(l:List Qb)(B:Nat)(ws w:World)(hm:zy ws w B l)(m:qi)(cls g:Str)(args:List Str)(U:Nat)(J M:Option Addr)(N O:Nat)(hG:Z8 m args g U)(q:Z1 m)(hcl:cls.size<=1048576)(hcv:Zg w 6 Zw (.slice J m.code.length N) m.code)(hhv:Zg w 4 Qt (.slice M m.handlers.length O) m.handlers):
 Calls Tryz.prog 63 #[.map (some B),.string cls,.agg #[.string m.name,.string m.type,.bool m.static,.bool m.abs,.bool m.priv,.int .i64 m.locals,.slice J m.code.length N,.slice M m.handlers.length O]] w (qb7 w (Za l) cls g m (QP cls m.static args U)):=by
 have HA:Hid (∀(wx:World) (o:Obj),Below wx.heap.size wx (wx.alloc o)):=fun wx o=>Xb.alloc Xl o
 obtain⟨hs,hhs⟩:∃hs:List Value,hs=[.map (some B),.string m.name,.string m.type,.bool m.static,.bool m.abs,.bool m.priv,.int .i64 m.locals,.slice J m.code.length N,.slice M m.handlers.length O]:=⟨_,rfl⟩;have HF:Hid (∀wx,_):=fun wx=>zaY wx cls m.name m.type m.static m.abs m.priv U J M m.code.length N m.handlers.length O args g hG.type q.type hcl hG.small (ZS hG.type)
 rw[<-hG.locals]at HF;have hL8:=qaB (cls:=cls) hG;have HLs:=Xh (QaQ hcl q.type hG);have hgs:g.size<=maxLen:=Xf (Xf (QQ hG.type).2 q.type) (by decide);generalize QP cls m.static args U=L at *;have HKi:Hid (∀(wx:World) (k:Str),Below w.heap.size w wx->k.size<=maxLen->_):=fun wx k hb a=>Qbn ws wx B (Za l) (hm.map.step hb) hm.right.nodup k a
 unfold ZaK at HF;have hmm:=fun t w=>run_makeMap (P:=Tryz.prog) t w
 go_enter Tryz.func63,Tryz.ntmps63;go_upto_region 2 with fail;have kM:=((Blk.new w 53 [.string m.name,.string m.type,.bool m.static,.bool m.abs,.bool m.priv,.int .i64 m.locals,.slice J m.code.length N,.slice M m.handlers.length O]).step (HA.out _ (.map #[] 0))).step (HA.out _ (.cells #[.map (some B),.string m.name,.string m.type,.bool m.static,.bool m.abs,.bool m.priv,.int .i64 m.locals,.slice J m.code.length N,.slice M m.handlers.length O,.map (some (w.heap.size+1)),.slice none 0 0] 160));have B1:Below w.heap.size w (((w.alloc (.cells #[.string m.name,.string m.type,.bool m.static,.bool m.abs,.bool m.priv,.int .i64 m.locals,.slice J m.code.length N,.slice M m.handlers.length O] 53)).alloc (.map #[] 0)).alloc (.cells #[.map (some B),.string m.name,.string m.type,.bool m.static,.bool m.abs,.bool m.priv,.int .i64 m.locals,.slice J m.code.length N,.slice M m.handlers.length O,.map (some (w.heap.size+1)),.slice none 0 0] 160)):=((Xb.alloc Xl _).alloc (by simp) _).alloc (by simp;omega) _;have K1:LK w (((w.alloc (.cells #[.string m.name,.string m.type,.bool m.static,.bool m.abs,.bool m.priv,.int .i64 m.locals,.slice J m.code.length N,.slice M m.handlers.length O] 53)).alloc (.map #[] 0)).alloc (.cells #[.map (some B),.string m.name,.string m.type,.bool m.static,.bool m.abs,.bool m.priv,.int .i64 m.locals,.slice J m.code.length N,.slice M m.handlers.length O,.map (some (w.heap.size+1)),.slice none 0 0] 160)) (w.heap.size+1+1) (w.heap.size+1) hs (.slice none 0 0) (fun _=>none) []:=by
  refine⟨B1,by omega,by omega,?_,by rw[hhs];rfl,Que.empty _ _,?_⟩
  ·have:=Blk.new ((w.alloc (.cells #[.string m.name,.string m.type,.bool m.static,.bool m.abs,.bool m.priv,.int .i64 m.locals,.slice J m.code.length N,.slice M m.handlers.length O] 53)).alloc (.map #[] 0)) 160 [.map (some B),.string m.name,.string m.type,.bool m.static,.bool m.abs,.bool m.priv,.int .i64 m.locals,.slice J m.code.length N,.slice M m.handlers.length O,.map (some (w.heap.size+1)),.slice none 0 0];rw[World.size_alloc,World.size_alloc]at this;rw[hhs];exact this
  ·have:=zaK.made (zk (((w.alloc (.cells #[.string m.name,.string m.type,.bool m.static,.bool m.abs,.bool m.priv,.int .i64 m.locals,.slice J m.code.length N,.slice M m.handlers.length O] 53)).alloc (.map #[] 0)).alloc (.cells #[.map (some B),.string m.name,.string m.type,.bool m.static,.bool m.abs,.bool m.priv,.int .i64 m.locals,.slice J m.code.length N,.slice M m.handlers.length O,.map (some (w.heap.size+1)),.slice none 0 0] 160))) (w.alloc (.cells #[.string m.name,.string m.type,.bool m.static,.bool m.abs,.bool m.priv,.int .i64 m.locals,.slice J m.code.length N,.slice M m.handlers.length O] 53));rw[World.size_alloc]at this;exact this.keep (heap_alloc_old _ _ (by simp)) fun _ _ _ k=>k
 generalize (((w.alloc (.cells #[.string m.name,.string m.type,.bool m.static,.bool m.abs,.bool m.priv,.int .i64 m.locals,.slice J m.code.length N,.slice M m.handlers.length O] 53)).alloc (.map #[] 0)).alloc (.cells #[.map (some B),.string m.name,.string m.type,.bool m.static,.bool m.abs,.bool m.priv,.int .i64 m.locals,.slice J m.code.length N,.slice M m.handlers.length O,.map (some (w.heap.size+1)),.slice none 0 0] 160))=w1 at *;have m0:=kM.cell 0;have m1:=kM.cell 1;have m2:=kM.cell 2;have m3:=kM.cell 3;have m4:=kM.cell 4;have m5:=kM.cell 5;have m6:=kM.cell 6;have m7:=kM.cell 7;have HK1:=Xh K1;have HB1:=Xh B1;have Hm:=Xh hm;have HG:=Xh hG;have Hmo:=Xh q;have Hcv:=Xh hcv;have Hhv:=Xh hhv;have Hcl:=Xh hcl;have Hhs:=Xh hhs;clear K1 B1 kM hm hG q hcv hhv hcl hhs hmm;go_upto_region 3 with(go_fit (HF.out _);rintro e w2⟨hB2,p,n,c,rfl,hS2,_⟩)
 obtain⟨p',c',e,hn1,hn2,hcc⟩:=hS2.open;injection e with e1 e2 e3
 subst e1 e2 e3;have K3:=(HK1.out.step hB2).step (HA.out w2 (.cells #[.slice p L.length c,.slice none 0 0] 27));have f3:=Blk.new w2 27 [.slice p L.length c,.slice none 0 0];have S3:zk (w2.alloc (.cells #[.slice p L.length c,.slice none 0 0] 27)) (.slice p L.length c) (.slice none 0 0) ⟨L,[]⟩:=⟨hS2.mono (HA.out w2 _),Or.inl ⟨rfl,rfl⟩⟩;have HCc:Hid (∀i x,L[i]? = some x->∃b o,p=some ⟨b,o,none⟩/\(w2.alloc (.cells #[.slice p L.length c,.slice none 0 0] 27)).cell? ⟨b,o+i,none⟩=some (.string x)):=fun i x hx=>by
  obtain⟨b,o,vs,h1,v,_,h4⟩:=hcc i x hx;have v:vs=[.string x]:=v;subst v;have h5:=h4.1;rw[Nat.mul_one]at h5;exact⟨b,o,h1,((HA.out w2 _).cell (ql h5)).trans h5⟩
 generalize (w2.alloc (.cells #[.slice p L.length c,.slice none 0 0] 27))=w3 at *;have f0:=f3.cell 0;have f1:=f3.cell 1;have z:=Xh K3;have HS3:=Xh S3;have Hf3:=Xh f3;clear K3 S3 f3 hcc hS2 m0 m1 m2 m3 m4 m5 m6 m7 hB2;go_wp2_with fail;clear f0 f1;go_loopw [28] (fun x wr=>∃j:Nat,j<=L.length/\x=.int .i64 j/\Hid (Below w3.heap.size w3 wr)/\Hid (qaK (Za l) L j)) (fun x _=>L.length-(intOf x).toNat)
 case atStart=>exact⟨0,Nat.zero_le _,rfl,Xb,fun k a=>by simp at a⟩
 case round =>
  obtain⟨j,hj,rfl,hB,hI⟩:=hrel;by_cases hjl:j<L.length
  ·obtain⟨k,a⟩:∃k,L[j]? = some k:=⟨L[j],by simp[hjl]⟩;have hkm:=Xe a;obtain⟨b,o,rfl,c0⟩:=HCc.out j k a;replace c0:=(hB.out.cell (ql c0)).trans c0;have HKk:=Xh (HKi.out wr k (Qa z.out.below Xl hB.out) (Xf (HLs.out k hkm) (by decide)));rcases qI (zd (Za l) k) with⟨hv,d⟩|⟨hv,d⟩
   ·rw[hv]at HKk;have hI2:Hid (qaK (Za l) L (j+1)):=fun y hy=>by
     rw[List.take_add_one,a]at hy;rcases List.mem_append.1 hy with hy|hy
     ·exact hI.out y hy
     ·rw[show y=k by simpa using hy];exact d
    clear a hkm hv d;go_wp2_with (go_fit (HKk.out);rintro e w4⟨rfl,E⟩)
    go_roundw;case rel=>exact⟨j+1,by omega,by simp,Qa hB Xl E,hI2⟩
    case measure=>simp[intOf];omega
   ·rw[hv]at HKk;have H:Hid (QD (Za l) cls g m L none):=fun D=>by
     unfold Zaa at D;rw[Bool.and_eq_true]at D;exact absurd (beq_iff_eq.1 (List.all_eq_true.1 D.1 k hkm)) d
    clear a hkm hv d;go_wp2_with (go_fit (HKk.out);rintro e w4⟨rfl,E⟩)
    go_ret2;exact⟨Qa z.out.below Xl (Qa hB Xl E),Or.inr ⟨H.out,rfl⟩⟩
  ·obtain rfl:j=L.length:=(by omega);have hall:Hid (∀k∈L,zd (Za l) k=0):=fun k a=>hI.out k (by rw[List.take_length];exact a)
   have K4:=z.out.step hB.out;have k4:=Hf3.out.step hB.out;have aA:=Xh (HKi.out wr g (Qa z.out.below Xl hB.out) hgs);have HSt:Hid ((g=⟨#[86]⟩\/zd (Za l) g=0)->Zaa (Za l) L g=true):=fun h=>by
    unfold Zaa;rw[Bool.and_eq_true,Bool.or_eq_true];exact⟨List.all_eq_true.2 fun k a=>beq_iff_eq.2 (hall.out k a),h.imp Xj beq_iff_eq.2⟩
   have g0:=k4.cell 0;have g1:=k4.cell 1;have HK4:=Xh K4;have Hk4:=Xh k4;have HS4:=Xh (HS3.out.mono hB.out);clear K4 k4;by_cases I:g=⟨#[86]⟩\/zd (Za l) g=0
   ·have aB:=HSt.out I;go_upto_region 9 with fail;go_cut [44] (fun s wx=>s=.bool false/\Below wr.heap.size wr wx)
    case first =>
     clear g0 g1;by_cases hV:g=⟨#[86]⟩
     ·subst hV;go_wp2_with fail;go_meet;exact⟨rfl,Xb⟩
     ·have d:=I.resolve_left hV;rw[d,show zE 0=.nilIface from rfl]at aA;have hne:¬g.toList=[86]:=fun e=>hV (ByteArray.ext (Array.ext' (by rw[<-ByteArray.toList_eq];exact e)))
      clear d I;go_wp2_with (go_fit (aA.out);rintro e w4⟨rfl,E⟩)
      go_meet;exact⟨rfl,E⟩
    case rest =>
     obtain⟨rfl,E⟩:=hcut;clear g0 g1 aA HKi HSt;have D:=zay hL8 aB;have V:=Qbh Hm.out.right Hm.out.faults (cls:=cls) (Zb:=g) HG.out.code HG.out.hands D;have X:Calls _ _ _ _ _:=Zb7 l B ws w Hm.out wc (w.heap.size+1+1) (w.heap.size+1) hs (.slice none 0 0) (fun _=>none) [] (HK4.out.step E) (by rw[Hhs.out];rfl) 0 (Nat.zero_le _) ⟨L,[]⟩ (.slice p L.length c) (.slice none 0 0) (HS4.out.mono E) (Qas D) D (fun k f e=>by cases e) (Nat.zero_le _);unfold qa2 at X;dsimp only at X;replace X:Hid (Calls Tryz.prog 107 #[.pointer (some ⟨w.heap.size+1+1,0,none⟩),.int .i64 0,.agg #[.slice p L.length c,.slice none 0 0]] wc (fun e w'=>e=.returned (.bool true)/\∃tv',LK w w' (w.heap.size+1+1) (w.heap.size+1) hs tv' (Asg.put (fun _=>none) 0 ⟨L,[]⟩) [0]/\qX wc w' (w.heap.size+1+1) (w.heap.size+1) (.slice none 0 0) tv')):=X;have k5:=Hk4.out.step E;have g0:=k5.cell 0;have g1:=k5.cell 1;go_upto_region 12 with(go_fit (X.out);rintro e w6⟨rfl,tw,K6,_⟩)
     obtain⟨W,hW⟩:∃W,zQ (Za l) cls g m ⟨L,[]⟩=W:=⟨_,rfl⟩;rw[hW]at V;have hWs:W.start=⟨L,[]⟩:=(by rw[<-hW];rfl);have hLi:W.LInv (Asg.put (fun _=>none) 0 ⟨L,[]⟩,[0]):=by
      have:=qm.linv_start V (fun _=>none) (fun _=>rfl);rwa [hWs]at this
     have hw0:2*W.weight (Asg.put (fun _=>none) 0 ⟨L,[]⟩)+[0].length<=200000:=by
      have h1:=ZdC V hLi.oks;have v:W.n=m.code.length:=(by rw[<-hW];rfl);have h3:W.top=1600:=(by rw[<-hW];rfl);have h4:=(zO HG.out.code).small;dsimp only at h1;rw[v,h3]at h1;have h5:m.code.length*(1600+1)<=40*1601:=Nat.mul_le_mul h4 Xl;show 2*_+1<=_
      omega
     have HWe:=Xh hW;have HGd:=Xh V;have HLi:=Xh hLi;have Hw0:=Xh hw0;have HsB:=Xh aB;have HK6:=Xh K6;have HLk:Hid (∀(wx:World) (tv:Value) (F:Asg Frm) (T:List Nat) (i:Nat) (f:Frm),LK w wx (w.heap.size+1+1) (w.heap.size+1) hs tv F T->W.Oks F->W.weight F+T.length<=900000->F i=some f->Calls Tryz.prog 108 #[.pointer (some ⟨w.heap.size+1+1,0,none⟩),.string cls,.string g,.int .i64 (i:Int)] wx (Z4 w wx (w.heap.size+1+1) (w.heap.size+1) hs tv (W.look (F,T) i f))):=fun wx tv F T i f h1 v h3 h4=>by
      subst hW;exact qdW l B ws w Hm.out m cls g ⟨L,[]⟩ J M N O hs Hhs.out Hcv.out Hhv.out HG.out.code HG.out.hands Hmo.out.code (Xf Hcl.out (by decide)) hgs V wx _ _ tv F T h1 v h3 i f h4
     clear hW hWs hLi hw0 V D aB k5 g0 g1 K6 X E;go_loopg [] (2*W.weight (Asg.put (fun _=>none) 0 ⟨L,[]⟩)+[0].length) (fun k wr=>∃(F:Asg Frm) (T:List Nat) (tw:Value),k=2*W.weight F+T.length/\k<=200000/\Hid (LK w wr (w.heap.size+1+1) (w.heap.size+1) hs tw F T)/\Hid (W.LInv (F,T)))
     case atStart=>exact⟨_,[0],tw,rfl,Hw0,HK6,HLi⟩
     case round =>
      obtain⟨F,T,tw,hgk,hg2,hK,hI⟩:=hrel;have c10:=hK.out.cell10;have c9:=hK.out.cell9;cases T with
      |nil =>
       obtain⟨a6,c6,rfl⟩:=ZaA hK.out.que;go_wp2_with fail;go_ret2;have hl:=qm.linv_end hI.out;rw[<-HWe.out]at hl;exact⟨hK.out.below,Or.inl ⟨F,_,⟨HsB,hl⟩,rfl,hK.out.map⟩⟩
      |cons i r =>
       obtain⟨b,off,cap,rfl,hc0,hle,hmx,hq'⟩:=hK.out.que.head;obtain⟨f,hFi⟩:=hI.out.todo i (List.mem_cons_self ..);replace hc0:wr.cell? ⟨b,off,none⟩=some (.int .i64 (i:Int)):=hc0;have z10:=hK.out.box.frozen 10;have hlen:r.length+1<=200000:=by
        rw[List.length_cons]at hgk;omega
       have K7:=hK.out.todo (World.grownBy.refl wr _) hq';have A:=HLk.out _ _ F r i f K7 hI.out.oks (by rw[List.length_cons]at hgk;omega) hFi;have Y:Hid (∀R,W.look (F,r) i f=some R->W.LInv R/\2*W.weight R.1+R.2.length<2*W.weight F+(r.length+1)):=fun R e=>qm.linv_step HGd.out hI.out hFi e
       have Z:Hid (W.look (F,r) i f=none->∀G,¬W.Closed G):=fun e=>qm.linv_fail HGd.out hI.out hFi e
       have Hgk:Hid (gk=2*W.weight F+(r.length+1)):=hgk;clear hgk hI hFi hq';by_cases hcap:cap=0
       ·subst hcap;obtain rfl:r=[]:=List.eq_nil_of_length_eq_zero (Nat.le_zero.1 hle);simp only[if_true,List.length_nil]at K7 A;have HK7:=Xh K7;clear K7;cases C:W.look (F,[]) i f with
        |none =>
         rw[C]at A;have A:=Xh A;unfold Z4 at A;have hn:=Z.out C;rw[<-HWe.out]at hn;have H:Hid (QD (Za l) cls g m L none):=fun _=>hn
         clear hn C Y Z;go_wp2_with (go_fit (A.out);rintro e w8⟨rfl,hB8⟩)
         go_ret2;exact⟨hB8,Or.inr ⟨H.out,rfl⟩⟩
        |some R =>
         rw[C]at A;have A:=Xh A;unfold Z4 at A;have S:=Xh (Y.out R C);clear C Y Z;go_wp2_with (go_fit (A.out);rintro e w8⟨rfl,tw',K8,_⟩)
         go_roundg (2*W.weight R.1+R.2.length)
         case measure =>
          have h1:=S.out.2;have v:=Hgk.out;omega
         case rel =>
          have h1:=S.out.2;have v:=Hgk.out;exact⟨R.1,R.2,tw',rfl,by omega,K8,S.out.1⟩
       ·rw[if_neg hcap]at K7 A;have HK7:=Xh K7;clear K7;cases C:W.look (F,r) i f with
        |none =>
         rw[C]at A;have A:=Xh A;unfold Z4 at A;have hn:=Z.out C;rw[<-HWe.out]at hn;have H:Hid (QD (Za l) cls g m L none):=fun _=>hn
         clear hn C Y Z;go_wp2_with (go_fit (A.out);rintro e w8⟨rfl,hB8⟩)
         go_ret2;exact⟨hB8,Or.inr ⟨H.out,rfl⟩⟩
        |some R =>
         rw[C]at A;have A:=Xh A;unfold Z4 at A;have S:=Xh (Y.out R C);clear C Y Z;go_wp2_with (go_fit (A.out);rintro e w8⟨rfl,tw',K8,_⟩)
         go_roundg (2*W.weight R.1+R.2.length)
         case measure =>
          have h1:=S.out.2;have v:=Hgk.out;omega
         case rel =>
          have h1:=S.out.2;have v:=Hgk.out;exact⟨R.1,R.2,tw',rfl,by omega,K8,S.out.1⟩
   ·rw[not_or]at I;obtain⟨hV,d⟩:=I;have hne:¬g.toList=[86]:=fun e=>hV (ByteArray.ext (Array.ext' (by rw[<-ByteArray.toList_eq];exact e)))
    have hne2:(g.toList==[86])=false:=(by simpa using hne);have H:Hid (QD (Za l) cls g m L none):=fun D=>by
     unfold Zaa at D;rw[Bool.and_eq_true,Bool.or_eq_true]at D;rcases D.2 with h|h
     ·exact absurd (Xm h) hV
     ·exact absurd (beq_iff_eq.1 h) d
    rcases qI (zd (Za l) g) with⟨_,hz'⟩|⟨hv,_⟩
    ·exact absurd hz' d
    ·rw[hv]at aA;clear d hV hv;go_wp2_with (go_fit (aA.out);rintro e w4⟨rfl,E⟩)
     go_ret2;exact⟨Qa z.out.below Xl (Qa hB Xl E),Or.inr ⟨H.out,rfl⟩⟩
set_option maxRecDepth 512
end Go.Proofs.YtlmfmioljeppfaaGreatDoor
