/- Lemmas; conditions: as each states. -/
import Derived.Test.YtlmfmioljeppfaaGreatDoorLooked
set_option maxHeartbeats 4000000
namespace Go.Proofs.YtlmfmioljeppfaaGreatDoor
open Go.RowKit Go.Shelf Go.Lib
def qco(w:World)(l:List Qb)(cls:Str)(at':Int)(e:Ending)(w':World):Prop :=
 Below w.heap.size w w'/\((zG l cls at'=0/\∃m ws B v,zV cls at' l=some m/\Hid (m.abs=false)/\e=.returned (.tuple #[.map (some B),v,.nilIface])/\qY w m v/\Qw ws w' B l) \/
  (zG l cls at'≠0/\e=.returned (.tuple #[.map none,.agg zo.toArray,.iface 29 (.int .i64 (zG l cls at'))])))
theorem zcg{w0 w w':World}{B:Nat}{cs:List Qb}(h:Zp w0 w B cs)(hb:Below w0.heap.size w0 w')(hh:w'.heap[B]? = w.heap[B]?):Zp w0 w' B cs:=by
 obtain⟨_,h2,h3,es,clock,h4,h5,h6⟩:=h;exact⟨hb,h2,(Array.getElem?_eq_some_iff.1 (hh.trans h4)).1,es,clock,hh.trans h4,h5,h6⟩
theorem qc8{w:World}{b B:Nat}(h:B≠b)(v0 v1 v2 v3 v4 v5 v6 v7:Value):
 ((((((((w.setCell ⟨b,0,none⟩ v0).setCell ⟨b,1,none⟩ v1).setCell ⟨b,2,none⟩ v2).setCell ⟨b,3,none⟩ v3).setCell ⟨b,4,none⟩ v4).setCell ⟨b,5,none⟩ v5).setCell ⟨b,6,none⟩ v6).setCell ⟨b,7,none⟩ v7).heap[B]? = w.heap[B]? :=
 (Xk _ _ _ _ h).trans ((Xk _ _ _ _ h).trans ((Xk _ _ _ _ h).trans ((Xk _ _ _ _ h).trans ((Xk _ _ _ _ h).trans ((Xk _ _ _ _ h).trans ((Xk _ _ _ _ h).trans (Xk _ _ _ _ h)))))))
theorem qbN{cls:Str}{at':Int}{l:List Qb}{k:Nat}{c:Qb}(hk:l[k]? = some c):zV cls at' (l.drop k)=if c.name=cls/\0<=at'/\at'<(c.methods.length:Int) then c.methods[at'.toNat]? else zV cls at' (l.drop (k+1)):=by
 obtain⟨hk2,rfl⟩:=List.getElem?_eq_some_iff.1 hk;rw[List.drop_eq_getElem_cons hk2];rfl
set_option maxRecDepth 100000
theorem zdy(l:List Qb)(lv:Value)(cls:Str)(at':Int)(w:World)(hl:Qaw w)(ho:∀c∈l,qV c)(hlv:qi w lv l):
 Calls Tryz.prog 62 #[lv,.string cls,.int .i64 at'] w (qco w l cls at'):=by
 have HRd:Hid (∀wx,Below w.heap.size w wx->_):=fun wx hb=>Qco l lv w wx hb (hl.mono hb hl.1) ho hlv
 obtain⟨pl,cap,rfl,hn1,hn2,hcc⟩:=hlv.open;have HC:=Xh hcc;have hlen:l.length<=9223372036854775807:=Xf hn1 hn2;have B0:Below w.heap.size w (w.alloc (.cells #[.string ⟨#[]⟩,.string ⟨#[]⟩,.bool false,.bool false,.bool false,.int .i64 0,.slice none 0 0,.slice none 0 0] 53)):=Xb.alloc Xl _;have k0:=Blk.new w 53 zo;clear hcc hlv hl ho;unfold QbF Qbt at HRd;by_cases hz:Zj l=0
 ·have HN:Hid (zG l cls at'=match zV cls at' l with|none=>3|some m=>if m.abs then 1 else 0):=by
   unfold Hid zG;rw[if_neg (by rw[hz];decide)];cases zV cls at' l<;>rfl
  have HZ:=Xh hz;clear hz;go_enter Tryz.func62,Tryz.ntmps62;go_wp2_with (go_fit (HRd.out _ B0);rintro e w2⟨⟨hB2,⟨_,rfl,_,_,hA,_,_⟩|⟨hz,_⟩⟩,hMb⟩;rotate_left;(exact absurd HZ.out hz))
  have k2:=k0.step hB2;have B2:=Qa B0 Xl hB2;have HB2:=Xh B2;have Hk2:=Xh k2;have hM:=hMb HZ.out;rw[World.size_alloc]at hM;have Hm:=Xh hM;have HR:=Xh (And.intro (Qal HZ.out) hA);clear k0 B0 hB2 B2 k2 hM hMb hA HRd;go_loopw [24] (fun x wr=>∃k:Nat,k<=l.length/\x=.int .i64 k/\Hid (Below w2.heap.size w2 wr)/\Hid (zV cls at' (l.drop k)=zV cls at' l)) (fun x _=>l.length-(intOf x).toNat)
  case atStart=>exact⟨0,Nat.zero_le _,rfl,Xb,rfl⟩
  case round =>
   obtain⟨k,hk,rfl,hB,hN⟩:=hrel;by_cases hkl:k<l.length
   ·obtain⟨c,hx⟩:∃x,l[k]? = some x:=⟨l[k],by simp[hkl]⟩;obtain⟨b,o,vs,rfl,⟨fv,dv,mv,rfl,q1,q2,q3⟩,_,qc⟩:=HC.out k c hx;have qc:=qc.mono (Qa HB2 Xl hB) qc.lt;have Zc:=qbN (cls:=cls) (at':=at') hx;rw[hN.out]at Zc;obtain⟨cn,cs,cf,cb,cd,cm⟩:=c;dsimp only at Zc qc q3;obtain⟨c0,c1,c2,c3,c4,c5,_⟩:=qc;obtain⟨pm,km,rfl,hm1,hm2,hmc⟩:=q3.open;obtain⟨pf,kf,rfl,_⟩:=q1.open;obtain⟨pd,kd,rfl,_⟩:=q2.open;have e1:=Z5 cn cls;have hmlen:cm.length<=9223372036854775807:=Xf hm1 hm2;have HMc:=Xh hmc;have Hx:=Xh hx;clear hx hmc q1 q2 q3;by_cases hcn:cn=cls
    ·rw[Xj hcn]at e1;by_cases ha:0<=at'/\at'<(cm.length:Int)
     ·obtain⟨ha0,ha1⟩:=ha;obtain⟨a,rfl⟩:=Int.eq_ofNat_of_zero_le ha0;rw[if_pos ⟨hcn,ha0,ha1⟩]at Zc;have hal:a<cm.length:=(by omega);obtain⟨mm,hmm⟩:∃x,cm[a]? = some x:=⟨cm[a],by simp[hal]⟩;have hst:zV cls (a:Int) l=some mm:=(by rw[Zc];exact hmm);obtain⟨bb,oo,vs,rfl,⟨cv,hv,rfl,k1,k2⟩,_,hcl⟩:=HMc.out a mm hmm;have hcl:=hcl.mono (Qa HB2 Xl hB) hcl.lt;obtain⟨pc,kc,rfl,_⟩:=k1.open;obtain⟨ph,kh,rfl,_⟩:=k2.open;have HMi:Hid (qY w mm (.agg #[.string mm.name,.string mm.type,.bool mm.static,.bool mm.abs,.bool mm.priv,.int .i64 mm.locals,.slice pc mm.code.length kc,.slice ph mm.handlers.length kh])):=⟨pc,kc,ph,kh,rfl,k1,k2⟩;have HSt:=Xh hst;have hN1:Hid (zG l cls (a:Int)=if mm.abs then 1 else 0):=by
       unfold Hid;rw[HN.out,hst]
      clear hst Zc hmm k1 k2 HN hN ha0;subst hcn;obtain⟨mn,mt,mst,mab,mpr,mlo,mco,mha⟩:=mm;dsimp only at hcl hN1 HMi;have hBa:Below wr.heap.size wr (wr.alloc (.cells #[.string cn,.string cs,.slice pf cf.length kf,.bool cb,.slice pd cd.length kd,.slice (some ⟨bb,oo,none⟩) cm.length km] 36)):=Xb.alloc Xl _;have g5:=(Blk.new wr 36 [.string cn,.string cs,.slice pf cf.length kf,.bool cb,.slice pd cd.length kd,.slice (some ⟨bb,oo,none⟩) cm.length km]).cell 5;obtain⟨u0,u1,u2,u3,u4,u5,u6,u7,_⟩:=hcl.mono hBa hcl.lt;have u3':(wr.alloc (.cells #[.string cn,.string cs,.slice pf cf.length kf,.bool cb,.slice pd cd.length kd,.slice (some ⟨bb,oo,none⟩) cm.length km] 36)).cell? ⟨bb,oo+a*8+3,none⟩=some (.bool mab):=u3;have k3:=(Hk2.out.step hB.out).step hBa;have B3:=Qa (Qa HB2 Xl hB) Xl hBa;have HM3:=Xh ((Hm.out.step hB.out).step hBa);clear hBa;obtain⟨q0,q1,q2,q3,q4,q5,q6,q7⟩:=k3.method;have hfz:=k3.frozen;have HSt2:=HSt.out;cases mab with
      |true =>
       have HN2:Hid (zG l cn (a:Int)=1):=hN1.out;have HE:=Xh (ZB B3 Xl (.string ⟨#[]⟩) (.string ⟨#[]⟩) (.bool false) (.bool false) (.bool false) (.int .i64 0) (.slice none 0 0) (.slice none 0 0));clear B3 k3 HSt2 hN1 HM3;go_wp2_with fail;exact bodyPost_ret (v:=.tuple #[.map none,.agg zo.toArray,.iface 29 (.int .i64 1)]) (by simp[results,Tryz.results62,go_sem, *,zo]) rfl ⟨HE,Or.inr ⟨by rw[HN2.out];decide,by rw[HN2.out];rfl⟩⟩
      |false =>
       have HN2:Hid (zG l cn (a:Int)=0):=hN1.out;have hE:=ZB B3 Xl (.string mn) (.string mt) (.bool mst) (.bool false) (.bool mpr) (.int .i64 mlo) (.slice pc mco.length kc) (.slice ph mha.length kh);have hM4:=(zcg HM3.out hE (qc8 (Nat.succ_ne_self _) (.string mn) (.string mt) (.bool mst) (.bool false) (.bool mpr) (.int .i64 mlo) (.slice pc mco.length kc) (.slice ph mha.length kh))).step (Xb.drew);have HE:=Xh hE.drew;have HM4:Hid (Qw _ _ _ _):=⟨hM4,HR.out.1,HR.out.2⟩;have HS2:=Xh HSt2;clear B3 k3 HSt2 hN1 HM3 hE hM4;go_upto_region 10 with fail;go_region
       clear u0 u1 u2 u3 u4 u5 u6 u7 u3' g5;all_goals
        go_wp2_with fail;exact bodyPost_ret (v:=.tuple #[.map (some (w.heap.size+1)),.agg #[.string mn,.string mt,.bool mst,.bool false,.bool mpr,.int .i64 mlo,.slice pc mco.length kc,.slice ph mha.length kh],.nilIface]) (by simp[results,Tryz.results62,go_sem, *]) rfl ⟨HE,Or.inl ⟨HN2,_,w,w.heap.size+1,_,HS2,rfl,rfl,HMi,HM4⟩⟩
     ·rw[if_neg (fun h=>ha h.2)]at Zc;have hst:=Xh Zc.symm;have HI:=Xh ha;clear Zc ha;by_cases h0:0<=at'
      ·have h1:¬at'<(cm.length:Int):=fun h=>HI.out ⟨h0,h⟩
       go_wp2_with fail;go_roundw;case rel=>exact⟨k+1,by omega,by simp,hB.out.alloc hB.out.size _,hst⟩
       case measure=>simp[intOf];omega
      ·go_wp2_with fail;go_roundw;case rel=>exact⟨k+1,by omega,by simp,hB.out.alloc hB.out.size _,hst⟩
       case measure=>simp[intOf];omega
    ·rw[Xi hcn]at e1;rw[if_neg (fun h=>hcn h.1)]at Zc;have hst:=Xh Zc.symm;clear Zc hcn;go_wp2_with fail;go_roundw;case rel=>exact⟨k+1,by omega,by simp,hB.out.alloc hB.out.size _,hst⟩
     case measure=>simp[intOf];omega
   ·obtain rfl:k=l.length:=(by omega);have hNo:zV cls at' l=none:=by
     rw[<-hN.out,List.drop_length];rfl
    have HN3:Hid (zG l cls at'=3):=by
     unfold Hid;rw[HN.out,hNo]
    have k3:=Hk2.out.step hB.out;obtain⟨q0,q1,q2,q3,q4,q5,q6,q7⟩:=k3.method;have hfz:=k3.frozen;have HE:=Xh (ZB (Qa HB2 Xl hB) Xl (.string ⟨#[]⟩) (.string ⟨#[]⟩) (.bool false) (.bool false) (.bool false) (.int .i64 0) (.slice none 0 0) (.slice none 0 0));clear k3;go_wp2_with fail;exact bodyPost_ret (v:=.tuple #[.map none,.agg zo.toArray,.iface 29 (.int .i64 3)]) (by simp[results,Tryz.results62,go_sem, *,zo]) rfl ⟨HE,Or.inr ⟨by rw[HN3.out];decide,by rw[HN3.out];rfl⟩⟩
 ·have HN:Hid (zG l cls at'=Zj l):=by
   unfold Hid zG;rw[if_pos hz]
  have HZ:=Xh hz;clear hz;go_enter Tryz.func62,Tryz.ntmps62;go_upto_region 3 with(go_fit (HRd.out _ B0);rintro e w2⟨⟨hB2,⟨hz,_⟩|⟨_,rfl⟩⟩,_⟩;(exact absurd hz HZ.out))
  have k3:=k0.step hB2;obtain⟨q0,q1,q2,q3,q4,q5,q6,q7⟩:=k3.method;have hfz:=k3.frozen;have HE:=Xh (ZB (Qa B0 Xl hB2) Xl (.string ⟨#[]⟩) (.string ⟨#[]⟩) (.bool false) (.bool false) (.bool false) (.int .i64 0) (.slice none 0 0) (.slice none 0 0));clear k3 k0;go_wp2_with fail;exact bodyPost_ret (v:=.tuple #[.map none,.agg zo.toArray,.iface 29 (.int .i64 (Zj l))]) (by simp[results,Tryz.results62,go_sem, *,zo]) rfl ⟨HE,Or.inr ⟨by rw[HN.out];exact HZ.out,by rw[HN.out]⟩⟩
set_option maxRecDepth 512
theorem QdS:(Tryz.prog.info? 62).map (fun i=>(i.zero,i.size,i.bytes))=some (some (.agg #[.int .i64 0,.slice none 0 0,.slice none 0 0]),3,56):=by kernel_rfl
def qar(l:List Value):Prop:=∀u∈l,∀s,u≠.string s
def zZ(te:TypeId)(w:World)(base:Nat)(v:Value)(n:Nat)(xs:List Value):Prop:=(v=.slice none 0 0/\n=0/\xs=[]) \/
 ∃b cap vals,v=.slice (some ⟨b,0,none⟩) n cap/\base<=b/\Blk w b te vals/\n<=cap/\cap<=maxLen/\cap*3<=vals.length/\xs.length=n*3/\qar vals/\∀(j:Nat) (u:Value),xs[j]? = some u->vals[j]? = some u
theorem zZ.empty(te:TypeId)(w:World)(base:Nat):zZ te w base (.slice none 0 0) 0 []:=Or.inl ⟨rfl,rfl,rfl⟩
theorem zZ.lt{te:TypeId}{w:World}{base:Nat}{v:Value}{n:Nat}{xs:List Value}(h:zZ te w base v n xs):∀g,v.ownBlock=some g->base<=g/\g<w.heap.size:=by
 intro g hg;rcases h with⟨rfl,_⟩|⟨b,cap,vals,rfl,h1,h2,_⟩
 ·cases hg
 ·injection hg with hg
  subst hg;exact⟨h1,h2.lt⟩
theorem zZ.keep{te:TypeId}{w w':World}{base:Nat}{v:Value}{n:Nat}{xs:List Value}(h:zZ te w base v n xs)(hb:∀g,v.ownBlock=some g->w'.heap[g]? = w.heap[g]?):zZ te w' base v n xs:=by
 rcases h with h|⟨b,cap,vals,rfl,h1,h2,h3⟩
 ·exact Or.inl h
 ·exact Or.inr ⟨b,cap,vals,rfl,h1,(hb b rfl).trans h2,h3⟩
theorem zZ.below{te:TypeId}{w w':World}{base:Nat}{v:Value}{n:Nat}{xs:List Value}(h:zZ te w base v n xs)(hb:Below w.heap.size w w'):zZ te w' base v n xs:=h.keep fun g hg=>hb.block g (h.lt g hg).2
theorem zZ.shape{te:TypeId}{w:World}{base:Nat}{v:Value}{n:Nat}{xs:List Value}(h:zZ te w base v n xs):∃a c,v=.slice a n c:=by
 rcases h with⟨rfl,rfl,_⟩|⟨b,cap,vals,rfl,_⟩
 ·exact⟨none,0,rfl⟩
 ·exact⟨_,_,rfl⟩
theorem zZ.keepS{te:TypeId}{w w':World}{base:Nat}{v:Value}{n:Nat}{xs:List Value}(h:zZ te w base v n xs)(hg:w.grownBy w' v.ownBlock):Qy w w':=by
 rcases h with⟨rfl,_⟩|⟨b,cap,vals,rfl,_,h2,_,_,_,_,h6,_⟩
 ·exact fun a s e=>(World.cell?_of_block (hg.block a.block (Zl e) (by simp[Value.ownBlock]))).trans e
 ·refine Qy.blocks b (fun k hk hne=>hg.block k hk fun e=>hne (Option.some.inj e)) fun a s ha e=>?_
  obtain⟨c,off,spot⟩:=a;have ha:c=b:=ha;subst ha;cases spot with
  |none =>
   rw[h2.cell off]at e;exact h6 _ (Xe e) s rfl
  |some x =>
   unfold Blk at h2;unfold World.cell? at e;rw[h2]at e;cases e
theorem Zdy{n:Nat}{u:Value}(h:u∈(Builtin.zeroCells (Value.agg #[.int .i64 0,.slice none 0 0,.slice none 0 0]).cells n).toList):∀s,u≠.string s:=by
 unfold Builtin.zeroCells at h;simp only[Array.toList_map,List.mem_map]at h;obtain⟨i,_,rfl⟩:=h;have hc:(Value.agg #[.int .i64 0,.slice none 0 0,.slice none 0 0]).cells=#[.int .i64 0,.slice none 0 0,.slice none 0 0]:=by kernel_rfl
 rw[hc];intro s;have h3:i % 3<3:=Nat.mod_lt _ (by decide);show #[Value.int .i64 0,.slice none 0 0,.slice none 0 0].getD (i % 3) _≠_
 match hq:i % 3,h3 with
 |0,_=>simp
 |1,_=>simp
 |2,_=>simp
theorem zZ.made(te:TypeId)(w:World){base n cap:Nat}{xs:List Value}(hb:base<=w.heap.size)(h1:n<=cap)(h2:cap<=maxLen)(hx:xs.length=n*3)(ht:qar xs):
 zZ te (w.alloc (.cells (xs.toArray++Builtin.zeroCells (Value.agg #[.int .i64 0,.slice none 0 0,.slice none 0 0]).cells (cap-n)) te)) base (.slice (some ⟨w.heap.size,0,none⟩) n cap) n xs:=by
 have hc:(Value.agg #[.int .i64 0,.slice none 0 0,.slice none 0 0]).cells.size=3:=by kernel_rfl
 have hE:xs.toArray++Builtin.zeroCells (Value.agg #[.int .i64 0,.slice none 0 0,.slice none 0 0]).cells (cap-n)=(xs++(Builtin.zeroCells (Value.agg #[.int .i64 0,.slice none 0 0,.slice none 0 0]).cells (cap-n)).toList).toArray:=by
  apply Array.ext';simp
 rw[hE];refine Or.inr ⟨w.heap.size,cap,_,rfl,hb,Blk.new w te _,h1,h2,?_,hx,fun u hu=>?_,fun j u hj=>?_⟩
 ·have hz:=size_zeroCells (Value.agg #[.int .i64 0,.slice none 0 0,.slice none 0 0]).cells (cap-n);rw[hc]at hz;rw[List.length_append,hx,show(Builtin.zeroCells (Value.agg #[.int .i64 0,.slice none 0 0,.slice none 0 0]).cells (cap-n)).toList.length=(cap-n)*3 from hz,<-Nat.add_mul];exact Nat.mul_le_mul_right _ (by omega)
 ·rcases List.mem_append.1 hu with hu|hu
  ·exact ht u hu
  ·exact Zdy hu
 ·rw[List.getElem?_append_left (List.getElem?_eq_some_iff.1 hj).1];exact hj
theorem zdT{vals:List Value}{o:Nat}{a b c:Value}{xs:List Value}(hl:xs.length=o)(hs:o+3<=vals.length)(h:∀(j:Nat) (u:Value),xs[j]? = some u->vals[j]? = some u):
 ∀(j:Nat) (u:Value),(xs++[a,b,c])[j]? = some u->(((vals.set o a).set (o+1) b).set (o+2) c)[j]? = some u:=by
 intro j u hu;by_cases hj:j<xs.length
 ·rw[List.getElem?_append_left hj]at hu;rw[List.getElem?_set_ne (by omega),List.getElem?_set_ne (by omega),List.getElem?_set_ne (by omega)];exact h j u hu
 ·rw[List.getElem?_append_right (by omega)]at hu;have hj3:j-xs.length<3:=(List.getElem?_eq_some_iff.1 hu).1;obtain⟨d,hd⟩:∃d,j=o+d:=⟨j-o,by omega⟩;subst hd;rw[hl,Nat.add_sub_cancel_left]at hu hj3;match d,hj3 with
  |0,_ =>
   rw[List.getElem?_set_ne (by omega),List.getElem?_set_ne (by omega),Nat.add_zero,List.getElem?_set_self (by omega)];exact hu
  |1,_ =>
   rw[List.getElem?_set_ne (by omega),List.getElem?_set_self (by rw[List.length_set];omega)];exact hu
  |2,_ =>
   rw[List.getElem?_set_self (by rw[List.length_set,List.length_set];omega)];exact hu
theorem qbm{l:List Value}(h:qar l)(o:Nat){a:Value}(ha:∀s,a≠.string s):qar (l.set o a):=fun u hu=>by
 rcases List.mem_or_eq_of_mem_set hu with hu|rfl
 ·exact h u hu
 ·exact ha
theorem zaW{te ts:TypeId}(hu:Tryz.prog.underlying ts=some (.slice te))(hinfo:(Tryz.prog.info? te).map (fun i=>(i.zero,i.size,i.bytes))=some (some (.agg #[.int .i64 0,.slice none 0 0,.slice none 0 0]),3,56)){w:World}(ty:TypeId){base:Nat}{v:Value}{n:Nat}{xs:List Value}(h:zZ te w base v n xs)(hbase:base<=w.heap.size)(y0 y1 y2:Value)(ad:Addr)(c:Nat)(hc:∀j u,[y0,y1,y2][j]? = some u->w.cell? (ad.add j)=some u)(ho:∀u∈[y0,y1,y2],u.oneCell'=true)(ht:qar [y0,y1,y2])(h63:n+1<=maxLen)(hbytes:(n+1)*56<=140737488355328):
 ∃v' w',(Builtin.append_ #[ts,ts] ty #[v,.slice (some ad) 1 c]).run Tryz.prog w=.ok v' w'/\zZ te w' base v' (n+1) (xs++[y0,y1,y2])/\w.grownBy w' v.ownBlock/\∀g,v'.ownBlock=some g->v.ownBlock=some g\/w.heap.size<=g:=by
 obtain⟨i0,hi,hz0,hz1,hz2⟩:=info_parts hinfo;rcases h with⟨rfl,rfl,rfl⟩|⟨b,cap,vals,rfl,hb,hh,hlc,hcm,hfit,hxl,hnt,hcur⟩
 ·have hr:=run_append_nil (P:=Tryz.prog) (w:=w) ts ty te i0 _ hu hi hz0 ad 1 c [y0,y1,y2] (by rw[hz1];rfl) hc (by decide) (by decide) (by rw[hz2];decide);exact⟨_,_,hr,zZ.made te w.drew hbase (grownCap_ge w 1 0 te) (grownCap_le_maxLen w 1 0 te (by decide)) rfl ht,⟨rfl,rfl,rfl,by simp,fun k hk _=>heap_alloc_old w.drew _ hk⟩,fun g hg=>Or.inr (Nat.le_of_eq (Option.some.inj hg))⟩
 ·by_cases hroom:n+1<=cap
  ·have hsz:i0.size=3:=hz1;have hin:∀j,j<3->n*3+j<vals.length:=fun j hj=>by have:=Nat.mul_le_mul_right 3 hroom;omega
   have hr:=run_append_room_cells (P:=Tryz.prog) w ts ty te i0 hu hi b 0 n cap ad 1 c [y0,y1,y2] (by rw[hsz];rfl) hc ho hroom
    (fun j hj=>by
     rw[hsz,Nat.zero_add,hh.cell,Xn (hin j hj)];rfl)
    (fun j _=>hh.frozen _)
   rw[hsz,Nat.zero_add]at hr;refine⟨_,_,hr,Or.inr ⟨b,cap,((vals.set (n*3) y0).set (n*3+1) y1).set (n*3+2) y2,rfl,hb,((hh.put _ _).put _ _).put _ _,hroom,hcm,by simpa using hfit,by rw[List.length_append,hxl];show _+3=_;omega,?_,zdT hxl (by have:=hin 2 (by decide);omega) hcur⟩,⟨rfl,rfl,rfl,by simp[World.setCells],fun k hk hne=>?_⟩,fun g hg=>Or.inl hg⟩
   ·exact qbm (qbm (qbm hnt _ (ht y0 (by simp))) _ (ht y1 (by simp))) _ (ht y2 (by simp))
   ·have hne':k≠b:=fun e=>hne (by rw[e];rfl)
    exact(Xk _ _ _ _ hne').trans ((Xk _ _ _ _ hne').trans (Xk _ _ _ _ hne'))
  ·have hr:=run_append_grow (P:=Tryz.prog) (w:=w) ts ty te i0 _ hu hi hz0 ⟨b,0,none⟩ n cap xs (by rw[hz1];exact hxl)
    (fun j u hu=>by
     rw[zaR rfl,Nat.zero_add,hh.cell];exact hcur j u hu) ad 1 c [y0,y1,y2] (by rw[hz1];rfl) hc (by omega) (by unfold maxLen at h63;omega) (growslice_fits (by omega) (by rw[hz2];exact hbytes))
   have hnx:qar xs:=fun u hu=>by
    obtain⟨j,hj,rfl⟩:=List.getElem_of_mem hu;exact hnt _ (Xe (hcur j _ (Xn hj)))
   have hm:=zZ.made te w.drew (xs:=xs++[y0,y1,y2]) (base:=base) (n:=n+1) (cap:=grownCap w (n+1) cap te) hbase (grownCap_ge w _ _ _) (grownCap_le_maxLen w _ _ _ h63) (by rw[List.length_append,hxl];show _+3=_;omega) (fun u hu=>by
    rcases List.mem_append.1 hu with hu|hu
    ·exact hnx u hu
    ·exact ht u hu)
   rw[<-List.append_toArray]at hm;exact⟨_,_,hr,hm,⟨rfl,rfl,rfl,by simp,fun k hk _=>heap_alloc_old w.drew _ hk⟩,fun g hg=>Or.inr (Nat.le_of_eq (Option.some.inj hg))⟩
theorem Qbm{te ts:TypeId}(hu:Tryz.prog.underlying ts=some (.slice te))(hinfo:(Tryz.prog.info? te).map (fun i=>(i.zero,i.size,i.bytes))=some (some (.agg #[.int .i64 0,.slice none 0 0,.slice none 0 0]),3,56)){w:World}{ops:Array Oper}{rest:List Oper}{o:Oper}{a:Act}{Q:Exit->Act->World->Prop}(hgd:o.guard=none)(s x:Operand)(ho:o.op=.call { callee:=.builtin .append,args:=#[s,x],argTypes:=#[ts,ts] })(base:Nat)(v:Value)(n:Nat)(xs:List Value)(hs:a.eval s=v)(h:zZ te w base v n xs)(hbase:base<=w.heap.size)(y0 y1 y2:Value)(ad:Addr)(c:Nat)(hx:a.eval x=.slice (some ad) 1 c)(hc:∀j u,[y0,y1,y2][j]? = some u->w.cell? (ad.add j)=some u)(h1:∀u∈[y0,y1,y2],u.oneCell'=true)(ht:qar [y0,y1,y2])(h63:n+1<=maxLen)(hbytes:(n+1)*56<=140737488355328)(hK:∀v' w',zZ te w' base v' (n+1) (xs++[y0,y1,y2])->w.grownBy w' v.ownBlock->(∀g,v'.ownBlock=some g->v.ownBlock=some g\/w.heap.size<=g)->wpList Tryz.prog ops Q rest (a.put o.dst v') w'):wpList Tryz.prog ops Q (o::rest) a w:=by
 obtain⟨v',w',hr,k1,k2,k3⟩:=zaW hu hinfo o.type h hbase y0 y1 y2 ad c hc h1 ht h63 hbytes;exact Lib.wpList_append_run w hgd s x ts ts ho v _ hs hx v' w' hr (hK v' w' k1 k2 k3)
theorem QaM{te ts:TypeId}(hu:Tryz.prog.underlying ts=some (.slice te))(hinfo:(Tryz.prog.info? te).map (fun i=>(i.zero,i.size,i.bytes))=some (some (.agg #[.int .i64 0,.slice none 0 0,.slice none 0 0]),3,56)){w:World}{ops:Array Oper}{o:Oper}{a:Act}{K:Act->World->Prop}{Q:Exit->Act->World->Prop}{E:Prop}(hgd:o.guard=none)(s x:Operand)(ho:o.op=.call { callee:=.builtin .append,args:=#[s,x],argTypes:=#[ts,ts] })(base:Nat)(v:Value)(n:Nat)(xs:List Value)(hs:a.eval s=v)(h:zZ te w base v n xs)(hbase:base<=w.heap.size)(y0 y1 y2:Value)(ad:Addr)(c:Nat)(hx:a.eval x=.slice (some ad) 1 c)(hc:∀j u,[y0,y1,y2][j]? = some u->w.cell? (ad.add j)=some u)(h1:∀u∈[y0,y1,y2],u.oneCell'=true)(ht:qar [y0,y1,y2])(h63:n+1<=maxLen)(hbytes:(n+1)*56<=140737488355328)(hK:∀v' w',zZ te w' base v' (n+1) (xs++[y0,y1,y2])->w.grownBy w' v.ownBlock->(∀g,v'.ownBlock=some g->v.ownBlock=some g\/w.heap.size<=g)->K (a.put o.dst v') w'):if Region.wanted o (yielded ops a.tmps)=true then Oper.wp Tryz.prog o a w K Q else E:=by
 have hw:Region.wanted o (yielded ops a.tmps)=true:=by simp[Region.wanted,hgd]
 rw[if_pos hw];obtain⟨v',w',hr,k1,k2,k3⟩:=zaW hu hinfo o.type h hbase y0 y1 y2 ad c hc h1 ht h63 hbytes;exact Lib.wp_append_run w s x ts ts ho v _ hs hx v' w' hr (hK v' w' k1 k2 k3)
abbrev qbQ(w:World)(base:Nat)(v:Value)(n:Nat)(xs:List Value):Prop:=zZ 62 w base v n xs
theorem qbQ.empty(w:World)(base:Nat):qbQ w base (.slice none 0 0) 0 []:=zZ.empty _ w base
theorem qbQ.lt{w:World}{base:Nat}{v:Value}{n:Nat}{xs:List Value}(h:qbQ w base v n xs):∀g,v.ownBlock=some g->base<=g/\g<w.heap.size:=zZ.lt h
theorem ZaC{w:World}{ops:Array Oper}{rest:List Oper}{o:Oper}{a:Act}{Q:Exit->Act->World->Prop}(hgd:o.guard=none)(s x:Operand)(ho:o.op=.call { callee:=.builtin .append,args:=#[s,x],argTypes:=#[56,56] })(base:Nat)(v:Value)(n:Nat)(xs:List Value)(hs:a.eval s=v)(h:qbQ w base v n xs)(hbase:base<=w.heap.size)(y0 y1 y2:Value)(ad:Addr)(c:Nat)(hx:a.eval x=.slice (some ad) 1 c)(hc:∀j u,[y0,y1,y2][j]? = some u->w.cell? (ad.add j)=some u)(h1:∀u∈[y0,y1,y2],u.oneCell'=true)(ht:qar [y0,y1,y2])(h63:n+1<=maxLen)(hbytes:(n+1)*56<=140737488355328)(hK:∀v' w',qbQ w' base v' (n+1) (xs++[y0,y1,y2])->w.grownBy w' v.ownBlock->(∀g,v'.ownBlock=some g->v.ownBlock=some g\/w.heap.size<=g)->wpList Tryz.prog ops Q rest (a.put o.dst v') w'):wpList Tryz.prog ops Q (o::rest) a w :=
 Qbm Tryz.underlying56 QdS hgd s x ho base v n xs hs h hbase y0 y1 y2 ad c hx hc h1 ht h63 hbytes hK
def ZdT(w:World)(p:Nat×Frm)(vs:List Value):Prop:=∃lv sv,vs=[ZV p.1,lv,sv]/\zk w lv sv p.2
def ZbC(w:World)(v:Value)(l:List (Nat×Frm)):Prop:=Qg w 3 (ZdT w) v l
def qI(w:World):List (Nat×Frm)->List Value->Prop
 |[],xs=>xs=[]
 |p::r,xs=>∃lv sv ys,xs=ZV p.1::lv::sv::ys/\zk w lv sv p.2/\qI w r ys
theorem qI.keepS{w w':World}(hk:Qy w w'):∀{l:List (Nat×Frm)} {xs:List Value},qI w l xs->qI w' l xs
 |[],_,h=>h
 |_::_,_,⟨lv,sv,ys,h1,h2,h3⟩=>⟨lv,sv,ys,h1,h2.keepS hk,qI.keepS hk h3⟩
theorem qI.snoc{w:World}{p:Nat×Frm}{lv sv:Value}(hf:zk w lv sv p.2):∀{l:List (Nat×Frm)} {xs:List Value},qI w l xs->qI w (l++[p]) (xs++[ZV p.1,lv,sv])
 |[],_,h=>by
  have h:_=[]:=h;subst h;exact⟨lv,sv,[],rfl,hf,rfl⟩
 |_::_,_,⟨a,b,ys,h1,h2,h3⟩=>by
  subst h1;exact⟨a,b,_,rfl,h2,qI.snoc hf h3⟩
theorem qI.at{w:World}:∀{l:List (Nat×Frm)} {xs:List Value} {i:Nat} {p:Nat×Frm},qI w l xs->l[i]? = some p->∃lv sv,zk w lv sv p.2/\xs[i*3]? = some (ZV p.1)/\xs[i*3+1]? = some lv/\xs[i*3+2]? = some sv
 |[],_,_,_,_,h=>by simp at h
 |q::r,_,0,p,⟨lv,sv,ys,h1,h2,h3⟩,h=>by
  have h:q=p:=by simpa using h
  subst h h1;exact⟨lv,sv,h2,rfl,rfl,rfl⟩
 |q::r,_,i+1,p,⟨lv,sv,ys,h1,h2,h3⟩,h=>by
  subst h1;obtain⟨a,b,k1,k2,k3,k4⟩:=qI.at h3 (by simpa using h);refine⟨a,b,k1,?_,?_,?_⟩
  ·rw[Nat.succ_mul];exact k2
  ·rw[show(i+1)*3+1=(i*3+1)+3 by omega];exact k3
  ·rw[show(i+1)*3+2=(i*3+2)+3 by omega];exact k4
theorem zZ.maps{te:TypeId}{w:World}{base:Nat}{v:Value}{l:List (Nat×Frm)}{xs:List Value}(h:zZ te w base v l.length xs)(hv:qI w l xs):ZbC w v l:=by
 rcases h with⟨rfl,h2,_⟩|⟨b,cap,vals,rfl,h1,h2,h3,h4,h5,h6,h7,h8⟩
 ·exact Or.inl ⟨rfl,List.eq_nil_of_length_eq_zero h2⟩
 ·refine Or.inr ⟨⟨b,0,none⟩,cap,rfl,h3,h4,fun i p hi=>?_⟩;obtain⟨lv,sv,k1,k2,k3,k4⟩:=hv.at hi;refine⟨_,⟨lv,sv,rfl,k1⟩,rfl,rfl,?_⟩;have e:∀j u,vals[j]? = some u->w.cell? ⟨b,j,none⟩=some u:=fun j u hj=>(h2.cell j).trans hj
  simp only[Nat.zero_add];exact⟨e _ _ (h8 _ _ k2),e _ _ (h8 _ _ k3),e _ _ (h8 _ _ k4),trivial⟩
def qaP(l:List Qb)(cls:Str)(at':Int)(n:Nat)(F:Option (Zk×Asg Frm)):Prop :=
 (zG l cls at'≠0/\n=zG l cls at'/\F=none)\/(zG l cls at'=0/\∃m args g many,zV cls at' l=some m/\m.abs=false/\qac m args g many/\∃G,Qr (Za l) cls g m (ZI cls m.static args many) G/\match G with
  |none=>n=7/\F=none
  |some A=>n=0/\F=some (m,A))
def qdy(w:World)(l:List Qb)(cls:Str)(at':Int)(e:Ending)(w':World):Prop:=Below w.heap.size w w'/\∃n F,qaP l cls at' n F/\match F with
 |none=>n≠0/\e=.returned (.tuple #[.slice none 0 0,.iface 29 (.int .i64 n)])
 |some (m,A)=>∃v,e=.returned (.tuple #[v,.nilIface])/\ZbC w' v (Zag A m.code.length)
theorem Qdy{l:List Qb}{cls g:Str}{m:Zk}{start:Frm}(H:(zJ (Za l) cls g m start).Good){f:Frm}(hf:zz (Za l) f=0):zQ f f=true/\Q1 (Za l) f f=f:=by
 obtain⟨h1,h2⟩:=H.lub f f f hf hf hf (H.refl f hf) (H.refl f hf);obtain⟨u1,u2,_⟩:=H.up f f hf hf h1;exact⟨h1,(H.anti f _ hf u1 u2 h2).symm⟩
set_option maxRecDepth 100000
theorem qaU(l:List Qb)(lv:Value)(cls:Str)(at':Int)(w:World)(hl:Qaw w)(ho:∀c∈l,qV c)(hlv:qi w lv l):
 Calls Tryz.prog 25 #[lv,.string cls,.int .i64 at'] w (qdy w l cls at'):=by
 have HNm:=Xh (zdy l lv cls at' w hl ho hlv);obtain⟨pl,cap,rfl,_⟩:=hlv.open;have HO:=Xh ho;have HA:Hid (∀(wx:World) (o:Obj),Below wx.heap.size wx (wx.alloc o)):=fun wx o=>Xb.alloc Xl o
 clear hl ho hlv;unfold qco zo at HNm;by_cases hz:zG l cls at'=0
 ·have HZ:=Xh hz;clear hz;go_enter Tryz.func25,Tryz.ntmps25;go_upto_region 2 with(go_fit (HNm.out);rintro e w2⟨hB2,⟨_,m,ws,B,v,hnm,hab,rfl,⟨pc,kc,ph,kh,rfl,hcv,hhv⟩,hM⟩|⟨hz,_⟩⟩;rotate_left;(exact absurd HZ.out hz))
  obtain⟨c,hc,hcn,hmc⟩:=QaQ hnm;have hmo:=(HO.out c hc).methods m hmc;have hcl:cls.size<=1048576:=by rw[<-hcn];exact(HO.out c hc).name
  obtain⟨args,g,many,hG⟩:=Qa4 (hM.faults c hc) hmc hab.out;have k3:=Blk.new w2 53 [.string m.name,.string m.type,.bool m.static,.bool m.abs,.bool m.priv,.int .i64 m.locals,.slice pc m.code.length kc,.slice ph m.handlers.length kh];have B3:Below w.heap.size w (w2.alloc (.cells #[.string m.name,.string m.type,.bool m.static,.bool m.abs,.bool m.priv,.int .i64 m.locals,.slice pc m.code.length kc,.slice ph m.handlers.length kh] 53)):=hB2.alloc hB2.size _;have M3:=hM.step (HA.out w2 (.cells #[.string m.name,.string m.type,.bool m.static,.bool m.abs,.bool m.priv,.int .i64 m.locals,.slice pc m.code.length kc,.slice ph m.handlers.length kh] 53));generalize w2.alloc (.cells #[.string m.name,.string m.type,.bool m.static,.bool m.abs,.bool m.priv,.int .i64 m.locals,.slice pc m.code.length kc,.slice ph m.handlers.length kh] 53)=w3 at *;have HLo:=Xh (QbT l B ws w3 M3 m cls g args many pc ph kc kh hG hmo hcl (hcv.mono B3 (by decide) (fun _ _ h=>h)) (hhv.mono B3 (by decide) (fun _ _ h=>h)));have HG:=Xh hG;have HNm2:=Xh (And.intro hnm hab.out);have HM3:=Xh M3;have HB3:=Xh B3;have Hk3:=Xh k3;have m0:=k3.cell 0;have m1:=k3.cell 1;have m2:=k3.cell 2;have m3:=k3.cell 3;have m4:=k3.cell 4;have m5:=k3.cell 5;have m6:=k3.cell 6;have m7:=k3.cell 7;unfold Qbf at HLo;clear hnm hab hM hcv hhv hB2 hc hcn hmc hmo hcl hG k3 B3 M3 HO HNm;by_cases hex:∃A,Qr (Za l) cls g m (ZI cls m.static args many) (some A)
  ·have HEx:=Xh hex;clear hex;go_upto_region 5 with(go_fit (HLo.out);rintro e w4⟨hB4,⟨F,mb,hF,rfl,hFm⟩|⟨hF,_⟩⟩;rotate_left;(exact absurd HEx.out (fun⟨A,k1,k2⟩=>hF k1 A k2.1)))
   have k4:=(Hk3.out.step hB4);have c6:=k4.cell 6;have HB4:=Xh (Qa HB3 Xl hB4);have HM4:=Xh (HM3.out.step hB4);have HFm:=Xh hFm;have HFF:=Xh hF;have hlen40:=(Z2 HG.out.code).small;have hGd:=QaB HM3.out.right HM3.out.faults (cls:=cls) (Zb:=g) HG.out.code HG.out.hands (Qaz (Zar HG.out) hF.1);have Hoks:Hid (∀i f,F i=some f->i<m.code.length/\zz (Za l) f=0):=fun i f e=>hF.2.1.1 i f e
   have HSf:Hid (∀f,zz (Za l) f=0->_):=fun f hf=>Qdy hGd hf
   clear hB4 hF hFm k4 m0 m1 m2 m3 m4 m5 m6 m7 hGd HLo;go_wp2_with fail;go_loopw [13,43] (fun v x wr=>∃(j:Nat) (xs:List Value),j<=m.code.length/\x=.int .i64 j/\Hid (Below w4.heap.size w4 wr)/\Hid (qbQ wr w4.heap.size v (Zag F j).length xs)/\Hid (qI wr (Zag F j) xs)) (fun _ x _=>m.code.length-(intOf x).toNat)
   case atStart=>exact⟨0,[],Nat.zero_le _,rfl,Xb,qbQ.empty _ _,rfl⟩
   case round =>
    obtain⟨j,xs,hj,rfl,hB,hR,hV⟩:=hrel;obtain⟨va,vc,rfl⟩:=hR.out.shape;by_cases hjl:j<m.code.length
    ·obtain⟨lv,sv,hlv,hlk⟩:=(HFm.out.keep (R':=zk wr) (hB.out.block mb HFm.out.lt) fun _ _ _ k=>k.mono hB.out).look (i:=j) (by omega);have L1:=hlk wr true rfl;rw[ZV]at L1;clear hlk;cases hFj:F j with
     |none =>
      rw[hFj]at L1 hlv;dsimp only at hlv;obtain⟨rfl,rfl⟩:=hlv;have hmn:=Qbh hFj;have HMn:=Xh hmn;clear hFj hmn;go_wp2_with fail;go_roundw;case rel=>exact⟨j+1,xs,by omega,by simp,hB.out.alloc hB.out.size _,by unfold Hid;rw[HMn.out];exact hR.out.below (HA.out _ _),by unfold Hid;rw[HMn.out];exact hV.out.keepS (Qy.below (HA.out _ _))⟩
      case measure=>simp[intOf];omega
     |some f =>
      rw[hFj]at L1 hlv;dsimp only at hlv;obtain⟨hfn,hfr⟩:=Hoks.out j f hFj;obtain⟨hs1,hs2⟩:=HSf.out f hfr;obtain⟨⟨p1,n1,rfl,_⟩,⟨p2,n2,rfl,_⟩⟩:=And.intro hlv.1.open hlv.2.open;have hmn:=Xh (zbi hFj);have Ba:=HA.out wr (.cells #[.slice p1 f.locals.length n1,.slice p2 f.stack.length n2] 27);have k5:=Blk.new wr 27 [.slice p1 f.locals.length n1,.slice p2 f.stack.length n2];have a0:=k5.cell 0;have a1:=k5.cell 1;have HBo:=Xh (QcK ws (wr.alloc (.cells #[.slice p1 f.locals.length n1,.slice p2 f.stack.length n2] 27)) B l ((HM4.out.step hB.out).step Ba) f f _ _ _ _ (hlv.mono Ba) (hlv.mono Ba) (Qaf hfr) (Qaf hfr) hfr hfr);unfold ZaD at HBo;rw[hs1,hs2]at HBo;have HBa:=Xh (Qa hB Xl Ba);have HRa:=Xh (hR.out.below Ba);have HVa:=Xh (hV.out.keepS (Qy.below Ba));have hml:=QbC F j;have HFj:=Xh hFj;clear hFj hfr hfn hs1 hs2 hlv Ba k5;go_upto_region 13 with fail;generalize wr.alloc (.cells #[.slice p1 f.locals.length n1,.slice p2 f.stack.length n2] 27)=w5 at *;go_upto_region 14 with(go_fit (HBo.out);rintro e w6⟨hB6,⟨_,v1,v2,rfl,hv6⟩|⟨hz,_⟩⟩;rotate_left;(exact absurd hz (by decide));obtain⟨⟨p3,n3,rfl,_⟩,⟨p4,n4,rfl,_⟩⟩:=And.intro hv6.1.open hv6.2.open)
      have B7:=hB6.alloc hB6.size (.cells #[.slice p3 f.locals.length n3,.slice p4 f.stack.length n4] 27);have k7:=Blk.new w6 27 [.slice p3 f.locals.length n3,.slice p4 f.stack.length n4];have b0:=k7.cell 0;have b1:=k7.cell 1;have hv7:=hv6.mono (HA.out w6 (.cells #[.slice p3 f.locals.length n3,.slice p4 f.stack.length n4] 27));generalize w6.alloc (.cells #[.slice p3 f.locals.length n3,.slice p4 f.stack.length n4] 27)=w7 at *;have B8:=B7.alloc B7.size (.cells #[.int .i64 (j:Int),.slice p3 f.locals.length n3,.slice p4 f.stack.length n4] 62);have hv8:=hv7.mono (HA.out w7 (.cells #[.int .i64 (j:Int),.slice p3 f.locals.length n3,.slice p4 f.stack.length n4] 62));have R8:=HRa.out.below B8;have V8:=HVa.out.keepS (Qy.below B8);have B8':=Qa HBa Xl B8;have k8:=Blk.new w7 62 [.int .i64 (j:Int),.slice p3 f.locals.length n3,.slice p4 f.stack.length n4];have HV8:=Xh V8;have Hv8:=Xh hv8;have HB8:=Xh B8';have h63:(Zag F j).length+1<=maxLen:=(by unfold maxLen;omega);have h56:((Zag F j).length+1)*56<=140737488355328:=(by omega);have hbs:w4.heap.size<=(w7.alloc (.cells #[.int .i64 (j:Int),.slice p3 f.locals.length n3,.slice p4 f.stack.length n4] 62)).heap.size:=B8'.size;have hone:∀u∈[Value.int .i64 (j:Int),.slice p3 f.locals.length n3,.slice p4 f.stack.length n4],u.oneCell'=true:=fun u hu=>by
       simp at hu;rcases hu with rfl|rfl|rfl<;>rfl
      have hcel:∀(i:Nat) (u:Value),[Value.int .i64 (j:Int),.slice p3 f.locals.length n3,.slice p4 f.stack.length n4][i]? = some u->(w7.alloc (.cells #[.int .i64 (j:Int),.slice p3 f.locals.length n3,.slice p4 f.stack.length n4] 62)).cell? ((⟨w7.heap.size,0,none⟩:Addr).add i)=some u:=fun i u hu=>by
       rw[zaR rfl,Nat.zero_add,k8.cell];exact hu
      clear hB6 hv6 hv7 hv8 V8 B7 k7 B8 B8' k8;go_wp2_with (at_builtin;go_must (refine ZaC rfl _ _ rfl w4.heap.size _ (Zag F j).length xs rfl R8 hbs (.int .i64 (j:Int)) (.slice p3 f.locals.length n3) (.slice p4 f.stack.length n4) ⟨w7.heap.size,0,none⟩ 1 rfl hcel hone (by simp[qar]) h63 h56 ?_);intro v9 w9 hR9 hg9 _;(have HR9:=Xh hR9);(have Hg9:=Xh hg9);(have HS9:=Xh (R8.keepS hg9));obtain⟨a9,c9,rfl⟩:=hR9.shape)
      go_roundw;case rel =>
       refine⟨j+1,xs++[.int .i64 (j:Int),.slice p3 f.locals.length n3,.slice p4 f.stack.length n4],by omega,by simp,HB8.out.grown Hg9.out HB8.out.size (fun g e=>(qbQ.lt R8 g e).1),?_,?_⟩
       ·unfold Hid;rw[hmn.out,List.length_append];exact HR9.out
       ·unfold Hid;rw[hmn.out];exact qI.snoc (Hv8.out.keepS HS9.out) (HV8.out.keepS HS9.out)
      case measure=>simp[intOf];omega
    ·obtain rfl:j=m.code.length:=(by omega);go_wp2_with fail;go_ret2;exact⟨Qa HB4 Xl hB,0,some (m,F),Or.inr ⟨HZ,m,args,g,many,HNm2.out.1,HNm2.out.2,HG,some F,HFF,rfl,rfl⟩,_,rfl,hR.out.maps hV.out⟩
  ·have HEx:=Xh hex;clear hex;go_upto_region 5 with(go_fit (HLo.out);rintro e w4⟨hB4,⟨F,mb,hF,_⟩|⟨hF,rfl⟩⟩;(exact absurd ⟨F,hF⟩ HEx.out))
   have HFF:=Xh hF;have HB4:=Xh (Qa HB3 Xl hB4);clear hF hB4 m0 m1 m2 m3 m4 m5 m6 m7 HLo;go_wp2_with fail;go_ret2;exact⟨HB4,7,none,Or.inr ⟨HZ,m,args,g,many,HNm2.out.1,HNm2.out.2,HG,none,HFF,rfl,rfl⟩,by decide,rfl⟩
 ·have HZ:=Xh hz;clear hz;go_enter Tryz.func25,Tryz.ntmps25;go_wp2_with (go_fit (HNm.out);rintro e w2⟨hB2,⟨hz,_⟩|⟨_,rfl⟩⟩;(exact absurd hz HZ.out))
  go_ret2;exact⟨hB2.alloc hB2.size _,_,none,Or.inl ⟨HZ,rfl,rfl⟩,HZ,rfl⟩
set_option maxRecDepth 512
end Go.Proofs.YtlmfmioljeppfaaGreatDoor
