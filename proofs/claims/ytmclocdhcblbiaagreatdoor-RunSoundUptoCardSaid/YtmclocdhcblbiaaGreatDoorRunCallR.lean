/- Lemmas; conditions: as each states. -/
import Derived.Test.YtmclocdhcblbiaaGreatDoorRunTop
set_option maxHeartbeats 4000000
namespace Go.Proofs.YtmclocdhcblbiaaGreatDoor
open Go.RowKit Go.Shelf Go.Lib
theorem Qeu(x:zg)(O P:Value)(D E:ByteArray)(I J:Nat)(w:World)(F:Blk w I 9 [.string D])(L:Blk w J 9 [.string E]):
 Calls Tryz.prog 27 #[qP x O P,.pointer (some ⟨I,0,none⟩),.pointer (some ⟨J,0,none⟩)] w fun e w'=>e=.returned (.bool (decide (x.name=D)&&decide (x.type=E)))/\Below w.heap.size w w':=by
 have S:=fun(o:Obj)=>(Below.refl w.heap.size w).alloc Xl o
 obtain⟨B,C,G,R,M,H,N,A⟩:=x;unfold qP;dsimp only;have T:=F.lt;have U:=L.lt;have V:w.cell? ⟨I,0,none⟩=some (.string D):=F.cell 0;have X:w.cell? ⟨J,0,none⟩=some (.string E):=L.cell 0;clear F L;rw[<-zaj,<-zaj];cases Y:B.toList==D.toList<;>cases F:C.toList==E.toList
 all_goals
  go_enter Tryz.func27,Tryz.ntmps27;go_wp2
  go_ret;exact⟨rfl,Xb.alloc Xl _⟩
def ZeU(v:Val)(t:Str)(n:Int)(err:Value):Ending:=.returned (.tuple #[.agg #[.int .i64 v.kind,.int .i64 v.n,.string t,.int .i64 n],err])
def qe8(k:Nat):Ending:=ZeU v0 ⟨#[]⟩ 0 (.iface 52 (.int .i64 k))
def zfr:Ran->Ending
 |.done v t n=>ZeU v t n .nilIface
 |.full=>qe8 4
 |.fuel=>qe8 10
def Qa8(w:World)(l:List qa)(cls name kind:Str)(args:List Val)(fuel:Int)(e:Ending)(w':World):Prop :=
 Below w.heap.size w w'/\∃n,Qaj l n /\
  (
   (∃k,k≠0/\(k=n\/k<=8)/\(n≠0\/Qal l cls name kind args=none\/fuel<0\/2000<fuel)/\e=qe8 k) \/
   (n=0/\0<=fuel/\fuel<=2000/\∃m,Qal l cls name kind args=some m/\e=zfr (QaI (Za l) fuel.toNat ⟨[],[zaJ cls m args]⟩)))
theorem ZC(w:World)(A:Nat)(h:Blk w A 45 [.int .i64 0,.int .i64 0,.string ⟨#[]⟩,.int .i64 0]):(w.cell? ⟨A,0,none⟩=some (.int .i64 0)/\w.cell? ⟨A,1,none⟩=some (.int .i64 0)/\w.cell? ⟨A,2,none⟩=some (.string ⟨#[]⟩)/\w.cell? ⟨A,3,none⟩=some (.int .i64 0))/\w.frozen? ⟨A,0,none⟩=false/\w.frozen? ⟨A,1,none⟩=false/\w.frozen? ⟨A,2,none⟩=false/\w.frozen? ⟨A,3,none⟩=false :=
 ⟨⟨h.cell 0,h.cell 1,h.cell 2,h.cell 3⟩,h.frozen 0,h.frozen 1,h.frozen 2,h.frozen 3⟩
theorem Z9{w wx:World}{A:Nat}(B:Below w.heap.size w wx)(h:w.heap.size<=A)(a b c d:Value):Below w.heap.size w ((((wx.setCell ⟨A,0,none⟩ a).setCell ⟨A,1,none⟩ b).setCell ⟨A,2,none⟩ c).setCell ⟨A,3,none⟩ d) :=
 (((B.setCell (p:=⟨A,0,none⟩) h a).setCell (p:=⟨A,1,none⟩) h b).setCell (p:=⟨A,2,none⟩) h c).setCell (p:=⟨A,3,none⟩) h d
theorem zdx(a b c d e f:Value)(w:World):(Instr.field 31 (.agg #[a,b,c,d,e,f]) 5).run Tryz.prog w=.ok f w:=by kernel_rfl
theorem Zdx{l:List qa}{cls A B:Str}{args:List Val}(h:((Qb (Za l) cls).getD qg).methods.find? (fun m=>decide (m.name=A)&&decide (m.type=B))=none):Qal l cls A B args=none:=by
 unfold Qal;have h:(Ze (Za l) cls).methods.find? (fun m=>decide (m.name=A)&&decide (m.type=B))=none:=h;rw[h]
theorem zcW{l:List qa}{cls B A:Str}{args:List Val}{m:zg}(h:((Qb (Za l) cls).getD qg).methods.find? (fun m=>decide (m.name=B)&&decide (m.type=A))=some m):Qal l cls B A args=if (m.static&&Zbq l A args)=true then some m else none:=by
 unfold Qal;have h:(Ze (Za l) cls).methods.find? (fun m=>decide (m.name=B)&&decide (m.type=A))=some m:=h;rw[h]
theorem qdx{l:List qa}{A:Str}{args:List Val}{ts:List Str}{g:Str}(h:qi A=some (ts,g)):Zbq l A args=(decide (args.length=ts.length)&&(args.zip ts).all fun p=>zm (Za l) [] p.1 (Qy p.2)):=by
 unfold Zbq;rw[h]
theorem qbq{l:List qa}{cls B A:Str}{args:List Val}{m:zg}(h:((Qb (Za l) cls).getD qg).methods.find? (fun m=>decide (m.name=B)&&decide (m.type=A))=some m)(C:m.static=true){ts:List Str}{g:Str}(D:qi A=some (ts,g)){b:Bool}(E:(decide (args.length=ts.length)&&(args.zip ts).all fun p=>zm (Za l) [] p.1 (Qy p.2))=b):Qal l cls B A args=if b=true then some m else none:=by
 rw[zcW h,C,qdx D,E];rfl
theorem Zk.new{C w:World}(D:Below C.heap.size C w)(B:Nat):Zk C (w.alloc (.cells #[.map (some B),.slice none 0 0,.slice none 0 0,.int .i64 0,.int .i64 0,.string ⟨#[]⟩,.int .i64 0,.bool false] 82)) w.heap.size B (.slice none 0 0) (.slice none 0 0) [] [] v0 ⟨#[]⟩ 0 false:=by
 refine⟨D.alloc D.size _,Blk.new w _ [.map (some B),.slice none 0 0,.slice none 0 0,.int .i64 0,.int .i64 0,.string ⟨#[]⟩,.int .i64 0,.bool false],D.size,⟨rfl,Or.inl ⟨rfl,rfl⟩⟩,fun p H=>(by cases H),⟨rfl,Or.inl ⟨rfl,rfl⟩⟩,fun q E=>(by cases E),fun q E=>(by cases E),fun r s b I F=>?_⟩;have A:∀r b,QV w.heap.size (.slice none 0 0) (.slice none 0 0) [] [] r=some b->r=.m:=fun r b h=>by
  cases r with
  |m=>rfl
  |hs=>cases h
  |cs=>cases h
  |has i=>simp[QV]at h
  |call i=>simp[QV]at h
  |loc i=>simp[QV]at h
  |stk i=>simp[QV]at h
 rw[A r b I,A s b F]
theorem qeU{n t:Str}{A:List zg}(h:Qdx n t A<0):A.find? (fun m=>decide (m.name=n)&&decide (m.type=t))=none:=by
 unfold Qdx zbj at h;cases B:A.findIdx? (fun m=>decide (m.name=n)&&decide (m.type=t)) with
 |some i =>
  rw[B]at h;have h:(i:Int)<0:=h;omega
 |none =>
  rw[List.findIdx?_eq_none_iff]at B;rw[List.find?_eq_none];intro x C;rw[B x C];decide
theorem QeU{n t:Str}{A:List zg}(h:¬Qdx n t A<0):∃(i:Nat) (m:zg),Qdx n t A=(i:Int)/\A[i]? = some m/\A.find? (fun m=>decide (m.name=n)&&decide (m.type=t))=some m:=by
 unfold Qdx zbj at h ⊢;cases C:A.findIdx? (fun m=>decide (m.name=n)&&decide (m.type=t)) with
 |none =>
  rw[C]at h;exact absurd (show(-1:Int)<0 by decide) h
 |some i =>
  have D:=C;rw[List.findIdx?_eq_some_iff_getElem]at C;obtain⟨B,G,H⟩:=C;refine⟨i,A[i],rfl,Xn B,?_⟩;rw[List.find?_eq_some_iff_getElem];exact⟨G,i,B,rfl,fun j I=>by
   have E:=H j I;cases F:(decide (A[j].name=n)&&decide (A[j].type=t)) with
   |true=>exact absurd F E
   |false=>rfl⟩
set_option maxRecDepth 100000
theorem Qbp(l:List qa)(lv:Value)(w:World)(hl:ZaB w)(hco:∀c∈l,Z4 c)(hlv:QJ w lv l)(cls C A:Str)(hcl:cls.size<=maxLen)(hki:A.size<=1048576)(args:List Val)(av:Value)(hav:qe w 2 zu av args)(fuel:Int):
 Calls Tryz.prog 13 #[lv,.string cls,.string C,.string A,av,.int .i64 fuel] w (Qa8 w l cls C A args fuel):=by
 have A1:∀(wz:World) (o:Obj),Below wz.heap.size wz (wz.alloc o):=fun wz o=>Xb.alloc Xl o
 have hmf:∀(fn:Fn) (first cap:Array Value) (w:World),(Instr.makeFunc fn first cap).run Tryz.prog w=.ok (.func fn first cap) w:=fun _ _ _ _=>rfl
 obtain⟨w1,hw1⟩:∃w1,w1=((w.alloc (.cells #[.string C] 9)).alloc (.cells #[.string A] 9)).alloc (.cells #[.int .i64 0,.int .i64 0,.string ⟨#[]⟩,.int .i64 0] 45):=⟨_,rfl⟩;have HB1:Hid (Below w.heap.size w w1):=by rw[hw1];exact Qa (Qa (A1 _ _) Xl (A1 _ _)) Xl (A1 _ _)
 have HK1:Hid (Blk w1 w.heap.size 9 [.string C]):=by
  rw[hw1];exact(((Blk.new w 9 [.string C]).step (A1 _ _)).step (A1 _ _))
 have HK2:Hid (Blk w1 (w.heap.size+1) 9 [.string A]):=by
  rw[hw1];have:=(Blk.new (w.alloc (.cells #[.string C] 9)) 9 [.string A]).step (A1 _ (.cells #[.int .i64 0,.int .i64 0,.string ⟨#[]⟩,.int .i64 0] 45));unfold Hid;simpa using this
 have HK3:Hid (Blk w1 (w.heap.size+1+1) 45 [.int .i64 0,.int .i64 0,.string ⟨#[]⟩,.int .i64 0]):=by
  rw[hw1];have:=Blk.new ((w.alloc (.cells #[.string C] 9)).alloc (.cells #[.string A] 9)) 45 [.int .i64 0,.int .i64 0,.string ⟨#[]⟩,.int .i64 0];unfold Hid;simpa using this
 have HRd:=Xh (ZbA l lv w1 (hl.mono HB1.out hl.1) hco (hlv.mono HB1.out));have HW:=Xh hw1.symm;obtain⟨pv,kv,rfl,hv1,hv2,hvc⟩:=(hav.mono HB1.out (by decide) (fun _ _ h=>h)).open;have hal:args.length<=9223372036854775807:=Xf hv1 hv2;have HVc:=Xh hvc;have HAl:=Xh hal;have HAv:=Xh (hav.mono HB1.out (by decide) (fun _ _ h=>h));have HCo:=Xh hco;clear A1 hw1 hl hlv hav hco hv1 hv2 hvc hal;unfold zbA at HRd;go_enter Tryz.func13,Tryz.ntmps13;go_upto_region 1 with fail;rw[HW.out];go_upto_region 2 with(go_fit HRd.out;rintro e w2⟨V,n,hC,⟨hn,ws,B,rfl,hm⟩|⟨hn,rfl⟩⟩)
 ·subst hn;have hfd:=zdx;have hR:=hm.right;have hf:=hm.faults;have D:Zao l:=by
   rcases hC with⟨h1,h2⟩|⟨_,_,h3⟩|⟨_,h2,_⟩
   ·exact absurd h2.symm h1
   ·exact h3
   ·cases h2
  have HC:=Xh hC;have HAll:=Xh D;have HM:=Xh hm;obtain⟨fv,dv,mv,-,-,hms,d⟩:=hm.map.look hR.nodup cls hcl;have hlk:=d false;clear d;unfold Qv at hlk;simp only[Bool.false_eq_true,if_false]at hlk;have hms2:=hms.mono hm.map.below (by decide) (fun _ _ h=>h);have HB2:=Xh (Qa HB1 Xl V);have hk1:=HK1.out.step V;have hk2:=HK2.out.step V;have HK3:=Xh (HK3.out.step V);have hix:Calls Tryz.prog 26 #[mv,.func (.func 27) #[] #[.pointer (some ⟨w.heap.size,0,none⟩),.pointer (some ⟨w.heap.size+1,0,none⟩)]] w2 fun e w'=>e=.returned (.int .i64 (Qdx C A ((Qb (Za l) cls).getD qg).methods))/\Below w2.heap.size w2 w':=by
   refine qbl (Zt ws) (fun x=>decide (x.name=C)&&decide (x.type=A)) 27 _ (enters_of Tryz.func27 (by kernel_rfl) rfl) _ mv w2 hms2 ?_;rintro W x a0 a1 a2 a3 a4 a5 a6 a7 hx⟨c,h,hh,_,_⟩hW;simp only[List.cons.injEq]at hh;obtain⟨rfl,rfl,rfl,rfl,rfl,rfl,rfl,rfl,_⟩:=hh;show Calls Tryz.prog 27 #[qP x a6 a7,.pointer (some ⟨w.heap.size,0,none⟩),.pointer (some ⟨w.heap.size+1,0,none⟩)] W _
   exact Qeu x a6 a7 _ _ _ _ W (hk1.step hW) (hk2.step hW)
  have HIx:=Xh hix;have HKi:=Xh hk2;have HB12:=Xh V;clear hC hm hms hms2 V hk1 hk2 hR hf D hix;go_upto_region 5 with(go_fit HIx.out;rintro e w3⟨rfl,s⟩)
  have O:=Xh (HK3.out.step s);have J:=Xh (Qa HB2 Xl s);by_cases hi:Qdx C A ((Qb (Za l) cls).getD qg).methods<0
  ·have hno:Qal l cls C A args=none:=Zdx (qeU hi);have j:=Xh hno;have hid:decide (Qdx C A ((Qb (Za l) cls).getD qg).methods<0)=true:=Xj hi;clear hno hi s hlk;obtain⟨⟨t0,t1,t2,t3⟩,f0,f1,f2,f3⟩:=ZC _ _ O.out;go_wp2_with fail;obtain⟨⟨R,S,T,U⟩,-⟩:=ZC _ _ ((((O.out.put 0 (.int .i64 0)).put 1 (.int .i64 0)).put 2 (.string ⟨#[]⟩)).put 3 (.int .i64 0));have F:=Xh (Z9 J.out (Xf (Nat.le_succ _) (Nat.le_succ _)) (.int .i64 0) (.int .i64 0) (.string ⟨#[]⟩) (.int .i64 0));simp[bodyPost,results,Tryz.results13,go_sem,R,S,T,U];exact⟨F,0,HC,Or.inl ⟨3,by decide,Or.inr (by decide),Or.inr (Or.inl j.out),rfl⟩⟩
  ·obtain⟨i,m,hie,hmi,hfi⟩:=QeU hi;obtain⟨fv3,dv3,mv3,-,-,hms3,d⟩:=(HM.out.step s).map.look HM.out.right.nodup cls hcl;have hlk3:=d false;clear d hlk;unfold Qv at hlk3;simp only[Bool.false_eq_true,if_false]at hlk3;obtain⟨pm,km,rfl,hm1,hm2,hcc⟩:=hms3.open;obtain⟨b,o,vs,rfl,⟨cv,hv,rfl,k1,k2⟩,_,zd⟩:=hcc i m hmi;obtain⟨pc,kc,rfl,-⟩:=k1.open;obtain⟨ph,kh,rfl,-⟩:=k2.open;obtain⟨y0,y1,y2,y3,y4,y5,y6,y7,_⟩:=zd.mono (HM.out.step s).map.below zd.lt;have y2:w3.cell? ⟨b,o+i*8+2,none⟩=some (.bool m.static):=y2;have y3:w3.cell? ⟨b,o+i*8+3,none⟩=some (.bool m.abs):=y3;have y4:w3.cell? ⟨b,o+i*8+4,none⟩=some (.bool m.priv):=y4;have y5:w3.cell? ⟨b,o+i*8+5,none⟩=some (.int .i64 m.locals):=y5;have y6:w3.cell? ⟨b,o+i*8+6,none⟩=some (.slice pc m.code.length kc):=y6;have y7:w3.cell? ⟨b,o+i*8+7,none⟩=some (.slice ph m.handlers.length kh):=y7;have hil:=(List.getElem?_eq_some_iff.1 hmi).1;have hid:decide ((i:Int)<0)=false:=Xi (by omega);have i1:(0:Int)<=(i:Int):=(by omega);have i2:(i:Int)<(((Qb (Za l) cls).getD qg).methods.length:Int):=(by omega);rw[hie];have HFi:=Xh hfi;have HMi:=Xh hmi;have HK1m:=Xh (And.intro (k1.mono HM.out.map.below (by decide) (fun _ _ h=>h)) (k2.mono HM.out.map.below (by decide) (fun _ _ h=>h)));have HB3:=Xh s;clear hie hmi hfi hi hms3 hcc zd hm1 hm2 k1 k2 hil s;go_upto_region 8 with fail;have hb4:=(Below.refl w3.heap.size w3).alloc Xl (.cells #[.string m.name,.string m.type,.bool m.static,.bool m.abs,.bool m.priv,.int .i64 m.locals,.slice pc m.code.length kc,.slice ph m.handlers.length kh] 39);have HMB:=Xh (Blk.new w3 39 [.string m.name,.string m.type,.bool m.static,.bool m.abs,.bool m.priv,.int .i64 m.locals,.slice pc m.code.length kc,.slice ph m.handlers.length kh]);have HB24:=Xh (Qa HB3 Xl hb4);have HK0:=O;have HBX0:=J;clear O J;have O:=Xh (HK0.out.step hb4);have J:=Xh (Qa HBX0 Xl hb4);clear HK0 HBX0 hb4 y0 y1 y2 y3 y4 y5 y6 y7 i1 i2 hid hlk3;have x2:(w3.alloc (.cells #[.string m.name,.string m.type,.bool m.static,.bool m.abs,.bool m.priv,.int .i64 m.locals,.slice pc m.code.length kc,.slice ph m.handlers.length kh] 39)).cell? ⟨w3.heap.size,2,none⟩=some (.bool m.static):=HMB.out.cell 2;change Code.wp _ _ _ _ (w3.alloc (.cells #[.string m.name,.string m.type,.bool m.static,.bool m.abs,.bool m.priv,.int .i64 m.locals,.slice pc m.code.length kc,.slice ph m.handlers.length kh] 39));generalize hw4:w3.alloc (.cells #[.string m.name,.string m.type,.bool m.static,.bool m.abs,.bool m.priv,.int .i64 m.locals,.slice pc m.code.length kc,.slice ph m.handlers.length kh] 39)=w4 at *;generalize w3.heap.size=mb at *;clear hw4;cases hs:m.static with
   |false =>
    rw[hs]at x2;have j:=Xh (show Qal l cls C A args=none by rw[zcW HFi.out,hs];rfl);clear hs;obtain⟨⟨t0,t1,t2,t3⟩,f0,f1,f2,f3⟩:=ZC _ _ O.out;go_wp2_with fail;obtain⟨⟨R,S,T,U⟩,-⟩:=ZC _ _ ((((O.out.put 0 (.int .i64 0)).put 1 (.int .i64 0)).put 2 (.string ⟨#[]⟩)).put 3 (.int .i64 0));have F:=Xh (Z9 J.out (Xf (Nat.le_succ _) (Nat.le_succ _)) (.int .i64 0) (.int .i64 0) (.string ⟨#[]⟩) (.int .i64 0));simp[bodyPost,results,Tryz.results13,go_sem,R,S,T,U];exact⟨F,0,HC,Or.inl ⟨7,by decide,Or.inr (by decide),Or.inr (Or.inl j.out),rfl⟩⟩
   |true =>
    rw[hs]at x2;have HSt:=Xh hs;clear hs;by_cases hfu:fuel<0\/2000<fuel
    ·have L:=Xh hfu;by_cases hf0:fuel<0
     ·have d0:decide (fuel<0)=true:=Xj hf0;clear hf0 hfu;obtain⟨⟨t0,t1,t2,t3⟩,f0,f1,f2,f3⟩:=ZC _ _ O.out;go_wp2_with fail;obtain⟨⟨R,S,T,U⟩,-⟩:=ZC _ _ ((((O.out.put 0 (.int .i64 0)).put 1 (.int .i64 0)).put 2 (.string ⟨#[]⟩)).put 3 (.int .i64 0));have F:=Xh (Z9 J.out (Xf (Nat.le_succ _) (Nat.le_succ _)) (.int .i64 0) (.int .i64 0) (.string ⟨#[]⟩) (.int .i64 0));simp[bodyPost,results,Tryz.results13,go_sem,R,S,T,U];exact⟨F,0,HC,Or.inl ⟨2,by decide,Or.inr (by decide),Or.inr (Or.inr L.out),rfl⟩⟩
     ·have d0:decide (fuel<0)=false:=Xi hf0;have d1:decide (2000<fuel)=true:=Xj (by omega);clear hf0 hfu;obtain⟨⟨t0,t1,t2,t3⟩,f0,f1,f2,f3⟩:=ZC _ _ O.out;go_wp2_with fail;obtain⟨⟨R,S,T,U⟩,-⟩:=ZC _ _ ((((O.out.put 0 (.int .i64 0)).put 1 (.int .i64 0)).put 2 (.string ⟨#[]⟩)).put 3 (.int .i64 0));have F:=Xh (Z9 J.out (Xf (Nat.le_succ _) (Nat.le_succ _)) (.int .i64 0) (.int .i64 0) (.string ⟨#[]⟩) (.int .i64 0));simp[bodyPost,results,Tryz.results13,go_sem,R,S,T,U];exact⟨F,0,HC,Or.inl ⟨2,by decide,Or.inr (by decide),Or.inr (Or.inr L.out),rfl⟩⟩
    ·have L:Hid (0<=fuel/\fuel<=2000):=⟨by omega,by omega⟩;have d0:decide (fuel<0)=false:=Xi (by omega);have d1:decide (2000<fuel)=false:=Xi (by omega);clear hfu;have hmr:∃ts g,qi A=some (ts,g):=by
      have hk:(Qb (Za l) cls).isSome=true:=by
       cases hc:Qb (Za l) cls with
       |some c=>rfl
       |none =>
        have hm:=HMi.out;rw[hc]at hm;cases hm
      obtain⟨c,hc,_,hmc⟩:=Q2 hk (show m∈(Ze (Za l) cls).methods from Xe HMi.out);have ht:=List.find?_some HFi.out;rw[Bool.and_eq_true]at ht;rw[<-Xm ht.2];exact(ZbJ (HM.out.faults c hc) hmc).2.2.1
     obtain⟨ts,g,hmr⟩:=hmr;have HMr:=Xh hmr;have HDe:Hid (∀wx,_):=fun wx=>zay hki hmr wx
     unfold Qbv at HDe;have q1:w4.cell? ⟨w.heap.size+1,0,none⟩=some (.string A):=(HKi.out.step HB24.out).cell 0;clear hmr;go_upto_region 15 with(go_fit (HDe.out _);rintro e w5⟨pa,ka,rfl,hts5,hB5⟩)
     have HTs:=Xh hts5;have HMB5:=Xh (HMB.out.step hB5);have HK5:=O.out.step hB5;have HBX5:=Qa J Xl hB5;have HB25:=Xh (Qa HB24 Xl hB5);clear O J;have O:=Xh HK5;have J:=Xh HBX5;clear HK5 HBX5 hts5 hB5 d0 d1 q1 x2 HMB HB24 HDe;by_cases hln:args.length=ts.length
     ·have z1:((args.length:Int)==(ts.length:Int))=true:=(by simp;omega);have z2:((args.length:Int) != (ts.length:Int))=false:=(by simp;omega);have HLn:=Xh hln;clear hln;go_upto_region 18 with fail;go_loopw [82] (fun x wr=>∃k:Nat,k<=args.length/\Below w5.heap.size w5 wr/\Hid (((args.zip ts).drop k).all (fun p=>zm (Za l) [] p.1 (Qy p.2))=(args.zip ts).all fun p=>zm (Za l) [] p.1 (Qy p.2))/\x=.int .i64 k) (fun x _=>args.length-(intOf x).toNat)
      case atStart=>exact⟨0,by omega,Xb,rfl,rfl⟩
      case round =>
       obtain⟨k,hk,hB,hff,rfl⟩:=hrel;by_cases hkl:k<args.length
       ·obtain⟨v,hv⟩:∃a,args[k]? = some a:=⟨args[k],by simp[hkl]⟩;obtain⟨t,ht⟩:∃a,ts[k]? = some a:=⟨_,Xn (by have:=HLn.out;omega)⟩;obtain⟨bv,ov,vs,rfl,hvs,_,M⟩:=HVc.out k v hv;unfold zu at hvs;subst hvs;have hb5r:=Qa HB25 Xl hB;obtain⟨x0,x1,_⟩:=M.mono (Qa HB12 Xl hb5r) M.lt;obtain⟨pa',ka',hpe,-,-,htc⟩:=HTs.out.open;obtain⟨bt,ot,us,hpa,hus,_,G⟩:=htc k t ht;obtain⟨rfl,-,rfl⟩:pa=pa'/\True/\ka=ka':=(by simpa using hpe);subst hpa;unfold Qs at hus;subst hus;obtain⟨s0,_⟩:=G.mono hB G.lt;have s0:wr.cell? ⟨bt,ot+k,none⟩=some (.string t):=(by rw[Nat.mul_one]at s0;exact s0);have hTy:=QbU HMr.out t (Xe ht);obtain⟨y,hy⟩:=qX hTy;have HDo:Hid (∀wx,Below w2.heap.size w2 wx->Calls Tryz.prog 29 #[.map (some B),.agg #[.slice none 0 0],.agg #[.int .i64 v.kind,.int .i64 v.n],.string t] wx fun e w'=>e=.returned (.bool (zm (Za l) [] v (Qy t)))/\Below wx.heap.size wx w'):=fun wx hb=>by
         have h:=qbR ws wx B l (HM.out.step hb) [] (.slice none 0 0) (Or.inl ⟨rfl,rfl⟩) (fun x hx=>by cases hx) (fun x hx=>by cases hx) v t y hy.text hy.size;rw[hy.of];exact h
        have D:=QeJ (fun p:Val×Str=>zm (Za l) [] p.1 (Qy p.2)) (args.zip ts) k (v,t) (zeK hv ht);rw[hff.out]at D;have D:((args.zip ts).all fun p=>zm (Za l) [] p.1 (Qy p.2))=(zm (Za l) [] v (Qy t)&&((args.zip ts).drop (k+1)).all fun p=>zm (Za l) [] p.1 (Qy p.2)):=D;have d2:decide ((k:Int)<(args.length:Int))=true:=Xj (by omega);have i1:(0:Int)<=(k:Int):=(by omega);have i2:(k:Int)<(args.length:Int):=(by omega);have i3:(k:Int)<(ts.length:Int):=(by have:=HLn.out;omega);have zk:IntKind.i64.wrap ((k:Int)+1)=(k:Int)+1:=IntWalk.i64_in _ (by have:=HAl.out;omega);have hq2:Blk (wr.alloc (.cells #[.int .i64 v.kind,.int .i64 v.n] 43)) wr.heap.size 43 [.int .i64 v.kind,.int .i64 v.n]:=Blk.new wr _ _;have hA:=(Below.refl wr.heap.size wr).alloc Xl (.cells #[.int .i64 v.kind,.int .i64 v.n] 43);have s1:(wr.alloc (.cells #[.int .i64 v.kind,.int .i64 v.n] 43)).cell? ⟨bt,ot+k,none⟩=some (.string t):=by
         obtain⟨s1,_⟩:=G.mono (Qa hB Xl hA) (Nat.lt_of_lt_of_le G.lt Xl);rw[Nat.mul_one]at s1;exact s1
        have HB2a:=Xh (Qa hb5r Xl hA).drew;have HB5a:=Xh (Qa hB Xl hA).drew;have hkn:=Xh hkl;clear hb5r M htc G hpe hTy hy hff hA hv ht hk hB;cases hbb:zm (Za l) [] v (Qy t) with
        |false =>
         rw[hbb]at HDo D;have j:Hid (Qal l cls C A args=none):=qbq HFi.out HSt.out HMr.out (b:=false) (by rw[D,Bool.false_and,Bool.and_false]);clear D hbb hkl;go_upto_region 20 with fail;clear s0 x0 x1;obtain⟨g0',g1'⟩:=hq2.cells2;go_region_held3 (fun w'=>w'.cell? ⟨wr.heap.size,0,none⟩=some (.int .i64 v.kind)/\w'.cell? ⟨wr.heap.size,1,none⟩=some (.int .i64 v.n)/\w'.cell? ⟨bt,ot+k,none⟩=some (.string t)) (go_keep)
          (first|(go_fit (HDo.out _ HB2a.out);rintro e w7⟨rfl,X⟩;(have hBk:=Qa HB5a Xl X);obtain⟨r0,r1⟩:=(hq2.step (Qa Xb.drew Xl X)).cells2;(have r2:=(X.cell (p:=⟨bt,ot+k,none⟩) (ZT s1)).trans s1)))
         all_goals
          have HK7:=Xh (O.out.step hBk);have Y:=Xh (Qa J Xl hBk);clear hBk X r0 r1 r2 hq2 s1 g0' g1';obtain⟨⟨t0,t1,t2,t3⟩,f0,f1,f2,f3⟩:=ZC _ _ HK7.out;go_wp2_with fail;obtain⟨⟨R,S,T,U⟩,-⟩:=ZC _ _ ((((HK7.out.put 0 (.int .i64 0)).put 1 (.int .i64 0)).put 2 (.string ⟨#[]⟩)).put 3 (.int .i64 0));have F:=Xh (Z9 Y.out (Xf (Nat.le_succ _) (Nat.le_succ _)) (.int .i64 0) (.int .i64 0) (.string ⟨#[]⟩) (.int .i64 0));simp[bodyPost,results,Tryz.results13,go_sem,R,S,T,U];exact⟨F,0,HC,Or.inl ⟨7,by decide,Or.inr (by decide),Or.inr (Or.inl j.out),rfl⟩⟩
        |true =>
         rw[hbb]at HDo D;rw[Bool.true_and]at D;have HAll2:=Xh D;clear D hbb hkl;go_upto_region 20 with fail;clear s0 x0 x1;obtain⟨g0',g1'⟩:=hq2.cells2;go_region_held3 (fun w'=>w'.cell? ⟨wr.heap.size,0,none⟩=some (.int .i64 v.kind)/\w'.cell? ⟨wr.heap.size,1,none⟩=some (.int .i64 v.n)/\w'.cell? ⟨bt,ot+k,none⟩=some (.string t)) (go_keep)
          (first|(go_fit (HDo.out _ HB2a.out);rintro e w7⟨rfl,X⟩;(have hBk:=Qa HB5a Xl X);obtain⟨r0,r1⟩:=(hq2.step (Qa Xb.drew Xl X)).cells2;(have r2:=(X.cell (p:=⟨bt,ot+k,none⟩) (ZT s1)).trans s1)))
         all_goals
          have HBk:=Xh hBk;clear hBk X r0 r1 r2 hq2 s1 g0' g1';go_wp2_with fail;go_roundw;case rel=>exact⟨k+1,by have:=hkn.out;omega,HBk,HAll2.out.symm,by simp⟩
          case measure=>have:=hkn.out;simp[intOf];omega
       ·obtain rfl:k=args.length:=(by omega);have D:((args.zip ts).all fun p=>zm (Za l) [] p.1 (Qy p.2))=true:=by
         rw[<-hff.out,Xg (by rw[List.length_zip];omega)];rfl
        have hst:Qal l cls C A args=some m:=qbq HFi.out HSt.out HMr.out (b:=true) (by rw[D,Xj HLn.out];rfl);have d2:decide ((args.length:Int)<(args.length:Int))=false:=Xi (by omega);have HS:=Xh hst;have HB:=Xh hB;clear hst D hff hB hk hkl;go_upto_region 24 with fail;have hA6:=(Below.refl wr.heap.size wr).alloc Xl (.cells #[.map (some B),.slice none 0 0,.slice none 0 0,.int .i64 0,.int .i64 0,.string ⟨#[]⟩,.int .i64 0,.bool false] 82);have hB2r:=Qa HB25 Xl HB.out;have M6:=Zk.new hB2r B;have hMB6:=(HMB5.out.step HB.out).step hA6;have HV6:=HAv.out.mono (Qa HB12 Xl (Qa hB2r Xl hA6)) (by decide) (fun _ _ h=>h);have HBX6:=Xh (Qa (Qa J Xl HB) Xl hA6);have HK6:=Xh ((O.out.step HB.out).step hA6);have hkbw:w.heap.size+1+1<wr.heap.size:=(O.out.step HB.out).lt;have hk2:w.heap.size+1+1<w2.heap.size:=HK3.out.lt;have HKb:=Xh hkbw;have HK2:=Xh hk2;clear d2 hA6 hB2r hkbw hk2;generalize (wr.alloc (.cells #[.map (some B),.slice none 0 0,.slice none 0 0,.int .i64 0,.int .i64 0,.string ⟨#[]⟩,.int .i64 0,.bool false] 82))=w6 at *;generalize wr.heap.size=z at *;obtain⟨hn1,hn2,hn3,hn4,hn5,ts',g',hmr',⟨N,E⟩,hok⟩:=zdy HM.out.right HM.out.faults HAll.out HS.out;have hEn:=zbg w2 w6 z B _ _ [] [] v0 ⟨#[]⟩ 0 false M6 cls m.name m.type m.static m.abs m.priv N m.code m.handlers pc ph kc kh HK1m.out.1 HK1m.out.2 E.small args _ HV6 E.room;have hmm:(⟨m.name,m.type,m.static,m.abs,m.priv,(N:Int),m.code,m.handlers⟩:zg)=m:=(by rw[<-E.locals]);rw[hmm,<-E.locals]at hEn;have HEn:Hid (Calls Tryz.prog 30 #[.pointer (some ⟨z,0,none⟩),.string cls,.agg #[.string m.name,.string m.type,.bool m.static,.bool m.abs,.bool m.priv,.int .i64 m.locals,.slice pc m.code.length kc,.slice ph m.handlers.length kh],.slice pv args.length kv] w6 fun e w'=>e=.returned (.tuple #[])/\Chg (fun b=>b=z) w6 w'/\∃cv' q,Zk w2 w' z B (.slice none 0 0) cv' [] [q] v0 ⟨#[]⟩ 0 false/\q.c=zaJ cls m args):=hEn.mono fun e w' h=>by
         rcases h with⟨h,_⟩|⟨_,h1,h2,cv',q,h3,h4,_⟩
         ·exact absurd h (by decide)
         ·refine⟨h1,h2.mono (fun i _ hi=>?_),cv',q,h3,?_⟩
          ·rcases hi with hi|hi
           ·exact hi
           ·cases hi
          ·rw[h4];unfold zaJ;rw[E.locals];rfl
        obtain⟨y0,y1,y2,y3,y4,y5,y6,y7⟩:=hMB6.cells8;clear hEn hmm M6 hMB6 HV6;have HOk:=Xh hok;clear hok E hn1 hn2 hn3 hn4 hn5 hmr';go_upto_region 25 with(go_fit HEn.out;rintro e w7⟨rfl,hC7,cv7,q7,M7,hq7⟩)
        have HK7:Hid (Blk w7 (w.heap.size+1+1) 45 [.int .i64 0,.int .i64 0,.string ⟨#[]⟩,.int .i64 0]):=HK6.out.chg hC7 (fun e=>by have:=HKb.out;omega);have Y:Hid (Below w.heap.size w w7):=HBX6.out.trans (hC7.below HBX6.out.size (fun i hi=>by rw[hi];have:=HKb.out;omega));have hno:¬XS z (.slice none 0 0) cv7 [] [q7] (w.heap.size+1+1):=fun⟨r,hr⟩=>by
         have h1:=(M7.lt r _ hr).1;have h2:=HK2.out;omega
        have hXw:∀i,XS z (.slice none 0 0) cv7 [] [q7] i->w.heap.size<=i:=fun i ⟨r,hr⟩=>by
         have h1:=(M7.lt r _ hr).1;have h2:=HK2.out;omega
        have HF8:Hid (∀w8,Chg (XS z (.slice none 0 0) cv7 [] [q7]) w7 w8->Blk w8 (w.heap.size+1+1) 45 [.int .i64 0,.int .i64 0,.string ⟨#[]⟩,.int .i64 0]/\Below w.heap.size w w8):=fun w8 hc=>⟨HK7.out.chg hc hno,Y.out.trans (hc.below Y.out.size hXw)⟩
        have H:=zeV ws w2 w7 z B (.slice none 0 0) cv7 [] [q7] M7 l HM.out HCo.out HAll.out g' (by show zaT l g' ⟨[],[q7.c]⟩;rw[hq7];exact HOk.out) fuel.toNat (by have:=L.out.2;omega) (QaI (Za l) fuel.toNat ⟨[],[zaJ cls m args]⟩) (by show QaI (Za l) fuel.toNat ⟨[],[q7.c]⟩=_;rw[hq7]);rw[Int.toNat_of_nonneg L.out.1]at H;have HRt:=L.out;clear HK7 Y hno hXw hC7 M7 hq7 y0 y1 y2 y3 y4 y5 y6 y7;cases I:QaI (Za l) fuel.toNat ⟨[],[zaJ cls m args]⟩ with
        |done v t n =>
         have HRs:=Xh I;rw[I]at H;have Z:Hid (Calls Tryz.prog 31 #[.pointer (some ⟨z,0,none⟩),.int .i64 fuel] w7 fun e w'=>e=.returned .nilIface/\(Blk w' (w.heap.size+1+1) 45 [.int .i64 0,.int .i64 0,.string ⟨#[]⟩,.int .i64 0]/\Below w.heap.size w w')/\w'.cell? ⟨z,3,none⟩=some (.int .i64 v.kind)/\w'.cell? ⟨z,4,none⟩=some (.int .i64 v.n)/\w'.cell? ⟨z,5,none⟩=some (.string t)/\w'.cell? ⟨z,6,none⟩=some (.int .i64 (n:Int))):=H.mono fun e w' ⟨h1,h,hv8,cv8,ps8,qs8,U8,_⟩=>⟨h1,HF8.out w' U8.chg,U8.at'.blk.cell 3,U8.at'.blk.cell 4,U8.at'.blk.cell 5,U8.at'.blk.cell 6⟩
         clear I H HRt;go_upto_region 26 with(go_fit Z.out;rintro e w8⟨rfl,⟨P,f⟩,z3,z4,z5,z6⟩)
         obtain⟨⟨t0,t1,t2,t3⟩,f0,f1,f2,f3⟩:=ZC _ _ P;go_wp2_with fail;have hK9:Blk ((((w8.setCell ⟨w.heap.size+1+1,0,none⟩ (.int .i64 v.kind)).setCell ⟨w.heap.size+1+1,1,none⟩ (.int .i64 v.n)).setCell ⟨w.heap.size+1+1,2,none⟩ (.string t)).setCell ⟨w.heap.size+1+1,3,none⟩ (.int .i64 (n:Int))) (w.heap.size+1+1) 45 [.int .i64 v.kind,.int .i64 v.n,.string t,.int .i64 (n:Int)]:=(((P.put 0 (.int .i64 v.kind)).put 1 (.int .i64 v.n)).put 2 (.string t)).put 3 (.int .i64 (n:Int));have R:=hK9.cell 0;have S:=hK9.cell 1;have T:=hK9.cell 2;have U:=hK9.cell 3;have F:=Xh (Z9 f (Xf (Nat.le_succ _) (Nat.le_succ _)) (.int .i64 v.kind) (.int .i64 v.n) (.string t) (.int .i64 (n:Int)));clear hK9 f;simp[bodyPost,results,Tryz.results13,go_sem,R,S,T,U];exact⟨F,0,HC,Or.inr ⟨rfl,L.out.1,L.out.2,m,HS,by rw[HRs.out];rfl⟩⟩
        |full =>
         have HRs:=Xh I;rw[I]at H;have Z:Hid (Calls Tryz.prog 31 #[.pointer (some ⟨z,0,none⟩),.int .i64 fuel] w7 fun e w'=>e=.returned (.iface 52 (.int .i64 4))/\(Blk w' (w.heap.size+1+1) 45 [.int .i64 0,.int .i64 0,.string ⟨#[]⟩,.int .i64 0]/\Below w.heap.size w w')):=H.mono fun e w' ⟨h1,h⟩=>⟨h1,HF8.out w' h⟩
         clear I H HRt;go_upto_region 26 with(go_fit Z.out;rintro e w8⟨rfl,P,f⟩)
         obtain⟨⟨t0,t1,t2,t3⟩,f0,f1,f2,f3⟩:=ZC _ _ P;go_wp2_with fail;obtain⟨⟨R,S,T,U⟩,-⟩:=ZC _ _ ((((P.put 0 (.int .i64 0)).put 1 (.int .i64 0)).put 2 (.string ⟨#[]⟩)).put 3 (.int .i64 0));have F:=Xh (Z9 f (Xf (Nat.le_succ _) (Nat.le_succ _)) (.int .i64 0) (.int .i64 0) (.string ⟨#[]⟩) (.int .i64 0));clear P f;simp[bodyPost,results,Tryz.results13,go_sem,R,S,T,U];exact⟨F,0,HC,Or.inr ⟨rfl,L.out.1,L.out.2,m,HS,by rw[HRs.out];rfl⟩⟩
        |fuel =>
         have HRs:=Xh I;rw[I]at H;have Z:Hid (Calls Tryz.prog 31 #[.pointer (some ⟨z,0,none⟩),.int .i64 fuel] w7 fun e w'=>e=.returned (.iface 52 (.int .i64 10))/\(Blk w' (w.heap.size+1+1) 45 [.int .i64 0,.int .i64 0,.string ⟨#[]⟩,.int .i64 0]/\Below w.heap.size w w')):=H.mono fun e w' ⟨h1,h⟩=>⟨h1,HF8.out w' h⟩
         clear I H HRt;go_upto_region 26 with(go_fit Z.out;rintro e w8⟨rfl,P,f⟩)
         obtain⟨⟨t0,t1,t2,t3⟩,f0,f1,f2,f3⟩:=ZC _ _ P;go_wp2_with fail;obtain⟨⟨R,S,T,U⟩,-⟩:=ZC _ _ ((((P.put 0 (.int .i64 0)).put 1 (.int .i64 0)).put 2 (.string ⟨#[]⟩)).put 3 (.int .i64 0));have F:=Xh (Z9 f (Xf (Nat.le_succ _) (Nat.le_succ _)) (.int .i64 0) (.int .i64 0) (.string ⟨#[]⟩) (.int .i64 0));clear P f;simp[bodyPost,results,Tryz.results13,go_sem,R,S,T,U];exact⟨F,0,HC,Or.inr ⟨rfl,L.out.1,L.out.2,m,HS,by rw[HRs.out];rfl⟩⟩
     ·have z1:((args.length:Int)==(ts.length:Int))=false:=(by simp;omega);have z2:((args.length:Int) != (ts.length:Int))=true:=(by simp;omega);have j:Hid (Qal l cls C A args=none):=by
       exact qbq HFi.out HSt.out HMr.out (b:=false) (by rw[Xi hln];rfl)
      clear hln;obtain⟨⟨t0,t1,t2,t3⟩,f0,f1,f2,f3⟩:=ZC _ _ O.out;go_wp2_with fail;obtain⟨⟨R,S,T,U⟩,-⟩:=ZC _ _ ((((O.out.put 0 (.int .i64 0)).put 1 (.int .i64 0)).put 2 (.string ⟨#[]⟩)).put 3 (.int .i64 0));have F:=Xh (Z9 J.out (Xf (Nat.le_succ _) (Nat.le_succ _)) (.int .i64 0) (.int .i64 0) (.string ⟨#[]⟩) (.int .i64 0));simp[bodyPost,results,Tryz.results13,go_sem,R,S,T,U];exact⟨F,0,HC,Or.inl ⟨8,by decide,Or.inr (by decide),Or.inr (Or.inl j.out),rfl⟩⟩
 ·have hK3:=HK3.out.step V;obtain⟨⟨t0,t1,t2,t3⟩,f0,f1,f2,f3⟩:=ZC _ _ hK3;have O:=Xh hK3;have HC:=Xh hC;have HN:=Xh hn;have HB2:=Xh (Qa HB1 Xl V);clear hK3 hC hn V;go_wp2_with fail;obtain⟨⟨R,S,T,U⟩,-⟩:=ZC _ _ ((((O.out.put 0 (.int .i64 0)).put 1 (.int .i64 0)).put 2 (.string ⟨#[]⟩)).put 3 (.int .i64 0));have F:=Xh (Z9 HB2.out (Xf (Nat.le_succ _) (Nat.le_succ _)) (.int .i64 0) (.int .i64 0) (.string ⟨#[]⟩) (.int .i64 0));simp[bodyPost,results,Tryz.results13,go_sem,R,S,T,U];exact⟨F,n,HC,Or.inl ⟨n,HN,Or.inl rfl,Or.inl HN.out,rfl⟩⟩
set_option maxRecDepth 512
end Go.Proofs.YtmclocdhcblbiaaGreatDoor
