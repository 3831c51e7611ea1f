/- Lemmas; conditions: as each states. -/
import Derived.Test.YtlmfmioljeppfaaGreatDoorPlainly
set_option maxHeartbeats 4000000
namespace Go.Proofs.YtlmfmioljeppfaaGreatDoor
open Go.RowKit Go.Shelf Go.Lib
def Zz(cs:List Qb)(src c n t:Str)(static:Bool):Nat :=
 if (Qc cs c).isNone then 3
 else match zam cs c n t with
  |none=>3
  |some (d,m)=>if (Qc cs src).isNone then 3 else if m.static≠static then 7 else if m.priv&&decide (d≠src) then 9 else 0
theorem ZbJ{n:Str}:∀{l:List qag} {f:qag},zab n l=some f->f∈l
 |x::r,f,h=>by
  unfold zab at h;split at h
  ·injection h with h
   subst h;simp
  ·exact List.mem_cons_of_mem _ (ZbJ h)
theorem QaX{cs:List Qb}{n:Str}:∀{ls:List Str} {x:Str} {f:qag},Z0 cs n ls=some (x,f)->f∈(qh cs x).fields
 |c::r,x,f,h=>by
  unfold Z0 at h;cases hq:zab n (qh cs c).fields with
  |none =>
   rw[hq]at h;exact QaX h
  |some g =>
   rw[hq]at h;injection h with h
   injection h with h1 h2
   subst h1 h2;exact ZbJ hq
theorem zaY{cs:List Qb}{c:Str}(h:zd cs (Zd c)=0):(Qc cs c).isSome=true:=by
 obtain⟨X,hX,hg⟩:=zM h;rw[Zbg]at hX;have hX':X=.ty (.cl c):=qbg hX;subst hX';exact hg
theorem Qi.aside{base:Nat}{w:World}{sb B b:Nat}{qb Zb:Str}{lv sv:Value}{L S:List Str}(h:Qi base w sb B qb Zb lv sv L S)(hb:ZaL sb lv sv b)(j:Nat)(u:Value):Qi base (w.setCell ⟨b,j,none⟩ u) sb B qb Zb lv sv L S :=
 ⟨(Xk w ⟨b,j,none⟩ sb u (fun e=>hb.1 e.symm)).trans h.blk,Qah h.locals hb.2.1 j u,Qah h.stack hb.2.2 j u,h.apart,h.lfar,h.sfar,h.low⟩
theorem SA.aside{w0 w:World}{B:Nat}{l:List Qb}{base:Nat}{ws:World}{lv0 sv0:Value}{sb:Nat}{qb Zb:Str}{xb:Nat}{xv:List Value}{wx:World}{lv sv:Value}{L S:List Str}(T:SA w0 w B l base ws lv0 sv0 sb qb Zb xb xv wx lv sv L S){b:Nat}(hb:ws.heap.size<=b)(hbb:base<=b)(hx:b≠xb)(ha:ZaL sb lv sv b)(j:Nat)(u:Value):SA w0 w B l base ws lv0 sv0 sb qb Zb xb xv (wx.setCell ⟨b,j,none⟩ u) lv sv L S :=
 ⟨⟨T.env.map0,T.env.le,T.env.below.setCell (p:=⟨b,j,none⟩) (Xf T.env.le hbb) u⟩,T.step.aside ha j u,T.box.other (fun e=>hx e.symm) j u,T.apart,T.below.setCell (p:=⟨b,j,none⟩) hbb u,⟨T.kp.1,fun g hg hga=>⟨(Xk wx ⟨b,j,none⟩ g u (by show g≠b;omega)).trans (T.kp.2 g hg hga).1,(T.kp.2 g hg hga).2⟩⟩⟩
theorem zp{w:World}{a:Addr}{b:Nat}(h:a.block≠b)(u v:Value):((w.setCell ⟨b,0,none⟩ u).setCell ⟨b,1,none⟩ v).cell? a=w.cell? a:=World.cell?_of_block (by rw[Xk _ _ _ _ h,Xk _ _ _ _ h])
def qF(cs:List Qb)(c n:Str):Option Str :=
 if zd cs (Zd c)≠0 then none else match Zam cs c n with
  |none=>none
  |some (_,f)=>if zd cs f.type=0 then some f.type else none
set_option maxRecDepth 100000
theorem zcj(w0 w:World)(B:Nat)(l:List Qb)(base:Nat)(ws:World)(hE:Env w0 w B l base ws)(sb:Nat)(qb Zb:Str)(lv sv:Value)(L S:List Str)(h:Qi base ws sb B qb Zb lv sv L S)(op a b:Int)(type cls name:Str)(hc:cls.size<=1048576):
 Calls Tryz.prog 144 #[.pointer (some ⟨sb,0,none⟩),.agg #[.int .i64 op,.int .i64 a,.int .i64 b,.string type,.string cls,.string name]] ws (qf base ws sb B qb Zb lv sv ((qF (Za l) cls name).map fun t=>(.string t,L,S))):=by
 have T0:SA w0 w B l base ws lv sv sb qb Zb ws.heap.size [.int .i64 op,.int .i64 a,.int .i64 b,.string type,.string cls,.string name] (ws.alloc (.cells #[.int .i64 op,.int .i64 a,.int .i64 b,.string type,.string cls,.string name] 24)) lv sv L S:=SA.new hE h _;obtain⟨i0,i1,i2,i3,i4,i5⟩:=T0.cells;have HT:Hid (∀wx,_):=fun wx=>zI wx
 have HF:Hid (∀wx,_):=fun wx=>qB wx
 have HTh:Hid (∀wx,_):=fun wx=>ZX cls wx (Xf hc (by decide))
 have hsz:(Zd cls).size<=maxLen:=by rw[qam];exact Xf (Nat.add_le_add_right hc 2) (by decide)
 have HRg:=Xh hE.map0.faults;obtain⟨res,hres⟩:∃r,(qF (Za l) cls name).map (fun t=>((.string t:Value),L,S))=r:=⟨_,rfl⟩;have HR:=Xh hres;rw[hres];clear hres;unfold qF at HR;clear h hE;by_cases hk:zd (Za l) (Zd cls)=0
 ·rw[if_neg (by rw[hk];decide)]at HR;have HKn:=Xh (zaY hk);go_enter Tryz.func144,Tryz.ntmps144;go_upto_region 2 with(first
   |(go_fit (HTh.out _);rintro e wq⟨rfl,rfl⟩)
   |(go_fit (T0.knowsY (Zd cls) hsz hk);rintro e w1 hP;obtain⟨hB1,rfl,lv1,sv1,hS1,hk1⟩:=hP.ok'))
  obtain rfl:=hk1.1;have T1:=T0.next hB1 hS1 hk1;obtain⟨i0,i1,i2,i3,i4,i5⟩:=T1.cells;have q0:w1.cell? ⟨sb,0,none⟩=some (.map (some B)):=T1.step.blk.cell 0;have HT1:=Xh T1;have HFO:Hid (∀wx,Below w1.heap.size w1 wx->Calls Tryz.prog 186 #[.map (some B),.string cls,.string name] wx fun e w'=>e=.returned (QaP (Zam (Za l) cls name))/\Below wx.heap.size wx w'/\Below w1.heap.size w1 w'/\w'.cell? ⟨sb,0,none⟩=some (.map (some B))/\w'.cell? ⟨ws.heap.size,4,none⟩=some (.string cls)/\w'.cell? ⟨ws.heap.size,5,none⟩=some (.string name)):=fun wx hb =>
   (QcF w0 wx B l (HT1.out.over hb).env.map cls name HKn.out).mono fun e w' ⟨he,hB⟩=>by
    have hb':=Qa hb Xl hB;have T2:=HT1.out.over hb';obtain⟨_,_,_,_,k4,k5⟩:=T2.cells;exact⟨he,hB,hb',T2.step.blk.cell 0,k4,k5⟩
  have hw1:=T1.step.blk.lt;have hbs:=T1.step.low;have hsz1:=T1.box.lt;clear T0 T1 hB1 hS1 hk1 hP;cases hf:Zam (Za l) cls name with
  |none =>
   rw[hf]at HR HFO;unfold QaP at HFO;go_region_held3 (fun w'=>w'.cell? ⟨sb,0,none⟩=some (.map (some B))/\w'.cell? ⟨ws.heap.size,4,none⟩=some (.string cls)/\w'.cell? ⟨ws.heap.size,5,none⟩=some (.string name)) (first|go_keep|exact⟨(zp (a:=⟨sb,0,none⟩) (Nat.ne_of_lt hw1) _ _).trans k0,(zp (a:=⟨ws.heap.size,4,none⟩) (Nat.ne_of_lt hsz1) _ _).trans k4,(zp (a:=⟨ws.heap.size,5,none⟩) (Nat.ne_of_lt hsz1) _ _).trans k5⟩)
    (
     first
     |(go_fit (HFO.out _ ?_);(first|exact Xb.drew|exact(Xb.alloc Xl _).drew);rintro e w2⟨rfl,hB2,hB12,k0,k4,k5⟩;(first|(have KB:Blk w2 w1.heap.size 130 [.string ⟨#[]⟩,.string ⟨#[]⟩]:=Blk.step (w:=(w1.alloc (.cells #[.string ⟨#[]⟩,.string ⟨#[]⟩] 130)).drew) (Blk.new w1 130 [.string ⟨#[]⟩,.string ⟨#[]⟩]) hB2;obtain⟨x0,x1⟩:=KB.cells2;(have f0:=KB.frozen 0);(have f1:=KB.frozen 1))|skip)))
   ·have Tw:=(HT1.out.over hB12).alloc (.cells #[.string ⟨#[]⟩,.string ⟨#[]⟩] 130);generalize (w2.alloc (.cells #[.string ⟨#[]⟩,.string ⟨#[]⟩] 130))=W at *;have HTw:=Xh Tw;clear Tw k0 k4 k5 i0 i1 i2 i3 i4 i5 q0;go_wp2_with (first
     |(go_fit (HF.out _);rintro e wq⟨rfl,rfl⟩))
    exact And.intro rfl (HTw.out.stop Xb HR.out.symm)
   ·have Tw:=((HT1.out.over hB12).aside (b:=w1.heap.size) (Nat.le_of_lt hsz1) (Xf hbs (Nat.le_of_lt hw1)) (Nat.ne_of_gt hsz1) (HT1.out.step.fresh Xl) 0 (.string ⟨#[]⟩)).aside (b:=w1.heap.size) (Nat.le_of_lt hsz1) (Xf hbs (Nat.le_of_lt hw1)) (Nat.ne_of_gt hsz1) (HT1.out.step.fresh Xl) 1 (.string ⟨#[]⟩);generalize ((w2.setCell ⟨w1.heap.size,0,none⟩ (.string ⟨#[]⟩)).setCell ⟨w1.heap.size,1,none⟩ (.string ⟨#[]⟩))=W at *;have HTw:=Xh Tw;clear Tw k0 k4 k5 i0 i1 i2 i3 i4 i5 q0;go_wp2_with (first
     |(go_fit (HF.out _);rintro e wq⟨rfl,rfl⟩))
    exact And.intro rfl (HTw.out.stop Xb HR.out.symm)
  |some p =>
   obtain⟨c,f⟩:=p;have hfs:f.type.size<=maxLen:=by
    obtain⟨y,hy⟩:=Qaq (zaG HRg.out c f (QaX hf));exact hy.size
   rw[hf]at HR HFO;unfold QaP at HFO;dsimp only at HR;go_region_held3 (fun w'=>w'.cell? ⟨sb,0,none⟩=some (.map (some B))/\w'.cell? ⟨ws.heap.size,4,none⟩=some (.string cls)/\w'.cell? ⟨ws.heap.size,5,none⟩=some (.string name)) (first|go_keep|exact⟨(zp (a:=⟨sb,0,none⟩) (Nat.ne_of_lt hw1) _ _).trans k0,(zp (a:=⟨ws.heap.size,4,none⟩) (Nat.ne_of_lt hsz1) _ _).trans k4,(zp (a:=⟨ws.heap.size,5,none⟩) (Nat.ne_of_lt hsz1) _ _).trans k5⟩)
    (
     first
     |(go_fit (HFO.out _ ?_);(first|exact Xb.drew|exact(Xb.alloc Xl _).drew);rintro e w2⟨rfl,hB2,hB12,k0,k4,k5⟩;(first|(have KB:Blk w2 w1.heap.size 130 [.string ⟨#[]⟩,.string ⟨#[]⟩]:=Blk.step (w:=(w1.alloc (.cells #[.string ⟨#[]⟩,.string ⟨#[]⟩] 130)).drew) (Blk.new w1 130 [.string ⟨#[]⟩,.string ⟨#[]⟩]) hB2;obtain⟨x0,x1⟩:=KB.cells2;(have f0:=KB.frozen 0);(have f1:=KB.frozen 1))|skip)))
   ·have Tw:=(HT1.out.over hB12).alloc (.cells #[.string f.name,.string f.type] 130);have KW:Blk (w2.alloc (.cells #[.string f.name,.string f.type] 130)) w2.heap.size 130 [.string f.name,.string f.type]:=Blk.new w2 130 [.string f.name,.string f.type];have hAp:ZaL sb lv1 sv1 w2.heap.size:=(HT1.out.over hB12).step.fresh Xl;generalize (w2.alloc (.cells #[.string f.name,.string f.type] 130))=W at *;obtain⟨y0,y1⟩:=KW.cells2;have HTw:=Xh Tw;have HKW:=Xh KW;clear Tw KW k0 k4 k5 i0 i1 i2 i3 i4 i5 q0;by_cases hkf:zd (Za l) f.type=0
    ·rw[if_pos hkf]at HR;go_wp2_with (first
      |(go_fit (HT.out _);rintro e wq⟨rfl,rfl⟩)
      |(go_fit (HTw.out.knowsY f.type hfs hkf);rintro e w3 hP;obtain⟨hB3,rfl,lv3,sv3,hS3,hk3⟩:=hP.ok';(have T3:=HTw.out.next hB3 hS3 hk3);obtain⟨x0,x1⟩:=(hk3.blk HKW.out hAp).cells2))
     go_ret;exact T3.done HR.out.symm
    ·rw[if_neg hkf]at HR;go_wp2_with (first
      |(go_fit (HT.out _);rintro e wq⟨rfl,rfl⟩)
      |(go_fit (HTw.out.knowsN f.type hfs hkf);rintro e w3 hP;obtain⟨hB3,rfl⟩:=hP.no'))
     exact And.intro rfl (HTw.out.stop hB3 HR.out.symm)
   ·have Tw:=((HT1.out.over hB12).aside (b:=w1.heap.size) (Nat.le_of_lt hsz1) (Xf hbs (Nat.le_of_lt hw1)) (Nat.ne_of_gt hsz1) (HT1.out.step.fresh Xl) 0 (.string f.name)).aside (b:=w1.heap.size) (Nat.le_of_lt hsz1) (Xf hbs (Nat.le_of_lt hw1)) (Nat.ne_of_gt hsz1) (HT1.out.step.fresh Xl) 1 (.string f.type);have KW:Blk ((w2.setCell ⟨w1.heap.size,0,none⟩ (.string f.name)).setCell ⟨w1.heap.size,1,none⟩ (.string f.type)) w1.heap.size 130 [.string f.name,.string f.type]:=KB.put2 _ _;have hAp:ZaL sb lv1 sv1 w1.heap.size:=HT1.out.step.fresh Xl;generalize ((w2.setCell ⟨w1.heap.size,0,none⟩ (.string f.name)).setCell ⟨w1.heap.size,1,none⟩ (.string f.type))=W at *;obtain⟨y0,y1⟩:=KW.cells2;have HTw:=Xh Tw;have HKW:=Xh KW;clear Tw KW k0 k4 k5 i0 i1 i2 i3 i4 i5 q0;by_cases hkf:zd (Za l) f.type=0
    ·rw[if_pos hkf]at HR;go_wp2_with (first
      |(go_fit (HT.out _);rintro e wq⟨rfl,rfl⟩)
      |(go_fit (HTw.out.knowsY f.type hfs hkf);rintro e w3 hP;obtain⟨hB3,rfl,lv3,sv3,hS3,hk3⟩:=hP.ok';(have T3:=HTw.out.next hB3 hS3 hk3);obtain⟨x0,x1⟩:=(hk3.blk HKW.out hAp).cells2))
     go_ret;exact T3.done HR.out.symm
    ·rw[if_neg hkf]at HR;go_wp2_with (first
      |(go_fit (HT.out _);rintro e wq⟨rfl,rfl⟩)
      |(go_fit (HTw.out.knowsN f.type hfs hkf);rintro e w3 hP;obtain⟨hB3,rfl⟩:=hP.no'))
     exact And.intro rfl (HTw.out.stop hB3 HR.out.symm)
 ·rw[if_pos hk]at HR;go_enter Tryz.func144,Tryz.ntmps144;go_wp2_with (first
   |(go_fit (HTh.out _);rintro e wq⟨rfl,rfl⟩)
   |(go_fit (T0.knowsN (Zd cls) hsz hk);rintro e w1 hP;obtain⟨hB1,rfl⟩:=hP.no'))
  exact And.intro rfl (T0.stop hB1 HR.out.symm)
set_option maxRecDepth 512
def Qdp(v:Value):Prop:=∃a b c d e n p1 n1 k1 p2 n2 k2,v=.agg #[.string a,.string b,.bool c,.bool d,.bool e,.int .i64 n,.slice p1 n1 k1,.slice p2 n2 k2]
def Zcj(w:World)(f:Nat)(e:Ending)(w':World):Prop:=(∃s v,e=.returned (.tuple #[.string s,v,zE f])/\Qdp v)/\Below w.heap.size w w'
def qbA(o:Option (Str×Zk))(iss:Bool)(src:Str)(static:Bool):Nat :=
 match o with
 |none=>3
 |some (d,m)=>if (!iss)=true then 3 else if m.static≠static then 7 else if m.priv&&decide (d≠src) then 9 else 0
theorem qbJ(d:Str)(m:Zk)(iss:Bool)(src:Str)(static:Bool):qbA (some (d,m)) iss src static=if iss=false then 3 else if (m.static==static)=false then 7 else if (m.priv&&!decide (d=src))=true then 9 else 0:=by
 unfold qbA;cases iss with
 |false=>rfl
 |true =>
  obtain⟨p,hp⟩:∃p,m.priv=p:=⟨_,rfl⟩;cases p<;>by_cases h1:m.static=static<;>by_cases h2:d=src<;>simp[h1,h2,hp]
theorem Zbo(cs:List Qb)(src c n t:Str)(static:Bool):Zz cs src c n t static=if (!(Qc cs c).isSome)=true then 3 else qbA (zam cs c n t) (Qc cs src).isSome src static:=by
 unfold Zz qbA;cases Qc cs c<;>cases Qc cs src<;>cases zam cs c n t<;>rfl
set_option maxRecDepth 100000
theorem QbA(w0 w:World)(B:Nat)(l:List Qb)(hm:Qw w0 w B l)(src c n t:Str)(static:Bool)(hsc:c.size<=maxLen)(hss:src.size<=maxLen):
 Calls Tryz.prog 188 #[.map (some B),.string src,.string c,.string n,.string t,.bool static] w (Zcj w (Zz (Za l) src c n t static)):=by
 obtain⟨p1,k1,p2,k2,p3,k3,_,_,_,hlk⟩:=hm.map.look3 hm.right.nodup c hsc;obtain⟨p4,k4,p5,k5,p6,k6,_,_,_,hls⟩:=hm.map.look3 hm.right.nodup src hss;have hB1:Below w.heap.size w (w.alloc (.cells #[.string ⟨#[]⟩,.string ⟨#[]⟩,.bool false,.bool false,.bool false,.int .i64 0,.slice none 0 0,.slice none 0 0] 53)):=Xb.alloc Xl _;have hlk1:=(hlk _ hB1).1;have HMO:Hid ((Qc (Za l) c).isSome=true->∀wx,Below w.heap.size w wx->_):=fun hk wx hb=>zcv w0 wx B l (hm.step hb) c n t hk
 unfold QbJ at HMO;have HLs:=Xh hls;have hblk:Blk (w.alloc (.cells #[.string ⟨#[]⟩,.string ⟨#[]⟩,.bool false,.bool false,.bool false,.int .i64 0,.slice none 0 0,.slice none 0 0] 53)) w.heap.size 53 zo:=Blk.new w _ zo;have HCF:=Xh (Zbo (Za l) src c n t static);unfold Zcj;clear hm hsc hss hlk hls;generalize Zz (Za l) src c n t static=f at *;generalize (Qc (Za l) c).isSome=isc at *;generalize (Qc (Za l) src).isSome=iss at *;generalize (Qc (Za l) c).getD zg=dc at *;generalize (Qc (Za l) src).getD zg=ds at *;generalize zam (Za l) c n t=o at *;obtain⟨n2,s2,f2,b2,d2,m2⟩:=dc;obtain⟨n3,s3,f3,b3,d3,m3⟩:=ds;unfold Qz at hlk1 HLs;dsimp only at hlk1 HLs;have hBc:=(hB1.alloc hB1.size (.cells #[.string n2,.string s2,.slice p1 f2.length k1,.bool b2,.slice p2 d2.length k2,.slice p3 m2.length k3] 36));have hblc:=hblk.step (Xb.alloc Xl (.cells #[.string n2,.string s2,.slice p1 f2.length k1,.bool b2,.slice p2 d2.length k2,.slice p3 m2.length k3] 36));cases isc with
 |false =>
  have hf:f=3:=HCF.out;subst hf;obtain⟨q0,q1,q2,q3,q4,q5,q6,q7⟩:=hblk.method;have hfz:=hblk.frozen;have HB1:=Xh hB1;have hlt:=hblk.lt;clear HCF hblc hblk hBc HMO HLs hB1;go_enter Tryz.func188,Tryz.ntmps188;go_wp2_with fail;exact bodyPost_ret (v:=.tuple #[.string ⟨#[]⟩,.agg zo.toArray,.iface 29 (.int .i64 3)]) (by simp[results,Tryz.results188,go_sem, *,zo]) rfl ⟨⟨_,_,rfl,⟨_,_,_,_,_,_,_,_,_,_,_,_,rfl⟩⟩,HB1.out.alloc HB1.out.size _⟩
 |true =>
  have HMo:Hid (∀wx,Below w.heap.size w wx->_):=fun wx hb=>HMO.out rfl wx hb
  replace HCF:Hid (f=qbA o iss src static):=HCF.out;clear HMO hblk hB1;cases o with
  |none =>
   simp only[qaL,Option.map_none,Option.getD_none]at HMo;have hf:f=3:=HCF.out;subst hf;clear HCF HLs;go_enter Tryz.func188,Tryz.ntmps188;go_upto_region 6 with(go_fit (HMo.out _ hBc);rintro e w3⟨⟨v3,rfl,pc,kc,ph,kh,rfl,_,_⟩,hB3⟩)
   have hBl:=hblc.step hB3;obtain⟨q0,q1,q2,q3,q4,q5,q6,q7⟩:=hBl.method;have hfz:=hBl.frozen;have hlt:=hBl.lt;have hBe:=Qa hBc Xl hB3;have HE:=Xh ((ZB hBe (Nat.le_refl w.heap.size) (.string ⟨#[]⟩) (.string ⟨#[]⟩) (.bool false) (.bool false) (.bool false) (.int .i64 0) (.slice none 0 0) (.slice none 0 0)).alloc (Xf hBe.size (by simp)) (.cells #[.string QG.name,.string QG.type,.bool QG.static,.bool QG.abs,.bool QG.priv,.int .i64 QG.locals,.slice pc QG.code.length kc,.slice ph QG.handlers.length kh] 53));clear hBl hBe hblc hBc hB3;go_wp2_with fail;exact bodyPost_ret (v:=.tuple #[.string ⟨#[]⟩,.agg zo.toArray,.iface 29 (.int .i64 3)]) (by simp[results,Tryz.results188,go_sem, *,zo]) rfl ⟨⟨_,_,rfl,⟨_,_,_,_,_,_,_,_,_,_,_,_,rfl⟩⟩,HE⟩
  |some x =>
   obtain⟨d,m⟩:=x;simp only[qaL,Option.map_some,Option.getD_some]at HMo;go_enter Tryz.func188,Tryz.ntmps188;go_upto_region 7 with(go_fit (HMo.out _ hBc);rintro e w3⟨⟨v3,rfl,pc,kc,ph,kh,rfl,_,_⟩,hB3⟩)
   have hBe:=Qa hBc Xl hB3;have B18:=Blk.new w3 53 [.string m.name,.string m.type,.bool m.static,.bool m.abs,.bool m.priv,.int .i64 m.locals,.slice pc m.code.length kc,.slice ph m.handlers.length kh];have hBa:=(Below.refl w3.heap.size w3).alloc Xl (.cells #[.string m.name,.string m.type,.bool m.static,.bool m.abs,.bool m.priv,.int .i64 m.locals,.slice pc m.code.length kc,.slice ph m.handlers.length kh] 53);have B13:=(hblc.step hB3).step hBa;have hB4:=Qa hBe Xl hBa;have hne:w.heap.size<w3.heap.size:=(hblc.step hB3).lt;have B18:Blk (w3.alloc (.cells #[.string m.name,.string m.type,.bool m.static,.bool m.abs,.bool m.priv,.int .i64 m.locals,.slice pc m.code.length kc,.slice ph m.handlers.length kh] 53)) w3.heap.size 53 [.string m.name,.string m.type,.bool m.static,.bool m.abs,.bool m.priv,.int .i64 m.locals,.slice pc m.code.length kc,.slice ph m.handlers.length kh]:=B18;clear hblc hBc hB3 hBe hBa;generalize w3.alloc (.cells #[.string m.name,.string m.type,.bool m.static,.bool m.abs,.bool m.priv,.int .i64 m.locals,.slice pc m.code.length kc,.slice ph m.handlers.length kh] 53)=w4 at *;generalize w3.heap.size=x18 at *;have hls:=(HLs.out w4 hB4).1;obtain⟨q0,q1,q2,q3,q4,q5,q6,q7⟩:=B13.method;have hfz:=B13.frozen;have hlt:=B13.lt;obtain⟨t0,t1,t2,t3,t4,t5,t6,t7⟩:=B18.cells8;have hl18:=B18.lt;have HBz:=Xh ((ZB hB4 (Nat.le_refl w.heap.size) (.string ⟨#[]⟩) (.string ⟨#[]⟩) (.bool false) (.bool false) (.bool false) (.int .i64 0) (.slice none 0 0) (.slice none 0 0)).alloc (Xf hB4.size (by simp)) (.cells #[.string n3,.string s3,.slice p4 f3.length k4,.bool b3,.slice p5 d3.length k5,.slice p6 m3.length k6] 36));have HBm:=Xh (((ZB hB4 (Nat.le_refl w.heap.size) (.string m.name) (.string m.type) (.bool m.static) (.bool m.abs) (.bool m.priv) (.int .i64 m.locals) (.slice pc m.code.length kc) (.slice ph m.handlers.length kh)).alloc (Xf hB4.size (by simp)) (.cells #[.string n3,.string s3,.slice p4 f3.length k4,.bool b3,.slice p5 d3.length k5,.slice p6 m3.length k6] 36)).drew);clear B13 B18 hB4 HLs;have hst:=Z5 d src;obtain⟨st,hs1⟩:∃q,(m.static==static)=q:=⟨_,rfl⟩;have hs1n:(m.static != static)=!st:=(by rw[<-hs1];rfl);obtain⟨ne,hs2⟩:∃q,(d.toList==src.toList)=q:=⟨_,rfl⟩;have HFin:Hid (f=if iss=false then 3 else if st=false then 7 else if (m.priv&&!ne)=true then 9 else 0):=by
    unfold Hid;rw[HCF.out,qbJ,<-hs1,<-hs2,hst]
   clear HCF hst;obtain⟨pv,hpv⟩:∃q,m.priv=q:=⟨_,rfl⟩;rw[hpv]at HFin t4 HBm;cases iss with
   |false =>
    have hf:f=3:=HFin.out;subst hf;go_wp2_with fail;exact bodyPost_ret (v:=.tuple #[.string ⟨#[]⟩,.agg zo.toArray,.iface 29 (.int .i64 3)]) (by simp[results,Tryz.results188,go_sem, *,zo]) rfl ⟨⟨_,_,rfl,⟨_,_,_,_,_,_,_,_,_,_,_,_,rfl⟩⟩,HBz⟩
   |true =>
    cases st with
    |false =>
     have hf:f=7:=HFin.out;subst hf;go_wp2_with fail;exact bodyPost_ret (v:=.tuple #[.string ⟨#[]⟩,.agg zo.toArray,.iface 29 (.int .i64 7)]) (by simp[results,Tryz.results188,go_sem, *,zo]) rfl ⟨⟨_,_,rfl,⟨_,_,_,_,_,_,_,_,_,_,_,_,rfl⟩⟩,HBz⟩
    |true =>
     cases pv<;>cases ne
     case true.false =>
      have hf:f=9:=HFin.out;subst hf;go_wp2_with fail;exact bodyPost_ret (v:=.tuple #[.string ⟨#[]⟩,.agg zo.toArray,.iface 29 (.int .i64 9)]) (by simp[results,Tryz.results188,go_sem, *,zo]) rfl ⟨⟨_,_,rfl,⟨_,_,_,_,_,_,_,_,_,_,_,_,rfl⟩⟩,HBz⟩
     all_goals
      have hf:f=0:=HFin.out;subst hf;go_upto_region 14 with fail;go_region
      all_goals go_wp2
      all_goals exact bodyPost_ret (v:=.tuple #[.string d,.agg #[.string m.name,.string m.type,.bool m.static,.bool m.abs,.bool _,.int .i64 m.locals,.slice pc m.code.length kc,.slice ph m.handlers.length kh],.nilIface]) (by simp[results,Tryz.results188,go_sem, *];rfl) rfl ⟨⟨_,_,rfl,⟨_,_,_,_,_,_,_,_,_,_,_,_,rfl⟩⟩,HBm⟩
set_option maxRecDepth 512
def zaQ(w:World)(m:Option (List ByteArray×ByteArray))(e:Ending)(w':World):Prop :=
 Below w.heap.size w w'/\match m with
  |none=>e=.returned (.tuple #[.slice none 0 0,.string .empty,.iface 29 (.int .i64 1)])
  |some (args,g)=>∃v,e=.returned (.tuple #[v,.string g,.nilIface])/\w'.ownsRow w.heap.size 9 1 v args.length (args.map Value.string)
theorem Zcv{w w':World}{m:Option (List ByteArray×ByteArray)}(hm:m=none)(hb:Below w.heap.size w w'):
 zaQ w m (.returned (.tuple #[.slice none 0 0,.string .empty,.iface 29 (.int .i64 1)])) w':=by subst hm;exact⟨hb,rfl⟩
theorem zcG{w w':World}{m:Option (List ByteArray×ByteArray)}{args:List ByteArray}{g:ByteArray}{v:Value}(hm:m=some (args,g))(hb:Below w.heap.size w w')(hv:w'.ownsRow w.heap.size 9 1 v args.length (args.map Value.string)):
 zaQ w m (.returned (.tuple #[v,.string g,.nilIface])) w':=by subst hm;exact⟨hb,v,rfl,hv⟩
set_option maxRecDepth 100000
theorem zdq(s r0:ByteArray)(is0:Bool)(w:World)(hs:s.size<=1048576)(hr0:r0.size<=s.size)(h0:Lib.trimPrefix s.data.toList [40]=r0.data.toList)(hi0:Lib.hasPrefix s.data.toList [40]=is0)(r:ByteArray)(acc:List ByteArray)(is:Bool)(hf:zA r0 is0 []=(r,acc,is))(m:Option (List ByteArray×ByteArray))(hm:QC (r,acc,is)=m):
 Calls Tryz.prog 132 #[.string s] w (zaQ w m):=by
 have HMF:=Xh hm;clear hm;have HF:=Xh hf;obtain⟨i0,hi,hz0,hz1,hz2⟩:=info_parts qO;clear hf;go_enter Tryz.func132,Tryz.ntmps132;go_wp2_with (go_fit (Qba _ _ _);rintro e w'⟨rfl,rfl⟩)
 clear h0 hi0;go_loopw [5,6,7] (fun x y v wr=>∃(r1:ByteArray) (is1:Bool) (acc1:List ByteArray),Hid (zA r1 is1 acc1=(r,acc,is))/\r1.size+acc1.length<=s.size/\wr.ownsRow w.heap.size 9 1 v acc1.length (acc1.map Value.string)/\Below w.heap.size w wr/\x=.string r1/\y=.bool is1)
  (fun x y _ _=>if zbB y then ZbS x+1 else 0)
 case atStart=>exact⟨r0,is0,[],HF,by simpa using hr0,World.ownsRow_nil _ _ _ _,Xb,rfl,rfl⟩
 case round =>
  clear HF;obtain⟨r1,is1,acc1,hfin,hsz,hown,hbel,rfl,rfl⟩:=hrel;cases is1 with
  |false =>
   have hfo:=hfin.out;unfold zA at hfo;simp only[Bool.false_eq_true,if_false,Prod.mk.injEq]at hfo;obtain⟨rfl,rfl,rfl⟩:=hfo;have hno:Hid (m=none):=(by unfold Hid;rw[<-HMF.out];simp[QC]);clear hfin HMF hown;go_wp2_with (go_fit (qL _ _);rintro e w'⟨rfl,rfl⟩)
   go_ret3;exact Zcv hno.out hbel
  |true =>
   cases hp:Lib.hasPrefix r1.data.toList [41] with
   |true =>
    have hfo:=hfin.out;rw[ZbV hp]at hfo;simp only[Prod.mk.injEq]at hfo;obtain⟨rfl,rfl,rfl⟩:=hfo;clear hfin;have hgs:(Q6 r1).size<=maxLen:=zF (by have:=qbV r1;omega);have HMF2:Hid (QC (r1,acc1,true)=m):=HMF.out;clear HMF;obtain⟨va,vc,rfl⟩:=qe hown;generalize hg:Q6 r1=g at *;by_cases h5:acc1.length<=5
    ·cases hV:(g.toList==[86]) with
     |true =>
      have hyes:Hid (m=some (acc1,g)):=(by unfold Hid;rw[<-HMF2.out];exact zaa h5 hg (by simp[qX,hV]));have hv:=Xh hown;have HG:=Xh hgs;clear hown HMF2 hgs;go_wp2_with (first|(go_fit (Zy _ _ _);rintro e w'⟨rfl,rfl⟩)|(go_fit (qL _ _);rintro e w'⟨rfl,rfl⟩))
      go_ret3;exact zcG hyes.out hbel hv.out
     |false =>
      cases hT:Qs g.data.toList with
      |true =>
       have hyes:Hid (m=some (acc1,g)):=(by unfold Hid;rw[<-HMF2.out];exact zaa h5 hg (by simp[qX,hT]));have hC:=Xh (Qac hgs hT);have HO:=Xh hown;clear hown HMF2 hgs hT;go_wp2_with (first|(go_fit (Zy _ _ _);rintro e w'⟨rfl,rfl⟩)|(go_fit (qL _ _);rintro e w'⟨rfl,rfl⟩)|(go_fit (hC.out _);rintro e w2⟨rfl,hB⟩))
       go_ret3;exact zcG hyes.out (hbel.trans (hB.mono hbel.size)) (qr HO.out hB)
      |false =>
       have hno:Hid (m=none):=(by unfold Hid;rw[<-HMF2.out];exact zaI hg (by simp[qX,hT,hV]));have hC:=Xh (zai hgs hT);clear hown HMF2 hgs hT;go_wp2_with (first|(go_fit (Zy _ _ _);rintro e w'⟨rfl,rfl⟩)|(go_fit (qL _ _);rintro e w'⟨rfl,rfl⟩)|(go_fit (hC.out _);rintro e w2⟨rfl,hB⟩))
       go_ret3;exact Zcv hno.out (hbel.trans (hB.mono hbel.size))
    ·have hno:Hid (m=none):=(by unfold Hid;rw[<-HMF2.out];exact ZaI h5);clear HMF2 hgs hown;go_wp2_with (first|(go_fit (Zy _ _ _);rintro e w'⟨rfl,rfl⟩)|(go_fit (qL _ _);rintro e w'⟨rfl,rfl⟩))
     go_ret3;exact Zcv hno.out hbel
   |false =>
    cases ht:ZA r1.data.toList with
    |zero =>
     have HT:=Xh ht;have HN:Hid (zA r1 false acc1=(r,acc,is)):=(by unfold Hid;rw[<-qbS hp ht];exact hfin.out);clear ht hfin;go_wp2_with (first|(go_fit (Zy _ _ _);rintro e w'⟨rfl,rfl⟩)|(go_fit (qcv (zF (by omega)) HT.out _);rintro e w2⟨rfl,hB⟩))
     go_roundw;case rel=>exact⟨r1,false,acc1,HN,hsz,qr hown hB,hbel.trans (hB.mono hbel.size),rfl,rfl⟩
     case measure=>simp[zbB]
    |succ n =>
     have hle:=zar r1.data.toList;rw[QB,ht]at hle;have HT:=Xh ht;have HN:Hid (zA (r1.extract (n+1) r1.size) true (acc1++[r1.extract 0 (n+1)])=(r,acc,is)):=(by unfold Hid;rw[<-QbV hp ht];exact hfin.out);have hx1:(r1.extract (n+1) r1.size).size=r1.size-(n+1):=(by simp);have HX:=Xh hx1;clear ht hfin hx1;generalize hr2:r1.extract (n+1) r1.size=r2 at HN HX;generalize hx:r1.extract 0 (n+1)=x1 at HN;go_wp2_with (go_fit (Zy _ _ _);rintro e w'⟨rfl,rfl⟩)
     (with_reducible refine(qbo (zF (by omega)) HT.out _).mono ?_)
     rintro e w2⟨rfl,hB⟩;have ho:=qr hown hB;have hb2:Below w.heap.size w (w2.alloc (.cells #[.string x1] 9)):=(hbel.trans (hB.mono hbel.size)).alloc (Xf hbel.size hB.size) _;have c2:∀u∈[Value.string x1],u.oneCell'=true:=fun u hu=>by simp at hu;subst hu;rfl
     have c3:acc1.length+1<=maxLen:=zF (by omega);have c4:(acc1.length+1)*16<=140737488355328:=(by omega);have c5:=hb2.size;have HB2:=Xh hb2;have HZ:Hid ((r2.size:Nat)+(acc1++[x1]).length<=s.size):=(by unfold Hid;rw[HX.out];simp;omega);have HM:Hid (r2.size<r1.size):=(by unfold Hid;rw[HX.out];omega);clear hown hB hbel hb2 hle hsz hr0 HX HT;go_wp2_with (at_builtin;refine wpList_append_own _ rfl _ _ 25 rfl w.heap.size 9 i0 (.string .empty) 1 16 Tryz.underlying25 hi hz0 hz1 hz2 rfl (by decide) _ _ _ rfl (ho.alloc _) ⟨w2.heap.size,0,none⟩ 1 1 [.string x1] rfl rfl (cell_one_new _ _ _) c2 c3 c4 c5 ?_;intro v2 w3 hown3 hgrow3 _)
     have hb3:Below w.heap.size w w3:=HB2.out.grown hgrow3 c5 (fun k hk=>(ho.lt k hk).1);have hown4:w3.ownsRow w.heap.size 9 1 v2 (acc1++[x1]).length ((acc1++[x1]).map Value.string):=(by simpa using hown3);go_roundw;case rel=>exact⟨r2,true,acc1++[x1],HN,HZ,hown4,hb3,rfl,rfl⟩
     case measure=>have:=HM.out;simp[zbB,ZbS];omega
set_option maxRecDepth 512
theorem ZaY(s:ByteArray)(w:World)(hs:s.size<=1048576):Calls Tryz.prog 132 #[.string s] w (zaQ w (zm s)):=by
 have hsz:(Lib.trimPrefix s.data.toList [40]).length<=s.data.toList.length:=by unfold Lib.trimPrefix;split<;>simp
 rw[QB]at hsz;exact zdq s ⟨(Lib.trimPrefix s.data.toList [40]).toArray⟩ (Lib.hasPrefix s.data.toList [40]) w hs (by show(Lib.trimPrefix s.data.toList [40]).toArray.size<=s.size;rw[List.size_toArray];exact hsz) rfl rfl _ _ _ rfl _ rfl
theorem Qbo(N:Nat):∀(n:Nat) (r:ByteArray) (acc:List ByteArray),r.size<=N->(∀x∈acc,x.size<=N)->(Qax n r acc).1.size<=N/\∀x∈(Qax n r acc).2.1,x.size<=N
 |0,r,acc,hr,ha=>⟨hr,ha⟩
 |n+1,r,acc,hr,ha=>by
  unfold Qax;split
  ·exact⟨hr,ha⟩
  ·split
   ·exact⟨hr,ha⟩
   ·refine Qbo N n _ _ ?_ ?_
    ·rw[ByteArray.size_extract];omega
    ·intro x hx;rcases List.mem_append.1 hx with hx|hx
     ·exact ha x hx
     ·simp at hx;subst hx;rw[ByteArray.size_extract];omega
theorem QT{s:ByteArray}{args:List ByteArray}{g:ByteArray}(h:zm s=some (args,g)):(∀x∈args,x.size<=s.size)/\g.size<=s.size:=by
 have hsz:(Lib.trimPrefix s.data.toList [40]).length<=s.data.toList.length:=by unfold Lib.trimPrefix;split<;>simp
 rw[QB]at hsz;unfold zm QC at h;have hA:(zA ⟨(Lib.trimPrefix s.data.toList [40]).toArray⟩ (Lib.hasPrefix s.data.toList [40]) []).1.size<=s.size/\∀x∈(zA ⟨(Lib.trimPrefix s.data.toList [40]).toArray⟩ (Lib.hasPrefix s.data.toList [40]) []).2.1,x.size<=s.size:=by
  have hr0:(⟨(Lib.trimPrefix s.data.toList [40]).toArray⟩:ByteArray).size<=s.size:=by show(Lib.trimPrefix s.data.toList [40]).toArray.size<=s.size;rw[List.size_toArray];exact hsz
  unfold zA;split
  ·exact Qbo s.size _ _ _ hr0 (fun x hx=>by cases hx)
  ·exact⟨hr0,fun x hx=>by cases hx⟩
 split at h
 ·injection h with h
  injection h with h1 h2
  subst h1 h2;refine⟨hA.2,?_⟩;have h3:(Q6 (zA ⟨(Lib.trimPrefix s.data.toList [40]).toArray⟩ (Lib.hasPrefix s.data.toList [40]) []).1).size<=(zA ⟨(Lib.trimPrefix s.data.toList [40]).toArray⟩ (Lib.hasPrefix s.data.toList [40]) []).1.size:=by
   generalize (zA ⟨(Lib.trimPrefix s.data.toList [40]).toArray⟩ (Lib.hasPrefix s.data.toList [40]) []).1=r;show(Lib.trimPrefix r.data.toList [41]).toArray.size<=r.size
   rw[List.size_toArray,<-QB r];unfold Lib.trimPrefix;split<;>simp
  exact Xf h3 hA.1
 ·cases h
def Zdq(cs:List Qb)(L S:List Str)(g:Str):Option (List Str×List Str):=if zd cs g=0 then zv L S g else none
def qaY(cs:List Qb)(L S:List Str)(g:Str):Option (List Str×List Str):=if (g.toList==[86])=true then some (L,S) else Zdq cs L S g
def QaY(cs:List Qb)(static:Bool)(cls:Str)(S:List Str):Option (List Str):=if static=true then some S else zh cs [Zd cls] S
def Qam(cs:List Qb)(qb cls name type:Str)(static:Bool)(L S:List Str):Option (List Str×List Str) :=
 if Zz cs qb cls name type static≠0 then none else match zm type with
  |none=>none
  |some (args,g)=>(zh cs args.reverse S).bind fun S1=>(QaY cs static cls S1).bind fun S2=>qaY cs L S2 g
theorem zbW{cs:List Qb}{L S:List Str}{g:Str}(h:(g.toList==[86])=true):qaY cs L S g=some (L,S):=by unfold qaY;rw[if_pos h]
theorem zbp{cs:List Qb}{L S:List Str}{g:Str}(h:(g.toList==[86])=false)(hk:zd cs g≠0):qaY cs L S g=none:=by unfold qaY Zdq;rw[if_neg (by rw[h];decide),if_neg hk]
theorem qa5{cs:List Qb}{L S:List Str}{g:Str}(h:(g.toList==[86])=false)(hk:zd cs g=0)(hq:QK S g=none):qaY cs L S g=none:=by unfold qaY Zdq;rw[if_neg (by rw[h];decide),if_pos hk];exact qD hq
theorem Qa5{cs:List Qb}{L S S':List Str}{g:Str}(h:(g.toList==[86])=false)(hk:zd cs g=0)(hq:QK S g=some S'):qaY cs L S g=some (L,S'):=by unfold qaY Zdq;rw[if_neg (by rw[h];decide),if_pos hk];exact zD hq
theorem Qi.grown{base:Nat}{w w':World}{sb B:Nat}{qb Zb:Str}{lv sv v:Value}{L S:List Str}(h:Qi base w sb B qb Zb lv sv L S)(hg:w.grownBy w' v.ownBlock)(hv:∀g,v.ownBlock=some g->ZaL sb lv sv g):Qi base w' sb B qb Zb lv sv L S :=
 ⟨h.blk.grown hg (fun e=>(hv sb e).1 rfl),h.locals.kept hg (by
  cases hl:lv.ownBlock with
  |none=>exact Or.inl rfl
  |some g=>exact Or.inr (fun e=>(hv g e.symm).2.1 hl)),h.stack.kept hg (by
  cases hl:sv.ownBlock with
  |none=>exact Or.inl rfl
  |some g=>exact Or.inr (fun e=>(hv g e.symm).2.2 hl)),h.apart,h.lfar,h.sfar,h.low⟩
theorem SA.grown{w0 w:World}{B:Nat}{l:List Qb}{base:Nat}{ws:World}{lv0 sv0:Value}{sb:Nat}{qb Zb:Str}{xb:Nat}{xv:List Value}{wx:World}{lv sv v:Value}{L S:List Str}(T:SA w0 w B l base ws lv0 sv0 sb qb Zb xb xv wx lv sv L S){w':World}(hg:wx.grownBy w' v.ownBlock)(hb:base<=wx.heap.size)(hv:∀g,v.ownBlock=some g->ws.heap.size<=g/\base<=g/\g≠xb/\ZaL sb lv sv g):SA w0 w B l base ws lv0 sv0 sb qb Zb xb xv w' lv sv L S :=
 have hB:Below base wx w':=(Below.refl base wx).grown hg hb (fun g e=>(hv g e).2.1);⟨T.env.step hB,T.step.grown hg (fun g e=>(hv g e).2.2.2),T.box.grown hg (fun e=>(hv xb e).2.2.1 rfl),T.apart,T.below.trans hB,⟨T.kp.1,fun g hg' ha=>⟨(hg.block g (Nat.lt_of_lt_of_le hg' T.below.size) (fun e=>absurd (hv g e.symm).1 (Nat.not_le_of_lt hg'))).trans (T.kp.2 g hg' ha).1,(T.kp.2 g hg' ha).2⟩⟩⟩
theorem QF{w:World}{a:Addr}{b:Nat}{v0 v1 v2 v3 v4 v5 v6 v7:Value}(h:a.block≠b):((((((((w.setCell ⟨b,0,none⟩ v0).setCell ⟨b,1,none⟩ v1).setCell ⟨b,2,none⟩ v2).setCell ⟨b,3,none⟩ v3).setCell ⟨b,4,none⟩ v4).setCell ⟨b,5,none⟩ v5).setCell ⟨b,6,none⟩ v6).setCell ⟨b,7,none⟩ v7).cell? a=w.cell? a:=World.cell?_of_block (by rw[Xk _ _ _ _ h,Xk _ _ _ _ h,Xk _ _ _ _ h,Xk _ _ _ _ h,Xk _ _ _ _ h,Xk _ _ _ _ h,Xk _ _ _ _ h,Xk _ _ _ _ h])
set_option maxRecDepth 100000
theorem zd7(w0 w:World)(B:Nat)(l:List Qb)(base:Nat)(ws:World)(hE:Env w0 w B l base ws)(sb:Nat)(qb Zb:Str)(lv sv:Value)(L S:List Str)(h:Qi base ws sb B qb Zb lv sv L S)(op a b:Int)(type cls name:Str)(static:Bool)(hc:cls.size<=1048576)(hfr:qb.size<=maxLen)(hf:Zz (Za l) qb cls name type static≠0):
 Calls Tryz.prog 147 #[.pointer (some ⟨sb,0,none⟩),.agg #[.int .i64 op,.int .i64 a,.int .i64 b,.string type,.string cls,.string name],.bool static] ws (qf base ws sb B qb Zb lv sv (none)):=by
 have T0:SA w0 w B l base ws lv sv sb qb Zb ws.heap.size [.int .i64 op,.int .i64 a,.int .i64 b,.string type,.string cls,.string name] (ws.alloc (.cells #[.int .i64 op,.int .i64 a,.int .i64 b,.string type,.string cls,.string name] 24)) lv sv L S:=SA.new hE h _;obtain⟨i0,i1,i2,i3,i4,i5⟩:=T0.cells;have HF:Hid (∀wx,_):=fun wx=>qB wx
 have q0:(ws.alloc (.cells #[.int .i64 op,.int .i64 a,.int .i64 b,.string type,.string cls,.string name] 24)).cell? ⟨sb,0,none⟩=some (.map (some B)):=T0.step.blk.cell 0;have q1:(ws.alloc (.cells #[.int .i64 op,.int .i64 a,.int .i64 b,.string type,.string cls,.string name] 24)).cell? ⟨sb,1,none⟩=some (.string qb):=T0.step.blk.cell 1;obtain⟨w1,hw1⟩:∃w1,ws.alloc (.cells #[.int .i64 op,.int .i64 a,.int .i64 b,.string type,.string cls,.string name] 24)=w1:=⟨_,rfl⟩;rw[hw1]at T0 i0 i1 i2 i3 i4 i5 q0 q1;have HT1:=Xh T0;have HFO:Hid (∀wx,Below w1.heap.size w1 wx->Calls Tryz.prog 188 #[.map (some B),.string qb,.string cls,.string name,.string type,.bool static] wx fun e w'=>(∃s m1 m2 m3 m4 m5 m6 m7 m8 m9 m10 m11 m12,e=.returned (.tuple #[.string s,.agg #[.string m1,.string m2,.bool m3,.bool m4,.bool m5,.int .i64 m6,.slice m7 m8 m9,.slice m10 m11 m12],zE (Zz (Za l) qb cls name type static)]))/\Below wx.heap.size wx w'/\Below w1.heap.size w1 w'/\w'.cell? ⟨sb,0,none⟩=some (.map (some B))/\w'.cell? ⟨sb,1,none⟩=some (.string qb)/\w'.cell? ⟨ws.heap.size,3,none⟩=some (.string type)/\w'.cell? ⟨ws.heap.size,4,none⟩=some (.string cls)/\w'.cell? ⟨ws.heap.size,5,none⟩=some (.string name)):=fun wx hb =>
  (QbA w0 wx B l (HT1.out.over hb).env.map qb cls name type static (Xf hc (by decide)) hfr).mono fun e w' ⟨⟨s,v,he,m1,m2,m3,m4,m5,m6,m7,m8,m9,m10,m11,m12,hm⟩,hB⟩=>by
   have hb':=Qa hb Xl hB;have T2:=HT1.out.over hb';obtain⟨_,_,_,k3,k4,k5⟩:=T2.cells;subst hm;exact⟨⟨s,m1,m2,m3,m4,m5,m6,m7,m8,m9,m10,m11,m12,he⟩,hB,hb',T2.step.blk.cell 0,T2.step.blk.cell 1,k3,k4,k5⟩
 have hw1l:=T0.step.blk.lt;have hbs:=T0.step.low;have hsz1:=T0.box.lt;rcases QI (Zz (Za l) qb cls name type static) with⟨_,hz⟩|⟨hv,_⟩
 ·exact absurd hz hf
 rw[hv]at HFO;clear hv;generalize Zz (Za l) qb cls name type static=n at *;go_enter Tryz.func147,Tryz.ntmps147;go_upto_region 1 with fail;clear T0 h hE hw1;go_region_held3 (fun w'=>w'.cell? ⟨sb,0,none⟩=some (.map (some B))/\w'.cell? ⟨sb,1,none⟩=some (.string qb)/\w'.cell? ⟨ws.heap.size,3,none⟩=some (.string type)/\w'.cell? ⟨ws.heap.size,4,none⟩=some (.string cls)/\w'.cell? ⟨ws.heap.size,5,none⟩=some (.string name)) (first|go_keep|exact⟨(QF (a:=⟨sb,0,none⟩) (Nat.ne_of_lt hw1l)).trans k0,(QF (a:=⟨sb,1,none⟩) (Nat.ne_of_lt hw1l)).trans k1,(QF (a:=⟨ws.heap.size,3,none⟩) (Nat.ne_of_lt hsz1)).trans k3,(QF (a:=⟨ws.heap.size,4,none⟩) (Nat.ne_of_lt hsz1)).trans k4,(QF (a:=⟨ws.heap.size,5,none⟩) (Nat.ne_of_lt hsz1)).trans k5⟩)
  (
   first
   |(go_fit (HFO.out _ ?_);(first|exact Xb.drew|exact(Xb.alloc Xl _).drew);rintro e w2⟨⟨s,m1,m2,m3,m4,m5,m6,m7,m8,m9,m10,m11,m12,rfl⟩,hB2,hB12,k0,k1,k3,k4,k5⟩;(first|(have KB:Blk w2 w1.heap.size 53 [.string ⟨#[]⟩,.string ⟨#[]⟩,.bool false,.bool false,.bool false,.int .i64 0,.slice none 0 0,.slice none 0 0]:=Blk.step (w:=(w1.alloc (.cells #[.string ⟨#[]⟩,.string ⟨#[]⟩,.bool false,.bool false,.bool false,.int .i64 0,.slice none 0 0,.slice none 0 0] 53)).drew) (Blk.new w1 53 [.string ⟨#[]⟩,.string ⟨#[]⟩,.bool false,.bool false,.bool false,.int .i64 0,.slice none 0 0,.slice none 0 0]) hB2;obtain⟨x0,x1,x2,x3,x4,x5,x6,x7⟩:=KB.cells8;(have f0:=KB.frozen 0);(have f1:=KB.frozen 1);(have f2:=KB.frozen 2);(have f3:=KB.frozen 3);(have f4:=KB.frozen 4);(have f5:=KB.frozen 5);(have f6:=KB.frozen 6);(have f7:=KB.frozen 7))|skip)))
 ·have Tw:=(HT1.out.over hB12).alloc (.cells #[.string m1,.string m2,.bool m3,.bool m4,.bool m5,.int .i64 m6,.slice m7 m8 m9,.slice m10 m11 m12] 53);generalize (w2.alloc (.cells #[.string m1,.string m2,.bool m3,.bool m4,.bool m5,.int .i64 m6,.slice m7 m8 m9,.slice m10 m11 m12] 53))=W at *;have HTw:=Xh Tw;obtain⟨i0,i1,i2,i3,i4,i5⟩:=Tw.cells;clear Tw k0 k1 k3 k4 k5 HT1 HFO q0 q1;go_wp2_with (first
   |(go_fit (HF.out _);rintro e wq⟨rfl,rfl⟩))
  exact And.intro rfl (HTw.out.stop Xb rfl)
 ·have Tw:=(((((((((HT1.out.over hB12).aside (b:=w1.heap.size) (Nat.le_of_lt hsz1) (Xf hbs (Nat.le_of_lt hw1l)) (Nat.ne_of_gt hsz1) (HT1.out.step.fresh Xl) 0 (.string m1)).aside (b:=w1.heap.size) (Nat.le_of_lt hsz1) (Xf hbs (Nat.le_of_lt hw1l)) (Nat.ne_of_gt hsz1) (HT1.out.step.fresh Xl) 1 (.string m2)).aside (b:=w1.heap.size) (Nat.le_of_lt hsz1) (Xf hbs (Nat.le_of_lt hw1l)) (Nat.ne_of_gt hsz1) (HT1.out.step.fresh Xl) 2 (.bool m3)).aside (b:=w1.heap.size) (Nat.le_of_lt hsz1) (Xf hbs (Nat.le_of_lt hw1l)) (Nat.ne_of_gt hsz1) (HT1.out.step.fresh Xl) 3 (.bool m4)).aside (b:=w1.heap.size) (Nat.le_of_lt hsz1) (Xf hbs (Nat.le_of_lt hw1l)) (Nat.ne_of_gt hsz1) (HT1.out.step.fresh Xl) 4 (.bool m5)).aside (b:=w1.heap.size) (Nat.le_of_lt hsz1) (Xf hbs (Nat.le_of_lt hw1l)) (Nat.ne_of_gt hsz1) (HT1.out.step.fresh Xl) 5 (.int .i64 m6)).aside (b:=w1.heap.size) (Nat.le_of_lt hsz1) (Xf hbs (Nat.le_of_lt hw1l)) (Nat.ne_of_gt hsz1) (HT1.out.step.fresh Xl) 6 (.slice m7 m8 m9)).aside (b:=w1.heap.size) (Nat.le_of_lt hsz1) (Xf hbs (Nat.le_of_lt hw1l)) (Nat.ne_of_gt hsz1) (HT1.out.step.fresh Xl) 7 (.slice m10 m11 m12));generalize ((((((((w2.setCell ⟨w1.heap.size,0,none⟩ (.string m1)).setCell ⟨w1.heap.size,1,none⟩ (.string m2)).setCell ⟨w1.heap.size,2,none⟩ (.bool m3)).setCell ⟨w1.heap.size,3,none⟩ (.bool m4)).setCell ⟨w1.heap.size,4,none⟩ (.bool m5)).setCell ⟨w1.heap.size,5,none⟩ (.int .i64 m6)).setCell ⟨w1.heap.size,6,none⟩ (.slice m7 m8 m9)).setCell ⟨w1.heap.size,7,none⟩ (.slice m10 m11 m12))=W at *;have HTw:=Xh Tw;obtain⟨i0,i1,i2,i3,i4,i5⟩:=Tw.cells;clear Tw k0 k1 k3 k4 k5 HT1 HFO q0 q1;go_wp2_with (first
   |(go_fit (HF.out _);rintro e wq⟨rfl,rfl⟩))
  exact And.intro rfl (HTw.out.stop Xb rfl)
theorem Qei(w0 w:World)(B:Nat)(l:List Qb)(base:Nat)(ws:World)(hE:Env w0 w B l base ws)(sb:Nat)(qb Zb:Str)(lv sv:Value)(L S:List Str)(h:Qi base ws sb B qb Zb lv sv L S)(hS:Qm (Za l) S)(op a b:Int)(type cls name:Str)(hc:cls.size<=1048576)(hfr:qb.size<=maxLen)(hty:type.size<=1048576)(hf:Zz (Za l) qb cls name type true=0):
 Calls Tryz.prog 147 #[.pointer (some ⟨sb,0,none⟩),.agg #[.int .i64 op,.int .i64 a,.int .i64 b,.string type,.string cls,.string name],.bool true] ws (qf base ws sb B qb Zb lv sv (Zn (match zm type with|none=>none|some (args,g)=>(zh (Za l) args.reverse S).bind fun S1=>(QaY (Za l) true cls S1).bind fun S2=>qaY (Za l) L S2 g))):=by
 have T0:SA w0 w B l base ws lv sv sb qb Zb ws.heap.size [.int .i64 op,.int .i64 a,.int .i64 b,.string type,.string cls,.string name] (ws.alloc (.cells #[.int .i64 op,.int .i64 a,.int .i64 b,.string type,.string cls,.string name] 24)) lv sv L S:=SA.new hE h _;obtain⟨i0,i1,i2,i3,i4,i5⟩:=T0.cells;have HT:Hid (∀wx,_):=fun wx=>zI wx
 have HF:Hid (∀wx,_):=fun wx=>qB wx
 have q0:(ws.alloc (.cells #[.int .i64 op,.int .i64 a,.int .i64 b,.string type,.string cls,.string name] 24)).cell? ⟨sb,0,none⟩=some (.map (some B)):=T0.step.blk.cell 0;have q1:(ws.alloc (.cells #[.int .i64 op,.int .i64 a,.int .i64 b,.string type,.string cls,.string name] 24)).cell? ⟨sb,1,none⟩=some (.string qb):=T0.step.blk.cell 1;obtain⟨w1,hw1⟩:∃w1,ws.alloc (.cells #[.int .i64 op,.int .i64 a,.int .i64 b,.string type,.string cls,.string name] 24)=w1:=⟨_,rfl⟩;rw[hw1]at T0 i0 i1 i2 i3 i4 i5 q0 q1;have HT1:=Xh T0;have HFO:Hid (∀wx,Below w1.heap.size w1 wx->Calls Tryz.prog 188 #[.map (some B),.string qb,.string cls,.string name,.string type,.bool true] wx fun e w'=>(∃s m1 m2 m3 m4 m5 m6 m7 m8 m9 m10 m11 m12,e=.returned (.tuple #[.string s,.agg #[.string m1,.string m2,.bool m3,.bool m4,.bool m5,.int .i64 m6,.slice m7 m8 m9,.slice m10 m11 m12],zE (Zz (Za l) qb cls name type true)]))/\Below wx.heap.size wx w'/\Below w1.heap.size w1 w'/\w'.cell? ⟨sb,0,none⟩=some (.map (some B))/\w'.cell? ⟨sb,1,none⟩=some (.string qb)/\w'.cell? ⟨ws.heap.size,3,none⟩=some (.string type)/\w'.cell? ⟨ws.heap.size,4,none⟩=some (.string cls)/\w'.cell? ⟨ws.heap.size,5,none⟩=some (.string name)):=fun wx hb =>
  (QbA w0 wx B l (HT1.out.over hb).env.map qb cls name type true (Xf hc (by decide)) hfr).mono fun e w' ⟨⟨s,v,he,m1,m2,m3,m4,m5,m6,m7,m8,m9,m10,m11,m12,hm⟩,hB⟩=>by
   have hb':=Qa hb Xl hB;have T2:=HT1.out.over hb';obtain⟨_,_,_,k3,k4,k5⟩:=T2.cells;subst hm;exact⟨⟨s,m1,m2,m3,m4,m5,m6,m7,m8,m9,m10,m11,m12,he⟩,hB,hb',T2.step.blk.cell 0,T2.step.blk.cell 1,k3,k4,k5⟩
 have hw1l:=T0.step.blk.lt;have hbs:=T0.step.low;have hsz1:=T0.box.lt;have HD:Hid (∀wx,_):=fun wx=>ZaY type wx hty
 unfold zaQ at HD;obtain⟨res,hres⟩:∃r,Zn (match zm type with|none=>none|some (args,g)=>(zh (Za l) args.reverse S).bind fun S1=>(QaY (Za l) true cls S1).bind fun S2=>qaY (Za l) L S2 g)=r:=⟨_,rfl⟩;have HR:=Xh hres;rw[hres];clear hres;rw[hf,show zE 0=.nilIface from rfl]at HFO;clear hf;go_enter Tryz.func147,Tryz.ntmps147;go_upto_region 1 with fail;clear T0 h hE hw1;go_region_held3 (fun w'=>w'.cell? ⟨sb,0,none⟩=some (.map (some B))/\w'.cell? ⟨sb,1,none⟩=some (.string qb)/\w'.cell? ⟨ws.heap.size,3,none⟩=some (.string type)/\w'.cell? ⟨ws.heap.size,4,none⟩=some (.string cls)/\w'.cell? ⟨ws.heap.size,5,none⟩=some (.string name)) (first|go_keep|exact⟨(QF (a:=⟨sb,0,none⟩) (Nat.ne_of_lt hw1l)).trans k0,(QF (a:=⟨sb,1,none⟩) (Nat.ne_of_lt hw1l)).trans k1,(QF (a:=⟨ws.heap.size,3,none⟩) (Nat.ne_of_lt hsz1)).trans k3,(QF (a:=⟨ws.heap.size,4,none⟩) (Nat.ne_of_lt hsz1)).trans k4,(QF (a:=⟨ws.heap.size,5,none⟩) (Nat.ne_of_lt hsz1)).trans k5⟩)
  (
   first
   |(go_fit (HFO.out _ ?_);(first|exact Xb.drew|exact(Xb.alloc Xl _).drew);rintro e w2⟨⟨s,m1,m2,m3,m4,m5,m6,m7,m8,m9,m10,m11,m12,rfl⟩,hB2,hB12,k0,k1,k3,k4,k5⟩;(first|(have KB:Blk w2 w1.heap.size 53 [.string ⟨#[]⟩,.string ⟨#[]⟩,.bool false,.bool false,.bool false,.int .i64 0,.slice none 0 0,.slice none 0 0]:=Blk.step (w:=(w1.alloc (.cells #[.string ⟨#[]⟩,.string ⟨#[]⟩,.bool false,.bool false,.bool false,.int .i64 0,.slice none 0 0,.slice none 0 0] 53)).drew) (Blk.new w1 53 [.string ⟨#[]⟩,.string ⟨#[]⟩,.bool false,.bool false,.bool false,.int .i64 0,.slice none 0 0,.slice none 0 0]) hB2;obtain⟨x0,x1,x2,x3,x4,x5,x6,x7⟩:=KB.cells8;(have f0:=KB.frozen 0);(have f1:=KB.frozen 1);(have f2:=KB.frozen 2);(have f3:=KB.frozen 3);(have f4:=KB.frozen 4);(have f5:=KB.frozen 5);(have f6:=KB.frozen 6);(have f7:=KB.frozen 7))|skip)))
 ·have Tw:=(HT1.out.over hB12).alloc (.cells #[.string m1,.string m2,.bool m3,.bool m4,.bool m5,.int .i64 m6,.slice m7 m8 m9,.slice m10 m11 m12] 53);generalize (w2.alloc (.cells #[.string m1,.string m2,.bool m3,.bool m4,.bool m5,.int .i64 m6,.slice m7 m8 m9,.slice m10 m11 m12] 53))=W at *;have HTw:=Xh Tw;obtain⟨i0,i1,i2,i3,i4,i5⟩:=Tw.cells;clear Tw k0 k1 k3 k4 k5 HT1 HFO q0 q1;go_upto_region 3 with(first
   |(go_fit (HT.out _);rintro e wq⟨rfl,rfl⟩))
  cases hm:zm type with
  |none =>
   rw[hm]at HR HD;have hre:=HR.out;go_wp2_with (first
    |(go_fit (HD.out _);rintro e w3⟨hB3,rfl⟩)
    |(go_fit (HF.out _);rintro e wq⟨rfl,rfl⟩))
   exact And.intro rfl (HTw.out.stop (HTw.out.step.over hB3) hre.symm)
  |some p =>
   obtain⟨args,g⟩:=p;rw[hm]at HR HD;obtain⟨hsa,hgs0⟩:=QT hm;have hl5:=zU hm;have hgs:g.size<=maxLen:=Xf hgs0 (Xf hty (by decide));have hsz:∀k∈args.reverse,k.size<=maxLen:=fun k hk=>Xf (hsa k (List.mem_reverse.1 hk)) (Xf hty (by decide))
   have hln:args.reverse.length<=4194304:=(by rw[List.length_reverse];omega);have hl6:args.length<=9223372036854775807:=(by omega);dsimp only at HR;go_upto_region 5 with(first
    |(go_fit (HD.out _);rintro e w3⟨hB3,v,rfl,hO3⟩;obtain⟨vp,vc,rfl⟩:=qe hO3)
    |(go_fit (HT.out _);rintro e wq⟨rfl,rfl⟩))
   have T3:=HTw.out.over hB3;have hfar:∀b,(Value.slice vp args.length vc).ownBlock=some b->W.heap.size<=b/\b<w3.heap.size:=fun b hb=>hO3.lt b hb
   go_upto_region 6 with(first
    |(go_fit (ZaQ hO3 rfl hl6);rintro e w4⟨rfl,hO4,hg4⟩))
   have T4:=T3.grown hg4 T3.step.size (fun b hb=>⟨Xf HTw.out.below.size (hfar b hb).1,Xf HTw.out.step.size (hfar b hb).1,Nat.ne_of_gt (Nat.lt_of_lt_of_le HTw.out.box.lt (hfar b hb).1),HTw.out.step.fresh (hfar b hb).1⟩);have hKs:zav w4 (.slice vp args.length vc) args.reverse sb lv sv:=⟨Ze (l:=args.reverse) (by rw[List.length_reverse];exact hO4),fun b hb=>⟨(hO4.lt b hb).2,HTw.out.step.fresh (hfar b hb).1⟩⟩;obtain⟨i0,i1,i2,i3,i4,i5⟩:=T4.cells;clear T3 HTw hB3 hO3 hg4 HD hsa hgs0 hl5 hl6 hm;cases hV:(g.toList==[86]) with
   |true =>
    go_wp2_with (first
     |(go_at_call 139;rcases hq0:zh (Za l) args.reverse S with _|S1;(with_reducible refine(T4.takeAN hS args.reverse _ hKs hsz hln hq0).mono ?_);(rintro e w5 hP;obtain⟨hB,rfl⟩:=hP.no';exact And.intro rfl (T4.stop hB (HR.out.symm.trans (Qd (Zu hq0)))));(with_reducible refine(T4.takeAY hS args.reverse _ hKs hsz hln hq0).mono ?_);rintro e w5 hP;obtain⟨hB5,rfl,lv5,sv5,hS5,hk5⟩:=hP.ok';(have T5:=T4.next hB5 hS5 hk5);(have hN5:=qj hq0 hS);obtain⟨i0,i1,i2,i3,i4,i5⟩:=T5.cells))
    go_end0;exact T5.done (HR.out.symm.trans (zl ((Qe hq0).trans ((Qe (x:=S1) rfl).trans (zbW hV)))))
   |false =>
    by_cases hkg:zd (Za l) g=0
    ·go_wp2_with (first
      |(go_at_call 139;rcases hq0:zh (Za l) args.reverse S with _|S1;(with_reducible refine(T4.takeAN hS args.reverse _ hKs hsz hln hq0).mono ?_);(rintro e w5 hP;obtain⟨hB,rfl⟩:=hP.no';exact And.intro rfl (T4.stop hB (HR.out.symm.trans (Qd (Zu hq0)))));(with_reducible refine(T4.takeAY hS args.reverse _ hKs hsz hln hq0).mono ?_);rintro e w5 hP;obtain⟨hB5,rfl,lv5,sv5,hS5,hk5⟩:=hP.ok';(have T5:=T4.next hB5 hS5 hk5);(have hN5:=qj hq0 hS);obtain⟨i0,i1,i2,i3,i4,i5⟩:=T5.cells)
      |(go_fit (T5.knowsY g hgs hkg);rintro e w7 hP;obtain⟨hB7,rfl,lv7,sv7,hS7,hk7⟩:=hP.ok';(have T7:=T5.next hB7 hS7 hk7))
      |(go_at_call 136;rcases hq2:QK S1 g with _|S3;(with_reducible refine(T7.putN g hq2).mono ?_);(rintro e w8 hP;obtain⟨hB,rfl⟩:=hP.no';exact And.intro rfl (T7.stop hB (HR.out.symm.trans (Qd ((Qe hq0).trans ((Qe (x:=S1) rfl).trans (qa5 hV hkg hq2)))))));(with_reducible refine(T7.putY g hq2).mono ?_);rintro e w8 hP;obtain⟨hB8,rfl,lv8,sv8,hS8,hk8⟩:=hP.ok';(have T8:=T7.next hB8 hS8 hk8)))
     go_end0;exact T8.done (HR.out.symm.trans (zl ((Qe hq0).trans ((Qe (x:=S1) rfl).trans (Qa5 hV hkg hq2)))))
    ·go_wp2_with (first
      |(go_at_call 139;rcases hq0:zh (Za l) args.reverse S with _|S1;(with_reducible refine(T4.takeAN hS args.reverse _ hKs hsz hln hq0).mono ?_);(rintro e w5 hP;obtain⟨hB,rfl⟩:=hP.no';exact And.intro rfl (T4.stop hB (HR.out.symm.trans (Qd (Zu hq0)))));(with_reducible refine(T4.takeAY hS args.reverse _ hKs hsz hln hq0).mono ?_);rintro e w5 hP;obtain⟨hB5,rfl,lv5,sv5,hS5,hk5⟩:=hP.ok';(have T5:=T4.next hB5 hS5 hk5);(have hN5:=qj hq0 hS);obtain⟨i0,i1,i2,i3,i4,i5⟩:=T5.cells)
      |(go_fit (T5.knowsN g hgs hkg);rintro e w7 hP;obtain⟨hB7,rfl⟩:=hP.no'))
     exact And.intro rfl (T5.stop hB7 (HR.out.symm.trans (Qd ((Qe hq0).trans ((Qe (x:=S1) rfl).trans (zbp hV hkg))))))
 ·have Tw:=(((((((((HT1.out.over hB12).aside (b:=w1.heap.size) (Nat.le_of_lt hsz1) (Xf hbs (Nat.le_of_lt hw1l)) (Nat.ne_of_gt hsz1) (HT1.out.step.fresh Xl) 0 (.string m1)).aside (b:=w1.heap.size) (Nat.le_of_lt hsz1) (Xf hbs (Nat.le_of_lt hw1l)) (Nat.ne_of_gt hsz1) (HT1.out.step.fresh Xl) 1 (.string m2)).aside (b:=w1.heap.size) (Nat.le_of_lt hsz1) (Xf hbs (Nat.le_of_lt hw1l)) (Nat.ne_of_gt hsz1) (HT1.out.step.fresh Xl) 2 (.bool m3)).aside (b:=w1.heap.size) (Nat.le_of_lt hsz1) (Xf hbs (Nat.le_of_lt hw1l)) (Nat.ne_of_gt hsz1) (HT1.out.step.fresh Xl) 3 (.bool m4)).aside (b:=w1.heap.size) (Nat.le_of_lt hsz1) (Xf hbs (Nat.le_of_lt hw1l)) (Nat.ne_of_gt hsz1) (HT1.out.step.fresh Xl) 4 (.bool m5)).aside (b:=w1.heap.size) (Nat.le_of_lt hsz1) (Xf hbs (Nat.le_of_lt hw1l)) (Nat.ne_of_gt hsz1) (HT1.out.step.fresh Xl) 5 (.int .i64 m6)).aside (b:=w1.heap.size) (Nat.le_of_lt hsz1) (Xf hbs (Nat.le_of_lt hw1l)) (Nat.ne_of_gt hsz1) (HT1.out.step.fresh Xl) 6 (.slice m7 m8 m9)).aside (b:=w1.heap.size) (Nat.le_of_lt hsz1) (Xf hbs (Nat.le_of_lt hw1l)) (Nat.ne_of_gt hsz1) (HT1.out.step.fresh Xl) 7 (.slice m10 m11 m12));generalize ((((((((w2.setCell ⟨w1.heap.size,0,none⟩ (.string m1)).setCell ⟨w1.heap.size,1,none⟩ (.string m2)).setCell ⟨w1.heap.size,2,none⟩ (.bool m3)).setCell ⟨w1.heap.size,3,none⟩ (.bool m4)).setCell ⟨w1.heap.size,4,none⟩ (.bool m5)).setCell ⟨w1.heap.size,5,none⟩ (.int .i64 m6)).setCell ⟨w1.heap.size,6,none⟩ (.slice m7 m8 m9)).setCell ⟨w1.heap.size,7,none⟩ (.slice m10 m11 m12))=W at *;have HTw:=Xh Tw;obtain⟨i0,i1,i2,i3,i4,i5⟩:=Tw.cells;clear Tw k0 k1 k3 k4 k5 HT1 HFO q0 q1;go_upto_region 3 with(first
   |(go_fit (HT.out _);rintro e wq⟨rfl,rfl⟩))
  cases hm:zm type with
  |none =>
   rw[hm]at HR HD;have hre:=HR.out;go_wp2_with (first
    |(go_fit (HD.out _);rintro e w3⟨hB3,rfl⟩)
    |(go_fit (HF.out _);rintro e wq⟨rfl,rfl⟩))
   exact And.intro rfl (HTw.out.stop (HTw.out.step.over hB3) hre.symm)
  |some p =>
   obtain⟨args,g⟩:=p;rw[hm]at HR HD;obtain⟨hsa,hgs0⟩:=QT hm;have hl5:=zU hm;have hgs:g.size<=maxLen:=Xf hgs0 (Xf hty (by decide));have hsz:∀k∈args.reverse,k.size<=maxLen:=fun k hk=>Xf (hsa k (List.mem_reverse.1 hk)) (Xf hty (by decide))
   have hln:args.reverse.length<=4194304:=(by rw[List.length_reverse];omega);have hl6:args.length<=9223372036854775807:=(by omega);dsimp only at HR;go_upto_region 5 with(first
    |(go_fit (HD.out _);rintro e w3⟨hB3,v,rfl,hO3⟩;obtain⟨vp,vc,rfl⟩:=qe hO3)
    |(go_fit (HT.out _);rintro e wq⟨rfl,rfl⟩))
   have T3:=HTw.out.over hB3;have hfar:∀b,(Value.slice vp args.length vc).ownBlock=some b->W.heap.size<=b/\b<w3.heap.size:=fun b hb=>hO3.lt b hb
   go_upto_region 6 with(first
    |(go_fit (ZaQ hO3 rfl hl6);rintro e w4⟨rfl,hO4,hg4⟩))
   have T4:=T3.grown hg4 T3.step.size (fun b hb=>⟨Xf HTw.out.below.size (hfar b hb).1,Xf HTw.out.step.size (hfar b hb).1,Nat.ne_of_gt (Nat.lt_of_lt_of_le HTw.out.box.lt (hfar b hb).1),HTw.out.step.fresh (hfar b hb).1⟩);have hKs:zav w4 (.slice vp args.length vc) args.reverse sb lv sv:=⟨Ze (l:=args.reverse) (by rw[List.length_reverse];exact hO4),fun b hb=>⟨(hO4.lt b hb).2,HTw.out.step.fresh (hfar b hb).1⟩⟩;obtain⟨i0,i1,i2,i3,i4,i5⟩:=T4.cells;clear T3 HTw hB3 hO3 hg4 HD hsa hgs0 hl5 hl6 hm;cases hV:(g.toList==[86]) with
   |true =>
    go_wp2_with (first
     |(go_at_call 139;rcases hq0:zh (Za l) args.reverse S with _|S1;(with_reducible refine(T4.takeAN hS args.reverse _ hKs hsz hln hq0).mono ?_);(rintro e w5 hP;obtain⟨hB,rfl⟩:=hP.no';exact And.intro rfl (T4.stop hB (HR.out.symm.trans (Qd (Zu hq0)))));(with_reducible refine(T4.takeAY hS args.reverse _ hKs hsz hln hq0).mono ?_);rintro e w5 hP;obtain⟨hB5,rfl,lv5,sv5,hS5,hk5⟩:=hP.ok';(have T5:=T4.next hB5 hS5 hk5);(have hN5:=qj hq0 hS);obtain⟨i0,i1,i2,i3,i4,i5⟩:=T5.cells))
    go_end0;exact T5.done (HR.out.symm.trans (zl ((Qe hq0).trans ((Qe (x:=S1) rfl).trans (zbW hV)))))
   |false =>
    by_cases hkg:zd (Za l) g=0
    ·go_wp2_with (first
      |(go_at_call 139;rcases hq0:zh (Za l) args.reverse S with _|S1;(with_reducible refine(T4.takeAN hS args.reverse _ hKs hsz hln hq0).mono ?_);(rintro e w5 hP;obtain⟨hB,rfl⟩:=hP.no';exact And.intro rfl (T4.stop hB (HR.out.symm.trans (Qd (Zu hq0)))));(with_reducible refine(T4.takeAY hS args.reverse _ hKs hsz hln hq0).mono ?_);rintro e w5 hP;obtain⟨hB5,rfl,lv5,sv5,hS5,hk5⟩:=hP.ok';(have T5:=T4.next hB5 hS5 hk5);(have hN5:=qj hq0 hS);obtain⟨i0,i1,i2,i3,i4,i5⟩:=T5.cells)
      |(go_fit (T5.knowsY g hgs hkg);rintro e w7 hP;obtain⟨hB7,rfl,lv7,sv7,hS7,hk7⟩:=hP.ok';(have T7:=T5.next hB7 hS7 hk7))
      |(go_at_call 136;rcases hq2:QK S1 g with _|S3;(with_reducible refine(T7.putN g hq2).mono ?_);(rintro e w8 hP;obtain⟨hB,rfl⟩:=hP.no';exact And.intro rfl (T7.stop hB (HR.out.symm.trans (Qd ((Qe hq0).trans ((Qe (x:=S1) rfl).trans (qa5 hV hkg hq2)))))));(with_reducible refine(T7.putY g hq2).mono ?_);rintro e w8 hP;obtain⟨hB8,rfl,lv8,sv8,hS8,hk8⟩:=hP.ok';(have T8:=T7.next hB8 hS8 hk8)))
     go_end0;exact T8.done (HR.out.symm.trans (zl ((Qe hq0).trans ((Qe (x:=S1) rfl).trans (Qa5 hV hkg hq2)))))
    ·go_wp2_with (first
      |(go_at_call 139;rcases hq0:zh (Za l) args.reverse S with _|S1;(with_reducible refine(T4.takeAN hS args.reverse _ hKs hsz hln hq0).mono ?_);(rintro e w5 hP;obtain⟨hB,rfl⟩:=hP.no';exact And.intro rfl (T4.stop hB (HR.out.symm.trans (Qd (Zu hq0)))));(with_reducible refine(T4.takeAY hS args.reverse _ hKs hsz hln hq0).mono ?_);rintro e w5 hP;obtain⟨hB5,rfl,lv5,sv5,hS5,hk5⟩:=hP.ok';(have T5:=T4.next hB5 hS5 hk5);(have hN5:=qj hq0 hS);obtain⟨i0,i1,i2,i3,i4,i5⟩:=T5.cells)
      |(go_fit (T5.knowsN g hgs hkg);rintro e w7 hP;obtain⟨hB7,rfl⟩:=hP.no'))
     exact And.intro rfl (T5.stop hB7 (HR.out.symm.trans (Qd ((Qe hq0).trans ((Qe (x:=S1) rfl).trans (zbp hV hkg))))))
theorem zej(w0 w:World)(B:Nat)(l:List Qb)(base:Nat)(ws:World)(hE:Env w0 w B l base ws)(sb:Nat)(qb Zb:Str)(lv sv:Value)(L S:List Str)(h:Qi base ws sb B qb Zb lv sv L S)(hS:Qm (Za l) S)(op a b:Int)(type cls name:Str)(hc:cls.size<=1048576)(hfr:qb.size<=maxLen)(hty:type.size<=1048576)(hf:Zz (Za l) qb cls name type false=0):
 Calls Tryz.prog 147 #[.pointer (some ⟨sb,0,none⟩),.agg #[.int .i64 op,.int .i64 a,.int .i64 b,.string type,.string cls,.string name],.bool false] ws (qf base ws sb B qb Zb lv sv (Zn (match zm type with|none=>none|some (args,g)=>(zh (Za l) args.reverse S).bind fun S1=>(QaY (Za l) false cls S1).bind fun S2=>qaY (Za l) L S2 g))):=by
 have T0:SA w0 w B l base ws lv sv sb qb Zb ws.heap.size [.int .i64 op,.int .i64 a,.int .i64 b,.string type,.string cls,.string name] (ws.alloc (.cells #[.int .i64 op,.int .i64 a,.int .i64 b,.string type,.string cls,.string name] 24)) lv sv L S:=SA.new hE h _;obtain⟨i0,i1,i2,i3,i4,i5⟩:=T0.cells;have HT:Hid (∀wx,_):=fun wx=>zI wx
 have HF:Hid (∀wx,_):=fun wx=>qB wx
 have q0:(ws.alloc (.cells #[.int .i64 op,.int .i64 a,.int .i64 b,.string type,.string cls,.string name] 24)).cell? ⟨sb,0,none⟩=some (.map (some B)):=T0.step.blk.cell 0;have q1:(ws.alloc (.cells #[.int .i64 op,.int .i64 a,.int .i64 b,.string type,.string cls,.string name] 24)).cell? ⟨sb,1,none⟩=some (.string qb):=T0.step.blk.cell 1;obtain⟨w1,hw1⟩:∃w1,ws.alloc (.cells #[.int .i64 op,.int .i64 a,.int .i64 b,.string type,.string cls,.string name] 24)=w1:=⟨_,rfl⟩;rw[hw1]at T0 i0 i1 i2 i3 i4 i5 q0 q1;have HT1:=Xh T0;have HFO:Hid (∀wx,Below w1.heap.size w1 wx->Calls Tryz.prog 188 #[.map (some B),.string qb,.string cls,.string name,.string type,.bool false] wx fun e w'=>(∃s m1 m2 m3 m4 m5 m6 m7 m8 m9 m10 m11 m12,e=.returned (.tuple #[.string s,.agg #[.string m1,.string m2,.bool m3,.bool m4,.bool m5,.int .i64 m6,.slice m7 m8 m9,.slice m10 m11 m12],zE (Zz (Za l) qb cls name type false)]))/\Below wx.heap.size wx w'/\Below w1.heap.size w1 w'/\w'.cell? ⟨sb,0,none⟩=some (.map (some B))/\w'.cell? ⟨sb,1,none⟩=some (.string qb)/\w'.cell? ⟨ws.heap.size,3,none⟩=some (.string type)/\w'.cell? ⟨ws.heap.size,4,none⟩=some (.string cls)/\w'.cell? ⟨ws.heap.size,5,none⟩=some (.string name)):=fun wx hb =>
  (QbA w0 wx B l (HT1.out.over hb).env.map qb cls name type false (Xf hc (by decide)) hfr).mono fun e w' ⟨⟨s,v,he,m1,m2,m3,m4,m5,m6,m7,m8,m9,m10,m11,m12,hm⟩,hB⟩=>by
   have hb':=Qa hb Xl hB;have T2:=HT1.out.over hb';obtain⟨_,_,_,k3,k4,k5⟩:=T2.cells;subst hm;exact⟨⟨s,m1,m2,m3,m4,m5,m6,m7,m8,m9,m10,m11,m12,he⟩,hB,hb',T2.step.blk.cell 0,T2.step.blk.cell 1,k3,k4,k5⟩
 have hw1l:=T0.step.blk.lt;have hbs:=T0.step.low;have hsz1:=T0.box.lt;have HD:Hid (∀wx,_):=fun wx=>ZaY type wx hty
 unfold zaQ at HD;have HTh:Hid (∀wx,_):=fun wx=>ZX cls wx (Xf hc (by decide))
 have hth:(Zd cls).size<=maxLen:=by rw[qam];exact Xf (Nat.add_le_add_right hc 2) (by decide)
 obtain⟨res,hres⟩:∃r,Zn (match zm type with|none=>none|some (args,g)=>(zh (Za l) args.reverse S).bind fun S1=>(QaY (Za l) false cls S1).bind fun S2=>qaY (Za l) L S2 g)=r:=⟨_,rfl⟩;have HR:=Xh hres;rw[hres];clear hres;rw[hf,show zE 0=.nilIface from rfl]at HFO;clear hf;go_enter Tryz.func147,Tryz.ntmps147;go_upto_region 1 with fail;clear T0 h hE hw1;go_region_held3 (fun w'=>w'.cell? ⟨sb,0,none⟩=some (.map (some B))/\w'.cell? ⟨sb,1,none⟩=some (.string qb)/\w'.cell? ⟨ws.heap.size,3,none⟩=some (.string type)/\w'.cell? ⟨ws.heap.size,4,none⟩=some (.string cls)/\w'.cell? ⟨ws.heap.size,5,none⟩=some (.string name)) (first|go_keep|exact⟨(QF (a:=⟨sb,0,none⟩) (Nat.ne_of_lt hw1l)).trans k0,(QF (a:=⟨sb,1,none⟩) (Nat.ne_of_lt hw1l)).trans k1,(QF (a:=⟨ws.heap.size,3,none⟩) (Nat.ne_of_lt hsz1)).trans k3,(QF (a:=⟨ws.heap.size,4,none⟩) (Nat.ne_of_lt hsz1)).trans k4,(QF (a:=⟨ws.heap.size,5,none⟩) (Nat.ne_of_lt hsz1)).trans k5⟩)
  (
   first
   |(go_fit (HFO.out _ ?_);(first|exact Xb.drew|exact(Xb.alloc Xl _).drew);rintro e w2⟨⟨s,m1,m2,m3,m4,m5,m6,m7,m8,m9,m10,m11,m12,rfl⟩,hB2,hB12,k0,k1,k3,k4,k5⟩;(first|(have KB:Blk w2 w1.heap.size 53 [.string ⟨#[]⟩,.string ⟨#[]⟩,.bool false,.bool false,.bool false,.int .i64 0,.slice none 0 0,.slice none 0 0]:=Blk.step (w:=(w1.alloc (.cells #[.string ⟨#[]⟩,.string ⟨#[]⟩,.bool false,.bool false,.bool false,.int .i64 0,.slice none 0 0,.slice none 0 0] 53)).drew) (Blk.new w1 53 [.string ⟨#[]⟩,.string ⟨#[]⟩,.bool false,.bool false,.bool false,.int .i64 0,.slice none 0 0,.slice none 0 0]) hB2;obtain⟨x0,x1,x2,x3,x4,x5,x6,x7⟩:=KB.cells8;(have f0:=KB.frozen 0);(have f1:=KB.frozen 1);(have f2:=KB.frozen 2);(have f3:=KB.frozen 3);(have f4:=KB.frozen 4);(have f5:=KB.frozen 5);(have f6:=KB.frozen 6);(have f7:=KB.frozen 7))|skip)))
 ·have Tw:=(HT1.out.over hB12).alloc (.cells #[.string m1,.string m2,.bool m3,.bool m4,.bool m5,.int .i64 m6,.slice m7 m8 m9,.slice m10 m11 m12] 53);generalize (w2.alloc (.cells #[.string m1,.string m2,.bool m3,.bool m4,.bool m5,.int .i64 m6,.slice m7 m8 m9,.slice m10 m11 m12] 53))=W at *;have HTw:=Xh Tw;obtain⟨i0,i1,i2,i3,i4,i5⟩:=Tw.cells;clear Tw k0 k1 k3 k4 k5 HT1 HFO q0 q1;go_upto_region 3 with(first
   |(go_fit (HT.out _);rintro e wq⟨rfl,rfl⟩))
  cases hm:zm type with
  |none =>
   rw[hm]at HR HD;have hre:=HR.out;go_wp2_with (first
    |(go_fit (HD.out _);rintro e w3⟨hB3,rfl⟩)
    |(go_fit (HF.out _);rintro e wq⟨rfl,rfl⟩))
   exact And.intro rfl (HTw.out.stop (HTw.out.step.over hB3) hre.symm)
  |some p =>
   obtain⟨args,g⟩:=p;rw[hm]at HR HD;obtain⟨hsa,hgs0⟩:=QT hm;have hl5:=zU hm;have hgs:g.size<=maxLen:=Xf hgs0 (Xf hty (by decide));have hsz:∀k∈args.reverse,k.size<=maxLen:=fun k hk=>Xf (hsa k (List.mem_reverse.1 hk)) (Xf hty (by decide))
   have hln:args.reverse.length<=4194304:=(by rw[List.length_reverse];omega);have hl6:args.length<=9223372036854775807:=(by omega);dsimp only at HR;go_upto_region 5 with(first
    |(go_fit (HD.out _);rintro e w3⟨hB3,v,rfl,hO3⟩;obtain⟨vp,vc,rfl⟩:=qe hO3)
    |(go_fit (HT.out _);rintro e wq⟨rfl,rfl⟩))
   have T3:=HTw.out.over hB3;have hfar:∀b,(Value.slice vp args.length vc).ownBlock=some b->W.heap.size<=b/\b<w3.heap.size:=fun b hb=>hO3.lt b hb
   go_upto_region 6 with(first
    |(go_fit (ZaQ hO3 rfl hl6);rintro e w4⟨rfl,hO4,hg4⟩))
   have T4:=T3.grown hg4 T3.step.size (fun b hb=>⟨Xf HTw.out.below.size (hfar b hb).1,Xf HTw.out.step.size (hfar b hb).1,Nat.ne_of_gt (Nat.lt_of_lt_of_le HTw.out.box.lt (hfar b hb).1),HTw.out.step.fresh (hfar b hb).1⟩);have hKs:zav w4 (.slice vp args.length vc) args.reverse sb lv sv:=⟨Ze (l:=args.reverse) (by rw[List.length_reverse];exact hO4),fun b hb=>⟨(hO4.lt b hb).2,HTw.out.step.fresh (hfar b hb).1⟩⟩;obtain⟨i0,i1,i2,i3,i4,i5⟩:=T4.cells;clear T3 HTw hB3 hO3 hg4 HD hsa hgs0 hl5 hl6 hm;cases hV:(g.toList==[86]) with
   |true =>
    go_wp2_with (first
     |(go_at_call 139;rcases hq0:zh (Za l) args.reverse S with _|S1;(with_reducible refine(T4.takeAN hS args.reverse _ hKs hsz hln hq0).mono ?_);(rintro e w5 hP;obtain⟨hB,rfl⟩:=hP.no';exact And.intro rfl (T4.stop hB (HR.out.symm.trans (Qd (Zu hq0)))));(with_reducible refine(T4.takeAY hS args.reverse _ hKs hsz hln hq0).mono ?_);rintro e w5 hP;obtain⟨hB5,rfl,lv5,sv5,hS5,hk5⟩:=hP.ok';(have T5:=T4.next hB5 hS5 hk5);(have hN5:=qj hq0 hS);obtain⟨i0,i1,i2,i3,i4,i5⟩:=T5.cells)
     |(go_fit (HTh.out _);rintro e wq⟨rfl,rfl⟩)
     |(go_at_call 139;(have T5a:=T5.alloc (.cells #[.string (Zd cls)] 9));rcases hq1:zh (Za l) [Zd cls] S1 with _|S2;(with_reducible refine(T5.takeON hN5 (Zd cls) hth _ (by simp) hq1).mono ?_);(rintro e w6 hP;obtain⟨hB,rfl⟩:=hP.no';exact And.intro rfl (T5a.stop hB (HR.out.symm.trans (Qd ((Qe hq0).trans (Zu hq1))))));(with_reducible refine(T5.takeOY hN5 (Zd cls) hth _ (by simp) hq1).mono ?_);rintro e w6 hP;obtain⟨hB6,rfl,lv6,sv6,hS6,hk6⟩:=hP.ok';(have T6:=T5a.next hB6 hS6 hk6)))
    go_end0;exact T6.done (HR.out.symm.trans (zl ((Qe hq0).trans ((Qe hq1).trans (zbW hV)))))
   |false =>
    by_cases hkg:zd (Za l) g=0
    ·go_wp2_with (first
      |(go_at_call 139;rcases hq0:zh (Za l) args.reverse S with _|S1;(with_reducible refine(T4.takeAN hS args.reverse _ hKs hsz hln hq0).mono ?_);(rintro e w5 hP;obtain⟨hB,rfl⟩:=hP.no';exact And.intro rfl (T4.stop hB (HR.out.symm.trans (Qd (Zu hq0)))));(with_reducible refine(T4.takeAY hS args.reverse _ hKs hsz hln hq0).mono ?_);rintro e w5 hP;obtain⟨hB5,rfl,lv5,sv5,hS5,hk5⟩:=hP.ok';(have T5:=T4.next hB5 hS5 hk5);(have hN5:=qj hq0 hS);obtain⟨i0,i1,i2,i3,i4,i5⟩:=T5.cells)
      |(go_fit (HTh.out _);rintro e wq⟨rfl,rfl⟩)
      |(go_at_call 139;(have T5a:=T5.alloc (.cells #[.string (Zd cls)] 9));rcases hq1:zh (Za l) [Zd cls] S1 with _|S2;(with_reducible refine(T5.takeON hN5 (Zd cls) hth _ (by simp) hq1).mono ?_);(rintro e w6 hP;obtain⟨hB,rfl⟩:=hP.no';exact And.intro rfl (T5a.stop hB (HR.out.symm.trans (Qd ((Qe hq0).trans (Zu hq1))))));(with_reducible refine(T5.takeOY hN5 (Zd cls) hth _ (by simp) hq1).mono ?_);rintro e w6 hP;obtain⟨hB6,rfl,lv6,sv6,hS6,hk6⟩:=hP.ok';(have T6:=T5a.next hB6 hS6 hk6))
      |(go_fit (T6.knowsY g hgs hkg);rintro e w7 hP;obtain⟨hB7,rfl,lv7,sv7,hS7,hk7⟩:=hP.ok';(have T7:=T6.next hB7 hS7 hk7))
      |(go_at_call 136;rcases hq2:QK S2 g with _|S3;(with_reducible refine(T7.putN g hq2).mono ?_);(rintro e w8 hP;obtain⟨hB,rfl⟩:=hP.no';exact And.intro rfl (T7.stop hB (HR.out.symm.trans (Qd ((Qe hq0).trans ((Qe hq1).trans (qa5 hV hkg hq2)))))));(with_reducible refine(T7.putY g hq2).mono ?_);rintro e w8 hP;obtain⟨hB8,rfl,lv8,sv8,hS8,hk8⟩:=hP.ok';(have T8:=T7.next hB8 hS8 hk8)))
     go_end0;exact T8.done (HR.out.symm.trans (zl ((Qe hq0).trans ((Qe hq1).trans (Qa5 hV hkg hq2)))))
    ·go_wp2_with (first
      |(go_at_call 139;rcases hq0:zh (Za l) args.reverse S with _|S1;(with_reducible refine(T4.takeAN hS args.reverse _ hKs hsz hln hq0).mono ?_);(rintro e w5 hP;obtain⟨hB,rfl⟩:=hP.no';exact And.intro rfl (T4.stop hB (HR.out.symm.trans (Qd (Zu hq0)))));(with_reducible refine(T4.takeAY hS args.reverse _ hKs hsz hln hq0).mono ?_);rintro e w5 hP;obtain⟨hB5,rfl,lv5,sv5,hS5,hk5⟩:=hP.ok';(have T5:=T4.next hB5 hS5 hk5);(have hN5:=qj hq0 hS);obtain⟨i0,i1,i2,i3,i4,i5⟩:=T5.cells)
      |(go_fit (HTh.out _);rintro e wq⟨rfl,rfl⟩)
      |(go_at_call 139;(have T5a:=T5.alloc (.cells #[.string (Zd cls)] 9));rcases hq1:zh (Za l) [Zd cls] S1 with _|S2;(with_reducible refine(T5.takeON hN5 (Zd cls) hth _ (by simp) hq1).mono ?_);(rintro e w6 hP;obtain⟨hB,rfl⟩:=hP.no';exact And.intro rfl (T5a.stop hB (HR.out.symm.trans (Qd ((Qe hq0).trans (Zu hq1))))));(with_reducible refine(T5.takeOY hN5 (Zd cls) hth _ (by simp) hq1).mono ?_);rintro e w6 hP;obtain⟨hB6,rfl,lv6,sv6,hS6,hk6⟩:=hP.ok';(have T6:=T5a.next hB6 hS6 hk6))
      |(go_fit (T6.knowsN g hgs hkg);rintro e w7 hP;obtain⟨hB7,rfl⟩:=hP.no'))
     exact And.intro rfl (T6.stop hB7 (HR.out.symm.trans (Qd ((Qe hq0).trans ((Qe hq1).trans (zbp hV hkg))))))
 ·have Tw:=(((((((((HT1.out.over hB12).aside (b:=w1.heap.size) (Nat.le_of_lt hsz1) (Xf hbs (Nat.le_of_lt hw1l)) (Nat.ne_of_gt hsz1) (HT1.out.step.fresh Xl) 0 (.string m1)).aside (b:=w1.heap.size) (Nat.le_of_lt hsz1) (Xf hbs (Nat.le_of_lt hw1l)) (Nat.ne_of_gt hsz1) (HT1.out.step.fresh Xl) 1 (.string m2)).aside (b:=w1.heap.size) (Nat.le_of_lt hsz1) (Xf hbs (Nat.le_of_lt hw1l)) (Nat.ne_of_gt hsz1) (HT1.out.step.fresh Xl) 2 (.bool m3)).aside (b:=w1.heap.size) (Nat.le_of_lt hsz1) (Xf hbs (Nat.le_of_lt hw1l)) (Nat.ne_of_gt hsz1) (HT1.out.step.fresh Xl) 3 (.bool m4)).aside (b:=w1.heap.size) (Nat.le_of_lt hsz1) (Xf hbs (Nat.le_of_lt hw1l)) (Nat.ne_of_gt hsz1) (HT1.out.step.fresh Xl) 4 (.bool m5)).aside (b:=w1.heap.size) (Nat.le_of_lt hsz1) (Xf hbs (Nat.le_of_lt hw1l)) (Nat.ne_of_gt hsz1) (HT1.out.step.fresh Xl) 5 (.int .i64 m6)).aside (b:=w1.heap.size) (Nat.le_of_lt hsz1) (Xf hbs (Nat.le_of_lt hw1l)) (Nat.ne_of_gt hsz1) (HT1.out.step.fresh Xl) 6 (.slice m7 m8 m9)).aside (b:=w1.heap.size) (Nat.le_of_lt hsz1) (Xf hbs (Nat.le_of_lt hw1l)) (Nat.ne_of_gt hsz1) (HT1.out.step.fresh Xl) 7 (.slice m10 m11 m12));generalize ((((((((w2.setCell ⟨w1.heap.size,0,none⟩ (.string m1)).setCell ⟨w1.heap.size,1,none⟩ (.string m2)).setCell ⟨w1.heap.size,2,none⟩ (.bool m3)).setCell ⟨w1.heap.size,3,none⟩ (.bool m4)).setCell ⟨w1.heap.size,4,none⟩ (.bool m5)).setCell ⟨w1.heap.size,5,none⟩ (.int .i64 m6)).setCell ⟨w1.heap.size,6,none⟩ (.slice m7 m8 m9)).setCell ⟨w1.heap.size,7,none⟩ (.slice m10 m11 m12))=W at *;have HTw:=Xh Tw;obtain⟨i0,i1,i2,i3,i4,i5⟩:=Tw.cells;clear Tw k0 k1 k3 k4 k5 HT1 HFO q0 q1;go_upto_region 3 with(first
   |(go_fit (HT.out _);rintro e wq⟨rfl,rfl⟩))
  cases hm:zm type with
  |none =>
   rw[hm]at HR HD;have hre:=HR.out;go_wp2_with (first
    |(go_fit (HD.out _);rintro e w3⟨hB3,rfl⟩)
    |(go_fit (HF.out _);rintro e wq⟨rfl,rfl⟩))
   exact And.intro rfl (HTw.out.stop (HTw.out.step.over hB3) hre.symm)
  |some p =>
   obtain⟨args,g⟩:=p;rw[hm]at HR HD;obtain⟨hsa,hgs0⟩:=QT hm;have hl5:=zU hm;have hgs:g.size<=maxLen:=Xf hgs0 (Xf hty (by decide));have hsz:∀k∈args.reverse,k.size<=maxLen:=fun k hk=>Xf (hsa k (List.mem_reverse.1 hk)) (Xf hty (by decide))
   have hln:args.reverse.length<=4194304:=(by rw[List.length_reverse];omega);have hl6:args.length<=9223372036854775807:=(by omega);dsimp only at HR;go_upto_region 5 with(first
    |(go_fit (HD.out _);rintro e w3⟨hB3,v,rfl,hO3⟩;obtain⟨vp,vc,rfl⟩:=qe hO3)
    |(go_fit (HT.out _);rintro e wq⟨rfl,rfl⟩))
   have T3:=HTw.out.over hB3;have hfar:∀b,(Value.slice vp args.length vc).ownBlock=some b->W.heap.size<=b/\b<w3.heap.size:=fun b hb=>hO3.lt b hb
   go_upto_region 6 with(first
    |(go_fit (ZaQ hO3 rfl hl6);rintro e w4⟨rfl,hO4,hg4⟩))
   have T4:=T3.grown hg4 T3.step.size (fun b hb=>⟨Xf HTw.out.below.size (hfar b hb).1,Xf HTw.out.step.size (hfar b hb).1,Nat.ne_of_gt (Nat.lt_of_lt_of_le HTw.out.box.lt (hfar b hb).1),HTw.out.step.fresh (hfar b hb).1⟩);have hKs:zav w4 (.slice vp args.length vc) args.reverse sb lv sv:=⟨Ze (l:=args.reverse) (by rw[List.length_reverse];exact hO4),fun b hb=>⟨(hO4.lt b hb).2,HTw.out.step.fresh (hfar b hb).1⟩⟩;obtain⟨i0,i1,i2,i3,i4,i5⟩:=T4.cells;clear T3 HTw hB3 hO3 hg4 HD hsa hgs0 hl5 hl6 hm;cases hV:(g.toList==[86]) with
   |true =>
    go_wp2_with (first
     |(go_at_call 139;rcases hq0:zh (Za l) args.reverse S with _|S1;(with_reducible refine(T4.takeAN hS args.reverse _ hKs hsz hln hq0).mono ?_);(rintro e w5 hP;obtain⟨hB,rfl⟩:=hP.no';exact And.intro rfl (T4.stop hB (HR.out.symm.trans (Qd (Zu hq0)))));(with_reducible refine(T4.takeAY hS args.reverse _ hKs hsz hln hq0).mono ?_);rintro e w5 hP;obtain⟨hB5,rfl,lv5,sv5,hS5,hk5⟩:=hP.ok';(have T5:=T4.next hB5 hS5 hk5);(have hN5:=qj hq0 hS);obtain⟨i0,i1,i2,i3,i4,i5⟩:=T5.cells)
     |(go_fit (HTh.out _);rintro e wq⟨rfl,rfl⟩)
     |(go_at_call 139;(have T5a:=T5.alloc (.cells #[.string (Zd cls)] 9));rcases hq1:zh (Za l) [Zd cls] S1 with _|S2;(with_reducible refine(T5.takeON hN5 (Zd cls) hth _ (by simp) hq1).mono ?_);(rintro e w6 hP;obtain⟨hB,rfl⟩:=hP.no';exact And.intro rfl (T5a.stop hB (HR.out.symm.trans (Qd ((Qe hq0).trans (Zu hq1))))));(with_reducible refine(T5.takeOY hN5 (Zd cls) hth _ (by simp) hq1).mono ?_);rintro e w6 hP;obtain⟨hB6,rfl,lv6,sv6,hS6,hk6⟩:=hP.ok';(have T6:=T5a.next hB6 hS6 hk6)))
    go_end0;exact T6.done (HR.out.symm.trans (zl ((Qe hq0).trans ((Qe hq1).trans (zbW hV)))))
   |false =>
    by_cases hkg:zd (Za l) g=0
    ·go_wp2_with (first
      |(go_at_call 139;rcases hq0:zh (Za l) args.reverse S with _|S1;(with_reducible refine(T4.takeAN hS args.reverse _ hKs hsz hln hq0).mono ?_);(rintro e w5 hP;obtain⟨hB,rfl⟩:=hP.no';exact And.intro rfl (T4.stop hB (HR.out.symm.trans (Qd (Zu hq0)))));(with_reducible refine(T4.takeAY hS args.reverse _ hKs hsz hln hq0).mono ?_);rintro e w5 hP;obtain⟨hB5,rfl,lv5,sv5,hS5,hk5⟩:=hP.ok';(have T5:=T4.next hB5 hS5 hk5);(have hN5:=qj hq0 hS);obtain⟨i0,i1,i2,i3,i4,i5⟩:=T5.cells)
      |(go_fit (HTh.out _);rintro e wq⟨rfl,rfl⟩)
      |(go_at_call 139;(have T5a:=T5.alloc (.cells #[.string (Zd cls)] 9));rcases hq1:zh (Za l) [Zd cls] S1 with _|S2;(with_reducible refine(T5.takeON hN5 (Zd cls) hth _ (by simp) hq1).mono ?_);(rintro e w6 hP;obtain⟨hB,rfl⟩:=hP.no';exact And.intro rfl (T5a.stop hB (HR.out.symm.trans (Qd ((Qe hq0).trans (Zu hq1))))));(with_reducible refine(T5.takeOY hN5 (Zd cls) hth _ (by simp) hq1).mono ?_);rintro e w6 hP;obtain⟨hB6,rfl,lv6,sv6,hS6,hk6⟩:=hP.ok';(have T6:=T5a.next hB6 hS6 hk6))
      |(go_fit (T6.knowsY g hgs hkg);rintro e w7 hP;obtain⟨hB7,rfl,lv7,sv7,hS7,hk7⟩:=hP.ok';(have T7:=T6.next hB7 hS7 hk7))
      |(go_at_call 136;rcases hq2:QK S2 g with _|S3;(with_reducible refine(T7.putN g hq2).mono ?_);(rintro e w8 hP;obtain⟨hB,rfl⟩:=hP.no';exact And.intro rfl (T7.stop hB (HR.out.symm.trans (Qd ((Qe hq0).trans ((Qe hq1).trans (qa5 hV hkg hq2)))))));(with_reducible refine(T7.putY g hq2).mono ?_);rintro e w8 hP;obtain⟨hB8,rfl,lv8,sv8,hS8,hk8⟩:=hP.ok';(have T8:=T7.next hB8 hS8 hk8)))
     go_end0;exact T8.done (HR.out.symm.trans (zl ((Qe hq0).trans ((Qe hq1).trans (Qa5 hV hkg hq2)))))
    ·go_wp2_with (first
      |(go_at_call 139;rcases hq0:zh (Za l) args.reverse S with _|S1;(with_reducible refine(T4.takeAN hS args.reverse _ hKs hsz hln hq0).mono ?_);(rintro e w5 hP;obtain⟨hB,rfl⟩:=hP.no';exact And.intro rfl (T4.stop hB (HR.out.symm.trans (Qd (Zu hq0)))));(with_reducible refine(T4.takeAY hS args.reverse _ hKs hsz hln hq0).mono ?_);rintro e w5 hP;obtain⟨hB5,rfl,lv5,sv5,hS5,hk5⟩:=hP.ok';(have T5:=T4.next hB5 hS5 hk5);(have hN5:=qj hq0 hS);obtain⟨i0,i1,i2,i3,i4,i5⟩:=T5.cells)
      |(go_fit (HTh.out _);rintro e wq⟨rfl,rfl⟩)
      |(go_at_call 139;(have T5a:=T5.alloc (.cells #[.string (Zd cls)] 9));rcases hq1:zh (Za l) [Zd cls] S1 with _|S2;(with_reducible refine(T5.takeON hN5 (Zd cls) hth _ (by simp) hq1).mono ?_);(rintro e w6 hP;obtain⟨hB,rfl⟩:=hP.no';exact And.intro rfl (T5a.stop hB (HR.out.symm.trans (Qd ((Qe hq0).trans (Zu hq1))))));(with_reducible refine(T5.takeOY hN5 (Zd cls) hth _ (by simp) hq1).mono ?_);rintro e w6 hP;obtain⟨hB6,rfl,lv6,sv6,hS6,hk6⟩:=hP.ok';(have T6:=T5a.next hB6 hS6 hk6))
      |(go_fit (T6.knowsN g hgs hkg);rintro e w7 hP;obtain⟨hB7,rfl⟩:=hP.no'))
     exact And.intro rfl (T6.stop hB7 (HR.out.symm.trans (Qd ((Qe hq0).trans ((Qe hq1).trans (zbp hV hkg))))))
set_option maxRecDepth 512
end Go.Proofs.YtlmfmioljeppfaaGreatDoor
