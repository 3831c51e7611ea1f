/- Lemmas; conditions: as each states. -/
import Derived.Test.YtlmfmioljeppfaaGreatDoorFrameOps
import Derived.Defers
import Derived.Recover
set_option maxHeartbeats 4000000
namespace Go.Proofs.YtlmfmioljeppfaaGreatDoor
open Go.RowKit Go.Shelf Go.Lib
def ZbQ:List Oper->Nat->Option Oper
 |[],_=>none
 |o::_,0=>some o
 |_::r,n+1=>ZbQ r n
theorem Zbz:∀(l:List Oper) (n:Nat),l.toArray[n]? = ZbQ l n
 |[],_=>by simp[ZbQ]
 |_::_,0=>by simp[ZbQ]
 |_::r,n+1=>by
  have:=Zbz r n;simp at this;simp[ZbQ,this]
theorem tkY{P:Program}{md:Region.Mode}{Q:Exit->Act->World->Prop}{S:World->Prop}{l:List Oper}{i fuel:Nat}{listed:Array Bool}{a:Act}{w:World}{oi:Oper}{v:Value}(_:i+(fuel+1)=l.length)(hi:ZbQ l i=some oi)(hs:Region.noSelect l.toArray=true)(hf:Region.free md l.toArray listed i=true)(hr:(Region.ready md l.toArray listed).contains i=true)(hQ:∀c a w,Q (.panic c) (a.put oi.dst v) w->Q (.panic c) a w)(hw:Region.wanted oi (yielded l.toArray a.tmps)=true)(hS:S w)(hv:∀w,S w->(execOp a.eval oi).run P w=.ok (.value v) w)(h:wpAnyH P md l.toArray Q S fuel (listed.setIfInBounds i true) (a.put oi.dst v) w):wpAnyH P md l.toArray Q S (fuel+1) listed a w :=
 wpAnyH_take ((Zbz l i).trans hi) hs hf hr hQ (Or.inl ⟨hw,hv⟩) hS h
theorem tkI{P:Program}{md:Region.Mode}{Q:Exit->Act->World->Prop}{S:World->Prop}{l:List Oper}{i fuel:Nat}{listed:Array Bool}{a:Act}{w:World}{oi:Oper}{v:Value}(hi:ZbQ l i=some oi)(hs:Region.noSelect l.toArray=true)(hf:Region.free md l.toArray listed i=true)(hr:(Region.ready md l.toArray listed).contains i=true)(hQ:∀c a w,Q (.panic c) (a.put oi.dst v) w->Q (.panic c) a w)(hw:Region.wanted oi (yielded l.toArray a.tmps)=true)(hS:S w)(hv:∀w,S w->(execOp a.eval oi).run P w=.ok (.value v) w)(h:wpAnyH P md l.toArray Q S fuel (listed.setIfInBounds i true) (a.put oi.dst v) w):wpAnyH P md l.toArray Q S (fuel+1) listed a w :=
 wpAnyH_take ((Zbz l i).trans hi) hs hf hr hQ (Or.inl ⟨hw,hv⟩) hS h
theorem tkN{P:Program}{md:Region.Mode}{Q:Exit->Act->World->Prop}{S:World->Prop}{l:List Oper}{i fuel:Nat}{listed:Array Bool}{a:Act}{w:World}{oi:Oper}(_:i+(fuel+1)=l.length)(hi:ZbQ l i=some oi)(hs:Region.noSelect l.toArray=true)(hf:Region.free md l.toArray listed i=true)(hr:(Region.ready md l.toArray listed).contains i=true)(hQ:∀c a w,Q (.panic c) (a.put oi.dst undef) w->Q (.panic c) a w)(hw:Region.wanted oi (yielded l.toArray a.tmps)=false)(hS:S w)(h:wpAnyH P md l.toArray Q S fuel (listed.setIfInBounds i true) (a.put oi.dst undef) w):wpAnyH P md l.toArray Q S (fuel+1) listed a w :=
 wpAnyH_take ((Zbz l i).trans hi) hs hf hr hQ (Or.inr ⟨hw,rfl⟩) hS h
set_option maxRecDepth 100000
theorem Zbf(l:List Str)(v:Value)(w:World)(h:Qh w v l)(hn:l.length<=4194304):
 Calls Tryz.prog 100 #[v] w fun e w'=>(∃v',e=.returned v'/\w'.ownsRow w.heap.size 9 1 v' l.length (l.map Value.string))/\Below w.heap.size w w':=by
 have qn:∀(w:World) (a:Option Addr) (n c n' c':Nat),(binOp .eql 25 (.slice a n c) (.slice none n' c')).run Tryz.prog w=.ok (.bool a.isNone) w:=fun w a n c n' c'=>Lib.run_eql_slice_nil w _ _ a n c n' c' Tryz.underlying25
 rcases h with⟨rfl,rfl⟩|⟨a,cap,rfl,h1,h2,h4⟩
 ·go_enter Tryz.func100,Tryz.ntmps100;go_wp2_with fail;go_ret;exact⟨⟨_,rfl,World.ownsRow_nil _ _ _ _⟩,Xb⟩
 ·have hS:Qh (w.alloc (.cells #[] 9)) (.slice (some a) l.length cap) l:=Qh.mono (Xb.alloc Xl _) (Or.inr ⟨a,cap,rfl,h1,h2,h4⟩);have HO:=Xh (ZT w w.heap.size Xl);clear h4;go_enter Tryz.func100,Tryz.ntmps100;go_wp2_with (at_builtin;refine qg rfl _ _ rfl w.heap.size _ 0 [] rfl HO.out _ l rfl hS (by unfold maxLen;omega) (by omega) (by simp) ?_;intro v' w3 ho3 hg3 _)
  go_ret;exact⟨⟨_,rfl,by simpa using ho3⟩,((Below.refl _ w).alloc Xl _).grown hg3 (by simp) (by intro k hk;exact(World.ownsRow.lt HO.out k hk).1)⟩
set_option maxRecDepth 512
theorem Qah{w:World}{base b size n:Nat}{t:TypeId}{v:Value}{xs:List Value}(h:w.ownsRow base t size v n xs)(hb:v.ownBlock≠some b)(j:Nat)(u:Value):(w.setCell ⟨b,j,none⟩ u).ownsRow base t size v n xs:=by
 rcases h with⟨h1,h2|⟨g,cap,cur,k1,k2,k3,k4⟩⟩
 ·exact⟨h1,Or.inl h2⟩
 ·exact⟨h1,Or.inr ⟨g,cap,cur,k1,k2,(Xk w ⟨b,j,none⟩ g u (fun e=>hb (by rw[k1,e];rfl))).trans k3,k4⟩⟩
def Zay:PanicEntry:={ v:=.iface 150 (.agg #[]),recovered:=false }
theorem zI(w:World):Calls Tryz.prog 137 #[.bool true] w fun e w'=>e=.returned (.tuple #[])/\w=w':=by
 go_enter Tryz.func137,Tryz.ntmps137;go_wp2_with fail;go_end0;exact⟨rfl,rfl⟩
theorem qB(w:World):Calls Tryz.prog 137 #[.bool false] w fun e w'=>e=.panicked [Zay]/\w=w':=by
 go_enter Tryz.func137,Tryz.ntmps137;go_wp2_with fail;exact⟨rfl,rfl,rfl⟩
structure Qi (base:Nat) (w:World) (sb B:Nat) (qb Zb:Str) (lv sv:Value) (L S:List Str):Prop where
 blk:Blk w sb 155 [.map (some B),.string qb,.string Zb,lv,sv]
 locals:w.ownsRow base 9 1 lv L.length (L.map Value.string)
 stack:w.ownsRow base 9 1 sv S.length (S.map Value.string)
 apart:∀g,lv.ownBlock=some g->sv.ownBlock≠some g
 lfar:lv.ownBlock≠some sb
 sfar:sv.ownBlock≠some sb
 low:base<=sb
def zaf(base:Nat)(w:World)(sb B:Nat)(qb Zb:Str)(r:Option (Value×List Str×List Str))(e:Ending)(w':World):Prop :=
 Below base w w'/\match r with
  |none=>e=.panicked [Zay]
  |some (v,L,S)=>e=.returned v/\∃lv sv,Qi base w' sb B qb Zb lv sv L S
theorem zaf.ok{base:Nat}{w w':World}{sb B:Nat}{qb Zb:Str}{v:Value}{lv sv:Value}{L S:List Str}(hB:Below base w w')(h:Qi base w' sb B qb Zb lv sv L S):zaf base w sb B qb Zb (some (v,L,S)) (.returned v) w':=⟨hB,rfl,lv,sv,h⟩
theorem zaf.no{base:Nat}{w w':World}{sb B:Nat}{qb Zb:Str}(hB:Below base w w'):zaf base w sb B qb Zb none (.panicked [Zay]) w':=⟨hB,rfl⟩
theorem Qi.step{base:Nat}{w w':World}{sb B:Nat}{qb Zb:Str}{lv sv:Value}{L S:List Str}(h:Qi base w sb B qb Zb lv sv L S)(hB:Below w.heap.size w w'):Qi base w' sb B qb Zb lv sv L S :=
 ⟨h.blk.step hB,ZN h.locals hB,ZN h.stack hB,h.apart,h.lfar,h.sfar,h.low⟩
theorem Qi.size{base:Nat}{w:World}{sb B:Nat}{qb Zb:Str}{lv sv:Value}{L S:List Str}(h:Qi base w sb B qb Zb lv sv L S):base<=w.heap.size:=Xf h.low (Nat.le_of_lt h.blk.lt)
theorem Qi.stacked{base:Nat}{w:World}{sb B:Nat}{qb Zb:Str}{lv sv sv':Value}{L S S':List Str}(h:Qi base w sb B qb Zb lv sv L S){w3:World}(hb:Blk w3 sb 155 [.map (some B),.string qb,.string Zb,lv,sv])(hl:w3.ownsRow base 9 1 lv L.length (L.map Value.string))(hs:w3.ownsRow base 9 1 sv' S'.length (S'.map Value.string))(hor:sv'.ownBlock=sv.ownBlock\/∀g,sv'.ownBlock=some g->w.heap.size<=g):Qi base (w3.setCell ⟨sb,4,none⟩ sv') sb B qb Zb lv sv' L S':=by
 have hsb:=h.blk.lt;have h2:sv'.ownBlock≠some sb:=by
  rcases hor with h1|h1
  ·rw[h1];exact h.sfar
  ·intro e;have:=h1 _ e;omega
 refine⟨hb.put 4 sv',Qah hl h.lfar 4 sv',Qah hs h2 4 sv',fun g e e'=>?_,h.lfar,h2,h.low⟩;rcases hor with h1|h1
 ·exact h.apart g e (h1▸e')
 ·have:=(h.locals.lt _ e).2;have:=h1 _ e';omega
def QK(S:List Str)(k:Str):Option (List Str):=if S.length<8 then some (S++[k]) else none
theorem zaf.no'{base:Nat}{w w':World}{sb B:Nat}{qb Zb:Str}{e:Ending}(h:zaf base w sb B qb Zb none e w'):Below base w w'/\e=.panicked [Zay]:=h
theorem zaf.ok'{base:Nat}{w w':World}{sb B:Nat}{qb Zb:Str}{v:Value}{L S:List Str}{e:Ending}(h:zaf base w sb B qb Zb (some (v,L,S)) e w'):Below base w w'/\e=.returned v/\∃lv sv,Qi base w' sb B qb Zb lv sv L S:=h
theorem QcY(p q:Addr)(w:World):
 CallsD Tryz.prog 99 #[.pointer (some p),.pointer (some q)] .returning w fun e u' w'=>e=.returned (.tuple #[])/\u'=.returning/\w'=w:=by
 refine callsD_of_wpS Tryz.func99 rfl fun c₀ cs hu=>?_
 apply wpS_seq;apply wpS_region;simp[wpOpsS,go_sem,recoverD,hu,Tryz.ntmps99,Exit.thenS];apply wpS_seq;apply wpS_region;simp[wpOpsS,go_sem,Exit.thenS];refine wpS_cond (t:=false) (by simp[Act.eval,Array.replicate]) ?_;simp only[Bool.false_eq_true,if_false];refine wpS_of_wp (wp_skip ?_);cases c₀;simp_all [bodyPostS,results,Tryz.results99]
set_option maxRecDepth 100000
theorem qbf(p q:Nat)(w:World)(hp:p<w.heap.size)(hq:q<w.heap.size)(x0 x1 y0:Value)(hk:Blk w p 27 [x0,x1])(hb:Blk w q 4 [y0])(hpq:p≠q):
 CallsD Tryz.prog 99 #[.pointer (some ⟨p,0,none⟩),.pointer (some ⟨q,0,none⟩)] (.panicking (Zay::[])) w fun e u' w' =>
  e=.returned (.tuple #[])/\u'=.panicking ({ Zay with recovered:=true }::[])/\w'=(((w.setCell ⟨p,0,none⟩ (.slice none 0 0)).setCell ⟨p,1,none⟩ (.slice none 0 0)).setCell ⟨q,0,none⟩ (.bool false)).alloc (.cells #[] 150):=by
 have HK:=Xh hk;have HB:=Xh hb;refine callsD_of_wpS Tryz.func99 rfl fun c₀ cs hu=>?_
 apply wpS_seq;apply wpS_region;simp[wpOpsS,go_sem,recoverD,hu,Tryz.ntmps99,Exit.thenS,Zay];apply wpS_seq;apply wpS_region;simp[wpOpsS,go_sem,Exit.thenS];refine wpS_cond (t:=true) (by simp[Act.eval,Array.replicate]) ?_;simp only[if_true];refine wpS_of_wp ?_;have hT:(#[Value.pointer (some ⟨p,0,none⟩),.pointer (some ⟨q,0,none⟩)]++((((Array.replicate 15 undef).setIfInBounds 3 (.iface 150 (.agg #[]))).setIfInBounds 0 (.iface 150 (.agg #[]))).setIfInBounds 4 (.iface 150 (.agg #[]))).setIfInBounds 5 (.bool true))=#[.pointer (some ⟨p,0,none⟩),.pointer (some ⟨q,0,none⟩),.iface 150 (.agg #[]),undef,undef,.iface 150 (.agg #[]),.iface 150 (.agg #[]),.bool true,undef,undef,undef,undef,undef,undef,undef,undef,undef]:=rfl;rw[hT];clear hT;have hA:=(Below.refl w.heap.size w).alloc Xl (.cells #[] 150);obtain⟨k0,k1⟩:=HK.out.cells2;obtain⟨l0,l1⟩:=(HK.out.step hA).cells2;have k2:w.cell? ⟨q,0,none⟩=some y0:=HB.out.cell 0;have l2:(w.alloc (.cells #[] 150)).cell? ⟨q,0,none⟩=some y0:=(HB.out.step hA).cell 0;have f0:=HK.out.frozen 0;have f1:=HK.out.frozen 1;have f2:=HB.out.frozen 0;have g0:=(HK.out.step hA).frozen 0;have g1:=(HK.out.step hA).frozen 1;have g2:=(HB.out.step hA).frozen 0;have hta:∀w:World,(Instr.typeAssert (.iface 150 (.agg #[])) 20 150 true).run Tryz.prog w=.ok (.tuple #[.agg #[],.bool true]) w:=fun w=>by kernel_rfl
 clear hk hb;go_wp2_with fail;cases c₀;simp_all [bodyPostS,results,Tryz.results99,Zay]
set_option maxRecDepth 512
def qbF(w:World)(r:Option (List Str×List Str))(e:Ending)(w':World):Prop :=
 Below w.heap.size w w'/\match r with
  |none=>e=.returned (.tuple #[.agg #[.slice none 0 0,.slice none 0 0],.bool false])
  |some (L,S)=>∃lv sv,e=.returned (.tuple #[.agg #[lv,sv],.bool true])/\zk w' lv sv ⟨L,S⟩
def Zn(r:Option (List Str×List Str)):Option (Value×List Str×List Str):=r.map fun p=>(.tuple #[],p.1,p.2)
theorem Qcc{w:World}{base base':Nat}{e:TypeId}{size:Nat}{v:Value}{n:Nat}{xs:List Value}(h:w.ownsRow base e size v n xs)(hb:base'<=base):w.ownsRow base' e size v n xs :=
 ⟨h.1,h.2.imp id fun⟨g,cap,cur,h1,h2,h3⟩=>⟨g,cap,cur,h1,Xf hb h2,h3⟩⟩
theorem Qi.made{base m B:Nat}{w4 w5:World}{qb Zb:Str}{lv sv:Value}{L S:List Str}(h1:w4.ownsRow m 9 1 lv L.length (L.map Value.string))(h2:w5.ownsRow w4.heap.size 9 1 sv S.length (S.map Value.string))(hb:Below w4.heap.size w4 w5)(hm:base<=m)(hm4:base<=w4.heap.size):
 Qi base (w5.alloc (.cells #[.map (some B),.string qb,.string Zb,lv,sv] 155)) w5.heap.size B qb Zb lv sv L S:=by
 have hA:=(Below.refl w5.heap.size w5).alloc Xl (.cells #[.map (some B),.string qb,.string Zb,lv,sv] 155);have h15:=ZN h1 hb;refine⟨Blk.new w5 155 [.map (some B),.string qb,.string Zb,lv,sv],Qcc (ZN h15 hA) hm,Qcc (ZN h2 hA) hm4,fun g hg e=>?_,fun e=>?_,fun e=>?_,Xf hm4 hb.size⟩
 ·have:=(h1.lt g hg).2;have:=(h2.lt g e).1;omega
 ·have:=(h15.lt _ e).2;omega
 ·have:=(h2.lt _ e).2;omega
theorem Blk.cells6{w:World}{b:Nat}{t:TypeId}{a0 a1 a2 a3 a4 a5:Value}(h:Blk w b t [a0,a1,a2,a3,a4,a5]):w.cell? ⟨b,0,none⟩=some a0/\w.cell? ⟨b,1,none⟩=some a1/\w.cell? ⟨b,2,none⟩=some a2/\w.cell? ⟨b,3,none⟩=some a3/\w.cell? ⟨b,4,none⟩=some a4/\w.cell? ⟨b,5,none⟩=some a5:=⟨h.cell 0,h.cell 1,h.cell 2,h.cell 3,h.cell 4,h.cell 5⟩
theorem Blk.cells5{w:World}{b:Nat}{t:TypeId}{a0 a1 a2 a3 a4:Value}(h:Blk w b t [a0,a1,a2,a3,a4]):w.cell? ⟨b,0,none⟩=some a0/\w.cell? ⟨b,1,none⟩=some a1/\w.cell? ⟨b,2,none⟩=some a2/\w.cell? ⟨b,3,none⟩=some a3/\w.cell? ⟨b,4,none⟩=some a4:=⟨h.cell 0,h.cell 1,h.cell 2,h.cell 3,h.cell 4⟩
theorem Blk.keep{w w':World}{b n:Nat}{t:TypeId}{vals:List Value}(h:Blk w b t vals)(hb:Below n w w')(hn:b<n):Blk w' b t vals:=(hb.block b hn).trans h
set_option maxRecDepth 100000
theorem Qdj(w:World)(B:Nat)(qb Zb:Str)(op a b:Int)(type cls name:Str)(f:Frm)(f1 f2:Value)(hf:zk w f1 f2 f)(hl1:f.locals.length<=4194304)(hl2:f.stack.length<=4194304)(r1 r2:Option (List Str×List Str))(hP:∀base wx sb lv sv,w.heap.size<=base->Below w.heap.size w wx->Qi base wx sb B qb Zb lv sv f.locals f.stack->Calls Tryz.prog 101 #[.pointer (some ⟨sb,0,none⟩),.agg #[.int .i64 op,.int .i64 a,.int .i64 b,.string type,.string cls,.string name]] wx (zaf base wx sb B qb Zb (Zn r1)))(hH:∀L S,r1=some (L,S)->∀base wx sb lv sv,w.heap.size<=base->Below w.heap.size w wx->Qi base wx sb B qb Zb lv sv L S->Calls Tryz.prog 102 #[.pointer (some ⟨sb,0,none⟩),.agg #[.int .i64 op,.int .i64 a,.int .i64 b,.string type,.string cls,.string name]] wx (zaf base wx sb B qb Zb (Zn r2))):
 Calls Tryz.prog 54 #[.map (some B),.string qb,.string Zb,.agg #[.int .i64 op,.int .i64 a,.int .i64 b,.string type,.string cls,.string name],.agg #[f1,f2]] w (qbF w (r1.bind fun _=>r2)):=by
 have hmf:∀(fn:Fn) (first cap:Array Value) (w:World),(Instr.makeFunc fn first cap).run Tryz.prog w=.ok (.func fn first cap) w:=fun _ _ _ _=>rfl
 have HC1:Hid (∀wx,Below w.heap.size w wx->_):=fun wx hb=>Zbf f.locals f1 wx (hf.1.mono hb) hl1
 have HC2:Hid (∀wx,Below w.heap.size w wx->_):=fun wx hb=>Zbf f.stack f2 wx (hf.2.mono hb) hl2
 obtain⟨p1,c1,rfl,_⟩:=hf.1.open;obtain⟨p2,c2,rfl,_⟩:=hf.2.open;have HP:=Xh hP;have HH:=Xh hH;obtain⟨w1,hw1⟩:∃w1,w1=(((w.alloc (.cells #[.int .i64 op,.int .i64 a,.int .i64 b,.string type,.string cls,.string name] 24)).alloc (.cells #[.slice p1 f.locals.length c1,.slice p2 f.stack.length c2] 27)).alloc (.cells #[.slice none 0 0,.slice none 0 0] 27)).alloc (.cells #[.bool false] 4):=⟨_,rfl⟩;have A1:∀(wz:World) (o:Obj),Below wz.heap.size wz (wz.alloc o):=fun wz o=>Xb.alloc Xl o
 have HB1:Hid (Below w.heap.size w w1):=by rw[hw1];exact Qa (Qa (Qa (A1 _ _) Xl (A1 _ _)) Xl (A1 _ _)) Xl (A1 _ _)
 have HS1:Hid (w1.heap.size=w.heap.size+1+1+1+1):=by rw[hw1];simp[Hid]
 have HK0:Hid (Blk w1 w.heap.size 24 [.int .i64 op,.int .i64 a,.int .i64 b,.string type,.string cls,.string name]):=by
  rw[hw1];exact(((Blk.new w 24 _).step (A1 _ _)).step (A1 _ _)).step (A1 _ _)
 have HK1:Hid (Blk w1 (w.heap.size+1) 27 [.slice p1 f.locals.length c1,.slice p2 f.stack.length c2]):=by
  rw[hw1];have:=((Blk.new (w.alloc (.cells #[.int .i64 op,.int .i64 a,.int .i64 b,.string type,.string cls,.string name] 24)) 27 [.slice p1 f.locals.length c1,.slice p2 f.stack.length c2]).step (A1 _ (.cells #[.slice none 0 0,.slice none 0 0] 27))).step (A1 _ (.cells #[.bool false] 4));unfold Hid;simpa using this
 have HK2:Hid (Blk w1 (w.heap.size+1+1) 27 [.slice none 0 0,.slice none 0 0]):=by
  rw[hw1];have:=(Blk.new ((w.alloc (.cells #[.int .i64 op,.int .i64 a,.int .i64 b,.string type,.string cls,.string name] 24)).alloc (.cells #[.slice p1 f.locals.length c1,.slice p2 f.stack.length c2] 27)) 27 [.slice none 0 0,.slice none 0 0]).step (A1 _ (.cells #[.bool false] 4));unfold Hid;simpa using this
 have HK3:Hid (Blk w1 (w.heap.size+1+1+1) 4 [.bool false]):=by
  rw[hw1];have:=Blk.new (((w.alloc (.cells #[.int .i64 op,.int .i64 a,.int .i64 b,.string type,.string cls,.string name] 24)).alloc (.cells #[.slice p1 f.locals.length c1,.slice p2 f.stack.length c2] 27)).alloc (.cells #[.slice none 0 0,.slice none 0 0] 27)) 4 [.bool false];unfold Hid;simpa using this
 have HW:=Xh hw1.symm;clear hf hl1 hl2 hP hH hw1 A1;go_enter_defers Tryz.func54,Tryz.ntmps54
 go_upto_region 2 with fail;rw[HW.out];obtain⟨q0,q1⟩:=HK1.out.cells2;have HD1:Hid (∀wx,Below w1.heap.size w1 wx->Calls Tryz.prog 100 #[.slice p1 f.locals.length c1] wx fun e w'=>(∃p k,e=.returned (.slice p f.locals.length k)/\w'.ownsRow wx.heap.size 9 1 (.slice p f.locals.length k) f.locals.length (f.locals.map Value.string)/\Below wx.heap.size wx w')/\Below w1.heap.size w1 w'/\w'.cell? ⟨w.heap.size+1,0,none⟩=some (.slice p1 f.locals.length c1)/\w'.cell? ⟨w.heap.size+1,1,none⟩=some (.slice p2 f.stack.length c2)):=fun wx hb =>
  (HC1.out wx (Qa HB1 Xl hb)).mono fun e w' ⟨⟨v,he,hv⟩,hB⟩=>by
   obtain⟨p,k,rfl⟩:=qe hv;have hb':=Qa hb Xl hB;obtain⟨z0,z1⟩:=(HK1.out.step hb').cells2;exact⟨⟨p,k,he,hv,hB⟩,hb',z0,z1⟩
 have HD2:Hid (∀wx,Below w1.heap.size w1 wx->Calls Tryz.prog 100 #[.slice p2 f.stack.length c2] wx fun e w'=>(∃p k,e=.returned (.slice p f.stack.length k)/\w'.ownsRow wx.heap.size 9 1 (.slice p f.stack.length k) f.stack.length (f.stack.map Value.string)/\Below wx.heap.size wx w')/\Below w1.heap.size w1 w'/\w'.cell? ⟨w.heap.size+1,0,none⟩=some (.slice p1 f.locals.length c1)/\w'.cell? ⟨w.heap.size+1,1,none⟩=some (.slice p2 f.stack.length c2)):=fun wx hb =>
  (HC2.out wx (Qa HB1 Xl hb)).mono fun e w' ⟨⟨v,he,hv⟩,hB⟩=>by
   obtain⟨p,k,rfl⟩:=qe hv;have hb':=Qa hb Xl hB;obtain⟨z0,z1⟩:=(HK1.out.step hb').cells2;exact⟨⟨p,k,he,hv,hB⟩,hb',z0,z1⟩
 have hBd:=(Below.refl w1.heap.size w1).drew;clear HC1 HC2;go_region_held3 (fun w'=>w'.cell? ⟨w.heap.size+1,0,none⟩=some (.slice p1 f.locals.length c1)/\w'.cell? ⟨w.heap.size+1,1,none⟩=some (.slice p2 f.stack.length c2)) (go_keep)
  (
   first
   |(go_fit (HD1.out _ ?_);(exact hBd);rintro e w4⟨⟨pa,ka,rfl,hv1,hBx1⟩,hB4,z0,z1⟩)
   |(go_fit (HD2.out _ ?_);(exact hB4);rintro e w5⟨⟨pb,kb,rfl,hv2,hBx2⟩,hB5,y0,y1⟩))
 all_goals
  have hSt:=Qi.made (base:=w1.heap.size) (qb:=qb) (Zb:=Zb) (B:=B) hv1 hv2 hBx2 (by simp) hB4.size;have hB6:Below w1.heap.size w1 (w5.alloc (.cells #[.map (some B),.string qb,.string Zb,.slice pa f.locals.length ka,.slice pb f.stack.length kb] 155)):=hB5.alloc hB5.size _;have HPx:=Xh (HP.out w1.heap.size _ _ _ _ HB1.out.size (Qa HB1 Xl hB6) hSt);have hI6:=HK0.out.step hB6;obtain⟨i0,i1,i2,i3,i4,i5⟩:=hI6.cells6;have H6:=Xh hB6;clear hSt hB6 hI6 hv1 hv2 hBx1 hBx2 hB4 hB5 z0 z1 y0 y1 q0 q1 hBd HD1 HD2;rcases r1 with _|⟨L1,S1⟩
  ·unfold Zn at HPx;rw[Option.map_none]at HPx;go_wp2_with (first
    |(go_fit HPx.out;rintro e w7 hP;obtain⟨hB7,rfl⟩:=hP.no'))
   have H7:=H6.out.trans hB7;have K2:=HK2.out.keep H7 (by have:=HS1.out;omega);have K3:=HK3.out.keep H7 (by have:=HS1.out;omega);refine leaves_cons (f:=99) (args:=#[.pointer (some ⟨w.heap.size+1+1,0,none⟩),.pointer (some ⟨w.heap.size+1+1+1,0,none⟩)]) (by simp) (by simp[go_sem]) ?_;refine(qbf _ _ w7 K2.lt K3.lt _ _ _ K2 K3 (by omega)).mono ?_;rintro e u' w''⟨rfl,rfl,rfl⟩;have AF:=(Below.refl (((w7.setCell ⟨w.heap.size+1+1,0,none⟩ (.slice none 0 0)).setCell ⟨w.heap.size+1+1,1,none⟩ (.slice none 0 0)).setCell ⟨w.heap.size+1+1+1,0,none⟩ (.bool false)).heap.size (((w7.setCell ⟨w.heap.size+1+1,0,none⟩ (.slice none 0 0)).setCell ⟨w.heap.size+1+1,1,none⟩ (.slice none 0 0)).setCell ⟨w.heap.size+1+1+1,0,none⟩ (.bool false))).alloc Xl (.cells #[] 150);obtain⟨c0,c1⟩:=((((K2.put 0 (.slice none 0 0)).put 1 (.slice none 0 0)).other (b':=w.heap.size+1+1+1) (by omega) 0 (.bool false)).step AF).cells2;have c2:=((((K3.other (b':=w.heap.size+1+1) (by omega) 0 (.slice none 0 0)).other (b':=w.heap.size+1+1) (by omega) 1 (.slice none 0 0)).put 0 (.bool false)).step AF).cell 0;have BF:=Qa (((Qa HB1 Xl (H7.mono Xl)).setCell (p:=⟨w.heap.size+1+1,0,none⟩) (by show _<=w.heap.size+1+1;omega) (.slice none 0 0)).setCell (p:=⟨w.heap.size+1+1,1,none⟩) (by show _<=w.heap.size+1+1;omega) (.slice none 0 0) |>.setCell (p:=⟨w.heap.size+1+1+1,0,none⟩) (by show _<=w.heap.size+1+1+1;omega) (.bool false)) Xl AF;generalize ((((w7.setCell ⟨w.heap.size+1+1,0,none⟩ (.slice none 0 0)).setCell ⟨w.heap.size+1+1,1,none⟩ (.slice none 0 0)).setCell ⟨w.heap.size+1+1+1,0,none⟩ (.bool false)).alloc (.cells #[] 150))=wf at *;simp[Leaves,settle,results,Tryz.results54,go_sem,c0,c1,c2];exact⟨BF,rfl⟩
  ·unfold Zn at HPx;rw[Option.map_some]at HPx;go_upto_region 4 with(first
    |(go_fit HPx.out;rintro e w7 hP;obtain⟨hB7,rfl,lv7,sv7,hSt7⟩:=hP.ok'))
   have H7:=H6.out.trans hB7;have HHx:=Xh (HH.out L1 S1 rfl w1.heap.size _ _ _ _ HB1.out.size (Qa HB1 Xl H7) hSt7);obtain⟨j0,j1,j2,j3,j4,j5⟩:=(HK0.out.keep H7 (by have:=HS1.out;omega)).cells6;have H7':=Xh H7;clear H7 hB7 hSt7 i0 i1 i2 i3 i4 i5;rcases r2 with _|⟨L2,S2⟩
   ·unfold Zn at HHx;rw[Option.map_none]at HHx;go_wp2_with (first
     |(go_fit HHx.out;rintro e w8 hP;obtain⟨hB8,rfl⟩:=hP.no'))
    have H8:=H7'.out.trans hB8;have K2:=HK2.out.keep H8 (by have:=HS1.out;omega);have K3:=HK3.out.keep H8 (by have:=HS1.out;omega);refine leaves_cons (f:=99) (args:=#[.pointer (some ⟨w.heap.size+1+1,0,none⟩),.pointer (some ⟨w.heap.size+1+1+1,0,none⟩)]) (by simp) (by simp[go_sem]) ?_;refine(qbf _ _ w8 K2.lt K3.lt _ _ _ K2 K3 (by omega)).mono ?_;rintro e u' w''⟨rfl,rfl,rfl⟩;have AF:=(Below.refl (((w8.setCell ⟨w.heap.size+1+1,0,none⟩ (.slice none 0 0)).setCell ⟨w.heap.size+1+1,1,none⟩ (.slice none 0 0)).setCell ⟨w.heap.size+1+1+1,0,none⟩ (.bool false)).heap.size (((w8.setCell ⟨w.heap.size+1+1,0,none⟩ (.slice none 0 0)).setCell ⟨w.heap.size+1+1,1,none⟩ (.slice none 0 0)).setCell ⟨w.heap.size+1+1+1,0,none⟩ (.bool false))).alloc Xl (.cells #[] 150);obtain⟨c0,c1⟩:=((((K2.put 0 (.slice none 0 0)).put 1 (.slice none 0 0)).other (b':=w.heap.size+1+1+1) (by omega) 0 (.bool false)).step AF).cells2;have c2:=((((K3.other (b':=w.heap.size+1+1) (by omega) 0 (.slice none 0 0)).other (b':=w.heap.size+1+1) (by omega) 1 (.slice none 0 0)).put 0 (.bool false)).step AF).cell 0;have BF:=Qa (((Qa HB1 Xl (H8.mono Xl)).setCell (p:=⟨w.heap.size+1+1,0,none⟩) (by show _<=w.heap.size+1+1;omega) (.slice none 0 0)).setCell (p:=⟨w.heap.size+1+1,1,none⟩) (by show _<=w.heap.size+1+1;omega) (.slice none 0 0) |>.setCell (p:=⟨w.heap.size+1+1+1,0,none⟩) (by show _<=w.heap.size+1+1+1;omega) (.bool false)) Xl AF;generalize ((((w8.setCell ⟨w.heap.size+1+1,0,none⟩ (.slice none 0 0)).setCell ⟨w.heap.size+1+1,1,none⟩ (.slice none 0 0)).setCell ⟨w.heap.size+1+1+1,0,none⟩ (.bool false)).alloc (.cells #[] 150))=wf at *;simp[Leaves,settle,results,Tryz.results54,go_sem,c0,c1,c2];exact⟨BF,rfl⟩
   ·unfold Zn at HHx;rw[Option.map_some]at HHx;go_upto_region 5 with(first
     |(go_fit HHx.out;rintro e w8 hP;obtain⟨hB8,rfl,lv8,sv8,hSt8⟩:=hP.ok'))
    have H8:=H7'.out.trans hB8;have K2:=HK2.out.keep H8 (by have:=HS1.out;omega);have K3:=HK3.out.keep H8 (by have:=HS1.out;omega);obtain⟨k20,k21⟩:=K2.cells2;have k30:=K3.cell 0;have f20:=K2.frozen 0;have f21:=K2.frozen 1;have f30:=K3.frozen 0;obtain⟨lp,lc,rfl⟩:=qe hSt8.locals;obtain⟨sp,sc,rfl⟩:=qe hSt8.stack;obtain⟨b0,b1,b2,b3,b4⟩:=hSt8.blk.cells5;have O1:=ownsRow_setCell_below (ownsRow_setCell_below (ownsRow_setCell_below hSt8.locals (a:=⟨w.heap.size+1+1,0,none⟩) (by show w.heap.size+1+1<_;have:=HS1.out;omega) (.slice lp L2.length lc)) (a:=⟨w.heap.size+1+1,1,none⟩) (by show w.heap.size+1+1<_;have:=HS1.out;omega) (.slice sp S2.length sc)) (a:=⟨w.heap.size+1+1+1,0,none⟩) (by show w.heap.size+1+1+1<_;have:=HS1.out;omega) (.bool true);have O2:=ownsRow_setCell_below (ownsRow_setCell_below (ownsRow_setCell_below hSt8.stack (a:=⟨w.heap.size+1+1,0,none⟩) (by show w.heap.size+1+1<_;have:=HS1.out;omega) (.slice lp L2.length lc)) (a:=⟨w.heap.size+1+1,1,none⟩) (by show w.heap.size+1+1<_;have:=HS1.out;omega) (.slice sp S2.length sc)) (a:=⟨w.heap.size+1+1+1,0,none⟩) (by show w.heap.size+1+1+1<_;have:=HS1.out;omega) (.bool true);obtain⟨c0,c1⟩:=((K2.put 0 (.slice lp L2.length lc)).put 1 (.slice sp S2.length sc)).other (b':=w.heap.size+1+1+1) (by omega) 0 (.bool true) |>.cells2
    have c2:=(((K3.other (b':=w.heap.size+1+1) (by omega) 0 (.slice lp L2.length lc)).other (b':=w.heap.size+1+1) (by omega) 1 (.slice sp S2.length sc)).put 0 (.bool true)).cell 0;have BF:=((Qa HB1 Xl (H8.mono Xl)).setCell (p:=⟨w.heap.size+1+1,0,none⟩) (by show _<=w.heap.size+1+1;omega) (.slice lp L2.length lc)).setCell (p:=⟨w.heap.size+1+1,1,none⟩) (by show _<=w.heap.size+1+1;omega) (.slice sp S2.length sc) |>.setCell (p:=⟨w.heap.size+1+1+1,0,none⟩) (by show _<=w.heap.size+1+1+1;omega) (.bool true)
    have HF:=Xh (And.intro BF (And.intro O1 O2));have HCs:=Xh (And.intro c0 (And.intro c1 c2));clear hSt8 hB8 H8 K2 K3 O1 O2 c0 c1 c2 BF;go_wp2_with fail;refine leaves_cons (f:=99) (args:=#[.pointer (some ⟨w.heap.size+1+1,0,none⟩),.pointer (some ⟨w.heap.size+1+1+1,0,none⟩)]) (by simp) (by simp[go_sem]) ?_;refine(QcY _ _ _).mono ?_;rintro e u' w''⟨rfl,rfl,rfl⟩;obtain⟨c0,c1,c2⟩:=HCs.out;obtain⟨BF,O1,O2⟩:=HF.out;generalize (((w8.setCell ⟨w.heap.size+1+1,0,none⟩ (.slice lp L2.length lc)).setCell ⟨w.heap.size+1+1,1,none⟩ (.slice sp S2.length sc)).setCell ⟨w.heap.size+1+1+1,0,none⟩ (.bool true))=wf at *;simp[Leaves,settle,results,Tryz.results54,go_sem,c0,c1,c2];exact⟨BF,_,_,rfl,Ze O1,Ze O2⟩
set_option maxRecDepth 512
end Go.Proofs.YtlmfmioljeppfaaGreatDoor
