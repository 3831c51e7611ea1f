/- Lemmas; conditions: as each states. -/
import Derived.Test.YtmclocdhcblbiaaGreatDoorZFrameOps
import Derived.Defers
import Derived.Recover
set_option maxHeartbeats 4000000
namespace Go.Proofs.YtmclocdhcblbiaaGreatDoor
open Go.RowKit Go.Shelf Go.Lib Tryz
def zbF:List Oper->Nat->Option Oper
 |[],_=>none
 |o::_,0=>some o
 |_::r,n+1=>zbF r n
theorem qbd:∀(l:List Oper) (n:Nat),l.toArray[n]? = zbF l n
 |[],_=>by simp[zbF]
 |_::_,0=>by simp[zbF]
 |_::r,n+1=>by
  have:=qbd r n;simp at this;simp[zbF,this]
theorem tkY{P:Program}{C:Region.Mode}{Q:Exit->Act->World->Prop}{S:World->Prop}{l:List Oper}{i fuel:Nat}{A:Array Bool}{a:Act}{w:World}{B:Oper}{v:Value}(_:i+(fuel+1)=l.length)(D:zbF l i=some B)(E:S w)(F:∀w,S w->(execOp a.eval B).run P w=.ok (.value v) w)(h:wpAnyH P C l.toArray Q S fuel (A.setIfInBounds i true) (a.put B.dst v) w)(G:Region.noSelect l.toArray=true:=by kernel_rfl)(H:Region.free C l.toArray A i=true:=by kernel_rfl)(I:(Region.ready C l.toArray A).contains i=true:=by kernel_rfl)(J:∀c a w,Q (.panic c) (a.put B.dst v) w->Q (.panic c) a w:=by exact fun _ _ _ h=>h)(L:Region.wanted B (yielded l.toArray a.tmps)=true:=by rfl):wpAnyH P C l.toArray Q S (fuel+1) A a w :=
 wpAnyH_take ((qbd l i).trans D) G H I J (Or.inl ⟨L,F⟩) E h
theorem tkI{P:Program}{C:Region.Mode}{Q:Exit->Act->World->Prop}{S:World->Prop}{l:List Oper}{i fuel:Nat}{A:Array Bool}{a:Act}{w:World}{B:Oper}{v:Value}(D:zbF l i=some B)(E:Region.noSelect l.toArray=true)(F:Region.free C l.toArray A i=true)(G:(Region.ready C l.toArray A).contains i=true)(H:∀c a w,Q (.panic c) (a.put B.dst v) w->Q (.panic c) a w)(I:Region.wanted B (yielded l.toArray a.tmps)=true)(J:S w)(L:∀w,S w->(execOp a.eval B).run P w=.ok (.value v) w)(h:wpAnyH P C l.toArray Q S fuel (A.setIfInBounds i true) (a.put B.dst v) w):wpAnyH P C l.toArray Q S (fuel+1) A a w :=
 wpAnyH_take ((qbd l i).trans D) E F G H (Or.inl ⟨I,L⟩) J h
theorem tkN{P:Program}{B:Region.Mode}{Q:Exit->Act->World->Prop}{S:World->Prop}{l:List Oper}{i fuel:Nat}{A:Array Bool}{a:Act}{w:World}{C:Oper}(_:i+(fuel+1)=l.length)(D:zbF l i=some C)(E:S w)(h:wpAnyH P B l.toArray Q S fuel (A.setIfInBounds i true) (a.put C.dst undef) w)(F:Region.noSelect l.toArray=true:=by kernel_rfl)(G:Region.free B l.toArray A i=true:=by kernel_rfl)(H:(Region.ready B l.toArray A).contains i=true:=by kernel_rfl)(I:∀c a w,Q (.panic c) (a.put C.dst undef) w->Q (.panic c) a w:=by exact fun _ _ _ h=>h)(J:Region.wanted C (yielded l.toArray a.tmps)=false:=by rfl):wpAnyH P B l.toArray Q S (fuel+1) A a w :=
 wpAnyH_take ((qbd l i).trans D) F G H I (Or.inr ⟨J,rfl⟩) E h
set_option maxRecDepth 100000
theorem ZbG(l:List Str)(v:Value)(w:World)(h:qp w v l)(L:l.length<=4194304):
 Calls prog 137 #[v] w fun e w'=>(∃A,e=.returned A/\w'.ownsRow w.heap.size 9 1 A l.length (l.map Value.string))/\Below w.heap.size w w':=by
 have M:∀(w:World) (a:Option Addr) (n c D c':Nat),(binOp .eql 27 (.slice a n c) (.slice none D c')).run prog w=.ok (.bool a.isNone) w:=fun w a n c D c'=>Lib.run_eql_slice_nil w _ _ a n c D c' underlying27
 rcases h with⟨rfl,rfl⟩|⟨a,cap,rfl,I,J,F⟩
 ·go_enter func137,ntmps137;go_wp2_with fail;go_ret;exact⟨⟨_,rfl,World.ownsRow_nil _ _ _ _⟩,Xb⟩
 ·have G:qp (w.alloc (.cells #[] 9)) (.slice (some a) l.length cap) l:=qp.mono (Xb.alloc Xl _) (Or.inr ⟨a,cap,rfl,I,J,F⟩);have E:=Xh (Zda w w.heap.size Xl);clear F;go_enter func137,ntmps137;go_wp2_with (at_builtin;refine Z2 rfl _ _ rfl w.heap.size _ 0 [] rfl E.out _ l rfl G (by unfold maxLen;omega) (by omega) (by simp) ?_;intro A N B C _)
  go_ret;exact⟨⟨_,rfl,by simpa using B⟩,((Below.refl _ w).alloc Xl _).grown C (by simp) (by intro k H;exact(World.ownsRow.lt E.out k H).1)⟩
theorem Z1{w:World}{base b size n:Nat}{t:TypeId}{v:Value}{xs:List Value}(h:w.ownsRow base t size v n xs)(D:v.ownBlock≠some b)(j:Nat)(u:Value):(w.setCell ⟨b,j,none⟩ u).ownsRow base t size v n xs:=by
 rcases h with⟨B,E|⟨g,cap,A,C,F,G,H⟩⟩
 ·exact⟨B,Or.inl E⟩
 ·exact⟨B,Or.inr ⟨g,cap,A,C,F,(Xk w ⟨b,j,none⟩ g u (fun e=>D (by rw[C,e];rfl))).trans G,H⟩⟩
def qaN:PanicEntry:={ v:=.iface 193 (.agg #[]),recovered:=false }
theorem qH(w:World):Calls prog 167 #[.bool true] w fun e w'=>e=.returned (.tuple #[])/\w=w':=by
 go_enter func167,ntmps167;go_wp2_with fail;go_end0;exact⟨rfl,rfl⟩
theorem Zx(w:World):Calls prog 167 #[.bool false] w fun e w'=>e=.panicked [qaN]/\w=w':=by
 go_enter func167,ntmps167;go_wp2_with fail;exact⟨rfl,rfl,rfl⟩
structure Qh (base:Nat) (w:World) (sb B:Nat) (qb Zb:Str) (lv sv:Value) (L S:List Str):Prop where
 blk:Blk w sb 198 [.map (some B),.string qb,.string Zb,lv,sv]
 locals:w.ownsRow base 9 1 lv L.length (L.map Value.string)
 stack:w.ownsRow base 9 1 sv S.length (S.map Value.string)
 apart:∀g,lv.ownBlock=some g->sv.ownBlock≠some g
 lfar:lv.ownBlock≠some sb
 sfar:sv.ownBlock≠some sb
 low:base<=sb
def zan(base:Nat)(w:World)(sb B:Nat)(qb Zb:Str)(r:Option (Value×List Str×List Str))(e:Ending)(w':World):Prop :=
 Below base w w'/\match r with
  |none=>e=.panicked [qaN]
  |some (v,L,S)=>e=.returned v/\∃lv sv,Qh base w' sb B qb Zb lv sv L S
theorem zan.ok{base:Nat}{w w':World}{A B:Nat}{qb Zb:Str}{v:Value}{C D:Value}{L S:List Str}(E:Below base w w')(h:Qh base w' A B qb Zb C D L S):zan base w A B qb Zb (some (v,L,S)) (.returned v) w':=⟨E,rfl,C,D,h⟩
theorem zan.no{base:Nat}{w w':World}{A B:Nat}{qb Zb:Str}(C:Below base w w'):zan base w A B qb Zb none (.panicked [qaN]) w':=⟨C,rfl⟩
theorem Qh.step{base:Nat}{w w':World}{C B:Nat}{qb Zb:Str}{D E:Value}{L S:List Str}(h:Qh base w C B qb Zb D E L S)(A:Below w.heap.size w w'):Qh base w' C B qb Zb D E L S :=
 ⟨h.blk.step A,Ql h.locals A,Ql h.stack A,h.apart,h.lfar,h.sfar,h.low⟩
theorem Qh.size{base:Nat}{w:World}{A B:Nat}{qb Zb:Str}{C D:Value}{L S:List Str}(h:Qh base w A B qb Zb C D L S):base<=w.heap.size:=Xf h.low (Nat.le_of_lt h.blk.lt)
theorem Qh.stacked{base:Nat}{w:World}{D B:Nat}{qb Zb:Str}{F H A:Value}{L S S':List Str}(h:Qh base w D B qb Zb F H L S){G:World}(M:Blk G D 198 [.map (some B),.string qb,.string Zb,F,H])(N:G.ownsRow base 9 1 F L.length (L.map Value.string))(O:G.ownsRow base 9 1 A S'.length (S'.map Value.string))(E:A.ownBlock=H.ownBlock\/∀g,A.ownBlock=some g->w.heap.size<=g):Qh base (G.setCell ⟨D,4,none⟩ A) D B qb Zb F A L S':=by
 have P:=h.blk.lt;have I:A.ownBlock≠some D:=by
  rcases E with C|C
  ·rw[C];exact h.sfar
  ·intro e;have:=C _ e;omega
 refine⟨M.put 4 A,Z1 N h.lfar 4 A,Z1 O I 4 A,fun g e J=>?_,h.lfar,I,h.low⟩;rcases E with C|C
 ·exact h.apart g e (C▸J)
 ·have:=(h.locals.lt _ e).2;have:=C _ J;omega
def QP(S:List Str)(k:Str):Option (List Str):=if S.length<8 then some (S++[k]) else none
theorem zan.no'{base:Nat}{w w':World}{A B:Nat}{qb Zb:Str}{e:Ending}(h:zan base w A B qb Zb none e w'):Below base w w'/\e=.panicked [qaN]:=h
theorem zan.ok'{base:Nat}{w w':World}{A B:Nat}{qb Zb:Str}{v:Value}{L S:List Str}{e:Ending}(h:zan base w A B qb Zb (some (v,L,S)) e w'):Below base w w'/\e=.returned v/\∃C D,Qh base w' A B qb Zb C D L S:=h
theorem qdH(p q:Addr)(w:World):
 CallsD prog 136 #[.pointer (some p),.pointer (some q)] .returning w fun e A w'=>e=.returned (.tuple #[])/\A=.returning/\w'=w:=by
 refine callsD_of_wpS func136 rfl fun B cs C=>?_
 apply wpS_seq;apply wpS_region;simp[wpOpsS,go_sem,recoverD,C,ntmps136,Exit.thenS];apply wpS_seq;apply wpS_region;simp[wpOpsS,go_sem,Exit.thenS];refine wpS_cond (t:=false) (by simp[Act.eval,Array.replicate]) ?_;simp only[Bool.false_eq_true,if_false];refine wpS_of_wp (wp_skip ?_);cases B;simp_all [bodyPostS,results,results136]
theorem qbG(p q:Nat)(w:World)(P:p<w.heap.size)(R:q<w.heap.size)(H I D:Value)(E:Blk w p 133 [H,I])(F:Blk w q 4 [D])(J:p≠q):
 CallsD prog 136 #[.pointer (some ⟨p,0,none⟩),.pointer (some ⟨q,0,none⟩)] (.panicking (qaN::[])) w fun e M w' =>
  e=.returned (.tuple #[])/\M=.panicking ({ qaN with recovered:=true }::[])/\w'=(((w.setCell ⟨p,0,none⟩ (.slice none 0 0)).setCell ⟨p,1,none⟩ (.slice none 0 0)).setCell ⟨q,0,none⟩ (.bool false)).alloc (.cells #[] 193):=by
 have A:=Xh E;have C:=Xh F;refine callsD_of_wpS func136 rfl fun N cs O=>?_
 apply wpS_seq;apply wpS_region;simp[wpOpsS,go_sem,recoverD,O,ntmps136,Exit.thenS,qaN];apply wpS_seq;apply wpS_region;simp[wpOpsS,go_sem,Exit.thenS];refine wpS_cond (t:=true) (by simp[Act.eval,Array.replicate]) ?_;simp only[if_true];refine wpS_of_wp ?_;have G:(#[Value.pointer (some ⟨p,0,none⟩),.pointer (some ⟨q,0,none⟩)]++((((Array.replicate 15 undef).setIfInBounds 3 (.iface 193 (.agg #[]))).setIfInBounds 0 (.iface 193 (.agg #[]))).setIfInBounds 4 (.iface 193 (.agg #[]))).setIfInBounds 5 (.bool true))=#[.pointer (some ⟨p,0,none⟩),.pointer (some ⟨q,0,none⟩),.iface 193 (.agg #[]),undef,undef,.iface 193 (.agg #[]),.iface 193 (.agg #[]),.bool true,undef,undef,undef,undef,undef,undef,undef,undef,undef]:=rfl;rw[G];clear G;have B:=(Below.refl w.heap.size w).alloc Xl (.cells #[] 193);obtain⟨b,c⟩:=A.out.cells2;obtain⟨d,f⟩:=(A.out.step B).cells2;have S:w.cell? ⟨q,0,none⟩=some D:=C.out.cell 0;have T:(w.alloc (.cells #[] 193)).cell? ⟨q,0,none⟩=some D:=(C.out.step B).cell 0;have U:=A.out.frozen 0;have V:=A.out.frozen 1;have X:=C.out.frozen 0;have Y:=(A.out.step B).frozen 0;have Z:=(A.out.step B).frozen 1;have a:=(C.out.step B).frozen 0;have L:∀w:World,(Instr.typeAssert (.iface 193 (.agg #[])) 20 193 true).run prog w=.ok (.tuple #[.agg #[],.bool true]) w:=fun w=>by kernel_rfl
 clear E F;go_wp2_with fail;cases N;simp_all [bodyPostS,results,results136,qaN]
def Zb4(w:World)(r:Option (List Str×List Str))(e:Ending)(w':World):Prop :=
 Below w.heap.size w w'/\match r with
  |none=>e=.returned (.tuple #[.agg #[.slice none 0 0,.slice none 0 0],.bool false])
  |some (L,S)=>∃lv sv,e=.returned (.tuple #[.agg #[lv,sv],.bool true])/\QI w' lv sv ⟨L,S⟩
def Zm(r:Option (List Str×List Str)):Option (Value×List Str×List Str):=r.map fun p=>(.tuple #[],p.1,p.2)
theorem qcH{w:World}{base A:Nat}{e:TypeId}{size:Nat}{v:Value}{n:Nat}{xs:List Value}(h:w.ownsRow base e size v n xs)(C:A<=base):w.ownsRow A e size v n xs :=
 ⟨h.1,h.2.imp id fun⟨g,cap,B,D,E,F⟩=>⟨g,cap,B,D,Xf C E,F⟩⟩
theorem Qh.made{base m B:Nat}{C A:World}{qb Zb:Str}{D E:Value}{L S:List Str}(I:C.ownsRow m 9 1 D L.length (L.map Value.string))(H:A.ownsRow C.heap.size 9 1 E S.length (S.map Value.string))(J:Below C.heap.size C A)(N:base<=m)(F:base<=C.heap.size):
 Qh base (A.alloc (.cells #[.map (some B),.string qb,.string Zb,D,E] 198)) A.heap.size B qb Zb D E L S:=by
 have M:=(Below.refl A.heap.size A).alloc Xl (.cells #[.map (some B),.string qb,.string Zb,D,E] 198);have G:=Ql I J;refine⟨Blk.new A 198 [.map (some B),.string qb,.string Zb,D,E],qcH (Ql G M) N,qcH (Ql H M) F,fun g O e=>?_,fun e=>?_,fun e=>?_,Xf F J.size⟩
 ·have:=(I.lt g O).2;have:=(H.lt g e).1;omega
 ·have:=(G.lt _ e).2;omega
 ·have:=(H.lt _ e).2;omega
theorem Blk.cells6{w:World}{b:Nat}{t:TypeId}{A B C D E F:Value}(h:Blk w b t [A,B,C,D,E,F]):w.cell? ⟨b,0,none⟩=some A/\w.cell? ⟨b,1,none⟩=some B/\w.cell? ⟨b,2,none⟩=some C/\w.cell? ⟨b,3,none⟩=some D/\w.cell? ⟨b,4,none⟩=some E/\w.cell? ⟨b,5,none⟩=some F:=⟨h.cell 0,h.cell 1,h.cell 2,h.cell 3,h.cell 4,h.cell 5⟩
theorem Blk.cells5{w:World}{b:Nat}{t:TypeId}{A B C D E:Value}(h:Blk w b t [A,B,C,D,E]):w.cell? ⟨b,0,none⟩=some A/\w.cell? ⟨b,1,none⟩=some B/\w.cell? ⟨b,2,none⟩=some C/\w.cell? ⟨b,3,none⟩=some D/\w.cell? ⟨b,4,none⟩=some E:=⟨h.cell 0,h.cell 1,h.cell 2,h.cell 3,h.cell 4⟩
theorem Blk.keep{w w':World}{b n:Nat}{t:TypeId}{A:List Value}(h:Blk w b t A)(B:Below n w w')(C:b<n):Blk w' b t A:=(B.block b C).trans h
theorem qd6(w:World)(B:Nat)(qb Zb:Str)(d a b:Int)(C cls name:Str)(f:Frm)(f1 f2:Value)(hf:QI w f1 f2 f)(hl1:f.locals.length<=4194304)(hl2:f.stack.length<=4194304)(r1 r2:Option (List Str×List Str))(T:∀base wx y lv sv,w.heap.size<=base->Below w.heap.size w wx->Qh base wx y B qb Zb lv sv f.locals f.stack->Calls prog 138 #[.pointer (some ⟨y,0,none⟩),.agg #[.int .i64 d,.int .i64 a,.int .i64 b,.string C,.string cls,.string name]] wx (zan base wx y B qb Zb (Zm r1)))(hH:∀L S,r1=some (L,S)->∀base wx y lv sv,w.heap.size<=base->Below w.heap.size w wx->Qh base wx y B qb Zb lv sv L S->Calls prog 139 #[.pointer (some ⟨y,0,none⟩),.agg #[.int .i64 d,.int .i64 a,.int .i64 b,.string C,.string cls,.string name]] wx (zan base wx y B qb Zb (Zm r2))):
 Calls prog 106 #[.map (some B),.string qb,.string Zb,.agg #[.int .i64 d,.int .i64 a,.int .i64 b,.string C,.string cls,.string name],.agg #[f1,f2]] w (Zb4 w (r1.bind fun _=>r2)):=by
 have hmf:∀(fn:Fn) (first cap:Array Value) (w:World),(Instr.makeFunc fn first cap).run prog w=.ok (.func fn first cap) w:=fun _ _ _ _=>rfl
 have HC1:Hid (∀wx,Below w.heap.size w wx->_):=fun wx c=>ZbG f.locals f1 wx (hf.1.mono c) hl1
 have HC2:Hid (∀wx,Below w.heap.size w wx->_):=fun wx c=>ZbG f.stack f2 wx (hf.2.mono c) hl2
 obtain⟨V,H,rfl,_⟩:=hf.1.open;obtain⟨X,G,rfl,_⟩:=hf.2.open;have HP:=Xh T;have HH:=Xh hH;obtain⟨D,I⟩:∃D,D=(((w.alloc (.cells #[.int .i64 d,.int .i64 a,.int .i64 b,.string C,.string cls,.string name] 34)).alloc (.cells #[.slice V f.locals.length H,.slice X f.stack.length G] 133)).alloc (.cells #[.slice none 0 0,.slice none 0 0] 133)).alloc (.cells #[.bool false] 4):=⟨_,rfl⟩;have P:∀(wz:World) (o:Obj),Below wz.heap.size wz (wz.alloc o):=fun wz o=>Xb.alloc Xl o
 have F:Hid (Below w.heap.size w D):=by rw[I];exact Qa (Qa (Qa (P _ _) Xl (P _ _)) Xl (P _ _)) Xl (P _ _)
 have A:Hid (D.heap.size=w.heap.size+1+1+1+1):=by rw[I];simp[Hid]
 have HK0:Hid (Blk D w.heap.size 34 [.int .i64 d,.int .i64 a,.int .i64 b,.string C,.string cls,.string name]):=by
  rw[I];exact(((Blk.new w 34 _).step (P _ _)).step (P _ _)).step (P _ _)
 have n:Hid (Blk D (w.heap.size+1) 133 [.slice V f.locals.length H,.slice X f.stack.length G]):=by
  rw[I];have:=((Blk.new (w.alloc (.cells #[.int .i64 d,.int .i64 a,.int .i64 b,.string C,.string cls,.string name] 34)) 133 [.slice V f.locals.length H,.slice X f.stack.length G]).step (P _ (.cells #[.slice none 0 0,.slice none 0 0] 133))).step (P _ (.cells #[.bool false] 4));unfold Hid;simpa using this
 have q:Hid (Blk D (w.heap.size+1+1) 133 [.slice none 0 0,.slice none 0 0]):=by
  rw[I];have:=(Blk.new ((w.alloc (.cells #[.int .i64 d,.int .i64 a,.int .i64 b,.string C,.string cls,.string name] 34)).alloc (.cells #[.slice V f.locals.length H,.slice X f.stack.length G] 133)) 133 [.slice none 0 0,.slice none 0 0]).step (P _ (.cells #[.bool false] 4));unfold Hid;simpa using this
 have r:Hid (Blk D (w.heap.size+1+1+1) 4 [.bool false]):=by
  rw[I];have:=Blk.new (((w.alloc (.cells #[.int .i64 d,.int .i64 a,.int .i64 b,.string C,.string cls,.string name] 34)).alloc (.cells #[.slice V f.locals.length H,.slice X f.stack.length G] 133)).alloc (.cells #[.slice none 0 0,.slice none 0 0] 133)) 4 [.bool false];unfold Hid;simpa using this
 have HW:=Xh I.symm;clear hf hl1 hl2 T hH I P;go_enter_defers func106,ntmps106
 go_upto_region 2 with fail;rw[HW.out];obtain⟨q0,q1⟩:=n.out.cells2;have HD1:Hid (∀wx,Below D.heap.size D wx->Calls prog 137 #[.slice V f.locals.length H] wx fun e w'=>(∃p k,e=.returned (.slice p f.locals.length k)/\w'.ownsRow wx.heap.size 9 1 (.slice p f.locals.length k) f.locals.length (f.locals.map Value.string)/\Below wx.heap.size wx w')/\Below D.heap.size D w'/\w'.cell? ⟨w.heap.size+1,0,none⟩=some (.slice V f.locals.length H)/\w'.cell? ⟨w.heap.size+1,1,none⟩=some (.slice X f.stack.length G)):=fun wx c =>
  (HC1.out wx (Qa F Xl c)).mono fun e w' ⟨⟨v,he,hv⟩,hB⟩=>by
   obtain⟨p,k,rfl⟩:=Ze hv;have R:=Qa c Xl hB;obtain⟨z0,z1⟩:=(n.out.step R).cells2;exact⟨⟨p,k,he,hv,hB⟩,R,z0,z1⟩
 have HD2:Hid (∀wx,Below D.heap.size D wx->Calls prog 137 #[.slice X f.stack.length G] wx fun e w'=>(∃p k,e=.returned (.slice p f.stack.length k)/\w'.ownsRow wx.heap.size 9 1 (.slice p f.stack.length k) f.stack.length (f.stack.map Value.string)/\Below wx.heap.size wx w')/\Below D.heap.size D w'/\w'.cell? ⟨w.heap.size+1,0,none⟩=some (.slice V f.locals.length H)/\w'.cell? ⟨w.heap.size+1,1,none⟩=some (.slice X f.stack.length G)):=fun wx c =>
  (HC2.out wx (Qa F Xl c)).mono fun e w' ⟨⟨v,he,hv⟩,hB⟩=>by
   obtain⟨p,k,rfl⟩:=Ze hv;have R:=Qa c Xl hB;obtain⟨z0,z1⟩:=(n.out.step R).cells2;exact⟨⟨p,k,he,hv,hB⟩,R,z0,z1⟩
 have hBd:=(Below.refl D.heap.size D).drew;clear HC1 HC2;go_region_held3 (fun w'=>w'.cell? ⟨w.heap.size+1,0,none⟩=some (.slice V f.locals.length H)/\w'.cell? ⟨w.heap.size+1,1,none⟩=some (.slice X f.stack.length G)) (go_keep)
  (first
   |(go_fit (HD1.out _ ?_);(exact hBd);rintro e w4⟨⟨pa,ka,rfl,hv1,hBx1⟩,t,z0,z1⟩)
   |(go_fit (HD2.out _ ?_);(exact t);rintro e w5⟨⟨pb,kb,rfl,hv2,m⟩,x,y0,y1⟩))
 all_goals
  have hSt:=Qh.made (base:=D.heap.size) (qb:=qb) (Zb:=Zb) (B:=B) hv1 hv2 m (by simp) t.size;have U:Below D.heap.size D (w5.alloc (.cells #[.map (some B),.string qb,.string Zb,.slice pa f.locals.length ka,.slice pb f.stack.length kb] 198)):=x.alloc x.size _;have J:=Xh (HP.out D.heap.size _ _ _ _ F.out.size (Qa F Xl U) hSt);have hI6:=HK0.out.step U;obtain⟨i0,i1,i2,i3,i4,i5⟩:=hI6.cells6;have H6:=Xh U;clear hSt U hI6 hv1 hv2 hBx1 m t x z0 z1 y0 y1 q0 q1 hBd HD1 HD2;rcases r1 with _|⟨L1,S1⟩
  ·unfold Zm at J;rw[Option.map_none]at J;go_wp2_with (first
    |(go_fit J.out;rintro e w7 T;obtain⟨Y,rfl⟩:=T.no'))
   have g:=H6.out.trans Y;have M:=q.out.keep g (by have:=A.out;omega);have O:=r.out.keep g (by have:=A.out;omega);refine leaves_cons (f:=136) (args:=#[.pointer (some ⟨w.heap.size+1+1,0,none⟩),.pointer (some ⟨w.heap.size+1+1+1,0,none⟩)]) (by simp) (by simp[go_sem]) ?_;refine(qbG _ _ w7 M.lt O.lt _ _ _ M O (by omega)).mono ?_;rintro e u' w''⟨rfl,rfl,rfl⟩;have s:=(Below.refl (((w7.setCell ⟨w.heap.size+1+1,0,none⟩ (.slice none 0 0)).setCell ⟨w.heap.size+1+1,1,none⟩ (.slice none 0 0)).setCell ⟨w.heap.size+1+1+1,0,none⟩ (.bool false)).heap.size (((w7.setCell ⟨w.heap.size+1+1,0,none⟩ (.slice none 0 0)).setCell ⟨w.heap.size+1+1,1,none⟩ (.slice none 0 0)).setCell ⟨w.heap.size+1+1+1,0,none⟩ (.bool false))).alloc Xl (.cells #[] 193);obtain⟨j,H⟩:=((((M.put 0 (.slice none 0 0)).put 1 (.slice none 0 0)).other (b':=w.heap.size+1+1+1) (by omega) 0 (.bool false)).step s).cells2;have G:=((((O.other (b':=w.heap.size+1+1) (by omega) 0 (.slice none 0 0)).other (b':=w.heap.size+1+1) (by omega) 1 (.slice none 0 0)).put 0 (.bool false)).step s).cell 0;have h:=Qa (((Qa F Xl (g.mono Xl)).setCell (p:=⟨w.heap.size+1+1,0,none⟩) (by show _<=w.heap.size+1+1;omega) (.slice none 0 0)).setCell (p:=⟨w.heap.size+1+1,1,none⟩) (by show _<=w.heap.size+1+1;omega) (.slice none 0 0) |>.setCell (p:=⟨w.heap.size+1+1+1,0,none⟩) (by show _<=w.heap.size+1+1+1;omega) (.bool false)) Xl s;generalize ((((w7.setCell ⟨w.heap.size+1+1,0,none⟩ (.slice none 0 0)).setCell ⟨w.heap.size+1+1,1,none⟩ (.slice none 0 0)).setCell ⟨w.heap.size+1+1+1,0,none⟩ (.bool false)).alloc (.cells #[] 193))=wf at *;simp[Leaves,settle,results,results106,go_sem,j,H,G];exact⟨h,rfl⟩
  ·unfold Zm at J;rw[Option.map_some]at J;go_upto_region 4 with(first
    |(go_fit J.out;rintro e w7 T;obtain⟨Y,rfl,lv7,sv7,l⟩:=T.ok'))
   have g:=H6.out.trans Y;have N:=Xh (HH.out L1 S1 rfl D.heap.size _ _ _ _ F.out.size (Qa F Xl g) l);obtain⟨j0,j1,j2,j3,j4,j5⟩:=(HK0.out.keep g (by have:=A.out;omega)).cells6;have H7':=Xh g;clear g Y l i0 i1 i2 i3 i4 i5;rcases r2 with _|⟨L2,S2⟩
   ·unfold Zm at N;rw[Option.map_none]at N;go_wp2_with (first
     |(go_fit N.out;rintro e w8 T;obtain⟨Z,rfl⟩:=T.no'))
    have i:=H7'.out.trans Z;have M:=q.out.keep i (by have:=A.out;omega);have O:=r.out.keep i (by have:=A.out;omega);refine leaves_cons (f:=136) (args:=#[.pointer (some ⟨w.heap.size+1+1,0,none⟩),.pointer (some ⟨w.heap.size+1+1+1,0,none⟩)]) (by simp) (by simp[go_sem]) ?_;refine(qbG _ _ w8 M.lt O.lt _ _ _ M O (by omega)).mono ?_;rintro e u' w''⟨rfl,rfl,rfl⟩;have s:=(Below.refl (((w8.setCell ⟨w.heap.size+1+1,0,none⟩ (.slice none 0 0)).setCell ⟨w.heap.size+1+1,1,none⟩ (.slice none 0 0)).setCell ⟨w.heap.size+1+1+1,0,none⟩ (.bool false)).heap.size (((w8.setCell ⟨w.heap.size+1+1,0,none⟩ (.slice none 0 0)).setCell ⟨w.heap.size+1+1,1,none⟩ (.slice none 0 0)).setCell ⟨w.heap.size+1+1+1,0,none⟩ (.bool false))).alloc Xl (.cells #[] 193);obtain⟨j,H⟩:=((((M.put 0 (.slice none 0 0)).put 1 (.slice none 0 0)).other (b':=w.heap.size+1+1+1) (by omega) 0 (.bool false)).step s).cells2;have G:=((((O.other (b':=w.heap.size+1+1) (by omega) 0 (.slice none 0 0)).other (b':=w.heap.size+1+1) (by omega) 1 (.slice none 0 0)).put 0 (.bool false)).step s).cell 0;have h:=Qa (((Qa F Xl (i.mono Xl)).setCell (p:=⟨w.heap.size+1+1,0,none⟩) (by show _<=w.heap.size+1+1;omega) (.slice none 0 0)).setCell (p:=⟨w.heap.size+1+1,1,none⟩) (by show _<=w.heap.size+1+1;omega) (.slice none 0 0) |>.setCell (p:=⟨w.heap.size+1+1+1,0,none⟩) (by show _<=w.heap.size+1+1+1;omega) (.bool false)) Xl s;generalize ((((w8.setCell ⟨w.heap.size+1+1,0,none⟩ (.slice none 0 0)).setCell ⟨w.heap.size+1+1,1,none⟩ (.slice none 0 0)).setCell ⟨w.heap.size+1+1+1,0,none⟩ (.bool false)).alloc (.cells #[] 193))=wf at *;simp[Leaves,settle,results,results106,go_sem,j,H,G];exact⟨h,rfl⟩
   ·unfold Zm at N;rw[Option.map_some]at N;go_upto_region 5 with(first
     |(go_fit N.out;rintro e w8 T;obtain⟨Z,rfl,lv8,sv8,E⟩:=T.ok'))
    have i:=H7'.out.trans Z;have M:=q.out.keep i (by have:=A.out;omega);have O:=r.out.keep i (by have:=A.out;omega);obtain⟨k20,k21⟩:=M.cells2;have k30:=O.cell 0;have f20:=M.frozen 0;have f21:=M.frozen 1;have f30:=O.frozen 0;obtain⟨z,lc,rfl⟩:=Ze E.locals;obtain⟨sp,sc,rfl⟩:=Ze E.stack;obtain⟨b0,b1,b2,b3,b4⟩:=E.blk.cells5;have O1:=ownsRow_setCell_below (ownsRow_setCell_below (ownsRow_setCell_below E.locals (a:=⟨w.heap.size+1+1,0,none⟩) (by show w.heap.size+1+1<_;have:=A.out;omega) (.slice z L2.length lc)) (a:=⟨w.heap.size+1+1,1,none⟩) (by show w.heap.size+1+1<_;have:=A.out;omega) (.slice sp S2.length sc)) (a:=⟨w.heap.size+1+1+1,0,none⟩) (by show w.heap.size+1+1+1<_;have:=A.out;omega) (.bool true);have O2:=ownsRow_setCell_below (ownsRow_setCell_below (ownsRow_setCell_below E.stack (a:=⟨w.heap.size+1+1,0,none⟩) (by show w.heap.size+1+1<_;have:=A.out;omega) (.slice z L2.length lc)) (a:=⟨w.heap.size+1+1,1,none⟩) (by show w.heap.size+1+1<_;have:=A.out;omega) (.slice sp S2.length sc)) (a:=⟨w.heap.size+1+1+1,0,none⟩) (by show w.heap.size+1+1+1<_;have:=A.out;omega) (.bool true);obtain⟨j,H⟩:=((M.put 0 (.slice z L2.length lc)).put 1 (.slice sp S2.length sc)).other (b':=w.heap.size+1+1+1) (by omega) 0 (.bool true) |>.cells2
    have G:=(((O.other (b':=w.heap.size+1+1) (by omega) 0 (.slice z L2.length lc)).other (b':=w.heap.size+1+1) (by omega) 1 (.slice sp S2.length sc)).put 0 (.bool true)).cell 0;have h:=((Qa F Xl (i.mono Xl)).setCell (p:=⟨w.heap.size+1+1,0,none⟩) (by show _<=w.heap.size+1+1;omega) (.slice z L2.length lc)).setCell (p:=⟨w.heap.size+1+1,1,none⟩) (by show _<=w.heap.size+1+1;omega) (.slice sp S2.length sc) |>.setCell (p:=⟨w.heap.size+1+1+1,0,none⟩) (by show _<=w.heap.size+1+1+1;omega) (.bool true)
    have HF:=Xh (And.intro h (And.intro O1 O2));have HCs:=Xh (And.intro j (And.intro H G));clear E Z i M O O1 O2 j H G h;go_wp2_with fail;refine leaves_cons (f:=136) (args:=#[.pointer (some ⟨w.heap.size+1+1,0,none⟩),.pointer (some ⟨w.heap.size+1+1+1,0,none⟩)]) (by simp) (by simp[go_sem]) ?_;refine(qdH _ _ _).mono ?_;rintro e u' w''⟨rfl,rfl,rfl⟩;obtain⟨j,H,G⟩:=HCs.out;obtain⟨h,O1,O2⟩:=HF.out;generalize (((w8.setCell ⟨w.heap.size+1+1,0,none⟩ (.slice z L2.length lc)).setCell ⟨w.heap.size+1+1,1,none⟩ (.slice sp S2.length sc)).setCell ⟨w.heap.size+1+1+1,0,none⟩ (.bool true))=wf at *;simp[Leaves,settle,results,results106,go_sem,j,H,G];exact⟨h,_,_,rfl,Zk O1,Zk O2⟩
