/- Lemmas; conditions: as each states. -/
import Derived.Test.YtmclocdhcblbiaaGreatDoorZHeapNew
import Derived.Test.YtmclocdhcblbiaaGreatDoorZRunStep
set_option maxHeartbeats 4000000
namespace Go.Proofs.YtmclocdhcblbiaaGreatDoor
open Go.RowKit Go.Shelf Go.Lib Tryz
structure Chg (X:Nat->Prop) (w w':World):Prop where
 os:w'.os=w.os
 tape:w'.tape=w.tape
 output:w'.output=w.output
 size:w.heap.size<=w'.heap.size
 block:∀k,k<w.heap.size->¬X k->w'.heap[k]? = w.heap[k]?
theorem Chg.refl(X:Nat->Prop)(w:World):Chg X w w:=⟨rfl,rfl,rfl,Xl,fun _ _ _=>rfl⟩
theorem Chg.of{X:Nat->Prop}{w w':World}(h:Below w.heap.size w w'):Chg X w w':=⟨h.os,h.tape,h.output,h.size,fun k A _=>h.block k A⟩
theorem Chg.trans{X Y:Nat->Prop}{a b c:World}(h:Chg X a b)(k:Chg Y b c)(C:∀i,i<a.heap.size->Y i->X i):Chg X a c :=
 ⟨k.os.trans h.os,k.tape.trans h.tape,k.output.trans h.output,Xf h.size k.size,fun i A B=>(k.block i (Nat.lt_of_lt_of_le A h.size) (fun D=>B (C i A D))).trans (h.block i A B)⟩
theorem Chg.mono{X Y:Nat->Prop}{a b:World}(h:Chg X a b)(B:∀i,i<a.heap.size->X i->Y i):Chg Y a b:=⟨h.os,h.tape,h.output,h.size,fun k A C=>h.block k A (fun D=>C (B k A D))⟩
theorem Chg.on{X:Nat->Prop}{a w w':World}(h:Chg X a w)(A:Below w.heap.size w w'):Chg X a w':=h.trans (Chg.of (X:=X) A) (fun _ _ h=>h)
theorem Chg.below{X:Nat->Prop}{base:Nat}{w w':World}(h:Chg X w w')(C:base<=w.heap.size)(A:∀k,X k->base<=k):Below base w w' :=
 ⟨h.os,h.tape,h.output,h.size,fun k D=>h.block k (by omega) (fun B=>by have:=A k B;omega)⟩
theorem Chg.alloc{X:Nat->Prop}{a w:World}(h:Chg X a w)(o:Obj):Chg X a (w.alloc o):=h.on (Xb.alloc Xl o)
theorem Chg.drew{X:Nat->Prop}{a w:World}(h:Chg X a w):Chg X a w.drew:=⟨h.os,h.tape,h.output,h.size,h.block⟩
theorem Chg.set{X:Nat->Prop}{a w:World}(h:Chg X a w){p:Addr}(C:p.block<a.heap.size->X p.block)(u:Value):Chg X a (w.setCell p u) :=
 ⟨h.os,h.tape,h.output,by simpa[World.setCell] using h.size,fun k A B=>(Below.heap_setCell w p u k (fun e=>B (by rw[e];exact C (by rw[<-e];exact A)))).trans (h.block k A B)⟩
theorem Chg.grown{X:Nat->Prop}{a w w':World}{A:Option Nat}(h:Chg X a w)(B:w.grownBy w' A)(E:∀k,A=some k->k<a.heap.size->X k):Chg X a w' :=
 ⟨B.os.trans h.os,B.tape.trans h.tape,B.output.trans h.output,Xf h.size B.size,fun k C D=>(B.block k (Nat.lt_of_lt_of_le C h.size) (fun e=>D (E k e.symm C))).trans (h.block k C D)⟩
theorem Blk.chg{X:Nat->Prop}{w w':World}{b:Nat}{t:TypeId}{A:List Value}(h:Blk w b t A)(c:Chg X w w')(B:¬X b):Blk w' b t A:=(c.block b h.lt B).trans h
theorem zbd{X:Nat->Prop}{w w':World}{base size n:Nat}{t:TypeId}{v:Value}{xs:List Value}(h:w.ownsRow base t size v n xs)(c:Chg X w w')(E:∀g,v.ownBlock=some g->¬X g):w'.ownsRow base t size v n xs:=by
 rcases h with⟨B,F|⟨g,cap,A,C,G,D,H⟩⟩
 ·exact⟨B,Or.inl F⟩
 ·exact⟨B,Or.inr ⟨g,cap,A,C,G,(c.block g (Array.getElem?_eq_some_iff.1 D).1 (E g (by rw[C];rfl))).trans D,H⟩⟩
structure ZE (base:Nat) (w:World) (cb:Nat) (cv hv lv sv:Value) (c:Cal):Prop where
 blk:Blk w cb 111 [.string c.cls,.string c.m.name,.string c.m.type,.bool c.m.static,.bool c.m.abs,.bool c.m.priv,.int .i64 c.m.locals,cv,hv,.int .i64 c.pc,lv,sv]
 locals:w.ownsRow base 43 2 lv c.L.length (c.L.flatMap Zt)
 stack:w.ownsRow base 43 2 sv c.S.length (c.S.flatMap Zt)
 apart:∀g,lv.ownBlock=some g->sv.ownBlock≠some g
 lfar:lv.ownBlock≠some cb
 sfar:sv.ownBlock≠some cb
 low:base<=cb
def Qaq(cb:Nat)(lv sv:Value)(b:Nat):Prop:=b=cb\/lv.ownBlock=some b\/sv.ownBlock=some b
def Z4(base:Nat)(w:World)(cb:Nat)(cv hv lv sv:Value)(c:Cal)(w':World):Prop :=
 Chg (Qaq cb lv sv) w w'/\∃sv',ZE base w' cb cv hv lv sv' c/\(sv'.ownBlock=sv.ownBlock\/∀g,sv'.ownBlock=some g->w.heap.size<=g)
theorem ZE.chg{base:Nat}{X:Nat->Prop}{w w':World}{A:Nat}{cv hv B C:Value}{c:Cal}(h:ZE base w A cv hv B C c)(D:Chg X w w')(E:∀b,Qaq A B C b->¬X b):ZE base w' A cv hv B C c :=
 ⟨h.blk.chg D (E _ (Or.inl rfl)),zbd h.locals D (fun g e=>E g (Or.inr (Or.inl e))),zbd h.stack D (fun g e=>E g (Or.inr (Or.inr e))),h.apart,h.lfar,h.sfar,h.low⟩
theorem ZE.step{base:Nat}{w w':World}{A:Nat}{cv hv B C:Value}{c:Cal}(h:ZE base w A cv hv B C c)(D:Below w.heap.size w w'):ZE base w' A cv hv B C c:=h.chg (X:=fun _=>False) (Chg.of D) (fun _ _ h=>h)
theorem ZE.size{base:Nat}{w:World}{A:Nat}{cv hv B C:Value}{c:Cal}(h:ZE base w A cv hv B C c):base<=w.heap.size:=Xf h.low (Nat.le_of_lt h.blk.lt)
theorem ZE.in{base:Nat}{w:World}{A:Nat}{cv hv B C:Value}{c:Cal}(h:ZE base w A cv hv B C c){b:Nat}(D:Qaq A B C b):base<=b/\b<w.heap.size:=by
 rcases D with rfl|e|e
 ·exact⟨h.low,h.blk.lt⟩
 ·exact h.locals.lt _ e
 ·exact h.stack.lt _ e
theorem Z4.mk{base:Nat}{w w':World}{B:Nat}{cv hv C D A:Value}{c:Cal}(h:Chg (Qaq B C D) w w')(k:ZE base w' B cv hv C A c)(E:A.ownBlock=D.ownBlock\/∀g,A.ownBlock=some g->w.heap.size<=g):Z4 base w B cv hv C D c w':=⟨h,A,k,E⟩
theorem Z4.then{base:Nat}{w H w':World}{D:Nat}{cv hv E F B:Value}{c':Cal}(h:Chg (Qaq D E F) w H)(A:B.ownBlock=F.ownBlock\/∀g,B.ownBlock=some g->w.heap.size<=g)(k:Z4 base H D cv hv E B c' w'):Z4 base w D cv hv E F c' w':=by
 obtain⟨I,G,J,C⟩:=k;refine⟨h.trans I (fun i M L=>?_),G,J,?_⟩
 ·rcases L with e|e|e
  ·exact Or.inl e
  ·exact Or.inr (Or.inl e)
  ·rcases A with A|A
   ·exact Or.inr (Or.inr (A▸e))
   ·have:=A i e;omega
 ·rcases C with C|C
  ·rcases A with A|A
   ·exact Or.inl (C.trans A)
   ·exact Or.inr fun g e=>A g (C▸e)
  ·exact Or.inr fun g e=>Xf h.size (C g e)
theorem ZE.stacked{base:Nat}{w:World}{C:Nat}{cv hv E G A:Value}{c:Cal}{S:List Val}(h:ZE base w C cv hv E G c){F:World}(J:Blk F C 111 [.string c.cls,.string c.m.name,.string c.m.type,.bool c.m.static,.bool c.m.abs,.bool c.m.priv,.int .i64 c.m.locals,cv,hv,.int .i64 c.pc,E,G])(M:F.ownsRow base 43 2 E c.L.length (c.L.flatMap Zt))(N:F.ownsRow base 43 2 A S.length (S.flatMap Zt))(D:A.ownBlock=G.ownBlock\/∀g,A.ownBlock=some g->w.heap.size<=g):ZE base (F.setCell ⟨C,11,none⟩ A) C cv hv E A { c with S:=S }:=by
 have O:=h.blk.lt;have H:A.ownBlock≠some C:=by
  rcases D with B|B
  ·rw[B];exact h.sfar
  ·intro e;have:=B _ e;omega
 refine⟨J.put 11 A,Z1 M h.lfar 11 A,Z1 N H 11 A,fun g e I=>?_,h.lfar,H,h.low⟩;rcases D with B|B
 ·exact h.apart g e (B▸I)
 ·have:=(h.locals.lt _ e).2;have:=B _ I;omega
structure Zs where
 cb:Nat
 cv:Value
 hv:Value
 lv:Value
 sv:Value
 c:Cal
inductive qeA where
 |m|hs|cs
 |has (i:Nat)
 |call (i:Nat)
 |loc (i:Nat)
 |stk (i:Nat)
def qY(kb:Nat)(hv cv:Value)(ps:List (Zc×Value))(qs:List Zs):qeA->Option Nat
 |.m=>some kb
 |.hs=>hv.ownBlock
 |.cs=>cv.ownBlock
 |.has i=>(ps[i]?).bind fun p=>p.2.ownBlock
 |.call i=>(qs[i]?).map fun q=>q.cb
 |.loc i=>(qs[i]?).bind fun q=>q.lv.ownBlock
 |.stk i=>(qs[i]?).bind fun q=>q.sv.ownBlock
def Sep(f:qeA->Option Nat):Prop:=∀r s b,f r=some b->f s=some b->r=s
theorem Sep.of{f F:qeA->Option Nat}{n:Nat}(h:Sep f)(B:∀r b,f r=some b->b<n)(A:qeA->Nat->Prop)(D:∀r b,F r=some b->f r=some b\/(n<=b/\A r b))(I:∀r s b,A r b->A s b->r=s):Sep F:=fun r s b J G=>by
 rcases D r b J with E|⟨E,L⟩
 ·rcases D s b G with C|⟨C,H⟩
  ·exact h r s b E C
  ·have:=B r b E;omega
 ·rcases D s b G with C|⟨C,H⟩
  ·have:=B s b C;omega
  ·exact I r s b L H
structure Qk (w0 w:World) (kb B:Nat) (hv cv:Value) (ps:List (Zc×Value)) (qs:List Zs) (tv:Val) (th:Str) (st:Int) (ov:Bool):Prop where
 below:Below w0.heap.size w0 w
 blk:Blk w kb 82 [.map (some B),hv,cv,.int .i64 tv.kind,.int .i64 tv.n,.string th,.int .i64 st,.bool ov]
 low:w0.heap.size<=kb
 things:w.ownsRow w0.heap.size 106 2 hv ps.length (ps.flatMap Q7)
 has:∀p∈ps,w.ownsRow w0.heap.size 43 2 p.2 p.1.has.length (p.1.has.flatMap Zt)
 calls:w.ownsRow w0.heap.size 109 1 cv qs.length (qs.map fun q=>Value.pointer (some ⟨q.cb,0,none⟩))
 each:∀q∈qs,ZE w0.heap.size w q.cb q.cv q.hv q.lv q.sv q.c
 meth:∀q∈qs,Qe w0 6 Zv q.cv q.c.m.code/\Qe w0 4 Qp q.hv q.c.m.handlers
 sep:Sep (qY kb hv cv ps qs)
section
variable {w0 w w':World} {kb B:Nat} {hv cv:Value} {ps:List (Zc×Value)} {qs:List Zs} {q:Zs} {tv:Val} {th:Str} {st:Int} {ov:Bool}
theorem Qk.lt(h:Qk w0 w kb B hv cv ps qs tv th st ov):∀r b,qY kb hv cv ps qs r=some b->w0.heap.size<=b/\b<w.heap.size:=by
 intro r b A;cases r with
 |m =>
  injection A with A
  subst A;exact⟨h.low,h.blk.lt⟩
 |hs=>exact h.things.lt _ A
 |cs=>exact h.calls.lt _ A
 |has i =>
  change (ps[i]?).bind (fun p=>p.2.ownBlock)=some b at A;cases C:ps[i]? with
  |none=>rw[C]at A;cases A
  |some p =>
   rw[C]at A;exact(h.has p (Xe C)).lt _ A
 |call i =>
  change (qs[i]?).map (fun q=>q.cb)=some b at A;cases C:qs[i]? with
  |none=>rw[C]at A;cases A
  |some p =>
   rw[C]at A;injection A with A
   subst A;have:=h.each p (Xe C);exact⟨this.low,this.blk.lt⟩
 |loc i =>
  change (qs[i]?).bind (fun q=>q.lv.ownBlock)=some b at A;cases C:qs[i]? with
  |none=>rw[C]at A;cases A
  |some p =>
   rw[C]at A;exact(h.each p (Xe C)).locals.lt _ A
 |stk i =>
  change (qs[i]?).bind (fun q=>q.sv.ownBlock)=some b at A;cases C:qs[i]? with
  |none=>rw[C]at A;cases A
  |some p =>
   rw[C]at A;exact(h.each p (Xe C)).stack.lt _ A
theorem Qk.size(h:Qk w0 w kb B hv cv ps qs tv th st ov):w0.heap.size<=w.heap.size:=h.below.size
theorem Qk.keep(h:Qk w0 w kb B hv cv ps qs tv th st ov){X:Nat->Prop}(C:Chg X w w')(F:∀b,X b->w0.heap.size<=b)(R:qeA->Prop)(A:∀r b,qY kb hv cv ps qs r=some b->X b->R r):
 Below w0.heap.size w0 w'/\(¬R .m->Blk w' kb 82 [.map (some B),hv,cv,.int .i64 tv.kind,.int .i64 tv.n,.string th,.int .i64 st,.bool ov])/\(¬R .hs->w'.ownsRow w0.heap.size 106 2 hv ps.length (ps.flatMap Q7)) /\
 (∀i p,ps[i]? = some p->¬R (.has i)->w'.ownsRow w0.heap.size 43 2 p.2 p.1.has.length (p.1.has.flatMap Zt))/\(¬R .cs->w'.ownsRow w0.heap.size 109 1 cv qs.length (qs.map fun q=>Value.pointer (some ⟨q.cb,0,none⟩))) /\
 (∀i q,qs[i]? = some q->¬R (.call i)->¬R (.loc i)->¬R (.stk i)->ZE w0.heap.size w' q.cb q.cv q.hv q.lv q.sv q.c):=by
 refine⟨h.below.trans (C.below h.size F),fun n=>h.blk.chg C (fun x=>n (A .m _ rfl x)),fun n=>zbd h.things C (fun g e x=>n (A .hs g e x)),fun i p E n=>zbd (h.has p (Xe E)) C (fun g e x=>n (A (.has i) g (by show(ps[i]?).bind _=_;rw[E];exact e) x)),fun n=>zbd h.calls C (fun g e x=>n (A .cs g e x)),fun i q D G H I=>?_⟩;refine(h.each q (Xe D)).chg C fun b J x=>?_
 rcases J with rfl|e|e
 ·exact G (A (.call i) _ (by show(qs[i]?).map _=_;rw[D];rfl) x)
 ·exact H (A (.loc i) b (by show(qs[i]?).bind _=_;rw[D];exact e) x)
 ·exact I (A (.stk i) b (by show(qs[i]?).bind _=_;rw[D];exact e) x)
theorem Qk.step(h:Qk w0 w kb B hv cv ps qs tv th st ov)(C:Below w.heap.size w w'):Qk w0 w' kb B hv cv ps qs tv th st ov:=by
 obtain⟨D,E,F,G,H,I⟩:=h.keep (X:=fun _=>False) (Chg.of C) (fun _ x=>x.elim) (fun _=>False) (fun _ _ _ x=>x);refine⟨D,E id,h.low,F id,fun p J=>?_,H id,fun q L=>?_,h.meth,h.sep⟩
 ·obtain⟨i,A⟩:=List.mem_iff_getElem?.1 J;exact G i p A id
 ·obtain⟨i,A⟩:=List.mem_iff_getElem?.1 L;exact I i q A id id id
theorem Qk.top(h:Qk w0 w kb B hv cv ps (qs++[q]) tv th st ov):ZE w0.heap.size w q.cb q.cv q.hv q.lv q.sv q.c:=h.each q (by simp)
theorem zaD{α:Type}{l:List α}{x y:α}{i:Nat}(h:(l++[x])[i]? = some y):(l[i]? = some y/\i<l.length)\/(i=l.length/\y=x):=by
 by_cases A:i<l.length
 ·rw[List.getElem?_append_left A]at h;exact Or.inl ⟨h,A⟩
 ·rw[List.getElem?_append_right (by omega)]at h;have B:i-l.length=0:=by
   have:=(List.getElem?_eq_some_iff.1 h).1;simp at this;omega
  rw[B]at h;exact Or.inr ⟨by omega,by simpa using h.symm⟩
theorem Qad{α:Type}(l:List α)(x:α):(l++[x])[l.length]? = some x:=by simp
theorem Qk.top_parts(h:Qk w0 w kb B hv cv ps (qs++[q]) tv th st ov){r:qeA}{b:Nat}(A:qY kb hv cv ps (qs++[q]) r=some b)(C:Qaq q.cb q.lv q.sv b):r=.call qs.length\/r=.loc qs.length\/r=.stk qs.length:=by
 rcases C with rfl|e|e
 ·exact Or.inl (h.sep r (.call qs.length) _ A (by show((qs++[q])[qs.length]?).map _=_;rw[Qad];rfl))
 ·exact Or.inr (Or.inl (h.sep r (.loc qs.length) _ A (by show((qs++[q])[qs.length]?).bind _=_;rw[Qad];exact e)))
 ·exact Or.inr (Or.inr (h.sep r (.stk qs.length) _ A (by show((qs++[q])[qs.length]?).bind _=_;rw[Qad];exact e)))
theorem Qk.turn(h:Qk w0 w kb B hv cv ps (qs++[q]) tv th st ov){D:Value}{c':Cal}(L:c'.m=q.c.m)(M:Chg (Qaq q.cb q.lv q.sv) w w')(N:ZE w0.heap.size w' q.cb q.cv q.hv q.lv D c')(F:D.ownBlock=q.sv.ownBlock\/∀g,D.ownBlock=some g->w.heap.size<=g):
 Qk w0 w' kb B hv cv ps (qs++[⟨q.cb,q.cv,q.hv,q.lv,D,c'⟩]) tv th st ov:=by
 obtain⟨P,R,S,T,U,V⟩:=h.keep M (fun b I=>(h.top.in I).1) (fun r=>r=.call qs.length\/r=.loc qs.length\/r=.stk qs.length) (fun r b A I=>h.top_parts A I);refine⟨P,R (by simp),h.low,S (by simp),fun p C=>?_,?_,fun p C=>?_,fun p C=>?_,?_⟩
 ·obtain⟨i,E⟩:=List.mem_iff_getElem?.1 C;exact T i p E (by simp)
 ·have:=U (by simp);simpa using this
 ·rcases List.mem_append.1 C with C|C
  ·obtain⟨i,E⟩:=List.mem_iff_getElem?.1 C;have G:=(List.getElem?_eq_some_iff.1 E).1;exact V i p (by rw[List.getElem?_append_left G];exact E) (by simp;omega) (by simp;omega) (by simp;omega)
  ·rw[List.mem_singleton.1 C];exact N
 ·rcases List.mem_append.1 C with C|C
  ·exact h.meth p (by simp[C])
  ·rw[List.mem_singleton.1 C];have:=h.meth q (by simp);show Qe w0 6 Zv q.cv c'.m.code/\Qe w0 4 Qp q.hv c'.m.handlers
   rw[L];exact this
 ·refine Sep.of h.sep (fun r b A=>(h.lt r b A).2) (fun r _=>r=.stk qs.length) (fun r b A=>?_) (fun r s b X Y=>X.trans Y.symm);cases r with
  |m=>exact Or.inl A
  |hs=>exact Or.inl A
  |cs=>exact Or.inl A
  |has i=>exact Or.inl A
  |call i =>
   refine Or.inl ?_;change ((qs++[_])[i]?).map _=some b at A;show((qs++[q])[i]?).map _=some b
   by_cases E:i<qs.length
   ·rw[List.getElem?_append_left E]at A ⊢;exact A
   ·rw[List.getElem?_append_right (by omega)]at A ⊢;generalize i-qs.length=j at *;cases j with
    |zero=>exact A
    |succ j=>simp at A
  |loc i =>
   refine Or.inl ?_;change ((qs++[_])[i]?).bind _=some b at A;show((qs++[q])[i]?).bind _=some b
   by_cases E:i<qs.length
   ·rw[List.getElem?_append_left E]at A ⊢;exact A
   ·rw[List.getElem?_append_right (by omega)]at A ⊢;generalize i-qs.length=j at *;cases j with
    |zero=>exact A
    |succ j=>simp at A
  |stk i =>
   change ((qs++[_])[i]?).bind _=some b at A;show((qs++[q])[i]?).bind _=some b\/_
   by_cases E:i<qs.length
   ·rw[List.getElem?_append_left E]at A ⊢;exact Or.inl A
   ·rw[List.getElem?_append_right (by omega)]at A ⊢;have H:i-qs.length=0:=by
     by_cases O:i-qs.length=0
     ·exact O
     ·exfalso;obtain⟨j,H⟩:∃j,i-qs.length=j+1:=⟨i-qs.length-1,by omega⟩;rw[H]at A;simp at A
    rw[H]at A ⊢;have A:D.ownBlock=some b:=A;rcases F with F|F
    ·exact Or.inl (by show q.sv.ownBlock=some b;rw[<-F];exact A)
    ·exact Or.inr ⟨F b A,by congr 1;omega⟩
theorem Qk.tell(h:Qk w0 w kb B hv cv ps qs tv th st ov){tv':Val}{th':Str}{st':Int}{ov':Bool}(D:Chg (fun b=>b=kb) w w')(A:Blk w' kb 82 [.map (some B),hv,cv,.int .i64 tv'.kind,.int .i64 tv'.n,.string th',.int .i64 st',.bool ov']):Qk w0 w' kb B hv cv ps qs tv' th' st' ov':=by
 obtain⟨E,N,F,G,H,I⟩:=h.keep D (fun b A=>by rw[A];exact h.low) (fun r=>r=.m) (fun r b J A=>h.sep r .m b J (by show some kb=some b;rw[A]));refine⟨E,A,h.low,F (by simp),fun p L=>?_,H (by simp),fun q M=>?_,h.meth,h.sep⟩
 ·obtain⟨i,C⟩:=List.mem_iff_getElem?.1 L;exact G i p C (by simp)
 ·obtain⟨i,C⟩:=List.mem_iff_getElem?.1 M;exact I i q C (by simp) (by simp) (by simp)
theorem Qk.drop(h:Qk w0 w kb B hv cv ps (qs++[q]) tv th st ov){g cap:Nat}(D:cv=.slice (some ⟨g,0,none⟩) (qs.length+1) cap)(M:Chg (fun b=>b=kb) w w')(E:Blk w' kb 82 [.map (some B),hv,.slice (some ⟨g,0,none⟩) qs.length cap,.int .i64 tv.kind,.int .i64 tv.n,.string th,.int .i64 st,.bool ov]):Qk w0 w' kb B hv (.slice (some ⟨g,0,none⟩) qs.length cap) ps qs tv th st ov:=by
 obtain⟨N,X,O,P,R,S⟩:=h.keep M (fun b E=>by rw[E];exact h.low) (fun r=>r=.m) (fun r b A E=>h.sep r .m b A (by show some kb=some b;rw[E]));refine⟨N,E,h.low,O (by simp),fun p F=>?_,?_,fun p F=>?_,fun p F=>h.meth p (by simp[F]),fun r s b A J=>?_⟩
 ·obtain⟨i,C⟩:=List.mem_iff_getElem?.1 F;exact P i p C (by simp)
 ·have H:=R (by simp);rw[D,List.length_append,List.map_append]at H;exact Go.ownsRow_pop (by simp) H
 ·obtain⟨i,C⟩:=List.mem_iff_getElem?.1 F;have G:=(List.getElem?_eq_some_iff.1 C).1;exact S i p (by rw[List.getElem?_append_left G];exact C) (by simp) (by simp) (by simp)
 ·have I:∀r b,qY kb hv (.slice (some ⟨g,0,none⟩) qs.length cap) ps qs r=some b->qY kb hv cv ps (qs++[q]) r=some b:=fun r b A=>by
   cases r with
   |m=>exact A
   |hs=>exact A
   |cs=>rw[D];exact A
   |has i=>exact A
   |call i =>
    change (qs[i]?).map _=some b at A;show((qs++[q])[i]?).map _=some b
    cases C:qs[i]? with
    |none=>rw[C]at A;cases A
    |some x=>rw[List.getElem?_append_left (List.getElem?_eq_some_iff.1 C).1];exact A
   |loc i =>
    change (qs[i]?).bind _=some b at A;show((qs++[q])[i]?).bind _=some b
    cases C:qs[i]? with
    |none=>rw[C]at A;cases A
    |some x=>rw[List.getElem?_append_left (List.getElem?_eq_some_iff.1 C).1];exact A
   |stk i =>
    change (qs[i]?).bind _=some b at A;show((qs++[q])[i]?).bind _=some b
    cases C:qs[i]? with
    |none=>rw[C]at A;cases A
    |some x=>rw[List.getElem?_append_left (List.getElem?_eq_some_iff.1 C).1];exact A
  exact h.sep r s b (I r b A) (I s b J)
theorem Qk.push(h:Qk w0 w kb B hv cv ps qs tv th st ov){D:Value}(P:Chg (fun b=>b=kb\/cv.ownBlock=some b) w w')(E:Blk w' kb 82 [.map (some B),hv,D,.int .i64 tv.kind,.int .i64 tv.n,.string th,.int .i64 st,.bool ov])(M:w'.ownsRow w0.heap.size 109 1 D (qs.length+1) ((qs.map fun q=>Value.pointer (some ⟨q.cb,0,none⟩))++[Value.pointer (some ⟨q.cb,0,none⟩)]))(N:ZE w0.heap.size w' q.cb q.cv q.hv q.lv q.sv q.c)(R:Qe w0 6 Zv q.cv q.c.m.code/\Qe w0 4 Qp q.hv q.c.m.handlers)(y:w.heap.size<=q.cb)(S:∀g,q.lv.ownBlock=some g->w.heap.size<=g)(T:q.sv.ownBlock=none)(I:D.ownBlock=cv.ownBlock\/∀g,D.ownBlock=some g->w.heap.size<=g/\g≠q.cb/\q.lv.ownBlock≠some g):Qk w0 w' kb B hv D ps (qs++[q]) tv th st ov:=by
 obtain⟨U,z,V,X,k5,Y⟩:=h.keep P (fun b E=>by
  rcases E with E|E
  ·rw[E];exact h.low
  ·exact(h.calls.lt _ E).1) (fun r=>r=.m\/r=.cs) (fun r b A E=>by
  rcases E with E|E
  ·exact Or.inl (h.sep r .m b A (by show some kb=some b;rw[E]))
  ·exact Or.inr (h.sep r .cs b A E))
 refine⟨U,E,h.low,V (by simp),fun p F=>?_,?_,fun p F=>?_,fun p F=>?_,?_⟩
 ·obtain⟨i,C⟩:=List.mem_iff_getElem?.1 F;exact X i p C (by simp)
 ·rw[List.length_append,List.map_append];exact M
 ·rcases List.mem_append.1 F with F|F
  ·obtain⟨i,C⟩:=List.mem_iff_getElem?.1 F;exact Y i p C (by simp) (by simp) (by simp)
  ·rw[List.mem_singleton.1 F];exact N
 ·rcases List.mem_append.1 F with F|F
  ·exact h.meth p F
  ·rw[List.mem_singleton.1 F];exact R
 ·refine Sep.of h.sep (fun r b A=>(h.lt r b A).2) (fun r b=>(r=.cs/\b≠q.cb/\q.lv.ownBlock≠some b)\/(r=.call qs.length/\b=q.cb)\/(r=.loc qs.length/\q.lv.ownBlock=some b)) (fun r b A=>?_) (fun r s b f j=>?_)
  ·cases r with
   |m=>exact Or.inl A
   |hs=>exact Or.inl A
   |cs =>
    have A:D.ownBlock=some b:=A;rcases I with I|I
    ·exact Or.inl (by show cv.ownBlock=some b;rw[<-I];exact A)
    ·obtain⟨Z,a,d⟩:=I b A;exact Or.inr ⟨Z,Or.inl ⟨rfl,a,d⟩⟩
   |has i=>exact Or.inl A
   |call i =>
    change ((qs++[q])[i]?).map _=some b at A;cases C:(qs++[q])[i]? with
    |none=>rw[C]at A;cases A
    |some x =>
     rw[C]at A;rcases zaD C with⟨e,_⟩|⟨J,L⟩
     ·refine Or.inl ?_;show(qs[i]?).map _=_
      rw[e];exact A
     ·subst J L;have A:x.cb=b:=(by injection A);exact Or.inr ⟨by omega,Or.inr (Or.inl ⟨rfl,A.symm⟩)⟩
   |loc i =>
    change ((qs++[q])[i]?).bind _=some b at A;cases C:(qs++[q])[i]? with
    |none=>rw[C]at A;cases A
    |some x =>
     rw[C]at A;rcases zaD C with⟨e,_⟩|⟨J,L⟩
     ·refine Or.inl ?_;show(qs[i]?).bind _=_
      rw[e];exact A
     ·subst J L;exact Or.inr ⟨S b A,Or.inr (Or.inr ⟨rfl,A⟩)⟩
   |stk i =>
    change ((qs++[q])[i]?).bind _=some b at A;cases C:(qs++[q])[i]? with
    |none=>rw[C]at A;cases A
    |some x =>
     rw[C]at A;rcases zaD C with⟨e,_⟩|⟨J,L⟩
     ·refine Or.inl ?_;show(qs[i]?).bind _=_
      rw[e];exact A
     ·subst J L;have A:x.sv.ownBlock=some b:=A;rw[T]at A;cases A
  ·rcases f with⟨rfl,G,t⟩|⟨rfl,G⟩|⟨rfl,G⟩<;>rcases j with⟨rfl,H,v⟩|⟨rfl,H⟩|⟨rfl,H⟩
   ·rfl
   ·exact absurd H G
   ·exact absurd H t
   ·exact absurd G H
   ·rfl
   ·subst G;exact absurd H N.lfar
   ·exact absurd G v
   ·subst H;exact absurd G N.lfar
   ·rfl
theorem Qk.more(h:Qk w0 w kb B hv cv ps qs tv th st ov){D E:Value}{x:Zc}(T:Chg (fun b=>b=kb\/hv.ownBlock=some b\/E.ownBlock=some b) w w')(I:∀r b,qY kb hv cv ps qs r=some b->E.ownBlock≠some b)(J:∀b,E.ownBlock=some b->w0.heap.size<=b)(C:Blk w' kb 82 [.map (some B),D,cv,.int .i64 tv.kind,.int .i64 tv.n,.string th,.int .i64 st,.bool ov])(L:w'.ownsRow w0.heap.size 106 2 D (ps.length+1) (ps.flatMap Q7++Q7 (x,E)))(M:w'.ownsRow w0.heap.size 43 2 E x.has.length (x.has.flatMap Zt))(G:D.ownBlock=hv.ownBlock\/∀g,D.ownBlock=some g->w.heap.size<=g/\E.ownBlock≠some g):Qk w0 w' kb B D cv (ps++[(x,E)]) qs tv th st ov:=by
 obtain⟨U,v,z,V,X,Y⟩:=h.keep T (fun b C=>by
  rcases C with C|C|C
  ·rw[C];exact h.low
  ·exact(h.things.lt _ C).1
  ·exact J b C) (fun r=>r=.m\/r=.hs) (fun r b A C=>by
  rcases C with C|C|C
  ·exact Or.inl (h.sep r .m b A (by show some kb=some b;rw[C]))
  ·exact Or.inr (h.sep r .hs b A C)
  ·exact absurd C (I r b A))
 refine⟨U,C,h.low,?_,fun p H=>?_,X (by simp),fun q Z=>?_,h.meth,fun r s b A R=>?_⟩
 ·rw[List.length_append,List.flatMap_append];simpa using L
 ·rcases List.mem_append.1 H with H|H
  ·obtain⟨i,F⟩:=List.mem_iff_getElem?.1 H;exact V i p F (by simp)
  ·rw[List.mem_singleton.1 H];exact M
 ·obtain⟨i,F⟩:=List.mem_iff_getElem?.1 Z;exact Y i q F (by simp) (by simp) (by simp)
 ·have P:∀r b,qY kb D cv (ps++[(x,E)]) qs r=some b->qY kb hv cv ps qs r=some b\/(r=.hs/\w.heap.size<=b/\E.ownBlock≠some b)\/(r=.has ps.length/\E.ownBlock=some b):=fun r b A=>by
   cases r with
   |m=>exact Or.inl A
   |hs =>
    have A:D.ownBlock=some b:=A;rcases G with G|G
    ·exact Or.inl (by show hv.ownBlock=some b;rw[<-G];exact A)
    ·exact Or.inr (Or.inl ⟨rfl,G b A⟩)
   |cs=>exact Or.inl A
   |has i =>
    change ((ps++[(x,E)])[i]?).bind _=some b at A;cases F:(ps++[(x,E)])[i]? with
    |none=>rw[F]at A;cases A
    |some y =>
     rw[F]at A;rcases zaD F with⟨e,_⟩|⟨k,l⟩
     ·refine Or.inl ?_;show(ps[i]?).bind _=_
      rw[e];exact A
     ·subst k l;exact Or.inr (Or.inr ⟨rfl,A⟩)
   |call i=>exact Or.inl A
   |loc i=>exact Or.inl A
   |stk i=>exact Or.inl A
  rcases P r b A with a|⟨rfl,N,o⟩|⟨rfl,N⟩<;>rcases P s b R with c|⟨rfl,O,t⟩|⟨rfl,O⟩
  ·exact h.sep r s b a c
  ·have:=(h.lt r b a).2;omega
  ·exact absurd O (I r b a)
  ·have:=(h.lt s b c).2;omega
  ·rfl
  ·exact absurd O o
  ·exact absurd N (I s b c)
  ·exact absurd N t
  ·rfl
theorem qcg{x y:Zc}{v:Value}(A:y.type=x.type):∀{ps:List (Zc×Value)} {i:Nat},ps[i]? = some (x,v)->(ps.set i (y,v)).flatMap Q7=ps.flatMap Q7
 |[],_,h=>by simp at h
 |a::r,0,h=>by
  have h:a=(x,v):=by simpa using h
  rw[h,Xc,List.flatMap_cons,List.flatMap_cons];unfold Q7;rw[A]
 |a::r,i+1,h=>by rw[Xd,List.flatMap_cons,List.flatMap_cons,qcg A (ps:=r) (i:=i) (by simpa using h)]
theorem Qk.store(h:Qk w0 w kb B hv cv ps qs tv th st ov){i j g n cap:Nat}{x:Zc}(E:ps[i]? = some (x,.slice (some ⟨g,0,none⟩) n cap))(P:j<x.has.length)(u:Val):
 Qk w0 ((w.setCell ⟨g,j*2,none⟩ (.int .i64 u.kind)).setCell ⟨g,j*2+1,none⟩ (.int .i64 u.n)) kb B hv cv (ps.set i ({ x with has:=x.has.set j u },.slice (some ⟨g,0,none⟩) n cap)) qs tv th st ov:=by
 have F:qY kb hv cv ps qs (.has i)=some g:=by show(ps[i]?).bind _=_;rw[E];rfl
 have J:Chg (fun b=>b=g) w ((w.setCell ⟨g,j*2,none⟩ (.int .i64 u.kind)).setCell ⟨g,j*2+1,none⟩ (.int .i64 u.n)):=((Chg.refl (fun b=>b=g) w).set (fun _=>rfl) _).set (fun _=>rfl) _;obtain⟨U,V,X,Y,Z,a⟩:=h.keep J (fun b L=>by rw[L];exact(h.lt _ _ F).1) (fun r=>r=.has i) (fun r b A L=>h.sep r (.has i) b A (by rw[F,L]));have R:=(List.getElem?_eq_some_iff.1 E).1;refine⟨U,V (by simp),h.low,?_,fun p d=>?_,Z (by simp),fun q f=>?_,h.meth,fun r s b A N=>?_⟩
 ·have S:=X (by simp);rw[List.length_set];have e:(ps.set i ({ x with has:=x.has.set j u },Value.slice (some ⟨g,0,none⟩) n cap)).flatMap Q7=ps.flatMap Q7:=qcg (x:=x) (y:={ x with has:=x.has.set j u }) rfl E;rw[e];exact S
 ·obtain⟨H,C⟩:=List.mem_iff_getElem?.1 d;rw[List.getElem?_set]at C;split at C
  ·rename_i I;subst I;injection C with C
   subst C;have G:=h.has _ (Xe E);have T:n=x.has.length:=by
    obtain⟨_,G|⟨t,c',c,k,_⟩⟩:=G
    ·cases G.1
    ·injection k
   subst T;have:=Zbr G P u;simpa using this
  ·rename_i I;exact Y H p C (by simp;omega)
 ·obtain⟨i,E⟩:=List.mem_iff_getElem?.1 f;exact a i q E (by simp) (by simp) (by simp)
 ·have M:∀r b,qY kb hv cv (ps.set i ({ x with has:=x.has.set j u },.slice (some ⟨g,0,none⟩) n cap)) qs r=some b->qY kb hv cv ps qs r=some b:=fun r b A=>by
   cases r with
   |has H =>
    change ((ps.set i _)[H]?).bind _=some b at A;show(ps[H]?).bind _=some b
    rw[List.getElem?_set]at A;split at A
    ·rename_i I;subst I;rw[E];exact A
    ·exact A
   |m=>exact A
   |hs=>exact A
   |cs=>exact A
   |call i=>exact A
   |loc i=>exact A
   |stk i=>exact A
  exact h.sep r s b (M r b A) (M s b N)
end
def qb7(base:Nat)(w:World)(hv:Value)(ps:List (Zc×Value))(ty:Str)(xp:Option Addr)(n xk:Nat)(T:List Str)(e:Ending)(w':World):Prop :=
 (50<=ps.length/\e=.returned (.tuple #[.agg #[.slice none 0 0],.int .i64 0,.iface 52 (.int .i64 4)])/\Below w.heap.size w w') \/
 (ps.length<50/\∃v,e=.returned (.tuple #[.agg #[v],.int .i64 ((ps.length:Int)+1),.nilIface])/\Chg (fun b=>hv.ownBlock=some b\/(Value.slice xp n xk).ownBlock=some b) w w' /\
  w'.ownsRow base 106 2 v (ps.length+1) (ps.flatMap Q7++[.string ty,.slice xp n xk])/\w'.ownsRow base 43 2 (.slice xp n xk) n ((T.map QG).flatMap Zt)/\(v.ownBlock=hv.ownBlock\/∀b,v.ownBlock=some b->w.heap.size<=b))
set_option maxRecDepth 100000
theorem qey(w0 w:World)(B:Nat)(l:List qa)(hm:qh w0 w B l)(base:Nat)(hbase:base<=w.heap.size)(hv:Value)(ps:List (Zc×Value))(F:w.ownsRow base 106 2 hv ps.length (ps.flatMap Q7))(ty:Str)(tt:Ty)(E:Option Addr)(C n:Nat)(hx:w.ownsRow base 43 2 (.slice E n C) (List.replicate n qah).length ((List.replicate n qah).flatMap Zt))(hap:∀g,(Value.slice E n C).ownBlock=some g->hv.ownBlock≠some g)(htt:Qab (Za l) ⟨ty,List.replicate n qah⟩ tt)(hsz:ty.size<=maxLen)(hn10:∀e,tt=.ar e->n<=10)(T:List Str)(hT:zO (Za l) ⟨ty,List.replicate n qah⟩=T)(hTn:T.length=n):
 Calls prog 115 #[.map (some B),.agg #[hv],.agg #[.string ty,.slice E n C]] w (qb7 base w hv ps ty E n C T):=by
 obtain⟨M,N,rfl⟩:=Ze F;unfold qb7;obtain⟨wq,O⟩:∃wq,wq=((w.alloc (.cells #[.slice M ps.length N] 78)).alloc (.cells #[.string ty,.slice E n C] 106)).alloc (.cells #[.slice none 0 0] 78):=⟨_,rfl⟩;have L:Below w.heap.size w wq:=by rw[O];exact((Xb.alloc Xl _).alloc (by simp) _).alloc (by simp;omega) _
 by_cases h50:50<=ps.length
 ·have z1:decide ((50:Int)<=(ps.length:Int))=true:=by simp;omega
  have hE:=Xh L;clear hm F hx htt hT L;subst O;go_enter func115,ntmps115;go_wp2_with fail;exact bodyPost_ret (v:=.tuple #[.agg #[.slice none 0 0],.int .i64 0,.iface 52 (.int .i64 4)]) (by simp[results,results115,go_sem]) rfl (Or.inl ⟨h50,rfl,hE⟩)
 ·have z1:decide ((50:Int)<=(ps.length:Int))=false:=by simp;omega
  have S:Hid (∀wx,Below w.heap.size w wx->_):=fun wx hb=>zcM w0 wx B l (hm.step hb) ⟨ty,List.replicate n qah⟩ (.slice E n C) tt htt ((QaV hx).mono hb (by decide) (fun _ _ h=>h)) hsz (by simpa using hn10)
  rw[hT]at S;dsimp only at S;unfold zbq at S;obtain⟨i0,hi,hz0,hz1,hz2⟩:=info_parts ZdP;have o:Blk wq w.heap.size 78 [.slice M ps.length N]:=by
   rw[O];exact((Blk.new w 78 [.slice M ps.length N]).step (Xb.alloc Xl _)).step (Xb.alloc Xl _)
  have U:Blk wq (w.heap.size+1) 106 [.string ty,.slice E n C]:=by
   rw[O];have:=(Blk.new (w.alloc (.cells #[.slice M ps.length N] 78)) 106 [.string ty,.slice E n C]).step (Xb.alloc Xl (.cells #[.slice none 0 0] 78));simpa using this
  have q:Blk wq (w.heap.size+1+1) 78 [.slice none 0 0]:=by
   rw[O];have:=Blk.new ((w.alloc (.cells #[.slice M ps.length N] 78)).alloc (.cells #[.string ty,.slice E n C] 106)) 78 [.slice none 0 0];simpa using this
  have hsq:wq.heap.size=w.heap.size+3:=by rw[O];simp
  have hxq:=Ql hx L;have hXl:=Xh (hx.lt);have hn63:T.length<=9223372036854775807:=by
   obtain⟨_,_,_,g1,g2,_⟩:=(QaV hx).open;rw[List.length_replicate]at g1;unfold maxLen at g2;omega
  have r:=Xh (Chg.of (X:=fun b=>(Value.slice M ps.length N).ownBlock=some b\/(Value.slice E n C).ownBlock=some b) L);have V:=Ql F L;have hrl:=F.lt;have HBq:=Xh L;clear hm hx htt hT L hsz;subst O;have HA:=Xh o;have HX:=Xh U;have HR:=Xh q;have HO:=Xh hxq;have s:=Xh V;have q1:(((w.alloc (.cells #[.slice M ps.length N] 78)).alloc (.cells #[.string ty,.slice E n C] 106)).alloc (.cells #[.slice none 0 0] 78)).cell? ⟨w.heap.size+1,1,none⟩=some (.slice E n C):=U.cell 1;clear o U q hxq F V;go_enter func115,ntmps115;go_wp2_with (go_fit (S.out _ HBq.out);rintro e w6⟨⟨v6,rfl,m⟩,P⟩;obtain⟨p6,k6,rfl⟩:=Ze m)
  rw[hsq]at m;have HA6:=Xh (HA.out.step P);have HX6:=Xh (HX.out.step P);have HR6:=Xh (HR.out.step P);have HO6:=Xh (Ql HO.out P);have HB6:=Xh (r.out.on P);have HV6:=Xh m;have HW6:=Xh (Ql s.out P);clear HA HX HR HO P m q1 r S s;go_loopw [21] (fun x wr=>∃(k:Nat) (J:List Val),k<=T.length/\Hid (J.length=n)/\Hid (J.take k=(T.take k).map QG)/\Hid (Blk wr w.heap.size 78 [.slice M ps.length N])/\Hid (Blk wr (w.heap.size+1) 106 [.string ty,.slice E n C])/\Hid (Blk wr (w.heap.size+1+1) 78 [.slice none 0 0])/\Hid (wr.ownsRow base 43 2 (.slice E n C) n (J.flatMap Zt))/\Hid (wr.ownsRow (w.heap.size+3) 9 1 (.slice p6 T.length k6) T.length (T.map Value.string))/\Hid (wr.ownsRow base 106 2 (.slice M ps.length N) ps.length (ps.flatMap Q7))/\Hid (Chg (fun b=>(Value.slice M ps.length N).ownBlock=some b\/(Value.slice E n C).ownBlock=some b) w wr)/\x=.int .i64 k) (fun x _=>T.length-(intOf x).toNat)
  case atStart=>exact⟨0,List.replicate n qah,by omega,by unfold Hid;simp,by unfold Hid;simp,HA6,HX6,HR6,by have:=HO6.out;unfold Hid;simpa using this,HV6,HW6,HB6,rfl⟩
  case round =>
   clear HA6 HX6 HR6 HO6 HB6 HV6 HW6;obtain⟨k,J,hk,R,hzt,o,U,q,j,kT,kW,kB,rfl⟩:=hrel;by_cases hkl:k<T.length
   ·obtain⟨t,ht⟩:∃a,T[k]? = some a:=⟨T[k],by simp[hkl]⟩;have hkn:k<n:=(by omega);obtain⟨g6,c6,he6,_⟩:=World.ownsRow.form kT.out (by omega);simp only[Value.slice.injEq,true_and]at he6;obtain⟨rfl,rfl⟩:=he6;obtain⟨A,cx,hex,_⟩:=World.ownsRow.form j.out (by omega);simp only[Value.slice.injEq,true_and]at hex;obtain⟨rfl,rfl⟩:=hex;have hXg:=hXl.out A rfl;have hXa:=hap A rfl;have t0:wr.cell? ⟨g6,k,none⟩=some (.string t):=by
     rw[kT.out.cellAt k (by omega),List.getElem?_map,ht];rfl
    have x1:wr.cell? ⟨w.heap.size+1,1,none⟩=some (.slice (some ⟨A,0,none⟩) n C):=U.out.cell 1;have hzk:k*2+1<J.length*2:=(by rw[R.out];omega);have hfl:(J.flatMap Zt).length=J.length*2:=QS ZaJ J;obtain⟨u0,hu0⟩:∃u,(J.flatMap Zt)[k*2]? = some u:=⟨_,Xn (by omega)⟩;obtain⟨u1,hu1⟩:∃u,(J.flatMap Zt)[k*2+1]? = some u:=⟨_,Xn (by omega)⟩;have y0:wr.cell? ⟨A,k*2,none⟩=some u0:=(by rw[j.out.cellAt (k*2) (by omega),hu0]);have y1:wr.cell? ⟨A,k*2+1,none⟩=some u1:=(by rw[j.out.cellAt (k*2+1) (by omega),hu1]);have y:=Xh (qeP (by rw[R.out,hTn]) hzt.out ht);obtain⟨H,hzv⟩:∃z,QG t=z:=⟨_,rfl⟩;have HZ:Hid (∀wx,Below wr.heap.size wr wx->Calls prog 147 #[.string t] wx fun e w'=>e=.returned (.agg #[.int .i64 H.kind,.int .i64 H.n])/\Below wr.heap.size wr w'/\w'.cell? ⟨w.heap.size+1,1,none⟩=some (.slice (some ⟨A,0,none⟩) n C)/\w'.cell? ⟨A,k*2,none⟩=some u0/\w'.cell? ⟨A,k*2+1,none⟩=some u1/\w'.frozen? ⟨A,k*2,none⟩=false/\w'.frozen? ⟨A,k*2+1,none⟩=false):=fun wx hb =>
     (zeO t wx).mono fun e w' ⟨d,h2⟩=>by
      have h3:=Qa hb Xl h2;have h4:=Ql j.out h3;exact⟨by rw[d,hzv];rfl,h3,(h3.cell (p:=⟨w.heap.size+1,1,none⟩) (ZaS x1)).trans x1,(h3.cell (p:=⟨A,k*2,none⟩) (ZaS y0)).trans y0,(h3.cell (p:=⟨A,k*2+1,none⟩) (ZaS y1)).trans y1,h4.frozenAt _,h4.frozenAt _⟩
    rw[hzv]at y;have hn1:¬A=w.heap.size+1:=(by omega);have hn2:¬w.heap.size+1=A:=(by omega);have hi1:(0:Int)<=(k:Int):=(by omega);have hi2:(k:Int)<(n:Int):=(by omega);have c:=(Below.refl wr.heap.size wr).drew;clear hu0 hu1 y0 y1 hzv hzt;go_wp2_with fail;go_region_held3 (fun w'=>w'.cell? ⟨w.heap.size+1,1,none⟩=some (.slice (some ⟨A,0,none⟩) n C)) (go_keep)
     (first|(go_at_call 147;refine(HZ.out _ ?_).mono ?_;(simp[*]);rintro e w7⟨rfl,I,z0,z1,z2,z3,z4⟩))
    all_goals
     have hk7:=Xh ((((o.out.step I).other' (a:=⟨A,k*2,none⟩) (by show A≠_;omega) (.int .i64 H.kind)).other' (a:=⟨A,k*2+1,none⟩) (by show A≠_;omega) (.int .i64 H.n)));have hx7:=Xh ((((U.out.step I).other' (a:=⟨A,k*2,none⟩) (by show A≠_;omega) (.int .i64 H.kind)).other' (a:=⟨A,k*2+1,none⟩) (by show A≠_;omega) (.int .i64 H.n)));have hr7:=Xh ((((q.out.step I).other' (a:=⟨A,k*2,none⟩) (by show A≠_;omega) (.int .i64 H.kind)).other' (a:=⟨A,k*2+1,none⟩) (by show A≠_;omega) (.int .i64 H.n)));have ho7:=Xh (Zbr (Ql j.out I) (show k<J.length by rw[R.out];omega) H);have ht7:=Xh (ZD (ZD (Ql kT.out I) (show A<w.heap.size+3 by omega) (k*2) (.int .i64 H.kind)) (show A<w.heap.size+3 by omega) (k*2+1) (.int .i64 H.n));have hb7:=Xh (((kB.out.on I).set (p:=⟨A,k*2,none⟩) (fun _=>Or.inr rfl) (.int .i64 H.kind)).set (p:=⟨A,k*2+1,none⟩) (fun _=>Or.inr rfl) (.int .i64 H.n));have hw7:=Xh (qaj (qaj (Ql kW.out I) hXa (k*2) (.int .i64 H.kind)) hXa (k*2+1) (.int .i64 H.n));have hl7:Hid ((J.set k H).length=n):=(by unfold Hid;rw[List.length_set];exact R.out);clear o U q j kT kW kB I z0 z1 z2 z3 z4 t0 x1 HZ;go_wp2_with fail;go_roundw;case rel=>exact⟨k+1,J.set k H,by omega,hl7,y,hk7,hx7,hr7,ho7,ht7,hw7,hb7,by simp⟩
     case measure=>simp[intOf];omega
   ·obtain rfl:k=T.length:=(by omega);have hzs:J=T.map QG:=by
     have d:=hzt.out;rwa [List.take_length,List.take_of_length_le (by rw[R.out,hTn];exact Xl)]at d
    have a0:wr.cell? ⟨w.heap.size,0,none⟩=some (.slice M ps.length N):=o.out.cell 0;have a1:wr.cell? ⟨w.heap.size+1,0,none⟩=some (.string ty):=U.out.cell 0;have a2:wr.cell? ⟨w.heap.size+1,1,none⟩=some (.slice E n C):=U.out.cell 1;have c:=(Below.refl wr.heap.size wr).drew;have G:=c.alloc c.size (.cells #[.string ty,.slice E n C] 106);have Y:=Ql kW.out G;have hb63:ps.length+1<=maxLen:=(by unfold maxLen;omega);have hb40:(ps.length+1)*40<=140737488355328:=(by omega);have f:base<=(wr.drew.alloc (.cells #[.string ty,.slice E n C] 106)).heap.size:=Xf hbase (Xf kB.out.size G.size);have hsw:=HBq.out.size;have i:∀b,w.heap.size<=b->(Value.slice M ps.length N).ownBlock≠some b:=fun b hb e=>by have:=(hrl _ e).2;omega
    have kA7:=o.out.step G;have kX7:=U.out.step G;have kR7:=q.out.step G;have hm1:¬w.heap.size=w.heap.size+1+1:=(by omega);have hm2:¬w.heap.size+1+1=w.heap.size:=(by omega);have hN0:=i _ Xl;have hN1:=i (w.heap.size+1) (by omega);have hN2:=i (w.heap.size+1+1) (by omega);go_wp2_with fail;go_region_held3 (fun w'=>w'.cell? ⟨w.heap.size,0,none⟩=some (.slice M ps.length N)/\w'.cell? ⟨w.heap.size+1,0,none⟩=some (.string ty)/\w'.cell? ⟨w.heap.size+1,1,none⟩=some (.slice E n C)) (go_keep)
     (first|(refine step_append_lies _ (by rfl) _ _ 76 (by rfl) base 106 i0 (.agg #[.string .empty,.slice none 0 0]) 2 40 underlying76 hi hz0 hz1 hz2 rfl (by decide) _ ps.length _ (by rfl) Y ⟨wr.heap.size,0,none⟩ 1 1 [.string ty,.slice E n C] (by rfl) rfl (qbU wr.drew _ _ 106) (Ze9 _ _ _ _) (by decide) hb63 hb40 f (wr.heap.size+1) (by simp) ?_;intro g cap w8 Z D hat hlt;(have kA8:=kA7.grown D hN0);(have kX8:=kX7.grown D hN1);(have kR8:=kR7.grown D hN2);(have e0:w8.cell? ⟨w.heap.size,0,none⟩=some (.slice M ps.length N):=kA8.cell 0);(have e1:w8.cell? ⟨w.heap.size+1,0,none⟩=some (.string ty):=kX8.cell 0);(have e2:w8.cell? ⟨w.heap.size+1,1,none⟩=some (.slice E n C):=kX8.cell 1);(have e3:w8.cell? ⟨w.heap.size+1+1,0,none⟩=some (.slice none 0 0):=kR8.cell 0);(have e4:=kR8.frozen 0)))
    all_goals
     have hkO:wr.ownsRow base 43 2 (.slice E n C) J.length (J.flatMap Zt):=(by rw[R.out];exact j.out);have hlw:=q.out.lt;have hgn:g≠w.heap.size+1+1:=by
      intro he;rcases hat with d|d
      ·exact hN2 (by rw[d,he])
      ·omega
     have hO8:wr.ownsRow base 43 2 (.slice E n C) n ((T.map QG).flatMap Zt):=(by rw[<-hzs];exact j.out);have hx8:w8.ownsRow base 43 2 (.slice E n C) n ((T.map QG).flatMap Zt):=(Ql hO8 G).kept D (by
      cases hq:(Value.slice E n C).ownBlock with
      |none=>exact Or.inl rfl
      |some b=>exact Or.inr (fun e=>hap b hq e.symm))
     have hxn:(Value.slice E n C).ownBlock≠some (w.heap.size+1+1):=fun e=>by have:=(hXl.out _ e).2;omega
     have hEx:=Xh (qaj hx8 hxn 0 (.slice (some ⟨g,0,none⟩) (ps.length+1) cap));have hEh:=Xh (qaj Z (b:=w.heap.size+1+1) (fun e=>hgn (by injection e)) 0 (.slice (some ⟨g,0,none⟩) (ps.length+1) cap));have hEc:=Xh (((kB.out.on G).grown D (fun k e _=>Or.inl e)).set (p:=⟨w.heap.size+1+1,0,none⟩) (fun hlt=>absurd hlt (by show ¬w.heap.size+1+1<w.heap.size;omega)) (.slice (some ⟨g,0,none⟩) (ps.length+1) cap));have hEn:Hid ((Value.slice (some ⟨g,0,none⟩) (ps.length+1) cap).ownBlock=(Value.slice M ps.length N).ownBlock\/∀b,(Value.slice (some ⟨g,0,none⟩) (ps.length+1) cap).ownBlock=some b->w.heap.size<=b):=by
      rcases hat with d|d
      ·exact Or.inl d.symm
      ·refine Or.inr fun b hb=>?_
       have hb:g=b:=(by injection hb);have:=kB.out.size;omega
     have hw50:IntKind.i64.wrap ((ps.length:Int)+1)=(ps.length:Int)+1:=IntWalk.i64_in _ (by omega);clear hkO hO8 hx8 hxn hgn Z D hat hlt kA8 kX8 kR8 kA7 kX7 kR7 Y G c hN0 hN1 hN2 i hrl j kT o U q kW kB;go_wp2_with fail;exact bodyPost_ret (v:=.tuple #[.agg #[.slice (some ⟨g,0,none⟩) (ps.length+1) cap],.int .i64 ((ps.length:Int)+1),.nilIface]) (by simp[results,results115,go_sem, *]) rfl (Or.inr ⟨by omega,_,rfl,hEc,hEh,hEx,hEn⟩)
