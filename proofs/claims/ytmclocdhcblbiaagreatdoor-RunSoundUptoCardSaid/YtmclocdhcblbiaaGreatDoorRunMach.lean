/- Lemmas; conditions: as each states. -/
import Derived.Test.YtmclocdhcblbiaaGreatDoorRunPlainW
set_option maxHeartbeats 4000000
namespace Go.Proofs.YtmclocdhcblbiaaGreatDoor
open Go.RowKit Go.Shelf Go.Lib
def XS(kb:Nat)(hv cv:Value)(ps:List (Zc×Value))(qs:List Zs)(b:Nat):Prop:=∃r,QV kb hv cv ps qs r=some b
structure MW (w0 wr:World) (X:Nat->Prop) (w:World) (kb B:Nat) (hv cv:Value) (ps:List (Zc×Value)) (qs:List Zs) (tv:Val) (th:Str) (st:Int) (ov:Bool):Prop where
 at':Zk w0 w kb B hv cv ps qs tv th st ov
 chg:Chg X wr w
 parts:∀r b,QV kb hv cv ps qs r=some b->X b\/wr.heap.size<=b
def Zaz(w0 w:World)(X:Nat->Prop)(kb B:Nat)(h:List Zc)(cs:List Cal)(tv:Val)(th:Str)(st:Int)(ov:Bool)(w':World):Prop :=
 ∃hv cv ps qs,MW w0 w X w' kb B hv cv ps qs tv th st ov/\ps.map (·.1)=h/\qs.map (·.c)=cs
def zar(n:Int):PanicEntry:={ v:=.iface 108 (.agg #[.int .i64 n]),recovered:=false }
section
variable {w0 wr w w':World} {X:Nat->Prop} {kb B:Nat} {hv cv:Value} {ps:List (Zc×Value)} {qs:List Zs} {q:Zs} {tv:Val} {th:Str} {st:Int} {ov:Bool}
theorem Zk.far(h:Zk w0 w kb B hv cv ps qs tv th st ov){Y:Nat->Prop}(C:Chg Y w w')(D:∀b,Y b->w0.heap.size<=b)(E:∀r b,QV kb hv cv ps qs r=some b->¬Y b):Zk w0 w' kb B hv cv ps qs tv th st ov:=by
 obtain⟨F,G,H,I,J,L⟩:=h.keep C D (fun _=>False) (fun r b M N=>E r b M N);refine⟨F,G id,h.low,H id,fun p O=>?_,J id,fun q P=>?_,h.meth,h.sep⟩
 ·obtain⟨i,A⟩:=List.mem_iff_getElem?.1 O;exact I i p A id
 ·obtain⟨i,A⟩:=List.mem_iff_getElem?.1 P;exact L i q A id id id
theorem Zk.start(h:Zk w0 w kb B hv cv ps qs tv th st ov):MW w0 w (XS kb hv cv ps qs) w kb B hv cv ps qs tv th st ov:=⟨h,Chg.refl _ _,fun r _ A=>Or.inl ⟨r,A⟩⟩
theorem Zk.boxed(h:Zk w0 w kb B hv cv ps qs tv th st ov)(o:Obj):MW w0 (w.alloc o) (XS kb hv cv ps qs) (w.alloc o) kb B hv cv ps qs tv th st ov:=⟨h.step (Xb.alloc Xl o),Chg.refl _ _,fun r _ A=>Or.inl ⟨r,A⟩⟩
theorem Zk.fresh(h:Zk w0 w kb B hv cv ps qs tv th st ov){b:Nat}(C:w.heap.size<=b):¬XS kb hv cv ps qs b:=fun⟨r,A⟩=>by have:=(h.lt r b A).2;omega
theorem MW.step(T:MW w0 wr X w kb B hv cv ps qs tv th st ov)(A:Below w.heap.size w w'):MW w0 wr X w' kb B hv cv ps qs tv th st ov:=⟨T.at'.step A,T.chg.on A,T.parts⟩
theorem MW.drew(T:MW w0 wr X w kb B hv cv ps qs tv th st ov):MW w0 wr X w.drew kb B hv cv ps qs tv th st ov:=T.step Xb.drew
theorem MW.alloc(T:MW w0 wr X w kb B hv cv ps qs tv th st ov)(o:Obj):MW w0 wr X (w.alloc o) kb B hv cv ps qs tv th st ov:=T.step (Xb.alloc Xl o)
theorem MW.blk(T:MW w0 wr X w kb B hv cv ps qs tv th st ov){b:Nat}{t:TypeId}{A:List Value}(h:Blk wr b t A)(C:¬X b):Blk w b t A:=h.chg T.chg C
theorem MW.over(T:MW w0 wr X w kb B hv cv ps qs tv th st ov)(A:Chg (XS kb hv cv ps qs) w w'):Chg X wr w':=T.chg.trans A fun i D ⟨r,C⟩=>by
 rcases T.parts r i C with h|h
 ·exact h
 ·omega
theorem MW.after(T:MW w0 wr X w kb B hv cv ps qs tv th st ov){G:World}{Y:Nat->Prop}{A C:Value}{D:List (Zc×Value)}{E:List Zs}{tv':Val}{th':Str}{st':Int}{ov':Bool}(I:Below w.heap.size w G)(J:∀i,i<w.heap.size->Y i->XS kb hv cv ps qs i)(U:MW w0 G Y w' kb B A C D E tv' th' st' ov')(H:∀i,Y i->i<w.heap.size\/G.heap.size<=i\/wr.heap.size<=i):MW w0 wr X w' kb B A C D E tv' th' st' ov':=by
 refine⟨U.at',T.over ((Chg.of I).trans U.chg fun i M N=>J i M N),fun r b O=>?_⟩;have P:=I.size;have R:=T.chg.size;rcases U.parts r b O with h|h
 ·rcases H b h with F|F|F
  ·obtain⟨s,L⟩:=J b F h;exact T.parts s b L
  ·exact Or.inr (by omega)
  ·exact Or.inr F
 ·exact Or.inr (by omega)
theorem MW.then(T:MW w0 wr X w kb B hv cv ps qs tv th st ov){A C:Value}{D:List (Zc×Value)}{E:List Zs}{tv':Val}{th':Str}{st':Int}{ov':Bool}(U:MW w0 w (XS kb hv cv ps qs) w' kb B A C D E tv' th' st' ov'):MW w0 wr X w' kb B A C D E tv' th' st' ov' :=
 T.after Xb (fun _ _ h=>h) U fun _ ⟨r,F⟩=>Or.inl (T.at'.lt r _ F).2
theorem MW.unbox(T:MW w0 wr X w kb B hv cv ps qs tv th st ov){F:World}{A C:Value}{D:List (Zc×Value)}{E:List Zs}{tv':Val}{th':Str}{st':Int}{ov':Bool}(G:Below w.heap.size w F)(U:MW w0 F (XS kb hv cv ps qs) w' kb B A C D E tv' th' st' ov'):MW w0 wr X w' kb B A C D E tv' th' st' ov' :=
 T.after G (fun _ _ h=>h) U fun _ ⟨r,H⟩=>Or.inl (T.at'.lt r _ H).2
theorem MW.boxes(T:MW w0 wr X w kb B hv cv ps qs tv th st ov){G:World}{t:TypeId}{F:List Value}(I:w.alloc (.cells F.toArray t)=G):∃H:Nat->Prop,MW w0 G H G kb B hv cv ps qs tv th st ov /\
 Hid (∀w' A C D E tv' th' st' ov',MW w0 G H w' kb B A C D E tv' th' st' ov'->MW w0 wr X w' kb B A C D E tv' th' st' ov') /\
 Hid (∀w' A C D E tv' th' st' ov',MW w0 G H w' kb B A C D E tv' th' st' ov'->Blk w' w.heap.size t F)/\Hid (∀b,H b->b<w.heap.size)/\Hid (G.heap.size=w.heap.size+1)/\Hid (∀w',Chg H G w'->Chg X wr w'):=by
 subst I;exact⟨XS kb hv cv ps qs,T.at'.boxed _,fun w' A C D E tv' th' st' ov' U=>T.unbox (Xb.alloc Xl _) U,fun w' A C D E tv' th' st' ov' U=>U.blk (Blk.new w t F) (T.at'.fresh Xl),fun b ⟨r,J⟩=>(T.at'.lt r b J).2,by simp[Hid],fun w' L=>T.over ((Chg.of (Xb.alloc Xl _)).trans L fun i _ M=>M)⟩
theorem Qao.xs{b:Nat}(A:Qao q.cb q.lv q.sv b):XS kb hv cv ps (qs++[q]) b:=by
 rcases A with rfl|e|e
 ·exact⟨.call qs.length,by show((qs++[q])[qs.length]?).map _=_;rw[Qab];rfl⟩
 ·exact⟨.loc qs.length,by show((qs++[q])[qs.length]?).bind _=_;rw[Qab];exact e⟩
 ·exact⟨.stk qs.length,by show((qs++[q])[qs.length]?).bind _=_;rw[Qab];exact e⟩
theorem MW.cal(T:MW w0 wr X w kb B hv cv ps (qs++[q]) tv th st ov){c':Cal}(L:c'.m=q.c.m)(M:qZ w0.heap.size w q.cb q.cv q.hv q.lv q.sv c' w'):
 Chg (Qao q.cb q.lv q.sv) w w'/\∃C,MW w0 wr X w' kb B hv cv ps (qs++[⟨q.cb,q.cv,q.hv,q.lv,C,c'⟩]) tv th st ov:=by
 obtain⟨I,C,N,E⟩:=M;refine⟨I,C,T.at'.turn L I N E,T.over (I.mono fun _ _ O=>Qao.xs O),fun r b A=>?_⟩;cases r with
 |m=>exact T.parts .m b A
 |hs=>exact T.parts .hs b A
 |cs=>exact T.parts .cs b A
 |has i=>exact T.parts (.has i) b A
 |call i =>
  change ((qs++[_])[i]?).map _=some b at A;cases D:(qs++[(⟨q.cb,q.cv,q.hv,q.lv,C,c'⟩:Zs)])[i]? with
  |none=>rw[D]at A;cases A
  |some x =>
   rw[D]at A;rcases qaz D with⟨e,F⟩|⟨G,H⟩
   ·refine T.parts (.call i) b ?_;show((qs++[q])[i]?).map _=_
    rw[List.getElem?_append_left F,e];exact A
   ·subst G H;refine T.parts (.call qs.length) b ?_;show((qs++[q])[qs.length]?).map _=_
    rw[Qab];exact A
 |loc i =>
  change ((qs++[_])[i]?).bind _=some b at A;cases D:(qs++[(⟨q.cb,q.cv,q.hv,q.lv,C,c'⟩:Zs)])[i]? with
  |none=>rw[D]at A;cases A
  |some x =>
   rw[D]at A;rcases qaz D with⟨e,F⟩|⟨G,H⟩
   ·refine T.parts (.loc i) b ?_;show((qs++[q])[i]?).bind _=_
    rw[List.getElem?_append_left F,e];exact A
   ·subst G H;refine T.parts (.loc qs.length) b ?_;show((qs++[q])[qs.length]?).bind _=_
    rw[Qab];exact A
 |stk i =>
  change ((qs++[_])[i]?).bind _=some b at A;cases D:(qs++[(⟨q.cb,q.cv,q.hv,q.lv,C,c'⟩:Zs)])[i]? with
  |none=>rw[D]at A;cases A
  |some x =>
   rw[D]at A;rcases qaz D with⟨e,F⟩|⟨G,H⟩
   ·refine T.parts (.stk i) b ?_;show((qs++[q])[i]?).bind _=_
    rw[List.getElem?_append_left F,e];exact A
   ·subst G H;have A:C.ownBlock=some b:=A;rcases E with E|E
    ·refine T.parts (.stk qs.length) b ?_;show((qs++[q])[qs.length]?).bind _=_
     rw[Qab,<-A,E,Option.bind_some]
    ·exact Or.inr (Xf T.chg.size (E b A))
theorem MW.pop(T:MW w0 wr X w kb B hv cv ps (qs++[q]) tv th st ov){S:List Val}{v:Val}(D:q.c.S=S++[v]):Calls Tryz.prog 86 #[.pointer (some ⟨q.cb,0,none⟩)] w fun e C=>e=.returned (.agg #[.int .i64 v.kind,.int .i64 v.n])/\Chg (Qao q.cb q.lv q.sv) w C/\∃A,MW w0 wr X C kb B hv cv ps (qs++[⟨q.cb,q.cv,q.hv,q.lv,A,{ q.c with S:=S }⟩]) tv th st ov :=
 (Zdw _ w q.cb q.cv q.hv q.lv q.sv q.c T.at'.top S v D).mono fun _ _ ⟨E,F,A,G,H⟩=>⟨E,T.cal rfl ⟨F,A,G,Or.inl H⟩⟩
theorem MW.put(T:MW w0 wr X w kb B hv cv ps (qs++[q]) tv th st ov)(D:q.c.S.length<=4194304)(v:Val):Calls Tryz.prog 120 #[.pointer (some ⟨q.cb,0,none⟩),.agg #[.int .i64 v.kind,.int .i64 v.n]] w fun e C=>e=.returned (.tuple #[])/\Chg (Qao q.cb q.lv q.sv) w C/\∃A,MW w0 wr X C kb B hv cv ps (qs++[⟨q.cb,q.cv,q.hv,q.lv,A,{ q.c with S:=q.c.S++[v] }⟩]) tv th st ov :=
 (qdw _ w q.cb q.cv q.hv q.lv q.sv q.c T.at'.top D v).mono fun _ _ ⟨E,F⟩=>⟨E,T.cal rfl F⟩
theorem Zk.cells(h:Zk w0 w kb B hv cv ps qs tv th st ov):w.cell? ⟨kb,0,none⟩=some (.map (some B))/\w.cell? ⟨kb,1,none⟩=some hv/\w.cell? ⟨kb,2,none⟩=some cv/\kb<w.heap.size:=⟨h.blk.cell 0,h.blk.cell 1,h.blk.cell 2,h.blk.lt⟩
end
set_option maxRecDepth 100000
theorem ZcC(w0 w:World)(kb B:Nat)(hv cv:Value)(ps:List (Zc×Value))(qs:List Zs)(tv:Val)(th:Str)(st:Int)(ov:Bool)(h:Zk w0 w kb B hv cv ps qs tv th st ov)(k:Int)(i:Nat)(C:i<ps.length)(F:ps.length<=50):
 ∃g cap,hv=.slice (some ⟨g,0,none⟩) ps.length cap/\Calls Tryz.prog 118 #[.pointer (some ⟨kb,0,none⟩),.agg #[.int .i64 k,.int .i64 ((i:Int)+1)]] w fun e w'=>e=.returned (.pointer (some ⟨g,i*2,none⟩))/\Below w.heap.size w w':=by
 obtain⟨p,E⟩:∃p,ps[i]? = some p:=⟨_,Xn C⟩;obtain⟨U,N,rfl⟩:=Qd h.things;obtain⟨g,rfl,_,V,O⟩:=Qbd zaP h.things rfl E;refine⟨g,N,rfl,?_⟩;have D:=h.step ((Below.refl w.heap.size w).alloc Xl (.cells #[.int .i64 k,.int .i64 ((i:Int)+1)] 43));obtain⟨P,X,R,S⟩:=D.cells;have A:=Blk.new w 43 [.int .i64 k,.int .i64 ((i:Int)+1)];have T:(w.alloc (.cells #[.int .i64 k,.int .i64 ((i:Int)+1)] 43)).cell? ⟨w.heap.size,1,none⟩=some (.int .i64 ((i:Int)+1)):=A.cell 1;have G:Hid (∀wx,_):=fun wx=>Q8 wx
 have H:=Xh ((Below.refl w.heap.size w).alloc Xl (.cells #[.int .i64 k,.int .i64 ((i:Int)+1)] 43));have I:decide ((0:Int)<(i:Int)+1)=true:=Xj (by omega);have J:(0:Int)<=(i:Int):=by omega
 have L:(i:Int)<(ps.length:Int):=by omega
 have M:IntKind.i64.wrap (i:Int)=(i:Int):=IntWalk.i64_in _ (by omega);clear h D E O A C P R;go_enter Tryz.func118,Tryz.ntmps118;go_upto_region 1 with fail;generalize (w.alloc (.cells #[.int .i64 k,.int .i64 ((i:Int)+1)] 43))=Z at *;go_upto_region 2 with(go_fit (G.out _);rintro e Y⟨rfl,rfl⟩)
 go_quiet (fail);go_wp2_with fail;go_ret;exact⟨rfl,below_drewN H.out _⟩
theorem Zew(w:World)(kb:Nat)(k n:Int)(B:n<=0):Calls Tryz.prog 118 #[.pointer (some ⟨kb,0,none⟩),.agg #[.int .i64 k,.int .i64 n]] w fun e w'=>e=.panicked [Qad]/\Below w.heap.size w w':=by
 have A:=Blk.new w 43 [.int .i64 k,.int .i64 n];have F:(w.alloc (.cells #[.int .i64 k,.int .i64 n] 43)).cell? ⟨w.heap.size,1,none⟩=some (.int .i64 n):=A.cell 1;have C:Hid (∀wx,_):=fun wx=>qV wx
 have D:=Xh ((Below.refl w.heap.size w).alloc Xl (.cells #[.int .i64 k,.int .i64 n] 43));have E:decide ((0:Int)<n)=false:=by simp;omega
 clear A B;go_enter Tryz.func118,Tryz.ntmps118;go_wp2_with (go_fit (C.out _);rintro e G⟨rfl,rfl⟩)
 exact⟨rfl,rfl,D⟩
set_option maxRecDepth 512
def zb7(w0 w:World)(kb B:Nat)(hv cv:Value)(ps:List (Zc×Value))(qs:List Zs)(tv:Val)(th:Str)(st:Int)(ov:Bool)(x:Zc)(xv:Value)(e:Ending)(w':World):Prop :=
 (50<=ps.length/\e=.panicked [zar 4]/\Below w.heap.size w w') \/
 (ps.length<50/\e=.returned (.agg #[.int .i64 3,.int .i64 ((ps.length:Int)+1)])/\Chg (fun b=>b=kb\/hv.ownBlock=some b\/xv.ownBlock=some b) w w'/\∃hv',Zk w0 w' kb B hv' cv (ps++[(x,xv)]) qs tv th st ov/\(hv'.ownBlock=hv.ownBlock\/∀b,hv'.ownBlock=some b->w.heap.size<=b))
theorem qcX{w0 w R J:World}{kb B:Nat}{cv:Value}{ps:List (Zc×Value)}{qs:List Zs}{tv:Val}{th:Str}{st:Int}{ov:Bool}{H C D:Option Addr}{I n E F G:Nat}{xs:List Value}{ty:Str}{T:List Str}(M:Zk w0 w kb B (.slice H ps.length I) cv ps qs tv th st ov)(S:w.ownsRow w0.heap.size 43 2 (.slice C n E) (List.replicate n Qaf).length xs)(O:∀r b,QV kb (.slice H ps.length I) cv ps qs r=some b->(Value.slice C n E).ownBlock≠some b)(Y:Below w.heap.size w R)(d:R.heap.size=w.heap.size+1+1)(U:ps.length<50)(f:Chg (fun b=>(Value.slice H ps.length I).ownBlock=some b\/(Value.slice C n E).ownBlock=some b) R J)(g:Blk J kb 82 [.map (some B),.slice H ps.length I,cv,.int .i64 tv.kind,.int .i64 tv.n,.string th,.int .i64 st,.bool ov])(Z:J.ownsRow w0.heap.size 106 2 (.slice D F G) (ps.length+1) (ps.flatMap Q5++[.string ty,.slice C n E]))(i:J.ownsRow w0.heap.size 43 2 (.slice C n E) n ((T.map QF).flatMap qt))(V:(Value.slice D F G).ownBlock=(Value.slice H ps.length I).ownBlock\/∀b,(Value.slice D F G).ownBlock=some b->R.heap.size<=b)(j:T.length=n):
 zb7 w0 w kb B (.slice H ps.length I) cv ps qs tv th st ov ⟨ty,T.map QF⟩ (.slice C n E) (.returned (.agg #[.int .i64 3,.int .i64 ((ps.length:Int)+1)])) (((J.setCell ⟨kb,1,none⟩ (.slice D F G)).setCell ⟨w.heap.size+1,0,none⟩ (.int .i64 3)).setCell ⟨w.heap.size+1,1,none⟩ (.int .i64 ((ps.length:Int)+1))):=by
 have k:=M.blk.lt;have a:=Y.size;have L:∀b,kb=b\/b=w.heap.size+1->(Value.slice D F G).ownBlock≠some b:=fun b A e=>by
  rcases V with h|h
  ·rw[e]at h;rcases A with A|A
   ·subst A;have:=M.sep .m .hs kb rfl h.symm;cases this
   ·have:=(M.things.lt _ h.symm).2;omega
  ·have o:=h b e;have:=Z.lt _ e;rcases A with A|A
   ·omega
   ·omega
 have N:∀b,kb=b\/b=w.heap.size+1->(Value.slice C n E).ownBlock≠some b:=fun b A e=>by
  rcases A with A|A
  ·subst A;exact O .m kb rfl e
  ·have:=(S.lt _ e).2;omega
 have c:Chg (fun b=>b=kb\/(Value.slice H ps.length I).ownBlock=some b\/(Value.slice C n E).ownBlock=some b) w (((J.setCell ⟨kb,1,none⟩ (.slice D F G)).setCell ⟨w.heap.size+1,0,none⟩ (.int .i64 3)).setCell ⟨w.heap.size+1,1,none⟩ (.int .i64 ((ps.length:Int)+1))):=by
  have X:Chg (fun b=>b=kb\/(Value.slice H ps.length I).ownBlock=some b\/(Value.slice C n E).ownBlock=some b) w J:=(Chg.of Y).trans f (fun _ _ h=>Or.inr h);exact((X.set (p:=⟨kb,1,none⟩) (fun _=>Or.inl rfl) _).set (p:=⟨w.heap.size+1,0,none⟩) (fun h=>absurd h (Nat.not_lt_of_le (Nat.le_succ _))) _).set (p:=⟨w.heap.size+1,1,none⟩) (fun h=>absurd h (Nat.not_lt_of_le (Nat.le_succ _))) _
 have P:kb≠w.heap.size+1:=by omega
 refine Or.inr ⟨U,rfl,c,.slice D F G,M.more c O (fun b e=>(S.lt b e).1) (((g.put 1 (.slice D F G)).other P 0 _).other P 1 _) ?_ ?_ ?_,?_⟩
 ·exact zai (zai (zai Z (L kb (Or.inl rfl)) _ _) (L _ (Or.inr rfl)) _ _) (L _ (Or.inr rfl)) _ _
 ·have:=zai (zai (zai i (N kb (Or.inl rfl)) 1 (.slice D F G)) (N _ (Or.inr rfl)) 0 (.int .i64 3)) (N _ (Or.inr rfl)) 1 (.int .i64 ((ps.length:Int)+1));simpa[j] using this
 ·refine V.imp id fun h b e=>⟨Xf a (h b e),fun l=>?_⟩
  have:=h b e;have:=(S.lt b l).2;omega
 ·exact V.imp id fun h b e=>Xf a (h b e)
set_option maxRecDepth 100000
theorem zb6(w00 w0 w:World)(kb B:Nat)(hv cv:Value)(ps:List (Zc×Value))(qs:List Zs)(tv:Val)(th:Str)(st:Int)(ov:Bool)(M:Zk w0 w kb B hv cv ps qs tv th st ov)(l:List qa)(hm:Zi w00 w0 B l)(ty:Str)(tt:Ty)(F:Option Addr)(G n:Nat)(I:w.ownsRow w0.heap.size 43 2 (.slice F n G) (List.replicate n Qaf).length ((List.replicate n Qaf).flatMap qt))(j:∀r b,QV kb hv cv ps qs r=some b->(Value.slice F n G).ownBlock≠some b)(x:zaa (Za l) ⟨ty,List.replicate n Qaf⟩ tt)(hsz:ty.size<=maxLen)(hn10:∀e,tt=.ar e->n<=10)(T:List Str)(hT:zM (Za l) ⟨ty,List.replicate n Qaf⟩=T)(k:T.length=n):
 Calls Tryz.prog 82 #[.pointer (some ⟨kb,0,none⟩),.agg #[.string ty,.slice F n G]] w (zb7 w0 w kb B hv cv ps qs tv th st ov ⟨ty,T.map QF⟩ (.slice F n G)):=by
 obtain⟨A,S⟩:∃A,A=(w.alloc (.cells #[.string ty,.slice F n G] 106)).alloc (.cells #[.int .i64 0,.int .i64 0] 43):=⟨_,rfl⟩;have a:Below w.heap.size w A:=by rw[S];exact(Xb.alloc Xl _).alloc (by simp) _
 have y:A.heap.size=w.heap.size+1+1:=by rw[S];simp
 have z:=M.step a;have c:Blk A w.heap.size 106 [.string ty,.slice F n G]:=by rw[S];exact(Blk.new w _ [.string ty,.slice F n G]).step (Xb.alloc Xl _)
 have aA:Blk A (w.heap.size+1) 43 [.int .i64 0,.int .i64 0]:=by
  rw[S];have:=Blk.new (w.alloc (.cells #[.string ty,.slice F n G] 106)) 43 [.int .i64 0,.int .i64 0];simpa using this
 obtain⟨q0,q1,_,hkb⟩:=z.cells;have x0:=c.cell 0;have x1:=c.cell 1;have d:Hid (∀wx,Below A.heap.size A wx->_):=fun wx Z=>Qex w00 wx B l ((hm.step z.below).step Z) w0.heap.size (Xf z.size Z.size) hv ps (Qm z.things Z) ty tt F G n (Qm (Qm I a) Z) (fun g hg e=>j .hs g e hg) x hsz hn10 T hT k
 unfold Qb7 at d;have HX:=Xh I;have aB:=Xh j;have HM:=Xh M;have o:=Xh z;have HBx:=Xh c;have HBr:=Xh aA;have N:=Xh a;have HS1:=Xh y;have HW1:=Xh S;have HTn:=Xh k;have hk1:¬kb=A.heap.size:=by omega
 have hk2:¬A.heap.size=kb:=by omega
 have hk3:¬w.heap.size=A.heap.size:=by omega
 have hk4:¬A.heap.size=w.heap.size:=by omega
 by_cases h50:50<=ps.length
 ·have HC:Hid (∀wx,Below A.heap.size A wx->Calls Tryz.prog 115 #[.map (some B),.agg #[hv],.agg #[.string ty,.slice F n G]] wx fun e w'=>e=.returned (.tuple #[.agg #[.slice none 0 0],.int .i64 0,.iface 52 (.int .i64 4)])/\Below wx.heap.size wx w'/\Below A.heap.size A w'/\w'.cell? ⟨kb,0,none⟩=some (.map (some B))/\w'.cell? ⟨kb,1,none⟩=some hv/\w'.cell? ⟨w.heap.size,0,none⟩=some (.string ty)/\w'.cell? ⟨w.heap.size,1,none⟩=some (.slice F n G)):=fun wx Z =>
   (d.out wx Z).mono fun e w' hp=>by
    rcases hp with⟨_,h1,h2⟩|⟨h1,_⟩
    ·have q:=Qa Z Xl h2;exact⟨h1,h2,q,(o.out.step q).cells.1,(o.out.step q).cells.2.1,(HBx.out.step q).cell 0,(HBx.out.step q).cell 1⟩
    ·omega
  obtain⟨J,L,rfl⟩:=Qd M.things;have H:=(Below.refl A.heap.size A).drew;clear M z hm I j x hT k c aA a y S d;go_enter Tryz.func82,Tryz.ntmps82;go_upto_region 1 with fail;rw[<-HW1.out];go_region_held3 (fun w'=>w'.cell? ⟨kb,0,none⟩=some (.map (some B))/\w'.cell? ⟨kb,1,none⟩=some (.slice J ps.length L)/\w'.cell? ⟨w.heap.size,0,none⟩=some (.string ty)/\w'.cell? ⟨w.heap.size,1,none⟩=some (.slice F n G)) (go_keep)
   (first
    |(go_fit (HC.out _ ?_);(exact H);rintro e U⟨rfl,_,hB4,z0,z1,z2,z3⟩)
    |(go_fit (HC.out _ ?_);(exact H.alloc H.size _);rintro e U⟨rfl,hBx,hB4,z0,z1,z2,z3⟩;(have s:=(Blk.new A.drew 78 [.slice none 0 0]).step hBx);(have n0:U.cell? ⟨A.heap.size,0,none⟩=some (.slice none 0 0):=s.cell 0);(have n1:U.frozen? ⟨A.heap.size,0,none⟩=false:=s.frozen 0)))
  all_goals
   have hBe:=Xh (Qa N Xl hB4);go_wp2_with fail
  ·exact⟨rfl,Or.inl ⟨h50,rfl,hBe.out.alloc hBe.out.size _⟩⟩
  ·exact⟨rfl,Or.inl ⟨h50,rfl,hBe.out.setCell (p:=⟨A.heap.size,0,none⟩) N.out.size _⟩⟩
 ·have hxf:∀b,w.heap.size<=b->¬(hv.ownBlock=some b\/(Value.slice F n G).ownBlock=some b):=fun b Z I=>by
   rcases I with I|I
   ·have:=(HM.out.things.lt _ I).2;omega
   ·have:=(HX.out.lt _ I).2;omega
  have hkf:¬(hv.ownBlock=some kb\/(Value.slice F n G).ownBlock=some kb):=fun I=>by
   rcases I with I|I
   ·have:=HM.out.sep .m .hs kb rfl I;cases this
   ·exact aB.out .m kb rfl I
  have HXf:=Xh hxf;have HKf:=Xh hkf;have HC:Hid (∀wx,Below A.heap.size A wx->Calls Tryz.prog 115 #[.map (some B),.agg #[hv],.agg #[.string ty,.slice F n G]] wx fun e w'=>∃J vn L,e=.returned (.tuple #[.agg #[.slice J vn L],.int .i64 ((ps.length:Int)+1),.nilIface])/\Chg (fun b=>hv.ownBlock=some b\/(Value.slice F n G).ownBlock=some b) wx w' /\
   w'.ownsRow w0.heap.size 106 2 (.slice J vn L) (ps.length+1) (ps.flatMap Q5++[.string ty,.slice F n G])/\w'.ownsRow w0.heap.size 43 2 (.slice F n G) n ((T.map QF).flatMap qt)/\((Value.slice J vn L).ownBlock=hv.ownBlock\/∀b,(Value.slice J vn L).ownBlock=some b->wx.heap.size<=b) /\
   w'.cell? ⟨kb,0,none⟩=some (.map (some B))/\w'.cell? ⟨kb,1,none⟩=some hv/\w'.cell? ⟨w.heap.size,0,none⟩=some (.string ty)/\w'.cell? ⟨w.heap.size,1,none⟩=some (.slice F n G)):=fun wx Z =>
   (d.out wx Z).mono fun e w' hp=>by
    rcases hp with⟨h1,_⟩|⟨_,v,h1,h2,q,h4,h5⟩
    ·omega
    ·obtain⟨J,L,rfl⟩:=Qd q;have k1:=(o.out.step Z).blk.chg h2 HKf.out;have k2:=(HBx.out.step Z).chg h2 (HXf.out _ Xl);exact⟨J,_,L,h1,h2,q,h4,h5,k1.cell 0,k1.cell 1,k2.cell 0,k2.cell 1⟩
  obtain⟨J,L,rfl⟩:=Qd M.things;have H:=(Below.refl A.heap.size A).drew;clear M z hm I j x hT k c aA a y S d hxf hkf;go_enter Tryz.func82,Tryz.ntmps82;go_upto_region 1 with fail;rw[<-HW1.out];go_region_held3 (fun w'=>w'.cell? ⟨kb,0,none⟩=some (.map (some B))/\w'.cell? ⟨kb,1,none⟩=some (.slice J ps.length L)/\w'.cell? ⟨w.heap.size,0,none⟩=some (.string ty)/\w'.cell? ⟨w.heap.size,1,none⟩=some (.slice F n G)) (go_keep)
   (first
    |(go_fit (HC.out _ ?_);(exact H);rintro e U⟨C,D,E,rfl,V,f,i,Y,z0,z1,z2,z3⟩;(have O:=(Chg.of (X:=fun b=>(Value.slice J ps.length L).ownBlock=some b\/(Value.slice F n G).ownBlock=some b) H).trans V (fun _ _ h=>h)))
    |(go_fit (HC.out _ ?_);(exact H.alloc H.size _);rintro e U⟨C,D,E,rfl,V,f,i,Y,z0,z1,z2,z3⟩;(have O:=(Chg.of (X:=fun b=>(Value.slice J ps.length L).ownBlock=some b\/(Value.slice F n G).ownBlock=some b) (H.alloc H.size (.cells #[.slice none 0 0] 78))).trans V (fun _ _ h=>h));(have s:=(Blk.new A.drew 78 [.slice none 0 0]).chg V (HXf.out _ (by have:=N.out.size;show w.heap.size<=A.heap.size;omega)));(have n0:U.cell? ⟨A.heap.size,0,none⟩=some (.slice none 0 0):=s.cell 0);(have n1:U.frozen? ⟨A.heap.size,0,none⟩=false:=s.frozen 0);(have hlw4:=s.lt)))
  all_goals
   have kk:=o.out.blk.chg O HKf.out;have kr:=HBr.out.chg O (HXf.out _ (Nat.le_succ _))
  ·have hR5:=Xh (f.alloc (.cells #[.slice C D E] 78));have hX5:=Xh (i.alloc (.cells #[.slice C D E] 78));have P:=kk.step (Xb.alloc Xl (.cells #[.slice C D E] 78));have R:=kr.step (Xb.alloc Xl (.cells #[.slice C D E] 78));have hC5:=Xh (O.alloc (.cells #[.slice C D E] 78));have hN5:Hid ((Value.slice C D E).ownBlock=(Value.slice J ps.length L).ownBlock\/∀b,(Value.slice C D E).ownBlock=some b->A.heap.size<=b):=Y;have p0:(U.alloc (.cells #[.slice C D E] 78)).cell? ⟨U.heap.size,0,none⟩=some (.slice C D E):=(Blk.new U 78 [.slice C D E]).cell 0;have hb5:¬U.heap.size=kb:=(by have:=kk.lt;omega);clear f i O V Y kk kr;generalize U.alloc (.cells #[.slice C D E] 78)=wa at *;generalize U.heap.size=Z at *;have k5:=HM.out.blk.lt;have hk5:¬kb=w.heap.size+1:=(by omega);have hk6:¬w.heap.size+1=kb:=(by omega);have f0:=P.frozen 1;have f1:=R.frozen 0;have f2:=R.frozen 1;obtain⟨r0,r1⟩:=R.cells2;have kq1:wa.cell? ⟨kb,1,none⟩=some (.slice J ps.length L):=P.cell 1;go_wp2_with fail;exact bodyPost_ret (v:=.agg #[.int .i64 3,.int .i64 ((ps.length:Int)+1)]) (by simp[results,Tryz.results82,go_sem, *]) rfl (qcX HM.out HX.out aB.out N.out HS1.out (by omega) hC5.out P hR5.out hX5.out hN5.out HTn.out)
  ·have hne:(Value.slice C D E).ownBlock≠some A.heap.size:=fun e=>by
    rcases Y with h|h
    ·rw[e]at h;have:=(HM.out.things.lt _ h.symm).2;have:=N.out.size;omega
    ·have:=h _ e;simp at this;omega
   have t:(Value.slice F n G).ownBlock≠some A.heap.size:=fun e=>by have:=(HX.out.lt _ e).2;have:=N.out.size;omega
   have hR5:=Xh (zai f hne 0 (.slice C D E));have hX5:=Xh (zai i t 0 (.slice C D E));have P:=kk.other hk1 0 (.slice C D E);have R:=kr.other (b':=A.heap.size) (by have:=HS1.out;omega) 0 (.slice C D E);have hC5:=Xh (O.set (p:=⟨A.heap.size,0,none⟩) (fun h=>absurd h (Nat.lt_irrefl _)) (.slice C D E));have hN5:Hid ((Value.slice C D E).ownBlock=(Value.slice J ps.length L).ownBlock\/∀b,(Value.slice C D E).ownBlock=some b->A.heap.size<=b):=Y.imp id fun h b e=>by
    have:=h b e;simp at this;omega
   have p0:(U.setCell ⟨A.heap.size,0,none⟩ (.slice C D E)).cell? ⟨A.heap.size,0,none⟩=some (.slice C D E):=(s.put 0 (.slice C D E)).cell 0;have hb5:¬A.heap.size=kb:=hk2;clear f i O V Y kk kr s n0 n1 hlw4 hne t;generalize U.setCell ⟨A.heap.size,0,none⟩ (.slice C D E)=wa at *;have k5:=HM.out.blk.lt;have hk5:¬kb=w.heap.size+1:=(by omega);have hk6:¬w.heap.size+1=kb:=(by omega);have f0:=P.frozen 1;have f1:=R.frozen 0;have f2:=R.frozen 1;obtain⟨r0,r1⟩:=R.cells2;have kq1:wa.cell? ⟨kb,1,none⟩=some (.slice J ps.length L):=P.cell 1;go_wp2_with fail;exact bodyPost_ret (v:=.agg #[.int .i64 3,.int .i64 ((ps.length:Int)+1)]) (by simp[results,Tryz.results82,go_sem, *]) rfl (qcX HM.out HX.out aB.out N.out HS1.out (by omega) hC5.out P hR5.out hX5.out hN5.out HTn.out)
set_option maxRecDepth 512
end Go.Proofs.YtmclocdhcblbiaaGreatDoor
