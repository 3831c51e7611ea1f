/- Lemmas; conditions: as each states. -/
import Derived.Test.YtmclocdhcblbiaaGreatDoorZRunPlainW
set_option maxHeartbeats 4000000
namespace Go.Proofs.YtmclocdhcblbiaaGreatDoor
open Go.RowKit Go.Shelf Go.Lib Tryz
def XS(kb:Nat)(hv cv:Value)(ps:List (Zc×Value))(qs:List Zs)(b:Nat):Prop:=∃r,qY kb hv cv ps qs r=some b
structure MW (w0 wr:World) (X:Nat->Prop) (w:World) (kb B:Nat) (hv cv:Value) (ps:List (Zc×Value)) (qs:List Zs) (tv:Val) (th:Str) (st:Int) (ov:Bool):Prop where
 at':Qk w0 w kb B hv cv ps qs tv th st ov
 chg:Chg X wr w
 parts:∀r b,qY kb hv cv ps qs r=some b->X b\/wr.heap.size<=b
def QaC(w0 w:World)(X:Nat->Prop)(kb B:Nat)(h:List Zc)(cs:List Cal)(tv:Val)(th:Str)(st:Int)(ov:Bool)(w':World):Prop :=
 ∃hv cv ps qs,MW w0 w X w' kb B hv cv ps qs tv th st ov/\ps.map (·.1)=h/\qs.map (·.c)=cs
def Zat(n:Int):PanicEntry:={ v:=.iface 108 (.agg #[.int .i64 n]),recovered:=false }
section
variable {w0 wr w w':World} {X:Nat->Prop} {kb B:Nat} {hv cv:Value} {ps:List (Zc×Value)} {qs:List Zs} {q:Zs} {tv:Val} {th:Str} {st:Int} {ov:Bool}
theorem Qk.far(h:Qk w0 w kb B hv cv ps qs tv th st ov){Y:Nat->Prop}(C:Chg Y w w')(D:∀b,Y b->w0.heap.size<=b)(E:∀r b,qY kb hv cv ps qs r=some b->¬Y b):Qk w0 w' kb B hv cv ps qs tv th st ov:=by
 obtain⟨F,G,H,I,J,L⟩:=h.keep C D (fun _=>False) (fun r b M N=>E r b M N);refine⟨F,G id,h.low,H id,fun p O=>?_,J id,fun q P=>?_,h.meth,h.sep⟩
 ·obtain⟨i,A⟩:=List.mem_iff_getElem?.1 O;exact I i p A id
 ·obtain⟨i,A⟩:=List.mem_iff_getElem?.1 P;exact L i q A id id id
theorem Qk.start(h:Qk w0 w kb B hv cv ps qs tv th st ov):MW w0 w (XS kb hv cv ps qs) w kb B hv cv ps qs tv th st ov:=⟨h,Chg.refl _ _,fun r _ A=>Or.inl ⟨r,A⟩⟩
theorem Qk.boxed(h:Qk w0 w kb B hv cv ps qs tv th st ov)(o:Obj):MW w0 (w.alloc o) (XS kb hv cv ps qs) (w.alloc o) kb B hv cv ps qs tv th st ov:=⟨h.step (Xb.alloc Xl o),Chg.refl _ _,fun r _ A=>Or.inl ⟨r,A⟩⟩
theorem Qk.fresh(h:Qk w0 w kb B hv cv ps qs tv th st ov){b:Nat}(C:w.heap.size<=b):¬XS kb hv cv ps qs b:=fun⟨r,A⟩=>by have:=(h.lt r b A).2;omega
theorem MW.step(T:MW w0 wr X w kb B hv cv ps qs tv th st ov)(A:Below w.heap.size w w'):MW w0 wr X w' kb B hv cv ps qs tv th st ov:=⟨T.at'.step A,T.chg.on A,T.parts⟩
theorem MW.drew(T:MW w0 wr X w kb B hv cv ps qs tv th st ov):MW w0 wr X w.drew kb B hv cv ps qs tv th st ov:=T.step Xb.drew
theorem MW.alloc(T:MW w0 wr X w kb B hv cv ps qs tv th st ov)(o:Obj):MW w0 wr X (w.alloc o) kb B hv cv ps qs tv th st ov:=T.step (Xb.alloc Xl o)
theorem MW.blk(T:MW w0 wr X w kb B hv cv ps qs tv th st ov){b:Nat}{t:TypeId}{A:List Value}(h:Blk wr b t A)(C:¬X b):Blk w b t A:=h.chg T.chg C
theorem MW.over(T:MW w0 wr X w kb B hv cv ps qs tv th st ov)(A:Chg (XS kb hv cv ps qs) w w'):Chg X wr w':=T.chg.trans A fun i D ⟨r,C⟩=>by
 rcases T.parts r i C with h|h
 ·exact h
 ·omega
theorem MW.after(T:MW w0 wr X w kb B hv cv ps qs tv th st ov){G:World}{Y:Nat->Prop}{A C:Value}{D:List (Zc×Value)}{E:List Zs}{tv':Val}{th':Str}{st':Int}{ov':Bool}(I:Below w.heap.size w G)(J:∀i,i<w.heap.size->Y i->XS kb hv cv ps qs i)(U:MW w0 G Y w' kb B A C D E tv' th' st' ov')(H:∀i,Y i->i<w.heap.size\/G.heap.size<=i\/wr.heap.size<=i):MW w0 wr X w' kb B A C D E tv' th' st' ov':=by
 refine⟨U.at',T.over ((Chg.of I).trans U.chg fun i M N=>J i M N),fun r b O=>?_⟩;have P:=I.size;have R:=T.chg.size;rcases U.parts r b O with h|h
 ·rcases H b h with F|F|F
  ·obtain⟨s,L⟩:=J b F h;exact T.parts s b L
  ·exact Or.inr (by omega)
  ·exact Or.inr F
 ·exact Or.inr (by omega)
theorem MW.then(T:MW w0 wr X w kb B hv cv ps qs tv th st ov){A C:Value}{D:List (Zc×Value)}{E:List Zs}{tv':Val}{th':Str}{st':Int}{ov':Bool}(U:MW w0 w (XS kb hv cv ps qs) w' kb B A C D E tv' th' st' ov'):MW w0 wr X w' kb B A C D E tv' th' st' ov' :=
 T.after Xb (fun _ _ h=>h) U fun _ ⟨r,F⟩=>Or.inl (T.at'.lt r _ F).2
theorem MW.unbox(T:MW w0 wr X w kb B hv cv ps qs tv th st ov){F:World}{A C:Value}{D:List (Zc×Value)}{E:List Zs}{tv':Val}{th':Str}{st':Int}{ov':Bool}(G:Below w.heap.size w F)(U:MW w0 F (XS kb hv cv ps qs) w' kb B A C D E tv' th' st' ov'):MW w0 wr X w' kb B A C D E tv' th' st' ov' :=
 T.after G (fun _ _ h=>h) U fun _ ⟨r,H⟩=>Or.inl (T.at'.lt r _ H).2
theorem MW.boxes(T:MW w0 wr X w kb B hv cv ps qs tv th st ov){G:World}{t:TypeId}{F:List Value}(I:w.alloc (.cells F.toArray t)=G):∃H:Nat->Prop,MW w0 G H G kb B hv cv ps qs tv th st ov /\
 Hid (∀w' A C D E tv' th' st' ov',MW w0 G H w' kb B A C D E tv' th' st' ov'->MW w0 wr X w' kb B A C D E tv' th' st' ov') /\
 Hid (∀w' A C D E tv' th' st' ov',MW w0 G H w' kb B A C D E tv' th' st' ov'->Blk w' w.heap.size t F)/\Hid (∀b,H b->b<w.heap.size)/\Hid (G.heap.size=w.heap.size+1)/\Hid (∀w',Chg H G w'->Chg X wr w'):=by
 subst I;exact⟨XS kb hv cv ps qs,T.at'.boxed _,fun w' A C D E tv' th' st' ov' U=>T.unbox (Xb.alloc Xl _) U,fun w' A C D E tv' th' st' ov' U=>U.blk (Blk.new w t F) (T.at'.fresh Xl),fun b ⟨r,J⟩=>(T.at'.lt r b J).2,by simp[Hid],fun w' L=>T.over ((Chg.of (Xb.alloc Xl _)).trans L fun i _ M=>M)⟩
theorem Qaq.xs{b:Nat}(A:Qaq q.cb q.lv q.sv b):XS kb hv cv ps (qs++[q]) b:=by
 rcases A with rfl|e|e
 ·exact⟨.call qs.length,by show((qs++[q])[qs.length]?).map _=_;rw[Qad];rfl⟩
 ·exact⟨.loc qs.length,by show((qs++[q])[qs.length]?).bind _=_;rw[Qad];exact e⟩
 ·exact⟨.stk qs.length,by show((qs++[q])[qs.length]?).bind _=_;rw[Qad];exact e⟩
theorem MW.cal(T:MW w0 wr X w kb B hv cv ps (qs++[q]) tv th st ov){c':Cal}(L:c'.m=q.c.m)(M:Z4 w0.heap.size w q.cb q.cv q.hv q.lv q.sv c' w'):
 Chg (Qaq q.cb q.lv q.sv) w w'/\∃C,MW w0 wr X w' kb B hv cv ps (qs++[⟨q.cb,q.cv,q.hv,q.lv,C,c'⟩]) tv th st ov:=by
 obtain⟨I,C,N,E⟩:=M;refine⟨I,C,T.at'.turn L I N E,T.over (I.mono fun _ _ O=>Qaq.xs O),fun r b A=>?_⟩;cases r with
 |m=>exact T.parts .m b A
 |hs=>exact T.parts .hs b A
 |cs=>exact T.parts .cs b A
 |has i=>exact T.parts (.has i) b A
 |call i =>
  change ((qs++[_])[i]?).map _=some b at A;cases D:(qs++[(⟨q.cb,q.cv,q.hv,q.lv,C,c'⟩:Zs)])[i]? with
  |none=>rw[D]at A;cases A
  |some x =>
   rw[D]at A;rcases zaD D with⟨e,F⟩|⟨G,H⟩
   ·refine T.parts (.call i) b ?_;show((qs++[q])[i]?).map _=_
    rw[List.getElem?_append_left F,e];exact A
   ·subst G H;refine T.parts (.call qs.length) b ?_;show((qs++[q])[qs.length]?).map _=_
    rw[Qad];exact A
 |loc i =>
  change ((qs++[_])[i]?).bind _=some b at A;cases D:(qs++[(⟨q.cb,q.cv,q.hv,q.lv,C,c'⟩:Zs)])[i]? with
  |none=>rw[D]at A;cases A
  |some x =>
   rw[D]at A;rcases zaD D with⟨e,F⟩|⟨G,H⟩
   ·refine T.parts (.loc i) b ?_;show((qs++[q])[i]?).bind _=_
    rw[List.getElem?_append_left F,e];exact A
   ·subst G H;refine T.parts (.loc qs.length) b ?_;show((qs++[q])[qs.length]?).bind _=_
    rw[Qad];exact A
 |stk i =>
  change ((qs++[_])[i]?).bind _=some b at A;cases D:(qs++[(⟨q.cb,q.cv,q.hv,q.lv,C,c'⟩:Zs)])[i]? with
  |none=>rw[D]at A;cases A
  |some x =>
   rw[D]at A;rcases zaD D with⟨e,F⟩|⟨G,H⟩
   ·refine T.parts (.stk i) b ?_;show((qs++[q])[i]?).bind _=_
    rw[List.getElem?_append_left F,e];exact A
   ·subst G H;have A:C.ownBlock=some b:=A;rcases E with E|E
    ·refine T.parts (.stk qs.length) b ?_;show((qs++[q])[qs.length]?).bind _=_
     rw[Qad,<-A,E,Option.bind_some]
    ·exact Or.inr (Xf T.chg.size (E b A))
theorem MW.pop(T:MW w0 wr X w kb B hv cv ps (qs++[q]) tv th st ov){S:List Val}{v:Val}(D:q.c.S=S++[v]):Calls prog 86 #[.pointer (some ⟨q.cb,0,none⟩)] w fun e C=>e=.returned (.agg #[.int .i64 v.kind,.int .i64 v.n])/\Chg (Qaq q.cb q.lv q.sv) w C/\∃A,MW w0 wr X C kb B hv cv ps (qs++[⟨q.cb,q.cv,q.hv,q.lv,A,{ q.c with S:=S }⟩]) tv th st ov :=
 (qdz _ w q.cb q.cv q.hv q.lv q.sv q.c T.at'.top S v D).mono fun _ _ ⟨E,F,A,G,H⟩=>⟨E,T.cal rfl ⟨F,A,G,Or.inl H⟩⟩
theorem MW.put(T:MW w0 wr X w kb B hv cv ps (qs++[q]) tv th st ov)(D:q.c.S.length<=4194304)(v:Val):Calls prog 120 #[.pointer (some ⟨q.cb,0,none⟩),.agg #[.int .i64 v.kind,.int .i64 v.n]] w fun e C=>e=.returned (.tuple #[])/\Chg (Qaq q.cb q.lv q.sv) w C/\∃A,MW w0 wr X C kb B hv cv ps (qs++[⟨q.cb,q.cv,q.hv,q.lv,A,{ q.c with S:=q.c.S++[v] }⟩]) tv th st ov :=
 (Qdz _ w q.cb q.cv q.hv q.lv q.sv q.c T.at'.top D v).mono fun _ _ ⟨E,F⟩=>⟨E,T.cal rfl F⟩
theorem Qk.cells(h:Qk w0 w kb B hv cv ps qs tv th st ov):w.cell? ⟨kb,0,none⟩=some (.map (some B))/\w.cell? ⟨kb,1,none⟩=some hv/\w.cell? ⟨kb,2,none⟩=some cv/\kb<w.heap.size:=⟨h.blk.cell 0,h.blk.cell 1,h.blk.cell 2,h.blk.lt⟩
end
set_option maxRecDepth 100000
theorem zcE(w0 w:World)(kb B:Nat)(hv cv:Value)(ps:List (Zc×Value))(qs:List Zs)(tv:Val)(th:Str)(st:Int)(ov:Bool)(h:Qk w0 w kb B hv cv ps qs tv th st ov)(k:Int)(i:Nat)(C:i<ps.length)(F:ps.length<=50):
 ∃g cap,hv=.slice (some ⟨g,0,none⟩) ps.length cap/\Calls prog 118 #[.pointer (some ⟨kb,0,none⟩),.agg #[.int .i64 k,.int .i64 ((i:Int)+1)]] w fun e w'=>e=.returned (.pointer (some ⟨g,i*2,none⟩))/\Below w.heap.size w w':=by
 obtain⟨p,E⟩:∃p,ps[i]? = some p:=⟨_,Xn C⟩;obtain⟨U,N,rfl⟩:=Ze h.things;obtain⟨g,rfl,_,V,O⟩:=zaZ qaS h.things rfl E;refine⟨g,N,rfl,?_⟩;have D:=h.step ((Below.refl w.heap.size w).alloc Xl (.cells #[.int .i64 k,.int .i64 ((i:Int)+1)] 43));obtain⟨P,X,R,S⟩:=D.cells;have A:=Blk.new w 43 [.int .i64 k,.int .i64 ((i:Int)+1)];have T:(w.alloc (.cells #[.int .i64 k,.int .i64 ((i:Int)+1)] 43)).cell? ⟨w.heap.size,1,none⟩=some (.int .i64 ((i:Int)+1)):=A.cell 1;have G:Hid (∀wx,_):=fun wx=>Qaa wx
 have H:=Xh ((Below.refl w.heap.size w).alloc Xl (.cells #[.int .i64 k,.int .i64 ((i:Int)+1)] 43));have I:decide ((0:Int)<(i:Int)+1)=true:=Xj (by omega);have J:(0:Int)<=(i:Int):=by omega
 have L:(i:Int)<(ps.length:Int):=by omega
 have M:IntKind.i64.wrap (i:Int)=(i:Int):=IntWalk.i64_in _ (by omega);clear h D E O A C P R;go_enter func118,ntmps118;go_upto_region 1 with fail;generalize (w.alloc (.cells #[.int .i64 k,.int .i64 ((i:Int)+1)] 43))=Z at *;go_upto_region 2 with(go_fit (G.out _);rintro e Y⟨rfl,rfl⟩)
 go_quiet (fail);go_wp2_with fail;go_ret;exact⟨rfl,below_drewN H.out _⟩
theorem Zey(w:World)(kb:Nat)(k n:Int)(B:n<=0):Calls prog 118 #[.pointer (some ⟨kb,0,none⟩),.agg #[.int .i64 k,.int .i64 n]] w fun e w'=>e=.panicked [Qaf]/\Below w.heap.size w w':=by
 have A:=Blk.new w 43 [.int .i64 k,.int .i64 n];have F:(w.alloc (.cells #[.int .i64 k,.int .i64 n] 43)).cell? ⟨w.heap.size,1,none⟩=some (.int .i64 n):=A.cell 1;have C:Hid (∀wx,_):=fun wx=>ZY wx
 have D:=Xh ((Below.refl w.heap.size w).alloc Xl (.cells #[.int .i64 k,.int .i64 n] 43));have E:decide ((0:Int)<n)=false:=by simp;omega
 clear A B;go_enter func118,ntmps118;go_wp2_with (go_fit (C.out _);rintro e G⟨rfl,rfl⟩)
 exact⟨rfl,rfl,D⟩
def Zb7(w0 w:World)(kb B:Nat)(hv cv:Value)(ps:List (Zc×Value))(qs:List Zs)(tv:Val)(th:Str)(st:Int)(ov:Bool)(x:Zc)(xv:Value)(e:Ending)(w':World):Prop :=
 (50<=ps.length/\e=.panicked [Zat 4]/\Below w.heap.size w w') \/
 (ps.length<50/\e=.returned (.agg #[.int .i64 3,.int .i64 ((ps.length:Int)+1)])/\Chg (fun b=>b=kb\/hv.ownBlock=some b\/xv.ownBlock=some b) w w'/\∃hv',Qk w0 w' kb B hv' cv (ps++[(x,xv)]) qs tv th st ov/\(hv'.ownBlock=hv.ownBlock\/∀b,hv'.ownBlock=some b->w.heap.size<=b))
theorem qcZ{w0 w R J:World}{kb B:Nat}{cv:Value}{ps:List (Zc×Value)}{qs:List Zs}{tv:Val}{th:Str}{st:Int}{ov:Bool}{H C D:Option Addr}{I n E F G:Nat}{xs:List Value}{ty:Str}{T:List Str}(M:Qk w0 w kb B (.slice H ps.length I) cv ps qs tv th st ov)(S:w.ownsRow w0.heap.size 43 2 (.slice C n E) (List.replicate n qah).length xs)(O:∀r b,qY kb (.slice H ps.length I) cv ps qs r=some b->(Value.slice C n E).ownBlock≠some b)(Y:Below w.heap.size w R)(d:R.heap.size=w.heap.size+1+1)(U:ps.length<50)(f:Chg (fun b=>(Value.slice H ps.length I).ownBlock=some b\/(Value.slice C n E).ownBlock=some b) R J)(g:Blk J kb 82 [.map (some B),.slice H ps.length I,cv,.int .i64 tv.kind,.int .i64 tv.n,.string th,.int .i64 st,.bool ov])(Z:J.ownsRow w0.heap.size 106 2 (.slice D F G) (ps.length+1) (ps.flatMap Q7++[.string ty,.slice C n E]))(i:J.ownsRow w0.heap.size 43 2 (.slice C n E) n ((T.map QG).flatMap Zt))(V:(Value.slice D F G).ownBlock=(Value.slice H ps.length I).ownBlock\/∀b,(Value.slice D F G).ownBlock=some b->R.heap.size<=b)(j:T.length=n):
 Zb7 w0 w kb B (.slice H ps.length I) cv ps qs tv th st ov ⟨ty,T.map QG⟩ (.slice C n E) (.returned (.agg #[.int .i64 3,.int .i64 ((ps.length:Int)+1)])) (((J.setCell ⟨kb,1,none⟩ (.slice D F G)).setCell ⟨w.heap.size+1,0,none⟩ (.int .i64 3)).setCell ⟨w.heap.size+1,1,none⟩ (.int .i64 ((ps.length:Int)+1))):=by
 have k:=M.blk.lt;have a:=Y.size;have L:∀b,kb=b\/b=w.heap.size+1->(Value.slice D F G).ownBlock≠some b:=fun b A e=>by
  rcases V with h|h
  ·rw[e]at h;rcases A with A|A
   ·subst A;have:=M.sep .m .hs kb rfl h.symm;cases this
   ·have:=(M.things.lt _ h.symm).2;omega
  ·have o:=h b e;have:=Z.lt _ e;rcases A with A|A
   ·omega
   ·omega
 have N:∀b,kb=b\/b=w.heap.size+1->(Value.slice C n E).ownBlock≠some b:=fun b A e=>by
  rcases A with A|A
  ·subst A;exact O .m kb rfl e
  ·have:=(S.lt _ e).2;omega
 have c:Chg (fun b=>b=kb\/(Value.slice H ps.length I).ownBlock=some b\/(Value.slice C n E).ownBlock=some b) w (((J.setCell ⟨kb,1,none⟩ (.slice D F G)).setCell ⟨w.heap.size+1,0,none⟩ (.int .i64 3)).setCell ⟨w.heap.size+1,1,none⟩ (.int .i64 ((ps.length:Int)+1))):=by
  have X:Chg (fun b=>b=kb\/(Value.slice H ps.length I).ownBlock=some b\/(Value.slice C n E).ownBlock=some b) w J:=(Chg.of Y).trans f (fun _ _ h=>Or.inr h);exact((X.set (p:=⟨kb,1,none⟩) (fun _=>Or.inl rfl) _).set (p:=⟨w.heap.size+1,0,none⟩) (fun h=>absurd h (Nat.not_lt_of_le (Nat.le_succ _))) _).set (p:=⟨w.heap.size+1,1,none⟩) (fun h=>absurd h (Nat.not_lt_of_le (Nat.le_succ _))) _
 have P:kb≠w.heap.size+1:=by omega
 refine Or.inr ⟨U,rfl,c,.slice D F G,M.more c O (fun b e=>(S.lt b e).1) (((g.put 1 (.slice D F G)).other P 0 _).other P 1 _) ?_ ?_ ?_,?_⟩
 ·exact qaj (qaj (qaj Z (L kb (Or.inl rfl)) _ _) (L _ (Or.inr rfl)) _ _) (L _ (Or.inr rfl)) _ _
 ·have:=qaj (qaj (qaj i (N kb (Or.inl rfl)) 1 (.slice D F G)) (N _ (Or.inr rfl)) 0 (.int .i64 3)) (N _ (Or.inr rfl)) 1 (.int .i64 ((ps.length:Int)+1));simpa[j] using this
 ·refine V.imp id fun h b e=>⟨Xf a (h b e),fun l=>?_⟩
  have:=h b e;have:=(S.lt b l).2;omega
 ·exact V.imp id fun h b e=>Xf a (h b e)
theorem zb7(w00 w0 w:World)(kb B:Nat)(hv cv:Value)(ps:List (Zc×Value))(qs:List Zs)(tv:Val)(th:Str)(st:Int)(ov:Bool)(M:Qk w0 w kb B hv cv ps qs tv th st ov)(l:List qa)(hm:qh w00 w0 B l)(ty:Str)(tt:Ty)(F:Option Addr)(G n:Nat)(I:w.ownsRow w0.heap.size 43 2 (.slice F n G) (List.replicate n qah).length ((List.replicate n qah).flatMap Zt))(j:∀r b,qY kb hv cv ps qs r=some b->(Value.slice F n G).ownBlock≠some b)(x:Qab (Za l) ⟨ty,List.replicate n qah⟩ tt)(hsz:ty.size<=maxLen)(hn10:∀e,tt=.ar e->n<=10)(T:List Str)(hT:zO (Za l) ⟨ty,List.replicate n qah⟩=T)(k:T.length=n):
 Calls prog 82 #[.pointer (some ⟨kb,0,none⟩),.agg #[.string ty,.slice F n G]] w (Zb7 w0 w kb B hv cv ps qs tv th st ov ⟨ty,T.map QG⟩ (.slice F n G)):=by
 obtain⟨A,S⟩:∃A,A=(w.alloc (.cells #[.string ty,.slice F n G] 106)).alloc (.cells #[.int .i64 0,.int .i64 0] 43):=⟨_,rfl⟩;have a:Below w.heap.size w A:=by rw[S];exact(Xb.alloc Xl _).alloc (by simp) _
 have y:A.heap.size=w.heap.size+1+1:=by rw[S];simp
 have z:=M.step a;have c:Blk A w.heap.size 106 [.string ty,.slice F n G]:=by rw[S];exact(Blk.new w _ [.string ty,.slice F n G]).step (Xb.alloc Xl _)
 have aA:Blk A (w.heap.size+1) 43 [.int .i64 0,.int .i64 0]:=by
  rw[S];have:=Blk.new (w.alloc (.cells #[.string ty,.slice F n G] 106)) 43 [.int .i64 0,.int .i64 0];simpa using this
 obtain⟨q0,q1,_,hkb⟩:=z.cells;have x0:=c.cell 0;have x1:=c.cell 1;have d:Hid (∀wx,Below A.heap.size A wx->_):=fun wx Z=>qey w00 wx B l ((hm.step z.below).step Z) w0.heap.size (Xf z.size Z.size) hv ps (Ql z.things Z) ty tt F G n (Ql (Ql I a) Z) (fun g hg e=>j .hs g e hg) x hsz hn10 T hT k
 unfold qb7 at d;have HX:=Xh I;have aB:=Xh j;have HM:=Xh M;have o:=Xh z;have HBx:=Xh c;have HBr:=Xh aA;have N:=Xh a;have HS1:=Xh y;have HW1:=Xh S;have HTn:=Xh k;have hk1:¬kb=A.heap.size:=by omega
 have hk2:¬A.heap.size=kb:=by omega
 have hk3:¬w.heap.size=A.heap.size:=by omega
 have hk4:¬A.heap.size=w.heap.size:=by omega
 by_cases h50:50<=ps.length
 ·have HC:Hid (∀wx,Below A.heap.size A wx->Calls prog 115 #[.map (some B),.agg #[hv],.agg #[.string ty,.slice F n G]] wx fun e w'=>e=.returned (.tuple #[.agg #[.slice none 0 0],.int .i64 0,.iface 52 (.int .i64 4)])/\Below wx.heap.size wx w'/\Below A.heap.size A w'/\w'.cell? ⟨kb,0,none⟩=some (.map (some B))/\w'.cell? ⟨kb,1,none⟩=some hv/\w'.cell? ⟨w.heap.size,0,none⟩=some (.string ty)/\w'.cell? ⟨w.heap.size,1,none⟩=some (.slice F n G)):=fun wx Z =>
   (d.out wx Z).mono fun e w' hp=>by
    rcases hp with⟨_,h1,h2⟩|⟨h1,_⟩
    ·have q:=Qa Z Xl h2;exact⟨h1,h2,q,(o.out.step q).cells.1,(o.out.step q).cells.2.1,(HBx.out.step q).cell 0,(HBx.out.step q).cell 1⟩
    ·omega
  obtain⟨J,L,rfl⟩:=Ze M.things;have H:=(Below.refl A.heap.size A).drew;clear M z hm I j x hT k c aA a y S d;go_enter func82,ntmps82;go_upto_region 1 with fail;rw[<-HW1.out];go_region_held3 (fun w'=>w'.cell? ⟨kb,0,none⟩=some (.map (some B))/\w'.cell? ⟨kb,1,none⟩=some (.slice J ps.length L)/\w'.cell? ⟨w.heap.size,0,none⟩=some (.string ty)/\w'.cell? ⟨w.heap.size,1,none⟩=some (.slice F n G)) (go_keep)
   (first
    |(go_fit (HC.out _ ?_);(exact H);rintro e U⟨rfl,_,hB4,z0,z1,z2,z3⟩)
    |(go_fit (HC.out _ ?_);(exact H.alloc H.size _);rintro e U⟨rfl,hBx,hB4,z0,z1,z2,z3⟩;(have s:=(Blk.new A.drew 78 [.slice none 0 0]).step hBx);(have n0:U.cell? ⟨A.heap.size,0,none⟩=some (.slice none 0 0):=s.cell 0);(have n1:U.frozen? ⟨A.heap.size,0,none⟩=false:=s.frozen 0)))
  all_goals
   have hBe:=Xh (Qa N Xl hB4);go_wp2_with fail
  ·exact⟨rfl,Or.inl ⟨h50,rfl,hBe.out.alloc hBe.out.size _⟩⟩
  ·exact⟨rfl,Or.inl ⟨h50,rfl,hBe.out.setCell (p:=⟨A.heap.size,0,none⟩) N.out.size _⟩⟩
 ·have hxf:∀b,w.heap.size<=b->¬(hv.ownBlock=some b\/(Value.slice F n G).ownBlock=some b):=fun b Z I=>by
   rcases I with I|I
   ·have:=(HM.out.things.lt _ I).2;omega
   ·have:=(HX.out.lt _ I).2;omega
  have hkf:¬(hv.ownBlock=some kb\/(Value.slice F n G).ownBlock=some kb):=fun I=>by
   rcases I with I|I
   ·have:=HM.out.sep .m .hs kb rfl I;cases this
   ·exact aB.out .m kb rfl I
  have HXf:=Xh hxf;have HKf:=Xh hkf;have HC:Hid (∀wx,Below A.heap.size A wx->Calls prog 115 #[.map (some B),.agg #[hv],.agg #[.string ty,.slice F n G]] wx fun e w'=>∃J vn L,e=.returned (.tuple #[.agg #[.slice J vn L],.int .i64 ((ps.length:Int)+1),.nilIface])/\Chg (fun b=>hv.ownBlock=some b\/(Value.slice F n G).ownBlock=some b) wx w' /\
   w'.ownsRow w0.heap.size 106 2 (.slice J vn L) (ps.length+1) (ps.flatMap Q7++[.string ty,.slice F n G])/\w'.ownsRow w0.heap.size 43 2 (.slice F n G) n ((T.map QG).flatMap Zt)/\((Value.slice J vn L).ownBlock=hv.ownBlock\/∀b,(Value.slice J vn L).ownBlock=some b->wx.heap.size<=b) /\
   w'.cell? ⟨kb,0,none⟩=some (.map (some B))/\w'.cell? ⟨kb,1,none⟩=some hv/\w'.cell? ⟨w.heap.size,0,none⟩=some (.string ty)/\w'.cell? ⟨w.heap.size,1,none⟩=some (.slice F n G)):=fun wx Z =>
   (d.out wx Z).mono fun e w' hp=>by
    rcases hp with⟨h1,_⟩|⟨_,v,h1,h2,q,h4,h5⟩
    ·omega
    ·obtain⟨J,L,rfl⟩:=Ze q;have k1:=(o.out.step Z).blk.chg h2 HKf.out;have k2:=(HBx.out.step Z).chg h2 (HXf.out _ Xl);exact⟨J,_,L,h1,h2,q,h4,h5,k1.cell 0,k1.cell 1,k2.cell 0,k2.cell 1⟩
  obtain⟨J,L,rfl⟩:=Ze M.things;have H:=(Below.refl A.heap.size A).drew;clear M z hm I j x hT k c aA a y S d hxf hkf;go_enter func82,ntmps82;go_upto_region 1 with fail;rw[<-HW1.out];go_region_held3 (fun w'=>w'.cell? ⟨kb,0,none⟩=some (.map (some B))/\w'.cell? ⟨kb,1,none⟩=some (.slice J ps.length L)/\w'.cell? ⟨w.heap.size,0,none⟩=some (.string ty)/\w'.cell? ⟨w.heap.size,1,none⟩=some (.slice F n G)) (go_keep)
   (first
    |(go_fit (HC.out _ ?_);(exact H);rintro e U⟨C,D,E,rfl,V,f,i,Y,z0,z1,z2,z3⟩;(have O:=(Chg.of (X:=fun b=>(Value.slice J ps.length L).ownBlock=some b\/(Value.slice F n G).ownBlock=some b) H).trans V (fun _ _ h=>h)))
    |(go_fit (HC.out _ ?_);(exact H.alloc H.size _);rintro e U⟨C,D,E,rfl,V,f,i,Y,z0,z1,z2,z3⟩;(have O:=(Chg.of (X:=fun b=>(Value.slice J ps.length L).ownBlock=some b\/(Value.slice F n G).ownBlock=some b) (H.alloc H.size (.cells #[.slice none 0 0] 78))).trans V (fun _ _ h=>h));(have s:=(Blk.new A.drew 78 [.slice none 0 0]).chg V (HXf.out _ (by have:=N.out.size;show w.heap.size<=A.heap.size;omega)));(have n0:U.cell? ⟨A.heap.size,0,none⟩=some (.slice none 0 0):=s.cell 0);(have n1:U.frozen? ⟨A.heap.size,0,none⟩=false:=s.frozen 0);(have hlw4:=s.lt)))
  all_goals
   have kk:=o.out.blk.chg O HKf.out;have kr:=HBr.out.chg O (HXf.out _ (Nat.le_succ _))
  ·have hR5:=Xh (f.alloc (.cells #[.slice C D E] 78));have hX5:=Xh (i.alloc (.cells #[.slice C D E] 78));have P:=kk.step (Xb.alloc Xl (.cells #[.slice C D E] 78));have R:=kr.step (Xb.alloc Xl (.cells #[.slice C D E] 78));have hC5:=Xh (O.alloc (.cells #[.slice C D E] 78));have hN5:Hid ((Value.slice C D E).ownBlock=(Value.slice J ps.length L).ownBlock\/∀b,(Value.slice C D E).ownBlock=some b->A.heap.size<=b):=Y;have p0:(U.alloc (.cells #[.slice C D E] 78)).cell? ⟨U.heap.size,0,none⟩=some (.slice C D E):=(Blk.new U 78 [.slice C D E]).cell 0;have hb5:¬U.heap.size=kb:=(by have:=kk.lt;omega);clear f i O V Y kk kr;generalize U.alloc (.cells #[.slice C D E] 78)=wa at *;generalize U.heap.size=Z at *;have k5:=HM.out.blk.lt;have hk5:¬kb=w.heap.size+1:=(by omega);have hk6:¬w.heap.size+1=kb:=(by omega);have f0:=P.frozen 1;have f1:=R.frozen 0;have f2:=R.frozen 1;obtain⟨r0,r1⟩:=R.cells2;have kq1:wa.cell? ⟨kb,1,none⟩=some (.slice J ps.length L):=P.cell 1;go_wp2_with fail;exact bodyPost_ret (v:=.agg #[.int .i64 3,.int .i64 ((ps.length:Int)+1)]) (by simp[results,results82,go_sem, *]) rfl (qcZ HM.out HX.out aB.out N.out HS1.out (by omega) hC5.out P hR5.out hX5.out hN5.out HTn.out)
  ·have hne:(Value.slice C D E).ownBlock≠some A.heap.size:=fun e=>by
    rcases Y with h|h
    ·rw[e]at h;have:=(HM.out.things.lt _ h.symm).2;have:=N.out.size;omega
    ·have:=h _ e;simp at this;omega
   have t:(Value.slice F n G).ownBlock≠some A.heap.size:=fun e=>by have:=(HX.out.lt _ e).2;have:=N.out.size;omega
   have hR5:=Xh (qaj f hne 0 (.slice C D E));have hX5:=Xh (qaj i t 0 (.slice C D E));have P:=kk.other hk1 0 (.slice C D E);have R:=kr.other (b':=A.heap.size) (by have:=HS1.out;omega) 0 (.slice C D E);have hC5:=Xh (O.set (p:=⟨A.heap.size,0,none⟩) (fun h=>absurd h (Nat.lt_irrefl _)) (.slice C D E));have hN5:Hid ((Value.slice C D E).ownBlock=(Value.slice J ps.length L).ownBlock\/∀b,(Value.slice C D E).ownBlock=some b->A.heap.size<=b):=Y.imp id fun h b e=>by
    have:=h b e;simp at this;omega
   have p0:(U.setCell ⟨A.heap.size,0,none⟩ (.slice C D E)).cell? ⟨A.heap.size,0,none⟩=some (.slice C D E):=(s.put 0 (.slice C D E)).cell 0;have hb5:¬A.heap.size=kb:=hk2;clear f i O V Y kk kr s n0 n1 hlw4 hne t;generalize U.setCell ⟨A.heap.size,0,none⟩ (.slice C D E)=wa at *;have k5:=HM.out.blk.lt;have hk5:¬kb=w.heap.size+1:=(by omega);have hk6:¬w.heap.size+1=kb:=(by omega);have f0:=P.frozen 1;have f1:=R.frozen 0;have f2:=R.frozen 1;obtain⟨r0,r1⟩:=R.cells2;have kq1:wa.cell? ⟨kb,1,none⟩=some (.slice J ps.length L):=P.cell 1;go_wp2_with fail;exact bodyPost_ret (v:=.agg #[.int .i64 3,.int .i64 ((ps.length:Int)+1)]) (by simp[results,results82,go_sem, *]) rfl (qcZ HM.out HX.out aB.out N.out HS1.out (by omega) hC5.out P hR5.out hX5.out hN5.out HTn.out)
theorem ZcE{P:Program}(w:World)(L N ty A:TypeId)(g B E:Nat)(a:Addr)(C F:Nat)(D:Array Value)(t:TypeId)(cs:List Value)(O:P.underlying L=some (.slice A))(M:(P.info? A).map (·.size)=some 2)(R:w.heap[g]? = some (.cells D t (0,0)))(S:cs.length=Nat.min C B*2)(G:∀j v,cs[j]? = some v->w.cell? (a.add j)=some v)(H:cs.length<=D.size)(T:∀v∈cs,v.oneCell'=true):
 (Builtin.copy_ #[L,N] ty #[.slice (some ⟨g,0,none⟩) B E,.slice (some a) C F]).run P w =
  .ok (goInt (Nat.min C B)) (w.setRow g (cs++D.toList.drop cs.length).toArray):=by
 have U:=run_loadCells_list (P:=P) w a cs G;have I:=run_storeCells_at P g 0 t cs 0 D w R (by simpa using H) T;cases J:P.info? A with
 |none=>simp[J]at M
 |some i =>
  have V:i.size=2:=by simpa[J] using M
  simp[Builtin.copy_,run_underlying O,Builtin.lenOf,Builtin.firstCells,sizeOf,typeInfo,J,V,<-S,U,I]
theorem zdf{P:Program}(w:World)(D F ty A:TypeId)(d:Option Addr)(B C:Nat)(G:P.underlying D=some (.slice A))(H:((P.info? A).map (·.size)).isSome=true):
 (Builtin.copy_ #[D,F] ty #[.slice d B C,.slice none 0 0]).run P w=.ok (goInt 0) w:=by
 cases E:P.info? A with
 |none=>simp[E]at H
 |some i=>cases d<;>simp[Builtin.copy_,run_underlying G,Builtin.lenOf,Builtin.firstCells,sizeOf,typeInfo,E,storeCells]
theorem Qey(args:List Val)(N:Nat)(h:args.length<=N):args.flatMap Zt++(List.replicate (N*2) (Value.int .i64 0)).drop (args.flatMap Zt).length=(args++List.replicate (N-args.length) qah).flatMap Zt:=by
 rw[List.flatMap_append,qbh,List.drop_replicate,QS ZaJ];congr 2;omega
theorem Qb7{w:World}{E:Array Oper}{B:List Oper}{o:Oper}{a:Act}{Q:Exit->Act->World->Prop}(H:o.guard=none)(d s:Operand)(M:o.op=.call { callee:=.builtin .copy,args:=#[d,s],argTypes:=#[51,51] })(g N:Nat)(O:a.eval d=.slice (some ⟨g,0,none⟩) N N)(R:Value)(S:a.eval s=R)(I:w.heap[g]? = some (.cells (Array.replicate (N*2) (Value.int .i64 0)) 43 (0,0)))(args:List Val)(J:Qe w 2 qy R args)(D:args.length<=N)(h:∀w':World,w'.heap[g]? = some (.cells ((args++List.replicate (N-args.length) qah).flatMap Zt).toArray 43 (0,0))->Chg (fun b=>b=g) w w'->w'.heap.size=w.heap.size->wpList prog E Q B (a.put o.dst (goInt args.length)) w'):
 wpList prog E Q (o::B) a w:=by
 obtain⟨t,G,f,L,l⟩:=info_parts ZbU;refine wpList_plain H fun K V=>?_
 rcases J with⟨rfl,rfl⟩|⟨X,cap,rfl,v,y,Y⟩
 ·have A:=zdf (P:=prog) w 51 51 o.type 43 (some ⟨g,0,none⟩) N N underlying51 (by rw[G];rfl);unfold Oper.wp;simp[execOp,M,resolve,invoke,builtin,O,S,A,Result.andThen];refine V _ _ (h w ?_ (Chg.refl _ _) rfl);rw[I,List.nil_append,qbh];simp
 ·have Z:∀j u,(args.flatMap Zt)[j]? = some u->w.cell? (X.add j)=some u:=by
   intro j u U;by_cases D:args=[]
   ·subst D;simp at U
   ·have c:args[0]? = some (args.head D):=by cases args with
     |nil=>exact absurd rfl D
     |cons _ _=>rfl
    obtain⟨_,_,_,m,_⟩:=Y 0 _ c;rw[zci m];exact QbI args (fun i x G=>by
     obtain⟨vs,T,_,_,n⟩:=Y i x G;unfold qy at T;subst T;exact n) j u U
  have F:=QS ZaJ args;have C:Nat.min args.length N=args.length:=Nat.min_eq_left D;have A:=ZcE (P:=prog) w 51 51 o.type 43 g N N X args.length cap _ 43 (args.flatMap Zt) underlying51 (by rw[G,Option.map_some,L]) I (by rw[F,C]) Z (by rw[F];simp;omega) (fun u q=>by
   obtain⟨x,_,p⟩:=List.mem_flatMap.1 q;exact zeb x u p)
  rw[C,Array.toList_replicate,Qey args N D]at A;unfold Oper.wp;simp[execOp,M,resolve,invoke,builtin,O,S,A,Result.andThen];refine V _ _ (h _ (by rw[<-List.flatMap_append];exact setRow_heap w g _ _ _ _ I) ⟨rfl,rfl,rfl,by simp[World.setRow],fun k _ r=>setRow_other w g k _ (fun e=>r e)⟩ (by simp[World.setRow]))
theorem zdX:(prog.info? 109).map (fun i=>(i.zero,i.size,i.bytes))=some (some (.pointer none),1,8):=by kernel_rfl
def qbz(w0 w:World)(kb B:Nat)(hv cv:Value)(ps:List (Zc×Value))(qs:List Zs)(tv:Val)(th:Str)(st:Int)(ov:Bool)(c:Cal)(e:Ending)(w':World):Prop :=
 (20<=qs.length/\e=.panicked [Zat 4]/\Below w.heap.size w w') \/
 (qs.length<20/\e=.returned (.tuple #[])/\Chg (fun b=>b=kb\/cv.ownBlock=some b) w w'/\∃cv' q,Qk w0 w' kb B hv cv' ps (qs++[q]) tv th st ov/\q.c=c/\(cv'.ownBlock=cv.ownBlock\/∀b,cv'.ownBlock=some b->w.heap.size<=b)/\w.heap.size<=q.cb/\(∀b,q.lv.ownBlock=some b->w.heap.size<=b)/\q.sv.ownBlock=none)
theorem ZdX{w0 w A J:World}{kb B:Nat}{hv:Value}{E:Option Addr}{F g cap D N:Nat}{ps:List (Zc×Value)}{qs:List Zs}{tv:Val}{th:Str}{st:Int}{ov:Bool}{c:Cal}{cv G:Value}(M:Qk w0 w kb B hv (.slice E qs.length F) ps qs tv th st ov)(V:qs.length<20)(j:Qe w0 6 Zv cv c.m.code/\Qe w0 4 Qp G c.m.handlers)(l:c.S=[])(n:D=w.heap.size+1)(x:A.heap.size=w.heap.size+1+1)(o:Qk w0 A kb B hv (.slice E qs.length F) ps qs tv th st ov)(r:Chg (fun _=>False) w A)(s:A.ownsRow w0.heap.size 43 2 (.slice (some ⟨D,0,none⟩) N N) c.L.length (c.L.flatMap Zt)){U:World}(O:U=(A.drew.alloc (.cells #[.string c.cls,.string c.m.name,.string c.m.type,.bool c.m.static,.bool c.m.abs,.bool c.m.priv,.int .i64 c.m.locals,cv,G,.int .i64 c.pc,.slice (some ⟨D,0,none⟩) N N,.slice none 0 0] 111)).alloc (.cells #[.pointer (some ⟨A.heap.size,0,none⟩)] 109))(C:U.grownBy J (Value.slice E qs.length F).ownBlock)(P:J.ownsRow w0.heap.size 109 1 (.slice (some ⟨g,0,none⟩) (qs.length+1) cap) (qs.length+1) (qs.map (fun q=>Value.pointer (some ⟨q.cb,0,none⟩))++[.pointer (some ⟨A.heap.size,0,none⟩)]))(R:(Value.slice E qs.length F).ownBlock=some g\/g=A.heap.size+2):
 qbz w0 w kb B hv (.slice E qs.length F) ps qs tv th st ov c (.returned (.tuple #[])) (J.setCell ⟨kb,2,none⟩ (.slice (some ⟨g,0,none⟩) (qs.length+1) cap)):=by
 have t:=M.blk.lt;have I:Below A.heap.size A U:=by rw[O];exact(Xb.drew.alloc Xl _).alloc (by simp) _
 have H:∀b,(Value.slice E qs.length F).ownBlock=some b->b<w.heap.size:=fun b e=>(M.calls.lt b e).2
 have T:(Value.slice E qs.length F).ownBlock≠some kb:=fun e=>by
  have:=M.sep .m .cs kb rfl e;cases this
 have X:=(o.step I).blk.grown C T;have Y:Blk J A.heap.size 111 [.string c.cls,.string c.m.name,.string c.m.type,.bool c.m.static,.bool c.m.abs,.bool c.m.priv,.int .i64 c.m.locals,cv,G,.int .i64 c.pc,.slice (some ⟨D,0,none⟩) N N,.slice none 0 0]:=by
  refine Blk.grown (w:=U) ?_ C (fun e=>by have:=H _ e;omega);rw[O];exact(Blk.new A.drew 111 _).step (Xb.alloc Xl _)
 have Z:=(Ql s I).kept C (Or.inr (fun e=>by have:=H D e.symm;omega));have f:Chg (fun b=>b=kb\/(Value.slice E qs.length F).ownBlock=some b) w (J.setCell ⟨kb,2,none⟩ (.slice (some ⟨g,0,none⟩) (qs.length+1) cap)):=by
  have v:Chg (fun b=>b=kb\/(Value.slice E qs.length F).ownBlock=some b) w J:=((r.mono fun _ _ h=>h.elim).on I).grown C (fun k e _=>Or.inr e);exact v.set (p:=⟨kb,2,none⟩) (fun _=>Or.inl rfl) _
 have a:(Value.slice (some ⟨g,0,none⟩) (qs.length+1) cap).ownBlock≠some kb:=fun e=>by
  have e:g=kb:=by injection e
  rcases R with h|h
  ·rw[e]at h;exact T h
  ·omega
 have i:(Value.slice (some ⟨g,0,none⟩) (qs.length+1) cap).ownBlock=(Value.slice E qs.length F).ownBlock\/∀b,(Value.slice (some ⟨g,0,none⟩) (qs.length+1) cap).ownBlock=some b->w.heap.size<=b/\b≠A.heap.size/\b≠D:=by
  rcases R with h|h
  ·exact Or.inl h.symm
  ·refine Or.inr fun b e=>?_
   have e:g=b:=(by injection e);omega
 refine Or.inr ⟨V,rfl,f,_,⟨A.heap.size,cv,G,.slice (some ⟨D,0,none⟩) N N,.slice none 0 0,c⟩,M.push f (X.put 2 _) (qaj P a _ _) ⟨Y.other (by show A.heap.size≠kb;omega) _ _,?_,?_,(fun y _ e=>by cases e),?_,(fun e=>by cases e),(by show w0.heap.size<=A.heap.size;have:=M.size;omega)⟩ j (by show w.heap.size<=A.heap.size;omega) ?_ rfl ?_,rfl,(i.imp id fun h b e=>(h b e).1),(by show w.heap.size<=A.heap.size;omega),?_,rfl⟩
 ·exact qaj Z (fun e=>by
   have e:D=kb:=(by injection e);omega) _ _
 ·rw[l];exact⟨rfl,Or.inl ⟨rfl,rfl⟩⟩
 ·intro e;have e:D=A.heap.size:=by injection e
  omega
 ·intro b e;have e:D=b:=by injection e
  omega
 ·refine i.imp id fun h b e=>⟨(h b e).1,(h b e).2.1,fun d=>(h b e).2.2 ?_⟩
  have d:D=b:=by injection d
  exact d.symm
 ·intro b e;have e:D=b:=by injection e
  omega
theorem Zbj(w0 w:World)(kb B:Nat)(hv cv:Value)(ps:List (Zc×Value))(qs:List Zs)(tv:Val)(th:Str)(st:Int)(ov:Bool)(M:Qk w0 w kb B hv cv ps qs tv th st ov)(cls name D:Str)(d f j:Bool)(N:Nat)(C:List Ins)(A:List ZW)(pc U:Option Addr)(V X:Nat)(k:Qe w0 6 Zv (.slice pc C.length V) C)(l:Qe w0 4 Qp (.slice U A.length X) A)(hN:N<=8)(args:List Val)(gv:Value)(P:Qe w 2 qy gv args)(p:args.length<=N):
 Calls prog 30 #[.pointer (some ⟨kb,0,none⟩),.string cls,.agg #[.string name,.string D,.bool d,.bool f,.bool j,.int .i64 (N:Int),.slice pc C.length V,.slice U A.length X],gv] w
  (qbz w0 w kb B hv cv ps qs tv th st ov ⟨cls,⟨name,D,d,f,j,(N:Int),C,A⟩,0,args++List.replicate (N-args.length) v0,[]⟩):=by
 obtain⟨gp,gn,gk,rfl⟩:∃gp gn gk,gv=.slice gp gn gk:=by
  rcases P with⟨rfl,_⟩|⟨a,cap,rfl,_⟩
  ·exact⟨_,_,_,rfl⟩
  ·exact⟨_,_,_,rfl⟩
 obtain⟨xv,aK⟩:∃xv:List Value,xv=[.string name,.string D,.bool d,.bool f,.bool j,.int .i64 (N:Int),.slice pc C.length V,.slice U A.length X]:=⟨_,rfl⟩;obtain⟨E,H⟩:∃E,E=w.alloc (.cells #[.string name,.string D,.bool d,.bool f,.bool j,.int .i64 (N:Int),.slice pc C.length V,.slice U A.length X] 39):=⟨_,rfl⟩;have I:Below w.heap.size w E:=by rw[H];exact Xb.alloc Xl _
 have q:E.heap.size=w.heap.size+1:=by rw[H];simp
 have R:Blk E w.heap.size 39 [.string name,.string D,.bool d,.bool f,.bool j,.int .i64 (N:Int),.slice pc C.length V,.slice U A.length X]:=by rw[H];exact Blk.new w _ _
 have M1:=M.step I;obtain⟨cp,ck,rfl⟩:=Ze M.calls;obtain⟨_,_,q2,hkb⟩:=M1.cells;have x5:E.cell? ⟨w.heap.size,5,none⟩=some (.int .i64 (N:Int)):=R.cell 5;have s:=Xh H;have t:=Xh I;by_cases h20:20<=qs.length
 ·have z1:decide ((20:Int)<=(qs.length:Int))=true:=Xj (by omega);clear M M1 H I R P k l aK;go_enter func30,ntmps30;go_upto_region 1 with fail;rw[<-s.out];go_wp2_with fail;exact⟨rfl,Or.inl ⟨h20,rfl,t⟩⟩
 ·have z1:decide ((20:Int)<=(qs.length:Int))=false:=Xi (by omega);have hmk:=qb3 N (by omega);have Y:=P.mono I (by decide) (fun _ _ h=>h);have HM:=Xh M;have v:=Xh M1;have HBx:=Xh R;have J:=Xh q;clear M M1 H I R aK q;go_enter func30,ntmps30;go_upto_region 1 with fail;rw[<-s.out];go_upto_region 4 with fail;have L:=(Below.refl E.heap.size E).alloc Xl (.cells (Array.replicate (N*2) (Value.int .i64 0)) 43);have x:(E.alloc (.cells (Array.replicate (N*2) (Value.int .i64 0)) 43)).heap[E.heap.size]? = some (.cells (Array.replicate (N*2) (Value.int .i64 0)) 43 (0,0)):=heap_alloc_new _ _;have Z:=Y.mono L (by decide) (fun _ _ h=>h);have y:(E.alloc (.cells (Array.replicate (N*2) (Value.int .i64 0)) 43)).heap.size=E.heap.size+1:=by simp
  have HM2:=Xh (v.out.step L);have z:=Xh (HBx.out.step L);clear P Y hmk;generalize E.alloc (.cells (Array.replicate (N*2) (Value.int .i64 0)) 43)=w2 at *;have HB2:=Xh L;have HS2:=Xh y;clear L y;go_upto_region 5 with(refine Qb7 rfl _ _ rfl E.heap.size N rfl _ rfl x args Z p ?_;intro G aL T hs3)
  have c:w0.heap.size<=E.heap.size:=v.out.size;have aA:∀r b,qY kb hv (.slice cp qs.length ck) ps qs r=some b->b<w.heap.size:=fun r b hr=>(HM.out.lt r b hr).2
  have S:=Xh (HM2.out.far T (fun b hb=>by rw[hb];exact c) (fun r b hr hb=>by have:=aA r b hr;have:=J.out;omega));have F:=z.out.chg T (by have:=J.out;omega);have aB:G.ownsRow w0.heap.size 43 2 (.slice (some ⟨E.heap.size,0,none⟩) N N) N ((args++List.replicate (N-args.length) v0).flatMap Zt):=by
   have aC:(args++List.replicate (N-args.length) v0).length=N:=(by simp;omega);have hf:=QS ZaJ (args++List.replicate (N-args.length) v0);rw[aC]at hf;exact⟨hf,Or.inr ⟨E.heap.size,N,_,rfl,c,aL,Xl,by unfold maxLen;omega,by rw[List.size_toArray];exact hf,by rw[List.take_of_length_le (by rw[<-hf];exact Xl)];rfl⟩⟩
  have aD:(args++List.replicate (N-args.length) v0).length=N:=by simp;omega
  have HL3:Hid (G.ownsRow w0.heap.size 43 2 (.slice (some ⟨E.heap.size,0,none⟩) N N) (args++List.replicate (N-args.length) v0).length ((args++List.replicate (N-args.length) v0).flatMap Zt)):=by rw[aD];exact aB
  have HC3:Hid (Chg (fun _=>False) w G):=((Chg.of t.out).on HB2.out).trans T (fun i hi e=>by have:=J.out;omega);have HMe:Hid (Qe w0 6 Zv (.slice pc C.length V) C/\Qe w0 4 Qp (.slice U A.length X) A):=⟨k,l⟩;have HBx3:=Xh F;have HS3:Hid (G.heap.size=w.heap.size+1+1):=by
   have h1:=HS2.out;have h2:=J.out;show G.heap.size=_
   omega
  have aE:=(Below.refl G.heap.size G).drew;have aF:=(aE.alloc aE.size (.cells #[.string cls,.string name,.string D,.bool d,.bool f,.bool j,.int .i64 (N:Int),.slice pc C.length V,.slice U A.length X,.int .i64 0,.slice (some ⟨E.heap.size,0,none⟩) N N,.slice none 0 0] 111));have hBf:=aF.alloc aF.size (.cells #[.pointer (some ⟨G.heap.size,0,none⟩)] 109);have M4:=S.out.step hBf;have aG:=M4.calls;have aH:qs.length+1<=maxLen:=by unfold maxLen;omega
  have aI:(qs.length+1)*8<=140737488355328:=by omega
  have n:=M4.size;obtain⟨i0,hi,hz0,hz1,hz2⟩:=info_parts zdX;have q23:G.cell? ⟨kb,2,none⟩=some (.slice cp qs.length ck):=S.out.cells.2.2.1;have hkb3:=S.out.cells.2.2.2;obtain⟨y0,y1,y2,y3,y4,y5,y6,y7⟩:=F.cells8;have hxl:=F.lt;have HM4:=Xh M4;have aJ:=heap_alloc_new (G.drew.alloc (.cells #[.string cls,.string name,.string D,.bool d,.bool f,.bool j,.int .i64 (N:Int),.slice pc C.length V,.slice U A.length X,.int .i64 0,.slice (some ⟨E.heap.size,0,none⟩) N N,.slice none 0 0] 111)) (.cells #[.pointer (some ⟨G.heap.size,0,none⟩)] 109);rw[World.size_alloc]at aJ;have hkr:Hid (some kb≠(Value.slice cp qs.length ck).ownBlock):=fun e=>by
   have:=HM.out.sep .m .cs kb rfl e.symm;cases this
  clear M4 aL T hs3 aB F aA Z x p k l aD;go_region_law (first|(refine step_append_lies _ (by rfl) _ _ 80 (by rfl) w0.heap.size 109 i0 (.pointer none) 1 8 underlying80 hi hz0 hz1 hz2 rfl (by decide) _ qs.length _ (by rfl) aG ⟨G.heap.size+1,0,none⟩ 1 1 [.pointer (some ⟨G.heap.size,0,none⟩)] (by rfl) rfl (World.news_of_block aJ) (fun u hu=>by simp at hu;subst hu;rfl) (by decide) aH aI n (G.heap.size+2) (by simp) ?_;intro g cap w8 o O hat hlt;(have k8:=HM4.out.blk.grown O (fun e=>hkr.out e.symm));(have e0:w8.cell? ⟨kb,2,none⟩=some (.slice cp qs.length ck):=k8.cell 2);(have f8:=k8.frozen 2)))
  all_goals
   go_end0;exact ZdX HM.out (by omega) HMe.out rfl J.out HS3.out S.out HC3.out HL3.out rfl O o hat
