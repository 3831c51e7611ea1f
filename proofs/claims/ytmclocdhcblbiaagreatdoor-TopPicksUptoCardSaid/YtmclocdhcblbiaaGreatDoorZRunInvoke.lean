/- Lemmas; conditions: as each states. -/
import Derived.Test.YtmclocdhcblbiaaGreatDoorZCalled
import Derived.Test.YtmclocdhcblbiaaGreatDoorZRunFit
set_option maxHeartbeats 4000000
namespace Go.Proofs.YtmclocdhcblbiaaGreatDoor
open Go.RowKit Go.Shelf Go.Lib Tryz
set_option maxRecDepth 100000
theorem Qez(t:Str)(y:Ty)(w:World)(A:qe y=lst t)(B:Qm y=true)(C:t.size<=maxLen):Calls prog 119 #[.string t] w fun e w'=>e=.returned (.string (ZO t))/\w'=w:=by
 have F:0<t.size:=by
  have h:0<(lst t).length:=by rw[<-A];cases y<;>simp[qe]
  exact h
 have E:=qb2 A F;have G:(0:Int)<(t.size:Int):=by omega
 have D:Hid (∀wx,_):=fun wx=>zY t y wx A C
 unfold ZO;rw[zU A];cases y with
 |i=>cases B
 |j=>cases B
 |cl c =>
  simp only[QbT,zH,zaQ]at E D;clear A B C;go_enter func119,ntmps119;go_wp2_with (go_fit (D.out _);rintro e H⟨rfl,rfl⟩)
  go_ret;exact⟨rfl,rfl⟩
 |ar e =>
  simp only[QbT]at E;clear A B C D;go_enter func119,ntmps119;go_wp2_with fail;go_ret;exact⟨rfl,rfl⟩
theorem Zc0(A C wx:World)(B:Nat)(l:List qa)(H:qh A C B l)(M:Below C.heap.size C wx)(c n t:Str)(O:(Qb (Za l) c).isSome=true)(I:Str)(m:qc)(G:qB (Za l) c n t=some (I,m))(N:Nat)(P:m.locals=(N:Int)):
 Calls prog 43 #[.map (some B),.string c,.string n,.string t] wx fun e w'=>∃pc D E F,e=.returned (.tuple #[.string I,.agg #[.string m.name,.string m.type,.bool m.static,.bool m.abs,.bool m.priv,.int .i64 (N:Int),.slice pc m.code.length D,.slice E m.handlers.length F],.bool true])/\Qe C 6 Zv (.slice pc m.code.length D) m.code/\Qe C 4 Qp (.slice E m.handlers.length F) m.handlers/\Below wx.heap.size wx w' :=
 (qbe A wx B l (H.step M) c n t O).mono fun e w' ⟨⟨v,J,L⟩,T⟩=>by
  rw[G]at J L;obtain⟨pc,D,E,F,rfl,R,S⟩:=L.mono H.map.below;exact⟨pc,D,E,F,by rw[J];simp[za7,P],R,S,T⟩
theorem QbM{C w w':World}{D B:Nat}{E F:Value}{ps:List (Zc×Value)}{qs:List Zs}{G:Val}{H:Str}{I:Int}{J:Bool}{c:Cal}{e:Ending}(h:qbz C w D B E F ps qs G H I J c e w')(L:20<=qs.length):e=.panicked [Zat 4]/\Below w.heap.size w w':=by
 rcases h with⟨_,A,M⟩|⟨A,_⟩
 ·exact⟨A,M⟩
 ·omega
theorem zfg{w w':World}{X:Nat->Prop}{v:Value}{l:List Val}(h:Qe w 2 qy v l)(C:Chg X w w')(A:∀g,v.ownBlock=some g->g<w.heap.size/\¬X g):Qe w' 2 qy v l:=h.block fun g B=>C.block g (A g B).1 (A g B).2
theorem zfr{g o n c A:Nat}{P:Nat->Prop}(h:(Value.slice (some ⟨g,o,none⟩) n c).ownBlock=some A)(B:P g):P A:=by
 injection h with h
 rw[<-h];exact B
theorem ZdY(A C wx:World)(B:Nat)(l:List qa)(R:qh A C B l)(U:Below C.heap.size C wx)(c n t:Str)(V:(Qb (Za l) c).isSome=true)(E:Str)(m:qc)(F:Qs (Za l) c n t=some (E,m))(G:QB (some (E,m))=true)(N:Nat)(X:m.locals=(N:Int)):
 Calls prog 33 #[.map (some B),.string c,.string n,.string t] wx fun e w'=>∃pc M O P,e=.returned (.tuple #[.string E,.agg #[.string m.name,.string m.type,.bool m.static,.bool m.abs,.bool m.priv,.int .i64 (N:Int),.slice pc m.code.length M,.slice O m.handlers.length P],.bool true])/\Qe C 6 Zv (.slice pc m.code.length M) m.code/\Qe C 4 Qp (.slice O m.handlers.length P) m.handlers/\Below wx.heap.size wx w' :=
 (ZbH A wx B l (R.step U) c n t V).mono fun e w' ⟨⟨b,f,g,h,i,j,k,pc,o,M,O,p,P,D,S,T⟩,d⟩=>by
  rw[F]at D S T;rw[G]at D;obtain⟨H,I,J,L,Y,Z,a⟩:=T.mono R.map.below;rw[Y,<-S]at D;exact⟨H,I,J,L,by rw[D,<-X];rfl,Z,a,d⟩
theorem zeA(A C wx:World)(B:Nat)(l:List qa)(T:qh A C B l)(U:Below C.heap.size C wx)(c n t:Str)(V:(Qb (Za l) c).isSome=true)(D:QB (Qs (Za l) c n t)=false):
 Calls prog 33 #[.map (some B),.string c,.string n,.string t] wx fun e w'=>∃Y F G H I J L pc,∃M N:Nat,∃O,∃P R:Nat,e=.returned (.tuple #[.string Y,.agg #[.string F,.string G,.bool H,.bool I,.bool J,.int .i64 L,.slice pc M N,.slice O P R],.bool false])/\Below wx.heap.size wx w' :=
 (ZbH A wx B l (T.step U) c n t V).mono fun e w' ⟨⟨E,F,G,H,I,J,L,pc,M,N,O,P,R,S,_⟩,X⟩=>by
  rw[D]at S;exact⟨E,F,G,H,I,J,L,pc,M,N,O,P,R,S,X⟩
theorem MW.entered{G wr w w':World}{X:Nat->Prop}{F B:Nat}{H I C:Value}{ps:List (Zc×Value)}{qs:List Zs}{q:Zs}{J:Val}{L:Str}{N:Int}{O:Bool}(T:MW G wr X w F B H I ps qs J L N O)(S:Chg (fun b=>b=F\/I.ownBlock=some b) w w')(M:Qk G w' F B H C ps (qs++[q]) J L N O)(U:C.ownBlock=I.ownBlock\/∀b,C.ownBlock=some b->w.heap.size<=b)(V:w.heap.size<=q.cb)(Y:∀b,q.lv.ownBlock=some b->w.heap.size<=b)(Z:q.sv.ownBlock=none):MW G wr X w' F B H C ps (qs++[q]) J L N O:=by
 have P:=T.chg.size;refine⟨M,T.over (S.mono fun i _ h=>?_),fun r b A=>?_⟩
 ·rcases h with h|h
  ·exact⟨.m,by rw[h];rfl⟩
  ·exact⟨.cs,h⟩
 ·cases r with
  |m=>exact T.parts .m b A
  |hs=>exact T.parts .hs b A
  |cs =>
   have A:C.ownBlock=some b:=A;rcases U with h|h
   ·exact T.parts .cs b (by rw[<-A,h];rfl)
   ·exact Or.inr (Xf P (h b A))
  |has i=>exact T.parts (.has i) b A
  |call i =>
   change ((qs++[q])[i]?).map _=some b at A;cases D:(qs++[q])[i]? with
   |none=>rw[D]at A;cases A
   |some x =>
    rw[D]at A;rcases zaD D with⟨e,_⟩|⟨_,E⟩
    ·exact T.parts (.call i) b (by show(qs[i]?).map _=_;rw[e];exact A)
    ·subst E;injection A with A
     subst A;exact Or.inr (Xf P V)
  |loc i =>
   change ((qs++[q])[i]?).bind _=some b at A;cases D:(qs++[q])[i]? with
   |none=>rw[D]at A;cases A
   |some x =>
    rw[D]at A;rcases zaD D with⟨e,_⟩|⟨_,E⟩
    ·exact T.parts (.loc i) b (by show(qs[i]?).bind _=_;rw[e];exact A)
    ·subst E;exact Or.inr (Xf P (Y b A))
  |stk i =>
   change ((qs++[q])[i]?).bind _=some b at A;cases D:(qs++[q])[i]? with
   |none=>rw[D]at A;cases A
   |some x =>
    rw[D]at A;rcases zaD D with⟨e,_⟩|⟨_,E⟩
    ·exact T.parts (.stk i) b (by show(qs[i]?).bind _=_;rw[e];exact A)
    ·rw[E]at A;have A:q.sv.ownBlock=some b:=A;rw[Z]at A;cases A
def QaN(w0 wr:World)(X:Nat->Prop)(kb B:Nat)(st:Int)(o:Out)(e:Ending)(w':World):Prop:=match o with
 |.on k=>e=.returned (.tuple #[])/\QaC w0 wr X kb B k.h k.calls.reverse v0 ⟨#[]⟩ st false w'
 |.ends v t=>e=.returned (.tuple #[])/\∃h,QaC w0 wr X kb B h [] v t st true w'
 |.full=>e=.panicked [Zat 4]/\Chg X wr w'
theorem qb8{D wr w w':World}{X:Nat->Prop}{E B:Nat}{F L:Value}{ps:List (Zc×Value)}{qs:List Zs}{G:Val}{H:Str}{I:Int}{J:Bool}{c:Cal}{e:Ending}(T:MW D wr X w E B F L ps qs G H I J)(h:qbz D w E B F L ps qs G H I J c e w')(N:¬20<=qs.length):e=.returned (.tuple #[])/\∃A C,MW D wr X w' E B F A ps (qs++[C]) G H I J/\C.c=c:=by
 rcases h with⟨M,_⟩|⟨_,M,O,A,C,P,R,S,U,V,Y⟩
 ·omega
 ·exact⟨M,A,C,T.entered O P S U V Y,R⟩
theorem qcF{w:World}{base:Nat}{G:Option Addr}{B:Nat}(A given:List Val)(n:Nat)(M:given.length=n)(h:w.ownsRow base 43 2 (.slice G (A.length+n) B) (A.length+n) ((A++given).flatMap Zt)):
 ∃N,(∀wx,(Instr.sliceAt 51 (.slice G (A.length+n) B) (some (.int .i64 (A.length:Int))) none none).run prog wx=.ok N wx)/\Qe w 2 qy N given:=by
 rcases h with⟨_,⟨F,O⟩|⟨g,cap,L,F,O,V,X,P,Y,Z⟩⟩
 ·obtain⟨rfl,rfl⟩:A=[]/\given=[]:=by
   refine⟨List.length_eq_zero_iff.1 (by omega),List.length_eq_zero_iff.1 (by omega)⟩
  subst M;simp at F;obtain⟨rfl,rfl⟩:=F;refine⟨.slice none 0 0,fun wx=>?_,Or.inl ⟨rfl,rfl⟩⟩;simp[Instr.sliceAt,Instr.slice,Instr.sliceBounds,Instr.sliceBound,go_sem]
 ·obtain⟨rfl,-,rfl⟩:G=some ⟨g,0,none⟩/\True/\B=cap:=by simpa using F
  subst M;have R:=QS ZaJ (A++given);have S:∀(i:Nat) (x:Val),given[i]? = some x->∃vs,qy x vs/\vs.length=2/\qw w g (A.length*2+i*2) vs:=fun i x D=>by
   have C:w.ownsRow base 43 2 (.slice (some ⟨g,0,none⟩) (A++given).length B) (A++given).length ((A++given).flatMap Zt):=by
    rw[List.length_append];exact⟨by rw[R,List.length_append],Or.inr ⟨g,B,L,rfl,O,V,X,P,Y,Z⟩⟩
   have T:(A++given)[A.length+i]? = some x:=(by rw[List.getElem?_append_right (by omega),show A.length+i-A.length=i by omega,D]);rcases QaV C with⟨e,_⟩|⟨a,cap,e,_,_,E⟩
   ·cases e
   ·obtain⟨vs,H,I,_,J⟩:=E _ x T;obtain⟨rfl,_⟩:(⟨g,0,none⟩:Addr)=a/\_:=(by simpa using e);refine⟨vs,H,I,?_⟩;rw[show A.length*2+i*2=0+(A.length+i)*2 by omega];exact J
  have b:IntKind.i64.wrap (A.length:Int)=(A.length:Int):=IntWalk.i64_in _ (by unfold maxLen at P;omega);by_cases E:B=A.length
  ·have U:given=[]:=List.length_eq_zero_iff.1 (by omega);subst U;refine⟨.slice (some ⟨g,0,none⟩) 0 0,fun wx=>?_,Or.inr ⟨⟨g,0,none⟩,0,rfl,Xl,by unfold maxLen;omega,fun i x D=>by simp at D⟩⟩;simp[Instr.sliceAt,Instr.slice,Instr.sliceBounds,Instr.sliceBound,go_sem,E]
  ·refine⟨.slice (some ⟨g,A.length*2,none⟩) given.length (B-A.length),fun wx=>?_,Or.inr ⟨⟨g,A.length*2,none⟩,B-A.length,rfl,by omega,by omega,fun i x D=>?_⟩⟩
   ·have c:A.length<=B:=(by omega);simp[Instr.sliceAt,Instr.slice,Instr.sliceBounds,Instr.sliceBound,go_sem,E]
   ·obtain⟨vs,H,I,J⟩:=S i x D;exact⟨vs,H,I,rfl,J⟩
theorem MW.alien{A wr w w':World}{X:Nat->Prop}{C B:Nat}{D E:Value}{ps:List (Zc×Value)}{qs:List Zs}{F:Val}{G:Str}{H:Int}{I:Bool}(T:MW A wr X w C B D E ps qs F G H I){k:Nat}(J:Chg (fun b=>b=k) w w')(L:∀r,qY C D E ps qs r≠some k)(O:wr.heap.size<=k)(M:A.heap.size<=k):MW A wr X w' C B D E ps qs F G H I :=
 ⟨T.at'.far J (fun b e=>by rw[e];exact M) (fun r b N e=>L r (by rw[N,e])),T.chg.trans J (fun i P e=>by omega),T.parts⟩
theorem Qb8{w:World}{base:Nat}{t:TypeId}{D:Option Addr}{C n:Nat}(A given:List Val)(h:w.ownsRow base t 2 (.slice D (A.length+n) C) (A.length+n) ((A++given).flatMap Zt)):w.ownsRow base t 2 (.slice D A.length C) A.length (A.flatMap Zt):=by
 have I:=QS ZaJ A;refine⟨I,?_⟩;rcases h.2 with⟨B,G⟩|⟨g,cap,E,B,G,L,O,M,N,H⟩
 ·refine Or.inl ⟨?_,by omega⟩;have J:A.length=0:=by omega
  simp at B;rw[J,B.1,B.2.2]
 ·obtain⟨rfl,-,rfl⟩:D=some ⟨g,0,none⟩/\True/\C=cap:=by simpa using B
  refine Or.inr ⟨g,C,E,rfl,G,L,by omega,M,N,?_⟩;rw[List.flatMap_append]at H;have F:=congrArg (List.take (A.length*2)) H;rw[List.take_take,Nat.min_eq_left (by omega),List.take_append_of_le_length (by omega)]at F;exact F.trans (List.take_of_length_le (by omega))
theorem zbN{w:World}{base:Nat}{t:TypeId}{B:Option Addr}{A a n:Nat}{xs:List Value}(h:w.ownsRow base t 2 (.slice B (a+n) A) (a+n) xs)(wx:World):
 (Instr.sliceAt 51 (.slice B (a+n) A) none (some (.int .i64 (a:Int))) none).run prog wx=.ok (.slice B a A) wx:=by
 rcases h.2 with⟨C,E⟩|⟨g,cap,F,C,E,G,H,I,J,L⟩
 ·obtain⟨rfl,rfl⟩:a=0/\n=0:=by omega
  simp at C;obtain⟨rfl,rfl⟩:=C;simp[Instr.sliceAt,Instr.slice,Instr.sliceBounds,Instr.sliceBound,go_sem]
 ·obtain⟨rfl,-,rfl⟩:B=some ⟨g,0,none⟩/\True/\A=cap:=by simpa using C
  have D:a<=A:=by omega
  simp[Instr.sliceAt,Instr.slice,Instr.sliceBounds,Instr.sliceBound,go_sem,D]
theorem QcF{w:World}{g o n c:Nat}{l:List Val}{a:Val}(h:Qe w 2 qy (.slice (some ⟨g,o,none⟩) n c) l)(C:l[0]? = some a):w.cell? ⟨g,o,none⟩=some (.int .i64 a.kind)/\w.cell? ⟨g,o+1,none⟩=some (.int .i64 a.n):=by
 rcases h with⟨e,_⟩|⟨b,cap,e,_,_,D⟩
 ·cases e
 ·obtain⟨rfl,-,-⟩:(⟨g,o,none⟩:Addr)=b/\n=l.length/\c=cap:=by simpa using e
  obtain⟨vs,A,_,_,B⟩:=D 0 a C;unfold qy at A;subst A;exact⟨B.1,B.2.1⟩
theorem ZeA{w:World}{v:Value}{l:List Val}{a:Val}(h:Qe w 2 qy v l)(A:l[0]? = some a):∃g o c,v=.slice (some ⟨g,o,none⟩) l.length c/\w.cell? ⟨g,o,none⟩=some (.int .i64 a.kind)/\w.cell? ⟨g,o+1,none⟩=some (.int .i64 a.n):=by
 have B:=h;rcases h with⟨_,e⟩|⟨b,cap,rfl,_,_,D⟩
 ·rw[e]at A;cases A
 ·obtain⟨vs,_,_,C,_⟩:=D 0 a A;rw[C]at B;exact⟨b.block,b.off,cap,by rw[<-C],QcF B A⟩
def Zcj(w0 wr:World)(X:Nat->Prop)(kb B:Nat)(hv:Value)(ps:List (Zc×Value))(qs:List Zs)(q:Zs)(tv:Val)(th:Str)(st:Int)(ov:Bool)(T0:List Val)(c:Cal)(e:Ending)(w':World):Prop :=
 (20<=qs.length+1/\e=.panicked [Zat 4]/\Chg X wr w') \/
 (qs.length+1<20/\e=.returned (.tuple #[])/\∃cv' sv' qn,MW w0 wr X w' kb B hv cv' ps (qs++[⟨q.cb,q.cv,q.hv,q.lv,sv',{ q.c with S:=T0 }⟩]++[qn]) tv th st ov/\qn.c=c)
def zag(l:List qa)(w0 wr:World)(X:Nat->Prop)(kb B:Nat)(st:Int)(o:Out)(e:Ending)(w':World):Prop :=
 (e=.panicked [Qaf]/\∃hv cv ps qs,MW w0 wr X w' kb B hv cv ps qs v0 ⟨#[]⟩ st false/\QM (Za l) (ps.map (·.1)) (qs.map (·.c)).reverse=o/\Zy (Za l) (ps.map (·.1))=0/\qs.length<=20/\∀q∈qs,∀h∈q.c.m.handlers,QY h) \/
 (e=.panicked [Zat 4]/\Chg X wr w'/\o=.full) \/
 (o≠.full/\QaN w0 wr X kb B st o e w')
theorem za0{α β:Type}(f:α->β)(l:List α)(x:α):((l++[x]).map f).reverse=f x::(l.map f).reverse:=by simp
theorem Zcg(cs:List qa)(h:List Zc)(cls:Str)(v:Val)(c:Cal)(S:List Val)(r:List Cal):qF cs h cls v ({ c with S:=S }::r)=qF cs h cls v (c::r):=by
 unfold qF;rfl
theorem ZbN(cs:List qa)(h:List Zc)(c:Cal)(S:List Val)(r:List Cal):QM cs h ({ c with S:=S }::r)=QM cs h (c::r):=by
 unfold QM;rw[Zcg]
theorem QbL{E wr w':World}{X:Nat->Prop}{F B:Nat}{G:Value}{ps:List (Zc×Value)}{qs:List Zs}{q:Zs}{H:Int}{I:List Val}{J:Str}{m:qc}{N:Nat}{given:List Val}{e:Ending}(l:List qa)(R:m.locals=(N:Int))(h:Zcj E wr X F B G ps qs q v0 ⟨#[]⟩ H false I ⟨J,m,0,given++List.replicate (N-given.length) v0,[]⟩ e w'):
 zag l E wr X F B H (qaq (ps.map (·.1)) J m given ({ q.c with S:=I }::(qs.map (·.c)).reverse)) e w':=by
 unfold qaq;rcases h with⟨L,A,C⟩|⟨L,A,D,O,T,C,P⟩
 ·rw[if_pos (by simpa using L)];exact Or.inr (Or.inl ⟨A,C,rfl⟩)
 ·rw[if_neg (by simp;omega)];refine Or.inr (Or.inr ⟨by simp,A,G,D,ps,_,C,rfl,?_⟩);have M:m.locals.toNat-given.length=N-given.length:=by omega
  rw[M];simp[P]
theorem ZcD(d w:World)(n B:Nat)(hv cv:Value)(ps:List (Zc×Value))(qs:List Zs)(q:Zs)(tv:Val)(th:Str)(st:Int)(ov:Bool)(wr:World)(X:Nat->Prop)(T:MW d wr X w n B hv cv ps (qs++[q]) tv th st ov)(hn:q.c.S.length<=4194304)(w00:World)(l:List qa)(hm:qh w00 d B l)(a b:Int)(t cls name:Str)(hs:t.size<=1048576)(args:List Str)(ret:Str)(hmt:Zl t=some (args,ret))(A given:List Val)(hS:q.c.S=A++given)(hgl:given.length=args.length)(hk:(Qb (Za l) cls).isSome=true)(cn:Str)(m:qc)(hmc:qB (Za l) cls name t=some (cn,m))(N:Nat)(hN:m.locals=(N:Int))(hN8:N<=8)(hgN:given.length<=N):
 Calls prog 84 #[.pointer (some ⟨n,0,none⟩),.pointer (some ⟨q.cb,0,none⟩),.agg #[.int .i64 25,.int .i64 a,.int .i64 b,.string t,.string cls,.string name]] w
  (Zcj d wr X n B hv ps qs q tv th st ov A ⟨cn,m,0,given++List.replicate (N-given.length) v0,[]⟩):=by
 obtain⟨w1,aC⟩:∃w1,w.alloc (.cells #[.int .i64 25,.int .i64 a,.int .i64 b,.string t,.string cls,.string name] 34)=w1:=⟨_,rfl⟩;obtain⟨X1,U1,j,D,-⟩:=T.boxes aC;obtain⟨i0,-,-,i3,i4,i5⟩:=(D.out _ _ _ _ _ _ _ _ _ U1).cells6;have HW1:=Xh aC;have HU1:=Xh U1;have HN:=Xh hn;have HM:Hid (∀wx,_):=fun wx=>zaB hs hmt wx
 unfold Zby at HM;have HFm:=Xh (fun(wx:World) (V:Below d.heap.size d wx)=>Zc0 w00 d wx B l hm V cls name t hk cn m hmc N hN);clear U1 aC hn T;go_enter func84,ntmps84;go_upto_region 1 with fail;rw[HW1.out];go_upto_region 7 with(first|(go_fit (HM.out _);rintro e w2⟨pa,ka,rfl,-,hB2⟩;(have o:=HU1.out.step hB2);obtain⟨j0,-,-,j3,j4,j5⟩:=(D.out _ _ _ _ _ _ _ _ _ o).cells6))
 have J:q.c.S.length=A.length+args.length:=by rw[hS,List.length_append,hgl]
 obtain⟨k,sk,P⟩:=Ze o.at'.top.stack;have q11:w2.cell? ⟨q.cb,11,none⟩=some (.slice k (A.length+args.length) sk):=by rw[<-J,<-P];exact o.at'.top.blk.cell 11
 have hTl:A.length+args.length<=4194304:=by have:=HN.out;omega
 have z1:IntKind.i64.wrap ((A.length:Int)+(args.length:Int)-(args.length:Int))=(A.length:Int):=by rw[show(A.length:Int)+(args.length:Int)-(args.length:Int)=(A.length:Int) by omega];exact IntWalk.i64_in _ (by omega)
 have z2:((A.length:Int)+(args.length:Int)-(args.length:Int))=(A.length:Int):=by omega
 have z3:wrap64 (A.length:Int)=(A.length:Int):=by unfold wrap64;omega
 have i1:(0:Int)<=(A.length:Int):=by omega
 have i2:(A.length:Int)<=(A.length:Int)+(args.length:Int):=by omega
 have C:=o.at'.top.stack;rw[P,J,hS]at C;obtain⟨gv,hsl,hgv⟩:=qcF A given args.length hgl C;have f:Hid (∀wx,_):=fun wx h=>QbD given gv wx h (by have:=HN.out;omega)
 clear hTl;go_upto_region 8 with fail;go_upto_region 9 with(go_fit (f.out _ hgv);rintro e E⟨v3,rfl,hv3,hf3,hB3⟩)
 have U3:=o.step hB3;obtain⟨k0,-,-,k3,k4,k5⟩:=(D.out _ _ _ _ _ _ _ _ _ U3).cells6;have k6:=U3.at'.cells.1;have l1:w.heap.size<E.heap.size:=(D.out _ _ _ _ _ _ _ _ _ U3).lt;have l2:=U3.at'.cells.2.2.2;have e1:¬E.heap.size=n:=by omega
 have e2:¬n=E.heap.size:=by omega
 have e3:¬E.heap.size=w.heap.size:=by omega
 have e4:¬w.heap.size=E.heap.size:=by omega
 have F:=Xh U3;have HQ2:=Xh o.at'.top.blk.lt;have Hv3:=Xh hv3;have s:=Xh hf3;clear l1 l2 hsl hgv f C o U3 hv3 hf3 j0 j3 j4 j5 q11 i0 i3 i4 i5 i1 i2 z1 z2 z3 hB2 hB3;go_region_held3 (fun w'=>w'.cell? ⟨n,0,none⟩=some (.map (some B))/\w'.cell? ⟨w.heap.size,3,none⟩=some (.string t)/\w'.cell? ⟨w.heap.size,4,none⟩=some (.string cls)/\w'.cell? ⟨w.heap.size,5,none⟩=some (.string name)) (go_keep)
  (first
   |(go_at_call 43;(refine(HFm.out _ ?_).mono ?_);(exact F.out.drew.at'.below);rintro e L⟨pc,kc,ph,kh,rfl,hm1,hm2,H⟩;(have R:=F.out.drew.step H);obtain⟨-,-,-,y3,y4,y5⟩:=(D.out _ _ _ _ _ _ _ _ _ R).cells6;(have y6:=R.at'.cells.1))
   |(go_at_call 43;(refine(HFm.out _ ?_).mono ?_);(exact(F.out.drew.alloc _).at'.below);rintro e L⟨pc,kc,ph,kh,rfl,hm1,hm2,H⟩;(have R:=(F.out.drew.alloc _).step H);obtain⟨-,-,-,y3,y4,y5⟩:=(D.out _ _ _ _ _ _ _ _ _ R).cells6;(have y6:=R.at'.cells.1);(have O:Blk L E.heap.size 39 Qw:=(Blk.new E.drew 39 Qw).step H);obtain⟨n0,n1,n2,n3,n4,n5,n6,n7⟩:=O.method;(have f0:=O.frozen 0);(have f1:=O.frozen 1);(have f2:=O.frozen 2);(have f3:=O.frozen 3);(have f4:=O.frozen 4);(have f5:=O.frozen 5);(have f6:=O.frozen 6);(have f7:=O.frozen 7)))
 all_goals first
  |(
   generalize I:((((((((L.setCell ⟨E.heap.size,0,none⟩ (.string m.name)).setCell ⟨E.heap.size,1,none⟩ (.string m.type)).setCell ⟨E.heap.size,2,none⟩ (.bool m.static)).setCell ⟨E.heap.size,3,none⟩ (.bool m.abs)).setCell ⟨E.heap.size,4,none⟩ (.bool m.priv)).setCell ⟨E.heap.size,5,none⟩ (.int .i64 (N:Int))).setCell ⟨E.heap.size,6,none⟩ (.slice pc m.code.length kc)).setCell ⟨E.heap.size,7,none⟩ (.slice ph m.handlers.length kh))=M at *;have Y:Chg (fun b=>b=E.heap.size) L M:=(by rw[<-I];exact(((((((Chg.one L E.heap.size 0 _).also 1 _).also 2 _).also 3 _).also 4 _).also 5 _).also 6 _).also 7 _);have U:=R.alien Y (fun r hr=>by have:=(F.out.at'.lt r _ hr).2;omega) F.out.chg.size F.out.at'.size;have v:Blk M E.heap.size 39 [.string m.name,.string m.type,.bool m.static,.bool m.abs,.bool m.priv,.int .i64 (N:Int),.slice pc m.code.length kc,.slice ph m.handlers.length kh]:=(by rw[<-I];exact O.put8 _ _ _ _ _ _ _ _);have V:Below E.heap.size E L:=Qa (Xb.drew.alloc Xl _) Xl H;have x:=Hv3.out.block (w':=M) fun g hg=>by
    have h1:=(s.out g hg).2;exact(Y.block g (by have:=V.size;omega) (by omega)).trans (V.block g h1)
   have HS5:=Xh (Xf V.size Y.size);have i:¬q.cb=E.heap.size:=(by have:=F.out.at'.top.blk.lt;omega);clear Y O n0 n1 n2 n3 n4 n5 n6 n7 f0 f1 f2 f3 f4 f5 f6 f7 R y3 y4 y5 y6 H I V;generalize E.heap.size=mb at *)
  |(
   generalize I:L.alloc (.cells #[.string m.name,.string m.type,.bool m.static,.bool m.abs,.bool m.priv,.int .i64 (N:Int),.slice pc m.code.length kc,.slice ph m.handlers.length kh] 39)=M at *;have y:Below L.heap.size L M:=(by rw[<-I];exact Xb.alloc Xl _);have v:Blk M L.heap.size 39 [.string m.name,.string m.type,.bool m.static,.bool m.abs,.bool m.priv,.int .i64 (N:Int),.slice pc m.code.length kc,.slice ph m.handlers.length kh]:=(by rw[<-I];exact Blk.new L _ _);have U:=R.step y;have V:=Qa (Qa Xb.drew Xl H) Xl y;have x:=Hv3.out.block (w':=M) fun g hg=>V.block g (s.out g hg).2
   have HS5:=Xh V.size;have i:¬q.cb=L.heap.size:=(by have:=R.at'.top.blk.lt;omega);generalize L.heap.size=mb at *;clear R y3 y4 y5 y6 H I y V)
 all_goals
  have hgq:∀g,v3.ownBlock=some g->¬g=q.cb:=fun g hg=>by have:=(s.out g hg).1;have:=HQ2.out;omega
  have x0:=(D.out _ _ _ _ _ _ _ _ _ U).cell 0;have q12:M.cell? ⟨q.cb,11,none⟩=some (.slice k (A.length+args.length) sk):=by rw[<-J,<-P];exact U.at'.top.blk.cell 11
  have fq:=U.at'.top.blk.frozen 11;have C:=U.at'.top.stack;rw[P,J,hS]at C;have hhd:=zbN C;go_upto_region 17 with fail;have hcp:Z4 d.heap.size M q.cb q.cv q.hv q.lv q.sv { q.c with S:=A } (M.setCell ⟨q.cb,11,none⟩ (.slice k A.length sk)):=by
   have hor:(Value.slice k A.length sk).ownBlock=q.sv.ownBlock:=(by rw[P];cases k<;>rfl);exact⟨(Chg.refl (Qaq q.cb q.lv q.sv) M).set (p:=⟨q.cb,11,none⟩) (fun _=>Or.inl rfl) _,_,U.at'.top.stacked U.at'.top.blk U.at'.top.locals (Qb8 A given C) (Or.inl hor),Or.inl hor⟩
  obtain⟨-,sv6,U6⟩:=U.cal (c':={ q.c with S:=A }) rfl hcp;have hk6:=v.other (fun e=>i e.symm) 11 (.slice k A.length sk);have hv6:Qe (M.setCell ⟨q.cb,11,none⟩ (.slice k A.length sk)) 2 qy v3 given:=x.block fun g hg=>Below.heap_setCell _ _ _ _ (hgq g hg)
  have z:=Zbj d _ n B hv cv ps _ tv th st ov U6.at' cn m.name m.type m.static m.abs m.priv N m.code m.handlers pc ph kc kh hm1 hm2 hN8 given v3 hv6 hgN;have hmm:(⟨m.name,m.type,m.static,m.abs,m.priv,(N:Int),m.code,m.handlers⟩:qc)=m:=by rw[<-hN]
  rw[hmm]at z;have Z:=Xh z;obtain⟨n0,n1,n2,n3,n4,n5,n6,n7⟩:=hk6.cells8;have HU6:=Xh U6;clear hcp hk6 hv6 z U6 U C v x hgq hmm hhd q12;generalize M.setCell ⟨q.cb,11,none⟩ (.slice k A.length sk)=w6 at *;by_cases G:20<=(qs++[(⟨q.cb,q.cv,q.hv,q.lv,sv6,{ q.c with S:=A }⟩:Zs)]).length
  ·have aA:=Xh (Z.out.mono fun e w' h=>QbM h G);have aB:Hid (20<=qs.length+1):=(by rw[List.length_append]at G;exact G);clear G Z;go_wp2_with (go_fit aA.out;rintro e w7⟨rfl,hB7⟩)
   exact⟨rfl,Or.inl ⟨aB,rfl,(j.out _ _ _ _ _ _ _ _ _ (HU6.out.step hB7)).chg⟩⟩
  ·have aA:=Xh (Z.out.mono fun e w' h=>qb8 HU6.out h G);have aB:Hid (qs.length+1<20):=(by rw[List.length_append]at G;exact Nat.lt_of_not_le G);clear G Z;go_wp2_with (go_fit aA.out;rintro e w7⟨rfl,cv7,qn,U7,hqn⟩)
   go_end0;exact Or.inr ⟨aB,rfl,cv7,sv6,qn,j.out _ _ _ _ _ _ _ _ _ U7,hqn⟩
theorem Qde(f w:World)(k B:Nat)(hv cv:Value)(ps:List (Zc×Value))(qs:List Zs)(q:Zs)(st:Int)(wr:World)(X:Nat->Prop)(T:MW f wr X w k B hv cv ps (qs++[q]) v0 ⟨#[]⟩ st false)(hn:q.c.S.length<=4194304)(w00:World)(l:List qa)(hm:qh w00 f B l)(hh:Zy (Za l) (ps.map (·.1))=0)(E:qs.length+1<=20)(hho:∀p∈qs++[q],∀h∈p.c.m.handlers,QY h)(a b:Int)(t cls name:Str)(hs:t.size<=1048576)(args:List Str)(ret:Str)(I given:List Val)(cf:Str)(A:qc)(F:qde (Za l) (ps.map (·.1)) ⟨24,a,b,t,cls,name⟩ q.c.S args ret I given cf A)(o:Out)(hV:o=(if (given.headD v0).n<=0 then QM (Za l) (ps.map (·.1)) (q.c::(qs.map (·.c)).reverse)
 else if A.priv then qaq (ps.map (·.1)) cf A given ({ q.c with S:=I }::(qs.map (·.c)).reverse)
 else if QB (Qs (Za l) (ZO (qj (ps.map (·.1)) (given.headD v0)).type) name t) then
  (
   match Qs (Za l) (ZO (qj (ps.map (·.1)) (given.headD v0)).type) name t with
   |some p=>qaq (ps.map (·.1)) p.1 p.2 given ({ q.c with S:=I }::(qs.map (·.c)).reverse)
   |none=>.full)
 else QM (Za l) (ps.map (·.1)) (q.c::(qs.map (·.c)).reverse))):
 Calls prog 84 #[.pointer (some ⟨k,0,none⟩),.pointer (some ⟨q.cb,0,none⟩),.agg #[.int .i64 24,.int .i64 a,.int .i64 b,.string t,.string cls,.string name]] w (zag l f wr X k B st o):=by
 obtain⟨hmt,hS,f3,hk,hmc,⟨Nf,hNf⟩,f7,f8,f9⟩:=F;dsimp only at hmt f3 hk hmc f7 f8 f9;have HNf:=Xh hNf;obtain⟨gk,hgk⟩:∃gk,gk=args.length+1:=⟨_,rfl⟩;have hgl:given.length=gk:=by rw[hgk];exact f3
 obtain⟨a0,hg0,hhd⟩:∃a0,given[0]? = some a0/\given.headD v0=a0:=by
  cases given with
  |nil=>simp at f3
  |cons a0 G=>exact⟨a0,rfl,rfl⟩
 rw[hhd]at f8 f9 hV;have L:(ps.map (·.1)).length=ps.length:=List.length_map ..;rw[L]at f8;clear f3 hhd L;obtain⟨w1,hw1⟩:∃w1,w.alloc (.cells #[.int .i64 24,.int .i64 a,.int .i64 b,.string t,.string cls,.string name] 34)=w1:=⟨_,rfl⟩;obtain⟨X1,U1,aC,C,-⟩:=T.boxes hw1;obtain⟨i0,-,-,i3,i4,i5⟩:=(C.out _ _ _ _ _ _ _ _ _ U1).cells6;have HW1:=Xh hw1;have HU1:=Xh U1;have HN:=Xh hn;have HM:Hid (∀wx,_):=fun wx=>zaB hs hmt wx
 unfold Zby at HM;have HFm:=Xh (fun(wx:World) (hb:Below f.heap.size f wx)=>Zc0 w00 f wx B l hm hb cls name t hk cf A hmc Nf hNf);clear U1 hw1 hn T hmc hNf;have hal:gk<=4194304:=by have:=HN.out;rw[hS,List.length_append,hgl]at this;omega
 have zz1:IntKind.i64.wrap ((args.length:Int)+1)=(gk:Int):=by rw[show(args.length:Int)+1=(gk:Int) by omega];exact IntWalk.i64_in _ (by omega)
 have zz3:(0:Int)<(gk:Int):=by omega
 have HG0:=Xh hg0;have HV:=Xh hV;have HM0:=Xh hm;have Hh:=Xh hh;have H20a:=Xh E;have HHo:=Xh hho;have F7:=Xh f7;have F8:=Xh (f8 rfl);have F9:=Xh (f9 rfl);clear hal hg0 hgk hV hm hh E hho f7 f8 f9;go_enter func84,ntmps84;go_upto_region 1 with fail;rw[HW1.out];go_upto_region 7 with(first|(go_fit (HM.out _);rintro e w2⟨pa,ka,rfl,-,hB2⟩;(have U2:=HU1.out.step hB2);obtain⟨j0,-,-,j3,j4,j5⟩:=(C.out _ _ _ _ _ _ _ _ _ U2).cells6))
 have L:q.c.S.length=I.length+gk:=by rw[hS,List.length_append,hgl]
 obtain⟨sp,sk,hsv⟩:=Ze U2.at'.top.stack;have q11:w2.cell? ⟨q.cb,11,none⟩=some (.slice sp (I.length+gk) sk):=by rw[<-L,<-hsv];exact U2.at'.top.blk.cell 11
 have hTl:I.length+gk<=4194304:=by have:=HN.out;omega
 have z1:IntKind.i64.wrap ((I.length:Int)+(gk:Int)-(gk:Int))=(I.length:Int):=by rw[show(I.length:Int)+(gk:Int)-(gk:Int)=(I.length:Int) by omega];exact IntWalk.i64_in _ (by omega)
 have z2:((I.length:Int)+(gk:Int)-(gk:Int))=(I.length:Int):=by omega
 have z3:wrap64 (I.length:Int)=(I.length:Int):=by unfold wrap64;omega
 have i1:(0:Int)<=(I.length:Int):=by omega
 have i2:(I.length:Int)<=(I.length:Int)+(gk:Int):=by omega
 have H:=U2.at'.top.stack;rw[hsv,L,hS]at H;obtain⟨gv,hsl,hgv⟩:=qcF I given gk hgl H;have HClo:Hid (∀wx,_):=fun wx h=>QbD given gv wx h (by have:=HN.out;omega)
 clear hTl;go_upto_region 8 with fail;go_upto_region 9 with(go_fit (HClo.out _ hgv);rintro e d⟨v3,rfl,hv3,hf3,hB3⟩)
 obtain⟨g3,o3,c3,rfl,y0,y1⟩:=ZeA hv3 HG0.out;rw[hgl]at hv3 hf3;have U3:=U2.step hB3;obtain⟨k0,-,-,k3,k4,k5⟩:=(C.out _ _ _ _ _ _ _ _ _ U3).cells6;have k6:=U3.at'.cells.1;have l1:w.heap.size<d.heap.size:=(C.out _ _ _ _ _ _ _ _ _ U3).lt;have l2:=U3.at'.cells.2.2.2;have e1:¬d.heap.size=k:=by omega
 have e2:¬k=d.heap.size:=by omega
 have e3:¬d.heap.size=w.heap.size:=by omega
 have e4:¬w.heap.size=d.heap.size:=by omega
 have Y:=Xh U3;have HQ2:=Xh U2.at'.top.blk.lt;have Hv3:=Xh hv3;have Hf3:=Xh hf3;clear l1 l2 hsl hgv HClo H U2 U3 hv3 hf3 j0 j3 j4 j5 q11 i0 i3 i4 i5 i1 i2 z1 z2 z3 hB2 hB3;go_region_held3 (fun w'=>w'.cell? ⟨k,0,none⟩=some (.map (some B))/\w'.cell? ⟨w.heap.size,3,none⟩=some (.string t)/\w'.cell? ⟨w.heap.size,4,none⟩=some (.string cls)/\w'.cell? ⟨w.heap.size,5,none⟩=some (.string name)) (go_keep)
  (first
   |(go_at_call 43;(refine(HFm.out _ ?_).mono ?_);(exact Y.out.drew.at'.below);rintro e w4⟨pcf,kcf,phf,khf,rfl,hf1,hf2,z⟩;(have U4:=Y.out.drew.step z);obtain⟨-,-,-,y3,y4,y5⟩:=(C.out _ _ _ _ _ _ _ _ _ U4).cells6;(have y6:=U4.at'.cells.1))
   |(go_at_call 43;(refine(HFm.out _ ?_).mono ?_);(exact(Y.out.drew.alloc _).at'.below);rintro e w4⟨pcf,kcf,phf,khf,rfl,hf1,hf2,z⟩;(have U4:=(Y.out.drew.alloc _).step z);obtain⟨-,-,-,y3,y4,y5⟩:=(C.out _ _ _ _ _ _ _ _ _ U4).cells6;(have y6:=U4.at'.cells.1);(have J:Blk w4 d.heap.size 39 Qw:=(Blk.new d.drew 39 Qw).step z);obtain⟨n0,n1,n2,n3,n4,n5,n6,n7⟩:=J.method;(have f0:=J.frozen 0);(have f1:=J.frozen 1);(have f2:=J.frozen 2);(have f3:=J.frozen 3);(have f4:=J.frozen 4);(have f5:=J.frozen 5);(have f6:=J.frozen 6);(have f7:=J.frozen 7)))
 all_goals first
  |(
   generalize hw5:((((((((w4.setCell ⟨d.heap.size,0,none⟩ (.string A.name)).setCell ⟨d.heap.size,1,none⟩ (.string A.type)).setCell ⟨d.heap.size,2,none⟩ (.bool A.static)).setCell ⟨d.heap.size,3,none⟩ (.bool A.abs)).setCell ⟨d.heap.size,4,none⟩ (.bool A.priv)).setCell ⟨d.heap.size,5,none⟩ (.int .i64 (Nf:Int))).setCell ⟨d.heap.size,6,none⟩ (.slice pcf A.code.length kcf)).setCell ⟨d.heap.size,7,none⟩ (.slice phf A.handlers.length khf))=w5 at *;have i:Chg (fun b=>b=d.heap.size) w4 w5:=(by rw[<-hw5];exact(((((((Chg.one w4 d.heap.size 0 _).also 1 _).also 2 _).also 3 _).also 4 _).also 5 _).also 6 _).also 7 _);have U5:=U4.alien i (fun r hr=>by have:=(Y.out.at'.lt r _ hr).2;omega) Y.out.chg.size Y.out.at'.size;have aA:Blk w5 d.heap.size 39 [.string A.name,.string A.type,.bool A.static,.bool A.abs,.bool A.priv,.int .i64 (Nf:Int),.slice pcf A.code.length kcf,.slice phf A.handlers.length khf]:=(by rw[<-hw5];exact J.put8 _ _ _ _ _ _ _ _);have hb:Below d.heap.size d w4:=Qa (Xb.drew.alloc Xl _) Xl z;have hv5:=Hv3.out.block (w':=w5) fun g hg=>by
    have h1:=(Hf3.out g hg).2;exact(i.block g (by have:=hb.size;omega) (by omega)).trans (hb.block g h1)
   have HS5:=Xh (Xf hb.size i.size);have hfar:¬q.cb=d.heap.size:=(by have:=Y.out.at'.top.blk.lt;omega);have M:Hid ((∀r,qY k hv cv ps (qs++[q]) r≠some d.heap.size)/\w1.heap.size<=d.heap.size/\f.heap.size<=d.heap.size/\¬g3=d.heap.size):=⟨fun r hr=>by have:=(Y.out.at'.lt r _ hr).2;omega,Y.out.chg.size,Y.out.at'.size,by have:=(Hf3.out g3 rfl).2;omega⟩;clear i J n0 n1 n2 n3 n4 n5 n6 n7 f0 f1 f2 f3 f4 f5 f6 f7 U4 y3 y4 y5 y6 z hw5 hb;generalize d.heap.size=D at *)
  |(
   generalize hw5:w4.alloc (.cells #[.string A.name,.string A.type,.bool A.static,.bool A.abs,.bool A.priv,.int .i64 (Nf:Int),.slice pcf A.code.length kcf,.slice phf A.handlers.length khf] 39)=w5 at *;have hB5:Below w4.heap.size w4 w5:=(by rw[<-hw5];exact Xb.alloc Xl _);have aA:Blk w5 w4.heap.size 39 [.string A.name,.string A.type,.bool A.static,.bool A.abs,.bool A.priv,.int .i64 (Nf:Int),.slice pcf A.code.length kcf,.slice phf A.handlers.length khf]:=(by rw[<-hw5];exact Blk.new w4 _ _);have U5:=U4.step hB5;have hb:=Qa (Qa Xb.drew Xl z) Xl hB5;have hv5:=Hv3.out.block (w':=w5) fun g hg=>hb.block g (Hf3.out g hg).2
   have HS5:=Xh hb.size;have hfar:¬q.cb=w4.heap.size:=(by have:=U4.at'.top.blk.lt;omega);have M:Hid ((∀r,qY k hv cv ps (qs++[q]) r≠some w4.heap.size)/\w1.heap.size<=w4.heap.size/\f.heap.size<=w4.heap.size/\¬g3=w4.heap.size):=⟨fun r hr=>by have:=(U4.at'.lt r _ hr).2;omega,Xf Y.out.chg.size z.size,Xf Y.out.at'.size z.size,by have h1:=(Hf3.out g3 rfl).2;have h2:=z.size;change d.heap.size<=w4.heap.size at h2;omega⟩;generalize w4.heap.size=D at *;clear U4 y3 y4 y5 y6 z hw5 hB5 hb)
 all_goals
  obtain⟨y0,y1⟩:=QcF hv5 HG0.out;have x0:=(C.out _ _ _ _ _ _ _ _ _ U5).cell 0;by_cases h0:a0.n<=0
  ·have HTh:Hid (∀wx q',MW f w1 X1 wx k B hv cv ps q' v0 ⟨#[]⟩ st false->_):=fun wx q' U=>U.thing_no a0 h0
   have HVo:=Xh (HV.out.trans (if_pos h0));clear h0;go_wp2_with (go_fit (HTh.out _ _ U5);rintro e w6⟨rfl,s⟩)
   exact⟨rfl,Or.inl ⟨rfl,hv,cv,ps,_,aC.out _ _ _ _ _ _ _ _ _ s,by rw[HVo.out,za0],Hh,by simpa using H20a.out,HHo⟩⟩
  ·have aB:=HV.out.trans (if_neg h0);obtain⟨f81,f82,y,f83,f84⟩:=F8.out (by omega);obtain⟨⟨tx,tv0⟩,hj⟩:∃p,ps[a0.n.toNat-1]? = some p:=⟨_,Xn f81⟩;have hth:qj (ps.map (·.1)) a0=tx:=Zbu (by rw[List.getElem?_map,hj];rfl);have f9:=F9.out (by omega);rw[hth]at f82 f83 f9 aB;have hys:tx.type.size<=maxLen:=QaR (Qi Hh.out) tx (List.mem_map.2 ⟨(tx,tv0),Xe hj,rfl⟩);have hja:a0.n=((a0.n.toNat-1:Nat):Int)+1:=(by omega);obtain⟨g0,O,rfl⟩:∃g0 O,hv=.slice (some ⟨g0,0,none⟩) ps.length O:=by
    obtain⟨va,vc,e⟩:=Ze U5.at'.things;have hth:=U5.at'.things;rw[e]at hth;obtain⟨g,rfl,_⟩:=zaZ qaS hth rfl hj;exact⟨g,vc,e⟩
   generalize a0.n.toNat-1=j at *;have h50:ps.length<=50:=(by have:=(z7 Hh.out).1;rwa [List.length_map]at this);have HTh:Hid (∀wx q',MW f w1 X1 wx k B (.slice (some ⟨g0,0,none⟩) ps.length O) cv ps q' v0 ⟨#[]⟩ st false->_):=fun wx q' U=>U.thing_yesB rfl a0 j hja f81 h50
   cases hp:A.priv with
   |true =>
    rw[if_pos hp]at aB;obtain⟨N,hN,hN8,hgN⟩:=F7.out (Or.inr hp);obtain rfl:N=Nf:=(by have:=HNf.out;omega);have HP:Hid (∀e w',Zcj f wr X k B (.slice (some ⟨g0,0,none⟩) ps.length O) ps qs q v0 ⟨#[]⟩ st false I ⟨cf,A,0,given++List.replicate (N-given.length) v0,[]⟩ e w'->zag l f wr X k B st o e w'):=fun e w' h=>by rw[aB];exact QbL l hN h
    have HPr:=Xh hp;clear h0 aB f81 f82 f83 f84 hj hth f9 hys hja h50 hp;have p4:w5.cell? ⟨D,4,none⟩=some (.bool A.priv):=aA.cell 4;have x0:=(C.out _ _ _ _ _ _ _ _ _ U5).cell 0;rw[HPr.out]at p4;go_upto_region 12 with(go_fit (HTh.out _ _ U5);rintro e w6⟨rfl,R⟩)
    have s:=U5.step R;have v:=aA.step R;have hv6:=hv5.mono R (by decide) (fun _ _ h=>h);have HS6:=Xh (Xf HS5.out R.size);have p4:w6.cell? ⟨D,4,none⟩=some (.bool A.priv):=v.cell 4;rw[HPr.out]at p4;clear U5 aA hv5 HS5;have hgq:∀g,(Value.slice (some ⟨g3,o3,none⟩) gk c3).ownBlock=some g->¬g=q.cb:=fun g hg=>by have:=(Hf3.out g hg).1;have:=HQ2.out;omega
    have x0:=(C.out _ _ _ _ _ _ _ _ _ s).cell 0;have q12:w6.cell? ⟨q.cb,11,none⟩=some (.slice sp (I.length+gk) sk):=(by rw[<-L,<-hsv];exact s.at'.top.blk.cell 11);have fq:=s.at'.top.blk.frozen 11;have H:=s.at'.top.stack;rw[hsv,L,hS]at H;have hhd:=zbN H;go_upto_region 17 with fail;have hcp:Z4 f.heap.size w6 q.cb q.cv q.hv q.lv q.sv { q.c with S:=I } (w6.setCell ⟨q.cb,11,none⟩ (.slice sp I.length sk)):=by
     have hor:(Value.slice sp I.length sk).ownBlock=q.sv.ownBlock:=(by rw[hsv];cases sp<;>rfl);exact⟨(Chg.refl (Qaq q.cb q.lv q.sv) w6).set (p:=⟨q.cb,11,none⟩) (fun _=>Or.inl rfl) _,_,s.at'.top.stacked s.at'.top.blk s.at'.top.locals (Qb8 I given H) (Or.inl hor),Or.inl hor⟩
    obtain⟨-,sv8,U8⟩:=s.cal (c':={ q.c with S:=I }) rfl hcp;have hk8:=v.other (fun e=>hfar e.symm) 11 (.slice sp I.length sk);have hv8:Qe (w6.setCell ⟨q.cb,11,none⟩ (.slice sp I.length sk)) 2 qy (Value.slice (some ⟨g3,o3,none⟩) gk c3) given:=hv6.block fun g hg=>Below.heap_setCell _ _ _ _ (hgq g hg)
    have hEn:=Zbj f _ k B (.slice (some ⟨g0,0,none⟩) ps.length O) cv ps _ v0 ⟨#[]⟩ st false U8.at' cf A.name A.type A.static A.abs A.priv N A.code A.handlers pcf phf kcf khf hf1 hf2 hN8 given (Value.slice (some ⟨g3,o3,none⟩) gk c3) hv8 hgN;have hmm:(⟨A.name,A.type,A.static,A.abs,A.priv,(N:Int),A.code,A.handlers⟩:qc)=A:=(by rw[<-hN]);rw[hmm]at hEn;have aD:=Xh hEn;obtain⟨n0,n1,n2,n3,n4,n5,n6,n7⟩:=hk8.cells8;have HU8:=Xh U8;clear hcp hk8 hv8 hEn U8 s H v hv6 hgq hmm hhd q12;generalize w6.setCell ⟨q.cb,11,none⟩ (.slice sp I.length sk)=w8 at *;by_cases E:20<=(qs++[(⟨q.cb,q.cv,q.hv,q.lv,sv8,{ q.c with S:=I }⟩:Zs)]).length
    ·have HE2:=Xh (aD.out.mono fun e w' h=>QbM h E);have H20:Hid (20<=qs.length+1):=(by rw[List.length_append]at E;exact E);clear E aD;go_wp2_with (go_fit HE2.out;rintro e w9⟨rfl,hB9⟩)
     exact⟨rfl,HP.out _ _ (Or.inl ⟨H20,rfl,(aC.out _ _ _ _ _ _ _ _ _ (HU8.out.step hB9)).chg⟩)⟩
    ·have HE2:=Xh (aD.out.mono fun e w' h=>qb8 HU8.out h E);have H20:Hid (qs.length+1<20):=(by rw[List.length_append]at E;exact Nat.lt_of_not_le E);clear E aD;go_wp2_with (go_fit HE2.out;rintro e w9⟨rfl,cv9,qn,U9,hqn⟩)
     go_end0;exact HP.out _ _ (Or.inr ⟨H20,rfl,cv9,sv8,qn,aC.out _ _ _ _ _ _ _ _ _ U9,hqn⟩)
   |false =>
    rw[if_neg (by rw[hp];decide)]at aB;have HTx:Hid (∀wx q',MW f w1 X1 wx k B (.slice (some ⟨g0,0,none⟩) ps.length O) cv ps q' v0 ⟨#[]⟩ st false->wx.cell? ⟨g0,j*2,none⟩=some (.string tx.type)):=fun wx q' U=>by
     obtain⟨g,e,_,_,hc⟩:=zaZ qaS U.at'.things rfl hj;injection e with e
     injection e with e
     subst e;exact hc 0 (by decide)
    have HOw:Hid (∀wx,_):=fun wx=>Qez tx.type y wx f83 f84 hys
    have HPr:=Xh hp;cases hcb:QB (Qs (Za l) (ZO tx.type) name t) with
    |true =>
     obtain⟨cn,m,N,hcd,hN,hN8,hgN⟩:=f9 hcb;rw[if_pos hcb,hcd]at aB;rw[hcd]at hcb;have HP:Hid (∀e w',Zcj f wr X k B (.slice (some ⟨g0,0,none⟩) ps.length O) ps qs q v0 ⟨#[]⟩ st false I ⟨cn,m,0,given++List.replicate (N-given.length) v0,[]⟩ e w'->zag l f wr X k B st o e w'):=fun e w' h=>by rw[aB];exact QbL l hN h
     have HCa:=Xh (fun(wx:World) (hb:Below f.heap.size f wx)=>ZdY w00 f wx B l HM0.out hb (ZO tx.type) name t f82 cn m hcd hcb N hN);clear h0 aB f81 f82 f83 f84 hj hth f9 hys hja h50 hp hcb hcd;have p4:w5.cell? ⟨D,4,none⟩=some (.bool A.priv):=aA.cell 4;have x0:=(C.out _ _ _ _ _ _ _ _ _ U5).cell 0;rw[HPr.out]at p4;go_upto_region 12 with(go_fit (HTh.out _ _ U5);rintro e w6⟨rfl,R⟩)
     have s:=U5.step R;have v:=aA.step R;have hv6:=hv5.mono R (by decide) (fun _ _ h=>h);have HS6:=Xh (Xf HS5.out R.size);have p4:w6.cell? ⟨D,4,none⟩=some (.bool A.priv):=v.cell 4;rw[HPr.out]at p4;clear U5 aA hv5 HS5;obtain⟨-,-,-,j3,-,j5⟩:=(C.out _ _ _ _ _ _ _ _ _ s).cells6;have j6:=s.at'.cells.1;have j7:=HTx.out _ _ s;go_upto_region 14 with fail;have e5:¬D=k:=fun e=>M.out.1 .m (by rw[e];rfl)
     have e6:¬k=D:=fun e=>e5 e.symm
     have e7:¬D=g0:=fun e=>M.out.1 .hs (by rw[e];rfl)
     have e8:¬g0=D:=fun e=>e7 e.symm
     have e9:¬D=w.heap.size:=(by have h:=M.out.2.1;rw[<-HW1.out,World.size_alloc]at h;omega);have e10:¬w.heap.size=D:=fun e=>e9 e.symm
     have Z:=Xh s;have HK6:=Xh v;have HV6:=Xh hv6;clear s v hv6 p4;go_region_held3 (fun w'=>w'.cell? ⟨k,0,none⟩=some (.map (some B))/\w'.cell? ⟨g0,j*2,none⟩=some (.string tx.type)/\w'.cell? ⟨w.heap.size,5,none⟩=some (.string name)/\w'.cell? ⟨w.heap.size,3,none⟩=some (.string t)) (go_keep)
      (first
       |(go_fit (HOw.out _);rintro e w7⟨rfl,rfl⟩)
       |(go_at_call 33;(refine(HCa.out _ ?_).mono ?_);(exact Z.out.drew.at'.below);rintro e w8⟨pc,kc,ph,kh,rfl,hm1,hm2,V⟩;(have J:=(HK6.out.step Xb.drew).step V);obtain⟨n0,n1,n2,n3,n4,n5,n6,n7⟩:=J.cells8;(have f0:=J.frozen 0);(have f1:=J.frozen 1);(have f2:=J.frozen 2);(have f3:=J.frozen 3);(have f4:=J.frozen 4);(have f5:=J.frozen 5);(have f6:=J.frozen 6);(have f7:=J.frozen 7);(have y7:=HTx.out _ _ (Z.out.drew.step V));obtain⟨-,-,-,y3,-,y5⟩:=(C.out _ _ _ _ _ _ _ _ _ (Z.out.drew.step V)).cells6;(have y6:=(Z.out.drew.step V).at'.cells.1)))
     generalize hw9:((((((((w8.setCell ⟨D,0,none⟩ (.string m.name)).setCell ⟨D,1,none⟩ (.string m.type)).setCell ⟨D,2,none⟩ (.bool m.static)).setCell ⟨D,3,none⟩ (.bool m.abs)).setCell ⟨D,4,none⟩ (.bool m.priv)).setCell ⟨D,5,none⟩ (.int .i64 (N:Int))).setCell ⟨D,6,none⟩ (.slice pc m.code.length kc)).setCell ⟨D,7,none⟩ (.slice ph m.handlers.length kh))=w9 at *;have i:Chg (fun b=>b=D) w8 w9:=(by rw[<-hw9];exact(((((((Chg.one w8 D 0 _).also 1 _).also 2 _).also 3 _).also 4 _).also 5 _).also 6 _).also 7 _);have U9:=(Z.out.drew.step V).alien i M.out.1 M.out.2.1 M.out.2.2.1;have hk9:Blk w9 D 39 [.string m.name,.string m.type,.bool m.static,.bool m.abs,.bool m.priv,.int .i64 (N:Int),.slice pc m.code.length kc,.slice ph m.handlers.length kh]:=(by rw[<-hw9];exact J.put8 _ _ _ _ _ _ _ _);have hb68:Below w6.heap.size w6 w8:=Qa Xb.drew Xl V;have hv8:=HV6.out.mono hb68 (by decide) (fun _ _ h=>h);have hg3:g3<w8.heap.size/\¬g3=D:=⟨Nat.lt_of_lt_of_le (Hf3.out g3 rfl).2 (Xf HS6.out hb68.size),M.out.2.2.2⟩;have hv9:=zfg hv8 i fun g hg=>zfr (P:=fun x=>x<w8.heap.size/\¬x=D) hg hg3
     have HS9:=Xh (Xf (Xf HS6.out hb68.size) i.size);clear i J n0 n1 n2 n3 n4 n5 n6 n7 f0 f1 f2 f3 f4 f5 f6 f7 y3 y5 y6 y7 V hb68 hv8 hg3 Z HK6 HV6 j3 j5 j6 j7;clear hw9;have HNd:Hid (∀wx,_):=fun wx=>Qaa wx
     go_upto_region 16 with(go_fit (HNd.out _);rintro e wz⟨rfl,rfl⟩)
     have hgq:∀g,(Value.slice (some ⟨g3,o3,none⟩) gk c3).ownBlock=some g->¬g=q.cb:=fun g hg=>by have:=(Hf3.out g hg).1;have:=HQ2.out;omega
     have x0:=(C.out _ _ _ _ _ _ _ _ _ U9).cell 0;have q12:w9.cell? ⟨q.cb,11,none⟩=some (.slice sp (I.length+gk) sk):=(by rw[<-L,<-hsv];exact U9.at'.top.blk.cell 11);have fq:=U9.at'.top.blk.frozen 11;have H:=U9.at'.top.stack;rw[hsv,L,hS]at H;have hhd:=zbN H;go_upto_region 17 with fail;have hcp:Z4 f.heap.size w9 q.cb q.cv q.hv q.lv q.sv { q.c with S:=I } (w9.setCell ⟨q.cb,11,none⟩ (.slice sp I.length sk)):=by
      have hor:(Value.slice sp I.length sk).ownBlock=q.sv.ownBlock:=(by rw[hsv];cases sp<;>rfl);exact⟨(Chg.refl (Qaq q.cb q.lv q.sv) w9).set (p:=⟨q.cb,11,none⟩) (fun _=>Or.inl rfl) _,_,U9.at'.top.stacked U9.at'.top.blk U9.at'.top.locals (Qb8 I given H) (Or.inl hor),Or.inl hor⟩
     obtain⟨-,sv10,U10⟩:=U9.cal (c':={ q.c with S:=I }) rfl hcp;have hk10:=hk9.other (fun e=>hfar e.symm) 11 (.slice sp I.length sk);have hv10:Qe (w9.setCell ⟨q.cb,11,none⟩ (.slice sp I.length sk)) 2 qy (Value.slice (some ⟨g3,o3,none⟩) gk c3) given:=hv9.block fun g hg=>Below.heap_setCell _ _ _ _ (hgq g hg)
     have hEn:=Zbj f _ k B (.slice (some ⟨g0,0,none⟩) ps.length O) cv ps _ v0 ⟨#[]⟩ st false U10.at' cn m.name m.type m.static m.abs m.priv N m.code m.handlers pc ph kc kh hm1 hm2 hN8 given (Value.slice (some ⟨g3,o3,none⟩) gk c3) hv10 hgN;have hmm:(⟨m.name,m.type,m.static,m.abs,m.priv,(N:Int),m.code,m.handlers⟩:qc)=m:=(by rw[<-hN]);rw[hmm]at hEn;have aD:=Xh hEn;obtain⟨n0,n1,n2,n3,n4,n5,n6,n7⟩:=hk10.cells8;have HU10:=Xh U10;clear hcp hk10 hv10 hEn U10 U9 H hk9 hv9 hgq hmm hhd q12;generalize w9.setCell ⟨q.cb,11,none⟩ (.slice sp I.length sk)=w10 at *;by_cases E:20<=(qs++[(⟨q.cb,q.cv,q.hv,q.lv,sv10,{ q.c with S:=I }⟩:Zs)]).length
     ·have HE2:=Xh (aD.out.mono fun e w' h=>QbM h E);have H20:Hid (20<=qs.length+1):=(by rw[List.length_append]at E;exact E);clear E aD;go_wp2_with (go_fit HE2.out;rintro e w11⟨rfl,hB11⟩)
      exact⟨rfl,HP.out _ _ (Or.inl ⟨H20,rfl,(aC.out _ _ _ _ _ _ _ _ _ (HU10.out.step hB11)).chg⟩)⟩
     ·have HE2:=Xh (aD.out.mono fun e w' h=>qb8 HU10.out h E);have H20:Hid (qs.length+1<20):=(by rw[List.length_append]at E;exact Nat.lt_of_not_le E);clear E aD;go_wp2_with (go_fit HE2.out;rintro e w11⟨rfl,cv11,qn,U11,hqn⟩)
      go_end0;exact HP.out _ _ (Or.inr ⟨H20,rfl,cv11,sv10,qn,aC.out _ _ _ _ _ _ _ _ _ U11,hqn⟩)
    |false =>
     have HVo:=Xh (aB.trans (if_neg (by rw[hcb];decide)));have HCa:=Xh (fun(wx:World) (hb:Below f.heap.size f wx)=>zeA w00 f wx B l HM0.out hb (ZO tx.type) name t f82 hcb);clear h0 aB f81 f82 f83 f84 hj hth f9 hys hja h50 hp hcb;have p4:w5.cell? ⟨D,4,none⟩=some (.bool A.priv):=aA.cell 4;have x0:=(C.out _ _ _ _ _ _ _ _ _ U5).cell 0;rw[HPr.out]at p4;go_upto_region 12 with(go_fit (HTh.out _ _ U5);rintro e w6⟨rfl,R⟩)
     have s:=U5.step R;have v:=aA.step R;have hv6:=hv5.mono R (by decide) (fun _ _ h=>h);have HS6:=Xh (Xf HS5.out R.size);have p4:w6.cell? ⟨D,4,none⟩=some (.bool A.priv):=v.cell 4;rw[HPr.out]at p4;clear U5 aA hv5 HS5;obtain⟨-,-,-,j3,-,j5⟩:=(C.out _ _ _ _ _ _ _ _ _ s).cells6;have j6:=s.at'.cells.1;have j7:=HTx.out _ _ s;go_upto_region 14 with fail;have e5:¬D=k:=fun e=>M.out.1 .m (by rw[e];rfl)
     have e6:¬k=D:=fun e=>e5 e.symm
     have e7:¬D=g0:=fun e=>M.out.1 .hs (by rw[e];rfl)
     have e8:¬g0=D:=fun e=>e7 e.symm
     have e9:¬D=w.heap.size:=(by have h:=M.out.2.1;rw[<-HW1.out,World.size_alloc]at h;omega);have e10:¬w.heap.size=D:=fun e=>e9 e.symm
     have Z:=Xh s;have HK6:=Xh v;have HV6:=Xh hv6;clear s v hv6 p4;go_region_held3 (fun w'=>w'.cell? ⟨k,0,none⟩=some (.map (some B))/\w'.cell? ⟨g0,j*2,none⟩=some (.string tx.type)/\w'.cell? ⟨w.heap.size,5,none⟩=some (.string name)/\w'.cell? ⟨w.heap.size,3,none⟩=some (.string t)) (go_keep)
      (first
       |(go_fit (HOw.out _);rintro e w7⟨rfl,rfl⟩)
       |(go_at_call 33;(refine(HCa.out _ ?_).mono ?_);(exact Z.out.drew.at'.below);rintro e w8⟨cn,mn,mt,b1,b2,b3,lo,pc,nc,kc,ph,nh,kh,rfl,V⟩;(have J:=(HK6.out.step Xb.drew).step V);obtain⟨n0,n1,n2,n3,n4,n5,n6,n7⟩:=J.cells8;(have f0:=J.frozen 0);(have f1:=J.frozen 1);(have f2:=J.frozen 2);(have f3:=J.frozen 3);(have f4:=J.frozen 4);(have f5:=J.frozen 5);(have f6:=J.frozen 6);(have f7:=J.frozen 7);(have y7:=HTx.out _ _ (Z.out.drew.step V));obtain⟨-,-,-,y3,-,y5⟩:=(C.out _ _ _ _ _ _ _ _ _ (Z.out.drew.step V)).cells6;(have y6:=(Z.out.drew.step V).at'.cells.1)))
     generalize hw9:((((((((w8.setCell ⟨D,0,none⟩ (.string mn)).setCell ⟨D,1,none⟩ (.string mt)).setCell ⟨D,2,none⟩ (.bool b1)).setCell ⟨D,3,none⟩ (.bool b2)).setCell ⟨D,4,none⟩ (.bool b3)).setCell ⟨D,5,none⟩ (.int .i64 lo)).setCell ⟨D,6,none⟩ (.slice pc nc kc)).setCell ⟨D,7,none⟩ (.slice ph nh kh))=w9 at *;have i:Chg (fun b=>b=D) w8 w9:=(by rw[<-hw9];exact(((((((Chg.one w8 D 0 _).also 1 _).also 2 _).also 3 _).also 4 _).also 5 _).also 6 _).also 7 _);have U9:=(Z.out.drew.step V).alien i M.out.1 M.out.2.1 M.out.2.2.1;clear i J n0 n1 n2 n3 n4 n5 n6 n7 f0 f1 f2 f3 f4 f5 f6 f7 y3 y5 y6 y7 V Z HK6 HV6 j3 j5 j6 j7;clear hw9;have HNd:Hid (∀wx,_):=fun wx=>ZY wx
     go_wp2_with (go_fit (HNd.out _);rintro e wz⟨rfl,rfl⟩)
     exact⟨rfl,Or.inl ⟨rfl,(.slice (some ⟨g0,0,none⟩) ps.length O),cv,ps,_,aC.out _ _ _ _ _ _ _ _ _ U9,by rw[HVo.out,za0],Hh,by simpa using H20a.out,HHo⟩⟩
