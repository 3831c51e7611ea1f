/- Lemmas; conditions: as each states. -/
import Derived.Test.YtmclocdhcblbiaaGreatDoorZRunThrow
set_option maxHeartbeats 4000000
namespace Go.Proofs.YtmclocdhcblbiaaGreatDoor
open Go.RowKit Go.Shelf Go.Lib Tryz
def Zfx(l:List qa)(c n:Str):Option (Str×QJ):=if zy l c=0 then zaM (Za l) c n else none
set_option maxRecDepth 100000
theorem zc0(w0 w:World)(B:Nat)(l:List qa)(F:qh w0 w B l)(c n:Str)(H:(Qb (Za l) c).isSome=true):
 Calls prog 124 #[.map (some B),.string c,.string n] w fun e w'=>e=.returned (.int .i64 (qfs (qav (Za l) c n)))/\Below w.heap.size w w':=by
 have G:=Xh (Zca w0 w B l F c n H);have I:Hid (∀wx,Below w.heap.size w wx->_):=fun wx i=>qbS w0 wx B l (F.step i) c H
 unfold Zbn at I;have U:=Zbx F.right F.faults H;have A:=Qdu F.right (n:=n) H;clear F H;generalize qav (Za l) c n=Z at *;generalize qW (Za l) c=S at *;cases T:zaM (Za l) c n with
 |none =>
  rw[T]at A G;simp only[qbZ]at G;replace A:Z=none:=A;subst A;clear T;go_enter func124,ntmps124;go_wp2_with (go_fit G.out;rintro e O⟨rfl,C⟩)
  go_ret;exact⟨rfl,C.alloc C.size _⟩
 |some x =>
  rw[T]at A G;obtain⟨a,f⟩:=x;obtain⟨k,b,X⟩:∃k,Z=some k/\qX (a,f) S=some k:=A;subst b;simp only[qbZ]at G;have j:=Xh X;have D:Hid (∀(base:Nat) (p:Option Addr) (cap:Nat) (wx:World),wx.ownsRow base 207 3 (.slice p S.length cap) S.length (S.flatMap QaA)->_):=fun base p cap wx h=>qcL S base p cap (a,f) wx h U
  rw[X]at D;dsimp only at D;clear T X;go_enter func124,ntmps124;go_upto_region 4 with(go_fit G.out;rintro e O⟨rfl,C⟩)
  have R:=Zdq O #[.string f.name,.string f.type] 118;have J:=Qa C Xl R.below;generalize O.alloc (.cells #[.string f.name,.string f.type] 118)=y at *;obtain⟨d,g,_⟩:=R.cells;have L:=R.size;have M:=Xh J;clear R J C;go_region_with (first
   |(go_fit (I.out _ M.out.drew);rintro e s⟨⟨t,rfl,P⟩,E⟩;obtain⟨q,r,rfl⟩:=Ze P;(have m:=(E.cell (p:=⟨O.heap.size,0,none⟩) L).trans d);(have o:=(E.cell (p:=⟨O.heap.size,1,none⟩) L).trans g);(have N:=Xh (D.out _ _ _ _ P));(have V:=Xh (Qa M.out.drew Xl E)))
   |(go_fit N.out;rintro e v⟨rfl,Y⟩))
  all_goals
   go_wp2
   go_ret;exact⟨rfl,Qa V Xl Y⟩
def zcF(hv:Value)(ps:List (Zc×Value))(a iv:Val)(e:Ending):Prop :=
 (a.n<=0/\e=.panicked [Qaf])\/(∃(j:Nat) (x:Zc) (xv:Value) (g cap:Nat),a.n=(j:Int)+1/\ps[j]? = some (x,xv)/\hv=.slice (some ⟨g,0,none⟩) ps.length cap /\
  (((iv.n<0\/(x.has.length:Int)<=iv.n)/\e=.panicked [Qaf])\/(0<=iv.n/\iv.n<(x.has.length:Int)/\e=.returned (.tuple #[.pointer (some ⟨g,j*2,none⟩),.int .i64 iv.n]))))
section
variable {w0 wr w w':World} {X:Nat->Prop} {kb B:Nat} {hv cv:Value} {ps:List (Zc×Value)} {qs:List Zs} {q:Zs} {tv:Val} {th:Str} {st:Int} {ov:Bool}
theorem Qk.thingAt(h:Qk w0 w kb B hv cv ps qs tv th st ov){j:Nat}{x:Zc}{A:Value}(E:ps[j]? = some (x,A)):∃g cap,hv=.slice (some ⟨g,0,none⟩) ps.length cap/\g<w.heap.size/\w.cell? ⟨g,j*2,none⟩=some (.string x.type)/\w.cell? ⟨g,j*2+1,none⟩=some A/\(∃C D,A=.slice C x.has.length D)/\w.ownsRow w0.heap.size 43 2 A x.has.length (x.has.flatMap Zt):=by
 obtain⟨J,H,rfl⟩:=Ze h.things;obtain⟨g,rfl,_,I,G⟩:=zaZ qaS h.things rfl E;have F:=h.has (x,A) (Xe E);refine⟨g,H,rfl,I,G 0 (by decide),G 1 (by decide),?_,F⟩;obtain⟨C,D,e⟩:=Ze F;exact⟨C,D,e⟩
theorem Qk.at1{g cap:Nat}(h:Qk w0 w kb B (.slice (some ⟨g,0,none⟩) ps.length cap) cv ps qs tv th st ov){j:Nat}{x:Zc}{C:Value}(D:ps[j]? = some (x,C)):w.cell? ⟨g,j*2,none⟩=some (.string x.type)/\w.cell? ⟨g,j*2+1,none⟩=some C/\g<w.heap.size:=by
 obtain⟨E,A,e,F,G,H,_⟩:=h.thingAt D;obtain⟨rfl,rfl⟩:g=E/\cap=A:=by simpa using e
 exact⟨G,H,F⟩
theorem Qk.rowAt(h:Qk w0 w kb B hv cv ps qs tv th st ov){j n:Nat}{x:Zc}{D:Value}{u:Val}(E:ps[j]? = some (x,D))(F:x.has[n]? = some u):∃A C,D=.slice (some ⟨A,0,none⟩) x.has.length C:=by
 obtain⟨_,_,_,_,_,_,_,G⟩:=h.thingAt E;obtain⟨A,C,e,_⟩:=qbM G F;exact⟨A,C,e⟩
theorem Qk.at2(h:Qk w0 w kb B hv cv ps qs tv th st ov){j n A m D:Nat}{x:Zc}{u:Val}(E:ps[j]? = some (x,.slice (some ⟨A,0,none⟩) m D))(F:x.has[n]? = some u):w.cell? ⟨A,n*2,none⟩=some (.int .i64 u.kind)/\w.cell? ⟨A,n*2+1,none⟩=some (.int .i64 u.n)/\w.frozen? ⟨A,n*2,none⟩=false/\w.frozen? ⟨A,n*2+1,none⟩=false/\A<w.heap.size:=by
 obtain⟨_,_,_,_,_,_,_,G⟩:=h.thingAt E;obtain⟨C,H,e,I,J,L,M,N⟩:=qbM G F;obtain⟨rfl,_⟩:A=C/\_:=by simpa using e
 exact⟨J,L,M,N,I⟩
theorem MW.thing_no(T:MW w0 wr X w kb B hv cv ps qs tv th st ov)(v:Val)(A:v.n<=0):Calls prog 118 #[.pointer (some ⟨kb,0,none⟩),.agg #[.int .i64 v.kind,.int .i64 v.n]] w fun e w'=>e=.panicked [Qaf]/\MW w0 wr X w' kb B hv cv ps qs tv th st ov :=
 (Zey w kb v.kind v.n A).mono fun _ _ ⟨C,D⟩=>⟨C,T.step D⟩
theorem MW.thing_yes(T:MW w0 wr X w kb B hv cv ps qs tv th st ov){g cap:Nat}(E:hv=.slice (some ⟨g,0,none⟩) ps.length cap)(v:Val)(j:Nat)(C:v.n=(j:Int)+1)(F:j<ps.length)(D:ps.length<=50):Calls prog 118 #[.pointer (some ⟨kb,0,none⟩),.agg #[.int .i64 v.kind,.int .i64 v.n]] w fun e w'=>e=.returned (.pointer (some ⟨g,j*2,none⟩))/\MW w0 wr X w' kb B hv cv ps qs tv th st ov:=by
 obtain⟨G,A,e,h⟩:=zcE w0 w kb B hv cv ps qs tv th st ov T.at' v.kind j F D;rw[E]at e;obtain⟨rfl,rfl⟩:g=G/\cap=A:=by simpa using e
 rw[C];exact h.mono fun _ _ ⟨H,I⟩=>⟨H,T.step I⟩
theorem MW.mored(T:MW w0 wr X w kb B hv cv ps qs tv th st ov){C D:Value}{x:Zc}(H:Chg (fun b=>b=kb\/hv.ownBlock=some b\/D.ownBlock=some b) w w')(F:∀b,D.ownBlock=some b->wr.heap.size<=b)(I:Qk w0 w' kb B C cv (ps++[(x,D)]) qs tv th st ov)(J:C.ownBlock=hv.ownBlock\/∀b,C.ownBlock=some b->w.heap.size<=b):
 MW w0 wr X w' kb B C cv (ps++[(x,D)]) qs tv th st ov:=by
 refine⟨I,T.chg.trans H (fun i E L=>?_),fun r b A=>?_⟩
 ·rcases L with h|h|h
  ·rcases T.parts .m i (by rw[h];rfl) with k|k
   ·exact k
   ·omega
  ·rcases T.parts .hs i h with k|k
   ·exact k
   ·omega
  ·have:=F i h;omega
 ·cases r with
  |m=>exact T.parts .m b A
  |hs =>
   have A:C.ownBlock=some b:=A;rcases J with h|h
   ·exact T.parts .hs b (by rw[<-A,h];rfl)
   ·exact Or.inr (Xf T.chg.size (h b A))
  |cs=>exact T.parts .cs b A
  |has i =>
   change ((ps++[(x,D)])[i]?).bind _=some b at A;cases E:(ps++[(x,D)])[i]? with
   |none=>rw[E]at A;cases A
   |some y =>
    rw[E]at A;rcases zaD E with⟨e,_⟩|⟨P,R⟩
    ·refine T.parts (.has i) b ?_;show(ps[i]?).bind _=_
     rw[e];exact A
    ·subst P R;exact Or.inr (F b A)
  |call i=>exact T.parts (.call i) b A
  |loc i=>exact T.parts (.loc i) b A
  |stk i=>exact T.parts (.stk i) b A
theorem MW.store(T:MW w0 wr X w kb B hv cv ps qs tv th st ov){i j g n cap:Nat}{x:Zc}(C:ps[i]? = some (x,.slice (some ⟨g,0,none⟩) n cap))(G:j<x.has.length)(u:Val):
 MW w0 wr X ((w.setCell ⟨g,j*2,none⟩ (.int .i64 u.kind)).setCell ⟨g,j*2+1,none⟩ (.int .i64 u.n)) kb B hv cv (ps.set i ({ x with has:=x.has.set j u },.slice (some ⟨g,0,none⟩) n cap)) qs tv th st ov:=by
 have H:=(List.getElem?_eq_some_iff.1 C).1;have I:qY kb hv cv ps qs (.has i)=some g:=by show(ps[i]?).bind _=_;rw[C];rfl
 refine⟨T.at'.store C G u,T.over (((Chg.one w g (j*2) (.int .i64 u.kind)).also (j*2+1) (.int .i64 u.n)).mono fun _ _ h=>by rw[h];exact⟨.has i,I⟩),fun r b A=>?_⟩;cases r with
 |has E =>
  refine T.parts (.has E) b ?_;change ((ps.set i _)[E]?).bind _=some b at A;show(ps[E]?).bind _=some b
  rw[List.getElem?_set]at A;split at A
  ·rename_i J;subst J;rw[C];exact A
  ·exact A
 |m=>exact T.parts .m b A
 |hs=>exact T.parts .hs b A
 |cs=>exact T.parts .cs b A
 |call i=>exact T.parts (.call i) b A
 |loc i=>exact T.parts (.loc i) b A
 |stk i=>exact T.parts (.stk i) b A
theorem MW.size(T:MW w0 wr X w kb B hv cv ps qs tv th st ov):wr.heap.size<=w.heap.size:=T.chg.size
end
theorem Zb8(w0 w:World)(kb B:Nat)(hv cv:Value)(ps:List (Zc×Value))(qs:List Zs)(q:Zs)(tv:Val)(th:Str)(st:Int)(ov:Bool)(wr:World)(X:Nat->Prop)(T:MW w0 wr X w kb B hv cv ps (qs++[q]) tv th st ov)(S:List Val)(a A:Val)(f:q.c.S=S++[a]++[A])(h:0<a.n->a.n.toNat-1<ps.length)(I:ps.length<=50):
 Calls prog 125 #[.pointer (some ⟨kb,0,none⟩),.pointer (some ⟨q.cb,0,none⟩)] w fun e w'=>zcF hv ps a A e/\∃s,MW w0 wr X w' kb B hv cv ps (qs++[⟨q.cb,q.cv,q.hv,q.lv,s,{ q.c with S:=S }⟩]) tv th st ov:=by
 have Z:=Xh T;have b:=Xh f;have y:=QaL;by_cases i:0<a.n
 ·obtain⟨j,L⟩:∃j:Nat,a.n=(j:Int)+1:=⟨a.n.toNat-1,by omega⟩;have J:j<ps.length:=by have:=h i;omega
  obtain⟨⟨x,xv⟩,d⟩:∃p,ps[j]? = some p:=⟨_,Xn J⟩;obtain⟨g,cap,rfl,-,-,-,⟨xp,xk,rfl⟩,-⟩:=T.at'.thingAt d;have F:Hid (∀wx C,MW w0 wr X wx kb B (.slice (some ⟨g,0,none⟩) ps.length cap) cv ps (qs++[⟨q.cb,q.cv,q.hv,q.lv,C,{ q.c with S:=S }⟩]) tv th st ov->_):=fun wx C U=>U.thing_yes rfl a j L J I
  have k:=Xh d;have l:Hid (∀e,(((A.n<0\/(x.has.length:Int)<=A.n)/\e=Ending.panicked [Qaf])\/(0<=A.n/\A.n<(x.has.length:Int)/\e=Ending.returned (.tuple #[.pointer (some ⟨g,j*2,none⟩),.int .i64 A.n])))->_):=fun e H=>(Or.inr ⟨j,x,_,g,cap,L,d,rfl,H⟩:zcF (.slice (some ⟨g,0,none⟩) ps.length cap) ps a A e)
  clear T f h I i L J d;by_cases P:0<=A.n
  ·have z:decide (0<=A.n)=true:=Xj P;by_cases R:A.n<(x.has.length:Int)
   ·have z2:decide (A.n<(x.has.length:Int))=true:=Xj R;have E:=Xh (And.intro P R);have V:Hid (∀wx,_):=fun wx=>Qaa wx
    clear P R;go_enter func125,ntmps125;go_wp2_with (first
     |(go_fit (Z.out.pop b.out);rintro e m⟨rfl,-,C,M⟩)
     |(go_fit (M.pop rfl);rintro e o⟨rfl,-,N,O⟩)
     |(go_fit (F.out _ _ O);rintro e r⟨rfl,G⟩;obtain⟨Y,D,H,-,-,t,-,-⟩:=G.at'.thingAt k.out;obtain⟨rfl,rfl⟩:g=Y/\cap=D:=by simpa using H)
     |(go_fit (V.out _);rintro e v⟨rfl,rfl⟩))
    go_ret2;exact⟨l.out _ (Or.inr ⟨E.out.1,E.out.2,rfl⟩),_,G⟩
   ·have z2:decide (A.n<(x.has.length:Int))=false:=Xi R;have E:Hid (A.n<0\/(x.has.length:Int)<=A.n):=Or.inr (by omega);have V:Hid (∀wx,_):=fun wx=>ZY wx
    clear P R;go_enter func125,ntmps125;go_wp2_with (first
     |(go_fit (Z.out.pop b.out);rintro e m⟨rfl,-,C,M⟩)
     |(go_fit (M.pop rfl);rintro e o⟨rfl,-,N,O⟩)
     |(go_fit (F.out _ _ O);rintro e r⟨rfl,G⟩;obtain⟨Y,D,H,-,-,t,-,-⟩:=G.at'.thingAt k.out;obtain⟨rfl,rfl⟩:g=Y/\cap=D:=by simpa using H)
     |(go_fit (V.out _);rintro e v⟨rfl,rfl⟩))
    exact⟨rfl,l.out _ (Or.inl ⟨E,rfl⟩),_,G⟩
  ·have z:decide (0<=A.n)=false:=Xi P;have E:Hid (A.n<0\/(x.has.length:Int)<=A.n):=Or.inl (by omega);have V:Hid (∀wx,_):=fun wx=>ZY wx
   clear P;go_enter func125,ntmps125;go_wp2_with (first
    |(go_fit (Z.out.pop b.out);rintro e m⟨rfl,-,C,M⟩)
    |(go_fit (M.pop rfl);rintro e o⟨rfl,-,N,O⟩)
    |(go_fit (F.out _ _ O);rintro e r⟨rfl,G⟩;obtain⟨Y,D,H,-,-,t,-,-⟩:=G.at'.thingAt k.out;obtain⟨rfl,rfl⟩:g=Y/\cap=D:=by simpa using H)
    |(go_fit (V.out _);rintro e v⟨rfl,rfl⟩))
   exact⟨rfl,l.out _ (Or.inl ⟨E,rfl⟩),_,G⟩
 ·have HL:Hid (∀e,e=Ending.panicked [Qaf]->zcF hv ps a A e):=fun e H=>Or.inl ⟨by omega,H⟩
  have F:Hid (∀wx C,MW w0 wr X wx kb B hv cv ps (qs++[⟨q.cb,q.cv,q.hv,q.lv,C,{ q.c with S:=S }⟩]) tv th st ov->_):=fun wx C U=>U.thing_no a (by omega)
  clear T f h I i;go_enter func125,ntmps125;go_wp2_with (first
   |(go_fit (Z.out.pop b.out);rintro e m⟨rfl,-,C,M⟩)
   |(go_fit (M.pop rfl);rintro e o⟨rfl,-,N,O⟩)
   |(go_fit (F.out _ _ O);rintro e r⟨rfl,G⟩))
  exact⟨rfl,HL.out _ rfl,_,G⟩
theorem MW.elemN{w0 wr w:World}{X:Nat->Prop}{kb B:Nat}{hv cv:Value}{ps:List (Zc×Value)}{qs:List Zs}{q:Zs}{tv:Val}{th:Str}{st:Int}{ov:Bool}(T:MW w0 wr X w kb B hv cv ps (qs++[q]) tv th st ov){S:List Val}{a D:Val}(E:q.c.S=S++[a]++[D])(H:a.n<=0)(A:ps.length<=50):Calls prog 125 #[.pointer (some ⟨kb,0,none⟩),.pointer (some ⟨q.cb,0,none⟩)] w fun e w'=>e=.panicked [Qaf]/\∃C,MW w0 wr X w' kb B hv cv ps (qs++[⟨q.cb,q.cv,q.hv,q.lv,C,{ q.c with S:=S }⟩]) tv th st ov:=by
 exact(Zb8 w0 w kb B hv cv ps qs q tv th st ov wr X T S a D E (fun h=>by omega) A).mono fun _ _ ⟨F,G⟩=>⟨by
  rcases F with⟨_,e⟩|⟨j,_,_,_,_,h,_⟩
  ·exact e
  ·omega,G⟩
theorem MW.elemO{w0 wr w:World}{X:Nat->Prop}{kb B:Nat}{hv cv:Value}{ps:List (Zc×Value)}{qs:List Zs}{q:Zs}{tv:Val}{th:Str}{st:Int}{ov:Bool}(T:MW w0 wr X w kb B hv cv ps (qs++[q]) tv th st ov){S:List Val}{a C:Val}(I:q.c.S=S++[a]++[C]){j:Nat}{x:Zc}{G:Value}(J:a.n=(j:Int)+1)(H:ps[j]? = some (x,G))(R:C.n<0\/(x.has.length:Int)<=C.n)(D:ps.length<=50):Calls prog 125 #[.pointer (some ⟨kb,0,none⟩),.pointer (some ⟨q.cb,0,none⟩)] w fun e w'=>e=.panicked [Qaf]/\∃E,MW w0 wr X w' kb B hv cv ps (qs++[⟨q.cb,q.cv,q.hv,q.lv,E,{ q.c with S:=S }⟩]) tv th st ov:=by
 exact(Zb8 w0 w kb B hv cv ps qs q tv th st ov wr X T S a C I (fun _=>by have:=(List.getElem?_eq_some_iff.1 H).1;omega) D).mono fun _ _ ⟨L,M⟩=>⟨by
  rcases L with⟨h,_⟩|⟨N,O,F,_,_,P,A,_,⟨_,e⟩|⟨U,V,_⟩⟩
  ·omega
  ·exact e
  ·obtain rfl:j=N:=(by omega);rw[H]at A;obtain⟨rfl,rfl⟩:x=O/\G=F:=(by simpa using A);omega,M⟩
theorem MW.elemY{w0 wr w:World}{X:Nat->Prop}{kb B:Nat}{hv cv:Value}{ps:List (Zc×Value)}{qs:List Zs}{q:Zs}{tv:Val}{th:Str}{st:Int}{ov:Bool}(T:MW w0 wr X w kb B hv cv ps (qs++[q]) tv th st ov){S:List Val}{a A:Val}(M:q.c.S=S++[a]++[A]){j g cap:Nat}{x:Zc}{I:Value}(N:a.n=(j:Int)+1)(J:ps[j]? = some (x,I))(O:hv=.slice (some ⟨g,0,none⟩) ps.length cap)(Z:0<=A.n)(b:A.n<(x.has.length:Int))(F:ps.length<=50):Calls prog 125 #[.pointer (some ⟨kb,0,none⟩),.pointer (some ⟨q.cb,0,none⟩)] w fun e w'=>e=.returned (.tuple #[.pointer (some ⟨g,j*2,none⟩),.int .i64 A.n])/\∃G,MW w0 wr X w' kb B hv cv ps (qs++[⟨q.cb,q.cv,q.hv,q.lv,G,{ q.c with S:=S }⟩]) tv th st ov:=by
 exact(Zb8 w0 w kb B hv cv ps qs q tv th st ov wr X T S a A M (fun _=>by have:=(List.getElem?_eq_some_iff.1 J).1;omega) F).mono fun _ _ ⟨P,R⟩=>⟨by
  rcases P with⟨h,_⟩|⟨L,U,H,V,C,Y,D,E,⟨h,_⟩|⟨_,_,e⟩⟩
  ·omega
  ·obtain rfl:j=L:=(by omega);rw[J]at D;obtain⟨rfl,rfl⟩:x=U/\I=H:=(by simpa using D);omega
  ·obtain rfl:j=L:=(by omega);rw[O]at E;obtain⟨rfl,rfl⟩:g=V/\cap=C:=(by simpa using E);exact e,R⟩
