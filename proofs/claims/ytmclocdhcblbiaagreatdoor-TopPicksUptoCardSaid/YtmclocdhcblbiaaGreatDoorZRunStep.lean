/- Lemmas; conditions: as each states. -/
import Derived.Test.YtmclocdhcblbiaaGreatDoorZNumLaw
import Derived.Test.YtmclocdhcblbiaaGreatDoorZCheckRead
import Derived.Test.YtmclocdhcblbiaaGreatDoorZEdgeLaw
set_option maxHeartbeats 4000000
namespace Go.Proofs.YtmclocdhcblbiaaGreatDoor
open Go.RowKit Go.Shelf Go.Lib
structure Cal where
 cls:Str
 m:qc
 pc:Nat
 L:List Val
 S:List Val
structure zdw where
 h:List Zc
 calls:List Cal
inductive Out where
 |on (k:zdw)
 |ends (v:Val) (thrown:Str)
 |full
def v0:Val:=⟨0,0⟩
def Zab(t:Str):Int:=if (t.toList==[73])=true then 1 else 2
def QbE(how n:Int):Bool :=
 if how=0 then decide (n=0) else if how=1 then !decide (n=0) else if how=2 then decide (n<0) else if how=3 then decide (0<=n) else if how=4 then decide (0<n) else decide (n<=0)
def isI(t:Str):Bool:=t.toList==[73]
def Qj(S:List Val):Val:=S.getLast?.getD v0
def zcG(a b:Int):Int:=if a<b then -1 else if b<a then 1 else 0
def zao(pc:Nat)(x:Ins)(L S:List Val):Option (Nat×List Val×List Val) :=
 let T:=S.dropLast
 let v:=Qj S
 if x.op=2 then some (pc+1,L,S++[⟨Zab x.type,x.a⟩])
 else if x.op=3 then some (pc+1,L,S++[⟨3,0⟩])
 else if x.op=4 then some (pc+1,L,S++[L.getD x.a.toNat v0])
 else if x.op=5 then some (pc+1,L.set x.a.toNat v,T)
 else if x.op=6 then some (pc+1,L,T)
 else if x.op=7 then some (pc+1,L,S++[v])
 else if x.op=8 then some (pc+1,L,T.dropLast++[v,Qj T])
 else if x.op=9 then
  (
   if x.a=12 then (if ofB x.a 0 then some (pc+1,L,T++[⟨Zab x.type,ofN (isI x.type) x.a v.n 0⟩]) else none)
   else if ofB x.a v.n then some (pc+1,L,T.dropLast++[⟨Zab x.type,ofN (isI x.type) x.a (Qj T).n v.n⟩]) else none)
 else if x.op=10 then some (pc+1,L,T++[⟨Zab x.type,if isI x.type then wrap32 v.n else v.n⟩])
 else if x.op=11 then some (pc+1,L,T.dropLast++[⟨1,zcG (Qj T).n v.n⟩])
 else if x.op=12 then some (if QbE x.b v.n then x.a.toNat else pc+1,L,T)
 else if x.op=13 then some (if v.n=0 then x.a.toNat else pc+1,L,T)
 else if x.op=14 then some (x.a.toNat,L,S)
 else some (pc+1,L,S)
inductive Qe0 where
 |ok (h:List Zc) (S:List Val)
 |fault
 |full
def Zfg:Zc:=⟨⟨#[]⟩,[]⟩
def qj(h:List Zc)(v:Val):Zc:=h.getD (v.n.toNat-1) Zfg
def ZbF(h:List Zc)(x:Zc)(S:List Val):Qe0:=if 50<=h.length then .full else .ok (h++[x]) (S++[⟨3,h.length+1⟩])
def ZaD(h:List Zc)(v:Val)(i:Nat)(u:Val):List Zc:=h.set (v.n.toNat-1) { qj h v with has:=(qj h v).has.set i u }
def Zdf(t:Ty):Ty:=match t with
 |.ar e=>e
 |t=>t
def qO(cs:List qa)(h:List Zc)(x:Ins)(S:List Val):Qe0 :=
 let T:=S.dropLast
 let v:=Qj S
 if x.op=15 then ZbF h (qU cs x.cls) S
 else if x.op=16 then (if v.n<=0 then .fault else .ok h (T++[(qj h v).has.getD ((qav cs x.cls x.name).getD 0) v0]))
 else if x.op=17 then (if (Qj T).n<=0 then .fault else .ok (ZaD h (Qj T) ((qav cs x.cls x.name).getD 0) v) T.dropLast)
 else if x.op=18 then (if v.n<0\/10<v.n then .fault else ZbF h (QaF x.type v.n.toNat) T)
 else if x.op=19 then (if v.n<=0 then .fault else .ok h (T++[⟨1,(qj h v).has.length⟩]))
 else if x.op=20 then (if (Qj T).n<=0 then .fault else if v.n<0\/((qj h (Qj T)).has.length:Int)<=v.n then .fault else .ok h (T.dropLast++[(qj h (Qj T)).has.getD v.n.toNat v0]))
 else if x.op=21 then
  (
   if (Qj T.dropLast).n<=0 then .fault else if (Qj T).n<0\/((qj h (Qj T.dropLast)).has.length:Int)<=(Qj T).n then .fault
   else if Zn cs h v (Zdf (Qz (qj h (Qj T.dropLast)).type)) then .ok (ZaD h (Qj T.dropLast) (Qj T).n.toNat v) T.dropLast.dropLast else .fault)
 else if x.op=22 then (if v.n=0 then .ok h S else if v.n<0 then .fault else if ZB cs (Qz (qj h v).type) (Qz x.type) then .ok h S else .fault)
 else if x.op=23 then .ok h (T++[⟨1,if 0<v.n/\ZB cs (Qz (qj h v).type) (Qz x.type)=true then 1 else 0⟩])
 else .ok h S
def qF(cs:List qa)(h:List Zc)(cls:Str)(v:Val):List Cal->Out
 |[]=>.ends v0 cls
 |c::r=>if 0<=(Q3 cs (qi cs cls) c.pc c.m.handlers).1 then .on ⟨h,{ c with pc:=(Q3 cs (qi cs cls) c.pc c.m.handlers).1.toNat,S:=[v] }::r⟩ else qF cs h cls v r
def qan(t:Str):Str:=str (zH (Qz t))
def zb9(cs:List qa)(h:List Zc)(v:Val)(r:List Cal):Out:=qF cs h (qan (qj h v).type) v r
def QM(cs:List qa)(h:List Zc)(r:List Cal):Out:=if 50<=h.length then .full else qF cs (h++[qU cs qm]) qm ⟨3,h.length+1⟩ r
def qbN(h:List Zc)(v:Val):List Cal->Out
 |[]=>.ends v ⟨#[]⟩
 |c::r=>.on ⟨h,{ c with pc:=c.pc+1,S:=if v.kind=0 then c.S else c.S++[v] }::r⟩
def qaq(h:List Zc)(cls:Str)(m:qc)(args:List Val)(r:List Cal):Out :=
 if 20<=r.length then .full else .on ⟨h,⟨cls,m,0,args++List.replicate (m.locals.toNat-args.length) v0,[]⟩::r⟩
def ZO(t:Str):Str:=match Qz t with
 |.cl c=>c
 |_=>zh
def zaC(cs:List qa)(h:List Zc)(c:Cal)(x:Ins)(r:List Cal):Out :=
 let args:=((Zl x.type).map (·.1)).getD []
 let n:=args.length+(if x.op=24 then 1 else 0)
 let given:=c.S.drop (c.S.length-n)
 let c':={ c with S:=c.S.take (c.S.length-n) }
 let found:=(qB cs x.cls x.name x.type).getD (⟨#[]⟩,QH)
 if x.op=24 then
  (
   if (given.headD v0).n<=0 then QM cs h (c::r)
   else if found.2.priv then qaq h found.1 found.2 given (c'::r)
   else if QB (Qs cs (ZO (qj h (given.headD v0)).type) x.name x.type) then
    (
     match Qs cs (ZO (qj h (given.headD v0)).type) x.name x.type with
     |some p=>qaq h p.1 p.2 given (c'::r)
     |none=>.full)
   else QM cs h (c::r))
 else qaq h found.1 found.2 given (c'::r)
def zaE(cs:List qa)(k:zdw):Out:=match k.calls with
 |[]=>.full
 |c::r=>match c.m.code[c.pc]? with
  |none=>.full
  |some x =>
   if x.op=24\/x.op=25 then zaC cs k.h c x r
   else if x.op=26 then qbN k.h v0 r
   else if x.op=27 then qbN k.h (Qj c.S) r
   else if x.op=28 then (if (Qj c.S).n<=0 then QM cs k.h (c::r) else zb9 cs k.h (Qj c.S) (c::r))
   else match zao c.pc x c.L c.S with
    |none=>QM cs k.h (c::r)
    |some (pc,L,S)=>match qO cs k.h x S with
     |.fault=>QM cs k.h (c::r)
     |.full=>.full
     |.ok h S=>.on ⟨h,{ c with pc:=pc,L:=L,S:=S }::r⟩
inductive Ran where
 |done (v:Val) (thrown:Str) (steps:Nat)
 |full
 |fuel
 deriving DecidableEq
def Ran.later:Ran->Ran
 |.done v t n=>.done v t (n+1)
 |r=>r
def QaG(cs:List qa):Nat->zdw->Ran
 |0,_=>.fuel
 |f+1,k=>match zaE cs k with
  |.on k'=>(QaG cs f k').later
  |.ends v t=>.done v t 1
  |.full=>.full
theorem Zb5{cs:List qa}:∀{f:Nat} {k:zdw} {v:Val} {t:Str} {n:Nat},QaG cs f k=.done v t n->1<=n/\n<=f/\(∀g,n<=g->QaG cs g k=.done v t n)/\QaG cs (n-1) k=.fuel
 |0,_,_,_,_,h=>by cases h
 |f+1,k,v,t,n,h=>by
  unfold QaG at h;cases A:zaE cs k with
  |full=>rw[A]at h;cases h
  |ends M N =>
   rw[A]at h;injection h with E F G
   subst E F G;refine⟨Xl,by omega,fun g L=>?_,rfl⟩;obtain⟨B,rfl⟩:∃B,g=B+1:=⟨g-1,by omega⟩;unfold QaG;rw[A]
  |on O =>
   rw[A]at h;dsimp only at h;cases D:QaG cs f O with
   |full=>rw[D]at h;cases h
   |fuel=>rw[D]at h;cases h
   |done M N H =>
    rw[D]at h;injection h with E F G
    subst E F G;obtain⟨P,R,I,J⟩:=Zb5 D;refine⟨by omega,by omega,fun g L=>?_,?_⟩
    ·obtain⟨B,rfl⟩:∃B,g=B+1:=⟨g-1,by omega⟩;unfold QaG;rw[A];dsimp only;rw[I B (by omega)];rfl
    ·obtain⟨C,rfl⟩:∃x,H=x+1:=⟨H-1,by omega⟩;rw[Nat.add_sub_cancel];unfold QaG;rw[A];dsimp only;rw[show C=C+1-1 by omega,J];rfl
def Qy(cs:List qa)(h:List Zc)(v:Val)(k:Str):Prop:=match Zr k with
 |.t=>True
 |.n=>v=⟨3,0⟩
 |.ty y=>Zn cs h v y=true
def zl(cs:List qa)(h:List Zc):List Val->List Str->Prop
 |[],[]=>True
 |v::vs,k::ks=>Qy cs h v k/\zl cs h vs ks
 |_,_=>False
def Ext(h h':List Zc):Prop:=h.length<=h'.length/\∀(i:Nat) (x:Zc),h[i]? = some x->∃y:Zc,h'[i]? = some y/\y.type=x.type
theorem Ext.refl(h:List Zc):Ext h h:=⟨Xl,fun _ x e=>⟨x,e,rfl⟩⟩
theorem Ext.trans{a b c:List Zc}(h:Ext a b)(k:Ext b c):Ext a c:=⟨Xf h.1 k.1,fun i x e=>by
 obtain⟨y,A,B⟩:=h.2 i x e;obtain⟨z,C,D⟩:=k.2 i y A;exact⟨z,C,D.trans B⟩⟩
theorem Ext.more(h:List Zc)(x:Zc):Ext h (h++[x]):=⟨by simp,fun i y e=>⟨y,by rw[List.getElem?_append_left (List.getElem?_eq_some_iff.1 e).1];exact e,rfl⟩⟩
theorem Zbu{h:List Zc}{v:Val}{x:Zc}(e:h[v.n.toNat-1]? = some x):qj h v=x:=by
 unfold qj;rw[List.getD_eq_getElem?_getD,e];rfl
theorem Ext.set(h:List Zc)(v:Val)(i:Nat)(u:Val):Ext h (ZaD h v i u):=by
 unfold ZaD;refine⟨by simp,fun j x e=>?_⟩;rw[List.getElem?_set];split
 ·rename_i A;subst A;refine⟨_,if_pos (List.getElem?_eq_some_iff.1 e).1,?_⟩;rw[Zbu e]
 ·exact⟨x,e,rfl⟩
theorem zbA{cs:List qa}{h G:List Zc}(H:Ext h G){v:Val}{y:Ty}(A:Zn cs h v y=true):Zn cs G v y=true:=by
 unfold Zn at A ⊢;split
 ·rename_i D;rw[if_pos D]at A;exact A
 ·rename_i D;rw[if_neg D]at A;split
  ·rename_i D;rw[if_pos D]at A;exact A
  ·rename_i F;rw[if_neg F]at A;split
   ·rename_i C;rw[if_pos C]at A;rw[Bool.and_eq_true,Bool.and_eq_true,Bool.and_eq_true,Bool.or_eq_true]at A ⊢;obtain⟨⟨J,L,I⟩,B⟩:=A;refine⟨⟨J,L,?_⟩,?_⟩
    ·have:=H.1;have I:=Xm I;exact Xj (by omega)
    ·rcases B with B|B
     ·exact Or.inl B
     ·right
      cases E:h[v.n.toNat-1]? with
      |none=>rw[E]at B;cases B
      |some x =>
       rw[E]at B;obtain⟨O,M,N⟩:=H.2 _ x E;rw[M];dsimp only at B ⊢;rw[N];exact B
   ·rename_i C;rw[if_neg C]at A;cases A
theorem Qy.ext{cs:List qa}{h C:List Zc}(H:Ext h C){v:Val}{k:Str}(A:Qy cs h v k):Qy cs C v k:=by
 unfold Qy at A ⊢;split
 ·trivial
 ·rename_i B;rw[B]at A;exact A
 ·rename_i B;rw[B]at A;exact zbA H A
theorem zl.ext{cs:List qa}{h A:List Zc}(H:Ext h A):∀{S:List Val} {K:List Str},zl cs h S K->zl cs A S K
 |[],[],_=>trivial
 |_::_,_::_,⟨a,b⟩=>⟨a.ext H,b.ext H⟩
theorem zl.len{cs:List qa}{h:List Zc}:∀{S:List Val} {K:List Str},zl cs h S K->S.length=K.length
 |[],[],_=>rfl
 |_::_,_::_,⟨_,b⟩=>by simp[b.len]
theorem zl.append{cs:List qa}{h:List Zc}:∀{S S':List Val} {K K':List Str},zl cs h S K->zl cs h S' K'->zl cs h (S++S') (K++K')
 |[],_,[],_,_,b=>b
 |_::_,_,_::_,_,⟨a,c⟩,b=>⟨a,c.append b⟩
theorem zl.snoc{cs:List qa}{h:List Zc}{S:List Val}{K:List Str}{v:Val}{k:Str}(a:zl cs h S K)(b:Qy cs h v k):zl cs h (S++[v]) (K++[k]):=a.append ⟨b,trivial⟩
theorem zl.split{cs:List qa}{h:List Zc}:∀{S:List Val} {K:List Str} (n:Nat),zl cs h S K->zl cs h (S.take n) (K.take n)/\zl cs h (S.drop n) (K.drop n)
 |_,_,0,a=>⟨trivial,a⟩
 |[],[],_+1,_=>⟨trivial,trivial⟩
 |_::_,_::_,n+1,⟨a,b⟩=>⟨⟨a,(b.split n).1⟩,(b.split n).2⟩
theorem zl.get{cs:List qa}{h:List Zc}:∀{S:List Val} {K:List Str} {i:Nat} {k:Str},zl cs h S K->K[i]? = some k->∃v,S[i]? = some v/\Qy cs h v k
 |[],[],i,_,_,e=>by simp at e
 |v::_,_::_,0,_,⟨a,_⟩,e=>by simp at e;subst e;exact⟨v,rfl,a⟩
 |_::_,_::_,i+1,k,⟨_,b⟩,e=>by
  obtain⟨v,A,B⟩:=b.get (i:=i) (k:=k) (by simpa using e);exact⟨v,by simpa using A,B⟩
theorem zl.put{cs:List qa}{h:List Zc}{v:Val}{k:Str}(A:Qy cs h v k):∀{S:List Val} {K:List Str} {i:Nat},zl cs h S K->zl cs h (S.set i v) (K.set i k)
 |[],[],_,_=>trivial
 |_::_,_::_,0,⟨_,b⟩=>⟨A,b⟩
 |_::_,_::_,i+1,⟨a,b⟩=>⟨a,zl.put A (i:=i) b⟩
theorem zl.pop{cs:List qa}{h:List Zc}{S:List Val}{K:List Str}{k:Str}(a:zl cs h S (K++[k])):S=S.dropLast++[Qj S]/\zl cs h S.dropLast K/\Qy cs h (Qj S) k:=by
 have A:=a.len;rw[List.length_append]at A;rcases List.eq_nil_or_concat S with rfl|⟨r,v,rfl⟩
 ·simp at A
 ·rw[List.concat_eq_append]at *;have B:=a.split K.length;have C:r.length=K.length:=by simpa using A
  rw[<-C,List.take_left,List.drop_left,C,List.take_left,List.drop_left]at B;have D:Qj (r++[v])=v:=by unfold Qj;simp
  rw[D,List.dropLast_concat];exact⟨rfl,B.1,B.2.1⟩
theorem zl.popped{cs:List qa}{h:List Zc}{S:List Val}{K K':List Str}{k:Str}(a:zl cs h S K)(e:zC K=some (k,K')):S=S.dropLast++[Qj S]/\zl cs h S.dropLast K'/\Qy cs h (Qj S) k:=by
 rcases List.eq_nil_or_concat K with rfl|⟨r,t,rfl⟩
 ·cases e
 ·rw[List.concat_eq_append]at *;rw[zba]at e;injection e with e
  injection e with A B
  subst A B;exact a.pop
theorem Qy.up{l:List qa}(C:Qg l){h:List Zc}(D:Qai (Za l) h){v:Val}{a b:Str}(B:Qy (Za l) h v a)(A:ZS (Za l) (Zr a) (Zr b)=true):Qy (Za l) h v b:=by
 unfold Qy at B ⊢;generalize Zr a=x at *;generalize Zr b=y at *;cases y with
 |t=>trivial
 |n =>
  cases x with
  |n=>exact B
  |t=>cases A
  |ty x=>cases A
 |ty y =>
  cases x with
  |n =>
   have B:v=⟨3,0⟩:=B;subst B;have A:Qm y=true:=A;show Zn (Za l) h ⟨3,0⟩ y=true
   unfold Zn;simp[A]
  |t=>cases A
  |ty x=>exact Qcu C D B A
theorem Qy.le{l:List qa}(A:Qg l){h:List Zc}(B:Qai (Za l) h){v:Val}{a b:Str}(C:Qy (Za l) h v a)(D:Zg (Za l) a=0)(E:Qaz (Za l) (Zr a) (Zr b)):Qy (Za l) h v b :=
 C.up A B (qdb A (zas D).2 E)
theorem zl.le{l:List qa}(C:Qg l){h:List Zc}(D:Qai (Za l) h):∀{S:List Val} {A B:List Str},zl (Za l) h S A->ql (Za l) A->LeL (Za l) A B->zl (Za l) h S B
 |[],[],[],_,_,_=>trivial
 |_::_,_::_,_::_,⟨a,b⟩,E,⟨p,q⟩=>⟨a.le C D (E _ (List.mem_cons_self ..)) p,zl.le C D b (fun k m=>E k (List.mem_cons_of_mem _ m)) q⟩
theorem zl.take{l:List qa}(B:Qg l){h:List Zc}(C:Qai (Za l) h):∀{ts:List Str} {S:List Val} {K K':List Str},zl (Za l) h S K->zg (Za l) ts K=some K' ->
 ts.length<=S.length/\zl (Za l) h (S.take (S.length-ts.length)) K'/\zl (Za l) h (S.drop (S.length-ts.length)) ts.reverse
 |[],S,K,K',a,e=>by
  injection e with e
  subst e;simp;exact⟨a,trivial⟩
 |t::ts,S,K,K',a,e=>by
  unfold zg at e;split at e
  ·cases e
  ·cases A:zC K with
   |none=>rw[A]at e;cases e
   |some p =>
    obtain⟨k,M⟩:=p;rw[A]at e;dsimp only at e;split at e
    ·rename_i L;obtain⟨F,G,H⟩:=a.popped A;obtain⟨N,I,J⟩:=zl.take B C G e;have D:Qy (Za l) h (Qj S) t:=H.up B C L;generalize Qj S=v at *;generalize S.dropLast=T at *;subst F;have E:(T++[v]).length-(t::ts).length=T.length-ts.length:=(by simp);rw[E,List.take_append_of_le_length (by omega),List.drop_append_of_le_length (by omega),List.reverse_cons];exact⟨by simp;omega,I,J.snoc D⟩
    ·cases e
structure zaX (l:List qa) (c:Cal) (g:Str) (A:Asg Frm):Prop where
 known:(Qb (Za l) c.cls).isSome=true
 mem:c.m∈(Qd (Za l) c.cls).methods
 abs:c.m.abs=false
 good:∃args many,QaJ c.m args g many/\qa2 (Za l) (zaa c.cls c.m.static args many) g=true/\(zW (Za l) c.cls g c.m ⟨zaa c.cls c.m.static args many,[]⟩).Closed A
theorem Qa5{cs:List qa}{A:Nat}{f:Frm}:∀{G:List ZW} {t:List (Nat×Frm)},qL cs A f G=some t->∀h∈G,h.lo<=(A:Int)->(A:Int)<h.hi->(h.dest.toNat,(⟨f.locals,[Qc h.cls]⟩:Frm))∈t/\qaz cs h.cls=true
 |[],_,_,h,B,_,_=>by cases B
 |y::r,t,e,h,B,D,E=>by
  unfold qL at e;split at e
  ·rename_i F;split at e
   ·rename_i J;cases C:qL cs A f r with
    |none=>rw[C]at e;cases e
    |some L =>
     rw[C]at e;injection e with e
     subst e;rcases List.mem_cons.1 B with rfl|B
     ·exact⟨List.mem_cons_self ..,J⟩
     ·obtain⟨H,I⟩:=Qa5 C h B D E;exact⟨List.mem_cons_of_mem _ H,I⟩
   ·cases e
  ·rename_i F;rcases List.mem_cons.1 B with rfl|B
   ·exact absurd ⟨D,E⟩ F
   ·exact Qa5 e h B D E
theorem zaX.at{l:List qa}{c:Cal}{g:Str}{A:Asg Frm}(H:zaX l c g A){pc:Nat}{f:Frm}(G:A pc=some f):
 qG (Za l) f=0/\∃x,c.m.code[pc]? = some x/\qo x=0/\(∃L S,Qae (Za l) c.cls g x f.locals f.stack=some (L,S)/\∀i∈ZV x pc,∃D,A i=some D/\Zbl (Za l) ⟨L,S⟩ D) /\
  ∀h∈c.m.handlers,h.lo<=(pc:Int)->(pc:Int)<h.hi->qaz (Za l) h.cls=true/\∃D,A h.dest.toNat=some D/\Zbl (Za l) ⟨f.locals,[Qc h.cls]⟩ D:=by
 obtain⟨args,I,M,_,N,O,_⟩:=H.good;obtain⟨Z,P⟩:=N pc f G;obtain⟨t,B,J⟩:=O pc f G;change qaF (Za l) c.cls g c.m pc f=some t at B;unfold qaF at B;cases E:qL (Za l) pc f c.m.handlers with
 |none=>rw[E]at B;cases B
 |some a =>
  rw[E,Option.bind_some]at B;unfold qad at B;cases F:c.m.code[pc]? with
  |none=>rw[F]at B;cases B
  |some x =>
   rw[F]at B;dsimp only at B;cases C:Qae (Za l) c.cls g x f.locals f.stack with
   |none=>rw[C]at B;cases B
   |some p =>
    obtain⟨L,S⟩:=p;rw[C]at B;injection B with B
    subst B;refine⟨P,x,rfl,(qaw M.code).ins x (Xe F),⟨L,S,C,fun i U=>?_⟩,fun h V X Y=>?_⟩
    ·exact J (i,⟨L,S⟩) (List.mem_append_right _ (List.mem_map.2 ⟨i,U,rfl⟩))
    ·obtain⟨R,T⟩:=Qa5 E h V X Y;exact⟨T,J _ (List.mem_append_left _ R)⟩
def Qa0(l:List qa)(h:List Zc)(c:Cal)(g:Str):Prop:=∃A f,zaX l c g A/\A c.pc=some f/\zl (Za l) h c.L f.locals/\zl (Za l) h c.S f.stack
def Zb9(l:List qa)(h:List Zc)(c:Cal)(g g':Str):Prop:=∃A f x args S,zaX l c g A/\A c.pc=some f/\c.m.code[c.pc]? = some x/\(x.op=24\/x.op=25)/\Zl x.type=some (args,g')/\zl (Za l) h c.L f.locals/\zl (Za l) h c.S S/\ql (Za l) S/\Qae (Za l) c.cls g x f.locals f.stack=Za7 (Za l) f.locals S g'
def qaH(l:List qa)(h:List Zc)(g0:Str):List Cal->Str->Prop
 |[],g=>g=g0
 |c::r,g'=>∃g,Zb9 l h c g g'/\qaH l h g0 r g
structure qa5 (l:List qa) (g0:Str) (k:zdw):Prop where
 heap:Zy (Za l) k.h=0
 few:k.calls.length<=20
 calls:∃c r g,k.calls=c::r/\Qa0 l k.h c g/\qaH l k.h g0 r g
theorem Qa0.ext{l:List qa}{h B:List Zc}(H:Ext h B){c:Cal}{g:Str}(a:Qa0 l h c g):Qa0 l B c g:=by
 obtain⟨A,f,C,D,E,F⟩:=a;exact⟨A,f,C,D,E.ext H,F.ext H⟩
theorem Zb9.ext{l:List qa}{h B:List Zc}(H:Ext h B){c:Cal}{g C:Str}(a:Zb9 l h c g C):Zb9 l B c g C:=by
 obtain⟨A,f,x,args,S,D,E,F,G,I,J,L,M,N⟩:=a;exact⟨A,f,x,args,S,D,E,F,G,I,J.ext H,L.ext H,M,N⟩
theorem qaH.ext{l:List qa}{h A:List Zc}{B:Str}(H:Ext h A):∀{r:List Cal} {g:Str},qaH l h B r g->qaH l A B r g
 |[],_,a=>a
 |_::_,_,⟨g,a,b⟩=>⟨g,a.ext H,b.ext H⟩
theorem Qa0.go{l:List qa}(E:Qg l){h:List Zc}(F:Qai (Za l) h){c:Cal}{g:Str}{A:Asg Frm}{C:Frm}(H:zaX l c g A){pc:Nat}{L S:List Val}{D S':List Str}(G:A pc=some C)(B:Zbl (Za l) ⟨D,S'⟩ C)(I:qG (Za l) ⟨D,S'⟩=0)(J:zl (Za l) h L D)(M:zl (Za l) h S S'):Qa0 l h { c with pc:=pc,L:=L,S:=S } g:=by
 obtain⟨_,_,N,O⟩:=Qt I;exact⟨A,C,⟨H.known,H.mem,H.abs,H.good⟩,G,J.le E F N B.1,M.le E F O B.2⟩
theorem zcg(c:Str):Zr (Qc c)=.ty (.cl c):=ZL (x:=.ty (.cl c)) (QaE c).symm
theorem qdw(c:Str):Qz (Qc c)=.cl c:=zU (QaE c).symm
theorem QcA(c:Str):Qc c=qaM c:=by
 apply ByteArray.ext;apply Array.ext';change lst (Qc c)=_;rw[QaE];rfl
theorem Ze0(c:Str):qan (Qc c)=c:=by
 unfold qan;rw[qdw];exact ByteArray.ext (Array.ext' rfl)
theorem Qbj{cs:List qa}{A:List Str}{B:Int}:∀{G:List ZW},0<=(Q3 cs A B G).1->∃h∈G,h.lo<=B/\B<h.hi/\zak A h.cls=true/\(Q3 cs A B G).1=h.dest
 |[],h=>absurd h (by show ¬(0:Int)<=-1;decide)
 |y::r,h=>by
  unfold Q3 at h ⊢;split at h
  ·rename_i F;rw[if_pos F];obtain⟨z,D,E⟩:=Qbj h;exact⟨z,List.mem_cons_of_mem _ D,E⟩
  ·rename_i F;rw[if_neg F];split at h
   ·exact absurd h (by show ¬(0:Int)<=-1;decide)
   ·rename_i H;rw[if_neg H];split at h
    ·rename_i C;rw[if_pos C];exact⟨y,List.mem_cons_self ..,by omega,by omega,C,rfl⟩
    ·rename_i C;rw[if_neg C];obtain⟨z,D,E⟩:=Qbj h;exact⟨z,List.mem_cons_of_mem _ D,E⟩
def zfv(l:List qa)(h:List Zc)(c:Cal)(g:Str):Prop:=∃A f,zaX l c g A/\A c.pc=some f/\zl (Za l) h c.L f.locals
def qaD(l:List qa)(h:List Zc)(g0:Str):List Cal->Prop
 |[]=>True
 |c::r=>∃g,zfv l h c g/\qaH l h g0 r g
theorem qaH.chain{l:List qa}{h:List Zc}{B:Str}:∀{r:List Cal} {g:Str},qaH l h B r g->qaD l h B r
 |[],_,_=>trivial
 |_::_,_,⟨g,⟨A,f,_,_,_,C,D,_,_,_,E,_⟩,b⟩=>⟨g,⟨A,f,C,D,E⟩,b⟩
theorem Qa0.chain{l:List qa}{h:List Zc}{B g:Str}{c:Cal}{r:List Cal}(a:Qa0 l h c g)(b:qaH l h B r g):qaD l h B (c::r):=by
 obtain⟨A,f,C,D,E,_⟩:=a;exact⟨g,⟨A,f,C,D,E⟩,b⟩
theorem Qi{cs:List qa}{h:List Zc}(H:Zy cs h=0):Qai cs h:=(z7 H).2.1
theorem ZcG{l:List qa}(L:Qg l){h:List Zc}(F:Zy (Za l) h=0){M cls:Str}{v:Val}{x:Zc}(E:v.kind=3)(R:0<v.n)(G:h[v.n.toNat-1]? = some x)(N:Qz x.type=.cl cls):
 ∀{B:List Cal},B.length<=20->qaD l h M B->(∃k,qF (Za l) h cls v B=.on k/\qa5 l M k)\/qF (Za l) h cls v B=.ends v0 cls
 |[],_,_=>Or.inr rfl
 |c::r,D,⟨g,⟨A,f,P,i,j⟩,b⟩=>by
  unfold qF;by_cases H:0<=(Q3 (Za l) (qi (Za l) cls) c.pc c.m.handlers).1
  ·rw[if_pos H];obtain⟨y,V,X,Y,Z,a⟩:=Qbj H;obtain⟨d,_,_,_,_,C⟩:=P.at i;obtain⟨I,o,e,J⟩:=C y V X Y;refine Or.inl ⟨_,rfl,F,D,_,r,g,rfl,?_,b⟩;rw[a];refine Qa0.go L (Qi F) P e J (Qcd d I) j ⟨?_,trivial⟩;unfold Qy;rw[zcg];have O:=(List.getElem?_eq_some_iff.1 G).1;show Zn (Za l) h v (.cl y.cls)=true
   unfold Zn;rw[if_neg (by rw[E];decide),if_neg (by rw[E];decide),if_pos E,G];have S:decide (0<=v.n)=true:=Xj (by omega);have T:decide (v.n<=(h.length:Int))=true:=Xj (by omega);have U:ZB (Za l) (Qz x.type) (.cl y.cls)=true:=by
    rw[N];exact Z
   dsimp only;rw[S,T,U];simp[Qm]
  ·rw[if_neg H];exact ZcG L F E R G N (by simp at D;omega) b.chain
theorem qbF{α:Type}{f:α->Nat}:∀{l:List α},(∀x∈l,f x=0)->Zh f l=0
 |[],_=>rfl
 |x::r,h=>by
  unfold Zh;rw[if_pos (h x (List.mem_cons_self ..))];exact qbF fun y A=>h y (List.mem_cons_of_mem _ A)
theorem qec{cs:List qa}{h:List Zc}(C:h.length<=50)(A:Qai cs h)(B:∀x∈h,Zaa cs h x=true):Zy cs h=0:=by
 rw[QdO (by omega) (qbF A),if_pos (List.all_eq_true.2 B)]
theorem qT{cs:List qa}{h:List Zc}{x:Zc}:Zaa cs h x=true↔∀(i:Nat) (v:Val) (t:Str),x.has[i]? = some v->(zO cs x)[i]? = some t->Zn cs h v (Qz t)=true:=by
 unfold Zaa;rw[List.all_eq_true];constructor
 ·intro H i v t A B;exact H (v,t) (Xe (qeN A B))
 ·intro H p D;obtain⟨i,C⟩:=List.mem_iff_getElem?.1 D;obtain⟨v,t⟩:=p;obtain⟨A,B⟩:=List.getElem?_zip_eq_some.1 C;exact H i v t A B
theorem qbu{cs:List qa}{h A:List Zc}(H:Ext h A){x:Zc}(B:Zaa cs h x=true):Zaa cs A x=true :=
 qT.2 fun i v t C D=>zbA H (qT.1 B i v t C D)
theorem qcG{cs:List qa}{h:List Zc}{s:Str}{y:Ty}(H:qa3 s y):Zn cs h (QG s) (Qz s)=true:=by
 rw[H.of];unfold QG;rw[<-H.text];cases y with
 |i=>rw[show qe Ty.i=[73] from rfl,if_pos rfl];rfl
 |j=>rw[show qe Ty.j=[74] from rfl,if_neg (by decide),if_pos rfl];rfl
 |ar e =>
  rw[show qe (Ty.ar e)=91::qe e from rfl,if_neg (by intro h;injection h with h;exact absurd h (by decide)),if_neg (by intro h;injection h with h;exact absurd h (by decide))];unfold Zn;simp[Qm]
 |cl c =>
  rw[show qe (Ty.cl c)=76::(lst c++[59]) from rfl,if_neg (by intro h;injection h with h;exact absurd h (by decide)),if_neg (by intro h;injection h with h;exact absurd h (by decide))];unfold Zn;simp[Qm]
theorem qc0{cs:List qa}{h:List Zc}(H:Zy cs h=0)(C:h.length<50){x:Zc}(D:qz cs x=0)(E:∀G,Zaa cs G x=true):Zy cs (h++[x])=0:=by
 obtain⟨_,F,B⟩:=z7 H;rw[List.all_eq_true]at B;refine qec (by simp;omega) (fun y A=>?_) fun y A=>?_
 ·rcases List.mem_append.1 A with A|A
  ·exact F y A
  ·rw[List.mem_singleton.1 A];exact D
 ·rcases List.mem_append.1 A with A|A
  ·exact qbu (Ext.more h x) (B y A)
  ·rw[List.mem_singleton.1 A];exact E _
theorem zdF{cs:List qa}(c:Str):zO cs (qU cs c)=Zq (qW cs c):=by
 unfold zO qU;rw[show Qz (qaM c)=.cl c by rw[<-QcA];exact qdw c]
theorem ZdF{l:List qa}(E:∀c∈l,Qf c=0){c:Str}(B:(Qb (Za l) c).isSome=true)(A:(Qd (Za l) c).face=false):qz (Za l) (qU (Za l) c)=0:=by
 have C:=zdn E B;have D:Qab (Za l) (qU (Za l) c) (.cl c):=⟨by show _=lst (qaM c);rw[<-QcA];exact(QaE c).symm,B,rfl,by simp[qD]⟩;have F:QcL (lst (qU (Za l) c).type)=true:=by
  unfold QcL;have G:QX (lst (qU (Za l) c).type)=false:=by
   rw[<-D.text,qa8];rfl
  rw[G,Bool.not_false,Bool.and_true];rw[<-D.text];exact Zbi (qbx E (.cl c) B) (by simp[qD])
 rw[zcv F (by show Zg _ (qaM c)=0;rw[<-QcA];exact C) D];show(if (Qd (Za l) c).face=true then 7 else if (Zq (qW (Za l) c)).length≠(qU (Za l) c).has.length then 8 else 0)=0
 rw[A,if_neg (by decide)];show(if (Zq (qW (Za l) c)).length≠((Zq (qW (Za l) c)).map QG).length then 8 else 0)=0
 rw[List.length_map,if_neg (fun h=>h rfl)]
theorem QcG{l:List qa}(E:∀c∈l,Qf c=0){h:List Zc}(H:Zy (Za l) h=0)(B:h.length<50){c:Str}(F:(Qb (Za l) c).isSome=true)(A:(Qd (Za l) c).face=false):Zy (Za l) (h++[qU (Za l) c])=0:=by
 have G:Qab (Za l) (qU (Za l) c) (.cl c):=⟨by show _=lst (qaM c);rw[<-QcA];exact(QaE c).symm,F,rfl,by simp[qD]⟩;refine qc0 H B (ZdF E F A) fun J=>qT.2 fun i v t C D=>?_
 obtain⟨y,I⟩:=Zcb E G t (Xe D);rw[zdF]at D;change ((Zq (qW (Za l) c)).map QG)[i]? = some v at C;rw[List.getElem?_map,D]at C;obtain rfl:=Option.some.inj C;exact qcG I
theorem qfg(t:Str)(y:Ty)(h:qe y=lst t):Qz (str (91::lst t))=.ar y:=by
 refine zU ?_;show 91::qe y=lst (str (91::lst t))
 rw[h];rfl
theorem zdZ{l:List qa}(L:∀c∈l,Qf c=0){h:List Zc}(H:Zy (Za l) h=0)(E:h.length<50){t:Str}(M:Zg (Za l) t=0)(F:zp (91::lst t)=true){n:Nat}(T:n<=10):Zy (Za l) (h++[QaF t n])=0:=by
 have B:=Qcw M F;have G:(str (91::lst t))=Q5 t:=by
  apply ByteArray.ext;apply Array.ext';change 91::lst t=lst (Q5 t);rw[Zcv]
 obtain⟨w,R⟩:=QT B;obtain⟨y,rfl,D⟩:=Qa3.arr R;have A:Qab (Za l) (QaF t n) (.ar y):=⟨by show 91::qe y=_;rw[show qe y=lst t from D.1];rfl,D.2,rfl,by
  have:=ZaQ (x:=.ar y) (by show zp (91::qe y)=true;rw[show qe y=lst t from D.1];exact F);exact this⟩
 have N:QcL (lst (QaF t n).type)=true:=by
  unfold QcL;have I:QX (lst (QaF t n).type)=false:=by
   rw[<-A.text,qa8];rfl
  rw[I,Bool.not_false,Bool.and_true];exact F
 have J:qz (Za l) (QaF t n)=0:=by
  rw[zcv N (by show Zg _ (str (91::lst t))=0;rw[G];exact B) A];show(if 10<(QaF t n).has.length then 8 else 0)=0
  rw[show(QaF t n).has.length=n from List.length_replicate ..,if_neg (by omega)]
 refine qc0 H E J fun U=>qT.2 fun i v s I C=>?_
 obtain⟨z,S⟩:=Zcb L A s (Xe C);have O:s=t:=by
  unfold zO at C;rw[A.of]at C;dsimp only at C;have:=List.eq_of_mem_replicate (Xe C);rw[this];apply ByteArray.ext;apply Array.ext';exact D.1
 subst O;have P:v=QG s:=List.eq_of_mem_replicate (Xe I);subst P;exact qcG S
theorem Qan{cs:List qa}{h:List Zc}{v:Val}{y:Ty}(A:Zn cs h v y=true)(D:Qm y=true)(G:0<v.n):v.kind=3/\∃x,h[v.n.toNat-1]? = some x/\qj h v=x/\x∈h/\ZB cs (Qz x.type) y=true:=by
 unfold Zn at A;split at A
 ·rw[Bool.and_eq_true]at A;have:=Xm A.1;subst this;cases D
 ·split at A
  ·have:=Xm A;subst this;cases D
  ·split at A
   ·rename_i E;rw[Bool.and_eq_true,Bool.or_eq_true]at A;refine⟨E,?_⟩;rcases A.2 with F|C
    ·have:=Xm F;omega
    ·cases B:h[v.n.toNat-1]? with
     |none=>rw[B]at C;cases C
     |some x =>
      rw[B]at C;exact⟨x,rfl,Zbu B,Xe B,C⟩
   ·cases A
theorem qdF{cs:List qa}{h:List Zc}(H:Zy cs h=0){v u:Val}{x:Zc}(J:h[v.n.toNat-1]? = some x){i:Nat}(M:∀t,(zO cs x)[i]? = some t->Zn cs h u (Qz t)=true):Zy cs (ZaD h v i u)=0:=by
 obtain⟨N,L,G⟩:=z7 H;rw[List.all_eq_true]at G;have E:=Ext.set h v i u;have D:=Xe J;have F:zO cs { x with has:=x.has.set i u } = zO cs x:=by
  unfold zO;cases Qz x.type<;>simp
 have B:∀y∈ZaD h v i u,y∈h\/y={ x with has:=x.has.set i u }:=fun y A=>by
  unfold ZaD at A;rw[Zbu J]at A;rcases List.mem_or_eq_of_mem_set A with A|A
  ·exact Or.inl A
  ·exact Or.inr A
 refine qec (by unfold ZaD;simpa using N) (fun y A=>?_) fun y A=>?_
 ·rcases B y A with A|rfl
  ·exact L y A
  ·have:=L x D;unfold qz at this ⊢;simpa using this
 ·rcases B y A with A|rfl
  ·exact qbu E (G y A)
  ·refine qT.2 fun j w t C I=>?_
   rw[F]at I;change (x.has.set i u)[j]? = some w at C;rw[List.getElem?_set]at C;split at C
   ·rename_i O;subst O;split at C
    ·obtain rfl:=Option.some.inj C;exact zbA E (M t I)
    ·cases C
   ·exact zbA E (qT.1 (G x D) j w t C I)
theorem QbN{n t:Str}:∀{l:List qc} {m:qc},Zal n t l=some m->m∈l/\m.name=n/\m.type=t
 |[],_,h=>by cases h
 |x::r,m,h=>by
  unfold Zal at h;split at h
  ·rename_i C;injection h with h
   subst h;exact⟨List.mem_cons_self ..,C⟩
  ·obtain⟨A,B⟩:=QbN h;exact⟨List.mem_cons_of_mem _ A,B⟩
theorem QbF{cs:List qa}{n t d:Str}{m:qc}:∀{l:List Str},zS cs n t l=some (d,m)->d∈l/\m∈(Qd cs d).methods/\m.name=n/\m.type=t
 |[],h=>by cases h
 |x::r,h=>by
  unfold zS at h;split at h
  ·rename_i D C;injection h with h
   injection h with A B
   subst A B;exact⟨List.mem_cons_self ..,QbN C⟩
  ·obtain⟨A,B⟩:=QbF h;exact⟨List.mem_cons_of_mem _ A,B⟩
theorem za1{cs:List qa}{n t d:Str}{m:qc}{a:Bool}:∀{l:List Str},zI cs n t a l=some (d,m)->d∈l/\m∈(Qd cs d).methods/\m.name=n/\m.type=t
 |[],h=>by cases h
 |x::r,h=>by
  unfold zI at h;split at h
  ·rename_i D C;split at h
   ·injection h with h
    injection h with A B
    subst A B;exact⟨List.mem_cons_self ..,QbN C⟩
   ·obtain⟨A,B⟩:=za1 h;exact⟨List.mem_cons_of_mem _ A,B⟩
  ·obtain⟨A,B⟩:=za1 h;exact⟨List.mem_cons_of_mem _ A,B⟩
def qcj(cs:List qa)(c n t:Str)(p:Str×qc):Prop:=p.1∈qi cs c/\p.2∈(Qd cs p.1).methods/\p.2.name=n/\p.2.type=t
theorem ZaC{l:List qa}(D:Qg l){c n t:Str}(E:(Qb (Za l) c).isSome=true){p:Str×qc}(h:qB (Za l) c n t=some p):qcj (Za l) c n t p:=by
 obtain⟨d,m⟩:=p;unfold qB at h;split at h
 ·rename_i x C;injection h with h
  subst h;obtain⟨A,B⟩:=QbF C;exact⟨zam D E A,B⟩
 ·split at h
  ·rename_i x C;injection h with h
   subst h;obtain⟨A,B⟩:=za1 C;exact⟨(zb4 _ _).1 A,B⟩
  ·obtain⟨A,B⟩:=za1 h;exact⟨(zb4 _ _).1 A,B⟩
theorem zbG{l:List qa}(A:Qg l){c n t:Str}(B:(Qb (Za l) c).isSome=true):∀{r:List zZ} {o:Option (Str×qc)},(∀s∈r,s.cls∈qi (Za l) c)->(∀p,o=some p->qcj (Za l) c n t p)->∀p,zV (Za l) n t o r=some p->qcj (Za l) c n t p
 |[],_,_,D,p,h=>D p h
 |s::r,o,F,D,p,h=>by
  unfold zV at h;refine zbG A B (fun x I=>F x (List.mem_cons_of_mem _ I)) (fun q C=>?_) p h;split at C
  ·have E:=F s (List.mem_cons_self ..);obtain⟨G,H⟩:=ZaC A ((Zo A.closed B).1.known _ E) C;exact⟨Qbr A B E G,H⟩
  ·exact D q C
theorem Qbi{l:List qa}(A:Qg l){c n t:Str}(B:(Qb (Za l) c).isSome=true){p:Str×qc}(h:Qs (Za l) c n t=some p):qcj (Za l) c n t p :=
 zbG A B (fun s C=>zam A B (QbG _ _ s C)) (fun _ D=>ZaC A B D) p h
theorem QU{l:List qa}{d:Str}{m:qc}(C:(Qb (Za l) d).isSome=true)(h:m∈(Qd (Za l) d).methods):∃c∈l,c.name=d/\m∈c.methods:=by
 cases B:Qb (Za l) d with
 |none=>rw[B]at C;cases C
 |some c =>
  have A:c∈Za l:=List.mem_of_find?_eq_some B;have D:c.name=d:=by simpa using List.find?_some B
  have E:Qd (Za l) d=c:=by unfold Qd;rw[B];rfl
  rw[E]at h;unfold Za at A;rcases List.mem_cons.1 A with rfl|A
  ·cases h
  ·rcases List.mem_cons.1 A with rfl|A
   ·cases h
   ·exact⟨c,A,D,h⟩
theorem qbL{c:qa}(B:Qf c=0){m:qc}(D:m∈c.methods):0<=m.locals/\m.locals<=8/\(∃args g,Zl m.type=some (args,g))/\(m.abs=true->m.static=false/\m.priv=false):=by
 have E:Zi ZH [] c.methods=0:=by
  unfold Qf at B;split at B
  ·cases B
  ·split at B
   ·rename_i h;exact absurd B h
   ·split at B
    ·cases B
    ·split at B
     ·rename_i h;exact absurd B h
     ·split at B
      ·rename_i h;exact absurd B h
      ·rename_i h;exact Decidable.not_not.1 h
 obtain⟨b,A⟩:=Qb4 E m D;unfold ZH at A;split at A
 ·cases A
 ·split at A
  ·cases A
  ·rename_i C;split at A
   ·cases A
   ·split at A
    ·cases A
    ·rename_i J;refine⟨by omega,by omega,?_,fun G=>?_⟩
     ·cases F:Zl m.type with
      |none=>rw[F]at C;exact absurd rfl C
      |some p=>exact⟨p.1,p.2,rfl⟩
     ·unfold Zai at A;rw[if_pos G]at A;split at A
      ·cases A
      ·rename_i L;cases H:m.static<;>cases I:m.priv<;>simp_all
theorem zl.tops{cs:List qa}{h:List Zc}(v:Val):∀n,zl cs h (List.replicate n v) (List.replicate n Zb1)
 |0=>trivial
 |n+1=>⟨by unfold Qy;rw[show Zr Zb1=.t from rfl];trivial,zl.tops v n⟩
def QaH(l:List qa):Prop:=∀c∈l,∀m∈c.methods,zai l c.name m
theorem QdA{l:List qa}(T:Qg l)(_:∀c∈l,Qf c=0)(C:QaH l){h:List Zc}(U:Zy (Za l) h=0){d:Str}{m:qc}(M:(Qb (Za l) d).isSome=true)(N:m∈(Qd (Za l) d).methods)(O:m.abs=false){args:List Str}{g:Str}(V:Zl m.type=some (args,g)){given:List Val}(P:zl (Za l) h given (zaK d m.static++args)):Qa0 l h ⟨d,m,0,given++List.replicate (m.locals.toNat-given.length) v0,[]⟩ g:=by
 obtain⟨c,X,rfl,I⟩:=QU M N;rcases C c X m I with R|⟨L,e,B,A,F,D,S⟩
 ·rw[O]at R;cases R
 ·have E:=F.type;rw[V]at E;injection E with E
  injection E with Z a
  subst Z a;obtain⟨b,Y,J⟩:=S.1.2.2;have H:zaX l ⟨c.name,m,0,given++List.replicate (m.locals.toNat-given.length) v0,[]⟩ g A:=⟨M,N,O,args,B,F,D,S.1⟩;have G:=Zbf (zcn F) D;refine Qa0.go T (Qi U) H Y J G ?_ trivial;show zl _ _ (given++_) (zaa c.name m.static args B)
  unfold zaa;refine P.append ?_;rw[F.locals,P.len,Int.toNat_natCast];exact zl.tops v0 _
theorem ZT{L S A S':List Str}{k:Str}(h:qq L S k=some (A,S')):A=L/\S'=S++[k]:=by
 unfold qq QP at h;split at h
 ·injection h with h
  injection h with B C
  exact⟨B.symm,C.symm⟩
 ·cases h
theorem zl.take1{l:List qa}(B:Qg l){h:List Zc}(C:Qai (Za l) h){t:Str}{S:List Val}{K K':List Str}(a:zl (Za l) h S K)(e:zg (Za l) [t] K=some K'):zl (Za l) h S.dropLast K'/\Qy (Za l) h (Qj S) t:=by
 unfold zg at e;split at e
 ·cases e
 ·cases A:zC K with
  |none=>rw[A]at e;cases e
  |some p =>
   obtain⟨k,G⟩:=p;rw[A]at e;dsimp only at e;split at e
   ·rename_i F;injection e with e
    subst e;obtain⟨_,D,E⟩:=a.popped A;exact⟨D,E.up B C F⟩
   ·cases e
theorem zaI{cs:List qa}{h:List Zc}{n:Int}(A : -2147483648<=n)(B:n<=2147483647):Qy cs h ⟨1,n⟩ kI:=by
 show Zn cs h ⟨1,n⟩ .i=true
 unfold Zn;rw[if_pos rfl];simp[A,B]
theorem ZdZ{cs:List qa}{h:List Zc}{n:Int}:Qy cs h ⟨2,n⟩ kJ:=rfl
theorem Qfg{t:Str}(h:QX (lst t)=true):t=kI\/t=kJ:=by
 unfold QX at h;rw[Bool.or_eq_true,beq_iff_eq,beq_iff_eq]at h;rcases h with h|h
 ·exact Or.inl (ByteArray.ext (Array.ext' h))
 ·exact Or.inr (ByteArray.ext (Array.ext' h))
theorem ZaT{x:Ins}(h:qo x=0):1<=x.op/\x.op<=28/\qR x=true/\Z5 x=true:=by
 unfold qo at h;split at h
 ·cases h
 ·rename_i C;split at h
  ·cases h
  ·split at h
   ·cases h
   ·rename_i B;split at h
    ·cases h
    ·rename_i A;refine⟨by omega,by omega,by simpa using B,?_⟩;rw[Bool.not_eq_true,Bool.or_eq_false_iff,Bool.or_eq_false_iff]at A;simpa using A.1.1
def QO(l:List qa)(h:List Zc)(x:Ins)(pc:Nat)(L' S':List Str)(r:Option (Nat×List Val×List Val)):Prop:=∀pc' L1 S1,r=some (pc',L1,S1)->pc'∈ZV x pc/\zl (Za l) h L1 L'/\zl (Za l) h S1 S'
theorem QO.one{l:List qa}{h:List Zc}{x:Ins}{pc:Nat}{B S':List Str}{A:Nat}{C D:List Val}(E:A∈ZV x pc)(F:zl (Za l) h C B)(G:zl (Za l) h D S'):QO l h x pc B S' (some (A,C,D)):=fun _ _ _ e=>by
 injection e with e
 injection e with H e
 injection e with I J
 subst H I J;exact⟨E,F,G⟩
theorem QO.fault{l:List qa}{h:List Zc}{x:Ins}{pc:Nat}{A S':List Str}:QO l h x pc A S' none:=fun _ _ _ e=>by cases e
theorem Qec(t:Str):isI t=(lst t==[73]):=by unfold isI;rw[ByteArray.toList_eq]
theorem Za1{cs:List qa}{h:List Zc}{t:Str}{n:Int}(B:QX (lst t)=true)(C:isI t=true->-2147483648<=n/\n<=2147483647):Qy cs h ⟨Zab t,n⟩ t:=by
 rcases Qfg B with rfl|rfl
 ·obtain⟨D,E⟩:=C (by rw[Qec];rfl);have A:Zab kI=1:=by unfold Zab;rw[ByteArray.toList_eq];rfl
  rw[A];exact zaI D E
 ·have A:Zab kJ=2:=by unfold Zab;rw[ByteArray.toList_eq];rfl
  rw[A];exact ZdZ
theorem QbX(a:Int):-2147483648<=wrap32 a/\wrap32 a<=2147483647:=by unfold wrap32;omega
theorem Qc0{I:Bool}{A a b:Int}(h:I=true):-2147483648<=ofN I A a b/\ofN I A a b<=2147483647:=by
 unfold ofN;rw[if_pos h];exact QbX _
theorem QcE{x:Ins}(B:ZU x.op=true)(A:qR x=true):0<=x.a:=by
 have h:x.op=12\/x.op=13\/x.op=14:=by
  unfold ZU at B;simpa[or_assoc] using B
 unfold qR at A;rw[if_neg (by omega),if_neg (by omega),if_neg (by omega),B]at A;simp at A;exact A.1.1.1
theorem zc1{x:Ins}{pc:Nat}(_:0<=x.a)(A:x.op=12\/x.op=13)(t:Bool):(if t then x.a.toNat else pc+1)∈ZV x pc:=by
 have B:qae x.op=false:=by rcases A with h|h<;>rw[h]<;>rfl
 have C:ZU x.op=true:=by rcases A with h|h<;>rw[h]<;>rfl
 unfold ZV;rw[B,C];cases t with
 |false=>simp
 |true =>
  by_cases D:x.a=(pc:Int)+1
  ·have:x.a.toNat=pc+1:=(by omega);simp[this]
  ·have E:(x.op==14||x.a != (pc:Int)+1)=true:=by
    rw[Bool.or_eq_true];exact Or.inr (by simpa using D)
   rw[E];simp
theorem ze2{l:List qa}(X:Qg l){h:List Zc}(Y:Qai (Za l) h){x:Ins}(o:qo x=0)(d:x.op<=14){Zb:Str}{L S:List Val}{F D G S':List Str}(H:zl (Za l) h L F)(I:zl (Za l) h S D)(A:zE (Za l) Zb x F D=some (G,S'))(pc:Nat):
 QO l h x pc G S' (zao pc x L S):=by
 obtain⟨V,_,Z,c⟩:=ZaT o;clear o;obtain⟨J,a,b,B,cls,name⟩:=x;dsimp only at V d;have U:J=1\/J=2\/J=3\/J=4\/J=5\/J=6\/J=7\/J=8\/J=9\/J=10\/J=11\/J=12\/J=13\/J=14:=by omega
 rcases U with rfl|rfl|rfl|rfl|rfl|rfl|rfl|rfl|rfl|rfl|rfl|rfl|rfl|rfl
 ·
  have A:some (F,D)=some (G,S'):=A;injection A with A
  injection A with N O
  subst N O;exact QO.one (by simp[ZV,qae]) H I
 ·
  obtain⟨rfl,rfl⟩:=ZT (show qq F D B=some (G,S') from A);refine QO.one (by simp[ZV,qae]) H (I.snoc (Za1 c fun R=>?_));have Z:(!(lst B==[73])||(decide (-2147483648<=a)&&decide (a<=2147483647)))=true:=Z;have R:(lst B==[73])=true:=by rw[<-Qec];exact R
  rw[R]at Z;simpa using Z
 ·
  obtain⟨rfl,rfl⟩:=ZT (show qq F D kN=some (G,S') from A);exact QO.one (by simp[ZV,qae]) H (I.snoc rfl)
 ·
  have A:zbE F D a=some (G,S'):=A;unfold zbE at A;cases j:F[a.toNat]? with
  |none=>rw[j]at A;cases A
  |some k =>
   rw[j]at A;dsimp only at A;split at A
   ·cases A
   ·obtain⟨rfl,rfl⟩:=ZT A;obtain⟨v,V,E⟩:=H.get j;refine QO.one (by simp[ZV,qae]) H (I.snoc ?_);rw[List.getD_eq_getElem?_getD,V];exact E
 ·
  have A:za4 F D a=some (G,S'):=A;unfold za4 at A;cases C:zC D with
  |none=>rw[C]at A;cases A
  |some p =>
   obtain⟨k,r⟩:=p;rw[C,Option.bind_some]at A;dsimp only at A;split at A
   ·injection A with A
    injection A with N O
    subst N O;obtain⟨_,E,P⟩:=I.popped C;exact QO.one (by simp[ZV,qae]) (H.put P) E
   ·cases A
 ·
  have A:((zC D).map fun p=>(F,p.2))=some (G,S'):=A;cases C:zC D with
  |none=>rw[C]at A;cases A
  |some p =>
   obtain⟨k,r⟩:=p;rw[C]at A;injection A with A
   injection A with N O
   subst N O;obtain⟨_,E,P⟩:=I.popped C;exact QO.one (by simp[ZV,qae]) H E
 ·
  have A:((zC D).bind fun p=>(QP p.2 p.1).bind fun M=>qq F M p.1)=some (G,S'):=A;cases C:zC D with
  |none=>rw[C]at A;cases A
  |some p =>
   obtain⟨k,r⟩:=p;rw[C,Option.bind_some]at A;dsimp only at A;unfold QP at A;split at A
   ·rw[Option.bind_some]at A;obtain⟨rfl,rfl⟩:=ZT A;obtain⟨V,E,P⟩:=I.popped C;refine QO.one (by simp[ZV,qae]) H (zl.snoc ?_ P);rw[V];have c:Qj (S.dropLast++[Qj S])=Qj S:=(by unfold Qj;simp);exact E.snoc P
   ·cases A
 ·
  have A:((zC D).bind fun p=>(zC p.2).bind fun q=>(QP q.2 p.1).bind fun M=>qq F M q.1)=some (G,S'):=A;cases C:zC D with
  |none=>rw[C]at A;cases A
  |some p =>
   obtain⟨k,r⟩:=p;rw[C,Option.bind_some]at A;dsimp only at A;cases T:zC r with
   |none=>rw[T]at A;cases A
   |some q =>
    obtain⟨k2,r2⟩:=q;rw[T,Option.bind_some]at A;dsimp only at A;unfold QP at A;split at A
    ·rw[Option.bind_some]at A;obtain⟨rfl,rfl⟩:=ZT A;obtain⟨V,E,P⟩:=I.popped C;obtain⟨g1,m,s⟩:=E.popped T;have:=(m.snoc P).snoc s;rw[List.append_assoc]at this;exact QO.one (by simp[ZV,qae]) H (by simpa using this)
    ·cases A
 ·
  have A:((zg (Za l) (Qap a B) D).bind fun M=>(zg (Za l) [B] M).bind fun z=>qq F z B)=some (G,S'):=A;cases C:zg (Za l) (Qap a B) D with
  |none=>rw[C]at A;cases A
  |some K =>
   rw[C,Option.bind_some]at A;cases T:zg (Za l) [B] K with
   |none=>rw[T]at A;cases A
   |some K2 =>
    rw[T,Option.bind_some]at A;obtain⟨rfl,rfl⟩:=ZT A;by_cases f:a=12
    ·subst f;rw[show Qap 12 B=[] from rfl]at C;injection C with C
     subst C;obtain⟨E,P⟩:=I.take1 X Y T;show QO l h _ pc _ _ (if ofB 12 0 then some (pc+1,L,S.dropLast++[⟨Zab B,ofN (isI B) 12 (Qj S).n 0⟩]) else none)
     split
     ·exact QO.one (by simp[ZV,qae]) H (E.snoc (Za1 c fun R=>Qc0 R))
     ·exact QO.fault
    ·have g:∃t,Qap a B=[t]:=by
      unfold Qap;rw[if_neg f];split
      ·exact⟨_,rfl⟩
      ·exact⟨_,rfl⟩
     obtain⟨t,g⟩:=g;rw[g]at C;obtain⟨E,P⟩:=I.take1 X Y C;obtain⟨m,s⟩:=E.take1 X Y T;have e:zao pc ⟨9,a,b,B,cls,name⟩ L S=if ofB a (Qj S).n then some (pc+1,L,S.dropLast.dropLast++[⟨Zab B,ofN (isI B) a (Qj S.dropLast).n (Qj S).n⟩]) else none:=by
      show(if a=12 then _ else _)=_
      rw[if_neg f]
     rw[e];split
     ·exact QO.one (by simp[ZV,qae]) H (m.snoc (Za1 c fun R=>Qc0 R))
     ·exact QO.fault
 ·
  have A:((zg (Za l) [Qav B] D).bind fun M=>qq F M B)=some (G,S'):=A;cases C:zg (Za l) [Qav B] D with
  |none=>rw[C]at A;cases A
  |some K =>
   rw[C,Option.bind_some]at A;obtain⟨rfl,rfl⟩:=ZT A;obtain⟨E,P⟩:=I.take1 X Y C;refine QO.one (by simp[ZV,qae]) H (E.snoc (Za1 c fun R=>?_));rw[if_pos R];exact QbX _
 ·
  have A:((zg (Za l) [kJ,kJ] D).bind fun M=>qq F M kI)=some (G,S'):=A;cases C:zg (Za l) [kJ,kJ] D with
  |none=>rw[C]at A;cases A
  |some K =>
   rw[C,Option.bind_some]at A;obtain⟨rfl,rfl⟩:=ZT A;obtain⟨V,E,_⟩:=I.take X Y C;have y:S.take (S.length - [kJ,kJ].length)=S.dropLast.dropLast:=by
    rw[List.dropLast_eq_take,List.dropLast_eq_take,List.take_take,List.length_take];congr 1;simp;omega
   rw[y]at E;refine QO.one (by simp[ZV,qae]) H (E.snoc ?_);unfold zcG;split
   ·exact zaI (by decide) (by decide)
   ·split
    ·exact zaI (by decide) (by decide)
    ·exact zaI (by decide) (by decide)
 ·
  have A:((zg (Za l) [kI] D).map fun M=>(F,M))=some (G,S'):=A;cases C:zg (Za l) [kI] D with
  |none=>rw[C]at A;cases A
  |some K =>
   rw[C]at A;injection A with A
   injection A with N O
   subst N O;obtain⟨E,_⟩:=I.take1 X Y C;refine QO.one ?_ H E;have i:=QcE (x:=⟨12,a,b,B,cls,name⟩) rfl Z;exact zc1 i (Or.inl rfl) _
 ·
  have A:qdx F D=some (G,S'):=A;unfold qdx at A;cases C:zC D with
  |none=>rw[C]at A;cases A
  |some p =>
   obtain⟨k,r⟩:=p;rw[C,Option.bind_some]at A;dsimp only at A;split at A
   ·injection A with A
    injection A with N O
    subst N O;obtain⟨_,E,_⟩:=I.popped C;refine QO.one ?_ H E;have i:=QcE (x:=⟨13,a,b,B,cls,name⟩) rfl Z;have:=zc1 (pc:=pc) i (Or.inr rfl) (decide ((Qj S).n=0));simpa using this
   ·cases A
 ·
  have A:some (F,D)=some (G,S'):=A;injection A with A
  injection A with N O
  subst N O;exact QO.one (by simp[ZV,qae,ZU]) H I
theorem qdZ{l:List qa}(h:Qg l){c d:Str}(D:(Qb (Za l) c).isSome=true)(J:d∈qi (Za l) c)(L:(Qd (Za l) d).face=false):d∈zm (Za l) c\/d=zh:=by
 obtain⟨_,_,_,M⟩:=Zo h.closed D;have:=M (fun x=>(Qb (Za l) x).isSome=true/\((Qd (Za l) x).face=true\/x=zh\/x∈zm (Za l) c)) (fun x ⟨H,A⟩ a B=>by
  refine⟨h.closed x H a B,?_⟩;obtain⟨d,F⟩:=Option.isSome_iff_exists.1 H;obtain⟨I,N,O⟩:=zdL h F;have C:Qd (Za l) x=d:=by unfold Qd;rw[F];rfl
  have E:zw (Za l) x=if d.super.size=0 then d.faces else d.super::d.faces:=by unfold zw;rw[F];rfl
  rw[E]at B;split at B
  ·exact Or.inl (I a B)
  ·rename_i G;rcases List.mem_cons.1 B with rfl|B
   ·rcases A with A|rfl|A
    ·rw[C]at A;exact Or.inr (Or.inl (N A))
    ·have e:d=Qd (Za l) zh:=C.symm;rw[e]at G;exact absurd rfl G
    ·exact Or.inr (Or.inr (h.tree.trans c x _ D A ((h.line_mem H).2 (Or.inr ⟨by rw[C];exact G,by rw[C];exact zad _⟩))))
   ·exact Or.inl (I a B)) ⟨D,Or.inr (Or.inr (zad c))⟩ d J
 rcases this.2 with A|A|A
 ·rw[L]at A;cases A
 ·exact Or.inr A
 ·exact Or.inl A
theorem QdZ{l:List qa}(h:Qg l){c d:Str}(D:(Qb (Za l) c).isSome=true)(A:d∈zm (Za l) c):∃r,qW (Za l) c=qW (Za l) d++r:=by
 refine h.line_ind (fun c=>∀d∈zm (Za l) c,∃r,qW (Za l) c=qW (Za l) d++r) (fun x C B d A=>?_) (fun x C B F d A=>?_) c D d A
 ·rw[Qg.line_top B]at A;rw[List.mem_singleton.1 A];exact⟨[],by simp⟩
 ·rw[h.line_up C B]at A;rcases List.mem_cons.1 A with rfl|A
  ·exact⟨[],by simp⟩
  ·obtain⟨r,E⟩:=F d A;exact⟨r++qas (Za l) x,by rw[qfa h C B,E,List.append_assoc]⟩
theorem QdF{α:Type}[DecidableEq α]{x:α}:∀{l:List α} {k:Nat},qX x l=some k->l[k]? = some x
 |[],_,h=>by cases h
 |y::r,k,h=>by
  unfold qX at h;split at h
  ·rename_i B;injection h with h
   subst h;rw[B];rfl
  ·cases A:qX x r with
   |none=>rw[A]at h;cases h
   |some j =>
    rw[A]at h;injection h with h
    subst h;have:=QdF A;simpa using this
theorem zdG{c:qa}(A:Qf c=0)(B:c.face=true):c.fields=[]:=by
 unfold Qf at A;split at A
 ·cases A
 ·split at A
  ·rename_i h;exact absurd A h
  ·split at A
   ·cases A
   ·split at A
    ·rename_i h;exact absurd A h
    ·split at A
     ·rename_i h;exact absurd A h
     ·split at A
      ·cases A
      ·rename_i h;rw[B]at h;simpa using h
theorem zd0{l:List qa}{d:Str}(E:(Qb (Za l) d).isSome=true):(d=zh/\Qd (Za l) d=Z8)\/(d=qm/\Qd (Za l) d=Zam)\/∃c∈l,c.name=d/\Qd (Za l) d=c:=by
 cases B:Qb (Za l) d with
 |none=>rw[B]at E;cases E
 |some c =>
  have A:c∈Za l:=List.mem_of_find?_eq_some B;have C:c.name=d:=by simpa using List.find?_some B
  have D:Qd (Za l) d=c:=by unfold Qd;rw[B];rfl
  unfold Za at A;rcases List.mem_cons.1 A with rfl|A
  ·exact Or.inl ⟨C.symm,D⟩
  ·rcases List.mem_cons.1 A with rfl|A
   ·exact Or.inr (Or.inl ⟨C.symm,D⟩)
   ·exact Or.inr (Or.inr ⟨c,A,C,D⟩)
theorem zbY{l:List qa}(B:∀c∈l,Qf c=0){d:Str}(C:(Qb (Za l) d).isSome=true)(h:(Qd (Za l) d).face=true):(Qd (Za l) d).fields=[]:=by
 rcases zd0 C with⟨_,A⟩|⟨_,A⟩|⟨c,D,_,A⟩
 ·rw[A];rfl
 ·rw[A];rfl
 ·rw[A]at h ⊢;exact zdG (B c D) h
theorem zbk{cs:List qa}{n:Str}:∀{A:List Str} {x:Str} {f:QJ},qab cs n A=some (x,f)->x∈A
 |[],_,_,h=>by cases h
 |y::r,x,f,h=>by
  unfold qab at h;split at h
  ·injection h with h
   injection h with B C
   rw[<-B];exact List.mem_cons_self ..
  ·exact List.mem_cons_of_mem _ (zbk h)
theorem qdC{l:List qa}(F:Qg l)(O:∀c∈l,Qf c=0){c cls n:Str}{p:Str×QJ}(J:(Qb (Za l) c).isSome=true)(G:(Qb (Za l) cls).isSome=true)(P:cls∈qi (Za l) c)(C:zaM (Za l) cls n=some p):
 ∃k,qav (Za l) cls n=some k/\(Zq (qW (Za l) c))[k]? = some p.2.type:=by
 obtain⟨d,f⟩:=p;have H:(Qd (Za l) cls).face=false:=by
  cases E:(Qd (Za l) cls).face with
  |false=>rfl
  |true =>
   have I:=Qg.face_line F G E;have A:=zbk C;have B:=qak C;rw[I]at A;rcases List.mem_cons.1 A with rfl|A
   ·rw[zbY O G E]at B;cases B
   ·rw[List.mem_singleton.1 A]at B;cases B
 have D:=Qdu F (n:=n) G;rw[C]at D;obtain⟨k,A,B⟩:=D;refine⟨k,A,?_⟩;have L:=QdF B;rcases qdZ F J P H with I|rfl
 ·obtain⟨r,R⟩:=QdZ F J I;unfold Zq;rw[R,List.getElem?_map,List.getElem?_append_left (List.getElem?_eq_some_iff.1 L).1,L];rfl
 ·have M:=qak C;have N:=zbk C;rw[Qg.line_top (show(Qd (Za l) zh).super.size=0 from rfl)]at N;rw[List.mem_singleton.1 N]at M;cases M
def Qq(l:List qa)(h:List Zc)(S':List Str)(r:Qe0):Prop:=∀h' S1,r=.ok h' S1->Zy (Za l) h'=0/\Ext h h'/\zl (Za l) h' S1 S'
theorem Qq.same{l:List qa}{h:List Zc}{S':List Str}{A:List Val}(B:Zy (Za l) h=0)(a:zl (Za l) h A S'):Qq l h S' (.ok h A):=fun _ _ e=>by
 injection e with C D
 subst C D;exact⟨B,Ext.refl _,a⟩
theorem Qq.fault{l:List qa}{h:List Zc}{S':List Str}:Qq l h S' .fault:=fun _ _ e=>by cases e
theorem Qq.full{l:List qa}{h:List Zc}{S':List Str}:Qq l h S' .full:=fun _ _ e=>by cases e
theorem zed{l:List qa}{h:List Zc}{x:Zc}{K:List Str}{S:List Val}{k:Str}{y:Ty}(B:h.length<50->Zy (Za l) (h++[x])=0)(C:zl (Za l) h S K)(D:Zr k=.ty y)(E:Qm y=true)(F:ZB (Za l) (Qz x.type) y=true):Qq l h (K++[k]) (ZbF h x S):=by
 unfold ZbF;split
 ·exact Qq.full
 ·rename_i G;intro I J e;injection e with A H
  subst A H;refine⟨B (by omega),Ext.more h x,(C.ext (Ext.more h x)).snoc ?_⟩;unfold Qy;rw[D];show Zn (Za l) (h++[x]) ⟨3,(h.length:Int)+1⟩ y=true
  unfold Zn;rw[if_neg (show ¬(3:Int)=1 by decide),if_neg (show ¬(3:Int)=2 by decide),if_pos rfl];have A:((h.length:Int)+1).toNat-1=h.length:=by omega
  dsimp only;rw[A,List.getElem?_append_right Xl,Nat.sub_self];dsimp only[List.getElem?_cons_zero];rw[E,F];simp;omega
theorem Zag{α:Type}{cs:List qa}{t:Str}{o:Option α}{r:α}(h:knK cs t o=some r):Zg cs t=0/\o=some r:=by
 unfold knK at h;split at h
 ·cases h
 ·rename_i A;exact⟨Decidable.not_not.1 A,h⟩
theorem Zd0{l:List qa}(I:Qg l)(J:∀c∈l,Qf c=0){h:List Zc}(L:Zy (Za l) h=0){cls:Str}{E F G S':List Str}{S:List Val}(M:zl (Za l) h S F)(C:knK (Za l) (Qc cls) (zbr (Za l) cls E F)=some (G,S')):
 G=E/\Qq l h S' (ZbF h (qU (Za l) cls) S):=by
 obtain⟨O,B⟩:=Zag C;unfold zbr at B;split at B
 ·cases B
 ·rename_i A;obtain⟨rfl,rfl⟩:=ZT B;have H:=zaY O;refine⟨rfl,zed (fun D=>QcG J L D H (by simpa using A)) M (zcg cls) rfl ?_⟩;have N:Qz (qU (Za l) cls).type=.cl cls:=by
   show Qz (qaM cls)=_
   rw[<-QcA];exact qdw cls
  rw[N];exact ZaZ I (.cl cls) H
theorem qdg{l:List qa}(G:Qg l)(P:∀c∈l,Qf c=0){h:List Zc}(H:Zy (Za l) h=0){t:Str}(I:zp (91::lst t)=true){J B L S':List Str}{S:List Val}(R:zl (Za l) h S B)(C:knK (Za l) t ((zg (Za l) [kI] B).bind fun V=>qq J V (Q5 t))=some (L,S')):
 L=J/\Qq l h S' (if (Qj S).n<0\/10<(Qj S).n then .fault else ZbF h (QaF t (Qj S).n.toNat) S.dropLast):=by
 obtain⟨M,A⟩:=Zag C;cases E:zg (Za l) [kI] B with
 |none=>rw[E]at A;cases A
 |some K =>
  rw[E,Option.bind_some]at A;obtain⟨rfl,rfl⟩:=ZT A;obtain⟨U,_⟩:=R.take1 G (Qi H) E;refine⟨rfl,?_⟩;split
  ·exact Qq.fault
  ·have D:=Qcw M I;obtain⟨w,N⟩:=QT D;obtain⟨y,rfl,O⟩:=Qa3.arr N;refine zed (fun F=>zdZ P H F M I (by omega)) U (ZL N.1) rfl ?_;have T:Qz (QaF t (Qj S).n.toNat).type=.ar y:=qfg t y O.1;rw[T];exact ZaZ G (.ar y) O.2
theorem Za0{l:List qa}(H:Qg l)(I:∀c∈l,Qf c=0){h:List Zc}(J:Zy (Za l) h=0){v:Val}{cls n:Str}{p:Str×QJ}(L:(Qb (Za l) cls).isSome=true)(B:Qy (Za l) h v (Qc cls))(M:0<v.n)(C:zaM (Za l) cls n=some p):
 ∃x k,h[v.n.toNat-1]? = some x/\qj h v=x/\x∈h/\qav (Za l) cls n=some k/\(zO (Za l) x)[k]? = some p.2.type:=by
 unfold Qy at B;rw[zcg]at B;obtain⟨_,x,O,P,G,A⟩:=Qan B rfl M;obtain⟨_,_,t,D⟩:=qK (Qi J x G);rw[D.of]at A;cases t with
 |i=>cases A
 |j=>cases A
 |ar e =>
  have:cls=zh:=Xm A;subst this;have E:=zbk C;have F:=qak C;rw[Qg.line_top (show(Qd (Za l) zh).super.size=0 from rfl)]at E;rw[List.mem_singleton.1 E]at F;cases F
 |cl c =>
  have N:(Qb (Za l) c).isSome=true:=D.good;obtain⟨k,R,S⟩:=qdC H I N L (QF.1 A) C;refine⟨x,k,O,P,G,R,?_⟩;unfold zO;rw[D.of];exact S
theorem zbM{l:List qa}{cls n t:Str}(h:qN (Za l) cls n=some t):(Qb (Za l) cls).isSome=true/\∃p,zaM (Za l) cls n=some p/\p.2.type=t:=by
 unfold qN at h;split at h
 ·cases h
 ·rename_i A;refine⟨zaY (Decidable.not_not.1 A),?_⟩;split at h
  ·cases h
  ·rename_i d f B;split at h
   ·injection h with h
    exact⟨(d,f),B,h⟩
   ·cases h
theorem ZbX{l:List qa}{h:List Zc}{v:Val}{t:Str}(A:zp (lst t)=true)(C:Zn (Za l) h v (Qz t)=true):Qy (Za l) h v t:=by
 unfold Qy;have D:¬lst t=[78]:=fun e=>by rw[e]at A;exact absurd A (by decide)
 have E:¬lst t=[84]:=fun e=>by rw[e]at A;exact absurd A (by decide)
 have B:Zr t=.ty (Qz t):=by unfold Zr;rw[if_neg D,if_neg E]
 rw[B];exact C
theorem qd0{l:List qa}(G:Qg l)(H:∀c∈l,Qf c=0){h:List Zc}(C:Zy (Za l) h=0){cls n:Str}{I D J S':List Str}{S:List Val}(O:zl (Za l) h S D)(A:((qN (Za l) cls n).bind fun t=>(zg (Za l) [Qc cls] D).bind fun b=>qq I b t)=some (J,S')):
 J=I/\Qq l h S' (if (Qj S).n<=0 then .fault else .ok h (S.dropLast++[(qj h (Qj S)).has.getD ((qav (Za l) cls n).getD 0) v0])):=by
 cases E:qN (Za l) cls n with
 |none=>rw[E]at A;cases A
 |some t =>
  rw[E,Option.bind_some]at A;cases F:zg (Za l) [Qc cls] D with
  |none=>rw[F]at A;cases A
  |some K =>
   rw[F,Option.bind_some]at A;obtain⟨rfl,rfl⟩:=ZT A;obtain⟨T,U⟩:=O.take1 G (Qi C) F;obtain⟨V,p,B,rfl⟩:=zbM E;refine⟨rfl,?_⟩;split
   ·exact Qq.fault
   ·rename_i e;obtain⟨x,k,d,X,L,Y,M⟩:=Za0 G H C V U (by omega) B;refine Qq.same C (T.snoc ?_);rw[X,Y,Option.getD_some];obtain⟨_,Z,a⟩:=z7 C;have P:=QaY (Z x L);have R:=(List.getElem?_eq_some_iff.1 M).1;obtain⟨v,N⟩:∃v,x.has[k]? = some v:=⟨x.has[k]'(by omega),Xn _⟩;rw[List.getD_eq_getElem?_getD,N];exact ZbX (zaj H p.1 p.2 (qak B)) (qT.1 (List.all_eq_true.1 a x L) k v _ N M)
theorem qb9{t:Str}(A:zp (lst t)=true):Zr t=.ty (Qz t):=by
 have B:¬lst t=[78]:=fun e=>by rw[e]at A;exact absurd A (by decide)
 have C:¬lst t=[84]:=fun e=>by rw[e]at A;exact absurd A (by decide)
 unfold Zr;rw[if_neg B,if_neg C]
theorem Qd0{l:List qa}{h:List Zc}{v:Val}{t:Str}(B:zp (lst t)=true)(A:Qy (Za l) h v t):Zn (Za l) h v (Qz t)=true:=by
 unfold Qy at A;rw[qb9 B]at A;exact A
theorem zl.take2{l:List qa}(B:Qg l){h:List Zc}(C:Qai (Za l) h){t u:Str}{S:List Val}{K K':List Str}(a:zl (Za l) h S K)(e:zg (Za l) [t,u] K=some K'):zl (Za l) h S.dropLast.dropLast K'/\Qy (Za l) h (Qj S) t/\Qy (Za l) h (Qj S.dropLast) u:=by
 unfold zg at e;split at e
 ·cases e
 ·cases A:zC K with
  |none=>rw[A]at e;cases e
  |some p =>
   obtain⟨k,I⟩:=p;rw[A]at e;dsimp only at e;split at e
   ·rename_i H;obtain⟨_,D,E⟩:=a.popped A;obtain⟨F,G⟩:=D.take1 B C e;exact⟨F,E.up B C H,G⟩
   ·cases e
theorem zd1{l:List qa}(I:Qg l)(J:∀c∈l,Qf c=0){h:List Zc}(C:Zy (Za l) h=0){cls n:Str}{L D M S':List Str}{S:List Val}(P:zl (Za l) h S D)(A:((qN (Za l) cls n).bind fun t=>(zg (Za l) [t,Qc cls] D).map fun N=>(L,N))=some (M,S')):
 M=L/\Qq l h S' (if (Qj S.dropLast).n<=0 then .fault else .ok (ZaD h (Qj S.dropLast) ((qav (Za l) cls n).getD 0) (Qj S)) S.dropLast.dropLast):=by
 cases E:qN (Za l) cls n with
 |none=>rw[E]at A;cases A
 |some t =>
  rw[E,Option.bind_some]at A;cases F:zg (Za l) [t,Qc cls] D with
  |none=>rw[F]at A;cases A
  |some K =>
   rw[F]at A;injection A with A
   injection A with G H
   subst G H;obtain⟨R,T,U⟩:=P.take2 I (Qi C) F;obtain⟨V,p,B,rfl⟩:=zbM E;refine⟨rfl,?_⟩;split
   ·exact Qq.fault
   ·rename_i d;obtain⟨x,k,X,a,b,Y,Z⟩:=Za0 I J C V U (by omega) B;intro f N e;injection e with G H
    subst G H;refine⟨qdF C X fun s O=>?_,Ext.set _ _ _ _,R.ext (Ext.set _ _ _ _)⟩;rw[Y,Option.getD_some,Z]at O;obtain rfl:=Option.some.inj O;exact Qd0 (zaj J p.1 p.2 (qak B)) T
theorem zl.popR{cs:List qa}{h:List Zc}{S:List Val}{K K':List Str}{k:Str}(a:zl cs h S K)(e:QD K=some (k,K')):zl cs h S.dropLast K'/\Qy cs h (Qj S) k/\zaW (Zr k)=true:=by
 obtain⟨A,B⟩:=Qaw e;obtain⟨_,C,D⟩:=a.popped A;exact⟨C,D,B⟩
theorem zeB{l:List qa}(D:Qg l)(E:∀c∈l,Qf c=0){h:List Zc}(A:Zy (Za l) h=0)(v:Val):(qj h v).has.length<=4194304:=by
 unfold qj;rw[List.getD_eq_getElem?_getD];cases G:h[v.n.toNat-1]? with
 |none=>exact Nat.zero_le _
 |some x =>
  have B:=Xe G;have F:=QaY (Qi A x B);obtain⟨_,_,t,C⟩:=qK (Qi A x B);rw[Option.getD_some,<-F];unfold zO;rw[C.of];cases t with
  |i=>exact Nat.zero_le _
  |j=>exact Nat.zero_le _
  |ar e =>
   have:=zdr (Qi A x B) C;simp;omega
  |cl c =>
   rw[Zbq];exact Zbx D E C.good
theorem zcO{l:List qa}(G:Qg l)(H:∀c∈l,Qf c=0){h:List Zc}(D:Zy (Za l) h=0){E B F S':List Str}{S:List Val}(I:zl (Za l) h S B)(A:((QD B).bind fun p=>if zat p.1=true then qq E p.2 kI else none)=some (F,S')):
 F=E/\Qq l h S' (if (Qj S).n<=0 then .fault else .ok h (S.dropLast++[⟨1,(qj h (Qj S)).has.length⟩])):=by
 cases C:QD B with
 |none=>rw[C]at A;cases A
 |some p =>
  obtain⟨k,K⟩:=p;rw[C,Option.bind_some]at A;dsimp only at A;split at A
  ·obtain⟨rfl,rfl⟩:=ZT A;obtain⟨J,_,_⟩:=I.popR C;refine⟨rfl,?_⟩;split
   ·exact Qq.fault
   ·have:=zeB G H D (Qj S);exact Qq.same D (J.snoc (zaI (by omega) (by omega)))
  ·cases A
theorem qbt{l:List qa}(L:Qg l){h:List Zc}(J:Zy (Za l) h=0){v:Val}{k t:Str}(M:zp (lst t)=true)(B:Qy (Za l) h v k)(E:0<v.n)(A:qba (Za l) k t=true):
 ∃x a,h[v.n.toNat-1]? = some x/\qj h v=x/\x∈h/\Qz x.type=.ar a/\ZP (Za l) a=true/\ZB (Za l) a (Qz t)=true/\(zO (Za l) x).length=x.has.length/\∀s∈zO (Za l) x,Qz s=a:=by
 unfold qba at A;unfold Qy at B;cases G:Zr k with
 |n =>
  rw[G]at B;have B:v=⟨3,0⟩:=B;rw[B]at E;exact absurd E (by decide)
 |t=>rw[G]at A;cases A
 |ty y =>
  rw[G]at A B;cases y with
  |i=>cases A
  |j=>cases A
  |cl c=>cases A
  |ar e =>
   dsimp only at A B;rw[qb9 M,Bool.and_eq_true]at A;have N:ZB (Za l) e (Qz t)=true:=A.1;obtain⟨_,x,O,P,H,C⟩:=Qan B rfl E;have F:=QaY (Qi J x H);obtain⟨_,_,z,D⟩:=qK (Qi J x H);rw[D.of]at C;cases z with
   |i=>cases C
   |j=>cases C
   |cl c=>cases C
   |ar a =>
    have C:ZB (Za l) a e=true:=C;refine⟨x,a,O,P,H,D.of,D.good,QaP L D.good C N,F,fun s I=>?_⟩;unfold zO at I;rw[D.of]at I;rw[List.eq_of_mem_replicate I];exact zU rfl
theorem ZbM{cs:List qa}{t:Str}{S S':List Str}(h:qP cs t S=some S'):∃A k,zg cs [kI] S=some A/\QD A=some (k,S')/\qba cs k t=true:=by
 unfold qP at h;split at h
 ·cases h
 ·cases C:zg cs [kI] S with
  |none=>rw[C]at h;cases h
  |some A =>
   rw[C,Option.bind_some]at h;cases B:QD A with
   |none=>rw[B]at h;cases h
   |some p =>
    obtain⟨k,E⟩:=p;rw[B,Option.bind_some]at h;dsimp only at h;split at h
    ·rename_i D;injection h with h
     subst h;exact⟨A,k,rfl,B,D⟩
    ·cases h
theorem Qdg{l:List qa}(C:Qg l){h:List Zc}(B:Zy (Za l) h=0){t:Str}(G:zp (lst t)=true){H D I S':List Str}{S:List Val}(O:zl (Za l) h S D)(A:((qP (Za l) t D).bind fun L=>qq H L t)=some (I,S')):
 I=H/\Qq l h S' (if (Qj S.dropLast).n<=0 then .fault else if (Qj S).n<0\/((qj h (Qj S.dropLast)).has.length:Int)<=(Qj S).n then .fault else .ok h (S.dropLast.dropLast++[(qj h (Qj S.dropLast)).has.getD (Qj S).n.toNat v0])):=by
 cases F:qP (Za l) t D with
 |none=>rw[F]at A;cases A
 |some K =>
  rw[F,Option.bind_some]at A;obtain⟨rfl,rfl⟩:=ZT A;obtain⟨L,k,P,R,T⟩:=ZbM F;obtain⟨U,_⟩:=O.take1 C (Qi B) P;obtain⟨V,X,_⟩:=U.popR R;refine⟨rfl,?_⟩;split
  ·exact Qq.fault
  ·rename_i o;split
   ·exact Qq.fault
   ·rename_i f;obtain⟨x,a,g,Y,Z,i,j,b,m,c⟩:=qbt C B G X (by omega) T;rw[Y]at f ⊢;refine Qq.same B (V.snoc ?_);have E:(Qj S).n.toNat<x.has.length:=(by omega);obtain⟨v,M⟩:∃v,x.has[(Qj S).n.toNat]? = some v:=⟨_,Xn E⟩;obtain⟨s,N⟩:∃s,(zO (Za l) x)[(Qj S).n.toNat]? = some s:=⟨_,Xn (by omega)⟩;rw[List.getD_eq_getElem?_getD,M];obtain⟨_,d,e⟩:=z7 B;have J:=qT.1 (List.all_eq_true.1 e x Z) _ v s M N;rw[c s (Xe N)]at J;exact ZbX G (Qcu C d J b)
theorem ZcO{l:List qa}(C:Qg l){h:List Zc}(B:Zy (Za l) h=0){t:Str}(O:zp (lst t)=true){I D J S':List Str}{S:List Val}(P:zl (Za l) h S D)(A:knK (Za l) t ((zg (Za l) [t] D).bind fun L=>(qP (Za l) t L).map fun N=>(I,N))=some (J,S')):
 J=I/\Qq l h S' (if (Qj S.dropLast.dropLast).n<=0 then .fault else if (Qj S.dropLast).n<0\/((qj h (Qj S.dropLast.dropLast)).has.length:Int)<=(Qj S.dropLast).n then .fault
  else if Zn (Za l) h (Qj S) (Zdf (Qz (qj h (Qj S.dropLast.dropLast)).type)) then .ok (ZaD h (Qj S.dropLast.dropLast) (Qj S.dropLast).n.toNat (Qj S)) S.dropLast.dropLast.dropLast else .fault):=by
 obtain⟨_,A⟩:=Zag A;cases E:zg (Za l) [t] D with
 |none=>rw[E]at A;cases A
 |some i =>
  rw[E,Option.bind_some]at A;cases F:qP (Za l) t i with
  |none=>rw[F]at A;cases A
  |some K =>
   rw[F]at A;injection A with A
   injection A with G H
   subst G H;obtain⟨L,k,R,T,U⟩:=ZbM F;obtain⟨V,_⟩:=P.take1 C (Qi B) E;obtain⟨X,_⟩:=V.take1 C (Qi B) R;obtain⟨Y,Z,_⟩:=X.popR T;refine⟨rfl,?_⟩;split
   ·exact Qq.fault
   ·rename_i q;split
    ·exact Qq.fault
    ·split
     ·rename_i M;obtain⟨x,a,b,c,j,d,m,o,p,f⟩:=qbt C B O Z (by omega) U;rw[c,d]at M;intro r N e;injection e with G H
      subst G H;refine⟨qdF B b fun s g=>?_,Ext.set _ _ _ _,Y.ext (Ext.set _ _ _ _)⟩;rw[f s (Xe g)];exact M
     ·exact Qq.fault
theorem Qeb{cs:List qa}{h:List Zc}{v:Val}{k:Str}(A:Qy cs h v k)(B:zaW (Zr k)=true):v.kind=3/\0<=v.n/\(0<v.n->∃x,h[v.n.toNat-1]? = some x/\qj h v=x/\x∈h/\∃y,Zr k=.ty y/\ZB cs (Qz x.type) y=true):=by
 unfold Qy at A;cases D:Zr k with
 |n =>
  rw[D]at A;have A:v=⟨3,0⟩:=A;subst A;exact⟨rfl,by decide,fun h=>absurd h (by decide)⟩
 |t=>rw[D]at B;cases B
 |ty y =>
  rw[D]at A B;have B:Qm y=true:=by simpa[zaW,zA] using B
  dsimp only at A;have C:=A;unfold Zn at A;split at A
  ·rw[Bool.and_eq_true]at A;have:=Xm A.1;subst this;cases B
  ·split at A
   ·have:=Xm A;subst this;cases B
   ·split at A
    ·rename_i I;rw[Bool.and_eq_true,Bool.and_eq_true,Bool.and_eq_true]at A;refine⟨I,Xm A.1.2.1,fun J=>?_⟩;obtain⟨_,x,E,F,G,H⟩:=Qan C B J;exact⟨x,E,F,G,y,rfl,H⟩
    ·cases A
theorem ZeB{cs:List qa}{h:List Zc}{v:Val}{t:Str}(C:zp (lst t)=true)(A:QX (lst t)=false)(D:v.kind=3)(E:v.n=0):Zn cs h v (Qz t)=true:=by
 obtain⟨y,B⟩:=Q8 C;rw[B.of];have F:Qm y=true:=by
  rw[<-B.text,qa8]at A;simpa using A
 unfold Zn;rw[if_neg (by omega),if_neg (by omega),if_pos D,F,E];simp
theorem Zd1{cs:List qa}{h:List Zc}{v:Val}{t:Str}{x:Zc}(F:zp (lst t)=true)(A:QX (lst t)=false)(G:v.kind=3)(I:0<v.n)(B:h[v.n.toNat-1]? = some x)(C:ZB cs (Qz x.type) (Qz t)=true):Zn cs h v (Qz t)=true:=by
 obtain⟨y,E⟩:=Q8 F;rw[E.of]at C ⊢;have H:Qm y=true:=by
  rw[<-E.text,qa8]at A;simpa using A
 have D:=(List.getElem?_eq_some_iff.1 B).1;unfold Zn;rw[if_neg (by omega),if_neg (by omega),if_pos G,H,B];dsimp only;rw[C];simp;omega
theorem ZdG{l:List qa}{h:List Zc}(E:Zy (Za l) h=0){t:Str}(B:zp (lst t)=true)(F:QX (lst t)=false){G D H S':List Str}{S:List Val}(I:zl (Za l) h S D)(A:knK (Za l) t ((QD D).bind fun p=>qq G p.2 t)=some (H,S')):
 H=G/\Qq l h S' (if (Qj S).n=0 then .ok h S else if (Qj S).n<0 then .fault else if ZB (Za l) (Qz (qj h (Qj S)).type) (Qz t) then .ok h S else .fault):=by
 obtain⟨_,A⟩:=Zag A;cases C:QD D with
 |none=>rw[C]at A;cases A
 |some p =>
  obtain⟨k,K⟩:=p;rw[C,Option.bind_some]at A;obtain⟨rfl,rfl⟩:=ZT A;obtain⟨L,P,R⟩:=I.popR C;obtain⟨M,X,T⟩:=Qeb P R;have J:S=S.dropLast++[Qj S]:=(I.popped (Qaw C).1).1;refine⟨rfl,?_⟩;split
  ·rename_i N;refine Qq.same E ?_;rw[J];exact L.snoc (ZbX B (ZeB B F M N))
  ·split
   ·exact Qq.fault
   ·split
    ·rename_i N Z O;obtain⟨x,U,V,Y,_⟩:=T (by omega);rw[V]at O;refine Qq.same E ?_;rw[J];exact L.snoc (ZbX B (Zd1 B F M (by omega) U O))
    ·exact Qq.fault
theorem qeB{l:List qa}{h:List Zc}(F:Zy (Za l) h=0){t:Str}{D B E S':List Str}{S:List Val}(G:zl (Za l) h S B)(A:knK (Za l) t ((QD B).bind fun p=>qq D p.2 kI)=some (E,S'))(c:Prop)[Decidable c]:
 E=D/\Qq l h S' (.ok h (S.dropLast++[⟨1,if c then 1 else 0⟩])):=by
 obtain⟨_,A⟩:=Zag A;cases C:QD B with
 |none=>rw[C]at A;cases A
 |some p =>
  obtain⟨k,K⟩:=p;rw[C,Option.bind_some]at A;obtain⟨rfl,rfl⟩:=ZT A;obtain⟨H,_,_⟩:=G.popR C;refine⟨rfl,Qq.same F (H.snoc ?_)⟩;split
  ·exact zaI (by decide) (by decide)
  ·exact zaI (by decide) (by decide)
theorem QeB{l:List qa}(G:Qg l)(I:∀c∈l,Qf c=0){h:List Zc}(D:Zy (Za l) h=0){x:Ins}(N:qo x=0)(J:15<=x.op)(L:x.op<=23){M:Str}{O P R S':List Str}{S:List Val}(E:zl (Za l) h S P)(B:qJ (Za l) M x O P=some (R,S')):
 R=O/\Qq l h S' (qO (Za l) h x S):=by
 obtain⟨_,_,_,C⟩:=ZaT N;clear N;obtain⟨F,a,b,A,cls,name⟩:=x;dsimp only at J L;have H:F=15\/F=16\/F=17\/F=18\/F=19\/F=20\/F=21\/F=22\/F=23:=by omega
 rcases H with rfl|rfl|rfl|rfl|rfl|rfl|rfl|rfl|rfl
 ·exact Zd0 G I D E B
 ·exact qd0 G I D E B
 ·exact zd1 G I D E B
 ·have C:(zp (lst A)&&zp (91::lst A))=true:=C;rw[Bool.and_eq_true]at C;exact qdg G I D C.2 E B
 ·exact zcO G I D E B
 ·have C:(zp (lst A)&&zp (91::lst A))=true:=C;rw[Bool.and_eq_true]at C;exact Qdg G D C.1 E B
 ·have C:(zp (lst A)&&zp (91::lst A))=true:=C;rw[Bool.and_eq_true]at C;exact ZcO G D C.1 E B
 ·have C:(zp (lst A)&&!QX (lst A))=true:=C;rw[Bool.and_eq_true]at C;exact ZdG D C.1 (by simpa using C.2) E B
 ·exact qeB D E B _
def Zfr(l:List qa)(g0:Str)(v:Val)(t:Str):Prop :=
 (t=⟨#[]⟩/\(((g0.toList==[86])=true/\v=v0)\/((g0.toList==[86])=false/\∃h,Qy (Za l) h v g0)))\/(v=v0/\(Qb (Za l) t).isSome=true/\zak (qi (Za l) t) qm=true)
def Qcg(l:List qa)(g0:Str):Out->Prop
 |.on k=>qa5 l g0 k
 |.ends v t=>Zfr l g0 v t
 |.full=>True
theorem qaD.ext{l:List qa}{h B:List Zc}{C:Str}(H:Ext h B):∀{r:List Cal},qaD l h C r->qaD l B C r
 |[],_=>trivial
 |_::_,⟨g,⟨A,f,D,E,F⟩,b⟩=>⟨g,⟨A,f,D,E,F.ext H⟩,b.ext H⟩
theorem Zc1{l:List qa}(F:Qg l){h:List Zc}(G:Zy (Za l) h=0){E cls:Str}{v:Val}{x:Zc}(B:v.kind=3)(H:0<v.n)(I:h[v.n.toNat-1]? = some x)(J:Qz x.type=.cl cls)(L:(Qb (Za l) cls).isSome=true)(M:zak (qi (Za l) cls) qm=true){A:List Cal}(C:A.length<=20)(D:qaD l h E A):Qcg l E (qF (Za l) h cls v A):=by
 rcases ZcG F G B H I J C D with⟨k,e,B⟩|e
 ·rw[e];exact B
 ·rw[e];exact Or.inr ⟨rfl,L,M⟩
theorem qaR(l:List qa):(Qb (Za l) qm).isSome=true:=rfl
theorem Zbd{cs:List qa}{A Zb:Str}{x:Ins}{L S:List Str}(h:¬(15<=x.op/\x.op<=25)):Qae cs A Zb x L S=zE cs Zb x L S:=by
 unfold Qae;have:∀L S,qJ cs A x L S=some (L,S):=fun L S=>by
  unfold qJ;repeat rw[if_neg (by omega)]
 cases zE cs Zb x L S with
 |none=>rfl
 |some p=>exact this p.1 p.2
theorem qbX{cs:List qa}{A Zb:Str}{x:Ins}{L S:List Str}(h:15<=x.op/\x.op<=25):Qae cs A Zb x L S=qJ cs A x L S:=by
 have:zE cs Zb x L S=some (L,S):=by
  unfold zE;repeat rw[if_neg (by omega)]
 unfold Qae;rw[this];rfl
theorem qdG{l:List qa}(A:Qg l):zak (qi (Za l) qm) qm=true:=QF.2 (zam A (qaR l) (zad qm))
theorem Ze2(cs:List qa)(c:Str):Qz (qU cs c).type=.cl c:=by
 show Qz (qaM c)=_
 rw[<-QcA];exact qdw c
theorem Qbd{l:List qa}(D:Qg l)(F:∀c∈l,Qf c=0){h:List Zc}(G:Zy (Za l) h=0){E:Str}{A:List Cal}(B:A.length<=20)(C:qaD l h E A):Qcg l E (QM (Za l) h A):=by
 unfold QM;split
 ·trivial
 ·rename_i H;refine Zc1 D (QcG F G (by omega) (qaR l) rfl) rfl (by show(0:Int)<(h.length:Int)+1;omega) (x:=qU (Za l) qm) ?_ (Ze2 _ _) (qaR l) (qdG D) B (C.ext (Ext.more h _));show(h++[qU (Za l) qm])[((h.length:Int)+1).toNat-1]? = _
  rw[show((h.length:Int)+1).toNat-1=h.length by omega];simp
theorem zeC{l:List qa}(J:Qg l){h:List Zc}(G:Zy (Za l) h=0){H:Str}{v:Val}(D:Qy (Za l) h v (Qc qm))(I:0<v.n){A:List Cal}(E:A.length<=20)(F:qaD l h H A):Qcg l H (zb9 (Za l) h v A):=by
 unfold Qy at D;rw[zcg]at D;obtain⟨M,x,N,O,P,B⟩:=Qan D rfl I;obtain⟨_,_,t,C⟩:=qK (Qi G x P);rw[C.of]at B;cases t with
 |i=>cases B
 |j=>cases B
 |ar e =>
  have:qm=zh:=Xm B;exact absurd this (by decide)
 |cl c =>
  unfold zb9;have L:qan (qj h v).type=c:=by
   unfold qan;rw[O,C.of];exact ByteArray.ext (Array.ext' rfl)
  rw[L];exact Zc1 J G M I N C.of C.good B E F
theorem ZeC{x:Ins}(A:x.op=24\/x.op=25)(pc:Nat):pc+1∈ZV x pc:=by
 have B:qae x.op=false:=by rcases A with h|h<;>rw[h]<;>rfl
 unfold ZV;rw[B];simp
theorem QdG{l:List qa}(J:Qg l){h:List Zc}(L:Zy (Za l) h=0){M F:Str}{v:Val}{r:List Cal}(N:r.length+1<=20)(E:qaH l h M r F)(I:((F.toList==[86])=true/\v=v0)\/((F.toList==[86])=false/\v.kind≠0/\Qy (Za l) h v F)):
 Qcg l M (qbN h v r):=by
 cases r with
 |nil =>
  have E:F=M:=E;subst E;refine Or.inl ⟨rfl,?_⟩;rcases I with D|⟨D,_,O⟩
  ·exact Or.inl D
  ·exact Or.inr ⟨D,h,O⟩
 |cons c r =>
  obtain⟨g,⟨A,f,x,args,S,D,X,O,Y,j,T,U,k,Z⟩,E⟩:=E;obtain⟨a,m,C,b,⟨n,S',B,P⟩,_⟩:=D.at X;rw[O]at C;injection C with C
  subst C;obtain⟨o,V,H⟩:=P (c.pc+1) (ZeC Y c.pc);have G:=qbi J b a B;rw[Z]at B;refine⟨L,by simp at N ⊢;omega,_,r,g,rfl,?_,E⟩;rcases I with⟨R,rfl⟩|⟨R,d,I⟩
  ·rw[zcm R]at B;injection B with B
   injection B with e i
   subst e i;refine Qa0.go J (Qi L) D V H G T ?_;exact U
  ·unfold Za7 qdJ at B;rw[if_neg (by rw[R];decide)]at B;split at B
   ·obtain⟨rfl,rfl⟩:=ZT B;refine Qa0.go J (Qi L) D V H G T ?_;show zl _ _ (if v.kind=0 then c.S else _) _
    rw[if_neg d];exact U.snoc I
   ·cases B
theorem qeC{cs:List qa}{h:List Zc}{v:Val}{g:Str}(B:qZ g=true)(C:(g.toList==[86])=false)(A:Qy cs h v g):v.kind≠0:=by
 unfold qZ at B;rw[C,Bool.false_or]at B;intro D;unfold Qy at A;rw[qb9 B]at A;have A:Zn cs h v (Qz g)=true:=A;unfold Zn at A;rw[if_neg (by omega),if_neg (by omega),if_neg (by omega)]at A;cases A
theorem zdh{s:Str}{args:List Str}{g:Str}(h:Zl s=some (args,g)):qZ g=true:=by
 unfold Zl qQ at h;split at h
 ·rename_i A;injection h with h
  rw[Prod.mk.injEq]at h;rw[<-h.2];exact A.2.2
 ·cases h
theorem zaX.given{l:List qa}{c:Cal}{g:Str}{A:Asg Frm}(H:zaX l c g A):qZ g=true:=by
 obtain⟨args,B,C,_⟩:=H.good;exact zdh C.type
theorem qd1{l:List qa}(D:Qg l){h:List Zc}(E:Qai (Za l) h){Zb:Str}{F B G S':List Str}{S:List Val}(H:zl (Za l) h S B)(A:(if (Zb.toList==[86])=true then none else (zg (Za l) [Zb] B).map fun J=>(F,J))=some (G,S')):
 (Zb.toList==[86])=false/\Qy (Za l) h (Qj S) Zb:=by
 split at A
 ·cases A
 ·rename_i I;cases C:zg (Za l) [Zb] B with
  |none=>rw[C]at A;cases A
  |some K=>exact⟨by simpa using I,(H.take1 D E C).2⟩
theorem qa4{cs:List qa}{B c n t:Str}{A:Bool}(h:zz cs B c n t A=0):(Qb cs c).isSome=true/\∃d m,qB cs c n t=some (d,m)/\m.static=A/\(m.priv=true->d=B):=by
 unfold zz at h;cases C:Qb cs c with
 |none=>rw[C]at h;cases h
 |some k =>
  rw[C,if_neg (by simp)]at h;refine⟨rfl,?_⟩;cases D:qB cs c n t with
  |none=>rw[D]at h;cases h
  |some p =>
   obtain⟨d,m⟩:=p;rw[D]at h;dsimp only at h;split at h
   ·cases h
   ·split at h
    ·cases h
    ·rename_i F;split at h
     ·cases h
     ·rename_i E;refine⟨d,m,rfl,Decidable.not_not.1 F,fun G=>?_⟩;rw[G,Bool.true_and]at E;simpa using E
theorem QcZ{cs:List qa}{C cls name B:Str}{A:Bool}{L S H S':List Str}(h:Zar cs C cls name B A L S=some (H,S')):
 zz cs C cls name B A=0/\∃args g D E,Zl B=some (args,g)/\zg cs args.reverse S=some D/\ZbC cs A cls D=some E/\Za7 cs L E g=some (H,S'):=by
 unfold Zar at h;split at h
 ·cases h
 ·rename_i J;refine⟨Decidable.not_not.1 J,?_⟩;cases I:Zl B with
  |none=>rw[I]at h;cases h
  |some p =>
   obtain⟨args,g⟩:=p;rw[I]at h;dsimp only at h;cases F:zg cs args.reverse S with
   |none=>rw[F]at h;cases h
   |some D =>
    rw[F,Option.bind_some]at h;cases G:ZbC cs A cls D with
    |none=>rw[G]at h;cases h
    |some E =>
     rw[G,Option.bind_some]at h;exact⟨args,g,D,E,rfl,F,G,h⟩
theorem zl.rev{l:List qa}(A:Qg l){h:List Zc}(B:Qai (Za l) h){args K K':List Str}{S:List Val}(a:zl (Za l) h S K)(e:zg (Za l) args.reverse K=some K'):
 args.length<=S.length/\zl (Za l) h (S.take (S.length-args.length)) K'/\zl (Za l) h (S.drop (S.length-args.length)) args:=by
 have:=a.take A B e;rwa [List.length_reverse,List.reverse_reverse]at this
theorem Qb9{l:List qa}(D:Qg l)(E:∀c∈l,Qf c=0)(A:QaH l){h:List Zc}(B:Zy (Za l) h=0){C:Str}{d:Str}{m:qc}(F:(Qb (Za l) d).isSome=true)(G:m∈(Qd (Za l) d).methods)(H:m.abs=false){args:List Str}{g:Str}(I:Zl m.type=some (args,g)){given:List Val}(J:zl (Za l) h given (zaK d m.static++args)){r:List Cal}(L:qaH l h C r g):Qcg l C (qaq h d m given r):=by
 unfold qaq;split
 ·trivial
 ·rename_i M;exact⟨B,by simp;omega,_,r,g,rfl,QdA D E A B F G H I J,L⟩
theorem qa0{l:List qa}(A:Qg l){c d:Str}(B:(Qb (Za l) c).isSome=true)(C:d∈qi (Za l) c):(Qb (Za l) d).isSome=true:=(Zo A.closed B).1.known _ C
theorem ZaX{l:List qa}(B:∀c∈l,Qf c=0){d:Str}{m:qc}(C:(Qb (Za l) d).isSome=true)(D:m∈(Qd (Za l) d).methods)(h:m.static=true\/m.priv=true):m.abs=false:=by
 obtain⟨c,F,_,A⟩:=QU C D;cases E:m.abs with
 |false=>rfl
 |true =>
  obtain⟨G,H⟩:=(qbL (B c F) A).2.2.2 E;rcases h with h|h
  ·rw[G]at h;cases h
  ·rw[H]at h;cases h
theorem QeC{l:List qa}(E:Qg l)(Y:∀c∈l,Qf c=0)(I:QaH l){h:List Zc}(V:Zy (Za l) h=0){g0 g:Str}{c:Cal}{r:List Cal}{A:Asg Frm}{f:Frm}(few:r.length+1<=20)(H:zaX l c g A)(hA:A c.pc=some f)(hL:zl (Za l) h c.L f.locals)(hS:zl (Za l) h c.S f.stack)(hr:qaH l h g0 r g){x:Ins}(hx:c.m.code[c.pc]? = some x)(O:x.op=24\/x.op=25):Qcg l g0 (zaC (Za l) h c x r):=by
 obtain⟨hz,x',U,hi,⟨L',S',b,_⟩,_⟩:=H.at hA;rw[hx]at U;injection U with U
 subst U;have F:qaD l h g0 (c::r):=⟨g,⟨A,f,H,hA,hL⟩,hr⟩;have hh':Qae (Za l) c.cls g x f.locals f.stack=Zar (Za l) c.cls x.cls x.name x.type (decide (x.op=25)) f.locals f.stack:=by
  rw[qbX (by omega)];unfold qJ;rcases O with h|h<;>rw[h]<;>rfl
 have X:=b;rw[hh']at b;obtain⟨hcf,args,g',S1,S2,q,h1,C,h3⟩:=QcZ b;obtain⟨hkc,d,m,hmc,N,hmp⟩:=qa4 hcf;obtain⟨_,_,_,hkS⟩:=Qt hz;have t:ql (Za l) S1:=zi h1 hkS;obtain⟨k1,k2,k3⟩:=hS.rev E (Qi V) h1;obtain⟨d1,d2,d3,d4⟩:=ZaC E hkc hmc;have P:=qa0 E hkc d1;have R:(qB (Za l) x.cls x.name x.type).getD (⟨#[]⟩,QH)=(d,m):=by rw[hmc];rfl
 unfold zaC;rw[q,R];dsimp only[Option.map_some,Option.getD_some];rcases O with O|O
 ·
  have Z:decide (x.op=25)=false:=by rw[O];rfl
  rw[Z]at C N;have C:zg (Za l) [Qc x.cls] S1=some S2:=C;have hk2:ql (Za l) S2:=zi C t;obtain⟨g1,g2⟩:=k2.take1 E (Qi V) C;rw[if_pos O,if_pos O];generalize hT:c.S.take (c.S.length-args.length)=T at *;have hTl:T.length=c.S.length-args.length:=by rw[<-hT,List.length_take];omega
  have v:T=T.dropLast++[Qj T]:=by
   unfold zg at C;split at C
   ·cases C
   ·cases hp:zC S1 with
    |none=>rw[hp]at C;cases C
    |some p=>exact(k2.popped (k:=p.1) (K':=p.2) hp).1
  have hT1:0<T.length:=by rw[v];simp
  have hlen:args.length+1<=c.S.length:=by omega
  have z:c.S=T.dropLast++Qj T::c.S.drop (c.S.length-args.length):=by
   conv=>lhs;rw[<-List.take_append_drop (c.S.length-args.length) c.S,hT,v]
   simp
  have aA:T.dropLast.length=c.S.length-(args.length+1):=by rw[List.length_dropLast,hTl];omega
  have hgv:c.S.drop (c.S.length-(args.length+1))=Qj T::c.S.drop (c.S.length-args.length):=by
   rw[<-aA];conv=>lhs;rw[z]
   rw[List.drop_left]
  have htk:c.S.take (c.S.length-(args.length+1))=T.dropLast:=by
   rw[<-aA];conv=>lhs;rw[z]
   rw[List.take_left]
  rw[hgv,htk,List.headD_cons];have B:Zb9 l h { c with S:=T.dropLast } g g':=⟨A,f,x,args,S2,⟨H.known,H.mem,H.abs,H.good⟩,hA,hx,Or.inl O,q,hL,g1,hk2,by rw[X,h3]⟩;split
  ·exact Qbd E Y V (by simp;omega) F
  ·rename_i hn;unfold Qy at g2;rw[zcg]at g2;obtain⟨hv3,y,y1,y2,y3,n⟩:=Qan g2 rfl (by omega);obtain⟨_,_,ty,D⟩:=qK (Qi V y y3);rw[D.of]at n;have J:∀s,(∀c',ty=.cl c'->s∈qi (Za l) c')->(∀e,ty=.ar e->s=zh)->Qy (Za l) h (Qj T) (Qc s):=fun s p1 p2=>by
    unfold Qy;rw[zcg];show Zn (Za l) h (Qj T) (.cl s)=true
    have hlt:=(List.getElem?_eq_some_iff.1 y1).1;unfold Zn;rw[if_neg (by omega),if_neg (by omega),if_pos hv3,y1];dsimp only;have:ZB (Za l) (Qz y.type) (.cl s)=true:=by
     rw[D.of];cases ty with
     |i=>cases n
     |j=>cases n
     |ar e=>exact Xj (p2 e rfl)
     |cl c'=>exact QF.2 (p1 c' rfl)
    rw[this];simp[Qm];omega
   split
   ·rename_i hpv;have a:=ZaX Y P d2 (Or.inr hpv);have M:Zl m.type=some (args,g'):=(by rw[show m.type=x.type from d4];exact q);refine Qb9 E Y I V P d2 a M ?_ ⟨g,B,hr⟩;rw[N];refine⟨J d (fun c' e=>?_) (fun e he=>?_),k3⟩
    ·subst e;exact Qbr E D.good (QF.1 n) d1
    ·subst he;have:x.cls=zh:=Xm n;rw[this]at d1;exact zbi E d1
   ·rw[y2];split
    ·rename_i G;cases aC:Qs (Za l) (ZO y.type) x.name x.type with
     |none=>exact trivial
     |some p =>
      rw[aC]at G;have aB:(Qb (Za l) (ZO y.type)).isSome=true:=by
       unfold ZO;rw[D.of];cases ty with
       |i=>cases n
       |j=>cases n
       |ar e=>exact zaA l
       |cl c'=>exact D.good
      obtain⟨o,e2,e3,e4⟩:=Qbi E aB aC;have hkp:=qa0 E aB o;obtain⟨pc,pm⟩:=p;have G:(!pm.static&&!pm.priv&&!pm.abs)=true:=G;simp only[Bool.and_eq_true,Bool.not_eq_true']at G;have M:Zl pm.type=some (args,g'):=(by rw[show pm.type=x.type from e4];exact q);refine Qb9 E Y I V hkp e2 G.2 M ?_ ⟨g,B,hr⟩;rw[G.1.1];refine⟨J pc (fun c' e=>?_) (fun e he=>?_),k3⟩
      ·subst e;unfold ZO at o;rw[D.of]at o;exact o
      ·subst he;unfold ZO at o;rw[D.of]at o;exact zbi E o
    ·exact Qbd E Y V (by simp;omega) F
 ·
  have Z:decide (x.op=25)=true:=by rw[O];rfl
  rw[Z]at C N;have C:some S1=some S2:=C;injection C with C
  subst C;rw[if_neg (by omega),if_neg (by omega),Nat.add_zero];have B:Zb9 l h { c with S:=c.S.take (c.S.length-args.length) } g g':=⟨A,f,x,args,S1,⟨H.known,H.mem,H.abs,H.good⟩,hA,hx,Or.inr O,q,hL,k2,t,by rw[X,h3]⟩;have a:=ZaX Y P d2 (Or.inl N);have M:Zl m.type=some (args,g'):=by rw[show m.type=x.type from d4];exact q
  refine Qb9 E Y I V P d2 a M ?_ ⟨g,B,hr⟩;rw[N];exact k3
theorem Qfe{l:List qa}(D:Qg l)(R:∀c∈l,Qf c=0)(T:QaH l){a:Str}{k:zdw}(hk:qa5 l a k):Qcg l a (zaE (Za l) k):=by
 obtain⟨h,m⟩:=k;obtain⟨F,E,c,r,g,e,⟨A,f,H,n,X,O⟩,P⟩:=hk;dsimp only at F E e X O P;subst e;have C:qaD l h a (c::r):=⟨g,⟨A,f,H,n,X⟩,P⟩;obtain⟨hz,x,v,b,⟨o,S',B,q⟩,_⟩:=H.at n;obtain⟨i1,i2,_,_⟩:=ZaT b;have d:=qbi D b hz B;have E:r.length+1<=20:=by simpa using E
 unfold zaE;dsimp only;rw[v];dsimp only;split
 ·rename_i M;exact QeC D R T F E H n X O P v M
 ·rename_i hno;split
  ·rename_i M;rw[Zbd (by omega)]at B;have:(g.toList==[86])=true:=by
    unfold zE at B;rw[M]at B;cases hg:(g.toList==[86]) with
    |true=>rfl
    |false=>rw[hg]at B;cases B
   exact QdG D F E P (Or.inl ⟨this,rfl⟩)
  ·split
   ·rename_i M;rw[Zbd (by omega)]at B;have B:(if (g.toList==[86])=true then none else (zg (Za l) [g] f.stack).map fun G=>(f.locals,G))=some (o,S'):=by
     unfold zE at B;rw[M]at B;exact B
    obtain⟨y,z⟩:=qd1 D (Qi F) O B;exact QdG D F E P (Or.inr ⟨y,qeC H.given y z,z⟩)
   ·split
    ·rename_i M;rw[Zbd (by omega)]at B;have B:((zg (Za l) [Qc Zan] f.stack).map fun G=>(f.locals,G))=some (o,S'):=by
      unfold zE at B;rw[M]at B;exact B
     cases N:zg (Za l) [Qc Zan] f.stack with
     |none=>rw[N]at B;cases B
     |some K =>
      have hv:=(O.take1 D (Qi F) N).2;split
      ·exact Qbd D R F (by simp;omega) C
      ·exact zeC D F hv (by omega) (by simp;omega) C
    ·have U:∀{pc:Nat} {I:List Zc} {L S:List Val},pc∈ZV x c.pc->Zy (Za l) I=0->Ext h I->zl (Za l) I L o->zl (Za l) I S S'->Qcg l a (.on ⟨I,{ c with pc:=pc,L:=L,S:=S }::r⟩):=fun {pc I L S} Y J Z p4 p5=>by
      obtain⟨f',s,t⟩:=q pc Y;exact⟨J,by simp;omega,_,r,g,rfl,Qa0.go D (Qi J) H s t d p4 p5,P.ext Z⟩
     by_cases i:x.op<=14
     ·rw[Zbd (by omega)]at B;have N:=ze2 D (Qi F) b i X O B c.pc;cases j:zao c.pc x c.L c.S with
      |none=>exact Qbd D R F (by simp;omega) C
      |some p =>
       obtain⟨pc,L1,G⟩:=p;obtain⟨Y,J,Z⟩:=N pc L1 G j;have V:qO (Za l) h x G=.ok h G:=by
        unfold qO;repeat rw[if_neg (by omega)]
       dsimp only;rw[V];exact U Y F (Ext.refl h) J Z
     ·rw[qbX (by omega)]at B;obtain⟨e1,N⟩:=QeB D R F b (by omega) (by omega) O B;have j:zao c.pc x c.L c.S=some (c.pc+1,c.L,c.S):=by
       unfold zao;repeat rw[if_neg (by omega)]
      rw[j];dsimp only;cases V:qO (Za l) h x c.S with
      |fault=>exact Qbd D R F (by simp;omega) C
      |full=>exact trivial
      |ok I G =>
       obtain⟨Y,J,Z⟩:=N I G V;refine U ?_ Y J ?_ Z
       ·have V:qae x.op=false:=by
         unfold qae;simp;omega
        unfold ZV;rw[V];simp
       ·rw[e1];exact X.ext J
