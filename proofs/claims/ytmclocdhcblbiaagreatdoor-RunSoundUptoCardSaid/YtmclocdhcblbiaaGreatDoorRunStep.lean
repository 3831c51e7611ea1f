/- Lemmas; conditions: as each states. -/
import Derived.Test.YtmclocdhcblbiaaGreatDoorNumLaw
import Derived.Test.YtmclocdhcblbiaaGreatDoorCheckRead
import Derived.Test.YtmclocdhcblbiaaGreatDoorEdgeLaw
set_option maxHeartbeats 4000000
namespace Go.Proofs.YtmclocdhcblbiaaGreatDoor
open Go.RowKit Go.Shelf Go.Lib
structure Cal where
 cls:Str
 m:zg
 pc:Nat
 L:List Val
 S:List Val
structure zdW where
 h:List Zc
 calls:List Cal
inductive Out where
 |on (k:zdW)
 |ends (v:Val) (thrown:Str)
 |full
def v0:Val:=⟨0,0⟩
def zag(t:Str):Int:=if (t.toList==[73])=true then 1 else 2
def QbC(how n:Int):Bool :=
 if how=0 then decide (n=0) else if how=1 then !decide (n=0) else if how=2 then decide (n<0) else if how=3 then decide (0<=n) else if how=4 then decide (0<n) else decide (n<=0)
def isI(t:Str):Bool:=t.toList==[73]
def Qj(S:List Val):Val:=S.getLast?.getD v0
def ZcD(a b:Int):Int:=if a<b then -1 else if b<a then 1 else 0
def Qam(pc:Nat)(x:Ins)(L S:List Val):Option (Nat×List Val×List Val) :=
 let T:=S.dropLast
 let v:=Qj S
 if x.op=2 then some (pc+1,L,S++[⟨zag x.type,x.a⟩])
 else if x.op=3 then some (pc+1,L,S++[⟨3,0⟩])
 else if x.op=4 then some (pc+1,L,S++[L.getD x.a.toNat v0])
 else if x.op=5 then some (pc+1,L.set x.a.toNat v,T)
 else if x.op=6 then some (pc+1,L,T)
 else if x.op=7 then some (pc+1,L,S++[v])
 else if x.op=8 then some (pc+1,L,T.dropLast++[v,Qj T])
 else if x.op=9 then
  (
   if x.a=12 then (if ofB x.a 0 then some (pc+1,L,T++[⟨zag x.type,ofN (isI x.type) x.a v.n 0⟩]) else none)
   else if ofB x.a v.n then some (pc+1,L,T.dropLast++[⟨zag x.type,ofN (isI x.type) x.a (Qj T).n v.n⟩]) else none)
 else if x.op=10 then some (pc+1,L,T++[⟨zag x.type,if isI x.type then wrap32 v.n else v.n⟩])
 else if x.op=11 then some (pc+1,L,T.dropLast++[⟨1,ZcD (Qj T).n v.n⟩])
 else if x.op=12 then some (if QbC x.b v.n then x.a.toNat else pc+1,L,T)
 else if x.op=13 then some (if v.n=0 then x.a.toNat else pc+1,L,T)
 else if x.op=14 then some (x.a.toNat,L,S)
 else some (pc+1,L,S)
inductive zeW where
 |ok (h:List Zc) (S:List Val)
 |fault
 |full
def Qe9:Zc:=⟨⟨#[]⟩,[]⟩
def zl(h:List Zc)(v:Val):Zc:=h.getD (v.n.toNat-1) Qe9
def qbD(h:List Zc)(x:Zc)(S:List Val):zeW:=if 50<=h.length then .full else .ok (h++[x]) (S++[⟨3,h.length+1⟩])
def Qaz(h:List Zc)(v:Val)(i:Nat)(u:Val):List Zc:=h.set (v.n.toNat-1) { zl h v with has:=(zl h v).has.set i u }
def zde(t:Ty):Ty:=match t with
 |.ar e=>e
 |t=>t
def qM(cs:List qa)(h:List Zc)(x:Ins)(S:List Val):zeW :=
 let T:=S.dropLast
 let v:=Qj S
 if x.op=15 then qbD h (Q0 cs x.cls) S
 else if x.op=16 then (if v.n<=0 then .fault else .ok h (T++[(zl h v).has.getD ((zat cs x.cls x.name).getD 0) v0]))
 else if x.op=17 then (if (Qj T).n<=0 then .fault else .ok (Qaz h (Qj T) ((zat cs x.cls x.name).getD 0) v) T.dropLast)
 else if x.op=18 then (if v.n<0\/10<v.n then .fault else qbD h (ZaC x.type v.n.toNat) T)
 else if x.op=19 then (if v.n<=0 then .fault else .ok h (T++[⟨1,(zl h v).has.length⟩]))
 else if x.op=20 then (if (Qj T).n<=0 then .fault else if v.n<0\/((zl h (Qj T)).has.length:Int)<=v.n then .fault else .ok h (T.dropLast++[(zl h (Qj T)).has.getD v.n.toNat v0]))
 else if x.op=21 then
  (
   if (Qj T.dropLast).n<=0 then .fault else if (Qj T).n<0\/((zl h (Qj T.dropLast)).has.length:Int)<=(Qj T).n then .fault
   else if zm cs h v (zde (Qy (zl h (Qj T.dropLast)).type)) then .ok (Qaz h (Qj T.dropLast) (Qj T).n.toNat v) T.dropLast.dropLast else .fault)
 else if x.op=22 then (if v.n=0 then .ok h S else if v.n<0 then .fault else if ZA cs (Qy (zl h v).type) (Qy x.type) then .ok h S else .fault)
 else if x.op=23 then .ok h (T++[⟨1,if 0<v.n/\ZA cs (Qy (zl h v).type) (Qy x.type)=true then 1 else 0⟩])
 else .ok h S
def QE(cs:List qa)(h:List Zc)(cls:Str)(v:Val):List Cal->Out
 |[]=>.ends v0 cls
 |c::r=>if 0<=(ZZ cs (zj cs cls) c.pc c.m.handlers).1 then .on ⟨h,{ c with pc:=(ZZ cs (zj cs cls) c.pc c.m.handlers).1.toNat,S:=[v] }::r⟩ else QE cs h cls v r
def zam(t:Str):Str:=str (zG (Qy t))
def zb8(cs:List qa)(h:List Zc)(v:Val)(r:List Cal):Out:=QE cs h (zam (zl h v).type) v r
def qS(cs:List qa)(h:List Zc)(r:List Cal):Out:=if 50<=h.length then .full else QE cs (h++[Q0 cs Ql]) Ql ⟨3,h.length+1⟩ r
def ZbL(h:List Zc)(v:Val):List Cal->Out
 |[]=>.ends v ⟨#[]⟩
 |c::r=>.on ⟨h,{ c with pc:=c.pc+1,S:=if v.kind=0 then c.S else c.S++[v] }::r⟩
def ZaJ(h:List Zc)(cls:Str)(m:zg)(args:List Val)(r:List Cal):Out :=
 if 20<=r.length then .full else .on ⟨h,⟨cls,m,0,args++List.replicate (m.locals.toNat-args.length) v0,[]⟩::r⟩
def ZY(t:Str):Str:=match Qy t with
 |.cl c=>c
 |_=>Zg
def ZaN(cs:List qa)(h:List Zc)(c:Cal)(x:Ins)(r:List Cal):Out :=
 let args:=((qi x.type).map (·.1)).getD []
 let n:=args.length+(if x.op=24 then 1 else 0)
 let given:=c.S.drop (c.S.length-n)
 let c':={ c with S:=c.S.take (c.S.length-n) }
 let found:=(ZL cs x.cls x.name x.type).getD (⟨#[]⟩,qN)
 if x.op=24 then
  (
   if (given.headD v0).n<=0 then qS cs h (c::r)
   else if found.2.priv then ZaJ h found.1 found.2 given (c'::r)
   else if qai (qY cs (ZY (zl h (given.headD v0)).type) x.name x.type) then
    (
     match qY cs (ZY (zl h (given.headD v0)).type) x.name x.type with
     |some p=>ZaJ h p.1 p.2 given (c'::r)
     |none=>.full)
   else qS cs h (c::r))
 else ZaJ h found.1 found.2 given (c'::r)
def QbD(cs:List qa)(k:zdW):Out:=match k.calls with
 |[]=>.full
 |c::r=>match c.m.code[c.pc]? with
  |none=>.full
  |some x =>
   if x.op=24\/x.op=25 then ZaN cs k.h c x r
   else if x.op=26 then ZbL k.h v0 r
   else if x.op=27 then ZbL k.h (Qj c.S) r
   else if x.op=28 then (if (Qj c.S).n<=0 then qS cs k.h (c::r) else zb8 cs k.h (Qj c.S) (c::r))
   else match Qam c.pc x c.L c.S with
    |none=>qS cs k.h (c::r)
    |some (pc,L,S)=>match qM cs k.h x S with
     |.fault=>qS cs k.h (c::r)
     |.full=>.full
     |.ok h S=>.on ⟨h,{ c with pc:=pc,L:=L,S:=S }::r⟩
inductive Ran where
 |done (v:Val) (thrown:Str) (steps:Nat)
 |full
 |fuel
 deriving DecidableEq
def Ran.later:Ran->Ran
 |.done v t n=>.done v t (n+1)
 |r=>r
def QaI(cs:List qa):Nat->zdW->Ran
 |0,_=>.fuel
 |f+1,k=>match QbD cs k with
  |.on k'=>(QaI cs f k').later
  |.ends v t=>.done v t 1
  |.full=>.full
theorem Zby{cs:List qa}:∀{f:Nat} {k:zdW} {v:Val} {t:Str} {n:Nat},QaI cs f k=.done v t n->1<=n/\n<=f/\(∀g,n<=g->QaI cs g k=.done v t n)/\QaI cs (n-1) k=.fuel
 |0,_,_,_,_,h=>by cases h
 |f+1,k,v,t,n,h=>by
  unfold QaI at h;cases A:QbD cs k with
  |full=>rw[A]at h;cases h
  |ends M N =>
   rw[A]at h;injection h with E F G
   subst E F G;refine⟨Xl,by omega,fun g L=>?_,rfl⟩;obtain⟨B,rfl⟩:∃B,g=B+1:=⟨g-1,by omega⟩;unfold QaI;rw[A]
  |on O =>
   rw[A]at h;dsimp only at h;cases D:QaI cs f O with
   |full=>rw[D]at h;cases h
   |fuel=>rw[D]at h;cases h
   |done M N H =>
    rw[D]at h;injection h with E F G
    subst E F G;obtain⟨P,R,I,J⟩:=Zby D;refine⟨by omega,by omega,fun g L=>?_,?_⟩
    ·obtain⟨B,rfl⟩:∃B,g=B+1:=⟨g-1,by omega⟩;unfold QaI;rw[A];dsimp only;rw[I B (by omega)];rfl
    ·obtain⟨C,rfl⟩:∃x,H=x+1:=⟨H-1,by omega⟩;rw[Nat.add_sub_cancel];unfold QaI;rw[A];dsimp only;rw[show C=C+1-1 by omega,J];rfl
def zy(cs:List qa)(h:List Zc)(v:Val)(k:Str):Prop:=match qr k with
 |.t=>True
 |.n=>v=⟨3,0⟩
 |.ty y=>zm cs h v y=true
def Qk(cs:List qa)(h:List Zc):List Val->List Str->Prop
 |[],[]=>True
 |v::vs,k::ks=>zy cs h v k/\Qk cs h vs ks
 |_,_=>False
def Ext(h h':List Zc):Prop:=h.length<=h'.length/\∀(i:Nat) (x:Zc),h[i]? = some x->∃y:Zc,h'[i]? = some y/\y.type=x.type
theorem Ext.refl(h:List Zc):Ext h h:=⟨Xl,fun _ x e=>⟨x,e,rfl⟩⟩
theorem Ext.trans{a b c:List Zc}(h:Ext a b)(k:Ext b c):Ext a c:=⟨Xf h.1 k.1,fun i x e=>by
 obtain⟨y,A,B⟩:=h.2 i x e;obtain⟨z,C,D⟩:=k.2 i y A;exact⟨z,C,D.trans B⟩⟩
theorem Ext.more(h:List Zc)(x:Zc):Ext h (h++[x]):=⟨by simp,fun i y e=>⟨y,by rw[List.getElem?_append_left (List.getElem?_eq_some_iff.1 e).1];exact e,rfl⟩⟩
theorem Qbr{h:List Zc}{v:Val}{x:Zc}(e:h[v.n.toNat-1]? = some x):zl h v=x:=by
 unfold zl;rw[List.getD_eq_getElem?_getD,e];rfl
theorem Ext.set(h:List Zc)(v:Val)(i:Nat)(u:Val):Ext h (Qaz h v i u):=by
 unfold Qaz;refine⟨by simp,fun j x e=>?_⟩;rw[List.getElem?_set];split
 ·rename_i A;subst A;refine⟨_,if_pos (List.getElem?_eq_some_iff.1 e).1,?_⟩;rw[Qbr e]
 ·exact⟨x,e,rfl⟩
theorem Qby{cs:List qa}{h G:List Zc}(H:Ext h G){v:Val}{y:Ty}(A:zm cs h v y=true):zm cs G v y=true:=by
 unfold zm at A ⊢;split
 ·rename_i D;rw[if_pos D]at A;exact A
 ·rename_i D;rw[if_neg D]at A;split
  ·rename_i D;rw[if_pos D]at A;exact A
  ·rename_i F;rw[if_neg F]at A;split
   ·rename_i C;rw[if_pos C]at A;rw[Bool.and_eq_true,Bool.and_eq_true,Bool.and_eq_true,Bool.or_eq_true]at A ⊢;obtain⟨⟨J,L,I⟩,B⟩:=A;refine⟨⟨J,L,?_⟩,?_⟩
    ·have:=H.1;have I:=Xm I;exact Xj (by omega)
    ·rcases B with B|B
     ·exact Or.inl B
     ·right
      cases E:h[v.n.toNat-1]? with
      |none=>rw[E]at B;cases B
      |some x =>
       rw[E]at B;obtain⟨O,M,N⟩:=H.2 _ x E;rw[M];dsimp only at B ⊢;rw[N];exact B
   ·rename_i C;rw[if_neg C]at A;cases A
theorem zy.ext{cs:List qa}{h C:List Zc}(H:Ext h C){v:Val}{k:Str}(A:zy cs h v k):zy cs C v k:=by
 unfold zy at A ⊢;split
 ·trivial
 ·rename_i B;rw[B]at A;exact A
 ·rename_i B;rw[B]at A;exact Qby H A
theorem Qk.ext{cs:List qa}{h A:List Zc}(H:Ext h A):∀{S:List Val} {K:List Str},Qk cs h S K->Qk cs A S K
 |[],[],_=>trivial
 |_::_,_::_,⟨a,b⟩=>⟨a.ext H,b.ext H⟩
theorem Qk.len{cs:List qa}{h:List Zc}:∀{S:List Val} {K:List Str},Qk cs h S K->S.length=K.length
 |[],[],_=>rfl
 |_::_,_::_,⟨_,b⟩=>by simp[b.len]
theorem Qk.append{cs:List qa}{h:List Zc}:∀{S A:List Val} {K K':List Str},Qk cs h S K->Qk cs h A K'->Qk cs h (S++A) (K++K')
 |[],_,[],_,_,b=>b
 |_::_,_,_::_,_,⟨a,c⟩,b=>⟨a,c.append b⟩
theorem Qk.snoc{cs:List qa}{h:List Zc}{S:List Val}{K:List Str}{v:Val}{k:Str}(a:Qk cs h S K)(b:zy cs h v k):Qk cs h (S++[v]) (K++[k]):=a.append ⟨b,trivial⟩
theorem Qk.split{cs:List qa}{h:List Zc}:∀{S:List Val} {K:List Str} (n:Nat),Qk cs h S K->Qk cs h (S.take n) (K.take n)/\Qk cs h (S.drop n) (K.drop n)
 |_,_,0,a=>⟨trivial,a⟩
 |[],[],_+1,_=>⟨trivial,trivial⟩
 |_::_,_::_,n+1,⟨a,b⟩=>⟨⟨a,(b.split n).1⟩,(b.split n).2⟩
theorem Qk.get{cs:List qa}{h:List Zc}:∀{S:List Val} {K:List Str} {i:Nat} {k:Str},Qk cs h S K->K[i]? = some k->∃v,S[i]? = some v/\zy cs h v k
 |[],[],i,_,_,e=>by simp at e
 |v::_,_::_,0,_,⟨a,_⟩,e=>by simp at e;subst e;exact⟨v,rfl,a⟩
 |_::_,_::_,i+1,k,⟨_,b⟩,e=>by
  obtain⟨v,A,B⟩:=b.get (i:=i) (k:=k) (by simpa using e);exact⟨v,by simpa using A,B⟩
theorem Qk.put{cs:List qa}{h:List Zc}{v:Val}{k:Str}(A:zy cs h v k):∀{S:List Val} {K:List Str} {i:Nat},Qk cs h S K->Qk cs h (S.set i v) (K.set i k)
 |[],[],_,_=>trivial
 |_::_,_::_,0,⟨_,b⟩=>⟨A,b⟩
 |_::_,_::_,i+1,⟨a,b⟩=>⟨a,Qk.put A (i:=i) b⟩
theorem Qk.pop{cs:List qa}{h:List Zc}{S:List Val}{K:List Str}{k:Str}(a:Qk cs h S (K++[k])):S=S.dropLast++[Qj S]/\Qk cs h S.dropLast K/\zy cs h (Qj S) k:=by
 have A:=a.len;rw[List.length_append]at A;rcases List.eq_nil_or_concat S with rfl|⟨r,v,rfl⟩
 ·simp at A
 ·rw[List.concat_eq_append]at *;have B:=a.split K.length;have C:r.length=K.length:=by simpa using A
  rw[<-C,List.take_left,List.drop_left,C,List.take_left,List.drop_left]at B;have D:Qj (r++[v])=v:=by unfold Qj;simp
  rw[D,List.dropLast_concat];exact⟨rfl,B.1,B.2.1⟩
theorem Qk.popped{cs:List qa}{h:List Zc}{S:List Val}{K K':List Str}{k:Str}(a:Qk cs h S K)(e:zB K=some (k,K')):S=S.dropLast++[Qj S]/\Qk cs h S.dropLast K'/\zy cs h (Qj S) k:=by
 rcases List.eq_nil_or_concat K with rfl|⟨r,t,rfl⟩
 ·cases e
 ·rw[List.concat_eq_append]at *;rw[Qa5]at e;injection e with e
  injection e with A B
  subst A B;exact a.pop
theorem zy.up{l:List qa}(C:zh l){h:List Zc}(D:zah (Za l) h){v:Val}{a b:Str}(B:zy (Za l) h v a)(A:zQ (Za l) (qr a) (qr b)=true):zy (Za l) h v b:=by
 unfold zy at B ⊢;generalize qr a=x at *;generalize qr b=y at *;cases y with
 |t=>trivial
 |n =>
  cases x with
  |n=>exact B
  |t=>cases A
  |ty x=>cases A
 |ty y =>
  cases x with
  |n =>
   have B:v=⟨3,0⟩:=B;subst B;have A:qm y=true:=A;show zm (Za l) h ⟨3,0⟩ y=true
   unfold zm;simp[A]
  |t=>cases A
  |ty x=>exact zct C D B A
theorem zy.le{l:List qa}(A:zh l){h:List Zc}(B:zah (Za l) h){v:Val}{a b:Str}(C:zy (Za l) h v a)(D:Qg (Za l) a=0)(E:Qaw (Za l) (qr a) (qr b)):zy (Za l) h v b :=
 C.up A B (Qc9 A (Qap D).2 E)
theorem Qk.le{l:List qa}(C:zh l){h:List Zc}(D:zah (Za l) h):∀{S:List Val} {A B:List Str},Qk (Za l) h S A->ql (Za l) A->LeL (Za l) A B->Qk (Za l) h S B
 |[],[],[],_,_,_=>trivial
 |_::_,_::_,_::_,⟨a,b⟩,E,⟨p,q⟩=>⟨a.le C D (E _ (List.mem_cons_self ..)) p,Qk.le C D b (fun k m=>E k (List.mem_cons_of_mem _ m)) q⟩
theorem Qk.take{l:List qa}(B:zh l){h:List Zc}(C:zah (Za l) h):∀{ts:List Str} {S:List Val} {K K':List Str},Qk (Za l) h S K->Qf (Za l) ts K=some K' ->
 ts.length<=S.length/\Qk (Za l) h (S.take (S.length-ts.length)) K'/\Qk (Za l) h (S.drop (S.length-ts.length)) ts.reverse
 |[],S,K,K',a,e=>by
  injection e with e
  subst e;simp;exact⟨a,trivial⟩
 |t::ts,S,K,K',a,e=>by
  unfold Qf at e;split at e
  ·cases e
  ·cases A:zB K with
   |none=>rw[A]at e;cases e
   |some p =>
    obtain⟨k,M⟩:=p;rw[A]at e;dsimp only at e;split at e
    ·rename_i L;obtain⟨F,G,H⟩:=a.popped A;obtain⟨N,I,J⟩:=Qk.take B C G e;have D:zy (Za l) h (Qj S) t:=H.up B C L;generalize Qj S=v at *;generalize S.dropLast=T at *;subst F;have E:(T++[v]).length-(t::ts).length=T.length-ts.length:=(by simp);rw[E,List.take_append_of_le_length (by omega),List.drop_append_of_le_length (by omega),List.reverse_cons];exact⟨by simp;omega,I,J.snoc D⟩
    ·cases e
structure qaT (l:List qa) (c:Cal) (g:Str) (A:Asg Frm):Prop where
 known:(Qb (Za l) c.cls).isSome=true
 mem:c.m∈(Ze (Za l) c.cls).methods
 abs:c.m.abs=false
 good:∃args many,ZaG c.m args g many/\QaY (Za l) (Q7 c.cls c.m.static args many) g=true/\(qT (Za l) c.cls g c.m ⟨Q7 c.cls c.m.static args many,[]⟩).Closed A
theorem za2{cs:List qa}{A:Nat}{f:Frm}:∀{G:List QT} {t:List (Nat×Frm)},ZK cs A f G=some t->∀h∈G,h.lo<=(A:Int)->(A:Int)<h.hi->(h.dest.toNat,(⟨f.locals,[Qc h.cls]⟩:Frm))∈t/\qaw cs h.cls=true
 |[],_,_,h,B,_,_=>by cases B
 |y::r,t,e,h,B,D,E=>by
  unfold ZK at e;split at e
  ·rename_i F;split at e
   ·rename_i J;cases C:ZK cs A f r with
    |none=>rw[C]at e;cases e
    |some L =>
     rw[C]at e;injection e with e
     subst e;rcases List.mem_cons.1 B with rfl|B
     ·exact⟨List.mem_cons_self ..,J⟩
     ·obtain⟨H,I⟩:=za2 C h B D E;exact⟨List.mem_cons_of_mem _ H,I⟩
   ·cases e
  ·rename_i F;rcases List.mem_cons.1 B with rfl|B
   ·exact absurd ⟨D,E⟩ F
   ·exact za2 e h B D E
theorem qaT.at{l:List qa}{c:Cal}{g:Str}{A:Asg Frm}(H:qaT l c g A){pc:Nat}{f:Frm}(G:A pc=some f):
 qF (Za l) f=0/\∃x,c.m.code[pc]? = some x/\Qo x=0/\(∃L S,qac (Za l) c.cls g x f.locals f.stack=some (L,S)/\∀i∈QS x pc,∃D,A i=some D/\qbi (Za l) ⟨L,S⟩ D) /\
  ∀h∈c.m.handlers,h.lo<=(pc:Int)->(pc:Int)<h.hi->qaw (Za l) h.cls=true/\∃D,A h.dest.toNat=some D/\qbi (Za l) ⟨f.locals,[Qc h.cls]⟩ D:=by
 obtain⟨args,I,M,_,N,O,_⟩:=H.good;obtain⟨Z,P⟩:=N pc f G;obtain⟨t,B,J⟩:=O pc f G;change zaC (Za l) c.cls g c.m pc f=some t at B;unfold zaC at B;cases E:ZK (Za l) pc f c.m.handlers with
 |none=>rw[E]at B;cases B
 |some a =>
  rw[E,Option.bind_some]at B;unfold qab at B;cases F:c.m.code[pc]? with
  |none=>rw[F]at B;cases B
  |some x =>
   rw[F]at B;dsimp only at B;cases C:qac (Za l) c.cls g x f.locals f.stack with
   |none=>rw[C]at B;cases B
   |some p =>
    obtain⟨L,S⟩:=p;rw[C]at B;injection B with B
    subst B;refine⟨P,x,rfl,(zau M.code).ins x (Xe F),⟨L,S,C,fun i U=>?_⟩,fun h V X Y=>?_⟩
    ·exact J (i,⟨L,S⟩) (List.mem_append_right _ (List.mem_map.2 ⟨i,U,rfl⟩))
    ·obtain⟨R,T⟩:=za2 E h V X Y;exact⟨T,J _ (List.mem_append_left _ R)⟩
def zaW(l:List qa)(h:List Zc)(c:Cal)(g:Str):Prop:=∃A f,qaT l c g A/\A c.pc=some f/\Qk (Za l) h c.L f.locals/\Qk (Za l) h c.S f.stack
def Zb8(l:List qa)(h:List Zc)(c:Cal)(g g':Str):Prop:=∃A f x args S,qaT l c g A/\A c.pc=some f/\c.m.code[c.pc]? = some x/\(x.op=24\/x.op=25)/\qi x.type=some (args,g')/\Qk (Za l) h c.L f.locals/\Qk (Za l) h c.S S/\ql (Za l) S/\qac (Za l) c.cls g x f.locals f.stack=Qa2 (Za l) f.locals S g'
def zaE(l:List qa)(h:List Zc)(g0:Str):List Cal->Str->Prop
 |[],g=>g=g0
 |c::r,g'=>∃g,Zb8 l h c g g'/\zaE l h g0 r g
structure zaT (l:List qa) (g0:Str) (k:zdW):Prop where
 heap:Qx (Za l) k.h=0
 few:k.calls.length<=20
 calls:∃c r g,k.calls=c::r/\zaW l k.h c g/\zaE l k.h g0 r g
theorem zaW.ext{l:List qa}{h B:List Zc}(H:Ext h B){c:Cal}{g:Str}(a:zaW l h c g):zaW l B c g:=by
 obtain⟨A,f,C,D,E,F⟩:=a;exact⟨A,f,C,D,E.ext H,F.ext H⟩
theorem Zb8.ext{l:List qa}{h B:List Zc}(H:Ext h B){c:Cal}{g C:Str}(a:Zb8 l h c g C):Zb8 l B c g C:=by
 obtain⟨A,f,x,args,S,D,E,F,G,I,J,L,M,N⟩:=a;exact⟨A,f,x,args,S,D,E,F,G,I,J.ext H,L.ext H,M,N⟩
theorem zaE.ext{l:List qa}{h A:List Zc}{B:Str}(H:Ext h A):∀{r:List Cal} {g:Str},zaE l h B r g->zaE l A B r g
 |[],_,a=>a
 |_::_,_,⟨g,a,b⟩=>⟨g,a.ext H,b.ext H⟩
theorem zaW.go{l:List qa}(F:zh l){h:List Zc}(G:zah (Za l) h){c:Cal}{g:Str}{A:Asg Frm}{C:Frm}(H:qaT l c g A){pc:Nat}{L S:List Val}{D E:List Str}(I:A pc=some C)(B:qbi (Za l) ⟨D,E⟩ C)(J:qF (Za l) ⟨D,E⟩=0)(M:Qk (Za l) h L D)(N:Qk (Za l) h S E):zaW l h { c with pc:=pc,L:=L,S:=S } g:=by
 obtain⟨_,_,O,P⟩:=Qt J;exact⟨A,C,⟨H.known,H.mem,H.abs,H.good⟩,I,M.le F G O B.1,N.le F G P B.2⟩
theorem Qcd(c:Str):qr (Qc c)=.ty (.cl c):=zK (x:=.ty (.cl c)) (QaA c).symm
theorem zec(c:Str):Qy (Qc c)=.cl c:=QR (QaA c).symm
theorem zcY(c:Str):Qc c=QaZ c:=by
 apply ByteArray.ext;apply Array.ext';change lst (Qc c)=_;rw[QaA];rfl
theorem ZeV(c:Str):zam (Qc c)=c:=by
 unfold zam;rw[zec];exact ByteArray.ext (Array.ext' rfl)
theorem Qbg{cs:List qa}{A:List Str}{B:Int}:∀{G:List QT},0<=(ZZ cs A B G).1->∃h∈G,h.lo<=B/\B<h.hi/\Q4 A h.cls=true/\(ZZ cs A B G).1=h.dest
 |[],h=>absurd h (by show ¬(0:Int)<=-1;decide)
 |y::r,h=>by
  unfold ZZ at h ⊢;split at h
  ·rename_i F;rw[if_pos F];obtain⟨z,D,E⟩:=Qbg h;exact⟨z,List.mem_cons_of_mem _ D,E⟩
  ·rename_i F;rw[if_neg F];split at h
   ·exact absurd h (by show ¬(0:Int)<=-1;decide)
   ·rename_i H;rw[if_neg H];split at h
    ·rename_i C;rw[if_pos C];exact⟨y,List.mem_cons_self ..,by omega,by omega,C,rfl⟩
    ·rename_i C;rw[if_neg C];obtain⟨z,D,E⟩:=Qbg h;exact⟨z,List.mem_cons_of_mem _ D,E⟩
def zfp(l:List qa)(h:List Zc)(c:Cal)(g:Str):Prop:=∃A f,qaT l c g A/\A c.pc=some f/\Qk (Za l) h c.L f.locals
def zaA(l:List qa)(h:List Zc)(g0:Str):List Cal->Prop
 |[]=>True
 |c::r=>∃g,zfp l h c g/\zaE l h g0 r g
theorem zaE.chain{l:List qa}{h:List Zc}{B:Str}:∀{r:List Cal} {g:Str},zaE l h B r g->zaA l h B r
 |[],_,_=>trivial
 |_::_,_,⟨g,⟨A,f,_,_,_,C,D,_,_,_,E,_⟩,b⟩=>⟨g,⟨A,f,C,D,E⟩,b⟩
theorem zaW.chain{l:List qa}{h:List Zc}{B g:Str}{c:Cal}{r:List Cal}(a:zaW l h c g)(b:zaE l h B r g):zaA l h B (c::r):=by
 obtain⟨A,f,C,D,E,_⟩:=a;exact⟨g,⟨A,f,C,D,E⟩,b⟩
theorem Zj{cs:List qa}{h:List Zc}(H:Qx cs h=0):zah cs h:=(Z2 H).2.1
theorem QcD{l:List qa}(L:zh l){h:List Zc}(F:Qx (Za l) h=0){M cls:Str}{v:Val}{x:Zc}(E:v.kind=3)(R:0<v.n)(G:h[v.n.toNat-1]? = some x)(N:Qy x.type=.cl cls):
 ∀{B:List Cal},B.length<=20->zaA l h M B->(∃k,QE (Za l) h cls v B=.on k/\zaT l M k)\/QE (Za l) h cls v B=.ends v0 cls
 |[],_,_=>Or.inr rfl
 |c::r,D,⟨g,⟨A,f,P,i,j⟩,b⟩=>by
  unfold QE;by_cases H:0<=(ZZ (Za l) (zj (Za l) cls) c.pc c.m.handlers).1
  ·rw[if_pos H];obtain⟨y,V,X,Y,Z,a⟩:=Qbg H;obtain⟨d,_,_,_,_,C⟩:=P.at i;obtain⟨I,o,e,J⟩:=C y V X Y;refine Or.inl ⟨_,rfl,F,D,_,r,g,rfl,?_,b⟩;rw[a];refine zaW.go L (Zj F) P e J (zcd d I) j ⟨?_,trivial⟩;unfold zy;rw[Qcd];have O:=(List.getElem?_eq_some_iff.1 G).1;show zm (Za l) h v (.cl y.cls)=true
   unfold zm;rw[if_neg (by rw[E];decide),if_neg (by rw[E];decide),if_pos E,G];have S:decide (0<=v.n)=true:=Xj (by omega);have T:decide (v.n<=(h.length:Int))=true:=Xj (by omega);have U:ZA (Za l) (Qy x.type) (.cl y.cls)=true:=by
    rw[N];exact Z
   dsimp only;rw[S,T,U];simp[qm]
  ·rw[if_neg H];exact QcD L F E R G N (by simp at D;omega) b.chain
theorem zbE{α:Type}{f:α->Nat}:∀{l:List α},(∀x∈l,f x=0)->Zh f l=0
 |[],_=>rfl
 |x::r,h=>by
  unfold Zh;rw[if_pos (h x (List.mem_cons_self ..))];exact zbE fun y A=>h y (List.mem_cons_of_mem _ A)
theorem Zec{cs:List qa}{h:List Zc}(C:h.length<=50)(A:zah cs h)(B:∀x∈h,Z8 cs h x=true):Qx cs h=0:=by
 rw[zdM (by omega) (zbE A),if_pos (List.all_eq_true.2 B)]
theorem qQ{cs:List qa}{h:List Zc}{x:Zc}:Z8 cs h x=true↔∀(i:Nat) (v:Val) (t:Str),x.has[i]? = some v->(zM cs x)[i]? = some t->zm cs h v (Qy t)=true:=by
 unfold Z8;rw[List.all_eq_true];constructor
 ·intro H i v t A B;exact H (v,t) (Xe (zeK A B))
 ·intro H p D;obtain⟨i,C⟩:=List.mem_iff_getElem?.1 D;obtain⟨v,t⟩:=p;obtain⟨A,B⟩:=List.getElem?_zip_eq_some.1 C;exact H i v t A B
theorem Zbs{cs:List qa}{h A:List Zc}(H:Ext h A){x:Zc}(B:Z8 cs h x=true):Z8 cs A x=true :=
 qQ.2 fun i v t C D=>Qby H (qQ.1 B i v t C D)
theorem zcE{cs:List qa}{h:List Zc}{s:Str}{y:Ty}(H:za0 s y):zm cs h (QF s) (Qy s)=true:=by
 rw[H.of];unfold QF;rw[<-H.text];cases y with
 |i=>rw[show qd Ty.i=[73] from rfl,if_pos rfl];rfl
 |j=>rw[show qd Ty.j=[74] from rfl,if_neg (by decide),if_pos rfl];rfl
 |ar e =>
  rw[show qd (Ty.ar e)=91::qd e from rfl,if_neg (by intro h;injection h with h;exact absurd h (by decide)),if_neg (by intro h;injection h with h;exact absurd h (by decide))];unfold zm;simp[qm]
 |cl c =>
  rw[show qd (Ty.cl c)=76::(lst c++[59]) from rfl,if_neg (by intro h;injection h with h;exact absurd h (by decide)),if_neg (by intro h;injection h with h;exact absurd h (by decide))];unfold zm;simp[qm]
theorem ZcY{cs:List qa}{h:List Zc}(H:Qx cs h=0)(C:h.length<50){x:Zc}(D:qy cs x=0)(E:∀G,Z8 cs G x=true):Qx cs (h++[x])=0:=by
 obtain⟨_,F,B⟩:=Z2 H;rw[List.all_eq_true]at B;refine Zec (by simp;omega) (fun y A=>?_) fun y A=>?_
 ·rcases List.mem_append.1 A with A|A
  ·exact F y A
  ·rw[List.mem_singleton.1 A];exact D
 ·rcases List.mem_append.1 A with A|A
  ·exact Zbs (Ext.more h x) (B y A)
  ·rw[List.mem_singleton.1 A];exact E _
theorem QdB{cs:List qa}(c:Str):zM cs (Q0 cs c)=Qq (zU cs c):=by
 unfold zM Q0;rw[show Qy (QaZ c)=.cl c by rw[<-zcY];exact zec c]
theorem zdC{l:List qa}(E:∀c∈l,qf c=0){c:Str}(B:(Qb (Za l) c).isSome=true)(A:(Ze (Za l) c).face=false):qy (Za l) (Q0 (Za l) c)=0:=by
 have C:=zdl E B;have D:zaa (Za l) (Q0 (Za l) c) (.cl c):=⟨by show _=lst (QaZ c);rw[<-zcY];exact(QaA c).symm,B,rfl,by simp[ZD]⟩;have F:qbj (lst (Q0 (Za l) c).type)=true:=by
  unfold qbj;have G:ZO (lst (Q0 (Za l) c).type)=false:=by
   rw[<-D.text,za4];rfl
  rw[G,Bool.not_false,Bool.and_true];rw[<-D.text];exact Qbe (zbv E (.cl c) B) (by simp[ZD])
 rw[Zct F (by show Qg _ (QaZ c)=0;rw[<-zcY];exact C) D];show(if (Ze (Za l) c).face=true then 7 else if (Qq (zU (Za l) c)).length≠(Q0 (Za l) c).has.length then 8 else 0)=0
 rw[A,if_neg (by decide)];show(if (Qq (zU (Za l) c)).length≠((Qq (zU (Za l) c)).map QF).length then 8 else 0)=0
 rw[List.length_map,if_neg (fun h=>h rfl)]
theorem ZcE{l:List qa}(E:∀c∈l,qf c=0){h:List Zc}(H:Qx (Za l) h=0)(B:h.length<50){c:Str}(F:(Qb (Za l) c).isSome=true)(A:(Ze (Za l) c).face=false):Qx (Za l) (h++[Q0 (Za l) c])=0:=by
 have G:zaa (Za l) (Q0 (Za l) c) (.cl c):=⟨by show _=lst (QaZ c);rw[<-zcY];exact(QaA c).symm,F,rfl,by simp[ZD]⟩;refine ZcY H B (zdC E F A) fun J=>qQ.2 fun i v t C D=>?_
 obtain⟨y,I⟩:=Qb9 E G t (Xe D);rw[QdB]at D;change ((Qq (zU (Za l) c)).map QF)[i]? = some v at C;rw[List.getElem?_map,D]at C;obtain rfl:=Option.some.inj C;exact zcE I
theorem zfa(t:Str)(y:Ty)(h:qd y=lst t):Qy (str (91::lst t))=.ar y:=by
 refine QR ?_;show 91::qd y=lst (str (91::lst t))
 rw[h];rfl
theorem QdW{l:List qa}(L:∀c∈l,qf c=0){h:List Zc}(H:Qx (Za l) h=0)(E:h.length<50){t:Str}(M:Qg (Za l) t=0)(F:qo (91::lst t)=true){n:Nat}(T:n<=10):Qx (Za l) (h++[ZaC t n])=0:=by
 have B:=Zcv M F;have G:(str (91::lst t))=Z1 t:=by
  apply ByteArray.ext;apply Array.ext';change 91::lst t=lst (Z1 t);rw[qct]
 obtain⟨w,R⟩:=zR B;obtain⟨y,rfl,D⟩:=Za0.arr R;have A:zaa (Za l) (ZaC t n) (.ar y):=⟨by show 91::qd y=_;rw[show qd y=lst t from D.1];rfl,D.2,rfl,by
  have:=ZaM (x:=.ar y) (by show qo (91::qd y)=true;rw[show qd y=lst t from D.1];exact F);exact this⟩
 have N:qbj (lst (ZaC t n).type)=true:=by
  unfold qbj;have I:ZO (lst (ZaC t n).type)=false:=by
   rw[<-A.text,za4];rfl
  rw[I,Bool.not_false,Bool.and_true];exact F
 have J:qy (Za l) (ZaC t n)=0:=by
  rw[Zct N (by show Qg _ (str (91::lst t))=0;rw[G];exact B) A];show(if 10<(ZaC t n).has.length then 8 else 0)=0
  rw[show(ZaC t n).has.length=n from List.length_replicate ..,if_neg (by omega)]
 refine ZcY H E J fun U=>qQ.2 fun i v s I C=>?_
 obtain⟨z,S⟩:=Qb9 L A s (Xe C);have O:s=t:=by
  unfold zM at C;rw[A.of]at C;dsimp only at C;have:=List.eq_of_mem_replicate (Xe C);rw[this];apply ByteArray.ext;apply Array.ext';exact D.1
 subst O;have P:v=QF s:=List.eq_of_mem_replicate (Xe I);subst P;exact zcE S
theorem Zam{cs:List qa}{h:List Zc}{v:Val}{y:Ty}(A:zm cs h v y=true)(D:qm y=true)(G:0<v.n):v.kind=3/\∃x,h[v.n.toNat-1]? = some x/\zl h v=x/\x∈h/\ZA cs (Qy x.type) y=true:=by
 unfold zm at A;split at A
 ·rw[Bool.and_eq_true]at A;have:=Xm A.1;subst this;cases D
 ·split at A
  ·have:=Xm A;subst this;cases D
  ·split at A
   ·rename_i E;rw[Bool.and_eq_true,Bool.or_eq_true]at A;refine⟨E,?_⟩;rcases A.2 with F|C
    ·have:=Xm F;omega
    ·cases B:h[v.n.toNat-1]? with
     |none=>rw[B]at C;cases C
     |some x =>
      rw[B]at C;exact⟨x,rfl,Qbr B,Xe B,C⟩
   ·cases A
theorem ZdC{cs:List qa}{h:List Zc}(H:Qx cs h=0){v u:Val}{x:Zc}(J:h[v.n.toNat-1]? = some x){i:Nat}(M:∀t,(zM cs x)[i]? = some t->zm cs h u (Qy t)=true):Qx cs (Qaz h v i u)=0:=by
 obtain⟨N,L,G⟩:=Z2 H;rw[List.all_eq_true]at G;have E:=Ext.set h v i u;have D:=Xe J;have F:zM cs { x with has:=x.has.set i u } = zM cs x:=by
  unfold zM;cases Qy x.type<;>simp
 have B:∀y∈Qaz h v i u,y∈h\/y={ x with has:=x.has.set i u }:=fun y A=>by
  unfold Qaz at A;rw[Qbr J]at A;rcases List.mem_or_eq_of_mem_set A with A|A
  ·exact Or.inl A
  ·exact Or.inr A
 refine Zec (by unfold Qaz;simpa using N) (fun y A=>?_) fun y A=>?_
 ·rcases B y A with A|rfl
  ·exact L y A
  ·have:=L x D;unfold qy at this ⊢;simpa using this
 ·rcases B y A with A|rfl
  ·exact Zbs E (G y A)
  ·refine qQ.2 fun j w t C I=>?_
   rw[F]at I;change (x.has.set i u)[j]? = some w at C;rw[List.getElem?_set]at C;split at C
   ·rename_i O;subst O;split at C
    ·obtain rfl:=Option.some.inj C;exact Qby E (M t I)
    ·cases C
   ·exact Qby E (qQ.1 (G x D) j w t C I)
theorem qbL{n t:Str}:∀{l:List zg} {m:zg},zaR n t l=some m->m∈l/\m.name=n/\m.type=t
 |[],_,h=>by cases h
 |x::r,m,h=>by
  unfold zaR at h;split at h
  ·rename_i C;injection h with h
   subst h;exact⟨List.mem_cons_self ..,C⟩
  ·obtain⟨A,B⟩:=qbL h;exact⟨List.mem_cons_of_mem _ A,B⟩
theorem ZbE{cs:List qa}{n t d:Str}{m:zg}:∀{l:List Str},Zaf cs n t l=some (d,m)->d∈l/\m∈(Ze cs d).methods/\m.name=n/\m.type=t
 |[],h=>by cases h
 |x::r,h=>by
  unfold Zaf at h;split at h
  ·rename_i D C;injection h with h
   injection h with A B
   subst A B;exact⟨List.mem_cons_self ..,qbL C⟩
  ·obtain⟨A,B⟩:=ZbE h;exact⟨List.mem_cons_of_mem _ A,B⟩
theorem ZaW{cs:List qa}{n t d:Str}{m:zg}{a:Bool}:∀{l:List Str},qO cs n t a l=some (d,m)->d∈l/\m∈(Ze cs d).methods/\m.name=n/\m.type=t
 |[],h=>by cases h
 |x::r,h=>by
  unfold qO at h;split at h
  ·rename_i D C;split at h
   ·injection h with h
    injection h with A B
    subst A B;exact⟨List.mem_cons_self ..,qbL C⟩
   ·obtain⟨A,B⟩:=ZaW h;exact⟨List.mem_cons_of_mem _ A,B⟩
  ·obtain⟨A,B⟩:=ZaW h;exact⟨List.mem_cons_of_mem _ A,B⟩
def qci(cs:List qa)(c n t:Str)(p:Str×zg):Prop:=p.1∈zj cs c/\p.2∈(Ze cs p.1).methods/\p.2.name=n/\p.2.type=t
theorem zaO{l:List qa}(D:zh l){c n t:Str}(E:(Qb (Za l) c).isSome=true){p:Str×zg}(h:ZL (Za l) c n t=some p):qci (Za l) c n t p:=by
 obtain⟨d,m⟩:=p;unfold ZL at h;split at h
 ·rename_i x C;injection h with h
  subst h;obtain⟨A,B⟩:=ZbE C;exact⟨qaS D E A,B⟩
 ·split at h
  ·rename_i x C;injection h with h
   subst h;obtain⟨A,B⟩:=ZaW C;exact⟨(qcT _ _).1 A,B⟩
  ·obtain⟨A,B⟩:=ZaW h;exact⟨(qcT _ _).1 A,B⟩
theorem qbE{l:List qa}(A:zh l){c n t:Str}(B:(Qb (Za l) c).isSome=true):∀{r:List Z3} {o:Option (Str×zg)},(∀s∈r,s.cls∈zj (Za l) c)->(∀p,o=some p->qci (Za l) c n t p)->∀p,Qae (Za l) n t o r=some p->qci (Za l) c n t p
 |[],_,_,D,p,h=>D p h
 |s::r,o,F,D,p,h=>by
  unfold Qae at h;refine qbE A B (fun x I=>F x (List.mem_cons_of_mem _ I)) (fun q C=>?_) p h;split at C
  ·have E:=F s (List.mem_cons_self ..);obtain⟨G,H⟩:=zaO A ((qp A.closed B).1.known _ E) C;exact⟨Qbo A B E G,H⟩
  ·exact D q C
theorem qbV{l:List qa}(A:zh l){c n t:Str}(B:(Qb (Za l) c).isSome=true){p:Str×zg}(h:qY (Za l) c n t=some p):qci (Za l) c n t p :=
 qbE A B (fun s C=>qaS A B (zcj _ _ s C)) (fun _ D=>zaO A B D) p h
theorem Q2{l:List qa}{d:Str}{m:zg}(C:(Qb (Za l) d).isSome=true)(h:m∈(Ze (Za l) d).methods):∃c∈l,c.name=d/\m∈c.methods:=by
 cases B:Qb (Za l) d with
 |none=>rw[B]at C;cases C
 |some c =>
  have A:c∈Za l:=List.mem_of_find?_eq_some B;have D:c.name=d:=by simpa using List.find?_some B
  have E:Ze (Za l) d=c:=by unfold Ze;rw[B];rfl
  rw[E]at h;unfold Za at A;rcases List.mem_cons.1 A with rfl|A
  ·cases h
  ·rcases List.mem_cons.1 A with rfl|A
   ·cases h
   ·exact⟨c,A,D,h⟩
theorem ZbJ{c:qa}(B:qf c=0){m:zg}(D:m∈c.methods):0<=m.locals/\m.locals<=8/\(∃args g,qi m.type=some (args,g))/\(m.abs=true->m.static=false/\m.priv=false):=by
 have E:zi ZG [] c.methods=0:=by
  unfold qf at B;split at B
  ·cases B
  ·split at B
   ·rename_i h;exact absurd B h
   ·split at B
    ·cases B
    ·split at B
     ·rename_i h;exact absurd B h
     ·split at B
      ·rename_i h;exact absurd B h
      ·rename_i h;exact Decidable.not_not.1 h
 obtain⟨b,A⟩:=qb4 E m D;unfold ZG at A;split at A
 ·cases A
 ·split at A
  ·cases A
  ·rename_i C;split at A
   ·cases A
   ·split at A
    ·cases A
    ·rename_i J;refine⟨by omega,by omega,?_,fun G=>?_⟩
     ·cases F:qi m.type with
      |none=>rw[F]at C;exact absurd rfl C
      |some p=>exact⟨p.1,p.2,rfl⟩
     ·unfold Qag at A;rw[if_pos G]at A;split at A
      ·cases A
      ·rename_i L;cases H:m.static<;>cases I:m.priv<;>simp_all
theorem Qk.tops{cs:List qa}{h:List Zc}(v:Val):∀n,Qk cs h (List.replicate n v) (List.replicate n qb0)
 |0=>trivial
 |n+1=>⟨by unfold zy;rw[show qr qb0=.t from rfl];trivial,Qk.tops v n⟩
def Zao(l:List qa):Prop:=∀c∈l,∀m∈c.methods,qag l c.name m
theorem qdC{l:List qa}(T:zh l)(_:∀c∈l,qf c=0)(C:Zao l){h:List Zc}(U:Qx (Za l) h=0){d:Str}{m:zg}(M:(Qb (Za l) d).isSome=true)(N:m∈(Ze (Za l) d).methods)(O:m.abs=false){args:List Str}{g:Str}(V:qi m.type=some (args,g)){given:List Val}(P:Qk (Za l) h given (qaG d m.static++args)):zaW l h ⟨d,m,0,given++List.replicate (m.locals.toNat-given.length) v0,[]⟩ g:=by
 obtain⟨c,X,rfl,I⟩:=Q2 M N;rcases C c X m I with R|⟨L,f,B,A,F,D,S⟩
 ·rw[O]at R;cases R
 ·have E:=F.type;rw[V]at E;injection E with E
  injection E with Z a
  subst Z a;obtain⟨e,Y,J⟩:=S.1.2.2;have H:qaT l ⟨c.name,m,0,given++List.replicate (m.locals.toNat-given.length) v0,[]⟩ g A:=⟨M,N,O,args,B,F,D,S.1⟩;have G:=zbc (qcl F) D;refine zaW.go T (Zj U) H Y J G ?_ trivial;show Qk _ _ (given++_) (Q7 c.name m.static args B)
  unfold Q7;refine P.append ?_;rw[F.locals,P.len,Int.toNat_natCast];exact Qk.tops v0 _
theorem QQ{L S A B:List Str}{k:Str}(h:zr L S k=some (A,B)):A=L/\B=S++[k]:=by
 unfold zr QN at h;split at h
 ·injection h with h
  injection h with C D
  exact⟨C.symm,D.symm⟩
 ·cases h
theorem Qk.take1{l:List qa}(B:zh l){h:List Zc}(C:zah (Za l) h){t:Str}{S:List Val}{K K':List Str}(a:Qk (Za l) h S K)(e:Qf (Za l) [t] K=some K'):Qk (Za l) h S.dropLast K'/\zy (Za l) h (Qj S) t:=by
 unfold Qf at e;split at e
 ·cases e
 ·cases A:zB K with
  |none=>rw[A]at e;cases e
  |some p =>
   obtain⟨k,G⟩:=p;rw[A]at e;dsimp only at e;split at e
   ·rename_i F;injection e with e
    subst e;obtain⟨_,D,E⟩:=a.popped A;exact⟨D,E.up B C F⟩
   ·cases e
theorem ZaE{cs:List qa}{h:List Zc}{n:Int}(A : -2147483648<=n)(B:n<=2147483647):zy cs h ⟨1,n⟩ kI:=by
 show zm cs h ⟨1,n⟩ .i=true
 unfold zm;rw[if_pos rfl];simp[A,B]
theorem zdX{cs:List qa}{h:List Zc}{n:Int}:zy cs h ⟨2,n⟩ kJ:=rfl
theorem Zfa{t:Str}(h:ZO (lst t)=true):t=kI\/t=kJ:=by
 unfold ZO at h;rw[Bool.or_eq_true,beq_iff_eq,beq_iff_eq]at h;rcases h with h|h
 ·exact Or.inl (ByteArray.ext (Array.ext' h))
 ·exact Or.inr (ByteArray.ext (Array.ext' h))
theorem qaP{x:Ins}(h:Qo x=0):1<=x.op/\x.op<=28/\QP x=true/\Z0 x=true:=by
 unfold Qo at h;split at h
 ·cases h
 ·rename_i C;split at h
  ·cases h
  ·split at h
   ·cases h
   ·rename_i B;split at h
    ·cases h
    ·rename_i A;refine⟨by omega,by omega,by simpa using B,?_⟩;rw[Bool.not_eq_true,Bool.or_eq_false_iff,Bool.or_eq_false_iff]at A;simpa using A.1.1
def QM(l:List qa)(h:List Zc)(x:Ins)(pc:Nat)(L' S':List Str)(r:Option (Nat×List Val×List Val)):Prop:=∀pc' L1 S1,r=some (pc',L1,S1)->pc'∈QS x pc/\Qk (Za l) h L1 L'/\Qk (Za l) h S1 S'
theorem QM.one{l:List qa}{h:List Zc}{x:Ins}{pc:Nat}{B C:List Str}{A:Nat}{D E:List Val}(F:A∈QS x pc)(G:Qk (Za l) h D B)(H:Qk (Za l) h E C):QM l h x pc B C (some (A,D,E)):=fun _ _ _ e=>by
 injection e with e
 injection e with I e
 injection e with J L
 subst I J L;exact⟨F,G,H⟩
theorem QM.fault{l:List qa}{h:List Zc}{x:Ins}{pc:Nat}{A B:List Str}:QM l h x pc A B none:=fun _ _ _ e=>by cases e
theorem qec(t:Str):isI t=(lst t==[73]):=by unfold isI;rw[ByteArray.toList_eq]
theorem qaW{cs:List qa}{h:List Zc}{t:Str}{n:Int}(B:ZO (lst t)=true)(C:isI t=true->-2147483648<=n/\n<=2147483647):zy cs h ⟨zag t,n⟩ t:=by
 rcases Zfa B with rfl|rfl
 ·obtain⟨D,E⟩:=C (by rw[qec];rfl);have A:zag kI=1:=by unfold zag;rw[ByteArray.toList_eq];rfl
  rw[A];exact ZaE D E
 ·have A:zag kJ=2:=by unfold zag;rw[ByteArray.toList_eq];rfl
  rw[A];exact zdX
theorem ZbW(a:Int):-2147483648<=wrap32 a/\wrap32 a<=2147483647:=by unfold wrap32;omega
theorem qcY{I:Bool}{A a b:Int}(h:I=true):-2147483648<=ofN I A a b/\ofN I A a b<=2147483647:=by
 unfold ofN;rw[if_pos h];exact ZbW _
theorem QcB{x:Ins}(B:ZS x.op=true)(A:QP x=true):0<=x.a:=by
 have h:x.op=12\/x.op=13\/x.op=14:=by
  unfold ZS at B;simpa[or_assoc] using B
 unfold QP at A;rw[if_neg (by omega),if_neg (by omega),if_neg (by omega),B]at A;simp at A;exact A.1.1.1
theorem QcY{x:Ins}{pc:Nat}(_:0<=x.a)(A:x.op=12\/x.op=13)(t:Bool):(if t then x.a.toNat else pc+1)∈QS x pc:=by
 have B:Zac x.op=false:=by rcases A with h|h<;>rw[h]<;>rfl
 have C:ZS x.op=true:=by rcases A with h|h<;>rw[h]<;>rfl
 unfold QS;rw[B,C];cases t with
 |false=>simp
 |true =>
  by_cases D:x.a=(pc:Int)+1
  ·have:x.a.toNat=pc+1:=(by omega);simp[this]
  ·have E:(x.op==14||x.a != (pc:Int)+1)=true:=by
    rw[Bool.or_eq_true];exact Or.inr (by simpa using D)
   rw[E];simp
theorem qeX{l:List qa}(Z:zh l){h:List Zc}(c:zah (Za l) h){x:Ins}(y:Qo x=0)(g:x.op<=14){Zb:Str}{L S:List Val}{F D G H:List Str}(I:Qk (Za l) h L F)(J:Qk (Za l) h S D)(A:qD (Za l) Zb x F D=some (G,H))(pc:Nat):
 QM l h x pc G H (Qam pc x L S):=by
 obtain⟨Y,_,d,f⟩:=qaP y;clear y;obtain⟨M,a,b,B,cls,N⟩:=x;dsimp only at Y g;have X:M=1\/M=2\/M=3\/M=4\/M=5\/M=6\/M=7\/M=8\/M=9\/M=10\/M=11\/M=12\/M=13\/M=14:=by omega
 rcases X with rfl|rfl|rfl|rfl|rfl|rfl|rfl|rfl|rfl|rfl|rfl|rfl|rfl|rfl
 ·
  have A:some (F,D)=some (G,H):=A;injection A with A
  injection A with P R
  subst P R;exact QM.one (by simp[QS,Zac]) I J
 ·
  obtain⟨rfl,rfl⟩:=QQ (show zr F D B=some (G,H) from A);refine QM.one (by simp[QS,Zac]) I (J.snoc (qaW f fun U=>?_));have d:(!(lst B==[73])||(decide (-2147483648<=a)&&decide (a<=2147483647)))=true:=d;have U:(lst B==[73])=true:=by rw[<-qec];exact U
  rw[U]at d;simpa using d
 ·
  obtain⟨rfl,rfl⟩:=QQ (show zr F D kN=some (G,H) from A);exact QM.one (by simp[QS,Zac]) I (J.snoc rfl)
 ·
  have A:QbB F D a=some (G,H):=A;unfold QbB at A;cases o:F[a.toNat]? with
  |none=>rw[o]at A;cases A
  |some k =>
   rw[o]at A;dsimp only at A;split at A
   ·cases A
   ·obtain⟨rfl,rfl⟩:=QQ A;obtain⟨v,Y,E⟩:=I.get o;refine QM.one (by simp[QS,Zac]) I (J.snoc ?_);rw[List.getD_eq_getElem?_getD,Y];exact E
 ·
  have A:qa0 F D a=some (G,H):=A;unfold qa0 at A;cases C:zB D with
  |none=>rw[C]at A;cases A
  |some p =>
   obtain⟨k,r⟩:=p;rw[C,Option.bind_some]at A;dsimp only at A;split at A
   ·injection A with A
    injection A with P R
    subst P R;obtain⟨_,E,T⟩:=J.popped C;exact QM.one (by simp[QS,Zac]) (I.put T) E
   ·cases A
 ·
  have A:((zB D).map fun p=>(F,p.2))=some (G,H):=A;cases C:zB D with
  |none=>rw[C]at A;cases A
  |some p =>
   obtain⟨k,r⟩:=p;rw[C]at A;injection A with A
   injection A with P R
   subst P R;obtain⟨_,E,T⟩:=J.popped C;exact QM.one (by simp[QS,Zac]) I E
 ·
  have A:((zB D).bind fun p=>(QN p.2 p.1).bind fun O=>zr F O p.1)=some (G,H):=A;cases C:zB D with
  |none=>rw[C]at A;cases A
  |some p =>
   obtain⟨k,r⟩:=p;rw[C,Option.bind_some]at A;dsimp only at A;unfold QN at A;split at A
   ·rw[Option.bind_some]at A;obtain⟨rfl,rfl⟩:=QQ A;obtain⟨Y,E,T⟩:=J.popped C;refine QM.one (by simp[QS,Zac]) I (Qk.snoc ?_ T);rw[Y];have f:Qj (S.dropLast++[Qj S])=Qj S:=(by unfold Qj;simp);exact E.snoc T
   ·cases A
 ·
  have A:((zB D).bind fun p=>(zB p.2).bind fun q=>(QN q.2 p.1).bind fun O=>zr F O q.1)=some (G,H):=A;cases C:zB D with
  |none=>rw[C]at A;cases A
  |some p =>
   obtain⟨k,r⟩:=p;rw[C,Option.bind_some]at A;dsimp only at A;cases V:zB r with
   |none=>rw[V]at A;cases A
   |some q =>
    obtain⟨k2,r2⟩:=q;rw[V,Option.bind_some]at A;dsimp only at A;unfold QN at A;split at A
    ·rw[Option.bind_some]at A;obtain⟨rfl,rfl⟩:=QQ A;obtain⟨Y,E,T⟩:=J.popped C;obtain⟨g1,s,z⟩:=E.popped V;have:=(s.snoc T).snoc z;rw[List.append_assoc]at this;exact QM.one (by simp[QS,Zac]) I (by simpa using this)
    ·cases A
 ·
  have A:((Qf (Za l) (Qan a B) D).bind fun O=>(Qf (Za l) [B] O).bind fun S2=>zr F S2 B)=some (G,H):=A;cases C:Qf (Za l) (Qan a B) D with
  |none=>rw[C]at A;cases A
  |some K =>
   rw[C,Option.bind_some]at A;cases V:Qf (Za l) [B] K with
   |none=>rw[V]at A;cases A
   |some K2 =>
    rw[V,Option.bind_some]at A;obtain⟨rfl,rfl⟩:=QQ A;by_cases i:a=12
    ·subst i;rw[show Qan 12 B=[] from rfl]at C;injection C with C
     subst C;obtain⟨E,T⟩:=J.take1 Z c V;show QM l h _ pc _ _ (if ofB 12 0 then some (pc+1,L,S.dropLast++[⟨zag B,ofN (isI B) 12 (Qj S).n 0⟩]) else none)
     split
     ·exact QM.one (by simp[QS,Zac]) I (E.snoc (qaW f fun U=>qcY U))
     ·exact QM.fault
    ·have j:∃t,Qan a B=[t]:=by
      unfold Qan;rw[if_neg i];split
      ·exact⟨_,rfl⟩
      ·exact⟨_,rfl⟩
     obtain⟨t,j⟩:=j;rw[j]at C;obtain⟨E,T⟩:=J.take1 Z c C;obtain⟨s,z⟩:=E.take1 Z c V;have e:Qam pc ⟨9,a,b,B,cls,N⟩ L S=if ofB a (Qj S).n then some (pc+1,L,S.dropLast.dropLast++[⟨zag B,ofN (isI B) a (Qj S.dropLast).n (Qj S).n⟩]) else none:=by
      show(if a=12 then _ else _)=_
      rw[if_neg i]
     rw[e];split
     ·exact QM.one (by simp[QS,Zac]) I (s.snoc (qaW f fun U=>qcY U))
     ·exact QM.fault
 ·
  have A:((Qf (Za l) [Zat B] D).bind fun O=>zr F O B)=some (G,H):=A;cases C:Qf (Za l) [Zat B] D with
  |none=>rw[C]at A;cases A
  |some K =>
   rw[C,Option.bind_some]at A;obtain⟨rfl,rfl⟩:=QQ A;obtain⟨E,T⟩:=J.take1 Z c C;refine QM.one (by simp[QS,Zac]) I (E.snoc (qaW f fun U=>?_));rw[if_pos U];exact ZbW _
 ·
  have A:((Qf (Za l) [kJ,kJ] D).bind fun O=>zr F O kI)=some (G,H):=A;cases C:Qf (Za l) [kJ,kJ] D with
  |none=>rw[C]at A;cases A
  |some K =>
   rw[C,Option.bind_some]at A;obtain⟨rfl,rfl⟩:=QQ A;obtain⟨Y,E,_⟩:=J.take Z c C;have hd:S.take (S.length - [kJ,kJ].length)=S.dropLast.dropLast:=by
    rw[List.dropLast_eq_take,List.dropLast_eq_take,List.take_take,List.length_take];congr 1;simp;omega
   rw[hd]at E;refine QM.one (by simp[QS,Zac]) I (E.snoc ?_);unfold ZcD;split
   ·exact ZaE (by decide) (by decide)
   ·split
    ·exact ZaE (by decide) (by decide)
    ·exact ZaE (by decide) (by decide)
 ·
  have A:((Qf (Za l) [kI] D).map fun O=>(F,O))=some (G,H):=A;cases C:Qf (Za l) [kI] D with
  |none=>rw[C]at A;cases A
  |some K =>
   rw[C]at A;injection A with A
   injection A with P R
   subst P R;obtain⟨E,_⟩:=J.take1 Z c C;refine QM.one ?_ I E;have m:=QcB (x:=⟨12,a,b,B,cls,N⟩) rfl d;exact QcY m (Or.inl rfl) _
 ·
  have A:Qdt F D=some (G,H):=A;unfold Qdt at A;cases C:zB D with
  |none=>rw[C]at A;cases A
  |some p =>
   obtain⟨k,r⟩:=p;rw[C,Option.bind_some]at A;dsimp only at A;split at A
   ·injection A with A
    injection A with P R
    subst P R;obtain⟨_,E,_⟩:=J.popped C;refine QM.one ?_ I E;have m:=QcB (x:=⟨13,a,b,B,cls,N⟩) rfl d;have:=QcY (pc:=pc) m (Or.inr rfl) (decide ((Qj S).n=0));simpa using this
   ·cases A
 ·
  have A:some (F,D)=some (G,H):=A;injection A with A
  injection A with P R
  subst P R;exact QM.one (by simp[QS,Zac,ZS]) I J
theorem qcD{l:List qa}(h:zh l){c d:Str}(D:(Qb (Za l) c).isSome=true)(J:d∈zj (Za l) c)(L:(Ze (Za l) d).face=false):d∈Zl (Za l) c\/d=Zg:=by
 obtain⟨_,_,_,M⟩:=qp h.closed D;have:=M (fun x=>(Qb (Za l) x).isSome=true/\((Ze (Za l) x).face=true\/x=Zg\/x∈Zl (Za l) c)) (fun x ⟨H,A⟩ a B=>by
  refine⟨h.closed x H a B,?_⟩;obtain⟨d,F⟩:=Option.isSome_iff_exists.1 H;obtain⟨I,N,O⟩:=ZdI h F;have C:Ze (Za l) x=d:=by unfold Ze;rw[F];rfl
  have E:Zz (Za l) x=if d.super.size=0 then d.faces else d.super::d.faces:=by unfold Zz;rw[F];rfl
  rw[E]at B;split at B
  ·exact Or.inl (I a B)
  ·rename_i G;rcases List.mem_cons.1 B with rfl|B
   ·rcases A with A|rfl|A
    ·rw[C]at A;exact Or.inr (Or.inl (N A))
    ·have e:d=Ze (Za l) Zg:=C.symm;rw[e]at G;exact absurd rfl G
    ·exact Or.inr (Or.inr (h.tree.trans c x _ D A ((h.line_mem H).2 (Or.inr ⟨by rw[C];exact G,by rw[C];exact Zab _⟩))))
   ·exact Or.inl (I a B)) ⟨D,Or.inr (Or.inr (Zab c))⟩ d J
 rcases this.2 with A|A|A
 ·rw[L]at A;cases A
 ·exact Or.inr A
 ·exact Or.inl A
theorem ZdX{l:List qa}(h:zh l){c d:Str}(D:(Qb (Za l) c).isSome=true)(A:d∈Zl (Za l) c):∃r,zU (Za l) c=zU (Za l) d++r:=by
 refine h.line_ind (fun c=>∀d∈Zl (Za l) c,∃r,zU (Za l) c=zU (Za l) d++r) (fun x C B d A=>?_) (fun x C B F d A=>?_) c D d A
 ·rw[zh.line_top B]at A;rw[List.mem_singleton.1 A];exact⟨[],by simp⟩
 ·rw[h.line_up C B]at A;rcases List.mem_cons.1 A with rfl|A
  ·exact⟨[],by simp⟩
  ·obtain⟨r,E⟩:=F d A;exact⟨r++Zaq (Za l) x,by rw[Ze5 h C B,E,List.append_assoc]⟩
theorem QdC{α:Type}[DecidableEq α]{x:α}:∀{l:List α} {k:Nat},zV x l=some k->l[k]? = some x
 |[],_,h=>by cases h
 |y::r,k,h=>by
  unfold zV at h;split at h
  ·rename_i B;injection h with h
   subst h;rw[B];rfl
  ·cases A:zV x r with
   |none=>rw[A]at h;cases h
   |some j =>
    rw[A]at h;injection h with h
    subst h;have:=QdC A;simpa using this
theorem zdD{c:qa}(A:qf c=0)(B:c.face=true):c.fields=[]:=by
 unfold qf at A;split at A
 ·cases A
 ·split at A
  ·rename_i h;exact absurd A h
  ·split at A
   ·cases A
   ·split at A
    ·rename_i h;exact absurd A h
    ·split at A
     ·rename_i h;exact absurd A h
     ·split at A
      ·cases A
      ·rename_i h;rw[B]at h;simpa using h
theorem qdX{l:List qa}{d:Str}(E:(Qb (Za l) d).isSome=true):(d=Zg/\Ze (Za l) d=ZU)\/(d=Ql/\Ze (Za l) d=Zad)\/∃c∈l,c.name=d/\Ze (Za l) d=c:=by
 cases B:Qb (Za l) d with
 |none=>rw[B]at E;cases E
 |some c =>
  have A:c∈Za l:=List.mem_of_find?_eq_some B;have C:c.name=d:=by simpa using List.find?_some B
  have D:Ze (Za l) d=c:=by unfold Ze;rw[B];rfl
  unfold Za at A;rcases List.mem_cons.1 A with rfl|A
  ·exact Or.inl ⟨C.symm,D⟩
  ·rcases List.mem_cons.1 A with rfl|A
   ·exact Or.inr (Or.inl ⟨C.symm,D⟩)
   ·exact Or.inr (Or.inr ⟨c,A,C,D⟩)
theorem qbW{l:List qa}(B:∀c∈l,qf c=0){d:Str}(C:(Qb (Za l) d).isSome=true)(h:(Ze (Za l) d).face=true):(Ze (Za l) d).fields=[]:=by
 rcases qdX C with⟨_,A⟩|⟨_,A⟩|⟨c,D,_,A⟩
 ·rw[A];rfl
 ·rw[A];rfl
 ·rw[A]at h ⊢;exact zdD (B c D) h
theorem zbh{cs:List qa}{n:Str}:∀{A:List Str} {x:Str} {f:qH},Q9 cs n A=some (x,f)->x∈A
 |[],_,_,h=>by cases h
 |y::r,x,f,h=>by
  unfold Q9 at h;split at h
  ·injection h with h
   injection h with B C
   rw[<-B];exact List.mem_cons_self ..
  ·exact List.mem_cons_of_mem _ (zbh h)
theorem qdy{l:List qa}(F:zh l)(O:∀c∈l,qf c=0){c cls n:Str}{p:Str×qH}(J:(Qb (Za l) c).isSome=true)(G:(Qb (Za l) cls).isSome=true)(P:cls∈zj (Za l) c)(C:qaH (Za l) cls n=some p):
 ∃k,zat (Za l) cls n=some k/\(Qq (zU (Za l) c))[k]? = some p.2.type:=by
 obtain⟨d,f⟩:=p;have H:(Ze (Za l) cls).face=false:=by
  cases E:(Ze (Za l) cls).face with
  |false=>rfl
  |true =>
   have I:=zh.face_line F G E;have A:=zbh C;have B:=Qai C;rw[I]at A;rcases List.mem_cons.1 A with rfl|A
   ·rw[qbW O G E]at B;cases B
   ·rw[List.mem_singleton.1 A]at B;cases B
 have D:=qds F (n:=n) G;rw[C]at D;obtain⟨k,A,B⟩:=D;refine⟨k,A,?_⟩;have L:=QdC B;rcases qcD F J P H with I|rfl
 ·obtain⟨r,R⟩:=ZdX F J I;unfold Qq;rw[R,List.getElem?_map,List.getElem?_append_left (List.getElem?_eq_some_iff.1 L).1,L];rfl
 ·have M:=Qai C;have N:=zbh C;rw[zh.line_top (show(Ze (Za l) Zg).super.size=0 from rfl)]at N;rw[List.mem_singleton.1 N]at M;cases M
def Zr(l:List qa)(h:List Zc)(S':List Str)(r:zeW):Prop:=∀h' S1,r=.ok h' S1->Qx (Za l) h'=0/\Ext h h'/\Qk (Za l) h' S1 S'
theorem Zr.same{l:List qa}{h:List Zc}{A:List Str}{B:List Val}(C:Qx (Za l) h=0)(a:Qk (Za l) h B A):Zr l h A (.ok h B):=fun _ _ e=>by
 injection e with D E
 subst D E;exact⟨C,Ext.refl _,a⟩
theorem Zr.fault{l:List qa}{h:List Zc}{A:List Str}:Zr l h A .fault:=fun _ _ e=>by cases e
theorem Zr.full{l:List qa}{h:List Zc}{A:List Str}:Zr l h A .full:=fun _ _ e=>by cases e
theorem Qec{l:List qa}{h:List Zc}{x:Zc}{K:List Str}{S:List Val}{k:Str}{y:Ty}(B:h.length<50->Qx (Za l) (h++[x])=0)(C:Qk (Za l) h S K)(D:qr k=.ty y)(E:qm y=true)(F:ZA (Za l) (Qy x.type) y=true):Zr l h (K++[k]) (qbD h x S):=by
 unfold qbD;split
 ·exact Zr.full
 ·rename_i G;intro I J e;injection e with A H
  subst A H;refine⟨B (by omega),Ext.more h x,(C.ext (Ext.more h x)).snoc ?_⟩;unfold zy;rw[D];show zm (Za l) (h++[x]) ⟨3,(h.length:Int)+1⟩ y=true
  unfold zm;rw[if_neg (show ¬(3:Int)=1 by decide),if_neg (show ¬(3:Int)=2 by decide),if_pos rfl];have A:((h.length:Int)+1).toNat-1=h.length:=by omega
  dsimp only;rw[A,List.getElem?_append_right Xl,Nat.sub_self];dsimp only[List.getElem?_cons_zero];rw[E,F];simp;omega
theorem Zae{α:Type}{cs:List qa}{t:Str}{o:Option α}{r:α}(h:knK cs t o=some r):Qg cs t=0/\o=some r:=by
 unfold knK at h;split at h
 ·cases h
 ·rename_i A;exact⟨Decidable.not_not.1 A,h⟩
theorem QdX{l:List qa}(J:zh l)(L:∀c∈l,qf c=0){h:List Zc}(M:Qx (Za l) h=0){cls:Str}{E F G H:List Str}{S:List Val}(N:Qk (Za l) h S F)(C:knK (Za l) (Qc cls) (zbo (Za l) cls E F)=some (G,H)):
 G=E/\Zr l h H (qbD h (Q0 (Za l) cls) S):=by
 obtain⟨P,B⟩:=Zae C;unfold zbo at B;split at B
 ·cases B
 ·rename_i A;obtain⟨rfl,rfl⟩:=QQ B;have I:=QaT P;refine⟨rfl,Qec (fun D=>ZcE L M D I (by simpa using A)) N (Qcd cls) rfl ?_⟩;have O:Qy (Q0 (Za l) cls).type=.cl cls:=by
   show Qy (QaZ cls)=_
   rw[<-zcY];exact zec cls
  rw[O];exact QaU J (.cl cls) I
theorem Qdf{l:List qa}(G:zh l)(R:∀c∈l,qf c=0){h:List Zc}(H:Qx (Za l) h=0){t:Str}(I:qo (91::lst t)=true){J B L M:List Str}{S:List Val}(T:Qk (Za l) h S B)(C:knK (Za l) t ((Qf (Za l) [kI] B).bind fun X=>zr J X (Z1 t))=some (L,M)):
 L=J/\Zr l h M (if (Qj S).n<0\/10<(Qj S).n then .fault else qbD h (ZaC t (Qj S).n.toNat) S.dropLast):=by
 obtain⟨N,A⟩:=Zae C;cases E:Qf (Za l) [kI] B with
 |none=>rw[E]at A;cases A
 |some K =>
  rw[E,Option.bind_some]at A;obtain⟨rfl,rfl⟩:=QQ A;obtain⟨V,_⟩:=T.take1 G (Zj H) E;refine⟨rfl,?_⟩;split
  ·exact Zr.fault
  ·have D:=Zcv N I;obtain⟨w,O⟩:=zR D;obtain⟨y,rfl,P⟩:=Za0.arr O;refine Qec (fun F=>QdW R H F N I (by omega)) V (zK O.1) rfl ?_;have U:Qy (ZaC t (Qj S).n.toNat).type=.ar y:=zfa t y P.1;rw[U];exact QaU G (.ar y) P.2
theorem ZaV{l:List qa}(H:zh l)(I:∀c∈l,qf c=0){h:List Zc}(J:Qx (Za l) h=0){v:Val}{cls n:Str}{p:Str×qH}(L:(Qb (Za l) cls).isSome=true)(B:zy (Za l) h v (Qc cls))(M:0<v.n)(C:qaH (Za l) cls n=some p):
 ∃x k,h[v.n.toNat-1]? = some x/\zl h v=x/\x∈h/\zat (Za l) cls n=some k/\(zM (Za l) x)[k]? = some p.2.type:=by
 unfold zy at B;rw[Qcd]at B;obtain⟨_,x,O,P,G,A⟩:=Zam B rfl M;obtain⟨_,_,t,D⟩:=QI (Zj J x G);rw[D.of]at A;cases t with
 |i=>cases A
 |j=>cases A
 |ar e =>
  have:cls=Zg:=Xm A;subst this;have E:=zbh C;have F:=Qai C;rw[zh.line_top (show(Ze (Za l) Zg).super.size=0 from rfl)]at E;rw[List.mem_singleton.1 E]at F;cases F
 |cl c =>
  have N:(Qb (Za l) c).isSome=true:=D.good;obtain⟨k,R,S⟩:=qdy H I N L (qA.1 A) C;refine⟨x,k,O,P,G,R,?_⟩;unfold zM;rw[D.of];exact S
theorem QbJ{l:List qa}{cls n t:Str}(h:qL (Za l) cls n=some t):(Qb (Za l) cls).isSome=true/\∃p,qaH (Za l) cls n=some p/\p.2.type=t:=by
 unfold qL at h;split at h
 ·cases h
 ·rename_i A;refine⟨QaT (Decidable.not_not.1 A),?_⟩;split at h
  ·cases h
  ·rename_i d f B;split at h
   ·injection h with h
    exact⟨(d,f),B,h⟩
   ·cases h
theorem QbW{l:List qa}{h:List Zc}{v:Val}{t:Str}(A:qo (lst t)=true)(C:zm (Za l) h v (Qy t)=true):zy (Za l) h v t:=by
 unfold zy;have D:¬lst t=[78]:=fun e=>by rw[e]at A;exact absurd A (by decide)
 have E:¬lst t=[84]:=fun e=>by rw[e]at A;exact absurd A (by decide)
 have B:qr t=.ty (Qy t):=by unfold qr;rw[if_neg D,if_neg E]
 rw[B];exact C
theorem zdY{l:List qa}(G:zh l)(H:∀c∈l,qf c=0){h:List Zc}(C:Qx (Za l) h=0){cls n:Str}{I D J L:List Str}{S:List Val}(P:Qk (Za l) h S D)(A:((qL (Za l) cls n).bind fun t=>(Qf (Za l) [Qc cls] D).bind fun d=>zr I d t)=some (J,L)):
 J=I/\Zr l h L (if (Qj S).n<=0 then .fault else .ok h (S.dropLast++[(zl h (Qj S)).has.getD ((zat (Za l) cls n).getD 0) v0])):=by
 cases E:qL (Za l) cls n with
 |none=>rw[E]at A;cases A
 |some t =>
  rw[E,Option.bind_some]at A;cases F:Qf (Za l) [Qc cls] D with
  |none=>rw[F]at A;cases A
  |some K =>
   rw[F,Option.bind_some]at A;obtain⟨rfl,rfl⟩:=QQ A;obtain⟨U,V⟩:=P.take1 G (Zj C) F;obtain⟨X,p,B,rfl⟩:=QbJ E;refine⟨rfl,?_⟩;split
   ·exact Zr.fault
   ·rename_i f;obtain⟨x,k,e,Y,M,Z,N⟩:=ZaV G H C X V (by omega) B;refine Zr.same C (U.snoc ?_);rw[Y,Z,Option.getD_some];obtain⟨_,a,b⟩:=Z2 C;have R:=qaU (a x M);have T:=(List.getElem?_eq_some_iff.1 N).1;obtain⟨v,O⟩:∃v,x.has[k]? = some v:=⟨x.has[k]'(by omega),Xn _⟩;rw[List.getD_eq_getElem?_getD,O];exact QbW (Zah H p.1 p.2 (Qai B)) (qQ.1 (List.all_eq_true.1 b x M) k v _ O N)
theorem qby{t:Str}(A:qo (lst t)=true):qr t=.ty (Qy t):=by
 have B:¬lst t=[78]:=fun e=>by rw[e]at A;exact absurd A (by decide)
 have C:¬lst t=[84]:=fun e=>by rw[e]at A;exact absurd A (by decide)
 unfold qr;rw[if_neg B,if_neg C]
theorem ZdY{l:List qa}{h:List Zc}{v:Val}{t:Str}(B:qo (lst t)=true)(A:zy (Za l) h v t):zm (Za l) h v (Qy t)=true:=by
 unfold zy at A;rw[qby B]at A;exact A
theorem Qk.take2{l:List qa}(B:zh l){h:List Zc}(C:zah (Za l) h){t u:Str}{S:List Val}{K K':List Str}(a:Qk (Za l) h S K)(e:Qf (Za l) [t,u] K=some K'):Qk (Za l) h S.dropLast.dropLast K'/\zy (Za l) h (Qj S) t/\zy (Za l) h (Qj S.dropLast) u:=by
 unfold Qf at e;split at e
 ·cases e
 ·cases A:zB K with
  |none=>rw[A]at e;cases e
  |some p =>
   obtain⟨k,I⟩:=p;rw[A]at e;dsimp only at e;split at e
   ·rename_i H;obtain⟨_,D,E⟩:=a.popped A;obtain⟨F,G⟩:=D.take1 B C e;exact⟨F,E.up B C H,G⟩
   ·cases e
theorem qdY{l:List qa}(I:zh l)(J:∀c∈l,qf c=0){h:List Zc}(C:Qx (Za l) h=0){cls n:Str}{L D M N:List Str}{S:List Val}(R:Qk (Za l) h S D)(A:((qL (Za l) cls n).bind fun t=>(Qf (Za l) [t,Qc cls] D).map fun O=>(L,O))=some (M,N)):
 M=L/\Zr l h N (if (Qj S.dropLast).n<=0 then .fault else .ok (Qaz h (Qj S.dropLast) ((zat (Za l) cls n).getD 0) (Qj S)) S.dropLast.dropLast):=by
 cases E:qL (Za l) cls n with
 |none=>rw[E]at A;cases A
 |some t =>
  rw[E,Option.bind_some]at A;cases F:Qf (Za l) [t,Qc cls] D with
  |none=>rw[F]at A;cases A
  |some K =>
   rw[F]at A;injection A with A
   injection A with G H
   subst G H;obtain⟨T,U,V⟩:=R.take2 I (Zj C) F;obtain⟨X,p,B,rfl⟩:=QbJ E;refine⟨rfl,?_⟩;split
   ·exact Zr.fault
   ·rename_i f;obtain⟨x,k,Y,b,d,Z,a⟩:=ZaV I J C X V (by omega) B;intro g O e;injection e with G H
    subst G H;refine⟨ZdC C Y fun s P=>?_,Ext.set _ _ _ _,T.ext (Ext.set _ _ _ _)⟩;rw[Z,Option.getD_some,a]at P;obtain rfl:=Option.some.inj P;exact ZdY (Zah J p.1 p.2 (Qai B)) U
theorem Qk.popR{cs:List qa}{h:List Zc}{S:List Val}{K K':List Str}{k:Str}(a:Qk cs h S K)(e:ZM K=some (k,K')):Qk cs h S.dropLast K'/\zy cs h (Qj S) k/\ZaS (qr k)=true:=by
 obtain⟨A,B⟩:=Zau e;obtain⟨_,C,D⟩:=a.popped A;exact⟨C,D,B⟩
theorem qey{l:List qa}(D:zh l)(E:∀c∈l,qf c=0){h:List Zc}(A:Qx (Za l) h=0)(v:Val):(zl h v).has.length<=4194304:=by
 unfold zl;rw[List.getD_eq_getElem?_getD];cases G:h[v.n.toNat-1]? with
 |none=>exact Nat.zero_le _
 |some x =>
  have B:=Xe G;have F:=qaU (Zj A x B);obtain⟨_,_,t,C⟩:=QI (Zj A x B);rw[Option.getD_some,<-F];unfold zM;rw[C.of];cases t with
  |i=>exact Nat.zero_le _
  |j=>exact Nat.zero_le _
  |ar e =>
   have:=zdp (Zj A x B) C;simp;omega
  |cl c =>
   rw[Zbn];exact Qbu D E C.good
theorem ZcN{l:List qa}(H:zh l)(I:∀c∈l,qf c=0){h:List Zc}(D:Qx (Za l) h=0){E B F G:List Str}{S:List Val}(J:Qk (Za l) h S B)(A:((ZM B).bind fun p=>if Qaq p.1=true then zr E p.2 kI else none)=some (F,G)):
 F=E/\Zr l h G (if (Qj S).n<=0 then .fault else .ok h (S.dropLast++[⟨1,(zl h (Qj S)).has.length⟩])):=by
 cases C:ZM B with
 |none=>rw[C]at A;cases A
 |some p =>
  obtain⟨k,K⟩:=p;rw[C,Option.bind_some]at A;dsimp only at A;split at A
  ·obtain⟨rfl,rfl⟩:=QQ A;obtain⟨L,_,_⟩:=J.popR C;refine⟨rfl,?_⟩;split
   ·exact Zr.fault
   ·have:=qey H I D (Qj S);exact Zr.same D (L.snoc (ZaE (by omega) (by omega)))
  ·cases A
theorem zbr{l:List qa}(L:zh l){h:List Zc}(J:Qx (Za l) h=0){v:Val}{k t:Str}(M:qo (lst t)=true)(B:zy (Za l) h v k)(E:0<v.n)(A:Za6 (Za l) k t=true):
 ∃x a,h[v.n.toNat-1]? = some x/\zl h v=x/\x∈h/\Qy x.type=.ar a/\zN (Za l) a=true/\ZA (Za l) a (Qy t)=true/\(zM (Za l) x).length=x.has.length/\∀s∈zM (Za l) x,Qy s=a:=by
 unfold Za6 at A;unfold zy at B;cases G:qr k with
 |n =>
  rw[G]at B;have B:v=⟨3,0⟩:=B;rw[B]at E;exact absurd E (by decide)
 |t=>rw[G]at A;cases A
 |ty y =>
  rw[G]at A B;cases y with
  |i=>cases A
  |j=>cases A
  |cl c=>cases A
  |ar e =>
   dsimp only at A B;rw[qby M,Bool.and_eq_true]at A;have N:ZA (Za l) e (Qy t)=true:=A.1;obtain⟨_,x,O,P,H,C⟩:=Zam B rfl E;have F:=qaU (Zj J x H);obtain⟨_,_,z,D⟩:=QI (Zj J x H);rw[D.of]at C;cases z with
   |i=>cases C
   |j=>cases C
   |cl c=>cases C
   |ar a =>
    have C:ZA (Za l) a e=true:=C;refine⟨x,a,O,P,H,D.of,D.good,QaL L D.good C N,F,fun s I=>?_⟩;unfold zM at I;rw[D.of]at I;rw[List.eq_of_mem_replicate I];exact QR rfl
theorem zbK{cs:List qa}{t:Str}{S C:List Str}(h:ZN cs t S=some C):∃A k,Qf cs [kI] S=some A/\ZM A=some (k,C)/\Za6 cs k t=true:=by
 unfold ZN at h;split at h
 ·cases h
 ·cases D:Qf cs [kI] S with
  |none=>rw[D]at h;cases h
  |some A =>
   rw[D,Option.bind_some]at h;cases B:ZM A with
   |none=>rw[B]at h;cases h
   |some p =>
    obtain⟨k,F⟩:=p;rw[B,Option.bind_some]at h;dsimp only at h;split at h
    ·rename_i E;injection h with h
     subst h;exact⟨A,k,rfl,B,E⟩
    ·cases h
theorem zdg{l:List qa}(C:zh l){h:List Zc}(B:Qx (Za l) h=0){t:Str}(G:qo (lst t)=true){H D I J:List Str}{S:List Val}(P:Qk (Za l) h S D)(A:((ZN (Za l) t D).bind fun M=>zr H M t)=some (I,J)):
 I=H/\Zr l h J (if (Qj S.dropLast).n<=0 then .fault else if (Qj S).n<0\/((zl h (Qj S.dropLast)).has.length:Int)<=(Qj S).n then .fault else .ok h (S.dropLast.dropLast++[(zl h (Qj S.dropLast)).has.getD (Qj S).n.toNat v0])):=by
 cases F:ZN (Za l) t D with
 |none=>rw[F]at A;cases A
 |some K =>
  rw[F,Option.bind_some]at A;obtain⟨rfl,rfl⟩:=QQ A;obtain⟨M,k,R,T,U⟩:=zbK F;obtain⟨V,_⟩:=P.take1 C (Zj B) R;obtain⟨X,Y,_⟩:=V.popR T;refine⟨rfl,?_⟩;split
  ·exact Zr.fault
  ·rename_i p;split
   ·exact Zr.fault
   ·rename_i g;obtain⟨x,a,i,Z,b,j,m,c,o,d⟩:=zbr C B G Y (by omega) U;rw[Z]at g ⊢;refine Zr.same B (X.snoc ?_);have E:(Qj S).n.toNat<x.has.length:=(by omega);obtain⟨v,N⟩:∃v,x.has[(Qj S).n.toNat]? = some v:=⟨_,Xn E⟩;obtain⟨s,O⟩:∃s,(zM (Za l) x)[(Qj S).n.toNat]? = some s:=⟨_,Xn (by omega)⟩;rw[List.getD_eq_getElem?_getD,N];obtain⟨_,e,f⟩:=Z2 B;have L:=qQ.1 (List.all_eq_true.1 f x b) _ v s N O;rw[d s (Xe O)]at L;exact QbW G (zct C e L c)
theorem qcN{l:List qa}(C:zh l){h:List Zc}(B:Qx (Za l) h=0){t:Str}(P:qo (lst t)=true){I D J L:List Str}{S:List Val}(R:Qk (Za l) h S D)(A:knK (Za l) t ((Qf (Za l) [t] D).bind fun M=>(ZN (Za l) t M).map fun O=>(I,O))=some (J,L)):
 J=I/\Zr l h L (if (Qj S.dropLast.dropLast).n<=0 then .fault else if (Qj S.dropLast).n<0\/((zl h (Qj S.dropLast.dropLast)).has.length:Int)<=(Qj S.dropLast).n then .fault
  else if zm (Za l) h (Qj S) (zde (Qy (zl h (Qj S.dropLast.dropLast)).type)) then .ok (Qaz h (Qj S.dropLast.dropLast) (Qj S.dropLast).n.toNat (Qj S)) S.dropLast.dropLast.dropLast else .fault):=by
 obtain⟨_,A⟩:=Zae A;cases E:Qf (Za l) [t] D with
 |none=>rw[E]at A;cases A
 |some j =>
  rw[E,Option.bind_some]at A;cases F:ZN (Za l) t j with
  |none=>rw[F]at A;cases A
  |some K =>
   rw[F]at A;injection A with A
   injection A with G H
   subst G H;obtain⟨M,k,T,U,V⟩:=zbK F;obtain⟨X,_⟩:=R.take1 C (Zj B) E;obtain⟨Y,_⟩:=X.take1 C (Zj B) T;obtain⟨Z,b,_⟩:=Y.popR U;refine⟨rfl,?_⟩;split
   ·exact Zr.fault
   ·rename_i r;split
    ·exact Zr.fault
    ·split
     ·rename_i N;obtain⟨x,a,c,d,m,f,o,p,q,g⟩:=zbr C B P b (by omega) V;rw[d,f]at N;intro v O e;injection e with G H
      subst G H;refine⟨ZdC B c fun s i=>?_,Ext.set _ _ _ _,Z.ext (Ext.set _ _ _ _)⟩;rw[g s (Xe i)];exact N
     ·exact Zr.fault
theorem Qea{cs:List qa}{h:List Zc}{v:Val}{k:Str}(A:zy cs h v k)(B:ZaS (qr k)=true):v.kind=3/\0<=v.n/\(0<v.n->∃x,h[v.n.toNat-1]? = some x/\zl h v=x/\x∈h/\∃y,qr k=.ty y/\ZA cs (Qy x.type) y=true):=by
 unfold zy at A;cases D:qr k with
 |n =>
  rw[D]at A;have A:v=⟨3,0⟩:=A;subst A;exact⟨rfl,by decide,fun h=>absurd h (by decide)⟩
 |t=>rw[D]at B;cases B
 |ty y =>
  rw[D]at A B;have B:qm y=true:=by simpa[ZaS,zz] using B
  dsimp only at A;have C:=A;unfold zm at A;split at A
  ·rw[Bool.and_eq_true]at A;have:=Xm A.1;subst this;cases B
  ·split at A
   ·have:=Xm A;subst this;cases B
   ·split at A
    ·rename_i I;rw[Bool.and_eq_true,Bool.and_eq_true,Bool.and_eq_true]at A;refine⟨I,Xm A.1.2.1,fun J=>?_⟩;obtain⟨_,x,E,F,G,H⟩:=Zam C B J;exact⟨x,E,F,G,y,rfl,H⟩
    ·cases A
theorem Qey{cs:List qa}{h:List Zc}{v:Val}{t:Str}(C:qo (lst t)=true)(A:ZO (lst t)=false)(D:v.kind=3)(E:v.n=0):zm cs h v (Qy t)=true:=by
 obtain⟨y,B⟩:=qX C;rw[B.of];have F:qm y=true:=by
  rw[<-B.text,za4]at A;simpa using A
 unfold zm;rw[if_neg (by omega),if_neg (by omega),if_pos D,F,E];simp
theorem QdY{cs:List qa}{h:List Zc}{v:Val}{t:Str}{x:Zc}(F:qo (lst t)=true)(A:ZO (lst t)=false)(G:v.kind=3)(I:0<v.n)(B:h[v.n.toNat-1]? = some x)(C:ZA cs (Qy x.type) (Qy t)=true):zm cs h v (Qy t)=true:=by
 obtain⟨y,E⟩:=qX F;rw[E.of]at C ⊢;have H:qm y=true:=by
  rw[<-E.text,za4]at A;simpa using A
 have D:=(List.getElem?_eq_some_iff.1 B).1;unfold zm;rw[if_neg (by omega),if_neg (by omega),if_pos G,H,B];dsimp only;rw[C];simp;omega
theorem ZdD{l:List qa}{h:List Zc}(E:Qx (Za l) h=0){t:Str}(B:qo (lst t)=true)(F:ZO (lst t)=false){G D H I:List Str}{S:List Val}(J:Qk (Za l) h S D)(A:knK (Za l) t ((ZM D).bind fun p=>zr G p.2 t)=some (H,I)):
 H=G/\Zr l h I (if (Qj S).n=0 then .ok h S else if (Qj S).n<0 then .fault else if ZA (Za l) (Qy (zl h (Qj S)).type) (Qy t) then .ok h S else .fault):=by
 obtain⟨_,A⟩:=Zae A;cases C:ZM D with
 |none=>rw[C]at A;cases A
 |some p =>
  obtain⟨k,K⟩:=p;rw[C,Option.bind_some]at A;obtain⟨rfl,rfl⟩:=QQ A;obtain⟨M,R,T⟩:=J.popR C;obtain⟨N,Y,U⟩:=Qea R T;have L:S=S.dropLast++[Qj S]:=(J.popped (Zau C).1).1;refine⟨rfl,?_⟩;split
  ·rename_i O;refine Zr.same E ?_;rw[L];exact M.snoc (QbW B (Qey B F N O))
  ·split
   ·exact Zr.fault
   ·split
    ·rename_i O a P;obtain⟨x,V,X,Z,_⟩:=U (by omega);rw[X]at P;refine Zr.same E ?_;rw[L];exact M.snoc (QbW B (QdY B F N (by omega) V P))
    ·exact Zr.fault
theorem zez{l:List qa}{h:List Zc}(G:Qx (Za l) h=0){t:Str}{D B E F:List Str}{S:List Val}(H:Qk (Za l) h S B)(A:knK (Za l) t ((ZM B).bind fun p=>zr D p.2 kI)=some (E,F))(c:Prop)[Decidable c]:
 E=D/\Zr l h F (.ok h (S.dropLast++[⟨1,if c then 1 else 0⟩])):=by
 obtain⟨_,A⟩:=Zae A;cases C:ZM B with
 |none=>rw[C]at A;cases A
 |some p =>
  obtain⟨k,K⟩:=p;rw[C,Option.bind_some]at A;obtain⟨rfl,rfl⟩:=QQ A;obtain⟨I,_,_⟩:=H.popR C;refine⟨rfl,Zr.same G (I.snoc ?_)⟩;split
  ·exact ZaE (by decide) (by decide)
  ·exact ZaE (by decide) (by decide)
theorem Zez{l:List qa}(G:zh l)(I:∀c∈l,qf c=0){h:List Zc}(D:Qx (Za l) h=0){x:Ins}(N:Qo x=0)(J:15<=x.op)(L:x.op<=23){M:Str}{O P R T:List Str}{S:List Val}(E:Qk (Za l) h S P)(B:ZH (Za l) M x O P=some (R,T)):
 R=O/\Zr l h T (qM (Za l) h x S):=by
 obtain⟨_,_,_,C⟩:=qaP N;clear N;obtain⟨F,a,b,A,cls,U⟩:=x;dsimp only at J L;have H:F=15\/F=16\/F=17\/F=18\/F=19\/F=20\/F=21\/F=22\/F=23:=by omega
 rcases H with rfl|rfl|rfl|rfl|rfl|rfl|rfl|rfl|rfl
 ·exact QdX G I D E B
 ·exact zdY G I D E B
 ·exact qdY G I D E B
 ·have C:(qo (lst A)&&qo (91::lst A))=true:=C;rw[Bool.and_eq_true]at C;exact Qdf G I D C.2 E B
 ·exact ZcN G I D E B
 ·have C:(qo (lst A)&&qo (91::lst A))=true:=C;rw[Bool.and_eq_true]at C;exact zdg G D C.1 E B
 ·have C:(qo (lst A)&&qo (91::lst A))=true:=C;rw[Bool.and_eq_true]at C;exact qcN G D C.1 E B
 ·have C:(qo (lst A)&&!ZO (lst A))=true:=C;rw[Bool.and_eq_true]at C;exact ZdD D C.1 (by simpa using C.2) E B
 ·exact zez D E B _
def ZdW(l:List qa)(g0:Str)(v:Val)(t:Str):Prop :=
 (t=⟨#[]⟩/\(((g0.toList==[86])=true/\v=v0)\/((g0.toList==[86])=false/\∃h,zy (Za l) h v g0)))\/(v=v0/\(Qb (Za l) t).isSome=true/\Q4 (zj (Za l) t) Ql=true)
def qce(l:List qa)(g0:Str):Out->Prop
 |.on k=>zaT l g0 k
 |.ends v t=>ZdW l g0 v t
 |.full=>True
theorem zaA.ext{l:List qa}{h B:List Zc}{C:Str}(H:Ext h B):∀{r:List Cal},zaA l h C r->zaA l B C r
 |[],_=>trivial
 |_::_,⟨g,⟨A,f,D,E,F⟩,b⟩=>⟨g,⟨A,f,D,E,F.ext H⟩,b.ext H⟩
theorem zcZ{l:List qa}(F:zh l){h:List Zc}(G:Qx (Za l) h=0){E cls:Str}{v:Val}{x:Zc}(B:v.kind=3)(H:0<v.n)(I:h[v.n.toNat-1]? = some x)(J:Qy x.type=.cl cls)(L:(Qb (Za l) cls).isSome=true)(M:Q4 (zj (Za l) cls) Ql=true){A:List Cal}(C:A.length<=20)(D:zaA l h E A):qce l E (QE (Za l) h cls v A):=by
 rcases QcD F G B H I J C D with⟨k,e,B⟩|e
 ·rw[e];exact B
 ·rw[e];exact Or.inr ⟨rfl,L,M⟩
theorem QaN(l:List qa):(Qb (Za l) Ql).isSome=true:=rfl
theorem za9{cs:List qa}{A Zb:Str}{x:Ins}{L S:List Str}(h:¬(15<=x.op/\x.op<=25)):qac cs A Zb x L S=qD cs Zb x L S:=by
 unfold qac;have:∀L S,ZH cs A x L S=some (L,S):=fun L S=>by
  unfold ZH;repeat rw[if_neg (by omega)]
 cases qD cs Zb x L S with
 |none=>rfl
 |some p=>exact this p.1 p.2
theorem ZbV{cs:List qa}{A Zb:Str}{x:Ins}{L S:List Str}(h:15<=x.op/\x.op<=25):qac cs A Zb x L S=ZH cs A x L S:=by
 have:qD cs Zb x L S=some (L,S):=by
  unfold qD;repeat rw[if_neg (by omega)]
 unfold qac;rw[this];rfl
theorem qdD{l:List qa}(A:zh l):Q4 (zj (Za l) Ql) Ql=true:=qA.2 (qaS A (QaN l) (Zab Ql))
theorem QeX(cs:List qa)(c:Str):Qy (Q0 cs c).type=.cl c:=by
 show Qy (QaZ c)=_
 rw[<-zcY];exact zec c
theorem qa9{l:List qa}(D:zh l)(F:∀c∈l,qf c=0){h:List Zc}(G:Qx (Za l) h=0){E:Str}{A:List Cal}(B:A.length<=20)(C:zaA l h E A):qce l E (qS (Za l) h A):=by
 unfold qS;split
 ·trivial
 ·rename_i H;refine zcZ D (ZcE F G (by omega) (QaN l) rfl) rfl (by show(0:Int)<(h.length:Int)+1;omega) (x:=Q0 (Za l) Ql) ?_ (QeX _ _) (QaN l) (qdD D) B (C.ext (Ext.more h _));show(h++[Q0 (Za l) Ql])[((h.length:Int)+1).toNat-1]? = _
  rw[show((h.length:Int)+1).toNat-1=h.length by omega];simp
theorem qez{l:List qa}(J:zh l){h:List Zc}(G:Qx (Za l) h=0){H:Str}{v:Val}(D:zy (Za l) h v (Qc Ql))(I:0<v.n){A:List Cal}(E:A.length<=20)(F:zaA l h H A):qce l H (zb8 (Za l) h v A):=by
 unfold zy at D;rw[Qcd]at D;obtain⟨M,x,N,O,P,B⟩:=Zam D rfl I;obtain⟨_,_,t,C⟩:=QI (Zj G x P);rw[C.of]at B;cases t with
 |i=>cases B
 |j=>cases B
 |ar e =>
  have:Ql=Zg:=Xm B;exact absurd this (by decide)
 |cl c =>
  unfold zb8;have L:zam (zl h v).type=c:=by
   unfold zam;rw[O,C.of];exact ByteArray.ext (Array.ext' rfl)
  rw[L];exact zcZ J G M I N C.of C.good B E F
theorem Qez{x:Ins}(A:x.op=24\/x.op=25)(pc:Nat):pc+1∈QS x pc:=by
 have B:Zac x.op=false:=by rcases A with h|h<;>rw[h]<;>rfl
 unfold QS;rw[B];simp
theorem QdD{l:List qa}(J:zh l){h:List Zc}(L:Qx (Za l) h=0){M F:Str}{v:Val}{r:List Cal}(N:r.length+1<=20)(E:zaE l h M r F)(I:((F.toList==[86])=true/\v=v0)\/((F.toList==[86])=false/\v.kind≠0/\zy (Za l) h v F)):
 qce l M (ZbL h v r):=by
 cases r with
 |nil =>
  have E:F=M:=E;subst E;refine Or.inl ⟨rfl,?_⟩;rcases I with D|⟨D,_,O⟩
  ·exact Or.inl D
  ·exact Or.inr ⟨D,h,O⟩
 |cons c r =>
  obtain⟨g,⟨A,f,x,args,S,D,X,O,Y,j,T,U,k,Z⟩,E⟩:=E;obtain⟨a,m,C,b,⟨n,o,B,P⟩,_⟩:=D.at X;rw[O]at C;injection C with C
  subst C;obtain⟨p,V,H⟩:=P (c.pc+1) (Qez Y c.pc);have G:=qbf J b a B;rw[Z]at B;refine⟨L,by simp at N ⊢;omega,_,r,g,rfl,?_,E⟩;rcases I with⟨R,rfl⟩|⟨R,d,I⟩
  ·rw[Zck R]at B;injection B with B
   injection B with e i
   subst e i;refine zaW.go J (Zj L) D V H G T ?_;exact U
  ·unfold Qa2 ZdG at B;rw[if_neg (by rw[R];decide)]at B;split at B
   ·obtain⟨rfl,rfl⟩:=QQ B;refine zaW.go J (Zj L) D V H G T ?_;show Qk _ _ (if v.kind=0 then c.S else _) _
    rw[if_neg d];exact U.snoc I
   ·cases B
theorem zeA{cs:List qa}{h:List Zc}{v:Val}{g:Str}(B:qJ g=true)(C:(g.toList==[86])=false)(A:zy cs h v g):v.kind≠0:=by
 unfold qJ at B;rw[C,Bool.false_or]at B;intro D;unfold zy at A;rw[qby B]at A;have A:zm cs h v (Qy g)=true:=A;unfold zm at A;rw[if_neg (by omega),if_neg (by omega),if_neg (by omega)]at A;cases A
theorem zbW{s:Str}{args:List Str}{g:Str}(h:qi s=some (args,g)):qJ g=true:=by
 unfold qi Zw at h;split at h
 ·rename_i A;injection h with h
  rw[Prod.mk.injEq]at h;rw[<-h.2];exact A.2.2
 ·cases h
theorem qaT.given{l:List qa}{c:Cal}{g:Str}{A:Asg Frm}(H:qaT l c g A):qJ g=true:=by
 obtain⟨args,B,C,_⟩:=H.good;exact zbW C.type
theorem zdZ{l:List qa}(D:zh l){h:List Zc}(E:zah (Za l) h){Zb:Str}{F B G H:List Str}{S:List Val}(I:Qk (Za l) h S B)(A:(if (Zb.toList==[86])=true then none else (Qf (Za l) [Zb] B).map fun L=>(F,L))=some (G,H)):
 (Zb.toList==[86])=false/\zy (Za l) h (Qj S) Zb:=by
 split at A
 ·cases A
 ·rename_i J;cases C:Qf (Za l) [Zb] B with
  |none=>rw[C]at A;cases A
  |some K=>exact⟨by simpa using J,(I.take1 D E C).2⟩
theorem zbD{cs:List qa}{B c n t:Str}{A:Bool}(h:ZJ cs B c n t A=0):(Qb cs c).isSome=true/\∃d m,ZL cs c n t=some (d,m)/\m.static=A/\(m.priv=true->d=B):=by
 unfold ZJ at h;cases C:Qb cs c with
 |none=>rw[C]at h;cases h
 |some k =>
  rw[C,if_neg (by simp)]at h;refine⟨rfl,?_⟩;cases D:ZL cs c n t with
  |none=>rw[D]at h;cases h
  |some p =>
   obtain⟨d,m⟩:=p;rw[D]at h;dsimp only at h;split at h
   ·cases h
   ·split at h
    ·cases h
    ·rename_i F;split at h
     ·cases h
     ·rename_i E;refine⟨d,m,rfl,Decidable.not_not.1 F,fun G=>?_⟩;rw[G,Bool.true_and]at E;simpa using E
theorem qcW{cs:List qa}{D cls C B:Str}{A:Bool}{L S I J:List Str}(h:Zap cs D cls C B A L S=some (I,J)):
 ZJ cs D cls C B A=0/\∃args g E F,qi B=some (args,g)/\Qf cs args.reverse S=some E/\Qbz cs A cls E=some F/\Qa2 cs L F g=some (I,J):=by
 unfold Zap at h;split at h
 ·cases h
 ·rename_i N;refine⟨Decidable.not_not.1 N,?_⟩;cases M:qi B with
  |none=>rw[M]at h;cases h
  |some p =>
   obtain⟨args,g⟩:=p;rw[M]at h;dsimp only at h;cases G:Qf cs args.reverse S with
   |none=>rw[G]at h;cases h
   |some E =>
    rw[G,Option.bind_some]at h;cases H:Qbz cs A cls E with
    |none=>rw[H]at h;cases h
    |some F =>
     rw[H,Option.bind_some]at h;exact⟨args,g,E,F,rfl,G,H,h⟩
theorem Qk.rev{l:List qa}(A:zh l){h:List Zc}(B:zah (Za l) h){args K K':List Str}{S:List Val}(a:Qk (Za l) h S K)(e:Qf (Za l) args.reverse K=some K'):
 args.length<=S.length/\Qk (Za l) h (S.take (S.length-args.length)) K'/\Qk (Za l) h (S.drop (S.length-args.length)) args:=by
 have:=a.take A B e;rwa [List.length_reverse,List.reverse_reverse]at this
theorem qb8{l:List qa}(D:zh l)(E:∀c∈l,qf c=0)(A:Zao l){h:List Zc}(B:Qx (Za l) h=0){C:Str}{d:Str}{m:zg}(F:(Qb (Za l) d).isSome=true)(G:m∈(Ze (Za l) d).methods)(H:m.abs=false){args:List Str}{g:Str}(I:qi m.type=some (args,g)){given:List Val}(J:Qk (Za l) h given (qaG d m.static++args)){r:List Cal}(L:zaE l h C r g):qce l C (ZaJ h d m given r):=by
 unfold ZaJ;split
 ·trivial
 ·rename_i M;exact⟨B,by simp;omega,_,r,g,rfl,qdC D E A B F G H I J,L⟩
theorem qaV{l:List qa}(A:zh l){c d:Str}(B:(Qb (Za l) c).isSome=true)(C:d∈zj (Za l) c):(Qb (Za l) d).isSome=true:=(qp A.closed B).1.known _ C
theorem ZaT{l:List qa}(B:∀c∈l,qf c=0){d:Str}{m:zg}(C:(Qb (Za l) d).isSome=true)(D:m∈(Ze (Za l) d).methods)(h:m.static=true\/m.priv=true):m.abs=false:=by
 obtain⟨c,F,_,A⟩:=Q2 C D;cases E:m.abs with
 |false=>rfl
 |true =>
  obtain⟨G,H⟩:=(ZbJ (B c F) A).2.2.2 E;rcases h with h|h
  ·rw[G]at h;cases h
  ·rw[H]at h;cases h
theorem ZeA{l:List qa}(E:zh l)(Y:∀c∈l,qf c=0)(I:Zao l){h:List Zc}(V:Qx (Za l) h=0){g0 g:Str}{c:Cal}{r:List Cal}{A:Asg Frm}{f:Frm}(few:r.length+1<=20)(H:qaT l c g A)(hA:A c.pc=some f)(hL:Qk (Za l) h c.L f.locals)(hS:Qk (Za l) h c.S f.stack)(hr:zaE l h g0 r g){x:Ins}(hx:c.m.code[c.pc]? = some x)(O:x.op=24\/x.op=25):qce l g0 (ZaN (Za l) h c x r):=by
 obtain⟨hz,x',U,hi,⟨L',S',b,_⟩,_⟩:=H.at hA;rw[hx]at U;injection U with U
 subst U;have F:zaA l h g0 (c::r):=⟨g,⟨A,f,H,hA,hL⟩,hr⟩;have hh':qac (Za l) c.cls g x f.locals f.stack=Zap (Za l) c.cls x.cls x.name x.type (decide (x.op=25)) f.locals f.stack:=by
  rw[ZbV (by omega)];unfold ZH;rcases O with h|h<;>rw[h]<;>rfl
 have X:=b;rw[hh']at b;obtain⟨hcf,args,g',S1,S2,q,h1,C,h3⟩:=qcW b;obtain⟨hkc,d,m,hmc,N,hmp⟩:=zbD hcf;obtain⟨_,_,_,hkS⟩:=Qt hz;have t:ql (Za l) S1:=Qh h1 hkS;obtain⟨k1,k2,k3⟩:=hS.rev E (Zj V) h1;obtain⟨d1,d2,d3,d4⟩:=zaO E hkc hmc;have P:=qaV E hkc d1;have R:(ZL (Za l) x.cls x.name x.type).getD (⟨#[]⟩,qN)=(d,m):=by rw[hmc];rfl
 unfold ZaN;rw[q,R];dsimp only[Option.map_some,Option.getD_some];rcases O with O|O
 ·
  have Z:decide (x.op=25)=false:=by rw[O];rfl
  rw[Z]at C N;have C:Qf (Za l) [Qc x.cls] S1=some S2:=C;have hk2:ql (Za l) S2:=Qh C t;obtain⟨g1,g2⟩:=k2.take1 E (Zj V) C;rw[if_pos O,if_pos O];generalize hT:c.S.take (c.S.length-args.length)=T at *;have hTl:T.length=c.S.length-args.length:=by rw[<-hT,List.length_take];omega
  have v:T=T.dropLast++[Qj T]:=by
   unfold Qf at C;split at C
   ·cases C
   ·cases hp:zB S1 with
    |none=>rw[hp]at C;cases C
    |some p=>exact(k2.popped (k:=p.1) (K':=p.2) hp).1
  have hT1:0<T.length:=by rw[v];simp
  have hlen:args.length+1<=c.S.length:=by omega
  have z:c.S=T.dropLast++Qj T::c.S.drop (c.S.length-args.length):=by
   conv=>lhs;rw[<-List.take_append_drop (c.S.length-args.length) c.S,hT,v]
   simp
  have aA:T.dropLast.length=c.S.length-(args.length+1):=by rw[List.length_dropLast,hTl];omega
  have hgv:c.S.drop (c.S.length-(args.length+1))=Qj T::c.S.drop (c.S.length-args.length):=by
   rw[<-aA];conv=>lhs;rw[z]
   rw[List.drop_left]
  have htk:c.S.take (c.S.length-(args.length+1))=T.dropLast:=by
   rw[<-aA];conv=>lhs;rw[z]
   rw[List.take_left]
  rw[hgv,htk,List.headD_cons];have B:Zb8 l h { c with S:=T.dropLast } g g':=⟨A,f,x,args,S2,⟨H.known,H.mem,H.abs,H.good⟩,hA,hx,Or.inl O,q,hL,g1,hk2,by rw[X,h3]⟩;split
  ·exact qa9 E Y V (by simp;omega) F
  ·rename_i hn;unfold zy at g2;rw[Qcd]at g2;obtain⟨hv3,y,y1,y2,y3,n⟩:=Zam g2 rfl (by omega);obtain⟨_,_,ty,D⟩:=QI (Zj V y y3);rw[D.of]at n;have J:∀s,(∀c',ty=.cl c'->s∈zj (Za l) c')->(∀e,ty=.ar e->s=Zg)->zy (Za l) h (Qj T) (Qc s):=fun s p1 p2=>by
    unfold zy;rw[Qcd];show zm (Za l) h (Qj T) (.cl s)=true
    have hlt:=(List.getElem?_eq_some_iff.1 y1).1;unfold zm;rw[if_neg (by omega),if_neg (by omega),if_pos hv3,y1];dsimp only;have:ZA (Za l) (Qy y.type) (.cl s)=true:=by
     rw[D.of];cases ty with
     |i=>cases n
     |j=>cases n
     |ar e=>exact Xj (p2 e rfl)
     |cl c'=>exact qA.2 (p1 c' rfl)
    rw[this];simp[qm];omega
   split
   ·rename_i hpv;have a:=ZaT Y P d2 (Or.inr hpv);have M:qi m.type=some (args,g'):=(by rw[show m.type=x.type from d4];exact q);refine qb8 E Y I V P d2 a M ?_ ⟨g,B,hr⟩;rw[N];refine⟨J d (fun c' e=>?_) (fun e he=>?_),k3⟩
    ·subst e;exact Qbo E D.good (qA.1 n) d1
    ·subst he;have:x.cls=Zg:=Xm n;rw[this]at d1;exact qbe E d1
   ·rw[y2];split
    ·rename_i G;cases aC:qY (Za l) (ZY y.type) x.name x.type with
     |none=>exact trivial
     |some p =>
      rw[aC]at G;have aB:(Qb (Za l) (ZY y.type)).isSome=true:=by
       unfold ZY;rw[D.of];cases ty with
       |i=>cases n
       |j=>cases n
       |ar e=>exact zax l
       |cl c'=>exact D.good
      obtain⟨o,e2,e3,e4⟩:=qbV E aB aC;have hkp:=qaV E aB o;obtain⟨pc,pm⟩:=p;have G:(!pm.static&&!pm.priv&&!pm.abs)=true:=G;simp only[Bool.and_eq_true,Bool.not_eq_true']at G;have M:qi pm.type=some (args,g'):=(by rw[show pm.type=x.type from e4];exact q);refine qb8 E Y I V hkp e2 G.2 M ?_ ⟨g,B,hr⟩;rw[G.1.1];refine⟨J pc (fun c' e=>?_) (fun e he=>?_),k3⟩
      ·subst e;unfold ZY at o;rw[D.of]at o;exact o
      ·subst he;unfold ZY at o;rw[D.of]at o;exact qbe E o
    ·exact qa9 E Y V (by simp;omega) F
 ·
  have Z:decide (x.op=25)=true:=by rw[O];rfl
  rw[Z]at C N;have C:some S1=some S2:=C;injection C with C
  subst C;rw[if_neg (by omega),if_neg (by omega),Nat.add_zero];have B:Zb8 l h { c with S:=c.S.take (c.S.length-args.length) } g g':=⟨A,f,x,args,S1,⟨H.known,H.mem,H.abs,H.good⟩,hA,hx,Or.inr O,q,hL,k2,t,by rw[X,h3]⟩;have a:=ZaT Y P d2 (Or.inl N);have M:qi m.type=some (args,g'):=by rw[show m.type=x.type from d4];exact q
  refine qb8 E Y I V P d2 a M ?_ ⟨g,B,hr⟩;rw[N];exact k3
theorem Qeb{l:List qa}(D:zh l)(R:∀c∈l,qf c=0)(T:Zao l){a:Str}{k:zdW}(hk:zaT l a k):qce l a (QbD (Za l) k):=by
 obtain⟨h,m⟩:=k;obtain⟨F,E,c,r,g,e,⟨A,f,H,n,X,O⟩,P⟩:=hk;dsimp only at F E e X O P;subst e;have C:zaA l h a (c::r):=⟨g,⟨A,f,H,n,X⟩,P⟩;obtain⟨hz,x,y,b,⟨o,q,B,s⟩,_⟩:=H.at n;obtain⟨i1,i2,_,_⟩:=qaP b;have d:=qbf D b hz B;have E:r.length+1<=20:=by simpa using E
 unfold QbD;dsimp only;rw[y];dsimp only;split
 ·rename_i M;exact ZeA D R T F E H n X O P y M
 ·rename_i hno;split
  ·rename_i M;rw[za9 (by omega)]at B;have:(g.toList==[86])=true:=by
    unfold qD at B;rw[M]at B;cases hg:(g.toList==[86]) with
    |true=>rfl
    |false=>rw[hg]at B;cases B
   exact QdD D F E P (Or.inl ⟨this,rfl⟩)
  ·split
   ·rename_i M;rw[za9 (by omega)]at B;have B:(if (g.toList==[86])=true then none else (Qf (Za l) [g] f.stack).map fun G=>(f.locals,G))=some (o,q):=by
     unfold qD at B;rw[M]at B;exact B
    obtain⟨z,q2⟩:=zdZ D (Zj F) O B;exact QdD D F E P (Or.inr ⟨z,zeA H.given z q2,q2⟩)
   ·split
    ·rename_i M;rw[za9 (by omega)]at B;have B:((Qf (Za l) [Qc Zal] f.stack).map fun G=>(f.locals,G))=some (o,q):=by
      unfold qD at B;rw[M]at B;exact B
     cases N:Qf (Za l) [Qc Zal] f.stack with
     |none=>rw[N]at B;cases B
     |some K =>
      have hv:=(O.take1 D (Zj F) N).2;split
      ·exact qa9 D R F (by simp;omega) C
      ·exact qez D F hv (by omega) (by simp;omega) C
    ·have U:∀{pc:Nat} {I:List Zc} {L S:List Val},pc∈QS x c.pc->Qx (Za l) I=0->Ext h I->Qk (Za l) I L o->Qk (Za l) I S q->qce l a (.on ⟨I,{ c with pc:=pc,L:=L,S:=S }::r⟩):=fun {pc I L S} Y J Z p4 p5=>by
      obtain⟨f',t,v⟩:=s pc Y;exact⟨J,by simp;omega,_,r,g,rfl,zaW.go D (Zj J) H t v d p4 p5,P.ext Z⟩
     by_cases i:x.op<=14
     ·rw[za9 (by omega)]at B;have N:=qeX D (Zj F) b i X O B c.pc;cases j:Qam c.pc x c.L c.S with
      |none=>exact qa9 D R F (by simp;omega) C
      |some p =>
       obtain⟨pc,L1,G⟩:=p;obtain⟨Y,J,Z⟩:=N pc L1 G j;have V:qM (Za l) h x G=.ok h G:=by
        unfold qM;repeat rw[if_neg (by omega)]
       dsimp only;rw[V];exact U Y F (Ext.refl h) J Z
     ·rw[ZbV (by omega)]at B;obtain⟨e1,N⟩:=Zez D R F b (by omega) (by omega) O B;have j:Qam c.pc x c.L c.S=some (c.pc+1,c.L,c.S):=by
       unfold Qam;repeat rw[if_neg (by omega)]
      rw[j];dsimp only;cases V:qM (Za l) h x c.S with
      |fault=>exact qa9 D R F (by simp;omega) C
      |full=>exact trivial
      |ok I G =>
       obtain⟨Y,J,Z⟩:=N I G V;refine U ?_ Y J ?_ Z
       ·have V:Zac x.op=false:=by
         unfold Zac;simp;omega
        unfold QS;rw[V];simp
       ·rw[e1];exact X.ext J
end Go.Proofs.YtmclocdhcblbiaaGreatDoor
