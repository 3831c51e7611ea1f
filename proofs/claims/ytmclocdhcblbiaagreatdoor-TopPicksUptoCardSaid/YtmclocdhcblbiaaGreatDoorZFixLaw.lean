/- Lemmas; conditions: as each states. -/
import Derived.Test.YtmclocdhcblbiaaGreatDoorZTypeLaw
set_option maxHeartbeats 4000000
namespace Go.Proofs.YtmclocdhcblbiaaGreatDoor
structure Zp (P:Type) where
 n:Nat
 top:Nat
 start:P
 ok:P->Prop
 le:P->P->Prop
 fit:P->P->Bool
 join:P->P->P
 edges:Nat->P->Option (List (Nat×P))
 rank:P->Nat
structure Zp.Good {P:Type} (W:Zp P):Prop where
 pos:0<W.n
 sok:W.ok W.start
 refl:∀a,W.ok a->W.le a a
 trans:∀a b c,W.ok a->W.ok b->W.ok c->W.le a b->W.le b c->W.le a c
 anti:∀a b,W.ok a->W.ok b->W.le a b->W.le b a->a=b
 up:∀a b,W.ok a->W.ok b->W.fit a b=true->W.ok (W.join a b)/\W.le a (W.join a b)/\W.le b (W.join a b)
 lub:∀a b z,W.ok a->W.ok b->W.ok z->W.le a z->W.le b z->W.fit a b=true/\W.le (W.join a b) z
 mono:∀i a b lb,i<W.n->W.ok a->W.ok b->W.le a b->W.edges i b=some lb->∃la,W.edges i a=some la/\∀p∈la,∃q∈lb,p.1=q.1/\W.le p.2 q.2
 out:∀i a l,i<W.n->W.ok a->W.edges i a=some l->∀p∈l,p.1<W.n/\W.ok p.2
 fall:∀a b,W.ok a->W.ok b->W.le a b->a≠b->W.rank b<W.rank a
 cap:∀a,W.ok a->W.rank a<=W.top
abbrev Asg(P:Type):=Nat->Option P
section
variable {P:Type} [DecidableEq P]
def Asg.put(F:Asg P)(i:Nat)(f:P):Asg P:=fun k=>if k=i then some f else F k
def Zp.Sat(W:Zp P)(F:Asg P)(l:List (Nat×P)):Prop:=∀p∈l,∃h,F p.1=some h/\W.le p.2 h
def Zp.Oks(W:Zp P)(F:Asg P):Prop:=∀i f,F i=some f->i<W.n/\W.ok f
def Zp.Holds(W:Zp P)(F:Asg P)(i:Nat)(f:P):Prop:=∃l,W.edges i f=some l/\W.Sat F l
def Zp.Begun(W:Zp P)(F:Asg P):Prop:=∃h,F 0=some h/\W.le W.start h
def Zp.Closed(W:Zp P)(F:Asg P):Prop:=W.Oks F/\(∀i f,F i=some f->W.Holds F i f)/\W.Begun F
def Zp.Under(W:Zp P)(F G:Asg P):Prop:=∀i f,F i=some f->∃g,G i=some g/\W.le f g
def Zp.Least(W:Zp P)(F:Asg P):Prop:=W.Closed F/\∀G,W.Closed G->W.Under F G
def Zp.meet(W:Zp P)(F:Asg P)(i:Nat)(f:P):Option (Asg P×Bool):=match F i with
 |none=>some (F.put i f,true)
 |some was=>if W.fit was f then (if W.join was f=was then some (F,false) else some (F.put i (W.join was f),true)) else none
def Zp.meetT(W:Zp P)(s:Asg P×List Nat)(p:Nat×P):Option (Asg P×List Nat):=(W.meet s.1 p.1 p.2).map fun r=>(r.1,if r.2 then s.2++[p.1] else s.2)
def Zp.meets(W:Zp P)(s:Asg P×List Nat):List (Nat×P)->Option (Asg P×List Nat)
 |[]=>some s
 |p::r=>(W.meetT s p).bind fun s'=>W.meets s' r
def Zp.look(W:Zp P)(s:Asg P×List Nat)(i:Nat)(f:P):Option (Asg P×List Nat):=(W.edges i f).bind fun l=>W.meets s l
def Zp.w1(W:Zp P)(F:Asg P)(i:Nat):Nat:=match F i with
 |none=>W.top+1
 |some f=>W.rank f
def Zp.weight(W:Zp P)(F:Asg P):Nat:=((List.range W.n).map (W.w1 F)).sum
theorem Asg.put_self{P:Type}(F:Asg P)(i:Nat)(f:P):F.put i f i=some f:=if_pos rfl
theorem Asg.put_other{P:Type}(F:Asg P){i k:Nat}(f:P)(h:k≠i):F.put i f k=F k:=if_neg h
theorem qdo{f g:Nat->Nat}:∀(l:List Nat) (_:l.Nodup) (i:Nat) (_:i∈l) (_:∀k,k≠i->f k=g k) (_:f i<g i),(l.map f).sum<(l.map g).sum
 |[],_,_,A,_,_=>by cases A
 |x::r,B,i,A,C,E=>by
  rw[List.map_cons,List.map_cons,List.sum_cons,List.sum_cons];rw[List.nodup_cons]at B;rcases List.mem_cons.1 A with rfl|A
  ·have:r.map f=r.map g:=List.map_congr_left fun k D=>C k fun e=>B.1 (e▸D)
   rw[this];omega
  ·have F:=qdo r B.2 i A C E;have G:f x=g x:=C x fun e=>B.1 (e▸A)
   omega
theorem Zp.weight_put{P:Type}{W:Zp P}{F:Asg P}{i:Nat}{f:P}(B:i<W.n)(A:W.rank f<W.w1 F i):W.weight (F.put i f)<W.weight F:=by
 refine qdo _ List.nodup_range i (List.mem_range.2 B) (fun k C=>?_) ?_
 ·unfold Zp.w1;rw[Asg.put_other F f C]
 ·show W.w1 (F.put i f) i<_
  unfold Zp.w1 at A ⊢;rw[Asg.put_self];exact A
variable {W:Zp P}
theorem Zp.under_refl{P:Type}{W:Zp P}(H:W.Good){F:Asg P}(h:W.Oks F):W.Under F F:=fun i f e=>⟨f,e,H.refl f (h i f e).2⟩
theorem Zp.under_trans{P:Type}{W:Zp P}(H:W.Good){F G K:Asg P}(C:W.Oks F)(D:W.Oks G)(E:W.Oks K)(a:W.Under F G)(b:W.Under G K):W.Under F K:=fun i f e=>by
 obtain⟨g,A,I⟩:=a i f e;obtain⟨k,B,J⟩:=b i g A;exact⟨k,B,H.trans f g k (C i f e).2 (D i g A).2 (E i k B).2 I J⟩
theorem Zp.sat_under{P:Type}{W:Zp P}(H:W.Good){F G:Asg P}(C:W.Oks F)(D:W.Oks G)(a:W.Under F G){l:List (Nat×P)}(E:∀p∈l,W.ok p.2)(h:W.Sat F l):W.Sat G l:=fun p B=>by
 obtain⟨f,e,I⟩:=h p B;obtain⟨g,A,J⟩:=a _ f e;exact⟨g,A,H.trans _ f g (E p B) (C _ f e).2 (D _ g A).2 I J⟩
theorem Zp.meet_yes(H:W.Good){F E:Asg P}{i:Nat}{f:P}{c:Bool}(G:W.Oks F)(M:i<W.n)(N:W.ok f)(h:W.meet F i f=some (E,c)):
 W.Oks E/\W.Under F E/\(∃g,E i=some g/\W.le f g)/\(∀k,k≠i->E k=F k)/\(if c then W.weight E<W.weight F else E=F):=by
 unfold Zp.meet at h;cases D:F i with
 |none =>
  rw[D]at h;injection h with h;injection h with J L
  subst J L;refine⟨fun k g e=>?_,fun k g e=>?_,⟨f,Asg.put_self F i f,H.refl f N⟩,fun k B=>Asg.put_other F f B,?_⟩
  ·by_cases B:k=i
   ·subst B;rw[Asg.put_self]at e;injection e with e;subst e;exact⟨M,N⟩
   ·rw[Asg.put_other F f B]at e;exact G k g e
  ·have B:k≠i:=fun R=>by rw[R,D]at e;cases e
   exact⟨g,by rw[Asg.put_other F f B];exact e,H.refl g (G k g e).2⟩
  ·rw[if_pos rfl];refine Zp.weight_put M ?_;unfold Zp.w1;rw[D];have:=H.cap f N;show W.rank f<W.top+1
   omega
 |some A =>
  rw[D]at h;dsimp only at h;have I:=(G i A D).2;by_cases C:W.fit A f=true
  ·obtain⟨u1,u2,u3⟩:=H.up A f I N C;rw[if_pos C]at h;by_cases O:W.join A f=A
   ·rw[if_pos O]at h;injection h with h;injection h with J L
    subst J L;rw[O]at u3;exact⟨G,Zp.under_refl H G,⟨A,D,u3⟩,fun _ _=>rfl,by rw[if_neg (by decide)]⟩
   ·rw[if_neg O]at h;injection h with h;injection h with J L
    subst J L;refine⟨fun k g e=>?_,fun k g e=>?_,⟨_,Asg.put_self F i _,u3⟩,fun k B=>Asg.put_other F _ B,?_⟩
    ·by_cases B:k=i
     ·subst B;rw[Asg.put_self]at e;injection e with e;subst e;exact⟨M,u1⟩
     ·rw[Asg.put_other F _ B]at e;exact G k g e
    ·by_cases B:k=i
     ·subst B;rw[D]at e;injection e with e;subst e;exact⟨_,Asg.put_self F k _,u2⟩
     ·exact⟨g,by rw[Asg.put_other F _ B];exact e,H.refl g (G k g e).2⟩
    ·rw[if_pos rfl];refine Zp.weight_put M ?_;unfold Zp.w1;rw[D];exact H.fall A _ I u1 u2 fun e=>O e.symm
  ·rw[if_neg C]at h;cases h
theorem Zp.meet_under(H:W.Good){F G:Asg P}{i:Nat}{f g:P}(N:W.Oks F)(O:W.Oks G)(R:W.ok f)(C:W.Under F G)(D:G i=some g)(I:W.le f g):∃M c,W.meet F i f=some (M,c)/\W.Under M G:=by
 unfold Zp.meet;cases L:F i with
 |none =>
  refine⟨_,_,rfl,fun k x e=>?_⟩;by_cases B:k=i
  ·subst B;rw[Asg.put_self]at e;injection e with e;subst e;exact⟨g,D,I⟩
  ·rw[Asg.put_other F _ B]at e;exact C k x e
 |some A =>
  obtain⟨V,E,S⟩:=C i A L;rw[D]at E;injection E with E;subst E
  obtain⟨T,U⟩:=H.lub A f g (N i A L).2 R (O i g D).2 S I;dsimp only;rw[if_pos T];by_cases J:W.join A f=A
  ·rw[if_pos J];exact⟨_,_,rfl,C⟩
  ·rw[if_neg J];refine⟨_,_,rfl,fun k x e=>?_⟩;by_cases B:k=i
   ·subst B;rw[Asg.put_self]at e;injection e with e;subst e;exact⟨g,D,U⟩
   ·rw[Asg.put_other F _ B]at e;exact C k x e
structure Zp.Met (W:Zp P) (s s':Asg P×List Nat):Prop where
 oks:W.Oks s'.1
 under:W.Under s.1 s'.1
 todo:∃r,s'.2=s.2++r
 told:∀i,i∉s'.2->s'.1 i=s.1 i
 new:∀i∈s'.2,i∈s.2\/∃f,s'.1 i=some f
 weight:W.weight s'.1+s'.2.length<=W.weight s.1+s.2.length
 less:W.weight s'.1<=W.weight s.1
theorem Zp.Met.mem{P:Type}{W:Zp P}{s A:Asg P×List Nat}(h:W.Met s A){i:Nat}(B:i∈s.2):i∈A.2:=by
 obtain⟨r,e⟩:=h.todo;rw[e];exact List.mem_append_left _ B
theorem Zp.Met.trans{P:Type}{W:Zp P}(H:W.Good){s D E:Asg P×List Nat}(F:W.Oks s.1)(h:W.Met s D)(k:W.Met D E):W.Met s E:=by
 refine⟨k.oks,Zp.under_trans H F h.oks k.oks h.under k.under,?_,fun i B=>?_,fun i B=>?_,Xf k.weight h.weight,Xf k.less h.less⟩
 ·obtain⟨r,e⟩:=h.todo;obtain⟨G,C⟩:=k.todo;exact⟨r++G,by rw[C,e,List.append_assoc]⟩
 ·rw[k.told i B];exact h.told i fun A=>B (k.mem A)
 ·rcases k.new i B with A|A
  ·rcases h.new i A with A|⟨f,e⟩
   ·exact Or.inl A
   ·obtain⟨g,C,_⟩:=k.under i f e;exact Or.inr ⟨g,C⟩
  ·exact Or.inr A
theorem Zp.meetT_yes(H:W.Good){s D:Asg P×List Nat}{p:Nat×P}(G:W.Oks s.1)(A:p.1<W.n)(I:W.ok p.2)(h:W.meetT s p=some D):W.Met s D/\∃g,D.1 p.1=some g/\W.le p.2 g:=by
 unfold Zp.meetT at h;cases E:W.meet s.1 p.1 p.2 with
 |none=>rw[E]at h;cases h
 |some r =>
  obtain⟨C,c⟩:=r;rw[E,Option.map_some]at h;injection h with h
  subst h;obtain⟨J,L,F,M,B⟩:=Zp.meet_yes H G A I E;refine⟨⟨J,L,?_,fun i A=>?_,fun i A=>?_,?_,?_⟩,F⟩
  ·cases c with
   |true=>exact⟨[p.1],rfl⟩
   |false=>exact⟨[],by simp⟩
  ·cases c with
   |true=>exact M i fun e=>A (by rw[e];exact List.mem_append_right _ (List.mem_singleton.2 rfl))
   |false=>rw[if_neg (by decide)]at B;show C i=s.1 i;rw[B]
  ·cases c with
   |true =>
    rcases List.mem_append.1 A with A|A
    ·exact Or.inl A
    ·rw[List.mem_singleton.1 A];obtain⟨g,e,_⟩:=F;exact Or.inr ⟨g,e⟩
   |false=>exact Or.inl A
  ·cases c with
   |true=>rw[if_pos rfl]at B;show W.weight C+(s.2++[p.1]).length<=_;rw[List.length_append];show _+(_+1)<=_;omega
   |false=>rw[if_neg (by decide)]at B;show W.weight C+s.2.length<=_;rw[B];exact Xl
  ·cases c with
   |true=>rw[if_pos rfl]at B;exact Nat.le_of_lt B
   |false=>rw[if_neg (by decide)]at B;show W.weight C<=_;rw[B];exact Xl
theorem Zp.meets_yes(H:W.Good):∀{l:List (Nat×P)} {s C:Asg P×List Nat},W.Oks s.1->(∀p∈l,p.1<W.n/\W.ok p.2)->W.meets s l=some C->W.Met s C/\W.Sat C.1 l
 |[],s,C,D,_,h=>by
  injection h with h;subst h
  exact⟨⟨D,Zp.under_refl H D,⟨[],by simp⟩,fun _ _=>rfl,fun _ T=>Or.inl T,Xl,Xl⟩,fun p U=>by cases U⟩
 |p::r,s,C,D,M,h=>by
  unfold Zp.meets at h;cases E:W.meetT s p with
  |none=>rw[E]at h;cases h
  |some V =>
   rw[E,Option.bind_some]at h;obtain⟨F,A⟩:=M p (List.mem_cons_self ..);have N:∀q∈r,q.1<W.n/\W.ok q.2:=fun q B=>M q (List.mem_cons_of_mem _ B)
   obtain⟨G,g,e,O⟩:=Zp.meetT_yes H D F A E;obtain⟨I,R⟩:=Zp.meets_yes H G.oks N h;refine⟨G.trans H D I,fun q B=>?_⟩;rcases List.mem_cons.1 B with rfl|B
   ·obtain⟨J,L,S⟩:=I.under _ g e;exact⟨J,L,H.trans _ g J A (G.oks _ g e).2 (I.oks _ J L).2 O S⟩
   ·exact R q B
theorem Zp.meets_under(H:W.Good){G:Asg P}(F:W.Oks G):∀{l:List (Nat×P)} {s:Asg P×List Nat},W.Oks s.1->(∀p∈l,p.1<W.n/\W.ok p.2)->W.Under s.1 G->W.Sat G l->∃B,W.meets s l=some B/\W.Under B.1 G
 |[],s,_,_,E,_=>⟨s,rfl,E⟩
 |p::r,s,J,L,E,M=>by
  obtain⟨C,A⟩:=L p (List.mem_cons_self ..);obtain⟨g,e,N⟩:=M p (List.mem_cons_self ..);obtain⟨O,c,R,u1⟩:=Zp.meet_under H J F A E e N;have I:W.meetT s p=some (O,if c then s.2++[p.1] else s.2):=by unfold Zp.meetT;rw[R];rfl
  obtain⟨S,_⟩:=Zp.meetT_yes H J C A I;obtain⟨B,T,u2⟩:=Zp.meets_under H F (l:=r) S.oks (fun q D=>L q (List.mem_cons_of_mem _ D)) u1 (fun q D=>M q (List.mem_cons_of_mem _ D));exact⟨B,by unfold Zp.meets;rw[I];exact T,u2⟩
theorem Zp.look_under(H:W.Good){s:Asg P×List Nat}{i:Nat}{f:P}{G:Asg P}(M:W.Oks s.1)(N:s.1 i=some f)(O:W.Under s.1 G)(A:W.Closed G):∃l E,W.edges i f=some l/\W.look s i f=some E/\W.Under E.1 G:=by
 obtain⟨g,e,V⟩:=O i f N;obtain⟨I,C⟩:=M i f N;obtain⟨R,S,X⟩:=A.2.1 i g e;obtain⟨J,L,Y⟩:=H.mono i f g R I C (A.1 i g e).2 V S;have B:=H.out i f J I C L;have F:=H.out i g R I (A.1 i g e).2 S;obtain⟨E,Z,a⟩:=Zp.meets_under H A.1 (l:=J) M B O fun p D=>by
  obtain⟨q,T,b,c⟩:=Y p D;obtain⟨h,U,d⟩:=X q T;exact⟨h,b▸U,H.trans _ _ h (B p D).2 (F q T).2 (A.1 _ h U).2 c d⟩
 exact⟨J,E,L,by unfold Zp.look;rw[L];exact Z,a⟩
structure Zp.LInv (W:Zp P) (s:Asg P×List Nat):Prop where
 oks:W.Oks s.1
 least:∀G,W.Closed G->W.Under s.1 G
 begun:W.Begun s.1
 done:∀i f,s.1 i=some f->i∉s.2->W.Holds s.1 i f
 todo:∀i∈s.2,∃f,s.1 i=some f
theorem Zp.put_first{P:Type}{W:Zp P}(H:W.Good)(F:Asg P)(C:∀i,F i=none):W.Oks (F.put 0 W.start)/\(∀G,W.Closed G->W.Under (F.put 0 W.start) G)/\W.Begun (F.put 0 W.start):=by
 have A:∀i f,F.put 0 W.start i=some f->i=0/\f=W.start:=fun i f e=>by
  by_cases B:i=0
  ·subst B;rw[Asg.put_self]at e;injection e with e;exact⟨rfl,e.symm⟩
  ·rw[Asg.put_other F _ B,C]at e;cases e
 refine⟨fun i f e=>?_,fun G D i f e=>?_,⟨_,Asg.put_self F 0 _,H.refl _ H.sok⟩⟩
 ·obtain⟨rfl,rfl⟩:=A i f e;exact⟨H.pos,H.sok⟩
 ·obtain⟨rfl,rfl⟩:=A i f e;exact D.2.2
theorem Zp.linv_start{P:Type}{W:Zp P}(H:W.Good)(F:Asg P)(B:∀i,F i=none):W.LInv (F.put 0 W.start,[0]):=by
 obtain⟨a,b,c⟩:=Zp.put_first H F B;refine⟨a,b,c,fun i f e A=>?_,fun i A=>?_⟩
 ·have C:i≠0:=fun h=>A (by rw[h];exact List.mem_singleton.2 rfl)
  rw[show(F.put 0 W.start,[0]).1 i=F i from Asg.put_other F _ C,B]at e;cases e
 ·rw[List.mem_singleton.1 A];exact⟨_,Asg.put_self F 0 _⟩
theorem Zp.linv_end{P:Type}{W:Zp P}{F:Asg P}(h:W.LInv (F,[])):W.Least F:=⟨⟨h.oks,fun i f e=>h.done i f e (by simp),h.begun⟩,h.least⟩
theorem Zp.linv_fail(H:W.Good){F:Asg P}{i:Nat}{f:P}{r:List Nat}(h:W.LInv (F,i::r))(B:F i=some f)(C:W.look (F,r) i f=none):∀G,¬W.Closed G:=fun G A=>by
 obtain⟨_,D,_,e,_⟩:=Zp.look_under H (s:=(F,r)) h.oks B (h.least G A) A;rw[C]at e;cases e
theorem Zp.linv_step(H:W.Good){F:Asg P}{i:Nat}{f:P}{r:List Nat}{J:Asg P×List Nat}(h:W.LInv (F,i::r))(N:F i=some f)(U:W.look (F,r) i f=some J):
 W.LInv J/\2*W.weight J.1+J.2.length<2*W.weight F+(r.length+1):=by
 have C:=U;unfold Zp.look at C;cases L:W.edges i f with
 |none=>rw[L]at C;cases C
 |some l =>
  rw[L,Option.bind_some]at C;obtain⟨Z,S⟩:=h.oks i f N;have D:=H.out i f l Z S L;obtain⟨m,T⟩:=Zp.meets_yes H (s:=(F,r)) h.oks D C;have Y:=m.weight;have O:=m.less;dsimp only at Y O;refine⟨⟨m.oks,fun G X=>?_,?_,fun k x e M=>?_,fun k M=>?_⟩,by omega⟩
  ·obtain⟨_,j,_,e,u⟩:=Zp.look_under H (s:=(F,r)) h.oks N (h.least G X) X;rw[U]at e;injection e with e;subst e;exact u
  ·obtain⟨b,e,a⟩:=h.begun;obtain⟨g,B,c⟩:=m.under 0 b e;exact⟨g,B,H.trans _ b g H.sok (h.oks _ b e).2 (m.oks _ g B).2 a c⟩
  ·rw[m.told k M]at e;by_cases E:k=i
   ·subst E;rw[show(F,r).1 k=F k from rfl,N]at e;injection e with e;subst e
    exact⟨l,L,T⟩
   ·have R:k∉i::r:=fun A=>by
     rcases List.mem_cons.1 A with A|A
     ·exact E A
     ·exact M (m.mem A)
    obtain⟨V,B,I⟩:=h.done k x e R;exact⟨V,B,Zp.sat_under H h.oks m.oks m.under (fun p d=>(H.out k x V (h.oks k x e).1 (h.oks k x e).2 B p d).2) I⟩
  ·rcases m.new k M with A|A
   ·obtain⟨x,e⟩:=h.todo k (List.mem_cons_of_mem _ A);obtain⟨g,B,_⟩:=m.under k x e;exact⟨g,B⟩
   ·exact A
theorem Zp.least_one{P:Type}{W:Zp P}(H:W.Good){F G:Asg P}(h:W.Least F)(k:W.Least G):F=G:=funext fun i=>by
 cases A:F i with
 |none =>
  cases C:G i with
  |none=>rfl
  |some g =>
   obtain⟨f,e,_⟩:=k.2 F h.1 i g C;rw[A]at e;cases e
 |some f =>
  obtain⟨g,e,D⟩:=h.2 G k.1 i f A;obtain⟨I,B,E⟩:=k.2 F h.1 i g e;rw[A]at B;injection B with B;subst B
  rw[e,H.anti f g (h.1.1 i f A).2 (k.1.1 i g e).2 D E]
end
