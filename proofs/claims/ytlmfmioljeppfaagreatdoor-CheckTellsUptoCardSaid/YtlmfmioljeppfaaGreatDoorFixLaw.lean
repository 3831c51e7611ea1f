/- Lemmas; conditions: as each states. -/
import Derived.Test.YtlmfmioljeppfaaGreatDoorTypeLaw
set_option maxHeartbeats 4000000
namespace Go.Proofs.YtlmfmioljeppfaaGreatDoor
structure qm (P:Type) where
 n:Nat
 top:Nat
 start:P
 ok:P->Prop
 le:P->P->Prop
 fit:P->P->Bool
 join:P->P->P
 edges:Nat->P->Option (List (Nat×P))
 rank:P->Nat
structure qm.Good {P:Type} (W:qm P):Prop where
 pos:0<W.n
 sok:W.ok W.start
 refl:∀a,W.ok a->W.le a a
 trans:∀a b c,W.ok a->W.ok b->W.ok c->W.le a b->W.le b c->W.le a c
 anti:∀a b,W.ok a->W.ok b->W.le a b->W.le b a->a=b
 up:∀a b,W.ok a->W.ok b->W.fit a b=true->W.ok (W.join a b)/\W.le a (W.join a b)/\W.le b (W.join a b)
 lub:∀a b z,W.ok a->W.ok b->W.ok z->W.le a z->W.le b z->W.fit a b=true/\W.le (W.join a b) z
 mono:∀i a b lb,i<W.n->W.ok a->W.ok b->W.le a b->W.edges i b=some lb->∃la,W.edges i a=some la/\∀p∈la,∃q∈lb,p.1=q.1/\W.le p.2 q.2
 out:∀i a l,i<W.n->W.ok a->W.edges i a=some l->∀p∈l,p.1<W.n/\W.ok p.2
 fall:∀a b,W.ok a->W.ok b->W.le a b->a≠b->W.rank b<W.rank a
 cap:∀a,W.ok a->W.rank a<=W.top
abbrev Asg(P:Type):=Nat->Option P
section
variable {P:Type} [DecidableEq P]
def Asg.put(F:Asg P)(i:Nat)(f:P):Asg P:=fun k=>if k=i then some f else F k
def qm.Sat(W:qm P)(F:Asg P)(l:List (Nat×P)):Prop:=∀p∈l,∃h,F p.1=some h/\W.le p.2 h
def qm.Oks(W:qm P)(F:Asg P):Prop:=∀i f,F i=some f->i<W.n/\W.ok f
def qm.Holds(W:qm P)(F:Asg P)(i:Nat)(f:P):Prop:=∃l,W.edges i f=some l/\W.Sat F l
def qm.Begun(W:qm P)(F:Asg P):Prop:=∃h,F 0=some h/\W.le W.start h
def qm.Closed(W:qm P)(F:Asg P):Prop:=W.Oks F/\(∀i f,F i=some f->W.Holds F i f)/\W.Begun F
def qm.Under(W:qm P)(F G:Asg P):Prop:=∀i f,F i=some f->∃g,G i=some g/\W.le f g
def qm.Least(W:qm P)(F:Asg P):Prop:=W.Closed F/\∀G,W.Closed G->W.Under F G
def qm.meet(W:qm P)(F:Asg P)(i:Nat)(f:P):Option (Asg P×Bool):=match F i with
 |none=>some (F.put i f,true)
 |some was=>if W.fit was f then (if W.join was f=was then some (F,false) else some (F.put i (W.join was f),true)) else none
def qm.meetT(W:qm P)(s:Asg P×List Nat)(p:Nat×P):Option (Asg P×List Nat):=(W.meet s.1 p.1 p.2).map fun r=>(r.1,if r.2 then s.2++[p.1] else s.2)
def qm.meets(W:qm P)(s:Asg P×List Nat):List (Nat×P)->Option (Asg P×List Nat)
 |[]=>some s
 |p::r=>(W.meetT s p).bind fun s'=>W.meets s' r
def qm.look(W:qm P)(s:Asg P×List Nat)(i:Nat)(f:P):Option (Asg P×List Nat):=(W.edges i f).bind fun l=>W.meets s l
def qm.w1(W:qm P)(F:Asg P)(i:Nat):Nat:=match F i with
 |none=>W.top+1
 |some f=>W.rank f
def qm.weight(W:qm P)(F:Asg P):Nat:=((List.range W.n).map (W.w1 F)).sum
theorem Asg.put_self{P:Type}(F:Asg P)(i:Nat)(f:P):F.put i f i=some f:=if_pos rfl
theorem Asg.put_other{P:Type}(F:Asg P){i k:Nat}(f:P)(h:k≠i):F.put i f k=F k:=if_neg h
theorem zcJ{f g:Nat->Nat}:∀(l:List Nat) (_:l.Nodup) (i:Nat) (_:i∈l) (_:∀k,k≠i->f k=g k) (_:f i<g i),(l.map f).sum<(l.map g).sum
 |[],_,_,hi,_,_=>by cases hi
 |x::r,hn,i,hi,ho,hl=>by
  rw[List.map_cons,List.map_cons,List.sum_cons,List.sum_cons];rw[List.nodup_cons]at hn;rcases List.mem_cons.1 hi with rfl|hi
  ·have:r.map f=r.map g:=List.map_congr_left fun k hk=>ho k fun e=>hn.1 (e▸hk)
   rw[this];omega
  ·have h1:=zcJ r hn.2 i hi ho hl;have h2:f x=g x:=ho x fun e=>hn.1 (e▸hi)
   omega
theorem qm.weight_put{P:Type}{W:qm P}{F:Asg P}{i:Nat}{f:P}(hi:i<W.n)(hf:W.rank f<W.w1 F i):W.weight (F.put i f)<W.weight F:=by
 refine zcJ _ List.nodup_range i (List.mem_range.2 hi) (fun k hk=>?_) ?_
 ·unfold qm.w1;rw[Asg.put_other F f hk]
 ·show W.w1 (F.put i f) i<_
  unfold qm.w1 at hf ⊢;rw[Asg.put_self];exact hf
variable {W:qm P}
theorem qm.under_refl{P:Type}{W:qm P}(H:W.Good){F:Asg P}(h:W.Oks F):W.Under F F:=fun i f e=>⟨f,e,H.refl f (h i f e).2⟩
theorem qm.under_trans{P:Type}{W:qm P}(H:W.Good){F G K:Asg P}(h1:W.Oks F)(h2:W.Oks G)(h3:W.Oks K)(a:W.Under F G)(b:W.Under G K):W.Under F K:=fun i f e=>by
 obtain⟨g,e1,l1⟩:=a i f e;obtain⟨k,e2,l2⟩:=b i g e1;exact⟨k,e2,H.trans f g k (h1 i f e).2 (h2 i g e1).2 (h3 i k e2).2 l1 l2⟩
theorem qm.sat_under{P:Type}{W:qm P}(H:W.Good){F G:Asg P}(h1:W.Oks F)(h2:W.Oks G)(a:W.Under F G){l:List (Nat×P)}(hl:∀p∈l,W.ok p.2)(h:W.Sat F l):W.Sat G l:=fun p hp=>by
 obtain⟨f,e,l1⟩:=h p hp;obtain⟨g,e1,l2⟩:=a _ f e;exact⟨g,e1,H.trans _ f g (hl p hp) (h1 _ f e).2 (h2 _ g e1).2 l1 l2⟩
theorem qm.meet_yes(H:W.Good){F F':Asg P}{i:Nat}{f:P}{c:Bool}(hF:W.Oks F)(hi:i<W.n)(hf:W.ok f)(h:W.meet F i f=some (F',c)):
 W.Oks F'/\W.Under F F'/\(∃g,F' i=some g/\W.le f g)/\(∀k,k≠i->F' k=F k)/\(if c then W.weight F'<W.weight F else F'=F):=by
 unfold qm.meet at h;cases hw:F i with
 |none =>
  rw[hw]at h;injection h with h;injection h with h1 h2
  subst h1 h2;refine⟨fun k g e=>?_,fun k g e=>?_,⟨f,Asg.put_self F i f,H.refl f hf⟩,fun k hk=>Asg.put_other F f hk,?_⟩
  ·by_cases hk:k=i
   ·subst hk;rw[Asg.put_self]at e;injection e with e;subst e;exact⟨hi,hf⟩
   ·rw[Asg.put_other F f hk]at e;exact hF k g e
  ·have hk:k≠i:=fun e'=>by rw[e',hw]at e;cases e
   exact⟨g,by rw[Asg.put_other F f hk];exact e,H.refl g (hF k g e).2⟩
  ·rw[if_pos rfl];refine qm.weight_put hi ?_;unfold qm.w1;rw[hw];have:=H.cap f hf;show W.rank f<W.top+1
   omega
 |some was =>
  rw[hw]at h;dsimp only at h;have hwo:=(hF i was hw).2;by_cases hfit:W.fit was f=true
  ·obtain⟨u1,u2,u3⟩:=H.up was f hwo hf hfit;rw[if_pos hfit]at h;by_cases hj:W.join was f=was
   ·rw[if_pos hj]at h;injection h with h;injection h with h1 h2
    subst h1 h2;rw[hj]at u3;exact⟨hF,qm.under_refl H hF,⟨was,hw,u3⟩,fun _ _=>rfl,by rw[if_neg (by decide)]⟩
   ·rw[if_neg hj]at h;injection h with h;injection h with h1 h2
    subst h1 h2;refine⟨fun k g e=>?_,fun k g e=>?_,⟨_,Asg.put_self F i _,u3⟩,fun k hk=>Asg.put_other F _ hk,?_⟩
    ·by_cases hk:k=i
     ·subst hk;rw[Asg.put_self]at e;injection e with e;subst e;exact⟨hi,u1⟩
     ·rw[Asg.put_other F _ hk]at e;exact hF k g e
    ·by_cases hk:k=i
     ·subst hk;rw[hw]at e;injection e with e;subst e;exact⟨_,Asg.put_self F k _,u2⟩
     ·exact⟨g,by rw[Asg.put_other F _ hk];exact e,H.refl g (hF k g e).2⟩
    ·rw[if_pos rfl];refine qm.weight_put hi ?_;unfold qm.w1;rw[hw];exact H.fall was _ hwo u1 u2 fun e=>hj e.symm
  ·rw[if_neg hfit]at h;cases h
theorem qm.meet_under(H:W.Good){F G:Asg P}{i:Nat}{f g:P}(hF:W.Oks F)(hG:W.Oks G)(hf:W.ok f)(hu:W.Under F G)(hg:G i=some g)(hl:W.le f g):∃F' c,W.meet F i f=some (F',c)/\W.Under F' G:=by
 unfold qm.meet;cases hw:F i with
 |none =>
  refine⟨_,_,rfl,fun k x e=>?_⟩;by_cases hk:k=i
  ·subst hk;rw[Asg.put_self]at e;injection e with e;subst e;exact⟨g,hg,hl⟩
  ·rw[Asg.put_other F _ hk]at e;exact hu k x e
 |some was =>
  obtain⟨g',e1,l1⟩:=hu i was hw;rw[hg]at e1;injection e1 with e1;subst e1
  obtain⟨j1,j2⟩:=H.lub was f g (hF i was hw).2 hf (hG i g hg).2 l1 hl;dsimp only;rw[if_pos j1];by_cases hj:W.join was f=was
  ·rw[if_pos hj];exact⟨_,_,rfl,hu⟩
  ·rw[if_neg hj];refine⟨_,_,rfl,fun k x e=>?_⟩;by_cases hk:k=i
   ·subst hk;rw[Asg.put_self]at e;injection e with e;subst e;exact⟨g,hg,j2⟩
   ·rw[Asg.put_other F _ hk]at e;exact hu k x e
structure qm.Met (W:qm P) (s s':Asg P×List Nat):Prop where
 oks:W.Oks s'.1
 under:W.Under s.1 s'.1
 todo:∃r,s'.2=s.2++r
 told:∀i,i∉s'.2->s'.1 i=s.1 i
 new:∀i∈s'.2,i∈s.2\/∃f,s'.1 i=some f
 weight:W.weight s'.1+s'.2.length<=W.weight s.1+s.2.length
 less:W.weight s'.1<=W.weight s.1
theorem qm.Met.mem{P:Type}{W:qm P}{s s':Asg P×List Nat}(h:W.Met s s'){i:Nat}(hi:i∈s.2):i∈s'.2:=by
 obtain⟨r,e⟩:=h.todo;rw[e];exact List.mem_append_left _ hi
theorem qm.Met.trans{P:Type}{W:qm P}(H:W.Good){s s1 s2:Asg P×List Nat}(h0:W.Oks s.1)(h:W.Met s s1)(k:W.Met s1 s2):W.Met s s2:=by
 refine⟨k.oks,qm.under_trans H h0 h.oks k.oks h.under k.under,?_,fun i hi=>?_,fun i hi=>?_,Xf k.weight h.weight,Xf k.less h.less⟩
 ·obtain⟨r,e⟩:=h.todo;obtain⟨r',e'⟩:=k.todo;exact⟨r++r',by rw[e',e,List.append_assoc]⟩
 ·rw[k.told i hi];exact h.told i fun hm=>hi (k.mem hm)
 ·rcases k.new i hi with hm|hm
  ·rcases h.new i hm with hm|⟨f,e⟩
   ·exact Or.inl hm
   ·obtain⟨g,e',_⟩:=k.under i f e;exact Or.inr ⟨g,e'⟩
  ·exact Or.inr hm
theorem qm.meetT_yes(H:W.Good){s s':Asg P×List Nat}{p:Nat×P}(hs:W.Oks s.1)(hi:p.1<W.n)(hf:W.ok p.2)(h:W.meetT s p=some s'):W.Met s s'/\∃g,s'.1 p.1=some g/\W.le p.2 g:=by
 unfold qm.meetT at h;cases hm:W.meet s.1 p.1 p.2 with
 |none=>rw[hm]at h;cases h
 |some r =>
  obtain⟨F',c⟩:=r;rw[hm,Option.map_some]at h;injection h with h
  subst h;obtain⟨a1,a2,a3,a4,a5⟩:=qm.meet_yes H hs hi hf hm;refine⟨⟨a1,a2,?_,fun i hi=>?_,fun i hi=>?_,?_,?_⟩,a3⟩
  ·cases c with
   |true=>exact⟨[p.1],rfl⟩
   |false=>exact⟨[],by simp⟩
  ·cases c with
   |true=>exact a4 i fun e=>hi (by rw[e];exact List.mem_append_right _ (List.mem_singleton.2 rfl))
   |false=>rw[if_neg (by decide)]at a5;show F' i=s.1 i;rw[a5]
  ·cases c with
   |true =>
    rcases List.mem_append.1 hi with hi|hi
    ·exact Or.inl hi
    ·rw[List.mem_singleton.1 hi];obtain⟨g,e,_⟩:=a3;exact Or.inr ⟨g,e⟩
   |false=>exact Or.inl hi
  ·cases c with
   |true=>rw[if_pos rfl]at a5;show W.weight F'+(s.2++[p.1]).length<=_;rw[List.length_append];show _+(_+1)<=_;omega
   |false=>rw[if_neg (by decide)]at a5;show W.weight F'+s.2.length<=_;rw[a5];exact Xl
  ·cases c with
   |true=>rw[if_pos rfl]at a5;exact Nat.le_of_lt a5
   |false=>rw[if_neg (by decide)]at a5;show W.weight F'<=_;rw[a5];exact Xl
theorem qm.meets_yes(H:W.Good):∀{l:List (Nat×P)} {s s':Asg P×List Nat},W.Oks s.1->(∀p∈l,p.1<W.n/\W.ok p.2)->W.meets s l=some s'->W.Met s s'/\W.Sat s'.1 l
 |[],s,s',hs,_,h=>by
  injection h with h;subst h
  exact⟨⟨hs,qm.under_refl H hs,⟨[],by simp⟩,fun _ _=>rfl,fun _ hi=>Or.inl hi,Xl,Xl⟩,fun p hp=>by cases hp⟩
 |p::r,s,s',hs,hl,h=>by
  unfold qm.meets at h;cases hm:W.meetT s p with
  |none=>rw[hm]at h;cases h
  |some s1 =>
   rw[hm,Option.bind_some]at h;obtain⟨hp1,hp2⟩:=hl p (List.mem_cons_self ..);have hr:∀q∈r,q.1<W.n/\W.ok q.2:=fun q hq=>hl q (List.mem_cons_of_mem _ hq)
   obtain⟨m1,g,e,lg⟩:=qm.meetT_yes H hs hp1 hp2 hm;obtain⟨m2,s2⟩:=qm.meets_yes H m1.oks hr h;refine⟨m1.trans H hs m2,fun q hq=>?_⟩;rcases List.mem_cons.1 hq with rfl|hq
   ·obtain⟨g',e',l'⟩:=m2.under _ g e;exact⟨g',e',H.trans _ g g' hp2 (m1.oks _ g e).2 (m2.oks _ g' e').2 lg l'⟩
   ·exact s2 q hq
theorem qm.meets_under(H:W.Good){G:Asg P}(hG:W.Oks G):∀{l:List (Nat×P)} {s:Asg P×List Nat},W.Oks s.1->(∀p∈l,p.1<W.n/\W.ok p.2)->W.Under s.1 G->W.Sat G l->∃s',W.meets s l=some s'/\W.Under s'.1 G
 |[],s,_,_,hu,_=>⟨s,rfl,hu⟩
 |p::r,s,hs,hl,hu,hS=>by
  obtain⟨hp1,hp2⟩:=hl p (List.mem_cons_self ..);obtain⟨g,e,lg⟩:=hS p (List.mem_cons_self ..);obtain⟨F',c,e1,u1⟩:=qm.meet_under H hs hG hp2 hu e lg;have hm:W.meetT s p=some (F',if c then s.2++[p.1] else s.2):=by unfold qm.meetT;rw[e1];rfl
  obtain⟨m1,_⟩:=qm.meetT_yes H hs hp1 hp2 hm;obtain⟨s',e2,u2⟩:=qm.meets_under H hG (l:=r) m1.oks (fun q hq=>hl q (List.mem_cons_of_mem _ hq)) u1 (fun q hq=>hS q (List.mem_cons_of_mem _ hq));exact⟨s',by unfold qm.meets;rw[hm];exact e2,u2⟩
theorem qm.look_under(H:W.Good){s:Asg P×List Nat}{i:Nat}{f:P}{G:Asg P}(hs:W.Oks s.1)(hf:s.1 i=some f)(hu:W.Under s.1 G)(hG:W.Closed G):∃l s',W.edges i f=some l/\W.look s i f=some s'/\W.Under s'.1 G:=by
 obtain⟨g,e,lg⟩:=hu i f hf;obtain⟨hi,hok⟩:=hs i f hf;obtain⟨lb,eb,sb⟩:=hG.2.1 i g e;obtain⟨la,ea,hp⟩:=H.mono i f g lb hi hok (hG.1 i g e).2 lg eb;have hla:=H.out i f la hi hok ea;have hlb:=H.out i g lb hi (hG.1 i g e).2 eb;obtain⟨s',e',u'⟩:=qm.meets_under H hG.1 (l:=la) hs hla hu fun p hpa=>by
  obtain⟨q,hq,q1,q2⟩:=hp p hpa;obtain⟨h,eh,lh⟩:=sb q hq;exact⟨h,q1▸eh,H.trans _ _ h (hla p hpa).2 (hlb q hq).2 (hG.1 _ h eh).2 q2 lh⟩
 exact⟨la,s',ea,by unfold qm.look;rw[ea];exact e',u'⟩
structure qm.LInv (W:qm P) (s:Asg P×List Nat):Prop where
 oks:W.Oks s.1
 least:∀G,W.Closed G->W.Under s.1 G
 begun:W.Begun s.1
 done:∀i f,s.1 i=some f->i∉s.2->W.Holds s.1 i f
 todo:∀i∈s.2,∃f,s.1 i=some f
theorem qm.put_first{P:Type}{W:qm P}(H:W.Good)(F:Asg P)(hF:∀i,F i=none):W.Oks (F.put 0 W.start)/\(∀G,W.Closed G->W.Under (F.put 0 W.start) G)/\W.Begun (F.put 0 W.start):=by
 have hk:∀i f,F.put 0 W.start i=some f->i=0/\f=W.start:=fun i f e=>by
  by_cases h0:i=0
  ·subst h0;rw[Asg.put_self]at e;injection e with e;exact⟨rfl,e.symm⟩
  ·rw[Asg.put_other F _ h0,hF]at e;cases e
 refine⟨fun i f e=>?_,fun G hG i f e=>?_,⟨_,Asg.put_self F 0 _,H.refl _ H.sok⟩⟩
 ·obtain⟨rfl,rfl⟩:=hk i f e;exact⟨H.pos,H.sok⟩
 ·obtain⟨rfl,rfl⟩:=hk i f e;exact hG.2.2
theorem qm.linv_start{P:Type}{W:qm P}(H:W.Good)(F:Asg P)(hF:∀i,F i=none):W.LInv (F.put 0 W.start,[0]):=by
 obtain⟨a,b,c⟩:=qm.put_first H F hF;refine⟨a,b,c,fun i f e hi=>?_,fun i hi=>?_⟩
 ·have h0:i≠0:=fun h=>hi (by rw[h];exact List.mem_singleton.2 rfl)
  rw[show(F.put 0 W.start,[0]).1 i=F i from Asg.put_other F _ h0,hF]at e;cases e
 ·rw[List.mem_singleton.1 hi];exact⟨_,Asg.put_self F 0 _⟩
theorem qm.linv_end{P:Type}{W:qm P}{F:Asg P}(h:W.LInv (F,[])):W.Least F:=⟨⟨h.oks,fun i f e=>h.done i f e (by simp),h.begun⟩,h.least⟩
theorem qm.linv_fail(H:W.Good){F:Asg P}{i:Nat}{f:P}{r:List Nat}(h:W.LInv (F,i::r))(hf:F i=some f)(hn:W.look (F,r) i f=none):∀G,¬W.Closed G:=fun G hG=>by
 obtain⟨_,s',_,e,_⟩:=qm.look_under H (s:=(F,r)) h.oks hf (h.least G hG) hG;rw[hn]at e;cases e
theorem qm.linv_step(H:W.Good){F:Asg P}{i:Nat}{f:P}{r:List Nat}{s':Asg P×List Nat}(h:W.LInv (F,i::r))(hf:F i=some f)(hn:W.look (F,r) i f=some s'):
 W.LInv s'/\2*W.weight s'.1+s'.2.length<2*W.weight F+(r.length+1):=by
 have hl:=hn;unfold qm.look at hl;cases he:W.edges i f with
 |none=>rw[he]at hl;cases hl
 |some l =>
  rw[he,Option.bind_some]at hl;obtain⟨hi,hok⟩:=h.oks i f hf;have hout:=H.out i f l hi hok he;obtain⟨m,sat⟩:=qm.meets_yes H (s:=(F,r)) h.oks hout hl;have hw:=m.weight;have hw2:=m.less;dsimp only at hw hw2;refine⟨⟨m.oks,fun G hG=>?_,?_,fun k x e hk=>?_,fun k hk=>?_⟩,by omega⟩
  ·obtain⟨_,s2,_,e,u⟩:=qm.look_under H (s:=(F,r)) h.oks hf (h.least G hG) hG;rw[hn]at e;injection e with e;subst e;exact u
  ·obtain⟨b,e,lb⟩:=h.begun;obtain⟨g,e',lg⟩:=m.under 0 b e;exact⟨g,e',H.trans _ b g H.sok (h.oks _ b e).2 (m.oks _ g e').2 lb lg⟩
  ·rw[m.told k hk]at e;by_cases hki:k=i
   ·subst hki;rw[show(F,r).1 k=F k from rfl,hf]at e;injection e with e;subst e
    exact⟨l,he,sat⟩
   ·have hkr:k∉i::r:=fun hm=>by
     rcases List.mem_cons.1 hm with hm|hm
     ·exact hki hm
     ·exact hk (m.mem hm)
    obtain⟨l',e',sat'⟩:=h.done k x e hkr;exact⟨l',e',qm.sat_under H h.oks m.oks m.under (fun p hp=>(H.out k x l' (h.oks k x e).1 (h.oks k x e).2 e' p hp).2) sat'⟩
  ·rcases m.new k hk with hm|hm
   ·obtain⟨x,e⟩:=h.todo k (List.mem_cons_of_mem _ hm);obtain⟨g,e',_⟩:=m.under k x e;exact⟨g,e'⟩
   ·exact hm
structure qm.RInv (W:qm P) (s:Asg P×List Nat) (at':Nat):Prop where
 oks:W.Oks s.1
 least:∀G,W.Closed G->W.Under s.1 G
 begun:W.Begun s.1
 done:s.2=[]->∀i f,i<at'->s.1 i=some f->W.Holds s.1 i f
theorem qm.rinv_start{P:Type}{W:qm P}{F:Asg P}{at':Nat}{r:List Nat}(h:W.RInv (F,r) at'):W.RInv (F,[]) 0:=⟨h.oks,h.least,h.begun,fun _ _ _ hi=>absurd hi (Nat.not_lt_zero _)⟩
theorem qm.rinv_first{P:Type}{W:qm P}(H:W.Good)(F:Asg P)(hF:∀i,F i=none):W.RInv (F.put 0 W.start,[]) 0:=by
 obtain⟨a,b,c⟩:=qm.put_first H F hF;exact⟨a,b,c,fun _ _ _ hi=>absurd hi (Nat.not_lt_zero _)⟩
theorem qm.rinv_skip{P:Type}{W:qm P}{s:Asg P×List Nat}{at':Nat}(h:W.RInv s at')(hn:s.1 at'=none):W.RInv s (at'+1):=⟨h.oks,h.least,h.begun,fun e i f hi hf=>by
 by_cases hk:i=at'
 ·rw[hk,hn]at hf;cases hf
 ·exact h.done e i f (by omega) hf⟩
theorem qm.rinv_end{P:Type}{W:qm P}{F:Asg P}(h:W.RInv (F,[]) W.n):W.Least F:=⟨⟨h.oks,fun i f e=>h.done rfl i f (h.oks i f e).1 e,h.begun⟩,h.least⟩
theorem qm.rinv_fail(H:W.Good){s:Asg P×List Nat}{at':Nat}{f:P}(h:W.RInv s at')(hf:s.1 at'=some f)(hn:W.look s at' f=none):∀G,¬W.Closed G:=fun G hG=>by
 obtain⟨_,s',_,e,_⟩:=qm.look_under H h.oks hf (h.least G hG) hG;rw[hn]at e;cases e
theorem qm.rinv_step(H:W.Good){s s':Asg P×List Nat}{at':Nat}{f:P}(h:W.RInv s at')(hf:s.1 at'=some f)(hn:W.look s at' f=some s'):W.RInv s' (at'+1)/\W.weight s'.1+s'.2.length<=W.weight s.1+s.2.length:=by
 have hl:=hn;unfold qm.look at hl;cases he:W.edges at' f with
 |none=>rw[he]at hl;cases hl
 |some l =>
  rw[he,Option.bind_some]at hl;obtain⟨hi,hok⟩:=h.oks at' f hf;have hout:=H.out at' f l hi hok he;obtain⟨m,sat⟩:=qm.meets_yes H h.oks hout hl;refine⟨⟨m.oks,fun G hG=>?_,?_,fun e0 k x hk e=>?_⟩,m.weight⟩
  ·obtain⟨_,s2,_,e,u⟩:=qm.look_under H h.oks hf (h.least G hG) hG;rw[hn]at e;injection e with e;subst e;exact u
  ·obtain⟨b,e,lb⟩:=h.begun;obtain⟨g,e',lg⟩:=m.under 0 b e;exact⟨g,e',H.trans _ b g H.sok (h.oks _ b e).2 (m.oks _ g e').2 lb lg⟩
  ·have hF:s'.1=s.1:=funext fun i=>m.told i (by rw[e0];simp)
   have h0:s.2=[]:=by
    obtain⟨r,er⟩:=m.todo;rw[e0]at er;exact(List.append_eq_nil_iff.1 er.symm).1
   rw[hF]at e sat ⊢;by_cases hki:k=at'
   ·subst hki;rw[hf]at e;injection e with e;subst e
    exact⟨l,he,sat⟩
   ·exact h.done h0 k x (by omega) e
theorem qm.least_one{P:Type}{W:qm P}(H:W.Good){F G:Asg P}(h:W.Least F)(k:W.Least G):F=G:=funext fun i=>by
 cases hF:F i with
 |none =>
  cases hG:G i with
  |none=>rfl
  |some g =>
   obtain⟨f,e,_⟩:=k.2 F h.1 i g hG;rw[hF]at e;cases e
 |some f =>
  obtain⟨g,e,l1⟩:=h.2 G k.1 i f hF;obtain⟨f',e',l2⟩:=k.2 F h.1 i g e;rw[hF]at e';injection e' with e';subst e'
  rw[e,H.anti f g (h.1.1 i f hF).2 (k.1.1 i g e).2 l1 l2]
end
end Go.Proofs.YtlmfmioljeppfaaGreatDoor
