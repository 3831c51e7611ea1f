/- Lemmas; conditions: as each states. -/
import Derived.Test.YtlmfmioljeppfaaGreatDoorRead
set_option maxHeartbeats 4000000
namespace Go.Proofs.YtlmfmioljeppfaaGreatDoor
open Go.RowKit Go.Shelf Go.Lib
theorem qda(C:List Str):∀A:List Str,∃t,Zab A C=A++t/\(∀x∈C,x∈A++t)/\(∀x∈t,x∈C):=by
 induction C with
 |nil =>
  intro A;refine⟨[],by simp[Zab],?_,?_⟩
  ·intro x B;cases B
  ·intro x B;cases B
 |cons a r G =>
  intro A;rw[qa1];cases H:QK A a with
  |true =>
   rw[if_pos rfl];obtain⟨t,D,E,F⟩:=G A;refine⟨t,D,fun x B=>?_,fun x B=>List.mem_cons_of_mem _ (F x B)⟩;rcases List.mem_cons.1 B with rfl|B
   ·exact List.mem_append_left _ (Zy.1 H)
   ·exact E x B
  |false =>
   rw[if_neg (by decide)];obtain⟨t,D,E,F⟩:=G (A++[a]);refine⟨a::t,by rw[D];simp,fun x B=>?_,fun x B=>?_⟩
   ·rcases List.mem_cons.1 B with rfl|B
    ·simp
    ·have:=E x B;simpa using this
   ·rcases List.mem_cons.1 B with rfl|B
    ·simp
    ·exact List.mem_cons_of_mem _ (F x B)
theorem Qay.addAll{cs:List Qb}(B:List Str):∀A:List Str,Qay cs A->(∀x∈B,(Qc cs x).isSome=true)->Qay cs (Zab A B):=by
 induction B with
 |nil=>intro A h _;exact h
 |cons a r E =>
  intro A h C;rw[qa1];cases F:QK A a with
  |true=>rw[if_pos rfl];exact E A h (fun x D=>C x (List.mem_cons_of_mem _ D))
  |false=>rw[if_neg (by decide)];exact E _ (h.add (C a (by simp)) F) (fun x D=>C x (List.mem_cons_of_mem _ D))
theorem QbK{cs:List Qb}(J:Qaw cs):∀(f i:Nat) (A:List Str),Qay cs A->cs.length+1<=f+i->(∀j x,j<i->A[j]? = some x->∀a∈qp cs x,a∈A) ->
 Qay cs (zab (qp cs) f i A)/\(∀x∈A,x∈zab (qp cs) f i A)/\(∀x∈zab (qp cs) f i A,∀a∈qp cs x,a∈zab (qp cs) f i A) /\
  (∀S:Str->Prop,(∀x,S x->∀a∈qp cs x,S a)->(∀x∈A,S x)->∀x∈zab (qp cs) f i A,S x):=by
 intro f;induction f with
 |zero =>
  intro i A E b I;refine⟨E,fun x B=>B,fun x B a F=>?_,fun S _ H x B=>H x B⟩;replace B:x∈A:=B;obtain⟨j,D,rfl⟩:=List.getElem_of_mem B;have:=E.length;exact I j _ (by omega) (Xn D) a F
 |succ f d =>
  intro i A E b I;cases B:A[i]? with
  |none =>
   rw[Qa1 B];refine⟨E,fun x B=>B,fun x O a F=>?_,fun S _ H x B=>H x B⟩;obtain⟨j,D,rfl⟩:=List.getElem_of_mem O;rw[List.getElem?_eq_none_iff]at B;exact I j _ (by omega) (Xn D) a F
  |some x =>
   rw[za2 B];obtain⟨t,N,H,U⟩:=qda (qp cs x) A;have L:=E.known x (Xe B);obtain⟨V,X,Y,Z⟩:=d (i+1) (Zab A (qp cs x)) (Qay.addAll _ _ E (J x L)) (by omega) (by
    intro j y c C a F;rw[N]at C ⊢;have T:=(List.getElem?_eq_some_iff.1 B).1;rw[List.getElem?_append_left (by omega)]at C;by_cases M:j<i
    ·exact List.mem_append_left _ (I j y M C a F)
    ·obtain rfl:j=i:=(by omega);rw[B]at C;injection C with C;subst C
     exact H a F)
   refine⟨V,fun y C=>X y (by rw[N];exact List.mem_append_left _ C),Y,fun S P R y C=>Z S P (fun z G=>?_) y C⟩;rw[N]at G;rcases List.mem_append.1 G with G|G
   ·exact R z G
   ·exact P x (R x (Xe B)) z (U z G)
theorem zo{cs:List Qb}(A:Qaw cs){n:Str}(C:(Qc cs n).isSome=true):
 Qay cs (Qk cs n)/\n∈Qk cs n/\(∀x∈Qk cs n,∀a∈qp cs x,a∈Qk cs n) /\
  (∀S:Str->Prop,(∀x,S x->∀a∈qp cs x,S a)->S n->∀x∈Qk cs n,S x):=by
 obtain⟨D,E,F,G⟩:=QbK A (cs.length+1) 0 [n] (Qay.one C) (by omega) (fun j x L=>by omega);exact⟨D,E n (by simp),F,fun S H I x J=>G S H (fun y B=>by simp at B;subst B;exact I) x J⟩
structure Zk (l:List Qb):Prop where
 nodup:((Za l).map (·.name)).Nodup
 closed:Qaw (Za l)
 joined:∀c∈l,Qv (Za l) c=0
 round:∀c∈l,zT (Za l) c.name=false
 length:l.length<=10
theorem Qda:∀(r a:List Qb),((Za a).map (·.name)).Nodup->Qf qv a r=0->((Za (a++r)).map (·.name)).Nodup:=by
 intro r;induction r with
 |nil=>intro a D _;simpa using D
 |cons c r F =>
  intro a D h;rw[Qf]at h;by_cases A:qv c a=0
  ·rw[if_pos A]at h;have B:Qc (Za a) c.name=none:=by
    unfold qv at A;by_cases C:qd c≠0
    ·rw[if_pos C]at A;exact absurd A C
    ·rw[if_neg C]at A;cases E:Qc (Za a) c.name with
     |none=>rfl
     |some d=>rw[E]at A;cases A
   have:=F (a++[c]) (by
    have:=QaO D B;simpa[Za] using this) h
   simpa using this
  ·rw[if_neg A]at h;exact absurd h A
theorem zbs{l:List Qb}(h:Zp l=0):Zk l:=by
 unfold Zp at h;split at h
 ·cases h
 ·rename_i G;split at h
  ·rename_i C;exact absurd h C
  ·rename_i C;split at h
   ·rename_i D;exact absurd h D
   ·rename_i D;split at h
    ·cases h
    ·rename_i F;have A:Qf qv [] l=0:=(by simpa using C);have B:Zh (Qv (Za l)) l=0:=(by simpa using D);have E:=Z2 B;refine⟨by simpa using Qda l [] Za2 A,qa8 E,E,?_,by omega⟩;rw[Bool.not_eq_true,List.any_eq_false]at F;intro c H;simpa using F c H
theorem Zk.find{l:List Qb}(h:Zk l){c:Qb}(A:c∈Za l):Qc (Za l) c.name=some c:=by
 obtain⟨i,B,rfl⟩:=List.getElem_of_mem A;unfold Qc;rw[List.find?_eq_some_iff_getElem];refine⟨by simp,i,B,rfl,fun j C=>?_⟩;have:=List.pairwise_iff_getElem.1 h.nodup j i (by simp;omega) (by simp;omega) C;simpa using this
theorem Zk.super{l:List Qb}(h:Zk l){n:Str}(D:(Qc (Za l) n).isSome=true)(E:n≠qg):∃s,s∈qp (Za l) n/\(n=zC/\s=qg\/∃c∈l,c.name=n):=by
 obtain⟨c,A,rfl⟩:=Zas D;have C:=h.find A;unfold Za at A;rcases List.mem_cons.1 A with rfl|A
 ·exact absurd rfl E
 ·rcases List.mem_cons.1 A with rfl|A
  ·refine⟨qg,?_,Or.inl ⟨rfl,rfl⟩⟩;unfold qp;rw[C];simp[ZX,zg,qg];decide
  ·refine⟨c.super,?_,Or.inr ⟨c,A,rfl⟩⟩;have B:=h.joined c A;unfold qp;rw[C];simp only[Option.getD_some];have:c.super.size≠0:=by
    intro F;unfold Qv at B;rw[if_pos F]at B;cases B
   rw[if_neg this];simp
theorem zcq{α:Type}[DecidableEq α]{l m:List α}{a:α}(B:l.Nodup)(hs:∀x∈l,x∈m)(C:a∈m)(D:a∉l):l.length<m.length:=by
 have:=qay (a::l) m (List.nodup_cons.2 ⟨D,B⟩) (fun x A=>by
  rcases List.mem_cons.1 A with rfl|A
  ·exact C
  ·exact hs x A)
 simp only[List.length_cons]at this;omega
theorem Zk.object{l:List Qb}(h:Zk l):∀(k:Nat) (n:Str),(Qc (Za l) n).isSome=true->(Qk (Za l) n).length<=k->qg∈Qk (Za l) n:=by
 intro k;induction k with
 |zero =>
  intro n C R;obtain⟨_,N,_,_⟩:=zo h.closed C;have:=List.length_pos_of_mem N;omega
 |succ k U =>
  intro n C R;by_cases I:n=qg
  ·subst I;exact(zo h.closed C).2.1
  ·obtain⟨s,hs,B⟩:=h.super C I;obtain⟨X,J,L,Y⟩:=zo h.closed C;have D:s∈Qk (Za l) n:=L n J s hs;rcases B with⟨_,rfl⟩|⟨c,V,rfl⟩
   ·exact D
   ·have E:=h.closed _ C s hs;obtain⟨O,Z,b,P⟩:=zo h.closed E;have A:∀x∈Qk (Za l) s,x∈Qk (Za l) c.name:=P _ (fun x S a T=>L x S a T) D;have F:c.name∉Qk (Za l) s:=by
     intro H;have G:=h.round c V;unfold zT at G;rw[List.any_eq_false]at G;have:=G s hs;rw[Zy.2 H]at this;exact this rfl
    have M:=zcq O.nodup A J F;exact A _ (U s E (by omega))
def qh(cs:List Qb)(n:Str):Qb:=(Qc cs n).getD zg
def zae(cs:List Qb):Nat->Str->List Str
 |0,n=>[n]
 |k+1,n=>if (qh cs n).super.size=0 then [n] else n::zae cs k (qh cs n).super
def Zq(cs:List Qb)(n:Str):List Str:=zae cs (Qk cs n).length n
theorem Qbk(cs:List Qb)(k:Nat)(n:Str):zae cs k n=n::(zae cs k n).drop 1:=by
 cases k with
 |zero=>rfl
 |succ k=>rw[zae];split<;>rfl
theorem Zk.up{l:List Qb}(h:Zk l){n:Str}(D:(Qc (Za l) n).isSome=true)(J:(qh (Za l) n).super.size≠0):
 (Qc (Za l) (qh (Za l) n).super).isSome=true/\(Qk (Za l) (qh (Za l) n).super).length<(Qk (Za l) n).length:=by
 have hs:(qh (Za l) n).super∈qp (Za l) n:=by unfold qp qh at *;rw[if_neg J];simp
 have B:=h.closed _ D _ hs;refine⟨B,?_⟩;obtain⟨R,M,N,S⟩:=zo h.closed D;obtain⟨P,T,U,O⟩:=zo h.closed B;have E:=N n M _ hs;refine zcq P.nodup (O _ (fun x I a C=>N x I a C) E) M ?_;intro A;by_cases L:n=qg
 ·subst L;exact J (by simp[qh,Qc,Za,QN,zg])
 ·obtain⟨s,_,H⟩:=h.super D L;rcases H with⟨rfl,_⟩|⟨c,H,rfl⟩
  ·have:(qh (Za l) zC).super=qg:=by
    unfold qh;rw[show Qc (Za l) zC=some ZX from h.find (c:=ZX) (by simp[Za])];rfl
   rw[this]at A;have F:=O (fun x=>x=qg) (fun x I a C=>by
    subst I;exfalso;unfold qp at C;rw[show Qc (Za l) qg=some QN from h.find (c:=QN) (by simp[Za])]at C;simp[QN,zg]at C) this
   have:=F zC (by rw[this];exact A);exact absurd this (by decide)
  ·have G:=h.round c H;unfold zT at G;rw[List.any_eq_false]at G;have:=G _ hs;rw[Zy.2 A]at this;exact this rfl
theorem QdV{w:World}{b:Nat}{A B C D E F:Value}(h:QG w b 0 [A,B,C,D,E,F]):
 w.cell? ⟨b,0,none⟩=some A/\w.cell? ⟨b,1,none⟩=some B/\w.cell? ⟨b,2,none⟩=some C/\w.cell? ⟨b,3,none⟩=some D/\w.cell? ⟨b,4,none⟩=some E/\w.cell? ⟨b,5,none⟩=some F:=by
 obtain⟨G,H,I,J,L,M,_⟩:=h;exact⟨G,H,I,J,L,M⟩
theorem QG.block{w w':World}{b:Nat}(A:w'.heap[b]? = w.heap[b]?):∀{vs:List Value} {o:Nat},QG w b o vs->QG w' b o vs
 |[],_,_=>trivial
 |_::_,o,⟨B,C⟩=>⟨(World.cell?_of_block (w:=w) (a:=⟨b,o,none⟩) A).trans B,C.block A⟩
theorem zdW{cs:List Qb}{f:Nat}{x:Str}(h:(qh cs x).super.size≠0):(zae cs (f+1) x).drop 1=zae cs f (qh cs x).super:=by
 rw[zae,if_neg h];rfl
theorem qdB{cs:List Qb}{f:Nat}{x:Str}(h:(qh cs x).super.size=0):(zae cs f x).drop 1=[]:=by
 cases f with
 |zero=>rfl
 |succ f=>rw[zae,if_pos h];rfl
set_option maxRecDepth 100000
theorem Zbp(w0 w:World)(B:Nat)(l:List Qb)(h:Zk l)(hm:Qp w0 w B (Za l))(n:Str)(i:(Qc (Za l) n).isSome=true):
 Calls Tryz.prog 190 #[.map (some B),.string n] w fun e w'=>(∃v,e=.returned v/\w'.ownsRow w.heap.size 9 1 v (Zq (Za l) n).length ((Zq (Za l) n).map Value.string))/\Below w.heap.size w w':=by
 obtain⟨i0,hi,hz0,hz1,hz2⟩:=info_parts qO;have j:Hid (∀n:Str,(Qc (Za l) n).isSome=true->_):=fun n hn=>hm.look3 h.nodup n (hm.names hn)
 have hUp:Hid (∀n:Str,(Qc (Za l) n).isSome=true->(qh (Za l) n).super.size≠0->_):=fun n h1 h2=>h.up h1 h2
 have h12:(Za l).length<=12:=by have:=h.length;unfold Za;simp;omega
 have hEv:Hid (∀n:Str,(Qc (Za l) n).isSome=true->(Qk (Za l) n).length<=12):=fun n hn=>Xf (zo h.closed hn).1.length h12
 have M:(w.alloc (.cells #[.string n] 9)).ownsRow w.heap.size 9 1 (.slice (some ⟨w.heap.size,0,none⟩) 1 1) 1 [.string n]:=ZZ w w.heap.size (.string n) Xl;obtain⟨U,V,X,Y,Z,a,_,_,_,G⟩:=j.out n i;have m:=(G _ (Xb.alloc Xl (.cells #[.string n] 9))).2;have HK:=Xh i;clear hm h G i;have o:(Qc (Za l) n).getD zg=qh (Za l) n:=rfl;rw[o]at m;have hcn:=Xh (rfl:qh (Za l) n=qh (Za l) n);generalize aB:qh (Za l) n=c0 at m hcn;obtain⟨n0,s0,f0,b0,d0,m0⟩:=c0;have p:=Xh aB;clear aB o;unfold Qz at m;dsimp only at m;go_enter Tryz.func190,Tryz.ntmps190;go_wp2_with fail;go_loopg [5,6] 13 (fun gg v y wr=>∃(x:Str) (f:Nat) (A:List Str) (N:Nat) (U:Option Addr) (V:Nat) (X:Option Addr) (Y:Nat) (Z:Option Addr) (a:Nat) (c:Qb),f<=gg/\Hid (A++(zae (Za l) f x).drop 1=Zq (Za l) n)/\Hid ((Qc (Za l) x).isSome=true)/\Hid ((Qk (Za l) x).length<=f)/\A.length+f<=13/\wr.ownsRow w.heap.size 9 1 v A.length (A.map Value.string)/\(∀g,v.ownBlock=some g->g<N)/\Below w.heap.size w wr/\N<wr.heap.size/\QG wr N 0 [.string c.name,.string c.super,.slice U c.faces.length V,.bool c.face,.slice X c.fields.length Y,.slice Z c.methods.length a]/\Hid (qh (Za l) x=c)/\y=.pointer (some ⟨N,0,none⟩))
 case atStart =>
  have h1:=hEv.out n HK.out;refine⟨n,(Qk (Za l) n).length,[n],w.heap.size+1,U,V,X,Y,Z,a,_,by omega,?_,HK,Xl,by simp;omega,M.alloc _,?_,QR _ _ _,by simp,by simp[QG],p,by simp⟩
  ·unfold Zq;rw[List.singleton_append,<-Qbk];rfl
  ·intro g hg;obtain rfl:w.heap.size=g:=(by injection hg);exact Nat.lt_succ_self _
 case round =>
  clear M m p HK;obtain⟨x,f,A,N,U,V,X,Y,Z,a,c,hfg,HR,HKx,HE,hlen,C,H,hB,hbc,qc,z,rfl⟩:=hrel;obtain⟨va,vc,rfl⟩:=qe C;obtain⟨z0,z1,z2,z3,z4,z5⟩:=QdV qc;have ze:c.super.toList.isEmpty=decide (c.super.size=0):=ZD c.super;by_cases P:c.super.size=0
  ·rw[Xj P]at ze;have q:Hid (A=Zq (Za l) n):=by
    rw[<-HR.out,qdB (by rw[z.out];exact P),List.append_nil];rfl
   have HO:=Xh C;clear P C qc H HR;go_wp2_with fail;go_ret;exact⟨⟨_,rfl,by rw[<-q.out];exact HO.out⟩,hB⟩
  ·rw[Xi P]at ze;obtain⟨T,aA⟩:=hUp.out x HKx.out (by rw[z.out];exact P);rw[z.out]at T aA;have hE:=HE.out;obtain⟨b,rfl⟩:∃b,f=b+1:=⟨f-1,by omega⟩;have R:=HR.out;rw[zdW (by rw[z.out];exact P),z,Qbk]at R;have S:Hid ((A++[c.super])++(zae (Za l) b c.super).drop 1=Zq (Za l) n):=by
    rw[List.append_assoc];exact R
   obtain⟨p1,k1,p2,k2,p3,k3,_,_,_,G⟩:=j.out c.super T;have c2:∀u∈[Value.string c.super],u.oneCell'=true:=fun u hu=>by simp at hu;subst hu;rfl
   have c3:A.length+1<=maxLen:=Xf (show A.length+1<=14 by omega) (by decide);have c4:(A.length+1)*16<=140737488355328:=(by omega);have r:=hB.alloc hB.size (.cells #[.string c.super] 9);have c5:=r.size;have HO:=Xh C;have HS:=Xh H;have HCe:=Xh qc;have HLK:=Xh G;clear G H qc P HR R;go_upto_region 6 with(at_builtin;(refine wpList_append_own_at _ rfl _ _ 25 rfl w.heap.size 9 i0 (.string .empty) 1 16 Tryz.underlying25 hi hz0 hz1 hz2 rfl (by decide) _ _ _ rfl (C.alloc _) ⟨wr.heap.size,0,none⟩ 1 1 [.string c.super] rfl rfl (cell_one_new _ _ _) c2 c3 c4 c5 ?_);intro v3 w3 I E _ hat3)
   have D:w3.ownsRow w.heap.size 9 1 v3 (A++[c.super]).length ((A++[c.super]).map Value.string):=(by simpa using I);have J:Below w.heap.size w w3:=r.grown E c5 (fun k i=>(HO.out.lt k i).1);have s:QG w3 N 0 [.string c.name,.string c.super,.slice U c.faces.length V,.bool c.face,.slice X c.fields.length Y,.slice Z c.methods.length a]:=by
    refine QG.block (E.block N (by simp;omega) (fun he=>?_)) (HCe.out.mono (Xb.alloc Xl _) hbc);have:=HS.out N he.symm;omega
   obtain⟨y0,y1,y2,y3,y4,y5⟩:=QdV s;have L:=(HLK.out _ (J.alloc J.size (.cells #[.string c.name,.string c.super,.slice U c.faces.length V,.bool c.face,.slice X c.fields.length Y,.slice Z c.methods.length a] 36))).2;have t:(Qc (Za l) c.super).getD zg=qh (Za l) c.super:=rfl;rw[t]at L;generalize O:qh (Za l) c.super=d at L;have HD:=Xh O;obtain⟨n2,s2,f2,b2,d2,m2⟩:=d;clear O t;unfold Qz at L;dsimp only at L;have F:=D.alloc (.cells #[.string n2,.string s2,.slice p1 f2.length k1,.bool b2,.slice p2 d2.length k2,.slice p3 m2.length k3] 36);have HB5:=Xh (J.alloc J.size (.cells #[.string n2,.string s2,.slice p1 f2.length k1,.bool b2,.slice p2 d2.length k2,.slice p3 m2.length k3] 36));have HO5:=Xh F;have HO4:=Xh D;clear F D I s z0 z1 z2 z3 z4 z5 C;go_wp2_with fail;go_roundg b
   case measure=>omega
   case rel =>
    refine⟨c.super,b,A++[c.super],w3.heap.size,p1,k1,p2,k2,p3,k3,_,Xl,S,T,?_,by simp;omega,HO5,?_,HB5,by simp,by simp[QG],HD,rfl⟩
    ·show(Qk (Za l) c.super).length<=b;omega
    ·intro g hg;exact(HO4.out.lt g hg).2
set_option maxRecDepth 512
structure zem (w0:World) (l:List Qb) (n:Str) (w:World) (B:Nat):Prop where
 map:Qp w0 w B (Za l)
 right:Zk l
 faults:∀c∈l,qd c=0
 known:(Qc (Za l) n).isSome=true
structure zy (w0 w:World) (B:Nat) (l:List Qb):Prop where
 map:Qp w0 w B (Za l)
 right:Zk l
 faults:∀c∈l,qd c=0
theorem zy.faces{A w:World}{B:Nat}{l:List Qb}(h:zy A w B l):∀c∈Za l,c.faces.length<=8:=zb7 h.faults
theorem zy.step{A w w':World}{B:Nat}{l:List Qb}(h:zy A w B l)(C:Below w.heap.size w w'):zy A w' B l:=⟨h.map.step C,h.right,h.faults⟩
theorem zem.world{A w:World}{B:Nat}{l:List Qb}{n:Str}(h:zem A l n w B):zy A w B l:=⟨h.map,h.right,h.faults⟩
theorem Zk.small{l:List Qb}(h:Zk l):(Za l).length<=12:=by have:=h.length;unfold Za;simp;omega
theorem QdB(a:Str)(l:List Str)(x:Str):QK (a::l) x=(decide (a=x)||QK l x):=rfl
theorem zdC(l:List Str)(k:Nat)(a x:Str)(h:l[k]? = some a):QK (l.drop k) x=(decide (a=x)||QK (l.drop (k+1)) x):=by
 obtain⟨A,rfl⟩:=List.getElem?_eq_some_iff.1 h;rw[List.drop_eq_getElem_cons A,QdB]
theorem zbk(l:List Str)(v:Value)(x:Str)(w:World)(h:Qh w v l):Calls Tryz.prog 38 #[v,.string x] w fun e w'=>e=.returned (.bool (QK l x))/\w=w':=by
 obtain⟨p,cap,rfl,P,R,C⟩:=h.open;have N:=Xh C;have I:l.length<=9223372036854775807:=Xf P R;clear h C;go_enter Tryz.func38,Tryz.ntmps38;go_wp2_with fail;go_loopw [5] (fun i wr=>∃k:Nat,k<=l.length/\Hid (QK (l.drop k) x=QK l x)/\w=wr/\i=.int .i64 k) (fun i _=>l.length-(intOf i).toNat)
 case atStart=>exact⟨0,by omega,rfl,rfl,rfl⟩
 case round =>
  obtain⟨k,T,D,rfl,rfl⟩:=hrel;by_cases F:k<l.length
  ·obtain⟨a,E⟩:∃a,l[k]? = some a:=⟨l[k],by simp[F]⟩;obtain⟨b,o,vs,rfl,L,_,M⟩:=N.out k a E;unfold qs at L;subst L;have O:=M.1;rw[Nat.mul_one]at O;have A:=zdC l k a x E;rw[D.out,<-q8]at A;have S:=Xh E;clear E M;cases J:a.toList==x.toList with
   |true =>
    rw[J,Bool.true_or]at A;have G:=Xh A;clear A;go_wp2_with fail;go_ret;exact⟨by rw[G.out];rfl,rfl⟩
   |false =>
    rw[J,Bool.false_or]at A;have H:=Xh A.symm;clear A;go_wp2_with fail;go_roundw;case rel=>exact⟨k+1,by omega,H.out,by simp,by simp⟩
    case measure=>simp[intOf];omega
  ·obtain rfl:k=l.length:=(by omega);have B:QK l x=false:=(by rw[<-D.out,Xg Xl];rfl);have G:=Xh B;clear B;go_wp2_with fail;go_ret;exact⟨by rw[G.out];rfl,rfl⟩
theorem Qb3(a b:List Str)(_hl:a.length=b.length)(k:Nat)(x y:Str)(B:a[k]? = some x)(C:b[k]? = some y):decide (a.drop k=b.drop k)=(decide (x=y)&&decide (a.drop (k+1)=b.drop (k+1))):=by
 obtain⟨D,rfl⟩:=List.getElem?_eq_some_iff.1 B;obtain⟨A,rfl⟩:=List.getElem?_eq_some_iff.1 C;rw[List.drop_eq_getElem_cons D,List.drop_eq_getElem_cons A,Bool.eq_iff_iff];simp only[decide_eq_true_eq,Bool.and_eq_true,List.cons.injEq]
theorem Zbl{cs:List Qb}{f:Nat}{x:Str}(h:(qh cs x).super.size≠0):zae cs (f+1) x=x::zae cs f (qh cs x).super:=by
 rw[zae,if_neg h]
theorem qbl{cs:List Qb}{f:Nat}{x:Str}(h:(qh cs x).super.size=0):zae cs f x=[x]:=by
 cases f with
 |zero=>rfl
 |succ f=>rw[zae,if_pos h]
theorem Zk.fuel2{l:List Qb}(h:Zk l):∀(f g:Nat) (x:Str),(Qc (Za l) x).isSome=true->(Qk (Za l) x).length<=f->(Qk (Za l) x).length<=g->zae (Za l) f x=zae (Za l) g x:=by
 intro f;induction f with
 |zero =>
  intro g x B G _;have:=List.length_pos_of_mem (zo h.closed B).2.1;omega
 |succ f H =>
  intro g x B G I;have D:=List.length_pos_of_mem (zo h.closed B).2.1;by_cases A:(qh (Za l) x).super.size=0
  ·rw[qbl A,qbl A]
  ·obtain⟨C,E⟩:=h.up B A;obtain⟨F,rfl⟩:∃k,g=k+1:=⟨g-1,by omega⟩;rw[Zbl A,Zbl A,H F _ C (by omega) (by omega)]
theorem Zk.fuel{l:List Qb}(h:Zk l)(f:Nat)(x:Str)(A:(Qc (Za l) x).isSome=true)(B:(Qk (Za l) x).length<=f):zae (Za l) f x=Zq (Za l) x :=
 h.fuel2 f _ x A B Xl
theorem Zk.line_up{l:List Qb}(h:Zk l){x:Str}(D:(Qc (Za l) x).isSome=true)(C:(qh (Za l) x).super.size≠0):Zq (Za l) x=x::Zq (Za l) (qh (Za l) x).super:=by
 obtain⟨A,E⟩:=h.up D C;obtain⟨k,B⟩:∃k,(Qk (Za l) x).length=k+1:=⟨(Qk (Za l) x).length-1,by omega⟩;unfold Zq;rw[B,Zbl C];congr 1;exact h.fuel k _ A (by omega)
theorem Zk.line_top{l:List Qb}{x:Str}(A:(qh (Za l) x).super.size=0):Zq (Za l) x=[x]:=by
 unfold Zq;rw[qbl A]
theorem Zk.top{l:List Qb}(h:Zk l){x:Str}(E:(Qc (Za l) x).isSome=true)(A:(qh (Za l) x).super.size=0):x=qg:=by
 by_cases D:x=qg
 ·exact D
 ·exfalso;obtain⟨s,_,B⟩:=h.super E D;rcases B with⟨rfl,_⟩|⟨c,B,rfl⟩
  ·have:qh (Za l) zC=ZX:=by
    unfold qh;rw[show Qc (Za l) zC=some ZX from h.find (c:=ZX) (by simp[Za])];rfl
   rw[this]at A;exact absurd A (by decide)
  ·have:qh (Za l) c.name=c:=by
    unfold qh;rw[h.find (c:=c) (by simp[Za,B])];rfl
   rw[this]at A;have C:=h.joined c B;unfold Qv at C;rw[if_pos A]at C;cases C
theorem Zk.line_facts{l:List Qb}(h:Zk l):∀(k:Nat) (x:Str),(Qc (Za l) x).isSome=true->(Qk (Za l) x).length<=k ->
 (∀y∈Zq (Za l) x,y∈Qk (Za l) x)/\∃t,Zq (Za l) x=t++[qg]:=by
 intro k;induction k with
 |zero =>
  intro x A L;have:=List.length_pos_of_mem (zo h.closed A).2.1;omega
 |succ k O =>
  intro x A L;obtain⟨P,F,G,R⟩:=zo h.closed A;by_cases C:(qh (Za l) x).super.size=0
  ·rw[Zk.line_top C];refine⟨fun y B=>?_,[],by rw[h.top A C];rfl⟩;simp at B;subst B;exact F
  ·obtain⟨D,H⟩:=h.up A C;have hs:(qh (Za l) x).super∈qp (Za l) x:=(by unfold qp qh at *;rw[if_neg C];simp);obtain⟨I,t,J⟩:=O _ D (by omega);rw[h.line_up A C];refine⟨fun y B=>?_,x::t,by rw[J];rfl⟩;rcases List.mem_cons.1 B with rfl|B
   ·exact F
   ·have E:=I y B;exact(zo h.closed D).2.2.2 (fun z=>z∈Qk (Za l) x) (fun z M a N=>G z M a N) (G x F _ hs) y E
theorem zb0(n s:Str)(A B C:Value)(b:Bool)(w:World):(Instr.field 36 (.agg #[.string n,.string s,A,.bool b,B,C]) 3).run Tryz.prog w=.ok (.bool b) w:=by kernel_rfl
theorem qcx(n s:Str)(A B:Value)(p:Option Addr)(k c:Nat)(b:Bool)(w:World):(Instr.field 36 (.agg #[.string n,.string s,A,.bool b,.slice p k c,B]) 4).run Tryz.prog w=.ok (.slice p k c) w:=by kernel_rfl
end Go.Proofs.YtlmfmioljeppfaaGreatDoor
