/- Lemmas; conditions: as each states. -/
import Derived.Test.YtlmfmioljeppfaaGreatDoorStepAny
set_option maxHeartbeats 4000000
namespace Go.Proofs.YtlmfmioljeppfaaGreatDoor
open Go.RowKit Go.Shelf Go.Lib
theorem Qdz{S A:List Str}{t:Str}(h:zI S=some (t,A)):S=A++[t]:=by
 rcases List.eq_nil_or_concat S with rfl|⟨r,x,rfl⟩
 ·cases h
 ·rw[List.concat_eq_append]at *;rw[ZO]at h;injection h with h
  injection h with B C
  rw[B,C]
theorem zdA{S A:List Str}{t:Str}(h:ZK S t=some A):A=S++[t]:=by
 unfold ZK at h;split at h
 ·injection h with h;exact h.symm
 ·cases h
theorem ZdA{L S A B:List Str}{t:Str}(h:Zv L S t=some (A,B)):A=L/\ZK S t=some B:=by
 unfold Zv at h;cases C:ZK S t with
 |none=>rw[C]at h;cases h
 |some x =>
  rw[C]at h;injection h with h
  injection h with D E
  exact⟨D.symm,by rw[E]⟩
theorem Qy{α β:Type}{o:Option α}{f:α->Option β}{y:β}(h:o.bind f=some y):∃x,o=some x/\f x=some y:=by
 cases o with
 |none=>cases h
 |some x=>exact⟨x,rfl,h⟩
theorem Q8{α β:Type}{o:Option α}{f:α->β}{y:β}(h:o.map f=some y):∃x,o=some x/\f x=y:=by
 cases o with
 |none=>cases h
 |some x=>exact⟨x,rfl,by injection h⟩
theorem Qaj{α β:Type}{a c:α}{b d:β}(h:(a,b)=(c,d)):a=c/\b=d:=by injection h with A B;exact⟨A,B⟩
def LeL(cs:List Qb):List Str->List Str->Prop
 |[],[]=>True
 |x::r,y::s=>qap cs (Zo x) (Zo y)/\LeL cs r s
 |_,_=>False
theorem LeL.len{cs:List Qb}:∀{A B:List Str},LeL cs A B->A.length=B.length
 |[],[],_=>rfl
 |_::_,_::_,h=>by simp[LeL.len h.2]
theorem LeL.snoc_inv{cs:List Qb}{y:Str}:∀{A B:List Str},LeL cs A (B++[y])->∃C x,A=C++[x]/\LeL cs C B/\qap cs (Zo x) (Zo y)
 |[],[],h=>h.elim
 |[],_::_,h=>h.elim
 |[x],[],h=>⟨[],x,rfl,trivial,h.1⟩
 |_::_::_,[],h=>h.2.elim
 |a::r,b::s,h=>by
  obtain⟨C,x,e,D,E⟩:=LeL.snoc_inv (A:=r) (B:=s) h.2;exact⟨a::C,x,by rw[e];rfl,⟨h.1,D⟩,E⟩
theorem LeL.snoc{cs:List Qb}{x y:Str}(C:qap cs (Zo x) (Zo y)):∀{A B:List Str},LeL cs A B->LeL cs (A++[x]) (B++[y])
 |[],[],_=>⟨C,trivial⟩
 |_::_,_::_,h=>⟨h.1,LeL.snoc C h.2⟩
theorem LeL.get{cs:List Qb}{y:Str}:∀{A B:List Str} {i:Nat},LeL cs A B->B[i]? = some y->∃x,A[i]? = some x/\qap cs (Zo x) (Zo y)
 |[],[],i,_,h=>by simp at h
 |a::r,b::s,0,h,C=>by simp at C;subst C;exact⟨a,by simp,h.1⟩
 |a::r,b::s,i+1,h,C=>by
  obtain⟨x,D,E⟩:=LeL.get (i:=i) h.2 (by simpa using C);exact⟨x,by simpa using D,E⟩
theorem LeL.set{cs:List Qb}{x y:Str}(C:qap cs (Zo x) (Zo y)):∀{A B:List Str} {i:Nat},LeL cs A B->LeL cs (A.set i x) (B.set i y)
 |[],[],_,_=>trivial
 |_::_,_::_,0,h=>⟨C,h.2⟩
 |_::_,_::_,i+1,h=>⟨h.1,LeL.set C (i:=i) h.2⟩
structure LeF (cs:List Qb) (A B:List Str):Prop where
 le:LeL cs A B
 ka:Qm cs A
 kb:Qm cs B
 sm:A.length<=8
theorem QI{cs:List Qb}{k:Str}(h:zd cs k=0):qK cs (Zo k)=true:=by
 obtain⟨X,A,B⟩:=ZM h;rw[qz A];exact B
theorem Qb4{cs:List Qb}{S:List Str}{k:Str}(h:Qm cs S)(B:zd cs k=0):Qm cs (S++[k]):=fun x A=>by
 rcases List.mem_append.1 A with A|A
 ·exact h x A
 ·simp at A;subst A;exact B
theorem Zco{cs:List Qb}{S:List Str}{k:Str}{i:Nat}(h:Qm cs S)(B:zd cs k=0):Qm cs (S.set i k):=fun x A=>by
 rcases List.mem_or_eq_of_mem_set A with A|A
 ·exact h x A
 ·rw[A];exact B
variable {l:List Qb}
theorem Qar{C D E:List Str}{t:Str}(h:LeF (Za l) C D)(F:zI D=some (t,E)):∃u B,zI C=some (u,B)/\qap (Za l) (Zo u) (Zo t)/\zd (Za l) u=0/\zd (Za l) t=0/\LeF (Za l) B E:=by
 have hs:=Qdz F;have G:=h.le;rw[hs]at G;obtain⟨H,x,e,J,L⟩:=G.snoc_inv;obtain⟨M,N⟩:=qae F h.kb;have A:zI C=some (x,H):=by rw[e,ZO]
 obtain⟨O,P⟩:=qae A h.ka;have I:=h.sm;rw[e,List.length_append]at I;exact⟨x,H,A,L,O,M,J,P,N,by omega⟩
theorem ZbC{D E F:List Str}{u t:Str}(h:LeF (Za l) D E)(C:qap (Za l) (Zo u) (Zo t))(H:zd (Za l) u=0)(I:zd (Za l) t=0)(B:ZK E t=some F):∃A,ZK D u=some A/\LeF (Za l) A F:=by
 have hs:=zdA B;unfold ZK at B ⊢;split at B
 ·rename_i G;rw[if_pos (by rw[h.le.len];exact G)];subst hs;exact⟨_,rfl,h.le.snoc C,Qb4 h.ka H,Qb4 h.kb I,by rw[List.length_append,h.le.len];exact G⟩
 ·cases B
theorem qa7{C E F G H I:List Str}{u t:Str}(J:LeF (Za l) C E)(h:LeF (Za l) F G)(D:qap (Za l) (Zo u) (Zo t))(L:zd (Za l) u=0)(M:zd (Za l) t=0)(N:Zv E G t=some (H,I)):∃B A,Zv C F u=some (B,A)/\LeF (Za l) B H/\LeF (Za l) A I:=by
 obtain⟨e,O⟩:=ZdA N;subst e;obtain⟨A,P,R⟩:=ZbC h D L M O;exact⟨C,A,zD P,J,R⟩
theorem QV{C D E F G H:List Str}{t:Str}(J:LeF (Za l) C D)(h:LeF (Za l) E F)(I:zd (Za l) t=0)(L:Zv D F t=some (G,H)):∃A B,Zv C E t=some (A,B)/\LeF (Za l) A G/\LeF (Za l) B H :=
 qa7 J h (Za7 _ _) I I L
theorem ZJ(F:Zk l):∀{ks C D E:List Str},LeF (Za l) C D->zh (Za l) ks D=some E->∃B,zh (Za l) ks C=some B/\LeF (Za l) B E/\∀k∈ks,zd (Za l) k=0
 |[],C,D,E,h,A=>by injection A with A;subst A;exact⟨C,rfl,h,fun k V=>by cases V⟩
 |k::r,C,D,E,h,A=>by
  unfold zh at A ⊢;split at A
  ·cases A
  ·rename_i J;rw[if_neg J];cases G:zI D with
   |none=>rw[G]at A;cases A
   |some p =>
    obtain⟨t,X⟩:=p;rw[G]at A;obtain⟨u,M,N,O,I,Y,P⟩:=Qar h G;rw[N];dsimp only at A ⊢;split at A
    ·rename_i U;have L:=zb5 F (QI I) (qdq F (QI I) O) U;rw[if_pos L];obtain⟨B,R,S,T⟩:=ZJ F P A;exact⟨B,R,S,fun x H=>by
      rcases List.mem_cons.1 H with e|H
      ·rw[e];exact Decidable.not_not.1 J
      ·exact T x H⟩
    ·cases A
theorem zdU{cs:List Qb}{x y:Kd}(h:qap cs x y)(B:Z9 y=true):Z9 x=true:=by
 cases y with
 |t=>cases B
 |n=>cases x with
  |n=>rfl
  |t=>exact h.elim
  |ty x=>exact h.elim
 |ty y=>cases x with
  |n=>rfl
  |t=>exact h.elim
  |ty x =>
   have A:zm y=true:=B;cases x<;>cases y<;>first|rfl|exact h.elim|cases A
theorem QaN{B C D:List Str}{t:Str}(h:LeF (Za l) B C)(F:zK C=some (t,D)):∃u A,zK B=some (u,A)/\qap (Za l) (Zo u) (Zo t)/\zd (Za l) u=0/\zd (Za l) t=0/\LeF (Za l) A D:=by
 obtain⟨G,H⟩:=Qa7 F;obtain⟨u,A,I,E,J,L,M⟩:=Qar h G;refine⟨u,A,?_,E,J,L,M⟩;unfold zK;rw[I,Option.bind_some];dsimp only;rw[if_pos (zdU E H)]
theorem ZdU(E:Zk l){u t x:Str}(h:qap (Za l) (Zo u) (Zo t))(G:qK (Za l) (Zo u)=true)(A:qaW (Za l) t x=true):qaW (Za l) u x=true:=by
 unfold qaW at A ⊢;generalize Zo u=a at *;generalize Zo t=b at *;cases b with
 |t=>cases A
 |n=>cases a with
  |n=>rfl
  |t=>exact h.elim
  |ty x=>exact h.elim
 |ty y=>cases y with
  |i=>cases A
  |j=>cases A
  |cl c=>cases A
  |ar e=>cases a with
   |n=>rfl
   |t=>exact h.elim
   |ty z=>cases z with
    |i=>exact h.elim
    |j=>exact h.elim
    |cl c=>exact h.elim
    |ar d =>
     dsimp only at A ⊢;rw[Bool.and_eq_true]at A;have C:qap (Za l) (.ty d) (.ty e):=h;have B:qK (Za l) (.ty d)=true:=G;have F:=qdq E B C;have D:zm d=zm e:=Zbk (cs:=Za l) (x:=d) (y:=e) F;rw[zb5 E B F A.1,D,A.2];rfl
theorem ZbK(D:Zk l){E F G:List Str}{t:Str}(h:LeF (Za l) E F)(A:qJ (Za l) t F=some G):∃B,qJ (Za l) t E=some B/\LeF (Za l) B G/\zd (Za l) t=0:=by
 unfold qJ at A ⊢;split at A
 ·cases A
 ·rename_i H;rw[if_neg H];obtain⟨U,I,A⟩:=Qy A;obtain⟨⟨x,V⟩,J,A⟩:=Qy A;obtain⟨L,M,N,_⟩:=ZJ D h I;obtain⟨u,C,O,P,R,_,S⟩:=QaN N J;rw[Qe M,Qe O];dsimp only at A ⊢;split at A
  ·rename_i T;injection A with A
   subst A;rw[if_pos (ZdU D P (QI R) T)];exact⟨C,rfl,S,Decidable.not_not.1 H⟩
  ·cases A
theorem qdA{D G E H I J:List Str}{g:Str}(L:LeF (Za l) D G)(h:LeF (Za l) E H)(A:ZaZ (Za l) G H g=some (I,J)):∃B C,ZaZ (Za l) D E g=some (B,C)/\LeF (Za l) B I/\LeF (Za l) C J:=by
 unfold ZaZ at A ⊢;split at A
 ·rename_i F;injection A with A
  obtain⟨N,O⟩:=Qaj A;subst N O;rw[if_pos F];exact⟨D,E,rfl,L,h⟩
 ·rename_i F;rw[if_neg F];unfold zdv at A ⊢;split at A
  ·rename_i M;rw[if_pos M];exact QV L h M A
  ·cases A
theorem Qc8(F:Zk l){static:Bool}{cls:Str}{C D E:List Str}(h:LeF (Za l) C D)(B:qaZ (Za l) static cls D=some E):∃A,qaZ (Za l) static cls C=some A/\LeF (Za l) A E:=by
 unfold qaZ at B ⊢;split at B
 ·rename_i hs;injection B with B
  subst B;rw[if_pos hs];exact⟨C,rfl,h⟩
 ·rename_i hs;rw[if_neg hs];obtain⟨A,G,H,_⟩:=ZJ F h B;exact⟨A,G,H⟩
theorem Zb5(F:Zk l){qb cls C B:Str}{static:Bool}{G H I J L M:List Str}(O:LeF (Za l) G H)(h:LeF (Za l) I J)(A:qam (Za l) qb cls C B static H J=some (L,M)):∃D E,qam (Za l) qb cls C B static G I=some (D,E)/\LeF (Za l) D L/\LeF (Za l) E M:=by
 unfold qam at A ⊢;split at A
 ·cases A
 ·rename_i Z;rw[if_neg Z];cases N:Zm B with
  |none=>rw[N]at A;cases A
  |some p =>
   obtain⟨args,g⟩:=p;rw[N]at A;dsimp only at A ⊢;obtain⟨a,P,A⟩:=Qy A;obtain⟨b,R,A⟩:=Qy A;obtain⟨S,T,U,_⟩:=ZJ F h P;obtain⟨V,X,Y⟩:=Qc8 F U R;rw[Qe T,Qe X];exact qdA O Y A
theorem qbC{cs:List Qb}{t:Str}(h:zah (lst t)=true):zd cs t=0:=by
 have A:lst t=[73]\/lst t=[74]:=by
  unfold zah at h;simpa using h
 rcases A with e|e
 ·exact qaD (x:=.i) (by rw[e];rfl) rfl (by decide) rfl
 ·exact qaD (x:=.j) (by rw[e];rfl) rfl (by decide) rfl
theorem zc9{cs:List Qb}:zd cs kI=0:=qbC (by decide)
theorem zeq{cs:List Qb}:zd cs kN=0:=by unfold zd;rw[if_pos (show lst kN=[78]\/lst kN=[84] from Or.inl rfl)]
theorem qdU{u t:Str}(F:zd (Za l) u=0)(G:zd (Za l) t=0)(h:qap (Za l) (Zo u) (Zo t))(A:zX t=true):zX u=true:=by
 obtain⟨X,C,_⟩:=ZM F;obtain⟨Y,D,_⟩:=ZM G;rw[qz C,qz D]at h;have e:∀(k:Str) (Z:Kd),Qo Z=lst k->zX k=(decide (Z=.n)||(match Z with|.ty (.ar _)=>true|_=>false)):=by
  intro k Z E;unfold zX;have B:=ZP E .n;rw[show Qo Kd.n=[78] from rfl]at B;rw[B,show k.toList=Qo Z by rw[E,ByteArray.toList_eq]];cases Z with
  |n=>rfl
  |t=>rfl
  |ty z=>cases z<;>rfl
 rw[e u X C];rw[e t Y D]at A;cases Y with
 |t=>cases A
 |n=>cases X with
  |n=>rfl
  |t=>exact h.elim
  |ty x=>exact h.elim
 |ty y=>cases y with
  |i=>cases A
  |j=>cases A
  |cl c=>cases A
  |ar e=>cases X with
   |n=>rfl
   |t=>exact h.elim
   |ty x=>cases x with
    |ar d=>rfl
    |i=>exact h.elim
    |j=>exact h.elim
    |cl c=>exact h.elim
theorem QdA{D E F G H I:List Str}{cls:Str}(J:LeF (Za l) D E)(h:LeF (Za l) F G)(L:zd (Za l) (Zd cls)=0)(C:Zbb (Za l) cls E G=some (H,I)):∃A B,Zbb (Za l) cls D F=some (A,B)/\LeF (Za l) A H/\LeF (Za l) B I:=by
 unfold Zbb at C ⊢;split at C
 ·cases C
 ·rename_i M;rw[if_neg M];exact QV J h L C
theorem qcM{C a b:Int}{A cls B:Str}(h:Zi ⟨C,a,b,A,cls,B⟩=0)(F:C=2\/C=9\/C=10):zah (lst A)=true:=by
 unfold Zi at h;split at h
 ·cases h
 ·split at h
  ·cases h
  ·split at h
   ·cases h
   ·split at h
    ·cases h
    ·rename_i E;simp only[Bool.or_eq_true,not_or,Bool.not_eq_true',Bool.not_eq_true]at E;have D:=E.1.1;unfold qy at D;rw[if_pos F]at D;simpa using D
theorem zee{C a b:Int}{A cls B:Str}(h:Zi ⟨C,a,b,A,cls,B⟩=0)(F:C=18\/C=20\/C=21):Zs (91::lst A)=true:=by
 unfold Zi at h;split at h
 ·cases h
 ·split at h
  ·cases h
  ·split at h
   ·cases h
   ·split at h
    ·cases h
    ·rename_i E;simp only[Bool.or_eq_true,not_or,Bool.not_eq_true',Bool.not_eq_true]at E;have D:=E.1.1;unfold qy at D;rw[if_neg (by dsimp only;omega),if_pos F]at D;simp at D;exact D.2
theorem QdU{t:Str}(D:zd (Za l) t=0)(C:Zs (91::lst t)=true):zd (Za l) (ZF t)=0:=by
 rw[<-Qa0]at C;obtain⟨y,B⟩:=Zaq C;have A:=B.text;rw[Qa0]at A;cases y with
 |i=>cases A
 |j=>cases A
 |cl c=>simp[Zf]at A
 |ar e =>
  have E:Zf e=lst t:=by
   simp only[Zf,List.cons.injEq]at A;exact A.2
  obtain⟨_,F⟩:=qbk E D;exact qaD B.text B.name B.deep F
variable {l:List Qb}
def qb5(cs:List Qb)(oa:Option (List Str×List Str))(L' S':List Str):Prop:=∃La' Sa',oa=some (La',Sa')/\LeF cs La' L'/\LeF cs Sa' S'
theorem Zee{u t:Str}(F:zd (Za l) u=0)(G:zd (Za l) t=0)(h:qap (Za l) (Zo u) (Zo t))(A:¬(t.toList==[84])=true):¬(u.toList==[84])=true:=by
 obtain⟨X,D,_⟩:=ZM F;obtain⟨Y,E,_⟩:=ZM G;rw[qz D,qz E]at h;have B:=ZP D .t;have C:=ZP E .t;rw[show Qo Kd.t=[84] from rfl]at B C;rw[C]at A;rw[B];intro e;have H:=Xm e;subst H;cases Y with
 |t=>exact A (Xj rfl)
 |n=>exact h.elim
 |ty y=>exact h.elim
theorem Zc9{E D F G H I:List Str}{a:Int}(B:LeF (Za l) E D)(N:LeF (Za l) F G)(h:zaO D G a=some (H,I)):qb5 (Za l) (zaO E F a) H I:=by
 unfold zaO at h ⊢;cases C:D[a.toNat]? with
 |none=>rw[C]at h;cases h
 |some t =>
  rw[C]at h;dsimp only at h;split at h
  ·cases h
  ·rename_i O;obtain⟨u,M,A⟩:=B.le.get C;have J:=B.kb t (Xe C);have L:=B.ka u (Xe M);rw[M];dsimp only;rw[if_neg (Zee L J A O)];exact qa7 B N A L J h
theorem QcM{B C D E F G:List Str}{a:Int}(A:LeF (Za l) B C)(H:LeF (Za l) D E)(h:QaD C E a=some (F,G)):qb5 (Za l) (QaD B D a) F G:=by
 unfold QaD at h ⊢;obtain⟨⟨t,U⟩,I,h⟩:=Qy h;obtain⟨u,J,L,M,N,O,P⟩:=Qar H I;rw[Qe L];dsimp only at h ⊢;split at h
 ·rename_i T;injection h with h
  obtain⟨R,S⟩:=Qaj h;subst R S;rw[if_pos (by rw[A.le.len];exact T)];exact⟨_,_,rfl,⟨A.le.set M,Zco A.ka N,Zco A.kb O,by rw[List.length_set];exact A.sm⟩,P⟩
 ·cases h
theorem zcN(O:Zk l){Zb:Str}{x:Ins}{L g c i L' S':List Str}(hi:Zi x=0)(F:LeF (Za l) L g)(G:LeF (Za l) c i)(h:qN (Za l) Zb x g i=some (L',S')):qb5 (Za l) (qN (Za l) Zb x L c) L' S':=by
 obtain⟨I,a,b,J,cls,N⟩:=x;obtain⟨e2,e3,e4,e5,e6,e7,e8,e9,y,z,aA,aB,aC,aD,aE⟩:=za8 (Za l) Zb a b J cls N g i;obtain⟨g2,g3,g4,g5,g6,g7,g8,g9,aF,aG,aH,aI,aJ,aK,aL⟩:=za8 (Za l) Zb a b J cls N L c;by_cases j:I=2
 ·subst j;rw[e2]at h;rw[g2];exact QV F G (qbC (qcM hi (Or.inl rfl))) h
 by_cases k:I=3
 ·subst k;rw[e3]at h;rw[g3];exact QV F G zeq h
 by_cases m:I=4
 ·subst m;rw[e4]at h;rw[g4];exact Zc9 F G h
 by_cases n:I=5
 ·subst n;rw[e5]at h;rw[g5];exact QcM F G h
 by_cases o:I=6
 ·subst o;rw[e6]at h;rw[g6];obtain⟨⟨t,M⟩,B,h⟩:=Q8 h;obtain⟨u,A,C,_,_,_,Y⟩:=Qar G B;obtain⟨D,E⟩:=Qaj h;subst D E;exact⟨L,A,Z6 C,F,Y⟩
 by_cases p:I=7
 ·subst p;rw[e7]at h;rw[g7];obtain⟨⟨t,M⟩,B,h⟩:=Qy h;obtain⟨S2,Z,h⟩:=Qy h;dsimp only at Z h;obtain⟨u,A,C,H,e,f,Y⟩:=Qar G B;obtain⟨d,D,E⟩:=ZbC Y H e f Z;rw[Qe C];dsimp only;rw[Qe D];exact qa7 F E H e f h
 by_cases q:I=8
 ·subst q;rw[e8]at h;rw[g8];obtain⟨⟨t,M⟩,B,h⟩:=Qy h;obtain⟨⟨s,S2⟩,Z,h⟩:=Qy h;obtain⟨S3,h3,h⟩:=Qy h;dsimp only at Z h3 h;obtain⟨u,A,C,H,e,f,Y⟩:=Qar G B;obtain⟨v,d,r1,r2,r3,r4,r5⟩:=Qar Y Z;obtain⟨Sa3,D,E⟩:=ZbC r5 H e f h3;rw[Qe C];dsimp only;rw[Qe r1];dsimp only;rw[Qe D];exact qa7 F E r2 r3 r4 h
 by_cases r:I=9
 ·subst r;rw[e9]at h;rw[g9];obtain⟨M,B,h⟩:=Qy h;obtain⟨S2,Z,h⟩:=Qy h;obtain⟨A,C,H,_⟩:=ZJ O G B;obtain⟨d,D,E,q3⟩:=ZJ O H Z;rw[Qe C,Qe D];exact QV F E (q3 J (by simp)) h
 by_cases P:I=10
 ·subst P;rw[y]at h;rw[aF];obtain⟨M,B,h⟩:=Qy h;obtain⟨A,C,H,_⟩:=ZJ O G B;rw[Qe C];exact QV F H (qbC (qcM hi (Or.inr (Or.inr rfl)))) h
 by_cases R:I=11
 ·subst R;rw[z]at h;rw[aG];obtain⟨M,B,h⟩:=Qy h;obtain⟨A,C,H,_⟩:=ZJ O G B;rw[Qe C];exact QV F H zc9 h
 by_cases S:I=12
 ·subst S;rw[aA]at h;rw[aH];obtain⟨M,B,h⟩:=Q8 h;obtain⟨A,C,H,_⟩:=ZJ O G B;obtain⟨D,E⟩:=Qaj h;subst D E;exact⟨L,A,Z6 C,F,H⟩
 by_cases T:I=13
 ·subst T;rw[aB,QbS]at h;rw[aI,QbS];obtain⟨⟨t,M⟩,B,h⟩:=Q8 h;obtain⟨u,A,C,_,_,_,Y⟩:=QaN G B;obtain⟨D,E⟩:=Qaj h;subst D E;exact⟨L,A,Z6 C,F,Y⟩
 by_cases U:I=26
 ·subst U;rw[aC]at h;rw[aJ];split at h
  ·rename_i hv;injection h with h
   obtain⟨D,E⟩:=Qaj h;subst D E;rw[if_pos hv];exact⟨L,c,rfl,F,G⟩
  ·cases h
 by_cases V:I=27
 ·subst V;rw[aD]at h;rw[aK];split at h
  ·cases h
  ·rename_i hv;obtain⟨M,B,h⟩:=Q8 h;obtain⟨A,C,H,_⟩:=ZJ O G B;obtain⟨D,E⟩:=Qaj h;subst D E;rw[if_neg hv];exact⟨L,A,Z6 C,F,H⟩
 by_cases X:I=28
 ·subst X;rw[aE]at h;rw[aL];obtain⟨M,B,h⟩:=Q8 h;obtain⟨A,C,H,_⟩:=ZJ O G B;obtain⟨D,E⟩:=Qaj h;subst D E;exact⟨L,A,Z6 C,F,H⟩
 rw[Q6 ⟨j,k,m,n,o,p,q,r,P,R,S,T,U,V,X⟩]at h;rw[Q6 ⟨j,k,m,n,o,p,q,r,P,R,S,T,U,V,X⟩];injection h with h
 obtain⟨D,E⟩:=Qaj h;subst D E;exact⟨L,c,rfl,F,G⟩
theorem ZaO{t:Str}{C D:Option (List Str×List Str)}{A B:List Str}(h:knK (Za l) t D=some (A,B))(g:zd (Za l) t=0->D=some (A,B)->qb5 (Za l) C A B):qb5 (Za l) (knK (Za l) t C) A B:=by
 unfold knK at h ⊢;split at h
 ·cases h
 ·rename_i E;rw[if_neg E];exact g (Decidable.not_not.1 E) h
theorem zcA(H:Zk l){qb:Str}{x:Ins}{c j i k L' S':List Str}(hi:Zi x=0)(D:LeF (Za l) c j)(E:LeF (Za l) i k)(h:zP (Za l) qb x j k=some (L',S')):qb5 (Za l) (zP (Za l) qb x c i) L' S':=by
 obtain⟨F,a,b,I,cls,J⟩:=x;obtain⟨m,n,o,p,q,r,s,v,y,z,aA⟩:=ZaT (Za l) qb a b I cls J j k;obtain⟨aB,aC,aD,aE,aF,aG,aH,aI,aJ,aK,aL⟩:=ZaT (Za l) qb a b I cls J c i;by_cases L:F=15
 ·subst L;rw[m]at h;rw[aB];exact ZaO h (fun g h=>QdA D E g h)
 by_cases M:F=16
 ·subst M;rw[n]at h;rw[aC];obtain⟨t,C,h⟩:=Qy h;obtain⟨Y,Z,h⟩:=Qy h;obtain⟨A,B,G,_⟩:=ZJ H E Z;rw[Qe C,Qe B];exact QV D G (Zao C).2 h
 by_cases N:F=17
 ·subst N;rw[o]at h;rw[aD];obtain⟨t,C,h⟩:=Qy h;obtain⟨Y,Z,h⟩:=Q8 h;obtain⟨A,B,G,_⟩:=ZJ H E Z;obtain⟨d,e⟩:=Qaj h;subst d e;rw[Qe C];exact⟨c,A,Z6 B,D,G⟩
 by_cases O:F=18
 ·subst O;rw[p]at h;rw[aE];refine ZaO h (fun g h=>?_);obtain⟨Y,Z,h⟩:=Qy h;obtain⟨A,B,G,_⟩:=ZJ H E Z;rw[Qe B];exact QV D G (QdU g (zee hi (Or.inl rfl))) h
 by_cases P:F=19
 ·subst P;rw[q]at h;rw[aF];obtain⟨⟨t,Y⟩,C,h⟩:=Qy h;obtain⟨u,A,B,G,p3,p4,f⟩:=QaN E C;rw[Qe B];dsimp only at h ⊢;split at h
  ·rename_i hl;rw[if_pos (qdU p3 p4 G hl)];exact QV D f zc9 h
  ·cases h
 by_cases R:F=20
 ·subst R;rw[r]at h;rw[aG];obtain⟨Y,C,h⟩:=Qy h;obtain⟨A,B,G,p3⟩:=ZbK H E C;rw[Qe B];exact QV D G p3 h
 by_cases S:F=21
 ·subst S;rw[s]at h;rw[aH];refine ZaO h (fun _ h=>?_);obtain⟨Y,C,h⟩:=Qy h;obtain⟨S2,Z,h⟩:=Q8 h;obtain⟨A,B,G,_⟩:=ZJ H E C;obtain⟨Sa2,r1,r2,_⟩:=ZbK H G Z;obtain⟨d,e⟩:=Qaj h;subst d e;rw[Qe B];exact⟨c,Sa2,Z6 r1,D,r2⟩
 by_cases T:F=22
 ·subst T;rw[v]at h;rw[aI];refine ZaO h (fun g h=>?_);obtain⟨⟨t,Y⟩,C,h⟩:=Qy h;obtain⟨u,A,B,_,_,_,f⟩:=QaN E C;rw[Qe B];exact QV D f g h
 by_cases U:F=23
 ·subst U;rw[y]at h;rw[aJ];refine ZaO h (fun _ h=>?_);obtain⟨⟨t,Y⟩,C,h⟩:=Qy h;obtain⟨u,A,B,_,_,_,f⟩:=QaN E C;rw[Qe B];exact QV D f zc9 h
 by_cases V:F=24
 ·subst V;rw[z]at h;rw[aK];exact Zb5 H D E h
 by_cases X:F=25
 ·subst X;rw[aA]at h;rw[aL];exact Zb5 H D E h
 rw[zaj ⟨L,M,N,O,P,R,S,T,U,V,X⟩]at h;rw[zaj ⟨L,M,N,O,P,R,S,T,U,V,X⟩];injection h with h
 obtain⟨d,e⟩:=Qaj h;subst d e;exact⟨c,i,rfl,D,E⟩
theorem QbX(A:Zk l){qb Zb:Str}{x:Ins}{B C D E F G:List Str}(H:Zi x=0)(I:LeF (Za l) B C)(J:LeF (Za l) D E)(h:zp (Za l) qb Zb x C E=some (F,G)):qb5 (Za l) (zp (Za l) qb Zb x B D) F G:=by
 unfold zp at h ⊢;obtain⟨⟨T,U⟩,L,M⟩:=Qy h;obtain⟨N,O,P,R,S⟩:=zcN A H I J L;rw[Qe P];exact zcA A H R S M
theorem Zbd{α:Type}{f:α->Nat}:∀{l:List α},(∀x∈l,f x=0)->Zh f l=0
 |[],_=>rfl
 |x::r,h=>by
  unfold Zh;rw[if_pos (h x (by simp))];exact Zbd (fun y A=>h y (List.mem_cons_of_mem _ A))
theorem Qaz{cs:List Qb}{f:Frm}(D:f.locals.length<=8)(E:f.stack.length<=8)(A:Qm cs f.locals)(B:Qm cs f.stack):Qx cs f=0:=by
 unfold Qx;rw[if_neg (by omega)];exact Zbd (fun x C=>(List.mem_append.1 C).elim (A x) (B x))
end Go.Proofs.YtlmfmioljeppfaaGreatDoor
