/- Lemmas; conditions: as each states. -/
import Derived.Test.YtmclocdhcblbiaaGreatDoorZStepAny
set_option maxHeartbeats 4000000
namespace Go.Proofs.YtmclocdhcblbiaaGreatDoor
open Go.RowKit Go.Shelf Go.Lib
theorem qej{S S':List Str}{t:Str}(h:zC S=some (t,S')):S=S'++[t]:=by
 rcases List.eq_nil_or_concat S with rfl|⟨r,x,rfl⟩
 ·cases h
 ·rw[List.concat_eq_append]at *;rw[zba]at h;injection h with h
  injection h with A B
  rw[A,B]
theorem Qej{S S':List Str}{t:Str}(h:QP S t=some S'):S'=S++[t]:=by
 unfold QP at h;split at h
 ·injection h with h;exact h.symm
 ·cases h
theorem zek{L S A S':List Str}{t:Str}(h:qq L S t=some (A,S')):A=L/\QP S t=some S':=by
 unfold qq at h;cases B:QP S t with
 |none=>rw[B]at h;cases h
 |some x =>
  rw[B]at h;injection h with h
  injection h with C D
  exact⟨C.symm,by rw[D]⟩
theorem zu{α β:Type}{o:Option α}{f:α->Option β}{y:β}(h:o.bind f=some y):∃x,o=some x/\f x=some y:=by
 cases o with
 |none=>cases h
 |some x=>exact⟨x,rfl,h⟩
theorem zah{α β:Type}{o:Option α}{f:α->β}{y:β}(h:o.map f=some y):∃x,o=some x/\f x=y:=by
 cases o with
 |none=>cases h
 |some x=>exact⟨x,rfl,by injection h⟩
theorem zav{α β:Type}{a c:α}{b d:β}(h:(a,b)=(c,d)):a=c/\b=d:=by injection h with A B;exact⟨A,B⟩
def LeL(cs:List qa):List Str->List Str->Prop
 |[],[]=>True
 |x::r,y::s=>Qaz cs (Zr x) (Zr y)/\LeL cs r s
 |_,_=>False
theorem LeL.len{cs:List qa}:∀{A B:List Str},LeL cs A B->A.length=B.length
 |[],[],_=>rfl
 |_::_,_::_,h=>by simp[LeL.len h.2]
theorem LeL.snoc_inv{cs:List qa}{y:Str}:∀{A B:List Str},LeL cs A (B++[y])->∃C x,A=C++[x]/\LeL cs C B/\Qaz cs (Zr x) (Zr y)
 |[],[],h=>h.elim
 |[],_::_,h=>h.elim
 |[x],[],h=>⟨[],x,rfl,trivial,h.1⟩
 |_::_::_,[],h=>h.2.elim
 |a::r,b::s,h=>by
  obtain⟨C,x,e,D,E⟩:=LeL.snoc_inv (A:=r) (B:=s) h.2;exact⟨a::C,x,by rw[e];rfl,⟨h.1,D⟩,E⟩
theorem LeL.snoc{cs:List qa}{x y:Str}(C:Qaz cs (Zr x) (Zr y)):∀{A B:List Str},LeL cs A B->LeL cs (A++[x]) (B++[y])
 |[],[],_=>⟨C,trivial⟩
 |_::_,_::_,h=>⟨h.1,LeL.snoc C h.2⟩
theorem LeL.get{cs:List qa}{y:Str}:∀{A B:List Str} {i:Nat},LeL cs A B->B[i]? = some y->∃x,A[i]? = some x/\Qaz cs (Zr x) (Zr y)
 |[],[],i,_,h=>by simp at h
 |a::r,b::s,0,h,C=>by simp at C;subst C;exact⟨a,by simp,h.1⟩
 |a::r,b::s,i+1,h,C=>by
  obtain⟨x,D,E⟩:=LeL.get (i:=i) h.2 (by simpa using C);exact⟨x,by simpa using D,E⟩
theorem LeL.set{cs:List qa}{x y:Str}(C:Qaz cs (Zr x) (Zr y)):∀{A B:List Str} {i:Nat},LeL cs A B->LeL cs (A.set i x) (B.set i y)
 |[],[],_,_=>trivial
 |_::_,_::_,0,h=>⟨C,h.2⟩
 |_::_,_::_,i+1,h=>⟨h.1,LeL.set C (i:=i) h.2⟩
structure LeF (cs:List qa) (A B:List Str):Prop where
 le:LeL cs A B
 ka:ql cs A
 kb:ql cs B
 sm:A.length<=8
theorem ZK{cs:List qa}{k:Str}(h:Zg cs k=0):qS cs (Zr k)=true:=by
 obtain⟨X,A,B⟩:=QT h;rw[ZL A];exact B
theorem zcw{cs:List qa}{S:List Str}{k:Str}(h:ql cs S)(B:Zg cs k=0):ql cs (S++[k]):=fun x A=>by
 rcases List.mem_append.1 A with A|A
 ·exact h x A
 ·simp at A;subst A;exact B
theorem ZcT{cs:List qa}{S:List Str}{k:Str}{i:Nat}(h:ql cs S)(B:Zg cs k=0):ql cs (S.set i k):=fun x A=>by
 rcases List.mem_or_eq_of_mem_set A with A|A
 ·exact h x A
 ·rw[A];exact B
variable {l:List qa}
theorem ZaG{C D S':List Str}{t:Str}(h:LeF (Za l) C D)(E:zC D=some (t,S')):∃u B,zC C=some (u,B)/\Qaz (Za l) (Zr u) (Zr t)/\Zg (Za l) u=0/\Zg (Za l) t=0/\LeF (Za l) B S':=by
 have H:=qej E;have F:=h.le;rw[H]at F;obtain⟨G,x,e,J,L⟩:=F.snoc_inv;obtain⟨M,N⟩:=Qal E h.kb;have A:zC C=some (x,G):=by rw[e,zba]
 obtain⟨O,P⟩:=Qal A h.ka;have I:=h.sm;rw[e,List.length_append]at I;exact⟨x,G,A,L,O,M,J,P,N,by omega⟩
theorem Qb2{D E S':List Str}{u t:Str}(h:LeF (Za l) D E)(C:Qaz (Za l) (Zr u) (Zr t))(G:Zg (Za l) u=0)(H:Zg (Za l) t=0)(B:QP E t=some S'):∃A,QP D u=some A/\LeF (Za l) A S':=by
 have I:=Qej B;unfold QP at B ⊢;split at B
 ·rename_i F;rw[if_pos (by rw[h.le.len];exact F)];subst I;exact⟨_,rfl,h.le.snoc C,zcw h.ka G,zcw h.kb H,by rw[List.length_append,h.le.len];exact F⟩
 ·cases B
theorem zby{C E F G H S':List Str}{u t:Str}(I:LeF (Za l) C E)(h:LeF (Za l) F G)(D:Qaz (Za l) (Zr u) (Zr t))(J:Zg (Za l) u=0)(L:Zg (Za l) t=0)(M:qq E G t=some (H,S')):∃B A,qq C F u=some (B,A)/\LeF (Za l) B H/\LeF (Za l) A S':=by
 obtain⟨e,N⟩:=zek M;subst e;obtain⟨A,O,P⟩:=Qb2 h D J L N;exact⟨C,A,Zz O,I,P⟩
theorem Z0{C D E F G S':List Str}{t:Str}(I:LeF (Za l) C D)(h:LeF (Za l) E F)(H:Zg (Za l) t=0)(J:qq D F t=some (G,S')):∃A B,qq C E t=some (A,B)/\LeF (Za l) A G/\LeF (Za l) B S' :=
 zby I h (zbx _ _) H H J
theorem QK(E:Qg l):∀{H C D S':List Str},LeF (Za l) C D->zg (Za l) H D=some S'->∃B,zg (Za l) H C=some B/\LeF (Za l) B S'/\∀k∈H,Zg (Za l) k=0
 |[],C,D,S',h,A=>by injection A with A;subst A;exact⟨C,rfl,h,fun k V=>by cases V⟩
 |k::r,C,D,S',h,A=>by
  unfold zg at A ⊢;split at A
  ·cases A
  ·rename_i J;rw[if_neg J];cases F:zC D with
   |none=>rw[F]at A;cases A
   |some p =>
    obtain⟨t,X⟩:=p;rw[F]at A;obtain⟨u,M,N,O,I,Y,P⟩:=ZaG h F;rw[N];dsimp only at A ⊢;split at A
    ·rename_i U;have L:=Zcw E (ZK I) (qdb E (ZK I) O) U;rw[if_pos L];obtain⟨B,R,S,T⟩:=QK E P A;exact⟨B,R,S,fun x G=>by
      rcases List.mem_cons.1 G with e|G
      ·rw[e];exact Decidable.not_not.1 J
      ·exact T x G⟩
    ·cases A
theorem qeO{cs:List qa}{x y:Kd}(h:Qaz cs x y)(B:zaW y=true):zaW x=true:=by
 cases y with
 |t=>cases B
 |n=>cases x with
  |n=>rfl
  |t=>exact h.elim
  |ty x=>exact h.elim
 |ty y=>cases x with
  |n=>rfl
  |t=>exact h.elim
  |ty x =>
   have A:Qm y=true:=B;cases x<;>cases y<;>first|rfl|exact h.elim|cases A
theorem Zba{B C S':List Str}{t:Str}(h:LeF (Za l) B C)(E:QD C=some (t,S')):∃u A,QD B=some (u,A)/\Qaz (Za l) (Zr u) (Zr t)/\Zg (Za l) u=0/\Zg (Za l) t=0/\LeF (Za l) A S':=by
 obtain⟨F,G⟩:=Qaw E;obtain⟨u,A,H,D,I,J,L⟩:=ZaG h F;refine⟨u,A,?_,D,I,J,L⟩;unfold QD;rw[H,Option.bind_some];dsimp only;rw[if_pos (qeO D G)]
theorem QeO(E:Qg l){u t x:Str}(h:Qaz (Za l) (Zr u) (Zr t))(G:qS (Za l) (Zr u)=true)(A:qba (Za l) t x=true):qba (Za l) u x=true:=by
 unfold qba at A ⊢;generalize Zr u=a at *;generalize Zr t=b at *;cases b with
 |t=>cases A
 |n=>cases a with
  |n=>rfl
  |t=>exact h.elim
  |ty x=>exact h.elim
 |ty y=>cases y with
  |i=>cases A
  |j=>cases A
  |cl c=>cases A
  |ar e=>cases a with
   |n=>rfl
   |t=>exact h.elim
   |ty z=>cases z with
    |i=>exact h.elim
    |j=>exact h.elim
    |cl c=>exact h.elim
    |ar d =>
     dsimp only at A ⊢;rw[Bool.and_eq_true]at A;have C:Qaz (Za l) (.ty d) (.ty e):=h;have B:qS (Za l) (.ty d)=true:=G;have F:=qdb E B C;have D:Qm d=Qm e:=qbI (cs:=Za l) (x:=d) (y:=e) F;rw[Zcw E B F A.1,D,A.2];rfl
theorem zcc(D:Qg l){E F S':List Str}{t:Str}(h:LeF (Za l) E F)(A:qP (Za l) t F=some S'):∃B,qP (Za l) t E=some B/\LeF (Za l) B S'/\Zg (Za l) t=0:=by
 unfold qP at A ⊢;split at A
 ·cases A
 ·rename_i G;rw[if_neg G];obtain⟨T,H,A⟩:=zu A;obtain⟨⟨x,U⟩,I,A⟩:=zu A;obtain⟨J,L,M,_⟩:=QK D h H;obtain⟨u,C,N,O,P,_,R⟩:=Zba M I;rw[Zf L,Zf N];dsimp only at A ⊢;split at A
  ·rename_i S;injection A with A
   subst A;rw[if_pos (QeO D O (ZK P) S)];exact⟨C,rfl,R,Decidable.not_not.1 G⟩
  ·cases A
theorem Zek{D G E H I S':List Str}{g:Str}(J:LeF (Za l) D G)(h:LeF (Za l) E H)(A:Za7 (Za l) G H g=some (I,S')):∃B C,Za7 (Za l) D E g=some (B,C)/\LeF (Za l) B I/\LeF (Za l) C S':=by
 unfold Za7 at A ⊢;split at A
 ·rename_i F;injection A with A
  obtain⟨M,N⟩:=zav A;subst M N;rw[if_pos F];exact⟨D,E,rfl,J,h⟩
 ·rename_i F;rw[if_neg F];unfold qdJ at A ⊢;split at A
  ·rename_i L;rw[if_pos L];exact Z0 J h L A
  ·cases A
theorem zdQ(G:Qg l){A:Bool}{cls:Str}{D F S':List Str}(h:LeF (Za l) D F)(C:ZbC (Za l) A cls F=some S'):∃B,ZbC (Za l) A cls D=some B/\LeF (Za l) B S':=by
 unfold ZbC at C ⊢;split at C
 ·rename_i E;injection C with C
  subst C;rw[if_pos E];exact⟨D,rfl,h⟩
 ·rename_i E;rw[if_neg E];obtain⟨B,H,I,_⟩:=QK G h C;exact⟨B,H,I⟩
theorem qcw(F:Qg l){qb cls name C:Str}{A:Bool}{G H I J L S':List Str}(N:LeF (Za l) G H)(h:LeF (Za l) I J)(B:Zar (Za l) qb cls name C A H J=some (L,S')):∃D E,Zar (Za l) qb cls name C A G I=some (D,E)/\LeF (Za l) D L/\LeF (Za l) E S':=by
 unfold Zar at B ⊢;split at B
 ·cases B
 ·rename_i Y;rw[if_neg Y];cases M:Zl C with
  |none=>rw[M]at B;cases B
  |some p =>
   obtain⟨args,g⟩:=p;rw[M]at B;dsimp only at B ⊢;obtain⟨Z,O,B⟩:=zu B;obtain⟨a,P,B⟩:=zu B;obtain⟨R,S,T,_⟩:=QK F h O;obtain⟨U,V,X⟩:=zdQ F T P;rw[Zf S,Zf V];exact Zek N X B
theorem zb3{cs:List qa}{t:Str}(h:QX (lst t)=true):Zg cs t=0:=by
 have A:lst t=[73]\/lst t=[74]:=by
  unfold QX at h;simpa using h
 rcases A with e|e
 ·exact QbU (x:=.i) (by rw[e];rfl) rfl (by decide) rfl
 ·exact QbU (x:=.j) (by rw[e];rfl) rfl (by decide) rfl
theorem ZdQ{cs:List qa}:Zg cs kI=0:=zb3 (by decide)
theorem Zfp{cs:List qa}:Zg cs kN=0:=by unfold Zg;rw[if_pos (show lst kN=[78]\/lst kN=[84] from Or.inl rfl)]
theorem zeP{u t:Str}(F:Zg (Za l) u=0)(G:Zg (Za l) t=0)(h:Qaz (Za l) (Zr u) (Zr t))(A:zat t=true):zat u=true:=by
 obtain⟨X,C,_⟩:=QT F;obtain⟨Y,D,_⟩:=QT G;rw[ZL C,ZL D]at h;have e:∀(k:Str) (Z:Kd),Qo Z=lst k->zat k=(decide (Z=.n)||(match Z with|.ty (.ar _)=>true|_=>false)):=by
  intro k Z E;unfold zat;have B:=Qas E .n;rw[show Qo Kd.n=[78] from rfl]at B;rw[B,show k.toList=Qo Z by rw[E,ByteArray.toList_eq]];cases Z with
  |n=>rfl
  |t=>rfl
  |ty z=>cases z<;>rfl
 rw[e u X C];rw[e t Y D]at A;cases Y with
 |t=>cases A
 |n=>cases X with
  |n=>rfl
  |t=>exact h.elim
  |ty x=>exact h.elim
 |ty y=>cases y with
  |i=>cases A
  |j=>cases A
  |cl c=>cases A
  |ar e=>cases X with
   |n=>rfl
   |t=>exact h.elim
   |ty x=>cases x with
    |ar d=>rfl
    |i=>exact h.elim
    |j=>exact h.elim
    |cl c=>exact h.elim
theorem qek{D E F G H S':List Str}{cls:Str}(I:LeF (Za l) D E)(h:LeF (Za l) F G)(J:Zg (Za l) (Qc cls)=0)(C:zbr (Za l) cls E G=some (H,S')):∃A B,zbr (Za l) cls D F=some (A,B)/\LeF (Za l) A H/\LeF (Za l) B S':=by
 unfold zbr at C ⊢;split at C
 ·cases C
 ·rename_i L;rw[if_neg L];exact Z0 I h J C
theorem Zds{B a b:Int}{A cls name:Str}(h:qo ⟨B,a,b,A,cls,name⟩=0)(E:B=2\/B=9\/B=10):QX (lst A)=true:=by
 unfold qo at h;split at h
 ·cases h
 ·split at h
  ·cases h
  ·split at h
   ·cases h
   ·split at h
    ·cases h
    ·rename_i D;simp only[Bool.or_eq_true,not_or,Bool.not_eq_true',Bool.not_eq_true]at D;have C:=D.1.1;unfold Z5 at C;rw[if_pos E]at C;simpa using C
theorem qe9{B a b:Int}{A cls name:Str}(h:qo ⟨B,a,b,A,cls,name⟩=0)(E:B=18\/B=20\/B=21):zp (91::lst A)=true:=by
 unfold qo at h;split at h
 ·cases h
 ·split at h
  ·cases h
  ·split at h
   ·cases h
   ·split at h
    ·cases h
    ·rename_i D;simp only[Bool.or_eq_true,not_or,Bool.not_eq_true',Bool.not_eq_true]at D;have C:=D.1.1;unfold Z5 at C;rw[if_neg (by dsimp only;omega),if_pos E]at C;simp at C;exact C.2
theorem Qcw{t:Str}(D:Zg (Za l) t=0)(C:zp (91::lst t)=true):Zg (Za l) (Q5 t)=0:=by
 rw[<-Zcv]at C;obtain⟨y,B⟩:=Q8 C;have A:=B.text;rw[Zcv]at A;cases y with
 |i=>cases A
 |j=>cases A
 |cl c=>simp[qe]at A
 |ar e =>
  have E:qe e=lst t:=by
   simp only[qe,List.cons.injEq]at A;exact A.2
  obtain⟨_,F⟩:=zcx E D;exact QbU B.text B.name B.deep F
variable {l:List qa}
def Zcx(cs:List qa)(oa:Option (List Str×List Str))(L' S':List Str):Prop:=∃La' Sa',oa=some (La',Sa')/\LeF cs La' L'/\LeF cs Sa' S'
theorem Qe9{u t:Str}(F:Zg (Za l) u=0)(G:Zg (Za l) t=0)(h:Qaz (Za l) (Zr u) (Zr t))(A:¬(t.toList==[84])=true):¬(u.toList==[84])=true:=by
 obtain⟨X,D,_⟩:=QT F;obtain⟨Y,E,_⟩:=QT G;rw[ZL D,ZL E]at h;have B:=Qas D .t;have C:=Qas E .t;rw[show Qo Kd.t=[84] from rfl]at B C;rw[C]at A;rw[B];intro e;have H:=Xm e;subst H;cases Y with
 |t=>exact A (Xj rfl)
 |n=>exact h.elim
 |ty y=>exact h.elim
theorem qdQ{E D F G H S':List Str}{a:Int}(B:LeF (Za l) E D)(M:LeF (Za l) F G)(h:zbE D G a=some (H,S')):Zcx (Za l) (zbE E F a) H S':=by
 unfold zbE at h ⊢;cases C:D[a.toNat]? with
 |none=>rw[C]at h;cases h
 |some t =>
  rw[C]at h;dsimp only at h;split at h
  ·cases h
  ·rename_i N;obtain⟨u,L,A⟩:=B.le.get C;have I:=B.kb t (Xe C);have J:=B.ka u (Xe L);rw[L];dsimp only;rw[if_neg (Qe9 J I A N)];exact zby B M A J I h
theorem qds{B C D E F S':List Str}{a:Int}(A:LeF (Za l) B C)(G:LeF (Za l) D E)(h:za4 C E a=some (F,S')):Zcx (Za l) (za4 B D a) F S':=by
 unfold za4 at h ⊢;obtain⟨⟨t,T⟩,H,h⟩:=zu h;obtain⟨u,I,J,L,M,N,O⟩:=ZaG G H;rw[Zf J];dsimp only at h ⊢;split at h
 ·rename_i S;injection h with h
  obtain⟨P,R⟩:=zav h;subst P R;rw[if_pos (by rw[A.le.len];exact S)];exact⟨_,_,rfl,⟨A.le.set L,ZcT A.ka M,ZcT A.kb N,by rw[List.length_set];exact A.sm⟩,O⟩
 ·cases h
theorem Qds(N:Qg l){Zb:Str}{x:Ins}{L f Z g L' S':List Str}(hi:qo x=0)(F:LeF (Za l) L f)(G:LeF (Za l) Z g)(h:zE (Za l) Zb x f g=some (L',S')):Zcx (Za l) (zE (Za l) Zb x L Z) L' S':=by
 obtain⟨I,a,b,J,cls,name⟩:=x;obtain⟨e2,e3,e4,e5,e6,e7,e8,e9,r,y,z,aA,aB,aC,aD⟩:=Zb3 (Za l) Zb a b J cls name f g;obtain⟨g2,g3,g4,g5,g6,g7,g8,g9,aE,aF,aG,aH,aI,aJ,aK⟩:=Zb3 (Za l) Zb a b J cls name L Z;by_cases i:I=2
 ·subst i;rw[e2]at h;rw[g2];exact Z0 F G (zb3 (Zds hi (Or.inl rfl))) h
 by_cases j:I=3
 ·subst j;rw[e3]at h;rw[g3];exact Z0 F G Zfp h
 by_cases k:I=4
 ·subst k;rw[e4]at h;rw[g4];exact qdQ F G h
 by_cases m:I=5
 ·subst m;rw[e5]at h;rw[g5];exact qds F G h
 by_cases n:I=6
 ·subst n;rw[e6]at h;rw[g6];obtain⟨⟨t,M⟩,B,h⟩:=zah h;obtain⟨u,A,C,_,_,_,X⟩:=ZaG G B;obtain⟨D,E⟩:=zav h;subst D E;exact⟨L,A,zaf C,F,X⟩
 by_cases o:I=7
 ·subst o;rw[e7]at h;rw[g7];obtain⟨⟨t,M⟩,B,h⟩:=zu h;obtain⟨S2,Y,h⟩:=zu h;dsimp only at Y h;obtain⟨u,A,C,H,d,e,X⟩:=ZaG G B;obtain⟨c,D,E⟩:=Qb2 X H d e Y;rw[Zf C];dsimp only;rw[Zf D];exact zby F E H d e h
 by_cases p:I=8
 ·subst p;rw[e8]at h;rw[g8];obtain⟨⟨t,M⟩,B,h⟩:=zu h;obtain⟨⟨s,S2⟩,Y,h⟩:=zu h;obtain⟨S3,h3,h⟩:=zu h;dsimp only at Y h3 h;obtain⟨u,A,C,H,d,e,X⟩:=ZaG G B;obtain⟨v,c,r1,r2,r3,r4,r5⟩:=ZaG X Y;obtain⟨Sa3,D,E⟩:=Qb2 r5 H d e h3;rw[Zf C];dsimp only;rw[Zf r1];dsimp only;rw[Zf D];exact zby F E r2 r3 r4 h
 by_cases q:I=9
 ·subst q;rw[e9]at h;rw[g9];obtain⟨M,B,h⟩:=zu h;obtain⟨S2,Y,h⟩:=zu h;obtain⟨A,C,H,_⟩:=QK N G B;obtain⟨c,D,E,q3⟩:=QK N H Y;rw[Zf C,Zf D];exact Z0 F E (q3 J (by simp)) h
 by_cases O:I=10
 ·subst O;rw[r]at h;rw[aE];obtain⟨M,B,h⟩:=zu h;obtain⟨A,C,H,_⟩:=QK N G B;rw[Zf C];exact Z0 F H (zb3 (Zds hi (Or.inr (Or.inr rfl)))) h
 by_cases P:I=11
 ·subst P;rw[y]at h;rw[aF];obtain⟨M,B,h⟩:=zu h;obtain⟨A,C,H,_⟩:=QK N G B;rw[Zf C];exact Z0 F H ZdQ h
 by_cases R:I=12
 ·subst R;rw[z]at h;rw[aG];obtain⟨M,B,h⟩:=zah h;obtain⟨A,C,H,_⟩:=QK N G B;obtain⟨D,E⟩:=zav h;subst D E;exact⟨L,A,zaf C,F,H⟩
 by_cases S:I=13
 ·subst S;rw[aA,qci]at h;rw[aH,qci];obtain⟨⟨t,M⟩,B,h⟩:=zah h;obtain⟨u,A,C,_,_,_,X⟩:=Zba G B;obtain⟨D,E⟩:=zav h;subst D E;exact⟨L,A,zaf C,F,X⟩
 by_cases T:I=26
 ·subst T;rw[aB]at h;rw[aI];split at h
  ·rename_i hv;injection h with h
   obtain⟨D,E⟩:=zav h;subst D E;rw[if_pos hv];exact⟨L,Z,rfl,F,G⟩
  ·cases h
 by_cases U:I=27
 ·subst U;rw[aC]at h;rw[aJ];split at h
  ·cases h
  ·rename_i hv;obtain⟨M,B,h⟩:=zah h;obtain⟨A,C,H,_⟩:=QK N G B;obtain⟨D,E⟩:=zav h;subst D E;rw[if_neg hv];exact⟨L,A,zaf C,F,H⟩
 by_cases V:I=28
 ·subst V;rw[aD]at h;rw[aK];obtain⟨M,B,h⟩:=zah h;obtain⟨A,C,H,_⟩:=QK N G B;obtain⟨D,E⟩:=zav h;subst D E;exact⟨L,A,zaf C,F,H⟩
 rw[QaQ ⟨i,j,k,m,n,o,p,q,O,P,R,S,T,U,V⟩]at h;rw[QaQ ⟨i,j,k,m,n,o,p,q,O,P,R,S,T,U,V⟩];injection h with h
 obtain⟨D,E⟩:=zav h;subst D E;exact⟨L,Z,rfl,F,G⟩
theorem Qba{t:Str}{B C:Option (List Str×List Str)}{A S':List Str}(h:knK (Za l) t C=some (A,S'))(g:Zg (Za l) t=0->C=some (A,S')->Zcx (Za l) B A S'):Zcx (Za l) (knK (Za l) t B) A S':=by
 unfold knK at h ⊢;split at h
 ·cases h
 ·rename_i D;rw[if_neg D];exact g (Decidable.not_not.1 D) h
theorem Qdb(H:Qg l){qb:Str}{x:Ins}{Z i g j L' S':List Str}(hi:qo x=0)(D:LeF (Za l) Z i)(E:LeF (Za l) g j)(h:qJ (Za l) qb x i j=some (L',S')):Zcx (Za l) (qJ (Za l) qb x Z g) L' S':=by
 obtain⟨F,a,b,I,cls,name⟩:=x;obtain⟨k,m,n,o,p,q,r,s,v,y,z⟩:=zbJ (Za l) qb a b I cls name i j;obtain⟨aA,aB,aC,aD,aE,aF,aG,aH,aI,aJ,aK⟩:=zbJ (Za l) qb a b I cls name Z g;by_cases J:F=15
 ·subst J;rw[k]at h;rw[aA];exact Qba h (fun f h=>qek D E f h)
 by_cases L:F=16
 ·subst L;rw[m]at h;rw[aB];obtain⟨t,C,h⟩:=zu h;obtain⟨X,Y,h⟩:=zu h;obtain⟨A,B,G,_⟩:=QK H E Y;rw[Zf C,Zf B];exact Z0 D G (zbV C).2 h
 by_cases M:F=17
 ·subst M;rw[n]at h;rw[aC];obtain⟨t,C,h⟩:=zu h;obtain⟨X,Y,h⟩:=zah h;obtain⟨A,B,G,_⟩:=QK H E Y;obtain⟨c,d⟩:=zav h;subst c d;rw[Zf C];exact⟨Z,A,zaf B,D,G⟩
 by_cases N:F=18
 ·subst N;rw[o]at h;rw[aD];refine Qba h (fun f h=>?_);obtain⟨X,Y,h⟩:=zu h;obtain⟨A,B,G,_⟩:=QK H E Y;rw[Zf B];exact Z0 D G (Qcw f (qe9 hi (Or.inl rfl))) h
 by_cases O:F=19
 ·subst O;rw[p]at h;rw[aE];obtain⟨⟨t,X⟩,C,h⟩:=zu h;obtain⟨u,A,B,G,p3,p4,e⟩:=Zba E C;rw[Zf B];dsimp only at h ⊢;split at h
  ·rename_i hl;rw[if_pos (zeP p3 p4 G hl)];exact Z0 D e ZdQ h
  ·cases h
 by_cases P:F=20
 ·subst P;rw[q]at h;rw[aF];obtain⟨X,C,h⟩:=zu h;obtain⟨A,B,G,p3⟩:=zcc H E C;rw[Zf B];exact Z0 D G p3 h
 by_cases R:F=21
 ·subst R;rw[r]at h;rw[aG];refine Qba h (fun _ h=>?_);obtain⟨X,C,h⟩:=zu h;obtain⟨S2,Y,h⟩:=zah h;obtain⟨A,B,G,_⟩:=QK H E C;obtain⟨Sa2,r1,r2,_⟩:=zcc H G Y;obtain⟨c,d⟩:=zav h;subst c d;rw[Zf B];exact⟨Z,Sa2,zaf r1,D,r2⟩
 by_cases S:F=22
 ·subst S;rw[s]at h;rw[aH];refine Qba h (fun f h=>?_);obtain⟨⟨t,X⟩,C,h⟩:=zu h;obtain⟨u,A,B,_,_,_,e⟩:=Zba E C;rw[Zf B];exact Z0 D e f h
 by_cases T:F=23
 ·subst T;rw[v]at h;rw[aI];refine Qba h (fun _ h=>?_);obtain⟨⟨t,X⟩,C,h⟩:=zu h;obtain⟨u,A,B,_,_,_,e⟩:=Zba E C;rw[Zf B];exact Z0 D e ZdQ h
 by_cases U:F=24
 ·subst U;rw[y]at h;rw[aJ];exact qcw H D E h
 by_cases V:F=25
 ·subst V;rw[z]at h;rw[aK];exact qcw H D E h
 rw[Za4 ⟨J,L,M,N,O,P,R,S,T,U,V⟩]at h;rw[Za4 ⟨J,L,M,N,O,P,R,S,T,U,V⟩];injection h with h
 obtain⟨c,d⟩:=zav h;subst c d;exact⟨Z,g,rfl,D,E⟩
theorem Qcs(A:Qg l){qb Zb:Str}{x:Ins}{B C D E F S':List Str}(G:qo x=0)(H:LeF (Za l) B C)(I:LeF (Za l) D E)(h:Qae (Za l) qb Zb x C E=some (F,S')):Zcx (Za l) (Qae (Za l) qb Zb x B D) F S':=by
 unfold Qae at h ⊢;obtain⟨⟨S,T⟩,J,L⟩:=zu h;obtain⟨M,N,O,P,R⟩:=Qds A G H I J;rw[Zf O];exact Qdb A G P R L
theorem ZbE{α:Type}{f:α->Nat}:∀{l:List α},(∀x∈l,f x=0)->Zh f l=0
 |[],_=>rfl
 |x::r,h=>by
  unfold Zh;rw[if_pos (h x (by simp))];exact ZbE (fun y A=>h y (List.mem_cons_of_mem _ A))
theorem zaS{cs:List qa}{f:Frm}(D:f.locals.length<=8)(E:f.stack.length<=8)(A:ql cs f.locals)(B:ql cs f.stack):qG cs f=0:=by
 unfold qG;rw[if_neg (by omega)];exact ZbE (fun x C=>(List.mem_append.1 C).elim (A x) (B x))
