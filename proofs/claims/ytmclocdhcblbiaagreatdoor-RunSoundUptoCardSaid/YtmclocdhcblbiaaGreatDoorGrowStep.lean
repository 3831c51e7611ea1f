/- Lemmas; conditions: as each states. -/
import Derived.Test.YtmclocdhcblbiaaGreatDoorStepAny
set_option maxHeartbeats 4000000
namespace Go.Proofs.YtmclocdhcblbiaaGreatDoor
open Go.RowKit Go.Shelf Go.Lib
theorem Zek{S A:List Str}{t:Str}(h:zB S=some (t,A)):S=A++[t]:=by
 rcases List.eq_nil_or_concat S with rfl|⟨r,x,rfl⟩
 ·cases h
 ·rw[List.concat_eq_append]at *;rw[Qa5]at h;injection h with h
  injection h with B C
  rw[B,C]
theorem qek{S A:List Str}{t:Str}(h:QN S t=some A):A=S++[t]:=by
 unfold QN at h;split at h
 ·injection h with h;exact h.symm
 ·cases h
theorem Qek{L S A B:List Str}{t:Str}(h:zr L S t=some (A,B)):A=L/\QN S t=some B:=by
 unfold zr at h;cases C:QN S t with
 |none=>rw[C]at h;cases h
 |some x =>
  rw[C]at h;injection h with h
  injection h with D E
  exact⟨D.symm,by rw[E]⟩
theorem Zu{α β:Type}{o:Option α}{f:α->Option β}{y:β}(h:o.bind f=some y):∃x,o=some x/\f x=some y:=by
 cases o with
 |none=>cases h
 |some x=>exact⟨x,rfl,h⟩
theorem qaf{α β:Type}{o:Option α}{f:α->β}{y:β}(h:o.map f=some y):∃x,o=some x/\f x=y:=by
 cases o with
 |none=>cases h
 |some x=>exact⟨x,rfl,by injection h⟩
theorem Qas{α β:Type}{a c:α}{b d:β}(h:(a,b)=(c,d)):a=c/\b=d:=by injection h with A B;exact⟨A,B⟩
def LeL(cs:List qa):List Str->List Str->Prop
 |[],[]=>True
 |x::r,y::s=>Qaw cs (qr x) (qr y)/\LeL cs r s
 |_,_=>False
theorem LeL.len{cs:List qa}:∀{A B:List Str},LeL cs A B->A.length=B.length
 |[],[],_=>rfl
 |_::_,_::_,h=>by simp[LeL.len h.2]
theorem LeL.snoc_inv{cs:List qa}{y:Str}:∀{A B:List Str},LeL cs A (B++[y])->∃C x,A=C++[x]/\LeL cs C B/\Qaw cs (qr x) (qr y)
 |[],[],h=>h.elim
 |[],_::_,h=>h.elim
 |[x],[],h=>⟨[],x,rfl,trivial,h.1⟩
 |_::_::_,[],h=>h.2.elim
 |a::r,b::s,h=>by
  obtain⟨C,x,e,D,E⟩:=LeL.snoc_inv (A:=r) (B:=s) h.2;exact⟨a::C,x,by rw[e];rfl,⟨h.1,D⟩,E⟩
theorem LeL.snoc{cs:List qa}{x y:Str}(C:Qaw cs (qr x) (qr y)):∀{A B:List Str},LeL cs A B->LeL cs (A++[x]) (B++[y])
 |[],[],_=>⟨C,trivial⟩
 |_::_,_::_,h=>⟨h.1,LeL.snoc C h.2⟩
theorem LeL.get{cs:List qa}{y:Str}:∀{A B:List Str} {i:Nat},LeL cs A B->B[i]? = some y->∃x,A[i]? = some x/\Qaw cs (qr x) (qr y)
 |[],[],i,_,h=>by simp at h
 |a::r,b::s,0,h,C=>by simp at C;subst C;exact⟨a,by simp,h.1⟩
 |a::r,b::s,i+1,h,C=>by
  obtain⟨x,D,E⟩:=LeL.get (i:=i) h.2 (by simpa using C);exact⟨x,by simpa using D,E⟩
theorem LeL.set{cs:List qa}{x y:Str}(C:Qaw cs (qr x) (qr y)):∀{A B:List Str} {i:Nat},LeL cs A B->LeL cs (A.set i x) (B.set i y)
 |[],[],_,_=>trivial
 |_::_,_::_,0,h=>⟨C,h.2⟩
 |_::_,_::_,i+1,h=>⟨h.1,LeL.set C (i:=i) h.2⟩
structure LeF (cs:List qa) (A B:List Str):Prop where
 le:LeL cs A B
 ka:ql cs A
 kb:ql cs B
 sm:A.length<=8
theorem qI{cs:List qa}{k:Str}(h:Qg cs k=0):ZQ cs (qr k)=true:=by
 obtain⟨X,A,B⟩:=zR h;rw[zK A];exact B
theorem qcu{cs:List qa}{S:List Str}{k:Str}(h:ql cs S)(B:Qg cs k=0):ql cs (S++[k]):=fun x A=>by
 rcases List.mem_append.1 A with A|A
 ·exact h x A
 ·simp at A;subst A;exact B
theorem ZcR{cs:List qa}{S:List Str}{k:Str}{i:Nat}(h:ql cs S)(B:Qg cs k=0):ql cs (S.set i k):=fun x A=>by
 rcases List.mem_or_eq_of_mem_set A with A|A
 ·exact h x A
 ·rw[A];exact B
variable {l:List qa}
theorem QaC{C D E:List Str}{t:Str}(h:LeF (Za l) C D)(F:zB D=some (t,E)):∃u B,zB C=some (u,B)/\Qaw (Za l) (qr u) (qr t)/\Qg (Za l) u=0/\Qg (Za l) t=0/\LeF (Za l) B E:=by
 have I:=Zek F;have G:=h.le;rw[I]at G;obtain⟨H,x,e,L,M⟩:=G.snoc_inv;obtain⟨N,O⟩:=Qak F h.kb;have A:zB C=some (x,H):=by rw[e,Qa5]
 obtain⟨P,R⟩:=Qak A h.ka;have J:=h.sm;rw[e,List.length_append]at J;exact⟨x,H,A,M,P,N,L,R,O,by omega⟩
theorem Zb2{D E F:List Str}{u t:Str}(h:LeF (Za l) D E)(C:Qaw (Za l) (qr u) (qr t))(H:Qg (Za l) u=0)(I:Qg (Za l) t=0)(B:QN E t=some F):∃A,QN D u=some A/\LeF (Za l) A F:=by
 have J:=qek B;unfold QN at B ⊢;split at B
 ·rename_i G;rw[if_pos (by rw[h.le.len];exact G)];subst J;exact⟨_,rfl,h.le.snoc C,qcu h.ka H,qcu h.kb I,by rw[List.length_append,h.le.len];exact G⟩
 ·cases B
theorem qbv{C E F G H I:List Str}{u t:Str}(J:LeF (Za l) C E)(h:LeF (Za l) F G)(D:Qaw (Za l) (qr u) (qr t))(L:Qg (Za l) u=0)(M:Qg (Za l) t=0)(N:zr E G t=some (H,I)):∃B A,zr C F u=some (B,A)/\LeF (Za l) B H/\LeF (Za l) A I:=by
 obtain⟨e,O⟩:=Qek N;subst e;obtain⟨A,P,R⟩:=Zb2 h D L M O;exact⟨C,A,Zy P,J,R⟩
theorem qW{C D E F G H:List Str}{t:Str}(J:LeF (Za l) C D)(h:LeF (Za l) E F)(I:Qg (Za l) t=0)(L:zr D F t=some (G,H)):∃A B,zr C E t=some (A,B)/\LeF (Za l) A G/\LeF (Za l) B H :=
 qbv J h (qbu _ _) I I L
theorem zJ(F:zh l):∀{I C D E:List Str},LeF (Za l) C D->Qf (Za l) I D=some E->∃B,Qf (Za l) I C=some B/\LeF (Za l) B E/\∀k∈I,Qg (Za l) k=0
 |[],C,D,E,h,A=>by injection A with A;subst A;exact⟨C,rfl,h,fun k X=>by cases X⟩
 |k::r,C,D,E,h,A=>by
  unfold Qf at A ⊢;split at A
  ·cases A
  ·rename_i L;rw[if_neg L];cases G:zB D with
   |none=>rw[G]at A;cases A
   |some p =>
    obtain⟨t,Y⟩:=p;rw[G]at A;obtain⟨u,N,O,P,J,Z,R⟩:=QaC h G;rw[O];dsimp only at A ⊢;split at A
    ·rename_i V;have M:=Qcu F (qI J) (Qc9 F (qI J) P) V;rw[if_pos M];obtain⟨B,S,T,U⟩:=zJ F R A;exact⟨B,S,T,fun x H=>by
      rcases List.mem_cons.1 H with e|H
      ·rw[e];exact Decidable.not_not.1 L
      ·exact U x H⟩
    ·cases A
theorem ZeL{cs:List qa}{x y:Kd}(h:Qaw cs x y)(B:ZaS y=true):ZaS x=true:=by
 cases y with
 |t=>cases B
 |n=>cases x with
  |n=>rfl
  |t=>exact h.elim
  |ty x=>exact h.elim
 |ty y=>cases x with
  |n=>rfl
  |t=>exact h.elim
  |ty x =>
   have A:qm y=true:=B;cases x<;>cases y<;>first|rfl|exact h.elim|cases A
theorem za6{B C D:List Str}{t:Str}(h:LeF (Za l) B C)(F:ZM C=some (t,D)):∃u A,ZM B=some (u,A)/\Qaw (Za l) (qr u) (qr t)/\Qg (Za l) u=0/\Qg (Za l) t=0/\LeF (Za l) A D:=by
 obtain⟨G,H⟩:=Zau F;obtain⟨u,A,I,E,J,L,M⟩:=QaC h G;refine⟨u,A,?_,E,J,L,M⟩;unfold ZM;rw[I,Option.bind_some];dsimp only;rw[if_pos (ZeL E H)]
theorem qeL(E:zh l){u t x:Str}(h:Qaw (Za l) (qr u) (qr t))(G:ZQ (Za l) (qr u)=true)(A:Za6 (Za l) t x=true):Za6 (Za l) u x=true:=by
 unfold Za6 at A ⊢;generalize qr u=a at *;generalize qr t=b at *;cases b with
 |t=>cases A
 |n=>cases a with
  |n=>rfl
  |t=>exact h.elim
  |ty x=>exact h.elim
 |ty y=>cases y with
  |i=>cases A
  |j=>cases A
  |cl c=>cases A
  |ar e=>cases a with
   |n=>rfl
   |t=>exact h.elim
   |ty z=>cases z with
    |i=>exact h.elim
    |j=>exact h.elim
    |cl c=>exact h.elim
    |ar d =>
     dsimp only at A ⊢;rw[Bool.and_eq_true]at A;have C:Qaw (Za l) (.ty d) (.ty e):=h;have B:ZQ (Za l) (.ty d)=true:=G;have F:=Qc9 E B C;have D:qm d=qm e:=qbG (cs:=Za l) (x:=d) (y:=e) F;rw[Qcu E B F A.1,D,A.2];rfl
theorem qca(D:zh l){E F G:List Str}{t:Str}(h:LeF (Za l) E F)(A:ZN (Za l) t F=some G):∃B,ZN (Za l) t E=some B/\LeF (Za l) B G/\Qg (Za l) t=0:=by
 unfold ZN at A ⊢;split at A
 ·cases A
 ·rename_i H;rw[if_neg H];obtain⟨U,I,A⟩:=Zu A;obtain⟨⟨x,V⟩,J,A⟩:=Zu A;obtain⟨L,M,N,_⟩:=zJ D h I;obtain⟨u,C,O,P,R,_,S⟩:=za6 N J;rw[Qe M,Qe O];dsimp only at A ⊢;split at A
  ·rename_i T;injection A with A
   subst A;rw[if_pos (qeL D P (qI R) T)];exact⟨C,rfl,S,Decidable.not_not.1 H⟩
  ·cases A
theorem zel{D G E H I J:List Str}{g:Str}(L:LeF (Za l) D G)(h:LeF (Za l) E H)(A:Qa2 (Za l) G H g=some (I,J)):∃B C,Qa2 (Za l) D E g=some (B,C)/\LeF (Za l) B I/\LeF (Za l) C J:=by
 unfold Qa2 at A ⊢;split at A
 ·rename_i F;injection A with A
  obtain⟨N,O⟩:=Qas A;subst N O;rw[if_pos F];exact⟨D,E,rfl,L,h⟩
 ·rename_i F;rw[if_neg F];unfold ZdG at A ⊢;split at A
  ·rename_i M;rw[if_pos M];exact qW L h M A
  ·cases A
theorem ZdN(H:zh l){A:Bool}{cls:Str}{D F G:List Str}(h:LeF (Za l) D F)(C:Qbz (Za l) A cls F=some G):∃B,Qbz (Za l) A cls D=some B/\LeF (Za l) B G:=by
 unfold Qbz at C ⊢;split at C
 ·rename_i E;injection C with C
  subst C;rw[if_pos E];exact⟨D,rfl,h⟩
 ·rename_i E;rw[if_neg E];obtain⟨B,I,J,_⟩:=zJ H h C;exact⟨B,I,J⟩
theorem zcv(G:zh l){qb cls D C:Str}{A:Bool}{H I J L M N:List Str}(P:LeF (Za l) H I)(h:LeF (Za l) J L)(B:Zap (Za l) qb cls D C A I L=some (M,N)):∃E F,Zap (Za l) qb cls D C A H J=some (E,F)/\LeF (Za l) E M/\LeF (Za l) F N:=by
 unfold Zap at B ⊢;split at B
 ·cases B
 ·rename_i a;rw[if_neg a];cases O:qi C with
  |none=>rw[O]at B;cases B
  |some p =>
   obtain⟨args,g⟩:=p;rw[O]at B;dsimp only at B ⊢;obtain⟨b,R,B⟩:=Zu B;obtain⟨c,S,B⟩:=Zu B;obtain⟨T,U,V,_⟩:=zJ G h R;obtain⟨X,Y,Z⟩:=ZdN G V S;rw[Qe U,Qe Y];exact zel P Z B
theorem qb2{cs:List qa}{t:Str}(h:ZO (lst t)=true):Qg cs t=0:=by
 have A:lst t=[73]\/lst t=[74]:=by
  unfold ZO at h;simpa using h
 rcases A with e|e
 ·exact QbS (x:=.i) (by rw[e];rfl) rfl (by decide) rfl
 ·exact QbS (x:=.j) (by rw[e];rfl) rfl (by decide) rfl
theorem qdN{cs:List qa}:Qg cs kI=0:=qb2 (by decide)
theorem zfj{cs:List qa}:Qg cs kN=0:=by unfold Qg;rw[if_pos (show lst kN=[78]\/lst kN=[84] from Or.inl rfl)]
theorem QeL{u t:Str}(F:Qg (Za l) u=0)(G:Qg (Za l) t=0)(h:Qaw (Za l) (qr u) (qr t))(A:Qaq t=true):Qaq u=true:=by
 obtain⟨X,C,_⟩:=zR F;obtain⟨Y,D,_⟩:=zR G;rw[zK C,zK D]at h;have e:∀(k:Str) (Z:Kd),zp Z=lst k->Qaq k=(decide (Z=.n)||(match Z with|.ty (.ar _)=>true|_=>false)):=by
  intro k Z E;unfold Qaq;have B:=qaq E .n;rw[show zp Kd.n=[78] from rfl]at B;rw[B,show k.toList=zp Z by rw[E,ByteArray.toList_eq]];cases Z with
  |n=>rfl
  |t=>rfl
  |ty z=>cases z<;>rfl
 rw[e u X C];rw[e t Y D]at A;cases Y with
 |t=>cases A
 |n=>cases X with
  |n=>rfl
  |t=>exact h.elim
  |ty x=>exact h.elim
 |ty y=>cases y with
  |i=>cases A
  |j=>cases A
  |cl c=>cases A
  |ar e=>cases X with
   |n=>rfl
   |t=>exact h.elim
   |ty x=>cases x with
    |ar d=>rfl
    |i=>exact h.elim
    |j=>exact h.elim
    |cl c=>exact h.elim
theorem Zel{D E F G H I:List Str}{cls:Str}(J:LeF (Za l) D E)(h:LeF (Za l) F G)(L:Qg (Za l) (Qc cls)=0)(C:zbo (Za l) cls E G=some (H,I)):∃A B,zbo (Za l) cls D F=some (A,B)/\LeF (Za l) A H/\LeF (Za l) B I:=by
 unfold zbo at C ⊢;split at C
 ·cases C
 ·rename_i M;rw[if_neg M];exact qW J h L C
theorem Zdq{C a b:Int}{A cls B:Str}(h:Qo ⟨C,a,b,A,cls,B⟩=0)(F:C=2\/C=9\/C=10):ZO (lst A)=true:=by
 unfold Qo at h;split at h
 ·cases h
 ·split at h
  ·cases h
  ·split at h
   ·cases h
   ·split at h
    ·cases h
    ·rename_i E;simp only[Bool.or_eq_true,not_or,Bool.not_eq_true',Bool.not_eq_true]at E;have D:=E.1.1;unfold Z0 at D;rw[if_pos F]at D;simpa using D
theorem Ze4{C a b:Int}{A cls B:Str}(h:Qo ⟨C,a,b,A,cls,B⟩=0)(F:C=18\/C=20\/C=21):qo (91::lst A)=true:=by
 unfold Qo at h;split at h
 ·cases h
 ·split at h
  ·cases h
  ·split at h
   ·cases h
   ·split at h
    ·cases h
    ·rename_i E;simp only[Bool.or_eq_true,not_or,Bool.not_eq_true',Bool.not_eq_true]at E;have D:=E.1.1;unfold Z0 at D;rw[if_neg (by dsimp only;omega),if_pos F]at D;simp at D;exact D.2
theorem Zcv{t:Str}(D:Qg (Za l) t=0)(C:qo (91::lst t)=true):Qg (Za l) (Z1 t)=0:=by
 rw[<-qct]at C;obtain⟨y,B⟩:=qX C;have A:=B.text;rw[qct]at A;cases y with
 |i=>cases A
 |j=>cases A
 |cl c=>simp[qd]at A
 |ar e =>
  have E:qd e=lst t:=by
   simp only[qd,List.cons.injEq]at A;exact A.2
  obtain⟨_,F⟩:=qcv E D;exact QbS B.text B.name B.deep F
variable {l:List qa}
def Qcv(cs:List qa)(oa:Option (List Str×List Str))(L' S':List Str):Prop:=∃La' Sa',oa=some (La',Sa')/\LeF cs La' L'/\LeF cs Sa' S'
theorem qe4{u t:Str}(F:Qg (Za l) u=0)(G:Qg (Za l) t=0)(h:Qaw (Za l) (qr u) (qr t))(A:¬(t.toList==[84])=true):¬(u.toList==[84])=true:=by
 obtain⟨X,D,_⟩:=zR F;obtain⟨Y,E,_⟩:=zR G;rw[zK D,zK E]at h;have B:=qaq D .t;have C:=qaq E .t;rw[show zp Kd.t=[84] from rfl]at B C;rw[C]at A;rw[B];intro e;have H:=Xm e;subst H;cases Y with
 |t=>exact A (Xj rfl)
 |n=>exact h.elim
 |ty y=>exact h.elim
theorem QdN{E D F G H I:List Str}{a:Int}(B:LeF (Za l) E D)(N:LeF (Za l) F G)(h:QbB D G a=some (H,I)):Qcv (Za l) (QbB E F a) H I:=by
 unfold QbB at h ⊢;cases C:D[a.toNat]? with
 |none=>rw[C]at h;cases h
 |some t =>
  rw[C]at h;dsimp only at h;split at h
  ·cases h
  ·rename_i O;obtain⟨u,M,A⟩:=B.le.get C;have J:=B.kb t (Xe C);have L:=B.ka u (Xe M);rw[M];dsimp only;rw[if_neg (qe4 L J A O)];exact qbv B N A L J h
theorem qdq{B C D E F G:List Str}{a:Int}(A:LeF (Za l) B C)(H:LeF (Za l) D E)(h:qa0 C E a=some (F,G)):Qcv (Za l) (qa0 B D a) F G:=by
 unfold qa0 at h ⊢;obtain⟨⟨t,U⟩,I,h⟩:=Zu h;obtain⟨u,J,L,M,N,O,P⟩:=QaC H I;rw[Qe L];dsimp only at h ⊢;split at h
 ·rename_i T;injection h with h
  obtain⟨R,S⟩:=Qas h;subst R S;rw[if_pos (by rw[A.le.len];exact T)];exact⟨_,_,rfl,⟨A.le.set M,ZcR A.ka N,ZcR A.kb O,by rw[List.length_set];exact A.sm⟩,P⟩
 ·cases h
theorem Qdq(O:zh l){Zb:Str}{x:Ins}{L g c i L' S':List Str}(hi:Qo x=0)(F:LeF (Za l) L g)(G:LeF (Za l) c i)(h:qD (Za l) Zb x g i=some (L',S')):Qcv (Za l) (qD (Za l) Zb x L c) L' S':=by
 obtain⟨I,a,b,J,cls,N⟩:=x;obtain⟨e2,e3,e4,e5,e6,e7,e8,e9,y,z,aA,aB,aC,aD,aE⟩:=Qb2 (Za l) Zb a b J cls N g i;obtain⟨g2,g3,g4,g5,g6,g7,g8,g9,aF,aG,aH,aI,aJ,aK,aL⟩:=Qb2 (Za l) Zb a b J cls N L c;by_cases j:I=2
 ·subst j;rw[e2]at h;rw[g2];exact qW F G (qb2 (Zdq hi (Or.inl rfl))) h
 by_cases k:I=3
 ·subst k;rw[e3]at h;rw[g3];exact qW F G zfj h
 by_cases m:I=4
 ·subst m;rw[e4]at h;rw[g4];exact QdN F G h
 by_cases n:I=5
 ·subst n;rw[e5]at h;rw[g5];exact qdq F G h
 by_cases o:I=6
 ·subst o;rw[e6]at h;rw[g6];obtain⟨⟨t,M⟩,B,h⟩:=qaf h;obtain⟨u,A,C,_,_,_,Y⟩:=QaC G B;obtain⟨D,E⟩:=Qas h;subst D E;exact⟨L,A,zad C,F,Y⟩
 by_cases p:I=7
 ·subst p;rw[e7]at h;rw[g7];obtain⟨⟨t,M⟩,B,h⟩:=Zu h;obtain⟨S2,Z,h⟩:=Zu h;dsimp only at Z h;obtain⟨u,A,C,H,e,f,Y⟩:=QaC G B;obtain⟨d,D,E⟩:=Zb2 Y H e f Z;rw[Qe C];dsimp only;rw[Qe D];exact qbv F E H e f h
 by_cases q:I=8
 ·subst q;rw[e8]at h;rw[g8];obtain⟨⟨t,M⟩,B,h⟩:=Zu h;obtain⟨⟨s,S2⟩,Z,h⟩:=Zu h;obtain⟨S3,h3,h⟩:=Zu h;dsimp only at Z h3 h;obtain⟨u,A,C,H,e,f,Y⟩:=QaC G B;obtain⟨v,d,r1,r2,r3,r4,r5⟩:=QaC Y Z;obtain⟨Sa3,D,E⟩:=Zb2 r5 H e f h3;rw[Qe C];dsimp only;rw[Qe r1];dsimp only;rw[Qe D];exact qbv F E r2 r3 r4 h
 by_cases r:I=9
 ·subst r;rw[e9]at h;rw[g9];obtain⟨M,B,h⟩:=Zu h;obtain⟨S2,Z,h⟩:=Zu h;obtain⟨A,C,H,_⟩:=zJ O G B;obtain⟨d,D,E,q3⟩:=zJ O H Z;rw[Qe C,Qe D];exact qW F E (q3 J (by simp)) h
 by_cases P:I=10
 ·subst P;rw[y]at h;rw[aF];obtain⟨M,B,h⟩:=Zu h;obtain⟨A,C,H,_⟩:=zJ O G B;rw[Qe C];exact qW F H (qb2 (Zdq hi (Or.inr (Or.inr rfl)))) h
 by_cases R:I=11
 ·subst R;rw[z]at h;rw[aG];obtain⟨M,B,h⟩:=Zu h;obtain⟨A,C,H,_⟩:=zJ O G B;rw[Qe C];exact qW F H qdN h
 by_cases S:I=12
 ·subst S;rw[aA]at h;rw[aH];obtain⟨M,B,h⟩:=qaf h;obtain⟨A,C,H,_⟩:=zJ O G B;obtain⟨D,E⟩:=Qas h;subst D E;exact⟨L,A,zad C,F,H⟩
 by_cases T:I=13
 ·subst T;rw[aB,qch]at h;rw[aI,qch];obtain⟨⟨t,M⟩,B,h⟩:=qaf h;obtain⟨u,A,C,_,_,_,Y⟩:=za6 G B;obtain⟨D,E⟩:=Qas h;subst D E;exact⟨L,A,zad C,F,Y⟩
 by_cases U:I=26
 ·subst U;rw[aC]at h;rw[aJ];split at h
  ·rename_i hv;injection h with h
   obtain⟨D,E⟩:=Qas h;subst D E;rw[if_pos hv];exact⟨L,c,rfl,F,G⟩
  ·cases h
 by_cases V:I=27
 ·subst V;rw[aD]at h;rw[aK];split at h
  ·cases h
  ·rename_i hv;obtain⟨M,B,h⟩:=qaf h;obtain⟨A,C,H,_⟩:=zJ O G B;obtain⟨D,E⟩:=Qas h;subst D E;rw[if_neg hv];exact⟨L,A,zad C,F,H⟩
 by_cases X:I=28
 ·subst X;rw[aE]at h;rw[aL];obtain⟨M,B,h⟩:=qaf h;obtain⟨A,C,H,_⟩:=zJ O G B;obtain⟨D,E⟩:=Qas h;subst D E;exact⟨L,A,zad C,F,H⟩
 rw[QaM ⟨j,k,m,n,o,p,q,r,P,R,S,T,U,V,X⟩]at h;rw[QaM ⟨j,k,m,n,o,p,q,r,P,R,S,T,U,V,X⟩];injection h with h
 obtain⟨D,E⟩:=Qas h;subst D E;exact⟨L,c,rfl,F,G⟩
theorem qa6{t:Str}{C D:Option (List Str×List Str)}{A B:List Str}(h:knK (Za l) t D=some (A,B))(g:Qg (Za l) t=0->D=some (A,B)->Qcv (Za l) C A B):Qcv (Za l) (knK (Za l) t C) A B:=by
 unfold knK at h ⊢;split at h
 ·cases h
 ·rename_i E;rw[if_neg E];exact g (Decidable.not_not.1 E) h
theorem zda(H:zh l){qb:Str}{x:Ins}{c j i k L' S':List Str}(hi:Qo x=0)(D:LeF (Za l) c j)(E:LeF (Za l) i k)(h:ZH (Za l) qb x j k=some (L',S')):Qcv (Za l) (ZH (Za l) qb x c i) L' S':=by
 obtain⟨F,a,b,I,cls,J⟩:=x;obtain⟨m,n,o,p,q,r,s,v,y,z,aA⟩:=zbH (Za l) qb a b I cls J j k;obtain⟨aB,aC,aD,aE,aF,aG,aH,aI,aJ,aK,aL⟩:=zbH (Za l) qb a b I cls J c i;by_cases L:F=15
 ·subst L;rw[m]at h;rw[aB];exact qa6 h (fun g h=>Zel D E g h)
 by_cases M:F=16
 ·subst M;rw[n]at h;rw[aC];obtain⟨t,C,h⟩:=Zu h;obtain⟨Y,Z,h⟩:=Zu h;obtain⟨A,B,G,_⟩:=zJ H E Z;rw[Qe C,Qe B];exact qW D G (zbT C).2 h
 by_cases N:F=17
 ·subst N;rw[o]at h;rw[aD];obtain⟨t,C,h⟩:=Zu h;obtain⟨Y,Z,h⟩:=qaf h;obtain⟨A,B,G,_⟩:=zJ H E Z;obtain⟨d,e⟩:=Qas h;subst d e;rw[Qe C];exact⟨c,A,zad B,D,G⟩
 by_cases O:F=18
 ·subst O;rw[p]at h;rw[aE];refine qa6 h (fun g h=>?_);obtain⟨Y,Z,h⟩:=Zu h;obtain⟨A,B,G,_⟩:=zJ H E Z;rw[Qe B];exact qW D G (Zcv g (Ze4 hi (Or.inl rfl))) h
 by_cases P:F=19
 ·subst P;rw[q]at h;rw[aF];obtain⟨⟨t,Y⟩,C,h⟩:=Zu h;obtain⟨u,A,B,G,p3,p4,f⟩:=za6 E C;rw[Qe B];dsimp only at h ⊢;split at h
  ·rename_i hl;rw[if_pos (QeL p3 p4 G hl)];exact qW D f qdN h
  ·cases h
 by_cases R:F=20
 ·subst R;rw[r]at h;rw[aG];obtain⟨Y,C,h⟩:=Zu h;obtain⟨A,B,G,p3⟩:=qca H E C;rw[Qe B];exact qW D G p3 h
 by_cases S:F=21
 ·subst S;rw[s]at h;rw[aH];refine qa6 h (fun _ h=>?_);obtain⟨Y,C,h⟩:=Zu h;obtain⟨S2,Z,h⟩:=qaf h;obtain⟨A,B,G,_⟩:=zJ H E C;obtain⟨Sa2,r1,r2,_⟩:=qca H G Z;obtain⟨d,e⟩:=Qas h;subst d e;rw[Qe B];exact⟨c,Sa2,zad r1,D,r2⟩
 by_cases T:F=22
 ·subst T;rw[v]at h;rw[aI];refine qa6 h (fun g h=>?_);obtain⟨⟨t,Y⟩,C,h⟩:=Zu h;obtain⟨u,A,B,_,_,_,f⟩:=za6 E C;rw[Qe B];exact qW D f g h
 by_cases U:F=23
 ·subst U;rw[y]at h;rw[aJ];refine qa6 h (fun _ h=>?_);obtain⟨⟨t,Y⟩,C,h⟩:=Zu h;obtain⟨u,A,B,_,_,_,f⟩:=za6 E C;rw[Qe B];exact qW D f qdN h
 by_cases V:F=24
 ·subst V;rw[z]at h;rw[aK];exact zcv H D E h
 by_cases X:F=25
 ·subst X;rw[aA]at h;rw[aL];exact zcv H D E h
 rw[Qa0 ⟨L,M,N,O,P,R,S,T,U,V,X⟩]at h;rw[Qa0 ⟨L,M,N,O,P,R,S,T,U,V,X⟩];injection h with h
 obtain⟨d,e⟩:=Qas h;subst d e;exact⟨c,i,rfl,D,E⟩
theorem zcr(A:zh l){qb Zb:Str}{x:Ins}{B C D E F G:List Str}(H:Qo x=0)(I:LeF (Za l) B C)(J:LeF (Za l) D E)(h:qac (Za l) qb Zb x C E=some (F,G)):Qcv (Za l) (qac (Za l) qb Zb x B D) F G:=by
 unfold qac at h ⊢;obtain⟨⟨T,U⟩,L,M⟩:=Zu h;obtain⟨N,O,P,R,S⟩:=Qdq A H I J L;rw[Qe P];exact zda A H R S M
theorem zbC{α:Type}{f:α->Nat}:∀{l:List α},(∀x∈l,f x=0)->Zh f l=0
 |[],_=>rfl
 |x::r,h=>by
  unfold Zh;rw[if_pos (h x (by simp))];exact zbC (fun y A=>h y (List.mem_cons_of_mem _ A))
theorem qaO{cs:List qa}{f:Frm}(D:f.locals.length<=8)(E:f.stack.length<=8)(A:ql cs f.locals)(B:ql cs f.stack):qF cs f=0:=by
 unfold qF;rw[if_neg (by omega)];exact zbC (fun x C=>(List.mem_append.1 C).elim (A x) (B x))
end Go.Proofs.YtmclocdhcblbiaaGreatDoor
