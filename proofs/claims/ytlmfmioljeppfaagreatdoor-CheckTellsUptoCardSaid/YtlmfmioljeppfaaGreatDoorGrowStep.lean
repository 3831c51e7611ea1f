/- Lemmas; conditions: as each states. -/
import Derived.Test.YtlmfmioljeppfaaGreatDoorStepAny
set_option maxHeartbeats 4000000
namespace Go.Proofs.YtlmfmioljeppfaaGreatDoor
open Go.RowKit Go.Shelf Go.Lib
theorem zdv{S S':List Str}{t:Str}(h:QH S=some (t,S')):S=S'++[t]:=by
 rcases List.eq_nil_or_concat S with rfl|⟨r,x,rfl⟩
 ·cases h
 ·rw[List.concat_eq_append]at *;rw[ZO]at h;injection h with h
  injection h with h1 h2
  rw[h1,h2]
theorem Zdv{S S':List Str}{t:Str}(h:QK S t=some S'):S'=S++[t]:=by
 unfold QK at h;split at h
 ·injection h with h;exact h.symm
 ·cases h
theorem qdv{L S L' S':List Str}{t:Str}(h:zv L S t=some (L',S')):L'=L/\QK S t=some S':=by
 unfold zv at h;cases hq:QK S t with
 |none=>rw[hq]at h;cases h
 |some x =>
  rw[hq]at h;injection h with h
  injection h with h1 h2
  exact⟨h1.symm,by rw[h2]⟩
theorem zy{α β:Type}{o:Option α}{f:α->Option β}{y:β}(h:o.bind f=some y):∃x,o=some x/\f x=some y:=by
 cases o with
 |none=>cases h
 |some x=>exact⟨x,rfl,h⟩
theorem Z9{α β:Type}{o:Option α}{f:α->β}{y:β}(h:o.map f=some y):∃x,o=some x/\f x=y:=by
 cases o with
 |none=>cases h
 |some x=>exact⟨x,rfl,by injection h⟩
theorem Qaj{α β:Type}{a c:α}{b d:β}(h:(a,b)=(c,d)):a=c/\b=d:=by injection h with h1 h2;exact⟨h1,h2⟩
def LeL(cs:List Qb):List Str->List Str->Prop
 |[],[]=>True
 |x::r,y::s=>zaq cs (Zo x) (Zo y)/\LeL cs r s
 |_,_=>False
theorem LeL.len{cs:List Qb}:∀{A B:List Str},LeL cs A B->A.length=B.length
 |[],[],_=>rfl
 |_::_,_::_,h=>by simp[LeL.len h.2]
theorem LeL.snoc_inv{cs:List Qb}{y:Str}:∀{A B:List Str},LeL cs A (B++[y])->∃A' x,A=A'++[x]/\LeL cs A' B/\zaq cs (Zo x) (Zo y)
 |[],[],h=>h.elim
 |[],_::_,h=>h.elim
 |[x],[],h=>⟨[],x,rfl,trivial,h.1⟩
 |_::_::_,[],h=>h.2.elim
 |a::r,b::s,h=>by
  obtain⟨A',x,e,h1,h2⟩:=LeL.snoc_inv (A:=r) (B:=s) h.2;exact⟨a::A',x,by rw[e];rfl,⟨h.1,h1⟩,h2⟩
theorem LeL.snoc{cs:List Qb}{x y:Str}(hxy:zaq cs (Zo x) (Zo y)):∀{A B:List Str},LeL cs A B->LeL cs (A++[x]) (B++[y])
 |[],[],_=>⟨hxy,trivial⟩
 |_::_,_::_,h=>⟨h.1,LeL.snoc hxy h.2⟩
theorem LeL.get{cs:List Qb}{y:Str}:∀{A B:List Str} {i:Nat},LeL cs A B->B[i]? = some y->∃x,A[i]? = some x/\zaq cs (Zo x) (Zo y)
 |[],[],i,_,h=>by simp at h
 |a::r,b::s,0,h,hi=>by simp at hi;subst hi;exact⟨a,by simp,h.1⟩
 |a::r,b::s,i+1,h,hi=>by
  obtain⟨x,h1,h2⟩:=LeL.get (i:=i) h.2 (by simpa using hi);exact⟨x,by simpa using h1,h2⟩
theorem LeL.set{cs:List Qb}{x y:Str}(hxy:zaq cs (Zo x) (Zo y)):∀{A B:List Str} {i:Nat},LeL cs A B->LeL cs (A.set i x) (B.set i y)
 |[],[],_,_=>trivial
 |_::_,_::_,0,h=>⟨hxy,h.2⟩
 |_::_,_::_,i+1,h=>⟨h.1,LeL.set hxy (i:=i) h.2⟩
structure LeF (cs:List Qb) (A B:List Str):Prop where
 le:LeL cs A B
 ka:Qm cs A
 kb:Qm cs B
 sm:A.length<=8
theorem ZJ{cs:List Qb}{k:Str}(h:zd cs k=0):zL cs (Zo k)=true:=by
 obtain⟨X,hX,hg⟩:=zM h;rw[qz hX];exact hg
theorem Qb4{cs:List Qb}{S:List Str}{k:Str}(h:Qm cs S)(hk:zd cs k=0):Qm cs (S++[k]):=fun x hx=>by
 rcases List.mem_append.1 hx with hx|hx
 ·exact h x hx
 ·simp at hx;subst hx;exact hk
theorem Zcm{cs:List Qb}{S:List Str}{k:Str}{i:Nat}(h:Qm cs S)(hk:zd cs k=0):Qm cs (S.set i k):=fun x hx=>by
 rcases List.mem_or_eq_of_mem_set hx with hx|hx
 ·exact h x hx
 ·rw[hx];exact hk
variable {l:List Qb}
theorem Qas{Sa Sb S':List Str}{t:Str}(h:LeF (Za l) Sa Sb)(hp:QH Sb=some (t,S')):∃u Sa',QH Sa=some (u,Sa')/\zaq (Za l) (Zo u) (Zo t)/\zd (Za l) u=0/\zd (Za l) t=0/\LeF (Za l) Sa' S':=by
 have hs:=zdv hp;have hl:=h.le;rw[hs]at hl;obtain⟨A',x,e,h1,h2⟩:=hl.snoc_inv;obtain⟨k1,k2⟩:=zae hp h.kb;have hpa:QH Sa=some (x,A'):=by rw[e,ZO]
 obtain⟨k3,k4⟩:=zae hpa h.ka;have h8:=h.sm;rw[e,List.length_append]at h8;exact⟨x,A',hpa,h2,k3,k1,h1,k4,k2,by omega⟩
theorem qbE{Sa Sb S':List Str}{u t:Str}(h:LeF (Za l) Sa Sb)(hut:zaq (Za l) (Zo u) (Zo t))(hu:zd (Za l) u=0)(ht:zd (Za l) t=0)(hp:QK Sb t=some S'):∃Sa',QK Sa u=some Sa'/\LeF (Za l) Sa' S':=by
 have hs:=Zdv hp;unfold QK at hp ⊢;split at hp
 ·rename_i h8;rw[if_pos (by rw[h.le.len];exact h8)];subst hs;exact⟨_,rfl,h.le.snoc hut,Qb4 h.ka hu,Qb4 h.kb ht,by rw[List.length_append,h.le.len];exact h8⟩
 ·cases hp
theorem Qa6{La Lb Sa Sb L' S':List Str}{u t:Str}(hL:LeF (Za l) La Lb)(h:LeF (Za l) Sa Sb)(hut:zaq (Za l) (Zo u) (Zo t))(hu:zd (Za l) u=0)(ht:zd (Za l) t=0)(hp:zv Lb Sb t=some (L',S')):∃La' Sa',zv La Sa u=some (La',Sa')/\LeF (Za l) La' L'/\LeF (Za l) Sa' S':=by
 obtain⟨e,hq⟩:=qdv hp;subst e;obtain⟨Sa',h1,h2⟩:=qbE h hut hu ht hq;exact⟨La,Sa',zD h1,hL,h2⟩
theorem qU{La Lb Sa Sb L' S':List Str}{t:Str}(hL:LeF (Za l) La Lb)(h:LeF (Za l) Sa Sb)(ht:zd (Za l) t=0)(hp:zv Lb Sb t=some (L',S')):∃La' Sa',zv La Sa t=some (La',Sa')/\LeF (Za l) La' L'/\LeF (Za l) Sa' S' :=
 Qa6 hL h (za6 _ _) ht ht hp
theorem QJ(hR:Qj l):∀{ks Sa Sb S':List Str},LeF (Za l) Sa Sb->zh (Za l) ks Sb=some S'->∃Sa',zh (Za l) ks Sa=some Sa'/\LeF (Za l) Sa' S'/\∀k∈ks,zd (Za l) k=0
 |[],Sa,Sb,S',h,ht=>by injection ht with ht;subst ht;exact⟨Sa,rfl,h,fun k hk=>by cases hk⟩
 |k::r,Sa,Sb,S',h,ht=>by
  unfold zh at ht ⊢;split at ht
  ·cases ht
  ·rename_i h0;rw[if_neg h0];cases hp:QH Sb with
   |none=>rw[hp]at ht;cases ht
   |some p =>
    obtain⟨t,S1⟩:=p;rw[hp]at ht;obtain⟨u,Sa1,h1,h2,h3,h4,h5⟩:=Qas h hp;rw[h1];dsimp only at ht ⊢;split at ht
    ·rename_i hf;have hg:=zb5 hR (ZJ h3) (Qdl hR (ZJ h3) h2) hf;rw[if_pos hg];obtain⟨Sa',g1,g2,g3⟩:=QJ hR h5 ht;exact⟨Sa',g1,g2,fun x hx=>by
      rcases List.mem_cons.1 hx with e|hx
      ·rw[e];exact Decidable.not_not.1 h0
      ·exact g3 x hx⟩
    ·cases ht
theorem QdP{cs:List Qb}{x y:Kd}(h:zaq cs x y)(hy:q9 y=true):q9 x=true:=by
 cases y with
 |t=>cases hy
 |n=>cases x with
  |n=>rfl
  |t=>exact h.elim
  |ty x=>exact h.elim
 |ty y=>cases x with
  |n=>rfl
  |t=>exact h.elim
  |ty x =>
   have hy':Ql y=true:=hy;cases x<;>cases y<;>first|rfl|exact h.elim|cases hy'
theorem ZaN{Sa Sb S':List Str}{t:Str}(h:LeF (Za l) Sa Sb)(hp:qK Sb=some (t,S')):∃u Sa',qK Sa=some (u,Sa')/\zaq (Za l) (Zo u) (Zo t)/\zd (Za l) u=0/\zd (Za l) t=0/\LeF (Za l) Sa' S':=by
 obtain⟨h1,h2⟩:=za7 hp;obtain⟨u,Sa',g1,g2,g3,g4,g5⟩:=Qas h h1;refine⟨u,Sa',?_,g2,g3,g4,g5⟩;unfold qK;rw[g1,Option.bind_some];dsimp only;rw[if_pos (QdP g2 h2)]
theorem zdQ(hR:Qj l){u t x:Str}(h:zaq (Za l) (Zo u) (Zo t))(hu:zL (Za l) (Zo u)=true)(hk:qaV (Za l) t x=true):qaV (Za l) u x=true:=by
 unfold qaV at hk ⊢;generalize Zo u=a at *;generalize Zo t=b at *;cases b with
 |t=>cases hk
 |n=>cases a with
  |n=>rfl
  |t=>exact h.elim
  |ty x=>exact h.elim
 |ty y=>cases y with
  |i=>cases hk
  |j=>cases hk
  |cl c=>cases hk
  |ar e=>cases a with
   |n=>rfl
   |t=>exact h.elim
   |ty z=>cases z with
    |i=>exact h.elim
    |j=>exact h.elim
    |cl c=>exact h.elim
    |ar d =>
     dsimp only at hk ⊢;rw[Bool.and_eq_true]at hk;have hle:zaq (Za l) (.ty d) (.ty e):=h;have hgd:zL (Za l) (.ty d)=true:=hu;have hf:=Qdl hR hgd hle;have hrd:Ql d=Ql e:=Qbk (cs:=Za l) (x:=d) (y:=e) hf;rw[zb5 hR hgd hf hk.1,hrd,hk.2];rfl
theorem qbL(hR:Qj l){Sa Sb S':List Str}{t:Str}(h:LeF (Za l) Sa Sb)(ha:zK (Za l) t Sb=some S'):∃Sa',zK (Za l) t Sa=some Sa'/\LeF (Za l) Sa' S'/\zd (Za l) t=0:=by
 unfold zK at ha ⊢;split at ha
 ·cases ha
 ·rename_i h0;rw[if_neg h0];obtain⟨S1,h1,ha⟩:=zy ha;obtain⟨⟨x,S2⟩,h2,ha⟩:=zy ha;obtain⟨Sa1,g1,g2,_⟩:=QJ hR h h1;obtain⟨u,Sa2,g3,g4,g5,_,g6⟩:=ZaN g2 h2;rw[Qe g1,Qe g3];dsimp only at ha ⊢;split at ha
  ·rename_i hk;injection ha with ha
   subst ha;rw[if_pos (zdQ hR g4 (ZJ g5) hk)];exact⟨Sa2,rfl,g6,Decidable.not_not.1 h0⟩
  ·cases ha
theorem Qdv{La Lb Sa Sb L' S':List Str}{g:Str}(hL:LeF (Za l) La Lb)(h:LeF (Za l) Sa Sb)(he:qaY (Za l) Lb Sb g=some (L',S')):∃La' Sa',qaY (Za l) La Sa g=some (La',Sa')/\LeF (Za l) La' L'/\LeF (Za l) Sa' S':=by
 unfold qaY at he ⊢;split at he
 ·rename_i hv;injection he with he
  obtain⟨e1,e2⟩:=Qaj he;subst e1 e2;rw[if_pos hv];exact⟨La,Sa,rfl,hL,h⟩
 ·rename_i hv;rw[if_neg hv];unfold Zdq at he ⊢;split at he
  ·rename_i hk;rw[if_pos hk];exact qU hL h hk he
  ·cases he
theorem qc5(hR:Qj l){static:Bool}{cls:Str}{Sa Sb S':List Str}(h:LeF (Za l) Sa Sb)(ht:QaY (Za l) static cls Sb=some S'):∃Sa',QaY (Za l) static cls Sa=some Sa'/\LeF (Za l) Sa' S':=by
 unfold QaY at ht ⊢;split at ht
 ·rename_i hs;injection ht with ht
  subst ht;rw[if_pos hs];exact⟨Sa,rfl,h⟩
 ·rename_i hs;rw[if_neg hs];obtain⟨Sa',g1,g2,_⟩:=QJ hR h ht;exact⟨Sa',g1,g2⟩
theorem Zb5(hR:Qj l){qb cls name type:Str}{static:Bool}{La Lb Sa Sb L' S':List Str}(hL:LeF (Za l) La Lb)(h:LeF (Za l) Sa Sb)(hc:Qam (Za l) qb cls name type static Lb Sb=some (L',S')):∃La' Sa',Qam (Za l) qb cls name type static La Sa=some (La',Sa')/\LeF (Za l) La' L'/\LeF (Za l) Sa' S':=by
 unfold Qam at hc ⊢;split at hc
 ·cases hc
 ·rename_i h0;rw[if_neg h0];cases hm:zm type with
  |none=>rw[hm]at hc;cases hc
  |some p =>
   obtain⟨args,g⟩:=p;rw[hm]at hc;dsimp only at hc ⊢;obtain⟨S1,h1,hc⟩:=zy hc;obtain⟨S2,h2,hc⟩:=zy hc;obtain⟨Sa1,g1,g2,_⟩:=QJ hR h h1;obtain⟨Sa2,g3,g4⟩:=qc5 hR g2 h2;rw[Qe g1,Qe g3];exact Qdv hL g4 hc
theorem QbE{cs:List Qb}{t:Str}(h:Qag (lst t)=true):zd cs t=0:=by
 have h':lst t=[73]\/lst t=[74]:=by
  unfold Qag at h;simpa using h
 rcases h' with e|e
 ·exact QaD (x:=.i) (by rw[e];rfl) rfl (by decide) rfl
 ·exact QaD (x:=.j) (by rw[e];rfl) rfl (by decide) rfl
theorem Qc5{cs:List Qb}:zd cs kI=0:=QbE (by decide)
theorem Qek{cs:List Qb}:zd cs kN=0:=by unfold zd;rw[if_pos (show lst kN=[78]\/lst kN=[84] from Or.inl rfl)]
theorem ZdQ{u t:Str}(hu:zd (Za l) u=0)(ht:zd (Za l) t=0)(h:zaq (Za l) (Zo u) (Zo t))(hk:qW t=true):qW u=true:=by
 obtain⟨X,hX,_⟩:=zM hu;obtain⟨Y,hY,_⟩:=zM ht;rw[qz hX,qz hY]at h;have e:∀(k:Str) (Z:Kd),qo Z=lst k->qW k=(decide (Z=.n)||(match Z with|.ty (.ar _)=>true|_=>false)):=by
  intro k Z hZ;unfold qW;have hd:=ZP hZ .n;rw[show qo Kd.n=[78] from rfl]at hd;rw[hd,show k.toList=qo Z by rw[hZ,ByteArray.toList_eq]];cases Z with
  |n=>rfl
  |t=>rfl
  |ty z=>cases z<;>rfl
 rw[e u X hX];rw[e t Y hY]at hk;cases Y with
 |t=>cases hk
 |n=>cases X with
  |n=>rfl
  |t=>exact h.elim
  |ty x=>exact h.elim
 |ty y=>cases y with
  |i=>cases hk
  |j=>cases hk
  |cl c=>cases hk
  |ar e=>cases X with
   |n=>rfl
   |t=>exact h.elim
   |ty x=>cases x with
    |ar d=>rfl
    |i=>exact h.elim
    |j=>exact h.elim
    |cl c=>exact h.elim
theorem zdw{La Lb Sa Sb L' S':List Str}{cls:Str}(hL:LeF (Za l) La Lb)(h:LeF (Za l) Sa Sb)(hk:zd (Za l) (Zd cls)=0)(hn:Zba (Za l) cls Lb Sb=some (L',S')):∃La' Sa',Zba (Za l) cls La Sa=some (La',Sa')/\LeF (Za l) La' L'/\LeF (Za l) Sa' S':=by
 unfold Zba at hn ⊢;split at hn
 ·cases hn
 ·rename_i hf;rw[if_neg hf];exact qU hL h hk hn
theorem QcL{op a b:Int}{type cls name:Str}(h:Zi ⟨op,a,b,type,cls,name⟩=0)(ho:op=2\/op=9\/op=10):Qag (lst type)=true:=by
 unfold Zi at h;split at h
 ·cases h
 ·split at h
  ·cases h
  ·split at h
   ·cases h
   ·split at h
    ·cases h
    ·rename_i ht;simp only[Bool.or_eq_true,not_or,Bool.not_eq_true',Bool.not_eq_true]at ht;have h1:=ht.1.1;unfold Qx at h1;rw[if_pos ho]at h1;simpa using h1
theorem Qd8{op a b:Int}{type cls name:Str}(h:Zi ⟨op,a,b,type,cls,name⟩=0)(ho:op=18\/op=20\/op=21):Qs (91::lst type)=true:=by
 unfold Zi at h;split at h
 ·cases h
 ·split at h
  ·cases h
  ·split at h
   ·cases h
   ·split at h
    ·cases h
    ·rename_i ht;simp only[Bool.or_eq_true,not_or,Bool.not_eq_true',Bool.not_eq_true]at ht;have h1:=ht.1.1;unfold Qx at h1;rw[if_neg (by dsimp only;omega),if_pos ho]at h1;simp at h1;exact h1.2
theorem qdQ{t:Str}(hk:zd (Za l) t=0)(ht:Qs (91::lst t)=true):zd (Za l) (QE t)=0:=by
 rw[<-za0]at ht;obtain⟨y,hy⟩:=Qaq ht;have hx:=hy.text;rw[za0]at hx;cases y with
 |i=>cases hx
 |j=>cases hx
 |cl c=>simp[Zf]at hx
 |ar e =>
  have he:Zf e=lst t:=by
   simp only[Zf,List.cons.injEq]at hx;exact hx.2
  obtain⟨_,hg⟩:=zbl he hk;exact QaD hy.text hy.name hy.deep hg
variable {l:List Qb}
def qb5(cs:List Qb)(oa:Option (List Str×List Str))(L' S':List Str):Prop:=∃La' Sa',oa=some (La',Sa')/\LeF cs La' L'/\LeF cs Sa' S'
theorem zd9{u t:Str}(hu:zd (Za l) u=0)(ht:zd (Za l) t=0)(h:zaq (Za l) (Zo u) (Zo t))(hn:¬(t.toList==[84])=true):¬(u.toList==[84])=true:=by
 obtain⟨X,hX,_⟩:=zM hu;obtain⟨Y,hY,_⟩:=zM ht;rw[qz hX,qz hY]at h;have h1:=ZP hX .t;have h2:=ZP hY .t;rw[show qo Kd.t=[84] from rfl]at h1 h2;rw[h2]at hn;rw[h1];intro e;have e1:=Xm e;subst e1;cases Y with
 |t=>exact hn (Xj rfl)
 |n=>exact h.elim
 |ty y=>exact h.elim
theorem zc6{La Lb Sa Sb L' S':List Str}{a:Int}(hL:LeF (Za l) La Lb)(hS:LeF (Za l) Sa Sb)(h:qaN Lb Sb a=some (L',S')):qb5 (Za l) (qaN La Sa a) L' S':=by
 unfold qaN at h ⊢;cases hk:Lb[a.toNat]? with
 |none=>rw[hk]at h;cases h
 |some t =>
  rw[hk]at h;dsimp only at h;split at h
  ·cases h
  ·rename_i ht;obtain⟨u,hu,hle⟩:=hL.le.get hk;have k1:=hL.kb t (Xe hk);have k2:=hL.ka u (Xe hu);rw[hu];dsimp only;rw[if_neg (zd9 k2 k1 hle ht)];exact Qa6 hL hS hle k2 k1 h
theorem zcM{La Lb Sa Sb L' S':List Str}{a:Int}(hL:LeF (Za l) La Lb)(hS:LeF (Za l) Sa Sb)(h:zaE Lb Sb a=some (L',S')):qb5 (Za l) (zaE La Sa a) L' S':=by
 unfold zaE at h ⊢;obtain⟨⟨t,S1⟩,h1,h⟩:=zy h;obtain⟨u,Sa1,g1,g2,g3,g4,g5⟩:=Qas hS h1;rw[Qe g1];dsimp only at h ⊢;split at h
 ·rename_i hl;injection h with h
  obtain⟨e1,e2⟩:=Qaj h;subst e1 e2;rw[if_pos (by rw[hL.le.len];exact hl)];exact⟨_,_,rfl,⟨hL.le.set g2,Zcm hL.ka g3,Zcm hL.kb g4,by rw[List.length_set];exact hL.sm⟩,g5⟩
 ·cases h
theorem ZcM(hR:Qj l){Zb:Str}{x:Ins}{La Lb Sa Sb L' S':List Str}(hi:Zi x=0)(hL:LeF (Za l) La Lb)(hS:LeF (Za l) Sa Sb)(h:qN (Za l) Zb x Lb Sb=some (L',S')):qb5 (Za l) (qN (Za l) Zb x La Sa) L' S':=by
 obtain⟨op,a,b,type,cls,name⟩:=x;obtain⟨e2,e3,e4,e5,e6,e7,e8,e9,e10,e11,e12,e13,e26,e27,e28⟩:=Za7 (Za l) Zb a b type cls name Lb Sb;obtain⟨g2,g3,g4,g5,g6,g7,g8,g9,g10,g11,g12,g13,g26,g27,g28⟩:=Za7 (Za l) Zb a b type cls name La Sa;by_cases c2:op=2
 ·subst c2;rw[e2]at h;rw[g2];exact qU hL hS (QbE (QcL hi (Or.inl rfl))) h
 by_cases c3:op=3
 ·subst c3;rw[e3]at h;rw[g3];exact qU hL hS Qek h
 by_cases c4:op=4
 ·subst c4;rw[e4]at h;rw[g4];exact zc6 hL hS h
 by_cases c5:op=5
 ·subst c5;rw[e5]at h;rw[g5];exact zcM hL hS h
 by_cases c6:op=6
 ·subst c6;rw[e6]at h;rw[g6];obtain⟨⟨t,S1⟩,h1,h⟩:=Z9 h;obtain⟨u,Sa1,p1,_,_,_,p5⟩:=Qas hS h1;obtain⟨q1,q2⟩:=Qaj h;subst q1 q2;exact⟨La,Sa1,Z7 p1,hL,p5⟩
 by_cases c7:op=7
 ·subst c7;rw[e7]at h;rw[g7];obtain⟨⟨t,S1⟩,h1,h⟩:=zy h;obtain⟨S2,h2,h⟩:=zy h;dsimp only at h2 h;obtain⟨u,Sa1,p1,p2,p3,p4,p5⟩:=Qas hS h1;obtain⟨Sa2,q1,q2⟩:=qbE p5 p2 p3 p4 h2;rw[Qe p1];dsimp only;rw[Qe q1];exact Qa6 hL q2 p2 p3 p4 h
 by_cases c8:op=8
 ·subst c8;rw[e8]at h;rw[g8];obtain⟨⟨t,S1⟩,h1,h⟩:=zy h;obtain⟨⟨s,S2⟩,h2,h⟩:=zy h;obtain⟨S3,h3,h⟩:=zy h;dsimp only at h2 h3 h;obtain⟨u,Sa1,p1,p2,p3,p4,p5⟩:=Qas hS h1;obtain⟨v,Sa2,r1,r2,r3,r4,r5⟩:=Qas p5 h2;obtain⟨Sa3,q1,q2⟩:=qbE r5 p2 p3 p4 h3;rw[Qe p1];dsimp only;rw[Qe r1];dsimp only;rw[Qe q1];exact Qa6 hL q2 r2 r3 r4 h
 by_cases c9:op=9
 ·subst c9;rw[e9]at h;rw[g9];obtain⟨S1,h1,h⟩:=zy h;obtain⟨S2,h2,h⟩:=zy h;obtain⟨Sa1,p1,p2,_⟩:=QJ hR hS h1;obtain⟨Sa2,q1,q2,q3⟩:=QJ hR p2 h2;rw[Qe p1,Qe q1];exact qU hL q2 (q3 type (by simp)) h
 by_cases c10:op=10
 ·subst c10;rw[e10]at h;rw[g10];obtain⟨S1,h1,h⟩:=zy h;obtain⟨Sa1,p1,p2,_⟩:=QJ hR hS h1;rw[Qe p1];exact qU hL p2 (QbE (QcL hi (Or.inr (Or.inr rfl)))) h
 by_cases c11:op=11
 ·subst c11;rw[e11]at h;rw[g11];obtain⟨S1,h1,h⟩:=zy h;obtain⟨Sa1,p1,p2,_⟩:=QJ hR hS h1;rw[Qe p1];exact qU hL p2 Qc5 h
 by_cases c12:op=12
 ·subst c12;rw[e12]at h;rw[g12];obtain⟨S1,h1,h⟩:=Z9 h;obtain⟨Sa1,p1,p2,_⟩:=QJ hR hS h1;obtain⟨q1,q2⟩:=Qaj h;subst q1 q2;exact⟨La,Sa1,Z7 p1,hL,p2⟩
 by_cases c13:op=13
 ·subst c13;rw[e13,zbT]at h;rw[g13,zbT];obtain⟨⟨t,S1⟩,h1,h⟩:=Z9 h;obtain⟨u,Sa1,p1,_,_,_,p5⟩:=ZaN hS h1;obtain⟨q1,q2⟩:=Qaj h;subst q1 q2;exact⟨La,Sa1,Z7 p1,hL,p5⟩
 by_cases c26:op=26
 ·subst c26;rw[e26]at h;rw[g26];split at h
  ·rename_i hv;injection h with h
   obtain⟨q1,q2⟩:=Qaj h;subst q1 q2;rw[if_pos hv];exact⟨La,Sa,rfl,hL,hS⟩
  ·cases h
 by_cases c27:op=27
 ·subst c27;rw[e27]at h;rw[g27];split at h
  ·cases h
  ·rename_i hv;obtain⟨S1,h1,h⟩:=Z9 h;obtain⟨Sa1,p1,p2,_⟩:=QJ hR hS h1;obtain⟨q1,q2⟩:=Qaj h;subst q1 q2;rw[if_neg hv];exact⟨La,Sa1,Z7 p1,hL,p2⟩
 by_cases c28:op=28
 ·subst c28;rw[e28]at h;rw[g28];obtain⟨S1,h1,h⟩:=Z9 h;obtain⟨Sa1,p1,p2,_⟩:=QJ hR hS h1;obtain⟨q1,q2⟩:=Qaj h;subst q1 q2;exact⟨La,Sa1,Z7 p1,hL,p2⟩
 rw[Q7 ⟨c2,c3,c4,c5,c6,c7,c8,c9,c10,c11,c12,c13,c26,c27,c28⟩]at h;rw[Q7 ⟨c2,c3,c4,c5,c6,c7,c8,c9,c10,c11,c12,c13,c26,c27,c28⟩];injection h with h
 obtain⟨q1,q2⟩:=Qaj h;subst q1 q2;exact⟨La,Sa,rfl,hL,hS⟩
theorem QaN{t:Str}{oa ob:Option (List Str×List Str)}{L' S':List Str}(h:knK (Za l) t ob=some (L',S'))(g:zd (Za l) t=0->ob=some (L',S')->qb5 (Za l) oa L' S'):qb5 (Za l) (knK (Za l) t oa) L' S':=by
 unfold knK at h ⊢;split at h
 ·cases h
 ·rename_i h0;rw[if_neg h0];exact g (Decidable.not_not.1 h0) h
theorem qcy(hR:Qj l){qb:Str}{x:Ins}{La Lb Sa Sb L' S':List Str}(hi:Zi x=0)(hL:LeF (Za l) La Lb)(hS:LeF (Za l) Sa Sb)(h:zP (Za l) qb x Lb Sb=some (L',S')):qb5 (Za l) (zP (Za l) qb x La Sa) L' S':=by
 obtain⟨op,a,b,type,cls,name⟩:=x;obtain⟨e15,e16,e17,e18,e19,e20,e21,e22,e23,e24,e25⟩:=qaS (Za l) qb a b type cls name Lb Sb;obtain⟨g15,g16,g17,g18,g19,g20,g21,g22,g23,g24,g25⟩:=qaS (Za l) qb a b type cls name La Sa;by_cases c15:op=15
 ·subst c15;rw[e15]at h;rw[g15];exact QaN h (fun hk h=>zdw hL hS hk h)
 by_cases c16:op=16
 ·subst c16;rw[e16]at h;rw[g16];obtain⟨t,h1,h⟩:=zy h;obtain⟨S1,h2,h⟩:=zy h;obtain⟨Sa1,p1,p2,_⟩:=QJ hR hS h2;rw[Qe h1,Qe p1];exact qU hL p2 (zap h1).2 h
 by_cases c17:op=17
 ·subst c17;rw[e17]at h;rw[g17];obtain⟨t,h1,h⟩:=zy h;obtain⟨S1,h2,h⟩:=Z9 h;obtain⟨Sa1,p1,p2,_⟩:=QJ hR hS h2;obtain⟨q1,q2⟩:=Qaj h;subst q1 q2;rw[Qe h1];exact⟨La,Sa1,Z7 p1,hL,p2⟩
 by_cases c18:op=18
 ·subst c18;rw[e18]at h;rw[g18];refine QaN h (fun hk h=>?_);obtain⟨S1,h2,h⟩:=zy h;obtain⟨Sa1,p1,p2,_⟩:=QJ hR hS h2;rw[Qe p1];exact qU hL p2 (qdQ hk (Qd8 hi (Or.inl rfl))) h
 by_cases c19:op=19
 ·subst c19;rw[e19]at h;rw[g19];obtain⟨⟨t,S1⟩,h1,h⟩:=zy h;obtain⟨u,Sa1,p1,p2,p3,p4,p5⟩:=ZaN hS h1;rw[Qe p1];dsimp only at h ⊢;split at h
  ·rename_i hl;rw[if_pos (ZdQ p3 p4 p2 hl)];exact qU hL p5 Qc5 h
  ·cases h
 by_cases c20:op=20
 ·subst c20;rw[e20]at h;rw[g20];obtain⟨S1,h1,h⟩:=zy h;obtain⟨Sa1,p1,p2,p3⟩:=qbL hR hS h1;rw[Qe p1];exact qU hL p2 p3 h
 by_cases c21:op=21
 ·subst c21;rw[e21]at h;rw[g21];refine QaN h (fun _ h=>?_);obtain⟨S1,h1,h⟩:=zy h;obtain⟨S2,h2,h⟩:=Z9 h;obtain⟨Sa1,p1,p2,_⟩:=QJ hR hS h1;obtain⟨Sa2,r1,r2,_⟩:=qbL hR p2 h2;obtain⟨q1,q2⟩:=Qaj h;subst q1 q2;rw[Qe p1];exact⟨La,Sa2,Z7 r1,hL,r2⟩
 by_cases c22:op=22
 ·subst c22;rw[e22]at h;rw[g22];refine QaN h (fun hk h=>?_);obtain⟨⟨t,S1⟩,h1,h⟩:=zy h;obtain⟨u,Sa1,p1,_,_,_,p5⟩:=ZaN hS h1;rw[Qe p1];exact qU hL p5 hk h
 by_cases c23:op=23
 ·subst c23;rw[e23]at h;rw[g23];refine QaN h (fun _ h=>?_);obtain⟨⟨t,S1⟩,h1,h⟩:=zy h;obtain⟨u,Sa1,p1,_,_,_,p5⟩:=ZaN hS h1;rw[Qe p1];exact qU hL p5 Qc5 h
 by_cases c24:op=24
 ·subst c24;rw[e24]at h;rw[g24];exact Zb5 hR hL hS h
 by_cases c25:op=25
 ·subst c25;rw[e25]at h;rw[g25];exact Zb5 hR hL hS h
 rw[zaj ⟨c15,c16,c17,c18,c19,c20,c21,c22,c23,c24,c25⟩]at h;rw[zaj ⟨c15,c16,c17,c18,c19,c20,c21,c22,c23,c24,c25⟩];injection h with h
 obtain⟨q1,q2⟩:=Qaj h;subst q1 q2;exact⟨La,Sa,rfl,hL,hS⟩
theorem ZbX(hR:Qj l){qb Zb:Str}{x:Ins}{La Lb Sa Sb L' S':List Str}(hi:Zi x=0)(hL:LeF (Za l) La Lb)(hS:LeF (Za l) Sa Sb)(h:zq (Za l) qb Zb x Lb Sb=some (L',S')):qb5 (Za l) (zq (Za l) qb Zb x La Sa) L' S':=by
 unfold zq at h ⊢;obtain⟨⟨L1,S1⟩,h1,h2⟩:=zy h;obtain⟨La1,Sa1,p1,p2,p3⟩:=ZcM hR hi hL hS h1;rw[Qe p1];exact qcy hR hi p2 p3 h2
theorem qbc{α:Type}{f:α->Nat}:∀{l:List α},(∀x∈l,f x=0)->Zh f l=0
 |[],_=>rfl
 |x::r,h=>by
  unfold Zh;rw[if_pos (h x (by simp))];exact qbc (fun y hy=>h y (List.mem_cons_of_mem _ hy))
theorem QaA{cs:List Qb}{f:Frm}(h1:f.locals.length<=8)(h2:f.stack.length<=8)(k1:Qm cs f.locals)(k2:Qm cs f.stack):zz cs f=0:=by
 unfold zz;rw[if_neg (by omega)];exact qbc (fun x hx=>(List.mem_append.1 hx).elim (k1 x) (k2 x))
end Go.Proofs.YtlmfmioljeppfaaGreatDoor
