/- Lemmas; conditions: as each states. -/
import Derived.Test.YtlmfmioljeppfaaGreatDoorStepAny
set_option maxHeartbeats 4000000
namespace Go.Proofs.YtlmfmioljeppfaaGreatDoor
open Go.RowKit Go.Shelf Go.Lib
def QaG(static:Bool)(cls:Str):List Str:=if static=true then [] else [Zd cls]
def qbs(cs:List Qb)(static:Bool)(cls:Str)(args:List Str)(g:Str):Option (List Str×List Str) :=
 if args.all (fun k=>zd cs k==0)=true then (if (g.toList==[86])=true then some (args.reverse++QaG static cls,[]) else if zd cs g=0 then some (args.reverse++QaG static cls,[g]) else none) else none
def Qax(cs:List Qb)(qb cls name type:Str)(static:Bool):Option (List Str×List Str) :=
 if Zz cs qb cls name type static≠0 then none else match Zm type with
 |none=>none
 |some (args,g)=>qbs cs static cls args g
def Qq(cs:List Qb)(qb Zb:Str)(x:Ins):Option (List Str×List Str) :=
 if x.op=2 then some ([],[x.type])
 else if x.op=3 then some ([],[kN])
 else if x.op=9 then some (zaz x.a x.type++[x.type],[x.type])
 else if x.op=10 then some ([zaf x.type],[x.type])
 else if x.op=11 then some ([kJ,kJ],[kI])
 else if x.op=12 then some ([kI],[])
 else if x.op=15 then if (Qc cs x.cls).isSome&&!(qh cs x.cls).face then some ([],[Zd x.cls]) else none
 else if x.op=16 then (zG cs x.cls x.name).map fun t=>([Zd x.cls],[t])
 else if x.op=17 then (zG cs x.cls x.name).map fun t=>([t,Zd x.cls],[])
 else if x.op=18 then if zd cs x.type=0 then some ([kI],[ZF x.type]) else none
 else if x.op=24 then Qax cs qb x.cls x.name x.type false
 else if x.op=25 then Qax cs qb x.cls x.name x.type true
 else if x.op=26 then if (Zb.toList==[86])=true then some ([],[]) else none
 else if x.op=27 then if (Zb.toList==[86])=true then none else if zd cs Zb=0 then some ([Zb],[]) else none
 else if x.op=28 then some ([Zd Zaf],[])
 else some ([],[])
def ZaX(cs:List Qb)(L S:List Str)(p:List Str×List Str):Option (List Str×List Str):=(zh cs p.1 S).bind fun S'=>if (S'++p.2).length<=8 then some (L,S'++p.2) else none
theorem qdd(L S:List Str)(k:Str):Zv L S k=if (S++[k]).length<=8 then some (L,S++[k]) else none:=by
 unfold Zv ZK;have:(S++[k]).length=S.length+1:=by simp
 by_cases h:S.length<8
 ·rw[if_pos h,if_pos (by omega)];rfl
 ·rw[if_neg h,if_neg (by omega)];rfl
theorem QaP{cs:List Qb}:∀{ks S A:List Str},zh cs ks S=some A->A.length+ks.length=S.length
 |[],S,A,h=>by injection h with h;subst h;rfl
 |k::r,S,A,h=>by
  unfold zh at h;split at h
  ·cases h
  ·rcases List.eq_nil_or_concat S with rfl|⟨q,t,rfl⟩
   ·cases h
   ·rw[List.concat_eq_append]at *;rw[ZO]at h;dsimp only at h;split at h
    ·have:=QaP h;simp;omega
    ·cases h
theorem ZaU(cs:List Qb)(k:Str)(r S:List Str):zh cs (k::r) S=if zd cs k≠0 then none else match zI S with
 |none=>none
 |some (t,A)=>if Zx cs (Zo t) (Zo k) then zh cs r A else none:=rfl
theorem zbG{cs:List Qb}:∀{ks m S:List Str},zh cs (ks++m) S=(zh cs ks S).bind fun B=>zh cs m B
 |[],m,S=>rfl
 |k::r,m,S=>by
  show zh cs (k::(r++m)) S=_
  rw[ZaU,ZaU];by_cases A:zd cs k≠0
  ·rw[if_pos A,if_pos A];rfl
  ·rw[if_neg A,if_neg A];cases zI S with
   |none=>rfl
   |some p =>
    obtain⟨t,C⟩:=p;dsimp only;split
    ·exact zbG
    ·rfl
theorem qbd{cs:List Qb}:∀{ks S:List Str},(ks.all fun k=>zd cs k==0)=false->zh cs ks S=none
 |[],S,h=>by cases h
 |k::r,S,h=>by
  unfold zh;by_cases A:zd cs k≠0
  ·rw[if_pos A]
  ·rw[if_neg A];cases zI S with
   |none=>rfl
   |some p =>
    obtain⟨t,B⟩:=p;dsimp only;split
    ·rw[List.all_cons,beq_iff_eq.2 (Decidable.not_not.1 A),Bool.true_and]at h;exact qbd h
    ·rfl
theorem Qbs(cs:List Qb)(L S ks:List Str)(k:Str):((zh cs ks S).bind fun A=>Zv L A k)=ZaX cs L S (ks,[k]):=by
 unfold ZaX;congr 1;funext A;exact qdd L A k
theorem zbn{cs:List Qb}{L S ks:List Str}(C:S.length<=8):((zh cs ks S).map fun A=>(L,A))=ZaX cs L S (ks,[]):=by
 unfold ZaX;cases B:zh cs ks S with
 |none=>rfl
 |some A =>
  have:=QaP B;simp only[Option.map_some,Option.bind_some,List.append_nil];rw[if_pos (by omega)]
theorem zd0{cs:List Qb}{qb cls B A:Str}{static:Bool}{L S:List Str}(H:S.length<=8):qam cs qb cls B A static L S=(Qax cs qb cls B A static).bind fun p=>ZaX cs L S p:=by
 unfold qam Qax;by_cases E:Zz cs qb cls B A static≠0
 ·rw[if_pos E,if_pos E];rfl
 ·rw[if_neg E,if_neg E];cases Zm A with
  |none=>rfl
  |some q =>
   obtain⟨args,g⟩:=q;dsimp only;unfold qbs;cases M:args.all (fun k=>zd cs k==0) with
   |false =>
    rw[qbd (by rw[List.all_reverse];exact M)];rfl
   |true =>
    rw[if_pos rfl];have I:∀C,qaZ cs static cls C=zh cs (QaG static cls) C:=fun C=>by unfold qaZ QaG;split<;>rfl
    have J:∀f:List Str->Option (List Str×List Str),((zh cs args.reverse S).bind fun C=>(qaZ cs static cls C).bind fun N=>f N)=(zh cs (args.reverse++QaG static cls) S).bind f:=fun f=>by
     rw[zbG,Option.bind_assoc];congr 1;funext C;rw[I]
    rw[J];by_cases D:(g.toList==[86])=true
    ·rw[if_pos D,Option.bind_some,<-zbn H];rw[Option.map_eq_bind];congr 1;funext C;exact ZbW D
    ·rw[if_neg D];have G:(g.toList==[86])=false:=(by simpa using D);by_cases F:zd cs g=0
     ·rw[if_pos F,Option.bind_some,<-Qbs];congr 1;funext C;unfold ZaZ zdv;rw[if_neg D,if_pos F]
     ·rw[if_neg F];cases zh cs (args.reverse++QaG static cls) S with
      |none=>rfl
      |some C=>exact Qbo G F
theorem Zal{l:List Qb}(A:∀c∈l,qd c=0){c:Str}(h:(Qc (Za l) c).isSome=true):zd (Za l) (Zd c)=0:=qbi A (x:=.ty (.cl c)) ⟨(zbh c).symm,h⟩ (Nat.zero_le _)
def q9(op:Int):Prop:=op=4\/op=5\/op=6\/op=7\/op=8\/op=13\/op=19\/op=20\/op=21\/op=22\/op=23
instance (op:Int):Decidable (q9 op):=by unfold q9;infer_instance
theorem Qdd{l:List Qb}(O:∀c∈l,qd c=0)(qb Zb:Str)(x:Ins)(L S:List Str)(E:S.length<=8)(P:¬q9 x.op):zp (Za l) qb Zb x L S=(Qq (Za l) qb Zb x).bind fun p=>ZaX (Za l) L S p:=by
 obtain⟨C,a,b,A,cls,B⟩:=x;obtain⟨e2,e3,e4,e5,e6,e7,e8,e9,Z,d,e,f,g,i,j⟩:=za8 (Za l) Zb a b A cls B L S;obtain⟨k,m,n,q,r,s,v,y,z,aA,aB⟩:=ZaT (Za l) qb a b A cls B L S;clear e4 e5 e6 e7 e8 f r s v y z;replace P:¬q9 C:=P;unfold q9 at P;have F:∀o:Option (List Str×List Str),(o.bind fun p=>some (p.1,p.2))=o:=fun o=>by cases o<;>rfl
 by_cases ho:15<=C/\C<=25
 ·have hp:qN (Za l) Zb ⟨C,a,b,A,cls,B⟩ L S=some (L,S):=Q6 (by dsimp only;omega);have hs:zp (Za l) qb Zb ⟨C,a,b,A,cls,B⟩ L S=zP (Za l) qb ⟨C,a,b,A,cls,B⟩ L S:=by unfold zp;rw[hp];rfl
  rw[hs];by_cases R:C=15
  ·subst R;rw[k];show _=(if (Qc (Za l) cls).isSome&&!(qh (Za l) cls).face then some ([],[Zd cls]) else none).bind _
   unfold knK Zbb;by_cases D:(Qc (Za l) cls).isSome=true
   ·rw[if_neg (by rw[Zal O D];decide),D,Bool.true_and];cases(qh (Za l) cls).face with
    |true=>rfl
    |false=>exact Qbs (Za l) L S [] (Zd cls)
   ·rw[if_pos (fun h=>D (QaY h)),(by simpa using D:(Qc (Za l) cls).isSome=false)];rfl
  by_cases T:C=16
  ·subst T;rw[m];show _=((zG (Za l) cls B).map _).bind _
   cases zG (Za l) cls B with
   |none=>rfl
   |some t=>exact Qbs _ _ _ _ _
  by_cases U:C=17
  ·subst U;rw[n];show _=((zG (Za l) cls B).map _).bind _
   cases zG (Za l) cls B with
   |none=>rfl
   |some t=>exact zbn E
  by_cases V:C=18
  ·subst V;rw[q];show _=(if zd (Za l) A=0 then some ([kI],[ZF A]) else (none:Option (List Str×List Str))).bind _
   unfold knK;by_cases D:zd (Za l) A=0
   ·rw[if_neg (by rw[D];decide),if_pos D];exact Qbs _ _ _ _ _
   ·rw[if_pos D,if_neg D];rfl
  by_cases X:C=24
  ·subst X;rw[aA];exact zd0 E
  have Y:C=25:=by omega
  subst Y;rw[aB];exact zd0 E
 ·have hs:zp (Za l) qb Zb ⟨C,a,b,A,cls,B⟩ L S=qN (Za l) Zb ⟨C,a,b,A,cls,B⟩ L S:=by
   have hh:∀L S,zP (Za l) qb ⟨C,a,b,A,cls,B⟩ L S=some (L,S):=fun L S=>zaj (by dsimp only;omega)
   unfold zp;simp only[hh];exact F _
  rw[hs];by_cases c2:C=2
  ·subst c2;rw[e2];exact Qbs (Za l) L S [] A
  by_cases c3:C=3
  ·subst c3;rw[e3];exact Qbs (Za l) L S [] kN
  by_cases c9:C=9
  ·subst c9;rw[e9];show _=ZaX (Za l) L S (zaz a A++[A],[A])
   rw[<-Qbs,zbG,Option.bind_assoc]
  by_cases G:C=10
  ·subst G;rw[Z];exact Qbs _ _ _ _ _
  by_cases H:C=11
  ·subst H;rw[d];exact Qbs _ _ _ _ _
  by_cases I:C=12
  ·subst I;rw[e];exact zbn E
  by_cases J:C=26
  ·subst J;rw[g];show _=(if (Zb.toList==[86])=true then some ([],[]) else (none:Option (List Str×List Str))).bind _
   split
   ·exact zbn (cs:=Za l) (ks:=[]) E
   ·rfl
  by_cases M:C=27
  ·subst M;rw[i];show _=(if (Zb.toList==[86])=true then (none:Option (List Str×List Str)) else if zd (Za l) Zb=0 then some ([Zb],[]) else none).bind _
   split
   ·rfl
   ·by_cases D:zd (Za l) Zb=0
    ·rw[if_pos D];exact zbn E
    ·rw[if_neg D,qcq D];rfl
  by_cases N:C=28
  ·subst N;rw[j];exact zbn E
  rw[Q6 (by dsimp only;omega)];have hw:Qq (Za l) qb Zb ⟨C,a,b,A,cls,B⟩=some ([],[]):=by
   unfold Qq;dsimp only;rw[if_neg c2,if_neg c3,if_neg c9,if_neg G,if_neg H,if_neg I,if_neg (by omega),if_neg (by omega),if_neg (by omega),if_neg (by omega),if_neg (by omega),if_neg (by omega),if_neg J,if_neg M,if_neg N]
  rw[hw];exact zbn (cs:=Za l) (ks:=[]) E
theorem zaB{x:Ins}(h:Zi x=0):qy x=true:=by
 unfold Zi at h;split at h
 ·cases h
 ·split at h
  ·cases h
  ·split at h
   ·cases h
   ·split at h
    ·cases h
    ·rename_i A;simp only[Bool.or_eq_true,not_or,Bool.not_eq_true',Bool.not_eq_false]at A;exact A.1.1
theorem ZbG(cs:List Qb){t:Str}(h:zah (lst t)=true):zd cs t=0:=by
 have A:t=kI\/t=kJ:=by
  unfold zah at h;simp only[Bool.or_eq_true,beq_iff_eq]at h;rcases h with h|h
  ·exact Or.inl (ByteArray.ext (Array.toList_inj.1 h))
  ·exact Or.inr (ByteArray.ext (Array.toList_inj.1 h))
 rcases A with rfl|rfl
 ·exact qaD (x:=.i) rfl rfl (by decide) rfl
 ·exact qaD (x:=.j) rfl rfl (by decide) rfl
theorem Qa3(cs:List Qb):zd cs kI=0:=ZbG cs rfl
theorem qcT(cs:List Qb):zd cs kJ=0:=ZbG cs rfl
theorem QcT{l:List Qb}(M:∀c∈l,qd c=0){qb Zb:Str}{x:Ins}{ks L:List Str}(m:Zi x=0)(h:Qq (Za l) qb Zb x=some (ks,L)):(∀k∈ks,zd (Za l) k=0)/\ks.length<=6/\L.length<=1:=by
 have e:=zaB m;clear m;obtain⟨C,a,b,I,cls,F⟩:=x;have A:∀{k p:List Str},some (k,p)=some (ks,L)->(∀z∈k,zd (Za l) z=0)->k.length<=6->p.length<=1->(∀z∈ks,zd (Za l) z=0)/\ks.length<=6/\L.length<=1:=by
  intro k p i B v h3;injection i with i
  injection i with e1 e2
  subst e1 e2;exact⟨B,v,h3⟩
 have E:∀static,Qax (Za l) qb cls F I static=some (ks,L)->(∀z∈ks,zd (Za l) z=0)/\ks.length<=6/\L.length<=1:=by
  intro static h;unfold Qax at h;split at h
  ·cases h
  ·rename_i j;split at h
   ·cases h
   ·rename_i args g hm;have h5:=ZS hm;unfold qbs at h;split at h
    ·rename_i ha;have r:(Qc (Za l) cls).isSome=true:=by
      unfold Zz at j;cases G:Qc (Za l) cls with
      |none=>rw[G,if_pos (show(none:Option Qb).isNone=true from rfl)]at j;exact absurd (show(3:Nat)≠0 by decide) j
      |some c=>rfl
     have J:∀z∈args.reverse++QaG static cls,zd (Za l) z=0:=by
      intro z H;rcases List.mem_append.1 H with B|B
      ·exact beq_iff_eq.1 (List.all_eq_true.1 ha z (List.mem_reverse.1 B))
      ·unfold QaG at B;split at B
       ·cases B
       ·rw[List.mem_singleton.1 B];exact Zal M r
     have n:(args.reverse++QaG static cls).length<=6:=by
      unfold QaG;split<;>simp<;>omega
     split at h
     ·exact A h J n (by simp)
     ·split at h
      ·exact A h J n (by simp)
      ·cases h
    ·cases h
 have D:∀{z:Str},zd (Za l) z=0->∀y∈[z],zd (Za l) y=0:=fun H y hy=>by rw[List.mem_singleton.1 hy];exact H
 unfold Qq at h;dsimp only at h;by_cases o:C=2
 ·rw[if_pos o]at h;exact A h (by simp) (by simp) (by simp)
 rw[if_neg o]at h;by_cases q:C=3
 ·rw[if_pos q]at h;exact A h (by simp) (by simp) (by simp)
 rw[if_neg q]at h;have s:C=9\/C=10->zd (Za l) I=0:=fun ho=>by
  unfold qy at e;rw[if_pos (by dsimp only;omega)]at e;exact ZbG _ e
 by_cases f:C=9
 ·rw[if_pos f]at h;have J:=s (Or.inl f);refine A h (fun z H=>?_) ?_ (by simp)
  ·rcases List.mem_append.1 H with B|B
   ·unfold zaz at B;split at B
    ·cases B
    ·split at B
     ·rw[List.mem_singleton.1 B];exact Qa3 _
     ·rw[List.mem_singleton.1 B];exact J
   ·rw[List.mem_singleton.1 B];exact J
  ·unfold zaz;split
   ·simp
   ·split<;>simp
 rw[if_neg f]at h;by_cases N:C=10
 ·rw[if_pos N]at h;refine A h (D ?_) (by simp) (by simp);unfold zaf;split
  ·exact qcT _
  ·exact Qa3 _
 rw[if_neg N]at h;by_cases O:C=11
 ·rw[if_pos O]at h;exact A h (fun z H=>by simp at H;rw[H];exact qcT _) (by simp) (by simp)
 rw[if_neg O]at h;by_cases P:C=12
 ·rw[if_pos P]at h;exact A h (D (Qa3 _)) (by simp) (by simp)
 rw[if_neg P]at h;by_cases R:C=15
 ·rw[if_pos R]at h;split at h
  ·exact A h (by simp) (by simp) (by simp)
  ·cases h
 rw[if_neg R]at h;by_cases S:C=16
 ·rw[if_pos S]at h;cases G:zG (Za l) cls F with
  |none=>rw[G]at h;cases h
  |some t =>
   rw[G]at h;exact A h (D (Zao G).1) (by simp) (by simp)
 rw[if_neg S]at h;by_cases T:C=17
 ·rw[if_pos T]at h;cases G:zG (Za l) cls F with
  |none=>rw[G]at h;cases h
  |some t =>
   rw[G]at h;refine A h (fun z H=>?_) (by simp) (by simp);rcases List.mem_cons.1 H with B|B
   ·rw[B];exact(Zao G).2
   ·rw[List.mem_singleton.1 B];exact(Zao G).1
 rw[if_neg T]at h;by_cases U:C=18
 ·rw[if_pos U]at h;split at h
  ·exact A h (D (Qa3 _)) (by simp) (by simp)
  ·cases h
 rw[if_neg U]at h;by_cases V:C=24
 ·rw[if_pos V]at h;exact E _ h
 rw[if_neg V]at h;by_cases X:C=25
 ·rw[if_pos X]at h;exact E _ h
 rw[if_neg X]at h;by_cases Y:C=26
 ·rw[if_pos Y]at h;split at h
  ·exact A h (by simp) (by simp) (by simp)
  ·cases h
 rw[if_neg Y]at h;by_cases Z:C=27
 ·rw[if_pos Z]at h;split at h
  ·cases h
  ·split at h
   ·rename_i J;exact A h (D J) (by simp) (by simp)
   ·cases h
 rw[if_neg Z]at h;by_cases d:C=28
 ·rw[if_pos d]at h;exact A h (D (Zal M rfl)) (by simp) (by simp)
 rw[if_neg d]at h;exact A h (by simp) (by simp) (by simp)
theorem Zd0{cs:List Qb}{u:Str}(B:zd cs u=0):Zx cs (Zo u) (Zo kI)=(u.toList==[73]):=by
 obtain⟨x,A,_⟩:=ZM B;have C:u.toList=Qo x:=by rw[A,ByteArray.toList_eq]
 rw[qz A,qz (k:=kI) (x:=.ty .i) rfl,C];cases x with
 |n=>rfl
 |t=>rfl
 |ty y=>cases y<;>simp[Zx,ZV,Qo,Zf]
theorem qd0{cs:List Qb}{k t:Str}(B:zd cs k=0)(C:Zs (lst t)=true):(Z9 (Zo k)&&qaW cs k t)=Zx cs (Zo k) (Zo (ZF t)):=by
 obtain⟨u,A,_,_⟩:=Qav _ C;obtain⟨x,G,_⟩:=ZM B;have D:Zo t=.ty u:=qz (x:=.ty u) A;have E:Zo (ZF t)=.ty (.ar u):=qz (x:=.ty (.ar u)) (by rw[Qa0,<-A];rfl);unfold qaW;rw[D,E,qz G];cases x with
 |n=>rfl
 |t=>rfl
 |ty y =>
  cases y with
  |i=>rfl
  |j=>rfl
  |cl c=>simp[Zx,ZV]
  |ar e =>
   show((decide (Kd.ty (.ar e)=.n)||true)&&(ZV cs e u&&(zm e==zm u)))=ZV cs e u
   rw[Bool.or_true,Bool.true_and];cases F:ZV cs e u with
   |false=>rfl
   |true=>rw[Zbk F];simp
theorem Qef{cs:List Qb}{k:Str}(B:zd cs k=0)(h:zX k=true):Z9 (Zo k)=true:=by
 obtain⟨x,A,_⟩:=ZM B;have C:k.toList=Qo x:=by rw[A,ByteArray.toList_eq]
 rw[qz A];unfold zX at h;rw[C]at h;cases x with
 |n=>rfl
 |t=>cases h
 |ty y=>cases y<;>first|rfl|cases h
theorem QdE{cs:List Qb}{qb Zb:Str}{x:Ins}{L S:List Str}(h:¬(15<=x.op/\x.op<=25)):zp cs qb Zb x L S=qN cs Zb x L S:=by
 have A:∀L S,zP cs qb x L S=some (L,S):=fun L S=>zaj (by omega)
 unfold zp;simp only[A];cases qN cs Zb x L S<;>rfl
theorem zde{cs:List Qb}{qb Zb:Str}{x:Ins}{L S:List Str}(h:15<=x.op/\x.op<=25):zp cs qb Zb x L S=zP cs qb x L S:=by
 have A:qN cs Zb x L S=some (L,S):=Q6 (by omega);unfold zp;rw[A];rfl
theorem zaQ(S:List Str)(k:Str):zK (S++[k])=if Z9 (Zo k) then some (k,S) else none:=by
 unfold zK;rw[ZO];rfl
theorem zcb{cs:List Qb}{t:Str}(A:zd cs t=0)(S:List Str)(k:Str):zh cs [t] (S++[k])=if Zx cs (Zo k) (Zo t) then some S else none:=by
 rw[ZaU,if_neg (by rw[A];decide),ZO];rfl
theorem Qd0{L S:List Str}{i:Nat}(h:L.length<=i):zaO L S i=none:=by
 unfold zaO;rw[Int.toNat_natCast,List.getElem?_eq_none h]
theorem Qer{L S:List Str}{i:Nat}{k:Str}(h:L[i]? = some k)(A:(k.toList==[84])=true):zaO L S i=none:=by
 unfold zaO;rw[Int.toNat_natCast,h];exact if_pos A
theorem zd1{L S:List Str}{i:Nat}{k:Str}(h:L[i]? = some k)(A:(k.toList==[84])=false):zaO L S i=Zv L S k:=by
 unfold zaO;rw[Int.toNat_natCast,h];exact if_neg (by rw[A];decide)
theorem zdF{L S:List Str}{i:Nat}(h:L.length<=i):QaD L S i=none:=by
 unfold QaD;cases zI S with
 |none=>rfl
 |some p=>exact if_neg (by rw[Int.toNat_natCast];omega)
theorem Zd1{L r:List Str}{k:Str}{i:Nat}(h:i<L.length):QaD L (r++[k]) i=some (L.set i k,r):=by
 unfold QaD;rw[ZO,Option.bind_some];dsimp only;rw[Int.toNat_natCast,if_pos h]
theorem zes{L r:List Str}{k:Str}(h:Z9 (Zo k)=false):Zcb L (r++[k])=none:=by
 unfold Zcb;rw[ZO];exact if_neg (by rw[h];decide)
theorem zeg{L r:List Str}{k:Str}(h:Z9 (Zo k)=true):Zcb L (r++[k])=some (L,r):=by
 unfold Zcb;rw[ZO];exact if_pos h
theorem Za9{L r:List Str}{k:Str}(h:r.length<8):Zv L r k=some (L,r++[k]):=by
 rw[qdd,if_pos (by simp;omega)]
theorem Zeu{L r:List Str}{k:Str}(h:(r++[k]).length<=8):((zI (r++[k])).bind fun p=>(ZK p.2 p.1).bind fun A=>Zv L A p.1)=Zv L (r++[k]) k:=by
 rw[ZO,Option.bind_some];dsimp only;unfold ZK;rw[if_pos (by simp at h;omega)];rfl
theorem Zes{L r:List Str}{j k:Str}(h:(r++[j]++[k]).length<=8):((zI (r++[j]++[k])).bind fun p=>(zI p.2).bind fun q=>(ZK q.2 p.1).bind fun A=>Zv L A q.1)=some (L,r++[k]++[j]):=by
 rw[ZO,Option.bind_some];dsimp only;rw[ZO,Option.bind_some];dsimp only;unfold ZK;rw[if_pos (by simp at h;omega),Option.bind_some,Za9 (by simp at h ⊢;omega)]
theorem Zde{L S:List Str}(h:S.length<2):((zI S).bind fun p=>(zI p.2).bind fun q=>(ZK q.2 p.1).bind fun A=>Zv L A q.1)=none:=by
 rcases List.eq_nil_or_concat S with rfl|⟨r,k,rfl⟩
 ·rfl
 ·rw[List.concat_eq_append]at *;have:r=[]:=List.eq_nil_of_length_eq_zero (by simp at h;omega);subst this;rfl
theorem qes{cs:List Qb}{L r:List Str}{k:Str}(_hk:zd cs k=0)(h:zX k=false):((zK (r++[k])).bind fun p=>if zX p.1=true then Zv L p.2 kI else none)=none:=by
 rw[zaQ];split
 ·exact if_neg (by dsimp only;rw[h];decide)
 ·rfl
theorem Zdr{cs:List Qb}{L r:List Str}{k:Str}(A:zd cs k=0)(h:zX k=true)(B:r.length<8):((zK (r++[k])).bind fun p=>if zX p.1=true then Zv L p.2 kI else none)=some (L,r++[kI]):=by
 rw[zaQ,if_pos (Qef A h),Option.bind_some];dsimp only;rw[if_pos h];exact Za9 B
theorem qdr{L r:List Str}{k t:Str}(h:Z9 (Zo k)=false):((zK (r++[k])).bind fun p=>Zv L p.2 t)=none:=by
 rw[zaQ,if_neg (by rw[h];decide)];rfl
theorem zcU{L r:List Str}{k t:Str}(h:Z9 (Zo k)=true)(A:r.length<8):((zK (r++[k])).bind fun p=>Zv L p.2 t)=some (L,r++[t]):=by
 rw[zaQ,if_pos h];exact Za9 A
theorem ZbN{cs:List Qb}{t:Str}{S:List Str}(h:S.length<2):qJ cs t S=none:=by
 unfold qJ;split
 ·rfl
 ·cases B:zh cs [kI] S with
  |none=>rfl
  |some C =>
   have:=QaP B;have A:C=[]:=List.eq_nil_of_length_eq_zero (by simp at this;omega);subst A;rfl
theorem qcb{cs:List Qb}{t k u:Str}{r:List Str}(A:zd cs t=0)(B:Zs (lst t)=true)(C:zd cs k=0)(D:zd cs u=0):qJ cs t (r++[k]++[u])=if (u.toList==[73])&&Zx cs (Zo k) (Zo (ZF t)) then some r else none:=by
 unfold qJ;rw[if_neg (by rw[A];decide),zcb (Qa3 cs),Zd0 D];cases(u.toList==[73]) with
 |false=>rfl
 |true =>
  rw[if_pos rfl,Option.bind_some,zaQ,<-qd0 C B,Bool.true_and];cases Z9 (Zo k) with
  |false=>rfl
  |true=>rfl
theorem ZcU{l:List Qb}(_hcf:∀c∈l,qd c=0){t:Str}(D:zd (Za l) t=0)(B:Zs (91::lst t)=true):zd (Za l) (ZF t)=0:=by
 obtain⟨y,A,G,F⟩:=Qav _ B;have E:zq y<=3:=by
  obtain⟨z,C⟩:=Zaq (t:=ZF t) (by rw[Qa0];exact B);have:y=z:=zaE (A.trans (by rw[C.text,Qa0]));rw[this];exact C.deep
 refine qaD (x:=y) (by rw[A,Qa0]) F E ?_;cases y with
 |i=>simp[Zf]at A
 |j=>simp[Zf]at A
 |cl c=>simp[Zf]at A
 |ar e =>
  simp only[Zf,List.cons.injEq,true_and]at A;exact(qbk A D).2
theorem qaf(cs:List Qb)(qb Zb:Str)(a b:Int)(A cls B:Str)(L S:List Str):
 zp cs qb Zb ⟨4,a,b,A,cls,B⟩ L S=zaO L S a/\zp cs qb Zb ⟨5,a,b,A,cls,B⟩ L S=QaD L S a
 /\zp cs qb Zb ⟨6,a,b,A,cls,B⟩ L S=((zI S).map fun p=>(L,p.2))/\zp cs qb Zb ⟨7,a,b,A,cls,B⟩ L S=((zI S).bind fun p=>(ZK p.2 p.1).bind fun C=>Zv L C p.1)
 /\zp cs qb Zb ⟨8,a,b,A,cls,B⟩ L S=((zI S).bind fun p=>(zI p.2).bind fun q=>(ZK q.2 p.1).bind fun C=>Zv L C q.1)
 /\zp cs qb Zb ⟨13,a,b,A,cls,B⟩ L S=Zcb L S
 /\zp cs qb Zb ⟨19,a,b,A,cls,B⟩ L S=((zK S).bind fun p=>if zX p.1=true then Zv L p.2 kI else none)
 /\zp cs qb Zb ⟨20,a,b,A,cls,B⟩ L S=((qJ cs A S).bind fun C=>Zv L C A)
 /\zp cs qb Zb ⟨21,a,b,A,cls,B⟩ L S=knK cs A ((zh cs [A] S).bind fun C=>(qJ cs A C).map fun D=>(L,D))
 /\zp cs qb Zb ⟨22,a,b,A,cls,B⟩ L S=knK cs A ((zK S).bind fun p=>Zv L p.2 A)
 /\zp cs qb Zb ⟨23,a,b,A,cls,B⟩ L S=knK cs A ((zK S).bind fun p=>Zv L p.2 kI):=by
 refine⟨?_,?_,?_,?_,?_,?_,?_,?_,?_,?_,?_⟩<;>first|(rw[QdE (by dsimp only;omega)];rfl)|(rw[zde (by dsimp only;omega)];rfl)
theorem ZdF{cs:List Qb}{L S:List Str}{t:Str}(h:zd cs t≠0):((qJ cs t S).bind fun A=>Zv L A t)=none:=by
 unfold qJ;rw[if_pos h];rfl
theorem ZcB{cs:List Qb}{L S:List Str}{t:Str}(h:S.length<3):((zh cs [t] S).bind fun A=>(qJ cs t A).map fun C=>(L,C))=none:=by
 cases B:zh cs [t] S with
 |none=>rfl
 |some A =>
  have:=QaP B;rw[Option.bind_some,ZbN (by simp at this;omega)];rfl
theorem qdF{cs:List Qb}{t k u v:Str}{L r:List Str}(A:zd cs t=0)(B:Zs (lst t)=true)(C:zd cs k=0)(D:zd cs u=0):((zh cs [t] (r++[k]++[u]++[v])).bind fun E=>(qJ cs t E).map fun F=>(L,F))=if Zx cs (Zo v) (Zo t)&&((u.toList==[73])&&Zx cs (Zo k) (Zo (ZF t))) then some (L,r) else none:=by
 rw[zcb A];cases Zx cs (Zo v) (Zo t) with
 |false=>rfl
 |true =>
  rw[if_pos rfl,Option.bind_some,qcb A B C D,Bool.true_and];split<;>rfl
end Go.Proofs.YtlmfmioljeppfaaGreatDoor
