/- Lemmas; conditions: as each states. -/
import Derived.Test.YtlmfmioljeppfaaGreatDoorStepAny
set_option maxHeartbeats 4000000
namespace Go.Proofs.YtlmfmioljeppfaaGreatDoor
open Go.RowKit Go.Shelf Go.Lib
def zaH(static:Bool)(cls:Str):List Str:=if static=true then [] else [Zd cls]
def Zbu(cs:List Qb)(static:Bool)(cls:Str)(args:List Str)(g:Str):Option (List Str×List Str) :=
 if args.all (fun k=>zd cs k==0)=true then (if (g.toList==[86])=true then some (args.reverse++zaH static cls,[]) else if zd cs g=0 then some (args.reverse++zaH static cls,[g]) else none) else none
def Qay(cs:List Qb)(qb cls name type:Str)(static:Bool):Option (List Str×List Str) :=
 if Zz cs qb cls name type static≠0 then none else match zm type with
 |none=>none
 |some (args,g)=>Zbu cs static cls args g
def Qq(cs:List Qb)(qb Zb:Str)(x:Ins):Option (List Str×List Str) :=
 if x.op=2 then some ([],[x.type])
 else if x.op=3 then some ([],[kN])
 else if x.op=9 then some (zaA x.a x.type++[x.type],[x.type])
 else if x.op=10 then some ([Zae x.type],[x.type])
 else if x.op=11 then some ([kJ,kJ],[kI])
 else if x.op=12 then some ([kI],[])
 else if x.op=15 then if (Qc cs x.cls).isSome&&!(qh cs x.cls).face then some ([],[Zd x.cls]) else none
 else if x.op=16 then (qF cs x.cls x.name).map fun t=>([Zd x.cls],[t])
 else if x.op=17 then (qF cs x.cls x.name).map fun t=>([t,Zd x.cls],[])
 else if x.op=18 then if zd cs x.type=0 then some ([kI],[QE x.type]) else none
 else if x.op=24 then Qay cs qb x.cls x.name x.type false
 else if x.op=25 then Qay cs qb x.cls x.name x.type true
 else if x.op=26 then if (Zb.toList==[86])=true then some ([],[]) else none
 else if x.op=27 then if (Zb.toList==[86])=true then none else if zd cs Zb=0 then some ([Zb],[]) else none
 else if x.op=28 then some ([Zd qae],[])
 else some ([],[])
def qaW(cs:List Qb)(L S:List Str)(p:List Str×List Str):Option (List Str×List Str):=(zh cs p.1 S).bind fun S'=>if (S'++p.2).length<=8 then some (L,S'++p.2) else none
theorem zc9(L S:List Str)(k:Str):zv L S k=if (S++[k]).length<=8 then some (L,S++[k]) else none:=by
 unfold zv QK;have:(S++[k]).length=S.length+1:=by simp
 by_cases h:S.length<8
 ·rw[if_pos h,if_pos (by omega)];rfl
 ·rw[if_neg h,if_neg (by omega)];rfl
theorem QaO{cs:List Qb}:∀{ks S S':List Str},zh cs ks S=some S'->S'.length+ks.length=S.length
 |[],S,S',h=>by injection h with h;subst h;rfl
 |k::r,S,S',h=>by
  unfold zh at h;split at h
  ·cases h
  ·rcases List.eq_nil_or_concat S with rfl|⟨q,t,rfl⟩
   ·cases h
   ·rw[List.concat_eq_append]at *;rw[ZO]at h;dsimp only at h;split at h
    ·have:=QaO h;simp;omega
    ·cases h
theorem ZaT(cs:List Qb)(k:Str)(r S:List Str):zh cs (k::r) S=if zd cs k≠0 then none else match QH S with
 |none=>none
 |some (t,S')=>if Zx cs (Zo t) (Zo k) then zh cs r S' else none:=rfl
theorem qbH{cs:List Qb}:∀{ks m S:List Str},zh cs (ks++m) S=(zh cs ks S).bind fun S1=>zh cs m S1
 |[],m,S=>rfl
 |k::r,m,S=>by
  show zh cs (k::(r++m)) S=_
  rw[ZaT,ZaT];by_cases hk:zd cs k≠0
  ·rw[if_pos hk,if_pos hk];rfl
  ·rw[if_neg hk,if_neg hk];cases QH S with
   |none=>rfl
   |some p =>
    obtain⟨t,S'⟩:=p;dsimp only;split
    ·exact qbH
    ·rfl
theorem Qbc{cs:List Qb}:∀{ks S:List Str},(ks.all fun k=>zd cs k==0)=false->zh cs ks S=none
 |[],S,h=>by cases h
 |k::r,S,h=>by
  unfold zh;by_cases hk:zd cs k≠0
  ·rw[if_pos hk]
  ·rw[if_neg hk];cases QH S with
   |none=>rfl
   |some p =>
    obtain⟨t,S'⟩:=p;dsimp only;split
    ·rw[List.all_cons,beq_iff_eq.2 (Decidable.not_not.1 hk),Bool.true_and]at h;exact Qbc h
    ·rfl
theorem qbu(cs:List Qb)(L S ks:List Str)(k:Str):((zh cs ks S).bind fun S1=>zv L S1 k)=qaW cs L S (ks,[k]):=by
 unfold qaW;congr 1;funext S1;exact zc9 L S1 k
theorem Zbn{cs:List Qb}{L S ks:List Str}(h8:S.length<=8):((zh cs ks S).map fun S1=>(L,S1))=qaW cs L S (ks,[]):=by
 unfold qaW;cases hq:zh cs ks S with
 |none=>rfl
 |some S1 =>
  have:=QaO hq;simp only[Option.map_some,Option.bind_some,List.append_nil];rw[if_pos (by omega)]
theorem ZdU{cs:List Qb}{qb cls name type:Str}{static:Bool}{L S:List Str}(h8:S.length<=8):Qam cs qb cls name type static L S=(Qay cs qb cls name type static).bind fun p=>qaW cs L S p:=by
 unfold Qam Qay;by_cases hf:Zz cs qb cls name type static≠0
 ·rw[if_pos hf,if_pos hf];rfl
 ·rw[if_neg hf,if_neg hf];cases zm type with
  |none=>rfl
  |some q =>
   obtain⟨args,g⟩:=q;dsimp only;unfold Zbu;cases ha:args.all (fun k=>zd cs k==0) with
   |false =>
    rw[Qbc (by rw[List.all_reverse];exact ha)];rfl
   |true =>
    rw[if_pos rfl];have ht:∀S1,QaY cs static cls S1=zh cs (zaH static cls) S1:=fun S1=>by unfold QaY zaH;split<;>rfl
    have hj:∀f:List Str->Option (List Str×List Str),((zh cs args.reverse S).bind fun S1=>(QaY cs static cls S1).bind fun S2=>f S2)=(zh cs (args.reverse++zaH static cls) S).bind f:=fun f=>by
     rw[qbH,Option.bind_assoc];congr 1;funext S1;rw[ht]
    rw[hj];by_cases hv:(g.toList==[86])=true
    ·rw[if_pos hv,Option.bind_some,<-Zbn h8];rw[Option.map_eq_bind];congr 1;funext S1;exact zbW hv
    ·rw[if_neg hv];have hv':(g.toList==[86])=false:=(by simpa using hv);by_cases hk:zd cs g=0
     ·rw[if_pos hk,Option.bind_some,<-qbu];congr 1;funext S1;unfold qaY Zdq;rw[if_neg hv,if_pos hk]
     ·rw[if_neg hk];cases zh cs (args.reverse++zaH static cls) S with
      |none=>rfl
      |some S1=>exact zbp hv' hk
theorem Zal{l:List Qb}(hcf:∀c∈l,qd c=0){c:Str}(h:(Qc (Za l) c).isSome=true):zd (Za l) (Zd c)=0:=Qbi hcf (x:=.ty (.cl c)) ⟨(Zbg c).symm,h⟩ (Nat.zero_le _)
def Q9(op:Int):Prop:=op=4\/op=5\/op=6\/op=7\/op=8\/op=13\/op=19\/op=20\/op=21\/op=22\/op=23
instance (op:Int):Decidable (Q9 op):=by unfold Q9;infer_instance
theorem Zc9{l:List Qb}(hcf:∀c∈l,qd c=0)(qb Zb:Str)(x:Ins)(L S:List Str)(h8:S.length<=8)(hn:¬Q9 x.op):zq (Za l) qb Zb x L S=(Qq (Za l) qb Zb x).bind fun p=>qaW (Za l) L S p:=by
 obtain⟨op,a,b,type,cls,name⟩:=x;obtain⟨e2,e3,e4,e5,e6,e7,e8,e9,e10,e11,e12,e13,e26,e27,e28⟩:=Za7 (Za l) Zb a b type cls name L S;obtain⟨g15,g16,g17,g18,g19,g20,g21,g22,g23,g24,g25⟩:=qaS (Za l) qb a b type cls name L S;clear e4 e5 e6 e7 e8 e13 g19 g20 g21 g22 g23;replace hn:¬Q9 op:=hn;unfold Q9 at hn;have hbind:∀o:Option (List Str×List Str),(o.bind fun p=>some (p.1,p.2))=o:=fun o=>by cases o<;>rfl
 by_cases ho:15<=op/\op<=25
 ·have hp:qN (Za l) Zb ⟨op,a,b,type,cls,name⟩ L S=some (L,S):=Q7 (by dsimp only;omega);have hs:zq (Za l) qb Zb ⟨op,a,b,type,cls,name⟩ L S=zP (Za l) qb ⟨op,a,b,type,cls,name⟩ L S:=by unfold zq;rw[hp];rfl
  rw[hs];by_cases c15:op=15
  ·subst c15;rw[g15];show _=(if (Qc (Za l) cls).isSome&&!(qh (Za l) cls).face then some ([],[Zd cls]) else none).bind _
   unfold knK Zba;by_cases hk:(Qc (Za l) cls).isSome=true
   ·rw[if_neg (by rw[Zal hcf hk];decide),hk,Bool.true_and];cases(qh (Za l) cls).face with
    |true=>rfl
    |false=>exact qbu (Za l) L S [] (Zd cls)
   ·rw[if_pos (fun h=>hk (zaY h)),(by simpa using hk:(Qc (Za l) cls).isSome=false)];rfl
  by_cases c16:op=16
  ·subst c16;rw[g16];show _=((qF (Za l) cls name).map _).bind _
   cases qF (Za l) cls name with
   |none=>rfl
   |some t=>exact qbu _ _ _ _ _
  by_cases c17:op=17
  ·subst c17;rw[g17];show _=((qF (Za l) cls name).map _).bind _
   cases qF (Za l) cls name with
   |none=>rfl
   |some t=>exact Zbn h8
  by_cases c18:op=18
  ·subst c18;rw[g18];show _=(if zd (Za l) type=0 then some ([kI],[QE type]) else (none:Option (List Str×List Str))).bind _
   unfold knK;by_cases hk:zd (Za l) type=0
   ·rw[if_neg (by rw[hk];decide),if_pos hk];exact qbu _ _ _ _ _
   ·rw[if_pos hk,if_neg hk];rfl
  by_cases c24:op=24
  ·subst c24;rw[g24];exact ZdU h8
  have c25:op=25:=by omega
  subst c25;rw[g25];exact ZdU h8
 ·have hs:zq (Za l) qb Zb ⟨op,a,b,type,cls,name⟩ L S=qN (Za l) Zb ⟨op,a,b,type,cls,name⟩ L S:=by
   have hh:∀L S,zP (Za l) qb ⟨op,a,b,type,cls,name⟩ L S=some (L,S):=fun L S=>zaj (by dsimp only;omega)
   unfold zq;simp only[hh];exact hbind _
  rw[hs];by_cases c2:op=2
  ·subst c2;rw[e2];exact qbu (Za l) L S [] type
  by_cases c3:op=3
  ·subst c3;rw[e3];exact qbu (Za l) L S [] kN
  by_cases c9:op=9
  ·subst c9;rw[e9];show _=qaW (Za l) L S (zaA a type++[type],[type])
   rw[<-qbu,qbH,Option.bind_assoc]
  by_cases c10:op=10
  ·subst c10;rw[e10];exact qbu _ _ _ _ _
  by_cases c11:op=11
  ·subst c11;rw[e11];exact qbu _ _ _ _ _
  by_cases c12:op=12
  ·subst c12;rw[e12];exact Zbn h8
  by_cases c26:op=26
  ·subst c26;rw[e26];show _=(if (Zb.toList==[86])=true then some ([],[]) else (none:Option (List Str×List Str))).bind _
   split
   ·exact Zbn (cs:=Za l) (ks:=[]) h8
   ·rfl
  by_cases c27:op=27
  ·subst c27;rw[e27];show _=(if (Zb.toList==[86])=true then (none:Option (List Str×List Str)) else if zd (Za l) Zb=0 then some ([Zb],[]) else none).bind _
   split
   ·rfl
   ·by_cases hk:zd (Za l) Zb=0
    ·rw[if_pos hk];exact Zbn h8
    ·rw[if_neg hk,zcp hk];rfl
  by_cases c28:op=28
  ·subst c28;rw[e28];exact Zbn h8
  rw[Q7 (by dsimp only;omega)];have hw:Qq (Za l) qb Zb ⟨op,a,b,type,cls,name⟩=some ([],[]):=by
   unfold Qq;dsimp only;rw[if_neg c2,if_neg c3,if_neg c9,if_neg c10,if_neg c11,if_neg c12,if_neg (by omega),if_neg (by omega),if_neg (by omega),if_neg (by omega),if_neg (by omega),if_neg (by omega),if_neg c26,if_neg c27,if_neg c28]
  rw[hw];exact Zbn (cs:=Za l) (ks:=[]) h8
theorem qaB{x:Ins}(h:Zi x=0):Qx x=true:=by
 unfold Zi at h;split at h
 ·cases h
 ·split at h
  ·cases h
  ·split at h
   ·cases h
   ·split at h
    ·cases h
    ·rename_i hn;simp only[Bool.or_eq_true,not_or,Bool.not_eq_true',Bool.not_eq_false]at hn;exact hn.1.1
theorem QbH(cs:List Qb){t:Str}(h:Qag (lst t)=true):zd cs t=0:=by
 have ht:t=kI\/t=kJ:=by
  unfold Qag at h;simp only[Bool.or_eq_true,beq_iff_eq]at h;rcases h with h|h
  ·exact Or.inl (ByteArray.ext (Array.toList_inj.1 h))
  ·exact Or.inr (ByteArray.ext (Array.toList_inj.1 h))
 rcases ht with rfl|rfl
 ·exact QaD (x:=.i) rfl rfl (by decide) rfl
 ·exact QaD (x:=.j) rfl rfl (by decide) rfl
theorem qa2(cs:List Qb):zd cs kI=0:=QbH cs rfl
theorem qcQ(cs:List Qb):zd cs kJ=0:=QbH cs rfl
theorem QcQ{l:List Qb}(hcf:∀c∈l,qd c=0){qb Zb:Str}{x:Ins}{ks ps:List Str}(hx:Zi x=0)(h:Qq (Za l) qb Zb x=some (ks,ps)):(∀k∈ks,zd (Za l) k=0)/\ks.length<=6/\ps.length<=1:=by
 have hT:=qaB hx;clear hx;obtain⟨op,a,b,type,cls,name⟩:=x;have hmk:∀{k p:List Str},some (k,p)=some (ks,ps)->(∀z∈k,zd (Za l) z=0)->k.length<=6->p.length<=1->(∀z∈ks,zd (Za l) z=0)/\ks.length<=6/\ps.length<=1:=by
  intro k p he h1 h2 h3;injection he with he
  injection he with e1 e2
  subst e1 e2;exact⟨h1,h2,h3⟩
 have hcall:∀static,Qay (Za l) qb cls name type static=some (ks,ps)->(∀z∈ks,zd (Za l) z=0)/\ks.length<=6/\ps.length<=1:=by
  intro static h;unfold Qay at h;split at h
  ·cases h
  ·rename_i hf;split at h
   ·cases h
   ·rename_i args g hm;have h5:=zU hm;unfold Zbu at h;split at h
    ·rename_i ha;have hc:(Qc (Za l) cls).isSome=true:=by
      unfold Zz at hf;cases hq:Qc (Za l) cls with
      |none=>rw[hq,if_pos (show(none:Option Qb).isNone=true from rfl)]at hf;exact absurd (show(3:Nat)≠0 by decide) hf
      |some c=>rfl
     have hk:∀z∈args.reverse++zaH static cls,zd (Za l) z=0:=by
      intro z hz;rcases List.mem_append.1 hz with h1|h1
      ·exact beq_iff_eq.1 (List.all_eq_true.1 ha z (List.mem_reverse.1 h1))
      ·unfold zaH at h1;split at h1
       ·cases h1
       ·rw[List.mem_singleton.1 h1];exact Zal hcf hc
     have hl:(args.reverse++zaH static cls).length<=6:=by
      unfold zaH;split<;>simp<;>omega
     split at h
     ·exact hmk h hk hl (by simp)
     ·split at h
      ·exact hmk h hk hl (by simp)
      ·cases h
    ·cases h
 have one:∀{z:Str},zd (Za l) z=0->∀y∈[z],zd (Za l) y=0:=fun hz y hy=>by rw[List.mem_singleton.1 hy];exact hz
 unfold Qq at h;dsimp only at h;by_cases c2:op=2
 ·rw[if_pos c2]at h;exact hmk h (by simp) (by simp) (by simp)
 rw[if_neg c2]at h;by_cases c3:op=3
 ·rw[if_pos c3]at h;exact hmk h (by simp) (by simp) (by simp)
 rw[if_neg c3]at h;have hw:op=9\/op=10->zd (Za l) type=0:=fun ho=>by
  unfold Qx at hT;rw[if_pos (by dsimp only;omega)]at hT;exact QbH _ hT
 by_cases c9:op=9
 ·rw[if_pos c9]at h;have hk:=hw (Or.inl c9);refine hmk h (fun z hz=>?_) ?_ (by simp)
  ·rcases List.mem_append.1 hz with h1|h1
   ·unfold zaA at h1;split at h1
    ·cases h1
    ·split at h1
     ·rw[List.mem_singleton.1 h1];exact qa2 _
     ·rw[List.mem_singleton.1 h1];exact hk
   ·rw[List.mem_singleton.1 h1];exact hk
  ·unfold zaA;split
   ·simp
   ·split<;>simp
 rw[if_neg c9]at h;by_cases c10:op=10
 ·rw[if_pos c10]at h;refine hmk h (one ?_) (by simp) (by simp);unfold Zae;split
  ·exact qcQ _
  ·exact qa2 _
 rw[if_neg c10]at h;by_cases c11:op=11
 ·rw[if_pos c11]at h;exact hmk h (fun z hz=>by simp at hz;rw[hz];exact qcQ _) (by simp) (by simp)
 rw[if_neg c11]at h;by_cases c12:op=12
 ·rw[if_pos c12]at h;exact hmk h (one (qa2 _)) (by simp) (by simp)
 rw[if_neg c12]at h;by_cases c15:op=15
 ·rw[if_pos c15]at h;split at h
  ·exact hmk h (by simp) (by simp) (by simp)
  ·cases h
 rw[if_neg c15]at h;by_cases c16:op=16
 ·rw[if_pos c16]at h;cases hq:qF (Za l) cls name with
  |none=>rw[hq]at h;cases h
  |some t =>
   rw[hq]at h;exact hmk h (one (zap hq).1) (by simp) (by simp)
 rw[if_neg c16]at h;by_cases c17:op=17
 ·rw[if_pos c17]at h;cases hq:qF (Za l) cls name with
  |none=>rw[hq]at h;cases h
  |some t =>
   rw[hq]at h;refine hmk h (fun z hz=>?_) (by simp) (by simp);rcases List.mem_cons.1 hz with h1|h1
   ·rw[h1];exact(zap hq).2
   ·rw[List.mem_singleton.1 h1];exact(zap hq).1
 rw[if_neg c17]at h;by_cases c18:op=18
 ·rw[if_pos c18]at h;split at h
  ·exact hmk h (one (qa2 _)) (by simp) (by simp)
  ·cases h
 rw[if_neg c18]at h;by_cases c24:op=24
 ·rw[if_pos c24]at h;exact hcall _ h
 rw[if_neg c24]at h;by_cases c25:op=25
 ·rw[if_pos c25]at h;exact hcall _ h
 rw[if_neg c25]at h;by_cases c26:op=26
 ·rw[if_pos c26]at h;split at h
  ·exact hmk h (by simp) (by simp) (by simp)
  ·cases h
 rw[if_neg c26]at h;by_cases c27:op=27
 ·rw[if_pos c27]at h;split at h
  ·cases h
  ·split at h
   ·rename_i hk;exact hmk h (one hk) (by simp) (by simp)
   ·cases h
 rw[if_neg c27]at h;by_cases c28:op=28
 ·rw[if_pos c28]at h;exact hmk h (one (Zal hcf rfl)) (by simp) (by simp)
 rw[if_neg c28]at h;exact hmk h (by simp) (by simp) (by simp)
theorem qdU{cs:List Qb}{u:Str}(hu:zd cs u=0):Zx cs (Zo u) (Zo kI)=(u.toList==[73]):=by
 obtain⟨x,hx,_⟩:=zM hu;have hl:u.toList=qo x:=by rw[hx,ByteArray.toList_eq]
 rw[qz hx,qz (k:=kI) (x:=.ty .i) rfl,hl];cases x with
 |n=>rfl
 |t=>rfl
 |ty y=>cases y<;>simp[Zx,qT,qo,Zf]
theorem QdU{cs:List Qb}{k t:Str}(hk:zd cs k=0)(ht:Qs (lst t)=true):(q9 (Zo k)&&qaV cs k t)=Zx cs (Zo k) (Zo (QE t)):=by
 obtain⟨u,hu,_,_⟩:=zax _ ht;obtain⟨x,hx,_⟩:=zM hk;have e1:Zo t=.ty u:=qz (x:=.ty u) hu;have e2:Zo (QE t)=.ty (.ar u):=qz (x:=.ty (.ar u)) (by rw[za0,<-hu];rfl);unfold qaV;rw[e1,e2,qz hx];cases x with
 |n=>rfl
 |t=>rfl
 |ty y =>
  cases y with
  |i=>rfl
  |j=>rfl
  |cl c=>simp[Zx,qT]
  |ar e =>
   show((decide (Kd.ty (.ar e)=.n)||true)&&(qT cs e u&&(Ql e==Ql u)))=qT cs e u
   rw[Bool.or_true,Bool.true_and];cases hf:qT cs e u with
   |false=>rfl
   |true=>rw[Qbk hf];simp
theorem zea{cs:List Qb}{k:Str}(hk:zd cs k=0)(h:qW k=true):q9 (Zo k)=true:=by
 obtain⟨x,hx,_⟩:=zM hk;have hl:k.toList=qo x:=by rw[hx,ByteArray.toList_eq]
 rw[qz hx];unfold qW at h;rw[hl]at h;cases x with
 |n=>rfl
 |t=>cases h
 |ty y=>cases y<;>first|rfl|cases h
theorem qdz{cs:List Qb}{qb Zb:Str}{x:Ins}{L S:List Str}(h:¬(15<=x.op/\x.op<=25)):zq cs qb Zb x L S=qN cs Zb x L S:=by
 have hh:∀L S,zP cs qb x L S=some (L,S):=fun L S=>zaj (by omega)
 unfold zq;simp only[hh];cases qN cs Zb x L S<;>rfl
theorem qc9{cs:List Qb}{qb Zb:Str}{x:Ins}{L S:List Str}(h:15<=x.op/\x.op<=25):zq cs qb Zb x L S=zP cs qb x L S:=by
 have hp:qN cs Zb x L S=some (L,S):=Q7 (by omega);unfold zq;rw[hp];rfl
theorem zaP(S:List Str)(k:Str):qK (S++[k])=if q9 (Zo k) then some (k,S) else none:=by
 unfold qK;rw[ZO];rfl
theorem Zb9{cs:List Qb}{t:Str}(ht:zd cs t=0)(S:List Str)(k:Str):zh cs [t] (S++[k])=if Zx cs (Zo k) (Zo t) then some S else none:=by
 rw[ZaT,if_neg (by rw[ht];decide),ZO];rfl
theorem zdV{L S:List Str}{i:Nat}(h:L.length<=i):qaN L S i=none:=by
 unfold qaN;rw[Int.toNat_natCast,List.getElem?_eq_none h]
theorem zem{L S:List Str}{i:Nat}{k:Str}(h:L[i]? = some k)(hk:(k.toList==[84])=true):qaN L S i=none:=by
 unfold qaN;rw[Int.toNat_natCast,h];exact if_pos hk
theorem ZdV{L S:List Str}{i:Nat}{k:Str}(h:L[i]? = some k)(hk:(k.toList==[84])=false):qaN L S i=zv L S k:=by
 unfold qaN;rw[Int.toNat_natCast,h];exact if_neg (by rw[hk];decide)
theorem Qdz{L S:List Str}{i:Nat}(h:L.length<=i):zaE L S i=none:=by
 unfold zaE;cases QH S with
 |none=>rfl
 |some p=>exact if_neg (by rw[Int.toNat_natCast];omega)
theorem qdV{L r:List Str}{k:Str}{i:Nat}(h:i<L.length):zaE L (r++[k]) i=some (L.set i k,r):=by
 unfold zaE;rw[ZO,Option.bind_some];dsimp only;rw[Int.toNat_natCast,if_pos h]
theorem Zem{L r:List Str}{k:Str}(h:q9 (Zo k)=false):qb9 L (r++[k])=none:=by
 unfold qb9;rw[ZO];exact if_neg (by rw[h];decide)
theorem Zea{L r:List Str}{k:Str}(h:q9 (Zo k)=true):qb9 L (r++[k])=some (L,r):=by
 unfold qb9;rw[ZO];exact if_pos h
theorem Za8{L r:List Str}{k:Str}(h:r.length<8):zv L r k=some (L,r++[k]):=by
 rw[zc9,if_pos (by simp;omega)]
theorem qeo{L r:List Str}{k:Str}(h:(r++[k]).length<=8):((QH (r++[k])).bind fun p=>(QK p.2 p.1).bind fun S1=>zv L S1 p.1)=zv L (r++[k]) k:=by
 rw[ZO,Option.bind_some];dsimp only;unfold QK;rw[if_pos (by simp at h;omega)];rfl
theorem qem{L r:List Str}{j k:Str}(h:(r++[j]++[k]).length<=8):((QH (r++[j]++[k])).bind fun p=>(QH p.2).bind fun q=>(QK q.2 p.1).bind fun S1=>zv L S1 q.1)=some (L,r++[k]++[j]):=by
 rw[ZO,Option.bind_some];dsimp only;rw[ZO,Option.bind_some];dsimp only;unfold QK;rw[if_pos (by simp at h;omega),Option.bind_some,Za8 (by simp at h ⊢;omega)]
theorem Qc9{L S:List Str}(h:S.length<2):((QH S).bind fun p=>(QH p.2).bind fun q=>(QK q.2 p.1).bind fun S1=>zv L S1 q.1)=none:=by
 rcases List.eq_nil_or_concat S with rfl|⟨r,k,rfl⟩
 ·rfl
 ·rw[List.concat_eq_append]at *;have:r=[]:=List.eq_nil_of_length_eq_zero (by simp at h;omega);subst this;rfl
theorem Qem{cs:List Qb}{L r:List Str}{k:Str}(_hk:zd cs k=0)(h:qW k=false):((qK (r++[k])).bind fun p=>if qW p.1=true then zv L p.2 kI else none)=none:=by
 rw[zaP];split
 ·exact if_neg (by dsimp only;rw[h];decide)
 ·rfl
theorem qdm{cs:List Qb}{L r:List Str}{k:Str}(hk:zd cs k=0)(h:qW k=true)(h8:r.length<8):((qK (r++[k])).bind fun p=>if qW p.1=true then zv L p.2 kI else none)=some (L,r++[kI]):=by
 rw[zaP,if_pos (zea hk h),Option.bind_some];dsimp only;rw[if_pos h];exact Za8 h8
theorem Qdm{L r:List Str}{k t:Str}(h:q9 (Zo k)=false):((qK (r++[k])).bind fun p=>zv L p.2 t)=none:=by
 rw[zaP,if_neg (by rw[h];decide)];rfl
theorem zcR{L r:List Str}{k t:Str}(h:q9 (Zo k)=true)(h8:r.length<8):((qK (r++[k])).bind fun p=>zv L p.2 t)=some (L,r++[t]):=by
 rw[zaP,if_pos h];exact Za8 h8
theorem zbO{cs:List Qb}{t:Str}{S:List Str}(h:S.length<2):zK cs t S=none:=by
 unfold zK;split
 ·rfl
 ·cases hq:zh cs [kI] S with
  |none=>rfl
  |some S1 =>
   have:=QaO hq;have h0:S1=[]:=List.eq_nil_of_length_eq_zero (by simp at this;omega);subst h0;rfl
theorem Qb9{cs:List Qb}{t k u:Str}{r:List Str}(ht:zd cs t=0)(hT:Qs (lst t)=true)(hk:zd cs k=0)(hu:zd cs u=0):zK cs t (r++[k]++[u])=if (u.toList==[73])&&Zx cs (Zo k) (Zo (QE t)) then some r else none:=by
 unfold zK;rw[if_neg (by rw[ht];decide),Zb9 (qa2 cs),qdU hu];cases(u.toList==[73]) with
 |false=>rfl
 |true =>
  rw[if_pos rfl,Option.bind_some,zaP,<-QdU hk hT,Bool.true_and];cases q9 (Zo k) with
  |false=>rfl
  |true=>rfl
theorem ZcR{l:List Qb}(_hcf:∀c∈l,qd c=0){t:Str}(hk:zd (Za l) t=0)(hT:Qs (91::lst t)=true):zd (Za l) (QE t)=0:=by
 obtain⟨y,h1,h2,h3⟩:=zax _ hT;have hd:Qp y<=3:=by
  obtain⟨z,hz⟩:=Qaq (t:=QE t) (by rw[za0];exact hT);have:y=z:=ZaE (h1.trans (by rw[hz.text,za0]));rw[this];exact hz.deep
 refine QaD (x:=y) (by rw[h1,za0]) h3 hd ?_;cases y with
 |i=>simp[Zf]at h1
 |j=>simp[Zf]at h1
 |cl c=>simp[Zf]at h1
 |ar e =>
  simp only[Zf,List.cons.injEq,true_and]at h1;exact(zbl h1 hk).2
theorem Qae(cs:List Qb)(qb Zb:Str)(a b:Int)(type cls name:Str)(L S:List Str):
 zq cs qb Zb ⟨4,a,b,type,cls,name⟩ L S=qaN L S a/\zq cs qb Zb ⟨5,a,b,type,cls,name⟩ L S=zaE L S a
 /\zq cs qb Zb ⟨6,a,b,type,cls,name⟩ L S=((QH S).map fun p=>(L,p.2))/\zq cs qb Zb ⟨7,a,b,type,cls,name⟩ L S=((QH S).bind fun p=>(QK p.2 p.1).bind fun S1=>zv L S1 p.1)
 /\zq cs qb Zb ⟨8,a,b,type,cls,name⟩ L S=((QH S).bind fun p=>(QH p.2).bind fun q=>(QK q.2 p.1).bind fun S1=>zv L S1 q.1)
 /\zq cs qb Zb ⟨13,a,b,type,cls,name⟩ L S=qb9 L S
 /\zq cs qb Zb ⟨19,a,b,type,cls,name⟩ L S=((qK S).bind fun p=>if qW p.1=true then zv L p.2 kI else none)
 /\zq cs qb Zb ⟨20,a,b,type,cls,name⟩ L S=((zK cs type S).bind fun S1=>zv L S1 type)
 /\zq cs qb Zb ⟨21,a,b,type,cls,name⟩ L S=knK cs type ((zh cs [type] S).bind fun S1=>(zK cs type S1).map fun S2=>(L,S2))
 /\zq cs qb Zb ⟨22,a,b,type,cls,name⟩ L S=knK cs type ((qK S).bind fun p=>zv L p.2 type)
 /\zq cs qb Zb ⟨23,a,b,type,cls,name⟩ L S=knK cs type ((qK S).bind fun p=>zv L p.2 kI):=by
 refine⟨?_,?_,?_,?_,?_,?_,?_,?_,?_,?_,?_⟩<;>first|(rw[qdz (by dsimp only;omega)];rfl)|(rw[qc9 (by dsimp only;omega)];rfl)
theorem zdA{cs:List Qb}{L S:List Str}{t:Str}(h:zd cs t≠0):((zK cs t S).bind fun S1=>zv L S1 t)=none:=by
 unfold zK;rw[if_pos h];rfl
theorem Zcz{cs:List Qb}{L S:List Str}{t:Str}(h:S.length<3):((zh cs [t] S).bind fun S1=>(zK cs t S1).map fun S2=>(L,S2))=none:=by
 cases hq:zh cs [t] S with
 |none=>rfl
 |some S1 =>
  have:=QaO hq;rw[Option.bind_some,zbO (by simp at this;omega)];rfl
theorem ZdA{cs:List Qb}{t k u v:Str}{L r:List Str}(ht:zd cs t=0)(hT:Qs (lst t)=true)(hk:zd cs k=0)(hu:zd cs u=0):((zh cs [t] (r++[k]++[u]++[v])).bind fun S1=>(zK cs t S1).map fun S2=>(L,S2))=if Zx cs (Zo v) (Zo t)&&((u.toList==[73])&&Zx cs (Zo k) (Zo (QE t))) then some (L,r) else none:=by
 rw[Zb9 ht];cases Zx cs (Zo v) (Zo t) with
 |false=>rfl
 |true =>
  rw[if_pos rfl,Option.bind_some,Qb9 ht hT hk hu,Bool.true_and];split<;>rfl
end Go.Proofs.YtlmfmioljeppfaaGreatDoor
