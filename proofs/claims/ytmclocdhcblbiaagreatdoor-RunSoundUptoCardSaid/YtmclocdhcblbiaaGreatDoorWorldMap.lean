/- Lemmas; conditions: as each states. -/
import Derived.Test.YtmclocdhcblbiaaGreatDoorClassCheck
import Derived.Maps.Keyed
import Derived.Carry
import Derived.Laws.IdiomRangeMap
import Derived.Laws.AppendOwnNone
import Derived.Maps.AppendAt
set_option maxHeartbeats 4000000
namespace Go.Proofs.YtmclocdhcblbiaaGreatDoor
open Go.RowKit Go.Shelf Go.Lib
open Go.ChangeMaps (setBlock heap_setBlock_same heap_setBlock_other)
open Go.WideMaps (keyOf_string_mk string_law)
theorem qbU:Tryz.prog.underlying 66=some (.map 9 31):=by kernel_rfl
theorem qax:Tryz.prog.underlying 9=some .string:=by kernel_rfl
def Zfd(w0:World)(e:MapEntry)(c:qa):Prop :=
 e.key=.string c.name/\c.name.size<=maxLen/\∃fv dv mv,e.val=Qv c fv dv mv/\Zo w0 fv c.faces/\qe w0 2 zI dv c.fields/\qe w0 8 (Zt w0) mv c.methods
structure zo (w0 w:World) (B:Nat) (cs:List qa):Prop where
 below:Below w0.heap.size w0 w
 ge:w0.heap.size<=B
 lt:B<w.heap.size
 map:∃es clock,w.heap[B]? = some (.map es clock)/\es.toList.length=cs.length/\∀(i:Nat) (e:MapEntry) (c:qa),es.toList[i]? = some e->cs[i]? = some c->Zfd w0 e c
theorem zo.step{D w w':World}{B:Nat}{cs:List qa}(h:zo D w B cs)(C:Below w.heap.size w w'):zo D w' B cs:=by
 obtain⟨F,G,E,H,A,I,J⟩:=h;exact⟨Qa F Xl C,G,Nat.lt_of_lt_of_le E C.size,H,A,(C.block B E).trans I,J⟩
def Qb(cs:List qa)(n:Str):Option qa:=cs.find? fun c=>decide (c.name=n)
theorem QdR(l:List qa)(n:Str):Qb (ZU::Zad::l) n=Zff l n:=by
 unfold Qb Zff;by_cases A:n=Zg
 ·subst A;simp[ZU]
 ·by_cases B:n=Ql
  ·subst B;rw[List.find?_cons_of_neg (fun h=>A (Xm h).symm)];simp[Zad,A]
  ·rw[List.find?_cons_of_neg (fun h=>A (Xm h).symm),List.find?_cons_of_neg (fun h=>B (Xm h).symm),if_neg A,if_neg B]
theorem zo.look{H w:World}{B:Nat}{cs:List qa}(h:zo H w B cs)(Y:(cs.map (·.name)).Nodup)(n:Str)(Z:n.size<=maxLen):
 ∃N O R,Zo H N ((Qb cs n).getD qg).faces/\qe H 2 zI O ((Qb cs n).getD qg).fields/\qe H 8 (Zt H) R ((Qb cs n).getD qg).methods /\
  ∀ok:Bool,(Instr.lookup 66 (.map (some B)) (.string n) ok).run Tryz.prog w=.ok (if ok then .tuple #[Qv ((Qb cs n).getD qg) N O R,.bool (Qb cs n).isSome] else Qv ((Qb cs n).getD qg) N O R) w:=by
 obtain⟨_,_,_,T,U,X,J,D⟩:=h;have K:=string_law (P:=Tryz.prog) qax;have C:=keyOf_string_mk (P:=Tryz.prog) qax Z;have S:∀e∈T.toList,∃l,keyOf Tryz.prog 9 e.key=some l:=fun e k=>by
  obtain⟨i,L,rfl⟩:=List.getElem_of_mem k;obtain⟨M,G,_⟩:=D i _ (cs[i]'(by omega)) (Xn L) (Xn (by omega));exact⟨_,by rw[M];exact keyOf_string_mk qax G⟩
 rcases K.find w C T.toList S with⟨M,G⟩|⟨j,p,M,G,m⟩
 ·have E:Qb cs n=none:=by
   unfold Qb;rw[List.find?_eq_none];intro c g;obtain⟨i,L,rfl⟩:=List.getElem_of_mem g;have I:i<T.toList.length:=(by omega);obtain⟨F,_⟩:=D i _ _ (Xn I) (Xn L);have:=G _ (List.getElem_mem I);rw[F]at this;simpa using fun h=>this (by rw[h])
  refine⟨.slice none 0 0,.slice none 0 0,.slice none 0 0,?_,?_,?_,?_⟩
  ·rw[E];exact Or.inl ⟨rfl,rfl⟩
  ·rw[E];exact Or.inl ⟨rfl,rfl⟩
  ·rw[E];exact Or.inl ⟨rfl,rfl⟩
  ·intro ok;rw[E];cases ok<;>simp[Instr.lookup,run_underlying qbU,MapKept.run_getObj_map X,K.check w _ C,M,Result.andThen,Qv,qg]<;>rfl
 ·have V:j<cs.length:=by rw[<-J];exact(List.getElem?_eq_some_iff.1 G).1
  obtain⟨F,o,N,O,R,a,b,d,f⟩:=D j _ _ G (Xn V);rw[m]at F;injection F with F
  have A:Qb cs n=some cs[j]:=by
   unfold Qb;rw[List.find?_eq_some_iff_getElem];refine⟨by simp[F],j,V,rfl,fun i L=>?_⟩;have:(cs.map (·.name))[i]'(by simp;omega)≠(cs.map (·.name))[j]'(by simp;omega):=List.pairwise_iff_getElem.1 Y i j (by simp;omega) (by simp;omega) L;simp only[List.getElem_map]at this;simpa[F] using this
  refine⟨N,O,R,by rw[A];exact b,by rw[A];exact d,by rw[A];exact f,?_⟩;intro ok;rw[A];cases ok<;>simp[Instr.lookup,run_underlying qbU,MapKept.run_getObj_map X,K.check w _ C,M,a,Result.andThen]
theorem qbp{C w:World}{B:Nat}{D:Array MapEntry}{A:Nat}(G:C.heap.size<=B)(E:w.heap[B]? = some (.map D A))(o:Obj)(h:Below C.heap.size C w):Below C.heap.size C (setBlock w B o) :=
 ⟨h.os,h.tape,h.output,by simpa[setBlock] using h.size,fun k F=>(heap_setBlock_other E o (by omega)).trans (h.block k F)⟩
theorem zo.put{H w:World}{B:Nat}{cs:List qa}(h:zo H w B cs)(c:qa)(N O R:Value)(b:c.name.size<=maxLen)(C:Qb cs c.name=none)(f:Zo H N c.faces)(g:qe H 2 zI O c.fields)(m:qe H 8 (Zt H) R c.methods):
 ∃w',(Instr.mapUpdate 66 (.map (some B)) (.string c.name) (Qv c N O R)).run Tryz.prog w=.ok () w'/\zo H w' B (cs++[c])/\w'.heap.size=w.heap.size/\∀k,k≠B->w'.heap[k]? = w.heap[k]?:=by
 obtain⟨Z,J,a,S,D,L,A,E⟩:=h;have K:=string_law (P:=Tryz.prog) qax;have G:=keyOf_string_mk (P:=Tryz.prog) qax b;have V:∀e∈S.toList,∃l,keyOf Tryz.prog 9 e.key=some l:=fun e F=>by
  obtain⟨i,X,rfl⟩:=List.getElem_of_mem F;obtain⟨T,M,_⟩:=E i _ (cs[i]'(by omega)) (Xn X) (Xn (by omega));exact⟨_,by rw[T];exact keyOf_string_mk qax M⟩
 rcases K.find w G S.toList V with⟨T,M⟩|⟨j,p,T,M,o⟩
 ·refine⟨setBlock w B (.map (S.push ⟨.string c.name,Qv c N O R,D⟩) (D+1)),?_,⟨qbp J L _ Z,J,by simpa[setBlock] using a,_,_,heap_setBlock_same L _,by simp[A],?_⟩,by simp[setBlock],fun k n=>heap_setBlock_other L _ n⟩
  ·simp[Instr.mapUpdate,run_underlying qbU,MapKept.run_getObj_map L,K.check w false G,T,MapKept.run_setObj_map _ L,Result.andThen,setBlock]
  ·intro i e c' F I;rw[Array.toList_push]at F;by_cases X:i<cs.length
   ·rw[List.getElem?_append_left (by omega)]at F;rw[List.getElem?_append_left X]at I;exact E i e c' F I
   ·rw[List.getElem?_append_right (by omega)]at F I;have Y:i-S.toList.length=0:=by
     have:=(List.getElem?_eq_some_iff.1 F).1;simpa using this
    rw[A]at Y;rw[A,Y]at F;rw[Y]at I;simp at F I;subst F I;exact⟨rfl,b,N,O,R,rfl,f,g,m⟩
 ·exfalso;have d:j<cs.length:=by rw[<-A];exact(List.getElem?_eq_some_iff.1 M).1
  obtain⟨U,_⟩:=E j _ _ M (Xn d);rw[o]at U;injection U with U
  unfold Qb at C;rw[List.find?_eq_none]at C;exact C cs[j] (List.getElem_mem d) (by simp[U])
theorem zo.made(w:World):zo w (w.alloc (.map #[] 0)) w.heap.size [] :=
 ⟨Xb.alloc Xl _,Xl,by simp,#[],0,heap_alloc_new _ _,rfl,fun i e c h=>by simp at h⟩
set_option maxRecDepth 100000
theorem Zes(w:World):Calls Tryz.prog 39 #[] w fun e w'=>e=.returned (.map (some w.heap.size))/\zo w w' w.heap.size [ZU,Zad]:=by
 have A:=zo.made w;obtain⟨F,u2,B,_⟩:=A.put ZU (.slice none 0 0) (.slice none 0 0) (.slice none 0 0) (by decide) rfl (Or.inl ⟨rfl,rfl⟩) (Or.inl ⟨rfl,rfl⟩) (Or.inl ⟨rfl,rfl⟩);obtain⟨G,u3,C,_⟩:=B.put Zad (.slice none 0 0) (.slice none 0 0) (.slice none 0 0) (by decide) (by decide) (Or.inl ⟨rfl,rfl⟩) (Or.inl ⟨rfl,rfl⟩) (Or.inl ⟨rfl,rfl⟩);have D:=fun t w=>run_makeMap (P:=Tryz.prog) t w
 have E:=Xh C;clear A B C;simp only[Qv,ZU,Zad,qg,Zg,Ql,show ByteArray.empty=⟨#[]⟩ from rfl]at u2 u3;go_enter Tryz.func39,Tryz.ntmps39;go_wp2
 go_ret;exact⟨rfl,E⟩
set_option maxRecDepth 512
theorem zo.look2{A w:World}{B:Nat}{cs:List qa}(h:zo A w B cs)(N:(cs.map (·.name)).Nodup)(n:Str)(O:n.size<=maxLen):
 ∃C D E F G H,Zo A (.slice C ((Qb cs n).getD qg).faces.length D) ((Qb cs n).getD qg).faces/\qe A 2 zI (.slice E ((Qb cs n).getD qg).fields.length F) ((Qb cs n).getD qg).fields/\qe A 8 (Zt A) (.slice G ((Qb cs n).getD qg).methods.length H) ((Qb cs n).getD qg).methods /\
  (Instr.lookup 66 (.map (some B)) (.string n) true).run Tryz.prog w=.ok (.tuple #[Qv ((Qb cs n).getD qg) (.slice C ((Qb cs n).getD qg).faces.length D) (.slice E ((Qb cs n).getD qg).fields.length F) (.slice G ((Qb cs n).getD qg).methods.length H),.bool (Qb cs n).isSome]) w /\
  (Instr.lookup 66 (.map (some B)) (.string n) false).run Tryz.prog w=.ok (Qv ((Qb cs n).getD qg) (.slice C ((Qb cs n).getD qg).faces.length D) (.slice E ((Qb cs n).getD qg).fields.length F) (.slice G ((Qb cs n).getD qg).methods.length H)) w:=by
 obtain⟨P,R,S,I,J,L,M⟩:=h.look N n O;obtain⟨C,D,rfl,_⟩:=I.open;obtain⟨E,F,rfl,_⟩:=J.open;obtain⟨G,H,rfl,_⟩:=L.open;exact⟨C,D,E,F,G,H,I,J,L,M true,M false⟩
def Zv(cs:List qa)(n:Str)(f:Bool):Nat:=match Qb cs n with|none=>3|some c=>if c.face=f then 0 else 7
set_option maxRecDepth 100000
theorem Ze8(M w:World)(B:Nat)(cs:List qa)(J:zo M w B cs)(L:(cs.map (·.name)).Nodup)(n:Str)(N:n.size<=maxLen)(f:Bool):
 Calls Tryz.prog 62 #[.map (some B),.string n,.bool f] w fun e w'=>e=.returned (ZB (Zv cs n f))/\Below w.heap.size w w':=by
 obtain⟨O,P,R,S,T,U,_,_,_,D,_⟩:=J.look2 L n N;unfold Zv;cases C:Qb cs n with
 |none =>
  rw[C]at D;simp only[Option.getD_none,Option.isSome_none,Qv]at D;clear C J L;generalize qg=c at *;obtain⟨I,G,H,F,E,A⟩:=c;go_enter Tryz.func62,Tryz.ntmps62;go_wp2
  go_ret;exact⟨rfl,Xb.alloc Xl _⟩
 |some c =>
  rw[C]at D;simp only[Option.getD_some,Option.isSome_some,Qv]at D;clear C J L;obtain⟨I,G,H,F,E,A⟩:=c;dsimp only at *;cases F<;>cases f
  all_goals
   go_enter Tryz.func62,Tryz.ntmps62;go_wp2
   go_ret;exact⟨rfl,Xb.alloc Xl _⟩
set_option maxRecDepth 512
theorem zak(W:World)(base:Nat)(v:Value)(A:base<=W.heap.size):(W.alloc (.cells #[v] 9)).ownsRow base 9 1 (.slice (some ⟨W.heap.size,0,none⟩) 1 1) 1 [v] :=
 ⟨rfl,Or.inr ⟨W.heap.size,1,#[v],rfl,A,heap_alloc_new _ _,Xl,by decide,rfl,rfl⟩⟩
theorem zcQ{w:World}{a:Addr}{m c:Nat}{l:List ByteArray}(h:Zo w (.slice (some a) m c) l):∀(j:Nat) (u:Value),(l.map Value.string)[j]? = some u->w.cell? (a.add j)=some u:=by
 intro j u A;rcases h with⟨h,_⟩|⟨I,cap,B,_,_,G⟩
 ·simp at h
 ·injection B with B;injection B with B;subst B
  rw[List.getElem?_map]at A;cases C:l[j]? with
  |none=>rw[C]at A;simp at A
  |some x =>
   rw[C]at A;simp at A;subst A;obtain⟨vs,D,H,E,F⟩:=G j x C;unfold Qs at D;subst D;have:=F.1;rw[Nat.mul_one]at this;rw[E,Addr.add_lit];exact this
theorem qbh(w:World)(o:Obj)(v:Value):((w.alloc o).alloc (.cells #[v] 9)).ownsRow w.heap.size 9 1 (.slice (some ⟨w.heap.size+1,0,none⟩) 1 1) 1 [v]:=by
 have:=zak (w.alloc o) w.heap.size v (Xb.alloc Xl _).size;rwa [World.size_alloc]at this
theorem zH(w:World)(o p:Obj):Below w.heap.size w ((w.alloc o).alloc p):=(Xb.alloc Xl _).alloc (by simp) _
def qfp(lo hi:Nat)(v:Value):Prop:=∀g,v.ownBlock=some g->g<lo\/hi<=g
theorem Qbw{w:World}{v:Value}{l:List ByteArray}(h:Zo w v l)(A:l≠[]):∃g,v.ownBlock=some g/\g<w.heap.size:=by
 rcases h with⟨_,h⟩|⟨a,cap,D,_,_,E⟩
 ·exact absurd h A
 ·obtain⟨y,r,rfl⟩:=List.exists_cons_of_ne_nil A;obtain⟨vs,B,F,G,C⟩:=E 0 y rfl;unfold Qs at B;subst B;exact⟨a.block,by rw[D];rfl,C.lt⟩
theorem Zo.grown{w w':World}{v:Value}{l:List ByteArray}{A:Option Nat}(h:Zo w v l)(I:w.grownBy w' A)(B:l=[]\/v.ownBlock≠A):Zo w' v l:=by
 rcases h with h|⟨a,cap,H,M,N,O⟩
 ·exact Or.inl h
 ·refine Or.inr ⟨a,cap,H,M,N,fun i x G=>?_⟩;have C:v.ownBlock≠A:=by
   rcases B with B|B
   ·subst B;simp at G
   ·exact B
  obtain⟨vs,E,J,L,F⟩:=O i x G;refine⟨vs,E,J,L,?_⟩;unfold Qs at E;subst E;have D:=F.lt;refine⟨?_,trivial⟩;have:=World.cell?_of_block (w:=w) (w':=w') (a:=⟨a.block,a.off+i*1,none⟩) (I.block a.block D (by rw[H]at C;exact C));rw[this];exact F.1
def Zz(cs:List qa)(n:Str):List Str :=
 if ((Qb cs n).getD qg).super.size=0 then ((Qb cs n).getD qg).faces else ((Qb cs n).getD qg).super::((Qb cs n).getD qg).faces
set_option maxRecDepth 100000
theorem QcV(X w:World)(B:Nat)(cs:List qa)(V:zo X w B cs)(q:(cs.map (·.name)).Nodup)(r:∀c∈cs,c.faces.length<=8)(n:Str)(hs:n.size<=maxLen):
 Calls Tryz.prog 64 #[.map (some B),.string n] w fun e w'=>(∃v,e=.returned v/\Zo w' v (Zz cs n)/\(Zz cs n=[]\/qfp X.heap.size w.heap.size v))/\Below w.heap.size w w':=by
 obtain⟨pf,b,pd,kd,pm,km,d,_,_,_,f⟩:=V.look2 q n hs;unfold Zz;have hc8:((Qb cs n).getD qg).faces.length<=8:=by
  cases Z:Qb cs n with
  |none=>exact Nat.zero_le _
  |some c=>exact r c (List.mem_of_find?_eq_some Z)
 have E:=d.mono V.below;have hlt:=V.lt;have J:((Qb cs n).getD qg).faces=[]\/qfp X.heap.size w.heap.size (.slice pf ((Qb cs n).getD qg).faces.length b):=by
  by_cases s:((Qb cs n).getD qg).faces=[]
  ·exact Or.inl s
  ·refine Or.inr fun g D=>Or.inl ?_
   obtain⟨g',h1,h2⟩:=Qbw d s;rw[h1]at D;injection D with D;omega
 clear V q r d;generalize (Qb cs n).getD qg=c at *;obtain⟨S,A,C,T,G,F⟩:=c;unfold Qv at f;dsimp only at *;have t:A.toList.isEmpty=decide (A.size=0):=qR A;by_cases R:A.size=0
 ·rw[if_pos R];rw[Xj R]at t;have L:=Xh E;have Y:=Xh J;clear E R J;go_enter Tryz.func64,Tryz.ntmps64;go_wp2
  go_ret;exact⟨⟨_,rfl,L.out.mono (Xb.alloc Xl _),Y⟩,Xb.alloc Xl _⟩
 ·rw[if_neg R];rw[Xi R]at t;have L:=Xh E;clear R J;obtain⟨y,z,i,j,m⟩:=info_parts Q3;have c1:(C.map Value.string).length=C.length*1:=by simp
  have c2:∀u∈C.map Value.string,u.oneCell'=true:=fun u hu=>by obtain⟨x,_,rfl⟩:=List.mem_map.1 hu;rfl
  have c3:1+C.length<=maxLen:=Xf (show 1+C.length<=9 by omega) (by decide);have c4:(1+C.length)*16<=140737488355328:=by omega
  rcases L.out with⟨p,rfl⟩|⟨a,cap,p,_⟩
  ·injection p with O hv2 P
   subst O P;clear E;go_enter Tryz.func64,Tryz.ntmps64;go_wp2_with (at_builtin;(refine wpList_append_own_none rfl _ _ 27 rfl w.heap.size 9 y 1 Tryz.underlying27 z _ 1 _ rfl (qbh w _ (.string A)) rfl ?_))
   go_ret;refine⟨⟨_,rfl,?_,Or.inr fun g D=>Or.inr (by injection D with D;subst D;simp)⟩,zH _ _ _⟩;exact Qi (l:=[A]) (qbh w _ (.string A))
  ·injection p with O _ P
   subst O P;have M:=zcQ (E.mono (zH w (.cells #[.string S,.string A,.slice (some a) C.length b,.bool T,.slice pd G.length kd,.slice pm F.length km] 31) (.cells #[.string A] 9)));clear E;go_enter Tryz.func64,Tryz.ntmps64;go_wp2_with (at_builtin;(refine wpList_append_own_at _ rfl _ _ 27 rfl w.heap.size 9 y (.string .empty) 1 16 Tryz.underlying27 z i j m rfl (by decide) _ _ _ rfl (qbh w _ (.string A)) a C.length b (C.map Value.string) rfl c1 M c2 c3 c4 (zH _ _ _).size ?_;intro v2 w3 N H _ U))
   have I:∀g,v2.ownBlock=some g->w.heap.size<=g:=fun g D=>by
    rcases U with h|h
    ·rw[h]at D;injection D with D;subst D;simp
    ·rw[h]at D;injection D with D;subst D;exact(zH _ _ _).size
   go_ret;refine⟨⟨_,rfl,?_,by first|exact Or.inr (fun g D=>Or.inr (I g D))|exact(fun g D=>Or.inr (I g D))⟩,(zH _ _ _).grown H (zH _ _ _).size (fun k o=>by injection o with o;subst o;simp)⟩;exact Qi (l:=A::C) (by simpa[Nat.add_comm] using N)
set_option maxRecDepth 512
end Go.Proofs.YtmclocdhcblbiaaGreatDoor
