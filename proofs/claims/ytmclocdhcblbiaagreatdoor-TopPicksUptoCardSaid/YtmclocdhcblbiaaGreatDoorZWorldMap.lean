/- Lemmas; conditions: as each states. -/
import Derived.Test.YtmclocdhcblbiaaGreatDoorZClassCheck
import Derived.Maps.Keyed
import Derived.Carry
import Derived.Laws.IdiomRangeMap
import Derived.Laws.AppendOwnNone
import Derived.Maps.AppendAt
set_option maxHeartbeats 4000000
namespace Go.Proofs.YtmclocdhcblbiaaGreatDoor
open Go.RowKit Go.Shelf Go.Lib Tryz
open Go.ChangeMaps (setBlock heap_setBlock_same heap_setBlock_other)
open Go.WideMaps (keyOf_string_mk string_law)
theorem ZbW:prog.underlying 66=some (.map 9 31):=by kernel_rfl
theorem qaA:prog.underlying 9=some .string:=by kernel_rfl
def Qfi(w0:World)(e:MapEntry)(c:qa):Prop :=
 e.key=.string c.name/\c.name.size<=maxLen/\∃fv dv mv,e.val=Zu c fv dv mv/\qp w0 fv c.faces/\Qe w0 2 ZN dv c.fields/\Qe w0 8 (zo w0) mv c.methods
structure Qn (w0 w:World) (B:Nat) (cs:List qa):Prop where
 below:Below w0.heap.size w0 w
 ge:w0.heap.size<=B
 lt:B<w.heap.size
 map:∃es clock,w.heap[B]? = some (.map es clock)/\es.toList.length=cs.length/\∀(i:Nat) (e:MapEntry) (c:qa),es.toList[i]? = some e->cs[i]? = some c->Qfi w0 e c
theorem Qn.step{D w w':World}{B:Nat}{cs:List qa}(h:Qn D w B cs)(C:Below w.heap.size w w'):Qn D w' B cs:=by
 obtain⟨F,G,E,H,A,I,J⟩:=h;exact⟨Qa F Xl C,G,Nat.lt_of_lt_of_le E C.size,H,A,(C.block B E).trans I,J⟩
def Qb(cs:List qa)(n:Str):Option qa:=cs.find? fun c=>decide (c.name=n)
theorem Qn.look{H w:World}{B:Nat}{cs:List qa}(h:Qn H w B cs)(Y:(cs.map (·.name)).Nodup)(n:Str)(Z:n.size<=maxLen):
 ∃N O R,qp H N ((Qb cs n).getD qg).faces/\Qe H 2 ZN O ((Qb cs n).getD qg).fields/\Qe H 8 (zo H) R ((Qb cs n).getD qg).methods /\
  ∀ok:Bool,(Instr.lookup 66 (.map (some B)) (.string n) ok).run prog w=.ok (if ok then .tuple #[Zu ((Qb cs n).getD qg) N O R,.bool (Qb cs n).isSome] else Zu ((Qb cs n).getD qg) N O R) w:=by
 obtain⟨_,_,_,T,U,X,J,D⟩:=h;have K:=string_law (P:=prog) qaA;have C:=keyOf_string_mk (P:=prog) qaA Z;have S:∀e∈T.toList,∃l,keyOf prog 9 e.key=some l:=fun e k=>by
  obtain⟨i,L,rfl⟩:=List.getElem_of_mem k;obtain⟨M,G,_⟩:=D i _ (cs[i]'(by omega)) (Xn L) (Xn (by omega));exact⟨_,by rw[M];exact keyOf_string_mk qaA G⟩
 rcases K.find w C T.toList S with⟨M,G⟩|⟨j,p,M,G,m⟩
 ·have E:Qb cs n=none:=by
   unfold Qb;rw[List.find?_eq_none];intro c g;obtain⟨i,L,rfl⟩:=List.getElem_of_mem g;have I:i<T.toList.length:=(by omega);obtain⟨F,_⟩:=D i _ _ (Xn I) (Xn L);have:=G _ (List.getElem_mem I);rw[F]at this;simpa using fun h=>this (by rw[h])
  refine⟨.slice none 0 0,.slice none 0 0,.slice none 0 0,?_,?_,?_,?_⟩
  ·rw[E];exact Or.inl ⟨rfl,rfl⟩
  ·rw[E];exact Or.inl ⟨rfl,rfl⟩
  ·rw[E];exact Or.inl ⟨rfl,rfl⟩
  ·intro ok;rw[E];cases ok<;>simp[Instr.lookup,run_underlying ZbW,MapKept.run_getObj_map X,K.check w _ C,M,Result.andThen,Zu,qg]<;>rfl
 ·have V:j<cs.length:=by rw[<-J];exact(List.getElem?_eq_some_iff.1 G).1
  obtain⟨F,o,N,O,R,a,b,d,f⟩:=D j _ _ G (Xn V);rw[m]at F;injection F with F
  have A:Qb cs n=some cs[j]:=by
   unfold Qb;rw[List.find?_eq_some_iff_getElem];refine⟨by simp[F],j,V,rfl,fun i L=>?_⟩;have:(cs.map (·.name))[i]'(by simp;omega)≠(cs.map (·.name))[j]'(by simp;omega):=List.pairwise_iff_getElem.1 Y i j (by simp;omega) (by simp;omega) L;simp only[List.getElem_map]at this;simpa[F] using this
  refine⟨N,O,R,by rw[A];exact b,by rw[A];exact d,by rw[A];exact f,?_⟩;intro ok;rw[A];cases ok<;>simp[Instr.lookup,run_underlying ZbW,MapKept.run_getObj_map X,K.check w _ C,M,a,Result.andThen]
theorem qbs{C w:World}{B:Nat}{D:Array MapEntry}{A:Nat}(G:C.heap.size<=B)(E:w.heap[B]? = some (.map D A))(o:Obj)(h:Below C.heap.size C w):Below C.heap.size C (setBlock w B o) :=
 ⟨h.os,h.tape,h.output,by simpa[setBlock] using h.size,fun k F=>(heap_setBlock_other E o (by omega)).trans (h.block k F)⟩
theorem Qn.put{H w:World}{B:Nat}{cs:List qa}(h:Qn H w B cs)(c:qa)(N O R:Value)(b:c.name.size<=maxLen)(C:Qb cs c.name=none)(f:qp H N c.faces)(g:Qe H 2 ZN O c.fields)(m:Qe H 8 (zo H) R c.methods):
 ∃w',(Instr.mapUpdate 66 (.map (some B)) (.string c.name) (Zu c N O R)).run prog w=.ok () w'/\Qn H w' B (cs++[c])/\w'.heap.size=w.heap.size/\∀k,k≠B->w'.heap[k]? = w.heap[k]?:=by
 obtain⟨Z,J,a,S,D,L,A,E⟩:=h;have K:=string_law (P:=prog) qaA;have G:=keyOf_string_mk (P:=prog) qaA b;have V:∀e∈S.toList,∃l,keyOf prog 9 e.key=some l:=fun e F=>by
  obtain⟨i,X,rfl⟩:=List.getElem_of_mem F;obtain⟨T,M,_⟩:=E i _ (cs[i]'(by omega)) (Xn X) (Xn (by omega));exact⟨_,by rw[T];exact keyOf_string_mk qaA M⟩
 rcases K.find w G S.toList V with⟨T,M⟩|⟨j,p,T,M,o⟩
 ·refine⟨setBlock w B (.map (S.push ⟨.string c.name,Zu c N O R,D⟩) (D+1)),?_,⟨qbs J L _ Z,J,by simpa[setBlock] using a,_,_,heap_setBlock_same L _,by simp[A],?_⟩,by simp[setBlock],fun k n=>heap_setBlock_other L _ n⟩
  ·simp[Instr.mapUpdate,run_underlying ZbW,MapKept.run_getObj_map L,K.check w false G,T,MapKept.run_setObj_map _ L,Result.andThen,setBlock]
  ·intro i e c' F I;rw[Array.toList_push]at F;by_cases X:i<cs.length
   ·rw[List.getElem?_append_left (by omega)]at F;rw[List.getElem?_append_left X]at I;exact E i e c' F I
   ·rw[List.getElem?_append_right (by omega)]at F I;have Y:i-S.toList.length=0:=by
     have:=(List.getElem?_eq_some_iff.1 F).1;simpa using this
    rw[A]at Y;rw[A,Y]at F;rw[Y]at I;simp at F I;subst F I;exact⟨rfl,b,N,O,R,rfl,f,g,m⟩
 ·exfalso;have d:j<cs.length:=by rw[<-A];exact(List.getElem?_eq_some_iff.1 M).1
  obtain⟨U,_⟩:=E j _ _ M (Xn d);rw[o]at U;injection U with U
  unfold Qb at C;rw[List.find?_eq_none]at C;exact C cs[j] (List.getElem_mem d) (by simp[U])
theorem Qn.made(w:World):Qn w (w.alloc (.map #[] 0)) w.heap.size [] :=
 ⟨Xb.alloc Xl _,Xl,by simp,#[],0,heap_alloc_new _ _,rfl,fun i e c h=>by simp at h⟩
set_option maxRecDepth 100000
theorem zev(w:World):Calls prog 39 #[] w fun e w'=>e=.returned (.map (some w.heap.size))/\Qn w w' w.heap.size [Z8,Zam]:=by
 have A:=Qn.made w;obtain⟨F,u2,B,_⟩:=A.put Z8 (.slice none 0 0) (.slice none 0 0) (.slice none 0 0) (by decide) rfl (Or.inl ⟨rfl,rfl⟩) (Or.inl ⟨rfl,rfl⟩) (Or.inl ⟨rfl,rfl⟩);obtain⟨G,u3,C,_⟩:=B.put Zam (.slice none 0 0) (.slice none 0 0) (.slice none 0 0) (by decide) (by decide) (Or.inl ⟨rfl,rfl⟩) (Or.inl ⟨rfl,rfl⟩) (Or.inl ⟨rfl,rfl⟩);have D:=fun t w=>run_makeMap (P:=prog) t w
 have E:=Xh C;clear A B C;simp only[Zu,Z8,Zam,qg,zh,qm,show ByteArray.empty=⟨#[]⟩ from rfl]at u2 u3;go_enter func39,ntmps39;go_wp2
 go_ret;exact⟨rfl,E⟩
theorem Qn.look2{A w:World}{B:Nat}{cs:List qa}(h:Qn A w B cs)(N:(cs.map (·.name)).Nodup)(n:Str)(O:n.size<=maxLen):
 ∃C D E F G H,qp A (.slice C ((Qb cs n).getD qg).faces.length D) ((Qb cs n).getD qg).faces/\Qe A 2 ZN (.slice E ((Qb cs n).getD qg).fields.length F) ((Qb cs n).getD qg).fields/\Qe A 8 (zo A) (.slice G ((Qb cs n).getD qg).methods.length H) ((Qb cs n).getD qg).methods /\
  (Instr.lookup 66 (.map (some B)) (.string n) true).run prog w=.ok (.tuple #[Zu ((Qb cs n).getD qg) (.slice C ((Qb cs n).getD qg).faces.length D) (.slice E ((Qb cs n).getD qg).fields.length F) (.slice G ((Qb cs n).getD qg).methods.length H),.bool (Qb cs n).isSome]) w /\
  (Instr.lookup 66 (.map (some B)) (.string n) false).run prog w=.ok (Zu ((Qb cs n).getD qg) (.slice C ((Qb cs n).getD qg).faces.length D) (.slice E ((Qb cs n).getD qg).fields.length F) (.slice G ((Qb cs n).getD qg).methods.length H)) w:=by
 obtain⟨P,R,S,I,J,L,M⟩:=h.look N n O;obtain⟨C,D,rfl,_⟩:=I.open;obtain⟨E,F,rfl,_⟩:=J.open;obtain⟨G,H,rfl,_⟩:=L.open;exact⟨C,D,E,F,G,H,I,J,L,M true,M false⟩
def qv(cs:List qa)(n:Str)(f:Bool):Nat:=match Qb cs n with|none=>3|some c=>if c.face=f then 0 else 7
theorem qfe(L w:World)(B:Nat)(cs:List qa)(I:Qn L w B cs)(J:(cs.map (·.name)).Nodup)(n:Str)(M:n.size<=maxLen)(f:Bool):
 Calls prog 62 #[.map (some B),.string n,.bool f] w fun e w'=>e=.returned (Qx (qv cs n f))/\Below w.heap.size w w':=by
 obtain⟨N,O,P,R,S,T,_,_,_,D,_⟩:=I.look2 J n M;unfold qv;cases C:Qb cs n with
 |none =>
  rw[C]at D;simp only[Option.getD_none,Option.isSome_none,Zu]at D;clear C I J;generalize qg=c at *;obtain⟨name,G,H,F,E,A⟩:=c;go_enter func62,ntmps62;go_wp2
  go_ret;exact⟨rfl,Xb.alloc Xl _⟩
 |some c =>
  rw[C]at D;simp only[Option.getD_some,Option.isSome_some,Zu]at D;clear C I J;obtain⟨name,G,H,F,E,A⟩:=c;dsimp only at *;cases F<;>cases f
  all_goals
   go_enter func62,ntmps62;go_wp2
   go_ret;exact⟨rfl,Xb.alloc Xl _⟩
theorem ZaK(W:World)(base:Nat)(v:Value)(A:base<=W.heap.size):(W.alloc (.cells #[v] 9)).ownsRow base 9 1 (.slice (some ⟨W.heap.size,0,none⟩) 1 1) 1 [v] :=
 ⟨rfl,Or.inr ⟨W.heap.size,1,#[v],rfl,A,heap_alloc_new _ _,Xl,by decide,rfl,rfl⟩⟩
theorem zcS{w:World}{a:Addr}{m c:Nat}{l:List ByteArray}(h:qp w (.slice (some a) m c) l):∀(j:Nat) (u:Value),(l.map Value.string)[j]? = some u->w.cell? (a.add j)=some u:=by
 intro j u A;rcases h with⟨h,_⟩|⟨I,cap,B,_,_,G⟩
 ·simp at h
 ·injection B with B;injection B with B;subst B
  rw[List.getElem?_map]at A;cases C:l[j]? with
  |none=>rw[C]at A;simp at A
  |some x =>
   rw[C]at A;simp at A;subst A;obtain⟨vs,D,H,E,F⟩:=G j x C;unfold qt at D;subst D;have:=F.1;rw[Nat.mul_one]at this;rw[E,Addr.add_lit];exact this
theorem Zbk(w:World)(o:Obj)(v:Value):((w.alloc o).alloc (.cells #[v] 9)).ownsRow w.heap.size 9 1 (.slice (some ⟨w.heap.size+1,0,none⟩) 1 1) 1 [v]:=by
 have:=ZaK (w.alloc o) w.heap.size v (Xb.alloc Xl _).size;rwa [World.size_alloc]at this
theorem ZJ(w:World)(o p:Obj):Below w.heap.size w ((w.alloc o).alloc p):=(Xb.alloc Xl _).alloc (by simp) _
def Qfv(lo hi:Nat)(v:Value):Prop:=∀g,v.ownBlock=some g->g<lo\/hi<=g
theorem qb6{w:World}{v:Value}{l:List ByteArray}(h:qp w v l)(A:l≠[]):∃g,v.ownBlock=some g/\g<w.heap.size:=by
 rcases h with⟨_,h⟩|⟨a,cap,D,_,_,E⟩
 ·exact absurd h A
 ·obtain⟨y,r,rfl⟩:=List.exists_cons_of_ne_nil A;obtain⟨vs,B,F,G,C⟩:=E 0 y rfl;unfold qt at B;subst B;exact⟨a.block,by rw[D];rfl,C.lt⟩
theorem qp.grown{w w':World}{v:Value}{l:List ByteArray}{A:Option Nat}(h:qp w v l)(I:w.grownBy w' A)(B:l=[]\/v.ownBlock≠A):qp w' v l:=by
 rcases h with h|⟨a,cap,H,M,N,O⟩
 ·exact Or.inl h
 ·refine Or.inr ⟨a,cap,H,M,N,fun i x G=>?_⟩;have C:v.ownBlock≠A:=by
   rcases B with B|B
   ·subst B;simp at G
   ·exact B
  obtain⟨vs,E,J,L,F⟩:=O i x G;refine⟨vs,E,J,L,?_⟩;unfold qt at E;subst E;have D:=F.lt;refine⟨?_,trivial⟩;have:=World.cell?_of_block (w:=w) (w':=w') (a:=⟨a.block,a.off+i*1,none⟩) (I.block a.block D (by rw[H]at C;exact C));rw[this];exact F.1
def zw(cs:List qa)(n:Str):List Str :=
 if ((Qb cs n).getD qg).super.size=0 then ((Qb cs n).getD qg).faces else ((Qb cs n).getD qg).super::((Qb cs n).getD qg).faces
theorem QcX(V w:World)(B:Nat)(cs:List qa)(U:Qn V w B cs)(p:(cs.map (·.name)).Nodup)(q:∀c∈cs,c.faces.length<=8)(n:Str)(z:n.size<=maxLen):
 Calls prog 64 #[.map (some B),.string n] w fun e w'=>(∃v,e=.returned v/\qp w' v (zw cs n)/\(zw cs n=[]\/Qfv V.heap.size w.heap.size v))/\Below w.heap.size w w':=by
 obtain⟨pf,Z,pd,kd,pm,km,b,_,_,_,d⟩:=U.look2 p n z;unfold zw;have aA:((Qb cs n).getD qg).faces.length<=8:=by
  cases Y:Qb cs n with
  |none=>exact Nat.zero_le _
  |some c=>exact q c (List.mem_of_find?_eq_some Y)
 have E:=b.mono U.below;have aB:=U.lt;have J:((Qb cs n).getD qg).faces=[]\/Qfv V.heap.size w.heap.size (.slice pf ((Qb cs n).getD qg).faces.length Z):=by
  by_cases r:((Qb cs n).getD qg).faces=[]
  ·exact Or.inl r
  ·refine Or.inr fun g D=>Or.inl ?_
   obtain⟨g',h1,h2⟩:=qb6 b r;rw[h1]at D;injection D with D;omega
 clear U p q b;generalize (Qb cs n).getD qg=c at *;obtain⟨name,A,C,S,G,F⟩:=c;unfold Zu at d;dsimp only at *;have s:A.toList.isEmpty=decide (A.size=0):=QZ A;by_cases R:A.size=0
 ·rw[if_pos R];rw[Xj R]at s;have L:=Xh E;have X:=Xh J;clear E R J;go_enter func64,ntmps64;go_wp2
  go_ret;exact⟨⟨_,rfl,L.out.mono (Xb.alloc Xl _),X⟩,Xb.alloc Xl _⟩
 ·rw[if_neg R];rw[Xi R]at s;have L:=Xh E;clear R J;obtain⟨t,y,f,i,j⟩:=info_parts Zae;have c1:(C.map Value.string).length=C.length*1:=by simp
  have c2:∀u∈C.map Value.string,u.oneCell'=true:=fun u hu=>by obtain⟨x,_,rfl⟩:=List.mem_map.1 hu;rfl
  have c3:1+C.length<=maxLen:=Xf (show 1+C.length<=9 by omega) (by decide);have c4:(1+C.length)*16<=140737488355328:=by omega
  rcases L.out with⟨o,rfl⟩|⟨a,cap,o,_⟩
  ·injection o with O hv2 P
   subst O P;clear E;go_enter func64,ntmps64;go_wp2_with (at_builtin;(refine wpList_append_own_none rfl _ _ 27 rfl w.heap.size 9 t 1 underlying27 y _ 1 _ rfl (Zbk w _ (.string A)) rfl ?_))
   go_ret;refine⟨⟨_,rfl,?_,Or.inr fun g D=>Or.inr (by injection D with D;subst D;simp)⟩,ZJ _ _ _⟩;exact Zk (l:=[A]) (Zbk w _ (.string A))
  ·injection o with O _ P
   subst O P;have M:=zcS (E.mono (ZJ w (.cells #[.string name,.string A,.slice (some a) C.length Z,.bool S,.slice pd G.length kd,.slice pm F.length km] 31) (.cells #[.string A] 9)));clear E;go_enter func64,ntmps64;go_wp2_with (at_builtin;(refine wpList_append_own_at _ rfl _ _ 27 rfl w.heap.size 9 t (.string .empty) 1 16 underlying27 y f i j rfl (by decide) _ _ _ rfl (Zbk w _ (.string A)) a C.length Z (C.map Value.string) rfl c1 M c2 c3 c4 (ZJ _ _ _).size ?_;intro v2 w3 N H _ T))
   have I:∀g,v2.ownBlock=some g->w.heap.size<=g:=fun g D=>by
    rcases T with h|h
    ·rw[h]at D;injection D with D;subst D;simp
    ·rw[h]at D;injection D with D;subst D;exact(ZJ _ _ _).size
   go_ret;refine⟨⟨_,rfl,?_,by first|exact Or.inr (fun g D=>Or.inr (I g D))|exact(fun g D=>Or.inr (I g D))⟩,(ZJ _ _ _).grown H (ZJ _ _ _).size (fun k m=>by injection m with m;subst m;simp)⟩;exact Zk (l:=A::C) (by simpa[Nat.add_comm] using N)
