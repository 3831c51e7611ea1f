/- Lemmas; conditions: as each states. -/
import Derived.Test.YtlmfmioljeppfaaGreatDoorClassCheck
import Derived.Maps.Keyed
import Derived.Carry
import Derived.Laws.IdiomRangeMap
import Derived.Laws.AppendOwnNone
import Derived.Maps.AppendAt
set_option maxHeartbeats 4000000
namespace Go.Proofs.YtlmfmioljeppfaaGreatDoor
open Go.RowKit Go.Shelf Go.Lib
open Go.ChangeMaps (setBlock heap_setBlock_same heap_setBlock_other)
open Go.WideMaps (keyOf_string_mk string_law)
theorem Zbt:Tryz.prog.underlying 97=some (.map 9 36):=by kernel_rfl
theorem Zaz:Tryz.prog.underlying 9=some .string:=by kernel_rfl
def qel(w0:World)(e:MapEntry)(c:Qb):Prop :=
 e.key=.string c.name/\c.name.size<=maxLen/\∃fv dv mv,e.val=Qz c fv dv mv/\Qh w0 fv c.faces/\Zg w0 2 QE dv c.fields/\Zg w0 8 (zr w0) mv c.methods
structure Qp (w0 w:World) (B:Nat) (cs:List Qb):Prop where
 below:Below w0.heap.size w0 w
 ge:w0.heap.size<=B
 lt:B<w.heap.size
 map:∃es clock,w.heap[B]? = some (.map es clock)/\es.toList.length=cs.length/\∀(i:Nat) (e:MapEntry) (c:Qb),es.toList[i]? = some e->cs[i]? = some c->qel w0 e c
theorem Qp.step{D w w':World}{B:Nat}{cs:List Qb}(h:Qp D w B cs)(C:Below w.heap.size w w'):Qp D w' B cs:=by
 obtain⟨F,G,E,H,A,I,J⟩:=h;exact⟨Qa F Xl C,G,Nat.lt_of_lt_of_le E C.size,H,A,(C.block B E).trans I,J⟩
def Qc(cs:List Qb)(n:Str):Option Qb:=cs.find? fun c=>decide (c.name=n)
theorem Zdh(l:List Qb)(n:Str):Qc (QN::ZX::l) n=Qds l n:=by
 unfold Qc Qds;by_cases A:n=qg
 ·subst A;simp[QN]
 ·by_cases B:n=zC
  ·subst B;rw[List.find?_cons_of_neg (fun h=>A (Xm h).symm)];simp[ZX,A]
  ·rw[List.find?_cons_of_neg (fun h=>A (Xm h).symm),List.find?_cons_of_neg (fun h=>B (Xm h).symm),if_neg A,if_neg B]
theorem Qp.look{H w:World}{B:Nat}{cs:List Qb}(h:Qp H w B cs)(Y:(cs.map (·.name)).Nodup)(n:Str)(hs:n.size<=maxLen):
 ∃N O R,Qh H N ((Qc cs n).getD zg).faces/\Zg H 2 QE O ((Qc cs n).getD zg).fields/\Zg H 8 (zr H) R ((Qc cs n).getD zg).methods /\
  ∀ok:Bool,(Instr.lookup 97 (.map (some B)) (.string n) ok).run Tryz.prog w=.ok (if ok then .tuple #[Qz ((Qc cs n).getD zg) N O R,.bool (Qc cs n).isSome] else Qz ((Qc cs n).getD zg) N O R) w:=by
 obtain⟨_,_,_,T,U,X,J,D⟩:=h;have K:=string_law (P:=Tryz.prog) Zaz;have C:=keyOf_string_mk (P:=Tryz.prog) Zaz hs;have S:∀e∈T.toList,∃l,keyOf Tryz.prog 9 e.key=some l:=fun e g=>by
  obtain⟨i,L,rfl⟩:=List.getElem_of_mem g;obtain⟨M,G,_⟩:=D i _ (cs[i]'(by omega)) (Xn L) (Xn (by omega));exact⟨_,by rw[M];exact keyOf_string_mk Zaz G⟩
 rcases K.find w C T.toList S with⟨M,G⟩|⟨j,o,M,G,k⟩
 ·have E:Qc cs n=none:=by
   unfold Qc;rw[List.find?_eq_none];intro c f;obtain⟨i,L,rfl⟩:=List.getElem_of_mem f;have I:i<T.toList.length:=(by omega);obtain⟨F,_⟩:=D i _ _ (Xn I) (Xn L);have:=G _ (List.getElem_mem I);rw[F]at this;simpa using fun h=>this (by rw[h])
  refine⟨.slice none 0 0,.slice none 0 0,.slice none 0 0,?_,?_,?_,?_⟩
  ·rw[E];exact Or.inl ⟨rfl,rfl⟩
  ·rw[E];exact Or.inl ⟨rfl,rfl⟩
  ·rw[E];exact Or.inl ⟨rfl,rfl⟩
  ·intro ok;rw[E];cases ok<;>simp[Instr.lookup,run_underlying Zbt,MapKept.run_getObj_map X,K.check w _ C,M,Result.andThen,Qz,zg]<;>rfl
 ·have V:j<cs.length:=by rw[<-J];exact(List.getElem?_eq_some_iff.1 G).1
  obtain⟨F,m,N,O,R,Z,a,b,d⟩:=D j _ _ G (Xn V);rw[k]at F;injection F with F
  have A:Qc cs n=some cs[j]:=by
   unfold Qc;rw[List.find?_eq_some_iff_getElem];refine⟨by simp[F],j,V,rfl,fun i L=>?_⟩;have:(cs.map (·.name))[i]'(by simp;omega)≠(cs.map (·.name))[j]'(by simp;omega):=List.pairwise_iff_getElem.1 Y i j (by simp;omega) (by simp;omega) L;simp only[List.getElem_map]at this;simpa[F] using this
  refine⟨N,O,R,by rw[A];exact a,by rw[A];exact b,by rw[A];exact d,?_⟩;intro ok;rw[A];cases ok<;>simp[Instr.lookup,run_underlying Zbt,MapKept.run_getObj_map X,K.check w _ C,M,Z,Result.andThen]
theorem ZaB{C w:World}{B:Nat}{D:Array MapEntry}{A:Nat}(G:C.heap.size<=B)(E:w.heap[B]? = some (.map D A))(o:Obj)(h:Below C.heap.size C w):Below C.heap.size C (setBlock w B o) :=
 ⟨h.os,h.tape,h.output,by simpa[setBlock] using h.size,fun k F=>(heap_setBlock_other E o (by omega)).trans (h.block k F)⟩
theorem Qp.put{H w:World}{B:Nat}{cs:List Qb}(h:Qp H w B cs)(c:Qb)(N O R:Value)(hs:c.name.size<=maxLen)(C:Qc cs c.name=none)(d:Qh H N c.faces)(f:Zg H 2 QE O c.fields)(g:Zg H 8 (zr H) R c.methods):
 ∃w',(Instr.mapUpdate 97 (.map (some B)) (.string c.name) (Qz c N O R)).run Tryz.prog w=.ok () w'/\Qp H w' B (cs++[c])/\w'.heap.size=w.heap.size/\∀k,k≠B->w'.heap[k]? = w.heap[k]?:=by
 obtain⟨Z,J,a,S,D,L,A,E⟩:=h;have K:=string_law (P:=Tryz.prog) Zaz;have G:=keyOf_string_mk (P:=Tryz.prog) Zaz hs;have V:∀e∈S.toList,∃l,keyOf Tryz.prog 9 e.key=some l:=fun e F=>by
  obtain⟨i,X,rfl⟩:=List.getElem_of_mem F;obtain⟨T,M,_⟩:=E i _ (cs[i]'(by omega)) (Xn X) (Xn (by omega));exact⟨_,by rw[T];exact keyOf_string_mk Zaz M⟩
 rcases K.find w G S.toList V with⟨T,M⟩|⟨j,p,T,M,o⟩
 ·refine⟨setBlock w B (.map (S.push ⟨.string c.name,Qz c N O R,D⟩) (D+1)),?_,⟨ZaB J L _ Z,J,by simpa[setBlock] using a,_,_,heap_setBlock_same L _,by simp[A],?_⟩,by simp[setBlock],fun k n=>heap_setBlock_other L _ n⟩
  ·simp[Instr.mapUpdate,run_underlying Zbt,MapKept.run_getObj_map L,K.check w false G,T,MapKept.run_setObj_map _ L,Result.andThen,setBlock]
  ·intro i e m F I;rw[Array.toList_push]at F;by_cases X:i<cs.length
   ·rw[List.getElem?_append_left (by omega)]at F;rw[List.getElem?_append_left X]at I;exact E i e m F I
   ·rw[List.getElem?_append_right (by omega)]at F I;have Y:i-S.toList.length=0:=by
     have:=(List.getElem?_eq_some_iff.1 F).1;simpa using this
    rw[A]at Y;rw[A,Y]at F;rw[Y]at I;simp at F I;subst F I;exact⟨rfl,hs,N,O,R,rfl,d,f,g⟩
 ·exfalso;have b:j<cs.length:=by rw[<-A];exact(List.getElem?_eq_some_iff.1 M).1
  obtain⟨U,_⟩:=E j _ _ M (Xn b);rw[o]at U;injection U with U
  unfold Qc at C;rw[List.find?_eq_none]at C;exact C cs[j] (List.getElem_mem b) (by simp[U])
end Go.Proofs.YtlmfmioljeppfaaGreatDoor
namespace Go.Proofs.YtlmfmioljeppfaaGreatDoor
open Go.RowKit Go.Shelf Go.Lib
theorem Qp.made(w:World):Qp w (w.alloc (.map #[] 0)) w.heap.size [] :=
 ⟨Xb.alloc Xl _,Xl,by simp,#[],0,heap_alloc_new _ _,rfl,fun i e c h=>by simp at h⟩
set_option maxRecDepth 100000
theorem qdI(w:World):Calls Tryz.prog 86 #[] w fun e w'=>e=.returned (.map (some w.heap.size))/\Qp w w' w.heap.size [QN,ZX]:=by
 have A:=Qp.made w;obtain⟨F,u2,B,_⟩:=A.put QN (.slice none 0 0) (.slice none 0 0) (.slice none 0 0) (by decide) rfl (Or.inl ⟨rfl,rfl⟩) (Or.inl ⟨rfl,rfl⟩) (Or.inl ⟨rfl,rfl⟩);obtain⟨G,u3,C,_⟩:=B.put ZX (.slice none 0 0) (.slice none 0 0) (.slice none 0 0) (by decide) (by decide) (Or.inl ⟨rfl,rfl⟩) (Or.inl ⟨rfl,rfl⟩) (Or.inl ⟨rfl,rfl⟩);have D:=fun t w=>run_makeMap (P:=Tryz.prog) t w
 have E:=Xh C;clear A B C;simp only[Qz,QN,ZX,zg,qg,zC,show ByteArray.empty=⟨#[]⟩ from rfl]at u2 u3;go_enter Tryz.func86,Tryz.ntmps86;go_wp2
 go_ret;exact⟨rfl,E⟩
set_option maxRecDepth 512
theorem Qp.look2{A w:World}{B:Nat}{cs:List Qb}(h:Qp A w B cs)(N:(cs.map (·.name)).Nodup)(n:Str)(hs:n.size<=maxLen):
 ∃C D E F G H,Qh A (.slice C ((Qc cs n).getD zg).faces.length D) ((Qc cs n).getD zg).faces/\Zg A 2 QE (.slice E ((Qc cs n).getD zg).fields.length F) ((Qc cs n).getD zg).fields/\Zg A 8 (zr A) (.slice G ((Qc cs n).getD zg).methods.length H) ((Qc cs n).getD zg).methods /\
  (Instr.lookup 97 (.map (some B)) (.string n) true).run Tryz.prog w=.ok (.tuple #[Qz ((Qc cs n).getD zg) (.slice C ((Qc cs n).getD zg).faces.length D) (.slice E ((Qc cs n).getD zg).fields.length F) (.slice G ((Qc cs n).getD zg).methods.length H),.bool (Qc cs n).isSome]) w /\
  (Instr.lookup 97 (.map (some B)) (.string n) false).run Tryz.prog w=.ok (Qz ((Qc cs n).getD zg) (.slice C ((Qc cs n).getD zg).faces.length D) (.slice E ((Qc cs n).getD zg).fields.length F) (.slice G ((Qc cs n).getD zg).methods.length H)) w:=by
 obtain⟨O,P,R,I,J,L,M⟩:=h.look N n hs;obtain⟨C,D,rfl,_⟩:=I.open;obtain⟨E,F,rfl,_⟩:=J.open;obtain⟨G,H,rfl,_⟩:=L.open;exact⟨C,D,E,F,G,H,I,J,L,M true,M false⟩
def Zu(cs:List Qb)(n:Str)(f:Bool):Nat:=match Qc cs n with|none=>3|some c=>if c.face=f then 0 else 7
set_option maxRecDepth 100000
theorem Qeh(M w:World)(B:Nat)(cs:List Qb)(J:Qp M w B cs)(L:(cs.map (·.name)).Nodup)(n:Str)(hs:n.size<=maxLen)(f:Bool):
 Calls Tryz.prog 123 #[.map (some B),.string n,.bool f] w fun e w'=>e=.returned (zE (Zu cs n f))/\Below w.heap.size w w':=by
 obtain⟨N,O,P,R,S,T,_,_,_,D,_⟩:=J.look2 L n hs;unfold Zu;cases C:Qc cs n with
 |none =>
  rw[C]at D;simp only[Option.getD_none,Option.isSome_none,Qz]at D;clear C J L;generalize zg=c at *;obtain⟨I,G,H,F,E,A⟩:=c;go_enter Tryz.func123,Tryz.ntmps123;go_wp2
  go_ret;exact⟨rfl,Xb.alloc Xl _⟩
 |some c =>
  rw[C]at D;simp only[Option.getD_some,Option.isSome_some,Qz]at D;clear C J L;obtain⟨I,G,H,F,E,A⟩:=c;dsimp only at *;cases F<;>cases f
  all_goals
   go_enter Tryz.func123,Tryz.ntmps123;go_wp2
   go_ret;exact⟨rfl,Xb.alloc Xl _⟩
set_option maxRecDepth 512
theorem ZZ(W:World)(base:Nat)(v:Value)(A:base<=W.heap.size):(W.alloc (.cells #[v] 9)).ownsRow base 9 1 (.slice (some ⟨W.heap.size,0,none⟩) 1 1) 1 [v] :=
 ⟨rfl,Or.inr ⟨W.heap.size,1,#[v],rfl,A,heap_alloc_new _ _,Xl,by decide,rfl,rfl⟩⟩
theorem QbB{w:World}{a:Addr}{m c:Nat}{l:List ByteArray}(h:Qh w (.slice (some a) m c) l):∀(j:Nat) (u:Value),(l.map Value.string)[j]? = some u->w.cell? (a.add j)=some u:=by
 intro j u A;rcases h with⟨h,_⟩|⟨I,cap,B,_,_,G⟩
 ·simp at h
 ·injection B with B;injection B with B;subst B
  rw[List.getElem?_map]at A;cases C:l[j]? with
  |none=>rw[C]at A;simp at A
  |some x =>
   rw[C]at A;simp at A;subst A;obtain⟨vs,D,H,E,F⟩:=G j x C;unfold qs at D;subst D;have:=F.1;rw[Nat.mul_one]at this;rw[E,Addr.add_lit];exact this
theorem ZaV(w:World)(o:Obj)(v:Value):((w.alloc o).alloc (.cells #[v] 9)).ownsRow w.heap.size 9 1 (.slice (some ⟨w.heap.size+1,0,none⟩) 1 1) 1 [v]:=by
 have:=ZZ (w.alloc o) w.heap.size v (Xb.alloc Xl _).size;rwa [World.size_alloc]at this
theorem QR(w:World)(o p:Obj):Below w.heap.size w ((w.alloc o).alloc p):=(Xb.alloc Xl _).alloc (by simp) _
def Zev(lo hi:Nat)(v:Value):Prop:=∀g,v.ownBlock=some g->g<lo\/hi<=g
theorem Zat{w:World}{v:Value}{l:List ByteArray}(h:Qh w v l)(A:l≠[]):∃g,v.ownBlock=some g/\g<w.heap.size:=by
 rcases h with⟨_,h⟩|⟨a,cap,D,_,_,E⟩
 ·exact absurd h A
 ·obtain⟨y,r,rfl⟩:=List.exists_cons_of_ne_nil A;obtain⟨vs,B,F,G,C⟩:=E 0 y rfl;unfold qs at B;subst B;exact⟨a.block,by rw[D];rfl,C.lt⟩
theorem Qh.grown{w w':World}{v:Value}{l:List ByteArray}{A:Option Nat}(h:Qh w v l)(H:w.grownBy w' A)(hs:l=[]\/v.ownBlock≠A):Qh w' v l:=by
 rcases h with h|⟨a,cap,G,L,M,N⟩
 ·exact Or.inl h
 ·refine Or.inr ⟨a,cap,G,L,M,fun i x F=>?_⟩;have B:v.ownBlock≠A:=by
   rcases hs with hs|hs
   ·subst hs;simp at F
   ·exact hs
  obtain⟨vs,D,I,J,E⟩:=N i x F;refine⟨vs,D,I,J,?_⟩;unfold qs at D;subst D;have C:=E.lt;refine⟨?_,trivial⟩;have:=World.cell?_of_block (w:=w) (w':=w') (a:=⟨a.block,a.off+i*1,none⟩) (H.block a.block C (by rw[G]at B;exact B));rw[this];exact E.1
def qp(cs:List Qb)(n:Str):List Str :=
 if ((Qc cs n).getD zg).super.size=0 then ((Qc cs n).getD zg).faces else ((Qc cs n).getD zg).super::((Qc cs n).getD zg).faces
set_option maxRecDepth 100000
theorem zcr(X w:World)(B:Nat)(cs:List Qb)(V:Qp X w B cs)(q:(cs.map (·.name)).Nodup)(r:∀c∈cs,c.faces.length<=8)(n:Str)(hs:n.size<=maxLen):
 Calls Tryz.prog 125 #[.map (some B),.string n] w fun e w'=>(∃v,e=.returned v/\Qh w' v (qp cs n)/\(qp cs n=[]\/Zev X.heap.size w.heap.size v))/\Below w.heap.size w w':=by
 obtain⟨pf,b,pd,kd,pm,km,d,_,_,_,f⟩:=V.look2 q n hs;unfold qp;have aA:((Qc cs n).getD zg).faces.length<=8:=by
  cases Z:Qc cs n with
  |none=>exact Nat.zero_le _
  |some c=>exact r c (List.mem_of_find?_eq_some Z)
 have E:=d.mono V.below;have aB:=V.lt;have J:((Qc cs n).getD zg).faces=[]\/Zev X.heap.size w.heap.size (.slice pf ((Qc cs n).getD zg).faces.length b):=by
  by_cases s:((Qc cs n).getD zg).faces=[]
  ·exact Or.inl s
  ·refine Or.inr fun g D=>Or.inl ?_
   obtain⟨g',h1,h2⟩:=Zat d s;rw[h1]at D;injection D with D;omega
 clear V q r d;generalize (Qc cs n).getD zg=c at *;obtain⟨S,A,C,T,G,F⟩:=c;unfold Qz at f;dsimp only at *;have t:A.toList.isEmpty=decide (A.size=0):=ZD A;by_cases R:A.size=0
 ·rw[if_pos R];rw[Xj R]at t;have L:=Xh E;have Y:=Xh J;clear E R J;go_enter Tryz.func125,Tryz.ntmps125;go_wp2
  go_ret;exact⟨⟨_,rfl,L.out.mono (Xb.alloc Xl _),Y⟩,Xb.alloc Xl _⟩
 ·rw[if_neg R];rw[Xi R]at t;have L:=Xh E;clear R J;obtain⟨y,z,i,j,m⟩:=info_parts qO;have c1:(C.map Value.string).length=C.length*1:=by simp
  have c2:∀u∈C.map Value.string,u.oneCell'=true:=fun u hu=>by obtain⟨x,_,rfl⟩:=List.mem_map.1 hu;rfl
  have c3:1+C.length<=maxLen:=Xf (show 1+C.length<=9 by omega) (by decide);have c4:(1+C.length)*16<=140737488355328:=by omega
  rcases L.out with⟨p,rfl⟩|⟨a,cap,p,_⟩
  ·injection p with O hv2 P
   subst O P;clear E;go_enter Tryz.func125,Tryz.ntmps125;go_wp2_with (at_builtin;(refine wpList_append_own_none rfl _ _ 25 rfl w.heap.size 9 y 1 Tryz.underlying25 z _ 1 _ rfl (ZaV w _ (.string A)) rfl ?_))
   go_ret;refine⟨⟨_,rfl,?_,Or.inr fun g D=>Or.inr (by injection D with D;subst D;simp)⟩,QR _ _ _⟩;exact Ze (l:=[A]) (ZaV w _ (.string A))
  ·injection p with O _ P
   subst O P;have M:=QbB (E.mono (QR w (.cells #[.string S,.string A,.slice (some a) C.length b,.bool T,.slice pd G.length kd,.slice pm F.length km] 36) (.cells #[.string A] 9)));clear E;go_enter Tryz.func125,Tryz.ntmps125;go_wp2_with (at_builtin;(refine wpList_append_own_at _ rfl _ _ 25 rfl w.heap.size 9 y (.string .empty) 1 16 Tryz.underlying25 z i j m rfl (by decide) _ _ _ rfl (ZaV w _ (.string A)) a C.length b (C.map Value.string) rfl c1 M c2 c3 c4 (QR _ _ _).size ?_;intro v2 w3 N H _ U))
   have I:∀g,v2.ownBlock=some g->w.heap.size<=g:=fun g D=>by
    rcases U with h|h
    ·rw[h]at D;injection D with D;subst D;simp
    ·rw[h]at D;injection D with D;subst D;exact(QR _ _ _).size
   go_ret;refine⟨⟨_,rfl,?_,by first|exact Or.inr (fun g D=>Or.inr (I g D))|exact(fun g D=>Or.inr (I g D))⟩,(QR _ _ _).grown H (QR _ _ _).size (fun k o=>by injection o with o;subst o;simp)⟩;exact Ze (l:=A::C) (by simpa[Nat.add_comm] using N)
set_option maxRecDepth 512
end Go.Proofs.YtlmfmioljeppfaaGreatDoor
