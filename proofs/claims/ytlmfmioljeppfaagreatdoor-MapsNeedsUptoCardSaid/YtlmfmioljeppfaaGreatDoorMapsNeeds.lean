/- Lemmas; conditions: as each states. -/
import Derived.Test.YtlmfmioljeppfaaGreatDoorAcceptE
import Derived.Test.YtlmfmioljeppfaaGreatDoorShelf
import Derived.Lib.SlicesCompact
import Derived.Sort.OwnSortedInts
import Derived.Maps.RangeRun
import Derived.Test.YtlmfmioljeppfaaGreatDoorAdder
import Derived.Test.YtlmfmioljeppfaaGreatDoorRefFrames
set_option maxHeartbeats 4000000
namespace Go.Proofs.YtlmfmioljeppfaaGreatDoor
open Go.RowKit Go.Shelf Go.Lib
open Go.ChangeMaps (setBlock heap_setBlock_same heap_setBlock_other)
theorem WK.put{w:World}{D A:Nat}{hs:List Value}{M:Asg Frm}(h:WK w D A hs M){i:Nat}(I:i<=64)(f:Frm)(E F:Value)(J:zk w E F f):
 ∃o,(Instr.mapUpdate 116 (.map (some A)) (zL i) (.agg #[E,F])).run Tryz.prog w=.ok () (setBlock w A o)/\WK (setBlock w A o) D A hs (M.put i f)/\∀B:World,B.heap.size<=A->Below B.heap.size B w->Below B.heap.size B (setBlock w A o):=by
 obtain⟨R,H,C,_⟩:=h.map.ex;obtain⟨o,L,N⟩:=h.map.put I f E F J;have G:D≠A:=fun e=>by
  have:=h.box;rw[e]at this;unfold Blk at this;rw[C]at this;cases this
 exact⟨o,L,⟨(heap_setBlock_other C o G).trans h.box,h.len,N.keep rfl fun _ _ _ k=>k.keepS (qx.map C o)⟩,fun B O P=>ZaB O C o P⟩
end Go.Proofs.YtlmfmioljeppfaaGreatDoor
namespace Go.Proofs.YtlmfmioljeppfaaGreatDoor
open Go.RowKit Go.Shelf Go.Lib
def ZQ(m:qi)(i:Nat):List Nat:=(match m.code[i]? with
 |some x=>if zu x.op then [x.a.toNat] else []
 |none=>[])++((m.handlers.filter fun h=>decide (h.lo<=(i:Int))&&decide ((i:Int)<h.hi)).map fun h=>h.dest.toNat)
def ZdZ(m:qi)(F:Asg Frm)(p:Nat):Prop:=∃i,(F i).isSome=true/\p∈ZQ m i
def qcQ(m:qi)(F:Asg Frm)(ns:List Int):Prop:=ns.Pairwise (· < ·)/\∀x:Int,x∈ns↔∃p:Nat,x=(p:Int)/\ZdZ m F p
theorem qca(m:qi)(A:m.handlers.length<=8)(i:Nat):(ZQ m i).length<=9:=by
 unfold ZQ;rw[List.length_append,List.length_map];have B:=List.length_filter_le (fun h:zM=>decide (h.lo<=(i:Int))&&decide ((i:Int)<h.hi)) m.handlers;have C:(match m.code[i]? with|some x=>if zu x.op then [x.a.toNat] else []|none=>([]:List Nat)).length<=1:=by
  split
  ·split<;>simp
  ·simp
 omega
theorem Qca{A:List Int}(h:A.Pairwise (·<=·)):(compact A).Pairwise (· < ·)/\∀x,x∈compact A↔x∈A:=by
 have C:∀j (B:j<A.length),A.toArray[j]! = A[j]:=fun j B=>by simp[B]
 have H:∀i j (P:i<A.length) (B:j<A.length),i<=j->A[i]<=A[j]:=fun i j P B R=>by
  rcases Nat.lt_or_ge i j with O|V
  ·exact List.pairwise_iff_getElem.1 h i j P B O
  ·have:i=j:=(by omega);subst this;exact Int.le_refl _
 have N:∀n,n<=A.length->(compactUpTo A.toArray n).Pairwise (· < ·)/\(∀x∈compactUpTo A.toArray n,∃(j:Nat) (B:j<A.length),j<n/\x=A[j])/\∀(j:Nat) (B:j<A.length),j<n->A[j]∈compactUpTo A.toArray n:=fun n=>by
  induction n with
  |zero =>
   intro _;refine⟨?_,fun x D=>?_,fun j _ B=>absurd B (Nat.not_lt_zero _)⟩
   ·have:compactUpTo A.toArray 0=[]:=rfl;rw[this];exact List.Pairwise.nil
   ·have:compactUpTo A.toArray 0=[]:=rfl;rw[this]at D;cases D
  |succ n U =>
   intro a;have E:n<A.length:=(by omega);obtain⟨M,I,J⟩:=U (by omega);rw[compactUpTo_succ];by_cases F:keeps A.toArray n=true
   ·rw[if_pos F,C n E];refine⟨List.pairwise_append.2 ⟨M,by simp,fun x D y S=>?_⟩,fun x D=>?_,fun j B G=>?_⟩
    ·rw[List.mem_singleton.1 S];obtain⟨j,B,G,rfl⟩:=I x D;have L:n≠0:=(by omega);have X:A[n]≠A[n-1]:=fun e=>by
      unfold keeps at F;rw[decide_eq_true_eq,C n E,C (n-1) (by omega)]at F;rcases F with F|F
      ·exact L F
      ·exact F e
     have Y:=H j (n-1) B (by omega) (by omega);have Z:=H (n-1) n (by omega) E (by omega);omega
    ·rcases List.mem_append.1 D with D|D
     ·obtain⟨j,B,G,e⟩:=I x D;exact⟨j,B,by omega,e⟩
     ·exact⟨n,E,Nat.lt_succ_self _,List.mem_singleton.1 D⟩
    ·by_cases e:j=n
     ·subst e;exact List.mem_append_right _ (List.mem_singleton.2 rfl)
     ·exact List.mem_append_left _ (J j B (by omega))
   ·rw[if_neg F,List.append_nil];refine⟨M,fun x D=>?_,fun j B G=>?_⟩
    ·obtain⟨j,B,G,e⟩:=I x D;exact⟨j,B,by omega,e⟩
    ·by_cases e:j=n
     ·subst e;have L:¬(j=0\/A[j]≠A[j-1]'(by omega)):=fun T=>F (by
       unfold keeps;rw[decide_eq_true_eq,C j E,C (j-1) (by omega)];exact T)
      rw[not_or,Decidable.not_not]at L;rw[L.2];exact J (j-1) (by omega) (by omega)
     ·exact J j B (by omega)
 obtain⟨M,I,J⟩:=N A.length Xl;refine⟨M,fun x=>⟨fun D=>?_,fun D=>?_⟩⟩
 ·obtain⟨j,B,_,rfl⟩:=I x D;exact List.getElem_mem B
 ·obtain⟨j,B,rfl⟩:=List.getElem_of_mem D;exact J j B B
def QbM(T:List Nat):List Int:=compact ((T.map fun p:Nat=>(p:Int)).mergeSort fun x y=>decide (x<=y))
theorem qdc(T:List Nat):(QbM T).Pairwise (· < ·)/\∀x:Int,x∈QbM T↔∃p:Nat,x=(p:Int)/\p∈T:=by
 have A:((T.map fun p:Nat=>(p:Int)).mergeSort fun x y=>decide (x<=y)).Pairwise (·<=·):=by
  have:=List.pairwise_mergeSort (le:=fun x y:Int=>decide (x<=y)) (fun a b c A E=>by simp at A E ⊢;omega) (fun a b=>by simp;omega) (T.map fun p:Nat=>(p:Int));exact this.imp fun h=>Xm h
 obtain⟨C,D⟩:=Qca A;refine⟨C,fun x=>?_⟩;unfold QbM;rw[D,(List.mergeSort_perm _ _).mem_iff,List.mem_map];constructor
 ·rintro⟨p,B,rfl⟩;exact⟨p,rfl,B⟩
 ·rintro⟨p,rfl,B⟩;exact⟨p,B,rfl⟩
end Go.Proofs.YtlmfmioljeppfaaGreatDoor
namespace Go.Proofs.YtlmfmioljeppfaaGreatDoor
open Go.RowKit Go.Shelf Go.Lib Go.Sort
def qdZ(x:Int)(vs:List Value):Prop:=vs=[.int .i64 x]
def zax(w:World)(v:Value)(l:List Int):Prop:=Zg w 1 qdZ v l
theorem zax.mono{w w':World}{v:Value}{l:List Int}(A:Below w.heap.size w w')(h:zax w v l):zax w' v l:=Zg.mono A (by decide) (fun _ _ h=>h) h
theorem qa3{w:World}{g off n:Nat}{os:Array Obj}(d:Array Int):w.grownBy (grow (putRow (Value.int .i64) (Sort.ahead w n) g off d) os) (some g):=by
 refine⟨rfl,rfl,rfl,by simp,fun k B A=>?_⟩;rw[heap_grow_old _ _ (by simpa using B)];have:g≠k:=fun e=>A (by rw[e])
 simp[putRow,mapBlock,Sort.ahead,Array.getElem?_modify,this]
theorem zcB{w:World}{g off n:Nat}(d:Array Int):w.grownBy (putRow (Value.int .i64) (Sort.ahead w n) g off d) (some g):=by
 have:=qa3 (w:=w) (g:=g) (off:=off) (n:=n) (os:=#[]) d;rwa [grow_empty]at this
theorem ZdE{w:World}{base:Nat}{v:Value}{T:List Nat}(h:Que w base v T):(v=.slice none 0 0/\T=[])\/∃b off cap,v=.slice (some ⟨b,off,none⟩) (T.map fun p:Nat=>(p:Int)).length cap/\base<=b/\b<w.heap.size/\T.length<=cap/\cap<=maxLen/\Holds (Value.int .i64) w b off (T.map fun p:Nat=>(p:Int)).toArray:=by
 rcases h with h|⟨b,off,cap,D,rfl,E,B,F,G,I,J,H⟩
 ·exact Or.inl h
 ·refine Or.inr ⟨b,off,cap,by rw[List.length_map],E,(Array.getElem?_eq_some_iff.1 B).1,F,G,fun j C=>?_⟩;have A:j<T.length:=by simpa using C
  refine⟨?_,by simp[World.frozen?,B]⟩;have:=H j T[j] (by simp[A]);simp only[World.cell?,B];simp only[Option.isSome_none,Bool.false_eq_true,if_false];rw[this];unfold zL;simp[A]
def zcS(w:World)(base:Nat)(v:Value)(T:List Nat)(e:Ending)(w':World):Prop:=e=.returned (.tuple #[])/\w.grownBy w' v.ownBlock/\((v=.slice none 0 0/\T=[])\/∃b off cap,v=.slice (some ⟨b,off,none⟩) ((T.map fun p:Nat=>(p:Int)).mergeSort fun x y=>decide (x<=y)).length cap/\base<=b/\b<w'.heap.size/\T.length<=cap/\cap<=maxLen/\Holds (Value.int .i64) w' b off ((T.map fun p:Nat=>(p:Int)).mergeSort fun x y=>decide (x<=y)).toArray)
theorem QdZ{w:World}{base:Nat}{v:Value}{T:List Nat}(h:Que w base v T)(F:T.length<=1000000):Calls Tryz.prog 71 #[v] w (zcS w base v T):=by
 rcases ZdE h with⟨rfl,rfl⟩|⟨b,off,cap,rfl,C,A,D,E,B⟩
 ·refine(Tryz.slices_Sort_int_none none 0 w).mono ?_;rintro e w'⟨rfl,rfl⟩;exact⟨rfl,World.grownBy.refl w' _,Or.inl ⟨rfl,rfl⟩⟩
 ·refine(Tryz.slices_Sort_int b off cap _ w B A (by rw[List.length_map];omega)).mono ?_;rintro e w'⟨rfl,n,os,rfl⟩;refine⟨rfl,qa3 _,Or.inr ⟨b,off,cap,by rw[List.length_mergeSort],C,Nat.lt_of_lt_of_le A (qa3 _).size,D,E,?_⟩⟩;refine holds_grow _ _ _ _ _ _ (by simpa[Sort.ahead] using A) ?_;exact holds_putRow _ _ _ _ _ _ (holds_ahead _ _ n _ _ _ B) (by simp)
theorem ZcS(A:List Int):(compact A).length<=A.length:=by
 unfold compact compactUpTo;rw[List.length_map];exact Xf (List.length_filter_le _ _) (by simp)
def zbN(w:World)(v:Value)(T:List Nat)(e:Ending)(w':World):Prop:=∃u,e=.returned u/\zax w' u (QbM T)/\w.grownBy w' v.ownBlock
theorem qcS{w:World}{base:Nat}{v:Value}{T:List Nat}(h:(v=.slice none 0 0/\T=[])\/∃b off cap,v=.slice (some ⟨b,off,none⟩) ((T.map fun p:Nat=>(p:Int)).mergeSort fun x y=>decide (x<=y)).length cap/\base<=b/\b<w.heap.size/\T.length<=cap/\cap<=maxLen/\Holds (Value.int .i64) w b off ((T.map fun p:Nat=>(p:Int)).mergeSort fun x y=>decide (x<=y)).toArray)(M:T.length<=1000000):
 Calls Tryz.prog 72 #[v] w (zbN w v T):=by
 rcases h with⟨rfl,rfl⟩|⟨b,off,cap,rfl,N,O,J,L,G⟩
 ·refine(Tryz.slices_Compact_int_empty none 0 w).mono ?_;rintro e w'⟨rfl,rfl⟩;exact⟨_,rfl,Or.inl ⟨rfl,by simp[QbM,compact,compactUpTo]⟩,World.grownBy.refl w' _⟩
 ·have A:((T.map fun p:Nat=>(p:Int)).mergeSort fun x y=>decide (x<=y)).length=T.length:=by rw[List.length_mergeSort,List.length_map]
  refine(Tryz.slices_Compact_int b off cap _ w G (by rw[A];omega) (by rw[A];exact J)).mono ?_;rintro e w'⟨rfl,q,rfl⟩;have D:=ZcS ((T.map fun p:Nat=>(p:Int)).mergeSort fun x y=>decide (x<=y));refine⟨_,rfl,Or.inr ⟨⟨b,off,none⟩,cap,rfl,by rw[A]at D;unfold QbM;omega,L,fun i x F=>?_⟩,zcB _⟩;have H:=holds_putRow (Value.int .i64) (Sort.ahead w q) b off _ (compact ((T.map fun p:Nat=>(p:Int)).mergeSort fun x y=>decide (x<=y))++List.replicate (((T.map fun p:Nat=>(p:Int)).mergeSort fun x y=>decide (x<=y)).length-(compact ((T.map fun p:Nat=>(p:Int)).mergeSort fun x y=>decide (x<=y))).length) 0).toArray (holds_ahead _ _ q _ _ _ G) (by simp;omega);have E:i<(QbM T).length:=(List.getElem?_eq_some_iff.1 F).1;have B:i<(compact ((T.map fun p:Nat=>(p:Int)).mergeSort fun x y=>decide (x<=y))).length:=E;obtain⟨I,_⟩:=H i (by simp;omega);refine⟨[.int .i64 x],rfl,rfl,rfl,?_,trivial⟩;rw[Nat.mul_one];rw[I];have C:(compact ((T.map fun p:Nat=>(p:Int)).mergeSort fun x y=>decide (x<=y)))[i]? = some x:=F;rw[Xn B]at C;injection C with C
  congr 2;rw[getElem!_pos _ _ (by simp;omega)];simp only[List.getElem_toArray];rw[List.getElem_append_left B,C]
end Go.Proofs.YtlmfmioljeppfaaGreatDoor
namespace Go.Proofs.YtlmfmioljeppfaaGreatDoor
open Go.RowKit Go.Shelf Go.Lib
open Go.ChangeMaps (setBlock heap_setBlock_same heap_setBlock_other)
def qdE(w:World)(l:List Qb)(cls:Str)(at':Int)(e:Ending)(w':World):Prop:=Below w.heap.size w w'/\∃n F,za9 l cls at' n F/\match F with
 |none=>n≠0/\e=.returned (.tuple #[.slice none 0 0,.iface 29 (.int .i64 n)])
 |some (m,A)=>∃v ns,e=.returned (.tuple #[v,.nilIface])/\zax w' v ns/\qcQ m A ns
structure Qae (we w:World) (mb clock:Nat) (seen:Array Nat) (v:Value) (T:List Nat):Prop where
 below:Below we.heap.size we w
 iter:w.heap[we.heap.size]? = some (.mapIter (some mb) clock seen clock)
 que:Que w we.heap.size v T
theorem Qae.size{C w:World}{D A:Nat}{B:Array Nat}{v:Value}{T:List Nat}(h:Qae C w D A B v T):C.heap.size<w.heap.size:=(Array.getElem?_eq_some_iff.1 h.iter).1
theorem Qae.step{D w w':World}{E A:Nat}{B:Array Nat}{v:Value}{T:List Nat}(h:Qae D w E A B v T)(C:Below w.heap.size w w'):Qae D w' E A B v T :=
 ⟨Qa h.below Xl C,(C.block _ h.size).trans h.iter,h.que.keep fun g F=>C.block g (h.que.lt g F).2⟩
theorem Qae.ne{C w:World}{E A:Nat}{B:Array Nat}{v:Value}{T:List Nat}(h:Qae C w E A B v T):v.ownBlock≠some C.heap.size:=fun e=>by
 rcases h.que with⟨rfl,_⟩|⟨b,off,cap,F,rfl,_,D,_⟩
 ·cases e
 ·have e:b=C.heap.size:=Option.some.inj e;rw[e,h.iter]at D;cases D
theorem Qae.next{C w:World}{G A:Nat}{E:Array Nat}{v:Value}{T:List Nat}(h:Qae C w G A E v T){D:World}(J:D=w\/D=w.drew)(B:Array Nat):Qae C (setBlock D C.heap.size (.mapIter (some G) A B A)) G A B v T:=by
 have L:D.heap=w.heap:=by rcases J with rfl|rfl<;>rfl
 have M:D.heap[C.heap.size]? = some (.mapIter (some G) A E A):=by rw[L];exact h.iter
 have H:Below C.heap.size C D:=by
  rcases J with rfl|rfl
  ·exact h.below
  ·exact h.below.drew
 have F:∀k,k≠C.heap.size->(setBlock D C.heap.size (.mapIter (some G) A B A)).heap[k]? = D.heap[k]?:=fun k I=>by
  simp only[setBlock];rw[Array.getElem?_setIfInBounds_ne (fun e=>I e.symm)]
 have hs:C.heap.size<D.heap.size:=(Array.getElem?_eq_some_iff.1 M).1;refine⟨⟨H.os,H.tape,H.output,by simpa[setBlock] using H.size,fun k I=>(F k (by omega)).trans (H.block k I)⟩,?_,h.que.keep fun g N=>?_⟩
 ·simp only[setBlock];rw[Array.getElem?_setIfInBounds_self_of_lt hs]
 ·rw[F g fun e=>h.ne (by rw[N,e]),L]
theorem Qae.app{C w w':World}{D A:Nat}{B:Array Nat}{v E:Value}{T F:List Nat}(h:Qae C w D A B v T)(G:w.grownBy w' v.ownBlock)(H:Que w' C.heap.size E F):Qae C w' D A B E F :=
 ⟨h.below.grown G h.below.size fun k e=>(h.que.lt k e).1,(G.block _ h.size fun e=>h.ne e.symm).trans h.iter,H⟩
theorem QcS:∀(n:Nat) (l:List Nat),l.Nodup->(∀x∈l,x<n)->l.length<=n
 |0,[],_,_=>Xl
 |0,x::_,_,h=>absurd (h x (List.mem_cons_self ..)) (Nat.not_lt_zero _)
 |n+1,l,B,h=>by
  have D:=QcS n (l.erase n) (B.erase n) fun x C=>by
   have A:=(B.mem_erase_iff).1 C;have:=h x A.2;have:=A.1;omega
  have E:l.length<=(l.erase n).length+1:=by
   rw[List.length_erase];split<;>omega
  omega
theorem zcT{A:List MapEntry}{n:Nat}(H:(A.map (·.key)).Nodup)(h:∀e∈A,∃i,i<n/\e.key=zL i):A.length<=n:=by
 have E:∀A:List MapEntry,(∀e∈A,∃i,i<n/\e.key=zL i)->∃B:List Nat,A.map (·.key)=B.map zL/\∀i∈B,i<n:=fun A=>by
  induction A with
  |nil=>exact fun _=>⟨[],rfl,fun i F=>by cases F⟩
  |cons e r J =>
   intro h;obtain⟨i,F,I⟩:=h e (List.mem_cons_self ..);obtain⟨B,D,G⟩:=J fun x C=>h x (List.mem_cons_of_mem _ C)
   exact⟨i::B,by rw[List.map_cons,List.map_cons,I,D],fun x C=>by
    rcases List.mem_cons.1 C with rfl|C
    ·exact F
    ·exact G x C⟩
 obtain⟨B,D,G⟩:=E A h;rw[D]at H;have:=QcS n B ((List.pairwise_map.1 H).imp fun h e=>h (by rw[e])) G;have L:A.length=B.length:=by
  have:=congrArg List.length D;simpa using this
 omega
def qef(e:MapEntry):Nat:=match e.key with
 |.int _ n=>n.toNat
 |_=>0
theorem QbF{e:MapEntry}{i:Nat}(h:e.key=zL i):qef e=i:=by
 unfold qef;rw[h];unfold zL;simp
def ZcT(m:qi)(es:Array MapEntry)(seen:Array Nat)(T:List Nat):Prop:=∀p,p∈T↔∃e∈es.toList,seen.contains e.born=true/\p∈ZQ m (qef e)
theorem Qdc(m:qi)(A:Array MapEntry):ZcT m A #[] []:=fun p=>by
 constructor
 ·intro h;cases h
 ·rintro⟨e,_,h,_⟩;simp at h
theorem zdd{m:qi}{C:Array MapEntry}{A:Array Nat}{T:List Nat}{e:MapEntry}(G:(C.toList.map (·.born)).Nodup)(H:e∈C.toList)(h:ZcT m C A T):ZcT m C (A.push e.born) (T++ZQ m (qef e)):=fun p=>by
 rw[List.mem_append,h p];constructor
 ·rintro(⟨x,F,B,D⟩|D)
  ·exact⟨x,F,by rw[contains_push,B];rfl,D⟩
  ·exact⟨e,H,by rw[contains_push,beq_self_eq_true,Bool.or_true],D⟩
 ·rintro⟨x,F,B,D⟩;rw[contains_push,Bool.or_eq_true]at B;rcases B with B|B
  ·exact Or.inl ⟨x,F,B,D⟩
  ·have I:x.born=e.born:=beq_iff_eq.1 B;have:=find_born e C.toList G H;have E:=find_born x C.toList G F;rw[I]at E;rw[this]at E;injection E with E
   subst E;exact Or.inr D
theorem Zdd{m:qi}{C:Array MapEntry}{B:Array Nat}{T:List Nat}{A:Asg Frm}(F:(leftOf C B).size=0)(h:ZcT m C B T)(G:∀e∈C.toList,∃i f,e.key=zL i/\A i=some f)(H:∀i f,A i=some f->∃e∈C.toList,e.key=zL i)(p:Nat):p∈T↔ZdZ m A p:=by
 rw[h p];constructor
 ·rintro⟨e,D,_,E⟩;obtain⟨i,f,L,M⟩:=G e D;rw[QbF L]at E;exact⟨i,by rw[M];rfl,E⟩
 ·rintro⟨i,P,E⟩;obtain⟨f,N⟩:=Option.isSome_iff_exists.1 P;obtain⟨e,D,O⟩:=H i f N;refine⟨e,D,?_,by rw[QbF O];exact E⟩;cases J:B.contains e.born with
  |true=>rfl
  |false =>
   have:e∈leftOf C B:=Array.mem_filter.2 ⟨Array.mem_toList_iff.1 D,by rw[J];rfl⟩;have I:leftOf C B=#[]:=Array.eq_empty_of_size_eq_zero F;rw[I]at this;simp at this
set_option maxRecDepth 100000
theorem Zch(l:List Qb)(lv:Value)(cls:Str)(at':Int)(w:World)(hl:QaB w)(ho:∀c∈l,qab c)(hlv:qj w lv l):
 Calls Tryz.prog 33 #[lv,.string cls,.int .i64 at'] w (qdE w l cls at'):=by
 have HNm:=Xh (Zck l lv cls at' w hl ho hlv);obtain⟨pl,cap,rfl,hpo⟩:=hlv.open;clear hpo;have HO:=Xh ho;have HA:Hid (∀(wx:World) (o:Obj),Below wx.heap.size wx (wx.alloc o)):=fun wx o=>Xb.alloc Xl o
 clear hl ho hlv;unfold Qbx Zn at HNm;by_cases hz:qD l cls at'=0
 ·have HZ:=Xh hz;clear hz;go_enter Tryz.func33,Tryz.ntmps33;go_upto_region 2 with(go_fit (HNm.out);rintro e w2⟨Y,⟨_,m,ws,B,v,hnm,hab,rfl,⟨pc,kc,ph,kh,rfl,hcv,hhv⟩,hM⟩|⟨hz,_⟩⟩;rotate_left;(exact absurd HZ.out hz))
  obtain⟨c,hc,hcn,hmc⟩:=zaC hnm;have hmo:=(HO.out c hc).methods m hmc;have hcl:cls.size<=1048576:=by rw[<-hcn];exact(HO.out c hc).name
  obtain⟨args,g,S,hG⟩:=zby (hM.faults c hc) hmc hab.out;have L:=Blk.new w2 53 [.string m.name,.string m.type,.bool m.static,.bool m.abs,.bool m.priv,.int .i64 m.locals,.slice pc m.code.length kc,.slice ph m.handlers.length kh];have B3:Below w.heap.size w (w2.alloc (.cells #[.string m.name,.string m.type,.bool m.static,.bool m.abs,.bool m.priv,.int .i64 m.locals,.slice pc m.code.length kc,.slice ph m.handlers.length kh] 53)):=Y.alloc Y.size _;have M3:=hM.step (HA.out w2 (.cells #[.string m.name,.string m.type,.bool m.static,.bool m.abs,.bool m.priv,.int .i64 m.locals,.slice pc m.code.length kc,.slice ph m.handlers.length kh] 53));generalize w2.alloc (.cells #[.string m.name,.string m.type,.bool m.static,.bool m.abs,.bool m.priv,.int .i64 m.locals,.slice pc m.code.length kc,.slice ph m.handlers.length kh] 53)=w3 at *;have j:=Xh (qdb l B ws w3 M3 m cls g args S pc ph kc kh hG hmo hcl (hcv.mono B3 (by decide) (fun _ _ h=>h)) (hhv.mono B3 (by decide) (fun _ _ h=>h)));have HG:=Xh hG;have O:=Xh (And.intro hnm hab.out);have Hcv:=Xh hcv;have Hhv:=Xh hhv;have HB3:=Xh B3;have Hk3:=Xh L;have m0:=L.cell 0;have m1:=L.cell 1;have m2:=L.cell 2;have m3:=L.cell 3;have m4:=L.cell 4;have m5:=L.cell 5;have m6:=L.cell 6;have m7:=L.cell 7;unfold qb7 at j;clear hnm hab hM hcv hhv Y hc hcn hmc hmo hcl hG L B3 M3 HO HNm;by_cases hex:∃A,QD (Za l) cls g m (QP cls m.static args S) (some A)
  ·have HEx:=Xh hex;clear hex;go_upto_region 8 with(go_fit (j.out);rintro e G⟨Z,⟨F,N,hF,rfl,hFm⟩|⟨hF,_⟩⟩;rotate_left;(exact absurd HEx.out (fun⟨A,t,k2⟩=>hF t A k2.1)))
   have n:=Xh (Qa HB3 Xl Z);have HFF:=Xh hF;have HCo:=Xh (zO HG.out.code);have HHo:=Xh (qL HG.out.hands);have hlen40:=(zO HG.out.code).small;have hlen8:m.handlers.length<=8:=(qL HG.out.hands).1;have Hoks:Hid (∀i f,F i=some f->i<m.code.length/\Qx (Za l) f=0):=fun i f e=>hF.2.1.1 i f e
   obtain⟨I,C,e1,e2,e3,e4,e5,e6⟩:=hFm.ex;have Hmb:=Xh e1;have hmlt:N<G.heap.size:=hFm.lt;have He5:=Xh e5;have He6:=Xh e6;have He3:Hid (∀e∈I.toList,∃i f lv sv,e.key=zL i/\e.val=.agg #[lv,sv]/\F i=some f):=fun e he=>by
    obtain⟨i,f,lv,sv,_,t,k2,L,_⟩:=e3 e he;exact⟨i,f,lv,sv,t,k2,L⟩
   have He4:=Xh e4;have hes:I.toList.length<=40:=Xf (zcT e2 fun e he=>by
    obtain⟨i,f,_,_,_,t,_,L,_⟩:=e3 e he;exact⟨i,(Hoks.out i f L).1,t⟩) hlen40
   have H:=fun(wx:World) (hx:wx.heap[N]? = some (.map I C))=>run_range_map (P:=Tryz.prog) wx 116 3 27 N I C Za0 hx
   have hr4:=H G e1;have HN0:Hid (Qae G (G.alloc (.mapIter (some N) C #[] C)) N C #[] (.slice none 0 0) []):=⟨HA.out _ _,heap_alloc_new _ _,Que.empty _ _⟩;have hl0:Hid (9*(leftOf I #[]).size<=9*40):=by
    have:(leftOf I #[]).size<=I.size:=(by unfold leftOf;exact Array.size_filter_le);have h2:I.size=I.toList.length:=(by simp);unfold Hid;omega
   have kq:Hid (∀wx,Below G.heap.size G wx->Blk wx w2.heap.size 53 [.string m.name,.string m.type,.bool m.static,.bool m.abs,.bool m.priv,.int .i64 m.locals,.slice pc m.code.length kc,.slice ph m.handlers.length kh]):=fun wx hb=>(Hk3.out.step Z).step hb
   clear e1 e2 e3 e4 e5 e6 hF hFm Z m0 m1 m2 m3 m4 m5 m6 m7 j H hes;go_wp2_with fail;clear hr4;go_loopw [13] (fun y wr=>∃(D:Array Nat) (T:List Nat),Hid (Qae G wr N C D y T)/\Hid (ZcT m I D T)/\Hid (T.length+9*(leftOf I D).size<=360)) (fun _ wr=>(leftOf I (wr.iterSeen G.heap.size)).size)
   case atStart=>exact⟨#[],[],HN0,Qdc m I,by have:=hl0.out;unfold Hid;simp only[List.length_nil];omega⟩
   case round =>
    obtain⟨D,T,hN,hS,hL⟩:=hrel;have hbm:wr.heap[N]? = some (.map I C):=(hN.out.below.block N hmlt).trans Hmb.out;have law:=run_next_at (P:=Tryz.prog) wr 0 G.heap.size N C C D I C hN.out.iter hbm He6.out Xl;rcases law with⟨h0,E⟩|⟨e,he,w5,hal,E⟩
    ·have hnx:∀ty,(Instr.next (.pointer (some ⟨G.heap.size,0,none⟩)) false ty).run Tryz.prog wr=_:=fun _=>E
     obtain⟨va,vc,rfl⟩:=ZaA hN.out.que;have HSo:=Xh (QdZ hN.out.que (by have:=hL.out;omega));have HT:Hid (∀p,p∈T↔ZdZ m F p):=Zdd h0 hS.out (fun e he=>by
      obtain⟨i,f,_,_,t,_,L⟩:=He3.out e he;exact⟨i,f,t,L⟩) He4.out
     unfold zcS at HSo;have HL:=Xh (show T.length<=1000000 by have:=hL.out;omega);clear E h0 hbm;go_upto_region 21 with(go_fit (HSo.out);rintro e w6⟨rfl,hg6,hQ6⟩)
     have HCp:=Xh (qcS hQ6 HL.out);have hb6:=hN.out.below.grown hg6 hN.out.below.size (fun k e=>(hN.out.que.lt k e).1);have HB6:=Xh hb6;unfold zbN at HCp;clear hQ6 hg6 hb6;go_wp2_with (go_fit (HCp.out);rintro e w7⟨u,rfl,hu,hg7⟩)
     have hB7:=HB6.out.grown hg7 HB6.out.size (fun k e=>(hN.out.que.lt k e).1);go_ret2;obtain⟨z1,z2⟩:=qdc T;exact⟨Qa n Xl hB7,0,some (m,F),Or.inr ⟨HZ,m,args,g,S,O.out.1,O.out.2,HG,some F,HFF,rfl,rfl⟩,u,QbM T,rfl,hu,z1,fun x=>(z2 x).trans ⟨fun⟨p,t,k2⟩=>⟨p,t,(HT.out p).1 k2⟩,fun⟨p,t,k2⟩=>⟨p,t,(HT.out p).2 k2⟩⟩⟩
    ·obtain⟨hem,hes'⟩:=mem_left he;obtain⟨i,f,lv,sv,hk,hv,hFi⟩:=He3.out e hem;have M:=hN.out.next hal (D.push e.born);have hb2:=(M.below.block N hmlt).trans Hmb.out;have hen:=run_entry_at (P:=Tryz.prog) _ G.heap.size N C D I C e M.iter hb2 hem He5.out;rw[hk,hv,zL]at E hen;obtain⟨wn,hwn⟩:∃wn,wn=setBlock w5 G.heap.size (.mapIter (some N) C (D.push e.born) C):=⟨_,rfl⟩;rw[<-hwn]at E hen M;clear hwn;have hnx:∀ty,(Instr.next (.pointer (some ⟨G.heap.size,0,none⟩)) false ty).run Tryz.prog wr=_:=fun _=>E
     have hin:=(Hoks.out i f hFi).1;obtain⟨x,hx⟩:∃x,m.code[i]? = some x:=⟨m.code[i],by simp[hin]⟩;have hxm:=Xe hx;obtain⟨b0,o,cap,vs,e',hxv,hvl,qc⟩:=Hcv.out.at hin;injection e' with e1 _ e2
     subst e1 e2;rw[show m.code[i]=x from Option.some.inj ((Xn hin).symm.trans hx)]at hxv;unfold Zw at hxv;subst hxv;have Bn:=Qa n Xl M.below;have qc:=qc.mono Bn qc.lt;have Hxj:=Xh (HCo.out.jumps x hxm);have hS2:=zdd (m:=m) He5.out hem hS.out;rw[QbF hk]at hS2;have HS2:=Xh hS2;have hlen:Hid ((T++ZQ m i).length+9*(leftOf I (D.push e.born)).size<=360):=by
      have h1:=left_shrinks I D e he;have h2:=qca m hlen8 i;have h3:=hL.out;unfold Hid;rw[List.length_append];omega
     have hTl:T.length<=360:=(by have:=hL.out;omega);have HLeft:Hid ((leftOf I (D.push e.born)).size<(leftOf I D).size):=left_shrinks I D e he;have hPn:Hid (ZQ m i=(if zu x.op then [x.a.toNat] else [])++((m.handlers.filter fun h=>decide (h.lo<=(i:Int))&&decide ((i:Int)<h.hi)).map fun h=>h.dest.toNat)):=by
      unfold Hid ZQ;rw[hx]
     have HIt:Hid (wr.iterSeen G.heap.size=D):=by
      unfold Hid World.iterSeen;rw[hN.out.iter]
     obtain⟨op,xa,xb,aA,aB,aC⟩:=x;obtain⟨c0,c1,c2,c3,c4,c5,_⟩:=qc;have kn:=kq.out wn M.below;have m6:=kn.cell 6;have Ba:=HA.out wn (.cells #[.int .i64 op,.int .i64 xa,.int .i64 xb,.string aA,.string aB,.string aC] 24);have kx:=Blk.new wn 24 [.int .i64 op,.int .i64 xa,.int .i64 xb,.string aA,.string aB,.string aC];have HN3:=Xh (M.step Ba);have hinI:(i:Int)<(m.code.length:Int):=(by omega);have hi0:(0:Int)<=(i:Int):=Int.natCast_nonneg _;have HJ:Hid (∀wx,_):=fun wx=>qaz op wx
     have hi64:i<=40:=(by omega);dsimp only at Hxj hPn;clear he hal hem hes' hk hv hFi hb2 hS2 hx hxm Bn kn M hbm E hin hvl;go_upto_region 12 with fail;obtain⟨wx,hwx⟩:∃wx,wx=wn.alloc (.cells #[.int .i64 op,.int .i64 xa,.int .i64 xb,.string aA,.string aB,.string aC] 24):=⟨_,rfl⟩;rw[<-hwx]at kx HN3 Ba;rw[<-hwx];have x0:=kx.cell 0;have x1:=kx.cell 1;clear hen hnx c0 c1 c2 c3 c4 c5 m6 hwx Ba;obtain⟨bj,hbj⟩:∃b,zu op=b:=⟨_,rfl⟩;rw[hbj]at HJ hPn;have Hbj:=Xh hbj;clear hbj;obtain⟨J,hJ⟩:∃J,(if bj then [xa.toNat] else [])=J:=⟨_,rfl⟩;have HJl:=Xh hJ;rw[hJ]at hPn;clear hJ;go_upto_if 52 with(first|(go_fit (HJ.out _);rintro e w6⟨rfl,rfl⟩))
     go_cut [13] from 53 to 57 (fun y wy=>Qae G wy N C (D.push e.born) y (T++J))
     case first =>
      cases bj with
      |true =>
       have V:=HJl.out;rw[if_pos rfl]at V;obtain⟨hx0,_⟩:=Hxj.out Hbj.out;(try dsimp only at hx0)
       obtain⟨d,rfl⟩:=Int.eq_ofNat_of_zero_le hx0;rw[Int.toNat_natCast]at V;subst V;have HN4:=Xh (HN3.out.step (HA.out _ (.cells #[.int .i64 (d:Int)] 3)));have hbs:G.heap.size<=(wx.alloc (.cells #[.int .i64 (d:Int)] 3)).heap.size:=HN4.out.below.size;have hce:=zaA wx (.int .i64 (d:Int)) 3;have q:(wx.alloc (.cells #[.int .i64 (d:Int)] 3)).cell? ((⟨wx.heap.size,0,none⟩:Addr).add 0)=some (zL d):=hce 0 _ rfl;have h63:T.length+1<=maxLen:=(by unfold maxLen;omega);have h56:(T.length+1)*8<=140737488355328:=(by omega);have hq4:=HN4.out.que;clear hce hx0;go_wp2_with (at_builtin;go_must (refine qC rfl _ _ rfl G.heap.size _ T rfl hq4 hbs d ⟨wx.heap.size,0,none⟩ 1 rfl q h63 h56 ?_);intro v9 w9 aF aG _;(have HR9:=Xh aF);(have Hg9:=Xh aG);clear aF aG)
       go_meet;exact HN4.out.app Hg9.out HR9.out
      |false =>
       have V:=HJl.out;rw[if_neg (by decide)]at V;subst V;go_wp2_with fail;go_meet;rw[List.append_nil];exact HN3.out
     case rest =>
      have HN5:=Xh hcut;have hTJ:(T++J).length<=361:=by
       rw[List.length_append,<-HJl.out];split<;>simp<;>omega
      clear hcut x0 x1;have m7:=(kq.out _ HN5.out.below).cell 7;go_wp2_with fail;clear m7;go_loopw [13,61] (fun y z wy=>∃(k:Nat) (U:List Nat),k<=m.handlers.length/\z=.int .i64 (k:Int)/\Hid (Qae G wy N C (D.push e.born) y U)/\Hid (U=(T++J)++((m.handlers.take k).filter fun h=>decide (h.lo<=(i:Int))&&decide ((i:Int)<h.hi)).map fun h=>h.dest.toNat)) (fun _ z _=>m.handlers.length-(intOf z).toNat)
      case atStart=>exact⟨0,T++J,Nat.zero_le _,rfl,HN5,by unfold Hid;simp⟩
      case round =>
       obtain⟨k,U,hk,rfl,hN6,hT2⟩:=hrel;by_cases hkl:k<m.handlers.length
       ·obtain⟨h,hh⟩:∃x,m.handlers[k]? = some x:=⟨m.handlers[k],by simp[hkl]⟩;obtain⟨b0,o,cap,vs,e',aD,hvl,qc⟩:=Hhv.out.at hkl;injection e' with e1 _ e2
        subst e1 e2;rw[show m.handlers[k]=h from Option.some.inj ((Xn hkl).symm.trans hh)]at aD;unfold Qt at aD;subst aD;have qc:=qc.mono (Qa n Xl hN6.out.below) qc.lt;have hT2l:U.length<=369:=by
         have h1:=List.length_filter_le (fun h:zM=>decide (h.lo<=(i:Int))&&decide ((i:Int)<h.hi)) (m.handlers.take k);have h2:=hT2.out;rw[h2,List.length_append,List.length_map];rw[List.length_take]at h1;omega
        have Zc:Hid (((m.handlers.take (k+1)).filter fun h=>decide (h.lo<=(i:Int))&&decide ((i:Int)<h.hi)).map (fun h=>h.dest.toNat)=(((m.handlers.take k).filter fun h=>decide (h.lo<=(i:Int))&&decide ((i:Int)<h.hi)).map fun h=>h.dest.toNat)++(if (decide (h.lo<=(i:Int))&&decide ((i:Int)<h.hi))=true then [h.dest.toNat] else [])):=by
         unfold Hid;rw[List.take_add_one,hh,List.filter_append,List.map_append];congr 1;cases hc:(decide (h.lo<=(i:Int))&&decide ((i:Int)<h.hi))<;>simp[hc]
        obtain⟨_,_,ho3,ho4,_⟩:=HHo.out.2 h (Xe hh);obtain⟨lo,X,dest,aE⟩:=h;dsimp only at Zc ho3 ho4;obtain⟨d,rfl⟩:=Int.eq_ofNat_of_zero_le ho3;obtain⟨c0,c1,c2,c3,_⟩:=qc;have Ba:=HA.out wr (.cells #[.int .i64 lo,.int .i64 X,.int .i64 (d:Int),.string aE] 126);have r:=Blk.new wr 126 [.int .i64 lo,.int .i64 X,.int .i64 (d:Int),.string aE];have HN7:=Xh (hN6.out.step Ba);have hkI:(k:Int)<(m.handlers.length:Int):=(by omega);have hk0:(0:Int)<=(k:Int):=Int.natCast_nonneg _;clear hh hvl ho3 ho4;go_upto_region 17 with fail;obtain⟨wh,hwh⟩:∃wh,wh=wr.alloc (.cells #[.int .i64 lo,.int .i64 X,.int .i64 (d:Int),.string aE] 126):=⟨_,rfl⟩;rw[<-hwh]at r HN7 Ba;rw[<-hwh];have y0:=r.cell 0;have y1:=r.cell 1;have y2:=r.cell 2;clear c0 c1 c2 c3 r Ba hwh;by_cases H:lo<=(i:Int)/\(i:Int)<X
        ·have s:=Zc.out;rw[Xj H.1,Xj H.2,Bool.and_self,if_pos rfl,Int.toNat_natCast]at s;have HT3:Hid (U++[d]=(T++J)++((m.handlers.take (k+1)).filter fun h=>decide (h.lo<=(i:Int))&&decide ((i:Int)<h.hi)).map fun h=>h.dest.toNat):=by
          unfold Hid;rw[s,<-List.append_assoc,<-hT2.out]
         have HN8:=Xh (HN7.out.step (HA.out _ (.cells #[.int .i64 (d:Int)] 3)));have hbs:G.heap.size<=(wh.alloc (.cells #[.int .i64 (d:Int)] 3)).heap.size:=HN8.out.below.size;have q:(wh.alloc (.cells #[.int .i64 (d:Int)] 3)).cell? ((⟨wh.heap.size,0,none⟩:Addr).add 0)=some (zL d):=zaA wh (.int .i64 (d:Int)) 3 0 _ rfl;have h63:U.length+1<=maxLen:=(by unfold maxLen;omega);have h56:(U.length+1)*8<=140737488355328:=(by omega);have hq4:=HN8.out.que;obtain⟨hg1,hg2⟩:=H;clear s Zc;go_wp2_with (at_builtin;go_must (refine qC rfl _ _ rfl G.heap.size _ U rfl hq4 hbs d ⟨wh.heap.size,0,none⟩ 1 rfl q h63 h56 ?_);intro v9 w9 aF aG _;(have HR9:=Xh aF);(have Hg9:=Xh aG);clear aF aG)
         go_roundw;case rel=>exact⟨k+1,U++[d],by omega,by simp,HN8.out.app Hg9.out HR9.out,HT3⟩
         case measure=>simp[intOf];omega
        ·have R:(decide (lo<=(i:Int))&&decide ((i:Int)<X))=false:=by
          rw[Bool.and_eq_false_iff,decide_eq_false_iff_not,decide_eq_false_iff_not];by_cases h1:lo<=(i:Int)
          ·exact Or.inr fun h2=>H ⟨h1,h2⟩
          ·exact Or.inl h1
         have HT3:Hid (U=(T++J)++((m.handlers.take (k+1)).filter fun h=>decide (h.lo<=(i:Int))&&decide ((i:Int)<h.hi)).map fun h=>h.dest.toNat):=by
          have s:=Zc.out;unfold Hid;rw[s,R,if_neg (by decide),List.append_nil];exact hT2.out
         clear Zc R;by_cases h1:lo<=(i:Int)
         ·have h2:¬(i:Int)<X:=fun h2=>H ⟨h1,h2⟩
          clear H;go_wp2_with fail;go_roundw;case rel=>exact⟨k+1,U,by omega,by simp,HN7,HT3⟩
          case measure=>simp[intOf];omega
         ·clear H;go_wp2_with fail;go_roundw;case rel=>exact⟨k+1,U,by omega,by simp,HN7,HT3⟩
          case measure=>simp[intOf];omega
       ·obtain rfl:k=m.handlers.length:=(by omega);have hTe:Hid (U=T++ZQ m i):=by
         unfold Hid;rw[hT2.out,List.take_length,hPn,List.append_assoc]
        go_wp2_with fail;go_roundw;case rel =>
         exact⟨D.push e.born,U,hN6,by unfold Hid;rw[hTe.out];exact HS2.out,by unfold Hid;rw[hTe.out];exact hlen.out⟩
        case measure =>
         have h9:wr.iterSeen G.heap.size=D.push e.born:=by
          unfold World.iterSeen;rw[hN6.out.iter]
         rw[h9,HIt.out];exact HLeft.out
  ·have HEx:=Xh hex;clear hex;go_upto_region 5 with(go_fit (j.out);rintro e G⟨Z,⟨F,N,hF,_⟩|⟨hF,rfl⟩⟩;(exact absurd ⟨F,hF⟩ HEx.out))
   have HFF:=Xh hF;have n:=Xh (Qa HB3 Xl Z);clear hF Z m0 m1 m2 m3 m4 m5 m6 m7 j;go_wp2_with fail;go_ret2;exact⟨n,7,none,Or.inr ⟨HZ,m,args,g,S,O.out.1,O.out.2,HG,none,HFF,rfl,rfl⟩,by decide,rfl⟩
 ·have HZ:=Xh hz;clear hz;go_enter Tryz.func33,Tryz.ntmps33;go_wp2_with (go_fit (HNm.out);rintro e w2⟨Y,⟨hz,_⟩|⟨_,rfl⟩⟩;(exact absurd hz HZ.out))
  go_ret2;exact⟨Y.alloc Y.size _,_,none,Or.inl ⟨HZ,rfl,rfl⟩,HZ,rfl⟩
set_option maxRecDepth 512
end Go.Proofs.YtlmfmioljeppfaaGreatDoor
namespace Go.Proofs.YtlmfmioljeppfaaGreatDoor
open Go.RowKit Go.Shelf Go.Lib
def ZbD(m:qi)(at' i:Nat):Bool:=match m.code[i]? with
 |some x=>zu x.op&&decide (x.a=(at':Int))
 |none=>false
def ZaJ(at' i:Nat)(h:zM):Bool:=decide (h.dest=(at':Int))&&decide (h.lo<=(i:Int))&&decide ((i:Int)<h.hi)
def Qa2(m:qi)(A:Asg Frm)(at' i:Nat):Bool:=(A i).isSome&&(ZbD m at' i||m.handlers.any (ZaJ at' i))
def qbD(m:qi)(A:Asg Frm)(at':Nat):Bool:=(List.range m.code.length).any (Qa2 m A at')
def Qap(m:qi)(A:Asg Frm)(n:Nat):List Nat:=(List.range n).filter (qbD m A)
theorem Qdb(m:qi)(A:Asg Frm)(n:Nat):Qap m A (n+1)=if qbD m A n then Qap m A n++[n] else Qap m A n:=by
 unfold Qap;rw[List.range_succ,List.filter_append];cases h:qbD m A n<;>simp[h]
theorem qdC(m:qi)(A:Asg Frm)(n:Nat):(Qap m A n).length<=n:=by
 have:=List.length_filter_le (qbD m A) (List.range n);rwa [List.length_range]at this
theorem zdX{α:Type}{f:α->Bool}{l:List α}{k:Nat}{x:α}(h:l[k]? = some x):(l.take (k+1)).any f=((l.take k).any f||f x):=by
 rw[List.take_add_one,h,List.any_append];simp
theorem QdC{f:Nat->Bool}(n:Nat):(List.range (n+1)).any f=((List.range n).any f||f n):=by
 rw[List.range_succ,List.any_append];simp
theorem Qb7:∀{a b:List Int},a.Pairwise (· < ·)->b.Pairwise (· < ·)->(∀x,x∈a↔x∈b)->a=b
 |[],[],_,_,_=>rfl
 |[],y::b,_,_,h=>by simpa using(h y).2 (List.mem_cons_self ..)
 |x::a,[],_,_,h=>by simpa using(h x).1 (List.mem_cons_self ..)
 |x::a,y::b,F,G,h=>by
  obtain⟨A,D⟩:=List.pairwise_cons.1 F;obtain⟨B,E⟩:=List.pairwise_cons.1 G;have e:x=y:=by
   rcases List.mem_cons.1 ((h x).1 (List.mem_cons_self ..)) with e|e
   ·exact e
   ·rcases List.mem_cons.1 ((h y).2 (List.mem_cons_self ..)) with g|g
    ·exact g.symm
    ·have:=A y g;have:=B x e;omega
  subst e;rw[Qb7 D E fun z=>⟨fun C=>?_,fun C=>?_⟩]
  ·rcases List.mem_cons.1 ((h z).1 (List.mem_cons_of_mem _ C)) with e|e
   ·have:=A z C;omega
   ·exact e
  ·rcases List.mem_cons.1 ((h z).2 (List.mem_cons_of_mem _ C)) with e|e
   ·have:=B z C;omega
   ·exact e
theorem zdD{m:qi}{A:Asg Frm}{a b:List Int}(h:qcQ m A a)(k:qcQ m A b):a=b:=Qb7 h.1 k.1 fun x=>(h.2 x).trans (k.2 x).symm
theorem zb8{m:qi}(D:qo m.code=0)(E:zl m.handlers m.code.length=0){A:Asg Frm}{p i:Nat}:Qa2 m A p i=true↔(A i).isSome=true/\p∈ZQ m i:=by
 unfold Qa2 ZQ;rw[Bool.and_eq_true,Bool.or_eq_true];refine and_congr_right fun _=>?_
 rw[List.mem_append];refine or_congr ?_ ?_
 ·unfold ZbD;cases F:m.code[i]? with
  |none=>simp
  |some x =>
   dsimp only;cases G:zu x.op with
   |false=>simp
   |true =>
    have H:=((zO D).jumps x (Xe F) G).1;rw[Bool.true_and,decide_eq_true_eq,if_pos rfl,List.mem_singleton];omega
 ·rw[List.any_eq_true];constructor
  ·rintro⟨h,B,C⟩;unfold ZaJ at C;rw[Bool.and_eq_true,Bool.and_eq_true,decide_eq_true_eq,decide_eq_true_eq,decide_eq_true_eq]at C;exact List.mem_map.2 ⟨h,List.mem_filter.2 ⟨B,by rw[Bool.and_eq_true,decide_eq_true_eq,decide_eq_true_eq];exact⟨C.1.2,C.2⟩⟩,by rw[C.1.1];rfl⟩
  ·intro C;obtain⟨h,B,rfl⟩:=List.mem_map.1 C;rw[List.mem_filter,Bool.and_eq_true,decide_eq_true_eq,decide_eq_true_eq]at B;obtain⟨_,_,I,_⟩:=(qL E).2 h B.1;refine⟨h,B.1,?_⟩;unfold ZaJ;rw[Bool.and_eq_true,Bool.and_eq_true,decide_eq_true_eq,decide_eq_true_eq,decide_eq_true_eq];exact⟨⟨by omega,B.2.1⟩,B.2.2⟩
theorem zch{m:qi}(A:qo m.code=0)(B:zl m.handlers m.code.length=0){p i:Nat}(h:p∈ZQ m i):p<m.code.length:=by
 unfold ZQ at h;rcases List.mem_append.1 h with h|h
 ·split at h
  ·rename_i x D;split at h
   ·rename_i E;obtain⟨F,G⟩:=(zO A).jumps x (Xe D) E;rw[List.mem_singleton]at h;omega
   ·cases h
  ·cases h
 ·obtain⟨y,C,rfl⟩:=List.mem_map.1 h;obtain⟨_,_,H,I⟩:=(qL B).2 y (List.mem_filter.1 C).1;omega
theorem zef{m:qi}(B:qo m.code=0)(C:zl m.handlers m.code.length=0){A:Asg Frm}(G:∀i,(A i).isSome=true->i<m.code.length):qcQ m A ((Qap m A m.code.length).map fun p:Nat=>(p:Int)):=by
 refine⟨?_,fun x=>?_⟩
 ·rw[List.pairwise_map];exact(List.Pairwise.filter _ List.pairwise_lt_range).imp fun h=>by omega
 ·rw[List.mem_map];constructor
  ·rintro⟨p,D,rfl⟩;obtain⟨_,D⟩:=List.mem_filter.1 D;obtain⟨i,_,H⟩:=List.any_eq_true.1 D;exact⟨p,rfl,i,(zb8 B C).1 H⟩
  ·rintro⟨p,rfl,i,E,F⟩;exact⟨p,List.mem_filter.2 ⟨List.mem_range.2 (zch B C F),List.any_eq_true.2 ⟨i,List.mem_range.2 (G i E),(zb8 B C).2 ⟨E,F⟩⟩⟩,rfl⟩
theorem ZdX{w:World}{base:Nat}{v:Value}{T:List Nat}(h:Que w base v T):zax w v (T.map fun p:Nat=>(p:Int)):=by
 rcases h with⟨rfl,rfl⟩|⟨b,off,cap,C,rfl,H,D,E,F,I,J,G⟩
 ·exact Or.inl ⟨rfl,rfl⟩
 ·refine Or.inr ⟨⟨b,off,none⟩,cap,by rw[List.length_map],by rw[List.length_map];exact E,F,fun i x A=>?_⟩;rw[List.getElem?_map]at A;cases B:T[i]? with
  |none=>rw[B]at A;cases A
  |some y =>
   rw[B]at A;obtain rfl:=Option.some.inj A;refine⟨[.int .i64 (y:Int)],rfl,rfl,rfl,?_,trivial⟩;have:=G i y B;rw[Nat.mul_one,cell_of_row w b (off+i) C 3 (0,0) D];exact this
structure NX (w wx:World) (mv:List Value):Prop where
 below:Below w.heap.size w wx
 mth:Blk wx w.heap.size 53 mv
theorem NX.step{w wx wy:World}{A:List Value}(h:NX w wx A)(B:Below wx.heap.size wx wy):NX w wy A:=⟨Qa h.below Xl B,h.mth.step B⟩
theorem NX.grown{w wx wy:World}{A:List Value}{r:Option Nat}(h:NX w wx A)(B:wx.grownBy wy r)(C:∀g,r=some g->w.heap.size+1<=g):NX w wy A :=
 ⟨h.below.grown B h.below.size (fun g e=>by have:=C g e;omega),h.mth.grown B (fun e=>by have:=C _ e;omega)⟩
set_option maxRecDepth 100000
theorem Zb8(m:qi)(A:Asg Frm)(b c:Nat)(pc ph:Option Addr)(kc kh:Nat)(w:World)(hF:FH w b c m.code.length A)(hcv:Zg w 6 Zw (.slice pc m.code.length kc) m.code)(E:Zg w 4 Qt (.slice ph m.handlers.length kh) m.handlers)(hn:m.code.length<=40)(hh:m.handlers.length<=8):
 Calls Tryz.prog 32 #[.agg #[.string m.name,.string m.type,.bool m.static,.bool m.abs,.bool m.priv,.int .i64 m.locals,.slice pc m.code.length kc,.slice ph m.handlers.length kh],.slice (some ⟨c,0,none⟩) m.code.length m.code.length] w fun e w'=>Below w.heap.size w w'/\∃v,e=.returned v/\zax w' v ((Qap m A m.code.length).map fun p:Nat=>(p:Int)):=by
 have HA:Hid (∀(wx:World) (o:Obj),Below wx.heap.size wx (wx.alloc o)):=fun wx o=>Xb.alloc Xl o
 obtain⟨d,l⟩:∃d:List Value,d=[.string m.name,.string m.type,.bool m.static,.bool m.abs,.bool m.priv,.int .i64 m.locals,.slice pc m.code.length kc,.slice ph m.handlers.length kh]:=⟨_,rfl⟩;obtain⟨pc',kc',e,_,_,hcc⟩:=hcv.open;injection e with S _ T
 subst S T;obtain⟨ph',kh',e,_,_,I⟩:=E.open;injection e with S _ T
 subst S T;have HCc:=Xh hcc;have HHc:=Xh I;have HF:=Xh hF;have HX0:Hid (NX w (w.alloc (.cells #[.string m.name,.string m.type,.bool m.static,.bool m.abs,.bool m.priv,.int .i64 m.locals,.slice pc m.code.length kc,.slice ph m.handlers.length kh] 53)) d):=by
  rw[l];exact⟨HA.out _ _,Blk.new w 53 _⟩
 have M:Hid (∀wx,NX w wx d->wx.cell? ⟨w.heap.size,6,none⟩=some (.slice pc m.code.length kc)/\wx.cell? ⟨w.heap.size,7,none⟩=some (.slice ph m.handlers.length kh)):=fun wx h=>by
  have N:=h.mth.cell 6;have O:=h.mth.cell 7;rw[l]at N O;exact⟨N,O⟩
 clear hF hcv E l hcc I;go_enter Tryz.func32,Tryz.ntmps32;go_upto_region 2 with fail;generalize w.alloc (.cells #[.string m.name,.string m.type,.bool m.static,.bool m.abs,.bool m.priv,.int .i64 m.locals,.slice pc m.code.length kc,.slice ph m.handlers.length kh] 53)=w1 at *;go_wp2_with fail;go_loopw [5,6] (fun v x wr=>∃j:Nat,j<=m.code.length/\x=.int .i64 j/\Hid (NX w wr d)/\Hid (Que wr (w.heap.size+1) v (Qap m A j))) (fun _ x _=>m.code.length-(intOf x).toNat)
 case atStart=>exact⟨0,Nat.zero_le _,rfl,HX0,Que.empty _ _⟩
 case round =>
  obtain⟨j,hj,rfl,B,J⟩:=hrel;by_cases hjl:j<m.code.length
  ·obtain⟨N,O⟩:=M.out wr B.out;go_wp2_with fail;clear N O;go_loopw [7,8] (fun x y wy=>∃i:Nat,i<=m.code.length/\x=.bool ((List.range i).any (Qa2 m A j))/\y=.int .i64 i/\Hid (NX w wy d)/\Hid (Que wy (w.heap.size+1) u5 (Qap m A j))) (fun _ y _=>m.code.length-(intOf y).toNat)
   case atStart=>exact⟨0,Nat.zero_le _,rfl,rfl,B,J⟩
   case round =>
    obtain⟨i,hi,rfl,rfl,B,J⟩:=hrel;obtain⟨N,O⟩:=M.out wr B.out;by_cases V:i<m.code.length
    ·obtain⟨x,q⟩:∃x,m.code[i]? = some x:=⟨m.code[i],by simp[V]⟩;obtain⟨b0,o0,vs,rfl,rfl,_,C⟩:=HCc.out i x q;obtain⟨c0,c1,_⟩:=C.mono B.out.below C.lt;have c1:wr.cell? ⟨b0,o0+i*6+1,none⟩=some (.int .i64 x.a):=c1;obtain⟨_,_,_,_,_,_,_,_,_,a2,_⟩:=(HF.out.step B.out.below).at V;have HJ:Hid (∀wx,_):=fun wx=>qao x.op wx
     have hja:ZbD m j i=(zu x.op&&decide (x.a=(j:Int))):=by
      unfold ZbD;rw[q]
     obtain⟨R,r⟩:∃R,(List.range i).any (Qa2 m A j)=R:=⟨_,rfl⟩;obtain⟨D,t⟩:∃D,(A i).isSome=D:=⟨_,rfl⟩;obtain⟨bj,z⟩:∃bj,zu x.op=bj:=⟨_,rfl⟩;obtain⟨eb,heb⟩:∃eb,(x.a==(j:Int))=eb:=⟨_,rfl⟩;have F:Hid (ZbD m j i=(bj&&eb)):=by
      unfold Hid;rw[hja,z,<-heb];rfl
     rw[r];rw[t]at a2;rw[z]at HJ;have Hnb:=Xh r;have Hhb:=Xh t;clear r t z hja q C;have hiI:(i:Int)<(m.code.length:Int):=(by omega);have hi0:(0:Int)<=(i:Int):=Int.natCast_nonneg _;go_upto_region 9 with fail;go_cut [47] from 25 to 47 (fun s wx=>s=.bool (D&&(bj&&eb))/\wx=wr)
     case first =>
      cases D<;>cases bj<;>cases eb<;>(go_wp2_with (go_fit (HJ.out _);rintro e w6⟨rfl,rfl⟩);go_meet;exact⟨rfl,rfl⟩)
     case rest =>
      obtain⟨rfl,rfl⟩:=hcut;rw[<-F.out];clear F heb c0 c1 a2 HJ;obtain⟨U,F⟩:∃U,(D&&ZbD m j i)=U:=⟨_,rfl⟩;rw[F];have Hjb:=Xh F;clear F;go_upto_if 47 with fail
      go_cut [7] (fun s wx=>s=.bool (R||U)/\wx=wc)
      case first =>
       cases U<;>cases R<;>(go_wp2_with fail;go_meet;exact⟨rfl,rfl⟩)
      case rest =>
       obtain⟨rfl,rfl⟩:=hcut;have HXi:=Xh B.out;have HQi:=Xh J.out;clear B J;go_wp2_with fail;clear N O;go_loopw [7,9] (fun x y wy=>∃k:Nat,k<=m.handlers.length/\x=.bool ((R||U)||(D&&(m.handlers.take k).any (ZaJ j i)))/\y=.int .i64 k/\Hid (NX w wy d)/\Hid (Que wy (w.heap.size+1) u5 (Qap m A j))) (fun _ y _=>m.handlers.length-(intOf y).toNat)
       case atStart=>exact⟨0,Nat.zero_le _,by simp,rfl,HXi,HQi⟩
       case round =>
        obtain⟨k,hk,rfl,rfl,B,J⟩:=hrel;obtain⟨N,O⟩:=M.out wr B.out;by_cases hkl:k<m.handlers.length
        ·obtain⟨h,q⟩:∃h,m.handlers[k]? = some h:=⟨m.handlers[k],by simp[hkl]⟩;obtain⟨b1,o1,vs,rfl,rfl,_,C⟩:=HHc.out k h q;obtain⟨d0,d1,d2,d3,_⟩:=C.mono B.out.below C.lt;have X:=HA.out wr (.cells #[.int .i64 h.lo,.int .i64 h.hi,.int .i64 h.dest,.string h.cls] 126);have k8:=Blk.new wr 126 [.int .i64 h.lo,.int .i64 h.hi,.int .i64 h.dest,.string h.cls];have G:=Xh (B.out.step X);have HQ8:=Xh (J.out.keep fun g e=>X.block g (J.out.lt g e).2);have Y:=zdX (f:=ZaJ j i) q;obtain⟨ak,aA⟩:∃ak,(m.handlers.take k).any (ZaJ j i)=ak:=⟨_,rfl⟩;obtain⟨db,hdb⟩:∃db,(h.dest==(j:Int))=db:=⟨_,rfl⟩;obtain⟨lb,hlb⟩:∃lb,decide (h.lo<=(i:Int))=lb:=⟨_,rfl⟩;obtain⟨ub,hub⟩:∃ub,decide ((i:Int)<h.hi)=ub:=⟨_,rfl⟩;have hha:ZaJ j i h=(db&&lb&&ub):=by
          unfold ZaJ;rw[hlb,hub,<-hdb];rfl
         rw[hha,aA]at Y;rw[aA];have Hat:=Xh Y;have hkI:(k:Int)<(m.handlers.length:Int):=(by omega);have hk0:(0:Int)<=(k:Int):=Int.natCast_nonneg _;clear q C Y aA hha X;go_upto_region 15 with fail;have e0:=k8.cell 0;have S:=k8.cell 1;have T:=k8.cell 2;replace e0:=show _=some (Value.int .i64 h.lo) from e0
         replace S:=show _=some (Value.int .i64 h.hi) from S
         replace T:=show _=some (Value.int .i64 h.dest) from T
         obtain⟨_,_,_,_,_,_,_,_,_,a2,_⟩:=(HF.out.step G.out.below).at V;rw[Hhb.out]at a2;clear d0 d1 d2 d3 N O;obtain⟨hbn,L⟩:∃n,wr.heap.size=n:=⟨_,rfl⟩;rw[L]at e0 S T;rw[L];clear k8 L B J;generalize wr.alloc (.cells #[.int .i64 h.lo,.int .i64 h.hi,.int .i64 h.dest,.string h.cls] 126)=w5 at *;go_cut [81] from 60 to 81 (fun s wx=>s=.bool (D&&(db&&lb&&ub))/\wx=w5)
         case first =>
          cases D<;>cases db<;>cases lb<;>cases ub<;>(go_wp2_with fail;go_meet;exact⟨rfl,rfl⟩)
         case rest =>
          obtain⟨rfl,rfl⟩:=hcut;clear hdb hlb hub e0 S T a2;obtain⟨hc,I⟩:∃hc,(db&&lb&&ub)=hc:=⟨_,rfl⟩;rw[I]at Hat;rw[I];clear I;obtain⟨hv,E⟩:∃hv,(D&&hc)=hv:=⟨_,rfl⟩;rw[E];have Hhv:=Xh E;clear E;have HR:Hid ((R||U||(D&&(m.handlers.take (k+1)).any (ZaJ j i)))=((R||U||(D&&ak))||hv)):=by
           unfold Hid;rw[Hat.out,<-Hhv.out];cases D<;>simp[Bool.or_assoc]
          cases hv with
          |true =>
           go_wp2_with fail;go_roundw;case rel=>exact⟨k+1,by omega,by rw[HR.out,Bool.or_true],by simp,G,HQ8⟩
           case measure=>simp[intOf];omega
          |false =>
           go_wp2_with fail;go_roundw;case rel=>exact⟨k+1,by omega,by rw[HR.out,Bool.or_false],by simp,G,HQ8⟩
           case measure=>simp[intOf];omega
        ·obtain rfl:k=m.handlers.length:=(by omega);have HE:Hid ((List.range (i+1)).any (Qa2 m A j)=((R||U)||(D&&(m.handlers.take m.handlers.length).any (ZaJ j i)))):=by
          unfold Hid;rw[QdC,Hnb,List.take_length,<-Hjb.out];unfold Qa2;rw[Hhb.out];cases D<;>cases R<;>simp
         go_wp2_with fail;go_roundw;case rel=>exact⟨i+1,by omega,by rw[HE.out],by simp,B,J⟩
         case measure=>simp[intOf];omega
    ·obtain rfl:i=m.code.length:=(by omega);have H:=Qdb m A j;have hnl:=qdC m A j;rw[show(List.range m.code.length).any (Qa2 m A j)=qbD m A j from rfl];cases P:qbD m A j with
     |false =>
      rw[P,if_neg (by decide)]at H;have Z:=Xh H;clear H P hnl;go_wp2_with fail;go_roundw;case rel=>exact⟨j+1,by omega,by simp,B,by unfold Hid;rw[Z.out];exact J.out⟩
      case measure=>simp[intOf];omega
     |true =>
      rw[P,if_pos rfl]at H;have Z:=Xh H;have X:=HA.out wr (.cells #[.int .i64 (j:Int)] 3);have G:=Xh (B.out.step X);have hq8:=J.out.keep fun g e=>X.block g (J.out.lt g e).2
      have hbs:w.heap.size+1<=(wr.alloc (.cells #[.int .i64 (j:Int)] 3)).heap.size:=G.out.mth.lt;have hce:=zaA wr (.int .i64 (j:Int)) 3;have hce0:(wr.alloc (.cells #[.int .i64 (j:Int)] 3)).cell? ((⟨wr.heap.size,0,none⟩:Addr).add 0)=some (zL j):=hce 0 _ rfl;have h63:(Qap m A j).length+1<=maxLen:=(by unfold maxLen;omega);have h56:((Qap m A j).length+1)*8<=140737488355328:=(by omega);have hql:=Xh hq8.lt;clear H P hnl hce X;go_wp2_with (at_builtin;go_must (refine qC rfl _ _ rfl (w.heap.size+1) _ (Qap m A j) rfl hq8 hbs j ⟨wr.heap.size,0,none⟩ 1 rfl hce0 h63 h56 ?_);intro v9 w9 hR9 hg9 _;(have HR9:=Xh hR9);(have Hg9:=Xh hg9);clear hR9 hg9)
      go_roundw;case rel=>exact⟨j+1,by omega,by simp,G.out.grown Hg9.out (fun g e=>(hql.out g e).1),by unfold Hid;rw[Z.out];exact HR9.out⟩
      case measure=>simp[intOf];omega
  ·obtain rfl:j=m.code.length:=(by omega);obtain⟨N,O⟩:=M.out wr B.out;go_wp2_with fail;go_ret;exact⟨B.out.below,_,rfl,ZdX J.out⟩
theorem QaT(L:List Int)(P R:Value)(w:World)(S:zax w P L)(T:zax w R L):
 Calls Tryz.prog 34 #[P,R] w fun e w'=>e=.returned (.bool true)/\Below w.heap.size w w':=by
 obtain⟨Z,a,rfl,A,B,C⟩:=S.open;obtain⟨c,d,rfl,M,N,D⟩:=T.open;have U:L.length<=9223372036854775807:=Xf A B;have H:=Xh C;have I:=Xh D;clear S T C D A B M N;go_enter Tryz.func34,Tryz.ntmps34;go_wp2_with fail;go_loopw [5] (fun x wr=>∃j:Nat,j<=L.length/\x=.int .i64 j/\Hid (Below w.heap.size w wr)) (fun x _=>L.length-(intOf x).toNat)
 case atStart=>exact⟨0,Nat.zero_le _,rfl,Xb⟩
 case round =>
  obtain⟨j,f,rfl,G⟩:=hrel;by_cases J:j<L.length
  ·obtain⟨x,O⟩:∃x,L[j]? = some x:=⟨L[j],by simp[J]⟩;obtain⟨b,o,vs,rfl,rfl,_,E,_⟩:=H.out j x O;obtain⟨b',g,Y,rfl,rfl,_,F,_⟩:=I.out j x O;have V:(j:Int)<(L.length:Int):=(by omega);have X:(0:Int)<=(j:Int):=Int.natCast_nonneg _;replace E:=(G.out.cell (ql E)).trans E;replace F:=(G.out.cell (ql F)).trans F;rw[Nat.mul_one]at E F;clear O;go_upto_region 6 with fail;go_quiet (fail);go_wp2_with fail;go_roundw;case rel=>exact⟨j+1,by omega,by simp,Qa G Xl ⟨rfl,rfl,rfl,Xl,fun _ _=>rfl⟩⟩
   case measure=>simp[intOf];omega
  ·obtain rfl:j=L.length:=(by omega);go_wp2_with fail;go_ret;exact⟨rfl,G⟩
set_option maxRecDepth 512
theorem qdX:Zdp (Za [adC]) qbg adK adM (fun _=>none) (QP qbg adM.static [adK,adK] 2)=true:=by kernel_rfl
theorem QdX{cls:Str}(B:cls=qbg\/qS cls 0 [adC]=none):∀m args g A,qS cls 0 [adC]=some m->Z8 m args g A->m.handlers=[]/\(∀x∈m.code,zu x.op=false)/\Zdp (Za [adC]) cls g m (fun _=>none) (QP cls m.static args A)=true:=fun m args g A h C=>by
 rcases B with rfl|B
 ·rw[zdQ]at h;obtain rfl:=Option.some.inj h;obtain⟨rfl,rfl,rfl⟩:=Qem C;exact⟨by kernel_rfl,List.all_eq_true.1 (by kernel_rfl:adM.code.all (fun x=>zu x.op==false)=true) |> fun h x D=>beq_iff_eq.1 (h x D),qdX⟩
 ·rw[B]at h;cases h
set_option maxRecDepth 100000
theorem QcQ(w:World)(C:QaB w):Calls Tryz.prog 30 #[] w fun e w'=>e=.returned (.bool true)/\Below w.heap.size w w':=by
 have G:Hid (∀wx,_):=fun wx=>qdt wx
 have H:Hid (∀(wx:World) (a:Addr),Below w.heap.size w wx->qj wx (.slice (some a) 1 1) [adC]->Calls Tryz.prog 31 #[.slice (some a) 1 1,.string ⟨#[65]⟩,.int .i64 0,.slice none 0 0] wx fun e w'=>Below wx.heap.size wx w'/\e=.returned .nilIface):=fun wx a O P =>
  (qbH [adC] _ qbg 0 wx (C.mono O C.1) Qel P (QdX (Or.inl rfl))).mono fun e w' ⟨R,F⟩=>by
   rw[show zE (qD [adC] qbg 0)=.nilIface from by kernel_rfl]at F;exact⟨R,F⟩
 have I:Hid (∀(wx:World) (a:Addr),Below w.heap.size w wx->qj wx (.slice (some a) 1 1) [adC]->Calls Tryz.prog 31 #[.slice (some a) 1 1,.string ⟨#[66]⟩,.int .i64 0,.slice none 0 0] wx fun e w'=>Below wx.heap.size wx w'/\∃v,e=.returned (.iface 29 v)):=fun wx a O P =>
  (qbH [adC] _ ⟨#[66]⟩ 0 wx (C.mono O C.1) Qel P (QdX (Or.inr (by kernel_rfl)))).mono fun e w' ⟨R,F⟩=>by
   rw[show zE (qD [adC] ⟨#[66]⟩ 0)=.iface 29 (.int .i64 3) from by kernel_rfl]at F;exact⟨R,_,F⟩
 clear C;go_enter Tryz.func30,Tryz.ntmps30;go_wp2_with (first
  |(go_fit (G.out _);rintro e S⟨T,rfl,E,B⟩;(have D:=Xh E);(first|(have A:=Xh (Qa J Xl B))|(have A:=Xh B));clear E B)
  |(go_fit (H.out _ _ A.out D.out);rintro e U⟨M,rfl⟩;(have J:=Xh (Qa A Xl M)))
  |(go_fit (I.out _ _ A.out D.out);rintro e V⟨N,X,rfl⟩;(have L:=Xh (Qa A Xl N))))
 go_ret;exact⟨rfl,L⟩
set_option maxRecDepth 512
theorem zcR{l:List Qb}(D:∀c∈l,qab c){cls:Str}{at':Int}{m:qi}(h:qS cls at' l=some m):Z1 m/\cls.size<=1048576/\(Qc (Za l) cls).isSome=true:=by
 obtain⟨c,B,A,C⟩:=zaC h;exact⟨(D c B).methods m C,by rw[<-A];exact(D c B).name,by rw[<-A];exact qaO B⟩
theorem qcA{m:qi}{args B:List Str}{g E:Str}{C A:Nat}(h:Z8 m args g C)(k:Z8 m B E A):B=args/\E=g/\A=C:=by
 have D:=h.type;rw[k.type]at D;injection D with D
 injection D with D F
 have G:(A:Int)=(C:Int):=k.locals.symm.trans h.locals;exact⟨D,F,by omega⟩
theorem zbm{l:List Qb}{cls:Str}{at':Int}(A:qD l cls at'=0):Zp l=0:=by
 unfold qD at A;split at A
 ·rename_i B;exact absurd A B
 ·rename_i B;exact Decidable.not_not.1 B
theorem za3{l:List Qb}(D:Zp l=0->∀c∈l,qd c=0){cls:Str}{at':Int}{n J:Nat}{F L:Option (qi×Asg Frm)}(h:za9 l cls at' n F)(k:za9 l cls at' J L):n=J/\F=L:=by
 rcases h with⟨B,rfl,rfl⟩|⟨B,m,args,g,N,S,_,C,G,T,O⟩
 ·rcases k with⟨_,rfl,rfl⟩|⟨E,_⟩
  ·exact⟨rfl,rfl⟩
  ·exact absurd E B
 ·rcases k with⟨E,_⟩|⟨_,X,H,Y,I,P,_,U,Z,V,R⟩
  ·exact absurd B E
  ·rw[S]at P;obtain rfl:=Option.some.inj P;obtain⟨rfl,rfl,rfl⟩:=qcA C U;have M:=zbm B;obtain rfl:=ZaP (zbs M) (D M) C.code C.hands (qaB C) T V;cases G with
   |none =>
    obtain⟨rfl,rfl⟩:=O;obtain⟨rfl,rfl⟩:=R;exact⟨rfl,rfl⟩
   |some A =>
    obtain⟨rfl,rfl⟩:=O;obtain⟨rfl,rfl⟩:=R;exact⟨rfl,rfl⟩
set_option maxRecDepth 100000
theorem QbD(l:List Qb)(lv:Value)(cls:Str)(at':Int)(w:World)(hl:QaB w)(ho:∀c∈l,qab c)(P:qj w lv l):
 Calls Tryz.prog 7 #[lv,.string cls,.int .i64 at'] w fun e w'=>e=.returned (.bool true)/\Below w.heap.size w w':=by
 have HCd:=Xh (QcQ w hl);have b:Hid (∀wx,Below w.heap.size w wx->_):=fun wx O=>Zbm l lv cls at' wx ho (P.mono O)
 have D:Hid (∀wx,Below w.heap.size w wx->_):=fun wx O=>Zch l lv cls at' wx (hl.mono O hl.1) ho (P.mono O)
 have HLv:=Xh P;have HO:=Xh ho;obtain⟨pl,cap,rfl,hpo⟩:=P.open;clear hpo hl ho P;have HA:Hid (∀(wx:World) (o:Obj),Below wx.heap.size wx (wx.alloc o)):=fun wx o=>Xb.alloc Xl o
 by_cases hz:qD l cls at'=0
 ·have S:=Xh hz;clear hz;go_enter Tryz.func7,Tryz.ntmps7;go_upto_region 5 with(first
   |(go_fit (HCd.out);rintro e w2⟨rfl,I⟩)
   |(go_fit (b.out _ I);rintro e w6⟨M,⟨_,m,v,r,hab,rfl,⟨pc,kc,ph,kh,rfl,hcv,hhv⟩⟩|⟨hz,_⟩⟩;rotate_left;(exact absurd S.out hz)))
  obtain⟨c,hc,hcn,hmc⟩:=zaC r;have H:=zbm S.out;obtain⟨args,g,E,t⟩:=zby (qal H c hc) hmc hab.out;obtain⟨hmo,hcl,_⟩:=zcR HO.out r;have B6:=Qa I Xl M;have Ba:=HA.out w6 (.cells #[.string m.name,.string m.type,.bool m.static,.bool m.abs,.bool m.priv,.int .i64 m.locals,.slice pc m.code.length kc,.slice ph m.handlers.length kh] 53);have a:=Blk.new w6 53 [.string m.name,.string m.type,.bool m.static,.bool m.abs,.bool m.priv,.int .i64 m.locals,.slice pc m.code.length kc,.slice ph m.handlers.length kh];have B7:=Qa B6 Xl Ba;have d:=Qa M Xl Ba;generalize w6.alloc (.cells #[.string m.name,.string m.type,.bool m.static,.bool m.abs,.bool m.priv,.int .i64 m.locals,.slice pc m.code.length kc,.slice ph m.handlers.length kh] 53)=N at *;have x:=qch l (.slice pl l.length cap) (zbs H) (qal H) N (HLv.out.mono B7) m cls g args E pc ph kc kh t hmo hcl (hcv.mono d (by decide) (fun _ _ h=>h)) (hhv.mono d (by decide) (fun _ _ h=>h));unfold qb8 at x;have L:=Xh x;have q0:=a.cell 0;have q1:=a.cell 1;have q2:=a.cell 2;have q3:=a.cell 3;have q4:=a.cell 4;have q5:=a.cell 5;have q6:=a.cell 6;have q7:=a.cell 7;have y:=(zO t.code).small;have T:=Xh B7;have HB27:=Xh d;have Hcv:=Xh hcv;have Hhv:=Xh hhv;have Hk7:=Xh a;have B:=Xh (And.intro r (And.intro hab.out t));clear I M B6 Ba d B7 a r hab t hmo hcl hc hcn hmc hcv hhv x H;by_cases z:∃A,QD (Za l) cls g m (QP cls m.static args E) (some A)
  ·obtain⟨A,hA⟩:=z;have s:za9 l cls at' 0 (some (m,A)):=Or.inr ⟨S,m,args,g,E,B.out.1,B.out.2.1,B.out.2.2,some A,hA,rfl,rfl⟩;have hNL:qcQ m A ((Qap m A m.code.length).map fun p:Nat=>(p:Int)):=zef B.out.2.2.code B.out.2.2.hands fun i hi=>by
    obtain⟨f,hf⟩:=Option.isSome_iff_exists.1 hi;exact(hA.2.1.1 i f hf).1
   replace D:Hid (∀wx,Below w.heap.size w wx->Calls _ _ _ wx fun e w'=>Below wx.heap.size wx w'/\∃v,e=.returned (.tuple #[v,.nilIface])/\zax w' v ((Qap m A m.code.length).map fun p:Nat=>(p:Int))):=fun wx O=>(D.out wx O).mono fun e w' ⟨Y,n,F,Z,hF⟩=>by
    obtain⟨_,rfl⟩:=za3 qal s Z;obtain⟨v,ns,h1,h2,h3⟩:=hF;rw[zdD h3 hNL]at h2;exact⟨Y,v,h1,h2⟩
   replace L:Hid (Calls _ _ _ N fun e w'=>Below N.heap.size N w'/\e=.returned (.tuple #[.slice (some ⟨N.heap.size+1,0,none⟩) m.code.length m.code.length,.slice (some ⟨N.heap.size+1+1,0,none⟩) m.code.length m.code.length,.bool true])/\FH w' (N.heap.size+1) (N.heap.size+1+1) m.code.length A):=L.out.mono fun e w' ⟨Y,R,hR,h⟩=>by
    have t:=B.out.2.2;have H:=zbm S.out;obtain rfl:=ZaP (zbs H) (qal H) t.code t.hands (qaB t) hA hR;exact⟨Y,h⟩
   have hh8:=(qL B.out.2.2.hands).1;clear hA s hNL;go_upto_region 10 with(go_fit (L.out);rintro e w8⟨J,rfl,hF8⟩)
   have j:=Xh (Qa T Xl J);have U:=Qa HB27 Xl J;have HNo:=Xh (Zb8 m A (N.heap.size+1) (N.heap.size+1+1) pc ph kc kh w8 hF8 (Hcv.out.mono U (by decide) (fun _ _ h=>h)) (Hhv.out.mono U (by decide) (fun _ _ h=>h)) y hh8);have q:=Hk7.out.step J;clear q0 q1 q2 q3 q4 q5 q6 q7;have q0:=q.cell 0;have q1:=q.cell 1;have q2:=q.cell 2;have q3:=q.cell 3;have q4:=q.cell 4;have q5:=q.cell 5;have q6:=q.cell 6;have q7:=q.cell 7;have V:Hid (∀wx,_):=qeq;have X:Hid (∀wx u v,zax wx u ((Qap m A m.code.length).map fun p:Nat=>(p:Int))->zax wx v ((Qap m A m.code.length).map fun p:Nat=>(p:Int))->_):=fun wx u v h1 h2=>QaT ((Qap m A m.code.length).map fun p:Nat=>(p:Int)) u v wx h1 h2
   clear J hF8 U q;go_wp2_with (first
    |(go_fit (HNo.out);rintro e w9⟨hB9,v9,rfl,hI9⟩;(have HB9:=Xh (Qa j Xl hB9)))
    |(go_fit (D.out _ HB9.out);rintro e w10⟨C,v10,rfl,hM10⟩;(have hI10:=hI9.mono C))
    |(go_fit (V.out _);rintro e w11⟨rfl,rfl⟩)
    |(go_fit (X.out _ _ _ hM10 hI10);rintro e w12⟨rfl,G⟩))
   go_ret;exact⟨rfl,Qa HB9 Xl (Qa C Xl G)⟩
  ·have HEx:=Xh z;clear z;replace L:Hid (Calls _ _ _ N fun e w'=>Below N.heap.size N w'/\e=.returned (.tuple #[.slice none 0 0,.slice none 0 0,.bool false])/\QD (Za l) cls g m (QP cls m.static args E) none):=L.out.mono fun e w' ⟨Y,R,hR,h⟩=>by
    cases R with
    |none=>exact⟨Y,h,hR⟩
    |some F=>exact absurd ⟨F,hR⟩ HEx.out
   have V:Hid (∀wx,Calls _ _ #[.iface 29 (.int .i64 7),.int .i64 7] wx _):=Zem 7 (by decide);have X:Hid (∀wx,_):=fun wx=>QaT [] (.slice none 0 0) (.slice none 0 0) wx (Or.inl ⟨rfl,rfl⟩) (Or.inl ⟨rfl,rfl⟩)
   go_upto_region 10 with(go_fit (L.out);rintro e w8⟨J,rfl,hA⟩)
   have s:za9 l cls at' 7 none:=Or.inr ⟨S,m,args,g,E,B.out.1,B.out.2.1,B.out.2.2,none,hA,rfl,rfl⟩;replace D:Hid (∀wx,Below w.heap.size w wx->Calls _ _ _ wx fun e w'=>Below wx.heap.size wx w'/\e=.returned (.tuple #[.slice none 0 0,.iface 29 (.int .i64 7)])):=fun wx O=>(D.out wx O).mono fun e w' ⟨Y,n,F,Z,hF⟩=>by
    obtain⟨rfl,rfl⟩:=za3 qal s Z;exact⟨Y,hF.2⟩
   have j:=Xh (Qa T Xl J);clear J hA s q0 q1 q2 q3 q4 q5 q6 q7;go_wp2_with (first
    |(go_fit (D.out _ j.out);rintro e w10⟨C,rfl⟩)
    |(go_fit (V.out _);rintro e w11⟨rfl,rfl⟩)
    |(go_fit (X.out _);rintro e w12⟨rfl,G⟩))
   go_ret;exact⟨rfl,Qa j Xl (Qa C Xl G)⟩
 ·have S:=Xh hz;clear hz;have s:za9 l cls at' (qD l cls at') none:=Or.inl ⟨S,rfl,rfl⟩;replace D:Hid (∀wx,Below w.heap.size w wx->Calls _ _ _ wx fun e w'=>Below wx.heap.size wx w'/\e=.returned (.tuple #[.slice none 0 0,.iface 29 (.int .i64 ((qD l cls at':Nat):Int))])):=fun wx O=>(D.out wx O).mono fun e w' ⟨Y,n,F,Z,hF⟩=>by
   obtain⟨rfl,rfl⟩:=za3 qal s Z;exact⟨Y,hF.2⟩
  replace b:Hid (∀wx,Below w.heap.size w wx->Calls _ _ _ wx fun e w'=>e=.returned (.tuple #[.agg #[.string ⟨#[]⟩,.string ⟨#[]⟩,.bool false,.bool false,.bool false,.int .i64 0,.slice none 0 0,.slice none 0 0],.int .i64 ((qD l cls at':Nat):Int)])/\Below wx.heap.size wx w'):=fun wx O=>(b.out wx O).mono fun e w' ⟨Y,h⟩=>by
   rcases h with⟨h,_⟩|⟨_,h⟩
   ·exact absurd h S.out
   ·exact⟨h,Y⟩
  have V:Hid (∀wx,_):=Zem (qD l cls at') S.out;have hzb:(((qD l cls at':Nat):Int)==0)=false:=by
   have:=S.out;rw[beq_eq_false_iff_ne];omega
  have X:Hid (∀wx,_):=fun wx=>QaT [] (.slice none 0 0) (.slice none 0 0) wx (Or.inl ⟨rfl,rfl⟩) (Or.inl ⟨rfl,rfl⟩)
  clear s S;generalize qD l cls at'=k at *;go_enter Tryz.func7,Tryz.ntmps7;go_upto_region 5 with(first
   |(go_fit (HCd.out);rintro e w2⟨rfl,I⟩)
   |(go_fit (b.out _ I);rintro e w6⟨rfl,M⟩))
  have B7:=Qa (Qa I Xl M) Xl (HA.out w6 (.cells #[.string ⟨#[]⟩,.string ⟨#[]⟩,.bool false,.bool false,.bool false,.int .i64 0,.slice none 0 0,.slice none 0 0] 53));have T:=Xh B7;clear I M B7;go_wp2_with (first
   |(go_fit (D.out _ T.out);rintro e w10⟨C,rfl⟩)
   |(go_fit (V.out _);rintro e w11⟨rfl,rfl⟩)
   |(go_fit (X.out _);rintro e w12⟨rfl,G⟩))
  go_ret;exact⟨rfl,Qa T Xl (Qa C Xl G)⟩
set_option maxRecDepth 512
end Go.Proofs.YtlmfmioljeppfaaGreatDoor
