/- Lemmas; conditions: as each states. -/
import Derived.Test.YtlmfmioljeppfaaGreatDoorFrameOps
set_option maxHeartbeats 4000000
namespace Go.Proofs.YtlmfmioljeppfaaGreatDoor
open Go.RowKit Go.Shelf Go.Lib
def zL(i:Nat):Value:=.int .i64 (i:Int)
theorem qd5:(Tryz.prog.info? 3).map (fun i=>(i.zero,i.size,i.bytes))=some (some (.int .i64 0),1,8):=by kernel_rfl
def Que(w:World)(base:Nat)(v:Value)(xs:List Nat):Prop:=(v=.slice none 0 0/\xs=[]) \/
 ∃b off cap cur,v=.slice (some ⟨b,off,none⟩) xs.length cap/\base<=b/\w.heap[b]? = some (.cells cur 3 (0,0))/\xs.length<=cap/\cap<=maxLen/\off+cap<=cur.size/\(∀u∈cur.toList,∃k,u=.int .i64 k)/\∀j x,xs[j]? = some x->cur[off+j]? = some (zL x)
theorem Que.empty(w:World)(base:Nat):Que w base (.slice none 0 0) []:=Or.inl ⟨rfl,rfl⟩
theorem Que.lt{w:World}{base:Nat}{v:Value}{xs:List Nat}(h:Que w base v xs):∀g,v.ownBlock=some g->base<=g/\g<w.heap.size:=by
 intro g A;rcases h with⟨rfl,_⟩|⟨b,off,cap,B,rfl,C,D,_⟩
 ·cases A
 ·injection A with A
  subst A;exact⟨C,(Array.getElem?_eq_some_iff.1 D).1⟩
theorem Que.keep{w w':World}{base:Nat}{v:Value}{xs:List Nat}(h:Que w base v xs)(B:∀g,v.ownBlock=some g->w'.heap[g]? = w.heap[g]?):Que w' base v xs:=by
 rcases h with h|⟨b,off,cap,A,rfl,C,D,E⟩
 ·exact Or.inl h
 ·exact Or.inr ⟨b,off,cap,A,rfl,C,(B b rfl).trans D,E⟩
theorem zdI{n:Nat}{u:Value}(h:u∈(Builtin.zeroCells (Value.int .i64 0).cells n).toList):∃k,u=.int .i64 k:=by
 unfold Builtin.zeroCells at h;simp only[Array.toList_map,List.mem_map]at h;obtain⟨i,_,rfl⟩:=h;rw[show i % (Value.int .i64 0).cells.size=0 from Nat.mod_one i];exact⟨0,rfl⟩
theorem Que.made(w:World){base cap:Nat}{xs:List Nat}(C:base<=w.heap.size)(D:xs.length<=cap)(E:cap<=maxLen):Que (w.alloc (.cells ((xs.map zL).toArray++Builtin.zeroCells (Value.int .i64 0).cells (cap-xs.length)) 3)) base (.slice (some ⟨w.heap.size,0,none⟩) xs.length cap) xs:=by
 refine Or.inr ⟨w.heap.size,0,cap,_,rfl,C,heap_alloc_new _ _,D,E,?_,fun u A=>?_,fun j x B=>?_⟩
 ·rw[Array.size_append,size_zeroCells,List.size_toArray,List.length_map];show 0+cap<=xs.length+(cap-xs.length)*1
  omega
 ·rw[Array.toList_append,List.mem_append]at A;rcases A with A|A
  ·obtain⟨x,_,rfl⟩:=List.mem_map.1 A;exact⟨_,rfl⟩
  ·exact zdI A
 ·have F:=(List.getElem?_eq_some_iff.1 B).1;rw[Nat.zero_add,Array.getElem?_append_left (by simpa using F)];simp[B]
def qx(w w':World):Prop:=∀a s,w.cell? a=some (.string s)->w'.cell? a=some (.string s)
theorem ql{w:World}{a:Addr}{v:Value}(h:w.cell? a=some v):a.block<w.heap.size:=by
 unfold World.cell? at h;cases A:w.heap[a.block]? with
 |none=>simp[A]at h
 |some B=>exact(Array.getElem?_eq_some_iff.1 A).1
theorem qx.trans{a b c:World}(h:qx a b)(k:qx b c):qx a c:=fun x s e=>k x s (h x s e)
theorem qx.below{w w':World}(h:Below w.heap.size w w'):qx w w':=fun _ _ e=>(h.cell (ql e)).trans e
theorem qx.blocks{w w':World}(g:Nat)(B:∀k,k<w.heap.size->k≠g->w'.heap[k]? = w.heap[k]?)(C:∀a s,a.block=g->w.cell? a≠some (.string s)):qx w w':=fun a s e=>by
 by_cases A:a.block=g
 ·exact absurd e (C a s A)
 ·exact(World.cell?_of_block (B a.block (ql e) A)).trans e
theorem Que.keepS{w w':World}{base:Nat}{v:Value}{xs:List Nat}(h:Que w base v xs)(C:w.grownBy w' v.ownBlock):qx w w':=by
 rcases h with⟨rfl,_⟩|⟨b,off,cap,E,rfl,_,F,_,_,_,G,_⟩
 ·exact fun a s e=>(World.cell?_of_block (C.block a.block (ql e) (by simp[Value.ownBlock]))).trans e
 ·refine qx.blocks b (fun k A B=>C.block k A fun e=>B (Option.some.inj e)) fun a s D e=>?_
  unfold World.cell? at e;rw[D,F]at e;dsimp only at e;split at e
  ·cases e
  ·obtain⟨k,A⟩:=G _ (Array.mem_toList_iff.2 (Array.mem_of_getElem? e));cases A
theorem qx.strs{w w':World}(h:qx w w'){v:Value}{l:List Str}(hs:Qh w v l):Qh w' v l:=by
 rcases hs with hs|⟨a,cap,F,G,H,I⟩
 ·exact Or.inl hs
 ·refine Or.inr ⟨a,cap,F,G,H,fun i x E=>?_⟩;obtain⟨vs,B,J,C,D⟩:=I i x E;have A:vs=[.string x]:=B;subst A;exact⟨_,rfl,rfl,C,h _ _ D.1,trivial⟩
theorem Que.head{w:World}{base:Nat}{v:Value}{x:Nat}{xs:List Nat}(h:Que w base v (x::xs)):∃b off cap,v=.slice (some ⟨b,off,none⟩) (xs.length+1) (cap+1)/\w.cell? ⟨b,off,none⟩=some (zL x)/\xs.length<=cap/\cap+1<=maxLen /\
 Que w base (.slice (if cap=0 then some ⟨b,off,none⟩ else some ⟨b,off+1,none⟩) xs.length cap) xs:=by
 rcases h with⟨_,h⟩|⟨b,off,cap,A,rfl,D,B,I,J,L,E,F⟩
 ·cases h
 ·rw[List.length_cons]at I;obtain⟨c,rfl⟩:∃c,cap=c+1:=⟨cap-1,by omega⟩;refine⟨b,off,c,rfl,?_,by omega,J,?_⟩
  ·have:=F 0 x rfl;rw[cell_of_row w b off A 3 (0,0) B];simpa using this
  ·by_cases C:c=0
   ·subst C;have:xs=[]:=List.eq_nil_of_length_eq_zero (by omega);subst this;exact Or.inr ⟨b,off,0,A,rfl,D,B,Xl,Nat.zero_le _,by omega,E,fun j x G=>by simp at G⟩
   ·rw[if_neg C];refine Or.inr ⟨b,off+1,c,A,rfl,D,B,by omega,by omega,by omega,E,fun j y H=>?_⟩;have:=F (j+1) y (by simpa using H);rw[<-this];congr 1;omega
theorem Qcb{w:World}(ty:TypeId){base:Nat}{v:Value}{xs:List Nat}(h:Que w base v xs)(C:base<=w.heap.size)(x:Nat)(O:Addr)(c:Nat)(s:w.cell? (O.add 0)=some (zL x))(S:xs.length+1<=maxLen)(D:(xs.length+1)*8<=140737488355328):
 ∃p w',(Builtin.append_ #[69,69] ty #[v,.slice (some O) 1 c]).run Tryz.prog w=.ok p w'/\Que w' base p (xs++[x])/\w.grownBy w' v.ownBlock/\∀g,p.ownBlock=some g->v.ownBlock=some g\/w.heap.size<=g:=by
 obtain⟨Z,n,U,G,V⟩:=info_parts qd5;have f:∀j u,[zL x][j]? = some u->w.cell? (O.add j)=some u:=fun j u A=>by
  cases j with
  |zero=>simp at A;subst A;exact s
  |succ j=>simp at A
 have t:∀u∈[zL x],u.oneCell'=true:=fun u A=>by rw[List.mem_singleton.1 A];rfl
 have E:(xs++[x]).length=xs.length+1:=by simp
 rcases h with⟨rfl,rfl⟩|⟨b,off,cap,B,rfl,z,d,aA,q,Y,N,I⟩
 ·have R:=run_append_nil (P:=Tryz.prog) (w:=w) 69 ty 3 Z (.int .i64 0) Tryz.underlying69 n U O 1 c [zL x] (by rw[G];rfl) f (by decide) (by decide) (by rw[V];decide);exact⟨_,_,R,Que.made w.drew (xs:=[x]) C (grownCap_ge w 1 0 3) (grownCap_le_maxLen w 1 0 3 (by decide)),⟨rfl,rfl,rfl,by simp,fun k a _=>heap_alloc_old w.drew _ a⟩,fun g X=>Or.inr (Nat.le_of_eq (Option.some.inj X))⟩
 ·by_cases J:xs.length+1<=cap
  ·have H:off+xs.length<B.size:=(by omega);have L:w.cell? ⟨b,off+xs.length,none⟩=some B[off+xs.length]:=by
    rw[cell_of_row w b (off+xs.length) B 3 (0,0) d,Array.getElem?_eq_getElem H]
   have i:w.frozen? ⟨b,off+xs.length,none⟩=false:=(by simp[World.frozen?,d]);have F:Z.size=1:=G;have R:=run_append_room_cells (P:=Tryz.prog) w 69 ty 3 Z Tryz.underlying69 n b off xs.length cap O 1 c [zL x] (by rw[F];rfl) f t J
    (fun j T=>by
     rw[F];have:j=0:=by simpa using T
     subst this;rw[Nat.mul_one,Nat.add_zero,L];rfl)
    (fun j T=>by
     rw[F];have:j=0:=by simpa using T
     subst this;rw[Nat.mul_one,Nat.add_zero];exact i)
   rw[F,Nat.mul_one]at R;refine⟨_,_,R,Or.inr ⟨b,off,cap,B.setIfInBounds (off+xs.length) (zL x),by rw[E],z,heap_setCell_same w b (off+xs.length) B 3 (zL x) d,by omega,q,by simpa using Y,fun u A=>?_,fun j y M=>?_⟩,⟨rfl,rfl,rfl,by simp[World.setCells],fun k a o=>?_⟩,fun g X=>Or.inl X⟩
   ·rw[Array.toList_setIfInBounds]at A;rcases List.mem_or_eq_of_mem_set A with A|rfl
    ·exact N u A
    ·exact⟨_,rfl⟩
   ·by_cases T:j<xs.length
    ·rw[List.getElem?_append_left T]at M;rw[Array.getElem?_setIfInBounds_ne (by omega)];exact I j y M
    ·have l:j=xs.length:=by
      have:=(List.getElem?_eq_some_iff.1 M).1;rw[E]at this;omega
     subst l;rw[List.getElem?_append_right Xl,Nat.sub_self]at M;have M:x=y:=Option.some.inj M;rw[<-M,Array.getElem?_setIfInBounds_self_of_lt H]
   ·exact Xk _ _ _ _ (fun e=>o (by rw[e];rfl))
  ·have R:=run_append_grow (P:=Tryz.prog) (w:=w) 69 ty 3 Z (.int .i64 0) Tryz.underlying69 n U ⟨b,off,none⟩ xs.length cap (xs.map zL) (by rw[G];simp)
    (fun j u A=>by
     rw[List.getElem?_map]at A;cases m:xs[j]? with
     |none=>rw[m]at A;cases A
     |some y =>
      rw[m]at A;have A:zL y=u:=Option.some.inj A;rw[<-A,zbq rfl,cell_of_row w b (off+j) B 3 (0,0) d];exact I j y m) O 1 c [zL x] (by rw[G];rfl) f (by omega) (by unfold maxLen at S;omega) (growslice_fits (by omega) (by rw[V];exact D))
   have r:=Que.made w.drew (xs:=xs++[x]) (base:=base) (cap:=grownCap w (xs.length+1) cap 3) C (by rw[E];exact grownCap_ge w _ _ _) (grownCap_le_maxLen w _ _ _ S);rw[E,List.map_append,<-List.append_toArray]at r;exact⟨_,_,R,r,⟨rfl,rfl,rfl,by simp,fun k a _=>heap_alloc_old w.drew _ a⟩,fun g X=>Or.inr (Nat.le_of_eq (Option.some.inj X))⟩
theorem qC{w:World}{E:Array Oper}{B:List Oper}{o:Oper}{a:Act}{Q:Exit->Act->World->Prop}(F:o.guard=none)(s x:Operand)(I:o.op=.call { callee:=.builtin .append,args:=#[s,x],argTypes:=#[69,69] })(base:Nat)(v:Value)(xs:List Nat)(hs:a.eval s=v)(h:Que w base v xs)(C:base<=w.heap.size)(y:Nat)(G:Addr)(c:Nat)(J:a.eval x=.slice (some G) 1 c)(L:w.cell? (G.add 0)=some (zL y))(H:xs.length+1<=maxLen)(A:(xs.length+1)*8<=140737488355328)(M:∀D w',Que w' base D (xs++[y])->w.grownBy w' v.ownBlock->(∀g,D.ownBlock=some g->v.ownBlock=some g\/w.heap.size<=g)->wpList Tryz.prog E Q B (a.put o.dst D) w'):wpList Tryz.prog E Q (o::B) a w:=by
 obtain⟨D,w',N,O,P,R⟩:=Qcb o.type h C y G c L H A;exact Lib.wpList_append_run w F s x 69 69 I v _ hs J D w' N (M D w' O P R)
end Go.Proofs.YtlmfmioljeppfaaGreatDoor
