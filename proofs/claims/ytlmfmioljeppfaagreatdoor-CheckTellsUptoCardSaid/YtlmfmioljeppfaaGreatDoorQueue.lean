/- Lemmas; conditions: as each states. -/
import Derived.Test.YtlmfmioljeppfaaGreatDoorFrameOps
set_option maxHeartbeats 4000000
namespace Go.Proofs.YtlmfmioljeppfaaGreatDoor
open Go.RowKit Go.Shelf Go.Lib
def ZV(i:Nat):Value:=.int .i64 (i:Int)
theorem QdZ:(Tryz.prog.info? 3).map (fun i=>(i.zero,i.size,i.bytes))=some (some (.int .i64 0),1,8):=by kernel_rfl
def Que(w:World)(base:Nat)(v:Value)(xs:List Nat):Prop:=(v=.slice none 0 0/\xs=[]) \/
 ∃b off cap cur,v=.slice (some ⟨b,off,none⟩) xs.length cap/\base<=b/\w.heap[b]? = some (.cells cur 3 (0,0))/\xs.length<=cap/\cap<=maxLen/\off+cap<=cur.size/\(∀u∈cur.toList,∃k,u=.int .i64 k)/\∀j x,xs[j]? = some x->cur[off+j]? = some (ZV x)
theorem Que.empty(w:World)(base:Nat):Que w base (.slice none 0 0) []:=Or.inl ⟨rfl,rfl⟩
theorem Que.lt{w:World}{base:Nat}{v:Value}{xs:List Nat}(h:Que w base v xs):∀g,v.ownBlock=some g->base<=g/\g<w.heap.size:=by
 intro g hg;rcases h with⟨rfl,_⟩|⟨b,off,cap,cur,rfl,h1,h2,_⟩
 ·cases hg
 ·injection hg with hg
  subst hg;exact⟨h1,(Array.getElem?_eq_some_iff.1 h2).1⟩
theorem Que.keep{w w':World}{base:Nat}{v:Value}{xs:List Nat}(h:Que w base v xs)(hb:∀g,v.ownBlock=some g->w'.heap[g]? = w.heap[g]?):Que w' base v xs:=by
 rcases h with h|⟨b,off,cap,cur,rfl,h1,h2,h3⟩
 ·exact Or.inl h
 ·exact Or.inr ⟨b,off,cap,cur,rfl,h1,(hb b rfl).trans h2,h3⟩
theorem QdC{n:Nat}{u:Value}(h:u∈(Builtin.zeroCells (Value.int .i64 0).cells n).toList):∃k,u=.int .i64 k:=by
 unfold Builtin.zeroCells at h;simp only[Array.toList_map,List.mem_map]at h;obtain⟨i,_,rfl⟩:=h;rw[show i % (Value.int .i64 0).cells.size=0 from Nat.mod_one i];exact⟨0,rfl⟩
theorem Que.made(w:World){base cap:Nat}{xs:List Nat}(hb:base<=w.heap.size)(h1:xs.length<=cap)(h2:cap<=maxLen):Que (w.alloc (.cells ((xs.map ZV).toArray++Builtin.zeroCells (Value.int .i64 0).cells (cap-xs.length)) 3)) base (.slice (some ⟨w.heap.size,0,none⟩) xs.length cap) xs:=by
 refine Or.inr ⟨w.heap.size,0,cap,_,rfl,hb,heap_alloc_new _ _,h1,h2,?_,fun u hu=>?_,fun j x hx=>?_⟩
 ·rw[Array.size_append,size_zeroCells,List.size_toArray,List.length_map];show 0+cap<=xs.length+(cap-xs.length)*1
  omega
 ·rw[Array.toList_append,List.mem_append]at hu;rcases hu with hu|hu
  ·obtain⟨x,_,rfl⟩:=List.mem_map.1 hu;exact⟨_,rfl⟩
  ·exact QdC hu
 ·have hj:=(List.getElem?_eq_some_iff.1 hx).1;rw[Nat.zero_add,Array.getElem?_append_left (by simpa using hj)];simp[hx]
def Qy(w w':World):Prop:=∀a s,w.cell? a=some (.string s)->w'.cell? a=some (.string s)
theorem Zl{w:World}{a:Addr}{v:Value}(h:w.cell? a=some v):a.block<w.heap.size:=by
 unfold World.cell? at h;cases hb:w.heap[a.block]? with
 |none=>simp[hb]at h
 |some o'=>exact(Array.getElem?_eq_some_iff.1 hb).1
theorem Qy.trans{a b c:World}(h:Qy a b)(k:Qy b c):Qy a c:=fun x s e=>k x s (h x s e)
theorem Qy.below{w w':World}(h:Below w.heap.size w w'):Qy w w':=fun _ _ e=>(h.cell (Zl e)).trans e
theorem Qy.blocks{w w':World}(g:Nat)(hg:∀k,k<w.heap.size->k≠g->w'.heap[k]? = w.heap[k]?)(hn:∀a s,a.block=g->w.cell? a≠some (.string s)):Qy w w':=fun a s e=>by
 by_cases ha:a.block=g
 ·exact absurd e (hn a s ha)
 ·exact(World.cell?_of_block (hg a.block (Zl e) ha)).trans e
theorem Que.keepS{w w':World}{base:Nat}{v:Value}{xs:List Nat}(h:Que w base v xs)(hg:w.grownBy w' v.ownBlock):Qy w w':=by
 rcases h with⟨rfl,_⟩|⟨b,off,cap,cur,rfl,_,h2,_,_,_,h6,_⟩
 ·exact fun a s e=>(World.cell?_of_block (hg.block a.block (Zl e) (by simp[Value.ownBlock]))).trans e
 ·refine Qy.blocks b (fun k hk hne=>hg.block k hk fun e=>hne (Option.some.inj e)) fun a s ha e=>?_
  unfold World.cell? at e;rw[ha,h2]at e;dsimp only at e;split at e
  ·cases e
  ·obtain⟨k,hk⟩:=h6 _ (Array.mem_toList_iff.2 (Array.mem_of_getElem? e));cases hk
theorem Qy.strs{w w':World}(h:Qy w w'){v:Value}{l:List Str}(hs:Qh w v l):Qh w' v l:=by
 rcases hs with hs|⟨a,cap,h1,h2,h3,h4⟩
 ·exact Or.inl hs
 ·refine Or.inr ⟨a,cap,h1,h2,h3,fun i x hi=>?_⟩;obtain⟨vs,r1,r2,r3,r4⟩:=h4 i x hi;have r1':vs=[.string x]:=r1;subst r1';exact⟨_,rfl,rfl,r3,h _ _ r4.1,trivial⟩
theorem Que.head{w:World}{base:Nat}{v:Value}{x:Nat}{xs:List Nat}(h:Que w base v (x::xs)):∃b off cap,v=.slice (some ⟨b,off,none⟩) (xs.length+1) (cap+1)/\w.cell? ⟨b,off,none⟩=some (ZV x)/\xs.length<=cap/\cap+1<=maxLen /\
 Que w base (.slice (if cap=0 then some ⟨b,off,none⟩ else some ⟨b,off+1,none⟩) xs.length cap) xs:=by
 rcases h with⟨_,h⟩|⟨b,off,cap,cur,rfl,h1,h2,h3,h4,h5,hi,h6⟩
 ·cases h
 ·rw[List.length_cons]at h3;obtain⟨c,rfl⟩:∃c,cap=c+1:=⟨cap-1,by omega⟩;refine⟨b,off,c,rfl,?_,by omega,h4,?_⟩
  ·have:=h6 0 x rfl;rw[cell_of_row w b off cur 3 (0,0) h2];simpa using this
  ·by_cases hc:c=0
   ·subst hc;have:xs=[]:=List.eq_nil_of_length_eq_zero (by omega);subst this;exact Or.inr ⟨b,off,0,cur,rfl,h1,h2,Xl,Nat.zero_le _,by omega,hi,fun j x hx=>by simp at hx⟩
   ·rw[if_neg hc];refine Or.inr ⟨b,off+1,c,cur,rfl,h1,h2,by omega,by omega,by omega,hi,fun j y hy=>?_⟩;have:=h6 (j+1) y (by simpa using hy);rw[<-this];congr 1;omega
theorem zca{w:World}(ty:TypeId){base:Nat}{v:Value}{xs:List Nat}(h:Que w base v xs)(hbase:base<=w.heap.size)(x:Nat)(ad:Addr)(c:Nat)(hc:w.cell? (ad.add 0)=some (ZV x))(h63:xs.length+1<=maxLen)(hbytes:(xs.length+1)*8<=140737488355328):
 ∃v' w',(Builtin.append_ #[69,69] ty #[v,.slice (some ad) 1 c]).run Tryz.prog w=.ok v' w'/\Que w' base v' (xs++[x])/\w.grownBy w' v.ownBlock/\∀g,v'.ownBlock=some g->v.ownBlock=some g\/w.heap.size<=g:=by
 obtain⟨i0,hi,hz0,hz1,hz2⟩:=info_parts QdZ;have hn:∀j u,[ZV x][j]? = some u->w.cell? (ad.add j)=some u:=fun j u hu=>by
  cases j with
  |zero=>simp at hu;subst hu;exact hc
  |succ j=>simp at hu
 have h1:∀u∈[ZV x],u.oneCell'=true:=fun u hu=>by rw[List.mem_singleton.1 hu];rfl
 have hxs:(xs++[x]).length=xs.length+1:=by simp
 rcases h with⟨rfl,rfl⟩|⟨b,off,cap,cur,rfl,hb,hh,hlc,hcm,hfit,hints,hcur⟩
 ·have hr:=run_append_nil (P:=Tryz.prog) (w:=w) 69 ty 3 i0 (.int .i64 0) Tryz.underlying69 hi hz0 ad 1 c [ZV x] (by rw[hz1];rfl) hn (by decide) (by decide) (by rw[hz2];decide);exact⟨_,_,hr,Que.made w.drew (xs:=[x]) hbase (grownCap_ge w 1 0 3) (grownCap_le_maxLen w 1 0 3 (by decide)),⟨rfl,rfl,rfl,by simp,fun k hk _=>heap_alloc_old w.drew _ hk⟩,fun g hg=>Or.inr (Nat.le_of_eq (Option.some.inj hg))⟩
 ·by_cases hroom:xs.length+1<=cap
  ·have hidx:off+xs.length<cur.size:=(by omega);have hcell:w.cell? ⟨b,off+xs.length,none⟩=some cur[off+xs.length]:=by
    rw[cell_of_row w b (off+xs.length) cur 3 (0,0) hh,Array.getElem?_eq_getElem hidx]
   have hfr:w.frozen? ⟨b,off+xs.length,none⟩=false:=(by simp[World.frozen?,hh]);have hsz:i0.size=1:=hz1;have hr:=run_append_room_cells (P:=Tryz.prog) w 69 ty 3 i0 Tryz.underlying69 hi b off xs.length cap ad 1 c [ZV x] (by rw[hsz];rfl) hn h1 hroom
    (fun j hj=>by
     rw[hsz];have:j=0:=by simpa using hj
     subst this;rw[Nat.mul_one,Nat.add_zero,hcell];rfl)
    (fun j hj=>by
     rw[hsz];have:j=0:=by simpa using hj
     subst this;rw[Nat.mul_one,Nat.add_zero];exact hfr)
   rw[hsz,Nat.mul_one]at hr;refine⟨_,_,hr,Or.inr ⟨b,off,cap,cur.setIfInBounds (off+xs.length) (ZV x),by rw[hxs],hb,heap_setCell_same w b (off+xs.length) cur 3 (ZV x) hh,by omega,hcm,by simpa using hfit,fun u hu=>?_,fun j y hy=>?_⟩,⟨rfl,rfl,rfl,by simp[World.setCells],fun k hk hne=>?_⟩,fun g hg=>Or.inl hg⟩
   ·rw[Array.toList_setIfInBounds]at hu;rcases List.mem_or_eq_of_mem_set hu with hu|rfl
    ·exact hints u hu
    ·exact⟨_,rfl⟩
   ·by_cases hj:j<xs.length
    ·rw[List.getElem?_append_left hj]at hy;rw[Array.getElem?_setIfInBounds_ne (by omega)];exact hcur j y hy
    ·have hj2:j=xs.length:=by
      have:=(List.getElem?_eq_some_iff.1 hy).1;rw[hxs]at this;omega
     subst hj2;rw[List.getElem?_append_right Xl,Nat.sub_self]at hy;have hy:x=y:=Option.some.inj hy;rw[<-hy,Array.getElem?_setIfInBounds_self_of_lt hidx]
   ·exact Xk _ _ _ _ (fun e=>hne (by rw[e];rfl))
  ·have hr:=run_append_grow (P:=Tryz.prog) (w:=w) 69 ty 3 i0 (.int .i64 0) Tryz.underlying69 hi hz0 ⟨b,off,none⟩ xs.length cap (xs.map ZV) (by rw[hz1];simp)
    (fun j u hu=>by
     rw[List.getElem?_map]at hu;cases hx:xs[j]? with
     |none=>rw[hx]at hu;cases hu
     |some y =>
      rw[hx]at hu;have hu:ZV y=u:=Option.some.inj hu;rw[<-hu,zaR rfl,cell_of_row w b (off+j) cur 3 (0,0) hh];exact hcur j y hx) ad 1 c [ZV x] (by rw[hz1];rfl) hn (by omega) (by unfold maxLen at h63;omega) (growslice_fits (by omega) (by rw[hz2];exact hbytes))
   have hm:=Que.made w.drew (xs:=xs++[x]) (base:=base) (cap:=grownCap w (xs.length+1) cap 3) hbase (by rw[hxs];exact grownCap_ge w _ _ _) (grownCap_le_maxLen w _ _ _ h63);rw[hxs,List.map_append,<-List.append_toArray]at hm;exact⟨_,_,hr,hm,⟨rfl,rfl,rfl,by simp,fun k hk _=>heap_alloc_old w.drew _ hk⟩,fun g hg=>Or.inr (Nat.le_of_eq (Option.some.inj hg))⟩
theorem QM{w:World}{ops:Array Oper}{rest:List Oper}{o:Oper}{a:Act}{Q:Exit->Act->World->Prop}(hgd:o.guard=none)(s x:Operand)(ho:o.op=.call { callee:=.builtin .append,args:=#[s,x],argTypes:=#[69,69] })(base:Nat)(v:Value)(xs:List Nat)(hs:a.eval s=v)(h:Que w base v xs)(hbase:base<=w.heap.size)(y:Nat)(ad:Addr)(c:Nat)(hx:a.eval x=.slice (some ad) 1 c)(hc:w.cell? (ad.add 0)=some (ZV y))(h63:xs.length+1<=maxLen)(hbytes:(xs.length+1)*8<=140737488355328)(hK:∀v' w',Que w' base v' (xs++[y])->w.grownBy w' v.ownBlock->(∀g,v'.ownBlock=some g->v.ownBlock=some g\/w.heap.size<=g)->wpList Tryz.prog ops Q rest (a.put o.dst v') w'):wpList Tryz.prog ops Q (o::rest) a w:=by
 obtain⟨v',w',hr,h1,h2,h3⟩:=zca o.type h hbase y ad c hc h63 hbytes;exact Lib.wpList_append_run w hgd s x 69 69 ho v _ hs hx v' w' hr (hK v' w' h1 h2 h3)
end Go.Proofs.YtlmfmioljeppfaaGreatDoor
