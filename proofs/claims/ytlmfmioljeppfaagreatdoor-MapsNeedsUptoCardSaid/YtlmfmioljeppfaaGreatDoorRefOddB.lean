/- Lemmas; conditions: as each states. -/
import Derived.Test.YtlmfmioljeppfaaGreatDoorRefWants2
set_option maxHeartbeats 4000000
namespace Go.Proofs.YtlmfmioljeppfaaGreatDoor
open Go.RowKit Go.Shelf Go.Lib
def Ql(w:World)(o:Option (List Str×List Str))(e:Ending)(w':World):Prop :=
 Below w.heap.size w w'/\((o=none/\∃p n c q m d,e=.returned (.tuple #[.agg #[.slice p n c,.slice q m d],.bool false]))\/∃L S v1 v2,o=some (L,S)/\e=.returned (.tuple #[.agg #[v1,v2],.bool true])/\zk w' v1 v2 ⟨L,S⟩)
theorem Ql.no{w w':World}{o:Option (List Str×List Str)}{p q:Option Addr}{n c m d:Nat}(h:o=none)(A:Below w.heap.size w w'):Ql w o (.returned (.tuple #[.agg #[.slice p n c,.slice q m d],.bool false])) w':=⟨A,Or.inl ⟨h,_,_,_,_,_,_,rfl⟩⟩
theorem Ql.yes{w w':World}{o:Option (List Str×List Str)}{L S:List Str}{A B:Value}(h:o=some (L,S))(C:Below w.heap.size w w')(D:zk w' A B ⟨L,S⟩):Ql w o (.returned (.tuple #[.agg #[A,B],.bool true])) w':=⟨C,Or.inr ⟨L,S,A,B,h,rfl,D⟩⟩
structure OX (w wx:World) (op a b:Int) (type cls name:Str) (f1 f2 r1 r2:Value):Prop where
 below:Below w.heap.size w wx
 box:Blk wx w.heap.size 24 [.int .i64 op,.int .i64 a,.int .i64 b,.string type,.string cls,.string name]
 frm:Blk wx (w.heap.size+1) 27 [f1,f2]
 res:Blk wx (w.heap.size+1+1) 27 [r1,r2]
variable {w wx wy:World} {op a b:Int} {type cls name:Str} {f1 f2 r1 r2:Value}
theorem OX.new(w:World)(op a b:Int)(type cls name:Str)(f1 f2:Value):OX w (((w.alloc (.cells #[.int .i64 op,.int .i64 a,.int .i64 b,.string type,.string cls,.string name] 24)).alloc (.cells #[f1,f2] 27)).alloc (.cells #[.slice none 0 0,.slice none 0 0] 27)) op a b type cls name f1 f2 (.slice none 0 0) (.slice none 0 0):=by
 refine⟨((Xb.alloc Xl _).alloc (by simp) _).alloc (by simp;omega) _,?_,?_,?_⟩
 ·exact(Blk.new w 24 _).step ((Xb.alloc Xl _).alloc (by simp) _)
 ·have:=(Blk.new (w.alloc (.cells #[.int .i64 op,.int .i64 a,.int .i64 b,.string type,.string cls,.string name] 24)) 27 [f1,f2]).step (Xb.alloc Xl (.cells #[.slice none 0 0,.slice none 0 0] 27));simpa using this
 ·have:=Blk.new ((w.alloc (.cells #[.int .i64 op,.int .i64 a,.int .i64 b,.string type,.string cls,.string name] 24)).alloc (.cells #[f1,f2] 27)) 27 [.slice none 0 0,.slice none 0 0];simpa using this
theorem OX.step(h:OX w wx op a b type cls name f1 f2 r1 r2)(A:Below wx.heap.size wx wy):OX w wy op a b type cls name f1 f2 r1 r2:=⟨Qa h.below Xl A,h.box.step A,h.frm.step A,h.res.step A⟩
theorem OX.alloc(h:OX w wx op a b type cls name f1 f2 r1 r2)(o:Obj):OX w (wx.alloc o) op a b type cls name f1 f2 r1 r2:=h.step (Xb.alloc Xl o)
theorem OX.grown{r:Option Nat}(h:OX w wx op a b type cls name f1 f2 r1 r2)(A:wx.grownBy wy r)(B:∀g,r=some g->w.heap.size+3<=g):OX w wy op a b type cls name f1 f2 r1 r2 :=
 ⟨h.below.grown A h.below.size (fun g e=>by have:=B g e;omega),h.box.grown A (fun e=>by have:=B _ e;omega),h.frm.grown A (fun e=>by have:=B _ e;omega),h.res.grown A (fun e=>by have:=B _ e;omega)⟩
theorem OX.low(h:OX w wx op a b type cls name f1 f2 r1 r2):w.heap.size+3<=wx.heap.size:=h.res.lt
theorem OX.cells(h:OX w wx op a b type cls name f1 f2 r1 r2):(wx.cell? ⟨w.heap.size,0,none⟩=some (.int .i64 op)/\wx.cell? ⟨w.heap.size,1,none⟩=some (.int .i64 a)/\wx.cell? ⟨w.heap.size,2,none⟩=some (.int .i64 b)/\wx.cell? ⟨w.heap.size,3,none⟩=some (.string type)/\wx.cell? ⟨w.heap.size,4,none⟩=some (.string cls)/\wx.cell? ⟨w.heap.size,5,none⟩=some (.string name))/\wx.cell? ⟨w.heap.size+1,0,none⟩=some f1/\wx.cell? ⟨w.heap.size+1,1,none⟩=some f2/\wx.cell? ⟨w.heap.size+1+1,0,none⟩=some r1/\wx.cell? ⟨w.heap.size+1+1,1,none⟩=some r2:=⟨h.box.cells6,h.frm.cell 0,h.frm.cell 1,h.res.cell 0,h.res.cell 1⟩
theorem OX.put(h:OX w wx op a b type cls name f1 f2 r1 r2)(u v:Value):Below w.heap.size w ((wx.setCell ⟨w.heap.size+1+1,0,none⟩ u).setCell ⟨w.heap.size+1+1,1,none⟩ v):=Q5 h.below (by omega) u v
structure Z0 (w wx:World) (lv sv:Value) (L S:List Str) (mid:Nat):Prop where
 low:w.heap.size+3<=mid
 own1:wx.ownsRow (w.heap.size+3) 9 1 lv L.length (L.map Value.string)
 lt1:∀g,lv.ownBlock=some g->g<mid
 own2:wx.ownsRow mid 9 1 sv S.length (S.map Value.string)
theorem Z0.step{B C:Value}{L S:List Str}{A:Nat}(h:Z0 w wx B C L S A)(D:Below wx.heap.size wx wy):Z0 w wy B C L S A:=⟨h.low,Zr h.own1 D,h.lt1,Zr h.own2 D⟩
theorem Z0.frame{A B:Value}{L S:List Str}{C:Nat}(h:Z0 w wx A B L S C)(u v:Value):zk ((wx.setCell ⟨w.heap.size+1+1,0,none⟩ u).setCell ⟨w.heap.size+1+1,1,none⟩ v) A B ⟨L,S⟩:=by
 have f1:A.ownBlock≠some (w.heap.size+1+1):=fun e=>by have:=(h.own1.lt _ e).1;omega
 have f2:B.ownBlock≠some (w.heap.size+1+1):=fun e=>by have:=(h.own2.lt _ e).1;have:=h.low;omega
 exact⟨Ze (zai (zai h.own1 f1 0 u) f1 1 v),Ze (zai (zai h.own2 f2 0 u) f2 1 v)⟩
theorem Z0.split{H F:Value}{L r:List Str}{k:Str}{A:Nat}(h:Z0 w wx H F L (r++[k]) A):∃g cap,F=.slice (some ⟨g,0,none⟩) (r.length+1) cap/\r.length+1<=cap/\cap<=maxLen/\wx.cell? ⟨g,r.length,none⟩=some (.string k)/\A<=g/\Z0 w wx H (.slice (some ⟨g,0,none⟩) r.length cap) L r A:=by
 have B:=h.own2;have C:(r++[k]).length=r.length+1:=by simp
 rw[C,List.map_append]at B;obtain⟨g,cap,rfl,G,D,E⟩:∃g cap,F=.slice (some ⟨g,0,none⟩) (r.length+1) cap/\A<=g/\r.length+1<=cap/\cap<=maxLen:=by
  rcases B.2 with⟨_,P⟩|⟨g,cap,I,J,M,_,N,O,_⟩
  ·omega
  ·exact⟨g,cap,J,M,N,O⟩
 refine⟨g,cap,rfl,D,E,?_,G,h.low,h.own1,h.lt1,ownsRow_pop (by simp) B⟩;rw[World.ownsRow.cellAt B r.length (by omega)];simp
theorem Z0.put{B C v:Value}{L S l:List Str}{A:Nat}(h:Z0 w wx B C L S A)(D:wx.grownBy wy C.ownBlock)(E:wy.ownsRow A 9 1 v (S.length+l.length) (S.map Value.string++l.map Value.string)):Z0 w wy B v L (S++l) A:=by
 refine⟨h.low,h.own1.kept D ?_,h.lt1,by rw[List.length_append,List.map_append];exact E⟩;cases F:B.ownBlock with
 |none=>exact Or.inl rfl
 |some g =>
  refine Or.inr fun e=>?_
  have G:=h.lt1 g F;have:=(h.own2.lt g e.symm).1;omega
theorem Z0.local{C D:Value}{L S:List Str}{B i:Nat}{k:Str}(h:Z0 w wx C D L S B)(E:L[i]? = some k):∃g c,C=.slice (some ⟨g,0,none⟩) L.length c/\wx.cell? ⟨g,i,none⟩=some (.string k):=by
 have A:=h.own1;obtain⟨G,rfl⟩:=List.getElem?_eq_some_iff.1 E;rcases A.2 with⟨_,H⟩|⟨g,cap,F,rfl,_⟩
 ·omega
 ·refine⟨g,cap,rfl,?_⟩;rw[World.ownsRow.cellAt A i (by omega)];simp
theorem OX.app1{F:Value}{G:Option Addr}{H n:Nat}{L S:List Str}{A:Nat}{k:Str}{C:Value}{B:World}(T:OX w wx op a b type cls name f1 f2 r1 r2)(R:Z0 w wx F (.slice G n H) L S A)(I:(wx.alloc (.cells #[.string k] 9)).grownBy B (Value.slice G n H).ownBlock)(J:B.ownsRow A 9 1 C (S.length+[k].length) (S.map Value.string++[k].map Value.string)):
 ∃D E,C=.slice D (S.length+1) E/\OX w B op a b type cls name f1 f2 r1 r2/\Z0 w B F C L (S++[k]) A:=by
 obtain⟨D,E,rfl⟩:=qe J;have M:=R.step (Xb.alloc Xl (.cells #[.string k] 9));refine⟨D,E,rfl,(T.alloc _).grown I (fun g e=>Xf R.low (R.own2.lt g e).1),M.put I J⟩
theorem OX.set1{B:Value}{g n c:Nat}{L S:List Str}{A:Nat}(T:OX w wx op a b type cls name f1 f2 r1 r2)(R:Z0 w wx (.slice (some ⟨g,0,none⟩) n c) B L S A)(C:n=L.length)(i:Nat)(k:Str):
 OX w (wx.setCell ⟨g,i,none⟩ (.string k)) op a b type cls name f1 f2 r1 r2/\Z0 w (wx.setCell ⟨g,i,none⟩ (.string k)) (.slice (some ⟨g,0,none⟩) n c) B (L.set i k) S A:=by
 subst C;have D:=(R.own1.lt g rfl).1;have E:=R.lt1 g rfl;obtain⟨F,G⟩:=World.ownsRow.stored R.own1 i (.string k);refine⟨T.grown G (fun H e=>by injection e with e;omega),R.low,?_,R.lt1,zai R.own2 (fun e=>by have:=(R.own2.lt _ e).1;omega) i _⟩;rw[List.length_set,List.map_set];exact F
theorem zv{w w':World}{a:Addr}{v:Value}(A:Below w.heap.size w w')(h:w.cell? a=some v):w'.cell? a=some v:=(A.cell (World.block_lt_of_cell? w a h)).trans h
theorem zev{C W w':World}{A:Addr}{v x:Value}{n B:Nat}(D:W.grownBy w' v.ownBlock)(E:∀g,v.ownBlock=some g->B<=g/\g<n)(F:C.cell? A=some x)(G:C.heap.size<=B)(h:W.cell? A=some x):w'.cell? A=some x:=by
 have H:=World.block_lt_of_cell? C A F;rw[D.cell_far A (World.block_lt_of_cell? _ A h) (fun e=>by have:=(E _ e.symm).1;omega)];exact h
theorem OX.appL{F:Value}{G:Option Addr}{H n:Nat}{L S l:List Str}{A:Nat}{C:Value}{B:World}{o:Obj}(T:OX w wx op a b type cls name f1 f2 r1 r2)(R:Z0 w wx F (.slice G n H) L S A)(I:(wx.alloc o).grownBy B (Value.slice G n H).ownBlock)(J:B.ownsRow A 9 1 C (S.length+l.length) (S.map Value.string++l.map Value.string)):
 ∃D E,C=.slice D (S.length+l.length) E/\OX w B op a b type cls name f1 f2 r1 r2/\Z0 w B F C L (S++l) A:=by
 obtain⟨D,E,rfl⟩:=qe J;have M:=R.step (Xb.alloc Xl o);exact⟨D,E,rfl,(T.alloc _).grown I (fun g e=>Xf R.low (R.own2.lt g e).1),M.put I J⟩
theorem Z0.split2{C D:Value}{L r:List Str}{k u:Str}{A:Nat}(h:Z0 w wx C D L (r++[k]++[u]) A):∃g cap,D=.slice (some ⟨g,0,none⟩) (r.length+2) cap/\r.length+2<=cap/\cap<=maxLen/\wx.cell? ⟨g,r.length+1,none⟩=some (.string u)/\wx.cell? ⟨g,r.length,none⟩=some (.string k)/\Z0 w wx C (.slice (some ⟨g,0,none⟩) r.length cap) L r A:=by
 obtain⟨g,cap,rfl,F,I,G,_,J⟩:=h.split;have E:(r++[k]).length=r.length+1:=by simp
 obtain⟨P,H,e,_,_,M,_,N⟩:=J.split;injection e with B _ O
 injection B with B
 injection B with B
 subst B O;rw[E]at F G;exact⟨g,cap,by rw[E],F,I,G,M,N⟩
theorem Z0.split3{C D:Value}{L r:List Str}{i j k:Str}{A:Nat}(h:Z0 w wx C D L (r++[i]++[j]++[k]) A):∃g cap,D=.slice (some ⟨g,0,none⟩) (r.length+3) cap/\r.length+3<=cap/\cap<=maxLen/\wx.cell? ⟨g,r.length+2,none⟩=some (.string k)/\wx.cell? ⟨g,r.length+1,none⟩=some (.string j)/\wx.cell? ⟨g,r.length,none⟩=some (.string i)/\Z0 w wx C (.slice (some ⟨g,0,none⟩) r.length cap) L r A:=by
 obtain⟨g,cap,rfl,F,I,G,_,J⟩:=h.split;have E:(r++[i]++[j]).length=r.length+2:=by simp
 obtain⟨R,H,e,_,_,M,N,O⟩:=J.split2;injection e with B _ P
 injection B with B
 injection B with B
 subst B P;rw[E]at F G;exact⟨g,cap,by rw[E],F,I,G,M,N,O⟩
theorem zc0{w:World}{p:Option Addr}{n c:Nat}{r:List Str}{j k:Str}(h:Qh w (.slice p n c) (r++[j]++[k])):∃b o,p=some ⟨b,o,none⟩/\w.cell? ⟨b,o+r.length,none⟩=some (.string j)/\w.cell? ⟨b,o+(r.length+1),none⟩=some (.string k):=by
 obtain⟨⟨b,o,rfl⟩,_⟩:=h.ptr (by simp);refine⟨b,o,rfl,?_,?_⟩
 ·exact h.cell (k:=r.length) (by simp)
 ·exact h.cell (k:=r.length+1) (by simp)
theorem Zc0{cs:List Qb}{t k u:Str}{L r:List Str}(A:zd cs t=0)(B:Zs (lst t)=true)(C:zd cs k=0)(D:zd cs u=0)(h:((u.toList==[73])&&Zx cs (Zo k) (Zo (ZF t)))=false):((qJ cs t (r++[k]++[u])).bind fun E=>Zv L E t)=none:=by
 rw[qcb A B C D,if_neg (by rw[h];decide)];rfl
theorem zdL{cs:List Qb}{t k u:Str}{L r:List Str}(A:zd cs t=0)(B:Zs (lst t)=true)(C:zd cs k=0)(D:zd cs u=0)(h:((u.toList==[73])&&Zx cs (Zo k) (Zo (ZF t)))=true)(E:r.length<8):((qJ cs t (r++[k]++[u])).bind fun F=>Zv L F t)=some (L,r++[t]):=by
 rw[qcb A B C D,if_pos h];exact Za9 E
theorem Zct{op a b:Int}{type cls name:Str}(h:Zi ⟨op,a,b,type,cls,name⟩=0)(B:op=4\/op=5):0<=a/\a<8:=by
 unfold Zi at h;dsimp only at h;split at h
 ·cases h
 ·split at h
  ·cases h
  ·split at h
   ·cases h
   ·rename_i A;have A:qM ⟨op,a,b,type,cls,name⟩=true:=(by cases C:qM ⟨op,a,b,type,cls,name⟩<;>simp_all);unfold qM at A;rw[if_neg (by dsimp only;omega),if_pos (by dsimp only;omega)]at A;simpa using A
theorem qct{L r:List Str}{k:Str}(h:8<=r.length):Zv L r k=none:=by
 rw[qdd,if_neg (by rw[List.length_append];show ¬(r.length+1<=8);omega)]
theorem qd7{L r:List Str}{k:Str}(h:8<=r.length+1):((zI (r++[k])).bind fun p=>(ZK p.2 p.1).bind fun A=>Zv L A p.1)=none:=by
 rw[ZO,Option.bind_some];dsimp only;unfold ZK;split
 ·exact qct (by rw[List.length_append];exact h)
 ·rfl
theorem Qd7{cs:List Qb}{k:Str}(E:zd cs k=0)(F:(k.toList==[78])=false):∃B:0<k.size,zX k=!(((k[0]'B).toNat:Int) != 91):=by
 obtain⟨X,G,_⟩:=ZM E;have B:0<k.size:=by
  rw[<-QB k,show k.data.toList=Qo X from G.symm];cases X with
  |n=>decide
  |t=>decide
  |ty x=>exact List.length_pos_iff.2 (qaA x)
 refine⟨B,?_⟩;unfold zX;rw[F,Bool.false_or,ByteArray.toList_eq];have A:=qbw B;cases D:k.data.toList with
 |nil=>rw[D]at A;cases A
 |cons c r =>
  rw[D]at A;injection A with A
  rw[<-A];unfold Lib.hasPrefix;rw[List.isPrefixOf_cons_cons,List.isPrefixOf_nil_left,Bool.and_true];by_cases C:c=91
  ·subst C;decide
  ·rw[show(((91:UInt8)==c))=false from beq_false_of_ne (Ne.symm C)];have:¬((c.toNat:Int)=91):=fun e=>C (UInt8.toNat_inj.1 (by show c.toNat=91;omega))
   simp[bne,this]
theorem QdK{op a b:Int}{type cls name:Str}(h:Zi ⟨op,a,b,type,cls,name⟩=0)(A:q9 op)(B:op<=13\/op=19):Zs type.data.toList=false:=by
 have C:type.size=0:=by
  have D:ZbJ op=false:=by
   unfold q9 at A;rcases A with rfl|rfl|rfl|rfl|rfl|rfl|rfl|rfl|rfl|rfl|rfl<;>first|rfl|omega
  unfold Zi at h;dsimp only at h;rw[D]at h;split at h
  ·cases h
  ·split at h
   ·cases h
   ·rename_i E;by_cases hs:type.size=0
    ·exact hs
    ·exact absurd (by simp[hs]) E
 have:type.data.toList=[]:=List.eq_nil_of_length_eq_zero (by rw[QB];exact C);rw[this];rfl
theorem Qct{op a b:Int}{type cls name:Str}(h:Zi ⟨op,a,b,type,cls,name⟩=0)(A:q9 op)(B:¬(op<=13\/op=19)):Zs type.data.toList=true:=by
 unfold q9 at A;by_cases C:op=20\/op=21
 ·exact zaV h (Or.inr C)
 ·have:=zaB h;unfold qy at this;rw[if_neg (by dsimp only;omega),if_neg (by dsimp only;omega),if_pos (by dsimp only;omega)]at this;exact(Bool.and_eq_true_iff.1 this).1
theorem zcu{op a b:Int}{type cls name:Str}(h:Zi ⟨op,a,b,type,cls,name⟩=0)(A:op=20\/op=21):Zs (91::lst type)=true:=by
 have:=zaB h;unfold qy at this;rw[if_neg (by dsimp only;omega),if_pos (by dsimp only;omega)]at this;exact(Bool.and_eq_true_iff.1 this).2
theorem qa5{α:Type}{cs:List Qb}{t:Str}{o:Option α}(h:o=none):knK cs t o=none:=by
 subst h;unfold knK;split<;>rfl
theorem qcd{S:List Str}(h:¬S.length<2):∃r j k,S=r++[j]++[k]:=by
 rcases List.eq_nil_or_concat S with rfl|⟨r,k,rfl⟩
 ·exact absurd (by simp) h
 ·rcases List.eq_nil_or_concat r with rfl|⟨q,j,rfl⟩
  ·exact absurd (by simp) h
  ·exact⟨q,j,k,by simp⟩
theorem qdj{S:List Str}(h:¬S.length<3):∃r i j k,S=r++[i]++[j]++[k]:=by
 obtain⟨r,j,k,rfl⟩:=qcd (S:=S) (by omega);rcases List.eq_nil_or_concat r with rfl|⟨q,i,rfl⟩
 ·exact absurd (by simp) h
 ·exact⟨q,i,j,k,by simp⟩
theorem zau{n:Nat}(h:n<=8):decide ((0:Int)<=(n:Int))=true/\(n:Int)<=8:=⟨by simp,by omega⟩
end Go.Proofs.YtlmfmioljeppfaaGreatDoor
