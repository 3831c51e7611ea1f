/- Lemmas; conditions: as each states. -/
import Derived.Test.YtlmfmioljeppfaaGreatDoorRefWants2
set_option maxHeartbeats 4000000
namespace Go.Proofs.YtlmfmioljeppfaaGreatDoor
open Go.RowKit Go.Shelf Go.Lib
def ql(w:World)(o:Option (List Str×List Str))(e:Ending)(w':World):Prop :=
 Below w.heap.size w w'/\((o=none/\∃p n c q m d,e=.returned (.tuple #[.agg #[.slice p n c,.slice q m d],.bool false]))\/∃L S v1 v2,o=some (L,S)/\e=.returned (.tuple #[.agg #[v1,v2],.bool true])/\zk w' v1 v2 ⟨L,S⟩)
theorem ql.no{w w':World}{o:Option (List Str×List Str)}{p q:Option Addr}{n c m d:Nat}(h:o=none)(hb:Below w.heap.size w w'):ql w o (.returned (.tuple #[.agg #[.slice p n c,.slice q m d],.bool false])) w':=⟨hb,Or.inl ⟨h,_,_,_,_,_,_,rfl⟩⟩
theorem ql.yes{w w':World}{o:Option (List Str×List Str)}{L S:List Str}{v1 v2:Value}(h:o=some (L,S))(hb:Below w.heap.size w w')(hf:zk w' v1 v2 ⟨L,S⟩):ql w o (.returned (.tuple #[.agg #[v1,v2],.bool true])) w':=⟨hb,Or.inr ⟨L,S,v1,v2,h,rfl,hf⟩⟩
structure OX (w wx:World) (op a b:Int) (type cls name:Str) (f1 f2 r1 r2:Value):Prop where
 below:Below w.heap.size w wx
 box:Blk wx w.heap.size 24 [.int .i64 op,.int .i64 a,.int .i64 b,.string type,.string cls,.string name]
 frm:Blk wx (w.heap.size+1) 27 [f1,f2]
 res:Blk wx (w.heap.size+1+1) 27 [r1,r2]
variable {w wx wy:World} {op a b:Int} {type cls name:Str} {f1 f2 r1 r2:Value}
theorem OX.new(w:World)(op a b:Int)(type cls name:Str)(f1 f2:Value):OX w (((w.alloc (.cells #[.int .i64 op,.int .i64 a,.int .i64 b,.string type,.string cls,.string name] 24)).alloc (.cells #[f1,f2] 27)).alloc (.cells #[.slice none 0 0,.slice none 0 0] 27)) op a b type cls name f1 f2 (.slice none 0 0) (.slice none 0 0):=by
 refine⟨((Xb.alloc Xl _).alloc (by simp) _).alloc (by simp;omega) _,?_,?_,?_⟩
 ·exact(Blk.new w 24 _).step ((Xb.alloc Xl _).alloc (by simp) _)
 ·have:=(Blk.new (w.alloc (.cells #[.int .i64 op,.int .i64 a,.int .i64 b,.string type,.string cls,.string name] 24)) 27 [f1,f2]).step (Xb.alloc Xl (.cells #[.slice none 0 0,.slice none 0 0] 27));simpa using this
 ·have:=Blk.new ((w.alloc (.cells #[.int .i64 op,.int .i64 a,.int .i64 b,.string type,.string cls,.string name] 24)).alloc (.cells #[f1,f2] 27)) 27 [.slice none 0 0,.slice none 0 0];simpa using this
theorem OX.step(h:OX w wx op a b type cls name f1 f2 r1 r2)(hb:Below wx.heap.size wx wy):OX w wy op a b type cls name f1 f2 r1 r2:=⟨Qa h.below Xl hb,h.box.step hb,h.frm.step hb,h.res.step hb⟩
theorem OX.alloc(h:OX w wx op a b type cls name f1 f2 r1 r2)(o:Obj):OX w (wx.alloc o) op a b type cls name f1 f2 r1 r2:=h.step (Xb.alloc Xl o)
theorem OX.grown{r:Option Nat}(h:OX w wx op a b type cls name f1 f2 r1 r2)(hg:wx.grownBy wy r)(hr:∀g,r=some g->w.heap.size+3<=g):OX w wy op a b type cls name f1 f2 r1 r2 :=
 ⟨h.below.grown hg h.below.size (fun g e=>by have:=hr g e;omega),h.box.grown hg (fun e=>by have:=hr _ e;omega),h.frm.grown hg (fun e=>by have:=hr _ e;omega),h.res.grown hg (fun e=>by have:=hr _ e;omega)⟩
theorem OX.low(h:OX w wx op a b type cls name f1 f2 r1 r2):w.heap.size+3<=wx.heap.size:=h.res.lt
theorem OX.cells(h:OX w wx op a b type cls name f1 f2 r1 r2):(wx.cell? ⟨w.heap.size,0,none⟩=some (.int .i64 op)/\wx.cell? ⟨w.heap.size,1,none⟩=some (.int .i64 a)/\wx.cell? ⟨w.heap.size,2,none⟩=some (.int .i64 b)/\wx.cell? ⟨w.heap.size,3,none⟩=some (.string type)/\wx.cell? ⟨w.heap.size,4,none⟩=some (.string cls)/\wx.cell? ⟨w.heap.size,5,none⟩=some (.string name))/\wx.cell? ⟨w.heap.size+1,0,none⟩=some f1/\wx.cell? ⟨w.heap.size+1,1,none⟩=some f2/\wx.cell? ⟨w.heap.size+1+1,0,none⟩=some r1/\wx.cell? ⟨w.heap.size+1+1,1,none⟩=some r2:=⟨h.box.cells6,h.frm.cell 0,h.frm.cell 1,h.res.cell 0,h.res.cell 1⟩
theorem OX.put(h:OX w wx op a b type cls name f1 f2 r1 r2)(u v:Value):Below w.heap.size w ((wx.setCell ⟨w.heap.size+1+1,0,none⟩ u).setCell ⟨w.heap.size+1+1,1,none⟩ v):=z7 h.below (by omega) u v
structure QZ (w wx:World) (lv sv:Value) (L S:List Str) (mid:Nat):Prop where
 low:w.heap.size+3<=mid
 own1:wx.ownsRow (w.heap.size+3) 9 1 lv L.length (L.map Value.string)
 lt1:∀g,lv.ownBlock=some g->g<mid
 own2:wx.ownsRow mid 9 1 sv S.length (S.map Value.string)
theorem QZ.step{lv sv:Value}{L S:List Str}{mid:Nat}(h:QZ w wx lv sv L S mid)(hb:Below wx.heap.size wx wy):QZ w wy lv sv L S mid:=⟨h.low,qr h.own1 hb,h.lt1,qr h.own2 hb⟩
theorem QZ.frame{lv sv:Value}{L S:List Str}{mid:Nat}(h:QZ w wx lv sv L S mid)(u v:Value):zk ((wx.setCell ⟨w.heap.size+1+1,0,none⟩ u).setCell ⟨w.heap.size+1+1,1,none⟩ v) lv sv ⟨L,S⟩:=by
 have f1:lv.ownBlock≠some (w.heap.size+1+1):=fun e=>by have:=(h.own1.lt _ e).1;omega
 have f2:sv.ownBlock≠some (w.heap.size+1+1):=fun e=>by have:=(h.own2.lt _ e).1;have:=h.low;omega
 exact⟨Ze (Qah (Qah h.own1 f1 0 u) f1 1 v),Ze (Qah (Qah h.own2 f2 0 u) f2 1 v)⟩
theorem QZ.split{lv sv:Value}{L r:List Str}{k:Str}{mid:Nat}(h:QZ w wx lv sv L (r++[k]) mid):∃g cap,sv=.slice (some ⟨g,0,none⟩) (r.length+1) cap/\r.length+1<=cap/\cap<=maxLen/\wx.cell? ⟨g,r.length,none⟩=some (.string k)/\mid<=g/\QZ w wx lv (.slice (some ⟨g,0,none⟩) r.length cap) L r mid:=by
 have hst:=h.own2;have hlen:(r++[k]).length=r.length+1:=by simp
 rw[hlen,List.map_append]at hst;obtain⟨g,cap,rfl,hbg,hcap,hmax⟩:∃g cap,sv=.slice (some ⟨g,0,none⟩) (r.length+1) cap/\mid<=g/\r.length+1<=cap/\cap<=maxLen:=by
  rcases hst.2 with⟨_,h0⟩|⟨g,cap,cur,h1,h2,_,h4,h5,_⟩
  ·omega
  ·exact⟨g,cap,h1,h2,h4,h5⟩
 refine⟨g,cap,rfl,hcap,hmax,?_,hbg,h.low,h.own1,h.lt1,ownsRow_pop (by simp) hst⟩;rw[World.ownsRow.cellAt hst r.length (by omega)];simp
theorem QZ.put{lv sv v:Value}{L S l:List Str}{mid:Nat}(h:QZ w wx lv sv L S mid)(hg:wx.grownBy wy sv.ownBlock)(ho:wy.ownsRow mid 9 1 v (S.length+l.length) (S.map Value.string++l.map Value.string)):QZ w wy lv v L (S++l) mid:=by
 refine⟨h.low,h.own1.kept hg ?_,h.lt1,by rw[List.length_append,List.map_append];exact ho⟩;cases hq:lv.ownBlock with
 |none=>exact Or.inl rfl
 |some g =>
  refine Or.inr fun e=>?_
  have h1:=h.lt1 g hq;have:=(h.own2.lt g e.symm).1;omega
theorem QZ.local{lv sv:Value}{L S:List Str}{mid i:Nat}{k:Str}(h:QZ w wx lv sv L S mid)(hi:L[i]? = some k):∃g c,lv=.slice (some ⟨g,0,none⟩) L.length c/\wx.cell? ⟨g,i,none⟩=some (.string k):=by
 have hst:=h.own1;obtain⟨hl,rfl⟩:=List.getElem?_eq_some_iff.1 hi;rcases hst.2 with⟨_,h0⟩|⟨g,cap,cur,rfl,_⟩
 ·omega
 ·refine⟨g,cap,rfl,?_⟩;rw[World.ownsRow.cellAt hst i (by omega)];simp
theorem OX.app1{lv:Value}{a2:Option Addr}{c2 n:Nat}{L S:List Str}{mid:Nat}{k:Str}{v5:Value}{w5:World}(T:OX w wx op a b type cls name f1 f2 r1 r2)(R:QZ w wx lv (.slice a2 n c2) L S mid)(hg:(wx.alloc (.cells #[.string k] 9)).grownBy w5 (Value.slice a2 n c2).ownBlock)(ho:w5.ownsRow mid 9 1 v5 (S.length+[k].length) (S.map Value.string++[k].map Value.string)):
 ∃a5 c5,v5=.slice a5 (S.length+1) c5/\OX w w5 op a b type cls name f1 f2 r1 r2/\QZ w w5 lv v5 L (S++[k]) mid:=by
 obtain⟨a5,c5,rfl⟩:=qe ho;have R1:=R.step (Xb.alloc Xl (.cells #[.string k] 9));refine⟨a5,c5,rfl,(T.alloc _).grown hg (fun g e=>Xf R.low (R.own2.lt g e).1),R1.put hg ho⟩
theorem OX.set1{sv:Value}{g n c:Nat}{L S:List Str}{mid:Nat}(T:OX w wx op a b type cls name f1 f2 r1 r2)(R:QZ w wx (.slice (some ⟨g,0,none⟩) n c) sv L S mid)(hn:n=L.length)(i:Nat)(k:Str):
 OX w (wx.setCell ⟨g,i,none⟩ (.string k)) op a b type cls name f1 f2 r1 r2/\QZ w (wx.setCell ⟨g,i,none⟩ (.string k)) (.slice (some ⟨g,0,none⟩) n c) sv (L.set i k) S mid:=by
 subst hn;have hg3:=(R.own1.lt g rfl).1;have hgm:=R.lt1 g rfl;obtain⟨o1,o2⟩:=World.ownsRow.stored R.own1 i (.string k);refine⟨T.grown o2 (fun g' e=>by injection e with e;omega),R.low,?_,R.lt1,Qah R.own2 (fun e=>by have:=(R.own2.lt _ e).1;omega) i _⟩;rw[List.length_set,List.map_set];exact o1
theorem Qu{w w':World}{a:Addr}{v:Value}(hB:Below w.heap.size w w')(h:w.cell? a=some v):w'.cell? a=some v:=(hB.cell (World.block_lt_of_cell? w a h)).trans h
theorem Zep{w0 W w':World}{ad:Addr}{v x:Value}{n mid:Nat}(hg:W.grownBy w' v.ownBlock)(hl:∀g,v.ownBlock=some g->mid<=g/\g<n)(hw:w0.cell? ad=some x)(hlt:w0.heap.size<=mid)(h:W.cell? ad=some x):w'.cell? ad=some x:=by
 have h1:=World.block_lt_of_cell? w0 ad hw;rw[hg.cell_far ad (World.block_lt_of_cell? _ ad h) (fun e=>by have:=(hl _ e.symm).1;omega)];exact h
theorem OX.appL{lv:Value}{a2:Option Addr}{c2 n:Nat}{L S l:List Str}{mid:Nat}{v5:Value}{w5:World}{o:Obj}(T:OX w wx op a b type cls name f1 f2 r1 r2)(R:QZ w wx lv (.slice a2 n c2) L S mid)(hg:(wx.alloc o).grownBy w5 (Value.slice a2 n c2).ownBlock)(ho:w5.ownsRow mid 9 1 v5 (S.length+l.length) (S.map Value.string++l.map Value.string)):
 ∃a5 c5,v5=.slice a5 (S.length+l.length) c5/\OX w w5 op a b type cls name f1 f2 r1 r2/\QZ w w5 lv v5 L (S++l) mid:=by
 obtain⟨a5,c5,rfl⟩:=qe ho;have R1:=R.step (Xb.alloc Xl o);exact⟨a5,c5,rfl,(T.alloc _).grown hg (fun g e=>Xf R.low (R.own2.lt g e).1),R1.put hg ho⟩
theorem QZ.split2{lv sv:Value}{L r:List Str}{k u:Str}{mid:Nat}(h:QZ w wx lv sv L (r++[k]++[u]) mid):∃g cap,sv=.slice (some ⟨g,0,none⟩) (r.length+2) cap/\r.length+2<=cap/\cap<=maxLen/\wx.cell? ⟨g,r.length+1,none⟩=some (.string u)/\wx.cell? ⟨g,r.length,none⟩=some (.string k)/\QZ w wx lv (.slice (some ⟨g,0,none⟩) r.length cap) L r mid:=by
 obtain⟨g,cap,rfl,h1,h2,h3,_,h5⟩:=h.split;have hl:(r++[k]).length=r.length+1:=by simp
 obtain⟨g',cap',e,_,_,i3,_,i5⟩:=h5.split;injection e with e1 _ e3
 injection e1 with e1
 injection e1 with e1
 subst e1 e3;rw[hl]at h1 h3;exact⟨g,cap,by rw[hl],h1,h2,h3,i3,i5⟩
theorem QZ.split3{lv sv:Value}{L r:List Str}{i j k:Str}{mid:Nat}(h:QZ w wx lv sv L (r++[i]++[j]++[k]) mid):∃g cap,sv=.slice (some ⟨g,0,none⟩) (r.length+3) cap/\r.length+3<=cap/\cap<=maxLen/\wx.cell? ⟨g,r.length+2,none⟩=some (.string k)/\wx.cell? ⟨g,r.length+1,none⟩=some (.string j)/\wx.cell? ⟨g,r.length,none⟩=some (.string i)/\QZ w wx lv (.slice (some ⟨g,0,none⟩) r.length cap) L r mid:=by
 obtain⟨g,cap,rfl,h1,h2,h3,_,h5⟩:=h.split;have hl:(r++[i]++[j]).length=r.length+2:=by simp
 obtain⟨g',cap',e,_,_,i3,i4,i5⟩:=h5.split2;injection e with e1 _ e3
 injection e1 with e1
 injection e1 with e1
 subst e1 e3;rw[hl]at h1 h3;exact⟨g,cap,by rw[hl],h1,h2,h3,i3,i4,i5⟩
theorem zcX{w:World}{p:Option Addr}{n c:Nat}{r:List Str}{j k:Str}(h:Qh w (.slice p n c) (r++[j]++[k])):∃b o,p=some ⟨b,o,none⟩/\w.cell? ⟨b,o+r.length,none⟩=some (.string j)/\w.cell? ⟨b,o+(r.length+1),none⟩=some (.string k):=by
 obtain⟨⟨b,o,rfl⟩,_⟩:=h.ptr (by simp);refine⟨b,o,rfl,?_,?_⟩
 ·exact h.cell (k:=r.length) (by simp)
 ·exact h.cell (k:=r.length+1) (by simp)
theorem ZcX{cs:List Qb}{t k u:Str}{L r:List Str}(ht:zd cs t=0)(hT:Qs (lst t)=true)(hk:zd cs k=0)(hu:zd cs u=0)(h:((u.toList==[73])&&Zx cs (Zo k) (Zo (QE t)))=false):((zK cs t (r++[k]++[u])).bind fun S1=>zv L S1 t)=none:=by
 rw[Qb9 ht hT hk hu,if_neg (by rw[h];decide)];rfl
theorem QdF{cs:List Qb}{t k u:Str}{L r:List Str}(ht:zd cs t=0)(hT:Qs (lst t)=true)(hk:zd cs k=0)(hu:zd cs u=0)(h:((u.toList==[73])&&Zx cs (Zo k) (Zo (QE t)))=true)(h8:r.length<8):((zK cs t (r++[k]++[u])).bind fun S1=>zv L S1 t)=some (L,r++[t]):=by
 rw[Qb9 ht hT hk hu,if_pos h];exact Za8 h8
theorem qcr{op a b:Int}{type cls name:Str}(h:Zi ⟨op,a,b,type,cls,name⟩=0)(ho:op=4\/op=5):0<=a/\a<8:=by
 unfold Zi at h;dsimp only at h;split at h
 ·cases h
 ·split at h
  ·cases h
  ·split at h
   ·cases h
   ·rename_i hr;have hr:ZM ⟨op,a,b,type,cls,name⟩=true:=(by cases hq:ZM ⟨op,a,b,type,cls,name⟩<;>simp_all);unfold ZM at hr;rw[if_neg (by dsimp only;omega),if_pos (by dsimp only;omega)]at hr;simpa using hr
theorem Qcr{L r:List Str}{k:Str}(h:8<=r.length):zv L r k=none:=by
 rw[zc9,if_neg (by rw[List.length_append];show ¬(r.length+1<=8);omega)]
theorem Qd1{L r:List Str}{k:Str}(h:8<=r.length+1):((QH (r++[k])).bind fun p=>(QK p.2 p.1).bind fun S1=>zv L S1 p.1)=none:=by
 rw[ZO,Option.bind_some];dsimp only;unfold QK;split
 ·exact Qcr (by rw[List.length_append];exact h)
 ·rfl
theorem zd2{cs:List Qb}{k:Str}(hk:zd cs k=0)(hN:(k.toList==[78])=false):∃hp:0<k.size,qW k=!(((k[0]'hp).toNat:Int) != 91):=by
 obtain⟨X,hX,_⟩:=zM hk;have hp:0<k.size:=by
  rw[<-QB k,show k.data.toList=qo X from hX.symm];cases X with
  |n=>decide
  |t=>decide
  |ty x=>exact List.length_pos_iff.2 (zaB x)
 refine⟨hp,?_⟩;unfold qW;rw[hN,Bool.false_or,ByteArray.toList_eq];have h0:=Zby hp;cases hl:k.data.toList with
 |nil=>rw[hl]at h0;cases h0
 |cons c r =>
  rw[hl]at h0;injection h0 with h0
  rw[<-h0];unfold Lib.hasPrefix;rw[List.isPrefixOf_cons_cons,List.isPrefixOf_nil_left,Bool.and_true];by_cases hc:c=91
  ·subst hc;decide
  ·rw[show(((91:UInt8)==c))=false from beq_false_of_ne (Ne.symm hc)];have:¬((c.toNat:Int)=91):=fun e=>hc (UInt8.toNat_inj.1 (by show c.toNat=91;omega))
   simp[bne,this]
theorem qdF{op a b:Int}{type cls name:Str}(h:Zi ⟨op,a,b,type,cls,name⟩=0)(ho:Q9 op)(hlo:op<=13\/op=19):Qs type.data.toList=false:=by
 have h0:type.size=0:=by
  have hn:qbK op=false:=by
   unfold Q9 at ho;rcases ho with rfl|rfl|rfl|rfl|rfl|rfl|rfl|rfl|rfl|rfl|rfl<;>first|rfl|omega
  unfold Zi at h;dsimp only at h;rw[hn]at h;split at h
  ·cases h
  ·split at h
   ·cases h
   ·rename_i h2;by_cases hs:type.size=0
    ·exact hs
    ·exact absurd (by simp[hs]) h2
 have:type.data.toList=[]:=List.eq_nil_of_length_eq_zero (by rw[QB];exact h0);rw[this];rfl
theorem zcs{op a b:Int}{type cls name:Str}(h:Zi ⟨op,a,b,type,cls,name⟩=0)(ho:Q9 op)(hlo:¬(op<=13\/op=19)):Qs type.data.toList=true:=by
 unfold Q9 at ho;by_cases h2:op=20\/op=21
 ·exact zaU h (Or.inr h2)
 ·have:=qaB h;unfold Qx at this;rw[if_neg (by dsimp only;omega),if_neg (by dsimp only;omega),if_pos (by dsimp only;omega)]at this;exact(Bool.and_eq_true_iff.1 this).1
theorem Zcs{op a b:Int}{type cls name:Str}(h:Zi ⟨op,a,b,type,cls,name⟩=0)(ho:op=20\/op=21):Qs (91::lst type)=true:=by
 have:=qaB h;unfold Qx at this;rw[if_neg (by dsimp only;omega),if_pos (by dsimp only;omega)]at this;exact(Bool.and_eq_true_iff.1 this).2
theorem Za4{α:Type}{cs:List Qb}{t:Str}{o:Option α}(h:o=none):knK cs t o=none:=by
 subst h;unfold knK;split<;>rfl
theorem Qcb{S:List Str}(h:¬S.length<2):∃r j k,S=r++[j]++[k]:=by
 rcases List.eq_nil_or_concat S with rfl|⟨r,k,rfl⟩
 ·exact absurd (by simp) h
 ·rcases List.eq_nil_or_concat r with rfl|⟨q,j,rfl⟩
  ·exact absurd (by simp) h
  ·exact⟨q,j,k,by simp⟩
theorem zdf{S:List Str}(h:¬S.length<3):∃r i j k,S=r++[i]++[j]++[k]:=by
 obtain⟨r,j,k,rfl⟩:=Qcb (S:=S) (by omega);rcases List.eq_nil_or_concat r with rfl|⟨q,i,rfl⟩
 ·exact absurd (by simp) h
 ·exact⟨q,i,j,k,by simp⟩
theorem Qau{n:Nat}(h:n<=8):decide ((0:Int)<=(n:Int))=true/\(n:Int)<=8:=⟨by simp,by omega⟩
end Go.Proofs.YtlmfmioljeppfaaGreatDoor
