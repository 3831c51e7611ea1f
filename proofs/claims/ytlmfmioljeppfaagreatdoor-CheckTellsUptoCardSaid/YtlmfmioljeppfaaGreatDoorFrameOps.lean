/- Lemmas; conditions: as each states. -/
import Derived.Test.YtlmfmioljeppfaaGreatDoorFind
import Derived.Test.YtlmfmioljeppfaaGreatDoorShelf
import Derived.Test.YtlmfmioljeppfaaGreatDoorSub
import Derived.Lib.AppendZeros
import Derived.Laws.CopyOwn
import Derived.IntWalk
import Derived.Deep.OwnRows
import Derived.Deep.RegionLaw
import Derived.StillTailTactics
import Derived.Lib.SliceRun
import Derived.Deep.AppendLies
import Derived.Lib.AppendZerosOnto
set_option maxHeartbeats 4000000
namespace Go.Proofs.YtlmfmioljeppfaaGreatDoor
open Go.RowKit Go.Shelf Go.Lib
theorem Blk.put{w:World}{b:Nat}{t:TypeId}{vals:List Value}(h:Blk w b t vals)(j:Nat)(v:Value):Blk (w.setCell ⟨b,j,none⟩ v) b t (vals.set j v):=by
 unfold Blk at *;rw[heap_setCell_same w b j _ t v h];simp
theorem Blk.other{w:World}{b b':Nat}{t:TypeId}{vals:List Value}(h:Blk w b t vals)(hne:b≠b')(j:Nat)(v:Value):Blk (w.setCell ⟨b',j,none⟩ v) b t vals:=by
 unfold Blk at *;rw[Xk w ⟨b',j,none⟩ b v hne];exact h
theorem Blk.put2{w:World}{b:Nat}{t:TypeId}{a0 a1:Value}(h:Blk w b t [a0,a1])(v0 v1:Value):Blk ((w.setCell ⟨b,0,none⟩ v0).setCell ⟨b,1,none⟩ v1) b t [v0,v1]:=(h.put 0 v0).put 1 v1
theorem Blk.cells2{w:World}{b:Nat}{t:TypeId}{a0 a1:Value}(h:Blk w b t [a0,a1]):w.cell? ⟨b,0,none⟩=some a0/\w.cell? ⟨b,1,none⟩=some a1:=⟨h.cell 0,h.cell 1⟩
theorem Blk.cells8{w:World}{b:Nat}{t:TypeId}{a0 a1 a2 a3 a4 a5 a6 a7:Value}(h:Blk w b t [a0,a1,a2,a3,a4,a5,a6,a7]):
 w.cell? ⟨b,0,none⟩=some a0/\w.cell? ⟨b,1,none⟩=some a1/\w.cell? ⟨b,2,none⟩=some a2/\w.cell? ⟨b,3,none⟩=some a3/\w.cell? ⟨b,4,none⟩=some a4/\w.cell? ⟨b,5,none⟩=some a5/\w.cell? ⟨b,6,none⟩=some a6/\w.cell? ⟨b,7,none⟩=some a7 :=
 ⟨h.cell 0,h.cell 1,h.cell 2,h.cell 3,h.cell 4,h.cell 5,h.cell 6,h.cell 7⟩
theorem Zck{w:World}{b o:Nat}{v:Value}(h:w.cell? ⟨b,o,none⟩=some v):b<w.heap.size:=qG.lt (w:=w) (b:=b) (o:=o) (v:=v) (r:=[]) ⟨h,trivial⟩
theorem Zt(w:World)(s:Str):Qh (w.alloc (.cells #[.string s] 9)) (.slice (some ⟨w.heap.size,0,none⟩) 1 1) [s] :=
 Ze (l:=[s]) (QY w w.heap.size (.string s) Xl)
theorem Qh.ptr{w:World}{p:Option Addr}{n c:Nat}{l:List Str}(h:Qh w (.slice p n c) l)(hl:0<l.length):(∃b o,p=some ⟨b,o,none⟩)/\n=l.length/\n<=c/\c<=maxLen:=by
 rcases h with⟨_,h⟩|⟨a,cap,h1,h2,h3,h4⟩
 ·rw[h]at hl;simp at hl
 ·injection h1 with e1 e2 e3
  subst e1 e2 e3;obtain⟨y,r,rfl⟩:=List.exists_cons_of_ne_nil (List.ne_nil_of_length_pos hl);obtain⟨_,_,_,r3,_⟩:=h4 0 y rfl;exact⟨⟨a.block,a.off,congrArg some r3⟩,rfl,h2,h3⟩
theorem Qh.cell{w:World}{b o n c:Nat}{l:List Str}(h:Qh w (.slice (some ⟨b,o,none⟩) n c) l){k:Nat}{x:Str}(hx:l[k]? = some x):w.cell? ⟨b,o+k,none⟩=some (.string x):=by
 rcases h with⟨h,_⟩|⟨a,cap,h1,h2,h3,h4⟩
 ·simp at h
 ·injection h1 with e1
  injection e1 with e1
  subst e1;obtain⟨vs,r1,_,_,r4⟩:=h4 k x hx;unfold zr at r1;subst r1;have:=r4.1;rwa [Nat.mul_one]at this
theorem qg{w:World}{ops:Array Oper}{rest:List Oper}{o:Oper}{a:Act}{Q:Exit->Act->World->Prop}(hgd:o.guard=none)(s x:Operand)(ho:o.op=.call { callee:=.builtin .append,args:=#[s,x],argTypes:=#[25,25] })(base:Nat)(v:Value)(n:Nat)(xs:List Value)(hs:a.eval s=v)(hown:w.ownsRow base 9 1 v n xs)(y:Value)(l:List Str)(hx:a.eval x=y)(hy:Qh w y l)(h63:n+l.length<=maxLen)(hbytes:(n+l.length)*16<=140737488355328)(hbase:base<=w.heap.size)(h:∀v' w',w'.ownsRow base 9 1 v' (n+l.length) (xs++l.map Value.string)->w.grownBy w' v.ownBlock->(v'.ownBlock=v.ownBlock\/v'.ownBlock=some w.heap.size)->wpList Tryz.prog ops Q rest (a.put o.dst v') w'):
 wpList Tryz.prog ops Q (o::rest) a w:=by
 obtain⟨i0,hi,hz0,hz1,hz2⟩:=info_parts qO;rcases hy with⟨rfl,rfl⟩|⟨ad,cap,rfl,_⟩
 ·refine wpList_append_own_none hgd s x 25 ho base 9 i0 1 Tryz.underlying25 hi v n xs hs hown hx ?_;exact h v w (by simpa using hown) (World.grownBy.refl w _) (Or.inl rfl)
 ·have hy:Qh w (.slice (some ad) l.length cap) l:=Or.inr ⟨ad,cap,rfl,by assumption⟩;refine wpList_append_own_at _ hgd s x 25 ho base 9 i0 (.string .empty) 1 16 Tryz.underlying25 hi hz0 hz1 hz2 rfl (by decide) v n xs hs hown ad l.length cap (l.map Value.string) hx (by simp) (QbD hy)
   (fun u hu=>by obtain⟨x,_,rfl⟩:=List.mem_map.1 hu;rfl) h63 hbytes hbase fun v' w' h1 h2 _ h4=>h v' w' h1 h2 h4
theorem zbR{w:World}(ty:TypeId)(base:Nat)(v:Value)(n:Nat)(xs:List Value)(hown:w.ownsRow base 9 1 v n xs)(y:Value)(l:List Str)(hy:Qh w y l)(h63:n+l.length<=maxLen)(hbytes:(n+l.length)*16<=140737488355328)(hbase:base<=w.heap.size):
 ∃v' w',(Builtin.append_ #[25,25] ty #[v,y]).run Tryz.prog w=.ok v' w'/\w'.ownsRow base 9 1 v' (n+l.length) (xs++l.map Value.string)/\w.grownBy w' v.ownBlock:=by
 obtain⟨i0,hi,hz0,hz1,hz2⟩:=info_parts qO;rcases hy with⟨rfl,rfl⟩|⟨ad,cap,rfl,hh⟩
 ·exact⟨v,w,run_append_owned_none w base 25 ty 9 i0 1 Tryz.underlying25 hi v n xs hown,by simpa using hown,World.grownBy.refl w _⟩
 ·have hy:Qh w (.slice (some ad) l.length cap) l:=Or.inr ⟨ad,cap,rfl,hh⟩;obtain⟨v',w',hr,h2,h3,_⟩:=run_append_own (P:=Tryz.prog) w base 25 ty 9 i0 (.string .empty) 1 16 Tryz.underlying25 hi hz0 hz1 hz2 rfl (by decide) v n xs hown ad l.length cap (l.map Value.string) (by simp) (QbD hy)
   (fun u hu=>by obtain⟨x,_,rfl⟩:=List.mem_map.1 hu;rfl) h63 hbytes hbase
  exact⟨v',w',hr,h2,h3⟩
theorem Zas{w:World}{ops:Array Oper}{o:Oper}{a:Act}{K:Act->World->Prop}{Q:Exit->Act->World->Prop}{E:Prop}(hgd:o.guard=none)(s x:Operand)(ho:o.op=.call { callee:=.builtin .append,args:=#[s,x],argTypes:=#[25,25] })(base:Nat)(v:Value)(n:Nat)(xs:List Value)(hs:a.eval s=v)(hown:w.ownsRow base 9 1 v n xs)(y:Value)(l:List Str)(hx:a.eval x=y)(hy:Qh w y l)(h63:n+l.length<=maxLen)(hbytes:(n+l.length)*16<=140737488355328)(hbase:base<=w.heap.size)(h:∀v' w',w'.ownsRow base 9 1 v' (n+l.length) (xs++l.map Value.string)->w.grownBy w' v.ownBlock->K (a.put o.dst v') w'):
 if Region.wanted o (yielded ops a.tmps)=true then Oper.wp Tryz.prog o a w K Q else E:=by
 have hw:Region.wanted o (yielded ops a.tmps)=true:=by simp[Region.wanted,hgd]
 rw[if_pos hw];obtain⟨v',w',hr,h2,h3⟩:=zbR o.type base v n xs hown y l hy h63 hbytes hbase;exact Lib.wp_append_run w s x 25 25 ho v y hs hx v' w' hr (h v' w' h2 h3)
theorem ZT(w:World)(base:Nat)(hb:base<=w.heap.size):(w.alloc (.cells #[] 9)).ownsRow base 9 1 (.slice (some ⟨w.heap.size,0,none⟩) 0 0) 0 [] :=
 ⟨rfl,Or.inr ⟨w.heap.size,0,#[],rfl,hb,heap_alloc_new _ _,Xl,by decide,rfl,rfl⟩⟩
theorem qaR(cs:List Qb):∀(f:Nat) (n:Str),(qad cs f n).length<=f+1
 |0,_=>by simp[qad]
 |f+1,n=>by
  rw[qad];split
  ·simp
  ·have:=qaR cs f (qh cs n).super;simp;omega
end Go.Proofs.YtlmfmioljeppfaaGreatDoor
namespace Go.Proofs.YtlmfmioljeppfaaGreatDoor
open Go.RowKit Go.Shelf Go.Lib Go.Sort
theorem qcJ{w:World}{g n:Nat}{cur:Array Value}{e:TypeId}{fr:Nat×Nat}(d:Array (List UInt8))(hb:w.heap[g]? = some (.cells cur e fr)):
 (putRow encStr (Sort.ahead w n) g 0 d).heap[g]? = some (.cells (putCells encStr 0 d cur) e fr):=by
 simp[putRow,mapBlock,Sort.ahead,Array.getElem?_modify,hb,onCells]
theorem Zb2{w:World}{g n:Nat}(d:Array (List UInt8)):w.grownBy (putRow encStr (Sort.ahead w n) g 0 d) (some g):=by
 refine⟨rfl,rfl,rfl,by simp,fun k hk hne=>?_⟩;have:g≠k:=fun e=>hne (by rw[e])
 simp[putRow,mapBlock,Sort.ahead,Array.getElem?_modify,this]
theorem qb2{w:World}{base g cap n:Nat}{e:TypeId}{cur:Array Value}{ss ts:List (List UInt8)}(hl:ts.length=ss.length)(hbase:base<=g)(hb:w.heap[g]? = some (.cells cur e (0,0)))(h1:ss.length<=cap)(h2:cap<=maxLen)(h3:cur.size=cap*1):
 (putRow encStr (Sort.ahead w n) g 0 ts.toArray).ownsRow base e 1 (.slice (some ⟨g,0,none⟩) ss.length cap) ss.length (ts.map encStr) :=
 ⟨by simp[hl],.inr ⟨g,cap,_,rfl,hbase,qcJ _ hb,h1,h2,by simp[putCells,h3],by rw[Nat.mul_one,<-hl];exact take_putCells cur ts (by omega)⟩⟩
theorem QcJ{w:World}{base:Nat}{a:Option Addr}{c:Nat}{l:List Str}(h:w.ownsRow base 9 1 (.slice a l.length c) l.length (l.map Value.string))(hl:l.length<=9223372036854775807):
 Calls Tryz.prog 189 #[.slice a l.length c] w fun e w'=>e=.returned (.tuple #[])/\w'.ownsRow base 9 1 (.slice a l.reverse.length c) l.reverse.length (l.reverse.map Value.string)/\w.grownBy w' (Value.slice a l.length c).ownBlock:=by
 rcases h.2 with⟨h1,h2⟩|⟨g,cap,cur,hv,hbase,hb,k1,k2,k3,k4⟩
 ·obtain rfl:=List.length_eq_zero_iff.1 h2;injection h1 with h1 _ h3
  subst h1 h3;refine(Tryz.slices_Reverse_string_empty none 0 w).mono ?_;rintro e w'⟨rfl,rfl⟩;exact⟨rfl,h,World.grownBy.refl w' _⟩
 ·injection hv with hv1 _ hv3
  subst hv1 hv3;have hm:=Lib.map_encStr l;have hlen:(l.map (·.data.toList)).length=l.length:=by simp
  have hH:=holds_of_block (ss:=l.map (·.data.toList)) hb (by rw[hlen,hm];simpa using k4);have hc:=Tryz.slices_Reverse_string g 0 c (l.map (·.data.toList)) w hH (by rw[hlen];exact hl);rw[hlen]at hc;refine hc.mono ?_;rintro e w'⟨rfl,n,rfl⟩;have ho:=qb2 (n:=n) (ts:=(l.map (·.data.toList)).reverse) (ss:=l.map (·.data.toList)) (by simp) hbase hb (by rw[hlen];exact k1) k2 k3;rw[hlen]at ho;refine⟨rfl,?_,Zb2 _⟩;have:((l.map (·.data.toList)).reverse.map Proofs.encStr)=l.reverse.map Value.string:=by
   rw[<-List.map_reverse];exact Lib.map_encStr l.reverse
  rw[this]at ho;rw[List.length_reverse];exact ho
theorem ZaQ{w:World}{base:Nat}{a:Option Addr}{c n:Nat}{l:List Str}(h:w.ownsRow base 9 1 (.slice a n c) n (l.map Value.string))(hn:n=l.length)(hl:n<=9223372036854775807):
 Calls Tryz.prog 189 #[.slice a n c] w fun e w'=>e=.returned (.tuple #[])/\w'.ownsRow base 9 1 (.slice a n c) n (l.reverse.map Value.string)/\w.grownBy w' (Value.slice a n c).ownBlock:=by
 subst hn;have:=QcJ h hl;rwa [List.length_reverse]at this
end Go.Proofs.YtlmfmioljeppfaaGreatDoor
namespace Go.Proofs.YtlmfmioljeppfaaGreatDoor
open Go.RowKit Go.Shelf Go.Lib
structure Val where
 kind:Int
 n:Int
 deriving DecidableEq
structure zeq where
 type:Str
 has:List Val
 deriving DecidableEq
def QbS:List UInt8->Ty
 |[]=>.i
 |c::r=>if c=73 then .i else if c=74 then .j else if c=91 then .ar (QbS r) else .cl (str (r.take (r.length-1)))
theorem Qb2:∀x:Ty,QbS (Zf x)=x
 |.i=>rfl
 |.j=>rfl
 |.ar x=>by
  show(if (91:UInt8)=73 then Ty.i else if (91:UInt8)=74 then Ty.j else if (91:UInt8)=91 then .ar (QbS (Zf x)) else _)=_
  rw[if_neg (by decide),if_neg (by decide),if_pos rfl,Qb2 x]
 |.cl c=>by
  show(if (76:UInt8)=73 then Ty.i else if (76:UInt8)=74 then Ty.j else if (76:UInt8)=91 then _ else Ty.cl (str ((lst c++[59]).take ((lst c++[59]).length-1))))=_
  rw[if_neg (by decide),if_neg (by decide),if_neg (by decide)];simp;rfl
def Zd8(k:Str):Ty:=QbS (lst k)
theorem qck{k:Str}{x:Ty}(h:Zf x=lst k):Zd8 k=x:=by unfold Zd8;rw[<-h,Qb2]
theorem zaV{α:Type}{f:α->Nat}:∀{l:List α},Zh f l=0->∀x∈l,f x=0
 |[],_,_,h=>by cases h
 |y::r,h,x,hx=>by
  unfold Zh at h;by_cases h0:f y=0
  ·rw[if_pos h0]at h;rcases List.mem_cons.1 hx with rfl|hx
   ·exact h0
   ·exact zaV h x hx
  ·rw[if_neg h0]at h;exact absurd h h0
structure qbj (t:Str) (y:Ty):Prop where
 text:Zf y=lst t
 name:qao y=true
 deep:Qp y<=3
theorem qbj.of{t:Str}{y:Ty}(h:qbj t y):Zd8 t=y:=qck h.text
theorem Qaq{t:Str}(h:Qs (lst t)=true):∃y,qbj t y:=by
 obtain⟨y,h1,_,h3⟩:=zax (lst t) h;exact⟨y,h1,h3,Qbr (by rw[h1];exact h)⟩
theorem qd8{s:List UInt8}(h:Qt s=true):s.length<=20:=by
 unfold Qt at h;cases s with
 |nil=>exact Nat.zero_le _
 |cons a r =>
  simp only[Bool.and_eq_true]at h;exact Xm h.1.1
theorem qcx:∀y:Ty,qao y=true->(Zf y).length<=Qp y+22
 |.i,_=>by simp[Zf]
 |.j,_=>by simp[Zf]
 |.cl c,h=>by
  have:=qd8 (s:=lst c) h;simp only[Zf,List.length_cons,List.length_append,List.length_nil,Qp];omega
 |.ar y,h=>by
  have:=qcx y h;simp only[Zf,List.length_cons,Qp];omega
theorem qbj.size{t:Str}{y:Ty}(h:qbj t y):t.size<=maxLen:=by
 have h1:=qcx y h.name;have h2:(lst t).length=t.size:=rfl;rw[h.text]at h1;have:=h.deep;unfold maxLen;omega
theorem QbK:∀(r a:List qag),Qf qs a r=0->∀f∈r,Qs (lst f.type)=true
 |[],_,_,f,hf=>by cases hf
 |x::r,a,h,f,hf=>by
  unfold Qf at h;by_cases h0:qs x a=0
  ·rw[if_pos h0]at h;rcases List.mem_cons.1 hf with rfl|hf
   ·unfold qs at h0;split at h0
    ·cases h0
    ·rename_i h1;rw[Bool.not_eq_true,Bool.or_eq_false_iff,Bool.not_eq_false',Bool.not_eq_false']at h1;exact h1.2
   ·exact QbK r _ h f hf
  ·rw[if_neg h0]at h;exact absurd h h0
theorem zaG{l:List Qb}(hf:∀c∈l,qd c=0)(x:Str):∀f∈(qh (Za l) x).fields,Qs (lst f.type)=true:=by
 unfold qh;cases hq:Qc (Za l) x with
 |none=>intro f h;cases h
 |some c =>
  have hm:c∈Za l:=List.mem_of_find?_eq_some hq;show ∀f∈c.fields,_
  unfold Za at hm;rcases List.mem_cons.1 hm with rfl|hm
  ·intro f h;cases h
  ·rcases List.mem_cons.1 hm with rfl|hm
   ·intro f h;cases h
   ·have h:=hf c hm;unfold qd at h;split at h
    ·cases h
    ·split at h
     ·rename_i h1;exact absurd h h1
     ·split at h
      ·cases h
      ·split at h
       ·rename_i h1;exact absurd h h1
       ·rename_i h1;exact QbK c.fields [] (by simpa using h1)
set_option maxRecDepth 100000
theorem zcK(w0 w:World)(B:Nat)(l:List Qb)(hm:Qw w0 w B l)(c d:Str)(hc:(Qc (Za l) c).isSome=true)(hd:(Qc (Za l) d).isSome=true):
 Calls Tryz.prog 152 #[.map (some B),.string c,.string d] w fun e w'=>e=.returned (.string (if ((qh (Za l) c).face||(qh (Za l) d).face)=true then Zg else zba (Za l) c d))/\Below w.heap.size w w':=by
 obtain⟨p1,k1,p2,k2,p3,k3,_,_,_,_,hlc⟩:=hm.map.look2 hm.right.nodup c (hm.map.names hc);obtain⟨p4,k4,p5,k5,p6,k6,_,_,_,_,hld⟩:=hm.map.look2 hm.right.nodup d (hm.map.names hd);have HLd:=Xh (qbq w0 w B l hm.right hm.map d hd);have HLc:Hid (∀wx,Below w.heap.size w wx->_):=fun wx hb=>qbq w0 wx B l hm.right (hm.map.step hb) c hc
 have hl13:(Zq (Za l) c).length<=13:=by
  have h1:=qaR (Za l) (Qk (Za l) c).length c;have h2:=(Qn hm.right.closed hc).1.length;have h3:=hm.right.small;unfold Zq;omega
 unfold zba;have hcf:=QbZ;show Calls _ _ _ _ fun e w'=>e=.returned (.string (if (((Qc (Za l) c).getD zg).face||((Qc (Za l) d).getD zg).face)=true then Zg else zah (Zq (Za l) d) (Zq (Za l) c)))/\Below w.heap.size w w'
 clear hm hc hd;generalize (Qc (Za l) c).getD zg=x at *;generalize (Qc (Za l) d).getD zg=y at *;generalize Zq (Za l) c=Lc at *;generalize Zq (Za l) d=Ld at *;obtain⟨n1,s1,f1,b1,d1,m1⟩:=x;obtain⟨n2,s2,f2,b2,d2,m2⟩:=y;unfold Qz at hlc hld;dsimp only at *;cases b1 with
 |true =>
  clear HLd HLc hld;go_enter Tryz.func152,Tryz.ntmps152;go_wp2
  go_ret;exact⟨rfl,Xb⟩
 |false =>
  cases b2 with
  |true =>
   clear HLd HLc;go_enter Tryz.func152,Tryz.ntmps152;go_wp2
   go_ret;exact⟨rfl,Xb⟩
  |false =>
   show Calls _ _ _ _ fun e w'=>e=.returned (.string (zah Ld Lc))/\Below w.heap.size w w'
   go_enter Tryz.func152,Tryz.ntmps152;go_wp2_with (first
    |(go_at_call 190;(have hB3':=hB3);(with_reducible refine(HLc.out _ hB3).mono ?_);rintro e w4⟨⟨v4,rfl,hv4⟩,hB4⟩;obtain⟨pa,ca,rfl⟩:=qe hv4)
    |(go_fit HLd.out;rintro e w3⟨⟨v3,rfl,hv3⟩,hB3⟩))
   have hs3:=(Ze hv3).mono hB4;have hs4:=Ze hv4;have hB:=Qa hB3 Xl hB4;obtain⟨pa',ca',he,h1,h2,hcc⟩:=hs4.open;injection he with he1 he2 he3
   subst he1 he3;clear he2;have HC:=Xh hcc;have HCon:Hid (∀x,_):=fun x=>qan Ld v3 x w4 hs3
   have hlen:Lc.length<=9223372036854775807:=Xf h1 h2;clear hs3 hs4 hcc hv3 hv4 hB3 hB4 HLc HLd hlc hld;go_loopw [27] (fun x wr=>∃k:Nat,k<=Lc.length/\Hid (zah Ld (Lc.drop k)=zah Ld Lc)/\w4=wr/\x=.int .i64 k) (fun x _=>Lc.length-(intOf x).toNat)
   case atStart=>exact⟨0,by omega,rfl,rfl,rfl⟩
   case round =>
    obtain⟨k,hk,hff,rfl,rfl⟩:=hrel;by_cases hkl:k<Lc.length
    ·obtain⟨a,ha⟩:∃a,Lc[k]? = some a:=⟨Lc[k],by simp[hkl]⟩;obtain⟨b,o,vs,rfl,hR,_,qc⟩:=HC.out k a ha;unfold zr at hR;subst hR;have c0:=qc.1;rw[Nat.mul_one]at c0;have Zc:=zb3 Ld Lc k a ha;rw[hff.out]at Zc;have hcon:=HCon.out a;have HX:=Xh ha;clear ha qc hff;cases hm:ZL Ld a with
     |true =>
      rw[hm]at hcon Zc;replace Zc:zah Ld Lc=a:=Zc;have HS:=Xh Zc;have HC1:=Xh hcon;clear Zc hcon hm;go_wp2_with (go_fit HC1.out;rintro e w5⟨rfl,rfl⟩)
      go_ret;exact⟨by rw[HS.out];rfl,hB⟩
     |false =>
      rw[hm]at hcon Zc;have hst:Hid (zah Ld (Lc.drop (k+1))=zah Ld Lc):=Zc.symm;have HC1:=Xh hcon;clear Zc hcon hm;go_wp2_with (go_fit HC1.out;rintro e w5⟨rfl,rfl⟩)
      go_roundw;case rel=>exact⟨k+1,by omega,hst.out,by simp,by simp⟩
      case measure=>simp[intOf];omega
    ·obtain rfl:k=Lc.length:=(by omega);have hno:zah Ld Lc=Zg:=(by rw[<-hff.out,Xg Xl];rfl);have HS:=Xh hno;clear hno hff;go_wp2_with fail;go_ret;exact⟨by rw[HS.out];rfl,hB⟩
set_option maxRecDepth 512
def Zb3:Ty->Bool
 |.ar _=>true
 |_=>false
theorem qb3{k:Str}{x:Ty}(h:Zf x=lst k)(hp:0<k.size):(((k[0]'hp).toNat:Int)==91)=Zb3 x:=by
 have hk:k[0]'hp=(lst k)[0]'(by have h1:(lst k).length=k.size:=rfl;omega):=rfl;have h0:(lst k)[0]? = (Zf x)[0]?:=by rw[h]
 rw[hk];have h2:(lst k)[0]? = some ((lst k)[0]'(by have h1:(lst k).length=k.size:=rfl;omega)):=Xn _;rw[h2]at h0;generalize (lst k)[0]'(by have h1:(lst k).length=k.size:=rfl;omega)=b at *;cases x with
 |i=>simp[Zf]at h0;subst h0;rfl
 |j=>simp[Zf]at h0;subst h0;rfl
 |cl c=>simp[Zf]at h0;subst h0;rfl
 |ar y=>simp[Zf]at h0;subst h0;rfl
def qak(w:World)(cs:List Qb)(x y:Kd)(n:Nat)(e:Ending)(w':World):Prop :=
 (∃z,e=.returned (.string z)/\qo (zS cs x y)=lst z/\z.size<=n)/\Below w.heap.size w w'
theorem Zdl{cs:List Qb}(T:Zbp cs)(ho:(Qc cs Zg).isSome=true){a b:Str}{x y:Kd}(ha:qo x=lst a)(hb:qo y=lst b)(hx:zL cs x=true)(h:x=y\/(x=.n/\qt y=true)\/(y=.n/\qt x=true)\/(qt x=false\/qt y=false)):
 qo (zS cs x y)=lst (if decide (x=y) then a else if decide (x=.n)&&qt y then b else if decide (y=.n)&&qt x then a else ⟨#[84]⟩):=by
 by_cases h1:x=y
 ·subst h1;rw[Xj rfl,if_pos rfl,Zdt T ho hx];exact ha
 ·rw[Xi h1,if_neg (by decide)];by_cases h2:x=.n/\qt y=true
  ·obtain⟨rfl,h2⟩:=h2;rw[h2,if_pos (by decide)];cases y with
   |n=>cases h2
   |t=>cases h2
   |ty z=>rw[ZaM,if_pos (show Ql z=true from h2)];exact hb
  ·have e2:(decide (x=.n)&&qt y)=false:=by
    rw[Bool.and_eq_false_iff];by_cases hn:x=.n
    ·exact Or.inr (by cases hr:qt y with|false=>rfl|true=>exact absurd ⟨hn,hr⟩ h2)
    ·exact Or.inl (Xi hn)
   rw[e2,if_neg (by decide)];by_cases h3:y=.n/\qt x=true
   ·obtain⟨rfl,h3⟩:=h3;rw[h3,if_pos (by decide)];cases x with
    |n=>cases h3
    |t=>cases h3
    |ty z=>rw[qaM,if_pos (show Ql z=true from h3)];exact ha
   ·have e3:(decide (y=.n)&&qt x)=false:=by
     rw[Bool.and_eq_false_iff];by_cases hn:y=.n
     ·exact Or.inr (by cases hr:qt x with|false=>rfl|true=>exact absurd ⟨hn,hr⟩ h3)
     ·exact Or.inl (Xi hn)
    rw[e3,if_neg (by decide)];have h4:qt x=false\/qt y=false:=by
     rcases h with h|h|h|h
     ·exact absurd h h1
     ·exact absurd h h2
     ·exact absurd h h3
     ·exact h
    rw[qdt h1 h2 h3 h4];rfl
set_option maxRecDepth 100000
theorem ZcK(w0 w:World)(B:Nat)(l:List Qb)(hm:Qw w0 w B l)(a b:Str)(x y:Kd)(ha:qo x=lst a)(hb:qo y=lst b)(hx:zL (Za l) x=true)(h:x=y\/(x=.n/\qt y=true)\/(y=.n/\qt x=true)\/(qt x=false\/qt y=false)):
 Calls Tryz.prog 109 #[.map (some B),.string a,.string b] w (qak w (Za l) x y (30+a.size+b.size)):=by
 have hE:=Zab ha hb;have hN:=ZP ha .n;have hM:=ZP hb .n;have HA:Hid (∀wx,_):=fun wx=>zN a x wx ha
 have HB:Hid (∀wx,_):=fun wx=>zN b y wx hb
 have hT:=Zdl hm.right.tree (zaz l) ha hb hx h;unfold qak;simp only[qo]at hN hM;generalize zS (Za l) x y=r at *;have hor:(decide (x=y)||(decide (x=.n)&&qt y)||(decide (y=.n)&&qt x)||!(qt x)||!(qt y))=true:=by
  rcases h with h|⟨h,g⟩|⟨h,g⟩|h|h<;>simp[*]
 clear hm ha hb hx h;generalize decide (x=y)=eE at *;generalize decide (x=.n)=eN at *;generalize decide (y=.n)=eM at *;generalize qt x=rx at *;generalize qt y=ry at *;cases eE<;>cases eN<;>cases eM<;>cases rx<;>cases ry<;>first|(exact absurd hor (by decide))|skip
 all_goals
  clear hor;simp only[if_true,if_false,Bool.and_true,Bool.and_false,Bool.false_eq_true]at hT;have HT:=Xh hT;clear hT;go_enter Tryz.func109,Tryz.ntmps109;go_wp2_with (first
   |(go_fit (HA.out _);rintro e w3⟨rfl,rfl⟩)
   |(go_fit (HB.out _);rintro e w3⟨rfl,rfl⟩))
  go_ret;first
   |exact⟨⟨a,rfl,HT,by omega⟩,Xb⟩
   |exact⟨⟨b,rfl,HT,by omega⟩,Xb⟩
   |exact⟨⟨⟨#[84]⟩,rfl,HT,by show 1<=_;omega⟩,Xb⟩
set_option maxRecDepth 512
theorem Qck(cs:List Qb)(c d:Str):zS cs (.ty (.cl c)) (.ty (.cl d))=.ty (.cl (zba cs c d)):=rfl
theorem zbL(z:Str):(QE z).size=z.size+1:=by unfold QE;rw[ByteArray.size_append];show 1+z.size=_;omega
set_option maxRecDepth 100000
theorem Qen(w0:World)(B:Nat)(l:List Qb):∀(x:Ty) (w:World) (a b:Str) (y:Ty),Qw w0 w B l->Zf x=lst a->Zf y=lst b->ZH (Za l) x=true->ZH (Za l) y=true->a.size<=4194304->b.size<=4194304 ->
 Calls Tryz.prog 109 #[.map (some B),.string a,.string b] w (qak w (Za l) (.ty x) (.ty y) (30+a.size+b.size)):=by
 have plain:∀(x:Ty) (w:World) (a b:Str) (y:Ty),Qw w0 w B l->Zf x=lst a->Zf y=lst b->ZH (Za l) x=true->(x=y\/Ql x=false\/Ql y=false) ->
  Calls Tryz.prog 109 #[.map (some B),.string a,.string b] w (qak w (Za l) (.ty x) (.ty y) (30+a.size+b.size)):=fun x w a b y hm ha hb hx h =>
  ZcK w0 w B l hm a b (.ty x) (.ty y) ha hb hx (by
   rcases h with h|h
   ·exact Or.inl (by rw[h])
   ·exact Or.inr (Or.inr (Or.inr h)))
 intro x;induction x with
 |i=>intro w a b y hm ha hb hx _ _ _;exact plain _ w a b y hm ha hb hx (Or.inr (Or.inl rfl))
 |j=>intro w a b y hm ha hb hx _ _ _;exact plain _ w a b y hm ha hb hx (Or.inr (Or.inl rfl))
 |cl c =>
  intro w a b y hm ha hb hx hy hsa hsb;by_cases he:Ty.cl c=y\/Ql y=false
  ·exact plain _ w a b y hm ha hb hx (by rcases he with he|he;exact Or.inl he;exact Or.inr (Or.inr he))
  ·have hne:Ty.cl c≠y:=fun h=>he (Or.inl h)
   have hE:=Zab (x:=.ty (.cl c)) (y:=.ty y) ha hb;have hN:=ZP (x:=.ty (.cl c)) ha .n;have hM:=ZP (x:=.ty y) hb .n;simp only[qo]at hN hM;rw[Xi (by intro h;cases h)]at hN hM;rw[Xi (by intro h;injection h with h;exact hne h)]at hE;have HA:Hid (∀wx,_):=fun wx=>zN a (.ty (.cl c)) wx ha
   have HB:Hid (∀wx,_):=fun wx=>zN b (.ty y) wx hb
   have HCa:Hid (∀wx,_):=fun wx=>Qai a (.cl c) wx ha (Xf hsa (by decide))
   have HCb:Hid (∀wx,_):=fun wx=>Qai b y wx hb (Xf hsb (by decide))
   obtain⟨hpa,fa⟩:=ZK ha;obtain⟨hpb,fb⟩:=ZK hb;have ga:=qb3 ha hpa;have gb:=qb3 hb hpb;simp only[qt,Ql,qA,QaR,qab,Zb3]at HA HCa fa ga;cases y with
   |i=>exact absurd (Or.inr rfl) he
   |j=>exact absurd (Or.inr rfl) he
   |cl d =>
    simp only[qt,Ql,qA,QaR,qab,Zb3]at HB HCb fb gb;have hlca:=zbs hm.faults (hm.right.tree.known c _ hx (hm.right.tree.lub1 c d hx hy).1);have HCl:=zcK w0 w B l hm c d hx hy;rw[hm.right.classes hx hy (fun h=>hne (by rw[h]))]at HCl;unfold qak;rw[Qck];generalize zba (Za l) c d=r at *;have HC2:=Xh HCl;have HTh:Hid (∀wx,_):=fun wx=>ZX r wx (Xf hlca (by decide))
    have hts:=qam r;have hfin:Hid ((Zd r).size<=30+a.size+b.size):=(by unfold Hid;omega);clear HCl he hm ha hx hb hy hsa hsb hne hlca hts;go_enter Tryz.func109,Tryz.ntmps109;go_wp2_with (first
     |(go_fit (HA.out _);rintro e w3⟨rfl,rfl⟩)
     |(go_fit (HB.out _);rintro e w3⟨rfl,rfl⟩)
     |(go_fit (HCa.out _);rintro e w3⟨rfl,rfl⟩)
     |(go_fit (HCb.out _);rintro e w3⟨rfl,rfl⟩)
     |(go_fit HC2.out;rintro e w4⟨rfl,hB4⟩)
     |(go_fit (HTh.out _);rintro e w5⟨rfl,rfl⟩))
    go_ret;exact⟨⟨_,rfl,(Zbg r).symm,hfin.out⟩,hB4⟩
   |ar z =>
    simp only[qt,Ql,qab,Zb3]at HB fb gb;have HTh:Hid (∀wx,_):=fun wx=>zaS wx
    clear he HCa HCb hm ha hx hb hy hsa hsb hne;go_enter Tryz.func109,Tryz.ntmps109;go_wp2_with (first
     |(go_fit (HA.out _);rintro e w3⟨rfl,rfl⟩)
     |(go_fit (HB.out _);rintro e w3⟨rfl,rfl⟩)
     |(go_fit (HTh.out _);rintro e w3⟨rfl,rfl⟩))
    go_ret;exact⟨⟨_,rfl,rfl,by show 8<=_;omega⟩,Xb⟩
 |ar u ih =>
  intro w a b y hm ha hb hx hy hsa hsb;by_cases he:Ty.ar u=y\/Ql y=false
  ·exact plain _ w a b y hm ha hb hx (by rcases he with he|he;exact Or.inl he;exact Or.inr (Or.inr he))
  ·have hne:Ty.ar u≠y:=fun h=>he (Or.inl h)
   have hE:=Zab (x:=.ty (.ar u)) (y:=.ty y) ha hb;have hN:=ZP (x:=.ty (.ar u)) ha .n;have hM:=ZP (x:=.ty y) hb .n;simp only[qo]at hN hM;rw[Xi (by intro h;cases h)]at hN hM;rw[Xi (by intro h;injection h with h;exact hne h)]at hE;have HA:Hid (∀wx,_):=fun wx=>zN a (.ty (.ar u)) wx ha
   have HB:Hid (∀wx,_):=fun wx=>zN b (.ty y) wx hb
   have HTh:Hid (∀wx,_):=fun wx=>zaS wx
   obtain⟨hpa,fa⟩:=ZK ha;obtain⟨hpb,fb⟩:=ZK hb;have ga:=qb3 ha hpa;have gb:=qb3 hb hpb;simp only[qt,Ql,qab,Zb3]at HA fa ga;cases y with
   |i=>exact absurd (Or.inr rfl) he
   |j=>exact absurd (Or.inr rfl) he
   |cl d =>
    simp only[qt,Ql,qab,Zb3]at HB fb gb;clear he hm ha hx hb hy hsa hsb hne ih;go_enter Tryz.func109,Tryz.ntmps109;go_wp2_with (first
     |(go_fit (HA.out _);rintro e w3⟨rfl,rfl⟩)
     |(go_fit (HB.out _);rintro e w3⟨rfl,rfl⟩)
     |(go_fit (HTh.out _);rintro e w3⟨rfl,rfl⟩))
    go_ret;exact⟨⟨_,rfl,rfl,by show 8<=_;omega⟩,Xb⟩
   |ar v =>
    simp only[qt,Ql,qab,Zb3]at HB fb gb;obtain⟨ta,tas,hsz1⟩:=Zaa ha;obtain⟨tb,tbs,hsz2⟩:=Zaa hb;have HA2:Hid (∀wx,_):=fun wx=>zN (a.extract 1 a.size) (.ty u) wx ta
    have HB2:Hid (∀wx,_):=fun wx=>zN (b.extract 1 b.size) (.ty v) wx tb
    have huv:u≠v:=fun h=>hne (by rw[h])
    have es1:(a.extract 1 a.size).size=a.size-1:=(by rw[ByteArray.size_extract];omega);have es2:(b.extract 1 b.size).size=b.size-1:=(by rw[ByteArray.size_extract];omega);simp only[qt]at HA2 HB2;by_cases hr:Ql u=true/\Ql v=true
    ·have HI:Hid (∀wx,Below w.heap.size w wx->_):=fun wx hb=>ih wx (a.extract 1 a.size) (b.extract 1 b.size) v (hm.step hb) ta tb hx hy (Xf tas hsa) (Xf tbs hsb)
     obtain⟨z,hz1,hz2⟩:=qcK (cs:=Za l) hr.1 hr.2;unfold qak at HI ⊢;rw[hz1]at HI;rw[hz2];rw[hr.1]at HA2;rw[hr.2]at HB2;clear he hm ha hb hx hy hne ih ta tas tb tbs huv hr hz1 hz2;generalize hxa:a.extract 1 a.size=a1 at *;generalize hxb:b.extract 1 b.size=b1 at *;go_enter Tryz.func109,Tryz.ntmps109;go_upto_region 12 with(first
      |(go_fit (HA.out _);rintro e w3⟨rfl,rfl⟩)
      |(go_fit (HB.out _);rintro e w3⟨rfl,rfl⟩)
      |(go_fit (HA2.out _);rintro e w3⟨rfl,rfl⟩)
      |(go_fit (HB2.out _);rintro e w3⟨rfl,rfl⟩))
     go_region_with (go_fit (HI.out _ Xb.drew);rintro e w4⟨⟨z4,rfl,hz4,hs4⟩,hB4⟩)
     all_goals
      have hfin:qo (.ty (.ar z))=lst (QE z4)/\(QE z4).size<=30+a.size+b.size:=⟨by rw[za0,<-hz4];rfl,by rw[zbL];omega⟩;have HF:=Xh hfin;have HB4:=Xh hB4;clear hfin hz4 hs4 hB4;go_wp2
      go_ret;exact⟨⟨QE z4,rfl,HF.out.1,HF.out.2⟩,Qa Xb.drew Xl HB4.out⟩
    ·have hw:Ql u=false\/Ql v=false:=by
      cases hu:Ql u with
      |false=>exact Or.inl rfl
      |true=>cases hv:Ql v with
       |false=>exact Or.inr rfl
       |true=>exact absurd ⟨hu,hv⟩ hr
     unfold qak;rw[Zbc huv hw];clear he hm ha hb hx hy hsa hsb hne ih ta tas tb tbs huv hr;generalize Ql u=ru at *;generalize Ql v=rv at *;generalize hxa:a.extract 1 a.size=a1 at *;generalize hxb:b.extract 1 b.size=b1 at *;have hor:(ru&&rv)=false:=(by rcases hw with h|h<;>simp[h]);clear hw;cases ru<;>cases rv<;>first|(exact absurd hor (by decide))|skip
     all_goals
      go_enter Tryz.func109,Tryz.ntmps109;go_wp2_with (first
       |(go_fit (HA.out _);rintro e w3⟨rfl,rfl⟩)
       |(go_fit (HB.out _);rintro e w3⟨rfl,rfl⟩)
       |(go_fit (HA2.out _);rintro e w3⟨rfl,rfl⟩)
       |(go_fit (HB2.out _);rintro e w3⟨rfl,rfl⟩)
       |(go_fit (HTh.out _);rintro e w3⟨rfl,rfl⟩))
      go_ret;exact⟨⟨_,rfl,rfl,by show 8<=_;omega⟩,Xb⟩
set_option maxRecDepth 512
theorem qek(w0 w:World)(B:Nat)(l:List Qb)(hm:Qw w0 w B l)(a b:Str)(x y:Kd)(ha:zaX (Za l) a x)(hb:zaX (Za l) b y)(hsa:a.size<=4194304)(hsb:b.size<=4194304):
 Calls Tryz.prog 109 #[.map (some B),.string a,.string b] w (qak w (Za l) x y (30+a.size+b.size)):=by
 have plain:=ZcK w0 w B l hm a b x y ha.1 hb.1 ha.2;cases x with
 |n=>exact plain (Or.inr (Or.inr (Or.inr (Or.inl rfl))))
 |t=>exact plain (Or.inr (Or.inr (Or.inr (Or.inl rfl))))
 |ty u =>
  cases y with
  |n=>exact plain (Or.inr (Or.inr (Or.inr (Or.inr rfl))))
  |t=>exact plain (Or.inr (Or.inr (Or.inr (Or.inr rfl))))
  |ty v=>exact Qen w0 B l u w a b v hm ha.1 hb.1 ha.2 hb.2 hsa hsb
def zeg(w:World)(l:List Qb)(e:Ending)(w':World):Prop :=
 Below w.heap.size w w'/\((Zj l=0/\∃w0 B,e=.returned (.tuple #[.map (some B),.nilIface])/\Qw w0 w' B l)\/(Zj l≠0/\e=.returned (.tuple #[.map none,.iface 29 (.int .i64 (Zj l))])))
theorem qdo(l:List Qb)(lv:Value)(w:World)(hl:Qaw w)(ho:∀c∈l,qV c)(hlv:qi w lv l):
 Calls Tryz.prog 50 #[lv] w (zeg w l):=by
 refine(ZdP l lv w hl ho hlv).mono ?_;rintro e w2⟨hB2,⟨hz,rfl,hM,hN,hA,hC,hL⟩|⟨hz,rfl⟩⟩
 ·exact⟨hB2,Or.inl ⟨hz,_,_,rfl,hM,Qal hz,hA⟩⟩
 ·exact⟨hB2,Or.inr ⟨hz,rfl⟩⟩
theorem ZN{w w':World}{base k:Nat}{t:TypeId}{v:Value}{n:Nat}{xs:List Value}(h:w.ownsRow base t k v n xs)(hb:Below w.heap.size w w'):w'.ownsRow base t k v n xs:=by
 rcases h with⟨h1,h2|⟨g,cap,cur,k1,k2,k3,k4⟩⟩
 ·exact⟨h1,Or.inl h2⟩
 ·exact⟨h1,Or.inr ⟨g,cap,cur,k1,k2,(hb.block g (Array.getElem?_eq_some_iff.1 k3).1).trans k3,k4⟩⟩
theorem ZbL{w w':World}{b:Nat}(hb:w'.heap[b]? = w.heap[b]?):∀{vs:List Value} {o:Nat},qG w b o vs->qG w' b o vs
 |[],_,_=>trivial
 |_::_,_,⟨h1,h2⟩=>⟨(World.cell?_of_block hb).trans h1,ZbL hb h2⟩
theorem Qg.block{α:Type}{w w':World}{k:Nat}{R:α->List Value->Prop}{v:Value}{l:List α}(h:Qg w k R v l)(hb:∀g,v.ownBlock=some g->w'.heap[g]? = w.heap[g]?):Qg w' k R v l:=by
 rcases h with h|⟨a,cap,rfl,h2,h3,h4⟩
 ·exact Or.inl h
 ·refine Or.inr ⟨a,cap,rfl,h2,h3,fun i x hi=>?_⟩;obtain⟨vs,r1,r2,r3,r4⟩:=h4 i x hi;exact⟨vs,r1,r2,r3,ZbL (hb a.block rfl) r4⟩
theorem Qg.one{α:Type}{w:World}{k:Nat}{R:α->List Value->Prop}{v:Value}{l:List α}(h:Qg w k R v l):v.oneCell'=true:=by
 rcases h with⟨rfl,_⟩|⟨a,cap,rfl,_⟩<;>rfl
theorem zaR{a:Addr}(hs:a=⟨a.block,a.off,none⟩)(n:Nat):a.add n=⟨a.block,a.off+n,none⟩:=by
 unfold Addr.add;split
 ·subst_vars;simpa using hs
 ·rfl
theorem Blk.grown{w w':World}{b:Nat}{t:TypeId}{vals:List Value}{row:Option Nat}(h:Blk w b t vals)(hg:w.grownBy w' row)(hne:row≠some b):Blk w' b t vals:=(hg.block b h.lt (fun e=>hne e.symm)).trans h
theorem Blk.other'{w:World}{b:Nat}{t:TypeId}{vals:List Value}(h:Blk w b t vals){a:Addr}(hne:a.block≠b)(u:Value):Blk (w.setCell a u) b t vals:=(Xk w a b u (fun e=>hne e.symm)).trans h
theorem ZG{w:World}{base b size n:Nat}{t:TypeId}{v:Value}{xs:List Value}(h:w.ownsRow base t size v n xs)(hb:b<base)(j:Nat)(u:Value):(w.setCell ⟨b,j,none⟩ u).ownsRow base t size v n xs:=by
 rcases h with⟨h1,h2|⟨g,cap,cur,k1,k2,k3,k4⟩⟩
 ·exact⟨h1,Or.inl h2⟩
 ·exact⟨h1,Or.inr ⟨g,cap,cur,k1,k2,(Xk w ⟨b,j,none⟩ g u (by show g≠b;omega)).trans k3,k4⟩⟩
theorem zcl{w:World}{B:Nat}(h:B<=w.heap.size)(a:Addr)(u:Value):B<=(w.setCell a u).heap.size:=by simpa using h
structure Frm where
 locals:List Str
 stack:List Str
 deriving DecidableEq
def Zo(k:Str):Kd:=if lst k=[78] then .n else if lst k=[84] then .t else .ty (Zd8 k)
theorem qz{k:Str}{x:Kd}(h:qo x=lst k):Zo k=x:=by
 unfold Zo;rw[<-h];cases x with
 |n=>rfl
 |t=>rfl
 |ty y =>
  rw[if_neg (by cases y<;>simp[qo,Zf]),if_neg (by cases y<;>simp[qo,Zf])];exact congrArg Kd.ty (qck h)
theorem QS{cs:List Qb}{k:Str}(h:zd cs k=0):zaX cs k (Zo k):=by
 obtain⟨X,hX,hg⟩:=zM h;rw[qz hX];exact⟨hX,hg⟩
theorem zad{cs:List Qb}{k:Str}(h:zd cs k=0):Zah (Zo k)<=3:=qas (QS h) h
def zz(cs:List Qb)(f:Frm):Nat :=
 if 8<f.locals.length\/8<f.stack.length then 4 else Zh (zd cs) (f.locals++f.stack)
def QaU(cs:List Qb)(a b:Str):Str:=str (qo (zS cs (Zo a) (Zo b)))
theorem Qb3{cs:List Qb}{a b z:Str}{x y:Kd}(ha:qo x=lst a)(hb:qo y=lst b)(hz:qo (zS cs x y)=lst z):QaU cs a b=z:=by
 unfold QaU;rw[qz ha,qz hb,hz];rfl
def QO(cs:List Qb)(a b:List Str):List Str:=List.zipWith (QaU cs) a b
def zQ(a b:Frm):Bool:=decide (a.locals.length=b.locals.length)&&decide (a.stack.length=b.stack.length)
def Q1(cs:List Qb)(a b:Frm):Frm:=⟨QO cs a.locals b.locals,QO cs a.stack b.stack⟩
theorem zw{cs:List Qb}{f:Frm}(h:zz cs f=0):f.locals.length<=8/\f.stack.length<=8/\(∀k∈f.locals,zd cs k=0)/\∀k∈f.stack,zd cs k=0:=by
 unfold zz at h;split at h
 ·cases h
 ·rename_i hn;have hz:=zaV h;exact⟨by omega,by omega,fun k hk=>hz k (List.mem_append_left _ hk),fun k hk=>hz k (List.mem_append_right _ hk)⟩
theorem Zcl(a b:List Str)(va vb:Value)(w:World)(ha:Qh w va a)(hb:Qh w vb b):Calls Tryz.prog 110 #[va,vb] w fun e w'=>e=.returned (.bool (decide (a=b)))/\Below w.heap.size w w':=by
 obtain⟨p,cap,rfl,h1,h2,hcc⟩:=ha.open;obtain⟨q,cbp,rfl,k1,k2,hdd⟩:=hb.open;have HC:=Xh hcc;have HD:=Xh hdd;have hlen:a.length<=9223372036854775807:=Xf h1 h2;clear ha hb hcc hdd;by_cases hl:a.length=b.length
 ·have hl':((a.length:Int) != (b.length:Int))=false:=by simp[hl]
  go_enter Tryz.func110,Tryz.ntmps110;go_wp2_with fail;all_goals first|(exfalso;omega)|skip
  go_loopw [13] (fun i wr=>∃k:Nat,k<=a.length/\Hid (decide (a.drop k=b.drop k)=decide (a=b))/\Below w.heap.size w wr/\i=.int .i64 k) (fun i _=>a.length-(intOf i).toNat)
  case atStart=>exact⟨0,by omega,rfl,Xb,rfl⟩
  case round =>
   obtain⟨k,hk,hff,hB,rfl⟩:=hrel;by_cases hkl:k<a.length
   ·obtain⟨x,hx⟩:∃x,a[k]? = some x:=⟨a[k],by simp[hkl]⟩;obtain⟨y,hy⟩:∃y,b[k]? = some y:=⟨b[k]'(by omega),by simp[<-hl,hkl]⟩;obtain⟨b1,o1,vs,rfl,hR,_,qc⟩:=HC.out k x hx;unfold zr at hR;subst hR;obtain⟨b2,o2,vs,rfl,hR,_,hcellt⟩:=HD.out k y hy;unfold zr at hR;subst hR;have c0:=(qc.mono hB qc.lt).1;have d0:=(hcellt.mono hB hcellt.lt).1;rw[Nat.mul_one]at c0 d0;have Zc:=Qbj a b hl k x y hx hy;rw[hff.out,<-Z5]at Zc;have HX:=Xh hx;have hkb:k<b.length:=(by omega);clear hx hy qc hcellt;cases he:x.toList==y.toList with
    |true =>
     rw[he,Bool.true_and]at Zc;have hst:=Xh Zc.symm;clear Zc;go_upto_region 6 with fail;go_quiet (fail);go_wp2
     go_roundw;case rel=>exact⟨k+1,by omega,hst.out,⟨hB.os,hB.tape,hB.output,hB.size,hB.block⟩,by simp⟩
     case measure=>simp[intOf];omega
    |false =>
     rw[he,Bool.false_and]at Zc;have HS:=Xh Zc;clear Zc;go_upto_region 6 with fail;go_quiet (fail);go_wp2
     go_ret;exact⟨by rw[HS.out];rfl,⟨hB.os,hB.tape,hB.output,hB.size,hB.block⟩⟩
   ·obtain rfl:k=a.length:=(by omega);have hyes:decide (a=b)=true:=(by rw[<-hff.out,Xg Xl,Xg (by omega)];rfl);have HS:=Xh hyes;clear hyes;go_wp2_with fail;go_ret;exact⟨by rw[HS.out];rfl,hB⟩
 ·have hne:decide (a=b)=false:=by simpa using fun h=>hl (by rw[h])
  have hl':((a.length:Int) != (b.length:Int))=true:=by simp;omega
  rw[hne];go_enter Tryz.func110,Tryz.ntmps110;go_wp2_with fail;all_goals first|(exfalso;omega)|skip
  go_ret;exact⟨rfl,Xb⟩
def zaD(f:Frm):Prop:=(∀k∈f.locals,k.size<=4194304)/\∀k∈f.stack,k.size<=4194304
def zk(w:World)(lv sv:Value)(f:Frm):Prop:=Qh w lv f.locals/\Qh w sv f.stack
theorem zk.mono{w w':World}(hb:Below w.heap.size w w'){lv sv:Value}{f:Frm}(h:zk w lv sv f):zk w' lv sv f:=⟨h.1.mono hb,h.2.mono hb⟩
theorem Qc3(a b:Frm):decide (a=b)=(decide (a.locals=b.locals)&&decide (a.stack=b.stack)):=by
 cases a;cases b;rw[Bool.eq_iff_iff];simp
set_option maxRecDepth 100000
theorem Qcf(a b:Frm)(a1 a2 b1 b2:Value)(w:World)(ha:zk w a1 a2 a)(hb:zk w b1 b2 b):
 Calls Tryz.prog 67 #[.agg #[a1,a2],.agg #[b1,b2]] w fun e w'=>e=.returned (.bool (decide (a=b)))/\Below w.heap.size w w':=by
 have HE1:Hid (∀wx,Below w.heap.size w wx->_):=fun wx h=>Zcl a.locals b.locals a1 b1 wx (ha.1.mono h) (hb.1.mono h)
 have HE2:Hid (∀wx,Below w.heap.size w wx->_):=fun wx h=>Zcl a.stack b.stack a2 b2 wx (ha.2.mono h) (hb.2.mono h)
 rw[Qc3];clear ha hb;have HB:=Xh (((Below.refl w.heap.size w).alloc Xl (.cells #[a1,a2] 27)).alloc (by simp) (.cells #[b1,b2] 27));obtain⟨wb,hwb⟩:∃wb,wb=(w.alloc (.cells #[a1,a2] 27)).alloc (.cells #[b1,b2] 27):=⟨_,rfl⟩;have HA1:Hid (Blk wb w.heap.size 27 [a1,a2]):=by
  rw[hwb];exact(Blk.new w 27 [a1,a2]).step (Xb.alloc Xl _)
 have HA2:Hid (Blk wb (w.heap.size+1) 27 [b1,b2]):=by
  rw[hwb];have:=Blk.new (w.alloc (.cells #[a1,a2] 27)) 27 [b1,b2];unfold Hid;simpa using this
 rw[<-hwb]at HB;have HW:=Xh hwb.symm;clear hwb;generalize decide (a.locals=b.locals)=d at *;cases d with
 |true =>
  rw[Bool.true_and];generalize decide (a.stack=b.stack)=r at *;go_enter Tryz.func67,Tryz.ntmps67;go_wp2_with (first
   |(go_at_call 110;rw[HW.out];(with_reducible refine(HE1.out _ HB.out).mono ?_);rintro e w3⟨rfl,hB3⟩;(have hB3':=Qa HB Xl hB3);obtain⟨q0,q1⟩:=(HA1.out.step hB3).cells2;obtain⟨q2,q3⟩:=(HA2.out.step hB3).cells2)
   |(go_fit (HE2.out _ hB3');rintro e w4⟨rfl,hB4⟩))
  go_ret;exact⟨rfl,Qa hB3' Xl hB4⟩
 |false =>
  rw[Bool.false_and];go_enter Tryz.func67,Tryz.ntmps67;go_wp2_with (first
   |(go_at_call 110;rw[HW.out];(with_reducible refine(HE1.out _ HB.out).mono ?_);rintro e w3⟨rfl,hB3⟩;(have hB3':=Qa HB Xl hB3)))
  go_ret;exact⟨rfl,hB3'⟩
set_option maxRecDepth 512
theorem zbk{cs:List Qb}{a b:List Str}{k:Nat}{x y:Str}(h1:a[k]? = some x)(h2:b[k]? = some y):QO cs (a.take (k+1)) (b.take (k+1))=QO cs (a.take k) (b.take k)++[QaU cs x y]:=by
 obtain⟨k1,rfl⟩:=List.getElem?_eq_some_iff.1 h1;obtain⟨k2,rfl⟩:=List.getElem?_eq_some_iff.1 h2;unfold QO;rw[List.take_succ_eq_append_getElem k1,List.take_succ_eq_append_getElem k2,List.zipWith_append (by simp;omega)];rfl
theorem Zbk{cs:List Qb}{a b:List Str}(h:a.length=b.length):QO cs (a.take a.length) (b.take a.length)=QO cs a b:=by
 rw[List.take_length,h,List.take_length]
theorem Zan{cs:List Qb}{a b:List Str}(h:a.length=b.length):(QO cs a b).length=a.length:=by unfold QO;simp[h]
theorem zbE(w:World)(a:Value)(t:TypeId):∀j u,[a][j]? = some u->(w.alloc (.cells #[a] t)).cell? ((⟨w.heap.size,0,none⟩:Addr).add j)=some u:=by
 intro j u hj;match j,hj with
 |0,hj=>simp at hj;subst hj;simp[Addr.add]
theorem Qcx(a:Str):∀u∈[Value.string a],u.oneCell'=true:=by
 intro u hu;simp at hu;subst hu;rfl
def ZaD(w:World)(cs:List Qb)(a b:Frm)(e:Ending)(w':World):Prop :=
 Below w.heap.size w w'/\((zQ a b=true/\∃v1 v2,e=.returned (.tuple #[.agg #[v1,v2],.bool true])/\zk w' v1 v2 (Q1 cs a b))\/(zQ a b=false/\e=.returned (.tuple #[.agg #[.slice none 0 0,.slice none 0 0],.bool false])))
set_option maxRecDepth 100000
theorem QcK(w0 w:World)(B:Nat)(l:List Qb)(hm:Qw w0 w B l)(a b:Frm)(a1 a2 b1 b2:Value)(ha:zk w a1 a2 a)(hb:zk w b1 b2 b)(hSa:zaD a)(hSb:zaD b)(hza:zz (Za l) a=0)(hzb:zz (Za l) b=0):
 Calls Tryz.prog 64 #[.map (some B),.agg #[a1,a2],.agg #[b1,b2]] w (ZaD w (Za l) a b):=by
 obtain⟨p1,c1,rfl,_,_,ha1⟩:=ha.1.open;obtain⟨p2,c2,rfl,_,_,ha2⟩:=ha.2.open;obtain⟨p3,c3,rfl,_,_,hb1⟩:=hb.1.open;obtain⟨p4,c4,rfl,_,_,hb2⟩:=hb.2.open;obtain⟨hla,hsa,hka1,hka2⟩:=zw hza;obtain⟨hlb,hsb,hkb1,hkb2⟩:=zw hzb;have HO:Hid (∀wx x y,Below w.heap.size w wx->(x∈a.locals/\y∈b.locals)\/(x∈a.stack/\y∈b.stack)->Calls Tryz.prog 109 #[.map (some B),.string x,.string y] wx fun e w'=>e=.returned (.string (QaU (Za l) x y))/\Below wx.heap.size wx w'):=fun wx x y hB h=>by
  have hx:zd (Za l) x=0/\zd (Za l) y=0/\x.size<=4194304/\y.size<=4194304:=by
   rcases h with⟨h1,h2⟩|⟨h1,h2⟩
   ·exact⟨hka1 x h1,hkb1 y h2,hSa.1 x h1,hSb.1 y h2⟩
   ·exact⟨hka2 x h1,hkb2 y h2,hSa.2 x h1,hSb.2 y h2⟩
  obtain⟨X,hX⟩:=zM hx.1;obtain⟨Y,hY⟩:=zM hx.2.1;refine(qek w0 wx B l (hm.step hB) x y X Y hX hY hx.2.2.1 hx.2.2.2).mono ?_;rintro e w'⟨⟨z,rfl,hz,_⟩,hB'⟩;exact⟨by rw[Qb3 hX.1 hY.1 hz],hB'⟩
 have HA1:=Xh ha1;have HA2:=Xh ha2;have HB1:=Xh hb1;have HB2:=Xh hb2;obtain⟨i0,hi,hz0,hz1,hz2⟩:=info_parts qO;obtain⟨n,hn1⟩:∃n,a.locals.length=n:=⟨_,rfl⟩;obtain⟨n',hn2⟩:∃n,b.locals.length=n:=⟨_,rfl⟩;obtain⟨m,hm1⟩:∃n,a.stack.length=n:=⟨_,rfl⟩;obtain⟨m',hm2⟩:∃n,b.stack.length=n:=⟨_,rfl⟩;rw[hn1,hn2,hm1,hm2];have HBn:=Xh ((((Below.refl w.heap.size w).alloc Xl (.cells #[.slice p1 n c1,.slice p2 m c2] 27)).alloc (by simp) (.cells #[.slice p3 n' c3,.slice p4 m' c4] 27)).alloc (by simp;omega) (.cells #[.slice none 0 0,.slice none 0 0] 27));rw[hn1]at hla;rw[hm1]at hsa;unfold ZaD;clear ha1 ha2 hb1 hb2 hka1 hka2 hkb1 hkb2 hza hzb hSa hSb hm ha hb hlb hsb;have hsh:zQ a b=(decide (n=n')&&decide (m=m')):=by unfold zQ;rw[hn1,hn2,hm1,hm2]
 have HN1:=Xh hn1;have HN2:=Xh hn2;have HM1:=Xh hm1;have HM2:=Xh hm2;clear hn1 hn2 hm1 hm2;generalize Za l=cs at *;by_cases h1:n=n'
 ·by_cases h2:m=m'
  ·subst h1 h2;have z1:((n:Int) != (n:Int))=false:=(by simp);have z2:((m:Int) != (m:Int))=false:=(by simp);rw[Xj rfl,Xj rfl,Bool.and_true]at hsh;have HS:=Xh hsh;clear hsh;obtain⟨w1,hw1⟩:∃w1,w1=(((w.alloc (.cells #[.slice p1 n c1,.slice p2 m c2] 27)).alloc (.cells #[.slice p3 n c3,.slice p4 m c4] 27)).alloc (.cells #[.slice none 0 0,.slice none 0 0] 27)).alloc (.cells #[.slice none 0 0,.slice none 0 0] 27):=⟨_,rfl⟩;have hB1':Below w.heap.size w w1:=(by rw[hw1];exact HBn.out.alloc (by simp;omega) _);have hsz:w1.heap.size=w.heap.size+4:=(by rw[hw1];simp);have hk0:Blk w1 w.heap.size 27 [.slice p1 n c1,.slice p2 m c2]:=by
    rw[hw1];exact(Blk.new w 27 _).step (((Xb.alloc Xl _).alloc (by simp) _).alloc (by simp) _)
   have hk1:Blk w1 (w.heap.size+1) 27 [.slice p3 n c3,.slice p4 m c4]:=by
    rw[hw1];have:=(Blk.new (w.alloc (.cells #[.slice p1 n c1,.slice p2 m c2] 27)) 27 [.slice p3 n c3,.slice p4 m c4]).step ((Xb.alloc Xl (.cells #[.slice none 0 0,.slice none 0 0] 27)).alloc (by simp) (.cells #[.slice none 0 0,.slice none 0 0] 27));simpa using this
   have hk2:Blk w1 (w.heap.size+1+1) 27 [.slice none 0 0,.slice none 0 0]:=by
    rw[hw1];have:=(Blk.new ((w.alloc (.cells #[.slice p1 n c1,.slice p2 m c2] 27)).alloc (.cells #[.slice p3 n c3,.slice p4 m c4] 27)) 27 [.slice none 0 0,.slice none 0 0]).step (Xb.alloc Xl (.cells #[.slice none 0 0,.slice none 0 0] 27));simpa using this
   have hk3:Blk w1 (w.heap.size+1+1+1) 27 [.slice none 0 0,.slice none 0 0]:=by
    rw[hw1];have:=Blk.new (((w.alloc (.cells #[.slice p1 n c1,.slice p2 m c2] 27)).alloc (.cells #[.slice p3 n c3,.slice p4 m c4] 27)).alloc (.cells #[.slice none 0 0,.slice none 0 0] 27)) 27 [.slice none 0 0,.slice none 0 0];simpa using this
   have HW:=Xh hw1.symm;go_enter Tryz.func64,Tryz.ntmps64;go_wp2_with fail;rw[HW.out];clear HW hw1 HBn;have HK0:=Xh hk0;have HK1:=Xh hk1;have HK2:=Xh hk2;have HK3:=Xh hk3;have HBw:=Xh hB1';have HSz:Hid (w.heap.size+4<=w1.heap.size):=(by unfold Hid;omega);clear hk0 hk1 hk2 hk3 hB1' hsz;go_loopw [33] (fun x wr=>∃(k:Nat) (v:Value),k<=n/\Hid (Blk wr w.heap.size 27 [.slice p1 n c1,.slice p2 m c2])/\Hid (Blk wr (w.heap.size+1) 27 [.slice p3 n c3,.slice p4 m c4])/\Hid (Blk wr (w.heap.size+1+1) 27 [.slice none 0 0,.slice none 0 0])/\Hid (Blk wr (w.heap.size+1+1+1) 27 [v,.slice none 0 0])/\Hid (wr.ownsRow (w.heap.size+4) 9 1 v k ((QO cs (a.locals.take k) (b.locals.take k)).map Value.string))/\Below w.heap.size w wr/\Hid (w.heap.size+4<=wr.heap.size)/\x=.int .i64 k) (fun x _=>n-(intOf x).toNat)
   case atStart=>exact⟨0,_,by omega,HK0,HK1,HK2,HK3,World.ownsRow_nil _ _ _ _,HBw,HSz,rfl⟩
   case round =>
    clear HK0 HK1 HK2 HK3 HBw HSz;obtain⟨k,v,hk,hk0,hk1,hk2,hk3,hown,hB,hws,rfl⟩:=hrel;by_cases hkl:k<n
    ·obtain⟨va,vc,rfl⟩:=qe hown.out;obtain⟨x,hx⟩:∃x,a.locals[k]? = some x:=⟨a.locals[k]'(by rw[HN1.out];exact hkl),by simp⟩;obtain⟨y,hy⟩:∃y,b.locals[k]? = some y:=⟨b.locals[k]'(by rw[HN2.out];exact hkl),by simp⟩;obtain⟨ba,oa,vs,rfl,hR,_,hca⟩:=HA1.out k x hx;unfold zr at hR;subst hR;obtain⟨bb,ob,vs,rfl,hR,_,hcb⟩:=HB1.out k y hy;unfold zr at hR;subst hR;have c0:=(hca.mono hB hca.lt).1;have d0:=(hcb.mono hB hcb.lt).1;rw[Nat.mul_one]at c0 d0;have e1:=hk1.out.cells2;have q1:wr.cell? ⟨w.heap.size+1,0,none⟩=some (.slice (some ⟨bb,ob,none⟩) n c3):=e1.1;have e3:=hk3.out.cells2;have q3:wr.cell? ⟨w.heap.size+1+1+1,0,none⟩=some (.slice va k vc):=e3.1;have hst:=zbk (cs:=cs) hx hy;have HOx:=Xh (fun wx hb=>HO.out wx x y hb (Or.inl ⟨Xe hx,Xe hy⟩));generalize QaU cs x y=z at *;have HSt:=Xh hst;have HBr:=Xh hB;have b3:=Xh q3;clear hst hx hy hca hcb hB e1 e3;go_upto_region 7 with fail;have hb63:k+1<=maxLen:=(by unfold maxLen;omega);have hb16:(k+1)*16<=140737488355328:=(by omega);have hno:∀b,b<w.heap.size+4->(Value.slice va k vc).ownBlock≠some b:=fun b hb e=>by have:=(hown.out.lt _ e).1;omega
     have hi1:(k:Int)<(n:Int):=(by omega);have hi0:(0:Int)<=(k:Int):=(by omega);go_region_law (first
      |(refine step_append_lies _ (by rfl) _ _ 25 (by rfl) (w.heap.size+4) 9 i0 (.string .empty) 1 16 Tryz.underlying25 hi hz0 hz1 hz2 rfl (by decide) _ k _ (by rfl) hown7 ⟨w6.heap.size,0,none⟩ 1 1 [.string z] (by rfl) rfl (zbE w6 _ 9) (Qcx _) (by decide) hb63 hb16 hbase7 (w6.heap.size+1) (by simp) ?_;intro g cap w8 hown8 hgrow hat hlt;(have hk8:=hk37.grown hgrow (hno _ (by omega)));(have e8:=hk8.cells2);(have f8:=hk8.frozen 0))
      |(go_simp;go_at_call 109;refine(HOx.out _ (HBr.out.drew)).mono ?_;rintro e w6⟨rfl,hB6'⟩;(have hB6:=Qa ((Below.refl wr.heap.size wr).drew) Xl hB6');(have d3:=(hB6.cell (p:=⟨w.heap.size+1+1+1,0,none⟩) (Zck b3.out)).trans b3.out);(have d4:=Lib.cell?_alloc_some (.cells #[.string z] 9) d3);(have hBy:=hB6.alloc hB6.size (.cells #[.string z] 9));(have hown7:=ZN hown.out hBy);(have hk37:=hk3.out.step hBy);(have hbase7:=Xf hws.out hBy.size)))
     all_goals
      have hk07:=Xh ((hk0.out.step hBy).grown hgrow (hno _ (by omega)));have hk17:=Xh ((hk1.out.step hBy).grown hgrow (hno _ (by omega)));have hk27:=Xh ((hk2.out.step hBy).grown hgrow (hno _ (by omega)));have hK8:=Xh hk8;have hO8:=Xh hown8;have hW8:Hid (w.heap.size+4<=w8.heap.size):=Xf hbase7 hgrow.size;have hB8:=Xh ((Qa HBr Xl hBy).grown hgrow (Qa HBr Xl hBy).size (fun g e=>by have:=(hown.out.lt g e).1;omega));obtain⟨e8a,e8b⟩:=e8;clear d3 d4 hBy hown7 hk37 hbase7 hgrow hat hlt hk8 hown8 hB6 hB6' b3 hno hk0 hk1 hk2 hk3 hown hws HOx c0 d0 q1 q3;go_wp2_with fail;go_roundw;case rel=>exact⟨k+1,Value.slice (some ⟨g,0,none⟩) (k+1) cap,by omega,hk07.out.other' (by show w.heap.size+1+1+1≠_;omega) _,hk17.out.other' (by show w.heap.size+1+1+1≠_;omega) _,hk27.out.other' (by show w.heap.size+1+1+1≠_;omega) _,hK8.out.put 0 _,by unfold Hid;rw[HSt.out,List.map_append];exact ZG hO8.out (by omega) _ _,hB8.out.setCell (by show w.heap.size<=w.heap.size+1+1+1;omega) _,zcl hW8.out _ _,by simp⟩
      case measure=>simp[intOf];omega
    ·obtain⟨g1,k1,rfl⟩:=qe hown.out;obtain rfl:n=k:=(by omega);have hj:=Zbk (cs:=cs) (a:=a.locals) (b:=b.locals) (by rw[HN1.out,HN2.out]);rw[HN1.out]at hj;have ho1:=hown.out;rw[hj]at ho1;obtain⟨q0,q1⟩:=hk0.out.cells2;have HK0:=Xh hk0.out;have HK1:=Xh hk1.out;have HK2:=Xh hk2.out;have HK3:=Xh hk3.out;have HO1:=Xh ho1;have HBw:=Xh hB;have HSz:=Xh hws.out;clear hk0 hk1 hk2 hk3 hown hB hws ho1 hj;go_wp2_with fail;go_loopw [55] (fun x wr=>∃(k:Nat) (v:Value),k<=m/\Hid (Blk wr w.heap.size 27 [.slice p1 n c1,.slice p2 m c2])/\Hid (Blk wr (w.heap.size+1) 27 [.slice p3 n c3,.slice p4 m c4])/\Hid (Blk wr (w.heap.size+1+1) 27 [.slice none 0 0,.slice none 0 0])/\Hid (Blk wr (w.heap.size+1+1+1) 27 [.slice g1 n k1,v])/\Hid (wr.ownsRow (w.heap.size+4) 9 1 v k ((QO cs (a.stack.take k) (b.stack.take k)).map Value.string))/\Hid (wr.ownsRow (w.heap.size+4) 9 1 (.slice g1 n k1) n ((QO cs a.locals b.locals).map Value.string))/\Hid (∀g,(Value.slice g1 n k1).ownBlock=some g->v.ownBlock≠some g)/\Below w.heap.size w wr/\Hid (w.heap.size+4<=wr.heap.size)/\x=.int .i64 k) (fun x _=>m-(intOf x).toNat)
     case atStart=>exact⟨0,_,by omega,HK0,HK1,HK2,HK3,World.ownsRow_nil _ _ _ _,HO1,(by intro g _ h;cases h),HBw,HSz,rfl⟩
     case round =>
      clear HK0 HK1 HK2 HK3 HBw HSz HO1;obtain⟨k,v,hk,hk0,hk1,hk2,hk3,hown,hown1,hap,hB,hws,rfl⟩:=hrel;by_cases hkl:k<m
      ·obtain⟨va,vc,rfl⟩:=qe hown.out;obtain⟨x,hx⟩:∃x,a.stack[k]? = some x:=⟨a.stack[k]'(by rw[HM1.out];exact hkl),by simp⟩;obtain⟨y,hy⟩:∃y,b.stack[k]? = some y:=⟨b.stack[k]'(by rw[HM2.out];exact hkl),by simp⟩;obtain⟨ba,oa,vs,rfl,hR,_,hca⟩:=HA2.out k x hx;unfold zr at hR;subst hR;obtain⟨bb,ob,vs,rfl,hR,_,hcb⟩:=HB2.out k y hy;unfold zr at hR;subst hR;have c0:=(hca.mono hB hca.lt).1;have d0:=(hcb.mono hB hcb.lt).1;rw[Nat.mul_one]at c0 d0;have e1:=hk1.out.cells2;have q1:wr.cell? ⟨w.heap.size+1,1,none⟩=some (.slice (some ⟨bb,ob,none⟩) m c4):=e1.2;have e3:=hk3.out.cells2;have q3:wr.cell? ⟨w.heap.size+1+1+1,1,none⟩=some (.slice va k vc):=e3.2;have hst:=zbk (cs:=cs) hx hy;have HOx:=Xh (fun wx hb=>HO.out wx x y hb (Or.inr ⟨Xe hx,Xe hy⟩));generalize QaU cs x y=z at *;have HSt:=Xh hst;have HBr:=Xh hB;have b3:=Xh q3;clear hst hx hy hca hcb hB e1 e3;go_upto_region 12 with fail;have hb63:k+1<=maxLen:=(by unfold maxLen;omega);have hb16:(k+1)*16<=140737488355328:=(by omega);have hno:∀b,b<w.heap.size+4->(Value.slice va k vc).ownBlock≠some b:=fun b hb e=>by have:=(hown.out.lt _ e).1;omega
       have hi1:(k:Int)<(m:Int):=(by omega);have hi0:(0:Int)<=(k:Int):=(by omega);go_region_law (first
        |(refine step_append_lies _ (by rfl) _ _ 25 (by rfl) (w.heap.size+4) 9 i0 (.string .empty) 1 16 Tryz.underlying25 hi hz0 hz1 hz2 rfl (by decide) _ k _ (by rfl) hown7 ⟨w6.heap.size,0,none⟩ 1 1 [.string z] (by rfl) rfl (zbE w6 _ 9) (Qcx _) (by decide) hb63 hb16 hbase7 (w6.heap.size+1) (by simp) ?_;intro g cap w8 hown8 hgrow hat hlt;(have hk8:=hk37.grown hgrow (hno _ (by omega)));(have e8:=hk8.cells2);(have f8:=hk8.frozen 1))
        |(go_simp;go_at_call 109;refine(HOx.out _ (HBr.out.drew)).mono ?_;rintro e w6⟨rfl,hB6'⟩;(have hB6:=Qa ((Below.refl wr.heap.size wr).drew) Xl hB6');(have d3:=(hB6.cell (p:=⟨w.heap.size+1+1+1,1,none⟩) (Zck b3.out)).trans b3.out);(have d4:=Lib.cell?_alloc_some (.cells #[.string z] 9) d3);(have hBy:=hB6.alloc hB6.size (.cells #[.string z] 9));(have hown7:=ZN hown.out hBy);(have hk37:=hk3.out.step hBy);(have hbase7:=Xf hws.out hBy.size)))
       all_goals
        have hk07:=Xh ((hk0.out.step hBy).grown hgrow (hno _ (by omega)));have hk17:=Xh ((hk1.out.step hBy).grown hgrow (hno _ (by omega)));have hk27:=Xh ((hk2.out.step hBy).grown hgrow (hno _ (by omega)));have hK8:=Xh hk8;have hO8:=Xh hown8;have hW8:Hid (w.heap.size+4<=w8.heap.size):=Xf hbase7 hgrow.size;have hB8:=Xh ((Qa HBr Xl hBy).grown hgrow (Qa HBr Xl hBy).size (fun g e=>by have:=(hown.out.lt g e).1;omega));have hG8:∀g0,(Value.slice g1 n k1).ownBlock=some g0->g0≠g:=fun g0 e0 he=>by
         subst he;rcases hat with h|h
         ·exact hap.out _ e0 h
         ·have h1:=(hown1.out.lt _ e0).2;have h2:=hBy.size;have h3:=hB6.size;omega
        have hP8:=Xh ((ZN hown1.out hBy).kept hgrow (by
         cases h:(Value.slice g1 n k1).ownBlock with
         |none=>exact Or.inl rfl
         |some g0=>exact Or.inr (fun e=>hap.out g0 h e.symm)))
        have hA8:Hid (∀g0,(Value.slice g1 n k1).ownBlock=some g0->(Value.slice (some ⟨g,0,none⟩) (k+1) cap).ownBlock≠some g0):=fun g0 e0 he=>hG8 g0 e0 (by injection he with he;exact he.symm)
        obtain⟨e8a,e8b⟩:=e8;clear d3 d4 hBy hown7 hk37 hbase7 hgrow hat hlt hk8 hown8 hB6 hB6' b3 hno hk0 hk1 hk2 hk3 hown hws HOx c0 d0 q1 q3 hG8 hown1 hap;go_wp2_with fail;go_roundw;case rel=>exact⟨k+1,Value.slice (some ⟨g,0,none⟩) (k+1) cap,by omega,hk07.out.other' (by show w.heap.size+1+1+1≠_;omega) _,hk17.out.other' (by show w.heap.size+1+1+1≠_;omega) _,hk27.out.other' (by show w.heap.size+1+1+1≠_;omega) _,hK8.out.put 1 _,by unfold Hid;rw[HSt.out,List.map_append];exact ZG hO8.out (by omega) _ _,ZG hP8.out (by omega) _ _,hA8,hB8.out.setCell (by show w.heap.size<=w.heap.size+1+1+1;omega) _,zcl hW8.out _ _,by simp⟩
        case measure=>simp[intOf];omega
      ·obtain⟨va,vc,rfl⟩:=qe hown.out;obtain rfl:m=k:=(by omega);have hj:=Zbk (cs:=cs) (a:=a.stack) (b:=b.stack) (by rw[HM1.out,HM2.out]);rw[HM1.out]at hj;have ho2:=hown.out;rw[hj]at ho2;obtain⟨q0,q1⟩:=hk3.out.cells2;obtain⟨q2,q3⟩:=hk2.out.cells2;have f2:=hk2.out.frozen 0;have f3:=hk2.out.frozen 1;have HR1:=Xh (ZG (ZG hown1.out (show w.heap.size+1+1<w.heap.size+4 by omega) 0 (.slice g1 n k1)) (show w.heap.size+1+1<w.heap.size+4 by omega) 1 (.slice va m vc));have HR2:=Xh (ZG (ZG ho2 (show w.heap.size+1+1<w.heap.size+4 by omega) 0 (.slice g1 n k1)) (show w.heap.size+1+1<w.heap.size+4 by omega) 1 (.slice va m vc));have HBw:=Xh (z7 (b:=w.heap.size+1+1) hB (by omega) (.slice g1 n k1) (.slice va m vc));clear hk0 hk1 hk2 hk3 hown hown1 hap hB hws ho2 hj;go_wp2_with fail;refine bodyPost_ret (v:=.tuple #[.agg #[.slice g1 n k1,.slice va m vc],.bool true]) (by simp[results,Tryz.results64,go_sem, *]) rfl ⟨HBw,Or.inl ⟨HS,_,_,rfl,?_⟩⟩;exact⟨Ze (l:=QO cs a.locals b.locals) (by rw[Zan (by rw[HN1.out,HN2.out]),HN1.out];exact HR1.out),Ze (l:=QO cs a.stack b.stack) (by rw[Zan (by rw[HM1.out,HM2.out]),HM1.out];exact HR2.out)⟩
  ·have z1:((n:Int) != (n':Int))=false:=(by simp[h1]);have z2:((m:Int) != (m':Int))=true:=(by simp;omega);rw[Xi h2,Bool.and_false]at hsh;have HS:=Xh hsh;clear hsh h1 h2;go_enter Tryz.func64,Tryz.ntmps64;go_wp2_with fail;exact bodyPost_ret (v:=.tuple #[.agg #[.slice none 0 0,.slice none 0 0],.bool false]) (by simp[results,Tryz.results64,go_sem, *]) rfl ⟨HBn,Or.inr ⟨HS,rfl⟩⟩
 ·have z1:((n:Int) != (n':Int))=true:=by simp;omega
  rw[Xi h1,Bool.false_and]at hsh;have HS:=Xh hsh;clear hsh h1;go_enter Tryz.func64,Tryz.ntmps64;go_wp2_with fail;exact bodyPost_ret (v:=.tuple #[.agg #[.slice none 0 0,.slice none 0 0],.bool false]) (by simp[results,Tryz.results64,go_sem, *]) rfl ⟨HBn,Or.inr ⟨HS,rfl⟩⟩
set_option maxRecDepth 512
theorem Qh.apart{w:World}{v:Value}{l:List Str}{b:Nat}{t:TypeId}{x y:Value}(h:Qh w v l)(hk:Blk w b t [x,y])(hx:∀s,x≠.string s)(hy:∀s,y≠.string s){w':World}(hw:∀g,g≠b->w'.heap[g]? = w.heap[g]?):Qh w' v l:=by
 cases l with
 |nil =>
  rcases h with h|⟨a,cap,h1,h2,h3,_⟩
  ·exact Or.inl h
  ·exact Or.inr ⟨a,cap,h1,h2,h3,fun i x hx=>by simp at hx⟩
 |cons z r =>
  refine Qg.block h fun g hg=>hw g fun he=>?_
  subst he;rcases h with⟨_,h⟩|⟨a,cap,h1,h2,h3,h4⟩
  ·cases h
  ·rw[h1]at hg;injection hg with hg
   subst hg;obtain⟨vs,r1,_,_,r4⟩:=h4 0 z rfl;unfold zr at r1;subst r1;have hc:=r4.1;rw[hk.cell]at hc;rcases Nat.lt_or_ge (a.off+0*1) 2 with h|h
   ·have:a.off+0*1=0\/a.off+0*1=1:=(by omega);rcases this with h|h<;>rw[h]at hc<;>injection hc with hc
    ·exact hx _ hc
    ·exact hy _ hc
   ·rw[List.getElem?_eq_none (by simpa using h)]at hc;cases hc
set_option maxRecDepth 100000
theorem Qcd(a b:Frm)(a1 a2 b1 b2:Value)(w:World)(ha:zk w a1 a2 a)(hb:zk w b1 b2 b):
 Calls Tryz.prog 19 #[.agg #[a1,a2],.agg #[b1,b2]] w fun e w'=>e=.returned (.bool (decide (a=b)))/\Below w.heap.size w w':=by
 have HE1:Hid (∀wx,Below w.heap.size w wx->_):=fun wx h=>qcl a.locals b.locals a1 b1 wx (ha.1.mono h) (hb.1.mono h)
 have HE2:Hid (∀wx,Below w.heap.size w wx->_):=fun wx h=>qcl a.stack b.stack a2 b2 wx (ha.2.mono h) (hb.2.mono h)
 rw[Qc3];clear ha hb;have HB:=Xh (((Below.refl w.heap.size w).alloc Xl (.cells #[a1,a2] 27)).alloc (by simp) (.cells #[b1,b2] 27));obtain⟨wb,hwb⟩:∃wb,wb=(w.alloc (.cells #[a1,a2] 27)).alloc (.cells #[b1,b2] 27):=⟨_,rfl⟩;have HA1:Hid (Blk wb w.heap.size 27 [a1,a2]):=by
  rw[hwb];exact(Blk.new w 27 [a1,a2]).step (Xb.alloc Xl _)
 have HA2:Hid (Blk wb (w.heap.size+1) 27 [b1,b2]):=by
  rw[hwb];have:=Blk.new (w.alloc (.cells #[a1,a2] 27)) 27 [b1,b2];unfold Hid;simpa using this
 rw[<-hwb]at HB;have HW:=Xh hwb.symm;clear hwb;generalize decide (a.locals=b.locals)=d at *;cases d with
 |true =>
  rw[Bool.true_and];generalize decide (a.stack=b.stack)=r at *;go_enter Tryz.func19,Tryz.ntmps19;go_wp2_with (first
   |(go_at_call 55;rw[HW.out];(with_reducible refine(HE1.out _ HB.out).mono ?_);rintro e w3⟨rfl,hB3⟩;(have hB3':=Qa HB Xl hB3);obtain⟨q0,q1⟩:=(HA1.out.step hB3).cells2;obtain⟨q2,q3⟩:=(HA2.out.step hB3).cells2)
   |(go_fit (HE2.out _ hB3');rintro e w4⟨rfl,hB4⟩))
  go_ret;exact⟨rfl,Qa hB3' Xl hB4⟩
 |false =>
  rw[Bool.false_and];go_enter Tryz.func19,Tryz.ntmps19;go_wp2_with (first
   |(go_at_call 55;rw[HW.out];(with_reducible refine(HE1.out _ HB.out).mono ?_);rintro e w3⟨rfl,hB3⟩;(have hB3':=Qa HB Xl hB3)))
  go_ret;exact⟨rfl,hB3'⟩
set_option maxRecDepth 512
end Go.Proofs.YtlmfmioljeppfaaGreatDoor
