/- Lemmas; conditions: as each states. -/
import Derived.Test.YtlmfmioljeppfaaGreatDoorFind
import Derived.Test.YtlmfmioljeppfaaGreatDoorShelf
import Derived.Test.YtlmfmioljeppfaaGreatDoorSub
import Derived.Lib.AppendZeros
import Derived.Laws.CopyOwn
import Derived.IntWalk
import Derived.Deep.OwnRows
import Derived.Deep.RegionLaw
import Derived.StillTailTactics
import Derived.Lib.SliceRun
import Derived.Deep.AppendLies
import Derived.Lib.AppendZerosOnto
set_option maxHeartbeats 4000000
namespace Go.Proofs.YtlmfmioljeppfaaGreatDoor
open Go.RowKit Go.Shelf Go.Lib
theorem Blk.put{w:World}{b:Nat}{t:TypeId}{A:List Value}(h:Blk w b t A)(j:Nat)(v:Value):Blk (w.setCell ⟨b,j,none⟩ v) b t (A.set j v):=by
 unfold Blk at *;rw[heap_setCell_same w b j _ t v h];simp
theorem Blk.other{w:World}{b b':Nat}{t:TypeId}{A:List Value}(h:Blk w b t A)(B:b≠b')(j:Nat)(v:Value):Blk (w.setCell ⟨b',j,none⟩ v) b t A:=by
 unfold Blk at *;rw[Xk w ⟨b',j,none⟩ b v B];exact h
theorem Blk.put2{w:World}{b:Nat}{t:TypeId}{C D:Value}(h:Blk w b t [C,D])(A B:Value):Blk ((w.setCell ⟨b,0,none⟩ A).setCell ⟨b,1,none⟩ B) b t [A,B]:=(h.put 0 A).put 1 B
theorem Blk.cells2{w:World}{b:Nat}{t:TypeId}{A B:Value}(h:Blk w b t [A,B]):w.cell? ⟨b,0,none⟩=some A/\w.cell? ⟨b,1,none⟩=some B:=⟨h.cell 0,h.cell 1⟩
theorem Blk.cells8{w:World}{b:Nat}{t:TypeId}{A B C D E F G H:Value}(h:Blk w b t [A,B,C,D,E,F,G,H]):
 w.cell? ⟨b,0,none⟩=some A/\w.cell? ⟨b,1,none⟩=some B/\w.cell? ⟨b,2,none⟩=some C/\w.cell? ⟨b,3,none⟩=some D/\w.cell? ⟨b,4,none⟩=some E/\w.cell? ⟨b,5,none⟩=some F/\w.cell? ⟨b,6,none⟩=some G/\w.cell? ⟨b,7,none⟩=some H :=
 ⟨h.cell 0,h.cell 1,h.cell 2,h.cell 3,h.cell 4,h.cell 5,h.cell 6,h.cell 7⟩
theorem qcm{w:World}{b o:Nat}{v:Value}(h:w.cell? ⟨b,o,none⟩=some v):b<w.heap.size:=QG.lt (w:=w) (b:=b) (o:=o) (v:=v) (r:=[]) ⟨h,trivial⟩
theorem Qs(w:World)(s:Str):Qh (w.alloc (.cells #[.string s] 9)) (.slice (some ⟨w.heap.size,0,none⟩) 1 1) [s] :=
 Ze (l:=[s]) (ZZ w w.heap.size (.string s) Xl)
theorem Qh.ptr{w:World}{p:Option Addr}{n c:Nat}{l:List Str}(h:Qh w (.slice p n c) l)(A:0<l.length):(∃b o,p=some ⟨b,o,none⟩)/\n=l.length/\n<=c/\c<=maxLen:=by
 rcases h with⟨_,h⟩|⟨a,cap,C,D,E,F⟩
 ·rw[h]at A;simp at A
 ·injection C with G H I
  subst G H I;obtain⟨y,r,rfl⟩:=List.exists_cons_of_ne_nil (List.ne_nil_of_length_pos A);obtain⟨_,_,_,B,_⟩:=F 0 y rfl;exact⟨⟨a.block,a.off,congrArg some B⟩,rfl,D,E⟩
theorem Qh.cell{w:World}{b o n c:Nat}{l:List Str}(h:Qh w (.slice (some ⟨b,o,none⟩) n c) l){k:Nat}{x:Str}(C:l[k]? = some x):w.cell? ⟨b,o+k,none⟩=some (.string x):=by
 rcases h with⟨h,_⟩|⟨a,cap,E,G,H,F⟩
 ·simp at h
 ·injection E with A
  injection A with A
  subst A;obtain⟨vs,B,_,_,D⟩:=F k x C;unfold qs at B;subst B;have:=D.1;rwa [Nat.mul_one]at this
theorem Qg{w:World}{F:Array Oper}{C:List Oper}{o:Oper}{a:Act}{Q:Exit->Act->World->Prop}(G:o.guard=none)(s x:Operand)(O:o.op=.call { callee:=.builtin .append,args:=#[s,x],argTypes:=#[25,25] })(base:Nat)(v:Value)(n:Nat)(xs:List Value)(hs:a.eval s=v)(A:w.ownsRow base 9 1 v n xs)(y:Value)(l:List Str)(P:a.eval x=y)(H:Qh w y l)(I:n+l.length<=maxLen)(B:(n+l.length)*16<=140737488355328)(D:base<=w.heap.size)(h:∀E w',w'.ownsRow base 9 1 E (n+l.length) (xs++l.map Value.string)->w.grownBy w' v.ownBlock->(E.ownBlock=v.ownBlock\/E.ownBlock=some w.heap.size)->wpList Tryz.prog F Q C (a.put o.dst E) w'):
 wpList Tryz.prog F Q (o::C) a w:=by
 obtain⟨R,S,J,L,M⟩:=info_parts qO;rcases H with⟨rfl,rfl⟩|⟨N,cap,rfl,_⟩
 ·refine wpList_append_own_none G s x 25 O base 9 R 1 Tryz.underlying25 S v n xs hs A P ?_;exact h v w (by simpa using A) (World.grownBy.refl w _) (Or.inl rfl)
 ·have H:Qh w (.slice (some N) l.length cap) l:=Or.inr ⟨N,cap,rfl,by assumption⟩;refine wpList_append_own_at _ G s x 25 O base 9 R (.string .empty) 1 16 Tryz.underlying25 S J L M rfl (by decide) v n xs hs A N l.length cap (l.map Value.string) P (by simp) (QbB H)
   (fun u T=>by obtain⟨x,_,rfl⟩:=List.mem_map.1 T;rfl) I B D fun E w' U V _ X=>h E w' U V X
theorem ZbQ{w:World}(ty:TypeId)(base:Nat)(v:Value)(n:Nat)(xs:List Value)(A:w.ownsRow base 9 1 v n xs)(y:Value)(l:List Str)(E:Qh w y l)(F:n+l.length<=maxLen)(B:(n+l.length)*16<=140737488355328)(C:base<=w.heap.size):
 ∃D w',(Builtin.append_ #[25,25] ty #[v,y]).run Tryz.prog w=.ok D w'/\w'.ownsRow base 9 1 D (n+l.length) (xs++l.map Value.string)/\w.grownBy w' v.ownBlock:=by
 obtain⟨L,M,G,H,I⟩:=info_parts qO;rcases E with⟨rfl,rfl⟩|⟨J,cap,rfl,T⟩
 ·exact⟨v,w,run_append_owned_none w base 25 ty 9 L 1 Tryz.underlying25 M v n xs A,by simpa using A,World.grownBy.refl w _⟩
 ·have E:Qh w (.slice (some J) l.length cap) l:=Or.inr ⟨J,cap,rfl,T⟩;obtain⟨D,w',N,O,R,_⟩:=run_append_own (P:=Tryz.prog) w base 25 ty 9 L (.string .empty) 1 16 Tryz.underlying25 M G H I rfl (by decide) v n xs A J l.length cap (l.map Value.string) (by simp) (QbB E)
   (fun u S=>by obtain⟨x,_,rfl⟩:=List.mem_map.1 S;rfl) F B C
  exact⟨D,w',N,O,R⟩
theorem Zar{w:World}{C:Array Oper}{o:Oper}{a:Act}{K:Act->World->Prop}{Q:Exit->Act->World->Prop}{E:Prop}(G:o.guard=none)(s x:Operand)(I:o.op=.call { callee:=.builtin .append,args:=#[s,x],argTypes:=#[25,25] })(base:Nat)(v:Value)(n:Nat)(xs:List Value)(hs:a.eval s=v)(D:w.ownsRow base 9 1 v n xs)(y:Value)(l:List Str)(J:a.eval x=y)(L:Qh w y l)(H:n+l.length<=maxLen)(A:(n+l.length)*16<=140737488355328)(B:base<=w.heap.size)(h:∀F w',w'.ownsRow base 9 1 F (n+l.length) (xs++l.map Value.string)->w.grownBy w' v.ownBlock->K (a.put o.dst F) w'):
 if Region.wanted o (yielded C a.tmps)=true then Oper.wp Tryz.prog o a w K Q else E:=by
 have M:Region.wanted o (yielded C a.tmps)=true:=by simp[Region.wanted,G]
 rw[if_pos M];obtain⟨F,w',N,O,P⟩:=ZbQ o.type base v n xs D y l L H A B;exact Lib.wp_append_run w s x 25 25 I v y hs J F w' N (h F w' O P)
theorem zV(w:World)(base:Nat)(A:base<=w.heap.size):(w.alloc (.cells #[] 9)).ownsRow base 9 1 (.slice (some ⟨w.heap.size,0,none⟩) 0 0) 0 [] :=
 ⟨rfl,Or.inr ⟨w.heap.size,0,#[],rfl,A,heap_alloc_new _ _,Xl,by decide,rfl,rfl⟩⟩
theorem zaS(cs:List Qb):∀(f:Nat) (n:Str),(zae cs f n).length<=f+1
 |0,_=>by simp[zae]
 |f+1,n=>by
  rw[zae];split
  ·simp
  ·have:=zaS cs f (qh cs n).super;simp;omega
end Go.Proofs.YtlmfmioljeppfaaGreatDoor
namespace Go.Proofs.YtlmfmioljeppfaaGreatDoor
open Go.RowKit Go.Shelf Go.Lib Go.Sort
theorem qcK{w:World}{g n:Nat}{A:Array Value}{e:TypeId}{B:Nat×Nat}(d:Array (List UInt8))(C:w.heap[g]? = some (.cells A e B)):
 (putRow encStr (Sort.ahead w n) g 0 d).heap[g]? = some (.cells (putCells encStr 0 d A) e B):=by
 simp[putRow,mapBlock,Sort.ahead,Array.getElem?_modify,C,onCells]
theorem zb2{w:World}{g n:Nat}(d:Array (List UInt8)):w.grownBy (putRow encStr (Sort.ahead w n) g 0 d) (some g):=by
 refine⟨rfl,rfl,rfl,by simp,fun k B A=>?_⟩;have:g≠k:=fun e=>A (by rw[e])
 simp[putRow,mapBlock,Sort.ahead,Array.getElem?_modify,this]
theorem Zb2{w:World}{base g cap n:Nat}{e:TypeId}{A:Array Value}{ss ts:List (List UInt8)}(C:ts.length=ss.length)(B:base<=g)(D:w.heap[g]? = some (.cells A e (0,0)))(E:ss.length<=cap)(F:cap<=maxLen)(G:A.size=cap*1):
 (putRow encStr (Sort.ahead w n) g 0 ts.toArray).ownsRow base e 1 (.slice (some ⟨g,0,none⟩) ss.length cap) ss.length (ts.map encStr) :=
 ⟨by simp[C],.inr ⟨g,cap,_,rfl,B,qcK _ D,E,F,by simp[putCells,G],by rw[Nat.mul_one,<-C];exact take_putCells A ts (by omega)⟩⟩
theorem QcK{w:World}{base:Nat}{a:Option Addr}{c:Nat}{l:List Str}(h:w.ownsRow base 9 1 (.slice a l.length c) l.length (l.map Value.string))(I:l.length<=9223372036854775807):
 Calls Tryz.prog 189 #[.slice a l.length c] w fun e w'=>e=.returned (.tuple #[])/\w'.ownsRow base 9 1 (.slice a l.reverse.length c) l.reverse.length (l.reverse.map Value.string)/\w.grownBy w' (Value.slice a l.length c).ownBlock:=by
 rcases h.2 with⟨D,M⟩|⟨g,cap,N,O,B,H,P,R,S,T⟩
 ·obtain rfl:=List.length_eq_zero_iff.1 M;injection D with D _ U
  subst D U;refine(Tryz.slices_Reverse_string_empty none 0 w).mono ?_;rintro e w'⟨rfl,rfl⟩;exact⟨rfl,h,World.grownBy.refl w' _⟩
 ·injection O with E _ F
  subst E F;have J:=Lib.map_encStr l;have A:(l.map (·.data.toList)).length=l.length:=by simp
  have L:=holds_of_block (ss:=l.map (·.data.toList)) H (by rw[A,J];simpa using T);have G:=Tryz.slices_Reverse_string g 0 c (l.map (·.data.toList)) w L (by rw[A];exact I);rw[A]at G;refine G.mono ?_;rintro e w'⟨rfl,n,rfl⟩;have C:=Zb2 (n:=n) (ts:=(l.map (·.data.toList)).reverse) (ss:=l.map (·.data.toList)) (by simp) B H (by rw[A];exact P) R S;rw[A]at C;refine⟨rfl,?_,zb2 _⟩;have:((l.map (·.data.toList)).reverse.map Proofs.encStr)=l.reverse.map Value.string:=by
   rw[<-List.map_reverse];exact Lib.map_encStr l.reverse
  rw[this]at C;rw[List.length_reverse];exact C
theorem qaR{w:World}{base:Nat}{a:Option Addr}{c n:Nat}{l:List Str}(h:w.ownsRow base 9 1 (.slice a n c) n (l.map Value.string))(A:n=l.length)(B:n<=9223372036854775807):
 Calls Tryz.prog 189 #[.slice a n c] w fun e w'=>e=.returned (.tuple #[])/\w'.ownsRow base 9 1 (.slice a n c) n (l.reverse.map Value.string)/\w.grownBy w' (Value.slice a n c).ownBlock:=by
 subst A;have:=QcK h B;rwa [List.length_reverse]at this
end Go.Proofs.YtlmfmioljeppfaaGreatDoor
namespace Go.Proofs.YtlmfmioljeppfaaGreatDoor
open Go.RowKit Go.Shelf Go.Lib
structure Val where
 kind:Int
 n:Int
 deriving DecidableEq
structure Qev where
 type:Str
 has:List Val
 deriving DecidableEq
def qbS:List UInt8->Ty
 |[]=>.i
 |c::r=>if c=73 then .i else if c=74 then .j else if c=91 then .ar (qbS r) else .cl (str (r.take (r.length-1)))
theorem qb2:∀x:Ty,qbS (Zf x)=x
 |.i=>rfl
 |.j=>rfl
 |.ar x=>by
  show(if (91:UInt8)=73 then Ty.i else if (91:UInt8)=74 then Ty.j else if (91:UInt8)=91 then .ar (qbS (Zf x)) else _)=_
  rw[if_neg (by decide),if_neg (by decide),if_pos rfl,qb2 x]
 |.cl c=>by
  show(if (76:UInt8)=73 then Ty.i else if (76:UInt8)=74 then Ty.j else if (76:UInt8)=91 then _ else Ty.cl (str ((lst c++[59]).take ((lst c++[59]).length-1))))=_
  rw[if_neg (by decide),if_neg (by decide),if_neg (by decide)];simp;rfl
def qed(k:Str):Ty:=qbS (lst k)
theorem Qcm{k:Str}{x:Ty}(h:Zf x=lst k):qed k=x:=by unfold qed;rw[<-h,qb2]
theorem zaW{α:Type}{f:α->Nat}:∀{l:List α},Zh f l=0->∀x∈l,f x=0
 |[],_,_,h=>by cases h
 |y::r,h,x,B=>by
  unfold Zh at h;by_cases A:f y=0
  ·rw[if_pos A]at h;rcases List.mem_cons.1 B with rfl|B
   ·exact A
   ·exact zaW h x B
  ·rw[if_neg A]at h;exact absurd h A
structure Zbj (t:Str) (y:Ty):Prop where
 text:Zf y=lst t
 name:zao y=true
 deep:zq y<=3
theorem Zbj.of{t:Str}{y:Ty}(h:Zbj t y):qed t=y:=Qcm h.text
theorem Zaq{t:Str}(h:Zs (lst t)=true):∃y,Zbj t y:=by
 obtain⟨y,A,_,B⟩:=Qav (lst t) h;exact⟨y,A,B,qbq (by rw[A];exact h)⟩
theorem Qed{s:List UInt8}(h:qt s=true):s.length<=20:=by
 unfold qt at h;cases s with
 |nil=>exact Nat.zero_le _
 |cons a r =>
  simp only[Bool.and_eq_true]at h;exact Xm h.1.1
theorem zcz:∀y:Ty,zao y=true->(Zf y).length<=zq y+22
 |.i,_=>by simp[Zf]
 |.j,_=>by simp[Zf]
 |.cl c,h=>by
  have:=Qed (s:=lst c) h;simp only[Zf,List.length_cons,List.length_append,List.length_nil,zq];omega
 |.ar y,h=>by
  have:=zcz y h;simp only[Zf,List.length_cons,zq];omega
theorem Zbj.size{t:Str}{y:Ty}(h:Zbj t y):t.size<=maxLen:=by
 have A:=zcz y h.name;have B:(lst t).length=t.size:=rfl;rw[h.text]at A;have:=h.deep;unfold maxLen;omega
theorem qbJ:∀(r a:List Qag),Qf Qr a r=0->∀f∈r,Zs (lst f.type)=true
 |[],_,_,f,B=>by cases B
 |x::r,a,h,f,B=>by
  unfold Qf at h;by_cases A:Qr x a=0
  ·rw[if_pos A]at h;rcases List.mem_cons.1 B with rfl|B
   ·unfold Qr at A;split at A
    ·cases A
    ·rename_i C;rw[Bool.not_eq_true,Bool.or_eq_false_iff,Bool.not_eq_false',Bool.not_eq_false']at C;exact C.2
   ·exact qbJ r _ h f B
  ·rw[if_neg A]at h;exact absurd h A
theorem QaF{l:List Qb}(C:∀c∈l,qd c=0)(x:Str):∀f∈(qh (Za l) x).fields,Zs (lst f.type)=true:=by
 unfold qh;cases D:Qc (Za l) x with
 |none=>intro f h;cases h
 |some c =>
  have A:c∈Za l:=List.mem_of_find?_eq_some D;show ∀f∈c.fields,_
  unfold Za at A;rcases List.mem_cons.1 A with rfl|A
  ·intro f h;cases h
  ·rcases List.mem_cons.1 A with rfl|A
   ·intro f h;cases h
   ·have h:=C c A;unfold qd at h;split at h
    ·cases h
    ·split at h
     ·rename_i B;exact absurd h B
     ·split at h
      ·cases h
      ·split at h
       ·rename_i B;exact absurd h B
       ·rename_i B;exact qbJ c.fields [] (by simpa using B)
set_option maxRecDepth 100000
theorem zcL(f w:World)(B:Nat)(l:List Qb)(C:zy f w B l)(c d:Str)(Y:(Qc (Za l) c).isSome=true)(g:(Qc (Za l) d).isSome=true):
 Calls Tryz.prog 152 #[.map (some B),.string c,.string d] w fun e w'=>e=.returned (.string (if ((qh (Za l) c).face||(qh (Za l) d).face)=true then qg else zbb (Za l) c d))/\Below w.heap.size w w':=by
 obtain⟨p1,k1,p2,k2,p3,k3,_,_,_,_,U⟩:=C.map.look2 C.right.nodup c (C.map.names Y);obtain⟨p4,k4,p5,k5,p6,k6,_,_,_,_,M⟩:=C.map.look2 C.right.nodup d (C.map.names g);have F:=Xh (Zbp f w B l C.right C.map d g);have G:Hid (∀wx,Below w.heap.size w wx->_):=fun wx hb=>Zbp f wx B l C.right (C.map.step hb) c Y
 have q:(Zq (Za l) c).length<=13:=by
  have r:=zaS (Za l) (Qk (Za l) c).length c;have s:=(zo C.right.closed Y).1.length;have h3:=C.right.small;unfold Zq;omega
 unfold zbb;have hcf:=zb0;show Calls _ _ _ _ fun e w'=>e=.returned (.string (if (((Qc (Za l) c).getD zg).face||((Qc (Za l) d).getD zg).face)=true then qg else Zah (Zq (Za l) d) (Zq (Za l) c)))/\Below w.heap.size w w'
 clear C Y g;generalize (Qc (Za l) c).getD zg=x at *;generalize (Qc (Za l) d).getD zg=y at *;generalize Zq (Za l) c=D at *;generalize Zq (Za l) d=E at *;obtain⟨n1,s1,f1,b1,d1,m1⟩:=x;obtain⟨n2,s2,f2,b2,d2,m2⟩:=y;unfold Qz at U M;dsimp only at *;cases b1 with
 |true =>
  clear F G M;go_enter Tryz.func152,Tryz.ntmps152;go_wp2
  go_ret;exact⟨rfl,Xb⟩
 |false =>
  cases b2 with
  |true =>
   clear F G;go_enter Tryz.func152,Tryz.ntmps152;go_wp2
   go_ret;exact⟨rfl,Xb⟩
  |false =>
   show Calls _ _ _ _ fun e w'=>e=.returned (.string (Zah E D))/\Below w.heap.size w w'
   go_enter Tryz.func152,Tryz.ntmps152;go_wp2_with (first
    |(go_at_call 190;(have t:=J);(with_reducible refine(G.out _ J).mono ?_);rintro e w4⟨⟨v4,rfl,N⟩,O⟩;obtain⟨pa,ca,rfl⟩:=qe N)
    |(go_fit F.out;rintro e w3⟨⟨v3,rfl,X⟩,J⟩))
   have P:=(Ze X).mono O;have R:=Ze N;have v:=Qa J Xl O;obtain⟨pa',ca',he,r,s,V⟩:=R.open;injection he with m n p
   subst m p;clear n;have HC:=Xh V;have S:Hid (∀x,_):=fun x=>zan E v3 x w4 P
   have z:D.length<=9223372036854775807:=Xf r s;clear P R V X N J O G F U M;go_loopw [27] (fun x wr=>∃k:Nat,k<=D.length/\Hid (Zah E (D.drop k)=Zah E D)/\w4=wr/\x=.int .i64 k) (fun x _=>D.length-(intOf x).toNat)
   case atStart=>exact⟨0,by omega,rfl,rfl,rfl⟩
   case round =>
    obtain⟨k,hk,I,rfl,rfl⟩:=hrel;by_cases h:k<D.length
    ·obtain⟨a,Z⟩:∃a,D[k]? = some a:=⟨D[k],by simp[h]⟩;obtain⟨b,o,vs,rfl,hR,_,qc⟩:=HC.out k a Z;unfold qs at hR;subst hR;have c0:=qc.1;rw[Nat.mul_one]at c0;have H:=Qb2 E D k a Z;rw[I.out]at H;have A:=S.out a;have HX:=Xh Z;clear Z qc I;cases C:QK E a with
     |true =>
      rw[C]at A H;replace H:Zah E D=a:=H;have i:=Xh H;have L:=Xh A;clear H A C;go_wp2_with (go_fit L.out;rintro e w5⟨rfl,rfl⟩)
      go_ret;exact⟨by rw[i.out];rfl,v⟩
     |false =>
      rw[C]at A H;have j:Hid (Zah E (D.drop (k+1))=Zah E D):=H.symm;have L:=Xh A;clear H A C;go_wp2_with (go_fit L.out;rintro e w5⟨rfl,rfl⟩)
      go_roundw;case rel=>exact⟨k+1,by omega,j.out,by simp,by simp⟩
      case measure=>simp[intOf];omega
    ·obtain rfl:k=D.length:=(by omega);have T:Zah E D=qg:=(by rw[<-I.out,Xg Xl];rfl);have i:=Xh T;clear T I;go_wp2_with fail;go_ret;exact⟨by rw[i.out];rfl,v⟩
set_option maxRecDepth 512
def zb3:Ty->Bool
 |.ar _=>true
 |_=>false
theorem Zb3{k:Str}{x:Ty}(h:Zf x=lst k)(B:0<k.size):(((k[0]'B).toNat:Int)==91)=zb3 x:=by
 have D:k[0]'B=(lst k)[0]'(by have C:(lst k).length=k.size:=rfl;omega):=rfl;have A:(lst k)[0]? = (Zf x)[0]?:=by rw[h]
 rw[D];have E:(lst k)[0]? = some ((lst k)[0]'(by have C:(lst k).length=k.size:=rfl;omega)):=Xn _;rw[E]at A;generalize (lst k)[0]'(by have C:(lst k).length=k.size:=rfl;omega)=b at *;cases x with
 |i=>simp[Zf]at A;subst A;rfl
 |j=>simp[Zf]at A;subst A;rfl
 |cl c=>simp[Zf]at A;subst A;rfl
 |ar y=>simp[Zf]at A;subst A;rfl
def qak(w:World)(cs:List Qb)(x y:Kd)(n:Nat)(e:Ending)(w':World):Prop :=
 (∃z,e=.returned (.string z)/\Qo (QT cs x y)=lst z/\z.size<=n)/\Below w.heap.size w w'
theorem zdq{cs:List Qb}(T:zbp cs)(G:(Qc cs qg).isSome=true){a b:Str}{x y:Kd}(F:Qo x=lst a)(H:Qo y=lst b)(I:qK cs x=true)(h:x=y\/(x=.n/\Zt y=true)\/(y=.n/\Zt x=true)\/(Zt x=false\/Zt y=false)):
 Qo (QT cs x y)=lst (if decide (x=y) then a else if decide (x=.n)&&Zt y then b else if decide (y=.n)&&Zt x then a else ⟨#[84]⟩):=by
 by_cases D:x=y
 ·subst D;rw[Xj rfl,if_pos rfl,zdy T G I];exact F
 ·rw[Xi D,if_neg (by decide)];by_cases A:x=.n/\Zt y=true
  ·obtain⟨rfl,A⟩:=A;rw[A,if_pos (by decide)];cases y with
   |n=>cases A
   |t=>cases A
   |ty z=>rw[QaM,if_pos (show zm z=true from A)];exact H
  ·have J:(decide (x=.n)&&Zt y)=false:=by
    rw[Bool.and_eq_false_iff];by_cases C:x=.n
    ·exact Or.inr (by cases E:Zt y with|false=>rfl|true=>exact absurd ⟨C,E⟩ A)
    ·exact Or.inl (Xi C)
   rw[J,if_neg (by decide)];by_cases B:y=.n/\Zt x=true
   ·obtain⟨rfl,B⟩:=B;rw[B,if_pos (by decide)];cases x with
    |n=>cases B
    |t=>cases B
    |ty z=>rw[zaN,if_pos (show zm z=true from B)];exact F
   ·have L:(decide (y=.n)&&Zt x)=false:=by
     rw[Bool.and_eq_false_iff];by_cases C:y=.n
     ·exact Or.inr (by cases E:Zt x with|false=>rfl|true=>exact absurd ⟨C,E⟩ B)
     ·exact Or.inl (Xi C)
    rw[L,if_neg (by decide)];have M:Zt x=false\/Zt y=false:=by
     rcases h with h|h|h|h
     ·exact absurd h D
     ·exact absurd h A
     ·exact absurd h B
     ·exact h
    rw[Zdy D A B M];rfl
set_option maxRecDepth 100000
theorem ZcL(I w:World)(B:Nat)(l:List Qb)(G:zy I w B l)(a b:Str)(x y:Kd)(A:Qo x=lst a)(C:Qo y=lst b)(H:qK (Za l) x=true)(h:x=y\/(x=.n/\Zt y=true)\/(y=.n/\Zt x=true)\/(Zt x=false\/Zt y=false)):
 Calls Tryz.prog 109 #[.map (some B),.string a,.string b] w (qak w (Za l) x y (30+a.size+b.size)):=by
 have U:=zac A C;have J:=ZP A .n;have L:=ZP C .n;have M:Hid (∀wx,_):=fun wx=>zN a x wx A
 have N:Hid (∀wx,_):=fun wx=>zN b y wx C
 have E:=zdq G.right.tree (Zay l) A C H h;unfold qak;simp only[Qo]at J L;generalize QT (Za l) x y=r at *;have D:(decide (x=y)||(decide (x=.n)&&Zt y)||(decide (y=.n)&&Zt x)||!(Zt x)||!(Zt y))=true:=by
  rcases h with h|⟨h,g⟩|⟨h,g⟩|h|h<;>simp[*]
 clear G A C H h;generalize decide (x=y)=eE at *;generalize decide (x=.n)=P at *;generalize decide (y=.n)=R at *;generalize Zt x=S at *;generalize Zt y=T at *;cases eE<;>cases P<;>cases R<;>cases S<;>cases T<;>first|(exact absurd D (by decide))|skip
 all_goals
  clear D;simp only[if_true,if_false,Bool.and_true,Bool.and_false,Bool.false_eq_true]at E;have F:=Xh E;clear E;go_enter Tryz.func109,Tryz.ntmps109;go_wp2_with (first
   |(go_fit (M.out _);rintro e O⟨rfl,rfl⟩)
   |(go_fit (N.out _);rintro e O⟨rfl,rfl⟩))
  go_ret;first
   |exact⟨⟨a,rfl,F,by omega⟩,Xb⟩
   |exact⟨⟨b,rfl,F,by omega⟩,Xb⟩
   |exact⟨⟨⟨#[84]⟩,rfl,F,by show 1<=_;omega⟩,Xb⟩
set_option maxRecDepth 512
theorem zcn(cs:List Qb)(c d:Str):QT cs (.ty (.cl c)) (.ty (.cl d))=.ty (.cl (zbb cs c d)):=rfl
theorem QbJ(z:Str):(ZF z).size=z.size+1:=by unfold ZF;rw[ByteArray.size_append];show 1+z.size=_;omega
set_option maxRecDepth 100000
theorem qet(w0:World)(B:Nat)(l:List Qb):∀(x:Ty) (w:World) (a b:Str) (y:Ty),zy w0 w B l->Zf x=lst a->Zf y=lst b->qH (Za l) x=true->qH (Za l) y=true->a.size<=4194304->b.size<=4194304 ->
 Calls Tryz.prog 109 #[.map (some B),.string a,.string b] w (qak w (Za l) (.ty x) (.ty y) (30+a.size+b.size)):=by
 have G:∀(x:Ty) (w:World) (a b:Str) (y:Ty),zy w0 w B l->Zf x=lst a->Zf y=lst b->qH (Za l) x=true->(x=y\/zm x=false\/zm y=false) ->
  Calls Tryz.prog 109 #[.map (some B),.string a,.string b] w (qak w (Za l) (.ty x) (.ty y) (30+a.size+b.size)):=fun x w a b y F C A H h =>
  ZcL w0 w B l F a b (.ty x) (.ty y) C A H (by
   rcases h with h|h
   ·exact Or.inl (by rw[h])
   ·exact Or.inr (Or.inr (Or.inr h)))
 intro x;induction x with
 |i=>intro w a b y F C A H _ _ _;exact G _ w a b y F C A H (Or.inr (Or.inl rfl))
 |j=>intro w a b y F C A H _ _ _;exact G _ w a b y F C A H (Or.inr (Or.inl rfl))
 |cl c =>
  intro w a b y F C A H P J L;by_cases D:Ty.cl c=y\/zm y=false
  ·exact G _ w a b y F C A H (by rcases D with D|D;exact Or.inl D;exact Or.inr (Or.inr D))
  ·have E:Ty.cl c≠y:=fun h=>D (Or.inl h)
   have hE:=zac (x:=.ty (.cl c)) (y:=.ty y) C A;have q:=ZP (x:=.ty (.cl c)) C .n;have s:=ZP (x:=.ty y) A .n;simp only[Qo]at q s;rw[Xi (by intro h;cases h)]at q s;rw[Xi (by intro h;injection h with h;exact E h)]at hE;have U:Hid (∀wx,_):=fun wx=>zN a (.ty (.cl c)) wx C
   have O:Hid (∀wx,_):=fun wx=>zN b (.ty y) wx A
   have X:Hid (∀wx,_):=fun wx=>Qai a (.cl c) wx C (Xf J (by decide))
   have Y:Hid (∀wx,_):=fun wx=>Qai b y wx A (Xf L (by decide))
   obtain⟨k,fa⟩:=QJ C;obtain⟨m,fb⟩:=QJ A;have ga:=Zb3 C k;have t:=Zb3 A m;simp only[Zt,zm,qA,ZaS,Zac,zb3]at U X fa ga;cases y with
   |i=>exact absurd (Or.inr rfl) D
   |j=>exact absurd (Or.inr rfl) D
   |cl d =>
    simp only[Zt,zm,qA,ZaS,Zac,zb3]at O Y fb t;have V:=Qbq F.faults (F.right.tree.known c _ H (F.right.tree.lub1 c d H P).1);have Z:=zcL w0 w B l F c d H P;rw[F.right.classes H P (fun h=>E (by rw[h]))]at Z;unfold qak;rw[zcn];generalize zbb (Za l) c d=r at *;have HC2:=Xh Z;have N:Hid (∀wx,_):=fun wx=>QX r wx (Xf V (by decide))
    have hts:=Zam r;have M:Hid ((Zd r).size<=30+a.size+b.size):=(by unfold Hid;omega);clear Z D F C H A P J L E V hts;go_enter Tryz.func109,Tryz.ntmps109;go_wp2_with (first
     |(go_fit (U.out _);rintro e I⟨rfl,rfl⟩)
     |(go_fit (O.out _);rintro e I⟨rfl,rfl⟩)
     |(go_fit (X.out _);rintro e I⟨rfl,rfl⟩)
     |(go_fit (Y.out _);rintro e I⟨rfl,rfl⟩)
     |(go_fit HC2.out;rintro e w4⟨rfl,T⟩)
     |(go_fit (N.out _);rintro e w5⟨rfl,rfl⟩))
    go_ret;exact⟨⟨_,rfl,(zbh r).symm,M.out⟩,T⟩
   |ar z =>
    simp only[Zt,zm,Zac,zb3]at O fb t;have N:Hid (∀wx,_):=fun wx=>qaS wx
    clear D X Y F C H A P J L E;go_enter Tryz.func109,Tryz.ntmps109;go_wp2_with (first
     |(go_fit (U.out _);rintro e I⟨rfl,rfl⟩)
     |(go_fit (O.out _);rintro e I⟨rfl,rfl⟩)
     |(go_fit (N.out _);rintro e I⟨rfl,rfl⟩))
    go_ret;exact⟨⟨_,rfl,rfl,by show 8<=_;omega⟩,Xb⟩
 |ar u ih =>
  intro w a b y F C A H P J L;by_cases D:Ty.ar u=y\/zm y=false
  ·exact G _ w a b y F C A H (by rcases D with D|D;exact Or.inl D;exact Or.inr (Or.inr D))
  ·have E:Ty.ar u≠y:=fun h=>D (Or.inl h)
   have hE:=zac (x:=.ty (.ar u)) (y:=.ty y) C A;have q:=ZP (x:=.ty (.ar u)) C .n;have s:=ZP (x:=.ty y) A .n;simp only[Qo]at q s;rw[Xi (by intro h;cases h)]at q s;rw[Xi (by intro h;injection h with h;exact E h)]at hE;have U:Hid (∀wx,_):=fun wx=>zN a (.ty (.ar u)) wx C
   have O:Hid (∀wx,_):=fun wx=>zN b (.ty y) wx A
   have N:Hid (∀wx,_):=fun wx=>qaS wx
   obtain⟨k,fa⟩:=QJ C;obtain⟨m,fb⟩:=QJ A;have ga:=Zb3 C k;have t:=Zb3 A m;simp only[Zt,zm,Zac,zb3]at U fa ga;cases y with
   |i=>exact absurd (Or.inr rfl) D
   |j=>exact absurd (Or.inr rfl) D
   |cl d =>
    simp only[Zt,zm,Zac,zb3]at O fb t;clear D F C H A P J L E ih;go_enter Tryz.func109,Tryz.ntmps109;go_wp2_with (first
     |(go_fit (U.out _);rintro e I⟨rfl,rfl⟩)
     |(go_fit (O.out _);rintro e I⟨rfl,rfl⟩)
     |(go_fit (N.out _);rintro e I⟨rfl,rfl⟩))
    go_ret;exact⟨⟨_,rfl,rfl,by show 8<=_;omega⟩,Xb⟩
   |ar v =>
    simp only[Zt,zm,Zac,zb3]at O fb t;obtain⟨ta,o,hsz1⟩:=zaa C;obtain⟨tb,p,hsz2⟩:=zaa A;have R:Hid (∀wx,_):=fun wx=>zN (a.extract 1 a.size) (.ty u) wx ta
    have S:Hid (∀wx,_):=fun wx=>zN (b.extract 1 b.size) (.ty v) wx tb
    have f:u≠v:=fun h=>E (by rw[h])
    have es1:(a.extract 1 a.size).size=a.size-1:=(by rw[ByteArray.size_extract];omega);have es2:(b.extract 1 b.size).size=b.size-1:=(by rw[ByteArray.size_extract];omega);simp only[Zt]at R S;by_cases g:zm u=true/\zm v=true
    ·have HI:Hid (∀wx,Below w.heap.size w wx->_):=fun wx A=>ih wx (a.extract 1 a.size) (b.extract 1 b.size) v (F.step A) ta tb H P (Xf o J) (Xf p L)
     obtain⟨z,aA,aB⟩:=qcL (cs:=Za l) g.1 g.2;unfold qak at HI ⊢;rw[aA]at HI;rw[aB];rw[g.1]at R;rw[g.2]at S;clear D F C A H P E ih ta o tb p f g aA aB;generalize hxa:a.extract 1 a.size=a1 at *;generalize hxb:b.extract 1 b.size=b1 at *;go_enter Tryz.func109,Tryz.ntmps109;go_upto_region 12 with(first
      |(go_fit (U.out _);rintro e I⟨rfl,rfl⟩)
      |(go_fit (O.out _);rintro e I⟨rfl,rfl⟩)
      |(go_fit (R.out _);rintro e I⟨rfl,rfl⟩)
      |(go_fit (S.out _);rintro e I⟨rfl,rfl⟩))
     go_region_with (go_fit (HI.out _ Xb.drew);rintro e w4⟨⟨z4,rfl,aC,hs4⟩,T⟩)
     all_goals
      have M:Qo (.ty (.ar z))=lst (ZF z4)/\(ZF z4).size<=30+a.size+b.size:=⟨by rw[Qa0,<-aC];rfl,by rw[QbJ];omega⟩;have HF:=Xh M;have HB4:=Xh T;clear M aC hs4 T;go_wp2
      go_ret;exact⟨⟨ZF z4,rfl,HF.out.1,HF.out.2⟩,Qa Xb.drew Xl HB4.out⟩
    ·have hw:zm u=false\/zm v=false:=by
      cases hu:zm u with
      |false=>exact Or.inl rfl
      |true=>cases hv:zm v with
       |false=>exact Or.inr rfl
       |true=>exact absurd ⟨hu,hv⟩ g
     unfold qak;rw[zbd f hw];clear D F C A H P J L E ih ta o tb p f g;generalize zm u=ru at *;generalize zm v=rv at *;generalize hxa:a.extract 1 a.size=a1 at *;generalize hxb:b.extract 1 b.size=b1 at *;have hor:(ru&&rv)=false:=(by rcases hw with h|h<;>simp[h]);clear hw;cases ru<;>cases rv<;>first|(exact absurd hor (by decide))|skip
     all_goals
      go_enter Tryz.func109,Tryz.ntmps109;go_wp2_with (first
       |(go_fit (U.out _);rintro e I⟨rfl,rfl⟩)
       |(go_fit (O.out _);rintro e I⟨rfl,rfl⟩)
       |(go_fit (R.out _);rintro e I⟨rfl,rfl⟩)
       |(go_fit (S.out _);rintro e I⟨rfl,rfl⟩)
       |(go_fit (N.out _);rintro e I⟨rfl,rfl⟩))
      go_ret;exact⟨⟨_,rfl,rfl,by show 8<=_;omega⟩,Xb⟩
set_option maxRecDepth 512
theorem Qep(D w:World)(B:Nat)(l:List Qb)(H:zy D w B l)(a b:Str)(x y:Kd)(C:qaX (Za l) a x)(E:qaX (Za l) b y)(F:a.size<=4194304)(G:b.size<=4194304):
 Calls Tryz.prog 109 #[.map (some B),.string a,.string b] w (qak w (Za l) x y (30+a.size+b.size)):=by
 have A:=ZcL D w B l H a b x y C.1 E.1 C.2;cases x with
 |n=>exact A (Or.inr (Or.inr (Or.inr (Or.inl rfl))))
 |t=>exact A (Or.inr (Or.inr (Or.inr (Or.inl rfl))))
 |ty u =>
  cases y with
  |n=>exact A (Or.inr (Or.inr (Or.inr (Or.inr rfl))))
  |t=>exact A (Or.inr (Or.inr (Or.inr (Or.inr rfl))))
  |ty v=>exact qet D B l u w a b v H C.1 E.1 C.2 E.2 F G
theorem ZN{w w':World}{base k:Nat}{t:TypeId}{v:Value}{n:Nat}{xs:List Value}(h:w.ownsRow base t k v n xs)(D:Below w.heap.size w w'):w'.ownsRow base t k v n xs:=by
 rcases h with⟨B,E|⟨g,cap,A,F,G,C,H⟩⟩
 ·exact⟨B,Or.inl E⟩
 ·exact⟨B,Or.inr ⟨g,cap,A,F,G,(D.block g (Array.getElem?_eq_some_iff.1 C).1).trans C,H⟩⟩
theorem zbK{w w':World}{b:Nat}(A:w'.heap[b]? = w.heap[b]?):∀{vs:List Value} {o:Nat},QG w b o vs->QG w' b o vs
 |[],_,_=>trivial
 |_::_,_,⟨B,C⟩=>⟨(World.cell?_of_block A).trans B,zbK A C⟩
theorem Zg.block{α:Type}{w w':World}{k:Nat}{R:α->List Value->Prop}{v:Value}{l:List α}(h:Zg w k R v l)(A:∀g,v.ownBlock=some g->w'.heap[g]? = w.heap[g]?):Zg w' k R v l:=by
 rcases h with h|⟨a,cap,rfl,G,H,I⟩
 ·exact Or.inl h
 ·refine Or.inr ⟨a,cap,rfl,G,H,fun i x F=>?_⟩;obtain⟨vs,B,C,D,E⟩:=I i x F;exact⟨vs,B,C,D,zbK (A a.block rfl) E⟩
theorem Zg.one{α:Type}{w:World}{k:Nat}{R:α->List Value->Prop}{v:Value}{l:List α}(h:Zg w k R v l):v.oneCell'=true:=by
 rcases h with⟨rfl,_⟩|⟨a,cap,rfl,_⟩<;>rfl
theorem zbq{a:Addr}(hs:a=⟨a.block,a.off,none⟩)(n:Nat):a.add n=⟨a.block,a.off+n,none⟩:=by
 unfold Addr.add;split
 ·subst_vars;simpa using hs
 ·rfl
theorem Blk.grown{w w':World}{b:Nat}{t:TypeId}{A:List Value}{B:Option Nat}(h:Blk w b t A)(D:w.grownBy w' B)(C:B≠some b):Blk w' b t A:=(D.block b h.lt (fun e=>C e.symm)).trans h
theorem Blk.other'{w:World}{b:Nat}{t:TypeId}{A:List Value}(h:Blk w b t A){a:Addr}(B:a.block≠b)(u:Value):Blk (w.setCell a u) b t A:=(Xk w a b u (fun e=>B e.symm)).trans h
theorem qG{w:World}{base b size n:Nat}{t:TypeId}{v:Value}{xs:List Value}(h:w.ownsRow base t size v n xs)(H:b<base)(j:Nat)(u:Value):(w.setCell ⟨b,j,none⟩ u).ownsRow base t size v n xs:=by
 rcases h with⟨B,C|⟨g,cap,A,D,E,F,G⟩⟩
 ·exact⟨B,Or.inl C⟩
 ·exact⟨B,Or.inr ⟨g,cap,A,D,E,(Xk w ⟨b,j,none⟩ g u (by show g≠b;omega)).trans F,G⟩⟩
theorem Zcn{w:World}{B:Nat}(h:B<=w.heap.size)(a:Addr)(u:Value):B<=(w.setCell a u).heap.size:=by simpa using h
structure Frm where
 locals:List Str
 stack:List Str
 deriving DecidableEq
def Zo(k:Str):Kd:=if lst k=[78] then .n else if lst k=[84] then .t else .ty (qed k)
theorem qz{k:Str}{x:Kd}(h:Qo x=lst k):Zo k=x:=by
 unfold Zo;rw[<-h];cases x with
 |n=>rfl
 |t=>rfl
 |ty y =>
  rw[if_neg (by cases y<;>simp[Qo,Zf]),if_neg (by cases y<;>simp[Qo,Zf])];exact congrArg Kd.ty (Qcm h)
theorem qU{cs:List Qb}{k:Str}(h:zd cs k=0):qaX cs k (Zo k):=by
 obtain⟨X,A,B⟩:=ZM h;rw[qz A];exact⟨A,B⟩
theorem Qad{cs:List Qb}{k:Str}(h:zd cs k=0):qah (Zo k)<=3:=qar (qU h) h
def Qx(cs:List Qb)(f:Frm):Nat :=
 if 8<f.locals.length\/8<f.stack.length then 4 else Zh (zd cs) (f.locals++f.stack)
def QaV(cs:List Qb)(a b:Str):Str:=str (Qo (QT cs (Zo a) (Zo b)))
theorem qb3{cs:List Qb}{a b z:Str}{x y:Kd}(A:Qo x=lst a)(B:Qo y=lst b)(C:Qo (QT cs x y)=lst z):QaV cs a b=z:=by
 unfold QaV;rw[qz A,qz B,C];rfl
def QO(cs:List Qb)(a b:List Str):List Str:=List.zipWith (QaV cs) a b
def zR(a b:Frm):Bool:=decide (a.locals.length=b.locals.length)&&decide (a.stack.length=b.stack.length)
def Q1(cs:List Qb)(a b:Frm):Frm:=⟨QO cs a.locals b.locals,QO cs a.stack b.stack⟩
theorem qw{cs:List Qb}{f:Frm}(h:Qx cs f=0):f.locals.length<=8/\f.stack.length<=8/\(∀k∈f.locals,zd cs k=0)/\∀k∈f.stack,zd cs k=0:=by
 unfold Qx at h;split at h
 ·cases h
 ·rename_i C;have B:=zaW h;exact⟨by omega,by omega,fun k A=>B k (List.mem_append_left _ A),fun k A=>B k (List.mem_append_right _ A)⟩
theorem qcn(a b:List Str)(T U:Value)(w:World)(V:Qh w T a)(X:Qh w U b):Calls Tryz.prog 110 #[T,U] w fun e w'=>e=.returned (.bool (decide (a=b)))/\Below w.heap.size w w':=by
 obtain⟨p,cap,rfl,l,m,F⟩:=V.open;obtain⟨q,n,rfl,r,s,G⟩:=X.open;have c:=Xh F;have d:=Xh G;have Y:a.length<=9223372036854775807:=Xf l m;clear V X F G;by_cases J:a.length=b.length
 ·have M:((a.length:Int) != (b.length:Int))=false:=by simp[J]
  go_enter Tryz.func110,Tryz.ntmps110;go_wp2_with fail;all_goals first|(exfalso;omega)|skip
  go_loopw [13] (fun i wr=>∃k:Nat,k<=a.length/\Hid (decide (a.drop k=b.drop k)=decide (a=b))/\Below w.heap.size w wr/\i=.int .i64 k) (fun i _=>a.length-(intOf i).toNat)
  case atStart=>exact⟨0,by omega,rfl,Xb,rfl⟩
  case round =>
   obtain⟨k,t,H,B,rfl⟩:=hrel;by_cases E:k<a.length
   ·obtain⟨x,L⟩:∃x,a[k]? = some x:=⟨a[k],by simp[E]⟩;obtain⟨y,R⟩:∃y,b[k]? = some y:=⟨b[k]'(by omega),by simp[<-J,E]⟩;obtain⟨v,z,vs,rfl,I,_,S⟩:=c.out k x L;unfold qs at I;subst I;obtain⟨b2,o2,vs,rfl,I,_,A⟩:=d.out k y R;unfold qs at I;subst I;have f:=(S.mono B S.lt).1;have g:=(A.mono B A.lt).1;rw[Nat.mul_one]at f g;have D:=Qb3 a b J k x y L R;rw[H.out,<-q8]at D;have o:=Xh L;have j:k<b.length:=(by omega);clear L R S A;cases Z:x.toList==y.toList with
    |true =>
     rw[Z,Bool.true_and]at D;have N:=Xh D.symm;clear D;go_upto_region 6 with fail;go_quiet (fail);go_wp2
     go_roundw;case rel=>exact⟨k+1,by omega,N.out,⟨B.os,B.tape,B.output,B.size,B.block⟩,by simp⟩
     case measure=>simp[intOf];omega
    |false =>
     rw[Z,Bool.false_and]at D;have O:=Xh D;clear D;go_upto_region 6 with fail;go_quiet (fail);go_wp2
     go_ret;exact⟨by rw[O.out];rfl,⟨B.os,B.tape,B.output,B.size,B.block⟩⟩
   ·obtain rfl:k=a.length:=(by omega);have C:decide (a=b)=true:=(by rw[<-H.out,Xg Xl,Xg (by omega)];rfl);have O:=Xh C;clear C;go_wp2_with fail;go_ret;exact⟨by rw[O.out];rfl,B⟩
 ·have P:decide (a=b)=false:=by simpa using fun h=>J (by rw[h])
  have M:((a.length:Int) != (b.length:Int))=true:=by simp;omega
  rw[P];go_enter Tryz.func110,Tryz.ntmps110;go_wp2_with fail;all_goals first|(exfalso;omega)|skip
  go_ret;exact⟨rfl,Xb⟩
def zaD(f:Frm):Prop:=(∀k∈f.locals,k.size<=4194304)/\∀k∈f.stack,k.size<=4194304
def zk(w:World)(lv sv:Value)(f:Frm):Prop:=Qh w lv f.locals/\Qh w sv f.stack
theorem zk.mono{w w':World}(A:Below w.heap.size w w'){B C:Value}{f:Frm}(h:zk w B C f):zk w' B C f:=⟨h.1.mono A,h.2.mono A⟩
theorem ZdT(a b:Frm):decide (a=b)=(decide (a.locals=b.locals)&&decide (a.stack=b.stack)):=by
 cases a;cases b;rw[Bool.eq_iff_iff];simp
set_option maxRecDepth 100000
theorem Qcg(a b:Frm)(D E F G:Value)(w:World)(L:zk w D E a)(M:zk w F G b):
 Calls Tryz.prog 67 #[.agg #[D,E],.agg #[F,G]] w fun e w'=>e=.returned (.bool (decide (a=b)))/\Below w.heap.size w w':=by
 have H:Hid (∀wx,Below w.heap.size w wx->_):=fun wx h=>qcn a.locals b.locals D F wx (L.1.mono h) (M.1.mono h)
 have N:Hid (∀wx,Below w.heap.size w wx->_):=fun wx h=>qcn a.stack b.stack E G wx (L.2.mono h) (M.2.mono h)
 rw[ZdT];clear L M;have I:=Xh (((Below.refl w.heap.size w).alloc Xl (.cells #[D,E] 27)).alloc (by simp) (.cells #[F,G] 27));obtain⟨J,B⟩:∃J,J=(w.alloc (.cells #[D,E] 27)).alloc (.cells #[F,G] 27):=⟨_,rfl⟩;have O:Hid (Blk J w.heap.size 27 [D,E]):=by
  rw[B];exact(Blk.new w 27 [D,E]).step (Xb.alloc Xl _)
 have P:Hid (Blk J (w.heap.size+1) 27 [F,G]):=by
  rw[B];have:=Blk.new (w.alloc (.cells #[D,E] 27)) 27 [F,G];unfold Hid;simpa using this
 rw[<-B]at I;have S:=Xh B.symm;clear B;generalize decide (a.locals=b.locals)=d at *;cases d with
 |true =>
  rw[Bool.true_and];generalize decide (a.stack=b.stack)=r at *;go_enter Tryz.func67,Tryz.ntmps67;go_wp2_with (first
   |(go_at_call 110;rw[S.out];(with_reducible refine(H.out _ I.out).mono ?_);rintro e T⟨rfl,C⟩;(have A:=Qa I Xl C);obtain⟨U,V⟩:=(O.out.step C).cells2;obtain⟨X,Y⟩:=(P.out.step C).cells2)
   |(go_fit (N.out _ A);rintro e Z⟨rfl,R⟩))
  go_ret;exact⟨rfl,Qa A Xl R⟩
 |false =>
  rw[Bool.false_and];go_enter Tryz.func67,Tryz.ntmps67;go_wp2_with (first
   |(go_at_call 110;rw[S.out];(with_reducible refine(H.out _ I.out).mono ?_);rintro e T⟨rfl,C⟩;(have A:=Qa I Xl C)))
  go_ret;exact⟨rfl,A⟩
set_option maxRecDepth 512
theorem qbj{cs:List Qb}{a b:List Str}{k:Nat}{x y:Str}(A:a[k]? = some x)(B:b[k]? = some y):QO cs (a.take (k+1)) (b.take (k+1))=QO cs (a.take k) (b.take k)++[QaV cs x y]:=by
 obtain⟨C,rfl⟩:=List.getElem?_eq_some_iff.1 A;obtain⟨D,rfl⟩:=List.getElem?_eq_some_iff.1 B;unfold QO;rw[List.take_succ_eq_append_getElem C,List.take_succ_eq_append_getElem D,List.zipWith_append (by simp;omega)];rfl
theorem Qbj{cs:List Qb}{a b:List Str}(h:a.length=b.length):QO cs (a.take a.length) (b.take a.length)=QO cs a b:=by
 rw[List.take_length,h,List.take_length]
theorem Qam{cs:List Qb}{a b:List Str}(h:a.length=b.length):(QO cs a b).length=a.length:=by unfold QO;simp[h]
theorem zaA(w:World)(a:Value)(t:TypeId):∀j u,[a][j]? = some u->(w.alloc (.cells #[a] t)).cell? ((⟨w.heap.size,0,none⟩:Addr).add j)=some u:=by
 intro j u A;match j,A with
 |0,A=>simp at A;subst A;simp[Addr.add]
theorem Zcz(a:Str):∀u∈[Value.string a],u.oneCell'=true:=by
 intro u A;simp at A;subst A;rfl
def ZaN(w:World)(cs:List Qb)(a b:Frm)(e:Ending)(w':World):Prop :=
 Below w.heap.size w w'/\((zR a b=true/\∃v1 v2,e=.returned (.tuple #[.agg #[v1,v2],.bool true])/\zk w' v1 v2 (Q1 cs a b))\/(zR a b=false/\e=.returned (.tuple #[.agg #[.slice none 0 0,.slice none 0 0],.bool false])))
set_option maxRecDepth 100000
theorem qdT(w0 w:World)(B:Nat)(l:List Qb)(hm:zy w0 w B l)(a b:Frm)(a1 a2 b1 b2:Value)(ha:zk w a1 a2 a)(hb:zk w b1 b2 b)(hSa:zaD a)(hSb:zaD b)(hza:Qx (Za l) a=0)(hzb:Qx (Za l) b=0):
 Calls Tryz.prog 64 #[.map (some B),.agg #[a1,a2],.agg #[b1,b2]] w (ZaN w (Za l) a b):=by
 obtain⟨p1,c1,rfl,_,_,ha1⟩:=ha.1.open;obtain⟨p2,c2,rfl,_,_,ha2⟩:=ha.2.open;obtain⟨p3,c3,rfl,_,_,hb1⟩:=hb.1.open;obtain⟨p4,c4,rfl,_,_,hb2⟩:=hb.2.open;obtain⟨hla,hsa,hka1,hka2⟩:=qw hza;obtain⟨hlb,hsb,hkb1,hkb2⟩:=qw hzb;have HO:Hid (∀wx x y,Below w.heap.size w wx->(x∈a.locals/\y∈b.locals)\/(x∈a.stack/\y∈b.stack)->Calls Tryz.prog 109 #[.map (some B),.string x,.string y] wx fun e w'=>e=.returned (.string (QaV (Za l) x y))/\Below wx.heap.size wx w'):=fun wx x y d h=>by
  have j:zd (Za l) x=0/\zd (Za l) y=0/\x.size<=4194304/\y.size<=4194304:=by
   rcases h with⟨o,h2⟩|⟨o,h2⟩
   ·exact⟨hka1 x o,hkb1 y h2,hSa.1 x o,hSb.1 y h2⟩
   ·exact⟨hka2 x o,hkb2 y h2,hSa.2 x o,hSb.2 y h2⟩
  obtain⟨X,hX⟩:=ZM j.1;obtain⟨Y,hY⟩:=ZM j.2.1;refine(Qep w0 wx B l (hm.step d) x y X Y hX hY j.2.2.1 j.2.2.2).mono ?_;rintro e w'⟨⟨z,rfl,hz,_⟩,hB'⟩;exact⟨by rw[qb3 hX.1 hY.1 hz],hB'⟩
 have HA1:=Xh ha1;have HA2:=Xh ha2;have HB1:=Xh hb1;have HB2:=Xh hb2;obtain⟨i0,hi,hz0,hz1,hz2⟩:=info_parts qO;obtain⟨n,aL⟩:∃n,a.locals.length=n:=⟨_,rfl⟩;obtain⟨n',hn2⟩:∃n,b.locals.length=n:=⟨_,rfl⟩;obtain⟨m,aM⟩:∃n,a.stack.length=n:=⟨_,rfl⟩;obtain⟨m',hm2⟩:∃n,b.stack.length=n:=⟨_,rfl⟩;rw[aL,hn2,aM,hm2];have HBn:=Xh ((((Below.refl w.heap.size w).alloc Xl (.cells #[.slice p1 n c1,.slice p2 m c2] 27)).alloc (by simp) (.cells #[.slice p3 n' c3,.slice p4 m' c4] 27)).alloc (by simp;omega) (.cells #[.slice none 0 0,.slice none 0 0] 27));rw[aL]at hla;rw[aM]at hsa;unfold ZaN;clear ha1 ha2 hb1 hb2 hka1 hka2 hkb1 hkb2 hza hzb hSa hSb hm ha hb hlb hsb;have P:zR a b=(decide (n=n')&&decide (m=m')):=by unfold zR;rw[aL,hn2,aM,hm2]
 have q:=Xh aL;have HN2:=Xh hn2;have r:=Xh aM;have HM2:=Xh hm2;clear aL hn2 aM hm2;generalize Za l=cs at *;by_cases o:n=n'
 ·by_cases h2:m=m'
  ·subst o h2;have z1:((n:Int) != (n:Int))=false:=(by simp);have z2:((m:Int) != (m:Int))=false:=(by simp);rw[Xj rfl,Xj rfl,Bool.and_true]at P;have HS:=Xh P;clear P;obtain⟨w1,T⟩:∃w1,w1=(((w.alloc (.cells #[.slice p1 n c1,.slice p2 m c2] 27)).alloc (.cells #[.slice p3 n c3,.slice p4 m c4] 27)).alloc (.cells #[.slice none 0 0,.slice none 0 0] 27)).alloc (.cells #[.slice none 0 0,.slice none 0 0] 27):=⟨_,rfl⟩;have hB1':Below w.heap.size w w1:=(by rw[T];exact HBn.out.alloc (by simp;omega) _);have hsz:w1.heap.size=w.heap.size+4:=(by rw[T];simp);have I:Blk w1 w.heap.size 27 [.slice p1 n c1,.slice p2 m c2]:=by
    rw[T];exact(Blk.new w 27 _).step (((Xb.alloc Xl _).alloc (by simp) _).alloc (by simp) _)
   have H:Blk w1 (w.heap.size+1) 27 [.slice p3 n c3,.slice p4 m c4]:=by
    rw[T];have:=(Blk.new (w.alloc (.cells #[.slice p1 n c1,.slice p2 m c2] 27)) 27 [.slice p3 n c3,.slice p4 m c4]).step ((Xb.alloc Xl (.cells #[.slice none 0 0,.slice none 0 0] 27)).alloc (by simp) (.cells #[.slice none 0 0,.slice none 0 0] 27));simpa using this
   have F:Blk w1 (w.heap.size+1+1) 27 [.slice none 0 0,.slice none 0 0]:=by
    rw[T];have:=(Blk.new ((w.alloc (.cells #[.slice p1 n c1,.slice p2 m c2] 27)).alloc (.cells #[.slice p3 n c3,.slice p4 m c4] 27)) 27 [.slice none 0 0,.slice none 0 0]).step (Xb.alloc Xl (.cells #[.slice none 0 0,.slice none 0 0] 27));simpa using this
   have G:Blk w1 (w.heap.size+1+1+1) 27 [.slice none 0 0,.slice none 0 0]:=by
    rw[T];have:=Blk.new (((w.alloc (.cells #[.slice p1 n c1,.slice p2 m c2] 27)).alloc (.cells #[.slice p3 n c3,.slice p4 m c4] 27)).alloc (.cells #[.slice none 0 0,.slice none 0 0] 27)) 27 [.slice none 0 0,.slice none 0 0];simpa using this
   have HW:=Xh T.symm;go_enter Tryz.func64,Tryz.ntmps64;go_wp2_with fail;rw[HW.out];clear HW T HBn;have s:=Xh I;have t:=Xh H;have aA:=Xh F;have aB:=Xh G;have Z:=Xh hB1';have aC:Hid (w.heap.size+4<=w1.heap.size):=(by unfold Hid;omega);clear I H F G hB1' hsz;go_loopw [33] (fun x wr=>∃(k:Nat) (v:Value),k<=n/\Hid (Blk wr w.heap.size 27 [.slice p1 n c1,.slice p2 m c2])/\Hid (Blk wr (w.heap.size+1) 27 [.slice p3 n c3,.slice p4 m c4])/\Hid (Blk wr (w.heap.size+1+1) 27 [.slice none 0 0,.slice none 0 0])/\Hid (Blk wr (w.heap.size+1+1+1) 27 [v,.slice none 0 0])/\Hid (wr.ownsRow (w.heap.size+4) 9 1 v k ((QO cs (a.locals.take k) (b.locals.take k)).map Value.string))/\Below w.heap.size w wr/\Hid (w.heap.size+4<=wr.heap.size)/\x=.int .i64 k) (fun x _=>n-(intOf x).toNat)
   case atStart=>exact⟨0,_,by omega,s,t,aA,aB,World.ownsRow_nil _ _ _ _,Z,aC,rfl⟩
   case round =>
    clear s t aA aB Z aC;obtain⟨k,v,hk,I,H,F,G,C,d,U,rfl⟩:=hrel;by_cases aD:k<n
    ·obtain⟨va,vc,rfl⟩:=qe C.out;obtain⟨x,j⟩:∃x,a.locals[k]? = some x:=⟨a.locals[k]'(by rw[q.out];exact aD),by simp⟩;obtain⟨y,hy⟩:∃y,b.locals[k]? = some y:=⟨b.locals[k]'(by rw[HN2.out];exact aD),by simp⟩;obtain⟨ba,oa,vs,rfl,hR,_,f⟩:=HA1.out k x j;unfold qs at hR;subst hR;obtain⟨bb,ob,vs,rfl,hR,_,i⟩:=HB1.out k y hy;unfold qs at hR;subst hR;have c0:=(f.mono d f.lt).1;have d0:=(i.mono d i.lt).1;rw[Nat.mul_one]at c0 d0;have e1:=H.out.cells2;have q1:wr.cell? ⟨w.heap.size+1,0,none⟩=some (.slice (some ⟨bb,ob,none⟩) n c3):=e1.1;have e3:=G.out.cells2;have q3:wr.cell? ⟨w.heap.size+1+1+1,0,none⟩=some (.slice va k vc):=e3.1;have aE:=qbj (cs:=cs) j hy;have aF:=Xh (fun wx hb=>HO.out wx x y hb (Or.inl ⟨Xe j,Xe hy⟩));generalize QaV cs x y=z at *;have HSt:=Xh aE;have c:=Xh d;have b3:=Xh q3;clear aE j hy f i d e1 e3;go_upto_region 7 with fail;have aG:k+1<=maxLen:=(by unfold maxLen;omega);have aH:(k+1)*16<=140737488355328:=(by omega);have J:∀b,b<w.heap.size+4->(Value.slice va k vc).ownBlock≠some b:=fun b hb e=>by have:=(C.out.lt _ e).1;omega
     have hi1:(k:Int)<(n:Int):=(by omega);have hi0:(0:Int)<=(k:Int):=(by omega);go_region_law (first
      |(refine step_append_lies _ (by rfl) _ _ 25 (by rfl) (w.heap.size+4) 9 i0 (.string .empty) 1 16 Tryz.underlying25 hi hz0 hz1 hz2 rfl (by decide) _ k _ (by rfl) L ⟨w6.heap.size,0,none⟩ 1 1 [.string z] (by rfl) rfl (zaA w6 _ 9) (Zcz _) (by decide) aG aH E (w6.heap.size+1) (by simp) ?_;intro g cap w8 N A hat hlt;(have R:=S.grown A (J _ (by omega)));(have e8:=R.cells2);(have f8:=R.frozen 0))
      |(go_simp;go_at_call 109;refine(aF.out _ (c.out.drew)).mono ?_;rintro e w6⟨rfl,V⟩;(have O:=Qa ((Below.refl wr.heap.size wr).drew) Xl V);(have d3:=(O.cell (p:=⟨w.heap.size+1+1+1,0,none⟩) (qcm b3.out)).trans b3.out);(have d4:=Lib.cell?_alloc_some (.cells #[.string z] 9) d3);(have D:=O.alloc O.size (.cells #[.string z] 9));(have L:=ZN C.out D);(have S:=G.out.step D);(have E:=Xf U.out D.size)))
     all_goals
      have aI:=Xh ((I.out.step D).grown A (J _ (by omega)));have aJ:=Xh ((H.out.step D).grown A (J _ (by omega)));have aK:=Xh ((F.out.step D).grown A (J _ (by omega)));have hK8:=Xh R;have hO8:=Xh N;have hW8:Hid (w.heap.size+4<=w8.heap.size):=Xf E A.size;have hB8:=Xh ((Qa c Xl D).grown A (Qa c Xl D).size (fun g e=>by have:=(C.out.lt g e).1;omega));obtain⟨e8a,e8b⟩:=e8;clear d3 d4 D L S E A hat hlt R N O V b3 J I H F G C U aF c0 d0 q1 q3;go_wp2_with fail;go_roundw;case rel=>exact⟨k+1,Value.slice (some ⟨g,0,none⟩) (k+1) cap,by omega,aI.out.other' (by show w.heap.size+1+1+1≠_;omega) _,aJ.out.other' (by show w.heap.size+1+1+1≠_;omega) _,aK.out.other' (by show w.heap.size+1+1+1≠_;omega) _,hK8.out.put 0 _,by unfold Hid;rw[HSt.out,List.map_append];exact qG hO8.out (by omega) _ _,hB8.out.setCell (by show w.heap.size<=w.heap.size+1+1+1;omega) _,Zcn hW8.out _ _,by simp⟩
      case measure=>simp[intOf];omega
    ·obtain⟨g1,k1,rfl⟩:=qe C.out;obtain rfl:n=k:=(by omega);have hj:=Qbj (cs:=cs) (a:=a.locals) (b:=b.locals) (by rw[q.out,HN2.out]);rw[q.out]at hj;have ho1:=C.out;rw[hj]at ho1;obtain⟨q0,q1⟩:=I.out.cells2;have s:=Xh I.out;have t:=Xh H.out;have aA:=Xh F.out;have aB:=Xh G.out;have HO1:=Xh ho1;have Z:=Xh d;have aC:=Xh U.out;clear I H F G C d U ho1 hj;go_wp2_with fail;go_loopw [55] (fun x wr=>∃(k:Nat) (v:Value),k<=m/\Hid (Blk wr w.heap.size 27 [.slice p1 n c1,.slice p2 m c2])/\Hid (Blk wr (w.heap.size+1) 27 [.slice p3 n c3,.slice p4 m c4])/\Hid (Blk wr (w.heap.size+1+1) 27 [.slice none 0 0,.slice none 0 0])/\Hid (Blk wr (w.heap.size+1+1+1) 27 [.slice g1 n k1,v])/\Hid (wr.ownsRow (w.heap.size+4) 9 1 v k ((QO cs (a.stack.take k) (b.stack.take k)).map Value.string))/\Hid (wr.ownsRow (w.heap.size+4) 9 1 (.slice g1 n k1) n ((QO cs a.locals b.locals).map Value.string))/\Hid (∀g,(Value.slice g1 n k1).ownBlock=some g->v.ownBlock≠some g)/\Below w.heap.size w wr/\Hid (w.heap.size+4<=wr.heap.size)/\x=.int .i64 k) (fun x _=>m-(intOf x).toNat)
     case atStart=>exact⟨0,_,by omega,s,t,aA,aB,World.ownsRow_nil _ _ _ _,HO1,(by intro g _ h;cases h),Z,aC,rfl⟩
     case round =>
      clear s t aA aB Z aC HO1;obtain⟨k,v,hk,I,H,F,G,C,M,hap,d,U,rfl⟩:=hrel;by_cases aD:k<m
      ·obtain⟨va,vc,rfl⟩:=qe C.out;obtain⟨x,j⟩:∃x,a.stack[k]? = some x:=⟨a.stack[k]'(by rw[r.out];exact aD),by simp⟩;obtain⟨y,hy⟩:∃y,b.stack[k]? = some y:=⟨b.stack[k]'(by rw[HM2.out];exact aD),by simp⟩;obtain⟨ba,oa,vs,rfl,hR,_,f⟩:=HA2.out k x j;unfold qs at hR;subst hR;obtain⟨bb,ob,vs,rfl,hR,_,i⟩:=HB2.out k y hy;unfold qs at hR;subst hR;have c0:=(f.mono d f.lt).1;have d0:=(i.mono d i.lt).1;rw[Nat.mul_one]at c0 d0;have e1:=H.out.cells2;have q1:wr.cell? ⟨w.heap.size+1,1,none⟩=some (.slice (some ⟨bb,ob,none⟩) m c4):=e1.2;have e3:=G.out.cells2;have q3:wr.cell? ⟨w.heap.size+1+1+1,1,none⟩=some (.slice va k vc):=e3.2;have aE:=qbj (cs:=cs) j hy;have aF:=Xh (fun wx hb=>HO.out wx x y hb (Or.inr ⟨Xe j,Xe hy⟩));generalize QaV cs x y=z at *;have HSt:=Xh aE;have c:=Xh d;have b3:=Xh q3;clear aE j hy f i d e1 e3;go_upto_region 12 with fail;have aG:k+1<=maxLen:=(by unfold maxLen;omega);have aH:(k+1)*16<=140737488355328:=(by omega);have J:∀b,b<w.heap.size+4->(Value.slice va k vc).ownBlock≠some b:=fun b hb e=>by have:=(C.out.lt _ e).1;omega
       have hi1:(k:Int)<(m:Int):=(by omega);have hi0:(0:Int)<=(k:Int):=(by omega);go_region_law (first
        |(refine step_append_lies _ (by rfl) _ _ 25 (by rfl) (w.heap.size+4) 9 i0 (.string .empty) 1 16 Tryz.underlying25 hi hz0 hz1 hz2 rfl (by decide) _ k _ (by rfl) L ⟨w6.heap.size,0,none⟩ 1 1 [.string z] (by rfl) rfl (zaA w6 _ 9) (Zcz _) (by decide) aG aH E (w6.heap.size+1) (by simp) ?_;intro g cap w8 N A hat hlt;(have R:=S.grown A (J _ (by omega)));(have e8:=R.cells2);(have f8:=R.frozen 1))
        |(go_simp;go_at_call 109;refine(aF.out _ (c.out.drew)).mono ?_;rintro e w6⟨rfl,V⟩;(have O:=Qa ((Below.refl wr.heap.size wr).drew) Xl V);(have d3:=(O.cell (p:=⟨w.heap.size+1+1+1,1,none⟩) (qcm b3.out)).trans b3.out);(have d4:=Lib.cell?_alloc_some (.cells #[.string z] 9) d3);(have D:=O.alloc O.size (.cells #[.string z] 9));(have L:=ZN C.out D);(have S:=G.out.step D);(have E:=Xf U.out D.size)))
       all_goals
        have aI:=Xh ((I.out.step D).grown A (J _ (by omega)));have aJ:=Xh ((H.out.step D).grown A (J _ (by omega)));have aK:=Xh ((F.out.step D).grown A (J _ (by omega)));have hK8:=Xh R;have hO8:=Xh N;have hW8:Hid (w.heap.size+4<=w8.heap.size):=Xf E A.size;have hB8:=Xh ((Qa c Xl D).grown A (Qa c Xl D).size (fun g e=>by have:=(C.out.lt g e).1;omega));have hG8:∀g0,(Value.slice g1 n k1).ownBlock=some g0->g0≠g:=fun g0 e0 he=>by
         subst he;rcases hat with h|h
         ·exact hap.out _ e0 h
         ·have o:=(M.out.lt _ e0).2;have h2:=D.size;have h3:=O.size;omega
        have hP8:=Xh ((ZN M.out D).kept A (by
         cases h:(Value.slice g1 n k1).ownBlock with
         |none=>exact Or.inl rfl
         |some g0=>exact Or.inr (fun e=>hap.out g0 h e.symm)))
        have hA8:Hid (∀g0,(Value.slice g1 n k1).ownBlock=some g0->(Value.slice (some ⟨g,0,none⟩) (k+1) cap).ownBlock≠some g0):=fun g0 e0 he=>hG8 g0 e0 (by injection he with he;exact he.symm)
        obtain⟨e8a,e8b⟩:=e8;clear d3 d4 D L S E A hat hlt R N O V b3 J I H F G C U aF c0 d0 q1 q3 hG8 M hap;go_wp2_with fail;go_roundw;case rel=>exact⟨k+1,Value.slice (some ⟨g,0,none⟩) (k+1) cap,by omega,aI.out.other' (by show w.heap.size+1+1+1≠_;omega) _,aJ.out.other' (by show w.heap.size+1+1+1≠_;omega) _,aK.out.other' (by show w.heap.size+1+1+1≠_;omega) _,hK8.out.put 1 _,by unfold Hid;rw[HSt.out,List.map_append];exact qG hO8.out (by omega) _ _,qG hP8.out (by omega) _ _,hA8,hB8.out.setCell (by show w.heap.size<=w.heap.size+1+1+1;omega) _,Zcn hW8.out _ _,by simp⟩
        case measure=>simp[intOf];omega
      ·obtain⟨va,vc,rfl⟩:=qe C.out;obtain rfl:m=k:=(by omega);have hj:=Qbj (cs:=cs) (a:=a.stack) (b:=b.stack) (by rw[r.out,HM2.out]);rw[r.out]at hj;have ho2:=C.out;rw[hj]at ho2;obtain⟨q0,q1⟩:=G.out.cells2;obtain⟨q2,q3⟩:=F.out.cells2;have f2:=F.out.frozen 0;have f3:=F.out.frozen 1;have HR1:=Xh (qG (qG M.out (show w.heap.size+1+1<w.heap.size+4 by omega) 0 (.slice g1 n k1)) (show w.heap.size+1+1<w.heap.size+4 by omega) 1 (.slice va m vc));have HR2:=Xh (qG (qG ho2 (show w.heap.size+1+1<w.heap.size+4 by omega) 0 (.slice g1 n k1)) (show w.heap.size+1+1<w.heap.size+4 by omega) 1 (.slice va m vc));have Z:=Xh (Q5 (b:=w.heap.size+1+1) d (by omega) (.slice g1 n k1) (.slice va m vc));clear I H F G C M hap d U ho2 hj;go_wp2_with fail;refine bodyPost_ret (v:=.tuple #[.agg #[.slice g1 n k1,.slice va m vc],.bool true]) (by simp[results,Tryz.results64,go_sem, *]) rfl ⟨Z,Or.inl ⟨HS,_,_,rfl,?_⟩⟩;exact⟨Ze (l:=QO cs a.locals b.locals) (by rw[Qam (by rw[q.out,HN2.out]),q.out];exact HR1.out),Ze (l:=QO cs a.stack b.stack) (by rw[Qam (by rw[r.out,HM2.out]),r.out];exact HR2.out)⟩
  ·have z1:((n:Int) != (n':Int))=false:=(by simp[o]);have z2:((m:Int) != (m':Int))=true:=(by simp;omega);rw[Xi h2,Bool.and_false]at P;have HS:=Xh P;clear P o h2;go_enter Tryz.func64,Tryz.ntmps64;go_wp2_with fail;exact bodyPost_ret (v:=.tuple #[.agg #[.slice none 0 0,.slice none 0 0],.bool false]) (by simp[results,Tryz.results64,go_sem, *]) rfl ⟨HBn,Or.inr ⟨HS,rfl⟩⟩
 ·have z1:((n:Int) != (n':Int))=true:=by simp;omega
  rw[Xi o,Bool.false_and]at P;have HS:=Xh P;clear P o;go_enter Tryz.func64,Tryz.ntmps64;go_wp2_with fail;exact bodyPost_ret (v:=.tuple #[.agg #[.slice none 0 0,.slice none 0 0],.bool false]) (by simp[results,Tryz.results64,go_sem, *]) rfl ⟨HBn,Or.inr ⟨HS,rfl⟩⟩
set_option maxRecDepth 512
theorem Qh.apart{w:World}{v:Value}{l:List Str}{b:Nat}{t:TypeId}{x y:Value}(h:Qh w v l)(H:Blk w b t [x,y])(C:∀s,x≠.string s)(I:∀s,y≠.string s){w':World}(J:∀g,g≠b->w'.heap[g]? = w.heap[g]?):Qh w' v l:=by
 cases l with
 |nil =>
  rcases h with h|⟨a,cap,D,F,G,_⟩
  ·exact Or.inl h
  ·exact Or.inr ⟨a,cap,D,F,G,fun i x C=>by simp at C⟩
 |cons z r =>
  refine Zg.block h fun g B=>J g fun M=>?_
  subst M;rcases h with⟨_,h⟩|⟨a,cap,D,F,G,N⟩
  ·cases h
  ·rw[D]at B;injection B with B
   subst B;obtain⟨vs,E,_,_,L⟩:=N 0 z rfl;unfold qs at E;subst E;have A:=L.1;rw[H.cell]at A;rcases Nat.lt_or_ge (a.off+0*1) 2 with h|h
   ·have:a.off+0*1=0\/a.off+0*1=1:=(by omega);rcases this with h|h<;>rw[h]at A<;>injection A with A
    ·exact C _ A
    ·exact I _ A
   ·rw[List.getElem?_eq_none (by simpa using h)]at A;cases A
end Go.Proofs.YtlmfmioljeppfaaGreatDoor
