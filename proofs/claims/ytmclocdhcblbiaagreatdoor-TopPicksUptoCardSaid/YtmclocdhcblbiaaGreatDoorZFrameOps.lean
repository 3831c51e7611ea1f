/- Lemmas; conditions: as each states. -/
import Derived.Test.YtmclocdhcblbiaaGreatDoorZFind
import Derived.Test.YtmclocdhcblbiaaGreatDoorZShelf
import Derived.Test.YtmclocdhcblbiaaGreatDoorZSub
import Derived.Lib.AppendZeros
import Derived.Laws.CopyOwn
import Derived.IntWalk
import Derived.Deep.OwnRows
import Derived.Deep.RegionLaw
import Derived.StillTailTactics
import Derived.Lib.SliceRun
import Derived.Deep.AppendLies
import Derived.Lib.AppendZerosOnto
set_option maxHeartbeats 4000000
namespace Go.Proofs.YtmclocdhcblbiaaGreatDoor
open Go.RowKit Go.Shelf Go.Lib Tryz
theorem Blk.put{w:World}{b:Nat}{t:TypeId}{A:List Value}(h:Blk w b t A)(j:Nat)(v:Value):Blk (w.setCell ⟨b,j,none⟩ v) b t (A.set j v):=by
 unfold Blk at *;rw[heap_setCell_same w b j _ t v h];simp
theorem Blk.other{w:World}{b b':Nat}{t:TypeId}{A:List Value}(h:Blk w b t A)(B:b≠b')(j:Nat)(v:Value):Blk (w.setCell ⟨b',j,none⟩ v) b t A:=by
 unfold Blk at *;rw[Xk w ⟨b',j,none⟩ b v B];exact h
theorem Blk.put2{w:World}{b:Nat}{t:TypeId}{B C:Value}(h:Blk w b t [B,C])(v0 A:Value):Blk ((w.setCell ⟨b,0,none⟩ v0).setCell ⟨b,1,none⟩ A) b t [v0,A]:=(h.put 0 v0).put 1 A
theorem Blk.put8{w:World}{b:Nat}{t:TypeId}{H I J L M N O P:Value}(h:Blk w b t [H,I,J,L,M,N,O,P])(v0 A B C D E F G:Value):
 Blk ((((((((w.setCell ⟨b,0,none⟩ v0).setCell ⟨b,1,none⟩ A).setCell ⟨b,2,none⟩ B).setCell ⟨b,3,none⟩ C).setCell ⟨b,4,none⟩ D).setCell ⟨b,5,none⟩ E).setCell ⟨b,6,none⟩ F).setCell ⟨b,7,none⟩ G) b t [v0,A,B,C,D,E,F,G] :=
 (((((((h.put 0 v0).put 1 A).put 2 B).put 3 C).put 4 D).put 5 E).put 6 F).put 7 G
theorem Blk.other8{w:World}{b b':Nat}{t:TypeId}{B:List Value}(h:Blk w b t B)(A:b≠b')(v0 C D E F G H I:Value):
 Blk ((((((((w.setCell ⟨b',0,none⟩ v0).setCell ⟨b',1,none⟩ C).setCell ⟨b',2,none⟩ D).setCell ⟨b',3,none⟩ E).setCell ⟨b',4,none⟩ F).setCell ⟨b',5,none⟩ G).setCell ⟨b',6,none⟩ H).setCell ⟨b',7,none⟩ I) b t B :=
 (((((((h.other A 0 v0).other A 1 C).other A 2 D).other A 3 E).other A 4 F).other A 5 G).other A 6 H).other A 7 I
theorem Blk.cells2{w:World}{b:Nat}{t:TypeId}{A B:Value}(h:Blk w b t [A,B]):w.cell? ⟨b,0,none⟩=some A/\w.cell? ⟨b,1,none⟩=some B:=⟨h.cell 0,h.cell 1⟩
theorem Blk.cells8{w:World}{b:Nat}{t:TypeId}{A B C D E F G H:Value}(h:Blk w b t [A,B,C,D,E,F,G,H]):
 w.cell? ⟨b,0,none⟩=some A/\w.cell? ⟨b,1,none⟩=some B/\w.cell? ⟨b,2,none⟩=some C/\w.cell? ⟨b,3,none⟩=some D/\w.cell? ⟨b,4,none⟩=some E/\w.cell? ⟨b,5,none⟩=some F/\w.cell? ⟨b,6,none⟩=some G/\w.cell? ⟨b,7,none⟩=some H :=
 ⟨h.cell 0,h.cell 1,h.cell 2,h.cell 3,h.cell 4,h.cell 5,h.cell 6,h.cell 7⟩
def Zcm(a b c:Str):List Value:=[.string a,.string b,.string c]
theorem zda:(prog.info? 207).map (fun i=>(i.zero,i.size,i.bytes))=some (some (.agg #[.string .empty,.string .empty,.string .empty]),3,48):=by kernel_rfl
theorem Zc6:(prog.info? 116).map (fun i=>(i.zero,i.size,i.bytes))=some (some (.agg #[.string .empty,.string .empty,.string .empty]),3,48):=by kernel_rfl
theorem zcL(w:World)(a b c:Str)(t:TypeId):∀j u,(Zcm a b c)[j]? = some u->(w.alloc (.cells #[.string a,.string b,.string c] t)).cell? ((⟨w.heap.size,0,none⟩:Addr).add j)=some u:=by
 intro j u A;match j,A with
 |0,A=>simp[Zcm]at A;subst A;simp[Addr.add]
 |1,A=>simp[Zcm]at A;subst A;simp[Addr.add]
 |2,A=>simp[Zcm]at A;subst A;simp[Addr.add]
theorem ZaU{w:World}{T I:TypeId}{D:Array Oper}{A:List Oper}{o:Oper}{a:Act}{Q:Exit->Act->World->Prop}(J:prog.underlying I=some (.slice T))(B:(prog.info? T).map (fun i=>(i.zero,i.size,i.bytes))=some (some (.agg #[.string .empty,.string .empty,.string .empty]),3,48))(M:o.guard=none)(s x:Operand)(R:o.op=.call { callee:=.builtin .append,args:=#[s,x],argTypes:=#[I,I] })(base:Nat)(v:Value)(n:Nat)(xs:List Value)(S:a.eval s=v)(E:w.ownsRow base T 3 v n xs)(F G H:Str)(g:Nat)(U:w.heap.size=g)(V:a.eval x=.slice (some ⟨g,0,none⟩) 1 1)(X:n<=8388608)(C:base<=w.heap.size)(h:∀L w',w'.ownsRow base T 3 L (n+1) (xs++Zcm F G H)->(w.alloc (.cells #[.string F,.string G,.string H] T)).grownBy w' v.ownBlock->wpList prog D Q A (a.put o.dst L) w'):
 wpList prog D Q (o::A) a (w.alloc (.cells #[.string F,.string G,.string H] T)):=by
 subst U;obtain⟨Y,Z,N,O,P⟩:=info_parts B;refine wpList_append_own_at _ M s x I R base T Y (.agg #[.string .empty,.string .empty,.string .empty]) 3 48 J Z N O P rfl (by decide) v n xs S (E.alloc _) ⟨w.heap.size,0,none⟩ 1 1 (Zcm F G H) V rfl (zcL w F G H T)
  (fun u J=>by simp[Zcm]at J;rcases J with rfl|rfl|rfl<;>rfl) (Xf (show n+1<=8388609 by omega) (by decide)) (by omega) (Xf C (by simp)) fun L w' b c _ _=>h L w' b c
theorem QbP(w:World)(base:Nat)(t:TypeId):w.ownsRow base t 3 (.slice none 0 0) 0 []:=⟨rfl,Or.inl ⟨rfl,rfl⟩⟩
theorem zaU{w w':World}{base:Nat}{t:TypeId}{v:Value}{n:Nat}{xs:List Value}(h:w.ownsRow base t 3 v n xs)(D:Below w.heap.size w w'):w'.ownsRow base t 3 v n xs:=by
 rcases h with⟨B,E|⟨g,cap,A,F,G,C,H⟩⟩
 ·exact⟨B,Or.inl E⟩
 ·exact⟨B,Or.inr ⟨g,cap,A,F,G,(D.block g (Array.getElem?_eq_some_iff.1 C).1).trans C,H⟩⟩
theorem ZaY{α:Type}{f:α->List Value}(F:∀x,(f x).length=3){w:World}{base:Nat}{t:TypeId}{p:Option Addr}{c n:Nat}{l:List α}(h:w.ownsRow base t 3 (.slice p n c) n (l.flatMap f))(H:n=l.length){i:Nat}{x:α}(I:l[i]? = some x):
 ∃g,p=some ⟨g,0,none⟩/\base<=g/\g<w.heap.size/\∀j,j<3->w.cell? ⟨g,i*3+j,none⟩=(f x)[j]?:=by
 subst H;obtain⟨D,rfl⟩:=List.getElem?_eq_some_iff.1 I;rcases h with⟨T,⟨U,E⟩|⟨g,cap,C,N,O,G,V,X,Y,P⟩⟩
 ·rw[E]at D;exact absurd D (Nat.not_lt_zero _)
 ·injection N with R _ S
  subst R S;refine⟨g,rfl,O,(Array.getElem?_eq_some_iff.1 G).1,fun j L=>?_⟩;have B:∀m:List α,(m.flatMap f).length=m.length*3:=fun m=>by
   induction m with
   |nil=>rfl
   |cons a r M=>rw[List.flatMap_cons,List.length_append,M,F,List.length_cons];omega
  rw[cell_of_row w g (i*3+j) C t (0,0) G];have J:C[i*3+j]? = (C.toList.take (l.length*3))[i*3+j]?:=by
   rw[List.getElem?_take,if_pos (by omega)];simp
  rw[J,P];have A:l.flatMap f=(l.take i).flatMap f++(f l[i]++(l.drop (i+1)).flatMap f):=by
   rw[<-List.flatMap_cons,<-List.flatMap_append,<-List.drop_eq_getElem_cons D,List.take_append_drop]
  rw[A,List.getElem?_append_right (by rw[B,List.length_take];omega),B,List.length_take,Nat.min_eq_left (by omega),Nat.add_sub_cancel_left,List.getElem?_append_left (by rw[F];exact L)]
theorem QbA{w:World}{C:Array Oper}{A:List Oper}{o:Oper}{a:Act}{Q:Exit->Act->World->Prop}(F:o.guard=none)(s x:Operand)(L:o.op=.call { callee:=.builtin .append,args:=#[s,x],argTypes:=#[27,27] })(base:Nat)(v:Value)(n:Nat)(xs:List Value)(M:a.eval s=v)(D:w.ownsRow base 9 1 v n xs)(c:Str)(g:Nat)(N:w.heap.size=g)(O:a.eval x=.slice (some ⟨g,0,none⟩) 1 1)(P:n<=8388608)(B:base<=w.heap.size)(h:∀E w',w'.ownsRow base 9 1 E (n+1) (xs++[.string c])->(w.alloc (.cells #[.string c] 9)).grownBy w' v.ownBlock->wpList prog C Q A (a.put o.dst E) w'):
 wpList prog C Q (o::A) a (w.alloc (.cells #[.string c] 9)):=by
 subst N;obtain⟨R,S,G,H,I⟩:=info_parts Zae;refine wpList_append_own_at _ F s x 27 L base 9 R (.string .empty) 1 16 underlying27 S G H I rfl (by decide) v n xs M (D.alloc _) ⟨w.heap.size,0,none⟩ 1 1 [.string c] O rfl (cell_one_new _ _ _)
  (fun u J=>by simp at J;subst J;rfl) (Xf (show n+1<=8388609 by omega) (by decide)) (by omega) (Xf B (by simp)) fun E w' T U _ _=>h E w' T U
theorem ZdN{l:List Go.Field}{a b:String×TypeId×Nat}(h:l.map (fun f=>(f.name,f.type,f.offset))=[a,b]):
 ∃A B:Go.Field,l=[A,B]/\(A.name=a.1/\A.type=a.2.1/\A.offset=a.2.2)/\(B.name=b.1/\B.type=b.2.1/\B.offset=b.2.2):=by
 match l,h with
 |[A,B],h =>
  simp only[List.map_cons,List.map_nil,List.cons.injEq,and_true]at h;obtain⟨rfl,rfl⟩:=h;exact⟨A,B,rfl,⟨rfl,rfl,rfl⟩,⟨rfl,rfl,rfl⟩⟩
theorem zeM{l:List Go.Field}{a b c:String×TypeId×Nat}(h:l.map (fun f=>(f.name,f.type,f.offset))=[a,b,c]):
 ∃A B C:Go.Field,l=[A,B,C]/\(A.name=a.1/\A.type=a.2.1/\A.offset=a.2.2)/\(B.name=b.1/\B.type=b.2.1/\B.offset=b.2.2)/\(C.name=c.1/\C.type=c.2.1/\C.offset=c.2.2):=by
 match l,h with
 |[A,B,C],h =>
  simp only[List.map_cons,List.map_nil,List.cons.injEq,and_true]at h;obtain⟨rfl,rfl,rfl⟩:=h;exact⟨A,B,C,rfl,⟨rfl,rfl,rfl⟩,⟨rfl,rfl,rfl⟩,⟨rfl,rfl,rfl⟩⟩
theorem zfo:prog.underlying 118=some (.struct (prog.fieldsOf 118)):=by kernel_rfl
theorem Zfo:prog.stoodInHeld 118=false:=by kernel_rfl
theorem qfo:(prog.fieldsOf 118).toList.map (fun f=>(f.name,f.type,f.offset))=[("Name",9,0),("Type",9,1)]:=by kernel_rfl
theorem qdN(b c e f:Str)(d:Nat)(w:World):(Op.equalIn (d+2) 118 (.agg #[.string b,.string c]) (.agg #[.string e,.string f])).run prog w=.ok ((b.toList==e.toList)&&(c.toList==f.toList)) w:=by
 rw[run_equalIn_agg _ (d+1) _ _ _ zfo Zfo];obtain⟨L,M,D,⟨E,F,G⟩,H,I,J⟩:=ZdN qfo;rw[D];have A:∀(x y:Str) (w:World),(part 9 #[.string x,.string y] 0).run prog w=.ok (.string x) w:=fun x y w=>by kernel_rfl
 have B:∀(x y:Str) (w:World),(part 9 #[.string x,.string y] 1).run prog w=.ok (.string y) w:=fun x y w=>by kernel_rfl
 have C:=fun(x y:Str) (w:World)=>run_equalIn_string (P:=prog) w d 9 x y qaA
 simp only[Op.eqFields,E,F,G,H,I,J,ne_eq,show("Name"="_")=False from by simp,show("Type"="_")=False from by simp,not_false_eq_true,if_true,Sem.run_bind,A,B,C,Result.andThen_ok,Sem.run_ite];cases b.toList==e.toList<;>cases c.toList==f.toList<;>simp[Sem.run_pure]
theorem zfw:prog.underlying 207=some (.struct (prog.fieldsOf 207)):=by kernel_rfl
theorem Zfw:prog.stoodInHeld 207=false:=by kernel_rfl
theorem qfw:(prog.fieldsOf 207).toList.map (fun f=>(f.name,f.type,f.offset))=[("class",9,0),("Field",118,1)]:=by kernel_rfl
theorem ZeM(a b c d e f:Str)(w:World):(binOp .eql 207 (.agg #[.string a,.string b,.string c]) (.agg #[.string d,.string e,.string f])).run prog w=.ok (.bool (decide ((a,b,c)=(d,e,f)))) w:=by
 have h:decide ((a,b,c)=(d,e,f))=(decide (a=d)&&(decide (b=e)&&decide (c=f))):=by rw[Bool.eq_iff_iff];simp
 rw[h,<-Zay a d,<-Zay b e,<-Zay c f,run_eql_struct,run_equalIn_agg _ 9999 _ _ _ zfw Zfw];obtain⟨M,N,E,⟨F,G,H⟩,I,J,L⟩:=ZdN qfw;rw[E];have A:∀(x y z:Str) (w:World),(part 9 #[.string x,.string y,.string z] 0).run prog w=.ok (.string x) w:=fun x y z w=>by kernel_rfl
 have B:∀(x y z:Str) (w:World),(part 118 #[.string x,.string y,.string z] 1).run prog w=.ok (.agg #[.string y,.string z]) w:=fun x y z w=>by kernel_rfl
 have C:=fun(x y:Str) (w:World)=>run_equalIn_string (P:=prog) w 9998 9 x y qaA
 have D:=fun(b c e f:Str) (w:World)=>qdN b c e f 9997 w
 simp only[Op.eqFields,F,G,H,I,J,L,ne_eq,show("class"="_")=False from by simp,show("Field"="_")=False from by simp,not_false_eq_true,if_true,Sem.run_bind,A,B,C,D,Result.andThen_ok,Sem.run_ite];cases a.toList==d.toList<;>cases b.toList==e.toList<;>cases c.toList==f.toList<;>simp[Sem.run_pure,Result.andThen]
theorem ZaS{w:World}{b o:Nat}{v:Value}(h:w.cell? ⟨b,o,none⟩=some v):b<w.heap.size:=qw.lt (w:=w) (b:=b) (o:=o) (v:=v) (r:=[]) ⟨h,trivial⟩
theorem ZX{w:World}{base A:Nat}{e:TypeId}{size:Nat}{v:Value}{n:Nat}{xs:List Value}(h:w.ownsRow base e size v n xs)(D:A<=base):w.ownsRow A e size v n xs:=by
 rcases h with⟨C,E|⟨g,cap,B,F,G,H⟩⟩
 ·exact⟨C,Or.inl E⟩
 ·exact⟨C,Or.inr ⟨g,cap,B,F,Xf D G,H⟩⟩
theorem Qca{w:World}{b:Nat}:∀{vs:List Value} {o:Nat},(∀i v,vs[i]? = some v->w.cell? ⟨b,o+i,none⟩=some v)->qw w b o vs
 |[],_,_=>trivial
 |v::r,o,h=>⟨h 0 v rfl,Qca fun i x A=>by
  have:=h (i+1) x (by simpa using A);rwa [show o+(i+1)=o+1+i by omega]at this⟩
theorem Zdq(w:World)(cs:Array Value)(t:TypeId):zL w (w.alloc (.cells cs t)) cs.toList :=
 ⟨Xb.alloc Xl _,by simp,Qca fun i v h=>by
  rw[cell_of_row (w.alloc (.cells cs t)) w.heap.size (0+i) cs t (0,0) (heap_alloc_new _ _),Nat.zero_add];simpa using h⟩
def zbq(w:World)(l:List Str)(e:Ending)(w':World):Prop:=(∃v,e=.returned v/\w'.ownsRow w.heap.size 9 1 v l.length (l.map Value.string))/\Below w.heap.size w w'
theorem QdN(w:World)(base:Nat):w.ownsRow base 9 1 (.slice none 0 0) 0 []:=⟨rfl,Or.inl ⟨rfl,rfl⟩⟩
theorem qbR(w:World)(s:Str):qp (w.alloc (.cells #[.string s] 9)) (.slice (some ⟨w.heap.size,0,none⟩) 1 1) [s] :=
 Zk (l:=[s]) (ZaK w w.heap.size (.string s) Xl)
theorem qp.ptr{w:World}{p:Option Addr}{n c:Nat}{l:List Str}(h:qp w (.slice p n c) l)(A:0<l.length):(∃b o,p=some ⟨b,o,none⟩)/\n=l.length/\n<=c/\c<=maxLen:=by
 rcases h with⟨_,h⟩|⟨a,cap,C,D,E,F⟩
 ·rw[h]at A;simp at A
 ·injection C with G H I
  subst G H I;obtain⟨y,r,rfl⟩:=List.exists_cons_of_ne_nil (List.ne_nil_of_length_pos A);obtain⟨_,_,_,B,_⟩:=F 0 y rfl;exact⟨⟨a.block,a.off,congrArg some B⟩,rfl,D,E⟩
theorem qp.cell{w:World}{b o n c:Nat}{l:List Str}(h:qp w (.slice (some ⟨b,o,none⟩) n c) l){k:Nat}{x:Str}(C:l[k]? = some x):w.cell? ⟨b,o+k,none⟩=some (.string x):=by
 rcases h with⟨h,_⟩|⟨a,cap,E,G,H,F⟩
 ·simp at h
 ·injection E with A
  injection A with A
  subst A;obtain⟨vs,B,_,_,D⟩:=F k x C;unfold qt at B;subst B;have:=D.1;rwa [Nat.mul_one]at this
theorem Z2{w:World}{F:Array Oper}{C:List Oper}{o:Oper}{a:Act}{Q:Exit->Act->World->Prop}(G:o.guard=none)(s x:Operand)(O:o.op=.call { callee:=.builtin .append,args:=#[s,x],argTypes:=#[27,27] })(base:Nat)(v:Value)(n:Nat)(xs:List Value)(P:a.eval s=v)(A:w.ownsRow base 9 1 v n xs)(y:Value)(l:List Str)(R:a.eval x=y)(H:qp w y l)(I:n+l.length<=maxLen)(B:(n+l.length)*16<=140737488355328)(D:base<=w.heap.size)(h:∀E w',w'.ownsRow base 9 1 E (n+l.length) (xs++l.map Value.string)->w.grownBy w' v.ownBlock->(E.ownBlock=v.ownBlock\/E.ownBlock=some w.heap.size)->wpList prog F Q C (a.put o.dst E) w'):
 wpList prog F Q (o::C) a w:=by
 obtain⟨S,T,J,L,M⟩:=info_parts Zae;rcases H with⟨rfl,rfl⟩|⟨N,cap,rfl,_⟩
 ·refine wpList_append_own_none G s x 27 O base 9 S 1 underlying27 T v n xs P A R ?_;exact h v w (by simpa using A) (World.grownBy.refl w _) (Or.inl rfl)
 ·have H:qp w (.slice (some N) l.length cap) l:=Or.inr ⟨N,cap,rfl,by assumption⟩;refine wpList_append_own_at _ G s x 27 O base 9 S (.string .empty) 1 16 underlying27 T J L M rfl (by decide) v n xs P A N l.length cap (l.map Value.string) R (by simp) (zcS H)
   (fun u U=>by obtain⟨x,_,rfl⟩:=List.mem_map.1 U;rfl) I B D fun E w' V X _ Y=>h E w' V X Y
theorem Zda(w:World)(base:Nat)(A:base<=w.heap.size):(w.alloc (.cells #[] 9)).ownsRow base 9 1 (.slice (some ⟨w.heap.size,0,none⟩) 0 0) 0 [] :=
 ⟨rfl,Or.inr ⟨w.heap.size,0,#[],rfl,A,heap_alloc_new _ _,Xl,by decide,rfl,rfl⟩⟩
theorem Zbg(cs:List qa):∀(f:Nat) (n:Str),(Zah cs f n).length<=f+1
 |0,_=>by simp[Zah]
 |f+1,n=>by
  rw[Zah];split
  ·simp
  ·have:=Zbg cs f (Qd cs n).super;simp;omega
theorem Qc6{w:World}{base A:Nat}{e:TypeId}{size:Nat}{v:Value}{n:Nat}{xs:List Value}(h:w.ownsRow base e size v n xs)(D:A<=base):w.ownsRow A e size v n xs:=by
 rcases h with⟨C,E|⟨g,cap,B,F,G,H⟩⟩
 ·exact⟨C,Or.inl E⟩
 ·exact⟨C,Or.inr ⟨g,cap,B,F,Xf D G,H⟩⟩
open Go.RowKit Go.Shelf Go.Lib Go.Sort Tryz
theorem qdq{w:World}{g n:Nat}{A:Array Value}{e:TypeId}{B:Nat×Nat}(d:Array (List UInt8))(C:w.heap[g]? = some (.cells A e B)):
 (putRow encStr (Sort.ahead w n) g 0 d).heap[g]? = some (.cells (putCells encStr 0 d A) e B):=by
 simp[putRow,mapBlock,Sort.ahead,Array.getElem?_modify,C,onCells]
theorem Qct{w:World}{g n:Nat}(d:Array (List UInt8)):w.grownBy (putRow encStr (Sort.ahead w n) g 0 d) (some g):=by
 refine⟨rfl,rfl,rfl,by simp,fun k B A=>?_⟩;have:g≠k:=fun e=>A (by rw[e])
 simp[putRow,mapBlock,Sort.ahead,Array.getElem?_modify,this]
theorem zcu{w:World}{base g cap n:Nat}{e:TypeId}{A:Array Value}{ss ts:List (List UInt8)}(C:ts.length=ss.length)(B:base<=g)(D:w.heap[g]? = some (.cells A e (0,0)))(E:ss.length<=cap)(F:cap<=maxLen)(G:A.size=cap*1):
 (putRow encStr (Sort.ahead w n) g 0 ts.toArray).ownsRow base e 1 (.slice (some ⟨g,0,none⟩) ss.length cap) ss.length (ts.map encStr) :=
 ⟨by simp[C],.inr ⟨g,cap,_,rfl,B,qdq _ D,E,F,by simp[putCells,G],by rw[Nat.mul_one,<-C];exact take_putCells A ts (by omega)⟩⟩
theorem qbn{w:World}{base:Nat}{a:Option Addr}{c:Nat}{l:List Str}(h:w.ownsRow base 9 1 (.slice a l.length c) l.length (l.map Value.string))(I:l.length<=9223372036854775807):
 Calls prog 90 #[.slice a l.length c] w fun e w'=>e=.returned (.tuple #[])/\w'.ownsRow base 9 1 (.slice a l.reverse.length c) l.reverse.length (l.reverse.map Value.string)/\w.grownBy w' (Value.slice a l.length c).ownBlock:=by
 rcases h.2 with⟨D,M⟩|⟨g,cap,N,O,B,H,P,R,S,T⟩
 ·obtain rfl:=List.length_eq_zero_iff.1 M;injection D with D _ U
  subst D U;refine(Tryz.slices_Reverse_string_empty none 0 w).mono ?_;rintro e w'⟨rfl,rfl⟩;exact⟨rfl,h,World.grownBy.refl w' _⟩
 ·injection O with E _ F
  subst E F;have J:=Lib.map_encStr l;have A:(l.map (·.data.toList)).length=l.length:=by simp
  have L:=holds_of_block (ss:=l.map (·.data.toList)) H (by rw[A,J];simpa using T);have G:=Tryz.slices_Reverse_string g 0 c (l.map (·.data.toList)) w L (by rw[A];exact I);rw[A]at G;refine G.mono ?_;rintro e w'⟨rfl,n,rfl⟩;have C:=zcu (n:=n) (ts:=(l.map (·.data.toList)).reverse) (ss:=l.map (·.data.toList)) (by simp) B H (by rw[A];exact P) R S;rw[A]at C;refine⟨rfl,?_,Qct _⟩;have:((l.map (·.data.toList)).reverse.map Proofs.encStr)=l.reverse.map Value.string:=by
   rw[<-List.map_reverse];exact Lib.map_encStr l.reverse
  rw[this]at C;rw[List.length_reverse];exact C
theorem zbf{w:World}{base:Nat}{a:Option Addr}{c n:Nat}{l:List Str}(h:w.ownsRow base 9 1 (.slice a n c) n (l.map Value.string))(A:n=l.length)(B:n<=9223372036854775807):
 Calls prog 90 #[.slice a n c] w fun e w'=>e=.returned (.tuple #[])/\w'.ownsRow base 9 1 (.slice a n c) n (l.reverse.map Value.string)/\w.grownBy w' (Value.slice a n c).ownBlock:=by
 subst A;have:=qbn h B;rwa [List.length_reverse]at this
def QaA(x:Str×QJ):List Value:=Zcm x.1 x.2.name x.2.type
theorem QaO{l:List qa}(h:Qg l){n:Str}(A:(Qb (Za l) n).isSome=true):(zm (Za l) n).length<=13:=by
 have B:=Zbg (Za l) (qi (Za l) n).length n;have C:=(Zo h.closed A).1.length;have D:=h.small;unfold zm;omega
theorem zaP{l:List qa}(C:∀c∈l,Qf c=0)(x:Str):(Qd (Za l) x).fields.length<=8/\(Qd (Za l) x).methods.length<=8:=by
 unfold Qd;cases D:Qb (Za l) x with
 |none=>exact⟨Nat.zero_le _,Nat.zero_le _⟩
 |some c =>
  have A:c∈Za l:=List.mem_of_find?_eq_some D;show c.fields.length<=8/\c.methods.length<=8
  unfold Za at A;rcases List.mem_cons.1 A with rfl|A
  ·exact⟨Nat.zero_le _,Nat.zero_le _⟩
  ·rcases List.mem_cons.1 A with rfl|A
   ·exact⟨Nat.zero_le _,Nat.zero_le _⟩
   ·have h:=C c A;unfold Qf at h;split at h
    ·cases h
    ·split at h
     ·rename_i B;exact absurd h B
     ·split at h
      ·cases h
      ·rename_i B;omega
theorem ZcL(cs:List qa)(l:List Str)(k:Nat)(c:Str)(h:l[k]? = some c):zQ cs (l.take (k+1))=zQ cs (l.take k)++qas cs c:=by
 obtain⟨A,rfl⟩:=List.getElem?_eq_some_iff.1 h;rw[List.take_succ_eq_append_getElem A,Qau,qaP]
theorem ZbS{α β:Type}(f:α->β)(l:List α)(j:Nat)(x:α)(h:l[j]? = some x):(l.take (j+1)).map f=(l.take j).map f++[f x]:=by
 obtain⟨A,rfl⟩:=List.getElem?_eq_some_iff.1 h;rw[List.take_succ_eq_append_getElem A,List.map_append];rfl
theorem Zbx{l:List qa}(C:Qg l)(B:∀c∈l,Qf c=0){c:Str}(D:(Qb (Za l) c).isSome=true):(qW (Za l) c).length<=4194304:=by
 have G:=QaO C D;have E:∀A:List Str,(zQ (Za l) A).length<=8*A.length:=fun A=>by
  induction A with
  |nil=>exact Xl
  |cons a r H =>
   have:=(zaP B a).1;rw[show a::r=[a]++r from rfl,Qau,qaP,List.length_append];unfold qas;rw[List.length_map,List.length_append,List.length_singleton];omega
 have F:=E (zm (Za l) c).reverse;rw[List.length_reverse]at F;unfold qW;omega
def Zbn{α:Type}(f:α->List Value)(t:TypeId)(w:World)(l:List α)(e:Ending)(w':World):Prop:=(∃v,e=.returned v/\w'.ownsRow w.heap.size t 3 v l.length (l.flatMap f))/\Below w.heap.size w w'
set_option maxRecDepth 100000
theorem qbS(w0 w:World)(B:Nat)(l:List qa)(S:qh w0 w B l)(c:Str)(r:(Qb (Za l) c).isSome=true):
 Calls prog 148 #[.map (some B),.string c] w (Zbn QaA 207 w (qW (Za l) c)):=by
 have HL:=Xh (qa7 w0 w B l S.right S.map c r);have HKn:Hid (∀d∈(zm (Za l) c).reverse,(Qb (Za l) d).isSome=true):=fun d hd=>S.right.line_known r (List.mem_reverse.1 hd)
 have HLk:Hid (∀d:Str,(Qb (Za l) d).isSome=true->_):=fun d hd=>S.map.look3 S.right.nodup d (S.map.names hd)
 have HB0:=Xh S.map.below;have HCt:Hid (∀d,(Qd (Za l) d).fields.length<=8):=fun d=>(zaP S.faults d).1
 have s:=QaO S.right r;have hcf:=ZbR;have t:Hid (qW (Za l) c=zQ (Za l) (zm (Za l) c).reverse):=rfl;have y:(zm (Za l) c).reverse.length=(zm (Za l) c).length:=List.length_reverse;clear S r;generalize qW (Za l) c=res at *;go_enter func148,ntmps148;go_wp2_with (first
  |(go_fit HL.out;rintro e w3⟨⟨v3,rfl,Y⟩,m⟩;obtain⟨pv,kv,rfl⟩:=Ze Y;(have z:=Xh (qbn Y (by omega))))
  |(go_fit z.out;rintro e Z⟨rfl,hv4,hg4⟩))
 rw[<-y];have aA:=m.grown hg4 m.size (fun g hg=>(Y.lt g hg).1);have aB:=Zk hv4;have hr13:(zm (Za l) c).reverse.length<=13:=by omega
 clear HL Y hg4 m z y hv4 s;generalize (zm (Za l) c).reverse=R at *;obtain⟨pv',kv',he,h1,h2,hcc⟩:=aB.open;injection he with n p q
 subst n q;clear p aB;have HC:=Xh hcc;have hlen:R.length<=9223372036854775807:=Xf h1 h2;have U:=Xh aA;clear hcc aA;go_loopw [5,18] (fun v x wr=>∃(k:Nat) (D:List (Str×QJ)),k<=R.length/\Hid (zQ (Za l) (R.take k)=D)/\Hid (D.length<=8*k)/\wr.ownsRow Z.heap.size 207 3 v D.length (D.flatMap QaA)/\Below Z.heap.size Z wr/\x=.int .i64 k) (fun _ x _=>R.length-(intOf x).toNat)
 case atStart=>exact⟨0,[],by omega,rfl,Nat.zero_le _,QbP _ _ _,Xb,rfl⟩
 case round =>
  obtain⟨k,D,r,C,E,A,I,rfl⟩:=hrel;obtain⟨va,vc,rfl⟩:=Ze A;by_cases hkl:k<R.length
  ·obtain⟨a,ha⟩:∃a,R[k]? = some a:=⟨R[k],by simp[hkl]⟩;have aC:=HKn.out a (Xe ha);obtain⟨b,o,vs,rfl,hR,_,i⟩:=HC.out k a ha;unfold qt at hR;subst hR;have c0:=(i.mono I i.lt).1;rw[Nat.mul_one]at c0;have zd:=ZcL (Za l) R k a ha;rw[C.out]at zd;obtain⟨p1,k1,p2,k2,p3,k3,_,X,_,hlk⟩:=HLk.out a aC;have H:=(hlk wr (Qa U Xl I)).2;have hc0:(Qb (Za l) a).getD qg=Qd (Za l) a:=rfl;rw[hc0]at H X;have hct:=HCt.out a;have HX:=Xh ha;unfold qas at zd;clear ha i hlk hc0 aC C;generalize Qd (Za l) a=d at *;obtain⟨n2,s2,f2,b2,T,m2⟩:=d;unfold Zu at H;dsimp only at H X zd hct;obtain⟨pd',kd',he,g1,g2,hdd⟩:=X.open;injection he with n p q
   subst n q;clear p X;have HD:=Xh hdd;have hlen2:T.length<=9223372036854775807:=Xf g1 g2;clear hdd;have HS:=Xh zd;have HO:=Xh A;have HBr:=Xh I;clear zd A I;go_wp2_with fail;go_loopw [5,27] (fun v x wy=>∃(j:Nat) (J:List (Str×QJ)),j<=T.length/\Hid (D++(T.take j).map (fun f=>(a,f))=J)/\Hid (J.length<=8*k+j)/\wy.ownsRow Z.heap.size 207 3 v J.length (J.flatMap QaA)/\Below Z.heap.size Z wy/\x=.int .i64 j) (fun _ x _=>T.length-(intOf x).toNat)
   case atStart=>exact⟨0,D,by omega,by unfold Hid;simp,E,HO,HBr,rfl⟩
   case round =>
    clear c0 H HO HBr E;obtain⟨j,J,hj,C,E,A,I,rfl⟩:=hrel;obtain⟨va,vc,rfl⟩:=Ze A;by_cases hjl:j<T.length
    ·obtain⟨f,hf⟩:∃a,T[j]? = some a:=⟨T[j],by simp[hjl]⟩;obtain⟨bb,oo,vs,rfl,hR,_,i⟩:=HD.out j f hf;unfold ZN at hR;subst hR;obtain⟨u0,u1,_⟩:=i.mono (Qa HB0 Xl (Qa U Xl I)) i.lt;have F:Hid (D++(T.take (j+1)).map (fun f=>(a,f))=J++[(a,f)]):=by
      unfold Hid;rw[ZbS _ T j f hf,<-List.append_assoc,C.out]
     have HXf:=Xh hf;have hbd:J.length<=8388608:=(by have:=E.out;omega);have L:Hid ((J++[(a,f)]).length<=8*k+(j+1)):=(by unfold Hid;have:=E.out;simp;omega);have G:=A.alloc (.cells #[.string f.name,.string f.type] 118);have h:=I.alloc I.size (.cells #[.string f.name,.string f.type] 118);have V:=Xh h;have hbs:=h.size;clear hf i C E A h I;go_wp2_with (at_builtin;(refine ZaU underlying204 zda rfl _ _ rfl Z.heap.size _ _ _ rfl G _ _ _ _ (World.size_alloc _ _) rfl hbd hbs ?_);intro v3 w6 P hg3)
     have M:w6.ownsRow Z.heap.size 207 3 v3 (J++[(a,f)]).length ((J++[(a,f)]).flatMap QaA):=by
      rw[List.length_append,List.flatMap_append];simpa[QaA] using P
     have hB6:=(V.out.alloc V.out.size (.cells (Zcm a f.name f.type).toArray 207)).grown hg3 (Xf V.out.size (by simp)) (fun g hg=>(G.lt g hg).1);have N:=Xh M;have O:=Xh hB6;clear P hg3 G M hB6 V;go_roundw;case rel=>exact⟨j+1,_,by omega,F,L,N,O,by simp⟩
     case measure=>simp[intOf];omega
    ·obtain rfl:j=T.length:=(by omega);have F:Hid (zQ (Za l) (R.take (k+1))=J):=by
      unfold Hid;rw[HS.out,<-C.out,List.take_of_length_le Xl]
     have L:Hid (J.length<=8*(k+1)):=(by unfold Hid;have:=E.out;omega);have N:=Xh A;have O:=Xh I;clear C E A I;go_wp2_with fail;go_roundw;case rel=>exact⟨k+1,J,by omega,F,L,N,O,by simp⟩
     case measure=>simp[intOf];omega
  ·obtain rfl:k=R.length:=(by omega);have hfin:Hid (res=D):=(by unfold Hid;rw[t.out,<-C.out,List.take_of_length_le Xl]);have N:=Xh A;have O:=Xh I;clear C E A I;go_wp2_with fail;go_ret;exact⟨⟨_,rfl,by rw[hfin.out];exact ZX N.out U.out.size⟩,Qa U Xl O⟩
theorem Zch(x:Str×QJ):(QaA x).length=3:=rfl
theorem Zcu{w:World}{base:Nat}{p:Option Addr}{c n:Nat}{l:List (Str×QJ)}(h:w.ownsRow base 207 3 (.slice p n c) n (l.flatMap QaA))(B:n=l.length){i:Nat}{x:Str×QJ}(C:l[i]? = some x):
 ∃g,p=some ⟨g,0,none⟩/\g<w.heap.size/\w.cell? ⟨g,i*3,none⟩=some (.string x.1)/\w.cell? ⟨g,i*3+1,none⟩=some (.string x.2.name)/\w.cell? ⟨g,i*3+2,none⟩=some (.string x.2.type):=by
 obtain⟨g,D,_,E,A⟩:=ZaY Zch h B C;exact⟨g,D,E,A 0 (by omega),A 1 (by omega),A 2 (by omega)⟩
theorem QbS(j w:World)(B:Nat)(l:List qa)(V:qh j w B l)(c:Str)(X:(Qb (Za l) c).isSome=true):
 Calls prog 116 #[.map (some B),.string c] w (zbq w (Zq (qW (Za l) c))):=by
 have b:=Xh (qbS j w B l V c X);have Y:=Zbx V.right V.faults X;unfold Zbn at b;unfold zbq;clear V X;generalize qW (Za l) c=S at *;go_enter func116,ntmps116;go_wp2_with (go_fit b.out;rintro e R⟨⟨v2,rfl,N⟩,T⟩;obtain⟨z,kv,rfl⟩:=Ze N)
 have m:=Xh N;have O:=Xh T;clear N T b;go_loopw [5,12] (fun v x wr=>∃k:Nat,k<=S.length/\wr.ownsRow R.heap.size 9 1 v k ((Zq (S.take k)).map Value.string)/\Below R.heap.size R wr/\x=.int .i64 k) (fun _ x _=>S.length-(intOf x).toNat)
 case atStart=>exact⟨0,by omega,QdN _ _,Xb,rfl⟩
 case round =>
  obtain⟨k,X,A,H,rfl⟩:=hrel;obtain⟨va,vc,rfl⟩:=Ze A;by_cases d:k<S.length
  ·obtain⟨⟨a,f⟩,Z⟩:∃x,S[k]? = some x:=⟨S[k],by simp[d]⟩;obtain⟨g,rfl,G,u0,u1,u2⟩:=Zcu m.out rfl Z;have r:=(H.cell (p:=⟨g,k*3,none⟩) G).trans u0;have s:=(H.cell (p:=⟨g,k*3+1,none⟩) G).trans u1;have t:=(H.cell (p:=⟨g,k*3+2,none⟩) G).trans u2;have I:Hid ((Zq (S.take (k+1))).map Value.string=(Zq (S.take k)).map Value.string++[.string f.type]):=by
    unfold Hid Zq;rw[ZbS _ S k _ Z,List.map_append];rfl
   have C:=A.alloc (.cells #[.string a,.string f.name,.string f.type] 207);have J:=H.alloc H.size (.cells #[.string a,.string f.name,.string f.type] 207);have h:k<=8388608:=(by omega);have i:=J.size;have y:=Xh Z;have F:=Xh J;clear u0 u1 u2 Z A H J G;dsimp only at *;go_wp2_with (at_builtin;(refine QbA rfl _ _ rfl R.heap.size _ _ _ rfl C f.type _ (World.size_alloc _ _) rfl h i ?_);intro n o E U)
   have D:o.ownsRow R.heap.size 9 1 n (k+1) ((Zq (S.take (k+1))).map Value.string):=(by rw[I.out];exact E);have P:=(F.out.alloc F.out.size (.cells #[.string f.type] 9)).grown U (Xf F.out.size (by simp)) (fun g q=>(C.lt g q).1);have L:=Xh D;have M:=Xh P;clear E U C D P F;go_roundw;case rel=>exact⟨k+1,by omega,L,M,by simp⟩
   case measure=>simp[intOf];omega
  ·obtain rfl:k=S.length:=(by omega);rw[List.take_of_length_le Xl]at A;have L:=Xh A;have M:=Xh H;clear A H;go_wp2_with fail;go_ret;exact⟨⟨_,rfl,by rw[Zbq];exact ZX L.out O.out.size⟩,Qa O Xl M⟩
theorem zdO{α:Type}[DecidableEq α](x:α)(l:List α)(k:Nat)(y:α)(h:l[k]? = some y):qX x (l.drop k)=if x=y then some 0 else (qX x (l.drop (k+1))).map (· + 1):=by
 obtain⟨A,rfl⟩:=List.getElem?_eq_some_iff.1 h;rw[List.drop_eq_getElem_cons A];rfl
theorem qcL(S:List (Str×QJ))(base:Nat)(p:Option Addr)(cap:Nat)(x:Str×QJ)(w:World)(h:w.ownsRow base 207 3 (.slice p S.length cap) S.length (S.flatMap QaA))(P:S.length<=4194304):
 Calls prog 151 #[.slice p S.length cap,.agg #[.string x.1,.string x.2.name,.string x.2.type]] w fun e w'=>e=.returned (.int .i64 (qfs (qX x S)))/\Below w.heap.size w w':=by
 obtain⟨a,f⟩:=x;have R:=Xh h;have C:=Zdq w #[.string a,.string f.name,.string f.type] 207;have L:Hid (zL _ _ _):=C;have T:=C.below;clear h;dsimp only at *;go_enter func151,ntmps151;go_wp2_with fail;go_loopw [8] (fun y wr=>∃k:Nat,k<=S.length/\Hid ((qX (a,f) (S.drop k)).map (k + ·)=qX (a,f) S)/\zL w wr [.string a,.string f.name,.string f.type]/\y=.int .i64 k) (fun y _=>S.length-(intOf y).toNat)
 case atStart=>exact⟨0,by omega,by unfold Hid;rw[List.drop_zero];cases qX (a,f) S<;>simp,L,rfl⟩
 case round =>
  clear C T;obtain⟨k,c,D,C,rfl⟩:=hrel;by_cases M:k<S.length
  ·obtain⟨⟨b,g⟩,J⟩:∃x,S[k]? = some x:=⟨S[k],by simp[M]⟩;obtain⟨q,rfl,E,u0,u1,u2⟩:=Zcu R.out rfl J;have V:=(C.below.cell (p:=⟨q,k*3,none⟩) E).trans u0;have X:=(C.below.cell (p:=⟨q,k*3+1,none⟩) E).trans u1;have Y:=(C.below.cell (p:=⟨q,k*3+2,none⟩) E).trans u2;obtain⟨d,i,l,_⟩:=C.cells;have F:=zdO (a,f) S k (b,g) J;have N:=ZeM a f.name f.type b g.name g.type;have G:((a,f.name,f.type)=(b,g.name,g.type))↔(a,f)=(b,g):=by
    obtain⟨m,n⟩:=f;obtain⟨o,r⟩:=g;simp
   rw[show decide ((a,f.name,f.type)=(b,g.name,g.type))=decide ((a,f)=(b,g)) from by rw[Bool.eq_iff_iff];simp only[decide_eq_true_eq];exact G]at N;have Z:=Xh J;clear J u0 u1 u2 G;dsimp only at *;by_cases A:(a,f)=(b,g)
   ·rw[if_pos A]at F;rw[Xj A]at N;have H:Hid (qX (a,f) S=some k):=(by unfold Hid;rw[<-D.out,F];simp);have B:=Xh C;clear F A D C;go_upto_region 4 with fail;go_quiet (fail);go_wp2_with fail;go_ret;exact⟨by rw[H.out];rfl,below_drewN B.out.below _⟩
   ·rw[if_neg A]at F;rw[Xi A]at N;have O:Hid ((qX (a,f) (S.drop (k+1))).map (k+1 + ·)=qX (a,f) S):=by
     unfold Hid;rw[<-D.out,F];cases qX (a,f) (S.drop (k+1)) with
     |none=>rfl
     |some j=>simp;omega
    have B:=Xh C;clear F A D C;go_upto_region 4 with fail;go_quiet (fail);go_wp2_with fail;go_roundw;case rel=>exact⟨k+1,by omega,O.out,B.out.step (below_drewN Xb _),by simp⟩
    case measure=>simp[intOf];omega
  ·obtain rfl:k=S.length:=(by omega);have I:qX (a,f) S=none:=(by rw[<-D.out,Xg Xl];rfl);have U:=Xh I;have B:=Xh C;clear I D C;go_wp2_with fail;go_ret;exact⟨by rw[U.out];rfl,B.out.below⟩
structure Val where
 kind:Int
 n:Int
 deriving DecidableEq
structure Zc where
 type:Str
 has:List Val
 deriving DecidableEq
def Zci:List UInt8->Ty
 |[]=>.i
 |c::r=>if c=73 then .i else if c=74 then .j else if c=91 then .ar (Zci r) else .cl (str (r.take (r.length-1)))
theorem qcu:∀x:Ty,Zci (qe x)=x
 |.i=>rfl
 |.j=>rfl
 |.ar x=>by
  show(if (91:UInt8)=73 then Ty.i else if (91:UInt8)=74 then Ty.j else if (91:UInt8)=91 then .ar (Zci (qe x)) else _)=_
  rw[if_neg (by decide),if_neg (by decide),if_pos rfl,qcu x]
 |.cl c=>by
  show(if (76:UInt8)=73 then Ty.i else if (76:UInt8)=74 then Ty.j else if (76:UInt8)=91 then _ else Ty.cl (str ((lst c++[59]).take ((lst c++[59]).length-1))))=_
  rw[if_neg (by decide),if_neg (by decide),if_neg (by decide)];simp;rfl
def Qz(k:Str):Ty:=Zci (lst k)
theorem zU{k:Str}{x:Ty}(h:qe x=lst k):Qz k=x:=by unfold Qz;rw[<-h,qcu]
def Zn(cs:List qa)(h:List Zc)(v:Val)(y:Ty):Bool :=
 if v.kind=1 then decide (y=.i)&&(decide (-2147483648<=v.n)&&decide (v.n<=2147483647))
 else if v.kind=2 then decide (y=.j)
 else if v.kind=3 then Qm y&&(decide (0<=v.n)&&decide (v.n<=(h.length:Int)))&&(decide (v.n=0)||match h[v.n.toNat-1]? with
  |some x=>ZB cs (Qz x.type) y
  |none=>false)
 else false
def zO(cs:List qa)(x:Zc):List Str :=
 match Qz x.type with
 |.ar e=>List.replicate x.has.length (str (qe e))
 |.cl c=>Zq (qW cs c)
 |_=>[]
def qz(cs:List qa)(x:Zc):Nat :=
 if !QcL (lst x.type) then 1
 else if Zg cs x.type≠0 then Zg cs x.type
 else match Qz x.type with
  |.ar _=>if 10<x.has.length then 8 else 0
  |.cl c=>if (Qd cs c).face then 7 else if (Zq (qW cs c)).length≠x.has.length then 8 else 0
  |_=>1
def Zaa(cs:List qa)(h:List Zc)(x:Zc):Bool:=(x.has.zip (zO cs x)).all fun p=>Zn cs h p.1 (Qz p.2)
def Zy(cs:List qa)(h:List Zc):Nat :=
 if 50<h.length then 4
 else if Zh (qz cs) h≠0 then Zh (qz cs) h
 else if h.all (Zaa cs h) then 0 else 7
structure Qab (cs:List qa) (x:Zc) (t:Ty):Prop where
 text:qe t=lst x.type
 good:ZP cs t=true
 ref:Qm t=true
 deep:qD t<=3
theorem Qab.of{cs:List qa}{x:Zc}{t:Ty}(h:Qab cs x t):Qz x.type=t:=zU h.text
theorem ZdO{cs:List qa}{x:Zc}(A:QcL (lst x.type)=true)(D:Zg cs x.type=0):∃t,Qab cs x t:=by
 obtain⟨k,B⟩:=QT D;have E:=qbg B D;obtain⟨B,F⟩:=B;unfold QcL at A;rw[Bool.and_eq_true]at A;cases k with
 |n=>rw[<-B]at A;exact absurd A.1 (by decide)
 |t=>rw[<-B]at A;exact absurd A.1 (by decide)
 |ty t =>
  refine⟨t,B,F,?_,E⟩;have C:=A.2;rw[<-B]at C;change (!QX (qe t))=true at C;rw[qa8]at C;simpa using C
theorem qK{cs:List qa}{x:Zc}(h:qz cs x=0):QcL (lst x.type)=true/\Zg cs x.type=0/\∃t,Qab cs x t:=by
 unfold qz at h;cases B:QcL (lst x.type) with
 |false=>rw[B]at h;cases h
 |true =>
  rw[B,if_neg (by decide)]at h;by_cases A:Zg cs x.type=0
  ·exact⟨rfl,A,ZdO B A⟩
  ·rw[if_pos A]at h;exact absurd h A
theorem QaY{cs:List qa}{x:Zc}(h:qz cs x=0):(zO cs x).length=x.has.length:=by
 obtain⟨D,E,t,F⟩:=qK h;unfold qz at h;rw[D,if_neg (by decide),if_neg (by rw[E];decide)]at h;unfold zO;cases A:Qz x.type with
 |i=>rw[A]at h;cases h
 |j=>rw[A]at h;cases h
 |ar e=>simp
 |cl c =>
  rw[A]at h;dsimp only at h ⊢;by_cases B:(Qd cs c).face=true
  ·rw[if_pos B]at h;cases h
  ·rw[if_neg B]at h;by_cases C:(Zq (qW cs c)).length=x.has.length
   ·exact C
   ·rw[if_pos C]at h;cases h
theorem ZaM{α:Type}{f:α->Nat}:∀{l:List α},Zh f l=0->∀x∈l,f x=0
 |[],_,_,h=>by cases h
 |y::r,h,x,B=>by
  unfold Zh at h;by_cases A:f y=0
  ·rw[if_pos A]at h;rcases List.mem_cons.1 B with rfl|B
   ·exact A
   ·exact ZaM h x B
  ·rw[if_neg A]at h;exact absurd h A
def Qai(cs:List qa)(h:List Zc):Prop:=∀x∈h,qz cs x=0
theorem z7{cs:List qa}{h:List Zc}(g:Zy cs h=0):h.length<=50/\Qai cs h/\h.all (Zaa cs h)=true:=by
 unfold Zy at g;by_cases B:50<h.length
 ·rw[if_pos B]at g;cases g
 ·rw[if_neg B]at g;by_cases A:Zh (qz cs) h=0
  ·rw[if_neg (by rw[A];decide)]at g;cases C:h.all (Zaa cs h) with
   |true=>exact⟨by omega,ZaM A,rfl⟩
   |false=>rw[C]at g;cases g
  ·rw[if_pos A]at g;exact absurd g A
theorem Qcu{l:List qa}(M:Qg l){h:List Zc}(N:Qai (Za l) h){v:Val}{a b:Ty}(A:Zn (Za l) h v a=true)(E:ZB (Za l) a b=true):Zn (Za l) h v b=true:=by
 unfold Zn at A ⊢;have O:=qbI E;split
 ·rename_i I;rw[if_pos I,Bool.and_eq_true]at A;have F:=Xm A.1;subst F;have G:b=.i:=by cases b<;>first|rfl|(simp[ZB]at E)
  rw[A.2,G];rfl
 ·rename_i I;rw[if_neg I]at A;split
  ·rename_i C;rw[if_pos C]at A;have F:=Xm A;subst F;have G:b=.j:=(by cases b<;>first|rfl|(simp[ZB]at E));rw[G];rfl
  ·rename_i C;rw[if_neg C]at A;split
   ·rename_i D;rw[if_pos D,Bool.and_eq_true,Bool.and_eq_true]at A;obtain⟨⟨P,R⟩,B⟩:=A;rw[<-O,P,R,Bool.true_and,Bool.true_and];by_cases J:v.n=0
    ·rw[Xj J,Bool.true_or]
    ·rw[Xi J,Bool.false_or]at B ⊢;cases H:h[v.n.toNat-1]? with
     |none=>rw[H]at B;cases B
     |some x =>
      rw[H]at B;dsimp only at B ⊢;obtain⟨_,_,t,L⟩:=qK (N x (Xe H));rw[L.of]at B ⊢;exact QaP M L.good B E
   ·rename_i D;rw[if_neg D]at A;cases A
def QG(t:Str):Val:=if lst t=[73] then ⟨1,0⟩ else if lst t=[74] then ⟨2,0⟩ else ⟨3,0⟩
def qaM(c:Str):Str:=str (76::(lst c++[59]))
def qU(cs:List qa)(c:Str):Zc:=⟨qaM c,(Zq (qW cs c)).map QG⟩
def QaF(k:Str)(n:Nat):Zc:=⟨str (91::lst k),List.replicate n (QG k)⟩
def zbT(v:Val):Value:=.agg #[.int .i64 v.kind,.int .i64 v.n]
def qy(v:Val)(vs:List Value):Prop:=vs=[.int .i64 v.kind,.int .i64 v.n]
def Qbg(w:World)(x:Zc)(vs:List Value):Prop:=∃hv,vs=[.string x.type,hv]/\Qe w 2 qy hv x.has
def Qa8(w:World)(v:Value)(h:List Zc):Prop:=Qe w 2 (Qbg w) v h
theorem Qbg.mono{w w':World}(A:Below w.heap.size w w'){x:Zc}{vs:List Value}:Qbg w x vs->Qbg w' x vs
 |⟨B,C,D⟩=>⟨B,C,D.mono A (by decide) (fun _ _ h=>h)⟩
theorem Qa8.mono{w w':World}(A:Below w.heap.size w w'){v:Value}{h:List Zc}(B:Qa8 w v h):Qa8 w' v h:=Qe.mono A (by decide) (fun _ _ h=>h.mono A) B
def qfj(cs:List qa)(h:List Zc):Prop:=∀x∈h,∃t,Qab cs x t
def Qfj(h:List Zc):Prop:=∀x∈h,x.type.size<=maxLen
theorem qe7(n:Int):(n==wrap32 n)=(decide (-2147483648<=n)&&decide (n<=2147483647)):=by
 rw[Bool.eq_iff_iff,beq_iff_eq,Bool.and_eq_true,decide_eq_true_eq,decide_eq_true_eq];unfold wrap32;omega
theorem qeh(n:Int):wrap64 (wrap32 n)=wrap32 n:=by
 unfold wrap64 wrap32;omega
theorem qeM(n:Int)(w:World):Calls prog 50 #[.int .i64 n] w fun e w'=>e=.returned (.int .i64 (wrap32 n))/\w=w':=by
 go_enter func50,ntmps50;go_wp2
 go_ret;exact⟨by show Ending.returned (Value.int IntKind.i64 (wrap64 (wrap32 n)))=_;rw[qeh],rfl⟩
theorem ZbT(w0 w:World)(B:Nat)(l:List qa)(G:qh w0 w B l)(h:List Zc)(f:Value)(H:Qa8 w f h)(I:qfj (Za l) h)(J:Qfj h)(v:Val)(t:Str)(y:Ty)(V:qe y=lst t)(D:t.size<=maxLen):
 Calls prog 29 #[.map (some B),.agg #[f],zbT v,.string t] w fun e w'=>e=.returned (.bool (Zn (Za l) h v y))/\Below w.heap.size w w':=by
 have M:=Qas (x:=.ty y) V (.ty .i);have O:=Qas (x:=.ty y) V (.ty .j);have F:Hid (∀wx,_):=fun wx=>QL t (.ty y) wx V
 simp only[Qo,qe,Kd.ty.injEq,zA]at M O F;obtain⟨p,c,rfl,z,aA,E⟩:=H.open;have HC:=Xh E;have hlen:h.length<=9223372036854775807:=Xf z aA;obtain⟨k,n⟩:=v;unfold zbT Zn;dsimp only;have A:Below w.heap.size w ((w.alloc (.cells #[.slice p h.length c] 78)).alloc (.cells #[.int .i64 k,.int .i64 n] 43)):=(Xb.alloc Xl _).alloc (by simp) _;have C:=Xh A;by_cases P:k=1
 ·subst P;rw[if_pos rfl];have hw:=qe7 n;have HW:Hid (∀wx,Calls prog 50 #[.int .i64 n] wx fun e w'=>e=.returned (.int .i64 (wrap32 n))/\w'=wx):=fun wx=>(qeM n wx).mono fun _ _ ⟨h,g⟩=>⟨h,g.symm⟩
  rw[<-hw];clear G H I J E hw A D;cases a:decide (y=Ty.i) with
  |true =>
   rw[a]at M;clear a;generalize wrap32 n=m at *;obtain⟨q,hq⟩:∃q,(n==m)=q:=⟨_,rfl⟩;rw[hq];go_enter func29,ntmps29;go_upto_region 3 with fail;go_quiet ((go_at_call 50;with_reducible exact Calls.quiet_of_same (HW.out _)));go_wp2_with fail;go_ret;exact⟨rfl,below_drewN C.out _⟩
  |false =>
   rw[a]at M;clear a;go_enter func29,ntmps29;go_upto_region 3 with fail;go_quiet (fail);go_wp2_with fail;go_ret;exact⟨rfl,below_drewN C.out _⟩
 ·rw[if_neg P];have q1:((k:Int)==1)=false:=by simpa using P
  by_cases S:k=2
  ·subst S;rw[if_pos rfl];clear G H I J E A D P q1;generalize decide (y=Ty.j)=q at *;go_enter func29,ntmps29;go_wp2_with fail;go_ret;exact⟨rfl,C⟩
  ·rw[if_neg S];have q2:((k:Int)==2)=false:=(by simpa using S);by_cases X:k=3
   ·subst X;rw[if_pos rfl];clear P S q1 q2;cases N:Qm y with
    |false =>
     rw[N]at F;rw[Bool.false_and,Bool.false_and];clear G H I J E A D N M O;go_enter func29,ntmps29;go_wp2_with (go_fit (F.out _);rintro e d⟨rfl,rfl⟩)
     go_ret;exact⟨rfl,C⟩
    |true =>
     rw[N]at F;rw[Bool.true_and];by_cases r:0<=n
     ·by_cases hl:n<=(h.length:Int)
      ·rw[Xj r,Xj hl,Bool.true_and,Bool.true_and];have s:decide (n<0)=false:=(by simp;omega);have z2:decide ((h.length:Int)<n)=false:=(by simp;omega);by_cases Y:n=0
       ·subst Y;rw[Xj rfl,Bool.true_or];clear G H I J E A D N M O s;go_enter func29,ntmps29;go_wp2_with (go_fit (F.out _);rintro e d⟨rfl,rfl⟩)
        all_goals first|(exfalso;omega)|skip
        go_ret;exact⟨rfl,C⟩
       ·rw[Xi Y,Bool.false_or];obtain⟨j,rfl⟩:∃j:Nat,n=(j:Int)+1:=⟨n.toNat-1,by omega⟩;have hj:j<h.length:=(by omega);have T:((j:Int)+1).toNat-1=j:=(by omega);obtain⟨x,R⟩:∃x,h[j]? = some x:=⟨h[j],by simp[hj]⟩;rw[T,R];obtain⟨tx,L⟩:=I x (Xe R);have U:=J x (Xe R);dsimp only;rw[L.of];obtain⟨b,o,vs,rfl,⟨f,rfl,_⟩,_,Z⟩:=HC.out j x R;have Z:=Z.mono A Z.lt;obtain⟨c0,c1,_⟩:=Z;have HD:Hid (∀wx,Below w.heap.size w wx->_):=fun wx hb=>zd9 w0 B l tx wx x.type t y (G.step hb) L.text V L.good U D
        have HX:=Xh R;have z3:((j:Int)+1==0)=false:=(by simpa using Y);clear G H I J E A D N M O T L U R r Y;generalize ZB (Za l) tx y=q at *;go_enter func29,ntmps29;go_wp2_with (first
         |(go_fit (F.out _);rintro e d⟨rfl,rfl⟩)
         |(go_fit (HD.out _ C.out);rintro e w4⟨rfl,aB⟩))
        all_goals first|(exfalso;omega)|skip
        go_ret;exact⟨rfl,Qa C Xl aB⟩
      ·rw[Xi hl,Bool.and_false,Bool.false_and];have s:decide (n<0)=false:=(by simp;omega);have z2:decide ((h.length:Int)<n)=true:=(by simp;omega);clear G H I J E A D N M O;go_enter func29,ntmps29;go_wp2_with (go_fit (F.out _);rintro e d⟨rfl,rfl⟩)
       all_goals first|(exfalso;omega)|skip
       go_ret;exact⟨rfl,C⟩
     ·rw[Xi r,Bool.false_and,Bool.false_and];have s:decide (n<0)=true:=(by simp;omega);clear G H I J E A D N M O;go_enter func29,ntmps29;go_wp2_with (go_fit (F.out _);rintro e d⟨rfl,rfl⟩)
      all_goals first|(exfalso;omega)|skip
      go_ret;exact⟨rfl,C⟩
   ·rw[if_neg X];have q3:((k:Int)==3)=false:=(by simpa using X);clear G H I J E A D P S X;go_enter func29,ntmps29;go_wp2_with fail;go_ret;exact⟨rfl,C⟩
theorem ten{n:Nat}(h:n<=10):n=0\/n=1\/n=2\/n=3\/n=4\/n=5\/n=6\/n=7\/n=8\/n=9\/n=10:=by omega
theorem Qeh(n:Nat)(A:n<=10)(w:World):Calls prog 200 #[.int .u64 1,.int .u64 n] w fun e w'=>e=.returned (.tuple #[.int .u64 0,.int .u64 n])/\w=w':=by
 rcases ten A with rfl|rfl|rfl|rfl|rfl|rfl|rfl|rfl|rfl|rfl|rfl;all_goals
  clear A;go_enter func200,ntmps200;go_wp2
  go_ret2;exact⟨rfl,rfl⟩
theorem Qe7(n:Nat)(A:n<=10)(w:World):Calls prog 196 #[.int .u64 1,.int .u64 n] w fun e w'=>e=.returned (.tuple #[.int .u64 0,.int .u64 n])/\w=w':=by
 have H:=Xh (Qeh n A w);clear A;go_enter func196,ntmps196;go_wp2_with (go_fit H.out;rintro e B⟨rfl,rfl⟩)
 go_ret2;exact⟨rfl,rfl⟩
theorem QeM:(prog.info? 9).map (fun i=>(i.zero,i.size,i.bytes))=some (some (.string ⟨#[]⟩),1,16):=by kernel_rfl
theorem zeN:(prog.info? 9).map (·.size)=some 1:=by kernel_rfl
theorem zei(n:Nat)(A:n<=16777216)(w:World):(Instr.makeSlice 27 (.int .i64 (n:Int)) (.int .i64 (n:Int))).run prog w=.ok (.slice (some ⟨w.heap.size,0,none⟩) n n) (w.alloc (.cells (Array.replicate n (Value.string ⟨#[]⟩)) 9)):=by
 rw[run_make_row' 27 9 (.string ⟨#[]⟩) 16 underlying27 QeM rfl .i64 .i64 n (by omega) (by omega) w];have h:madeCells #[Value.string ⟨#[]⟩] n=Array.replicate n (Value.string ⟨#[]⟩):=by
  apply Array.toList_inj.1;rw[toList_madeCells_one,Array.toList_replicate]
 rw[h]
theorem qda(n:Nat)(a z:Value):splice (List.replicate n z) 0 (List.replicate (min 1 n) a)=List.replicate (min 1 n) a++List.replicate (n-min 1 n) z:=by
 unfold splice;rw[List.take_zero,List.nil_append,List.drop_replicate,List.length_replicate,Nat.zero_add]
theorem Qdq(n k:Nat)(C:k<n)(a z:Value):splice (List.replicate k a++List.replicate (n-k) z) k (List.replicate (min k (n-k)) a)=List.replicate (k+min k (n-k)) a++List.replicate (n-(k+min k (n-k))) z:=by
 unfold splice;rw[List.take_append_of_le_length (by simp),List.take_of_length_le (by simp),List.length_replicate,<-List.append_assoc,List.replicate_append_replicate];congr 1;rw[List.drop_append,List.drop_replicate,List.drop_replicate,List.length_replicate];have A:k-(k+min k (n-k))=0:=by omega
 have B:n-k-(k+min k (n-k)-k)=n-(k+min k (n-k)):=by omega
 rw[A,B];rfl
theorem qdO(s:Str)(n:Nat)(hn:n<=10)(b o c:Nat)(w:World)(h0:w.cell? ⟨b,o,none⟩=some (.string s)):Calls prog 178 #[.slice (some ⟨b,o,none⟩) 1 c,.int .i64 n] w (zbq w (List.replicate n s)):=by
 have H:=Xh (fun wx=>Qe7 n hn wx);have g:=Xh h0;unfold zbq;clear h0;have hw:IntKind.u64.wrap (n:Int)=(n:Int):=by
  show(n:Int) % 18446744073709551616=_
  omega
 have hw2:IntKind.i64.wrap (n:Int)=(n:Int):=IntWalk.i64_in _ (by omega);have O:=zei n (by omega);have L:=(Below.refl w.heap.size w).alloc Xl (.cells (Array.replicate n (Value.string ⟨#[]⟩)) 9);have P:(w.alloc (.cells (Array.replicate n (Value.string ⟨#[]⟩)) 9)).heap[w.heap.size]? = some (.cells (List.replicate n (Value.string ⟨#[]⟩)).toArray 9 (0,0)):=by
  rw[heap_alloc_new,List.toArray_replicate]
 have h:b<w.heap.size:=ZaS g.out;have c0:=(L.cell (p:=⟨b,o,none⟩) h).trans g.out;have i:=Xh P;have R:=Xh L;have M:=Xh c0;clear P L c0;obtain⟨z,hz⟩:∃z,z=Value.string ⟨#[]⟩:=⟨_,rfl⟩;have hz1:z.oneCell'=true:=by rw[hz];rfl
 rw[<-hz]at O i R M;clear hz;have B:(List.replicate (min 1 n) (Value.string s)).length=Nat.min 1 n:=List.length_replicate;have C:∀j v,(List.replicate (min 1 n) (Value.string s))[j]? = some v->(w.alloc (.cells (Array.replicate n z) 9)).cell? ((⟨b,o,none⟩:Addr).add j)=some v:=fun j v hj=>by
  obtain⟨h1,X⟩:=List.getElem?_eq_some_iff.1 hj;rw[List.length_replicate]at h1;obtain rfl:j=0:=by omega
  rw[List.getElem_replicate]at X;subst X;exact M.out
 have D:0+(List.replicate (min 1 n) (Value.string s)).length<=(List.replicate n z).length:=by simp;omega
 have E:∀v∈List.replicate (min 1 n) (Value.string s),v.oneCell'=true:=fun v hv=>by rw[(List.mem_replicate.1 hv).2];rfl
 replace B:=Xh B;replace C:=Xh C;replace D:=Xh D;replace E:=Xh E;go_enter func178,ntmps178;go_wp2_with (first
  |(go_fit (H.out _);rintro e w3⟨rfl,rfl⟩)
  |(refine wpList_copy_splice rfl (.tmp 31) (.tmp 32) 27 27 rfl 9 underlying27 zeN _ _ _ _ _ _ rfl rfl w.heap.size 0 (List.replicate n z) 9 i.out (List.replicate (min 1 n) (.string s)) B.out (fun _=>⟨rfl,_,rfl,C.out⟩) D.out E.out w.heap.size w R.out Xl ?_;intro w4 Y Z))
 all_goals first|(exfalso;omega)|skip
 have A:=Y.out;rw[qda]at A;have S:=Xh A;have T:=Xh Z;have l:(List.replicate (min 1 n) (Value.string s)).length=min 1 n:=List.length_replicate;clear Y A Z B C D E i R M g H O;go_loopw [8] (fun x wr=>∃k:Nat,k<=n/\(k=0->n=0)/\Hid (wr.heap[w.heap.size]? = some (.cells (List.replicate k (Value.string s)++List.replicate (n-k) z).toArray 9 (0,0)))/\Below w.heap.size w wr/\x=.int .i64 k) (fun x _=>n-(intOf x).toNat)
 case atStart=>exact⟨min 1 n,by omega,by omega,S,T,by first|rfl|(rw[l];rfl)|simp⟩
 case round =>
  clear S T;obtain⟨k,hk,hk0,d,f,rfl⟩:=hrel;by_cases m:k<n
  ·have R:=Xh f;clear f;have hk1:1<=k:=(by omega);clear hk0;have F:(List.replicate (min k (n-k)) (Value.string s)).length=Nat.min k (n-k):=List.length_replicate;have G:∀j v,(List.replicate (min k (n-k)) (Value.string s))[j]? = some v->wr.drew.cell? ((⟨w.heap.size,0,none⟩:Addr).add j)=some v:=fun j v hj=>by
    obtain⟨h1,X⟩:=List.getElem?_eq_some_iff.1 hj;rw[List.length_replicate]at h1;rw[List.getElem_replicate]at X;subst X;rw[Addr.add_lit,Nat.zero_add];show wr.cell? ⟨w.heap.size,j,none⟩=_
    rw[cell_of_row _ _ j _ _ _ d.out];simp[List.getElem?_append,show j<k by omega]
   have I:k+(List.replicate (min k (n-k)) (Value.string s)).length<=(List.replicate k (Value.string s)++List.replicate (n-k) z).length:=(by simp;omega);have J:∀v∈List.replicate (min k (n-k)) (Value.string s),v.oneCell'=true:=fun v hv=>by rw[(List.mem_replicate.1 hv).2];rfl
   have hki:(k:Int)<(n:Int):=(by omega);have hkn:¬n=k:=(by omega);have U:Hid (wr.drew.heap[w.heap.size]? = some (.cells (List.replicate k (Value.string s)++List.replicate (n-k) z).toArray 9 (0,0))):=d.out;have V:=Xh R.out.drew;replace F:=Xh F;replace G:=Xh G;replace I:=Xh I;replace J:=Xh J;go_wp2_with fail;go_region_law (refine step_copy_splice rfl (.tmp 41) (.tmp 44) 27 27 rfl 9 underlying27 zeN (some ⟨w.heap.size,k,none⟩) (some ⟨w.heap.size,0,none⟩) (n-k) (n-k) k n (by simp[Act.eval,Act.put]) (by simp[Act.eval,Act.put]) w.heap.size k _ 9 U.out (List.replicate (min k (n-k)) (.string s)) F.out (fun _=>⟨rfl,_,rfl,G.out⟩) I.out J.out w.heap.size w V.out Xl ?_;intro w5 A a)
   all_goals
    have N:=A.out;rw[Qdq n k m]at N;have q:=Xh N;have r:=Xh a;have t:IntKind.i64.wrap ((k:Int)+((min k (n-k):Nat):Int))=((k+min k (n-k):Nat):Int):=(by rw[IntWalk.i64_in _ (by omega)];omega);clear A N a U V F G I J;simp only[t,Act.put,List.getElem_toArray,List.getElem_cons_succ,List.getElem_cons_zero,Xa,Xd,Xc];go_roundw;case rel=>exact⟨_,_,_,_,_,_,_,_,_,_,_,_,_,_,⟨k+min k (n-k),by omega,by omega,q,r,rfl⟩,rfl⟩
    case measure=>simp[intOf];omega
  ·obtain rfl:k=n:=(by omega);rw[Nat.sub_self,List.replicate_zero,List.append_nil]at d;have y:=Xh f;clear f;go_wp2_with fail;go_ret;refine⟨⟨_,rfl,?_⟩,y⟩;rw[List.length_replicate,List.map_replicate];exact⟨by simp,Or.inr ⟨w.heap.size,k,_,rfl,Xl,d.out,Xl,by unfold maxLen;omega,by simp,by simp⟩⟩
theorem ze8(r:List UInt8):Lib.trimPrefix (91::r) [91]=r:=by simp[Lib.trimPrefix,Lib.hasPrefix]
theorem Zei(r:List UInt8):Lib.hasPrefix (91::r) [91]=true:=by simp[Lib.hasPrefix]
theorem ZcS(r:List UInt8):Lib.hasPrefix (76::r) [91]=false:=by simp[Lib.hasPrefix,List.isPrefixOf]
theorem Ze8(r:List UInt8):Lib.trimPrefix (76::r) [91]=76::r:=by unfold Lib.trimPrefix;rw[ZcS];rfl
def qe8(cs:List qa)(n:Nat):Ty->List Str
 |.ar e=>List.replicate n (str (qe e))
 |.cl c=>Zq (qW cs c)
 |_=>[]
theorem zcM(V w:World)(B:Nat)(l:List qa)(O:qh V w B l)(x:Zc)(X:Value)(t:Ty)(E:Qab (Za l) x t)(P:Qe w 2 qy X x.has)(F:x.type.size<=maxLen)(R:∀e,t=.ar e->x.has.length<=10):
 Calls prog 146 #[.map (some B),.agg #[.string x.type,X]] w (zbq w (zO (Za l) x)):=by
 have A:=Xh (fun wx=>Qa1 x.type ⟨#[91]⟩ wx);have C:x.type.data.toList=qe t:=E.text.symm;rw[C]at A;have S:zO (Za l) x=qe8 (Za l) x.has.length t:=by unfold zO;rw[E.of];rfl
 rw[S];obtain⟨p,c,rfl,T,U,_⟩:=P.open;have Y:x.has.length<=9223372036854775807:=Xf T U;have D:=Xh ((Below.refl w.heap.size w).alloc Xl (.cells #[.string x.type,.slice p x.has.length c] 106));cases t with
 |i=>exact absurd E.ref (by decide)
 |j=>exact absurd E.ref (by decide)
 |ar e =>
  have I:Hid (∀(wx:World) (b o c:Nat),wx.cell? ⟨b,o,none⟩=some (.string (str (qe e)))->_):=fun(wx:World) (b o c:Nat) h=>qdO (str (qe e)) x.has.length (R e rfl) b o c wx h
  simp only[qe,ze8,Zei]at A;rw[show(⟨(qe e).toArray⟩:ByteArray)=str (qe e) from rfl]at A;show Calls _ _ _ _ (zbq w (List.replicate x.has.length (str (qe e))))
  unfold zbq at I ⊢;clear O E P F R S C;generalize str (qe e)=g at *;go_enter func146,ntmps146;go_wp2_with (first
   |(go_fit (A.out _);rintro e Z⟨rfl,rfl⟩)
   |(go_fit (I.out _ _ _ _ ?c1);rotate_left;rintro e a⟨⟨d,rfl,G⟩,H⟩))
  case c1=>simp
  have J:=D.out.alloc D.out.size (.cells #[.string g] 9);go_ret;exact⟨⟨_,rfl,ZX G J.size⟩,Qa J Xl H⟩
 |cl n =>
  have M:=Xh (fun wx=>zY x.type (.cl n) wx E.text F);have N:Hid (∀wx,Below w.heap.size w wx->_):=fun wx f=>QbS V wx B l (O.step f) n E.good
  simp only[qe,Ze8,ZcS,zH,zaQ]at A M;show Calls _ _ _ _ (zbq w (Zq (qW (Za l) n)))
  unfold zbq at N ⊢;clear O E P F R S C;generalize Zq (qW (Za l) n)=L at *;go_enter func146,ntmps146;go_wp2_with (first
   |(go_fit (A.out _);rintro e Z⟨rfl,rfl⟩)
   |(go_fit (M.out _);rintro e Z⟨rfl,rfl⟩)
   |(go_fit (N.out _ D.out);rintro e a⟨⟨d,rfl,G⟩,H⟩))
  go_ret;exact⟨⟨_,rfl,ZX G D.out.size⟩,Qa D Xl H⟩
def Zd9(cs:List qa)(n:Nat):Ty->Nat
 |.ar _=>if 10<n then 8 else 0
 |.cl c=>if (Qd cs c).face then 7 else if (Zq (qW cs c)).length≠n then 8 else 0
 |_=>1
theorem zcv{cs:List qa}{x:Zc}(h:QcL (lst x.type)=true)(A:Zg cs x.type=0){t:Ty}(B:Qab cs x t):qz cs x=Zd9 cs x.has.length t:=by
 unfold qz;rw[h,if_neg (by decide),if_neg (by rw[A];decide),B.of];cases t<;>rfl
structure qa3 (t:Str) (y:Ty):Prop where
 text:qe y=lst t
 name:QaM y=true
 deep:qD y<=3
theorem qa3.of{t:Str}{y:Ty}(h:qa3 t y):Qz t=y:=zU h.text
theorem Q8{t:Str}(h:zp (lst t)=true):∃y,qa3 t y:=by
 obtain⟨y,A,_,B⟩:=za9 (lst t) h;exact⟨y,A,B,ZaQ (by rw[A];exact h)⟩
theorem Qe8{s:List UInt8}(h:zD s=true):s.length<=20:=by
 unfold zD at h;cases s with
 |nil=>exact Nat.zero_le _
 |cons a r =>
  simp only[Bool.and_eq_true]at h;exact Xm h.1.1
theorem Qda:∀y:Ty,QaM y=true->(qe y).length<=qD y+22
 |.i,_=>by simp[qe]
 |.j,_=>by simp[qe]
 |.cl c,h=>by
  have:=Qe8 (s:=lst c) h;simp only[qe,List.length_cons,List.length_append,List.length_nil,qD];omega
 |.ar y,h=>by
  have:=Qda y h;simp only[qe,List.length_cons,qD];omega
theorem qa3.size{t:Str}{y:Ty}(h:qa3 t y):t.size<=maxLen:=by
 have A:=Qda y h.name;have B:(lst t).length=t.size:=rfl;rw[h.text]at A;have:=h.deep;unfold maxLen;omega
theorem zcb:∀(r a:List QJ),Zi zK a r=0->∀f∈r,zp (lst f.type)=true
 |[],_,_,f,B=>by cases B
 |x::r,a,h,f,B=>by
  unfold Zi at h;by_cases A:zK x a=0
  ·rw[if_pos A]at h;rcases List.mem_cons.1 B with rfl|B
   ·unfold zK at A;split at A
    ·cases A
    ·rename_i C;rw[Bool.not_eq_true,Bool.or_eq_false_iff,Bool.not_eq_false',Bool.not_eq_false']at C;exact C.2
   ·exact zcb r _ h f B
  ·rw[if_neg A]at h;exact absurd h A
theorem zaj{l:List qa}(C:∀c∈l,Qf c=0)(x:Str):∀f∈(Qd (Za l) x).fields,zp (lst f.type)=true:=by
 unfold Qd;cases D:Qb (Za l) x with
 |none=>intro f h;cases h
 |some c =>
  have A:c∈Za l:=List.mem_of_find?_eq_some D;show ∀f∈c.fields,_
  unfold Za at A;rcases List.mem_cons.1 A with rfl|A
  ·intro f h;cases h
  ·rcases List.mem_cons.1 A with rfl|A
   ·intro f h;cases h
   ·have h:=C c A;unfold Qf at h;split at h
    ·cases h
    ·split at h
     ·rename_i B;exact absurd h B
     ·split at h
      ·cases h
      ·split at h
       ·rename_i B;exact absurd h B
       ·rename_i B;exact zcb c.fields [] (by simpa using B)
theorem qei{l:List qa}(E:∀c∈l,Qf c=0)(x:Str):∀t∈Zq (qW (Za l) x),∃y,qa3 t y:=by
 intro t D;unfold Zq at D;obtain⟨⟨c,f⟩,B,rfl⟩:=List.mem_map.1 D;unfold qW zQ at B;obtain⟨d,_,C⟩:=List.mem_flatMap.1 B;unfold qas at C;obtain⟨g,F,A⟩:=List.mem_map.1 C;injection A with _ A
 subst A;exact Q8 (zaj E d g F)
theorem Zcb{l:List qa}(C:∀c∈l,Qf c=0){x:Zc}{t:Ty}(B:Qab (Za l) x t):∀s∈zO (Za l) x,∃y,qa3 s y:=by
 intro s A;unfold zO at A;rw[B.of]at A;cases t with
 |i=>cases A
 |j=>cases A
 |ar e =>
  dsimp only at A;rw[(List.mem_replicate.1 A).2];have D:=B.deep;simp only[qD]at D;exact⟨e,rfl,qbx C e B.good,by omega⟩
 |cl c=>exact qei C c s A
theorem ZeN{α:Type}(f:α->Bool)(l:List α)(k:Nat)(x:α)(h:l[k]? = some x):(l.drop k).all f=(f x&&(l.drop (k+1)).all f):=by
 obtain⟨A,rfl⟩:=List.getElem?_eq_some_iff.1 h;rw[List.drop_eq_getElem_cons A,List.all_cons]
theorem qeN{α β:Type}{a:List α}{b:List β}{k:Nat}{x:α}{y:β}(A:a[k]? = some x)(B:b[k]? = some y):(a.zip b)[k]? = some (x,y):=by
 rw[List.getElem?_zip_eq_some];exact⟨A,B⟩
theorem QdO{cs:List qa}{h:List Zc}(g:¬50<h.length)(f:Zh (qz cs) h=0):Zy cs h=if h.all (Zaa cs h) then 0 else 7:=by unfold Zy;rw[if_neg g,if_neg (by rw[f];decide)]
theorem zdb{cs:List qa}{h:List Zc}(f:Qai cs h):qfj cs h:=fun x A=>(qK (f x A)).2.2
theorem zdr{cs:List qa}{x:Zc}(h:qz cs x=0){e:Ty}(B:Qab cs x (.ar e)):x.has.length<=10:=by
 obtain⟨C,D,_⟩:=qK h;rw[zcv C D B]at h;unfold Zd9 at h;by_cases A:10<x.has.length
 ·rw[if_pos A]at h;cases h
 ·omega
theorem Zdr(f w:World)(B:Nat)(l:List qa)(C:qh f w B l)(c d:Str)(Y:(Qb (Za l) c).isSome=true)(g:(Qb (Za l) d).isSome=true):
 Calls prog 165 #[.map (some B),.string c,.string d] w fun e w'=>e=.returned (.string (if ((Qd (Za l) c).face||(Qd (Za l) d).face)=true then zh else qbT (Za l) c d))/\Below w.heap.size w w':=by
 obtain⟨p1,k1,p2,k2,p3,k3,_,_,_,_,U⟩:=C.map.look2 C.right.nodup c (C.map.names Y);obtain⟨p4,k4,p5,k5,p6,k6,_,_,_,_,M⟩:=C.map.look2 C.right.nodup d (C.map.names g);have F:=Xh (qa7 f w B l C.right C.map d g);have G:Hid (∀wx,Below w.heap.size w wx->_):=fun wx hb=>qa7 f wx B l C.right (C.map.step hb) c Y
 have q:(zm (Za l) c).length<=13:=by
  have r:=Zbg (Za l) (qi (Za l) c).length c;have s:=(Zo C.right.closed Y).1.length;have h3:=C.right.small;unfold zm;omega
 unfold qbT;have hcf:=qcq;show Calls _ _ _ _ fun e w'=>e=.returned (.string (if (((Qb (Za l) c).getD qg).face||((Qb (Za l) d).getD qg).face)=true then zh else ZaO (zm (Za l) d) (zm (Za l) c)))/\Below w.heap.size w w'
 clear C Y g;generalize (Qb (Za l) c).getD qg=x at *;generalize (Qb (Za l) d).getD qg=y at *;generalize zm (Za l) c=D at *;generalize zm (Za l) d=E at *;obtain⟨n1,s1,f1,b1,d1,m1⟩:=x;obtain⟨n2,s2,f2,b2,d2,m2⟩:=y;unfold Zu at U M;dsimp only at *;cases b1 with
 |true =>
  clear F G M;go_enter func165,ntmps165;go_wp2
  go_ret;exact⟨rfl,Xb⟩
 |false =>
  cases b2 with
  |true =>
   clear F G;go_enter func165,ntmps165;go_wp2
   go_ret;exact⟨rfl,Xb⟩
  |false =>
   show Calls _ _ _ _ fun e w'=>e=.returned (.string (ZaO E D))/\Below w.heap.size w w'
   go_enter func165,ntmps165;go_wp2_with (first
    |(go_at_call 67;(have t:=J);(with_reducible refine(G.out _ J).mono ?_);rintro e w4⟨⟨v4,rfl,N⟩,O⟩;obtain⟨pa,ca,rfl⟩:=Ze N)
    |(go_fit F.out;rintro e w3⟨⟨v3,rfl,X⟩,J⟩))
   have P:=(Zk X).mono O;have R:=Zk N;have v:=Qa J Xl O;obtain⟨pa',ca',he,r,s,V⟩:=R.open;injection he with m n p
   subst m p;clear n;have HC:=Xh V;have S:Hid (∀x,_):=fun x=>Qao E v3 x w4 P
   have z:D.length<=9223372036854775807:=Xf r s;clear P R V X N J O G F U M;go_loopw [27] (fun x wr=>∃k:Nat,k<=D.length/\Hid (ZaO E (D.drop k)=ZaO E D)/\w4=wr/\x=.int .i64 k) (fun x _=>D.length-(intOf x).toNat)
   case atStart=>exact⟨0,by omega,rfl,rfl,rfl⟩
   case round =>
    obtain⟨k,hk,I,rfl,rfl⟩:=hrel;by_cases h:k<D.length
    ·obtain⟨a,Z⟩:∃a,D[k]? = some a:=⟨D[k],by simp[h]⟩;obtain⟨b,o,vs,rfl,hR,_,Zd⟩:=HC.out k a Z;unfold qt at hR;subst hR;have c0:=Zd.1;rw[Nat.mul_one]at c0;have H:=zdP E D k a Z;rw[I.out]at H;have A:=S.out a;have HX:=Xh Z;clear Z Zd I;cases C:zak E a with
     |true =>
      rw[C]at A H;replace H:ZaO E D=a:=H;have i:=Xh H;have L:=Xh A;clear H A C;go_wp2_with (go_fit L.out;rintro e w5⟨rfl,rfl⟩)
      go_ret;exact⟨by rw[i.out];rfl,v⟩
     |false =>
      rw[C]at A H;have j:Hid (ZaO E (D.drop (k+1))=ZaO E D):=H.symm;have L:=Xh A;clear H A C;go_wp2_with (go_fit L.out;rintro e w5⟨rfl,rfl⟩)
      go_roundw;case rel=>exact⟨k+1,by omega,j.out,by simp,by simp⟩
      case measure=>simp[intOf];omega
    ·obtain rfl:k=D.length:=(by omega);have T:ZaO E D=zh:=(by rw[<-I.out,Xg Xl];rfl);have i:=Xh T;clear T I;go_wp2_with fail;go_ret;exact⟨by rw[i.out];rfl,v⟩
def QbT:Ty->Bool
 |.ar _=>true
 |_=>false
theorem qb2{k:Str}{x:Ty}(h:qe x=lst k)(B:0<k.size):(((k[0]'B).toNat:Int)==91)=QbT x:=by
 have D:k[0]'B=(lst k)[0]'(by have C:(lst k).length=k.size:=rfl;omega):=rfl;have A:(lst k)[0]? = (qe x)[0]?:=by rw[h]
 rw[D];have E:(lst k)[0]? = some ((lst k)[0]'(by have C:(lst k).length=k.size:=rfl;omega)):=Xn _;rw[E]at A;generalize (lst k)[0]'(by have C:(lst k).length=k.size:=rfl;omega)=b at *;cases x with
 |i=>simp[qe]at A;subst A;rfl
 |j=>simp[qe]at A;subst A;rfl
 |cl c=>simp[qe]at A;subst A;rfl
 |ar y=>simp[qe]at A;subst A;rfl
def qbq(w:World)(cs:List qa)(x y:Kd)(n:Nat)(e:Ending)(w':World):Prop :=
 (∃z,e=.returned (.string z)/\Qo (Q2 cs x y)=lst z/\z.size<=n)/\Below w.heap.size w w'
theorem ze9{cs:List qa}(T:QbR cs)(G:(Qb cs zh).isSome=true){a b:Str}{x y:Kd}(F:Qo x=lst a)(H:Qo y=lst b)(I:qS cs x=true)(h:x=y\/(x=.n/\zA y=true)\/(y=.n/\zA x=true)\/(zA x=false\/zA y=false)):
 Qo (Q2 cs x y)=lst (if decide (x=y) then a else if decide (x=.n)&&zA y then b else if decide (y=.n)&&zA x then a else ⟨#[84]⟩):=by
 by_cases D:x=y
 ·subst D;rw[Xj rfl,if_pos rfl,Qei T G I];exact F
 ·rw[Xi D,if_neg (by decide)];by_cases A:x=.n/\zA y=true
  ·obtain⟨rfl,A⟩:=A;rw[A,if_pos (by decide)];cases y with
   |n=>cases A
   |t=>cases A
   |ty z=>rw[Za9,if_pos (show Qm z=true from A)];exact H
  ·have J:(decide (x=.n)&&zA y)=false:=by
    rw[Bool.and_eq_false_iff];by_cases C:x=.n
    ·exact Or.inr (by cases E:zA y with|false=>rfl|true=>exact absurd ⟨C,E⟩ A)
    ·exact Or.inl (Xi C)
   rw[J,if_neg (by decide)];by_cases B:y=.n/\zA x=true
   ·obtain⟨rfl,B⟩:=B;rw[B,if_pos (by decide)];cases x with
    |n=>cases B
    |t=>cases B
    |ty z=>rw[qa9,if_pos (show Qm z=true from B)];exact F
   ·have L:(decide (y=.n)&&zA x)=false:=by
     rw[Bool.and_eq_false_iff];by_cases C:y=.n
     ·exact Or.inr (by cases E:zA x with|false=>rfl|true=>exact absurd ⟨C,E⟩ B)
     ·exact Or.inl (Xi C)
    rw[L,if_neg (by decide)];have M:zA x=false\/zA y=false:=by
     rcases h with h|h|h|h
     ·exact absurd h D
     ·exact absurd h A
     ·exact absurd h B
     ·exact h
    rw[zej D A B M];rfl
theorem qdr(I w:World)(B:Nat)(l:List qa)(G:qh I w B l)(a b:Str)(x y:Kd)(A:Qo x=lst a)(C:Qo y=lst b)(H:qS (Za l) x=true)(h:x=y\/(x=.n/\zA y=true)\/(y=.n/\zA x=true)\/(zA x=false\/zA y=false)):
 Calls prog 134 #[.map (some B),.string a,.string b] w (qbq w (Za l) x y (30+a.size+b.size)):=by
 have U:=Qbx A C;have J:=Qas A .n;have L:=Qas C .n;have M:Hid (∀wx,_):=fun wx=>QL a x wx A
 have N:Hid (∀wx,_):=fun wx=>QL b y wx C
 have E:=ze9 G.right.tree (zaA l) A C H h;unfold qbq;simp only[Qo]at J L;generalize Q2 (Za l) x y=r at *;have D:(decide (x=y)||(decide (x=.n)&&zA y)||(decide (y=.n)&&zA x)||!(zA x)||!(zA y))=true:=by
  rcases h with h|⟨h,g⟩|⟨h,g⟩|h|h<;>simp[*]
 clear G A C H h;generalize decide (x=y)=eE at *;generalize decide (x=.n)=P at *;generalize decide (y=.n)=R at *;generalize zA x=S at *;generalize zA y=T at *;cases eE<;>cases P<;>cases R<;>cases S<;>cases T<;>first|(exact absurd D (by decide))|skip
 all_goals
  clear D;simp only[if_true,if_false,Bool.and_true,Bool.and_false,Bool.false_eq_true]at E;have F:=Xh E;clear E;go_enter func134,ntmps134;go_wp2_with (first
   |(go_fit (M.out _);rintro e O⟨rfl,rfl⟩)
   |(go_fit (N.out _);rintro e O⟨rfl,rfl⟩))
  go_ret;first
   |exact⟨⟨a,rfl,F,by omega⟩,Xb⟩
   |exact⟨⟨b,rfl,F,by omega⟩,Xb⟩
   |exact⟨⟨⟨#[84]⟩,rfl,F,by show 1<=_;omega⟩,Xb⟩
theorem Zej(cs:List qa)(c d:Str):Q2 cs (.ty (.cl c)) (.ty (.cl d))=.ty (.cl (qbT cs c d)):=rfl
theorem Qdr(z:Str):(Q5 z).size=z.size+1:=by unfold Q5;rw[ByteArray.size_append];show 1+z.size=_;omega
theorem Qfs(w0:World)(B:Nat)(l:List qa):∀(x:Ty) (w:World) (a b:Str) (y:Ty),qh w0 w B l->qe x=lst a->qe y=lst b->ZP (Za l) x=true->ZP (Za l) y=true->a.size<=4194304->b.size<=4194304 ->
 Calls prog 134 #[.map (some B),.string a,.string b] w (qbq w (Za l) (.ty x) (.ty y) (30+a.size+b.size)):=by
 have G:∀(x:Ty) (w:World) (a b:Str) (y:Ty),qh w0 w B l->qe x=lst a->qe y=lst b->ZP (Za l) x=true->(x=y\/Qm x=false\/Qm y=false) ->
  Calls prog 134 #[.map (some B),.string a,.string b] w (qbq w (Za l) (.ty x) (.ty y) (30+a.size+b.size)):=fun x w a b y F C A H h =>
  qdr w0 w B l F a b (.ty x) (.ty y) C A H (by
   rcases h with h|h
   ·exact Or.inl (by rw[h])
   ·exact Or.inr (Or.inr (Or.inr h)))
 intro x;induction x with
 |i=>intro w a b y F C A H _ _ _;exact G _ w a b y F C A H (Or.inr (Or.inl rfl))
 |j=>intro w a b y F C A H _ _ _;exact G _ w a b y F C A H (Or.inr (Or.inl rfl))
 |cl c =>
  intro w a b y F C A H P J L;by_cases D:Ty.cl c=y\/Qm y=false
  ·exact G _ w a b y F C A H (by rcases D with D|D;exact Or.inl D;exact Or.inr (Or.inr D))
  ·have E:Ty.cl c≠y:=fun h=>D (Or.inl h)
   have hE:=Qbx (x:=.ty (.cl c)) (y:=.ty y) C A;have q:=Qas (x:=.ty (.cl c)) C .n;have s:=Qas (x:=.ty y) A .n;simp only[Qo]at q s;rw[Xi (by intro h;cases h)]at q s;rw[Xi (by intro h;injection h with h;exact E h)]at hE;have U:Hid (∀wx,_):=fun wx=>QL a (.ty (.cl c)) wx C
   have O:Hid (∀wx,_):=fun wx=>QL b (.ty y) wx A
   have X:Hid (∀wx,_):=fun wx=>zY a (.cl c) wx C (Xf J (by decide))
   have Y:Hid (∀wx,_):=fun wx=>zY b y wx A (Xf L (by decide))
   obtain⟨k,fa⟩:=qaK C;obtain⟨m,fb⟩:=qaK A;have ga:=qb2 C k;have t:=qb2 A m;simp only[zA,Qm,zH,zaQ,Qa9,QbT]at U X fa ga;cases y with
   |i=>exact absurd (Or.inr rfl) D
   |j=>exact absurd (Or.inr rfl) D
   |cl d =>
    simp only[zA,Qm,zH,zaQ,Qa9,QbT]at O Y fb t;have V:=qaQ F.faults (F.right.tree.known c _ H (F.right.tree.lub1 c d H P).1);have Z:=Zdr w0 w B l F c d H P;rw[F.right.classes H P (fun h=>E (by rw[h]))]at Z;unfold qbq;rw[Zej];generalize qbT (Za l) c d=r at *;have HC2:=Xh Z;have N:Hid (∀wx,_):=fun wx=>ZZ r wx (Xf V (by decide))
    have hts:=Zao r;have M:Hid ((Qc r).size<=30+a.size+b.size):=(by unfold Hid;omega);clear Z D F C H A P J L E V hts;go_enter func134,ntmps134;go_wp2_with (first
     |(go_fit (U.out _);rintro e I⟨rfl,rfl⟩)
     |(go_fit (O.out _);rintro e I⟨rfl,rfl⟩)
     |(go_fit (X.out _);rintro e I⟨rfl,rfl⟩)
     |(go_fit (Y.out _);rintro e I⟨rfl,rfl⟩)
     |(go_fit HC2.out;rintro e w4⟨rfl,T⟩)
     |(go_fit (N.out _);rintro e w5⟨rfl,rfl⟩))
    go_ret;exact⟨⟨_,rfl,(QaE r).symm,M.out⟩,T⟩
   |ar z =>
    simp only[zA,Qm,Qa9,QbT]at O fb t;have N:Hid (∀wx,_):=fun wx=>zbh wx
    clear D X Y F C H A P J L E;go_enter func134,ntmps134;go_wp2_with (first
     |(go_fit (U.out _);rintro e I⟨rfl,rfl⟩)
     |(go_fit (O.out _);rintro e I⟨rfl,rfl⟩)
     |(go_fit (N.out _);rintro e I⟨rfl,rfl⟩))
    go_ret;exact⟨⟨_,rfl,rfl,by show 8<=_;omega⟩,Xb⟩
 |ar u ih =>
  intro w a b y F C A H P J L;by_cases D:Ty.ar u=y\/Qm y=false
  ·exact G _ w a b y F C A H (by rcases D with D|D;exact Or.inl D;exact Or.inr (Or.inr D))
  ·have E:Ty.ar u≠y:=fun h=>D (Or.inl h)
   have hE:=Qbx (x:=.ty (.ar u)) (y:=.ty y) C A;have q:=Qas (x:=.ty (.ar u)) C .n;have s:=Qas (x:=.ty y) A .n;simp only[Qo]at q s;rw[Xi (by intro h;cases h)]at q s;rw[Xi (by intro h;injection h with h;exact E h)]at hE;have U:Hid (∀wx,_):=fun wx=>QL a (.ty (.ar u)) wx C
   have O:Hid (∀wx,_):=fun wx=>QL b (.ty y) wx A
   have N:Hid (∀wx,_):=fun wx=>zbh wx
   obtain⟨k,fa⟩:=qaK C;obtain⟨m,fb⟩:=qaK A;have ga:=qb2 C k;have t:=qb2 A m;simp only[zA,Qm,Qa9,QbT]at U fa ga;cases y with
   |i=>exact absurd (Or.inr rfl) D
   |j=>exact absurd (Or.inr rfl) D
   |cl d =>
    simp only[zA,Qm,Qa9,QbT]at O fb t;clear D F C H A P J L E ih;go_enter func134,ntmps134;go_wp2_with (first
     |(go_fit (U.out _);rintro e I⟨rfl,rfl⟩)
     |(go_fit (O.out _);rintro e I⟨rfl,rfl⟩)
     |(go_fit (N.out _);rintro e I⟨rfl,rfl⟩))
    go_ret;exact⟨⟨_,rfl,rfl,by show 8<=_;omega⟩,Xb⟩
   |ar v =>
    simp only[zA,Qm,Qa9,QbT]at O fb t;obtain⟨ta,o,hsz1⟩:=zaG C;obtain⟨tb,p,hsz2⟩:=zaG A;have R:Hid (∀wx,_):=fun wx=>QL (a.extract 1 a.size) (.ty u) wx ta
    have S:Hid (∀wx,_):=fun wx=>QL (b.extract 1 b.size) (.ty v) wx tb
    have f:u≠v:=fun h=>E (by rw[h])
    have es1:(a.extract 1 a.size).size=a.size-1:=(by rw[ByteArray.size_extract];omega);have es2:(b.extract 1 b.size).size=b.size-1:=(by rw[ByteArray.size_extract];omega);simp only[zA]at R S;by_cases g:Qm u=true/\Qm v=true
    ·have HI:Hid (∀wx,Below w.heap.size w wx->_):=fun wx A=>ih wx (a.extract 1 a.size) (b.extract 1 b.size) v (F.step A) ta tb H P (Xf o J) (Xf p L)
     obtain⟨z,hz1,hz2⟩:=QeN (cs:=Za l) g.1 g.2;unfold qbq at HI ⊢;rw[hz1]at HI;rw[hz2];rw[g.1]at R;rw[g.2]at S;clear D F C A H P E ih ta o tb p f g hz1 hz2;generalize hxa:a.extract 1 a.size=a1 at *;generalize hxb:b.extract 1 b.size=b1 at *;go_enter func134,ntmps134;go_upto_region 12 with(first
      |(go_fit (U.out _);rintro e I⟨rfl,rfl⟩)
      |(go_fit (O.out _);rintro e I⟨rfl,rfl⟩)
      |(go_fit (R.out _);rintro e I⟨rfl,rfl⟩)
      |(go_fit (S.out _);rintro e I⟨rfl,rfl⟩))
     go_region_with (go_fit (HI.out _ Xb.drew);rintro e w4⟨⟨z4,rfl,hz4,hs4⟩,T⟩)
     all_goals
      have M:Qo (.ty (.ar z))=lst (Q5 z4)/\(Q5 z4).size<=30+a.size+b.size:=⟨by rw[Zcv,<-hz4];rfl,by rw[Qdr];omega⟩;have HF:=Xh M;have HB4:=Xh T;clear M hz4 hs4 T;go_wp2
      go_ret;exact⟨⟨Q5 z4,rfl,HF.out.1,HF.out.2⟩,Qa Xb.drew Xl HB4.out⟩
    ·have hw:Qm u=false\/Qm v=false:=by
      cases hu:Qm u with
      |false=>exact Or.inl rfl
      |true=>cases hv:Qm v with
       |false=>exact Or.inr rfl
       |true=>exact absurd ⟨hu,hv⟩ g
     unfold qbq;rw[ZcM f hw];clear D F C A H P J L E ih ta o tb p f g;generalize Qm u=ru at *;generalize Qm v=rv at *;generalize hxa:a.extract 1 a.size=a1 at *;generalize hxb:b.extract 1 b.size=b1 at *;have hor:(ru&&rv)=false:=(by rcases hw with h|h<;>simp[h]);clear hw;cases ru<;>cases rv<;>first|(exact absurd hor (by decide))|skip
     all_goals
      go_enter func134,ntmps134;go_wp2_with (first
       |(go_fit (U.out _);rintro e I⟨rfl,rfl⟩)
       |(go_fit (O.out _);rintro e I⟨rfl,rfl⟩)
       |(go_fit (R.out _);rintro e I⟨rfl,rfl⟩)
       |(go_fit (S.out _);rintro e I⟨rfl,rfl⟩)
       |(go_fit (N.out _);rintro e I⟨rfl,rfl⟩))
      go_ret;exact⟨⟨_,rfl,rfl,by show 8<=_;omega⟩,Xb⟩
theorem Qfo(D w:World)(B:Nat)(l:List qa)(H:qh D w B l)(a b:Str)(x y:Kd)(C:Qa3 (Za l) a x)(E:Qa3 (Za l) b y)(F:a.size<=4194304)(G:b.size<=4194304):
 Calls prog 134 #[.map (some B),.string a,.string b] w (qbq w (Za l) x y (30+a.size+b.size)):=by
 have A:=qdr D w B l H a b x y C.1 E.1 C.2;cases x with
 |n=>exact A (Or.inr (Or.inr (Or.inr (Or.inl rfl))))
 |t=>exact A (Or.inr (Or.inr (Or.inr (Or.inl rfl))))
 |ty u =>
  cases y with
  |n=>exact A (Or.inr (Or.inr (Or.inr (Or.inr rfl))))
  |t=>exact A (Or.inr (Or.inr (Or.inr (Or.inr rfl))))
  |ty v=>exact Qfs D B l u w a b v H C.1 E.1 C.2 E.2 F G
def zfj(w:World)(l:List qa)(e:Ending)(w':World):Prop :=
 Below w.heap.size w w'/\((zj l=0/\∃w0 B,e=.returned (.tuple #[.map (some B),.nilIface])/\qh w0 w' B l)\/(zj l≠0/\e=.returned (.tuple #[.map none,.iface 52 (.int .i64 (zj l))])))
theorem zef(l:List qa)(C:Value)(w:World)(E:Qax w)(F:∀c∈l,qM c)(D:zx w C l):
 Calls prog 23 #[C] w (zfj w l):=by
 refine(zbU l C w E F D).mono ?_;rintro e I⟨A,⟨B,rfl,G,J,H,L,M⟩|⟨B,rfl⟩⟩
 ·exact⟨A,Or.inl ⟨B,_,_,rfl,G,QaK B,H⟩⟩
 ·exact⟨A,Or.inr ⟨B,rfl⟩⟩
theorem ZbU:(prog.info? 43).map (fun i=>(i.zero,i.size,i.bytes))=some (some (.agg #[.int .i64 0,.int .i64 0]),2,16):=by kernel_rfl
theorem ZdP:(prog.info? 106).map (fun i=>(i.zero,i.size,i.bytes))=some (some (.agg #[.string .empty,.slice none 0 0]),2,40):=by kernel_rfl
theorem QS{α:Type}{f:α->List Value}{k:Nat}(A:∀x,(f x).length=k):∀m:List α,(m.flatMap f).length=m.length*k:=fun m=>by
 induction m with
 |nil=>simp
 |cons a r B=>rw[List.flatMap_cons,List.length_append,B,A,List.length_cons,Nat.succ_mul];omega
theorem zaZ{α:Type}{f:α->List Value}{k:Nat}(D:∀x,(f x).length=k){w:World}{base:Nat}{t:TypeId}{p:Option Addr}{c n:Nat}{l:List α}(h:w.ownsRow base t k (.slice p n c) n (l.flatMap f))(G:n=l.length){i:Nat}{x:α}(H:l[i]? = some x):
 ∃g,p=some ⟨g,0,none⟩/\base<=g/\g<w.heap.size/\∀j,j<k->w.cell? ⟨g,i*k+j,none⟩=(f x)[j]?:=by
 subst G;obtain⟨C,rfl⟩:=List.getElem?_eq_some_iff.1 H;rcases h with⟨S,⟨T,E⟩|⟨g,cap,B,L,M,F,U,V,X,N⟩⟩
 ·rw[E]at C;exact absurd C (Nat.not_lt_zero _)
 ·injection L with O _ P
  subst O P;refine⟨g,rfl,M,(Array.getElem?_eq_some_iff.1 F).1,fun j J=>?_⟩;have R:i*k+k<=l.length*k:=by rw[<-Nat.succ_mul];exact Nat.mul_le_mul_right k C
  rw[cell_of_row w g (i*k+j) B t (0,0) F];have I:B[i*k+j]? = (B.toList.take (l.length*k))[i*k+j]?:=by
   rw[List.getElem?_take,if_pos (by omega)];simp
  rw[I,N];have A:l.flatMap f=(l.take i).flatMap f++(f l[i]++(l.drop (i+1)).flatMap f):=by
   rw[<-List.flatMap_cons,<-List.flatMap_append,<-List.drop_eq_getElem_cons C,List.take_append_drop]
  rw[A,List.getElem?_append_right (by rw[QS D,List.length_take,Nat.min_eq_left (Nat.le_of_lt C)];omega),QS D,List.length_take,Nat.min_eq_left (Nat.le_of_lt C),Nat.add_sub_cancel_left,List.getElem?_append_left (by rw[D];exact J)]
theorem qcb{w:World}{b o:Nat}:∀(vs:List Value),(∀j,j<vs.length->w.cell? ⟨b,o+j,none⟩=vs[j]?)->qw w b o vs
 |[],_=>trivial
 |v::r,h=>by
  refine⟨by simpa using h 0 (by simp),qcb r fun j A=>?_⟩;have:=h (j+1) (by simpa using A);rw[show o+(j+1)=o+1+j by omega]at this;simpa using this
theorem Zbh{α:Type}{f:α->List Value}{k:Nat}{R:α->List Value->Prop}(B:∀x,(f x).length=k)(C:∀x,R x (f x)){w:World}{base:Nat}{t:TypeId}{v:Value}{l:List α}(h:w.ownsRow base t k v l.length (l.flatMap f)):Qe w k R v l:=by
 obtain⟨p,c,rfl⟩:=Ze h;have D:=h;rcases h with⟨_,⟨A,H⟩|⟨g,cap,I,J,S,T,L,M,U,V⟩⟩
 ·exact Or.inl ⟨A,List.length_eq_zero_iff.1 H⟩
 ·injection J with N X O
  subst N O;refine Or.inr ⟨⟨g,0,none⟩,c,rfl,L,M,fun i x F=>⟨f x,C x,B x,rfl,?_⟩⟩;obtain⟨P,A,_,_,E⟩:=zaZ B D rfl F;injection A with A;injection A with A;subst A
  refine qcb _ fun j G=>?_
  have:=E j (by rw[<-B x];exact G);show w.cell? ⟨g,0+i*k+j,none⟩=_
  rw[Nat.zero_add];exact this
theorem Ql{w w':World}{base k:Nat}{t:TypeId}{v:Value}{n:Nat}{xs:List Value}(h:w.ownsRow base t k v n xs)(D:Below w.heap.size w w'):w'.ownsRow base t k v n xs:=by
 rcases h with⟨B,E|⟨g,cap,A,F,G,C,H⟩⟩
 ·exact⟨B,Or.inl E⟩
 ·exact⟨B,Or.inr ⟨g,cap,A,F,G,(D.block g (Array.getElem?_eq_some_iff.1 C).1).trans C,H⟩⟩
def Zt(v:Val):List Value:=[.int .i64 v.kind,.int .i64 v.n]
theorem ZaJ(v:Val):(Zt v).length=2:=rfl
theorem QaV{w:World}{base:Nat}{t:TypeId}{v:Value}{l:List Val}(h:w.ownsRow base t 2 v l.length (l.flatMap Zt)):Qe w 2 qy v l:=Zbh (R:=qy) ZaJ (fun _=>rfl) h
def Q7(p:Zc×Value):List Value:=[.string p.1.type,p.2]
theorem qaS(p:Zc×Value):(Q7 p).length=2:=rfl
def QaD(base:Nat)(w:World)(v:Value)(ps:List (Zc×Value)):Prop:=∀p∈ps,Qe w 2 qy p.2 p.1.has/\∀g,p.2.ownBlock=some g->base<=g/\g<w.heap.size/\v.ownBlock≠some g
theorem QaD.nil(base:Nat)(w:World)(v:Value):QaD base w v []:=fun _ h=>by cases h
theorem QaD.step{base:Nat}{w w':World}{v:Value}{ps:List (Zc×Value)}(h:QaD base w v ps)(C:Below w.heap.size w w'):QaD base w' v ps:=fun p A =>
 ⟨(h p A).1.mono C (by decide) (fun _ _ h=>h),fun g B=>⟨((h p A).2 g B).1,Nat.lt_of_lt_of_le ((h p A).2 g B).2.1 C.size,((h p A).2 g B).2.2⟩⟩
theorem Qcb{w w':World}{b:Nat}(A:w'.heap[b]? = w.heap[b]?):∀{vs:List Value} {o:Nat},qw w b o vs->qw w' b o vs
 |[],_,_=>trivial
 |_::_,_,⟨B,C⟩=>⟨(World.cell?_of_block A).trans B,Qcb A C⟩
theorem Qe.block{α:Type}{w w':World}{k:Nat}{R:α->List Value->Prop}{v:Value}{l:List α}(h:Qe w k R v l)(A:∀g,v.ownBlock=some g->w'.heap[g]? = w.heap[g]?):Qe w' k R v l:=by
 rcases h with h|⟨a,cap,rfl,G,H,I⟩
 ·exact Or.inl h
 ·refine Or.inr ⟨a,cap,rfl,G,H,fun i x F=>?_⟩;obtain⟨vs,B,C,D,E⟩:=I i x F;exact⟨vs,B,C,D,Qcb (A a.block rfl) E⟩
theorem QaD.grown{base:Nat}{w w':World}{v D:Value}{ps:List (Zc×Value)}(h:QaD base w v ps)(E:w.grownBy w' v.ownBlock)(B:D.ownBlock=v.ownBlock\/D.ownBlock=some w.heap.size):QaD base w' D ps:=fun p A =>
 ⟨(h p A).1.block fun g e=>E.block g ((h p A).2 g e).2.1 (fun C=>((h p A).2 g e).2.2 C.symm),fun g e=>⟨((h p A).2 g e).1,Nat.lt_of_lt_of_le ((h p A).2 g e).2.1 E.size,by
  rcases B with B|B
  ·rw[B];exact((h p A).2 g e).2.2
  ·rw[B];intro C;have:=((h p A).2 g e).2.1;injection C with C;omega⟩⟩
theorem QaD.set{base b:Nat}{w:World}{v:Value}{ps:List (Zc×Value)}(h:QaD base w v ps)(B:b<base)(j:Nat)(u:Value):QaD base (w.setCell ⟨b,j,none⟩ u) v ps:=fun p A =>
 ⟨(h p A).1.block fun g e=>Xk w ⟨b,j,none⟩ g u (by have:=((h p A).2 g e).1;show g≠b;omega),fun g e=>⟨((h p A).2 g e).1,by have:=((h p A).2 g e).2.1;simpa using this,((h p A).2 g e).2.2⟩⟩
theorem QaD.base{base b:Nat}{w:World}{v:Value}{ps:List (Zc×Value)}(h:QaD base w v ps)(B:b<=base):QaD b w v ps:=fun p A =>
 ⟨(h p A).1,fun g e=>⟨Xf B ((h p A).2 g e).1,((h p A).2 g e).2⟩⟩
theorem QaD.snoc{base:Nat}{w:World}{v:Value}{ps:List (Zc×Value)}{p:Zc×Value}(h:QaD base w v ps)(B:Qe w 2 qy p.2 p.1.has)(C:∀g,p.2.ownBlock=some g->base<=g/\g<w.heap.size/\v.ownBlock≠some g):QaD base w v (ps++[p]):=fun q A=>by
 rcases List.mem_append.1 A with A|A
 ·exact h q A
 ·rw[List.mem_singleton.1 A];exact⟨B,C⟩
theorem Zdb{w:World}{base:Nat}{t:TypeId}{v:Value}{ps:List (Zc×Value)}(h:w.ownsRow base t 2 v ps.length (ps.flatMap Q7)){b:Nat}{u:Value}(C:QaD b w u ps):Qa8 w v (ps.map (·.1)):=by
 have D:=Zbh (R:=fun p vs=>vs=Q7 p) qaS (fun _=>rfl) h;rcases D with⟨rfl,rfl⟩|⟨a,cap,rfl,H,I,J⟩
 ·exact Or.inl ⟨rfl,rfl⟩
 ·refine Or.inr ⟨a,cap,by simp,by simpa using H,I,fun i x B=>?_⟩;rw[List.getElem?_map,Option.map_eq_some_iff]at B;obtain⟨p,A,rfl⟩:=B;obtain⟨vs,rfl,E,F,G⟩:=J i p A;exact⟨_,⟨p.2,rfl,(C p (Xe A)).1⟩,E,F,G⟩
theorem qbU(w:World)(a b:Value)(t:TypeId):∀j u,[a,b][j]? = some u->(w.alloc (.cells #[a,b] t)).cell? ((⟨w.heap.size,0,none⟩:Addr).add j)=some u:=by
 intro j u A;match j,A with
 |0,A=>simp at A;subst A;simp[Addr.add]
 |1,A=>simp at A;subst A;simp[Addr.add]
theorem Qe.one{α:Type}{w:World}{k:Nat}{R:α->List Value->Prop}{v:Value}{l:List α}(h:Qe w k R v l):v.oneCell'=true:=by
 rcases h with⟨rfl,_⟩|⟨a,cap,rfl,_⟩<;>rfl
theorem zci{a:Addr}(A:a=⟨a.block,a.off,none⟩)(n:Nat):a.add n=⟨a.block,a.off+n,none⟩:=by
 unfold Addr.add;split
 ·subst_vars;simpa using A
 ·rfl
theorem QbI{w:World}{b o:Nat}:∀(l:List Val),(∀i x,l[i]? = some x->qw w b (o+i*2) (Zt x))->∀j u,(l.flatMap Zt)[j]? = some u->w.cell? ⟨b,o+j,none⟩=some u
 |[],_,j,u,A=>by simp at A
 |x::r,h,j,u,A=>by
  have B:=h 0 x rfl;rw[Nat.zero_mul]at B;obtain⟨C,D,_⟩:=B;match j,A with
  |0,A=>simp[Zt]at A;subst A;exact C
  |1,A=>simp[Zt]at A;subst A;exact D
  |j+2,A =>
   have:=QbI (o:=o+2) r (fun i y E=>by
    have:=h (i+1) y (by simpa using E);rw[show o+(i+1)*2=o+2+i*2 by omega]at this;exact this) j u (by simpa[Zt] using A)
   rw[show o+2+j=o+(j+2) by omega]at this;exact this
theorem QbD(l:List Val)(v:Value)(w:World)(h:Qe w 2 qy v l)(d:l.length<=4194304):
 Calls prog 117 #[v] w fun e w'=>∃D,e=.returned D/\Qe w' 2 qy D l/\(∀g,D.ownBlock=some g->w.heap.size<=g/\g<w'.heap.size)/\Below w.heap.size w w':=by
 have f:∀(w:World) (a:Option Addr) (n c L c':Nat),(binOp .eql 51 (.slice a n c) (.slice none L c')).run prog w=.ok (.bool a.isNone) w:=fun w a n c L c'=>Lib.run_eql_slice_nil w _ _ a n c L c' underlying51
 rcases h with⟨rfl,rfl⟩|⟨a,cap,rfl,Z,b,M⟩
 ·go_enter func117,ntmps117;go_wp2_with fail;go_ret;exact⟨_,rfl,Or.inl ⟨rfl,rfl⟩,(fun _ h=>by cases h),Xb⟩
 ·obtain⟨S,G,H,I,J⟩:=info_parts ZbU;have A:Hid (∀j u,(l.flatMap Zt)[j]? = some u->w.cell? (a.add j)=some u):=by
   intro j u E;by_cases F:l=[]
   ·subst F;simp at E
   ·have P:l[0]? = some (l.head F):=by cases l with
     |nil=>exact absurd rfl F
     |cons _ _=>rfl
    obtain⟨_,_,_,T,_⟩:=M 0 _ P;rw[zci T];exact QbI l (fun i x G=>by
     obtain⟨vs,N,_,_,U⟩:=M i x G;unfold qy at N;subst N;exact U) j u E
  have R:l.length<=maxLen:=Xf Z b;clear M;go_enter func117,ntmps117;go_wp2_with (at_builtin;refine wpList_append_own_at _ rfl _ _ 51 rfl w.heap.size 43 S (.agg #[.int .i64 0,.int .i64 0]) 2 16 underlying51 G H I J rfl (by decide) _ _ _ rfl (World.ownsRow_made w #[] 0 Xl (Nat.zero_le _) rfl) a l.length cap (l.flatMap Zt) rfl ?qc1 ?qc2 ?qc3 ?qc4 ?qc5 ?qc6 ?_)
  case qc1=>exact QS ZaJ l
  case qc2=>exact fun j u E=>Lib.cell?_alloc_some _ (A.out j u E)
  case qc3 =>
   intro u V;obtain⟨x,_,O⟩:=List.mem_flatMap.1 V;simp[Zt]at O;rcases O with rfl|rfl<;>rfl
  case qc4=>omega
  case qc5=>omega
  case qc6=>simp
  intro D m B C _ _;go_wp2_with fail;go_ret;refine⟨D,rfl,QaV (by simpa using B),fun g Y=>B.lt g Y,?_⟩;exact((Below.refl _ w).alloc Xl _).grown C (by simp) (by intro k X;simp[Value.ownBlock]at X;omega)
theorem zeO(t:Str)(w:World):Calls prog 147 #[.string t] w fun e w'=>e=.returned (zbT (QG t))/\Below w.heap.size w w':=by
 have E:(ByteArray.toList t==[73])=decide (lst t=[73]):=by
  rw[ByteArray.toList_eq,Bool.eq_iff_iff,beq_iff_eq,decide_eq_true_iff]
 have C:(ByteArray.toList t==[74])=decide (lst t=[74]):=by
  rw[ByteArray.toList_eq,Bool.eq_iff_iff,beq_iff_eq,decide_eq_true_iff]
 have D:=(Below.refl w.heap.size w).alloc Xl;unfold QG;by_cases B:lst t=[73]
 ·rw[if_pos B];rw[Xj B]at E;have A:lst t≠[74]:=by rw[B];decide
  rw[Xi A]at C;clear B A;go_enter func147,ntmps147;go_wp2_with fail;exact bodyPost_ret (v:=zbT ⟨1,0⟩) (by simp[results,results147,go_sem,zbT]) rfl ⟨rfl,D _⟩
 ·rw[if_neg B];rw[Xi B]at E;by_cases A:lst t=[74];all_goals
   first|rw[if_pos A]|rw[if_neg A]
   first|rw[Xj A]at C|rw[Xi A]at C
   clear B A;go_enter func147,ntmps147;go_wp2_with fail;first
    |exact bodyPost_ret (v:=zbT ⟨2,0⟩) (by simp[results,results147,go_sem,zbT]) rfl ⟨rfl,D _⟩
    |exact bodyPost_ret (v:=zbT ⟨3,0⟩) (by simp[results,results147,go_sem,zbT]) rfl ⟨rfl,D _⟩
theorem Blk.grown{w w':World}{b:Nat}{t:TypeId}{A:List Value}{B:Option Nat}(h:Blk w b t A)(D:w.grownBy w' B)(C:B≠some b):Blk w' b t A:=(D.block b h.lt (fun e=>C e.symm)).trans h
theorem Blk.other'{w:World}{b:Nat}{t:TypeId}{A:List Value}(h:Blk w b t A){a:Addr}(B:a.block≠b)(u:Value):Blk (w.setCell a u) b t A:=(Xk w a b u (fun e=>B e.symm)).trans h
theorem ZD{w:World}{base b size n:Nat}{t:TypeId}{v:Value}{xs:List Value}(h:w.ownsRow base t size v n xs)(H:b<base)(j:Nat)(u:Value):(w.setCell ⟨b,j,none⟩ u).ownsRow base t size v n xs:=by
 rcases h with⟨B,C|⟨g,cap,A,D,E,F,G⟩⟩
 ·exact⟨B,Or.inl C⟩
 ·exact⟨B,Or.inr ⟨g,cap,A,D,E,(Xk w ⟨b,j,none⟩ g u (by show g≠b;omega)).trans F,G⟩⟩
theorem Ze9(a:Str)(p:Option Addr)(n c:Nat):∀u∈[Value.string a,.slice p n c],u.oneCell'=true:=by
 intro u A;simp at A;rcases A with rfl|rfl<;>rfl
theorem qcS{w:World}{B:Nat}(h:B<=w.heap.size)(a:Addr)(u:Value):B<=(w.setCell a u).heap.size:=by simpa using h
structure Frm where
 locals:List Str
 stack:List Str
 deriving DecidableEq
def Zr(k:Str):Kd:=if lst k=[78] then .n else if lst k=[84] then .t else .ty (Qz k)
theorem ZL{k:Str}{x:Kd}(h:Qo x=lst k):Zr k=x:=by
 unfold Zr;rw[<-h];cases x with
 |n=>rfl
 |t=>rfl
 |ty y =>
  rw[if_neg (by cases y<;>simp[Qo,qe]),if_neg (by cases y<;>simp[Qo,qe])];exact congrArg Kd.ty (zU h)
theorem zas{cs:List qa}{k:Str}(h:Zg cs k=0):Qa3 cs k (Zr k):=by
 obtain⟨X,A,B⟩:=QT h;rw[ZL A];exact⟨A,B⟩
theorem qcr{cs:List qa}{k:Str}(h:Zg cs k=0):qbp (Zr k)<=3:=qbg (zas h) h
def qG(cs:List qa)(f:Frm):Nat :=
 if 8<f.locals.length\/8<f.stack.length then 4 else Zh (Zg cs) (f.locals++f.stack)
def qbD(cs:List qa)(a b:Str):Str:=str (Qo (Q2 cs (Zr a) (Zr b)))
theorem qdP{cs:List qa}{a b z:Str}{x y:Kd}(A:Qo x=lst a)(B:Qo y=lst b)(C:Qo (Q2 cs x y)=lst z):qbD cs a b=z:=by
 unfold qbD;rw[ZL A,ZL B,C];rfl
def Zas(cs:List qa)(a b:List Str):List Str:=List.zipWith (qbD cs) a b
def qau(a b:Frm):Bool:=decide (a.locals.length=b.locals.length)&&decide (a.stack.length=b.stack.length)
def ZaA(cs:List qa)(a b:Frm):Frm:=⟨Zas cs a.locals b.locals,Zas cs a.stack b.stack⟩
theorem Qt{cs:List qa}{f:Frm}(h:qG cs f=0):f.locals.length<=8/\f.stack.length<=8/\(∀k∈f.locals,Zg cs k=0)/\∀k∈f.stack,Zg cs k=0:=by
 unfold qG at h;split at h
 ·cases h
 ·rename_i C;have B:=ZaM h;exact⟨by omega,by omega,fun k A=>B k (List.mem_append_left _ A),fun k A=>B k (List.mem_append_right _ A)⟩
theorem QcS(a b:List Str)(T U:Value)(w:World)(V:qp w T a)(X:qp w U b):Calls prog 135 #[T,U] w fun e w'=>e=.returned (.bool (decide (a=b)))/\Below w.heap.size w w':=by
 obtain⟨p,cap,rfl,l,m,F⟩:=V.open;obtain⟨q,n,rfl,r,s,G⟩:=X.open;have c:=Xh F;have d:=Xh G;have Y:a.length<=9223372036854775807:=Xf l m;clear V X F G;by_cases J:a.length=b.length
 ·have M:((a.length:Int) != (b.length:Int))=false:=by simp[J]
  go_enter func135,ntmps135;go_wp2_with fail;all_goals first|(exfalso;omega)|skip
  go_loopw [13] (fun i wr=>∃k:Nat,k<=a.length/\Hid (decide (a.drop k=b.drop k)=decide (a=b))/\Below w.heap.size w wr/\i=.int .i64 k) (fun i _=>a.length-(intOf i).toNat)
  case atStart=>exact⟨0,by omega,rfl,Xb,rfl⟩
  case round =>
   obtain⟨k,t,H,B,rfl⟩:=hrel;by_cases E:k<a.length
   ·obtain⟨x,L⟩:∃x,a[k]? = some x:=⟨a[k],by simp[E]⟩;obtain⟨y,R⟩:∃y,b[k]? = some y:=⟨b[k]'(by omega),by simp[<-J,E]⟩;obtain⟨v,z,vs,rfl,I,_,S⟩:=c.out k x L;unfold qt at I;subst I;obtain⟨b2,o2,vs,rfl,I,_,A⟩:=d.out k y R;unfold qt at I;subst I;have f:=(S.mono B S.lt).1;have g:=(A.mono B A.lt).1;rw[Nat.mul_one]at f g;have D:=QdP a b J k x y L R;rw[H.out,<-Zay]at D;have o:=Xh L;have j:k<b.length:=(by omega);clear L R S A;cases Z:x.toList==y.toList with
    |true =>
     rw[Z,Bool.true_and]at D;have N:=Xh D.symm;clear D;go_upto_region 6 with fail;go_quiet (fail);go_wp2
     go_roundw;case rel=>exact⟨k+1,by omega,N.out,⟨B.os,B.tape,B.output,B.size,B.block⟩,by simp⟩
     case measure=>simp[intOf];omega
    |false =>
     rw[Z,Bool.false_and]at D;have O:=Xh D;clear D;go_upto_region 6 with fail;go_quiet (fail);go_wp2
     go_ret;exact⟨by rw[O.out];rfl,⟨B.os,B.tape,B.output,B.size,B.block⟩⟩
   ·obtain rfl:k=a.length:=(by omega);have C:decide (a=b)=true:=(by rw[<-H.out,Xg Xl,Xg (by omega)];rfl);have O:=Xh C;clear C;go_wp2_with fail;go_ret;exact⟨by rw[O.out];rfl,B⟩
 ·have P:decide (a=b)=false:=by simpa using fun h=>J (by rw[h])
  have M:((a.length:Int) != (b.length:Int))=true:=by simp;omega
  rw[P];go_enter func135,ntmps135;go_wp2_with fail;all_goals first|(exfalso;omega)|skip
  go_ret;exact⟨rfl,Xb⟩
def Qbq(f:Frm):Prop:=(∀k∈f.locals,k.size<=4194304)/\∀k∈f.stack,k.size<=4194304
def QI(w:World)(lv sv:Value)(f:Frm):Prop:=qp w lv f.locals/\qp w sv f.stack
theorem QI.mono{w w':World}(A:Below w.heap.size w w'){B C:Value}{f:Frm}(h:QI w B C f):QI w' B C f:=⟨h.1.mono A,h.2.mono A⟩
theorem zfp(a b:Frm):decide (a=b)=(decide (a.locals=b.locals)&&decide (a.stack=b.stack)):=by
 cases a;cases b;rw[Bool.eq_iff_iff];simp
theorem qcM(a b:Frm)(D E F G:Value)(w:World)(L:QI w D E a)(M:QI w F G b):
 Calls prog 104 #[.agg #[D,E],.agg #[F,G]] w fun e w'=>e=.returned (.bool (decide (a=b)))/\Below w.heap.size w w':=by
 have H:Hid (∀wx,Below w.heap.size w wx->_):=fun wx h=>QcS a.locals b.locals D F wx (L.1.mono h) (M.1.mono h)
 have N:Hid (∀wx,Below w.heap.size w wx->_):=fun wx h=>QcS a.stack b.stack E G wx (L.2.mono h) (M.2.mono h)
 rw[zfp];clear L M;have I:=Xh (((Below.refl w.heap.size w).alloc Xl (.cells #[D,E] 133)).alloc (by simp) (.cells #[F,G] 133));obtain⟨J,B⟩:∃J,J=(w.alloc (.cells #[D,E] 133)).alloc (.cells #[F,G] 133):=⟨_,rfl⟩;have O:Hid (Blk J w.heap.size 133 [D,E]):=by
  rw[B];exact(Blk.new w 133 [D,E]).step (Xb.alloc Xl _)
 have P:Hid (Blk J (w.heap.size+1) 133 [F,G]):=by
  rw[B];have:=Blk.new (w.alloc (.cells #[D,E] 133)) 133 [F,G];unfold Hid;simpa using this
 rw[<-B]at I;have S:=Xh B.symm;clear B;generalize decide (a.locals=b.locals)=d at *;cases d with
 |true =>
  rw[Bool.true_and];generalize decide (a.stack=b.stack)=r at *;go_enter func104,ntmps104;go_wp2_with (first
   |(go_at_call 135;rw[S.out];(with_reducible refine(H.out _ I.out).mono ?_);rintro e T⟨rfl,C⟩;(have A:=Qa I Xl C);obtain⟨U,V⟩:=(O.out.step C).cells2;obtain⟨X,Y⟩:=(P.out.step C).cells2)
   |(go_fit (N.out _ A);rintro e Z⟨rfl,R⟩))
  go_ret;exact⟨rfl,Qa A Xl R⟩
 |false =>
  rw[Bool.false_and];go_enter func104,ntmps104;go_wp2_with (first
   |(go_at_call 135;rw[S.out];(with_reducible refine(H.out _ I.out).mono ?_);rintro e T⟨rfl,C⟩;(have A:=Qa I Xl C)))
  go_ret;exact⟨rfl,A⟩
theorem qcv{cs:List qa}{a b:List Str}{k:Nat}{x y:Str}(A:a[k]? = some x)(B:b[k]? = some y):Zas cs (a.take (k+1)) (b.take (k+1))=Zas cs (a.take k) (b.take k)++[qbD cs x y]:=by
 obtain⟨C,rfl⟩:=List.getElem?_eq_some_iff.1 A;obtain⟨D,rfl⟩:=List.getElem?_eq_some_iff.1 B;unfold Zas;rw[List.take_succ_eq_append_getElem C,List.take_succ_eq_append_getElem D,List.zipWith_append (by simp;omega)];rfl
theorem Qcv{cs:List qa}{a b:List Str}(h:a.length=b.length):Zas cs (a.take a.length) (b.take a.length)=Zas cs a b:=by
 rw[List.take_length,h,List.take_length]
theorem ZaP{cs:List qa}{a b:List Str}(h:a.length=b.length):(Zas cs a b).length=a.length:=by unfold Zas;simp[h]
theorem zcT(w:World)(a:Value)(t:TypeId):∀j u,[a][j]? = some u->(w.alloc (.cells #[a] t)).cell? ((⟨w.heap.size,0,none⟩:Addr).add j)=some u:=by
 intro j u A;match j,A with
 |0,A=>simp at A;subst A;simp[Addr.add]
theorem qd9(a:Str):∀u∈[Value.string a],u.oneCell'=true:=by
 intro u A;simp at A;subst A;rfl
def zds(w:World)(cs:List qa)(a b:Frm)(e:Ending)(w':World):Prop :=
 Below w.heap.size w w'/\((qau a b=true/\∃v1 v2,e=.returned (.tuple #[.agg #[v1,v2],.bool true])/\QI w' v1 v2 (ZaA cs a b))\/(qau a b=false/\e=.returned (.tuple #[.agg #[.slice none 0 0,.slice none 0 0],.bool false])))
theorem ZeO(w0 w:World)(B:Nat)(l:List qa)(hm:qh w0 w B l)(a b:Frm)(a1 a2 b1 b2:Value)(ha:QI w a1 a2 a)(hb:QI w b1 b2 b)(hSa:Qbq a)(hSb:Qbq b)(hza:qG (Za l) a=0)(hzb:qG (Za l) b=0):
 Calls prog 103 #[.map (some B),.agg #[a1,a2],.agg #[b1,b2]] w (zds w (Za l) a b):=by
 obtain⟨p1,c1,rfl,_,_,ha1⟩:=ha.1.open;obtain⟨p2,c2,rfl,_,_,ha2⟩:=ha.2.open;obtain⟨p3,c3,rfl,_,_,hb1⟩:=hb.1.open;obtain⟨p4,c4,rfl,_,_,hb2⟩:=hb.2.open;obtain⟨hla,hsa,hka1,hka2⟩:=Qt hza;obtain⟨hlb,hsb,hkb1,hkb2⟩:=Qt hzb;have HO:Hid (∀wx x y,Below w.heap.size w wx->(x∈a.locals/\y∈b.locals)\/(x∈a.stack/\y∈b.stack)->Calls prog 134 #[.map (some B),.string x,.string y] wx fun e w'=>e=.returned (.string (qbD (Za l) x y))/\Below wx.heap.size wx w'):=fun wx x y d h=>by
  have j:Zg (Za l) x=0/\Zg (Za l) y=0/\x.size<=4194304/\y.size<=4194304:=by
   rcases h with⟨o,h2⟩|⟨o,h2⟩
   ·exact⟨hka1 x o,hkb1 y h2,hSa.1 x o,hSb.1 y h2⟩
   ·exact⟨hka2 x o,hkb2 y h2,hSa.2 x o,hSb.2 y h2⟩
  obtain⟨X,hX⟩:=QT j.1;obtain⟨Y,hY⟩:=QT j.2.1;refine(Qfo w0 wx B l (hm.step d) x y X Y hX hY j.2.2.1 j.2.2.2).mono ?_;rintro e w'⟨⟨z,rfl,hz,_⟩,hB'⟩;exact⟨by rw[qdP hX.1 hY.1 hz],hB'⟩
 have HA1:=Xh ha1;have HA2:=Xh ha2;have HB1:=Xh hb1;have HB2:=Xh hb2;obtain⟨i0,hi,hz0,hz1,hz2⟩:=info_parts Zae;obtain⟨n,aL⟩:∃n,a.locals.length=n:=⟨_,rfl⟩;obtain⟨n',hn2⟩:∃n,b.locals.length=n:=⟨_,rfl⟩;obtain⟨m,aM⟩:∃n,a.stack.length=n:=⟨_,rfl⟩;obtain⟨m',hm2⟩:∃n,b.stack.length=n:=⟨_,rfl⟩;rw[aL,hn2,aM,hm2];have HBn:=Xh ((((Below.refl w.heap.size w).alloc Xl (.cells #[.slice p1 n c1,.slice p2 m c2] 133)).alloc (by simp) (.cells #[.slice p3 n' c3,.slice p4 m' c4] 133)).alloc (by simp;omega) (.cells #[.slice none 0 0,.slice none 0 0] 133));rw[aL]at hla;rw[aM]at hsa;unfold zds;clear ha1 ha2 hb1 hb2 hka1 hka2 hkb1 hkb2 hza hzb hSa hSb hm ha hb hlb hsb;have P:qau a b=(decide (n=n')&&decide (m=m')):=by unfold qau;rw[aL,hn2,aM,hm2]
 have q:=Xh aL;have HN2:=Xh hn2;have r:=Xh aM;have HM2:=Xh hm2;clear aL hn2 aM hm2;generalize Za l=cs at *;by_cases o:n=n'
 ·by_cases h2:m=m'
  ·subst o h2;have z1:((n:Int) != (n:Int))=false:=(by simp);have z2:((m:Int) != (m:Int))=false:=(by simp);rw[Xj rfl,Xj rfl,Bool.and_true]at P;have HS:=Xh P;clear P;obtain⟨w1,T⟩:∃w1,w1=(((w.alloc (.cells #[.slice p1 n c1,.slice p2 m c2] 133)).alloc (.cells #[.slice p3 n c3,.slice p4 m c4] 133)).alloc (.cells #[.slice none 0 0,.slice none 0 0] 133)).alloc (.cells #[.slice none 0 0,.slice none 0 0] 133):=⟨_,rfl⟩;have hB1':Below w.heap.size w w1:=(by rw[T];exact HBn.out.alloc (by simp;omega) _);have hsz:w1.heap.size=w.heap.size+4:=(by rw[T];simp);have I:Blk w1 w.heap.size 133 [.slice p1 n c1,.slice p2 m c2]:=by
    rw[T];exact(Blk.new w 133 _).step (((Xb.alloc Xl _).alloc (by simp) _).alloc (by simp) _)
   have H:Blk w1 (w.heap.size+1) 133 [.slice p3 n c3,.slice p4 m c4]:=by
    rw[T];have:=(Blk.new (w.alloc (.cells #[.slice p1 n c1,.slice p2 m c2] 133)) 133 [.slice p3 n c3,.slice p4 m c4]).step ((Xb.alloc Xl (.cells #[.slice none 0 0,.slice none 0 0] 133)).alloc (by simp) (.cells #[.slice none 0 0,.slice none 0 0] 133));simpa using this
   have F:Blk w1 (w.heap.size+1+1) 133 [.slice none 0 0,.slice none 0 0]:=by
    rw[T];have:=(Blk.new ((w.alloc (.cells #[.slice p1 n c1,.slice p2 m c2] 133)).alloc (.cells #[.slice p3 n c3,.slice p4 m c4] 133)) 133 [.slice none 0 0,.slice none 0 0]).step (Xb.alloc Xl (.cells #[.slice none 0 0,.slice none 0 0] 133));simpa using this
   have G:Blk w1 (w.heap.size+1+1+1) 133 [.slice none 0 0,.slice none 0 0]:=by
    rw[T];have:=Blk.new (((w.alloc (.cells #[.slice p1 n c1,.slice p2 m c2] 133)).alloc (.cells #[.slice p3 n c3,.slice p4 m c4] 133)).alloc (.cells #[.slice none 0 0,.slice none 0 0] 133)) 133 [.slice none 0 0,.slice none 0 0];simpa using this
   have HW:=Xh T.symm;go_enter func103,ntmps103;go_wp2_with fail;rw[HW.out];clear HW T HBn;have s:=Xh I;have t:=Xh H;have aA:=Xh F;have aB:=Xh G;have Z:=Xh hB1';have aC:Hid (w.heap.size+4<=w1.heap.size):=(by unfold Hid;omega);clear I H F G hB1' hsz;go_loopw [33] (fun x wr=>∃(k:Nat) (v:Value),k<=n/\Hid (Blk wr w.heap.size 133 [.slice p1 n c1,.slice p2 m c2])/\Hid (Blk wr (w.heap.size+1) 133 [.slice p3 n c3,.slice p4 m c4])/\Hid (Blk wr (w.heap.size+1+1) 133 [.slice none 0 0,.slice none 0 0])/\Hid (Blk wr (w.heap.size+1+1+1) 133 [v,.slice none 0 0])/\Hid (wr.ownsRow (w.heap.size+4) 9 1 v k ((Zas cs (a.locals.take k) (b.locals.take k)).map Value.string))/\Below w.heap.size w wr/\Hid (w.heap.size+4<=wr.heap.size)/\x=.int .i64 k) (fun x _=>n-(intOf x).toNat)
   case atStart=>exact⟨0,_,by omega,s,t,aA,aB,World.ownsRow_nil _ _ _ _,Z,aC,rfl⟩
   case round =>
    clear s t aA aB Z aC;obtain⟨k,v,hk,I,H,F,G,C,d,U,rfl⟩:=hrel;by_cases aD:k<n
    ·obtain⟨va,vc,rfl⟩:=Ze C.out;obtain⟨x,j⟩:∃x,a.locals[k]? = some x:=⟨a.locals[k]'(by rw[q.out];exact aD),by simp⟩;obtain⟨y,hy⟩:∃y,b.locals[k]? = some y:=⟨b.locals[k]'(by rw[HN2.out];exact aD),by simp⟩;obtain⟨ba,oa,vs,rfl,hR,_,f⟩:=HA1.out k x j;unfold qt at hR;subst hR;obtain⟨bb,ob,vs,rfl,hR,_,i⟩:=HB1.out k y hy;unfold qt at hR;subst hR;have c0:=(f.mono d f.lt).1;have d0:=(i.mono d i.lt).1;rw[Nat.mul_one]at c0 d0;have e1:=H.out.cells2;have q1:wr.cell? ⟨w.heap.size+1,0,none⟩=some (.slice (some ⟨bb,ob,none⟩) n c3):=e1.1;have e3:=G.out.cells2;have q3:wr.cell? ⟨w.heap.size+1+1+1,0,none⟩=some (.slice va k vc):=e3.1;have aE:=qcv (cs:=cs) j hy;have aF:=Xh (fun wx hb=>HO.out wx x y hb (Or.inl ⟨Xe j,Xe hy⟩));generalize qbD cs x y=z at *;have HSt:=Xh aE;have c:=Xh d;have b3:=Xh q3;clear aE j hy f i d e1 e3;go_upto_region 7 with fail;have aG:k+1<=maxLen:=(by unfold maxLen;omega);have aH:(k+1)*16<=140737488355328:=(by omega);have J:∀b,b<w.heap.size+4->(Value.slice va k vc).ownBlock≠some b:=fun b hb e=>by have:=(C.out.lt _ e).1;omega
     have hi1:(k:Int)<(n:Int):=(by omega);have hi0:(0:Int)<=(k:Int):=(by omega);go_region_law (first
      |(refine step_append_lies _ (by rfl) _ _ 27 (by rfl) (w.heap.size+4) 9 i0 (.string .empty) 1 16 underlying27 hi hz0 hz1 hz2 rfl (by decide) _ k _ (by rfl) L ⟨w6.heap.size,0,none⟩ 1 1 [.string z] (by rfl) rfl (zcT w6 _ 9) (qd9 _) (by decide) aG aH E (w6.heap.size+1) (by simp) ?_;intro g cap w8 N A hat hlt;(have R:=S.grown A (J _ (by omega)));(have e8:=R.cells2);(have f8:=R.frozen 0))
      |(go_simp;go_at_call 134;refine(aF.out _ (c.out.drew)).mono ?_;rintro e w6⟨rfl,V⟩;(have O:=Qa ((Below.refl wr.heap.size wr).drew) Xl V);(have d3:=(O.cell (p:=⟨w.heap.size+1+1+1,0,none⟩) (ZaS b3.out)).trans b3.out);(have d4:=Lib.cell?_alloc_some (.cells #[.string z] 9) d3);(have D:=O.alloc O.size (.cells #[.string z] 9));(have L:=Ql C.out D);(have S:=G.out.step D);(have E:=Xf U.out D.size)))
     all_goals
      have aI:=Xh ((I.out.step D).grown A (J _ (by omega)));have aJ:=Xh ((H.out.step D).grown A (J _ (by omega)));have aK:=Xh ((F.out.step D).grown A (J _ (by omega)));have hK8:=Xh R;have hO8:=Xh N;have hW8:Hid (w.heap.size+4<=w8.heap.size):=Xf E A.size;have hB8:=Xh ((Qa c Xl D).grown A (Qa c Xl D).size (fun g e=>by have:=(C.out.lt g e).1;omega));obtain⟨e8a,e8b⟩:=e8;clear d3 d4 D L S E A hat hlt R N O V b3 J I H F G C U aF c0 d0 q1 q3;go_wp2_with fail;go_roundw;case rel=>exact⟨k+1,Value.slice (some ⟨g,0,none⟩) (k+1) cap,by omega,aI.out.other' (by show w.heap.size+1+1+1≠_;omega) _,aJ.out.other' (by show w.heap.size+1+1+1≠_;omega) _,aK.out.other' (by show w.heap.size+1+1+1≠_;omega) _,hK8.out.put 0 _,by unfold Hid;rw[HSt.out,List.map_append];exact ZD hO8.out (by omega) _ _,hB8.out.setCell (by show w.heap.size<=w.heap.size+1+1+1;omega) _,qcS hW8.out _ _,by simp⟩
      case measure=>simp[intOf];omega
    ·obtain⟨g1,k1,rfl⟩:=Ze C.out;obtain rfl:n=k:=(by omega);have hj:=Qcv (cs:=cs) (a:=a.locals) (b:=b.locals) (by rw[q.out,HN2.out]);rw[q.out]at hj;have ho1:=C.out;rw[hj]at ho1;obtain⟨q0,q1⟩:=I.out.cells2;have s:=Xh I.out;have t:=Xh H.out;have aA:=Xh F.out;have aB:=Xh G.out;have HO1:=Xh ho1;have Z:=Xh d;have aC:=Xh U.out;clear I H F G C d U ho1 hj;go_wp2_with fail;go_loopw [55] (fun x wr=>∃(k:Nat) (v:Value),k<=m/\Hid (Blk wr w.heap.size 133 [.slice p1 n c1,.slice p2 m c2])/\Hid (Blk wr (w.heap.size+1) 133 [.slice p3 n c3,.slice p4 m c4])/\Hid (Blk wr (w.heap.size+1+1) 133 [.slice none 0 0,.slice none 0 0])/\Hid (Blk wr (w.heap.size+1+1+1) 133 [.slice g1 n k1,v])/\Hid (wr.ownsRow (w.heap.size+4) 9 1 v k ((Zas cs (a.stack.take k) (b.stack.take k)).map Value.string))/\Hid (wr.ownsRow (w.heap.size+4) 9 1 (.slice g1 n k1) n ((Zas cs a.locals b.locals).map Value.string))/\Hid (∀g,(Value.slice g1 n k1).ownBlock=some g->v.ownBlock≠some g)/\Below w.heap.size w wr/\Hid (w.heap.size+4<=wr.heap.size)/\x=.int .i64 k) (fun x _=>m-(intOf x).toNat)
     case atStart=>exact⟨0,_,by omega,s,t,aA,aB,World.ownsRow_nil _ _ _ _,HO1,(by intro g _ h;cases h),Z,aC,rfl⟩
     case round =>
      clear s t aA aB Z aC HO1;obtain⟨k,v,hk,I,H,F,G,C,M,hap,d,U,rfl⟩:=hrel;by_cases aD:k<m
      ·obtain⟨va,vc,rfl⟩:=Ze C.out;obtain⟨x,j⟩:∃x,a.stack[k]? = some x:=⟨a.stack[k]'(by rw[r.out];exact aD),by simp⟩;obtain⟨y,hy⟩:∃y,b.stack[k]? = some y:=⟨b.stack[k]'(by rw[HM2.out];exact aD),by simp⟩;obtain⟨ba,oa,vs,rfl,hR,_,f⟩:=HA2.out k x j;unfold qt at hR;subst hR;obtain⟨bb,ob,vs,rfl,hR,_,i⟩:=HB2.out k y hy;unfold qt at hR;subst hR;have c0:=(f.mono d f.lt).1;have d0:=(i.mono d i.lt).1;rw[Nat.mul_one]at c0 d0;have e1:=H.out.cells2;have q1:wr.cell? ⟨w.heap.size+1,1,none⟩=some (.slice (some ⟨bb,ob,none⟩) m c4):=e1.2;have e3:=G.out.cells2;have q3:wr.cell? ⟨w.heap.size+1+1+1,1,none⟩=some (.slice va k vc):=e3.2;have aE:=qcv (cs:=cs) j hy;have aF:=Xh (fun wx hb=>HO.out wx x y hb (Or.inr ⟨Xe j,Xe hy⟩));generalize qbD cs x y=z at *;have HSt:=Xh aE;have c:=Xh d;have b3:=Xh q3;clear aE j hy f i d e1 e3;go_upto_region 12 with fail;have aG:k+1<=maxLen:=(by unfold maxLen;omega);have aH:(k+1)*16<=140737488355328:=(by omega);have J:∀b,b<w.heap.size+4->(Value.slice va k vc).ownBlock≠some b:=fun b hb e=>by have:=(C.out.lt _ e).1;omega
       have hi1:(k:Int)<(m:Int):=(by omega);have hi0:(0:Int)<=(k:Int):=(by omega);go_region_law (first
        |(refine step_append_lies _ (by rfl) _ _ 27 (by rfl) (w.heap.size+4) 9 i0 (.string .empty) 1 16 underlying27 hi hz0 hz1 hz2 rfl (by decide) _ k _ (by rfl) L ⟨w6.heap.size,0,none⟩ 1 1 [.string z] (by rfl) rfl (zcT w6 _ 9) (qd9 _) (by decide) aG aH E (w6.heap.size+1) (by simp) ?_;intro g cap w8 N A hat hlt;(have R:=S.grown A (J _ (by omega)));(have e8:=R.cells2);(have f8:=R.frozen 1))
        |(go_simp;go_at_call 134;refine(aF.out _ (c.out.drew)).mono ?_;rintro e w6⟨rfl,V⟩;(have O:=Qa ((Below.refl wr.heap.size wr).drew) Xl V);(have d3:=(O.cell (p:=⟨w.heap.size+1+1+1,1,none⟩) (ZaS b3.out)).trans b3.out);(have d4:=Lib.cell?_alloc_some (.cells #[.string z] 9) d3);(have D:=O.alloc O.size (.cells #[.string z] 9));(have L:=Ql C.out D);(have S:=G.out.step D);(have E:=Xf U.out D.size)))
       all_goals
        have aI:=Xh ((I.out.step D).grown A (J _ (by omega)));have aJ:=Xh ((H.out.step D).grown A (J _ (by omega)));have aK:=Xh ((F.out.step D).grown A (J _ (by omega)));have hK8:=Xh R;have hO8:=Xh N;have hW8:Hid (w.heap.size+4<=w8.heap.size):=Xf E A.size;have hB8:=Xh ((Qa c Xl D).grown A (Qa c Xl D).size (fun g e=>by have:=(C.out.lt g e).1;omega));have hG8:∀g0,(Value.slice g1 n k1).ownBlock=some g0->g0≠g:=fun g0 e0 he=>by
         subst he;rcases hat with h|h
         ·exact hap.out _ e0 h
         ·have o:=(M.out.lt _ e0).2;have h2:=D.size;have h3:=O.size;omega
        have hP8:=Xh ((Ql M.out D).kept A (by
         cases h:(Value.slice g1 n k1).ownBlock with
         |none=>exact Or.inl rfl
         |some g0=>exact Or.inr (fun e=>hap.out g0 h e.symm)))
        have hA8:Hid (∀g0,(Value.slice g1 n k1).ownBlock=some g0->(Value.slice (some ⟨g,0,none⟩) (k+1) cap).ownBlock≠some g0):=fun g0 e0 he=>hG8 g0 e0 (by injection he with he;exact he.symm)
        obtain⟨e8a,e8b⟩:=e8;clear d3 d4 D L S E A hat hlt R N O V b3 J I H F G C U aF c0 d0 q1 q3 hG8 M hap;go_wp2_with fail;go_roundw;case rel=>exact⟨k+1,Value.slice (some ⟨g,0,none⟩) (k+1) cap,by omega,aI.out.other' (by show w.heap.size+1+1+1≠_;omega) _,aJ.out.other' (by show w.heap.size+1+1+1≠_;omega) _,aK.out.other' (by show w.heap.size+1+1+1≠_;omega) _,hK8.out.put 1 _,by unfold Hid;rw[HSt.out,List.map_append];exact ZD hO8.out (by omega) _ _,ZD hP8.out (by omega) _ _,hA8,hB8.out.setCell (by show w.heap.size<=w.heap.size+1+1+1;omega) _,qcS hW8.out _ _,by simp⟩
        case measure=>simp[intOf];omega
      ·obtain⟨va,vc,rfl⟩:=Ze C.out;obtain rfl:m=k:=(by omega);have hj:=Qcv (cs:=cs) (a:=a.stack) (b:=b.stack) (by rw[r.out,HM2.out]);rw[r.out]at hj;have ho2:=C.out;rw[hj]at ho2;obtain⟨q0,q1⟩:=G.out.cells2;obtain⟨q2,q3⟩:=F.out.cells2;have f2:=F.out.frozen 0;have f3:=F.out.frozen 1;have HR1:=Xh (ZD (ZD M.out (show w.heap.size+1+1<w.heap.size+4 by omega) 0 (.slice g1 n k1)) (show w.heap.size+1+1<w.heap.size+4 by omega) 1 (.slice va m vc));have HR2:=Xh (ZD (ZD ho2 (show w.heap.size+1+1<w.heap.size+4 by omega) 0 (.slice g1 n k1)) (show w.heap.size+1+1<w.heap.size+4 by omega) 1 (.slice va m vc));have Z:=Xh (ZaF (b:=w.heap.size+1+1) d (by omega) (.slice g1 n k1) (.slice va m vc));clear I H F G C M hap d U ho2 hj;go_wp2_with fail;refine bodyPost_ret (v:=.tuple #[.agg #[.slice g1 n k1,.slice va m vc],.bool true]) (by simp[results,results103,go_sem, *]) rfl ⟨Z,Or.inl ⟨HS,_,_,rfl,?_⟩⟩;exact⟨Zk (l:=Zas cs a.locals b.locals) (by rw[ZaP (by rw[q.out,HN2.out]),q.out];exact HR1.out),Zk (l:=Zas cs a.stack b.stack) (by rw[ZaP (by rw[r.out,HM2.out]),r.out];exact HR2.out)⟩
  ·have z1:((n:Int) != (n':Int))=false:=(by simp[o]);have z2:((m:Int) != (m':Int))=true:=(by simp;omega);rw[Xi h2,Bool.and_false]at P;have HS:=Xh P;clear P o h2;go_enter func103,ntmps103;go_wp2_with fail;exact bodyPost_ret (v:=.tuple #[.agg #[.slice none 0 0,.slice none 0 0],.bool false]) (by simp[results,results103,go_sem, *]) rfl ⟨HBn,Or.inr ⟨HS,rfl⟩⟩
 ·have z1:((n:Int) != (n':Int))=true:=by simp;omega
  rw[Xi o,Bool.false_and]at P;have HS:=Xh P;clear P o;go_enter func103,ntmps103;go_wp2_with fail;exact bodyPost_ret (v:=.tuple #[.agg #[.slice none 0 0,.slice none 0 0],.bool false]) (by simp[results,results103,go_sem, *]) rfl ⟨HBn,Or.inr ⟨HS,rfl⟩⟩
theorem qp.apart{w:World}{v:Value}{l:List Str}{b:Nat}{t:TypeId}{x y:Value}(h:qp w v l)(H:Blk w b t [x,y])(C:∀s,x≠.string s)(I:∀s,y≠.string s){w':World}(J:∀g,g≠b->w'.heap[g]? = w.heap[g]?):qp w' v l:=by
 cases l with
 |nil =>
  rcases h with h|⟨a,cap,D,F,G,_⟩
  ·exact Or.inl h
  ·exact Or.inr ⟨a,cap,D,F,G,fun i x C=>by simp at C⟩
 |cons z r =>
  refine Qe.block h fun g B=>J g fun M=>?_
  subst M;rcases h with⟨_,h⟩|⟨a,cap,D,F,G,N⟩
  ·cases h
  ·rw[D]at B;injection B with B
   subst B;obtain⟨vs,E,_,_,L⟩:=N 0 z rfl;unfold qt at E;subst E;have A:=L.1;rw[H.cell]at A;rcases Nat.lt_or_ge (a.off+0*1) 2 with h|h
   ·have:a.off+0*1=0\/a.off+0*1=1:=(by omega);rcases this with h|h<;>rw[h]at A<;>injection A with A
    ·exact C _ A
    ·exact I _ A
   ·rw[List.getElem?_eq_none (by simpa using h)]at A;cases A
