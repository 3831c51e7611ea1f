/- Lemmas; conditions: as each states. -/
import Derived.Test.YtmclocdhcblbiaaGreatDoorRows
import Derived.Test.YtmclocdhcblbiaaGreatDoorZFrameOps
import Derived.Lib.LaidTab
import Derived.ProofKit
import Derived.Deep.Slices
set_option maxHeartbeats 4000000
namespace Go.Proofs.YtmclocdhcblbiaaGreatDoor
open Go.RowKit Go.Shelf Go.Lib
theorem QeG:Tryz.prog.globalNamed "coffeehouse/ins.forms"=some 3:=by kernel_rfl
theorem QdH:(Tryz.prog.globals[3]?).map (·.type)=some 252:=by kernel_rfl
theorem zdI:Tryz.prog.underlying 252=some (.array 29 234):=by kernel_rfl
theorem ZdI:Tryz.prog.cellsOf 252=29*2:=by kernel_rfl
theorem QcO:Tryz.prog.cellsOf 234=2:=by kernel_rfl
theorem Ze4:Tryz.prog.cellsOf 9=1:=by kernel_rfl
theorem zdi:Tryz.prog.underlying 9=some .string:=by kernel_rfl
set_option maxRecDepth 100000
theorem qdI{H:Type}{enc:TypeId×Value->H}{w:World}{base:Nat}{sp:Nat->Bool}{held:Bool}{fuel:Nat}{cs:List Value}{x:DataW H×List MemPlace}{a b:List UInt8}(h:DataW.trod enc Tryz.prog w base sp held fuel 234 cs=some x)(B:x.1=.agg [.lit (.string a),.lit (.string b)]):cs=[.string ⟨a.toArray⟩,.string ⟨b.toArray⟩]:=by
 obtain⟨xs,n,_,rfl,C,A,D⟩:=DataW.trod_struct Tryz.underlying234 h;rw[QcO]at C;match cs,C,xs,A with
 |[v0,O],_,[P,R],_ =>
  have G:=D 0 _ rfl;have I:=D 1 _ rfl;obtain⟨M,E,J,_⟩:=DataW.trod_string zdi G;obtain⟨N,F,L,_⟩:=DataW.trod_string zdi I;simp[Ze4]at E F;subst E F J L;simp only[List.map_cons,List.map_nil,DataW.agg.injEq,List.cons.injEq,DataW.lit.injEq,Lit.string.injEq,and_true]at B;obtain⟨rfl,rfl⟩:=B;simp
theorem QdI{H:Type}:(Rows.laid_coffeehouse_ins_forms:DataW H)=.agg ((List.range 29).map fun i=>.agg [.lit (.string (QbY.getD i [])),.lit (.string (zbZ.getD i []))]):=rfl
theorem Zdi{H:Type}{enc:TypeId×Value->H}{w:World}{base:Nat}{sp:Nat->Bool}{held:Bool}{fuel:Nat}{cs:List Value}{p:List MemPlace}(h:DataW.trod enc Tryz.prog w base sp held fuel 252 cs=some (Rows.laid_coffeehouse_ins_forms,p)):∀i,i<29->cs[i*2]? = some (.string (ZbZ i))/\cs[i*2+1]? = some (.string (qat i)):=by
 cases fuel with
 |zero=>simp[DataW.trod]at h
 |succ fuel =>
  simp only[DataW.trod,zdI,QcO,ZdI]at h;split at h
  ·obtain⟨xs,G,I⟩:=Option.map_eq_some_iff.1 h;have B:xs.map (·.1)=(List.range 29).map fun i=>(.agg [.lit (.string (QbY.getD i [])),.lit (.string (zbZ.getD i []))]:DataW H):=by
    have:=congrArg Prod.fst I;rw[QdI]at this;simpa using this
   intro i F;obtain⟨b,J,L⟩:=Lib.mapM_at G i i (by simp[F]);have C:(xs.map (·.1))[i]? = some b.1:=(by simp[J]);rw[B,List.getElem?_map,List.getElem?_range F]at C;simp only[Option.map_some,Option.some.injEq]at C;have A:=qdI L C.symm;have D:=congrArg (·[0]?) A;have E:=congrArg (·[1]?) A;simp[List.getElem?_drop]at D E;exact⟨by rw[D];rfl,by rw[E];rfl⟩
  ·cases h
theorem Qc2{W:World}{a c:String×DataW Unit}(h:laidMet Tryz.prog [a,("coffeehouse/ins.forms",Rows.laid_coffeehouse_ins_forms),c] W):Qax W:=by
 obtain⟨ps,H,_⟩:=h;obtain⟨_,_,_,_,_,_,_,_,_,_,D,_⟩:=H;obtain⟨g,t,cs,fuel,p,q,B,C,A,I,_,_⟩:=D;rw[QeG]at B;injection B with B
 subst B;rw[QdH]at C;injection C with C
 subst C;have G:=Zdi I;unfold World.var? at A;rw[QeG]at A;simp only[Option.bind_some]at A;split at A
 ·rename_i E ty N F;injection A with A
  subst A;refine⟨(Array.getElem?_eq_some_iff.1 F).1,fun i M=>?_⟩;obtain⟨J,L⟩:=G i M;constructor
  ·simp only[World.cell?,F];simpa using J
  ·simp only[World.cell?,F];simpa using L
 ·cases A
theorem qe4{W:World}{a c:String×DataW Unit}(B:a.2.handleName?.isSome=false)(C:c.2.handleName?.isSome=false)(h:laidMetH Tryz.prog [a,("coffeehouse/ins.forms",Rows.laid_coffeehouse_ins_forms),c] W):Qax W:=by
 unfold laidMetH at h;have D:([a,("coffeehouse/ins.forms",Rows.laid_coffeehouse_ins_forms),c].filter fun x=>x.2.handleName?.isSome)=[]:=by
  rw[List.filter_eq_nil_iff];intro x A;simp only[List.mem_cons,List.mem_nil_iff,or_false]at A;rcases A with rfl|rfl|rfl
  ·simp[B]
  ·decide
  ·simp[C]
 rw[D]at h;exact Qc2 h
open Go.RowKit Go.ChangeShapes Go.WideShapes Go.Deep
theorem qed{w:World}{a:Addr}{v:Value}(h:w.cell? a=some v):a=⟨a.block,a.off,none⟩:=by
 unfold World.cell? at h;split at h
 ·split at h
  ·simp at h
  ·rename_i A;cases a with
   |mk b o s=>cases s<;>simp_all
 ·simp at h
theorem qfk{a:Addr}(A:a=⟨a.block,a.off,none⟩)(n:Nat):a.add n=⟨a.block,a.off+n,none⟩:=by
 unfold Addr.add;split
 ·subst_vars;simpa using A
 ·rfl
theorem za6{w:World}{b:Nat}:∀(k s o:Nat) (cs:List Value),(List.range' s k).mapM (fun j=>w.cell? ⟨b,o+j,none⟩)=some cs->cs.length=k/\qw w b (o+s) cs
 |0,s,o,cs,h=>by
  simp at h;subst h;exact⟨rfl,trivial⟩
 |k+1,s,o,cs,h=>by
  rw[List.range'_succ,List.mapM_cons]at h;cases A:w.cell? ⟨b,o+s,none⟩ with
  |none=>simp[A]at h
  |some v =>
   cases B:(List.range' (s+1) k).mapM (fun j=>w.cell? ⟨b,o+j,none⟩) with
   |none=>simp[A,B]at h
   |some r =>
    simp[A,B]at h;subst h;obtain⟨C,D⟩:=za6 k (s+1) o r B;exact⟨by simp[C],A,by rw[Nat.add_assoc];exact D⟩
theorem qdi{w:World}{base k:Nat}{a:Addr}{n:Nat}{cs:List Value}(A:a=⟨a.block,a.off,none⟩)(h:w.cells? base (a.add n) k=some cs):
 cs.length=k/\qw w a.block (a.off+n) cs:=by
 unfold World.cells? at h;split at h
 ·rw[List.range_eq_range']at h;have e:(fun i=>w.cell? ((a.add n).add i))=fun j=>w.cell? ⟨a.block,(a.off+n)+j,none⟩:=by
   funext j;rw[add_add,qfk A,Nat.add_assoc]
  rw[e]at h;have:=za6 k 0 (a.off+n) cs h;simpa using this
 ·simp at h
section
variable {H:Type} {enc:TypeId×Value->H} {P:Program} {w:World} {base:Nat} {spare:Nat->Bool} {held:Bool}
def zc3{α β:Type}(f:α->β->Prop):List α->List β->Prop
 |[],[]=>True
 |x::r,y::s=>f x y/\zc3 f r s
 |_,_=>False
theorem zck{α β:Type}{f:α->β->Prop}:∀(n s:Nat) (D:Nat->β),(∀i,s<=i->i<s+n->∃x,f x (D i))->∃l:List α,l.length=n/\zc3 f l ((List.range' s n).map D)/\∀i x,l[i]? = some x->f x (D (s+i))
 |0,s,D,_=>⟨[],rfl,trivial,fun i x h=>by simp at h⟩
 |n+1,s,D,h=>by
  obtain⟨x,B⟩:=h s Xl (by omega);obtain⟨l,C,E,F⟩:=zck n (s+1) D fun i a b=>h i (by omega) (by omega)
  refine⟨x::l,by simp[C],?_,?_⟩
  ·rw[List.range'_succ];exact⟨B,E⟩
  ·intro i y A;cases i with
   |zero=>simp at A;subst A;exact B
   |succ i=>have:=F i y (by simpa using A);rwa [show s+(i+1)=s+1+i from by omega]
theorem Qbu{α:Type}(R:α->List Value->Prop)(f:α->DataW H->Prop){t e k:Nat}(o:P.underlying t=some (.slice e))(p:P.cellsOf e=k)(q:0<k)(J:∀(fuel:Nat) (cs:List Value) (y:DataW H×List MemPlace),cs.length=k->DataW.trod enc P w base spare held fuel e cs=some y->∃x,R x cs/\f x y.1){fuel:Nat}{v:Value}{x:DataW H×List MemPlace}(h:DataW.trod enc P w base spare held fuel t [v]=some x):
 ∃l:List α,Qe w k R v l/\((x.1=.nil/\l=[])\/∃A sp,x.1=.slice A sp/\zc3 f l A):=by
 rcases open_slice o h with⟨G,X⟩|⟨a,B,cap,m,n,D,Pl,G,X,h3,h4,h5,h6,Y⟩
 ·simp at G;subst G;subst X;exact⟨[],Or.inl ⟨rfl,rfl⟩,Or.inl ⟨rfl,rfl⟩⟩
 ·simp at G;subst G;have r:B<=m:=by rw[h5];split<;>omega
  rw[p]at Y;have L:0<B->a=⟨a.block,a.off,none⟩:=by
   intro h0;obtain⟨F,C,_⟩:=Y 0 (by omega);unfold World.cells? at C;rw[if_pos (by simpa[Addr.add] using X)]at C;cases k with
   |zero=>omega
   |succ k =>
    rw[List.range_eq_range',List.range'_succ,List.mapM_cons]at C;simp only[Nat.zero_mul]at C;cases M:w.cell? ((a.add 0).add 0) with
    |none=>rw[M]at C;simp at C
    |some v=>simp[Addr.add]at M;exact qed M
  obtain⟨l,Z,N,O⟩:=zck (f:=fun x d=>∃i cs,d=(i,D i)/\w.cells? base (a.add (i*k)) k=some cs/\R x cs/\f x (D i)) B 0 (fun i=>(i,D i)) (fun i _ V=>by
   obtain⟨F,C,z⟩:=Y i (by omega);obtain⟨E,_⟩:=qdi (L (by omega)) C;obtain⟨x,S,T⟩:=J _ _ _ E z;exact⟨x,i,F,rfl,C,S,T⟩)
  refine⟨l,Or.inr ⟨a,cap,by rw[Z],by omega,h4,?_⟩,Or.inr ⟨(List.range B).map D,_,by rw[h6],?_⟩⟩
  ·intro i x V;obtain⟨j,cs,I,b,c,g⟩:=O i x V;simp at I;obtain⟨rfl,_⟩:=I;have s:i<B:=by
    rw[<-Z];exact(List.getElem?_eq_some_iff.1 V).1
   obtain⟨E,U⟩:=qdi (L (by omega)) b;exact⟨cs,c,E,L (by omega),U⟩
  ·have:∀(l:List α) (A:List (Nat×DataW H)),zc3 (fun x d=>∃i cs,d=(i,D i)/\w.cells? base (a.add (i*k)) k=some cs/\R x cs/\f x (D i)) l A->zc3 f l (A.map (·.2)):=by
    intro l;induction l with
    |nil=>intro A;cases A<;>simp[zc3]
    |cons x l ih =>
     intro A;cases A with
     |nil=>simp[zc3]
     |cons d A =>
      rintro⟨⟨i,cs,I,b,c,g⟩,h⟩;exact⟨by rw[I];exact g,ih A h⟩
   have:=this _ _ N;rw[List.map_map]at this;rw[List.range_eq_range'];exact this
end
open Go.RowKit Go.Shelf Go.Lib Go.ChangeShapes Go.WideShapes Go.Deep
theorem Za6:Tryz.prog.cellsOf 9=1:=by kernel_rfl
theorem Zck:Tryz.prog.cellsOf 3=1:=by kernel_rfl
theorem zcP:Tryz.prog.cellsOf 4=1:=by kernel_rfl
theorem Qed:Tryz.prog.cellsOf 27=1:=by kernel_rfl
theorem zee:Tryz.prog.cellsOf 35=1:=by kernel_rfl
theorem Qe4:Tryz.prog.cellsOf 37=1:=by kernel_rfl
theorem ze5:Tryz.prog.cellsOf 28=1:=by kernel_rfl
theorem Ze5:Tryz.prog.cellsOf 29=1:=by kernel_rfl
theorem zeH:Tryz.prog.cellsOf 34=6:=by kernel_rfl
theorem Qfk:Tryz.prog.cellsOf 56=4:=by kernel_rfl
theorem zfl:Tryz.prog.cellsOf 118=2:=by kernel_rfl
theorem Zfl:Tryz.prog.cellsOf 39=8:=by kernel_rfl
theorem qfl:Tryz.prog.cellsOf 31=6:=by kernel_rfl
theorem qck{n:Int}(h:(Lit.int .i64 n).wf=true):ZbA n:=by
 unfold ZbA;have A:IntKind.i64.min = -9223372036854775808:=by decide
 have B:IntKind.i64.max=9223372036854775807:=by decide
 simp[Lit.wf]at h;omega
theorem ZeH{H:Type}(d:DataW H):1<=Rows.uptoBulk d:=by
 cases d with
 |lit l=>cases l<;>simp[Rows.uptoBulk]
 |nil=>simp[Rows.uptoBulk]
 |ptr d=>simp[Rows.uptoBulk]
 |slice B spare=>simp[Rows.uptoBulk]
 |agg C=>simp[Rows.uptoBulk]
 |iface t d=>simp[Rows.uptoBulk]
 |map A=>simp[Rows.uptoBulk]
 |held h=>simp[Rows.uptoBulk]
theorem Qdi{H:Type}(l:List (DataW H)):l.length<=Rows.uptoBulkAll l:=by
 induction l with
 |nil=>simp
 |cons x r A=>have:=ZeH x;simp only[Rows.uptoBulkAll,List.length_cons];omega
theorem Zbm{H:Type}(s:ByteArray):Rows.uptoBulk (DataW.lit (H:=H) (.string s.data.toList))=s.size+1:=by
 simp[Rows.uptoBulk]
def QaX{H:Type}{α:Type}(Ok:α->Prop)(x:α)(d:DataW H):Prop:=Rows.uptoBulk d<=1048576->Ok x
theorem Qck{H:Type}{α:Type}{C:α->Prop}:∀{l:List α} {A:List (DataW H)},zc3 (QaX C) l A->Rows.uptoBulkAll A<=1048576->(∀x∈l,C x)/\l.length=A.length
 |[],[],_,_=>⟨(fun x h=>by cases h),rfl⟩
 |x::l,d::A,⟨F,G⟩,I=>by
  simp only[Rows.uptoBulkAll]at I;obtain⟨D,E⟩:=Qck G (by omega);refine⟨fun y B=>?_,by simp[E]⟩;rcases List.mem_cons.1 B with rfl|B
  ·exact F (by omega)
  ·exact D y B
 |[],_::_,h,_=>h.elim
 |_::_,[],h,_=>h.elim
theorem qa6{H:Type}{α:Type}{B:α->Prop}{l:List α}{d:DataW H}(h:(d=.nil/\l=[])\/∃A sp,d=.slice A sp/\zc3 (QaX B) l A)(C:Rows.uptoBulk d<=1048576):(∀x∈l,B x)/\l.length<=1048576:=by
 rcases h with⟨_,rfl⟩|⟨A,sp,rfl,E⟩
 ·exact⟨(fun x h=>by cases h),Nat.zero_le _⟩
 ·simp only[Rows.uptoBulk]at C;obtain⟨D,F⟩:=Qck E (by omega);have:=Qdi A;exact⟨D,by omega⟩
section
variable {H:Type} {enc:TypeId×Value->H} {w:World} {base:Nat} {sp:Nat->Bool} {held:Bool}
theorem qeH(fuel:Nat)(cs:List Value)(y:DataW H×List MemPlace)(_hl:cs.length=1)(h:DataW.trod enc Tryz.prog w base sp held fuel 9 cs=some y):∃x,qt x cs/\QaX (fun s:ByteArray=>s.size<=1048576) x y.1:=by
 obtain⟨s,rfl,rfl,_⟩:=DataW.trod_string Tryz.underlying9 h;exact⟨s,rfl,fun A=>by rw[Zbm]at A;omega⟩
theorem QeH(fuel:Nat)(cs:List Value)(y:DataW H×List MemPlace)(N:cs.length=6)(h:DataW.trod enc Tryz.prog w base sp held fuel 34 cs=some y):∃x,Zv x cs/\QaX ZbB x y.1:=by
 obtain⟨xs,n,_,rfl,_,B,A⟩:=DataW.trod_struct Tryz.underlying34 h;match cs,N,xs,B with
 |[v0,d,e,f,g,i],_,[j,k,l,m,o,p],_ =>
  obtain⟨O,C,P,R⟩:=DataW.trod_int Tryz.underlying3 (A 0 _ rfl);obtain⟨S,D,T,U⟩:=DataW.trod_int Tryz.underlying3 (A 1 _ rfl);obtain⟨V,E,X,Y⟩:=DataW.trod_int Tryz.underlying3 (A 2 _ rfl);obtain⟨F,G,Z,_⟩:=DataW.trod_string Tryz.underlying9 (A 3 _ rfl);obtain⟨I,J,a,_⟩:=DataW.trod_string Tryz.underlying9 (A 4 _ rfl);obtain⟨L,M,b,_⟩:=DataW.trod_string Tryz.underlying9 (A 5 _ rfl);simp[Za6,Zck]at C D E G J M;subst C D E G J M P T X Z a b;refine⟨⟨O,S,V,F,I,L⟩,rfl,fun c=>?_⟩;simp[Rows.uptoBulk,Rows.uptoBulkAll]at c;exact⟨qck R,qck U,qck Y,by show F.size<=_;omega,by show I.size<=_;omega,by show L.size<=_;omega⟩
theorem Zc3(fuel:Nat)(cs:List Value)(y:DataW H×List MemPlace)(I:cs.length=4)(h:DataW.trod enc Tryz.prog w base sp held fuel 56 cs=some y):∃x,Qp x cs/\QaX QY x y.1:=by
 obtain⟨xs,n,_,rfl,_,A,B⟩:=DataW.trod_struct Tryz.underlying56 h;match cs,I,xs,A with
 |[v0,X,Y,Z],_,[a,b,c,d],_ =>
  obtain⟨J,C,L,M⟩:=DataW.trod_int Tryz.underlying3 (B 0 _ rfl);obtain⟨N,D,O,P⟩:=DataW.trod_int Tryz.underlying3 (B 1 _ rfl);obtain⟨R,E,S,T⟩:=DataW.trod_int Tryz.underlying3 (B 2 _ rfl);obtain⟨F,G,U,_⟩:=DataW.trod_string Tryz.underlying9 (B 3 _ rfl);simp[Za6,Zck]at C D E G;subst C D E G L O S U;refine⟨⟨J,N,R,F⟩,rfl,fun V=>?_⟩;simp[Rows.uptoBulk,Rows.uptoBulkAll]at V;exact⟨qck M,qck P,qck T,by show F.size<=_;omega⟩
theorem zdJ(fuel:Nat)(cs:List Value)(y:DataW H×List MemPlace)(G:cs.length=2)(h:DataW.trod enc Tryz.prog w base sp held fuel 118 cs=some y):∃x,ZN x cs/\QaX (fun x:QJ=>x.name.size<=1048576/\x.type.size<=1048576) x y.1:=by
 obtain⟨xs,n,_,rfl,_,A,B⟩:=DataW.trod_struct Tryz.underlying118 h;match cs,G,xs,A with
 |[v0,M],_,[N,O],_ =>
  obtain⟨C,D,I,_⟩:=DataW.trod_string Tryz.underlying9 (B 0 _ rfl);obtain⟨E,F,J,_⟩:=DataW.trod_string Tryz.underlying9 (B 1 _ rfl);simp[Za6]at D F;subst D F I J;refine⟨⟨C,E⟩,rfl,fun L=>?_⟩;simp[Rows.uptoBulk,Rows.uptoBulkAll]at L;exact⟨by show C.size<=_;omega,by show E.size<=_;omega⟩
theorem zdj(fuel:Nat)(cs:List Value)(y:DataW H×List MemPlace)(O:cs.length=8)(h:DataW.trod enc Tryz.prog w base sp held fuel 39 cs=some y):∃x,zo w x cs/\QaX (fun m:qc=>zay m/\m.handlers.length<=1048576) x y.1:=by
 obtain⟨xs,n,_,rfl,_,B,A⟩:=DataW.trod_struct Tryz.underlying39 h;match cs,O,xs,B with
 |[v0,r,s,t,v,z,p,q],_,[y0,y1,y2,y3,y4,y5,y6,y7],_ =>
  obtain⟨E,F,P,_⟩:=DataW.trod_string Tryz.underlying9 (A 0 _ rfl);obtain⟨G,I,R,_⟩:=DataW.trod_string Tryz.underlying9 (A 1 _ rfl);obtain⟨S,J,T⟩:=DataW.trod_bool Tryz.underlying4 (A 2 _ rfl);obtain⟨U,L,V⟩:=DataW.trod_bool Tryz.underlying4 (A 3 _ rfl);obtain⟨X,M,Y⟩:=DataW.trod_bool Tryz.underlying4 (A 4 _ rfl);obtain⟨Z,N,a,b⟩:=DataW.trod_int Tryz.underlying3 (A 5 _ rfl);have C:=A 6 _ rfl;have D:=A 7 _ rfl;simp[Za6,Zck,zcP]at F I J L M N;simp[zee]at C;simp[Qe4]at D;obtain⟨c,d,e⟩:=Qbu Zv (QaX ZbB) Tryz.underlying35 zeH (by decide) QeH C;obtain⟨f,g,i⟩:=Qbu Qp (QaX QY) Tryz.underlying37 Qfk (by decide) Zc3 D;subst F I J L M N P R T V Y a;refine⟨⟨E,G,S,U,X,Z,c,f⟩,⟨p,q,rfl,d,g⟩,fun o=>?_⟩;simp[Rows.uptoBulk,Rows.uptoBulkAll]at o;obtain⟨j,_⟩:=qa6 e (by omega);obtain⟨k,l⟩:=qa6 i (by omega);exact⟨⟨by show E.size<=_;omega,by show G.size<=_;omega,qck b,j,k⟩,l⟩
theorem ZdJ(fuel:Nat)(cs:List Value)(y:DataW H×List MemPlace)(M:cs.length=6)(h:DataW.trod enc Tryz.prog w base sp held fuel 31 cs=some y):∃x,ZQ w x cs/\QaX qM x y.1:=by
 obtain⟨xs,n,_,rfl,_,B,A⟩:=DataW.trod_struct Tryz.underlying31 h;match cs,M,xs,B with
 |[v0,l,i,o,j,k],_,[p,q,r,t,v,z],_ =>
  obtain⟨F,G,N,_⟩:=DataW.trod_string Tryz.underlying9 (A 0 _ rfl);obtain⟨I,J,O,_⟩:=DataW.trod_string Tryz.underlying9 (A 1 _ rfl);obtain⟨P,L,R⟩:=DataW.trod_bool Tryz.underlying4 (A 3 _ rfl);have C:=A 2 _ rfl;have D:=A 4 _ rfl;have E:=A 5 _ rfl;simp[Za6,zcP]at G J L;simp[Qed]at C;simp[ze5]at D;simp[Ze5]at E;obtain⟨S,T,U⟩:=Qbu qt (QaX (fun s:ByteArray=>s.size<=1048576)) Tryz.underlying27 Za6 (by decide) qeH C;obtain⟨V,X,Y⟩:=Qbu ZN (QaX (fun x:QJ=>x.name.size<=1048576/\x.type.size<=1048576)) Tryz.underlying28 zfl (by decide) zdJ D;obtain⟨Z,a,b⟩:=Qbu (zo w) (QaX (fun m:qc=>zay m/\m.handlers.length<=1048576)) Tryz.underlying29 Zfl (by decide) zdj E;subst G J L N O R;refine⟨⟨F,I,S,P,V,Z⟩,⟨i,j,k,rfl,T,X,a⟩,fun f=>?_⟩;simp[Rows.uptoBulk,Rows.uptoBulkAll]at f;obtain⟨c,_⟩:=qa6 U (by omega);obtain⟨d,_⟩:=qa6 Y (by omega);obtain⟨e,_⟩:=qa6 b (by omega);exact⟨by show F.size<=_;omega,by show I.size<=_;omega,c,d,fun m g=>(e m g).1⟩
theorem Qc3{fuel:Nat}{v:Value}{x:DataW H×List MemPlace}(h:DataW.trod enc Tryz.prog w base sp held fuel 22 [v]=some x)(A:Rows.uptoBulk x.1<=1048576):∃l,zx w v l/\∀c∈l,qM c:=by
 obtain⟨l,g,k⟩:=Qbu (ZQ w) (QaX qM) Tryz.underlying22 qfl (by decide) ZdJ h;exact⟨l,g,(qa6 k A).1⟩
end
section
variable {H:Type} {enc:TypeId×Value->H} {w:World} {base:Nat} {sp:Nat->Bool} {held:Bool}
end
