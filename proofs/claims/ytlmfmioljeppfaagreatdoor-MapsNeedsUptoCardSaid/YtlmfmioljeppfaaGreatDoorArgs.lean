/- Lemmas; conditions: as each states. -/
import Derived.Test.YtlmfmioljeppfaaGreatDoorRows
import Derived.Test.YtlmfmioljeppfaaGreatDoorFrameOps
import Derived.Lib.LaidTab
import Derived.ProofKit
import Derived.Deep.Slices
set_option maxHeartbeats 4000000
namespace Go.Proofs.YtlmfmioljeppfaaGreatDoor
open Go.RowKit Go.Shelf Go.Lib
theorem qdQ:Tryz.prog.globalNamed "coffeehouse/ins.forms"=some 0:=by kernel_rfl
theorem Qc2:(Tryz.prog.globals[0]?).map (·.type)=some 178:=by kernel_rfl
theorem zc3:Tryz.prog.underlying 178=some (.array 29 143):=by kernel_rfl
theorem Zc3:Tryz.prog.cellsOf 178=29*2:=by kernel_rfl
theorem Qck:Tryz.prog.cellsOf 143=2:=by kernel_rfl
theorem zeb:Tryz.prog.cellsOf 9=1:=by kernel_rfl
theorem zcG:Tryz.prog.underlying 9=some .string:=by kernel_rfl
set_option maxRecDepth 100000
theorem qc3{H:Type}{enc:TypeId×Value->H}{w:World}{base:Nat}{sp:Nat->Bool}{held:Bool}{fuel:Nat}{cs:List Value}{x:DataW H×List MemPlace}{a b:List UInt8}(h:DataW.trod enc Tryz.prog w base sp held fuel 143 cs=some x)(B:x.1=.agg [.lit (.string a),.lit (.string b)]):cs=[.string ⟨a.toArray⟩,.string ⟨b.toArray⟩]:=by
 obtain⟨xs,n,_,rfl,C,A,D⟩:=DataW.trod_struct Tryz.underlying143 h;rw[Qck]at C;match cs,C,xs,A with
 |[O,P],_,[R,S],_ =>
  have G:=D 0 _ rfl;have I:=D 1 _ rfl;obtain⟨M,E,J,_⟩:=DataW.trod_string zcG G;obtain⟨N,F,L,_⟩:=DataW.trod_string zcG I;simp[zeb]at E F;subst E F J L;simp only[List.map_cons,List.map_nil,DataW.agg.injEq,List.cons.injEq,DataW.lit.injEq,Lit.string.injEq,and_true]at B;obtain⟨rfl,rfl⟩:=B;simp
set_option maxRecDepth 512
theorem Qc3{H:Type}:(Rows.laid_coffeehouse_ins_forms:DataW H)=.agg ((List.range 29).map fun i=>.agg [.lit (.string (qby.getD i [])),.lit (.string (Qby.getD i []))]):=rfl
theorem ZcG{H:Type}{enc:TypeId×Value->H}{w:World}{base:Nat}{sp:Nat->Bool}{held:Bool}{fuel:Nat}{cs:List Value}{p:List MemPlace}(h:DataW.trod enc Tryz.prog w base sp held fuel 178 cs=some (Rows.laid_coffeehouse_ins_forms,p)):∀i,i<29->cs[i*2]? = some (.string (zbz i))/\cs[i*2+1]? = some (.string (Zaj i)):=by
 cases fuel with
 |zero=>simp[DataW.trod]at h
 |succ fuel =>
  simp only[DataW.trod,zc3,Qck,Zc3]at h;split at h
  ·obtain⟨xs,G,I⟩:=Option.map_eq_some_iff.1 h;have B:xs.map (·.1)=(List.range 29).map fun i=>(.agg [.lit (.string (qby.getD i [])),.lit (.string (Qby.getD i []))]:DataW H):=by
    have:=congrArg Prod.fst I;rw[Qc3]at this;simpa using this
   intro i F;obtain⟨b,J,L⟩:=Lib.mapM_at G i i (by simp[F]);have C:(xs.map (·.1))[i]? = some b.1:=(by simp[J]);rw[B,List.getElem?_map,List.getElem?_range F]at C;simp only[Option.map_some,Option.some.injEq]at C;have A:=qc3 L C.symm;have D:=congrArg (·[0]?) A;have E:=congrArg (·[1]?) A;simp[List.getElem?_drop]at D E;exact⟨by rw[D];rfl,by rw[E];rfl⟩
  ·cases h
theorem qcv{W:World}{a c:String×DataW Unit}(h:laidMet Tryz.prog [a,("coffeehouse/ins.forms",Rows.laid_coffeehouse_ins_forms),c] W):QaB W:=by
 obtain⟨N,H,_⟩:=h;obtain⟨_,_,_,_,_,_,_,_,_,_,D,_⟩:=H;obtain⟨g,t,cs,fuel,p,q,B,C,A,I,_,_⟩:=D;rw[qdQ]at B;injection B with B
 subst B;rw[Qc2]at C;injection C with C
 subst C;have G:=ZcG I;unfold World.var? at A;rw[qdQ]at A;simp only[Option.bind_some]at A;split at A
 ·rename_i E ty O F;injection A with A
  subst A;refine⟨(Array.getElem?_eq_some_iff.1 F).1,fun i M=>?_⟩;obtain⟨J,L⟩:=G i M;constructor
  ·simp only[World.cell?,F];simpa using J
  ·simp only[World.cell?,F];simpa using L
 ·cases A
theorem Zeb{W:World}{a c:String×DataW Unit}(B:a.2.handleName?.isSome=false)(C:c.2.handleName?.isSome=false)(h:laidMetH Tryz.prog [a,("coffeehouse/ins.forms",Rows.laid_coffeehouse_ins_forms),c] W):QaB W:=by
 unfold laidMetH at h;have D:([a,("coffeehouse/ins.forms",Rows.laid_coffeehouse_ins_forms),c].filter fun x=>x.2.handleName?.isSome)=[]:=by
  rw[List.filter_eq_nil_iff];intro x A;simp only[List.mem_cons,List.mem_nil_iff,or_false]at A;rcases A with rfl|rfl|rfl
  ·simp[B]
  ·decide
  ·simp[C]
 rw[D]at h;exact qcv h
end Go.Proofs.YtlmfmioljeppfaaGreatDoor
namespace Go.Proofs.YtlmfmioljeppfaaGreatDoor
open Go.RowKit Go.ChangeShapes Go.WideShapes Go.Deep
theorem Qdt{w:World}{a:Addr}{v:Value}(h:w.cell? a=some v):a=⟨a.block,a.off,none⟩:=by
 unfold World.cell? at h;split at h
 ·split at h
  ·simp at h
  ·rename_i hs;cases a with
   |mk b o s=>cases s<;>simp_all
 ·simp at h
theorem zen{a:Addr}(hs:a=⟨a.block,a.off,none⟩)(n:Nat):a.add n=⟨a.block,a.off+n,none⟩:=by
 unfold Addr.add;split
 ·subst_vars;simpa using hs
 ·rfl
theorem QaK{w:World}{b:Nat}:∀(k s o:Nat) (cs:List Value),(List.range' s k).mapM (fun j=>w.cell? ⟨b,o+j,none⟩)=some cs->cs.length=k/\QG w b (o+s) cs
 |0,s,o,cs,h=>by
  simp at h;subst h;exact⟨rfl,trivial⟩
 |k+1,s,o,cs,h=>by
  rw[List.range'_succ,List.mapM_cons]at h;cases A:w.cell? ⟨b,o+s,none⟩ with
  |none=>simp[A]at h
  |some v =>
   cases B:(List.range' (s+1) k).mapM (fun j=>w.cell? ⟨b,o+j,none⟩) with
   |none=>simp[A,B]at h
   |some r =>
    simp[A,B]at h;subst h;obtain⟨C,D⟩:=QaK k (s+1) o r B;exact⟨by simp[C],A,by rw[Nat.add_assoc];exact D⟩
theorem qcG{w:World}{base k:Nat}{a:Addr}{n:Nat}{cs:List Value}(hs:a=⟨a.block,a.off,none⟩)(h:w.cells? base (a.add n) k=some cs):
 cs.length=k/\QG w a.block (a.off+n) cs:=by
 unfold World.cells? at h;split at h
 ·rw[List.range_eq_range']at h;have e:(fun i=>w.cell? ((a.add n).add i))=fun j=>w.cell? ⟨a.block,(a.off+n)+j,none⟩:=by
   funext j;rw[add_add,zen hs,Nat.add_assoc]
  rw[e]at h;have:=QaK k 0 (a.off+n) cs h;simpa using this
 ·simp at h
section
variable {H:Type} {enc:TypeId×Value->H} {P:Program} {w:World} {base:Nat} {spare:Nat->Bool} {held:Bool}
def Qcv{α β:Type}(f:α->β->Prop):List α->List β->Prop
 |[],[]=>True
 |x::r,y::s=>f x y/\Qcv f r s
 |_,_=>False
theorem qbU{α β:Type}{f:α->β->Prop}:∀(n s:Nat) (D:Nat->β),(∀i,s<=i->i<s+n->∃x,f x (D i))->∃l:List α,l.length=n/\Qcv f l ((List.range' s n).map D)/\∀i x,l[i]? = some x->f x (D (s+i))
 |0,s,D,_=>⟨[],rfl,trivial,fun i x h=>by simp at h⟩
 |n+1,s,D,h=>by
  obtain⟨x,B⟩:=h s Xl (by omega);obtain⟨l,C,E,F⟩:=qbU n (s+1) D fun i a b=>h i (by omega) (by omega)
  refine⟨x::l,by simp[C],?_,?_⟩
  ·rw[List.range'_succ];exact⟨B,E⟩
  ·intro i y A;cases i with
   |zero=>simp at A;subst A;exact B
   |succ i=>have:=F i y (by simpa using A);rwa [show s+(i+1)=s+1+i from by omega]
theorem qa6{α:Type}(R:α->List Value->Prop)(f:α->DataW H->Prop){t e k:Nat}(g:P.underlying t=some (.slice e))(o:P.cellsOf e=k)(p:0<k)(J:∀(fuel:Nat) (cs:List Value) (y:DataW H×List MemPlace),cs.length=k->DataW.trod enc P w base spare held fuel e cs=some y->∃x,R x cs/\f x y.1){fuel:Nat}{v:Value}{x:DataW H×List MemPlace}(h:DataW.trod enc P w base spare held fuel t [v]=some x):
 ∃l:List α,Zg w k R v l/\((x.1=.nil/\l=[])\/∃A sp,x.1=.slice A sp/\Qcv f l A):=by
 rcases open_slice g h with⟨G,V⟩|⟨a,B,cap,m,n,D,Pl,G,V,h3,h4,h5,h6,X⟩
 ·simp at G;subst G;subst V;exact⟨[],Or.inl ⟨rfl,rfl⟩,Or.inl ⟨rfl,rfl⟩⟩
 ·simp at G;subst G;have q:B<=m:=by rw[h5];split<;>omega
  rw[o]at X;have hs:0<B->a=⟨a.block,a.off,none⟩:=by
   intro h0;obtain⟨F,C,_⟩:=X 0 (by omega);unfold World.cells? at C;rw[if_pos (by simpa[Addr.add] using V)]at C;cases k with
   |zero=>omega
   |succ k =>
    rw[List.range_eq_range',List.range'_succ,List.mapM_cons]at C;simp only[Nat.zero_mul]at C;cases L:w.cell? ((a.add 0).add 0) with
    |none=>rw[L]at C;simp at C
    |some v=>simp[Addr.add]at L;exact Qdt L
  obtain⟨l,Y,M,N⟩:=qbU (f:=fun x d=>∃i cs,d=(i,D i)/\w.cells? base (a.add (i*k)) k=some cs/\R x cs/\f x (D i)) B 0 (fun i=>(i,D i)) (fun i _ U=>by
   obtain⟨F,C,s⟩:=X i (by omega);obtain⟨E,_⟩:=qcG (hs (by omega)) C;obtain⟨x,O,S⟩:=J _ _ _ E s;exact⟨x,i,F,rfl,C,O,S⟩)
  refine⟨l,Or.inr ⟨a,cap,by rw[Y],by omega,h4,?_⟩,Or.inr ⟨(List.range B).map D,_,by rw[h6],?_⟩⟩
  ·intro i x U;obtain⟨j,cs,I,Z,b,c⟩:=N i x U;simp at I;obtain⟨rfl,_⟩:=I;have r:i<B:=by
    rw[<-Y];exact(List.getElem?_eq_some_iff.1 U).1
   obtain⟨E,T⟩:=qcG (hs (by omega)) Z;exact⟨cs,b,E,hs (by omega),T⟩
  ·have:∀(l:List α) (A:List (Nat×DataW H)),Qcv (fun x d=>∃i cs,d=(i,D i)/\w.cells? base (a.add (i*k)) k=some cs/\R x cs/\f x (D i)) l A->Qcv f l (A.map (·.2)):=by
    intro l;induction l with
    |nil=>intro A;cases A<;>simp[Qcv]
    |cons x l z =>
     intro A;cases A with
     |nil=>simp[Qcv]
     |cons d A =>
      rintro⟨⟨i,cs,I,Z,b,c⟩,h⟩;exact⟨by rw[I];exact c,z A h⟩
   have:=this _ _ M;rw[List.map_map]at this;rw[List.range_eq_range'];exact this
end
end Go.Proofs.YtlmfmioljeppfaaGreatDoor
namespace Go.Proofs.YtlmfmioljeppfaaGreatDoor
open Go.RowKit Go.Shelf Go.Lib Go.ChangeShapes Go.WideShapes Go.Deep
theorem zaL:Tryz.prog.cellsOf 9=1:=by kernel_rfl
theorem QbU:Tryz.prog.cellsOf 3=1:=by kernel_rfl
theorem zcl:Tryz.prog.cellsOf 4=1:=by kernel_rfl
theorem zdu:Tryz.prog.cellsOf 25=1:=by kernel_rfl
theorem Zdu:Tryz.prog.cellsOf 50=1:=by kernel_rfl
theorem qeb:Tryz.prog.cellsOf 51=1:=by kernel_rfl
theorem Qeb:Tryz.prog.cellsOf 33=1:=by kernel_rfl
theorem zec:Tryz.prog.cellsOf 34=1:=by kernel_rfl
theorem QdQ:Tryz.prog.cellsOf 24=6:=by kernel_rfl
theorem Zen:Tryz.prog.cellsOf 126=4:=by kernel_rfl
theorem qen:Tryz.prog.cellsOf 130=2:=by kernel_rfl
theorem Qen:Tryz.prog.cellsOf 53=8:=by kernel_rfl
theorem zeo:Tryz.prog.cellsOf 36=6:=by kernel_rfl
theorem zbV{n:Int}(h:(Lit.int .i64 n).wf=true):Zby n:=by
 unfold Zby;have A:IntKind.i64.min = -9223372036854775808:=by decide
 have B:IntKind.i64.max=9223372036854775807:=by decide
 simp[Lit.wf]at h;omega
theorem zdR{H:Type}(d:DataW H):1<=Rows.uptoBulk d:=by
 cases d with
 |lit l=>cases l<;>simp[Rows.uptoBulk]
 |nil=>simp[Rows.uptoBulk]
 |ptr d=>simp[Rows.uptoBulk]
 |slice B spare=>simp[Rows.uptoBulk]
 |agg C=>simp[Rows.uptoBulk]
 |iface t d=>simp[Rows.uptoBulk]
 |map A=>simp[Rows.uptoBulk]
 |held h=>simp[Rows.uptoBulk]
theorem QcG{H:Type}(l:List (DataW H)):l.length<=Rows.uptoBulkAll l:=by
 induction l with
 |nil=>simp
 |cons x r A=>have:=zdR x;simp only[Rows.uptoBulkAll,List.length_cons];omega
theorem QbH{H:Type}(s:ByteArray):Rows.uptoBulk (DataW.lit (H:=H) (.string s.data.toList))=s.size+1:=by
 simp[Rows.uptoBulk]
def qaF{H:Type}{α:Type}(Ok:α->Prop)(x:α)(d:DataW H):Prop:=Rows.uptoBulk d<=1048576->Ok x
theorem ZbV{H:Type}{α:Type}{C:α->Prop}:∀{l:List α} {A:List (DataW H)},Qcv (qaF C) l A->Rows.uptoBulkAll A<=1048576->(∀x∈l,C x)/\l.length=A.length
 |[],[],_,_=>⟨(fun x h=>by cases h),rfl⟩
 |x::l,d::A,⟨F,G⟩,I=>by
  simp only[Rows.uptoBulkAll]at I;obtain⟨D,E⟩:=ZbV G (by omega);refine⟨fun y B=>?_,by simp[E]⟩;rcases List.mem_cons.1 B with rfl|B
  ·exact F (by omega)
  ·exact D y B
 |[],_::_,h,_=>h.elim
 |_::_,[],h,_=>h.elim
theorem ZaL{H:Type}{α:Type}{B:α->Prop}{l:List α}{d:DataW H}(h:(d=.nil/\l=[])\/∃A sp,d=.slice A sp/\Qcv (qaF B) l A)(C:Rows.uptoBulk d<=1048576):(∀x∈l,B x)/\l.length<=1048576:=by
 rcases h with⟨_,rfl⟩|⟨A,sp,rfl,E⟩
 ·exact⟨(fun x h=>by cases h),Nat.zero_le _⟩
 ·simp only[Rows.uptoBulk]at C;obtain⟨D,F⟩:=ZbV E (by omega);have:=QcG A;exact⟨D,by omega⟩
section
variable {H:Type} {enc:TypeId×Value->H} {w:World} {base:Nat} {sp:Nat->Bool} {held:Bool}
set_option maxRecDepth 100000
theorem ZdR(fuel:Nat)(cs:List Value)(y:DataW H×List MemPlace)(_hl:cs.length=1)(h:DataW.trod enc Tryz.prog w base sp held fuel 9 cs=some y):∃x,qs x cs/\qaF (fun s:ByteArray=>s.size<=1048576) x y.1:=by
 obtain⟨s,rfl,rfl,_⟩:=DataW.trod_string Tryz.underlying9 h;exact⟨s,rfl,fun A=>by rw[QbH]at A;omega⟩
theorem qdR(fuel:Nat)(cs:List Value)(y:DataW H×List MemPlace)(N:cs.length=6)(h:DataW.trod enc Tryz.prog w base sp held fuel 24 cs=some y):∃x,Zw x cs/\qaF qaL x y.1:=by
 obtain⟨xs,n,_,rfl,_,B,A⟩:=DataW.trod_struct Tryz.underlying24 h;match cs,N,xs,B with
 |[d,e,f,g,i,j],_,[k,l,m,o,p,q],_ =>
  obtain⟨O,C,P,R⟩:=DataW.trod_int Tryz.underlying3 (A 0 _ rfl);obtain⟨S,D,T,U⟩:=DataW.trod_int Tryz.underlying3 (A 1 _ rfl);obtain⟨V,E,X,Y⟩:=DataW.trod_int Tryz.underlying3 (A 2 _ rfl);obtain⟨F,G,Z,_⟩:=DataW.trod_string Tryz.underlying9 (A 3 _ rfl);obtain⟨I,J,a,_⟩:=DataW.trod_string Tryz.underlying9 (A 4 _ rfl);obtain⟨L,M,b,_⟩:=DataW.trod_string Tryz.underlying9 (A 5 _ rfl);simp[zaL,QbU]at C D E G J M;subst C D E G J M P T X Z a b;refine⟨⟨O,S,V,F,I,L⟩,rfl,fun c=>?_⟩;simp[Rows.uptoBulk,Rows.uptoBulkAll]at c;exact⟨zbV R,zbV U,zbV Y,by show F.size<=_;omega,by show I.size<=_;omega,by show L.size<=_;omega⟩
theorem zcw(fuel:Nat)(cs:List Value)(y:DataW H×List MemPlace)(I:cs.length=4)(h:DataW.trod enc Tryz.prog w base sp held fuel 126 cs=some y):∃x,Qt x cs/\qaF QaL x y.1:=by
 obtain⟨xs,n,_,rfl,_,A,B⟩:=DataW.trod_struct Tryz.underlying126 h;match cs,I,xs,A with
 |[X,Y,Z,a],_,[b,c,d,e],_ =>
  obtain⟨J,C,L,M⟩:=DataW.trod_int Tryz.underlying3 (B 0 _ rfl);obtain⟨N,D,O,P⟩:=DataW.trod_int Tryz.underlying3 (B 1 _ rfl);obtain⟨R,E,S,T⟩:=DataW.trod_int Tryz.underlying3 (B 2 _ rfl);obtain⟨F,G,U,_⟩:=DataW.trod_string Tryz.underlying9 (B 3 _ rfl);simp[zaL,QbU]at C D E G;subst C D E G L O S U;refine⟨⟨J,N,R,F⟩,rfl,fun V=>?_⟩;simp[Rows.uptoBulk,Rows.uptoBulkAll]at V;exact⟨zbV M,zbV P,zbV T,by show F.size<=_;omega⟩
theorem zc4(fuel:Nat)(cs:List Value)(y:DataW H×List MemPlace)(G:cs.length=2)(h:DataW.trod enc Tryz.prog w base sp held fuel 130 cs=some y):∃x,QE x cs/\qaF (fun x:Qag=>x.name.size<=1048576/\x.type.size<=1048576) x y.1:=by
 obtain⟨xs,n,_,rfl,_,A,B⟩:=DataW.trod_struct Tryz.underlying130 h;match cs,G,xs,A with
 |[M,N],_,[O,P],_ =>
  obtain⟨C,D,I,_⟩:=DataW.trod_string Tryz.underlying9 (B 0 _ rfl);obtain⟨E,F,J,_⟩:=DataW.trod_string Tryz.underlying9 (B 1 _ rfl);simp[zaL]at D F;subst D F I J;refine⟨⟨C,E⟩,rfl,fun L=>?_⟩;simp[Rows.uptoBulk,Rows.uptoBulkAll]at L;exact⟨by show C.size<=_;omega,by show E.size<=_;omega⟩
theorem zcH(fuel:Nat)(cs:List Value)(y:DataW H×List MemPlace)(O:cs.length=8)(h:DataW.trod enc Tryz.prog w base sp held fuel 53 cs=some y):∃x,zr w x cs/\qaF (fun m:qi=>Z1 m/\m.handlers.length<=1048576) x y.1:=by
 obtain⟨xs,n,_,rfl,_,B,A⟩:=DataW.trod_struct Tryz.underlying53 h;match cs,O,xs,B with
 |[r,s,t,v,z,v5,p,q],_,[y0,y1,y2,y3,y4,y5,y6,y7],_ =>
  obtain⟨E,F,P,_⟩:=DataW.trod_string Tryz.underlying9 (A 0 _ rfl);obtain⟨G,I,R,_⟩:=DataW.trod_string Tryz.underlying9 (A 1 _ rfl);obtain⟨S,J,T⟩:=DataW.trod_bool Tryz.underlying4 (A 2 _ rfl);obtain⟨U,L,V⟩:=DataW.trod_bool Tryz.underlying4 (A 3 _ rfl);obtain⟨X,M,Y⟩:=DataW.trod_bool Tryz.underlying4 (A 4 _ rfl);obtain⟨Z,N,a,b⟩:=DataW.trod_int Tryz.underlying3 (A 5 _ rfl);have C:=A 6 _ rfl;have D:=A 7 _ rfl;simp[zaL,QbU,zcl]at F I J L M N;simp[Zdu]at C;simp[qeb]at D;obtain⟨c,d,e⟩:=qa6 Zw (qaF qaL) Tryz.underlying50 QdQ (by decide) qdR C;obtain⟨f,g,i⟩:=qa6 Qt (qaF QaL) Tryz.underlying51 Zen (by decide) zcw D;subst F I J L M N P R T V Y a;refine⟨⟨E,G,S,U,X,Z,c,f⟩,⟨p,q,rfl,d,g⟩,fun o=>?_⟩;simp[Rows.uptoBulk,Rows.uptoBulkAll]at o;obtain⟨j,_⟩:=ZaL e (by omega);obtain⟨k,l⟩:=ZaL i (by omega);exact⟨⟨by show E.size<=_;omega,by show G.size<=_;omega,zbV b,j,k⟩,l⟩
theorem Zc4(fuel:Nat)(cs:List Value)(y:DataW H×List MemPlace)(M:cs.length=6)(h:DataW.trod enc Tryz.prog w base sp held fuel 36 cs=some y):∃x,Q4 w x cs/\qaF qab x y.1:=by
 obtain⟨xs,n,_,rfl,_,B,A⟩:=DataW.trod_struct Tryz.underlying36 h;match cs,M,xs,B with
 |[l,o,i,p,j,k],_,[q,r,t,v,z,y5],_ =>
  obtain⟨F,G,N,_⟩:=DataW.trod_string Tryz.underlying9 (A 0 _ rfl);obtain⟨I,J,O,_⟩:=DataW.trod_string Tryz.underlying9 (A 1 _ rfl);obtain⟨P,L,R⟩:=DataW.trod_bool Tryz.underlying4 (A 3 _ rfl);have C:=A 2 _ rfl;have D:=A 4 _ rfl;have E:=A 5 _ rfl;simp[zaL,zcl]at G J L;simp[zdu]at C;simp[Qeb]at D;simp[zec]at E;obtain⟨S,T,U⟩:=qa6 qs (qaF (fun s:ByteArray=>s.size<=1048576)) Tryz.underlying25 zaL (by decide) ZdR C;obtain⟨V,X,Y⟩:=qa6 QE (qaF (fun x:Qag=>x.name.size<=1048576/\x.type.size<=1048576)) Tryz.underlying33 qen (by decide) zc4 D;obtain⟨Z,a,b⟩:=qa6 (zr w) (qaF (fun m:qi=>Z1 m/\m.handlers.length<=1048576)) Tryz.underlying34 Qen (by decide) zcH E;subst G J L N O R;refine⟨⟨F,I,S,P,V,Z⟩,⟨i,j,k,rfl,T,X,a⟩,fun f=>?_⟩;simp[Rows.uptoBulk,Rows.uptoBulkAll]at f;obtain⟨c,_⟩:=ZaL U (by omega);obtain⟨d,_⟩:=ZaL Y (by omega);obtain⟨e,_⟩:=ZaL b (by omega);exact⟨by show F.size<=_;omega,by show I.size<=_;omega,c,d,fun m g=>(e m g).1⟩
set_option maxRecDepth 512
theorem Zcw{fuel:Nat}{v:Value}{x:DataW H×List MemPlace}(h:DataW.trod enc Tryz.prog w base sp held fuel 22 [v]=some x)(A:Rows.uptoBulk x.1<=1048576):∃l,qj w v l/\∀c∈l,qab c:=by
 obtain⟨l,g,k⟩:=qa6 (Q4 w) (qaF qab) Tryz.underlying22 zeo (by decide) Zc4 h;exact⟨l,g,(ZaL k A).1⟩
end
section
variable {H:Type} {enc:TypeId×Value->H} {w:World} {base:Nat} {sp:Nat->Bool} {held:Bool}
end
end Go.Proofs.YtlmfmioljeppfaaGreatDoor
