/- Lemmas; conditions: as each states. -/
import Derived.Test.YtlmfmioljeppfaaGreatDoorRows
import Derived.Test.YtlmfmioljeppfaaGreatDoorFrameOps
import Derived.Lib.LaidTab
import Derived.ProofKit
import Derived.Deep.Slices
set_option maxHeartbeats 4000000
namespace Go.Proofs.YtlmfmioljeppfaaGreatDoor
open Go.RowKit Go.Shelf Go.Lib
theorem qdM:Tryz.prog.globalNamed "coffeehouse/ins.forms"=some 0:=by kernel_rfl
theorem ZcZ:(Tryz.prog.globals[0]?).map (·.type)=some 178:=by kernel_rfl
theorem qcZ:Tryz.prog.underlying 178=some (.array 29 143):=by kernel_rfl
theorem QcZ:Tryz.prog.cellsOf 178=29*2:=by kernel_rfl
theorem qci:Tryz.prog.cellsOf 143=2:=by kernel_rfl
theorem Qd5:Tryz.prog.cellsOf 9=1:=by kernel_rfl
theorem qcE:Tryz.prog.underlying 9=some .string:=by kernel_rfl
set_option maxRecDepth 100000
theorem zc0{H:Type}{enc:TypeId×Value->H}{w:World}{base:Nat}{sp:Nat->Bool}{held:Bool}{fuel:Nat}{cs:List Value}{x:DataW H×List MemPlace}{a b:List UInt8}(h:DataW.trod enc Tryz.prog w base sp held fuel 143 cs=some x)(hx:x.1=.agg [.lit (.string a),.lit (.string b)]):cs=[.string ⟨a.toArray⟩,.string ⟨b.toArray⟩]:=by
 obtain⟨xs,n,_,rfl,hl,hlen,hf⟩:=DataW.trod_struct Tryz.underlying143 h;rw[qci]at hl;match cs,hl,xs,hlen with
 |[v0,v1],_,[y0,y1],_ =>
  have h0:=hf 0 _ rfl;have h1:=hf 1 _ rfl;obtain⟨s0,e0,r0,_⟩:=DataW.trod_string qcE h0;obtain⟨s1,e1,r1,_⟩:=DataW.trod_string qcE h1;simp[Qd5]at e0 e1;subst e0 e1 r0 r1;simp only[List.map_cons,List.map_nil,DataW.agg.injEq,List.cons.injEq,DataW.lit.injEq,Lit.string.injEq,and_true]at hx;obtain⟨rfl,rfl⟩:=hx;simp
set_option maxRecDepth 512
theorem Zc0{H:Type}:(Rows.laid_coffeehouse_ins_forms:DataW H)=.agg ((List.range 29).map fun i=>.agg [.lit (.string (Qbz.getD i [])),.lit (.string (zbA.getD i []))]):=rfl
theorem QcE{H:Type}{enc:TypeId×Value->H}{w:World}{base:Nat}{sp:Nat->Bool}{held:Bool}{fuel:Nat}{cs:List Value}{p:List MemPlace}(h:DataW.trod enc Tryz.prog w base sp held fuel 178 cs=some (Rows.laid_coffeehouse_ins_forms,p)):∀i,i<29->cs[i*2]? = some (.string (ZbA i))/\cs[i*2+1]? = some (.string (Zaj i)):=by
 cases fuel with
 |zero=>simp[DataW.trod]at h
 |succ fuel =>
  simp only[DataW.trod,qcZ,qci,QcZ]at h;split at h
  ·obtain⟨xs,hm,hx⟩:=Option.map_eq_some_iff.1 h;have hxs:xs.map (·.1)=(List.range 29).map fun i=>(.agg [.lit (.string (Qbz.getD i [])),.lit (.string (zbA.getD i []))]:DataW H):=by
    have:=congrArg Prod.fst hx;rw[Zc0]at this;simpa using this
   intro i hi;obtain⟨b,hb,hf⟩:=Lib.mapM_at hm i i (by simp[hi]);have h2:(xs.map (·.1))[i]? = some b.1:=(by simp[hb]);rw[hxs,List.getElem?_map,List.getElem?_range hi]at h2;simp only[Option.map_some,Option.some.injEq]at h2;have hcs:=zc0 hf h2.symm;have c0:=congrArg (·[0]?) hcs;have c1:=congrArg (·[1]?) hcs;simp[List.getElem?_drop]at c0 c1;exact⟨by rw[c0];rfl,by rw[c1];rfl⟩
  ·cases h
theorem zcu{W:World}{a c:String×DataW Unit}(h:laidMet Tryz.prog [a,("coffeehouse/ins.forms",Rows.laid_coffeehouse_ins_forms),c] W):Qaw W:=by
 obtain⟨ps,hv,_⟩:=h;obtain⟨_,_,_,_,_,_,_,_,_,_,hv2,_⟩:=hv;obtain⟨g,t,cs,fuel,p,q,h1,h2,h3,h4,_,_⟩:=hv2;rw[qdM]at h1;injection h1 with h1
 subst h1;rw[ZcZ]at h2;injection h2 with h2
 subst h2;have hc:=QcE h4;unfold World.var? at h3;rw[qdM]at h3;simp only[Option.bind_some]at h3;split at h3
 ·rename_i cells ty fr hb;injection h3 with h3
  subst h3;refine⟨(Array.getElem?_eq_some_iff.1 hb).1,fun i hi=>?_⟩;obtain⟨k1,k2⟩:=hc i hi;constructor
  ·simp only[World.cell?,hb];simpa using k1
  ·simp only[World.cell?,hb];simpa using k2
 ·cases h3
theorem zd6{W:World}{a c:String×DataW Unit}(ha:a.2.handleName?.isSome=false)(hc:c.2.handleName?.isSome=false)(h:laidMetH Tryz.prog [a,("coffeehouse/ins.forms",Rows.laid_coffeehouse_ins_forms),c] W):Qaw W:=by
 unfold laidMetH at h;have hf:([a,("coffeehouse/ins.forms",Rows.laid_coffeehouse_ins_forms),c].filter fun x=>x.2.handleName?.isSome)=[]:=by
  rw[List.filter_eq_nil_iff];intro x hx;simp only[List.mem_cons,List.mem_nil_iff,or_false]at hx;rcases hx with rfl|rfl|rfl
  ·simp[ha]
  ·decide
  ·simp[hc]
 rw[hf]at h;exact zcu h
end Go.Proofs.YtlmfmioljeppfaaGreatDoor
namespace Go.Proofs.YtlmfmioljeppfaaGreatDoor
open Go.RowKit Go.ChangeShapes Go.WideShapes Go.Deep
theorem zdp{w:World}{a:Addr}{v:Value}(h:w.cell? a=some v):a=⟨a.block,a.off,none⟩:=by
 unfold World.cell? at h;split at h
 ·split at h
  ·simp at h
  ·rename_i hs;cases a with
   |mk b o s=>cases s<;>simp_all
 ·simp at h
theorem qeh{a:Addr}(hs:a=⟨a.block,a.off,none⟩)(n:Nat):a.add n=⟨a.block,a.off+n,none⟩:=by
 unfold Addr.add;split
 ·subst_vars;simpa using hs
 ·rfl
theorem zaK{w:World}{b:Nat}:∀(k s o:Nat) (cs:List Value),(List.range' s k).mapM (fun j=>w.cell? ⟨b,o+j,none⟩)=some cs->cs.length=k/\qG w b (o+s) cs
 |0,s,o,cs,h=>by
  simp at h;subst h;exact⟨rfl,trivial⟩
 |k+1,s,o,cs,h=>by
  rw[List.range'_succ,List.mapM_cons]at h;cases h1:w.cell? ⟨b,o+s,none⟩ with
  |none=>simp[h1]at h
  |some v =>
   cases h2:(List.range' (s+1) k).mapM (fun j=>w.cell? ⟨b,o+j,none⟩) with
   |none=>simp[h1,h2]at h
   |some r =>
    simp[h1,h2]at h;subst h;obtain⟨hl,hc⟩:=zaK k (s+1) o r h2;exact⟨by simp[hl],h1,by rw[Nat.add_assoc];exact hc⟩
theorem zcF{w:World}{base k:Nat}{a:Addr}{n:Nat}{cs:List Value}(hs:a=⟨a.block,a.off,none⟩)(h:w.cells? base (a.add n) k=some cs):
 cs.length=k/\qG w a.block (a.off+n) cs:=by
 unfold World.cells? at h;split at h
 ·rw[List.range_eq_range']at h;have e:(fun i=>w.cell? ((a.add n).add i))=fun j=>w.cell? ⟨a.block,(a.off+n)+j,none⟩:=by
   funext j;rw[add_add,qeh hs,Nat.add_assoc]
  rw[e]at h;have:=zaK k 0 (a.off+n) cs h;simpa using this
 ·simp at h
section
variable {H:Type} {enc:TypeId×Value->H} {P:Program} {w:World} {base:Nat} {spare:Nat->Bool} {held:Bool}
def Zcu{α β:Type}(f:α->β->Prop):List α->List β->Prop
 |[],[]=>True
 |x::r,y::s=>f x y/\Zcu f r s
 |_,_=>False
theorem ZbU{α β:Type}{f:α->β->Prop}:∀(n s:Nat) (D:Nat->β),(∀i,s<=i->i<s+n->∃x,f x (D i))->∃l:List α,l.length=n/\Zcu f l ((List.range' s n).map D)/\∀i x,l[i]? = some x->f x (D (s+i))
 |0,s,D,_=>⟨[],rfl,trivial,fun i x h=>by simp at h⟩
 |n+1,s,D,h=>by
  obtain⟨x,hx⟩:=h s Xl (by omega);obtain⟨l,hl,h2,h3⟩:=ZbU n (s+1) D fun i a b=>h i (by omega) (by omega)
  refine⟨x::l,by simp[hl],?_,?_⟩
  ·rw[List.range'_succ];exact⟨hx,h2⟩
  ·intro i y hi;cases i with
   |zero=>simp at hi;subst hi;exact hx
   |succ i=>have:=h3 i y (by simpa using hi);rwa [show s+(i+1)=s+1+i from by omega]
theorem Za5{α:Type}(R:α->List Value->Prop)(f:α->DataW H->Prop){t e k:Nat}(ht:P.underlying t=some (.slice e))(hk:P.cellsOf e=k)(hk0:0<k)(hel:∀(fuel:Nat) (cs:List Value) (y:DataW H×List MemPlace),cs.length=k->DataW.trod enc P w base spare held fuel e cs=some y->∃x,R x cs/\f x y.1){fuel:Nat}{v:Value}{x:DataW H×List MemPlace}(h:DataW.trod enc P w base spare held fuel t [v]=some x):
 ∃l:List α,Qg w k R v l/\((x.1=.nil/\l=[])\/∃ds sp,x.1=.slice ds sp/\Zcu f l ds):=by
 rcases open_slice ht h with⟨h1,h2⟩|⟨a,len,cap,m,n,D,Pl,h1,h2,h3,h4,h5,h6,h7⟩
 ·simp at h1;subst h1;subst h2;exact⟨[],Or.inl ⟨rfl,rfl⟩,Or.inl ⟨rfl,rfl⟩⟩
 ·simp at h1;subst h1;have hlm:len<=m:=by rw[h5];split<;>omega
  rw[hk]at h7;have hs:0<len->a=⟨a.block,a.off,none⟩:=by
   intro h0;obtain⟨cs',hc,_⟩:=h7 0 (by omega);unfold World.cells? at hc;rw[if_pos (by simpa[Addr.add] using h2)]at hc;cases k with
   |zero=>omega
   |succ k =>
    rw[List.range_eq_range',List.range'_succ,List.mapM_cons]at hc;simp only[Nat.zero_mul]at hc;cases h9:w.cell? ((a.add 0).add 0) with
    |none=>rw[h9]at hc;simp at hc
    |some v=>simp[Addr.add]at h9;exact zdp h9
  obtain⟨l,hl,h2',h3'⟩:=ZbU (f:=fun x d=>∃i cs,d=(i,D i)/\w.cells? base (a.add (i*k)) k=some cs/\R x cs/\f x (D i)) len 0 (fun i=>(i,D i)) (fun i _ hi=>by
   obtain⟨cs',hc,hd⟩:=h7 i (by omega);obtain⟨hcl,_⟩:=zcF (hs (by omega)) hc;obtain⟨x,hx1,hx2⟩:=hel _ _ _ hcl hd;exact⟨x,i,cs',rfl,hc,hx1,hx2⟩)
  refine⟨l,Or.inr ⟨a,cap,by rw[hl],by omega,h4,?_⟩,Or.inr ⟨(List.range len).map D,_,by rw[h6],?_⟩⟩
  ·intro i x hi;obtain⟨j,cs,e1,e2,e3,e4⟩:=h3' i x hi;simp at e1;obtain⟨rfl,_⟩:=e1;have hil:i<len:=by
    rw[<-hl];exact(List.getElem?_eq_some_iff.1 hi).1
   obtain⟨hcl,hcc⟩:=zcF (hs (by omega)) e2;exact⟨cs,e3,hcl,hs (by omega),hcc⟩
  ·have:∀(l:List α) (ds:List (Nat×DataW H)),Zcu (fun x d=>∃i cs,d=(i,D i)/\w.cells? base (a.add (i*k)) k=some cs/\R x cs/\f x (D i)) l ds->Zcu f l (ds.map (·.2)):=by
    intro l;induction l with
    |nil=>intro ds;cases ds<;>simp[Zcu]
    |cons x l ih =>
     intro ds;cases ds with
     |nil=>simp[Zcu]
     |cons d ds =>
      rintro⟨⟨i,cs,e1,e2,e3,e4⟩,h⟩;exact⟨by rw[e1];exact e4,ih ds h⟩
   have:=this _ _ h2';rw[List.map_map]at this;rw[List.range_eq_range'];exact this
end
end Go.Proofs.YtlmfmioljeppfaaGreatDoor
namespace Go.Proofs.YtlmfmioljeppfaaGreatDoor
open Go.RowKit Go.Shelf Go.Lib Go.ChangeShapes Go.WideShapes Go.Deep
theorem ZaK:Tryz.prog.cellsOf 9=1:=by kernel_rfl
theorem qbU:Tryz.prog.cellsOf 3=1:=by kernel_rfl
theorem Qci:Tryz.prog.cellsOf 4=1:=by kernel_rfl
theorem Zdp:Tryz.prog.cellsOf 25=1:=by kernel_rfl
theorem qdp:Tryz.prog.cellsOf 50=1:=by kernel_rfl
theorem Zd6:Tryz.prog.cellsOf 51=1:=by kernel_rfl
theorem qd6:Tryz.prog.cellsOf 33=1:=by kernel_rfl
theorem Qd6:Tryz.prog.cellsOf 34=1:=by kernel_rfl
theorem QdM:Tryz.prog.cellsOf 24=6:=by kernel_rfl
theorem Qeh:Tryz.prog.cellsOf 126=4:=by kernel_rfl
theorem zei:Tryz.prog.cellsOf 130=2:=by kernel_rfl
theorem Zei:Tryz.prog.cellsOf 53=8:=by kernel_rfl
theorem qei:Tryz.prog.cellsOf 36=6:=by kernel_rfl
theorem QbU{n:Int}(h:(Lit.int .i64 n).wf=true):qbz n:=by
 unfold qbz;have h1:IntKind.i64.min = -9223372036854775808:=by decide
 have h2:IntKind.i64.max=9223372036854775807:=by decide
 simp[Lit.wf]at h;omega
theorem zdN{H:Type}(d:DataW H):1<=Rows.uptoBulk d:=by
 cases d with
 |lit l=>cases l<;>simp[Rows.uptoBulk]
 |nil=>simp[Rows.uptoBulk]
 |ptr d=>simp[Rows.uptoBulk]
 |slice elems spare=>simp[Rows.uptoBulk]
 |agg parts=>simp[Rows.uptoBulk]
 |iface t d=>simp[Rows.uptoBulk]
 |map entries=>simp[Rows.uptoBulk]
 |held h=>simp[Rows.uptoBulk]
theorem ZcF{H:Type}(l:List (DataW H)):l.length<=Rows.uptoBulkAll l:=by
 induction l with
 |nil=>simp
 |cons x r ih=>have:=zdN x;simp only[Rows.uptoBulkAll,List.length_cons];omega
theorem zbJ{H:Type}(s:ByteArray):Rows.uptoBulk (DataW.lit (H:=H) (.string s.data.toList))=s.size+1:=by
 simp[Rows.uptoBulk]
def QaF{H:Type}{α:Type}(Ok:α->Prop)(x:α)(d:DataW H):Prop:=Rows.uptoBulk d<=1048576->Ok x
theorem zbV{H:Type}{α:Type}{Ok:α->Prop}:∀{l:List α} {ds:List (DataW H)},Zcu (QaF Ok) l ds->Rows.uptoBulkAll ds<=1048576->(∀x∈l,Ok x)/\l.length=ds.length
 |[],[],_,_=>⟨(fun x h=>by cases h),rfl⟩
 |x::l,d::ds,⟨h1,h2⟩,hb=>by
  simp only[Rows.uptoBulkAll]at hb;obtain⟨h3,h4⟩:=zbV h2 (by omega);refine⟨fun y hy=>?_,by simp[h4]⟩;rcases List.mem_cons.1 hy with rfl|hy
  ·exact h1 (by omega)
  ·exact h3 y hy
 |[],_::_,h,_=>h.elim
 |_::_,[],h,_=>h.elim
theorem qaK{H:Type}{α:Type}{Ok:α->Prop}{l:List α}{d:DataW H}(h:(d=.nil/\l=[])\/∃ds sp,d=.slice ds sp/\Zcu (QaF Ok) l ds)(hb:Rows.uptoBulk d<=1048576):(∀x∈l,Ok x)/\l.length<=1048576:=by
 rcases h with⟨_,rfl⟩|⟨ds,sp,rfl,h2⟩
 ·exact⟨(fun x h=>by cases h),Nat.zero_le _⟩
 ·simp only[Rows.uptoBulk]at hb;obtain⟨h3,h4⟩:=zbV h2 (by omega);have:=ZcF ds;exact⟨h3,by omega⟩
section
variable {H:Type} {enc:TypeId×Value->H} {w:World} {base:Nat} {sp:Nat->Bool} {held:Bool}
set_option maxRecDepth 100000
theorem ZdN(fuel:Nat)(cs:List Value)(y:DataW H×List MemPlace)(_hl:cs.length=1)(h:DataW.trod enc Tryz.prog w base sp held fuel 9 cs=some y):∃x,zr x cs/\QaF (fun s:ByteArray=>s.size<=1048576) x y.1:=by
 obtain⟨s,rfl,rfl,_⟩:=DataW.trod_string Tryz.underlying9 h;exact⟨s,rfl,fun hb=>by rw[zbJ]at hb;omega⟩
theorem qdN(fuel:Nat)(cs:List Value)(y:DataW H×List MemPlace)(hl:cs.length=6)(h:DataW.trod enc Tryz.prog w base sp held fuel 24 cs=some y):∃x,qy x cs/\QaF QaK x y.1:=by
 obtain⟨xs,n,_,rfl,_,hlen,hf⟩:=DataW.trod_struct Tryz.underlying24 h;match cs,hl,xs,hlen with
 |[v0,v1,v2,v3,v4,v5],_,[y0,y1,y2,y3,y4,y5],_ =>
  obtain⟨n0,e0,r0,w0⟩:=DataW.trod_int Tryz.underlying3 (hf 0 _ rfl);obtain⟨n1,e1,r1,w1⟩:=DataW.trod_int Tryz.underlying3 (hf 1 _ rfl);obtain⟨n2,e2,r2,w2⟩:=DataW.trod_int Tryz.underlying3 (hf 2 _ rfl);obtain⟨s3,e3,r3,_⟩:=DataW.trod_string Tryz.underlying9 (hf 3 _ rfl);obtain⟨s4,e4,r4,_⟩:=DataW.trod_string Tryz.underlying9 (hf 4 _ rfl);obtain⟨s5,e5,r5,_⟩:=DataW.trod_string Tryz.underlying9 (hf 5 _ rfl);simp[ZaK,qbU]at e0 e1 e2 e3 e4 e5;subst e0 e1 e2 e3 e4 e5 r0 r1 r2 r3 r4 r5;refine⟨⟨n0,n1,n2,s3,s4,s5⟩,rfl,fun hb=>?_⟩;simp[Rows.uptoBulk,Rows.uptoBulkAll]at hb;exact⟨QbU w0,QbU w1,QbU w2,by show s3.size<=_;omega,by show s4.size<=_;omega,by show s5.size<=_;omega⟩
theorem qcu(fuel:Nat)(cs:List Value)(y:DataW H×List MemPlace)(hl:cs.length=4)(h:DataW.trod enc Tryz.prog w base sp held fuel 126 cs=some y):∃x,qw x cs/\QaF zaL x y.1:=by
 obtain⟨xs,n,_,rfl,_,hlen,hf⟩:=DataW.trod_struct Tryz.underlying126 h;match cs,hl,xs,hlen with
 |[v0,v1,v2,v3],_,[y0,y1,y2,y3],_ =>
  obtain⟨n0,e0,r0,w0⟩:=DataW.trod_int Tryz.underlying3 (hf 0 _ rfl);obtain⟨n1,e1,r1,w1⟩:=DataW.trod_int Tryz.underlying3 (hf 1 _ rfl);obtain⟨n2,e2,r2,w2⟩:=DataW.trod_int Tryz.underlying3 (hf 2 _ rfl);obtain⟨s3,e3,r3,_⟩:=DataW.trod_string Tryz.underlying9 (hf 3 _ rfl);simp[ZaK,qbU]at e0 e1 e2 e3;subst e0 e1 e2 e3 r0 r1 r2 r3;refine⟨⟨n0,n1,n2,s3⟩,rfl,fun hb=>?_⟩;simp[Rows.uptoBulk,Rows.uptoBulkAll]at hb;exact⟨QbU w0,QbU w1,QbU w2,by show s3.size<=_;omega⟩
theorem qc0(fuel:Nat)(cs:List Value)(y:DataW H×List MemPlace)(hl:cs.length=2)(h:DataW.trod enc Tryz.prog w base sp held fuel 130 cs=some y):∃x,ZE x cs/\QaF (fun x:qag=>x.name.size<=1048576/\x.type.size<=1048576) x y.1:=by
 obtain⟨xs,n,_,rfl,_,hlen,hf⟩:=DataW.trod_struct Tryz.underlying130 h;match cs,hl,xs,hlen with
 |[v0,v1],_,[y0,y1],_ =>
  obtain⟨s0,e0,r0,_⟩:=DataW.trod_string Tryz.underlying9 (hf 0 _ rfl);obtain⟨s1,e1,r1,_⟩:=DataW.trod_string Tryz.underlying9 (hf 1 _ rfl);simp[ZaK]at e0 e1;subst e0 e1 r0 r1;refine⟨⟨s0,s1⟩,rfl,fun hb=>?_⟩;simp[Rows.uptoBulk,Rows.uptoBulkAll]at hb;exact⟨by show s0.size<=_;omega,by show s1.size<=_;omega⟩
theorem qcF(fuel:Nat)(cs:List Value)(y:DataW H×List MemPlace)(hl:cs.length=8)(h:DataW.trod enc Tryz.prog w base sp held fuel 53 cs=some y):∃x,Zr w x cs/\QaF (fun m:Zk=>z9 m/\m.handlers.length<=1048576) x y.1:=by
 obtain⟨xs,n,_,rfl,_,hlen,hf⟩:=DataW.trod_struct Tryz.underlying53 h;match cs,hl,xs,hlen with
 |[v0,v1,v2,v3,v4,v5,v6,v7],_,[y0,y1,y2,y3,y4,y5,y6,y7],_ =>
  obtain⟨s0,e0,r0,_⟩:=DataW.trod_string Tryz.underlying9 (hf 0 _ rfl);obtain⟨s1,e1,r1,_⟩:=DataW.trod_string Tryz.underlying9 (hf 1 _ rfl);obtain⟨n2,e2,r2⟩:=DataW.trod_bool Tryz.underlying4 (hf 2 _ rfl);obtain⟨n3,e3,r3⟩:=DataW.trod_bool Tryz.underlying4 (hf 3 _ rfl);obtain⟨n4,e4,r4⟩:=DataW.trod_bool Tryz.underlying4 (hf 4 _ rfl);obtain⟨n5,e5,r5,w5⟩:=DataW.trod_int Tryz.underlying3 (hf 5 _ rfl);have h6:=hf 6 _ rfl;have h7:=hf 7 _ rfl;simp[ZaK,qbU,Qci]at e0 e1 e2 e3 e4 e5;simp[qdp]at h6;simp[Zd6]at h7;obtain⟨l6,g6,k6⟩:=Za5 qy (QaF QaK) Tryz.underlying50 QdM (by decide) qdN h6;obtain⟨l7,g7,k7⟩:=Za5 qw (QaF zaL) Tryz.underlying51 Qeh (by decide) qcu h7;subst e0 e1 e2 e3 e4 e5 r0 r1 r2 r3 r4 r5;refine⟨⟨s0,s1,n2,n3,n4,n5,l6,l7⟩,⟨v6,v7,rfl,g6,g7⟩,fun hb=>?_⟩;simp[Rows.uptoBulk,Rows.uptoBulkAll]at hb;obtain⟨o6,_⟩:=qaK k6 (by omega);obtain⟨o7,b7⟩:=qaK k7 (by omega);exact⟨⟨by show s0.size<=_;omega,by show s1.size<=_;omega,QbU w5,o6,o7⟩,b7⟩
theorem Qc0(fuel:Nat)(cs:List Value)(y:DataW H×List MemPlace)(hl:cs.length=6)(h:DataW.trod enc Tryz.prog w base sp held fuel 36 cs=some y):∃x,Z6 w x cs/\QaF qV x y.1:=by
 obtain⟨xs,n,_,rfl,_,hlen,hf⟩:=DataW.trod_struct Tryz.underlying36 h;match cs,hl,xs,hlen with
 |[v0,v1,v2,v3,v4,v5],_,[y0,y1,y2,y3,y4,y5],_ =>
  obtain⟨s0,e0,r0,_⟩:=DataW.trod_string Tryz.underlying9 (hf 0 _ rfl);obtain⟨s1,e1,r1,_⟩:=DataW.trod_string Tryz.underlying9 (hf 1 _ rfl);obtain⟨n3,e3,r3⟩:=DataW.trod_bool Tryz.underlying4 (hf 3 _ rfl);have h2:=hf 2 _ rfl;have h4:=hf 4 _ rfl;have h5:=hf 5 _ rfl;simp[ZaK,Qci]at e0 e1 e3;simp[Zdp]at h2;simp[qd6]at h4;simp[Qd6]at h5;obtain⟨l2,g2,k2⟩:=Za5 zr (QaF (fun s:ByteArray=>s.size<=1048576)) Tryz.underlying25 ZaK (by decide) ZdN h2;obtain⟨l4,g4,k4⟩:=Za5 ZE (QaF (fun x:qag=>x.name.size<=1048576/\x.type.size<=1048576)) Tryz.underlying33 zei (by decide) qc0 h4;obtain⟨l5,g5,k5⟩:=Za5 (Zr w) (QaF (fun m:Zk=>z9 m/\m.handlers.length<=1048576)) Tryz.underlying34 Zei (by decide) qcF h5;subst e0 e1 e3 r0 r1 r3;refine⟨⟨s0,s1,l2,n3,l4,l5⟩,⟨v2,v4,v5,rfl,g2,g4,g5⟩,fun hb=>?_⟩;simp[Rows.uptoBulk,Rows.uptoBulkAll]at hb;obtain⟨o2,_⟩:=qaK k2 (by omega);obtain⟨o4,_⟩:=qaK k4 (by omega);obtain⟨o5,_⟩:=qaK k5 (by omega);exact⟨by show s0.size<=_;omega,by show s1.size<=_;omega,o2,o4,fun m hm=>(o5 m hm).1⟩
set_option maxRecDepth 512
theorem Qcu{fuel:Nat}{v:Value}{x:DataW H×List MemPlace}(h:DataW.trod enc Tryz.prog w base sp held fuel 22 [v]=some x)(hb:Rows.uptoBulk x.1<=1048576):∃l,qi w v l/\∀c∈l,qV c:=by
 obtain⟨l,g,k⟩:=Za5 (Z6 w) (QaF qV) Tryz.underlying22 qei (by decide) Qc0 h;exact⟨l,g,(qaK k hb).1⟩
end
section
variable {H:Type} {enc:TypeId×Value->H} {w:World} {base:Nat} {sp:Nat->Bool} {held:Bool}
end
end Go.Proofs.YtlmfmioljeppfaaGreatDoor
