/- Lemmas; conditions: as each states. -/
import Derived.Test.YtlmfmioljeppfaaGreatDoorWorldMap
import Derived.Sort.OwnSorted
import Derived.Lib.OwnBridge
set_option maxHeartbeats 4000000
namespace Go.Proofs.YtlmfmioljeppfaaGreatDoor
open Go.RowKit Go.Shelf Go.Lib
def Zab(out:List Str)(more:List Str):List Str:=more.foldl (fun o a=>if QK o a then o else o++[a]) out
def zab(ab:Str->List Str):Nat->Nat->List Str->List Str
 |0,_,out=>out
 |n+1,i,out =>
  match out[i]? with
  |none=>out
  |some x=>zab ab n (i+1) (Zab out (ab x))
def Qk(cs:List Qb)(n:Str):List Str:=zab (qp cs) (cs.length+1) 0 [n]
theorem za2{B:Str->List Str}{n i:Nat}{A:List Str}{x:Str}(h:A[i]? = some x):zab B (n+1) i A=zab B n (i+1) (Zab A (B x)):=by
 rw[zab,h]
theorem Qa1{B:Str->List Str}{n i:Nat}{A:List Str}(h:A[i]? = none):zab B n i A=A:=by
 cases n with
 |zero=>rfl
 |succ n=>rw[zab,h]
theorem qa1(A:List Str)(a:Str)(r:List Str):Zab A (a::r)=Zab (if QK A a then A else A++[a]) r:=rfl
theorem qbN(A:List Str)(l:List Str)(k:Nat)(x:Str)(h:l[k]? = some x):Zab A (l.drop k)=Zab (if QK A x then A else A++[x]) (l.drop (k+1)):=by
 obtain⟨B,rfl⟩:=List.getElem?_eq_some_iff.1 h;rw[List.drop_eq_getElem_cons B,qa1]
theorem qay{α:Type}[DecidableEq α]:∀(l m:List α),l.Nodup->(∀x∈l,x∈m)->l.length<=m.length
 |[],_,_,_=>Nat.zero_le _
 |a::r,m,B,hs=>by
  have C:a∈m:=hs a (by simp);rw[List.nodup_cons]at B;have:=qay r (m.erase a) B.2 (fun x D=>by
   have A:=hs x (by simp[D]);exact(List.mem_erase_of_ne (fun h=>B.1 (by rw[<-h];exact D))).2 A)
  rw[List.length_erase_of_mem C]at this;have:=List.length_pos_of_mem C;simp;omega
structure Qay (cs:List Qb) (out:List Str):Prop where
 nodup:out.Nodup
 known:∀x∈out,(Qc cs x).isSome=true
theorem Zas{cs:List Qb}{n:Str}(h:(Qc cs n).isSome=true):∃c∈cs,c.name=n:=by
 rw[Option.isSome_iff_exists]at h;obtain⟨c,A⟩:=h;exact⟨c,List.mem_of_find?_eq_some A,by simpa using List.find?_some A⟩
theorem Qay.length{cs:List Qb}{A:List Str}(h:Qay cs A):A.length<=cs.length:=by
 have:=qay A (cs.map (·.name)) h.nodup (fun x C=>by
  obtain⟨c,B,rfl⟩:=Zas (h.known x C);exact List.mem_map_of_mem B)
 simpa using this
theorem Qay.add{cs:List Qb}{B:List Str}(h:Qay cs B){a:Str}(E:(Qc cs a).isSome=true)(C:QK B a=false):Qay cs (B++[a]):=by
 refine⟨?_,fun x A=>?_⟩
 ·rw[List.nodup_append];refine⟨h.nodup,by simp,fun x A y D=>?_⟩;simp at D;subst D;rintro rfl;rw[Zy.2 A]at C;cases C
 ·rcases List.mem_append.1 A with A|A
  ·exact h.known x A
  ·simp at A;subst A;exact E
theorem Qay.one{cs:List Qb}{n:Str}(h:(Qc cs n).isSome=true):Qay cs [n]:=⟨by simp,fun x A=>by simp at A;subst A;exact h⟩
def Qaw(cs:List Qb):Prop:=∀x,(Qc cs x).isSome=true->∀a∈qp cs x,(Qc cs a).isSome=true
theorem Qp.names{E w:World}{B:Nat}{cs:List Qb}(h:Qp E w B cs){n:Str}(F:(Qc cs n).isSome=true):n.size<=maxLen:=by
 obtain⟨c,G,rfl⟩:=Zas F;obtain⟨_,_,_,H,C,_,D,A⟩:=h;obtain⟨i,I,rfl⟩:=List.getElem_of_mem G;exact(A i (H.toList[i]'(by omega)) cs[i] (Xn (by omega)) (Xn I)).2.1
theorem Qp.grown{D w w':World}{B:Nat}{cs:List Qb}{C:Option Nat}(h:Qp D w B cs)(E:w.grownBy w' C)(F:∀g,C=some g->D.heap.size<=g/\g≠B):Qp D w' B cs:=by
 obtain⟨G,I,H,J,A,L,M⟩:=h;exact⟨G.grown E G.size (fun k N=>(F k N).1),I,Nat.lt_of_lt_of_le H E.size,J,A,(E.block B H (fun O=>(F B O.symm).2 rfl)).trans L,M⟩
theorem QbN{w:World}{base:Nat}{e:TypeId}{a:Option Addr}{n c:Nat}{xs:List Value}(h:w.ownsRow base e 1 (.slice a n c) n xs)(C:0<n):∃g,a=some ⟨g,0,none⟩:=by
 rcases h.2 with⟨A,D⟩|⟨g,cap,B,A,_⟩
 ·omega
 ·injection A with A;exact⟨g,A⟩
theorem Qbd{w:World}{base:Nat}{e:TypeId}{a:Option Addr}{n c:Nat}{l:List ByteArray}(h:w.ownsRow base e 1 (.slice a n c) l.length (l.map Value.string))(i:Nat)(x:ByteArray)(G:l[i]? = some x):
 ∀g,a=some ⟨g,0,none⟩->w.cell? ⟨g,i,none⟩=some (.string x):=by
 rintro g rfl;obtain⟨p,cap,B,_,_,H⟩:=(Ze h).open;obtain⟨b,o,vs,A,F,_,C⟩:=H i x G;injection B with B
 rw[<-B]at A;injection A with A
 injection A with D E
 subst D E;unfold qs at F;subst F;have:=C.1;rwa [Nat.mul_one,Nat.zero_add]at this
def zF(l:List Str):List Str:=((l.map (·.data.toList)).mergeSort fun x y=>decide (x<=y)).map fun x=>⟨x.toArray⟩
theorem zbt(l:List Str):(zF l).length=l.length:=by simp[zF]
theorem Qd5{w:World}{base:Nat}{a:Option Addr}{c:Nat}{l:List Str}(h:w.ownsRow base 9 1 (.slice a l.length c) l.length (l.map Value.string))(J:l.length<4611686018427387904):
 Calls Tryz.prog 173 #[.slice a l.length c] w fun e w'=>e=.returned (.tuple #[])/\Qh w' (.slice a l.length c) (zF l)/\w.grownBy w' (Value.slice a l.length c).ownBlock:=by
 rcases h.2 with⟨E,D⟩|⟨g,cap,N,O,B,F,P,R,S,T⟩
 ·obtain rfl:=List.length_eq_zero_iff.1 D;injection E with E _ U
  subst E U;refine(Tryz.slices_Sort_string_none none 0 w).mono ?_;rintro e w'⟨rfl,rfl⟩;exact⟨rfl,Or.inl ⟨rfl,by simp[zF]⟩,World.grownBy.refl w' _⟩
 ·injection O with G _ H
  subst G H;have L:=Lib.map_encStr l;have A:(l.map (·.data.toList)).length=l.length:=by simp
  have M:=holds_of_block (ss:=l.map (·.data.toList)) F (by rw[A,L];simpa using T);have I:=Tryz.slices_Sort_string g 0 c (l.map (·.data.toList)) w M (Array.getElem?_eq_some_iff.1 F).1 (by rw[A];exact J);rw[A]at I;refine I.mono ?_;rintro e w'⟨rfl,n,os,rfl⟩;have C:=ownsRow_sorted (n:=n) (os:=os) (ts:=(l.map (·.data.toList)).mergeSort fun x y=>decide (x<=y)) (ss:=l.map (·.data.toList)) (by simp) B F (by rw[A];exact P) R S;rw[A]at C;refine⟨rfl,?_,grownBy_sorted _⟩;have:(((l.map (·.data.toList)).mergeSort fun x y=>decide (x<=y)).map Proofs.encStr)=(zF l).map Value.string:=by
   unfold zF;rw[List.map_map];rfl
  rw[this]at C;have D:l.length=(zF l).length:=(zbt l).symm;rw[D]at C ⊢;exact Ze C
set_option maxRecDepth 100000
theorem qbB(w0 w:World)(B:Nat)(cs:List Qb)(hm:Qp w0 w B cs)(hn:(cs.map (·.name)).Nodup)(h8:∀c∈cs,c.faces.length<=8)(t:cs.length<=12)(L:Qaw cs)(n:Str)(r:(Qc cs n).isSome=true):
 Calls Tryz.prog 127 #[.map (some B),.string n] w fun e w'=>(∃v,e=.returned v/\Qh w' v (zF (Qk cs n)))/\Below w.heap.size w w':=by
 obtain⟨i0,hi,hz0,hz1,hz2⟩:=info_parts qO;have y:Hid (∀wr x,Below w.heap.size w wr->(Qc cs x).isSome=true->_):=fun wr x hb f=>zcr w0 wr B cs (hm.step hb) hn h8 x (hm.names f)
 have z:(w.alloc (.cells #[.string n] 9)).ownsRow w.heap.size 9 1 (.slice (some ⟨w.heap.size,0,none⟩) 1 1) 1 [.string n]:=ZZ w w.heap.size (.string n) Xl;have hge:w0.heap.size<=w.heap.size:=hm.below.size;clear hm hn h8;have aA:=Xh L;clear L;go_enter Tryz.func127,Tryz.ntmps127;go_wp2_with fail;go_loopw [5,6] (fun v x wr=>∃(i:Nat) (D:List Str),Hid (zab (qp cs) (cs.length+1-i) i D=Qk cs n)/\Hid (Qay cs D)/\wr.ownsRow w.heap.size 9 1 v D.length (D.map Value.string)/\Below w.heap.size w wr/\i<=13/\x=.int .i64 i) (fun _ x _=>14-(intOf x).toNat)
 case atStart=>exact⟨0,[n],rfl,Qay.one r,z,Xb.alloc Xl _,by omega,rfl⟩
 case round =>
  obtain⟨i,D,HR,HG,A,J,hi13,rfl⟩:=hrel;obtain⟨va,vc,rfl⟩:=qe A;have hol:=Xf HG.out.length t;by_cases hil:i<D.length
  ·obtain⟨x,f⟩:∃x,D[i]? = some x:=⟨D[i],by simp[hil]⟩;have S:=HG.out.known x (Xe f);have hrs:Hid (zab (qp cs) (cs.length+1-(i+1)) (i+1) (Zab D (qp cs x))=Qk cs n):=by
    have:=HR.out;have hle:=HG.out.length;rw[show cs.length+1-i=(cs.length-i)+1 by omega,za2 f]at this;rw[show cs.length+1-(i+1)=cs.length-i by omega];exact this
   have T:Hid (∀a∈qp cs x,(Qc cs a).isSome=true):=aA.out x S;have U:=Qbd A i x f;obtain⟨g,rfl⟩:=QbN A (by omega);have aB:=Xh (y.out wr x J S);have HX:=Xh f;clear f HR S;generalize qp cs x=C at *;go_wp2_with (go_at_call 125;((with_reducible refine aB.out.mono ?_);rintro e w2⟨⟨v2,rfl,l,haw⟩,m⟩;obtain⟨pv,kv,rfl,aH,aI,_⟩:=l.open))
   have hg:=(A.lt g rfl);have M:=Zr A m;have aC:=Qa J Xl m;have E:Hid (C=[]\/∀R,(Value.slice (some ⟨g,0,none⟩) D.length vc).ownBlock=some R->(Value.slice pv C.length kv).ownBlock≠some R):=by
    rcases haw with h|h
    ·exact Or.inl h
    ·refine Or.inr fun R P s=>?_
     obtain rfl:g=R:=(by injection P);have:=h _ s;have:=hg.1;have:=hg.2;omega
   clear aB y U A J haw m aA;go_loopw [5,24] (fun v x q=>∃(k:Nat) (G:List Str),k<=C.length/\Hid (Zab G (C.drop k)=Zab D C)/\Hid (Qay cs G)/\q.ownsRow w.heap.size 9 1 v G.length (G.map Value.string)/\Below w.heap.size w q/\Qh q (.slice pv C.length kv) C/\Hid (C=[]\/∀R,v.ownBlock=some R->(Value.slice pv C.length kv).ownBlock≠some R)/\x=.int .i64 k) (fun _ x _=>C.length-(intOf x).toNat)
   case atStart=>exact⟨0,D,by omega,rfl,HG,M,aC,l,E,rfl⟩
   case round =>
    clear M aC l E;obtain⟨k,G,r,HA,j,A,J,hv,E,rfl⟩:=hrel;obtain⟨va,vc2,rfl⟩:=qe A;have hlen:C.length<=9223372036854775807:=Xf aH aI;by_cases V:k<C.length
    ·obtain⟨a,ha⟩:∃a,C[k]? = some a:=⟨C[k],by simp[V]⟩;have aD:=T.out a (Xe ha);have X:=qbN G C k a ha;rw[HA.out]at X;obtain⟨p2,kv2,O,_,_,hcc⟩:=hv.open;obtain⟨b,o,vs,hpb,hR,_,L⟩:=hcc k a ha;injection O with O hx1 hx2
     clear hx1 hx2;rw[<-O]at hpb;subst hpb;unfold qs at hR;subst hR;have hc:=L.1;rw[Nat.mul_one]at hc;have F:=zan G (.slice va G.length vc2) a wr (Ze A);clear L hcc O;have HX:=Xh ha;clear ha;cases H:QK G a with
     |true =>
      rw[H,if_pos rfl]at X;rw[H]at F;have HC:=Xh F;have Y:=Xh X.symm;clear F X H;go_wp2_with (go_fit HC.out;rintro e w3⟨rfl,rfl⟩)
      go_roundw;case rel=>exact⟨k+1,G,by omega,Y.out,j,A,J,hv,E,by simp⟩
      case measure=>simp[intOf];omega
     |false =>
      rw[H,if_neg (by decide)]at X;rw[H]at F;have HC:=Xh F;have Y:=Xh X.symm;have aE:Hid (Qay cs (G++[a])):=j.out.add aD H;have aF:(G++[a]).length<=12:=Xf aE.out.length t;rw[List.length_append,List.length_singleton]at aF;have c2:∀u∈[Value.string a],u.oneCell'=true:=fun u hu=>by simp at hu;subst hu;rfl
      have c3:G.length+1<=maxLen:=Xf aF (by decide);have c4:(G.length+1)*16<=140737488355328:=(by omega);have c5:w.heap.size<=(wr.alloc (.cells #[.string a] 9)).heap.size:=(J.alloc J.size _).size;have HV:=Xh (hv.mono (Xb.alloc Xl (.cells #[.string a] 9)));have HB:=Xh (J.alloc J.size (.cells #[.string a] 9));have HO:=Xh A;clear F X H hv J aD;go_wp2_with (first|(go_fit HC.out;rintro e w3⟨rfl,rfl⟩)|(at_builtin;(refine wpList_append_own_at _ rfl _ _ 25 rfl w.heap.size 9 i0 (.string .empty) 1 16 Tryz.underlying25 hi hz0 hz1 hz2 rfl (by decide) _ _ _ rfl (A.alloc _) ⟨wr.heap.size,0,none⟩ 1 1 [.string a] rfl rfl (cell_one_new _ _ _) c2 c3 c4 c5 ?_;intro v3 w3 p I _ hat3)))
      have Z:w3.ownsRow w.heap.size 9 1 v3 (G++[a]).length ((G++[a]).map Value.string):=(by simpa using p);go_roundw;case measure=>simp[intOf];omega
      case rel =>
      refine⟨k+1,G++[a],by omega,Y.out,aE,Z,HB.out.grown I c5 (fun k r=>(HO.out.lt k r).1),?_,?_,by simp⟩
      ·refine HV.out.grown I ?_;rcases E.out with h|h
       ·exact Or.inl h
       ·refine Or.inr fun he=>?_
        obtain⟨g2,P,_⟩:=Zat HV.out (List.ne_nil_of_length_pos (by omega));rw[P]at he;exact h g2 he.symm P
      ·refine Or.inr fun R P s=>?_
       obtain⟨g2,h3,h4⟩:=Zat HV.out (List.ne_nil_of_length_pos (by omega));rw[h3]at s;injection s with s
       subst s;rcases hat3 with h|h
       ·rcases E.out with h5|h5
        ·rw[h5]at V;simp at V
        ·exact h5 _ (h.symm.trans P) h3
       ·rw[h]at P;injection P with P;omega
    ·have d:Hid (G=Zab D C):=by
      have:=HA.out;rw[Xg (by omega)]at this;exact this
     cases d.out;go_wp2_with fail;go_roundw;case rel=>exact⟨i+1,_,hrs,j,A,J,by omega,by simp⟩
     case measure=>simp[intOf];omega
  ·have aG:Hid (D=Qk cs n):=by
    have:=HR.out;rwa [Qa1 (List.getElem?_eq_none (by omega))]at this
   have N:=Qd5 A (by omega);have HS:=Xh N;have HO:=Xh A;clear N A HR;go_wp2_with (go_fit HS.out;rintro e w2⟨rfl,hs2,hg2⟩)
   go_ret;exact⟨⟨_,rfl,by rw[<-aG.out];exact hs2⟩,J.grown hg2 J.size (fun k r=>(HO.out.lt k r).1)⟩
set_option maxRecDepth 512
end Go.Proofs.YtlmfmioljeppfaaGreatDoor
namespace Go.Proofs.YtlmfmioljeppfaaGreatDoor
open Go.RowKit Go.Shelf Go.Lib
open Go.WideMaps (keyOf_string_mk string_law)
theorem Qp.look3{V w:World}{B:Nat}{cs:List Qb}(h:Qp V w B cs)(x:(cs.map (·.name)).Nodup)(n:Str)(hs:n.size<=maxLen):
 ∃a b d f g k,Qh V (.slice a ((Qc cs n).getD zg).faces.length b) ((Qc cs n).getD zg).faces/\Zg V 2 QE (.slice d ((Qc cs n).getD zg).fields.length f) ((Qc cs n).getD zg).fields/\Zg V 8 (zr V) (.slice g ((Qc cs n).getD zg).methods.length k) ((Qc cs n).getD zg).methods /\
  ∀wx,Below w.heap.size w wx ->
  (Instr.lookup 97 (.map (some B)) (.string n) true).run Tryz.prog wx=.ok (.tuple #[Qz ((Qc cs n).getD zg) (.slice a ((Qc cs n).getD zg).faces.length b) (.slice d ((Qc cs n).getD zg).fields.length f) (.slice g ((Qc cs n).getD zg).methods.length k),.bool (Qc cs n).isSome]) wx /\
  (Instr.lookup 97 (.map (some B)) (.string n) false).run Tryz.prog wx=.ok (Qz ((Qc cs n).getD zg) (.slice a ((Qc cs n).getD zg).faces.length b) (.slice d ((Qc cs n).getD zg).fields.length f) (.slice g ((Qc cs n).getD zg).methods.length k)) wx:=by
 obtain⟨_,_,Z,N,o,y,z,E⟩:=h;have K:=string_law (P:=Tryz.prog) Zaz;have A:=keyOf_string_mk (P:=Tryz.prog) Zaz hs;have X:∀e∈N.toList,∃l,keyOf Tryz.prog 9 e.key=some l:=fun e t=>by
  obtain⟨i,S,rfl⟩:=List.getElem_of_mem t;obtain⟨T,O,_⟩:=E i _ (cs[i]'(by omega)) (Xn S) (Xn (by omega));exact⟨_,by rw[T];exact keyOf_string_mk Zaz O⟩
 have I:∀i (S:i<N.toList.length) (hc:i<cs.length),N.toList[i].key=.string cs[i].name:=fun i S hc=>(E i _ _ (Xn S) (Xn hc)).1
 cases Y:Qc cs n with
 |none =>
  have J:=Y;unfold Qc at J;rw[List.find?_eq_none]at J;refine⟨none,0,none,0,none,0,Or.inl ⟨rfl,rfl⟩,Or.inl ⟨rfl,rfl⟩,Or.inl ⟨rfl,rfl⟩,fun wx v=>?_⟩;have L:=(v.block B Z).trans y;rcases K.find wx A N.toList X with⟨T,_⟩|⟨j,e0,_,O,G⟩
  ·constructor<;>simp[Instr.lookup,run_underlying Zbt,MapKept.run_getObj_map L,K.check wx _ A,T,Result.andThen,Qz,zg]<;>rfl
  ·exfalso;obtain⟨U,rfl⟩:=List.getElem?_eq_some_iff.1 O;rw[I j U (by omega)]at G;injection G with G
   exact J cs[j] (List.getElem_mem _) (by simp[G])
 |some c =>
  have C:=Y;unfold Qc at C;rw[List.find?_eq_some_iff_getElem]at C;obtain⟨p,j,U,R,_⟩:=C;obtain⟨g1,g2,fv,dv,mv,g3,q,r,s⟩:=E j (N.toList[j]'(by omega)) cs[j] (Xn (by omega)) (Xn U);have D:c.name=n:=by simpa using p
  rw[R]at g3 q r s;obtain⟨a,b,rfl,_⟩:=q.open;obtain⟨d,f,rfl,_⟩:=r.open;obtain⟨g,k,rfl,_⟩:=s.open;refine⟨a,b,d,f,g,k,q,r,s,fun wx v=>?_⟩;have L:=(v.block B Z).trans y;rcases K.find wx A N.toList X with⟨_,O⟩|⟨i,e0,T,O,G⟩
  ·exfalso;refine O _ (List.getElem_mem (show j<N.toList.length by omega)) ?_;rw[I j (by omega) U,R,D]
  ·obtain⟨S,rfl⟩:=List.getElem?_eq_some_iff.1 O;have M:i<cs.length:=(by omega);rw[I i S M]at G;injection G with G
   have m:i=j:=by
    have H:cs[j].name=n:=(by rw[R,D]);rcases Nat.lt_trichotomy i j with F|t|F
    ·have:=List.pairwise_iff_getElem.1 x i j (by simpa using M) (by simpa using U) F;simp[G,H]at this
    ·exact t
    ·have:=List.pairwise_iff_getElem.1 x j i (by simpa using U) (by simpa using M) F;simp[G,H]at this
   subst m;rw[g3]at T;constructor<;>simp[Instr.lookup,run_underlying Zbt,MapKept.run_getObj_map L,K.check wx _ A,T,Result.andThen]
def Qv(cs:List Qb)(c:Qb):Nat :=
 if c.super.size=0 then 1
 else if !(Qc cs c.super).isSome then 3
 else if c.faces.any (fun n=>!(Qc cs n).isSome) then 3
 else if Zu cs c.super false≠0 then Zu cs c.super false
 else if Zh (fun n=>Zu cs n true) c.faces≠0 then Zh (fun n=>Zu cs n true) c.faces
 else if c.face&&decide (c.super≠qg) then 7 else 0
set_option maxRecDepth 100000
theorem zdf(w0 w:World)(B:Nat)(cs:List Qb)(s:Qp w0 w B cs)(hn:(cs.map (·.name)).Nodup)(c:Qb)(fv dv mv:Value)(t:c.super.size<=maxLen)(y:∀x∈c.faces,x.size<=maxLen)(hf:Qh w0 fv c.faces)(v:Value)(hv:zE (Qv cs c)=v):
 Calls Tryz.prog 88 #[.map (some B),Qz c fv dv mv] w fun e w'=>e=.returned v/\Below w.heap.size w w':=by
 obtain⟨ps,ks,pd,kd,pm,km,_,_,_,aC⟩:=s.look3 hn c.super t;have HS:Hid (∀x∈c.faces,x.size<=maxLen):=y;have F:Hid (∀(wx:World) (n:Str) (f:Bool),Below w.heap.size w wx->n.size<=maxLen->_):=fun wx n f hb hs=>Qeh w0 wx B cs (s.step hb) hn n hs f
 have J:Hid (∀n:Str,n.size<=maxLen->_):=fun n hs=>s.look3 hn n hs
 have g:=Xh aC;have z:=hf.mono s.below;obtain⟨pf,X,rfl,hf1,hf2,M⟩:=z.open;have aA:=Xh M;have HF:Hid (v=zE (Qv cs c)):=hv.symm;clear aC M z hf s y hv hn;obtain⟨Y,C,A,G,fields,aD⟩:=c;try unfold Qz at *
 dsimp only at *;have ze:C.toList.isEmpty=decide (C.size=0):=ZD C;by_cases q:C.size=0
 ·have D:Hid (v=.iface 29 (.int .i64 1)):=by rw[HF.out];unfold Qv;rw[if_pos q];rfl
  rw[Xj q]at ze;clear HF q g J F;go_enter Tryz.func88,Tryz.ntmps88;go_wp2_with fail;cases D.out;go_ret;exact⟨rfl,Xb.alloc Xl _⟩
 ·rw[Xi q]at ze;obtain⟨l1,l2⟩:=g.out _ (Xb.alloc Xl (.cells #[.string Y,.string C,.slice pf A.length X,.bool G,dv,mv] 36));clear l2;have j:Hid (v=zE (if !(Qc cs C).isSome then 3 else if A.any (fun n=>!(Qc cs n).isSome) then 3 else if Zu cs C false≠0 then Zu cs C false else if Zh (fun n=>Zu cs n true) A≠0 then Zh (fun n=>Zu cs n true) A else if G&&decide (C≠qg) then 7 else 0)):=by
   unfold Hid;rw[HF.out];unfold Qv;rw[if_neg q]
  clear HF q;have hc:=j;cases M:(Qc cs C).isSome with
  |false =>
   rw[M]at l1 j;have D:Hid (v=.iface 29 (.int .i64 3)):=(by rw[j.out];rfl);clear hc j M F J g;generalize (Qc cs C).getD zg=d at *;obtain⟨n1,s1,f1,b1,d1,m1⟩:=d;try unfold Qz at *
   dsimp only at *;go_enter Tryz.func88,Tryz.ntmps88;go_wp2_with fail;cases D.out;go_ret;exact⟨rfl,QR _ _ _⟩
  |true =>
   rw[M]at l1 j;have T:Hid (v=zE (if A.any (fun n=>!(Qc cs n).isSome) then 3 else if Zu cs C false≠0 then Zu cs C false else if Zh (fun n=>Zu cs n true) A≠0 then Zh (fun n=>Zu cs n true) A else if G&&decide (C≠qg) then 7 else 0)):=j.out;clear hc j M g;generalize (Qc cs C).getD zg=d at *;obtain⟨n1,s1,f1,b1,d1,m1⟩:=d;try unfold Qz at l1
   dsimp only at l1;go_enter Tryz.func88,Tryz.ntmps88;go_wp2_with fail;go_loopw [32] (fun x wr=>∃k,k<=A.length/\Hid (((A.drop k).any fun n=>!(Qc cs n).isSome)=(A.any fun n=>!(Qc cs n).isSome))/\zB w wr [.string Y,.string C,.slice pf A.length X,.bool G,dv,mv]/\x=.int .i64 k) (fun x _=>A.length-(intOf x).toNat)
   case atStart=>exact⟨0,by omega,rfl,zB.alloc ⟨Xb.alloc Xl _,by simp,by simp[QG]⟩ _,rfl⟩
   case round =>
    obtain⟨k,hk,N,H,rfl⟩:=hrel;obtain⟨q0,q1,q2,q3,q4,q5⟩:=QM H;have hlen:A.length<=9223372036854775807:=Xf hf1 hf2;have U:=H.size;by_cases l:k<A.length
    ·obtain⟨x,Z⟩:∃x,A[k]? = some x:=⟨A[k],by simp[l]⟩;obtain⟨b,o,vs,rfl,hR,_,R⟩:=aA.out k x Z;unfold qs at hR;subst hR;have R:=R.mono H.below R.lt;have I:=qai (fun n=>!(Qc cs n).isSome) A k x Z;rw[N.out]at I;obtain⟨pf2,kf2,pd2,kd2,pm2,km2,_,_,_,hl2⟩:=J.out x (HS.out x (Xe Z));obtain⟨r,_⟩:=hl2 wr H.below;have HX:=Xh Z;clear Z hl2;have c0:=R.1;rw[Nat.mul_one]at c0;cases i:(Qc cs x).isSome with
     |false =>
      rw[i]at r I;replace I:(A.any fun n=>!(Qc cs n).isSome)=true:=I;have D:Hid (v=.iface 29 (.int .i64 3)):=(by rw[T.out,if_pos I];rfl);clear I T F J i R;generalize (Qc cs x).getD zg=d at *;obtain⟨n2,s2,f2,b2,d2,m2⟩:=d;try unfold Qz at r
      dsimp only at r;go_wp2_with fail;cases D.out;go_ret;exact⟨rfl,(H.alloc _).below⟩
     |true =>
      rw[i]at r I;have m:Hid (((A.drop (k+1)).any fun n=>!(Qc cs n).isSome)=(A.any fun n=>!(Qc cs n).isSome)):=(by unfold Hid;simpa using I.symm);clear I T F J i R;generalize (Qc cs x).getD zg=d at *;obtain⟨n2,s2,f2,b2,d2,m2⟩:=d;try unfold Qz at r
      dsimp only at r;go_wp2_with fail;go_roundw;case rel=>exact⟨k+1,by omega,m,H.alloc _,by simp⟩
      case measure=>simp[intOf];omega
    ·have L:Hid ((A.any fun n=>!(Qc cs n).isSome)=false):=by
      rw[<-N.out,Xg (by omega)];rfl
     clear N;obtain rfl:k=A.length:=(by omega);have E:Hid (v=zE (if Zu cs C false≠0 then Zu cs C false else if Zh (fun n=>Zu cs n true) A≠0 then Zh (fun n=>Zu cs n true) A else if G&&decide (C≠qg) then 7 else 0)):=by
      rw[T.out,if_neg (by rw[L.out];decide)];rfl
     clear T L;have V:=Xh (F.out wr C false H.below t);rcases qI (Zu cs C false) with⟨O,S⟩|⟨O,S⟩
     ·rw[O]at V;rw[if_neg (by rw[S];decide)]at E;clear O S J;go_wp2_with (go_fit V.out;rintro e w3⟨rfl,a⟩;obtain⟨hcl,_⟩:=qaC a;(have r2:=(hcl w.heap.size 2 U).trans q2))
      go_loopw [56] (fun x wr=>∃k,k<=A.length/\Hid (Zh (fun n=>Zu cs n true) (A.drop k)=Zh (fun n=>Zu cs n true) A)/\zB w wr [.string Y,.string C,.slice pf A.length X,.bool G,dv,mv]/\x=.int .i64 k) (fun x _=>A.length-(intOf x).toNat)
      case atStart=>exact⟨0,by omega,rfl,H.step a,rfl⟩
      case round =>
       clear q0 q1 q2 q3 q4 q5 hcl r2 a V U H;obtain⟨k,hk,N,H,rfl⟩:=hrel;obtain⟨q0,q1,q2,q3,q4,q5⟩:=QM H;have U:=H.size;by_cases l:k<A.length
       ·obtain⟨x,Z⟩:∃x,A[k]? = some x:=⟨A[k],by simp[l]⟩;obtain⟨b,o,vs,rfl,hR,_,R⟩:=aA.out k x Z;unfold qs at hR;subst hR;have R:=R.mono H.below R.lt;have I:=zU (fun n=>Zu cs n true) A k x Z;rw[N.out]at I;have h:=Xh (F.out wr x true H.below (HS.out x (Xe Z)));have HX:=Xh Z;clear Z;have c0:=R.1;rw[Nat.mul_one]at c0;clear R F;rcases qI (Zu cs x true) with⟨P,S⟩|⟨P,S⟩
        ·rw[P]at h;rw[if_pos S]at I;have m:=Xh I.symm;clear P S I E;go_wp2_with (go_fit h.out;rintro e w4⟨rfl,p⟩)
         go_roundw;case rel=>exact⟨k+1,by omega,m.out,H.step p,by simp⟩
         case measure=>simp[intOf];omega
        ·rw[P]at h;rw[if_neg S]at I;have D:Hid (v=.iface 29 (.int .i64 (Zu cs x true))):=(by rw[E.out,if_pos (by rw[I];exact S),I];exact P);clear P S I E;go_wp2_with (go_fit h.out;rintro e w4⟨rfl,p⟩)
         cases D.out;go_ret;exact⟨rfl,(H.step p).below⟩
       ·have L:Hid (Zh (fun n=>Zu cs n true) A=0):=by
         rw[<-N.out,Xg (by omega)];rfl
        clear N;obtain rfl:k=A.length:=(by omega);rw[if_neg (by rw[L.out];decide)]at E;have aB:(C.toList==[79,98,106,101,99,116])=decide (C=qg):=by
         have:=q8 C qg;rwa [show ByteArray.toList qg=[79,98,106,101,99,116] from by rw[ByteArray.toList_eq];rfl]at this
        cases G with
        |false =>
         have D:Hid (v=.nilIface):=(by rw[E.out];rfl);clear E L;go_wp2_with fail;cases D.out;go_ret;exact⟨rfl,H.below⟩
        |true =>
         by_cases hs:C=qg
         ·have D:Hid (v=.nilIface):=(by rw[E.out,hs];rfl);rw[Xj hs]at aB;have HSO:=Xh hs;clear E L hs;go_wp2_with fail;cases D.out;go_ret;exact⟨rfl,H.below⟩
         ·have D:Hid (v=.iface 29 (.int .i64 7)):=(by rw[E.out];simp[hs,zE,Hid]);rw[Xi hs]at aB;have HSO:=Xh hs;clear E L hs;go_wp2_with fail;cases D.out;go_ret;exact⟨rfl,H.below⟩
     ·rw[O]at V;rw[if_pos S]at E;have D:Hid (v=.iface 29 (.int .i64 (Zu cs C false))):=(by rw[E.out];exact O);clear O S J E;go_wp2_with (go_fit V.out;rintro e w3⟨rfl,a⟩)
      cases D.out;go_ret;exact⟨rfl,(H.step a).below⟩
set_option maxRecDepth 512
end Go.Proofs.YtlmfmioljeppfaaGreatDoor
namespace Go.Proofs.YtlmfmioljeppfaaGreatDoor
open Go.RowKit Go.Shelf Go.Lib
theorem qaM(l:List Str)(x:Str):QK (zF l) x=QK l x:=by
 rw[Bool.eq_iff_iff,Zy,Zy];unfold zF;rw[List.mem_map];constructor
 ·rintro⟨y,A,rfl⟩;rw[List.mem_mergeSort,List.mem_map]at A;obtain⟨z,B,rfl⟩:=A;exact B
 ·intro C;exact⟨x.data.toList,by rw[List.mem_mergeSort,List.mem_map];exact⟨x,C,rfl⟩,rfl⟩
theorem Zdf(G w:World)(B:Nat)(cs:List Qb)(H:Qp G w B cs)(I:(cs.map (·.name)).Nodup)(J:∀c∈cs,c.faces.length<=8)(E:cs.length<=12)(A:Qaw cs)(a n:Str)(L:(Qc cs a).isSome=true)(M D:Nat)(S:w.cell? ⟨M,0,none⟩=some (.map (some B)))(P:w.cell? ⟨D,0,none⟩=some (.string n))(F:D<w.heap.size):
 Calls Tryz.prog 126 #[.string a,.pointer (some ⟨M,0,none⟩),.pointer (some ⟨D,0,none⟩)] w fun e w'=>e=.returned (.bool (QK (Qk cs a) n))/\Below w.heap.size w w':=by
 have R:=Xh (qbB G w.drew B cs (H.step (Xb.drew)) I J E A a L);have N:Hid (∀v wx,Qh wx v (zF (Qk cs a))->_):=fun v wx h=>zan (zF (Qk cs a)) v n wx h
 rw[qaM]at N;generalize QK (Qk cs a) n=r at *;generalize zF (Qk cs a)=l at *;clear H I J A L;go_enter Tryz.func126,Tryz.ntmps126;go_upto_region 1 with fail;go_region_with (first
  |(go_fit R.out;rintro e U⟨⟨v,rfl,O⟩,C⟩;obtain⟨p,k,rfl,_⟩:=O.open;(have T:=(C.cell (p:=⟨D,0,none⟩) F).trans P))
  |(go_fit (N.out _ _ O);rintro e V⟨rfl,rfl⟩))
 all_goals
  go_wp2
  go_ret;exact⟨rfl,Qa Xb.drew Xl C⟩
def zT(cs:List Qb)(n:Str):Bool:=(qp cs n).any fun a=>QK (Qk cs a) n
theorem ZdI(G w:World)(B:Nat)(cs:List Qb)(D:Qp G w B cs)(H:(cs.map (·.name)).Nodup)(I:∀c∈cs,c.faces.length<=8)(J:cs.length<=12)(C:Qaw cs)(n:Str)(L:(Qc cs n).isSome=true):
 Calls Tryz.prog 89 #[.map (some B),.string n] w fun e w'=>e=.returned (.bool (zT cs n))/\Below w.heap.size w w':=by
 have T:∀S first cap w,(Instr.makeFunc S first cap).run Tryz.prog w=.ok (.func S first cap) w:=fun _ _ _ _=>rfl
 have M:=Xh (QR w (.cells #[.map (some B)] 97) (.cells #[.string n] 9));have N:=Xh (zcr G _ B cs (D.step M.out) H I n (D.names L));have O:Hid (∀v wx,Qh wx v (qp cs n)->Below w.heap.size w wx->w.heap.size+1<wx.heap.size->wx.cell? ⟨w.heap.size,0,none⟩=some (.map (some B))->wx.cell? ⟨w.heap.size+1,0,none⟩=some (.string n) ->
  Calls Tryz.prog 124 #[v,.func (.func 126) #[] #[.pointer (some ⟨w.heap.size,0,none⟩),.pointer (some ⟨w.heap.size+1,0,none⟩)]] wx fun e w'=>e=.returned (.bool (zT cs n))/\Below wx.heap.size wx w'):=by
  intro v wx F V hs X Y;refine ZbZ qs (fun a=>QK (Qk cs a) n) 126 _ (enters_of Tryz.func126 (by kernel_rfl) rfl) (qp cs n) v wx F ?_;rintro W x b U P E;unfold qs at P;simp only[List.cons.injEq,and_true]at P;subst P;show Calls Tryz.prog 126 #[.string x,.pointer (some ⟨w.heap.size,0,none⟩),.pointer (some ⟨w.heap.size+1,0,none⟩)] W _
  exact Zdf G W B cs ((D.step V).step E) H I J C x n (C n L x U) _ _ ((E.cell (p:=⟨_,0,none⟩) (show w.heap.size<wx.heap.size by omega)).trans X) ((E.cell (p:=⟨_,0,none⟩) hs).trans Y) (Nat.lt_of_lt_of_le (by omega) E.size)
 clear D H I C L;generalize zT cs n=r at *;generalize qp cs n=Z at *;go_enter Tryz.func89,Tryz.ntmps89;go_wp2_with (first
  |(go_fit N.out;rintro e d⟨⟨v,rfl,F,_⟩,A⟩;obtain⟨p,k,rfl,_⟩:=F.open)
  |(go_fit (O.out _ _ F (Qa M Xl A) (Nat.lt_of_lt_of_le (by simp) A.size) ((A.cell (p:=⟨_,0,none⟩) (by simp;omega)).trans (by simp)) ((A.cell (p:=⟨_,0,none⟩) (by simp)).trans (by simp)));rintro e f⟨rfl,R⟩))
 go_ret;exact⟨rfl,Qa (Qa M Xl A) Xl R⟩
def Za(l:List Qb):List Qb:=QN::ZX::l
def qv(c:Qb)(ahead:List Qb):Nat:=if qd c≠0 then qd c else if (Qc (Za ahead) c.name).isSome then 5 else 0
def Zp(l:List Qb):Nat :=
 if 10<l.length then 4
 else if Qf qv [] l≠0 then Qf qv [] l
 else if Zh (Qv (Za l)) l≠0 then Zh (Qv (Za l)) l
 else if l.any (fun c=>zT (Za l) c.name) then 6 else 0
theorem Zcr(l:List Qb)(k:Nat)(c:Qb)(h:l[k]? = some c):Za (l.take (k+1))=Za (l.take k)++[c]:=by
 obtain⟨A,rfl⟩:=List.getElem?_eq_some_iff.1 h;unfold Za;rw[List.take_succ_eq_append_getElem A];rfl
theorem QaO{cs:List Qb}{c:Qb}(C:(cs.map (·.name)).Nodup)(A:Qc cs c.name=none):((cs++[c]).map (·.name)).Nodup:=by
 unfold Qc at A;rw[List.find?_eq_none]at A;rw[List.map_append,List.map_singleton,List.nodup_append];refine⟨C,by simp,fun x E y B=>?_⟩;simp at B;subst B;obtain⟨d,D,rfl⟩:=List.mem_map.1 E;simpa using A d D
theorem Za2:((Za []).map (·.name)).Nodup:=by decide
theorem qbt{c:Qb}(h:qd c=0):c.faces.length<=8:=by
 unfold qd at h;split at h
 ·cases h
 ·split at h
  ·rename_i A;exact absurd h A
  ·split at h
   ·cases h
   ·rename_i A;omega
theorem zb7{l:List Qb}(h:∀c∈l,qd c=0):∀c∈Za l,c.faces.length<=8:=by
 intro c A;unfold Za at A;rcases List.mem_cons.1 A with rfl|A
 ·decide
 ·rcases List.mem_cons.1 A with rfl|A
  ·decide
  ·exact qbt (h c A)
theorem QcB{cs:List Qb}{c:Qb}(h:Qv cs c=0):(Qc cs c.super).isSome=true/\∀a∈c.faces,(Qc cs a).isSome=true:=by
 unfold Qv at h;split at h
 ·cases h
 ·split at h
  ·cases h
  ·rename_i C;split at h
   ·cases h
   ·rename_i B;rw[Bool.not_eq_true,List.any_eq_false]at B;refine⟨?_,fun a D=>?_⟩
    ·cases A:(Qc cs c.super).isSome with
     |true=>rfl
     |false=>exact absurd (by rw[A];rfl) C
    ·cases A:(Qc cs a).isSome with
     |true=>rfl
     |false=>exact absurd (by rw[A];rfl) (B a D)
theorem Z2{α:Type}{f:α->Nat}{l:List α}(h:Zh f l=0):∀x∈l,f x=0:=by
 induction l with
 |nil=>intro x A;cases A
 |cons a r C =>
  rw[Zh]at h;by_cases B:f a=0
  ·rw[if_pos B]at h;intro x A;rcases List.mem_cons.1 A with rfl|A
   ·exact B
   ·exact C h x A
  ·rw[if_neg B]at h;exact absurd h B
theorem qa8{l:List Qb}(h:∀c∈l,Qv (Za l) c=0):Qaw (Za l):=by
 intro x E a A;rw[Option.isSome_iff_exists]at E;obtain⟨c,C⟩:=E;unfold qp at A;rw[C]at A;simp only[Option.getD_some]at A;have B:c∈Za l:=List.mem_of_find?_eq_some C;unfold Za at B;rcases List.mem_cons.1 B with rfl|B
 ·simp[QN,zg]at A
 ·rcases List.mem_cons.1 B with rfl|B
  ·simp[ZX,zg,qg]at A;obtain⟨_,rfl⟩:=A;rfl
  ·obtain⟨F,D⟩:=QcB (h c B);split at A
   ·exact D a A
   ·rcases List.mem_cons.1 A with rfl|A
    ·exact F
    ·exact D a A
theorem qaO{l:List Qb}{c:Qb}(h:c∈l):(Qc (Za l) c.name).isSome=true:=by
 unfold Qc;rw[List.find?_isSome];exact⟨c,by simp[Za,h],by simp⟩
def Qb8(w:World)(l:List Qb)(e:Ending)(w':World):Prop :=
 Below w.heap.size w w' /\
 (
  (Zp l=0/\e=.returned (.tuple #[.map (some w.heap.size),.nilIface])/\Qp w w' w.heap.size (Za l)/\((Za l).map (·.name)).Nodup/\(∀c∈l,qd c=0)/\Qaw (Za l)/\l.length<=10) \/
  (Zp l≠0/\e=.returned (.tuple #[.map none,.iface 29 (.int .i64 (Zp l))])))
theorem zei{w w':World}{l:List Qb}{n:Nat}(A:Below w.heap.size w w')(h:Zp l=n)(B:n≠0):Qb8 w l (.returned (.tuple #[.map none,.iface 29 (.int .i64 n)])) w':=by
 subst h;exact⟨A,Or.inr ⟨B,rfl⟩⟩
theorem qaJ{α:Type}{w w':World}{k:Nat}{R A:α->List Value->Prop}{v:Value}(h:Zg w k R v ([]:List α)):Zg w' k A v ([]:List α):=by
 rcases h with⟨h,_⟩|⟨a,cap,C,D,E,_⟩
 ·exact Or.inl ⟨h,rfl⟩
 ·exact Or.inr ⟨a,cap,C,D,E,fun i x B=>by simp at B⟩
def zbE(wb w:World)(l:List Qb)(e:Ending)(w':World):Prop:=Qb8 w l e w'/\(Zp l=0->Qp wb w' w.heap.size (Za l))
theorem za4{B w w':World}{l:List Qb}{n:Nat}(C:Below w.heap.size w w')(h:Zp l=n)(A:n≠0):zbE B w l (.returned (.tuple #[.map none,.iface 29 (.int .i64 n)])) w' :=
 ⟨zei C h A,fun e=>absurd (h.symm.trans e) A⟩
theorem zcc{D w w':World}{B:Nat}(h:Qp w w' B [QN,ZX])(F:Below D.heap.size D w):Qp D w' B [QN,ZX]:=by
 obtain⟨N,O,P,R,A,S,T,U⟩:=h;refine⟨Qa F Xl N,Xf F.size O,P,R,A,S,T,fun i e c d C=>?_⟩;obtain⟨V,X,Y,Z,a,b,G,H,I⟩:=U i e c d C;have E:c.faces=[]/\c.fields=[]/\c.methods=[]:=by
  rcases List.mem_cons.1 (Xe C) with rfl|C
  ·exact⟨rfl,rfl,rfl⟩
  ·rw[List.mem_singleton.1 C];exact⟨rfl,rfl,rfl⟩
 obtain⟨J,L,M⟩:=E;rw[J]at G;rw[L]at H;rw[M]at I;refine⟨V,X,Y,Z,a,b,?_,?_,?_⟩
 ·rw[J];exact qaJ G
 ·rw[L];exact qaJ H
 ·rw[M];exact qaJ I
set_option maxRecDepth 100000
theorem ZdD(l:List Qb)(lv:Value)(y w:World)(hbw:Below y.heap.size y w)(hl:QaB w)(ho:∀c∈l,qab c)(hlv:qj y lv l):
 Calls Tryz.prog 50 #[lv] w (zbE y w l):=by
 obtain⟨pl,cap,rfl,hc1,hc2,hcc⟩:=hlv.open;have B:=Xh hbw;have HCl:Hid (∀wx c fv dv mv,Below w.heap.size w wx->c∈l->Qh w fv c.faces->Zg w 2 QE dv c.fields->Zg w 8 (zr w) mv c.methods->_):=fun wx c fv dv mv hb hc h1 h2 h3 =>
  qdv c fv dv mv wx (hl.mono hb hl.1) (ho c hc) (h1.mono hb) (h2.mono hb (by decide) (fun _ _ h=>h)) (h3.mono hb (by decide) (fun _ _ h=>h.mono hb)) _ rfl
 have HC:Hid (∀(i:Nat) (x:Qb),l[i]? = some x->∃b o vs,pl=some ⟨b,o,none⟩/\Q4 y x vs/\vs.length=6/\QG y b (o+i*6) vs):=hcc;have HO:=Xh ho;clear hcc hlv hl ho hbw;by_cases h10:10<l.length
 ·have hf:Zp l=4:=by unfold Zp;rw[if_pos h10]
  have z:=Xh hf;clear hf HC HCl;go_enter Tryz.func50,Tryz.ntmps50;go_wp2_with fail;all_goals first|(exfalso;omega)|skip
  go_ret2;exact za4 Xb z.out (by decide)
 have z:Hid (Zp l=if Qf qv [] l≠0 then Qf qv [] l
  else if Zh (Qv (Za l)) l≠0 then Zh (Qv (Za l)) l
  else if l.any (fun c=>zT (Za l) c.name) then 6 else 0):=by unfold Hid Zp;rw[if_neg h10]
 have hfst:=Xh (qdI w);go_enter Tryz.func50,Tryz.ntmps50;go_wp2_with (go_fit hfst.out;rintro e w1⟨rfl,hm1⟩)
 all_goals first|(exfalso;omega)|skip
 have hlen:l.length<=10:=by omega
 go_loopw [22] (fun x wr=>∃k,k<=l.length/\Hid (Qf qv (l.take k) (l.drop k)=Qf qv [] l)/\Hid (∀c∈l.take k,qd c=0)/\Hid (((Za (l.take k)).map (·.name)).Nodup)/\Qp w wr w.heap.size (Za (l.take k))/\x=.int .i64 k/\Hid (Qp y wr w.heap.size (Za (l.take k)))) (fun x _=>l.length-(intOf x).toNat)
 case atStart=>exact⟨0,by omega,rfl,fun c hc=>by simp at hc,by rw[List.take_zero];exact Za2,by rw[List.take_zero];exact hm1,rfl,by unfold Hid;rw[List.take_zero];exact zcc hm1 B.out⟩
 case round =>
  obtain⟨k,hk,E,HA,HN,J,rfl,M⟩:=hrel;clear hm1;by_cases a:k<l.length
  ·obtain⟨c,N⟩:∃x,l[k]? = some x:=⟨l[k],by simp[a]⟩;have aA:=Xe N;have V:=HO.out c aA;obtain⟨b,o,vs,rfl,⟨fv,dv,mv,rfl,j1,j2,j3⟩,_,S⟩:=HC.out k c N;have S:=S.mono (Qa B Xl J.below) S.lt;have f:=j1.mono B.out (by decide) (fun _ _ h=>h);have t:=j2.mono B.out (by decide) (fun _ _ h=>h);have v:=j3.mono B.out (by decide) (fun _ _ h=>h.mono B.out);have A:=QS qv l k c N;rw[E.out]at A;obtain⟨pf,H,rfl,_⟩:=f.open;obtain⟨pd,F,rfl,_⟩:=t.open;obtain⟨pm,G,rfl,_⟩:=v.open;have I:∀wx,Below w.heap.size w wx->_:=fun wx hb=>HCl.out wx c _ _ _ hb aA f t v
   have HK:=Xh (And.intro f (And.intro t v));have g:=Xh (And.intro j1 (And.intro j2 j3));have HX:=Xh N;have HCM:=Xh aA;have HCO:=Xh V;clear N aA V f t v j1 j2 j3;obtain⟨c0,c1,c2,c3,c4,c5,_⟩:=S;unfold Qz at I;rcases qI (qd c) with⟨s,O⟩|⟨s,O⟩
   ·rw[s]at I;have T:=Xh I;clear I s;rw[show qv c (l.take k)=if (Qc (Za (l.take k)) c.name).isSome then 5 else 0 from by unfold qv;rw[if_neg (by rw[O];decide)]]at A;have hall:Hid (∀d∈l.take (k+1),qd d=0):=by
     intro d hd;obtain⟨hk1,hk2⟩:=List.getElem?_eq_some_iff.1 HX.out;rw[List.take_succ_eq_append_getElem hk1,List.mem_append]at hd;rcases hd with hd|hd
     ·exact HA.out d hd
     ·simp at hd;subst hd;rw[hk2];exact O
    clear O;go_upto_region 10 with(go_fit (T.out _ (J.below.alloc J.below.size _));rintro e w2⟨rfl,C⟩)
    have aB:=Qa ((Below.refl wr.heap.size wr).alloc Xl (.cells #[.string c.name,.string c.super,.slice pf c.faces.length H,.bool c.face,.slice pd c.fields.length F,.slice pm c.methods.length G] 36)) Xl C;have BX:zB wr w2 [.string c.name,.string c.super,.slice pf c.faces.length H,.bool c.face,.slice pd c.fields.length F,.slice pm c.methods.length G]:=⟨aB,Nat.lt_of_lt_of_le (by simp) C.size,QG.mono C (by simp) (by simp[QG])⟩;have X:=J.step aB;have HM2b:=Xh (M.out.step aB);obtain⟨q0,q1,q2,q3,q4,q5⟩:=QM BX;have hsz:=BX.size;obtain⟨pf2,kf2,pd2,kd2,pm2,km2,_,_,_,Z,_⟩:=X.look2 HN.out c.name (Xf HCO.out.name (by decide));clear C aB c0 c1 c2 c3 c4 c5 T J;cases Y:(Qc (Za (l.take k)) c.name).isSome with
    |true =>
     rw[Y]at A Z;replace A:Qf qv [] l=5:=A;have D:Hid (Zp l=5):=(by rw[z.out,if_pos (by rw[A];decide),A];rfl);clear A Y z E HA HN;generalize (Qc (Za (l.take k)) c.name).getD zg=d at *;obtain⟨n2,s2,f2,b2,d2,m2⟩:=d;unfold Qz at Z;dsimp only at Z;have hBw:=Xh (X.below.alloc X.below.size (.cells #[.string n2,.string s2,.slice pf2 f2.length kf2,.bool b2,.slice pd2 d2.length kd2,.slice pm2 m2.length km2] 36));clear X;go_wp2_with fail;go_ret2;exact za4 hBw.out D.out (by decide)
    |false =>
     rw[Y]at A Z;have j:Hid (Qf qv (l.take (k+1)) (l.drop (k+1))=Qf qv [] l):=A.symm;have P:Qc (Za (l.take k)) c.name=none:=by
      cases hq:Qc (Za (l.take k)) c.name with
      |none=>rfl
      |some _=>rw[hq]at Y;cases Y
     have HN2:Hid (((Za (l.take (k+1))).map (·.name)).Nodup):=by
      unfold Hid;rw[Zcr l k c HX.out];exact QaO HN.out P
     have HNO:=Xh P;clear A Y z E HA P;generalize (Qc (Za (l.take k)) c.name).getD zg=d at *;obtain⟨n2,s2,f2,b2,d2,m2⟩:=d;unfold Qz at Z;dsimp only at Z;have hM3:=X.step (Xb.alloc Xl (.cells #[.string n2,.string s2,.slice pf2 f2.length kf2,.bool b2,.slice pd2 d2.length kd2,.slice pm2 m2.length km2] 36));obtain⟨w4',hup',r,_⟩:=(HM2b.out.step (Xb.alloc Xl (.cells #[.string n2,.string s2,.slice pf2 f2.length kf2,.bool b2,.slice pd2 d2.length kd2,.slice pm2 m2.length km2] 36))).put c _ _ _ (Xf HCO.out.name (by decide)) HNO.out g.out.1 g.out.2.1 g.out.2.2;obtain⟨w4,hup,hM4,hs4,ho4⟩:=hM3.put c _ _ _ (Xf HCO.out.name (by decide)) HNO.out HK.out.1 HK.out.2.1 HK.out.2.2;rw[<-Zcr l k c HX.out]at hM4 r;rw[hup]at hup';injection hup' with _ hw4
     subst hw4;have HM4b:=Xh r;clear r;unfold Qz at hup;have HM4:=Xh hM4;clear hM4 hM3 X BX;go_wp2_with fail;go_roundw;case rel=>exact⟨k+1,by omega,j,hall,HN2,HM4,by simp,HM4b⟩
     case measure=>simp[intOf];omega
   ·rw[s]at I;rw[show qv c (l.take k)=qd c from by unfold qv;rw[if_pos O],if_neg O]at A;have D:Hid (Zp l=qd c):=(by rw[z.out,if_pos (by rw[A];exact O),A];rfl);have T:=Xh I;clear I s A z E;have HZ:=Xh O;clear O;generalize qd c=fc at *;go_wp2_with (go_fit (T.out _ (J.below.alloc J.below.size _));rintro e w2⟨rfl,C⟩)
    go_ret2;exact za4 (Qa (J.below.alloc J.below.size _) Xl C) D.out HZ.out
  ·have L:Hid (Qf qv [] l=0):=by
    rw[<-E.out,Xg (by omega)];rfl
   obtain rfl:k=l.length:=(by omega);have HA2:Hid (∀c∈l,qd c=0):=(by have:=HA.out;rwa [List.take_length]at this);rw[List.take_length]at HN J M;have m:Hid (Zp l=if Zh (Qv (Za l)) l≠0 then Zh (Qv (Za l)) l else if l.any (fun c=>zT (Za l) c.name) then 6 else 0):=by
    rw[z.out,if_neg (by rw[L.out];decide)];rfl
   clear E L z HA HCl;go_wp2_with fail;go_loopw [47] (fun x wy=>∃k,k<=l.length/\Hid (Zh (Qv (Za l)) (l.drop k)=Zh (Qv (Za l)) l)/\Qp w wy w.heap.size (Za l)/\x=.int .i64 k/\Hid (Qp y wy w.heap.size (Za l))) (fun x _=>l.length-(intOf x).toNat)
   case atStart=>exact⟨0,by omega,rfl,J,rfl,M⟩
   case round =>
    clear J;obtain⟨k,hk,E,J,rfl,M⟩:=hrel;by_cases a:k<l.length
    ·obtain⟨c,N⟩:∃x,l[k]? = some x:=⟨l[k],by simp[a]⟩;have V:=HO.out c (Xe N);obtain⟨b,o,vs,rfl,⟨fv,dv,mv,rfl,j1,j2,j3⟩,_,S⟩:=HC.out k c N;have S:=S.mono (Qa B Xl J.below) S.lt;have f:=j1.mono B.out (by decide) (fun _ _ h=>h);have t:=j2.mono B.out (by decide) (fun _ _ h=>h);have v:=j3.mono B.out (by decide) (fun _ _ h=>h.mono B.out);have A:=zU (Qv (Za l)) l k c N;rw[E.out]at A;obtain⟨pf,H,rfl,_⟩:=f.open;obtain⟨pd,F,rfl,_⟩:=t.open;obtain⟨pm,G,rfl,_⟩:=v.open;have R:=J.step (Xb.alloc Xl (.cells #[.string c.name,.string c.super,.slice pf c.faces.length H,.bool c.face,.slice pd c.fields.length F,.slice pm c.methods.length G] 36));have U:=zdf w _ w.heap.size (Za l) R HN.out c _ (.slice pd c.fields.length F) (.slice pm c.methods.length G) (Xf V.super (by decide)) (fun x N=>Xf (V.faces x N) (by decide)) f _ rfl;have n:=Xh R;have HX:=Xh N;have p:=Xh (M.out.step (Xb.alloc Xl (.cells #[.string c.name,.string c.super,.slice pf c.faces.length H,.bool c.face,.slice pd c.fields.length F,.slice pm c.methods.length G] 36)));clear N V f t v j1 j2 j3 R;obtain⟨c0,c1,c2,c3,c4,c5,_⟩:=S;unfold Qz at U;rcases qI (Qv (Za l) c) with⟨s,O⟩|⟨s,O⟩
     ·rw[s]at U;rw[if_pos O]at A;have j:=Xh A.symm;have g:=Xh U;clear U s O A m;go_wp2_with (go_fit g.out;rintro e w2⟨rfl,C⟩)
      go_roundw;case rel=>exact⟨k+1,by omega,j.out,n.out.step C,by simp,p.out.step C⟩
      case measure=>simp[intOf];omega
     ·rw[s]at U;rw[if_neg O]at A;have D:Hid (Zp l=Qv (Za l) c):=(by rw[m.out,if_pos (by rw[A];exact O),A];rfl);have g:=Xh U;have HZ:=Xh O;clear U s O A m;generalize Qv (Za l) c=fc at *;go_wp2_with (go_fit g.out;rintro e w2⟨rfl,C⟩)
      go_ret2;exact za4 (n.out.step C).below D.out HZ.out
    ·have L:Hid (Zh (Qv (Za l)) l=0):=by
      rw[<-E.out,Xg (by omega)];rfl
     obtain rfl:k=l.length:=(by omega);have hcl:=qa8 (Z2 L.out);have h8:=zb7 HA2.out;have h12:(Za l).length<=12:=(by unfold Za;simp;omega);have q:Hid (Zp l=if l.any (fun c=>zT (Za l) c.name) then 6 else 0):=by
      rw[m.out,if_neg (by rw[L.out];decide)];rfl
     have HR:Hid (∀wx c,Qp w wx w.heap.size (Za l)->c∈l->_):=fun wx c hm hc=>ZdI w wx w.heap.size (Za l) hm HN.out h8 h12 hcl c.name (qaO hc)
     have HCL:=Xh hcl;clear E L m hcl h8 h12;go_wp2_with fail;go_loopw [60] (fun x wy=>∃k,k<=l.length/\Hid (((l.drop k).any fun c=>zT (Za l) c.name)=(l.any fun c=>zT (Za l) c.name))/\Qp w wy w.heap.size (Za l)/\x=.int .i64 k/\Hid (Qp y wy w.heap.size (Za l))) (fun x _=>l.length-(intOf x).toNat)
     case atStart=>exact⟨0,by omega,rfl,J,rfl,M⟩
     case round =>
      clear J;obtain⟨k,hk,E,J,rfl,M⟩:=hrel;by_cases a:k<l.length
      ·obtain⟨c,N⟩:∃x,l[k]? = some x:=⟨l[k],by simp[a]⟩;obtain⟨b,o,vs,rfl,⟨fv,dv,mv,rfl,j1,j2,j3⟩,_,S⟩:=HC.out k c N;have S:=S.mono (Qa B Xl J.below) S.lt;have f:=j1.mono B.out (by decide) (fun _ _ h=>h);have t:=j2.mono B.out (by decide) (fun _ _ h=>h);have v:=j3.mono B.out (by decide) (fun _ _ h=>h.mono B.out);have A:=qai (fun c=>zT (Za l) c.name) l k c N;rw[E.out]at A;obtain⟨pf,H,rfl,_⟩:=f.open;obtain⟨pd,F,rfl,_⟩:=t.open;obtain⟨pm,G,rfl,_⟩:=v.open;have R:=J.step (Xb.alloc Xl (.cells #[.string c.name,.string c.super,.slice pf c.faces.length H,.bool c.face,.slice pd c.fields.length F,.slice pm c.methods.length G] 36));have U:=HR.out _ c R (Xe N);have n:=Xh R;have HX:=Xh N;have p:=Xh (M.out.step (Xb.alloc Xl (.cells #[.string c.name,.string c.super,.slice pf c.faces.length H,.bool c.face,.slice pd c.fields.length F,.slice pm c.methods.length G] 36)));clear N f t v j1 j2 j3 R;obtain⟨c0,c1,c2,c3,c4,c5,_⟩:=S;cases aC:zT (Za l) c.name with
       |true =>
        rw[aC]at U A;rw[Bool.true_or]at A;have D:Hid (Zp l=6):=(by rw[q.out,if_pos A];rfl);have g:=Xh U;clear U aC A q HR;go_wp2_with (go_fit g.out;rintro e w2⟨rfl,C⟩)
        go_ret2;exact za4 (n.out.step C).below D.out (by decide)
       |false =>
        rw[aC]at U A;rw[Bool.false_or]at A;have j:=Xh A.symm;have g:=Xh U;clear U aC A q HR;go_wp2_with (go_fit g.out;rintro e w2⟨rfl,C⟩)
        go_roundw;case rel=>exact⟨k+1,by omega,j.out,n.out.step C,by simp,p.out.step C⟩
        case measure=>simp[intOf];omega
      ·have hno:Hid ((l.any fun c=>zT (Za l) c.name)=false):=by
        rw[<-E.out,Xg (by omega)];rfl
       obtain rfl:k=l.length:=(by omega);have D:Hid (Zp l=0):=(by rw[q.out,if_neg (by rw[hno.out];decide)];rfl);clear E hno q HR;have HM:=Xh J;go_wp2_with fail;go_ret2;exact⟨⟨HM.out.below,Or.inl ⟨D.out,rfl,HM,HN,HA2,HCL,hlen⟩⟩,fun _=>M.out⟩
set_option maxRecDepth 512
end Go.Proofs.YtlmfmioljeppfaaGreatDoor
