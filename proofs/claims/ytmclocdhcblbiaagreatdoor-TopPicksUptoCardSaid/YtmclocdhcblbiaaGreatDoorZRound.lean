/- Lemmas; conditions: as each states. -/
import Derived.Test.YtmclocdhcblbiaaGreatDoorZWorldMap
import Derived.Sort.OwnSorted
import Derived.Lib.OwnBridge
set_option maxHeartbeats 4000000
namespace Go.Proofs.YtmclocdhcblbiaaGreatDoor
open Go.RowKit Go.Shelf Go.Lib Tryz
def qaB(out:List Str)(more:List Str):List Str:=more.foldl (fun o a=>if zak o a then o else o++[a]) out
def Zaq(ab:Str->List Str):Nat->Nat->List Str->List Str
 |0,_,out=>out
 |n+1,i,out =>
  match out[i]? with
  |none=>out
  |some x=>Zaq ab n (i+1) (qaB out (ab x))
def qi(cs:List qa)(n:Str):List Str:=Zaq (zw cs) (cs.length+1) 0 [n]
theorem qaZ{B:Str->List Str}{n i:Nat}{A:List Str}{x:Str}(h:A[i]? = some x):Zaq B (n+1) i A=Zaq B n (i+1) (qaB A (B x)):=by
 rw[Zaq,h]
theorem zax{B:Str->List Str}{n i:Nat}{A:List Str}(h:A[i]? = none):Zaq B n i A=A:=by
 cases n with
 |zero=>rfl
 |succ n=>rw[Zaq,h]
theorem zbs(A:List Str)(a:Str)(r:List Str):qaB A (a::r)=qaB (if zak A a then A else A++[a]) r:=rfl
theorem zdz(A:List Str)(l:List Str)(k:Nat)(x:Str)(h:l[k]? = some x):qaB A (l.drop k)=qaB (if zak A x then A else A++[x]) (l.drop (k+1)):=by
 obtain⟨B,rfl⟩:=List.getElem?_eq_some_iff.1 h;rw[List.drop_eq_getElem_cons B,zbs]
theorem zaR{α:Type}[DecidableEq α]:∀(l m:List α),l.Nodup->(∀x∈l,x∈m)->l.length<=m.length
 |[],_,_,_=>Nat.zero_le _
 |a::r,m,B,E=>by
  have C:a∈m:=E a (by simp);rw[List.nodup_cons]at B;have:=zaR r (m.erase a) B.2 (fun x D=>by
   have A:=E x (by simp[D]);exact(List.mem_erase_of_ne (fun h=>B.1 (by rw[<-h];exact D))).2 A)
  rw[List.length_erase_of_mem C]at this;have:=List.length_pos_of_mem C;simp;omega
structure qaX (cs:List qa) (out:List Str):Prop where
 nodup:out.Nodup
 known:∀x∈out,(Qb cs x).isSome=true
theorem QaS{cs:List qa}{n:Str}(h:(Qb cs n).isSome=true):∃c∈cs,c.name=n:=by
 rw[Option.isSome_iff_exists]at h;obtain⟨c,A⟩:=h;exact⟨c,List.mem_of_find?_eq_some A,by simpa using List.find?_some A⟩
theorem qaX.length{cs:List qa}{A:List Str}(h:qaX cs A):A.length<=cs.length:=by
 have:=zaR A (cs.map (·.name)) h.nodup (fun x C=>by
  obtain⟨c,B,rfl⟩:=QaS (h.known x C);exact List.mem_map_of_mem B)
 simpa using this
theorem qaX.add{cs:List qa}{B:List Str}(h:qaX cs B){a:Str}(E:(Qb cs a).isSome=true)(C:zak B a=false):qaX cs (B++[a]):=by
 refine⟨?_,fun x A=>?_⟩
 ·rw[List.nodup_append];refine⟨h.nodup,by simp,fun x A y D=>?_⟩;simp at D;subst D;rintro rfl;rw[QF.2 A]at C;cases C
 ·rcases List.mem_append.1 A with A|A
  ·exact h.known x A
  ·simp at A;subst A;exact E
theorem qaX.one{cs:List qa}{n:Str}(h:(Qb cs n).isSome=true):qaX cs [n]:=⟨by simp,fun x A=>by simp at A;subst A;exact h⟩
def zaN(cs:List qa):Prop:=∀x,(Qb cs x).isSome=true->∀a∈zw cs x,(Qb cs a).isSome=true
theorem Qn.names{E w:World}{B:Nat}{cs:List qa}(h:Qn E w B cs){n:Str}(F:(Qb cs n).isSome=true):n.size<=maxLen:=by
 obtain⟨c,G,rfl⟩:=QaS F;obtain⟨_,_,_,H,C,_,D,A⟩:=h;obtain⟨i,I,rfl⟩:=List.getElem_of_mem G;exact(A i (H.toList[i]'(by omega)) cs[i] (Xn (by omega)) (Xn I)).2.1
theorem Qn.grown{D w w':World}{B:Nat}{cs:List qa}{C:Option Nat}(h:Qn D w B cs)(E:w.grownBy w' C)(F:∀g,C=some g->D.heap.size<=g/\g≠B):Qn D w' B cs:=by
 obtain⟨G,I,H,J,A,L,M⟩:=h;exact⟨G.grown E G.size (fun k N=>(F k N).1),I,Nat.lt_of_lt_of_le H E.size,J,A,(E.block B H (fun O=>(F B O.symm).2 rfl)).trans L,M⟩
theorem Zdz{w:World}{base:Nat}{e:TypeId}{a:Option Addr}{n c:Nat}{xs:List Value}(h:w.ownsRow base e 1 (.slice a n c) n xs)(C:0<n):∃g,a=some ⟨g,0,none⟩:=by
 rcases h.2 with⟨A,D⟩|⟨g,cap,B,A,_⟩
 ·omega
 ·injection A with A;exact⟨g,A⟩
theorem qcN{w:World}{base:Nat}{e:TypeId}{a:Option Addr}{n c:Nat}{l:List ByteArray}(h:w.ownsRow base e 1 (.slice a n c) l.length (l.map Value.string))(i:Nat)(x:ByteArray)(G:l[i]? = some x):
 ∀g,a=some ⟨g,0,none⟩->w.cell? ⟨g,i,none⟩=some (.string x):=by
 rintro g rfl;obtain⟨p,cap,B,_,_,H⟩:=(Zk h).open;obtain⟨b,o,vs,A,F,_,C⟩:=H i x G;injection B with B
 rw[<-B]at A;injection A with A
 injection A with D E
 subst D E;unfold qt at F;subst F;have:=C.1;rwa [Nat.mul_one,Nat.zero_add]at this
def Zad(l:List Str):List Str:=((l.map (·.data.toList)).mergeSort fun x y=>decide (x<=y)).map fun x=>⟨x.toArray⟩
theorem Zde(l:List Str):(Zad l).length=l.length:=by simp[Zad]
theorem QeY{w:World}{base:Nat}{a:Option Addr}{c:Nat}{l:List Str}(h:w.ownsRow base 9 1 (.slice a l.length c) l.length (l.map Value.string))(J:l.length<4611686018427387904):
 Calls prog 102 #[.slice a l.length c] w fun e w'=>e=.returned (.tuple #[])/\qp w' (.slice a l.length c) (Zad l)/\w.grownBy w' (Value.slice a l.length c).ownBlock:=by
 rcases h.2 with⟨E,D⟩|⟨g,cap,N,O,B,F,P,R,S,T⟩
 ·obtain rfl:=List.length_eq_zero_iff.1 D;injection E with E _ U
  subst E U;refine(Tryz.slices_Sort_string_none none 0 w).mono ?_;rintro e w'⟨rfl,rfl⟩;exact⟨rfl,Or.inl ⟨rfl,by simp[Zad]⟩,World.grownBy.refl w' _⟩
 ·injection O with G _ H
  subst G H;have L:=Lib.map_encStr l;have A:(l.map (·.data.toList)).length=l.length:=by simp
  have M:=holds_of_block (ss:=l.map (·.data.toList)) F (by rw[A,L];simpa using T);have I:=Tryz.slices_Sort_string g 0 c (l.map (·.data.toList)) w M (Array.getElem?_eq_some_iff.1 F).1 (by rw[A];exact J);rw[A]at I;refine I.mono ?_;rintro e w'⟨rfl,n,os,rfl⟩;have C:=ownsRow_sorted (n:=n) (os:=os) (ts:=(l.map (·.data.toList)).mergeSort fun x y=>decide (x<=y)) (ss:=l.map (·.data.toList)) (by simp) B F (by rw[A];exact P) R S;rw[A]at C;refine⟨rfl,?_,grownBy_sorted _⟩;have:(((l.map (·.data.toList)).mergeSort fun x y=>decide (x<=y)).map Proofs.encStr)=(Zad l).map Value.string:=by
   unfold Zad;rw[List.map_map];rfl
  rw[this]at C;have D:l.length=(Zad l).length:=(Zde l).symm;rw[D]at C ⊢;exact Zk C
set_option maxRecDepth 100000
theorem qbw(w0 w:World)(B:Nat)(cs:List qa)(hm:Qn w0 w B cs)(hn:(cs.map (·.name)).Nodup)(h8:∀c∈cs,c.faces.length<=8)(t:cs.length<=12)(L:zaN cs)(n:Str)(r:(Qb cs n).isSome=true):
 Calls prog 66 #[.map (some B),.string n] w fun e w'=>(∃v,e=.returned v/\qp w' v (Zad (qi cs n)))/\Below w.heap.size w w':=by
 obtain⟨i0,hi,hz0,hz1,hz2⟩:=info_parts Zae;have y:Hid (∀wr x,Below w.heap.size w wr->(Qb cs x).isSome=true->_):=fun wr x hb f=>QcX w0 wr B cs (hm.step hb) hn h8 x (hm.names f)
 have z:(w.alloc (.cells #[.string n] 9)).ownsRow w.heap.size 9 1 (.slice (some ⟨w.heap.size,0,none⟩) 1 1) 1 [.string n]:=ZaK w w.heap.size (.string n) Xl;have hge:w0.heap.size<=w.heap.size:=hm.below.size;clear hm hn h8;have aA:=Xh L;clear L;go_enter func66,ntmps66;go_wp2_with fail;go_loopw [5,6] (fun v x wr=>∃(i:Nat) (D:List Str),Hid (Zaq (zw cs) (cs.length+1-i) i D=qi cs n)/\Hid (qaX cs D)/\wr.ownsRow w.heap.size 9 1 v D.length (D.map Value.string)/\Below w.heap.size w wr/\i<=13/\x=.int .i64 i) (fun _ x _=>14-(intOf x).toNat)
 case atStart=>exact⟨0,[n],rfl,qaX.one r,z,Xb.alloc Xl _,by omega,rfl⟩
 case round =>
  obtain⟨i,D,HR,HG,A,J,hi13,rfl⟩:=hrel;obtain⟨va,vc,rfl⟩:=Ze A;have hol:=Xf HG.out.length t;by_cases hil:i<D.length
  ·obtain⟨x,f⟩:∃x,D[i]? = some x:=⟨D[i],by simp[hil]⟩;have S:=HG.out.known x (Xe f);have hrs:Hid (Zaq (zw cs) (cs.length+1-(i+1)) (i+1) (qaB D (zw cs x))=qi cs n):=by
    have:=HR.out;have hle:=HG.out.length;rw[show cs.length+1-i=(cs.length-i)+1 by omega,qaZ f]at this;rw[show cs.length+1-(i+1)=cs.length-i by omega];exact this
   have T:Hid (∀a∈zw cs x,(Qb cs a).isSome=true):=aA.out x S;have U:=qcN A i x f;obtain⟨g,rfl⟩:=Zdz A (by omega);have aB:=Xh (y.out wr x J S);have HX:=Xh f;clear f HR S;generalize zw cs x=C at *;go_wp2_with (go_at_call 64;((with_reducible refine aB.out.mono ?_);rintro e w2⟨⟨v2,rfl,l,haw⟩,m⟩;obtain⟨pv,kv,rfl,aH,aI,_⟩:=l.open))
   have hg:=(A.lt g rfl);have M:=QW A m;have aC:=Qa J Xl m;have E:Hid (C=[]\/∀R,(Value.slice (some ⟨g,0,none⟩) D.length vc).ownBlock=some R->(Value.slice pv C.length kv).ownBlock≠some R):=by
    rcases haw with h|h
    ·exact Or.inl h
    ·refine Or.inr fun R P s=>?_
     obtain rfl:g=R:=(by injection P);have:=h _ s;have:=hg.1;have:=hg.2;omega
   clear aB y U A J haw m aA;go_loopw [5,24] (fun v x q=>∃(k:Nat) (G:List Str),k<=C.length/\Hid (qaB G (C.drop k)=qaB D C)/\Hid (qaX cs G)/\q.ownsRow w.heap.size 9 1 v G.length (G.map Value.string)/\Below w.heap.size w q/\qp q (.slice pv C.length kv) C/\Hid (C=[]\/∀R,v.ownBlock=some R->(Value.slice pv C.length kv).ownBlock≠some R)/\x=.int .i64 k) (fun _ x _=>C.length-(intOf x).toNat)
   case atStart=>exact⟨0,D,by omega,rfl,HG,M,aC,l,E,rfl⟩
   case round =>
    clear M aC l E;obtain⟨k,G,r,HA,j,A,J,hv,E,rfl⟩:=hrel;obtain⟨va,vc2,rfl⟩:=Ze A;have hlen:C.length<=9223372036854775807:=Xf aH aI;by_cases V:k<C.length
    ·obtain⟨a,ha⟩:∃a,C[k]? = some a:=⟨C[k],by simp[V]⟩;have aD:=T.out a (Xe ha);have X:=zdz G C k a ha;rw[HA.out]at X;obtain⟨p2,kv2,O,_,_,hcc⟩:=hv.open;obtain⟨b,o,vs,hpb,hR,_,L⟩:=hcc k a ha;injection O with O hx1 hx2
     clear hx1 hx2;rw[<-O]at hpb;subst hpb;unfold qt at hR;subst hR;have hc:=L.1;rw[Nat.mul_one]at hc;have F:=Qao G (.slice va G.length vc2) a wr (Zk A);clear L hcc O;have HX:=Xh ha;clear ha;cases H:zak G a with
     |true =>
      rw[H,if_pos rfl]at X;rw[H]at F;have HC:=Xh F;have Y:=Xh X.symm;clear F X H;go_wp2_with (go_fit HC.out;rintro e w3⟨rfl,rfl⟩)
      go_roundw;case rel=>exact⟨k+1,G,by omega,Y.out,j,A,J,hv,E,by simp⟩
      case measure=>simp[intOf];omega
     |false =>
      rw[H,if_neg (by decide)]at X;rw[H]at F;have HC:=Xh F;have Y:=Xh X.symm;have aE:Hid (qaX cs (G++[a])):=j.out.add aD H;have aF:(G++[a]).length<=12:=Xf aE.out.length t;rw[List.length_append,List.length_singleton]at aF;have c2:∀u∈[Value.string a],u.oneCell'=true:=fun u hu=>by simp at hu;subst hu;rfl
      have c3:G.length+1<=maxLen:=Xf aF (by decide);have c4:(G.length+1)*16<=140737488355328:=(by omega);have c5:w.heap.size<=(wr.alloc (.cells #[.string a] 9)).heap.size:=(J.alloc J.size _).size;have HV:=Xh (hv.mono (Xb.alloc Xl (.cells #[.string a] 9)));have HB:=Xh (J.alloc J.size (.cells #[.string a] 9));have HO:=Xh A;clear F X H hv J aD;go_wp2_with (first|(go_fit HC.out;rintro e w3⟨rfl,rfl⟩)|(at_builtin;(refine wpList_append_own_at _ rfl _ _ 27 rfl w.heap.size 9 i0 (.string .empty) 1 16 underlying27 hi hz0 hz1 hz2 rfl (by decide) _ _ _ rfl (A.alloc _) ⟨wr.heap.size,0,none⟩ 1 1 [.string a] rfl rfl (cell_one_new _ _ _) c2 c3 c4 c5 ?_;intro v3 w3 p I _ hat3)))
      have Z:w3.ownsRow w.heap.size 9 1 v3 (G++[a]).length ((G++[a]).map Value.string):=(by simpa using p);go_roundw;case measure=>simp[intOf];omega
      case rel =>
      refine⟨k+1,G++[a],by omega,Y.out,aE,Z,HB.out.grown I c5 (fun k r=>(HO.out.lt k r).1),?_,?_,by simp⟩
      ·refine HV.out.grown I ?_;rcases E.out with h|h
       ·exact Or.inl h
       ·refine Or.inr fun he=>?_
        obtain⟨g2,P,_⟩:=qb6 HV.out (List.ne_nil_of_length_pos (by omega));rw[P]at he;exact h g2 he.symm P
      ·refine Or.inr fun R P s=>?_
       obtain⟨g2,h3,h4⟩:=qb6 HV.out (List.ne_nil_of_length_pos (by omega));rw[h3]at s;injection s with s
       subst s;rcases hat3 with h|h
       ·rcases E.out with h5|h5
        ·rw[h5]at V;simp at V
        ·exact h5 _ (h.symm.trans P) h3
       ·rw[h]at P;injection P with P;omega
    ·have d:Hid (G=qaB D C):=by
      have:=HA.out;rw[Xg (by omega)]at this;exact this
     cases d.out;go_wp2_with fail;go_roundw;case rel=>exact⟨i+1,_,hrs,j,A,J,by omega,by simp⟩
     case measure=>simp[intOf];omega
  ·have aG:Hid (D=qi cs n):=by
    have:=HR.out;rwa [zax (List.getElem?_eq_none (by omega))]at this
   have N:=QeY A (by omega);have HS:=Xh N;have HO:=Xh A;clear N A HR;go_wp2_with (go_fit HS.out;rintro e w2⟨rfl,hs2,hg2⟩)
   go_ret;exact⟨⟨_,rfl,by rw[<-aG.out];exact hs2⟩,J.grown hg2 J.size (fun k r=>(HO.out.lt k r).1)⟩
open Go.WideMaps (keyOf_string_mk string_law)
theorem Qn.look3{V w:World}{B:Nat}{cs:List qa}(h:Qn V w B cs)(x:(cs.map (·.name)).Nodup)(n:Str)(hs:n.size<=maxLen):
 ∃a b d f g k,qp V (.slice a ((Qb cs n).getD qg).faces.length b) ((Qb cs n).getD qg).faces/\Qe V 2 ZN (.slice d ((Qb cs n).getD qg).fields.length f) ((Qb cs n).getD qg).fields/\Qe V 8 (zo V) (.slice g ((Qb cs n).getD qg).methods.length k) ((Qb cs n).getD qg).methods /\
  ∀wx,Below w.heap.size w wx ->
  (Instr.lookup 66 (.map (some B)) (.string n) true).run prog wx=.ok (.tuple #[Zu ((Qb cs n).getD qg) (.slice a ((Qb cs n).getD qg).faces.length b) (.slice d ((Qb cs n).getD qg).fields.length f) (.slice g ((Qb cs n).getD qg).methods.length k),.bool (Qb cs n).isSome]) wx /\
  (Instr.lookup 66 (.map (some B)) (.string n) false).run prog wx=.ok (Zu ((Qb cs n).getD qg) (.slice a ((Qb cs n).getD qg).faces.length b) (.slice d ((Qb cs n).getD qg).fields.length f) (.slice g ((Qb cs n).getD qg).methods.length k)) wx:=by
 obtain⟨_,_,Z,N,o,y,z,E⟩:=h;have K:=string_law (P:=prog) qaA;have A:=keyOf_string_mk (P:=prog) qaA hs;have X:∀e∈N.toList,∃l,keyOf prog 9 e.key=some l:=fun e t=>by
  obtain⟨i,S,rfl⟩:=List.getElem_of_mem t;obtain⟨T,O,_⟩:=E i _ (cs[i]'(by omega)) (Xn S) (Xn (by omega));exact⟨_,by rw[T];exact keyOf_string_mk qaA O⟩
 have I:∀i (S:i<N.toList.length) (hc:i<cs.length),N.toList[i].key=.string cs[i].name:=fun i S hc=>(E i _ _ (Xn S) (Xn hc)).1
 cases Y:Qb cs n with
 |none =>
  have J:=Y;unfold Qb at J;rw[List.find?_eq_none]at J;refine⟨none,0,none,0,none,0,Or.inl ⟨rfl,rfl⟩,Or.inl ⟨rfl,rfl⟩,Or.inl ⟨rfl,rfl⟩,fun wx v=>?_⟩;have L:=(v.block B Z).trans y;rcases K.find wx A N.toList X with⟨T,_⟩|⟨j,e0,_,O,G⟩
  ·constructor<;>simp[Instr.lookup,run_underlying ZbW,MapKept.run_getObj_map L,K.check wx _ A,T,Result.andThen,Zu,qg]<;>rfl
  ·exfalso;obtain⟨U,rfl⟩:=List.getElem?_eq_some_iff.1 O;rw[I j U (by omega)]at G;injection G with G
   exact J cs[j] (List.getElem_mem _) (by simp[G])
 |some c =>
  have C:=Y;unfold Qb at C;rw[List.find?_eq_some_iff_getElem]at C;obtain⟨p,j,U,R,_⟩:=C;obtain⟨g1,g2,fv,dv,mv,g3,q,r,s⟩:=E j (N.toList[j]'(by omega)) cs[j] (Xn (by omega)) (Xn U);have D:c.name=n:=by simpa using p
  rw[R]at g3 q r s;obtain⟨a,b,rfl,_⟩:=q.open;obtain⟨d,f,rfl,_⟩:=r.open;obtain⟨g,k,rfl,_⟩:=s.open;refine⟨a,b,d,f,g,k,q,r,s,fun wx v=>?_⟩;have L:=(v.block B Z).trans y;rcases K.find wx A N.toList X with⟨_,O⟩|⟨i,e0,T,O,G⟩
  ·exfalso;refine O _ (List.getElem_mem (show j<N.toList.length by omega)) ?_;rw[I j (by omega) U,R,D]
  ·obtain⟨S,rfl⟩:=List.getElem?_eq_some_iff.1 O;have M:i<cs.length:=(by omega);rw[I i S M]at G;injection G with G
   have m:i=j:=by
    have H:cs[j].name=n:=(by rw[R,D]);rcases Nat.lt_trichotomy i j with F|t|F
    ·have:=List.pairwise_iff_getElem.1 x i j (by simpa using M) (by simpa using U) F;simp[G,H]at this
    ·exact t
    ·have:=List.pairwise_iff_getElem.1 x j i (by simpa using U) (by simpa using M) F;simp[G,H]at this
   subst m;rw[g3]at T;constructor<;>simp[Instr.lookup,run_underlying ZbW,MapKept.run_getObj_map L,K.check wx _ A,T,Result.andThen]
def zF(cs:List qa)(c:qa):Nat :=
 if c.super.size=0 then 1
 else if !(Qb cs c.super).isSome then 3
 else if c.faces.any (fun n=>!(Qb cs n).isSome) then 3
 else if qv cs c.super false≠0 then qv cs c.super false
 else if Zh (fun n=>qv cs n true) c.faces≠0 then Zh (fun n=>qv cs n true) c.faces
 else if c.face&&decide (c.super≠zh) then 7 else 0
theorem QdV(w0 w:World)(B:Nat)(cs:List qa)(s:Qn w0 w B cs)(hn:(cs.map (·.name)).Nodup)(c:qa)(fv dv mv:Value)(t:c.super.size<=maxLen)(y:∀x∈c.faces,x.size<=maxLen)(hf:qp w0 fv c.faces)(v:Value)(hv:Qx (zF cs c)=v):
 Calls prog 41 #[.map (some B),Zu c fv dv mv] w fun e w'=>e=.returned v/\Below w.heap.size w w':=by
 obtain⟨ps,ks,pd,kd,pm,km,_,_,_,aC⟩:=s.look3 hn c.super t;have HS:Hid (∀x∈c.faces,x.size<=maxLen):=y;have F:Hid (∀(wx:World) (n:Str) (f:Bool),Below w.heap.size w wx->n.size<=maxLen->_):=fun wx n f hb S=>qfe w0 wx B cs (s.step hb) hn n S f
 have J:Hid (∀n:Str,n.size<=maxLen->_):=fun n S=>s.look3 hn n S
 have g:=Xh aC;have z:=hf.mono s.below;obtain⟨pf,Y,rfl,hf1,hf2,M⟩:=z.open;have aA:=Xh M;have HF:Hid (v=Qx (zF cs c)):=hv.symm;clear aC M z hf s y hv hn;obtain⟨name,C,A,G,fields,aD⟩:=c;try unfold Zu at *
 dsimp only at *;have ze:C.toList.isEmpty=decide (C.size=0):=QZ C;by_cases q:C.size=0
 ·have D:Hid (v=.iface 52 (.int .i64 1)):=by rw[HF.out];unfold zF;rw[if_pos q];rfl
  rw[Xj q]at ze;clear HF q g J F;go_enter func41,ntmps41;go_wp2_with fail;cases D.out;go_ret;exact⟨rfl,Xb.alloc Xl _⟩
 ·rw[Xi q]at ze;obtain⟨l1,l2⟩:=g.out _ (Xb.alloc Xl (.cells #[.string name,.string C,.slice pf A.length Y,.bool G,dv,mv] 31));clear l2;have j:Hid (v=Qx (if !(Qb cs C).isSome then 3 else if A.any (fun n=>!(Qb cs n).isSome) then 3 else if qv cs C false≠0 then qv cs C false else if Zh (fun n=>qv cs n true) A≠0 then Zh (fun n=>qv cs n true) A else if G&&decide (C≠zh) then 7 else 0)):=by
   unfold Hid;rw[HF.out];unfold zF;rw[if_neg q]
  clear HF q;have hc:=j;cases M:(Qb cs C).isSome with
  |false =>
   rw[M]at l1 j;have D:Hid (v=.iface 52 (.int .i64 3)):=(by rw[j.out];rfl);clear hc j M F J g;generalize (Qb cs C).getD qg=d at *;obtain⟨n1,s1,f1,b1,d1,m1⟩:=d;try unfold Zu at *
   dsimp only at *;go_enter func41,ntmps41;go_wp2_with fail;cases D.out;go_ret;exact⟨rfl,ZJ _ _ _⟩
  |true =>
   rw[M]at l1 j;have U:Hid (v=Qx (if A.any (fun n=>!(Qb cs n).isSome) then 3 else if qv cs C false≠0 then qv cs C false else if Zh (fun n=>qv cs n true) A≠0 then Zh (fun n=>qv cs n true) A else if G&&decide (C≠zh) then 7 else 0)):=j.out;clear hc j M g;generalize (Qb cs C).getD qg=d at *;obtain⟨n1,s1,f1,b1,d1,m1⟩:=d;try unfold Zu at l1
   dsimp only at l1;go_enter func41,ntmps41;go_wp2_with fail;go_loopw [32] (fun x wr=>∃k,k<=A.length/\Hid (((A.drop k).any fun n=>!(Qb cs n).isSome)=(A.any fun n=>!(Qb cs n).isSome))/\zL w wr [.string name,.string C,.slice pf A.length Y,.bool G,dv,mv]/\x=.int .i64 k) (fun x _=>A.length-(intOf x).toNat)
   case atStart=>exact⟨0,by omega,rfl,zL.alloc ⟨Xb.alloc Xl _,by simp,by simp[qw]⟩ _,rfl⟩
   case round =>
    obtain⟨k,hk,N,H,rfl⟩:=hrel;obtain⟨q0,q1,q2,q3,q4,q5⟩:=qaU H;have hlen:A.length<=9223372036854775807:=Xf hf1 hf2;have V:=H.size;by_cases l:k<A.length
    ·obtain⟨x,Z⟩:∃x,A[k]? = some x:=⟨A[k],by simp[l]⟩;obtain⟨b,o,vs,rfl,hR,_,R⟩:=aA.out k x Z;unfold qt at hR;subst hR;have R:=R.mono H.below R.lt;have I:=ZbQ (fun n=>!(Qb cs n).isSome) A k x Z;rw[N.out]at I;obtain⟨pf2,kf2,pd2,kd2,pm2,km2,_,_,_,hl2⟩:=J.out x (HS.out x (Xe Z));obtain⟨r,_⟩:=hl2 wr H.below;have HX:=Xh Z;clear Z hl2;have c0:=R.1;rw[Nat.mul_one]at c0;cases i:(Qb cs x).isSome with
     |false =>
      rw[i]at r I;replace I:(A.any fun n=>!(Qb cs n).isSome)=true:=I;have D:Hid (v=.iface 52 (.int .i64 3)):=(by rw[U.out,if_pos I];rfl);clear I U F J i R;generalize (Qb cs x).getD qg=d at *;obtain⟨n2,s2,f2,b2,d2,m2⟩:=d;try unfold Zu at r
      dsimp only at r;go_wp2_with fail;cases D.out;go_ret;exact⟨rfl,(H.alloc _).below⟩
     |true =>
      rw[i]at r I;have m:Hid (((A.drop (k+1)).any fun n=>!(Qb cs n).isSome)=(A.any fun n=>!(Qb cs n).isSome)):=(by unfold Hid;simpa using I.symm);clear I U F J i R;generalize (Qb cs x).getD qg=d at *;obtain⟨n2,s2,f2,b2,d2,m2⟩:=d;try unfold Zu at r
      dsimp only at r;go_wp2_with fail;go_roundw;case rel=>exact⟨k+1,by omega,m,H.alloc _,by simp⟩
      case measure=>simp[intOf];omega
    ·have L:Hid ((A.any fun n=>!(Qb cs n).isSome)=false):=by
      rw[<-N.out,Xg (by omega)];rfl
     clear N;obtain rfl:k=A.length:=(by omega);have E:Hid (v=Qx (if qv cs C false≠0 then qv cs C false else if Zh (fun n=>qv cs n true) A≠0 then Zh (fun n=>qv cs n true) A else if G&&decide (C≠zh) then 7 else 0)):=by
      rw[U.out,if_neg (by rw[L.out];decide)];rfl
     clear U L;have X:=Xh (F.out wr C false H.below t);rcases zB (qv cs C false) with⟨O,T⟩|⟨O,T⟩
     ·rw[O]at X;rw[if_neg (by rw[T];decide)]at E;clear O T J;go_wp2_with (go_fit X.out;rintro e w3⟨rfl,a⟩;obtain⟨hcl,_⟩:=zaO a;(have r2:=(hcl w.heap.size 2 V).trans q2))
      go_loopw [56] (fun x wr=>∃k,k<=A.length/\Hid (Zh (fun n=>qv cs n true) (A.drop k)=Zh (fun n=>qv cs n true) A)/\zL w wr [.string name,.string C,.slice pf A.length Y,.bool G,dv,mv]/\x=.int .i64 k) (fun x _=>A.length-(intOf x).toNat)
      case atStart=>exact⟨0,by omega,rfl,H.step a,rfl⟩
      case round =>
       clear q0 q1 q2 q3 q4 q5 hcl r2 a X V H;obtain⟨k,hk,N,H,rfl⟩:=hrel;obtain⟨q0,q1,q2,q3,q4,q5⟩:=qaU H;have V:=H.size;by_cases l:k<A.length
       ·obtain⟨x,Z⟩:∃x,A[k]? = some x:=⟨A[k],by simp[l]⟩;obtain⟨b,o,vs,rfl,hR,_,R⟩:=aA.out k x Z;unfold qt at hR;subst hR;have R:=R.mono H.below R.lt;have I:=Zau (fun n=>qv cs n true) A k x Z;rw[N.out]at I;have h:=Xh (F.out wr x true H.below (HS.out x (Xe Z)));have HX:=Xh Z;clear Z;have c0:=R.1;rw[Nat.mul_one]at c0;clear R F;rcases zB (qv cs x true) with⟨P,T⟩|⟨P,T⟩
        ·rw[P]at h;rw[if_pos T]at I;have m:=Xh I.symm;clear P T I E;go_wp2_with (go_fit h.out;rintro e w4⟨rfl,p⟩)
         go_roundw;case rel=>exact⟨k+1,by omega,m.out,H.step p,by simp⟩
         case measure=>simp[intOf];omega
        ·rw[P]at h;rw[if_neg T]at I;have D:Hid (v=.iface 52 (.int .i64 (qv cs x true))):=(by rw[E.out,if_pos (by rw[I];exact T),I];exact P);clear P T I E;go_wp2_with (go_fit h.out;rintro e w4⟨rfl,p⟩)
         cases D.out;go_ret;exact⟨rfl,(H.step p).below⟩
       ·have L:Hid (Zh (fun n=>qv cs n true) A=0):=by
         rw[<-N.out,Xg (by omega)];rfl
        clear N;obtain rfl:k=A.length:=(by omega);rw[if_neg (by rw[L.out];decide)]at E;have aB:(C.toList==[79,98,106,101,99,116])=decide (C=zh):=by
         have:=Zay C zh;rwa [show ByteArray.toList zh=[79,98,106,101,99,116] from by rw[ByteArray.toList_eq];rfl]at this
        cases G with
        |false =>
         have D:Hid (v=.nilIface):=(by rw[E.out];rfl);clear E L;go_wp2_with fail;cases D.out;go_ret;exact⟨rfl,H.below⟩
        |true =>
         by_cases S:C=zh
         ·have D:Hid (v=.nilIface):=(by rw[E.out,S];rfl);rw[Xj S]at aB;have HSO:=Xh S;clear E L S;go_wp2_with fail;cases D.out;go_ret;exact⟨rfl,H.below⟩
         ·have D:Hid (v=.iface 52 (.int .i64 7)):=(by rw[E.out];simp[S,Qx,Hid]);rw[Xi S]at aB;have HSO:=Xh S;clear E L S;go_wp2_with fail;cases D.out;go_ret;exact⟨rfl,H.below⟩
     ·rw[O]at X;rw[if_pos T]at E;have D:Hid (v=.iface 52 (.int .i64 (qv cs C false))):=(by rw[E.out];exact O);clear O T J E;go_wp2_with (go_fit X.out;rintro e w3⟨rfl,a⟩)
      cases D.out;go_ret;exact⟨rfl,(H.step a).below⟩
theorem Za8(l:List Str)(x:Str):zak (Zad l) x=zak l x:=by
 rw[Bool.eq_iff_iff,QF,QF];unfold Zad;rw[List.mem_map];constructor
 ·rintro⟨y,A,rfl⟩;rw[List.mem_mergeSort,List.mem_map]at A;obtain⟨z,B,rfl⟩:=A;exact B
 ·intro C;exact⟨x.data.toList,by rw[List.mem_mergeSort,List.mem_map];exact⟨x,C,rfl⟩,rfl⟩
theorem zdW(G w:World)(B:Nat)(cs:List qa)(H:Qn G w B cs)(I:(cs.map (·.name)).Nodup)(J:∀c∈cs,c.faces.length<=8)(E:cs.length<=12)(A:zaN cs)(a n:Str)(L:(Qb cs a).isSome=true)(M D:Nat)(S:w.cell? ⟨M,0,none⟩=some (.map (some B)))(P:w.cell? ⟨D,0,none⟩=some (.string n))(F:D<w.heap.size):
 Calls prog 65 #[.string a,.pointer (some ⟨M,0,none⟩),.pointer (some ⟨D,0,none⟩)] w fun e w'=>e=.returned (.bool (zak (qi cs a) n))/\Below w.heap.size w w':=by
 have R:=Xh (qbw G w.drew B cs (H.step (Xb.drew)) I J E A a L);have N:Hid (∀v wx,qp wx v (Zad (qi cs a))->_):=fun v wx h=>Qao (Zad (qi cs a)) v n wx h
 rw[Za8]at N;generalize zak (qi cs a) n=r at *;generalize Zad (qi cs a)=l at *;clear H I J A L;go_enter func65,ntmps65;go_upto_region 1 with fail;go_region_with (first
  |(go_fit R.out;rintro e U⟨⟨v,rfl,O⟩,C⟩;obtain⟨p,k,rfl,_⟩:=O.open;(have T:=(C.cell (p:=⟨D,0,none⟩) F).trans P))
  |(go_fit (N.out _ _ O);rintro e V⟨rfl,rfl⟩))
 all_goals
  go_wp2
  go_ret;exact⟨rfl,Qa Xb.drew Xl C⟩
def QaB(cs:List qa)(n:Str):Bool:=(zw cs n).any fun a=>zak (qi cs a) n
theorem Zev(G w:World)(B:Nat)(cs:List qa)(D:Qn G w B cs)(H:(cs.map (·.name)).Nodup)(I:∀c∈cs,c.faces.length<=8)(J:cs.length<=12)(C:zaN cs)(n:Str)(L:(Qb cs n).isSome=true):
 Calls prog 42 #[.map (some B),.string n] w fun e w'=>e=.returned (.bool (QaB cs n))/\Below w.heap.size w w':=by
 have T:∀S first cap w,(Instr.makeFunc S first cap).run prog w=.ok (.func S first cap) w:=fun _ _ _ _=>rfl
 have M:=Xh (ZJ w (.cells #[.map (some B)] 66) (.cells #[.string n] 9));have N:=Xh (QcX G _ B cs (D.step M.out) H I n (D.names L));have O:Hid (∀v wx,qp wx v (zw cs n)->Below w.heap.size w wx->w.heap.size+1<wx.heap.size->wx.cell? ⟨w.heap.size,0,none⟩=some (.map (some B))->wx.cell? ⟨w.heap.size+1,0,none⟩=some (.string n) ->
  Calls prog 63 #[v,.func (.func 65) #[] #[.pointer (some ⟨w.heap.size,0,none⟩),.pointer (some ⟨w.heap.size+1,0,none⟩)]] wx fun e w'=>e=.returned (.bool (QaB cs n))/\Below wx.heap.size wx w'):=by
  intro v wx F V X Y Z;refine zcp qt (fun a=>zak (qi cs a) n) 65 _ (enters_of func65 (by kernel_rfl) rfl) (zw cs n) v wx F ?_;rintro W x d U P E;unfold qt at P;simp only[List.cons.injEq,and_true]at P;subst P;show Calls prog 65 #[.string x,.pointer (some ⟨w.heap.size,0,none⟩),.pointer (some ⟨w.heap.size+1,0,none⟩)] W _
  exact zdW G W B cs ((D.step V).step E) H I J C x n (C n L x U) _ _ ((E.cell (p:=⟨_,0,none⟩) (show w.heap.size<wx.heap.size by omega)).trans Y) ((E.cell (p:=⟨_,0,none⟩) X).trans Z) (Nat.lt_of_lt_of_le (by omega) E.size)
 clear D H I C L;generalize QaB cs n=r at *;generalize zw cs n=b at *;go_enter func42,ntmps42;go_wp2_with (first
  |(go_fit N.out;rintro e f⟨⟨v,rfl,F,_⟩,A⟩;obtain⟨p,k,rfl,_⟩:=F.open)
  |(go_fit (O.out _ _ F (Qa M Xl A) (Nat.lt_of_lt_of_le (by simp) A.size) ((A.cell (p:=⟨_,0,none⟩) (by simp;omega)).trans (by simp)) ((A.cell (p:=⟨_,0,none⟩) (by simp)).trans (by simp)));rintro e g⟨rfl,R⟩))
 go_ret;exact⟨rfl,Qa (Qa M Xl A) Xl R⟩
