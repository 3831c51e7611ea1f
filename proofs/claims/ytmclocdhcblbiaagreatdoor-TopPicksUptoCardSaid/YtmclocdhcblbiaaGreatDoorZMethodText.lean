/- Lemmas; conditions: as each states. -/
import Derived.Test.YtmclocdhcblbiaaGreatDoorZCut
set_option maxHeartbeats 4000000
namespace Go.Proofs.YtmclocdhcblbiaaGreatDoor
open Go.RowKit Go.Shelf Go.Lib Tryz
theorem Zc5{s:ByteArray}(A:s.size<=maxLen)(h:zr s.data.toList=0)(w:World):
 Calls prog 47 #[.string s] w fun e w'=>e=.returned (.tuple #[.string .empty,.string s,.bool false])/\Below w.heap.size w w':=by
 have:=qd7 s w A;unfold QeK at this;rwa [if_pos h]at this
theorem qbO{s:ByteArray}{n:Nat}(A:s.size<=maxLen)(h:zr s.data.toList=n+1)(w:World):
 Calls prog 47 #[.string s] w fun e w'=>e=.returned (.tuple #[.string (s.extract 0 (n+1)),.string (s.extract (n+1) s.size),.bool true])/\Below w.heap.size w w':=by
 have:=qd7 s w A;unfold QeK at this;rw[if_neg (by omega),h]at this;exact this
theorem zdV(l:List UInt8):zJ l<=l.length:=by
 unfold zJ;cases l with
 |nil=>simp
 |cons c q =>
  simp only[List.length_cons];split
  ·omega
  ·split
   ·split
    ·rename_i h;omega
    ·omega
   ·omega
theorem QaT(l:List UInt8):zr l<=l.length:=by
 unfold zr;split
 ·have:=zdV (l.drop (Qv l));simp at this;have:=QcQ l;omega
 ·omega
def qac(s:ByteArray):Nat:=if zp s.data.toList=true then 0 else 1
theorem qer(s:ByteArray):zp s.data.toList=true↔0<s.size/\zr s.data.toList=s.size:=by
 have:=zP s;unfold zp;cases h:s.data.toList with
 |nil=>rw[h]at this;simp at this;simp[<-this]
 |cons c r=>rw[h]at this;rw[<-this];simp
theorem zaJ(s:ByteArray)(w:World)(G:s.size<=maxLen):
 Calls prog 49 #[.string s] w fun e w'=>e=.returned (Qx (qac s))/\Below w.heap.size w w':=by
 have B:=QaT s.data.toList;rw[zP]at B;have C:=qer s;cases E:zr s.data.toList with
 |zero =>
  have D:qac s=1:=by unfold qac;rw[if_neg];rw[C];omega
  rw[D];have H:=Xh E;clear E D C B;go_enter func49,ntmps49;go_wp2_with (go_fit (Zc5 G H.out _);rintro e w'⟨rfl,F⟩)
  go_ret;exact⟨rfl,F⟩
 |succ n =>
  have H:=Xh E;by_cases D:n+1=s.size
  ·have A:qac s=0:=(by unfold qac;rw[if_pos];rw[C];omega);have I:(s.extract (n+1) s.size).toList.isEmpty=true:=(by rw[QZ];simp;omega);rw[A];clear E D C B A;go_enter func49,ntmps49;go_wp2_with (go_fit (qbO G H.out _);rintro e w'⟨rfl,F⟩)
   go_ret;exact⟨rfl,F⟩
  ·have A:qac s=1:=(by unfold qac;rw[if_neg];rw[C];omega);have I:(s.extract (n+1) s.size).toList.isEmpty=false:=(by rw[QZ];simp;omega);rw[A];clear E D C B A;go_enter func49,ntmps49;go_wp2_with (go_fit (qbO G H.out _);rintro e w'⟨rfl,F⟩)
   go_ret;exact⟨rfl,F⟩
theorem ZbJ(s:ByteArray)(w:World):
 Calls prog 113 #[.string s] w fun e w'=>e=.returned (.bool (QX s.data.toList))/\w=w':=by
 rw[<-ByteArray.toList_eq];go_enter func113,ntmps113;go_wp2
 all_goals
  go_ret;simp[QX, *]
theorem QW{w w':World}{base:Nat}{e:TypeId}{size:Nat}{v:Value}{n:Nat}{xs:List Value}(h:w.ownsRow base e size v n xs)(C:Below w.heap.size w w'):w'.ownsRow base e size v n xs:=by
 refine⟨h.1,?_⟩;rcases h.2 with E|⟨g,cap,A,rfl,F,B,G⟩
 ·exact .inl E
 ·have D:g<w.heap.size:=(Array.getElem?_eq_some_iff.1 B).1;exact .inr ⟨g,cap,A,rfl,F,by rw[C.block g D];exact B,G⟩
theorem Zk{w:World}{base:Nat}{e:TypeId}{v:Value}{l:List ByteArray}(h:w.ownsRow base e 1 v l.length (l.map Value.string)):qp w v l:=by
 rcases h.2 with⟨E,B⟩|⟨g,cap,A,rfl,E,B,G,H,J,I⟩
 ·exact Or.inl ⟨E,List.length_eq_zero_iff.1 B⟩
 ·refine Or.inr ⟨⟨g,0,none⟩,cap,rfl,G,H,fun i x D=>⟨[.string x],rfl,rfl,rfl,?_,trivial⟩⟩;rw[cell_of_row w g (0+i*1) A e (0,0) B];have:A.toList[i]? = some (.string x):=by
   have C:(A.toList.take (l.length*1))[i]? = some (.string x):=(by rw[I];simp[D]);have F:i<l.length:=(List.getElem?_eq_some_iff.1 D).1;rw[List.getElem?_take_of_lt (by omega)]at C;exact C
  simpa using this
theorem Zcf:∀(n m:Nat) (r:ByteArray) (A:List ByteArray),r.size<n->r.size<m->qay n r A=qay m r A
 |0,_,_,_,h,_=>absurd h (Nat.not_lt_zero _)
 |_+1,0,_,_,_,h=>absurd h (Nat.not_lt_zero _)
 |n+1,m+1,r,A,E,F=>by
  unfold qay;split
  ·rfl
  ·split
   ·rfl
   ·rename_i D;have B:=QaT r.data.toList;rw[zP]at B;have C:(r.extract (zr r.data.toList) r.size).size=r.size-zr r.data.toList:=(by simp);exact Zcf n m _ _ (by omega) (by omega)
theorem zdk{r:ByteArray}{A:List ByteArray}(h:Lib.hasPrefix r.data.toList [41]=true):qC r true A=(r,A,true):=by
 unfold qC qay;rw[if_pos rfl,if_pos h]
theorem Zd7{r:ByteArray}{A:List ByteArray}(h:Lib.hasPrefix r.data.toList [41]=false)(B:zr r.data.toList=0):qC r true A=qC r false A:=by
 unfold qC qay;rw[if_pos rfl,if_neg (by rw[h];decide),if_pos B];rfl
theorem Zdk{r:ByteArray}{A:List ByteArray}{n:Nat}(h:Lib.hasPrefix r.data.toList [41]=false)(C:zr r.data.toList=n+1):qC r true A=qC (r.extract (n+1) r.size) true (A++[r.extract 0 (n+1)]):=by
 have B:=QaT r.data.toList;rw[zP]at B;have D:(r.extract (n+1) r.size).size=r.size-(n+1):=by simp
 have e:qC r true A=qay r.size (r.extract (n+1) r.size) (A++[r.extract 0 (n+1)]):=by
  conv=>lhs;unfold qC qay
  rw[if_pos rfl,if_neg (by rw[h];decide),if_neg (by omega),C]
 rw[e];unfold qC;rw[if_pos rfl];exact Zcf _ _ _ _ (by omega) (by omega)
def qch:Value->Nat|.string s=>s.size|_=>0
def QbZ:Value->Bool|.bool b=>b|_=>false
theorem Zae:(prog.info? 9).map (fun i=>(i.zero,i.size,i.bytes))=some (some (.string .empty),1,16):=by kernel_rfl
theorem Qa1(s p:ByteArray)(w:World):Calls prog 45 #[.string s,.string p] w fun e w'=>e=.returned (.tuple #[.string ⟨(Lib.trimPrefix s.data.toList p.data.toList).toArray⟩,.bool (Lib.hasPrefix s.data.toList p.data.toList)])/\w=w' :=
 (Tryz.strings_CutPrefix s p w).mono fun _ _ h=>⟨h.1,h.2.symm⟩
theorem qu(s p:ByteArray)(w:World):Calls prog 46 #[.string s,.string p] w fun e w'=>e=.returned (.bool (Lib.hasPrefix s.data.toList p.data.toList))/\w=w' :=
 (Tryz.strings_HasPrefix s p w).mono fun _ _ h=>⟨h.1,h.2.symm⟩
theorem qcB(s p:ByteArray)(w:World):Calls prog 48 #[.string s,.string p] w fun e w'=>e=.returned (.string ⟨(Lib.trimPrefix s.data.toList p.data.toList).toArray⟩)/\w=w' :=
 (Tryz.strings_TrimPrefix s p w).mono fun _ _ h=>⟨h.1,h.2.symm⟩
theorem zN(r:ByteArray)(w:World):Calls prog 48 #[.string r,.string ⟨#[41]⟩] w fun e w'=>e=.returned (.string (qao r))/\w=w':=qcB r ⟨#[41]⟩ w
theorem Qcl(r:ByteArray):(qao r).size<=r.size:=by
 have h:(Lib.trimPrefix r.data.toList [41]).length<=r.data.toList.length:=by unfold Lib.trimPrefix;split<;>simp
 rw[zP]at h;have e:(qao r).size=(Lib.trimPrefix r.data.toList [41]).length:=by simp[qao,ByteArray.size]
 omega
theorem Qak{g:ByteArray}(A:g.size<=maxLen)(h:zp g.data.toList=true)(w:World):Calls prog 49 #[.string g] w fun e w'=>e=.returned .nilIface/\Below w.heap.size w w':=by
 have:=zaJ g w A;unfold qac at this;rwa [if_pos h]at this
theorem zar{g:ByteArray}(A:g.size<=maxLen)(h:zp g.data.toList=false)(w:World):Calls prog 49 #[.string g] w fun e w'=>e=.returned (.iface 52 (.int .i64 1))/\Below w.heap.size w w':=by
 have:=zaJ g w A;unfold qac at this;rwa [if_neg (by rw[h];decide)]at this
theorem Q6{n:Nat}(h:n<=9223372036854775807):n<=maxLen:=h
theorem qaI{r g:ByteArray}{A:List ByteArray}(B:A.length<=5)(C:qao r=g)(D:qZ g=true):qQ (r,A,true)=some (A,g):=by
 subst C;unfold qQ;exact if_pos ⟨rfl,B,D⟩
theorem zbC{r:ByteArray}{A:List ByteArray}(B:¬A.length<=5):qQ (r,A,true)=none:=if_neg fun h=>B h.2.1
theorem QbB{r g:ByteArray}{A:List ByteArray}(B:qao r=g)(C:qZ g=false):qQ (r,A,true)=none:=by
 subst B;exact if_neg fun h=>by have:=h.2.2;rw[C]at this;cases this
theorem Ze{w:World}{base:Nat}{e:TypeId}{size:Nat}{v:Value}{n:Nat}{xs:List Value}(h:w.ownsRow base e size v n xs):∃a c,v=.slice a n c:=by
 rcases h.2 with⟨A,B⟩|⟨g,cap,C,A,_⟩
 ·exact⟨none,0,by rw[A,B]⟩
 ·exact⟨_,_,A⟩
def zaF(w:World)(m:Option (List ByteArray×ByteArray))(e:Ending)(w':World):Prop :=
 Below w.heap.size w w'/\match m with
  |none=>e=.returned (.tuple #[.slice none 0 0,.string .empty,.iface 52 (.int .i64 1)])
  |some (args,g)=>∃v,e=.returned (.tuple #[v,.string g,.nilIface])/\qp w' v args
theorem Qb5{w w':World}{m:Option (List ByteArray×ByteArray)}(A:m=none)(B:Below w.heap.size w w'):
 zaF w m (.returned (.tuple #[.slice none 0 0,.string .empty,.iface 52 (.int .i64 1)])) w':=by subst A;exact⟨B,rfl⟩
theorem QcB{w w':World}{m:Option (List ByteArray×ByteArray)}{args:List ByteArray}{g:ByteArray}{v:Value}(A:m=some (args,g))(B:Below w.heap.size w w')(C:qp w' v args):
 zaF w m (.returned (.tuple #[v,.string g,.nilIface])) w':=by subst A;exact⟨B,v,rfl,C⟩
set_option maxRecDepth 100000
theorem zdx(s i:ByteArray)(R:Bool)(w:World)(hs:s.size<=1048576)(Z:i.size<=s.size)(h0:Lib.trimPrefix s.data.toList [40]=i.data.toList)(o:Lib.hasPrefix s.data.toList [40]=R)(r:ByteArray)(J:List ByteArray)(a:Bool)(hf:qC i R []=(r,J,a))(m:Option (List ByteArray×ByteArray))(hm:qQ (r,J,a)=m):
 Calls prog 28 #[.string s] w (zaF w m):=by
 have N:=Xh hm;clear hm;have HF:=Xh hf;obtain⟨i0,hi,hz0,hz1,hz2⟩:=info_parts Zae;clear hf;go_enter func28,ntmps28;go_wp2_with (go_fit (Qa1 _ _ _);rintro e w'⟨rfl,rfl⟩)
 clear h0 o;go_loopw [5,6,7] (fun x y v wr=>∃(F:ByteArray) (O:Bool) (A:List ByteArray),Hid (qC F O A=(r,J,a))/\F.size+A.length<=s.size/\wr.ownsRow w.heap.size 9 1 v A.length (A.map Value.string)/\Below w.heap.size w wr/\x=.string F/\y=.bool O)
  (fun x y _ _=>if QbZ y then qch x+1 else 0)
 case atStart=>exact⟨i,R,[],HF,by simpa using Z,World.ownsRow_nil _ _ _ _,Xb,rfl,rfl⟩
 case round =>
  clear HF;obtain⟨F,O,A,E,f,C,B,rfl,rfl⟩:=hrel;cases O with
  |false =>
   have G:=E.out;unfold qC at G;simp only[Bool.false_eq_true,if_false,Prod.mk.injEq]at G;obtain⟨rfl,rfl,rfl⟩:=G;have L:Hid (m=none):=(by unfold Hid;rw[<-N.out];simp[qQ]);clear E N C;go_wp2_with (go_fit (zN _ _);rintro e w'⟨rfl,rfl⟩)
   go_ret3;exact Qb5 L.out B
  |true =>
   cases hp:Lib.hasPrefix F.data.toList [41] with
   |true =>
    have G:=E.out;rw[zdk hp]at G;simp only[Prod.mk.injEq]at G;obtain⟨rfl,rfl,rfl⟩:=G;clear E;have H:(qao F).size<=maxLen:=Q6 (by have:=Qcl F;omega);have D:Hid (qQ (F,A,true)=m):=N.out;clear N;obtain⟨va,vc,rfl⟩:=Ze C;generalize hg:qao F=g at *;by_cases p:A.length<=5
    ·cases hV:(g.toList==[86]) with
     |true =>
      have M:Hid (m=some (A,g)):=(by unfold Hid;rw[<-D.out];exact qaI p hg (by simp[qZ,hV]));have hv:=Xh (Zk C);have HG:=Xh H;clear C D H;go_wp2_with (first|(go_fit (qu _ _ _);rintro e w'⟨rfl,rfl⟩)|(go_fit (zN _ _);rintro e w'⟨rfl,rfl⟩))
      go_ret3;exact QcB M.out B hv.out
     |false =>
      cases Y:zp g.data.toList with
      |true =>
       have M:Hid (m=some (A,g)):=(by unfold Hid;rw[<-D.out];exact qaI p hg (by simp[qZ,Y]));have q:=Xh (Qak H Y);have HO:=Xh C;clear C D H Y;go_wp2_with (first|(go_fit (qu _ _ _);rintro e w'⟨rfl,rfl⟩)|(go_fit (zN _ _);rintro e w'⟨rfl,rfl⟩)|(go_fit (q.out _);rintro e h⟨rfl,I⟩))
       go_ret3;exact QcB M.out (B.trans (I.mono B.size)) (Zk (QW HO.out I))
      |false =>
       have L:Hid (m=none):=(by unfold Hid;rw[<-D.out];exact QbB hg (by simp[qZ,Y,hV]));have q:=Xh (zar H Y);clear C D H Y;go_wp2_with (first|(go_fit (qu _ _ _);rintro e w'⟨rfl,rfl⟩)|(go_fit (zN _ _);rintro e w'⟨rfl,rfl⟩)|(go_fit (q.out _);rintro e h⟨rfl,I⟩))
       go_ret3;exact Qb5 L.out (B.trans (I.mono B.size))
    ·have L:Hid (m=none):=(by unfold Hid;rw[<-D.out];exact zbC p);clear D H C;go_wp2_with (first|(go_fit (qu _ _ _);rintro e w'⟨rfl,rfl⟩)|(go_fit (zN _ _);rintro e w'⟨rfl,rfl⟩))
     go_ret3;exact Qb5 L.out B
   |false =>
    cases U:zr F.data.toList with
    |zero =>
     have j:=Xh U;have b:Hid (qC F false A=(r,J,a)):=(by unfold Hid;rw[<-Zd7 hp U];exact E.out);clear U E;go_wp2_with (first|(go_fit (qu _ _ _);rintro e w'⟨rfl,rfl⟩)|(go_fit (Zc5 (Q6 (by omega)) j.out _);rintro e h⟨rfl,I⟩))
     go_roundw;case rel=>exact⟨F,false,A,b,f,QW C I,B.trans (I.mono B.size),rfl,rfl⟩
     case measure=>simp[QbZ]
    |succ n =>
     have c:=QaT F.data.toList;rw[zP,U]at c;have j:=Xh U;have b:Hid (qC (F.extract (n+1) F.size) true (A++[F.extract 0 (n+1)])=(r,J,a)):=(by unfold Hid;rw[<-Zdk hp U];exact E.out);have d:(F.extract (n+1) F.size).size=F.size-(n+1):=(by simp);have l:=Xh d;clear U E d;generalize hr2:F.extract (n+1) F.size=r2 at b l;generalize hx:F.extract 0 (n+1)=X at b;go_wp2_with (go_fit (qu _ _ _);rintro e w'⟨rfl,rfl⟩)
     (with_reducible refine(qbO (Q6 (by omega)) j.out _).mono ?_)
     rintro e h⟨rfl,I⟩;have ho:=QW C I;have S:Below w.heap.size w (h.alloc (.cells #[.string X] 9)):=(B.trans (I.mono B.size)).alloc (Xf B.size I.size) _;have c2:∀u∈[Value.string X],u.oneCell'=true:=fun u hu=>by simp at hu;subst hu;rfl
     have c3:A.length+1<=maxLen:=Q6 (by omega);have c4:(A.length+1)*16<=140737488355328:=(by omega);have c5:=S.size;have t:=Xh S;have HZ:Hid ((r2.size:Nat)+(A++[X]).length<=s.size):=(by unfold Hid;rw[l.out];simp;omega);have HM:Hid (r2.size<F.size):=(by unfold Hid;rw[l.out];omega);clear C I B S c f Z l j;go_wp2_with (at_builtin;refine wpList_append_own _ rfl _ _ 27 rfl w.heap.size 9 i0 (.string .empty) 1 16 underlying27 hi hz0 hz1 hz2 rfl (by decide) _ _ _ rfl (ho.alloc _) ⟨h.heap.size,0,none⟩ 1 1 [.string X] rfl rfl (cell_one_new _ _ _) c2 c3 c4 c5 ?_;intro v2 w3 V P _)
     have z:Below w.heap.size w w3:=t.out.grown P c5 (fun k hk=>(ho.lt k hk).1);have T:w3.ownsRow w.heap.size 9 1 v2 (A++[X]).length ((A++[X]).map Value.string):=(by simpa using V);go_roundw;case rel=>exact⟨r2,true,A++[X],b,HZ,T,z,rfl,rfl⟩
     case measure=>have:=HM.out;simp[QbZ,qch];omega
theorem zaz(s:ByteArray)(w:World)(B:s.size<=1048576):Calls prog 28 #[.string s] w (zaF w (Zl s)):=by
 have A:(Lib.trimPrefix s.data.toList [40]).length<=s.data.toList.length:=by unfold Lib.trimPrefix;split<;>simp
 rw[zP]at A;exact zdx s ⟨(Lib.trimPrefix s.data.toList [40]).toArray⟩ (Lib.hasPrefix s.data.toList [40]) w B (by show(Lib.trimPrefix s.data.toList [40]).toArray.size<=s.size;rw[List.size_toArray];exact A) rfl rfl _ _ _ rfl _ rfl
