/- Lemmas; conditions: as each states. -/
import Derived.Test.YtmclocdhcblbiaaGreatDoorCut
set_option maxHeartbeats 4000000
namespace Go.Proofs.YtmclocdhcblbiaaGreatDoor
open Go.RowKit Go.Shelf Go.Lib
theorem zc3{s:ByteArray}(A:s.size<=maxLen)(h:Qn s.data.toList=0)(w:World):
 Calls Tryz.prog 47 #[.string s] w fun e w'=>e=.returned (.tuple #[.string .empty,.string s,.bool false])/\Below w.heap.size w w':=by
 have:=qd6 s w A;unfold ZeH at this;rwa [if_pos h]at this
theorem ZbM{s:ByteArray}{n:Nat}(A:s.size<=maxLen)(h:Qn s.data.toList=n+1)(w:World):
 Calls Tryz.prog 47 #[.string s] w fun e w'=>e=.returned (.tuple #[.string (s.extract 0 (n+1)),.string (s.extract (n+1) s.size),.bool true])/\Below w.heap.size w w':=by
 have:=qd6 s w A;unfold ZeH at this;rw[if_neg (by omega),h]at this;exact this
theorem QdQ(l:List UInt8):QA l<=l.length:=by
 unfold QA;cases l with
 |nil=>simp
 |cons c q =>
  simp only[List.length_cons];split
  ·omega
  ·split
   ·split
    ·rename_i h;omega
    ·omega
   ·omega
theorem zaB(l:List UInt8):Qn l<=l.length:=by
 unfold Qn;split
 ·have:=QdQ (l.drop (zq l));simp at this;have:=qbZ l;omega
 ·omega
def Qaa(s:ByteArray):Nat:=if qo s.data.toList=true then 0 else 1
theorem ZcU(s:ByteArray):qo s.data.toList=true↔0<s.size/\Qn s.data.toList=s.size:=by
 have:=qB s;unfold qo;cases h:s.data.toList with
 |nil=>rw[h]at this;simp at this;simp[<-this]
 |cons c r=>rw[h]at this;rw[<-this];simp
theorem zaF(s:ByteArray)(w:World)(G:s.size<=maxLen):
 Calls Tryz.prog 49 #[.string s] w fun e w'=>e=.returned (ZB (Qaa s))/\Below w.heap.size w w':=by
 have B:=zaB s.data.toList;rw[qB]at B;have C:=ZcU s;cases E:Qn s.data.toList with
 |zero =>
  have D:Qaa s=1:=by unfold Qaa;rw[if_neg];rw[C];omega
  rw[D];have H:=Xh E;clear E D C B;go_enter Tryz.func49,Tryz.ntmps49;go_wp2_with (go_fit (zc3 G H.out _);rintro e w'⟨rfl,F⟩)
  go_ret;exact⟨rfl,F⟩
 |succ n =>
  have H:=Xh E;by_cases D:n+1=s.size
  ·have A:Qaa s=0:=(by unfold Qaa;rw[if_pos];rw[C];omega);have I:(s.extract (n+1) s.size).toList.isEmpty=true:=(by rw[qR];simp;omega);rw[A];clear E D C B A;go_enter Tryz.func49,Tryz.ntmps49;go_wp2_with (go_fit (ZbM G H.out _);rintro e w'⟨rfl,F⟩)
   go_ret;exact⟨rfl,F⟩
  ·have A:Qaa s=1:=(by unfold Qaa;rw[if_neg];rw[C];omega);have I:(s.extract (n+1) s.size).toList.isEmpty=false:=(by rw[qR];simp;omega);rw[A];clear E D C B A;go_enter Tryz.func49,Tryz.ntmps49;go_wp2_with (go_fit (ZbM G H.out _);rintro e w'⟨rfl,F⟩)
   go_ret;exact⟨rfl,F⟩
theorem ZbH(s:ByteArray)(w:World):
 Calls Tryz.prog 113 #[.string s] w fun e w'=>e=.returned (.bool (ZO s.data.toList))/\w=w':=by
 rw[<-ByteArray.toList_eq];go_enter Tryz.func113,Tryz.ntmps113;go_wp2
 all_goals
  go_ret;simp[ZO, *]
theorem zP{w w':World}{base:Nat}{e:TypeId}{size:Nat}{v:Value}{n:Nat}{xs:List Value}(h:w.ownsRow base e size v n xs)(C:Below w.heap.size w w'):w'.ownsRow base e size v n xs:=by
 refine⟨h.1,?_⟩;rcases h.2 with E|⟨g,cap,A,rfl,F,B,G⟩
 ·exact .inl E
 ·have D:g<w.heap.size:=(Array.getElem?_eq_some_iff.1 B).1;exact .inr ⟨g,cap,A,rfl,F,by rw[C.block g D];exact B,G⟩
theorem Qi{w:World}{base:Nat}{e:TypeId}{v:Value}{l:List ByteArray}(h:w.ownsRow base e 1 v l.length (l.map Value.string)):Zo w v l:=by
 rcases h.2 with⟨E,B⟩|⟨g,cap,A,rfl,E,B,G,H,J,I⟩
 ·exact Or.inl ⟨E,List.length_eq_zero_iff.1 B⟩
 ·refine Or.inr ⟨⟨g,0,none⟩,cap,rfl,G,H,fun i x D=>⟨[.string x],rfl,rfl,rfl,?_,trivial⟩⟩;rw[cell_of_row w g (0+i*1) A e (0,0) B];have:A.toList[i]? = some (.string x):=by
   have C:(A.toList.take (l.length*1))[i]? = some (.string x):=(by rw[I];simp[D]);have F:i<l.length:=(List.getElem?_eq_some_iff.1 D).1;rw[List.getElem?_take_of_lt (by omega)]at C;exact C
  simpa using this
theorem Zcd:∀(n m:Nat) (r:ByteArray) (acc:List ByteArray),r.size<n->r.size<m->zav n r acc=zav m r acc
 |0,_,_,_,h,_=>absurd h (Nat.not_lt_zero _)
 |_+1,0,_,_,_,h=>absurd h (Nat.not_lt_zero _)
 |n+1,m+1,r,acc,D,E=>by
  unfold zav;split
  ·rfl
  ·split
   ·rfl
   ·rename_i C;have A:=zaB r.data.toList;rw[qB]at A;have B:(r.extract (Qn r.data.toList) r.size).size=r.size-Qn r.data.toList:=(by simp);exact Zcd n m _ _ (by omega) (by omega)
theorem qcj{r:ByteArray}{acc:List ByteArray}(h:Lib.hasPrefix r.data.toList [41]=true):qv r true acc=(r,acc,true):=by
 unfold qv zav;rw[if_pos rfl,if_pos h]
theorem Qcf{r:ByteArray}{acc:List ByteArray}(h:Lib.hasPrefix r.data.toList [41]=false)(A:Qn r.data.toList=0):qv r true acc=qv r false acc:=by
 unfold qv zav;rw[if_pos rfl,if_neg (by rw[h];decide),if_pos A];rfl
theorem zck{r:ByteArray}{acc:List ByteArray}{n:Nat}(h:Lib.hasPrefix r.data.toList [41]=false)(B:Qn r.data.toList=n+1):qv r true acc=qv (r.extract (n+1) r.size) true (acc++[r.extract 0 (n+1)]):=by
 have A:=zaB r.data.toList;rw[qB]at A;have C:(r.extract (n+1) r.size).size=r.size-(n+1):=by simp
 have e:qv r true acc=zav r.size (r.extract (n+1) r.size) (acc++[r.extract 0 (n+1)]):=by
  conv=>lhs;unfold qv zav
  rw[if_pos rfl,if_neg (by rw[h];decide),if_neg (by omega),B]
 rw[e];unfold qv;rw[if_pos rfl];exact Zcd _ _ _ _ (by omega) (by omega)
def qcf:Value->Nat|.string s=>s.size|_=>0
def qbY:Value->Bool|.bool b=>b|_=>false
theorem Q3:(Tryz.prog.info? 9).map (fun i=>(i.zero,i.size,i.bytes))=some (some (.string .empty),1,16):=by kernel_rfl
theorem qaX(s p:ByteArray)(w:World):Calls Tryz.prog 45 #[.string s,.string p] w fun e w'=>e=.returned (.tuple #[.string ⟨(Lib.trimPrefix s.data.toList p.data.toList).toArray⟩,.bool (Lib.hasPrefix s.data.toList p.data.toList)])/\w=w' :=
 (Tryz.strings_CutPrefix s p w).mono fun _ _ h=>⟨h.1,h.2.symm⟩
theorem qu(s p:ByteArray)(w:World):Calls Tryz.prog 46 #[.string s,.string p] w fun e w'=>e=.returned (.bool (Lib.hasPrefix s.data.toList p.data.toList))/\w=w' :=
 (Tryz.strings_HasPrefix s p w).mono fun _ _ h=>⟨h.1,h.2.symm⟩
theorem zcy(s p:ByteArray)(w:World):Calls Tryz.prog 48 #[.string s,.string p] w fun e w'=>e=.returned (.string ⟨(Lib.trimPrefix s.data.toList p.data.toList).toArray⟩)/\w=w' :=
 (Tryz.strings_TrimPrefix s p w).mono fun _ _ h=>⟨h.1,h.2.symm⟩
theorem zL(r:ByteArray)(w:World):Calls Tryz.prog 48 #[.string r,.string ⟨#[41]⟩] w fun e w'=>e=.returned (.string (Qac r))/\w=w':=zcy r ⟨#[41]⟩ w
theorem Qcj(r:ByteArray):(Qac r).size<=r.size:=by
 have h:(Lib.trimPrefix r.data.toList [41]).length<=r.data.toList.length:=by unfold Lib.trimPrefix;split<;>simp
 rw[qB]at h;have e:(Qac r).size=(Lib.trimPrefix r.data.toList [41]).length:=by simp[Qac,ByteArray.size]
 omega
theorem Zaj{g:ByteArray}(A:g.size<=maxLen)(h:qo g.data.toList=true)(w:World):Calls Tryz.prog 49 #[.string g] w fun e w'=>e=.returned .nilIface/\Below w.heap.size w w':=by
 have:=zaF g w A;unfold Qaa at this;rwa [if_pos h]at this
theorem zap{g:ByteArray}(A:g.size<=maxLen)(h:qo g.data.toList=false)(w:World):Calls Tryz.prog 49 #[.string g] w fun e w'=>e=.returned (.iface 52 (.int .i64 1))/\Below w.heap.size w w':=by
 have:=zaF g w A;unfold Qaa at this;rwa [if_neg (by rw[h];decide)]at this
theorem ZR{n:Nat}(h:n<=9223372036854775807):n<=maxLen:=h
theorem Zag{r g:ByteArray}{acc:List ByteArray}(A:acc.length<=5)(B:Qac r=g)(C:qJ g=true):Zw (r,acc,true)=some (acc,g):=by
 subst B;unfold Zw;exact if_pos ⟨rfl,A,C⟩
theorem zaY{r:ByteArray}{acc:List ByteArray}(A:¬acc.length<=5):Zw (r,acc,true)=none:=if_neg fun h=>A h.2.1
theorem QaX{r g:ByteArray}{acc:List ByteArray}(A:Qac r=g)(B:qJ g=false):Zw (r,acc,true)=none:=by
 subst A;exact if_neg fun h=>by have:=h.2.2;rw[B]at this;cases this
theorem Qd{w:World}{base:Nat}{e:TypeId}{size:Nat}{v:Value}{n:Nat}{xs:List Value}(h:w.ownsRow base e size v n xs):∃a c,v=.slice a n c:=by
 rcases h.2 with⟨A,B⟩|⟨g,cap,C,A,_⟩
 ·exact⟨none,0,by rw[A,B]⟩
 ·exact⟨_,_,A⟩
def qaB(w:World)(m:Option (List ByteArray×ByteArray))(e:Ending)(w':World):Prop :=
 Below w.heap.size w w'/\match m with
  |none=>e=.returned (.tuple #[.slice none 0 0,.string .empty,.iface 52 (.int .i64 1)])
  |some (args,g)=>∃v,e=.returned (.tuple #[v,.string g,.nilIface])/\Zo w' v args
theorem Qb4{w w':World}{m:Option (List ByteArray×ByteArray)}(A:m=none)(B:Below w.heap.size w w'):
 qaB w m (.returned (.tuple #[.slice none 0 0,.string .empty,.iface 52 (.int .i64 1)])) w':=by subst A;exact⟨B,rfl⟩
theorem Zcy{w w':World}{m:Option (List ByteArray×ByteArray)}{args:List ByteArray}{g:ByteArray}{v:Value}(A:m=some (args,g))(B:Below w.heap.size w w')(C:Zo w' v args):
 qaB w m (.returned (.tuple #[v,.string g,.nilIface])) w':=by subst A;exact⟨B,v,rfl,C⟩
set_option maxRecDepth 100000
theorem Zdt(s h:ByteArray)(P:Bool)(w:World)(hs:s.size<=1048576)(Y:h.size<=s.size)(h0:Lib.trimPrefix s.data.toList [40]=h.data.toList)(l:Lib.hasPrefix s.data.toList [40]=P)(r:ByteArray)(acc:List ByteArray)(Z:Bool)(hf:qv h P []=(r,acc,Z))(m:Option (List ByteArray×ByteArray))(hm:Zw (r,acc,Z)=m):
 Calls Tryz.prog 28 #[.string s] w (qaB w m):=by
 have M:=Xh hm;clear hm;have HF:=Xh hf;obtain⟨i0,hi,aA,aB,aC⟩:=info_parts Q3;clear hf;go_enter Tryz.func28,Tryz.ntmps28;go_wp2_with (go_fit (qaX _ _ _);rintro e w'⟨rfl,rfl⟩)
 clear h0 l;go_loopw [5,6,7] (fun x y v wr=>∃(F:ByteArray) (N:Bool) (A:List ByteArray),Hid (qv F N A=(r,acc,Z))/\F.size+A.length<=s.size/\wr.ownsRow w.heap.size 9 1 v A.length (A.map Value.string)/\Below w.heap.size w wr/\x=.string F/\y=.bool N)
  (fun x y _ _=>if qbY y then qcf x+1 else 0)
 case atStart=>exact⟨h,P,[],HF,by simpa using Y,World.ownsRow_nil _ _ _ _,Xb,rfl,rfl⟩
 case round =>
  clear HF;obtain⟨F,N,A,E,d,C,B,rfl,rfl⟩:=hrel;cases N with
  |false =>
   have G:=E.out;unfold qv at G;simp only[Bool.false_eq_true,if_false,Prod.mk.injEq]at G;obtain⟨rfl,rfl,rfl⟩:=G;have J:Hid (m=none):=(by unfold Hid;rw[<-M.out];simp[Zw]);clear E M C;go_wp2_with (go_fit (zL _ _);rintro e w'⟨rfl,rfl⟩)
   go_ret3;exact Qb4 J.out B
  |true =>
   cases z:Lib.hasPrefix F.data.toList [41] with
   |true =>
    have G:=E.out;rw[qcj z]at G;simp only[Prod.mk.injEq]at G;obtain⟨rfl,rfl,rfl⟩:=G;clear E;have H:(Qac F).size<=maxLen:=ZR (by have:=Qcj F;omega);have D:Hid (Zw (F,A,true)=m):=M.out;clear M;obtain⟨va,vc,rfl⟩:=Qd C;generalize hg:Qac F=g at *;by_cases o:A.length<=5
    ·cases hV:(g.toList==[86]) with
     |true =>
      have L:Hid (m=some (A,g)):=(by unfold Hid;rw[<-D.out];exact Zag o hg (by simp[qJ,hV]));have hv:=Xh (Qi C);have HG:=Xh H;clear C D H;go_wp2_with (first|(go_fit (qu _ _ _);rintro e w'⟨rfl,rfl⟩)|(go_fit (zL _ _);rintro e w'⟨rfl,rfl⟩))
      go_ret3;exact Zcy L.out B hv.out
     |false =>
      cases X:qo g.data.toList with
      |true =>
       have L:Hid (m=some (A,g)):=(by unfold Hid;rw[<-D.out];exact Zag o hg (by simp[qJ,X]));have p:=Xh (Zaj H X);have HO:=Xh C;clear C D H X;go_wp2_with (first|(go_fit (qu _ _ _);rintro e w'⟨rfl,rfl⟩)|(go_fit (zL _ _);rintro e w'⟨rfl,rfl⟩)|(go_fit (p.out _);rintro e f⟨rfl,I⟩))
       go_ret3;exact Zcy L.out (B.trans (I.mono B.size)) (Qi (zP HO.out I))
      |false =>
       have J:Hid (m=none):=(by unfold Hid;rw[<-D.out];exact QaX hg (by simp[qJ,X,hV]));have p:=Xh (zap H X);clear C D H X;go_wp2_with (first|(go_fit (qu _ _ _);rintro e w'⟨rfl,rfl⟩)|(go_fit (zL _ _);rintro e w'⟨rfl,rfl⟩)|(go_fit (p.out _);rintro e f⟨rfl,I⟩))
       go_ret3;exact Qb4 J.out (B.trans (I.mono B.size))
    ·have J:Hid (m=none):=(by unfold Hid;rw[<-D.out];exact zaY o);clear D H C;go_wp2_with (first|(go_fit (qu _ _ _);rintro e w'⟨rfl,rfl⟩)|(go_fit (zL _ _);rintro e w'⟨rfl,rfl⟩))
     go_ret3;exact Qb4 J.out B
   |false =>
    cases T:Qn F.data.toList with
    |zero =>
     have i:=Xh T;have a:Hid (qv F false A=(r,acc,Z)):=(by unfold Hid;rw[<-Qcf z T];exact E.out);clear T E;go_wp2_with (first|(go_fit (qu _ _ _);rintro e w'⟨rfl,rfl⟩)|(go_fit (zc3 (ZR (by omega)) i.out _);rintro e f⟨rfl,I⟩))
     go_roundw;case rel=>exact⟨F,false,A,a,d,zP C I,B.trans (I.mono B.size),rfl,rfl⟩
     case measure=>simp[qbY]
    |succ n =>
     have b:=zaB F.data.toList;rw[qB,T]at b;have i:=Xh T;have a:Hid (qv (F.extract (n+1) F.size) true (A++[F.extract 0 (n+1)])=(r,acc,Z)):=(by unfold Hid;rw[<-zck z T];exact E.out);have c:(F.extract (n+1) F.size).size=F.size-(n+1):=(by simp);have j:=Xh c;clear T E c;generalize hr2:F.extract (n+1) F.size=r2 at a j;generalize hx:F.extract 0 (n+1)=V at a;go_wp2_with (go_fit (qu _ _ _);rintro e w'⟨rfl,rfl⟩)
     (with_reducible refine(ZbM (ZR (by omega)) i.out _).mono ?_)
     rintro e f⟨rfl,I⟩;have ho:=zP C I;have R:Below w.heap.size w (f.alloc (.cells #[.string V] 9)):=(B.trans (I.mono B.size)).alloc (Xf B.size I.size) _;have c2:∀u∈[Value.string V],u.oneCell'=true:=fun u hu=>by simp at hu;subst hu;rfl
     have c3:A.length+1<=maxLen:=ZR (by omega);have c4:(A.length+1)*16<=140737488355328:=(by omega);have c5:=R.size;have q:=Xh R;have HZ:Hid ((r2.size:Nat)+(A++[V]).length<=s.size):=(by unfold Hid;rw[j.out];simp;omega);have HM:Hid (r2.size<F.size):=(by unfold Hid;rw[j.out];omega);clear C I B R b d Y j i;go_wp2_with (at_builtin;refine wpList_append_own _ rfl _ _ 27 rfl w.heap.size 9 i0 (.string .empty) 1 16 Tryz.underlying27 hi aA aB aC rfl (by decide) _ _ _ rfl (ho.alloc _) ⟨f.heap.size,0,none⟩ 1 1 [.string V] rfl rfl (cell_one_new _ _ _) c2 c3 c4 c5 ?_;intro v2 w3 U O _)
     have t:Below w.heap.size w w3:=q.out.grown O c5 (fun k hk=>(ho.lt k hk).1);have S:w3.ownsRow w.heap.size 9 1 v2 (A++[V]).length ((A++[V]).map Value.string):=(by simpa using U);go_roundw;case rel=>exact⟨r2,true,A++[V],a,HZ,S,t,rfl,rfl⟩
     case measure=>have:=HM.out;simp[qbY,qcf];omega
set_option maxRecDepth 512
theorem Qav(s:ByteArray)(w:World)(B:s.size<=1048576):Calls Tryz.prog 28 #[.string s] w (qaB w (qi s)):=by
 have A:(Lib.trimPrefix s.data.toList [40]).length<=s.data.toList.length:=by unfold Lib.trimPrefix;split<;>simp
 rw[qB]at A;exact Zdt s ⟨(Lib.trimPrefix s.data.toList [40]).toArray⟩ (Lib.hasPrefix s.data.toList [40]) w B (by show(Lib.trimPrefix s.data.toList [40]).toArray.size<=s.size;rw[List.size_toArray];exact A) rfl rfl _ _ _ rfl _ rfl
end Go.Proofs.YtmclocdhcblbiaaGreatDoor
