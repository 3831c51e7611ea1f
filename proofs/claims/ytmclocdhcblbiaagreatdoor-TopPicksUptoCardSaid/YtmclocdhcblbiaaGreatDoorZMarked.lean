/- Lemmas; conditions: as each states. -/
import Derived.Test.YtmclocdhcblbiaaGreatDoorZRunCallR
set_option maxHeartbeats 4000000
namespace Go.Proofs.YtmclocdhcblbiaaGreatDoor
open Go.RowKit Go.Shelf Go.Lib Tryz
structure ZaN (cs ds:List qa) (mk:Str->qc->qc):Prop where
 known:∀n,(Qb cs n).isSome=true->(Qb ds n).isSome=true
 same:∀n,(Qb cs n).isSome=true->(Qd ds n).super=(Qd cs n).super/\(Qd ds n).faces=(Qd cs n).faces/\(Qd ds n).face=(Qd cs n).face/\(Qd ds n).methods=(Qd cs n).methods.map (mk n)
 keep:∀n m,(mk n m).name=m.name/\(mk n m).type=m.type/\(mk n m).static=m.static/\(mk n m).abs=m.abs/\(mk n m).priv=m.priv
 len:cs.length<=ds.length
def Qcz(mk:Str->qc->qc)(p:Str×qc):Str×qc:=(p.1,mk p.1 p.2)
theorem ZaN.above{cs A:List qa}{mk:Str->qc->qc}(H:ZaN cs A mk){n:Str}(D:(Qb cs n).isSome=true):zw A n=zw cs n:=by
 obtain⟨B,C,_⟩:=H.same n D;unfold Qd at B C;unfold zw;rw[B,C]
theorem ZaN.reach{cs G:List qa}{mk:Str->qc->qc}(H:ZaN cs G mk)(E:zaN cs):∀(f g i:Nat) (A:List Str),qaX cs A->cs.length+1<=f+i->cs.length+1<=g+i->Zaq (zw G) g i A=Zaq (zw cs) f i A:=by
 intro f;induction f with
 |zero =>
  intro g i A D J _;have I:A[i]? = none:=List.getElem?_eq_none (by have:=D.length;omega);rw[zax I,zax I]
 |succ f M =>
  intro g i A D J L;cases B:A[i]? with
  |none=>rw[zax B,zax B]
  |some x =>
   have N:=(List.getElem?_eq_some_iff.1 B).1;have O:=D.length;obtain⟨F,rfl⟩:∃F,g=F+1:=⟨g-1,by omega⟩;have C:=D.known x (Xe B);rw[qaZ B,qaZ B,H.above C];exact M F (i+1) _ (qaX.addAll _ _ D (E x C)) (by omega) (by omega)
theorem ZaN.every{cs B:List qa}{mk:Str->qc->qc}(H:ZaN cs B mk)(A:zaN cs){n:Str}(C:(Qb cs n).isSome=true):qi B n=qi cs n :=
 H.reach A _ _ 0 [n] (qaX.one C) (by omega) (by have:=H.len;omega)
theorem ZaN.line{cs C:List qa}{mk:Str->qc->qc}(H:ZaN cs C mk)(A:zaN cs){n:Str}(B:(Qb cs n).isSome=true):zm C n=zm cs n:=by
 unfold zm;rw[H.every A B];generalize (qi cs n).length=k;induction k generalizing n with
 |zero=>rfl
 |succ k E =>
  rw[Zah,Zah,(H.same n B).1];split
  ·rfl
  ·rename_i D;rw[E (A n B _ ?_)];unfold zw;unfold Qd at D;rw[if_neg D];exact List.mem_cons_self ..
theorem zea{n t:Str}{f:qc->qc}(A:∀m,(f m).name=m.name/\(f m).type=m.type):∀l:List qc,Zal n t (l.map f)=(Zal n t l).map f
 |[]=>rfl
 |m::r=>by
  rw[List.map_cons,Zal,Zal,(A m).1,(A m).2,zea A r];split<;>rfl
theorem ZaN.own{cs A:List qa}{mk:Str->qc->qc}(H:ZaN cs A mk){c:Str}(B:(Qb cs c).isSome=true)(n t:Str):Zal n t (Qd A c).methods=(Zal n t (Qd cs c).methods).map (mk c):=by
 rw[(H.same c B).2.2.2];exact zea (fun m=>⟨(H.keep c m).1,(H.keep c m).2.1⟩) _
theorem ZaN.methodGo{cs A:List qa}{mk:Str->qc->qc}(H:ZaN cs A mk)(n t:Str):∀l:List Str,(∀c∈l,(Qb cs c).isSome=true)->zS A n t l=(zS cs n t l).map (Qcz mk)
 |[],_=>rfl
 |c::r,h=>by
  rw[zS,zS,H.own (h c (List.mem_cons_self ..)),H.methodGo n t r (fun d B=>h d (List.mem_cons_of_mem _ B))];cases Zal n t (Qd cs c).methods<;>rfl
theorem ZaN.faceGo{cs A:List qa}{mk:Str->qc->qc}(H:ZaN cs A mk)(n t:Str)(a:Bool):∀l:List Str,(∀c∈l,(Qb cs c).isSome=true)->zI A n t a l=(zI cs n t a l).map (Qcz mk)
 |[],_=>rfl
 |c::r,h=>by
  have B:=h c (List.mem_cons_self ..);rw[zI,zI,H.own B,(H.same c B).2.2.1,H.faceGo n t a r (fun d C=>h d (List.mem_cons_of_mem _ C))];cases Zal n t (Qd cs c).methods with
  |none=>rfl
  |some m =>
   show(if _ then _ else _)=Option.map _ (if _ then _ else _)
   rw[(H.keep c m).2.2.2.1];split<;>rfl
theorem ZaN.method{l D:List qa}{mk:Str->qc->qc}(H:ZaN (Za l) D mk)(A:Qg l){c:Str}(B:(Qb (Za l) c).isSome=true)(n t:Str):qB D c n t=(qB (Za l) c n t).map (Qcz mk):=by
 have E:=(Zo A.closed B).1.known;have F:∀d∈Zad (qi (Za l) c),(Qb (Za l) d).isSome=true:=fun d C=>E d ((zb4 _ _).1 C)
 unfold qB;rw[H.line A.closed B,H.every A.closed B,H.methodGo n t _ (fun d C=>E d (zam A B C)),H.faceGo n t false _ F,H.faceGo n t true _ F];cases zS (Za l) n t (zm (Za l) c) with
 |some p=>rfl
 |none=>cases zI (Za l) n t false (Zad (qi (Za l) c))<;>rfl
theorem zce(c:Str){f:qc->qc}{m:qc}(A:(f m).name=m.name/\(f m).type=m.type):∀l:List zZ,qV c l (f m)=qV c l m
 |[]=>by rw[qV,qV,A.1,A.2]
 |s::r=>by rw[qV,qV,A.1,A.2,zce c A r]
theorem Zce(c:Str){f:qc->qc}(B:∀m,(f m).name=m.name/\(f m).type=m.type/\(f m).static=m.static/\(f m).priv=m.priv):∀(l:List qc) (A:List zZ),qI c A (l.map f)=qI c A l
 |[],_=>rfl
 |m::r,A=>by
  show qI c (Z7 c A (f m)) (r.map f)=qI c (Z7 c A m) r
  obtain⟨C,D,E,F⟩:=B m;have:Z7 c A (f m)=Z7 c A m:=by unfold Z7;rw[E,F,zce c ⟨C,D⟩]
  rw[this];exact Zce c B r _
theorem ZaN.slotsF{cs B:List qa}{mk:Str->qc->qc}(H:ZaN cs B mk):∀(l:List Str) (A:List zZ),(∀c∈l,(Qb cs c).isSome=true)->ZaE B A l=ZaE cs A l
 |[],_,_=>rfl
 |c::r,A,h=>by
  have C:=h c (List.mem_cons_self ..);show ZaE B (qI c A (Qd B c).methods) r=ZaE cs (qI c A (Qd cs c).methods) r
  rw[(H.same c C).2.2.2,Zce c (fun m=>⟨(H.keep c m).1,(H.keep c m).2.1,(H.keep c m).2.2.1,(H.keep c m).2.2.2.2⟩)];exact H.slotsF r _ (fun d D=>h d (List.mem_cons_of_mem _ D))
theorem ZaN.calledGo{l A:List qa}{mk:Str->qc->qc}(H:ZaN (Za l) A mk)(B:Qg l)(n t:Str):∀(r:List zZ) (o:Option (Str×qc)),(∀s∈r,(Qb (Za l) s.cls).isSome=true)->zV A n t (o.map (Qcz mk)) r=(zV (Za l) n t o r).map (Qcz mk)
 |[],_,_=>rfl
 |s::r,o,h=>by
  rw[zV,zV,H.method B (h s (List.mem_cons_self ..)),<-H.calledGo B n t r _ (fun x C=>h x (List.mem_cons_of_mem _ C))];split<;>rfl
theorem ZaN.called{l C:List qa}{mk:Str->qc->qc}(H:ZaN (Za l) C mk)(A:Qg l){c:Str}(B:(Qb (Za l) c).isSome=true)(n t:Str):Qs C c n t=(Qs (Za l) c n t).map (Qcz mk):=by
 have E:=(Zo A.closed B).1.known;have D:qaE C c=qaE (Za l) c:=by
  unfold qaE;rw[H.line A.closed B];exact H.slotsF _ _ (fun d F=>E d (zam A B (List.mem_reverse.1 F)))
 unfold Qs;rw[D,H.method A B];exact H.calledGo A n t _ _ (fun s D=>E _ (zam A B (QbG _ _ s D)))
theorem ZaN.callable{cs A:List qa}{mk:Str->qc->qc}(H:ZaN cs A mk)(o:Option (Str×qc)):QB (o.map (Qcz mk))=QB o:=by
 cases o with
 |none=>rfl
 |some p =>
  obtain⟨_,_,B,C,D⟩:=H.keep p.1 p.2;show(!(mk p.1 p.2).static&&!(mk p.1 p.2).priv&&!(mk p.1 p.2).abs)=(!p.2.static&&!p.2.priv&&!p.2.abs)
  rw[B,C,D]
def zM:Str:=⟨#[40,41,73]⟩
def QQ:Str:=⟨#[77,97,105,110,57]⟩
def qbc:Str:=⟨#[109,97,105,110]⟩
def sI:Str:=⟨#[73]⟩
def qeR:Ins:=⟨27,0,0,⟨#[]⟩,⟨#[]⟩,⟨#[]⟩⟩
def qce(i:Nat):List Ins:=[⟨2,100+i,0,sI,⟨#[]⟩,⟨#[]⟩⟩,qeR]
def zaL(i:Nat)(m:qc):qc:=if m.type=zM/\m.abs=false then { m with code:=qce i,handlers:=[] } else m
def zcA(i:Nat)(c:qa):qa:={ c with methods:=c.methods.map (zaL i) }
def ZaL:Nat->List qa->List qa
 |_,[]=>[]
 |i,c::r=>zcA i c::ZaL (i+1) r
theorem Zap:∀(l:List qa) (i:Nat),(ZaL i l).length=l.length
 |[],_=>rfl
 |_::r,i=>by rw[ZaL,List.length_cons,List.length_cons,Zap r]
theorem zb5:∀(l:List qa) (i k:Nat),(ZaL i l)[k]? = l[k]?.map (zcA (i+k))
 |[],_,_=>rfl
 |c::r,i,0=>rfl
 |c::r,i,k+1=>by
  rw[ZaL,List.getElem?_cons_succ,List.getElem?_cons_succ,zb5 r,show i+1+k=i+(k+1) by omega]
theorem ZdT(l:List qa){k:Nat}{c:qa}(h:l[k]? = some c):ZaL 0 (l.take (k+1))=ZaL 0 (l.take k)++[zcA k c]:=by
 obtain⟨A,rfl⟩:=List.getElem?_eq_some_iff.1 h;have:∀(l:List qa) (i:Nat) (d:qa),ZaL i (l++[d])=ZaL i l++[zcA (i+l.length) d]:=by
  intro l;induction l with
  |nil=>intro i d;rfl
  |cons c r B=>intro i d;rw[List.cons_append,ZaL,ZaL,B,List.length_cons,List.cons_append,show i+1+r.length=i+(r.length+1) by omega]
 rw[List.take_succ_eq_append_getElem A,this,Nat.zero_add,List.length_take,Nat.min_eq_left (by omega)]
def Zax(c kt name:Str):qc:=⟨qbc,zM,true,false,false,8,[⟨15,0,0,⟨#[]⟩,c,⟨#[]⟩⟩,⟨24,0,0,zM,kt,name⟩,qeR],[]⟩
def ZcA(c kt name:Str):qa:=⟨QQ,zh,[],false,[],[Zax c kt name]⟩
def Zak(l:List qa)(c kt name:Str):List qa:=ZaL 0 l++[ZcA c kt name]
def qdT(l:List qa)(n:Str):Nat:=l.findIdx fun c=>decide (c.name=n)
def zcW(l:List qa)(n:Str):qc->qc:=zaL (qdT l n)
theorem QdT(i:Nat)(m:qc):(zaL i m).name=m.name/\(zaL i m).type=m.type/\(zaL i m).static=m.static/\(zaL i m).abs=m.abs/\(zaL i m).priv=m.priv:=by
 unfold zaL;split<;>exact⟨rfl,rfl,rfl,rfl,rfl⟩
theorem QeR{l:List qa}(A:(l.map (·.name)).Nodup){i:Nat}(h:i<l.length):qdT l l[i].name=i:=by
 unfold qdT;rw[List.findIdx_eq h];refine⟨by simp,fun j B=>Xi fun C=>?_⟩;exact List.pairwise_iff_getElem.1 A j i (by simp;omega) (by simpa using h) B (by simpa using C)
theorem zfb{l:List qa}{c:qa}(A:c∈l):(l[qdT l c.name]?).map (·.name)=some c.name:=by
 have h:qdT l c.name<l.length:=List.findIdx_lt_length_of_exists ⟨c,A,by simp⟩;rw[Xn h];have:=List.findIdx_getElem (xs:=l) (p:=fun d:qa=>decide (d.name=c.name)) (w:=h);rw[Option.map_some];exact congrArg some (Xm this)
theorem zeS{l:List qa}(G:Qg l){c kt name:Str}(D:Qg (Zak l c kt name)):ZaN (Za l) (Za (Zak l c kt name)) (zcW l):=by
 have A:∀n,(Qb (Za l) n).isSome=true->∃d e,Qb (Za l) n=some d/\Qb (Za (Zak l c kt name)) n=some e/\e.super=d.super/\e.faces=d.faces/\e.face=d.face/\e.methods=d.methods.map (zcW l n):=by
  intro n C;obtain⟨d,B,rfl⟩:=QaS C;have E:=G.find B;unfold Za at B;rcases List.mem_cons.1 B with rfl|B
  ·exact⟨Z8,Z8,E,D.find (List.mem_cons_self ..),rfl,rfl,rfl,rfl⟩
  ·rcases List.mem_cons.1 B with rfl|B
   ·exact⟨Zam,Zam,E,D.find (List.mem_cons_of_mem _ (List.mem_cons_self ..)),rfl,rfl,rfl,rfl⟩
   ·obtain⟨i,H,rfl⟩:=List.getElem_of_mem B;have I:zcA i l[i]∈Za (Zak l c kt name):=by
     refine List.mem_cons_of_mem _ (List.mem_cons_of_mem _ (List.mem_append_left _ ?_));refine Xe (i:=i) ?_;rw[zb5,Xn H,Nat.zero_add];rfl
    refine⟨l[i],zcA i l[i],E,D.find I,rfl,rfl,rfl,?_⟩;unfold zcW;have J:(l.map (·.name)).Nodup:=(List.nodup_cons.1 (List.nodup_cons.1 G.nodup).2).2;rw[QeR J H];rfl
 refine⟨fun n C=>?_,fun n C=>?_,fun n m=>QdT _ m,?_⟩
 ·obtain⟨d,e,_,F,_⟩:=A n C;rw[F];rfl
 ·obtain⟨d,e,L,F,M⟩:=A n C;unfold Qd;rw[L,F];exact M
 ·unfold Za Zak;rw[List.length_cons,List.length_cons,List.length_cons,List.length_cons,List.length_append,Zap];omega
theorem qdv:Zl zM=some ([],sI):=by kernel_rfl
theorem Zfb:Zab sI=1:=by
 unfold Zab;rw[ByteArray.toList_eq];rfl
theorem Qdv{l:List qa}{c kt name:Str}(A:Qg (Zak l c kt name)):Qd (Za (Zak l c kt name)) QQ=ZcA c kt name:=by
 have:=A.find (c:=ZcA c kt name) (List.mem_cons_of_mem _ (List.mem_cons_of_mem _ (List.mem_append_right _ (List.mem_singleton_self _))));unfold Qd;rw[show QQ=(ZcA c kt name).name from rfl,this];rfl
theorem zeo{l:List qa}{c kt name:Str}(A:Qg (Zak l c kt name)):qam (Zak l c kt name) QQ qbc zM []=some (Zax c kt name):=by
 unfold qam;rw[Qdv A];have B:(ZcA c kt name).methods.find? (fun m=>decide (m.name=qbc)&&decide (m.type=zM))=some (Zax c kt name):=by
  show List.find? _ [Zax c kt name]=_
  rw[List.find?_cons_of_pos];show(decide (qbc=qbc)&&decide (zM=zM))=true
  simp
 rw[B];dsimp only;have C:ZaW (Zak l c kt name) zM []=true:=by
  unfold ZaW;rw[qdv];rfl
 rw[C];rfl
theorem qcA{cs:List qa}{f:Nat}{k A:zdw}(h:zaE cs k=.on A):QaG cs (f+1) k=(QaG cs f A).later:=by
 conv=>lhs;unfold QaG
 rw[h]
theorem Zdw{cs:List qa}{f:Nat}{k:zdw}{v:Val}{t:Str}(h:zaE cs k=.ends v t):QaG cs (f+1) k=.done v t 1:=by
 conv=>lhs;unfold QaG
 rw[h]
theorem Zeo(cs:List qa)(c kt name:Str):zaE cs ⟨[],[qaW QQ (Zax c kt name) []]⟩=.on ⟨[qU cs c],[⟨QQ,Zax c kt name,1,List.replicate 8 v0,[⟨3,1⟩]⟩]⟩:=by kernel_rfl
theorem qeo{cs:List qa}{c kt name:Str}{h:List Zc}{L:List Val}(A:((qB cs kt name zM).getD (⟨#[]⟩,QH)).2.priv=false)(B:ZO (qj h ⟨3,1⟩).type=c):
 zaE cs ⟨h,[⟨QQ,Zax c kt name,1,L,[⟨3,1⟩]⟩]⟩=if QB (Qs cs c name zM) then (match Qs cs c name zM with
  |some p=>qaq h p.1 p.2 [⟨3,1⟩] [⟨QQ,Zax c kt name,1,L,[]⟩]
  |none=>.full) else QM cs h [⟨QQ,Zax c kt name,1,L,[⟨3,1⟩]⟩]:=by
 show zaC cs h ⟨QQ,Zax c kt name,1,L,[⟨3,1⟩]⟩ ⟨24,0,0,zM,kt,name⟩ []=_
 unfold zaC;dsimp only;rw[qdv];show(if ((3,1):Int×Int).2<=0 then QM cs h [⟨QQ,Zax c kt name,1,L,[⟨3,1⟩]⟩] else if ((qB cs kt name zM).getD (⟨#[]⟩,QH)).2.priv=true then _ else if QB (Qs cs (ZO (qj h ⟨3,1⟩).type) name zM)=true then (match Qs cs (ZO (qj h ⟨3,1⟩).type) name zM with
  |some p=>qaq h p.1 p.2 [⟨3,1⟩] [⟨QQ,Zax c kt name,1,L,[]⟩]
  |none=>.full) else QM cs h [⟨QQ,Zax c kt name,1,L,[⟨3,1⟩]⟩])=_
 rw[if_neg (by decide),A,if_neg (by decide),B]
theorem Qeo(cs:List qa)(c kt name:Str)(L:List Val)(x:Zc):QM cs [x] [⟨QQ,Zax c kt name,1,L,[⟨3,1⟩]⟩]=.ends v0 qm:=by
 unfold QM;rw[if_neg (by simp)];rfl
theorem zep{cs:List qa}{h:List Zc}{d:Str}{m:qc}{L:List Val}{r:List Cal}{j:Nat}(A:m.code=qce j):zaE cs ⟨h,⟨d,m,0,L,[]⟩::r⟩=.on ⟨h,⟨d,m,1,L,[⟨1,100+j⟩]⟩::r⟩:=by
 unfold zaE;dsimp only;rw[A];show Out.on ⟨h,⟨d,m,1,L,[⟨Zab sI,100+j⟩]⟩::r⟩=_
 rw[Zfb]
theorem Zep{cs:List qa}{h:List Zc}{d e:Str}{m k:qc}{L O:List Val}{v:Val}{j:Nat}(A:m.code=qce j)(B:v.kind=1):zaE cs ⟨h,[⟨d,m,1,L,[v]⟩,⟨e,k,1,O,[]⟩]⟩=.on ⟨h,[⟨e,k,2,O,[v]⟩]⟩:=by
 unfold zaE;dsimp only;rw[A];show Out.on ⟨h,[⟨e,k,2,O,if v.kind=0 then [] else []++[v]⟩]⟩=_
 rw[B];rfl
theorem qep(cs:List qa)(h:List Zc)(c kt name:Str)(L:List Val)(v:Val):zaE cs ⟨h,[⟨QQ,Zax c kt name,2,L,[v]⟩]⟩=.ends v ⟨#[]⟩:=rfl
theorem ZeS{l:List qa}(F:Qg l){c kt name:Str}(G:(Qb (Za l) c).isSome=true)(I:Qg (Zak l c kt name))(J:zz (Za (Zak l c kt name)) QQ kt name zM false=0):
 (∃p j,QB (Qs (Za l) c name zM)=true/\Qs (Za l) c name zM=some p/\(l[j]?).map (·.name)=some p.1/\QaG (Za (Zak l c kt name)) 100 ⟨[],[qaW QQ (Zax c kt name) []]⟩=.done ⟨1,100+(j:Nat)⟩ ⟨#[]⟩ 5) \/
 (QB (Qs (Za l) c name zM)=false/\QaG (Za (Zak l c kt name)) 100 ⟨[],[qaW QQ (Zax c kt name) []]⟩=.done v0 qm 2):=by
 have H:=zeS F I;obtain⟨N,d,m,S,E,O⟩:=qa4 J;have T:((qB (Za (Zak l c kt name)) kt name zM).getD (⟨#[]⟩,QH)).2.priv=false:=by
  rw[S];show m.priv=false
  cases V:m.priv with
  |false=>rfl
  |true =>
   obtain⟨_,B,_⟩:=ZaC I N S;have B:m∈(Qd (Za (Zak l c kt name)) d).methods:=B;rw[O V,Qdv I]at B;rw[List.mem_singleton.1 B]at E;cases E
 have U:ZO (qj [qU (Za (Zak l c kt name)) c] ⟨3,1⟩).type=c:=by
  show ZO (qaM c)=c
  unfold ZO;rw[show Qz (qaM c)=.cl c by rw[<-QcA];exact qdw c]
 have R:=Zeo (Za (Zak l c kt name)) c kt name;have B:=qeo (h:=[qU (Za (Zak l c kt name)) c]) (L:=List.replicate 8 v0) T U;rw[H.called F G,H.callable]at B;cases A:QB (Qs (Za l) c name zM) with
 |false =>
  rw[A,if_neg (by decide),Qeo]at B;refine Or.inr ⟨rfl,(Zb5 (f:=2) ?_).2.2.1 100 (by omega)⟩;rw[qcA R,Zdw B];rfl
 |true =>
  cases D:Qs (Za l) c name zM with
  |none=>rw[D]at A;cases A
  |some p =>
   obtain⟨Y,Z,g,a⟩:=Qbi F G D;obtain⟨e,b,P,_⟩:=QU ((Zo F.closed G).1.known _ Y) Z;have M:p.2.abs=false:=by
    rw[D]at A;have A:(!p.2.static&&!p.2.priv&&!p.2.abs)=true:=A;cases X:p.2.abs with
    |false=>rfl
    |true=>rw[X]at A;simp at A
   have C:(zcW l p.1 p.2).code=qce (qdT l p.1):=by
    unfold zcW zaL;rw[if_pos ⟨a,M⟩]
   rw[A,D,if_pos rfl]at B;have B:_=qaq _ p.1 (zcW l p.1 p.2) _ _:=B;unfold qaq at B;rw[if_neg (by simp)]at B;refine Or.inl ⟨p,qdT l p.1,rfl,rfl,?_,(Zb5 (f:=5) ?_).2.2.1 100 (by omega)⟩
   ·rw[<-P];exact zfb b
   ·rw[qcA R,qcA B,qcA (zep C),qcA (Zep C rfl),Zdw (qep ..)];rfl
def QbK(w w':World):Prop:=∀b o v,w.cell? ⟨b,o,none⟩=some v->w'.cell? ⟨b,o,none⟩=some v
theorem qw.lies{w w':World}(h:QbK w w'){b:Nat}:∀{vs:List Value} {o:Nat},qw w b o vs->qw w' b o vs
 |[],_,_=>trivial
 |_::_,_,⟨A,B⟩=>⟨h _ _ _ A,B.lies h⟩
theorem Qe.lies{α:Type}{w w':World}(B:QbK w w'){k:Nat}{R A:α->List Value->Prop}(C:∀x vs,R x vs->A x vs){v:Value}{l:List α}(h:Qe w k R v l):Qe w' k A v l:=by
 rcases h with h|⟨a,cap,I,J,L,M⟩
 ·exact Or.inl h
 ·refine Or.inr ⟨a,cap,I,J,L,fun i x H=>?_⟩;obtain⟨vs,D,E,F,G⟩:=M i x H;exact⟨vs,C _ _ D,E,F,G.lies B⟩
theorem zo.lies{w w':World}(A:QbK w w'){x:qc}{vs:List Value}:zo w x vs->zo w' x vs
 |⟨B,C,D,E,F⟩=>⟨B,C,D,E.lies A (fun _ _ h=>h),F.lies A (fun _ _ h=>h)⟩
theorem ZQ.lies{w w':World}(A:QbK w w'){x:qa}{vs:List Value}:ZQ w x vs->ZQ w' x vs
 |⟨B,C,D,E,F,G,H⟩=>⟨B,C,D,E,F.lies A (fun _ _ h=>h),G.lies A (fun _ _ h=>h),H.lies A (fun _ _ h=>h.lies A)⟩
theorem Qe.turn{α β:Type}{w:World}{k:Nat}{R:α->List Value->Prop}{A:β->List Value->Prop}{v:Value}{l:List α}{f:α->β}(h:Qe w k R v l)(D:∀x∈l,∀vs,R x vs->A (f x) vs):Qe w k A v (l.map f):=by
 rcases h with⟨rfl,rfl⟩|⟨a,cap,rfl,I,J,L⟩
 ·exact Or.inl ⟨rfl,rfl⟩
 ·refine Or.inr ⟨a,cap,by simp,by simpa using I,J,fun i x C=>?_⟩;rw[List.getElem?_map,Option.map_eq_some_iff]at C;obtain⟨p,B,rfl⟩:=C;obtain⟨vs,E,F,G,H⟩:=L i p B;exact⟨vs,D p (Xe B) vs E,F,G,H⟩
def ZI(w:World)(S:List Nat):World:={ w with heap:=w.heap.mapIdx fun b o=>if b∈S then .cells #[] 9 (0,0) else o }
theorem qaC(w:World){S:List Nat}{b:Nat}(h:b∉S):(ZI w S).heap[b]? = w.heap[b]?:=by
 unfold ZI;rw[Array.getElem?_mapIdx];cases w.heap[b]? with
 |none=>rfl
 |some o=>rw[Option.map_some,if_neg h]
theorem Qep(w:World){S:List Nat}{b o:Nat}(h:b∈S):(ZI w S).cell? ⟨b,o,none⟩=none:=by
 unfold World.cell? ZI;rw[Array.getElem?_mapIdx];cases w.heap[b]? with
 |none=>rfl
 |some o=>rw[Option.map_some,if_pos h];rfl
theorem Qce{w:World}{S:List Nat}{b o:Nat}{v:Value}(h:(ZI w S).cell? ⟨b,o,none⟩=some v):b∉S/\w.cell? ⟨b,o,none⟩=some v/\b<w.heap.size:=by
 by_cases A:b∈S
 ·rw[Qep w A]at h;cases h
 ·have B:w.cell? ⟨b,o,none⟩=some v:=(World.cell?_of_block (w:=ZI w S) (w':=w) (a:=⟨b,o,none⟩) (qaC w A).symm).trans h;exact⟨A,B,qw.lt (w:=w) (o:=o) (v:=v) (r:=[]) ⟨B,trivial⟩⟩
theorem qaL{w w':World}{S S':List Nat}(h:∀b,b∉S->b<w.heap.size->b∉S'/\w'.heap[b]? = w.heap[b]?):QbK (ZI w S) (ZI w' S'):=fun b o v F=>by
 obtain⟨A,B,C⟩:=Qce F;obtain⟨D,E⟩:=h b A C;exact((World.cell?_of_block (w:=w') (w':=ZI w' S') (a:=⟨b,o,none⟩) (qaC w' D)).trans (World.cell?_of_block (w:=w) (w':=w') (a:=⟨b,o,none⟩) E)).trans B
theorem ZcW{A w:World}{S:List Nat}(D:Below A.heap.size A w)(E:∀b∈S,A.heap.size<=b):QbK A (ZI w S):=fun b o v C=>by
 have B:b<A.heap.size:=qw.lt (w:=A) (o:=o) (v:=v) (r:=[]) ⟨C,trivial⟩;have F:b∉S:=fun h=>by have:=E b h;omega
 exact((World.cell?_of_block (w:=w) (w':=ZI w S) (a:=⟨b,o,none⟩) (qaC w F)).trans (World.cell?_of_block (w:=A) (w':=w) (a:=⟨b,o,none⟩) (D.block b B))).trans C
theorem zdU(w:World)(S:List Nat):QbK (ZI w S) w:=fun _ _ _ h=>(Qce h).2.1
def zT(p:qc×Value×Value):List Value:=[.string p.1.name,.string p.1.type,.bool p.1.static,.bool p.1.abs,.bool p.1.priv,.int .i64 p.1.locals,p.2.1,p.2.2]
def qaf(p:qa×Value×Value×Value):List Value:=[.string p.1.name,.string p.1.super,p.2.1,.bool p.1.face,p.2.2.1,p.2.2.2]
def Zav(w:World)(ps:List (qc×Value×Value)):Prop:=∀p∈ps,zo w p.1 (zT p)
def qap(w:World)(ps:List (qa×Value×Value×Value)):Prop:=∀p∈ps,ZQ w p.1 (qaf p)
theorem Zav.lies{w w':World}{ps:List (qc×Value×Value)}(h:Zav w ps)(A:QbK w w'):Zav w' ps:=fun p B=>(h p B).lies A
theorem qap.lies{w w':World}{ps:List (qa×Value×Value×Value)}(h:qap w ps)(A:QbK w w'):qap w' ps:=fun p B=>(h p B).lies A
theorem Qdw{w:World}{base:Nat}{t:TypeId}{v:Value}{ps:List (qc×Value×Value)}{S:List Nat}(h:w.ownsRow base t 8 v ps.length (ps.flatMap zT))(A:∀g,v.ownBlock=some g->g∉S)(B:Zav (ZI w S) ps):Qe (ZI w S) 8 (zo (ZI w S)) v (ps.map (·.1)) :=
 ((Zbh (f:=zT) (k:=8) (R:=fun p vs=>vs=zT p) (fun _=>rfl) (fun _=>rfl) h).block (w':=ZI w S) fun g C=>qaC w (A g C)).turn fun p D _ E=>E▸B p D
theorem zcN{w:World}{base:Nat}{t:TypeId}{v:Value}{ps:List (qa×Value×Value×Value)}(h:w.ownsRow base t 6 v ps.length (ps.flatMap qaf))(A:qap w ps):zx w v (ps.map (·.1)) :=
 (Zbh (f:=qaf) (k:=6) (R:=fun p vs=>vs=qaf p) (fun _=>rfl) (fun _=>rfl) h).turn fun p B _ C=>C▸A p B
theorem qw.nth{w:World}{b:Nat}:∀{vs:List Value} {o j:Nat} {u:Value},qw w b o vs->vs[j]? = some u->w.cell? ⟨b,o+j,none⟩=some u
 |[],_,_,_,_,h=>by simp at h
 |v::r,o,0,u,⟨A,_⟩,h=>by
  obtain rfl:=Option.some.inj h;exact A
 |v::r,o,j+1,u,⟨_,B⟩,h=>by
  rw[show o+(j+1)=o+1+j by omega];exact B.nth (by simpa using h)
theorem zcf{α:Type}{f:α->List Value}{k:Nat}(B:∀x,(f x).length=k){w:World}{b:Nat}:∀(l:List α) (o:Nat),(∀i x,l[i]? = some x->qw w b (o+i*k) (f x))->∀j u,(l.flatMap f)[j]? = some u->w.cell? ⟨b,o+j,none⟩=some u
 |[],_,_,j,u,A=>by simp at A
 |x::r,o,h,j,u,A=>by
  rw[List.flatMap_cons]at A;by_cases D:j<k
  ·rw[List.getElem?_append_left (by rw[B];exact D)]at A;have C:=h 0 x rfl;rw[Nat.zero_mul]at C;exact C.nth A
  ·rw[List.getElem?_append_right (by rw[B];omega),B]at A;have:=zcf B (b:=b) (w:=w) r (o+k) (fun i y E=>by
    have:=h (i+1) y (by simpa using E);rw[Nat.succ_mul,show o+(i*k+k)=o+k+i*k by omega]at this;exact this) (j-k) u A
   rw[show o+k+(j-k)=o+j by omega]at this;exact this
theorem ZdU{w:World}{v:Value}{l:List qc}(h:Qe w 8 (zo w) v l):∃ps:List (qc×Value×Value),ps.map (·.1)=l/\Zav w ps/\Qe w 8 (fun p vs=>vs=zT p) v ps:=by
 have M:∀(l:List qc) (o b:Nat),(∀i x,l[i]? = some x->∃vs,zo w x vs/\qw w b (o+i*8) vs)->∃ps:List (qc×Value×Value),ps.map (·.1)=l/\Zav w ps/\∀i p,ps[i]? = some p->qw w b (o+i*8) (zT p):=by
  intro l;induction l with
  |nil=>exact fun o b _=>⟨[],rfl,(fun p A=>by cases A),fun i p A=>by simp at A⟩
  |cons x r U =>
   intro o b h;obtain⟨ps,D,E,N⟩:=U (o+8) b (fun i y H=>by
    obtain⟨vs,C,F⟩:=h (i+1) y (by simpa using H);exact⟨vs,C,by rw[show o+8+i*8=o+(i+1)*8 by omega];exact F⟩)
   obtain⟨vs,⟨I,J,rfl,G,O⟩,P⟩:=h 0 x rfl;refine⟨(x,I,J)::ps,by rw[List.map_cons,D],fun p A=>?_,fun i p A=>?_⟩
   ·rcases List.mem_cons.1 A with rfl|A
    ·exact⟨I,J,rfl,G,O⟩
    ·exact E p A
   ·cases i with
    |zero =>
     obtain rfl:=Option.some.inj A;exact P
    |succ i =>
     have:=N i p (by simpa using A);rw[show o+8+i*8=o+(i+1)*8 by omega]at this;exact this
 rcases h with⟨rfl,rfl⟩|⟨a,cap,rfl,D,E,L⟩
 ·exact⟨[],rfl,(fun p A=>by cases A),Or.inl ⟨rfl,rfl⟩⟩
 ·obtain⟨ps,C,F,G⟩:=M l a.off a.block fun i x H=>by
   obtain⟨vs,R,_,_,S⟩:=L i x H;exact⟨vs,R,S⟩
  have B:l.length=ps.length:=by rw[<-C,List.length_map]
  refine⟨ps,C,F,Or.inr ⟨a,cap,by rw[B],by rw[<-B];exact D,E,fun i p A=>?_⟩⟩;obtain⟨_,_,_,T,_⟩:=L i p.1 (by rw[<-C,List.getElem?_map,A];rfl);exact⟨zT p,rfl,rfl,T,G i p A⟩
theorem zeq:(prog.info? 39).map (fun i=>(i.zero,i.size,i.bytes))=some (some (.agg #[.string .empty,.string .empty,.bool false,.bool false,.bool false,.int .i64 0,.slice none 0 0,.slice none 0 0]),8,96):=by kernel_rfl
theorem qdU:(prog.info? 31).map (fun i=>(i.zero,i.size,i.bytes))=some (some (.agg #[.string .empty,.string .empty,.slice none 0 0,.bool false,.slice none 0 0,.slice none 0 0]),6,112):=by kernel_rfl
theorem Zeq{w:World}{ps:List (qc×Value×Value)}(h:Zav w ps):∀u∈ps.flatMap zT,u.oneCell'=true:=fun u H=>by
 obtain⟨p,C,A⟩:=List.mem_flatMap.1 H;obtain⟨I,J,B,D,E⟩:=h p C;unfold zT at B A;simp only[List.cons.injEq,and_true]at B;obtain⟨_,_,_,_,_,_,F,G⟩:=B;simp only[List.mem_cons,List.mem_nil_iff,or_false]at A;rcases A with rfl|rfl|rfl|rfl|rfl|rfl|rfl|rfl<;>first|rfl|(rw[F];exact D.one)|(rw[G];exact E.one)
theorem zbB{w:World}{D:Array Oper}{B:List Oper}{o:Oper}{a:Act}{Q:Exit->Act->World->Prop}(E:o.guard=none)(s x:Operand)(M:o.op=.call { callee:=.builtin .append,args:=#[s,x],argTypes:=#[29,29] })(base:Nat)(v:Value)(N:a.eval s=v)(A:w.ownsRow base 39 8 v 0 [])(y:Value)(ps:List (qc×Value×Value))(O:a.eval x=y)(U:Qe w 8 (fun p vs=>vs=zT p) y ps)(V:∀u∈ps.flatMap zT,u.oneCell'=true)(c:ps.length<=8)(C:base<=w.heap.size)(h:∀G w',w'.ownsRow base 39 8 G ps.length (ps.flatMap zT)->w.grownBy w' v.ownBlock->wpList prog D Q B (a.put o.dst G) w'):
 wpList prog D Q (o::B) a w:=by
 obtain⟨P,F,H,I,J⟩:=info_parts zeq;rcases U with⟨rfl,rfl⟩|⟨L,cap,rfl,d,e,T⟩
 ·refine wpList_append_own_none E s x 29 M base 39 P 8 underlying29 F v 0 [] N A O ?_;exact h v w A (World.grownBy.refl w _)
 ·have X:∀j u,(ps.flatMap zT)[j]? = some u->w.cell? (L.add j)=some u:=fun j u R=>by
   cases ps with
   |nil=>simp at R
   |cons p r =>
    obtain⟨_,_,_,Y,_⟩:=T 0 p rfl;rw[Y,Addr.add_lit];exact zcf (f:=zT) (k:=8) (fun _=>rfl) (p::r) L.off (fun i x F=>by
     obtain⟨vs,rfl,_,_,Z⟩:=T i x F;exact Z) j u R
  refine wpList_append_own_at _ E s x 29 M base 39 P _ 8 96 underlying29 F H I J rfl (by decide) v 0 [] N A L ps.length cap (ps.flatMap zT) O (QS (f:=zT) (k:=8) (fun _=>rfl) ps) X V (Xf (show 0+ps.length<=8 by omega) (by decide)) (by omega) C fun G w' S b _ _=>?_
  rw[Nat.zero_add]at S;exact h G w' S b
theorem qaO{w:World}{D:Array Oper}{A:List Oper}{o:Oper}{a:Act}{Q:Exit->Act->World->Prop}(F:o.guard=none)(s x:Operand)(M:o.op=.call { callee:=.builtin .append,args:=#[s,x],argTypes:=#[22,22] })(base:Nat)(v:Value)(n:Nat)(xs:List Value)(N:a.eval s=v)(E:w.ownsRow base 31 6 v n xs)(q:qa×Value×Value×Value)(G:q.2.1.oneCell'=true/\q.2.2.1.oneCell'=true/\q.2.2.2.oneCell'=true)(g:Nat)(O:Blk w g 31 (qaf q))(P:a.eval x=.slice (some ⟨g,0,none⟩) 1 1)(R:n<=8388608)(B:base<=w.heap.size)(h:∀C w',w'.ownsRow base 31 6 C (n+1) (xs++qaf q)->w.grownBy w' v.ownBlock->(C.ownBlock=v.ownBlock\/C.ownBlock=some w.heap.size)->wpList prog D Q A (a.put o.dst C) w'):
 wpList prog D Q (o::A) a w:=by
 obtain⟨S,T,H,I,J⟩:=info_parts qdU;refine wpList_append_own_at _ F s x 22 M base 31 S _ 6 112 underlying22 T H I J rfl (by decide) v n xs N E ⟨g,0,none⟩ 1 1 (qaf q) P rfl (fun j u U=>by rw[Addr.add_lit,Nat.zero_add];exact(O.cell j).trans U)
  (fun u L=>?_) (Xf (show n+1<=8388609 by omega) (by decide)) (by omega) B fun C w' V X _ Y=>h C w' V X Y
 simp only[qaf,List.mem_cons,List.mem_nil_iff,or_false]at L;rcases L with rfl|rfl|rfl|rfl|rfl|rfl<;>first|rfl|exact G.1|exact G.2.1|exact G.2.2
theorem qb5{α:Type}{f:α->List Value}{k:Nat}(B:∀x,(f x).length=k){x:α}{t:Nat}{u:Value}(D:t<k):∀{l:List α} {j:Nat} (C:j<l.length),f x=(f l[j]).set t u->(l.flatMap f).set (j*k+t) u=(l.set j x).flatMap f
 |[],_,C,_=>absurd C (Nat.not_lt_zero _)
 |y::r,0,_,A=>by
  have A:f x=(f y).set t u:=A;rw[Xc,List.flatMap_cons,List.flatMap_cons,Nat.zero_mul,Nat.zero_add,List.set_append_left _ _ (by rw[B];exact D),A]
 |y::r,j+1,C,A=>by
  have E:=qb5 B (x:=x) (u:=u) D (l:=r) (j:=j) (by simpa using C) A;rw[Xd,List.flatMap_cons,List.flatMap_cons,<-E,Nat.succ_mul,List.set_append_right _ _ (by rw[B];omega),B,show j*k+k+t-k=j*k+t by omega]
theorem qeq(t:Str):(t.toList==[40,41,73])=decide (t=zM):=by
 rw[<-Zay,show zM.toList=[40,41,73] by rw[ByteArray.toList_eq];rfl]
theorem Qdc{w:World}{base:Nat}{t:TypeId}{g n cap:Nat}{ps:List (qc×Value×Value)}(h:w.ownsRow base t 8 (.slice (some ⟨g,0,none⟩) n cap) n (ps.flatMap zT)){j:Nat}(D:j<ps.length)(A B:Value)(m:qc)(F:zT (m,A,B)=((zT ps[j]).set 6 A).set 7 B):
 ((w.setCell ⟨g,j*8+6,none⟩ A).setCell ⟨g,j*8+7,none⟩ B).ownsRow base t 8 (.slice (some ⟨g,0,none⟩) n cap) n ((ps.set j (m,A,B)).flatMap zT):=by
 have G:=qb5 (f:=zT) (k:=8) (fun _=>rfl) (x:=(ps[j].1,A,ps[j].2.2)) (t:=6) (u:=A) (by decide) D rfl;have C:j<(ps.set j (ps[j].1,A,ps[j].2.2)).length:=by rw[List.length_set];exact D
 have E:=qb5 (f:=zT) (k:=8) (fun _=>rfl) (x:=(m,A,B)) (t:=7) (u:=B) (by decide) C (by rw[List.getElem_set_self];exact F);rw[List.set_set]at E;rw[<-E,<-G];exact((h.stored (j*8+6) A).1.stored (j*8+7) B).1
theorem Qeq{l:List qc}{f:qc->qc}{rs:List (qc×Value×Value)}{j:Nat}(h:rs.map (·.1)=(l.take j).map f++l.drop j)(A:j<l.length)(x:qc×Value×Value)(B:x.1=f l[j]):(rs.set j x).map (·.1)=(l.take (j+1)).map f++l.drop (j+1):=by
 have C:((l.take j).map f).length=j:=by rw[List.length_map,List.length_take];omega
 rw[List.map_set,h,List.set_append_right _ _ (by omega),C,Nat.sub_self,List.drop_eq_getElem_cons A,Xc,List.take_succ_eq_append_getElem A,List.map_append,B,List.append_assoc];rfl
theorem zer{l:List qc}{f:qc->qc}{rs:List (qc×Value×Value)}{j:Nat}(h:rs.map (·.1)=(l.take j).map f++l.drop j)(A:j<l.length)(B:f l[j]=l[j]):rs.map (·.1)=(l.take (j+1)).map f++l.drop (j+1):=by
 rw[h,List.drop_eq_getElem_cons A,List.take_succ_eq_append_getElem A,List.map_append,List.append_assoc,List.map_singleton,B];rfl
theorem Zav.put{w w':World}{rs:List (qc×Value×Value)}(h:Zav w rs)(B:QbK w w'){x:qc×Value×Value}(C:zo w' x.1 (zT x))(j:Nat):Zav w' (rs.set j x):=fun p A=>by
 rcases List.mem_or_eq_of_mem_set A with A|rfl
 ·exact(h p A).lies B
 ·exact C
def qeS(k:Nat):List Value:=[.int .i64 2,.int .i64 (100+(k:Int)),.int .i64 0,.string ⟨#[73]⟩,.string ⟨#[]⟩,.string ⟨#[]⟩,.int .i64 27,.int .i64 0,.int .i64 0,.string ⟨#[]⟩,.string ⟨#[]⟩,.string ⟨#[]⟩]
theorem Zer{w:World}{b k:Nat}{S:List Nat}(B:b∉S)(h:Blk w b 34 (qeS k)):Qe (ZI w S) 6 Zv (.slice (some ⟨b,0,none⟩) 2 2) (qce k):=by
 have h:Blk (ZI w S) b 34 _:=(qaC w B).trans h;refine Or.inr ⟨⟨b,0,none⟩,2,rfl,Xl,by decide,fun i x A=>?_⟩;match i,A with
 |0,A =>
  obtain rfl:=Option.some.inj A;exact⟨_,rfl,rfl,rfl,h.cell 0,h.cell 1,h.cell 2,h.cell 3,h.cell 4,h.cell 5,trivial⟩
 |1,A =>
  obtain rfl:=Option.some.inj A;exact⟨_,rfl,rfl,rfl,h.cell 6,h.cell 7,h.cell 8,h.cell 9,h.cell 10,h.cell 11,trivial⟩
theorem qcW(w:World)(o:Obj)(t:TypeId)(A:List Value):Blk ((w.alloc (.cells A.toArray t)).alloc o) w.heap.size t A:=(Blk.new w t A).step (Xb.alloc Xl o)
theorem zcB(w:World)(o:Obj)(t:TypeId)(A:List Value):Blk ((w.alloc o).alloc (.cells A.toArray t)) (w.heap.size+1) t A:=by
 have:=Blk.new (w.alloc o) t A;rwa [World.size_alloc]at this
theorem Qbc{A a:Int}{t c n:Str}(E:0<=A/\A<=28)(F:0<=a/\a<=200)(B:t.size<=1048576)(C:c.size<=1048576)(D:n.size<=1048576):ZbB ⟨A,a,0,t,c,n⟩:=by
 refine⟨?_,?_,?_,B,C,D⟩<;>unfold ZbA<;>dsimp only<;>omega
theorem qai:(⟨#[]⟩:Str).size<=1048576:=by decide
theorem qfb{i:Nat}(D:i<=10){c:qa}(h:qM c):qM (zcA i c):=by
 refine⟨h.name,h.super,h.faces,h.fields,fun x C=>?_⟩;obtain⟨m,A,rfl⟩:=List.mem_map.1 C;have A:=h.methods m A;unfold zaL;split
 ·refine⟨A.name,A.type,A.locals,fun y B=>?_,fun y B=>by cases B⟩;rcases List.mem_cons.1 B with rfl|B
  ·exact Qbc (by decide) (by omega) (by decide) qai qai
  ·rw[List.mem_singleton.1 B];exact Qbc (by decide) (by decide) qai qai qai
 ·exact A
theorem qfp{l:List qa}(F:l.length<=10)(G:∀c∈l,qM c){c kt name:Str}(H:c.size<=1048576)(I:kt.size<=1048576)(J:name.size<=1048576):∀d∈Zak l c kt name,qM d:=fun d A=>by
 rcases List.mem_append.1 A with A|A
 ·obtain⟨i,C,rfl⟩:=List.getElem_of_mem A;have E:=zb5 l 0 i;rw[Zap]at C;rw[Xn (by rw[Zap];exact C),Xn C,Option.map_some,Nat.zero_add]at E;rw[Option.some.inj E];exact qfb (by omega) (G _ (List.getElem_mem C))
 ·rw[List.mem_singleton.1 A];refine⟨show QQ.size<=1048576 by decide,show zh.size<=1048576 by decide,(fun x B=>by cases B),(fun x B=>by cases B),fun x B=>?_⟩;rw[List.mem_singleton.1 B];refine⟨show qbc.size<=1048576 by decide,show zM.size<=1048576 by decide,show ZbA 8 by unfold ZbA;decide,fun y D=>?_,fun y D=>by cases D⟩;have L:y=⟨15,0,0,⟨#[]⟩,c,⟨#[]⟩⟩\/y=⟨24,0,0,zM,kt,name⟩\/y=qeR:=by simpa[Zax] using D
  rcases L with rfl|rfl|rfl
  ·exact Qbc (by decide) (by decide) qai H qai
  ·exact Qbc (by decide) (by decide) (by decide) I J
  ·exact Qbc (by decide) (by decide) qai qai qai
def ZcB(w:World)(l:List qa)(e:Ending)(w':World):Prop :=
 (∃v qs,e=.returned v/\qs.map (·.1)=ZaL 0 l/\w'.ownsRow w.heap.size 31 6 v qs.length (qs.flatMap qaf)/\qap (ZI w' v.ownBlock.toList) qs)/\Below w.heap.size w w'
theorem Qam{o:Option Nat}{b:Nat}:b∈o.toList↔o=some b:=by
 cases o with
 |none=>simp
 |some a=>simp;exact eq_comm
set_option maxRecDepth 100000
theorem QdU(l:List qa)(lv:Value)(w:World)(hlv:zx w lv l)(h10:l.length<=10)(h8:∀c∈l,c.methods.length<=8):
 Calls prog 9 #[lv] w (ZcB w l):=by
 obtain⟨pl,capl,rfl,Y,aF,hcc⟩:=hlv.open;have HC:=Xh hcc;have hlen:l.length<=9223372036854775807:=Xf Y aF;have H8:=Xh h8;clear hlv hcc h8;unfold ZcB;go_enter func9,ntmps9;go_wp2_with fail;go_loopw [3,4] (fun v x wr=>∃(k:Nat) (qs:List (qa×Value×Value×Value)),k<=l.length/\Hid (qs.map (·.1)=ZaL 0 (l.take k))/\Hid (wr.ownsRow w.heap.size 31 6 v qs.length (qs.flatMap qaf))/\Hid (qap (ZI wr v.ownBlock.toList) qs)/\Hid (Below w.heap.size w wr)/\x=.int .i64 k) (fun _ x _=>l.length-(intOf x).toNat)
 case atStart=>exact⟨0,[],by omega,rfl,⟨rfl,Or.inl ⟨rfl,rfl⟩⟩,(fun p hp=>by cases hp),Xb,rfl⟩
 case round =>
  obtain⟨k,qs,hk,HQ,HO,HI,r,rfl⟩:=hrel;obtain⟨va,vc,rfl⟩:=Ze HO.out;by_cases hkl:k<l.length
  ·obtain⟨c,hc⟩:∃a,l[k]? = some a:=⟨l[k],by simp[hkl]⟩;obtain⟨b,o,vs,rfl,⟨fv,dv,mv,rfl,q1,q2,q3⟩,_,Zd⟩:=HC.out k c hc;obtain⟨c0,c1,c2,c3,c4,c5,_⟩:=Zd.mono r.out Zd.lt;have aA:=H8.out c (Xe hc);have HX:=Xh hc;obtain⟨pf,kf,rfl,_⟩:=q1.open;obtain⟨pd,kd,rfl,_⟩:=q2.open;obtain⟨pm,km,rfl,_⟩:=q3.open;have HF1:=Xh q1;have HF2:=Xh q2;obtain⟨ps,g1,g2,g3⟩:=ZdU q3;have aK:=Zeq g2;have HPS:=Xh g2;have HG1:=Xh g1;obtain⟨cn,Z,M,d,N,A⟩:=c;dsimp only at c0 c1 c2 c3 c4 c5 aA g1 HF1 HF2 HG1;have hps8:ps.length<=8:=(by rw[<-g1,List.length_map]at aA;exact aA);have aB:A.length=ps.length:=(by rw[<-g1,List.length_map]);have HC5:=Xh c5;rw[aB]at c5 g3;have HPL:=Xh aB;have d5:∀O y:Obj,((wr.alloc O).alloc y).cell? ⟨b,o+k*6+5,none⟩=some (.slice pm ps.length km):=fun O y=>Lib.cell?_alloc_some _ (Lib.cell?_alloc_some _ c5)
   have hsl:∀O y:Obj,Qe ((wr.alloc O).alloc y) 8 (fun p vs=>vs=zT p) (.slice pm ps.length km) ps:=fun O y=>g3.mono ((r.out.alloc r.out.size O).alloc (Xf r.out.size (by simp)) y) (by decide) (fun _ _ h=>h)
   have aL:∀O:Obj,((wr.alloc O).alloc (.cells #[] 39)).ownsRow (wr.heap.size+1) 39 8 (.slice (some ⟨wr.heap.size+1,0,none⟩) 0 0) 0 []:=fun O=>⟨rfl,Or.inr ⟨wr.heap.size+1,0,#[],rfl,by omega,by rw[<-World.size_alloc wr O];exact heap_alloc_new _ _,Xl,by decide,rfl,rfl⟩⟩
   have hb6:∀O y:Obj,Below wr.heap.size wr ((wr.alloc O).alloc y):=fun O y=>(Xb.alloc Xl O).alloc (by simp) y
   clear hc Zd q1 q2 q3 g2 g1 g3 aB;go_upto_region 7 with(at_builtin;(refine zbB rfl _ _ rfl (wr.heap.size+1) (.slice (some ⟨wr.heap.size+1,0,none⟩) 0 0) rfl (aL _) _ ps rfl (hsl _ _) aK hps8 (by simp) ?_);intro v7 w7 F U;(obtain⟨s,i,rfl⟩:=Ze F);(have aC:Blk w7 wr.heap.size 31 [.string cn,.string Z,.slice pf M.length kf,.bool d,.slice pd N.length kd,.slice pm ps.length km]:=(qcW _ _ _ _).grown U (fun e=>Nat.succ_ne_self _ (Option.some.inj e)));(have e5:w7.cell? ⟨wr.heap.size,5,none⟩=some (.slice pm ps.length km):=aC.cell 5);(have f5:=aC.frozen 5);(have hb7:=(hb6 _ _).grown U (hb6 _ _).size (fun q hq=>by obtain rfl:=Option.some.inj hq;exact Nat.le_succ _));clear U)
   have HK8:=Xh (aC.put 5 (.slice s ps.length i));have aM:=(Chg.refl (fun b=>b=wr.heap.size) w7).set (p:=⟨wr.heap.size,5,none⟩) (fun _=>rfl) (.slice s ps.length i);have HO8:=Xh (zbd F aM (fun g hg e=>by have:=(F.lt g hg).1;omega));have HB8:=Xh (hb7.setCell (p:=⟨wr.heap.size,5,none⟩) Xl (.slice s ps.length i));clear aC aM F hb7 e5 f5 hb6 aL hsl d5 c0 c1 c2 c3 c4 c5 aK;generalize w7.setCell ⟨wr.heap.size,5,none⟩ (.slice s ps.length i)=w8 at *;obtain⟨S0,aG⟩:∃S,S=(Value.slice va qs.length vc).ownBlock.toList:=⟨_,rfl⟩;have HS0:Hid (∀b∈S0,w.heap.size<=b/\b<wr.heap.size):=fun b B=>by
    rw[aG]at B;exact HO.out.lt b (Qam.1 B)
   rw[<-aG]at HI;have HS0e:=Xh aG;obtain⟨S7,hS7⟩:∃S,S=(Value.slice s ps.length i).ownBlock.toList++S0:=⟨_,rfl⟩;have HS7:Hid (∀b∈S7,w.heap.size<=b/\b<w8.heap.size):=fun b B=>by
    rw[hS7]at B;rcases List.mem_append.1 B with B|B
    ·have:=HO8.out.lt b (Qam.1 B);have:=r.out.size;omega
    ·have:=HS0.out b B;have:=HB8.out.size;omega
   have HM8:Hid (Zav (ZI w8 S7) ps):=HPS.out.lies (ZcW (Qa r Xl HB8) fun b B=>(HS7.out b B).1);have aN:=Xh hS7;clear HPS aG hS7 aA;go_upto_region 8 with fail;generalize hwo:wr=L at *;clear hwo;go_loopw [6] (fun x wy=>∃(j:Nat) (rs:List (qc×Value×Value)),j<=A.length/\Hid (rs.map (·.1)=(A.take j).map (zaL k)++A.drop j)/\Hid (wy.ownsRow (L.heap.size+1) 39 8 (.slice s ps.length i) ps.length (rs.flatMap zT))/\Hid (Zav (ZI wy S7) rs)/\Hid (Blk wy L.heap.size 31 [.string cn,.string Z,.slice pf M.length kf,.bool d,.slice pd N.length kd,.slice s ps.length i])/\Hid (Below L.heap.size L wy)/\Hid (w8.heap.size<=wy.heap.size)/\x=.int .i64 j) (fun x _=>A.length-(intOf x).toNat)
   case atStart=>exact⟨0,ps,Nat.zero_le _,HG1,HO8,HM8,HK8,HB8,Xl,rfl⟩
   case round =>
    obtain⟨j,rs,hj,HR,E,aH,D,J,aI,rfl⟩:=hrel;have e5:wr.cell? ⟨L.heap.size,5,none⟩=some (.slice s ps.length i):=D.out.cell 5;have aB:A.length=ps.length:=HPL.out;have hrl:rs.length=ps.length:=by
     have:=congrArg List.length HR.out;rw[List.length_map,List.length_append,List.length_map,List.length_take,List.length_drop]at this;omega
    by_cases aD:j<A.length
    ·have hjr:j<rs.length:=(by omega);obtain⟨H,rfl,hg1,hg2,R⟩:=zaZ (f:=zT) (k:=8) (fun _=>rfl) E.out hrl.symm (Xn hjr);have T:rs[j].1=A[j]:=by
      have:=congrArg (fun z:List qc=>z[j]?) HR.out;rw[List.getElem?_map,Xn hjr,List.getElem?_append_right (by rw[List.length_map,List.length_take];omega),List.length_map,List.length_take,Nat.min_eq_left (Nat.le_of_lt aD),Nat.sub_self,List.getElem?_drop,Nat.add_zero,Xn aD]at this;exact Option.some.inj this
     obtain⟨x,hx⟩:∃x,x=rs[j]:=⟨_,rfl⟩;rw[<-hx]at R T;obtain⟨m,cv,hv⟩:=x;have T:m=A[j]:=T;have d1:wr.cell? ⟨H,j*8+1,none⟩=some (.string m.type):=R 1 (by omega);have d3:wr.cell? ⟨H,j*8+3,none⟩=some (.bool m.abs):=R 3 (by omega);have d6:wr.cell? ⟨H,j*8+6,none⟩=some cv:=R 6 (by omega);have d7:wr.cell? ⟨H,j*8+7,none⟩=some hv:=R 7 (by omega);have hjp:(j:Int)<(ps.length:Int):=(by omega);have hjc:j<ps.length:=(by omega);have hkt:=qeq m.type;have HXx:=Xh hx;have HCm:=Xh T;have hgn:L.heap.size≠H:=(by omega);clear R;clear T;by_cases I:m.type=zM/\m.abs=false
     ·rw[Xj I.1]at hkt;rw[I.2]at d3;have HMk:=Xh I;have z1:IntKind.i64.wrap (100+(k:Int))=100+(k:Int):=IntWalk.i64_in _ (by omega);obtain⟨C,hC⟩:∃C,C=Obj.cells #[.int .i64 2,.int .i64 (100+(k:Int)),.int .i64 0,.string ⟨#[73]⟩,.string ⟨#[]⟩,.string ⟨#[]⟩,.int .i64 27,.int .i64 0,.int .i64 0,.string ⟨#[]⟩,.string ⟨#[]⟩,.string ⟨#[]⟩] 34:=⟨_,rfl⟩;have s6:=(E.out.stored (j*8+6) (.slice (some ⟨wr.heap.size,0,none⟩) 2 2)).1;have k6:=(D.out.other hgn (j*8+6) (.slice (some ⟨wr.heap.size,0,none⟩) 2 2)).step (Xb.alloc Xl C);have f6:=E.out.frozenAt (j*8+6);have f7:=(s6.alloc C).frozenAt (j*8+7);have d7a:((wr.setCell ⟨H,j*8+6,none⟩ (.slice (some ⟨wr.heap.size,0,none⟩) 2 2)).alloc C).cell? ⟨H,j*8+7,none⟩=some hv:=Lib.cell?_alloc_some _ ((s6.cellAt (j*8+7) (by omega)).trans ((List.getElem?_set_ne (by omega)).trans ((E.out.cellAt (j*8+7) (by omega)).symm.trans d7)));have e6:((wr.setCell ⟨H,j*8+6,none⟩ (.slice (some ⟨wr.heap.size,0,none⟩) 2 2)).alloc C).cell? ⟨L.heap.size,5,none⟩=some (.slice (some ⟨H,0,none⟩) ps.length i):=k6.cell 5;have HO2:=Xh ((Qdc E.out hjr (.slice (some ⟨wr.heap.size,0,none⟩) 2 2) (.slice none 0 0) { m with code:=qce k,handlers:=[] } (by rw[<-hx];rfl)).alloc C);have HK2:=Xh (((D.out.other hgn (j*8+6) (.slice (some ⟨wr.heap.size,0,none⟩) 2 2)).other hgn (j*8+7) (.slice none 0 0)).step (Xb.alloc Xl C));clear s6 k6 d7 I hx;subst hC;go_wp2_with fail;obtain⟨W2,aJ⟩:∃W2,W2=(wr.setCell ⟨H,j*8+6,none⟩ (.slice (some ⟨wr.heap.size,0,none⟩) 2 2)).setCell ⟨H,j*8+7,none⟩ (.slice none 0 0):=⟨_,rfl⟩;have hsz:W2.heap.size=wr.heap.size:=(by rw[aJ];simp);have U:H∈S7:=(by rw[aN.out];exact List.mem_append_left _ (Qam.2 rfl));have hch:Chg (fun b=>b=H) wr W2:=by
       rw[aJ];exact((Chg.refl (fun b=>b=H) wr).set (p:=⟨H,j*8+6,none⟩) (fun _=>rfl) _).set (p:=⟨H,j*8+7,none⟩) (fun _=>rfl) _
      have hnS:wr.heap.size∉S7:=fun h=>by
       have:=(HS7.out _ h).2;have:=aI.out;omega
      have hbb:Below L.heap.size L W2:=by
       rw[aJ];exact(J.out.setCell (by show _<=H;omega) _).setCell (by show _<=H;omega) _
      have hcd:=Blk.new W2 34 (qeS k);rw[hsz]at hcd;rw[<-aJ]at HO2 HK2 ⊢;have HM2:=Xh (aH.out.put (qaL fun b B n=>⟨B,(hch.alloc _).block b n fun e=>B (e▸U)⟩) (x:=({ m with code:=qce k,handlers:=[] },.slice (some ⟨wr.heap.size,0,none⟩) 2 2,.slice none 0 0)) ⟨_,_,rfl,Zer hnS hcd,Or.inl ⟨rfl,rfl⟩⟩ j);have P:=Xh (Qeq HR.out aD ({ m with code:=qce k,handlers:=[] },.slice (some ⟨wr.heap.size,0,none⟩) 2 2,.slice none 0 0) (by rw[<-HCm.out];unfold zaL;rw[if_pos HMk.out]));have HB2:=Xh hbb;clear hcd hbb hch;go_roundw;case rel=>exact⟨j+1,_,by omega,P,HO2,HM2,HK2,HB2.out.alloc HB2.out.size _,by have:=aI.out;unfold Hid;simp;omega,by simp⟩
      case measure=>simp[intOf];omega
     ·have hf:zaL k m=m:=(by unfold zaL;rw[if_neg I]);have P:=Xh (zer HR.out aD (by rw[<-HCm.out];exact hf));clear hx;by_cases V:m.type=zM
      ·have hab:m.abs=true:=by
        cases ha:m.abs with
        |true=>rfl
        |false=>exact absurd ⟨V,ha⟩ I
       rw[Xj V]at hkt;rw[hab]at d3;clear I hf V hab;go_wp2_with fail;go_roundw;case rel=>exact⟨j+1,rs,by omega,P,E,aH,D,J,aI,by simp⟩
       case measure=>simp[intOf];omega
      ·rw[Xi V]at hkt;clear I hf V;go_wp2_with fail;go_roundw;case rel=>exact⟨j+1,rs,by omega,P,E,aH,D,J,aI,by simp⟩
       case measure=>simp[intOf];omega
    ·obtain rfl:j=A.length:=(by omega);have P:Hid (rs.map (·.1)=A.map (zaL k)):=by
      have:=HR.out;rw[List.take_length,List.drop_length,List.append_nil]at this;exact this
     have HRl:=Xh hrl;have e0:wr.cell? ⟨L.heap.size,0,none⟩=some (.string cn):=D.out.cell 0;have e1:wr.cell? ⟨L.heap.size,1,none⟩=some (.string Z):=D.out.cell 1;have e2:wr.cell? ⟨L.heap.size,2,none⟩=some (.slice pf M.length kf):=D.out.cell 2;have e3:wr.cell? ⟨L.heap.size,3,none⟩=some (.bool d):=D.out.cell 3;have e4:wr.cell? ⟨L.heap.size,4,none⟩=some (.slice pd N.length kd):=D.out.cell 4;have X:=fun o=>(Ql HO.out J.out).alloc o
     have hqk:qs.length=k:=by
      have:=congrArg List.length HQ.out;rw[List.length_map,Zap,List.length_take]at this;omega
     have aE:=fun o=>(Qa r Xl J).alloc (Xf r.out.size J.out.size) o
     have hqs:qs.length<=8388608:=(by omega);clear hrl hqk;go_wp2_with (at_builtin;(refine qaO rfl _ _ rfl w.heap.size (.slice va qs.length vc) qs.length (qs.flatMap qaf) rfl (X _) (⟨cn,Z,M,d,N,A.map (zaL k)⟩,.slice pf M.length kf,.slice pd N.length kd,.slice s ps.length i) ⟨rfl,rfl,rfl⟩ wr.heap.size (Blk.new wr _ _) rfl hqs (aE _).size ?_);intro v9 w9 G hg9 hv9;generalize hq:(((⟨cn,Z,M,d,N,A.map (zaL k)⟩,.slice pf M.length kf,.slice pd N.length kd,.slice s ps.length i):qa×Value×Value×Value))=q at G;(have HQq:=Xh hq.symm);clear hq;(obtain⟨p9,c9,rfl⟩:=Ze G))
     have Y:QbK (ZI wr S0) (ZI w9 (Value.slice p9 (qs.length+1) c9).ownBlock.toList):=qaL fun b B n=>by
      rw[HS0e.out]at B;refine⟨fun h=>?_,(hg9.block b (by simp;omega) (fun e=>B (Qam.2 e.symm))).trans (((Below.refl wr.heap.size wr).alloc Xl _).block b n)⟩;rcases hv9 with e|e
      ·exact B (Qam.2 (e▸Qam.1 h))
      ·rw[Qam.1 h]at e;have e:=Option.some.inj e;simp at e;omega
     have aF:QbK (ZI L S0) (ZI wr S0):=qaL fun b B n=>⟨B,J.out.block b n⟩
     have hin:QbK w (ZI wr S0):=ZcW (Qa r Xl J) fun b B=>(HS0.out b B).1
     have hl7:QbK (ZI wr S7) (ZI wr S0):=qaL fun b B _=>⟨fun h=>B (by rw[aN.out];exact List.mem_append_right _ h),rfl⟩
     have hqc:ZQ (ZI wr S0) q.1 (qaf q):=by
      rw[HQq.out];refine⟨_,_,_,rfl,HF1.out.lies hin (fun _ _ h=>h),HF2.out.lies hin (fun _ _ h=>h),?_⟩;rw[<-P.out];refine Qdw (base:=L.heap.size+1) (t:=39) (by rw[HRl.out];exact E.out) (fun g hg hS=>?_) (aH.out.lies hl7);have:=(E.out.lt g hg).1;have:=(HS0.out g hS).2;omega
     have HI9:Hid (qap (ZI w9 (Value.slice p9 (qs.length+1) c9).ownBlock.toList) (qs++[q])):=fun p hp=>by
      rcases List.mem_append.1 hp with hp|hp
      ·exact((HI.out p hp).lies aF).lies Y
      ·rw[List.mem_singleton.1 hp];exact hqc.lies Y
     have HO9:Hid (w9.ownsRow w.heap.size 31 6 (.slice p9 (qs.length+1) c9) (qs++[q]).length ((qs++[q]).flatMap qaf)):=by
      rw[List.length_append,List.flatMap_append,List.flatMap_singleton];exact G
     have HB9:=Xh ((aE _).grown hg9 (aE _).size (fun g hg=>(HO.out.lt g hg).1));have HQ9:Hid ((qs++[q]).map (·.1)=ZaL 0 (l.take (k+1))):=by
      unfold Hid;rw[ZdT l HX.out,List.map_append,HQ,HQq.out];rfl
     clear Y aF hin hl7 hqc G hg9 hv9 X aE hqs;go_roundw;case rel=>exact⟨k+1,qs++[q],by omega,HQ9,HO9,HI9,HB9,by simp⟩
     case measure=>simp[intOf];omega
  ·obtain rfl:k=l.length:=(by omega);have HF:Hid (qs.map (·.1)=ZaL 0 l):=by
    have:=HQ.out;rw[List.take_length]at this;exact this
   go_wp2_with fail;go_ret;exact⟨⟨_,qs,rfl,HF,HO,HI⟩,r⟩
