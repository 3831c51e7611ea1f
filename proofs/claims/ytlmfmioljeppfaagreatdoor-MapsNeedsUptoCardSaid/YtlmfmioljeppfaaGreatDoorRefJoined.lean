/- Lemmas; conditions: as each states. -/
import Derived.Test.YtlmfmioljeppfaaGreatDoorRefClass
import Derived.Test.YtlmfmioljeppfaaGreatDoorFrameOps
set_option maxHeartbeats 4000000
namespace Go.Proofs.YtlmfmioljeppfaaGreatDoor
open Go.RowKit Go.Shelf Go.Lib
def zJ(w:World)(c:Qb)(is:Bool)(e:Ending)(w':World):Prop :=
 ∃pf kf pd kd pm km,e=.returned (.tuple #[.agg #[.string c.name,.string c.super,.slice pf c.faces.length kf,.bool c.face,.slice pd c.fields.length kd,.slice pm c.methods.length km],.bool is]) /\
  Qh w' (.slice pf c.faces.length kf) c.faces/\Zg w' 2 QE (.slice pd c.fields.length kd) c.fields/\Zg w' 8 (zr w') (.slice pm c.methods.length km) c.methods/\Below w.heap.size w w' /\
  (c.faces=[]\/∀g,(Value.slice pf c.faces.length kf).ownBlock=some g->g<w.heap.size)
theorem Qat{w w':World}{n s:Str}{A:Bool}(B:Below w.heap.size w w'):zJ w { zg with name:=n,super:=s } A (.returned (.tuple #[.agg #[.string n,.string s,.slice none 0 0,.bool false,.slice none 0 0,.slice none 0 0],.bool A])) w' :=
 ⟨none,0,none,0,none,0,rfl,Or.inl ⟨rfl,rfl⟩,Or.inl ⟨rfl,rfl⟩,Or.inl ⟨rfl,rfl⟩,B,Or.inl rfl⟩
theorem zbR{w w':World}(A:Below w.heap.size w w'):zJ w zg false (.returned (.tuple #[.agg #[.string ⟨#[]⟩,.string ⟨#[]⟩,.slice none 0 0,.bool false,.slice none 0 0,.slice none 0 0],.bool false])) w' :=
 Qat (n:=.empty) (s:=.empty) A
theorem ZdJ(l:List Qb)(n:Str):Qc (Za l) n=if n=qg then some QN else if n=zC then some ZX else Qc l n:=by
 rw[show Za l=QN::ZX::l from rfl,Zdh];rfl
theorem qdh(l:List Qb)(k:Nat)(c:Qb)(n:Str)(h:l[k]? = some c):Qc (l.drop k) n=if c.name=n then some c else Qc (l.drop (k+1)) n:=by
 obtain⟨B,rfl⟩:=List.getElem?_eq_some_iff.1 h;rw[List.drop_eq_getElem_cons B];unfold Qc;by_cases A:l[k].name=n
 ·rw[if_pos A,List.find?_cons_of_pos (by simpa using A)]
 ·rw[if_neg A,List.find?_cons_of_neg (by simpa using A)]
set_option maxRecDepth 100000
theorem QA(l:List Qb)(f:Value)(n:Str)(w:World)(D:qj w f l):
 Calls Tryz.prog 14 #[f,.string n] w (zJ w ((Qc (Za l) n).getD zg) (Qc (Za l) n).isSome):=by
 obtain⟨pl,cap,rfl,Z,a,E⟩:=D.open;have i:l.length<=9223372036854775807:=Xf Z a;have A:=ZdJ l n;by_cases G:n=qg
 ·rw[if_pos G]at A;subst G;rw[A];have H:(ByteArray.toList qg==[79,98,106,101,99,116])=true:=by rw[ByteArray.toList_eq];rfl
  clear A E D;go_enter Tryz.func14,Tryz.ntmps14;go_wp2
  exact bodyPost_ret (v:=.tuple #[.agg #[.string qg,.string ⟨#[]⟩,.slice none 0 0,.bool false,.slice none 0 0,.slice none 0 0],.bool true]) (by simp[results,Tryz.results14,go_sem]) rfl (Qat (n:=qg) (s:=.empty) (Xb.alloc Xl _))
 ·rw[if_neg G]at A;have r:(n.toList==[79,98,106,101,99,116])=false:=by
   rw[show([79,98,106,101,99,116]:List UInt8)=qg.toList by rw[ByteArray.toList_eq];rfl,q8];simpa using G
  by_cases J:n=zC
  ·rw[if_pos J]at A;subst J;rw[A];have H:(ByteArray.toList zC==[70,97,117,108,116])=true:=(by rw[ByteArray.toList_eq];rfl);clear A E D G;go_enter Tryz.func14,Tryz.ntmps14;go_wp2
   exact bodyPost_ret (v:=.tuple #[.agg #[.string zC,.string qg,.slice none 0 0,.bool false,.slice none 0 0,.slice none 0 0],.bool true]) (by simp[results,Tryz.results14,go_sem];rfl) rfl (Qat (n:=zC) (s:=qg) (Xb.alloc Xl _))
  ·rw[if_neg J]at A;rw[A];have t:(n.toList==[70,97,117,108,116])=false:=by
    rw[show([70,97,117,108,116]:List UInt8)=zC.toList by rw[ByteArray.toList_eq];rfl,q8];simpa using J
   have P:=Xh E;clear A E D G J;go_enter Tryz.func14,Tryz.ntmps14;go_wp2_with fail;go_loopw [6] (fun x wr=>∃k:Nat,k<=l.length/\Hid (Qc (l.drop k) n=Qc l n)/\(w.alloc (.cells #[.string ⟨#[]⟩,.string ⟨#[]⟩,.slice none 0 0,.bool false,.slice none 0 0,.slice none 0 0] 36))=wr/\x=.int .i64 k) (fun x _=>l.length-(intOf x).toNat)
   case atStart=>exact⟨0,by omega,rfl,rfl,rfl⟩
   case round =>
    obtain⟨k,hk,C,rfl,rfl⟩:=hrel;have y:Below w.heap.size w (w.alloc (.cells #[.string ⟨#[]⟩,.string ⟨#[]⟩,.slice none 0 0,.bool false,.slice none 0 0,.slice none 0 0] 36)):=Xb.alloc Xl _;by_cases U:k<l.length
    ·obtain⟨x,R⟩:∃x,l[k]? = some x:=⟨l[k],by simp[U]⟩;obtain⟨b,o,vs,rfl,⟨fv,dv,mv,rfl,O,S,T⟩,_,L⟩:=P.out k x R;have z:=L.lt;have L:=L.mono y L.lt;obtain⟨c0,c1,c2,c3,c4,c5,_⟩:=L;have F:=qdh l k x n R;rw[C.out]at F;have HX:=Xh R;clear R;cases H:x.name.toList==n.toList with
     |true =>
      have B:x.name=n:=(by rw[q8]at H;simpa using H);rw[if_pos B]at F;rw[F];obtain⟨c,d,rfl,_⟩:=O.open;obtain⟨j,m,rfl,_⟩:=S.open;obtain⟨p,q,rfl,_⟩:=T.open;have V:Hid (x.faces=[]\/∀g,(Value.slice c x.faces.length d).ownBlock=some g->g<w.heap.size):=by
       by_cases M:x.faces=[]
       ·exact Or.inl M
       ·refine Or.inr fun g e=>?_
        obtain⟨g',h1,h2⟩:=Zat O M;rw[h1]at e;injection e with e;omega
      have K1:Hid (∀wx,Below w.heap.size w wx->_):=fun wx I=>Qh.mono I O
      have K2:Hid (∀wx,Below w.heap.size w wx->_):=fun wx I=>Zg.mono I (by decide) (fun _ _ h=>h) S
      have K3:Hid (∀wx,Below w.heap.size w wx->Zg wx 8 (zr wx) _ _):=fun wx I=>Zg.mono I (by decide) (fun _ _ h=>h.mono I) T
      clear F C O S T P B;go_wp2_with fail;exact bodyPost_ret (v:=.tuple #[.agg #[.string x.name,.string x.super,.slice c x.faces.length d,.bool x.face,.slice j x.fields.length m,.slice p x.methods.length q],.bool true]) (by simp[results,Tryz.results14,go_sem]) rfl ⟨c,d,j,m,p,q,rfl,K1.out _ (Xb.alloc Xl _),K2.out _ (Xb.alloc Xl _),K3.out _ (Xb.alloc Xl _),Xb.alloc Xl _,V.out⟩
     |false =>
      have B:¬x.name=n:=(by rw[q8]at H;simpa using H);rw[if_neg B]at F;have X:=Xh F.symm;clear F C O S T P B;go_wp2_with fail;go_roundw;case rel=>exact⟨k+1,by omega,X.out,by simp,by simp⟩
      case measure=>simp[intOf];omega
    ·obtain rfl:k=l.length:=(by omega);have N:Qc l n=none:=(by rw[<-C.out,Xg Xl];rfl);have Y:=Xh N;clear N C P;go_wp2_with fail;exact bodyPost_ret (v:=.tuple #[.agg #[.string ⟨#[]⟩,.string ⟨#[]⟩,.slice none 0 0,.bool false,.slice none 0 0,.slice none 0 0],.bool false]) (by simp[results,Tryz.results14,go_sem]) rfl (by rw[Y.out];exact zbR (Xb.alloc Xl _))
set_option maxRecDepth 512
def qaj(w:World)(l:List Str)(e:Ending)(w':World):Prop:=(∃v,e=.returned v/\w'.ownsRow w.heap.size 9 1 v l.length (l.map Value.string))/\Below w.heap.size w w'
theorem Za5(w:World)(base:Nat):w.ownsRow base 9 1 (.slice none 0 0) 0 []:=⟨rfl,Or.inl ⟨rfl,rfl⟩⟩
theorem qei:∀{s:Str},0+[s].length<=maxLen:=by intro s;show 1<=maxLen;decide
theorem qdJ:∀{s:Str},(0+[s].length)*16<=140737488355328:=by intro s;show 1*16<=140737488355328;decide
set_option maxRecDepth 100000
theorem qbv(l:List Qb)(y:Value)(n:Str)(w:World)(a:qj w y l)(h8:∀c∈l,c.faces.length<=1048576):
 Calls Tryz.prog 74 #[y,.string n] w (qaj w (qp (Za l) n)):=by
 have x:=Xh (QA l y n w a);obtain⟨pl,cap,rfl,_⟩:=a.open;have hc8:((Qc (Za l) n).getD zg).faces.length<=1048576:=by
  cases aE:Qc (Za l) n with
  |none=>exact Nat.zero_le _
  |some c =>
   have i:c∈Za l:=List.mem_of_find?_eq_some aE;unfold Za at i;rcases List.mem_cons.1 i with rfl|i
   ·exact Nat.zero_le _
   ·rcases List.mem_cons.1 i with rfl|i
    ·exact Nat.zero_le _
    ·exact h8 c i
 unfold qp;clear a h8;generalize (Qc (Za l) n).isSome=is at *;generalize (Qc (Za l) n).getD zg=c at *;obtain⟨E,A,B,F,D,C⟩:=c;dsimp only at *;unfold zJ at x;dsimp only at x;have ze:A.toList.isEmpty=decide (A.size=0):=ZD A;have m:0+B.length<=maxLen:=Xf (show 0+B.length<=1048576 by omega) (by decide);have o:(0+B.length)*16<=140737488355328:=by omega
 have q:1+B.length<=maxLen:=Xf (show 1+B.length<=1048577 by omega) (by decide);have r:(1+B.length)*16<=140737488355328:=by omega
 have z:=Xh m;have aA:=Xh o;have aB:=Xh q;have aC:=Xh r;clear m o q r;by_cases j:A.size=0
 ·rw[if_pos j];rw[Xj j]at ze;clear j;go_enter Tryz.func74,Tryz.ntmps74;go_upto_region 2 with(go_fit x.out;rintro e H⟨P,R,S,T,U,V,rfl,b,_,_,N,_⟩)
  have O:=QY H #[.string E,.string A,.slice P B.length R,.bool F,.slice S D.length T,.slice U C.length V] 36;have I:Below H.heap.size H (H.alloc (.cells #[.string E,.string A,.slice P B.length R,.bool F,.slice S D.length T,.slice U C.length V] 36)):=O.below;replace b:=b.mono I;have J:=Qa N Xl I;obtain⟨q0,q1,q2,q3,q4,q5⟩:=QM O;have s:H.heap.size<(H.alloc (.cells #[.string E,.string A,.slice P B.length R,.bool F,.slice S D.length T,.slice U C.length V] 36)).heap.size:=O.size;clear I O N;generalize H.alloc (.cells #[.string E,.string A,.slice P B.length R,.bool F,.slice S D.length T,.slice U C.length V] 36)=h at *;go_wp2_with (at_builtin;(refine Qg rfl _ _ rfl w.heap.size _ 0 [] rfl (Za5 _ _) _ B rfl b z.out aA.out J.size ?_);intro v4 w4 G X _)
  go_ret;exact⟨⟨v4,rfl,by simpa using G⟩,J.grown X J.size (fun k v=>by cases v)⟩
 ·rw[if_neg j];rw[Xi j]at ze;clear j;go_enter Tryz.func74,Tryz.ntmps74;go_upto_region 2 with(go_fit x.out;rintro e H⟨P,R,S,T,U,V,rfl,b,_,_,N,_⟩)
  have O:=QY H #[.string E,.string A,.slice P B.length R,.bool F,.slice S D.length T,.slice U C.length V] 36;have I:Below H.heap.size H (H.alloc (.cells #[.string E,.string A,.slice P B.length R,.bool F,.slice S D.length T,.slice U C.length V] 36)):=O.below;replace b:=b.mono I;have J:=Qa N Xl I;obtain⟨q0,q1,q2,q3,q4,q5⟩:=QM O;have s:H.heap.size<(H.alloc (.cells #[.string E,.string A,.slice P B.length R,.bool F,.slice S D.length T,.slice U C.length V] 36)).heap.size:=O.size;clear I O N;generalize H.alloc (.cells #[.string E,.string A,.slice P B.length R,.bool F,.slice S D.length T,.slice U C.length V] 36)=h at *;have t:=Qs h A;have d:Below h.heap.size h (h.alloc (.cells #[.string A] 9)):=Xb.alloc Xl _;have aD:=Qa J Xl d;go_wp2_with (first
   |(at_builtin;(refine Qg rfl _ _ rfl w.heap.size _ _ _ rfl L _ B rfl h5 aB.out aC.out f.size ?_);intro v6 w6 g Y _)
   |(at_builtin;(refine Qg rfl _ _ rfl w.heap.size _ 0 [] rfl (Za5 _ _) _ [A] rfl t qei qdJ aD.size ?_);intro v5 w5 G Z _;(have L:w5.ownsRow w.heap.size 9 1 v5 1 [.string A]:=by simpa using G);clear G;(have M:Below h.heap.size h w5:=d.grown Z d.size (fun k v=>by cases v));(have h5:=b.mono M);(have f:=Qa J Xl M);(have q6:=(M.cell (p:=⟨H.heap.size,2,none⟩) s).trans q2)))
  go_ret;exact⟨⟨v6,rfl,by simpa[Nat.add_comm] using g⟩,f.grown Y f.size (fun k v=>(L.lt k v).1)⟩
theorem Qbe(l:List Qb)(lv:Value)(n:Str)(w:World)(L:qj w lv l)(h8:∀c∈l,c.faces.length<=1048576)(s:(Za l).length<=12)(P:Qaw (Za l))(t:(Qc (Za l) n).isSome=true)(y:(qp (Za l) n).Nodup):
 Calls Tryz.prog 39 #[lv,.string n] w (qaj w (upC (Za l) n)):=by
 obtain⟨i0,hi,hz0,hz1,hz2⟩:=info_parts qO;have z:Hid (∀wr x,Below w.heap.size w wr->_):=fun wr x hb=>qbv l lv x wr (L.mono hb) h8
 have aA:=Xh (qbv l lv n w L h8);obtain⟨pl,cap,rfl,_⟩:=L.open;have aB:Hid (Qay (Za l) (qp (Za l) n)):=⟨y,P n t⟩;have aC:Hid (zab (qp (Za l)) ((Za l).length+1-0) 0 (qp (Za l) n)=upC (Za l) n):=rfl;have aD:=Xh P;clear L h8 P y t;generalize upC (Za l) n=q at *;generalize qp (Za l) n=ab0 at *;generalize hcs:Za l=cs at *;have HCS:=Xh hcs;clear hcs;go_enter Tryz.func39,Tryz.ntmps39;go_wp2_with (go_fit aA.out;rintro e w2⟨⟨v2,rfl,A⟩,G⟩)
 go_loopw [5,6] (fun v x wr=>∃(i:Nat) (C:List Str),Hid (zab (qp cs) (cs.length+1-i) i C=q)/\Hid (Qay cs C)/\wr.ownsRow w.heap.size 9 1 v C.length (C.map Value.string)/\Below w.heap.size w wr/\i<=13/\x=.int .i64 i) (fun _ x _=>14-(intOf x).toNat)
 case atStart=>exact⟨0,ab0,aC,aB,A,G,by omega,rfl⟩
 case round =>
  clear A G aC aB;obtain⟨i,C,HR,HG,A,G,hi13,rfl⟩:=hrel;obtain⟨va,vc,rfl⟩:=qe A;have hol:=Xf HG.out.length s;by_cases hil:i<C.length
  ·obtain⟨x,hx⟩:∃x,C[i]? = some x:=⟨C[i],by simp[hil]⟩;have aE:=HG.out.known x (Xe hx);have hrs:Hid (zab (qp cs) (cs.length+1-(i+1)) (i+1) (Zab C (qp cs x))=q):=by
    have:=HR.out;have hle:=HG.out.length;rw[show cs.length+1-i=(cs.length-i)+1 by omega,za2 hx]at this;rw[show cs.length+1-(i+1)=cs.length-i by omega];exact this
   have R:Hid (∀a∈qp cs x,(Qc cs a).isSome=true):=aD.out x aE;have S:=Qbd A i x hx;obtain⟨g,rfl⟩:=QbN A (by omega);have aF:=Xh (z.out wr x G);have HX:=Xh hx;clear hx HR aE;generalize qp cs x=B at *;go_wp2_with (go_at_call 74;((with_reducible refine aF.out.mono ?_);rintro e w3⟨⟨v3,rfl,N⟩,j⟩;obtain⟨pv,kv,rfl⟩:=qe N))
   have hg:=(A.lt g rfl);have J:=Zr A j;have aG:=Qa G Xl j;have D:Hid (B=[]\/∀O,(Value.slice (some ⟨g,0,none⟩) C.length vc).ownBlock=some O->(Value.slice pv B.length kv).ownBlock≠some O):=by
    refine Or.inr fun O M r=>?_
    obtain rfl:g=O:=(by injection M);have:=(N.lt _ r).1;have:=hg.2;omega
   have T:=Ze N;obtain⟨pv',kv',d,hv21,hv22,_⟩:=T.open;injection d with he1 he3 d
   subst he1 d;clear he3;clear aF z S A G j aD N hg aA;go_loopw [5,8] (fun v x p=>∃(k:Nat) (F:List Str),k<=B.length/\Hid (Zab F (B.drop k)=Zab C B)/\Hid (Qay cs F)/\p.ownsRow w.heap.size 9 1 v F.length (F.map Value.string)/\Below w.heap.size w p/\Qh p (.slice pv B.length kv) B/\Hid (B=[]\/∀O,v.ownBlock=some O->(Value.slice pv B.length kv).ownBlock≠some O)/\x=.int .i64 k) (fun _ x _=>B.length-(intOf x).toNat)
   case atStart=>exact⟨0,C,by omega,rfl,HG,J,aG,T,D,rfl⟩
   case round =>
    clear J aG T D;obtain⟨k,F,t,HA,f,A,G,hv,D,rfl⟩:=hrel;obtain⟨va,vc2,rfl⟩:=qe A;have hlen:B.length<=9223372036854775807:=Xf hv21 hv22;by_cases U:k<B.length
    ·obtain⟨a,ha⟩:∃a,B[k]? = some a:=⟨B[k],by simp[U]⟩;have aH:=R.out a (Xe ha);have V:=qbN F B k a ha;rw[HA.out]at V;obtain⟨⟨b,o,rfl⟩,_⟩:=hv.ptr (by omega);have hc:=hv.cell ha;have E:=zbk F (.slice va F.length vc2) a wr (Ze A);have HX2:=Xh ha;clear ha;cases H:QK F a with
     |true =>
      rw[H,if_pos rfl]at V;rw[H]at E;have HC:=Xh E;have X:=Xh V.symm;clear E V H;go_wp2_with (go_fit HC.out;rintro e w3⟨rfl,rfl⟩)
      go_roundw;case rel=>exact⟨k+1,F,by omega,X.out,f,A,G,hv,D,by simp⟩
      case measure=>simp[intOf];omega
     |false =>
      rw[H,if_neg (by decide)]at V;rw[H]at E;have HC:=Xh E;have X:=Xh V.symm;have aI:Hid (Qay cs (F++[a])):=f.out.add aH H;have aJ:(F++[a]).length<=12:=Xf aI.out.length s;rw[List.length_append,List.length_singleton]at aJ;have c2:∀u∈[Value.string a],u.oneCell'=true:=fun u hu=>by simp at hu;subst hu;rfl
      have c3:F.length+1<=maxLen:=Xf aJ (by decide);have c4:(F.length+1)*16<=140737488355328:=(by omega);have c5:w.heap.size<=(wr.alloc (.cells #[.string a] 9)).heap.size:=(G.alloc G.size _).size;have HV:=Xh (hv.mono (Xb.alloc Xl (.cells #[.string a] 9)));have HB:=Xh (G.alloc G.size (.cells #[.string a] 9));have HO:=Xh A;clear E V H hv G aH;go_wp2_with (first|(go_fit HC.out;rintro e w3⟨rfl,rfl⟩)|(at_builtin;(refine wpList_append_own_at _ rfl _ _ 25 rfl w.heap.size 9 i0 (.string .empty) 1 16 Tryz.underlying25 hi hz0 hz1 hz2 rfl (by decide) _ _ _ rfl (A.alloc _) ⟨wr.heap.size,0,none⟩ 1 1 [.string a] rfl rfl (cell_one_new _ _ _) c2 c3 c4 c5 ?_;intro v3 w3 m I _ hat3)))
      have Y:w3.ownsRow w.heap.size 9 1 v3 (F++[a]).length ((F++[a]).map Value.string):=(by simpa using m);go_roundw;case measure=>simp[intOf];omega
      case rel =>
      refine⟨k+1,F++[a],by omega,X.out,aI,Y,HB.out.grown I c5 (fun k t=>(HO.out.lt k t).1),?_,?_,by simp⟩
      ·refine HV.out.grown I ?_;rcases D.out with h|h
       ·exact Or.inl h
       ·refine Or.inr fun he=>?_
        obtain⟨g2,M,_⟩:=Zat HV.out (List.ne_nil_of_length_pos (by omega));rw[M]at he;exact h g2 he.symm M
      ·refine Or.inr fun O M r=>?_
       obtain⟨g2,h3,h4⟩:=Zat HV.out (List.ne_nil_of_length_pos (by omega));rw[h3]at r;injection r with r
       subst r;rcases hat3 with h|h
       ·rcases D.out with h5|h5
        ·rw[h5]at U;simp at U
        ·exact h5 _ (h.symm.trans M) h3
       ·rw[h]at M;injection M with M;omega
    ·have Z:Hid (F=Zab C B):=by
      have:=HA.out;rw[Xg (by omega)]at this;exact this
     cases Z.out;go_wp2_with fail;go_roundw;case rel=>exact⟨i+1,_,hrs,f,A,G,by omega,by simp⟩
     case measure=>simp[intOf];omega
  ·have aK:Hid (C=q):=by
    have:=HR.out;rwa [Qa1 (List.getElem?_eq_none (by omega))]at this
   have HO:=Xh A;have HBw:=Xh G;clear A HR G;go_wp2_with fail;go_ret;exact⟨⟨_,rfl,by rw[<-aK.out];exact HO.out⟩,HBw⟩
set_option maxRecDepth 512
def fb(cs:List Qb)(i:Nat)(n:Str):Bool:=((Qc cs n).getD zg).face != decide (0<i)
def Q7(cs:List Qb):Nat->List Str->Bool
 |_,[]=>false
 |i,a::r=>fb cs i a||Q7 cs (i+1) r
theorem ZcD(cs:List Qb)(l:List Str)(k:Nat)(x:Str)(h:l[k]? = some x):Q7 cs k (l.drop k)=(fb cs k x||Q7 cs (k+1) (l.drop (k+1))):=by
 obtain⟨A,rfl⟩:=List.getElem?_eq_some_iff.1 h;rw[List.drop_eq_getElem_cons A];rfl
def Qa9(cs:List Qb)(c:Qb):Nat :=
 if c.super.size=0 then 1
 else if (c.super::c.faces).any (fun n=>!(Qc cs n).isSome) then 3
 else if Q7 cs 0 (c.super::c.faces) then 7
 else if c.face&&decide (c.super≠qg) then 7 else 0
theorem qbO{cs:List Qb}:∀(r:List Str) (i:Nat),0<i->(∀a∈r,(Qc cs a).isSome=true)->(Q7 cs i r=false↔Zh (fun n=>Zu cs n true) r=0)/\(Q7 cs i r=true->Zh (fun n=>Zu cs n true) r=7)
 |[],i,_,_=>⟨⟨fun _=>rfl,fun _=>rfl⟩,fun h=>by cases h⟩
 |a::r,i,I,E=>by
  obtain⟨A,B⟩:=qbO r (i+1) (by omega) (fun b H=>E b (by simp[H]));have C:=E a (by simp);rw[Option.isSome_iff_exists]at C;obtain⟨c,D⟩:=C;have F:fb cs i a=!c.face:=by unfold fb;rw[D,Xj I,Option.getD_some];generalize c.face=b;cases b<;>rfl
  have G:Zu cs a true=if c.face=true then 0 else 7:=by unfold Zu;rw[D]
  rw[Q7,Zh,F,G];cases J:c.face with
  |true=>simpa using⟨A,B⟩
  |false=>simp
theorem qcD(cs:List Qb)(c:Qb):Qa9 cs c=Qv cs c:=by
 unfold Qa9 Qv;by_cases B:c.super.size=0
 ·rw[if_pos B,if_pos B]
 ·rw[if_neg B,if_neg B];cases hs:(Qc cs c.super).isSome with
  |false=>rw[List.any_cons,hs];rfl
  |true =>
   rw[List.any_cons,hs];simp only[Bool.not_true,Bool.false_or,Bool.false_eq_true,if_false];cases A:c.faces.any (fun n=>!(Qc cs n).isSome) with
   |true=>simp
   |false =>
    simp only[Bool.false_eq_true,if_false];have E:∀a∈c.faces,(Qc cs a).isSome=true:=fun a M=>by
     rw[List.any_eq_false]at A;have:=A a M;cases H:(Qc cs a).isSome with
     |true=>rfl
     |false=>rw[H]at this;exact absurd rfl this
    obtain⟨J,L⟩:=qbO (cs:=cs) c.faces 1 (by omega) E;rw[Option.isSome_iff_exists]at hs;obtain⟨d,D⟩:=hs;have F:Q7 cs 0 (c.super::c.faces)=(d.face||Q7 cs 1 c.faces):=by
     rw[Q7];unfold fb;rw[D,Option.getD_some];generalize d.face=b;cases b<;>rfl
    have G:Zu cs c.super false=if d.face=false then 0 else 7:=(by unfold Zu;rw[D]);rw[F,G];cases I:d.face with
    |true=>simp
    |false =>
     cases C:Q7 cs 1 c.faces with
     |true=>rw[L C];simp
     |false=>rw[J.1 C];simp
set_option maxRecDepth 100000
theorem Qci(l:List Qb)(lv:Value)(c:Qb)(fv dv mv:Value)(w:World)(m:qj w lv l)(hf:Qh w fv c.faces)(hfl:c.faces.length<=1048576):
 Calls Tryz.prog 37 #[lv,Qz c fv dv mv] w fun e w'=>e=.returned (.int .i64 (Qv (Za l) c))/\Below w.heap.size w w':=by
 rw[<-qcD];have o:Hid (∀wx n,Below w.heap.size w wx->_):=fun wx n hb=>QA l lv n wx (m.mono hb)
 unfold zJ at o;have HFm:Hid (∀wx,Below w.heap.size w wx->Qh wx fv c.faces):=fun wx hb=>hf.mono hb
 obtain⟨pl,cap,rfl,_⟩:=m.open;obtain⟨pf,kf,rfl,_⟩:=hf.open;have p:=Xh (Za4 w c (.slice pf c.faces.length kf) dv mv 36);have L:Hid (Qa9 (Za l) c=if c.super.size=0 then 1 else if (c.super::c.faces).any (fun n=>!(Qc (Za l) n).isSome) then 3
  else if Q7 (Za l) 0 (c.super::c.faces) then 7 else if c.face&&decide (c.super≠qg) then 7 else 0):=rfl
 clear m hf;generalize Qa9 (Za l) c=res at *;generalize Za l=cs at *;obtain⟨S,A,B,M,fields,methods⟩:=c;unfold Qz;dsimp only at *;have ze:A.toList.isEmpty=decide (A.size=0):=ZD A;have hch:1+B.length<=maxLen:=Xf (show 1+B.length<=1048577 by omega) (by decide);have hci:(1+B.length)*16<=140737488355328:=by omega
 have HF3:=Xh hch;have HF4:=Xh hci;clear hch hci;by_cases h0:A.size=0
 ·rw[Xj h0]at ze;have D:Hid (res=1):=by unfold Hid;rw[L.out,if_pos h0]
  clear L h0;go_enter Tryz.func37,Tryz.ntmps37;go_wp2_with fail;go_ret;exact⟨by rw[D.out];rfl,p.out.below⟩
 ·rw[Xi h0]at ze;rw[if_neg h0]at L;clear h0;go_enter Tryz.func37,Tryz.ntmps37;go_upto_region 3 with fail;have G:=p.out;generalize w.alloc (.cells #[.string S,.string A,.slice pf B.length kf,.bool M,dv,mv] 36)=i at *;have hfm:=HFm.out i G.below;have O:=ZZ i i.heap.size (.string A) Xl;have P:Below i.heap.size i (i.alloc (.cells #[.string A] 9)):=Xb.alloc Xl _;have h5:=hfm.mono P;obtain⟨q0,q1,q2,q3,q4,q5⟩:=QM G;have hlt:=G.size;go_upto_region 4 with(at_builtin;(refine Qg rfl _ _ rfl i.heap.size _ _ _ rfl O _ B rfl h5 HF3.out HF4.out P.size ?_);intro v6 w6 a N _)
  replace G:=G.step (P.grown N P.size (fun k hk=>(O.lt k hk).1));have R:w6.ownsRow i.heap.size 9 1 v6 (A::B).length ((A::B).map Value.string):=by simpa[Nat.add_comm] using a
  have q:=Ze R;obtain⟨p6,k6,rfl,hk6,hk7,_⟩:=q.open;clear hlt O P h5 a R N q0 q1 q2 q3 q4 q5 hfm HFm p;have HAL:Hid (A::B=A::B):=rfl;generalize j:A::B=C at *;have HAll:=Xh j;clear j HAL;have hlen:C.length<=9223372036854775807:=Xf hk6 hk7;go_wp2_with fail;go_loopw [6] (fun x wr=>∃k:Nat,k<=C.length/\Hid (((C.drop k).any fun n=>!(Qc cs n).isSome)=C.any fun n=>!(Qc cs n).isSome)/\zB w wr [.string S,.string A,.slice pf B.length kf,.bool M,dv,mv]/\Qh wr (.slice p6 C.length k6) C/\x=.int .i64 k) (fun x _=>C.length-(intOf x).toNat)
  case atStart=>exact⟨0,by omega,rfl,G,q,rfl⟩
  case round =>
   clear G q;obtain⟨k,hk,F,G,b,rfl⟩:=hrel;by_cases r:k<C.length
   ·obtain⟨x,h⟩:∃x,C[k]? = some x:=⟨C[k],by simp[r]⟩;obtain⟨⟨b6,o6,rfl⟩,_⟩:=b.ptr (by omega);have u0:=b.cell h;have H:=qai (fun n=>!(Qc cs n).isSome) C k x h;rw[F.out]at H;have E:=o.out wr x G.below;generalize (Qc cs x).getD zg=d at *;obtain⟨n2,s2,f2,f,d2,m2⟩:=d;dsimp only at E;have HX:=Xh h;clear h;cases g:(Qc cs x).isSome with
    |true =>
     rw[g]at H E;rw[Bool.not_true,Bool.false_or]at H;have s:=Xh H.symm;have v:=Xh E;clear H E g L F;go_wp2_with (go_fit v.out;rintro e w7⟨T,U,V,X,Y,Z,rfl,_,_,_,I,_⟩)
     have BX7:=(G.step I).alloc (.cells #[.string n2,.string s2,.slice T f2.length U,.bool f,.slice V d2.length X,.slice Y m2.length Z] 36);have hS7:=(b.mono I).mono (Xb.alloc Xl (.cells #[.string n2,.string s2,.slice T f2.length U,.bool f,.slice V d2.length X,.slice Y m2.length Z] 36));go_roundw;case rel=>exact⟨k+1,by omega,s.out,BX7,hS7,by simp⟩
     case measure=>simp[intOf];omega
    |false =>
     rw[g]at H E;rw[Bool.not_false,Bool.true_or]at H;have D:Hid (res=3):=(by unfold Hid;rw[L.out,if_pos H]);have v:=Xh E;clear H E g L F;go_wp2_with (go_fit v.out;rintro e w7⟨T,U,V,X,Y,Z,rfl,_,_,_,I,_⟩)
     go_ret;exact⟨by rw[D.out];rfl,((G.step I).alloc _).below⟩
   ·have J:Hid ((C.any fun n=>!(Qc cs n).isSome)=false):=by
     rw[<-F.out,Xg (by omega)];rfl
    clear F;obtain rfl:k=C.length:=(by omega);rw[if_neg (by rw[J.out];decide)]at L;clear J;go_wp2_with fail;go_loopw [9] (fun x wr=>∃k:Nat,k<=C.length/\Hid (Q7 cs k (C.drop k)=Q7 cs 0 C)/\zB w wr [.string S,.string A,.slice pf B.length kf,.bool M,dv,mv]/\Qh wr (.slice p6 C.length k6) C/\x=.int .i64 k) (fun x _=>C.length-(intOf x).toNat)
    case atStart=>exact⟨0,by omega,rfl,G,b,rfl⟩
    case round =>
     clear G b;obtain⟨k,hk,F,G,b,rfl⟩:=hrel;by_cases r:k<C.length
     ·obtain⟨x,h⟩:∃x,C[k]? = some x:=⟨C[k],by simp[r]⟩;obtain⟨⟨b6,o6,rfl⟩,_⟩:=b.ptr (by omega);have u0:=b.cell h;have H:=ZcD cs C k x h;rw[F.out]at H;unfold fb at H;have E:=o.out wr x G.below;generalize (Qc cs x).isSome=is at *;generalize (Qc cs x).getD zg=d at *;obtain⟨n2,s2,f2,f,d2,m2⟩:=d;dsimp only at E H;have HX:=Xh h;have v:=Xh E;clear h E F;obtain⟨t0,ht0⟩:∃t,decide (0<k)=t:=⟨_,rfl⟩;rw[ht0]at H;rcases(show f=!t0\/f=t0 by cases f<;>cases t0<;>simp) with rfl|rfl
      ·rw[show((!t0) != t0)=true by cases t0<;>rfl,Bool.true_or]at H;have D:Hid (res=7):=(by unfold Hid;rw[L.out,if_pos H]);clear H L;cases t0;all_goals
        have y:=ht0;simp only[decide_eq_true_eq,decide_eq_false_iff_not]at y;have hc:=v.out;simp only[Bool.not_true,Bool.not_false]at hc;have HC2:=Xh hc;clear hc v;go_wp2_with (go_fit HC2.out;rintro e w7⟨T,U,V,X,Y,Z,rfl,_,_,_,I,_⟩)
        go_ret;exact⟨by rw[D.out];rfl,((G.step I).alloc _).below⟩
      ·rw[show(f != f)=false by cases f<;>rfl,Bool.false_or]at H;have s:=Xh H.symm;clear H L;cases f;all_goals
        have y:=ht0;simp only[decide_eq_true_eq,decide_eq_false_iff_not]at y;go_wp2_with (go_fit v.out;rintro e w7⟨T,U,V,X,Y,Z,rfl,_,_,_,I,_⟩)
        go_roundw;case rel=>exact⟨k+1,by omega,s.out,(G.step I).alloc _,(b.mono I).mono (Xb.alloc Xl _),by simp⟩
        case measure=>simp[intOf];omega
     ·have J:Hid (Q7 cs 0 C=false):=by
       rw[<-F.out,Xg (by omega)];rfl
      clear F;obtain rfl:k=C.length:=(by omega);rw[if_neg (by rw[J.out];decide)]at L;obtain⟨q0,q1,q2,q3,q4,q5⟩:=QM G;have HBw:=Xh G.below;obtain⟨ko,hko⟩:∃t,decide (A≠qg)=t:=⟨_,rfl⟩;have hso:(!A.toList==[79,98,106,101,99,116])=ko:=by
       have h1:=q8 A qg;rw[show qg.toList=[79,98,106,101,99,116] by rw[ByteArray.toList_eq];rfl]at h1;rw[h1,<-hko];simp
      rw[hko]at L;clear J hko G b;cases M<;>cases ko
      all_goals
       have z:=L.out;simp only[Bool.and_true,Bool.and_false,if_true,Bool.false_eq_true,if_false]at z;have D:=Xh z;clear L z;go_wp2_with fail;go_ret;exact⟨by rw[D.out];rfl,HBw⟩
set_option maxRecDepth 512
end Go.Proofs.YtlmfmioljeppfaaGreatDoor
