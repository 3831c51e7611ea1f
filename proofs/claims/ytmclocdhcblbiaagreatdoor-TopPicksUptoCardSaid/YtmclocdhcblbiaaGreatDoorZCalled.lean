/- Lemmas; conditions: as each states. -/
import Derived.Test.YtmclocdhcblbiaaGreatDoorZCall
import Derived.Laws.OwnMore
import Derived.BigRegion
set_option maxHeartbeats 4000000
namespace Go.Proofs.YtmclocdhcblbiaaGreatDoor
open Go.RowKit Go.Shelf Go.Lib Tryz
theorem Qc5{α:Type}(R:α->List Value->Prop)(f:α->Bool)(g:Nat)(T:Array Value)(d:∀args w,(callFunc g args).run prog w=.ok (.enter g args) w)(l:List α)(v:Value)(w:World)(h:Qe w 3 R v l)(U:∀W x J L M,x∈l->R x [J,L,M]->Below w.heap.size w W->Calls prog g (#[.agg #[J,L,M]]++T) W fun e w'=>e=.returned (.bool (f x))/\Below W.heap.size W w'):
 Calls prog 91 #[v,.func (.func g) #[] T] w fun e w'=>e=.returned (.int .i64 (Qbl f l))/\Below w.heap.size w w':=by
 obtain⟨p,cap,rfl,a,c,E⟩:=h.open;have N:=Xh E;clear E h;have O:=Xh U;clear U;have V:l.length<=9223372036854775807:=Xf a c;go_enter func91,ntmps91;go_wp2_with fail;go_loopw [5,8] (fun _ x wr=>∃k,k<=l.length/\Hid (∀j y,j<k->l[j]? = some y->f y=false)/\Below w.heap.size w wr/\x=.int .i64 k) (fun _ x _=>l.length-(intOf x).toNat)
 case atStart=>exact⟨0,by omega,fun j y h=>by omega,Xb,rfl⟩
 case round =>
  obtain⟨k,i,B,F,rfl⟩:=hrel;by_cases P:k<l.length
  ·obtain⟨x,I⟩:∃x,l[k]? = some x:=⟨l[k],by simp[P]⟩;obtain⟨b,o,vs,rfl,Y,G,H⟩:=N.out k x I;have H:=H.mono F (by match vs,G with|_::_,_=>exact H.lt);match vs,G with
   |[J,L,M],_ =>
   have A:=O.out wr x J L M (Xe I) Y F;have X:=Xh I;clear I Y;obtain⟨m,n,q,_⟩:=H;cases D:f x with
   |true =>
    rw[D]at A;have S:=Xh D;clear D O N;go_wp2_with (go_at_fn g;refine A.mono ?_;rintro e w'⟨rfl,C⟩)
    go_ret;exact⟨by rw[zbP X.out S.out B.out];rfl,Qa F Xl C⟩
   |false =>
    rw[D]at A;have S:=Xh D;clear D O N;go_wp2_with (go_at_fn g;refine A.mono ?_;rintro e w'⟨rfl,C⟩)
    refine⟨⟨k+1,by omega,fun j y r Z=>?_,Qa F Xl C,by simp⟩,by simp[intOf];omega⟩;by_cases e:j=k
    ·subst e;have:=X.out;rw[Z]at this;injection this with this;rw[this];exact S.out
    ·exact B.out j y (by omega) Z
  ·obtain rfl:k=l.length:=(by omega);go_wp2_with fail;go_ret;exact⟨by rw[Qbv B.out];rfl,F⟩
def zbw(s:zZ)(vs:List Value):Prop:=vs=[.string s.name,.string s.type,.string s.cls]
theorem ZbP(m:qc):∀l:List zZ,l.findIdx? (qaT m)=zau m l
 |[]=>rfl
 |s::r=>by
  rw[List.findIdx?_cons,ZbP m r];rfl
theorem QdJ(s:zZ)(m:qc)(b:Nat)(w:World)(G:w.cell? ⟨b,0,none⟩=some (.string m.name))(H:w.cell? ⟨b,1,none⟩=some (.string m.type))(I:b<w.heap.size):
 Calls prog 92 #[.agg #[.string s.name,.string s.type,.string s.cls],.pointer (some ⟨b,0,none⟩)] w fun e w'=>e=.returned (.bool (qaT m s))/\Below w.heap.size w w':=by
 have C:=Zay s.name m.name;have D:=Zay s.type m.type;unfold qaT;obtain⟨E,A⟩:∃q,decide (s.name=m.name)=q:=⟨_,rfl⟩;obtain⟨F,B⟩:∃q,decide (s.type=m.type)=q:=⟨_,rfl⟩;rw[A]at C ⊢;rw[B]at D ⊢;clear A B;cases E<;>cases F
 all_goals
  go_enter func92,ntmps92;go_wp2
  go_ret;exact⟨rfl,Xb.alloc Xl _⟩
def zb0(m:qc)(l:List zZ):Int:=match zau m l with|some i=>i|none=>-1
theorem zc6(l:List zZ)(v:Value)(m:qc)(b:Nat)(w:World)(D:Qe w 3 zbw v l)(E:w.cell? ⟨b,0,none⟩=some (.string m.name))(F:w.cell? ⟨b,1,none⟩=some (.string m.type))(A:b<w.heap.size):
 Calls prog 91 #[v,.func (.func 92) #[] #[.pointer (some ⟨b,0,none⟩)]] w fun e w'=>e=.returned (.int .i64 (zb0 m l))/\Below w.heap.size w w':=by
 have G:Qbl (qaT m) l=zb0 m l:=by unfold Qbl zb0;rw[ZbP];cases zau m l<;>rfl
 rw[<-G];refine Qc5 zbw (qaT m) 92 _ (enters_of func92 (by kernel_rfl) rfl) l v w D ?_;intro W x H I J L B C;unfold zbw at B;simp only[List.cons.injEq,and_true]at B;obtain⟨rfl,rfl,rfl⟩:=B;exact QdJ x m b W ((C.cell (p:=⟨b,0,none⟩) A).trans E) ((C.cell (p:=⟨b,1,none⟩) A).trans F) (Nat.lt_of_lt_of_le A C.size)
theorem qdk{α:Type}{f:α->List Value}(A:∀x,(f x).length=3){x:α}{a b c:Value}(C:f x=[a,b,c]):∀{l:List α} {k:Nat},k<l.length ->
 (((l.flatMap f).set (k*3) a).set (k*3+1) b).set (k*3+2) c=(l.set k x).flatMap f
 |[],_,h=>absurd h (Nat.not_lt_zero _)
 |y::r,0,_=>by
  have B:=A y;match hq:f y,B with
  |[p,q,s],_=>simp[List.flatMap_cons,hq,C]
 |y::r,k+1,h=>by
  have B:=A y;have D:=qdk A C (l:=r) (k:=k) (by simpa using h);match hq:f y,B with
  |[p,q,s],_ =>
   rw[Xd,List.flatMap_cons,List.flatMap_cons,hq,<-D,show(k+1)*3=k*3+3 by omega,show k*3+3+1=k*3+1+3 by omega,show k*3+3+2=k*3+2+3 by omega];rfl
def za2(s:zZ):List Value:=Zcm s.name s.type s.cls
theorem qbP(s:zZ):(za2 s).length=3:=rfl
theorem Qe5{w:World}{base:Nat}{t:TypeId}{g n cap:Nat}{l:List zZ}(h:w.ownsRow base t 3 (.slice (some ⟨g,0,none⟩) n cap) n (l.flatMap za2)){k:Nat}(A:k<l.length)(s:zZ):
 (((w.setCell ⟨g,k*3,none⟩ (.string s.name)).setCell ⟨g,k*3+1,none⟩ (.string s.type)).setCell ⟨g,k*3+2,none⟩ (.string s.cls)).ownsRow base t 3 (.slice (some ⟨g,0,none⟩) n cap) n ((l.set k s).flatMap za2):=by
 rw[<-qdk qbP (x:=s) rfl A];exact((((h.stored (k*3) (.string s.name)).1.stored (k*3+1) (.string s.type)).1).stored (k*3+2) (.string s.cls)).1
theorem Qdk{w:World}{base:Nat}{v:Value}{l:List zZ}(h:w.ownsRow base 116 3 v l.length (l.flatMap za2)):Qe w 3 zbw v l:=by
 obtain⟨p,c,rfl⟩:=Ze h;by_cases B:l=[]
 ·subst B;rcases h with⟨_,⟨A,_⟩|⟨g,cap,E,F,N,O,J,L,P,R⟩⟩
  ·exact Or.inl ⟨A,rfl⟩
  ·exact Or.inr ⟨⟨g,0,none⟩,cap,F,by simp,by omega,fun i x D=>by simp at D⟩
 ·have V:l[0]? = some (l.head B):=by cases l with
   |nil=>exact absurd rfl B
   |cons _ _=>rfl
  have M:=h;rcases h with⟨_,⟨A,S⟩|⟨g,cap,E,F,N,O,J,L,P,R⟩⟩
  ·exact absurd (List.length_eq_zero_iff.1 S) B
  ·injection F with T Y U
   subst T U;refine Or.inr ⟨⟨g,0,none⟩,c,rfl,J,L,fun i x D=>?_⟩;obtain⟨X,A,_,_,C⟩:=ZaY qbP M rfl D;injection A with A;injection A with A;subst A
   refine⟨[.string x.name,.string x.type,.string x.cls],rfl,rfl,?_⟩;have G:=C 0 (by omega);have H:=C 1 (by omega);have I:=C 2 (by omega);rw[<-Nat.zero_add (i*3)]at G H I;exact⟨rfl,G,H,I,trivial⟩
theorem zdl{l:List qa}(G:Qg l)(D:∀c∈l,Qf c=0){c:Str}(H:(Qb (Za l) c).isSome=true):(qaE (Za l) c).length<=4194304:=by
 have N:=QaO G H;have I:∀(a:Str) (C:List qc) (A:List zZ),(qI a A C).length<=A.length+C.length:=fun a C=>by
  induction C with
  |nil=>intro A;exact Xl
  |cons m r E =>
   intro A;rw[zc4];have J:=E (Z7 a A m);have L:(Z7 a A m).length<=A.length+1:=by
    unfold Z7;split
    ·omega
    ·exact qbm a m A
   simp only[List.length_cons];omega
 have M:∀(B:List Str) (A:List zZ),(ZaE (Za l) A B).length<=A.length+8*B.length:=fun B=>by
  induction B with
  |nil=>intro A;exact Xl
  |cons a r E =>
   intro A;have J:=E (qI a A (Qd (Za l) a).methods);have L:=I a (Qd (Za l) a).methods A;have O:=(zaP D a).2;show(ZaE (Za l) (qI a A (Qd (Za l) a).methods) r).length<=_
   simp only[List.length_cons];omega
 have F:=M (zm (Za l) c).reverse [];rw[List.length_reverse]at F;unfold qaE;simp only[List.length_nil]at F;omega
set_option maxRecDepth 100000
theorem zcI(w0 w:World)(B:Nat)(l:List qa)(hm:qh w0 w B l)(c:Str)(hk:(Qb (Za l) c).isSome=true):
 Calls prog 55 #[.map (some B),.string c] w (Zbn za2 116 w (qaE (Za l) c)):=by
 have hmf:∀fn first cap w,(Instr.makeFunc fn first cap).run prog w=.ok (.func fn first cap) w:=fun _ _ _ _=>rfl
 have HL:=Xh (qa7 w0 w B l hm.right hm.map c hk);have HKn:Hid (∀d∈(zm (Za l) c).reverse,(Qb (Za l) d).isSome=true):=fun d hd=>hm.right.line_known hk (List.mem_reverse.1 hd)
 have HLk:Hid (∀d:Str,(Qb (Za l) d).isSome=true->_):=fun d hd=>hm.map.look3 hm.right.nodup d (hm.map.names hd)
 have HB0:=Xh hm.map.below;have HCt:Hid (∀d,(Qd (Za l) d).methods.length<=8):=fun d=>(zaP hm.faults d).2
 have hl13:=QaO hm.right hk;have hcf:=ZcI;have hRes:Hid (qaE (Za l) c=ZaE (Za l) [] (zm (Za l) c).reverse):=rfl;have hlr:(zm (Za l) c).reverse.length=(zm (Za l) c).length:=List.length_reverse;clear hm hk;generalize qaE (Za l) c=res at *;go_enter func55,ntmps55;go_wp2_with (first
  |(go_fit HL.out;rintro e w3⟨⟨v3,rfl,hv3⟩,hB3⟩;obtain⟨pv,kv,rfl⟩:=Ze hv3;(have HRv:=Xh (qbn hv3 (by omega))))
  |(go_fit HRv.out;rintro e w4⟨rfl,hv4,hg4⟩))
 rw[<-hlr];have hBw:=hB3.grown hg4 hB3.size (fun g hg=>(hv3.lt g hg).1);have hs4:=Zk hv4;have hr13:(zm (Za l) c).reverse.length<=13:=by omega
 clear HL hv3 hg4 hB3 HRv hlr hv4 hl13;generalize (zm (Za l) c).reverse=R at *;obtain⟨pv',kv',he,h1,h2,hcc⟩:=hs4.open;injection he with he1 he2 he3
 subst he1 he3;clear he2 hs4;have HC:=Xh hcc;have hlen:R.length<=9223372036854775807:=Xf h1 h2;have HBw:=Xh hBw;clear hcc hBw;go_loopw [5,20] (fun v x wr=>∃(k:Nat) (G:List zZ),k<=R.length/\Hid (ZaE (Za l) G (R.drop k)=res)/\Hid (G.length<=8*k)/\wr.ownsRow w4.heap.size 116 3 v G.length (G.flatMap za2)/\Below w4.heap.size w4 wr/\x=.int .i64 k) (fun _ x _=>R.length-(intOf x).toNat)
 case atStart=>exact⟨0,[],by omega,hRes.symm,Nat.zero_le _,QbP _ _ _,Xb,rfl⟩
 case round =>
  obtain⟨k,G,hk,E,H,D,Z,rfl⟩:=hrel;obtain⟨va,vc,rfl⟩:=Ze D;by_cases hkl:k<R.length
  ·obtain⟨a,ha⟩:∃a,R[k]? = some a:=⟨R[k],by simp[hkl]⟩;have hka:=HKn.out a (Xe ha);obtain⟨b,o,vs,rfl,hR,_,Zd⟩:=HC.out k a ha;unfold qt at hR;subst hR;have c0:=(Zd.mono Z Zd.lt).1;rw[Nat.mul_one]at c0;have zd:=Zdj (Za l) G R k a ha;rw[E.out]at zd;obtain⟨p1,k1,p2,k2,p3,k3,_,_,hms,hlk⟩:=HLk.out a hka;have X:=(hlk wr (Qa HBw Xl Z)).2;have hc0:(Qb (Za l) a).getD qg=Qd (Za l) a:=rfl;rw[hc0]at X hms;have hct:=HCt.out a;have HX:=Xh ha;clear ha Zd hlk hc0 hka E;generalize Qd (Za l) a=d at *;obtain⟨n2,s2,f2,b2,d2,f⟩:=d;unfold Zu at X;dsimp only at X hms zd hct;obtain⟨pd',kd',he,g1,g2,hdd⟩:=hms.open;injection he with he1 he2 he3
   subst he1 he3;clear he2 hms;have HD:=Xh hdd;have hlen2:f.length<=9223372036854775807:=Xf g1 g2;clear hdd;have HS:=Xh zd;have HO:=Xh D;have HBr:=Xh Z;clear zd D Z;go_wp2_with fail;go_loopw [5,29] (fun v x wy=>∃(j:Nat) (F:List zZ),j<=f.length/\Hid (qI a F (f.drop j)=qI a G f)/\Hid (F.length<=8*k+j)/\wy.ownsRow w4.heap.size 116 3 v F.length (F.flatMap za2)/\Below w4.heap.size w4 wy/\x=.int .i64 j) (fun _ x _=>f.length-(intOf x).toNat)
   case atStart=>exact⟨0,G,by omega,rfl,H,HO,HBr,rfl⟩
   case round =>
    clear c0 X HO HBr H;obtain⟨j,F,hj,E,H,D,Z,rfl⟩:=hrel;obtain⟨va,vc,rfl⟩:=Ze D;by_cases hjl:j<f.length
    ·obtain⟨m,hx⟩:∃a,f[j]? = some a:=⟨f[j],by simp[hjl]⟩;obtain⟨bb,oo,vs,rfl,⟨cv,hv,rfl,q1,q2⟩,_,Zd⟩:=HD.out j m hx;obtain⟨u0,u1,u2,u3,u4,u5,u6,u7,_⟩:=Zd.mono (Qa HB0 Xl (Qa HBw Xl Z)) Zd.lt;have C:=Zc4 a F f j m hx;rw[E.out]at C;have HXm:=Xh hx;obtain⟨pc,kc,rfl,_⟩:=q1.open;obtain⟨ph,kh,rfl,_⟩:=q2.open;clear hx Zd q1 q2 E;obtain⟨J,L,mst,O,mpr,P,S,T⟩:=m;dsimp only at u0 u1 u2 u3 u4 u5 u6 u7;have I:=D.alloc (.cells #[.string J,.string L,.bool mst,.bool O,.bool mpr,.int .i64 P,.slice pc S.length kc,.slice ph T.length kh] 39);have n:=Z.alloc Z.size (.cells #[.string J,.string L,.bool mst,.bool O,.bool mpr,.int .i64 P,.slice pc S.length kc,.slice ph T.length kh] 39);by_cases r:(mst||mpr)=true
     ·have M:Hid (qI a F (f.drop (j+1))=qI a G f):=by
       unfold Z7 at C;rw[if_pos r]at C;exact C.symm
      have N:Hid (F.length<=8*k+(j+1)):=(by unfold Hid;have:=H.out;omega);have HO5:=Xh I;have HB5:=Xh n;clear C I n D Z;cases mst<;>cases mpr<;>first|(exact absurd r (by decide))|skip
      all_goals
       clear r;go_wp2_with fail;go_roundw;case rel=>exact⟨j+1,F,by omega,M,N,HO5,HB5,by simp⟩
       case measure=>simp[intOf];omega
     ·rw[Bool.not_eq_true,Bool.or_eq_false_iff]at r;obtain⟨rfl,rfl⟩:=r;have M:qI a (qV a F ⟨J,L,false,O,false,P,S,T⟩) (f.drop (j+1))=qI a G f:=C.symm;have U:=I.alloc (.cells #[.string J,.string L,.string a] 116);have hB6:=n.alloc n.size (.cells #[.string J,.string L,.string a] 116);have hcm:∀q u,#[Value.string J,.string L,.bool false,.bool O,.bool false,.int .i64 P,.slice pc S.length kc,.slice ph T.length kh][q]? = some u->((wr.alloc (.cells #[.string J,.string L,.bool false,.bool O,.bool false,.int .i64 P,.slice pc S.length kc,.slice ph T.length kh] 39)).alloc (.cells #[.string J,.string L,.string a] 116)).cell? ⟨wr.heap.size,q,none⟩=some u:=fun q u hq=>by simpa using hq
      have HF:=Xh (zc6 F _ ⟨J,L,false,O,false,P,S,T⟩ wr.heap.size _ (Qdk U) (hcm 0 _ rfl) (hcm 1 _ rfl) (by simp;omega));generalize hsa:zb0 ⟨J,L,false,O,false,P,S,T⟩ F=sa at *;clear C hcm;go_upto_region 13 with(go_fit HF.out;rintro e w7⟨rfl,h⟩)
      have e0:w7.cell? ⟨wr.heap.size+1,0,none⟩=some (.string J):=(h.cell (p:=⟨wr.heap.size+1,0,none⟩) (by simp)).trans (by simp);have e1:w7.cell? ⟨wr.heap.size+1,1,none⟩=some (.string L):=(h.cell (p:=⟨wr.heap.size+1,1,none⟩) (by simp)).trans (by simp);have e2:w7.cell? ⟨wr.heap.size+1,2,none⟩=some (.string a):=(h.cell (p:=⟨wr.heap.size+1,2,none⟩) (by simp)).trans (by simp);have A:=zaU U h;have Y:=Qa hB6 Xl h;have hbs:=Y.size;have hbd:F.length<=8388608:=(by have:=H.out;omega);have hol3:=H.out;clear I U n hB6 h D Z HF H u0 u1 u2 u3 u4 u5 u6 u7;cases hq:zau ⟨J,L,false,O,false,P,S,T⟩ F with
      |none =>
       have hsn:sa = -1:=(by rw[<-hsa];unfold zb0;rw[hq]);rw[zbO hq]at M;have HN:=Xh M;have HB7:=Xh Y;subst hsn;clear hq hsa M Y;go_wp2_with (at_builtin;(refine ZaU underlying113 Zc6 rfl _ _ rfl w4.heap.size _ _ _ rfl A _ _ _ _ rfl rfl hbd hbs ?_);intro v3 w8 z V)
       have s:w8.ownsRow w4.heap.size 116 3 v3 (F++[(⟨J,L,a⟩:zZ)]).length ((F++[(⟨J,L,a⟩:zZ)]).flatMap za2):=by
        rw[List.length_append,List.flatMap_append];simpa[za2] using z
       have t:=(HB7.out.alloc HB7.out.size (.cells (Zcm J L a).toArray 116)).grown V (Xf HB7.out.size (by simp)) (fun g hg=>(A.lt g hg).1);have N:Hid ((F++[(⟨J,L,a⟩:zZ)]).length<=8*k+(j+1)):=(by unfold Hid;simp;omega);have y:=Xh s;have HB8:=Xh t;clear z V A s t HB7;go_roundw;case rel=>exact⟨j+1,_,by omega,HN,N,y,HB8,by simp⟩
       case measure=>simp[intOf];omega
      |some i =>
       obtain⟨hi,hput⟩:=ZbO (c:=a) hq;have hsn:sa=(i:Int):=(by rw[<-hsa];unfold zb0;rw[hq]);rw[hput]at M;have HN:=Xh M;subst hsn;clear hq hsa M hput;obtain⟨g,rfl,hg1,hg2,V⟩:=ZaY qbP A rfl (Xn hi);have hst:=Qe5 A hi ⟨J,L,a⟩;have hneg:((i:Int)<0)=False:=(by simp);have hi2:(i:Int)<(F.length:Int):=(by omega);have t:=((Y.setCell (p:=⟨g,i*3,none⟩) hg1 (.string J)).setCell (p:=⟨g,i*3+1,none⟩) hg1 (.string L)).setCell (p:=⟨g,i*3+2,none⟩) hg1 (.string a);have s1:=(A.stored (i*3) (.string J)).1;have s2:=(s1.stored (i*3+1) (.string L)).1;have d0:w7.cell? ⟨g,i*3,none⟩=some (.string F[i].name):=V 0 (by omega);have d1:w7.cell? ⟨g,i*3+1,none⟩=some (.string F[i].type):=V 1 (by omega);have d2':w7.cell? ⟨g,i*3+2,none⟩=some (.string F[i].cls):=V 2 (by omega);have d1a:=(s1.cellAt (i*3+1) (by omega)).trans ((List.getElem?_set_ne (by omega)).trans ((A.cellAt (i*3+1) (by omega)).symm.trans d1));have d2a:=(s2.cellAt (i*3+2) (by omega)).trans ((List.getElem?_set_ne (by omega)).trans ((List.getElem?_set_ne (by omega)).trans ((A.cellAt (i*3+2) (by omega)).symm.trans d2')));have z0:=A.frozenAt (i*3);have z1:=s1.frozenAt (i*3+1);have z2:=s2.frozenAt (i*3+2);clear s1 s2 d1 d2' V;have HO8:=Xh hst;have HB8:=Xh t;clear hst t A;clear hneg;go_wp2_with fail;go_roundw;case rel=>exact⟨j+1,_,by omega,HN,by unfold Hid;simp;omega,by rw[List.length_set];exact HO8.out,HB8,by simp⟩
       case measure=>simp[intOf];omega
    ·obtain rfl:j=f.length:=(by omega);have C:Hid (ZaE (Za l) F (R.drop (k+1))=res):=by
      have:=E.out;rw[Xg Xl]at this;rw[show qI a F []=F from rfl]at this;unfold Hid;rw[this];exact HS.out.symm
     have N:Hid (F.length<=8*(k+1)):=(by unfold Hid;have:=H.out;omega);have y:=Xh D;have HB6:=Xh Z;clear E H D Z;go_wp2_with fail;go_roundw;case rel=>exact⟨k+1,F,by omega,C,N,y,HB6,by simp⟩
     case measure=>simp[intOf];omega
  ·obtain rfl:k=R.length:=(by omega);have hfin:Hid (res=G):=(by unfold Hid;rw[<-E.out,Xg Xl];rfl);have y:=Xh D;have HB6:=Xh Z;clear E H D Z;go_wp2_with fail;go_ret;exact⟨⟨_,rfl,by rw[hfin.out];exact Qc6 y.out HBw.out.size⟩,Qa HBw Xl HB6⟩
structure Zdl (w0:World) (v:Value) (o:Option (Str×qc)) (cn:Str) (is b1 b2 b3:Bool):Prop where
 name:(o.map (·.1)).getD ⟨#[]⟩=cn
 some:o.isSome=is
 call:QB o=(is&&!b1&&!b3&&!b2)
 meth:Q1 w0 ((o.map (·.2)).getD QH) v
theorem zbQ(G:World)(o:Option (Str×qc))(v:Value)(h:Q1 G ((o.map (·.2)).getD QH) v):∃J L M D E F N O pc,∃P A:Nat,∃B,∃R C:Nat,
 za7 v o=.tuple #[.string J,.agg #[.string L,.string M,.bool D,.bool E,.bool F,.int .i64 N,.slice pc P A,.slice B R C],.bool O]/\Zdl G (.agg #[.string L,.string M,.bool D,.bool E,.bool F,.int .i64 N,.slice pc P A,.slice B R C]) o J O D E F:=by
 obtain⟨pc,A,B,C,rfl,H,I⟩:=h;cases o with
 |none=>exact⟨_,_,_,_,_,_,_,_,_,_,_,_,_,_,rfl,⟨rfl,rfl,rfl,pc,A,B,C,rfl,H,I⟩⟩
 |some x=>exact⟨_,_,_,_,_,_,_,_,_,_,_,_,_,_,rfl,⟨rfl,rfl,by obtain⟨c,m⟩:=x;simp[QB],pc,A,B,C,rfl,H,I⟩⟩
def zbH(w0 w:World)(o:Option (Str×qc))(e:Ending)(w':World):Prop:=(∃cn mn mt b1 b2 b3 lo pc,∃nc kc:Nat,∃ph,∃nh kh:Nat,
 e=.returned (.tuple #[.string cn,.agg #[.string mn,.string mt,.bool b1,.bool b2,.bool b3,.int .i64 lo,.slice pc nc kc,.slice ph nh kh],.bool (QB o)])/\(o.map (·.1)).getD ⟨#[]⟩=cn/\Q1 w0 ((o.map (·.2)).getD QH) (.agg #[.string mn,.string mt,.bool b1,.bool b2,.bool b3,.int .i64 lo,.slice pc nc kc,.slice ph nh kh]))/\Below w.heap.size w w'
theorem Qu{N w w':World}{o:Option (Str×qc)}{A B C:Str}{D E F r:Bool}{G:Int}{pc H:Option Addr}{I J L M:Nat}(O:QB o=r)(P:(o.map (·.1)).getD ⟨#[]⟩=A)(R:Q1 N ((o.map (·.2)).getD QH) (.agg #[.string B,.string C,.bool D,.bool E,.bool F,.int .i64 G,.slice pc I J,.slice H L M]))(S:Below w.heap.size w w'):
 zbH N w o (.returned (.tuple #[.string A,.agg #[.string B,.string C,.bool D,.bool E,.bool F,.int .i64 G,.slice pc I J,.slice H L M],.bool r])) w' :=
 ⟨⟨A,B,C,D,E,F,G,pc,I,J,H,L,M,by rw[O],P,R⟩,S⟩
theorem zal{w:World}{base b size n:Nat}{t:TypeId}{v:Value}{xs:List Value}(h:w.ownsRow base t size v n xs)(G:b<base)(j:Nat)(u:Value):(w.setCell ⟨b,j,none⟩ u).ownsRow base t size v n xs:=by
 refine⟨h.1,?_⟩;rcases h.2 with C|⟨g,cap,B,D,E,F,A⟩
 ·exact .inl C
 ·exact .inr ⟨g,cap,B,D,E,by rw[Xk w ⟨b,j,none⟩ g u (by show g≠b;omega)];exact F,A⟩
theorem qdl{w:World}{base b size n:Nat}{t:TypeId}{v:Value}{xs:List Value}(h:w.ownsRow base t size v n xs)(A:b<base)(v0 B C D E F G H:Value):
 ((((((((w.setCell ⟨b,0,none⟩ v0).setCell ⟨b,1,none⟩ B).setCell ⟨b,2,none⟩ C).setCell ⟨b,3,none⟩ D).setCell ⟨b,4,none⟩ E).setCell ⟨b,5,none⟩ F).setCell ⟨b,6,none⟩ G).setCell ⟨b,7,none⟩ H).ownsRow base t size v n xs :=
 (((((((zal h A 0 v0 |> (zal · A 1 B)) |> (zal · A 2 C)) |> (zal · A 3 D)) |> (zal · A 4 E)) |> (zal · A 5 F)) |> (zal · A 6 G)) |> (zal · A 7 H))
theorem ZbH(w0 w:World)(B:Nat)(l:List qa)(hm:qh w0 w B l)(c n t:Str)(hk:(Qb (Za l) c).isSome=true):
 Calls prog 33 #[.map (some B),.string c,.string n,.string t] w (zbH w0 w (Qs (Za l) c n t)):=by
 have HFO:Hid (∀wx d,Below w.heap.size w wx->(Qb (Za l) d).isSome=true->_):=fun wx d hb hd=>qbe w0 wx B l (hm.step hb) d n t hd
 have HS:Hid (∀wx,Below w.heap.size w wx->_):=fun wx hb=>zcI w0 wx B l (hm.step hb) c hk
 have hsm:=zdl hm.right hm.faults hk;have HKn:Hid (∀s∈qaE (Za l) c,(Qb (Za l) s.cls).isSome=true):=fun s hs=>hm.right.line_known hk (QbG _ _ s hs)
 have HK:=Xh hk;have hblk:Blk (w.alloc (.cells #[.string ⟨#[]⟩,.string ⟨#[]⟩,.bool false,.bool false,.bool false,.int .i64 0,.slice none 0 0,.slice none 0 0] 39)) w.heap.size 39 Qw:=Blk.new w _ Qw;have hB1:Below w.heap.size w (w.alloc (.cells #[.string ⟨#[]⟩,.string ⟨#[]⟩,.bool false,.bool false,.bool false,.int .i64 0,.slice none 0 0,.slice none 0 0] 39)):=Xb.alloc Xl _;have HR:Hid (Qs (Za l) c n t=zV (Za l) n t (qB (Za l) c n t) (qaE (Za l) c)):=rfl;unfold Qbm at HFO;unfold Zbn at HS;clear hm hk;generalize Qs (Za l) c n t=aL at *;generalize hS0:qaE (Za l) c=S at *;generalize hO0:qB (Za l) c n t=o0 at *;have HF0:Hid (∀wx,Below w.heap.size w wx->Calls prog 43 #[.map (some B),.string c,.string n,.string t] wx fun e w'=>(∃v,e=.returned (za7 v o0)/\Q1 w0 ((o0.map (·.2)).getD QH) v)/\Below wx.heap.size wx w'):=fun wx hb=>by
  have h:=HFO.out wx c hb HK.out;rw[hO0]at h;exact h
 clear hO0 hS0 HK;go_enter func33,ntmps33;go_upto_region 2 with(go_fit (HF0.out _ hB1);rintro e w3⟨⟨v3,rfl,hv3⟩,hB3⟩;obtain⟨O,F,G,U,V,X,H,is,pc,I,J,L,M,N,Y,hSh⟩:=zbQ _ _ _ hv3;rw[Y];clear Y hv3)
 have R:Blk (w3.alloc (.cells #[.string F,.string G,.bool U,.bool V,.bool X,.int .i64 H,.slice pc I J,.slice L M N] 39)) w3.heap.size 39 [.string F,.string G,.bool U,.bool V,.bool X,.int .i64 H,.slice pc I J,.slice L M N]:=Blk.new w3 _ _;have hz4:=(hblk.step hB3).step ((Below.refl w3.heap.size w3).alloc Xl (.cells #[.string F,.string G,.bool U,.bool V,.bool X,.int .i64 H,.slice pc I J,.slice L M N] 39));have aM:=Qa hB1 Xl hB3;have hB4:=aM.alloc aM.size (.cells #[.string F,.string G,.bool U,.bool V,.bool X,.int .i64 H,.slice pc I J,.slice L M N] 39);have hbm:w3.heap.size<(w3.alloc (.cells #[.string F,.string G,.bool U,.bool V,.bool X,.int .i64 H,.slice pc I J,.slice L M N] 39)).heap.size:=by simp
 have hwm:w.heap.size<w3.heap.size:=by have:=hB3.size;simp at this;omega
 clear hB1 hB3 aM hblk;generalize w3.alloc (.cells #[.string F,.string G,.bool U,.bool V,.bool X,.int .i64 H,.slice pc I J,.slice L M N] 39)=w4 at *;generalize w3.heap.size=bm at *;have HB4:=Xh hB4;clear hB4;go_wp2_with (go_fit (HS.out _ HB4.out);rintro e w5⟨⟨v5,rfl,hv5⟩,hB5⟩;obtain⟨pv,kv,rfl⟩:=Ze hv5)
 have hbk5:=Xh (R.step hB5);have hz5:=Xh (hz4.step hB5);have HV5:=Xh hv5;have HB5:=Xh (Qa HB4 Xl hB5);have HSh:Hid (∃o,Zdl w0 (.agg #[.string F,.string G,.bool U,.bool V,.bool X,.int .i64 H,.slice pc I J,.slice L M N]) o O is U V X/\aL=zV (Za l) n t o (S.drop 0)):=⟨o0,hSh,HR⟩;clear R hz4 hv5 hB5 hSh HR HF0 HS HB4;go_loopw [11,13,29] (fun cnv isv x wr=>∃(k:Nat) (O F G:Str) (U V X is:Bool) (H:Int) (pc:Option Addr) (I J:Nat) (L:Option Addr) (M N:Nat),k<=S.length/\cnv=.string O/\isv=.bool is/\Hid (∃o,Zdl w0 (.agg #[.string F,.string G,.bool U,.bool V,.bool X,.int .i64 H,.slice pc I J,.slice L M N]) o O is U V X/\aL=zV (Za l) n t o (S.drop k))/\Hid (Blk wr bm 39 [.string F,.string G,.bool U,.bool V,.bool X,.int .i64 H,.slice pc I J,.slice L M N])/\Hid (Blk wr w.heap.size 39 Qw)/\wr.ownsRow w4.heap.size 116 3 (.slice pv S.length kv) S.length (S.flatMap za2)/\Below w.heap.size w wr/\x=.int .i64 k) (fun _ _ x _=>S.length-(intOf x).toNat)
 case atStart=>exact⟨0,O,F,G,U,V,X,is,H,pc,I,J,L,M,N,by omega,rfl,rfl,HSh,hbk5,hz5,HV5,HB5,rfl⟩
 case round =>
  clear HSh hbk5 hz5 HV5 HB5;obtain⟨k,O,F,G,U,V,X,is,H,pc,I,J,L,M,N,hk,rfl,rfl,Y,R,i,Z,hB,rfl⟩:=hrel;by_cases hkl:k<S.length
  ·obtain⟨x,hx⟩:∃a,S[k]? = some a:=⟨S[k],by simp[hkl]⟩;have hkx:=HKn.out x (Xe hx);obtain⟨g,rfl,hg1,hg2,aP⟩:=ZaY qbP Z rfl hx;have d0:wr.cell? ⟨g,k*3,none⟩=some (.string x.name):=aP 0 (by omega);have d1:wr.cell? ⟨g,k*3+1,none⟩=some (.string x.type):=aP 1 (by omega);have d2:wr.cell? ⟨g,k*3+2,none⟩=some (.string x.cls):=aP 2 (by omega);have e1:=Zay x.name n;have e2:=Zay x.type t;have aA:=(Below.refl wr.heap.size wr).alloc Xl (.cells #[.string x.name,.string x.type,.string x.cls] 116);have T:=zaU Z aA;have aN:=Qa hB Xl aA;have r:=R.out.step aA;have y:=i.out.step aA;have HX:=Xh hx;by_cases P:x.name=n/\x.type=t
   ·have z:Hid (aL=zV (Za l) n t (qB (Za l) x.cls n t) (S.drop (k+1))):=by
     obtain⟨o,_,ho⟩:=Y.out;unfold Hid;rw[ho,qbB _ _ _ _ _ _ _ hx,if_pos P]
    rw[Xj P.1]at e1;rw[Xj P.2]at e2;have HF:=Xh (HFO.out _ x.cls aN hkx);have HO6:=Xh T;have HB6:=Xh aN;have HK6:=Xh r;have HZ6:=Xh y;clear P hx hkx Z hB R i T aN r y aA Y aP;generalize qB (Za l) x.cls n t=o at *;go_wp2_with (go_fit HF.out;rintro e w7⟨⟨v7,rfl,hv7⟩,aQ⟩;obtain⟨cn2,aB,aC,j,m,p,aD,is2,aE,aF,aG,aH,aI,aJ,hsh7,hSh7⟩:=zbQ _ _ _ hv7;rw[hsh7];(have aO:=HK6.out.step aQ);obtain⟨q0,q1,q2,q3,q4,q5,q6,q7⟩:=aO.cells8;(have hfz:=aO.frozen);(have hlt:=aO.lt);clear hsh7 hv7)
    have hKn:=aO.put8 (.string aB) (.string aC) (.bool j) (.bool m) (.bool p) (.int .i64 aD) (.slice aE aF aG) (.slice aH aI aJ);have hZn:=(HZ6.out.step aQ).other8 (b':=bm) (by omega) (.string aB) (.string aC) (.bool j) (.bool m) (.bool p) (.int .i64 aD) (.slice aE aF aG) (.slice aH aI aJ);have hOn:=qdl (b:=bm) (zaU HO6.out aQ) hbm (.string aB) (.string aC) (.bool j) (.bool m) (.bool p) (.int .i64 aD) (.slice aE aF aG) (.slice aH aI aJ);have hBn:=Z9 (b:=bm) (Qa HB6 Xl aQ) (Nat.le_of_lt hwm) (.string aB) (.string aC) (.bool j) (.bool m) (.bool p) (.int .i64 aD) (.slice aE aF aG) (.slice aH aI aJ);have hShn:Hid (∃o,Zdl w0 (.agg #[.string aB,.string aC,.bool j,.bool m,.bool p,.int .i64 aD,.slice aE aF aG,.slice aH aI aJ]) o cn2 is2 j m p/\aL=zV (Za l) n t o (S.drop (k+1))):=⟨o,hSh7,z.out⟩;have HKn2:=Xh hKn;have HZn:=Xh hZn;have HOn:=Xh hOn;have HBn:=Xh hBn;clear hKn hZn hOn hBn hSh7 z aO q0 q1 q2 q3 q4 q5 q6 q7 hfz hlt aQ;go_roundw;case rel=>exact⟨k+1,cn2,aB,aC,j,m,p,is2,aD,aE,aF,aG,aH,aI,aJ,by omega,rfl,rfl,hShn,HKn2,HZn,HOn,HBn,by simp⟩
    case measure=>simp[intOf];omega
   ·have z:Hid (∃o,Zdl w0 (.agg #[.string F,.string G,.bool U,.bool V,.bool X,.int .i64 H,.slice pc I J,.slice L M N]) o O is U V X/\aL=zV (Za l) n t o (S.drop (k+1))):=by
     obtain⟨o,aK,ho⟩:=Y.out;refine⟨o,aK,?_⟩;rw[ho,qbB _ _ _ _ _ _ _ hx,if_neg P]
    have hno:(decide (x.name=n)&&decide (x.type=t))=false:=by
     rw[Bool.and_eq_false_iff,decide_eq_false_iff_not,decide_eq_false_iff_not];by_cases h1:x.name=n
     ·exact Or.inr fun h2=>P ⟨h1,h2⟩
     ·exact Or.inl h1
    rw[<-e1,<-e2]at hno;have HO6:=Xh T;have HB6:=Xh aN;have HK6:=Xh r;have HZ6:=Xh y;clear P hx hkx Z hB R i T aN r y aA Y aP e1 e2;obtain⟨g1,e1⟩:∃q,(x.name.toList==n.toList)=q:=⟨_,rfl⟩;obtain⟨g2,e2⟩:∃q,(x.type.toList==t.toList)=q:=⟨_,rfl⟩;rw[e1,e2]at hno;cases g1<;>cases g2
    all_goals first
     |(exact absurd hno (by decide))
     |(
      clear hno;go_wp2_with fail;go_roundw;case rel=>exact⟨k+1,O,F,G,U,V,X,is,H,pc,I,J,L,M,N,by omega,rfl,rfl,z,HK6,HZ6,HO6,HB6,by simp⟩
      case measure=>simp[intOf];omega)
  ·obtain rfl:k=S.length:=(by omega);obtain⟨o,aK,ho⟩:=Y.out;rw[Xg Xl]at ho;have A:Hid (aL=o):=ho;have C:=Xh aK.name;have D:=Xh aK.call;have E:=Xh aK.meth;clear Y ho aK;obtain⟨q0,q1,q2,q3,q4,q5,q6,q7⟩:=R.out.cells8;obtain⟨r0,r1,r2,r3,r4,r5,r6,r7⟩:=i.out.method;have hfz:=i.out.frozen;have hlt:=i.out.lt;have hlt2:=R.out.lt;have f:=Xh (Z9 hB (Nat.le_refl w.heap.size) (.string F) (.string G) (.bool U) (.bool V) (.bool X) (.int .i64 H) (.slice pc I J) (.slice L M N)).drew;clear Z hB R i;cases is<;>cases U<;>cases X<;>cases V
   ·go_wp2_with fail;go_region
    all_goals go_wp2
    all_goals exact bodyPost_ret (v:=.tuple #[.string O,.agg #[.string F,.string G,.bool false,.bool false,.bool false,.int .i64 H,.slice pc I J,.slice L M N],.bool false]) (by simp[results,results33,go_sem, *]) rfl (by rw[A.out];exact Qu D.out C.out E.out f.out)
   ·go_wp2_with fail;go_region
    all_goals go_wp2
    all_goals exact bodyPost_ret (v:=.tuple #[.string O,.agg #[.string F,.string G,.bool false,.bool true,.bool false,.int .i64 H,.slice pc I J,.slice L M N],.bool false]) (by simp[results,results33,go_sem, *]) rfl (by rw[A.out];exact Qu D.out C.out E.out f.out)
   ·go_wp2_with fail;go_region
    all_goals go_wp2
    all_goals exact bodyPost_ret (v:=.tuple #[.string O,.agg #[.string F,.string G,.bool false,.bool false,.bool true,.int .i64 H,.slice pc I J,.slice L M N],.bool false]) (by simp[results,results33,go_sem, *]) rfl (by rw[A.out];exact Qu D.out C.out E.out f.out)
   ·go_wp2_with fail;go_region
    all_goals go_wp2
    all_goals exact bodyPost_ret (v:=.tuple #[.string O,.agg #[.string F,.string G,.bool false,.bool true,.bool true,.int .i64 H,.slice pc I J,.slice L M N],.bool false]) (by simp[results,results33,go_sem, *]) rfl (by rw[A.out];exact Qu D.out C.out E.out f.out)
   ·go_wp2_with fail;go_region
    all_goals go_wp2
    all_goals exact bodyPost_ret (v:=.tuple #[.string O,.agg #[.string F,.string G,.bool true,.bool false,.bool false,.int .i64 H,.slice pc I J,.slice L M N],.bool false]) (by simp[results,results33,go_sem, *]) rfl (by rw[A.out];exact Qu D.out C.out E.out f.out)
   ·go_wp2_with fail;go_region
    all_goals go_wp2
    all_goals exact bodyPost_ret (v:=.tuple #[.string O,.agg #[.string F,.string G,.bool true,.bool true,.bool false,.int .i64 H,.slice pc I J,.slice L M N],.bool false]) (by simp[results,results33,go_sem, *]) rfl (by rw[A.out];exact Qu D.out C.out E.out f.out)
   ·go_wp2_with fail;go_region
    all_goals go_wp2
    all_goals exact bodyPost_ret (v:=.tuple #[.string O,.agg #[.string F,.string G,.bool true,.bool false,.bool true,.int .i64 H,.slice pc I J,.slice L M N],.bool false]) (by simp[results,results33,go_sem, *]) rfl (by rw[A.out];exact Qu D.out C.out E.out f.out)
   ·go_wp2_with fail;go_region
    all_goals go_wp2
    all_goals exact bodyPost_ret (v:=.tuple #[.string O,.agg #[.string F,.string G,.bool true,.bool true,.bool true,.int .i64 H,.slice pc I J,.slice L M N],.bool false]) (by simp[results,results33,go_sem, *]) rfl (by rw[A.out];exact Qu D.out C.out E.out f.out)
   ·go_wp2_with fail;go_region
    all_goals go_wp2
    all_goals exact bodyPost_ret (v:=.tuple #[.string O,.agg #[.string F,.string G,.bool false,.bool false,.bool false,.int .i64 H,.slice pc I J,.slice L M N],.bool true]) (by simp[results,results33,go_sem, *]) rfl (by rw[A.out];exact Qu D.out C.out E.out f.out)
   ·go_wp2_with fail;go_region
    all_goals go_wp2
    all_goals exact bodyPost_ret (v:=.tuple #[.string O,.agg #[.string F,.string G,.bool false,.bool true,.bool false,.int .i64 H,.slice pc I J,.slice L M N],.bool false]) (by simp[results,results33,go_sem, *]) rfl (by rw[A.out];exact Qu D.out C.out E.out f.out)
   ·go_wp2_with fail;go_region
    all_goals go_wp2
    all_goals exact bodyPost_ret (v:=.tuple #[.string O,.agg #[.string F,.string G,.bool false,.bool false,.bool true,.int .i64 H,.slice pc I J,.slice L M N],.bool false]) (by simp[results,results33,go_sem, *]) rfl (by rw[A.out];exact Qu D.out C.out E.out f.out)
   ·go_wp2_with fail;go_region
    all_goals go_wp2
    all_goals exact bodyPost_ret (v:=.tuple #[.string O,.agg #[.string F,.string G,.bool false,.bool true,.bool true,.int .i64 H,.slice pc I J,.slice L M N],.bool false]) (by simp[results,results33,go_sem, *]) rfl (by rw[A.out];exact Qu D.out C.out E.out f.out)
   ·go_wp2_with fail;go_region
    all_goals go_wp2
    all_goals exact bodyPost_ret (v:=.tuple #[.string O,.agg #[.string F,.string G,.bool true,.bool false,.bool false,.int .i64 H,.slice pc I J,.slice L M N],.bool false]) (by simp[results,results33,go_sem, *]) rfl (by rw[A.out];exact Qu D.out C.out E.out f.out)
   ·go_wp2_with fail;go_region
    all_goals go_wp2
    all_goals exact bodyPost_ret (v:=.tuple #[.string O,.agg #[.string F,.string G,.bool true,.bool true,.bool false,.int .i64 H,.slice pc I J,.slice L M N],.bool false]) (by simp[results,results33,go_sem, *]) rfl (by rw[A.out];exact Qu D.out C.out E.out f.out)
   ·go_wp2_with fail;go_region
    all_goals go_wp2
    all_goals exact bodyPost_ret (v:=.tuple #[.string O,.agg #[.string F,.string G,.bool true,.bool false,.bool true,.int .i64 H,.slice pc I J,.slice L M N],.bool false]) (by simp[results,results33,go_sem, *]) rfl (by rw[A.out];exact Qu D.out C.out E.out f.out)
   ·go_wp2_with fail;go_region
    all_goals go_wp2
    all_goals exact bodyPost_ret (v:=.tuple #[.string O,.agg #[.string F,.string G,.bool true,.bool true,.bool true,.int .i64 H,.slice pc I J,.slice L M N],.bool false]) (by simp[results,results33,go_sem, *]) rfl (by rw[A.out];exact Qu D.out C.out E.out f.out)
def ZeI(o:Option (Str×qc)):Str:=(o.map (·.1)).getD ⟨#[]⟩
def qca(l:List qa)(c n t:Str):Str:=if zy l c=0 then ZeI (zeI (Za l) c n t) else ⟨#[]⟩
def Q9(l:List qa)(c n t:Str):Nat:=if zy l c=0 then (if QB (Qs (Za l) c n t) then 0 else 3) else zy l c
theorem qeI(l:List qa)(R:Value)(c n t:Str)(w:World)(U:Qax w)(V:∀c∈l,qM c)(G:zx w R l)(X:c.size<=maxLen):
 Calls prog 14 #[R,.string c,.string n,.string t] w fun e w'=>e=.returned (.tuple #[.string (qca l c n t),Qx (Q9 l c n t)])/\Below w.heap.size w w':=by
 have N:=Xh (QeI l R c w U V G X);have C:Hid (∀T wx B,qh T wx B l->(Qb (Za l) c).isSome=true->_):=fun T wx B v x=>ZbH T wx B l v c n t x
 obtain⟨z,cap,rfl,_⟩:=G.open;unfold qcm at N;unfold zbH at C;clear U V G X;by_cases A:zy l c=0
 ·have O:=Xh A;have D:qca l c n t=if QB (Qs (Za l) c n t) then ZeI (Qs (Za l) c n t) else ⟨#[]⟩:=by
   unfold qca zeI;rw[if_pos A];cases QB (Qs (Za l) c n t)<;>rfl
  have L:Q9 l c n t=if QB (Qs (Za l) c n t) then 0 else 3:=by unfold Q9;rw[if_pos A]
  rw[D,L];clear A D L;generalize Qs (Za l) c n t=o at *;cases P:QB o with
  |true =>
   rw[P]at C;rw[if_pos rfl,if_pos rfl,show Qx 0=.nilIface from rfl];clear P;go_enter func14,ntmps14;go_wp2_with (first
    |(go_fit N.out;rintro e Y⟨F,⟨_,rfl,D⟩|⟨A,_⟩⟩;rotate_left;(exact absurd O.out A);(have H:=D.world);(have I:=D.known))
    |(go_fit (C.out _ _ _ H I);rintro e b⟨⟨Z,d,g,h,i,j,k,pc,m,p,q,r,s,rfl,M,_⟩,J⟩;(have S:=Xh M);clear M))
   go_ret2;have E:=Qa F Xl J;exact⟨by rw[show ZeI o=Z from S.out];rfl,E.alloc E.size _⟩
  |false =>
   rw[P]at C;rw[if_neg (by decide),if_neg (by decide),show Qx 3=.iface 52 (.int .i64 3) from rfl];clear P;go_enter func14,ntmps14;go_wp2_with (first
    |(go_fit N.out;rintro e Y⟨F,⟨_,rfl,D⟩|⟨A,_⟩⟩;rotate_left;(exact absurd O.out A);(have H:=D.world);(have I:=D.known))
    |(go_fit (C.out _ _ _ H I);rintro e b⟨⟨Z,d,g,h,i,j,k,pc,m,p,q,r,s,rfl,_,_⟩,J⟩))
   go_ret2;have E:=Qa F Xl J;exact⟨rfl,E.alloc E.size _⟩
 ·have O:=Xh A;have D:qca l c n t=⟨#[]⟩:=by unfold qca;rw[if_neg A]
  have L:Q9 l c n t=zy l c:=by unfold Q9;rw[if_neg A]
  rw[D,L];rcases zB (zy l c) with⟨_,y⟩|⟨a,_⟩
  ·exact absurd y A
  rw[a];clear A D L a C;generalize zy l c=f at *;go_enter func14,ntmps14;go_wp2_with (go_fit N.out;rintro e Y⟨F,⟨A,_⟩|⟨_,rfl⟩⟩;(exact absurd A O.out))
  go_ret2;exact⟨rfl,F⟩
