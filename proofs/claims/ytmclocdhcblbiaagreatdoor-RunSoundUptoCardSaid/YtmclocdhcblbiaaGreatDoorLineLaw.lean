/- Lemmas; conditions: as each states. -/
import Derived.Test.YtmclocdhcblbiaaGreatDoorRead
set_option maxHeartbeats 4000000
namespace Go.Proofs.YtmclocdhcblbiaaGreatDoor
open Go.RowKit Go.Shelf Go.Lib
theorem ZdP(C:List Str):∀A:List Str,∃t,qay A C=A++t/\(∀x∈C,x∈A++t)/\(∀x∈t,x∈C):=by
 induction C with
 |nil =>
  intro A;refine⟨[],by simp[qay],?_,?_⟩
  ·intro x B;cases B
  ·intro x B;cases B
 |cons a r G =>
  intro A;rw[zbp];cases H:Q4 A a with
  |true =>
   rw[if_pos rfl];obtain⟨t,D,E,F⟩:=G A;refine⟨t,D,fun x B=>?_,fun x B=>List.mem_cons_of_mem _ (F x B)⟩;rcases List.mem_cons.1 B with rfl|B
   ·exact List.mem_append_left _ (qA.1 H)
   ·exact E x B
  |false =>
   rw[if_neg (by decide)];obtain⟨t,D,E,F⟩:=G (A++[a]);refine⟨a::t,by rw[D];simp,fun x B=>?_,fun x B=>?_⟩
   ·rcases List.mem_cons.1 B with rfl|B
    ·simp
    ·have:=E x B;simpa using this
   ·rcases List.mem_cons.1 B with rfl|B
    ·simp
    ·exact List.mem_cons_of_mem _ (F x B)
theorem zbf.addAll{cs:List qa}(B:List Str):∀A:List Str,zbf cs A->(∀x∈B,(Qb cs x).isSome=true)->zbf cs (qay A B):=by
 induction B with
 |nil=>intro A h _;exact h
 |cons a r E =>
  intro A h C;rw[zbp];cases F:Q4 A a with
  |true=>rw[if_pos rfl];exact E A h (fun x D=>C x (List.mem_cons_of_mem _ D))
  |false=>rw[if_neg (by decide)];exact E _ (h.add (C a (by simp)) F) (fun x D=>C x (List.mem_cons_of_mem _ D))
theorem Qds{cs:List qa}(J:Zbf cs):∀(f i:Nat) (A:List Str),zbf cs A->cs.length+1<=f+i->(∀j x,j<i->A[j]? = some x->∀a∈Zz cs x,a∈A) ->
 zbf cs (Qay (Zz cs) f i A)/\(∀x∈A,x∈Qay (Zz cs) f i A)/\(∀x∈Qay (Zz cs) f i A,∀a∈Zz cs x,a∈Qay (Zz cs) f i A) /\
  (∀S:Str->Prop,(∀x,S x->∀a∈Zz cs x,S a)->(∀x∈A,S x)->∀x∈Qay (Zz cs) f i A,S x):=by
 intro f;induction f with
 |zero =>
  intro i A E b I;refine⟨E,fun x B=>B,fun x B a F=>?_,fun S _ H x B=>H x B⟩;replace B:x∈A:=B;obtain⟨j,D,rfl⟩:=List.getElem_of_mem B;have:=E.length;exact I j _ (by omega) (Xn D) a F
 |succ f d =>
  intro i A E b I;cases B:A[i]? with
  |none =>
   rw[Zcc B];refine⟨E,fun x B=>B,fun x O a F=>?_,fun S _ H x B=>H x B⟩;obtain⟨j,D,rfl⟩:=List.getElem_of_mem O;rw[List.getElem?_eq_none_iff]at B;exact I j _ (by omega) (Xn D) a F
  |some x =>
   rw[qcc B];obtain⟨t,N,H,U⟩:=ZdP (Zz cs x) A;have L:=E.known x (Xe B);obtain⟨V,X,Y,Z⟩:=d (i+1) (qay A (Zz cs x)) (zbf.addAll _ _ E (J x L)) (by omega) (by
    intro j y c C a F;rw[N]at C ⊢;have T:=(List.getElem?_eq_some_iff.1 B).1;rw[List.getElem?_append_left (by omega)]at C;by_cases M:j<i
    ·exact List.mem_append_left _ (I j y M C a F)
    ·obtain rfl:j=i:=(by omega);rw[B]at C;injection C with C;subst C
     exact H a F)
   refine⟨V,fun y C=>X y (by rw[N];exact List.mem_append_left _ C),Y,fun S P R y C=>Z S P (fun z G=>?_) y C⟩;rw[N]at G;rcases List.mem_append.1 G with G|G
   ·exact R z G
   ·exact P x (R x (Xe B)) z (U z G)
theorem qp{cs:List qa}(A:Zbf cs){n:Str}(C:(Qb cs n).isSome=true):
 zbf cs (zj cs n)/\n∈zj cs n/\(∀x∈zj cs n,∀a∈Zz cs x,a∈zj cs n) /\
  (∀S:Str->Prop,(∀x,S x->∀a∈Zz cs x,S a)->S n->∀x∈zj cs n,S x):=by
 obtain⟨D,E,F,G⟩:=Qds A (cs.length+1) 0 [n] (zbf.one C) (by omega) (fun j x L=>by omega);exact⟨D,E n (by simp),F,fun S H I x J=>G S H (fun y B=>by simp at B;subst B;exact I) x J⟩
structure zh (l:List qa):Prop where
 nodup:((Za l).map (·.name)).Nodup
 closed:Zbf (Za l)
 joined:∀c∈l,qE (Za l) c=0
 round:∀c∈l,zaz (Za l) c.name=false
 length:l.length<=10
theorem qdP:∀(r a:List qa),((Za a).map (·.name)).Nodup->zi ZF a r=0->((Za (a++r)).map (·.name)).Nodup:=by
 intro r;induction r with
 |nil=>intro a D _;simpa using D
 |cons c r F =>
  intro a D h;rw[zi]at h;by_cases A:ZF c a=0
  ·rw[if_pos A]at h;have B:Qb (Za a) c.name=none:=by
    unfold ZF at A;by_cases C:qf c≠0
    ·rw[if_pos C]at A;exact absurd A C
    ·rw[if_neg C]at A;cases E:Qb (Za a) c.name with
     |none=>rfl
     |some d=>rw[E]at A;cases A
   have:=F (a++[c]) (by
    have:=Qa7 D B;simpa[Za] using this) h
   simpa using this
  ·rw[if_neg A]at h;exact absurd h A
theorem qa5{l:List qa}(h:Zp l=0):zh l:=by
 unfold Zp at h;split at h
 ·cases h
 ·rename_i G;split at h
  ·rename_i C;exact absurd h C
  ·rename_i C;split at h
   ·rename_i D;exact absurd h D
   ·rename_i D;split at h
    ·cases h
    ·rename_i F;have A:zi ZF [] l=0:=(by simpa using C);have B:Zh (qE (Za l)) l=0:=(by simpa using D);have E:=Zak B;refine⟨by simpa using qdP l [] Zbp A,zcU E,E,?_,by omega⟩;rw[Bool.not_eq_true,List.any_eq_false]at F;intro c H;simpa using F c H
theorem zh.find{l:List qa}(h:zh l){c:qa}(A:c∈Za l):Qb (Za l) c.name=some c:=by
 obtain⟨i,B,rfl⟩:=List.getElem_of_mem A;unfold Qb;rw[List.find?_eq_some_iff_getElem];refine⟨by simp,i,B,rfl,fun j C=>?_⟩;have:=List.pairwise_iff_getElem.1 h.nodup j i (by simp;omega) (by simp;omega) C;simpa using this
theorem zh.super{l:List qa}(h:zh l){n:Str}(D:(Qb (Za l) n).isSome=true)(E:n≠Zg):∃s,s∈Zz (Za l) n/\(n=Ql/\s=Zg\/∃c∈l,c.name=n):=by
 obtain⟨c,A,rfl⟩:=Za7 D;have C:=h.find A;unfold Za at A;rcases List.mem_cons.1 A with rfl|A
 ·exact absurd rfl E
 ·rcases List.mem_cons.1 A with rfl|A
  ·refine⟨Zg,?_,Or.inl ⟨rfl,rfl⟩⟩;unfold Zz;rw[C];simp[Zad,qg,Zg];decide
  ·refine⟨c.super,?_,Or.inr ⟨c,A,rfl⟩⟩;have B:=h.joined c A;unfold Zz;rw[C];simp only[Option.getD_some];have:c.super.size≠0:=by
    intro F;unfold qE at B;rw[if_pos F]at B;cases B
   rw[if_neg this];simp
theorem Qen{α:Type}[DecidableEq α]{l m:List α}{a:α}(B:l.Nodup)(C:∀x∈l,x∈m)(D:a∈m)(E:a∉l):l.length<m.length:=by
 have:=zaN (a::l) m (List.nodup_cons.2 ⟨E,B⟩) (fun x A=>by
  rcases List.mem_cons.1 A with rfl|A
  ·exact D
  ·exact C x A)
 simp only[List.length_cons]at this;omega
def Ze(cs:List qa)(n:Str):qa:=(Qb cs n).getD qg
def qak(cs:List qa):Nat->Str->List Str
 |0,n=>[n]
 |k+1,n=>if (Ze cs n).super.size=0 then [n] else n::qak cs k (Ze cs n).super
def Zl(cs:List qa)(n:Str):List Str:=qak cs (zj cs n).length n
theorem QbH(cs:List qa)(k:Nat)(n:Str):qak cs k n=n::(qak cs k n).drop 1:=by
 cases k with
 |zero=>rfl
 |succ k=>rw[qak];split<;>rfl
theorem zh.up{l:List qa}(h:zh l){n:Str}(D:(Qb (Za l) n).isSome=true)(L:(Ze (Za l) n).super.size≠0):
 (Qb (Za l) (Ze (Za l) n).super).isSome=true/\(zj (Za l) (Ze (Za l) n).super).length<(zj (Za l) n).length:=by
 have E:(Ze (Za l) n).super∈Zz (Za l) n:=by unfold Zz Ze at *;rw[if_neg L];simp
 have B:=h.closed _ D _ E;refine⟨B,?_⟩;obtain⟨S,N,O,T⟩:=qp h.closed D;obtain⟨R,U,V,P⟩:=qp h.closed B;have F:=O n N _ E;refine Qen R.nodup (P _ (fun x J a C=>O x J a C) F) N ?_;intro A;by_cases M:n=Zg
 ·subst M;exact L (by simp[Ze,Qb,Za,ZU,qg])
 ·obtain⟨s,_,I⟩:=h.super D M;rcases I with⟨rfl,_⟩|⟨c,I,rfl⟩
  ·have:(Ze (Za l) Ql).super=Zg:=by
    unfold Ze;rw[show Qb (Za l) Ql=some Zad from h.find (c:=Zad) (by simp[Za])];rfl
   rw[this]at A;have G:=P (fun x=>x=Zg) (fun x J a C=>by
    subst J;exfalso;unfold Zz at C;rw[show Qb (Za l) Zg=some ZU from h.find (c:=ZU) (by simp[Za])]at C;simp[ZU,qg]at C) this
   have:=G Ql (by rw[this];exact A);exact absurd this (by decide)
  ·have H:=h.round c I;unfold zaz at H;rw[List.any_eq_false]at H;have:=H _ E;rw[qA.2 A]at this;exact this rfl
theorem zeN{w:World}{b:Nat}{A B C D E F:Value}(h:QB w b 0 [A,B,C,D,E,F]):
 w.cell? ⟨b,0,none⟩=some A/\w.cell? ⟨b,1,none⟩=some B/\w.cell? ⟨b,2,none⟩=some C/\w.cell? ⟨b,3,none⟩=some D/\w.cell? ⟨b,4,none⟩=some E/\w.cell? ⟨b,5,none⟩=some F:=by
 obtain⟨G,H,I,J,L,M,_⟩:=h;exact⟨G,H,I,J,L,M⟩
theorem QB.block{w w':World}{b:Nat}(A:w'.heap[b]? = w.heap[b]?):∀{vs:List Value} {o:Nat},QB w b o vs->QB w' b o vs
 |[],_,_=>trivial
 |_::_,o,⟨B,C⟩=>⟨(World.cell?_of_block (w:=w) (a:=⟨b,o,none⟩) A).trans B,C.block A⟩
theorem ZeN{cs:List qa}{f:Nat}{x:Str}(h:(Ze cs x).super.size≠0):(qak cs (f+1) x).drop 1=qak cs f (Ze cs x).super:=by
 rw[qak,if_neg h];rfl
theorem zeo{cs:List qa}{f:Nat}{x:Str}(h:(Ze cs x).super.size=0):(qak cs f x).drop 1=[]:=by
 cases f with
 |zero=>rfl
 |succ f=>rw[qak,if_pos h];rfl
set_option maxRecDepth 100000
theorem za3(w0 w:World)(B:Nat)(l:List qa)(h:zh l)(hm:zo w0 w B (Za l))(n:Str)(i:(Qb (Za l) n).isSome=true):
 Calls Tryz.prog 67 #[.map (some B),.string n] w fun e w'=>(∃v,e=.returned v/\w'.ownsRow w.heap.size 9 1 v (Zl (Za l) n).length ((Zl (Za l) n).map Value.string))/\Below w.heap.size w w':=by
 obtain⟨i0,hi,hz0,hz1,hz2⟩:=info_parts Q3;have j:Hid (∀n:Str,(Qb (Za l) n).isSome=true->_):=fun n hn=>hm.look3 h.nodup n (hm.names hn)
 have hUp:Hid (∀n:Str,(Qb (Za l) n).isSome=true->(Ze (Za l) n).super.size≠0->_):=fun n h1 h2=>h.up h1 h2
 have h12:(Za l).length<=12:=by have:=h.length;unfold Za;simp;omega
 have hEv:Hid (∀n:Str,(Qb (Za l) n).isSome=true->(zj (Za l) n).length<=12):=fun n hn=>Xf (qp h.closed hn).1.length h12
 have M:(w.alloc (.cells #[.string n] 9)).ownsRow w.heap.size 9 1 (.slice (some ⟨w.heap.size,0,none⟩) 1 1) 1 [.string n]:=zak w w.heap.size (.string n) Xl;obtain⟨U,V,X,Y,Z,a,_,_,_,G⟩:=j.out n i;have m:=(G _ (Xb.alloc Xl (.cells #[.string n] 9))).2;have HK:=Xh i;clear hm h G i;have o:(Qb (Za l) n).getD qg=Ze (Za l) n:=rfl;rw[o]at m;have hcn:=Xh (rfl:Ze (Za l) n=Ze (Za l) n);generalize aB:Ze (Za l) n=c0 at m hcn;obtain⟨n0,s0,f0,b0,d0,m0⟩:=c0;have p:=Xh aB;clear aB o;unfold Qv at m;dsimp only at m;go_enter Tryz.func67,Tryz.ntmps67;go_wp2_with fail;go_loopg [5,6] 13 (fun gg v y wr=>∃(x:Str) (f:Nat) (A:List Str) (N:Nat) (U:Option Addr) (V:Nat) (X:Option Addr) (Y:Nat) (Z:Option Addr) (a:Nat) (c:qa),f<=gg/\Hid (A++(qak (Za l) f x).drop 1=Zl (Za l) n)/\Hid ((Qb (Za l) x).isSome=true)/\Hid ((zj (Za l) x).length<=f)/\A.length+f<=13/\wr.ownsRow w.heap.size 9 1 v A.length (A.map Value.string)/\(∀g,v.ownBlock=some g->g<N)/\Below w.heap.size w wr/\N<wr.heap.size/\QB wr N 0 [.string c.name,.string c.super,.slice U c.faces.length V,.bool c.face,.slice X c.fields.length Y,.slice Z c.methods.length a]/\Hid (Ze (Za l) x=c)/\y=.pointer (some ⟨N,0,none⟩))
 case atStart =>
  have h1:=hEv.out n HK.out;refine⟨n,(zj (Za l) n).length,[n],w.heap.size+1,U,V,X,Y,Z,a,_,by omega,?_,HK,Xl,by simp;omega,M.alloc _,?_,zH _ _ _,by simp,by simp[QB],p,by simp⟩
  ·unfold Zl;rw[List.singleton_append,<-QbH];rfl
  ·intro g hg;obtain rfl:w.heap.size=g:=(by injection hg);exact Nat.lt_succ_self _
 case round =>
  clear M m p HK;obtain⟨x,f,A,N,U,V,X,Y,Z,a,c,hfg,HR,HKx,HE,hlen,C,H,hB,hbc,zd,z,rfl⟩:=hrel;obtain⟨va,vc,rfl⟩:=Qd C;obtain⟨z0,z1,z2,z3,z4,z5⟩:=zeN zd;have ze:c.super.toList.isEmpty=decide (c.super.size=0):=qR c.super;by_cases P:c.super.size=0
  ·rw[Xj P]at ze;have q:Hid (A=Zl (Za l) n):=by
    rw[<-HR.out,zeo (by rw[z.out];exact P),List.append_nil];rfl
   have HO:=Xh C;clear P C zd H HR;go_wp2_with fail;go_ret;exact⟨⟨_,rfl,by rw[<-q.out];exact HO.out⟩,hB⟩
  ·rw[Xi P]at ze;obtain⟨T,aA⟩:=hUp.out x HKx.out (by rw[z.out];exact P);rw[z.out]at T aA;have hE:=HE.out;obtain⟨b,rfl⟩:∃b,f=b+1:=⟨f-1,by omega⟩;have R:=HR.out;rw[ZeN (by rw[z.out];exact P),z,QbH]at R;have S:Hid ((A++[c.super])++(qak (Za l) b c.super).drop 1=Zl (Za l) n):=by
    rw[List.append_assoc];exact R
   obtain⟨p1,k1,p2,k2,p3,k3,_,_,_,G⟩:=j.out c.super T;have c2:∀u∈[Value.string c.super],u.oneCell'=true:=fun u hu=>by simp at hu;subst hu;rfl
   have c3:A.length+1<=maxLen:=Xf (show A.length+1<=14 by omega) (by decide);have c4:(A.length+1)*16<=140737488355328:=(by omega);have r:=hB.alloc hB.size (.cells #[.string c.super] 9);have c5:=r.size;have HO:=Xh C;have HS:=Xh H;have HCe:=Xh zd;have HLK:=Xh G;clear G H zd P HR R;go_upto_region 6 with(at_builtin;(refine wpList_append_own_at _ rfl _ _ 27 rfl w.heap.size 9 i0 (.string .empty) 1 16 Tryz.underlying27 hi hz0 hz1 hz2 rfl (by decide) _ _ _ rfl (C.alloc _) ⟨wr.heap.size,0,none⟩ 1 1 [.string c.super] rfl rfl (cell_one_new _ _ _) c2 c3 c4 c5 ?_);intro v3 w3 I E _ hat3)
   have D:w3.ownsRow w.heap.size 9 1 v3 (A++[c.super]).length ((A++[c.super]).map Value.string):=(by simpa using I);have J:Below w.heap.size w w3:=r.grown E c5 (fun k i=>(HO.out.lt k i).1);have s:QB w3 N 0 [.string c.name,.string c.super,.slice U c.faces.length V,.bool c.face,.slice X c.fields.length Y,.slice Z c.methods.length a]:=by
    refine QB.block (E.block N (by simp;omega) (fun he=>?_)) (HCe.out.mono (Xb.alloc Xl _) hbc);have:=HS.out N he.symm;omega
   obtain⟨y0,y1,y2,y3,y4,y5⟩:=zeN s;have L:=(HLK.out _ (J.alloc J.size (.cells #[.string c.name,.string c.super,.slice U c.faces.length V,.bool c.face,.slice X c.fields.length Y,.slice Z c.methods.length a] 31))).2;have t:(Qb (Za l) c.super).getD qg=Ze (Za l) c.super:=rfl;rw[t]at L;generalize O:Ze (Za l) c.super=d at L;have HD:=Xh O;obtain⟨n2,s2,f2,b2,d2,m2⟩:=d;clear O t;unfold Qv at L;dsimp only at L;have F:=D.alloc (.cells #[.string n2,.string s2,.slice p1 f2.length k1,.bool b2,.slice p2 d2.length k2,.slice p3 m2.length k3] 31);have HB5:=Xh (J.alloc J.size (.cells #[.string n2,.string s2,.slice p1 f2.length k1,.bool b2,.slice p2 d2.length k2,.slice p3 m2.length k3] 31));have HO5:=Xh F;have HO4:=Xh D;clear F D I s z0 z1 z2 z3 z4 z5 C;go_wp2_with fail;go_roundg b
   case measure=>omega
   case rel =>
    refine⟨c.super,b,A++[c.super],w3.heap.size,p1,k1,p2,k2,p3,k3,_,Xl,S,T,?_,by simp;omega,HO5,?_,HB5,by simp,by simp[QB],HD,rfl⟩
    ·show(zj (Za l) c.super).length<=b;omega
    ·intro g hg;exact(HO4.out.lt g hg).2
set_option maxRecDepth 512
def QdP(l:List qa)(n:Str):Nat:=if Zp l≠0 then Zp l else if (Qb (Za l) n).isSome then 0 else 3
structure Zi (w0 w:World) (B:Nat) (l:List qa):Prop where
 map:zo w0 w B (Za l)
 right:zh l
 faults:∀c∈l,qf c=0
theorem Zi.faces{A w:World}{B:Nat}{l:List qa}(h:Zi A w B l):∀c∈Za l,c.faces.length<=8:=qcx h.faults
theorem Zi.step{A w w':World}{B:Nat}{l:List qa}(h:Zi A w B l)(C:Below w.heap.size w w'):Zi A w' B l:=⟨h.map.step C,h.right,h.faults⟩
theorem zh.small{l:List qa}(h:zh l):(Za l).length<=12:=by have:=h.length;unfold Za;simp;omega
theorem Zeo(a:Str)(l:List Str)(x:Str):Q4 (a::l) x=(decide (a=x)||Q4 l x):=rfl
theorem qeo(l:List Str)(k:Nat)(a x:Str)(h:l[k]? = some a):Q4 (l.drop k) x=(decide (a=x)||Q4 (l.drop (k+1)) x):=by
 obtain⟨A,rfl⟩:=List.getElem?_eq_some_iff.1 h;rw[List.drop_eq_getElem_cons A,Zeo]
theorem Zfj(l:List Str)(v:Value)(x:Str)(w:World)(h:Zo w v l):Calls Tryz.prog 18 #[v,.string x] w fun e w'=>e=.returned (.bool (Q4 l x))/\w=w':=by
 obtain⟨p,cap,rfl,P,R,C⟩:=h.open;have N:=Xh C;have I:l.length<=9223372036854775807:=Xf P R;clear h C;go_enter Tryz.func18,Tryz.ntmps18;go_wp2_with fail;go_loopw [5] (fun i wr=>∃k:Nat,k<=l.length/\Hid (Q4 (l.drop k) x=Q4 l x)/\w=wr/\i=.int .i64 k) (fun i _=>l.length-(intOf i).toNat)
 case atStart=>exact⟨0,by omega,rfl,rfl,rfl⟩
 case round =>
  obtain⟨k,T,D,rfl,rfl⟩:=hrel;by_cases F:k<l.length
  ·obtain⟨a,E⟩:∃a,l[k]? = some a:=⟨l[k],by simp[F]⟩;obtain⟨b,o,vs,rfl,L,_,M⟩:=N.out k a E;unfold Qs at L;subst L;have O:=M.1;rw[Nat.mul_one]at O;have A:=qeo l k a x E;rw[D.out,<-zaj]at A;have S:=Xh E;clear E M;cases J:a.toList==x.toList with
   |true =>
    rw[J,Bool.true_or]at A;have G:=Xh A;clear A;go_wp2_with fail;go_ret;exact⟨by rw[G.out];rfl,rfl⟩
   |false =>
    rw[J,Bool.false_or]at A;have H:=Xh A.symm;clear A;go_wp2_with fail;go_roundw;case rel=>exact⟨k+1,by omega,H.out,by simp,by simp⟩
    case measure=>simp[intOf];omega
  ·obtain rfl:k=l.length:=(by omega);have B:Q4 l x=false:=(by rw[<-D.out,Xg Xl];rfl);have G:=Xh B;clear B;go_wp2_with fail;go_ret;exact⟨by rw[G.out];rfl,rfl⟩
theorem zdN(a b:List Str)(_hl:a.length=b.length)(k:Nat)(x y:Str)(B:a[k]? = some x)(C:b[k]? = some y):decide (a.drop k=b.drop k)=(decide (x=y)&&decide (a.drop (k+1)=b.drop (k+1))):=by
 obtain⟨D,rfl⟩:=List.getElem?_eq_some_iff.1 B;obtain⟨A,rfl⟩:=List.getElem?_eq_some_iff.1 C;rw[List.drop_eq_getElem_cons D,List.drop_eq_getElem_cons A,Bool.eq_iff_iff];simp only[decide_eq_true_eq,Bool.and_eq_true,List.cons.injEq]
theorem zbI{cs:List qa}{f:Nat}{x:Str}(h:(Ze cs x).super.size≠0):qak cs (f+1) x=x::qak cs f (Ze cs x).super:=by
 rw[qak,if_neg h]
theorem ZbI{cs:List qa}{f:Nat}{x:Str}(h:(Ze cs x).super.size=0):qak cs f x=[x]:=by
 cases f with
 |zero=>rfl
 |succ f=>rw[qak,if_pos h]
theorem zh.fuel2{l:List qa}(h:zh l):∀(f g:Nat) (x:Str),(Qb (Za l) x).isSome=true->(zj (Za l) x).length<=f->(zj (Za l) x).length<=g->qak (Za l) f x=qak (Za l) g x:=by
 intro f;induction f with
 |zero =>
  intro g x B G _;have:=List.length_pos_of_mem (qp h.closed B).2.1;omega
 |succ f H =>
  intro g x B G I;have D:=List.length_pos_of_mem (qp h.closed B).2.1;by_cases A:(Ze (Za l) x).super.size=0
  ·rw[ZbI A,ZbI A]
  ·obtain⟨C,E⟩:=h.up B A;obtain⟨F,rfl⟩:∃k,g=k+1:=⟨g-1,by omega⟩;rw[zbI A,zbI A,H F _ C (by omega) (by omega)]
theorem zh.fuel{l:List qa}(h:zh l)(f:Nat)(x:Str)(A:(Qb (Za l) x).isSome=true)(B:(zj (Za l) x).length<=f):qak (Za l) f x=Zl (Za l) x :=
 h.fuel2 f _ x A B Xl
theorem zh.line_up{l:List qa}(h:zh l){x:Str}(D:(Qb (Za l) x).isSome=true)(C:(Ze (Za l) x).super.size≠0):Zl (Za l) x=x::Zl (Za l) (Ze (Za l) x).super:=by
 obtain⟨A,E⟩:=h.up D C;obtain⟨k,B⟩:∃k,(zj (Za l) x).length=k+1:=⟨(zj (Za l) x).length-1,by omega⟩;unfold Zl;rw[B,zbI C];congr 1;exact h.fuel k _ A (by omega)
theorem zh.line_top{l:List qa}{x:Str}(A:(Ze (Za l) x).super.size=0):Zl (Za l) x=[x]:=by
 unfold Zl;rw[ZbI A]
theorem zh.top{l:List qa}(h:zh l){x:Str}(E:(Qb (Za l) x).isSome=true)(A:(Ze (Za l) x).super.size=0):x=Zg:=by
 by_cases D:x=Zg
 ·exact D
 ·exfalso;obtain⟨s,_,B⟩:=h.super E D;rcases B with⟨rfl,_⟩|⟨c,B,rfl⟩
  ·have:Ze (Za l) Ql=Zad:=by
    unfold Ze;rw[show Qb (Za l) Ql=some Zad from h.find (c:=Zad) (by simp[Za])];rfl
   rw[this]at A;exact absurd A (by decide)
  ·have:Ze (Za l) c.name=c:=by
    unfold Ze;rw[h.find (c:=c) (by simp[Za,B])];rfl
   rw[this]at A;have C:=h.joined c B;unfold qE at C;rw[if_pos A]at C;cases C
theorem zh.line_facts{l:List qa}(h:zh l):∀(k:Nat) (x:Str),(Qb (Za l) x).isSome=true->(zj (Za l) x).length<=k ->
 (∀y∈Zl (Za l) x,y∈zj (Za l) x)/\∃t,Zl (Za l) x=t++[Zg]:=by
 intro k;induction k with
 |zero =>
  intro x A M;have:=List.length_pos_of_mem (qp h.closed A).2.1;omega
 |succ k P =>
  intro x A M;obtain⟨R,F,G,S⟩:=qp h.closed A;by_cases C:(Ze (Za l) x).super.size=0
  ·rw[zh.line_top C];refine⟨fun y B=>?_,[],by rw[h.top A C];rfl⟩;simp at B;subst B;exact F
  ·obtain⟨D,I⟩:=h.up A C;have H:(Ze (Za l) x).super∈Zz (Za l) x:=(by unfold Zz Ze at *;rw[if_neg C];simp);obtain⟨J,t,L⟩:=P _ D (by omega);rw[h.line_up A C];refine⟨fun y B=>?_,x::t,by rw[L];rfl⟩;rcases List.mem_cons.1 B with rfl|B
   ·exact F
   ·have E:=J y B;exact(qp h.closed D).2.2.2 (fun z=>z∈zj (Za l) x) (fun z N a O=>G z N a O) (G x F _ H) y E
theorem Qco(n s:Str)(A B C:Value)(b:Bool)(w:World):(Instr.field 31 (.agg #[.string n,.string s,A,.bool b,B,C]) 3).run Tryz.prog w=.ok (.bool b) w:=by kernel_rfl
theorem qbP(n s:Str)(A B:Value)(p:Option Addr)(k c:Nat)(b:Bool)(w:World):(Instr.field 31 (.agg #[.string n,.string s,A,.bool b,.slice p k c,B]) 4).run Tryz.prog w=.ok (.slice p k c) w:=by kernel_rfl
theorem zcH(n s:Str)(A B:Value)(p:Option Addr)(k c:Nat)(b:Bool)(w:World):(Instr.field 31 (.agg #[.string n,.string s,A,.bool b,B,.slice p k c]) 5).run Tryz.prog w=.ok (.slice p k c) w:=by kernel_rfl
end Go.Proofs.YtmclocdhcblbiaaGreatDoor
