/- Lemmas; conditions: as each states. -/
import Derived.Test.YtmclocdhcblbiaaGreatDoorZRead
set_option maxHeartbeats 4000000
namespace Go.Proofs.YtmclocdhcblbiaaGreatDoor
open Go.RowKit Go.Shelf Go.Lib Tryz
theorem zdS(C:List Str):∀A:List Str,∃t,qaB A C=A++t/\(∀x∈C,x∈A++t)/\(∀x∈t,x∈C):=by
 induction C with
 |nil =>
  intro A;refine⟨[],by simp[qaB],?_,?_⟩
  ·intro x B;cases B
  ·intro x B;cases B
 |cons a r G =>
  intro A;rw[zbs];cases H:zak A a with
  |true =>
   rw[if_pos rfl];obtain⟨t,D,E,F⟩:=G A;refine⟨t,D,fun x B=>?_,fun x B=>List.mem_cons_of_mem _ (F x B)⟩;rcases List.mem_cons.1 B with rfl|B
   ·exact List.mem_append_left _ (QF.1 H)
   ·exact E x B
  |false =>
   rw[if_neg (by decide)];obtain⟨t,D,E,F⟩:=G (A++[a]);refine⟨a::t,by rw[D];simp,fun x B=>?_,fun x B=>?_⟩
   ·rcases List.mem_cons.1 B with rfl|B
    ·simp
    ·have:=E x B;simpa using this
   ·rcases List.mem_cons.1 B with rfl|B
    ·simp
    ·exact List.mem_cons_of_mem _ (F x B)
theorem qaX.addAll{cs:List qa}(B:List Str):∀A:List Str,qaX cs A->(∀x∈B,(Qb cs x).isSome=true)->qaX cs (qaB A B):=by
 induction B with
 |nil=>intro A h _;exact h
 |cons a r E =>
  intro A h C;rw[zbs];cases F:zak A a with
  |true=>rw[if_pos rfl];exact E A h (fun x D=>C x (List.mem_cons_of_mem _ D))
  |false=>rw[if_neg (by decide)];exact E _ (h.add (C a (by simp)) F) (fun x D=>C x (List.mem_cons_of_mem _ D))
theorem zdv{cs:List qa}(J:zaN cs):∀(f i:Nat) (A:List Str),qaX cs A->cs.length+1<=f+i->(∀j x,j<i->A[j]? = some x->∀a∈zw cs x,a∈A) ->
 qaX cs (Zaq (zw cs) f i A)/\(∀x∈A,x∈Zaq (zw cs) f i A)/\(∀x∈Zaq (zw cs) f i A,∀a∈zw cs x,a∈Zaq (zw cs) f i A) /\
  (∀S:Str->Prop,(∀x,S x->∀a∈zw cs x,S a)->(∀x∈A,S x)->∀x∈Zaq (zw cs) f i A,S x):=by
 intro f;induction f with
 |zero =>
  intro i A E b I;refine⟨E,fun x B=>B,fun x B a F=>?_,fun S _ H x B=>H x B⟩;replace B:x∈A:=B;obtain⟨j,D,rfl⟩:=List.getElem_of_mem B;have:=E.length;exact I j _ (by omega) (Xn D) a F
 |succ f d =>
  intro i A E b I;cases B:A[i]? with
  |none =>
   rw[zax B];refine⟨E,fun x B=>B,fun x O a F=>?_,fun S _ H x B=>H x B⟩;obtain⟨j,D,rfl⟩:=List.getElem_of_mem O;rw[List.getElem?_eq_none_iff]at B;exact I j _ (by omega) (Xn D) a F
  |some x =>
   rw[qaZ B];obtain⟨t,N,H,U⟩:=zdS (zw cs x) A;have L:=E.known x (Xe B);obtain⟨V,X,Y,Z⟩:=d (i+1) (qaB A (zw cs x)) (qaX.addAll _ _ E (J x L)) (by omega) (by
    intro j y c C a F;rw[N]at C ⊢;have T:=(List.getElem?_eq_some_iff.1 B).1;rw[List.getElem?_append_left (by omega)]at C;by_cases M:j<i
    ·exact List.mem_append_left _ (I j y M C a F)
    ·obtain rfl:j=i:=(by omega);rw[B]at C;injection C with C;subst C
     exact H a F)
   refine⟨V,fun y C=>X y (by rw[N];exact List.mem_append_left _ C),Y,fun S P R y C=>Z S P (fun z G=>?_) y C⟩;rw[N]at G;rcases List.mem_append.1 G with G|G
   ·exact R z G
   ·exact P x (R x (Xe B)) z (U z G)
theorem Zo{cs:List qa}(A:zaN cs){n:Str}(C:(Qb cs n).isSome=true):
 qaX cs (qi cs n)/\n∈qi cs n/\(∀x∈qi cs n,∀a∈zw cs x,a∈qi cs n) /\
  (∀S:Str->Prop,(∀x,S x->∀a∈zw cs x,S a)->S n->∀x∈qi cs n,S x):=by
 obtain⟨D,E,F,G⟩:=zdv A (cs.length+1) 0 [n] (qaX.one C) (by omega) (fun j x L=>by omega);exact⟨D,E n (by simp),F,fun S H I x J=>G S H (fun y B=>by simp at B;subst B;exact I) x J⟩
structure Qg (l:List qa):Prop where
 nodup:((Za l).map (·.name)).Nodup
 closed:zaN (Za l)
 joined:∀c∈l,zF (Za l) c=0
 round:∀c∈l,QaB (Za l) c.name=false
 length:l.length<=10
theorem ZdS:∀(r a:List qa),((Za a).map (·.name)).Nodup->Zi ZG a r=0->((Za (a++r)).map (·.name)).Nodup:=by
 intro r;induction r with
 |nil=>intro a D _;simpa using D
 |cons c r F =>
  intro a D h;rw[Zi]at h;by_cases A:ZG c a=0
  ·rw[if_pos A]at h;have B:Qb (Za a) c.name=none:=by
    unfold ZG at A;by_cases C:Qf c≠0
    ·rw[if_pos C]at A;exact absurd A C
    ·rw[if_neg C]at A;cases E:Qb (Za a) c.name with
     |none=>rfl
     |some d=>rw[E]at A;cases A
   have:=F (a++[c]) (by
    have:=Qbb D B;simpa[Za] using this) h
   simpa using this
  ·rw[if_neg A]at h;exact absurd h A
theorem QaK{l:List qa}(h:zj l=0):Qg l:=by
 unfold zj at h;split at h
 ·cases h
 ·rename_i G;split at h
  ·rename_i C;exact absurd h C
  ·rename_i C;split at h
   ·rename_i D;exact absurd h D
   ·rename_i D;split at h
    ·cases h
    ·rename_i F;have A:Zi ZG [] l=0:=(by simpa using C);have B:Zh (zF (Za l)) l=0:=(by simpa using D);have E:=qal B;refine⟨by simpa using ZdS l [] Zbs A,QcV E,E,?_,by omega⟩;rw[Bool.not_eq_true,List.any_eq_false]at F;intro c H;simpa using F c H
theorem Qg.find{l:List qa}(h:Qg l){c:qa}(A:c∈Za l):Qb (Za l) c.name=some c:=by
 obtain⟨i,B,rfl⟩:=List.getElem_of_mem A;unfold Qb;rw[List.find?_eq_some_iff_getElem];refine⟨by simp,i,B,rfl,fun j C=>?_⟩;have:=List.pairwise_iff_getElem.1 h.nodup j i (by simp;omega) (by simp;omega) C;simpa using this
theorem Qg.super{l:List qa}(h:Qg l){n:Str}(D:(Qb (Za l) n).isSome=true)(E:n≠zh):∃s,s∈zw (Za l) n/\(n=qm/\s=zh\/∃c∈l,c.name=n):=by
 obtain⟨c,A,rfl⟩:=QaS D;have C:=h.find A;unfold Za at A;rcases List.mem_cons.1 A with rfl|A
 ·exact absurd rfl E
 ·rcases List.mem_cons.1 A with rfl|A
  ·refine⟨zh,?_,Or.inl ⟨rfl,rfl⟩⟩;unfold zw;rw[C];simp[Zam,qg,zh];decide
  ·refine⟨c.super,?_,Or.inr ⟨c,A,rfl⟩⟩;have B:=h.joined c A;unfold zw;rw[C];simp only[Option.getD_some];have:c.super.size≠0:=by
    intro F;unfold zF at B;rw[if_pos F]at B;cases B
   rw[if_neg this];simp
theorem zen{α:Type}[DecidableEq α]{l m:List α}{a:α}(B:l.Nodup)(C:∀x∈l,x∈m)(D:a∈m)(E:a∉l):l.length<m.length:=by
 have:=zaR (a::l) m (List.nodup_cons.2 ⟨E,B⟩) (fun x A=>by
  rcases List.mem_cons.1 A with rfl|A
  ·exact D
  ·exact C x A)
 simp only[List.length_cons]at this;omega
def Qd(cs:List qa)(n:Str):qa:=(Qb cs n).getD qg
def Zah(cs:List qa):Nat->Str->List Str
 |0,n=>[n]
 |k+1,n=>if (Qd cs n).super.size=0 then [n] else n::Zah cs k (Qd cs n).super
def zm(cs:List qa)(n:Str):List Str:=Zah cs (qi cs n).length n
theorem QbJ(cs:List qa)(k:Nat)(n:Str):Zah cs k n=n::(Zah cs k n).drop 1:=by
 cases k with
 |zero=>rfl
 |succ k=>rw[Zah];split<;>rfl
theorem Qg.up{l:List qa}(h:Qg l){n:Str}(D:(Qb (Za l) n).isSome=true)(L:(Qd (Za l) n).super.size≠0):
 (Qb (Za l) (Qd (Za l) n).super).isSome=true/\(qi (Za l) (Qd (Za l) n).super).length<(qi (Za l) n).length:=by
 have E:(Qd (Za l) n).super∈zw (Za l) n:=by unfold zw Qd at *;rw[if_neg L];simp
 have B:=h.closed _ D _ E;refine⟨B,?_⟩;obtain⟨S,N,O,T⟩:=Zo h.closed D;obtain⟨R,U,V,P⟩:=Zo h.closed B;have F:=O n N _ E;refine zen R.nodup (P _ (fun x J a C=>O x J a C) F) N ?_;intro A;by_cases M:n=zh
 ·subst M;exact L (by simp[Qd,Qb,Za,Z8,qg])
 ·obtain⟨s,_,I⟩:=h.super D M;rcases I with⟨rfl,_⟩|⟨c,I,rfl⟩
  ·have:(Qd (Za l) qm).super=zh:=by
    unfold Qd;rw[show Qb (Za l) qm=some Zam from h.find (c:=Zam) (by simp[Za])];rfl
   rw[this]at A;have G:=P (fun x=>x=zh) (fun x J a C=>by
    subst J;exfalso;unfold zw at C;rw[show Qb (Za l) zh=some Z8 from h.find (c:=Z8) (by simp[Za])]at C;simp[Z8,qg]at C) this
   have:=G qm (by rw[this];exact A);exact absurd this (by decide)
  ·have H:=h.round c I;unfold QaB at H;rw[List.any_eq_false]at H;have:=H _ E;rw[QF.2 A]at this;exact this rfl
theorem ZeQ{w:World}{b:Nat}{A B C D E F:Value}(h:qw w b 0 [A,B,C,D,E,F]):
 w.cell? ⟨b,0,none⟩=some A/\w.cell? ⟨b,1,none⟩=some B/\w.cell? ⟨b,2,none⟩=some C/\w.cell? ⟨b,3,none⟩=some D/\w.cell? ⟨b,4,none⟩=some E/\w.cell? ⟨b,5,none⟩=some F:=by
 obtain⟨G,H,I,J,L,M,_⟩:=h;exact⟨G,H,I,J,L,M⟩
theorem qw.block{w w':World}{b:Nat}(A:w'.heap[b]? = w.heap[b]?):∀{vs:List Value} {o:Nat},qw w b o vs->qw w' b o vs
 |[],_,_=>trivial
 |_::_,o,⟨B,C⟩=>⟨(World.cell?_of_block (w:=w) (a:=⟨b,o,none⟩) A).trans B,C.block A⟩
theorem qeQ{cs:List qa}{f:Nat}{x:Str}(h:(Qd cs x).super.size≠0):(Zah cs (f+1) x).drop 1=Zah cs f (Qd cs x).super:=by
 rw[Zah,if_neg h];rfl
theorem Zen{cs:List qa}{f:Nat}{x:Str}(h:(Qd cs x).super.size=0):(Zah cs f x).drop 1=[]:=by
 cases f with
 |zero=>rfl
 |succ f=>rw[Zah,if_pos h];rfl
set_option maxRecDepth 100000
theorem qa7(w0 w:World)(B:Nat)(l:List qa)(h:Qg l)(hm:Qn w0 w B (Za l))(n:Str)(i:(Qb (Za l) n).isSome=true):
 Calls prog 67 #[.map (some B),.string n] w fun e w'=>(∃v,e=.returned v/\w'.ownsRow w.heap.size 9 1 v (zm (Za l) n).length ((zm (Za l) n).map Value.string))/\Below w.heap.size w w':=by
 obtain⟨i0,hi,hz0,hz1,hz2⟩:=info_parts Zae;have j:Hid (∀n:Str,(Qb (Za l) n).isSome=true->_):=fun n hn=>hm.look3 h.nodup n (hm.names hn)
 have hUp:Hid (∀n:Str,(Qb (Za l) n).isSome=true->(Qd (Za l) n).super.size≠0->_):=fun n h1 h2=>h.up h1 h2
 have h12:(Za l).length<=12:=by have:=h.length;unfold Za;simp;omega
 have hEv:Hid (∀n:Str,(Qb (Za l) n).isSome=true->(qi (Za l) n).length<=12):=fun n hn=>Xf (Zo h.closed hn).1.length h12
 have M:(w.alloc (.cells #[.string n] 9)).ownsRow w.heap.size 9 1 (.slice (some ⟨w.heap.size,0,none⟩) 1 1) 1 [.string n]:=ZaK w w.heap.size (.string n) Xl;obtain⟨U,V,X,Y,Z,a,_,_,_,G⟩:=j.out n i;have m:=(G _ (Xb.alloc Xl (.cells #[.string n] 9))).2;have HK:=Xh i;clear hm h G i;have o:(Qb (Za l) n).getD qg=Qd (Za l) n:=rfl;rw[o]at m;have hcn:=Xh (rfl:Qd (Za l) n=Qd (Za l) n);generalize aB:Qd (Za l) n=c0 at m hcn;obtain⟨n0,s0,f0,b0,d0,m0⟩:=c0;have p:=Xh aB;clear aB o;unfold Zu at m;dsimp only at m;go_enter func67,ntmps67;go_wp2_with fail;go_loopg [5,6] 13 (fun gg v y wr=>∃(x:Str) (f:Nat) (A:List Str) (N:Nat) (U:Option Addr) (V:Nat) (X:Option Addr) (Y:Nat) (Z:Option Addr) (a:Nat) (c:qa),f<=gg/\Hid (A++(Zah (Za l) f x).drop 1=zm (Za l) n)/\Hid ((Qb (Za l) x).isSome=true)/\Hid ((qi (Za l) x).length<=f)/\A.length+f<=13/\wr.ownsRow w.heap.size 9 1 v A.length (A.map Value.string)/\(∀g,v.ownBlock=some g->g<N)/\Below w.heap.size w wr/\N<wr.heap.size/\qw wr N 0 [.string c.name,.string c.super,.slice U c.faces.length V,.bool c.face,.slice X c.fields.length Y,.slice Z c.methods.length a]/\Hid (Qd (Za l) x=c)/\y=.pointer (some ⟨N,0,none⟩))
 case atStart =>
  have h1:=hEv.out n HK.out;refine⟨n,(qi (Za l) n).length,[n],w.heap.size+1,U,V,X,Y,Z,a,_,by omega,?_,HK,Xl,by simp;omega,M.alloc _,?_,ZJ _ _ _,by simp,by simp[qw],p,by simp⟩
  ·unfold zm;rw[List.singleton_append,<-QbJ];rfl
  ·intro g hg;obtain rfl:w.heap.size=g:=(by injection hg);exact Nat.lt_succ_self _
 case round =>
  clear M m p HK;obtain⟨x,f,A,N,U,V,X,Y,Z,a,c,hfg,HR,HKx,HE,hlen,C,H,hB,hbc,Zd,z,rfl⟩:=hrel;obtain⟨va,vc,rfl⟩:=Ze C;obtain⟨z0,z1,z2,z3,z4,z5⟩:=ZeQ Zd;have ze:c.super.toList.isEmpty=decide (c.super.size=0):=QZ c.super;by_cases P:c.super.size=0
  ·rw[Xj P]at ze;have q:Hid (A=zm (Za l) n):=by
    rw[<-HR.out,Zen (by rw[z.out];exact P),List.append_nil];rfl
   have HO:=Xh C;clear P C Zd H HR;go_wp2_with fail;go_ret;exact⟨⟨_,rfl,by rw[<-q.out];exact HO.out⟩,hB⟩
  ·rw[Xi P]at ze;obtain⟨T,aA⟩:=hUp.out x HKx.out (by rw[z.out];exact P);rw[z.out]at T aA;have hE:=HE.out;obtain⟨b,rfl⟩:∃b,f=b+1:=⟨f-1,by omega⟩;have R:=HR.out;rw[qeQ (by rw[z.out];exact P),z,QbJ]at R;have S:Hid ((A++[c.super])++(Zah (Za l) b c.super).drop 1=zm (Za l) n):=by
    rw[List.append_assoc];exact R
   obtain⟨p1,k1,p2,k2,p3,k3,_,_,_,G⟩:=j.out c.super T;have c2:∀u∈[Value.string c.super],u.oneCell'=true:=fun u hu=>by simp at hu;subst hu;rfl
   have c3:A.length+1<=maxLen:=Xf (show A.length+1<=14 by omega) (by decide);have c4:(A.length+1)*16<=140737488355328:=(by omega);have r:=hB.alloc hB.size (.cells #[.string c.super] 9);have c5:=r.size;have HO:=Xh C;have HS:=Xh H;have HCe:=Xh Zd;have HLK:=Xh G;clear G H Zd P HR R;go_upto_region 6 with(at_builtin;(refine wpList_append_own_at _ rfl _ _ 27 rfl w.heap.size 9 i0 (.string .empty) 1 16 underlying27 hi hz0 hz1 hz2 rfl (by decide) _ _ _ rfl (C.alloc _) ⟨wr.heap.size,0,none⟩ 1 1 [.string c.super] rfl rfl (cell_one_new _ _ _) c2 c3 c4 c5 ?_);intro v3 w3 I E _ hat3)
   have D:w3.ownsRow w.heap.size 9 1 v3 (A++[c.super]).length ((A++[c.super]).map Value.string):=(by simpa using I);have J:Below w.heap.size w w3:=r.grown E c5 (fun k i=>(HO.out.lt k i).1);have s:qw w3 N 0 [.string c.name,.string c.super,.slice U c.faces.length V,.bool c.face,.slice X c.fields.length Y,.slice Z c.methods.length a]:=by
    refine qw.block (E.block N (by simp;omega) (fun he=>?_)) (HCe.out.mono (Xb.alloc Xl _) hbc);have:=HS.out N he.symm;omega
   obtain⟨y0,y1,y2,y3,y4,y5⟩:=ZeQ s;have L:=(HLK.out _ (J.alloc J.size (.cells #[.string c.name,.string c.super,.slice U c.faces.length V,.bool c.face,.slice X c.fields.length Y,.slice Z c.methods.length a] 31))).2;have t:(Qb (Za l) c.super).getD qg=Qd (Za l) c.super:=rfl;rw[t]at L;generalize O:Qd (Za l) c.super=d at L;have HD:=Xh O;obtain⟨n2,s2,f2,b2,d2,m2⟩:=d;clear O t;unfold Zu at L;dsimp only at L;have F:=D.alloc (.cells #[.string n2,.string s2,.slice p1 f2.length k1,.bool b2,.slice p2 d2.length k2,.slice p3 m2.length k3] 31);have HB5:=Xh (J.alloc J.size (.cells #[.string n2,.string s2,.slice p1 f2.length k1,.bool b2,.slice p2 d2.length k2,.slice p3 m2.length k3] 31));have HO5:=Xh F;have HO4:=Xh D;clear F D I s z0 z1 z2 z3 z4 z5 C;go_wp2_with fail;go_roundg b
   case measure=>omega
   case rel =>
    refine⟨c.super,b,A++[c.super],w3.heap.size,p1,k1,p2,k2,p3,k3,_,Xl,S,T,?_,by simp;omega,HO5,?_,HB5,by simp,by simp[qw],HD,rfl⟩
    ·show(qi (Za l) c.super).length<=b;omega
    ·intro g hg;exact(HO4.out.lt g hg).2
def zy(l:List qa)(n:Str):Nat:=if zj l≠0 then zj l else if (Qb (Za l) n).isSome then 0 else 3
structure QeQ (w0:World) (l:List qa) (n:Str) (w:World) (B:Nat):Prop where
 map:Qn w0 w B (Za l)
 right:Qg l
 faults:∀c∈l,Qf c=0
 known:(Qb (Za l) n).isSome=true
structure qh (w0 w:World) (B:Nat) (l:List qa):Prop where
 map:Qn w0 w B (Za l)
 right:Qg l
 faults:∀c∈l,Qf c=0
theorem qh.faces{A w:World}{B:Nat}{l:List qa}(h:qh A w B l):∀c∈Za l,c.faces.length<=8:=zcz h.faults
theorem qh.step{A w w':World}{B:Nat}{l:List qa}(h:qh A w B l)(C:Below w.heap.size w w'):qh A w' B l:=⟨h.map.step C,h.right,h.faults⟩
theorem QeQ.world{A w:World}{B:Nat}{l:List qa}{n:Str}(h:QeQ A l n w B):qh A w B l:=⟨h.map,h.right,h.faults⟩
def qcm(w:World)(l:List qa)(n:Str)(e:Ending)(w':World):Prop :=
 Below w.heap.size w w' /\
 (
  (zy l n=0/\e=.returned (.tuple #[.map (some w.heap.size),.nilIface])/\QeQ w l n w' w.heap.size) \/
  (zy l n≠0/\e=.returned (.tuple #[.map none,.iface 52 (.int .i64 (zy l n))])))
theorem Qd9{w w':World}{l:List qa}{n:Str}{k:Nat}(A:Below w.heap.size w w')(h:zy l n=k)(B:k≠0):qcm w l n (.returned (.tuple #[.map none,.iface 52 (.int .i64 k)])) w':=by
 subst h;exact⟨A,Or.inr ⟨B,rfl⟩⟩
theorem QeI(l:List qa)(O:Value)(n:Str)(w:World)(h:Qax w)(i:∀c∈l,qM c)(D:zx w O l)(j:n.size<=maxLen):
 Calls prog 32 #[O,.string n] w (qcm w l n):=by
 have E:=Xh (zbU l O w h i D);clear h i;obtain⟨r,k,rfl,_⟩:=D.open;clear D;by_cases A:zj l=0
 ·have o:=Xh (QaK A);cases H:(Qb (Za l) n).isSome with
  |true =>
   have I:Hid (zy l n=0):=(by unfold Hid zy;rw[if_neg (by rw[A];decide),H];rfl);have L:=Xh H;have G:=Xh A;clear H A;go_enter func32,ntmps32;go_upto_region 4 with(go_fit E.out;rintro e m⟨C,⟨_,rfl,F,J,N,g,q⟩|⟨A,_⟩⟩;rotate_left;(exact absurd G.out A))
   obtain⟨P,R,S,T,U,V,_,_,_,B,_⟩:=F.look2 J n j;rw[L.out]at B;generalize (Qb (Za l) n).getD qg=d at *;obtain⟨X,Y,Z,a,b,f⟩:=d;unfold Zu at B;dsimp only at B;have M:=Xh (F.step (Xb.alloc Xl (.cells #[.string X,.string Y,.slice P Z.length R,.bool a,.slice S b.length T,.slice U f.length V] 31)));have p:=Xh N;clear F N J g C;go_wp2_with fail;go_ret2;exact⟨M.out.below,Or.inl ⟨I.out,rfl,M,o,p,L⟩⟩
  |false =>
   have I:Hid (zy l n=3):=(by unfold Hid zy;rw[if_neg (by rw[A];decide),H];rfl);have L:=Xh H;have G:=Xh A;clear H A;go_enter func32,ntmps32;go_upto_region 4 with(go_fit E.out;rintro e m⟨C,⟨_,rfl,F,J,N,g,q⟩|⟨A,_⟩⟩;rotate_left;(exact absurd G.out A))
   obtain⟨P,R,S,T,U,V,_,_,_,B,_⟩:=F.look2 J n j;rw[L.out]at B;generalize (Qb (Za l) n).getD qg=d at *;obtain⟨X,Y,Z,a,b,f⟩:=d;unfold Zu at B;dsimp only at B;have M:=Xh (F.step (Xb.alloc Xl (.cells #[.string X,.string Y,.slice P Z.length R,.bool a,.slice S b.length T,.slice U f.length V] 31)));clear F N J g C;go_wp2_with fail;go_ret2;exact Qd9 M.out.below I.out (by decide)
 ·have I:Hid (zy l n=zj l):=by unfold Hid zy;rw[if_pos A]
  have G:=Xh A;clear A;go_enter func32,ntmps32;go_wp2_with (go_fit E.out;rintro e m⟨C,⟨A,_⟩|⟨_,rfl⟩⟩;(exact absurd A G.out))
  go_ret2;exact Qd9 C I.out G.out
theorem Qg.small{l:List qa}(h:Qg l):(Za l).length<=12:=by have:=h.length;unfold Za;simp;omega
theorem Zcz(l:List qa)(F:Value)(w:World)(H:Qax w)(I:∀c∈l,qM c)(B:zx w F l):
 Calls prog 8 #[F] w fun e w'=>e=.returned (Qx (zj l))/\Below w.heap.size w w':=by
 have D:=Xh (zbU l F w H I B);obtain⟨M,J,rfl,_⟩:=B.open;clear H I B;rcases zB (zj l) with⟨E,A⟩|⟨E,A⟩
 ·rw[E];have G:=Xh A;clear E A;go_enter func8,ntmps8;go_wp2_with (go_fit D.out;rintro e L⟨C,⟨_,rfl,_⟩|⟨A,_⟩⟩;rotate_left;(exact absurd G.out A))
  go_ret;exact⟨rfl,C⟩
 ·rw[E];have G:=Xh A;clear E A;go_enter func8,ntmps8;go_wp2_with (go_fit D.out;rintro e L⟨C,⟨A,_⟩|⟨_,rfl⟩⟩;(exact absurd A G.out))
  go_ret;exact⟨rfl,C⟩
theorem QdP(a b:List Str)(_hl:a.length=b.length)(k:Nat)(x y:Str)(B:a[k]? = some x)(C:b[k]? = some y):decide (a.drop k=b.drop k)=(decide (x=y)&&decide (a.drop (k+1)=b.drop (k+1))):=by
 obtain⟨D,rfl⟩:=List.getElem?_eq_some_iff.1 B;obtain⟨A,rfl⟩:=List.getElem?_eq_some_iff.1 C;rw[List.drop_eq_getElem_cons D,List.drop_eq_getElem_cons A,Bool.eq_iff_iff];simp only[decide_eq_true_eq,Bool.and_eq_true,List.cons.injEq]
theorem zbK{cs:List qa}{f:Nat}{x:Str}(h:(Qd cs x).super.size≠0):Zah cs (f+1) x=x::Zah cs f (Qd cs x).super:=by
 rw[Zah,if_neg h]
theorem ZbK{cs:List qa}{f:Nat}{x:Str}(h:(Qd cs x).super.size=0):Zah cs f x=[x]:=by
 cases f with
 |zero=>rfl
 |succ f=>rw[Zah,if_pos h]
theorem Qg.fuel2{l:List qa}(h:Qg l):∀(f g:Nat) (x:Str),(Qb (Za l) x).isSome=true->(qi (Za l) x).length<=f->(qi (Za l) x).length<=g->Zah (Za l) f x=Zah (Za l) g x:=by
 intro f;induction f with
 |zero =>
  intro g x B G _;have:=List.length_pos_of_mem (Zo h.closed B).2.1;omega
 |succ f H =>
  intro g x B G I;have D:=List.length_pos_of_mem (Zo h.closed B).2.1;by_cases A:(Qd (Za l) x).super.size=0
  ·rw[ZbK A,ZbK A]
  ·obtain⟨C,E⟩:=h.up B A;obtain⟨F,rfl⟩:∃k,g=k+1:=⟨g-1,by omega⟩;rw[zbK A,zbK A,H F _ C (by omega) (by omega)]
theorem Qg.fuel{l:List qa}(h:Qg l)(f:Nat)(x:Str)(A:(Qb (Za l) x).isSome=true)(B:(qi (Za l) x).length<=f):Zah (Za l) f x=zm (Za l) x :=
 h.fuel2 f _ x A B Xl
theorem Qg.line_up{l:List qa}(h:Qg l){x:Str}(D:(Qb (Za l) x).isSome=true)(C:(Qd (Za l) x).super.size≠0):zm (Za l) x=x::zm (Za l) (Qd (Za l) x).super:=by
 obtain⟨A,E⟩:=h.up D C;obtain⟨k,B⟩:∃k,(qi (Za l) x).length=k+1:=⟨(qi (Za l) x).length-1,by omega⟩;unfold zm;rw[B,zbK C];congr 1;exact h.fuel k _ A (by omega)
theorem Qg.line_top{l:List qa}{x:Str}(A:(Qd (Za l) x).super.size=0):zm (Za l) x=[x]:=by
 unfold zm;rw[ZbK A]
theorem Qg.top{l:List qa}(h:Qg l){x:Str}(E:(Qb (Za l) x).isSome=true)(A:(Qd (Za l) x).super.size=0):x=zh:=by
 by_cases D:x=zh
 ·exact D
 ·exfalso;obtain⟨s,_,B⟩:=h.super E D;rcases B with⟨rfl,_⟩|⟨c,B,rfl⟩
  ·have:Qd (Za l) qm=Zam:=by
    unfold Qd;rw[show Qb (Za l) qm=some Zam from h.find (c:=Zam) (by simp[Za])];rfl
   rw[this]at A;exact absurd A (by decide)
  ·have:Qd (Za l) c.name=c:=by
    unfold Qd;rw[h.find (c:=c) (by simp[Za,B])];rfl
   rw[this]at A;have C:=h.joined c B;unfold zF at C;rw[if_pos A]at C;cases C
theorem Qg.line_facts{l:List qa}(h:Qg l):∀(k:Nat) (x:Str),(Qb (Za l) x).isSome=true->(qi (Za l) x).length<=k ->
 (∀y∈zm (Za l) x,y∈qi (Za l) x)/\∃t,zm (Za l) x=t++[zh]:=by
 intro k;induction k with
 |zero =>
  intro x A M;have:=List.length_pos_of_mem (Zo h.closed A).2.1;omega
 |succ k P =>
  intro x A M;obtain⟨R,F,G,S⟩:=Zo h.closed A;by_cases C:(Qd (Za l) x).super.size=0
  ·rw[Qg.line_top C];refine⟨fun y B=>?_,[],by rw[h.top A C];rfl⟩;simp at B;subst B;exact F
  ·obtain⟨D,I⟩:=h.up A C;have H:(Qd (Za l) x).super∈zw (Za l) x:=(by unfold zw Qd at *;rw[if_neg C];simp);obtain⟨J,t,L⟩:=P _ D (by omega);rw[h.line_up A C];refine⟨fun y B=>?_,x::t,by rw[L];rfl⟩;rcases List.mem_cons.1 B with rfl|B
   ·exact F
   ·have E:=J y B;exact(Zo h.closed D).2.2.2 (fun z=>z∈qi (Za l) x) (fun z N a O=>G z N a O) (G x F _ H) y E
theorem qcq(n s:Str)(A B C:Value)(b:Bool)(w:World):(Instr.field 31 (.agg #[.string n,.string s,A,.bool b,B,C]) 3).run prog w=.ok (.bool b) w:=by kernel_rfl
theorem ZbR(n s:Str)(A B:Value)(p:Option Addr)(k c:Nat)(b:Bool)(w:World):(Instr.field 31 (.agg #[.string n,.string s,A,.bool b,.slice p k c,B]) 4).run prog w=.ok (.slice p k c) w:=by kernel_rfl
theorem ZcI(n s:Str)(A B:Value)(p:Option Addr)(k c:Nat)(b:Bool)(w:World):(Instr.field 31 (.agg #[.string n,.string s,A,.bool b,B,.slice p k c]) 5).run prog w=.ok (.slice p k c) w:=by kernel_rfl
