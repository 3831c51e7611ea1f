/- Lemmas; conditions: as each states. -/
import Derived.Test.YtmclocdhcblbiaaGreatDoorRefMay
import Derived.Test.YtmclocdhcblbiaaGreatDoorFrameOps
import Derived.LaidEql
set_option maxHeartbeats 4000000
namespace Go.Proofs.YtmclocdhcblbiaaGreatDoor
open Go.RowKit Go.Shelf Go.Lib
theorem qcV{w:World}{b:Nat}:∀{vs:List Value} {o:Nat},(∀i v,vs[i]? = some v->w.cell? ⟨b,o+i,none⟩=some v)->QB w b o vs
 |[],_,_=>trivial
 |v::r,o,h=>⟨h 0 v rfl,qcV fun i x A=>by
  have:=h (i+1) x (by simpa using A);rwa [show o+(i+1)=o+1+i by omega]at this⟩
theorem Qes(w:World)(cs:Array Value)(t:TypeId):QH w (w.alloc (.cells cs t)) cs.toList :=
 ⟨Xb.alloc Xl _,by simp,qcV fun i v h=>by
  rw[cell_of_row (w.alloc (.cells cs t)) w.heap.size (0+i) cs t (0,0) (heap_alloc_new _ _),Nat.zero_add];simpa using h⟩
def Qbf(w:World)(c:qa)(is:Bool)(e:Ending)(w':World):Prop :=
 ∃pf kf pd kd pm km,e=.returned (.tuple #[.agg #[.string c.name,.string c.super,.slice pf c.faces.length kf,.bool c.face,.slice pd c.fields.length kd,.slice pm c.methods.length km],.bool is]) /\
  Zo w' (.slice pf c.faces.length kf) c.faces/\qe w' 2 zI (.slice pd c.fields.length kd) c.fields/\qe w' 8 (Zt w') (.slice pm c.methods.length km) c.methods/\Below w.heap.size w w' /\
  (c.faces=[]\/∀g,(Value.slice pf c.faces.length kf).ownBlock=some g->g<w.heap.size)
theorem qaD{w w':World}{n s:Str}{A:Bool}(B:Below w.heap.size w w'):Qbf w { qg with name:=n,super:=s } A (.returned (.tuple #[.agg #[.string n,.string s,.slice none 0 0,.bool false,.slice none 0 0,.slice none 0 0],.bool A])) w' :=
 ⟨none,0,none,0,none,0,rfl,Or.inl ⟨rfl,rfl⟩,Or.inl ⟨rfl,rfl⟩,Or.inl ⟨rfl,rfl⟩,B,Or.inl rfl⟩
theorem Zcf{w w':World}(A:Below w.heap.size w w'):Qbf w qg false (.returned (.tuple #[.agg #[.string ⟨#[]⟩,.string ⟨#[]⟩,.slice none 0 0,.bool false,.slice none 0 0,.slice none 0 0],.bool false])) w' :=
 qaD (n:=.empty) (s:=.empty) A
theorem zet(l:List qa)(n:Str):Qb (Za l) n=if n=Zg then some ZU else if n=Ql then some Zad else Qb l n:=by
 rw[show Za l=ZU::Zad::l from rfl,QdR];rfl
theorem zdS(l:List qa)(k:Nat)(c:qa)(n:Str)(h:l[k]? = some c):Qb (l.drop k) n=if c.name=n then some c else Qb (l.drop (k+1)) n:=by
 obtain⟨B,rfl⟩:=List.getElem?_eq_some_iff.1 h;rw[List.drop_eq_getElem_cons B];unfold Qb;by_cases A:l[k].name=n
 ·rw[if_pos A,List.find?_cons_of_pos (by simpa using A)]
 ·rw[if_neg A,List.find?_cons_of_neg (by simpa using A)]
set_option maxRecDepth 100000
theorem qcz(l:List qa)(f:Value)(n:Str)(w:World)(D:QJ w f l):
 Calls Tryz.prog 37 #[f,.string n] w (Qbf w ((Qb (Za l) n).getD qg) (Qb (Za l) n).isSome):=by
 obtain⟨pl,cap,rfl,Z,a,E⟩:=D.open;have i:l.length<=9223372036854775807:=Xf Z a;have A:=zet l n;by_cases G:n=Zg
 ·rw[if_pos G]at A;subst G;rw[A];have H:(ByteArray.toList Zg==[79,98,106,101,99,116])=true:=by rw[ByteArray.toList_eq];rfl
  clear A E D;go_enter Tryz.func37,Tryz.ntmps37;go_wp2
  exact bodyPost_ret (v:=.tuple #[.agg #[.string Zg,.string ⟨#[]⟩,.slice none 0 0,.bool false,.slice none 0 0,.slice none 0 0],.bool true]) (by simp[results,Tryz.results37,go_sem]) rfl (qaD (n:=Zg) (s:=.empty) (Xb.alloc Xl _))
 ·rw[if_neg G]at A;have r:(n.toList==[79,98,106,101,99,116])=false:=by
   rw[show([79,98,106,101,99,116]:List UInt8)=Zg.toList by rw[ByteArray.toList_eq];rfl,zaj];simpa using G
  by_cases J:n=Ql
  ·rw[if_pos J]at A;subst J;rw[A];have H:(ByteArray.toList Ql==[70,97,117,108,116])=true:=(by rw[ByteArray.toList_eq];rfl);clear A E D G;go_enter Tryz.func37,Tryz.ntmps37;go_wp2
   exact bodyPost_ret (v:=.tuple #[.agg #[.string Ql,.string Zg,.slice none 0 0,.bool false,.slice none 0 0,.slice none 0 0],.bool true]) (by simp[results,Tryz.results37,go_sem];rfl) rfl (qaD (n:=Ql) (s:=Zg) (Xb.alloc Xl _))
  ·rw[if_neg J]at A;rw[A];have t:(n.toList==[70,97,117,108,116])=false:=by
    rw[show([70,97,117,108,116]:List UInt8)=Ql.toList by rw[ByteArray.toList_eq];rfl,zaj];simpa using J
   have P:=Xh E;clear A E D G J;go_enter Tryz.func37,Tryz.ntmps37;go_wp2_with fail;go_loopw [6] (fun x wr=>∃k:Nat,k<=l.length/\Hid (Qb (l.drop k) n=Qb l n)/\(w.alloc (.cells #[.string ⟨#[]⟩,.string ⟨#[]⟩,.slice none 0 0,.bool false,.slice none 0 0,.slice none 0 0] 31))=wr/\x=.int .i64 k) (fun x _=>l.length-(intOf x).toNat)
   case atStart=>exact⟨0,by omega,rfl,rfl,rfl⟩
   case round =>
    obtain⟨k,hk,C,rfl,rfl⟩:=hrel;have y:Below w.heap.size w (w.alloc (.cells #[.string ⟨#[]⟩,.string ⟨#[]⟩,.slice none 0 0,.bool false,.slice none 0 0,.slice none 0 0] 31)):=Xb.alloc Xl _;by_cases U:k<l.length
    ·obtain⟨x,R⟩:∃x,l[k]? = some x:=⟨l[k],by simp[U]⟩;obtain⟨b,o,vs,rfl,⟨fv,dv,mv,rfl,O,S,T⟩,_,L⟩:=P.out k x R;have z:=L.lt;have L:=L.mono y L.lt;obtain⟨c0,c1,c2,c3,c4,c5,_⟩:=L;have F:=zdS l k x n R;rw[C.out]at F;have HX:=Xh R;clear R;cases H:x.name.toList==n.toList with
     |true =>
      have B:x.name=n:=(by rw[zaj]at H;simpa using H);rw[if_pos B]at F;rw[F];obtain⟨c,d,rfl,_⟩:=O.open;obtain⟨j,m,rfl,_⟩:=S.open;obtain⟨p,q,rfl,_⟩:=T.open;have V:Hid (x.faces=[]\/∀g,(Value.slice c x.faces.length d).ownBlock=some g->g<w.heap.size):=by
       by_cases M:x.faces=[]
       ·exact Or.inl M
       ·refine Or.inr fun g e=>?_
        obtain⟨g',h1,h2⟩:=Qbw O M;rw[h1]at e;injection e with e;omega
      have K1:Hid (∀wx,Below w.heap.size w wx->_):=fun wx I=>Zo.mono I O
      have K2:Hid (∀wx,Below w.heap.size w wx->_):=fun wx I=>qe.mono I (by decide) (fun _ _ h=>h) S
      have K3:Hid (∀wx,Below w.heap.size w wx->qe wx 8 (Zt wx) _ _):=fun wx I=>qe.mono I (by decide) (fun _ _ h=>h.mono I) T
      clear F C O S T P B;go_wp2_with fail;exact bodyPost_ret (v:=.tuple #[.agg #[.string x.name,.string x.super,.slice c x.faces.length d,.bool x.face,.slice j x.fields.length m,.slice p x.methods.length q],.bool true]) (by simp[results,Tryz.results37,go_sem]) rfl ⟨c,d,j,m,p,q,rfl,K1.out _ (Xb.alloc Xl _),K2.out _ (Xb.alloc Xl _),K3.out _ (Xb.alloc Xl _),Xb.alloc Xl _,V.out⟩
     |false =>
      have B:¬x.name=n:=(by rw[zaj]at H;simpa using H);rw[if_neg B]at F;have X:=Xh F.symm;clear F C O S T P B;go_wp2_with fail;go_roundw;case rel=>exact⟨k+1,by omega,X.out,by simp,by simp⟩
      case measure=>simp[intOf];omega
    ·obtain rfl:k=l.length:=(by omega);have N:Qb l n=none:=(by rw[<-C.out,Xg Xl];rfl);have Y:=Xh N;clear N C P;go_wp2_with fail;exact bodyPost_ret (v:=.tuple #[.agg #[.string ⟨#[]⟩,.string ⟨#[]⟩,.slice none 0 0,.bool false,.slice none 0 0,.slice none 0 0],.bool false]) (by simp[results,Tryz.results37,go_sem]) rfl (by rw[Y.out];exact Zcf (Xb.alloc Xl _))
set_option maxRecDepth 512
def Qd9(w:World)(l:List Str)(e:Ending)(w':World):Prop:=(∃v,e=.returned v/\w'.ownsRow w.heap.size 9 1 v l.length (l.map Value.string))/\Below w.heap.size w w'
theorem Zdv{l:List qa}(h:zh l){n:Str}(A:(Qb (Za l) n).isSome=true):(Zl (Za l) n).length<=13:=by
 have B:=ZaL (Za l) (zj (Za l) n).length n;have C:=(qp h.closed A).1.length;have D:=h.small;unfold Zl;omega
set_option maxRecDepth 100000
theorem Qcz(l:List qa)(v:Value)(Z:zh l):∀(k:Nat) (n:Str) (w:World),QJ w v l->(Qb (Za l) n).isSome=true->(zj (Za l) n).length<=k ->
 Calls Tryz.prog 19 #[v,.string n] w (Qd9 w (Zl (Za l) n)):=by
 intro k;induction k with
 |zero =>
  intro n w _ O hf;have:=List.length_pos_of_mem (qp Z.closed O).2.1;omega
 |succ k ih =>
  intro n w N O hf;have C:=Xh (qcz l v n w N);unfold Qbf at C;have S:Hid (∀wx,Below w.heap.size w wx->QJ wx v l):=fun wx hb=>N.mono hb
  obtain⟨pl,cap,rfl,_⟩:=N.open;rw[O]at C;have a:(Ze (Za l) n).super.toList.isEmpty=decide ((Ze (Za l) n).super.size=0):=qR _;by_cases T:(Ze (Za l) n).super.size=0
  ·rw[zh.line_top T];rw[Xj T]at a;clear ih N O hf T S Z;unfold Ze at a;generalize (Qb (Za l) n).getD qg=d at *;obtain⟨b,c,f,g,h,i⟩:=d;dsimp only at C a;go_enter Tryz.func19,Tryz.ntmps19;go_wp2_with (go_fit C.out;rintro e y⟨D,E,F,G,H,I,rfl,_,_,_,M,_⟩)
   go_ret;have A:=M.alloc M.size (.cells #[.string b,.string c,.slice D f.length E,.bool g,.slice F h.length G,.slice H i.length I] 31);have:=zak (y.alloc (.cells #[.string b,.string c,.slice D f.length E,.bool g,.slice F h.length G,.slice H i.length I] 31)) w.heap.size (.string n) A.size;exact⟨⟨_,rfl,by simpa using this⟩,A.alloc A.size _⟩
  ·obtain⟨V,q⟩:=Z.up O T;have hll:=Zdv Z V;rw[Z.line_up O T];rw[Xi T]at a;have x:Hid (∀wx,Below w.heap.size w wx->_):=fun wx hb=>ih (Ze (Za l) n).super wx (S.out wx hb) V (by omega)
   unfold Qd9 at x;clear ih N O hf T S Z V q;generalize Zl (Za l) (Ze (Za l) n).super=L at *;unfold Ze at a x;generalize (Qb (Za l) n).getD qg=d at *;obtain⟨b,c,f,g,h,i⟩:=d;dsimp only at C a x;have j:1+L.length<=maxLen:=Xf (show 1+L.length<=14 by omega) (by decide);have m:(1+L.length)*16<=140737488355328:=(by omega);have z:=Xh j;have aA:=Xh m;clear j m;go_enter Tryz.func19,Tryz.ntmps19;go_upto_region 2 with(go_fit C.out;rintro e y⟨D,E,F,G,H,I,rfl,_,_,_,M,_⟩)
   have BX:=Qes y #[.string b,.string c,.slice D f.length E,.bool g,.slice F h.length G,.slice H i.length I] 31;have A:=M.alloc M.size (.cells #[.string b,.string c,.slice D f.length E,.bool g,.slice F h.length G,.slice H i.length I] 31);generalize y.alloc (.cells #[.string b,.string c,.slice D f.length E,.bool g,.slice F h.length G,.slice H i.length I] 31)=Y at *;obtain⟨q0,q1,q2,q3,q4,q5⟩:=QaH BX;have o:=zak Y Y.heap.size (.string n) Xl;have p:Below Y.heap.size Y (Y.alloc (.cells #[.string n] 9)):=Xb.alloc Xl _;have q:=BX.size;have aB:=Qa A Xl p;go_wp2_with (first
    |(go_fit (x.out _ aB);rintro e w10⟨⟨v10,rfl,t⟩,R⟩;(have r:=Qi t);(have B:=zP o R);(have J:=Qa p Xl R))
    |(at_builtin;(refine QO rfl _ _ rfl Y.heap.size _ _ _ rfl B _ L rfl r z.out aA.out J.size ?_);intro v6 w6 X P _))
   go_ret;have s:Below w.heap.size w w6:=Qa A Xl (J.grown P J.size (fun k O=>(B.lt k O).1));have U:w6.ownsRow Y.heap.size 9 1 v6 (n::L).length ((n::L).map Value.string):=(by simpa[Nat.add_comm] using X);exact⟨⟨_,rfl,QbN U A.size⟩,s⟩
set_option maxRecDepth 512
end Go.Proofs.YtmclocdhcblbiaaGreatDoor
